/- The contracts of lex.worded, word, lex.Join. -/
import Derived.Test.YtnpbpiommpgikaaXb
import Derived.Test.YtnpbpiommpgikaaMc
set_option linter.unusedVariables false
set_option linter.unusedSimpArgs false
namespace Go.Proofs.Ytnpbpiommpgikaa.Vc
open Go Go.RowKit
theorem worded_s (k : Int) (t : ByteArray) (p : Int) : Spec Try.prog 37 [.a [.i .i64 k, .s t, .i .i64 p]] (fun o => o = .ret (.b (isW k))) := by
  refine spec_of' [(0, .a [.i .i64 k, .s t, .i .i64 p])] rfl Try.func37 rfl (Nat.le_of_ble_eq_true rfl) fun Γ hN hds hL hR => ?_
  have hd : ∀ d, Nat.blt d 11 = true → d < Γ.N := fun d h => by rw [hN]; exact Nat.le_of_ble_eq_true h
  refine jc_seq ?_
  refine jc_region ?_
  refine jo_h (hy_box (id := 0) (n := 3) rfl rfl rfl (by decide) rfl) (hd 1 rfl) ?_
  refine jo_l (ly_as rfl) (hd 2 rfl) ?_
  refine jo_nil ?_
  refine jc_seq ?_
  refine jc_region ?_
  refine jo_l (ly_fa fld30_0 rfl rfl rfl) (hd 3 rfl) ?_
  refine jo_l (ly_ld one28 rfl rfl rfl) (hd 4 rfl) ?_
  refine jo_l (ly_eq rfl rfl) (hd 5 rfl) ?_
  refine jo_l (ly_mv rfl) (hd 6 rfl) ?_
  refine jo_ifp 6 rfl (fun h1 => ?_) (fun h1 => ?_)
  · refine jo_s 6 rfl rfl rfl (hd 7 rfl) ?_
    refine jo_s 6 rfl rfl rfl (hd 8 rfl) ?_
    refine jo_s 6 rfl rfl rfl (hd 9 rfl) ?_
    refine jo_l (ly_pick_t rfl rfl) (hd 10 rfl) ?_
    refine jo_l (ly_as rfl) (hd 2 rfl) ?_
    refine jo_nil ?_
    refine jc_ret ?_
    refine ⟨_, _, (.cons rfl .nil), .b, ?_⟩
    unfold isW; first | (simp_all; done) | (simp_all; omega)
  · refine jo_g 6 rfl rfl (ly_fa fld30_0 rfl rfl rfl) (hd 7 rfl) ?_
    refine jo_g 6 rfl rfl (ly_ld one28 rfl rfl rfl) (hd 8 rfl) ?_
    refine jo_g 6 rfl rfl (ly_eq rfl rfl) (hd 9 rfl) ?_
    refine jo_l (ly_pick_f rfl rfl) (hd 10 rfl) ?_
    refine jo_l (ly_as rfl) (hd 2 rfl) ?_
    refine jo_nil ?_
    refine jc_ret ?_
    refine ⟨_, _, (.cons rfl .nil), .b, ?_⟩
    unfold isW; first | (simp_all; done) | (simp_all; omega)

theorem word_s (k : Int) (t : ByteArray) (p : Int) : Spec Try.prog 41 [.a [.i .i64 k, .s t, .i .i64 p]] (fun o => o = .ret (.b (isW k))) := by
  refine spec_of' [(0, .a [.i .i64 k, .s t, .i .i64 p])] rfl Try.func41 rfl (Nat.le_of_ble_eq_true rfl) fun Γ hN hds hL hR => ?_
  have hd : ∀ d, Nat.blt d 11 = true → d < Γ.N := fun d h => by rw [hN]; exact Nat.le_of_ble_eq_true h
  refine jc_seq ?_
  refine jc_region ?_
  refine jo_h (hy_box (id := 0) (n := 3) rfl rfl rfl (by decide) rfl) (hd 1 rfl) ?_
  refine jo_l (ly_as rfl) (hd 2 rfl) ?_
  refine jo_nil ?_
  refine jc_seq ?_
  refine jc_region ?_
  refine jo_l (ly_fa fld40_0 rfl rfl rfl) (hd 3 rfl) ?_
  refine jo_l (ly_ld one3 rfl rfl rfl) (hd 4 rfl) ?_
  refine jo_l (ly_eq rfl rfl) (hd 5 rfl) ?_
  refine jo_l (ly_mv rfl) (hd 6 rfl) ?_
  refine jo_ifp 6 rfl (fun h1 => ?_) (fun h1 => ?_)
  · refine jo_s 6 rfl rfl rfl (hd 7 rfl) ?_
    refine jo_s 6 rfl rfl rfl (hd 8 rfl) ?_
    refine jo_s 6 rfl rfl rfl (hd 9 rfl) ?_
    refine jo_l (ly_pick_t rfl rfl) (hd 10 rfl) ?_
    refine jo_l (ly_as rfl) (hd 2 rfl) ?_
    refine jo_nil ?_
    refine jc_ret ?_
    refine ⟨_, _, (.cons rfl .nil), .b, ?_⟩
    unfold isW; first | (simp_all; done) | (simp_all; omega)
  · refine jo_g 6 rfl rfl (ly_fa fld40_0 rfl rfl rfl) (hd 7 rfl) ?_
    refine jo_g 6 rfl rfl (ly_ld one3 rfl rfl rfl) (hd 8 rfl) ?_
    refine jo_g 6 rfl rfl (ly_eq rfl rfl) (hd 9 rfl) ?_
    refine jo_l (ly_pick_f rfl rfl) (hd 10 rfl) ?_
    refine jo_l (ly_as rfl) (hd 2 rfl) ?_
    refine jo_nil ?_
    refine jc_ret ?_
    refine ⟨_, _, (.cons rfl .nil), .b, ?_⟩
    unfold isW; first | (simp_all; done) | (simp_all; omega)

theorem Join_z (f : Bool) (l : List TokZ) (hl : l.length < 4294967296) (hb : (jn false l).size ≤ 140737488355328) : Spec Try.prog 24 [.l f 3 (l.map rowZ)] (fun o => o = .ret (.s (jn false l))) := by
  refine spec_of' [(0, .l f 3 (l.map rowZ))] rfl Try.func24 rfl (Nat.le_of_ble_eq_true rfl) fun Γ hN hds hL hR => ?_
  have hd : ∀ d, Nat.blt d 33 = true → d < Γ.N := fun d h => by rw [hN]; exact Nat.le_of_ble_eq_true h
  have hm : (l.map rowZ).length = l.length := by simp
  refine jc_seq ?_
  refine jc_region ?_
  refine jo_l (ly_as rfl) (hd 2 rfl) ?_
  refine jo_nil ?_
  refine jc_seq ?_
  refine jc_region ?_
  refine jo_h (hy_alloc (id := 0) zero73 (by decide) rfl (by decide) rfl) (hd 3 rfl) ?_
  refine jo_nil ?_
  refine jc_seq ?_
  refine jc_seq ?_
  refine jc_own0c (id := 0) (nid := 1) 1 5 1 rfl rfl rfl ?_
  refine jc_region ?_
  refine jo_l (ly_mv rfl) (hd 6 rfl) ?_
  refine jo_l (ly_lenl sl25 rfl) (hd 7 rfl) ?_
  refine jo_l (ly_mv rfl) (hd 8 rfl) ?_
  refine jo_nil ?_
  refine jc_block ?_
  refine jc_loopD (G := Nat × Nat × ByteArray × V) 2 (fun g => g.1 ≤ l.length ∧ g.2.2.1 ++ jn (pw l g.1) (l.drop g.1) = jn false l ∧ (g.2.2.2 = .c (.pointer none) ∨ g.2.2.2 = .p 0 0 0)) (fun g => [(8, .i .i64 (g.1 : Int)), (4, .u), (5, .u), (9, .u), (10, .u), (11, .u), (12, .u), (13, .u), (14, .u), (15, .u), (16, .u), (17, .u), (18, .u), (19, .u), (20, .u), (21, .u), (22, .u), (23, .u), (24, .u), (25, .u), (26, .u), (27, .u), (28, .u), (29, .u), (30, .u), (31, .u)]) (fun g => [⟨73, 2, 0, true, [g.2.2.2, .o 1 g.2.1 0 g.2.2.1.size]⟩, ⟨5, 1, g.2.1, true, ints .u8 (bytesI g.2.2.1)⟩]) (fun g => l.length - g.1) (0, 0, .empty, .c (.pointer none)) ?_ ?_ rfl hR rfl (fun _ _ => rfl) (fun g hg => .cons (by rcases hg.2.2 with h | h <;> rw [h] <;> rfl) (.cons ints_id .nil)) ?_
  · exact ⟨Nat.zero_le _, by rw [ba_nil']; rfl, .inl rfl⟩
  · exact (.cons rfl (.u (.u (.u (.u (.u (.u (.u (.u (.u (.u (.u (.u (.u (.u (.u (.u (.u (.u (.u (.u (.u (.u (.u (.u (.u .nil))))))))))))))))))))))))))
  · rintro ⟨i, k, acc, c⟩ ⟨hc1, hc2, hc3⟩
    dsimp only at hc1 hc2 hc3
    refine jc_seq ?_
    refine jc_region ?_
    refine jo_l (ly_lt rfl rfl) (hd 9 rfl) ?_
    refine jo_nil ?_
    refine jc_seq ?_
    refine jc_if rfl (fun h1 => ?_) (fun h1 => ?_)
    · have hil : i < l.length := by
        have h0 : (i : Int) < ((l.map rowZ).length : Int) := by assumption
        omega
      obtain ⟨t, ht⟩ : ∃ t, l[i]? = some t := ⟨_, List.getElem?_eq_getElem hil⟩
      have hsz := app_le hc2
      refine jc_skip ?_
      refine jc_seq ?_
      refine jc_block ?_
      refine jc_seq ?_
      refine jc_region ?_
      refine jo_l (ly_mv rfl) (hd 10 rfl) ?_
      refine jo_l (ly_ial (i := i) (row := [.i .i64 t.1, .s t.2.1, .i .i64 t.2.2]) sl25 rfl rfl rfl (by rw [List.getElem?_map, ht]; rfl)) (hd 11 rfl) ?_
      refine jo_l (ly_ldqa agg30 rfl rfl rfl) (hd 12 rfl) ?_
      refine jo_h (hy_alloc (id := 2) zero30 (by decide) rfl (by decide) rfl) (hd 5 rfl) ?_
      refine jo_l (ly_as rfl) (hd 4 rfl) ?_
      refine jo_st (sy_store rfl rfl rfl siz30 rfl rfl (Nat.le_of_ble_eq_true rfl)) ?_
      refine jo_nil ?_
      refine jc_meet (G := Nat × ByteArray × V) (fun a => a.2.1 ++ (t.2.1 ++ jn (pw l (i + 1)) (l.drop (i + 1))) = jn false l ∧ (a.2.2 = .c (.pointer none) ∨ a.2.2 = .p 0 0 0)) (fun a => [(13, .u), (14, .u), (15, .u), (16, .u), (17, .u), (18, .u), (19, .u), (20, .u), (21, .u), (22, .u), (23, .u), (24, .u), (25, .u), (26, .u), (27, .u)]) (fun a => [⟨73, 2, 0, true, [a.2.2, .o 1 a.1 0 a.2.1.size]⟩, ⟨5, 1, a.1, true, ints .u8 (bytesI a.2.1)⟩, ⟨30, 3, 0, true, [.i .i64 t.1, .s t.2.1, .i .i64 t.2.2]⟩]) ?_ ?_
      · refine jc_seq ?_
        refine jc_region ?_
        refine jo_l (ly_mv rfl) (hd 13 rfl) ?_
        refine jo_l (ly_gt rfl rfl) (hd 14 rfl) ?_
        refine jo_l (ly_mv rfl) (hd 15 rfl) ?_
        refine jo_ifp 15 rfl (fun h2 => ?_) (fun h2 => ?_)
        · obtain ⟨t0, ht0⟩ : ∃ t0, l[i - 1]? = some t0 := ⟨_, List.getElem?_eq_getElem (by omega)⟩
          have hp : pw l i = isW t0.1 := pw_at (by omega) ht0
          refine jo_g 15 rfl rfl (ly_mv rfl) (hd 16 rfl) ?_
          refine jo_g 15 rfl rfl (ly_mv rfl) (hd 17 rfl) ?_
          refine jo_g 15 rfl rfl (ly_sub rfl rfl (wrap_i64 (by omega) (by omega))) (hd 18 rfl) ?_
          refine jo_g 15 rfl rfl (ly_ial (i := i - 1) (row := [.i .i64 t0.1, .s t0.2.1, .i .i64 t0.2.2]) sl25 rfl rfl (by omega) (by rw [List.getElem?_map, ht0]; rfl)) (hd 19 rfl) ?_
          refine jo_g 15 rfl rfl (ly_ldqa agg30 rfl rfl rfl) (hd 20 rfl) ?_
          refine jo_callg Try.f37 15 rfl rfl (worded_s t0.1 t0.2.1 t0.2.2) rfl Try.func37 rfl rfl (ovL_cons rfl ovL_nil) (.cons (.a1 .i (.a1 .s (.a1 .i .a0))) .nil) (hd 21 rfl) ?_ (fun ch hp => by simp at hp)
          rintro y hy; injection hy with hy; subst hy
          refine jo_l (ly_pick_t rfl rfl) (hd 22 rfl) ?_
          refine jo_l (ly_mv rfl) (hd 23 rfl) ?_
          refine jo_split 23 rfl (fun h3 => ?_) (fun h3 => ?_)
          · refine jo_g 23 rfl rfl (ly_lda agg30 rfl rfl rfl rfl) (hd 24 rfl) ?_
            refine jo_callg Try.f37 23 rfl rfl (worded_s t.1 t.2.1 t.2.2) rfl Try.func37 rfl rfl (ovL_cons rfl ovL_nil) (.cons (.a1 .i (.a1 .s (.a1 .i .a0))) .nil) (hd 25 rfl) ?_ (fun ch hp => by simp at hp)
            rintro y hy; injection hy with hy; subst hy
            refine jo_l (ly_pick_t rfl rfl) (hd 26 rfl) ?_
            refine jo_nil ?_
            refine jc_cond rfl (fun h4 => ?_) (fun h4 => ?_)
            · refine jc_region ?_
              refine jo_callM Try.f38 (WriteByte_s 0 k acc.size (bytesI acc) [⟨30, 3, 0, true, [.i .i64 t.1, .s t.2.1, .i .i64 t.2.2]⟩] 32 (.cons rfl .nil) (freshless_cons rfl freshless_nil) c hc3 (bytesI_len acc) (by have h9 := app_le (jn_b ht (hp.trans (by assumption)) (by assumption) hc2); rw [size_sp] at h9; omega)) rfl Try.func38 rfl rfl (ovL_cons rfl (ovL_cons rfl ovL_nil)) (.cons (.same rfl) (.cons (.same rfl) .nil)) (freshless_cons (by rcases hc3 with rfl | rfl <;> rfl) (freshless_cons ints_noFr (freshless_cons rfl freshless_nil))) (hd 27 rfl) ?_ (fun ch H2 hp => by simp at hp)
              rintro y H2 ⟨hy, rfl⟩
              injection hy with hy
              subst hy
              refine jo_nil ?_
              refine ⟨(k + 1, acc ++ sp1, .p 0 0 0), ?_, (by first | rfl | (rw [bytesI_sp, ← size_sp])), cov_n 17 rfl rfl ?_⟩
              · exact ⟨jn_b ht (hp.trans (by assumption)) (by assumption) hc2, .inr rfl⟩
              · exact (.u (.u (.u (.u (.u (.u (.u (.u (.u (.u (.u (.u (.u (.u (.u .nil)))))))))))))))
            · refine jc_skip ?_
              refine ⟨(k, acc, c), ?_, (by first | rfl | (rw [bytesI_sp, ← size_sp])), cov_n 16 rfl rfl ?_⟩
              · exact ⟨jn_p ht (by rw [hp]; simp_all) hc2, hc3⟩
              · exact (.u (.u (.u (.u (.u (.u (.u (.u (.u (.u (.u (.u (.u (.u (.u .nil)))))))))))))))
          · refine jo_s 23 rfl rfl rfl (hd 24 rfl) ?_
            refine jo_s 23 rfl rfl rfl (hd 25 rfl) ?_
            refine jo_l (ly_pick_f rfl rfl) (hd 26 rfl) ?_
            refine jo_nil ?_
            refine jc_litf rfl ?_
            refine jc_skip ?_
            refine ⟨(k, acc, c), ?_, (by first | rfl | (rw [bytesI_sp, ← size_sp])), cov_n 16 rfl rfl ?_⟩
            · exact ⟨jn_p ht (by rw [hp]; simp_all) hc2, hc3⟩
            · exact (.u (.u (.u (.u (.u (.u (.u (.u (.u (.u (.u (.u (.u (.u (.u .nil)))))))))))))))
        · have hp : pw l i = false := pw_0 (by omega)
          refine jo_s 15 rfl rfl rfl (hd 16 rfl) ?_
          refine jo_s 15 rfl rfl rfl (hd 17 rfl) ?_
          refine jo_s 15 rfl rfl rfl (hd 18 rfl) ?_
          refine jo_s 15 rfl rfl rfl (hd 19 rfl) ?_
          refine jo_s 15 rfl rfl rfl (hd 20 rfl) ?_
          refine jo_s 15 rfl rfl rfl (hd 21 rfl) ?_
          refine jo_l (ly_pick_f rfl rfl) (hd 22 rfl) ?_
          refine jo_l (ly_mv rfl) (hd 23 rfl) ?_
          refine jo_s 23 rfl rfl rfl (hd 24 rfl) ?_
          refine jo_s 23 rfl rfl rfl (hd 25 rfl) ?_
          refine jo_l (ly_pick_f rfl rfl) (hd 26 rfl) ?_
          refine jo_nil ?_
          refine jc_litf rfl ?_
          refine jc_skip ?_
          refine ⟨(k, acc, c), ?_, (by first | rfl | (rw [bytesI_sp, ← size_sp])), cov_n 15 rfl rfl ?_⟩
          · exact ⟨jn_p ht (by rw [hp]; simp_all) hc2, hc3⟩
          · exact (.u (.u (.u (.u (.u (.u (.u (.u (.u (.u (.u (.u (.u (.u (.u .nil)))))))))))))))
      · rintro ⟨k2, acc2, c2⟩ ⟨hm1, hm2⟩
        dsimp only at hm1 hm2
        have hsz2 := app_le2 hm1
        refine jc_region ?_
        refine jo_l (ly_fa fld30_1 rfl rfl rfl) (hd 28 rfl) ?_
        refine jo_l (ly_ld one9 rfl rfl rfl) (hd 29 rfl) ?_
        refine jo_callM Try.f39 (WriteString_s 0 k2 acc2.size (bytesI acc2) [⟨30, 3, 0, true, [.i .i64 t.1, .s t.2.1, .i .i64 t.2.2]⟩] t.2.1 (.cons rfl .nil) (freshless_cons rfl freshless_nil) c2 hm2 (bytesI_len acc2) (by omega)) rfl Try.func39 rfl rfl (ovL_cons rfl (ovL_cons rfl ovL_nil)) (.cons (.same rfl) (.cons (.same rfl) .nil)) (freshless_cons (by rcases hm2 with rfl | rfl <;> rfl) (freshless_cons ints_noFr (freshless_cons rfl freshless_nil))) (hd 30 rfl) ?_ (fun ch H2 hp => by simp at hp)
        rintro y H2 ⟨hy, rfl⟩
        injection hy with hy
        subst hy
        refine jo_nil ?_
        refine jc_region ?_
        refine jo_l (ly_add rfl rfl (wrap_i64 (by omega) (by omega))) (hd 31 rfl) ?_
        refine jo_l (ly_mv rfl) (hd 8 rfl) ?_
        refine jo_nil ?_
        refine ⟨(i + 1, k2 + 1, acc2 ++ t.2.1, .p 0 0 0), ?_, ?_, (by rw [bytesI_app, ByteArray.size_append]; rfl), cov_n 52 rfl rfl ?_⟩
        · exact ⟨by omega, by rw [ByteArray.append_assoc]; exact hm1, .inr rfl⟩
        · show l.length - (i + 1) < l.length - i
          omega
        · exact (.cons rfl (.u (.u (.u (.u (.u (.u (.u (.u (.u (.u (.u (.u (.u (.u (.u (.u (.u (.u (.u (.u (.u (.u (.u (.u (.u .nil))))))))))))))))))))))))))
    · have hil : l.length ≤ i := by
        have h0 : ¬ (i : Int) < ((l.map rowZ).length : Int) := by assumption
        omega
      have hJ := jn_end hil hc2
      refine jc_exit ?_
      refine jc_seq ?_
      refine jc_region ?_
      have hsz := app_le hc2
      refine jo_callM Try.f40 (String_s 0 k [] .nil c hc3 acc (by omega)) rfl Try.func40 rfl rfl (ovL_cons rfl ovL_nil) (.cons (.same rfl) .nil) (freshless_cons (by rcases hc3 with rfl | rfl <;> rfl) (freshless_cons ints_noFr freshless_nil)) (hd 32 rfl) ?_ (fun ch H2 hp => by simp at hp)
      rintro y H2 ⟨hy, lv, cs, rfl⟩
      injection hy with hy
      subst hy
      have hsz := hJ
      refine jo_l (ly_as rfl) (hd 2 rfl) ?_
      refine jo_nil ?_
      refine jc_ret ?_
      refine ⟨_, _, (.cons rfl .nil), .s, ?_⟩
      rw [hJ]
end Go.Proofs.Ytnpbpiommpgikaa.Vc
