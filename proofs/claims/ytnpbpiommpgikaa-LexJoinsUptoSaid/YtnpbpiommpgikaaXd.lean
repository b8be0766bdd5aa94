/- The contract of surdref14.Join; both of lexed tokens. -/
import Derived.Test.YtnpbpiommpgikaaXc
set_option linter.unusedVariables false
set_option linter.unusedSimpArgs false
namespace Go.Proofs.Ytnpbpiommpgikaa.Vc
open Go Go.RowKit
theorem rJoin_z (f : Bool) (l : List TokZ) (hl : l.length < 4294967296) (hb : (jn false l).size ≤ 140737488355328) : Spec Try.prog 25 [.l f 3 (l.map rowZ)] (fun o => o = .ret (.s (jn false l))) := by
  refine spec_of' [(0, .l f 3 (l.map rowZ))] rfl Try.func25 rfl (Nat.le_of_ble_eq_true rfl) fun Γ hN hds hL hR => ?_
  have hd : ∀ d, Nat.blt d 35 = true → d < Γ.N := fun d h => by rw [hN]; exact Nat.le_of_ble_eq_true h
  have hm : (l.map rowZ).length = l.length := by simp
  refine jc_seq ?_
  refine jc_region ?_
  refine jo_l (ly_as rfl) (hd 2 rfl) ?_
  refine jo_nil ?_
  refine jc_seq ?_
  refine jc_region ?_
  refine jo_l (ly_as rfl) (hd 3 rfl) ?_
  refine jo_nil ?_
  refine jc_seq ?_
  refine jc_seq ?_
  refine jc_region ?_
  refine jo_l (ly_mv rfl) (hd 6 rfl) ?_
  refine jo_l (ly_lenl sl44 rfl) (hd 7 rfl) ?_
  refine jo_l (ly_mv rfl) (hd 8 rfl) ?_
  refine jo_nil ?_
  refine jc_block ?_
  refine jc_loopD (G := Nat × ByteArray) 0 (fun g => g.1 ≤ l.length ∧ g.2 ++ jn (pw l g.1) (l.drop g.1) = jn false l) (fun g => [(3, .s g.2), (8, .i .i64 (g.1 : Int)), (4, .u), (5, .u), (9, .u), (10, .u), (11, .u), (12, .u), (13, .u), (14, .u), (15, .u), (16, .u), (17, .u), (18, .u), (19, .u), (20, .u), (21, .u), (22, .u), (23, .u), (24, .u), (25, .u), (26, .u), (27, .u), (28, .u), (29, .u), (30, .u), (31, .u), (32, .u), (33, .u)]) (fun g => []) (fun g => l.length - g.1) (0, .empty) ?_ ?_ rfl hR rfl (fun _ _ => rfl) (fun g hg => .nil) ?_
  · exact ⟨Nat.zero_le _, by rw [ba_nil']; rfl⟩
  · exact (.cons rfl (.cons rfl (.u (.u (.u (.u (.u (.u (.u (.u (.u (.u (.u (.u (.u (.u (.u (.u (.u (.u (.u (.u (.u (.u (.u (.u (.u (.u (.u .nil)))))))))))))))))))))))))))))
  · rintro ⟨i, acc⟩ ⟨hc1, hc2⟩
    dsimp only at hc1 hc2
    refine jc_seq ?_
    refine jc_region ?_
    refine jo_l (ly_lt rfl rfl) (hd 9 rfl) ?_
    refine jo_nil ?_
    refine jc_seq ?_
    refine jc_if rfl (fun h1 => ?_) (fun h1 => ?_)
    · have hil : i < l.length := by
        have h0 : (i : Int) < ((l.map rowZ).length : Int) := by assumption
        omega
      obtain ⟨t, ht⟩ : ∃ t, l[i]? = some t := ⟨_, List.getElem?_eq_getElem hil⟩
      have hsz := app_le hc2
      refine jc_skip ?_
      refine jc_seq ?_
      refine jc_block ?_
      refine jc_seq ?_
      refine jc_region ?_
      refine jo_l (ly_mv rfl) (hd 10 rfl) ?_
      refine jo_l (ly_ial (i := i) (row := [.i .i64 t.1, .s t.2.1, .i .i64 t.2.2]) sl44 rfl rfl rfl (by rw [List.getElem?_map, ht]; rfl)) (hd 11 rfl) ?_
      refine jo_l (ly_ldqa agg40 rfl rfl rfl) (hd 12 rfl) ?_
      refine jo_h (hy_alloc (id := 0) zero40 (by decide) rfl (by decide) rfl) (hd 5 rfl) ?_
      refine jo_l (ly_as rfl) (hd 4 rfl) ?_
      refine jo_st (sy_store rfl rfl rfl siz40 rfl rfl (Nat.le_of_ble_eq_true rfl)) ?_
      refine jo_nil ?_
      refine jc_meetH (G := ByteArray) (fun a => a ++ (t.2.1 ++ jn (pw l (i + 1)) (l.drop (i + 1))) = jn false l) (fun a => [(3, .s a), (13, .u), (14, .u), (15, .u), (16, .u), (17, .u), (18, .u), (19, .u), (20, .u), (21, .u), (22, .u), (23, .u), (24, .u), (25, .u), (26, .u), (27, .u), (28, .u)]) ?_ ?_
      · refine jc_seq ?_
        refine jc_region ?_
        refine jo_l (ly_mv rfl) (hd 13 rfl) ?_
        refine jo_l (ly_gt rfl rfl) (hd 14 rfl) ?_
        refine jo_l (ly_mv rfl) (hd 15 rfl) ?_
        refine jo_ifp 15 rfl (fun h2 => ?_) (fun h2 => ?_)
        · obtain ⟨t0, ht0⟩ : ∃ t0, l[i - 1]? = some t0 := ⟨_, List.getElem?_eq_getElem (by omega)⟩
          have hp : pw l i = isW t0.1 := pw_at (by omega) ht0
          refine jo_g 15 rfl rfl (ly_lda agg40 rfl rfl rfl rfl) (hd 16 rfl) ?_
          refine jo_callg Try.f41 15 rfl rfl (word_s t.1 t.2.1 t.2.2) rfl Try.func41 rfl rfl (ovL_cons rfl ovL_nil) (.cons (.a1 .i (.a1 .s (.a1 .i .a0))) .nil) (hd 17 rfl) ?_ (fun ch hp => by simp at hp)
          rintro y hy; injection hy with hy; subst hy
          refine jo_l (ly_pick_t rfl rfl) (hd 18 rfl) ?_
          refine jo_l (ly_mv rfl) (hd 19 rfl) ?_
          refine jo_split 19 rfl (fun h3 => ?_) (fun h3 => ?_)
          · refine jo_g 19 rfl rfl (ly_mv rfl) (hd 20 rfl) ?_
            refine jo_g 19 rfl rfl (ly_mv rfl) (hd 21 rfl) ?_
            refine jo_g 19 rfl rfl (ly_sub rfl rfl (wrap_i64 (by omega) (by omega))) (hd 22 rfl) ?_
            refine jo_g 19 rfl rfl (ly_ial (i := i - 1) (row := [.i .i64 t0.1, .s t0.2.1, .i .i64 t0.2.2]) sl44 rfl rfl (by omega) (by rw [List.getElem?_map, ht0]; rfl)) (hd 23 rfl) ?_
            refine jo_g 19 rfl rfl (ly_ldqa agg40 rfl rfl rfl) (hd 24 rfl) ?_
            refine jo_callg Try.f41 19 rfl rfl (word_s t0.1 t0.2.1 t0.2.2) rfl Try.func41 rfl rfl (ovL_cons rfl ovL_nil) (.cons (.a1 .i (.a1 .s (.a1 .i .a0))) .nil) (hd 25 rfl) ?_ (fun ch hp => by simp at hp)
            rintro y hy; injection hy with hy; subst hy
            refine jo_l (ly_pick_t rfl rfl) (hd 26 rfl) ?_
            refine jo_nil ?_
            refine jc_cond rfl (fun h4 => ?_) (fun h4 => ?_)
            · refine jc_region ?_
              refine jo_l (ly_mv rfl) (hd 27 rfl) ?_
              refine jo_l (ly_adds rfl rfl (by have h9 := app_le (jn_b ht (hp.trans (by assumption)) (by assumption) hc2); rw [size_sp] at h9; show ((acc.size + 1 : Nat) : Int) ≤ (9223372036854775807 : Int); omega)) (hd 28 rfl) ?_
              refine jo_l (ly_as rfl) (hd 3 rfl) ?_
              refine jo_nil ?_
              refine ⟨acc ++ sp1, ?_, rfl, cov_n 19 rfl rfl ?_⟩
              · exact jn_b ht (hp.trans (by assumption)) (by assumption) hc2
              · exact (.cons rfl (.u (.u (.u (.u (.u (.u (.u (.u (.u (.u (.u (.u (.u (.u (.u (.u .nil)))))))))))))))))
            · refine jc_skip ?_
              refine ⟨acc, ?_, rfl, cov_n 16 rfl rfl ?_⟩
              · exact jn_p ht (by rw [hp]; simp_all) hc2
              · exact (.cons rfl (.u (.u (.u (.u (.u (.u (.u (.u (.u (.u (.u (.u (.u (.u (.u (.u .nil)))))))))))))))))
          · refine jo_s 19 rfl rfl rfl (hd 20 rfl) ?_
            refine jo_s 19 rfl rfl rfl (hd 21 rfl) ?_
            refine jo_s 19 rfl rfl rfl (hd 22 rfl) ?_
            refine jo_s 19 rfl rfl rfl (hd 23 rfl) ?_
            refine jo_s 19 rfl rfl rfl (hd 24 rfl) ?_
            refine jo_s 19 rfl rfl rfl (hd 25 rfl) ?_
            refine jo_l (ly_pick_f rfl rfl) (hd 26 rfl) ?_
            refine jo_nil ?_
            refine jc_litf rfl ?_
            refine jc_skip ?_
            refine ⟨acc, ?_, rfl, cov_n 16 rfl rfl ?_⟩
            · exact jn_p ht (by rw [hp]; simp_all) hc2
            · exact (.cons rfl (.u (.u (.u (.u (.u (.u (.u (.u (.u (.u (.u (.u (.u (.u (.u (.u .nil)))))))))))))))))
        · have hp : pw l i = false := pw_0 (by omega)
          refine jo_s 15 rfl rfl rfl (hd 16 rfl) ?_
          refine jo_s 15 rfl rfl rfl (hd 17 rfl) ?_
          refine jo_l (ly_pick_f rfl rfl) (hd 18 rfl) ?_
          refine jo_l (ly_mv rfl) (hd 19 rfl) ?_
          refine jo_s 19 rfl rfl rfl (hd 20 rfl) ?_
          refine jo_s 19 rfl rfl rfl (hd 21 rfl) ?_
          refine jo_s 19 rfl rfl rfl (hd 22 rfl) ?_
          refine jo_s 19 rfl rfl rfl (hd 23 rfl) ?_
          refine jo_s 19 rfl rfl rfl (hd 24 rfl) ?_
          refine jo_s 19 rfl rfl rfl (hd 25 rfl) ?_
          refine jo_l (ly_pick_f rfl rfl) (hd 26 rfl) ?_
          refine jo_nil ?_
          refine jc_litf rfl ?_
          refine jc_skip ?_
          refine ⟨acc, ?_, rfl, cov_n 15 rfl rfl ?_⟩
          · exact jn_p ht (by rw [hp]; simp_all) hc2
          · exact (.cons rfl (.u (.u (.u (.u (.u (.u (.u (.u (.u (.u (.u (.u (.u (.u (.u (.u .nil)))))))))))))))))
      · rintro acc2 hm1
        have hsz2 := app_le2 hm1
        refine jc_region ?_
        refine jo_l (ly_mv rfl) (hd 29 rfl) ?_
        refine jo_l (ly_fa fld40_1 rfl rfl rfl) (hd 30 rfl) ?_
        refine jo_l (ly_ld one9 rfl rfl rfl) (hd 31 rfl) ?_
        refine jo_l (ly_adds rfl rfl (by show _ ≤ (9223372036854775807 : Int); omega)) (hd 32 rfl) ?_
        refine jo_l (ly_as rfl) (hd 3 rfl) ?_
        refine jo_nil ?_
        refine jc_region ?_
        refine jo_l (ly_add rfl rfl (wrap_i64 (by omega) (by omega))) (hd 33 rfl) ?_
        refine jo_l (ly_mv rfl) (hd 8 rfl) ?_
        refine jo_nil ?_
        refine ⟨(i + 1, acc2 ++ t.2.1), ?_, ?_, rfl, cov_n 59 rfl rfl ?_⟩
        · exact ⟨by omega, by rw [ByteArray.append_assoc]; exact hm1⟩
        · show l.length - (i + 1) < l.length - i
          omega
        · exact (.cons rfl (.cons rfl (.u (.u (.u (.u (.u (.u (.u (.u (.u (.u (.u (.u (.u (.u (.u (.u (.u (.u (.u (.u (.u (.u (.u (.u (.u (.u (.u .nil)))))))))))))))))))))))))))))
    · have hil : l.length ≤ i := by
        have h0 : ¬ (i : Int) < ((l.map rowZ).length : Int) := by assumption
        omega
      have hJ := jn_end hil hc2
      refine jc_exit ?_
      refine jc_seq ?_
      refine jc_region ?_
      refine jo_l (ly_mv rfl) (hd 34 rfl) ?_
      refine jo_l (ly_as rfl) (hd 2 rfl) ?_
      refine jo_nil ?_
      refine jc_ret ?_
      refine ⟨_, _, (.cons rfl .nil), .s, ?_⟩
      rw [hJ]

theorem Join_t (f : Bool) (l : List Tok) (hl : l.length < 4294967296) (hb : (jnT l).size ≤ 140737488355328) : Spec Try.prog 24 [.l f 3 (l.map tokRow)] (fun o => o = .ret (.s (jnT l))) := by
  have h := Join_z f (l.map toZ) (by rw [List.length_map]; exact hl) hb
  rwa [toZ_rows] at h
theorem rJoin_t (f : Bool) (l : List Tok) (hl : l.length < 4294967296) (hb : (jnT l).size ≤ 140737488355328) : Spec Try.prog 25 [.l f 3 (l.map tokRow)] (fun o => o = .ret (.s (jnT l))) := by
  have h := rJoin_z f (l.map toZ) (by rw [List.length_map]; exact hl) hb
  rwa [toZ_rows] at h
end Go.Proofs.Ytnpbpiommpgikaa.Vc
