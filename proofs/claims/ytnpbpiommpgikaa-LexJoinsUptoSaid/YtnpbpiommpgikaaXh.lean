/- The contract of surdlaw14.LexJoins. -/
import Derived.Test.YtnpbpiommpgikaaXd
import Derived.Test.YtnpbpiommpgikaaMf
import Derived.Test.YtnpbpiommpgikaaVcU
import Derived.Test.YtnpbpiommpgikaaWh
set_option linter.unusedVariables false
set_option linter.unusedSimpArgs false
namespace Go.Proofs.Ytnpbpiommpgikaa.Vc
open Go Go.RowKit
theorem alike_z (l : List TokZ) (f g : Bool) (hl : l.length < 4294967296) : Spec Try.prog 21 [.l f 3 (l.map rowZ), .l g 3 (l.map rowZ)] (fun o => o = .ret (.b true)) := by
  refine spec_of' [(0, .l f 3 (l.map rowZ)), (1, .l g 3 (l.map rowZ))] rfl Try.func21 rfl (Nat.le_of_ble_eq_true rfl) fun Γ hN hds hL hR => ?_
  have hd : ∀ d, Nat.blt d 27 = true → d < Γ.N := fun d h => by rw [hN]; exact Nat.le_of_ble_eq_true h
  have hm : (l.map rowZ).length = l.length := by simp
  refine jc_seq ?_
  refine jc_region ?_
  refine jo_l (ly_as rfl) (hd 4 rfl) ?_
  refine jo_nil ?_
  refine jc_seq ?_
  refine jc_seq ?_
  refine jc_region ?_
  refine jo_l (ly_mv rfl) (hd 6 rfl) ?_
  refine jo_l (ly_lenl sl25 rfl) (hd 7 rfl) ?_
  refine jo_l (ly_mv rfl) (hd 8 rfl) ?_
  refine jo_l (ly_lenl sl44 rfl) (hd 9 rfl) ?_
  refine jo_l (ly_ff (ly_ne rfl rfl) (by simp)) (hd 10 rfl) ?_
  refine jo_nil ?_
  refine jc_litf rfl ?_
  refine jc_skip ?_
  refine jc_seq ?_
  refine jc_seq ?_
  refine jc_region ?_
  refine jo_l (ly_mv rfl) (hd 11 rfl) ?_
  refine jo_l (ly_lenl sl25 rfl) (hd 12 rfl) ?_
  refine jo_l (ly_mv rfl) (hd 13 rfl) ?_
  refine jo_nil ?_
  refine jc_block ?_
  refine jc_loopF (G := Nat) (fun i => i ≤ l.length) (fun i => [(13, .i .i64 (i : Int)), (4, .u), (5, .u), (14, .u), (15, .u), (16, .u), (17, .u), (18, .u), (19, .u), (20, .u), (21, .u), (22, .u), (23, .u), (24, .u), (25, .u), (26, .u)]) (fun _ => _) (fun i => l.length - i) 0 ?_ ?_ rfl ?_
  · exact Nat.zero_le _
  · exact (.cons rfl (.u (.u (.u (.u (.u (.u (.u (.u (.u (.u (.u (.u (.u (.u (.u .nil))))))))))))))))
  · rintro i hC
    refine jc_seq ?_
    refine jc_region ?_
    refine jo_l (ly_lt rfl rfl) (hd 14 rfl) ?_
    refine jo_nil ?_
    refine jc_seq ?_
    refine jc_if rfl (fun h2 => ?_) (fun h2 => ?_)
    · refine jc_skip ?_
      refine jc_seq ?_
      refine jc_block ?_
      refine jc_seq ?_
      obtain ⟨t, ht⟩ : ∃ t, l[i]? = some t := ⟨_, List.getElem?_eq_getElem (by omega)⟩
      refine jc_region ?_
      refine jo_l (ly_mv rfl) (hd 15 rfl) ?_
      refine jo_l (ly_as rfl) (hd 5 rfl) ?_
      refine jo_nil ?_
      refine jc_seq ?_
      refine jc_draw (n := 10) _ rfl mixed ?_
      refine ja_l 0 (lo_l (ly_mv rfl) (hd 16 rfl)) rfl (by kernel_rfl) (by kernel_rfl) (by kernel_rfl) (fun _ _ _ _ h => h) ?_
      refine ja_l 1 (lo_l (ly_mv rfl) (hd 17 rfl)) rfl (by kernel_rfl) (by kernel_rfl) (by kernel_rfl) (fun _ _ _ _ h => h) ?_
      refine ja_l 2 (lo_l (ly_ial (i := i) (row := rowZ t) sl25 rfl rfl rfl (by rw [List.getElem?_map, ht]; rfl)) (hd 18 rfl)) rfl (by kernel_rfl) (by kernel_rfl) (by kernel_rfl) (fun _ _ _ _ h => h) ?_
      refine ja_l 3 (lo_l (ly_ldqa agg30 rfl rfl rfl) (hd 19 rfl)) rfl (by kernel_rfl) (by kernel_rfl) (by kernel_rfl) (fun _ _ _ _ h => h) ?_
      refine ja_l 4 (lo_l (ly_mv rfl) (hd 20 rfl)) rfl (by kernel_rfl) (by kernel_rfl) (by kernel_rfl) (fun _ _ _ _ h => h) ?_
      refine ja_l 5 (lo_l (ly_mv rfl) (hd 21 rfl)) rfl (by kernel_rfl) (by kernel_rfl) (by kernel_rfl) (fun _ _ _ _ h => h) ?_
      refine ja_l 6 (lo_l (ly_ial (i := i) (row := rowZ t) sl44 rfl rfl rfl (by rw [List.getElem?_map, ht]; rfl)) (hd 22 rfl)) rfl (by kernel_rfl) (by kernel_rfl) (by kernel_rfl) (fun _ _ _ _ h => h) ?_
      refine ja_l 7 (lo_l (ly_ldqa agg40 rfl rfl rfl) (hd 23 rfl)) rfl (by kernel_rfl) (by kernel_rfl) (by kernel_rfl) (fun _ _ _ _ h => h) ?_
      refine ja_1 8 ?_ rfl (by kernel_rfl)
      refine js_call Try.f18 (one_same t.1 t.2.1 t.2.2) rfl Try.func18 rfl rfl (ovL_cons rfl (ovL_cons rfl ovL_nil)) (.cons (.a1 .i (.a1 .s (.a1 .i .a0))) (.cons (.a1 .i (.a1 .s (.a1 .i .a0))) .nil)) (hd 24 rfl) ?_ (fun ch hp => by simp at hp)
      rintro y hy; injection hy with hy; subst hy
      refine ja_l 9 (lo_l (ly_not rfl) (hd 25 rfl)) rfl (by kernel_rfl) (by kernel_rfl) (by kernel_rfl) (fun _ _ _ _ h => h) ?_
      refine ja_nil (by kernel_rfl) ?_
      refine jc_litf rfl ?_
      refine jc_skip ?_
      refine jc_region ?_
      refine jo_l (ly_add rfl rfl (wrap_i64 (by omega) (by omega))) (hd 26 rfl) ?_
      refine jo_l (ly_mv rfl) (hd 13 rfl) ?_
      refine jo_nil ?_
      refine ⟨i + 1, ?_, ?_, rfl, cov_n 31 rfl rfl ?_⟩
      · omega
      · omega
      · exact (.cons rfl (.u (.u (.u (.u (.u (.u (.u (.u (.u (.u (.u (.u (.u (.u (.u .nil))))))))))))))))
    · refine jc_exit ?_
      refine jc_seq ?_
      refine jc_region ?_
      refine jo_l (ly_as rfl) (hd 4 rfl) ?_
      refine jo_nil ?_
      refine jc_ret ?_
      refine ⟨_, _, (.cons rfl .nil), .b, ?_⟩
      exact rfl

theorem LexJoins_s (l : List TokZ) (hl : l.length ≤ 1048576) (hb : (jn false l).size ≤ 140737488355328) : Spec Try.prog 9 [.l false 3 (l.map rowZ)] (fun o => o = .ret (.b true)) := by
  refine spec_of' [(0, .l false 3 (l.map rowZ))] rfl Try.func9 rfl (Nat.le_of_ble_eq_true rfl) fun Γ hN hds hL hR => ?_
  have hd : ∀ d, Nat.blt d 70 = true → d < Γ.N := fun d h => by rw [hN]; exact Nat.le_of_ble_eq_true h
  have hm : (l.map rowZ).length = l.length := by simp
  refine jc_seq ?_
  refine jc_region ?_
  refine jo_l (ly_as rfl) (hd 2 rfl) ?_
  refine jo_nil ?_
  refine jc_seq ?_
  refine jc_region ?_
  refine jo_l (ly_mv rfl) (hd 8 rfl) ?_
  refine jo_l (ly_lenl sl44 rfl) (hd 9 rfl) ?_
  refine jo_l (ly_mv rfl) (hd 10 rfl) ?_
  refine jo_l (ly_lenl sl44 rfl) (hd 11 rfl) ?_
  refine jo_l (ly_add rfl rfl (r := ((l.length + 2 : Nat) : Int)) (by rw [wrap_i64 (by omega) (by omega)]; omega)) (hd 12 rfl) ?_
  refine jo_h (hy_mkS (l := l.length) (m := l.length + 2) (zs := zrow) el25 rfl rfl (by rw [hm]) rfl (by omega) rfl rfl (by omega) (by unfold maxLen; omega) rfl) (hd 13 rfl) ?_
  refine jo_l (ly_as rfl) (hd 3 rfl) ?_
  refine jo_nil ?_
  refine jc_seq ?_
  refine jc_seq ?_
  refine jc_region ?_
  refine jo_l (ly_mv rfl) (hd 14 rfl) ?_
  refine jo_l (ly_lenl sl44 rfl) (hd 15 rfl) ?_
  refine jo_l (ly_mv rfl) (hd 16 rfl) ?_
  refine jo_nil ?_
  refine jc_block ?_
  refine jc_loopD (G := Nat) 1 (fun g => g ≤ l.length) (fun g => [(16, .i .i64 (g : Int)), (4, .u), (5, .u), (17, .u), (18, .u), (19, .u), (20, .u), (21, .u), (22, .u), (23, .u), (24, .u), (25, .u), (26, .u), (27, .u), (28, .u), (29, .u), (30, .u), (31, .u)]) (fun g => [⟨30, 3, 0, true, fillN l g (l.length + 2)⟩]) (fun g => l.length - g) 0 ?_ ?_ (by show _ = [(⟨30, 3, 0, true, fillN l 0 (l.length + 2)⟩ : Ob)]; rw [fill_0]; rfl) hR rfl (fun _ _ => rfl) (fun g _ => .cons (fill_id 1 l g _) .nil) ?_
  · exact Nat.zero_le _
  · exact (.cons rfl (.u (.u (.u (.u (.u (.u (.u (.u (.u (.u (.u (.u (.u (.u (.u (.u (.u .nil))))))))))))))))))
  · rintro i hc1
    refine jc_seq ?_
    refine jc_region ?_
    refine jo_l (ly_lt rfl rfl) (hd 17 rfl) ?_
    refine jo_nil ?_
    refine jc_seq ?_
    refine jc_if rfl (fun h1 => ?_) (fun h1 => ?_)
    · have hil : i < l.length := by
        have h0 : (i : Int) < ((l.map rowZ).length : Int) := by assumption
        omega
      obtain ⟨t, ht⟩ : ∃ t, l[i]? = some t := ⟨_, List.getElem?_eq_getElem hil⟩
      refine jc_skip ?_
      refine jc_seq ?_
      refine jc_block ?_
      refine jc_seq ?_
      refine jc_region ?_
      refine jo_l (ly_mv rfl) (hd 18 rfl) ?_
      refine jo_l (ly_ial (i := i) (row := [.i .i64 t.1, .s t.2.1, .i .i64 t.2.2]) sl44 rfl rfl rfl (by rw [List.getElem?_map, ht]; rfl)) (hd 19 rfl) ?_
      refine jo_l (ly_ldqa agg40 rfl rfl rfl) (hd 20 rfl) ?_
      refine jo_h (hy_alloc (id := 1) zero40 (by decide) rfl (by decide) rfl) (hd 5 rfl) ?_
      refine jo_l (ly_as rfl) (hd 4 rfl) ?_
      refine jo_st (sy_store rfl rfl rfl siz40 rfl rfl (Nat.le_of_ble_eq_true rfl)) ?_
      refine jo_nil ?_
      refine jc_region ?_
      refine jo_l (ly_mv rfl) (hd 21 rfl) ?_
      refine jo_l (ly_mv rfl) (hd 22 rfl) ?_
      refine jo_l (ly_fa fld40_0 rfl rfl rfl) (hd 23 rfl) ?_
      refine jo_l (ly_ld one3 rfl rfl rfl) (hd 24 rfl) ?_
      refine jo_l (ly_fa fld40_1 rfl rfl rfl) (hd 25 rfl) ?_
      refine jo_l (ly_ld one9 rfl rfl rfl) (hd 26 rfl) ?_
      refine jo_l (ly_fa fld40_2 rfl rfl rfl) (hd 27 rfl) ?_
      refine jo_l (ly_ld one3 rfl rfl rfl) (hd 28 rfl) ?_
      refine jo_l (ly_build (is := [0, 1, 2]) (xs := [.tmp 24, .tmp 26, .tmp 28]) zero30 pls30_0_1_2 rfl (ovL_cons rfl (ovL_cons rfl (ovL_cons rfl ovL_nil))) rfl (by first | (simp [plsOk, cellsV]; done) | (simp [plsOk, cellsV, old]; done)) (all_of rfl) rfl) (hd 29 rfl) ?_
      refine jo_l (ly_ia (i := i) sl25 rfl rfl rfl rfl (by omega) rfl) (hd 30 rfl) ?_
      refine jo_st (sy_store rfl rfl rfl siz30 rfl rfl (by rw [fill_len (by omega) (by omega)]; omega)) ?_
      refine jo_nil ?_
      refine jc_region ?_
      refine jo_l (ly_add rfl rfl (wrap_i64 (by omega) (by omega))) (hd 31 rfl) ?_
      refine jo_l (ly_mv rfl) (hd 16 rfl) ?_
      refine jo_nil ?_
      refine ⟨i + 1, ?_, ?_, (by show [(⟨30, 3, 0, true, setV (fillN l i (l.length + 2)) ((0 + i) * 3) (rowZ t)⟩ : Ob)] = [⟨30, 3, 0, true, fillN l (i + 1) (l.length + 2)⟩]; rw [Nat.zero_add, fill_step ht (by omega)]), cov_n 36 rfl rfl ?_⟩
      · omega
      · omega
      · exact (.cons rfl (.u (.u (.u (.u (.u (.u (.u (.u (.u (.u (.u (.u (.u (.u (.u (.u (.u .nil))))))))))))))))))
    · have hil : i = l.length := by
        have h0 : ¬ (i : Int) < ((l.map rowZ).length : Int) := by assumption
        omega
      subst hil
      refine jc_exit ?_
      refine jc_seq ?_
      refine jc_region ?_
      refine jo_l (ly_mv rfl) (hd 32 rfl) ?_
      refine jo_l (ly_build (is := [1]) (xs := [_]) zero30 pls30_1 rfl (ovL_cons rfl ovL_nil) rfl (by first | (simp [plsOk, cellsV]; done) | (simp [plsOk, cellsV, old]; done)) (all_of rfl) rfl) (hd 33 rfl) ?_
      refine jo_l (ly_build (is := [1]) (xs := [_]) zero30 pls30_1 rfl (ovL_cons rfl ovL_nil) rfl (by first | (simp [plsOk, cellsV]; done) | (simp [plsOk, cellsV, old]; done)) (all_of rfl) rfl) (hd 34 rfl) ?_
      refine jo_h (hy_lit (id := 1) (xs := [.tmp 33, .tmp 34]) el25 rfl (ovL_cons rfl (ovL_cons rfl ovL_nil)) rfl (all2_of rfl) (by decide) rfl) (hd 35 rfl) ?_
      refine jo_appin el25 rfl rfl rfl (src_o (len := 2) rfl rfl rfl) (by decide) (by rw [fill_len (Nat.le_refl _) (by omega)]; exact Nat.le_refl _) (hd 36 rfl) ?_
      refine jo_l (ly_as rfl) (hd 6 rfl) ?_
      refine jo_nil ?_
      refine jc_seq ?_
      refine jc_H (H' := [⟨30, 3, 0, true, (l.map rowZ).flatten ++ (mkrow ++ mkrow)⟩, ⟨30, 3, 0, true, mkrow ++ mkrow⟩]) (by show [(⟨30, 3, 0, true, setV (fillN l l.length (l.length + 2)) (l.length * 3) (mkrow ++ mkrow)⟩ : Ob), ⟨30, 3, 0, true, mkrow ++ mkrow⟩] = _; rw [fill_end]) ?_
      refine jc_frzr2 3 6 (tl' := []) (l.map rowZ) (l.map rowZ ++ [mkrow, mkrow]) rfl rfl rfl rfl (by simp) (by simp) (by simp) (rowZ_len l) (rowZ_len2 l) (rowZ_pure l) (rowZ_pure2 l) (by decide) hL ?_
      refine jc_region ?_
      refine jo_l (ly_mv rfl) (hd 37 rfl) ?_
      refine jo_call Try.f24 (Join_z false l (by omega) hb) rfl Try.func24 rfl rfl (ovL_cons rfl ovL_nil) (.cons .l .nil) (hd 38 rfl) ?_ (fun ch hp => by simp at hp)
      rintro y hy; injection hy with hy; subst hy
      refine jo_l (ly_as rfl) (hd 7 rfl) ?_
      refine jo_nil ?_
      refine jc_seq ?_
      refine jc_region ?_
      refine jo_l (ly_mv rfl) (hd 39 rfl) ?_
      refine jo_l (ly_mv rfl) (hd 40 rfl) ?_
      refine jo_call Try.f25 (rJoin_z false l (by omega) hb) rfl Try.func25 rfl rfl (ovL_cons rfl ovL_nil) (.cons .l .nil) (hd 41 rfl) ?_ (fun ch hp => by simp at hp)
      rintro y hy; injection hy with hy; subst hy
      refine jo_l (ly_tt (ly_eqS rfl rfl) rfl) (hd 42 rfl) ?_
      refine jo_l (ly_mv rfl) (hd 43 rfl) ?_
      refine jo_g 43 rfl rfl (ly_mv rfl) (hd 44 rfl) ?_
      refine jo_g 43 rfl rfl (ly_mv rfl) (hd 45 rfl) ?_
      refine jo_callg Try.f21 43 rfl rfl (alike_z l false false (by omega)) rfl Try.func21 rfl rfl (ovL_cons rfl (ovL_cons rfl ovL_nil)) (.cons .l (.cons .l .nil)) (hd 46 rfl) ?_ (fun ch hp => by simp at hp)
      rintro y hy; injection hy with hy; subst hy
      refine jo_l (ly_pick_t rfl rfl) (hd 47 rfl) ?_
      refine jo_l (ly_mv rfl) (hd 48 rfl) ?_
      refine jo_g 48 rfl rfl (ly_mv rfl) (hd 49 rfl) ?_
      refine jo_g 48 rfl rfl (ly_mv rfl) (hd 50 rfl) ?_
      refine jo_g 48 rfl rfl (ly_lenl sl44 rfl) (hd 51 rfl) ?_
      refine jo_g 48 rfl rfl (ly_ial (i := l.length) (row := [.i .i64 0, .s ⟨#[109, 97, 114, 107]⟩, .i .i64 0]) sl25 rfl rfl (by rw [hm]) (mark_0 l)) (hd 52 rfl) ?_
      refine jo_g 48 rfl rfl (ly_faq fld30_1 rfl rfl) (hd 53 rfl) ?_
      refine jo_g 48 rfl rfl (ly_ldq one9 rfl rfl) (hd 54 rfl) ?_
      refine jo_g 48 rfl rfl (ly_tt (ly_eqS rfl rfl) rfl) (hd 55 rfl) ?_
      refine jo_l (ly_pick_t rfl rfl) (hd 56 rfl) ?_
      refine jo_l (ly_mv rfl) (hd 57 rfl) ?_
      refine jo_g 57 rfl rfl (ly_mv rfl) (hd 58 rfl) ?_
      refine jo_g 57 rfl rfl (ly_mv rfl) (hd 59 rfl) ?_
      refine jo_g 57 rfl rfl (ly_lenl sl44 rfl) (hd 60 rfl) ?_
      refine jo_g 57 rfl rfl (ly_add rfl rfl (r := ((l.length + 1 : Nat) : Int)) (by rw [wrap_i64 (by omega) (by omega)]; omega)) (hd 61 rfl) ?_
      refine jo_g 57 rfl rfl (ly_ial (i := l.length + 1) (row := [.i .i64 0, .s ⟨#[109, 97, 114, 107]⟩, .i .i64 0]) sl25 rfl rfl rfl (mark_1 l)) (hd 62 rfl) ?_
      refine jo_g 57 rfl rfl (ly_faq fld30_1 rfl rfl) (hd 63 rfl) ?_
      refine jo_g 57 rfl rfl (ly_ldq one9 rfl rfl) (hd 64 rfl) ?_
      refine jo_g 57 rfl rfl (ly_tt (ly_eqS rfl rfl) rfl) (hd 65 rfl) ?_
      refine jo_l (ly_pick_t rfl rfl) (hd 66 rfl) ?_
      refine jo_l (ly_mv rfl) (hd 67 rfl) ?_
      refine jo_callg Try.f13 67 rfl rfl (awake_s) rfl Try.func13 rfl rfl ovL_nil .nil (hd 68 rfl) ?_ (fun ch hp => by simp at hp)
      rintro y hy; injection hy with hy; subst hy
      refine jo_l (ly_pick_t rfl rfl) (hd 69 rfl) ?_
      refine jo_l (ly_as rfl) (hd 2 rfl) ?_
      refine jo_nil ?_
      refine jc_ret ?_
      refine ⟨_, _, (.cons rfl .nil), .b, ?_⟩
      exact rfl
end Go.Proofs.Ytnpbpiommpgikaa.Vc
