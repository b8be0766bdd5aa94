/- The contracts of the comparisons, of the document's Good. -/
import Derived.Test.YtnpbpiommpgikaaWg
import Derived.Test.YtnpbpiommpgikaaWf
set_option linter.unusedVariables false
set_option linter.unusedSimpArgs false
namespace Go.Proofs.Ytnpbpiommpgikaa.Vc
open Go Go.RowKit
theorem one_same (k : Int) (t : ByteArray) (pl : Int) : Spec Try.prog 18 [.a [.i .i64 k, .s t, .i .i64 pl], .a [.i .i64 k, .s t, .i .i64 pl]] (fun o => o = .ret (.b true)) := by
  refine spec_of' [(0, .a [.i .i64 k, .s t, .i .i64 pl]), (1, .a [.i .i64 k, .s t, .i .i64 pl])] rfl Try.func18 rfl (Nat.le_of_ble_eq_true rfl) fun Γ hN hds hL hR => ?_
  have hd : ∀ d, Nat.blt d 24 = true → d < Γ.N := fun d h => by rw [hN]; exact Nat.le_of_ble_eq_true h
  refine jc_seq ?_
  refine jc_region ?_
  refine jo_h (hy_box (id := 0) (n := 3) rfl rfl rfl (by decide) rfl) (hd 2 rfl) ?_
  refine jo_h (hy_box (id := 1) (n := 3) rfl rfl rfl (by decide) rfl) (hd 3 rfl) ?_
  refine jo_l (ly_as rfl) (hd 4 rfl) ?_
  refine jo_nil ?_
  refine jc_seq ?_
  refine jc_region ?_
  refine jo_l (ly_fa fld30_0 rfl rfl rfl) (hd 5 rfl) ?_
  refine jo_l (ly_ld one28 rfl rfl rfl) (hd 6 rfl) ?_
  refine jo_l (ly_fa fld40_0 rfl rfl rfl) (hd 7 rfl) ?_
  refine jo_l (ly_ld one3 rfl rfl rfl) (hd 8 rfl) ?_
  refine jo_l (ly_tt (ly_eq rfl rfl) rfl) (hd 9 rfl) ?_
  refine jo_l (ly_mv rfl) (hd 10 rfl) ?_
  refine jo_g 10 rfl rfl (ly_fa fld30_1 rfl rfl rfl) (hd 11 rfl) ?_
  refine jo_g 10 rfl rfl (ly_ld one9 rfl rfl rfl) (hd 12 rfl) ?_
  refine jo_g 10 rfl rfl (ly_fa fld40_1 rfl rfl rfl) (hd 13 rfl) ?_
  refine jo_g 10 rfl rfl (ly_ld one9 rfl rfl rfl) (hd 14 rfl) ?_
  refine jo_g 10 rfl rfl (ly_tt (ly_eqS rfl rfl) rfl) (hd 15 rfl) ?_
  refine jo_l (ly_pick_t rfl rfl) (hd 16 rfl) ?_
  refine jo_l (ly_mv rfl) (hd 17 rfl) ?_
  refine jo_g 17 rfl rfl (ly_fa fld30_2 rfl rfl rfl) (hd 18 rfl) ?_
  refine jo_g 17 rfl rfl (ly_ld one3 rfl rfl rfl) (hd 19 rfl) ?_
  refine jo_g 17 rfl rfl (ly_fa fld40_2 rfl rfl rfl) (hd 20 rfl) ?_
  refine jo_g 17 rfl rfl (ly_ld one3 rfl rfl rfl) (hd 21 rfl) ?_
  refine jo_g 17 rfl rfl (ly_tt (ly_eq rfl rfl) rfl) (hd 22 rfl) ?_
  refine jo_l (ly_pick_t rfl rfl) (hd 23 rfl) ?_
  refine jo_l (ly_as rfl) (hd 4 rfl) ?_
  refine jo_nil ?_
  refine jc_ret ?_
  refine ⟨_, _, (.cons rfl .nil), .b, ?_⟩
  exact rfl

theorem alike_same (l : List Tok) (f g : Bool) (hl : l.length < 4294967296) : Spec Try.prog 21 [.l f 3 (l.map tokRow), .l g 3 (l.map tokRow)] (fun o => o = .ret (.b true)) := by
  refine spec_of' [(0, .l f 3 (l.map tokRow)), (1, .l g 3 (l.map tokRow))] rfl Try.func21 rfl (Nat.le_of_ble_eq_true rfl) fun Γ hN hds hL hR => ?_
  have hd : ∀ d, Nat.blt d 27 = true → d < Γ.N := fun d h => by rw [hN]; exact Nat.le_of_ble_eq_true h
  have hm : (l.map tokRow).length = l.length := by simp
  refine jc_seq ?_
  refine jc_region ?_
  refine jo_l (ly_as rfl) (hd 4 rfl) ?_
  refine jo_nil ?_
  refine jc_seq ?_
  refine jc_seq ?_
  refine jc_region ?_
  refine jo_l (ly_mv rfl) (hd 6 rfl) ?_
  refine jo_l (ly_lenl sl25 rfl) (hd 7 rfl) ?_
  refine jo_l (ly_mv rfl) (hd 8 rfl) ?_
  refine jo_l (ly_lenl sl44 rfl) (hd 9 rfl) ?_
  refine jo_l (ly_ff (ly_ne rfl rfl) (by simp)) (hd 10 rfl) ?_
  refine jo_nil ?_
  refine jc_litf rfl ?_
  refine jc_skip ?_
  refine jc_seq ?_
  refine jc_seq ?_
  refine jc_region ?_
  refine jo_l (ly_mv rfl) (hd 11 rfl) ?_
  refine jo_l (ly_lenl sl25 rfl) (hd 12 rfl) ?_
  refine jo_l (ly_mv rfl) (hd 13 rfl) ?_
  refine jo_nil ?_
  refine jc_block ?_
  refine jc_loopF (G := Nat) (fun i => i ≤ l.length) (fun i => [(13, .i .i64 (i : Int)), (4, .u), (5, .u), (14, .u), (15, .u), (16, .u), (17, .u), (18, .u), (19, .u), (20, .u), (21, .u), (22, .u), (23, .u), (24, .u), (25, .u), (26, .u)]) (fun _ => _) (fun i => l.length - i) 0 ?_ ?_ rfl ?_
  · exact Nat.zero_le _
  · exact (.cons rfl (.u (.u (.u (.u (.u (.u (.u (.u (.u (.u (.u (.u (.u (.u (.u .nil))))))))))))))))
  · rintro i hC
    refine jc_seq ?_
    refine jc_region ?_
    refine jo_l (ly_lt rfl rfl) (hd 14 rfl) ?_
    refine jo_nil ?_
    refine jc_seq ?_
    refine jc_if rfl (fun h2 => ?_) (fun h2 => ?_)
    · refine jc_skip ?_
      refine jc_seq ?_
      refine jc_block ?_
      refine jc_seq ?_
      obtain ⟨t, ht⟩ : ∃ t, l[i]? = some t := ⟨_, List.getElem?_eq_getElem (by omega)⟩
      refine jc_region ?_
      refine jo_l (ly_mv rfl) (hd 15 rfl) ?_
      refine jo_l (ly_as rfl) (hd 5 rfl) ?_
      refine jo_nil ?_
      refine jc_seq ?_
      refine jc_draw (n := 10) _ rfl mixed ?_
      refine ja_l 0 (lo_l (ly_mv rfl) (hd 16 rfl)) rfl (by kernel_rfl) (by kernel_rfl) (by kernel_rfl) (fun _ _ _ _ h => h) ?_
      refine ja_l 1 (lo_l (ly_mv rfl) (hd 17 rfl)) rfl (by kernel_rfl) (by kernel_rfl) (by kernel_rfl) (fun _ _ _ _ h => h) ?_
      refine ja_l 2 (lo_l (ly_ial (i := i) (row := tokRow t) sl25 rfl rfl rfl (by rw [List.getElem?_map, ht]; rfl)) (hd 18 rfl)) rfl (by kernel_rfl) (by kernel_rfl) (by kernel_rfl) (fun _ _ _ _ h => h) ?_
      refine ja_l 3 (lo_l (ly_ldqa agg30 rfl rfl rfl) (hd 19 rfl)) rfl (by kernel_rfl) (by kernel_rfl) (by kernel_rfl) (fun _ _ _ _ h => h) ?_
      refine ja_l 4 (lo_l (ly_mv rfl) (hd 20 rfl)) rfl (by kernel_rfl) (by kernel_rfl) (by kernel_rfl) (fun _ _ _ _ h => h) ?_
      refine ja_l 5 (lo_l (ly_mv rfl) (hd 21 rfl)) rfl (by kernel_rfl) (by kernel_rfl) (by kernel_rfl) (fun _ _ _ _ h => h) ?_
      refine ja_l 6 (lo_l (ly_ial (i := i) (row := tokRow t) sl44 rfl rfl rfl (by rw [List.getElem?_map, ht]; rfl)) (hd 22 rfl)) rfl (by kernel_rfl) (by kernel_rfl) (by kernel_rfl) (fun _ _ _ _ h => h) ?_
      refine ja_l 7 (lo_l (ly_ldqa agg40 rfl rfl rfl) (hd 23 rfl)) rfl (by kernel_rfl) (by kernel_rfl) (by kernel_rfl) (fun _ _ _ _ h => h) ?_
      refine ja_1 8 ?_ rfl (by kernel_rfl)
      refine js_call Try.f18 (one_same t.1 t.2.1 (t.2.2 : Int)) rfl Try.func18 rfl rfl (ovL_cons rfl (ovL_cons rfl ovL_nil)) (.cons (.a1 .i (.a1 .s (.a1 .i .a0))) (.cons (.a1 .i (.a1 .s (.a1 .i .a0))) .nil)) (hd 24 rfl) ?_ (fun ch hp => by simp at hp)
      rintro y hy; injection hy with hy; subst hy
      refine ja_l 9 (lo_l (ly_not rfl) (hd 25 rfl)) rfl (by kernel_rfl) (by kernel_rfl) (by kernel_rfl) (fun _ _ _ _ h => h) ?_
      refine ja_nil (by kernel_rfl) ?_
      refine jc_litf rfl ?_
      refine jc_skip ?_
      refine jc_region ?_
      refine jo_l (ly_add rfl rfl (wrap_i64 (by omega) (by omega))) (hd 26 rfl) ?_
      refine jo_l (ly_mv rfl) (hd 13 rfl) ?_
      refine jo_nil ?_
      refine ⟨i + 1, ?_, ?_, rfl, cov_n 31 rfl rfl ?_⟩
      · omega
      · omega
      · exact (.cons rfl (.u (.u (.u (.u (.u (.u (.u (.u (.u (.u (.u (.u (.u (.u (.u .nil))))))))))))))))
    · refine jc_exit ?_
      refine jc_seq ?_
      refine jc_region ?_
      refine jo_l (ly_as rfl) (hd 4 rfl) ?_
      refine jo_nil ?_
      refine jc_ret ?_
      refine ⟨_, _, (.cons rfl .nil), .b, ?_⟩
      exact rfl

theorem same_same (l : List Tok) (f g : Bool) (hl : l.length < 4294967296) : Spec Try.prog 16 [.l f 3 (l.map tokRow), .l g 3 (l.map tokRow)] (fun o => o = .ret (.b true)) := by
  refine spec_of' [(0, .l f 3 (l.map tokRow)), (1, .l g 3 (l.map tokRow))] rfl Try.func16 rfl (Nat.le_of_ble_eq_true rfl) fun Γ hN hds hL hR => ?_
  have hd : ∀ d, Nat.blt d 41 = true → d < Γ.N := fun d h => by rw [hN]; exact Nat.le_of_ble_eq_true h
  have hm : (l.map tokRow).length = l.length := by simp
  refine jc_seq ?_
  refine jc_region ?_
  refine jo_l (ly_as rfl) (hd 4 rfl) ?_
  refine jo_nil ?_
  refine jc_seq ?_
  refine jc_seq ?_
  refine jc_region ?_
  refine jo_l (ly_mv rfl) (hd 6 rfl) ?_
  refine jo_l (ly_lenl sl25 rfl) (hd 7 rfl) ?_
  refine jo_l (ly_mv rfl) (hd 8 rfl) ?_
  refine jo_l (ly_lenl sl25 rfl) (hd 9 rfl) ?_
  refine jo_l (ly_ff (ly_ne rfl rfl) (by simp)) (hd 10 rfl) ?_
  refine jo_nil ?_
  refine jc_litf rfl ?_
  refine jc_skip ?_
  refine jc_seq ?_
  refine jc_seq ?_
  refine jc_region ?_
  refine jo_l (ly_mv rfl) (hd 11 rfl) ?_
  refine jo_l (ly_lenl sl25 rfl) (hd 12 rfl) ?_
  refine jo_l (ly_mv rfl) (hd 13 rfl) ?_
  refine jo_nil ?_
  refine jc_block ?_
  refine jc_loopF (G := Nat) (fun i => i ≤ l.length) (fun i => [(13, .i .i64 (i : Int)), (4, .u), (5, .u), (14, .u), (15, .u), (16, .u), (17, .u), (18, .u), (19, .u), (20, .u), (21, .u), (22, .u), (23, .u), (24, .u), (25, .u), (26, .u), (27, .u), (28, .u), (29, .u), (30, .u), (31, .u), (32, .u), (33, .u), (34, .u), (35, .u), (36, .u), (37, .u), (38, .u), (39, .u), (40, .u)]) (fun _ => _) (fun i => l.length - i) 0 ?_ ?_ rfl ?_
  · exact Nat.zero_le _
  · exact (.cons rfl (.u (.u (.u (.u (.u (.u (.u (.u (.u (.u (.u (.u (.u (.u (.u (.u (.u (.u (.u (.u (.u (.u (.u (.u (.u (.u (.u (.u (.u .nil))))))))))))))))))))))))))))))
  · rintro i hC
    refine jc_seq ?_
    refine jc_region ?_
    refine jo_l (ly_lt rfl rfl) (hd 14 rfl) ?_
    refine jo_nil ?_
    refine jc_seq ?_
    refine jc_if rfl (fun h2 => ?_) (fun h2 => ?_)
    · refine jc_skip ?_
      refine jc_seq ?_
      refine jc_block ?_
      refine jc_seq ?_
      obtain ⟨t, ht⟩ : ∃ t, l[i]? = some t := ⟨_, List.getElem?_eq_getElem (by omega)⟩
      refine jc_region ?_
      refine jo_l (ly_mv rfl) (hd 15 rfl) ?_
      refine jo_l (ly_as rfl) (hd 5 rfl) ?_
      refine jo_nil ?_
      refine jc_seq ?_
      refine jc_draw (n := 24) _ rfl mixed ?_
      refine ja_l 0 (lo_l (ly_mv rfl) (hd 16 rfl)) rfl (by kernel_rfl) (by kernel_rfl) (by kernel_rfl) (fun _ _ _ _ h => h) ?_
      refine ja_l 1 (lo_l (ly_mv rfl) (hd 17 rfl)) rfl (by kernel_rfl) (by kernel_rfl) (by kernel_rfl) (fun _ _ _ _ h => h) ?_
      refine ja_l 2 (lo_l (ly_ial (i := i) (row := tokRow t) sl25 rfl rfl rfl (by rw [List.getElem?_map, ht]; rfl)) (hd 18 rfl)) rfl (by kernel_rfl) (by kernel_rfl) (by kernel_rfl) (fun _ _ _ _ h => h) ?_
      refine ja_l 3 (lo_l (ly_faq fld30_0 rfl rfl) (hd 19 rfl)) rfl (by kernel_rfl) (by kernel_rfl) (by kernel_rfl) (fun _ _ _ _ h => h) ?_
      refine ja_l 4 (lo_l (ly_ldq one28 rfl rfl) (hd 20 rfl)) rfl (by kernel_rfl) (by kernel_rfl) (by kernel_rfl) (fun _ _ _ _ h => h) ?_
      refine ja_l 5 (lo_l (ly_mv rfl) (hd 21 rfl)) rfl (by kernel_rfl) (by kernel_rfl) (by kernel_rfl) (fun _ _ _ _ h => h) ?_
      refine ja_l 6 (lo_l (ly_mv rfl) (hd 22 rfl)) rfl (by kernel_rfl) (by kernel_rfl) (by kernel_rfl) (fun _ _ _ _ h => h) ?_
      refine ja_l 7 (lo_l (ly_ial (i := i) (row := tokRow t) sl25 rfl rfl rfl (by rw [List.getElem?_map, ht]; rfl)) (hd 23 rfl)) rfl (by kernel_rfl) (by kernel_rfl) (by kernel_rfl) (fun _ _ _ _ h => h) ?_
      refine ja_l 8 (lo_l (ly_faq fld30_0 rfl rfl) (hd 24 rfl)) rfl (by kernel_rfl) (by kernel_rfl) (by kernel_rfl) (fun _ _ _ _ h => h) ?_
      refine ja_l 9 (lo_l (ly_ldq one28 rfl rfl) (hd 25 rfl)) rfl (by kernel_rfl) (by kernel_rfl) (by kernel_rfl) (fun _ _ _ _ h => h) ?_
      refine ja_l 10 (lo_l (ly_ff (ly_ne rfl rfl) (by simp)) (hd 26 rfl)) rfl (by kernel_rfl) (by kernel_rfl) (by kernel_rfl) (fun _ _ _ _ h => h) ?_
      refine ja_l 11 (lo_l (ly_mv rfl) (hd 27 rfl)) rfl (by kernel_rfl) (by kernel_rfl) (by kernel_rfl) (fun _ _ _ _ h => h) ?_
      refine ja_l 12 (lo_g 27 rfl rfl (ly_mv rfl) (hd 28 rfl)) rfl (by kernel_rfl) (by kernel_rfl) (by kernel_rfl) (fun _ _ _ _ h => h) ?_
      refine ja_l 13 (lo_g 27 rfl rfl (ly_mv rfl) (hd 29 rfl)) rfl (by kernel_rfl) (by kernel_rfl) (by kernel_rfl) (fun _ _ _ _ h => h) ?_
      refine ja_l 14 (lo_g 27 rfl rfl (ly_ial (i := i) (row := tokRow t) sl25 rfl rfl rfl (by rw [List.getElem?_map, ht]; rfl)) (hd 30 rfl)) rfl (by kernel_rfl) (by kernel_rfl) (by kernel_rfl) (fun _ _ _ _ h => h) ?_
      refine ja_l 15 (lo_g 27 rfl rfl (ly_faq fld30_1 rfl rfl) (hd 31 rfl)) rfl (by kernel_rfl) (by kernel_rfl) (by kernel_rfl) (fun _ _ _ _ h => h) ?_
      refine ja_l 16 (lo_g 27 rfl rfl (ly_ldq one9 rfl rfl) (hd 32 rfl)) rfl (by kernel_rfl) (by kernel_rfl) (by kernel_rfl) (fun _ _ _ _ h => h) ?_
      refine ja_l 17 (lo_g 27 rfl rfl (ly_mv rfl) (hd 33 rfl)) rfl (by kernel_rfl) (by kernel_rfl) (by kernel_rfl) (fun _ _ _ _ h => h) ?_
      refine ja_l 18 (lo_g 27 rfl rfl (ly_mv rfl) (hd 34 rfl)) rfl (by kernel_rfl) (by kernel_rfl) (by kernel_rfl) (fun _ _ _ _ h => h) ?_
      refine ja_l 19 (lo_g 27 rfl rfl (ly_ial (i := i) (row := tokRow t) sl25 rfl rfl rfl (by rw [List.getElem?_map, ht]; rfl)) (hd 35 rfl)) rfl (by kernel_rfl) (by kernel_rfl) (by kernel_rfl) (fun _ _ _ _ h => h) ?_
      refine ja_l 20 (lo_g 27 rfl rfl (ly_faq fld30_1 rfl rfl) (hd 36 rfl)) rfl (by kernel_rfl) (by kernel_rfl) (by kernel_rfl) (fun _ _ _ _ h => h) ?_
      refine ja_l 21 (lo_g 27 rfl rfl (ly_ldq one9 rfl rfl) (hd 37 rfl)) rfl (by kernel_rfl) (by kernel_rfl) (by kernel_rfl) (fun _ _ _ _ h => h) ?_
      refine ja_l 22 (lo_g 27 rfl rfl (ly_ff (ly_neS rfl rfl) (by simp)) (hd 38 rfl)) rfl (by kernel_rfl) (by kernel_rfl) (by kernel_rfl) (fun _ _ _ _ h => h) ?_
      refine ja_l 23 (lo_l (ly_pick_f rfl rfl) (hd 39 rfl)) rfl (by kernel_rfl) (by kernel_rfl) (by kernel_rfl) (fun _ _ _ _ h => h) ?_
      refine ja_nil (by kernel_rfl) ?_
      refine jc_litf rfl ?_
      refine jc_skip ?_
      refine jc_region ?_
      refine jo_l (ly_add rfl rfl (wrap_i64 (by omega) (by omega))) (hd 40 rfl) ?_
      refine jo_l (ly_mv rfl) (hd 13 rfl) ?_
      refine jo_nil ?_
      refine ⟨i + 1, ?_, ?_, rfl, cov_n 59 rfl rfl ?_⟩
      · omega
      · omega
      · exact (.cons rfl (.u (.u (.u (.u (.u (.u (.u (.u (.u (.u (.u (.u (.u (.u (.u (.u (.u (.u (.u (.u (.u (.u (.u (.u (.u (.u (.u (.u (.u .nil))))))))))))))))))))))))))))))
    · refine jc_exit ?_
      refine jc_seq ?_
      refine jc_region ?_
      refine jo_l (ly_as rfl) (hd 4 rfl) ?_
      refine jo_nil ?_
      refine jc_ret ?_
      refine ⟨_, _, (.cons rfl .nil), .b, ?_⟩
      exact rfl

theorem Good_s (s : ByteArray) (hs : s.size < 4294967296) : Spec Try.prog 22 [.s s] (fun o => o = .ret (GoodV s)) := by
  refine spec_of' [(0, .s s)] rfl Try.func22 rfl (Nat.le_of_ble_eq_true rfl) fun Γ hN hds hL hR => ?_
  have hd : ∀ d, Nat.blt d 31 = true → d < Γ.N := fun d h => by rw [hN]; exact Nat.le_of_ble_eq_true h
  refine jc_seq ?_
  refine jc_region ?_
  refine jo_l (ly_as rfl) (hd 2 rfl) ?_
  refine jo_l (ly_as rfl) (hd 3 rfl) ?_
  refine jo_l (ly_as rfl) (hd 4 rfl) ?_
  refine jo_nil ?_
  refine jc_seq ?_
  refine jc_region ?_
  refine jo_l (ly_as rfl) (hd 5 rfl) ?_
  refine jo_nil ?_
  refine jc_seq ?_
  refine jc_own0 (id := 0) 5 40 3 rfl rfl ?_
  refine jc_region ?_
  refine jo_l (ly_as rfl) (hd 6 rfl) ?_
  refine jo_nil ?_
  refine jc_block ?_
  refine jc_loopD (G := List Tok × Nat) 1 (fun g => lexGo s 0 = (g.1 ++ (lexGo s g.2).1, (lexGo s g.2).2) ∧ g.2 ≤ s.size ∧ g.1.length ≤ g.2) (fun g => [(5, .o 0 g.1.length 0 g.1.length), (6, .i .i64 (g.2 : Int)), (2, .u), (3, .u), (4, .u), (7, .u), (8, .u), (9, .u), (10, .u), (11, .u), (12, .u), (13, .u), (14, .u), (15, .u), (16, .u), (17, .u), (18, .u), (19, .u), (20, .u), (21, .u), (22, .u), (23, .u), (24, .u), (25, .u), (26, .u), (27, .u), (28, .u), (29, .u), (30, .u)]) (fun g => [⟨40, 3, g.1.length, true, (g.1.map tokRow).flatten⟩]) (fun g => s.size - g.2) ([], 0) ?_ ?_ rfl hR rfl (fun _ _ => rfl) (fun g _ => .cons (tok_id 1 g.1) .nil) ?_
  · exact ⟨rfl, Nat.zero_le _, Nat.zero_le _⟩
  · exact (.cons rfl (.cons rfl (.u (.u (.u (.u (.u (.u (.u (.u (.u (.u (.u (.u (.u (.u (.u (.u (.u (.u (.u (.u (.u (.u (.u (.u (.u (.u (.u .nil)))))))))))))))))))))))))))))
  · rintro ⟨acc, p⟩ ⟨hc1, hc2, hc3⟩
    dsimp only at hc1 hc2 hc3
    refine jc_block ?_
    refine jc_seq ?_
    refine jc_region ?_
    refine jo_l (ly_mv rfl) (hd 11 rfl) ?_
    refine jo_l (ly_mv rfl) (hd 12 rfl) ?_
    refine jo_call Try.f19 (refNext_s s p hc2 (by omega)) rfl Try.func19 rfl rfl (ovL_cons rfl (ovL_cons rfl ovL_nil)) (.cons .s (.cons .i .nil)) (hd 13 rfl) ?_ (fun ch hp => by simp at hp)
    rintro y hy; injection hy with hy; subst hy
    refine jo_l (ly_mv rfl) (hd 10 rfl) ?_
    refine jo_l (ly_ext rfl rfl) (hd 14 rfl) ?_
    refine jo_l (ly_ext rfl rfl) (hd 15 rfl) ?_
    refine jo_l (ly_ext rfl rfl) (hd 16 rfl) ?_
    refine jo_h (hy_alloc (id := 1) zero40 (by decide) rfl (by decide) rfl) (hd 7 rfl) ?_
    refine jo_st (sy_store rfl rfl rfl siz40 rfl rfl (Nat.le_of_ble_eq_true rfl)) ?_
    refine jo_l (ly_as rfl) (hd 8 rfl) ?_
    refine jo_l (ly_as rfl) (hd 9 rfl) ?_
    refine jo_nil ?_
    refine jc_seq ?_
    refine jc_seq ?_
    refine jc_region ?_
    refine jo_l (ly_mv rfl) (hd 17 rfl) ?_
    refine jo_l (ly_ne rfl rfl) (hd 18 rfl) ?_
    refine jo_nil ?_
    refine jc_if rfl (fun h1 => ?_) (fun h1 => ?_)
    · have hok : (nx s p).2.2.2.2 = false := by cases e : (nx s p).2.2.2.2 <;> simp_all
      refine jc_seq ?_
      refine jc_region ?_
      refine jo_l (ly_mv rfl) (hd 19 rfl) ?_
      refine jo_l (ly_mv rfl) (hd 20 rfl) ?_
      refine jo_l (ly_mv rfl) (hd 21 rfl) ?_
      refine jo_l (ly_as rfl) (hd 2 rfl) ?_
      refine jo_l (ly_as rfl) (hd 3 rfl) ?_
      refine jo_l (ly_as rfl) (hd 4 rfl) ?_
      refine jo_nil ?_
      refine jc_ret ?_
      refine ⟨_, _, (.cons rfl (.cons rfl (.cons rfl .nil))), (.t1 (.ol rfl rfl (by simp) (tok_len _) (tok_pure _) (by decide)) (.t1 .i (.t1 .i .t0))), ?_⟩
      unfold GoodV
      rw [hc1, lexGo_bad hok, hok]
      simp only [List.append_nil]
      rfl
    · have hok : (nx s p).2.2.2.2 = true := by cases e : (nx s p).2.2.2.2 <;> simp_all
      refine jc_skip ?_
      refine jc_seq ?_
      refine jc_seq ?_
      refine jc_region ?_
      refine jo_l (ly_fa fld40_0 rfl rfl rfl) (hd 22 rfl) ?_
      refine jo_l (ly_ld one3 rfl rfl rfl) (hd 23 rfl) ?_
      refine jo_l (ly_eq rfl rfl) (hd 24 rfl) ?_
      refine jo_nil ?_
      refine jc_if rfl (fun h2 => ?_) (fun h2 => ?_)
      · refine jc_seq ?_
        refine jc_region ?_
        refine jo_l (ly_mv rfl) (hd 25 rfl) ?_
        refine jo_l (ly_as rfl) (hd 2 rfl) ?_
        refine jo_l (ly_as rfl) (hd 3 rfl) ?_
        refine jo_l (ly_as rfl) (hd 4 rfl) ?_
        refine jo_nil ?_
        refine jc_ret ?_
        refine ⟨_, _, (.cons rfl (.cons rfl (.cons rfl .nil))), (.t1 (.ol rfl rfl (by simp) (tok_len _) (tok_pure _) (by decide)) (.t1 .i (.t1 .i .t0))), ?_⟩
        unfold GoodV
        rw [hc1, lexGo_end hok (by omega)]
        simp only [List.append_nil]
        rfl
      · refine jc_skip ?_
        refine jc_seq ?_
        refine jc_region ?_
        refine jo_l (ly_mv rfl) (hd 26 rfl) ?_
        refine jo_l (ly_lda agg40 rfl rfl rfl rfl) (hd 27 rfl) ?_
        refine jo_h (hy_lit (id := 2) (xs := [.tmp 27]) el44 rfl (ovL_cons rfl ovL_nil) rfl (all2_of rfl) (by decide) rfl) (hd 28 rfl) ?_
        refine jo_app el44 rfl rfl (tok_flat acc) rfl (src_o rfl rfl rfl) (by show (acc.length + 1) * 32 ≤ _; omega) (by show acc.length + 1 ≤ 9223372036854775807; omega) (hd 29 rfl) ?_
        refine jo_l (ly_as rfl) (hd 5 rfl) ?_
        refine jo_nil ?_
        refine jc_region ?_
        refine jo_l (ly_mv rfl) (hd 30 rfl) ?_
        refine jo_l (ly_as rfl) (hd 6 rfl) ?_
        refine jo_nil ?_
        refine ⟨(acc ++ [((nx s p).1, (nx s p).2.1, (nx s p).2.2.1)], (nx s p).2.2.2.1), ?_, ?_, (by rw [tok_snoc, List.length_append]; rfl), cov_n 51 rfl rfl ?_⟩
        · have hlt := nx_lt s p hc2 hok (by assumption)
          have hle := nx_le s p hc2
          refine ⟨?_, hle.2, by rw [List.length_append]; simp only [List.length_singleton]; omega⟩
          rw [hc1, lexGo_more hc2 hok (by assumption)]
          simp
        · have hlt := nx_lt s p hc2 hok (by assumption)
          have hle := nx_le s p hc2
          show s.size - (nx s p).2.2.2.1 < s.size - p
          omega
        · exact (.cons (by show some _ = some _; rw [List.length_append]; rfl) (.cons rfl (.u (.u (.u (.u (.u (.u (.u (.u (.u (.u (.u (.u (.u (.u (.u (.u (.u (.u (.u (.u (.u (.u (.u (.u (.u (.u (.u .nil)))))))))))))))))))))))))))))
end Go.Proofs.Ytnpbpiommpgikaa.Vc
