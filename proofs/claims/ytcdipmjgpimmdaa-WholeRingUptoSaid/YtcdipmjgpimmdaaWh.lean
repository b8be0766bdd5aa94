/- Contracts of surdref01.Limbs, Is, surdref06.Is. -/
import Derived.Test.YtcdipmjgpimmdaaWg
set_option linter.unusedVariables false
set_option linter.unusedSimpArgs false
namespace Go.Proofs.Ytcdipmjgpimmdaa.Vc
open Go Go.RowKit
set_option maxHeartbeats 4000000 in
theorem Limbs_s (l : List Int) (hl : l.length < 4294967296) : Spec Try.prog 46 [.n false .u64 l] (fun o => o = .ret (.n true .u64 (lims l))) := by
  refine spec_of' [(0, .n false .u64 l)] rfl Try.func46 rfl (Nat.le_of_ble_eq_true rfl) fun Γ hN hds hL hR => ?_
  have hd : ∀ d, Nat.blt d 34 = true → d < Γ.N := fun d h => by rw [hN]; exact Nat.le_of_ble_eq_true h
  refine jc_seq ?_
  refine jc_region ?_
  refine jo_l (ly_as rfl) (hd 2 rfl) ?_
  refine jo_nil ?_
  refine jc_seq ?_
  refine jc_region ?_
  refine jo_l (ly_as rfl) (hd 3 rfl) ?_
  refine jo_nil ?_
  refine jc_seq ?_
  refine jc_seq ?_
  refine jc_own0 (id := 0) 3 82 1 rfl rfl ?_
  refine jc_region ?_
  refine jo_l (ly_as rfl) (hd 4 rfl) ?_
  refine jo_nil ?_
  refine jc_block ?_
  refine jc_loopD (G := Nat × List Int) 1 (fun g => g.1 ≤ l.length + 1 ∧ g.2 ++ lims (l.drop g.1) = lims l ∧ g.2.length ≤ g.1) (fun g => [(3, .o 0 g.2.length 0 g.2.length), (4, .i .i64 (g.1 : Int)), (5, .u), (6, .u), (7, .u), (8, .u), (9, .u), (10, .u), (11, .u), (12, .u), (13, .u), (14, .u), (15, .u), (16, .u), (17, .u), (18, .u), (19, .u), (20, .u), (21, .u), (22, .u), (23, .u), (24, .u), (25, .u), (26, .u), (27, .u), (28, .u), (29, .u), (30, .u), (31, .u), (32, .u)]) (fun g => [⟨82, 1, g.2.length, true, ints .u64 g.2⟩]) (fun g => l.length + 1 - g.1) (0, []) ?_ ?_ rfl hR rfl (fun _ _ => rfl) (fun g _ => .cons ints_id .nil) ?_
  · exact ⟨Nat.zero_le _, rfl, Nat.le_refl _⟩
  · exact (.cons rfl (.cons rfl (.u (.u (.u (.u (.u (.u (.u (.u (.u (.u (.u (.u (.u (.u (.u (.u (.u (.u (.u (.u (.u (.u (.u (.u (.u (.u (.u (.u .nil))))))))))))))))))))))))))))))
  · rintro ⟨j, acc⟩ ⟨hc1, hc2, hc3⟩
    dsimp only at hc1 hc2 hc3
    refine jc_seq ?_
    refine jc_seq ?_
    refine jc_region ?_
    refine jo_l (ly_mv rfl) (hd 6 rfl) ?_
    refine jo_l (ly_mv rfl) (hd 7 rfl) ?_
    refine jo_l (ly_lenn sl33 rfl) (hd 8 rfl) ?_
    refine jo_l (ly_lt rfl rfl) (hd 9 rfl) ?_
    refine jo_nil ?_
    refine jc_if rfl (fun h1 => ?_) (fun h1 => ?_)
    · have hjl : j < l.length := by
        have h0 : (j : Int) < (l.length : Int) := by assumption
        omega
      refine jc_skip ?_
      refine jc_seq ?_
      refine jc_block ?_
      refine jc_seq ?_
      refine jc_region ?_
      refine jo_l (ly_mv rfl) (hd 12 rfl) ?_
      refine jo_l (ly_mv rfl) (hd 13 rfl) ?_
      refine jo_l (ly_ian (i := j) sl33 rfl rfl (by first | rfl | omega) (by omega)) (hd 14 rfl) ?_
      refine jo_l (ly_ldq one82 rfl rfl) (hd 15 rfl) ?_
      refine jo_l (ly_as rfl) (hd 5 rfl) ?_
      refine jo_nil ?_
      refine jc_meetH (G := Int) (fun v => lims (l.drop j) = v :: lims (l.drop (j + 2))) (fun v => [(5, .i .u64 v), (16, .u), (17, .u), (18, .u), (19, .u), (20, .u), (21, .u), (22, .u), (23, .u), (24, .u), (25, .u), (26, .u), (27, .u), (28, .u)]) ?_ ?_
      · refine jc_seq ?_
        refine jc_region ?_
        refine jo_l (ly_mv rfl) (hd 16 rfl) ?_
        refine jo_l (ly_add rfl rfl (r := ((j + 1 : Nat) : Int)) (by rw [wrap_i64 (by omega) (by omega)]; omega)) (hd 17 rfl) ?_
        refine jo_l (ly_mv rfl) (hd 18 rfl) ?_
        refine jo_l (ly_lenn sl33 rfl) (hd 19 rfl) ?_
        refine jo_l (ly_lt rfl rfl) (hd 20 rfl) ?_
        refine jo_nil ?_
        refine jc_if rfl (fun h2 => ?_) (fun h2 => ?_)
        · refine jc_region ?_
          refine jo_l (ly_mv rfl) (hd 21 rfl) ?_
          refine jo_l (ly_mv rfl) (hd 22 rfl) ?_
          refine jo_l (ly_mv rfl) (hd 23 rfl) ?_
          refine jo_l (ly_add rfl rfl (r := ((j + 1 : Nat) : Int)) (by rw [wrap_i64 (by omega) (by omega)]; omega)) (hd 24 rfl) ?_
          refine jo_l (ly_ian (i := j + 1) sl33 rfl rfl (by first | rfl | omega) (by omega)) (hd 25 rfl) ?_
          refine jo_l (ly_ldq one82 rfl rfl) (hd 26 rfl) ?_
          refine jo_l (ly_mul rfl rfl rfl) (hd 27 rfl) ?_
          refine jo_l (ly_add rfl rfl rfl) (hd 28 rfl) ?_
          refine jo_l (ly_as rfl) (hd 5 rfl) ?_
          refine jo_nil ?_
          refine ⟨IntKind.u64.wrap (l.getD j 0 + IntKind.u64.wrap (l.getD (j + 1) 0 * 4294967296)), ?_, rfl, cov_n 14 rfl rfl ?_⟩
          · exact lims2 (by omega)
          · exact (.cons rfl (.u (.u (.u (.u (.u (.u (.u (.u (.u (.u (.u (.u (.u .nil))))))))))))))
        · refine jc_skip ?_
          refine ⟨l.getD j 0, ?_, rfl, cov_n 5 rfl rfl ?_⟩
          · exact lims1 hjl (by omega)
          · exact (.cons rfl (.u (.u (.u (.u (.u (.u (.u (.u (.u (.u (.u (.u (.u .nil))))))))))))))
      · rintro v hv
        refine jc_region ?_
        refine jo_l (ly_mv rfl) (hd 29 rfl) ?_
        refine jo_l (ly_mv rfl) (hd 30 rfl) ?_
        refine jo_h (hy_lit (id := 1) (xs := [.tmp 30]) el25 rfl (ovL_cons rfl ovL_nil) rfl (all2_of rfl) (by decide) rfl) (hd 31 rfl) ?_
        refine jo_app el25 rfl rfl (by rw [ints_length, Nat.mul_one]) rfl (src_o rfl rfl rfl) (by show (acc.length + 1) * 8 ≤ _; omega) (by show acc.length + 1 ≤ 9223372036854775807; omega) (hd 32 rfl) ?_
        refine jo_l (ly_as rfl) (hd 3 rfl) ?_
        refine jo_nil ?_
        refine jc_region ?_
        refine jo_l (ly_mv rfl) (hd 10 rfl) ?_
        refine jo_l (ly_add rfl rfl (r := ((j + 2 : Nat) : Int)) (by rw [wrap_i64 (by omega) (by omega)]; omega)) (hd 11 rfl) ?_
        refine jo_l (ly_as rfl) (hd 4 rfl) ?_
        refine jo_nil ?_
        refine ⟨(j + 2, acc ++ [v]), ?_, ?_, (by show [(⟨82, 1, acc.length + 1, true, ints .u64 acc ++ ints .u64 [v]⟩ : Ob)] = [⟨82, 1, (acc ++ [v]).length, true, ints .u64 (acc ++ [v])⟩]; rw [ints_append, List.length_append]; rfl), cov_n 61 rfl rfl ?_⟩
        · exact ⟨by omega, by rw [List.append_assoc, List.singleton_append, ← hv]; exact hc2, by rw [List.length_append, List.length_singleton]; omega⟩
        · show l.length + 1 - (j + 2) < l.length + 1 - j
          omega
        · exact (.cons (by show some _ = some _; rw [List.length_append]; rfl) (.cons rfl (.u (.u (.u (.u (.u (.u (.u (.u (.u (.u (.u (.u (.u (.u (.u (.u (.u (.u (.u (.u (.u (.u (.u (.u (.u (.u (.u (.u .nil))))))))))))))))))))))))))))))
    · have hjl : l.length ≤ j := by
        have h0 : ¬ (j : Int) < (l.length : Int) := by assumption
        omega
      refine jc_exit ?_
      refine jc_seq ?_
      refine jc_region ?_
      refine jo_l (ly_mv rfl) (hd 33 rfl) ?_
      refine jo_l (ly_as rfl) (hd 2 rfl) ?_
      refine jo_nil ?_
      refine jc_ret ?_
      refine ⟨_, _, (.cons rfl .nil), (.o rfl (by simp) rfl), ?_⟩
      rw [List.drop_zero, List.take_length, ← hc2, List.drop_eq_nil_of_le hjl]
      simp only [lims, List.append_nil]

set_option maxHeartbeats 4000000 in
theorem Is_s (l : List Int) (hl : l.length < 4294967296) : Spec Try.prog 71 [.n false .u64 l, .n false .u64 (lims l)] (fun o => o = .ret (.b true)) := by
  refine spec_of' [(0, .n false .u64 l), (1, .n false .u64 (lims l))] rfl Try.func71 rfl (Nat.le_of_ble_eq_true rfl) fun Γ hN hds hL hR => ?_
  have hd : ∀ d, Nat.blt d 29 = true → d < Γ.N := fun d h => by rw [hN]; exact Nat.le_of_ble_eq_true h
  have hm := lims_len l
  refine jc_seq ?_
  refine jc_region ?_
  refine jo_l (ly_as rfl) (hd 4 rfl) ?_
  refine jo_nil ?_
  refine jc_seq ?_
  refine jc_region ?_
  refine jo_l (ly_mv rfl) (hd 7 rfl) ?_
  refine jo_call Try.f46 (Limbs_s l hl) rfl Try.func46 rfl rfl (ovL_cons rfl ovL_nil) (.cons .n .nil) (hd 8 rfl) ?_ (fun ch hp => by simp at hp)
  rintro y hy; injection hy with hy; subst hy
  refine jo_l (ly_as rfl) (hd 5 rfl) ?_
  refine jo_nil ?_
  refine jc_seq ?_
  refine jc_seq ?_
  refine jc_region ?_
  refine jo_l (ly_mv rfl) (hd 9 rfl) ?_
  refine jo_l (ly_lenn sl25 rfl) (hd 10 rfl) ?_
  refine jo_l (ly_mv rfl) (hd 11 rfl) ?_
  refine jo_l (ly_lenn sl25 rfl) (hd 12 rfl) ?_
  refine jo_l (ly_ff (ly_ne rfl rfl) (by simp)) (hd 13 rfl) ?_
  refine jo_nil ?_
  refine jc_litf rfl ?_
  refine jc_skip ?_
  refine jc_seq ?_
  refine jc_seq ?_
  refine jc_region ?_
  refine jo_l (ly_mv rfl) (hd 14 rfl) ?_
  refine jo_l (ly_lenn sl25 rfl) (hd 15 rfl) ?_
  refine jo_l (ly_mv rfl) (hd 16 rfl) ?_
  refine jo_nil ?_
  refine jc_block ?_
  refine jc_loopF (G := Nat) (fun i => i ≤ (lims l).length) (fun i => [(16, .i .i64 (i : Int)), (4, .u), (6, .u), (17, .u), (18, .u), (19, .u), (20, .u), (21, .u), (22, .u), (23, .u), (24, .u), (25, .u), (26, .u), (27, .u), (28, .u)]) (fun _ => _) (fun i => (lims l).length - i) 0 ?_ ?_ rfl ?_
  · exact Nat.zero_le _
  · exact (.cons rfl (.u (.u (.u (.u (.u (.u (.u (.u (.u (.u (.u (.u (.u (.u .nil)))))))))))))))
  · rintro i hc1
    refine jc_seq ?_
    refine jc_region ?_
    refine jo_l (ly_lt rfl rfl) (hd 17 rfl) ?_
    refine jo_nil ?_
    refine jc_seq ?_
    refine jc_if rfl (fun h2 => ?_) (fun h2 => ?_)
    · refine jc_skip ?_
      refine jc_seq ?_
      refine jc_block ?_
      refine jc_seq ?_
      refine jc_region ?_
      refine jo_l (ly_mv rfl) (hd 18 rfl) ?_
      refine jo_l (ly_as rfl) (hd 6 rfl) ?_
      refine jo_nil ?_
      refine jc_seq ?_
      refine jc_draw (n := 9) _ rfl mixed ?_
      refine ja_l2 0 [2, 3, 8] (lo_l (ly_mv rfl) (hd 19 rfl)) rfl (by kernel_rfl) (by kernel_rfl) (by kernel_rfl) (by kernel_rfl) (fun _ _ _ _ h => h) ?_
      refine ja_l2 1 [2, 3, 8] (lo_l (ly_mv rfl) (hd 20 rfl)) rfl (by kernel_rfl) (by kernel_rfl) (by kernel_rfl) (by kernel_rfl) (fun _ _ _ _ h => h) ?_
      refine ja_l2 2 [3, 8] (lo_l (ly_ian (i := i) sl25 rfl rfl (by first | rfl | omega) (by omega)) (hd 21 rfl)) rfl (by kernel_rfl) (by kernel_rfl) (by kernel_rfl) (by kernel_rfl) (fun _ _ _ _ h => h) ?_
      refine ja_l 3 (lo_l (ly_ldq one82 rfl rfl) (hd 22 rfl)) rfl (by kernel_rfl) (by kernel_rfl) (by kernel_rfl) (fun _ _ _ _ h => h) ?_
      refine ja_l2 4 [6, 7, 8] (lo_l (ly_mv rfl) (hd 23 rfl)) rfl (by kernel_rfl) (by kernel_rfl) (by kernel_rfl) (by kernel_rfl) (fun _ _ _ _ h => h) ?_
      refine ja_l2 5 [6, 7, 8] (lo_l (ly_mv rfl) (hd 24 rfl)) rfl (by kernel_rfl) (by kernel_rfl) (by kernel_rfl) (by kernel_rfl) (fun _ _ _ _ h => h) ?_
      refine ja_l2 6 [7, 8] (lo_l (ly_ian (i := i) sl25 rfl rfl (by first | rfl | omega) (by omega)) (hd 25 rfl)) rfl (by kernel_rfl) (by kernel_rfl) (by kernel_rfl) (by kernel_rfl) (fun _ _ _ _ h => h) ?_
      refine ja_l 7 (lo_l (ly_ldq one82 rfl rfl) (hd 26 rfl)) rfl (by kernel_rfl) (by kernel_rfl) (by kernel_rfl) (fun _ _ _ _ h => h) ?_
      refine ja_l 8 (lo_l (ly_ff (ly_ne rfl rfl) (by simp)) (hd 27 rfl)) rfl (by kernel_rfl) (by kernel_rfl) (by kernel_rfl) (fun _ _ _ _ h => h) ?_
      refine ja_nil (by kernel_rfl) ?_
      refine jc_litf rfl ?_
      refine jc_skip ?_
      refine jc_region ?_
      refine jo_l (ly_add rfl rfl (wrap_i64 (by omega) (by omega))) (hd 28 rfl) ?_
      refine jo_l (ly_mv rfl) (hd 16 rfl) ?_
      refine jo_nil ?_
      refine ⟨i + 1, ?_, ?_, rfl, cov_n 29 rfl rfl ?_⟩
      · omega
      · omega
      · exact (.cons rfl (.u (.u (.u (.u (.u (.u (.u (.u (.u (.u (.u (.u (.u (.u .nil)))))))))))))))
    · refine jc_exit ?_
      refine jc_seq ?_
      refine jc_region ?_
      refine jo_l (ly_as rfl) (hd 4 rfl) ?_
      refine jo_nil ?_
      refine jc_ret ?_
      refine ⟨_, _, (.cons rfl .nil), .b, ?_⟩
      exact rfl

set_option maxHeartbeats 4000000 in
theorem ZIs_s (s : Bool) (l : List Int) (hl : l.length < 4294967296) : Spec Try.prog 45 [.a [.b s, .n false .u64 l], .b s, .n false .u64 (lims l)] (fun o => o = .ret (.b true)) := by
  refine spec_of' [(0, .a [.b s, .n false .u64 l]), (1, .b s), (2, .n false .u64 (lims l))] rfl Try.func45 rfl (Nat.le_of_ble_eq_true rfl) fun Γ hN hds hL hR => ?_
  have hd : ∀ d, Nat.blt d 17 = true → d < Γ.N := fun d h => by rw [hN]; exact Nat.le_of_ble_eq_true h
  refine jc_seq ?_
  refine jc_region ?_
  refine jo_h (hy_box (id := 0) (n := 2) rfl rfl rfl (by decide) rfl) (hd 3 rfl) ?_
  refine jo_l (ly_as rfl) (hd 6 rfl) ?_
  refine jo_nil ?_
  refine jc_seq ?_
  refine jc_region ?_
  refine jo_l (ly_fa fld35_0 rfl rfl rfl) (hd 7 rfl) ?_
  refine jo_l (ly_ld one4 rfl rfl rfl) (hd 8 rfl) ?_
  refine jo_l (ly_mv rfl) (hd 9 rfl) ?_
  refine jo_l (ly_is (ly_eqb und4 rfl rfl) (show V.b (s == s) = V.b true by simp)) (hd 10 rfl) ?_
  refine jo_l (ly_mv rfl) (hd 11 rfl) ?_
  refine jo_g 11 rfl rfl (ly_fa fld35_1 rfl rfl rfl) (hd 12 rfl) ?_
  refine jo_g 11 rfl rfl (ly_ld one33 rfl rfl rfl) (hd 13 rfl) ?_
  refine jo_g 11 rfl rfl (ly_mv rfl) (hd 14 rfl) ?_
  refine jo_callg Try.f71 11 rfl rfl (Is_s l hl) rfl Try.func71 rfl rfl (ovL_cons rfl (ovL_cons rfl ovL_nil)) (.cons .n (.cons .n .nil)) (hd 15 rfl) ?_ (fun ch hp => by simp at hp)
  rintro y hy; injection hy with hy; subst hy
  refine jo_l (ly_pick_t rfl rfl) (hd 16 rfl) ?_
  refine jo_l (ly_as rfl) (hd 6 rfl) ?_
  refine jo_nil ?_
  refine jc_ret ?_
  refine ⟨_, _, (.cons rfl .nil), .b, ?_⟩
  exact rfl
end Go.Proofs.Ytcdipmjgpimmdaa.Vc
