/- Contracts of bits.Div64, div.divide for one limb each. -/
import Derived.Test.YtcdipmjgpimmdaaWh
set_option linter.unusedVariables false
set_option linter.unusedSimpArgs false
namespace Go.Proofs.Ytcdipmjgpimmdaa.Vc
open Go Go.RowKit
set_option maxHeartbeats 4000000 in
theorem Div64_0 (x d : Int) (hx0 : 0 ≤ x) (hx : x < 18446744073709551616) (hd0 : 0 < d) (hdm : d < 18446744073709551616) : Spec Try.prog 107 [.i .u64 0, .i .u64 x, .i .u64 d] (fun o => o = .ret (.t [.i .u64 (x / d), .i .u64 (x % d)])) := by
  refine spec_of' [(0, .i .u64 0), (1, .i .u64 x), (2, .i .u64 d)] rfl Try.func107 rfl (Nat.le_of_ble_eq_true rfl) fun Γ hN hds hL hR => ?_
  have hd : ∀ d, Nat.blt d 135 = true → d < Γ.N := fun d h => by rw [hN]; exact Nat.le_of_ble_eq_true h
  refine jc_seq ?_
  refine jc_region ?_
  refine jo_l (ly_as rfl) (hd 6 rfl) ?_
  refine jo_l (ly_as rfl) (hd 7 rfl) ?_
  refine jo_nil ?_
  refine jc_seq ?_
  refine jc_seq ?_
  refine jc_region ?_
  refine jo_l (ly_mv rfl) (hd 19 rfl) ?_
  refine jo_l (ly_ff (ly_eq rfl rfl) (by omega)) (hd 20 rfl) ?_
  refine jo_nil ?_
  refine jc_litf rfl ?_
  refine jc_skip ?_
  refine jc_seq ?_
  refine jc_seq ?_
  refine jc_region ?_
  refine jo_l (ly_mv rfl) (hd 22 rfl) ?_
  refine jo_l (ly_mv rfl) (hd 23 rfl) ?_
  refine jo_l (ly_ff (ly_le rfl rfl) (by omega)) (hd 24 rfl) ?_
  refine jo_nil ?_
  refine jc_litf rfl ?_
  refine jc_skip ?_
  refine jc_seq ?_
  refine jc_seq ?_
  refine jc_region ?_
  refine jo_l (ly_mv rfl) (hd 26 rfl) ?_
  refine jo_l (ly_tt (ly_eq rfl rfl) rfl) (hd 27 rfl) ?_
  refine jo_nil ?_
  refine jc_litt rfl ?_
  refine jc_seq ?_
  refine jc_draw (n := 8) _ rfl mixed ?_
  refine ja_l 0 (lo_l (ly_mv rfl) (hd 28 rfl)) rfl (by kernel_rfl) (by kernel_rfl) (by kernel_rfl) (fun _ _ _ _ h => h) ?_
  refine ja_l 1 (lo_l (ly_mv rfl) (hd 29 rfl)) rfl (by kernel_rfl) (by kernel_rfl) (by kernel_rfl) (fun _ _ _ _ h => h) ?_
  refine ja_l 2 (lo_l (ly_quo rfl rfl (by omega) (r := x / d) (by show IntKind.u64.wrap (Int.tdiv x d) = _; rw [Int.tdiv_eq_ediv_of_nonneg hx0]; exact wrap_u64 (Int.ediv_nonneg hx0 (by omega)) (Int.lt_of_le_of_lt (Int.ediv_le_self d hx0) hx))) (hd 30 rfl)) rfl (by kernel_rfl) (by kernel_rfl) (by kernel_rfl) (fun _ _ _ _ h => h) ?_
  refine ja_l 3 (lo_l (ly_mv rfl) (hd 31 rfl)) rfl (by kernel_rfl) (by kernel_rfl) (by kernel_rfl) (fun _ _ _ _ h => h) ?_
  refine ja_l 4 (lo_l (ly_mv rfl) (hd 32 rfl)) rfl (by kernel_rfl) (by kernel_rfl) (by kernel_rfl) (fun _ _ _ _ h => h) ?_
  refine ja_l 5 (lo_l (ly_is (ly_rem rfl rfl (by omega) rfl) (show V.i .u64 (x.tmod d) = V.i .u64 (x % d) by rw [Int.tmod_eq_emod_of_nonneg hx0])) (hd 33 rfl)) rfl (by kernel_rfl) (by kernel_rfl) (by kernel_rfl) (fun _ _ _ _ h => h) ?_
  refine ja_l 6 (lo_l (ly_as rfl) (hd 6 rfl)) rfl (by kernel_rfl) (by kernel_rfl) (by kernel_rfl) (fun _ _ _ _ h => h) ?_
  refine ja_l 7 (lo_l (ly_as rfl) (hd 7 rfl)) rfl (by kernel_rfl) (by kernel_rfl) (by kernel_rfl) (fun _ _ _ _ h => h) ?_
  refine ja_nil (by kernel_rfl) ?_
  refine jc_ret ?_
  refine ⟨_, _, (.cons rfl (.cons rfl .nil)), (.t1 .i (.t1 .i .t0)), ?_⟩
  exact rfl

set_option maxHeartbeats 4000000 in
theorem divide_1 (x d : Int) (hx0 : 0 ≤ x) (hx : x < 18446744073709551616) (hd0 : 0 < d) (hdm : d < 18446744073709551616) (hle : d ≤ x) : Spec Try.prog 93 [.n false .u64 [x], .n false .u64 [d]] (fun o => o = .ret (.t [.n true .u64 (trm [x / d]), .n true .u64 (if x % d = 0 then [] else [x % d])])) := by
  refine spec_of' [(0, .n false .u64 [x]), (1, .n false .u64 [d])] rfl Try.func93 rfl (Nat.le_of_ble_eq_true rfl) fun Γ hN hds hL hR => ?_
  have hd : ∀ d, Nat.blt d 104 = true → d < Γ.N := fun d h => by rw [hN]; exact Nat.le_of_ble_eq_true h
  have hcm : ¬ cmpL (trm [x]) (trm [d]) < 0 := by rw [trm1 (by omega), trm1 (by omega)]; exact cmp1 hle
  refine jc_seq ?_
  refine jc_region ?_
  refine jo_l (ly_as rfl) (hd 4 rfl) ?_
  refine jo_l (ly_as rfl) (hd 5 rfl) ?_
  refine jo_nil ?_
  refine jc_seq ?_
  refine jc_seq ?_
  refine jc_region ?_
  refine jo_l (ly_mv rfl) (hd 15 rfl) ?_
  refine jo_l (ly_mv rfl) (hd 16 rfl) ?_
  refine jo_call Try.f72 (Compare_s [x] [d] (by simp) (by simp)) rfl Try.func72 rfl rfl (ovL_cons rfl (ovL_cons rfl ovL_nil)) (.cons .n (.cons .n .nil)) (hd 17 rfl) ?_ (fun ch hp => by simp at hp)
  rintro y hy; injection hy with hy; subst hy
  refine jo_l (ly_ff (ly_lt rfl rfl) hcm) (hd 18 rfl) ?_
  refine jo_nil ?_
  refine jc_litf rfl ?_
  refine jc_skip ?_
  refine jc_seq ?_
  refine jc_seq ?_
  refine jc_region ?_
  refine jo_l (ly_mv rfl) (hd 20 rfl) ?_
  refine jo_l (ly_lenn sl28 rfl) (hd 21 rfl) ?_
  refine jo_l (ly_tt (ly_eq rfl rfl) rfl) (hd 22 rfl) ?_
  refine jo_nil ?_
  refine jc_litt rfl ?_
  refine jc_seq ?_
  refine jc_region ?_
  refine jo_l (ly_mv rfl) (hd 23 rfl) ?_
  refine jo_l (ly_lenn sl28 rfl) (hd 24 rfl) ?_
  refine jo_h (hy_mk (m := 1) el28 rfl rfl rfl (by decide) (by decide) rfl) (hd 25 rfl) ?_
  refine jo_l (ly_as rfl) (hd 6 rfl) ?_
  refine jo_l (ly_as rfl) (hd 7 rfl) ?_
  refine jo_nil ?_
  refine jc_seq ?_
  refine jc_seq ?_
  refine jc_region ?_
  refine jo_l (ly_mv rfl) (hd 26 rfl) ?_
  refine jo_l (ly_lenn sl28 rfl) (hd 27 rfl) ?_
  refine jo_l (ly_sub rfl rfl (r := 0) rfl) (hd 28 rfl) ?_
  refine jo_l (ly_as rfl) (hd 8 rfl) ?_
  refine jo_nil ?_
  refine jc_block ?_
  refine jc_loopF (G := Nat) (fun g => g ≤ 1) (fun g => [(7, .i .u64 (if g = 1 then 0 else x % d)), (8, .i .i64 ((g : Int) - 1)), (29, .u), (30, .u), (31, .u), (32, .u), (33, .u), (34, .u), (35, .u), (36, .u), (37, .u), (38, .u), (39, .u), (40, .u), (41, .u), (42, .u), (43, .u), (44, .u), (45, .u), (46, .u), (47, .u)]) (fun g => [⟨82, 1, 0, true, ints .u64 [if g = 1 then 0 else x / d]⟩]) (fun g => g) 1 ?_ ?_ rfl ?_
  · exact Nat.le_refl _
  · exact (.cons rfl (.cons rfl (.u (.u (.u (.u (.u (.u (.u (.u (.u (.u (.u (.u (.u (.u (.u (.u (.u (.u (.u .nil)))))))))))))))))))))
  · rintro k hc1
    refine jc_seq ?_
    refine jc_seq ?_
    refine jc_region ?_
    refine jo_l (ly_mv rfl) (hd 29 rfl) ?_
    refine jo_l (ly_ge rfl rfl) (hd 30 rfl) ?_
    refine jo_nil ?_
    refine jc_if rfl (fun h3 => ?_) (fun h3 => ?_)
    · obtain rfl : k = 1 := by omega
      refine jc_skip ?_
      refine jc_seq ?_
      refine jc_block ?_
      refine jc_draw (n := 17) _ rfl mixed ?_
      refine ja_l 0 (lo_l (ly_mv rfl) (hd 34 rfl)) rfl (by kernel_rfl) (by kernel_rfl) (by kernel_rfl) (fun _ _ _ _ h => h) ?_
      refine ja_l 1 (lo_l (ly_mv rfl) (hd 35 rfl)) rfl (by kernel_rfl) (by kernel_rfl) (by kernel_rfl) (fun _ _ _ _ h => h) ?_
      refine ja_l2 2 [10, 11, 12, 13, 14, 15, 16] (lo_l (ly_mv rfl) (hd 36 rfl)) rfl (by kernel_rfl) (by kernel_rfl) (by kernel_rfl) (by kernel_rfl) (fun _ _ _ _ h => h) ?_
      refine ja_l2 3 [5, 6, 10, 11, 12, 13, 14, 15, 16] (lo_l (ly_mv rfl) (hd 37 rfl)) rfl (by kernel_rfl) (by kernel_rfl) (by kernel_rfl) (by kernel_rfl) (fun _ _ _ _ h => h) ?_
      refine ja_l2 4 [5, 6, 10, 11, 12, 13, 14, 15, 16] (lo_l (ly_mv rfl) (hd 38 rfl)) rfl (by kernel_rfl) (by kernel_rfl) (by kernel_rfl) (by kernel_rfl) (fun _ _ _ _ h => h) ?_
      refine ja_l2 5 [6, 10, 11, 12, 13, 14, 15, 16] (lo_l (ly_ian (i := 0) sl28 rfl rfl rfl (by simp)) (hd 39 rfl)) rfl (by kernel_rfl) (by kernel_rfl) (by kernel_rfl) (by kernel_rfl) (fun _ _ _ _ h => h) ?_
      refine ja_l2 6 [10, 11, 12, 13, 14, 15, 16] (lo_l (ly_ldq one82 rfl rfl) (hd 40 rfl)) rfl (by kernel_rfl) (by kernel_rfl) (by kernel_rfl) (by kernel_rfl) (fun _ _ _ _ h => h) ?_
      refine ja_l2 7 [8, 9, 10, 11, 12, 13, 14, 15, 16] (lo_l (ly_mv rfl) (hd 41 rfl)) rfl (by kernel_rfl) (by kernel_rfl) (by kernel_rfl) (by kernel_rfl) (fun _ _ _ _ h => h) ?_
      refine ja_l2 8 [9, 10, 11, 12, 13, 14, 15, 16] (lo_l (ly_ian (i := 0) sl28 rfl rfl rfl (by simp)) (hd 42 rfl)) rfl (by kernel_rfl) (by kernel_rfl) (by kernel_rfl) (by kernel_rfl) (fun _ _ _ _ h => h) ?_
      refine ja_l2 9 [10, 11, 12, 13, 14, 15, 16] (lo_l (ly_ldq one82 rfl rfl) (hd 43 rfl)) rfl (by kernel_rfl) (by kernel_rfl) (by kernel_rfl) (by kernel_rfl) (fun _ _ _ _ h => h) ?_
      refine ja_1 10 ?_ rfl (by kernel_rfl)
      refine js_call Try.f107 (Div64_0 x d hx0 hx hd0 hdm) rfl Try.func107 rfl rfl (ovL_cons rfl (ovL_cons rfl (ovL_cons rfl ovL_nil))) (.cons .i (.cons .i (.cons .i .nil))) (hd 44 rfl) ?_ (fun ch hp => by simp at hp)
      rintro y hy; injection hy with hy; subst hy
      refine ja_l 11 (lo_l (ly_mv rfl) (hd 33 rfl)) rfl (by kernel_rfl) (by kernel_rfl) (by kernel_rfl) (fun _ _ _ _ h => h) ?_
      refine ja_l 12 (lo_l (ly_ext rfl rfl) (hd 45 rfl)) rfl (by kernel_rfl) (by kernel_rfl) (by kernel_rfl) (fun _ _ _ _ h => h) ?_
      refine ja_l 13 (lo_ext rfl rfl (hd 46 rfl)) rfl (by kernel_rfl) (by kernel_rfl) (by kernel_rfl) (fun _ _ _ _ h => h) ?_
      refine ja_l 14 (lo_l (ly_ia (i := 0) sl28 rfl rfl rfl rfl (Nat.le_refl 1) rfl) (hd 47 rfl)) rfl (by kernel_rfl) (by kernel_rfl) (by kernel_rfl) (fun _ _ _ _ h => h) ?_
      refine ja_1 15 ?_ rfl (by kernel_rfl)
      refine js_st (sy_storei rfl rfl rfl one82 (Nat.le_refl 1)) rfl ?_
      refine ja_l 16 (lo_l (ly_as rfl) (hd 7 rfl)) rfl (by kernel_rfl) (by kernel_rfl) (by kernel_rfl) (fun _ _ _ _ h => h) ?_
      refine ja_nil (by kernel_rfl) ?_
      refine jc_region ?_
      refine jo_l (ly_mv rfl) (hd 31 rfl) ?_
      refine jo_l (ly_sub rfl rfl (wrap_i64 (by omega) (by omega))) (hd 32 rfl) ?_
      refine jo_l (ly_as rfl) (hd 8 rfl) ?_
      refine jo_nil ?_
      refine ⟨0, ?_, ?_, rfl, cov_n 42 rfl rfl ?_⟩
      · exact Nat.zero_le _
      · exact Nat.zero_lt_succ _
      · exact (.cons rfl (.cons rfl (.u (.u (.u (.u (.u (.u (.u (.u (.u (.u (.u (.u (.u (.u (.u (.u (.u (.u (.u .nil)))))))))))))))))))))
    · obtain rfl : k = 0 := by omega
      refine jc_exit ?_
      refine jc_seq ?_
      refine jc_region ?_
      refine jo_frz (k := .u64) (l := [x / d]) (l' := [x / d]) 6 rfl rfl (Nat.le_refl _) rfl hL ?_
      refine jo_l (ly_mv rfl) (hd 48 rfl) ?_
      refine jo_call Try.f86 (Norm_s [x / d] (by simp)) rfl Try.func86 rfl rfl (ovL_cons rfl ovL_nil) (.cons .n .nil) (hd 49 rfl) ?_ (fun ch hp => by simp at hp)
      rintro y hy; injection hy with hy; subst hy
      refine jo_l (ly_mv rfl) (hd 50 rfl) ?_
      refine jo_call Try.f70 (From_s (x % d)) rfl Try.func70 rfl rfl (ovL_cons rfl ovL_nil) (.cons .i .nil) (hd 51 rfl) ?_ (fun ch hp => by simp at hp)
      rintro y hy; injection hy with hy; subst hy
      refine jo_l (ly_as rfl) (hd 4 rfl) ?_
      refine jo_l (ly_as rfl) (hd 5 rfl) ?_
      refine jo_nil ?_
      refine jc_ret ?_
      refine ⟨_, _, (.cons rfl (.cons rfl .nil)), (.t1 .n (.t1 .n .t0)), ?_⟩
      exact rfl
end Go.Proofs.Ytcdipmjgpimmdaa.Vc
