/- The card of the law WholeMasks of surdlaw06: it returns true for every two whole numbers and every place of bulk at most 1048576 where the table of math/bits lies as the program lays it Texts joined: Wj, Wk, Wl, Wm, Wn, Wo, Wp, Wq, Wr, Ws, Wt, Wv, Wx, Wy, Wz, Ya, Yb, Ye, Yg, Yh, Yi, Yj, Yk, Yl, Ym, Yn, Yo, Yp, Yq, Ys, Yz, Pa, Pb, Pc, Pd, Pe, Pf, Pg, Ph, Pi, Pj, Pp, Pr, Pt, Za, Ub, Uc, Ud, Ue, Uf, Ug. -/
import Derived.Test.YtaogaegchagbfaaDoorK3
set_option linter.unusedVariables false
set_option linter.unusedSimpArgs false
/- Contracts of div.Both for one limb each; whole.norm, fits, result, Of. -/
namespace Go.Proofs.YtaogaegchagbfaaDoor.Vc
open Go Go.RowKit
set_option maxHeartbeats 4000000 in
theorem Both_1 (x d : Int) (hx0 : 0 ≤ x) (hx : x < 18446744073709551616) (hd0 : 0 < d) (hdm : d < 18446744073709551616) (hle : d ≤ x) : Spec Tryd.prog 97 [.n false .u64 [x], .n false .u64 [d]] (fun o => o = .ret (.t [.n true .u64 (trm [x / d]), .n true .u64 (if x % d = 0 then [] else [x % d]), .i .i64 0])) := by
  refine spec_of' [(0, .n false .u64 [x]), (1, .n false .u64 [d])] rfl Tryd.func97 rfl (Nat.le_of_ble_eq_true rfl) fun Γ hN hds hL hR => ?_
  have hd : ∀ d, Nat.blt d 32 = true → d < Γ.N := fun d h => by rw [hN]; exact Nat.le_of_ble_eq_true h
  have ex : trm [x] = [x] := trm1 (by omega)
  have ed : trm [d] = [d] := trm1 (by omega)
  have rx : Spec Tryd.prog 75 [.n false .u64 [x]] (fun o => o = .ret (.n true .u64 [x])) := by have h := Norm_s [x] (by simp); rwa [ex] at h
  have rd : Spec Tryd.prog 75 [.n false .u64 [d]] (fun o => o = .ret (.n true .u64 [d])) := by have h := Norm_s [d] (by simp); rwa [ed] at h
  have hq := u64s1 (v := x / d) (Int.ediv_nonneg hx0 (by omega)) (Int.lt_of_le_of_lt (Int.ediv_le_self d hx0) hx)
  have hm1 := trm_len [x / d]
  have hr0 : 0 ≤ x % d := Int.emod_nonneg x (by omega)
  have hr1 : x % d < d := Int.emod_lt_of_pos x hd0
  have hL1 := lenN_le (trm [x / d])
  have hL2 := lenN_le (if x % d = 0 then [] else [x % d])
  have hrl : (if x % d = 0 then [] else [x % d] : List Int).length ≤ 1 := by split <;> simp
  have hru : u64s (if x % d = 0 then [] else [x % d]) := by
    split
    · intro y hy; cases hy
    · exact u64s1 hr0 (by omega)
  simp only [List.length_singleton] at hm1
  refine jc_seq ?_; refine jc_region ?_; refine jo_l (ly_as rfl) (hd 4 rfl) ?_; refine jo_l (ly_as rfl) (hd 5 rfl) ?_; refine jo_l (ly_as rfl) (hd 6 rfl) ?_; refine jo_nil ?_; refine jc_seq ?_; refine jc_region ?_; refine jo_l (ly_mv rfl) (hd 9 rfl) ?_
  refine jo_call Tryd.f75 (rx) rfl Tryd.func75 rfl rfl (ovL_cons rfl ovL_nil) (.cons .n .nil) (hd 10 rfl) ?_ (fun ch hp => by simp at hp)
  rintro y hy; injection hy with hy; subst hy; refine jo_l (ly_mv rfl) (hd 11 rfl) ?_
  refine jo_call Tryd.f75 (rd) rfl Tryd.func75 rfl rfl (ovL_cons rfl ovL_nil) (.cons .n .nil) (hd 12 rfl) ?_ (fun ch hp => by simp at hp)
  rintro y hy; injection hy with hy; subst hy; refine jo_l (ly_as rfl) (hd 0 rfl) ?_; refine jo_l (ly_as rfl) (hd 1 rfl) ?_; refine jo_nil ?_; refine jc_seq ?_; refine jc_seq ?_; refine jc_region ?_; refine jo_l (ly_mv rfl) (hd 13 rfl) ?_; refine jo_l (ly_lenn sl28 rfl) (hd 14 rfl) ?_; refine jo_l (ly_ff (ly_eq rfl rfl) (by simp)) (hd 15 rfl) ?_; refine jo_nil ?_; refine jc_litf rfl ?_; refine jc_skip ?_; refine jc_seq ?_; refine jc_region ?_; refine jo_l (ly_mv rfl) (hd 17 rfl) ?_; refine jo_l (ly_mv rfl) (hd 18 rfl) ?_
  refine jo_call Tryd.f92 (divide_1 x d hx0 hx hd0 hdm hle) rfl Tryd.func92 rfl rfl (ovL_cons rfl (ovL_cons rfl ovL_nil)) (.cons .n (.cons .n .nil)) (hd 19 rfl) ?_ (fun ch hp => by simp at hp)
  rintro y hy; injection hy with hy; subst hy; refine jo_l (ly_mv rfl) (hd 16 rfl) ?_; refine jo_l (ly_ext rfl rfl) (hd 20 rfl) ?_; refine jo_l (ly_ext rfl rfl) (hd 21 rfl) ?_; refine jo_l (ly_as rfl) (hd 7 rfl) ?_; refine jo_l (ly_as rfl) (hd 8 rfl) ?_; refine jo_nil ?_; refine jc_seq ?_; refine jc_seq ?_; refine jc_region ?_; refine jo_l (ly_mv rfl) (hd 22 rfl) ?_
  refine jo_call Tryd.f71 (Length_s (trm [x / d]) (by omega) (u64s_trm hq)) rfl Tryd.func71 rfl rfl (ovL_cons rfl ovL_nil) (.cons .n .nil) (hd 23 rfl) ?_ (fun ch hp => by simp at hp)
  rintro y hy; injection hy with hy; subst hy; refine jo_l (ly_ff (ly_gt rfl rfl) (by omega)) (hd 24 rfl) ?_; refine jo_l (ly_mv rfl) (hd 25 rfl) ?_; refine jo_g 25 rfl rfl (ly_mv rfl) (hd 26 rfl) ?_
  refine jo_callg Tryd.f71 25 rfl rfl (Length_s _ (by omega) hru) rfl Tryd.func71 rfl rfl (ovL_cons rfl ovL_nil) (.cons .n .nil) (hd 27 rfl) ?_ (fun ch hp => by simp at hp)
  rintro y hy; injection hy with hy; subst hy; refine jo_g 25 rfl rfl (ly_ff (ly_gt rfl rfl) (by omega)) (hd 28 rfl) ?_; refine jo_l (ly_pick_f rfl rfl) (hd 29 rfl) ?_; refine jo_nil ?_; refine jc_litf rfl ?_; refine jc_skip ?_; refine jc_seq ?_; refine jc_region ?_; refine jo_l (ly_mv rfl) (hd 30 rfl) ?_; refine jo_l (ly_mv rfl) (hd 31 rfl) ?_; refine jo_l (ly_as rfl) (hd 4 rfl) ?_; refine jo_l (ly_as rfl) (hd 5 rfl) ?_; refine jo_l (ly_as rfl) (hd 6 rfl) ?_; refine jo_nil ?_; refine jc_ret ?_
  refine ⟨_, _, (.cons rfl (.cons rfl (.cons rfl .nil))), (.t1 .n (.t1 .n (.t1 .i .t0))), ?_⟩
  exact rfl

set_option maxHeartbeats 4000000 in
theorem norm_s (s : Bool) (l : List Int) (hl : l.length < 1099511627776) : Spec Tryd.prog 59 [.a [.b s, .n false .u64 l]] (fun o => o = .ret (.a [.b (s && decide (0 < ((trm l).length : Int))), .n true .u64 (trm l)])) := by
  refine spec_of' [(0, .a [.b s, .n false .u64 l])] rfl Tryd.func59 rfl (Nat.le_of_ble_eq_true rfl) fun Γ hN hds hL hR => ?_
  have hd : ∀ d, Nat.blt d 16 = true → d < Γ.N := fun d h => by rw [hN]; exact Nat.le_of_ble_eq_true h
  refine jc_seq ?_; refine jc_region ?_; refine jo_h (hy_box (id := 0) (n := 2) rfl rfl rfl (by decide) rfl) (hd 1 rfl) ?_; refine jo_h (hy_alloc (id := 1) zero30 (by decide) rfl (by decide) rfl) (hd 2 rfl) ?_; refine jo_nil ?_; refine jc_seq ?_; refine jc_region ?_; refine jo_l (ly_fa fld30_1 rfl rfl rfl) (hd 4 rfl) ?_; refine jo_l (ly_ld one28 rfl rfl rfl) (hd 5 rfl) ?_
  refine jo_call Tryd.f75 (Norm_s l hl) rfl Tryd.func75 rfl rfl (ovL_cons rfl ovL_nil) (.cons .n .nil) (hd 6 rfl) ?_ (fun ch hp => by simp at hp)
  rintro y hy; injection hy with hy; subst hy; refine jo_l (ly_as rfl) (hd 3 rfl) ?_; refine jo_nil ?_; refine jc_seq ?_; refine jc_region ?_; refine jo_l (ly_fa fld30_0 rfl rfl rfl) (hd 7 rfl) ?_; refine jo_l (ly_ld one4 rfl rfl rfl) (hd 8 rfl) ?_; refine jo_l (ly_mv rfl) (hd 9 rfl) ?_
  refine jo_split 9 rfl (fun h1 => ?_) (fun h1 => ?_)
  · refine jo_g 9 rfl rfl (ly_mv rfl) (hd 10 rfl) ?_; refine jo_g 9 rfl rfl (ly_lenn sl28 rfl) (hd 11 rfl) ?_; refine jo_g 9 rfl rfl (ly_gt rfl rfl) (hd 12 rfl) ?_; refine jo_l (ly_pick_t rfl rfl) (hd 13 rfl) ?_; refine jo_l (ly_mv rfl) (hd 14 rfl) ?_; refine jo_l (ly_build (is := [0, 1]) (xs := [.tmp 13, .tmp 14]) zero30 pls30_0_1 rfl (ovL_cons rfl (ovL_cons rfl ovL_nil)) rfl (by first | (simp [plsOk, cellsV]; done) | (simp [plsOk, cellsV, old]; done)) (all_of rfl) rfl) (hd 15 rfl) ?_; refine jo_st (sy_store rfl rfl rfl siz30 rfl rfl (Nat.le_of_ble_eq_true rfl)) ?_; refine jo_nil ?_; refine jc_ret ?_
    refine ⟨_, _, (.cons (ResV.cell agg30 rfl rfl rfl rfl) .nil), (.a1 .b (.a1 .n .a0)), ?_⟩
    simp_all
  · refine jo_s 9 rfl rfl rfl (hd 10 rfl) ?_; refine jo_s 9 rfl rfl rfl (hd 11 rfl) ?_; refine jo_s 9 rfl rfl rfl (hd 12 rfl) ?_; refine jo_l (ly_pick_f rfl rfl) (hd 13 rfl) ?_; refine jo_l (ly_mv rfl) (hd 14 rfl) ?_; refine jo_l (ly_build (is := [0, 1]) (xs := [.tmp 13, .tmp 14]) zero30 pls30_0_1 rfl (ovL_cons rfl (ovL_cons rfl ovL_nil)) rfl (by first | (simp [plsOk, cellsV]; done) | (simp [plsOk, cellsV, old]; done)) (all_of rfl) rfl) (hd 15 rfl) ?_; refine jo_st (sy_store rfl rfl rfl siz30 rfl rfl (Nat.le_of_ble_eq_true rfl)) ?_; refine jo_nil ?_; refine jc_ret ?_
    refine ⟨_, _, (.cons (ResV.cell agg30 rfl rfl rfl rfl) .nil), (.a1 .b (.a1 .n .a0)), ?_⟩
    simp_all

set_option maxHeartbeats 4000000 in
theorem fits_ok (s : Bool) (l : List Int) (hl : l.length < 1099511627776) (hu : u64s l) (h : lenN l ≤ 67108864) : Spec Tryd.prog 90 [.a [.b s, .n false .u64 l]] (fun o => o = .ret (.t [.a [.b (s && decide (0 < ((trm l).length : Int))), .n true .u64 (trm l)], .i .i64 0])) := by
  refine spec_of' [(0, .a [.b s, .n false .u64 l])] rfl Tryd.func90 rfl (Nat.le_of_ble_eq_true rfl) fun Γ hN hds hL hR => ?_
  have hd : ∀ d, Nat.blt d 11 = true → d < Γ.N := fun d h => by rw [hN]; exact Nat.le_of_ble_eq_true h
  refine jc_seq ?_; refine jc_region ?_; refine jo_h (hy_box (id := 0) (n := 2) rfl rfl rfl (by decide) rfl) (hd 1 rfl) ?_; refine jo_h (hy_alloc (id := 1) zero30 (by decide) rfl (by decide) rfl) (hd 2 rfl) ?_; refine jo_l (ly_as rfl) (hd 3 rfl) ?_; refine jo_nil ?_; refine jc_seq ?_; refine jc_seq ?_; refine jc_region ?_; refine jo_l (ly_fa fld30_1 rfl rfl rfl) (hd 4 rfl) ?_; refine jo_l (ly_ld one28 rfl rfl rfl) (hd 5 rfl) ?_
  refine jo_call Tryd.f71 (Length_s l hl hu) rfl Tryd.func71 rfl rfl (ovL_cons rfl ovL_nil) (.cons .n .nil) (hd 6 rfl) ?_ (fun ch hp => by simp at hp)
  rintro y hy; injection hy with hy; subst hy; refine jo_l (ly_ff (ly_gt rfl rfl) (by omega)) (hd 7 rfl) ?_; refine jo_nil ?_; refine jc_litf rfl ?_; refine jc_skip ?_; refine jc_seq ?_; refine jc_region ?_; refine jo_l (ly_lda agg30 rfl rfl rfl rfl) (hd 9 rfl) ?_
  refine jo_call Tryd.f59 (norm_s s l hl) rfl Tryd.func59 rfl rfl (ovL_cons rfl ovL_nil) (.cons (.a1 .b (.a1 .n .a0)) .nil) (hd 10 rfl) ?_ (fun ch hp => by simp at hp)
  rintro y hy; injection hy with hy; subst hy; refine jo_st (sy_store rfl rfl rfl siz30 rfl rfl (Nat.le_of_ble_eq_true rfl)) ?_; refine jo_l (ly_as rfl) (hd 3 rfl) ?_; refine jo_nil ?_; refine jc_ret ?_
  refine ⟨_, _, (.cons (ResV.cell agg30 rfl rfl rfl rfl) (.cons rfl .nil)), (.t1 (.a1 .b (.a1 .n .a0)) (.t1 .i .t0)), ?_⟩
  exact rfl

set_option maxHeartbeats 4000000 in
theorem result_ok (s : Bool) (l : List Int) (hl : l.length < 1099511627776) (hu : u64s l) (h : lenN l ≤ 67108864) : Spec Tryd.prog 61 [.b s, .n false .u64 l, .i .i64 0] (fun o => o = .ret (.t [.a [.b (s && decide (0 < ((trm l).length : Int))), .n true .u64 (trm l)], .i .i64 0])) := by
  refine spec_of' [(0, .b s), (1, .n false .u64 l), (2, .i .i64 0)] rfl Tryd.func61 rfl (Nat.le_of_ble_eq_true rfl) fun Γ hN hds hL hR => ?_
  have hd : ∀ d, Nat.blt d 18 = true → d < Γ.N := fun d h => by rw [hN]; exact Nat.le_of_ble_eq_true h
  refine jc_seq ?_; refine jc_region ?_; refine jo_h (hy_alloc (id := 0) zero30 (by decide) rfl (by decide) rfl) (hd 6 rfl) ?_; refine jo_l (ly_as rfl) (hd 7 rfl) ?_; refine jo_nil ?_; refine jc_seq ?_; refine jc_seq ?_; refine jc_region ?_; refine jo_l (ly_mv rfl) (hd 8 rfl) ?_; refine jo_l (ly_ff (ly_ne rfl rfl) (by simp)) (hd 9 rfl) ?_; refine jo_nil ?_; refine jc_litf rfl ?_; refine jc_skip ?_; refine jc_seq ?_; refine jc_region ?_; refine jo_l (ly_mv rfl) (hd 12 rfl) ?_; refine jo_l (ly_mv rfl) (hd 13 rfl) ?_; refine jo_l (ly_build (is := [0, 1]) (xs := [.tmp 12, .tmp 13]) zero30 pls30_0_1 rfl (ovL_cons rfl (ovL_cons rfl ovL_nil)) rfl (by first | (simp [plsOk, cellsV]; done) | (simp [plsOk, cellsV, old]; done)) (all_of rfl) rfl) (hd 14 rfl) ?_
  refine jo_call Tryd.f90 (fits_ok s l hl hu h) rfl Tryd.func90 rfl rfl (ovL_cons rfl ovL_nil) (.cons (.a1 .b (.a1 .n .a0)) .nil) (hd 15 rfl) ?_ (fun ch hp => by simp at hp)
  rintro y hy; injection hy with hy; subst hy; refine jo_l (ly_ext rfl rfl) (hd 16 rfl) ?_; refine jo_l (ly_ext rfl rfl) (hd 17 rfl) ?_; refine jo_st (sy_store rfl rfl rfl siz30 rfl rfl (Nat.le_of_ble_eq_true rfl)) ?_; refine jo_l (ly_as rfl) (hd 7 rfl) ?_; refine jo_nil ?_; refine jc_ret ?_
  refine ⟨_, _, (.cons (ResV.cell agg30 rfl rfl rfl rfl) (.cons rfl .nil)), (.t1 (.a1 .b (.a1 .n .a0)) (.t1 .i .t0)), ?_⟩
  exact rfl

set_option maxHeartbeats 4000000 in
theorem Of_neg (v : Int) (h0 : v < 0) (h1 : -9223372036854775808 ≤ v) : Spec Tryd.prog 58 [.i .i64 v] (fun o => o = .ret (.a [.b true, .n true .u64 [-v]])) := by
  refine spec_of' [(0, .i .i64 v)] rfl Tryd.func58 rfl (Nat.le_of_ble_eq_true rfl) fun Γ hN hds hL hR => ?_
  have hd : ∀ d, Nat.blt d 14 = true → d < Γ.N := fun d h => by rw [hN]; exact Nat.le_of_ble_eq_true h
  have rF : Spec Tryd.prog 68 [.i .u64 (-v)] (fun o => o = .ret (.n true .u64 [-v])) := by have h := From_s (-v); rwa [if_neg (by omega)] at h
  refine jc_seq ?_; refine jc_region ?_; refine jo_h (hy_alloc (id := 0) zero30 (by decide) rfl (by decide) rfl) (hd 2 rfl) ?_; refine jo_nil ?_; refine jc_seq ?_; refine jc_seq ?_; refine jc_region ?_; refine jo_l (ly_mv rfl) (hd 3 rfl) ?_; refine jo_l (ly_tt (ly_lt rfl rfl) (by omega)) (hd 4 rfl) ?_; refine jo_nil ?_; refine jc_litt rfl ?_; refine jc_seq ?_; refine jc_region ?_; refine jo_l (ly_mv rfl) (hd 5 rfl) ?_; refine jo_l (ly_conv und3 und82 rfl (r := v + 18446744073709551616) (wrap_u64' (by omega) (by omega) (by omega))) (hd 6 rfl) ?_; refine jo_l (ly_neg rfl (r := -v) (wrap_u64' (by omega) (by omega) (by omega))) (hd 7 rfl) ?_
  refine jo_call Tryd.f68 (rF) rfl Tryd.func68 rfl rfl (ovL_cons rfl ovL_nil) (.cons .i .nil) (hd 8 rfl) ?_ (fun ch hp => by simp at hp)
  rintro y hy; injection hy with hy; subst hy; refine jo_l (ly_build (is := [0, 1]) (xs := [.const (.bool true), .tmp 8]) zero30 pls30_0_1 rfl (ovL_cons rfl (ovL_cons rfl ovL_nil)) rfl (by first | (simp [plsOk, cellsV]; done) | (simp [plsOk, cellsV, old]; done)) (all_of rfl) rfl) (hd 9 rfl) ?_; refine jo_st (sy_store rfl rfl rfl siz30 rfl rfl (Nat.le_of_ble_eq_true rfl)) ?_; refine jo_nil ?_; refine jc_ret ?_
  refine ⟨_, _, (.cons (ResV.cell agg30 rfl rfl rfl rfl) .nil), (.a1 .b (.a1 .n .a0)), ?_⟩
  exact rfl

set_option maxHeartbeats 4000000 in
theorem Of_pos (v : Int) (h0 : 0 < v) (h1 : v < 9223372036854775808) : Spec Tryd.prog 58 [.i .i64 v] (fun o => o = .ret (.a [.b false, .n true .u64 [v]])) := by
  refine spec_of' [(0, .i .i64 v)] rfl Tryd.func58 rfl (Nat.le_of_ble_eq_true rfl) fun Γ hN hds hL hR => ?_
  have hd : ∀ d, Nat.blt d 14 = true → d < Γ.N := fun d h => by rw [hN]; exact Nat.le_of_ble_eq_true h
  have rF : Spec Tryd.prog 68 [.i .u64 v] (fun o => o = .ret (.n true .u64 [v])) := by have h := From_s v; rwa [if_neg (by omega)] at h
  refine jc_seq ?_; refine jc_region ?_; refine jo_h (hy_alloc (id := 0) zero30 (by decide) rfl (by decide) rfl) (hd 2 rfl) ?_; refine jo_nil ?_; refine jc_seq ?_; refine jc_seq ?_; refine jc_region ?_; refine jo_l (ly_mv rfl) (hd 3 rfl) ?_; refine jo_l (ly_ff (ly_lt rfl rfl) (by omega)) (hd 4 rfl) ?_; refine jo_nil ?_; refine jc_litf rfl ?_; refine jc_skip ?_; refine jc_seq ?_; refine jc_region ?_; refine jo_l (ly_mv rfl) (hd 10 rfl) ?_; refine jo_l (ly_conv und3 und82 rfl (wrap_u64 (by omega) (by omega))) (hd 11 rfl) ?_
  refine jo_call Tryd.f68 (rF) rfl Tryd.func68 rfl rfl (ovL_cons rfl ovL_nil) (.cons .i .nil) (hd 12 rfl) ?_ (fun ch hp => by simp at hp)
  rintro y hy; injection hy with hy; subst hy; refine jo_l (ly_build (is := [1]) (xs := [.tmp 12]) zero30 pls30_1 rfl (ovL_cons rfl ovL_nil) rfl (by first | (simp [plsOk, cellsV]; done) | (simp [plsOk, cellsV, old]; done)) (all_of rfl) rfl) (hd 13 rfl) ?_; refine jo_st (sy_store rfl rfl rfl siz30 rfl rfl (Nat.le_of_ble_eq_true rfl)) ?_; refine jo_nil ?_; refine jc_ret ?_
  refine ⟨_, _, (.cons (ResV.cell agg30 rfl rfl rfl rfl) .nil), (.a1 .b (.a1 .n .a0)), ?_⟩
  exact rfl
end Go.Proofs.YtaogaegchagbfaaDoor.Vc

/- The contracts of the example (awake) and of surdlaw06.WholeNames. -/
namespace Go.Proofs.YtaogaegchagbfaaDoor.Vc
open Go Go.RowKit
set_option maxHeartbeats 4000000 in
theorem num_s (n : Int) : Spec Tryd.prog 14 [.i .i64 n] (fun o => o = .ret (.i .i64 n)) := by
  refine spec_of' [(0, .i .i64 n)] rfl Tryd.func14 rfl (Nat.le_of_ble_eq_true rfl) fun Γ hN hds hL hR => ?_
  have hd : ∀ d, Nat.blt d 4 = true → d < Γ.N := fun d h => by rw [hN]; exact Nat.le_of_ble_eq_true h
  refine jc_seq ?_; refine jc_region ?_; refine jo_l (ly_as rfl) (hd 2 rfl) ?_; refine jo_nil ?_; refine jc_seq ?_; refine jc_region ?_; refine jo_l (ly_mv rfl) (hd 3 rfl) ?_; refine jo_l (ly_as rfl) (hd 2 rfl) ?_; refine jo_nil ?_; refine jc_ret ?_
  refine ⟨_, _, (.cons rfl .nil), .i, ?_⟩
  exact rfl

set_option maxHeartbeats 4000000 in
theorem down_s (q r b : List Int) (s t u : Bool) : Spec Tryd.prog 107 [.n false .u64 q, .n false .u64 r, .n false .u64 b, .b s, .b t, .b u] (fun o => o = .ret (.b s)) := by
  refine spec_of' [(0, .n false .u64 q), (1, .n false .u64 r), (2, .n false .u64 b), (3, .b s), (4, .b t), (5, .b u)] rfl Tryd.func107 rfl (Nat.le_of_ble_eq_true rfl) fun Γ hN hds hL hR => ?_
  have hd : ∀ d, Nat.blt d 14 = true → d < Γ.N := fun d h => by rw [hN]; exact Nat.le_of_ble_eq_true h
  refine jc_seq ?_; refine jc_region ?_; refine jo_l (ly_as rfl) (hd 12 rfl) ?_; refine jo_nil ?_; refine jc_seq ?_; refine jc_region ?_; refine jo_l (ly_mv rfl) (hd 13 rfl) ?_; refine jo_l (ly_as rfl) (hd 12 rfl) ?_; refine jo_nil ?_; refine jc_ret ?_
  refine ⟨_, _, (.cons rfl .nil), .b, ?_⟩
  exact rfl

set_option maxHeartbeats 4000000 in
set_option maxRecDepth 100000 in
theorem ways_s  : Spec Tryd.prog 98 [] (fun o => o = .ret (.a [.f 106 [], .f 107 [], .f 108 [], .f 109 [], .f 110 []])) := by
  refine spec_of' [] rfl Tryd.func98 rfl (Nat.le_of_ble_eq_true rfl) fun Γ hN hds hL hR => ?_
  have hd : ∀ d, Nat.blt d 2 = true → d < Γ.N := fun d h => by rw [hN]; exact Nat.le_of_ble_eq_true h
  refine jc_seq ?_; refine jc_region ?_; refine jo_h (hy_alloc (id := 0) zero102 (by decide) rfl (by decide) rfl) (hd 0 rfl) ?_; refine jo_nil ?_; refine jc_seq ?_; refine jc_region ?_; refine jo_l (ly_const (v := .agg #[.func (.func 106) #[] #[], .func (.func 107) #[] #[], .func (.func 108) #[] #[], .func (.func 109) #[] #[], .func (.func 110) #[] #[]]) (y := .a [.f 106 [], .f 107 [], .f 108 [], .f 109 [], .f 110 []]) (fun _ _ _ _ => ⟨[.func (.func 106) #[] #[], .func (.func 107) #[] #[], .func (.func 108) #[] #[], .func (.func 109) #[] #[], .func (.func 110) #[] #[]], rfl, _, _, rfl, ⟨[], rfl, rfl⟩, _, _, rfl, ⟨[], rfl, rfl⟩, _, _, rfl, ⟨[], rfl, rfl⟩, _, _, rfl, ⟨[], rfl, rfl⟩, _, _, rfl, ⟨[], rfl, rfl⟩, rfl⟩) (by intro a dst type pos after g w2; kernel_rfl)) (hd 1 rfl) ?_; refine jo_st (sy_store rfl rfl rfl siz102 rfl rfl (Nat.le_of_ble_eq_true rfl)) ?_; refine jo_nil ?_; refine jc_ret ?_
  refine ⟨_, _, (.cons (ResV.cell agg102 rfl rfl rfl rfl) .nil), (.a1 .f (.a1 .f (.a1 .f (.a1 .f (.a1 .f .a0))))), ?_⟩
  exact rfl

set_option maxHeartbeats 4000000 in
theorem divide_ex  : Spec Tryd.prog 86 [.a [.b true, .n false .u64 [7]], .a [.b false, .n false .u64 [2]], .i .i64 1] (fun o => o = .ret (.t [.a [.b true, .n true .u64 [4]], .a [.b false, .n true .u64 [1]], .i .i64 0])) := by
  refine spec_of' [(0, .a [.b true, .n false .u64 [7]]), (1, .a [.b false, .n false .u64 [2]]), (2, .i .i64 1)] rfl Tryd.func86 rfl (Nat.le_of_ble_eq_true rfl) fun Γ hN hds hL hR => ?_
  have hd : ∀ d, Nat.blt d 103 = true → d < Γ.N := fun d h => by rw [hN]; exact Nat.le_of_ble_eq_true h
  have rA : Spec Tryd.prog 59 [.a [.b true, .n false .u64 [7]]] (fun o => o = .ret (.a [.b true, .n true .u64 [7]])) := norm_s true [7] (by decide)
  have rB : Spec Tryd.prog 59 [.a [.b false, .n false .u64 [2]]] (fun o => o = .ret (.a [.b false, .n true .u64 [2]])) := norm_s false [2] (by decide)
  have rD : Spec Tryd.prog 97 [.n false .u64 [7], .n false .u64 [2]] (fun o => o = .ret (.t [.n true .u64 [3], .n true .u64 [1], .i .i64 0])) := Both_1 7 2 (by decide) (by decide) (by decide) (by decide) (by decide)
  have rL : Spec Tryd.prog 71 [.n false .u64 [1]] (fun o => o = .ret (.i .i64 1)) := by have h := Length_s [1] (by decide) (u64s1 (v := 1) (by decide) (by decide)); rw [show lenN [1] = 1 by decide] at h; exact h
  have rF1 : Spec Tryd.prog 68 [.i .u64 1] (fun o => o = .ret (.n true .u64 [1])) := From_s 1
  have rS : Spec Tryd.prog 60 [.n false .u64 [3], .n false .u64 [1]] (fun o => o = .ret (.t [.n false .u64 [4], .i .i64 0])) := by have h := Add_ok [3] [1] (by decide) (by decide) (u64s1 (v := 3) (by decide) (by decide)) (u64s1 (v := 1) (by decide) (by decide)) (by decide); rw [show trm (sumL [3] [1]) = [4] by decide] at h; exact h
  have rM : Spec Tryd.prog 63 [.n false .u64 [2], .n false .u64 [1]] (fun o => o = .ret (.t [.n false .u64 [1], .i .i64 0])) := by have h := Sub_ok [2] [1] (by decide) (by decide) (u64s1 (v := 2) (by decide) (by decide)) (u64s1 (v := 1) (by decide) (by decide)) (by decide) (by decide); rw [show trm (difL [2] [1]) = [1] by decide] at h; exact h
  have rR4 : Spec Tryd.prog 61 [.b true, .n false .u64 [4], .i .i64 0] (fun o => o = .ret (.t [.a [.b true, .n true .u64 [4]], .i .i64 0])) := result_ok true [4] (by decide) (u64s1 (v := 4) (by decide) (by decide)) (by decide)
  have rR1 : Spec Tryd.prog 61 [.b false, .n false .u64 [1], .i .i64 0] (fun o => o = .ret (.t [.a [.b false, .n true .u64 [1]], .i .i64 0])) := result_ok false [1] (by decide) (u64s1 (v := 1) (by decide) (by decide)) (by decide)
  refine jc_seq ?_; refine jc_region ?_; refine jo_h (hy_box (id := 0) (n := 2) rfl rfl rfl (by decide) rfl) (hd 3 rfl) ?_; refine jo_h (hy_box (id := 1) (n := 2) rfl rfl rfl (by decide) rfl) (hd 4 rfl) ?_; refine jo_h (hy_alloc (id := 2) zero30 (by decide) rfl (by decide) rfl) (hd 6 rfl) ?_; refine jo_h (hy_alloc (id := 3) zero30 (by decide) rfl (by decide) rfl) (hd 7 rfl) ?_; refine jo_l (ly_as rfl) (hd 8 rfl) ?_; refine jo_nil ?_; refine jc_seq ?_; refine jc_draw (n := 6) _ rfl mixed ?_; refine ja_l2 0 [1, 3, 4, 5] (lo_l (ly_lda agg30 rfl rfl rfl rfl) (hd 16 rfl)) rfl (by kernel_rfl) (by kernel_rfl) (by kernel_rfl) (by kernel_rfl) (fun _ _ _ _ h => h) ?_; refine ja_l2 2 [3, 4, 5] (lo_l (ly_lda agg30 rfl rfl rfl rfl) (hd 18 rfl)) rfl (by kernel_rfl) (by kernel_rfl) (by kernel_rfl) (by kernel_rfl) (fun _ _ _ _ h => h) ?_
  refine ja_1 1 ?_ rfl (by kernel_rfl)
  refine js_call Tryd.f59 (rA) rfl Tryd.func59 rfl rfl (ovL_cons rfl ovL_nil) (.cons (.a1 .b (.a1 .n .a0)) .nil) (hd 17 rfl) ?_ (fun ch hp => by simp at hp)
  rintro y hy; injection hy with hy; subst hy
  refine ja_1 3 ?_ rfl (by kernel_rfl)
  refine js_call Tryd.f59 (rB) rfl Tryd.func59 rfl rfl (ovL_cons rfl ovL_nil) (.cons (.a1 .b (.a1 .n .a0)) .nil) (hd 19 rfl) ?_ (fun ch hp => by simp at hp)
  rintro y hy; injection hy with hy; subst hy
  refine ja_1 4 ?_ rfl (by kernel_rfl)
  refine js_st (sy_store rfl rfl rfl siz30 rfl rfl (Nat.le_of_ble_eq_true rfl)) rfl ?_
  refine ja_1 5 ?_ rfl (by kernel_rfl)
  refine js_st (sy_store rfl rfl rfl siz30 rfl rfl (Nat.le_of_ble_eq_true rfl)) rfl ?_; refine ja_nil (by kernel_rfl) ?_; refine jc_seq ?_; refine jc_region ?_; refine jo_l (ly_fa fld30_1 rfl rfl rfl) (hd 21 rfl) ?_; refine jo_l (ly_ld one28 rfl rfl rfl) (hd 22 rfl) ?_; refine jo_l (ly_fa fld30_1 rfl rfl rfl) (hd 23 rfl) ?_; refine jo_l (ly_ld one28 rfl rfl rfl) (hd 24 rfl) ?_
  refine jo_call Tryd.f97 (rD) rfl Tryd.func97 rfl rfl (ovL_cons rfl (ovL_cons rfl ovL_nil)) (.cons .n (.cons .n .nil)) (hd 25 rfl) ?_ (fun ch hp => by simp at hp)
  rintro y hy; injection hy with hy; subst hy; refine jo_l (ly_mv rfl) (hd 20 rfl) ?_; refine jo_l (ly_ext rfl rfl) (hd 26 rfl) ?_; refine jo_l (ly_ext rfl rfl) (hd 27 rfl) ?_; refine jo_l (ly_ext rfl rfl) (hd 28 rfl) ?_; refine jo_l (ly_as rfl) (hd 9 rfl) ?_; refine jo_l (ly_as rfl) (hd 10 rfl) ?_; refine jo_l (ly_as rfl) (hd 11 rfl) ?_; refine jo_nil ?_; refine jc_seq ?_; refine jc_seq ?_; refine jc_region ?_; refine jo_l (ly_mv rfl) (hd 29 rfl) ?_; refine jo_l (ly_ff (ly_ne rfl rfl) (by simp)) (hd 30 rfl) ?_; refine jo_nil ?_; refine jc_litf rfl ?_; refine jc_skip ?_; refine jc_seq ?_; refine jc_draw (n := 9) _ rfl mixed ?_; refine ja_l2 0 [1, 4, 7, 8] (lo_l (ly_fa fld30_0 rfl rfl rfl) (hd 34 rfl)) rfl (by kernel_rfl) (by kernel_rfl) (by kernel_rfl) (by kernel_rfl) (fun _ _ _ _ h => h) ?_; refine ja_l 1 (lo_l (ly_ld one4 rfl rfl rfl) (hd 35 rfl)) rfl (by kernel_rfl) (by kernel_rfl) (by kernel_rfl) (fun _ _ _ _ h => h) ?_; refine ja_l2 2 [3, 4, 7, 8] (lo_l (ly_fa fld30_0 rfl rfl rfl) (hd 36 rfl)) rfl (by kernel_rfl) (by kernel_rfl) (by kernel_rfl) (by kernel_rfl) (fun _ _ _ _ h => h) ?_; refine ja_l 3 (lo_l (ly_ld one4 rfl rfl rfl) (hd 37 rfl)) rfl (by kernel_rfl) (by kernel_rfl) (by kernel_rfl) (fun _ _ _ _ h => h) ?_; refine ja_l 4 (lo_l (ly_is (ly_neb und4 rfl rfl) (show V.b (!(true == false)) = V.b true from rfl)) (hd 38 rfl)) rfl (by kernel_rfl) (by kernel_rfl) (by kernel_rfl) (fun _ _ _ _ h => h) ?_; refine ja_l 5 (lo_l (ly_fa fld30_0 rfl rfl rfl) (hd 39 rfl)) rfl (by kernel_rfl) (by kernel_rfl) (by kernel_rfl) (fun _ _ _ _ h => h) ?_; refine ja_l 6 (lo_l (ly_ld one4 rfl rfl rfl) (hd 40 rfl)) rfl (by kernel_rfl) (by kernel_rfl) (by kernel_rfl) (fun _ _ _ _ h => h) ?_; refine ja_l 7 (lo_l (ly_as rfl) (hd 12 rfl)) rfl (by kernel_rfl) (by kernel_rfl) (by kernel_rfl) (fun _ _ _ _ h => h) ?_; refine ja_l 8 (lo_l (ly_as rfl) (hd 13 rfl)) rfl (by kernel_rfl) (by kernel_rfl) (by kernel_rfl) (fun _ _ _ _ h => h) ?_; refine ja_nil (by kernel_rfl) ?_; refine jc_seq ?_; refine jc_seq ?_; refine jc_draw (n := 18) _ rfl mixed ?_; refine ja_l2 0 [1, 2, 3, 4, 5, 6, 7, 8, 9, 10, 11, 12, 13, 14, 15, 16, 17] (lo_l (ly_mv rfl) (hd 41 rfl)) rfl (by kernel_rfl) (by kernel_rfl) (by kernel_rfl) (by kernel_rfl) (fun _ _ _ _ h => h) ?_
  refine ja_1 1 ?_ rfl (by kernel_rfl)
  refine js_call Tryd.f71 (rL) rfl Tryd.func71 rfl rfl (ovL_cons rfl ovL_nil) (.cons .n .nil) (hd 42 rfl) ?_ (fun ch hp => by simp at hp)
  rintro y hy; injection hy with hy; subst hy; refine ja_l2 2 [3, 4, 5, 6, 7, 8, 9, 10, 11, 12, 13, 14, 15, 16, 17] (lo_l (ly_tt (ly_gt rfl rfl) (by decide)) (hd 43 rfl)) rfl (by kernel_rfl) (by kernel_rfl) (by kernel_rfl) (by kernel_rfl) (fun _ _ _ _ h => h) ?_; refine ja_l 3 (lo_l (ly_mv rfl) (hd 44 rfl)) rfl (by kernel_rfl) (by kernel_rfl) (by kernel_rfl) (fun _ _ _ _ h => h) ?_; refine ja_l2 5 [6, 16, 17] (lo_g 44 rfl rfl (ly_mv rfl) (hd 46 rfl)) rfl (by kernel_rfl) (by kernel_rfl) (by kernel_rfl) (by kernel_rfl) (fun _ _ _ _ h => h) ?_; refine ja_l2 7 [16, 17] (lo_g 44 rfl rfl (ly_mv rfl) (hd 48 rfl)) rfl (by kernel_rfl) (by kernel_rfl) (by kernel_rfl) (by kernel_rfl) (fun _ _ _ _ h => h) ?_; refine ja_l2 8 [16, 17] (lo_g 44 rfl rfl (ly_mv rfl) (hd 49 rfl)) rfl (by kernel_rfl) (by kernel_rfl) (by kernel_rfl) (by kernel_rfl) (fun _ _ _ _ h => h) ?_; refine ja_l2 9 [10, 16, 17] (lo_g 44 rfl rfl (ly_fa fld30_1 rfl rfl rfl) (hd 50 rfl)) rfl (by kernel_rfl) (by kernel_rfl) (by kernel_rfl) (by kernel_rfl) (fun _ _ _ _ h => h) ?_; refine ja_l2 10 [16, 17] (lo_g 44 rfl rfl (ly_ld one28 rfl rfl rfl) (hd 51 rfl)) rfl (by kernel_rfl) (by kernel_rfl) (by kernel_rfl) (by kernel_rfl) (fun _ _ _ _ h => h) ?_; refine ja_l2 11 [16, 17] (lo_g 44 rfl rfl (ly_mv rfl) (hd 52 rfl)) rfl (by kernel_rfl) (by kernel_rfl) (by kernel_rfl) (by kernel_rfl) (fun _ _ _ _ h => h) ?_; refine ja_l2 12 [13, 16, 17] (lo_g 44 rfl rfl (ly_fa fld30_0 rfl rfl rfl) (hd 53 rfl)) rfl (by kernel_rfl) (by kernel_rfl) (by kernel_rfl) (by kernel_rfl) (fun _ _ _ _ h => h) ?_; refine ja_l2 13 [16, 17] (lo_g 44 rfl rfl (ly_ld one4 rfl rfl rfl) (hd 54 rfl)) rfl (by kernel_rfl) (by kernel_rfl) (by kernel_rfl) (by kernel_rfl) (fun _ _ _ _ h => h) ?_; refine ja_l2 14 [15, 16, 17] (lo_g 44 rfl rfl (ly_fa fld30_0 rfl rfl rfl) (hd 55 rfl)) rfl (by kernel_rfl) (by kernel_rfl) (by kernel_rfl) (by kernel_rfl) (fun _ _ _ _ h => h) ?_; refine ja_l2 15 [16, 17] (lo_g 44 rfl rfl (ly_ld one4 rfl rfl rfl) (hd 56 rfl)) rfl (by kernel_rfl) (by kernel_rfl) (by kernel_rfl) (by kernel_rfl) (fun _ _ _ _ h => h) ?_
  refine ja_1 4 ?_ rfl (by kernel_rfl)
  refine js_callg Tryd.f98 44 rfl rfl (ways_s) rfl Tryd.func98 rfl rfl ovL_nil .nil (hd 45 rfl) ?_ (fun ch hp => by simp at hp)
  rintro y hy; injection hy with hy; subst hy; refine ja_l2 6 [16, 17] (lo_g 44 rfl rfl (ly_ixa (i := 1) undA102 one101 rfl rfl rfl (by decide) rfl) (hd 47 rfl)) rfl (by kernel_rfl) (by kernel_rfl) (by kernel_rfl) (by kernel_rfl) (fun _ _ _ _ h => h) ?_
  refine ja_1 16 ?_ rfl (by kernel_rfl)
  refine js_callg Tryd.f107 44 rfl rfl (down_s [3] [1] [2] true false true) rfl Tryd.func107 rfl rfl (ovL_cons rfl (ovL_cons rfl (ovL_cons rfl (ovL_cons rfl (ovL_cons rfl (ovL_cons rfl ovL_nil)))))) (.cons .n (.cons .n (.cons .n (.cons .b (.cons .b (.cons .b .nil)))))) (hd 57 rfl) ?_ (fun ch hp => by simp at hp)
  rintro y hy; injection hy with hy; subst hy; refine ja_l 17 (lo_l (ly_pick_t rfl rfl) (hd 58 rfl)) rfl (by kernel_rfl) (by kernel_rfl) (by kernel_rfl) (fun _ _ _ _ h => h) ?_; refine ja_nil (by kernel_rfl) ?_; refine jc_litt rfl ?_; refine jc_seq ?_; refine jc_seq ?_; refine jc_region ?_; refine jo_l (ly_mv rfl) (hd 60 rfl) ?_
  refine jo_call Tryd.f68 (rF1) rfl Tryd.func68 rfl rfl (ovL_cons rfl ovL_nil) (.cons .i .nil) (hd 61 rfl) ?_ (fun ch hp => by simp at hp)
  rintro y hy; injection hy with hy; subst hy
  refine jo_call Tryd.f60 (rS) rfl Tryd.func60 rfl rfl (ovL_cons rfl (ovL_cons rfl ovL_nil)) (.cons .n (.cons .n .nil)) (hd 62 rfl) ?_ (fun ch hp => by simp at hp)
  rintro y hy; injection hy with hy; subst hy; refine jo_l (ly_mv rfl) (hd 59 rfl) ?_; refine jo_l (ly_ext rfl rfl) (hd 63 rfl) ?_; refine jo_l (ly_ext rfl rfl) (hd 64 rfl) ?_; refine jo_l (ly_as rfl) (hd 9 rfl) ?_; refine jo_l (ly_as rfl) (hd 11 rfl) ?_; refine jo_nil ?_; refine jc_seq ?_; refine jc_region ?_; refine jo_l (ly_mv rfl) (hd 65 rfl) ?_; refine jo_l (ly_ff (ly_ne rfl rfl) (by simp)) (hd 66 rfl) ?_; refine jo_nil ?_; refine jc_litf rfl ?_; refine jc_skip ?_; refine jc_seq ?_; refine jc_region ?_; refine jo_l (ly_fa fld30_1 rfl rfl rfl) (hd 71 rfl) ?_; refine jo_l (ly_ld one28 rfl rfl rfl) (hd 72 rfl) ?_; refine jo_l (ly_mv rfl) (hd 73 rfl) ?_
  refine jo_call Tryd.f63 (rM) rfl Tryd.func63 rfl rfl (ovL_cons rfl (ovL_cons rfl ovL_nil)) (.cons .n (.cons .n .nil)) (hd 74 rfl) ?_ (fun ch hp => by simp at hp)
  rintro y hy; injection hy with hy; subst hy; refine jo_l (ly_mv rfl) (hd 70 rfl) ?_; refine jo_l (ly_ext rfl rfl) (hd 75 rfl) ?_; refine jo_l (ly_ext rfl rfl) (hd 76 rfl) ?_; refine jo_l (ly_as rfl) (hd 10 rfl) ?_; refine jo_nil ?_; refine jc_region ?_; refine jo_l (ly_mv rfl) (hd 77 rfl) ?_; refine jo_l (ly_not rfl) (hd 78 rfl) ?_; refine jo_l (ly_as rfl) (hd 13 rfl) ?_; refine jo_nil ?_; refine jc_seq ?_; refine jc_region ?_; refine jo_l (ly_mv rfl) (hd 80 rfl) ?_; refine jo_l (ly_mv rfl) (hd 81 rfl) ?_
  refine jo_call Tryd.f61 (rR4) rfl Tryd.func61 rfl rfl (ovL_cons rfl (ovL_cons rfl (ovL_cons rfl ovL_nil))) (.cons .b (.cons .n (.cons .i .nil))) (hd 82 rfl) ?_ (fun ch hp => by simp at hp)
  rintro y hy; injection hy with hy; subst hy; refine jo_l (ly_mv rfl) (hd 79 rfl) ?_; refine jo_l (ly_ext rfl rfl) (hd 83 rfl) ?_; refine jo_l (ly_ext rfl rfl) (hd 84 rfl) ?_; refine jo_h (hy_alloc (id := 4) zero30 (by decide) rfl (by decide) rfl) (hd 14 rfl) ?_; refine jo_st (sy_store rfl rfl rfl siz30 rfl rfl (Nat.le_of_ble_eq_true rfl)) ?_; refine jo_l (ly_as rfl) (hd 11 rfl) ?_; refine jo_nil ?_; refine jc_seq ?_; refine jc_seq ?_; refine jc_region ?_; refine jo_l (ly_mv rfl) (hd 85 rfl) ?_; refine jo_l (ly_ff (ly_ne rfl rfl) (by simp)) (hd 86 rfl) ?_; refine jo_nil ?_; refine jc_litf rfl ?_; refine jc_skip ?_; refine jc_seq ?_; refine jc_region ?_; refine jo_l (ly_mv rfl) (hd 91 rfl) ?_; refine jo_l (ly_mv rfl) (hd 92 rfl) ?_
  refine jo_call Tryd.f61 (rR1) rfl Tryd.func61 rfl rfl (ovL_cons rfl (ovL_cons rfl (ovL_cons rfl ovL_nil))) (.cons .b (.cons .n (.cons .i .nil))) (hd 93 rfl) ?_ (fun ch hp => by simp at hp)
  rintro y hy; injection hy with hy; subst hy; refine jo_l (ly_mv rfl) (hd 90 rfl) ?_; refine jo_l (ly_ext rfl rfl) (hd 94 rfl) ?_; refine jo_l (ly_ext rfl rfl) (hd 95 rfl) ?_; refine jo_h (hy_alloc (id := 5) zero30 (by decide) rfl (by decide) rfl) (hd 15 rfl) ?_; refine jo_st (sy_store rfl rfl rfl siz30 rfl rfl (Nat.le_of_ble_eq_true rfl)) ?_; refine jo_l (ly_as rfl) (hd 11 rfl) ?_; refine jo_nil ?_; refine jc_seq ?_; refine jc_seq ?_; refine jc_region ?_; refine jo_l (ly_mv rfl) (hd 96 rfl) ?_; refine jo_l (ly_ff (ly_ne rfl rfl) (by simp)) (hd 97 rfl) ?_; refine jo_nil ?_; refine jc_litf rfl ?_; refine jc_skip ?_; refine jc_seq ?_; refine jc_draw (n := 5) _ rfl mixed ?_; refine ja_l 0 (lo_l (ly_lda agg30 rfl rfl rfl rfl) (hd 101 rfl)) rfl (by kernel_rfl) (by kernel_rfl) (by kernel_rfl) (fun _ _ _ _ h => h) ?_
  refine ja_2 1 2 ?_ ?_ rfl rfl (by kernel_rfl)
  · refine js_l (ly_lda agg30 rfl rfl rfl rfl) (hd 102 rfl) ?_
    refine ja_1 2 ?_ rfl (by kernel_rfl)
    refine js_st (sy_store rfl rfl rfl siz30 rfl rfl (Nat.le_of_ble_eq_true rfl)) rfl ?_
    refine ja_1 3 ?_ rfl (by kernel_rfl)
    refine js_st (sy_store rfl rfl rfl siz30 rfl rfl (Nat.le_of_ble_eq_true rfl)) rfl ?_; refine ja_l 4 (lo_l (ly_as rfl) (hd 8 rfl)) rfl (by kernel_rfl) (by kernel_rfl) (by kernel_rfl) (fun _ _ _ _ h => h) ?_; refine ja_nil (by kernel_rfl) ?_; refine jc_ret ?_
    refine ⟨_, _, (.cons (ResV.cell agg30 rfl rfl rfl rfl) (.cons (ResV.cell agg30 rfl rfl rfl rfl) (.cons rfl .nil))), (.t1 (.a1 .b (.a1 .n .a0)) (.t1 (.a1 .b (.a1 .n .a0)) (.t1 .i .t0))), ?_⟩
    exact rfl
  · refine js_st (sy_store rfl rfl rfl siz30 rfl rfl (Nat.le_of_ble_eq_true rfl)) rfl ?_; refine ja_l 1 (lo_l (ly_lda agg30 rfl rfl rfl rfl) (hd 102 rfl)) rfl (by kernel_rfl) (by kernel_rfl) (by kernel_rfl) (fun _ _ _ _ h => h) ?_
    refine ja_1 3 ?_ rfl (by kernel_rfl)
    refine js_st (sy_store rfl rfl rfl siz30 rfl rfl (Nat.le_of_ble_eq_true rfl)) rfl ?_; refine ja_l 4 (lo_l (ly_as rfl) (hd 8 rfl)) rfl (by kernel_rfl) (by kernel_rfl) (by kernel_rfl) (fun _ _ _ _ h => h) ?_; refine ja_nil (by kernel_rfl) ?_; refine jc_ret ?_
    refine ⟨_, _, (.cons (ResV.cell agg30 rfl rfl rfl rfl) (.cons (ResV.cell agg30 rfl rfl rfl rfl) (.cons rfl .nil))), (.t1 (.a1 .b (.a1 .n .a0)) (.t1 (.a1 .b (.a1 .n .a0)) (.t1 .i .t0))), ?_⟩
    exact rfl

set_option maxHeartbeats 4000000 in
theorem Floor_ex  : Spec Tryd.prog 57 [.a [.b true, .n false .u64 [7]], .a [.b false, .n false .u64 [2]]] (fun o => o = .ret (.t [.a [.b true, .n true .u64 [4]], .a [.b false, .n true .u64 [1]], .i .i64 0])) := by
  refine spec_of' [(0, .a [.b true, .n false .u64 [7]]), (1, .a [.b false, .n false .u64 [2]])] rfl Tryd.func57 rfl (Nat.le_of_ble_eq_true rfl) fun Γ hN hds hL hR => ?_
  have hd : ∀ d, Nat.blt d 13 = true → d < Γ.N := fun d h => by rw [hN]; exact Nat.le_of_ble_eq_true h
  refine jc_seq ?_; refine jc_region ?_; refine jo_h (hy_box (id := 0) (n := 2) rfl rfl rfl (by decide) rfl) (hd 2 rfl) ?_; refine jo_h (hy_box (id := 1) (n := 2) rfl rfl rfl (by decide) rfl) (hd 3 rfl) ?_; refine jo_h (hy_alloc (id := 2) zero30 (by decide) rfl (by decide) rfl) (hd 4 rfl) ?_; refine jo_h (hy_alloc (id := 3) zero30 (by decide) rfl (by decide) rfl) (hd 5 rfl) ?_; refine jo_l (ly_as rfl) (hd 6 rfl) ?_; refine jo_nil ?_; refine jc_seq ?_; refine jc_region ?_; refine jo_l (ly_lda agg30 rfl rfl rfl rfl) (hd 7 rfl) ?_; refine jo_l (ly_lda agg30 rfl rfl rfl rfl) (hd 8 rfl) ?_
  refine jo_call Tryd.f86 (divide_ex) rfl Tryd.func86 rfl rfl (ovL_cons rfl (ovL_cons rfl (ovL_cons rfl ovL_nil))) (.cons (.a1 .b (.a1 .n .a0)) (.cons (.a1 .b (.a1 .n .a0)) (.cons .i .nil))) (hd 9 rfl) ?_ (fun ch hp => by simp at hp)
  rintro y hy; injection hy with hy; subst hy; refine jo_l (ly_ext rfl rfl) (hd 10 rfl) ?_; refine jo_l (ly_ext rfl rfl) (hd 11 rfl) ?_; refine jo_l (ly_ext rfl rfl) (hd 12 rfl) ?_; refine jo_st (sy_store rfl rfl rfl siz30 rfl rfl (Nat.le_of_ble_eq_true rfl)) ?_; refine jo_st (sy_store rfl rfl rfl siz30 rfl rfl (Nat.le_of_ble_eq_true rfl)) ?_; refine jo_l (ly_as rfl) (hd 6 rfl) ?_; refine jo_nil ?_; refine jc_ret ?_
  refine ⟨_, _, (.cons (ResV.cell agg30 rfl rfl rfl rfl) (.cons (ResV.cell agg30 rfl rfl rfl rfl) (.cons rfl .nil))), (.t1 (.a1 .b (.a1 .n .a0)) (.t1 (.a1 .b (.a1 .n .a0)) (.t1 .i .t0))), ?_⟩
  exact rfl

set_option maxHeartbeats 4000000 in
theorem awake_s  : Spec Tryd.prog 24 [] (fun o => o = .ret (.b true)) := by
  refine spec_of' [] rfl Tryd.func24 rfl (Nat.le_of_ble_eq_true rfl) fun Γ hN hds hL hR => ?_
  have hd : ∀ d, Nat.blt d 30 = true → d < Γ.N := fun d h => by rw [hN]; exact Nat.le_of_ble_eq_true h
  have r7 : Spec Tryd.prog 58 [.i .i64 (-7)] (fun o => o = .ret (.a [.b true, .n true .u64 [7]])) := Of_neg (-7) (by decide) (by decide)
  have r2 : Spec Tryd.prog 58 [.i .i64 2] (fun o => o = .ret (.a [.b false, .n true .u64 [2]])) := Of_pos 2 (by decide) (by decide)
  have rI4 : Spec Tryd.prog 21 [.i .i64 (-4)] (fun o => o = .ret (.a [.b true, .n false .u64 [4]])) := Int_neg (-4) (by decide) (by decide)
  have rI1 : Spec Tryd.prog 21 [.i .i64 1] (fun o => o = .ret (.a [.b false, .n false .u64 [1]])) := Int_pos 1 (by decide) (by decide)
  have rZ4 : Spec Tryd.prog 50 [.a [.b true, .n false .u64 [4]], .b true, .n false .u64 [4]] (fun o => o = .ret (.b true)) := ZIs_s true [4] (by decide)
  have rZ1 : Spec Tryd.prog 50 [.a [.b false, .n false .u64 [1]], .b false, .n false .u64 [1]] (fun o => o = .ret (.b true)) := ZIs_s false [1] (by decide)
  refine jc_seq ?_; refine jc_region ?_; refine jo_l (ly_as rfl) (hd 0 rfl) ?_; refine jo_nil ?_; refine jc_seq ?_; refine jc_region ?_
  refine jo_call Tryd.f58 (r7) rfl Tryd.func58 rfl rfl (ovL_cons rfl ovL_nil) (.cons .i .nil) (hd 5 rfl) ?_ (fun ch hp => by simp at hp)
  rintro y hy; injection hy with hy; subst hy
  refine jo_call Tryd.f58 (r2) rfl Tryd.func58 rfl rfl (ovL_cons rfl ovL_nil) (.cons .i .nil) (hd 6 rfl) ?_ (fun ch hp => by simp at hp)
  rintro y hy; injection hy with hy; subst hy
  refine jo_call Tryd.f57 (Floor_ex) rfl Tryd.func57 rfl rfl (ovL_cons rfl (ovL_cons rfl ovL_nil)) (.cons (.a1 .b (.a1 .n .a0)) (.cons (.a1 .b (.a1 .n .a0)) .nil)) (hd 7 rfl) ?_ (fun ch hp => by simp at hp)
  rintro y hy; injection hy with hy; subst hy; refine jo_l (ly_mv rfl) (hd 4 rfl) ?_; refine jo_l (ly_ext rfl rfl) (hd 8 rfl) ?_; refine jo_l (ly_ext rfl rfl) (hd 9 rfl) ?_; refine jo_l (ly_ext rfl rfl) (hd 10 rfl) ?_; refine jo_h (hy_alloc (id := 0) zero30 (by decide) rfl (by decide) rfl) (hd 1 rfl) ?_; refine jo_h (hy_alloc (id := 1) zero30 (by decide) rfl (by decide) rfl) (hd 2 rfl) ?_; refine jo_st (sy_store rfl rfl rfl siz30 rfl rfl (Nat.le_of_ble_eq_true rfl)) ?_; refine jo_st (sy_store rfl rfl rfl siz30 rfl rfl (Nat.le_of_ble_eq_true rfl)) ?_; refine jo_l (ly_as rfl) (hd 3 rfl) ?_; refine jo_nil ?_; refine jc_seq ?_; refine jc_draw (n := 20) _ rfl mixed ?_; refine ja_l2 0 [1, 2, 3, 4, 5, 6, 7, 8, 9, 10, 11, 12, 13, 14, 15, 16, 17, 18, 19] (lo_l (ly_mv rfl) (hd 11 rfl)) rfl (by kernel_rfl) (by kernel_rfl) (by kernel_rfl) (by kernel_rfl) (fun _ _ _ _ h => h) ?_
  refine ja_1 1 ?_ rfl (by kernel_rfl)
  refine js_call Tryd.f14 (num_s 0) rfl Tryd.func14 rfl rfl (ovL_cons rfl ovL_nil) (.cons .i .nil) (hd 12 rfl) ?_ (fun ch hp => by simp at hp)
  rintro y hy; injection hy with hy; subst hy; refine ja_l2 2 [3, 4, 5, 6, 7, 8, 9, 10, 11, 12, 13, 14, 15, 16, 17, 18, 19] (lo_l (ly_tt (ly_eq rfl rfl) rfl) (hd 13 rfl)) rfl (by kernel_rfl) (by kernel_rfl) (by kernel_rfl) (by kernel_rfl) (fun _ _ _ _ h => h) ?_; refine ja_l2 3 [4, 5, 6, 7, 8, 9, 10, 11, 12, 13, 14, 15, 16, 17, 18, 19] (lo_l (ly_mv rfl) (hd 14 rfl)) rfl (by kernel_rfl) (by kernel_rfl) (by kernel_rfl) (by kernel_rfl) (fun _ _ _ _ h => h) ?_; refine ja_l2 5 [6, 9, 10, 11, 12, 13, 14, 15, 16, 17, 18, 19] (lo_g 14 rfl rfl (ly_fa fld30_0 rfl rfl rfl) (hd 16 rfl)) rfl (by kernel_rfl) (by kernel_rfl) (by kernel_rfl) (by kernel_rfl) (fun _ _ _ _ h => h) ?_; refine ja_l2 6 [9, 10, 11, 12, 13, 14, 15, 16, 17, 18, 19] (lo_g 14 rfl rfl (ly_ld one4 rfl rfl rfl) (hd 17 rfl)) rfl (by kernel_rfl) (by kernel_rfl) (by kernel_rfl) (by kernel_rfl) (fun _ _ _ _ h => h) ?_; refine ja_l2 7 [8, 9, 10, 11, 12, 13, 14, 15, 16, 17, 18, 19] (lo_g 14 rfl rfl (ly_fa fld30_1 rfl rfl rfl) (hd 18 rfl)) rfl (by kernel_rfl) (by kernel_rfl) (by kernel_rfl) (by kernel_rfl) (fun _ _ _ _ h => h) ?_; refine ja_l2 8 [9, 10, 11, 12, 13, 14, 15, 16, 17, 18, 19] (lo_g 14 rfl rfl (ly_ld one28 rfl rfl rfl) (hd 19 rfl)) rfl (by kernel_rfl) (by kernel_rfl) (by kernel_rfl) (by kernel_rfl) (fun _ _ _ _ h => h) ?_
  refine ja_1 4 ?_ rfl (by kernel_rfl)
  refine js_callg Tryd.f21 14 rfl rfl (rI4) rfl Tryd.func21 rfl rfl (ovL_cons rfl ovL_nil) (.cons .i .nil) (hd 15 rfl) ?_ (fun ch hp => by simp at hp)
  rintro y hy; injection hy with hy; subst hy
  refine ja_1 9 ?_ rfl (by kernel_rfl)
  refine js_callg Tryd.f50 14 rfl rfl (rZ4) rfl Tryd.func50 rfl rfl (ovL_cons rfl (ovL_cons rfl (ovL_cons rfl ovL_nil))) (.cons (.a1 .b (.a1 .n .a0)) (.cons .b (.cons .n .nil))) (hd 20 rfl) ?_ (fun ch hp => by simp at hp)
  rintro y hy; injection hy with hy; subst hy; refine ja_l2 10 [11, 12, 13, 14, 15, 16, 17, 18, 19] (lo_l (ly_pick_t rfl rfl) (hd 21 rfl)) rfl (by kernel_rfl) (by kernel_rfl) (by kernel_rfl) (by kernel_rfl) (fun _ _ _ _ h => h) ?_; refine ja_l 11 (lo_l (ly_mv rfl) (hd 22 rfl)) rfl (by kernel_rfl) (by kernel_rfl) (by kernel_rfl) (fun _ _ _ _ h => h) ?_; refine ja_l2 13 [14, 17, 18, 19] (lo_g 22 rfl rfl (ly_fa fld30_0 rfl rfl rfl) (hd 24 rfl)) rfl (by kernel_rfl) (by kernel_rfl) (by kernel_rfl) (by kernel_rfl) (fun _ _ _ _ h => h) ?_; refine ja_l2 14 [17, 18, 19] (lo_g 22 rfl rfl (ly_ld one4 rfl rfl rfl) (hd 25 rfl)) rfl (by kernel_rfl) (by kernel_rfl) (by kernel_rfl) (by kernel_rfl) (fun _ _ _ _ h => h) ?_; refine ja_l2 15 [16, 17, 18, 19] (lo_g 22 rfl rfl (ly_fa fld30_1 rfl rfl rfl) (hd 26 rfl)) rfl (by kernel_rfl) (by kernel_rfl) (by kernel_rfl) (by kernel_rfl) (fun _ _ _ _ h => h) ?_; refine ja_l2 16 [17, 18, 19] (lo_g 22 rfl rfl (ly_ld one28 rfl rfl rfl) (hd 27 rfl)) rfl (by kernel_rfl) (by kernel_rfl) (by kernel_rfl) (by kernel_rfl) (fun _ _ _ _ h => h) ?_
  refine ja_1 12 ?_ rfl (by kernel_rfl)
  refine js_callg Tryd.f21 22 rfl rfl (rI1) rfl Tryd.func21 rfl rfl (ovL_cons rfl ovL_nil) (.cons .i .nil) (hd 23 rfl) ?_ (fun ch hp => by simp at hp)
  rintro y hy; injection hy with hy; subst hy
  refine ja_1 17 ?_ rfl (by kernel_rfl)
  refine js_callg Tryd.f50 22 rfl rfl (rZ1) rfl Tryd.func50 rfl rfl (ovL_cons rfl (ovL_cons rfl (ovL_cons rfl ovL_nil))) (.cons (.a1 .b (.a1 .n .a0)) (.cons .b (.cons .n .nil))) (hd 28 rfl) ?_ (fun ch hp => by simp at hp)
  rintro y hy; injection hy with hy; subst hy; refine ja_l 18 (lo_l (ly_pick_t rfl rfl) (hd 29 rfl)) rfl (by kernel_rfl) (by kernel_rfl) (by kernel_rfl) (fun _ _ _ _ h => h) ?_; refine ja_l 19 (lo_l (ly_as rfl) (hd 0 rfl)) rfl (by kernel_rfl) (by kernel_rfl) (by kernel_rfl) (fun _ _ _ _ h => h) ?_; refine ja_nil (by kernel_rfl) ?_; refine jc_ret ?_
  refine ⟨_, _, (.cons rfl .nil), .b, ?_⟩
  exact rfl
end Go.Proofs.YtaogaegchagbfaaDoor.Vc

/- Contract of bits.Mul64. -/
namespace Go.Proofs.YtaogaegchagbfaaDoor.Vc
open Go Go.RowKit
end Go.Proofs.YtaogaegchagbfaaDoor.Vc

/- Contract of mul.school. -/
namespace Go.Proofs.YtaogaegchagbfaaDoor.Vc
open Go Go.RowKit
end Go.Proofs.YtaogaegchagbfaaDoor.Vc

/- Contract of mul.addAt. -/
namespace Go.Proofs.YtaogaegchagbfaaDoor.Vc
open Go Go.RowKit
end Go.Proofs.YtaogaegchagbfaaDoor.Vc

/- Contracts of mul.sum, less, part. -/
namespace Go.Proofs.YtaogaegchagbfaaDoor.Vc
open Go Go.RowKit
end Go.Proofs.YtaogaegchagbfaaDoor.Vc

/- Contract of mul.halved. -/
namespace Go.Proofs.YtaogaegchagbfaaDoor.Vc
open Go Go.RowKit
end Go.Proofs.YtaogaegchagbfaaDoor.Vc

/- Contracts of mul.fits, great, product, Mul. -/
namespace Go.Proofs.YtaogaegchagbfaaDoor.Vc
open Go Go.RowKit
end Go.Proofs.YtaogaegchagbfaaDoor.Vc

/- Contracts of whole.fits, result, Mul; nat.Add, Sub in general. -/
namespace Go.Proofs.YtaogaegchagbfaaDoor.Vc
open Go Go.RowKit
end Go.Proofs.YtaogaegchagbfaaDoor.Vc

/- Contracts of whole.flip, Neg, Add, Sub. -/
namespace Go.Proofs.YtaogaegchagbfaaDoor.Vc
open Go Go.RowKit
set_option maxHeartbeats 4000000 in
theorem flip_s (s : Bool) (a : List Int) (hla : a.length < 4294967296) (ua : u64s a) : Spec Tryd.prog 64 [.a [.b s, .n false .u64 a]] (fun o => o = .ret (.a [.b (!s && decide (0 < ((trm a).length : Int))), .n true .u64 (trm a)])) := by
  refine spec_of' [(0, .a [.b s, .n false .u64 a])] rfl Tryd.func64 rfl (Nat.le_of_ble_eq_true rfl) fun Γ hN hds hL hR => ?_
  have hd : ∀ d, Nat.blt d 10 = true → d < Γ.N := fun d h => by rw [hN]; exact Nat.le_of_ble_eq_true h
  refine jc_seq ?_; refine jc_region ?_; refine jo_h (hy_box (id := 0) (n := 2) rfl rfl rfl (by decide) rfl) (hd 1 rfl) ?_; refine jo_h (hy_alloc (id := 1) zero30 (by decide) rfl (by decide) rfl) (hd 2 rfl) ?_; refine jo_nil ?_; refine jc_seq ?_; refine jc_region ?_; refine jo_l (ly_fa fld30_0 rfl rfl rfl) (hd 3 rfl) ?_; refine jo_l (ly_ld one4 rfl rfl rfl) (hd 4 rfl) ?_; refine jo_l (ly_not rfl) (hd 5 rfl) ?_; refine jo_l (ly_fa fld30_1 rfl rfl rfl) (hd 6 rfl) ?_; refine jo_l (ly_ld one28 rfl rfl rfl) (hd 7 rfl) ?_; refine jo_l (ly_build (is := [0, 1]) (xs := [.tmp 5, .tmp 7]) zero30 pls30_0_1 rfl (ovL_cons rfl (ovL_cons rfl ovL_nil)) rfl (by first | (simp [plsOk, cellsV]; done) | (simp [plsOk, cellsV, old]; done)) (all_of rfl) rfl) (hd 8 rfl) ?_
  refine jo_call Tryd.f59 (norm_s (!s) a (by omega)) rfl Tryd.func59 rfl rfl (ovL_cons rfl ovL_nil) (.cons (.a1 .b (.a1 .n .a0)) .nil) (hd 9 rfl) ?_ (fun ch hp => by simp at hp)
  rintro y hy; injection hy with hy; subst hy; refine jo_st (sy_store rfl rfl rfl siz30 rfl rfl (Nat.le_of_ble_eq_true rfl)) ?_; refine jo_nil ?_; refine jc_ret ?_
  refine ⟨_, _, (.cons (ResV.cell agg30 rfl rfl rfl rfl) .nil), (.a1 .b (.a1 .n .a0)), ?_⟩
  exact rfl

end Go.Proofs.YtaogaegchagbfaaDoor.Vc

/- Contracts of whole.Sign, Compare; the helpers same, zero, all, in. -/
namespace Go.Proofs.YtaogaegchagbfaaDoor.Vc
open Go Go.RowKit
set_option maxHeartbeats 4000000 in
theorem WSign_s (s : Bool) (a : List Int) (hla : a.length < 4294967296) (ua : u64s a) : Spec Tryd.prog 44 [.a [.b s, .n false .u64 a]] (fun o => o = .ret (.i .i64 (sgnI (sv s a)))) := by
  refine spec_of' [(0, .a [.b s, .n false .u64 a])] rfl Tryd.func44 rfl (Nat.le_of_ble_eq_true rfl) fun Γ hN hds hL hR => ?_
  have hd : ∀ d, Nat.blt d 11 = true → d < Γ.N := fun d h => by rw [hN]; exact Nat.le_of_ble_eq_true h
  refine jc_seq ?_; refine jc_region ?_; refine jo_h (hy_box (id := 0) (n := 2) rfl rfl rfl (by decide) rfl) (hd 1 rfl) ?_; refine jo_l (ly_as rfl) (hd 2 rfl) ?_; refine jo_nil ?_; refine jc_seq ?_; refine jc_block ?_; refine jc_seq ?_; refine jc_region ?_; refine jo_l (ly_fa fld30_1 rfl rfl rfl) (hd 4 rfl) ?_; refine jo_l (ly_ld one28 rfl rfl rfl) (hd 5 rfl) ?_
  refine jo_call Tryd.f71 (Length_s a (by omega) ua) rfl Tryd.func71 rfl rfl (ovL_cons rfl ovL_nil) (.cons .n .nil) (hd 6 rfl) ?_ (fun ch hp => by simp at hp)
  rintro y hy; injection hy with hy; subst hy; refine jo_l (ly_eq rfl rfl) (hd 7 rfl) ?_; refine jo_l (ly_as rfl) (hd 3 rfl) ?_; refine jo_nil ?_
  refine jc_if rfl (fun h1 => ?_) (fun h1 => ?_)
  · refine jc_seq ?_; refine jc_region ?_; refine jo_l (ly_as rfl) (hd 2 rfl) ?_; refine jo_nil ?_; refine jc_ret ?_
    refine ⟨_, _, (.cons rfl .nil), .i, ?_⟩
    rw [sgn_sv ua, if_pos (by omega)]
  · refine jc_seq ?_; refine jc_region ?_; refine jo_l (ly_fa fld30_0 rfl rfl rfl) (hd 9 rfl) ?_; refine jo_l (ly_ld one4 rfl rfl rfl) (hd 10 rfl) ?_; refine jo_l (ly_as rfl) (hd 8 rfl) ?_; refine jo_nil ?_
    refine jc_cond rfl (fun h2 => ?_) (fun h2 => ?_)
    · refine jc_seq ?_; refine jc_region ?_; refine jo_l (ly_as rfl) (hd 2 rfl) ?_; refine jo_nil ?_; refine jc_ret ?_
      refine ⟨_, _, (.cons rfl .nil), .i, ?_⟩
      rw [sgn_sv ua, if_neg (by omega), if_pos (by assumption)]
    · refine jc_skip ?_; refine jc_seq ?_; refine jc_region ?_; refine jo_l (ly_as rfl) (hd 2 rfl) ?_; refine jo_nil ?_; refine jc_ret ?_
      refine ⟨_, _, (.cons rfl .nil), .i, ?_⟩
      rw [sgn_sv ua, if_neg (by omega), if_neg (by simp_all)]

set_option maxHeartbeats 4000000 in
theorem WCmp_s (s t : Bool) (a b : List Int) (hla : a.length < 4294967296) (hlb : b.length < 4294967296) (ua : u64s a) (ub : u64s b) : Spec Tryd.prog 65 [.a [.b s, .n false .u64 a], .a [.b t, .n false .u64 b]] (fun o => o = .ret (.i .i64 (cmpI (sv s a) (sv t b)))) := by
  refine spec_of' [(0, .a [.b s, .n false .u64 a]), (1, .a [.b t, .n false .u64 b])] rfl Tryd.func65 rfl (Nat.le_of_ble_eq_true rfl) fun Γ hN hds hL hR => ?_
  have hd : ∀ d, Nat.blt d 26 = true → d < Γ.N := fun d h => by rw [hN]; exact Nat.le_of_ble_eq_true h
  have hcs := cmp_signs (s := s) (t := t) ua ub
  have hrg := cmpI_rng (x := sv s a) (y := sv t b)
  refine jc_seq ?_; refine jc_region ?_; refine jo_h (hy_box (id := 0) (n := 2) rfl rfl rfl (by decide) rfl) (hd 2 rfl) ?_; refine jo_h (hy_box (id := 1) (n := 2) rfl rfl rfl (by decide) rfl) (hd 3 rfl) ?_; refine jo_l (ly_as rfl) (hd 4 rfl) ?_; refine jo_nil ?_; refine jc_seq ?_; refine jc_draw (n := 6) _ rfl mixed ?_; refine ja_l2 0 [1, 3, 4, 5] (lo_l (ly_lda agg30 rfl rfl rfl rfl) (hd 7 rfl)) rfl (by kernel_rfl) (by kernel_rfl) (by kernel_rfl) (by kernel_rfl) (fun _ _ _ _ h => h) ?_; refine ja_l2 2 [3, 4, 5] (lo_l (ly_lda agg30 rfl rfl rfl rfl) (hd 9 rfl)) rfl (by kernel_rfl) (by kernel_rfl) (by kernel_rfl) (by kernel_rfl) (fun _ _ _ _ h => h) ?_
  refine ja_1 1 ?_ rfl (by kernel_rfl)
  refine js_call Tryd.f44 (WSign_s s a hla ua) rfl Tryd.func44 rfl rfl (ovL_cons rfl ovL_nil) (.cons (.a1 .b (.a1 .n .a0)) .nil) (hd 8 rfl) ?_ (fun ch hp => by simp at hp)
  rintro y hy; injection hy with hy; subst hy
  refine ja_1 3 ?_ rfl (by kernel_rfl)
  refine js_call Tryd.f44 (WSign_s t b hlb ub) rfl Tryd.func44 rfl rfl (ovL_cons rfl ovL_nil) (.cons (.a1 .b (.a1 .n .a0)) .nil) (hd 10 rfl) ?_ (fun ch hp => by simp at hp)
  rintro y hy; injection hy with hy; subst hy; refine ja_l 4 (lo_l (ly_as rfl) (hd 5 rfl)) rfl (by kernel_rfl) (by kernel_rfl) (by kernel_rfl) (fun _ _ _ _ h => h) ?_; refine ja_l 5 (lo_l (ly_as rfl) (hd 6 rfl)) rfl (by kernel_rfl) (by kernel_rfl) (by kernel_rfl) (fun _ _ _ _ h => h) ?_; refine ja_nil (by kernel_rfl) ?_; refine jc_seq ?_; refine jc_block ?_; refine jc_seq ?_; refine jc_region ?_; refine jo_l (ly_mv rfl) (hd 12 rfl) ?_; refine jo_l (ly_mv rfl) (hd 13 rfl) ?_; refine jo_l (ly_lt rfl rfl) (hd 14 rfl) ?_; refine jo_l (ly_as rfl) (hd 11 rfl) ?_; refine jo_nil ?_
  refine jc_if rfl (fun h1 => ?_) (fun h1 => ?_)
  · refine jc_seq ?_; refine jc_region ?_; refine jo_l (ly_as rfl) (hd 4 rfl) ?_; refine jo_nil ?_; refine jc_ret ?_
    refine ⟨_, _, (.cons rfl .nil), .i, ?_⟩
    rw [hcs.1 (by omega)]
  · refine jc_seq ?_; refine jc_region ?_; refine jo_l (ly_mv rfl) (hd 16 rfl) ?_; refine jo_l (ly_mv rfl) (hd 17 rfl) ?_; refine jo_l (ly_gt rfl rfl) (hd 18 rfl) ?_; refine jo_l (ly_as rfl) (hd 15 rfl) ?_; refine jo_nil ?_
    refine jc_if rfl (fun h2 => ?_) (fun h2 => ?_)
    · refine jc_seq ?_; refine jc_region ?_; refine jo_l (ly_as rfl) (hd 4 rfl) ?_; refine jo_nil ?_; refine jc_ret ?_
      refine ⟨_, _, (.cons rfl .nil), .i, ?_⟩
      rw [hcs.2.1 (by omega)]
    · refine jc_skip ?_; refine jc_seq ?_; refine jc_region ?_; refine jo_l (ly_mv rfl) (hd 19 rfl) ?_; refine jo_l (ly_fa fld30_1 rfl rfl rfl) (hd 20 rfl) ?_; refine jo_l (ly_ld one28 rfl rfl rfl) (hd 21 rfl) ?_; refine jo_l (ly_fa fld30_1 rfl rfl rfl) (hd 22 rfl) ?_; refine jo_l (ly_ld one28 rfl rfl rfl) (hd 23 rfl) ?_
      refine jo_call Tryd.f62 (Compare_s a b (by omega) (by omega)) rfl Tryd.func62 rfl rfl (ovL_cons rfl (ovL_cons rfl ovL_nil)) (.cons .n (.cons .n .nil)) (hd 24 rfl) ?_ (fun ch hp => by simp at hp)
      rintro y hy; injection hy with hy; subst hy; refine jo_l (ly_mul rfl rfl (r := cmpI (sv s a) (sv t b)) (by rw [hcs.2.2 (by omega)]; exact wrap_i64 (by omega) (by omega))) (hd 25 rfl) ?_; refine jo_l (ly_as rfl) (hd 4 rfl) ?_; refine jo_nil ?_; refine jc_ret ?_
      refine ⟨_, _, (.cons rfl .nil), .i, ?_⟩
      exact rfl

set_option maxHeartbeats 4000000 in
theorem same_s (s t : Bool) (a b : List Int) (hla : a.length < 4294967296) (hlb : b.length < 4294967296) (ua : u64s a) (ub : u64s b) : Spec Tryd.prog 29 [.a [.b s, .n false .u64 a], .a [.b t, .n false .u64 b]] (fun o => o = .ret (.b (decide (cmpI (sv s a) (sv t b) = 0)))) := by
  refine spec_of' [(0, .a [.b s, .n false .u64 a]), (1, .a [.b t, .n false .u64 b])] rfl Tryd.func29 rfl (Nat.le_of_ble_eq_true rfl) fun Γ hN hds hL hR => ?_
  have hd : ∀ d, Nat.blt d 9 = true → d < Γ.N := fun d h => by rw [hN]; exact Nat.le_of_ble_eq_true h
  refine jc_seq ?_; refine jc_region ?_; refine jo_h (hy_box (id := 0) (n := 2) rfl rfl rfl (by decide) rfl) (hd 2 rfl) ?_; refine jo_h (hy_box (id := 1) (n := 2) rfl rfl rfl (by decide) rfl) (hd 3 rfl) ?_; refine jo_l (ly_as rfl) (hd 4 rfl) ?_; refine jo_nil ?_; refine jc_seq ?_; refine jc_region ?_; refine jo_l (ly_lda agg30 rfl rfl rfl rfl) (hd 5 rfl) ?_; refine jo_l (ly_lda agg30 rfl rfl rfl rfl) (hd 6 rfl) ?_
  refine jo_call Tryd.f65 (WCmp_s s t a b hla hlb ua ub) rfl Tryd.func65 rfl rfl (ovL_cons rfl (ovL_cons rfl ovL_nil)) (.cons (.a1 .b (.a1 .n .a0)) (.cons (.a1 .b (.a1 .n .a0)) .nil)) (hd 7 rfl) ?_ (fun ch hp => by simp at hp)
  rintro y hy; injection hy with hy; subst hy; refine jo_l (ly_eq rfl rfl) (hd 8 rfl) ?_; refine jo_l (ly_as rfl) (hd 4 rfl) ?_; refine jo_nil ?_; refine jc_ret ?_
  refine ⟨_, _, (.cons rfl .nil), .b, ?_⟩
  exact rfl

set_option maxHeartbeats 4000000 in
theorem all_s (es : List Int) (hl : es.length < 4294967296) : Spec Tryd.prog 27 [.n false .i64 es] (fun o => o = .ret (.b (decide (∀ e ∈ es, e = 0)))) := by
  refine spec_of' [(0, .n false .i64 es)] rfl Tryd.func27 rfl (Nat.le_of_ble_eq_true rfl) fun Γ hN hds hL hR => ?_
  have hd : ∀ d, Nat.blt d 15 = true → d < Γ.N := fun d h => by rw [hN]; exact Nat.le_of_ble_eq_true h
  refine jc_seq ?_; refine jc_region ?_; refine jo_l (ly_as rfl) (hd 2 rfl) ?_; refine jo_nil ?_; refine jc_seq ?_; refine jc_seq ?_; refine jc_region ?_; refine jo_l (ly_mv rfl) (hd 5 rfl) ?_; refine jo_l (ly_lenn sl83 rfl) (hd 6 rfl) ?_; refine jo_l (ly_mv rfl) (hd 7 rfl) ?_; refine jo_nil ?_; refine jc_block ?_
  refine jc_loopF (G := Nat) (fun i => i ≤ es.length ∧ ∀ j, j < i → es.getD j 0 = 0) (fun i => [(7, .i .i64 (i : Int)), (2, .u), (4, .u), (8, .u), (9, .u), (10, .u), (11, .u), (12, .u), (13, .u), (14, .u)]) (fun _ => _) (fun i => es.length - i) 0 ?_ ?_ rfl ?_
  · exact ⟨Nat.zero_le _, fun j hj => absurd hj (Nat.not_lt_zero j)⟩
  · exact (.cons rfl (.u (.u (.u (.u (.u (.u (.u (.u (.u .nil))))))))))
  · rintro i ⟨hc1, hc2⟩; refine jc_seq ?_; refine jc_region ?_; refine jo_l (ly_lt rfl rfl) (hd 8 rfl) ?_; refine jo_nil ?_; refine jc_seq ?_
    refine jc_if rfl (fun h1 => ?_) (fun h1 => ?_)
    · refine jc_skip ?_; refine jc_seq ?_; refine jc_block ?_; refine jc_seq ?_; refine jc_region ?_; refine jo_l (ly_ian (i := i) sl83 rfl rfl (by first | rfl | omega) (by omega)) (hd 9 rfl) ?_; refine jo_l (ly_ldq one23 rfl rfl) (hd 10 rfl) ?_; refine jo_l (ly_as rfl) (hd 4 rfl) ?_; refine jo_nil ?_; refine jc_seq ?_; refine jc_region ?_; refine jo_l (ly_mv rfl) (hd 11 rfl) ?_
      refine jo_call Tryd.f14 (num_s _) rfl Tryd.func14 rfl rfl (ovL_cons rfl ovL_nil) (.cons .i .nil) (hd 12 rfl) ?_ (fun ch hp => by simp at hp)
      rintro y hy; injection hy with hy; subst hy; refine jo_l (ly_ne rfl rfl) (hd 13 rfl) ?_; refine jo_nil ?_
      refine jc_if rfl (fun h2 => ?_) (fun h2 => ?_)
      · refine jc_seq ?_; refine jc_region ?_; refine jo_l (ly_as rfl) (hd 2 rfl) ?_; refine jo_nil ?_; refine jc_ret ?_
        refine ⟨_, _, (.cons rfl .nil), .b, ?_⟩
        rw [decide_eq_false (fun hall => by
          have := hall (es.getD i 0) (by rw [List.getD_eq_getElem?_getD, List.getElem?_eq_getElem (by omega)]; exact List.getElem_mem _)
          contradiction)]
      · refine jc_skip ?_; refine jc_region ?_; refine jo_l (ly_add rfl rfl (wrap_i64 (by omega) (by omega))) (hd 14 rfl) ?_; refine jo_l (ly_mv rfl) (hd 7 rfl) ?_; refine jo_nil ?_
        refine ⟨i + 1, ?_, ?_, rfl, cov_n 19 rfl rfl ?_⟩
        · refine ⟨by omega, fun j hj => ?_⟩
          by_cases hji : j = i
          · subst hji; exact Classical.not_not.1 (by assumption)
          · exact hc2 j (by omega)
        · omega
        · exact (.cons rfl (.u (.u (.u (.u (.u (.u (.u (.u (.u .nil))))))))))
    · refine jc_exit ?_; refine jc_seq ?_; refine jc_region ?_; refine jo_l (ly_as rfl) (hd 2 rfl) ?_; refine jo_nil ?_; refine jc_ret ?_
      refine ⟨_, _, (.cons rfl .nil), .b, ?_⟩
      rw [decide_eq_true (fun e he => by
        obtain ⟨j, hj⟩ := List.getElem?_of_mem he
        have h1 := hc2 j (by have := (List.getElem?_eq_some_iff.1 hj).1; omega)
        rw [List.getD_eq_getElem?_getD, hj] at h1
        exact h1)]

set_option maxHeartbeats 4000000 in
theorem in_s (s : Bool) (a : List Int) : Spec Tryd.prog 25 [.a [.b s, .n false .u64 a]] (fun o => o = .ret (.a [.b s, .n false .u64 a])) := by
  refine spec_of' [(0, .a [.b s, .n false .u64 a])] rfl Tryd.func25 rfl (Nat.le_of_ble_eq_true rfl) fun Γ hN hds hL hR => ?_
  have hd : ∀ d, Nat.blt d 8 = true → d < Γ.N := fun d h => by rw [hN]; exact Nat.le_of_ble_eq_true h
  refine jc_seq ?_; refine jc_region ?_; refine jo_h (hy_box (id := 0) (n := 2) rfl rfl rfl (by decide) rfl) (hd 1 rfl) ?_; refine jo_h (hy_alloc (id := 1) zero30 (by decide) rfl (by decide) rfl) (hd 2 rfl) ?_; refine jo_nil ?_; refine jc_seq ?_; refine jc_region ?_; refine jo_l (ly_fa fld27_0 rfl rfl rfl) (hd 3 rfl) ?_; refine jo_l (ly_ld one4 rfl rfl rfl) (hd 4 rfl) ?_; refine jo_l (ly_fa fld27_1 rfl rfl rfl) (hd 5 rfl) ?_; refine jo_l (ly_ld one25 rfl rfl rfl) (hd 6 rfl) ?_; refine jo_l (ly_build (is := [0, 1]) (xs := [.tmp 4, .tmp 6]) zero30 pls30_0_1 rfl (ovL_cons rfl (ovL_cons rfl ovL_nil)) rfl (by first | (simp [plsOk, cellsV]; done) | (simp [plsOk, cellsV, old]; done)) (all_of rfl) rfl) (hd 7 rfl) ?_; refine jo_st (sy_store rfl rfl rfl siz30 rfl rfl (Nat.le_of_ble_eq_true rfl)) ?_; refine jo_nil ?_; refine jc_ret ?_
  refine ⟨_, _, (.cons (ResV.cell agg30 rfl rfl rfl rfl) .nil), (.a1 .b (.a1 .n .a0)), ?_⟩
  exact rfl
end Go.Proofs.YtaogaegchagbfaaDoor.Vc

/- Numbers with a sign that are handed in. -/
namespace Go.Proofs.YtaogaegchagbfaaDoor.Vc
open Go Go.RowKit
set_option maxRecDepth 100000 in
theorem openW {H : Type} {enc : TypeId × Value → H} {w : World} {sp : Nat → Bool} {held : Bool} {r : Reach} {b0 : Nat} {v : Value} {d : DataW H} {ps : List MemPlace} (hval : Value.okWide Tryd.prog w r b0 24 v) (hd : DataW.Trod enc Tryd.prog w 0 sp held 24 v d ps) :
    ∃ (s : Bool) (l : List Int), Rel w (fun _ => False) w.heap.size [] (.a [.b s, .n false .u64 l]) v ∧ l.length + 2 ≤ Rows.uptoBulk d ∧ u64s l := by
  obtain ⟨cs, rfl, hsz⟩ := Go.WideShapes.okWide_struct Tryd.underlying24 hval
  obtain ⟨fuel, hd⟩ := hd
  have hcl : (Value.agg cs).cells.toList = cs.toList := rfl
  rw [hcl] at hd
  obtain ⟨y0, y1, n, hx, hl, h0, h1⟩ := Go.ChangeShapes.trod_struct2 Tryd.underlying24 hd
  injection hx with hx _; subst hx
  have hl' : cs.toList.length = 2 := hl
  obtain ⟨c0, c1, hcs⟩ : ∃ c0 c1, cs.toList = [c0, c1] := by
    match hm : cs.toList, hl' with
    | [a, b], _ => exact ⟨a, b, rfl⟩
  rw [hcs] at h0 h1
  obtain ⟨s, e0, hy0⟩ := DataW.trod_bool Tryd.underlying4 h0
  have e0' : [c0] = [Value.bool s] := e0
  injection e0' with e0'; subst e0'; subst hy0
  have h1' : DataW.trod enc Tryd.prog w 0 sp held n 22 [c1] = some y1 := h1
  obtain ⟨l, k1, k2, k3⟩ := open_numsV Tryd.underlying22 Tryd.underlying76 (show Tryd.prog.cellsOf 76 = 1 by kernel_rfl) h1'
  refine ⟨s, l, ⟨cs.toList, by simp, ?_⟩, ?_, fun y hy => wf_u64 (k3 y hy)⟩
  · rw [hcs]; exact ⟨_, _, rfl, rfl, _, _, rfl, k1, rfl⟩
  · simp only [Rows.uptoBulk, Rows.uptoBulkAll]; omega
end Go.Proofs.YtaogaegchagbfaaDoor.Vc

/- Contracts of the references' Len, of Lend, lent, Kept. -/
namespace Go.Proofs.YtaogaegchagbfaaDoor.Vc
open Go Go.RowKit
end Go.Proofs.YtaogaegchagbfaaDoor.Vc

/- Contracts with the error: mul.Mul, nat.Add, nat.Sub. -/
namespace Go.Proofs.YtaogaegchagbfaaDoor.Vc
open Go Go.RowKit
theorem AddN_e (a b : List Int) (hla : a.length < 4294967296) (hlb : b.length < 4294967296) (ua : u64s a) (ub : u64s b) : Spec Tryd.prog 60 [.n false .u64 a, .n false .u64 b] (fun o => ∃ (r : List Int) (e : Int), o = .ret (.t [.n false .u64 r, .i .i64 e]) ∧ ErrN (vl a + vl b) r e) := by
  have hu : u64s (sumL a b) := by
    unfold sumL
    have hc := adN_c (a := (swL (trm a) (trm b)).1) (b := (swL (trm a) (trm b)).2) (by unfold swL; split <;> exact u64s_trm (by assumption)) (by unfold swL; split <;> exact u64s_trm (by assumption)) (swL (trm a) (trm b)).1.length
    exact u64s_app1 (adN_u _) hc.1 (by omega)
  by_cases h : lenN (trm (sumL a b)) ≤ 67108864
  · exact (Add_ok a b hla hlb ua ub h).mono fun o ho => ⟨_, 0, ho, errN_ok hu (vl_sumL a b) (by rwa [lenN_trm] at h)⟩
  · exact (Add_big a b hla hlb ua ub (by omega)).mono fun o ho => ⟨_, 3, ho, errN_big hu (vl_sumL a b) (by rw [lenN_trm] at h; omega)⟩
theorem SubN_e (a b : List Int) (hla : a.length < 4294967296) (hlb : b.length < 4294967296) (ua : u64s a) (ub : u64s b) (hle : vl b ≤ vl a) : Spec Tryd.prog 63 [.n false .u64 a, .n false .u64 b] (fun o => ∃ (r : List Int) (e : Int), o = .ret (.t [.n false .u64 r, .i .i64 e]) ∧ ErrN (vl a - vl b) r e) := by
  have hc : 0 ≤ cmpL (trm a) (trm b) := by rcases cmpL_val ua ub with ⟨c, v⟩ | ⟨c, v⟩ | ⟨c, v⟩ <;> omega
  have hu : u64s (difL a b) := sbN_u (u64s_trm ua) (u64s_trm ub) _
  by_cases h : lenN (trm (difL a b)) ≤ 67108864
  · exact (Sub_ok a b hla hlb ua ub hc h).mono fun o ho => ⟨_, 0, ho, errN_ok hu (vl_difL ua ub hle) (by rwa [lenN_trm] at h)⟩
  · exact (Sub_big a b hla hlb ua ub hc (by omega)).mono fun o ho => ⟨_, 3, ho, errN_big hu (vl_difL ua ub hle) (by rw [lenN_trm] at h; omega)⟩
end Go.Proofs.YtaogaegchagbfaaDoor.Vc

/- Contracts of whole.norm, fits, result, Add, Sub, Mul, Neg, Make, Abs: the answer is the caller's own. -/
namespace Go.Proofs.YtaogaegchagbfaaDoor.Vc
open Go Go.RowKit
end Go.Proofs.YtaogaegchagbfaaDoor.Vc

/- Contracts of the references' naturals: at, Cmp, Add, Sub, Mul. -/
namespace Go.Proofs.YtaogaegchagbfaaDoor.Vc
open Go Go.RowKit
end Go.Proofs.YtaogaegchagbfaaDoor.Vc

/- Contracts of the references' numbers with a sign; alike. -/
namespace Go.Proofs.YtaogaegchagbfaaDoor.Vc
open Go Go.RowKit
end Go.Proofs.YtaogaegchagbfaaDoor.Vc

/- Contracts of the references' Bit, Tail; ints: nat.Small, whole.Int, Of. -/
namespace Go.Proofs.YtaogaegchagbfaaDoor.Vc
open Go Go.RowKit
end Go.Proofs.YtaogaegchagbfaaDoor.Vc

/- Contracts of bits.LeadingZeros64, Div64. -/
namespace Go.Proofs.YtaogaegchagbfaaDoor.Vc
open Go Go.RowKit
end Go.Proofs.YtaogaegchagbfaaDoor.Vc

/- Contracts of div.up, down. -/
namespace Go.Proofs.YtaogaegchagbfaaDoor.Vc
open Go Go.RowKit
end Go.Proofs.YtaogaegchagbfaaDoor.Vc

/- Contract of div.guess. -/
namespace Go.Proofs.YtaogaegchagbfaaDoor.Vc
open Go Go.RowKit
end Go.Proofs.YtaogaegchagbfaaDoor.Vc

/- Contract of div.divide. -/
namespace Go.Proofs.YtaogaegchagbfaaDoor.Vc
open Go Go.RowKit
end Go.Proofs.YtaogaegchagbfaaDoor.Vc

/- Contracts by values: nat.Norm, Length, Compare, Add of 1, Sub, Bit of 0, div.Both; the ways of whole.divide. -/
namespace Go.Proofs.YtaogaegchagbfaaDoor.Vc
open Go Go.RowKit
theorem Length_v (v : Int) (hl : (lm v).length < 1099511627776) : Spec Tryd.prog 71 [.n false .u64 (lm v)] (fun o => o = .ret (.i .i64 (lenV v : Int))) := by
  have h := Length_s (lm v) hl (lm_u v)
  rwa [lenN_lm] at h
theorem Add1_v (v : Int) (h0 : 0 ≤ v) (hv : lenV (v + 1) ≤ 67108864) : Spec Tryd.prog 60 [.n false .u64 (lm v), .n false .u64 [1]] (fun o => o = .ret (.t [.n false .u64 (lm (v + 1)), .i .i64 0])) := by
  have hlv := lenV_lm (Nat.le_trans (lenV_mono (show v.natAbs ≤ (v + 1).natAbs by omega)) hv)
  have ev : vl (lm v) = v := by rw [lm_v]; omega
  have u1 : u64s [1] := u64s1 (by decide) (by decide)
  have hd : vl (sumL (lm v) [1]) = v + 1 := by rw [vl_sumL, ev]; rfl
  have hc := adN_c (a := (swL (trm (lm v)) (trm [1])).1) (b := (swL (trm (lm v)) (trm [1])).2) (by unfold swL; split; exact u64s_trm u1; exact u64s_trm (lm_u v)) (by unfold swL; split; exact u64s_trm (lm_u v); exact u64s_trm u1) (swL (trm (lm v)) (trm [1])).1.length
  have hu : u64s (sumL (lm v) [1]) := u64s_app1 (adN_u _) hc.1 (by omega)
  have e := trm_lm hu hd
  have h := Add_ok (lm v) [1] (by omega) (by decide) (lm_u v) u1 (by rw [e, lenN_lm]; exact hv)
  rwa [e] at h
end Go.Proofs.YtaogaegchagbfaaDoor.Vc

/- Contracts of nat.From of 1, whole.result, by values. -/
namespace Go.Proofs.YtaogaegchagbfaaDoor.Vc
open Go Go.RowKit
end Go.Proofs.YtaogaegchagbfaaDoor.Vc

/- Contracts of whole.divide, Quo, Floor, Ceil, Near, Euclid. -/
namespace Go.Proofs.YtaogaegchagbfaaDoor.Vc
open Go Go.RowKit
end Go.Proofs.YtaogaegchagbfaaDoor.Vc

/- Contracts of whole.divide, Quo, Floor, Ceil, Near, Euclid: the answers are the caller's own. -/
namespace Go.Proofs.YtaogaegchagbfaaDoor.Vc
open Go Go.RowKit
end Go.Proofs.YtaogaegchagbfaaDoor.Vc

/- Contracts of surdref01.Shl, Div. -/
namespace Go.Proofs.YtaogaegchagbfaaDoor.Vc
open Go Go.RowKit
end Go.Proofs.YtaogaegchagbfaaDoor.Vc

/- Contracts of surdref06.Floor, Ceil, Quo, Euclid, Near. -/
namespace Go.Proofs.YtaogaegchagbfaaDoor.Vc
open Go Go.RowKit
end Go.Proofs.YtaogaegchagbfaaDoor.Vc

/- Contracts of surdlaw06.pair, rest. -/
namespace Go.Proofs.YtaogaegchagbfaaDoor.Vc
open Go Go.RowKit
end Go.Proofs.YtaogaegchagbfaaDoor.Vc

/- Contracts of the references' Floor, Ceil, Near by their way. -/
namespace Go.Proofs.YtaogaegchagbfaaDoor.Vc
open Go Go.RowKit
end Go.Proofs.YtaogaegchagbfaaDoor.Vc

/- Two numbers with a sign, and more, that are handed in. -/
namespace Go.Proofs.YtaogaegchagbfaaDoor.Vc
open Go Go.RowKit
theorem short2b {H : Type} {d0 d1 : DataW H} {r : List (DataW H)} {l0 l1 : List Int} (hk : Rows.uptoSmall H (d0 :: d1 :: r) = true) (h0 : l0.length + 2 ≤ Rows.uptoBulk d0) (h1 : l1.length + 2 ≤ Rows.uptoBulk d1) : l0.length + l1.length ≤ 1048572 := by
  have h : Rows.uptoBulkAll (d0 :: d1 :: r) ≤ 1048576 := of_decide_eq_true hk
  simp only [Rows.uptoBulkAll] at h
  omega
end Go.Proofs.YtaogaegchagbfaaDoor.Vc

/- What WholeOwn needs, in plain Lean: a row written over by xor, sizes of sums and products, numbers by their answers. -/
namespace Go.Proofs.YtaogaegchagbfaaDoor.Vc
open Go Go.RowKit
def xr5 (x : Int) : Int := bitop .xor .u64 x 5
def xorL (l : List Int) : List Int := l.map xr5
/-- The first i are written over. -/
def xorI (l : List Int) (i : Nat) : List Int := xorL (l.take i) ++ l.drop i
/-- A copy, the first i taken over. -/
def cpI (l : List Int) (i : Nat) : List Int := fillI (l.take i) l.length
theorem lenV_add (a b : Int) : lenV (a + b) ≤ max (lenV a) (lenV b) + 1 := by
  have h := lenV_sub a (-b)
  rw [Int.sub_neg] at h
  have e : lenV (-b) = lenV b := by unfold lenV; rw [Int.natAbs_neg]
  rwa [e] at h
end Go.Proofs.YtaogaegchagbfaaDoor.Vc

/- Digits in any base, padded, the highest first; in plain Lean. -/
namespace Go.Proofs.YtaogaegchagbfaaDoor.Vc
open Go Go.RowKit

/-- The digits, the lowest first, at least m. -/
def padD (b m x : Nat) : List Int := digs b x ++ List.replicate (m - (digs b x).length) 0
/-- The same, the highest first. -/
def hdg (b m x : Nat) : List Int := (padD b m x).reverse
end Go.Proofs.YtaogaegchagbfaaDoor.Vc

/- Powers modulo, bit by bit, in plain Lean. -/
namespace Go.Proofs.YtaogaegchagbfaaDoor.Vc
open Go Go.RowKit
end Go.Proofs.YtaogaegchagbfaaDoor.Vc

/- Digits in any base, told one by one: the loops' steps, in plain Lean. -/
namespace Go.Proofs.YtaogaegchagbfaaDoor.Vc
open Go Go.RowKit
theorem pB_pow : ∀ n, pB n = ((2 ^ (64 * n) : Nat) : Int)
  | 0 => rfl
  | n + 1 => by
    rw [pB, pB_pow n, show 64 * (n + 1) = 64 * n + 64 by omega, Nat.pow_add, Int.natCast_mul, Int.mul_comm]
    rfl
/-- Filled from the end. -/
def revI (B : List Int) (i : Nat) : List Int := List.replicate (B.length - i) 0 ++ (B.take i).reverse
end Go.Proofs.YtaogaegchagbfaaDoor.Vc

/- The powers by which great numbers are parted; what the parts' digits make. -/
namespace Go.Proofs.YtaogaegchagbfaaDoor.Vc
open Go Go.RowKit
def pwV (b k : Nat) : V := .n true .u64 (lm ((b ^ 2 ^ k : Nat) : Int))
def pwR (b K : Nat) : List (List V) := (List.range K).map fun k => [pwV b k]
end Go.Proofs.YtaogaegchagbfaaDoor.Vc

/- The letters of digits; texts of digits: which stands later; in plain Lean. -/
namespace Go.Proofs.YtaogaegchagbfaaDoor.Vc
open Go Go.RowKit
def ltrTab : ByteArray := ⟨#[48, 49, 50, 51, 52, 53, 54, 55, 56, 57, 97, 98, 99, 100, 101, 102, 103, 104, 105, 106, 107, 108, 109, 110, 111, 112, 113, 114, 115, 116, 117, 118, 119, 120, 121, 122]⟩
def ltr (x : Int) : Int := byteAt ltrTab x.toNat
def ltrB (x : Int) : UInt8 := UInt8.ofNat (ltr x).toNat
def txt (l : List Int) : ByteArray := ⟨(l.map ltrB).toArray⟩
end Go.Proofs.YtaogaegchagbfaaDoor.Vc

/- What digits and texts say, in plain Lean. -/
namespace Go.Proofs.YtaogaegchagbfaaDoor.Vc
open Go Go.RowKit
/-- The number that digits say, the highest first. -/
def hv (b : Nat) (l : List Int) : Int := vb b l.reverse
/-- A byte as a digit; 36: none. -/
def dgv (c : Int) : Int := if 48 ≤ c ∧ c ≤ 57 then c - 48 else if 97 ≤ c ∧ c ≤ 122 then c - 97 + 10 else 36
def dgs (s : ByteArray) : List Int := (bytesI s).map dgv
end Go.Proofs.YtaogaegchagbfaaDoor.Vc

/- The order of numbers and the order of their texts, in plain Lean. -/
namespace Go.Proofs.YtaogaegchagbfaaDoor.Vc
open Go Go.RowKit
def ordW (s t : ByteArray) : Int := if s.size < t.size ∨ (s.size = t.size ∧ Op.bytesLess s.toList t.toList = true) then -1 else if s = t then 0 else 1
end Go.Proofs.YtaogaegchagbfaaDoor.Vc

/- Powers, and numbers of many digits, in plain Lean. -/
namespace Go.Proofs.YtaogaegchagbfaaDoor.Vc
open Go Go.RowKit
def PW (v n : Nat) : Int := ((v ^ n : Nat) : Int)
/-- What the map of powers keeps. -/
def cF (b n : Nat) : V := .n false .u64 (lm (PW b n))
end Go.Proofs.YtaogaegchagbfaaDoor.Vc

/- Digits one by one, texts letter by letter, in plain Lean. -/
namespace Go.Proofs.YtaogaegchagbfaaDoor.Vc
open Go Go.RowKit
end Go.Proofs.YtaogaegchagbfaaDoor.Vc

/- Newton's steps toward a root, in plain Lean. -/
namespace Go.Proofs.YtaogaegchagbfaaDoor.Vc
open Go Go.RowKit
def nwt (a x n : Nat) : Nat := (n * x + a / x ^ n) / (n + 1)
structure RootIs (a k r : Nat) : Prop where
  le : r ^ k ≤ a
  lt : a < (r + 1) ^ k
theorem RootIs.is {a k r x : Nat} (h : RootIs a k r) (h1 : r ≤ x) (h2 : x ^ k ≤ a) : x = r := by
  rcases Nat.lt_or_ge r x with h3 | h3
  · have h4 := Nat.pow_le_pow_left h3 k
    have h5 := h.lt
    have h6 : (r + 1) ^ k ≤ a := Nat.le_trans h4 h2
    omega
  · omega
theorem or_z {v : Int} (h0 : 0 ≤ v) (h1 : v < 18446744073709551616) : bitop .or .u64 0 v = v := by
  have h := (or_lo (c := 0) (x := v) (s := 0) (by decide) (by decide) (by decide) h0).1
  have e : loS v 0 = v := by unfold loS; rw [Int.pow_zero, Int.mul_one]; omega
  rw [e] at h
  omega
/-- 2 to the n, limb by limb. -/
def twoL (n : Nat) : List Int := List.replicate (n / 64) 0 ++ [((2 ^ (n % 64) : Nat) : Int), 0]
def twoS (n i : Nat) : List Int := if i = 0 then List.replicate (n / 64 + 2) 0 else twoL n
end Go.Proofs.YtaogaegchagbfaaDoor.Vc

/- Noughts at the end, Jacobi's symbol by its steps, in plain Lean. -/
namespace Go.Proofs.YtaogaegchagbfaaDoor.Vc
open Go Go.RowKit
def tz (x : Nat) : Nat := if h : x = 0 ∨ x % 2 = 1 then 0 else tz (x / 2) + 1
termination_by x
decreasing_by omega
theorem tz_0 : tz 0 = 0 := by rw [tz]; simp
theorem tz_odd {x : Nat} (h : x % 2 = 1) : tz x = 0 := by rw [tz, dif_pos (.inr h)]
theorem tz_even {x : Nat} (h0 : x ≠ 0) (h : x % 2 = 0) : tz x = tz (x / 2) + 1 := by rw [tz, dif_neg (by omega)]
theorem tz_spec {x : Nat} (h0 : 0 < x) : ∃ j, x = 2 ^ tz x * (2 * j + 1) := by
  induction x using Nat.strongRecOn with
  | _ x ih =>
    rcases Nat.mod_two_eq_zero_or_one x with h | h
    · obtain ⟨j, hj⟩ := ih (x / 2) (by omega) (by omega)
      refine ⟨j, ?_⟩
      rw [tz_even (by omega) h, Nat.pow_succ, Nat.mul_comm _ 2, Nat.mul_assoc, ← hj]
      omega
    · exact ⟨x / 2, by rw [tz_odd h]; omega⟩
theorem tz_is {k j : Nat} : tz (2 ^ k * (2 * j + 1)) = k := by
  induction k with
  | zero => exact tz_odd (by omega)
  | succ k ih =>
    have hp : 0 < 2 ^ k * (2 * j + 1) := Nat.mul_pos (Nat.pow_pos (by decide)) (by omega)
    have e : 2 ^ (k + 1) * (2 * j + 1) = 2 * (2 ^ k * (2 * j + 1)) := by rw [Nat.pow_succ, Nat.mul_comm _ 2, Nat.mul_assoc]
    rw [e, tz_even (by omega) (by omega), show 2 * (2 ^ k * (2 * j + 1)) / 2 = 2 ^ k * (2 * j + 1) by omega, ih]
theorem tz_le {x : Nat} (h0 : 0 < x) : 2 ^ tz x ≤ x := by
  obtain ⟨j, hj⟩ := tz_spec h0
  have h1 : 2 ^ tz x * 1 ≤ 2 ^ tz x * (2 * j + 1) := Nat.mul_le_mul_left _ (by omega)
  rw [← hj] at h1
  omega
theorem tz_lt {x n : Nat} (h0 : 0 < x) (h : x < 2 ^ n) : tz x < n := by
  have h1 := tz_le h0
  rcases Nat.lt_or_ge (tz x) n with h2 | h2
  · exact h2
  · have := Nat.pow_le_pow_right (n := 2) (by decide) h2
    omega
/-- What is left behind the noughts at the end. -/
def od (x : Nat) : Nat := x / 2 ^ tz x
theorem od_mod {x : Nat} (h0 : 0 < x) : od x % 2 = 1 := by
  obtain ⟨j, hj⟩ := tz_spec h0
  unfold od
  have hp : 0 < 2 ^ tz x := Nat.pow_pos (by decide)
  have e : x / 2 ^ tz x = 2 * j + 1 := by
    generalize 2 ^ tz x = p at *
    rw [hj, Nat.mul_div_cancel_left _ hp]
  omega
theorem od_le {x : Nat} : od x ≤ x := Nat.div_le_self _ _
def fl8 (m : Nat) (s : Int) : Int := if m % 8 = 3 ∨ m % 8 = 5 then -s else s
def fl4 (x m : Nat) (s : Int) : Int := if x % 4 = 3 ∧ m % 4 = 3 then -s else s
def flt (x m : Nat) (s : Int) : Int := if tz x % 2 = 1 then fl8 m s else s
/-- The symbol, by reciprocity. -/
def jf (x m : Nat) (s : Int) : Int := if h : x = 0 then (if m = 1 then s else 0) else jf (m % od x) (od x) (fl4 (od x) m (flt x m s))
termination_by x
decreasing_by
  have h1 := od_mod (x := x) (by omega)
  have h2 := @od_le x
  have h3 := Nat.mod_lt m (show 0 < od x by omega)
  omega
/-- The lowest 1 of a word. -/
theorem low_one {x : Nat} (h0 : 0 < x) (h : x < 2 ^ 64) : x &&& (2 ^ 64 - x) = 2 ^ tz x := by
  obtain ⟨j, hj⟩ := tz_spec h0
  apply Nat.eq_of_testBit_eq
  intro i
  have e : 2 ^ 64 - x = 2 ^ 64 - (x - 1 + 1) := by omega
  rw [Nat.testBit_and, e, Nat.testBit_two_pow_sub_succ (by omega), Nat.testBit_two_pow]
  generalize tz x = k at *
  have hp : 0 < 2 ^ k := Nat.pow_pos (by decide)
  rcases Nat.lt_trichotomy i k with h1 | h1 | h1
  · rw [hj, Nat.testBit_two_pow_mul]
    simp [show ¬ k ≤ i by omega, show ¬ k = i by omega]
  · subst h1
    have e1 : x - 1 = 2 ^ i * (2 * j) + (2 ^ i - 1) := by rw [hj, Nat.mul_add, Nat.mul_one]; omega
    rw [e1, Nat.testBit_two_pow_mul_add _ (by omega), if_neg (by omega), Nat.sub_self, hj, Nat.testBit_two_pow_mul]
    have hi : i < 64 := by
      rcases Nat.lt_or_ge i 64 with h2 | h2
      · exact h2
      · have h3 := Nat.pow_le_pow_right (n := 2) (by decide) h2
        have h4 : 2 ^ i * 1 ≤ 2 ^ i * (2 * j + 1) := Nat.mul_le_mul_left _ (by omega)
        omega
    simp [hi]
  · have e1 : x - 1 = 2 ^ k * (2 * j) + (2 ^ k - 1) := by rw [hj, Nat.mul_add, Nat.mul_one]; omega
    rw [e1, Nat.testBit_two_pow_mul_add _ (by omega), if_neg (by omega), hj, Nat.testBit_two_pow_mul]
    have e2 : (2 * j + 1).testBit (i - k) = (2 * j).testBit (i - k) := by
      obtain ⟨m, hm⟩ : ∃ m, i - k = m + 1 := ⟨i - k - 1, by omega⟩
      rw [hm, Nat.testBit_succ, Nat.testBit_succ]
      congr 1
      omega
    simp [show k ≤ i by omega, show ¬ k = i by omega, e2]
    intro h8 _; exact h8
def tzTab : List Int := [0, 1, 56, 2, 57, 49, 28, 3, 61, 58, 42, 50, 38, 29, 17, 4, 62, 47, 59, 36, 45, 43, 51, 22, 53, 39, 33, 30, 24, 18, 12, 5, 63, 55, 48, 27, 60, 41, 37, 16, 46, 35, 44, 21, 52, 32, 23, 11, 54, 26, 40, 15, 34, 20, 31, 10, 25, 14, 19, 9, 13, 8, 7, 6]
theorem tz_tabB : ((List.range 64).all fun k => Nat.blt (2 ^ k * 285870213051353865 % 18446744073709551616 / 288230376151711744) 64 && decide (tzTab.getD (2 ^ k * 285870213051353865 % 18446744073709551616 / 288230376151711744) 0 = Int.ofNat k)) = true := by decide +kernel
theorem tz_tab (k : Nat) (h : k < 64) : 2 ^ k * 285870213051353865 % 18446744073709551616 / 288230376151711744 < 64 ∧ tzTab.getD (2 ^ k * 285870213051353865 % 18446744073709551616 / 288230376151711744) 0 = (k : Int) := by
  have h1 := List.all_eq_true.1 tz_tabB k (List.mem_range.2 h)
  rw [Bool.and_eq_true] at h1
  exact ⟨Nat.le_of_ble_eq_true h1.1, of_decide_eq_true h1.2⟩
abbrev tzCells : List V := ints .u8 tzTab
theorem low_one' {x : Nat} (h0 : 0 < x) (h : x < 18446744073709551616) : x &&& (18446744073709551616 - x) = 2 ^ tz x := low_one h0 h
theorem getD_drop' {l : List Int} {k i : Nat} : (l.drop k).getD i 0 = l.getD (k + i) 0 := by
  rw [List.getD_eq_getElem?_getD, List.getD_eq_getElem?_getD, List.getElem?_drop]
theorem tz_p2 {x : Nat} (h0 : 0 < x) (h : x < 18446744073709551616) : tz x < 64 ∧ 2 ^ tz x < 18446744073709551616 := by
  have h1 : tz x < 64 := tz_lt h0 h
  have h2 := Nat.pow_lt_pow_right (a := 2) (by decide) h1
  exact ⟨h1, h2⟩
theorem ints_cell {l : List Int} {j : Nat} {v : Int} (h1 : j < l.length) (h2 : l.getD j 0 = v) : ((ints .u8 l).drop (j * 1))[0]? = some (V.i .u8 v) := by
  rw [List.getElem?_drop, Nat.mul_one, Nat.add_zero, ints_at, List.getElem?_eq_getElem h1]
  rw [List.getD_eq_getElem?_getD, List.getElem?_eq_getElem h1] at h2
  rw [← h2]; rfl
theorem tz_len : tzTab.length = 64 := by decide
theorem tz_cell {k : Nat} (h : k < 64) : (tzCells.drop (2 ^ k * 285870213051353865 % 18446744073709551616 / 288230376151711744 * 1))[0]? = some (.i .u8 (k : Int)) :=
  ints_cell (by rw [tz_len]; exact (tz_tab k h).1) (tz_tab k h).2
theorem and_nat {a b : Nat} (ha : a < 18446744073709551616) (hb : b < 18446744073709551616) : bitop .and .u64 (a : Int) (b : Int) = ((a &&& b : Nat) : Int) := by
  unfold bitop
  simp only [IntKind.bits]
  have e1 : (BitVec.ofInt 64 (a : Int)).toNat = a := by rw [BitVec.toNat_ofInt]; simp; omega
  have e2 : (BitVec.ofInt 64 (b : Int)).toNat = b := by rw [BitVec.toNat_ofInt]; simp; omega
  have e3 : (BitVec.ofInt 64 (a : Int) &&& BitVec.ofInt 64 (b : Int)).toNat = a &&& b := by rw [BitVec.toNat_and, e1, e2]
  show IntKind.u64.wrap (((BitVec.ofInt 64 (a : Int) &&& BitVec.ofInt 64 (b : Int)).toNat : Nat) : Int) = _
  rw [e3]
  have h := Nat.and_le_left (n := a) (m := b)
  exact wrap_u64 (by omega) (by omega)
/-- The noughts at the end, limb by limb. -/
theorem tz_word {x r : Nat} (h0 : 0 < x) (h : x < 2 ^ 64) : tz (x + 2 ^ 64 * r) = tz x := by
  obtain ⟨j, hj⟩ := tz_spec h0
  have hk := tz_lt h0 h
  generalize tz x = k at *
  have e : x + 2 ^ 64 * r = 2 ^ k * (2 * (j + 2 ^ (63 - k) * r) + 1) := by
    have e1 : (2 : Nat) ^ 64 = 2 ^ k * (2 * 2 ^ (63 - k)) := by rw [← Nat.pow_succ', ← Nat.pow_add]; congr 1; omega
    rw [hj, e1, Nat.mul_assoc, ← Nat.mul_add]
    congr 1
    rw [Nat.mul_add, Nat.mul_assoc]
    omega
  rw [e, tz_is]
theorem tz_zero {y : Nat} (h0 : 0 < y) : tz (2 ^ 64 * y) = 64 + tz y := by
  obtain ⟨j, hj⟩ := tz_spec h0
  have e : 2 ^ 64 * y = 2 ^ (64 + tz y) * (2 * j + 1) := by rw [Nat.pow_add, Nat.mul_assoc, ← hj]
  rw [e, tz_is]
theorem tail_val : ∀ {l : List Int} {i : Nat}, u64s l → i < l.length → (∀ j < i, l.getD j 0 = 0) → l.getD i 0 ≠ 0 → tz (vl l).toNat = 64 * i + tz (l.getD i 0).toNat
  | [], i, _, hi, _, _ => by simp at hi
  | y :: l, 0, hu, _, _, hx => by
    have hy := hu y (List.mem_cons_self ..)
    have hl := vl_nonneg fun z hz => hu z (List.mem_cons_of_mem _ hz)
    have hx' : y ≠ 0 := hx
    have e : (vl (y :: l)).toNat = y.toNat + 2 ^ 64 * (vl l).toNat := by
      simp only [vl]
      have hB : Bs = 18446744073709551616 := rfl
      rw [hB]
      omega
    rw [e, tz_word (by omega) (by omega)]
    show _ = 64 * 0 + tz y.toNat
    omega
  | y :: l, i + 1, hu, hi, hz, hx => by
    have hy : y = 0 := hz 0 (by omega)
    have hu' : u64s l := fun z hzm => hu z (List.mem_cons_of_mem _ hzm)
    have hl := vl_nonneg hu'
    have hi' : i < l.length := by simpa using hi
    have hxi : l.getD i 0 ≠ 0 := hx
    have ih := tail_val (l := l) (i := i) hu' hi' (fun j hj => hz (j + 1) (by omega)) hxi
    have hp : 0 < (vl l).toNat := by
      rcases Nat.eq_zero_or_pos (vl l).toNat with h0 | h0
      · have h1 := row_at hu' i
        rw [h0] at h1
        simp at h1
        exact absurd h1 hxi
      · exact h0
    have e : (vl (y :: l)).toNat = 2 ^ 64 * (vl l).toNat := by
      simp only [vl]
      have hB : Bs = 18446744073709551616 := rfl
      rw [hB, hy]
      omega
    rw [e, tz_zero hp, ih]
    show _ = 64 * (i + 1) + tz (l.getD i 0).toNat
    omega
theorem tail_none {l : List Int} (hu : u64s l) (hz : ∀ j < l.length, l.getD j 0 = 0) : vl l = 0 := by
  induction l with
  | nil => rfl
  | cons y l ih =>
    have hy : y = 0 := hz 0 (by simp)
    have h := ih (fun z hzm => hu z (List.mem_cons_of_mem _ hzm)) fun j hj => hz (j + 1) (by simpa using hj)
    simp only [vl]
    rw [hy, h]
    rfl
/-- Shifted to the right, whatever falls off. -/
theorem dn_floor {a : List Int} {s : Nat} (hs : s ≤ 64) (hu : u64s a) : vl (dnN a s a.length) = vl a / 2 ^ s := by
  have h1 := dnN_val (a := a) hs a.length
  rw [vk_all (Nat.le_refl _), getD_ge (Nat.le_refl _), Int.zero_emod, Int.mul_zero] at h1
  have hp := p2pos s
  have h2 : 0 ≤ a.getD 0 0 % 2 ^ s := Int.emod_nonneg _ (Int.ne_of_gt hp)
  have h3 : a.getD 0 0 % 2 ^ s < 2 ^ s := Int.emod_lt_of_pos _ hp
  have e : vl a = a.getD 0 0 % 2 ^ s + 2 ^ s * vl (dnN a s a.length) := by omega
  rw [e, Int.add_mul_ediv_left _ _ (Int.ne_of_gt hp), Int.ediv_eq_zero_of_lt h2 h3, Int.zero_add]
theorem drop_val {l : List Int} {k : Nat} (hu : u64s l) (hk : k ≤ l.length) : vl (l.drop k) = vl l / pB k := by
  have ht : u64s (l.take k) := fun z hz => hu z (List.mem_of_mem_take hz)
  have e : vl l = vl (l.take k) + pB k * vl (l.drop k) := by
    have h := vl_app (l.take k) (l.drop k)
    rw [List.take_append_drop, List.length_take, Nat.min_eq_left hk] at h
    exact h
  have h2 := vl_nonneg ht
  have h3 := vl_lt ht
  rw [List.length_take, Nat.min_eq_left hk] at h3
  have hp := pB_pos k
  rw [e, Int.add_mul_ediv_left _ _ (Int.ne_of_gt hp), Int.ediv_eq_zero_of_lt h2 h3, Int.zero_add]
theorem u64s_drop' {l : List Int} {k : Nat} (hu : u64s l) : u64s (l.drop k) := fun z hz => hu z (List.mem_of_mem_drop hz)
theorem right_val {x n : Nat} (h : n / 64 ≤ (lm (x : Int)).length) : vl (dnN ((lm (x : Int)).drop (n / 64)) (n % 64) ((lm (x : Int)).drop (n / 64)).length) = ((x / 2 ^ n : Nat) : Int) := by
  rw [dn_floor (by omega) (u64s_drop' (lm_u _)), drop_val (lm_u _) h, vl_lm (Int.natCast_nonneg _), pB_pow, ← p2cast]
  rw [Int.ediv_ediv_of_nonneg (Int.natCast_nonneg _), ← Int.natCast_mul, ← Nat.pow_add, Nat.div_add_mod]
  rfl
end Go.Proofs.YtaogaegchagbfaaDoor.Vc

/- Bits of naturals and of two's complement, in plain Lean. -/
namespace Go.Proofs.YtaogaegchagbfaaDoor.Vc
open Go Go.RowKit
def dgl (z j : Nat) : Int := ((z / 2 ^ (64 * j) % 2 ^ 64 : Nat) : Int)
def dll (z m : Nat) : List Int := (List.range m).map (dgl z)
theorem dll_len (z m : Nat) : (dll z m).length = m := by simp [dll]
theorem dll_succ (z m : Nat) : dll z (m + 1) = dll z m ++ [dgl z m] := by simp [dll, List.range_succ]
theorem dgl_bd (z j : Nat) : 0 ≤ dgl z j ∧ dgl z j < 18446744073709551616 := by
  unfold dgl
  have h := Nat.mod_lt (z / 2 ^ (64 * j)) (show 0 < 2 ^ 64 by decide)
  have e : (2 : Nat) ^ 64 = 18446744073709551616 := by decide
  omega
theorem dll_u (z m : Nat) : u64s (dll z m) := fun x hx => by
  obtain ⟨j, _, rfl⟩ := List.mem_map.1 hx
  exact dgl_bd z j
theorem dll_vl (z : Nat) : ∀ m, vl (dll z m) = ((z % 2 ^ (64 * m) : Nat) : Int)
  | 0 => by simp [dll, vl, Nat.mod_one]
  | m + 1 => by
    rw [dll_succ, vl_app, dll_len, dll_vl z m, pB_pow, show vl [dgl z m] = dgl z m by simp [vl]]
    unfold dgl
    rw [show 64 * (m + 1) = 64 * m + 64 by omega, Nat.pow_add, Nat.mod_mul, Int.natCast_add, Int.natCast_mul]
theorem dll_trm {z m : Nat} (h : z < 2 ^ (64 * m)) : trm (dll z m) = lm (z : Int) := trm_lm (dll_u z m) (by rw [dll_vl, Nat.mod_eq_of_lt h])
theorem fill_dll {z i n : Nat} (h : i < n) : (fillI (dll z i) n).set ((0 + i) * 1) (dgl z i) = fillI (dll z (i + 1)) n := by
  have := fillI_set (l := dll z i) (n := n) (v := dgl z i) (by rw [dll_len]; exact h)
  rw [dll_len] at this
  rw [Nat.zero_add, Nat.mul_one, this, dll_succ]
theorem dll_0 {z n : Nat} : fillI (dll z 0) n = List.replicate n 0 := by unfold fillI dll; simp
theorem dll_fl {z i n : Nat} (h : i ≤ n) : (fillI (dll z i) n).length = n := fillI_len (by rw [dll_len]; exact h)
theorem dll_all {z n : Nat} : fillI (dll z n) n = dll z n := fillI_full (dll_len z n)
theorem lm_at (x i : Nat) : (lm (x : Int)).getD i 0 = dgl x i := by
  have h := row_at (lm_u (x : Int)) i
  rw [vl_lm (Int.natCast_nonneg _), Int.toNat_natCast] at h
  rw [h]
  unfold dgl
  rw [Nat.pow_mul]
theorem lm_lt (x : Nat) : x < 2 ^ (64 * (lm (x : Int)).length) := by
  have h := vl_lt (lm_u (x : Int))
  rw [vl_lm (Int.natCast_nonneg _), pB_pow] at h
  exact Int.ofNat_lt.1 h
theorem lm_lt2 {x n : Nat} (h : (lm (x : Int)).length ≤ n) : x < 2 ^ (64 * n) := Nat.lt_of_lt_of_le (lm_lt x) (Nat.pow_le_pow_right (by decide) (by omega))
theorem lenV_pow2 {z n : Nat} (h : z < 2 ^ n) : lenV (z : Int) ≤ n := nbits_le.2 (by rw [Int.natAbs_natCast]; exact h)
theorem lt_lenV (x : Nat) : x < 2 ^ lenV (x : Int) := by
  have := nbits_le.1 (Nat.le_refl (lenV (x : Int)))
  rwa [Int.natAbs_natCast] at this
theorem dgl_and (x y i : Nat) : bitop .and .u64 (dgl x i) (dgl y i) = dgl (x &&& y) i := by
  unfold dgl
  have h1 := Nat.mod_lt (x / 2 ^ (64 * i)) (show 0 < 2 ^ 64 by decide)
  have h2 := Nat.mod_lt (y / 2 ^ (64 * i)) (show 0 < 2 ^ 64 by decide)
  have e : (2 : Nat) ^ 64 = 18446744073709551616 := by decide
  rw [and_nat (by omega) (by omega), Nat.and_div_two_pow, Nat.and_mod_two_pow]
theorem or_nat {a b : Nat} (ha : a < 18446744073709551616) (hb : b < 18446744073709551616) : bitop .or .u64 (a : Int) (b : Int) = ((a ||| b : Nat) : Int) := by
  unfold bitop
  simp only [IntKind.bits]
  have e1 : (BitVec.ofInt 64 (a : Int)).toNat = a := by rw [BitVec.toNat_ofInt]; simp; omega
  have e2 : (BitVec.ofInt 64 (b : Int)).toNat = b := by rw [BitVec.toNat_ofInt]; simp; omega
  have e3 : (BitVec.ofInt 64 (a : Int) ||| BitVec.ofInt 64 (b : Int)).toNat = a ||| b := by rw [BitVec.toNat_or, e1, e2]
  show IntKind.u64.wrap (((BitVec.ofInt 64 (a : Int) ||| BitVec.ofInt 64 (b : Int)).toNat : Nat) : Int) = _
  rw [e3]
  have h : a ||| b < 2 ^ 64 := Nat.or_lt_two_pow ha hb
  have e : (2 : Nat) ^ 64 = 18446744073709551616 := by decide
  exact wrap_u64 (by omega) (by omega)
theorem dgl_or (x y i : Nat) : bitop .or .u64 (dgl x i) (dgl y i) = dgl (x ||| y) i := by
  unfold dgl
  have h1 := Nat.mod_lt (x / 2 ^ (64 * i)) (show 0 < 2 ^ 64 by decide)
  have h2 := Nat.mod_lt (y / 2 ^ (64 * i)) (show 0 < 2 ^ 64 by decide)
  have e : (2 : Nat) ^ 64 = 18446744073709551616 := by decide
  rw [or_nat (by omega) (by omega), Nat.or_div_two_pow, Nat.or_mod_two_pow]
theorem xor_nat {a b : Nat} (ha : a < 18446744073709551616) (hb : b < 18446744073709551616) : bitop .xor .u64 (a : Int) (b : Int) = ((a ^^^ b : Nat) : Int) := by
  unfold bitop
  simp only [IntKind.bits]
  have e1 : (BitVec.ofInt 64 (a : Int)).toNat = a := by rw [BitVec.toNat_ofInt]; simp; omega
  have e2 : (BitVec.ofInt 64 (b : Int)).toNat = b := by rw [BitVec.toNat_ofInt]; simp; omega
  have e3 : (BitVec.ofInt 64 (a : Int) ^^^ BitVec.ofInt 64 (b : Int)).toNat = a ^^^ b := by rw [BitVec.toNat_xor, e1, e2]
  show IntKind.u64.wrap (((BitVec.ofInt 64 (a : Int) ^^^ BitVec.ofInt 64 (b : Int)).toNat : Nat) : Int) = _
  rw [e3]
  have h : a ^^^ b < 2 ^ 64 := Nat.xor_lt_two_pow ha hb
  have e : (2 : Nat) ^ 64 = 18446744073709551616 := by decide
  exact wrap_u64 (by omega) (by omega)
theorem dgl_xor (x y i : Nat) : bitop .xor .u64 (dgl x i) (dgl y i) = dgl (x ^^^ y) i := by
  unfold dgl
  have h1 := Nat.mod_lt (x / 2 ^ (64 * i)) (show 0 < 2 ^ 64 by decide)
  have h2 := Nat.mod_lt (y / 2 ^ (64 * i)) (show 0 < 2 ^ 64 by decide)
  have e : (2 : Nat) ^ 64 = 18446744073709551616 := by decide
  rw [xor_nat (by omega) (by omega), Nat.xor_div_two_pow, Nat.xor_mod_two_pow]
theorem and_or (a : Nat) : ∀ b, (a &&& b) + (a ||| b) = a + b := by
  induction a using Nat.strongRecOn with
  | _ a ih =>
    intro b
    rcases Nat.eq_zero_or_pos a with h0 | h0
    · subst h0; simp
    · have h := ih (a / 2) (by omega) (b / 2)
      have e1 := @Nat.and_div_two a b
      have e2 := @Nat.or_div_two a b
      have m1 := @Nat.and_mod_two_eq_one a b
      have m2 := @Nat.or_mod_two_eq_one a b
      rw [← e1, ← e2] at h
      rcases Nat.mod_two_eq_zero_or_one a with p | p <;> rcases Nat.mod_two_eq_zero_or_one b with q | q <;> omega
theorem xor_and (a : Nat) : ∀ b, (a ^^^ b) + 2 * (a &&& b) = a + b := by
  induction a using Nat.strongRecOn with
  | _ a ih =>
    intro b
    rcases Nat.eq_zero_or_pos a with h0 | h0
    · subst h0; simp
    · have h := ih (a / 2) (by omega) (b / 2)
      have e1 := @Nat.and_div_two a b
      have e2 := @Nat.xor_div_two a b
      have m1 := @Nat.and_mod_two_eq_one a b
      have m2 := @Nat.xor_mod_two_eq_one a b
      rw [← e1, ← e2] at h
      rcases Nat.mod_two_eq_zero_or_one a with p | p <;> rcases Nat.mod_two_eq_zero_or_one b with q | q <;> omega
theorem xor_sub (a b : Nat) : a ^^^ (a &&& b) = a - (a &&& b) := by
  have h := xor_and a (a &&& b)
  have e : a &&& (a &&& b) = a &&& b := by rw [← Nat.and_assoc, Nat.and_self]
  rw [e] at h
  have := Nat.and_le_left (n := a) (m := b)
  omega
theorem fill_t0 {l : List Int} {n : Nat} : fillI (l.take 0) n = List.replicate n 0 := by unfold fillI; simp
theorem fill_take {l : List Int} {i : Nat} (h : i < l.length) : ((fillI (l.take i) (l.length + 1)).set ((0 + i) * 1) (l.getD i 0)).set ((0 + (i + 1)) * 1) 0 = fillI (l.take (i + 1)) (l.length + 1) := by
  have e1 : (l.take i).length = i := by rw [List.length_take]; omega
  have h1 := fillI_set (l := l.take i) (n := l.length + 1) (v := l.getD i 0) (by omega)
  have e2 : l.take i ++ [l.getD i 0] = l.take (i + 1) := by rw [List.take_add_one, List.getD_eq_getElem?_getD, List.getElem?_eq_getElem h]; rfl
  have e3 : (l.take (i + 1)).length = i + 1 := by rw [List.length_take]; omega
  rw [e1, e2] at h1
  rw [Nat.zero_add, Nat.mul_one, h1, Nat.zero_add, Nat.mul_one]
  unfold fillI
  rw [e3, List.set_append_right _ _ (by omega), e3, Nat.sub_self]
  congr 1
  obtain ⟨m, hm⟩ : ∃ m, l.length + 1 - (i + 1) = m + 1 := ⟨l.length + 1 - (i + 1) - 1, by omega⟩
  rw [hm, List.replicate_succ, List.set_cons_zero]
theorem fill_take0 {l : List Int} {i : Nat} (h : i < l.length) : (fillI (l.take i) (l.length + 1)).getD ((0 + i) * 1) 0 = 0 := by
  have e1 : (l.take i).length = i := by rw [List.length_take]; omega
  rw [Nat.zero_add, Nat.mul_one]
  unfold fillI
  rw [List.getD_eq_getElem?_getD, List.getElem?_append_right (by omega), ← List.getD_eq_getElem?_getD]
  exact getD_zeros _ _
theorem fill_take1 {l : List Int} {i : Nat} {v : Int} (h : i < l.length) : ((fillI (l.take i) (l.length + 1)).set ((0 + i) * 1) v).getD ((0 + (i + 1)) * 1) 0 = 0 := by
  have e1 : (l.take i).length = i := by rw [List.length_take]; omega
  rw [Nat.zero_add, Nat.mul_one, Nat.zero_add, Nat.mul_one, List.getD_eq_getElem?_getD, List.getElem?_set_ne (by omega)]
  unfold fillI
  rw [List.getElem?_append_right (by omega), ← List.getD_eq_getElem?_getD]
  exact getD_zeros _ _
theorem fill_one {l : List Int} : fillI l (l.length + 1) = l ++ [0] := by
  unfold fillI
  rw [show l.length + 1 - l.length = 1 by omega]
  rfl
theorem shr63 {x : Int} (h0 : 0 ≤ x) (h1 : x < 18446744073709551616) : (x / 2).fdiv (2 ^ min 63 64) = 0 := by
  rw [show (2 : Int) ^ min 63 64 = 9223372036854775808 by decide, Int.fdiv_eq_ediv_of_nonneg _ (by decide)]
  omega
/-- The bits of two's complement. -/
def tw (v : Int) : Nat := if v < 0 then (-v - 1).toNat else v.toNat
theorem tw_p {v : Int} (h : 0 ≤ v) : tw v = v.toNat := by unfold tw; rw [if_neg (by omega)]
theorem tw_n {v : Int} (h : v < 0) : tw v = (-v - 1).toNat := by unfold tw; rw [if_pos h]
def andI (v w : Int) : Int :=
  if v < 0 then (if w < 0 then -((tw v ||| tw w : Nat) : Int) - 1 else ((tw w ^^^ (tw w &&& tw v) : Nat) : Int))
  else (if w < 0 then ((tw v ^^^ (tw v &&& tw w) : Nat) : Int) else ((tw v &&& tw w : Nat) : Int))
def orI (v w : Int) : Int :=
  if v < 0 then (if w < 0 then -((tw v &&& tw w : Nat) : Int) - 1 else -((tw v ^^^ (tw v &&& tw w) : Nat) : Int) - 1)
  else (if w < 0 then -((tw w ^^^ (tw w &&& tw v) : Nat) : Int) - 1 else ((tw v ||| tw w : Nat) : Int))
def xoI (v w : Int) : Int := if (decide (v < 0) != decide (w < 0)) = true then -((tw v ^^^ tw w : Nat) : Int) - 1 else ((tw v ^^^ tw w : Nat) : Int)
theorem masks_1 (v w : Int) : andI v w + orI v w = v + w := by
  have h1 := and_or (tw v) (tw w)
  have h2 := xor_sub (tw v) (tw w)
  have h3 := xor_sub (tw w) (tw v)
  have h4 := Nat.and_comm (tw v) (tw w)
  have h5 := Nat.and_le_left (n := tw v) (m := tw w)
  have h6 := Nat.and_le_left (n := tw w) (m := tw v)
  unfold andI orI
  by_cases hv : v < 0 <;> by_cases hw : w < 0 <;> simp only [hv, hw, if_true, if_false] <;>
    first
      | (have a := tw_n hv; have b := tw_n hw; omega)
      | (have a := tw_n hv; have b := tw_p (v := w) (by omega); omega)
      | (have a := tw_p (v := v) (by omega); have b := tw_n hw; omega)
      | (have a := tw_p (v := v) (by omega); have b := tw_p (v := w) (by omega); omega)
theorem masks_2 (v w : Int) : xoI v w = orI v w - andI v w := by
  have h0 := xor_and (tw v) (tw w)
  have h1 := and_or (tw v) (tw w)
  have h2 := xor_sub (tw v) (tw w)
  have h3 := xor_sub (tw w) (tw v)
  have h4 := Nat.and_comm (tw v) (tw w)
  have h5 := Nat.and_le_left (n := tw v) (m := tw w)
  have h6 := Nat.and_le_left (n := tw w) (m := tw v)
  unfold xoI andI orI
  by_cases hv : v < 0 <;> by_cases hw : w < 0 <;> simp [hv, hw] <;> omega
theorem masks_4 (v w : Int) : andI v (-1 - w) = v - andI v w := by
  have e : tw (-1 - w) = tw w := by
    unfold tw
    by_cases hw : w < 0
    · rw [if_pos hw, if_neg (by omega)]; congr 1; omega
    · rw [if_neg hw, if_pos (by omega)]; congr 1; omega
  have h1 := and_or (tw v) (tw w)
  have h2 := xor_sub (tw v) (tw w)
  have h3 := xor_sub (tw w) (tw v)
  have h4 := Nat.and_comm (tw v) (tw w)
  have h5 := Nat.and_le_left (n := tw v) (m := tw w)
  have h6 := Nat.and_le_left (n := tw w) (m := tw v)
  unfold andI
  rw [e]
  by_cases hv : v < 0 <;> by_cases hw : w < 0
  · have a := tw_n hv; have b := tw_n hw
    rw [if_pos hv, if_pos hv, if_neg (by omega), if_pos hw]; omega
  · have a := tw_n hv; have b := tw_p (v := w) (by omega)
    rw [if_pos hv, if_pos hv, if_pos (by omega), if_neg hw]; omega
  · have a := tw_p (v := v) (by omega); have b := tw_n hw
    rw [if_neg hv, if_neg hv, if_neg (by omega), if_pos hw]; omega
  · have a := tw_p (v := v) (by omega); have b := tw_p (v := w) (by omega)
    rw [if_neg hv, if_neg hv, if_pos (by omega), if_neg hw]; omega
theorem tz_ge {x n : Nat} (h : 0 < x) : n ≤ tz x ↔ 2 ^ n ∣ x := by
  obtain ⟨j, hj⟩ := tz_spec h
  constructor
  · intro h1
    refine Nat.dvd_trans (Nat.pow_dvd_pow 2 h1) ⟨2 * j + 1, hj⟩
  · intro h1
    rcases Nat.lt_or_ge (tz x) n with h2 | h2
    · exfalso
      have h3 : 2 ^ (tz x + 1) ∣ x := Nat.dvd_trans (Nat.pow_dvd_pow 2 h2) h1
      obtain ⟨m, hm⟩ := h3
      have hp : 0 < 2 ^ tz x := Nat.pow_pos (by decide)
      have e : 2 ^ tz x * (2 * m) = 2 ^ tz x * (2 * j + 1) := by rw [← Nat.mul_assoc, ← Nat.pow_succ, ← hm, ← hj]
      have := Nat.eq_of_mul_eq_mul_left hp e
      omega
    · exact h2
theorem shr_pos {v : Int} {n : Nat} (h : 0 ≤ v) : v / ((2 ^ n : Nat) : Int) = ((v.natAbs / 2 ^ n : Nat) : Int) := by
  obtain ⟨m, rfl⟩ := Int.eq_ofNat_of_zero_le h
  rw [Int.natAbs_natCast]
  rfl
theorem shr_split {v : Int} {p : Nat} (h : v < 0) (hp : 0 < p) : v / (p : Int) = if v.natAbs % p = 0 then -((v.natAbs / p : Nat) : Int) else -((v.natAbs / p + 1 : Nat) : Int) := by
  obtain ⟨m, hm⟩ : ∃ m : Nat, v = -(m : Int) := ⟨v.natAbs, by omega⟩
  subst hm
  rw [Int.natAbs_neg, Int.natAbs_natCast]
  have h1 := Nat.div_add_mod m p
  have h2 := Nat.mod_lt m hp
  split
  · rename_i h3
    have e : -(m : Int) = 0 + (p : Int) * -((m / p : Nat) : Int) := by rw [Int.mul_neg, ← Int.natCast_mul]; omega
    rw [e, Int.add_mul_ediv_left _ _ (by omega), Int.zero_ediv]
    omega
  · rename_i h3
    have e : -(m : Int) = ((p - m % p : Nat) : Int) + (p : Int) * -((m / p + 1 : Nat) : Int) := by
      rw [Int.mul_neg, ← Int.natCast_mul, Nat.mul_add, Nat.mul_one]; omega
    rw [e, Int.add_mul_ediv_left _ _ (by omega), Int.ediv_eq_zero_of_lt (by omega) (by omega)]
    omega
theorem shr_neg1 {v : Int} {n : Nat} (h : v < 0) (h1 : tz v.natAbs < n) : v / ((2 ^ n : Nat) : Int) = -((v.natAbs / 2 ^ n + 1 : Nat) : Int) := by
  rw [shr_split h (Nat.pow_pos (by decide)), if_neg fun h2 => ?_]
  have h3 := (tz_ge (n := n) (x := v.natAbs) (by omega)).2 (Nat.dvd_of_mod_eq_zero h2)
  omega
theorem shr_neg0 {v : Int} {n : Nat} (h : v < 0) (h1 : ¬ tz v.natAbs < n) : v / ((2 ^ n : Nat) : Int) = -((v.natAbs / 2 ^ n : Nat) : Int) := by
  rw [shr_split h (Nat.pow_pos (by decide)), if_pos (Nat.mod_eq_zero_of_dvd ((tz_ge (n := n) (by omega)).1 (by omega)))]
theorem shr_abs {v : Int} {n : Nat} : (v / ((2 ^ n : Nat) : Int)).natAbs ≤ v.natAbs := by
  rcases (show v < 0 ∨ 0 ≤ v by omega) with h | h
  · have hp : 0 < 2 ^ n := Nat.pow_pos (by decide)
    have hd := Nat.div_le_self v.natAbs (2 ^ n)
    have key : v.natAbs % 2 ^ n ≠ 0 → v.natAbs / 2 ^ n < v.natAbs := fun h3 => by
      refine Nat.div_lt_self (by omega) ?_
      rcases Nat.lt_or_ge 1 (2 ^ n) with h8 | h8
      · exact h8
      · exact absurd (by rw [show 2 ^ n = 1 by omega, Nat.mod_one]) h3
    rw [shr_split h hp]
    generalize v.natAbs / 2 ^ n = q at *
    split
    · omega
    · rename_i h3
      have := key h3
      omega
  · rw [shr_pos h, Int.natAbs_natCast]
    exact Nat.div_le_self _ _
/-- A bit of two's complement. -/
def bitI (v : Int) (i : Nat) : Int := if v < 0 then 1 - ((tw v / 2 ^ i % 2 : Nat) : Int) else ((tw v / 2 ^ i % 2 : Nat) : Int)
theorem tw_shr {v : Int} {n : Nat} : (v / ((2 ^ n : Nat) : Int) < 0 ↔ v < 0) ∧ tw (v / ((2 ^ n : Nat) : Int)) = tw v / 2 ^ n := by
  have hp : 0 < 2 ^ n := Nat.pow_pos (by decide)
  generalize 2 ^ n = p at *
  rcases (show v < 0 ∨ 0 ≤ v by omega) with h | h
  · have e : v / (p : Int) = -((((-v - 1).toNat / p : Nat) : Int)) - 1 := by
      obtain ⟨m, hm⟩ : ∃ m : Nat, v = -(m : Int) - 1 := ⟨(-v - 1).toNat, by omega⟩
      subst hm
      rw [show (-(-(m : Int) - 1) - 1).toNat = m by omega]
      have h1 := Nat.div_add_mod m p
      have h2 := Nat.mod_lt m hp
      have e2 : (-(m : Int) - 1) = ((p - 1 - m % p : Nat) : Int) + (p : Int) * (-((m / p : Nat) : Int) - 1) := by
        rw [Int.mul_sub, Int.mul_neg, Int.mul_one, ← Int.natCast_mul]
        omega
      rw [e2, Int.add_mul_ediv_left _ _ (by omega), Int.ediv_eq_zero_of_lt (by omega) (by omega)]
      omega
    have h3 := tw_n h
    rw [h3]
    generalize (-v - 1).toNat / p = q at *
    refine ⟨⟨fun _ => h, fun _ => by rw [e]; omega⟩, ?_⟩
    rw [tw_n (by rw [e]; omega), e]
    omega
  · have h1 : 0 ≤ v / (p : Int) := Int.ediv_nonneg h (by omega)
    refine ⟨⟨fun h2 => by omega, fun h2 => by omega⟩, ?_⟩
    rw [tw_p h, tw_p h1]
    obtain ⟨m, rfl⟩ := Int.eq_ofNat_of_zero_le h
    rfl
theorem bit_shr {v : Int} {n i : Nat} : bitI (v / ((2 ^ n : Nat) : Int)) i = bitI v (i + n) := by
  obtain ⟨h1, h2⟩ := @tw_shr v n
  unfold bitI
  rw [h2, Nat.div_div_eq_div_mul, ← Nat.pow_add, Nat.add_comm n]
  by_cases h : v < 0
  · rw [if_pos (h1.2 h), if_pos h]
  · rw [if_neg (fun hc => h (h1.1 hc)), if_neg h]
end Go.Proofs.YtaogaegchagbfaaDoor.Vc

/- Contracts of mul.Mul told exactly, nat.Bit, div.limb, plus. -/
namespace Go.Proofs.YtaogaegchagbfaaDoor.Vc
open Go Go.RowKit
set_option maxHeartbeats 4000000 in
theorem Bit_r (l : List Int) (i : Nat) (hl : l.length < 1099511627776) (hu : u64s l) (hi : i < 1099511627776) : Spec Tryd.prog 43 [.n false .u64 l, .i .i64 (i : Int)] (fun o => o = .ret (.i .i64 (((vl l).toNat / 2 ^ i % 2 : Nat) : Int))) := by
  refine spec_of' [(0, .n false .u64 l), (1, .i .i64 (i : Int))] rfl Tryd.func43 rfl (Nat.le_of_ble_eq_true rfl) fun Γ hN hds hL hR => ?_
  have hd : ∀ d, Nat.blt d 25 = true → d < Γ.N := fun d h => by rw [hN]; exact Nat.le_of_ble_eq_true h
  have hm1 : ((vl l).toNat / 18446744073709551616 ^ (i / 64) % 18446744073709551616) < 18446744073709551616 := Nat.mod_lt _ (by decide)
  have hm2 : ((vl l).toNat / 18446744073709551616 ^ (i / 64) % 18446744073709551616) / 2 ^ (i % 64) ≤ ((vl l).toNat / 18446744073709551616 ^ (i / 64) % 18446744073709551616) := Nat.div_le_self _ _
  refine jc_seq ?_; refine jc_region ?_; refine jo_l (ly_as rfl) (hd 4 rfl) ?_; refine jo_nil ?_; refine jc_seq ?_; refine jc_seq ?_; refine jc_region ?_; refine jo_l (ly_mv rfl) (hd 5 rfl) ?_; refine jo_l (ly_ff (ly_lt rfl rfl) (by omega)) (hd 6 rfl) ?_; refine jo_l (ly_mv rfl) (hd 7 rfl) ?_; refine jo_g 7 rfl rfl (ly_mv rfl) (hd 8 rfl) ?_; refine jo_g 7 rfl rfl (ly_quo rfl rfl (by decide) (r := ((i / 64 : Nat) : Int)) (by rw [show ((i : Int).tdiv 64) = ((i / 64 : Nat) : Int) from rfl, wrap_i64 (by omega) (by omega)])) (hd 9 rfl) ?_; refine jo_g 7 rfl rfl (ly_mv rfl) (hd 10 rfl) ?_; refine jo_g 7 rfl rfl (ly_lenn sl28 rfl) (hd 11 rfl) ?_; refine jo_g 7 rfl rfl (ly_ge rfl rfl) (hd 12 rfl) ?_; refine jo_l (ly_pick_f rfl rfl) (hd 13 rfl) ?_; refine jo_nil ?_
  refine jc_if rfl (fun h1 => ?_) (fun h1 => ?_)
  · refine jc_seq ?_; refine jc_region ?_; refine jo_l (ly_as rfl) (hd 4 rfl) ?_; refine jo_nil ?_; refine jc_ret ?_
    refine ⟨_, _, (.cons rfl .nil), .i, ?_⟩
    rw [row_out hu (by omega)]
    rfl
  · refine jc_skip ?_; refine jc_seq ?_; refine jc_region ?_; refine jo_l (ly_mv rfl) (hd 14 rfl) ?_; refine jo_l (ly_mv rfl) (hd 15 rfl) ?_; refine jo_l (ly_quo rfl rfl (by decide) (r := ((i / 64 : Nat) : Int)) (by rw [show ((i : Int).tdiv 64) = ((i / 64 : Nat) : Int) from rfl, wrap_i64 (by omega) (by omega)])) (hd 16 rfl) ?_; refine jo_l (ly_ian (i := i / 64) sl28 rfl rfl (by first | rfl | omega) (by omega)) (hd 17 rfl) ?_; refine jo_l (ly_is (ly_ldq one82 rfl rfl) (by exact congrArg (V.i .u64) (row_at hu (i / 64)))) (hd 18 rfl) ?_; refine jo_l (ly_mv rfl) (hd 19 rfl) ?_; refine jo_l (ly_is (ly_rem rfl rfl (by decide) rfl) (show V.i .i64 ((i : Int).tmod 64) = V.i .i64 ((i % 64 : Nat) : Int) from rfl)) (hd 20 rfl) ?_; refine jo_l (ly_conv und3 und116 rfl (r := ((i % 64 : Nat) : Int)) (wrap_u64 (by omega) (by omega))) (hd 21 rfl) ?_; refine jo_l (ly_is (ly_shr rfl rfl (by omega) rfl) (by exact congrArg (V.i .u64) (shr_nat (k := 2 ^ (i % 64)) (by rw [Int.toNat_natCast, Nat.min_eq_left (by have h : IntKind.u64.bits = 64 := rfl; omega)])))) (hd 22 rfl) ?_; refine jo_l (ly_is (ly_bit (by simp) rfl rfl rfl) (by exact congrArg (V.i .u64) (and1 (by omega)))) (hd 23 rfl) ?_; refine jo_l (ly_conv und82 und3 rfl (r := ((((vl l).toNat / 18446744073709551616 ^ (i / 64) % 18446744073709551616) / 2 ^ (i % 64) % 2 : Nat) : Int)) (wrap_i64 (by omega) (by omega))) (hd 24 rfl) ?_; refine jo_l (ly_as rfl) (hd 4 rfl) ?_; refine jo_nil ?_; refine jc_ret ?_
    refine ⟨_, _, (.cons rfl .nil), .i, ?_⟩
    rw [bit_row]
end Go.Proofs.YtaogaegchagbfaaDoor.Vc

/- Contracts of TrailingZeros64, nat.Tail, Right, div.Rest. -/
namespace Go.Proofs.YtaogaegchagbfaaDoor.Vc
open Go Go.RowKit
set_option maxHeartbeats 4000000 in
theorem tz64_s (x : Nat) (h0 : 0 < x) (hx : x < 18446744073709551616) : SpecT Tryd.prog 80 0 tzCells [.i .u64 (x : Int)] (fun o => o = .ret (.i .i64 ((tz x : Nat) : Int))) := by
  refine specT_of [(0, .i .u64 (x : Int))] rfl Tryd.func80 rfl (Nat.le_of_ble_eq_true rfl) fun Γ hTb hN hds hL hR => ?_
  have hd : ∀ d, Nat.blt d 14 = true → d < Γ.N := fun d h => by rw [hN]; exact Nat.le_of_ble_eq_true h
  obtain ⟨hk, hp2⟩ := tz_p2 h0 hx
  have hj := (tz_tab _ hk).1
  refine jc_seq ?_; refine jc_region ?_; refine jo_l (ly_as rfl) (hd 2 rfl) ?_; refine jo_nil ?_; refine jc_seq ?_; refine jc_seq ?_; refine jc_region ?_; refine jo_l (ly_mv rfl) (hd 3 rfl) ?_; refine jo_l (ly_ff (ly_eq rfl rfl) (by omega)) (hd 4 rfl) ?_; refine jo_nil ?_; refine jc_litf rfl ?_; refine jc_skip ?_; refine jc_seq ?_; refine jc_region ?_; refine jo_l (ly_mv rfl) (hd 5 rfl) ?_; refine jo_l (ly_mv rfl) (hd 6 rfl) ?_; refine jo_l (ly_neg rfl (r := ((18446744073709551616 - x : Nat) : Int)) (by rw [u64_wrap_mod]; omega)) (hd 7 rfl) ?_; refine jo_l (ly_is (ly_bit (by simp) rfl rfl rfl) (by show V.i .u64 _ = V.i .u64 (((2 ^ tz x : Nat) : Int)); exact congrArg (V.i .u64) (by rw [and_nat hx (by omega), low_one' h0 hx]))) (hd 8 rfl) ?_; refine jo_l (ly_mul rfl rfl (r := ((2 ^ tz x * 285870213051353865 % 18446744073709551616) : Nat)) (by rw [u64_wrap_mod]; rfl)) (hd 9 rfl) ?_; refine jo_l (ly_is (ly_shr rfl rfl (by decide) rfl) (by show V.i .u64 _ = V.i .u64 ((((2 ^ tz x * 285870213051353865 % 18446744073709551616 / 288230376151711744) : Nat) : Int)); exact congrArg (V.i .u64) (shr_nat (k := 288230376151711744) (by decide)))) (hd 10 rfl) ?_; refine jo_l (ly_iatab (sz := 1) (i := (2 ^ tz x * 285870213051353865 % 18446744073709551616 / 288230376151711744)) hL hTb ar1109 rfl rfl hj rfl) (hd 11 rfl) ?_; refine jo_l (ly_ldqz one5 rfl (tz_cell hk) rfl) (hd 12 rfl) ?_; refine jo_l (ly_conv und5 und3 rfl (r := ((tz x : Nat) : Int)) (wrap_i64 (by omega) (by omega))) (hd 13 rfl) ?_; refine jo_l (ly_as rfl) (hd 2 rfl) ?_; refine jo_nil ?_; refine jc_ret ?_
  refine ⟨_, _, (.cons rfl .nil), .i, ?_⟩
  exact rfl

set_option maxHeartbeats 4000000 in
theorem nTail_s (l : List Int) (hl : l.length < 4294967296) (hu : u64s l) : SpecT Tryd.prog 45 0 tzCells [.n false .u64 l] (fun o => o = .ret (.i .i64 ((tz (vl l).toNat : Nat) : Int))) := by
  refine specT_of [(0, .n false .u64 l)] rfl Tryd.func45 rfl (Nat.le_of_ble_eq_true rfl) fun Γ hTb hN hds hL hR => ?_
  have hd : ∀ d, Nat.blt d 20 = true → d < Γ.N := fun d h => by rw [hN]; exact Nat.le_of_ble_eq_true h
  refine jc_seq ?_; refine jc_region ?_; refine jo_l (ly_as rfl) (hd 2 rfl) ?_; refine jo_nil ?_; refine jc_seq ?_; refine jc_seq ?_; refine jc_region ?_; refine jo_l (ly_mv rfl) (hd 5 rfl) ?_; refine jo_l (ly_lenn sl28 rfl) (hd 6 rfl) ?_; refine jo_l (ly_mv rfl) (hd 7 rfl) ?_; refine jo_nil ?_; refine jc_block ?_
  refine jc_loopF (G := Nat) (fun i => i ≤ l.length ∧ ∀ j < i, l.getD j 0 = 0) (fun i => [(7, .i .i64 (i : Int)), (2, .u), (3, .u), (4, .u), (8, .u), (9, .u), (10, .u), (11, .u), (12, .u), (13, .u), (14, .u), (15, .u), (16, .u), (17, .u), (18, .u), (19, .u)]) (fun _ => _) (fun i => l.length - i) 0 ?_ ?_ rfl ?_
  · exact ⟨Nat.zero_le _, fun j h => absurd h (Nat.not_lt_zero _)⟩
  · exact (.cons rfl (.u (.u (.u (.u (.u (.u (.u (.u (.u (.u (.u (.u (.u (.u (.u .nil))))))))))))))))
  · rintro i ⟨hi, hj⟩
    have hxi := u64s_getD hu i
    refine jc_seq ?_; refine jc_region ?_; refine jo_l (ly_lt rfl rfl) (hd 8 rfl) ?_; refine jo_nil ?_; refine jc_seq ?_
    refine jc_if rfl (fun h1 => ?_) (fun h1 => ?_)
    · refine jc_skip ?_; refine jc_seq ?_; refine jc_block ?_; refine jc_seq ?_; refine jc_region ?_; refine jo_l (ly_mv rfl) (hd 9 rfl) ?_; refine jo_l (ly_ian (i := i) sl28 rfl rfl (by first | rfl | omega) (by omega)) (hd 10 rfl) ?_; refine jo_l (ly_ldq one82 rfl rfl) (hd 11 rfl) ?_; refine jo_l (ly_as rfl) (hd 3 rfl) ?_; refine jo_l (ly_as rfl) (hd 4 rfl) ?_; refine jo_nil ?_; refine jc_seq ?_; refine jc_region ?_; refine jo_l (ly_mv rfl) (hd 12 rfl) ?_; refine jo_l (ly_ne rfl rfl) (hd 13 rfl) ?_; refine jo_nil ?_
      refine jc_if rfl (fun h2 => ?_) (fun h2 => ?_)
      · have hx0 : l.getD i 0 ≠ 0 := h2
        have hil : i < l.length := by omega
        have hkk := tz_p2 (x := (l.getD i 0).toNat) (by omega) (by omega)
        have hTz : SpecT Tryd.prog 80 0 tzCells [.i .u64 (l.getD i 0)] (fun o => o = .ret (.i .i64 ((tz (l.getD i 0).toNat : Nat) : Int))) := by have h := tz64_s (l.getD i 0).toNat (by omega) (by omega); rwa [Int.toNat_of_nonneg (by omega)] at h
        refine jc_seq ?_; refine jc_region ?_; refine jo_l (ly_mv rfl) (hd 14 rfl) ?_; refine jo_l (ly_mul rfl rfl (r := ((64 * i : Nat) : Int)) (by rw [wrap_i64 (by omega) (by omega)]; omega)) (hd 15 rfl) ?_; refine jo_l (ly_mv rfl) (hd 16 rfl) ?_
        refine jo_callT Tryd.f80 (hTz) hL hTb rfl Tryd.func80 rfl rfl (ovL_cons rfl ovL_nil) (.cons .i .nil) (hd 17 rfl) ?_ (fun ch hp => by simp at hp)
        rintro y hy; injection hy with hy; subst hy; refine jo_l (ly_add rfl rfl (r := ((64 * i + tz (l.getD i 0).toNat : Nat) : Int)) (by rw [wrap_i64 (by omega) (by omega)]; omega)) (hd 18 rfl) ?_; refine jo_l (ly_as rfl) (hd 2 rfl) ?_; refine jo_nil ?_; refine jc_ret ?_
        refine ⟨_, _, (.cons rfl .nil), .i, ?_⟩
        rw [tail_val hu hil hj hx0]
      · have hx0 : l.getD i 0 = 0 := Decidable.not_not.1 h2
        refine jc_skip ?_; refine jc_region ?_; refine jo_l (ly_add rfl rfl (r := ((i + 1 : Nat) : Int)) (by rw [wrap_i64 (by omega) (by omega)]; omega)) (hd 19 rfl) ?_; refine jo_l (ly_mv rfl) (hd 7 rfl) ?_; refine jo_nil ?_
        refine ⟨i + 1, ?_, ?_, rfl, cov_n 26 rfl rfl ?_⟩
        · exact ⟨by omega, fun j hjj => by rcases Nat.lt_or_ge j i with h9 | h9; exact hj j h9; rw [show j = i by omega]; exact hx0⟩
        · omega
        · exact (.cons rfl (.u (.u (.u (.u (.u (.u (.u (.u (.u (.u (.u (.u (.u (.u (.u .nil))))))))))))))))
    · obtain rfl : i = l.length := by omega
      refine jc_exit ?_; refine jc_seq ?_; refine jc_region ?_; refine jo_l (ly_as rfl) (hd 2 rfl) ?_; refine jo_nil ?_; refine jc_ret ?_
      refine ⟨_, _, (.cons rfl .nil), .i, ?_⟩
      rw [tail_none hu hj, show (Int.toNat 0) = 0 from rfl, tz_0]; rfl

set_option maxHeartbeats 4000000 in
theorem Right_v (x n : Nat) (hx : lenV (x : Int) ≤ 67108864) (hn : n / 64 < (lm (x : Int)).length) : Spec Tryd.prog 67 [.n false .u64 (lm (x : Int)), .i .i64 (n : Int)] (fun o => o = .ret (.t [.n false .u64 (lm ((x / 2 ^ n : Nat) : Int)), .i .i64 0])) := by
  refine spec_of' [(0, .n false .u64 (lm (x : Int))), (1, .i .i64 (n : Int))] rfl Tryd.func67 rfl (Nat.le_of_ble_eq_true rfl) fun Γ hN hds hL hR => ?_
  have hd : ∀ d, Nat.blt d 77 = true → d < Γ.N := fun d h => by rw [hN]; exact Nat.le_of_ble_eq_true h
  have hlx := lenV_lm hx
  have uB : u64s ((lm (x : Int)).drop (n / 64)) := u64s_drop' (lm_u _)
  have hBl : ((lm (x : Int)).drop (n / 64)).length = (lm (x : Int)).length - n / 64 := List.length_drop
  have hs : n % 64 < 64 := Nat.mod_lt _ (by decide)
  have hTr : Spec Tryd.prog 87 [.n false .u64 (lm (x : Int))] (fun o => o = .ret (.n false .u64 (lm (x : Int)))) := by have h := trim_s (lm (x : Int)) (by omega); rwa [trm_id (lm_t _)] at h
  have hrv := right_val (x := x) (n := n) (by omega)
  have hlq : lenV ((x / 2 ^ n : Nat) : Int) ≤ 67108864 := Nat.le_trans (lenV_mono (by rw [Int.natAbs_natCast, Int.natAbs_natCast]; exact Nat.div_le_self _ _)) hx
  refine jc_seq ?_; refine jc_region ?_; refine jo_l (ly_as rfl) (hd 4 rfl) ?_; refine jo_l (ly_as rfl) (hd 5 rfl) ?_; refine jo_nil ?_; refine jc_seq ?_; refine jc_seq ?_; refine jc_region ?_; refine jo_l (ly_mv rfl) (hd 10 rfl) ?_; refine jo_l (ly_ff (ly_lt rfl rfl) (by omega)) (hd 11 rfl) ?_; refine jo_l (ly_mv rfl) (hd 12 rfl) ?_; refine jo_g 12 rfl rfl (ly_mv rfl) (hd 13 rfl) ?_; refine jo_g 12 rfl rfl (ly_ff (ly_gt rfl rfl) (by omega)) (hd 14 rfl) ?_; refine jo_l (ly_pick_f rfl rfl) (hd 15 rfl) ?_; refine jo_nil ?_; refine jc_litf rfl ?_; refine jc_skip ?_; refine jc_seq ?_; refine jc_region ?_; refine jo_l (ly_mv rfl) (hd 16 rfl) ?_
  refine jo_call Tryd.f87 (hTr) rfl Tryd.func87 rfl rfl (ovL_cons rfl ovL_nil) (.cons .n .nil) (hd 17 rfl) ?_ (fun ch hp => by simp at hp)
  rintro y hy; injection hy with hy; subst hy; refine jo_l (ly_as rfl) (hd 0 rfl) ?_; refine jo_nil ?_; refine jc_seq ?_; refine jc_region ?_; refine jo_l (ly_mv rfl) (hd 18 rfl) ?_; refine jo_l (ly_quo rfl rfl (by decide) (r := ((n / 64 : Nat) : Int)) (by rw [show ((n : Int).tdiv 64) = ((n / 64 : Nat) : Int) from rfl, wrap_i64 (by omega) (by omega)])) (hd 19 rfl) ?_; refine jo_l (ly_mv rfl) (hd 20 rfl) ?_; refine jo_l (ly_is (ly_rem rfl rfl (by decide) rfl) (show V.i .i64 ((n : Int).tmod 64) = V.i .i64 ((n % 64 : Nat) : Int) from rfl)) (hd 21 rfl) ?_; refine jo_l (ly_conv und3 und116 rfl (r := ((n % 64 : Nat) : Int)) (wrap_u64 (by omega) (by omega))) (hd 22 rfl) ?_; refine jo_l (ly_as rfl) (hd 6 rfl) ?_; refine jo_l (ly_as rfl) (hd 7 rfl) ?_; refine jo_nil ?_; refine jc_seq ?_; refine jc_seq ?_; refine jc_region ?_; refine jo_l (ly_mv rfl) (hd 23 rfl) ?_; refine jo_l (ly_mv rfl) (hd 24 rfl) ?_; refine jo_l (ly_lenn sl28 rfl) (hd 25 rfl) ?_; refine jo_l (ly_ff (ly_ge rfl rfl) (by omega)) (hd 26 rfl) ?_; refine jo_nil ?_; refine jc_litf rfl ?_; refine jc_skip ?_; refine jc_seq ?_; refine jc_region ?_; refine jo_l (ly_mv rfl) (hd 27 rfl) ?_; refine jo_l (ly_lenn sl28 rfl) (hd 28 rfl) ?_; refine jo_l (ly_mv rfl) (hd 29 rfl) ?_; refine jo_l (ly_sub rfl rfl (r := ((((lm (x : Int)).drop (n / 64)).length : Nat) : Int)) (by rw [wrap_i64 (by omega) (by omega)]; omega)) (hd 30 rfl) ?_; refine jo_h (hy_mk (m := ((lm (x : Int)).drop (n / 64)).length) el28 rfl rfl rfl (by show 8 * ((lm (x : Int)).drop (n / 64)).length ≤ _; omega) (by unfold maxLen; omega) rfl) (hd 31 rfl) ?_; refine jo_l (ly_as rfl) (hd 8 rfl) ?_; refine jo_nil ?_; refine jc_seq ?_; refine jc_seq ?_; refine jc_region ?_; refine jo_l (ly_mv rfl) (hd 32 rfl) ?_; refine jo_l (ly_leno sl28 rfl rfl) (hd 33 rfl) ?_; refine jo_l (ly_mv rfl) (hd 34 rfl) ?_; refine jo_nil ?_; refine jc_block ?_
  refine jc_loopF (G := Nat) (fun i => i ≤ ((lm (x : Int)).drop (n / 64)).length) (fun i => [(34, .i .i64 (i : Int)), (9, .u), (35, .u), (36, .u), (37, .u), (38, .u), (39, .u), (40, .u), (41, .u), (42, .u), (43, .u), (44, .u), (45, .u), (46, .u), (47, .u), (48, .u), (49, .u), (50, .u), (51, .u), (52, .u), (53, .u), (54, .u), (55, .u), (56, .u), (57, .u), (58, .u), (59, .u), (60, .u), (61, .u), (62, .u), (63, .u), (64, .u), (65, .u), (66, .u), (67, .u), (68, .u), (69, .u), (70, .u), (71, .u), (72, .u)]) (fun i => [⟨76, 1, 0, true, ints .u64 (fillI (dnN ((lm (x : Int)).drop (n / 64)) (n % 64) i) ((lm (x : Int)).drop (n / 64)).length)⟩]) (fun i => ((lm (x : Int)).drop (n / 64)).length - i) 0 ?_ ?_ rfl ?_
  · exact Nat.zero_le _
  · exact (.cons rfl (.u (.u (.u (.u (.u (.u (.u (.u (.u (.u (.u (.u (.u (.u (.u (.u (.u (.u (.u (.u (.u (.u (.u (.u (.u (.u (.u (.u (.u (.u (.u (.u (.u (.u (.u (.u (.u (.u (.u .nil))))))))))))))))))))))))))))))))))))))))
  · rintro i hc1
    have hf : (fillI (dnN ((lm (x : Int)).drop (n / 64)) (n % 64) i) ((lm (x : Int)).drop (n / 64)).length).length = ((lm (x : Int)).drop (n / 64)).length := fillI_len (by rw [dnN_len]; exact hc1)
    have hx0 := u64s_getD uB i
    have hy0 := u64s_getD uB (i + 1)
    refine jc_seq ?_; refine jc_region ?_; refine jo_l (ly_lt rfl rfl) (hd 35 rfl) ?_; refine jo_nil ?_; refine jc_seq ?_
    refine jc_if rfl (fun h3 => ?_) (fun h3 => ?_)
    · refine jc_skip ?_
      refine jc_meet (G := Unit) (fun _ => True) (fun _ => [(9, .u), (36, .u), (37, .u), (38, .u), (39, .u), (40, .u), (41, .u), (42, .u), (43, .u), (44, .u), (45, .u), (46, .u), (47, .u), (48, .u), (49, .u), (50, .u), (51, .u), (52, .u), (53, .u), (54, .u), (55, .u), (56, .u), (57, .u), (58, .u), (59, .u), (60, .u), (61, .u), (62, .u), (63, .u), (64, .u), (65, .u), (66, .u), (67, .u), (68, .u), (69, .u), (70, .u), (71, .u)]) (fun _ => [⟨76, 1, 0, true, ints .u64 (fillI (dnN ((lm (x : Int)).drop (n / 64)) (n % 64) (i + 1)) ((lm (x : Int)).drop (n / 64)).length)⟩]) ?_ ?_
      · refine jc_block ?_; refine jc_seq ?_; refine jc_region ?_; refine jo_l (ly_mv rfl) (hd 36 rfl) ?_; refine jo_l (ly_as rfl) (hd 9 rfl) ?_; refine jo_nil ?_; refine jc_seq ?_; refine jc_region ?_; refine jo_l (ly_mv rfl) (hd 37 rfl) ?_; refine jo_l (ly_mv rfl) (hd 38 rfl) ?_; refine jo_l (ly_mv rfl) (hd 39 rfl) ?_; refine jo_l (ly_mv rfl) (hd 40 rfl) ?_; refine jo_l (ly_mv rfl) (hd 41 rfl) ?_; refine jo_l (ly_add rfl rfl (r := ((n / 64 + i : Nat) : Int)) (by rw [wrap_i64 (by omega) (by omega)]; omega)) (hd 42 rfl) ?_; refine jo_l (ly_ian (i := n / 64 + i) sl28 rfl rfl (by first | rfl | omega) (by omega)) (hd 43 rfl) ?_; refine jo_l (ly_is (ly_ldq one82 rfl rfl) (by show V.i .u64 _ = V.i .u64 (((lm (x : Int)).drop (n / 64)).getD i 0); exact congrArg (V.i .u64) getD_drop'.symm)) (hd 44 rfl) ?_; refine jo_l (ly_mv rfl) (hd 45 rfl) ?_; refine jo_l (ly_is (ly_shr rfl rfl (by omega) rfl) (show V.i .u64 _ = V.i .u64 (((lm (x : Int)).drop (n / 64)).getD i 0 / 2 ^ (n % 64)) from congrArg (V.i .u64) (shr_sym (by omega)))) (hd 46 rfl) ?_; refine jo_l (ly_ia (i := i) sl28 rfl rfl rfl (by first | rfl | omega) (by omega) rfl) (hd 47 rfl) ?_; refine jo_st (sy_storei rfl rfl rfl one82 (by omega)) ?_; refine jo_nil ?_; refine jc_seq ?_; refine jc_region ?_; refine jo_l (ly_mv rfl) (hd 48 rfl) ?_; refine jo_l (ly_mv rfl) (hd 49 rfl) ?_; refine jo_l (ly_add rfl rfl (r := ((n / 64 + i : Nat) : Int)) (by rw [wrap_i64 (by omega) (by omega)]; omega)) (hd 50 rfl) ?_; refine jo_l (ly_add rfl rfl (r := ((n / 64 + i + 1 : Nat) : Int)) (by rw [wrap_i64 (by omega) (by omega)]; omega)) (hd 51 rfl) ?_; refine jo_l (ly_mv rfl) (hd 52 rfl) ?_; refine jo_l (ly_lenn sl28 rfl) (hd 53 rfl) ?_; refine jo_l (ly_lt rfl rfl) (hd 54 rfl) ?_; refine jo_nil ?_
        refine jc_if rfl (fun h4 => ?_) (fun h4 => ?_)
        · refine jc_draw (n := 18) _ rfl mixed ?_; refine ja_l2 0 [2, 3, 15, 16, 17] (lo_l (ly_mv rfl) (hd 55 rfl)) rfl (by kernel_rfl) (by kernel_rfl) (by kernel_rfl) (by kernel_rfl) (fun _ _ _ _ h => h) ?_; refine ja_l2 1 [2, 3, 15, 16, 17] (lo_l (ly_mv rfl) (hd 56 rfl)) rfl (by kernel_rfl) (by kernel_rfl) (by kernel_rfl) (by kernel_rfl) (fun _ _ _ _ h => h) ?_; refine ja_l2 2 [3, 15, 16, 17] (lo_l (ly_ia (i := i) sl28 rfl rfl rfl (by first | rfl | omega) (by omega) rfl) (hd 57 rfl)) rfl (by kernel_rfl) (by kernel_rfl) (by kernel_rfl) (by kernel_rfl) (fun _ _ _ _ h => h) ?_; refine ja_l 3 (lo_l (ly_is (ly_ldi one82 rfl rfl (by simp only [List.length_set]; omega)) (show V.i .u64 _ = V.i .u64 (((lm (x : Int)).drop (n / 64)).getD i 0 / 2 ^ (n % 64)) from congrArg (V.i .u64) (dnR_get (by omega)))) (hd 58 rfl)) rfl (by kernel_rfl) (by kernel_rfl) (by kernel_rfl) (fun _ _ _ _ h => h) ?_; refine ja_l2 4 [9, 10, 11, 14, 15, 16, 17] (lo_l (ly_mv rfl) (hd 59 rfl)) rfl (by kernel_rfl) (by kernel_rfl) (by kernel_rfl) (by kernel_rfl) (fun _ _ _ _ h => h) ?_; refine ja_l2 5 [7, 8, 9, 10, 11, 14, 15, 16, 17] (lo_l (ly_mv rfl) (hd 60 rfl)) rfl (by kernel_rfl) (by kernel_rfl) (by kernel_rfl) (by kernel_rfl) (fun _ _ _ _ h => h) ?_; refine ja_l2 6 [7, 8, 9, 10, 11, 14, 15, 16, 17] (lo_l (ly_mv rfl) (hd 61 rfl)) rfl (by kernel_rfl) (by kernel_rfl) (by kernel_rfl) (by kernel_rfl) (fun _ _ _ _ h => h) ?_; refine ja_l2 7 [8, 9, 10, 11, 14, 15, 16, 17] (lo_l (ly_add rfl rfl (r := ((n / 64 + i : Nat) : Int)) (by rw [wrap_i64 (by omega) (by omega)]; omega)) (hd 62 rfl)) rfl (by kernel_rfl) (by kernel_rfl) (by kernel_rfl) (by kernel_rfl) (fun _ _ _ _ h => h) ?_; refine ja_l2 8 [9, 10, 11, 14, 15, 16, 17] (lo_l (ly_add rfl rfl (r := ((n / 64 + i + 1 : Nat) : Int)) (by rw [wrap_i64 (by omega) (by omega)]; omega)) (hd 63 rfl)) rfl (by kernel_rfl) (by kernel_rfl) (by kernel_rfl) (by kernel_rfl) (fun _ _ _ _ h => h) ?_; refine ja_l2 9 [10, 11, 14, 15, 16, 17] (lo_l (ly_ian (i := n / 64 + i + 1) sl28 rfl rfl (by first | rfl | omega) (by omega)) (hd 64 rfl)) rfl (by kernel_rfl) (by kernel_rfl) (by kernel_rfl) (by kernel_rfl) (fun _ _ _ _ h => h) ?_; refine ja_l2 10 [11, 14, 15, 16, 17] (lo_l (ly_is (ly_ldq one82 rfl rfl) (by show V.i .u64 _ = V.i .u64 (((lm (x : Int)).drop (n / 64)).getD (i + 1) 0); exact congrArg (V.i .u64) (by rw [getD_drop']; rfl))) (hd 65 rfl)) rfl (by kernel_rfl) (by kernel_rfl) (by kernel_rfl) (by kernel_rfl) (fun _ _ _ _ h => h) ?_; refine ja_l2 11 [14, 15, 16, 17] (lo_l (ly_is (ly_shl rfl rfl (by omega) rfl) (show V.i .u64 _ = V.i .u64 (((lm (x : Int)).drop (n / 64)).getD (i + 1) 0 * 2 % 18446744073709551616) from congrArg (V.i .u64) shl1)) (hd 66 rfl)) rfl (by kernel_rfl) (by kernel_rfl) (by kernel_rfl) (by kernel_rfl) (fun _ _ _ _ h => h) ?_; refine ja_l2 12 [13, 14, 15, 16, 17] (lo_l (ly_mv rfl) (hd 67 rfl)) rfl (by kernel_rfl) (by kernel_rfl) (by kernel_rfl) (by kernel_rfl) (fun _ _ _ _ h => h) ?_; refine ja_l2 13 [14, 15, 16, 17] (lo_l (ly_sub rfl rfl (r := ((63 - n % 64 : Nat) : Int)) (by rw [wrap_u64 (by omega) (by omega)]; omega)) (hd 68 rfl)) rfl (by kernel_rfl) (by kernel_rfl) (by kernel_rfl) (by kernel_rfl) (fun _ _ _ _ h => h) ?_; refine ja_l 14 (lo_l (ly_is (ly_shl rfl rfl (by omega) rfl) (show V.i .u64 _ = V.i .u64 (loS (((lm (x : Int)).drop (n / 64)).getD (i + 1) 0) (64 - n % 64)) from congrArg (V.i .u64) ((shl_sym (by omega)).trans (shl_two hs)))) (hd 69 rfl)) rfl (by kernel_rfl) (by kernel_rfl) (by kernel_rfl) (fun _ _ _ _ h => h) ?_; refine ja_l 15 (lo_l (ly_is (ly_bit (by simp) rfl rfl rfl) (show V.i .u64 _ = V.i .u64 (dnD ((lm (x : Int)).drop (n / 64)) (n % 64) i) from congrArg (V.i .u64) (dn_or (Nat.le_of_lt hs) hx0.1 hx0.2 hy0.1).1)) (hd 70 rfl)) rfl (by kernel_rfl) (by kernel_rfl) (by kernel_rfl) (fun _ _ _ _ h => h) ?_; refine ja_l 16 (lo_l (ly_ia (i := i) sl28 rfl rfl rfl (by first | rfl | omega) (by omega) rfl) (hd 71 rfl)) rfl (by kernel_rfl) (by kernel_rfl) (by kernel_rfl) (fun _ _ _ _ h => h) ?_
          refine ja_1 17 ?_ rfl (by kernel_rfl)
          refine js_st (sy_storei rfl rfl rfl one82 (by simp only [List.length_set]; omega)) rfl ?_; refine ja_nil (by kernel_rfl) ?_
          refine ⟨(), ?_, (by show [(⟨76, 1, 0, true, ints .u64 _⟩ : Ob)] = [⟨76, 1, 0, true, ints .u64 _⟩]; first | rw [← dnD_last (show ((lm (x : Int)).drop (n / 64)).length ≤ i + 1 by omega), dnR_set (by omega)] | rw [List.set_set, dnR_set (by omega)]), cov_n 37 rfl rfl ?_⟩
          · trivial
          · exact (.u (.u (.u (.u (.u (.u (.u (.u (.u (.u (.u (.u (.u (.u (.u (.u (.u (.u (.u (.u (.u (.u (.u (.u (.u (.u (.u (.u (.u (.u (.u (.u (.u (.u (.u (.u (.u .nil)))))))))))))))))))))))))))))))))))))
        · refine jc_skip ?_
          refine ⟨(), ?_, (by show [(⟨76, 1, 0, true, ints .u64 _⟩ : Ob)] = [⟨76, 1, 0, true, ints .u64 _⟩]; first | rw [← dnD_last (show ((lm (x : Int)).drop (n / 64)).length ≤ i + 1 by omega), dnR_set (by omega)] | rw [List.set_set, dnR_set (by omega)]), cov_n 20 rfl rfl ?_⟩
          · trivial
          · exact (.u (.u (.u (.u (.u (.u (.u (.u (.u (.u (.u (.u (.u (.u (.u (.u (.u (.u (.u (.u (.u (.u (.u (.u (.u (.u (.u (.u (.u (.u (.u (.u (.u (.u (.u (.u (.u .nil)))))))))))))))))))))))))))))))))))))
      · rintro _ _; refine jc_region ?_; refine jo_l (ly_add rfl rfl (r := ((i + 1 : Nat) : Int)) (by rw [wrap_i64 (by omega) (by omega)]; omega)) (hd 72 rfl) ?_; refine jo_l (ly_mv rfl) (hd 34 rfl) ?_; refine jo_nil ?_
        refine ⟨i + 1, ?_, ?_, rfl, cov_n 80 rfl rfl ?_⟩
        · omega
        · omega
        · exact (.cons rfl (.u (.u (.u (.u (.u (.u (.u (.u (.u (.u (.u (.u (.u (.u (.u (.u (.u (.u (.u (.u (.u (.u (.u (.u (.u (.u (.u (.u (.u (.u (.u (.u (.u (.u (.u (.u (.u (.u (.u .nil))))))))))))))))))))))))))))))))))))))))
    · obtain rfl : i = ((lm (x : Int)).drop (n / 64)).length := by omega
      refine jc_exit ?_; refine jc_seq ?_; refine jc_frz (k := .u64) (l := fillI (dnN ((lm (x : Int)).drop (n / 64)) (n % 64) ((lm (x : Int)).drop (n / 64)).length) ((lm (x : Int)).drop (n / 64)).length) (l' := dnN ((lm (x : Int)).drop (n / 64)) (n % 64) ((lm (x : Int)).drop (n / 64)).length) 8 rfl rfl (by omega) (by rw [List.drop_zero, List.take_of_length_le (by omega), fillI_full (dnN_len _ _ _)]) hL ?_; refine jc_region ?_; refine jo_l (ly_mv rfl) (hd 73 rfl) ?_
      refine jo_call Tryd.f89 (told_ok (dnN ((lm (x : Int)).drop (n / 64)) (n % 64) ((lm (x : Int)).drop (n / 64)).length) (by rw [dnN_len]; omega) (dnN_u (Nat.le_of_lt hs) uB _) (by rw [lenN_trm, lenN_lenV (dnN_u (Nat.le_of_lt hs) uB _) hrv]; exact hlq)) rfl Tryd.func89 rfl rfl (ovL_cons rfl ovL_nil) (.cons .n .nil) (hd 74 rfl) ?_ (fun ch hp => by simp at hp)
      rintro y hy; injection hy with hy; subst hy; refine jo_l (ly_ext rfl rfl) (hd 75 rfl) ?_; refine jo_l (ly_ext rfl rfl) (hd 76 rfl) ?_; refine jo_l (ly_as rfl) (hd 4 rfl) ?_; refine jo_l (ly_as rfl) (hd 5 rfl) ?_; refine jo_nil ?_; refine jc_ret ?_
      refine ⟨_, _, (.cons rfl (.cons rfl .nil)), (.t1 .n (.t1 .i .t0)), ?_⟩
      rw [trm_lm (dnN_u (Nat.le_of_lt hs) uB _) hrv]

end Go.Proofs.YtaogaegchagbfaaDoor.Vc

/- Contracts of the references' Shr, Low. -/
namespace Go.Proofs.YtaogaegchagbfaaDoor.Vc
open Go Go.RowKit
end Go.Proofs.YtaogaegchagbfaaDoor.Vc

/- Contract of surdref06.Jacobi. -/
namespace Go.Proofs.YtaogaegchagbfaaDoor.Vc
open Go Go.RowKit
end Go.Proofs.YtaogaegchagbfaaDoor.Vc

/- Contract of whole.Jacobi. -/
namespace Go.Proofs.YtaogaegchagbfaaDoor.Vc
open Go Go.RowKit
end Go.Proofs.YtaogaegchagbfaaDoor.Vc

/- The contract of surdlaw06.WholeSymbols. -/
namespace Go.Proofs.YtaogaegchagbfaaDoor.Vc
open Go Go.RowKit
end Go.Proofs.YtaogaegchagbfaaDoor.Vc

/- Contracts of nat.And, Or, Xor. -/
namespace Go.Proofs.YtaogaegchagbfaaDoor.Vc
open Go Go.RowKit
set_option maxHeartbeats 4000000 in
theorem and1_s (x y : Int) : Spec Tryd.prog 78 [.i .u64 x, .i .u64 y] (fun o => o = .ret (.i .u64 (bitop .and .u64 x y))) := by
  refine spec_of' [(0, .i .u64 x), (1, .i .u64 y)] rfl Tryd.func78 rfl (Nat.le_of_ble_eq_true rfl) fun Γ hN hds hL hR => ?_
  have hd : ∀ d, Nat.blt d 8 = true → d < Γ.N := fun d h => by rw [hN]; exact Nat.le_of_ble_eq_true h
  refine jc_seq ?_; refine jc_region ?_; refine jo_l (ly_as rfl) (hd 4 rfl) ?_; refine jo_nil ?_; refine jc_seq ?_; refine jc_region ?_; refine jo_l (ly_mv rfl) (hd 5 rfl) ?_; refine jo_l (ly_mv rfl) (hd 6 rfl) ?_; refine jo_l (ly_bit (by simp) rfl rfl rfl) (hd 7 rfl) ?_; refine jo_l (ly_as rfl) (hd 4 rfl) ?_; refine jo_nil ?_; refine jc_ret ?_
  refine ⟨_, _, (.cons rfl .nil), .i, ?_⟩
  exact rfl

set_option maxHeartbeats 4000000 in
theorem both_and (x y : Nat) (hx : lenV (x : Int) ≤ 67108864) (hy : lenV (y : Int) ≤ 67108864) : Spec Tryd.prog 76 [.n false .u64 (lm (x : Int)), .n false .u64 (lm (y : Int)), .f 78 []] (fun o => o = .ret (.n false .u64 (lm (((x &&& y) : Nat) : Int)))) := by
  refine spec_of' [(0, .n false .u64 (lm (x : Int))), (1, .n false .u64 (lm (y : Int))), (2, .f 78 [])] rfl Tryd.func76 rfl (Nat.le_of_ble_eq_true rfl) fun Γ hN hds hL hR => ?_
  have hd : ∀ d, Nat.blt d 48 = true → d < Γ.N := fun d h => by rw [hN]; exact Nat.le_of_ble_eq_true h
  have hlx := lenV_lm hx
  have hly := lenV_lm hy
  have hz : (x &&& y) < 2 ^ (64 * (max (lm (x : Int)).length (lm (y : Int)).length)) := Nat.and_lt_two_pow _ (lm_lt2 (Nat.le_max_right _ _))
  refine jc_seq ?_; refine jc_region ?_; refine jo_l (ly_as rfl) (hd 6 rfl) ?_; refine jo_nil ?_; refine jc_seq ?_; refine jc_region ?_; refine jo_l (ly_mv rfl) (hd 11 rfl) ?_; refine jo_l (ly_lenn sl28 rfl) (hd 12 rfl) ?_; refine jo_l (ly_mv rfl) (hd 13 rfl) ?_; refine jo_l (ly_lenn sl28 rfl) (hd 14 rfl) ?_; refine jo_l (ly_is (ly_max rfl rfl) (show V.i .i64 _ = V.i .i64 (((max (lm (x : Int)).length (lm (y : Int)).length) : Nat) : Int) by congr 1; omega)) (hd 15 rfl) ?_; refine jo_h (hy_mk (m := (max (lm (x : Int)).length (lm (y : Int)).length)) el28 rfl rfl rfl (by show 8 * (max (lm (x : Int)).length (lm (y : Int)).length) ≤ _; omega) (by unfold maxLen; omega) rfl) (hd 16 rfl) ?_; refine jo_l (ly_as rfl) (hd 7 rfl) ?_; refine jo_nil ?_; refine jc_seq ?_; refine jc_seq ?_; refine jc_H (H' := [⟨76, 1, 0, true, ints .u64 (fillI (dll (x &&& y) 0) (max (lm (x : Int)).length (lm (y : Int)).length))⟩]) (by show [(⟨76, 1, 0, true, ints .u64 _⟩ : Ob)] = [⟨76, 1, 0, true, ints .u64 _⟩]; rw [dll_0]) ?_; refine jc_region ?_; refine jo_l (ly_mv rfl) (hd 17 rfl) ?_; refine jo_l (ly_leno sl28 rfl rfl) (hd 18 rfl) ?_; refine jo_l (ly_mv rfl) (hd 19 rfl) ?_; refine jo_nil ?_; refine jc_block ?_
  refine jc_loopF (G := Nat) (fun i => i ≤ (max (lm (x : Int)).length (lm (y : Int)).length)) (fun i => [(19, .i .i64 (i : Int)), (8, .u), (9, .u), (10, .u), (20, .u), (21, .u), (22, .u), (23, .u), (24, .u), (25, .u), (26, .u), (27, .u), (28, .u), (29, .u), (30, .u), (31, .u), (32, .u), (33, .u), (34, .u), (35, .u), (36, .u), (37, .u), (38, .u), (39, .u), (40, .u), (41, .u), (42, .u), (43, .u), (44, .u), (45, .u)]) (fun i => [⟨76, 1, 0, true, ints .u64 (fillI (dll (x &&& y) i) (max (lm (x : Int)).length (lm (y : Int)).length))⟩]) (fun i => (max (lm (x : Int)).length (lm (y : Int)).length) - i) 0 ?_ ?_ rfl ?_
  · exact Nat.zero_le _
  · exact (.cons rfl (.u (.u (.u (.u (.u (.u (.u (.u (.u (.u (.u (.u (.u (.u (.u (.u (.u (.u (.u (.u (.u (.u (.u (.u (.u (.u (.u (.u (.u .nil))))))))))))))))))))))))))))))
  · rintro i hc1
    have hfl := dll_fl (z := (x &&& y)) hc1
    have hop : bitop .and .u64 ((lm (x : Int)).getD i 0) ((lm (y : Int)).getD i 0) = dgl (x &&& y) i := by rw [lm_at, lm_at, dgl_and]
    have hOp := and1_s ((lm (x : Int)).getD i 0) ((lm (y : Int)).getD i 0)
    rw [hop] at hOp
    refine jc_seq ?_; refine jc_region ?_; refine jo_l (ly_lt rfl rfl) (hd 20 rfl) ?_; refine jo_nil ?_; refine jc_seq ?_
    refine jc_if rfl (fun h1 => ?_) (fun h1 => ?_)
    · refine jc_skip ?_; refine jc_seq ?_; refine jc_block ?_; refine jc_seq ?_; refine jc_region ?_; refine jo_l (ly_mv rfl) (hd 21 rfl) ?_; refine jo_l (ly_as rfl) (hd 8 rfl) ?_; refine jo_nil ?_; refine jc_seq ?_; refine jc_region ?_; refine jo_l (ly_as rfl) (hd 9 rfl) ?_; refine jo_l (ly_as rfl) (hd 10 rfl) ?_; refine jo_nil ?_
      refine jc_meetH (G := Unit) (fun _ => True) (fun _ => [(9, .i .u64 ((lm (x : Int)).getD i 0)), (22, .u), (23, .u), (24, .u), (25, .u), (26, .u), (27, .u), (28, .u), (29, .u)]) ?_ ?_
      · refine jc_seq ?_; refine jc_region ?_; refine jo_l (ly_mv rfl) (hd 22 rfl) ?_; refine jo_l (ly_mv rfl) (hd 23 rfl) ?_; refine jo_l (ly_lenn sl28 rfl) (hd 24 rfl) ?_; refine jo_l (ly_lt rfl rfl) (hd 25 rfl) ?_; refine jo_nil ?_
        refine jc_if rfl (fun h2 => ?_) (fun h2 => ?_)
        · refine jc_region ?_; refine jo_l (ly_mv rfl) (hd 26 rfl) ?_; refine jo_l (ly_mv rfl) (hd 27 rfl) ?_; refine jo_l (ly_ian (i := i) sl28 rfl rfl (by first | rfl | omega) (by omega)) (hd 28 rfl) ?_; refine jo_l (ly_ldq one82 rfl rfl) (hd 29 rfl) ?_; refine jo_l (ly_as rfl) (hd 9 rfl) ?_; refine jo_nil ?_
          refine ⟨(), ?_, rfl, cov_n 9 rfl rfl ?_⟩
          · trivial
          · exact (.cons (by first | rfl | (show some (V.i .u64 _) = some (V.i .u64 _); rw [getD_ge (by omega)])) (.u (.u (.u (.u (.u (.u (.u (.u .nil)))))))))
        · refine jc_skip ?_
          refine ⟨(), ?_, rfl, cov_n 4 rfl rfl ?_⟩
          · trivial
          · exact (.cons (by first | rfl | (show some (V.i .u64 _) = some (V.i .u64 _); rw [getD_ge (by omega)])) (.u (.u (.u (.u (.u (.u (.u (.u .nil)))))))))
      · rintro _ _
        refine jc_meetH (G := Unit) (fun _ => True) (fun _ => [(10, .i .u64 ((lm (y : Int)).getD i 0)), (30, .u), (31, .u), (32, .u), (33, .u), (34, .u), (35, .u), (36, .u), (37, .u)]) ?_ ?_
        · refine jc_seq ?_; refine jc_region ?_; refine jo_l (ly_mv rfl) (hd 30 rfl) ?_; refine jo_l (ly_mv rfl) (hd 31 rfl) ?_; refine jo_l (ly_lenn sl28 rfl) (hd 32 rfl) ?_; refine jo_l (ly_lt rfl rfl) (hd 33 rfl) ?_; refine jo_nil ?_
          refine jc_if rfl (fun h3 => ?_) (fun h3 => ?_)
          · refine jc_region ?_; refine jo_l (ly_mv rfl) (hd 34 rfl) ?_; refine jo_l (ly_mv rfl) (hd 35 rfl) ?_; refine jo_l (ly_ian (i := i) sl28 rfl rfl (by first | rfl | omega) (by omega)) (hd 36 rfl) ?_; refine jo_l (ly_ldq one82 rfl rfl) (hd 37 rfl) ?_; refine jo_l (ly_as rfl) (hd 10 rfl) ?_; refine jo_nil ?_
            refine ⟨(), ?_, rfl, cov_n 9 rfl rfl ?_⟩
            · trivial
            · exact (.cons (by first | rfl | (show some (V.i .u64 _) = some (V.i .u64 _); rw [getD_ge (by omega)])) (.u (.u (.u (.u (.u (.u (.u (.u .nil)))))))))
          · refine jc_skip ?_
            refine ⟨(), ?_, rfl, cov_n 4 rfl rfl ?_⟩
            · trivial
            · exact (.cons (by first | rfl | (show some (V.i .u64 _) = some (V.i .u64 _); rw [getD_ge (by omega)])) (.u (.u (.u (.u (.u (.u (.u (.u .nil)))))))))
        · rintro _ _; refine jc_region ?_; refine jo_l (ly_mv rfl) (hd 38 rfl) ?_; refine jo_l (ly_mv rfl) (hd 39 rfl) ?_; refine jo_l (ly_mv rfl) (hd 40 rfl) ?_; refine jo_l (ly_mv rfl) (hd 41 rfl) ?_; refine jo_l (ly_mv rfl) (hd 42 rfl) ?_
          refine jo_call Tryd.f78 (hOp) rfl Tryd.func78 rfl rfl (ovL_cons rfl (ovL_cons rfl ovL_nil)) (.cons .i (.cons .i .nil)) (hd 43 rfl) ?_ (fun ch hp => by simp at hp)
          rintro y hy; injection hy with hy; subst hy; refine jo_l (ly_ia (i := i) sl28 rfl rfl rfl (by first | rfl | omega) (by omega) rfl) (hd 44 rfl) ?_; refine jo_st (sy_storei rfl rfl rfl one82 (by omega)) ?_; refine jo_nil ?_; refine jc_region ?_; refine jo_l (ly_add rfl rfl (r := ((i + 1 : Nat) : Int)) (by rw [wrap_i64 (by omega) (by omega)]; omega)) (hd 45 rfl) ?_; refine jo_l (ly_mv rfl) (hd 19 rfl) ?_; refine jo_nil ?_
          refine ⟨i + 1, ?_, ?_, (by show [(⟨76, 1, 0, true, ints .u64 _⟩ : Ob)] = [⟨76, 1, 0, true, ints .u64 _⟩]; rw [fill_dll (by omega)]), cov_n 62 rfl rfl ?_⟩
          · omega
          · omega
          · exact (.cons rfl (.u (.u (.u (.u (.u (.u (.u (.u (.u (.u (.u (.u (.u (.u (.u (.u (.u (.u (.u (.u (.u (.u (.u (.u (.u (.u (.u (.u (.u .nil))))))))))))))))))))))))))))))
    · obtain rfl : i = (max (lm (x : Int)).length (lm (y : Int)).length) := by omega
      refine jc_exit ?_; refine jc_seq ?_; refine jc_frz (k := .u64) (l := fillI (dll (x &&& y) (max (lm (x : Int)).length (lm (y : Int)).length)) (max (lm (x : Int)).length (lm (y : Int)).length)) (l' := dll (x &&& y) (max (lm (x : Int)).length (lm (y : Int)).length)) 7 rfl rfl (by rw [dll_all, dll_len]; omega) (by rw [dll_all, List.drop_zero, List.take_of_length_le (by rw [dll_len]; omega)]) hL ?_; refine jc_region ?_; refine jo_l (ly_mv rfl) (hd 46 rfl) ?_
      refine jo_call Tryd.f87 (trim_s (dll (x &&& y) (max (lm (x : Int)).length (lm (y : Int)).length)) (by rw [dll_len]; omega)) rfl Tryd.func87 rfl rfl (ovL_cons rfl ovL_nil) (.cons .n .nil) (hd 47 rfl) ?_ (fun ch hp => by simp at hp)
      rintro y hy; injection hy with hy; subst hy; refine jo_l (ly_as rfl) (hd 6 rfl) ?_; refine jo_nil ?_; refine jc_ret ?_
      refine ⟨_, _, (.cons rfl .nil), .n, ?_⟩
      rw [dll_trm hz]

set_option maxHeartbeats 4000000 in
theorem nAnd_v (x y : Nat) (hx : lenV (x : Int) ≤ 67108864) (hy : lenV (y : Int) ≤ 67108864) : Spec Tryd.prog 40 [.n false .u64 (lm (x : Int)), .n false .u64 (lm (y : Int))] (fun o => o = .ret (.n false .u64 (lm (((x &&& y) : Nat) : Int)))) := by
  refine spec_of' [(0, .n false .u64 (lm (x : Int))), (1, .n false .u64 (lm (y : Int)))] rfl Tryd.func40 rfl (Nat.le_of_ble_eq_true rfl) fun Γ hN hds hL hR => ?_
  have hd : ∀ d, Nat.blt d 8 = true → d < Γ.N := fun d h => by rw [hN]; exact Nat.le_of_ble_eq_true h
  refine jc_seq ?_; refine jc_region ?_; refine jo_l (ly_as rfl) (hd 4 rfl) ?_; refine jo_nil ?_; refine jc_seq ?_; refine jc_region ?_; refine jo_l (ly_mv rfl) (hd 5 rfl) ?_; refine jo_l (ly_mv rfl) (hd 6 rfl) ?_
  refine jo_call Tryd.f76 (both_and x y hx hy) rfl Tryd.func76 rfl rfl (ovL_cons rfl (ovL_cons rfl (ovL_cons rfl ovL_nil))) (.cons .n (.cons .n (.cons .f .nil))) (hd 7 rfl) ?_ (fun ch hp => by simp at hp)
  rintro y hy; injection hy with hy; subst hy; refine jo_l (ly_as rfl) (hd 4 rfl) ?_; refine jo_nil ?_; refine jc_ret ?_
  refine ⟨_, _, (.cons rfl .nil), .n, ?_⟩
  exact rfl

set_option maxHeartbeats 4000000 in
theorem or1_s (x y : Int) : Spec Tryd.prog 77 [.i .u64 x, .i .u64 y] (fun o => o = .ret (.i .u64 (bitop .or .u64 x y))) := by
  refine spec_of' [(0, .i .u64 x), (1, .i .u64 y)] rfl Tryd.func77 rfl (Nat.le_of_ble_eq_true rfl) fun Γ hN hds hL hR => ?_
  have hd : ∀ d, Nat.blt d 8 = true → d < Γ.N := fun d h => by rw [hN]; exact Nat.le_of_ble_eq_true h
  refine jc_seq ?_; refine jc_region ?_; refine jo_l (ly_as rfl) (hd 4 rfl) ?_; refine jo_nil ?_; refine jc_seq ?_; refine jc_region ?_; refine jo_l (ly_mv rfl) (hd 5 rfl) ?_; refine jo_l (ly_mv rfl) (hd 6 rfl) ?_; refine jo_l (ly_bit (by simp) rfl rfl rfl) (hd 7 rfl) ?_; refine jo_l (ly_as rfl) (hd 4 rfl) ?_; refine jo_nil ?_; refine jc_ret ?_
  refine ⟨_, _, (.cons rfl .nil), .i, ?_⟩
  exact rfl

set_option maxHeartbeats 4000000 in
theorem both_or (x y : Nat) (hx : lenV (x : Int) ≤ 67108864) (hy : lenV (y : Int) ≤ 67108864) : Spec Tryd.prog 76 [.n false .u64 (lm (x : Int)), .n false .u64 (lm (y : Int)), .f 77 []] (fun o => o = .ret (.n false .u64 (lm (((x ||| y) : Nat) : Int)))) := by
  refine spec_of' [(0, .n false .u64 (lm (x : Int))), (1, .n false .u64 (lm (y : Int))), (2, .f 77 [])] rfl Tryd.func76 rfl (Nat.le_of_ble_eq_true rfl) fun Γ hN hds hL hR => ?_
  have hd : ∀ d, Nat.blt d 48 = true → d < Γ.N := fun d h => by rw [hN]; exact Nat.le_of_ble_eq_true h
  have hlx := lenV_lm hx
  have hly := lenV_lm hy
  have hz : (x ||| y) < 2 ^ (64 * (max (lm (x : Int)).length (lm (y : Int)).length)) := Nat.or_lt_two_pow (lm_lt2 (Nat.le_max_left _ _)) (lm_lt2 (Nat.le_max_right _ _))
  refine jc_seq ?_; refine jc_region ?_; refine jo_l (ly_as rfl) (hd 6 rfl) ?_; refine jo_nil ?_; refine jc_seq ?_; refine jc_region ?_; refine jo_l (ly_mv rfl) (hd 11 rfl) ?_; refine jo_l (ly_lenn sl28 rfl) (hd 12 rfl) ?_; refine jo_l (ly_mv rfl) (hd 13 rfl) ?_; refine jo_l (ly_lenn sl28 rfl) (hd 14 rfl) ?_; refine jo_l (ly_is (ly_max rfl rfl) (show V.i .i64 _ = V.i .i64 (((max (lm (x : Int)).length (lm (y : Int)).length) : Nat) : Int) by congr 1; omega)) (hd 15 rfl) ?_; refine jo_h (hy_mk (m := (max (lm (x : Int)).length (lm (y : Int)).length)) el28 rfl rfl rfl (by show 8 * (max (lm (x : Int)).length (lm (y : Int)).length) ≤ _; omega) (by unfold maxLen; omega) rfl) (hd 16 rfl) ?_; refine jo_l (ly_as rfl) (hd 7 rfl) ?_; refine jo_nil ?_; refine jc_seq ?_; refine jc_seq ?_; refine jc_H (H' := [⟨76, 1, 0, true, ints .u64 (fillI (dll (x ||| y) 0) (max (lm (x : Int)).length (lm (y : Int)).length))⟩]) (by show [(⟨76, 1, 0, true, ints .u64 _⟩ : Ob)] = [⟨76, 1, 0, true, ints .u64 _⟩]; rw [dll_0]) ?_; refine jc_region ?_; refine jo_l (ly_mv rfl) (hd 17 rfl) ?_; refine jo_l (ly_leno sl28 rfl rfl) (hd 18 rfl) ?_; refine jo_l (ly_mv rfl) (hd 19 rfl) ?_; refine jo_nil ?_; refine jc_block ?_
  refine jc_loopF (G := Nat) (fun i => i ≤ (max (lm (x : Int)).length (lm (y : Int)).length)) (fun i => [(19, .i .i64 (i : Int)), (8, .u), (9, .u), (10, .u), (20, .u), (21, .u), (22, .u), (23, .u), (24, .u), (25, .u), (26, .u), (27, .u), (28, .u), (29, .u), (30, .u), (31, .u), (32, .u), (33, .u), (34, .u), (35, .u), (36, .u), (37, .u), (38, .u), (39, .u), (40, .u), (41, .u), (42, .u), (43, .u), (44, .u), (45, .u)]) (fun i => [⟨76, 1, 0, true, ints .u64 (fillI (dll (x ||| y) i) (max (lm (x : Int)).length (lm (y : Int)).length))⟩]) (fun i => (max (lm (x : Int)).length (lm (y : Int)).length) - i) 0 ?_ ?_ rfl ?_
  · exact Nat.zero_le _
  · exact (.cons rfl (.u (.u (.u (.u (.u (.u (.u (.u (.u (.u (.u (.u (.u (.u (.u (.u (.u (.u (.u (.u (.u (.u (.u (.u (.u (.u (.u (.u (.u .nil))))))))))))))))))))))))))))))
  · rintro i hc1
    have hfl := dll_fl (z := (x ||| y)) hc1
    have hop : bitop .or .u64 ((lm (x : Int)).getD i 0) ((lm (y : Int)).getD i 0) = dgl (x ||| y) i := by rw [lm_at, lm_at, dgl_or]
    have hOp := or1_s ((lm (x : Int)).getD i 0) ((lm (y : Int)).getD i 0)
    rw [hop] at hOp
    refine jc_seq ?_; refine jc_region ?_; refine jo_l (ly_lt rfl rfl) (hd 20 rfl) ?_; refine jo_nil ?_; refine jc_seq ?_
    refine jc_if rfl (fun h1 => ?_) (fun h1 => ?_)
    · refine jc_skip ?_; refine jc_seq ?_; refine jc_block ?_; refine jc_seq ?_; refine jc_region ?_; refine jo_l (ly_mv rfl) (hd 21 rfl) ?_; refine jo_l (ly_as rfl) (hd 8 rfl) ?_; refine jo_nil ?_; refine jc_seq ?_; refine jc_region ?_; refine jo_l (ly_as rfl) (hd 9 rfl) ?_; refine jo_l (ly_as rfl) (hd 10 rfl) ?_; refine jo_nil ?_
      refine jc_meetH (G := Unit) (fun _ => True) (fun _ => [(9, .i .u64 ((lm (x : Int)).getD i 0)), (22, .u), (23, .u), (24, .u), (25, .u), (26, .u), (27, .u), (28, .u), (29, .u)]) ?_ ?_
      · refine jc_seq ?_; refine jc_region ?_; refine jo_l (ly_mv rfl) (hd 22 rfl) ?_; refine jo_l (ly_mv rfl) (hd 23 rfl) ?_; refine jo_l (ly_lenn sl28 rfl) (hd 24 rfl) ?_; refine jo_l (ly_lt rfl rfl) (hd 25 rfl) ?_; refine jo_nil ?_
        refine jc_if rfl (fun h2 => ?_) (fun h2 => ?_)
        · refine jc_region ?_; refine jo_l (ly_mv rfl) (hd 26 rfl) ?_; refine jo_l (ly_mv rfl) (hd 27 rfl) ?_; refine jo_l (ly_ian (i := i) sl28 rfl rfl (by first | rfl | omega) (by omega)) (hd 28 rfl) ?_; refine jo_l (ly_ldq one82 rfl rfl) (hd 29 rfl) ?_; refine jo_l (ly_as rfl) (hd 9 rfl) ?_; refine jo_nil ?_
          refine ⟨(), ?_, rfl, cov_n 9 rfl rfl ?_⟩
          · trivial
          · exact (.cons (by first | rfl | (show some (V.i .u64 _) = some (V.i .u64 _); rw [getD_ge (by omega)])) (.u (.u (.u (.u (.u (.u (.u (.u .nil)))))))))
        · refine jc_skip ?_
          refine ⟨(), ?_, rfl, cov_n 4 rfl rfl ?_⟩
          · trivial
          · exact (.cons (by first | rfl | (show some (V.i .u64 _) = some (V.i .u64 _); rw [getD_ge (by omega)])) (.u (.u (.u (.u (.u (.u (.u (.u .nil)))))))))
      · rintro _ _
        refine jc_meetH (G := Unit) (fun _ => True) (fun _ => [(10, .i .u64 ((lm (y : Int)).getD i 0)), (30, .u), (31, .u), (32, .u), (33, .u), (34, .u), (35, .u), (36, .u), (37, .u)]) ?_ ?_
        · refine jc_seq ?_; refine jc_region ?_; refine jo_l (ly_mv rfl) (hd 30 rfl) ?_; refine jo_l (ly_mv rfl) (hd 31 rfl) ?_; refine jo_l (ly_lenn sl28 rfl) (hd 32 rfl) ?_; refine jo_l (ly_lt rfl rfl) (hd 33 rfl) ?_; refine jo_nil ?_
          refine jc_if rfl (fun h3 => ?_) (fun h3 => ?_)
          · refine jc_region ?_; refine jo_l (ly_mv rfl) (hd 34 rfl) ?_; refine jo_l (ly_mv rfl) (hd 35 rfl) ?_; refine jo_l (ly_ian (i := i) sl28 rfl rfl (by first | rfl | omega) (by omega)) (hd 36 rfl) ?_; refine jo_l (ly_ldq one82 rfl rfl) (hd 37 rfl) ?_; refine jo_l (ly_as rfl) (hd 10 rfl) ?_; refine jo_nil ?_
            refine ⟨(), ?_, rfl, cov_n 9 rfl rfl ?_⟩
            · trivial
            · exact (.cons (by first | rfl | (show some (V.i .u64 _) = some (V.i .u64 _); rw [getD_ge (by omega)])) (.u (.u (.u (.u (.u (.u (.u (.u .nil)))))))))
          · refine jc_skip ?_
            refine ⟨(), ?_, rfl, cov_n 4 rfl rfl ?_⟩
            · trivial
            · exact (.cons (by first | rfl | (show some (V.i .u64 _) = some (V.i .u64 _); rw [getD_ge (by omega)])) (.u (.u (.u (.u (.u (.u (.u (.u .nil)))))))))
        · rintro _ _; refine jc_region ?_; refine jo_l (ly_mv rfl) (hd 38 rfl) ?_; refine jo_l (ly_mv rfl) (hd 39 rfl) ?_; refine jo_l (ly_mv rfl) (hd 40 rfl) ?_; refine jo_l (ly_mv rfl) (hd 41 rfl) ?_; refine jo_l (ly_mv rfl) (hd 42 rfl) ?_
          refine jo_call Tryd.f77 (hOp) rfl Tryd.func77 rfl rfl (ovL_cons rfl (ovL_cons rfl ovL_nil)) (.cons .i (.cons .i .nil)) (hd 43 rfl) ?_ (fun ch hp => by simp at hp)
          rintro y hy; injection hy with hy; subst hy; refine jo_l (ly_ia (i := i) sl28 rfl rfl rfl (by first | rfl | omega) (by omega) rfl) (hd 44 rfl) ?_; refine jo_st (sy_storei rfl rfl rfl one82 (by omega)) ?_; refine jo_nil ?_; refine jc_region ?_; refine jo_l (ly_add rfl rfl (r := ((i + 1 : Nat) : Int)) (by rw [wrap_i64 (by omega) (by omega)]; omega)) (hd 45 rfl) ?_; refine jo_l (ly_mv rfl) (hd 19 rfl) ?_; refine jo_nil ?_
          refine ⟨i + 1, ?_, ?_, (by show [(⟨76, 1, 0, true, ints .u64 _⟩ : Ob)] = [⟨76, 1, 0, true, ints .u64 _⟩]; rw [fill_dll (by omega)]), cov_n 62 rfl rfl ?_⟩
          · omega
          · omega
          · exact (.cons rfl (.u (.u (.u (.u (.u (.u (.u (.u (.u (.u (.u (.u (.u (.u (.u (.u (.u (.u (.u (.u (.u (.u (.u (.u (.u (.u (.u (.u (.u .nil))))))))))))))))))))))))))))))
    · obtain rfl : i = (max (lm (x : Int)).length (lm (y : Int)).length) := by omega
      refine jc_exit ?_; refine jc_seq ?_; refine jc_frz (k := .u64) (l := fillI (dll (x ||| y) (max (lm (x : Int)).length (lm (y : Int)).length)) (max (lm (x : Int)).length (lm (y : Int)).length)) (l' := dll (x ||| y) (max (lm (x : Int)).length (lm (y : Int)).length)) 7 rfl rfl (by rw [dll_all, dll_len]; omega) (by rw [dll_all, List.drop_zero, List.take_of_length_le (by rw [dll_len]; omega)]) hL ?_; refine jc_region ?_; refine jo_l (ly_mv rfl) (hd 46 rfl) ?_
      refine jo_call Tryd.f87 (trim_s (dll (x ||| y) (max (lm (x : Int)).length (lm (y : Int)).length)) (by rw [dll_len]; omega)) rfl Tryd.func87 rfl rfl (ovL_cons rfl ovL_nil) (.cons .n .nil) (hd 47 rfl) ?_ (fun ch hp => by simp at hp)
      rintro y hy; injection hy with hy; subst hy; refine jo_l (ly_as rfl) (hd 6 rfl) ?_; refine jo_nil ?_; refine jc_ret ?_
      refine ⟨_, _, (.cons rfl .nil), .n, ?_⟩
      rw [dll_trm hz]

set_option maxHeartbeats 4000000 in
theorem nOr_v (x y : Nat) (hx : lenV (x : Int) ≤ 67108864) (hy : lenV (y : Int) ≤ 67108864) : Spec Tryd.prog 38 [.n false .u64 (lm (x : Int)), .n false .u64 (lm (y : Int))] (fun o => o = .ret (.n false .u64 (lm (((x ||| y) : Nat) : Int)))) := by
  refine spec_of' [(0, .n false .u64 (lm (x : Int))), (1, .n false .u64 (lm (y : Int)))] rfl Tryd.func38 rfl (Nat.le_of_ble_eq_true rfl) fun Γ hN hds hL hR => ?_
  have hd : ∀ d, Nat.blt d 8 = true → d < Γ.N := fun d h => by rw [hN]; exact Nat.le_of_ble_eq_true h
  refine jc_seq ?_; refine jc_region ?_; refine jo_l (ly_as rfl) (hd 4 rfl) ?_; refine jo_nil ?_; refine jc_seq ?_; refine jc_region ?_; refine jo_l (ly_mv rfl) (hd 5 rfl) ?_; refine jo_l (ly_mv rfl) (hd 6 rfl) ?_
  refine jo_call Tryd.f76 (both_or x y hx hy) rfl Tryd.func76 rfl rfl (ovL_cons rfl (ovL_cons rfl (ovL_cons rfl ovL_nil))) (.cons .n (.cons .n (.cons .f .nil))) (hd 7 rfl) ?_ (fun ch hp => by simp at hp)
  rintro y hy; injection hy with hy; subst hy; refine jo_l (ly_as rfl) (hd 4 rfl) ?_; refine jo_nil ?_; refine jc_ret ?_
  refine ⟨_, _, (.cons rfl .nil), .n, ?_⟩
  exact rfl

set_option maxHeartbeats 4000000 in
theorem xor1_s (x y : Int) : Spec Tryd.prog 79 [.i .u64 x, .i .u64 y] (fun o => o = .ret (.i .u64 (bitop .xor .u64 x y))) := by
  refine spec_of' [(0, .i .u64 x), (1, .i .u64 y)] rfl Tryd.func79 rfl (Nat.le_of_ble_eq_true rfl) fun Γ hN hds hL hR => ?_
  have hd : ∀ d, Nat.blt d 8 = true → d < Γ.N := fun d h => by rw [hN]; exact Nat.le_of_ble_eq_true h
  refine jc_seq ?_; refine jc_region ?_; refine jo_l (ly_as rfl) (hd 4 rfl) ?_; refine jo_nil ?_; refine jc_seq ?_; refine jc_region ?_; refine jo_l (ly_mv rfl) (hd 5 rfl) ?_; refine jo_l (ly_mv rfl) (hd 6 rfl) ?_; refine jo_l (ly_bit (by simp) rfl rfl rfl) (hd 7 rfl) ?_; refine jo_l (ly_as rfl) (hd 4 rfl) ?_; refine jo_nil ?_; refine jc_ret ?_
  refine ⟨_, _, (.cons rfl .nil), .i, ?_⟩
  exact rfl

set_option maxHeartbeats 4000000 in
theorem both_xor (x y : Nat) (hx : lenV (x : Int) ≤ 67108864) (hy : lenV (y : Int) ≤ 67108864) : Spec Tryd.prog 76 [.n false .u64 (lm (x : Int)), .n false .u64 (lm (y : Int)), .f 79 []] (fun o => o = .ret (.n false .u64 (lm (((x ^^^ y) : Nat) : Int)))) := by
  refine spec_of' [(0, .n false .u64 (lm (x : Int))), (1, .n false .u64 (lm (y : Int))), (2, .f 79 [])] rfl Tryd.func76 rfl (Nat.le_of_ble_eq_true rfl) fun Γ hN hds hL hR => ?_
  have hd : ∀ d, Nat.blt d 48 = true → d < Γ.N := fun d h => by rw [hN]; exact Nat.le_of_ble_eq_true h
  have hlx := lenV_lm hx
  have hly := lenV_lm hy
  have hz : (x ^^^ y) < 2 ^ (64 * (max (lm (x : Int)).length (lm (y : Int)).length)) := Nat.xor_lt_two_pow (lm_lt2 (Nat.le_max_left _ _)) (lm_lt2 (Nat.le_max_right _ _))
  refine jc_seq ?_; refine jc_region ?_; refine jo_l (ly_as rfl) (hd 6 rfl) ?_; refine jo_nil ?_; refine jc_seq ?_; refine jc_region ?_; refine jo_l (ly_mv rfl) (hd 11 rfl) ?_; refine jo_l (ly_lenn sl28 rfl) (hd 12 rfl) ?_; refine jo_l (ly_mv rfl) (hd 13 rfl) ?_; refine jo_l (ly_lenn sl28 rfl) (hd 14 rfl) ?_; refine jo_l (ly_is (ly_max rfl rfl) (show V.i .i64 _ = V.i .i64 (((max (lm (x : Int)).length (lm (y : Int)).length) : Nat) : Int) by congr 1; omega)) (hd 15 rfl) ?_; refine jo_h (hy_mk (m := (max (lm (x : Int)).length (lm (y : Int)).length)) el28 rfl rfl rfl (by show 8 * (max (lm (x : Int)).length (lm (y : Int)).length) ≤ _; omega) (by unfold maxLen; omega) rfl) (hd 16 rfl) ?_; refine jo_l (ly_as rfl) (hd 7 rfl) ?_; refine jo_nil ?_; refine jc_seq ?_; refine jc_seq ?_; refine jc_H (H' := [⟨76, 1, 0, true, ints .u64 (fillI (dll (x ^^^ y) 0) (max (lm (x : Int)).length (lm (y : Int)).length))⟩]) (by show [(⟨76, 1, 0, true, ints .u64 _⟩ : Ob)] = [⟨76, 1, 0, true, ints .u64 _⟩]; rw [dll_0]) ?_; refine jc_region ?_; refine jo_l (ly_mv rfl) (hd 17 rfl) ?_; refine jo_l (ly_leno sl28 rfl rfl) (hd 18 rfl) ?_; refine jo_l (ly_mv rfl) (hd 19 rfl) ?_; refine jo_nil ?_; refine jc_block ?_
  refine jc_loopF (G := Nat) (fun i => i ≤ (max (lm (x : Int)).length (lm (y : Int)).length)) (fun i => [(19, .i .i64 (i : Int)), (8, .u), (9, .u), (10, .u), (20, .u), (21, .u), (22, .u), (23, .u), (24, .u), (25, .u), (26, .u), (27, .u), (28, .u), (29, .u), (30, .u), (31, .u), (32, .u), (33, .u), (34, .u), (35, .u), (36, .u), (37, .u), (38, .u), (39, .u), (40, .u), (41, .u), (42, .u), (43, .u), (44, .u), (45, .u)]) (fun i => [⟨76, 1, 0, true, ints .u64 (fillI (dll (x ^^^ y) i) (max (lm (x : Int)).length (lm (y : Int)).length))⟩]) (fun i => (max (lm (x : Int)).length (lm (y : Int)).length) - i) 0 ?_ ?_ rfl ?_
  · exact Nat.zero_le _
  · exact (.cons rfl (.u (.u (.u (.u (.u (.u (.u (.u (.u (.u (.u (.u (.u (.u (.u (.u (.u (.u (.u (.u (.u (.u (.u (.u (.u (.u (.u (.u (.u .nil))))))))))))))))))))))))))))))
  · rintro i hc1
    have hfl := dll_fl (z := (x ^^^ y)) hc1
    have hop : bitop .xor .u64 ((lm (x : Int)).getD i 0) ((lm (y : Int)).getD i 0) = dgl (x ^^^ y) i := by rw [lm_at, lm_at, dgl_xor]
    have hOp := xor1_s ((lm (x : Int)).getD i 0) ((lm (y : Int)).getD i 0)
    rw [hop] at hOp
    refine jc_seq ?_; refine jc_region ?_; refine jo_l (ly_lt rfl rfl) (hd 20 rfl) ?_; refine jo_nil ?_; refine jc_seq ?_
    refine jc_if rfl (fun h1 => ?_) (fun h1 => ?_)
    · refine jc_skip ?_; refine jc_seq ?_; refine jc_block ?_; refine jc_seq ?_; refine jc_region ?_; refine jo_l (ly_mv rfl) (hd 21 rfl) ?_; refine jo_l (ly_as rfl) (hd 8 rfl) ?_; refine jo_nil ?_; refine jc_seq ?_; refine jc_region ?_; refine jo_l (ly_as rfl) (hd 9 rfl) ?_; refine jo_l (ly_as rfl) (hd 10 rfl) ?_; refine jo_nil ?_
      refine jc_meetH (G := Unit) (fun _ => True) (fun _ => [(9, .i .u64 ((lm (x : Int)).getD i 0)), (22, .u), (23, .u), (24, .u), (25, .u), (26, .u), (27, .u), (28, .u), (29, .u)]) ?_ ?_
      · refine jc_seq ?_; refine jc_region ?_; refine jo_l (ly_mv rfl) (hd 22 rfl) ?_; refine jo_l (ly_mv rfl) (hd 23 rfl) ?_; refine jo_l (ly_lenn sl28 rfl) (hd 24 rfl) ?_; refine jo_l (ly_lt rfl rfl) (hd 25 rfl) ?_; refine jo_nil ?_
        refine jc_if rfl (fun h2 => ?_) (fun h2 => ?_)
        · refine jc_region ?_; refine jo_l (ly_mv rfl) (hd 26 rfl) ?_; refine jo_l (ly_mv rfl) (hd 27 rfl) ?_; refine jo_l (ly_ian (i := i) sl28 rfl rfl (by first | rfl | omega) (by omega)) (hd 28 rfl) ?_; refine jo_l (ly_ldq one82 rfl rfl) (hd 29 rfl) ?_; refine jo_l (ly_as rfl) (hd 9 rfl) ?_; refine jo_nil ?_
          refine ⟨(), ?_, rfl, cov_n 9 rfl rfl ?_⟩
          · trivial
          · exact (.cons (by first | rfl | (show some (V.i .u64 _) = some (V.i .u64 _); rw [getD_ge (by omega)])) (.u (.u (.u (.u (.u (.u (.u (.u .nil)))))))))
        · refine jc_skip ?_
          refine ⟨(), ?_, rfl, cov_n 4 rfl rfl ?_⟩
          · trivial
          · exact (.cons (by first | rfl | (show some (V.i .u64 _) = some (V.i .u64 _); rw [getD_ge (by omega)])) (.u (.u (.u (.u (.u (.u (.u (.u .nil)))))))))
      · rintro _ _
        refine jc_meetH (G := Unit) (fun _ => True) (fun _ => [(10, .i .u64 ((lm (y : Int)).getD i 0)), (30, .u), (31, .u), (32, .u), (33, .u), (34, .u), (35, .u), (36, .u), (37, .u)]) ?_ ?_
        · refine jc_seq ?_; refine jc_region ?_; refine jo_l (ly_mv rfl) (hd 30 rfl) ?_; refine jo_l (ly_mv rfl) (hd 31 rfl) ?_; refine jo_l (ly_lenn sl28 rfl) (hd 32 rfl) ?_; refine jo_l (ly_lt rfl rfl) (hd 33 rfl) ?_; refine jo_nil ?_
          refine jc_if rfl (fun h3 => ?_) (fun h3 => ?_)
          · refine jc_region ?_; refine jo_l (ly_mv rfl) (hd 34 rfl) ?_; refine jo_l (ly_mv rfl) (hd 35 rfl) ?_; refine jo_l (ly_ian (i := i) sl28 rfl rfl (by first | rfl | omega) (by omega)) (hd 36 rfl) ?_; refine jo_l (ly_ldq one82 rfl rfl) (hd 37 rfl) ?_; refine jo_l (ly_as rfl) (hd 10 rfl) ?_; refine jo_nil ?_
            refine ⟨(), ?_, rfl, cov_n 9 rfl rfl ?_⟩
            · trivial
            · exact (.cons (by first | rfl | (show some (V.i .u64 _) = some (V.i .u64 _); rw [getD_ge (by omega)])) (.u (.u (.u (.u (.u (.u (.u (.u .nil)))))))))
          · refine jc_skip ?_
            refine ⟨(), ?_, rfl, cov_n 4 rfl rfl ?_⟩
            · trivial
            · exact (.cons (by first | rfl | (show some (V.i .u64 _) = some (V.i .u64 _); rw [getD_ge (by omega)])) (.u (.u (.u (.u (.u (.u (.u (.u .nil)))))))))
        · rintro _ _; refine jc_region ?_; refine jo_l (ly_mv rfl) (hd 38 rfl) ?_; refine jo_l (ly_mv rfl) (hd 39 rfl) ?_; refine jo_l (ly_mv rfl) (hd 40 rfl) ?_; refine jo_l (ly_mv rfl) (hd 41 rfl) ?_; refine jo_l (ly_mv rfl) (hd 42 rfl) ?_
          refine jo_call Tryd.f79 (hOp) rfl Tryd.func79 rfl rfl (ovL_cons rfl (ovL_cons rfl ovL_nil)) (.cons .i (.cons .i .nil)) (hd 43 rfl) ?_ (fun ch hp => by simp at hp)
          rintro y hy; injection hy with hy; subst hy; refine jo_l (ly_ia (i := i) sl28 rfl rfl rfl (by first | rfl | omega) (by omega) rfl) (hd 44 rfl) ?_; refine jo_st (sy_storei rfl rfl rfl one82 (by omega)) ?_; refine jo_nil ?_; refine jc_region ?_; refine jo_l (ly_add rfl rfl (r := ((i + 1 : Nat) : Int)) (by rw [wrap_i64 (by omega) (by omega)]; omega)) (hd 45 rfl) ?_; refine jo_l (ly_mv rfl) (hd 19 rfl) ?_; refine jo_nil ?_
          refine ⟨i + 1, ?_, ?_, (by show [(⟨76, 1, 0, true, ints .u64 _⟩ : Ob)] = [⟨76, 1, 0, true, ints .u64 _⟩]; rw [fill_dll (by omega)]), cov_n 62 rfl rfl ?_⟩
          · omega
          · omega
          · exact (.cons rfl (.u (.u (.u (.u (.u (.u (.u (.u (.u (.u (.u (.u (.u (.u (.u (.u (.u (.u (.u (.u (.u (.u (.u (.u (.u (.u (.u (.u (.u .nil))))))))))))))))))))))))))))))
    · obtain rfl : i = (max (lm (x : Int)).length (lm (y : Int)).length) := by omega
      refine jc_exit ?_; refine jc_seq ?_; refine jc_frz (k := .u64) (l := fillI (dll (x ^^^ y) (max (lm (x : Int)).length (lm (y : Int)).length)) (max (lm (x : Int)).length (lm (y : Int)).length)) (l' := dll (x ^^^ y) (max (lm (x : Int)).length (lm (y : Int)).length)) 7 rfl rfl (by rw [dll_all, dll_len]; omega) (by rw [dll_all, List.drop_zero, List.take_of_length_le (by rw [dll_len]; omega)]) hL ?_; refine jc_region ?_; refine jo_l (ly_mv rfl) (hd 46 rfl) ?_
      refine jo_call Tryd.f87 (trim_s (dll (x ^^^ y) (max (lm (x : Int)).length (lm (y : Int)).length)) (by rw [dll_len]; omega)) rfl Tryd.func87 rfl rfl (ovL_cons rfl ovL_nil) (.cons .n .nil) (hd 47 rfl) ?_ (fun ch hp => by simp at hp)
      rintro y hy; injection hy with hy; subst hy; refine jo_l (ly_as rfl) (hd 6 rfl) ?_; refine jo_nil ?_; refine jc_ret ?_
      refine ⟨_, _, (.cons rfl .nil), .n, ?_⟩
      rw [dll_trm hz]

set_option maxHeartbeats 4000000 in
theorem nXor_v (x y : Nat) (hx : lenV (x : Int) ≤ 67108864) (hy : lenV (y : Int) ≤ 67108864) : Spec Tryd.prog 41 [.n false .u64 (lm (x : Int)), .n false .u64 (lm (y : Int))] (fun o => o = .ret (.n false .u64 (lm (((x ^^^ y) : Nat) : Int)))) := by
  refine spec_of' [(0, .n false .u64 (lm (x : Int))), (1, .n false .u64 (lm (y : Int)))] rfl Tryd.func41 rfl (Nat.le_of_ble_eq_true rfl) fun Γ hN hds hL hR => ?_
  have hd : ∀ d, Nat.blt d 8 = true → d < Γ.N := fun d h => by rw [hN]; exact Nat.le_of_ble_eq_true h
  refine jc_seq ?_; refine jc_region ?_; refine jo_l (ly_as rfl) (hd 4 rfl) ?_; refine jo_nil ?_; refine jc_seq ?_; refine jc_region ?_; refine jo_l (ly_mv rfl) (hd 5 rfl) ?_; refine jo_l (ly_mv rfl) (hd 6 rfl) ?_
  refine jo_call Tryd.f76 (both_xor x y hx hy) rfl Tryd.func76 rfl rfl (ovL_cons rfl (ovL_cons rfl (ovL_cons rfl ovL_nil))) (.cons .n (.cons .n (.cons .f .nil))) (hd 7 rfl) ?_ (fun ch hp => by simp at hp)
  rintro y hy; injection hy with hy; subst hy; refine jo_l (ly_as rfl) (hd 4 rfl) ?_; refine jo_nil ?_; refine jc_ret ?_
  refine ⟨_, _, (.cons rfl .nil), .n, ?_⟩
  exact rfl

set_option maxHeartbeats 4000000 in
theorem without_v (x y : Nat) (hx : lenV (x : Int) ≤ 67108864) (hy : lenV (y : Int) ≤ 67108864) : Spec Tryd.prog 39 [.n false .u64 (lm (x : Int)), .n false .u64 (lm (y : Int))] (fun o => o = .ret (.n false .u64 (lm ((x ^^^ (x &&& y) : Nat) : Int)))) := by
  refine spec_of' [(0, .n false .u64 (lm (x : Int))), (1, .n false .u64 (lm (y : Int)))] rfl Tryd.func39 rfl (Nat.le_of_ble_eq_true rfl) fun Γ hN hds hL hR => ?_
  have hd : ∀ d, Nat.blt d 10 = true → d < Γ.N := fun d h => by rw [hN]; exact Nat.le_of_ble_eq_true h
  have hxy : lenV ((x &&& y : Nat) : Int) ≤ 67108864 := Nat.le_trans (lenV_mono (by have := Nat.and_le_left (n := x) (m := y); omega)) hx
  refine jc_seq ?_; refine jc_region ?_; refine jo_l (ly_as rfl) (hd 4 rfl) ?_; refine jo_nil ?_; refine jc_seq ?_; refine jc_region ?_; refine jo_l (ly_mv rfl) (hd 5 rfl) ?_; refine jo_l (ly_mv rfl) (hd 6 rfl) ?_; refine jo_l (ly_mv rfl) (hd 7 rfl) ?_
  refine jo_call Tryd.f40 (nAnd_v x y hx hy) rfl Tryd.func40 rfl rfl (ovL_cons rfl (ovL_cons rfl ovL_nil)) (.cons .n (.cons .n .nil)) (hd 8 rfl) ?_ (fun ch hp => by simp at hp)
  rintro y hy; injection hy with hy; subst hy
  refine jo_call Tryd.f41 (nXor_v x (x &&& y) hx hxy) rfl Tryd.func41 rfl rfl (ovL_cons rfl (ovL_cons rfl ovL_nil)) (.cons .n (.cons .n .nil)) (hd 9 rfl) ?_ (fun ch hp => by simp at hp)
  rintro y hy; injection hy with hy; subst hy; refine jo_l (ly_as rfl) (hd 4 rfl) ?_; refine jo_nil ?_; refine jc_ret ?_
  refine ⟨_, _, (.cons rfl .nil), .n, ?_⟩
  exact rfl
end Go.Proofs.YtaogaegchagbfaaDoor.Vc
