/- Made, negated, sized and compared whole numbers answer as the document says, of every input of bulk at most 1048576 Texts joined: Yb, Ye, Yf, Yz, RMakes. -/
import Derived.Test.YtcdipmjgpimmdaaK6
import Derived.Test.YtcdipmjgpimmdaaRows
import Derived.WalkKit
import Derived.ProofKit
import Derived.OpenShut
import Derived.Carry
import Derived.JoinedCond
/- Contracts of the references' numbers with a sign; alike. -/
set_option linter.unusedVariables false
set_option linter.unusedSimpArgs false
namespace Go.Proofs.Ytcdipmjgpimmdaa.Vc
open Go Go.RowKit
theorem make1_z (s : Bool) (n : Nat) : Spec Try.prog 58 [.b s, .n false .u64 (digs B32 n)] (fun o => o = .ret (.a [.b (decide ((zs s n) < 0)), .n false .u64 (dg (zs s n))])) := by
  have h := make1_s s (digs B32 n)
  rw [mk_zs] at h
  rw [dg_zs]
  exact h
theorem make1_o (s : Bool) (l : List Int) (hu : u64s l) : Spec Try.prog 58 [.b s, .n false .u64 (trm (dig l))] (fun o => o = .ret (.a [.b (decide ((sv s l) < 0)), .n false .u64 (dg (sv s l))])) := by
  have h := make1_s s (trm (dig l))
  rw [zv_of hu, trm_dig (s := s) hu rfl] at h
  rw [trm_dig (s := s) hu rfl]
  exact h

set_option maxHeartbeats 4000000 in
theorem ZOf_s (s : Bool) (l : List Int) (hl : l.length < 4294967296) (hu : u64s l) : Spec Try.prog 33 [.b s, .n false .u64 l] (fun o => o = .ret (.a [.b (decide ((sv s l) < 0)), .n false .u64 (dg (sv s l))])) := by
  refine spec_of' [(0, .b s), (1, .n false .u64 l)] rfl Try.func33 rfl (Nat.le_of_ble_eq_true rfl) fun Γ hN hds hL hR => ?_
  have hd : ∀ d, Nat.blt d 9 = true → d < Γ.N := fun d h => by rw [hN]; exact Nat.le_of_ble_eq_true h
  refine jc_seq ?_
  refine jc_region ?_
  refine jo_h (hy_alloc (id := 0) zero35 (by decide) rfl (by decide) rfl) (hd 4 rfl) ?_
  refine jo_nil ?_
  refine jc_seq ?_
  refine jc_region ?_
  refine jo_l (ly_mv rfl) (hd 5 rfl) ?_
  refine jo_l (ly_mv rfl) (hd 6 rfl) ?_
  refine jo_call Try.f63 (rOf_s l hl hu) rfl Try.func63 rfl rfl (ovL_cons rfl ovL_nil) (.cons .n .nil) (hd 7 rfl) ?_ (fun ch hp => by simp at hp)
  rintro y hy; injection hy with hy; subst hy
  refine jo_call Try.f58 (make1_o s l hu) rfl Try.func58 rfl rfl (ovL_cons rfl (ovL_cons rfl ovL_nil)) (.cons .b (.cons .n .nil)) (hd 8 rfl) ?_ (fun ch hp => by simp at hp)
  rintro y hy; injection hy with hy; subst hy
  refine jo_st (sy_store rfl rfl rfl siz35 rfl rfl (Nat.le_of_ble_eq_true rfl)) ?_
  refine jo_nil ?_
  refine jc_ret ?_
  refine ⟨_, _, (.cons (ResV.cell agg35 rfl rfl rfl rfl) .nil), (.a1 .b (.a1 .n .a0)), ?_⟩
  exact rfl

set_option maxHeartbeats 4000000 in
theorem of_s (s : Bool) (l : List Int) (hl : l.length < 4294967296) (hu : u64s l) : Spec Try.prog 12 [.a [.b s, .n false .u64 l]] (fun o => o = .ret (.a [.b (decide ((sv s l) < 0)), .n false .u64 (dg (sv s l))])) := by
  refine spec_of' [(0, .a [.b s, .n false .u64 l])] rfl Try.func12 rfl (Nat.le_of_ble_eq_true rfl) fun Γ hN hds hL hR => ?_
  have hd : ∀ d, Nat.blt d 8 = true → d < Γ.N := fun d h => by rw [hN]; exact Nat.le_of_ble_eq_true h
  refine jc_seq ?_
  refine jc_region ?_
  refine jo_h (hy_box (id := 0) (n := 2) rfl rfl rfl (by decide) rfl) (hd 1 rfl) ?_
  refine jo_h (hy_alloc (id := 1) zero35 (by decide) rfl (by decide) rfl) (hd 2 rfl) ?_
  refine jo_nil ?_
  refine jc_seq ?_
  refine jc_region ?_
  refine jo_l (ly_fa fld27_0 rfl rfl rfl) (hd 3 rfl) ?_
  refine jo_l (ly_ld one4 rfl rfl rfl) (hd 4 rfl) ?_
  refine jo_l (ly_fa fld27_1 rfl rfl rfl) (hd 5 rfl) ?_
  refine jo_l (ly_ld one25 rfl rfl rfl) (hd 6 rfl) ?_
  refine jo_call Try.f33 (ZOf_s s l hl hu) rfl Try.func33 rfl rfl (ovL_cons rfl (ovL_cons rfl ovL_nil)) (.cons .b (.cons .n .nil)) (hd 7 rfl) ?_ (fun ch hp => by simp at hp)
  rintro y hy; injection hy with hy; subst hy
  refine jo_st (sy_store rfl rfl rfl siz35 rfl rfl (Nat.le_of_ble_eq_true rfl)) ?_
  refine jo_nil ?_
  refine jc_ret ?_
  refine ⟨_, _, (.cons (ResV.cell agg35 rfl rfl rfl rfl) .nil), (.a1 .b (.a1 .n .a0)), ?_⟩
  exact rfl

set_option maxHeartbeats 4000000 in
theorem ZNeg_s (v : Int) : Spec Try.prog 48 [.a [.b (decide (v < 0)), .n false .u64 (dg v)]] (fun o => o = .ret (.a [.b (decide ((-v) < 0)), .n false .u64 (dg (-v))])) := by
  refine spec_of' [(0, .a [.b (decide (v < 0)), .n false .u64 (dg v)])] rfl Try.func48 rfl (Nat.le_of_ble_eq_true rfl) fun Γ hN hds hL hR => ?_
  have hd : ∀ d, Nat.blt d 9 = true → d < Γ.N := fun d h => by rw [hN]; exact Nat.le_of_ble_eq_true h
  refine jc_seq ?_
  refine jc_region ?_
  refine jo_h (hy_box (id := 0) (n := 2) rfl rfl rfl (by decide) rfl) (hd 1 rfl) ?_
  refine jo_h (hy_alloc (id := 1) zero35 (by decide) rfl (by decide) rfl) (hd 2 rfl) ?_
  refine jo_nil ?_
  refine jc_seq ?_
  refine jc_region ?_
  refine jo_l (ly_fa fld35_0 rfl rfl rfl) (hd 3 rfl) ?_
  refine jo_l (ly_ld one4 rfl rfl rfl) (hd 4 rfl) ?_
  refine jo_l (ly_not rfl) (hd 5 rfl) ?_
  refine jo_l (ly_fa fld35_1 rfl rfl rfl) (hd 6 rfl) ?_
  refine jo_l (ly_ld one33 rfl rfl rfl) (hd 7 rfl) ?_
  refine jo_call Try.f58 (make1_z (!decide (v < 0)) v.natAbs) rfl Try.func58 rfl rfl (ovL_cons rfl (ovL_cons rfl ovL_nil)) (.cons .b (.cons .n .nil)) (hd 8 rfl) ?_ (fun ch hp => by simp at hp)
  rintro y hy; injection hy with hy; subst hy
  refine jo_st (sy_store rfl rfl rfl siz35 rfl rfl (Nat.le_of_ble_eq_true rfl)) ?_
  refine jo_nil ?_
  refine jc_ret ?_
  refine ⟨_, _, (.cons (ResV.cell agg35 rfl rfl rfl rfl) .nil), (.a1 .b (.a1 .n .a0)), ?_⟩
  rw [zneg]

set_option maxHeartbeats 4000000 in
theorem ZAbs_s (v : Int) : Spec Try.prog 32 [.a [.b (decide (v < 0)), .n false .u64 (dg v)]] (fun o => o = .ret (.a [.b (decide (((v.natAbs : Nat) : Int) < 0)), .n false .u64 (dg ((v.natAbs : Nat) : Int))])) := by
  refine spec_of' [(0, .a [.b (decide (v < 0)), .n false .u64 (dg v)])] rfl Try.func32 rfl (Nat.le_of_ble_eq_true rfl) fun Γ hN hds hL hR => ?_
  have hd : ∀ d, Nat.blt d 6 = true → d < Γ.N := fun d h => by rw [hN]; exact Nat.le_of_ble_eq_true h
  refine jc_seq ?_
  refine jc_region ?_
  refine jo_h (hy_box (id := 0) (n := 2) rfl rfl rfl (by decide) rfl) (hd 1 rfl) ?_
  refine jo_h (hy_alloc (id := 1) zero35 (by decide) rfl (by decide) rfl) (hd 2 rfl) ?_
  refine jo_nil ?_
  refine jc_seq ?_
  refine jc_region ?_
  refine jo_l (ly_fa fld35_1 rfl rfl rfl) (hd 3 rfl) ?_
  refine jo_l (ly_ld one33 rfl rfl rfl) (hd 4 rfl) ?_
  refine jo_l (ly_build (is := [0, 1]) (xs := [.const (.bool false), .tmp 4]) zero35 pls35_0_1 rfl (ovL_cons rfl (ovL_cons rfl ovL_nil)) rfl (by first | (simp [plsOk, cellsV]; done) | (simp [plsOk, cellsV, old]; done)) (all_of rfl) rfl) (hd 5 rfl) ?_
  refine jo_st (sy_store rfl rfl rfl siz35 rfl rfl (Nat.le_of_ble_eq_true rfl)) ?_
  refine jo_nil ?_
  refine jc_ret ?_
  refine ⟨_, _, (.cons (ResV.cell agg35 rfl rfl rfl rfl) .nil), (.a1 .b (.a1 .n .a0)), ?_⟩
  rw [abs_neg, dg_abs]

set_option maxHeartbeats 4000000 in
theorem ZAdd_s (x y : Int) (hx : (dg x).length < 549755813888) (hy : (dg y).length < 549755813888) : Spec Try.prog 35 [.a [.b (decide (x < 0)), .n false .u64 (dg x)], .a [.b (decide (y < 0)), .n false .u64 (dg y)]] (fun o => o = .ret (.a [.b (decide ((x + y) < 0)), .n false .u64 (dg (x + y))])) := by
  refine spec_of' [(0, .a [.b (decide (x < 0)), .n false .u64 (dg x)]), (1, .a [.b (decide (y < 0)), .n false .u64 (dg y)])] rfl Try.func35 rfl (Nat.le_of_ble_eq_true rfl) fun Γ hN hds hL hR => ?_
  have hd : ∀ d, Nat.blt d 40 = true → d < Γ.N := fun d h => by rw [hN]; exact Nat.le_of_ble_eq_true h
  refine jc_seq ?_
  refine jc_region ?_
  refine jo_h (hy_box (id := 0) (n := 2) rfl rfl rfl (by decide) rfl) (hd 2 rfl) ?_
  refine jo_h (hy_box (id := 1) (n := 2) rfl rfl rfl (by decide) rfl) (hd 3 rfl) ?_
  refine jo_h (hy_alloc (id := 2) zero35 (by decide) rfl (by decide) rfl) (hd 4 rfl) ?_
  refine jo_nil ?_
  refine jc_seq ?_
  refine jc_seq ?_
  refine jc_region ?_
  refine jo_l (ly_fa fld35_0 rfl rfl rfl) (hd 5 rfl) ?_
  refine jo_l (ly_ld one4 rfl rfl rfl) (hd 6 rfl) ?_
  refine jo_l (ly_fa fld35_0 rfl rfl rfl) (hd 7 rfl) ?_
  refine jo_l (ly_ld one4 rfl rfl rfl) (hd 8 rfl) ?_
  refine jo_l (ly_eqb und4 rfl rfl) (hd 9 rfl) ?_
  refine jo_nil ?_
  refine jc_cond rfl (fun h1 => ?_) (fun h1 => ?_)
  · refine jc_seq ?_
    refine jc_draw (n := 9) _ rfl mixed ?_
    refine ja_l2 0 [1, 7, 8] (lo_l (ly_fa fld35_0 rfl rfl rfl) (hd 10 rfl)) rfl (by kernel_rfl) (by kernel_rfl) (by kernel_rfl) (by kernel_rfl) (fun _ _ _ _ h => h) ?_
    refine ja_l 1 (lo_l (ly_ld one4 rfl rfl rfl) (hd 11 rfl)) rfl (by kernel_rfl) (by kernel_rfl) (by kernel_rfl) (fun _ _ _ _ h => h) ?_
    refine ja_l2 2 [3, 6, 7, 8] (lo_l (ly_fa fld35_1 rfl rfl rfl) (hd 12 rfl)) rfl (by kernel_rfl) (by kernel_rfl) (by kernel_rfl) (by kernel_rfl) (fun _ _ _ _ h => h) ?_
    refine ja_l2 3 [6, 7, 8] (lo_l (ly_ld one33 rfl rfl rfl) (hd 13 rfl)) rfl (by kernel_rfl) (by kernel_rfl) (by kernel_rfl) (by kernel_rfl) (fun _ _ _ _ h => h) ?_
    refine ja_l2 4 [5, 6, 7, 8] (lo_l (ly_fa fld35_1 rfl rfl rfl) (hd 14 rfl)) rfl (by kernel_rfl) (by kernel_rfl) (by kernel_rfl) (by kernel_rfl) (fun _ _ _ _ h => h) ?_
    refine ja_l2 5 [6, 7, 8] (lo_l (ly_ld one33 rfl rfl rfl) (hd 15 rfl)) rfl (by kernel_rfl) (by kernel_rfl) (by kernel_rfl) (by kernel_rfl) (fun _ _ _ _ h => h) ?_
    refine ja_1 6 ?_ rfl (by kernel_rfl)
    refine js_call Try.f64 (rAdd_s x.natAbs y.natAbs hx hy) rfl Try.func64 rfl rfl (ovL_cons rfl (ovL_cons rfl ovL_nil)) (.cons .n (.cons .n .nil)) (hd 16 rfl) ?_ (fun ch hp => by simp at hp)
    rintro y hy; injection hy with hy; subst hy
    refine ja_1 7 ?_ rfl (by kernel_rfl)
    refine js_call Try.f58 (make1_z (decide (x < 0)) (x.natAbs + y.natAbs)) rfl Try.func58 rfl rfl (ovL_cons rfl (ovL_cons rfl ovL_nil)) (.cons .b (.cons .n .nil)) (hd 17 rfl) ?_ (fun ch hp => by simp at hp)
    rintro y hy; injection hy with hy; subst hy
    refine ja_1 8 ?_ rfl (by kernel_rfl)
    refine js_st (sy_store rfl rfl rfl siz35 rfl rfl (Nat.le_of_ble_eq_true rfl)) rfl ?_
    refine ja_nil (by kernel_rfl) ?_
    refine jc_ret ?_
    refine ⟨_, _, (.cons (ResV.cell agg35 rfl rfl rfl rfl) .nil), (.a1 .b (.a1 .n .a0)), ?_⟩
    rw [zadd_same (by assumption)]
  · refine jc_skip ?_
    refine jc_seq ?_
    refine jc_seq ?_
    refine jc_region ?_
    refine jo_l (ly_fa fld35_1 rfl rfl rfl) (hd 18 rfl) ?_
    refine jo_l (ly_ld one33 rfl rfl rfl) (hd 19 rfl) ?_
    refine jo_l (ly_fa fld35_1 rfl rfl rfl) (hd 20 rfl) ?_
    refine jo_l (ly_ld one33 rfl rfl rfl) (hd 21 rfl) ?_
    refine jo_call Try.f59 (rCmp_s x.natAbs y.natAbs (by show (dg x).length < _; omega) (by show (dg y).length < _; omega)) rfl Try.func59 rfl rfl (ovL_cons rfl (ovL_cons rfl ovL_nil)) (.cons .n (.cons .n .nil)) (hd 22 rfl) ?_ (fun ch hp => by simp at hp)
    rintro y hy; injection hy with hy; subst hy
    refine jo_l (ly_ge rfl rfl) (hd 23 rfl) ?_
    refine jo_nil ?_
    refine jc_if rfl (fun h2 => ?_) (fun h2 => ?_)
    · refine jc_seq ?_
      refine jc_draw (n := 9) _ rfl mixed ?_
      refine ja_l2 0 [1, 7, 8] (lo_l (ly_fa fld35_0 rfl rfl rfl) (hd 24 rfl)) rfl (by kernel_rfl) (by kernel_rfl) (by kernel_rfl) (by kernel_rfl) (fun _ _ _ _ h => h) ?_
      refine ja_l 1 (lo_l (ly_ld one4 rfl rfl rfl) (hd 25 rfl)) rfl (by kernel_rfl) (by kernel_rfl) (by kernel_rfl) (fun _ _ _ _ h => h) ?_
      refine ja_l2 2 [3, 6, 7, 8] (lo_l (ly_fa fld35_1 rfl rfl rfl) (hd 26 rfl)) rfl (by kernel_rfl) (by kernel_rfl) (by kernel_rfl) (by kernel_rfl) (fun _ _ _ _ h => h) ?_
      refine ja_l2 3 [6, 7, 8] (lo_l (ly_ld one33 rfl rfl rfl) (hd 27 rfl)) rfl (by kernel_rfl) (by kernel_rfl) (by kernel_rfl) (by kernel_rfl) (fun _ _ _ _ h => h) ?_
      refine ja_l2 4 [5, 6, 7, 8] (lo_l (ly_fa fld35_1 rfl rfl rfl) (hd 28 rfl)) rfl (by kernel_rfl) (by kernel_rfl) (by kernel_rfl) (by kernel_rfl) (fun _ _ _ _ h => h) ?_
      refine ja_l2 5 [6, 7, 8] (lo_l (ly_ld one33 rfl rfl rfl) (hd 29 rfl)) rfl (by kernel_rfl) (by kernel_rfl) (by kernel_rfl) (by kernel_rfl) (fun _ _ _ _ h => h) ?_
      refine ja_1 6 ?_ rfl (by kernel_rfl)
      refine js_call Try.f65 (rSub_s x.natAbs y.natAbs (cmp_le (by assumption)) (by show (dg x).length < _; omega) (by show (dg y).length < _; omega)) rfl Try.func65 rfl rfl (ovL_cons rfl (ovL_cons rfl ovL_nil)) (.cons .n (.cons .n .nil)) (hd 30 rfl) ?_ (fun ch hp => by simp at hp)
      rintro y hy; injection hy with hy; subst hy
      refine ja_1 7 ?_ rfl (by kernel_rfl)
      refine js_call Try.f58 (make1_z (decide (x < 0)) (x.natAbs - y.natAbs)) rfl Try.func58 rfl rfl (ovL_cons rfl (ovL_cons rfl ovL_nil)) (.cons .b (.cons .n .nil)) (hd 31 rfl) ?_ (fun ch hp => by simp at hp)
      rintro y hy; injection hy with hy; subst hy
      refine ja_1 8 ?_ rfl (by kernel_rfl)
      refine js_st (sy_store rfl rfl rfl siz35 rfl rfl (Nat.le_of_ble_eq_true rfl)) rfl ?_
      refine ja_nil (by kernel_rfl) ?_
      refine jc_ret ?_
      refine ⟨_, _, (.cons (ResV.cell agg35 rfl rfl rfl rfl) .nil), (.a1 .b (.a1 .n .a0)), ?_⟩
      rw [zadd_ge (by assumption) (by assumption)]
    · refine jc_skip ?_
      refine jc_seq ?_
      refine jc_draw (n := 9) _ rfl mixed ?_
      refine ja_l2 0 [1, 7, 8] (lo_l (ly_fa fld35_0 rfl rfl rfl) (hd 32 rfl)) rfl (by kernel_rfl) (by kernel_rfl) (by kernel_rfl) (by kernel_rfl) (fun _ _ _ _ h => h) ?_
      refine ja_l 1 (lo_l (ly_ld one4 rfl rfl rfl) (hd 33 rfl)) rfl (by kernel_rfl) (by kernel_rfl) (by kernel_rfl) (fun _ _ _ _ h => h) ?_
      refine ja_l2 2 [3, 6, 7, 8] (lo_l (ly_fa fld35_1 rfl rfl rfl) (hd 34 rfl)) rfl (by kernel_rfl) (by kernel_rfl) (by kernel_rfl) (by kernel_rfl) (fun _ _ _ _ h => h) ?_
      refine ja_l2 3 [6, 7, 8] (lo_l (ly_ld one33 rfl rfl rfl) (hd 35 rfl)) rfl (by kernel_rfl) (by kernel_rfl) (by kernel_rfl) (by kernel_rfl) (fun _ _ _ _ h => h) ?_
      refine ja_l2 4 [5, 6, 7, 8] (lo_l (ly_fa fld35_1 rfl rfl rfl) (hd 36 rfl)) rfl (by kernel_rfl) (by kernel_rfl) (by kernel_rfl) (by kernel_rfl) (fun _ _ _ _ h => h) ?_
      refine ja_l2 5 [6, 7, 8] (lo_l (ly_ld one33 rfl rfl rfl) (hd 37 rfl)) rfl (by kernel_rfl) (by kernel_rfl) (by kernel_rfl) (by kernel_rfl) (fun _ _ _ _ h => h) ?_
      refine ja_1 6 ?_ rfl (by kernel_rfl)
      refine js_call Try.f65 (rSub_s y.natAbs x.natAbs (cmp_gt (by assumption)) (by show (dg y).length < _; omega) (by show (dg x).length < _; omega)) rfl Try.func65 rfl rfl (ovL_cons rfl (ovL_cons rfl ovL_nil)) (.cons .n (.cons .n .nil)) (hd 38 rfl) ?_ (fun ch hp => by simp at hp)
      rintro y hy; injection hy with hy; subst hy
      refine ja_1 7 ?_ rfl (by kernel_rfl)
      refine js_call Try.f58 (make1_z (decide (y < 0)) (y.natAbs - x.natAbs)) rfl Try.func58 rfl rfl (ovL_cons rfl (ovL_cons rfl ovL_nil)) (.cons .b (.cons .n .nil)) (hd 39 rfl) ?_ (fun ch hp => by simp at hp)
      rintro y hy; injection hy with hy; subst hy
      refine ja_1 8 ?_ rfl (by kernel_rfl)
      refine js_st (sy_store rfl rfl rfl siz35 rfl rfl (Nat.le_of_ble_eq_true rfl)) rfl ?_
      refine ja_nil (by kernel_rfl) ?_
      refine jc_ret ?_
      refine ⟨_, _, (.cons (ResV.cell agg35 rfl rfl rfl rfl) .nil), (.a1 .b (.a1 .n .a0)), ?_⟩
      rw [zadd_lt (by assumption) (by assumption)]

set_option maxHeartbeats 4000000 in
theorem ZSub_s (x y : Int) (hx : (dg x).length < 549755813888) (hy : (dg y).length < 549755813888) : Spec Try.prog 37 [.a [.b (decide (x < 0)), .n false .u64 (dg x)], .a [.b (decide (y < 0)), .n false .u64 (dg y)]] (fun o => o = .ret (.a [.b (decide ((x - y) < 0)), .n false .u64 (dg (x - y))])) := by
  refine spec_of' [(0, .a [.b (decide (x < 0)), .n false .u64 (dg x)]), (1, .a [.b (decide (y < 0)), .n false .u64 (dg y)])] rfl Try.func37 rfl (Nat.le_of_ble_eq_true rfl) fun Γ hN hds hL hR => ?_
  have hd : ∀ d, Nat.blt d 9 = true → d < Γ.N := fun d h => by rw [hN]; exact Nat.le_of_ble_eq_true h
  refine jc_seq ?_
  refine jc_region ?_
  refine jo_h (hy_box (id := 0) (n := 2) rfl rfl rfl (by decide) rfl) (hd 2 rfl) ?_
  refine jo_h (hy_box (id := 1) (n := 2) rfl rfl rfl (by decide) rfl) (hd 3 rfl) ?_
  refine jo_h (hy_alloc (id := 2) zero35 (by decide) rfl (by decide) rfl) (hd 4 rfl) ?_
  refine jo_nil ?_
  refine jc_seq ?_
  refine jc_draw (n := 5) _ rfl mixed ?_
  refine ja_l 0 (lo_l (ly_lda agg35 rfl rfl rfl rfl) (hd 5 rfl)) rfl (by kernel_rfl) (by kernel_rfl) (by kernel_rfl) (fun _ _ _ _ h => h) ?_
  refine ja_l2 1 [2, 3, 4] (lo_l (ly_lda agg35 rfl rfl rfl rfl) (hd 6 rfl)) rfl (by kernel_rfl) (by kernel_rfl) (by kernel_rfl) (by kernel_rfl) (fun _ _ _ _ h => h) ?_
  refine ja_1 2 ?_ rfl (by kernel_rfl)
  refine js_call Try.f48 (ZNeg_s y) rfl Try.func48 rfl rfl (ovL_cons rfl ovL_nil) (.cons (.a1 .b (.a1 .n .a0)) .nil) (hd 7 rfl) ?_ (fun ch hp => by simp at hp)
  rintro y hy; injection hy with hy; subst hy
  refine ja_1 3 ?_ rfl (by kernel_rfl)
  refine js_call Try.f35 (ZAdd_s x (-y) hx (by unfold dg; rw [Int.natAbs_neg]; exact hy)) rfl Try.func35 rfl rfl (ovL_cons rfl (ovL_cons rfl ovL_nil)) (.cons (.a1 .b (.a1 .n .a0)) (.cons (.a1 .b (.a1 .n .a0)) .nil)) (hd 8 rfl) ?_ (fun ch hp => by simp at hp)
  rintro y hy; injection hy with hy; subst hy
  refine ja_1 4 ?_ rfl (by kernel_rfl)
  refine js_st (sy_store rfl rfl rfl siz35 rfl rfl (Nat.le_of_ble_eq_true rfl)) rfl ?_
  refine ja_nil (by kernel_rfl) ?_
  refine jc_ret ?_
  refine ⟨_, _, (.cons (ResV.cell agg35 rfl rfl rfl rfl) .nil), (.a1 .b (.a1 .n .a0)), ?_⟩
  rw [Int.sub_eq_add_neg]

set_option maxHeartbeats 4000000 in
theorem ZMul_s (x y : Int) (hx : (dg x).length < 549755813888) (hy : (dg y).length < 549755813888) : Spec Try.prog 53 [.a [.b (decide (x < 0)), .n false .u64 (dg x)], .a [.b (decide (y < 0)), .n false .u64 (dg y)]] (fun o => o = .ret (.a [.b (decide ((x * y) < 0)), .n false .u64 (dg (x * y))])) := by
  refine spec_of' [(0, .a [.b (decide (x < 0)), .n false .u64 (dg x)]), (1, .a [.b (decide (y < 0)), .n false .u64 (dg y)])] rfl Try.func53 rfl (Nat.le_of_ble_eq_true rfl) fun Γ hN hds hL hR => ?_
  have hd : ∀ d, Nat.blt d 16 = true → d < Γ.N := fun d h => by rw [hN]; exact Nat.le_of_ble_eq_true h
  refine jc_seq ?_
  refine jc_region ?_
  refine jo_h (hy_box (id := 0) (n := 2) rfl rfl rfl (by decide) rfl) (hd 2 rfl) ?_
  refine jo_h (hy_box (id := 1) (n := 2) rfl rfl rfl (by decide) rfl) (hd 3 rfl) ?_
  refine jo_h (hy_alloc (id := 2) zero35 (by decide) rfl (by decide) rfl) (hd 4 rfl) ?_
  refine jo_nil ?_
  refine jc_seq ?_
  refine jc_draw (n := 12) _ rfl mixed ?_
  refine ja_l2 0 [1, 4, 10, 11] (lo_l (ly_fa fld35_0 rfl rfl rfl) (hd 5 rfl)) rfl (by kernel_rfl) (by kernel_rfl) (by kernel_rfl) (by kernel_rfl) (fun _ _ _ _ h => h) ?_
  refine ja_l2 1 [4, 10, 11] (lo_l (ly_ld one4 rfl rfl rfl) (hd 6 rfl)) rfl (by kernel_rfl) (by kernel_rfl) (by kernel_rfl) (by kernel_rfl) (fun _ _ _ _ h => h) ?_
  refine ja_l2 2 [3, 4, 10, 11] (lo_l (ly_fa fld35_0 rfl rfl rfl) (hd 7 rfl)) rfl (by kernel_rfl) (by kernel_rfl) (by kernel_rfl) (by kernel_rfl) (fun _ _ _ _ h => h) ?_
  refine ja_l2 3 [4, 10, 11] (lo_l (ly_ld one4 rfl rfl rfl) (hd 8 rfl)) rfl (by kernel_rfl) (by kernel_rfl) (by kernel_rfl) (by kernel_rfl) (fun _ _ _ _ h => h) ?_
  refine ja_l 4 (lo_l (ly_neb und4 rfl rfl) (hd 9 rfl)) rfl (by kernel_rfl) (by kernel_rfl) (by kernel_rfl) (fun _ _ _ _ h => h) ?_
  refine ja_l2 5 [6, 9, 10, 11] (lo_l (ly_fa fld35_1 rfl rfl rfl) (hd 10 rfl)) rfl (by kernel_rfl) (by kernel_rfl) (by kernel_rfl) (by kernel_rfl) (fun _ _ _ _ h => h) ?_
  refine ja_l2 6 [9, 10, 11] (lo_l (ly_ld one33 rfl rfl rfl) (hd 11 rfl)) rfl (by kernel_rfl) (by kernel_rfl) (by kernel_rfl) (by kernel_rfl) (fun _ _ _ _ h => h) ?_
  refine ja_l2 7 [8, 9, 10, 11] (lo_l (ly_fa fld35_1 rfl rfl rfl) (hd 12 rfl)) rfl (by kernel_rfl) (by kernel_rfl) (by kernel_rfl) (by kernel_rfl) (fun _ _ _ _ h => h) ?_
  refine ja_l2 8 [9, 10, 11] (lo_l (ly_ld one33 rfl rfl rfl) (hd 13 rfl)) rfl (by kernel_rfl) (by kernel_rfl) (by kernel_rfl) (by kernel_rfl) (fun _ _ _ _ h => h) ?_
  refine ja_1 9 ?_ rfl (by kernel_rfl)
  refine js_call Try.f79 (rMul_s x.natAbs y.natAbs hx hy) rfl Try.func79 rfl rfl (ovL_cons rfl (ovL_cons rfl ovL_nil)) (.cons .n (.cons .n .nil)) (hd 14 rfl) ?_ (fun ch hp => by simp at hp)
  rintro y hy; injection hy with hy; subst hy
  refine ja_1 10 ?_ rfl (by kernel_rfl)
  refine js_call Try.f58 (make1_z (!(decide (x < 0) == decide (y < 0))) (x.natAbs * y.natAbs)) rfl Try.func58 rfl rfl (ovL_cons rfl (ovL_cons rfl ovL_nil)) (.cons .b (.cons .n .nil)) (hd 15 rfl) ?_ (fun ch hp => by simp at hp)
  rintro y hy; injection hy with hy; subst hy
  refine ja_1 11 ?_ rfl (by kernel_rfl)
  refine js_st (sy_store rfl rfl rfl siz35 rfl rfl (Nat.le_of_ble_eq_true rfl)) rfl ?_
  refine ja_nil (by kernel_rfl) ?_
  refine jc_ret ?_
  refine ⟨_, _, (.cons (ResV.cell agg35 rfl rfl rfl rfl) .nil), (.a1 .b (.a1 .n .a0)), ?_⟩
  rw [zmul]

set_option maxHeartbeats 4000000 in
theorem ZCmp_s (x y : Int) (hx : (dg x).length < 549755813888) (hy : (dg y).length < 549755813888) : Spec Try.prog 34 [.a [.b (decide (x < 0)), .n false .u64 (dg x)], .a [.b (decide (y < 0)), .n false .u64 (dg y)]] (fun o => o = .ret (.i .i64 (cmpI x y))) := by
  refine spec_of' [(0, .a [.b (decide (x < 0)), .n false .u64 (dg x)]), (1, .a [.b (decide (y < 0)), .n false .u64 (dg y)])] rfl Try.func34 rfl (Nat.le_of_ble_eq_true rfl) fun Γ hN hds hL hR => ?_
  have hd : ∀ d, Nat.blt d 23 = true → d < Γ.N := fun d h => by rw [hN]; exact Nat.le_of_ble_eq_true h
  have hrg := cmpI_rng (x := (x.natAbs : Int)) (y := y.natAbs)
  refine jc_seq ?_
  refine jc_region ?_
  refine jo_h (hy_box (id := 0) (n := 2) rfl rfl rfl (by decide) rfl) (hd 2 rfl) ?_
  refine jo_h (hy_box (id := 1) (n := 2) rfl rfl rfl (by decide) rfl) (hd 3 rfl) ?_
  refine jo_l (ly_as rfl) (hd 4 rfl) ?_
  refine jo_nil ?_
  refine jc_seq ?_
  refine jc_seq ?_
  refine jc_region ?_
  refine jo_l (ly_fa fld35_0 rfl rfl rfl) (hd 6 rfl) ?_
  refine jo_l (ly_ld one4 rfl rfl rfl) (hd 7 rfl) ?_
  refine jo_l (ly_fa fld35_0 rfl rfl rfl) (hd 8 rfl) ?_
  refine jo_l (ly_ld one4 rfl rfl rfl) (hd 9 rfl) ?_
  refine jo_l (ly_neb und4 rfl rfl) (hd 10 rfl) ?_
  refine jo_nil ?_
  refine jc_cond rfl (fun h1 => ?_) (fun h1 => ?_)
  · have hne : ¬ decide (x < 0) = decide (y < 0) := by simpa using h1
    refine jc_seq ?_
    refine jc_seq ?_
    refine jc_region ?_
    refine jo_l (ly_fa fld35_0 rfl rfl rfl) (hd 11 rfl) ?_
    refine jo_l (ly_ld one4 rfl rfl rfl) (hd 12 rfl) ?_
    refine jo_nil ?_
    refine jc_if rfl (fun h2 => ?_) (fun h2 => ?_)
    · refine jc_seq ?_
      refine jc_region ?_
      refine jo_l (ly_as rfl) (hd 4 rfl) ?_
      refine jo_nil ?_
      refine jc_ret ?_
      refine ⟨_, _, (.cons rfl .nil), .i, ?_⟩
      have hy : ¬ y < 0 := fun hy => hne (by rw [decide_eq_true (by assumption), decide_eq_true hy])
      show _ = Out.ret (V.i .i64 (cmpI x y))
      unfold cmpI
      rw [if_pos (by omega)]
    · refine jc_skip ?_
      refine jc_seq ?_
      refine jc_region ?_
      refine jo_l (ly_as rfl) (hd 4 rfl) ?_
      refine jo_nil ?_
      refine jc_ret ?_
      refine ⟨_, _, (.cons rfl .nil), .i, ?_⟩
      have hy : y < 0 := Classical.byContradiction fun hy => hne (by rw [decide_eq_false (by assumption), decide_eq_false hy])
      unfold cmpI
      rw [if_neg (by omega), if_pos (by omega)]
  · have heq : decide (x < 0) = decide (y < 0) := by simpa using h1
    refine jc_skip ?_
    refine jc_seq ?_
    refine jc_region ?_
    refine jo_l (ly_fa fld35_1 rfl rfl rfl) (hd 13 rfl) ?_
    refine jo_l (ly_ld one33 rfl rfl rfl) (hd 14 rfl) ?_
    refine jo_l (ly_fa fld35_1 rfl rfl rfl) (hd 15 rfl) ?_
    refine jo_l (ly_ld one33 rfl rfl rfl) (hd 16 rfl) ?_
    refine jo_call Try.f59 (rCmp_s x.natAbs y.natAbs (by show (dg x).length < _; omega) (by show (dg y).length < _; omega)) rfl Try.func59 rfl rfl (ovL_cons rfl (ovL_cons rfl ovL_nil)) (.cons .n (.cons .n .nil)) (hd 17 rfl) ?_ (fun ch hp => by simp at hp)
    rintro y hy; injection hy with hy; subst hy
    refine jo_l (ly_as rfl) (hd 5 rfl) ?_
    refine jo_nil ?_
    refine jc_seq ?_
    refine jc_seq ?_
    refine jc_region ?_
    refine jo_l (ly_fa fld35_0 rfl rfl rfl) (hd 18 rfl) ?_
    refine jo_l (ly_ld one4 rfl rfl rfl) (hd 19 rfl) ?_
    refine jo_nil ?_
    refine jc_if rfl (fun h3 => ?_) (fun h3 => ?_)
    · refine jc_seq ?_
      refine jc_region ?_
      refine jo_l (ly_mv rfl) (hd 20 rfl) ?_
      refine jo_l (ly_neg rfl (r := -(cmpI (x.natAbs : Int) y.natAbs)) (by rw [wrap_i64 (by omega) (by omega)]; omega)) (hd 21 rfl) ?_
      refine jo_l (ly_as rfl) (hd 4 rfl) ?_
      refine jo_nil ?_
      refine jc_ret ?_
      refine ⟨_, _, (.cons rfl .nil), .i, ?_⟩
      have hy : y < 0 := of_decide_eq_true (by rw [← heq]; exact decide_eq_true (by assumption))
      rw [cmp_abs_neg (by assumption) hy]
    · refine jc_skip ?_
      refine jc_seq ?_
      refine jc_region ?_
      refine jo_l (ly_mv rfl) (hd 22 rfl) ?_
      refine jo_l (ly_as rfl) (hd 4 rfl) ?_
      refine jo_nil ?_
      refine jc_ret ?_
      refine ⟨_, _, (.cons rfl .nil), .i, ?_⟩
      have hy : ¬ y < 0 := of_decide_eq_false (by rw [← heq]; exact decide_eq_false (by assumption))
      rw [cmp_abs_pos (by assumption) hy]

set_option maxHeartbeats 4000000 in
theorem ZSign_s (v : Int) : Spec Try.prog 13 [.a [.b (decide (v < 0)), .n false .u64 (dg v)]] (fun o => o = .ret (.i .i64 (sgnI v))) := by
  refine spec_of' [(0, .a [.b (decide (v < 0)), .n false .u64 (dg v)])] rfl Try.func13 rfl (Nat.le_of_ble_eq_true rfl) fun Γ hN hds hL hR => ?_
  have hd : ∀ d, Nat.blt d 8 = true → d < Γ.N := fun d h => by rw [hN]; exact Nat.le_of_ble_eq_true h
  have hc := sgn_cases (x := v)
  have hz := dg_lenv (v := v)
  refine jc_seq ?_
  refine jc_region ?_
  refine jo_h (hy_box (id := 0) (n := 2) rfl rfl rfl (by decide) rfl) (hd 1 rfl) ?_
  refine jo_l (ly_as rfl) (hd 2 rfl) ?_
  refine jo_nil ?_
  refine jc_seq ?_
  refine jc_seq ?_
  refine jc_region ?_
  refine jo_l (ly_fa fld35_0 rfl rfl rfl) (hd 3 rfl) ?_
  refine jo_l (ly_ld one4 rfl rfl rfl) (hd 4 rfl) ?_
  refine jo_nil ?_
  refine jc_if rfl (fun h1 => ?_) (fun h1 => ?_)
  · refine jc_seq ?_
    refine jc_region ?_
    refine jo_l (ly_as rfl) (hd 2 rfl) ?_
    refine jo_nil ?_
    refine jc_ret ?_
    refine ⟨_, _, (.cons rfl .nil), .i, ?_⟩
    rcases hc with ⟨h, e⟩ | ⟨h, e⟩ | ⟨h, e⟩
    · rw [e]
    · omega
    · omega
  · refine jc_skip ?_
    refine jc_seq ?_
    refine jc_seq ?_
    refine jc_region ?_
    refine jo_l (ly_fa fld35_1 rfl rfl rfl) (hd 5 rfl) ?_
    refine jo_l (ly_ld one33 rfl rfl rfl) (hd 6 rfl) ?_
    refine jo_call Try.f56 (Zero_s (dg v)) rfl Try.func56 rfl rfl (ovL_cons rfl ovL_nil) (.cons .n .nil) (hd 7 rfl) ?_ (fun ch hp => by simp at hp)
    rintro y hy; injection hy with hy; subst hy
    refine jo_nil ?_
    refine jc_if rfl (fun h2 => ?_) (fun h2 => ?_)
    · refine jc_seq ?_
      refine jc_region ?_
      refine jo_l (ly_as rfl) (hd 2 rfl) ?_
      refine jo_nil ?_
      refine jc_ret ?_
      refine ⟨_, _, (.cons rfl .nil), .i, ?_⟩
      rcases hc with ⟨h, e⟩ | ⟨h, e⟩ | ⟨h, e⟩
      · omega
      · rw [e]
      · omega
    · refine jc_skip ?_
      refine jc_seq ?_
      refine jc_region ?_
      refine jo_l (ly_as rfl) (hd 2 rfl) ?_
      refine jo_nil ?_
      refine jc_ret ?_
      refine ⟨_, _, (.cons rfl .nil), .i, ?_⟩
      rcases hc with ⟨h, e⟩ | ⟨h, e⟩ | ⟨h, e⟩
      · omega
      · omega
      · rw [e]

theorem ZIs_v (v : Int) (hl : (dg v).length < 4294967296) : Spec Try.prog 45 [.a [.b (decide (v < 0)), .n false .u64 (dg v)], .b (decide (v < 0)), .n false .u64 (lm v)] (fun o => o = .ret (.b true)) := by
  have h := ZIs_s (decide (v < 0)) (dg v) hl
  rw [lims_dg] at h
  exact h

set_option maxHeartbeats 4000000 in
theorem alike_ok (v : Int) (h : lenV v ≤ 67108864) : Spec Try.prog 47 [.a [.b (decide (v < 0)), .n false .u64 (lm v)], .i .i64 0, .a [.b (decide (v < 0)), .n false .u64 (dg v)], .i .i64 0] (fun o => o = .ret (.b true)) := by
  refine spec_of' [(0, .a [.b (decide (v < 0)), .n false .u64 (lm v)]), (1, .i .i64 0), (2, .a [.b (decide (v < 0)), .n false .u64 (dg v)]), (3, .i .i64 0)] rfl Try.func47 rfl (Nat.le_of_ble_eq_true rfl) fun Γ hN hds hL hR => ?_
  have hd : ∀ d, Nat.blt d 45 = true → d < Γ.N := fun d h => by rw [hN]; exact Nat.le_of_ble_eq_true h
  have hl := lenV_dg h
  refine jc_seq ?_
  refine jc_region ?_
  refine jo_h (hy_box (id := 0) (n := 2) rfl rfl rfl (by decide) rfl) (hd 4 rfl) ?_
  refine jo_h (hy_box (id := 1) (n := 2) rfl rfl rfl (by decide) rfl) (hd 6 rfl) ?_
  refine jo_l (ly_as rfl) (hd 8 rfl) ?_
  refine jo_nil ?_
  refine jc_seq ?_
  refine jc_seq ?_
  refine jc_region ?_
  refine jo_l (ly_mv rfl) (hd 9 rfl) ?_
  refine jo_l (ly_tt (ly_eq rfl rfl) rfl) (hd 10 rfl) ?_
  refine jo_l (ly_mv rfl) (hd 11 rfl) ?_
  refine jo_g 11 rfl rfl (ly_fa fld35_1 rfl rfl rfl) (hd 12 rfl) ?_
  refine jo_g 11 rfl rfl (ly_ld one33 rfl rfl rfl) (hd 13 rfl) ?_
  refine jo_callg Try.f29 11 rfl rfl (Len_s v (by omega)) rfl Try.func29 rfl rfl (ovL_cons rfl ovL_nil) (.cons .n .nil) (hd 14 rfl) ?_ (fun ch hp => by simp at hp)
  rintro y hy; injection hy with hy; subst hy
  refine jo_g 11 rfl rfl (ly_ff (ly_gt rfl rfl) (by omega)) (hd 15 rfl) ?_
  refine jo_l (ly_pick_t rfl rfl) (hd 16 rfl) ?_
  refine jo_nil ?_
  refine jc_litf rfl ?_
  refine jc_skip ?_
  refine jc_seq ?_
  refine jc_seq ?_
  refine jc_region ?_
  refine jo_l (ly_mv rfl) (hd 17 rfl) ?_
  refine jo_l (ly_ff (ly_ne rfl rfl) (fun h => h rfl)) (hd 18 rfl) ?_
  refine jo_nil ?_
  refine jc_litf rfl ?_
  refine jc_skip ?_
  refine jc_seq ?_
  refine jc_region ?_
  refine jo_l (ly_mv rfl) (hd 34 rfl) ?_
  refine jo_call Try.f9 (num_s 0) rfl Try.func9 rfl rfl (ovL_cons rfl ovL_nil) (.cons .i .nil) (hd 35 rfl) ?_ (fun ch hp => by simp at hp)
  rintro y hy; injection hy with hy; subst hy
  refine jo_l (ly_tt (ly_eq rfl rfl) rfl) (hd 36 rfl) ?_
  refine jo_l (ly_mv rfl) (hd 37 rfl) ?_
  refine jo_g 37 rfl rfl (ly_lda agg35 rfl rfl rfl rfl) (hd 38 rfl) ?_
  refine jo_g 37 rfl rfl (ly_fa fld30_0 rfl rfl rfl) (hd 39 rfl) ?_
  refine jo_g 37 rfl rfl (ly_ld one4 rfl rfl rfl) (hd 40 rfl) ?_
  refine jo_g 37 rfl rfl (ly_fa fld30_1 rfl rfl rfl) (hd 41 rfl) ?_
  refine jo_g 37 rfl rfl (ly_ld one28 rfl rfl rfl) (hd 42 rfl) ?_
  refine jo_callg Try.f45 37 rfl rfl (ZIs_v v (by omega)) rfl Try.func45 rfl rfl (ovL_cons rfl (ovL_cons rfl (ovL_cons rfl ovL_nil))) (.cons (.a1 .b (.a1 .n .a0)) (.cons .b (.cons .n .nil))) (hd 43 rfl) ?_ (fun ch hp => by simp at hp)
  rintro y hy; injection hy with hy; subst hy
  refine jo_l (ly_pick_t rfl rfl) (hd 44 rfl) ?_
  refine jo_l (ly_as rfl) (hd 8 rfl) ?_
  refine jo_nil ?_
  refine jc_ret ?_
  refine ⟨_, _, (.cons rfl .nil), .b, ?_⟩
  exact rfl

set_option maxHeartbeats 4000000 in
theorem alike_big (v : Int) (h : 67108864 < lenV v) (hl : (dg v).length < 1099511627776) : Spec Try.prog 47 [.a [.b false, .n false .u64 []], .i .i64 3, .a [.b (decide (v < 0)), .n false .u64 (dg v)], .i .i64 0] (fun o => o = .ret (.b true)) := by
  refine spec_of' [(0, .a [.b false, .n false .u64 []]), (1, .i .i64 3), (2, .a [.b (decide (v < 0)), .n false .u64 (dg v)]), (3, .i .i64 0)] rfl Try.func47 rfl (Nat.le_of_ble_eq_true rfl) fun Γ hN hds hL hR => ?_
  have hd : ∀ d, Nat.blt d 45 = true → d < Γ.N := fun d h => by rw [hN]; exact Nat.le_of_ble_eq_true h
  refine jc_seq ?_
  refine jc_region ?_
  refine jo_h (hy_box (id := 0) (n := 2) rfl rfl rfl (by decide) rfl) (hd 4 rfl) ?_
  refine jo_h (hy_box (id := 1) (n := 2) rfl rfl rfl (by decide) rfl) (hd 6 rfl) ?_
  refine jo_l (ly_as rfl) (hd 8 rfl) ?_
  refine jo_nil ?_
  refine jc_seq ?_
  refine jc_seq ?_
  refine jc_region ?_
  refine jo_l (ly_mv rfl) (hd 9 rfl) ?_
  refine jo_l (ly_tt (ly_eq rfl rfl) rfl) (hd 10 rfl) ?_
  refine jo_l (ly_mv rfl) (hd 11 rfl) ?_
  refine jo_g 11 rfl rfl (ly_fa fld35_1 rfl rfl rfl) (hd 12 rfl) ?_
  refine jo_g 11 rfl rfl (ly_ld one33 rfl rfl rfl) (hd 13 rfl) ?_
  refine jo_callg Try.f29 11 rfl rfl (Len_s v hl) rfl Try.func29 rfl rfl (ovL_cons rfl ovL_nil) (.cons .n .nil) (hd 14 rfl) ?_ (fun ch hp => by simp at hp)
  rintro y hy; injection hy with hy; subst hy
  refine jo_g 11 rfl rfl (ly_tt (ly_gt rfl rfl) (by omega)) (hd 15 rfl) ?_
  refine jo_l (ly_pick_t rfl rfl) (hd 16 rfl) ?_
  refine jo_nil ?_
  refine jc_litt rfl ?_
  refine jc_region ?_
  refine jo_l (ly_as rfl) (hd 3 rfl) ?_
  refine jo_nil ?_
  refine jc_seq ?_
  refine jc_seq ?_
  refine jc_region ?_
  refine jo_l (ly_mv rfl) (hd 17 rfl) ?_
  refine jo_l (ly_tt (ly_ne rfl rfl) (by decide)) (hd 18 rfl) ?_
  refine jo_nil ?_
  refine jc_litt rfl ?_
  refine jc_seq ?_
  refine jc_region ?_
  refine jo_l (ly_mv rfl) (hd 19 rfl) ?_
  refine jo_call Try.f9 (num_s 3) rfl Try.func9 rfl rfl (ovL_cons rfl ovL_nil) (.cons .i .nil) (hd 20 rfl) ?_ (fun ch hp => by simp at hp)
  rintro y hy; injection hy with hy; subst hy
  refine jo_l (ly_mv rfl) (hd 21 rfl) ?_
  refine jo_l (ly_tt (ly_eq rfl rfl) rfl) (hd 22 rfl) ?_
  refine jo_l (ly_mv rfl) (hd 23 rfl) ?_
  refine jo_g 23 rfl rfl (ly_fa fld30_0 rfl rfl rfl) (hd 24 rfl) ?_
  refine jo_g 23 rfl rfl (ly_ld one4 rfl rfl rfl) (hd 25 rfl) ?_
  refine jo_g 23 rfl rfl (ly_not rfl) (hd 26 rfl) ?_
  refine jo_l (ly_pick_t rfl rfl) (hd 27 rfl) ?_
  refine jo_l (ly_mv rfl) (hd 28 rfl) ?_
  refine jo_g 28 rfl rfl (ly_fa fld30_1 rfl rfl rfl) (hd 29 rfl) ?_
  refine jo_g 28 rfl rfl (ly_ld one28 rfl rfl rfl) (hd 30 rfl) ?_
  refine jo_g 28 rfl rfl (ly_lenn sl28 rfl) (hd 31 rfl) ?_
  refine jo_g 28 rfl rfl (ly_tt (ly_eq rfl rfl) rfl) (hd 32 rfl) ?_
  refine jo_l (ly_pick_t rfl rfl) (hd 33 rfl) ?_
  refine jo_l (ly_as rfl) (hd 8 rfl) ?_
  refine jo_nil ?_
  refine jc_ret ?_
  refine ⟨_, _, (.cons rfl .nil), .b, ?_⟩
  exact rfl

set_option maxHeartbeats 4000000 in
theorem alike_err (v f : Int) (h : f ≠ 0) : Spec Try.prog 47 [.a [.b false, .n false .u64 []], .i .i64 f, .a [.b (decide (v < 0)), .n false .u64 (dg v)], .i .i64 f] (fun o => o = .ret (.b true)) := by
  refine spec_of' [(0, .a [.b false, .n false .u64 []]), (1, .i .i64 f), (2, .a [.b (decide (v < 0)), .n false .u64 (dg v)]), (3, .i .i64 f)] rfl Try.func47 rfl (Nat.le_of_ble_eq_true rfl) fun Γ hN hds hL hR => ?_
  have hd : ∀ d, Nat.blt d 45 = true → d < Γ.N := fun d h => by rw [hN]; exact Nat.le_of_ble_eq_true h
  refine jc_seq ?_
  refine jc_region ?_
  refine jo_h (hy_box (id := 0) (n := 2) rfl rfl rfl (by decide) rfl) (hd 4 rfl) ?_
  refine jo_h (hy_box (id := 1) (n := 2) rfl rfl rfl (by decide) rfl) (hd 6 rfl) ?_
  refine jo_l (ly_as rfl) (hd 8 rfl) ?_
  refine jo_nil ?_
  refine jc_seq ?_
  refine jc_seq ?_
  refine jc_region ?_
  refine jo_l (ly_mv rfl) (hd 9 rfl) ?_
  refine jo_l (ly_ff (ly_eq rfl rfl) h) (hd 10 rfl) ?_
  refine jo_l (ly_mv rfl) (hd 11 rfl) ?_
  refine jo_s 11 rfl rfl rfl (hd 12 rfl) ?_
  refine jo_s 11 rfl rfl rfl (hd 13 rfl) ?_
  refine jo_s 11 rfl rfl rfl (hd 14 rfl) ?_
  refine jo_s 11 rfl rfl rfl (hd 15 rfl) ?_
  refine jo_l (ly_pick_f rfl rfl) (hd 16 rfl) ?_
  refine jo_nil ?_
  refine jc_litf rfl ?_
  refine jc_skip ?_
  refine jc_seq ?_
  refine jc_seq ?_
  refine jc_region ?_
  refine jo_l (ly_mv rfl) (hd 17 rfl) ?_
  refine jo_l (ly_tt (ly_ne rfl rfl) h) (hd 18 rfl) ?_
  refine jo_nil ?_
  refine jc_litt rfl ?_
  refine jc_seq ?_
  refine jc_region ?_
  refine jo_l (ly_mv rfl) (hd 19 rfl) ?_
  refine jo_call Try.f9 (num_s f) rfl Try.func9 rfl rfl (ovL_cons rfl ovL_nil) (.cons .i .nil) (hd 20 rfl) ?_ (fun ch hp => by simp at hp)
  rintro y hy; injection hy with hy; subst hy
  refine jo_l (ly_mv rfl) (hd 21 rfl) ?_
  refine jo_l (ly_tt (ly_eq rfl rfl) rfl) (hd 22 rfl) ?_
  refine jo_l (ly_mv rfl) (hd 23 rfl) ?_
  refine jo_g 23 rfl rfl (ly_fa fld30_0 rfl rfl rfl) (hd 24 rfl) ?_
  refine jo_g 23 rfl rfl (ly_ld one4 rfl rfl rfl) (hd 25 rfl) ?_
  refine jo_g 23 rfl rfl (ly_not rfl) (hd 26 rfl) ?_
  refine jo_l (ly_pick_t rfl rfl) (hd 27 rfl) ?_
  refine jo_l (ly_mv rfl) (hd 28 rfl) ?_
  refine jo_g 28 rfl rfl (ly_fa fld30_1 rfl rfl rfl) (hd 29 rfl) ?_
  refine jo_g 28 rfl rfl (ly_ld one28 rfl rfl rfl) (hd 30 rfl) ?_
  refine jo_g 28 rfl rfl (ly_lenn sl28 rfl) (hd 31 rfl) ?_
  refine jo_g 28 rfl rfl (ly_tt (ly_eq rfl rfl) rfl) (hd 32 rfl) ?_
  refine jo_l (ly_pick_t rfl rfl) (hd 33 rfl) ?_
  refine jo_l (ly_as rfl) (hd 8 rfl) ?_
  refine jo_nil ?_
  refine jc_ret ?_
  refine ⟨_, _, (.cons rfl .nil), .b, ?_⟩
  exact rfl

theorem alike_s (v : Int) (s : Bool) (r : List Int) (e : Int) (h : Res v s r e) (hl : (dg v).length < 1099511627776) : Spec Try.prog 47 [.a [.b s, .n false .u64 r], .i .i64 e, .a [.b (decide (v < 0)), .n false .u64 (dg v)], .i .i64 0] (fun o => o = .ret (.b true)) := by
  rcases h with ⟨h1, rfl, rfl, rfl⟩ | ⟨h1, rfl, rfl, rfl⟩
  · exact alike_ok v h1
  · exact alike_big v h1 hl
end Go.Proofs.Ytcdipmjgpimmdaa.Vc

/- Contracts of the references' Bit, Tail; ints: nat.Small, whole.Int, Of. -/
set_option linter.unusedVariables false
set_option linter.unusedSimpArgs false
namespace Go.Proofs.Ytcdipmjgpimmdaa.Vc
open Go Go.RowKit
theorem jc_drawb {P : Program} {Γ : Ctx} {F : Fr} {H : List Ob} {Q : Exit → Fr → List Ob → Prop} {id n : Nat} (l1 l2 : List Oper) (hn : l1.length + l2.length = n) (hm : P.follows .mixedOrders = true) (h : JA P (l1 ++ l2).toArray n (Array.replicate n false) Γ F H Q) : JC P (.region id (Array.append l1.toArray l2.toArray) true) Γ F H Q := by
  have e : Array.append l1.toArray l2.toArray = (l1 ++ l2).toArray := List.append_toArray l1 l2
  rw [e]
  exact jc_draw _ (by simp [hn]) hm h

set_option maxHeartbeats 4000000 in
theorem Bit_s (x i : Nat) (hx : (digs B32 x).length < 1099511627776) (hi : i < 1099511627776) : Spec Try.prog 61 [.n false .u64 (digs B32 x), .i .i64 (i : Int)] (fun o => o = .ret (.i .i64 ((x / 2 ^ i % 2 : Nat) : Int))) := by
  refine spec_of' [(0, .n false .u64 (digs B32 x)), (1, .i .i64 (i : Int))] rfl Try.func61 rfl (Nat.le_of_ble_eq_true rfl) fun Γ hN hds hL hR => ?_
  have hd : ∀ d, Nat.blt d 24 = true → d < Γ.N := fun d h => by rw [hN]; exact Nat.le_of_ble_eq_true h
  have hm1 : (x / B32 ^ (i / 32) % B32) < 4294967296 := Nat.mod_lt _ (by decide)
  have hm2 : (x / B32 ^ (i / 32) % B32) / 2 ^ (i % 32) ≤ (x / B32 ^ (i / 32) % B32) := Nat.div_le_self _ _
  refine jc_seq ?_
  refine jc_region ?_
  refine jo_l (ly_as rfl) (hd 4 rfl) ?_
  refine jo_nil ?_
  refine jc_seq ?_
  refine jc_seq ?_
  refine jc_region ?_
  refine jo_l (ly_mv rfl) (hd 5 rfl) ?_
  refine jo_l (ly_ff (ly_lt rfl rfl) (by omega)) (hd 6 rfl) ?_
  refine jo_l (ly_mv rfl) (hd 7 rfl) ?_
  refine jo_g 7 rfl rfl (ly_mv rfl) (hd 8 rfl) ?_
  refine jo_g 7 rfl rfl (ly_quo rfl rfl (by decide) (r := ((i / 32 : Nat) : Int)) (by rw [show ((i : Int).tdiv 32) = ((i / 32 : Nat) : Int) from rfl, wrap_i64 (by omega) (by omega)])) (hd 9 rfl) ?_
  refine jo_g 7 rfl rfl (ly_mv rfl) (hd 10 rfl) ?_
  refine jo_g 7 rfl rfl (ly_lenn sl33 rfl) (hd 11 rfl) ?_
  refine jo_g 7 rfl rfl (ly_ge rfl rfl) (hd 12 rfl) ?_
  refine jo_l (ly_pick_f rfl rfl) (hd 13 rfl) ?_
  refine jo_nil ?_
  refine jc_if rfl (fun h1 => ?_) (fun h1 => ?_)
  · refine jc_seq ?_
    refine jc_region ?_
    refine jo_l (ly_as rfl) (hd 4 rfl) ?_
    refine jo_nil ?_
    refine jc_ret ?_
    refine ⟨_, _, (.cons rfl .nil), .i, ?_⟩
    rw [bit_out (by omega)]
    rfl
  · refine jc_skip ?_
    refine jc_seq ?_
    refine jc_region ?_
    refine jo_l (ly_mv rfl) (hd 14 rfl) ?_
    refine jo_l (ly_mv rfl) (hd 15 rfl) ?_
    refine jo_l (ly_quo rfl rfl (by decide) (r := ((i / 32 : Nat) : Int)) (by rw [show ((i : Int).tdiv 32) = ((i / 32 : Nat) : Int) from rfl, wrap_i64 (by omega) (by omega)])) (hd 16 rfl) ?_
    refine jo_l (ly_ian (i := i / 32) sl33 rfl rfl (by first | rfl | omega) (by omega)) (hd 17 rfl) ?_
    refine jo_l (ly_is (ly_ldq one82 rfl rfl) (by exact congrArg (V.i .u64) (digs_at (by decide) (i / 32) x))) (hd 18 rfl) ?_
    refine jo_l (ly_mv rfl) (hd 19 rfl) ?_
    refine jo_l (ly_is (ly_rem rfl rfl (by decide) rfl) (show V.i .i64 ((i : Int).tmod 32) = V.i .i64 ((i % 32 : Nat) : Int) from rfl)) (hd 20 rfl) ?_
    refine jo_l (ly_is (ly_shr rfl rfl (by omega) rfl) (by exact congrArg (V.i .u64) (shr_nat (k := 2 ^ (i % 32)) (by rw [Int.toNat_natCast, Nat.min_eq_left (by have h : IntKind.u64.bits = 64 := rfl; omega)])))) (hd 21 rfl) ?_
    refine jo_l (ly_is (ly_bit (by simp) rfl rfl rfl) (by exact congrArg (V.i .u64) (and1 (by omega)))) (hd 22 rfl) ?_
    refine jo_l (ly_conv und82 und3 rfl (wrap_i64 (by omega) (by omega))) (hd 23 rfl) ?_
    refine jo_l (ly_as rfl) (hd 4 rfl) ?_
    refine jo_nil ?_
    refine jc_ret ?_
    refine ⟨_, _, (.cons rfl .nil), .i, ?_⟩
    rw [bit_digit]

set_option maxHeartbeats 4000000 in
theorem Tail_s (x : Nat) (hx0 : x ≠ 0) (hx : (digs B32 x).length < 1073741824) : Spec Try.prog 44 [.n false .u64 (digs B32 x)] (fun o => ∃ t : Nat, o = .ret (.i .i64 (t : Int)) ∧ Tz x t) := by
  refine spec_of' [(0, .n false .u64 (digs B32 x))] rfl Try.func44 rfl (Nat.le_of_ble_eq_true rfl) fun Γ hN hds hL hR => ?_
  have hd : ∀ d, Nat.blt d 14 = true → d < Γ.N := fun d h => by rw [hN]; exact Nat.le_of_ble_eq_true h
  refine jc_seq ?_
  refine jc_region ?_
  refine jo_l (ly_as rfl) (hd 2 rfl) ?_
  refine jo_nil ?_
  refine jc_seq ?_
  refine jc_seq ?_
  refine jc_region ?_
  refine jo_l (ly_mv rfl) (hd 4 rfl) ?_
  refine jo_l (ly_lenn sl33 rfl) (hd 5 rfl) ?_
  refine jo_l (ly_eq rfl rfl) (hd 6 rfl) ?_
  refine jo_nil ?_
  refine jc_if rfl (fun h1 => ?_) (fun h1 => ?_)
  · exact absurd (digs_nil.1 (List.eq_nil_of_length_eq_zero (by omega))) hx0
  · refine jc_skip ?_
    refine jc_seq ?_
    refine jc_region ?_
    refine jo_l (ly_as rfl) (hd 3 rfl) ?_
    refine jo_nil ?_
    refine jc_seq ?_
    refine jc_block ?_
    refine jc_loopF (G := Nat) (fun n => 2 ^ n ∣ x) (fun n => [(3, .i .i64 (n : Int)), (7, .u), (8, .u), (9, .u), (10, .u), (11, .u), (12, .u)]) (fun _ => _) (fun n => 32 * (digs B32 x).length - n) 0 ?_ ?_ rfl ?_
    · exact ⟨x, by rw [Nat.pow_zero, Nat.one_mul]⟩
    · exact (.cons rfl (.u (.u (.u (.u (.u (.u .nil)))))))
    · rintro n hc1
      have hn := bit_lt hx0 hc1
      refine jc_seq ?_
      refine jc_seq ?_
      refine jc_region ?_
      refine jo_l (ly_mv rfl) (hd 7 rfl) ?_
      refine jo_l (ly_mv rfl) (hd 8 rfl) ?_
      refine jo_call Try.f61 (Bit_s x n (by omega) (by omega)) rfl Try.func61 rfl rfl (ovL_cons rfl (ovL_cons rfl ovL_nil)) (.cons .n (.cons .i .nil)) (hd 9 rfl) ?_ (fun ch hp => by simp at hp)
      rintro y hy; injection hy with hy; subst hy
      refine jo_l (ly_eq rfl rfl) (hd 10 rfl) ?_
      refine jo_nil ?_
      refine jc_if rfl (fun h2 => ?_) (fun h2 => ?_)
      · refine jc_skip ?_
        refine jc_block ?_
        refine jc_region ?_
        refine jo_l (ly_mv rfl) (hd 11 rfl) ?_
        refine jo_l (ly_add rfl rfl (wrap_i64 (by omega) (by omega))) (hd 12 rfl) ?_
        refine jo_l (ly_as rfl) (hd 3 rfl) ?_
        refine jo_nil ?_
        refine ⟨n + 1, ?_, ?_, rfl, cov_n 14 rfl rfl ?_⟩
        · exact bit_dvd hc1 (by omega)
        · omega
        · exact (.cons rfl (.u (.u (.u (.u (.u (.u .nil)))))))
      · refine jc_exit ?_
        refine jc_seq ?_
        refine jc_region ?_
        refine jo_l (ly_mv rfl) (hd 13 rfl) ?_
        refine jo_l (ly_as rfl) (hd 2 rfl) ?_
        refine jo_nil ?_
        refine jc_ret ?_
        refine ⟨_, _, (.cons rfl .nil), .i, ?_⟩
        exact ⟨n, rfl, hc1, by omega⟩

set_option maxHeartbeats 4000000 in
theorem Small_s (l : List Int) (hl : l.length < 1099511627776) (hu : u64s l) : Spec Try.prog 68 [.n false .u64 l] (fun o => ∃ (x : Int) (b : Bool), o = .ret (.t [.i .u64 x, .b b]) ∧ ((b = true ∧ x = vl l ∧ vl l < 18446744073709551616) ∨ (b = false ∧ x = 0 ∧ 18446744073709551616 ≤ vl l))) := by
  refine spec_of' [(0, .n false .u64 l)] rfl Try.func68 rfl (Nat.le_of_ble_eq_true rfl) fun Γ hN hds hL hR => ?_
  have hd : ∀ d, Nat.blt d 15 = true → d < Γ.N := fun d h => by rw [hN]; exact Nat.le_of_ble_eq_true h
  have hm := trm_len l
  have hlt := vl_lt (u64s_trm hu)
  have hp1 : pB 1 = 18446744073709551616 := by decide
  refine jc_seq ?_
  refine jc_region ?_
  refine jo_l (ly_as rfl) (hd 2 rfl) ?_
  refine jo_l (ly_as rfl) (hd 3 rfl) ?_
  refine jo_nil ?_
  refine jc_seq ?_
  refine jc_region ?_
  refine jo_l (ly_mv rfl) (hd 4 rfl) ?_
  refine jo_call Try.f84 (trim_s l (by omega)) rfl Try.func84 rfl rfl (ovL_cons rfl ovL_nil) (.cons .n .nil) (hd 5 rfl) ?_ (fun ch hp => by simp at hp)
  rintro y hy; injection hy with hy; subst hy
  refine jo_l (ly_as rfl) (hd 0 rfl) ?_
  refine jo_nil ?_
  refine jc_seq ?_
  refine jc_seq ?_
  refine jc_region ?_
  refine jo_l (ly_mv rfl) (hd 6 rfl) ?_
  refine jo_l (ly_lenn sl28 rfl) (hd 7 rfl) ?_
  refine jo_nil ?_
  refine jc_block ?_
  refine jc_seq ?_
  refine jc_region ?_
  refine jo_l (ly_eq rfl rfl) (hd 9 rfl) ?_
  refine jo_l (ly_as rfl) (hd 8 rfl) ?_
  refine jo_nil ?_
  refine jc_if rfl (fun h1 => ?_) (fun h1 => ?_)
  · refine jc_seq ?_
    refine jc_region ?_
    refine jo_l (ly_as rfl) (hd 2 rfl) ?_
    refine jo_l (ly_as rfl) (hd 3 rfl) ?_
    refine jo_nil ?_
    refine jc_ret ?_
    refine ⟨_, _, (.cons rfl (.cons rfl .nil)), (.t1 .i (.t1 .b .t0)), ?_⟩
    exact ⟨0, true, rfl, .inl ⟨rfl, (small0 (by assumption)).symm, by rw [small0 (by assumption)]; decide⟩⟩
  · refine jc_seq ?_
    refine jc_region ?_
    refine jo_l (ly_eq rfl rfl) (hd 11 rfl) ?_
    refine jo_l (ly_as rfl) (hd 10 rfl) ?_
    refine jo_nil ?_
    refine jc_if rfl (fun h2 => ?_) (fun h2 => ?_)
    · refine jc_seq ?_
      refine jc_region ?_
      refine jo_l (ly_mv rfl) (hd 12 rfl) ?_
      refine jo_l (ly_ian (i := 0) sl28 rfl rfl rfl (by omega)) (hd 13 rfl) ?_
      refine jo_l (ly_ldq one82 rfl rfl) (hd 14 rfl) ?_
      refine jo_l (ly_as rfl) (hd 2 rfl) ?_
      refine jo_l (ly_as rfl) (hd 3 rfl) ?_
      refine jo_nil ?_
      refine jc_ret ?_
      refine ⟨_, _, (.cons rfl (.cons rfl .nil)), (.t1 .i (.t1 .b .t0)), ?_⟩
      exact ⟨_, true, rfl, .inl ⟨rfl, small1 (by assumption), by rw [vl_trm, show (trm l).length = 1 by omega, hp1] at hlt; exact hlt⟩⟩
    · refine jc_skip ?_
      refine jc_seq ?_
      refine jc_region ?_
      refine jo_l (ly_as rfl) (hd 2 rfl) ?_
      refine jo_l (ly_as rfl) (hd 3 rfl) ?_
      refine jo_nil ?_
      refine jc_ret ?_
      refine ⟨_, _, (.cons rfl (.cons rfl .nil)), (.t1 .i (.t1 .b .t0)), ?_⟩
      exact ⟨0, false, rfl, .inr ⟨rfl, rfl, small2 hu (by assumption) (by assumption)⟩⟩

set_option maxHeartbeats 4000000 in
theorem WInt_s (s : Bool) (l : List Int) (v : Int) (hl : l.length < 1099511627776) (hu : u64s l) (hv : sv s l = v) : Spec Try.prog 39 [.a [.b s, .n false .u64 l]] (fun o => ∃ (i e : Int), o = .ret (.t [.i .i64 i, .i .i64 e]) ∧ ((inI v ∧ i = v ∧ e = 0) ∨ (¬ inI v ∧ i = 0 ∧ e = 60))) := by
  refine spec_of' [(0, .a [.b s, .n false .u64 l])] rfl Try.func39 rfl (Nat.le_of_ble_eq_true rfl) fun Γ hN hds hL hR => ?_
  have hd : ∀ d, Nat.blt d 38 = true → d < Γ.N := fun d h => by rw [hN]; exact Nat.le_of_ble_eq_true h
  have hv2 := sv_in hu hv
  have hIv : inI v ↔ (-9223372036854775808 ≤ v ∧ v < 9223372036854775808) := Iff.rfl
  refine jc_seq ?_
  refine jc_region ?_
  refine jo_h (hy_box (id := 0) (n := 2) rfl rfl rfl (by decide) rfl) (hd 1 rfl) ?_
  refine jo_l (ly_as rfl) (hd 2 rfl) ?_
  refine jo_l (ly_as rfl) (hd 3 rfl) ?_
  refine jo_nil ?_
  refine jc_seq ?_
  refine jc_region ?_
  refine jo_l (ly_fa fld30_1 rfl rfl rfl) (hd 7 rfl) ?_
  refine jo_l (ly_ld one28 rfl rfl rfl) (hd 8 rfl) ?_
  refine jo_call Try.f68 (Small_s l hl hu) rfl Try.func68 rfl rfl (ovL_cons rfl ovL_nil) (.cons .n .nil) (hd 9 rfl) ?_ (fun ch hp => by simp at hp)
  rintro y ⟨xs, bs, hy, hxs⟩
  injection hy with hy
  subst hy
  refine jo_l (ly_mv rfl) (hd 6 rfl) ?_
  refine jo_l (ly_ext rfl rfl) (hd 10 rfl) ?_
  refine jo_l (ly_ext rfl rfl) (hd 11 rfl) ?_
  refine jo_l (ly_as rfl) (hd 4 rfl) ?_
  refine jo_l (ly_as rfl) (hd 5 rfl) ?_
  refine jo_nil ?_
  refine jc_seq ?_
  refine jc_block ?_
  refine jc_seq ?_
  refine jc_region ?_
  refine jo_l (ly_mv rfl) (hd 13 rfl) ?_
  refine jo_l (ly_mv rfl) (hd 14 rfl) ?_
  refine jo_split 14 rfl (fun h1 => ?_) (fun h1 => ?_)
  · refine jo_g 14 rfl rfl (ly_fa fld30_0 rfl rfl rfl) (hd 15 rfl) ?_
    refine jo_g 14 rfl rfl (ly_ld one4 rfl rfl rfl) (hd 16 rfl) ?_
    refine jo_l (ly_pick_t rfl rfl) (hd 17 rfl) ?_
    refine jo_l (ly_mv rfl) (hd 18 rfl) ?_
    refine jo_split 18 rfl (fun h2 => ?_) (fun h2 => ?_)
    · refine jo_g 18 rfl rfl (ly_mv rfl) (hd 19 rfl) ?_
      refine jo_g 18 rfl rfl (ly_le rfl rfl) (hd 20 rfl) ?_
      refine jo_l (ly_pick_t rfl rfl) (hd 21 rfl) ?_
      refine jo_l (ly_as rfl) (hd 12 rfl) ?_
      refine jo_nil ?_
      refine jc_if rfl (fun h3 => ?_) (fun h3 => ?_)
      · refine jc_seq ?_
        refine jc_region ?_
        refine jo_l (ly_mv rfl) (hd 22 rfl) ?_
        have hq : s = true ∧ v = -xs ∧ 0 ≤ xs ∧ xs ≤ 9223372036854775808 := by
          have h1 := hv2.1
          rcases hxs with ⟨g1, g2, g3⟩ | ⟨g1, g2, g3⟩
          · cases s
            · simp_all
            · have h1 := h1 rfl; exact ⟨rfl, by omega, by omega, by assumption⟩
          · simp_all
        refine jo_l (ly_neg rfl (r := (18446744073709551616 - xs) % 18446744073709551616) (by rw [u64_wrap_mod]; omega)) (hd 23 rfl) ?_
        refine jo_l (ly_conv und82 und3 rfl (r := -xs) (by by_cases h0 : xs = 0; (subst h0; decide); exact i64_wrap_big (by omega) (by omega) (by omega))) (hd 24 rfl) ?_
        refine jo_l (ly_as rfl) (hd 2 rfl) ?_
        refine jo_l (ly_as rfl) (hd 3 rfl) ?_
        refine jo_nil ?_
        refine jc_ret ?_
        refine ⟨_, _, (.cons rfl (.cons rfl .nil)), (.t1 .i (.t1 .i .t0)), ?_⟩
        first
          | exact ⟨_, 0, rfl, .inl ⟨hIv.2 (by omega), by omega, rfl⟩⟩
          | exact ⟨0, 60, rfl, .inr ⟨fun hi => by
              have hi := hIv.1 hi
              have h1 := hv2.1
              have h2 := hv2.2.1
              rcases hxs with ⟨g1, g2, g3⟩ | ⟨g1, g2, g3⟩ <;> cases s <;> simp_all <;> omega, rfl, rfl⟩⟩
      · refine jc_seq ?_
        refine jc_region ?_
        refine jo_l (ly_mv rfl) (hd 26 rfl) ?_
        refine jo_l (ly_mv rfl) (hd 27 rfl) ?_
        refine jo_split 27 rfl (fun h4 => ?_) (fun h4 => ?_)
        · refine jo_g 27 rfl rfl (ly_fa fld30_0 rfl rfl rfl) (hd 28 rfl) ?_
          refine jo_g 27 rfl rfl (ly_ld one4 rfl rfl rfl) (hd 29 rfl) ?_
          refine jo_g 27 rfl rfl (ly_not rfl) (hd 30 rfl) ?_
          refine jo_l (ly_pick_t rfl rfl) (hd 31 rfl) ?_
          refine jo_l (ly_mv rfl) (hd 32 rfl) ?_
          refine jo_split 32 rfl (fun h5 => ?_) (fun h5 => ?_)
          · refine jo_g 32 rfl rfl (ly_mv rfl) (hd 33 rfl) ?_
            refine jo_g 32 rfl rfl (ly_lt rfl rfl) (hd 34 rfl) ?_
            refine jo_l (ly_pick_t rfl rfl) (hd 35 rfl) ?_
            refine jo_l (ly_as rfl) (hd 25 rfl) ?_
            refine jo_nil ?_
            refine jc_if rfl (fun h6 => ?_) (fun h6 => ?_)
            · refine jc_seq ?_
              refine jc_region ?_
              refine jo_l (ly_mv rfl) (hd 36 rfl) ?_
              have hq : v = xs ∧ 0 ≤ xs ∧ xs < 9223372036854775808 := by
                have h1 := hv2.2.1
                rcases hxs with ⟨g1, g2, g3⟩ | ⟨g1, g2, g3⟩
                · cases s
                  · have h1 := h1 rfl; exact ⟨by omega, by omega, by assumption⟩
                  · simp_all
                · simp_all
              refine jo_l (ly_conv und82 und3 rfl (wrap_i64 (by first | omega | (dsimp only; omega)) (by first | omega | (dsimp only; omega)))) (hd 37 rfl) ?_
              refine jo_l (ly_as rfl) (hd 2 rfl) ?_
              refine jo_l (ly_as rfl) (hd 3 rfl) ?_
              refine jo_nil ?_
              refine jc_ret ?_
              refine ⟨_, _, (.cons rfl (.cons rfl .nil)), (.t1 .i (.t1 .i .t0)), ?_⟩
              first
                | exact ⟨_, 0, rfl, .inl ⟨hIv.2 (by omega), by omega, rfl⟩⟩
                | exact ⟨0, 60, rfl, .inr ⟨fun hi => by
                    have hi := hIv.1 hi
                    have h1 := hv2.1
                    have h2 := hv2.2.1
                    rcases hxs with ⟨g1, g2, g3⟩ | ⟨g1, g2, g3⟩ <;> cases s <;> simp_all <;> omega, rfl, rfl⟩⟩
            · refine jc_skip ?_
              refine jc_seq ?_
              refine jc_region ?_
              refine jo_l (ly_as rfl) (hd 2 rfl) ?_
              refine jo_l (ly_as rfl) (hd 3 rfl) ?_
              refine jo_nil ?_
              refine jc_ret ?_
              refine ⟨_, _, (.cons rfl (.cons rfl .nil)), (.t1 .i (.t1 .i .t0)), ?_⟩
              first
                | exact ⟨_, 0, rfl, .inl ⟨hIv.2 (by omega), by omega, rfl⟩⟩
                | exact ⟨0, 60, rfl, .inr ⟨fun hi => by
                    have hi := hIv.1 hi
                    have h1 := hv2.1
                    have h2 := hv2.2.1
                    rcases hxs with ⟨g1, g2, g3⟩ | ⟨g1, g2, g3⟩ <;> cases s <;> simp_all <;> omega, rfl, rfl⟩⟩
          · refine jo_s 32 rfl rfl rfl (hd 33 rfl) ?_
            refine jo_s 32 rfl rfl rfl (hd 34 rfl) ?_
            refine jo_l (ly_pick_f rfl rfl) (hd 35 rfl) ?_
            refine jo_l (ly_as rfl) (hd 25 rfl) ?_
            refine jo_nil ?_
            refine jc_litf rfl ?_
            refine jc_skip ?_
            refine jc_seq ?_
            refine jc_region ?_
            refine jo_l (ly_as rfl) (hd 2 rfl) ?_
            refine jo_l (ly_as rfl) (hd 3 rfl) ?_
            refine jo_nil ?_
            refine jc_ret ?_
            refine ⟨_, _, (.cons rfl (.cons rfl .nil)), (.t1 .i (.t1 .i .t0)), ?_⟩
            first
              | exact ⟨_, 0, rfl, .inl ⟨hIv.2 (by omega), by omega, rfl⟩⟩
              | exact ⟨0, 60, rfl, .inr ⟨fun hi => by
                  have hi := hIv.1 hi
                  have h1 := hv2.1
                  have h2 := hv2.2.1
                  rcases hxs with ⟨g1, g2, g3⟩ | ⟨g1, g2, g3⟩ <;> cases s <;> simp_all <;> omega, rfl, rfl⟩⟩
        · refine jo_s 27 rfl rfl rfl (hd 28 rfl) ?_
          refine jo_s 27 rfl rfl rfl (hd 29 rfl) ?_
          refine jo_s 27 rfl rfl rfl (hd 30 rfl) ?_
          refine jo_l (ly_pick_f rfl rfl) (hd 31 rfl) ?_
          refine jo_l (ly_mv rfl) (hd 32 rfl) ?_
          refine jo_s 32 rfl rfl rfl (hd 33 rfl) ?_
          refine jo_s 32 rfl rfl rfl (hd 34 rfl) ?_
          refine jo_l (ly_pick_f rfl rfl) (hd 35 rfl) ?_
          refine jo_l (ly_as rfl) (hd 25 rfl) ?_
          refine jo_nil ?_
          refine jc_litf rfl ?_
          refine jc_skip ?_
          refine jc_seq ?_
          refine jc_region ?_
          refine jo_l (ly_as rfl) (hd 2 rfl) ?_
          refine jo_l (ly_as rfl) (hd 3 rfl) ?_
          refine jo_nil ?_
          refine jc_ret ?_
          refine ⟨_, _, (.cons rfl (.cons rfl .nil)), (.t1 .i (.t1 .i .t0)), ?_⟩
          first
            | exact ⟨_, 0, rfl, .inl ⟨hIv.2 (by omega), by omega, rfl⟩⟩
            | exact ⟨0, 60, rfl, .inr ⟨fun hi => by
                have hi := hIv.1 hi
                have h1 := hv2.1
                have h2 := hv2.2.1
                rcases hxs with ⟨g1, g2, g3⟩ | ⟨g1, g2, g3⟩ <;> cases s <;> simp_all <;> omega, rfl, rfl⟩⟩
    · refine jo_s 18 rfl rfl rfl (hd 19 rfl) ?_
      refine jo_s 18 rfl rfl rfl (hd 20 rfl) ?_
      refine jo_l (ly_pick_f rfl rfl) (hd 21 rfl) ?_
      refine jo_l (ly_as rfl) (hd 12 rfl) ?_
      refine jo_nil ?_
      refine jc_litf rfl ?_
      refine jc_seq ?_
      refine jc_region ?_
      refine jo_l (ly_mv rfl) (hd 26 rfl) ?_
      refine jo_l (ly_mv rfl) (hd 27 rfl) ?_
      refine jo_split 27 rfl (fun h10 => ?_) (fun h10 => ?_)
      · refine jo_g 27 rfl rfl (ly_fa fld30_0 rfl rfl rfl) (hd 28 rfl) ?_
        refine jo_g 27 rfl rfl (ly_ld one4 rfl rfl rfl) (hd 29 rfl) ?_
        refine jo_g 27 rfl rfl (ly_not rfl) (hd 30 rfl) ?_
        refine jo_l (ly_pick_t rfl rfl) (hd 31 rfl) ?_
        refine jo_l (ly_mv rfl) (hd 32 rfl) ?_
        refine jo_split 32 rfl (fun h11 => ?_) (fun h11 => ?_)
        · refine jo_g 32 rfl rfl (ly_mv rfl) (hd 33 rfl) ?_
          refine jo_g 32 rfl rfl (ly_lt rfl rfl) (hd 34 rfl) ?_
          refine jo_l (ly_pick_t rfl rfl) (hd 35 rfl) ?_
          refine jo_l (ly_as rfl) (hd 25 rfl) ?_
          refine jo_nil ?_
          refine jc_if rfl (fun h12 => ?_) (fun h12 => ?_)
          · refine jc_seq ?_
            refine jc_region ?_
            refine jo_l (ly_mv rfl) (hd 36 rfl) ?_
            have hq : v = xs ∧ 0 ≤ xs ∧ xs < 9223372036854775808 := by
              have h1 := hv2.2.1
              rcases hxs with ⟨g1, g2, g3⟩ | ⟨g1, g2, g3⟩
              · cases s
                · have h1 := h1 rfl; exact ⟨by omega, by omega, by assumption⟩
                · simp_all
              · simp_all
            refine jo_l (ly_conv und82 und3 rfl (wrap_i64 (by first | omega | (dsimp only; omega)) (by first | omega | (dsimp only; omega)))) (hd 37 rfl) ?_
            refine jo_l (ly_as rfl) (hd 2 rfl) ?_
            refine jo_l (ly_as rfl) (hd 3 rfl) ?_
            refine jo_nil ?_
            refine jc_ret ?_
            refine ⟨_, _, (.cons rfl (.cons rfl .nil)), (.t1 .i (.t1 .i .t0)), ?_⟩
            first
              | exact ⟨_, 0, rfl, .inl ⟨hIv.2 (by omega), by omega, rfl⟩⟩
              | exact ⟨0, 60, rfl, .inr ⟨fun hi => by
                  have hi := hIv.1 hi
                  have h1 := hv2.1
                  have h2 := hv2.2.1
                  rcases hxs with ⟨g1, g2, g3⟩ | ⟨g1, g2, g3⟩ <;> cases s <;> simp_all <;> omega, rfl, rfl⟩⟩
          · refine jc_skip ?_
            refine jc_seq ?_
            refine jc_region ?_
            refine jo_l (ly_as rfl) (hd 2 rfl) ?_
            refine jo_l (ly_as rfl) (hd 3 rfl) ?_
            refine jo_nil ?_
            refine jc_ret ?_
            refine ⟨_, _, (.cons rfl (.cons rfl .nil)), (.t1 .i (.t1 .i .t0)), ?_⟩
            first
              | exact ⟨_, 0, rfl, .inl ⟨hIv.2 (by omega), by omega, rfl⟩⟩
              | exact ⟨0, 60, rfl, .inr ⟨fun hi => by
                  have hi := hIv.1 hi
                  have h1 := hv2.1
                  have h2 := hv2.2.1
                  rcases hxs with ⟨g1, g2, g3⟩ | ⟨g1, g2, g3⟩ <;> cases s <;> simp_all <;> omega, rfl, rfl⟩⟩
        · refine jo_s 32 rfl rfl rfl (hd 33 rfl) ?_
          refine jo_s 32 rfl rfl rfl (hd 34 rfl) ?_
          refine jo_l (ly_pick_f rfl rfl) (hd 35 rfl) ?_
          refine jo_l (ly_as rfl) (hd 25 rfl) ?_
          refine jo_nil ?_
          refine jc_litf rfl ?_
          refine jc_skip ?_
          refine jc_seq ?_
          refine jc_region ?_
          refine jo_l (ly_as rfl) (hd 2 rfl) ?_
          refine jo_l (ly_as rfl) (hd 3 rfl) ?_
          refine jo_nil ?_
          refine jc_ret ?_
          refine ⟨_, _, (.cons rfl (.cons rfl .nil)), (.t1 .i (.t1 .i .t0)), ?_⟩
          first
            | exact ⟨_, 0, rfl, .inl ⟨hIv.2 (by omega), by omega, rfl⟩⟩
            | exact ⟨0, 60, rfl, .inr ⟨fun hi => by
                have hi := hIv.1 hi
                have h1 := hv2.1
                have h2 := hv2.2.1
                rcases hxs with ⟨g1, g2, g3⟩ | ⟨g1, g2, g3⟩ <;> cases s <;> simp_all <;> omega, rfl, rfl⟩⟩
      · refine jo_s 27 rfl rfl rfl (hd 28 rfl) ?_
        refine jo_s 27 rfl rfl rfl (hd 29 rfl) ?_
        refine jo_s 27 rfl rfl rfl (hd 30 rfl) ?_
        refine jo_l (ly_pick_f rfl rfl) (hd 31 rfl) ?_
        refine jo_l (ly_mv rfl) (hd 32 rfl) ?_
        refine jo_s 32 rfl rfl rfl (hd 33 rfl) ?_
        refine jo_s 32 rfl rfl rfl (hd 34 rfl) ?_
        refine jo_l (ly_pick_f rfl rfl) (hd 35 rfl) ?_
        refine jo_l (ly_as rfl) (hd 25 rfl) ?_
        refine jo_nil ?_
        refine jc_litf rfl ?_
        refine jc_skip ?_
        refine jc_seq ?_
        refine jc_region ?_
        refine jo_l (ly_as rfl) (hd 2 rfl) ?_
        refine jo_l (ly_as rfl) (hd 3 rfl) ?_
        refine jo_nil ?_
        refine jc_ret ?_
        refine ⟨_, _, (.cons rfl (.cons rfl .nil)), (.t1 .i (.t1 .i .t0)), ?_⟩
        first
          | exact ⟨_, 0, rfl, .inl ⟨hIv.2 (by omega), by omega, rfl⟩⟩
          | exact ⟨0, 60, rfl, .inr ⟨fun hi => by
              have hi := hIv.1 hi
              have h1 := hv2.1
              have h2 := hv2.2.1
              rcases hxs with ⟨g1, g2, g3⟩ | ⟨g1, g2, g3⟩ <;> cases s <;> simp_all <;> omega, rfl, rfl⟩⟩
  · refine jo_s 14 rfl rfl rfl (hd 15 rfl) ?_
    refine jo_s 14 rfl rfl rfl (hd 16 rfl) ?_
    refine jo_l (ly_pick_f rfl rfl) (hd 17 rfl) ?_
    refine jo_l (ly_mv rfl) (hd 18 rfl) ?_
    refine jo_s 18 rfl rfl rfl (hd 19 rfl) ?_
    refine jo_s 18 rfl rfl rfl (hd 20 rfl) ?_
    refine jo_l (ly_pick_f rfl rfl) (hd 21 rfl) ?_
    refine jo_l (ly_as rfl) (hd 12 rfl) ?_
    refine jo_nil ?_
    refine jc_litf rfl ?_
    refine jc_seq ?_
    refine jc_region ?_
    refine jo_l (ly_mv rfl) (hd 26 rfl) ?_
    refine jo_l (ly_mv rfl) (hd 27 rfl) ?_
    refine jo_split 27 rfl (fun h16 => ?_) (fun h16 => ?_)
    · refine jo_g 27 rfl rfl (ly_fa fld30_0 rfl rfl rfl) (hd 28 rfl) ?_
      refine jo_g 27 rfl rfl (ly_ld one4 rfl rfl rfl) (hd 29 rfl) ?_
      refine jo_g 27 rfl rfl (ly_not rfl) (hd 30 rfl) ?_
      refine jo_l (ly_pick_t rfl rfl) (hd 31 rfl) ?_
      refine jo_l (ly_mv rfl) (hd 32 rfl) ?_
      refine jo_split 32 rfl (fun h17 => ?_) (fun h17 => ?_)
      · refine jo_g 32 rfl rfl (ly_mv rfl) (hd 33 rfl) ?_
        refine jo_g 32 rfl rfl (ly_lt rfl rfl) (hd 34 rfl) ?_
        refine jo_l (ly_pick_t rfl rfl) (hd 35 rfl) ?_
        refine jo_l (ly_as rfl) (hd 25 rfl) ?_
        refine jo_nil ?_
        refine jc_if rfl (fun h18 => ?_) (fun h18 => ?_)
        · refine jc_seq ?_
          refine jc_region ?_
          refine jo_l (ly_mv rfl) (hd 36 rfl) ?_
          have hq : v = xs ∧ 0 ≤ xs ∧ xs < 9223372036854775808 := by
            have h1 := hv2.2.1
            rcases hxs with ⟨g1, g2, g3⟩ | ⟨g1, g2, g3⟩
            · cases s
              · have h1 := h1 rfl; exact ⟨by omega, by omega, by assumption⟩
              · simp_all
            · simp_all
          refine jo_l (ly_conv und82 und3 rfl (wrap_i64 (by first | omega | (dsimp only; omega)) (by first | omega | (dsimp only; omega)))) (hd 37 rfl) ?_
          refine jo_l (ly_as rfl) (hd 2 rfl) ?_
          refine jo_l (ly_as rfl) (hd 3 rfl) ?_
          refine jo_nil ?_
          refine jc_ret ?_
          refine ⟨_, _, (.cons rfl (.cons rfl .nil)), (.t1 .i (.t1 .i .t0)), ?_⟩
          first
            | exact ⟨_, 0, rfl, .inl ⟨hIv.2 (by omega), by omega, rfl⟩⟩
            | exact ⟨0, 60, rfl, .inr ⟨fun hi => by
                have hi := hIv.1 hi
                have h1 := hv2.1
                have h2 := hv2.2.1
                rcases hxs with ⟨g1, g2, g3⟩ | ⟨g1, g2, g3⟩ <;> cases s <;> simp_all <;> omega, rfl, rfl⟩⟩
        · refine jc_skip ?_
          refine jc_seq ?_
          refine jc_region ?_
          refine jo_l (ly_as rfl) (hd 2 rfl) ?_
          refine jo_l (ly_as rfl) (hd 3 rfl) ?_
          refine jo_nil ?_
          refine jc_ret ?_
          refine ⟨_, _, (.cons rfl (.cons rfl .nil)), (.t1 .i (.t1 .i .t0)), ?_⟩
          first
            | exact ⟨_, 0, rfl, .inl ⟨hIv.2 (by omega), by omega, rfl⟩⟩
            | exact ⟨0, 60, rfl, .inr ⟨fun hi => by
                have hi := hIv.1 hi
                have h1 := hv2.1
                have h2 := hv2.2.1
                rcases hxs with ⟨g1, g2, g3⟩ | ⟨g1, g2, g3⟩ <;> cases s <;> simp_all <;> omega, rfl, rfl⟩⟩
      · refine jo_s 32 rfl rfl rfl (hd 33 rfl) ?_
        refine jo_s 32 rfl rfl rfl (hd 34 rfl) ?_
        refine jo_l (ly_pick_f rfl rfl) (hd 35 rfl) ?_
        refine jo_l (ly_as rfl) (hd 25 rfl) ?_
        refine jo_nil ?_
        refine jc_litf rfl ?_
        refine jc_skip ?_
        refine jc_seq ?_
        refine jc_region ?_
        refine jo_l (ly_as rfl) (hd 2 rfl) ?_
        refine jo_l (ly_as rfl) (hd 3 rfl) ?_
        refine jo_nil ?_
        refine jc_ret ?_
        refine ⟨_, _, (.cons rfl (.cons rfl .nil)), (.t1 .i (.t1 .i .t0)), ?_⟩
        first
          | exact ⟨_, 0, rfl, .inl ⟨hIv.2 (by omega), by omega, rfl⟩⟩
          | exact ⟨0, 60, rfl, .inr ⟨fun hi => by
              have hi := hIv.1 hi
              have h1 := hv2.1
              have h2 := hv2.2.1
              rcases hxs with ⟨g1, g2, g3⟩ | ⟨g1, g2, g3⟩ <;> cases s <;> simp_all <;> omega, rfl, rfl⟩⟩
    · refine jo_s 27 rfl rfl rfl (hd 28 rfl) ?_
      refine jo_s 27 rfl rfl rfl (hd 29 rfl) ?_
      refine jo_s 27 rfl rfl rfl (hd 30 rfl) ?_
      refine jo_l (ly_pick_f rfl rfl) (hd 31 rfl) ?_
      refine jo_l (ly_mv rfl) (hd 32 rfl) ?_
      refine jo_s 32 rfl rfl rfl (hd 33 rfl) ?_
      refine jo_s 32 rfl rfl rfl (hd 34 rfl) ?_
      refine jo_l (ly_pick_f rfl rfl) (hd 35 rfl) ?_
      refine jo_l (ly_as rfl) (hd 25 rfl) ?_
      refine jo_nil ?_
      refine jc_litf rfl ?_
      refine jc_skip ?_
      refine jc_seq ?_
      refine jc_region ?_
      refine jo_l (ly_as rfl) (hd 2 rfl) ?_
      refine jo_l (ly_as rfl) (hd 3 rfl) ?_
      refine jo_nil ?_
      refine jc_ret ?_
      refine ⟨_, _, (.cons rfl (.cons rfl .nil)), (.t1 .i (.t1 .i .t0)), ?_⟩
      first
        | exact ⟨_, 0, rfl, .inl ⟨hIv.2 (by omega), by omega, rfl⟩⟩
        | exact ⟨0, 60, rfl, .inr ⟨fun hi => by
            have hi := hIv.1 hi
            have h1 := hv2.1
            have h2 := hv2.2.1
            rcases hxs with ⟨g1, g2, g3⟩ | ⟨g1, g2, g3⟩ <;> cases s <;> simp_all <;> omega, rfl, rfl⟩⟩

theorem ZInt_s (v : Int) (h : inI v) : Spec Try.prog 38 [.i .i64 v] (fun o => o = .ret (.a [.b (decide (v < 0)), .n false .u64 (dg v)])) := by
  have h' : -9223372036854775808 ≤ v ∧ v < 9223372036854775808 := h
  by_cases h0 : v < 0
  · have hu : u64s [-v] := u64s1 (by omega) (by omega)
    have h1 := Int_neg v h0 h'.1
    have e := zv_of (s := true) hu
    rw [e, trm_dig (s := true) (v := v) hu (by simp [sv, vl])] at h1
    have e2 : sv true [-v] = v := by simp [sv, vl]
    rw [e2] at h1
    exact h1
  · have hu : u64s [v] := u64s1 (by omega) (by omega)
    have h1 := Int_pos v (by omega) h'.2
    have e := zv_of (s := false) hu
    rw [e, trm_dig (s := false) (v := v) hu (by simp [sv, vl])] at h1
    have e2 : sv false [v] = v := by simp [sv, vl]
    rw [e2] at h1
    exact h1

set_option maxHeartbeats 4000000 in
theorem From_n (v : Int) : SpecM Try.prog 70 [.i .u64 v] [] (fun o G => o = .ret (.o 0 0 0 (fl v).length) ∧ G = [⟨82, 1, 0, true, ints .u64 (fl v)⟩]) := by
  refine specS_of [(0, .i .u64 v)] rfl Try.func70 rfl (Nat.le_of_ble_eq_true rfl) fun Γ hN hds hL hR => ?_
  have hd : ∀ d, Nat.blt d 7 = true → d < Γ.N := fun d h => by rw [hN]; exact Nat.le_of_ble_eq_true h
  refine jc_seq ?_
  refine jc_region ?_
  refine jo_l (ly_as rfl) (hd 2 rfl) ?_
  refine jo_nil ?_
  refine jc_seq ?_
  refine jc_seq ?_
  refine jc_region ?_
  refine jo_l (ly_mv rfl) (hd 3 rfl) ?_
  refine jo_l (ly_eq rfl rfl) (hd 4 rfl) ?_
  refine jo_nil ?_
  refine jc_if rfl (fun h1 => ?_) (fun h1 => ?_)
  · refine jc_seq ?_
    refine jc_region ?_
    refine jo_l (ly_as rfl) (hd 2 rfl) ?_
    refine jo_nil ?_
    refine jc_own0 2 82 1 rfl rfl ?_
    refine jc_ret ?_
    refine ⟨[0], _, (.o 0 0 0 0), (.cons rfl .nil), rfl, rfl, (by decide), (by first | exact idless_cons ints_id idless_nil | exact idless_cons rfl idless_nil), ?_⟩
    unfold fl
    rw [if_pos (by assumption)]
    exact ⟨rfl, rfl⟩
  · refine jc_skip ?_
    refine jc_seq ?_
    refine jc_region ?_
    refine jo_l (ly_mv rfl) (hd 5 rfl) ?_
    refine jo_h (hy_lit (id := 0) (xs := [.tmp 5]) el28 rfl (ovL_cons rfl ovL_nil) rfl (all2_of rfl) (by decide) rfl) (hd 6 rfl) ?_
    refine jo_l (ly_as rfl) (hd 2 rfl) ?_
    refine jo_nil ?_
    refine jc_ret ?_
    refine ⟨[0], _, (.o 0 0 0 1), (.cons rfl .nil), rfl, rfl, (by decide), (by first | exact idless_cons ints_id idless_nil | exact idless_cons rfl idless_nil), ?_⟩
    unfold fl
    rw [if_neg (by assumption)]
    exact ⟨rfl, rfl⟩

set_option maxHeartbeats 4000000 in
theorem Of_n (v : Int) (h0 : -9223372036854775808 ≤ v) (h1 : v < 9223372036854775808) : SpecM Try.prog 43 [.i .i64 v] [] (fun o G => o = .ret (.a [.b (decide (v < 0)), .o 0 0 0 (lm v).length]) ∧ G = [⟨82, 1, 0, true, ints .u64 (lm v)⟩]) := by
  refine specS_of [(0, .i .i64 v)] rfl Try.func43 rfl (Nat.le_of_ble_eq_true rfl) fun Γ hN hds hL hR => ?_
  have hd : ∀ d, Nat.blt d 14 = true → d < Γ.N := fun d h => by rw [hN]; exact Nat.le_of_ble_eq_true h
  have hlm := lm_small (v := v) (by omega)
  refine jc_seq ?_
  refine jc_region ?_
  refine jo_h (hy_alloc (id := 0) zero30 (by decide) rfl (by decide) rfl) (hd 2 rfl) ?_
  refine jo_nil ?_
  refine jc_seq ?_
  refine jc_seq ?_
  refine jc_region ?_
  refine jo_l (ly_mv rfl) (hd 3 rfl) ?_
  refine jo_l (ly_lt rfl rfl) (hd 4 rfl) ?_
  refine jo_nil ?_
  refine jc_if rfl (fun h1 => ?_) (fun h1 => ?_)
  · refine jc_seq ?_
    refine jc_region ?_
    refine jo_l (ly_mv rfl) (hd 5 rfl) ?_
    refine jo_l (ly_conv und3 und82 rfl (r := v + 18446744073709551616) (wrap_u64' (by omega) (by omega) (by omega))) (hd 6 rfl) ?_
    refine jo_l (ly_neg rfl (r := -v) (wrap_u64' (by omega) (by omega) (by omega))) (hd 7 rfl) ?_
    refine jo_callN Try.f70 (From_n (-v)) (fun o G ⟨_, h⟩ => h ▸ idless_cons ints_id idless_nil) rfl Try.func70 rfl rfl (ovL_cons rfl ovL_nil) (.cons .i .nil) (hd 8 rfl) ?_ (fun ch G hp => by simp at hp)
    rintro y G ⟨hy, rfl⟩
    injection hy with hy
    subst hy
    show JO _ _ _ _ ((8, .o 1 0 0 (fl (-v)).length) :: _) _ _
    refine jo_l (ly_build (is := [0, 1]) (xs := [.const (.bool true), .tmp 8]) zero30 pls30_0_1 rfl (ovL_cons rfl (ovL_cons rfl ovL_nil)) rfl (by first | (simp [plsOk, cellsV]; done) | (simp [plsOk, cellsV, old]; done)) (all_of rfl) rfl) (hd 9 rfl) ?_
    refine jo_st (sy_store rfl rfl rfl siz30 rfl rfl (Nat.le_of_ble_eq_true rfl)) ?_
    refine jo_nil ?_
    refine jc_ret ?_
    refine ⟨[1], _, (.a [.b true, .o 0 0 0 (fl (-v)).length]), (.cons (ResV.cell agg30 rfl rfl rfl rfl) .nil), rfl, rfl, (by decide), (by first | exact idless_cons ints_id idless_nil | exact idless_cons rfl idless_nil), ?_⟩
    rw [hlm, show ((v.natAbs : Nat) : Int) = -v by omega, decide_eq_true (by assumption)]
    exact ⟨rfl, rfl⟩
  · refine jc_skip ?_
    refine jc_seq ?_
    refine jc_region ?_
    refine jo_l (ly_mv rfl) (hd 10 rfl) ?_
    refine jo_l (ly_conv und3 und82 rfl (wrap_u64 (by omega) (by omega))) (hd 11 rfl) ?_
    refine jo_callN Try.f70 (From_n v) (fun o G ⟨_, h⟩ => h ▸ idless_cons ints_id idless_nil) rfl Try.func70 rfl rfl (ovL_cons rfl ovL_nil) (.cons .i .nil) (hd 12 rfl) ?_ (fun ch G hp => by simp at hp)
    rintro y G ⟨hy, rfl⟩
    injection hy with hy
    subst hy
    show JO _ _ _ _ ((12, .o 1 0 0 (fl v).length) :: _) _ _
    refine jo_l (ly_build (is := [1]) (xs := [.tmp 12]) zero30 pls30_1 rfl (ovL_cons rfl ovL_nil) rfl (by first | (simp [plsOk, cellsV]; done) | (simp [plsOk, cellsV, old]; done)) (all_of rfl) rfl) (hd 13 rfl) ?_
    refine jo_st (sy_store rfl rfl rfl siz30 rfl rfl (Nat.le_of_ble_eq_true rfl)) ?_
    refine jo_nil ?_
    refine jc_ret ?_
    refine ⟨[1], _, (.a [.b false, .o 0 0 0 (fl v).length]), (.cons (ResV.cell agg30 rfl rfl rfl rfl) .nil), rfl, rfl, (by decide), (by first | exact idless_cons ints_id idless_nil | exact idless_cons rfl idless_nil), ?_⟩
    rw [hlm, show ((v.natAbs : Nat) : Int) = v by omega, decide_eq_false (by assumption)]
    exact ⟨rfl, rfl⟩
end Go.Proofs.Ytcdipmjgpimmdaa.Vc

/- The contract of surdlaw06.WholeMakes. -/
set_option linter.unusedVariables false
set_option linter.unusedSimpArgs false
namespace Go.Proofs.Ytcdipmjgpimmdaa.Vc
open Go Go.RowKit
theorem Limbs_v (v : Int) (hl : (dg v).length < 4294967296) : Spec Try.prog 46 [.n false .u64 (dg v)] (fun o => o = .ret (.n true .u64 (lm v))) := by
  have h := Limbs_s (dg v) hl
  rwa [lims_dg] at h

set_option maxHeartbeats 20000000 in
set_option maxRecDepth 100000 in
theorem WholeMakes_s (sa sb : Bool) (a b : List Int) (n : Int) (ha : a.length < 67108864) (hb : b.length < 67108864) (ua : u64s a) (ub : u64s b) (hn0 : -9223372036854775808 ≤ n) (hn1 : n < 9223372036854775808) : Spec Try.prog 6 [.a [.b sa, .n false .u64 a], .a [.b sb, .n false .u64 b], .i .i64 n] (fun o => o = .ret (.b true)) := by
  refine spec_of' [(0, .a [.b sa, .n false .u64 a]), (1, .a [.b sb, .n false .u64 b]), (2, .i .i64 n)] rfl Try.func6 rfl (Nat.le_of_ble_eq_true rfl) fun Γ hN hds hL hR => ?_
  have hd : ∀ d, Nat.blt d 189 = true → d < Γ.N := fun d h => by rw [hN]; exact Nat.le_of_ble_eq_true h
  have da := dg_lenN (s := sa) ua rfl
  have db := dg_lenN (s := sb) ub rfl
  have hno : (lm n).length ≤ 1 := lm_i64 (by omega)
  have dabs := dg_abs (v := (sv sa a))
  have hIv : inI (sv sa a) ↔ (-9223372036854775808 ≤ (sv sa a) ∧ (sv sa a) < 9223372036854775808) := Iff.rfl
  have h63 := len63 (v := (sv sa a))
  have h64 := len64 (v := (sv sa a))
  refine jc_seq ?_
  refine jc_region ?_
  refine jo_h (hy_box (id := 0) (n := 2) rfl rfl rfl (by decide) rfl) (hd 3 rfl) ?_
  refine jo_h (hy_box (id := 1) (n := 2) rfl rfl rfl (by decide) rfl) (hd 4 rfl) ?_
  refine jo_l (ly_as rfl) (hd 6 rfl) ?_
  refine jo_nil ?_
  refine jc_seq ?_
  refine jc_region ?_
  refine jo_l (ly_lda agg27 rfl rfl rfl rfl) (hd 25 rfl) ?_
  refine jo_call Try.f11 (lent_s sa a (by omega)) rfl Try.func11 rfl rfl (ovL_cons rfl ovL_nil) (.cons (.a1 .b (.a1 .n .a0)) .nil) (hd 26 rfl) ?_ (fun ch hp => by simp at hp)
  rintro y hy; injection hy with hy; subst hy
  refine jo_l (ly_mv rfl) (hd 24 rfl) ?_
  refine jo_l (ly_ext rfl rfl) (hd 27 rfl) ?_
  refine jo_l (ly_ext rfl rfl) (hd 28 rfl) ?_
  refine jo_h (hy_alloc (id := 2) zero30 (by decide) rfl (by decide) rfl) (hd 8 rfl) ?_
  refine jo_l (ly_as rfl) (hd 7 rfl) ?_
  refine jo_st (sy_store rfl rfl rfl siz30 rfl rfl (Nat.le_of_ble_eq_true rfl)) ?_
  refine jo_nil ?_
  refine jc_seq ?_
  refine jc_region ?_
  refine jo_l (ly_lda agg27 rfl rfl rfl rfl) (hd 30 rfl) ?_
  refine jo_call Try.f11 (lent_s sb b (by omega)) rfl Try.func11 rfl rfl (ovL_cons rfl ovL_nil) (.cons (.a1 .b (.a1 .n .a0)) .nil) (hd 31 rfl) ?_ (fun ch hp => by simp at hp)
  rintro y hy; injection hy with hy; subst hy
  refine jo_l (ly_mv rfl) (hd 29 rfl) ?_
  refine jo_l (ly_ext rfl rfl) (hd 32 rfl) ?_
  refine jo_l (ly_ext rfl rfl) (hd 33 rfl) ?_
  refine jo_h (hy_alloc (id := 3) zero30 (by decide) rfl (by decide) rfl) (hd 10 rfl) ?_
  refine jo_l (ly_as rfl) (hd 9 rfl) ?_
  refine jo_st (sy_store rfl rfl rfl siz30 rfl rfl (Nat.le_of_ble_eq_true rfl)) ?_
  refine jo_nil ?_
  refine jc_seq ?_
  refine jc_H (H' := [⟨27, 2, 0, true, [.b sa, .n false .u64 a]⟩, ⟨27, 2, 0, true, [.b sb, .n false .u64 b]⟩, ⟨30, 2, 0, true, [.b sa, .n true .u64 a]⟩, ⟨30, 2, 0, true, [.b sb, .n true .u64 b]⟩]) rfl ?_
  refine jc_region ?_
  refine jo_l (ly_lda agg27 rfl rfl rfl rfl) (hd 34 rfl) ?_
  refine jo_call Try.f12 (of_s sa a (by omega) ua) rfl Try.func12 rfl rfl (ovL_cons rfl ovL_nil) (.cons (.a1 .b (.a1 .n .a0)) .nil) (hd 35 rfl) ?_ (fun ch hp => by simp at hp)
  rintro y hy; injection hy with hy; subst hy
  refine jo_h (hy_alloc (id := 4) zero35 (by decide) rfl (by decide) rfl) (hd 11 rfl) ?_
  refine jo_st (sy_store rfl rfl rfl siz35 rfl rfl (Nat.le_of_ble_eq_true rfl)) ?_
  refine jo_nil ?_
  refine jc_seq ?_
  refine jc_H (H' := [⟨27, 2, 0, true, [.b sa, .n false .u64 a]⟩, ⟨27, 2, 0, true, [.b sb, .n false .u64 b]⟩, ⟨30, 2, 0, true, [.b sa, .n true .u64 a]⟩, ⟨30, 2, 0, true, [.b sb, .n true .u64 b]⟩, ⟨35, 2, 0, true, [.b (decide ((sv sa a) < 0)), .n false .u64 (dg (sv sa a))]⟩]) rfl ?_
  refine jc_region ?_
  refine jo_l (ly_lda agg30 rfl rfl rfl rfl) (hd 37 rfl) ?_
  refine jo_call Try.f39 (WInt_s sa a (sv sa a) (by omega) ua rfl) rfl Try.func39 rfl rfl (ovL_cons rfl ovL_nil) (.cons (.a1 .b (.a1 .n .a0)) .nil) (hd 38 rfl) ?_ (fun ch hp => by simp at hp)
  rintro y ⟨i1, e1, hy, hI1⟩
  injection hy with hy
  subst hy
  refine jo_l (ly_mv rfl) (hd 36 rfl) ?_
  refine jo_l (ly_ext rfl rfl) (hd 39 rfl) ?_
  refine jo_l (ly_ext rfl rfl) (hd 40 rfl) ?_
  refine jo_l (ly_as rfl) (hd 12 rfl) ?_
  refine jo_l (ly_as rfl) (hd 13 rfl) ?_
  refine jo_nil ?_
  refine jc_seq ?_
  refine jc_H (H' := [⟨27, 2, 0, true, [.b sa, .n false .u64 a]⟩, ⟨27, 2, 0, true, [.b sb, .n false .u64 b]⟩, ⟨30, 2, 0, true, [.b sa, .n true .u64 a]⟩, ⟨30, 2, 0, true, [.b sb, .n true .u64 b]⟩, ⟨35, 2, 0, true, [.b (decide ((sv sa a) < 0)), .n false .u64 (dg (sv sa a))]⟩]) rfl ?_
  refine jc_region ?_
  refine jo_l (ly_fa fld27_0 rfl rfl rfl) (hd 42 rfl) ?_
  refine jo_l (ly_ld one4 rfl rfl rfl) (hd 43 rfl) ?_
  refine jo_l (ly_fa fld30_1 rfl rfl rfl) (hd 44 rfl) ?_
  refine jo_l (ly_ld one28 rfl rfl rfl) (hd 45 rfl) ?_
  refine jo_callN Try.f40 (Make_n sa a (by omega) ua) (fun o G ⟨_, _, _, _, h, _⟩ => h ▸ idless_cons ints_id idless_nil) rfl Try.func40 rfl rfl (ovL_cons rfl (ovL_cons rfl ovL_nil)) (.cons .b (.cons .n .nil)) (hd 46 rfl) ?_ (fun ch G hp => by simp at hp)
  rintro y G ⟨sp, rp, ep, hy, rfl, hp⟩
  injection hy with hy
  subst hy
  show JO _ _ _ _ ((46, .t [.a [.b sp, .o 5 0 0 rp.length], .i .i64 ep]) :: _) _ _
  refine jo_l (ly_mv rfl) (hd 41 rfl) ?_
  refine jo_l (ly_ext rfl rfl) (hd 47 rfl) ?_
  refine jo_l (ly_ext rfl rfl) (hd 48 rfl) ?_
  refine jo_h (hy_alloc (id := 6) zero30 (by decide) rfl (by decide) rfl) (hd 14 rfl) ?_
  refine jo_st (sy_store rfl rfl rfl siz30 rfl rfl (Nat.le_of_ble_eq_true rfl)) ?_
  refine jo_l (ly_as rfl) (hd 15 rfl) ?_
  refine jo_nil ?_
  refine jc_seq ?_
  have lp := hp.len
  refine jc_H (H' := [⟨27, 2, 0, true, [.b sa, .n false .u64 a]⟩, ⟨27, 2, 0, true, [.b sb, .n false .u64 b]⟩, ⟨30, 2, 0, true, [.b sa, .n true .u64 a]⟩, ⟨30, 2, 0, true, [.b sb, .n true .u64 b]⟩, ⟨35, 2, 0, true, [.b (decide ((sv sa a) < 0)), .n false .u64 (dg (sv sa a))]⟩, ⟨82, 1, 0, true, ints .u64 rp⟩, ⟨30, 2, 0, true, [.b sp, .o 5 0 0 rp.length]⟩]) rfl ?_
  refine jc_region ?_
  refine jo_l (ly_lda agg30 rfl rfl rfl rfl) (hd 50 rfl) ?_
  refine jo_callN Try.f41 (Neg_n sa a (by omega) ua) (fun o G ⟨_, _, _, _, h, _⟩ => h ▸ idless_cons ints_id idless_nil) rfl Try.func41 rfl rfl (ovL_cons rfl ovL_nil) (.cons (.a1 .b (.a1 .n .a0)) .nil) (hd 51 rfl) ?_ (fun ch G hp => by simp at hp)
  rintro y G ⟨sq, rq, eq, hy, rfl, hq⟩
  injection hy with hy
  subst hy
  show JO _ _ _ _ ((51, .t [.a [.b sq, .o 7 0 0 rq.length], .i .i64 eq]) :: _) _ _
  refine jo_l (ly_mv rfl) (hd 49 rfl) ?_
  refine jo_l (ly_ext rfl rfl) (hd 52 rfl) ?_
  refine jo_l (ly_ext rfl rfl) (hd 53 rfl) ?_
  refine jo_h (hy_alloc (id := 8) zero30 (by decide) rfl (by decide) rfl) (hd 16 rfl) ?_
  refine jo_st (sy_store rfl rfl rfl siz30 rfl rfl (Nat.le_of_ble_eq_true rfl)) ?_
  refine jo_l (ly_as rfl) (hd 17 rfl) ?_
  refine jo_nil ?_
  refine jc_seq ?_
  have lq := hq.len
  refine jc_H (H' := [⟨27, 2, 0, true, [.b sa, .n false .u64 a]⟩, ⟨27, 2, 0, true, [.b sb, .n false .u64 b]⟩, ⟨30, 2, 0, true, [.b sa, .n true .u64 a]⟩, ⟨30, 2, 0, true, [.b sb, .n true .u64 b]⟩, ⟨35, 2, 0, true, [.b (decide ((sv sa a) < 0)), .n false .u64 (dg (sv sa a))]⟩, ⟨82, 1, 0, true, ints .u64 rp⟩, ⟨30, 2, 0, true, [.b sp, .o 5 0 0 rp.length]⟩, ⟨82, 1, 0, true, ints .u64 rq⟩, ⟨30, 2, 0, true, [.b sq, .o 7 0 0 rq.length]⟩]) rfl ?_
  refine jc_region ?_
  refine jo_l (ly_lda agg30 rfl rfl rfl rfl) (hd 55 rfl) ?_
  refine jo_callN Try.f42 (Abs_n sa a (by omega) ua) (fun o G ⟨_, _, _, _, h, _⟩ => h ▸ idless_cons ints_id idless_nil) rfl Try.func42 rfl rfl (ovL_cons rfl ovL_nil) (.cons (.a1 .b (.a1 .n .a0)) .nil) (hd 56 rfl) ?_ (fun ch G hp => by simp at hp)
  rintro y G ⟨sr, rr, er, hy, rfl, hr⟩
  injection hy with hy
  subst hy
  show JO _ _ _ _ ((56, .t [.a [.b sr, .o 9 0 0 rr.length], .i .i64 er]) :: _) _ _
  refine jo_l (ly_mv rfl) (hd 54 rfl) ?_
  refine jo_l (ly_ext rfl rfl) (hd 57 rfl) ?_
  refine jo_l (ly_ext rfl rfl) (hd 58 rfl) ?_
  refine jo_h (hy_alloc (id := 10) zero30 (by decide) rfl (by decide) rfl) (hd 18 rfl) ?_
  refine jo_st (sy_store rfl rfl rfl siz30 rfl rfl (Nat.le_of_ble_eq_true rfl)) ?_
  refine jo_l (ly_as rfl) (hd 19 rfl) ?_
  refine jo_nil ?_
  refine jc_seq ?_
  have lr := hr.len
  refine jc_H (H' := [⟨27, 2, 0, true, [.b sa, .n false .u64 a]⟩, ⟨27, 2, 0, true, [.b sb, .n false .u64 b]⟩, ⟨30, 2, 0, true, [.b sa, .n true .u64 a]⟩, ⟨30, 2, 0, true, [.b sb, .n true .u64 b]⟩, ⟨35, 2, 0, true, [.b (decide ((sv sa a) < 0)), .n false .u64 (dg (sv sa a))]⟩, ⟨82, 1, 0, true, ints .u64 rp⟩, ⟨30, 2, 0, true, [.b sp, .o 5 0 0 rp.length]⟩, ⟨82, 1, 0, true, ints .u64 rq⟩, ⟨30, 2, 0, true, [.b sq, .o 7 0 0 rq.length]⟩, ⟨82, 1, 0, true, ints .u64 rr⟩, ⟨30, 2, 0, true, [.b sr, .o 9 0 0 rr.length]⟩]) rfl ?_
  refine jc_region ?_
  refine jo_l (ly_mv rfl) (hd 59 rfl) ?_
  refine jo_callN Try.f43 (Of_n n hn0 hn1) (fun o G ⟨_, h⟩ => h ▸ idless_cons ints_id idless_nil) rfl Try.func43 rfl rfl (ovL_cons rfl ovL_nil) (.cons .i .nil) (hd 60 rfl) ?_ (fun ch G hp => by simp at hp)
  rintro y G ⟨hy, rfl⟩
  injection hy with hy
  subst hy
  show JO _ _ _ _ ((60, .a [.b (decide (n < 0)), .o 11 0 0 (lm n).length]) :: _) _ _
  refine jo_h (hy_alloc (id := 12) zero30 (by decide) rfl (by decide) rfl) (hd 20 rfl) ?_
  refine jo_st (sy_store rfl rfl rfl siz30 rfl rfl (Nat.le_of_ble_eq_true rfl)) ?_
  refine jo_nil ?_
  refine jc_seq ?_
  refine jc_H (H' := [⟨27, 2, 0, true, [.b sa, .n false .u64 a]⟩, ⟨27, 2, 0, true, [.b sb, .n false .u64 b]⟩, ⟨30, 2, 0, true, [.b sa, .n true .u64 a]⟩, ⟨30, 2, 0, true, [.b sb, .n true .u64 b]⟩, ⟨35, 2, 0, true, [.b (decide ((sv sa a) < 0)), .n false .u64 (dg (sv sa a))]⟩, ⟨82, 1, 0, true, ints .u64 rp⟩, ⟨30, 2, 0, true, [.b sp, .o 5 0 0 rp.length]⟩, ⟨82, 1, 0, true, ints .u64 rq⟩, ⟨30, 2, 0, true, [.b sq, .o 7 0 0 rq.length]⟩, ⟨82, 1, 0, true, ints .u64 rr⟩, ⟨30, 2, 0, true, [.b sr, .o 9 0 0 rr.length]⟩, ⟨82, 1, 0, true, ints .u64 (lm n)⟩, ⟨30, 2, 0, true, [.b (decide (n < 0)), .o 11 0 0 (lm n).length]⟩]) rfl ?_
  refine jc_region ?_
  refine jo_l (ly_lda agg30 rfl rfl rfl rfl) (hd 62 rfl) ?_
  refine jo_callL Try.f39 (WInt_s (decide (n < 0)) (lm n) n (by omega) (lm_u n) (sv_lm n)) rfl Try.func39 rfl rfl (ovL_cons rfl ovL_nil) (.a1 (.a1 .b (.a1 (.o rfl (by simp) (by rw [List.drop_zero, List.take_length])) .a0)) .a0) (.cons (.a1 .b (.a1 .n .a0)) .nil) hL (fun y hy => by obtain ⟨_, _, h, _⟩ := hy; injection h with h; subst h; rfl) (hd 63 rfl) ?_ (fun ch hp => by simp at hp)
  rintro y ⟨i2, e2, hy, hI2⟩
  injection hy with hy
  subst hy
  obtain ⟨hi2, he2⟩ : i2 = n ∧ e2 = 0 := by
    rcases hI2 with ⟨_, h1, h2⟩ | ⟨h, _⟩
    · exact ⟨h1, h2⟩
    · exact absurd ⟨hn0, hn1⟩ h
  refine jo_l (ly_mv rfl) (hd 61 rfl) ?_
  refine jo_l (ly_ext rfl rfl) (hd 64 rfl) ?_
  refine jo_l (ly_ext rfl rfl) (hd 65 rfl) ?_
  refine jo_l (ly_as rfl) (hd 21 rfl) ?_
  refine jo_l (ly_as rfl) (hd 22 rfl) ?_
  refine jo_nil ?_
  refine jc_meetH (G := Unit) (fun _ => True) (fun _ => [(23, .b (decide (inI (sv sa a)))), (66, .u), (67, .u), (68, .u), (69, .u), (70, .u), (71, .u), (72, .u), (73, .u), (74, .u), (75, .u), (76, .u), (77, .u), (78, .u), (79, .u), (80, .u), (81, .u), (82, .u), (83, .u), (84, .u), (85, .u)]) ?_ ?_
  · refine jc_H (H' := [⟨27, 2, 0, true, [.b sa, .n false .u64 a]⟩, ⟨27, 2, 0, true, [.b sb, .n false .u64 b]⟩, ⟨30, 2, 0, true, [.b sa, .n true .u64 a]⟩, ⟨30, 2, 0, true, [.b sb, .n true .u64 b]⟩, ⟨35, 2, 0, true, [.b (decide ((sv sa a) < 0)), .n false .u64 (dg (sv sa a))]⟩, ⟨82, 1, 0, true, ints .u64 rp⟩, ⟨30, 2, 0, true, [.b sp, .o 5 0 0 rp.length]⟩, ⟨82, 1, 0, true, ints .u64 rq⟩, ⟨30, 2, 0, true, [.b sq, .o 7 0 0 rq.length]⟩, ⟨82, 1, 0, true, ints .u64 rr⟩, ⟨30, 2, 0, true, [.b sr, .o 9 0 0 rr.length]⟩, ⟨82, 1, 0, true, ints .u64 (lm n)⟩, ⟨30, 2, 0, true, [.b (decide (n < 0)), .o 11 0 0 (lm n).length]⟩]) rfl ?_
    refine jc_region ?_
    refine jo_l (ly_fa fld35_1 rfl rfl rfl) (hd 66 rfl) ?_
    refine jo_l (ly_ld one33 rfl rfl rfl) (hd 67 rfl) ?_
    refine jo_call Try.f29 (Len_s (sv sa a) (by omega)) rfl Try.func29 rfl rfl (ovL_cons rfl ovL_nil) (.cons .n .nil) (hd 68 rfl) ?_ (fun ch hp => by simp at hp)
    rintro y hy; injection hy with hy; subst hy
    refine jo_l (ly_lt rfl rfl) (hd 69 rfl) ?_
    refine jo_l (ly_mv rfl) (hd 70 rfl) ?_
    refine jo_ifp 70 rfl (fun h1 => ?_) (fun h1 => ?_)
    · refine jo_s 70 rfl rfl rfl (hd 71 rfl) ?_
      refine jo_s 70 rfl rfl rfl (hd 72 rfl) ?_
      refine jo_s 70 rfl rfl rfl (hd 73 rfl) ?_
      refine jo_s' 73 rfl rfl (hd 74 rfl) ?_
      refine jo_s' 73 rfl rfl (hd 75 rfl) ?_
      refine jo_s' 73 rfl rfl (hd 76 rfl) ?_
      refine jo_s' 73 rfl rfl (hd 77 rfl) ?_
      refine jo_s 70 rfl rfl rfl (hd 78 rfl) ?_
      refine jo_s 70 rfl rfl rfl (hd 79 rfl) ?_
      refine jo_s' 79 rfl rfl (hd 80 rfl) ?_
      refine jo_s' 79 rfl rfl (hd 81 rfl) ?_
      refine jo_s' 79 rfl rfl (hd 82 rfl) ?_
      refine jo_s' 79 rfl rfl (hd 83 rfl) ?_
      refine jo_s 70 rfl rfl rfl (hd 84 rfl) ?_
      refine jo_l (ly_pick_t rfl rfl) (hd 85 rfl) ?_
      refine jo_l (ly_as rfl) (hd 23 rfl) ?_
      refine jo_nil ?_
      refine ⟨(), ?_, rfl, cov_n 22 rfl rfl ?_⟩
      · trivial
      · exact (.cons (by show some (V.b _) = some (V.b _); congr 2; first | (refine (decide_eq_true (hIv.2 ?_)).symm; omega) | (refine (decide_eq_false (fun hh => ?_)).symm; have hh := hIv.1 hh; omega) | (rw [decide_eq_decide, hIv]; have hz := tz63 ht (by omega) (by omega); omega)) (.u (.u (.u (.u (.u (.u (.u (.u (.u (.u (.u (.u (.u (.u (.u (.u (.u (.u (.u (.u .nil)))))))))))))))))))))
    · refine jo_g 70 rfl rfl (ly_fa fld35_0 rfl rfl rfl) (hd 71 rfl) ?_
      refine jo_g 70 rfl rfl (ly_ld one4 rfl rfl rfl) (hd 72 rfl) ?_
      refine jo_g 70 rfl rfl (ly_mv rfl) (hd 73 rfl) ?_
      refine jo_ifp 73 rfl (fun h2 => ?_) (fun h2 => ?_)
      · refine jo_g 73 rfl rfl (ly_fa fld35_1 rfl rfl rfl) (hd 74 rfl) ?_
        refine jo_g 73 rfl rfl (ly_ld one33 rfl rfl rfl) (hd 75 rfl) ?_
        refine jo_callg Try.f29 73 rfl rfl (Len_s (sv sa a) (by omega)) rfl Try.func29 rfl rfl (ovL_cons rfl ovL_nil) (.cons .n .nil) (hd 76 rfl) ?_ (fun ch hp => by simp at hp)
        rintro y hy; injection hy with hy; subst hy
        refine jo_g 73 rfl rfl (ly_eq rfl rfl) (hd 77 rfl) ?_
        refine jo_g 70 rfl rfl (ly_pick_t rfl rfl) (hd 78 rfl) ?_
        refine jo_g 70 rfl rfl (ly_mv rfl) (hd 79 rfl) ?_
        refine jo_ifp 79 rfl (fun h3 => ?_) (fun h3 => ?_)
        · refine jo_g 79 rfl rfl (ly_fa fld35_1 rfl rfl rfl) (hd 80 rfl) ?_
          refine jo_g 79 rfl rfl (ly_ld one33 rfl rfl rfl) (hd 81 rfl) ?_
          refine jo_callg Try.f44 79 rfl rfl (Tail_s ((sv sa a)).natAbs (by omega) (by show (dg (sv sa a)).length < _; omega)) rfl Try.func44 rfl rfl (ovL_cons rfl ovL_nil) (.cons .n .nil) (hd 82 rfl) ?_ (fun ch hp => by simp at hp)
          rintro y ⟨t, hy, ht⟩
          injection hy with hy
          subst hy
          refine jo_g 79 rfl rfl (ly_eq rfl rfl) (hd 83 rfl) ?_
          refine jo_g 70 rfl rfl (ly_pick_t rfl rfl) (hd 84 rfl) ?_
          refine jo_l (ly_pick_f rfl rfl) (hd 85 rfl) ?_
          refine jo_l (ly_as rfl) (hd 23 rfl) ?_
          refine jo_nil ?_
          refine ⟨(), ?_, rfl, cov_n 24 rfl rfl ?_⟩
          · trivial
          · exact (.cons (by show some (V.b _) = some (V.b _); congr 2; first | (refine (decide_eq_true (hIv.2 ?_)).symm; omega) | (refine (decide_eq_false (fun hh => ?_)).symm; have hh := hIv.1 hh; omega) | (rw [decide_eq_decide, hIv]; have hz := tz63 ht (by omega) (by omega); omega)) (.u (.u (.u (.u (.u (.u (.u (.u (.u (.u (.u (.u (.u (.u (.u (.u (.u (.u (.u (.u .nil)))))))))))))))))))))
        · refine jo_s 79 rfl rfl rfl (hd 80 rfl) ?_
          refine jo_s 79 rfl rfl rfl (hd 81 rfl) ?_
          refine jo_s 79 rfl rfl rfl (hd 82 rfl) ?_
          refine jo_s 79 rfl rfl rfl (hd 83 rfl) ?_
          refine jo_g 70 rfl rfl (ly_pick_f rfl rfl) (hd 84 rfl) ?_
          refine jo_l (ly_pick_f rfl rfl) (hd 85 rfl) ?_
          refine jo_l (ly_as rfl) (hd 23 rfl) ?_
          refine jo_nil ?_
          refine ⟨(), ?_, rfl, cov_n 24 rfl rfl ?_⟩
          · trivial
          · exact (.cons (by show some (V.b _) = some (V.b _); congr 2; first | (refine (decide_eq_true (hIv.2 ?_)).symm; omega) | (refine (decide_eq_false (fun hh => ?_)).symm; have hh := hIv.1 hh; omega) | (rw [decide_eq_decide, hIv]; have hz := tz63 ht (by omega) (by omega); omega)) (.u (.u (.u (.u (.u (.u (.u (.u (.u (.u (.u (.u (.u (.u (.u (.u (.u (.u (.u (.u .nil)))))))))))))))))))))
      · refine jo_s 73 rfl rfl rfl (hd 74 rfl) ?_
        refine jo_s 73 rfl rfl rfl (hd 75 rfl) ?_
        refine jo_s 73 rfl rfl rfl (hd 76 rfl) ?_
        refine jo_s 73 rfl rfl rfl (hd 77 rfl) ?_
        refine jo_g 70 rfl rfl (ly_pick_f rfl rfl) (hd 78 rfl) ?_
        refine jo_g 70 rfl rfl (ly_mv rfl) (hd 79 rfl) ?_
        refine jo_s 79 rfl rfl rfl (hd 80 rfl) ?_
        refine jo_s 79 rfl rfl rfl (hd 81 rfl) ?_
        refine jo_s 79 rfl rfl rfl (hd 82 rfl) ?_
        refine jo_s 79 rfl rfl rfl (hd 83 rfl) ?_
        refine jo_g 70 rfl rfl (ly_pick_f rfl rfl) (hd 84 rfl) ?_
        refine jo_l (ly_pick_f rfl rfl) (hd 85 rfl) ?_
        refine jo_l (ly_as rfl) (hd 23 rfl) ?_
        refine jo_nil ?_
        refine ⟨(), ?_, rfl, cov_n 23 rfl rfl ?_⟩
        · trivial
        · exact (.cons (by show some (V.b _) = some (V.b _); congr 2; first | (refine (decide_eq_true (hIv.2 ?_)).symm; omega) | (refine (decide_eq_false (fun hh => ?_)).symm; have hh := hIv.1 hh; omega) | (rw [decide_eq_decide, hIv]; have hz := tz63 ht (by omega) (by omega); omega)) (.u (.u (.u (.u (.u (.u (.u (.u (.u (.u (.u (.u (.u (.u (.u (.u (.u (.u (.u (.u .nil)))))))))))))))))))))
  · rintro _ _
    refine jc_meetH (G := Unit) (fun _ => True) (fun _ => [(6, .u), (86, .u), (87, .u), (88, .u), (89, .u), (90, .u), (91, .u), (92, .u), (93, .u), (94, .u), (95, .u), (96, .u), (97, .u), (98, .u), (99, .u), (100, .u), (101, .u), (102, .u), (103, .u), (104, .u), (105, .u), (106, .u), (107, .u)]) ?_ ?_
    · refine jc_seq ?_
      refine jc_region ?_
      refine jo_l (ly_mv rfl) (hd 86 rfl) ?_
      refine jo_nil ?_
      refine jc_if rfl (fun h4 => ?_) (fun h4 => ?_)
      · rcases hI1 with ⟨_, hi1, he1⟩ | ⟨hbad, _⟩
        rotate_left
        · exact absurd h4 hbad
        subst hi1
        subst he1
        refine jc_seq ?_
        refine jc_H (H' := [⟨27, 2, 0, true, [.b sa, .n false .u64 a]⟩, ⟨27, 2, 0, true, [.b sb, .n false .u64 b]⟩, ⟨30, 2, 0, true, [.b sa, .n true .u64 a]⟩, ⟨30, 2, 0, true, [.b sb, .n true .u64 b]⟩, ⟨35, 2, 0, true, [.b (decide ((sv sa a) < 0)), .n false .u64 (dg (sv sa a))]⟩, ⟨82, 1, 0, true, ints .u64 rp⟩, ⟨30, 2, 0, true, [.b sp, .o 5 0 0 rp.length]⟩, ⟨82, 1, 0, true, ints .u64 rq⟩, ⟨30, 2, 0, true, [.b sq, .o 7 0 0 rq.length]⟩, ⟨82, 1, 0, true, ints .u64 rr⟩, ⟨30, 2, 0, true, [.b sr, .o 9 0 0 rr.length]⟩, ⟨82, 1, 0, true, ints .u64 (lm n)⟩, ⟨30, 2, 0, true, [.b (decide (n < 0)), .o 11 0 0 (lm n).length]⟩]) rfl ?_
        refine jc_draw (n := 14) _ rfl mixed ?_
        refine ja_l2 0 [1, 2, 3, 4, 5, 6, 7, 8, 9, 10, 11, 12, 13] (lo_l (ly_mv rfl) (hd 87 rfl)) rfl (by kernel_rfl) (by kernel_rfl) (by kernel_rfl) (by kernel_rfl) (fun _ _ _ _ h => h) ?_
        refine ja_1 1 ?_ rfl (by kernel_rfl)
        refine js_call Try.f9 (num_s 0) rfl Try.func9 rfl rfl (ovL_cons rfl ovL_nil) (.cons .i .nil) (hd 88 rfl) ?_ (fun ch hp => by simp at hp)
        rintro y hy; injection hy with hy; subst hy
        refine ja_l2 2 [3, 4, 5, 6, 7, 8, 9, 10, 11, 12, 13] (lo_l (ly_ff (ly_ne rfl rfl) (fun h => h rfl)) (hd 89 rfl)) rfl (by kernel_rfl) (by kernel_rfl) (by kernel_rfl) (by kernel_rfl) (fun _ _ _ _ h => h) ?_
        refine ja_l 3 (lo_l (ly_mv rfl) (hd 90 rfl)) rfl (by kernel_rfl) (by kernel_rfl) (by kernel_rfl) (fun _ _ _ _ h => h) ?_
        refine ja_l2 4 [5, 10, 11, 12, 13] (lo_g 90 rfl rfl (ly_mv rfl) (hd 91 rfl)) rfl (by kernel_rfl) (by kernel_rfl) (by kernel_rfl) (by kernel_rfl) (fun _ _ _ _ h => h) ?_
        refine ja_l2 6 [7, 11, 12, 13] (lo_g 90 rfl rfl (ly_fa fld35_0 rfl rfl rfl) (hd 93 rfl)) rfl (by kernel_rfl) (by kernel_rfl) (by kernel_rfl) (by kernel_rfl) (fun _ _ _ _ h => h) ?_
        refine ja_l2 7 [11, 12, 13] (lo_g 90 rfl rfl (ly_ld one4 rfl rfl rfl) (hd 94 rfl)) rfl (by kernel_rfl) (by kernel_rfl) (by kernel_rfl) (by kernel_rfl) (fun _ _ _ _ h => h) ?_
        refine ja_l2 8 [9, 10, 11, 12, 13] (lo_g 90 rfl rfl (ly_fa fld35_1 rfl rfl rfl) (hd 95 rfl)) rfl (by kernel_rfl) (by kernel_rfl) (by kernel_rfl) (by kernel_rfl) (fun _ _ _ _ h => h) ?_
        refine ja_l2 9 [10, 11, 12, 13] (lo_g 90 rfl rfl (ly_ld one33 rfl rfl rfl) (hd 96 rfl)) rfl (by kernel_rfl) (by kernel_rfl) (by kernel_rfl) (by kernel_rfl) (fun _ _ _ _ h => h) ?_
        refine ja_1 5 ?_ rfl (by kernel_rfl)
        refine js_callg Try.f38 90 rfl rfl (ZInt_s (sv sa a) (by assumption)) rfl Try.func38 rfl rfl (ovL_cons rfl ovL_nil) (.cons .i .nil) (hd 92 rfl) ?_ (fun ch hp => by simp at hp)
        rintro y hy; injection hy with hy; subst hy
        refine ja_1 10 ?_ rfl (by kernel_rfl)
        refine js_callg Try.f46 90 rfl rfl (Limbs_v (sv sa a) (by omega)) rfl Try.func46 rfl rfl (ovL_cons rfl ovL_nil) (.cons .n .nil) (hd 97 rfl) ?_ (fun ch hp => by simp at hp)
        rintro y hy; injection hy with hy; subst hy
        refine ja_1 11 ?_ rfl (by kernel_rfl)
        refine js_callg Try.f45 90 rfl rfl (ZIs_v (sv sa a) (by omega)) rfl Try.func45 rfl rfl (ovL_cons rfl (ovL_cons rfl (ovL_cons rfl ovL_nil))) (.cons (.a1 .b (.a1 .n .a0)) (.cons .b (.cons .n .nil))) (hd 98 rfl) ?_ (fun ch hp => by simp at hp)
        rintro y hy; injection hy with hy; subst hy
        as_aux_lemma =>
          refine ja_l 12 (lo_g 90 rfl rfl (ly_not rfl) (hd 99 rfl)) rfl (by kernel_rfl) (by kernel_rfl) (by kernel_rfl) (fun _ _ _ _ h => h) ?_
          refine ja_l 13 (lo_l (ly_pick_f rfl rfl) (hd 100 rfl)) rfl (by kernel_rfl) (by kernel_rfl) (by kernel_rfl) (fun _ _ _ _ h => h) ?_
          refine ja_nil (by kernel_rfl) ?_
          refine jc_litf rfl ?_
          refine jc_skip ?_
          refine ⟨(), ?_, rfl, cov_n 15 rfl rfl ?_⟩
          · trivial
          · exact (.u (.u (.u (.u (.u (.u (.u (.u (.u (.u (.u (.u (.u (.u (.u (.u (.u (.u (.u (.u (.u (.u (.u .nil)))))))))))))))))))))))
      · rcases hI1 with ⟨hbad, _⟩ | ⟨_, hi1, he1⟩
        · exact absurd hbad h4
        subst hi1
        subst he1
        refine jc_seq ?_
        refine jc_H (H' := [⟨27, 2, 0, true, [.b sa, .n false .u64 a]⟩, ⟨27, 2, 0, true, [.b sb, .n false .u64 b]⟩, ⟨30, 2, 0, true, [.b sa, .n true .u64 a]⟩, ⟨30, 2, 0, true, [.b sb, .n true .u64 b]⟩, ⟨35, 2, 0, true, [.b (decide ((sv sa a) < 0)), .n false .u64 (dg (sv sa a))]⟩, ⟨82, 1, 0, true, ints .u64 rp⟩, ⟨30, 2, 0, true, [.b sp, .o 5 0 0 rp.length]⟩, ⟨82, 1, 0, true, ints .u64 rq⟩, ⟨30, 2, 0, true, [.b sq, .o 7 0 0 rq.length]⟩, ⟨82, 1, 0, true, ints .u64 rr⟩, ⟨30, 2, 0, true, [.b sr, .o 9 0 0 rr.length]⟩, ⟨82, 1, 0, true, ints .u64 (lm n)⟩, ⟨30, 2, 0, true, [.b (decide (n < 0)), .o 11 0 0 (lm n).length]⟩]) rfl ?_
        refine jc_region ?_
        refine jo_l (ly_mv rfl) (hd 101 rfl) ?_
        refine jo_call Try.f9 (num_s 60) rfl Try.func9 rfl rfl (ovL_cons rfl ovL_nil) (.cons .i .nil) (hd 102 rfl) ?_ (fun ch hp => by simp at hp)
        rintro y hy; injection hy with hy; subst hy
        refine jo_l (ly_ff (ly_ne rfl rfl) (fun h => h rfl)) (hd 103 rfl) ?_
        refine jo_l (ly_mv rfl) (hd 104 rfl) ?_
        refine jo_g 104 rfl rfl (ly_mv rfl) (hd 105 rfl) ?_
        refine jo_g 104 rfl rfl (ly_ff (ly_ne rfl rfl) (fun h => h rfl)) (hd 106 rfl) ?_
        refine jo_l (ly_pick_f rfl rfl) (hd 107 rfl) ?_
        refine jo_nil ?_
        refine jc_litf rfl ?_
        refine jc_skip ?_
        refine ⟨(), ?_, rfl, cov_n 8 rfl rfl ?_⟩
        · trivial
        · exact (.u (.u (.u (.u (.u (.u (.u (.u (.u (.u (.u (.u (.u (.u (.u (.u (.u (.u (.u (.u (.u (.u (.u .nil)))))))))))))))))))))))
    · rintro _ _
      refine jc_seq ?_
      refine jc_H (H' := [⟨27, 2, 0, true, [.b sa, .n false .u64 a]⟩, ⟨27, 2, 0, true, [.b sb, .n false .u64 b]⟩, ⟨30, 2, 0, true, [.b sa, .n true .u64 a]⟩, ⟨30, 2, 0, true, [.b sb, .n true .u64 b]⟩, ⟨35, 2, 0, true, [.b (decide ((sv sa a) < 0)), .n false .u64 (dg (sv sa a))]⟩, ⟨82, 1, 0, true, ints .u64 rp⟩, ⟨30, 2, 0, true, [.b sp, .o 5 0 0 rp.length]⟩, ⟨82, 1, 0, true, ints .u64 rq⟩, ⟨30, 2, 0, true, [.b sq, .o 7 0 0 rq.length]⟩, ⟨82, 1, 0, true, ints .u64 rr⟩, ⟨30, 2, 0, true, [.b sr, .o 9 0 0 rr.length]⟩, ⟨82, 1, 0, true, ints .u64 (lm n)⟩, ⟨30, 2, 0, true, [.b (decide (n < 0)), .o 11 0 0 (lm n).length]⟩]) rfl ?_
      refine jc_draw (n := 82) _ rfl mixed ?_
      refine ja_l2 0 [3, 4, 5, 6, 7, 8, 9, 10, 11, 12, 13, 14, 15, 16, 17, 18, 19, 20, 21, 22, 23, 24, 25, 26, 27, 28, 29, 30, 31, 32, 33, 34, 35, 36, 37, 38, 39, 40, 41, 42, 43, 44, 45, 46, 47, 48, 49, 50, 51, 52, 53, 54, 55, 56, 57, 58, 59, 60, 61, 62, 63, 64, 65, 66, 67, 68, 69, 70, 71, 72, 73, 74, 75, 76, 77, 78, 79, 80, 81] (lo_l (ly_lda agg30 rfl rfl rfl rfl) (hd 108 rfl)) rfl (by kernel_rfl) (by kernel_rfl) (by kernel_rfl) (by kernel_rfl) (fun _ _ _ _ h => h) ?_
      refine ja_l2 1 [3, 4, 5, 6, 7, 8, 9, 10, 11, 12, 13, 14, 15, 16, 17, 18, 19, 20, 21, 22, 23, 24, 25, 26, 27, 28, 29, 30, 31, 32, 33, 34, 35, 36, 37, 38, 39, 40, 41, 42, 43, 44, 45, 46, 47, 48, 49, 50, 51, 52, 53, 54, 55, 56, 57, 58, 59, 60, 61, 62, 63, 64, 65, 66, 67, 68, 69, 70, 71, 72, 73, 74, 75, 76, 77, 78, 79, 80, 81] (lo_l (ly_mv rfl) (hd 109 rfl)) rfl (by kernel_rfl) (by kernel_rfl) (by kernel_rfl) (by kernel_rfl) (fun _ _ _ _ h => h) ?_
      refine ja_l2 2 [3, 4, 5, 6, 7, 8, 9, 10, 11, 12, 13, 14, 15, 16, 17, 18, 19, 20, 21, 22, 23, 24, 25, 26, 27, 28, 29, 30, 31, 32, 33, 34, 35, 36, 37, 38, 39, 40, 41, 42, 43, 44, 45, 46, 47, 48, 49, 50, 51, 52, 53, 54, 55, 56, 57, 58, 59, 60, 61, 62, 63, 64, 65, 66, 67, 68, 69, 70, 71, 72, 73, 74, 75, 76, 77, 78, 79, 80, 81] (lo_l (ly_lda agg35 rfl rfl rfl rfl) (hd 110 rfl)) rfl (by kernel_rfl) (by kernel_rfl) (by kernel_rfl) (by kernel_rfl) (fun _ _ _ _ h => h) ?_
      refine ja_1 3 ?_ rfl (by kernel_rfl)
      refine js_callL Try.f47 (alike_s (sv sa a) sp rp ep hp (by omega)) rfl Try.func47 rfl rfl (ovL_cons rfl (ovL_cons rfl (ovL_cons rfl (ovL_cons rfl ovL_nil)))) (.a1 (.a1 .b (.a1 (.o rfl (by simp) (by rw [List.drop_zero, List.take_length])) .a0)) (.a1 .i (.a1 (.a1 .b (.a1 .n .a0)) (.a1 .i .a0)))) (.cons (.a1 .b (.a1 .n .a0)) (.cons .i (.cons (.a1 .b (.a1 .n .a0)) (.cons .i .nil)))) hL (fun y hy => by injection hy with hy; subst hy; rfl) (hd 111 rfl) ?_ (fun ch hp => by simp at hp)
      rintro y hy; injection hy with hy; subst hy
      refine ja_l2 4 [5, 6, 7, 8, 9, 10, 11, 12, 13, 14, 15, 16, 17, 18, 19, 20, 21, 22, 23, 24, 25, 26, 27, 28, 29, 30, 31, 32, 33, 34, 35, 36, 37, 38, 39, 40, 41, 42, 43, 44, 45, 46, 47, 48, 49, 50, 51, 52, 53, 54, 55, 56, 57, 58, 59, 60, 61, 62, 63, 64, 65, 66, 67, 68, 69, 70, 71, 72, 73, 74, 75, 76, 77, 78, 79, 80, 81] (lo_l (ly_mv rfl) (hd 112 rfl)) rfl (by kernel_rfl) (by kernel_rfl) (by kernel_rfl) (by kernel_rfl) (fun _ _ _ _ h => h) ?_
      refine ja_l2 5 [9, 10, 11, 12, 13, 14, 15, 16, 17, 18, 19, 20, 21, 22, 23, 24, 25, 26, 27, 28, 29, 30, 31, 32, 33, 34, 35, 36, 37, 38, 39, 40, 41, 42, 43, 44, 45, 46, 47, 48, 49, 50, 51, 52, 53, 54, 55, 56, 57, 58, 59, 60, 61, 62, 63, 64, 65, 66, 67, 68, 69, 70, 71, 72, 73, 74, 75, 76, 77, 78, 79, 80, 81] (lo_g 112 rfl rfl (ly_lda agg30 rfl rfl rfl rfl) (hd 113 rfl)) rfl (by kernel_rfl) (by kernel_rfl) (by kernel_rfl) (by kernel_rfl) (fun _ _ _ _ h => h) ?_
      refine ja_l2 6 [9, 10, 11, 12, 13, 14, 15, 16, 17, 18, 19, 20, 21, 22, 23, 24, 25, 26, 27, 28, 29, 30, 31, 32, 33, 34, 35, 36, 37, 38, 39, 40, 41, 42, 43, 44, 45, 46, 47, 48, 49, 50, 51, 52, 53, 54, 55, 56, 57, 58, 59, 60, 61, 62, 63, 64, 65, 66, 67, 68, 69, 70, 71, 72, 73, 74, 75, 76, 77, 78, 79, 80, 81] (lo_g 112 rfl rfl (ly_mv rfl) (hd 114 rfl)) rfl (by kernel_rfl) (by kernel_rfl) (by kernel_rfl) (by kernel_rfl) (fun _ _ _ _ h => h) ?_
      refine ja_l2 7 [8, 9, 10, 11, 12, 13, 14, 15, 16, 17, 18, 19, 20, 21, 22, 23, 24, 25, 26, 27, 28, 29, 30, 31, 32, 33, 34, 35, 36, 37, 38, 39, 40, 41, 42, 43, 44, 45, 46, 47, 48, 49, 50, 51, 52, 53, 54, 55, 56, 57, 58, 59, 60, 61, 62, 63, 64, 65, 66, 67, 68, 69, 70, 71, 72, 73, 74, 75, 76, 77, 78, 79, 80, 81] (lo_g 112 rfl rfl (ly_lda agg35 rfl rfl rfl rfl) (hd 115 rfl)) rfl (by kernel_rfl) (by kernel_rfl) (by kernel_rfl) (by kernel_rfl) (fun _ _ _ _ h => h) ?_
      refine ja_1 8 ?_ rfl (by kernel_rfl)
      refine js_callg Try.f48 112 rfl rfl (ZNeg_s (sv sa a)) rfl Try.func48 rfl rfl (ovL_cons rfl ovL_nil) (.cons (.a1 .b (.a1 .n .a0)) .nil) (hd 116 rfl) ?_ (fun ch hp => by simp at hp)
      rintro y hy; injection hy with hy; subst hy
      refine ja_1 9 ?_ rfl (by kernel_rfl)
      refine js_callLg Try.f47 112 rfl rfl (alike_s (-(sv sa a)) sq rq eq hq (by rw [dg_neg]; omega)) rfl Try.func47 rfl rfl (ovL_cons rfl (ovL_cons rfl (ovL_cons rfl (ovL_cons rfl ovL_nil)))) (.a1 (.a1 .b (.a1 (.o rfl (by simp) (by rw [List.drop_zero, List.take_length])) .a0)) (.a1 .i (.a1 (.a1 .b (.a1 .n .a0)) (.a1 .i .a0)))) (.cons (.a1 .b (.a1 .n .a0)) (.cons .i (.cons (.a1 .b (.a1 .n .a0)) (.cons .i .nil)))) hL (fun y hy => by injection hy with hy; subst hy; rfl) (hd 117 rfl) ?_ (fun ch hp => by simp at hp)
      rintro y hy; injection hy with hy; subst hy
      refine ja_l2 10 [11, 12, 13, 14, 15, 16, 17, 18, 19, 20, 21, 22, 23, 24, 25, 26, 27, 28, 29, 30, 31, 32, 33, 34, 35, 36, 37, 38, 39, 40, 41, 42, 43, 44, 45, 46, 47, 48, 49, 50, 51, 52, 53, 54, 55, 56, 57, 58, 59, 60, 61, 62, 63, 64, 65, 66, 67, 68, 69, 70, 71, 72, 73, 74, 75, 76, 77, 78, 79, 80, 81] (lo_l (ly_pick_t rfl rfl) (hd 118 rfl)) rfl (by kernel_rfl) (by kernel_rfl) (by kernel_rfl) (by kernel_rfl) (fun _ _ _ _ h => h) ?_
      refine ja_l2 11 [12, 13, 14, 15, 16, 17, 18, 19, 20, 21, 22, 23, 24, 25, 26, 27, 28, 29, 30, 31, 32, 33, 34, 35, 36, 37, 38, 39, 40, 41, 42, 43, 44, 45, 46, 47, 48, 49, 50, 51, 52, 53, 54, 55, 56, 57, 58, 59, 60, 61, 62, 63, 64, 65, 66, 67, 68, 69, 70, 71, 72, 73, 74, 75, 76, 77, 78, 79, 80, 81] (lo_l (ly_mv rfl) (hd 119 rfl)) rfl (by kernel_rfl) (by kernel_rfl) (by kernel_rfl) (by kernel_rfl) (fun _ _ _ _ h => h) ?_
      as_aux_lemma =>
        refine ja_l2 12 [16, 17, 18, 19, 20, 21, 22, 23, 24, 25, 26, 27, 28, 29, 30, 31, 32, 33, 34, 35, 36, 37, 38, 39, 40, 41, 42, 43, 44, 45, 46, 47, 48, 49, 50, 51, 52, 53, 54, 55, 56, 57, 58, 59, 60, 61, 62, 63, 64, 65, 66, 67, 68, 69, 70, 71, 72, 73, 74, 75, 76, 77, 78, 79, 80, 81] (lo_g 119 rfl rfl (ly_lda agg30 rfl rfl rfl rfl) (hd 120 rfl)) rfl (by kernel_rfl) (by kernel_rfl) (by kernel_rfl) (by kernel_rfl) (fun _ _ _ _ h => h) ?_
        refine ja_l2 13 [16, 17, 18, 19, 20, 21, 22, 23, 24, 25, 26, 27, 28, 29, 30, 31, 32, 33, 34, 35, 36, 37, 38, 39, 40, 41, 42, 43, 44, 45, 46, 47, 48, 49, 50, 51, 52, 53, 54, 55, 56, 57, 58, 59, 60, 61, 62, 63, 64, 65, 66, 67, 68, 69, 70, 71, 72, 73, 74, 75, 76, 77, 78, 79, 80, 81] (lo_g 119 rfl rfl (ly_mv rfl) (hd 121 rfl)) rfl (by kernel_rfl) (by kernel_rfl) (by kernel_rfl) (by kernel_rfl) (fun _ _ _ _ h => h) ?_
        refine ja_l2 14 [15, 16, 17, 18, 19, 20, 21, 22, 23, 24, 25, 26, 27, 28, 29, 30, 31, 32, 33, 34, 35, 36, 37, 38, 39, 40, 41, 42, 43, 44, 45, 46, 47, 48, 49, 50, 51, 52, 53, 54, 55, 56, 57, 58, 59, 60, 61, 62, 63, 64, 65, 66, 67, 68, 69, 70, 71, 72, 73, 74, 75, 76, 77, 78, 79, 80, 81] (lo_g 119 rfl rfl (ly_lda agg35 rfl rfl rfl rfl) (hd 122 rfl)) rfl (by kernel_rfl) (by kernel_rfl) (by kernel_rfl) (by kernel_rfl) (fun _ _ _ _ h => h) ?_
        refine ja_1 15 ?_ rfl (by kernel_rfl)
        refine js_callg Try.f32 119 rfl rfl (ZAbs_s (sv sa a)) rfl Try.func32 rfl rfl (ovL_cons rfl ovL_nil) (.cons (.a1 .b (.a1 .n .a0)) .nil) (hd 123 rfl) ?_ (fun ch hp => by simp at hp)
        rintro y hy; injection hy with hy; subst hy
        refine ja_1 16 ?_ rfl (by kernel_rfl)
        refine js_callLg Try.f47 119 rfl rfl (alike_s (((sv sa a)).natAbs : Int) sr rr er hr (by rw [dabs]; omega)) rfl Try.func47 rfl rfl (ovL_cons rfl (ovL_cons rfl (ovL_cons rfl (ovL_cons rfl ovL_nil)))) (.a1 (.a1 .b (.a1 (.o rfl (by simp) (by rw [List.drop_zero, List.take_length])) .a0)) (.a1 .i (.a1 (.a1 .b (.a1 .n .a0)) (.a1 .i .a0)))) (.cons (.a1 .b (.a1 .n .a0)) (.cons .i (.cons (.a1 .b (.a1 .n .a0)) (.cons .i .nil)))) hL (fun y hy => by injection hy with hy; subst hy; rfl) (hd 124 rfl) ?_ (fun ch hp => by simp at hp)
        rintro y hy; injection hy with hy; subst hy
        refine ja_l2 17 [18, 19, 20, 21, 22, 23, 24, 25, 26, 27, 28, 29, 30, 31, 32, 33, 34, 35, 36, 37, 38, 39, 40, 41, 42, 43, 44, 45, 46, 47, 48, 49, 50, 51, 52, 53, 54, 55, 56, 57, 58, 59, 60, 61, 62, 63, 64, 65, 66, 67, 68, 69, 70, 71, 72, 73, 74, 75, 76, 77, 78, 79, 80, 81] (lo_l (ly_pick_t rfl rfl) (hd 125 rfl)) rfl (by kernel_rfl) (by kernel_rfl) (by kernel_rfl) (by kernel_rfl) (fun _ _ _ _ h => h) ?_
        refine ja_l2 18 [19, 20, 21, 22, 23, 24, 25, 26, 27, 28, 29, 30, 31, 32, 33, 34, 35, 36, 37, 38, 39, 40, 41, 42, 43, 44, 45, 46, 47, 48, 49, 50, 51, 52, 53, 54, 55, 56, 57, 58, 59, 60, 61, 62, 63, 64, 65, 66, 67, 68, 69, 70, 71, 72, 73, 74, 75, 76, 77, 78, 79, 80, 81] (lo_l (ly_mv rfl) (hd 126 rfl)) rfl (by kernel_rfl) (by kernel_rfl) (by kernel_rfl) (by kernel_rfl) (fun _ _ _ _ h => h) ?_
        refine ja_l2 19 [20, 25, 26, 27, 28, 29, 30, 31, 32, 33, 34, 35, 36, 37, 38, 39, 40, 41, 42, 43, 44, 45, 46, 47, 48, 49, 50, 51, 52, 53, 54, 55, 56, 57, 58, 59, 60, 61, 62, 63, 64, 65, 66, 67, 68, 69, 70, 71, 72, 73, 74, 75, 76, 77, 78, 79, 80, 81] (lo_g 126 rfl rfl (ly_mv rfl) (hd 127 rfl)) rfl (by kernel_rfl) (by kernel_rfl) (by kernel_rfl) (by kernel_rfl) (fun _ _ _ _ h => h) ?_
        refine ja_l2 21 [22, 25, 26, 27, 28, 29, 30, 31, 32, 33, 34, 35, 36, 37, 38, 39, 40, 41, 42, 43, 44, 45, 46, 47, 48, 49, 50, 51, 52, 53, 54, 55, 56, 57, 58, 59, 60, 61, 62, 63, 64, 65, 66, 67, 68, 69, 70, 71, 72, 73, 74, 75, 76, 77, 78, 79, 80, 81] (lo_g 126 rfl rfl (ly_fa fld30_0 rfl rfl rfl) (hd 129 rfl)) rfl (by kernel_rfl) (by kernel_rfl) (by kernel_rfl) (by kernel_rfl) (fun _ _ _ _ h => h) ?_
        refine ja_l2 22 [25, 26, 27, 28, 29, 30, 31, 32, 33, 34, 35, 36, 37, 38, 39, 40, 41, 42, 43, 44, 45, 46, 47, 48, 49, 50, 51, 52, 53, 54, 55, 56, 57, 58, 59, 60, 61, 62, 63, 64, 65, 66, 67, 68, 69, 70, 71, 72, 73, 74, 75, 76, 77, 78, 79, 80, 81] (lo_g 126 rfl rfl (ly_ld one4 rfl rfl rfl) (hd 130 rfl)) rfl (by kernel_rfl) (by kernel_rfl) (by kernel_rfl) (by kernel_rfl) (fun _ _ _ _ h => h) ?_
        refine ja_l2 23 [24, 25, 26, 27, 28, 29, 30, 31, 32, 33, 34, 35, 36, 37, 38, 39, 40, 41, 42, 43, 44, 45, 46, 47, 48, 49, 50, 51, 52, 53, 54, 55, 56, 57, 58, 59, 60, 61, 62, 63, 64, 65, 66, 67, 68, 69, 70, 71, 72, 73, 74, 75, 76, 77, 78, 79, 80, 81] (lo_g 126 rfl rfl (ly_fa fld30_1 rfl rfl rfl) (hd 131 rfl)) rfl (by kernel_rfl) (by kernel_rfl) (by kernel_rfl) (by kernel_rfl) (fun _ _ _ _ h => h) ?_
        refine ja_l2 24 [25, 26, 27, 28, 29, 30, 31, 32, 33, 34, 35, 36, 37, 38, 39, 40, 41, 42, 43, 44, 45, 46, 47, 48, 49, 50, 51, 52, 53, 54, 55, 56, 57, 58, 59, 60, 61, 62, 63, 64, 65, 66, 67, 68, 69, 70, 71, 72, 73, 74, 75, 76, 77, 78, 79, 80, 81] (lo_g 126 rfl rfl (ly_ld one28 rfl rfl rfl) (hd 132 rfl)) rfl (by kernel_rfl) (by kernel_rfl) (by kernel_rfl) (by kernel_rfl) (fun _ _ _ _ h => h) ?_
        as_aux_lemma =>
          refine ja_1 20 ?_ rfl (by kernel_rfl)
          refine js_callg Try.f38 126 rfl rfl (ZInt_s n ⟨hn0, hn1⟩) rfl Try.func38 rfl rfl (ovL_cons rfl ovL_nil) (.cons .i .nil) (hd 128 rfl) ?_ (fun ch hp => by simp at hp)
          rintro y hy; injection hy with hy; subst hy
          refine ja_1 25 ?_ rfl (by kernel_rfl)
          refine js_callLg Try.f45 126 rfl rfl (ZIs_v n (by have := dg_lenN (lm_u n) (sv_lm n); omega)) rfl Try.func45 rfl rfl (ovL_cons rfl (ovL_cons rfl (ovL_cons rfl ovL_nil))) (.a1 (.a1 .b (.a1 .n .a0)) (.a1 .b (.a1 (.o rfl (by simp) (by rw [List.drop_zero, List.take_length])) .a0))) (.cons (.a1 .b (.a1 .n .a0)) (.cons .b (.cons .n .nil))) hL (fun y hy => by injection hy with hy; subst hy; rfl) (hd 133 rfl) ?_ (fun ch hp => by simp at hp)
          rintro y hy; injection hy with hy; subst hy
          refine ja_l2 26 [27, 28, 29, 30, 31, 32, 33, 34, 35, 36, 37, 38, 39, 40, 41, 42, 43, 44, 45, 46, 47, 48, 49, 50, 51, 52, 53, 54, 55, 56, 57, 58, 59, 60, 61, 62, 63, 64, 65, 66, 67, 68, 69, 70, 71, 72, 73, 74, 75, 76, 77, 78, 79, 80, 81] (lo_l (ly_pick_t rfl rfl) (hd 134 rfl)) rfl (by kernel_rfl) (by kernel_rfl) (by kernel_rfl) (by kernel_rfl) (fun _ _ _ _ h => h) ?_
          refine ja_l2 27 [28, 29, 30, 31, 32, 33, 34, 35, 36, 37, 38, 39, 40, 41, 42, 43, 44, 45, 46, 47, 48, 49, 50, 51, 52, 53, 54, 55, 56, 57, 58, 59, 60, 61, 62, 63, 64, 65, 66, 67, 68, 69, 70, 71, 72, 73, 74, 75, 76, 77, 78, 79, 80, 81] (lo_l (ly_mv rfl) (hd 135 rfl)) rfl (by kernel_rfl) (by kernel_rfl) (by kernel_rfl) (by kernel_rfl) (fun _ _ _ _ h => h) ?_
          refine ja_l2 28 [29, 30, 31, 32, 33, 34, 35, 36, 37, 38, 39, 40, 41, 42, 43, 44, 45, 46, 47, 48, 49, 50, 51, 52, 53, 54, 55, 56, 57, 58, 59, 60, 61, 62, 63, 64, 65, 66, 67, 68, 69, 70, 71, 72, 73, 74, 75, 76, 77, 78, 79, 80, 81] (lo_g 135 rfl rfl (ly_mv rfl) (hd 136 rfl)) rfl (by kernel_rfl) (by kernel_rfl) (by kernel_rfl) (by kernel_rfl) (fun _ _ _ _ h => h) ?_
          refine ja_1 29 ?_ rfl (by kernel_rfl)
          refine js_callg Try.f9 135 rfl rfl (num_s e2) rfl Try.func9 rfl rfl (ovL_cons rfl ovL_nil) (.cons .i .nil) (hd 137 rfl) ?_ (fun ch hp => by simp at hp)
          rintro y hy; injection hy with hy; subst hy
          refine ja_l2 30 [31, 32, 33, 34, 35, 36, 37, 38, 39, 40, 41, 42, 43, 44, 45, 46, 47, 48, 49, 50, 51, 52, 53, 54, 55, 56, 57, 58, 59, 60, 61, 62, 63, 64, 65, 66, 67, 68, 69, 70, 71, 72, 73, 74, 75, 76, 77, 78, 79, 80, 81] (lo_g 135 rfl rfl (ly_tt (ly_eq rfl rfl) he2) (hd 138 rfl)) rfl (by kernel_rfl) (by kernel_rfl) (by kernel_rfl) (by kernel_rfl) (fun _ _ _ _ h => h) ?_
          refine ja_l2 31 [32, 33, 34, 35, 36, 37, 38, 39, 40, 41, 42, 43, 44, 45, 46, 47, 48, 49, 50, 51, 52, 53, 54, 55, 56, 57, 58, 59, 60, 61, 62, 63, 64, 65, 66, 67, 68, 69, 70, 71, 72, 73, 74, 75, 76, 77, 78, 79, 80, 81] (lo_l (ly_pick_t rfl rfl) (hd 139 rfl)) rfl (by kernel_rfl) (by kernel_rfl) (by kernel_rfl) (by kernel_rfl) (fun _ _ _ _ h => h) ?_
          refine ja_l2 32 [33, 34, 35, 36, 37, 38, 39, 40, 41, 42, 43, 44, 45, 46, 47, 48, 49, 50, 51, 52, 53, 54, 55, 56, 57, 58, 59, 60, 61, 62, 63, 64, 65, 66, 67, 68, 69, 70, 71, 72, 73, 74, 75, 76, 77, 78, 79, 80, 81] (lo_l (ly_mv rfl) (hd 140 rfl)) rfl (by kernel_rfl) (by kernel_rfl) (by kernel_rfl) (by kernel_rfl) (fun _ _ _ _ h => h) ?_
          refine ja_l2 33 [35, 36, 37, 38, 39, 40, 41, 42, 43, 44, 45, 46, 47, 48, 49, 50, 51, 52, 53, 54, 55, 56, 57, 58, 59, 60, 61, 62, 63, 64, 65, 66, 67, 68, 69, 70, 71, 72, 73, 74, 75, 76, 77, 78, 79, 80, 81] (lo_g 140 rfl rfl (ly_mv rfl) (hd 141 rfl)) rfl (by kernel_rfl) (by kernel_rfl) (by kernel_rfl) (by kernel_rfl) (fun _ _ _ _ h => h) ?_
          refine ja_l2 34 [35, 36, 37, 38, 39, 40, 41, 42, 43, 44, 45, 46, 47, 48, 49, 50, 51, 52, 53, 54, 55, 56, 57, 58, 59, 60, 61, 62, 63, 64, 65, 66, 67, 68, 69, 70, 71, 72, 73, 74, 75, 76, 77, 78, 79, 80, 81] (lo_g 140 rfl rfl (ly_mv rfl) (hd 142 rfl)) rfl (by kernel_rfl) (by kernel_rfl) (by kernel_rfl) (by kernel_rfl) (fun _ _ _ _ h => h) ?_
          refine ja_l2 35 [36, 37, 38, 39, 40, 41, 42, 43, 44, 45, 46, 47, 48, 49, 50, 51, 52, 53, 54, 55, 56, 57, 58, 59, 60, 61, 62, 63, 64, 65, 66, 67, 68, 69, 70, 71, 72, 73, 74, 75, 76, 77, 78, 79, 80, 81] (lo_g 140 rfl rfl (ly_tt (ly_eq rfl rfl) hi2) (hd 143 rfl)) rfl (by kernel_rfl) (by kernel_rfl) (by kernel_rfl) (by kernel_rfl) (fun _ _ _ _ h => h) ?_
          as_aux_lemma =>
            refine ja_l2 36 [37, 38, 39, 40, 41, 42, 43, 44, 45, 46, 47, 48, 49, 50, 51, 52, 53, 54, 55, 56, 57, 58, 59, 60, 61, 62, 63, 64, 65, 66, 67, 68, 69, 70, 71, 72, 73, 74, 75, 76, 77, 78, 79, 80, 81] (lo_l (ly_pick_t rfl rfl) (hd 144 rfl)) rfl (by kernel_rfl) (by kernel_rfl) (by kernel_rfl) (by kernel_rfl) (fun _ _ _ _ h => h) ?_
            refine ja_l2 37 [38, 39, 40, 41, 42, 43, 44, 45, 46, 47, 48, 49, 50, 51, 52, 53, 54, 55, 56, 57, 58, 59, 60, 61, 62, 63, 64, 65, 66, 67, 68, 69, 70, 71, 72, 73, 74, 75, 76, 77, 78, 79, 80, 81] (lo_l (ly_mv rfl) (hd 145 rfl)) rfl (by kernel_rfl) (by kernel_rfl) (by kernel_rfl) (by kernel_rfl) (fun _ _ _ _ h => h) ?_
            refine ja_l2 38 [39, 41, 42, 43, 44, 45, 46, 47, 48, 49, 50, 51, 52, 53, 54, 55, 56, 57, 58, 59, 60, 61, 62, 63, 64, 65, 66, 67, 68, 69, 70, 71, 72, 73, 74, 75, 76, 77, 78, 79, 80, 81] (lo_g 145 rfl rfl (ly_lda agg30 rfl rfl rfl rfl) (hd 146 rfl)) rfl (by kernel_rfl) (by kernel_rfl) (by kernel_rfl) (by kernel_rfl) (fun _ _ _ _ h => h) ?_
            refine ja_l2 40 [41, 42, 43, 44, 45, 46, 47, 48, 49, 50, 51, 52, 53, 54, 55, 56, 57, 58, 59, 60, 61, 62, 63, 64, 65, 66, 67, 68, 69, 70, 71, 72, 73, 74, 75, 76, 77, 78, 79, 80, 81] (lo_g 145 rfl rfl (ly_lda agg35 rfl rfl rfl rfl) (hd 148 rfl)) rfl (by kernel_rfl) (by kernel_rfl) (by kernel_rfl) (by kernel_rfl) (fun _ _ _ _ h => h) ?_
            refine ja_1 39 ?_ rfl (by kernel_rfl)
            refine js_callg Try.f36 145 rfl rfl (WSign_s sa a (by omega) ua) rfl Try.func36 rfl rfl (ovL_cons rfl ovL_nil) (.cons (.a1 .b (.a1 .n .a0)) .nil) (hd 147 rfl) ?_ (fun ch hp => by simp at hp)
            rintro y hy; injection hy with hy; subst hy
            refine ja_1 41 ?_ rfl (by kernel_rfl)
            refine js_callg Try.f13 145 rfl rfl (ZSign_s (sv sa a)) rfl Try.func13 rfl rfl (ovL_cons rfl ovL_nil) (.cons (.a1 .b (.a1 .n .a0)) .nil) (hd 149 rfl) ?_ (fun ch hp => by simp at hp)
            rintro y hy; injection hy with hy; subst hy
            refine ja_l2 42 [43, 44, 45, 46, 47, 48, 49, 50, 51, 52, 53, 54, 55, 56, 57, 58, 59, 60, 61, 62, 63, 64, 65, 66, 67, 68, 69, 70, 71, 72, 73, 74, 75, 76, 77, 78, 79, 80, 81] (lo_g 145 rfl rfl (ly_tt (ly_eq rfl rfl) rfl) (hd 150 rfl)) rfl (by kernel_rfl) (by kernel_rfl) (by kernel_rfl) (by kernel_rfl) (fun _ _ _ _ h => h) ?_
            refine ja_l2 43 [44, 45, 46, 47, 48, 49, 50, 51, 52, 53, 54, 55, 56, 57, 58, 59, 60, 61, 62, 63, 64, 65, 66, 67, 68, 69, 70, 71, 72, 73, 74, 75, 76, 77, 78, 79, 80, 81] (lo_l (ly_pick_t rfl rfl) (hd 151 rfl)) rfl (by kernel_rfl) (by kernel_rfl) (by kernel_rfl) (by kernel_rfl) (fun _ _ _ _ h => h) ?_
            refine ja_l2 44 [45, 46, 47, 48, 49, 50, 51, 52, 53, 54, 55, 56, 57, 58, 59, 60, 61, 62, 63, 64, 65, 66, 67, 68, 69, 70, 71, 72, 73, 74, 75, 76, 77, 78, 79, 80, 81] (lo_l (ly_mv rfl) (hd 152 rfl)) rfl (by kernel_rfl) (by kernel_rfl) (by kernel_rfl) (by kernel_rfl) (fun _ _ _ _ h => h) ?_
            refine ja_l2 45 [47, 50, 51, 52, 53, 54, 55, 56, 57, 58, 59, 60, 61, 62, 63, 64, 65, 66, 67, 68, 69, 70, 71, 72, 73, 74, 75, 76, 77, 78, 79, 80, 81] (lo_g 152 rfl rfl (ly_lda agg30 rfl rfl rfl rfl) (hd 153 rfl)) rfl (by kernel_rfl) (by kernel_rfl) (by kernel_rfl) (by kernel_rfl) (fun _ _ _ _ h => h) ?_
            refine ja_l2 46 [47, 50, 51, 52, 53, 54, 55, 56, 57, 58, 59, 60, 61, 62, 63, 64, 65, 66, 67, 68, 69, 70, 71, 72, 73, 74, 75, 76, 77, 78, 79, 80, 81] (lo_g 152 rfl rfl (ly_lda agg30 rfl rfl rfl rfl) (hd 154 rfl)) rfl (by kernel_rfl) (by kernel_rfl) (by kernel_rfl) (by kernel_rfl) (fun _ _ _ _ h => h) ?_
            refine ja_l2 48 [51, 52, 53, 54, 55, 56, 57, 58, 59, 60, 61, 62, 63, 64, 65, 66, 67, 68, 69, 70, 71, 72, 73, 74, 75, 76, 77, 78, 79, 80, 81] (lo_g 152 rfl rfl (ly_lda agg35 rfl rfl rfl rfl) (hd 156 rfl)) rfl (by kernel_rfl) (by kernel_rfl) (by kernel_rfl) (by kernel_rfl) (fun _ _ _ _ h => h) ?_
            as_aux_lemma =>
              refine ja_l2 49 [50, 51, 52, 53, 54, 55, 56, 57, 58, 59, 60, 61, 62, 63, 64, 65, 66, 67, 68, 69, 70, 71, 72, 73, 74, 75, 76, 77, 78, 79, 80, 81] (lo_g 152 rfl rfl (ly_lda agg27 rfl rfl rfl rfl) (hd 157 rfl)) rfl (by kernel_rfl) (by kernel_rfl) (by kernel_rfl) (by kernel_rfl) (fun _ _ _ _ h => h) ?_
              refine ja_1 47 ?_ rfl (by kernel_rfl)
              refine js_callg Try.f49 152 rfl rfl (WCmp_s sa sb a b (by omega) (by omega) ua ub) rfl Try.func49 rfl rfl (ovL_cons rfl (ovL_cons rfl ovL_nil)) (.cons (.a1 .b (.a1 .n .a0)) (.cons (.a1 .b (.a1 .n .a0)) .nil)) (hd 155 rfl) ?_ (fun ch hp => by simp at hp)
              rintro y hy; injection hy with hy; subst hy
              refine ja_1 50 ?_ rfl (by kernel_rfl)
              refine js_callg Try.f12 152 rfl rfl (of_s sb b (by omega) ub) rfl Try.func12 rfl rfl (ovL_cons rfl ovL_nil) (.cons (.a1 .b (.a1 .n .a0)) .nil) (hd 158 rfl) ?_ (fun ch hp => by simp at hp)
              rintro y hy; injection hy with hy; subst hy
              refine ja_1 51 ?_ rfl (by kernel_rfl)
              refine js_callg Try.f34 152 rfl rfl (ZCmp_s (sv sa a) (sv sb b) (by omega) (by omega)) rfl Try.func34 rfl rfl (ovL_cons rfl (ovL_cons rfl ovL_nil)) (.cons (.a1 .b (.a1 .n .a0)) (.cons (.a1 .b (.a1 .n .a0)) .nil)) (hd 159 rfl) ?_ (fun ch hp => by simp at hp)
              rintro y hy; injection hy with hy; subst hy
              refine ja_l2 52 [53, 54, 55, 56, 57, 58, 59, 60, 61, 62, 63, 64, 65, 66, 67, 68, 69, 70, 71, 72, 73, 74, 75, 76, 77, 78, 79, 80, 81] (lo_g 152 rfl rfl (ly_tt (ly_eq rfl rfl) rfl) (hd 160 rfl)) rfl (by kernel_rfl) (by kernel_rfl) (by kernel_rfl) (by kernel_rfl) (fun _ _ _ _ h => h) ?_
              refine ja_l2 53 [54, 55, 56, 57, 58, 59, 60, 61, 62, 63, 64, 65, 66, 67, 68, 69, 70, 71, 72, 73, 74, 75, 76, 77, 78, 79, 80, 81] (lo_l (ly_pick_t rfl rfl) (hd 161 rfl)) rfl (by kernel_rfl) (by kernel_rfl) (by kernel_rfl) (by kernel_rfl) (fun _ _ _ _ h => h) ?_
              refine ja_l2 54 [55, 56, 57, 58, 59, 60, 61, 62, 63, 64, 65, 66, 67, 68, 69, 70, 71, 72, 73, 74, 75, 76, 77, 78, 79, 80, 81] (lo_l (ly_mv rfl) (hd 162 rfl)) rfl (by kernel_rfl) (by kernel_rfl) (by kernel_rfl) (by kernel_rfl) (fun _ _ _ _ h => h) ?_
              refine ja_l2 55 [56, 63, 64, 65, 66, 67, 68, 69, 70, 71, 72, 73, 74, 75, 76, 77, 78, 79, 80, 81] (lo_g 162 rfl rfl (ly_fa fld30_1 rfl rfl rfl) (hd 163 rfl)) rfl (by kernel_rfl) (by kernel_rfl) (by kernel_rfl) (by kernel_rfl) (fun _ _ _ _ h => h) ?_
              refine ja_l2 56 [63, 64, 65, 66, 67, 68, 69, 70, 71, 72, 73, 74, 75, 76, 77, 78, 79, 80, 81] (lo_g 162 rfl rfl (ly_ld one28 rfl rfl rfl) (hd 164 rfl)) rfl (by kernel_rfl) (by kernel_rfl) (by kernel_rfl) (by kernel_rfl) (fun _ _ _ _ h => h) ?_
              refine ja_l2 57 [58, 63, 64, 65, 66, 67, 68, 69, 70, 71, 72, 73, 74, 75, 76, 77, 78, 79, 80, 81] (lo_g 162 rfl rfl (ly_fa fld30_1 rfl rfl rfl) (hd 165 rfl)) rfl (by kernel_rfl) (by kernel_rfl) (by kernel_rfl) (by kernel_rfl) (fun _ _ _ _ h => h) ?_
              refine ja_l2 58 [63, 64, 65, 66, 67, 68, 69, 70, 71, 72, 73, 74, 75, 76, 77, 78, 79, 80, 81] (lo_g 162 rfl rfl (ly_ld one28 rfl rfl rfl) (hd 166 rfl)) rfl (by kernel_rfl) (by kernel_rfl) (by kernel_rfl) (by kernel_rfl) (fun _ _ _ _ h => h) ?_
              refine ja_l2 59 [60, 63, 64, 65, 66, 67, 68, 69, 70, 71, 72, 73, 74, 75, 76, 77, 78, 79, 80, 81] (lo_g 162 rfl rfl (ly_fa fld30_1 rfl rfl rfl) (hd 167 rfl)) rfl (by kernel_rfl) (by kernel_rfl) (by kernel_rfl) (by kernel_rfl) (fun _ _ _ _ h => h) ?_
              as_aux_lemma =>
                refine ja_l2 60 [63, 64, 65, 66, 67, 68, 69, 70, 71, 72, 73, 74, 75, 76, 77, 78, 79, 80, 81] (lo_g 162 rfl rfl (ly_ld one28 rfl rfl rfl) (hd 168 rfl)) rfl (by kernel_rfl) (by kernel_rfl) (by kernel_rfl) (by kernel_rfl) (fun _ _ _ _ h => h) ?_
                refine ja_l2 61 [62, 63, 64, 65, 66, 67, 68, 69, 70, 71, 72, 73, 74, 75, 76, 77, 78, 79, 80, 81] (lo_g 162 rfl rfl (ly_fa fld30_1 rfl rfl rfl) (hd 169 rfl)) rfl (by kernel_rfl) (by kernel_rfl) (by kernel_rfl) (by kernel_rfl) (fun _ _ _ _ h => h) ?_
                refine ja_l2 62 [63, 64, 65, 66, 67, 68, 69, 70, 71, 72, 73, 74, 75, 76, 77, 78, 79, 80, 81] (lo_g 162 rfl rfl (ly_ld one28 rfl rfl rfl) (hd 170 rfl)) rfl (by kernel_rfl) (by kernel_rfl) (by kernel_rfl) (by kernel_rfl) (fun _ _ _ _ h => h) ?_
                refine ja_1 63 ?_ rfl (by kernel_rfl)
                refine js_hg 162 rfl rfl (hy_lit (id := 13) (xs := [.tmp 164, .tmp 166, .tmp 168, .tmp 170]) el81 rfl (ovL_cons rfl (ovL_cons rfl (ovL_cons rfl (ovL_cons rfl ovL_nil)))) rfl (all2_of rfl) (by decide) rfl) (hd 171 rfl) ?_
                refine ja_1 64 ?_ rfl (by kernel_rfl)
                refine js_callGg Try.f25 162 rfl rfl (sel := [13, 5, 7, 9, 11]) (Own_s 4 (by decide) (rsOf [rp, rq, rr, (lm n)]) (fun j _ => rsOf_len (by simp; omega) (by decide) j)) rfl Try.func25 rfl rfl (ovL_cons rfl ovL_nil) rfl rfl (.cons rfl rfl (.cons rfl (renL_ints _ _ _) (.cons rfl (renL_ints _ _ _) (.cons rfl (renL_ints _ _ _) (.cons rfl (renL_ints _ _ _) .nil))))) (by decide) ow_ids ow_fresh (fun y G h => by cases h; rfl) (hd 172 rfl) ?_ (fun ch G hp => by cases hp) rfl
                rintro y G hy; injection hy with hy; subst hy
                refine ja_l2 65 [66, 67, 68, 69, 70, 71, 72, 73, 74, 75, 76, 77, 78, 79, 80, 81] (lo_l (ly_pick_t rfl rfl) (hd 173 rfl)) rfl (by kernel_rfl) (by kernel_rfl) (by kernel_rfl) (by kernel_rfl) (fun _ _ _ _ h => h) ?_
                refine ja_l2 66 [67, 68, 69, 70, 71, 72, 73, 74, 75, 76, 77, 78, 79, 80, 81] (lo_l (ly_mv rfl) (hd 174 rfl)) rfl (by kernel_rfl) (by kernel_rfl) (by kernel_rfl) (by kernel_rfl) (fun _ _ _ _ h => h) ?_
                refine ja_l2 67 [70, 71, 72, 73, 74, 75, 76, 77, 78, 79, 80, 81] (lo_g 174 rfl rfl (ly_mv rfl) (hd 175 rfl)) rfl (by kernel_rfl) (by kernel_rfl) (by kernel_rfl) (by kernel_rfl) (fun _ _ _ _ h => h) ?_
                refine ja_l2 68 [69, 70, 71, 72, 73, 74, 75, 76, 77, 78, 79, 80, 81] (lo_g 174 rfl rfl (ly_fa fld27_1 rfl rfl rfl) (hd 176 rfl)) rfl (by kernel_rfl) (by kernel_rfl) (by kernel_rfl) (by kernel_rfl) (fun _ _ _ _ h => h) ?_
                refine ja_l2 69 [70, 71, 72, 73, 74, 75, 76, 77, 78, 79, 80, 81] (lo_g 174 rfl rfl (ly_ld one25 rfl rfl rfl) (hd 177 rfl)) rfl (by kernel_rfl) (by kernel_rfl) (by kernel_rfl) (by kernel_rfl) (fun _ _ _ _ h => h) ?_
                refine ja_1 70 ?_ rfl (by kernel_rfl)
                refine js_callg Try.f26 174 rfl rfl (Kept_s a (by omega)) rfl Try.func26 rfl rfl (ovL_cons rfl (ovL_cons rfl ovL_nil)) (.cons .n (.cons .n .nil)) (hd 178 rfl) ?_ (fun ch hp => by simp at hp)
                rintro y hy; injection hy with hy; subst hy
                refine ja_l2 71 [72, 73, 74, 75, 76, 77, 78, 79, 80, 81] (lo_l (ly_pick_t rfl rfl) (hd 179 rfl)) rfl (by kernel_rfl) (by kernel_rfl) (by kernel_rfl) (by kernel_rfl) (fun _ _ _ _ h => h) ?_
                as_aux_lemma =>
                  refine ja_l2 72 [73, 74, 75, 76, 77, 78, 79, 80, 81] (lo_l (ly_mv rfl) (hd 180 rfl)) rfl (by kernel_rfl) (by kernel_rfl) (by kernel_rfl) (by kernel_rfl) (fun _ _ _ _ h => h) ?_
                  refine ja_l2 73 [76, 77, 78, 79, 80, 81] (lo_g 180 rfl rfl (ly_mv rfl) (hd 181 rfl)) rfl (by kernel_rfl) (by kernel_rfl) (by kernel_rfl) (by kernel_rfl) (fun _ _ _ _ h => h) ?_
                  refine ja_l2 74 [75, 76, 77, 78, 79, 80, 81] (lo_g 180 rfl rfl (ly_fa fld27_1 rfl rfl rfl) (hd 182 rfl)) rfl (by kernel_rfl) (by kernel_rfl) (by kernel_rfl) (by kernel_rfl) (fun _ _ _ _ h => h) ?_
                  refine ja_l2 75 [76, 77, 78, 79, 80, 81] (lo_g 180 rfl rfl (ly_ld one25 rfl rfl rfl) (hd 183 rfl)) rfl (by kernel_rfl) (by kernel_rfl) (by kernel_rfl) (by kernel_rfl) (fun _ _ _ _ h => h) ?_
                  refine ja_1 76 ?_ rfl (by kernel_rfl)
                  refine js_callg Try.f26 180 rfl rfl (Kept_s b (by omega)) rfl Try.func26 rfl rfl (ovL_cons rfl (ovL_cons rfl ovL_nil)) (.cons .n (.cons .n .nil)) (hd 184 rfl) ?_ (fun ch hp => by simp at hp)
                  rintro y hy; injection hy with hy; subst hy
                  refine ja_l2 77 [78, 79, 80, 81] (lo_l (ly_pick_t rfl rfl) (hd 185 rfl)) rfl (by kernel_rfl) (by kernel_rfl) (by kernel_rfl) (by kernel_rfl) (fun _ _ _ _ h => h) ?_
                  refine ja_l 78 (lo_l (ly_mv rfl) (hd 186 rfl)) rfl (by kernel_rfl) (by kernel_rfl) (by kernel_rfl) (fun _ _ _ _ h => h) ?_
                  refine ja_1 79 ?_ rfl (by kernel_rfl)
                  refine js_callg Try.f10 186 rfl rfl (awake_s) rfl Try.func10 rfl rfl ovL_nil .nil (hd 187 rfl) ?_ (fun ch hp => by simp at hp)
                  rintro y hy; injection hy with hy; subst hy
                  refine ja_l 80 (lo_l (ly_pick_t rfl rfl) (hd 188 rfl)) rfl (by kernel_rfl) (by kernel_rfl) (by kernel_rfl) (fun _ _ _ _ h => h) ?_
                  refine ja_l 81 (lo_l (ly_as rfl) (hd 6 rfl)) rfl (by kernel_rfl) (by kernel_rfl) (by kernel_rfl) (fun _ _ _ _ h => h) ?_
                  refine ja_nil (by kernel_rfl) ?_
                  refine jc_ret ?_
                  refine ⟨_, _, (.cons rfl .nil), .b, ?_⟩
                  exact rfl
end Go.Proofs.Ytcdipmjgpimmdaa.Vc

/- Two numbers with a sign, and more, that are handed in. -/
set_option linter.unusedVariables false
set_option linter.unusedSimpArgs false
namespace Go.Proofs.Ytcdipmjgpimmdaa.Vc
open Go Go.RowKit
theorem short2b {H : Type} {d0 d1 : DataW H} {r : List (DataW H)} {l0 l1 : List Int} (hk : Rows.uptoSmall H (d0 :: d1 :: r) = true) (h0 : l0.length + 2 ≤ Rows.uptoBulk d0) (h1 : l1.length + 2 ≤ Rows.uptoBulk d1) : l0.length + l1.length ≤ 1048572 := by
  have h : Rows.uptoBulkAll (d0 :: d1 :: r) ≤ 1048576 := of_decide_eq_true hk
  simp only [Rows.uptoBulkAll] at h
  omega
end Go.Proofs.Ytcdipmjgpimmdaa.Vc

/- The law WholeMakes of every input of bulk at most 1048576: it returns true, and the input reads as it did. -/
namespace Go.Proofs.Ytcdipmjgpimmdaa.wholeMakes
open Go Go.ChangeShapes Go.WideShapes Go.ChangeAt Go.RowKit
open Go.ChangeMaps (open_string shut_string)
set_option linter.unusedVariables false

theorem own : ownKnob Try.prog.godebug = none := by kernel_rfl
theorem laidOut : laidOutB Try.prog = true := by kernel_rfl
set_option maxRecDepth 100000 in
theorem lifted (os : Os) (started : os.Started) (H : Type) (enc : TypeId × Value → H) (F : Stop.Interp) :
    ReturnsInHanded {} Try.checked os 6 .any ((Rows.OpenSpec.upto Rows.wholeMakesSpec).pre6 enc Try.prog Try.f6 Rows.wholeMakesUptoRow.domain false) (((Rows.OpenSpec.upto Rows.wholeMakesSpec).at F).post enc Try.prog Try.f6 false true false false) := by
  refine returnsInHanded_of_cond (C := Try.checked) (s := Rows.OpenSpec.upto Rows.wholeMakesSpec) (k := Rows.uptoSmall) rfl own started (by kernel_rfl) Try.func6
    (OpenSpec.witness (enc := enc) (C := Try.checked) (s := Rows.OpenSpec.upto Rows.wholeMakesSpec) (k := Rows.uptoSmall) rfl false ⟨#[], #[.agg #[.bool false, .slice none 0 0], .agg #[.bool false, .slice none 0 0], .int .i64 0], []⟩ 8 (by kernel_rfl) (by kernel_rfl) (by kernel_rfl)
      (x := ([.agg [.lit (.bool false), .nil], .agg [.lit (.bool false), .nil], .lit (.int .i64 0)], [], [])) (by kernel_rfl) rfl (by kernel_rfl)) ?_
  intro W base args ds gs before hval0 hW _ hk _
  have hval : ∀ (j : Nat) t v, Try.f6.params[j]? = some t → args[j]? = some v → Value.okWide Try.prog W .any base t v := hval0
  have hW' := hW
  obtain ⟨p, q, hA0, hV, rfl, hfz, hnd⟩ := hW
  have hA : DataW.TrodAll enc Try.prog W 0 (fun _ => true) true Try.f6.params.toList args.toList ds p := hA0
  rw [Try.params6] at hA hval
  obtain ⟨v0, vs0, d0, ds0, p0, q0, hargs, rfl, rfl, h0, r0⟩ := trodAll_cons hA
  obtain ⟨v1, vs1, d1, ds1, p1, q1, rfl, rfl, rfl, h1, r1⟩ := trodAll_cons r0
  obtain ⟨v2, vs2, d2, ds2, p2, q2, rfl, rfl, rfl, h2, r2⟩ := trodAll_cons r1
  obtain ⟨rfl, rfl, rfl⟩ := trodAll_nil r2
  obtain rfl : args = #[v0, v1, v2] := by cases args; simp_all
  obtain ⟨rfl, rfl⟩ := trodVars_none hV
  have hk0 := h0
  obtain ⟨s0, l0, rel0, hb0, ul0⟩ := Vc.openW (hval 0 27 v0 rfl rfl) h0
  have hk1 := h1
  obtain ⟨s1, l1, rel1, hb1, ul1⟩ := Vc.openW (hval 1 27 v1 rfl rfl) h1
  obtain ⟨a2, rfl, rfl, rfl, w2⟩ := open_int Try.underlying3 (hval 2 3 v2 rfl rfl) h2
  clear hA0 hval0
  simp only [List.append_nil] at hW' hk
  refine (Vc.spec_calls (vals := [v0, v1, .int .i64 a2]) (Vc.WholeMakes_s s0 s1 l0 l1 a2 (by have := Vc.short2b hk hb0 hb1; omega) (by have := Vc.short2b hk hb0 hb1; omega) ul0 ul1 (by have := w2; simp [Lit.wf, IntKind.min, IntKind.max, IntKind.signed, IntKind.bits] at this; omega) (by have := w2; simp [Lit.wf, IntKind.min, IntKind.max, IntKind.signed, IntKind.bits] at this; omega)) W (⟨_, _, rfl, rel0, ⟨_, _, rfl, rel1, ⟨_, _, rfl, rfl, rfl⟩⟩⟩)).mono fun e W' ⟨he, hb⟩ => ?_
  subst he
  have hlt : ∀ x ∈ p0 ++ p1, x.block < W.heap.size := fun x hx => by simpa using hW'.lt x (by simpa using hx)
  exact ⟨_, rfl, Vc.post_of_below (pa := (p0 ++ (p1 ++ ([] ++ [])))) (pv := []) hW' (fun _ _ _ => (trodAll_cons_mk (shut_bool Try.underlying4 _) trodAll_mk0)) (fun sp hsp => (trodAll_cons_mk (Go.WideElems.Trod_stays laidOut (by kernel_rfl) (of_decide_eq_true (by kernel_rfl)) hk0 (fun x hx => hb.same (hlt x (by simp [hx]))) (fun x hx => hsp x (by simp [hx]))) (trodAll_cons_mk (Go.WideElems.Trod_stays laidOut (by kernel_rfl) (of_decide_eq_true (by kernel_rfl)) hk1 (fun x hx => hb.same (hlt x (by simp [hx]))) (fun x hx => hsp x (by simp [hx]))) (trodAll_cons_mk (shut_int Try.underlying3 w2) trodAll_mk0)))) (fun _ _ => rfl) (by simp) hb⟩

theorem proved : Rows.WholeMakesUptoSaid :=
  OpenClaim.holds_of_cond 6 Try.f6 rfl rfl rfl rfl rfl rfl rfl ⟨rfl, rfl, rfl, rfl, rfl⟩ rfl rfl rfl rfl rfl (by kernel_rfl) Try.func6 (by kernel_rfl)
    (of_decide_eq_true (by kernel_rfl)) (by unfold Func.isWrapper; first | (rw [if_pos (by decide +kernel)]; kernel_rfl) | (rw [if_neg (by decide +kernel)]; exact ⟨rfl, rfl⟩))
    (fun os started H enc _ F => lifted os started H enc F)
end Go.Proofs.Ytcdipmjgpimmdaa.wholeMakes
