/- Asked again over limbs that were written over between, sums, products and sizes are what they say then, and kept ones stay, of every input of bulk at most 1048576 Texts joined: Yb, Ye, Yg, Yh, Yi, Yj, Yk, Yl, Ym, Yz, Pa, Zf, Zg, Zh, Zi, Zj, Zn, Zo. -/
import Derived.Test.YthocbnfkjlgclaaK5
set_option linter.unusedVariables false
set_option linter.unusedSimpArgs false
/- Contracts of the references' numbers with a sign; alike. -/
namespace Go.Proofs.Ythocbnfkjlgclaa.Vc
open Go Go.RowKit
theorem make1_z (s : Bool) (n : Nat) : Spec Try.prog 62 [.b s, .n false .u64 (digs B32 n)] (fun o => o = .ret (.a [.b (decide ((zs s n) < 0)), .n false .u64 (dg (zs s n))])) := by
  have h := make1_s s (digs B32 n)
  rw [mk_zs] at h
  rw [dg_zs]
  exact h
theorem make1_o (s : Bool) (l : List Int) (hu : u64s l) : Spec Try.prog 62 [.b s, .n false .u64 (trm (dig l))] (fun o => o = .ret (.a [.b (decide ((sv s l) < 0)), .n false .u64 (dg (sv s l))])) := by
  have h := make1_s s (trm (dig l))
  rw [zv_of hu, trm_dig (s := s) hu rfl] at h
  rw [trm_dig (s := s) hu rfl]
  exact h

set_option maxHeartbeats 4000000 in
theorem ZOf_s (s : Bool) (l : List Int) (hl : l.length < 4294967296) (hu : u64s l) : Spec Try.prog 19 [.b s, .n false .u64 l] (fun o => o = .ret (.a [.b (decide ((sv s l) < 0)), .n false .u64 (dg (sv s l))])) := by
  refine spec_of' [(0, .b s), (1, .n false .u64 l)] rfl Try.func19 rfl (Nat.le_of_ble_eq_true rfl) fun Γ hN hds hL hR => ?_
  have hd : ∀ d, Nat.blt d 9 = true → d < Γ.N := fun d h => by rw [hN]; exact Nat.le_of_ble_eq_true h
  refine jc_seq ?_; refine jc_region ?_; refine jo_h (hy_alloc (id := 0) zero35 (by decide) rfl (by decide) rfl) (hd 4 rfl) ?_; refine jo_nil ?_; refine jc_seq ?_; refine jc_region ?_; refine jo_l (ly_mv rfl) (hd 5 rfl) ?_; refine jo_l (ly_mv rfl) (hd 6 rfl) ?_
  refine jo_call Try.f42 (rOf_s l hl hu) rfl Try.func42 rfl rfl (ovL_cons rfl ovL_nil) (.cons .n .nil) (hd 7 rfl) ?_ (fun ch hp => by simp at hp)
  rintro y hy; injection hy with hy; subst hy
  refine jo_call Try.f62 (make1_o s l hu) rfl Try.func62 rfl rfl (ovL_cons rfl (ovL_cons rfl ovL_nil)) (.cons .b (.cons .n .nil)) (hd 8 rfl) ?_ (fun ch hp => by simp at hp)
  rintro y hy; injection hy with hy; subst hy; refine jo_st (sy_store rfl rfl rfl siz35 rfl rfl (Nat.le_of_ble_eq_true rfl)) ?_; refine jo_nil ?_; refine jc_ret ?_
  refine ⟨_, _, (.cons (ResV.cell agg35 rfl rfl rfl rfl) .nil), (.a1 .b (.a1 .n .a0)), ?_⟩
  exact rfl

set_option maxHeartbeats 4000000 in
theorem of_s (s : Bool) (l : List Int) (hl : l.length < 4294967296) (hu : u64s l) : Spec Try.prog 14 [.a [.b s, .n false .u64 l]] (fun o => o = .ret (.a [.b (decide ((sv s l) < 0)), .n false .u64 (dg (sv s l))])) := by
  refine spec_of' [(0, .a [.b s, .n false .u64 l])] rfl Try.func14 rfl (Nat.le_of_ble_eq_true rfl) fun Γ hN hds hL hR => ?_
  have hd : ∀ d, Nat.blt d 8 = true → d < Γ.N := fun d h => by rw [hN]; exact Nat.le_of_ble_eq_true h
  refine jc_seq ?_; refine jc_region ?_; refine jo_h (hy_box (id := 0) (n := 2) rfl rfl rfl (by decide) rfl) (hd 1 rfl) ?_; refine jo_h (hy_alloc (id := 1) zero35 (by decide) rfl (by decide) rfl) (hd 2 rfl) ?_; refine jo_nil ?_; refine jc_seq ?_; refine jc_region ?_; refine jo_l (ly_fa fld27_0 rfl rfl rfl) (hd 3 rfl) ?_; refine jo_l (ly_ld one4 rfl rfl rfl) (hd 4 rfl) ?_; refine jo_l (ly_fa fld27_1 rfl rfl rfl) (hd 5 rfl) ?_; refine jo_l (ly_ld one25 rfl rfl rfl) (hd 6 rfl) ?_
  refine jo_call Try.f19 (ZOf_s s l hl hu) rfl Try.func19 rfl rfl (ovL_cons rfl (ovL_cons rfl ovL_nil)) (.cons .b (.cons .n .nil)) (hd 7 rfl) ?_ (fun ch hp => by simp at hp)
  rintro y hy; injection hy with hy; subst hy; refine jo_st (sy_store rfl rfl rfl siz35 rfl rfl (Nat.le_of_ble_eq_true rfl)) ?_; refine jo_nil ?_; refine jc_ret ?_
  refine ⟨_, _, (.cons (ResV.cell agg35 rfl rfl rfl rfl) .nil), (.a1 .b (.a1 .n .a0)), ?_⟩
  exact rfl

set_option maxHeartbeats 4000000 in
theorem ZAdd_s (x y : Int) (hx : (dg x).length < 549755813888) (hy : (dg y).length < 549755813888) : Spec Try.prog 20 [.a [.b (decide (x < 0)), .n false .u64 (dg x)], .a [.b (decide (y < 0)), .n false .u64 (dg y)]] (fun o => o = .ret (.a [.b (decide ((x + y) < 0)), .n false .u64 (dg (x + y))])) := by
  refine spec_of' [(0, .a [.b (decide (x < 0)), .n false .u64 (dg x)]), (1, .a [.b (decide (y < 0)), .n false .u64 (dg y)])] rfl Try.func20 rfl (Nat.le_of_ble_eq_true rfl) fun Γ hN hds hL hR => ?_
  have hd : ∀ d, Nat.blt d 40 = true → d < Γ.N := fun d h => by rw [hN]; exact Nat.le_of_ble_eq_true h
  refine jc_seq ?_; refine jc_region ?_; refine jo_h (hy_box (id := 0) (n := 2) rfl rfl rfl (by decide) rfl) (hd 2 rfl) ?_; refine jo_h (hy_box (id := 1) (n := 2) rfl rfl rfl (by decide) rfl) (hd 3 rfl) ?_; refine jo_h (hy_alloc (id := 2) zero35 (by decide) rfl (by decide) rfl) (hd 4 rfl) ?_; refine jo_nil ?_; refine jc_seq ?_; refine jc_seq ?_; refine jc_region ?_; refine jo_l (ly_fa fld35_0 rfl rfl rfl) (hd 5 rfl) ?_; refine jo_l (ly_ld one4 rfl rfl rfl) (hd 6 rfl) ?_; refine jo_l (ly_fa fld35_0 rfl rfl rfl) (hd 7 rfl) ?_; refine jo_l (ly_ld one4 rfl rfl rfl) (hd 8 rfl) ?_; refine jo_l (ly_eqb und4 rfl rfl) (hd 9 rfl) ?_; refine jo_nil ?_
  refine jc_cond rfl (fun h1 => ?_) (fun h1 => ?_)
  · refine jc_seq ?_; refine jc_draw (n := 9) _ rfl mixed ?_; refine ja_l2 0 [1, 7, 8] (lo_l (ly_fa fld35_0 rfl rfl rfl) (hd 10 rfl)) rfl (by kernel_rfl) (by kernel_rfl) (by kernel_rfl) (by kernel_rfl) (fun _ _ _ _ h => h) ?_; refine ja_l 1 (lo_l (ly_ld one4 rfl rfl rfl) (hd 11 rfl)) rfl (by kernel_rfl) (by kernel_rfl) (by kernel_rfl) (fun _ _ _ _ h => h) ?_; refine ja_l2 2 [3, 6, 7, 8] (lo_l (ly_fa fld35_1 rfl rfl rfl) (hd 12 rfl)) rfl (by kernel_rfl) (by kernel_rfl) (by kernel_rfl) (by kernel_rfl) (fun _ _ _ _ h => h) ?_; refine ja_l2 3 [6, 7, 8] (lo_l (ly_ld one33 rfl rfl rfl) (hd 13 rfl)) rfl (by kernel_rfl) (by kernel_rfl) (by kernel_rfl) (by kernel_rfl) (fun _ _ _ _ h => h) ?_; refine ja_l2 4 [5, 6, 7, 8] (lo_l (ly_fa fld35_1 rfl rfl rfl) (hd 14 rfl)) rfl (by kernel_rfl) (by kernel_rfl) (by kernel_rfl) (by kernel_rfl) (fun _ _ _ _ h => h) ?_; refine ja_l2 5 [6, 7, 8] (lo_l (ly_ld one33 rfl rfl rfl) (hd 15 rfl)) rfl (by kernel_rfl) (by kernel_rfl) (by kernel_rfl) (by kernel_rfl) (fun _ _ _ _ h => h) ?_
    refine ja_1 6 ?_ rfl (by kernel_rfl)
    refine js_call Try.f63 (rAdd_s x.natAbs y.natAbs hx hy) rfl Try.func63 rfl rfl (ovL_cons rfl (ovL_cons rfl ovL_nil)) (.cons .n (.cons .n .nil)) (hd 16 rfl) ?_ (fun ch hp => by simp at hp)
    rintro y hy; injection hy with hy; subst hy
    refine ja_1 7 ?_ rfl (by kernel_rfl)
    refine js_call Try.f62 (make1_z (decide (x < 0)) (x.natAbs + y.natAbs)) rfl Try.func62 rfl rfl (ovL_cons rfl (ovL_cons rfl ovL_nil)) (.cons .b (.cons .n .nil)) (hd 17 rfl) ?_ (fun ch hp => by simp at hp)
    rintro y hy; injection hy with hy; subst hy
    refine ja_1 8 ?_ rfl (by kernel_rfl)
    refine js_st (sy_store rfl rfl rfl siz35 rfl rfl (Nat.le_of_ble_eq_true rfl)) rfl ?_; refine ja_nil (by kernel_rfl) ?_; refine jc_ret ?_
    refine ⟨_, _, (.cons (ResV.cell agg35 rfl rfl rfl rfl) .nil), (.a1 .b (.a1 .n .a0)), ?_⟩
    rw [zadd_same (by assumption)]
  · refine jc_skip ?_; refine jc_seq ?_; refine jc_seq ?_; refine jc_region ?_; refine jo_l (ly_fa fld35_1 rfl rfl rfl) (hd 18 rfl) ?_; refine jo_l (ly_ld one33 rfl rfl rfl) (hd 19 rfl) ?_; refine jo_l (ly_fa fld35_1 rfl rfl rfl) (hd 20 rfl) ?_; refine jo_l (ly_ld one33 rfl rfl rfl) (hd 21 rfl) ?_
    refine jo_call Try.f64 (rCmp_s x.natAbs y.natAbs (by show (dg x).length < _; omega) (by show (dg y).length < _; omega)) rfl Try.func64 rfl rfl (ovL_cons rfl (ovL_cons rfl ovL_nil)) (.cons .n (.cons .n .nil)) (hd 22 rfl) ?_ (fun ch hp => by simp at hp)
    rintro y hy; injection hy with hy; subst hy; refine jo_l (ly_ge rfl rfl) (hd 23 rfl) ?_; refine jo_nil ?_
    refine jc_if rfl (fun h2 => ?_) (fun h2 => ?_)
    · refine jc_seq ?_; refine jc_draw (n := 9) _ rfl mixed ?_; refine ja_l2 0 [1, 7, 8] (lo_l (ly_fa fld35_0 rfl rfl rfl) (hd 24 rfl)) rfl (by kernel_rfl) (by kernel_rfl) (by kernel_rfl) (by kernel_rfl) (fun _ _ _ _ h => h) ?_; refine ja_l 1 (lo_l (ly_ld one4 rfl rfl rfl) (hd 25 rfl)) rfl (by kernel_rfl) (by kernel_rfl) (by kernel_rfl) (fun _ _ _ _ h => h) ?_; refine ja_l2 2 [3, 6, 7, 8] (lo_l (ly_fa fld35_1 rfl rfl rfl) (hd 26 rfl)) rfl (by kernel_rfl) (by kernel_rfl) (by kernel_rfl) (by kernel_rfl) (fun _ _ _ _ h => h) ?_; refine ja_l2 3 [6, 7, 8] (lo_l (ly_ld one33 rfl rfl rfl) (hd 27 rfl)) rfl (by kernel_rfl) (by kernel_rfl) (by kernel_rfl) (by kernel_rfl) (fun _ _ _ _ h => h) ?_; refine ja_l2 4 [5, 6, 7, 8] (lo_l (ly_fa fld35_1 rfl rfl rfl) (hd 28 rfl)) rfl (by kernel_rfl) (by kernel_rfl) (by kernel_rfl) (by kernel_rfl) (fun _ _ _ _ h => h) ?_; refine ja_l2 5 [6, 7, 8] (lo_l (ly_ld one33 rfl rfl rfl) (hd 29 rfl)) rfl (by kernel_rfl) (by kernel_rfl) (by kernel_rfl) (by kernel_rfl) (fun _ _ _ _ h => h) ?_
      refine ja_1 6 ?_ rfl (by kernel_rfl)
      refine js_call Try.f65 (rSub_s x.natAbs y.natAbs (cmp_le (by assumption)) (by show (dg x).length < _; omega) (by show (dg y).length < _; omega)) rfl Try.func65 rfl rfl (ovL_cons rfl (ovL_cons rfl ovL_nil)) (.cons .n (.cons .n .nil)) (hd 30 rfl) ?_ (fun ch hp => by simp at hp)
      rintro y hy; injection hy with hy; subst hy
      refine ja_1 7 ?_ rfl (by kernel_rfl)
      refine js_call Try.f62 (make1_z (decide (x < 0)) (x.natAbs - y.natAbs)) rfl Try.func62 rfl rfl (ovL_cons rfl (ovL_cons rfl ovL_nil)) (.cons .b (.cons .n .nil)) (hd 31 rfl) ?_ (fun ch hp => by simp at hp)
      rintro y hy; injection hy with hy; subst hy
      refine ja_1 8 ?_ rfl (by kernel_rfl)
      refine js_st (sy_store rfl rfl rfl siz35 rfl rfl (Nat.le_of_ble_eq_true rfl)) rfl ?_; refine ja_nil (by kernel_rfl) ?_; refine jc_ret ?_
      refine ⟨_, _, (.cons (ResV.cell agg35 rfl rfl rfl rfl) .nil), (.a1 .b (.a1 .n .a0)), ?_⟩
      rw [zadd_ge (by assumption) (by assumption)]
    · refine jc_skip ?_; refine jc_seq ?_; refine jc_draw (n := 9) _ rfl mixed ?_; refine ja_l2 0 [1, 7, 8] (lo_l (ly_fa fld35_0 rfl rfl rfl) (hd 32 rfl)) rfl (by kernel_rfl) (by kernel_rfl) (by kernel_rfl) (by kernel_rfl) (fun _ _ _ _ h => h) ?_; refine ja_l 1 (lo_l (ly_ld one4 rfl rfl rfl) (hd 33 rfl)) rfl (by kernel_rfl) (by kernel_rfl) (by kernel_rfl) (fun _ _ _ _ h => h) ?_; refine ja_l2 2 [3, 6, 7, 8] (lo_l (ly_fa fld35_1 rfl rfl rfl) (hd 34 rfl)) rfl (by kernel_rfl) (by kernel_rfl) (by kernel_rfl) (by kernel_rfl) (fun _ _ _ _ h => h) ?_; refine ja_l2 3 [6, 7, 8] (lo_l (ly_ld one33 rfl rfl rfl) (hd 35 rfl)) rfl (by kernel_rfl) (by kernel_rfl) (by kernel_rfl) (by kernel_rfl) (fun _ _ _ _ h => h) ?_; refine ja_l2 4 [5, 6, 7, 8] (lo_l (ly_fa fld35_1 rfl rfl rfl) (hd 36 rfl)) rfl (by kernel_rfl) (by kernel_rfl) (by kernel_rfl) (by kernel_rfl) (fun _ _ _ _ h => h) ?_; refine ja_l2 5 [6, 7, 8] (lo_l (ly_ld one33 rfl rfl rfl) (hd 37 rfl)) rfl (by kernel_rfl) (by kernel_rfl) (by kernel_rfl) (by kernel_rfl) (fun _ _ _ _ h => h) ?_
      refine ja_1 6 ?_ rfl (by kernel_rfl)
      refine js_call Try.f65 (rSub_s y.natAbs x.natAbs (cmp_gt (by assumption)) (by show (dg y).length < _; omega) (by show (dg x).length < _; omega)) rfl Try.func65 rfl rfl (ovL_cons rfl (ovL_cons rfl ovL_nil)) (.cons .n (.cons .n .nil)) (hd 38 rfl) ?_ (fun ch hp => by simp at hp)
      rintro y hy; injection hy with hy; subst hy
      refine ja_1 7 ?_ rfl (by kernel_rfl)
      refine js_call Try.f62 (make1_z (decide (y < 0)) (y.natAbs - x.natAbs)) rfl Try.func62 rfl rfl (ovL_cons rfl (ovL_cons rfl ovL_nil)) (.cons .b (.cons .n .nil)) (hd 39 rfl) ?_ (fun ch hp => by simp at hp)
      rintro y hy; injection hy with hy; subst hy
      refine ja_1 8 ?_ rfl (by kernel_rfl)
      refine js_st (sy_store rfl rfl rfl siz35 rfl rfl (Nat.le_of_ble_eq_true rfl)) rfl ?_; refine ja_nil (by kernel_rfl) ?_; refine jc_ret ?_
      refine ⟨_, _, (.cons (ResV.cell agg35 rfl rfl rfl rfl) .nil), (.a1 .b (.a1 .n .a0)), ?_⟩
      rw [zadd_lt (by assumption) (by assumption)]

set_option maxHeartbeats 4000000 in
theorem ZMul_s (x y : Int) (hx : (dg x).length < 549755813888) (hy : (dg y).length < 549755813888) : Spec Try.prog 21 [.a [.b (decide (x < 0)), .n false .u64 (dg x)], .a [.b (decide (y < 0)), .n false .u64 (dg y)]] (fun o => o = .ret (.a [.b (decide ((x * y) < 0)), .n false .u64 (dg (x * y))])) := by
  refine spec_of' [(0, .a [.b (decide (x < 0)), .n false .u64 (dg x)]), (1, .a [.b (decide (y < 0)), .n false .u64 (dg y)])] rfl Try.func21 rfl (Nat.le_of_ble_eq_true rfl) fun Γ hN hds hL hR => ?_
  have hd : ∀ d, Nat.blt d 16 = true → d < Γ.N := fun d h => by rw [hN]; exact Nat.le_of_ble_eq_true h
  refine jc_seq ?_; refine jc_region ?_; refine jo_h (hy_box (id := 0) (n := 2) rfl rfl rfl (by decide) rfl) (hd 2 rfl) ?_; refine jo_h (hy_box (id := 1) (n := 2) rfl rfl rfl (by decide) rfl) (hd 3 rfl) ?_; refine jo_h (hy_alloc (id := 2) zero35 (by decide) rfl (by decide) rfl) (hd 4 rfl) ?_; refine jo_nil ?_; refine jc_seq ?_; refine jc_draw (n := 12) _ rfl mixed ?_; refine ja_l2 0 [1, 4, 10, 11] (lo_l (ly_fa fld35_0 rfl rfl rfl) (hd 5 rfl)) rfl (by kernel_rfl) (by kernel_rfl) (by kernel_rfl) (by kernel_rfl) (fun _ _ _ _ h => h) ?_; refine ja_l2 1 [4, 10, 11] (lo_l (ly_ld one4 rfl rfl rfl) (hd 6 rfl)) rfl (by kernel_rfl) (by kernel_rfl) (by kernel_rfl) (by kernel_rfl) (fun _ _ _ _ h => h) ?_; refine ja_l2 2 [3, 4, 10, 11] (lo_l (ly_fa fld35_0 rfl rfl rfl) (hd 7 rfl)) rfl (by kernel_rfl) (by kernel_rfl) (by kernel_rfl) (by kernel_rfl) (fun _ _ _ _ h => h) ?_; refine ja_l2 3 [4, 10, 11] (lo_l (ly_ld one4 rfl rfl rfl) (hd 8 rfl)) rfl (by kernel_rfl) (by kernel_rfl) (by kernel_rfl) (by kernel_rfl) (fun _ _ _ _ h => h) ?_; refine ja_l 4 (lo_l (ly_neb und4 rfl rfl) (hd 9 rfl)) rfl (by kernel_rfl) (by kernel_rfl) (by kernel_rfl) (fun _ _ _ _ h => h) ?_; refine ja_l2 5 [6, 9, 10, 11] (lo_l (ly_fa fld35_1 rfl rfl rfl) (hd 10 rfl)) rfl (by kernel_rfl) (by kernel_rfl) (by kernel_rfl) (by kernel_rfl) (fun _ _ _ _ h => h) ?_; refine ja_l2 6 [9, 10, 11] (lo_l (ly_ld one33 rfl rfl rfl) (hd 11 rfl)) rfl (by kernel_rfl) (by kernel_rfl) (by kernel_rfl) (by kernel_rfl) (fun _ _ _ _ h => h) ?_; refine ja_l2 7 [8, 9, 10, 11] (lo_l (ly_fa fld35_1 rfl rfl rfl) (hd 12 rfl)) rfl (by kernel_rfl) (by kernel_rfl) (by kernel_rfl) (by kernel_rfl) (fun _ _ _ _ h => h) ?_; refine ja_l2 8 [9, 10, 11] (lo_l (ly_ld one33 rfl rfl rfl) (hd 13 rfl)) rfl (by kernel_rfl) (by kernel_rfl) (by kernel_rfl) (by kernel_rfl) (fun _ _ _ _ h => h) ?_
  refine ja_1 9 ?_ rfl (by kernel_rfl)
  refine js_call Try.f66 (rMul_s x.natAbs y.natAbs hx hy) rfl Try.func66 rfl rfl (ovL_cons rfl (ovL_cons rfl ovL_nil)) (.cons .n (.cons .n .nil)) (hd 14 rfl) ?_ (fun ch hp => by simp at hp)
  rintro y hy; injection hy with hy; subst hy
  refine ja_1 10 ?_ rfl (by kernel_rfl)
  refine js_call Try.f62 (make1_z (!(decide (x < 0) == decide (y < 0))) (x.natAbs * y.natAbs)) rfl Try.func62 rfl rfl (ovL_cons rfl (ovL_cons rfl ovL_nil)) (.cons .b (.cons .n .nil)) (hd 15 rfl) ?_ (fun ch hp => by simp at hp)
  rintro y hy; injection hy with hy; subst hy
  refine ja_1 11 ?_ rfl (by kernel_rfl)
  refine js_st (sy_store rfl rfl rfl siz35 rfl rfl (Nat.le_of_ble_eq_true rfl)) rfl ?_; refine ja_nil (by kernel_rfl) ?_; refine jc_ret ?_
  refine ⟨_, _, (.cons (ResV.cell agg35 rfl rfl rfl rfl) .nil), (.a1 .b (.a1 .n .a0)), ?_⟩
  rw [zmul]

theorem ZIs_v (v : Int) (hl : (dg v).length < 4294967296) : Spec Try.prog 39 [.a [.b (decide (v < 0)), .n false .u64 (dg v)], .b (decide (v < 0)), .n false .u64 (lm v)] (fun o => o = .ret (.b true)) := by
  have h := ZIs_s (decide (v < 0)) (dg v) hl
  rw [lims_dg] at h
  exact h

end Go.Proofs.Ythocbnfkjlgclaa.Vc

/- Contracts of the references' Bit, Tail; ints: nat.Small, whole.Int, Of. -/
namespace Go.Proofs.Ythocbnfkjlgclaa.Vc
open Go Go.RowKit
end Go.Proofs.Ythocbnfkjlgclaa.Vc

/- Contracts of bits.LeadingZeros64, Div64. -/
namespace Go.Proofs.Ythocbnfkjlgclaa.Vc
open Go Go.RowKit
end Go.Proofs.Ythocbnfkjlgclaa.Vc

/- Contracts of div.up, down. -/
namespace Go.Proofs.Ythocbnfkjlgclaa.Vc
open Go Go.RowKit
end Go.Proofs.Ythocbnfkjlgclaa.Vc

/- Contract of div.guess. -/
namespace Go.Proofs.Ythocbnfkjlgclaa.Vc
open Go Go.RowKit
end Go.Proofs.Ythocbnfkjlgclaa.Vc

/- Contract of div.divide. -/
namespace Go.Proofs.Ythocbnfkjlgclaa.Vc
open Go Go.RowKit
end Go.Proofs.Ythocbnfkjlgclaa.Vc

/- Contracts by values: nat.Norm, Length, Compare, Add of 1, Sub, Bit of 0, div.Both; the ways of whole.divide. -/
namespace Go.Proofs.Ythocbnfkjlgclaa.Vc
open Go Go.RowKit
end Go.Proofs.Ythocbnfkjlgclaa.Vc

/- Contracts of nat.From of 1, whole.result, by values. -/
namespace Go.Proofs.Ythocbnfkjlgclaa.Vc
open Go Go.RowKit
end Go.Proofs.Ythocbnfkjlgclaa.Vc

/- Contracts of whole.divide, Quo, Floor, Ceil, Near, Euclid. -/
namespace Go.Proofs.Ythocbnfkjlgclaa.Vc
open Go Go.RowKit
end Go.Proofs.Ythocbnfkjlgclaa.Vc

/- Two numbers with a sign, and more, that are handed in. -/
namespace Go.Proofs.Ythocbnfkjlgclaa.Vc
open Go Go.RowKit
theorem short2b {H : Type} {d0 d1 : DataW H} {r : List (DataW H)} {l0 l1 : List Int} (hk : Rows.uptoSmall H (d0 :: d1 :: r) = true) (h0 : l0.length + 2 ≤ Rows.uptoBulk d0) (h1 : l1.length + 2 ≤ Rows.uptoBulk d1) : l0.length + l1.length ≤ 1048572 := by
  have h : Rows.uptoBulkAll (d0 :: d1 :: r) ≤ 1048576 := of_decide_eq_true hk
  simp only [Rows.uptoBulkAll] at h
  omega
end Go.Proofs.Ythocbnfkjlgclaa.Vc

/- What WholeOwn needs, in plain Lean: a row written over by xor, sizes of sums and products, numbers by their answers. -/
namespace Go.Proofs.Ythocbnfkjlgclaa.Vc
open Go Go.RowKit
def xr5 (x : Int) : Int := bitop .xor .u64 x 5
theorem xr5_rng (x : Int) : 0 ≤ xr5 x ∧ xr5 x < 18446744073709551616 := by
  unfold xr5 bitop
  simp only [IntKind.wrap, IntKind.bits, IntKind.signed]
  simp
  omega
def xorL (l : List Int) : List Int := l.map xr5
theorem xorL_len (l : List Int) : (xorL l).length = l.length := by simp [xorL]
theorem xorL_u (l : List Int) : u64s (xorL l) := fun x hx => by
  obtain ⟨y, _, rfl⟩ := List.mem_map.1 hx
  exact xr5_rng y
/-- The first i are written over. -/
def xorI (l : List Int) (i : Nat) : List Int := xorL (l.take i) ++ l.drop i
theorem xorI_len (l : List Int) (i : Nat) : (xorI l i).length = l.length := by
  simp [xorI, xorL_len]; omega
theorem xorI_all (l : List Int) : xorI l l.length = xorL l := by simp [xorI]
theorem xorI_get {l : List Int} {i : Nat} (h : i < l.length) : (xorI l i)[i]? = some (l.getD i 0) := by
  unfold xorI
  rw [List.getElem?_append_right (by rw [xorL_len, List.length_take]; omega), xorL_len, List.length_take, Nat.min_eq_left (by omega), Nat.sub_self, List.getElem?_drop, Nat.add_zero, List.getD_eq_getElem?_getD, List.getElem?_eq_getElem h]
  rfl
theorem xorI_getD {l : List Int} {i : Nat} (h : i < l.length) : (xorI l i).getD i 0 = l.getD i 0 := by
  rw [List.getD_eq_getElem?_getD, xorI_get h]; rfl
theorem xorI_set {l : List Int} {i : Nat} (h : i < l.length) : (xorI l i).set ((0 + i) * 1) (xr5 (l.getD i 0)) = xorI l (i + 1) := by
  rw [Nat.zero_add, Nat.mul_one]
  unfold xorI
  have e : (xorL (l.take i)).length = i := by rw [xorL_len, List.length_take]; omega
  rw [List.set_append_right _ _ (by omega), e, Nat.sub_self, List.drop_eq_getElem_cons h, List.set_cons_zero, List.take_add_one, List.getElem?_eq_getElem h, List.getD_eq_getElem?_getD, List.getElem?_eq_getElem h]
  unfold xorL
  rw [List.map_append, List.append_assoc]
  rfl
/-- A copy, the first i taken over. -/
def cpI (l : List Int) (i : Nat) : List Int := fillI (l.take i) l.length
theorem cpI_0 (l : List Int) : List.replicate l.length (0 : Int) = cpI l 0 := by simp [cpI, fillI]
theorem cpI_len {l : List Int} {i : Nat} (h : i ≤ l.length) : (cpI l i).length = l.length := fillI_len (by rw [List.length_take]; omega)
theorem cpI_all (l : List Int) : cpI l l.length = l := by rw [cpI, List.take_length, fillI_full rfl]
theorem cpI_set {l : List Int} {i : Nat} (h : i < l.length) : (cpI l i).set ((0 + i) * 1) (l.getD i 0) = cpI l (i + 1) := by
  rw [Nat.zero_add, Nat.mul_one]
  unfold cpI
  have e : (l.take i).length = i := by rw [List.length_take]; omega
  have := fillI_set (l := l.take i) (n := l.length) (v := l.getD i 0) (by omega)
  rw [e] at this
  rw [this, List.take_add_one, List.getElem?_eq_getElem h, List.getD_eq_getElem?_getD, List.getElem?_eq_getElem h]
  rfl
theorem lenV_add (a b : Int) : lenV (a + b) ≤ max (lenV a) (lenV b) + 1 := by
  have h := lenV_sub a (-b)
  rw [Int.sub_neg] at h
  have e : lenV (-b) = lenV b := by unfold lenV; rw [Int.natAbs_neg]
  rwa [e] at h
end Go.Proofs.Ythocbnfkjlgclaa.Vc

/- Contracts of whole.Mul, Sub, Add by values, answers frozen. -/
namespace Go.Proofs.Ythocbnfkjlgclaa.Vc
open Go Go.RowKit
end Go.Proofs.Ythocbnfkjlgclaa.Vc

/- Contracts of whole.Of, flip, Sign by values. -/
namespace Go.Proofs.Ythocbnfkjlgclaa.Vc
open Go Go.RowKit
end Go.Proofs.Ythocbnfkjlgclaa.Vc

/- Contract of whole.cofactor. -/
namespace Go.Proofs.Ythocbnfkjlgclaa.Vc
open Go Go.RowKit
end Go.Proofs.Ythocbnfkjlgclaa.Vc

/- Contracts of div.Quo, whole.Bezout. -/
namespace Go.Proofs.Ythocbnfkjlgclaa.Vc
open Go Go.RowKit
end Go.Proofs.Ythocbnfkjlgclaa.Vc

/- Contracts of whole.Bezout of 0, Inverse. -/
namespace Go.Proofs.Ythocbnfkjlgclaa.Vc
open Go Go.RowKit
end Go.Proofs.Ythocbnfkjlgclaa.Vc

/- Short names for what states hold. -/
namespace Go.Proofs.Ythocbnfkjlgclaa.Vc
open Go Go.RowKit
abbrev zz (v : Int) : V := .a [.b (decide (v < 0)), .n false .u64 (dg v)]
abbrev ww (f : Bool) (v : Int) : V := .a [.b (decide (v < 0)), .n f .u64 (lm v)]
abbrev oz (ver : Nat) (v : Int) : Ob := ⟨40, 2, ver, true, [.b (decide (v < 0)), .n false .u64 (dg v)]⟩
abbrev ow (ver : Nat) (f : Bool) (v : Int) : Ob := ⟨28, 2, ver, true, [.b (decide (v < 0)), .n f .u64 (lm v)]⟩
abbrev ob (s : Bool) (l : List Int) : Ob := ⟨24, 2, 0, true, [.b s, .n false .u64 l]⟩
abbrev oc (ver : Nat) (s : Bool) (l : List Int) : Ob := ⟨28, 2, ver, true, [.b s, .n false .u64 l]⟩
abbrev oe : Ob := ⟨40, 2, 1, true, [.b false, .c (.slice none 0 0)]⟩
abbrev oh : Ob := ⟨0, 1, 0, true, []⟩
abbrev yc (v w g x : Int) : Int := wq 0 (g - v * (x % qn w g)) w
abbrev xc (w g x : Int) : Int := x % qn w g
theorem Says.c5 {F : Fr} {r : Fr} {t0 : Nat} {t1 : Nat} {t2 : Nat} {t3 : Nat} {t4 : Nat} {y0 : V} {y1 : V} {y2 : V} {y3 : V} {y4 : V} (h0 : getO F t0 = some y0) (h1 : getO F t1 = some y1) (h2 : getO F t2 = some y2) (h3 : getO F t3 = some y3) (h4 : getO F t4 = some y4) (h : Says F r) : Says F ((t0, y0) :: (t1, y1) :: (t2, y2) :: (t3, y3) :: (t4, y4) :: r) := .cons h0 (.cons h1 (.cons h2 (.cons h3 (.cons h4 (h)))))
theorem Says.c2 {F : Fr} {r : Fr} {t0 : Nat} {t1 : Nat} {y0 : V} {y1 : V} (h0 : getO F t0 = some y0) (h1 : getO F t1 = some y1) (h : Says F r) : Says F ((t0, y0) :: (t1, y1) :: r) := .cons h0 (.cons h1 (h))
theorem Says.u5 {F : Fr} {r : Fr} {t0 : Nat} {t1 : Nat} {t2 : Nat} {t3 : Nat} {t4 : Nat}  (h : Says F r) : Says F ((t0, .u) :: (t1, .u) :: (t2, .u) :: (t3, .u) :: (t4, .u) :: r) := .u (.u (.u (.u (.u (h)))))
end Go.Proofs.Ythocbnfkjlgclaa.Vc

/- Contracts of whole.Add, Mul, Abs by values, of Num.Is, of Copy: answers handed over. -/
namespace Go.Proofs.Ythocbnfkjlgclaa.Vc
open Go Go.RowKit
theorem WAdd_nv (s t : Bool) (a b : List Int) (hla : a.length < 4294967296) (hlb : b.length < 4294967296) (ua : u64s a) (ub : u64s b) (hf : lenV (sv s a + sv t b) ≤ 67108864) : SpecM Try.prog 35 [.a [.b s, .n false .u64 a], .a [.b t, .n false .u64 b]] [] (fun o G => o = .ret (.t [.a [.b (decide ((sv s a + sv t b) < 0)), .o 0 0 0 (lm (sv s a + sv t b)).length], .i .i64 0]) ∧ G = [⟨34, 1, 0, true, ints .u64 (lm (sv s a + sv t b))⟩]) :=
  (WAdd_n s t a b hla hlb ua ub).mono fun o G ⟨s2, r, e, ho, hG, hR⟩ => by
    rcases hR with ⟨_, h1, h2, h3⟩ | ⟨h, _⟩
    · subst h1; subst h2; subst h3; exact ⟨ho, hG⟩
    · omega

theorem WMul_nv (s t : Bool) (a b : List Int) (hla : a.length < 4294967296) (hlb : b.length < 4294967296) (ua : u64s a) (ub : u64s b) (hf : lenV (sv s a * sv t b) ≤ 67108864) : SpecM Try.prog 36 [.a [.b s, .n false .u64 a], .a [.b t, .n false .u64 b]] [] (fun o G => o = .ret (.t [.a [.b (decide ((sv s a * sv t b) < 0)), .o 0 0 0 (lm (sv s a * sv t b)).length], .i .i64 0]) ∧ G = [⟨34, 1, 0, true, ints .u64 (lm (sv s a * sv t b))⟩]) :=
  (WMul_n s t a b hla hlb ua ub).mono fun o G ⟨s2, r, e, ho, hG, hR⟩ => by
    rcases hR with ⟨_, h1, h2, h3⟩ | ⟨h, _⟩
    · subst h1; subst h2; subst h3; exact ⟨ho, hG⟩
    · omega

theorem Abs_nv (s : Bool) (a : List Int) (hla : a.length < 4294967296) (ua : u64s a) (hf : lenV ((sv s a).natAbs : Int) ≤ 67108864) : SpecM Try.prog 37 [.a [.b s, .n false .u64 a]] [] (fun o G => o = .ret (.t [.a [.b (decide (((sv s a).natAbs : Int) < 0)), .o 0 0 0 (lm ((sv s a).natAbs : Int)).length], .i .i64 0]) ∧ G = [⟨34, 1, 0, true, ints .u64 (lm ((sv s a).natAbs : Int))⟩]) :=
  (Abs_n s a hla ua).mono fun o G ⟨s2, r, e, ho, hG, hR⟩ => by
    rcases hR with ⟨_, h1, h2, h3⟩ | ⟨h, _⟩
    · subst h1; subst h2; subst h3; exact ⟨ho, hG⟩
    · omega

theorem NIs_v (v : Int) (hl : (dg v).length < 4294967296) : Spec Try.prog 40 [.n false .u64 (dg v), .n false .u64 (lm v)] (fun o => o = .ret (.b true)) := by
  have h := Is_s (dg v) hl
  rwa [lims_dg] at h

set_option maxHeartbeats 4000000 in
theorem Copy_n (l : List Int) (hl : l.length < 4294967296) : SpecM Try.prog 34 [.n false .u64 l] [] (fun o G => o = .ret (.o 0 0 0 l.length) ∧ G = [⟨34, 1, 0, true, ints .u64 l⟩]) := by
  refine specS_of [(0, .n false .u64 l)] rfl Try.func34 rfl (Nat.le_of_ble_eq_true rfl) fun Γ hN hds hL hR => ?_
  have hd : ∀ d, Nat.blt d 22 = true → d < Γ.N := fun d h => by rw [hN]; exact Nat.le_of_ble_eq_true h
  refine jc_seq ?_; refine jc_region ?_; refine jo_l (ly_as rfl) (hd 2 rfl) ?_; refine jo_nil ?_; refine jc_seq ?_; refine jc_region ?_; refine jo_l (ly_mv rfl) (hd 6 rfl) ?_; refine jo_l (ly_lenn sl25 rfl) (hd 7 rfl) ?_; refine jo_h (hy_mk (m := l.length) el25 rfl rfl rfl (by show 8 * l.length ≤ _; omega) (by unfold maxLen; omega) rfl) (hd 8 rfl) ?_; refine jo_l (ly_as rfl) (hd 3 rfl) ?_; refine jo_nil ?_; refine jc_seq ?_; refine jc_seq ?_; refine jc_H (H' := [⟨34, 1, 0, true, ints .u64 (cpI l 0)⟩]) (by rw [← cpI_0]; rfl) ?_; refine jc_region ?_; refine jo_l (ly_mv rfl) (hd 9 rfl) ?_; refine jo_l (ly_lenn sl25 rfl) (hd 10 rfl) ?_; refine jo_l (ly_mv rfl) (hd 11 rfl) ?_; refine jo_nil ?_; refine jc_block ?_
  refine jc_loopF (G := Nat) (fun i => i ≤ l.length) (fun i => [(11, .i .i64 (i : Int)), (4, .u), (5, .u), (12, .u), (13, .u), (14, .u), (15, .u), (16, .u), (17, .u), (18, .u), (19, .u), (20, .u)]) (fun i => [⟨34, 1, 0, true, ints .u64 (cpI l i)⟩]) (fun i => l.length - i) 0 ?_ ?_ rfl ?_
  · exact Nat.zero_le _
  · exact (.cons rfl (.u (.u (.u (.u (.u (.u (.u (.u (.u (.u (.u .nil))))))))))))
  · rintro i hc1
    have hcl := cpI_len hc1
    refine jc_seq ?_; refine jc_region ?_; refine jo_l (ly_lt rfl rfl) (hd 12 rfl) ?_; refine jo_nil ?_; refine jc_seq ?_
    refine jc_if rfl (fun h1 => ?_) (fun h1 => ?_)
    · refine jc_skip ?_; refine jc_seq ?_; refine jc_block ?_; refine jc_seq ?_; refine jc_region ?_; refine jo_l (ly_mv rfl) (hd 13 rfl) ?_; refine jo_l (ly_ian (i := i) sl25 rfl rfl (by first | rfl | omega) (by omega)) (hd 14 rfl) ?_; refine jo_l (ly_ldq one82 rfl rfl) (hd 15 rfl) ?_; refine jo_l (ly_as rfl) (hd 4 rfl) ?_; refine jo_l (ly_as rfl) (hd 5 rfl) ?_; refine jo_nil ?_; refine jc_region ?_; refine jo_l (ly_mv rfl) (hd 16 rfl) ?_; refine jo_l (ly_mv rfl) (hd 17 rfl) ?_; refine jo_l (ly_mv rfl) (hd 18 rfl) ?_; refine jo_l (ly_ia (i := i) sl25 rfl rfl rfl (by first | rfl | omega) (by omega) rfl) (hd 19 rfl) ?_; refine jo_st (sy_storei rfl rfl rfl one82 (by omega)) ?_; refine jo_nil ?_; refine jc_region ?_; refine jo_l (ly_add rfl rfl (wrap_i64 (by omega) (by omega))) (hd 20 rfl) ?_; refine jo_l (ly_mv rfl) (hd 11 rfl) ?_; refine jo_nil ?_
      refine ⟨i + 1, ?_, ?_, (by show [(⟨34, 1, 0, true, ints .u64 _⟩ : Ob)] = [⟨34, 1, 0, true, ints .u64 _⟩]; rw [cpI_set (by omega)]), cov_n 24 rfl rfl ?_⟩
      · omega
      · omega
      · exact (.cons rfl (.u (.u (.u (.u (.u (.u (.u (.u (.u (.u (.u .nil))))))))))))
    · refine jc_exit ?_; refine jc_seq ?_
      obtain rfl : i = l.length := by omega
      refine jc_H (H' := [⟨34, 1, 0, true, ints .u64 l⟩]) (by rw [cpI_all]) ?_; refine jc_region ?_; refine jo_l (ly_mv rfl) (hd 21 rfl) ?_; refine jo_l (ly_as rfl) (hd 2 rfl) ?_; refine jo_nil ?_; refine jc_ret ?_
      refine ⟨[0], _, (.o 0 0 0 l.length), (.cons rfl .nil), rfl, rfl, (by decide), (by first | exact idless_cons ints_id idless_nil | exact idless_cons rfl idless_nil), ?_⟩
      exact ⟨rfl, rfl⟩
end Go.Proofs.Ythocbnfkjlgclaa.Vc
