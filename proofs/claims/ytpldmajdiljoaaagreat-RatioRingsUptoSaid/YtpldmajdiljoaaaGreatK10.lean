/- RatioRings: for every two rationals of bulk at most 1048576 it returns true Texts joined: Xt, Xu, RRRings. -/
import Derived.Test.YtpldmajdiljoaaaGreatK9
import Derived.Test.YtpldmajdiljoaaaGreatRows
import Derived.WalkKit
import Derived.ProofKit
import Derived.OpenShut
import Derived.Carry
import Derived.JoinedCond
set_option linter.unusedVariables false
set_option linter.unusedSimpArgs false
set_option maxHeartbeats 4000000
namespace Go.Proofs.YtpldmajdiljoaaaGreat.Vc
open Go Go.RowKit
theorem rAdd7_s (b : Bool) (n1 d1 : Nat) (z : Int) (Y : Nat) (q1 : Qe b n1 d1 z Y) (c : Bool) (n2 d2 : Nat) (w : Int) (X : Nat) (q2 : Qe c n2 d2 w X) (hB : lenV (n1 : Int) + lenV (d1 : Int) + lenV (n2 : Int) + lenV (d2 : Int) + 1 ≤ 67108864) : Spec Tryz.prog 13 [(.a [.b b, .n false .u64 (digs B32 n1), .n false .u64 (digs B32 d1)]), (.a [.b c, .n false .u64 (digs B32 n2), .n false .u64 (digs B32 d2)])] (fun o => o = .ret (.a [.b (decide ((z * (X : Int) + w * (Y : Int)) < 0)), .n false .u64 (digs B32 (nn (z * (X : Int) + w * (Y : Int)) (Y * X))), .n false .u64 (digs B32 (dd (z * (X : Int) + w * (Y : Int)) (Y * X)))])) := by
  refine spec_of' [(0, (.a [.b b, .n false .u64 (digs B32 n1), .n false .u64 (digs B32 d1)])), (1, (.a [.b c, .n false .u64 (digs B32 n2), .n false .u64 (digs B32 d2)]))] rfl Tryz.func13 rfl (zlb rfl) fun Γ hN hds hL hR => ?_
  have hd := hdOf 53 hN
  have h1n := dl_of (x := n1) (by omega)
  have h1d := dl_of (x := d1) (by omega)
  have h2n := dl_of (x := n2) (by omega)
  have h2d := dl_of (x := d2) (by omega)
  have u1 := lenV_mn (m := n1) (n := d2) (L := 67108863) (by omega)
  have u2 := lenV_mn (m := n2) (n := d1) (L := 67108863) (by omega)
  have u3 := lenV_mn (m := d1) (n := d2) (L := 67108864) (by omega)
  have p1 := dl_of (Nat.le_trans u1 (by decide))
  have p2 := dl_of (Nat.le_trans u2 (by decide))
  have p3 := dl_of u3
  have p4 := dl_of (lenV_an u1 u2)
  have hD0 := Nat.mul_ne_zero q1.1 q2.1
  have p5 := dl_mono (Nat.sub_le (n1 * d2) (n2 * d1))
  have p6 := dl_mono (Nat.sub_le (n2 * d1) (n1 * d2))
  refine zsr <| jo_h (hy_box (id := 0) (n := 3) rfl rfl rfl (by decide) rfl) (hd 2 rfl) <| jo_h (hy_box (id := 1) (n := 3) rfl rfl rfl (by decide) rfl) (hd 3 rfl) <| jo_h (hy_alloc (id := 2) zero1030 (by decide) rfl (by decide) rfl) (hd 4 rfl) <| jo_nil <| jc_seq <| jc_draw (n := 12) _ rfl mixed <| zal2 0 [1, 4, 9, 10, 11] (lo_l (ly_fa fld1030_1 rfl rfl rfl) (hd 8 rfl)) rfl <| zal2 1 [4, 9, 10, 11] (lo_l (ly_ld one33 rfl rfl rfl) (hd 9 rfl)) rfl <| zal2 2 [3, 4, 9, 10, 11] (lo_l (ly_fa fld1030_2 rfl rfl rfl) (hd 10 rfl)) rfl <| zal2 3 [4, 9, 10, 11] (lo_l (ly_ld one33 rfl rfl rfl) (hd 11 rfl)) rfl <| zal2 5 [6, 9, 10, 11] (lo_l (ly_fa fld1030_1 rfl rfl rfl) (hd 13 rfl)) rfl ?_; refine zal2 6 [9, 10, 11] (lo_l (ly_ld one33 rfl rfl rfl) (hd 14 rfl)) rfl <| zal2 7 [8, 9, 10, 11] (lo_l (ly_fa fld1030_2 rfl rfl rfl) (hd 15 rfl)) rfl <| zal2 8 [9, 10, 11] (lo_l (ly_ld one33 rfl rfl rfl) (hd 16 rfl)) rfl ?_
  refine ja_1 4 ?_ rfl (by kernel_rfl)
  refine js_call Tryz.f56 (rMul_s n1 d2 (by omega) (by omega)) rfl Tryz.func56 rfl rfl (ovL_cons rfl (ovL_cons rfl ovL_nil)) (.cons .n (.cons .n .nil)) (hd 12 rfl) ?_ (fun ch hp => by simp at hp)
  rintro y hy; injection hy with hy; subst hy
  refine ja_1 9 ?_ rfl (by kernel_rfl)
  refine js_call Tryz.f56 (rMul_s n2 d1 (by omega) (by omega)) rfl Tryz.func56 rfl rfl (ovL_cons rfl (ovL_cons rfl ovL_nil)) (.cons .n (.cons .n .nil)) (hd 17 rfl) ?_ (fun ch hp => by simp at hp)
  rintro _ ⟨⟩; refine zal 10 (lo_l (ly_as rfl) (hd 5 rfl)) rfl <| zal 11 (lo_l (ly_as rfl) (hd 6 rfl)) rfl <| ja_nil (by kernel_rfl) <| zsr <| jo_l (ly_fa fld1030_2 rfl rfl rfl) (hd 18 rfl) <| jo_l (ly_ld one33 rfl rfl rfl) (hd 19 rfl) <| jo_l (ly_fa fld1030_2 rfl rfl rfl) (hd 20 rfl) <| jo_l (ly_ld one33 rfl rfl rfl) (hd 21 rfl) ?_
  refine jo_call Tryz.f56 (rMul_s d1 d2 (by omega) (by omega)) rfl Tryz.func56 rfl rfl (ovL_cons rfl (ovL_cons rfl ovL_nil)) (.cons .n (.cons .n .nil)) (hd 22 rfl) ?_ (fun ch hp => by simp at hp)
  rintro _ ⟨⟩; refine zas rfl (hd 7 rfl) <| jo_nil <| jc_seq <| zsr <| jo_l (ly_fa fld1030_0 rfl rfl rfl) (hd 23 rfl) <| jo_l (ly_ld one4 rfl rfl rfl) (hd 24 rfl) <| jo_l (ly_fa fld1030_0 rfl rfl rfl) (hd 25 rfl) <| jo_l (ly_ld one4 rfl rfl rfl) (hd 26 rfl) <| jo_l (ly_eqb und4 rfl rfl) (hd 27 rfl) <| jo_nil ?_
  refine jc_cond rfl (fun h1 => ?_) (fun h1 => ?_)
  · have hbc := eq_of_beq h1
    subst hbc; refine jc_seq <| jc_draw (n := 8) _ rfl mixed <| zal2 0 [1, 6, 7] (lo_l (ly_fa fld1030_0 rfl rfl rfl) (hd 28 rfl)) rfl <| zal 1 (lo_l (ly_ld one4 rfl rfl rfl) (hd 29 rfl)) rfl <| zal2 2 [4, 6, 7] (lo_l (ly_mv rfl) (hd 30 rfl)) rfl <| zal2 3 [4, 6, 7] (lo_l (ly_mv rfl) (hd 31 rfl)) rfl <| zal 5 (lo_l (ly_mv rfl) (hd 33 rfl)) rfl ?_
    refine ja_1 4 ?_ rfl (by kernel_rfl)
    refine js_call Tryz.f58 (rAdd_s (n1 * d2) (n2 * d1) (by omega) (by omega)) rfl Tryz.func58 rfl rfl (ovL_cons rfl (ovL_cons rfl ovL_nil)) (.cons .n (.cons .n .nil)) (hd 32 rfl) ?_ (fun ch hp => by simp at hp)
    rintro y hy; injection hy with hy; subst hy
    refine ja_1 6 ?_ rfl (by kernel_rfl)
    refine js_call Tryz.f57 (rMake_s b (n1 * d2 + n2 * d1) (d1 * d2) (by omega) (by omega) hD0) rfl Tryz.func57 rfl rfl (ovL_cons rfl (ovL_cons rfl (ovL_cons rfl ovL_nil))) (.cons .b (.cons .n (.cons .n .nil))) (hd 34 rfl) ?_ (fun ch hp => by simp at hp)
    rintro y hy; injection hy with hy; subst hy
    refine ja_1 7 ?_ rfl (by kernel_rfl)
    refine js_st (sy_store rfl rfl rfl siz1030 rfl rfl (zlb rfl)) rfl <| ja_nil (by kernel_rfl) <| jc_ret ?_
    refine ⟨_, _, (.cons (ResV.cell agg1030 rfl rfl rfl rfl) .nil), (.a1 .b (.a1 .n (.a1 .n .a0))), ?_⟩
    have e9 := (add_ref (e := b) q1 q2 (N := n1 * d2 + n2 * d1) (by rw [zs_add, zs_mul, zs_mul])).make
    rw [e9.1, e9.2.1, e9.2.2]
  · have hbc := h1
    refine jc_skip <| jc_seq <| zsr <| zmv rfl (hd 35 rfl) <| zmv rfl (hd 36 rfl) ?_
    refine jo_call Tryz.f59 (rCmp_s (n1 * d2) (n2 * d1) (by omega) (by omega)) rfl Tryz.func59 rfl rfl (ovL_cons rfl (ovL_cons rfl ovL_nil)) (.cons .n (.cons .n .nil)) (hd 37 rfl) ?_ (fun ch hp => by simp at hp)
    rintro _ ⟨⟩; refine jo_l (ly_ge rfl rfl) (hd 38 rfl) <| jo_nil ?_
    refine jc_if rfl (fun h2 => ?_) (fun h2 => ?_)
    · have hle := cmpI_ge h2
      refine jc_seq <| jc_draw (n := 8) _ rfl mixed <| zal2 0 [1, 6, 7] (lo_l (ly_fa fld1030_0 rfl rfl rfl) (hd 39 rfl)) rfl <| zal 1 (lo_l (ly_ld one4 rfl rfl rfl) (hd 40 rfl)) rfl <| zal2 2 [4, 6, 7] (lo_l (ly_mv rfl) (hd 41 rfl)) rfl <| zal2 3 [4, 6, 7] (lo_l (ly_mv rfl) (hd 42 rfl)) rfl <| zal 5 (lo_l (ly_mv rfl) (hd 44 rfl)) rfl ?_
      refine ja_1 4 ?_ rfl (by kernel_rfl)
      refine js_call Tryz.f60 (rSub_s (n1 * d2) (n2 * d1) hle (by omega) (by omega)) rfl Tryz.func60 rfl rfl (ovL_cons rfl (ovL_cons rfl ovL_nil)) (.cons .n (.cons .n .nil)) (hd 43 rfl) ?_ (fun ch hp => by simp at hp)
      rintro y hy; injection hy with hy; subst hy
      refine ja_1 6 ?_ rfl (by kernel_rfl)
      refine js_call Tryz.f57 (rMake_s b (n1 * d2 - n2 * d1) (d1 * d2) (by omega) (by omega) hD0) rfl Tryz.func57 rfl rfl (ovL_cons rfl (ovL_cons rfl (ovL_cons rfl ovL_nil))) (.cons .b (.cons .n (.cons .n .nil))) (hd 45 rfl) ?_ (fun ch hp => by simp at hp)
      rintro y hy; injection hy with hy; subst hy
      refine ja_1 7 ?_ rfl (by kernel_rfl)
      refine js_st (sy_store rfl rfl rfl siz1030 rfl rfl (zlb rfl)) rfl <| ja_nil (by kernel_rfl) <| jc_ret ?_
      refine ⟨_, _, (.cons (ResV.cell agg1030 rfl rfl rfl rfl) .nil), (.a1 .b (.a1 .n (.a1 .n .a0))), ?_⟩
      have e9 := (add_ref (e := b) q1 q2 (N := n1 * d2 - n2 * d1) (by rw [zs_sub1 hbc hle, zs_mul, zs_mul])).make
      rw [e9.1, e9.2.1, e9.2.2]
    · have hle := cmpI_lt h2
      refine jc_skip <| jc_seq <| jc_draw (n := 8) _ rfl mixed <| zal2 0 [1, 6, 7] (lo_l (ly_fa fld1030_0 rfl rfl rfl) (hd 46 rfl)) rfl <| zal 1 (lo_l (ly_ld one4 rfl rfl rfl) (hd 47 rfl)) rfl <| zal2 2 [4, 6, 7] (lo_l (ly_mv rfl) (hd 48 rfl)) rfl <| zal2 3 [4, 6, 7] (lo_l (ly_mv rfl) (hd 49 rfl)) rfl <| zal 5 (lo_l (ly_mv rfl) (hd 51 rfl)) rfl ?_
      refine ja_1 4 ?_ rfl (by kernel_rfl)
      refine js_call Tryz.f60 (rSub_s (n2 * d1) (n1 * d2) hle (by omega) (by omega)) rfl Tryz.func60 rfl rfl (ovL_cons rfl (ovL_cons rfl ovL_nil)) (.cons .n (.cons .n .nil)) (hd 50 rfl) ?_ (fun ch hp => by simp at hp)
      rintro y hy; injection hy with hy; subst hy
      refine ja_1 6 ?_ rfl (by kernel_rfl)
      refine js_call Tryz.f57 (rMake_s c (n2 * d1 - n1 * d2) (d1 * d2) (by omega) (by omega) hD0) rfl Tryz.func57 rfl rfl (ovL_cons rfl (ovL_cons rfl (ovL_cons rfl ovL_nil))) (.cons .b (.cons .n (.cons .n .nil))) (hd 52 rfl) ?_ (fun ch hp => by simp at hp)
      rintro y hy; injection hy with hy; subst hy
      refine ja_1 7 ?_ rfl (by kernel_rfl)
      refine js_st (sy_store rfl rfl rfl siz1030 rfl rfl (zlb rfl)) rfl <| ja_nil (by kernel_rfl) <| jc_ret ?_
      refine ⟨_, _, (.cons (ResV.cell agg1030 rfl rfl rfl rfl) .nil), (.a1 .b (.a1 .n (.a1 .n .a0))), ?_⟩
      have e9 := (add_ref (e := c) q1 q2 (N := n2 * d1 - n1 * d2) (by rw [zs_sub2 hbc hle, zs_mul, zs_mul])).make
      rw [e9.1, e9.2.1, e9.2.2]

theorem rNegG_s (b : Bool) (n : Nat) (Y : List Int) : Spec Tryz.prog 61 [(.a [.b b, .n false .u64 (digs B32 n), .n false .u64 Y])] (fun o => o = .ret (.a [.b (ngb b n), .n false .u64 (digs B32 n), .n false .u64 Y])) := by
  refine spec_of' [(0, (.a [.b b, .n false .u64 (digs B32 n), .n false .u64 Y]))] rfl Tryz.func61 rfl (zlb rfl) fun Γ hN hds hL hR => ?_
  have hd := hdOf 11 hN
  refine zsr <| jo_h (hy_box (id := 0) (n := 3) rfl rfl rfl (by decide) rfl) (hd 1 rfl) <| jo_h (hy_alloc (id := 1) zero1030 (by decide) rfl (by decide) rfl) (hd 2 rfl) <| jo_nil <| jc_seq <| zsr <| jo_l (ly_lda agg1030 rfl rfl rfl rfl) (hd 3 rfl) ?_
  refine jo_call Tryz.f17 (rSgn_s b n Y) rfl Tryz.func17 rfl rfl (ovL_cons rfl ovL_nil) (.cons (.a1 .b (.a1 .n (.a1 .n .a0))) .nil) (hd 4 rfl) ?_ (fun ch hp => by simp at hp)
  rintro _ ⟨⟩; refine jo_l (ly_ne rfl rfl) (hd 5 rfl) <| jo_nil ?_
  refine jc_if rfl (fun h1 => ?_) (fun h1 => ?_)
  · have hx0 : n ≠ 0 := fun e => h1 (by rw [sgnI_0, zs_ne]; exact e)
    refine jc_region <| jo_l (ly_fa fld1030_0 rfl rfl rfl) (hd 6 rfl) <| jo_l (ly_ld one4 rfl rfl rfl) (hd 7 rfl) <| jo_l (ly_not rfl) (hd 8 rfl) <| jo_l (ly_fa fld1030_0 rfl rfl rfl) (hd 9 rfl) <| jo_st (sy_store rfl rfl rfl siz4 rfl rfl (zlb rfl)) <| jo_nil <| zsr <| jo_l (ly_lda agg1030 rfl rfl rfl rfl) (hd 10 rfl) <| jo_st (sy_store rfl rfl rfl siz1030 rfl rfl (zlb rfl)) <| jo_nil <| jc_ret ?_
    refine ⟨_, _, (.cons (ResV.cell agg1030 rfl rfl rfl rfl) .nil), (.a1 .b (.a1 .n (.a1 .n .a0))), ?_⟩
    unfold ngb
    rw [if_neg hx0]
  · have hx0 : n = 0 := by have h9 := Decidable.not_not.1 h1; rwa [sgnI_0, zs_ne] at h9
    refine jc_skip <| zsr <| jo_l (ly_lda agg1030 rfl rfl rfl rfl) (hd 10 rfl) <| jo_st (sy_store rfl rfl rfl siz1030 rfl rfl (zlb rfl)) <| jo_nil <| jc_ret ?_
    refine ⟨_, _, (.cons (ResV.cell agg1030 rfl rfl rfl rfl) .nil), (.a1 .b (.a1 .n (.a1 .n .a0))), ?_⟩
    unfold ngb
    rw [if_pos hx0]

theorem rSub7_s (b : Bool) (n1 d1 : Nat) (z : Int) (Y : Nat) (q1 : Qe b n1 d1 z Y) (c : Bool) (n2 d2 : Nat) (w : Int) (X : Nat) (q2 : Qe c n2 d2 w X) (hB : lenV (n1 : Int) + lenV (d1 : Int) + lenV (n2 : Int) + lenV (d2 : Int) + 1 ≤ 67108864) : Spec Tryz.prog 14 [(.a [.b b, .n false .u64 (digs B32 n1), .n false .u64 (digs B32 d1)]), (.a [.b c, .n false .u64 (digs B32 n2), .n false .u64 (digs B32 d2)])] (fun o => o = .ret (.a [.b (decide ((z * (X : Int) + -w * (Y : Int)) < 0)), .n false .u64 (digs B32 (nn (z * (X : Int) + -w * (Y : Int)) (Y * X))), .n false .u64 (digs B32 (dd (z * (X : Int) + -w * (Y : Int)) (Y * X)))])) := by
  refine spec_of' [(0, (.a [.b b, .n false .u64 (digs B32 n1), .n false .u64 (digs B32 d1)])), (1, (.a [.b c, .n false .u64 (digs B32 n2), .n false .u64 (digs B32 d2)]))] rfl Tryz.func14 rfl (zlb rfl) fun Γ hN hds hL hR => ?_
  have hd := hdOf 9 hN
  refine zsr <| jo_h (hy_box (id := 0) (n := 3) rfl rfl rfl (by decide) rfl) (hd 2 rfl) <| jo_h (hy_box (id := 1) (n := 3) rfl rfl rfl (by decide) rfl) (hd 3 rfl) <| jo_h (hy_alloc (id := 2) zero1030 (by decide) rfl (by decide) rfl) (hd 4 rfl) <| jo_nil <| jc_seq <| jc_draw (n := 5) _ rfl mixed <| zal 0 (lo_l (ly_lda agg1030 rfl rfl rfl rfl) (hd 5 rfl)) rfl <| zal2 1 [2, 3, 4] (lo_l (ly_lda agg1030 rfl rfl rfl rfl) (hd 6 rfl)) rfl ?_
  refine ja_1 2 ?_ rfl (by kernel_rfl)
  refine js_call Tryz.f61 (rNegG_s c n2 (digs B32 d2)) rfl Tryz.func61 rfl rfl (ovL_cons rfl ovL_nil) (.cons (.a1 .b (.a1 .n (.a1 .n .a0))) .nil) (hd 7 rfl) ?_ (fun ch hp => by simp at hp)
  rintro y hy; injection hy with hy; subst hy
  refine ja_1 3 ?_ rfl (by kernel_rfl)
  refine js_call Tryz.f13 (rAdd7_s b n1 d1 z Y q1 (ngb c n2) n2 d2 (-w) X q2.negb hB) rfl Tryz.func13 rfl rfl (ovL_cons rfl (ovL_cons rfl ovL_nil)) (.cons (.a1 .b (.a1 .n (.a1 .n .a0))) (.cons (.a1 .b (.a1 .n (.a1 .n .a0))) .nil)) (hd 8 rfl) ?_ (fun ch hp => by simp at hp)
  rintro y hy; injection hy with hy; subst hy
  refine ja_1 4 ?_ rfl (by kernel_rfl)
  refine js_st (sy_store rfl rfl rfl siz1030 rfl rfl (zlb rfl)) rfl <| ja_nil (by kernel_rfl) <| jc_ret ?_
  refine ⟨_, _, (.cons (ResV.cell agg1030 rfl rfl rfl rfl) .nil), (.a1 .b (.a1 .n (.a1 .n .a0))), ?_⟩
  exact rfl

theorem rMul7_s (b : Bool) (n1 d1 : Nat) (z : Int) (Y : Nat) (q1 : Qe b n1 d1 z Y) (c : Bool) (n2 d2 : Nat) (w : Int) (X : Nat) (q2 : Qe c n2 d2 w X) (hB : lenV (n1 : Int) + lenV (d1 : Int) + lenV (n2 : Int) + lenV (d2 : Int) + 1 ≤ 67108864) : Spec Tryz.prog 15 [(.a [.b b, .n false .u64 (digs B32 n1), .n false .u64 (digs B32 d1)]), (.a [.b c, .n false .u64 (digs B32 n2), .n false .u64 (digs B32 d2)])] (fun o => o = .ret (.a [.b (decide ((z * w) < 0)), .n false .u64 (digs B32 (nn (z * w) (Y * X))), .n false .u64 (digs B32 (dd (z * w) (Y * X)))])) := by
  refine spec_of' [(0, (.a [.b b, .n false .u64 (digs B32 n1), .n false .u64 (digs B32 d1)])), (1, (.a [.b c, .n false .u64 (digs B32 n2), .n false .u64 (digs B32 d2)]))] rfl Tryz.func15 rfl (zlb rfl) fun Γ hN hds hL hR => ?_
  have hd := hdOf 21 hN
  have h1n := dl_of (x := n1) (by omega)
  have h1d := dl_of (x := d1) (by omega)
  have h2n := dl_of (x := n2) (by omega)
  have h2d := dl_of (x := d2) (by omega)
  have u1 := dl_of (lenV_mn (m := n1) (n := n2) (L := 67108864) (by omega))
  have u3 := dl_of (lenV_mn (m := d1) (n := d2) (L := 67108864) (by omega))
  have hD0 := Nat.mul_ne_zero q1.1 q2.1
  refine zsr <| jo_h (hy_box (id := 0) (n := 3) rfl rfl rfl (by decide) rfl) (hd 2 rfl) <| jo_h (hy_box (id := 1) (n := 3) rfl rfl rfl (by decide) rfl) (hd 3 rfl) <| jo_h (hy_alloc (id := 2) zero1030 (by decide) rfl (by decide) rfl) (hd 4 rfl) <| jo_nil <| jc_seq <| jc_draw (n := 17) _ rfl mixed <| zal2 0 [1, 4, 15, 16] (lo_l (ly_fa fld1030_0 rfl rfl rfl) (hd 5 rfl)) rfl <| zal2 1 [4, 15, 16] (lo_l (ly_ld one4 rfl rfl rfl) (hd 6 rfl)) rfl <| zal2 2 [3, 4, 15, 16] (lo_l (ly_fa fld1030_0 rfl rfl rfl) (hd 7 rfl)) rfl <| zal2 3 [4, 15, 16] (lo_l (ly_ld one4 rfl rfl rfl) (hd 8 rfl)) rfl <| zal 4 (lo_l (ly_neb und4 rfl rfl) (hd 9 rfl)) rfl ?_; refine zal2 5 [6, 9, 14, 15, 16] (lo_l (ly_fa fld1030_1 rfl rfl rfl) (hd 10 rfl)) rfl <| zal2 6 [9, 14, 15, 16] (lo_l (ly_ld one33 rfl rfl rfl) (hd 11 rfl)) rfl <| zal2 7 [8, 9, 14, 15, 16] (lo_l (ly_fa fld1030_1 rfl rfl rfl) (hd 12 rfl)) rfl <| zal2 8 [9, 14, 15, 16] (lo_l (ly_ld one33 rfl rfl rfl) (hd 13 rfl)) rfl <| zal2 10 [11, 14, 15, 16] (lo_l (ly_fa fld1030_2 rfl rfl rfl) (hd 15 rfl)) rfl <| zal2 11 [14, 15, 16] (lo_l (ly_ld one33 rfl rfl rfl) (hd 16 rfl)) rfl <| zal2 12 [13, 14, 15, 16] (lo_l (ly_fa fld1030_2 rfl rfl rfl) (hd 17 rfl)) rfl <| zal2 13 [14, 15, 16] (lo_l (ly_ld one33 rfl rfl rfl) (hd 18 rfl)) rfl ?_
  refine ja_1 9 ?_ rfl (by kernel_rfl)
  refine js_call Tryz.f56 (rMul_s n1 n2 (by omega) (by omega)) rfl Tryz.func56 rfl rfl (ovL_cons rfl (ovL_cons rfl ovL_nil)) (.cons .n (.cons .n .nil)) (hd 14 rfl) ?_ (fun ch hp => by simp at hp)
  rintro y hy; injection hy with hy; subst hy
  refine ja_1 14 ?_ rfl (by kernel_rfl)
  refine js_call Tryz.f56 (rMul_s d1 d2 (by omega) (by omega)) rfl Tryz.func56 rfl rfl (ovL_cons rfl (ovL_cons rfl ovL_nil)) (.cons .n (.cons .n .nil)) (hd 19 rfl) ?_ (fun ch hp => by simp at hp)
  rintro y hy; injection hy with hy; subst hy
  refine ja_1 15 ?_ rfl (by kernel_rfl)
  refine js_call Tryz.f57 (rMake_s (b != c) (n1 * n2) (d1 * d2) (by omega) (by omega) hD0) rfl Tryz.func57 rfl rfl (ovL_cons rfl (ovL_cons rfl (ovL_cons rfl ovL_nil))) (.cons .b (.cons .n (.cons .n .nil))) (hd 20 rfl) ?_ (fun ch hp => by simp at hp)
  rintro y hy; injection hy with hy; subst hy
  refine ja_1 16 ?_ rfl (by kernel_rfl)
  refine js_st (sy_store rfl rfl rfl siz1030 rfl rfl (zlb rfl)) rfl <| ja_nil (by kernel_rfl) <| jc_ret ?_
  refine ⟨_, _, (.cons (ResV.cell agg1030 rfl rfl rfl rfl) .nil), (.a1 .b (.a1 .n (.a1 .n .a0))), ?_⟩
  have e9 := (mul_ref q1 q2).make
  rw [e9.1, e9.2.1, e9.2.2]

theorem rQuo7_s (b : Bool) (n1 d1 : Nat) (z : Int) (Y : Nat) (q1 : Qe b n1 d1 z Y) (c : Bool) (n2 d2 : Nat) (w : Int) (X : Nat) (q2 : Qe c n2 d2 w X) (hB : lenV (n1 : Int) + lenV (d1 : Int) + lenV (n2 : Int) + lenV (d2 : Int) + 1 ≤ 67108864) (hn2 : n2 ≠ 0) : Spec Tryz.prog 19 [(.a [.b b, .n false .u64 (digs B32 n1), .n false .u64 (digs B32 d1)]), (.a [.b c, .n false .u64 (digs B32 n2), .n false .u64 (digs B32 d2)])] (fun o => o = .ret (.a [.b (decide ((z * zs (decide (w < 0)) X) < 0)), .n false .u64 (digs B32 (nn (z * zs (decide (w < 0)) X) (Y * w.natAbs))), .n false .u64 (digs B32 (dd (z * zs (decide (w < 0)) X) (Y * w.natAbs)))])) := by
  refine spec_of' [(0, (.a [.b b, .n false .u64 (digs B32 n1), .n false .u64 (digs B32 d1)])), (1, (.a [.b c, .n false .u64 (digs B32 n2), .n false .u64 (digs B32 d2)]))] rfl Tryz.func19 rfl (zlb rfl) fun Γ hN hds hL hR => ?_
  have hd := hdOf 21 hN
  have h1n := dl_of (x := n1) (by omega)
  have h1d := dl_of (x := d1) (by omega)
  have h2n := dl_of (x := n2) (by omega)
  have h2d := dl_of (x := d2) (by omega)
  have u1 := dl_of (lenV_mn (m := n1) (n := d2) (L := 67108864) (by omega))
  have u3 := dl_of (lenV_mn (m := d1) (n := n2) (L := 67108864) (by omega))
  have hD0 := Nat.mul_ne_zero q1.1 hn2
  refine zsr <| jo_h (hy_box (id := 0) (n := 3) rfl rfl rfl (by decide) rfl) (hd 2 rfl) <| jo_h (hy_box (id := 1) (n := 3) rfl rfl rfl (by decide) rfl) (hd 3 rfl) <| jo_h (hy_alloc (id := 2) zero1030 (by decide) rfl (by decide) rfl) (hd 4 rfl) <| jo_nil <| jc_seq <| jc_draw (n := 17) _ rfl mixed <| zal2 0 [1, 4, 15, 16] (lo_l (ly_fa fld1030_0 rfl rfl rfl) (hd 5 rfl)) rfl <| zal2 1 [4, 15, 16] (lo_l (ly_ld one4 rfl rfl rfl) (hd 6 rfl)) rfl <| zal2 2 [3, 4, 15, 16] (lo_l (ly_fa fld1030_0 rfl rfl rfl) (hd 7 rfl)) rfl <| zal2 3 [4, 15, 16] (lo_l (ly_ld one4 rfl rfl rfl) (hd 8 rfl)) rfl <| zal 4 (lo_l (ly_neb und4 rfl rfl) (hd 9 rfl)) rfl ?_; refine zal2 5 [6, 9, 14, 15, 16] (lo_l (ly_fa fld1030_1 rfl rfl rfl) (hd 10 rfl)) rfl <| zal2 6 [9, 14, 15, 16] (lo_l (ly_ld one33 rfl rfl rfl) (hd 11 rfl)) rfl <| zal2 7 [8, 9, 14, 15, 16] (lo_l (ly_fa fld1030_2 rfl rfl rfl) (hd 12 rfl)) rfl <| zal2 8 [9, 14, 15, 16] (lo_l (ly_ld one33 rfl rfl rfl) (hd 13 rfl)) rfl <| zal2 10 [11, 14, 15, 16] (lo_l (ly_fa fld1030_2 rfl rfl rfl) (hd 15 rfl)) rfl <| zal2 11 [14, 15, 16] (lo_l (ly_ld one33 rfl rfl rfl) (hd 16 rfl)) rfl <| zal2 12 [13, 14, 15, 16] (lo_l (ly_fa fld1030_1 rfl rfl rfl) (hd 17 rfl)) rfl <| zal2 13 [14, 15, 16] (lo_l (ly_ld one33 rfl rfl rfl) (hd 18 rfl)) rfl ?_
  refine ja_1 9 ?_ rfl (by kernel_rfl)
  refine js_call Tryz.f56 (rMul_s n1 d2 (by omega) (by omega)) rfl Tryz.func56 rfl rfl (ovL_cons rfl (ovL_cons rfl ovL_nil)) (.cons .n (.cons .n .nil)) (hd 14 rfl) ?_ (fun ch hp => by simp at hp)
  rintro y hy; injection hy with hy; subst hy
  refine ja_1 14 ?_ rfl (by kernel_rfl)
  refine js_call Tryz.f56 (rMul_s d1 n2 (by omega) (by omega)) rfl Tryz.func56 rfl rfl (ovL_cons rfl (ovL_cons rfl ovL_nil)) (.cons .n (.cons .n .nil)) (hd 19 rfl) ?_ (fun ch hp => by simp at hp)
  rintro y hy; injection hy with hy; subst hy
  refine ja_1 15 ?_ rfl (by kernel_rfl)
  refine js_call Tryz.f57 (rMake_s (b != c) (n1 * d2) (d1 * n2) (by omega) (by omega) hD0) rfl Tryz.func57 rfl rfl (ovL_cons rfl (ovL_cons rfl (ovL_cons rfl ovL_nil))) (.cons .b (.cons .n (.cons .n .nil))) (hd 20 rfl) ?_ (fun ch hp => by simp at hp)
  rintro y hy; injection hy with hy; subst hy
  refine ja_1 16 ?_ rfl (by kernel_rfl)
  refine js_st (sy_store rfl rfl rfl siz1030 rfl rfl (zlb rfl)) rfl <| ja_nil (by kernel_rfl) <| jc_ret ?_
  refine ⟨_, _, (.cons (ResV.cell agg1030 rfl rfl rfl rfl) .nil), (.a1 .b (.a1 .n (.a1 .n .a0))), ?_⟩
  have e9 := (mul_ref q1 (q2.inv hn2)).make
  rw [e9.1, e9.2.1, e9.2.2]

theorem rCmp7_s (b : Bool) (n1 d1 : Nat) (z : Int) (Y : Nat) (q1 : Qe b n1 d1 z Y) (c : Bool) (n2 d2 : Nat) (w : Int) (X : Nat) (q2 : Qe c n2 d2 w X) (hB : lenV (n1 : Int) + lenV (d1 : Int) + lenV (n2 : Int) + lenV (d2 : Int) + 1 ≤ 67108864) : Spec Tryz.prog 16 [(.a [.b b, .n false .u64 (digs B32 n1), .n false .u64 (digs B32 d1)]), (.a [.b c, .n false .u64 (digs B32 n2), .n false .u64 (digs B32 d2)])] (fun o => o = .ret (.i .i64 (cmpI (z * (X : Int)) (w * (Y : Int))))) := by
  refine spec_of' [(0, (.a [.b b, .n false .u64 (digs B32 n1), .n false .u64 (digs B32 d1)])), (1, (.a [.b c, .n false .u64 (digs B32 n2), .n false .u64 (digs B32 d2)]))] rfl Tryz.func16 rfl (zlb rfl) fun Γ hN hds hL hR => ?_
  have hd := hdOf 29 hN
  have h1n := dl_of (x := n1) (by omega)
  have h1d := dl_of (x := d1) (by omega)
  have h2n := dl_of (x := n2) (by omega)
  have h2d := dl_of (x := d2) (by omega)
  have u1 := dl_of (lenV_mn (m := n1) (n := d2) (L := 67108864) (by omega))
  have u3 := dl_of (lenV_mn (m := n2) (n := d1) (L := 67108864) (by omega))
  have hcv := cmp_v q1.1 q2.1 q1.2.1 q2.2.1 q1.2.2 q2.2.2
  have hcq := cmp_q (s := b) (t := c) (x := n1) (x2 := n2) q1.1 q2.1
  have hcr := @cN_rng n1 d1 n2 d2
  have hS1 := rSgn_s b n1 (digs B32 d1)
  have hS2 := rSgn_s c n2 (digs B32 d2)
  refine zsr <| jo_h (hy_box (id := 0) (n := 3) rfl rfl rfl (by decide) rfl) (hd 2 rfl) <| jo_h (hy_box (id := 1) (n := 3) rfl rfl rfl (by decide) rfl) (hd 3 rfl) <| zas rfl (hd 4 rfl) <| jo_nil <| jc_seq <| jc_seq <| jc_draw (n := 5) _ rfl mixed <| zal2 0 [1, 3, 4] (lo_l (ly_lda agg1030 rfl rfl rfl rfl) (hd 5 rfl)) rfl <| zal2 2 [3, 4] (lo_l (ly_lda agg1030 rfl rfl rfl rfl) (hd 7 rfl)) rfl ?_
  refine ja_1 1 ?_ rfl (by kernel_rfl)
  refine js_call Tryz.f17 (hS1) rfl Tryz.func17 rfl rfl (ovL_cons rfl ovL_nil) (.cons (.a1 .b (.a1 .n (.a1 .n .a0))) .nil) (hd 6 rfl) ?_ (fun ch hp => by simp at hp)
  rintro y hy; injection hy with hy; subst hy
  refine ja_1 3 ?_ rfl (by kernel_rfl)
  refine js_call Tryz.f17 (hS2) rfl Tryz.func17 rfl rfl (ovL_cons rfl ovL_nil) (.cons (.a1 .b (.a1 .n (.a1 .n .a0))) .nil) (hd 8 rfl) ?_ (fun ch hp => by simp at hp)
  rintro _ ⟨⟩; refine zal 4 (lo_l (ly_ne rfl rfl) (hd 9 rfl)) rfl <| ja_nil (by kernel_rfl) ?_
  refine jc_if rfl (fun h1 => ?_) (fun h1 => ?_)
  · have hc1 := h1
    refine jc_seq <| jc_seq <| jc_draw (n := 5) _ rfl mixed <| zal2 0 [1, 3, 4] (lo_l (ly_lda agg1030 rfl rfl rfl rfl) (hd 10 rfl)) rfl <| zal2 2 [3, 4] (lo_l (ly_lda agg1030 rfl rfl rfl rfl) (hd 12 rfl)) rfl ?_
    refine ja_1 1 ?_ rfl (by kernel_rfl)
    refine js_call Tryz.f17 (hS1) rfl Tryz.func17 rfl rfl (ovL_cons rfl ovL_nil) (.cons (.a1 .b (.a1 .n (.a1 .n .a0))) .nil) (hd 11 rfl) ?_ (fun ch hp => by simp at hp)
    rintro y hy; injection hy with hy; subst hy
    refine ja_1 3 ?_ rfl (by kernel_rfl)
    refine js_call Tryz.f17 (hS2) rfl Tryz.func17 rfl rfl (ovL_cons rfl ovL_nil) (.cons (.a1 .b (.a1 .n (.a1 .n .a0))) .nil) (hd 13 rfl) ?_ (fun ch hp => by simp at hp)
    rintro _ ⟨⟩; refine zal 4 (lo_l (ly_lt rfl rfl) (hd 14 rfl)) rfl <| ja_nil (by kernel_rfl) ?_
    refine jc_if rfl (fun h2 => ?_) (fun h2 => ?_)
    · have hc2 := h2
      refine zsr <| zas rfl (hd 4 rfl) <| jo_nil <| jc_ret ?_
      refine ⟨_, _, (.cons rfl .nil), .i, ?_⟩
      rw [← hcv, hcq, if_pos hc1, if_pos hc2]
    · have hc2 := h2
      refine jc_skip <| zsr <| zas rfl (hd 4 rfl) <| jo_nil <| jc_ret ?_
      refine ⟨_, _, (.cons rfl .nil), .i, ?_⟩
      rw [← hcv, hcq, if_pos hc1, if_neg hc2]
  · have hc1 := h1
    refine jc_skip <| jc_seq <| jc_draw (n := 15) _ rfl mixed <| zal2 0 [1, 6, 11, 12, 13, 14] (lo_l (ly_lda agg1030 rfl rfl rfl rfl) (hd 15 rfl)) rfl <| zal2 2 [3, 6, 11, 12, 13, 14] (lo_l (ly_fa fld1030_1 rfl rfl rfl) (hd 17 rfl)) rfl <| zal2 3 [6, 11, 12, 13, 14] (lo_l (ly_ld one33 rfl rfl rfl) (hd 18 rfl)) rfl <| zal2 4 [5, 6, 11, 12, 13, 14] (lo_l (ly_fa fld1030_2 rfl rfl rfl) (hd 19 rfl)) rfl <| zal2 5 [6, 11, 12, 13, 14] (lo_l (ly_ld one33 rfl rfl rfl) (hd 20 rfl)) rfl <| zal2 7 [8, 11, 12, 13, 14] (lo_l (ly_fa fld1030_1 rfl rfl rfl) (hd 22 rfl)) rfl <| zal2 8 [11, 12, 13, 14] (lo_l (ly_ld one33 rfl rfl rfl) (hd 23 rfl)) rfl <| zal2 9 [10, 11, 12, 13, 14] (lo_l (ly_fa fld1030_2 rfl rfl rfl) (hd 24 rfl)) rfl <| zal2 10 [11, 12, 13, 14] (lo_l (ly_ld one33 rfl rfl rfl) (hd 25 rfl)) rfl ?_
    refine ja_1 1 ?_ rfl (by kernel_rfl)
    refine js_call Tryz.f17 (hS1) rfl Tryz.func17 rfl rfl (ovL_cons rfl ovL_nil) (.cons (.a1 .b (.a1 .n (.a1 .n .a0))) .nil) (hd 16 rfl) ?_ (fun ch hp => by simp at hp)
    rintro y hy; injection hy with hy; subst hy
    refine ja_1 6 ?_ rfl (by kernel_rfl)
    refine js_call Tryz.f56 (rMul_s n1 d2 (by omega) (by omega)) rfl Tryz.func56 rfl rfl (ovL_cons rfl (ovL_cons rfl ovL_nil)) (.cons .n (.cons .n .nil)) (hd 21 rfl) ?_ (fun ch hp => by simp at hp)
    rintro y hy; injection hy with hy; subst hy
    refine ja_1 11 ?_ rfl (by kernel_rfl)
    refine js_call Tryz.f56 (rMul_s n2 d1 (by omega) (by omega)) rfl Tryz.func56 rfl rfl (ovL_cons rfl (ovL_cons rfl ovL_nil)) (.cons .n (.cons .n .nil)) (hd 26 rfl) ?_ (fun ch hp => by simp at hp)
    rintro y hy; injection hy with hy; subst hy
    refine ja_1 12 ?_ rfl (by kernel_rfl)
    refine js_call Tryz.f59 (rCmp_s (n1 * d2) (n2 * d1) (by omega) (by omega)) rfl Tryz.func59 rfl rfl (ovL_cons rfl (ovL_cons rfl ovL_nil)) (.cons .n (.cons .n .nil)) (hd 27 rfl) ?_ (fun ch hp => by simp at hp)
    rintro _ ⟨⟩; refine zal 13 (lo_l (ly_mul rfl rfl (r := sgnI (zs b n1) * cN n1 d1 n2 d2) (by show IntKind.i64.wrap (sgnI (zs b n1) * cN n1 d1 n2 d2) = _; rcases sgn_range (zs b n1) with e | e | e <;> rw [e] <;> exact wrap_i64 (by omega) (by omega))) (hd 28 rfl)) rfl <| zal 14 (lo_l (ly_as rfl) (hd 4 rfl)) rfl <| ja_nil (by kernel_rfl) <| jc_ret ?_
    refine ⟨_, _, (.cons rfl .nil), .i, ?_⟩
    rw [← hcv, hcq, if_neg hc1]

theorem two_s (s : Bool) (l d : List Int) (x y : Nat) (hx : Rw l x) (hy : Rw d y) (s2 : Bool) (l2 d2 : List Int) (x2 y2 : Nat) (hx2 : Rw l2 x2) (hy2 : Rw d2 y2) (h0 : y ≠ 0) (h02 : y2 ≠ 0) : Spec Tryz.prog 5 [(.a [.b s, .n false .u64 l, .n false .u64 d]), (.a [.b s2, .n false .u64 l2, .n false .u64 d2])] (fun o => o = .ret (.t [(.a [.b (sgq s x), .n false .u64 (digs B32 (rn0 x y)), .n false .u64 (digs B32 (rd0 x y))]), (.a [.b (sgq s2 x2), .n false .u64 (digs B32 (rn0 x2 y2)), .n false .u64 (digs B32 (rd0 x2 y2))]), .i .i64 0])) := by
  refine spec_of' [(0, (.a [.b s, .n false .u64 l, .n false .u64 d])), (1, (.a [.b s2, .n false .u64 l2, .n false .u64 d2]))] rfl Tryz.func5 rfl (zlb rfl) fun Γ hN hds hL hR => ?_
  have hd := hdOf 31 hN
  refine zsr <| jo_h (hy_box (id := 0) (n := 3) rfl rfl rfl (by decide) rfl) (hd 2 rfl) <| jo_h (hy_box (id := 1) (n := 3) rfl rfl rfl (by decide) rfl) (hd 3 rfl) <| jo_h (hy_alloc (id := 2) zero1030 (by decide) rfl (by decide) rfl) (hd 4 rfl) <| jo_h (hy_alloc (id := 3) zero1030 (by decide) rfl (by decide) rfl) (hd 5 rfl) <| zas rfl (hd 6 rfl) <| jo_nil <| zsr <| jo_l (ly_lda agg1027 rfl rfl rfl rfl) (hd 12 rfl) ?_
  refine jo_call Tryz.f28 (number_s s l d x y hx hy h0) rfl Tryz.func28 rfl rfl (ovL_cons rfl ovL_nil) (.cons (.a1 .b (.a1 .n (.a1 .n .a0))) .nil) (hd 13 rfl) ?_ (fun ch hp => by simp at hp)
  rintro _ ⟨⟩; refine zmv rfl (hd 11 rfl) <| jo_l (ly_ext rfl rfl) (hd 14 rfl) <| jo_l (ly_ext rfl rfl) (hd 15 rfl) <| jo_h (hy_alloc (id := 4) zero1030 (by decide) rfl (by decide) rfl) (hd 7 rfl) <| jo_st (sy_store rfl rfl rfl siz1030 rfl rfl (zlb rfl)) <| zas rfl (hd 8 rfl) <| jo_nil <| zsr <| jo_l (ly_lda agg1027 rfl rfl rfl rfl) (hd 17 rfl) ?_
  refine jo_call Tryz.f28 (number_s s2 l2 d2 x2 y2 hx2 hy2 h02) rfl Tryz.func28 rfl rfl (ovL_cons rfl ovL_nil) (.cons (.a1 .b (.a1 .n (.a1 .n .a0))) .nil) (hd 18 rfl) ?_ (fun ch hp => by simp at hp)
  rintro _ ⟨⟩; refine zmv rfl (hd 16 rfl) <| jo_l (ly_ext rfl rfl) (hd 19 rfl) <| jo_l (ly_ext rfl rfl) (hd 20 rfl) <| jo_h (hy_alloc (id := 5) zero1030 (by decide) rfl (by decide) rfl) (hd 9 rfl) <| jo_st (sy_store rfl rfl rfl siz1030 rfl rfl (zlb rfl)) <| zas rfl (hd 10 rfl) <| jo_nil <| jc_seq <| zsr <| zmv rfl (hd 21 rfl) <| jo_l (ly_not rfl) (hd 22 rfl) <| zmv rfl (hd 23 rfl) ?_; refine jo_g 23 rfl rfl (ly_mv rfl) (hd 24 rfl) <| jo_g 23 rfl rfl (ly_not rfl) (hd 25 rfl) <| jo_l (ly_pick_f rfl rfl) (hd 26 rfl) <| jo_nil <| jc_litf rfl <| jc_skip <| jc_seq <| jc_draw (n := 5) _ rfl mixed <| zal 0 (lo_l (ly_lda agg1030 rfl rfl rfl rfl) (hd 29 rfl)) rfl ?_
  refine ja_2 1 2 ?_ ?_ rfl rfl (by kernel_rfl)
  · refine js_l (ly_lda agg1030 rfl rfl rfl rfl) (hd 30 rfl) ?_
    refine ja_1 2 ?_ rfl (by kernel_rfl)
    refine js_st (sy_store rfl rfl rfl siz1030 rfl rfl (zlb rfl)) rfl ?_
    refine ja_1 3 ?_ rfl (by kernel_rfl)
    refine js_st (sy_store rfl rfl rfl siz1030 rfl rfl (zlb rfl)) rfl <| zal 4 (lo_l (ly_as rfl) (hd 6 rfl)) rfl <| ja_nil (by kernel_rfl) <| jc_ret ?_
    refine ⟨_, _, (.cons (ResV.cell agg1030 rfl rfl rfl rfl) (.cons (ResV.cell agg1030 rfl rfl rfl rfl) (.cons rfl .nil))), (.t1 (.a1 .b (.a1 .n (.a1 .n .a0))) (.t1 (.a1 .b (.a1 .n (.a1 .n .a0))) (.t1 .i .t0))), ?_⟩
    exact rfl
  · refine js_st (sy_store rfl rfl rfl siz1030 rfl rfl (zlb rfl)) rfl <| zal 1 (lo_l (ly_lda agg1030 rfl rfl rfl rfl) (hd 30 rfl)) rfl ?_
    refine ja_1 3 ?_ rfl (by kernel_rfl)
    refine js_st (sy_store rfl rfl rfl siz1030 rfl rfl (zlb rfl)) rfl <| zal 4 (lo_l (ly_as rfl) (hd 6 rfl)) rfl <| ja_nil (by kernel_rfl) <| jc_ret ?_
    refine ⟨_, _, (.cons (ResV.cell agg1030 rfl rfl rfl rfl) (.cons (ResV.cell agg1030 rfl rfl rfl rfl) (.cons rfl .nil))), (.t1 (.a1 .b (.a1 .n (.a1 .n .a0))) (.t1 (.a1 .b (.a1 .n (.a1 .n .a0))) (.t1 .i .t0))), ?_⟩
    exact rfl

theorem two_z1 (s : Bool) (l d : List Int) (x y : Nat) (hx : Rw l x) (hy : Rw d y) (s2 : Bool) (l2 d2 : List Int) (x2 y2 : Nat) (hx2 : Rw l2 x2) (hy2 : Rw d2 y2) (h0 : y = 0) (h02 : y2 = 0) : Spec Tryz.prog 5 [(.a [.b s, .n false .u64 l, .n false .u64 d]), (.a [.b s2, .n false .u64 l2, .n false .u64 d2])] (fun o => o = .ret (.t [(.a [.b false, .n false .u64 [], .n false .u64 []]), (.a [.b false, .n false .u64 [], .n false .u64 []]), .i .i64 70])) := by
  refine spec_of' [(0, (.a [.b s, .n false .u64 l, .n false .u64 d])), (1, (.a [.b s2, .n false .u64 l2, .n false .u64 d2]))] rfl Tryz.func5 rfl (zlb rfl) fun Γ hN hds hL hR => ?_
  have hd := hdOf 31 hN
  refine zsr <| jo_h (hy_box (id := 0) (n := 3) rfl rfl rfl (by decide) rfl) (hd 2 rfl) <| jo_h (hy_box (id := 1) (n := 3) rfl rfl rfl (by decide) rfl) (hd 3 rfl) <| jo_h (hy_alloc (id := 2) zero1030 (by decide) rfl (by decide) rfl) (hd 4 rfl) <| jo_h (hy_alloc (id := 3) zero1030 (by decide) rfl (by decide) rfl) (hd 5 rfl) <| zas rfl (hd 6 rfl) <| jo_nil <| zsr <| jo_l (ly_lda agg1027 rfl rfl rfl rfl) (hd 12 rfl) ?_
  refine jo_call Tryz.f28 (number_z s l d (by rw [h0] at hy; exact hy)) rfl Tryz.func28 rfl rfl (ovL_cons rfl ovL_nil) (.cons (.a1 .b (.a1 .n (.a1 .n .a0))) .nil) (hd 13 rfl) ?_ (fun ch hp => by simp at hp)
  rintro _ ⟨⟩; refine zmv rfl (hd 11 rfl) <| jo_l (ly_ext rfl rfl) (hd 14 rfl) <| jo_l (ly_ext rfl rfl) (hd 15 rfl) <| jo_h (hy_alloc (id := 4) zero1030 (by decide) rfl (by decide) rfl) (hd 7 rfl) <| jo_st (sy_store rfl rfl rfl siz1030 rfl rfl (zlb rfl)) <| zas rfl (hd 8 rfl) <| jo_nil <| zsr <| jo_l (ly_lda agg1027 rfl rfl rfl rfl) (hd 17 rfl) ?_
  refine jo_call Tryz.f28 (number_z s2 l2 d2 (by rw [h02] at hy2; exact hy2)) rfl Tryz.func28 rfl rfl (ovL_cons rfl ovL_nil) (.cons (.a1 .b (.a1 .n (.a1 .n .a0))) .nil) (hd 18 rfl) ?_ (fun ch hp => by simp at hp)
  rintro _ ⟨⟩; refine zmv rfl (hd 16 rfl) <| jo_l (ly_ext rfl rfl) (hd 19 rfl) <| jo_l (ly_ext rfl rfl) (hd 20 rfl) <| jo_h (hy_alloc (id := 5) zero1030 (by decide) rfl (by decide) rfl) (hd 9 rfl) <| jo_st (sy_store rfl rfl rfl siz1030 rfl rfl (zlb rfl)) <| zas rfl (hd 10 rfl) <| jo_nil <| jc_seq <| zsr <| zmv rfl (hd 21 rfl) <| jo_l (ly_not rfl) (hd 22 rfl) <| zmv rfl (hd 23 rfl) ?_; refine jo_s 23 rfl rfl rfl (hd 24 rfl) <| jo_s 23 rfl rfl rfl (hd 25 rfl) <| jo_l (ly_pick_t rfl rfl) (hd 26 rfl) <| jo_nil <| jc_litt rfl <| jc_seq <| jc_draw (n := 5) _ rfl mixed <| zal 0 (lo_l (ly_lda agg1030 rfl rfl rfl rfl) (hd 27 rfl)) rfl ?_
  refine ja_2 1 2 ?_ ?_ rfl rfl (by kernel_rfl)
  · refine js_l (ly_lda agg1030 rfl rfl rfl rfl) (hd 28 rfl) ?_
    refine ja_1 2 ?_ rfl (by kernel_rfl)
    refine js_st (sy_store rfl rfl rfl siz1030 rfl rfl (zlb rfl)) rfl ?_
    refine ja_1 3 ?_ rfl (by kernel_rfl)
    refine js_st (sy_store rfl rfl rfl siz1030 rfl rfl (zlb rfl)) rfl <| zal 4 (lo_l (ly_as rfl) (hd 6 rfl)) rfl <| ja_nil (by kernel_rfl) <| jc_ret ?_
    refine ⟨_, _, (.cons (ResV.cell agg1030 rfl rfl rfl rfl) (.cons (ResV.cell agg1030 rfl rfl rfl rfl) (.cons rfl .nil))), (.t1 (.a1 .b (.a1 .n (.a1 .n .a0))) (.t1 (.a1 .b (.a1 .n (.a1 .n .a0))) (.t1 .i .t0))), ?_⟩
    exact rfl
  · refine js_st (sy_store rfl rfl rfl siz1030 rfl rfl (zlb rfl)) rfl <| zal 1 (lo_l (ly_lda agg1030 rfl rfl rfl rfl) (hd 28 rfl)) rfl ?_
    refine ja_1 3 ?_ rfl (by kernel_rfl)
    refine js_st (sy_store rfl rfl rfl siz1030 rfl rfl (zlb rfl)) rfl <| zal 4 (lo_l (ly_as rfl) (hd 6 rfl)) rfl <| ja_nil (by kernel_rfl) <| jc_ret ?_
    refine ⟨_, _, (.cons (ResV.cell agg1030 rfl rfl rfl rfl) (.cons (ResV.cell agg1030 rfl rfl rfl rfl) (.cons rfl .nil))), (.t1 (.a1 .b (.a1 .n (.a1 .n .a0))) (.t1 (.a1 .b (.a1 .n (.a1 .n .a0))) (.t1 .i .t0))), ?_⟩
    exact rfl

theorem two_z2 (s : Bool) (l d : List Int) (x y : Nat) (hx : Rw l x) (hy : Rw d y) (s2 : Bool) (l2 d2 : List Int) (x2 y2 : Nat) (hx2 : Rw l2 x2) (hy2 : Rw d2 y2) (h0 : y = 0) (h02 : y2 ≠ 0) : Spec Tryz.prog 5 [(.a [.b s, .n false .u64 l, .n false .u64 d]), (.a [.b s2, .n false .u64 l2, .n false .u64 d2])] (fun o => o = .ret (.t [(.a [.b false, .n false .u64 [], .n false .u64 []]), (.a [.b (sgq s2 x2), .n false .u64 (digs B32 (rn0 x2 y2)), .n false .u64 (digs B32 (rd0 x2 y2))]), .i .i64 70])) := by
  refine spec_of' [(0, (.a [.b s, .n false .u64 l, .n false .u64 d])), (1, (.a [.b s2, .n false .u64 l2, .n false .u64 d2]))] rfl Tryz.func5 rfl (zlb rfl) fun Γ hN hds hL hR => ?_
  have hd := hdOf 31 hN
  refine zsr <| jo_h (hy_box (id := 0) (n := 3) rfl rfl rfl (by decide) rfl) (hd 2 rfl) <| jo_h (hy_box (id := 1) (n := 3) rfl rfl rfl (by decide) rfl) (hd 3 rfl) <| jo_h (hy_alloc (id := 2) zero1030 (by decide) rfl (by decide) rfl) (hd 4 rfl) <| jo_h (hy_alloc (id := 3) zero1030 (by decide) rfl (by decide) rfl) (hd 5 rfl) <| zas rfl (hd 6 rfl) <| jo_nil <| zsr <| jo_l (ly_lda agg1027 rfl rfl rfl rfl) (hd 12 rfl) ?_
  refine jo_call Tryz.f28 (number_z s l d (by rw [h0] at hy; exact hy)) rfl Tryz.func28 rfl rfl (ovL_cons rfl ovL_nil) (.cons (.a1 .b (.a1 .n (.a1 .n .a0))) .nil) (hd 13 rfl) ?_ (fun ch hp => by simp at hp)
  rintro _ ⟨⟩; refine zmv rfl (hd 11 rfl) <| jo_l (ly_ext rfl rfl) (hd 14 rfl) <| jo_l (ly_ext rfl rfl) (hd 15 rfl) <| jo_h (hy_alloc (id := 4) zero1030 (by decide) rfl (by decide) rfl) (hd 7 rfl) <| jo_st (sy_store rfl rfl rfl siz1030 rfl rfl (zlb rfl)) <| zas rfl (hd 8 rfl) <| jo_nil <| zsr <| jo_l (ly_lda agg1027 rfl rfl rfl rfl) (hd 17 rfl) ?_
  refine jo_call Tryz.f28 (number_s s2 l2 d2 x2 y2 hx2 hy2 h02) rfl Tryz.func28 rfl rfl (ovL_cons rfl ovL_nil) (.cons (.a1 .b (.a1 .n (.a1 .n .a0))) .nil) (hd 18 rfl) ?_ (fun ch hp => by simp at hp)
  rintro _ ⟨⟩; refine zmv rfl (hd 16 rfl) <| jo_l (ly_ext rfl rfl) (hd 19 rfl) <| jo_l (ly_ext rfl rfl) (hd 20 rfl) <| jo_h (hy_alloc (id := 5) zero1030 (by decide) rfl (by decide) rfl) (hd 9 rfl) <| jo_st (sy_store rfl rfl rfl siz1030 rfl rfl (zlb rfl)) <| zas rfl (hd 10 rfl) <| jo_nil <| jc_seq <| zsr <| zmv rfl (hd 21 rfl) <| jo_l (ly_not rfl) (hd 22 rfl) <| zmv rfl (hd 23 rfl) ?_; refine jo_s 23 rfl rfl rfl (hd 24 rfl) <| jo_s 23 rfl rfl rfl (hd 25 rfl) <| jo_l (ly_pick_t rfl rfl) (hd 26 rfl) <| jo_nil <| jc_litt rfl <| jc_seq <| jc_draw (n := 5) _ rfl mixed <| zal 0 (lo_l (ly_lda agg1030 rfl rfl rfl rfl) (hd 27 rfl)) rfl ?_
  refine ja_2 1 2 ?_ ?_ rfl rfl (by kernel_rfl)
  · refine js_l (ly_lda agg1030 rfl rfl rfl rfl) (hd 28 rfl) ?_
    refine ja_1 2 ?_ rfl (by kernel_rfl)
    refine js_st (sy_store rfl rfl rfl siz1030 rfl rfl (zlb rfl)) rfl ?_
    refine ja_1 3 ?_ rfl (by kernel_rfl)
    refine js_st (sy_store rfl rfl rfl siz1030 rfl rfl (zlb rfl)) rfl <| zal 4 (lo_l (ly_as rfl) (hd 6 rfl)) rfl <| ja_nil (by kernel_rfl) <| jc_ret ?_
    refine ⟨_, _, (.cons (ResV.cell agg1030 rfl rfl rfl rfl) (.cons (ResV.cell agg1030 rfl rfl rfl rfl) (.cons rfl .nil))), (.t1 (.a1 .b (.a1 .n (.a1 .n .a0))) (.t1 (.a1 .b (.a1 .n (.a1 .n .a0))) (.t1 .i .t0))), ?_⟩
    exact rfl
  · refine js_st (sy_store rfl rfl rfl siz1030 rfl rfl (zlb rfl)) rfl <| zal 1 (lo_l (ly_lda agg1030 rfl rfl rfl rfl) (hd 28 rfl)) rfl ?_
    refine ja_1 3 ?_ rfl (by kernel_rfl)
    refine js_st (sy_store rfl rfl rfl siz1030 rfl rfl (zlb rfl)) rfl <| zal 4 (lo_l (ly_as rfl) (hd 6 rfl)) rfl <| ja_nil (by kernel_rfl) <| jc_ret ?_
    refine ⟨_, _, (.cons (ResV.cell agg1030 rfl rfl rfl rfl) (.cons (ResV.cell agg1030 rfl rfl rfl rfl) (.cons rfl .nil))), (.t1 (.a1 .b (.a1 .n (.a1 .n .a0))) (.t1 (.a1 .b (.a1 .n (.a1 .n .a0))) (.t1 .i .t0))), ?_⟩
    exact rfl

theorem two_z3 (s : Bool) (l d : List Int) (x y : Nat) (hx : Rw l x) (hy : Rw d y) (s2 : Bool) (l2 d2 : List Int) (x2 y2 : Nat) (hx2 : Rw l2 x2) (hy2 : Rw d2 y2) (h0 : y ≠ 0) (h02 : y2 = 0) : Spec Tryz.prog 5 [(.a [.b s, .n false .u64 l, .n false .u64 d]), (.a [.b s2, .n false .u64 l2, .n false .u64 d2])] (fun o => o = .ret (.t [(.a [.b (sgq s x), .n false .u64 (digs B32 (rn0 x y)), .n false .u64 (digs B32 (rd0 x y))]), (.a [.b false, .n false .u64 [], .n false .u64 []]), .i .i64 70])) := by
  refine spec_of' [(0, (.a [.b s, .n false .u64 l, .n false .u64 d])), (1, (.a [.b s2, .n false .u64 l2, .n false .u64 d2]))] rfl Tryz.func5 rfl (zlb rfl) fun Γ hN hds hL hR => ?_
  have hd := hdOf 31 hN
  refine zsr <| jo_h (hy_box (id := 0) (n := 3) rfl rfl rfl (by decide) rfl) (hd 2 rfl) <| jo_h (hy_box (id := 1) (n := 3) rfl rfl rfl (by decide) rfl) (hd 3 rfl) <| jo_h (hy_alloc (id := 2) zero1030 (by decide) rfl (by decide) rfl) (hd 4 rfl) <| jo_h (hy_alloc (id := 3) zero1030 (by decide) rfl (by decide) rfl) (hd 5 rfl) <| zas rfl (hd 6 rfl) <| jo_nil <| zsr <| jo_l (ly_lda agg1027 rfl rfl rfl rfl) (hd 12 rfl) ?_
  refine jo_call Tryz.f28 (number_s s l d x y hx hy h0) rfl Tryz.func28 rfl rfl (ovL_cons rfl ovL_nil) (.cons (.a1 .b (.a1 .n (.a1 .n .a0))) .nil) (hd 13 rfl) ?_ (fun ch hp => by simp at hp)
  rintro _ ⟨⟩; refine zmv rfl (hd 11 rfl) <| jo_l (ly_ext rfl rfl) (hd 14 rfl) <| jo_l (ly_ext rfl rfl) (hd 15 rfl) <| jo_h (hy_alloc (id := 4) zero1030 (by decide) rfl (by decide) rfl) (hd 7 rfl) <| jo_st (sy_store rfl rfl rfl siz1030 rfl rfl (zlb rfl)) <| zas rfl (hd 8 rfl) <| jo_nil <| zsr <| jo_l (ly_lda agg1027 rfl rfl rfl rfl) (hd 17 rfl) ?_
  refine jo_call Tryz.f28 (number_z s2 l2 d2 (by rw [h02] at hy2; exact hy2)) rfl Tryz.func28 rfl rfl (ovL_cons rfl ovL_nil) (.cons (.a1 .b (.a1 .n (.a1 .n .a0))) .nil) (hd 18 rfl) ?_ (fun ch hp => by simp at hp)
  rintro _ ⟨⟩; refine zmv rfl (hd 16 rfl) <| jo_l (ly_ext rfl rfl) (hd 19 rfl) <| jo_l (ly_ext rfl rfl) (hd 20 rfl) <| jo_h (hy_alloc (id := 5) zero1030 (by decide) rfl (by decide) rfl) (hd 9 rfl) <| jo_st (sy_store rfl rfl rfl siz1030 rfl rfl (zlb rfl)) <| zas rfl (hd 10 rfl) <| jo_nil <| jc_seq <| zsr <| zmv rfl (hd 21 rfl) <| jo_l (ly_not rfl) (hd 22 rfl) <| zmv rfl (hd 23 rfl) ?_; refine jo_g 23 rfl rfl (ly_mv rfl) (hd 24 rfl) <| jo_g 23 rfl rfl (ly_not rfl) (hd 25 rfl) <| jo_l (ly_pick_f rfl rfl) (hd 26 rfl) <| jo_nil <| jc_litt rfl <| jc_seq <| jc_draw (n := 5) _ rfl mixed <| zal 0 (lo_l (ly_lda agg1030 rfl rfl rfl rfl) (hd 27 rfl)) rfl ?_
  refine ja_2 1 2 ?_ ?_ rfl rfl (by kernel_rfl)
  · refine js_l (ly_lda agg1030 rfl rfl rfl rfl) (hd 28 rfl) ?_
    refine ja_1 2 ?_ rfl (by kernel_rfl)
    refine js_st (sy_store rfl rfl rfl siz1030 rfl rfl (zlb rfl)) rfl ?_
    refine ja_1 3 ?_ rfl (by kernel_rfl)
    refine js_st (sy_store rfl rfl rfl siz1030 rfl rfl (zlb rfl)) rfl <| zal 4 (lo_l (ly_as rfl) (hd 6 rfl)) rfl <| ja_nil (by kernel_rfl) <| jc_ret ?_
    refine ⟨_, _, (.cons (ResV.cell agg1030 rfl rfl rfl rfl) (.cons (ResV.cell agg1030 rfl rfl rfl rfl) (.cons rfl .nil))), (.t1 (.a1 .b (.a1 .n (.a1 .n .a0))) (.t1 (.a1 .b (.a1 .n (.a1 .n .a0))) (.t1 .i .t0))), ?_⟩
    exact rfl
  · refine js_st (sy_store rfl rfl rfl siz1030 rfl rfl (zlb rfl)) rfl <| zal 1 (lo_l (ly_lda agg1030 rfl rfl rfl rfl) (hd 28 rfl)) rfl ?_
    refine ja_1 3 ?_ rfl (by kernel_rfl)
    refine js_st (sy_store rfl rfl rfl siz1030 rfl rfl (zlb rfl)) rfl <| zal 4 (lo_l (ly_as rfl) (hd 6 rfl)) rfl <| ja_nil (by kernel_rfl) <| jc_ret ?_
    refine ⟨_, _, (.cons (ResV.cell agg1030 rfl rfl rfl rfl) (.cons (ResV.cell agg1030 rfl rfl rfl rfl) (.cons rfl .nil))), (.t1 (.a1 .b (.a1 .n (.a1 .n .a0))) (.t1 (.a1 .b (.a1 .n (.a1 .n .a0))) (.t1 .i .t0))), ?_⟩
    exact rfl

theorem two_z (s : Bool) (l d : List Int) (x y : Nat) (hx : Rw l x) (hy : Rw d y) (s2 : Bool) (l2 d2 : List Int) (x2 y2 : Nat) (hx2 : Rw l2 x2) (hy2 : Rw d2 y2) (hz : y = 0 ∨ y2 = 0) : Spec Tryz.prog 5 [(.a [.b s, .n false .u64 l, .n false .u64 d]), (.a [.b s2, .n false .u64 l2, .n false .u64 d2])] (fun o => ∃ (b c : Bool) (n1 d1 n2 d2 : List Int), o = .ret (.t [.a [.b b, .n false .u64 n1, .n false .u64 d1], .a [.b c, .n false .u64 n2, .n false .u64 d2], .i .i64 70])) := by
  by_cases h0 : y = 0 <;> by_cases h02 : y2 = 0
  · exact (two_z1 s l d x y hx hy s2 l2 d2 x2 y2 hx2 hy2 h0 h02).mono fun o h => ⟨_, _, _, _, _, _, h⟩
  · exact (two_z2 s l d x y hx hy s2 l2 d2 x2 y2 hx2 hy2 h0 h02).mono fun o h => ⟨_, _, _, _, _, _, h⟩
  · exact (two_z3 s l d x y hx hy s2 l2 d2 x2 y2 hx2 hy2 h0 h02).mono fun o h => ⟨_, _, _, _, _, _, h⟩
  · omega

set_option maxHeartbeats 20000000 in
set_option maxRecDepth 100000 in
theorem RatioRings_z (s : Bool) (l d : List Int) (x y : Nat) (hx : Rw l x) (hy : Rw d y) (s2 : Bool) (l2 d2 : List Int) (x2 y2 : Nat) (hx2 : Rw l2 x2) (hy2 : Rw d2 y2) (hz : y = 0 ∨ y2 = 0) : Spec Tryz.prog 3 [(.a [.b s, .n false .u64 l, .n false .u64 d]), (.a [.b s2, .n false .u64 l2, .n false .u64 d2])] (fun o => o = .ret (.b true)) := by
  refine spec_of' [(0, (.a [.b s, .n false .u64 l, .n false .u64 d])), (1, (.a [.b s2, .n false .u64 l2, .n false .u64 d2]))] rfl Tryz.func3 rfl (zlb rfl) fun Γ hN hds hL hR => ?_
  have hd := hdOf 167 hN
  have hSe := same7_er false [] [] 70 (by decide)
  refine zsr <| jo_h (hy_box (id := 0) (n := 3) rfl rfl rfl (by decide) rfl) (hd 2 rfl) <| jo_h (hy_box (id := 1) (n := 3) rfl rfl rfl (by decide) rfl) (hd 3 rfl) <| zas rfl (hd 4 rfl) <| jo_nil <| zsr <| jo_l (ly_lda agg1027 rfl rfl rfl rfl) (hd 20 rfl) <| jo_l (ly_lda agg1027 rfl rfl rfl rfl) (hd 21 rfl) ?_
  refine jo_call Tryz.f5 (two_z s l d x y hx hy s2 l2 d2 x2 y2 hx2 hy2 hz) rfl Tryz.func5 rfl rfl (ovL_cons rfl (ovL_cons rfl ovL_nil)) (.cons (.a1 .b (.a1 .n (.a1 .n .a0))) (.cons (.a1 .b (.a1 .n (.a1 .n .a0))) .nil)) (hd 22 rfl) ?_ (fun ch hp => by simp at hp)
  rintro y9 ⟨b9, c9, n9, m9, p9, r9, hy9⟩; injection hy9 with hy9; subst hy9; refine zmv rfl (hd 19 rfl) <| jo_l (ly_ext rfl rfl) (hd 23 rfl) <| jo_l (ly_ext rfl rfl) (hd 24 rfl) <| jo_l (ly_ext rfl rfl) (hd 25 rfl) <| jo_h (hy_alloc (id := 2) zero1030 (by decide) rfl (by decide) rfl) (hd 5 rfl) <| jo_h (hy_alloc (id := 3) zero1030 (by decide) rfl (by decide) rfl) (hd 6 rfl) <| jo_st (sy_store rfl rfl rfl siz1030 rfl rfl (zlb rfl)) <| jo_st (sy_store rfl rfl rfl siz1030 rfl rfl (zlb rfl)) <| zas rfl (hd 7 rfl) <| jo_nil <| zsr <| jo_l (ly_lda agg1027 rfl rfl rfl rfl) (hd 27 rfl) ?_; refine jo_l (ly_lda agg1027 rfl rfl rfl rfl) (hd 28 rfl) ?_
  refine jo_call Tryz.f6 (QAdd_z s l d y hy s2 l2 d2 y2 hy2 hz) rfl Tryz.func6 rfl rfl (ovL_cons rfl (ovL_cons rfl ovL_nil)) (.cons (.a1 .b (.a1 .n (.a1 .n .a0))) (.cons (.a1 .b (.a1 .n (.a1 .n .a0))) .nil)) (hd 29 rfl) ?_ (fun ch hp => by simp at hp)
  rintro _ ⟨⟩; refine zmv rfl (hd 26 rfl) <| jo_l (ly_ext rfl rfl) (hd 30 rfl) <| jo_l (ly_ext rfl rfl) (hd 31 rfl) <| jo_h (hy_alloc (id := 4) zero1027 (by decide) rfl (by decide) rfl) (hd 8 rfl) <| jo_st (sy_store rfl rfl rfl siz1027 rfl rfl (zlb rfl)) <| zas rfl (hd 9 rfl) <| jo_nil <| zsr <| jo_l (ly_lda agg1027 rfl rfl rfl rfl) (hd 33 rfl) <| jo_l (ly_lda agg1027 rfl rfl rfl rfl) (hd 34 rfl) ?_
  refine jo_call Tryz.f7 (QSub_z s l d y hy s2 l2 d2 y2 hy2 hz) rfl Tryz.func7 rfl rfl (ovL_cons rfl (ovL_cons rfl ovL_nil)) (.cons (.a1 .b (.a1 .n (.a1 .n .a0))) (.cons (.a1 .b (.a1 .n (.a1 .n .a0))) .nil)) (hd 35 rfl) ?_ (fun ch hp => by simp at hp)
  rintro _ ⟨⟩; refine zmv rfl (hd 32 rfl) <| jo_l (ly_ext rfl rfl) (hd 36 rfl) <| jo_l (ly_ext rfl rfl) (hd 37 rfl) <| jo_h (hy_alloc (id := 5) zero1027 (by decide) rfl (by decide) rfl) (hd 10 rfl) <| jo_st (sy_store rfl rfl rfl siz1027 rfl rfl (zlb rfl)) <| zas rfl (hd 11 rfl) <| jo_nil <| jc_seq <| jc_H (H' := [⟨27, 3, 0, true, [.b s, .n false .u64 l, .n false .u64 d]⟩, ⟨27, 3, 0, true, [.b s2, .n false .u64 l2, .n false .u64 d2]⟩, ⟨30, 3, 0, true, [.b b9, .n false .u64 n9, .n false .u64 m9]⟩, ⟨30, 3, 0, true, [.b c9, .n false .u64 p9, .n false .u64 r9]⟩, ⟨27, 3, 0, true, [.b false, .n false .u64 [], .n false .u64 []]⟩, ⟨27, 3, 0, true, [.b false, .n false .u64 [], .n false .u64 []]⟩]) rfl <| jc_region <| jo_l (ly_lda agg1027 rfl rfl rfl rfl) (hd 39 rfl) <| jo_l (ly_lda agg1027 rfl rfl rfl rfl) (hd 40 rfl) ?_
  refine jo_call Tryz.f8 (QMul_z s l d y hy s2 l2 d2 y2 hy2 hz) rfl Tryz.func8 rfl rfl (ovL_cons rfl (ovL_cons rfl ovL_nil)) (.cons (.a1 .b (.a1 .n (.a1 .n .a0))) (.cons (.a1 .b (.a1 .n (.a1 .n .a0))) .nil)) (hd 41 rfl) ?_ (fun ch hp => by simp at hp)
  rintro _ ⟨⟩; refine zmv rfl (hd 38 rfl) <| jo_l (ly_ext rfl rfl) (hd 42 rfl) <| jo_l (ly_ext rfl rfl) (hd 43 rfl) <| jo_h (hy_alloc (id := 6) zero1027 (by decide) rfl (by decide) rfl) (hd 12 rfl) <| jo_st (sy_store rfl rfl rfl siz1027 rfl rfl (zlb rfl)) <| zas rfl (hd 13 rfl) <| jo_nil <| zsr <| jo_l (ly_lda agg1027 rfl rfl rfl rfl) (hd 45 rfl) <| jo_l (ly_lda agg1027 rfl rfl rfl rfl) (hd 46 rfl) ?_
  refine jo_call Tryz.f9 (QQuo_z s l d y hy s2 l2 d2 y2 hy2 hz) rfl Tryz.func9 rfl rfl (ovL_cons rfl (ovL_cons rfl ovL_nil)) (.cons (.a1 .b (.a1 .n (.a1 .n .a0))) (.cons (.a1 .b (.a1 .n (.a1 .n .a0))) .nil)) (hd 47 rfl) ?_ (fun ch hp => by simp at hp)
  rintro _ ⟨⟩; refine zmv rfl (hd 44 rfl) <| jo_l (ly_ext rfl rfl) (hd 48 rfl) <| jo_l (ly_ext rfl rfl) (hd 49 rfl) <| jo_h (hy_alloc (id := 7) zero1027 (by decide) rfl (by decide) rfl) (hd 14 rfl) <| jo_st (sy_store rfl rfl rfl siz1027 rfl rfl (zlb rfl)) <| zas rfl (hd 15 rfl) <| jo_nil <| jc_seq <| jc_H (H' := [⟨27, 3, 0, true, [.b s, .n false .u64 l, .n false .u64 d]⟩, ⟨27, 3, 0, true, [.b s2, .n false .u64 l2, .n false .u64 d2]⟩, ⟨30, 3, 0, true, [.b b9, .n false .u64 n9, .n false .u64 m9]⟩, ⟨30, 3, 0, true, [.b c9, .n false .u64 p9, .n false .u64 r9]⟩, ⟨27, 3, 0, true, [.b false, .n false .u64 [], .n false .u64 []]⟩, ⟨27, 3, 0, true, [.b false, .n false .u64 [], .n false .u64 []]⟩, ⟨27, 3, 0, true, [.b false, .n false .u64 [], .n false .u64 []]⟩, ⟨27, 3, 0, true, [.b false, .n false .u64 [], .n false .u64 []]⟩]) rfl <| jc_region <| jo_l (ly_lda agg1027 rfl rfl rfl rfl) (hd 51 rfl) <| jo_l (ly_lda agg1027 rfl rfl rfl rfl) (hd 52 rfl) ?_
  refine jo_call Tryz.f10 (QCmp_z s l d y hy s2 l2 d2 y2 hy2 hz) rfl Tryz.func10 rfl rfl (ovL_cons rfl (ovL_cons rfl ovL_nil)) (.cons (.a1 .b (.a1 .n (.a1 .n .a0))) (.cons (.a1 .b (.a1 .n (.a1 .n .a0))) .nil)) (hd 53 rfl) ?_ (fun ch hp => by simp at hp)
  rintro _ ⟨⟩; refine zmv rfl (hd 50 rfl) <| jo_l (ly_ext rfl rfl) (hd 54 rfl) <| jo_l (ly_ext rfl rfl) (hd 55 rfl) <| zas rfl (hd 16 rfl) <| zas rfl (hd 17 rfl) <| jo_nil <| jc_seq <| zsr <| zmv rfl (hd 56 rfl) <| jo_l (ly_tt (ly_ne rfl rfl) (by decide)) (hd 57 rfl) <| jo_nil <| jc_litt rfl ?_; refine zsr <| jo_l (ly_build (is := []) (xs := []) (pls := []) zero1030 pls1030_ rfl ovL_nil rfl trivial (all_of rfl) rfl) (hd 58 rfl) <| jo_h (hy_alloc (id := 8) zero1030 (by decide) rfl (by decide) rfl) (hd 18 rfl) <| jo_st (sy_store rfl rfl rfl siz1030 rfl rfl (zlb rfl)) <| jo_nil <| jc_seq <| jc_H (H' := [⟨27, 3, 0, true, [.b s, .n false .u64 l, .n false .u64 d]⟩, ⟨27, 3, 0, true, [.b s2, .n false .u64 l2, .n false .u64 d2]⟩, ⟨30, 3, 0, true, [.b b9, .n false .u64 n9, .n false .u64 m9]⟩, ⟨30, 3, 0, true, [.b c9, .n false .u64 p9, .n false .u64 r9]⟩, ⟨27, 3, 0, true, [.b false, .n false .u64 [], .n false .u64 []]⟩, ⟨27, 3, 0, true, [.b false, .n false .u64 [], .n false .u64 []]⟩, ⟨27, 3, 0, true, [.b false, .n false .u64 [], .n false .u64 []]⟩, ⟨27, 3, 0, true, [.b false, .n false .u64 [], .n false .u64 []]⟩, ⟨30, 3, 0, true, [.b false, .c (.slice none 0 0), .c (.slice none 0 0)]⟩]) rfl <| jc_region <| jo_l (ly_lda agg1027 rfl rfl rfl rfl) (hd 59 rfl) <| zmv rfl (hd 60 rfl) <| jo_l (ly_lda agg1030 rfl rfl rfl rfl) (hd 61 rfl) <| zmv rfl (hd 62 rfl) ?_
  refine jo_call Tryz.f11 (hSe) rfl Tryz.func11 rfl rfl (ovL_cons rfl (ovL_cons rfl (ovL_cons rfl (ovL_cons rfl ovL_nil)))) (.cons (.a1 .b (.a1 .n (.a1 .n .a0))) (.cons .i (.cons (.a1 .b (.a1 .nil (.a1 .nil .a0))) (.cons .i .nil)))) (hd 63 rfl) ?_ (fun ch hp => by simp at hp)
  rintro _ ⟨⟩; refine zmv rfl (hd 64 rfl) <| jo_g 64 rfl rfl (ly_lda agg1027 rfl rfl rfl rfl) (hd 65 rfl) <| jo_g 64 rfl rfl (ly_mv rfl) (hd 66 rfl) <| jo_g 64 rfl rfl (ly_lda agg1030 rfl rfl rfl rfl) (hd 67 rfl) <| jo_g 64 rfl rfl (ly_mv rfl) (hd 68 rfl) ?_
  refine jo_callg Tryz.f11 64 rfl rfl (hSe) rfl Tryz.func11 rfl rfl (ovL_cons rfl (ovL_cons rfl (ovL_cons rfl (ovL_cons rfl ovL_nil)))) (.cons (.a1 .b (.a1 .n (.a1 .n .a0))) (.cons .i (.cons (.a1 .b (.a1 .nil (.a1 .nil .a0))) (.cons .i .nil)))) (hd 69 rfl) ?_ (fun ch hp => by simp at hp)
  rintro _ ⟨⟩; refine jo_l (ly_pick_t rfl rfl) (hd 70 rfl) ?_
  as_aux_lemma =>
    refine zmv rfl (hd 71 rfl) <| jo_g 71 rfl rfl (ly_lda agg1027 rfl rfl rfl rfl) (hd 72 rfl) <| jo_g 71 rfl rfl (ly_mv rfl) (hd 73 rfl) <| jo_g 71 rfl rfl (ly_lda agg1030 rfl rfl rfl rfl) (hd 74 rfl) <| jo_g 71 rfl rfl (ly_mv rfl) (hd 75 rfl) ?_
    refine jo_callg Tryz.f11 71 rfl rfl (hSe) rfl Tryz.func11 rfl rfl (ovL_cons rfl (ovL_cons rfl (ovL_cons rfl (ovL_cons rfl ovL_nil)))) (.cons (.a1 .b (.a1 .n (.a1 .n .a0))) (.cons .i (.cons (.a1 .b (.a1 .nil (.a1 .nil .a0))) (.cons .i .nil)))) (hd 76 rfl) ?_ (fun ch hp => by simp at hp)
    rintro _ ⟨⟩; refine jo_l (ly_pick_t rfl rfl) (hd 77 rfl) <| zmv rfl (hd 78 rfl) <| jo_g 78 rfl rfl (ly_lda agg1027 rfl rfl rfl rfl) (hd 79 rfl) <| jo_g 78 rfl rfl (ly_mv rfl) (hd 80 rfl) <| jo_g 78 rfl rfl (ly_lda agg1030 rfl rfl rfl rfl) (hd 81 rfl) <| jo_g 78 rfl rfl (ly_mv rfl) (hd 82 rfl) ?_
    as_aux_lemma =>
      refine jo_callg Tryz.f11 78 rfl rfl (hSe) rfl Tryz.func11 rfl rfl (ovL_cons rfl (ovL_cons rfl (ovL_cons rfl (ovL_cons rfl ovL_nil)))) (.cons (.a1 .b (.a1 .n (.a1 .n .a0))) (.cons .i (.cons (.a1 .b (.a1 .nil (.a1 .nil .a0))) (.cons .i .nil)))) (hd 83 rfl) ?_ (fun ch hp => by simp at hp)
      rintro _ ⟨⟩; refine jo_l (ly_pick_t rfl rfl) (hd 84 rfl) <| zmv rfl (hd 85 rfl) <| jo_g 85 rfl rfl (ly_mv rfl) (hd 86 rfl) <| jo_g 85 rfl rfl (ly_tt (ly_eq rfl rfl) rfl) (hd 87 rfl) <| jo_l (ly_pick_t rfl rfl) (hd 88 rfl) <| zmv rfl (hd 89 rfl) <| jo_g 89 rfl rfl (ly_mv rfl) (hd 90 rfl) <| jo_g 89 rfl rfl (ly_mv rfl) (hd 91 rfl) <| jo_g 89 rfl rfl (ly_tt (ly_eq rfl rfl) rfl) (hd 92 rfl) <| jo_l (ly_pick_t rfl rfl) (hd 93 rfl) <| zmv rfl (hd 94 rfl) ?_
      as_aux_lemma =>
        refine jo_callg Tryz.f12 94 rfl rfl (lives7_s) rfl Tryz.func12 rfl rfl ovL_nil .nil (hd 95 rfl) ?_ (fun ch hp => by simp at hp)
        rintro _ ⟨⟩; refine jo_l (ly_pick_t rfl rfl) (hd 96 rfl) <| zas rfl (hd 4 rfl) <| jo_nil <| jc_ret ?_
        refine ⟨_, _, (.cons rfl .nil), .b, ?_⟩
        exact rfl

set_option maxHeartbeats 20000000 in
set_option maxRecDepth 100000 in
theorem RatioRings_q (s : Bool) (l d : List Int) (x y : Nat) (hx : Rw l x) (hy : Rw d y) (s2 : Bool) (l2 d2 : List Int) (x2 y2 : Nat) (hx2 : Rw l2 x2) (hy2 : Rw d2 y2) (hB : lenV (x : Int) + lenV (y : Int) + lenV (x2 : Int) + lenV (y2 : Int) + 1 ≤ 67108864) (h0 : y ≠ 0) (h02 : y2 ≠ 0) (hx20 : x2 = 0) : Spec Tryz.prog 3 [(.a [.b s, .n false .u64 l, .n false .u64 d]), (.a [.b s2, .n false .u64 l2, .n false .u64 d2])] (fun o => o = .ret (.b true)) := by
  refine spec_of' [(0, (.a [.b s, .n false .u64 l, .n false .u64 d])), (1, (.a [.b s2, .n false .u64 l2, .n false .u64 d2]))] rfl Tryz.func3 rfl (zlb rfl) fun Γ hN hds hL hR => ?_
  have hd := hdOf 167 hN
  have bn1 := rn0_b (y := y) (Nat.le_refl (lenV (x : Int)))
  have bd1 := rd0_b (x := x) (Nat.le_refl (lenV (y : Int)))
  have bn2 := rn0_b (y := y2) (Nat.le_refl (lenV (x2 : Int)))
  have bd2 := rd0_b (x := x2) (Nat.le_refl (lenV (y2 : Int)))
  have hB4 : lenV ((rn0 x y : Nat) : Int) + lenV ((rd0 x y : Nat) : Int) + lenV ((rn0 x2 y2 : Nat) : Int) + lenV ((rd0 x2 y2 : Nat) : Int) + 1 ≤ 67108864 := by omega
  obtain ⟨z, ez⟩ : ∃ z : Int, z = zs s x := ⟨_, rfl⟩
  obtain ⟨w, ew⟩ : ∃ w : Int, w = zs s2 x2 := ⟨_, rfl⟩
  have q1 : Qe s x y z y := by rw [ez]; exact Qe.raw h0
  have q2 : Qe s2 x2 y2 w y2 := by rw [ew]; exact Qe.raw h02
  obtain ⟨b9, eb9⟩ : ∃ b9 : Nat, b9 = lenV (x : Int) + lenV (y : Int) := ⟨_, rfl⟩
  obtain ⟨c9, ec9⟩ : ∃ c9 : Nat, c9 = lenV (x2 : Int) + lenV (y2 : Int) := ⟨_, rfl⟩
  have hBC : b9 + c9 + 1 ≤ 67108864 := by omega
  have r1 : Qr s l d x y z y b9 := ⟨hx, hy, q1, by omega, by omega, by rw [ez, lenV_zs]; omega, by omega⟩
  have r2 : Qr s2 l2 d2 x2 y2 w y2 c9 := ⟨hx2, hy2, q2, by omega, by omega, by rw [ew, lenV_zs]; omega, by omega⟩
  have r2n := Qr.neg r2 (by omega)
  obtain ⟨WW, eWW⟩ : ∃ WW : Nat, WW = y * y2 := ⟨_, rfl⟩
  obtain ⟨ZA, eZA⟩ : ∃ ZA : Int, ZA = z * (y2 : Int) + w * (y : Int) := ⟨_, rfl⟩
  obtain ⟨ZS, eZS⟩ : ∃ ZS : Int, ZS = z * (y2 : Int) + -w * (y : Int) := ⟨_, rfl⟩
  obtain ⟨ZM, eZM⟩ : ∃ ZM : Int, ZM = z * w := ⟨_, rfl⟩
  have rA := Qr.add r1 r2 hBC eZA eWW
  have rS := Qr.add r1 r2n hBC eZS eWW
  have rM := Qr.mul r1 r2 hBC eZM eWW
  have hNA : SpecM Tryz.prog 6 [(.a [.b s, .n false .u64 l, .n false .u64 d]), (.a [.b s2, .n false .u64 l2, .n false .u64 d2])] [] (fun o G => o = .ret (.t [.a [.b (decide (ZA < 0)), .o 0 0 0 (lm ((nn ZA WW : Nat) : Int)).length, .o 1 0 0 (lm ((dd ZA WW : Nat) : Int)).length], .i .i64 0]) ∧ G = [⟨79, 1, 0, true, ints .u64 (lm ((nn ZA WW : Nat) : Int))⟩, ⟨79, 1, 0, true, ints .u64 (lm ((dd ZA WW : Nat) : Int))⟩]) := by rw [eZA, eWW]; exact QAdd_n s l d x y hx hy z y q1 s2 l2 d2 x2 y2 hx2 hy2 w y2 q2 hB
  have hFA : Spec Tryz.prog 13 [(.a [.b (sgq s x), .n false .u64 (digs B32 (rn0 x y)), .n false .u64 (digs B32 (rd0 x y))]), (.a [.b (sgq s2 x2), .n false .u64 (digs B32 (rn0 x2 y2)), .n false .u64 (digs B32 (rd0 x2 y2))])] (fun o => o = .ret (.a [.b (decide (ZA < 0)), .n false .u64 (digs B32 (nn ZA WW)), .n false .u64 (digs B32 (dd ZA WW))])) := by rw [eZA, eWW]; exact rAdd7_s (sgq s x) (rn0 x y) (rd0 x y) z y q1.low' (sgq s2 x2) (rn0 x2 y2) (rd0 x2 y2) w y2 q2.low' hB4
  have hSA := same7_ok (decide (ZA < 0)) (nn ZA WW) (dd ZA WW) (Nat.le_trans rA.bx hBC) (Nat.le_trans rA.bd hBC)
  have hNS : SpecM Tryz.prog 7 [(.a [.b s, .n false .u64 l, .n false .u64 d]), (.a [.b s2, .n false .u64 l2, .n false .u64 d2])] [] (fun o G => o = .ret (.t [.a [.b (decide (ZS < 0)), .o 0 0 0 (lm ((nn ZS WW : Nat) : Int)).length, .o 1 0 0 (lm ((dd ZS WW : Nat) : Int)).length], .i .i64 0]) ∧ G = [⟨79, 1, 0, true, ints .u64 (lm ((nn ZS WW : Nat) : Int))⟩, ⟨79, 1, 0, true, ints .u64 (lm ((dd ZS WW : Nat) : Int))⟩]) := by rw [eZS, eWW]; exact QSub_n s l d x y hx hy z y q1 s2 l2 d2 x2 y2 hx2 hy2 w y2 q2 hB
  have hFS : Spec Tryz.prog 14 [(.a [.b (sgq s x), .n false .u64 (digs B32 (rn0 x y)), .n false .u64 (digs B32 (rd0 x y))]), (.a [.b (sgq s2 x2), .n false .u64 (digs B32 (rn0 x2 y2)), .n false .u64 (digs B32 (rd0 x2 y2))])] (fun o => o = .ret (.a [.b (decide (ZS < 0)), .n false .u64 (digs B32 (nn ZS WW)), .n false .u64 (digs B32 (dd ZS WW))])) := by rw [eZS, eWW]; exact rSub7_s (sgq s x) (rn0 x y) (rd0 x y) z y q1.low' (sgq s2 x2) (rn0 x2 y2) (rd0 x2 y2) w y2 q2.low' hB4
  have hSS := same7_ok (decide (ZS < 0)) (nn ZS WW) (dd ZS WW) (Nat.le_trans rS.bx hBC) (Nat.le_trans rS.bd hBC)
  have hNM : SpecM Tryz.prog 8 [(.a [.b s, .n false .u64 l, .n false .u64 d]), (.a [.b s2, .n false .u64 l2, .n false .u64 d2])] [] (fun o G => o = .ret (.t [.a [.b (decide (ZM < 0)), .o 0 0 0 (lm ((nn ZM WW : Nat) : Int)).length, .o 1 0 0 (lm ((dd ZM WW : Nat) : Int)).length], .i .i64 0]) ∧ G = [⟨79, 1, 0, true, ints .u64 (lm ((nn ZM WW : Nat) : Int))⟩, ⟨79, 1, 0, true, ints .u64 (lm ((dd ZM WW : Nat) : Int))⟩]) := by rw [eZM, eWW]; exact QMul_m s l d x y hx hy z y q1 s2 l2 d2 x2 y2 hx2 hy2 w y2 q2 (by omega)
  have hFM : Spec Tryz.prog 15 [(.a [.b (sgq s x), .n false .u64 (digs B32 (rn0 x y)), .n false .u64 (digs B32 (rd0 x y))]), (.a [.b (sgq s2 x2), .n false .u64 (digs B32 (rn0 x2 y2)), .n false .u64 (digs B32 (rd0 x2 y2))])] (fun o => o = .ret (.a [.b (decide (ZM < 0)), .n false .u64 (digs B32 (nn ZM WW)), .n false .u64 (digs B32 (dd ZM WW))])) := by rw [eZM, eWW]; exact rMul7_s (sgq s x) (rn0 x y) (rd0 x y) z y q1.low' (sgq s2 x2) (rn0 x2 y2) (rd0 x2 y2) w y2 q2.low' hB4
  have hSM := same7_ok (decide (ZM < 0)) (nn ZM WW) (dd ZM WW) (Nat.le_trans rM.bx hBC) (Nat.le_trans rM.bd hBC)
  have hCc : Spec Tryz.prog 10 [(.a [.b s, .n false .u64 l, .n false .u64 d]), (.a [.b s2, .n false .u64 l2, .n false .u64 d2])] (fun o => o = .ret (.t [.i .i64 (cmpI (z * (y2 : Int)) (w * (y : Int))), .i .i64 0])) := QCmp_s s l d x y hx hy z y q1 s2 l2 d2 x2 y2 hx2 hy2 w y2 q2
  have hCr := rCmp7_s (sgq s x) (rn0 x y) (rd0 x y) z y q1.low' (sgq s2 x2) (rn0 x2 y2) (rd0 x2 y2) w y2 q2.low' hB4
  have hRs : Spec Tryz.prog 17 [(.a [.b (sgq s2 x2), .n false .u64 (digs B32 (rn0 x2 y2)), .n false .u64 (digs B32 (rd0 x2 y2))])] (fun o => o = .ret (.i .i64 (sgnI (zs s2 x2)))) := by have h := rSgn_s (sgq s2 x2) (rn0 x2 y2) (digs B32 (rd0 x2 y2)); rwa [sgn_low] at h
  have hSe := same7_er (sgq s x) (digs B32 (rn0 x y)) (digs B32 (rd0 x y)) 70 (by decide)
  refine zsr <| jo_h (hy_box (id := 0) (n := 3) rfl rfl rfl (by decide) rfl) (hd 2 rfl) <| jo_h (hy_box (id := 1) (n := 3) rfl rfl rfl (by decide) rfl) (hd 3 rfl) <| zas rfl (hd 4 rfl) <| jo_nil <| zsr <| jo_l (ly_lda agg1027 rfl rfl rfl rfl) (hd 20 rfl) <| jo_l (ly_lda agg1027 rfl rfl rfl rfl) (hd 21 rfl) ?_
  refine jo_call Tryz.f5 (two_s s l d x y hx hy s2 l2 d2 x2 y2 hx2 hy2 h0 h02) rfl Tryz.func5 rfl rfl (ovL_cons rfl (ovL_cons rfl ovL_nil)) (.cons (.a1 .b (.a1 .n (.a1 .n .a0))) (.cons (.a1 .b (.a1 .n (.a1 .n .a0))) .nil)) (hd 22 rfl) ?_ (fun ch hp => by simp at hp)
  rintro _ ⟨⟩; refine zmv rfl (hd 19 rfl) <| jo_l (ly_ext rfl rfl) (hd 23 rfl) <| jo_l (ly_ext rfl rfl) (hd 24 rfl) <| jo_l (ly_ext rfl rfl) (hd 25 rfl) <| jo_h (hy_alloc (id := 2) zero1030 (by decide) rfl (by decide) rfl) (hd 5 rfl) <| jo_h (hy_alloc (id := 3) zero1030 (by decide) rfl (by decide) rfl) (hd 6 rfl) <| jo_st (sy_store rfl rfl rfl siz1030 rfl rfl (zlb rfl)) <| jo_st (sy_store rfl rfl rfl siz1030 rfl rfl (zlb rfl)) <| zas rfl (hd 7 rfl) <| jo_nil <| zsr <| jo_l (ly_lda agg1027 rfl rfl rfl rfl) (hd 27 rfl) ?_; refine jo_l (ly_lda agg1027 rfl rfl rfl rfl) (hd 28 rfl) ?_
  refine jo_callN Tryz.f6 (hNA) (fun o G ⟨_, h⟩ => h ▸ idless_cons ints_id (idless_cons ints_id idless_nil)) rfl Tryz.func6 rfl rfl (ovL_cons rfl (ovL_cons rfl ovL_nil)) (.cons (.a1 .b (.a1 .n (.a1 .n .a0))) (.cons (.a1 .b (.a1 .n (.a1 .n .a0))) .nil)) (hd 29 rfl) ?_ (fun ch G hp => by simp at hp)
  rintro y G ⟨hy, rfl⟩; injection hy with hy; subst hy
  show JO _ _ _ _ ((29, .t [.a [.b (decide (ZA < 0)), .o 4 0 0 (lm ((nn ZA WW : Nat) : Int)).length, .o 5 0 0 (lm ((dd ZA WW : Nat) : Int)).length], .i .i64 0]) :: _) _ _
  refine zmv rfl (hd 26 rfl) <| jo_l (ly_ext rfl rfl) (hd 30 rfl) <| jo_l (ly_ext rfl rfl) (hd 31 rfl) <| jo_h (hy_alloc (id := 6) zero1027 (by decide) rfl (by decide) rfl) (hd 8 rfl) <| jo_st (sy_store rfl rfl rfl siz1027 rfl rfl (zlb rfl)) <| zas rfl (hd 9 rfl) <| jo_nil <| zsr <| jo_l (ly_lda agg1027 rfl rfl rfl rfl) (hd 33 rfl) <| jo_l (ly_lda agg1027 rfl rfl rfl rfl) (hd 34 rfl) ?_
  refine jo_callN Tryz.f7 (hNS) (fun o G ⟨_, h⟩ => h ▸ idless_cons ints_id (idless_cons ints_id idless_nil)) rfl Tryz.func7 rfl rfl (ovL_cons rfl (ovL_cons rfl ovL_nil)) (.cons (.a1 .b (.a1 .n (.a1 .n .a0))) (.cons (.a1 .b (.a1 .n (.a1 .n .a0))) .nil)) (hd 35 rfl) ?_ (fun ch G hp => by simp at hp)
  rintro y G ⟨hy, rfl⟩; injection hy with hy; subst hy
  show JO _ _ _ _ ((35, .t [.a [.b (decide (ZS < 0)), .o 7 0 0 (lm ((nn ZS WW : Nat) : Int)).length, .o 8 0 0 (lm ((dd ZS WW : Nat) : Int)).length], .i .i64 0]) :: _) _ _
  refine zmv rfl (hd 32 rfl) <| jo_l (ly_ext rfl rfl) (hd 36 rfl) <| jo_l (ly_ext rfl rfl) (hd 37 rfl) <| jo_h (hy_alloc (id := 9) zero1027 (by decide) rfl (by decide) rfl) (hd 10 rfl) <| jo_st (sy_store rfl rfl rfl siz1027 rfl rfl (zlb rfl)) <| zas rfl (hd 11 rfl) <| jo_nil <| jc_seq <| jc_H (H' := [⟨27, 3, 0, true, [.b s, .n false .u64 l, .n false .u64 d]⟩, ⟨27, 3, 0, true, [.b s2, .n false .u64 l2, .n false .u64 d2]⟩, ⟨30, 3, 0, true, [.b (sgq s x), .n false .u64 (digs B32 (rn0 x y)), .n false .u64 (digs B32 (rd0 x y))]⟩, ⟨30, 3, 0, true, [.b (sgq s2 x2), .n false .u64 (digs B32 (rn0 x2 y2)), .n false .u64 (digs B32 (rd0 x2 y2))]⟩, ⟨79, 1, 0, true, ints .u64 (lm ((nn ZA WW : Nat) : Int))⟩, ⟨79, 1, 0, true, ints .u64 (lm ((dd ZA WW : Nat) : Int))⟩, ⟨27, 3, 0, true, [.b (decide (ZA < 0)), .o 4 0 0 (lm ((nn ZA WW : Nat) : Int)).length, .o 5 0 0 (lm ((dd ZA WW : Nat) : Int)).length]⟩, ⟨79, 1, 0, true, ints .u64 (lm ((nn ZS WW : Nat) : Int))⟩, ⟨79, 1, 0, true, ints .u64 (lm ((dd ZS WW : Nat) : Int))⟩, ⟨27, 3, 0, true, [.b (decide (ZS < 0)), .o 7 0 0 (lm ((nn ZS WW : Nat) : Int)).length, .o 8 0 0 (lm ((dd ZS WW : Nat) : Int)).length]⟩]) rfl <| jc_region <| jo_l (ly_lda agg1027 rfl rfl rfl rfl) (hd 39 rfl) <| jo_l (ly_lda agg1027 rfl rfl rfl rfl) (hd 40 rfl) ?_
  refine jo_callN Tryz.f8 (hNM) (fun o G ⟨_, h⟩ => h ▸ idless_cons ints_id (idless_cons ints_id idless_nil)) rfl Tryz.func8 rfl rfl (ovL_cons rfl (ovL_cons rfl ovL_nil)) (.cons (.a1 .b (.a1 .n (.a1 .n .a0))) (.cons (.a1 .b (.a1 .n (.a1 .n .a0))) .nil)) (hd 41 rfl) ?_ (fun ch G hp => by simp at hp)
  rintro y G ⟨hy, rfl⟩; injection hy with hy; subst hy
  show JO _ _ _ _ ((41, .t [.a [.b (decide (ZM < 0)), .o 10 0 0 (lm ((nn ZM WW : Nat) : Int)).length, .o 11 0 0 (lm ((dd ZM WW : Nat) : Int)).length], .i .i64 0]) :: _) _ _
  refine zmv rfl (hd 38 rfl) <| jo_l (ly_ext rfl rfl) (hd 42 rfl) <| jo_l (ly_ext rfl rfl) (hd 43 rfl) <| jo_h (hy_alloc (id := 12) zero1027 (by decide) rfl (by decide) rfl) (hd 12 rfl) <| jo_st (sy_store rfl rfl rfl siz1027 rfl rfl (zlb rfl)) <| zas rfl (hd 13 rfl) <| jo_nil <| zsr <| jo_l (ly_lda agg1027 rfl rfl rfl rfl) (hd 45 rfl) <| jo_l (ly_lda agg1027 rfl rfl rfl rfl) (hd 46 rfl) ?_
  refine jo_call Tryz.f9 (QQuo_0 s l d x y hx hy s2 l2 d2 x2 y2 hx2 hy2 h0 h02 hx20) rfl Tryz.func9 rfl rfl (ovL_cons rfl (ovL_cons rfl ovL_nil)) (.cons (.a1 .b (.a1 .n (.a1 .n .a0))) (.cons (.a1 .b (.a1 .n (.a1 .n .a0))) .nil)) (hd 47 rfl) ?_ (fun ch hp => by simp at hp)
  rintro _ ⟨⟩; refine zmv rfl (hd 44 rfl) <| jo_l (ly_ext rfl rfl) (hd 48 rfl) <| jo_l (ly_ext rfl rfl) (hd 49 rfl) <| jo_h (hy_alloc (id := 13) zero1027 (by decide) rfl (by decide) rfl) (hd 14 rfl) <| jo_st (sy_store rfl rfl rfl siz1027 rfl rfl (zlb rfl)) <| zas rfl (hd 15 rfl) <| jo_nil <| jc_seq <| jc_H (H' := [⟨27, 3, 0, true, [.b s, .n false .u64 l, .n false .u64 d]⟩, ⟨27, 3, 0, true, [.b s2, .n false .u64 l2, .n false .u64 d2]⟩, ⟨30, 3, 0, true, [.b (sgq s x), .n false .u64 (digs B32 (rn0 x y)), .n false .u64 (digs B32 (rd0 x y))]⟩, ⟨30, 3, 0, true, [.b (sgq s2 x2), .n false .u64 (digs B32 (rn0 x2 y2)), .n false .u64 (digs B32 (rd0 x2 y2))]⟩, ⟨79, 1, 0, true, ints .u64 (lm ((nn ZA WW : Nat) : Int))⟩, ⟨79, 1, 0, true, ints .u64 (lm ((dd ZA WW : Nat) : Int))⟩, ⟨27, 3, 0, true, [.b (decide (ZA < 0)), .o 4 0 0 (lm ((nn ZA WW : Nat) : Int)).length, .o 5 0 0 (lm ((dd ZA WW : Nat) : Int)).length]⟩, ⟨79, 1, 0, true, ints .u64 (lm ((nn ZS WW : Nat) : Int))⟩, ⟨79, 1, 0, true, ints .u64 (lm ((dd ZS WW : Nat) : Int))⟩, ⟨27, 3, 0, true, [.b (decide (ZS < 0)), .o 7 0 0 (lm ((nn ZS WW : Nat) : Int)).length, .o 8 0 0 (lm ((dd ZS WW : Nat) : Int)).length]⟩, ⟨79, 1, 0, true, ints .u64 (lm ((nn ZM WW : Nat) : Int))⟩, ⟨79, 1, 0, true, ints .u64 (lm ((dd ZM WW : Nat) : Int))⟩, ⟨27, 3, 0, true, [.b (decide (ZM < 0)), .o 10 0 0 (lm ((nn ZM WW : Nat) : Int)).length, .o 11 0 0 (lm ((dd ZM WW : Nat) : Int)).length]⟩, ⟨27, 3, 0, true, [.b false, .n false .u64 [], .n false .u64 []]⟩]) rfl <| jc_region <| jo_l (ly_lda agg1027 rfl rfl rfl rfl) (hd 51 rfl) <| jo_l (ly_lda agg1027 rfl rfl rfl rfl) (hd 52 rfl) ?_
  refine jo_call Tryz.f10 (hCc) rfl Tryz.func10 rfl rfl (ovL_cons rfl (ovL_cons rfl ovL_nil)) (.cons (.a1 .b (.a1 .n (.a1 .n .a0))) (.cons (.a1 .b (.a1 .n (.a1 .n .a0))) .nil)) (hd 53 rfl) ?_ (fun ch hp => by simp at hp)
  rintro _ ⟨⟩; refine zmv rfl (hd 50 rfl) <| jo_l (ly_ext rfl rfl) (hd 54 rfl) <| jo_l (ly_ext rfl rfl) (hd 55 rfl) <| zas rfl (hd 16 rfl) <| zas rfl (hd 17 rfl) <| jo_nil <| jc_seq <| zsr <| zmv rfl (hd 56 rfl) <| jo_l (ly_ff (ly_ne rfl rfl) (by decide)) (hd 57 rfl) <| jo_nil <| jc_litf rfl ?_; refine jc_skip <| jc_seq <| jc_seq <| jc_H (H' := [⟨27, 3, 0, true, [.b s, .n false .u64 l, .n false .u64 d]⟩, ⟨27, 3, 0, true, [.b s2, .n false .u64 l2, .n false .u64 d2]⟩, ⟨30, 3, 0, true, [.b (sgq s x), .n false .u64 (digs B32 (rn0 x y)), .n false .u64 (digs B32 (rd0 x y))]⟩, ⟨30, 3, 0, true, [.b (sgq s2 x2), .n false .u64 (digs B32 (rn0 x2 y2)), .n false .u64 (digs B32 (rd0 x2 y2))]⟩, ⟨79, 1, 0, true, ints .u64 (lm ((nn ZA WW : Nat) : Int))⟩, ⟨79, 1, 0, true, ints .u64 (lm ((dd ZA WW : Nat) : Int))⟩, ⟨27, 3, 0, true, [.b (decide (ZA < 0)), .o 4 0 0 (lm ((nn ZA WW : Nat) : Int)).length, .o 5 0 0 (lm ((dd ZA WW : Nat) : Int)).length]⟩, ⟨79, 1, 0, true, ints .u64 (lm ((nn ZS WW : Nat) : Int))⟩, ⟨79, 1, 0, true, ints .u64 (lm ((dd ZS WW : Nat) : Int))⟩, ⟨27, 3, 0, true, [.b (decide (ZS < 0)), .o 7 0 0 (lm ((nn ZS WW : Nat) : Int)).length, .o 8 0 0 (lm ((dd ZS WW : Nat) : Int)).length]⟩, ⟨79, 1, 0, true, ints .u64 (lm ((nn ZM WW : Nat) : Int))⟩, ⟨79, 1, 0, true, ints .u64 (lm ((dd ZM WW : Nat) : Int))⟩, ⟨27, 3, 0, true, [.b (decide (ZM < 0)), .o 10 0 0 (lm ((nn ZM WW : Nat) : Int)).length, .o 11 0 0 (lm ((dd ZM WW : Nat) : Int)).length]⟩, ⟨27, 3, 0, true, [.b false, .n false .u64 [], .n false .u64 []]⟩]) rfl <| jc_draw (n := 36) _ rfl mixed <| zal2 0 [5, 6, 7, 8, 9, 10, 11, 12, 13, 14, 15, 16, 17, 18, 19, 20, 21, 22, 23, 24, 25, 26, 27, 28, 29, 30, 31, 32, 33, 34, 35] (lo_l (ly_lda agg1027 rfl rfl rfl rfl) (hd 97 rfl)) rfl <| zal2 1 [5, 6, 7, 8, 9, 10, 11, 12, 13, 14, 15, 16, 17, 18, 19, 20, 21, 22, 23, 24, 25, 26, 27, 28, 29, 30, 31, 32, 33, 34, 35] (lo_l (ly_mv rfl) (hd 98 rfl)) rfl <| zal2 2 [4, 5, 6, 7, 8, 9, 10, 11, 12, 13, 14, 15, 16, 17, 18, 19, 20, 21, 22, 23, 24, 25, 26, 27, 28, 29, 30, 31, 32, 33, 34, 35] (lo_l (ly_lda agg1030 rfl rfl rfl rfl) (hd 99 rfl)) rfl <| zal2 3 [4, 5, 6, 7, 8, 9, 10, 11, 12, 13, 14, 15, 16, 17, 18, 19, 20, 21, 22, 23, 24, 25, 26, 27, 28, 29, 30, 31, 32, 33, 34, 35] (lo_l (ly_lda agg1030 rfl rfl rfl rfl) (hd 100 rfl)) rfl ?_
  refine ja_1 4 ?_ rfl (by kernel_rfl)
  refine js_call Tryz.f13 (hFA) rfl Tryz.func13 rfl rfl (ovL_cons rfl (ovL_cons rfl ovL_nil)) (.cons (.a1 .b (.a1 .n (.a1 .n .a0))) (.cons (.a1 .b (.a1 .n (.a1 .n .a0))) .nil)) (hd 101 rfl) ?_ (fun ch hp => by simp at hp)
  rintro y hy; injection hy with hy; subst hy
  refine ja_1 5 ?_ rfl (by kernel_rfl)
  refine js_callL Tryz.f11 (hSA) rfl Tryz.func11 rfl rfl (ovL_cons rfl (ovL_cons rfl (ovL_cons rfl (ovL_cons rfl ovL_nil)))) (.a1 (.a1 .b (.a1 (.o rfl (by simp) (by rw [List.drop_zero, List.take_length])) (.a1 (.o rfl (by simp) (by rw [List.drop_zero, List.take_length])) .a0))) (.a1 .i (.a1 (.a1 .b (.a1 .n (.a1 .n .a0))) (.a1 .i .a0)))) (.cons (.a1 .b (.a1 .n (.a1 .n .a0))) (.cons .i (.cons (.a1 .b (.a1 .n (.a1 .n .a0))) (.cons .i .nil)))) hL (fun y hy => by injection hy with hy; subst hy; rfl) (hd 102 rfl) ?_ (fun ch hp => by simp at hp)
  rintro _ ⟨⟩; refine zal2 6 [7, 8, 9, 10, 11, 12, 13, 14, 15, 16, 17, 18, 19, 20, 21, 22, 23, 24, 25, 26, 27, 28, 29, 30, 31, 32, 33, 34, 35] (lo_l (ly_not rfl) (hd 103 rfl)) rfl <| zal2 7 [8, 9, 10, 11, 12, 13, 14, 15, 16, 17, 18, 19, 20, 21, 22, 23, 24, 25, 26, 27, 28, 29, 30, 31, 32, 33, 34, 35] (lo_l (ly_mv rfl) (hd 104 rfl)) rfl <| zal2 8 [13, 14, 15, 16, 17, 18, 19, 20, 21, 22, 23, 24, 25, 26, 27, 28, 29, 30, 31, 32, 33, 34, 35] (lo_g 104 rfl rfl (ly_lda agg1027 rfl rfl rfl rfl) (hd 105 rfl)) rfl <| zal2 9 [13, 14, 15, 16, 17, 18, 19, 20, 21, 22, 23, 24, 25, 26, 27, 28, 29, 30, 31, 32, 33, 34, 35] (lo_g 104 rfl rfl (ly_mv rfl) (hd 106 rfl)) rfl <| zal2 10 [12, 13, 14, 15, 16, 17, 18, 19, 20, 21, 22, 23, 24, 25, 26, 27, 28, 29, 30, 31, 32, 33, 34, 35] (lo_g 104 rfl rfl (ly_lda agg1030 rfl rfl rfl rfl) (hd 107 rfl)) rfl <| zal2 11 [12, 13, 14, 15, 16, 17, 18, 19, 20, 21, 22, 23, 24, 25, 26, 27, 28, 29, 30, 31, 32, 33, 34, 35] (lo_g 104 rfl rfl (ly_lda agg1030 rfl rfl rfl rfl) (hd 108 rfl)) rfl ?_
  as_aux_lemma =>
    refine ja_1 12 ?_ rfl (by kernel_rfl)
    refine js_callg Tryz.f14 104 rfl rfl (hFS) rfl Tryz.func14 rfl rfl (ovL_cons rfl (ovL_cons rfl ovL_nil)) (.cons (.a1 .b (.a1 .n (.a1 .n .a0))) (.cons (.a1 .b (.a1 .n (.a1 .n .a0))) .nil)) (hd 109 rfl) ?_ (fun ch hp => by simp at hp)
    rintro y hy; injection hy with hy; subst hy
    refine ja_1 13 ?_ rfl (by kernel_rfl)
    refine js_callLg Tryz.f11 104 rfl rfl (hSS) rfl Tryz.func11 rfl rfl (ovL_cons rfl (ovL_cons rfl (ovL_cons rfl (ovL_cons rfl ovL_nil)))) (.a1 (.a1 .b (.a1 (.o rfl (by simp) (by rw [List.drop_zero, List.take_length])) (.a1 (.o rfl (by simp) (by rw [List.drop_zero, List.take_length])) .a0))) (.a1 .i (.a1 (.a1 .b (.a1 .n (.a1 .n .a0))) (.a1 .i .a0)))) (.cons (.a1 .b (.a1 .n (.a1 .n .a0))) (.cons .i (.cons (.a1 .b (.a1 .n (.a1 .n .a0))) (.cons .i .nil)))) hL (fun y hy => by injection hy with hy; subst hy; rfl) (hd 110 rfl) ?_ (fun ch hp => by simp at hp)
    rintro _ ⟨⟩; refine zal2 14 [15, 16, 17, 18, 19, 20, 21, 22, 23, 24, 25, 26, 27, 28, 29, 30, 31, 32, 33, 34, 35] (lo_g 104 rfl rfl (ly_not rfl) (hd 111 rfl)) rfl <| zal2 15 [16, 17, 18, 19, 20, 21, 22, 23, 24, 25, 26, 27, 28, 29, 30, 31, 32, 33, 34, 35] (lo_l (ly_pick_f rfl rfl) (hd 112 rfl)) rfl <| zal2 16 [17, 18, 19, 20, 21, 22, 23, 24, 25, 26, 27, 28, 29, 30, 31, 32, 33, 34, 35] (lo_l (ly_mv rfl) (hd 113 rfl)) rfl <| zal2 17 [22, 23, 24, 25, 26, 27, 28, 29, 30, 31, 32, 33, 34, 35] (lo_g 113 rfl rfl (ly_lda agg1027 rfl rfl rfl rfl) (hd 114 rfl)) rfl <| zal2 18 [22, 23, 24, 25, 26, 27, 28, 29, 30, 31, 32, 33, 34, 35] (lo_g 113 rfl rfl (ly_mv rfl) (hd 115 rfl)) rfl <| zal2 19 [21, 22, 23, 24, 25, 26, 27, 28, 29, 30, 31, 32, 33, 34, 35] (lo_g 113 rfl rfl (ly_lda agg1030 rfl rfl rfl rfl) (hd 116 rfl)) rfl <| zal2 20 [21, 22, 23, 24, 25, 26, 27, 28, 29, 30, 31, 32, 33, 34, 35] (lo_g 113 rfl rfl (ly_lda agg1030 rfl rfl rfl rfl) (hd 117 rfl)) rfl ?_
    refine ja_1 21 ?_ rfl (by kernel_rfl)
    refine js_callg Tryz.f15 113 rfl rfl (hFM) rfl Tryz.func15 rfl rfl (ovL_cons rfl (ovL_cons rfl ovL_nil)) (.cons (.a1 .b (.a1 .n (.a1 .n .a0))) (.cons (.a1 .b (.a1 .n (.a1 .n .a0))) .nil)) (hd 118 rfl) ?_ (fun ch hp => by simp at hp)
    rintro y hy; injection hy with hy; subst hy
    refine ja_1 22 ?_ rfl (by kernel_rfl)
    refine js_callLg Tryz.f11 113 rfl rfl (hSM) rfl Tryz.func11 rfl rfl (ovL_cons rfl (ovL_cons rfl (ovL_cons rfl (ovL_cons rfl ovL_nil)))) (.a1 (.a1 .b (.a1 (.o rfl (by simp) (by rw [List.drop_zero, List.take_length])) (.a1 (.o rfl (by simp) (by rw [List.drop_zero, List.take_length])) .a0))) (.a1 .i (.a1 (.a1 .b (.a1 .n (.a1 .n .a0))) (.a1 .i .a0)))) (.cons (.a1 .b (.a1 .n (.a1 .n .a0))) (.cons .i (.cons (.a1 .b (.a1 .n (.a1 .n .a0))) (.cons .i .nil)))) hL (fun y hy => by injection hy with hy; subst hy; rfl) (hd 119 rfl) ?_ (fun ch hp => by simp at hp)
    rintro _ ⟨⟩; refine zal2 23 [24, 25, 26, 27, 28, 29, 30, 31, 32, 33, 34, 35] (lo_g 113 rfl rfl (ly_not rfl) (hd 120 rfl)) rfl ?_
    as_aux_lemma =>
      refine zal2 24 [25, 26, 27, 28, 29, 30, 31, 32, 33, 34, 35] (lo_l (ly_pick_f rfl rfl) (hd 121 rfl)) rfl <| zal2 25 [26, 27, 28, 29, 30, 31, 32, 33, 34, 35] (lo_l (ly_mv rfl) (hd 122 rfl)) rfl <| zal2 26 [30, 31, 32, 33, 34, 35] (lo_g 122 rfl rfl (ly_mv rfl) (hd 123 rfl)) rfl <| zal2 27 [29, 30, 31, 32, 33, 34, 35] (lo_g 122 rfl rfl (ly_lda agg1030 rfl rfl rfl rfl) (hd 124 rfl)) rfl <| zal2 28 [29, 30, 31, 32, 33, 34, 35] (lo_g 122 rfl rfl (ly_lda agg1030 rfl rfl rfl rfl) (hd 125 rfl)) rfl ?_
      refine ja_1 29 ?_ rfl (by kernel_rfl)
      refine js_callg Tryz.f16 122 rfl rfl (hCr) rfl Tryz.func16 rfl rfl (ovL_cons rfl (ovL_cons rfl ovL_nil)) (.cons (.a1 .b (.a1 .n (.a1 .n .a0))) (.cons (.a1 .b (.a1 .n (.a1 .n .a0))) .nil)) (hd 126 rfl) ?_ (fun ch hp => by simp at hp)
      rintro _ ⟨⟩; refine zal2 30 [31, 32, 33, 34, 35] (lo_g 122 rfl rfl (ly_ff (ly_ne rfl rfl) (fun h => h rfl)) (hd 127 rfl)) rfl <| zal2 31 [32, 33, 34, 35] (lo_l (ly_pick_f rfl rfl) (hd 128 rfl)) rfl <| zal 32 (lo_l (ly_mv rfl) (hd 129 rfl)) rfl <| zal2 33 [34, 35] (lo_g 129 rfl rfl (ly_mv rfl) (hd 130 rfl)) rfl <| zal 34 (lo_g 129 rfl rfl (ly_ff (ly_ne rfl rfl) (by decide)) (hd 131 rfl)) rfl <| zal 35 (lo_l (ly_pick_f rfl rfl) (hd 132 rfl)) rfl ?_
      as_aux_lemma =>
        refine ja_nil (by kernel_rfl) <| jc_litf rfl <| jc_skip <| jc_seq <| zsr <| jo_l (ly_lda agg1030 rfl rfl rfl rfl) (hd 133 rfl) ?_
        refine jo_call Tryz.f17 (hRs) rfl Tryz.func17 rfl rfl (ovL_cons rfl ovL_nil) (.cons (.a1 .b (.a1 .n (.a1 .n .a0))) .nil) (hd 134 rfl) ?_ (fun ch hp => by simp at hp)
        rintro _ ⟨⟩; refine jo_l (ly_tt (ly_eq rfl rfl) (by rw [sgnI_0, zs_ne]; exact hx20)) (hd 135 rfl) <| jo_nil <| jc_litt rfl <| jc_seq <| jc_H (H' := [⟨27, 3, 0, true, [.b s, .n false .u64 l, .n false .u64 d]⟩, ⟨27, 3, 0, true, [.b s2, .n false .u64 l2, .n false .u64 d2]⟩, ⟨30, 3, 0, true, [.b (sgq s x), .n false .u64 (digs B32 (rn0 x y)), .n false .u64 (digs B32 (rd0 x y))]⟩, ⟨30, 3, 0, true, [.b (sgq s2 x2), .n false .u64 (digs B32 (rn0 x2 y2)), .n false .u64 (digs B32 (rd0 x2 y2))]⟩, ⟨79, 1, 0, true, ints .u64 (lm ((nn ZA WW : Nat) : Int))⟩, ⟨79, 1, 0, true, ints .u64 (lm ((dd ZA WW : Nat) : Int))⟩, ⟨27, 3, 0, true, [.b (decide (ZA < 0)), .o 4 0 0 (lm ((nn ZA WW : Nat) : Int)).length, .o 5 0 0 (lm ((dd ZA WW : Nat) : Int)).length]⟩, ⟨79, 1, 0, true, ints .u64 (lm ((nn ZS WW : Nat) : Int))⟩, ⟨79, 1, 0, true, ints .u64 (lm ((dd ZS WW : Nat) : Int))⟩, ⟨27, 3, 0, true, [.b (decide (ZS < 0)), .o 7 0 0 (lm ((nn ZS WW : Nat) : Int)).length, .o 8 0 0 (lm ((dd ZS WW : Nat) : Int)).length]⟩, ⟨79, 1, 0, true, ints .u64 (lm ((nn ZM WW : Nat) : Int))⟩, ⟨79, 1, 0, true, ints .u64 (lm ((dd ZM WW : Nat) : Int))⟩, ⟨27, 3, 0, true, [.b (decide (ZM < 0)), .o 10 0 0 (lm ((nn ZM WW : Nat) : Int)).length, .o 11 0 0 (lm ((dd ZM WW : Nat) : Int)).length]⟩, ⟨27, 3, 0, true, [.b false, .n false .u64 [], .n false .u64 []]⟩]) rfl <| jc_region <| jo_l (ly_lda agg1027 rfl rfl rfl rfl) (hd 136 rfl) <| zmv rfl (hd 137 rfl) <| jo_l (ly_lda agg1030 rfl rfl rfl rfl) (hd 138 rfl) ?_
        refine jo_call Tryz.f11 (hSe) rfl Tryz.func11 rfl rfl (ovL_cons rfl (ovL_cons rfl (ovL_cons rfl (ovL_cons rfl ovL_nil)))) (.cons (.a1 .b (.a1 .n (.a1 .n .a0))) (.cons .i (.cons (.a1 .b (.a1 .n (.a1 .n .a0))) (.cons .i .nil)))) (hd 139 rfl) ?_ (fun ch hp => by simp at hp)
        rintro _ ⟨⟩; refine zmv rfl (hd 140 rfl) <| jo_g 140 rfl rfl (ly_lda agg1027 rfl rfl rfl rfl) (hd 141 rfl) <| jo_g 140 rfl rfl (ly_lda agg1027 rfl rfl rfl rfl) (hd 142 rfl) <| jo_g 140 rfl rfl (ly_lda agg1027 rfl rfl rfl rfl) (hd 143 rfl) <| jo_hg 140 rfl rfl (hy_lit (id := 14) (xs := [.tmp 141, .tmp 142, .tmp 143]) el1084 rfl (ovL_cons rfl (ovL_cons rfl (ovL_cons rfl ovL_nil))) rfl (all2_of rfl) (by decide) rfl) (hd 144 rfl) ?_
        refine jo_callGg Tryz.f18 140 rfl rfl (sel := [14, 4, 5, 7, 8, 10, 11]) (own_3 (decide (ZA < 0)) (lm ((nn ZA WW : Nat) : Int)) (lm ((dd ZA WW : Nat) : Int)) (by have := (Rw.of (Nat.le_trans rA.bx hBC)).l; omega) (by have := (Rw.of (Nat.le_trans rA.bd hBC)).l; omega) (decide (ZS < 0)) (lm ((nn ZS WW : Nat) : Int)) (lm ((dd ZS WW : Nat) : Int)) (by have := (Rw.of (Nat.le_trans rS.bx hBC)).l; omega) (by have := (Rw.of (Nat.le_trans rS.bd hBC)).l; omega) (decide (ZM < 0)) (lm ((nn ZM WW : Nat) : Int)) (lm ((dd ZM WW : Nat) : Int)) (by have := (Rw.of (Nat.le_trans rM.bx hBC)).l; omega) (by have := (Rw.of (Nat.le_trans rM.bd hBC)).l; omega)) rfl Tryz.func18 rfl rfl (ovL_cons rfl ovL_nil) rfl rfl (.cons rfl rfl (.cons rfl (renL_ints _ _ _) (.cons rfl (renL_ints _ _ _) (.cons rfl (renL_ints _ _ _) (.cons rfl (renL_ints _ _ _) (.cons rfl (renL_ints _ _ _) (.cons rfl (renL_ints _ _ _) .nil))))))) (by decide) (.cons rfl (.cons ints_id (.cons ints_id (.cons ints_id (.cons ints_id (.cons ints_id (.cons ints_id .nil))))))) (freshless_cons rfl (freshless_cons ints_noFr (freshless_cons ints_noFr (freshless_cons ints_noFr (freshless_cons ints_noFr (freshless_cons ints_noFr (freshless_cons ints_noFr freshless_nil))))))) (fun y G h => by cases h; rfl) (hd 145 rfl) ?_ (fun ch G hp => by cases hp)
        rintro y G hy; injection hy with hy; subst hy; refine jo_l (ly_pick_t rfl rfl) (hd 146 rfl) <| zmv rfl (hd 147 rfl) ?_
        as_aux_lemma =>
          refine jo_callg Tryz.f12 147 rfl rfl (lives7_s) rfl Tryz.func12 rfl rfl ovL_nil .nil (hd 148 rfl) ?_ (fun ch hp => by simp at hp)
          rintro _ ⟨⟩; refine jo_l (ly_pick_t rfl rfl) (hd 149 rfl) <| zas rfl (hd 4 rfl) <| jo_nil <| jc_ret ?_
          refine ⟨_, _, (.cons rfl .nil), .b, ?_⟩
          exact rfl

set_option maxHeartbeats 20000000 in
set_option maxRecDepth 100000 in
theorem RatioRings_n (s : Bool) (l d : List Int) (x y : Nat) (hx : Rw l x) (hy : Rw d y) (s2 : Bool) (l2 d2 : List Int) (x2 y2 : Nat) (hx2 : Rw l2 x2) (hy2 : Rw d2 y2) (hB : lenV (x : Int) + lenV (y : Int) + lenV (x2 : Int) + lenV (y2 : Int) + 1 ≤ 67108864) (h0 : y ≠ 0) (h02 : y2 ≠ 0) (hx20 : x2 ≠ 0) : Spec Tryz.prog 3 [(.a [.b s, .n false .u64 l, .n false .u64 d]), (.a [.b s2, .n false .u64 l2, .n false .u64 d2])] (fun o => o = .ret (.b true)) := by
  refine spec_of' [(0, (.a [.b s, .n false .u64 l, .n false .u64 d])), (1, (.a [.b s2, .n false .u64 l2, .n false .u64 d2]))] rfl Tryz.func3 rfl (zlb rfl) fun Γ hN hds hL hR => ?_
  have hd := hdOf 167 hN
  have bn1 := rn0_b (y := y) (Nat.le_refl (lenV (x : Int)))
  have bd1 := rd0_b (x := x) (Nat.le_refl (lenV (y : Int)))
  have bn2 := rn0_b (y := y2) (Nat.le_refl (lenV (x2 : Int)))
  have bd2 := rd0_b (x := x2) (Nat.le_refl (lenV (y2 : Int)))
  have hB4 : lenV ((rn0 x y : Nat) : Int) + lenV ((rd0 x y : Nat) : Int) + lenV ((rn0 x2 y2 : Nat) : Int) + lenV ((rd0 x2 y2 : Nat) : Int) + 1 ≤ 67108864 := by omega
  obtain ⟨z, ez⟩ : ∃ z : Int, z = zs s x := ⟨_, rfl⟩
  obtain ⟨w, ew⟩ : ∃ w : Int, w = zs s2 x2 := ⟨_, rfl⟩
  have q1 : Qe s x y z y := by rw [ez]; exact Qe.raw h0
  have q2 : Qe s2 x2 y2 w y2 := by rw [ew]; exact Qe.raw h02
  obtain ⟨b9, eb9⟩ : ∃ b9 : Nat, b9 = lenV (x : Int) + lenV (y : Int) := ⟨_, rfl⟩
  obtain ⟨c9, ec9⟩ : ∃ c9 : Nat, c9 = lenV (x2 : Int) + lenV (y2 : Int) := ⟨_, rfl⟩
  have hBC : b9 + c9 + 1 ≤ 67108864 := by omega
  have r1 : Qr s l d x y z y b9 := ⟨hx, hy, q1, by omega, by omega, by rw [ez, lenV_zs]; omega, by omega⟩
  have r2 : Qr s2 l2 d2 x2 y2 w y2 c9 := ⟨hx2, hy2, q2, by omega, by omega, by rw [ew, lenV_zs]; omega, by omega⟩
  have r2n := Qr.neg r2 (by omega)
  obtain ⟨WW, eWW⟩ : ∃ WW : Nat, WW = y * y2 := ⟨_, rfl⟩
  obtain ⟨ZA, eZA⟩ : ∃ ZA : Int, ZA = z * (y2 : Int) + w * (y : Int) := ⟨_, rfl⟩
  obtain ⟨ZS, eZS⟩ : ∃ ZS : Int, ZS = z * (y2 : Int) + -w * (y : Int) := ⟨_, rfl⟩
  obtain ⟨ZM, eZM⟩ : ∃ ZM : Int, ZM = z * w := ⟨_, rfl⟩
  have rA := Qr.add r1 r2 hBC eZA eWW
  have rS := Qr.add r1 r2n hBC eZS eWW
  have rM := Qr.mul r1 r2 hBC eZM eWW
  obtain ⟨WQ, eWQ⟩ : ∃ WQ : Nat, WQ = y * w.natAbs := ⟨_, rfl⟩
  obtain ⟨ZQ, eZQ⟩ : ∃ ZQ : Int, ZQ = z * zs (decide (w < 0)) y2 := ⟨_, rfl⟩
  have rQ := Qr.quo r1 r2 hBC hx20 eZQ eWQ
  have hNA : SpecM Tryz.prog 6 [(.a [.b s, .n false .u64 l, .n false .u64 d]), (.a [.b s2, .n false .u64 l2, .n false .u64 d2])] [] (fun o G => o = .ret (.t [.a [.b (decide (ZA < 0)), .o 0 0 0 (lm ((nn ZA WW : Nat) : Int)).length, .o 1 0 0 (lm ((dd ZA WW : Nat) : Int)).length], .i .i64 0]) ∧ G = [⟨79, 1, 0, true, ints .u64 (lm ((nn ZA WW : Nat) : Int))⟩, ⟨79, 1, 0, true, ints .u64 (lm ((dd ZA WW : Nat) : Int))⟩]) := by rw [eZA, eWW]; exact QAdd_n s l d x y hx hy z y q1 s2 l2 d2 x2 y2 hx2 hy2 w y2 q2 hB
  have hFA : Spec Tryz.prog 13 [(.a [.b (sgq s x), .n false .u64 (digs B32 (rn0 x y)), .n false .u64 (digs B32 (rd0 x y))]), (.a [.b (sgq s2 x2), .n false .u64 (digs B32 (rn0 x2 y2)), .n false .u64 (digs B32 (rd0 x2 y2))])] (fun o => o = .ret (.a [.b (decide (ZA < 0)), .n false .u64 (digs B32 (nn ZA WW)), .n false .u64 (digs B32 (dd ZA WW))])) := by rw [eZA, eWW]; exact rAdd7_s (sgq s x) (rn0 x y) (rd0 x y) z y q1.low' (sgq s2 x2) (rn0 x2 y2) (rd0 x2 y2) w y2 q2.low' hB4
  have hSA := same7_ok (decide (ZA < 0)) (nn ZA WW) (dd ZA WW) (Nat.le_trans rA.bx hBC) (Nat.le_trans rA.bd hBC)
  have hNS : SpecM Tryz.prog 7 [(.a [.b s, .n false .u64 l, .n false .u64 d]), (.a [.b s2, .n false .u64 l2, .n false .u64 d2])] [] (fun o G => o = .ret (.t [.a [.b (decide (ZS < 0)), .o 0 0 0 (lm ((nn ZS WW : Nat) : Int)).length, .o 1 0 0 (lm ((dd ZS WW : Nat) : Int)).length], .i .i64 0]) ∧ G = [⟨79, 1, 0, true, ints .u64 (lm ((nn ZS WW : Nat) : Int))⟩, ⟨79, 1, 0, true, ints .u64 (lm ((dd ZS WW : Nat) : Int))⟩]) := by rw [eZS, eWW]; exact QSub_n s l d x y hx hy z y q1 s2 l2 d2 x2 y2 hx2 hy2 w y2 q2 hB
  have hFS : Spec Tryz.prog 14 [(.a [.b (sgq s x), .n false .u64 (digs B32 (rn0 x y)), .n false .u64 (digs B32 (rd0 x y))]), (.a [.b (sgq s2 x2), .n false .u64 (digs B32 (rn0 x2 y2)), .n false .u64 (digs B32 (rd0 x2 y2))])] (fun o => o = .ret (.a [.b (decide (ZS < 0)), .n false .u64 (digs B32 (nn ZS WW)), .n false .u64 (digs B32 (dd ZS WW))])) := by rw [eZS, eWW]; exact rSub7_s (sgq s x) (rn0 x y) (rd0 x y) z y q1.low' (sgq s2 x2) (rn0 x2 y2) (rd0 x2 y2) w y2 q2.low' hB4
  have hSS := same7_ok (decide (ZS < 0)) (nn ZS WW) (dd ZS WW) (Nat.le_trans rS.bx hBC) (Nat.le_trans rS.bd hBC)
  have hNM : SpecM Tryz.prog 8 [(.a [.b s, .n false .u64 l, .n false .u64 d]), (.a [.b s2, .n false .u64 l2, .n false .u64 d2])] [] (fun o G => o = .ret (.t [.a [.b (decide (ZM < 0)), .o 0 0 0 (lm ((nn ZM WW : Nat) : Int)).length, .o 1 0 0 (lm ((dd ZM WW : Nat) : Int)).length], .i .i64 0]) ∧ G = [⟨79, 1, 0, true, ints .u64 (lm ((nn ZM WW : Nat) : Int))⟩, ⟨79, 1, 0, true, ints .u64 (lm ((dd ZM WW : Nat) : Int))⟩]) := by rw [eZM, eWW]; exact QMul_m s l d x y hx hy z y q1 s2 l2 d2 x2 y2 hx2 hy2 w y2 q2 (by omega)
  have hFM : Spec Tryz.prog 15 [(.a [.b (sgq s x), .n false .u64 (digs B32 (rn0 x y)), .n false .u64 (digs B32 (rd0 x y))]), (.a [.b (sgq s2 x2), .n false .u64 (digs B32 (rn0 x2 y2)), .n false .u64 (digs B32 (rd0 x2 y2))])] (fun o => o = .ret (.a [.b (decide (ZM < 0)), .n false .u64 (digs B32 (nn ZM WW)), .n false .u64 (digs B32 (dd ZM WW))])) := by rw [eZM, eWW]; exact rMul7_s (sgq s x) (rn0 x y) (rd0 x y) z y q1.low' (sgq s2 x2) (rn0 x2 y2) (rd0 x2 y2) w y2 q2.low' hB4
  have hSM := same7_ok (decide (ZM < 0)) (nn ZM WW) (dd ZM WW) (Nat.le_trans rM.bx hBC) (Nat.le_trans rM.bd hBC)
  have hNQ : SpecM Tryz.prog 9 [(.a [.b s, .n false .u64 l, .n false .u64 d]), (.a [.b s2, .n false .u64 l2, .n false .u64 d2])] [] (fun o G => o = .ret (.t [.a [.b (decide (ZQ < 0)), .o 0 0 0 (lm ((nn ZQ WQ : Nat) : Int)).length, .o 1 0 0 (lm ((dd ZQ WQ : Nat) : Int)).length], .i .i64 0]) ∧ G = [⟨79, 1, 0, true, ints .u64 (lm ((nn ZQ WQ : Nat) : Int))⟩, ⟨79, 1, 0, true, ints .u64 (lm ((dd ZQ WQ : Nat) : Int))⟩]) := by rw [eZQ, eWQ]; exact QQuo_n s l d x y hx hy z y q1 s2 l2 d2 x2 y2 hx2 hy2 w y2 q2 (by omega) hx20
  have hFQ : Spec Tryz.prog 19 [(.a [.b (sgq s x), .n false .u64 (digs B32 (rn0 x y)), .n false .u64 (digs B32 (rd0 x y))]), (.a [.b (sgq s2 x2), .n false .u64 (digs B32 (rn0 x2 y2)), .n false .u64 (digs B32 (rd0 x2 y2))])] (fun o => o = .ret (.a [.b (decide (ZQ < 0)), .n false .u64 (digs B32 (nn ZQ WQ)), .n false .u64 (digs B32 (dd ZQ WQ))])) := by rw [eZQ, eWQ]; exact rQuo7_s (sgq s x) (rn0 x y) (rd0 x y) z y q1.low' (sgq s2 x2) (rn0 x2 y2) (rd0 x2 y2) w y2 q2.low' hB4 (fun e => hx20 (rn0_eq0.1 e))
  have hSQ := same7_ok (decide (ZQ < 0)) (nn ZQ WQ) (dd ZQ WQ) (Nat.le_trans rQ.bx hBC) (Nat.le_trans rQ.bd hBC)
  have hCc : Spec Tryz.prog 10 [(.a [.b s, .n false .u64 l, .n false .u64 d]), (.a [.b s2, .n false .u64 l2, .n false .u64 d2])] (fun o => o = .ret (.t [.i .i64 (cmpI (z * (y2 : Int)) (w * (y : Int))), .i .i64 0])) := QCmp_s s l d x y hx hy z y q1 s2 l2 d2 x2 y2 hx2 hy2 w y2 q2
  have hCr := rCmp7_s (sgq s x) (rn0 x y) (rd0 x y) z y q1.low' (sgq s2 x2) (rn0 x2 y2) (rd0 x2 y2) w y2 q2.low' hB4
  have hRs : Spec Tryz.prog 17 [(.a [.b (sgq s2 x2), .n false .u64 (digs B32 (rn0 x2 y2)), .n false .u64 (digs B32 (rd0 x2 y2))])] (fun o => o = .ret (.i .i64 (sgnI (zs s2 x2)))) := by have h := rSgn_s (sgq s2 x2) (rn0 x2 y2) (digs B32 (rd0 x2 y2)); rwa [sgn_low] at h
  refine zsr <| jo_h (hy_box (id := 0) (n := 3) rfl rfl rfl (by decide) rfl) (hd 2 rfl) <| jo_h (hy_box (id := 1) (n := 3) rfl rfl rfl (by decide) rfl) (hd 3 rfl) <| zas rfl (hd 4 rfl) <| jo_nil <| zsr <| jo_l (ly_lda agg1027 rfl rfl rfl rfl) (hd 20 rfl) <| jo_l (ly_lda agg1027 rfl rfl rfl rfl) (hd 21 rfl) ?_
  refine jo_call Tryz.f5 (two_s s l d x y hx hy s2 l2 d2 x2 y2 hx2 hy2 h0 h02) rfl Tryz.func5 rfl rfl (ovL_cons rfl (ovL_cons rfl ovL_nil)) (.cons (.a1 .b (.a1 .n (.a1 .n .a0))) (.cons (.a1 .b (.a1 .n (.a1 .n .a0))) .nil)) (hd 22 rfl) ?_ (fun ch hp => by simp at hp)
  rintro _ ⟨⟩; refine zmv rfl (hd 19 rfl) <| jo_l (ly_ext rfl rfl) (hd 23 rfl) <| jo_l (ly_ext rfl rfl) (hd 24 rfl) <| jo_l (ly_ext rfl rfl) (hd 25 rfl) <| jo_h (hy_alloc (id := 2) zero1030 (by decide) rfl (by decide) rfl) (hd 5 rfl) <| jo_h (hy_alloc (id := 3) zero1030 (by decide) rfl (by decide) rfl) (hd 6 rfl) <| jo_st (sy_store rfl rfl rfl siz1030 rfl rfl (zlb rfl)) <| jo_st (sy_store rfl rfl rfl siz1030 rfl rfl (zlb rfl)) <| zas rfl (hd 7 rfl) <| jo_nil <| zsr <| jo_l (ly_lda agg1027 rfl rfl rfl rfl) (hd 27 rfl) ?_; refine jo_l (ly_lda agg1027 rfl rfl rfl rfl) (hd 28 rfl) ?_
  refine jo_callN Tryz.f6 (hNA) (fun o G ⟨_, h⟩ => h ▸ idless_cons ints_id (idless_cons ints_id idless_nil)) rfl Tryz.func6 rfl rfl (ovL_cons rfl (ovL_cons rfl ovL_nil)) (.cons (.a1 .b (.a1 .n (.a1 .n .a0))) (.cons (.a1 .b (.a1 .n (.a1 .n .a0))) .nil)) (hd 29 rfl) ?_ (fun ch G hp => by simp at hp)
  rintro y G ⟨hy, rfl⟩; injection hy with hy; subst hy
  show JO _ _ _ _ ((29, .t [.a [.b (decide (ZA < 0)), .o 4 0 0 (lm ((nn ZA WW : Nat) : Int)).length, .o 5 0 0 (lm ((dd ZA WW : Nat) : Int)).length], .i .i64 0]) :: _) _ _
  refine zmv rfl (hd 26 rfl) <| jo_l (ly_ext rfl rfl) (hd 30 rfl) <| jo_l (ly_ext rfl rfl) (hd 31 rfl) <| jo_h (hy_alloc (id := 6) zero1027 (by decide) rfl (by decide) rfl) (hd 8 rfl) <| jo_st (sy_store rfl rfl rfl siz1027 rfl rfl (zlb rfl)) <| zas rfl (hd 9 rfl) <| jo_nil <| zsr <| jo_l (ly_lda agg1027 rfl rfl rfl rfl) (hd 33 rfl) <| jo_l (ly_lda agg1027 rfl rfl rfl rfl) (hd 34 rfl) ?_
  refine jo_callN Tryz.f7 (hNS) (fun o G ⟨_, h⟩ => h ▸ idless_cons ints_id (idless_cons ints_id idless_nil)) rfl Tryz.func7 rfl rfl (ovL_cons rfl (ovL_cons rfl ovL_nil)) (.cons (.a1 .b (.a1 .n (.a1 .n .a0))) (.cons (.a1 .b (.a1 .n (.a1 .n .a0))) .nil)) (hd 35 rfl) ?_ (fun ch G hp => by simp at hp)
  rintro y G ⟨hy, rfl⟩; injection hy with hy; subst hy
  show JO _ _ _ _ ((35, .t [.a [.b (decide (ZS < 0)), .o 7 0 0 (lm ((nn ZS WW : Nat) : Int)).length, .o 8 0 0 (lm ((dd ZS WW : Nat) : Int)).length], .i .i64 0]) :: _) _ _
  refine zmv rfl (hd 32 rfl) <| jo_l (ly_ext rfl rfl) (hd 36 rfl) <| jo_l (ly_ext rfl rfl) (hd 37 rfl) <| jo_h (hy_alloc (id := 9) zero1027 (by decide) rfl (by decide) rfl) (hd 10 rfl) <| jo_st (sy_store rfl rfl rfl siz1027 rfl rfl (zlb rfl)) <| zas rfl (hd 11 rfl) <| jo_nil <| jc_seq <| jc_H (H' := [⟨27, 3, 0, true, [.b s, .n false .u64 l, .n false .u64 d]⟩, ⟨27, 3, 0, true, [.b s2, .n false .u64 l2, .n false .u64 d2]⟩, ⟨30, 3, 0, true, [.b (sgq s x), .n false .u64 (digs B32 (rn0 x y)), .n false .u64 (digs B32 (rd0 x y))]⟩, ⟨30, 3, 0, true, [.b (sgq s2 x2), .n false .u64 (digs B32 (rn0 x2 y2)), .n false .u64 (digs B32 (rd0 x2 y2))]⟩, ⟨79, 1, 0, true, ints .u64 (lm ((nn ZA WW : Nat) : Int))⟩, ⟨79, 1, 0, true, ints .u64 (lm ((dd ZA WW : Nat) : Int))⟩, ⟨27, 3, 0, true, [.b (decide (ZA < 0)), .o 4 0 0 (lm ((nn ZA WW : Nat) : Int)).length, .o 5 0 0 (lm ((dd ZA WW : Nat) : Int)).length]⟩, ⟨79, 1, 0, true, ints .u64 (lm ((nn ZS WW : Nat) : Int))⟩, ⟨79, 1, 0, true, ints .u64 (lm ((dd ZS WW : Nat) : Int))⟩, ⟨27, 3, 0, true, [.b (decide (ZS < 0)), .o 7 0 0 (lm ((nn ZS WW : Nat) : Int)).length, .o 8 0 0 (lm ((dd ZS WW : Nat) : Int)).length]⟩]) rfl <| jc_region <| jo_l (ly_lda agg1027 rfl rfl rfl rfl) (hd 39 rfl) <| jo_l (ly_lda agg1027 rfl rfl rfl rfl) (hd 40 rfl) ?_
  refine jo_callN Tryz.f8 (hNM) (fun o G ⟨_, h⟩ => h ▸ idless_cons ints_id (idless_cons ints_id idless_nil)) rfl Tryz.func8 rfl rfl (ovL_cons rfl (ovL_cons rfl ovL_nil)) (.cons (.a1 .b (.a1 .n (.a1 .n .a0))) (.cons (.a1 .b (.a1 .n (.a1 .n .a0))) .nil)) (hd 41 rfl) ?_ (fun ch G hp => by simp at hp)
  rintro y G ⟨hy, rfl⟩; injection hy with hy; subst hy
  show JO _ _ _ _ ((41, .t [.a [.b (decide (ZM < 0)), .o 10 0 0 (lm ((nn ZM WW : Nat) : Int)).length, .o 11 0 0 (lm ((dd ZM WW : Nat) : Int)).length], .i .i64 0]) :: _) _ _
  refine zmv rfl (hd 38 rfl) <| jo_l (ly_ext rfl rfl) (hd 42 rfl) <| jo_l (ly_ext rfl rfl) (hd 43 rfl) <| jo_h (hy_alloc (id := 12) zero1027 (by decide) rfl (by decide) rfl) (hd 12 rfl) <| jo_st (sy_store rfl rfl rfl siz1027 rfl rfl (zlb rfl)) <| zas rfl (hd 13 rfl) <| jo_nil <| zsr <| jo_l (ly_lda agg1027 rfl rfl rfl rfl) (hd 45 rfl) <| jo_l (ly_lda agg1027 rfl rfl rfl rfl) (hd 46 rfl) ?_
  refine jo_callN Tryz.f9 (hNQ) (fun o G ⟨_, h⟩ => h ▸ idless_cons ints_id (idless_cons ints_id idless_nil)) rfl Tryz.func9 rfl rfl (ovL_cons rfl (ovL_cons rfl ovL_nil)) (.cons (.a1 .b (.a1 .n (.a1 .n .a0))) (.cons (.a1 .b (.a1 .n (.a1 .n .a0))) .nil)) (hd 47 rfl) ?_ (fun ch G hp => by simp at hp)
  rintro y G ⟨hy, rfl⟩; injection hy with hy; subst hy
  show JO _ _ _ _ ((47, .t [.a [.b (decide (ZQ < 0)), .o 13 0 0 (lm ((nn ZQ WQ : Nat) : Int)).length, .o 14 0 0 (lm ((dd ZQ WQ : Nat) : Int)).length], .i .i64 0]) :: _) _ _
  refine zmv rfl (hd 44 rfl) <| jo_l (ly_ext rfl rfl) (hd 48 rfl) <| jo_l (ly_ext rfl rfl) (hd 49 rfl) <| jo_h (hy_alloc (id := 15) zero1027 (by decide) rfl (by decide) rfl) (hd 14 rfl) <| jo_st (sy_store rfl rfl rfl siz1027 rfl rfl (zlb rfl)) <| zas rfl (hd 15 rfl) <| jo_nil <| jc_seq <| jc_H (H' := [⟨27, 3, 0, true, [.b s, .n false .u64 l, .n false .u64 d]⟩, ⟨27, 3, 0, true, [.b s2, .n false .u64 l2, .n false .u64 d2]⟩, ⟨30, 3, 0, true, [.b (sgq s x), .n false .u64 (digs B32 (rn0 x y)), .n false .u64 (digs B32 (rd0 x y))]⟩, ⟨30, 3, 0, true, [.b (sgq s2 x2), .n false .u64 (digs B32 (rn0 x2 y2)), .n false .u64 (digs B32 (rd0 x2 y2))]⟩, ⟨79, 1, 0, true, ints .u64 (lm ((nn ZA WW : Nat) : Int))⟩, ⟨79, 1, 0, true, ints .u64 (lm ((dd ZA WW : Nat) : Int))⟩, ⟨27, 3, 0, true, [.b (decide (ZA < 0)), .o 4 0 0 (lm ((nn ZA WW : Nat) : Int)).length, .o 5 0 0 (lm ((dd ZA WW : Nat) : Int)).length]⟩, ⟨79, 1, 0, true, ints .u64 (lm ((nn ZS WW : Nat) : Int))⟩, ⟨79, 1, 0, true, ints .u64 (lm ((dd ZS WW : Nat) : Int))⟩, ⟨27, 3, 0, true, [.b (decide (ZS < 0)), .o 7 0 0 (lm ((nn ZS WW : Nat) : Int)).length, .o 8 0 0 (lm ((dd ZS WW : Nat) : Int)).length]⟩, ⟨79, 1, 0, true, ints .u64 (lm ((nn ZM WW : Nat) : Int))⟩, ⟨79, 1, 0, true, ints .u64 (lm ((dd ZM WW : Nat) : Int))⟩, ⟨27, 3, 0, true, [.b (decide (ZM < 0)), .o 10 0 0 (lm ((nn ZM WW : Nat) : Int)).length, .o 11 0 0 (lm ((dd ZM WW : Nat) : Int)).length]⟩, ⟨79, 1, 0, true, ints .u64 (lm ((nn ZQ WQ : Nat) : Int))⟩, ⟨79, 1, 0, true, ints .u64 (lm ((dd ZQ WQ : Nat) : Int))⟩, ⟨27, 3, 0, true, [.b (decide (ZQ < 0)), .o 13 0 0 (lm ((nn ZQ WQ : Nat) : Int)).length, .o 14 0 0 (lm ((dd ZQ WQ : Nat) : Int)).length]⟩]) rfl <| jc_region <| jo_l (ly_lda agg1027 rfl rfl rfl rfl) (hd 51 rfl) <| jo_l (ly_lda agg1027 rfl rfl rfl rfl) (hd 52 rfl) ?_
  refine jo_call Tryz.f10 (hCc) rfl Tryz.func10 rfl rfl (ovL_cons rfl (ovL_cons rfl ovL_nil)) (.cons (.a1 .b (.a1 .n (.a1 .n .a0))) (.cons (.a1 .b (.a1 .n (.a1 .n .a0))) .nil)) (hd 53 rfl) ?_ (fun ch hp => by simp at hp)
  rintro _ ⟨⟩; refine zmv rfl (hd 50 rfl) <| jo_l (ly_ext rfl rfl) (hd 54 rfl) <| jo_l (ly_ext rfl rfl) (hd 55 rfl) <| zas rfl (hd 16 rfl) <| zas rfl (hd 17 rfl) <| jo_nil <| jc_seq <| zsr <| zmv rfl (hd 56 rfl) <| jo_l (ly_ff (ly_ne rfl rfl) (by decide)) (hd 57 rfl) <| jo_nil <| jc_litf rfl ?_; refine jc_skip <| jc_seq <| jc_seq <| jc_H (H' := [⟨27, 3, 0, true, [.b s, .n false .u64 l, .n false .u64 d]⟩, ⟨27, 3, 0, true, [.b s2, .n false .u64 l2, .n false .u64 d2]⟩, ⟨30, 3, 0, true, [.b (sgq s x), .n false .u64 (digs B32 (rn0 x y)), .n false .u64 (digs B32 (rd0 x y))]⟩, ⟨30, 3, 0, true, [.b (sgq s2 x2), .n false .u64 (digs B32 (rn0 x2 y2)), .n false .u64 (digs B32 (rd0 x2 y2))]⟩, ⟨79, 1, 0, true, ints .u64 (lm ((nn ZA WW : Nat) : Int))⟩, ⟨79, 1, 0, true, ints .u64 (lm ((dd ZA WW : Nat) : Int))⟩, ⟨27, 3, 0, true, [.b (decide (ZA < 0)), .o 4 0 0 (lm ((nn ZA WW : Nat) : Int)).length, .o 5 0 0 (lm ((dd ZA WW : Nat) : Int)).length]⟩, ⟨79, 1, 0, true, ints .u64 (lm ((nn ZS WW : Nat) : Int))⟩, ⟨79, 1, 0, true, ints .u64 (lm ((dd ZS WW : Nat) : Int))⟩, ⟨27, 3, 0, true, [.b (decide (ZS < 0)), .o 7 0 0 (lm ((nn ZS WW : Nat) : Int)).length, .o 8 0 0 (lm ((dd ZS WW : Nat) : Int)).length]⟩, ⟨79, 1, 0, true, ints .u64 (lm ((nn ZM WW : Nat) : Int))⟩, ⟨79, 1, 0, true, ints .u64 (lm ((dd ZM WW : Nat) : Int))⟩, ⟨27, 3, 0, true, [.b (decide (ZM < 0)), .o 10 0 0 (lm ((nn ZM WW : Nat) : Int)).length, .o 11 0 0 (lm ((dd ZM WW : Nat) : Int)).length]⟩, ⟨79, 1, 0, true, ints .u64 (lm ((nn ZQ WQ : Nat) : Int))⟩, ⟨79, 1, 0, true, ints .u64 (lm ((dd ZQ WQ : Nat) : Int))⟩, ⟨27, 3, 0, true, [.b (decide (ZQ < 0)), .o 13 0 0 (lm ((nn ZQ WQ : Nat) : Int)).length, .o 14 0 0 (lm ((dd ZQ WQ : Nat) : Int)).length]⟩]) rfl <| jc_draw (n := 36) _ rfl mixed <| zal2 0 [5, 6, 7, 8, 9, 10, 11, 12, 13, 14, 15, 16, 17, 18, 19, 20, 21, 22, 23, 24, 25, 26, 27, 28, 29, 30, 31, 32, 33, 34, 35] (lo_l (ly_lda agg1027 rfl rfl rfl rfl) (hd 97 rfl)) rfl <| zal2 1 [5, 6, 7, 8, 9, 10, 11, 12, 13, 14, 15, 16, 17, 18, 19, 20, 21, 22, 23, 24, 25, 26, 27, 28, 29, 30, 31, 32, 33, 34, 35] (lo_l (ly_mv rfl) (hd 98 rfl)) rfl <| zal2 2 [4, 5, 6, 7, 8, 9, 10, 11, 12, 13, 14, 15, 16, 17, 18, 19, 20, 21, 22, 23, 24, 25, 26, 27, 28, 29, 30, 31, 32, 33, 34, 35] (lo_l (ly_lda agg1030 rfl rfl rfl rfl) (hd 99 rfl)) rfl <| zal2 3 [4, 5, 6, 7, 8, 9, 10, 11, 12, 13, 14, 15, 16, 17, 18, 19, 20, 21, 22, 23, 24, 25, 26, 27, 28, 29, 30, 31, 32, 33, 34, 35] (lo_l (ly_lda agg1030 rfl rfl rfl rfl) (hd 100 rfl)) rfl ?_
  refine ja_1 4 ?_ rfl (by kernel_rfl)
  refine js_call Tryz.f13 (hFA) rfl Tryz.func13 rfl rfl (ovL_cons rfl (ovL_cons rfl ovL_nil)) (.cons (.a1 .b (.a1 .n (.a1 .n .a0))) (.cons (.a1 .b (.a1 .n (.a1 .n .a0))) .nil)) (hd 101 rfl) ?_ (fun ch hp => by simp at hp)
  rintro y hy; injection hy with hy; subst hy
  refine ja_1 5 ?_ rfl (by kernel_rfl)
  refine js_callL Tryz.f11 (hSA) rfl Tryz.func11 rfl rfl (ovL_cons rfl (ovL_cons rfl (ovL_cons rfl (ovL_cons rfl ovL_nil)))) (.a1 (.a1 .b (.a1 (.o rfl (by simp) (by rw [List.drop_zero, List.take_length])) (.a1 (.o rfl (by simp) (by rw [List.drop_zero, List.take_length])) .a0))) (.a1 .i (.a1 (.a1 .b (.a1 .n (.a1 .n .a0))) (.a1 .i .a0)))) (.cons (.a1 .b (.a1 .n (.a1 .n .a0))) (.cons .i (.cons (.a1 .b (.a1 .n (.a1 .n .a0))) (.cons .i .nil)))) hL (fun y hy => by injection hy with hy; subst hy; rfl) (hd 102 rfl) ?_ (fun ch hp => by simp at hp)
  rintro _ ⟨⟩; refine zal2 6 [7, 8, 9, 10, 11, 12, 13, 14, 15, 16, 17, 18, 19, 20, 21, 22, 23, 24, 25, 26, 27, 28, 29, 30, 31, 32, 33, 34, 35] (lo_l (ly_not rfl) (hd 103 rfl)) rfl <| zal2 7 [8, 9, 10, 11, 12, 13, 14, 15, 16, 17, 18, 19, 20, 21, 22, 23, 24, 25, 26, 27, 28, 29, 30, 31, 32, 33, 34, 35] (lo_l (ly_mv rfl) (hd 104 rfl)) rfl <| zal2 8 [13, 14, 15, 16, 17, 18, 19, 20, 21, 22, 23, 24, 25, 26, 27, 28, 29, 30, 31, 32, 33, 34, 35] (lo_g 104 rfl rfl (ly_lda agg1027 rfl rfl rfl rfl) (hd 105 rfl)) rfl <| zal2 9 [13, 14, 15, 16, 17, 18, 19, 20, 21, 22, 23, 24, 25, 26, 27, 28, 29, 30, 31, 32, 33, 34, 35] (lo_g 104 rfl rfl (ly_mv rfl) (hd 106 rfl)) rfl <| zal2 10 [12, 13, 14, 15, 16, 17, 18, 19, 20, 21, 22, 23, 24, 25, 26, 27, 28, 29, 30, 31, 32, 33, 34, 35] (lo_g 104 rfl rfl (ly_lda agg1030 rfl rfl rfl rfl) (hd 107 rfl)) rfl <| zal2 11 [12, 13, 14, 15, 16, 17, 18, 19, 20, 21, 22, 23, 24, 25, 26, 27, 28, 29, 30, 31, 32, 33, 34, 35] (lo_g 104 rfl rfl (ly_lda agg1030 rfl rfl rfl rfl) (hd 108 rfl)) rfl ?_
  as_aux_lemma =>
    refine ja_1 12 ?_ rfl (by kernel_rfl)
    refine js_callg Tryz.f14 104 rfl rfl (hFS) rfl Tryz.func14 rfl rfl (ovL_cons rfl (ovL_cons rfl ovL_nil)) (.cons (.a1 .b (.a1 .n (.a1 .n .a0))) (.cons (.a1 .b (.a1 .n (.a1 .n .a0))) .nil)) (hd 109 rfl) ?_ (fun ch hp => by simp at hp)
    rintro y hy; injection hy with hy; subst hy
    refine ja_1 13 ?_ rfl (by kernel_rfl)
    refine js_callLg Tryz.f11 104 rfl rfl (hSS) rfl Tryz.func11 rfl rfl (ovL_cons rfl (ovL_cons rfl (ovL_cons rfl (ovL_cons rfl ovL_nil)))) (.a1 (.a1 .b (.a1 (.o rfl (by simp) (by rw [List.drop_zero, List.take_length])) (.a1 (.o rfl (by simp) (by rw [List.drop_zero, List.take_length])) .a0))) (.a1 .i (.a1 (.a1 .b (.a1 .n (.a1 .n .a0))) (.a1 .i .a0)))) (.cons (.a1 .b (.a1 .n (.a1 .n .a0))) (.cons .i (.cons (.a1 .b (.a1 .n (.a1 .n .a0))) (.cons .i .nil)))) hL (fun y hy => by injection hy with hy; subst hy; rfl) (hd 110 rfl) ?_ (fun ch hp => by simp at hp)
    rintro _ ⟨⟩; refine zal2 14 [15, 16, 17, 18, 19, 20, 21, 22, 23, 24, 25, 26, 27, 28, 29, 30, 31, 32, 33, 34, 35] (lo_g 104 rfl rfl (ly_not rfl) (hd 111 rfl)) rfl <| zal2 15 [16, 17, 18, 19, 20, 21, 22, 23, 24, 25, 26, 27, 28, 29, 30, 31, 32, 33, 34, 35] (lo_l (ly_pick_f rfl rfl) (hd 112 rfl)) rfl <| zal2 16 [17, 18, 19, 20, 21, 22, 23, 24, 25, 26, 27, 28, 29, 30, 31, 32, 33, 34, 35] (lo_l (ly_mv rfl) (hd 113 rfl)) rfl <| zal2 17 [22, 23, 24, 25, 26, 27, 28, 29, 30, 31, 32, 33, 34, 35] (lo_g 113 rfl rfl (ly_lda agg1027 rfl rfl rfl rfl) (hd 114 rfl)) rfl <| zal2 18 [22, 23, 24, 25, 26, 27, 28, 29, 30, 31, 32, 33, 34, 35] (lo_g 113 rfl rfl (ly_mv rfl) (hd 115 rfl)) rfl <| zal2 19 [21, 22, 23, 24, 25, 26, 27, 28, 29, 30, 31, 32, 33, 34, 35] (lo_g 113 rfl rfl (ly_lda agg1030 rfl rfl rfl rfl) (hd 116 rfl)) rfl <| zal2 20 [21, 22, 23, 24, 25, 26, 27, 28, 29, 30, 31, 32, 33, 34, 35] (lo_g 113 rfl rfl (ly_lda agg1030 rfl rfl rfl rfl) (hd 117 rfl)) rfl ?_
    refine ja_1 21 ?_ rfl (by kernel_rfl)
    refine js_callg Tryz.f15 113 rfl rfl (hFM) rfl Tryz.func15 rfl rfl (ovL_cons rfl (ovL_cons rfl ovL_nil)) (.cons (.a1 .b (.a1 .n (.a1 .n .a0))) (.cons (.a1 .b (.a1 .n (.a1 .n .a0))) .nil)) (hd 118 rfl) ?_ (fun ch hp => by simp at hp)
    rintro y hy; injection hy with hy; subst hy
    refine ja_1 22 ?_ rfl (by kernel_rfl)
    refine js_callLg Tryz.f11 113 rfl rfl (hSM) rfl Tryz.func11 rfl rfl (ovL_cons rfl (ovL_cons rfl (ovL_cons rfl (ovL_cons rfl ovL_nil)))) (.a1 (.a1 .b (.a1 (.o rfl (by simp) (by rw [List.drop_zero, List.take_length])) (.a1 (.o rfl (by simp) (by rw [List.drop_zero, List.take_length])) .a0))) (.a1 .i (.a1 (.a1 .b (.a1 .n (.a1 .n .a0))) (.a1 .i .a0)))) (.cons (.a1 .b (.a1 .n (.a1 .n .a0))) (.cons .i (.cons (.a1 .b (.a1 .n (.a1 .n .a0))) (.cons .i .nil)))) hL (fun y hy => by injection hy with hy; subst hy; rfl) (hd 119 rfl) ?_ (fun ch hp => by simp at hp)
    rintro _ ⟨⟩; refine zal2 23 [24, 25, 26, 27, 28, 29, 30, 31, 32, 33, 34, 35] (lo_g 113 rfl rfl (ly_not rfl) (hd 120 rfl)) rfl ?_
    as_aux_lemma =>
      refine zal2 24 [25, 26, 27, 28, 29, 30, 31, 32, 33, 34, 35] (lo_l (ly_pick_f rfl rfl) (hd 121 rfl)) rfl <| zal2 25 [26, 27, 28, 29, 30, 31, 32, 33, 34, 35] (lo_l (ly_mv rfl) (hd 122 rfl)) rfl <| zal2 26 [30, 31, 32, 33, 34, 35] (lo_g 122 rfl rfl (ly_mv rfl) (hd 123 rfl)) rfl <| zal2 27 [29, 30, 31, 32, 33, 34, 35] (lo_g 122 rfl rfl (ly_lda agg1030 rfl rfl rfl rfl) (hd 124 rfl)) rfl <| zal2 28 [29, 30, 31, 32, 33, 34, 35] (lo_g 122 rfl rfl (ly_lda agg1030 rfl rfl rfl rfl) (hd 125 rfl)) rfl ?_
      refine ja_1 29 ?_ rfl (by kernel_rfl)
      refine js_callg Tryz.f16 122 rfl rfl (hCr) rfl Tryz.func16 rfl rfl (ovL_cons rfl (ovL_cons rfl ovL_nil)) (.cons (.a1 .b (.a1 .n (.a1 .n .a0))) (.cons (.a1 .b (.a1 .n (.a1 .n .a0))) .nil)) (hd 126 rfl) ?_ (fun ch hp => by simp at hp)
      rintro _ ⟨⟩; refine zal2 30 [31, 32, 33, 34, 35] (lo_g 122 rfl rfl (ly_ff (ly_ne rfl rfl) (fun h => h rfl)) (hd 127 rfl)) rfl <| zal2 31 [32, 33, 34, 35] (lo_l (ly_pick_f rfl rfl) (hd 128 rfl)) rfl <| zal 32 (lo_l (ly_mv rfl) (hd 129 rfl)) rfl <| zal2 33 [34, 35] (lo_g 129 rfl rfl (ly_mv rfl) (hd 130 rfl)) rfl <| zal 34 (lo_g 129 rfl rfl (ly_ff (ly_ne rfl rfl) (by decide)) (hd 131 rfl)) rfl <| zal 35 (lo_l (ly_pick_f rfl rfl) (hd 132 rfl)) rfl ?_
      as_aux_lemma =>
        refine ja_nil (by kernel_rfl) <| jc_litf rfl <| jc_skip <| jc_seq <| zsr <| jo_l (ly_lda agg1030 rfl rfl rfl rfl) (hd 133 rfl) ?_
        refine jo_call Tryz.f17 (hRs) rfl Tryz.func17 rfl rfl (ovL_cons rfl ovL_nil) (.cons (.a1 .b (.a1 .n (.a1 .n .a0))) .nil) (hd 134 rfl) ?_ (fun ch hp => by simp at hp)
        rintro _ ⟨⟩; refine jo_l (ly_ff (ly_eq rfl rfl) (by rw [sgnI_0, zs_ne]; exact hx20)) (hd 135 rfl) <| jo_nil <| jc_litf rfl <| jc_skip <| jc_seq <| jc_H (H' := [⟨27, 3, 0, true, [.b s, .n false .u64 l, .n false .u64 d]⟩, ⟨27, 3, 0, true, [.b s2, .n false .u64 l2, .n false .u64 d2]⟩, ⟨30, 3, 0, true, [.b (sgq s x), .n false .u64 (digs B32 (rn0 x y)), .n false .u64 (digs B32 (rd0 x y))]⟩, ⟨30, 3, 0, true, [.b (sgq s2 x2), .n false .u64 (digs B32 (rn0 x2 y2)), .n false .u64 (digs B32 (rd0 x2 y2))]⟩, ⟨79, 1, 0, true, ints .u64 (lm ((nn ZA WW : Nat) : Int))⟩, ⟨79, 1, 0, true, ints .u64 (lm ((dd ZA WW : Nat) : Int))⟩, ⟨27, 3, 0, true, [.b (decide (ZA < 0)), .o 4 0 0 (lm ((nn ZA WW : Nat) : Int)).length, .o 5 0 0 (lm ((dd ZA WW : Nat) : Int)).length]⟩, ⟨79, 1, 0, true, ints .u64 (lm ((nn ZS WW : Nat) : Int))⟩, ⟨79, 1, 0, true, ints .u64 (lm ((dd ZS WW : Nat) : Int))⟩, ⟨27, 3, 0, true, [.b (decide (ZS < 0)), .o 7 0 0 (lm ((nn ZS WW : Nat) : Int)).length, .o 8 0 0 (lm ((dd ZS WW : Nat) : Int)).length]⟩, ⟨79, 1, 0, true, ints .u64 (lm ((nn ZM WW : Nat) : Int))⟩, ⟨79, 1, 0, true, ints .u64 (lm ((dd ZM WW : Nat) : Int))⟩, ⟨27, 3, 0, true, [.b (decide (ZM < 0)), .o 10 0 0 (lm ((nn ZM WW : Nat) : Int)).length, .o 11 0 0 (lm ((dd ZM WW : Nat) : Int)).length]⟩, ⟨79, 1, 0, true, ints .u64 (lm ((nn ZQ WQ : Nat) : Int))⟩, ⟨79, 1, 0, true, ints .u64 (lm ((dd ZQ WQ : Nat) : Int))⟩, ⟨27, 3, 0, true, [.b (decide (ZQ < 0)), .o 13 0 0 (lm ((nn ZQ WQ : Nat) : Int)).length, .o 14 0 0 (lm ((dd ZQ WQ : Nat) : Int)).length]⟩]) rfl <| jc_draw (n := 18) _ rfl mixed <| zal2 0 [5, 6, 7, 8, 9, 10, 11, 12, 13, 14, 15, 16, 17] (lo_l (ly_lda agg1027 rfl rfl rfl rfl) (hd 150 rfl)) rfl <| zal2 1 [5, 6, 7, 8, 9, 10, 11, 12, 13, 14, 15, 16, 17] (lo_l (ly_mv rfl) (hd 151 rfl)) rfl <| zal2 2 [4, 5, 6, 7, 8, 9, 10, 11, 12, 13, 14, 15, 16, 17] (lo_l (ly_lda agg1030 rfl rfl rfl rfl) (hd 152 rfl)) rfl <| zal2 3 [4, 5, 6, 7, 8, 9, 10, 11, 12, 13, 14, 15, 16, 17] (lo_l (ly_lda agg1030 rfl rfl rfl rfl) (hd 153 rfl)) rfl ?_
        refine ja_1 4 ?_ rfl (by kernel_rfl)
        refine js_call Tryz.f19 (hFQ) rfl Tryz.func19 rfl rfl (ovL_cons rfl (ovL_cons rfl ovL_nil)) (.cons (.a1 .b (.a1 .n (.a1 .n .a0))) (.cons (.a1 .b (.a1 .n (.a1 .n .a0))) .nil)) (hd 154 rfl) ?_ (fun ch hp => by simp at hp)
        rintro y hy; injection hy with hy; subst hy
        refine ja_1 5 ?_ rfl (by kernel_rfl)
        refine js_callL Tryz.f11 (hSQ) rfl Tryz.func11 rfl rfl (ovL_cons rfl (ovL_cons rfl (ovL_cons rfl (ovL_cons rfl ovL_nil)))) (.a1 (.a1 .b (.a1 (.o rfl (by simp) (by rw [List.drop_zero, List.take_length])) (.a1 (.o rfl (by simp) (by rw [List.drop_zero, List.take_length])) .a0))) (.a1 .i (.a1 (.a1 .b (.a1 .n (.a1 .n .a0))) (.a1 .i .a0)))) (.cons (.a1 .b (.a1 .n (.a1 .n .a0))) (.cons .i (.cons (.a1 .b (.a1 .n (.a1 .n .a0))) (.cons .i .nil)))) hL (fun y hy => by injection hy with hy; subst hy; rfl) (hd 155 rfl) ?_ (fun ch hp => by simp at hp)
        rintro _ ⟨⟩; refine zal2 6 [7, 8, 9, 10, 11, 12, 13, 14, 15, 16, 17] (lo_l (ly_mv rfl) (hd 156 rfl)) rfl <| zal2 7 [11, 12, 13, 14, 15, 16, 17] (lo_g 156 rfl rfl (ly_lda agg1027 rfl rfl rfl rfl) (hd 157 rfl)) rfl <| zal2 8 [11, 12, 13, 14, 15, 16, 17] (lo_g 156 rfl rfl (ly_lda agg1027 rfl rfl rfl rfl) (hd 158 rfl)) rfl <| zal2 9 [11, 12, 13, 14, 15, 16, 17] (lo_g 156 rfl rfl (ly_lda agg1027 rfl rfl rfl rfl) (hd 159 rfl)) rfl <| zal2 10 [11, 12, 13, 14, 15, 16, 17] (lo_g 156 rfl rfl (ly_lda agg1027 rfl rfl rfl rfl) (hd 160 rfl)) rfl ?_
        refine ja_1 11 ?_ rfl (by kernel_rfl)
        refine js_hg 156 rfl rfl (hy_lit (id := 16) (xs := [.tmp 157, .tmp 158, .tmp 159, .tmp 160]) el1084 rfl (ovL_cons rfl (ovL_cons rfl (ovL_cons rfl (ovL_cons rfl ovL_nil)))) rfl (all2_of rfl) (by decide) rfl) (hd 161 rfl) ?_
        as_aux_lemma =>
          refine ja_1 12 ?_ rfl (by kernel_rfl)
          refine js_callGg Tryz.f18 156 rfl rfl (sel := [16, 4, 5, 7, 8, 10, 11, 13, 14]) (own_4 (decide (ZA < 0)) (lm ((nn ZA WW : Nat) : Int)) (lm ((dd ZA WW : Nat) : Int)) (by have := (Rw.of (Nat.le_trans rA.bx hBC)).l; omega) (by have := (Rw.of (Nat.le_trans rA.bd hBC)).l; omega) (decide (ZS < 0)) (lm ((nn ZS WW : Nat) : Int)) (lm ((dd ZS WW : Nat) : Int)) (by have := (Rw.of (Nat.le_trans rS.bx hBC)).l; omega) (by have := (Rw.of (Nat.le_trans rS.bd hBC)).l; omega) (decide (ZM < 0)) (lm ((nn ZM WW : Nat) : Int)) (lm ((dd ZM WW : Nat) : Int)) (by have := (Rw.of (Nat.le_trans rM.bx hBC)).l; omega) (by have := (Rw.of (Nat.le_trans rM.bd hBC)).l; omega) (decide (ZQ < 0)) (lm ((nn ZQ WQ : Nat) : Int)) (lm ((dd ZQ WQ : Nat) : Int)) (by have := (Rw.of (Nat.le_trans rQ.bx hBC)).l; omega) (by have := (Rw.of (Nat.le_trans rQ.bd hBC)).l; omega)) rfl Tryz.func18 rfl rfl (ovL_cons rfl ovL_nil) rfl rfl (.cons rfl rfl (.cons rfl (renL_ints _ _ _) (.cons rfl (renL_ints _ _ _) (.cons rfl (renL_ints _ _ _) (.cons rfl (renL_ints _ _ _) (.cons rfl (renL_ints _ _ _) (.cons rfl (renL_ints _ _ _) (.cons rfl (renL_ints _ _ _) (.cons rfl (renL_ints _ _ _) .nil))))))))) (by decide) (.cons rfl (.cons ints_id (.cons ints_id (.cons ints_id (.cons ints_id (.cons ints_id (.cons ints_id (.cons ints_id (.cons ints_id .nil))))))))) (freshless_cons rfl (freshless_cons ints_noFr (freshless_cons ints_noFr (freshless_cons ints_noFr (freshless_cons ints_noFr (freshless_cons ints_noFr (freshless_cons ints_noFr (freshless_cons ints_noFr (freshless_cons ints_noFr freshless_nil))))))))) (fun y G h => by cases h; rfl) (hd 162 rfl) ?_ (fun ch G hp => by cases hp) rfl
          rintro y G hy; injection hy with hy; subst hy; refine zal2 13 [14, 15, 16, 17] (lo_l (ly_pick_t rfl rfl) (hd 163 rfl)) rfl <| zal 14 (lo_l (ly_mv rfl) (hd 164 rfl)) rfl ?_
          refine ja_1 15 ?_ rfl (by kernel_rfl)
          refine js_callg Tryz.f12 164 rfl rfl (lives7_s) rfl Tryz.func12 rfl rfl ovL_nil .nil (hd 165 rfl) ?_ (fun ch hp => by simp at hp)
          rintro _ ⟨⟩; refine zal 16 (lo_l (ly_pick_t rfl rfl) (hd 166 rfl)) rfl <| zal 17 (lo_l (ly_as rfl) (hd 4 rfl)) rfl <| ja_nil (by kernel_rfl) <| jc_ret ?_
          refine ⟨_, _, (.cons rfl .nil), .b, ?_⟩
          exact rfl

theorem RatioRings_s (s : Bool) (l d : List Int) (x y : Nat) (hx : Rw l x) (hy : Rw d y) (s2 : Bool) (l2 d2 : List Int) (x2 y2 : Nat) (hx2 : Rw l2 x2) (hy2 : Rw d2 y2) (hB : lenV (x : Int) + lenV (y : Int) + lenV (x2 : Int) + lenV (y2 : Int) + 1 ≤ 67108864) : Spec Tryz.prog 3 [(.a [.b s, .n false .u64 l, .n false .u64 d]), (.a [.b s2, .n false .u64 l2, .n false .u64 d2])] (fun o => o = .ret (.b true)) := by
  by_cases h0 : y = 0
  · exact RatioRings_z s l d x y hx hy s2 l2 d2 x2 y2 hx2 hy2 (.inl h0)
  · by_cases h02 : y2 = 0
    · exact RatioRings_z s l d x y hx hy s2 l2 d2 x2 y2 hx2 hy2 (.inr h02)
    · by_cases hx20 : x2 = 0
      · exact RatioRings_q s l d x y hx hy s2 l2 d2 x2 y2 hx2 hy2 hB h0 h02 hx20
      · exact RatioRings_n s l d x y hx hy s2 l2 d2 x2 y2 hx2 hy2 hB h0 h02 hx20
theorem ringsB {l d l2 d2 : List Int} {x y x2 y2 : Nat} (hx : Rw l x) (hy : Rw d y) (hx2 : Rw l2 x2) (hy2 : Rw d2 y2) (h : l.length + d.length + l2.length + d2.length ≤ 1048570) : lenV (x : Int) + lenV (y : Int) + lenV (x2 : Int) + lenV (y2 : Int) + 1 ≤ 67108864 := by
  have a1 := hx.b'
  have a2 := hy.b'
  have a3 := hx2.b'
  have a4 := hy2.b'
  omega
end Go.Proofs.YtpldmajdiljoaaaGreat.Vc

namespace Go.Proofs.YtpldmajdiljoaaaGreat.ratioRings
open Go Go.ChangeShapes Go.WideShapes Go.ChangeAt Go.RowKit
open Go.ChangeMaps (open_string shut_string)

theorem own : ownKnob Tryz.prog.godebug = none := by kernel_rfl
theorem laidOut : laidOutB Tryz.prog = true := by kernel_rfl
set_option maxRecDepth 100000 in
theorem lifted (os : Os) (started : os.Started) (H : Type) (enc : TypeId × Value → H) (F : Stop.Interp) :
    ReturnsInHanded {} Tryz.checked os 3 .any ((Rows.OpenSpec.upto Rows.ratioRingsSpec).pre6 enc Tryz.prog Tryz.f3 Rows.ratioRingsUptoRow.domain false) (((Rows.OpenSpec.upto Rows.ratioRingsSpec).at F).post enc Tryz.prog Tryz.f3 false true false false) := by
  refine returnsInHanded_of_cond (C := Tryz.checked) (s := Rows.OpenSpec.upto Rows.ratioRingsSpec) (k := Rows.uptoSmall) rfl own started (by kernel_rfl) Tryz.func3
    (OpenSpec.witness (enc := enc) (C := Tryz.checked) (s := Rows.OpenSpec.upto Rows.ratioRingsSpec) (k := Rows.uptoSmall) rfl false ⟨#[], #[.agg #[.bool false, .slice none 0 0, .slice none 0 0], .agg #[.bool false, .slice none 0 0, .slice none 0 0]], []⟩ 8 (by kernel_rfl) (by kernel_rfl) (by kernel_rfl)
      (x := ([.agg [.agg [.lit (.bool false), .nil], .nil], .agg [.agg [.lit (.bool false), .nil], .nil]], [], [])) (by kernel_rfl) rfl (by kernel_rfl)) ?_
  intro W base args ds gs before hval0 hW _ hk _
  have hval : ∀ (j : Nat) t v, Tryz.f3.params[j]? = some t → args[j]? = some v → Value.okWide Tryz.prog W .any base t v := hval0
  have hW' := hW
  obtain ⟨p, q, hA0, hV, rfl, hfz, hnd⟩ := hW
  have hA : DataW.TrodAll enc Tryz.prog W 0 (fun _ => true) true Tryz.f3.params.toList args.toList ds p := hA0
  rw [Tryz.params3] at hA hval
  obtain ⟨v0, vs0, d0, ds0, p0, q0, hargs, rfl, rfl, h0, r0⟩ := trodAll_cons hA
  obtain ⟨v1, vs1, d1, ds1, p1, q1, rfl, rfl, rfl, h1, r1⟩ := trodAll_cons r0
  obtain ⟨rfl, rfl, rfl⟩ := trodAll_nil r1
  obtain rfl : args = #[v0, v1] := by cases args; simp_all
  obtain ⟨rfl, rfl⟩ := trodVars_none hV
  have hk0 := h0
  obtain ⟨s0, l0, e0, rel0, hb0, ul0, ue0⟩ := Vc.openQ (hval 0 27 v0 rfl rfl) h0
  have hk1 := h1
  obtain ⟨s1, l1, e1, rel1, hb1, ul1, ue1⟩ := Vc.openQ (hval 1 27 v1 rfl rfl) h1
  clear hA0 hval0
  simp only [List.append_nil] at hW' hk
  refine (Vc.spec_calls (vals := [v0, v1]) (Vc.RatioRings_s s0 l0 e0 _ _ (Vc.Rw.mk' ul0 (by have := Vc.short2q hk hb0 hb1; omega)) (Vc.Rw.mk' ue0 (by have := Vc.short2q hk hb0 hb1; omega)) s1 l1 e1 _ _ (Vc.Rw.mk' ul1 (by have := Vc.short2q hk hb0 hb1; omega)) (Vc.Rw.mk' ue1 (by have := Vc.short2q hk hb0 hb1; omega)) (Vc.ringsB (Vc.Rw.mk' ul0 (by have := Vc.short2q hk hb0 hb1; omega)) (Vc.Rw.mk' ue0 (by have := Vc.short2q hk hb0 hb1; omega)) (Vc.Rw.mk' ul1 (by have := Vc.short2q hk hb0 hb1; omega)) (Vc.Rw.mk' ue1 (by have := Vc.short2q hk hb0 hb1; omega)) (Vc.short2q hk hb0 hb1))) W (⟨_, _, rfl, rel0, ⟨_, _, rfl, rel1, rfl⟩⟩)).mono fun e W' ⟨he, hb⟩ => ?_; subst he
  have hlt : ∀ x ∈ p0 ++ p1, x.block < W.heap.size := fun x hx => by simpa using hW'.lt x (by simpa using hx)
  exact ⟨_, rfl, Vc.post_of_below (pa := (p0 ++ (p1 ++ []))) (pv := []) hW' (fun _ _ _ => (trodAll_cons_mk (shut_bool Tryz.underlying4 _) trodAll_mk0)) (fun sp hsp => (trodAll_cons_mk (Go.WideElems.Trod_stays laidOut (by kernel_rfl) (of_decide_eq_true (by kernel_rfl)) hk0 (fun x hx => hb.same (hlt x (by simp [hx]))) (fun x hx => hsp x (by simp [hx]))) (trodAll_cons_mk (Go.WideElems.Trod_stays laidOut (by kernel_rfl) (of_decide_eq_true (by kernel_rfl)) hk1 (fun x hx => hb.same (hlt x (by simp [hx]))) (fun x hx => hsp x (by simp [hx]))) trodAll_mk0))) (fun _ _ => rfl) (by simp) hb⟩

theorem proved : Rows.RatioRingsUptoSaid :=
  OpenClaim.holds_of_cond 3 Tryz.f3 rfl rfl rfl rfl rfl rfl rfl ⟨rfl, rfl, rfl, rfl, rfl⟩ rfl rfl rfl rfl rfl (by kernel_rfl) Tryz.func3 (by kernel_rfl)
    (of_decide_eq_true (by kernel_rfl)) (by unfold Func.isWrapper; first | (rw [if_pos (by decide +kernel)]; kernel_rfl) | (rw [if_neg (by decide +kernel)]; exact ⟨rfl, rfl⟩))
    (fun os started H enc _ F => lifted os started H enc F)
end Go.Proofs.YtpldmajdiljoaaaGreat.ratioRings
