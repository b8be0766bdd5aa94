/- What Bezout tells of two whole numbers divides both and is made of both, and an inverse is one, of every input of bulk at most 1048576 Texts joined: Zk. -/
import Derived.Test.YthocbnfkjlgclaaK8
set_option linter.unusedVariables false
set_option linter.unusedSimpArgs false
/- The contract of surdlaw06.WholeCommon, of 0. -/
namespace Go.Proofs.Ythocbnfkjlgclaa.Vc
open Go Go.RowKit
set_option maxHeartbeats 20000000 in
set_option maxRecDepth 100000 in
theorem WholeCommon_z (sa sb : Bool) (a b : List Int) (hab : a.length + b.length ≤ 1048572) (ua : u64s a) (ub : u64s b) (h0 : (sv sb b) = 0) : Spec Try.prog 4 [.a [.b sa, .n false .u64 a], .a [.b sb, .n false .u64 b]] (fun o => o = .ret (.b true)) := by
  refine spec_of' [(0, .a [.b sa, .n false .u64 a]), (1, .a [.b sb, .n false .u64 b])] rfl Try.func4 rfl (Nat.le_of_ble_eq_true rfl) fun Γ hN hds hL hR => ?_
  have hd : ∀ d, Nat.blt d 179 = true → d < Γ.N := fun d h => by rw [hN]; exact Nat.le_of_ble_eq_true h
  have da := dg_lenN (s := sa) ua rfl
  have db := dg_lenN (s := sb) ub rfl
  have hlva := lenV_64 (s := sa) ua
  have hlwb := lenV_64 (s := sb) ub
  have hmv := lenV_lm (v := (sv sa a)) (by omega)
  have hm1 := dg_mul_len (sv sa a) (sgnI (sv sa a))
  have hsr := sgn_range (sv sa a)
  have hls : (lm (sgnI (sv sa a))).length ≤ 1 := lm_i64 (by omega)
  have hds : (dg (sgnI (sv sa a))).length ≤ 1 := Nat.le_trans (dg_mono (v := (sgnI (sv sa a))) (w := 1) (by omega)) (by rw [dg_1]; exact Nat.le_refl _)
  have hd0 : (dg 0).length = 0 := by rw [dg_0]; rfl
  have hdg : (dg (((sv sa a)).natAbs : Int)).length = (dg (sv sa a)).length := congrArg List.length dg_abs
  have hm2 := dg_mul_len (sv sb b) 0
  have hsu : ((sv sa a) * (sgnI (sv sa a)) + (sv sb b) * 0) = (((sv sa a)).natAbs : Int) := abs_sgn _ _
  have hdsu : (dg ((sv sa a) * (sgnI (sv sa a)) + (sv sb b) * 0)).length = (dg (((sv sa a)).natAbs : Int)).length := by rw [hsu]
  have hOg : Spec Try.prog 19 [.b false, .n false .u64 (lm (sv sa a))] (fun o => o = .ret (.a [.b (decide ((((sv sa a)).natAbs : Int) < 0)), .n false .u64 (dg (((sv sa a)).natAbs : Int))])) := by have h := ZOf_s false (lm (sv sa a)) (by omega) (lm_u _); rwa [show sv false (lm (sv sa a)) = (((sv sa a)).natAbs : Int) from lm_v _] at h
  have hO0 : Spec Try.prog 19 [.b false, .n false .u64 []] (fun o => o = .ret (.a [.b (decide (0 < 0)), .n false .u64 (dg 0)])) := ZOf_s false [] (by decide) (fun x hx => by cases hx)
  refine jc_seq ?_; refine jc_region ?_; refine jo_h (hy_box (id := 0) (n := 2) rfl rfl rfl (by decide) rfl) (hd 2 rfl) ?_; refine jo_h (hy_box (id := 1) (n := 2) rfl rfl rfl (by decide) rfl) (hd 3 rfl) ?_; refine jo_l (ly_as rfl) (hd 4 rfl) ?_; refine jo_nil ?_; refine jc_seq ?_; refine jc_hold 2 _ ?_; refine jc_draw (n := 8) _ rfl mixed ?_; refine ja_gen (fun _ _ _ _ h => h) fun ops1 Q1 F0 hpan ho hq hF => ?_
  have S1_0 : JA Try.prog ops1 0 #[true, true, true, true, true, true, true, true] Γ ([(5, .p 2 1 0), (6, .p 3 1 0), (23, .a [.b sa, .n false .u64 a]), (24, .a [.b sa, .n false .u64 a]), (25, .a [.b sb, .n false .u64 b]), (26, .a [.b sb, .n false .u64 b])] ++ F0) [(ob sa a), (ob sb b), (oc 1 sa a), (oc 1 sb b)] Q1 := by
    subst ho; subst hq; subst hF; refine ja_nil (by kernel_rfl) ?_; refine jc_seq ?_; refine jc_H (H' := [(ob sa a), (ob sb b), (oc 1 sa a), (oc 1 sb b)]) rfl ?_; refine jc_region ?_; refine jo_l (ly_lda agg30 rfl rfl rfl rfl) (hd 28 rfl) ?_; refine jo_l (ly_lda agg30 rfl rfl rfl rfl) (hd 29 rfl) ?_
    refine jo_call Try.f17 (Bezout_0 sa sb a b (sv sa a) (by omega) (by omega) ua ub rfl h0 (by omega)) rfl Try.func17 rfl rfl (ovL_cons rfl (ovL_cons rfl ovL_nil)) (.cons (.a1 .b (.a1 .n .a0)) (.cons (.a1 .b (.a1 .n .a0)) .nil)) (hd 30 rfl) ?_ (fun ch hp => by simp at hp)
    rintro y hy; injection hy with hy; subst hy; refine jo_l (ly_mv rfl) (hd 27 rfl) ?_; refine jo_l (ly_ext rfl rfl) (hd 31 rfl) ?_; refine jo_l (ly_ext rfl rfl) (hd 32 rfl) ?_; refine jo_l (ly_ext rfl rfl) (hd 33 rfl) ?_; refine jo_l (ly_ext rfl rfl) (hd 34 rfl) ?_; refine jo_h (hy_alloc (id := 4) zero30 (by decide) rfl (by decide) rfl) (hd 7 rfl) ?_; refine jo_h (hy_alloc (id := 5) zero30 (by decide) rfl (by decide) rfl) (hd 8 rfl) ?_; refine jo_h (hy_alloc (id := 6) zero30 (by decide) rfl (by decide) rfl) (hd 9 rfl) ?_; refine jo_st (sy_store rfl rfl rfl siz30 rfl rfl (Nat.le_of_ble_eq_true rfl)) ?_
    as_aux_lemma =>
      refine jo_st (sy_store rfl rfl rfl siz30 rfl rfl (Nat.le_of_ble_eq_true rfl)) ?_; refine jo_st (sy_store rfl rfl rfl siz30 rfl rfl (Nat.le_of_ble_eq_true rfl)) ?_; refine jo_l (ly_as rfl) (hd 10 rfl) ?_; refine jo_nil ?_; refine jc_seq ?_; refine jc_region ?_; refine jo_l (ly_lda agg30 rfl rfl rfl rfl) (hd 36 rfl) ?_; refine jo_l (ly_lda agg30 rfl rfl rfl rfl) (hd 37 rfl) ?_
      refine jo_call Try.f18 (Inverse_0 sa sb a b (sv sa a) (by omega) (by omega) ua ub rfl h0 (by omega)) rfl Try.func18 rfl rfl (ovL_cons rfl (ovL_cons rfl ovL_nil)) (.cons (.a1 .b (.a1 .n .a0)) (.cons (.a1 .b (.a1 .n .a0)) .nil)) (hd 38 rfl) ?_ (fun ch hp => by simp at hp)
      rintro y hy; injection hy with hy; subst hy; refine jo_l (ly_mv rfl) (hd 35 rfl) ?_; refine jo_l (ly_ext rfl rfl) (hd 39 rfl) ?_; refine jo_l (ly_ext rfl rfl) (hd 40 rfl) ?_; refine jo_h (hy_alloc (id := 7) zero30 (by decide) rfl (by decide) rfl) (hd 11 rfl) ?_; refine jo_st (sy_store rfl rfl rfl siz30 rfl rfl (Nat.le_of_ble_eq_true rfl)) ?_; refine jo_l (ly_as rfl) (hd 12 rfl) ?_; refine jo_nil ?_; refine jc_seq ?_; refine jc_seq ?_; refine jc_region ?_; refine jo_l (ly_mv rfl) (hd 41 rfl) ?_
      refine jo_call Try.f13 (num_s 0) rfl Try.func13 rfl rfl (ovL_cons rfl ovL_nil) (.cons .i .nil) (hd 42 rfl) ?_ (fun ch hp => by simp at hp)
      rintro y hy; injection hy with hy; subst hy; refine jo_l (ly_ff (ly_ne rfl rfl) (fun h => h rfl)) (hd 43 rfl) ?_; refine jo_nil ?_; refine jc_litf rfl ?_; refine jc_skip ?_; refine jc_seq ?_; refine jc_H (H' := [(ob sa a), (ob sb b), (oc 1 sa a), (oc 1 sb b), ⟨28, 2, 0, true, [.b false, .n false .u64 (lm (sv sa a))]⟩, (ow 0 false (sgnI (sv sa a))), ⟨28, 2, 0, true, [.b false, .n false .u64 []]⟩, ⟨28, 2, 0, true, [.b false, .n false .u64 []]⟩]) rfl ?_; refine jc_hold 3 _ ?_; refine jc_draw (n := 15) _ rfl mixed ?_; refine ja_gen (fun _ _ _ _ h => h) fun ops1 Q1 F0 hpan ho hq hF => ?_
      have S6_0 : JA Try.prog ops1 0 #[true, true, true, true, true, true, true, true, true, true, true, true, true, true, true] Γ ([(13, .p 8 1 0), (14, .p 9 1 0), (15, .p 10 1 0), (59, .a [.b sa, .n false .u64 a]), (60, (zz (sv sa a))), (61, .a [.b sb, .n false .u64 b]), (62, (zz (sv sb b))), (63, .p 4 0 0), (64, .b false), (65, .p 4 0 1), (66, .n false .u64 (lm (sv sa a))), (67, (zz (((sv sa a)).natAbs : Int)))] ++ F0) [(ob sa a), (ob sb b), (oc 1 sa a), (oc 1 sb b), ⟨28, 2, 0, true, [.b false, .n false .u64 (lm (sv sa a))]⟩, (ow 0 false (sgnI (sv sa a))), ⟨28, 2, 0, true, [.b false, .n false .u64 []]⟩, ⟨28, 2, 0, true, [.b false, .n false .u64 []]⟩, (oz 1 (sv sa a)), (oz 1 (sv sb b)), (oz 1 (((sv sa a)).natAbs : Int))] Q1 := by
        subst ho; subst hq; subst hF; refine ja_nil (by kernel_rfl) ?_; refine jc_seq ?_; refine jc_H (H' := [(ob sa a), (ob sb b), (oc 1 sa a), (oc 1 sb b), ⟨28, 2, 0, true, [.b false, .n false .u64 (lm (sv sa a))]⟩, (ow 0 false (sgnI (sv sa a))), ⟨28, 2, 0, true, [.b false, .n false .u64 []]⟩, ⟨28, 2, 0, true, [.b false, .n false .u64 []]⟩, (oz 1 (sv sa a)), (oz 1 (sv sb b)), (oz 1 (((sv sa a)).natAbs : Int))]) rfl ?_; refine jc_hold 1 _ ?_; refine jc_draw (n := 17) _ rfl mixed ?_; refine ja_gen (fun _ _ _ _ h => h) fun ops1 Q1 F0 hpan ho hq hF => ?_
        have S7_0 : JA Try.prog ops1 0 #[true, true, true, true, true, true, true, true, true, true, true, true, true, true, true, true, true] Γ ([(16, .p 11 1 0), (68, (zz (sv sa a))), (69, .p 5 0 0), (70, .b (decide ((sgnI (sv sa a)) < 0))), (71, .p 5 0 1), (72, .n false .u64 (lm (sgnI (sv sa a)))), (73, (zz (sgnI (sv sa a)))), (74, (zz ((sv sa a) * (sgnI (sv sa a))))), (75, (zz (sv sb b))), (76, .p 6 0 0), (77, .b false), (78, .p 6 0 1), (79, .n false .u64 []), (80, (zz 0)), (81, (zz ((sv sb b) * 0))), (82, (zz ((sv sa a) * (sgnI (sv sa a)) + (sv sb b) * 0)))] ++ F0) [(ob sa a), (ob sb b), (oc 1 sa a), (oc 1 sb b), ⟨28, 2, 0, true, [.b false, .n false .u64 (lm (sv sa a))]⟩, (ow 0 false (sgnI (sv sa a))), ⟨28, 2, 0, true, [.b false, .n false .u64 []]⟩, ⟨28, 2, 0, true, [.b false, .n false .u64 []]⟩, (oz 1 (sv sa a)), (oz 1 (sv sb b)), (oz 1 (((sv sa a)).natAbs : Int)), (oz 1 ((sv sa a) * (sgnI (sv sa a)) + (sv sb b) * 0))] Q1 := by
          subst ho; subst hq; subst hF; refine ja_nil (by kernel_rfl) ?_; refine jc_seq ?_; refine jc_seq ?_; refine jc_H (H' := [(ob sa a), (ob sb b), (oc 1 sa a), (oc 1 sb b), ⟨28, 2, 0, true, [.b false, .n false .u64 (lm (sv sa a))]⟩, (ow 0 false (sgnI (sv sa a))), ⟨28, 2, 0, true, [.b false, .n false .u64 []]⟩, ⟨28, 2, 0, true, [.b false, .n false .u64 []]⟩, (oz 1 (sv sa a)), (oz 1 (sv sb b)), (oz 1 (((sv sa a)).natAbs : Int)), (oz 1 ((sv sa a) * (sgnI (sv sa a)) + (sv sb b) * 0))]) rfl ?_; refine jc_region ?_; refine jo_l (ly_lda agg35 rfl rfl rfl rfl) (hd 83 rfl) ?_; refine jo_l (ly_lda agg35 rfl rfl rfl rfl) (hd 84 rfl) ?_
          refine jo_call Try.f22 (ZCmp_s ((sv sa a) * (sgnI (sv sa a)) + (sv sb b) * 0) (((sv sa a)).natAbs : Int) (by omega) (by omega)) rfl Try.func22 rfl rfl (ovL_cons rfl (ovL_cons rfl ovL_nil)) (.cons (.a1 .b (.a1 .n .a0)) (.cons (.a1 .b (.a1 .n .a0)) .nil)) (hd 85 rfl) ?_ (fun ch hp => by simp at hp)
          rintro y hy; injection hy with hy; subst hy; refine jo_l (ly_ff (ly_ne rfl rfl) (fun h => h (cmpI_0.2 hsu))) (hd 86 rfl) ?_; refine jo_l (ly_mv rfl) (hd 87 rfl) ?_; refine jo_g 87 rfl rfl (ly_fa fld35_0 rfl rfl rfl) (hd 88 rfl) ?_; refine jo_g 87 rfl rfl (ly_ff (ly_ld one4 rfl rfl rfl) (by omega)) (hd 89 rfl) ?_; refine jo_l (ly_pick_f rfl rfl) (hd 90 rfl) ?_; refine jo_nil ?_; refine jc_litf rfl ?_; refine jc_skip ?_; refine jc_seq ?_; refine jc_seq ?_; refine jc_region ?_; refine jo_l (ly_lda agg35 rfl rfl rfl rfl) (hd 91 rfl) ?_
          refine jo_call Try.f23 (ZSign_s (((sv sa a)).natAbs : Int)) rfl Try.func23 rfl rfl (ovL_cons rfl ovL_nil) (.cons (.a1 .b (.a1 .n .a0)) .nil) (hd 92 rfl) ?_ (fun ch hp => by simp at hp)
          rintro y hy; injection hy with hy; subst hy; refine jo_l (ly_eq rfl rfl) (hd 93 rfl) ?_; refine jo_nil ?_
          refine jc_if rfl (fun h3 => ?_) (fun h3 => ?_)
          · have hv0 : (sv sa a) = 0 := by have := sgnI_0.1 h3; omega
            refine jc_seq ?_; refine jc_region ?_; refine jo_l (ly_lda agg35 rfl rfl rfl rfl) (hd 94 rfl) ?_
            refine jo_call Try.f23 (ZSign_s (sv sa a)) rfl Try.func23 rfl rfl (ovL_cons rfl ovL_nil) (.cons (.a1 .b (.a1 .n .a0)) .nil) (hd 95 rfl) ?_ (fun ch hp => by simp at hp)
            rintro y hy; injection hy with hy; subst hy; refine jo_l (ly_tt (ly_eq rfl rfl) (sgnI_0.2 hv0)) (hd 96 rfl) ?_; refine jo_l (ly_mv rfl) (hd 97 rfl) ?_; refine jo_g 97 rfl rfl (ly_lda agg35 rfl rfl rfl rfl) (hd 98 rfl) ?_
            refine jo_callg Try.f23 97 rfl rfl (ZSign_s (sv sb b)) rfl Try.func23 rfl rfl (ovL_cons rfl ovL_nil) (.cons (.a1 .b (.a1 .n .a0)) .nil) (hd 99 rfl) ?_ (fun ch hp => by simp at hp)
            rintro y hy; injection hy with hy; subst hy; refine jo_g 97 rfl rfl (ly_tt (ly_eq rfl rfl) (sgnI_0.2 h0)) (hd 100 rfl) ?_; refine jo_l (ly_pick_t rfl rfl) (hd 101 rfl) ?_; refine jo_l (ly_mv rfl) (hd 102 rfl) ?_
            refine jo_callg Try.f8 102 rfl rfl (awake_s) rfl Try.func8 rfl rfl ovL_nil .nil (hd 103 rfl) ?_ (fun ch hp => by simp at hp)
            rintro y hy; injection hy with hy; subst hy; refine jo_l (ly_pick_t rfl rfl) (hd 104 rfl) ?_; refine jo_l (ly_as rfl) (hd 4 rfl) ?_; refine jo_nil ?_; refine jc_ret ?_
            refine ⟨_, _, (.cons rfl .nil), .b, ?_⟩
            exact rfl
          · have hv0 : (sv sa a) ≠ 0 := fun e => h3 (sgnI_0.2 (by omega))
            have hfa := flo_exact (v := (sv sa a)) (g := (((sv sa a)).natAbs : Int)) (by omega) (Int.natAbs_dvd.2 (Int.dvd_refl _))
            have hfb := flo_exact (v := (sv sb b)) (g := (((sv sa a)).natAbs : Int)) (by omega) (by rw [h0]; exact Int.dvd_zero _)
            refine jc_skip ?_; refine jc_seq ?_; refine jc_region ?_; refine jo_l (ly_lda agg35 rfl rfl rfl rfl) (hd 106 rfl) ?_; refine jo_l (ly_lda agg35 rfl rfl rfl rfl) (hd 107 rfl) ?_
            refine jo_call Try.f24 (rFloor_s (sv sa a) (((sv sa a)).natAbs : Int) (by omega) (by omega) (by omega)) rfl Try.func24 rfl rfl (ovL_cons rfl (ovL_cons rfl ovL_nil)) (.cons (.a1 .b (.a1 .n .a0)) (.cons (.a1 .b (.a1 .n .a0)) .nil)) (hd 108 rfl) ?_ (fun ch hp => by simp at hp)
            rintro y hy; injection hy with hy; subst hy; refine jo_l (ly_mv rfl) (hd 105 rfl) ?_; refine jo_l (ly_ext rfl rfl) (hd 109 rfl) ?_; refine jo_l (ly_ext rfl rfl) (hd 110 rfl) ?_; refine jo_h (hy_alloc (id := 12) zero35 (by decide) rfl (by decide) rfl) (hd 17 rfl) ?_; refine jo_h (hy_alloc (id := 13) zero35 (by decide) rfl (by decide) rfl) (hd 18 rfl) ?_; refine jo_st (sy_store rfl rfl rfl siz35 rfl rfl (Nat.le_of_ble_eq_true rfl)) ?_; refine jo_st (sy_store rfl rfl rfl siz35 rfl rfl (Nat.le_of_ble_eq_true rfl)) ?_; refine jo_nil ?_; refine jc_seq ?_; refine jc_H (H' := [(ob sa a), (ob sb b), (oc 1 sa a), (oc 1 sb b), ⟨28, 2, 0, true, [.b false, .n false .u64 (lm (sv sa a))]⟩, (ow 0 false (sgnI (sv sa a))), ⟨28, 2, 0, true, [.b false, .n false .u64 []]⟩, ⟨28, 2, 0, true, [.b false, .n false .u64 []]⟩, (oz 1 (sv sa a)), (oz 1 (sv sb b)), (oz 1 (((sv sa a)).natAbs : Int)), (oz 1 ((sv sa a) * (sgnI (sv sa a)) + (sv sb b) * 0)), (oz 0 (flo (sv sa a) (((sv sa a)).natAbs : Int))), (oz 0 ((sv sa a) - flo (sv sa a) (((sv sa a)).natAbs : Int) * (((sv sa a)).natAbs : Int)))]) rfl ?_; refine jc_region ?_; refine jo_l (ly_lda agg35 rfl rfl rfl rfl) (hd 112 rfl) ?_; refine jo_l (ly_lda agg35 rfl rfl rfl rfl) (hd 113 rfl) ?_
            refine jo_call Try.f24 (rFloor_s (sv sb b) (((sv sa a)).natAbs : Int) (by omega) (by omega) (by omega)) rfl Try.func24 rfl rfl (ovL_cons rfl (ovL_cons rfl ovL_nil)) (.cons (.a1 .b (.a1 .n .a0)) (.cons (.a1 .b (.a1 .n .a0)) .nil)) (hd 114 rfl) ?_ (fun ch hp => by simp at hp)
            rintro y hy; injection hy with hy; subst hy; refine jo_l (ly_mv rfl) (hd 111 rfl) ?_; refine jo_l (ly_ext rfl rfl) (hd 115 rfl) ?_; refine jo_l (ly_ext rfl rfl) (hd 116 rfl) ?_; refine jo_h (hy_alloc (id := 14) zero35 (by decide) rfl (by decide) rfl) (hd 19 rfl) ?_; refine jo_h (hy_alloc (id := 15) zero35 (by decide) rfl (by decide) rfl) (hd 20 rfl) ?_; refine jo_st (sy_store rfl rfl rfl siz35 rfl rfl (Nat.le_of_ble_eq_true rfl)) ?_; refine jo_st (sy_store rfl rfl rfl siz35 rfl rfl (Nat.le_of_ble_eq_true rfl)) ?_; refine jo_nil ?_; refine jc_seq ?_; refine jc_seq ?_; refine jc_H (H' := [(ob sa a), (ob sb b), (oc 1 sa a), (oc 1 sb b), ⟨28, 2, 0, true, [.b false, .n false .u64 (lm (sv sa a))]⟩, (ow 0 false (sgnI (sv sa a))), ⟨28, 2, 0, true, [.b false, .n false .u64 []]⟩, ⟨28, 2, 0, true, [.b false, .n false .u64 []]⟩, (oz 1 (sv sa a)), (oz 1 (sv sb b)), (oz 1 (((sv sa a)).natAbs : Int)), (oz 1 ((sv sa a) * (sgnI (sv sa a)) + (sv sb b) * 0)), (oz 0 (flo (sv sa a) (((sv sa a)).natAbs : Int))), (oz 0 ((sv sa a) - flo (sv sa a) (((sv sa a)).natAbs : Int) * (((sv sa a)).natAbs : Int))), (oz 0 (flo (sv sb b) (((sv sa a)).natAbs : Int))), (oz 0 ((sv sb b) - flo (sv sb b) (((sv sa a)).natAbs : Int) * (((sv sa a)).natAbs : Int)))]) rfl ?_; refine jc_region ?_; refine jo_l (ly_lda agg35 rfl rfl rfl rfl) (hd 117 rfl) ?_
            refine jo_call Try.f23 (ZSign_s ((sv sa a) - flo (sv sa a) (((sv sa a)).natAbs : Int) * (((sv sa a)).natAbs : Int))) rfl Try.func23 rfl rfl (ovL_cons rfl ovL_nil) (.cons (.a1 .b (.a1 .n .a0)) .nil) (hd 118 rfl) ?_ (fun ch hp => by simp at hp)
            rintro y hy; injection hy with hy; subst hy; refine jo_l (ly_ff (ly_ne rfl rfl) (fun h => h (sgnI_0.2 hfa))) (hd 119 rfl) ?_; refine jo_l (ly_mv rfl) (hd 120 rfl) ?_; refine jo_g 120 rfl rfl (ly_lda agg35 rfl rfl rfl rfl) (hd 121 rfl) ?_
            refine jo_callg Try.f23 120 rfl rfl (ZSign_s ((sv sb b) - flo (sv sb b) (((sv sa a)).natAbs : Int) * (((sv sa a)).natAbs : Int))) rfl Try.func23 rfl rfl (ovL_cons rfl ovL_nil) (.cons (.a1 .b (.a1 .n .a0)) .nil) (hd 122 rfl) ?_ (fun ch hp => by simp at hp)
            rintro y hy; injection hy with hy; subst hy; refine jo_g 120 rfl rfl (ly_ff (ly_ne rfl rfl) (fun h => h (sgnI_0.2 hfb))) (hd 123 rfl) ?_; refine jo_l (ly_pick_f rfl rfl) (hd 124 rfl) ?_; refine jo_nil ?_; refine jc_litf rfl ?_; refine jc_skip ?_; refine jc_seq ?_; refine jc_seq ?_; refine jc_region ?_; refine jo_l (ly_lda agg35 rfl rfl rfl rfl) (hd 125 rfl) ?_
            refine jo_call Try.f23 (ZSign_s (sv sb b)) rfl Try.func23 rfl rfl (ovL_cons rfl ovL_nil) (.cons (.a1 .b (.a1 .n .a0)) .nil) (hd 126 rfl) ?_ (fun ch hp => by simp at hp)
            rintro y hy; injection hy with hy; subst hy; refine jo_l (ly_tt (ly_eq rfl rfl) (sgnI_0.2 h0)) (hd 127 rfl) ?_; refine jo_l (ly_mv rfl) (hd 128 rfl) ?_; refine jo_s 128 rfl rfl rfl (hd 129 rfl) ?_; refine jo_s 128 rfl rfl rfl (hd 130 rfl) ?_; refine jo_s 128 rfl rfl rfl (hd 131 rfl) ?_; refine jo_s 128 rfl rfl rfl (hd 132 rfl) ?_; refine jo_l (ly_pick_t rfl rfl) (hd 133 rfl) ?_; refine jo_nil ?_; refine jc_litt rfl ?_; refine jc_seq ?_; refine jc_region ?_; refine jo_l (ly_mv rfl) (hd 134 rfl) ?_
            refine jo_call Try.f13 (num_s 30) rfl Try.func13 rfl rfl (ovL_cons rfl ovL_nil) (.cons .i .nil) (hd 135 rfl) ?_ (fun ch hp => by simp at hp)
            rintro y hy; injection hy with hy; subst hy; refine jo_l (ly_tt (ly_ne rfl rfl) (by decide)) (hd 136 rfl) ?_; refine jo_l (ly_mv rfl) (hd 137 rfl) ?_
            refine jo_callg Try.f8 137 rfl rfl (awake_s) rfl Try.func8 rfl rfl ovL_nil .nil (hd 138 rfl) ?_ (fun ch hp => by simp at hp)
            rintro y hy; injection hy with hy; subst hy; refine jo_l (ly_pick_t rfl rfl) (hd 139 rfl) ?_; refine jo_l (ly_as rfl) (hd 4 rfl) ?_; refine jo_nil ?_; refine jc_ret ?_
            refine ⟨_, _, (.cons rfl .nil), .b, ?_⟩
            exact rfl
        have S7_1 : JA Try.prog ops1 1 #[true, true, true, true, true, true, true, true, true, true, true, true, true, true, true, true, false] Γ ([(16, .p 11 1 0), (68, (zz (sv sa a))), (69, .p 5 0 0), (70, .b (decide ((sgnI (sv sa a)) < 0))), (71, .p 5 0 1), (72, .n false .u64 (lm (sgnI (sv sa a)))), (73, (zz (sgnI (sv sa a)))), (74, (zz ((sv sa a) * (sgnI (sv sa a))))), (75, (zz (sv sb b))), (76, .p 6 0 0), (77, .b false), (78, .p 6 0 1), (79, .n false .u64 []), (80, (zz 0)), (81, (zz ((sv sb b) * 0))), (82, (zz ((sv sa a) * (sgnI (sv sa a)) + (sv sb b) * 0)))] ++ F0) [(ob sa a), (ob sb b), (oc 1 sa a), (oc 1 sb b), ⟨28, 2, 0, true, [.b false, .n false .u64 (lm (sv sa a))]⟩, (ow 0 false (sgnI (sv sa a))), ⟨28, 2, 0, true, [.b false, .n false .u64 []]⟩, ⟨28, 2, 0, true, [.b false, .n false .u64 []]⟩, (oz 1 (sv sa a)), (oz 1 (sv sb b)), (oz 1 (((sv sa a)).natAbs : Int)), oe] Q1 := by
          subst ho; subst hF
          refine ja_1 16 ?_ rfl (by kernel_rfl)
          refine js_st (sy_store rfl rfl rfl siz35 rfl rfl (Nat.le_of_ble_eq_true rfl)) rfl ?_
          refine ja_t3 S7_0 16 (.c5 rfl rfl rfl rfl rfl (.c5 rfl rfl rfl rfl rfl (.c5 rfl rfl rfl rfl rfl (.cons rfl .nil))))
        have S7_2 : JA Try.prog ops1 2 #[true, true, true, true, true, true, true, true, true, true, true, true, true, true, true, false, false] Γ ([(68, (zz (sv sa a))), (69, .p 5 0 0), (70, .b (decide ((sgnI (sv sa a)) < 0))), (71, .p 5 0 1), (72, .n false .u64 (lm (sgnI (sv sa a)))), (73, (zz (sgnI (sv sa a)))), (74, (zz ((sv sa a) * (sgnI (sv sa a))))), (75, (zz (sv sb b))), (76, .p 6 0 0), (77, .b false), (78, .p 6 0 1), (79, .n false .u64 []), (80, (zz 0)), (81, (zz ((sv sb b) * 0))), (82, (zz ((sv sa a) * (sgnI (sv sa a)) + (sv sb b) * 0)))] ++ F0) [(ob sa a), (ob sb b), (oc 1 sa a), (oc 1 sb b), ⟨28, 2, 0, true, [.b false, .n false .u64 (lm (sv sa a))]⟩, (ow 0 false (sgnI (sv sa a))), ⟨28, 2, 0, true, [.b false, .n false .u64 []]⟩, ⟨28, 2, 0, true, [.b false, .n false .u64 []]⟩, (oz 1 (sv sa a)), (oz 1 (sv sb b)), (oz 1 (((sv sa a)).natAbs : Int)), oh] Q1 := by
          subst ho; subst hF
          refine ja_1 15 ?_ rfl (by kernel_rfl)
          refine js_h (hy_allocAt (id := 11) zero35 (by decide) rfl (by decide) rfl) (hd 16 rfl) ?_
          refine ja_t3 S7_1 16 (.c5 rfl rfl rfl rfl rfl (.c5 rfl rfl rfl rfl rfl (.c5 rfl rfl rfl rfl rfl (.cons rfl .nil))))
        have S7_3 : JA Try.prog ops1 2 #[true, true, true, true, true, true, true, true, true, true, true, true, true, true, false, true, false] Γ ([(16, .p 11 1 0), (68, (zz (sv sa a))), (69, .p 5 0 0), (70, .b (decide ((sgnI (sv sa a)) < 0))), (71, .p 5 0 1), (72, .n false .u64 (lm (sgnI (sv sa a)))), (73, (zz (sgnI (sv sa a)))), (74, (zz ((sv sa a) * (sgnI (sv sa a))))), (75, (zz (sv sb b))), (76, .p 6 0 0), (77, .b false), (78, .p 6 0 1), (79, .n false .u64 []), (80, (zz 0)), (81, (zz ((sv sb b) * 0)))] ++ F0) [(ob sa a), (ob sb b), (oc 1 sa a), (oc 1 sb b), ⟨28, 2, 0, true, [.b false, .n false .u64 (lm (sv sa a))]⟩, (ow 0 false (sgnI (sv sa a))), ⟨28, 2, 0, true, [.b false, .n false .u64 []]⟩, ⟨28, 2, 0, true, [.b false, .n false .u64 []]⟩, (oz 1 (sv sa a)), (oz 1 (sv sb b)), (oz 1 (((sv sa a)).natAbs : Int)), oe] Q1 := by
          subst ho; subst hF
          refine ja_1 14 ?_ rfl (by kernel_rfl)
          refine js_call Try.f20 (ZAdd_s ((sv sa a) * (sgnI (sv sa a))) ((sv sb b) * 0) (by omega) (by omega)) rfl Try.func20 rfl rfl (ovL_cons rfl (ovL_cons rfl ovL_nil)) (.cons (.a1 .b (.a1 .n .a0)) (.cons (.a1 .b (.a1 .n .a0)) .nil)) (hd 82 rfl) ?_ (fun ch hp => by simp at hp)
          rintro y hy; injection hy with hy; subst hy
          refine ja_t3 S7_1 16 (.c5 rfl rfl rfl rfl rfl (.c5 rfl rfl rfl rfl rfl (.c5 rfl rfl rfl rfl rfl (.cons rfl .nil))))
        have S7_4 : JA Try.prog ops1 3 #[true, true, true, true, true, true, true, true, true, true, true, true, true, true, false, false, false] Γ ([(68, (zz (sv sa a))), (69, .p 5 0 0), (70, .b (decide ((sgnI (sv sa a)) < 0))), (71, .p 5 0 1), (72, .n false .u64 (lm (sgnI (sv sa a)))), (73, (zz (sgnI (sv sa a)))), (74, (zz ((sv sa a) * (sgnI (sv sa a))))), (75, (zz (sv sb b))), (76, .p 6 0 0), (77, .b false), (78, .p 6 0 1), (79, .n false .u64 []), (80, (zz 0)), (81, (zz ((sv sb b) * 0)))] ++ F0) [(ob sa a), (ob sb b), (oc 1 sa a), (oc 1 sb b), ⟨28, 2, 0, true, [.b false, .n false .u64 (lm (sv sa a))]⟩, (ow 0 false (sgnI (sv sa a))), ⟨28, 2, 0, true, [.b false, .n false .u64 []]⟩, ⟨28, 2, 0, true, [.b false, .n false .u64 []]⟩, (oz 1 (sv sa a)), (oz 1 (sv sb b)), (oz 1 (((sv sa a)).natAbs : Int)), oh] Q1 := by
          subst ho; subst hF
          refine ja_2 14 15 ?_ ?_ rfl rfl (by kernel_rfl)
          · refine js_call Try.f20 (ZAdd_s ((sv sa a) * (sgnI (sv sa a))) ((sv sb b) * 0) (by omega) (by omega)) rfl Try.func20 rfl rfl (ovL_cons rfl (ovL_cons rfl ovL_nil)) (.cons (.a1 .b (.a1 .n .a0)) (.cons (.a1 .b (.a1 .n .a0)) .nil)) (hd 82 rfl) ?_ (fun ch hp => by simp at hp)
            rintro y hy; injection hy with hy; subst hy
            refine ja_t3 S7_2 15 (.c5 rfl rfl rfl rfl rfl (.c5 rfl rfl rfl rfl rfl (.c5 rfl rfl rfl rfl rfl .nil)))
          · refine js_h (hy_allocAt (id := 11) zero35 (by decide) rfl (by decide) rfl) (hd 16 rfl) ?_
            refine ja_t3 S7_3 15 (.c5 rfl rfl rfl rfl rfl (.c5 rfl rfl rfl rfl rfl (.c5 rfl rfl rfl rfl rfl .nil)))
        have S7_5 : JA Try.prog ops1 3 #[true, true, true, true, true, true, true, true, true, true, true, true, true, false, false, true, false] Γ ([(16, .p 11 1 0), (68, (zz (sv sa a))), (69, .p 5 0 0), (70, .b (decide ((sgnI (sv sa a)) < 0))), (71, .p 5 0 1), (72, .n false .u64 (lm (sgnI (sv sa a)))), (73, (zz (sgnI (sv sa a)))), (74, (zz ((sv sa a) * (sgnI (sv sa a))))), (75, (zz (sv sb b))), (76, .p 6 0 0), (77, .b false), (78, .p 6 0 1), (79, .n false .u64 []), (80, (zz 0))] ++ F0) [(ob sa a), (ob sb b), (oc 1 sa a), (oc 1 sb b), ⟨28, 2, 0, true, [.b false, .n false .u64 (lm (sv sa a))]⟩, (ow 0 false (sgnI (sv sa a))), ⟨28, 2, 0, true, [.b false, .n false .u64 []]⟩, ⟨28, 2, 0, true, [.b false, .n false .u64 []]⟩, (oz 1 (sv sa a)), (oz 1 (sv sb b)), (oz 1 (((sv sa a)).natAbs : Int)), oe] Q1 := by
          subst ho; subst hF
          refine ja_1 13 ?_ rfl (by kernel_rfl)
          refine js_call Try.f21 (ZMul_s (sv sb b) 0 (by omega) (by omega)) rfl Try.func21 rfl rfl (ovL_cons rfl (ovL_cons rfl ovL_nil)) (.cons (.a1 .b (.a1 .n .a0)) (.cons (.a1 .b (.a1 .n .a0)) .nil)) (hd 81 rfl) ?_ (fun ch hp => by simp at hp)
          rintro y hy; injection hy with hy; subst hy
          refine ja_t3 S7_3 15 (.c5 rfl rfl rfl rfl rfl (.c5 rfl rfl rfl rfl rfl (.c5 rfl rfl rfl rfl rfl .nil)))
        have S7_6 : JA Try.prog ops1 4 #[true, true, true, true, true, true, true, true, true, true, true, true, true, false, false, false, false] Γ ([(68, (zz (sv sa a))), (69, .p 5 0 0), (70, .b (decide ((sgnI (sv sa a)) < 0))), (71, .p 5 0 1), (72, .n false .u64 (lm (sgnI (sv sa a)))), (73, (zz (sgnI (sv sa a)))), (74, (zz ((sv sa a) * (sgnI (sv sa a))))), (75, (zz (sv sb b))), (76, .p 6 0 0), (77, .b false), (78, .p 6 0 1), (79, .n false .u64 []), (80, (zz 0))] ++ F0) [(ob sa a), (ob sb b), (oc 1 sa a), (oc 1 sb b), ⟨28, 2, 0, true, [.b false, .n false .u64 (lm (sv sa a))]⟩, (ow 0 false (sgnI (sv sa a))), ⟨28, 2, 0, true, [.b false, .n false .u64 []]⟩, ⟨28, 2, 0, true, [.b false, .n false .u64 []]⟩, (oz 1 (sv sa a)), (oz 1 (sv sb b)), (oz 1 (((sv sa a)).natAbs : Int)), oh] Q1 := by
          subst ho; subst hF
          refine ja_2 13 15 ?_ ?_ rfl rfl (by kernel_rfl)
          · refine js_call Try.f21 (ZMul_s (sv sb b) 0 (by omega) (by omega)) rfl Try.func21 rfl rfl (ovL_cons rfl (ovL_cons rfl ovL_nil)) (.cons (.a1 .b (.a1 .n .a0)) (.cons (.a1 .b (.a1 .n .a0)) .nil)) (hd 81 rfl) ?_ (fun ch hp => by simp at hp)
            rintro y hy; injection hy with hy; subst hy
            refine ja_t3 S7_4 14 (.c5 rfl rfl rfl rfl rfl (.c5 rfl rfl rfl rfl rfl (.c2 rfl rfl (.c2 rfl rfl .nil))))
          · refine js_h (hy_allocAt (id := 11) zero35 (by decide) rfl (by decide) rfl) (hd 16 rfl) ?_
            refine ja_t3 S7_5 14 (.c5 rfl rfl rfl rfl rfl (.c5 rfl rfl rfl rfl rfl (.c2 rfl rfl (.c2 rfl rfl .nil))))
        have S7_7 : JA Try.prog ops1 4 #[true, true, true, true, true, true, true, true, true, true, true, true, false, false, false, true, false] Γ ([(16, .p 11 1 0), (68, (zz (sv sa a))), (69, .p 5 0 0), (70, .b (decide ((sgnI (sv sa a)) < 0))), (71, .p 5 0 1), (72, .n false .u64 (lm (sgnI (sv sa a)))), (73, (zz (sgnI (sv sa a)))), (74, (zz ((sv sa a) * (sgnI (sv sa a))))), (75, (zz (sv sb b))), (76, .p 6 0 0), (77, .b false), (78, .p 6 0 1), (79, .n false .u64 [])] ++ F0) [(ob sa a), (ob sb b), (oc 1 sa a), (oc 1 sb b), ⟨28, 2, 0, true, [.b false, .n false .u64 (lm (sv sa a))]⟩, (ow 0 false (sgnI (sv sa a))), ⟨28, 2, 0, true, [.b false, .n false .u64 []]⟩, ⟨28, 2, 0, true, [.b false, .n false .u64 []]⟩, (oz 1 (sv sa a)), (oz 1 (sv sb b)), (oz 1 (((sv sa a)).natAbs : Int)), oe] Q1 := by
          subst ho; subst hF
          refine ja_1 12 ?_ rfl (by kernel_rfl)
          refine js_call Try.f19 (hO0) rfl Try.func19 rfl rfl (ovL_cons rfl (ovL_cons rfl ovL_nil)) (.cons .b (.cons .n .nil)) (hd 80 rfl) ?_ (fun ch hp => by simp at hp)
          rintro y hy; injection hy with hy; subst hy
          refine ja_t3 S7_5 14 (.c5 rfl rfl rfl rfl rfl (.c5 rfl rfl rfl rfl rfl (.c2 rfl rfl (.c2 rfl rfl .nil))))
        have S7_8 : JA Try.prog ops1 5 #[true, true, true, true, true, true, true, true, true, true, true, true, false, false, false, false, false] Γ ([(68, (zz (sv sa a))), (69, .p 5 0 0), (70, .b (decide ((sgnI (sv sa a)) < 0))), (71, .p 5 0 1), (72, .n false .u64 (lm (sgnI (sv sa a)))), (73, (zz (sgnI (sv sa a)))), (74, (zz ((sv sa a) * (sgnI (sv sa a))))), (75, (zz (sv sb b))), (76, .p 6 0 0), (77, .b false), (78, .p 6 0 1), (79, .n false .u64 [])] ++ F0) [(ob sa a), (ob sb b), (oc 1 sa a), (oc 1 sb b), ⟨28, 2, 0, true, [.b false, .n false .u64 (lm (sv sa a))]⟩, (ow 0 false (sgnI (sv sa a))), ⟨28, 2, 0, true, [.b false, .n false .u64 []]⟩, ⟨28, 2, 0, true, [.b false, .n false .u64 []]⟩, (oz 1 (sv sa a)), (oz 1 (sv sb b)), (oz 1 (((sv sa a)).natAbs : Int)), oh] Q1 := by
          subst ho; subst hF
          refine ja_2 12 15 ?_ ?_ rfl rfl (by kernel_rfl)
          · refine js_call Try.f19 (hO0) rfl Try.func19 rfl rfl (ovL_cons rfl (ovL_cons rfl ovL_nil)) (.cons .b (.cons .n .nil)) (hd 80 rfl) ?_ (fun ch hp => by simp at hp)
            rintro y hy; injection hy with hy; subst hy
            refine ja_t3 S7_6 13 (.c5 rfl rfl rfl rfl rfl (.c5 rfl rfl rfl rfl rfl (.c2 rfl rfl (.cons rfl .nil))))
          · refine js_h (hy_allocAt (id := 11) zero35 (by decide) rfl (by decide) rfl) (hd 16 rfl) ?_
            refine ja_t3 S7_7 13 (.c5 rfl rfl rfl rfl rfl (.c5 rfl rfl rfl rfl rfl (.c2 rfl rfl (.cons rfl .nil))))
        have S7_9 : JA Try.prog ops1 5 #[true, true, true, true, true, true, false, true, true, true, true, true, false, false, false, true, false] Γ ([(16, .p 11 1 0), (68, (zz (sv sa a))), (69, .p 5 0 0), (70, .b (decide ((sgnI (sv sa a)) < 0))), (71, .p 5 0 1), (72, .n false .u64 (lm (sgnI (sv sa a)))), (73, (zz (sgnI (sv sa a)))), (75, (zz (sv sb b))), (76, .p 6 0 0), (77, .b false), (78, .p 6 0 1), (79, .n false .u64 [])] ++ F0) [(ob sa a), (ob sb b), (oc 1 sa a), (oc 1 sb b), ⟨28, 2, 0, true, [.b false, .n false .u64 (lm (sv sa a))]⟩, (ow 0 false (sgnI (sv sa a))), ⟨28, 2, 0, true, [.b false, .n false .u64 []]⟩, ⟨28, 2, 0, true, [.b false, .n false .u64 []]⟩, (oz 1 (sv sa a)), (oz 1 (sv sb b)), (oz 1 (((sv sa a)).natAbs : Int)), oe] Q1 := by
          subst ho; subst hF
          refine ja_1 6 ?_ rfl (by kernel_rfl)
          refine js_call Try.f21 (ZMul_s (sv sa a) (sgnI (sv sa a)) (by omega) (by omega)) rfl Try.func21 rfl rfl (ovL_cons rfl (ovL_cons rfl ovL_nil)) (.cons (.a1 .b (.a1 .n .a0)) (.cons (.a1 .b (.a1 .n .a0)) .nil)) (hd 74 rfl) ?_ (fun ch hp => by simp at hp)
          rintro y hy; injection hy with hy; subst hy
          refine ja_t3 S7_7 13 (.c5 rfl rfl rfl rfl rfl (.c5 rfl rfl rfl rfl rfl (.c2 rfl rfl (.cons rfl .nil))))
        have S7_10 : JA Try.prog ops1 6 #[true, true, true, true, true, true, false, true, true, true, true, true, false, false, false, false, false] Γ ([(68, (zz (sv sa a))), (69, .p 5 0 0), (70, .b (decide ((sgnI (sv sa a)) < 0))), (71, .p 5 0 1), (72, .n false .u64 (lm (sgnI (sv sa a)))), (73, (zz (sgnI (sv sa a)))), (75, (zz (sv sb b))), (76, .p 6 0 0), (77, .b false), (78, .p 6 0 1), (79, .n false .u64 [])] ++ F0) [(ob sa a), (ob sb b), (oc 1 sa a), (oc 1 sb b), ⟨28, 2, 0, true, [.b false, .n false .u64 (lm (sv sa a))]⟩, (ow 0 false (sgnI (sv sa a))), ⟨28, 2, 0, true, [.b false, .n false .u64 []]⟩, ⟨28, 2, 0, true, [.b false, .n false .u64 []]⟩, (oz 1 (sv sa a)), (oz 1 (sv sb b)), (oz 1 (((sv sa a)).natAbs : Int)), oh] Q1 := by
          subst ho; subst hF
          refine ja_2 6 15 ?_ ?_ rfl rfl (by kernel_rfl)
          · refine js_call Try.f21 (ZMul_s (sv sa a) (sgnI (sv sa a)) (by omega) (by omega)) rfl Try.func21 rfl rfl (ovL_cons rfl (ovL_cons rfl ovL_nil)) (.cons (.a1 .b (.a1 .n .a0)) (.cons (.a1 .b (.a1 .n .a0)) .nil)) (hd 74 rfl) ?_ (fun ch hp => by simp at hp)
            rintro y hy; injection hy with hy; subst hy
            refine ja_t3 S7_8 12 (.c5 rfl rfl rfl rfl rfl (.c5 rfl rfl rfl rfl rfl (.c2 rfl rfl .nil)))
          · refine js_h (hy_allocAt (id := 11) zero35 (by decide) rfl (by decide) rfl) (hd 16 rfl) ?_
            refine ja_t3 S7_9 12 (.c5 rfl rfl rfl rfl rfl (.c5 rfl rfl rfl rfl rfl (.c2 rfl rfl .nil)))
        have S7_11 : JA Try.prog ops1 6 #[true, true, true, true, true, false, false, true, true, true, true, true, false, false, false, true, false] Γ ([(16, .p 11 1 0), (68, (zz (sv sa a))), (69, .p 5 0 0), (70, .b (decide ((sgnI (sv sa a)) < 0))), (71, .p 5 0 1), (72, .n false .u64 (lm (sgnI (sv sa a)))), (75, (zz (sv sb b))), (76, .p 6 0 0), (77, .b false), (78, .p 6 0 1), (79, .n false .u64 [])] ++ F0) [(ob sa a), (ob sb b), (oc 1 sa a), (oc 1 sb b), ⟨28, 2, 0, true, [.b false, .n false .u64 (lm (sv sa a))]⟩, (ow 0 false (sgnI (sv sa a))), ⟨28, 2, 0, true, [.b false, .n false .u64 []]⟩, ⟨28, 2, 0, true, [.b false, .n false .u64 []]⟩, (oz 1 (sv sa a)), (oz 1 (sv sb b)), (oz 1 (((sv sa a)).natAbs : Int)), oe] Q1 := by
          subst ho; subst hF
          refine ja_1 5 ?_ rfl (by kernel_rfl)
          refine js_call Try.f19 (ZOf_v (sgnI (sv sa a)) (by omega)) rfl Try.func19 rfl rfl (ovL_cons rfl (ovL_cons rfl ovL_nil)) (.cons .b (.cons .n .nil)) (hd 73 rfl) ?_ (fun ch hp => by simp at hp)
          rintro y hy; injection hy with hy; subst hy
          refine ja_t3 S7_9 12 (.c5 rfl rfl rfl rfl rfl (.c5 rfl rfl rfl rfl rfl (.c2 rfl rfl .nil)))
        have S7_12 : JA Try.prog ops1 7 #[true, true, true, true, true, false, false, true, true, true, true, true, false, false, false, false, false] Γ ([(68, (zz (sv sa a))), (69, .p 5 0 0), (70, .b (decide ((sgnI (sv sa a)) < 0))), (71, .p 5 0 1), (72, .n false .u64 (lm (sgnI (sv sa a)))), (75, (zz (sv sb b))), (76, .p 6 0 0), (77, .b false), (78, .p 6 0 1), (79, .n false .u64 [])] ++ F0) [(ob sa a), (ob sb b), (oc 1 sa a), (oc 1 sb b), ⟨28, 2, 0, true, [.b false, .n false .u64 (lm (sv sa a))]⟩, (ow 0 false (sgnI (sv sa a))), ⟨28, 2, 0, true, [.b false, .n false .u64 []]⟩, ⟨28, 2, 0, true, [.b false, .n false .u64 []]⟩, (oz 1 (sv sa a)), (oz 1 (sv sb b)), (oz 1 (((sv sa a)).natAbs : Int)), oh] Q1 := by
          subst ho; subst hF
          refine ja_2 5 15 ?_ ?_ rfl rfl (by kernel_rfl)
          · refine js_call Try.f19 (ZOf_v (sgnI (sv sa a)) (by omega)) rfl Try.func19 rfl rfl (ovL_cons rfl (ovL_cons rfl ovL_nil)) (.cons .b (.cons .n .nil)) (hd 73 rfl) ?_ (fun ch hp => by simp at hp)
            rintro y hy; injection hy with hy; subst hy
            refine ja_t3 S7_10 11 (.c5 rfl rfl rfl rfl rfl (.c5 rfl rfl rfl rfl rfl (.cons rfl .nil)))
          · refine js_h (hy_allocAt (id := 11) zero35 (by decide) rfl (by decide) rfl) (hd 16 rfl) ?_
            refine ja_t3 S7_11 11 (.c5 rfl rfl rfl rfl rfl (.c5 rfl rfl rfl rfl rfl (.cons rfl .nil)))
        have S7_13 : JA Try.prog ops1 8 #[true, true, true, true, true, false, false, true, true, true, true, false, false, false, false, false, false] Γ ([(68, (zz (sv sa a))), (69, .p 5 0 0), (70, .b (decide ((sgnI (sv sa a)) < 0))), (71, .p 5 0 1), (72, .n false .u64 (lm (sgnI (sv sa a)))), (75, (zz (sv sb b))), (76, .p 6 0 0), (77, .b false), (78, .p 6 0 1)] ++ F0) [(ob sa a), (ob sb b), (oc 1 sa a), (oc 1 sb b), ⟨28, 2, 0, true, [.b false, .n false .u64 (lm (sv sa a))]⟩, (ow 0 false (sgnI (sv sa a))), ⟨28, 2, 0, true, [.b false, .n false .u64 []]⟩, ⟨28, 2, 0, true, [.b false, .n false .u64 []]⟩, (oz 1 (sv sa a)), (oz 1 (sv sb b)), (oz 1 (((sv sa a)).natAbs : Int)), oh] Q1 := by
          subst ho; subst hF; refine ja_l2 11 [12, 13, 14, 16] (lo_l (ly_ld one28 rfl rfl rfl) (hd 79 rfl)) rfl (by kernel_rfl) (by kernel_rfl) (by kernel_rfl) (by kernel_rfl) hpan ?_
          refine ja_t3 S7_12 10 (.c5 rfl rfl rfl rfl rfl (.c5 rfl rfl rfl rfl rfl .nil))
        have S7_14 : JA Try.prog ops1 9 #[true, true, true, true, true, false, false, true, true, true, false, false, false, false, false, false, false] Γ ([(68, (zz (sv sa a))), (69, .p 5 0 0), (70, .b (decide ((sgnI (sv sa a)) < 0))), (71, .p 5 0 1), (72, .n false .u64 (lm (sgnI (sv sa a)))), (75, (zz (sv sb b))), (76, .p 6 0 0), (77, .b false)] ++ F0) [(ob sa a), (ob sb b), (oc 1 sa a), (oc 1 sb b), ⟨28, 2, 0, true, [.b false, .n false .u64 (lm (sv sa a))]⟩, (ow 0 false (sgnI (sv sa a))), ⟨28, 2, 0, true, [.b false, .n false .u64 []]⟩, ⟨28, 2, 0, true, [.b false, .n false .u64 []]⟩, (oz 1 (sv sa a)), (oz 1 (sv sb b)), (oz 1 (((sv sa a)).natAbs : Int)), oh] Q1 := by
          subst ho; subst hF; refine ja_l2 10 [11, 12, 13, 14, 16] (lo_l (ly_fa fld30_1 rfl rfl rfl) (hd 78 rfl)) rfl (by kernel_rfl) (by kernel_rfl) (by kernel_rfl) (by kernel_rfl) hpan ?_
          refine ja_t3 S7_13 9 (.c5 rfl rfl rfl rfl rfl (.c2 rfl rfl (.c2 rfl rfl .nil)))
        have S7_15 : JA Try.prog ops1 10 #[true, true, true, true, true, false, false, true, true, false, false, false, false, false, false, false, false] Γ ([(68, (zz (sv sa a))), (69, .p 5 0 0), (70, .b (decide ((sgnI (sv sa a)) < 0))), (71, .p 5 0 1), (72, .n false .u64 (lm (sgnI (sv sa a)))), (75, (zz (sv sb b))), (76, .p 6 0 0)] ++ F0) [(ob sa a), (ob sb b), (oc 1 sa a), (oc 1 sb b), ⟨28, 2, 0, true, [.b false, .n false .u64 (lm (sv sa a))]⟩, (ow 0 false (sgnI (sv sa a))), ⟨28, 2, 0, true, [.b false, .n false .u64 []]⟩, ⟨28, 2, 0, true, [.b false, .n false .u64 []]⟩, (oz 1 (sv sa a)), (oz 1 (sv sb b)), (oz 1 (((sv sa a)).natAbs : Int)), oh] Q1 := by
          subst ho; subst hF; refine ja_l2 9 [12, 13, 14, 16] (lo_l (ly_ld one4 rfl rfl rfl) (hd 77 rfl)) rfl (by kernel_rfl) (by kernel_rfl) (by kernel_rfl) (by kernel_rfl) hpan ?_
          refine ja_t3 S7_14 8 (.c5 rfl rfl rfl rfl rfl (.c2 rfl rfl (.cons rfl .nil)))
        have S7_16 : JA Try.prog ops1 11 #[true, true, true, true, true, false, false, true, false, false, false, false, false, false, false, false, false] Γ ([(68, (zz (sv sa a))), (69, .p 5 0 0), (70, .b (decide ((sgnI (sv sa a)) < 0))), (71, .p 5 0 1), (72, .n false .u64 (lm (sgnI (sv sa a)))), (75, (zz (sv sb b)))] ++ F0) [(ob sa a), (ob sb b), (oc 1 sa a), (oc 1 sb b), ⟨28, 2, 0, true, [.b false, .n false .u64 (lm (sv sa a))]⟩, (ow 0 false (sgnI (sv sa a))), ⟨28, 2, 0, true, [.b false, .n false .u64 []]⟩, ⟨28, 2, 0, true, [.b false, .n false .u64 []]⟩, (oz 1 (sv sa a)), (oz 1 (sv sb b)), (oz 1 (((sv sa a)).natAbs : Int)), oh] Q1 := by
          subst ho; subst hF; refine ja_l2 8 [9, 12, 13, 14, 16] (lo_l (ly_fa fld30_0 rfl rfl rfl) (hd 76 rfl)) rfl (by kernel_rfl) (by kernel_rfl) (by kernel_rfl) (by kernel_rfl) hpan ?_
          refine ja_t3 S7_15 7 (.c5 rfl rfl rfl rfl rfl (.c2 rfl rfl .nil))
        have S7_17 : JA Try.prog ops1 12 #[true, true, true, true, true, false, false, false, false, false, false, false, false, false, false, false, false] Γ ([(68, (zz (sv sa a))), (69, .p 5 0 0), (70, .b (decide ((sgnI (sv sa a)) < 0))), (71, .p 5 0 1), (72, .n false .u64 (lm (sgnI (sv sa a))))] ++ F0) [(ob sa a), (ob sb b), (oc 1 sa a), (oc 1 sb b), ⟨28, 2, 0, true, [.b false, .n false .u64 (lm (sv sa a))]⟩, (ow 0 false (sgnI (sv sa a))), ⟨28, 2, 0, true, [.b false, .n false .u64 []]⟩, ⟨28, 2, 0, true, [.b false, .n false .u64 []]⟩, (oz 1 (sv sa a)), (oz 1 (sv sb b)), (oz 1 (((sv sa a)).natAbs : Int)), oh] Q1 := by
          subst ho; subst hF; refine ja_l2 7 [13, 14, 16] (lo_l (ly_lda agg35 rfl rfl rfl rfl) (hd 75 rfl)) rfl (by kernel_rfl) (by kernel_rfl) (by kernel_rfl) (by kernel_rfl) hpan ?_
          refine ja_t3 S7_16 6 (.c5 rfl rfl rfl rfl rfl (.cons rfl .nil))
        have S7_18 : JA Try.prog ops1 13 #[true, true, true, true, false, false, false, false, false, false, false, false, false, false, false, false, false] Γ ([(68, (zz (sv sa a))), (69, .p 5 0 0), (70, .b (decide ((sgnI (sv sa a)) < 0))), (71, .p 5 0 1)] ++ F0) [(ob sa a), (ob sb b), (oc 1 sa a), (oc 1 sb b), ⟨28, 2, 0, true, [.b false, .n false .u64 (lm (sv sa a))]⟩, (ow 0 false (sgnI (sv sa a))), ⟨28, 2, 0, true, [.b false, .n false .u64 []]⟩, ⟨28, 2, 0, true, [.b false, .n false .u64 []]⟩, (oz 1 (sv sa a)), (oz 1 (sv sb b)), (oz 1 (((sv sa a)).natAbs : Int)), oh] Q1 := by
          subst ho; subst hF; refine ja_l2 4 [5, 6, 12, 13, 14, 16] (lo_l (ly_ld one28 rfl rfl rfl) (hd 72 rfl)) rfl (by kernel_rfl) (by kernel_rfl) (by kernel_rfl) (by kernel_rfl) hpan ?_
          refine ja_t3 S7_17 5 (.c5 rfl rfl rfl rfl rfl .nil)
        have S7_19 : JA Try.prog ops1 14 #[true, true, true, false, false, false, false, false, false, false, false, false, false, false, false, false, false] Γ ([(68, (zz (sv sa a))), (69, .p 5 0 0), (70, .b (decide ((sgnI (sv sa a)) < 0)))] ++ F0) [(ob sa a), (ob sb b), (oc 1 sa a), (oc 1 sb b), ⟨28, 2, 0, true, [.b false, .n false .u64 (lm (sv sa a))]⟩, (ow 0 false (sgnI (sv sa a))), ⟨28, 2, 0, true, [.b false, .n false .u64 []]⟩, ⟨28, 2, 0, true, [.b false, .n false .u64 []]⟩, (oz 1 (sv sa a)), (oz 1 (sv sb b)), (oz 1 (((sv sa a)).natAbs : Int)), oh] Q1 := by
          subst ho; subst hF; refine ja_l2 3 [4, 5, 6, 12, 13, 14, 16] (lo_l (ly_fa fld30_1 rfl rfl rfl) (hd 71 rfl)) rfl (by kernel_rfl) (by kernel_rfl) (by kernel_rfl) (by kernel_rfl) hpan ?_
          refine ja_t3 S7_18 4 (.c2 rfl rfl (.c2 rfl rfl .nil))
        have S7_20 : JA Try.prog ops1 15 #[true, true, false, false, false, false, false, false, false, false, false, false, false, false, false, false, false] Γ ([(68, (zz (sv sa a))), (69, .p 5 0 0)] ++ F0) [(ob sa a), (ob sb b), (oc 1 sa a), (oc 1 sb b), ⟨28, 2, 0, true, [.b false, .n false .u64 (lm (sv sa a))]⟩, (ow 0 false (sgnI (sv sa a))), ⟨28, 2, 0, true, [.b false, .n false .u64 []]⟩, ⟨28, 2, 0, true, [.b false, .n false .u64 []]⟩, (oz 1 (sv sa a)), (oz 1 (sv sb b)), (oz 1 (((sv sa a)).natAbs : Int)), oh] Q1 := by
          subst ho; subst hF; refine ja_l2 2 [5, 6, 12, 13, 14, 16] (lo_l (ly_ld one4 rfl rfl rfl) (hd 70 rfl)) rfl (by kernel_rfl) (by kernel_rfl) (by kernel_rfl) (by kernel_rfl) hpan ?_
          refine ja_t3 S7_19 3 (.c2 rfl rfl (.cons rfl .nil))
        have S7_21 : JA Try.prog ops1 16 #[true, false, false, false, false, false, false, false, false, false, false, false, false, false, false, false, false] Γ ([(68, (zz (sv sa a)))] ++ F0) [(ob sa a), (ob sb b), (oc 1 sa a), (oc 1 sb b), ⟨28, 2, 0, true, [.b false, .n false .u64 (lm (sv sa a))]⟩, (ow 0 false (sgnI (sv sa a))), ⟨28, 2, 0, true, [.b false, .n false .u64 []]⟩, ⟨28, 2, 0, true, [.b false, .n false .u64 []]⟩, (oz 1 (sv sa a)), (oz 1 (sv sb b)), (oz 1 (((sv sa a)).natAbs : Int)), oh] Q1 := by
          subst ho; subst hF; refine ja_l2 1 [2, 5, 6, 12, 13, 14, 16] (lo_l (ly_fa fld30_0 rfl rfl rfl) (hd 69 rfl)) rfl (by kernel_rfl) (by kernel_rfl) (by kernel_rfl) (by kernel_rfl) hpan ?_
          refine ja_t3 S7_20 2 (.c2 rfl rfl .nil)
        have S7_22 : JA Try.prog ops1 17 #[false, false, false, false, false, false, false, false, false, false, false, false, false, false, false, false, false] Γ ([] ++ F0) [(ob sa a), (ob sb b), (oc 1 sa a), (oc 1 sb b), ⟨28, 2, 0, true, [.b false, .n false .u64 (lm (sv sa a))]⟩, (ow 0 false (sgnI (sv sa a))), ⟨28, 2, 0, true, [.b false, .n false .u64 []]⟩, ⟨28, 2, 0, true, [.b false, .n false .u64 []]⟩, (oz 1 (sv sa a)), (oz 1 (sv sb b)), (oz 1 (((sv sa a)).natAbs : Int)), oh] Q1 := by
          subst ho; subst hF; refine ja_l2 0 [6, 12, 13, 14, 16] (lo_l (ly_lda agg35 rfl rfl rfl rfl) (hd 68 rfl)) rfl (by kernel_rfl) (by kernel_rfl) (by kernel_rfl) (by kernel_rfl) hpan ?_
          refine ja_t3 S7_21 1 (.cons rfl .nil)
        subst ho; subst hF
        exact ja_to (m := []) (by decide) rfl (cov_n 0 rfl rfl .nil) S7_22
      have S6_1 : JA Try.prog ops1 1 #[true, true, true, true, true, true, true, true, true, true, true, true, true, true, false] Γ ([(13, .p 8 1 0), (14, .p 9 1 0), (15, .p 10 1 0), (59, .a [.b sa, .n false .u64 a]), (60, (zz (sv sa a))), (61, .a [.b sb, .n false .u64 b]), (62, (zz (sv sb b))), (63, .p 4 0 0), (64, .b false), (65, .p 4 0 1), (66, .n false .u64 (lm (sv sa a))), (67, (zz (((sv sa a)).natAbs : Int)))] ++ F0) [(ob sa a), (ob sb b), (oc 1 sa a), (oc 1 sb b), ⟨28, 2, 0, true, [.b false, .n false .u64 (lm (sv sa a))]⟩, (ow 0 false (sgnI (sv sa a))), ⟨28, 2, 0, true, [.b false, .n false .u64 []]⟩, ⟨28, 2, 0, true, [.b false, .n false .u64 []]⟩, (oz 1 (sv sa a)), (oz 1 (sv sb b)), oe] Q1 := by
        subst ho; subst hF
        refine ja_1 14 ?_ rfl (by kernel_rfl)
        refine js_st (sy_store rfl rfl rfl siz35 rfl rfl (Nat.le_of_ble_eq_true rfl)) rfl ?_
        refine ja_t3 S6_0 12 (.c5 rfl rfl rfl rfl rfl (.c5 rfl rfl rfl rfl rfl (.c2 rfl rfl .nil)))
      have S6_2 : JA Try.prog ops1 2 #[true, true, true, true, true, true, true, true, true, true, true, true, true, false, false] Γ ([(13, .p 8 1 0), (14, .p 9 1 0), (15, .p 10 1 0), (59, .a [.b sa, .n false .u64 a]), (60, (zz (sv sa a))), (61, .a [.b sb, .n false .u64 b]), (62, (zz (sv sb b))), (63, .p 4 0 0), (64, .b false), (65, .p 4 0 1), (66, .n false .u64 (lm (sv sa a))), (67, (zz (((sv sa a)).natAbs : Int)))] ++ F0) [(ob sa a), (ob sb b), (oc 1 sa a), (oc 1 sb b), ⟨28, 2, 0, true, [.b false, .n false .u64 (lm (sv sa a))]⟩, (ow 0 false (sgnI (sv sa a))), ⟨28, 2, 0, true, [.b false, .n false .u64 []]⟩, ⟨28, 2, 0, true, [.b false, .n false .u64 []]⟩, (oz 1 (sv sa a)), oe, oe] Q1 := by
        subst ho; subst hF
        refine ja_1 13 ?_ rfl (by kernel_rfl)
        refine js_st (sy_store rfl rfl rfl siz35 rfl rfl (Nat.le_of_ble_eq_true rfl)) rfl ?_
        refine ja_t3 S6_1 12 (.c5 rfl rfl rfl rfl rfl (.c5 rfl rfl rfl rfl rfl (.c2 rfl rfl .nil)))
      have S6_3 : JA Try.prog ops1 3 #[true, true, true, true, true, true, true, true, true, true, true, true, false, false, false] Γ ([(13, .p 8 1 0), (14, .p 9 1 0), (15, .p 10 1 0), (59, .a [.b sa, .n false .u64 a]), (60, (zz (sv sa a))), (61, .a [.b sb, .n false .u64 b]), (62, (zz (sv sb b))), (63, .p 4 0 0), (64, .b false), (65, .p 4 0 1), (66, .n false .u64 (lm (sv sa a))), (67, (zz (((sv sa a)).natAbs : Int)))] ++ F0) [(ob sa a), (ob sb b), (oc 1 sa a), (oc 1 sb b), ⟨28, 2, 0, true, [.b false, .n false .u64 (lm (sv sa a))]⟩, (ow 0 false (sgnI (sv sa a))), ⟨28, 2, 0, true, [.b false, .n false .u64 []]⟩, ⟨28, 2, 0, true, [.b false, .n false .u64 []]⟩, oe, oe, oe] Q1 := by
        subst ho; subst hF
        refine ja_1 12 ?_ rfl (by kernel_rfl)
        refine js_st (sy_store rfl rfl rfl siz35 rfl rfl (Nat.le_of_ble_eq_true rfl)) rfl ?_
        refine ja_t3 S6_2 12 (.c5 rfl rfl rfl rfl rfl (.c5 rfl rfl rfl rfl rfl (.c2 rfl rfl .nil)))
      have S6_4 : JA Try.prog ops1 4 #[true, true, true, true, true, true, true, true, true, true, true, false, false, false, false] Γ ([(13, .p 8 1 0), (14, .p 9 1 0), (59, .a [.b sa, .n false .u64 a]), (60, (zz (sv sa a))), (61, .a [.b sb, .n false .u64 b]), (62, (zz (sv sb b))), (63, .p 4 0 0), (64, .b false), (65, .p 4 0 1), (66, .n false .u64 (lm (sv sa a))), (67, (zz (((sv sa a)).natAbs : Int)))] ++ F0) [(ob sa a), (ob sb b), (oc 1 sa a), (oc 1 sb b), ⟨28, 2, 0, true, [.b false, .n false .u64 (lm (sv sa a))]⟩, (ow 0 false (sgnI (sv sa a))), ⟨28, 2, 0, true, [.b false, .n false .u64 []]⟩, ⟨28, 2, 0, true, [.b false, .n false .u64 []]⟩, oe, oe, oh] Q1 := by
        subst ho; subst hF
        refine ja_1 11 ?_ rfl (by kernel_rfl)
        refine js_h (hy_allocAt (id := 10) zero35 (by decide) rfl (by decide) rfl) (hd 15 rfl) ?_
        refine ja_t3 S6_3 12 (.c5 rfl rfl rfl rfl rfl (.c5 rfl rfl rfl rfl rfl (.c2 rfl rfl .nil)))
      have S6_5 : JA Try.prog ops1 4 #[true, true, true, true, true, true, true, true, true, true, false, true, false, false, false] Γ ([(13, .p 8 1 0), (15, .p 10 1 0), (59, .a [.b sa, .n false .u64 a]), (60, (zz (sv sa a))), (61, .a [.b sb, .n false .u64 b]), (62, (zz (sv sb b))), (63, .p 4 0 0), (64, .b false), (65, .p 4 0 1), (66, .n false .u64 (lm (sv sa a))), (67, (zz (((sv sa a)).natAbs : Int)))] ++ F0) [(ob sa a), (ob sb b), (oc 1 sa a), (oc 1 sb b), ⟨28, 2, 0, true, [.b false, .n false .u64 (lm (sv sa a))]⟩, (ow 0 false (sgnI (sv sa a))), ⟨28, 2, 0, true, [.b false, .n false .u64 []]⟩, ⟨28, 2, 0, true, [.b false, .n false .u64 []]⟩, oe, oh, oe] Q1 := by
        subst ho; subst hF
        refine ja_1 10 ?_ rfl (by kernel_rfl)
        refine js_h (hy_allocAt (id := 9) zero35 (by decide) rfl (by decide) rfl) (hd 14 rfl) ?_
        refine ja_t3 S6_3 12 (.c5 rfl rfl rfl rfl rfl (.c5 rfl rfl rfl rfl rfl (.c2 rfl rfl .nil)))
      have S6_6 : JA Try.prog ops1 5 #[true, true, true, true, true, true, true, true, true, true, false, false, false, false, false] Γ ([(13, .p 8 1 0), (59, .a [.b sa, .n false .u64 a]), (60, (zz (sv sa a))), (61, .a [.b sb, .n false .u64 b]), (62, (zz (sv sb b))), (63, .p 4 0 0), (64, .b false), (65, .p 4 0 1), (66, .n false .u64 (lm (sv sa a))), (67, (zz (((sv sa a)).natAbs : Int)))] ++ F0) [(ob sa a), (ob sb b), (oc 1 sa a), (oc 1 sb b), ⟨28, 2, 0, true, [.b false, .n false .u64 (lm (sv sa a))]⟩, (ow 0 false (sgnI (sv sa a))), ⟨28, 2, 0, true, [.b false, .n false .u64 []]⟩, ⟨28, 2, 0, true, [.b false, .n false .u64 []]⟩, oe, oh, oh] Q1 := by
        subst ho; subst hF
        refine ja_2 10 11 ?_ ?_ rfl rfl (by kernel_rfl)
        · refine js_h (hy_allocAt (id := 9) zero35 (by decide) rfl (by decide) rfl) (hd 14 rfl) ?_
          refine ja_t3 S6_4 11 (.c5 rfl rfl rfl rfl rfl (.c5 rfl rfl rfl rfl rfl (.cons rfl .nil)))
        · refine js_h (hy_allocAt (id := 10) zero35 (by decide) rfl (by decide) rfl) (hd 15 rfl) ?_
          refine ja_t3 S6_5 11 (.c5 rfl rfl rfl rfl rfl (.c5 rfl rfl rfl rfl rfl (.cons rfl .nil)))
      have S6_7 : JA Try.prog ops1 4 #[true, true, true, true, true, true, true, true, true, false, true, true, false, false, false] Γ ([(14, .p 9 1 0), (15, .p 10 1 0), (59, .a [.b sa, .n false .u64 a]), (60, (zz (sv sa a))), (61, .a [.b sb, .n false .u64 b]), (62, (zz (sv sb b))), (63, .p 4 0 0), (64, .b false), (65, .p 4 0 1), (66, .n false .u64 (lm (sv sa a))), (67, (zz (((sv sa a)).natAbs : Int)))] ++ F0) [(ob sa a), (ob sb b), (oc 1 sa a), (oc 1 sb b), ⟨28, 2, 0, true, [.b false, .n false .u64 (lm (sv sa a))]⟩, (ow 0 false (sgnI (sv sa a))), ⟨28, 2, 0, true, [.b false, .n false .u64 []]⟩, ⟨28, 2, 0, true, [.b false, .n false .u64 []]⟩, oh, oe, oe] Q1 := by
        subst ho; subst hF
        refine ja_1 9 ?_ rfl (by kernel_rfl)
        refine js_h (hy_allocAt (id := 8) zero35 (by decide) rfl (by decide) rfl) (hd 13 rfl) ?_
        refine ja_t3 S6_3 12 (.c5 rfl rfl rfl rfl rfl (.c5 rfl rfl rfl rfl rfl (.c2 rfl rfl .nil)))
      have S6_8 : JA Try.prog ops1 5 #[true, true, true, true, true, true, true, true, true, false, true, false, false, false, false] Γ ([(14, .p 9 1 0), (59, .a [.b sa, .n false .u64 a]), (60, (zz (sv sa a))), (61, .a [.b sb, .n false .u64 b]), (62, (zz (sv sb b))), (63, .p 4 0 0), (64, .b false), (65, .p 4 0 1), (66, .n false .u64 (lm (sv sa a))), (67, (zz (((sv sa a)).natAbs : Int)))] ++ F0) [(ob sa a), (ob sb b), (oc 1 sa a), (oc 1 sb b), ⟨28, 2, 0, true, [.b false, .n false .u64 (lm (sv sa a))]⟩, (ow 0 false (sgnI (sv sa a))), ⟨28, 2, 0, true, [.b false, .n false .u64 []]⟩, ⟨28, 2, 0, true, [.b false, .n false .u64 []]⟩, oh, oe, oh] Q1 := by
        subst ho; subst hF
        refine ja_2 9 11 ?_ ?_ rfl rfl (by kernel_rfl)
        · refine js_h (hy_allocAt (id := 8) zero35 (by decide) rfl (by decide) rfl) (hd 13 rfl) ?_
          refine ja_t3 S6_4 11 (.c5 rfl rfl rfl rfl rfl (.c5 rfl rfl rfl rfl rfl (.cons rfl .nil)))
        · refine js_h (hy_allocAt (id := 10) zero35 (by decide) rfl (by decide) rfl) (hd 15 rfl) ?_
          refine ja_t3 S6_7 11 (.c5 rfl rfl rfl rfl rfl (.c5 rfl rfl rfl rfl rfl (.cons rfl .nil)))
      have S6_9 : JA Try.prog ops1 5 #[true, true, true, true, true, true, true, true, true, false, false, true, false, false, false] Γ ([(15, .p 10 1 0), (59, .a [.b sa, .n false .u64 a]), (60, (zz (sv sa a))), (61, .a [.b sb, .n false .u64 b]), (62, (zz (sv sb b))), (63, .p 4 0 0), (64, .b false), (65, .p 4 0 1), (66, .n false .u64 (lm (sv sa a))), (67, (zz (((sv sa a)).natAbs : Int)))] ++ F0) [(ob sa a), (ob sb b), (oc 1 sa a), (oc 1 sb b), ⟨28, 2, 0, true, [.b false, .n false .u64 (lm (sv sa a))]⟩, (ow 0 false (sgnI (sv sa a))), ⟨28, 2, 0, true, [.b false, .n false .u64 []]⟩, ⟨28, 2, 0, true, [.b false, .n false .u64 []]⟩, oh, oh, oe] Q1 := by
        subst ho; subst hF
        refine ja_2 9 10 ?_ ?_ rfl rfl (by kernel_rfl)
        · refine js_h (hy_allocAt (id := 8) zero35 (by decide) rfl (by decide) rfl) (hd 13 rfl) ?_
          refine ja_t3 S6_5 11 (.c5 rfl rfl rfl rfl rfl (.c5 rfl rfl rfl rfl rfl (.cons rfl .nil)))
        · refine js_h (hy_allocAt (id := 9) zero35 (by decide) rfl (by decide) rfl) (hd 14 rfl) ?_
          refine ja_t3 S6_7 11 (.c5 rfl rfl rfl rfl rfl (.c5 rfl rfl rfl rfl rfl (.cons rfl .nil)))
      have S6_10 : JA Try.prog ops1 6 #[true, true, true, true, true, true, true, true, true, false, false, false, false, false, false] Γ ([(59, .a [.b sa, .n false .u64 a]), (60, (zz (sv sa a))), (61, .a [.b sb, .n false .u64 b]), (62, (zz (sv sb b))), (63, .p 4 0 0), (64, .b false), (65, .p 4 0 1), (66, .n false .u64 (lm (sv sa a))), (67, (zz (((sv sa a)).natAbs : Int)))] ++ F0) [(ob sa a), (ob sb b), (oc 1 sa a), (oc 1 sb b), ⟨28, 2, 0, true, [.b false, .n false .u64 (lm (sv sa a))]⟩, (ow 0 false (sgnI (sv sa a))), ⟨28, 2, 0, true, [.b false, .n false .u64 []]⟩, ⟨28, 2, 0, true, [.b false, .n false .u64 []]⟩, oh, oh, oh] Q1 := by
        subst ho; subst hF
        refine ja_3 9 10 11 ?_ ?_ ?_ rfl rfl rfl (by kernel_rfl)
        · refine js_h (hy_allocAt (id := 8) zero35 (by decide) rfl (by decide) rfl) (hd 13 rfl) ?_
          refine ja_t3 S6_6 10 (.c5 rfl rfl rfl rfl rfl (.c5 rfl rfl rfl rfl rfl .nil))
        · refine js_h (hy_allocAt (id := 9) zero35 (by decide) rfl (by decide) rfl) (hd 14 rfl) ?_
          refine ja_t3 S6_8 10 (.c5 rfl rfl rfl rfl rfl (.c5 rfl rfl rfl rfl rfl .nil))
        · refine js_h (hy_allocAt (id := 10) zero35 (by decide) rfl (by decide) rfl) (hd 15 rfl) ?_
          refine ja_t3 S6_9 10 (.c5 rfl rfl rfl rfl rfl (.c5 rfl rfl rfl rfl rfl .nil))
      have S6_11 : JA Try.prog ops1 4 #[true, true, true, true, true, true, true, true, false, true, true, true, false, false, false] Γ ([(13, .p 8 1 0), (14, .p 9 1 0), (15, .p 10 1 0), (59, .a [.b sa, .n false .u64 a]), (60, (zz (sv sa a))), (61, .a [.b sb, .n false .u64 b]), (62, (zz (sv sb b))), (63, .p 4 0 0), (64, .b false), (65, .p 4 0 1), (66, .n false .u64 (lm (sv sa a)))] ++ F0) [(ob sa a), (ob sb b), (oc 1 sa a), (oc 1 sb b), ⟨28, 2, 0, true, [.b false, .n false .u64 (lm (sv sa a))]⟩, (ow 0 false (sgnI (sv sa a))), ⟨28, 2, 0, true, [.b false, .n false .u64 []]⟩, ⟨28, 2, 0, true, [.b false, .n false .u64 []]⟩, oe, oe, oe] Q1 := by
        subst ho; subst hF
        refine ja_1 8 ?_ rfl (by kernel_rfl)
        refine js_call Try.f19 (hOg) rfl Try.func19 rfl rfl (ovL_cons rfl (ovL_cons rfl ovL_nil)) (.cons .b (.cons .n .nil)) (hd 67 rfl) ?_ (fun ch hp => by simp at hp)
        rintro y hy; injection hy with hy; subst hy
        refine ja_t3 S6_3 12 (.c5 rfl rfl rfl rfl rfl (.c5 rfl rfl rfl rfl rfl (.c2 rfl rfl .nil)))
      have S6_12 : JA Try.prog ops1 5 #[true, true, true, true, true, true, true, true, false, true, true, false, false, false, false] Γ ([(13, .p 8 1 0), (14, .p 9 1 0), (59, .a [.b sa, .n false .u64 a]), (60, (zz (sv sa a))), (61, .a [.b sb, .n false .u64 b]), (62, (zz (sv sb b))), (63, .p 4 0 0), (64, .b false), (65, .p 4 0 1), (66, .n false .u64 (lm (sv sa a)))] ++ F0) [(ob sa a), (ob sb b), (oc 1 sa a), (oc 1 sb b), ⟨28, 2, 0, true, [.b false, .n false .u64 (lm (sv sa a))]⟩, (ow 0 false (sgnI (sv sa a))), ⟨28, 2, 0, true, [.b false, .n false .u64 []]⟩, ⟨28, 2, 0, true, [.b false, .n false .u64 []]⟩, oe, oe, oh] Q1 := by
        subst ho; subst hF
        refine ja_2 8 11 ?_ ?_ rfl rfl (by kernel_rfl)
        · refine js_call Try.f19 (hOg) rfl Try.func19 rfl rfl (ovL_cons rfl (ovL_cons rfl ovL_nil)) (.cons .b (.cons .n .nil)) (hd 67 rfl) ?_ (fun ch hp => by simp at hp)
          rintro y hy; injection hy with hy; subst hy
          refine ja_t3 S6_4 11 (.c5 rfl rfl rfl rfl rfl (.c5 rfl rfl rfl rfl rfl (.cons rfl .nil)))
        · refine js_h (hy_allocAt (id := 10) zero35 (by decide) rfl (by decide) rfl) (hd 15 rfl) ?_
          refine ja_t3 S6_11 11 (.c5 rfl rfl rfl rfl rfl (.c5 rfl rfl rfl rfl rfl (.cons rfl .nil)))
      have S6_13 : JA Try.prog ops1 5 #[true, true, true, true, true, true, true, true, false, true, false, true, false, false, false] Γ ([(13, .p 8 1 0), (15, .p 10 1 0), (59, .a [.b sa, .n false .u64 a]), (60, (zz (sv sa a))), (61, .a [.b sb, .n false .u64 b]), (62, (zz (sv sb b))), (63, .p 4 0 0), (64, .b false), (65, .p 4 0 1), (66, .n false .u64 (lm (sv sa a)))] ++ F0) [(ob sa a), (ob sb b), (oc 1 sa a), (oc 1 sb b), ⟨28, 2, 0, true, [.b false, .n false .u64 (lm (sv sa a))]⟩, (ow 0 false (sgnI (sv sa a))), ⟨28, 2, 0, true, [.b false, .n false .u64 []]⟩, ⟨28, 2, 0, true, [.b false, .n false .u64 []]⟩, oe, oh, oe] Q1 := by
        subst ho; subst hF
        refine ja_2 8 10 ?_ ?_ rfl rfl (by kernel_rfl)
        · refine js_call Try.f19 (hOg) rfl Try.func19 rfl rfl (ovL_cons rfl (ovL_cons rfl ovL_nil)) (.cons .b (.cons .n .nil)) (hd 67 rfl) ?_ (fun ch hp => by simp at hp)
          rintro y hy; injection hy with hy; subst hy
          refine ja_t3 S6_5 11 (.c5 rfl rfl rfl rfl rfl (.c5 rfl rfl rfl rfl rfl (.cons rfl .nil)))
        · refine js_h (hy_allocAt (id := 9) zero35 (by decide) rfl (by decide) rfl) (hd 14 rfl) ?_
          refine ja_t3 S6_11 11 (.c5 rfl rfl rfl rfl rfl (.c5 rfl rfl rfl rfl rfl (.cons rfl .nil)))
      have S6_14 : JA Try.prog ops1 6 #[true, true, true, true, true, true, true, true, false, true, false, false, false, false, false] Γ ([(13, .p 8 1 0), (59, .a [.b sa, .n false .u64 a]), (60, (zz (sv sa a))), (61, .a [.b sb, .n false .u64 b]), (62, (zz (sv sb b))), (63, .p 4 0 0), (64, .b false), (65, .p 4 0 1), (66, .n false .u64 (lm (sv sa a)))] ++ F0) [(ob sa a), (ob sb b), (oc 1 sa a), (oc 1 sb b), ⟨28, 2, 0, true, [.b false, .n false .u64 (lm (sv sa a))]⟩, (ow 0 false (sgnI (sv sa a))), ⟨28, 2, 0, true, [.b false, .n false .u64 []]⟩, ⟨28, 2, 0, true, [.b false, .n false .u64 []]⟩, oe, oh, oh] Q1 := by
        subst ho; subst hF
        refine ja_3 8 10 11 ?_ ?_ ?_ rfl rfl rfl (by kernel_rfl)
        · refine js_call Try.f19 (hOg) rfl Try.func19 rfl rfl (ovL_cons rfl (ovL_cons rfl ovL_nil)) (.cons .b (.cons .n .nil)) (hd 67 rfl) ?_ (fun ch hp => by simp at hp)
          rintro y hy; injection hy with hy; subst hy
          refine ja_t3 S6_6 10 (.c5 rfl rfl rfl rfl rfl (.c5 rfl rfl rfl rfl rfl .nil))
        · refine js_h (hy_allocAt (id := 9) zero35 (by decide) rfl (by decide) rfl) (hd 14 rfl) ?_
          refine ja_t3 S6_12 10 (.c5 rfl rfl rfl rfl rfl (.c5 rfl rfl rfl rfl rfl .nil))
        · refine js_h (hy_allocAt (id := 10) zero35 (by decide) rfl (by decide) rfl) (hd 15 rfl) ?_
          refine ja_t3 S6_13 10 (.c5 rfl rfl rfl rfl rfl (.c5 rfl rfl rfl rfl rfl .nil))
      have S6_15 : JA Try.prog ops1 5 #[true, true, true, true, true, true, true, true, false, false, true, true, false, false, false] Γ ([(14, .p 9 1 0), (15, .p 10 1 0), (59, .a [.b sa, .n false .u64 a]), (60, (zz (sv sa a))), (61, .a [.b sb, .n false .u64 b]), (62, (zz (sv sb b))), (63, .p 4 0 0), (64, .b false), (65, .p 4 0 1), (66, .n false .u64 (lm (sv sa a)))] ++ F0) [(ob sa a), (ob sb b), (oc 1 sa a), (oc 1 sb b), ⟨28, 2, 0, true, [.b false, .n false .u64 (lm (sv sa a))]⟩, (ow 0 false (sgnI (sv sa a))), ⟨28, 2, 0, true, [.b false, .n false .u64 []]⟩, ⟨28, 2, 0, true, [.b false, .n false .u64 []]⟩, oh, oe, oe] Q1 := by
        subst ho; subst hF
        refine ja_2 8 9 ?_ ?_ rfl rfl (by kernel_rfl)
        · refine js_call Try.f19 (hOg) rfl Try.func19 rfl rfl (ovL_cons rfl (ovL_cons rfl ovL_nil)) (.cons .b (.cons .n .nil)) (hd 67 rfl) ?_ (fun ch hp => by simp at hp)
          rintro y hy; injection hy with hy; subst hy
          refine ja_t3 S6_7 11 (.c5 rfl rfl rfl rfl rfl (.c5 rfl rfl rfl rfl rfl (.cons rfl .nil)))
        · refine js_h (hy_allocAt (id := 8) zero35 (by decide) rfl (by decide) rfl) (hd 13 rfl) ?_
          refine ja_t3 S6_11 11 (.c5 rfl rfl rfl rfl rfl (.c5 rfl rfl rfl rfl rfl (.cons rfl .nil)))
      have S6_16 : JA Try.prog ops1 6 #[true, true, true, true, true, true, true, true, false, false, true, false, false, false, false] Γ ([(14, .p 9 1 0), (59, .a [.b sa, .n false .u64 a]), (60, (zz (sv sa a))), (61, .a [.b sb, .n false .u64 b]), (62, (zz (sv sb b))), (63, .p 4 0 0), (64, .b false), (65, .p 4 0 1), (66, .n false .u64 (lm (sv sa a)))] ++ F0) [(ob sa a), (ob sb b), (oc 1 sa a), (oc 1 sb b), ⟨28, 2, 0, true, [.b false, .n false .u64 (lm (sv sa a))]⟩, (ow 0 false (sgnI (sv sa a))), ⟨28, 2, 0, true, [.b false, .n false .u64 []]⟩, ⟨28, 2, 0, true, [.b false, .n false .u64 []]⟩, oh, oe, oh] Q1 := by
        subst ho; subst hF
        refine ja_3 8 9 11 ?_ ?_ ?_ rfl rfl rfl (by kernel_rfl)
        · refine js_call Try.f19 (hOg) rfl Try.func19 rfl rfl (ovL_cons rfl (ovL_cons rfl ovL_nil)) (.cons .b (.cons .n .nil)) (hd 67 rfl) ?_ (fun ch hp => by simp at hp)
          rintro y hy; injection hy with hy; subst hy
          refine ja_t3 S6_8 10 (.c5 rfl rfl rfl rfl rfl (.c5 rfl rfl rfl rfl rfl .nil))
        · refine js_h (hy_allocAt (id := 8) zero35 (by decide) rfl (by decide) rfl) (hd 13 rfl) ?_
          refine ja_t3 S6_12 10 (.c5 rfl rfl rfl rfl rfl (.c5 rfl rfl rfl rfl rfl .nil))
        · refine js_h (hy_allocAt (id := 10) zero35 (by decide) rfl (by decide) rfl) (hd 15 rfl) ?_
          refine ja_t3 S6_15 10 (.c5 rfl rfl rfl rfl rfl (.c5 rfl rfl rfl rfl rfl .nil))
      have S6_17 : JA Try.prog ops1 6 #[true, true, true, true, true, true, true, true, false, false, false, true, false, false, false] Γ ([(15, .p 10 1 0), (59, .a [.b sa, .n false .u64 a]), (60, (zz (sv sa a))), (61, .a [.b sb, .n false .u64 b]), (62, (zz (sv sb b))), (63, .p 4 0 0), (64, .b false), (65, .p 4 0 1), (66, .n false .u64 (lm (sv sa a)))] ++ F0) [(ob sa a), (ob sb b), (oc 1 sa a), (oc 1 sb b), ⟨28, 2, 0, true, [.b false, .n false .u64 (lm (sv sa a))]⟩, (ow 0 false (sgnI (sv sa a))), ⟨28, 2, 0, true, [.b false, .n false .u64 []]⟩, ⟨28, 2, 0, true, [.b false, .n false .u64 []]⟩, oh, oh, oe] Q1 := by
        subst ho; subst hF
        refine ja_3 8 9 10 ?_ ?_ ?_ rfl rfl rfl (by kernel_rfl)
        · refine js_call Try.f19 (hOg) rfl Try.func19 rfl rfl (ovL_cons rfl (ovL_cons rfl ovL_nil)) (.cons .b (.cons .n .nil)) (hd 67 rfl) ?_ (fun ch hp => by simp at hp)
          rintro y hy; injection hy with hy; subst hy
          refine ja_t3 S6_9 10 (.c5 rfl rfl rfl rfl rfl (.c5 rfl rfl rfl rfl rfl .nil))
        · refine js_h (hy_allocAt (id := 8) zero35 (by decide) rfl (by decide) rfl) (hd 13 rfl) ?_
          refine ja_t3 S6_13 10 (.c5 rfl rfl rfl rfl rfl (.c5 rfl rfl rfl rfl rfl .nil))
        · refine js_h (hy_allocAt (id := 9) zero35 (by decide) rfl (by decide) rfl) (hd 14 rfl) ?_
          refine ja_t3 S6_15 10 (.c5 rfl rfl rfl rfl rfl (.c5 rfl rfl rfl rfl rfl .nil))
      have S6_18 : JA Try.prog ops1 7 #[true, true, true, true, true, true, true, true, false, false, false, false, false, false, false] Γ ([(59, .a [.b sa, .n false .u64 a]), (60, (zz (sv sa a))), (61, .a [.b sb, .n false .u64 b]), (62, (zz (sv sb b))), (63, .p 4 0 0), (64, .b false), (65, .p 4 0 1), (66, .n false .u64 (lm (sv sa a)))] ++ F0) [(ob sa a), (ob sb b), (oc 1 sa a), (oc 1 sb b), ⟨28, 2, 0, true, [.b false, .n false .u64 (lm (sv sa a))]⟩, (ow 0 false (sgnI (sv sa a))), ⟨28, 2, 0, true, [.b false, .n false .u64 []]⟩, ⟨28, 2, 0, true, [.b false, .n false .u64 []]⟩, oh, oh, oh] Q1 := by
        subst ho; subst hF
        refine ja_4 8 9 10 11 ?_ ?_ ?_ ?_ rfl rfl rfl rfl (by kernel_rfl)
        · refine js_call Try.f19 (hOg) rfl Try.func19 rfl rfl (ovL_cons rfl (ovL_cons rfl ovL_nil)) (.cons .b (.cons .n .nil)) (hd 67 rfl) ?_ (fun ch hp => by simp at hp)
          rintro y hy; injection hy with hy; subst hy
          refine ja_t3 S6_10 9 (.c5 rfl rfl rfl rfl rfl (.c2 rfl rfl (.c2 rfl rfl .nil)))
        · refine js_h (hy_allocAt (id := 8) zero35 (by decide) rfl (by decide) rfl) (hd 13 rfl) ?_
          refine ja_t3 S6_14 9 (.c5 rfl rfl rfl rfl rfl (.c2 rfl rfl (.c2 rfl rfl .nil)))
        · refine js_h (hy_allocAt (id := 9) zero35 (by decide) rfl (by decide) rfl) (hd 14 rfl) ?_
          refine ja_t3 S6_16 9 (.c5 rfl rfl rfl rfl rfl (.c2 rfl rfl (.c2 rfl rfl .nil)))
        · refine js_h (hy_allocAt (id := 10) zero35 (by decide) rfl (by decide) rfl) (hd 15 rfl) ?_
          refine ja_t3 S6_17 9 (.c5 rfl rfl rfl rfl rfl (.c2 rfl rfl (.c2 rfl rfl .nil)))
      have S6_19 : JA Try.prog ops1 5 #[true, true, true, false, true, true, true, true, false, true, true, true, false, false, false] Γ ([(13, .p 8 1 0), (14, .p 9 1 0), (15, .p 10 1 0), (59, .a [.b sa, .n false .u64 a]), (60, (zz (sv sa a))), (61, .a [.b sb, .n false .u64 b]), (63, .p 4 0 0), (64, .b false), (65, .p 4 0 1), (66, .n false .u64 (lm (sv sa a)))] ++ F0) [(ob sa a), (ob sb b), (oc 1 sa a), (oc 1 sb b), ⟨28, 2, 0, true, [.b false, .n false .u64 (lm (sv sa a))]⟩, (ow 0 false (sgnI (sv sa a))), ⟨28, 2, 0, true, [.b false, .n false .u64 []]⟩, ⟨28, 2, 0, true, [.b false, .n false .u64 []]⟩, oe, oe, oe] Q1 := by
        subst ho; subst hF
        refine ja_1 3 ?_ rfl (by kernel_rfl)
        refine js_call Try.f14 (of_s sb b (by omega) ub) rfl Try.func14 rfl rfl (ovL_cons rfl ovL_nil) (.cons (.a1 .b (.a1 .n .a0)) .nil) (hd 62 rfl) ?_ (fun ch hp => by simp at hp)
        rintro y hy; injection hy with hy; subst hy
        refine ja_t3 S6_11 11 (.c5 rfl rfl rfl rfl rfl (.c5 rfl rfl rfl rfl rfl (.cons rfl .nil)))
      have S6_20 : JA Try.prog ops1 6 #[true, true, true, false, true, true, true, true, false, true, true, false, false, false, false] Γ ([(13, .p 8 1 0), (14, .p 9 1 0), (59, .a [.b sa, .n false .u64 a]), (60, (zz (sv sa a))), (61, .a [.b sb, .n false .u64 b]), (63, .p 4 0 0), (64, .b false), (65, .p 4 0 1), (66, .n false .u64 (lm (sv sa a)))] ++ F0) [(ob sa a), (ob sb b), (oc 1 sa a), (oc 1 sb b), ⟨28, 2, 0, true, [.b false, .n false .u64 (lm (sv sa a))]⟩, (ow 0 false (sgnI (sv sa a))), ⟨28, 2, 0, true, [.b false, .n false .u64 []]⟩, ⟨28, 2, 0, true, [.b false, .n false .u64 []]⟩, oe, oe, oh] Q1 := by
        subst ho; subst hF
        refine ja_2 3 11 ?_ ?_ rfl rfl (by kernel_rfl)
        · refine js_call Try.f14 (of_s sb b (by omega) ub) rfl Try.func14 rfl rfl (ovL_cons rfl ovL_nil) (.cons (.a1 .b (.a1 .n .a0)) .nil) (hd 62 rfl) ?_ (fun ch hp => by simp at hp)
          rintro y hy; injection hy with hy; subst hy
          refine ja_t3 S6_12 10 (.c5 rfl rfl rfl rfl rfl (.c5 rfl rfl rfl rfl rfl .nil))
        · refine js_h (hy_allocAt (id := 10) zero35 (by decide) rfl (by decide) rfl) (hd 15 rfl) ?_
          refine ja_t3 S6_19 10 (.c5 rfl rfl rfl rfl rfl (.c5 rfl rfl rfl rfl rfl .nil))
      have S6_21 : JA Try.prog ops1 6 #[true, true, true, false, true, true, true, true, false, true, false, true, false, false, false] Γ ([(13, .p 8 1 0), (15, .p 10 1 0), (59, .a [.b sa, .n false .u64 a]), (60, (zz (sv sa a))), (61, .a [.b sb, .n false .u64 b]), (63, .p 4 0 0), (64, .b false), (65, .p 4 0 1), (66, .n false .u64 (lm (sv sa a)))] ++ F0) [(ob sa a), (ob sb b), (oc 1 sa a), (oc 1 sb b), ⟨28, 2, 0, true, [.b false, .n false .u64 (lm (sv sa a))]⟩, (ow 0 false (sgnI (sv sa a))), ⟨28, 2, 0, true, [.b false, .n false .u64 []]⟩, ⟨28, 2, 0, true, [.b false, .n false .u64 []]⟩, oe, oh, oe] Q1 := by
        subst ho; subst hF
        refine ja_2 3 10 ?_ ?_ rfl rfl (by kernel_rfl)
        · refine js_call Try.f14 (of_s sb b (by omega) ub) rfl Try.func14 rfl rfl (ovL_cons rfl ovL_nil) (.cons (.a1 .b (.a1 .n .a0)) .nil) (hd 62 rfl) ?_ (fun ch hp => by simp at hp)
          rintro y hy; injection hy with hy; subst hy
          refine ja_t3 S6_13 10 (.c5 rfl rfl rfl rfl rfl (.c5 rfl rfl rfl rfl rfl .nil))
        · refine js_h (hy_allocAt (id := 9) zero35 (by decide) rfl (by decide) rfl) (hd 14 rfl) ?_
          refine ja_t3 S6_19 10 (.c5 rfl rfl rfl rfl rfl (.c5 rfl rfl rfl rfl rfl .nil))
      have S6_22 : JA Try.prog ops1 7 #[true, true, true, false, true, true, true, true, false, true, false, false, false, false, false] Γ ([(13, .p 8 1 0), (59, .a [.b sa, .n false .u64 a]), (60, (zz (sv sa a))), (61, .a [.b sb, .n false .u64 b]), (63, .p 4 0 0), (64, .b false), (65, .p 4 0 1), (66, .n false .u64 (lm (sv sa a)))] ++ F0) [(ob sa a), (ob sb b), (oc 1 sa a), (oc 1 sb b), ⟨28, 2, 0, true, [.b false, .n false .u64 (lm (sv sa a))]⟩, (ow 0 false (sgnI (sv sa a))), ⟨28, 2, 0, true, [.b false, .n false .u64 []]⟩, ⟨28, 2, 0, true, [.b false, .n false .u64 []]⟩, oe, oh, oh] Q1 := by
        subst ho; subst hF
        refine ja_3 3 10 11 ?_ ?_ ?_ rfl rfl rfl (by kernel_rfl)
        · refine js_call Try.f14 (of_s sb b (by omega) ub) rfl Try.func14 rfl rfl (ovL_cons rfl ovL_nil) (.cons (.a1 .b (.a1 .n .a0)) .nil) (hd 62 rfl) ?_ (fun ch hp => by simp at hp)
          rintro y hy; injection hy with hy; subst hy
          refine ja_t3 S6_14 9 (.c5 rfl rfl rfl rfl rfl (.c2 rfl rfl (.c2 rfl rfl .nil)))
        · refine js_h (hy_allocAt (id := 9) zero35 (by decide) rfl (by decide) rfl) (hd 14 rfl) ?_
          refine ja_t3 S6_20 9 (.c5 rfl rfl rfl rfl rfl (.c2 rfl rfl (.c2 rfl rfl .nil)))
        · refine js_h (hy_allocAt (id := 10) zero35 (by decide) rfl (by decide) rfl) (hd 15 rfl) ?_
          refine ja_t3 S6_21 9 (.c5 rfl rfl rfl rfl rfl (.c2 rfl rfl (.c2 rfl rfl .nil)))
      have S6_23 : JA Try.prog ops1 6 #[true, true, true, false, true, true, true, true, false, false, true, true, false, false, false] Γ ([(14, .p 9 1 0), (15, .p 10 1 0), (59, .a [.b sa, .n false .u64 a]), (60, (zz (sv sa a))), (61, .a [.b sb, .n false .u64 b]), (63, .p 4 0 0), (64, .b false), (65, .p 4 0 1), (66, .n false .u64 (lm (sv sa a)))] ++ F0) [(ob sa a), (ob sb b), (oc 1 sa a), (oc 1 sb b), ⟨28, 2, 0, true, [.b false, .n false .u64 (lm (sv sa a))]⟩, (ow 0 false (sgnI (sv sa a))), ⟨28, 2, 0, true, [.b false, .n false .u64 []]⟩, ⟨28, 2, 0, true, [.b false, .n false .u64 []]⟩, oh, oe, oe] Q1 := by
        subst ho; subst hF
        refine ja_2 3 9 ?_ ?_ rfl rfl (by kernel_rfl)
        · refine js_call Try.f14 (of_s sb b (by omega) ub) rfl Try.func14 rfl rfl (ovL_cons rfl ovL_nil) (.cons (.a1 .b (.a1 .n .a0)) .nil) (hd 62 rfl) ?_ (fun ch hp => by simp at hp)
          rintro y hy; injection hy with hy; subst hy
          refine ja_t3 S6_15 10 (.c5 rfl rfl rfl rfl rfl (.c5 rfl rfl rfl rfl rfl .nil))
        · refine js_h (hy_allocAt (id := 8) zero35 (by decide) rfl (by decide) rfl) (hd 13 rfl) ?_
          refine ja_t3 S6_19 10 (.c5 rfl rfl rfl rfl rfl (.c5 rfl rfl rfl rfl rfl .nil))
      have S6_24 : JA Try.prog ops1 7 #[true, true, true, false, true, true, true, true, false, false, true, false, false, false, false] Γ ([(14, .p 9 1 0), (59, .a [.b sa, .n false .u64 a]), (60, (zz (sv sa a))), (61, .a [.b sb, .n false .u64 b]), (63, .p 4 0 0), (64, .b false), (65, .p 4 0 1), (66, .n false .u64 (lm (sv sa a)))] ++ F0) [(ob sa a), (ob sb b), (oc 1 sa a), (oc 1 sb b), ⟨28, 2, 0, true, [.b false, .n false .u64 (lm (sv sa a))]⟩, (ow 0 false (sgnI (sv sa a))), ⟨28, 2, 0, true, [.b false, .n false .u64 []]⟩, ⟨28, 2, 0, true, [.b false, .n false .u64 []]⟩, oh, oe, oh] Q1 := by
        subst ho; subst hF
        refine ja_3 3 9 11 ?_ ?_ ?_ rfl rfl rfl (by kernel_rfl)
        · refine js_call Try.f14 (of_s sb b (by omega) ub) rfl Try.func14 rfl rfl (ovL_cons rfl ovL_nil) (.cons (.a1 .b (.a1 .n .a0)) .nil) (hd 62 rfl) ?_ (fun ch hp => by simp at hp)
          rintro y hy; injection hy with hy; subst hy
          refine ja_t3 S6_16 9 (.c5 rfl rfl rfl rfl rfl (.c2 rfl rfl (.c2 rfl rfl .nil)))
        · refine js_h (hy_allocAt (id := 8) zero35 (by decide) rfl (by decide) rfl) (hd 13 rfl) ?_
          refine ja_t3 S6_20 9 (.c5 rfl rfl rfl rfl rfl (.c2 rfl rfl (.c2 rfl rfl .nil)))
        · refine js_h (hy_allocAt (id := 10) zero35 (by decide) rfl (by decide) rfl) (hd 15 rfl) ?_
          refine ja_t3 S6_23 9 (.c5 rfl rfl rfl rfl rfl (.c2 rfl rfl (.c2 rfl rfl .nil)))
      have S6_25 : JA Try.prog ops1 7 #[true, true, true, false, true, true, true, true, false, false, false, true, false, false, false] Γ ([(15, .p 10 1 0), (59, .a [.b sa, .n false .u64 a]), (60, (zz (sv sa a))), (61, .a [.b sb, .n false .u64 b]), (63, .p 4 0 0), (64, .b false), (65, .p 4 0 1), (66, .n false .u64 (lm (sv sa a)))] ++ F0) [(ob sa a), (ob sb b), (oc 1 sa a), (oc 1 sb b), ⟨28, 2, 0, true, [.b false, .n false .u64 (lm (sv sa a))]⟩, (ow 0 false (sgnI (sv sa a))), ⟨28, 2, 0, true, [.b false, .n false .u64 []]⟩, ⟨28, 2, 0, true, [.b false, .n false .u64 []]⟩, oh, oh, oe] Q1 := by
        subst ho; subst hF
        refine ja_3 3 9 10 ?_ ?_ ?_ rfl rfl rfl (by kernel_rfl)
        · refine js_call Try.f14 (of_s sb b (by omega) ub) rfl Try.func14 rfl rfl (ovL_cons rfl ovL_nil) (.cons (.a1 .b (.a1 .n .a0)) .nil) (hd 62 rfl) ?_ (fun ch hp => by simp at hp)
          rintro y hy; injection hy with hy; subst hy
          refine ja_t3 S6_17 9 (.c5 rfl rfl rfl rfl rfl (.c2 rfl rfl (.c2 rfl rfl .nil)))
        · refine js_h (hy_allocAt (id := 8) zero35 (by decide) rfl (by decide) rfl) (hd 13 rfl) ?_
          refine ja_t3 S6_21 9 (.c5 rfl rfl rfl rfl rfl (.c2 rfl rfl (.c2 rfl rfl .nil)))
        · refine js_h (hy_allocAt (id := 9) zero35 (by decide) rfl (by decide) rfl) (hd 14 rfl) ?_
          refine ja_t3 S6_23 9 (.c5 rfl rfl rfl rfl rfl (.c2 rfl rfl (.c2 rfl rfl .nil)))
      have S6_26 : JA Try.prog ops1 8 #[true, true, true, false, true, true, true, true, false, false, false, false, false, false, false] Γ ([(59, .a [.b sa, .n false .u64 a]), (60, (zz (sv sa a))), (61, .a [.b sb, .n false .u64 b]), (63, .p 4 0 0), (64, .b false), (65, .p 4 0 1), (66, .n false .u64 (lm (sv sa a)))] ++ F0) [(ob sa a), (ob sb b), (oc 1 sa a), (oc 1 sb b), ⟨28, 2, 0, true, [.b false, .n false .u64 (lm (sv sa a))]⟩, (ow 0 false (sgnI (sv sa a))), ⟨28, 2, 0, true, [.b false, .n false .u64 []]⟩, ⟨28, 2, 0, true, [.b false, .n false .u64 []]⟩, oh, oh, oh] Q1 := by
        subst ho; subst hF
        refine ja_4 3 9 10 11 ?_ ?_ ?_ ?_ rfl rfl rfl rfl (by kernel_rfl)
        · refine js_call Try.f14 (of_s sb b (by omega) ub) rfl Try.func14 rfl rfl (ovL_cons rfl ovL_nil) (.cons (.a1 .b (.a1 .n .a0)) .nil) (hd 62 rfl) ?_ (fun ch hp => by simp at hp)
          rintro y hy; injection hy with hy; subst hy
          refine ja_t3 S6_18 8 (.c5 rfl rfl rfl rfl rfl (.c2 rfl rfl (.cons rfl .nil)))
        · refine js_h (hy_allocAt (id := 8) zero35 (by decide) rfl (by decide) rfl) (hd 13 rfl) ?_
          refine ja_t3 S6_22 8 (.c5 rfl rfl rfl rfl rfl (.c2 rfl rfl (.cons rfl .nil)))
        · refine js_h (hy_allocAt (id := 9) zero35 (by decide) rfl (by decide) rfl) (hd 14 rfl) ?_
          refine ja_t3 S6_24 8 (.c5 rfl rfl rfl rfl rfl (.c2 rfl rfl (.cons rfl .nil)))
        · refine js_h (hy_allocAt (id := 10) zero35 (by decide) rfl (by decide) rfl) (hd 15 rfl) ?_
          refine ja_t3 S6_25 8 (.c5 rfl rfl rfl rfl rfl (.c2 rfl rfl (.cons rfl .nil)))
      have S6_27 : JA Try.prog ops1 6 #[true, false, true, false, true, true, true, true, false, true, true, true, false, false, false] Γ ([(13, .p 8 1 0), (14, .p 9 1 0), (15, .p 10 1 0), (59, .a [.b sa, .n false .u64 a]), (61, .a [.b sb, .n false .u64 b]), (63, .p 4 0 0), (64, .b false), (65, .p 4 0 1), (66, .n false .u64 (lm (sv sa a)))] ++ F0) [(ob sa a), (ob sb b), (oc 1 sa a), (oc 1 sb b), ⟨28, 2, 0, true, [.b false, .n false .u64 (lm (sv sa a))]⟩, (ow 0 false (sgnI (sv sa a))), ⟨28, 2, 0, true, [.b false, .n false .u64 []]⟩, ⟨28, 2, 0, true, [.b false, .n false .u64 []]⟩, oe, oe, oe] Q1 := by
        subst ho; subst hF
        refine ja_1 1 ?_ rfl (by kernel_rfl)
        refine js_call Try.f14 (of_s sa a (by omega) ua) rfl Try.func14 rfl rfl (ovL_cons rfl ovL_nil) (.cons (.a1 .b (.a1 .n .a0)) .nil) (hd 60 rfl) ?_ (fun ch hp => by simp at hp)
        rintro y hy; injection hy with hy; subst hy
        refine ja_t3 S6_19 10 (.c5 rfl rfl rfl rfl rfl (.c5 rfl rfl rfl rfl rfl .nil))
      have S6_28 : JA Try.prog ops1 7 #[true, false, true, false, true, true, true, true, false, true, true, false, false, false, false] Γ ([(13, .p 8 1 0), (14, .p 9 1 0), (59, .a [.b sa, .n false .u64 a]), (61, .a [.b sb, .n false .u64 b]), (63, .p 4 0 0), (64, .b false), (65, .p 4 0 1), (66, .n false .u64 (lm (sv sa a)))] ++ F0) [(ob sa a), (ob sb b), (oc 1 sa a), (oc 1 sb b), ⟨28, 2, 0, true, [.b false, .n false .u64 (lm (sv sa a))]⟩, (ow 0 false (sgnI (sv sa a))), ⟨28, 2, 0, true, [.b false, .n false .u64 []]⟩, ⟨28, 2, 0, true, [.b false, .n false .u64 []]⟩, oe, oe, oh] Q1 := by
        subst ho; subst hF
        refine ja_2 1 11 ?_ ?_ rfl rfl (by kernel_rfl)
        · refine js_call Try.f14 (of_s sa a (by omega) ua) rfl Try.func14 rfl rfl (ovL_cons rfl ovL_nil) (.cons (.a1 .b (.a1 .n .a0)) .nil) (hd 60 rfl) ?_ (fun ch hp => by simp at hp)
          rintro y hy; injection hy with hy; subst hy
          refine ja_t3 S6_20 9 (.c5 rfl rfl rfl rfl rfl (.c2 rfl rfl (.c2 rfl rfl .nil)))
        · refine js_h (hy_allocAt (id := 10) zero35 (by decide) rfl (by decide) rfl) (hd 15 rfl) ?_
          refine ja_t3 S6_27 9 (.c5 rfl rfl rfl rfl rfl (.c2 rfl rfl (.c2 rfl rfl .nil)))
      have S6_29 : JA Try.prog ops1 7 #[true, false, true, false, true, true, true, true, false, true, false, true, false, false, false] Γ ([(13, .p 8 1 0), (15, .p 10 1 0), (59, .a [.b sa, .n false .u64 a]), (61, .a [.b sb, .n false .u64 b]), (63, .p 4 0 0), (64, .b false), (65, .p 4 0 1), (66, .n false .u64 (lm (sv sa a)))] ++ F0) [(ob sa a), (ob sb b), (oc 1 sa a), (oc 1 sb b), ⟨28, 2, 0, true, [.b false, .n false .u64 (lm (sv sa a))]⟩, (ow 0 false (sgnI (sv sa a))), ⟨28, 2, 0, true, [.b false, .n false .u64 []]⟩, ⟨28, 2, 0, true, [.b false, .n false .u64 []]⟩, oe, oh, oe] Q1 := by
        subst ho; subst hF
        refine ja_2 1 10 ?_ ?_ rfl rfl (by kernel_rfl)
        · refine js_call Try.f14 (of_s sa a (by omega) ua) rfl Try.func14 rfl rfl (ovL_cons rfl ovL_nil) (.cons (.a1 .b (.a1 .n .a0)) .nil) (hd 60 rfl) ?_ (fun ch hp => by simp at hp)
          rintro y hy; injection hy with hy; subst hy
          refine ja_t3 S6_21 9 (.c5 rfl rfl rfl rfl rfl (.c2 rfl rfl (.c2 rfl rfl .nil)))
        · refine js_h (hy_allocAt (id := 9) zero35 (by decide) rfl (by decide) rfl) (hd 14 rfl) ?_
          refine ja_t3 S6_27 9 (.c5 rfl rfl rfl rfl rfl (.c2 rfl rfl (.c2 rfl rfl .nil)))
      have S6_30 : JA Try.prog ops1 8 #[true, false, true, false, true, true, true, true, false, true, false, false, false, false, false] Γ ([(13, .p 8 1 0), (59, .a [.b sa, .n false .u64 a]), (61, .a [.b sb, .n false .u64 b]), (63, .p 4 0 0), (64, .b false), (65, .p 4 0 1), (66, .n false .u64 (lm (sv sa a)))] ++ F0) [(ob sa a), (ob sb b), (oc 1 sa a), (oc 1 sb b), ⟨28, 2, 0, true, [.b false, .n false .u64 (lm (sv sa a))]⟩, (ow 0 false (sgnI (sv sa a))), ⟨28, 2, 0, true, [.b false, .n false .u64 []]⟩, ⟨28, 2, 0, true, [.b false, .n false .u64 []]⟩, oe, oh, oh] Q1 := by
        subst ho; subst hF
        refine ja_3 1 10 11 ?_ ?_ ?_ rfl rfl rfl (by kernel_rfl)
        · refine js_call Try.f14 (of_s sa a (by omega) ua) rfl Try.func14 rfl rfl (ovL_cons rfl ovL_nil) (.cons (.a1 .b (.a1 .n .a0)) .nil) (hd 60 rfl) ?_ (fun ch hp => by simp at hp)
          rintro y hy; injection hy with hy; subst hy
          refine ja_t3 S6_22 8 (.c5 rfl rfl rfl rfl rfl (.c2 rfl rfl (.cons rfl .nil)))
        · refine js_h (hy_allocAt (id := 9) zero35 (by decide) rfl (by decide) rfl) (hd 14 rfl) ?_
          refine ja_t3 S6_28 8 (.c5 rfl rfl rfl rfl rfl (.c2 rfl rfl (.cons rfl .nil)))
        · refine js_h (hy_allocAt (id := 10) zero35 (by decide) rfl (by decide) rfl) (hd 15 rfl) ?_
          refine ja_t3 S6_29 8 (.c5 rfl rfl rfl rfl rfl (.c2 rfl rfl (.cons rfl .nil)))
      have S6_31 : JA Try.prog ops1 7 #[true, false, true, false, true, true, true, true, false, false, true, true, false, false, false] Γ ([(14, .p 9 1 0), (15, .p 10 1 0), (59, .a [.b sa, .n false .u64 a]), (61, .a [.b sb, .n false .u64 b]), (63, .p 4 0 0), (64, .b false), (65, .p 4 0 1), (66, .n false .u64 (lm (sv sa a)))] ++ F0) [(ob sa a), (ob sb b), (oc 1 sa a), (oc 1 sb b), ⟨28, 2, 0, true, [.b false, .n false .u64 (lm (sv sa a))]⟩, (ow 0 false (sgnI (sv sa a))), ⟨28, 2, 0, true, [.b false, .n false .u64 []]⟩, ⟨28, 2, 0, true, [.b false, .n false .u64 []]⟩, oh, oe, oe] Q1 := by
        subst ho; subst hF
        refine ja_2 1 9 ?_ ?_ rfl rfl (by kernel_rfl)
        · refine js_call Try.f14 (of_s sa a (by omega) ua) rfl Try.func14 rfl rfl (ovL_cons rfl ovL_nil) (.cons (.a1 .b (.a1 .n .a0)) .nil) (hd 60 rfl) ?_ (fun ch hp => by simp at hp)
          rintro y hy; injection hy with hy; subst hy
          refine ja_t3 S6_23 9 (.c5 rfl rfl rfl rfl rfl (.c2 rfl rfl (.c2 rfl rfl .nil)))
        · refine js_h (hy_allocAt (id := 8) zero35 (by decide) rfl (by decide) rfl) (hd 13 rfl) ?_
          refine ja_t3 S6_27 9 (.c5 rfl rfl rfl rfl rfl (.c2 rfl rfl (.c2 rfl rfl .nil)))
      have S6_32 : JA Try.prog ops1 8 #[true, false, true, false, true, true, true, true, false, false, true, false, false, false, false] Γ ([(14, .p 9 1 0), (59, .a [.b sa, .n false .u64 a]), (61, .a [.b sb, .n false .u64 b]), (63, .p 4 0 0), (64, .b false), (65, .p 4 0 1), (66, .n false .u64 (lm (sv sa a)))] ++ F0) [(ob sa a), (ob sb b), (oc 1 sa a), (oc 1 sb b), ⟨28, 2, 0, true, [.b false, .n false .u64 (lm (sv sa a))]⟩, (ow 0 false (sgnI (sv sa a))), ⟨28, 2, 0, true, [.b false, .n false .u64 []]⟩, ⟨28, 2, 0, true, [.b false, .n false .u64 []]⟩, oh, oe, oh] Q1 := by
        subst ho; subst hF
        refine ja_3 1 9 11 ?_ ?_ ?_ rfl rfl rfl (by kernel_rfl)
        · refine js_call Try.f14 (of_s sa a (by omega) ua) rfl Try.func14 rfl rfl (ovL_cons rfl ovL_nil) (.cons (.a1 .b (.a1 .n .a0)) .nil) (hd 60 rfl) ?_ (fun ch hp => by simp at hp)
          rintro y hy; injection hy with hy; subst hy
          refine ja_t3 S6_24 8 (.c5 rfl rfl rfl rfl rfl (.c2 rfl rfl (.cons rfl .nil)))
        · refine js_h (hy_allocAt (id := 8) zero35 (by decide) rfl (by decide) rfl) (hd 13 rfl) ?_
          refine ja_t3 S6_28 8 (.c5 rfl rfl rfl rfl rfl (.c2 rfl rfl (.cons rfl .nil)))
        · refine js_h (hy_allocAt (id := 10) zero35 (by decide) rfl (by decide) rfl) (hd 15 rfl) ?_
          refine ja_t3 S6_31 8 (.c5 rfl rfl rfl rfl rfl (.c2 rfl rfl (.cons rfl .nil)))
      have S6_33 : JA Try.prog ops1 8 #[true, false, true, false, true, true, true, true, false, false, false, true, false, false, false] Γ ([(15, .p 10 1 0), (59, .a [.b sa, .n false .u64 a]), (61, .a [.b sb, .n false .u64 b]), (63, .p 4 0 0), (64, .b false), (65, .p 4 0 1), (66, .n false .u64 (lm (sv sa a)))] ++ F0) [(ob sa a), (ob sb b), (oc 1 sa a), (oc 1 sb b), ⟨28, 2, 0, true, [.b false, .n false .u64 (lm (sv sa a))]⟩, (ow 0 false (sgnI (sv sa a))), ⟨28, 2, 0, true, [.b false, .n false .u64 []]⟩, ⟨28, 2, 0, true, [.b false, .n false .u64 []]⟩, oh, oh, oe] Q1 := by
        subst ho; subst hF
        refine ja_3 1 9 10 ?_ ?_ ?_ rfl rfl rfl (by kernel_rfl)
        · refine js_call Try.f14 (of_s sa a (by omega) ua) rfl Try.func14 rfl rfl (ovL_cons rfl ovL_nil) (.cons (.a1 .b (.a1 .n .a0)) .nil) (hd 60 rfl) ?_ (fun ch hp => by simp at hp)
          rintro y hy; injection hy with hy; subst hy
          refine ja_t3 S6_25 8 (.c5 rfl rfl rfl rfl rfl (.c2 rfl rfl (.cons rfl .nil)))
        · refine js_h (hy_allocAt (id := 8) zero35 (by decide) rfl (by decide) rfl) (hd 13 rfl) ?_
          refine ja_t3 S6_29 8 (.c5 rfl rfl rfl rfl rfl (.c2 rfl rfl (.cons rfl .nil)))
        · refine js_h (hy_allocAt (id := 9) zero35 (by decide) rfl (by decide) rfl) (hd 14 rfl) ?_
          refine ja_t3 S6_31 8 (.c5 rfl rfl rfl rfl rfl (.c2 rfl rfl (.cons rfl .nil)))
      have S6_34 : JA Try.prog ops1 9 #[true, false, true, false, true, true, true, true, false, false, false, false, false, false, false] Γ ([(59, .a [.b sa, .n false .u64 a]), (61, .a [.b sb, .n false .u64 b]), (63, .p 4 0 0), (64, .b false), (65, .p 4 0 1), (66, .n false .u64 (lm (sv sa a)))] ++ F0) [(ob sa a), (ob sb b), (oc 1 sa a), (oc 1 sb b), ⟨28, 2, 0, true, [.b false, .n false .u64 (lm (sv sa a))]⟩, (ow 0 false (sgnI (sv sa a))), ⟨28, 2, 0, true, [.b false, .n false .u64 []]⟩, ⟨28, 2, 0, true, [.b false, .n false .u64 []]⟩, oh, oh, oh] Q1 := by
        subst ho; subst hF
        refine ja_4 1 9 10 11 ?_ ?_ ?_ ?_ rfl rfl rfl rfl (by kernel_rfl)
        · refine js_call Try.f14 (of_s sa a (by omega) ua) rfl Try.func14 rfl rfl (ovL_cons rfl ovL_nil) (.cons (.a1 .b (.a1 .n .a0)) .nil) (hd 60 rfl) ?_ (fun ch hp => by simp at hp)
          rintro y hy; injection hy with hy; subst hy
          refine ja_t3 S6_26 7 (.c5 rfl rfl rfl rfl rfl (.c2 rfl rfl .nil))
        · refine js_h (hy_allocAt (id := 8) zero35 (by decide) rfl (by decide) rfl) (hd 13 rfl) ?_
          refine ja_t3 S6_30 7 (.c5 rfl rfl rfl rfl rfl (.c2 rfl rfl .nil))
        · refine js_h (hy_allocAt (id := 9) zero35 (by decide) rfl (by decide) rfl) (hd 14 rfl) ?_
          refine ja_t3 S6_32 7 (.c5 rfl rfl rfl rfl rfl (.c2 rfl rfl .nil))
        · refine js_h (hy_allocAt (id := 10) zero35 (by decide) rfl (by decide) rfl) (hd 15 rfl) ?_
          refine ja_t3 S6_33 7 (.c5 rfl rfl rfl rfl rfl (.c2 rfl rfl .nil))
      have S6_35 : JA Try.prog ops1 10 #[true, false, true, false, true, true, true, false, false, false, false, false, false, false, false] Γ ([(59, .a [.b sa, .n false .u64 a]), (61, .a [.b sb, .n false .u64 b]), (63, .p 4 0 0), (64, .b false), (65, .p 4 0 1)] ++ F0) [(ob sa a), (ob sb b), (oc 1 sa a), (oc 1 sb b), ⟨28, 2, 0, true, [.b false, .n false .u64 (lm (sv sa a))]⟩, (ow 0 false (sgnI (sv sa a))), ⟨28, 2, 0, true, [.b false, .n false .u64 []]⟩, ⟨28, 2, 0, true, [.b false, .n false .u64 []]⟩, oh, oh, oh] Q1 := by
        subst ho; subst hF; refine ja_l2 7 [8, 12, 13, 14] (lo_l (ly_ld one28 rfl rfl rfl) (hd 66 rfl)) rfl (by kernel_rfl) (by kernel_rfl) (by kernel_rfl) (by kernel_rfl) hpan ?_
        refine ja_t3 S6_34 6 (.c5 rfl rfl rfl rfl rfl (.cons rfl .nil))
      have S6_36 : JA Try.prog ops1 11 #[true, false, true, false, true, true, false, false, false, false, false, false, false, false, false] Γ ([(59, .a [.b sa, .n false .u64 a]), (61, .a [.b sb, .n false .u64 b]), (63, .p 4 0 0), (64, .b false)] ++ F0) [(ob sa a), (ob sb b), (oc 1 sa a), (oc 1 sb b), ⟨28, 2, 0, true, [.b false, .n false .u64 (lm (sv sa a))]⟩, (ow 0 false (sgnI (sv sa a))), ⟨28, 2, 0, true, [.b false, .n false .u64 []]⟩, ⟨28, 2, 0, true, [.b false, .n false .u64 []]⟩, oh, oh, oh] Q1 := by
        subst ho; subst hF; refine ja_l2 6 [7, 8, 12, 13, 14] (lo_l (ly_fa fld30_1 rfl rfl rfl) (hd 65 rfl)) rfl (by kernel_rfl) (by kernel_rfl) (by kernel_rfl) (by kernel_rfl) hpan ?_
        refine ja_t3 S6_35 5 (.c5 rfl rfl rfl rfl rfl .nil)
      have S6_37 : JA Try.prog ops1 12 #[true, false, true, false, true, false, false, false, false, false, false, false, false, false, false] Γ ([(59, .a [.b sa, .n false .u64 a]), (61, .a [.b sb, .n false .u64 b]), (63, .p 4 0 0)] ++ F0) [(ob sa a), (ob sb b), (oc 1 sa a), (oc 1 sb b), ⟨28, 2, 0, true, [.b false, .n false .u64 (lm (sv sa a))]⟩, (ow 0 false (sgnI (sv sa a))), ⟨28, 2, 0, true, [.b false, .n false .u64 []]⟩, ⟨28, 2, 0, true, [.b false, .n false .u64 []]⟩, oh, oh, oh] Q1 := by
        subst ho; subst hF; refine ja_l2 5 [8, 12, 13, 14] (lo_l (ly_ld one4 rfl rfl rfl) (hd 64 rfl)) rfl (by kernel_rfl) (by kernel_rfl) (by kernel_rfl) (by kernel_rfl) hpan ?_
        refine ja_t3 S6_36 4 (.c2 rfl rfl (.c2 rfl rfl .nil))
      have S6_38 : JA Try.prog ops1 13 #[true, false, true, false, false, false, false, false, false, false, false, false, false, false, false] Γ ([(59, .a [.b sa, .n false .u64 a]), (61, .a [.b sb, .n false .u64 b])] ++ F0) [(ob sa a), (ob sb b), (oc 1 sa a), (oc 1 sb b), ⟨28, 2, 0, true, [.b false, .n false .u64 (lm (sv sa a))]⟩, (ow 0 false (sgnI (sv sa a))), ⟨28, 2, 0, true, [.b false, .n false .u64 []]⟩, ⟨28, 2, 0, true, [.b false, .n false .u64 []]⟩, oh, oh, oh] Q1 := by
        subst ho; subst hF; refine ja_l2 4 [5, 8, 12, 13, 14] (lo_l (ly_fa fld30_0 rfl rfl rfl) (hd 63 rfl)) rfl (by kernel_rfl) (by kernel_rfl) (by kernel_rfl) (by kernel_rfl) hpan ?_
        refine ja_t3 S6_37 3 (.c2 rfl rfl (.cons rfl .nil))
      have S6_39 : JA Try.prog ops1 14 #[true, false, false, false, false, false, false, false, false, false, false, false, false, false, false] Γ ([(59, .a [.b sa, .n false .u64 a])] ++ F0) [(ob sa a), (ob sb b), (oc 1 sa a), (oc 1 sb b), ⟨28, 2, 0, true, [.b false, .n false .u64 (lm (sv sa a))]⟩, (ow 0 false (sgnI (sv sa a))), ⟨28, 2, 0, true, [.b false, .n false .u64 []]⟩, ⟨28, 2, 0, true, [.b false, .n false .u64 []]⟩, oh, oh, oh] Q1 := by
        subst ho; subst hF; refine ja_l2 2 [3, 8, 12, 13, 14] (lo_l (ly_lda agg27 rfl rfl rfl rfl) (hd 61 rfl)) rfl (by kernel_rfl) (by kernel_rfl) (by kernel_rfl) (by kernel_rfl) hpan ?_
        refine ja_t3 S6_38 2 (.c2 rfl rfl .nil)
      have S6_40 : JA Try.prog ops1 15 #[false, false, false, false, false, false, false, false, false, false, false, false, false, false, false] Γ ([] ++ F0) [(ob sa a), (ob sb b), (oc 1 sa a), (oc 1 sb b), ⟨28, 2, 0, true, [.b false, .n false .u64 (lm (sv sa a))]⟩, (ow 0 false (sgnI (sv sa a))), ⟨28, 2, 0, true, [.b false, .n false .u64 []]⟩, ⟨28, 2, 0, true, [.b false, .n false .u64 []]⟩, oh, oh, oh] Q1 := by
        subst ho; subst hF; refine ja_l2 0 [1, 3, 8, 12, 13, 14] (lo_l (ly_lda agg27 rfl rfl rfl rfl) (hd 59 rfl)) rfl (by kernel_rfl) (by kernel_rfl) (by kernel_rfl) (by kernel_rfl) hpan ?_
        refine ja_t3 S6_39 1 (.cons rfl .nil)
      subst ho; subst hF
      exact ja_to (m := []) (by decide) rfl (cov_n 0 rfl rfl .nil) S6_40
  have S1_1 : JA Try.prog ops1 1 #[true, true, true, true, true, true, true, false] Γ ([(5, .p 2 1 0), (6, .p 3 1 0), (23, .a [.b sa, .n false .u64 a]), (24, .a [.b sa, .n false .u64 a]), (25, .a [.b sb, .n false .u64 b]), (26, .a [.b sb, .n false .u64 b])] ++ F0) [(ob sa a), (ob sb b), (oc 1 sa a), ⟨28, 2, 1, true, [.b false, .c (.slice none 0 0)]⟩] Q1 := by
    subst ho; subst hF
    refine ja_1 7 ?_ rfl (by kernel_rfl)
    refine js_st (sy_store rfl rfl rfl siz30 rfl rfl (Nat.le_of_ble_eq_true rfl)) rfl ?_
    refine ja_t3 S1_0 6 (.c5 rfl rfl rfl rfl rfl (.cons rfl .nil))
  have S1_2 : JA Try.prog ops1 2 #[true, true, true, true, true, true, false, false] Γ ([(5, .p 2 1 0), (6, .p 3 1 0), (23, .a [.b sa, .n false .u64 a]), (24, .a [.b sa, .n false .u64 a]), (25, .a [.b sb, .n false .u64 b]), (26, .a [.b sb, .n false .u64 b])] ++ F0) [(ob sa a), (ob sb b), ⟨28, 2, 1, true, [.b false, .c (.slice none 0 0)]⟩, ⟨28, 2, 1, true, [.b false, .c (.slice none 0 0)]⟩] Q1 := by
    subst ho; subst hF
    refine ja_1 6 ?_ rfl (by kernel_rfl)
    refine js_st (sy_store rfl rfl rfl siz30 rfl rfl (Nat.le_of_ble_eq_true rfl)) rfl ?_
    refine ja_t3 S1_1 6 (.c5 rfl rfl rfl rfl rfl (.cons rfl .nil))
  have S1_3 : JA Try.prog ops1 3 #[true, true, true, true, true, false, false, false] Γ ([(5, .p 2 1 0), (23, .a [.b sa, .n false .u64 a]), (24, .a [.b sa, .n false .u64 a]), (25, .a [.b sb, .n false .u64 b]), (26, .a [.b sb, .n false .u64 b])] ++ F0) [(ob sa a), (ob sb b), ⟨28, 2, 1, true, [.b false, .c (.slice none 0 0)]⟩, oh] Q1 := by
    subst ho; subst hF
    refine ja_1 5 ?_ rfl (by kernel_rfl)
    refine js_h (hy_allocAt (id := 3) zero30 (by decide) rfl (by decide) rfl) (hd 6 rfl) ?_
    refine ja_t3 S1_2 6 (.c5 rfl rfl rfl rfl rfl (.cons rfl .nil))
  have S1_4 : JA Try.prog ops1 3 #[true, true, true, true, false, true, false, false] Γ ([(6, .p 3 1 0), (23, .a [.b sa, .n false .u64 a]), (24, .a [.b sa, .n false .u64 a]), (25, .a [.b sb, .n false .u64 b]), (26, .a [.b sb, .n false .u64 b])] ++ F0) [(ob sa a), (ob sb b), oh, ⟨28, 2, 1, true, [.b false, .c (.slice none 0 0)]⟩] Q1 := by
    subst ho; subst hF
    refine ja_1 4 ?_ rfl (by kernel_rfl)
    refine js_h (hy_allocAt (id := 2) zero30 (by decide) rfl (by decide) rfl) (hd 5 rfl) ?_
    refine ja_t3 S1_2 6 (.c5 rfl rfl rfl rfl rfl (.cons rfl .nil))
  have S1_5 : JA Try.prog ops1 4 #[true, true, true, true, false, false, false, false] Γ ([(23, .a [.b sa, .n false .u64 a]), (24, .a [.b sa, .n false .u64 a]), (25, .a [.b sb, .n false .u64 b]), (26, .a [.b sb, .n false .u64 b])] ++ F0) [(ob sa a), (ob sb b), oh, oh] Q1 := by
    subst ho; subst hF
    refine ja_2 4 5 ?_ ?_ rfl rfl (by kernel_rfl)
    · refine js_h (hy_allocAt (id := 2) zero30 (by decide) rfl (by decide) rfl) (hd 5 rfl) ?_
      refine ja_t3 S1_3 5 (.c5 rfl rfl rfl rfl rfl .nil)
    · refine js_h (hy_allocAt (id := 3) zero30 (by decide) rfl (by decide) rfl) (hd 6 rfl) ?_
      refine ja_t3 S1_4 5 (.c5 rfl rfl rfl rfl rfl .nil)
  have S1_6 : JA Try.prog ops1 3 #[true, true, true, false, true, true, false, false] Γ ([(5, .p 2 1 0), (6, .p 3 1 0), (23, .a [.b sa, .n false .u64 a]), (24, .a [.b sa, .n false .u64 a]), (25, .a [.b sb, .n false .u64 b])] ++ F0) [(ob sa a), (ob sb b), ⟨28, 2, 1, true, [.b false, .c (.slice none 0 0)]⟩, ⟨28, 2, 1, true, [.b false, .c (.slice none 0 0)]⟩] Q1 := by
    subst ho; subst hF
    refine ja_1 3 ?_ rfl (by kernel_rfl)
    refine js_call Try.f11 (in_s sb b) rfl Try.func11 rfl rfl (ovL_cons rfl ovL_nil) (.cons (.a1 .b (.a1 .n .a0)) .nil) (hd 26 rfl) ?_ (fun ch hp => by simp at hp)
    rintro y hy; injection hy with hy; subst hy
    refine ja_t3 S1_2 6 (.c5 rfl rfl rfl rfl rfl (.cons rfl .nil))
  have S1_7 : JA Try.prog ops1 4 #[true, true, true, false, true, false, false, false] Γ ([(5, .p 2 1 0), (23, .a [.b sa, .n false .u64 a]), (24, .a [.b sa, .n false .u64 a]), (25, .a [.b sb, .n false .u64 b])] ++ F0) [(ob sa a), (ob sb b), ⟨28, 2, 1, true, [.b false, .c (.slice none 0 0)]⟩, oh] Q1 := by
    subst ho; subst hF
    refine ja_2 3 5 ?_ ?_ rfl rfl (by kernel_rfl)
    · refine js_call Try.f11 (in_s sb b) rfl Try.func11 rfl rfl (ovL_cons rfl ovL_nil) (.cons (.a1 .b (.a1 .n .a0)) .nil) (hd 26 rfl) ?_ (fun ch hp => by simp at hp)
      rintro y hy; injection hy with hy; subst hy
      refine ja_t3 S1_3 5 (.c5 rfl rfl rfl rfl rfl .nil)
    · refine js_h (hy_allocAt (id := 3) zero30 (by decide) rfl (by decide) rfl) (hd 6 rfl) ?_
      refine ja_t3 S1_6 5 (.c5 rfl rfl rfl rfl rfl .nil)
  have S1_8 : JA Try.prog ops1 4 #[true, true, true, false, false, true, false, false] Γ ([(6, .p 3 1 0), (23, .a [.b sa, .n false .u64 a]), (24, .a [.b sa, .n false .u64 a]), (25, .a [.b sb, .n false .u64 b])] ++ F0) [(ob sa a), (ob sb b), oh, ⟨28, 2, 1, true, [.b false, .c (.slice none 0 0)]⟩] Q1 := by
    subst ho; subst hF
    refine ja_2 3 4 ?_ ?_ rfl rfl (by kernel_rfl)
    · refine js_call Try.f11 (in_s sb b) rfl Try.func11 rfl rfl (ovL_cons rfl ovL_nil) (.cons (.a1 .b (.a1 .n .a0)) .nil) (hd 26 rfl) ?_ (fun ch hp => by simp at hp)
      rintro y hy; injection hy with hy; subst hy
      refine ja_t3 S1_4 5 (.c5 rfl rfl rfl rfl rfl .nil)
    · refine js_h (hy_allocAt (id := 2) zero30 (by decide) rfl (by decide) rfl) (hd 5 rfl) ?_
      refine ja_t3 S1_6 5 (.c5 rfl rfl rfl rfl rfl .nil)
  have S1_9 : JA Try.prog ops1 5 #[true, true, true, false, false, false, false, false] Γ ([(23, .a [.b sa, .n false .u64 a]), (24, .a [.b sa, .n false .u64 a]), (25, .a [.b sb, .n false .u64 b])] ++ F0) [(ob sa a), (ob sb b), oh, oh] Q1 := by
    subst ho; subst hF
    refine ja_3 3 4 5 ?_ ?_ ?_ rfl rfl rfl (by kernel_rfl)
    · refine js_call Try.f11 (in_s sb b) rfl Try.func11 rfl rfl (ovL_cons rfl ovL_nil) (.cons (.a1 .b (.a1 .n .a0)) .nil) (hd 26 rfl) ?_ (fun ch hp => by simp at hp)
      rintro y hy; injection hy with hy; subst hy
      refine ja_t3 S1_5 4 (.c2 rfl rfl (.c2 rfl rfl .nil))
    · refine js_h (hy_allocAt (id := 2) zero30 (by decide) rfl (by decide) rfl) (hd 5 rfl) ?_
      refine ja_t3 S1_7 4 (.c2 rfl rfl (.c2 rfl rfl .nil))
    · refine js_h (hy_allocAt (id := 3) zero30 (by decide) rfl (by decide) rfl) (hd 6 rfl) ?_
      refine ja_t3 S1_8 4 (.c2 rfl rfl (.c2 rfl rfl .nil))
  have S1_10 : JA Try.prog ops1 4 #[true, false, true, false, true, true, false, false] Γ ([(5, .p 2 1 0), (6, .p 3 1 0), (23, .a [.b sa, .n false .u64 a]), (25, .a [.b sb, .n false .u64 b])] ++ F0) [(ob sa a), (ob sb b), ⟨28, 2, 1, true, [.b false, .c (.slice none 0 0)]⟩, ⟨28, 2, 1, true, [.b false, .c (.slice none 0 0)]⟩] Q1 := by
    subst ho; subst hF
    refine ja_1 1 ?_ rfl (by kernel_rfl)
    refine js_call Try.f11 (in_s sa a) rfl Try.func11 rfl rfl (ovL_cons rfl ovL_nil) (.cons (.a1 .b (.a1 .n .a0)) .nil) (hd 24 rfl) ?_ (fun ch hp => by simp at hp)
    rintro y hy; injection hy with hy; subst hy
    refine ja_t3 S1_6 5 (.c5 rfl rfl rfl rfl rfl .nil)
  have S1_11 : JA Try.prog ops1 5 #[true, false, true, false, true, false, false, false] Γ ([(5, .p 2 1 0), (23, .a [.b sa, .n false .u64 a]), (25, .a [.b sb, .n false .u64 b])] ++ F0) [(ob sa a), (ob sb b), ⟨28, 2, 1, true, [.b false, .c (.slice none 0 0)]⟩, oh] Q1 := by
    subst ho; subst hF
    refine ja_2 1 5 ?_ ?_ rfl rfl (by kernel_rfl)
    · refine js_call Try.f11 (in_s sa a) rfl Try.func11 rfl rfl (ovL_cons rfl ovL_nil) (.cons (.a1 .b (.a1 .n .a0)) .nil) (hd 24 rfl) ?_ (fun ch hp => by simp at hp)
      rintro y hy; injection hy with hy; subst hy
      refine ja_t3 S1_7 4 (.c2 rfl rfl (.c2 rfl rfl .nil))
    · refine js_h (hy_allocAt (id := 3) zero30 (by decide) rfl (by decide) rfl) (hd 6 rfl) ?_
      refine ja_t3 S1_10 4 (.c2 rfl rfl (.c2 rfl rfl .nil))
  have S1_12 : JA Try.prog ops1 5 #[true, false, true, false, false, true, false, false] Γ ([(6, .p 3 1 0), (23, .a [.b sa, .n false .u64 a]), (25, .a [.b sb, .n false .u64 b])] ++ F0) [(ob sa a), (ob sb b), oh, ⟨28, 2, 1, true, [.b false, .c (.slice none 0 0)]⟩] Q1 := by
    subst ho; subst hF
    refine ja_2 1 4 ?_ ?_ rfl rfl (by kernel_rfl)
    · refine js_call Try.f11 (in_s sa a) rfl Try.func11 rfl rfl (ovL_cons rfl ovL_nil) (.cons (.a1 .b (.a1 .n .a0)) .nil) (hd 24 rfl) ?_ (fun ch hp => by simp at hp)
      rintro y hy; injection hy with hy; subst hy
      refine ja_t3 S1_8 4 (.c2 rfl rfl (.c2 rfl rfl .nil))
    · refine js_h (hy_allocAt (id := 2) zero30 (by decide) rfl (by decide) rfl) (hd 5 rfl) ?_
      refine ja_t3 S1_10 4 (.c2 rfl rfl (.c2 rfl rfl .nil))
  have S1_13 : JA Try.prog ops1 6 #[true, false, true, false, false, false, false, false] Γ ([(23, .a [.b sa, .n false .u64 a]), (25, .a [.b sb, .n false .u64 b])] ++ F0) [(ob sa a), (ob sb b), oh, oh] Q1 := by
    subst ho; subst hF
    refine ja_3 1 4 5 ?_ ?_ ?_ rfl rfl rfl (by kernel_rfl)
    · refine js_call Try.f11 (in_s sa a) rfl Try.func11 rfl rfl (ovL_cons rfl ovL_nil) (.cons (.a1 .b (.a1 .n .a0)) .nil) (hd 24 rfl) ?_ (fun ch hp => by simp at hp)
      rintro y hy; injection hy with hy; subst hy
      refine ja_t3 S1_9 3 (.c2 rfl rfl (.cons rfl .nil))
    · refine js_h (hy_allocAt (id := 2) zero30 (by decide) rfl (by decide) rfl) (hd 5 rfl) ?_
      refine ja_t3 S1_11 3 (.c2 rfl rfl (.cons rfl .nil))
    · refine js_h (hy_allocAt (id := 3) zero30 (by decide) rfl (by decide) rfl) (hd 6 rfl) ?_
      refine ja_t3 S1_12 3 (.c2 rfl rfl (.cons rfl .nil))
  have S1_14 : JA Try.prog ops1 7 #[true, false, false, false, false, false, false, false] Γ ([(23, .a [.b sa, .n false .u64 a])] ++ F0) [(ob sa a), (ob sb b), oh, oh] Q1 := by
    subst ho; subst hF; refine ja_l2 2 [3, 6, 7] (lo_l (ly_lda agg27 rfl rfl rfl rfl) (hd 25 rfl)) rfl (by kernel_rfl) (by kernel_rfl) (by kernel_rfl) (by kernel_rfl) hpan ?_
    refine ja_t3 S1_13 2 (.c2 rfl rfl .nil)
  have S1_15 : JA Try.prog ops1 8 #[false, false, false, false, false, false, false, false] Γ ([] ++ F0) [(ob sa a), (ob sb b), oh, oh] Q1 := by
    subst ho; subst hF; refine ja_l2 0 [1, 3, 6, 7] (lo_l (ly_lda agg27 rfl rfl rfl rfl) (hd 23 rfl)) rfl (by kernel_rfl) (by kernel_rfl) (by kernel_rfl) (by kernel_rfl) hpan ?_
    refine ja_t3 S1_14 1 (.cons rfl .nil)
  subst ho; subst hF
  exact ja_to (m := []) (by decide) rfl (cov_n 0 rfl rfl .nil) S1_15
end Go.Proofs.Ythocbnfkjlgclaa.Vc
