/- What Bezout tells of two whole numbers divides both and is made of both, and an inverse is one, of every input of bulk at most 1048576 Texts joined: Zl, Zm, RCommon. -/
import Derived.Test.YthocbnfkjlgclaaK9
import Derived.Test.YthocbnfkjlgclaaRows
import Derived.WalkKit
import Derived.ProofKit
import Derived.OpenShut
import Derived.Carry
import Derived.JoinedCond
set_option linter.unusedVariables false
set_option linter.unusedSimpArgs false
/- The contract of surdlaw06.WholeCommon, not of 0. -/
namespace Go.Proofs.Ythocbnfkjlgclaa.Vc
open Go Go.RowKit
set_option maxHeartbeats 20000000 in
set_option maxRecDepth 100000 in
theorem WholeCommon_n (sa sb : Bool) (a b : List Int) (hab : a.length + b.length ≤ 1048572) (ua : u64s a) (ub : u64s b) (h0 : (sv sb b) ≠ 0) : Spec Try.prog 4 [.a [.b sa, .n false .u64 a], .a [.b sb, .n false .u64 b]] (fun o => o = .ret (.b true)) := by
  refine spec_of' [(0, .a [.b sa, .n false .u64 a]), (1, .a [.b sb, .n false .u64 b])] rfl Try.func4 rfl (Nat.le_of_ble_eq_true rfl) fun Γ hN hds hL hR => ?_
  have hd : ∀ d, Nat.blt d 179 = true → d < Γ.N := fun d h => by rw [hN]; exact Nat.le_of_ble_eq_true h
  have da := dg_lenN (s := sa) ua rfl
  have db := dg_lenN (s := sb) ub rfl
  have hlva := lenV_64 (s := sa) ua
  have hlwb := lenV_64 (s := sb) ub
  have hmv := lenV_lm (v := (sv sa a)) (by omega)
  have hd1 := dg_1
  refine jc_seq ?_; refine jc_region ?_; refine jo_h (hy_box (id := 0) (n := 2) rfl rfl rfl (by decide) rfl) (hd 2 rfl) ?_; refine jo_h (hy_box (id := 1) (n := 2) rfl rfl rfl (by decide) rfl) (hd 3 rfl) ?_; refine jo_l (ly_as rfl) (hd 4 rfl) ?_; refine jo_nil ?_; refine jc_seq ?_; refine jc_hold 2 _ ?_; refine jc_draw (n := 8) _ rfl mixed ?_; refine ja_gen (fun _ _ _ _ h => h) fun ops1 Q1 F0 hpan ho hq hF => ?_
  have S1_0 : JA Try.prog ops1 0 #[true, true, true, true, true, true, true, true] Γ ([(5, .p 2 1 0), (6, .p 3 1 0), (23, .a [.b sa, .n false .u64 a]), (24, .a [.b sa, .n false .u64 a]), (25, .a [.b sb, .n false .u64 b]), (26, .a [.b sb, .n false .u64 b])] ++ F0) [(ob sa a), (ob sb b), (oc 1 sa a), (oc 1 sb b)] Q1 := by
    subst ho; subst hq; subst hF; refine ja_nil (by kernel_rfl) ?_; refine jc_seq ?_; refine jc_H (H' := [(ob sa a), (ob sb b), (oc 1 sa a), (oc 1 sb b)]) rfl ?_; refine jc_region ?_; refine jo_l (ly_lda agg30 rfl rfl rfl rfl) (hd 28 rfl) ?_; refine jo_l (ly_lda agg30 rfl rfl rfl rfl) (hd 29 rfl) ?_
    refine jo_call Try.f17 (Bezout_s sa sb a b (sv sa a) (sv sb b) (by omega) (by omega) ua ub rfl rfl (by omega) h0) rfl Try.func17 rfl rfl (ovL_cons rfl (ovL_cons rfl ovL_nil)) (.cons (.a1 .b (.a1 .n .a0)) (.cons (.a1 .b (.a1 .n .a0)) .nil)) (hd 30 rfl) ?_ (fun ch hp => by simp at hp)
    rintro y ⟨g, x, hy, hE⟩; injection hy with hy; subst hy
    have hg0 := hE.ne h0
    have hgn := hE.g0
    obtain ⟨hb1, hb2, hb3⟩ := bez_step hE h0
    have hXb := emod_nn (v := x) hb1
    have hlX : lenV (x % qn (sv sb b) g) ≤ lenV (sv sb b) := lenV_mono (by omega)
    have hlg := lenV_mono (hE.le h0)
    have hmm := lenV_mul (sv sa a) (x % qn (sv sb b) g)
    have hms := lenV_sub g ((sv sa a) * (x % qn (sv sb b) g))
    have hmg := lenV_lm (v := g) (by omega)
    have hmX := lenV_lm (v := (x % qn (sv sb b) g)) (by omega)
    have hlY := lenV_mono (wq_abs (k := 0) (v := g - (sv sa a) * (x % qn (sv sb b) g)) h0).1
    have hmY := lenV_lm (v := (wq 0 (g - (sv sa a) * (x % qn (sv sb b) g)) (sv sb b))) (by omega)
    have hbz := bez_all hE h0
    have dgg := dg_mono (hE.le h0)
    have dgX := dg_mono (v := (x % qn (sv sb b) g)) (w := (sv sb b)) (by omega)
    have dm1 := dg_mul_len (sv sa a) (x % qn (sv sb b) g)
    have dm2 := dg_sub_len g ((sv sa a) * (x % qn (sv sb b) g))
    have dgY := dg_mono (wq_abs (k := 0) (v := g - (sv sa a) * (x % qn (sv sb b) g)) h0).1
    have dm3 := dg_mul_len (sv sb b) (wq 0 (g - (sv sa a) * (x % qn (sv sb b) g)) (sv sb b))
    have dsu : (dg ((sv sa a) * (x % qn (sv sb b) g) + (sv sb b) * (wq 0 (g - (sv sa a) * (x % qn (sv sb b) g)) (sv sb b)))).length = (dg g).length := by rw [hbz]
    have hda := hE.da
    have hfa := flo_exact hg0 hda.1
    have hfb := flo_exact hg0 hda.2
    refine jo_l (ly_mv rfl) (hd 27 rfl) ?_; refine jo_l (ly_ext rfl rfl) (hd 31 rfl) ?_; refine jo_l (ly_ext rfl rfl) (hd 32 rfl) ?_; refine jo_l (ly_ext rfl rfl) (hd 33 rfl) ?_; refine jo_l (ly_ext rfl rfl) (hd 34 rfl) ?_; refine jo_h (hy_alloc (id := 4) zero30 (by decide) rfl (by decide) rfl) (hd 7 rfl) ?_; refine jo_h (hy_alloc (id := 5) zero30 (by decide) rfl (by decide) rfl) (hd 8 rfl) ?_; refine jo_h (hy_alloc (id := 6) zero30 (by decide) rfl (by decide) rfl) (hd 9 rfl) ?_; refine jo_st (sy_store rfl rfl rfl siz30 rfl rfl (Nat.le_of_ble_eq_true rfl)) ?_
    as_aux_lemma =>
      refine jo_st (sy_store rfl rfl rfl siz30 rfl rfl (Nat.le_of_ble_eq_true rfl)) ?_; refine jo_st (sy_store rfl rfl rfl siz30 rfl rfl (Nat.le_of_ble_eq_true rfl)) ?_; refine jo_l (ly_as rfl) (hd 10 rfl) ?_; refine jo_nil ?_; refine jc_seq ?_; refine jc_region ?_; refine jo_l (ly_lda agg30 rfl rfl rfl rfl) (hd 36 rfl) ?_; refine jo_l (ly_lda agg30 rfl rfl rfl rfl) (hd 37 rfl) ?_
      refine jo_call Try.f18 (Inverse_s sa sb a b (sv sa a) (sv sb b) (by omega) (by omega) ua ub rfl rfl (by omega) h0) rfl Try.func18 rfl rfl (ovL_cons rfl (ovL_cons rfl ovL_nil)) (.cons (.a1 .b (.a1 .n .a0)) (.cons (.a1 .b (.a1 .n .a0)) .nil)) (hd 38 rfl) ?_ (fun ch hp => by simp at hp)
      rintro y ⟨s, l, e, hy, hI⟩; injection hy with hy; subst hy; refine jo_l (ly_mv rfl) (hd 35 rfl) ?_; refine jo_l (ly_ext rfl rfl) (hd 39 rfl) ?_; refine jo_l (ly_ext rfl rfl) (hd 40 rfl) ?_; refine jo_h (hy_alloc (id := 7) zero30 (by decide) rfl (by decide) rfl) (hd 11 rfl) ?_; refine jo_st (sy_store rfl rfl rfl siz30 rfl rfl (Nat.le_of_ble_eq_true rfl)) ?_; refine jo_l (ly_as rfl) (hd 12 rfl) ?_; refine jo_nil ?_; refine jc_seq ?_; refine jc_seq ?_; refine jc_region ?_; refine jo_l (ly_mv rfl) (hd 41 rfl) ?_
      refine jo_call Try.f13 (num_s 0) rfl Try.func13 rfl rfl (ovL_cons rfl ovL_nil) (.cons .i .nil) (hd 42 rfl) ?_ (fun ch hp => by simp at hp)
      rintro y hy; injection hy with hy; subst hy; refine jo_l (ly_ff (ly_ne rfl rfl) (fun h => h rfl)) (hd 43 rfl) ?_; refine jo_nil ?_; refine jc_litf rfl ?_; refine jc_skip ?_; refine jc_seq ?_; refine jc_H (H' := [(ob sa a), (ob sb b), (oc 1 sa a), (oc 1 sb b), (ow 0 false g), (ow 0 false (xc (sv sb b) g x)), (ow 0 false (yc (sv sa a) (sv sb b) g x)), (oc 0 s l)]) rfl ?_; refine jc_hold 3 _ ?_; refine jc_draw (n := 15) _ rfl mixed ?_; refine ja_gen (fun _ _ _ _ h => h) fun ops1 Q1 F0 hpan ho hq hF => ?_
      have S6_0 : JA Try.prog ops1 0 #[true, true, true, true, true, true, true, true, true, true, true, true, true, true, true] Γ ([(13, .p 8 1 0), (14, .p 9 1 0), (15, .p 10 1 0), (59, .a [.b sa, .n false .u64 a]), (60, (zz (sv sa a))), (61, .a [.b sb, .n false .u64 b]), (62, (zz (sv sb b))), (63, .p 4 0 0), (64, .b (decide (g < 0))), (65, .p 4 0 1), (66, .n false .u64 (lm g)), (67, (zz g))] ++ F0) [(ob sa a), (ob sb b), (oc 1 sa a), (oc 1 sb b), (ow 0 false g), (ow 0 false (xc (sv sb b) g x)), (ow 0 false (yc (sv sa a) (sv sb b) g x)), (oc 0 s l), (oz 1 (sv sa a)), (oz 1 (sv sb b)), (oz 1 g)] Q1 := by
        subst ho; subst hq; subst hF; refine ja_nil (by kernel_rfl) ?_; refine jc_seq ?_; refine jc_H (H' := [(ob sa a), (ob sb b), (oc 1 sa a), (oc 1 sb b), (ow 0 false g), (ow 0 false (xc (sv sb b) g x)), (ow 0 false (yc (sv sa a) (sv sb b) g x)), (oc 0 s l), (oz 1 (sv sa a)), (oz 1 (sv sb b)), (oz 1 g)]) rfl ?_; refine jc_hold 1 _ ?_; refine jc_draw (n := 17) _ rfl mixed ?_; refine ja_gen (fun _ _ _ _ h => h) fun ops1 Q1 F0 hpan ho hq hF => ?_
        have S7_0 : JA Try.prog ops1 0 #[true, true, true, true, true, true, true, true, true, true, true, true, true, true, true, true, true] Γ ([(16, .p 11 1 0), (68, (zz (sv sa a))), (69, .p 5 0 0), (70, .b (decide ((xc (sv sb b) g x) < 0))), (71, .p 5 0 1), (72, .n false .u64 (lm (xc (sv sb b) g x))), (73, (zz (xc (sv sb b) g x))), (74, (zz ((sv sa a) * (xc (sv sb b) g x)))), (75, (zz (sv sb b))), (76, .p 6 0 0), (77, .b (decide ((yc (sv sa a) (sv sb b) g x) < 0))), (78, .p 6 0 1), (79, .n false .u64 (lm (yc (sv sa a) (sv sb b) g x))), (80, (zz (yc (sv sa a) (sv sb b) g x))), (81, (zz ((sv sb b) * (yc (sv sa a) (sv sb b) g x)))), (82, (zz ((sv sa a) * (xc (sv sb b) g x) + (sv sb b) * (yc (sv sa a) (sv sb b) g x))))] ++ F0) [(ob sa a), (ob sb b), (oc 1 sa a), (oc 1 sb b), (ow 0 false g), (ow 0 false (xc (sv sb b) g x)), (ow 0 false (yc (sv sa a) (sv sb b) g x)), (oc 0 s l), (oz 1 (sv sa a)), (oz 1 (sv sb b)), (oz 1 g), (oz 1 ((sv sa a) * (xc (sv sb b) g x) + (sv sb b) * (yc (sv sa a) (sv sb b) g x)))] Q1 := by
          subst ho; subst hq; subst hF; refine ja_nil (by kernel_rfl) ?_; refine jc_seq ?_; refine jc_seq ?_; refine jc_H (H' := [(ob sa a), (ob sb b), (oc 1 sa a), (oc 1 sb b), (ow 0 false g), (ow 0 false (xc (sv sb b) g x)), (ow 0 false (yc (sv sa a) (sv sb b) g x)), (oc 0 s l), (oz 1 (sv sa a)), (oz 1 (sv sb b)), (oz 1 g), (oz 1 ((sv sa a) * (xc (sv sb b) g x) + (sv sb b) * (yc (sv sa a) (sv sb b) g x)))]) rfl ?_; refine jc_region ?_; refine jo_l (ly_lda agg35 rfl rfl rfl rfl) (hd 83 rfl) ?_; refine jo_l (ly_lda agg35 rfl rfl rfl rfl) (hd 84 rfl) ?_
          refine jo_call Try.f22 (ZCmp_s ((sv sa a) * (x % qn (sv sb b) g) + (sv sb b) * (wq 0 (g - (sv sa a) * (x % qn (sv sb b) g)) (sv sb b))) g (by omega) (by omega)) rfl Try.func22 rfl rfl (ovL_cons rfl (ovL_cons rfl ovL_nil)) (.cons (.a1 .b (.a1 .n .a0)) (.cons (.a1 .b (.a1 .n .a0)) .nil)) (hd 85 rfl) ?_ (fun ch hp => by simp at hp)
          rintro y hy; injection hy with hy; subst hy; refine jo_l (ly_ff (ly_ne rfl rfl) (fun h => h (cmpI_0.2 hbz))) (hd 86 rfl) ?_; refine jo_l (ly_mv rfl) (hd 87 rfl) ?_; refine jo_g 87 rfl rfl (ly_fa fld35_0 rfl rfl rfl) (hd 88 rfl) ?_; refine jo_g 87 rfl rfl (ly_ff (ly_ld one4 rfl rfl rfl) (by omega)) (hd 89 rfl) ?_; refine jo_l (ly_pick_f rfl rfl) (hd 90 rfl) ?_; refine jo_nil ?_; refine jc_litf rfl ?_; refine jc_skip ?_; refine jc_seq ?_; refine jc_seq ?_; refine jc_region ?_; refine jo_l (ly_lda agg35 rfl rfl rfl rfl) (hd 91 rfl) ?_
          refine jo_call Try.f23 (ZSign_s g) rfl Try.func23 rfl rfl (ovL_cons rfl ovL_nil) (.cons (.a1 .b (.a1 .n .a0)) .nil) (hd 92 rfl) ?_ (fun ch hp => by simp at hp)
          rintro y hy; injection hy with hy; subst hy; refine jo_l (ly_ff (ly_eq rfl rfl) (fun h => hg0 (sgnI_0.1 h))) (hd 93 rfl) ?_; refine jo_nil ?_; refine jc_litf rfl ?_; refine jc_skip ?_; refine jc_seq ?_; refine jc_region ?_; refine jo_l (ly_lda agg35 rfl rfl rfl rfl) (hd 106 rfl) ?_; refine jo_l (ly_lda agg35 rfl rfl rfl rfl) (hd 107 rfl) ?_
          refine jo_call Try.f24 (rFloor_s (sv sa a) g (by omega) (by omega) (by omega)) rfl Try.func24 rfl rfl (ovL_cons rfl (ovL_cons rfl ovL_nil)) (.cons (.a1 .b (.a1 .n .a0)) (.cons (.a1 .b (.a1 .n .a0)) .nil)) (hd 108 rfl) ?_ (fun ch hp => by simp at hp)
          rintro y hy; injection hy with hy; subst hy; refine jo_l (ly_mv rfl) (hd 105 rfl) ?_; refine jo_l (ly_ext rfl rfl) (hd 109 rfl) ?_; refine jo_l (ly_ext rfl rfl) (hd 110 rfl) ?_; refine jo_h (hy_alloc (id := 12) zero35 (by decide) rfl (by decide) rfl) (hd 17 rfl) ?_; refine jo_h (hy_alloc (id := 13) zero35 (by decide) rfl (by decide) rfl) (hd 18 rfl) ?_; refine jo_st (sy_store rfl rfl rfl siz35 rfl rfl (Nat.le_of_ble_eq_true rfl)) ?_; refine jo_st (sy_store rfl rfl rfl siz35 rfl rfl (Nat.le_of_ble_eq_true rfl)) ?_; refine jo_nil ?_; refine jc_seq ?_; refine jc_H (H' := [(ob sa a), (ob sb b), (oc 1 sa a), (oc 1 sb b), (ow 0 false g), (ow 0 false (xc (sv sb b) g x)), (ow 0 false (yc (sv sa a) (sv sb b) g x)), (oc 0 s l), (oz 1 (sv sa a)), (oz 1 (sv sb b)), (oz 1 g), (oz 1 ((sv sa a) * (xc (sv sb b) g x) + (sv sb b) * (yc (sv sa a) (sv sb b) g x))), (oz 0 (flo (sv sa a) g)), (oz 0 ((sv sa a) - flo (sv sa a) g * g))]) rfl ?_; refine jc_region ?_; refine jo_l (ly_lda agg35 rfl rfl rfl rfl) (hd 112 rfl) ?_; refine jo_l (ly_lda agg35 rfl rfl rfl rfl) (hd 113 rfl) ?_
          refine jo_call Try.f24 (rFloor_s (sv sb b) g (by omega) (by omega) (by omega)) rfl Try.func24 rfl rfl (ovL_cons rfl (ovL_cons rfl ovL_nil)) (.cons (.a1 .b (.a1 .n .a0)) (.cons (.a1 .b (.a1 .n .a0)) .nil)) (hd 114 rfl) ?_ (fun ch hp => by simp at hp)
          rintro y hy; injection hy with hy; subst hy; refine jo_l (ly_mv rfl) (hd 111 rfl) ?_; refine jo_l (ly_ext rfl rfl) (hd 115 rfl) ?_; refine jo_l (ly_ext rfl rfl) (hd 116 rfl) ?_; refine jo_h (hy_alloc (id := 14) zero35 (by decide) rfl (by decide) rfl) (hd 19 rfl) ?_; refine jo_h (hy_alloc (id := 15) zero35 (by decide) rfl (by decide) rfl) (hd 20 rfl) ?_; refine jo_st (sy_store rfl rfl rfl siz35 rfl rfl (Nat.le_of_ble_eq_true rfl)) ?_; refine jo_st (sy_store rfl rfl rfl siz35 rfl rfl (Nat.le_of_ble_eq_true rfl)) ?_; refine jo_nil ?_; refine jc_seq ?_; refine jc_seq ?_; refine jc_H (H' := [(ob sa a), (ob sb b), (oc 1 sa a), (oc 1 sb b), (ow 0 false g), (ow 0 false (xc (sv sb b) g x)), (ow 0 false (yc (sv sa a) (sv sb b) g x)), (oc 0 s l), (oz 1 (sv sa a)), (oz 1 (sv sb b)), (oz 1 g), (oz 1 ((sv sa a) * (xc (sv sb b) g x) + (sv sb b) * (yc (sv sa a) (sv sb b) g x))), (oz 0 (flo (sv sa a) g)), (oz 0 ((sv sa a) - flo (sv sa a) g * g)), (oz 0 (flo (sv sb b) g)), (oz 0 ((sv sb b) - flo (sv sb b) g * g))]) rfl ?_; refine jc_region ?_; refine jo_l (ly_lda agg35 rfl rfl rfl rfl) (hd 117 rfl) ?_
          refine jo_call Try.f23 (ZSign_s ((sv sa a) - flo (sv sa a) g * g)) rfl Try.func23 rfl rfl (ovL_cons rfl ovL_nil) (.cons (.a1 .b (.a1 .n .a0)) .nil) (hd 118 rfl) ?_ (fun ch hp => by simp at hp)
          rintro y hy; injection hy with hy; subst hy; refine jo_l (ly_ff (ly_ne rfl rfl) (fun h => h (sgnI_0.2 hfa))) (hd 119 rfl) ?_; refine jo_l (ly_mv rfl) (hd 120 rfl) ?_; refine jo_g 120 rfl rfl (ly_lda agg35 rfl rfl rfl rfl) (hd 121 rfl) ?_
          refine jo_callg Try.f23 120 rfl rfl (ZSign_s ((sv sb b) - flo (sv sb b) g * g)) rfl Try.func23 rfl rfl (ovL_cons rfl ovL_nil) (.cons (.a1 .b (.a1 .n .a0)) .nil) (hd 122 rfl) ?_ (fun ch hp => by simp at hp)
          rintro y hy; injection hy with hy; subst hy; refine jo_g 120 rfl rfl (ly_ff (ly_ne rfl rfl) (fun h => h (sgnI_0.2 hfb))) (hd 123 rfl) ?_; refine jo_l (ly_pick_f rfl rfl) (hd 124 rfl) ?_; refine jo_nil ?_; refine jc_litf rfl ?_; refine jc_skip ?_; refine jc_seq ?_; refine jc_seq ?_; refine jc_region ?_; refine jo_l (ly_lda agg35 rfl rfl rfl rfl) (hd 125 rfl) ?_
          refine jo_call Try.f23 (ZSign_s (sv sb b)) rfl Try.func23 rfl rfl (ovL_cons rfl ovL_nil) (.cons (.a1 .b (.a1 .n .a0)) .nil) (hd 126 rfl) ?_ (fun ch hp => by simp at hp)
          rintro y hy; injection hy with hy; subst hy; refine jo_l (ly_ff (ly_eq rfl rfl) (fun h => h0 (sgnI_0.1 h))) (hd 127 rfl) ?_; refine jo_l (ly_mv rfl) (hd 128 rfl) ?_; refine jo_g 128 rfl rfl (ly_fa fld35_1 rfl rfl rfl) (hd 129 rfl) ?_; refine jo_g 128 rfl rfl (ly_ld one33 rfl rfl rfl) (hd 130 rfl) ?_
          refine jo_callg Try.f15 128 rfl rfl (Len_s g (by omega)) rfl Try.func15 rfl rfl (ovL_cons rfl ovL_nil) (.cons .n .nil) (hd 131 rfl) ?_ (fun ch hp => by simp at hp)
          rintro y hy; injection hy with hy; subst hy; refine jo_g 128 rfl rfl (ly_gt rfl rfl) (hd 132 rfl) ?_; refine jo_l (ly_pick_f rfl rfl) (hd 133 rfl) ?_; refine jo_nil ?_
          refine jc_if rfl (fun h5 => ?_) (fun h5 => ?_)
          · have hg1 : g ≠ 1 := (lenV_1 hgn hg0).1 h5
            have he := hI.no hE hg1
            refine jc_seq ?_; refine jc_region ?_; refine jo_l (ly_mv rfl) (hd 134 rfl) ?_
            refine jo_call Try.f13 (num_s e) rfl Try.func13 rfl rfl (ovL_cons rfl ovL_nil) (.cons .i .nil) (hd 135 rfl) ?_ (fun ch hp => by simp at hp)
            rintro y hy; injection hy with hy; subst hy; refine jo_l (ly_tt (ly_ne rfl rfl) (by omega)) (hd 136 rfl) ?_; refine jo_l (ly_mv rfl) (hd 137 rfl) ?_
            refine jo_callg Try.f8 137 rfl rfl (awake_s) rfl Try.func8 rfl rfl ovL_nil .nil (hd 138 rfl) ?_ (fun ch hp => by simp at hp)
            rintro y hy; injection hy with hy; subst hy; refine jo_l (ly_pick_t rfl rfl) (hd 139 rfl) ?_; refine jo_l (ly_as rfl) (hd 4 rfl) ?_; refine jo_nil ?_; refine jc_ret ?_
            refine ⟨_, _, (.cons rfl .nil), .b, ?_⟩
            exact rfl
          · have hg1 : g = 1 := Decidable.not_not.1 (fun hh => h5 ((lenV_1 hgn hg0).2 hh))
            obtain ⟨i, hi0, hi1, hs, hl, he, hdi⟩ := hI.yes h0 hE hg1
            subst hs; subst hl; subst he
            have hli := lenV_mono (v := i) (w := (sv sb b)) (by omega)
            have hmi := lenV_lm (v := i) (by omega)
            have dgi := dg_mono (v := i) (w := (sv sb b)) (by omega)
            have di1 := dg_mul_len (sv sa a) i
            have di2 := dg_sub_len ((sv sa a) * i) 1
            have hfi := flo_exact h0 hdi
            have dab : (dg (((sv sb b)).natAbs : Int)).length = (dg (sv sb b)).length := congrArg List.length dg_abs
            have hOi : Spec Try.prog 19 [.b false, .n false .u64 (lm i)] (fun o => o = .ret (.a [.b (decide (i < 0)), .n false .u64 (dg i)])) := by have h := ZOf_s false (lm i) (by omega) (lm_u _); rwa [show sv false (lm i) = i from vl_lm hi0] at h
            refine jc_skip ?_; refine jc_seq ?_; refine jc_H (H' := [(ob sa a), (ob sb b), (oc 1 sa a), (oc 1 sb b), (ow 0 false g), (ow 0 false (xc (sv sb b) g x)), (ow 0 false (yc (sv sa a) (sv sb b) g x)), (ow 0 false i), (oz 1 (sv sa a)), (oz 1 (sv sb b)), (oz 1 g), (oz 1 ((sv sa a) * (xc (sv sb b) g x) + (sv sb b) * (yc (sv sa a) (sv sb b) g x))), (oz 0 (flo (sv sa a) g)), (oz 0 ((sv sa a) - flo (sv sa a) g * g)), (oz 0 (flo (sv sb b) g)), (oz 0 ((sv sb b) - flo (sv sb b) g * g))]) rfl ?_; refine jc_hold 2 _ ?_; refine jc_draw (n := 18) _ rfl mixed ?_; refine ja_gen (fun _ _ _ _ h => h) fun ops1 Q1 F0 hpan ho hq hF => ?_
            have S18_0 : JA Try.prog ops1 0 #[true, true, true, true, true, true, true, true, true, true, true, true, true, true, true, true, true, true] Γ ([(21, .p 16 1 0), (22, .p 17 1 0), (140, .t [(zz (flo ((sv sa a) * i - 1) (sv sb b))), (zz (((sv sa a) * i - 1) - flo ((sv sa a) * i - 1) (sv sb b) * (sv sb b)))]), (141, (zz (sv sa a))), (142, .p 7 0 0), (143, .b (decide (i < 0))), (144, .p 7 0 1), (145, .n false .u64 (lm i)), (146, (zz i)), (147, (zz ((sv sa a) * i))), (148, (zz 1)), (149, (zz ((sv sa a) * i - 1))), (150, (zz (sv sb b))), (151, .t [(zz (flo ((sv sa a) * i - 1) (sv sb b))), (zz (((sv sa a) * i - 1) - flo ((sv sa a) * i - 1) (sv sb b) * (sv sb b)))]), (152, (zz (flo ((sv sa a) * i - 1) (sv sb b)))), (153, (zz (((sv sa a) * i - 1) - flo ((sv sa a) * i - 1) (sv sb b) * (sv sb b))))] ++ F0) [(ob sa a), (ob sb b), (oc 1 sa a), (oc 1 sb b), (ow 0 false g), (ow 0 false (xc (sv sb b) g x)), (ow 0 false (yc (sv sa a) (sv sb b) g x)), (ow 0 false i), (oz 1 (sv sa a)), (oz 1 (sv sb b)), (oz 1 g), (oz 1 ((sv sa a) * (xc (sv sb b) g x) + (sv sb b) * (yc (sv sa a) (sv sb b) g x))), (oz 0 (flo (sv sa a) g)), (oz 0 ((sv sa a) - flo (sv sa a) g * g)), (oz 0 (flo (sv sb b) g)), (oz 0 ((sv sb b) - flo (sv sb b) g * g)), (oz 1 (flo ((sv sa a) * i - 1) (sv sb b))), (oz 1 (((sv sa a) * i - 1) - flo ((sv sa a) * i - 1) (sv sb b) * (sv sb b)))] Q1 := by
              subst ho; subst hq; subst hF; refine ja_nil (by kernel_rfl) ?_; refine jc_seq ?_; refine jc_H (H' := [(ob sa a), (ob sb b), (oc 1 sa a), (oc 1 sb b), (ow 0 false g), (ow 0 false (xc (sv sb b) g x)), (ow 0 false (yc (sv sa a) (sv sb b) g x)), (ow 0 false i), (oz 1 (sv sa a)), (oz 1 (sv sb b)), (oz 1 g), (oz 1 ((sv sa a) * (xc (sv sb b) g x) + (sv sb b) * (yc (sv sa a) (sv sb b) g x))), (oz 0 (flo (sv sa a) g)), (oz 0 ((sv sa a) - flo (sv sa a) g * g)), (oz 0 (flo (sv sb b) g)), (oz 0 ((sv sb b) - flo (sv sb b) g * g)), (oz 1 (flo ((sv sa a) * i - 1) (sv sb b))), (oz 1 (((sv sa a) * i - 1) - flo ((sv sa a) * i - 1) (sv sb b) * (sv sb b)))]) rfl ?_; refine jc_draw (n := 26) _ rfl mixed ?_; refine ja_l2 0 [1, 2, 3, 4, 5, 6, 7, 8, 9, 10, 11, 12, 13, 14, 15, 16, 17, 18, 19, 20, 21, 22, 23, 24, 25] (lo_l (ly_mv rfl) (hd 154 rfl)) rfl (by kernel_rfl) (by kernel_rfl) (by kernel_rfl) (by kernel_rfl) (fun _ _ _ _ h => h) ?_
              refine ja_1 1 ?_ rfl (by kernel_rfl)
              refine js_call Try.f13 (num_s 0) rfl Try.func13 rfl rfl (ovL_cons rfl ovL_nil) (.cons .i .nil) (hd 155 rfl) ?_ (fun ch hp => by simp at hp)
              rintro y hy; injection hy with hy; subst hy; refine ja_l2 2 [3, 4, 5, 6, 7, 8, 9, 10, 11, 12, 13, 14, 15, 16, 17, 18, 19, 20, 21, 22, 23, 24, 25] (lo_l (ly_tt (ly_eq rfl rfl) rfl) (hd 156 rfl)) rfl (by kernel_rfl) (by kernel_rfl) (by kernel_rfl) (by kernel_rfl) (fun _ _ _ _ h => h) ?_; refine ja_l2 3 [4, 5, 6, 7, 8, 9, 10, 11, 12, 13, 14, 15, 16, 17, 18, 19, 20, 21, 22, 23, 24, 25] (lo_l (ly_mv rfl) (hd 157 rfl)) rfl (by kernel_rfl) (by kernel_rfl) (by kernel_rfl) (by kernel_rfl) (fun _ _ _ _ h => h) ?_; refine ja_l2 4 [5, 6, 7, 8, 9, 10, 11, 12, 13, 14, 15, 16, 17, 18, 19, 20, 21, 22, 23, 24, 25] (lo_g 157 rfl rfl (ly_lda agg35 rfl rfl rfl rfl) (hd 158 rfl)) rfl (by kernel_rfl) (by kernel_rfl) (by kernel_rfl) (by kernel_rfl) (fun _ _ _ _ h => h) ?_
              refine ja_1 5 ?_ rfl (by kernel_rfl)
              refine js_callg Try.f23 157 rfl rfl (ZSign_s (((sv sa a) * i - 1) - flo ((sv sa a) * i - 1) (sv sb b) * (sv sb b))) rfl Try.func23 rfl rfl (ovL_cons rfl ovL_nil) (.cons (.a1 .b (.a1 .n .a0)) .nil) (hd 159 rfl) ?_ (fun ch hp => by simp at hp)
              rintro y hy; injection hy with hy; subst hy; refine ja_l2 6 [7, 8, 9, 10, 11, 12, 13, 14, 15, 16, 17, 18, 19, 20, 21, 22, 23, 24, 25] (lo_g 157 rfl rfl (ly_tt (ly_eq rfl rfl) (sgnI_0.2 hfi)) (hd 160 rfl)) rfl (by kernel_rfl) (by kernel_rfl) (by kernel_rfl) (by kernel_rfl) (fun _ _ _ _ h => h) ?_; refine ja_l2 7 [8, 9, 10, 11, 12, 13, 14, 15, 16, 17, 18, 19, 20, 21, 22, 23, 24, 25] (lo_l (ly_pick_t rfl rfl) (hd 161 rfl)) rfl (by kernel_rfl) (by kernel_rfl) (by kernel_rfl) (by kernel_rfl) (fun _ _ _ _ h => h) ?_; refine ja_l2 8 [9, 10, 11, 12, 13, 14, 15, 16, 17, 18, 19, 20, 21, 22, 23, 24, 25] (lo_l (ly_mv rfl) (hd 162 rfl)) rfl (by kernel_rfl) (by kernel_rfl) (by kernel_rfl) (by kernel_rfl) (fun _ _ _ _ h => h) ?_; refine ja_l2 9 [10, 11, 12, 13, 14, 15, 16, 17, 18, 19, 20, 21, 22, 23, 24, 25] (lo_g 162 rfl rfl (ly_fa fld30_0 rfl rfl rfl) (hd 163 rfl)) rfl (by kernel_rfl) (by kernel_rfl) (by kernel_rfl) (by kernel_rfl) (fun _ _ _ _ h => h) ?_; refine ja_l2 10 [11, 12, 13, 14, 15, 16, 17, 18, 19, 20, 21, 22, 23, 24, 25] (lo_g 162 rfl rfl (ly_ff (ly_ld one4 rfl rfl rfl) (by omega)) (hd 164 rfl)) rfl (by kernel_rfl) (by kernel_rfl) (by kernel_rfl) (by kernel_rfl) (fun _ _ _ _ h => h) ?_; refine ja_l2 11 [12, 13, 14, 15, 16, 17, 18, 19, 20, 21, 22, 23, 24, 25] (lo_g 162 rfl rfl (ly_not rfl) (hd 165 rfl)) rfl (by kernel_rfl) (by kernel_rfl) (by kernel_rfl) (by kernel_rfl) (fun _ _ _ _ h => h) ?_
              as_aux_lemma =>
                refine ja_l2 12 [13, 14, 15, 16, 17, 18, 19, 20, 21, 22, 23, 24, 25] (lo_l (ly_pick_t rfl rfl) (hd 166 rfl)) rfl (by kernel_rfl) (by kernel_rfl) (by kernel_rfl) (by kernel_rfl) (fun _ _ _ _ h => h) ?_; refine ja_l2 13 [14, 15, 16, 17, 18, 19, 20, 21, 22, 23, 24, 25] (lo_l (ly_mv rfl) (hd 167 rfl)) rfl (by kernel_rfl) (by kernel_rfl) (by kernel_rfl) (by kernel_rfl) (fun _ _ _ _ h => h) ?_; refine ja_l2 14 [15, 16, 18, 19, 20, 21, 22, 23, 24, 25] (lo_g 167 rfl rfl (ly_fa fld30_1 rfl rfl rfl) (hd 168 rfl)) rfl (by kernel_rfl) (by kernel_rfl) (by kernel_rfl) (by kernel_rfl) (fun _ _ _ _ h => h) ?_; refine ja_l2 15 [16, 18, 19, 20, 21, 22, 23, 24, 25] (lo_g 167 rfl rfl (ly_ld one28 rfl rfl rfl) (hd 169 rfl)) rfl (by kernel_rfl) (by kernel_rfl) (by kernel_rfl) (by kernel_rfl) (fun _ _ _ _ h => h) ?_; refine ja_l2 17 [18, 19, 20, 21, 22, 23, 24, 25] (lo_g 167 rfl rfl (ly_lda agg35 rfl rfl rfl rfl) (hd 171 rfl)) rfl (by kernel_rfl) (by kernel_rfl) (by kernel_rfl) (by kernel_rfl) (fun _ _ _ _ h => h) ?_
                refine ja_1 16 ?_ rfl (by kernel_rfl)
                refine js_callg Try.f19 167 rfl rfl (hOi) rfl Try.func19 rfl rfl (ovL_cons rfl (ovL_cons rfl ovL_nil)) (.cons .b (.cons .n .nil)) (hd 170 rfl) ?_ (fun ch hp => by simp at hp)
                rintro y hy; injection hy with hy; subst hy
                refine ja_1 18 ?_ rfl (by kernel_rfl)
                refine js_callg Try.f27 167 rfl rfl (ZAbs_s (sv sb b)) rfl Try.func27 rfl rfl (ovL_cons rfl ovL_nil) (.cons (.a1 .b (.a1 .n .a0)) .nil) (hd 172 rfl) ?_ (fun ch hp => by simp at hp)
                rintro y hy; injection hy with hy; subst hy
                refine ja_1 19 ?_ rfl (by kernel_rfl)
                refine js_callg Try.f22 167 rfl rfl (ZCmp_s i (((sv sb b)).natAbs : Int) (by omega) (by omega)) rfl Try.func22 rfl rfl (ovL_cons rfl (ovL_cons rfl ovL_nil)) (.cons (.a1 .b (.a1 .n .a0)) (.cons (.a1 .b (.a1 .n .a0)) .nil)) (hd 173 rfl) ?_ (fun ch hp => by simp at hp)
                rintro y hy; injection hy with hy; subst hy; refine ja_l2 20 [21, 22, 23, 24, 25] (lo_g 167 rfl rfl (ly_tt (ly_lt rfl rfl) (cmp_lt2 hi1)) (hd 174 rfl)) rfl (by kernel_rfl) (by kernel_rfl) (by kernel_rfl) (by kernel_rfl) (fun _ _ _ _ h => h) ?_; refine ja_l2 21 [22, 23, 24, 25] (lo_l (ly_pick_t rfl rfl) (hd 175 rfl)) rfl (by kernel_rfl) (by kernel_rfl) (by kernel_rfl) (by kernel_rfl) (fun _ _ _ _ h => h) ?_; refine ja_l 22 (lo_l (ly_mv rfl) (hd 176 rfl)) rfl (by kernel_rfl) (by kernel_rfl) (by kernel_rfl) (fun _ _ _ _ h => h) ?_
                refine ja_1 23 ?_ rfl (by kernel_rfl)
                refine js_callg Try.f8 176 rfl rfl (awake_s) rfl Try.func8 rfl rfl ovL_nil .nil (hd 177 rfl) ?_ (fun ch hp => by simp at hp)
                rintro y hy; injection hy with hy; subst hy
                as_aux_lemma =>
                  refine ja_l 24 (lo_l (ly_pick_t rfl rfl) (hd 178 rfl)) rfl (by kernel_rfl) (by kernel_rfl) (by kernel_rfl) (fun _ _ _ _ h => h) ?_; refine ja_l 25 (lo_l (ly_as rfl) (hd 4 rfl)) rfl (by kernel_rfl) (by kernel_rfl) (by kernel_rfl) (fun _ _ _ _ h => h) ?_; refine ja_nil (by kernel_rfl) ?_; refine jc_ret ?_
                  refine ⟨_, _, (.cons rfl .nil), .b, ?_⟩
                  exact rfl
            have S18_1 : JA Try.prog ops1 1 #[true, true, true, true, true, true, true, true, true, true, true, true, true, true, true, true, true, false] Γ ([(21, .p 16 1 0), (22, .p 17 1 0), (140, .t [(zz (flo ((sv sa a) * i - 1) (sv sb b))), (zz (((sv sa a) * i - 1) - flo ((sv sa a) * i - 1) (sv sb b) * (sv sb b)))]), (141, (zz (sv sa a))), (142, .p 7 0 0), (143, .b (decide (i < 0))), (144, .p 7 0 1), (145, .n false .u64 (lm i)), (146, (zz i)), (147, (zz ((sv sa a) * i))), (148, (zz 1)), (149, (zz ((sv sa a) * i - 1))), (150, (zz (sv sb b))), (151, .t [(zz (flo ((sv sa a) * i - 1) (sv sb b))), (zz (((sv sa a) * i - 1) - flo ((sv sa a) * i - 1) (sv sb b) * (sv sb b)))]), (152, (zz (flo ((sv sa a) * i - 1) (sv sb b)))), (153, (zz (((sv sa a) * i - 1) - flo ((sv sa a) * i - 1) (sv sb b) * (sv sb b))))] ++ F0) [(ob sa a), (ob sb b), (oc 1 sa a), (oc 1 sb b), (ow 0 false g), (ow 0 false (xc (sv sb b) g x)), (ow 0 false (yc (sv sa a) (sv sb b) g x)), (ow 0 false i), (oz 1 (sv sa a)), (oz 1 (sv sb b)), (oz 1 g), (oz 1 ((sv sa a) * (xc (sv sb b) g x) + (sv sb b) * (yc (sv sa a) (sv sb b) g x))), (oz 0 (flo (sv sa a) g)), (oz 0 ((sv sa a) - flo (sv sa a) g * g)), (oz 0 (flo (sv sb b) g)), (oz 0 ((sv sb b) - flo (sv sb b) g * g)), (oz 1 (flo ((sv sa a) * i - 1) (sv sb b))), oe] Q1 := by
              subst ho; subst hF
              refine ja_1 17 ?_ rfl (by kernel_rfl)
              refine js_st (sy_store rfl rfl rfl siz35 rfl rfl (Nat.le_of_ble_eq_true rfl)) rfl ?_
              refine ja_t3 S18_0 16 (.c5 rfl rfl rfl rfl rfl (.c5 rfl rfl rfl rfl rfl (.c5 rfl rfl rfl rfl rfl (.cons rfl .nil))))
            have S18_2 : JA Try.prog ops1 2 #[true, true, true, true, true, true, true, true, true, true, true, true, true, true, true, true, false, false] Γ ([(21, .p 16 1 0), (22, .p 17 1 0), (140, .t [(zz (flo ((sv sa a) * i - 1) (sv sb b))), (zz (((sv sa a) * i - 1) - flo ((sv sa a) * i - 1) (sv sb b) * (sv sb b)))]), (141, (zz (sv sa a))), (142, .p 7 0 0), (143, .b (decide (i < 0))), (144, .p 7 0 1), (145, .n false .u64 (lm i)), (146, (zz i)), (147, (zz ((sv sa a) * i))), (148, (zz 1)), (149, (zz ((sv sa a) * i - 1))), (150, (zz (sv sb b))), (151, .t [(zz (flo ((sv sa a) * i - 1) (sv sb b))), (zz (((sv sa a) * i - 1) - flo ((sv sa a) * i - 1) (sv sb b) * (sv sb b)))]), (152, (zz (flo ((sv sa a) * i - 1) (sv sb b)))), (153, (zz (((sv sa a) * i - 1) - flo ((sv sa a) * i - 1) (sv sb b) * (sv sb b))))] ++ F0) [(ob sa a), (ob sb b), (oc 1 sa a), (oc 1 sb b), (ow 0 false g), (ow 0 false (xc (sv sb b) g x)), (ow 0 false (yc (sv sa a) (sv sb b) g x)), (ow 0 false i), (oz 1 (sv sa a)), (oz 1 (sv sb b)), (oz 1 g), (oz 1 ((sv sa a) * (xc (sv sb b) g x) + (sv sb b) * (yc (sv sa a) (sv sb b) g x))), (oz 0 (flo (sv sa a) g)), (oz 0 ((sv sa a) - flo (sv sa a) g * g)), (oz 0 (flo (sv sb b) g)), (oz 0 ((sv sb b) - flo (sv sb b) g * g)), oe, oe] Q1 := by
              subst ho; subst hF
              refine ja_1 16 ?_ rfl (by kernel_rfl)
              refine js_st (sy_store rfl rfl rfl siz35 rfl rfl (Nat.le_of_ble_eq_true rfl)) rfl ?_
              refine ja_t3 S18_1 16 (.c5 rfl rfl rfl rfl rfl (.c5 rfl rfl rfl rfl rfl (.c5 rfl rfl rfl rfl rfl (.cons rfl .nil))))
            have S18_3 : JA Try.prog ops1 3 #[true, true, true, true, true, true, true, true, true, true, true, true, true, true, true, false, false, false] Γ ([(21, .p 16 1 0), (140, .t [(zz (flo ((sv sa a) * i - 1) (sv sb b))), (zz (((sv sa a) * i - 1) - flo ((sv sa a) * i - 1) (sv sb b) * (sv sb b)))]), (141, (zz (sv sa a))), (142, .p 7 0 0), (143, .b (decide (i < 0))), (144, .p 7 0 1), (145, .n false .u64 (lm i)), (146, (zz i)), (147, (zz ((sv sa a) * i))), (148, (zz 1)), (149, (zz ((sv sa a) * i - 1))), (150, (zz (sv sb b))), (151, .t [(zz (flo ((sv sa a) * i - 1) (sv sb b))), (zz (((sv sa a) * i - 1) - flo ((sv sa a) * i - 1) (sv sb b) * (sv sb b)))]), (152, (zz (flo ((sv sa a) * i - 1) (sv sb b)))), (153, (zz (((sv sa a) * i - 1) - flo ((sv sa a) * i - 1) (sv sb b) * (sv sb b))))] ++ F0) [(ob sa a), (ob sb b), (oc 1 sa a), (oc 1 sb b), (ow 0 false g), (ow 0 false (xc (sv sb b) g x)), (ow 0 false (yc (sv sa a) (sv sb b) g x)), (ow 0 false i), (oz 1 (sv sa a)), (oz 1 (sv sb b)), (oz 1 g), (oz 1 ((sv sa a) * (xc (sv sb b) g x) + (sv sb b) * (yc (sv sa a) (sv sb b) g x))), (oz 0 (flo (sv sa a) g)), (oz 0 ((sv sa a) - flo (sv sa a) g * g)), (oz 0 (flo (sv sb b) g)), (oz 0 ((sv sb b) - flo (sv sb b) g * g)), oe, oh] Q1 := by
              subst ho; subst hF
              refine ja_1 15 ?_ rfl (by kernel_rfl)
              refine js_h (hy_allocAt (id := 17) zero35 (by decide) rfl (by decide) rfl) (hd 22 rfl) ?_
              refine ja_t3 S18_2 16 (.c5 rfl rfl rfl rfl rfl (.c5 rfl rfl rfl rfl rfl (.c5 rfl rfl rfl rfl rfl (.cons rfl .nil))))
            have S18_4 : JA Try.prog ops1 3 #[true, true, true, true, true, true, true, true, true, true, true, true, true, true, false, true, false, false] Γ ([(22, .p 17 1 0), (140, .t [(zz (flo ((sv sa a) * i - 1) (sv sb b))), (zz (((sv sa a) * i - 1) - flo ((sv sa a) * i - 1) (sv sb b) * (sv sb b)))]), (141, (zz (sv sa a))), (142, .p 7 0 0), (143, .b (decide (i < 0))), (144, .p 7 0 1), (145, .n false .u64 (lm i)), (146, (zz i)), (147, (zz ((sv sa a) * i))), (148, (zz 1)), (149, (zz ((sv sa a) * i - 1))), (150, (zz (sv sb b))), (151, .t [(zz (flo ((sv sa a) * i - 1) (sv sb b))), (zz (((sv sa a) * i - 1) - flo ((sv sa a) * i - 1) (sv sb b) * (sv sb b)))]), (152, (zz (flo ((sv sa a) * i - 1) (sv sb b)))), (153, (zz (((sv sa a) * i - 1) - flo ((sv sa a) * i - 1) (sv sb b) * (sv sb b))))] ++ F0) [(ob sa a), (ob sb b), (oc 1 sa a), (oc 1 sb b), (ow 0 false g), (ow 0 false (xc (sv sb b) g x)), (ow 0 false (yc (sv sa a) (sv sb b) g x)), (ow 0 false i), (oz 1 (sv sa a)), (oz 1 (sv sb b)), (oz 1 g), (oz 1 ((sv sa a) * (xc (sv sb b) g x) + (sv sb b) * (yc (sv sa a) (sv sb b) g x))), (oz 0 (flo (sv sa a) g)), (oz 0 ((sv sa a) - flo (sv sa a) g * g)), (oz 0 (flo (sv sb b) g)), (oz 0 ((sv sb b) - flo (sv sb b) g * g)), oh, oe] Q1 := by
              subst ho; subst hF
              refine ja_1 14 ?_ rfl (by kernel_rfl)
              refine js_h (hy_allocAt (id := 16) zero35 (by decide) rfl (by decide) rfl) (hd 21 rfl) ?_
              refine ja_t3 S18_2 16 (.c5 rfl rfl rfl rfl rfl (.c5 rfl rfl rfl rfl rfl (.c5 rfl rfl rfl rfl rfl (.cons rfl .nil))))
            have S18_5 : JA Try.prog ops1 4 #[true, true, true, true, true, true, true, true, true, true, true, true, true, true, false, false, false, false] Γ ([(140, .t [(zz (flo ((sv sa a) * i - 1) (sv sb b))), (zz (((sv sa a) * i - 1) - flo ((sv sa a) * i - 1) (sv sb b) * (sv sb b)))]), (141, (zz (sv sa a))), (142, .p 7 0 0), (143, .b (decide (i < 0))), (144, .p 7 0 1), (145, .n false .u64 (lm i)), (146, (zz i)), (147, (zz ((sv sa a) * i))), (148, (zz 1)), (149, (zz ((sv sa a) * i - 1))), (150, (zz (sv sb b))), (151, .t [(zz (flo ((sv sa a) * i - 1) (sv sb b))), (zz (((sv sa a) * i - 1) - flo ((sv sa a) * i - 1) (sv sb b) * (sv sb b)))]), (152, (zz (flo ((sv sa a) * i - 1) (sv sb b)))), (153, (zz (((sv sa a) * i - 1) - flo ((sv sa a) * i - 1) (sv sb b) * (sv sb b))))] ++ F0) [(ob sa a), (ob sb b), (oc 1 sa a), (oc 1 sb b), (ow 0 false g), (ow 0 false (xc (sv sb b) g x)), (ow 0 false (yc (sv sa a) (sv sb b) g x)), (ow 0 false i), (oz 1 (sv sa a)), (oz 1 (sv sb b)), (oz 1 g), (oz 1 ((sv sa a) * (xc (sv sb b) g x) + (sv sb b) * (yc (sv sa a) (sv sb b) g x))), (oz 0 (flo (sv sa a) g)), (oz 0 ((sv sa a) - flo (sv sa a) g * g)), (oz 0 (flo (sv sb b) g)), (oz 0 ((sv sb b) - flo (sv sb b) g * g)), oh, oh] Q1 := by
              subst ho; subst hF
              refine ja_2 14 15 ?_ ?_ rfl rfl (by kernel_rfl)
              · refine js_h (hy_allocAt (id := 16) zero35 (by decide) rfl (by decide) rfl) (hd 21 rfl) ?_
                refine ja_t3 S18_3 15 (.c5 rfl rfl rfl rfl rfl (.c5 rfl rfl rfl rfl rfl (.c5 rfl rfl rfl rfl rfl .nil)))
              · refine js_h (hy_allocAt (id := 17) zero35 (by decide) rfl (by decide) rfl) (hd 22 rfl) ?_
                refine ja_t3 S18_4 15 (.c5 rfl rfl rfl rfl rfl (.c5 rfl rfl rfl rfl rfl (.c5 rfl rfl rfl rfl rfl .nil)))
            have S18_6 : JA Try.prog ops1 5 #[true, true, true, true, true, true, true, true, true, true, true, true, true, false, false, false, false, false] Γ ([(140, .t [(zz (flo ((sv sa a) * i - 1) (sv sb b))), (zz (((sv sa a) * i - 1) - flo ((sv sa a) * i - 1) (sv sb b) * (sv sb b)))]), (141, (zz (sv sa a))), (142, .p 7 0 0), (143, .b (decide (i < 0))), (144, .p 7 0 1), (145, .n false .u64 (lm i)), (146, (zz i)), (147, (zz ((sv sa a) * i))), (148, (zz 1)), (149, (zz ((sv sa a) * i - 1))), (150, (zz (sv sb b))), (151, .t [(zz (flo ((sv sa a) * i - 1) (sv sb b))), (zz (((sv sa a) * i - 1) - flo ((sv sa a) * i - 1) (sv sb b) * (sv sb b)))]), (152, (zz (flo ((sv sa a) * i - 1) (sv sb b))))] ++ F0) [(ob sa a), (ob sb b), (oc 1 sa a), (oc 1 sb b), (ow 0 false g), (ow 0 false (xc (sv sb b) g x)), (ow 0 false (yc (sv sa a) (sv sb b) g x)), (ow 0 false i), (oz 1 (sv sa a)), (oz 1 (sv sb b)), (oz 1 g), (oz 1 ((sv sa a) * (xc (sv sb b) g x) + (sv sb b) * (yc (sv sa a) (sv sb b) g x))), (oz 0 (flo (sv sa a) g)), (oz 0 ((sv sa a) - flo (sv sa a) g * g)), (oz 0 (flo (sv sb b) g)), (oz 0 ((sv sb b) - flo (sv sb b) g * g)), oh, oh] Q1 := by
              subst ho; subst hF; refine ja_l2 13 [17] (lo_ext rfl rfl (hd 153 rfl)) rfl (by kernel_rfl) (by kernel_rfl) (by kernel_rfl) (by kernel_rfl) hpan ?_
              refine ja_t3 S18_5 14 (.c5 rfl rfl rfl rfl rfl (.c5 rfl rfl rfl rfl rfl (.c2 rfl rfl (.c2 rfl rfl .nil))))
            have S18_7 : JA Try.prog ops1 6 #[true, true, true, true, true, true, true, true, true, true, true, true, false, false, false, false, false, false] Γ ([(140, .t [(zz (flo ((sv sa a) * i - 1) (sv sb b))), (zz (((sv sa a) * i - 1) - flo ((sv sa a) * i - 1) (sv sb b) * (sv sb b)))]), (141, (zz (sv sa a))), (142, .p 7 0 0), (143, .b (decide (i < 0))), (144, .p 7 0 1), (145, .n false .u64 (lm i)), (146, (zz i)), (147, (zz ((sv sa a) * i))), (148, (zz 1)), (149, (zz ((sv sa a) * i - 1))), (150, (zz (sv sb b))), (151, .t [(zz (flo ((sv sa a) * i - 1) (sv sb b))), (zz (((sv sa a) * i - 1) - flo ((sv sa a) * i - 1) (sv sb b) * (sv sb b)))])] ++ F0) [(ob sa a), (ob sb b), (oc 1 sa a), (oc 1 sb b), (ow 0 false g), (ow 0 false (xc (sv sb b) g x)), (ow 0 false (yc (sv sa a) (sv sb b) g x)), (ow 0 false i), (oz 1 (sv sa a)), (oz 1 (sv sb b)), (oz 1 g), (oz 1 ((sv sa a) * (xc (sv sb b) g x) + (sv sb b) * (yc (sv sa a) (sv sb b) g x))), (oz 0 (flo (sv sa a) g)), (oz 0 ((sv sa a) - flo (sv sa a) g * g)), (oz 0 (flo (sv sb b) g)), (oz 0 ((sv sb b) - flo (sv sb b) g * g)), oh, oh] Q1 := by
              subst ho; subst hF; refine ja_l2 12 [16, 17] (lo_ext rfl rfl (hd 152 rfl)) rfl (by kernel_rfl) (by kernel_rfl) (by kernel_rfl) (by kernel_rfl) hpan ?_
              refine ja_t3 S18_6 13 (.c5 rfl rfl rfl rfl rfl (.c5 rfl rfl rfl rfl rfl (.c2 rfl rfl (.cons rfl .nil))))
            have S18_8 : JA Try.prog ops1 7 #[true, true, true, true, true, true, true, true, true, true, true, false, false, false, false, false, false, false] Γ ([(141, (zz (sv sa a))), (142, .p 7 0 0), (143, .b (decide (i < 0))), (144, .p 7 0 1), (145, .n false .u64 (lm i)), (146, (zz i)), (147, (zz ((sv sa a) * i))), (148, (zz 1)), (149, (zz ((sv sa a) * i - 1))), (150, (zz (sv sb b))), (151, .t [(zz (flo ((sv sa a) * i - 1) (sv sb b))), (zz (((sv sa a) * i - 1) - flo ((sv sa a) * i - 1) (sv sb b) * (sv sb b)))])] ++ F0) [(ob sa a), (ob sb b), (oc 1 sa a), (oc 1 sb b), (ow 0 false g), (ow 0 false (xc (sv sb b) g x)), (ow 0 false (yc (sv sa a) (sv sb b) g x)), (ow 0 false i), (oz 1 (sv sa a)), (oz 1 (sv sb b)), (oz 1 g), (oz 1 ((sv sa a) * (xc (sv sb b) g x) + (sv sb b) * (yc (sv sa a) (sv sb b) g x))), (oz 0 (flo (sv sa a) g)), (oz 0 ((sv sa a) - flo (sv sa a) g * g)), (oz 0 (flo (sv sb b) g)), (oz 0 ((sv sb b) - flo (sv sb b) g * g)), oh, oh] Q1 := by
              subst ho; subst hF; refine ja_l2 11 [12, 13, 16, 17] (lo_mv rfl (hd 140 rfl)) rfl (by kernel_rfl) (by kernel_rfl) (by kernel_rfl) (by kernel_rfl) hpan ?_
              refine ja_t3 S18_7 12 (.c5 rfl rfl rfl rfl rfl (.c5 rfl rfl rfl rfl rfl (.c2 rfl rfl .nil)))
            have S18_9 : JA Try.prog ops1 4 #[true, true, true, true, true, true, true, true, true, true, true, true, true, false, true, false, false, false] Γ ([(21, .p 16 1 0), (140, .t [(zz (flo ((sv sa a) * i - 1) (sv sb b))), (zz (((sv sa a) * i - 1) - flo ((sv sa a) * i - 1) (sv sb b) * (sv sb b)))]), (141, (zz (sv sa a))), (142, .p 7 0 0), (143, .b (decide (i < 0))), (144, .p 7 0 1), (145, .n false .u64 (lm i)), (146, (zz i)), (147, (zz ((sv sa a) * i))), (148, (zz 1)), (149, (zz ((sv sa a) * i - 1))), (150, (zz (sv sb b))), (151, .t [(zz (flo ((sv sa a) * i - 1) (sv sb b))), (zz (((sv sa a) * i - 1) - flo ((sv sa a) * i - 1) (sv sb b) * (sv sb b)))]), (152, (zz (flo ((sv sa a) * i - 1) (sv sb b))))] ++ F0) [(ob sa a), (ob sb b), (oc 1 sa a), (oc 1 sb b), (ow 0 false g), (ow 0 false (xc (sv sb b) g x)), (ow 0 false (yc (sv sa a) (sv sb b) g x)), (ow 0 false i), (oz 1 (sv sa a)), (oz 1 (sv sb b)), (oz 1 g), (oz 1 ((sv sa a) * (xc (sv sb b) g x) + (sv sb b) * (yc (sv sa a) (sv sb b) g x))), (oz 0 (flo (sv sa a) g)), (oz 0 ((sv sa a) - flo (sv sa a) g * g)), (oz 0 (flo (sv sb b) g)), (oz 0 ((sv sb b) - flo (sv sb b) g * g)), oe, oh] Q1 := by
              subst ho; subst hF; refine ja_l2 13 [17] (lo_ext rfl rfl (hd 153 rfl)) rfl (by kernel_rfl) (by kernel_rfl) (by kernel_rfl) (by kernel_rfl) hpan ?_
              refine ja_t3 S18_3 15 (.c5 rfl rfl rfl rfl rfl (.c5 rfl rfl rfl rfl rfl (.c5 rfl rfl rfl rfl rfl .nil)))
            have S18_10 : JA Try.prog ops1 5 #[true, true, true, true, true, true, true, true, true, true, true, true, false, false, true, false, false, false] Γ ([(21, .p 16 1 0), (140, .t [(zz (flo ((sv sa a) * i - 1) (sv sb b))), (zz (((sv sa a) * i - 1) - flo ((sv sa a) * i - 1) (sv sb b) * (sv sb b)))]), (141, (zz (sv sa a))), (142, .p 7 0 0), (143, .b (decide (i < 0))), (144, .p 7 0 1), (145, .n false .u64 (lm i)), (146, (zz i)), (147, (zz ((sv sa a) * i))), (148, (zz 1)), (149, (zz ((sv sa a) * i - 1))), (150, (zz (sv sb b))), (151, .t [(zz (flo ((sv sa a) * i - 1) (sv sb b))), (zz (((sv sa a) * i - 1) - flo ((sv sa a) * i - 1) (sv sb b) * (sv sb b)))])] ++ F0) [(ob sa a), (ob sb b), (oc 1 sa a), (oc 1 sb b), (ow 0 false g), (ow 0 false (xc (sv sb b) g x)), (ow 0 false (yc (sv sa a) (sv sb b) g x)), (ow 0 false i), (oz 1 (sv sa a)), (oz 1 (sv sb b)), (oz 1 g), (oz 1 ((sv sa a) * (xc (sv sb b) g x) + (sv sb b) * (yc (sv sa a) (sv sb b) g x))), (oz 0 (flo (sv sa a) g)), (oz 0 ((sv sa a) - flo (sv sa a) g * g)), (oz 0 (flo (sv sb b) g)), (oz 0 ((sv sb b) - flo (sv sb b) g * g)), oe, oh] Q1 := by
              subst ho; subst hF; refine ja_l2 12 [16, 17] (lo_ext rfl rfl (hd 152 rfl)) rfl (by kernel_rfl) (by kernel_rfl) (by kernel_rfl) (by kernel_rfl) hpan ?_
              refine ja_t3 S18_9 14 (.c5 rfl rfl rfl rfl rfl (.c5 rfl rfl rfl rfl rfl (.c2 rfl rfl (.c2 rfl rfl .nil))))
            have S18_11 : JA Try.prog ops1 6 #[true, true, true, true, true, true, true, true, true, true, true, false, false, false, true, false, false, false] Γ ([(21, .p 16 1 0), (141, (zz (sv sa a))), (142, .p 7 0 0), (143, .b (decide (i < 0))), (144, .p 7 0 1), (145, .n false .u64 (lm i)), (146, (zz i)), (147, (zz ((sv sa a) * i))), (148, (zz 1)), (149, (zz ((sv sa a) * i - 1))), (150, (zz (sv sb b))), (151, .t [(zz (flo ((sv sa a) * i - 1) (sv sb b))), (zz (((sv sa a) * i - 1) - flo ((sv sa a) * i - 1) (sv sb b) * (sv sb b)))])] ++ F0) [(ob sa a), (ob sb b), (oc 1 sa a), (oc 1 sb b), (ow 0 false g), (ow 0 false (xc (sv sb b) g x)), (ow 0 false (yc (sv sa a) (sv sb b) g x)), (ow 0 false i), (oz 1 (sv sa a)), (oz 1 (sv sb b)), (oz 1 g), (oz 1 ((sv sa a) * (xc (sv sb b) g x) + (sv sb b) * (yc (sv sa a) (sv sb b) g x))), (oz 0 (flo (sv sa a) g)), (oz 0 ((sv sa a) - flo (sv sa a) g * g)), (oz 0 (flo (sv sb b) g)), (oz 0 ((sv sb b) - flo (sv sb b) g * g)), oe, oh] Q1 := by
              subst ho; subst hF; refine ja_l2 11 [12, 13, 16, 17] (lo_mv rfl (hd 140 rfl)) rfl (by kernel_rfl) (by kernel_rfl) (by kernel_rfl) (by kernel_rfl) hpan ?_
              refine ja_t3 S18_10 13 (.c5 rfl rfl rfl rfl rfl (.c5 rfl rfl rfl rfl rfl (.c2 rfl rfl (.cons rfl .nil))))
            have S18_12 : JA Try.prog ops1 3 #[true, true, true, true, true, true, true, true, true, true, true, true, true, false, true, true, false, false] Γ ([(21, .p 16 1 0), (22, .p 17 1 0), (140, .t [(zz (flo ((sv sa a) * i - 1) (sv sb b))), (zz (((sv sa a) * i - 1) - flo ((sv sa a) * i - 1) (sv sb b) * (sv sb b)))]), (141, (zz (sv sa a))), (142, .p 7 0 0), (143, .b (decide (i < 0))), (144, .p 7 0 1), (145, .n false .u64 (lm i)), (146, (zz i)), (147, (zz ((sv sa a) * i))), (148, (zz 1)), (149, (zz ((sv sa a) * i - 1))), (150, (zz (sv sb b))), (151, .t [(zz (flo ((sv sa a) * i - 1) (sv sb b))), (zz (((sv sa a) * i - 1) - flo ((sv sa a) * i - 1) (sv sb b) * (sv sb b)))]), (152, (zz (flo ((sv sa a) * i - 1) (sv sb b))))] ++ F0) [(ob sa a), (ob sb b), (oc 1 sa a), (oc 1 sb b), (ow 0 false g), (ow 0 false (xc (sv sb b) g x)), (ow 0 false (yc (sv sa a) (sv sb b) g x)), (ow 0 false i), (oz 1 (sv sa a)), (oz 1 (sv sb b)), (oz 1 g), (oz 1 ((sv sa a) * (xc (sv sb b) g x) + (sv sb b) * (yc (sv sa a) (sv sb b) g x))), (oz 0 (flo (sv sa a) g)), (oz 0 ((sv sa a) - flo (sv sa a) g * g)), (oz 0 (flo (sv sb b) g)), (oz 0 ((sv sb b) - flo (sv sb b) g * g)), oe, oe] Q1 := by
              subst ho; subst hF; refine ja_l2 13 [17] (lo_ext rfl rfl (hd 153 rfl)) rfl (by kernel_rfl) (by kernel_rfl) (by kernel_rfl) (by kernel_rfl) hpan ?_
              refine ja_t3 S18_2 16 (.c5 rfl rfl rfl rfl rfl (.c5 rfl rfl rfl rfl rfl (.c5 rfl rfl rfl rfl rfl (.cons rfl .nil))))
            have S18_13 : JA Try.prog ops1 4 #[true, true, true, true, true, true, true, true, true, true, true, true, false, false, true, true, false, false] Γ ([(21, .p 16 1 0), (22, .p 17 1 0), (140, .t [(zz (flo ((sv sa a) * i - 1) (sv sb b))), (zz (((sv sa a) * i - 1) - flo ((sv sa a) * i - 1) (sv sb b) * (sv sb b)))]), (141, (zz (sv sa a))), (142, .p 7 0 0), (143, .b (decide (i < 0))), (144, .p 7 0 1), (145, .n false .u64 (lm i)), (146, (zz i)), (147, (zz ((sv sa a) * i))), (148, (zz 1)), (149, (zz ((sv sa a) * i - 1))), (150, (zz (sv sb b))), (151, .t [(zz (flo ((sv sa a) * i - 1) (sv sb b))), (zz (((sv sa a) * i - 1) - flo ((sv sa a) * i - 1) (sv sb b) * (sv sb b)))])] ++ F0) [(ob sa a), (ob sb b), (oc 1 sa a), (oc 1 sb b), (ow 0 false g), (ow 0 false (xc (sv sb b) g x)), (ow 0 false (yc (sv sa a) (sv sb b) g x)), (ow 0 false i), (oz 1 (sv sa a)), (oz 1 (sv sb b)), (oz 1 g), (oz 1 ((sv sa a) * (xc (sv sb b) g x) + (sv sb b) * (yc (sv sa a) (sv sb b) g x))), (oz 0 (flo (sv sa a) g)), (oz 0 ((sv sa a) - flo (sv sa a) g * g)), (oz 0 (flo (sv sb b) g)), (oz 0 ((sv sb b) - flo (sv sb b) g * g)), oe, oe] Q1 := by
              subst ho; subst hF; refine ja_l2 12 [16, 17] (lo_ext rfl rfl (hd 152 rfl)) rfl (by kernel_rfl) (by kernel_rfl) (by kernel_rfl) (by kernel_rfl) hpan ?_
              refine ja_t3 S18_12 15 (.c5 rfl rfl rfl rfl rfl (.c5 rfl rfl rfl rfl rfl (.c5 rfl rfl rfl rfl rfl .nil)))
            have S18_14 : JA Try.prog ops1 5 #[true, true, true, true, true, true, true, true, true, true, true, false, false, false, true, true, false, false] Γ ([(21, .p 16 1 0), (22, .p 17 1 0), (141, (zz (sv sa a))), (142, .p 7 0 0), (143, .b (decide (i < 0))), (144, .p 7 0 1), (145, .n false .u64 (lm i)), (146, (zz i)), (147, (zz ((sv sa a) * i))), (148, (zz 1)), (149, (zz ((sv sa a) * i - 1))), (150, (zz (sv sb b))), (151, .t [(zz (flo ((sv sa a) * i - 1) (sv sb b))), (zz (((sv sa a) * i - 1) - flo ((sv sa a) * i - 1) (sv sb b) * (sv sb b)))])] ++ F0) [(ob sa a), (ob sb b), (oc 1 sa a), (oc 1 sb b), (ow 0 false g), (ow 0 false (xc (sv sb b) g x)), (ow 0 false (yc (sv sa a) (sv sb b) g x)), (ow 0 false i), (oz 1 (sv sa a)), (oz 1 (sv sb b)), (oz 1 g), (oz 1 ((sv sa a) * (xc (sv sb b) g x) + (sv sb b) * (yc (sv sa a) (sv sb b) g x))), (oz 0 (flo (sv sa a) g)), (oz 0 ((sv sa a) - flo (sv sa a) g * g)), (oz 0 (flo (sv sb b) g)), (oz 0 ((sv sb b) - flo (sv sb b) g * g)), oe, oe] Q1 := by
              subst ho; subst hF; refine ja_l2 11 [12, 13, 16, 17] (lo_mv rfl (hd 140 rfl)) rfl (by kernel_rfl) (by kernel_rfl) (by kernel_rfl) (by kernel_rfl) hpan ?_
              refine ja_t3 S18_13 14 (.c5 rfl rfl rfl rfl rfl (.c5 rfl rfl rfl rfl rfl (.c2 rfl rfl (.c2 rfl rfl .nil))))
            have S18_15 : JA Try.prog ops1 6 #[true, true, true, true, true, true, true, true, true, true, false, false, false, false, true, true, false, false] Γ ([(21, .p 16 1 0), (22, .p 17 1 0), (141, (zz (sv sa a))), (142, .p 7 0 0), (143, .b (decide (i < 0))), (144, .p 7 0 1), (145, .n false .u64 (lm i)), (146, (zz i)), (147, (zz ((sv sa a) * i))), (148, (zz 1)), (149, (zz ((sv sa a) * i - 1))), (150, (zz (sv sb b)))] ++ F0) [(ob sa a), (ob sb b), (oc 1 sa a), (oc 1 sb b), (ow 0 false g), (ow 0 false (xc (sv sb b) g x)), (ow 0 false (yc (sv sa a) (sv sb b) g x)), (ow 0 false i), (oz 1 (sv sa a)), (oz 1 (sv sb b)), (oz 1 g), (oz 1 ((sv sa a) * (xc (sv sb b) g x) + (sv sb b) * (yc (sv sa a) (sv sb b) g x))), (oz 0 (flo (sv sa a) g)), (oz 0 ((sv sa a) - flo (sv sa a) g * g)), (oz 0 (flo (sv sb b) g)), (oz 0 ((sv sb b) - flo (sv sb b) g * g)), oe, oe] Q1 := by
              subst ho; subst hF
              refine ja_1 10 ?_ rfl (by kernel_rfl)
              refine js_call Try.f24 (rFloor_s ((sv sa a) * i - 1) (sv sb b) (by omega) (by omega) h0) rfl Try.func24 rfl rfl (ovL_cons rfl (ovL_cons rfl ovL_nil)) (.cons (.a1 .b (.a1 .n .a0)) (.cons (.a1 .b (.a1 .n .a0)) .nil)) (hd 151 rfl) ?_ (fun ch hp => by simp at hp)
              rintro y hy; injection hy with hy; subst hy
              refine ja_t3 S18_14 13 (.c5 rfl rfl rfl rfl rfl (.c5 rfl rfl rfl rfl rfl (.c2 rfl rfl (.cons rfl .nil))))
            have S18_16 : JA Try.prog ops1 7 #[true, true, true, true, true, true, true, true, true, true, false, false, false, false, true, false, false, false] Γ ([(21, .p 16 1 0), (141, (zz (sv sa a))), (142, .p 7 0 0), (143, .b (decide (i < 0))), (144, .p 7 0 1), (145, .n false .u64 (lm i)), (146, (zz i)), (147, (zz ((sv sa a) * i))), (148, (zz 1)), (149, (zz ((sv sa a) * i - 1))), (150, (zz (sv sb b)))] ++ F0) [(ob sa a), (ob sb b), (oc 1 sa a), (oc 1 sb b), (ow 0 false g), (ow 0 false (xc (sv sb b) g x)), (ow 0 false (yc (sv sa a) (sv sb b) g x)), (ow 0 false i), (oz 1 (sv sa a)), (oz 1 (sv sb b)), (oz 1 g), (oz 1 ((sv sa a) * (xc (sv sb b) g x) + (sv sb b) * (yc (sv sa a) (sv sb b) g x))), (oz 0 (flo (sv sa a) g)), (oz 0 ((sv sa a) - flo (sv sa a) g * g)), (oz 0 (flo (sv sb b) g)), (oz 0 ((sv sb b) - flo (sv sb b) g * g)), oe, oh] Q1 := by
              subst ho; subst hF
              refine ja_2 10 15 ?_ ?_ rfl rfl (by kernel_rfl)
              · refine js_call Try.f24 (rFloor_s ((sv sa a) * i - 1) (sv sb b) (by omega) (by omega) h0) rfl Try.func24 rfl rfl (ovL_cons rfl (ovL_cons rfl ovL_nil)) (.cons (.a1 .b (.a1 .n .a0)) (.cons (.a1 .b (.a1 .n .a0)) .nil)) (hd 151 rfl) ?_ (fun ch hp => by simp at hp)
                rintro y hy; injection hy with hy; subst hy
                refine ja_t3 S18_11 12 (.c5 rfl rfl rfl rfl rfl (.c5 rfl rfl rfl rfl rfl (.c2 rfl rfl .nil)))
              · refine js_h (hy_allocAt (id := 17) zero35 (by decide) rfl (by decide) rfl) (hd 22 rfl) ?_
                refine ja_t3 S18_15 12 (.c5 rfl rfl rfl rfl rfl (.c5 rfl rfl rfl rfl rfl (.c2 rfl rfl .nil)))
            have S18_17 : JA Try.prog ops1 4 #[true, true, true, true, true, true, true, true, true, true, true, true, true, false, false, true, false, false] Γ ([(22, .p 17 1 0), (140, .t [(zz (flo ((sv sa a) * i - 1) (sv sb b))), (zz (((sv sa a) * i - 1) - flo ((sv sa a) * i - 1) (sv sb b) * (sv sb b)))]), (141, (zz (sv sa a))), (142, .p 7 0 0), (143, .b (decide (i < 0))), (144, .p 7 0 1), (145, .n false .u64 (lm i)), (146, (zz i)), (147, (zz ((sv sa a) * i))), (148, (zz 1)), (149, (zz ((sv sa a) * i - 1))), (150, (zz (sv sb b))), (151, .t [(zz (flo ((sv sa a) * i - 1) (sv sb b))), (zz (((sv sa a) * i - 1) - flo ((sv sa a) * i - 1) (sv sb b) * (sv sb b)))]), (152, (zz (flo ((sv sa a) * i - 1) (sv sb b))))] ++ F0) [(ob sa a), (ob sb b), (oc 1 sa a), (oc 1 sb b), (ow 0 false g), (ow 0 false (xc (sv sb b) g x)), (ow 0 false (yc (sv sa a) (sv sb b) g x)), (ow 0 false i), (oz 1 (sv sa a)), (oz 1 (sv sb b)), (oz 1 g), (oz 1 ((sv sa a) * (xc (sv sb b) g x) + (sv sb b) * (yc (sv sa a) (sv sb b) g x))), (oz 0 (flo (sv sa a) g)), (oz 0 ((sv sa a) - flo (sv sa a) g * g)), (oz 0 (flo (sv sb b) g)), (oz 0 ((sv sb b) - flo (sv sb b) g * g)), oh, oe] Q1 := by
              subst ho; subst hF; refine ja_l2 13 [17] (lo_ext rfl rfl (hd 153 rfl)) rfl (by kernel_rfl) (by kernel_rfl) (by kernel_rfl) (by kernel_rfl) hpan ?_
              refine ja_t3 S18_4 15 (.c5 rfl rfl rfl rfl rfl (.c5 rfl rfl rfl rfl rfl (.c5 rfl rfl rfl rfl rfl .nil)))
            have S18_18 : JA Try.prog ops1 5 #[true, true, true, true, true, true, true, true, true, true, true, true, false, false, false, true, false, false] Γ ([(22, .p 17 1 0), (140, .t [(zz (flo ((sv sa a) * i - 1) (sv sb b))), (zz (((sv sa a) * i - 1) - flo ((sv sa a) * i - 1) (sv sb b) * (sv sb b)))]), (141, (zz (sv sa a))), (142, .p 7 0 0), (143, .b (decide (i < 0))), (144, .p 7 0 1), (145, .n false .u64 (lm i)), (146, (zz i)), (147, (zz ((sv sa a) * i))), (148, (zz 1)), (149, (zz ((sv sa a) * i - 1))), (150, (zz (sv sb b))), (151, .t [(zz (flo ((sv sa a) * i - 1) (sv sb b))), (zz (((sv sa a) * i - 1) - flo ((sv sa a) * i - 1) (sv sb b) * (sv sb b)))])] ++ F0) [(ob sa a), (ob sb b), (oc 1 sa a), (oc 1 sb b), (ow 0 false g), (ow 0 false (xc (sv sb b) g x)), (ow 0 false (yc (sv sa a) (sv sb b) g x)), (ow 0 false i), (oz 1 (sv sa a)), (oz 1 (sv sb b)), (oz 1 g), (oz 1 ((sv sa a) * (xc (sv sb b) g x) + (sv sb b) * (yc (sv sa a) (sv sb b) g x))), (oz 0 (flo (sv sa a) g)), (oz 0 ((sv sa a) - flo (sv sa a) g * g)), (oz 0 (flo (sv sb b) g)), (oz 0 ((sv sb b) - flo (sv sb b) g * g)), oh, oe] Q1 := by
              subst ho; subst hF; refine ja_l2 12 [16, 17] (lo_ext rfl rfl (hd 152 rfl)) rfl (by kernel_rfl) (by kernel_rfl) (by kernel_rfl) (by kernel_rfl) hpan ?_
              refine ja_t3 S18_17 14 (.c5 rfl rfl rfl rfl rfl (.c5 rfl rfl rfl rfl rfl (.c2 rfl rfl (.c2 rfl rfl .nil))))
            have S18_19 : JA Try.prog ops1 6 #[true, true, true, true, true, true, true, true, true, true, true, false, false, false, false, true, false, false] Γ ([(22, .p 17 1 0), (141, (zz (sv sa a))), (142, .p 7 0 0), (143, .b (decide (i < 0))), (144, .p 7 0 1), (145, .n false .u64 (lm i)), (146, (zz i)), (147, (zz ((sv sa a) * i))), (148, (zz 1)), (149, (zz ((sv sa a) * i - 1))), (150, (zz (sv sb b))), (151, .t [(zz (flo ((sv sa a) * i - 1) (sv sb b))), (zz (((sv sa a) * i - 1) - flo ((sv sa a) * i - 1) (sv sb b) * (sv sb b)))])] ++ F0) [(ob sa a), (ob sb b), (oc 1 sa a), (oc 1 sb b), (ow 0 false g), (ow 0 false (xc (sv sb b) g x)), (ow 0 false (yc (sv sa a) (sv sb b) g x)), (ow 0 false i), (oz 1 (sv sa a)), (oz 1 (sv sb b)), (oz 1 g), (oz 1 ((sv sa a) * (xc (sv sb b) g x) + (sv sb b) * (yc (sv sa a) (sv sb b) g x))), (oz 0 (flo (sv sa a) g)), (oz 0 ((sv sa a) - flo (sv sa a) g * g)), (oz 0 (flo (sv sb b) g)), (oz 0 ((sv sb b) - flo (sv sb b) g * g)), oh, oe] Q1 := by
              subst ho; subst hF; refine ja_l2 11 [12, 13, 16, 17] (lo_mv rfl (hd 140 rfl)) rfl (by kernel_rfl) (by kernel_rfl) (by kernel_rfl) (by kernel_rfl) hpan ?_
              refine ja_t3 S18_18 13 (.c5 rfl rfl rfl rfl rfl (.c5 rfl rfl rfl rfl rfl (.c2 rfl rfl (.cons rfl .nil))))
            have S18_20 : JA Try.prog ops1 7 #[true, true, true, true, true, true, true, true, true, true, false, false, false, false, false, true, false, false] Γ ([(22, .p 17 1 0), (141, (zz (sv sa a))), (142, .p 7 0 0), (143, .b (decide (i < 0))), (144, .p 7 0 1), (145, .n false .u64 (lm i)), (146, (zz i)), (147, (zz ((sv sa a) * i))), (148, (zz 1)), (149, (zz ((sv sa a) * i - 1))), (150, (zz (sv sb b)))] ++ F0) [(ob sa a), (ob sb b), (oc 1 sa a), (oc 1 sb b), (ow 0 false g), (ow 0 false (xc (sv sb b) g x)), (ow 0 false (yc (sv sa a) (sv sb b) g x)), (ow 0 false i), (oz 1 (sv sa a)), (oz 1 (sv sb b)), (oz 1 g), (oz 1 ((sv sa a) * (xc (sv sb b) g x) + (sv sb b) * (yc (sv sa a) (sv sb b) g x))), (oz 0 (flo (sv sa a) g)), (oz 0 ((sv sa a) - flo (sv sa a) g * g)), (oz 0 (flo (sv sb b) g)), (oz 0 ((sv sb b) - flo (sv sb b) g * g)), oh, oe] Q1 := by
              subst ho; subst hF
              refine ja_2 10 14 ?_ ?_ rfl rfl (by kernel_rfl)
              · refine js_call Try.f24 (rFloor_s ((sv sa a) * i - 1) (sv sb b) (by omega) (by omega) h0) rfl Try.func24 rfl rfl (ovL_cons rfl (ovL_cons rfl ovL_nil)) (.cons (.a1 .b (.a1 .n .a0)) (.cons (.a1 .b (.a1 .n .a0)) .nil)) (hd 151 rfl) ?_ (fun ch hp => by simp at hp)
                rintro y hy; injection hy with hy; subst hy
                refine ja_t3 S18_19 12 (.c5 rfl rfl rfl rfl rfl (.c5 rfl rfl rfl rfl rfl (.c2 rfl rfl .nil)))
              · refine js_h (hy_allocAt (id := 16) zero35 (by decide) rfl (by decide) rfl) (hd 21 rfl) ?_
                refine ja_t3 S18_15 12 (.c5 rfl rfl rfl rfl rfl (.c5 rfl rfl rfl rfl rfl (.c2 rfl rfl .nil)))
            have S18_21 : JA Try.prog ops1 8 #[true, true, true, true, true, true, true, true, true, true, false, false, false, false, false, false, false, false] Γ ([(141, (zz (sv sa a))), (142, .p 7 0 0), (143, .b (decide (i < 0))), (144, .p 7 0 1), (145, .n false .u64 (lm i)), (146, (zz i)), (147, (zz ((sv sa a) * i))), (148, (zz 1)), (149, (zz ((sv sa a) * i - 1))), (150, (zz (sv sb b)))] ++ F0) [(ob sa a), (ob sb b), (oc 1 sa a), (oc 1 sb b), (ow 0 false g), (ow 0 false (xc (sv sb b) g x)), (ow 0 false (yc (sv sa a) (sv sb b) g x)), (ow 0 false i), (oz 1 (sv sa a)), (oz 1 (sv sb b)), (oz 1 g), (oz 1 ((sv sa a) * (xc (sv sb b) g x) + (sv sb b) * (yc (sv sa a) (sv sb b) g x))), (oz 0 (flo (sv sa a) g)), (oz 0 ((sv sa a) - flo (sv sa a) g * g)), (oz 0 (flo (sv sb b) g)), (oz 0 ((sv sb b) - flo (sv sb b) g * g)), oh, oh] Q1 := by
              subst ho; subst hF
              refine ja_3 10 14 15 ?_ ?_ ?_ rfl rfl rfl (by kernel_rfl)
              · refine js_call Try.f24 (rFloor_s ((sv sa a) * i - 1) (sv sb b) (by omega) (by omega) h0) rfl Try.func24 rfl rfl (ovL_cons rfl (ovL_cons rfl ovL_nil)) (.cons (.a1 .b (.a1 .n .a0)) (.cons (.a1 .b (.a1 .n .a0)) .nil)) (hd 151 rfl) ?_ (fun ch hp => by simp at hp)
                rintro y hy; injection hy with hy; subst hy
                refine ja_t3 S18_8 11 (.c5 rfl rfl rfl rfl rfl (.c5 rfl rfl rfl rfl rfl (.cons rfl .nil)))
              · refine js_h (hy_allocAt (id := 16) zero35 (by decide) rfl (by decide) rfl) (hd 21 rfl) ?_
                refine ja_t3 S18_16 11 (.c5 rfl rfl rfl rfl rfl (.c5 rfl rfl rfl rfl rfl (.cons rfl .nil)))
              · refine js_h (hy_allocAt (id := 17) zero35 (by decide) rfl (by decide) rfl) (hd 22 rfl) ?_
                refine ja_t3 S18_20 11 (.c5 rfl rfl rfl rfl rfl (.c5 rfl rfl rfl rfl rfl (.cons rfl .nil)))
            have S18_22 : JA Try.prog ops1 7 #[true, true, true, true, true, true, true, true, false, true, false, false, false, false, true, true, false, false] Γ ([(21, .p 16 1 0), (22, .p 17 1 0), (141, (zz (sv sa a))), (142, .p 7 0 0), (143, .b (decide (i < 0))), (144, .p 7 0 1), (145, .n false .u64 (lm i)), (146, (zz i)), (147, (zz ((sv sa a) * i))), (148, (zz 1)), (150, (zz (sv sb b)))] ++ F0) [(ob sa a), (ob sb b), (oc 1 sa a), (oc 1 sb b), (ow 0 false g), (ow 0 false (xc (sv sb b) g x)), (ow 0 false (yc (sv sa a) (sv sb b) g x)), (ow 0 false i), (oz 1 (sv sa a)), (oz 1 (sv sb b)), (oz 1 g), (oz 1 ((sv sa a) * (xc (sv sb b) g x) + (sv sb b) * (yc (sv sa a) (sv sb b) g x))), (oz 0 (flo (sv sa a) g)), (oz 0 ((sv sa a) - flo (sv sa a) g * g)), (oz 0 (flo (sv sb b) g)), (oz 0 ((sv sb b) - flo (sv sb b) g * g)), oe, oe] Q1 := by
              subst ho; subst hF
              refine ja_1 8 ?_ rfl (by kernel_rfl)
              refine js_call Try.f25 (ZSub_s ((sv sa a) * i) 1 (by omega) (by omega)) rfl Try.func25 rfl rfl (ovL_cons rfl (ovL_cons rfl ovL_nil)) (.cons (.a1 .b (.a1 .n .a0)) (.cons (.a1 .b (.a1 .n .a0)) .nil)) (hd 149 rfl) ?_ (fun ch hp => by simp at hp)
              rintro y hy; injection hy with hy; subst hy
              refine ja_t3 S18_15 12 (.c5 rfl rfl rfl rfl rfl (.c5 rfl rfl rfl rfl rfl (.c2 rfl rfl .nil)))
            have S18_23 : JA Try.prog ops1 8 #[true, true, true, true, true, true, true, true, false, true, false, false, false, false, true, false, false, false] Γ ([(21, .p 16 1 0), (141, (zz (sv sa a))), (142, .p 7 0 0), (143, .b (decide (i < 0))), (144, .p 7 0 1), (145, .n false .u64 (lm i)), (146, (zz i)), (147, (zz ((sv sa a) * i))), (148, (zz 1)), (150, (zz (sv sb b)))] ++ F0) [(ob sa a), (ob sb b), (oc 1 sa a), (oc 1 sb b), (ow 0 false g), (ow 0 false (xc (sv sb b) g x)), (ow 0 false (yc (sv sa a) (sv sb b) g x)), (ow 0 false i), (oz 1 (sv sa a)), (oz 1 (sv sb b)), (oz 1 g), (oz 1 ((sv sa a) * (xc (sv sb b) g x) + (sv sb b) * (yc (sv sa a) (sv sb b) g x))), (oz 0 (flo (sv sa a) g)), (oz 0 ((sv sa a) - flo (sv sa a) g * g)), (oz 0 (flo (sv sb b) g)), (oz 0 ((sv sb b) - flo (sv sb b) g * g)), oe, oh] Q1 := by
              subst ho; subst hF
              refine ja_2 8 15 ?_ ?_ rfl rfl (by kernel_rfl)
              · refine js_call Try.f25 (ZSub_s ((sv sa a) * i) 1 (by omega) (by omega)) rfl Try.func25 rfl rfl (ovL_cons rfl (ovL_cons rfl ovL_nil)) (.cons (.a1 .b (.a1 .n .a0)) (.cons (.a1 .b (.a1 .n .a0)) .nil)) (hd 149 rfl) ?_ (fun ch hp => by simp at hp)
                rintro y hy; injection hy with hy; subst hy
                refine ja_t3 S18_16 11 (.c5 rfl rfl rfl rfl rfl (.c5 rfl rfl rfl rfl rfl (.cons rfl .nil)))
              · refine js_h (hy_allocAt (id := 17) zero35 (by decide) rfl (by decide) rfl) (hd 22 rfl) ?_
                refine ja_t3 S18_22 11 (.c5 rfl rfl rfl rfl rfl (.c5 rfl rfl rfl rfl rfl (.cons rfl .nil)))
            have S18_24 : JA Try.prog ops1 8 #[true, true, true, true, true, true, true, true, false, true, false, false, false, false, false, true, false, false] Γ ([(22, .p 17 1 0), (141, (zz (sv sa a))), (142, .p 7 0 0), (143, .b (decide (i < 0))), (144, .p 7 0 1), (145, .n false .u64 (lm i)), (146, (zz i)), (147, (zz ((sv sa a) * i))), (148, (zz 1)), (150, (zz (sv sb b)))] ++ F0) [(ob sa a), (ob sb b), (oc 1 sa a), (oc 1 sb b), (ow 0 false g), (ow 0 false (xc (sv sb b) g x)), (ow 0 false (yc (sv sa a) (sv sb b) g x)), (ow 0 false i), (oz 1 (sv sa a)), (oz 1 (sv sb b)), (oz 1 g), (oz 1 ((sv sa a) * (xc (sv sb b) g x) + (sv sb b) * (yc (sv sa a) (sv sb b) g x))), (oz 0 (flo (sv sa a) g)), (oz 0 ((sv sa a) - flo (sv sa a) g * g)), (oz 0 (flo (sv sb b) g)), (oz 0 ((sv sb b) - flo (sv sb b) g * g)), oh, oe] Q1 := by
              subst ho; subst hF
              refine ja_2 8 14 ?_ ?_ rfl rfl (by kernel_rfl)
              · refine js_call Try.f25 (ZSub_s ((sv sa a) * i) 1 (by omega) (by omega)) rfl Try.func25 rfl rfl (ovL_cons rfl (ovL_cons rfl ovL_nil)) (.cons (.a1 .b (.a1 .n .a0)) (.cons (.a1 .b (.a1 .n .a0)) .nil)) (hd 149 rfl) ?_ (fun ch hp => by simp at hp)
                rintro y hy; injection hy with hy; subst hy
                refine ja_t3 S18_20 11 (.c5 rfl rfl rfl rfl rfl (.c5 rfl rfl rfl rfl rfl (.cons rfl .nil)))
              · refine js_h (hy_allocAt (id := 16) zero35 (by decide) rfl (by decide) rfl) (hd 21 rfl) ?_
                refine ja_t3 S18_22 11 (.c5 rfl rfl rfl rfl rfl (.c5 rfl rfl rfl rfl rfl (.cons rfl .nil)))
            have S18_25 : JA Try.prog ops1 9 #[true, true, true, true, true, true, true, true, false, true, false, false, false, false, false, false, false, false] Γ ([(141, (zz (sv sa a))), (142, .p 7 0 0), (143, .b (decide (i < 0))), (144, .p 7 0 1), (145, .n false .u64 (lm i)), (146, (zz i)), (147, (zz ((sv sa a) * i))), (148, (zz 1)), (150, (zz (sv sb b)))] ++ F0) [(ob sa a), (ob sb b), (oc 1 sa a), (oc 1 sb b), (ow 0 false g), (ow 0 false (xc (sv sb b) g x)), (ow 0 false (yc (sv sa a) (sv sb b) g x)), (ow 0 false i), (oz 1 (sv sa a)), (oz 1 (sv sb b)), (oz 1 g), (oz 1 ((sv sa a) * (xc (sv sb b) g x) + (sv sb b) * (yc (sv sa a) (sv sb b) g x))), (oz 0 (flo (sv sa a) g)), (oz 0 ((sv sa a) - flo (sv sa a) g * g)), (oz 0 (flo (sv sb b) g)), (oz 0 ((sv sb b) - flo (sv sb b) g * g)), oh, oh] Q1 := by
              subst ho; subst hF
              refine ja_3 8 14 15 ?_ ?_ ?_ rfl rfl rfl (by kernel_rfl)
              · refine js_call Try.f25 (ZSub_s ((sv sa a) * i) 1 (by omega) (by omega)) rfl Try.func25 rfl rfl (ovL_cons rfl (ovL_cons rfl ovL_nil)) (.cons (.a1 .b (.a1 .n .a0)) (.cons (.a1 .b (.a1 .n .a0)) .nil)) (hd 149 rfl) ?_ (fun ch hp => by simp at hp)
                rintro y hy; injection hy with hy; subst hy
                refine ja_t3 S18_21 10 (.c5 rfl rfl rfl rfl rfl (.c5 rfl rfl rfl rfl rfl .nil))
              · refine js_h (hy_allocAt (id := 16) zero35 (by decide) rfl (by decide) rfl) (hd 21 rfl) ?_
                refine ja_t3 S18_23 10 (.c5 rfl rfl rfl rfl rfl (.c5 rfl rfl rfl rfl rfl .nil))
              · refine js_h (hy_allocAt (id := 17) zero35 (by decide) rfl (by decide) rfl) (hd 22 rfl) ?_
                refine ja_t3 S18_24 10 (.c5 rfl rfl rfl rfl rfl (.c5 rfl rfl rfl rfl rfl .nil))
            have S18_26 : JA Try.prog ops1 8 #[true, true, true, true, true, true, true, false, false, true, false, false, false, false, true, true, false, false] Γ ([(21, .p 16 1 0), (22, .p 17 1 0), (141, (zz (sv sa a))), (142, .p 7 0 0), (143, .b (decide (i < 0))), (144, .p 7 0 1), (145, .n false .u64 (lm i)), (146, (zz i)), (147, (zz ((sv sa a) * i))), (150, (zz (sv sb b)))] ++ F0) [(ob sa a), (ob sb b), (oc 1 sa a), (oc 1 sb b), (ow 0 false g), (ow 0 false (xc (sv sb b) g x)), (ow 0 false (yc (sv sa a) (sv sb b) g x)), (ow 0 false i), (oz 1 (sv sa a)), (oz 1 (sv sb b)), (oz 1 g), (oz 1 ((sv sa a) * (xc (sv sb b) g x) + (sv sb b) * (yc (sv sa a) (sv sb b) g x))), (oz 0 (flo (sv sa a) g)), (oz 0 ((sv sa a) - flo (sv sa a) g * g)), (oz 0 (flo (sv sb b) g)), (oz 0 ((sv sb b) - flo (sv sb b) g * g)), oe, oe] Q1 := by
              subst ho; subst hF
              refine ja_1 7 ?_ rfl (by kernel_rfl)
              refine js_call Try.f26 (ZInt_s 1 (by unfold inI; omega)) rfl Try.func26 rfl rfl (ovL_cons rfl ovL_nil) (.cons .i .nil) (hd 148 rfl) ?_ (fun ch hp => by simp at hp)
              rintro y hy; injection hy with hy; subst hy
              refine ja_t3 S18_22 11 (.c5 rfl rfl rfl rfl rfl (.c5 rfl rfl rfl rfl rfl (.cons rfl .nil)))
            have S18_27 : JA Try.prog ops1 9 #[true, true, true, true, true, true, true, false, false, true, false, false, false, false, true, false, false, false] Γ ([(21, .p 16 1 0), (141, (zz (sv sa a))), (142, .p 7 0 0), (143, .b (decide (i < 0))), (144, .p 7 0 1), (145, .n false .u64 (lm i)), (146, (zz i)), (147, (zz ((sv sa a) * i))), (150, (zz (sv sb b)))] ++ F0) [(ob sa a), (ob sb b), (oc 1 sa a), (oc 1 sb b), (ow 0 false g), (ow 0 false (xc (sv sb b) g x)), (ow 0 false (yc (sv sa a) (sv sb b) g x)), (ow 0 false i), (oz 1 (sv sa a)), (oz 1 (sv sb b)), (oz 1 g), (oz 1 ((sv sa a) * (xc (sv sb b) g x) + (sv sb b) * (yc (sv sa a) (sv sb b) g x))), (oz 0 (flo (sv sa a) g)), (oz 0 ((sv sa a) - flo (sv sa a) g * g)), (oz 0 (flo (sv sb b) g)), (oz 0 ((sv sb b) - flo (sv sb b) g * g)), oe, oh] Q1 := by
              subst ho; subst hF
              refine ja_2 7 15 ?_ ?_ rfl rfl (by kernel_rfl)
              · refine js_call Try.f26 (ZInt_s 1 (by unfold inI; omega)) rfl Try.func26 rfl rfl (ovL_cons rfl ovL_nil) (.cons .i .nil) (hd 148 rfl) ?_ (fun ch hp => by simp at hp)
                rintro y hy; injection hy with hy; subst hy
                refine ja_t3 S18_23 10 (.c5 rfl rfl rfl rfl rfl (.c5 rfl rfl rfl rfl rfl .nil))
              · refine js_h (hy_allocAt (id := 17) zero35 (by decide) rfl (by decide) rfl) (hd 22 rfl) ?_
                refine ja_t3 S18_26 10 (.c5 rfl rfl rfl rfl rfl (.c5 rfl rfl rfl rfl rfl .nil))
            have S18_28 : JA Try.prog ops1 9 #[true, true, true, true, true, true, true, false, false, true, false, false, false, false, false, true, false, false] Γ ([(22, .p 17 1 0), (141, (zz (sv sa a))), (142, .p 7 0 0), (143, .b (decide (i < 0))), (144, .p 7 0 1), (145, .n false .u64 (lm i)), (146, (zz i)), (147, (zz ((sv sa a) * i))), (150, (zz (sv sb b)))] ++ F0) [(ob sa a), (ob sb b), (oc 1 sa a), (oc 1 sb b), (ow 0 false g), (ow 0 false (xc (sv sb b) g x)), (ow 0 false (yc (sv sa a) (sv sb b) g x)), (ow 0 false i), (oz 1 (sv sa a)), (oz 1 (sv sb b)), (oz 1 g), (oz 1 ((sv sa a) * (xc (sv sb b) g x) + (sv sb b) * (yc (sv sa a) (sv sb b) g x))), (oz 0 (flo (sv sa a) g)), (oz 0 ((sv sa a) - flo (sv sa a) g * g)), (oz 0 (flo (sv sb b) g)), (oz 0 ((sv sb b) - flo (sv sb b) g * g)), oh, oe] Q1 := by
              subst ho; subst hF
              refine ja_2 7 14 ?_ ?_ rfl rfl (by kernel_rfl)
              · refine js_call Try.f26 (ZInt_s 1 (by unfold inI; omega)) rfl Try.func26 rfl rfl (ovL_cons rfl ovL_nil) (.cons .i .nil) (hd 148 rfl) ?_ (fun ch hp => by simp at hp)
                rintro y hy; injection hy with hy; subst hy
                refine ja_t3 S18_24 10 (.c5 rfl rfl rfl rfl rfl (.c5 rfl rfl rfl rfl rfl .nil))
              · refine js_h (hy_allocAt (id := 16) zero35 (by decide) rfl (by decide) rfl) (hd 21 rfl) ?_
                refine ja_t3 S18_26 10 (.c5 rfl rfl rfl rfl rfl (.c5 rfl rfl rfl rfl rfl .nil))
            have S18_29 : JA Try.prog ops1 10 #[true, true, true, true, true, true, true, false, false, true, false, false, false, false, false, false, false, false] Γ ([(141, (zz (sv sa a))), (142, .p 7 0 0), (143, .b (decide (i < 0))), (144, .p 7 0 1), (145, .n false .u64 (lm i)), (146, (zz i)), (147, (zz ((sv sa a) * i))), (150, (zz (sv sb b)))] ++ F0) [(ob sa a), (ob sb b), (oc 1 sa a), (oc 1 sb b), (ow 0 false g), (ow 0 false (xc (sv sb b) g x)), (ow 0 false (yc (sv sa a) (sv sb b) g x)), (ow 0 false i), (oz 1 (sv sa a)), (oz 1 (sv sb b)), (oz 1 g), (oz 1 ((sv sa a) * (xc (sv sb b) g x) + (sv sb b) * (yc (sv sa a) (sv sb b) g x))), (oz 0 (flo (sv sa a) g)), (oz 0 ((sv sa a) - flo (sv sa a) g * g)), (oz 0 (flo (sv sb b) g)), (oz 0 ((sv sb b) - flo (sv sb b) g * g)), oh, oh] Q1 := by
              subst ho; subst hF
              refine ja_3 7 14 15 ?_ ?_ ?_ rfl rfl rfl (by kernel_rfl)
              · refine js_call Try.f26 (ZInt_s 1 (by unfold inI; omega)) rfl Try.func26 rfl rfl (ovL_cons rfl ovL_nil) (.cons .i .nil) (hd 148 rfl) ?_ (fun ch hp => by simp at hp)
                rintro y hy; injection hy with hy; subst hy
                refine ja_t3 S18_25 9 (.c5 rfl rfl rfl rfl rfl (.c2 rfl rfl (.c2 rfl rfl .nil)))
              · refine js_h (hy_allocAt (id := 16) zero35 (by decide) rfl (by decide) rfl) (hd 21 rfl) ?_
                refine ja_t3 S18_27 9 (.c5 rfl rfl rfl rfl rfl (.c2 rfl rfl (.c2 rfl rfl .nil)))
              · refine js_h (hy_allocAt (id := 17) zero35 (by decide) rfl (by decide) rfl) (hd 22 rfl) ?_
                refine ja_t3 S18_28 9 (.c5 rfl rfl rfl rfl rfl (.c2 rfl rfl (.c2 rfl rfl .nil)))
            have S18_30 : JA Try.prog ops1 9 #[true, true, true, true, true, true, false, false, false, true, false, false, false, false, true, true, false, false] Γ ([(21, .p 16 1 0), (22, .p 17 1 0), (141, (zz (sv sa a))), (142, .p 7 0 0), (143, .b (decide (i < 0))), (144, .p 7 0 1), (145, .n false .u64 (lm i)), (146, (zz i)), (150, (zz (sv sb b)))] ++ F0) [(ob sa a), (ob sb b), (oc 1 sa a), (oc 1 sb b), (ow 0 false g), (ow 0 false (xc (sv sb b) g x)), (ow 0 false (yc (sv sa a) (sv sb b) g x)), (ow 0 false i), (oz 1 (sv sa a)), (oz 1 (sv sb b)), (oz 1 g), (oz 1 ((sv sa a) * (xc (sv sb b) g x) + (sv sb b) * (yc (sv sa a) (sv sb b) g x))), (oz 0 (flo (sv sa a) g)), (oz 0 ((sv sa a) - flo (sv sa a) g * g)), (oz 0 (flo (sv sb b) g)), (oz 0 ((sv sb b) - flo (sv sb b) g * g)), oe, oe] Q1 := by
              subst ho; subst hF
              refine ja_1 6 ?_ rfl (by kernel_rfl)
              refine js_call Try.f21 (ZMul_s (sv sa a) i (by omega) (by omega)) rfl Try.func21 rfl rfl (ovL_cons rfl (ovL_cons rfl ovL_nil)) (.cons (.a1 .b (.a1 .n .a0)) (.cons (.a1 .b (.a1 .n .a0)) .nil)) (hd 147 rfl) ?_ (fun ch hp => by simp at hp)
              rintro y hy; injection hy with hy; subst hy
              refine ja_t3 S18_26 10 (.c5 rfl rfl rfl rfl rfl (.c5 rfl rfl rfl rfl rfl .nil))
            have S18_31 : JA Try.prog ops1 10 #[true, true, true, true, true, true, false, false, false, true, false, false, false, false, true, false, false, false] Γ ([(21, .p 16 1 0), (141, (zz (sv sa a))), (142, .p 7 0 0), (143, .b (decide (i < 0))), (144, .p 7 0 1), (145, .n false .u64 (lm i)), (146, (zz i)), (150, (zz (sv sb b)))] ++ F0) [(ob sa a), (ob sb b), (oc 1 sa a), (oc 1 sb b), (ow 0 false g), (ow 0 false (xc (sv sb b) g x)), (ow 0 false (yc (sv sa a) (sv sb b) g x)), (ow 0 false i), (oz 1 (sv sa a)), (oz 1 (sv sb b)), (oz 1 g), (oz 1 ((sv sa a) * (xc (sv sb b) g x) + (sv sb b) * (yc (sv sa a) (sv sb b) g x))), (oz 0 (flo (sv sa a) g)), (oz 0 ((sv sa a) - flo (sv sa a) g * g)), (oz 0 (flo (sv sb b) g)), (oz 0 ((sv sb b) - flo (sv sb b) g * g)), oe, oh] Q1 := by
              subst ho; subst hF
              refine ja_2 6 15 ?_ ?_ rfl rfl (by kernel_rfl)
              · refine js_call Try.f21 (ZMul_s (sv sa a) i (by omega) (by omega)) rfl Try.func21 rfl rfl (ovL_cons rfl (ovL_cons rfl ovL_nil)) (.cons (.a1 .b (.a1 .n .a0)) (.cons (.a1 .b (.a1 .n .a0)) .nil)) (hd 147 rfl) ?_ (fun ch hp => by simp at hp)
                rintro y hy; injection hy with hy; subst hy
                refine ja_t3 S18_27 9 (.c5 rfl rfl rfl rfl rfl (.c2 rfl rfl (.c2 rfl rfl .nil)))
              · refine js_h (hy_allocAt (id := 17) zero35 (by decide) rfl (by decide) rfl) (hd 22 rfl) ?_
                refine ja_t3 S18_30 9 (.c5 rfl rfl rfl rfl rfl (.c2 rfl rfl (.c2 rfl rfl .nil)))
            have S18_32 : JA Try.prog ops1 10 #[true, true, true, true, true, true, false, false, false, true, false, false, false, false, false, true, false, false] Γ ([(22, .p 17 1 0), (141, (zz (sv sa a))), (142, .p 7 0 0), (143, .b (decide (i < 0))), (144, .p 7 0 1), (145, .n false .u64 (lm i)), (146, (zz i)), (150, (zz (sv sb b)))] ++ F0) [(ob sa a), (ob sb b), (oc 1 sa a), (oc 1 sb b), (ow 0 false g), (ow 0 false (xc (sv sb b) g x)), (ow 0 false (yc (sv sa a) (sv sb b) g x)), (ow 0 false i), (oz 1 (sv sa a)), (oz 1 (sv sb b)), (oz 1 g), (oz 1 ((sv sa a) * (xc (sv sb b) g x) + (sv sb b) * (yc (sv sa a) (sv sb b) g x))), (oz 0 (flo (sv sa a) g)), (oz 0 ((sv sa a) - flo (sv sa a) g * g)), (oz 0 (flo (sv sb b) g)), (oz 0 ((sv sb b) - flo (sv sb b) g * g)), oh, oe] Q1 := by
              subst ho; subst hF
              refine ja_2 6 14 ?_ ?_ rfl rfl (by kernel_rfl)
              · refine js_call Try.f21 (ZMul_s (sv sa a) i (by omega) (by omega)) rfl Try.func21 rfl rfl (ovL_cons rfl (ovL_cons rfl ovL_nil)) (.cons (.a1 .b (.a1 .n .a0)) (.cons (.a1 .b (.a1 .n .a0)) .nil)) (hd 147 rfl) ?_ (fun ch hp => by simp at hp)
                rintro y hy; injection hy with hy; subst hy
                refine ja_t3 S18_28 9 (.c5 rfl rfl rfl rfl rfl (.c2 rfl rfl (.c2 rfl rfl .nil)))
              · refine js_h (hy_allocAt (id := 16) zero35 (by decide) rfl (by decide) rfl) (hd 21 rfl) ?_
                refine ja_t3 S18_30 9 (.c5 rfl rfl rfl rfl rfl (.c2 rfl rfl (.c2 rfl rfl .nil)))
            have S18_33 : JA Try.prog ops1 11 #[true, true, true, true, true, true, false, false, false, true, false, false, false, false, false, false, false, false] Γ ([(141, (zz (sv sa a))), (142, .p 7 0 0), (143, .b (decide (i < 0))), (144, .p 7 0 1), (145, .n false .u64 (lm i)), (146, (zz i)), (150, (zz (sv sb b)))] ++ F0) [(ob sa a), (ob sb b), (oc 1 sa a), (oc 1 sb b), (ow 0 false g), (ow 0 false (xc (sv sb b) g x)), (ow 0 false (yc (sv sa a) (sv sb b) g x)), (ow 0 false i), (oz 1 (sv sa a)), (oz 1 (sv sb b)), (oz 1 g), (oz 1 ((sv sa a) * (xc (sv sb b) g x) + (sv sb b) * (yc (sv sa a) (sv sb b) g x))), (oz 0 (flo (sv sa a) g)), (oz 0 ((sv sa a) - flo (sv sa a) g * g)), (oz 0 (flo (sv sb b) g)), (oz 0 ((sv sb b) - flo (sv sb b) g * g)), oh, oh] Q1 := by
              subst ho; subst hF
              refine ja_3 6 14 15 ?_ ?_ ?_ rfl rfl rfl (by kernel_rfl)
              · refine js_call Try.f21 (ZMul_s (sv sa a) i (by omega) (by omega)) rfl Try.func21 rfl rfl (ovL_cons rfl (ovL_cons rfl ovL_nil)) (.cons (.a1 .b (.a1 .n .a0)) (.cons (.a1 .b (.a1 .n .a0)) .nil)) (hd 147 rfl) ?_ (fun ch hp => by simp at hp)
                rintro y hy; injection hy with hy; subst hy
                refine ja_t3 S18_29 8 (.c5 rfl rfl rfl rfl rfl (.c2 rfl rfl (.cons rfl .nil)))
              · refine js_h (hy_allocAt (id := 16) zero35 (by decide) rfl (by decide) rfl) (hd 21 rfl) ?_
                refine ja_t3 S18_31 8 (.c5 rfl rfl rfl rfl rfl (.c2 rfl rfl (.cons rfl .nil)))
              · refine js_h (hy_allocAt (id := 17) zero35 (by decide) rfl (by decide) rfl) (hd 22 rfl) ?_
                refine ja_t3 S18_32 8 (.c5 rfl rfl rfl rfl rfl (.c2 rfl rfl (.cons rfl .nil)))
            have S18_34 : JA Try.prog ops1 10 #[true, true, true, true, true, false, false, false, false, true, false, false, false, false, true, true, false, false] Γ ([(21, .p 16 1 0), (22, .p 17 1 0), (141, (zz (sv sa a))), (142, .p 7 0 0), (143, .b (decide (i < 0))), (144, .p 7 0 1), (145, .n false .u64 (lm i)), (150, (zz (sv sb b)))] ++ F0) [(ob sa a), (ob sb b), (oc 1 sa a), (oc 1 sb b), (ow 0 false g), (ow 0 false (xc (sv sb b) g x)), (ow 0 false (yc (sv sa a) (sv sb b) g x)), (ow 0 false i), (oz 1 (sv sa a)), (oz 1 (sv sb b)), (oz 1 g), (oz 1 ((sv sa a) * (xc (sv sb b) g x) + (sv sb b) * (yc (sv sa a) (sv sb b) g x))), (oz 0 (flo (sv sa a) g)), (oz 0 ((sv sa a) - flo (sv sa a) g * g)), (oz 0 (flo (sv sb b) g)), (oz 0 ((sv sb b) - flo (sv sb b) g * g)), oe, oe] Q1 := by
              subst ho; subst hF
              refine ja_1 5 ?_ rfl (by kernel_rfl)
              refine js_call Try.f19 (ZOf_v i (by omega)) rfl Try.func19 rfl rfl (ovL_cons rfl (ovL_cons rfl ovL_nil)) (.cons .b (.cons .n .nil)) (hd 146 rfl) ?_ (fun ch hp => by simp at hp)
              rintro y hy; injection hy with hy; subst hy
              refine ja_t3 S18_30 9 (.c5 rfl rfl rfl rfl rfl (.c2 rfl rfl (.c2 rfl rfl .nil)))
            have S18_35 : JA Try.prog ops1 11 #[true, true, true, true, true, false, false, false, false, true, false, false, false, false, true, false, false, false] Γ ([(21, .p 16 1 0), (141, (zz (sv sa a))), (142, .p 7 0 0), (143, .b (decide (i < 0))), (144, .p 7 0 1), (145, .n false .u64 (lm i)), (150, (zz (sv sb b)))] ++ F0) [(ob sa a), (ob sb b), (oc 1 sa a), (oc 1 sb b), (ow 0 false g), (ow 0 false (xc (sv sb b) g x)), (ow 0 false (yc (sv sa a) (sv sb b) g x)), (ow 0 false i), (oz 1 (sv sa a)), (oz 1 (sv sb b)), (oz 1 g), (oz 1 ((sv sa a) * (xc (sv sb b) g x) + (sv sb b) * (yc (sv sa a) (sv sb b) g x))), (oz 0 (flo (sv sa a) g)), (oz 0 ((sv sa a) - flo (sv sa a) g * g)), (oz 0 (flo (sv sb b) g)), (oz 0 ((sv sb b) - flo (sv sb b) g * g)), oe, oh] Q1 := by
              subst ho; subst hF
              refine ja_2 5 15 ?_ ?_ rfl rfl (by kernel_rfl)
              · refine js_call Try.f19 (ZOf_v i (by omega)) rfl Try.func19 rfl rfl (ovL_cons rfl (ovL_cons rfl ovL_nil)) (.cons .b (.cons .n .nil)) (hd 146 rfl) ?_ (fun ch hp => by simp at hp)
                rintro y hy; injection hy with hy; subst hy
                refine ja_t3 S18_31 8 (.c5 rfl rfl rfl rfl rfl (.c2 rfl rfl (.cons rfl .nil)))
              · refine js_h (hy_allocAt (id := 17) zero35 (by decide) rfl (by decide) rfl) (hd 22 rfl) ?_
                refine ja_t3 S18_34 8 (.c5 rfl rfl rfl rfl rfl (.c2 rfl rfl (.cons rfl .nil)))
            have S18_36 : JA Try.prog ops1 11 #[true, true, true, true, true, false, false, false, false, true, false, false, false, false, false, true, false, false] Γ ([(22, .p 17 1 0), (141, (zz (sv sa a))), (142, .p 7 0 0), (143, .b (decide (i < 0))), (144, .p 7 0 1), (145, .n false .u64 (lm i)), (150, (zz (sv sb b)))] ++ F0) [(ob sa a), (ob sb b), (oc 1 sa a), (oc 1 sb b), (ow 0 false g), (ow 0 false (xc (sv sb b) g x)), (ow 0 false (yc (sv sa a) (sv sb b) g x)), (ow 0 false i), (oz 1 (sv sa a)), (oz 1 (sv sb b)), (oz 1 g), (oz 1 ((sv sa a) * (xc (sv sb b) g x) + (sv sb b) * (yc (sv sa a) (sv sb b) g x))), (oz 0 (flo (sv sa a) g)), (oz 0 ((sv sa a) - flo (sv sa a) g * g)), (oz 0 (flo (sv sb b) g)), (oz 0 ((sv sb b) - flo (sv sb b) g * g)), oh, oe] Q1 := by
              subst ho; subst hF
              refine ja_2 5 14 ?_ ?_ rfl rfl (by kernel_rfl)
              · refine js_call Try.f19 (ZOf_v i (by omega)) rfl Try.func19 rfl rfl (ovL_cons rfl (ovL_cons rfl ovL_nil)) (.cons .b (.cons .n .nil)) (hd 146 rfl) ?_ (fun ch hp => by simp at hp)
                rintro y hy; injection hy with hy; subst hy
                refine ja_t3 S18_32 8 (.c5 rfl rfl rfl rfl rfl (.c2 rfl rfl (.cons rfl .nil)))
              · refine js_h (hy_allocAt (id := 16) zero35 (by decide) rfl (by decide) rfl) (hd 21 rfl) ?_
                refine ja_t3 S18_34 8 (.c5 rfl rfl rfl rfl rfl (.c2 rfl rfl (.cons rfl .nil)))
            have S18_37 : JA Try.prog ops1 12 #[true, true, true, true, true, false, false, false, false, true, false, false, false, false, false, false, false, false] Γ ([(141, (zz (sv sa a))), (142, .p 7 0 0), (143, .b (decide (i < 0))), (144, .p 7 0 1), (145, .n false .u64 (lm i)), (150, (zz (sv sb b)))] ++ F0) [(ob sa a), (ob sb b), (oc 1 sa a), (oc 1 sb b), (ow 0 false g), (ow 0 false (xc (sv sb b) g x)), (ow 0 false (yc (sv sa a) (sv sb b) g x)), (ow 0 false i), (oz 1 (sv sa a)), (oz 1 (sv sb b)), (oz 1 g), (oz 1 ((sv sa a) * (xc (sv sb b) g x) + (sv sb b) * (yc (sv sa a) (sv sb b) g x))), (oz 0 (flo (sv sa a) g)), (oz 0 ((sv sa a) - flo (sv sa a) g * g)), (oz 0 (flo (sv sb b) g)), (oz 0 ((sv sb b) - flo (sv sb b) g * g)), oh, oh] Q1 := by
              subst ho; subst hF
              refine ja_3 5 14 15 ?_ ?_ ?_ rfl rfl rfl (by kernel_rfl)
              · refine js_call Try.f19 (ZOf_v i (by omega)) rfl Try.func19 rfl rfl (ovL_cons rfl (ovL_cons rfl ovL_nil)) (.cons .b (.cons .n .nil)) (hd 146 rfl) ?_ (fun ch hp => by simp at hp)
                rintro y hy; injection hy with hy; subst hy
                refine ja_t3 S18_33 7 (.c5 rfl rfl rfl rfl rfl (.c2 rfl rfl .nil))
              · refine js_h (hy_allocAt (id := 16) zero35 (by decide) rfl (by decide) rfl) (hd 21 rfl) ?_
                refine ja_t3 S18_35 7 (.c5 rfl rfl rfl rfl rfl (.c2 rfl rfl .nil))
              · refine js_h (hy_allocAt (id := 17) zero35 (by decide) rfl (by decide) rfl) (hd 22 rfl) ?_
                refine ja_t3 S18_36 7 (.c5 rfl rfl rfl rfl rfl (.c2 rfl rfl .nil))
            have S18_38 : JA Try.prog ops1 13 #[true, true, true, true, true, false, false, false, false, false, false, false, false, false, false, false, false, false] Γ ([(141, (zz (sv sa a))), (142, .p 7 0 0), (143, .b (decide (i < 0))), (144, .p 7 0 1), (145, .n false .u64 (lm i))] ++ F0) [(ob sa a), (ob sb b), (oc 1 sa a), (oc 1 sb b), (ow 0 false g), (ow 0 false (xc (sv sb b) g x)), (ow 0 false (yc (sv sa a) (sv sb b) g x)), (ow 0 false i), (oz 1 (sv sa a)), (oz 1 (sv sb b)), (oz 1 g), (oz 1 ((sv sa a) * (xc (sv sb b) g x) + (sv sb b) * (yc (sv sa a) (sv sb b) g x))), (oz 0 (flo (sv sa a) g)), (oz 0 ((sv sa a) - flo (sv sa a) g * g)), (oz 0 (flo (sv sb b) g)), (oz 0 ((sv sb b) - flo (sv sb b) g * g)), oh, oh] Q1 := by
              subst ho; subst hF; refine ja_l2 9 [10, 11, 12, 13, 16, 17] (lo_l (ly_lda agg35 rfl rfl rfl rfl) (hd 150 rfl)) rfl (by kernel_rfl) (by kernel_rfl) (by kernel_rfl) (by kernel_rfl) hpan ?_
              refine ja_t3 S18_37 6 (.c5 rfl rfl rfl rfl rfl (.cons rfl .nil))
            have S18_39 : JA Try.prog ops1 14 #[true, true, true, true, false, false, false, false, false, false, false, false, false, false, false, false, false, false] Γ ([(141, (zz (sv sa a))), (142, .p 7 0 0), (143, .b (decide (i < 0))), (144, .p 7 0 1)] ++ F0) [(ob sa a), (ob sb b), (oc 1 sa a), (oc 1 sb b), (ow 0 false g), (ow 0 false (xc (sv sb b) g x)), (ow 0 false (yc (sv sa a) (sv sb b) g x)), (ow 0 false i), (oz 1 (sv sa a)), (oz 1 (sv sb b)), (oz 1 g), (oz 1 ((sv sa a) * (xc (sv sb b) g x) + (sv sb b) * (yc (sv sa a) (sv sb b) g x))), (oz 0 (flo (sv sa a) g)), (oz 0 ((sv sa a) - flo (sv sa a) g * g)), (oz 0 (flo (sv sb b) g)), (oz 0 ((sv sb b) - flo (sv sb b) g * g)), oh, oh] Q1 := by
              subst ho; subst hF; refine ja_l2 4 [5, 6, 7, 8, 10, 11, 12, 13, 16, 17] (lo_l (ly_ld one28 rfl rfl rfl) (hd 145 rfl)) rfl (by kernel_rfl) (by kernel_rfl) (by kernel_rfl) (by kernel_rfl) hpan ?_
              refine ja_t3 S18_38 5 (.c5 rfl rfl rfl rfl rfl .nil)
            have S18_40 : JA Try.prog ops1 15 #[true, true, true, false, false, false, false, false, false, false, false, false, false, false, false, false, false, false] Γ ([(141, (zz (sv sa a))), (142, .p 7 0 0), (143, .b (decide (i < 0)))] ++ F0) [(ob sa a), (ob sb b), (oc 1 sa a), (oc 1 sb b), (ow 0 false g), (ow 0 false (xc (sv sb b) g x)), (ow 0 false (yc (sv sa a) (sv sb b) g x)), (ow 0 false i), (oz 1 (sv sa a)), (oz 1 (sv sb b)), (oz 1 g), (oz 1 ((sv sa a) * (xc (sv sb b) g x) + (sv sb b) * (yc (sv sa a) (sv sb b) g x))), (oz 0 (flo (sv sa a) g)), (oz 0 ((sv sa a) - flo (sv sa a) g * g)), (oz 0 (flo (sv sb b) g)), (oz 0 ((sv sb b) - flo (sv sb b) g * g)), oh, oh] Q1 := by
              subst ho; subst hF; refine ja_l2 3 [4, 5, 6, 7, 8, 10, 11, 12, 13, 16, 17] (lo_l (ly_fa fld30_1 rfl rfl rfl) (hd 144 rfl)) rfl (by kernel_rfl) (by kernel_rfl) (by kernel_rfl) (by kernel_rfl) hpan ?_
              refine ja_t3 S18_39 4 (.c2 rfl rfl (.c2 rfl rfl .nil))
            have S18_41 : JA Try.prog ops1 16 #[true, true, false, false, false, false, false, false, false, false, false, false, false, false, false, false, false, false] Γ ([(141, (zz (sv sa a))), (142, .p 7 0 0)] ++ F0) [(ob sa a), (ob sb b), (oc 1 sa a), (oc 1 sb b), (ow 0 false g), (ow 0 false (xc (sv sb b) g x)), (ow 0 false (yc (sv sa a) (sv sb b) g x)), (ow 0 false i), (oz 1 (sv sa a)), (oz 1 (sv sb b)), (oz 1 g), (oz 1 ((sv sa a) * (xc (sv sb b) g x) + (sv sb b) * (yc (sv sa a) (sv sb b) g x))), (oz 0 (flo (sv sa a) g)), (oz 0 ((sv sa a) - flo (sv sa a) g * g)), (oz 0 (flo (sv sb b) g)), (oz 0 ((sv sb b) - flo (sv sb b) g * g)), oh, oh] Q1 := by
              subst ho; subst hF; refine ja_l2 2 [5, 6, 7, 8, 10, 11, 12, 13, 16, 17] (lo_l (ly_ld one4 rfl rfl rfl) (hd 143 rfl)) rfl (by kernel_rfl) (by kernel_rfl) (by kernel_rfl) (by kernel_rfl) hpan ?_
              refine ja_t3 S18_40 3 (.c2 rfl rfl (.cons rfl .nil))
            have S18_42 : JA Try.prog ops1 17 #[true, false, false, false, false, false, false, false, false, false, false, false, false, false, false, false, false, false] Γ ([(141, (zz (sv sa a)))] ++ F0) [(ob sa a), (ob sb b), (oc 1 sa a), (oc 1 sb b), (ow 0 false g), (ow 0 false (xc (sv sb b) g x)), (ow 0 false (yc (sv sa a) (sv sb b) g x)), (ow 0 false i), (oz 1 (sv sa a)), (oz 1 (sv sb b)), (oz 1 g), (oz 1 ((sv sa a) * (xc (sv sb b) g x) + (sv sb b) * (yc (sv sa a) (sv sb b) g x))), (oz 0 (flo (sv sa a) g)), (oz 0 ((sv sa a) - flo (sv sa a) g * g)), (oz 0 (flo (sv sb b) g)), (oz 0 ((sv sb b) - flo (sv sb b) g * g)), oh, oh] Q1 := by
              subst ho; subst hF; refine ja_l2 1 [2, 5, 6, 7, 8, 10, 11, 12, 13, 16, 17] (lo_l (ly_fa fld30_0 rfl rfl rfl) (hd 142 rfl)) rfl (by kernel_rfl) (by kernel_rfl) (by kernel_rfl) (by kernel_rfl) hpan ?_
              refine ja_t3 S18_41 2 (.c2 rfl rfl .nil)
            have S18_43 : JA Try.prog ops1 18 #[false, false, false, false, false, false, false, false, false, false, false, false, false, false, false, false, false, false] Γ ([] ++ F0) [(ob sa a), (ob sb b), (oc 1 sa a), (oc 1 sb b), (ow 0 false g), (ow 0 false (xc (sv sb b) g x)), (ow 0 false (yc (sv sa a) (sv sb b) g x)), (ow 0 false i), (oz 1 (sv sa a)), (oz 1 (sv sb b)), (oz 1 g), (oz 1 ((sv sa a) * (xc (sv sb b) g x) + (sv sb b) * (yc (sv sa a) (sv sb b) g x))), (oz 0 (flo (sv sa a) g)), (oz 0 ((sv sa a) - flo (sv sa a) g * g)), (oz 0 (flo (sv sb b) g)), (oz 0 ((sv sb b) - flo (sv sb b) g * g)), oh, oh] Q1 := by
              subst ho; subst hF; refine ja_l2 0 [6, 7, 8, 10, 11, 12, 13, 16, 17] (lo_l (ly_lda agg35 rfl rfl rfl rfl) (hd 141 rfl)) rfl (by kernel_rfl) (by kernel_rfl) (by kernel_rfl) (by kernel_rfl) hpan ?_
              refine ja_t3 S18_42 1 (.cons rfl .nil)
            subst ho; subst hF
            exact ja_to (m := []) (by decide) rfl (cov_n 0 rfl rfl .nil) S18_43
        have S7_1 : JA Try.prog ops1 1 #[true, true, true, true, true, true, true, true, true, true, true, true, true, true, true, true, false] Γ ([(16, .p 11 1 0), (68, (zz (sv sa a))), (69, .p 5 0 0), (70, .b (decide ((xc (sv sb b) g x) < 0))), (71, .p 5 0 1), (72, .n false .u64 (lm (xc (sv sb b) g x))), (73, (zz (xc (sv sb b) g x))), (74, (zz ((sv sa a) * (xc (sv sb b) g x)))), (75, (zz (sv sb b))), (76, .p 6 0 0), (77, .b (decide ((yc (sv sa a) (sv sb b) g x) < 0))), (78, .p 6 0 1), (79, .n false .u64 (lm (yc (sv sa a) (sv sb b) g x))), (80, (zz (yc (sv sa a) (sv sb b) g x))), (81, (zz ((sv sb b) * (yc (sv sa a) (sv sb b) g x)))), (82, (zz ((sv sa a) * (xc (sv sb b) g x) + (sv sb b) * (yc (sv sa a) (sv sb b) g x))))] ++ F0) [(ob sa a), (ob sb b), (oc 1 sa a), (oc 1 sb b), (ow 0 false g), (ow 0 false (xc (sv sb b) g x)), (ow 0 false (yc (sv sa a) (sv sb b) g x)), (oc 0 s l), (oz 1 (sv sa a)), (oz 1 (sv sb b)), (oz 1 g), oe] Q1 := by
          subst ho; subst hF
          refine ja_1 16 ?_ rfl (by kernel_rfl)
          refine js_st (sy_store rfl rfl rfl siz35 rfl rfl (Nat.le_of_ble_eq_true rfl)) rfl ?_
          refine ja_t3 S7_0 16 (.c5 rfl rfl rfl rfl rfl (.c5 rfl rfl rfl rfl rfl (.c5 rfl rfl rfl rfl rfl (.cons rfl .nil))))
        have S7_2 : JA Try.prog ops1 2 #[true, true, true, true, true, true, true, true, true, true, true, true, true, true, true, false, false] Γ ([(68, (zz (sv sa a))), (69, .p 5 0 0), (70, .b (decide ((xc (sv sb b) g x) < 0))), (71, .p 5 0 1), (72, .n false .u64 (lm (xc (sv sb b) g x))), (73, (zz (xc (sv sb b) g x))), (74, (zz ((sv sa a) * (xc (sv sb b) g x)))), (75, (zz (sv sb b))), (76, .p 6 0 0), (77, .b (decide ((yc (sv sa a) (sv sb b) g x) < 0))), (78, .p 6 0 1), (79, .n false .u64 (lm (yc (sv sa a) (sv sb b) g x))), (80, (zz (yc (sv sa a) (sv sb b) g x))), (81, (zz ((sv sb b) * (yc (sv sa a) (sv sb b) g x)))), (82, (zz ((sv sa a) * (xc (sv sb b) g x) + (sv sb b) * (yc (sv sa a) (sv sb b) g x))))] ++ F0) [(ob sa a), (ob sb b), (oc 1 sa a), (oc 1 sb b), (ow 0 false g), (ow 0 false (xc (sv sb b) g x)), (ow 0 false (yc (sv sa a) (sv sb b) g x)), (oc 0 s l), (oz 1 (sv sa a)), (oz 1 (sv sb b)), (oz 1 g), oh] Q1 := by
          subst ho; subst hF
          refine ja_1 15 ?_ rfl (by kernel_rfl)
          refine js_h (hy_allocAt (id := 11) zero35 (by decide) rfl (by decide) rfl) (hd 16 rfl) ?_
          refine ja_t3 S7_1 16 (.c5 rfl rfl rfl rfl rfl (.c5 rfl rfl rfl rfl rfl (.c5 rfl rfl rfl rfl rfl (.cons rfl .nil))))
        have S7_3 : JA Try.prog ops1 2 #[true, true, true, true, true, true, true, true, true, true, true, true, true, true, false, true, false] Γ ([(16, .p 11 1 0), (68, (zz (sv sa a))), (69, .p 5 0 0), (70, .b (decide ((xc (sv sb b) g x) < 0))), (71, .p 5 0 1), (72, .n false .u64 (lm (xc (sv sb b) g x))), (73, (zz (xc (sv sb b) g x))), (74, (zz ((sv sa a) * (xc (sv sb b) g x)))), (75, (zz (sv sb b))), (76, .p 6 0 0), (77, .b (decide ((yc (sv sa a) (sv sb b) g x) < 0))), (78, .p 6 0 1), (79, .n false .u64 (lm (yc (sv sa a) (sv sb b) g x))), (80, (zz (yc (sv sa a) (sv sb b) g x))), (81, (zz ((sv sb b) * (yc (sv sa a) (sv sb b) g x))))] ++ F0) [(ob sa a), (ob sb b), (oc 1 sa a), (oc 1 sb b), (ow 0 false g), (ow 0 false (xc (sv sb b) g x)), (ow 0 false (yc (sv sa a) (sv sb b) g x)), (oc 0 s l), (oz 1 (sv sa a)), (oz 1 (sv sb b)), (oz 1 g), oe] Q1 := by
          subst ho; subst hF
          refine ja_1 14 ?_ rfl (by kernel_rfl)
          refine js_call Try.f20 (ZAdd_s ((sv sa a) * (x % qn (sv sb b) g)) ((sv sb b) * (wq 0 (g - (sv sa a) * (x % qn (sv sb b) g)) (sv sb b))) (by omega) (by omega)) rfl Try.func20 rfl rfl (ovL_cons rfl (ovL_cons rfl ovL_nil)) (.cons (.a1 .b (.a1 .n .a0)) (.cons (.a1 .b (.a1 .n .a0)) .nil)) (hd 82 rfl) ?_ (fun ch hp => by simp at hp)
          rintro y hy; injection hy with hy; subst hy
          refine ja_t3 S7_1 16 (.c5 rfl rfl rfl rfl rfl (.c5 rfl rfl rfl rfl rfl (.c5 rfl rfl rfl rfl rfl (.cons rfl .nil))))
        have S7_4 : JA Try.prog ops1 3 #[true, true, true, true, true, true, true, true, true, true, true, true, true, true, false, false, false] Γ ([(68, (zz (sv sa a))), (69, .p 5 0 0), (70, .b (decide ((xc (sv sb b) g x) < 0))), (71, .p 5 0 1), (72, .n false .u64 (lm (xc (sv sb b) g x))), (73, (zz (xc (sv sb b) g x))), (74, (zz ((sv sa a) * (xc (sv sb b) g x)))), (75, (zz (sv sb b))), (76, .p 6 0 0), (77, .b (decide ((yc (sv sa a) (sv sb b) g x) < 0))), (78, .p 6 0 1), (79, .n false .u64 (lm (yc (sv sa a) (sv sb b) g x))), (80, (zz (yc (sv sa a) (sv sb b) g x))), (81, (zz ((sv sb b) * (yc (sv sa a) (sv sb b) g x))))] ++ F0) [(ob sa a), (ob sb b), (oc 1 sa a), (oc 1 sb b), (ow 0 false g), (ow 0 false (xc (sv sb b) g x)), (ow 0 false (yc (sv sa a) (sv sb b) g x)), (oc 0 s l), (oz 1 (sv sa a)), (oz 1 (sv sb b)), (oz 1 g), oh] Q1 := by
          subst ho; subst hF
          refine ja_2 14 15 ?_ ?_ rfl rfl (by kernel_rfl)
          · refine js_call Try.f20 (ZAdd_s ((sv sa a) * (x % qn (sv sb b) g)) ((sv sb b) * (wq 0 (g - (sv sa a) * (x % qn (sv sb b) g)) (sv sb b))) (by omega) (by omega)) rfl Try.func20 rfl rfl (ovL_cons rfl (ovL_cons rfl ovL_nil)) (.cons (.a1 .b (.a1 .n .a0)) (.cons (.a1 .b (.a1 .n .a0)) .nil)) (hd 82 rfl) ?_ (fun ch hp => by simp at hp)
            rintro y hy; injection hy with hy; subst hy
            refine ja_t3 S7_2 15 (.c5 rfl rfl rfl rfl rfl (.c5 rfl rfl rfl rfl rfl (.c5 rfl rfl rfl rfl rfl .nil)))
          · refine js_h (hy_allocAt (id := 11) zero35 (by decide) rfl (by decide) rfl) (hd 16 rfl) ?_
            refine ja_t3 S7_3 15 (.c5 rfl rfl rfl rfl rfl (.c5 rfl rfl rfl rfl rfl (.c5 rfl rfl rfl rfl rfl .nil)))
        have S7_5 : JA Try.prog ops1 3 #[true, true, true, true, true, true, true, true, true, true, true, true, true, false, false, true, false] Γ ([(16, .p 11 1 0), (68, (zz (sv sa a))), (69, .p 5 0 0), (70, .b (decide ((xc (sv sb b) g x) < 0))), (71, .p 5 0 1), (72, .n false .u64 (lm (xc (sv sb b) g x))), (73, (zz (xc (sv sb b) g x))), (74, (zz ((sv sa a) * (xc (sv sb b) g x)))), (75, (zz (sv sb b))), (76, .p 6 0 0), (77, .b (decide ((yc (sv sa a) (sv sb b) g x) < 0))), (78, .p 6 0 1), (79, .n false .u64 (lm (yc (sv sa a) (sv sb b) g x))), (80, (zz (yc (sv sa a) (sv sb b) g x)))] ++ F0) [(ob sa a), (ob sb b), (oc 1 sa a), (oc 1 sb b), (ow 0 false g), (ow 0 false (xc (sv sb b) g x)), (ow 0 false (yc (sv sa a) (sv sb b) g x)), (oc 0 s l), (oz 1 (sv sa a)), (oz 1 (sv sb b)), (oz 1 g), oe] Q1 := by
          subst ho; subst hF
          refine ja_1 13 ?_ rfl (by kernel_rfl)
          refine js_call Try.f21 (ZMul_s (sv sb b) (wq 0 (g - (sv sa a) * (x % qn (sv sb b) g)) (sv sb b)) (by omega) (by omega)) rfl Try.func21 rfl rfl (ovL_cons rfl (ovL_cons rfl ovL_nil)) (.cons (.a1 .b (.a1 .n .a0)) (.cons (.a1 .b (.a1 .n .a0)) .nil)) (hd 81 rfl) ?_ (fun ch hp => by simp at hp)
          rintro y hy; injection hy with hy; subst hy
          refine ja_t3 S7_3 15 (.c5 rfl rfl rfl rfl rfl (.c5 rfl rfl rfl rfl rfl (.c5 rfl rfl rfl rfl rfl .nil)))
        have S7_6 : JA Try.prog ops1 4 #[true, true, true, true, true, true, true, true, true, true, true, true, true, false, false, false, false] Γ ([(68, (zz (sv sa a))), (69, .p 5 0 0), (70, .b (decide ((xc (sv sb b) g x) < 0))), (71, .p 5 0 1), (72, .n false .u64 (lm (xc (sv sb b) g x))), (73, (zz (xc (sv sb b) g x))), (74, (zz ((sv sa a) * (xc (sv sb b) g x)))), (75, (zz (sv sb b))), (76, .p 6 0 0), (77, .b (decide ((yc (sv sa a) (sv sb b) g x) < 0))), (78, .p 6 0 1), (79, .n false .u64 (lm (yc (sv sa a) (sv sb b) g x))), (80, (zz (yc (sv sa a) (sv sb b) g x)))] ++ F0) [(ob sa a), (ob sb b), (oc 1 sa a), (oc 1 sb b), (ow 0 false g), (ow 0 false (xc (sv sb b) g x)), (ow 0 false (yc (sv sa a) (sv sb b) g x)), (oc 0 s l), (oz 1 (sv sa a)), (oz 1 (sv sb b)), (oz 1 g), oh] Q1 := by
          subst ho; subst hF
          refine ja_2 13 15 ?_ ?_ rfl rfl (by kernel_rfl)
          · refine js_call Try.f21 (ZMul_s (sv sb b) (wq 0 (g - (sv sa a) * (x % qn (sv sb b) g)) (sv sb b)) (by omega) (by omega)) rfl Try.func21 rfl rfl (ovL_cons rfl (ovL_cons rfl ovL_nil)) (.cons (.a1 .b (.a1 .n .a0)) (.cons (.a1 .b (.a1 .n .a0)) .nil)) (hd 81 rfl) ?_ (fun ch hp => by simp at hp)
            rintro y hy; injection hy with hy; subst hy
            refine ja_t3 S7_4 14 (.c5 rfl rfl rfl rfl rfl (.c5 rfl rfl rfl rfl rfl (.c2 rfl rfl (.c2 rfl rfl .nil))))
          · refine js_h (hy_allocAt (id := 11) zero35 (by decide) rfl (by decide) rfl) (hd 16 rfl) ?_
            refine ja_t3 S7_5 14 (.c5 rfl rfl rfl rfl rfl (.c5 rfl rfl rfl rfl rfl (.c2 rfl rfl (.c2 rfl rfl .nil))))
        have S7_7 : JA Try.prog ops1 4 #[true, true, true, true, true, true, true, true, true, true, true, true, false, false, false, true, false] Γ ([(16, .p 11 1 0), (68, (zz (sv sa a))), (69, .p 5 0 0), (70, .b (decide ((xc (sv sb b) g x) < 0))), (71, .p 5 0 1), (72, .n false .u64 (lm (xc (sv sb b) g x))), (73, (zz (xc (sv sb b) g x))), (74, (zz ((sv sa a) * (xc (sv sb b) g x)))), (75, (zz (sv sb b))), (76, .p 6 0 0), (77, .b (decide ((yc (sv sa a) (sv sb b) g x) < 0))), (78, .p 6 0 1), (79, .n false .u64 (lm (yc (sv sa a) (sv sb b) g x)))] ++ F0) [(ob sa a), (ob sb b), (oc 1 sa a), (oc 1 sb b), (ow 0 false g), (ow 0 false (xc (sv sb b) g x)), (ow 0 false (yc (sv sa a) (sv sb b) g x)), (oc 0 s l), (oz 1 (sv sa a)), (oz 1 (sv sb b)), (oz 1 g), oe] Q1 := by
          subst ho; subst hF
          refine ja_1 12 ?_ rfl (by kernel_rfl)
          refine js_call Try.f19 (ZOf_v (wq 0 (g - (sv sa a) * (x % qn (sv sb b) g)) (sv sb b)) (by omega)) rfl Try.func19 rfl rfl (ovL_cons rfl (ovL_cons rfl ovL_nil)) (.cons .b (.cons .n .nil)) (hd 80 rfl) ?_ (fun ch hp => by simp at hp)
          rintro y hy; injection hy with hy; subst hy
          refine ja_t3 S7_5 14 (.c5 rfl rfl rfl rfl rfl (.c5 rfl rfl rfl rfl rfl (.c2 rfl rfl (.c2 rfl rfl .nil))))
        have S7_8 : JA Try.prog ops1 5 #[true, true, true, true, true, true, true, true, true, true, true, true, false, false, false, false, false] Γ ([(68, (zz (sv sa a))), (69, .p 5 0 0), (70, .b (decide ((xc (sv sb b) g x) < 0))), (71, .p 5 0 1), (72, .n false .u64 (lm (xc (sv sb b) g x))), (73, (zz (xc (sv sb b) g x))), (74, (zz ((sv sa a) * (xc (sv sb b) g x)))), (75, (zz (sv sb b))), (76, .p 6 0 0), (77, .b (decide ((yc (sv sa a) (sv sb b) g x) < 0))), (78, .p 6 0 1), (79, .n false .u64 (lm (yc (sv sa a) (sv sb b) g x)))] ++ F0) [(ob sa a), (ob sb b), (oc 1 sa a), (oc 1 sb b), (ow 0 false g), (ow 0 false (xc (sv sb b) g x)), (ow 0 false (yc (sv sa a) (sv sb b) g x)), (oc 0 s l), (oz 1 (sv sa a)), (oz 1 (sv sb b)), (oz 1 g), oh] Q1 := by
          subst ho; subst hF
          refine ja_2 12 15 ?_ ?_ rfl rfl (by kernel_rfl)
          · refine js_call Try.f19 (ZOf_v (wq 0 (g - (sv sa a) * (x % qn (sv sb b) g)) (sv sb b)) (by omega)) rfl Try.func19 rfl rfl (ovL_cons rfl (ovL_cons rfl ovL_nil)) (.cons .b (.cons .n .nil)) (hd 80 rfl) ?_ (fun ch hp => by simp at hp)
            rintro y hy; injection hy with hy; subst hy
            refine ja_t3 S7_6 13 (.c5 rfl rfl rfl rfl rfl (.c5 rfl rfl rfl rfl rfl (.c2 rfl rfl (.cons rfl .nil))))
          · refine js_h (hy_allocAt (id := 11) zero35 (by decide) rfl (by decide) rfl) (hd 16 rfl) ?_
            refine ja_t3 S7_7 13 (.c5 rfl rfl rfl rfl rfl (.c5 rfl rfl rfl rfl rfl (.c2 rfl rfl (.cons rfl .nil))))
        have S7_9 : JA Try.prog ops1 5 #[true, true, true, true, true, true, false, true, true, true, true, true, false, false, false, true, false] Γ ([(16, .p 11 1 0), (68, (zz (sv sa a))), (69, .p 5 0 0), (70, .b (decide ((xc (sv sb b) g x) < 0))), (71, .p 5 0 1), (72, .n false .u64 (lm (xc (sv sb b) g x))), (73, (zz (xc (sv sb b) g x))), (75, (zz (sv sb b))), (76, .p 6 0 0), (77, .b (decide ((yc (sv sa a) (sv sb b) g x) < 0))), (78, .p 6 0 1), (79, .n false .u64 (lm (yc (sv sa a) (sv sb b) g x)))] ++ F0) [(ob sa a), (ob sb b), (oc 1 sa a), (oc 1 sb b), (ow 0 false g), (ow 0 false (xc (sv sb b) g x)), (ow 0 false (yc (sv sa a) (sv sb b) g x)), (oc 0 s l), (oz 1 (sv sa a)), (oz 1 (sv sb b)), (oz 1 g), oe] Q1 := by
          subst ho; subst hF
          refine ja_1 6 ?_ rfl (by kernel_rfl)
          refine js_call Try.f21 (ZMul_s (sv sa a) (x % qn (sv sb b) g) (by omega) (by omega)) rfl Try.func21 rfl rfl (ovL_cons rfl (ovL_cons rfl ovL_nil)) (.cons (.a1 .b (.a1 .n .a0)) (.cons (.a1 .b (.a1 .n .a0)) .nil)) (hd 74 rfl) ?_ (fun ch hp => by simp at hp)
          rintro y hy; injection hy with hy; subst hy
          refine ja_t3 S7_7 13 (.c5 rfl rfl rfl rfl rfl (.c5 rfl rfl rfl rfl rfl (.c2 rfl rfl (.cons rfl .nil))))
        have S7_10 : JA Try.prog ops1 6 #[true, true, true, true, true, true, false, true, true, true, true, true, false, false, false, false, false] Γ ([(68, (zz (sv sa a))), (69, .p 5 0 0), (70, .b (decide ((xc (sv sb b) g x) < 0))), (71, .p 5 0 1), (72, .n false .u64 (lm (xc (sv sb b) g x))), (73, (zz (xc (sv sb b) g x))), (75, (zz (sv sb b))), (76, .p 6 0 0), (77, .b (decide ((yc (sv sa a) (sv sb b) g x) < 0))), (78, .p 6 0 1), (79, .n false .u64 (lm (yc (sv sa a) (sv sb b) g x)))] ++ F0) [(ob sa a), (ob sb b), (oc 1 sa a), (oc 1 sb b), (ow 0 false g), (ow 0 false (xc (sv sb b) g x)), (ow 0 false (yc (sv sa a) (sv sb b) g x)), (oc 0 s l), (oz 1 (sv sa a)), (oz 1 (sv sb b)), (oz 1 g), oh] Q1 := by
          subst ho; subst hF
          refine ja_2 6 15 ?_ ?_ rfl rfl (by kernel_rfl)
          · refine js_call Try.f21 (ZMul_s (sv sa a) (x % qn (sv sb b) g) (by omega) (by omega)) rfl Try.func21 rfl rfl (ovL_cons rfl (ovL_cons rfl ovL_nil)) (.cons (.a1 .b (.a1 .n .a0)) (.cons (.a1 .b (.a1 .n .a0)) .nil)) (hd 74 rfl) ?_ (fun ch hp => by simp at hp)
            rintro y hy; injection hy with hy; subst hy
            refine ja_t3 S7_8 12 (.c5 rfl rfl rfl rfl rfl (.c5 rfl rfl rfl rfl rfl (.c2 rfl rfl .nil)))
          · refine js_h (hy_allocAt (id := 11) zero35 (by decide) rfl (by decide) rfl) (hd 16 rfl) ?_
            refine ja_t3 S7_9 12 (.c5 rfl rfl rfl rfl rfl (.c5 rfl rfl rfl rfl rfl (.c2 rfl rfl .nil)))
        have S7_11 : JA Try.prog ops1 6 #[true, true, true, true, true, false, false, true, true, true, true, true, false, false, false, true, false] Γ ([(16, .p 11 1 0), (68, (zz (sv sa a))), (69, .p 5 0 0), (70, .b (decide ((xc (sv sb b) g x) < 0))), (71, .p 5 0 1), (72, .n false .u64 (lm (xc (sv sb b) g x))), (75, (zz (sv sb b))), (76, .p 6 0 0), (77, .b (decide ((yc (sv sa a) (sv sb b) g x) < 0))), (78, .p 6 0 1), (79, .n false .u64 (lm (yc (sv sa a) (sv sb b) g x)))] ++ F0) [(ob sa a), (ob sb b), (oc 1 sa a), (oc 1 sb b), (ow 0 false g), (ow 0 false (xc (sv sb b) g x)), (ow 0 false (yc (sv sa a) (sv sb b) g x)), (oc 0 s l), (oz 1 (sv sa a)), (oz 1 (sv sb b)), (oz 1 g), oe] Q1 := by
          subst ho; subst hF
          refine ja_1 5 ?_ rfl (by kernel_rfl)
          refine js_call Try.f19 (ZOf_v (x % qn (sv sb b) g) (by omega)) rfl Try.func19 rfl rfl (ovL_cons rfl (ovL_cons rfl ovL_nil)) (.cons .b (.cons .n .nil)) (hd 73 rfl) ?_ (fun ch hp => by simp at hp)
          rintro y hy; injection hy with hy; subst hy
          refine ja_t3 S7_9 12 (.c5 rfl rfl rfl rfl rfl (.c5 rfl rfl rfl rfl rfl (.c2 rfl rfl .nil)))
        have S7_12 : JA Try.prog ops1 7 #[true, true, true, true, true, false, false, true, true, true, true, true, false, false, false, false, false] Γ ([(68, (zz (sv sa a))), (69, .p 5 0 0), (70, .b (decide ((xc (sv sb b) g x) < 0))), (71, .p 5 0 1), (72, .n false .u64 (lm (xc (sv sb b) g x))), (75, (zz (sv sb b))), (76, .p 6 0 0), (77, .b (decide ((yc (sv sa a) (sv sb b) g x) < 0))), (78, .p 6 0 1), (79, .n false .u64 (lm (yc (sv sa a) (sv sb b) g x)))] ++ F0) [(ob sa a), (ob sb b), (oc 1 sa a), (oc 1 sb b), (ow 0 false g), (ow 0 false (xc (sv sb b) g x)), (ow 0 false (yc (sv sa a) (sv sb b) g x)), (oc 0 s l), (oz 1 (sv sa a)), (oz 1 (sv sb b)), (oz 1 g), oh] Q1 := by
          subst ho; subst hF
          refine ja_2 5 15 ?_ ?_ rfl rfl (by kernel_rfl)
          · refine js_call Try.f19 (ZOf_v (x % qn (sv sb b) g) (by omega)) rfl Try.func19 rfl rfl (ovL_cons rfl (ovL_cons rfl ovL_nil)) (.cons .b (.cons .n .nil)) (hd 73 rfl) ?_ (fun ch hp => by simp at hp)
            rintro y hy; injection hy with hy; subst hy
            refine ja_t3 S7_10 11 (.c5 rfl rfl rfl rfl rfl (.c5 rfl rfl rfl rfl rfl (.cons rfl .nil)))
          · refine js_h (hy_allocAt (id := 11) zero35 (by decide) rfl (by decide) rfl) (hd 16 rfl) ?_
            refine ja_t3 S7_11 11 (.c5 rfl rfl rfl rfl rfl (.c5 rfl rfl rfl rfl rfl (.cons rfl .nil)))
        have S7_13 : JA Try.prog ops1 8 #[true, true, true, true, true, false, false, true, true, true, true, false, false, false, false, false, false] Γ ([(68, (zz (sv sa a))), (69, .p 5 0 0), (70, .b (decide ((xc (sv sb b) g x) < 0))), (71, .p 5 0 1), (72, .n false .u64 (lm (xc (sv sb b) g x))), (75, (zz (sv sb b))), (76, .p 6 0 0), (77, .b (decide ((yc (sv sa a) (sv sb b) g x) < 0))), (78, .p 6 0 1)] ++ F0) [(ob sa a), (ob sb b), (oc 1 sa a), (oc 1 sb b), (ow 0 false g), (ow 0 false (xc (sv sb b) g x)), (ow 0 false (yc (sv sa a) (sv sb b) g x)), (oc 0 s l), (oz 1 (sv sa a)), (oz 1 (sv sb b)), (oz 1 g), oh] Q1 := by
          subst ho; subst hF; refine ja_l2 11 [12, 13, 14, 16] (lo_l (ly_ld one28 rfl rfl rfl) (hd 79 rfl)) rfl (by kernel_rfl) (by kernel_rfl) (by kernel_rfl) (by kernel_rfl) hpan ?_
          refine ja_t3 S7_12 10 (.c5 rfl rfl rfl rfl rfl (.c5 rfl rfl rfl rfl rfl .nil))
        have S7_14 : JA Try.prog ops1 9 #[true, true, true, true, true, false, false, true, true, true, false, false, false, false, false, false, false] Γ ([(68, (zz (sv sa a))), (69, .p 5 0 0), (70, .b (decide ((xc (sv sb b) g x) < 0))), (71, .p 5 0 1), (72, .n false .u64 (lm (xc (sv sb b) g x))), (75, (zz (sv sb b))), (76, .p 6 0 0), (77, .b (decide ((yc (sv sa a) (sv sb b) g x) < 0)))] ++ F0) [(ob sa a), (ob sb b), (oc 1 sa a), (oc 1 sb b), (ow 0 false g), (ow 0 false (xc (sv sb b) g x)), (ow 0 false (yc (sv sa a) (sv sb b) g x)), (oc 0 s l), (oz 1 (sv sa a)), (oz 1 (sv sb b)), (oz 1 g), oh] Q1 := by
          subst ho; subst hF; refine ja_l2 10 [11, 12, 13, 14, 16] (lo_l (ly_fa fld30_1 rfl rfl rfl) (hd 78 rfl)) rfl (by kernel_rfl) (by kernel_rfl) (by kernel_rfl) (by kernel_rfl) hpan ?_
          refine ja_t3 S7_13 9 (.c5 rfl rfl rfl rfl rfl (.c2 rfl rfl (.c2 rfl rfl .nil)))
        have S7_15 : JA Try.prog ops1 10 #[true, true, true, true, true, false, false, true, true, false, false, false, false, false, false, false, false] Γ ([(68, (zz (sv sa a))), (69, .p 5 0 0), (70, .b (decide ((xc (sv sb b) g x) < 0))), (71, .p 5 0 1), (72, .n false .u64 (lm (xc (sv sb b) g x))), (75, (zz (sv sb b))), (76, .p 6 0 0)] ++ F0) [(ob sa a), (ob sb b), (oc 1 sa a), (oc 1 sb b), (ow 0 false g), (ow 0 false (xc (sv sb b) g x)), (ow 0 false (yc (sv sa a) (sv sb b) g x)), (oc 0 s l), (oz 1 (sv sa a)), (oz 1 (sv sb b)), (oz 1 g), oh] Q1 := by
          subst ho; subst hF; refine ja_l2 9 [12, 13, 14, 16] (lo_l (ly_ld one4 rfl rfl rfl) (hd 77 rfl)) rfl (by kernel_rfl) (by kernel_rfl) (by kernel_rfl) (by kernel_rfl) hpan ?_
          refine ja_t3 S7_14 8 (.c5 rfl rfl rfl rfl rfl (.c2 rfl rfl (.cons rfl .nil)))
        have S7_16 : JA Try.prog ops1 11 #[true, true, true, true, true, false, false, true, false, false, false, false, false, false, false, false, false] Γ ([(68, (zz (sv sa a))), (69, .p 5 0 0), (70, .b (decide ((xc (sv sb b) g x) < 0))), (71, .p 5 0 1), (72, .n false .u64 (lm (xc (sv sb b) g x))), (75, (zz (sv sb b)))] ++ F0) [(ob sa a), (ob sb b), (oc 1 sa a), (oc 1 sb b), (ow 0 false g), (ow 0 false (xc (sv sb b) g x)), (ow 0 false (yc (sv sa a) (sv sb b) g x)), (oc 0 s l), (oz 1 (sv sa a)), (oz 1 (sv sb b)), (oz 1 g), oh] Q1 := by
          subst ho; subst hF; refine ja_l2 8 [9, 12, 13, 14, 16] (lo_l (ly_fa fld30_0 rfl rfl rfl) (hd 76 rfl)) rfl (by kernel_rfl) (by kernel_rfl) (by kernel_rfl) (by kernel_rfl) hpan ?_
          refine ja_t3 S7_15 7 (.c5 rfl rfl rfl rfl rfl (.c2 rfl rfl .nil))
        have S7_17 : JA Try.prog ops1 12 #[true, true, true, true, true, false, false, false, false, false, false, false, false, false, false, false, false] Γ ([(68, (zz (sv sa a))), (69, .p 5 0 0), (70, .b (decide ((xc (sv sb b) g x) < 0))), (71, .p 5 0 1), (72, .n false .u64 (lm (xc (sv sb b) g x)))] ++ F0) [(ob sa a), (ob sb b), (oc 1 sa a), (oc 1 sb b), (ow 0 false g), (ow 0 false (xc (sv sb b) g x)), (ow 0 false (yc (sv sa a) (sv sb b) g x)), (oc 0 s l), (oz 1 (sv sa a)), (oz 1 (sv sb b)), (oz 1 g), oh] Q1 := by
          subst ho; subst hF; refine ja_l2 7 [13, 14, 16] (lo_l (ly_lda agg35 rfl rfl rfl rfl) (hd 75 rfl)) rfl (by kernel_rfl) (by kernel_rfl) (by kernel_rfl) (by kernel_rfl) hpan ?_
          refine ja_t3 S7_16 6 (.c5 rfl rfl rfl rfl rfl (.cons rfl .nil))
        have S7_18 : JA Try.prog ops1 13 #[true, true, true, true, false, false, false, false, false, false, false, false, false, false, false, false, false] Γ ([(68, (zz (sv sa a))), (69, .p 5 0 0), (70, .b (decide ((xc (sv sb b) g x) < 0))), (71, .p 5 0 1)] ++ F0) [(ob sa a), (ob sb b), (oc 1 sa a), (oc 1 sb b), (ow 0 false g), (ow 0 false (xc (sv sb b) g x)), (ow 0 false (yc (sv sa a) (sv sb b) g x)), (oc 0 s l), (oz 1 (sv sa a)), (oz 1 (sv sb b)), (oz 1 g), oh] Q1 := by
          subst ho; subst hF; refine ja_l2 4 [5, 6, 12, 13, 14, 16] (lo_l (ly_ld one28 rfl rfl rfl) (hd 72 rfl)) rfl (by kernel_rfl) (by kernel_rfl) (by kernel_rfl) (by kernel_rfl) hpan ?_
          refine ja_t3 S7_17 5 (.c5 rfl rfl rfl rfl rfl .nil)
        have S7_19 : JA Try.prog ops1 14 #[true, true, true, false, false, false, false, false, false, false, false, false, false, false, false, false, false] Γ ([(68, (zz (sv sa a))), (69, .p 5 0 0), (70, .b (decide ((xc (sv sb b) g x) < 0)))] ++ F0) [(ob sa a), (ob sb b), (oc 1 sa a), (oc 1 sb b), (ow 0 false g), (ow 0 false (xc (sv sb b) g x)), (ow 0 false (yc (sv sa a) (sv sb b) g x)), (oc 0 s l), (oz 1 (sv sa a)), (oz 1 (sv sb b)), (oz 1 g), oh] Q1 := by
          subst ho; subst hF; refine ja_l2 3 [4, 5, 6, 12, 13, 14, 16] (lo_l (ly_fa fld30_1 rfl rfl rfl) (hd 71 rfl)) rfl (by kernel_rfl) (by kernel_rfl) (by kernel_rfl) (by kernel_rfl) hpan ?_
          refine ja_t3 S7_18 4 (.c2 rfl rfl (.c2 rfl rfl .nil))
        have S7_20 : JA Try.prog ops1 15 #[true, true, false, false, false, false, false, false, false, false, false, false, false, false, false, false, false] Γ ([(68, (zz (sv sa a))), (69, .p 5 0 0)] ++ F0) [(ob sa a), (ob sb b), (oc 1 sa a), (oc 1 sb b), (ow 0 false g), (ow 0 false (xc (sv sb b) g x)), (ow 0 false (yc (sv sa a) (sv sb b) g x)), (oc 0 s l), (oz 1 (sv sa a)), (oz 1 (sv sb b)), (oz 1 g), oh] Q1 := by
          subst ho; subst hF; refine ja_l2 2 [5, 6, 12, 13, 14, 16] (lo_l (ly_ld one4 rfl rfl rfl) (hd 70 rfl)) rfl (by kernel_rfl) (by kernel_rfl) (by kernel_rfl) (by kernel_rfl) hpan ?_
          refine ja_t3 S7_19 3 (.c2 rfl rfl (.cons rfl .nil))
        have S7_21 : JA Try.prog ops1 16 #[true, false, false, false, false, false, false, false, false, false, false, false, false, false, false, false, false] Γ ([(68, (zz (sv sa a)))] ++ F0) [(ob sa a), (ob sb b), (oc 1 sa a), (oc 1 sb b), (ow 0 false g), (ow 0 false (xc (sv sb b) g x)), (ow 0 false (yc (sv sa a) (sv sb b) g x)), (oc 0 s l), (oz 1 (sv sa a)), (oz 1 (sv sb b)), (oz 1 g), oh] Q1 := by
          subst ho; subst hF; refine ja_l2 1 [2, 5, 6, 12, 13, 14, 16] (lo_l (ly_fa fld30_0 rfl rfl rfl) (hd 69 rfl)) rfl (by kernel_rfl) (by kernel_rfl) (by kernel_rfl) (by kernel_rfl) hpan ?_
          refine ja_t3 S7_20 2 (.c2 rfl rfl .nil)
        have S7_22 : JA Try.prog ops1 17 #[false, false, false, false, false, false, false, false, false, false, false, false, false, false, false, false, false] Γ ([] ++ F0) [(ob sa a), (ob sb b), (oc 1 sa a), (oc 1 sb b), (ow 0 false g), (ow 0 false (xc (sv sb b) g x)), (ow 0 false (yc (sv sa a) (sv sb b) g x)), (oc 0 s l), (oz 1 (sv sa a)), (oz 1 (sv sb b)), (oz 1 g), oh] Q1 := by
          subst ho; subst hF; refine ja_l2 0 [6, 12, 13, 14, 16] (lo_l (ly_lda agg35 rfl rfl rfl rfl) (hd 68 rfl)) rfl (by kernel_rfl) (by kernel_rfl) (by kernel_rfl) (by kernel_rfl) hpan ?_
          refine ja_t3 S7_21 1 (.cons rfl .nil)
        subst ho; subst hF
        exact ja_to (m := []) (by decide) rfl (cov_n 0 rfl rfl .nil) S7_22
      have S6_1 : JA Try.prog ops1 1 #[true, true, true, true, true, true, true, true, true, true, true, true, true, true, false] Γ ([(13, .p 8 1 0), (14, .p 9 1 0), (15, .p 10 1 0), (59, .a [.b sa, .n false .u64 a]), (60, (zz (sv sa a))), (61, .a [.b sb, .n false .u64 b]), (62, (zz (sv sb b))), (63, .p 4 0 0), (64, .b (decide (g < 0))), (65, .p 4 0 1), (66, .n false .u64 (lm g)), (67, (zz g))] ++ F0) [(ob sa a), (ob sb b), (oc 1 sa a), (oc 1 sb b), (ow 0 false g), (ow 0 false (xc (sv sb b) g x)), (ow 0 false (yc (sv sa a) (sv sb b) g x)), (oc 0 s l), (oz 1 (sv sa a)), (oz 1 (sv sb b)), oe] Q1 := by
        subst ho; subst hF
        refine ja_1 14 ?_ rfl (by kernel_rfl)
        refine js_st (sy_store rfl rfl rfl siz35 rfl rfl (Nat.le_of_ble_eq_true rfl)) rfl ?_
        refine ja_t3 S6_0 12 (.c5 rfl rfl rfl rfl rfl (.c5 rfl rfl rfl rfl rfl (.c2 rfl rfl .nil)))
      have S6_2 : JA Try.prog ops1 2 #[true, true, true, true, true, true, true, true, true, true, true, true, true, false, false] Γ ([(13, .p 8 1 0), (14, .p 9 1 0), (15, .p 10 1 0), (59, .a [.b sa, .n false .u64 a]), (60, (zz (sv sa a))), (61, .a [.b sb, .n false .u64 b]), (62, (zz (sv sb b))), (63, .p 4 0 0), (64, .b (decide (g < 0))), (65, .p 4 0 1), (66, .n false .u64 (lm g)), (67, (zz g))] ++ F0) [(ob sa a), (ob sb b), (oc 1 sa a), (oc 1 sb b), (ow 0 false g), (ow 0 false (xc (sv sb b) g x)), (ow 0 false (yc (sv sa a) (sv sb b) g x)), (oc 0 s l), (oz 1 (sv sa a)), oe, oe] Q1 := by
        subst ho; subst hF
        refine ja_1 13 ?_ rfl (by kernel_rfl)
        refine js_st (sy_store rfl rfl rfl siz35 rfl rfl (Nat.le_of_ble_eq_true rfl)) rfl ?_
        refine ja_t3 S6_1 12 (.c5 rfl rfl rfl rfl rfl (.c5 rfl rfl rfl rfl rfl (.c2 rfl rfl .nil)))
      have S6_3 : JA Try.prog ops1 3 #[true, true, true, true, true, true, true, true, true, true, true, true, false, false, false] Γ ([(13, .p 8 1 0), (14, .p 9 1 0), (15, .p 10 1 0), (59, .a [.b sa, .n false .u64 a]), (60, (zz (sv sa a))), (61, .a [.b sb, .n false .u64 b]), (62, (zz (sv sb b))), (63, .p 4 0 0), (64, .b (decide (g < 0))), (65, .p 4 0 1), (66, .n false .u64 (lm g)), (67, (zz g))] ++ F0) [(ob sa a), (ob sb b), (oc 1 sa a), (oc 1 sb b), (ow 0 false g), (ow 0 false (xc (sv sb b) g x)), (ow 0 false (yc (sv sa a) (sv sb b) g x)), (oc 0 s l), oe, oe, oe] Q1 := by
        subst ho; subst hF
        refine ja_1 12 ?_ rfl (by kernel_rfl)
        refine js_st (sy_store rfl rfl rfl siz35 rfl rfl (Nat.le_of_ble_eq_true rfl)) rfl ?_
        refine ja_t3 S6_2 12 (.c5 rfl rfl rfl rfl rfl (.c5 rfl rfl rfl rfl rfl (.c2 rfl rfl .nil)))
      have S6_4 : JA Try.prog ops1 4 #[true, true, true, true, true, true, true, true, true, true, true, false, false, false, false] Γ ([(13, .p 8 1 0), (14, .p 9 1 0), (59, .a [.b sa, .n false .u64 a]), (60, (zz (sv sa a))), (61, .a [.b sb, .n false .u64 b]), (62, (zz (sv sb b))), (63, .p 4 0 0), (64, .b (decide (g < 0))), (65, .p 4 0 1), (66, .n false .u64 (lm g)), (67, (zz g))] ++ F0) [(ob sa a), (ob sb b), (oc 1 sa a), (oc 1 sb b), (ow 0 false g), (ow 0 false (xc (sv sb b) g x)), (ow 0 false (yc (sv sa a) (sv sb b) g x)), (oc 0 s l), oe, oe, oh] Q1 := by
        subst ho; subst hF
        refine ja_1 11 ?_ rfl (by kernel_rfl)
        refine js_h (hy_allocAt (id := 10) zero35 (by decide) rfl (by decide) rfl) (hd 15 rfl) ?_
        refine ja_t3 S6_3 12 (.c5 rfl rfl rfl rfl rfl (.c5 rfl rfl rfl rfl rfl (.c2 rfl rfl .nil)))
      have S6_5 : JA Try.prog ops1 4 #[true, true, true, true, true, true, true, true, true, true, false, true, false, false, false] Γ ([(13, .p 8 1 0), (15, .p 10 1 0), (59, .a [.b sa, .n false .u64 a]), (60, (zz (sv sa a))), (61, .a [.b sb, .n false .u64 b]), (62, (zz (sv sb b))), (63, .p 4 0 0), (64, .b (decide (g < 0))), (65, .p 4 0 1), (66, .n false .u64 (lm g)), (67, (zz g))] ++ F0) [(ob sa a), (ob sb b), (oc 1 sa a), (oc 1 sb b), (ow 0 false g), (ow 0 false (xc (sv sb b) g x)), (ow 0 false (yc (sv sa a) (sv sb b) g x)), (oc 0 s l), oe, oh, oe] Q1 := by
        subst ho; subst hF
        refine ja_1 10 ?_ rfl (by kernel_rfl)
        refine js_h (hy_allocAt (id := 9) zero35 (by decide) rfl (by decide) rfl) (hd 14 rfl) ?_
        refine ja_t3 S6_3 12 (.c5 rfl rfl rfl rfl rfl (.c5 rfl rfl rfl rfl rfl (.c2 rfl rfl .nil)))
      have S6_6 : JA Try.prog ops1 5 #[true, true, true, true, true, true, true, true, true, true, false, false, false, false, false] Γ ([(13, .p 8 1 0), (59, .a [.b sa, .n false .u64 a]), (60, (zz (sv sa a))), (61, .a [.b sb, .n false .u64 b]), (62, (zz (sv sb b))), (63, .p 4 0 0), (64, .b (decide (g < 0))), (65, .p 4 0 1), (66, .n false .u64 (lm g)), (67, (zz g))] ++ F0) [(ob sa a), (ob sb b), (oc 1 sa a), (oc 1 sb b), (ow 0 false g), (ow 0 false (xc (sv sb b) g x)), (ow 0 false (yc (sv sa a) (sv sb b) g x)), (oc 0 s l), oe, oh, oh] Q1 := by
        subst ho; subst hF
        refine ja_2 10 11 ?_ ?_ rfl rfl (by kernel_rfl)
        · refine js_h (hy_allocAt (id := 9) zero35 (by decide) rfl (by decide) rfl) (hd 14 rfl) ?_
          refine ja_t3 S6_4 11 (.c5 rfl rfl rfl rfl rfl (.c5 rfl rfl rfl rfl rfl (.cons rfl .nil)))
        · refine js_h (hy_allocAt (id := 10) zero35 (by decide) rfl (by decide) rfl) (hd 15 rfl) ?_
          refine ja_t3 S6_5 11 (.c5 rfl rfl rfl rfl rfl (.c5 rfl rfl rfl rfl rfl (.cons rfl .nil)))
      have S6_7 : JA Try.prog ops1 4 #[true, true, true, true, true, true, true, true, true, false, true, true, false, false, false] Γ ([(14, .p 9 1 0), (15, .p 10 1 0), (59, .a [.b sa, .n false .u64 a]), (60, (zz (sv sa a))), (61, .a [.b sb, .n false .u64 b]), (62, (zz (sv sb b))), (63, .p 4 0 0), (64, .b (decide (g < 0))), (65, .p 4 0 1), (66, .n false .u64 (lm g)), (67, (zz g))] ++ F0) [(ob sa a), (ob sb b), (oc 1 sa a), (oc 1 sb b), (ow 0 false g), (ow 0 false (xc (sv sb b) g x)), (ow 0 false (yc (sv sa a) (sv sb b) g x)), (oc 0 s l), oh, oe, oe] Q1 := by
        subst ho; subst hF
        refine ja_1 9 ?_ rfl (by kernel_rfl)
        refine js_h (hy_allocAt (id := 8) zero35 (by decide) rfl (by decide) rfl) (hd 13 rfl) ?_
        refine ja_t3 S6_3 12 (.c5 rfl rfl rfl rfl rfl (.c5 rfl rfl rfl rfl rfl (.c2 rfl rfl .nil)))
      have S6_8 : JA Try.prog ops1 5 #[true, true, true, true, true, true, true, true, true, false, true, false, false, false, false] Γ ([(14, .p 9 1 0), (59, .a [.b sa, .n false .u64 a]), (60, (zz (sv sa a))), (61, .a [.b sb, .n false .u64 b]), (62, (zz (sv sb b))), (63, .p 4 0 0), (64, .b (decide (g < 0))), (65, .p 4 0 1), (66, .n false .u64 (lm g)), (67, (zz g))] ++ F0) [(ob sa a), (ob sb b), (oc 1 sa a), (oc 1 sb b), (ow 0 false g), (ow 0 false (xc (sv sb b) g x)), (ow 0 false (yc (sv sa a) (sv sb b) g x)), (oc 0 s l), oh, oe, oh] Q1 := by
        subst ho; subst hF
        refine ja_2 9 11 ?_ ?_ rfl rfl (by kernel_rfl)
        · refine js_h (hy_allocAt (id := 8) zero35 (by decide) rfl (by decide) rfl) (hd 13 rfl) ?_
          refine ja_t3 S6_4 11 (.c5 rfl rfl rfl rfl rfl (.c5 rfl rfl rfl rfl rfl (.cons rfl .nil)))
        · refine js_h (hy_allocAt (id := 10) zero35 (by decide) rfl (by decide) rfl) (hd 15 rfl) ?_
          refine ja_t3 S6_7 11 (.c5 rfl rfl rfl rfl rfl (.c5 rfl rfl rfl rfl rfl (.cons rfl .nil)))
      have S6_9 : JA Try.prog ops1 5 #[true, true, true, true, true, true, true, true, true, false, false, true, false, false, false] Γ ([(15, .p 10 1 0), (59, .a [.b sa, .n false .u64 a]), (60, (zz (sv sa a))), (61, .a [.b sb, .n false .u64 b]), (62, (zz (sv sb b))), (63, .p 4 0 0), (64, .b (decide (g < 0))), (65, .p 4 0 1), (66, .n false .u64 (lm g)), (67, (zz g))] ++ F0) [(ob sa a), (ob sb b), (oc 1 sa a), (oc 1 sb b), (ow 0 false g), (ow 0 false (xc (sv sb b) g x)), (ow 0 false (yc (sv sa a) (sv sb b) g x)), (oc 0 s l), oh, oh, oe] Q1 := by
        subst ho; subst hF
        refine ja_2 9 10 ?_ ?_ rfl rfl (by kernel_rfl)
        · refine js_h (hy_allocAt (id := 8) zero35 (by decide) rfl (by decide) rfl) (hd 13 rfl) ?_
          refine ja_t3 S6_5 11 (.c5 rfl rfl rfl rfl rfl (.c5 rfl rfl rfl rfl rfl (.cons rfl .nil)))
        · refine js_h (hy_allocAt (id := 9) zero35 (by decide) rfl (by decide) rfl) (hd 14 rfl) ?_
          refine ja_t3 S6_7 11 (.c5 rfl rfl rfl rfl rfl (.c5 rfl rfl rfl rfl rfl (.cons rfl .nil)))
      have S6_10 : JA Try.prog ops1 6 #[true, true, true, true, true, true, true, true, true, false, false, false, false, false, false] Γ ([(59, .a [.b sa, .n false .u64 a]), (60, (zz (sv sa a))), (61, .a [.b sb, .n false .u64 b]), (62, (zz (sv sb b))), (63, .p 4 0 0), (64, .b (decide (g < 0))), (65, .p 4 0 1), (66, .n false .u64 (lm g)), (67, (zz g))] ++ F0) [(ob sa a), (ob sb b), (oc 1 sa a), (oc 1 sb b), (ow 0 false g), (ow 0 false (xc (sv sb b) g x)), (ow 0 false (yc (sv sa a) (sv sb b) g x)), (oc 0 s l), oh, oh, oh] Q1 := by
        subst ho; subst hF
        refine ja_3 9 10 11 ?_ ?_ ?_ rfl rfl rfl (by kernel_rfl)
        · refine js_h (hy_allocAt (id := 8) zero35 (by decide) rfl (by decide) rfl) (hd 13 rfl) ?_
          refine ja_t3 S6_6 10 (.c5 rfl rfl rfl rfl rfl (.c5 rfl rfl rfl rfl rfl .nil))
        · refine js_h (hy_allocAt (id := 9) zero35 (by decide) rfl (by decide) rfl) (hd 14 rfl) ?_
          refine ja_t3 S6_8 10 (.c5 rfl rfl rfl rfl rfl (.c5 rfl rfl rfl rfl rfl .nil))
        · refine js_h (hy_allocAt (id := 10) zero35 (by decide) rfl (by decide) rfl) (hd 15 rfl) ?_
          refine ja_t3 S6_9 10 (.c5 rfl rfl rfl rfl rfl (.c5 rfl rfl rfl rfl rfl .nil))
      have S6_11 : JA Try.prog ops1 4 #[true, true, true, true, true, true, true, true, false, true, true, true, false, false, false] Γ ([(13, .p 8 1 0), (14, .p 9 1 0), (15, .p 10 1 0), (59, .a [.b sa, .n false .u64 a]), (60, (zz (sv sa a))), (61, .a [.b sb, .n false .u64 b]), (62, (zz (sv sb b))), (63, .p 4 0 0), (64, .b (decide (g < 0))), (65, .p 4 0 1), (66, .n false .u64 (lm g))] ++ F0) [(ob sa a), (ob sb b), (oc 1 sa a), (oc 1 sb b), (ow 0 false g), (ow 0 false (xc (sv sb b) g x)), (ow 0 false (yc (sv sa a) (sv sb b) g x)), (oc 0 s l), oe, oe, oe] Q1 := by
        subst ho; subst hF
        refine ja_1 8 ?_ rfl (by kernel_rfl)
        refine js_call Try.f19 (ZOf_v g (by omega)) rfl Try.func19 rfl rfl (ovL_cons rfl (ovL_cons rfl ovL_nil)) (.cons .b (.cons .n .nil)) (hd 67 rfl) ?_ (fun ch hp => by simp at hp)
        rintro y hy; injection hy with hy; subst hy
        refine ja_t3 S6_3 12 (.c5 rfl rfl rfl rfl rfl (.c5 rfl rfl rfl rfl rfl (.c2 rfl rfl .nil)))
      have S6_12 : JA Try.prog ops1 5 #[true, true, true, true, true, true, true, true, false, true, true, false, false, false, false] Γ ([(13, .p 8 1 0), (14, .p 9 1 0), (59, .a [.b sa, .n false .u64 a]), (60, (zz (sv sa a))), (61, .a [.b sb, .n false .u64 b]), (62, (zz (sv sb b))), (63, .p 4 0 0), (64, .b (decide (g < 0))), (65, .p 4 0 1), (66, .n false .u64 (lm g))] ++ F0) [(ob sa a), (ob sb b), (oc 1 sa a), (oc 1 sb b), (ow 0 false g), (ow 0 false (xc (sv sb b) g x)), (ow 0 false (yc (sv sa a) (sv sb b) g x)), (oc 0 s l), oe, oe, oh] Q1 := by
        subst ho; subst hF
        refine ja_2 8 11 ?_ ?_ rfl rfl (by kernel_rfl)
        · refine js_call Try.f19 (ZOf_v g (by omega)) rfl Try.func19 rfl rfl (ovL_cons rfl (ovL_cons rfl ovL_nil)) (.cons .b (.cons .n .nil)) (hd 67 rfl) ?_ (fun ch hp => by simp at hp)
          rintro y hy; injection hy with hy; subst hy
          refine ja_t3 S6_4 11 (.c5 rfl rfl rfl rfl rfl (.c5 rfl rfl rfl rfl rfl (.cons rfl .nil)))
        · refine js_h (hy_allocAt (id := 10) zero35 (by decide) rfl (by decide) rfl) (hd 15 rfl) ?_
          refine ja_t3 S6_11 11 (.c5 rfl rfl rfl rfl rfl (.c5 rfl rfl rfl rfl rfl (.cons rfl .nil)))
      have S6_13 : JA Try.prog ops1 5 #[true, true, true, true, true, true, true, true, false, true, false, true, false, false, false] Γ ([(13, .p 8 1 0), (15, .p 10 1 0), (59, .a [.b sa, .n false .u64 a]), (60, (zz (sv sa a))), (61, .a [.b sb, .n false .u64 b]), (62, (zz (sv sb b))), (63, .p 4 0 0), (64, .b (decide (g < 0))), (65, .p 4 0 1), (66, .n false .u64 (lm g))] ++ F0) [(ob sa a), (ob sb b), (oc 1 sa a), (oc 1 sb b), (ow 0 false g), (ow 0 false (xc (sv sb b) g x)), (ow 0 false (yc (sv sa a) (sv sb b) g x)), (oc 0 s l), oe, oh, oe] Q1 := by
        subst ho; subst hF
        refine ja_2 8 10 ?_ ?_ rfl rfl (by kernel_rfl)
        · refine js_call Try.f19 (ZOf_v g (by omega)) rfl Try.func19 rfl rfl (ovL_cons rfl (ovL_cons rfl ovL_nil)) (.cons .b (.cons .n .nil)) (hd 67 rfl) ?_ (fun ch hp => by simp at hp)
          rintro y hy; injection hy with hy; subst hy
          refine ja_t3 S6_5 11 (.c5 rfl rfl rfl rfl rfl (.c5 rfl rfl rfl rfl rfl (.cons rfl .nil)))
        · refine js_h (hy_allocAt (id := 9) zero35 (by decide) rfl (by decide) rfl) (hd 14 rfl) ?_
          refine ja_t3 S6_11 11 (.c5 rfl rfl rfl rfl rfl (.c5 rfl rfl rfl rfl rfl (.cons rfl .nil)))
      have S6_14 : JA Try.prog ops1 6 #[true, true, true, true, true, true, true, true, false, true, false, false, false, false, false] Γ ([(13, .p 8 1 0), (59, .a [.b sa, .n false .u64 a]), (60, (zz (sv sa a))), (61, .a [.b sb, .n false .u64 b]), (62, (zz (sv sb b))), (63, .p 4 0 0), (64, .b (decide (g < 0))), (65, .p 4 0 1), (66, .n false .u64 (lm g))] ++ F0) [(ob sa a), (ob sb b), (oc 1 sa a), (oc 1 sb b), (ow 0 false g), (ow 0 false (xc (sv sb b) g x)), (ow 0 false (yc (sv sa a) (sv sb b) g x)), (oc 0 s l), oe, oh, oh] Q1 := by
        subst ho; subst hF
        refine ja_3 8 10 11 ?_ ?_ ?_ rfl rfl rfl (by kernel_rfl)
        · refine js_call Try.f19 (ZOf_v g (by omega)) rfl Try.func19 rfl rfl (ovL_cons rfl (ovL_cons rfl ovL_nil)) (.cons .b (.cons .n .nil)) (hd 67 rfl) ?_ (fun ch hp => by simp at hp)
          rintro y hy; injection hy with hy; subst hy
          refine ja_t3 S6_6 10 (.c5 rfl rfl rfl rfl rfl (.c5 rfl rfl rfl rfl rfl .nil))
        · refine js_h (hy_allocAt (id := 9) zero35 (by decide) rfl (by decide) rfl) (hd 14 rfl) ?_
          refine ja_t3 S6_12 10 (.c5 rfl rfl rfl rfl rfl (.c5 rfl rfl rfl rfl rfl .nil))
        · refine js_h (hy_allocAt (id := 10) zero35 (by decide) rfl (by decide) rfl) (hd 15 rfl) ?_
          refine ja_t3 S6_13 10 (.c5 rfl rfl rfl rfl rfl (.c5 rfl rfl rfl rfl rfl .nil))
      have S6_15 : JA Try.prog ops1 5 #[true, true, true, true, true, true, true, true, false, false, true, true, false, false, false] Γ ([(14, .p 9 1 0), (15, .p 10 1 0), (59, .a [.b sa, .n false .u64 a]), (60, (zz (sv sa a))), (61, .a [.b sb, .n false .u64 b]), (62, (zz (sv sb b))), (63, .p 4 0 0), (64, .b (decide (g < 0))), (65, .p 4 0 1), (66, .n false .u64 (lm g))] ++ F0) [(ob sa a), (ob sb b), (oc 1 sa a), (oc 1 sb b), (ow 0 false g), (ow 0 false (xc (sv sb b) g x)), (ow 0 false (yc (sv sa a) (sv sb b) g x)), (oc 0 s l), oh, oe, oe] Q1 := by
        subst ho; subst hF
        refine ja_2 8 9 ?_ ?_ rfl rfl (by kernel_rfl)
        · refine js_call Try.f19 (ZOf_v g (by omega)) rfl Try.func19 rfl rfl (ovL_cons rfl (ovL_cons rfl ovL_nil)) (.cons .b (.cons .n .nil)) (hd 67 rfl) ?_ (fun ch hp => by simp at hp)
          rintro y hy; injection hy with hy; subst hy
          refine ja_t3 S6_7 11 (.c5 rfl rfl rfl rfl rfl (.c5 rfl rfl rfl rfl rfl (.cons rfl .nil)))
        · refine js_h (hy_allocAt (id := 8) zero35 (by decide) rfl (by decide) rfl) (hd 13 rfl) ?_
          refine ja_t3 S6_11 11 (.c5 rfl rfl rfl rfl rfl (.c5 rfl rfl rfl rfl rfl (.cons rfl .nil)))
      have S6_16 : JA Try.prog ops1 6 #[true, true, true, true, true, true, true, true, false, false, true, false, false, false, false] Γ ([(14, .p 9 1 0), (59, .a [.b sa, .n false .u64 a]), (60, (zz (sv sa a))), (61, .a [.b sb, .n false .u64 b]), (62, (zz (sv sb b))), (63, .p 4 0 0), (64, .b (decide (g < 0))), (65, .p 4 0 1), (66, .n false .u64 (lm g))] ++ F0) [(ob sa a), (ob sb b), (oc 1 sa a), (oc 1 sb b), (ow 0 false g), (ow 0 false (xc (sv sb b) g x)), (ow 0 false (yc (sv sa a) (sv sb b) g x)), (oc 0 s l), oh, oe, oh] Q1 := by
        subst ho; subst hF
        refine ja_3 8 9 11 ?_ ?_ ?_ rfl rfl rfl (by kernel_rfl)
        · refine js_call Try.f19 (ZOf_v g (by omega)) rfl Try.func19 rfl rfl (ovL_cons rfl (ovL_cons rfl ovL_nil)) (.cons .b (.cons .n .nil)) (hd 67 rfl) ?_ (fun ch hp => by simp at hp)
          rintro y hy; injection hy with hy; subst hy
          refine ja_t3 S6_8 10 (.c5 rfl rfl rfl rfl rfl (.c5 rfl rfl rfl rfl rfl .nil))
        · refine js_h (hy_allocAt (id := 8) zero35 (by decide) rfl (by decide) rfl) (hd 13 rfl) ?_
          refine ja_t3 S6_12 10 (.c5 rfl rfl rfl rfl rfl (.c5 rfl rfl rfl rfl rfl .nil))
        · refine js_h (hy_allocAt (id := 10) zero35 (by decide) rfl (by decide) rfl) (hd 15 rfl) ?_
          refine ja_t3 S6_15 10 (.c5 rfl rfl rfl rfl rfl (.c5 rfl rfl rfl rfl rfl .nil))
      have S6_17 : JA Try.prog ops1 6 #[true, true, true, true, true, true, true, true, false, false, false, true, false, false, false] Γ ([(15, .p 10 1 0), (59, .a [.b sa, .n false .u64 a]), (60, (zz (sv sa a))), (61, .a [.b sb, .n false .u64 b]), (62, (zz (sv sb b))), (63, .p 4 0 0), (64, .b (decide (g < 0))), (65, .p 4 0 1), (66, .n false .u64 (lm g))] ++ F0) [(ob sa a), (ob sb b), (oc 1 sa a), (oc 1 sb b), (ow 0 false g), (ow 0 false (xc (sv sb b) g x)), (ow 0 false (yc (sv sa a) (sv sb b) g x)), (oc 0 s l), oh, oh, oe] Q1 := by
        subst ho; subst hF
        refine ja_3 8 9 10 ?_ ?_ ?_ rfl rfl rfl (by kernel_rfl)
        · refine js_call Try.f19 (ZOf_v g (by omega)) rfl Try.func19 rfl rfl (ovL_cons rfl (ovL_cons rfl ovL_nil)) (.cons .b (.cons .n .nil)) (hd 67 rfl) ?_ (fun ch hp => by simp at hp)
          rintro y hy; injection hy with hy; subst hy
          refine ja_t3 S6_9 10 (.c5 rfl rfl rfl rfl rfl (.c5 rfl rfl rfl rfl rfl .nil))
        · refine js_h (hy_allocAt (id := 8) zero35 (by decide) rfl (by decide) rfl) (hd 13 rfl) ?_
          refine ja_t3 S6_13 10 (.c5 rfl rfl rfl rfl rfl (.c5 rfl rfl rfl rfl rfl .nil))
        · refine js_h (hy_allocAt (id := 9) zero35 (by decide) rfl (by decide) rfl) (hd 14 rfl) ?_
          refine ja_t3 S6_15 10 (.c5 rfl rfl rfl rfl rfl (.c5 rfl rfl rfl rfl rfl .nil))
      have S6_18 : JA Try.prog ops1 7 #[true, true, true, true, true, true, true, true, false, false, false, false, false, false, false] Γ ([(59, .a [.b sa, .n false .u64 a]), (60, (zz (sv sa a))), (61, .a [.b sb, .n false .u64 b]), (62, (zz (sv sb b))), (63, .p 4 0 0), (64, .b (decide (g < 0))), (65, .p 4 0 1), (66, .n false .u64 (lm g))] ++ F0) [(ob sa a), (ob sb b), (oc 1 sa a), (oc 1 sb b), (ow 0 false g), (ow 0 false (xc (sv sb b) g x)), (ow 0 false (yc (sv sa a) (sv sb b) g x)), (oc 0 s l), oh, oh, oh] Q1 := by
        subst ho; subst hF
        refine ja_4 8 9 10 11 ?_ ?_ ?_ ?_ rfl rfl rfl rfl (by kernel_rfl)
        · refine js_call Try.f19 (ZOf_v g (by omega)) rfl Try.func19 rfl rfl (ovL_cons rfl (ovL_cons rfl ovL_nil)) (.cons .b (.cons .n .nil)) (hd 67 rfl) ?_ (fun ch hp => by simp at hp)
          rintro y hy; injection hy with hy; subst hy
          refine ja_t3 S6_10 9 (.c5 rfl rfl rfl rfl rfl (.c2 rfl rfl (.c2 rfl rfl .nil)))
        · refine js_h (hy_allocAt (id := 8) zero35 (by decide) rfl (by decide) rfl) (hd 13 rfl) ?_
          refine ja_t3 S6_14 9 (.c5 rfl rfl rfl rfl rfl (.c2 rfl rfl (.c2 rfl rfl .nil)))
        · refine js_h (hy_allocAt (id := 9) zero35 (by decide) rfl (by decide) rfl) (hd 14 rfl) ?_
          refine ja_t3 S6_16 9 (.c5 rfl rfl rfl rfl rfl (.c2 rfl rfl (.c2 rfl rfl .nil)))
        · refine js_h (hy_allocAt (id := 10) zero35 (by decide) rfl (by decide) rfl) (hd 15 rfl) ?_
          refine ja_t3 S6_17 9 (.c5 rfl rfl rfl rfl rfl (.c2 rfl rfl (.c2 rfl rfl .nil)))
      have S6_19 : JA Try.prog ops1 5 #[true, true, true, false, true, true, true, true, false, true, true, true, false, false, false] Γ ([(13, .p 8 1 0), (14, .p 9 1 0), (15, .p 10 1 0), (59, .a [.b sa, .n false .u64 a]), (60, (zz (sv sa a))), (61, .a [.b sb, .n false .u64 b]), (63, .p 4 0 0), (64, .b (decide (g < 0))), (65, .p 4 0 1), (66, .n false .u64 (lm g))] ++ F0) [(ob sa a), (ob sb b), (oc 1 sa a), (oc 1 sb b), (ow 0 false g), (ow 0 false (xc (sv sb b) g x)), (ow 0 false (yc (sv sa a) (sv sb b) g x)), (oc 0 s l), oe, oe, oe] Q1 := by
        subst ho; subst hF
        refine ja_1 3 ?_ rfl (by kernel_rfl)
        refine js_call Try.f14 (of_s sb b (by omega) ub) rfl Try.func14 rfl rfl (ovL_cons rfl ovL_nil) (.cons (.a1 .b (.a1 .n .a0)) .nil) (hd 62 rfl) ?_ (fun ch hp => by simp at hp)
        rintro y hy; injection hy with hy; subst hy
        refine ja_t3 S6_11 11 (.c5 rfl rfl rfl rfl rfl (.c5 rfl rfl rfl rfl rfl (.cons rfl .nil)))
      have S6_20 : JA Try.prog ops1 6 #[true, true, true, false, true, true, true, true, false, true, true, false, false, false, false] Γ ([(13, .p 8 1 0), (14, .p 9 1 0), (59, .a [.b sa, .n false .u64 a]), (60, (zz (sv sa a))), (61, .a [.b sb, .n false .u64 b]), (63, .p 4 0 0), (64, .b (decide (g < 0))), (65, .p 4 0 1), (66, .n false .u64 (lm g))] ++ F0) [(ob sa a), (ob sb b), (oc 1 sa a), (oc 1 sb b), (ow 0 false g), (ow 0 false (xc (sv sb b) g x)), (ow 0 false (yc (sv sa a) (sv sb b) g x)), (oc 0 s l), oe, oe, oh] Q1 := by
        subst ho; subst hF
        refine ja_2 3 11 ?_ ?_ rfl rfl (by kernel_rfl)
        · refine js_call Try.f14 (of_s sb b (by omega) ub) rfl Try.func14 rfl rfl (ovL_cons rfl ovL_nil) (.cons (.a1 .b (.a1 .n .a0)) .nil) (hd 62 rfl) ?_ (fun ch hp => by simp at hp)
          rintro y hy; injection hy with hy; subst hy
          refine ja_t3 S6_12 10 (.c5 rfl rfl rfl rfl rfl (.c5 rfl rfl rfl rfl rfl .nil))
        · refine js_h (hy_allocAt (id := 10) zero35 (by decide) rfl (by decide) rfl) (hd 15 rfl) ?_
          refine ja_t3 S6_19 10 (.c5 rfl rfl rfl rfl rfl (.c5 rfl rfl rfl rfl rfl .nil))
      have S6_21 : JA Try.prog ops1 6 #[true, true, true, false, true, true, true, true, false, true, false, true, false, false, false] Γ ([(13, .p 8 1 0), (15, .p 10 1 0), (59, .a [.b sa, .n false .u64 a]), (60, (zz (sv sa a))), (61, .a [.b sb, .n false .u64 b]), (63, .p 4 0 0), (64, .b (decide (g < 0))), (65, .p 4 0 1), (66, .n false .u64 (lm g))] ++ F0) [(ob sa a), (ob sb b), (oc 1 sa a), (oc 1 sb b), (ow 0 false g), (ow 0 false (xc (sv sb b) g x)), (ow 0 false (yc (sv sa a) (sv sb b) g x)), (oc 0 s l), oe, oh, oe] Q1 := by
        subst ho; subst hF
        refine ja_2 3 10 ?_ ?_ rfl rfl (by kernel_rfl)
        · refine js_call Try.f14 (of_s sb b (by omega) ub) rfl Try.func14 rfl rfl (ovL_cons rfl ovL_nil) (.cons (.a1 .b (.a1 .n .a0)) .nil) (hd 62 rfl) ?_ (fun ch hp => by simp at hp)
          rintro y hy; injection hy with hy; subst hy
          refine ja_t3 S6_13 10 (.c5 rfl rfl rfl rfl rfl (.c5 rfl rfl rfl rfl rfl .nil))
        · refine js_h (hy_allocAt (id := 9) zero35 (by decide) rfl (by decide) rfl) (hd 14 rfl) ?_
          refine ja_t3 S6_19 10 (.c5 rfl rfl rfl rfl rfl (.c5 rfl rfl rfl rfl rfl .nil))
      have S6_22 : JA Try.prog ops1 7 #[true, true, true, false, true, true, true, true, false, true, false, false, false, false, false] Γ ([(13, .p 8 1 0), (59, .a [.b sa, .n false .u64 a]), (60, (zz (sv sa a))), (61, .a [.b sb, .n false .u64 b]), (63, .p 4 0 0), (64, .b (decide (g < 0))), (65, .p 4 0 1), (66, .n false .u64 (lm g))] ++ F0) [(ob sa a), (ob sb b), (oc 1 sa a), (oc 1 sb b), (ow 0 false g), (ow 0 false (xc (sv sb b) g x)), (ow 0 false (yc (sv sa a) (sv sb b) g x)), (oc 0 s l), oe, oh, oh] Q1 := by
        subst ho; subst hF
        refine ja_3 3 10 11 ?_ ?_ ?_ rfl rfl rfl (by kernel_rfl)
        · refine js_call Try.f14 (of_s sb b (by omega) ub) rfl Try.func14 rfl rfl (ovL_cons rfl ovL_nil) (.cons (.a1 .b (.a1 .n .a0)) .nil) (hd 62 rfl) ?_ (fun ch hp => by simp at hp)
          rintro y hy; injection hy with hy; subst hy
          refine ja_t3 S6_14 9 (.c5 rfl rfl rfl rfl rfl (.c2 rfl rfl (.c2 rfl rfl .nil)))
        · refine js_h (hy_allocAt (id := 9) zero35 (by decide) rfl (by decide) rfl) (hd 14 rfl) ?_
          refine ja_t3 S6_20 9 (.c5 rfl rfl rfl rfl rfl (.c2 rfl rfl (.c2 rfl rfl .nil)))
        · refine js_h (hy_allocAt (id := 10) zero35 (by decide) rfl (by decide) rfl) (hd 15 rfl) ?_
          refine ja_t3 S6_21 9 (.c5 rfl rfl rfl rfl rfl (.c2 rfl rfl (.c2 rfl rfl .nil)))
      have S6_23 : JA Try.prog ops1 6 #[true, true, true, false, true, true, true, true, false, false, true, true, false, false, false] Γ ([(14, .p 9 1 0), (15, .p 10 1 0), (59, .a [.b sa, .n false .u64 a]), (60, (zz (sv sa a))), (61, .a [.b sb, .n false .u64 b]), (63, .p 4 0 0), (64, .b (decide (g < 0))), (65, .p 4 0 1), (66, .n false .u64 (lm g))] ++ F0) [(ob sa a), (ob sb b), (oc 1 sa a), (oc 1 sb b), (ow 0 false g), (ow 0 false (xc (sv sb b) g x)), (ow 0 false (yc (sv sa a) (sv sb b) g x)), (oc 0 s l), oh, oe, oe] Q1 := by
        subst ho; subst hF
        refine ja_2 3 9 ?_ ?_ rfl rfl (by kernel_rfl)
        · refine js_call Try.f14 (of_s sb b (by omega) ub) rfl Try.func14 rfl rfl (ovL_cons rfl ovL_nil) (.cons (.a1 .b (.a1 .n .a0)) .nil) (hd 62 rfl) ?_ (fun ch hp => by simp at hp)
          rintro y hy; injection hy with hy; subst hy
          refine ja_t3 S6_15 10 (.c5 rfl rfl rfl rfl rfl (.c5 rfl rfl rfl rfl rfl .nil))
        · refine js_h (hy_allocAt (id := 8) zero35 (by decide) rfl (by decide) rfl) (hd 13 rfl) ?_
          refine ja_t3 S6_19 10 (.c5 rfl rfl rfl rfl rfl (.c5 rfl rfl rfl rfl rfl .nil))
      have S6_24 : JA Try.prog ops1 7 #[true, true, true, false, true, true, true, true, false, false, true, false, false, false, false] Γ ([(14, .p 9 1 0), (59, .a [.b sa, .n false .u64 a]), (60, (zz (sv sa a))), (61, .a [.b sb, .n false .u64 b]), (63, .p 4 0 0), (64, .b (decide (g < 0))), (65, .p 4 0 1), (66, .n false .u64 (lm g))] ++ F0) [(ob sa a), (ob sb b), (oc 1 sa a), (oc 1 sb b), (ow 0 false g), (ow 0 false (xc (sv sb b) g x)), (ow 0 false (yc (sv sa a) (sv sb b) g x)), (oc 0 s l), oh, oe, oh] Q1 := by
        subst ho; subst hF
        refine ja_3 3 9 11 ?_ ?_ ?_ rfl rfl rfl (by kernel_rfl)
        · refine js_call Try.f14 (of_s sb b (by omega) ub) rfl Try.func14 rfl rfl (ovL_cons rfl ovL_nil) (.cons (.a1 .b (.a1 .n .a0)) .nil) (hd 62 rfl) ?_ (fun ch hp => by simp at hp)
          rintro y hy; injection hy with hy; subst hy
          refine ja_t3 S6_16 9 (.c5 rfl rfl rfl rfl rfl (.c2 rfl rfl (.c2 rfl rfl .nil)))
        · refine js_h (hy_allocAt (id := 8) zero35 (by decide) rfl (by decide) rfl) (hd 13 rfl) ?_
          refine ja_t3 S6_20 9 (.c5 rfl rfl rfl rfl rfl (.c2 rfl rfl (.c2 rfl rfl .nil)))
        · refine js_h (hy_allocAt (id := 10) zero35 (by decide) rfl (by decide) rfl) (hd 15 rfl) ?_
          refine ja_t3 S6_23 9 (.c5 rfl rfl rfl rfl rfl (.c2 rfl rfl (.c2 rfl rfl .nil)))
      have S6_25 : JA Try.prog ops1 7 #[true, true, true, false, true, true, true, true, false, false, false, true, false, false, false] Γ ([(15, .p 10 1 0), (59, .a [.b sa, .n false .u64 a]), (60, (zz (sv sa a))), (61, .a [.b sb, .n false .u64 b]), (63, .p 4 0 0), (64, .b (decide (g < 0))), (65, .p 4 0 1), (66, .n false .u64 (lm g))] ++ F0) [(ob sa a), (ob sb b), (oc 1 sa a), (oc 1 sb b), (ow 0 false g), (ow 0 false (xc (sv sb b) g x)), (ow 0 false (yc (sv sa a) (sv sb b) g x)), (oc 0 s l), oh, oh, oe] Q1 := by
        subst ho; subst hF
        refine ja_3 3 9 10 ?_ ?_ ?_ rfl rfl rfl (by kernel_rfl)
        · refine js_call Try.f14 (of_s sb b (by omega) ub) rfl Try.func14 rfl rfl (ovL_cons rfl ovL_nil) (.cons (.a1 .b (.a1 .n .a0)) .nil) (hd 62 rfl) ?_ (fun ch hp => by simp at hp)
          rintro y hy; injection hy with hy; subst hy
          refine ja_t3 S6_17 9 (.c5 rfl rfl rfl rfl rfl (.c2 rfl rfl (.c2 rfl rfl .nil)))
        · refine js_h (hy_allocAt (id := 8) zero35 (by decide) rfl (by decide) rfl) (hd 13 rfl) ?_
          refine ja_t3 S6_21 9 (.c5 rfl rfl rfl rfl rfl (.c2 rfl rfl (.c2 rfl rfl .nil)))
        · refine js_h (hy_allocAt (id := 9) zero35 (by decide) rfl (by decide) rfl) (hd 14 rfl) ?_
          refine ja_t3 S6_23 9 (.c5 rfl rfl rfl rfl rfl (.c2 rfl rfl (.c2 rfl rfl .nil)))
      have S6_26 : JA Try.prog ops1 8 #[true, true, true, false, true, true, true, true, false, false, false, false, false, false, false] Γ ([(59, .a [.b sa, .n false .u64 a]), (60, (zz (sv sa a))), (61, .a [.b sb, .n false .u64 b]), (63, .p 4 0 0), (64, .b (decide (g < 0))), (65, .p 4 0 1), (66, .n false .u64 (lm g))] ++ F0) [(ob sa a), (ob sb b), (oc 1 sa a), (oc 1 sb b), (ow 0 false g), (ow 0 false (xc (sv sb b) g x)), (ow 0 false (yc (sv sa a) (sv sb b) g x)), (oc 0 s l), oh, oh, oh] Q1 := by
        subst ho; subst hF
        refine ja_4 3 9 10 11 ?_ ?_ ?_ ?_ rfl rfl rfl rfl (by kernel_rfl)
        · refine js_call Try.f14 (of_s sb b (by omega) ub) rfl Try.func14 rfl rfl (ovL_cons rfl ovL_nil) (.cons (.a1 .b (.a1 .n .a0)) .nil) (hd 62 rfl) ?_ (fun ch hp => by simp at hp)
          rintro y hy; injection hy with hy; subst hy
          refine ja_t3 S6_18 8 (.c5 rfl rfl rfl rfl rfl (.c2 rfl rfl (.cons rfl .nil)))
        · refine js_h (hy_allocAt (id := 8) zero35 (by decide) rfl (by decide) rfl) (hd 13 rfl) ?_
          refine ja_t3 S6_22 8 (.c5 rfl rfl rfl rfl rfl (.c2 rfl rfl (.cons rfl .nil)))
        · refine js_h (hy_allocAt (id := 9) zero35 (by decide) rfl (by decide) rfl) (hd 14 rfl) ?_
          refine ja_t3 S6_24 8 (.c5 rfl rfl rfl rfl rfl (.c2 rfl rfl (.cons rfl .nil)))
        · refine js_h (hy_allocAt (id := 10) zero35 (by decide) rfl (by decide) rfl) (hd 15 rfl) ?_
          refine ja_t3 S6_25 8 (.c5 rfl rfl rfl rfl rfl (.c2 rfl rfl (.cons rfl .nil)))
      have S6_27 : JA Try.prog ops1 6 #[true, false, true, false, true, true, true, true, false, true, true, true, false, false, false] Γ ([(13, .p 8 1 0), (14, .p 9 1 0), (15, .p 10 1 0), (59, .a [.b sa, .n false .u64 a]), (61, .a [.b sb, .n false .u64 b]), (63, .p 4 0 0), (64, .b (decide (g < 0))), (65, .p 4 0 1), (66, .n false .u64 (lm g))] ++ F0) [(ob sa a), (ob sb b), (oc 1 sa a), (oc 1 sb b), (ow 0 false g), (ow 0 false (xc (sv sb b) g x)), (ow 0 false (yc (sv sa a) (sv sb b) g x)), (oc 0 s l), oe, oe, oe] Q1 := by
        subst ho; subst hF
        refine ja_1 1 ?_ rfl (by kernel_rfl)
        refine js_call Try.f14 (of_s sa a (by omega) ua) rfl Try.func14 rfl rfl (ovL_cons rfl ovL_nil) (.cons (.a1 .b (.a1 .n .a0)) .nil) (hd 60 rfl) ?_ (fun ch hp => by simp at hp)
        rintro y hy; injection hy with hy; subst hy
        refine ja_t3 S6_19 10 (.c5 rfl rfl rfl rfl rfl (.c5 rfl rfl rfl rfl rfl .nil))
      have S6_28 : JA Try.prog ops1 7 #[true, false, true, false, true, true, true, true, false, true, true, false, false, false, false] Γ ([(13, .p 8 1 0), (14, .p 9 1 0), (59, .a [.b sa, .n false .u64 a]), (61, .a [.b sb, .n false .u64 b]), (63, .p 4 0 0), (64, .b (decide (g < 0))), (65, .p 4 0 1), (66, .n false .u64 (lm g))] ++ F0) [(ob sa a), (ob sb b), (oc 1 sa a), (oc 1 sb b), (ow 0 false g), (ow 0 false (xc (sv sb b) g x)), (ow 0 false (yc (sv sa a) (sv sb b) g x)), (oc 0 s l), oe, oe, oh] Q1 := by
        subst ho; subst hF
        refine ja_2 1 11 ?_ ?_ rfl rfl (by kernel_rfl)
        · refine js_call Try.f14 (of_s sa a (by omega) ua) rfl Try.func14 rfl rfl (ovL_cons rfl ovL_nil) (.cons (.a1 .b (.a1 .n .a0)) .nil) (hd 60 rfl) ?_ (fun ch hp => by simp at hp)
          rintro y hy; injection hy with hy; subst hy
          refine ja_t3 S6_20 9 (.c5 rfl rfl rfl rfl rfl (.c2 rfl rfl (.c2 rfl rfl .nil)))
        · refine js_h (hy_allocAt (id := 10) zero35 (by decide) rfl (by decide) rfl) (hd 15 rfl) ?_
          refine ja_t3 S6_27 9 (.c5 rfl rfl rfl rfl rfl (.c2 rfl rfl (.c2 rfl rfl .nil)))
      have S6_29 : JA Try.prog ops1 7 #[true, false, true, false, true, true, true, true, false, true, false, true, false, false, false] Γ ([(13, .p 8 1 0), (15, .p 10 1 0), (59, .a [.b sa, .n false .u64 a]), (61, .a [.b sb, .n false .u64 b]), (63, .p 4 0 0), (64, .b (decide (g < 0))), (65, .p 4 0 1), (66, .n false .u64 (lm g))] ++ F0) [(ob sa a), (ob sb b), (oc 1 sa a), (oc 1 sb b), (ow 0 false g), (ow 0 false (xc (sv sb b) g x)), (ow 0 false (yc (sv sa a) (sv sb b) g x)), (oc 0 s l), oe, oh, oe] Q1 := by
        subst ho; subst hF
        refine ja_2 1 10 ?_ ?_ rfl rfl (by kernel_rfl)
        · refine js_call Try.f14 (of_s sa a (by omega) ua) rfl Try.func14 rfl rfl (ovL_cons rfl ovL_nil) (.cons (.a1 .b (.a1 .n .a0)) .nil) (hd 60 rfl) ?_ (fun ch hp => by simp at hp)
          rintro y hy; injection hy with hy; subst hy
          refine ja_t3 S6_21 9 (.c5 rfl rfl rfl rfl rfl (.c2 rfl rfl (.c2 rfl rfl .nil)))
        · refine js_h (hy_allocAt (id := 9) zero35 (by decide) rfl (by decide) rfl) (hd 14 rfl) ?_
          refine ja_t3 S6_27 9 (.c5 rfl rfl rfl rfl rfl (.c2 rfl rfl (.c2 rfl rfl .nil)))
      have S6_30 : JA Try.prog ops1 8 #[true, false, true, false, true, true, true, true, false, true, false, false, false, false, false] Γ ([(13, .p 8 1 0), (59, .a [.b sa, .n false .u64 a]), (61, .a [.b sb, .n false .u64 b]), (63, .p 4 0 0), (64, .b (decide (g < 0))), (65, .p 4 0 1), (66, .n false .u64 (lm g))] ++ F0) [(ob sa a), (ob sb b), (oc 1 sa a), (oc 1 sb b), (ow 0 false g), (ow 0 false (xc (sv sb b) g x)), (ow 0 false (yc (sv sa a) (sv sb b) g x)), (oc 0 s l), oe, oh, oh] Q1 := by
        subst ho; subst hF
        refine ja_3 1 10 11 ?_ ?_ ?_ rfl rfl rfl (by kernel_rfl)
        · refine js_call Try.f14 (of_s sa a (by omega) ua) rfl Try.func14 rfl rfl (ovL_cons rfl ovL_nil) (.cons (.a1 .b (.a1 .n .a0)) .nil) (hd 60 rfl) ?_ (fun ch hp => by simp at hp)
          rintro y hy; injection hy with hy; subst hy
          refine ja_t3 S6_22 8 (.c5 rfl rfl rfl rfl rfl (.c2 rfl rfl (.cons rfl .nil)))
        · refine js_h (hy_allocAt (id := 9) zero35 (by decide) rfl (by decide) rfl) (hd 14 rfl) ?_
          refine ja_t3 S6_28 8 (.c5 rfl rfl rfl rfl rfl (.c2 rfl rfl (.cons rfl .nil)))
        · refine js_h (hy_allocAt (id := 10) zero35 (by decide) rfl (by decide) rfl) (hd 15 rfl) ?_
          refine ja_t3 S6_29 8 (.c5 rfl rfl rfl rfl rfl (.c2 rfl rfl (.cons rfl .nil)))
      have S6_31 : JA Try.prog ops1 7 #[true, false, true, false, true, true, true, true, false, false, true, true, false, false, false] Γ ([(14, .p 9 1 0), (15, .p 10 1 0), (59, .a [.b sa, .n false .u64 a]), (61, .a [.b sb, .n false .u64 b]), (63, .p 4 0 0), (64, .b (decide (g < 0))), (65, .p 4 0 1), (66, .n false .u64 (lm g))] ++ F0) [(ob sa a), (ob sb b), (oc 1 sa a), (oc 1 sb b), (ow 0 false g), (ow 0 false (xc (sv sb b) g x)), (ow 0 false (yc (sv sa a) (sv sb b) g x)), (oc 0 s l), oh, oe, oe] Q1 := by
        subst ho; subst hF
        refine ja_2 1 9 ?_ ?_ rfl rfl (by kernel_rfl)
        · refine js_call Try.f14 (of_s sa a (by omega) ua) rfl Try.func14 rfl rfl (ovL_cons rfl ovL_nil) (.cons (.a1 .b (.a1 .n .a0)) .nil) (hd 60 rfl) ?_ (fun ch hp => by simp at hp)
          rintro y hy; injection hy with hy; subst hy
          refine ja_t3 S6_23 9 (.c5 rfl rfl rfl rfl rfl (.c2 rfl rfl (.c2 rfl rfl .nil)))
        · refine js_h (hy_allocAt (id := 8) zero35 (by decide) rfl (by decide) rfl) (hd 13 rfl) ?_
          refine ja_t3 S6_27 9 (.c5 rfl rfl rfl rfl rfl (.c2 rfl rfl (.c2 rfl rfl .nil)))
      have S6_32 : JA Try.prog ops1 8 #[true, false, true, false, true, true, true, true, false, false, true, false, false, false, false] Γ ([(14, .p 9 1 0), (59, .a [.b sa, .n false .u64 a]), (61, .a [.b sb, .n false .u64 b]), (63, .p 4 0 0), (64, .b (decide (g < 0))), (65, .p 4 0 1), (66, .n false .u64 (lm g))] ++ F0) [(ob sa a), (ob sb b), (oc 1 sa a), (oc 1 sb b), (ow 0 false g), (ow 0 false (xc (sv sb b) g x)), (ow 0 false (yc (sv sa a) (sv sb b) g x)), (oc 0 s l), oh, oe, oh] Q1 := by
        subst ho; subst hF
        refine ja_3 1 9 11 ?_ ?_ ?_ rfl rfl rfl (by kernel_rfl)
        · refine js_call Try.f14 (of_s sa a (by omega) ua) rfl Try.func14 rfl rfl (ovL_cons rfl ovL_nil) (.cons (.a1 .b (.a1 .n .a0)) .nil) (hd 60 rfl) ?_ (fun ch hp => by simp at hp)
          rintro y hy; injection hy with hy; subst hy
          refine ja_t3 S6_24 8 (.c5 rfl rfl rfl rfl rfl (.c2 rfl rfl (.cons rfl .nil)))
        · refine js_h (hy_allocAt (id := 8) zero35 (by decide) rfl (by decide) rfl) (hd 13 rfl) ?_
          refine ja_t3 S6_28 8 (.c5 rfl rfl rfl rfl rfl (.c2 rfl rfl (.cons rfl .nil)))
        · refine js_h (hy_allocAt (id := 10) zero35 (by decide) rfl (by decide) rfl) (hd 15 rfl) ?_
          refine ja_t3 S6_31 8 (.c5 rfl rfl rfl rfl rfl (.c2 rfl rfl (.cons rfl .nil)))
      have S6_33 : JA Try.prog ops1 8 #[true, false, true, false, true, true, true, true, false, false, false, true, false, false, false] Γ ([(15, .p 10 1 0), (59, .a [.b sa, .n false .u64 a]), (61, .a [.b sb, .n false .u64 b]), (63, .p 4 0 0), (64, .b (decide (g < 0))), (65, .p 4 0 1), (66, .n false .u64 (lm g))] ++ F0) [(ob sa a), (ob sb b), (oc 1 sa a), (oc 1 sb b), (ow 0 false g), (ow 0 false (xc (sv sb b) g x)), (ow 0 false (yc (sv sa a) (sv sb b) g x)), (oc 0 s l), oh, oh, oe] Q1 := by
        subst ho; subst hF
        refine ja_3 1 9 10 ?_ ?_ ?_ rfl rfl rfl (by kernel_rfl)
        · refine js_call Try.f14 (of_s sa a (by omega) ua) rfl Try.func14 rfl rfl (ovL_cons rfl ovL_nil) (.cons (.a1 .b (.a1 .n .a0)) .nil) (hd 60 rfl) ?_ (fun ch hp => by simp at hp)
          rintro y hy; injection hy with hy; subst hy
          refine ja_t3 S6_25 8 (.c5 rfl rfl rfl rfl rfl (.c2 rfl rfl (.cons rfl .nil)))
        · refine js_h (hy_allocAt (id := 8) zero35 (by decide) rfl (by decide) rfl) (hd 13 rfl) ?_
          refine ja_t3 S6_29 8 (.c5 rfl rfl rfl rfl rfl (.c2 rfl rfl (.cons rfl .nil)))
        · refine js_h (hy_allocAt (id := 9) zero35 (by decide) rfl (by decide) rfl) (hd 14 rfl) ?_
          refine ja_t3 S6_31 8 (.c5 rfl rfl rfl rfl rfl (.c2 rfl rfl (.cons rfl .nil)))
      have S6_34 : JA Try.prog ops1 9 #[true, false, true, false, true, true, true, true, false, false, false, false, false, false, false] Γ ([(59, .a [.b sa, .n false .u64 a]), (61, .a [.b sb, .n false .u64 b]), (63, .p 4 0 0), (64, .b (decide (g < 0))), (65, .p 4 0 1), (66, .n false .u64 (lm g))] ++ F0) [(ob sa a), (ob sb b), (oc 1 sa a), (oc 1 sb b), (ow 0 false g), (ow 0 false (xc (sv sb b) g x)), (ow 0 false (yc (sv sa a) (sv sb b) g x)), (oc 0 s l), oh, oh, oh] Q1 := by
        subst ho; subst hF
        refine ja_4 1 9 10 11 ?_ ?_ ?_ ?_ rfl rfl rfl rfl (by kernel_rfl)
        · refine js_call Try.f14 (of_s sa a (by omega) ua) rfl Try.func14 rfl rfl (ovL_cons rfl ovL_nil) (.cons (.a1 .b (.a1 .n .a0)) .nil) (hd 60 rfl) ?_ (fun ch hp => by simp at hp)
          rintro y hy; injection hy with hy; subst hy
          refine ja_t3 S6_26 7 (.c5 rfl rfl rfl rfl rfl (.c2 rfl rfl .nil))
        · refine js_h (hy_allocAt (id := 8) zero35 (by decide) rfl (by decide) rfl) (hd 13 rfl) ?_
          refine ja_t3 S6_30 7 (.c5 rfl rfl rfl rfl rfl (.c2 rfl rfl .nil))
        · refine js_h (hy_allocAt (id := 9) zero35 (by decide) rfl (by decide) rfl) (hd 14 rfl) ?_
          refine ja_t3 S6_32 7 (.c5 rfl rfl rfl rfl rfl (.c2 rfl rfl .nil))
        · refine js_h (hy_allocAt (id := 10) zero35 (by decide) rfl (by decide) rfl) (hd 15 rfl) ?_
          refine ja_t3 S6_33 7 (.c5 rfl rfl rfl rfl rfl (.c2 rfl rfl .nil))
      have S6_35 : JA Try.prog ops1 10 #[true, false, true, false, true, true, true, false, false, false, false, false, false, false, false] Γ ([(59, .a [.b sa, .n false .u64 a]), (61, .a [.b sb, .n false .u64 b]), (63, .p 4 0 0), (64, .b (decide (g < 0))), (65, .p 4 0 1)] ++ F0) [(ob sa a), (ob sb b), (oc 1 sa a), (oc 1 sb b), (ow 0 false g), (ow 0 false (xc (sv sb b) g x)), (ow 0 false (yc (sv sa a) (sv sb b) g x)), (oc 0 s l), oh, oh, oh] Q1 := by
        subst ho; subst hF; refine ja_l2 7 [8, 12, 13, 14] (lo_l (ly_ld one28 rfl rfl rfl) (hd 66 rfl)) rfl (by kernel_rfl) (by kernel_rfl) (by kernel_rfl) (by kernel_rfl) hpan ?_
        refine ja_t3 S6_34 6 (.c5 rfl rfl rfl rfl rfl (.cons rfl .nil))
      have S6_36 : JA Try.prog ops1 11 #[true, false, true, false, true, true, false, false, false, false, false, false, false, false, false] Γ ([(59, .a [.b sa, .n false .u64 a]), (61, .a [.b sb, .n false .u64 b]), (63, .p 4 0 0), (64, .b (decide (g < 0)))] ++ F0) [(ob sa a), (ob sb b), (oc 1 sa a), (oc 1 sb b), (ow 0 false g), (ow 0 false (xc (sv sb b) g x)), (ow 0 false (yc (sv sa a) (sv sb b) g x)), (oc 0 s l), oh, oh, oh] Q1 := by
        subst ho; subst hF; refine ja_l2 6 [7, 8, 12, 13, 14] (lo_l (ly_fa fld30_1 rfl rfl rfl) (hd 65 rfl)) rfl (by kernel_rfl) (by kernel_rfl) (by kernel_rfl) (by kernel_rfl) hpan ?_
        refine ja_t3 S6_35 5 (.c5 rfl rfl rfl rfl rfl .nil)
      have S6_37 : JA Try.prog ops1 12 #[true, false, true, false, true, false, false, false, false, false, false, false, false, false, false] Γ ([(59, .a [.b sa, .n false .u64 a]), (61, .a [.b sb, .n false .u64 b]), (63, .p 4 0 0)] ++ F0) [(ob sa a), (ob sb b), (oc 1 sa a), (oc 1 sb b), (ow 0 false g), (ow 0 false (xc (sv sb b) g x)), (ow 0 false (yc (sv sa a) (sv sb b) g x)), (oc 0 s l), oh, oh, oh] Q1 := by
        subst ho; subst hF; refine ja_l2 5 [8, 12, 13, 14] (lo_l (ly_ld one4 rfl rfl rfl) (hd 64 rfl)) rfl (by kernel_rfl) (by kernel_rfl) (by kernel_rfl) (by kernel_rfl) hpan ?_
        refine ja_t3 S6_36 4 (.c2 rfl rfl (.c2 rfl rfl .nil))
      have S6_38 : JA Try.prog ops1 13 #[true, false, true, false, false, false, false, false, false, false, false, false, false, false, false] Γ ([(59, .a [.b sa, .n false .u64 a]), (61, .a [.b sb, .n false .u64 b])] ++ F0) [(ob sa a), (ob sb b), (oc 1 sa a), (oc 1 sb b), (ow 0 false g), (ow 0 false (xc (sv sb b) g x)), (ow 0 false (yc (sv sa a) (sv sb b) g x)), (oc 0 s l), oh, oh, oh] Q1 := by
        subst ho; subst hF; refine ja_l2 4 [5, 8, 12, 13, 14] (lo_l (ly_fa fld30_0 rfl rfl rfl) (hd 63 rfl)) rfl (by kernel_rfl) (by kernel_rfl) (by kernel_rfl) (by kernel_rfl) hpan ?_
        refine ja_t3 S6_37 3 (.c2 rfl rfl (.cons rfl .nil))
      have S6_39 : JA Try.prog ops1 14 #[true, false, false, false, false, false, false, false, false, false, false, false, false, false, false] Γ ([(59, .a [.b sa, .n false .u64 a])] ++ F0) [(ob sa a), (ob sb b), (oc 1 sa a), (oc 1 sb b), (ow 0 false g), (ow 0 false (xc (sv sb b) g x)), (ow 0 false (yc (sv sa a) (sv sb b) g x)), (oc 0 s l), oh, oh, oh] Q1 := by
        subst ho; subst hF; refine ja_l2 2 [3, 8, 12, 13, 14] (lo_l (ly_lda agg27 rfl rfl rfl rfl) (hd 61 rfl)) rfl (by kernel_rfl) (by kernel_rfl) (by kernel_rfl) (by kernel_rfl) hpan ?_
        refine ja_t3 S6_38 2 (.c2 rfl rfl .nil)
      have S6_40 : JA Try.prog ops1 15 #[false, false, false, false, false, false, false, false, false, false, false, false, false, false, false] Γ ([] ++ F0) [(ob sa a), (ob sb b), (oc 1 sa a), (oc 1 sb b), (ow 0 false g), (ow 0 false (xc (sv sb b) g x)), (ow 0 false (yc (sv sa a) (sv sb b) g x)), (oc 0 s l), oh, oh, oh] Q1 := by
        subst ho; subst hF; refine ja_l2 0 [1, 3, 8, 12, 13, 14] (lo_l (ly_lda agg27 rfl rfl rfl rfl) (hd 59 rfl)) rfl (by kernel_rfl) (by kernel_rfl) (by kernel_rfl) (by kernel_rfl) hpan ?_
        refine ja_t3 S6_39 1 (.cons rfl .nil)
      subst ho; subst hF
      exact ja_to (m := []) (by decide) rfl (cov_n 0 rfl rfl .nil) S6_40
  have S1_1 : JA Try.prog ops1 1 #[true, true, true, true, true, true, true, false] Γ ([(5, .p 2 1 0), (6, .p 3 1 0), (23, .a [.b sa, .n false .u64 a]), (24, .a [.b sa, .n false .u64 a]), (25, .a [.b sb, .n false .u64 b]), (26, .a [.b sb, .n false .u64 b])] ++ F0) [(ob sa a), (ob sb b), (oc 1 sa a), ⟨28, 2, 1, true, [.b false, .c (.slice none 0 0)]⟩] Q1 := by
    subst ho; subst hF
    refine ja_1 7 ?_ rfl (by kernel_rfl)
    refine js_st (sy_store rfl rfl rfl siz30 rfl rfl (Nat.le_of_ble_eq_true rfl)) rfl ?_
    refine ja_t3 S1_0 6 (.c5 rfl rfl rfl rfl rfl (.cons rfl .nil))
  have S1_2 : JA Try.prog ops1 2 #[true, true, true, true, true, true, false, false] Γ ([(5, .p 2 1 0), (6, .p 3 1 0), (23, .a [.b sa, .n false .u64 a]), (24, .a [.b sa, .n false .u64 a]), (25, .a [.b sb, .n false .u64 b]), (26, .a [.b sb, .n false .u64 b])] ++ F0) [(ob sa a), (ob sb b), ⟨28, 2, 1, true, [.b false, .c (.slice none 0 0)]⟩, ⟨28, 2, 1, true, [.b false, .c (.slice none 0 0)]⟩] Q1 := by
    subst ho; subst hF
    refine ja_1 6 ?_ rfl (by kernel_rfl)
    refine js_st (sy_store rfl rfl rfl siz30 rfl rfl (Nat.le_of_ble_eq_true rfl)) rfl ?_
    refine ja_t3 S1_1 6 (.c5 rfl rfl rfl rfl rfl (.cons rfl .nil))
  have S1_3 : JA Try.prog ops1 3 #[true, true, true, true, true, false, false, false] Γ ([(5, .p 2 1 0), (23, .a [.b sa, .n false .u64 a]), (24, .a [.b sa, .n false .u64 a]), (25, .a [.b sb, .n false .u64 b]), (26, .a [.b sb, .n false .u64 b])] ++ F0) [(ob sa a), (ob sb b), ⟨28, 2, 1, true, [.b false, .c (.slice none 0 0)]⟩, oh] Q1 := by
    subst ho; subst hF
    refine ja_1 5 ?_ rfl (by kernel_rfl)
    refine js_h (hy_allocAt (id := 3) zero30 (by decide) rfl (by decide) rfl) (hd 6 rfl) ?_
    refine ja_t3 S1_2 6 (.c5 rfl rfl rfl rfl rfl (.cons rfl .nil))
  have S1_4 : JA Try.prog ops1 3 #[true, true, true, true, false, true, false, false] Γ ([(6, .p 3 1 0), (23, .a [.b sa, .n false .u64 a]), (24, .a [.b sa, .n false .u64 a]), (25, .a [.b sb, .n false .u64 b]), (26, .a [.b sb, .n false .u64 b])] ++ F0) [(ob sa a), (ob sb b), oh, ⟨28, 2, 1, true, [.b false, .c (.slice none 0 0)]⟩] Q1 := by
    subst ho; subst hF
    refine ja_1 4 ?_ rfl (by kernel_rfl)
    refine js_h (hy_allocAt (id := 2) zero30 (by decide) rfl (by decide) rfl) (hd 5 rfl) ?_
    refine ja_t3 S1_2 6 (.c5 rfl rfl rfl rfl rfl (.cons rfl .nil))
  have S1_5 : JA Try.prog ops1 4 #[true, true, true, true, false, false, false, false] Γ ([(23, .a [.b sa, .n false .u64 a]), (24, .a [.b sa, .n false .u64 a]), (25, .a [.b sb, .n false .u64 b]), (26, .a [.b sb, .n false .u64 b])] ++ F0) [(ob sa a), (ob sb b), oh, oh] Q1 := by
    subst ho; subst hF
    refine ja_2 4 5 ?_ ?_ rfl rfl (by kernel_rfl)
    · refine js_h (hy_allocAt (id := 2) zero30 (by decide) rfl (by decide) rfl) (hd 5 rfl) ?_
      refine ja_t3 S1_3 5 (.c5 rfl rfl rfl rfl rfl .nil)
    · refine js_h (hy_allocAt (id := 3) zero30 (by decide) rfl (by decide) rfl) (hd 6 rfl) ?_
      refine ja_t3 S1_4 5 (.c5 rfl rfl rfl rfl rfl .nil)
  have S1_6 : JA Try.prog ops1 3 #[true, true, true, false, true, true, false, false] Γ ([(5, .p 2 1 0), (6, .p 3 1 0), (23, .a [.b sa, .n false .u64 a]), (24, .a [.b sa, .n false .u64 a]), (25, .a [.b sb, .n false .u64 b])] ++ F0) [(ob sa a), (ob sb b), ⟨28, 2, 1, true, [.b false, .c (.slice none 0 0)]⟩, ⟨28, 2, 1, true, [.b false, .c (.slice none 0 0)]⟩] Q1 := by
    subst ho; subst hF
    refine ja_1 3 ?_ rfl (by kernel_rfl)
    refine js_call Try.f11 (in_s sb b) rfl Try.func11 rfl rfl (ovL_cons rfl ovL_nil) (.cons (.a1 .b (.a1 .n .a0)) .nil) (hd 26 rfl) ?_ (fun ch hp => by simp at hp)
    rintro y hy; injection hy with hy; subst hy
    refine ja_t3 S1_2 6 (.c5 rfl rfl rfl rfl rfl (.cons rfl .nil))
  have S1_7 : JA Try.prog ops1 4 #[true, true, true, false, true, false, false, false] Γ ([(5, .p 2 1 0), (23, .a [.b sa, .n false .u64 a]), (24, .a [.b sa, .n false .u64 a]), (25, .a [.b sb, .n false .u64 b])] ++ F0) [(ob sa a), (ob sb b), ⟨28, 2, 1, true, [.b false, .c (.slice none 0 0)]⟩, oh] Q1 := by
    subst ho; subst hF
    refine ja_2 3 5 ?_ ?_ rfl rfl (by kernel_rfl)
    · refine js_call Try.f11 (in_s sb b) rfl Try.func11 rfl rfl (ovL_cons rfl ovL_nil) (.cons (.a1 .b (.a1 .n .a0)) .nil) (hd 26 rfl) ?_ (fun ch hp => by simp at hp)
      rintro y hy; injection hy with hy; subst hy
      refine ja_t3 S1_3 5 (.c5 rfl rfl rfl rfl rfl .nil)
    · refine js_h (hy_allocAt (id := 3) zero30 (by decide) rfl (by decide) rfl) (hd 6 rfl) ?_
      refine ja_t3 S1_6 5 (.c5 rfl rfl rfl rfl rfl .nil)
  have S1_8 : JA Try.prog ops1 4 #[true, true, true, false, false, true, false, false] Γ ([(6, .p 3 1 0), (23, .a [.b sa, .n false .u64 a]), (24, .a [.b sa, .n false .u64 a]), (25, .a [.b sb, .n false .u64 b])] ++ F0) [(ob sa a), (ob sb b), oh, ⟨28, 2, 1, true, [.b false, .c (.slice none 0 0)]⟩] Q1 := by
    subst ho; subst hF
    refine ja_2 3 4 ?_ ?_ rfl rfl (by kernel_rfl)
    · refine js_call Try.f11 (in_s sb b) rfl Try.func11 rfl rfl (ovL_cons rfl ovL_nil) (.cons (.a1 .b (.a1 .n .a0)) .nil) (hd 26 rfl) ?_ (fun ch hp => by simp at hp)
      rintro y hy; injection hy with hy; subst hy
      refine ja_t3 S1_4 5 (.c5 rfl rfl rfl rfl rfl .nil)
    · refine js_h (hy_allocAt (id := 2) zero30 (by decide) rfl (by decide) rfl) (hd 5 rfl) ?_
      refine ja_t3 S1_6 5 (.c5 rfl rfl rfl rfl rfl .nil)
  have S1_9 : JA Try.prog ops1 5 #[true, true, true, false, false, false, false, false] Γ ([(23, .a [.b sa, .n false .u64 a]), (24, .a [.b sa, .n false .u64 a]), (25, .a [.b sb, .n false .u64 b])] ++ F0) [(ob sa a), (ob sb b), oh, oh] Q1 := by
    subst ho; subst hF
    refine ja_3 3 4 5 ?_ ?_ ?_ rfl rfl rfl (by kernel_rfl)
    · refine js_call Try.f11 (in_s sb b) rfl Try.func11 rfl rfl (ovL_cons rfl ovL_nil) (.cons (.a1 .b (.a1 .n .a0)) .nil) (hd 26 rfl) ?_ (fun ch hp => by simp at hp)
      rintro y hy; injection hy with hy; subst hy
      refine ja_t3 S1_5 4 (.c2 rfl rfl (.c2 rfl rfl .nil))
    · refine js_h (hy_allocAt (id := 2) zero30 (by decide) rfl (by decide) rfl) (hd 5 rfl) ?_
      refine ja_t3 S1_7 4 (.c2 rfl rfl (.c2 rfl rfl .nil))
    · refine js_h (hy_allocAt (id := 3) zero30 (by decide) rfl (by decide) rfl) (hd 6 rfl) ?_
      refine ja_t3 S1_8 4 (.c2 rfl rfl (.c2 rfl rfl .nil))
  have S1_10 : JA Try.prog ops1 4 #[true, false, true, false, true, true, false, false] Γ ([(5, .p 2 1 0), (6, .p 3 1 0), (23, .a [.b sa, .n false .u64 a]), (25, .a [.b sb, .n false .u64 b])] ++ F0) [(ob sa a), (ob sb b), ⟨28, 2, 1, true, [.b false, .c (.slice none 0 0)]⟩, ⟨28, 2, 1, true, [.b false, .c (.slice none 0 0)]⟩] Q1 := by
    subst ho; subst hF
    refine ja_1 1 ?_ rfl (by kernel_rfl)
    refine js_call Try.f11 (in_s sa a) rfl Try.func11 rfl rfl (ovL_cons rfl ovL_nil) (.cons (.a1 .b (.a1 .n .a0)) .nil) (hd 24 rfl) ?_ (fun ch hp => by simp at hp)
    rintro y hy; injection hy with hy; subst hy
    refine ja_t3 S1_6 5 (.c5 rfl rfl rfl rfl rfl .nil)
  have S1_11 : JA Try.prog ops1 5 #[true, false, true, false, true, false, false, false] Γ ([(5, .p 2 1 0), (23, .a [.b sa, .n false .u64 a]), (25, .a [.b sb, .n false .u64 b])] ++ F0) [(ob sa a), (ob sb b), ⟨28, 2, 1, true, [.b false, .c (.slice none 0 0)]⟩, oh] Q1 := by
    subst ho; subst hF
    refine ja_2 1 5 ?_ ?_ rfl rfl (by kernel_rfl)
    · refine js_call Try.f11 (in_s sa a) rfl Try.func11 rfl rfl (ovL_cons rfl ovL_nil) (.cons (.a1 .b (.a1 .n .a0)) .nil) (hd 24 rfl) ?_ (fun ch hp => by simp at hp)
      rintro y hy; injection hy with hy; subst hy
      refine ja_t3 S1_7 4 (.c2 rfl rfl (.c2 rfl rfl .nil))
    · refine js_h (hy_allocAt (id := 3) zero30 (by decide) rfl (by decide) rfl) (hd 6 rfl) ?_
      refine ja_t3 S1_10 4 (.c2 rfl rfl (.c2 rfl rfl .nil))
  have S1_12 : JA Try.prog ops1 5 #[true, false, true, false, false, true, false, false] Γ ([(6, .p 3 1 0), (23, .a [.b sa, .n false .u64 a]), (25, .a [.b sb, .n false .u64 b])] ++ F0) [(ob sa a), (ob sb b), oh, ⟨28, 2, 1, true, [.b false, .c (.slice none 0 0)]⟩] Q1 := by
    subst ho; subst hF
    refine ja_2 1 4 ?_ ?_ rfl rfl (by kernel_rfl)
    · refine js_call Try.f11 (in_s sa a) rfl Try.func11 rfl rfl (ovL_cons rfl ovL_nil) (.cons (.a1 .b (.a1 .n .a0)) .nil) (hd 24 rfl) ?_ (fun ch hp => by simp at hp)
      rintro y hy; injection hy with hy; subst hy
      refine ja_t3 S1_8 4 (.c2 rfl rfl (.c2 rfl rfl .nil))
    · refine js_h (hy_allocAt (id := 2) zero30 (by decide) rfl (by decide) rfl) (hd 5 rfl) ?_
      refine ja_t3 S1_10 4 (.c2 rfl rfl (.c2 rfl rfl .nil))
  have S1_13 : JA Try.prog ops1 6 #[true, false, true, false, false, false, false, false] Γ ([(23, .a [.b sa, .n false .u64 a]), (25, .a [.b sb, .n false .u64 b])] ++ F0) [(ob sa a), (ob sb b), oh, oh] Q1 := by
    subst ho; subst hF
    refine ja_3 1 4 5 ?_ ?_ ?_ rfl rfl rfl (by kernel_rfl)
    · refine js_call Try.f11 (in_s sa a) rfl Try.func11 rfl rfl (ovL_cons rfl ovL_nil) (.cons (.a1 .b (.a1 .n .a0)) .nil) (hd 24 rfl) ?_ (fun ch hp => by simp at hp)
      rintro y hy; injection hy with hy; subst hy
      refine ja_t3 S1_9 3 (.c2 rfl rfl (.cons rfl .nil))
    · refine js_h (hy_allocAt (id := 2) zero30 (by decide) rfl (by decide) rfl) (hd 5 rfl) ?_
      refine ja_t3 S1_11 3 (.c2 rfl rfl (.cons rfl .nil))
    · refine js_h (hy_allocAt (id := 3) zero30 (by decide) rfl (by decide) rfl) (hd 6 rfl) ?_
      refine ja_t3 S1_12 3 (.c2 rfl rfl (.cons rfl .nil))
  have S1_14 : JA Try.prog ops1 7 #[true, false, false, false, false, false, false, false] Γ ([(23, .a [.b sa, .n false .u64 a])] ++ F0) [(ob sa a), (ob sb b), oh, oh] Q1 := by
    subst ho; subst hF; refine ja_l2 2 [3, 6, 7] (lo_l (ly_lda agg27 rfl rfl rfl rfl) (hd 25 rfl)) rfl (by kernel_rfl) (by kernel_rfl) (by kernel_rfl) (by kernel_rfl) hpan ?_
    refine ja_t3 S1_13 2 (.c2 rfl rfl .nil)
  have S1_15 : JA Try.prog ops1 8 #[false, false, false, false, false, false, false, false] Γ ([] ++ F0) [(ob sa a), (ob sb b), oh, oh] Q1 := by
    subst ho; subst hF; refine ja_l2 0 [1, 3, 6, 7] (lo_l (ly_lda agg27 rfl rfl rfl rfl) (hd 23 rfl)) rfl (by kernel_rfl) (by kernel_rfl) (by kernel_rfl) (by kernel_rfl) hpan ?_
    refine ja_t3 S1_14 1 (.cons rfl .nil)
  subst ho; subst hF
  exact ja_to (m := []) (by decide) rfl (cov_n 0 rfl rfl .nil) S1_15
end Go.Proofs.Ythocbnfkjlgclaa.Vc

/- The contract of surdlaw06.WholeCommon. -/
namespace Go.Proofs.Ythocbnfkjlgclaa.Vc
open Go Go.RowKit
theorem WholeCommon_s (sa sb : Bool) (a b : List Int) (hab : a.length + b.length ≤ 1048572) (ua : u64s a) (ub : u64s b) : Spec Try.prog 4 [.a [.b sa, .n false .u64 a], .a [.b sb, .n false .u64 b]] (fun o => o = .ret (.b true)) := by
  by_cases h0 : (sv sb b) = 0
  · exact WholeCommon_z sa sb a b hab ua ub h0
  · exact WholeCommon_n sa sb a b hab ua ub h0
end Go.Proofs.Ythocbnfkjlgclaa.Vc

/- The law WholeCommon of every input of bulk at most 1048576: it returns true, and the input reads as it did. -/
namespace Go.Proofs.Ythocbnfkjlgclaa.wholeCommon
open Go Go.ChangeShapes Go.WideShapes Go.ChangeAt Go.RowKit
open Go.ChangeMaps (open_string shut_string)

theorem own : ownKnob Try.prog.godebug = none := by kernel_rfl
theorem laidOut : laidOutB Try.prog = true := by kernel_rfl
set_option maxRecDepth 100000 in
theorem lifted (os : Os) (started : os.Started) (H : Type) (enc : TypeId × Value → H) (F : Stop.Interp) :
    ReturnsInHanded {} Try.checked os 4 .any ((Rows.OpenSpec.upto Rows.wholeCommonSpec).pre6 enc Try.prog Try.f4 Rows.wholeCommonUptoRow.domain false) (((Rows.OpenSpec.upto Rows.wholeCommonSpec).at F).post enc Try.prog Try.f4 false true false false) := by
  refine returnsInHanded_of_cond (C := Try.checked) (s := Rows.OpenSpec.upto Rows.wholeCommonSpec) (k := Rows.uptoSmall) rfl own started (by kernel_rfl) Try.func4
    (OpenSpec.witness (enc := enc) (C := Try.checked) (s := Rows.OpenSpec.upto Rows.wholeCommonSpec) (k := Rows.uptoSmall) rfl false ⟨#[], #[.agg #[.bool false, .slice none 0 0], .agg #[.bool false, .slice none 0 0]], []⟩ 8 (by kernel_rfl) (by kernel_rfl) (by kernel_rfl)
      (x := ([.agg [.lit (.bool false), .nil], .agg [.lit (.bool false), .nil]], [], [])) (by kernel_rfl) rfl (by kernel_rfl)) ?_
  intro W base args ds gs before hval0 hW _ hk _
  have hval : ∀ (j : Nat) t v, Try.f4.params[j]? = some t → args[j]? = some v → Value.okWide Try.prog W .any base t v := hval0
  have hW' := hW
  obtain ⟨p, q, hA0, hV, rfl, hfz, hnd⟩ := hW
  have hA : DataW.TrodAll enc Try.prog W 0 (fun _ => true) true Try.f4.params.toList args.toList ds p := hA0
  rw [Try.params4] at hA hval
  obtain ⟨v0, vs0, d0, ds0, p0, q0, hargs, rfl, rfl, h0, r0⟩ := trodAll_cons hA
  obtain ⟨v1, vs1, d1, ds1, p1, q1, rfl, rfl, rfl, h1, r1⟩ := trodAll_cons r0
  obtain ⟨rfl, rfl, rfl⟩ := trodAll_nil r1
  obtain rfl : args = #[v0, v1] := by cases args; simp_all
  obtain ⟨rfl, rfl⟩ := trodVars_none hV
  have hk0 := h0
  obtain ⟨s0, l0, rel0, hb0, ul0⟩ := Vc.openW (hval 0 24 v0 rfl rfl) h0
  have hk1 := h1
  obtain ⟨s1, l1, rel1, hb1, ul1⟩ := Vc.openW (hval 1 24 v1 rfl rfl) h1
  clear hA0 hval0
  simp only [List.append_nil] at hW' hk
  refine (Vc.spec_calls (vals := [v0, v1]) (Vc.WholeCommon_s s0 s1 l0 l1 (Vc.short2b hk hb0 hb1) ul0 ul1) W (⟨_, _, rfl, rel0, ⟨_, _, rfl, rel1, rfl⟩⟩)).mono fun e W' ⟨he, hb⟩ => ?_; subst he
  have hlt : ∀ x ∈ p0 ++ p1, x.block < W.heap.size := fun x hx => by simpa using hW'.lt x (by simpa using hx)
  exact ⟨_, rfl, Vc.post_of_below (pa := (p0 ++ (p1 ++ []))) (pv := []) hW' (fun _ _ _ => (trodAll_cons_mk (shut_bool Try.underlying4 _) trodAll_mk0)) (fun sp hsp => (trodAll_cons_mk (Go.WideElems.Trod_stays laidOut (by kernel_rfl) (of_decide_eq_true (by kernel_rfl)) hk0 (fun x hx => hb.same (hlt x (by simp [hx]))) (fun x hx => hsp x (by simp [hx]))) (trodAll_cons_mk (Go.WideElems.Trod_stays laidOut (by kernel_rfl) (of_decide_eq_true (by kernel_rfl)) hk1 (fun x hx => hb.same (hlt x (by simp [hx]))) (fun x hx => hsp x (by simp [hx]))) trodAll_mk0))) (fun _ _ => rfl) (by simp) hb⟩

theorem proved : Rows.WholeCommonUptoSaid :=
  OpenClaim.holds_of_cond 4 Try.f4 rfl rfl rfl rfl rfl rfl rfl ⟨rfl, rfl, rfl, rfl, rfl⟩ rfl rfl rfl rfl rfl (by kernel_rfl) Try.func4 (by kernel_rfl)
    (of_decide_eq_true (by kernel_rfl)) (by unfold Func.isWrapper; first | (rw [if_pos (by decide +kernel)]; kernel_rfl) | (rw [if_neg (by decide +kernel)]; exact ⟨rfl, rfl⟩))
    (fun os started H enc _ F => lifted os started H enc F)
end Go.Proofs.Ythocbnfkjlgclaa.wholeCommon
