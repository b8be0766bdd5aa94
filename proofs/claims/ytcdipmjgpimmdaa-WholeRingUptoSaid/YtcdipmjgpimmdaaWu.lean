/- The contract of surdlaw06.WholeRing. -/
import Derived.Test.YtcdipmjgpimmdaaWt
set_option linter.unusedVariables false
set_option linter.unusedSimpArgs false
namespace Go.Proofs.Ytcdipmjgpimmdaa.Vc
open Go Go.RowKit
set_option maxHeartbeats 20000000 in
set_option maxRecDepth 100000 in
theorem WholeRing_s (sa sb sc : Bool) (a b c : List Int) (ha : a.length < 4294967296) (hb : b.length < 4294967296) (hc : c.length < 4294967296) (ua : u64s a) (ub : u64s b) (uc : u64s c) : Spec Try.prog 8 [.a [.b sa, .n false .u64 a], .a [.b sb, .n false .u64 b], .a [.b sc, .n false .u64 c]] (fun o => o = .ret (.b true)) := by
  refine spec_of' [(0, .a [.b sa, .n false .u64 a]), (1, .a [.b sb, .n false .u64 b]), (2, .a [.b sc, .n false .u64 c])] rfl Try.func8 rfl (Nat.le_of_ble_eq_true rfl) fun Γ hN hds hL hR => ?_
  have hd : ∀ d, Nat.blt d 173 = true → d < Γ.N := fun d h => by rw [hN]; exact Nat.le_of_ble_eq_true h
  refine jc_seq ?_
  refine jc_region ?_
  refine jo_h (hy_box (id := 0) (n := 2) rfl rfl rfl (by decide) rfl) (hd 3 rfl) ?_
  refine jo_h (hy_box (id := 1) (n := 2) rfl rfl rfl (by decide) rfl) (hd 4 rfl) ?_
  refine jo_h (hy_box (id := 2) (n := 2) rfl rfl rfl (by decide) rfl) (hd 5 rfl) ?_
  refine jo_l (ly_as rfl) (hd 6 rfl) ?_
  refine jo_nil ?_
  refine jc_seq ?_
  refine jc_hold 3 _ ?_
  refine jc_draw (n := 12) _ rfl mixed ?_
  refine ja_gen (fun _ _ _ _ h => h) fun ops1 Q1 F0 hpan ho hq hF => ?_
  have S1_111111111111 : JA Try.prog ops1 0 #[true, true, true, true, true, true, true, true, true, true, true, true] Γ ([(7, .p 3 1 0), (8, .p 4 1 0), (9, .p 5 1 0), (34, .a [.b sa, .n false .u64 a]), (35, .a [.b sa, .n false .u64 a]), (36, .a [.b sb, .n false .u64 b]), (37, .a [.b sb, .n false .u64 b]), (38, .a [.b sc, .n false .u64 c]), (39, .a [.b sc, .n false .u64 c])] ++ F0) [⟨27, 2, 0, true, [.b sa, .n false .u64 a]⟩, ⟨27, 2, 0, true, [.b sb, .n false .u64 b]⟩, ⟨27, 2, 0, true, [.b sc, .n false .u64 c]⟩, ⟨30, 2, 1, true, [.b sa, .n false .u64 a]⟩, ⟨30, 2, 1, true, [.b sb, .n false .u64 b]⟩, ⟨30, 2, 1, true, [.b sc, .n false .u64 c]⟩] Q1 := by
    subst ho; subst hq; subst hF
    refine ja_nil (by kernel_rfl) ?_
    refine jc_seq ?_
    refine jc_region ?_
    refine jo_l (ly_lda agg30 rfl rfl rfl rfl) (hd 41 rfl) ?_
    refine jo_l (ly_lda agg30 rfl rfl rfl rfl) (hd 42 rfl) ?_
    refine jo_call Try.f52 (WMul_s sa sb a b ha hb ua ub) rfl Try.func52 rfl rfl (ovL_cons rfl (ovL_cons rfl ovL_nil)) (.cons (.a1 .b (.a1 .n .a0)) (.cons (.a1 .b (.a1 .n .a0)) .nil)) (hd 43 rfl) ?_ (fun ch hp => by simp at hp)
    rintro y ⟨s1, r1, e1, hy, h1_⟩
    injection hy with hy
    subst hy
    refine jo_l (ly_mv rfl) (hd 40 rfl) ?_
    refine jo_l (ly_ext rfl rfl) (hd 44 rfl) ?_
    refine jo_l (ly_ext rfl rfl) (hd 45 rfl) ?_
    refine jo_h (hy_alloc (id := 6) zero30 (by decide) rfl (by decide) rfl) (hd 10 rfl) ?_
    refine jo_st (sy_store rfl rfl rfl siz30 rfl rfl (Nat.le_of_ble_eq_true rfl)) ?_
    refine jo_l (ly_as rfl) (hd 11 rfl) ?_
    refine jo_nil ?_
    refine jc_seq ?_
    refine jc_H (H' := [⟨27, 2, 0, true, [.b sa, .n false .u64 a]⟩, ⟨27, 2, 0, true, [.b sb, .n false .u64 b]⟩, ⟨27, 2, 0, true, [.b sc, .n false .u64 c]⟩, ⟨30, 2, 1, true, [.b sa, .n false .u64 a]⟩, ⟨30, 2, 1, true, [.b sb, .n false .u64 b]⟩, ⟨30, 2, 1, true, [.b sc, .n false .u64 c]⟩, ⟨30, 2, 0, true, [.b s1, .n true .u64 r1]⟩]) rfl ?_
    refine jc_region ?_
    refine jo_l (ly_lda agg30 rfl rfl rfl rfl) (hd 47 rfl) ?_
    refine jo_l (ly_lda agg30 rfl rfl rfl rfl) (hd 48 rfl) ?_
    refine jo_call Try.f52 (WMul_s sb sa b a hb ha ub ua) rfl Try.func52 rfl rfl (ovL_cons rfl (ovL_cons rfl ovL_nil)) (.cons (.a1 .b (.a1 .n .a0)) (.cons (.a1 .b (.a1 .n .a0)) .nil)) (hd 49 rfl) ?_ (fun ch hp => by simp at hp)
    rintro y ⟨s2, r2, e2, hy, h2_⟩
    injection hy with hy
    subst hy
    refine jo_l (ly_mv rfl) (hd 46 rfl) ?_
    refine jo_l (ly_ext rfl rfl) (hd 50 rfl) ?_
    refine jo_l (ly_ext rfl rfl) (hd 51 rfl) ?_
    refine jo_h (hy_alloc (id := 7) zero30 (by decide) rfl (by decide) rfl) (hd 12 rfl) ?_
    refine jo_st (sy_store rfl rfl rfl siz30 rfl rfl (Nat.le_of_ble_eq_true rfl)) ?_
    refine jo_l (ly_as rfl) (hd 13 rfl) ?_
    refine jo_nil ?_
    refine jc_seq ?_
    refine jc_H (H' := [⟨27, 2, 0, true, [.b sa, .n false .u64 a]⟩, ⟨27, 2, 0, true, [.b sb, .n false .u64 b]⟩, ⟨27, 2, 0, true, [.b sc, .n false .u64 c]⟩, ⟨30, 2, 1, true, [.b sa, .n false .u64 a]⟩, ⟨30, 2, 1, true, [.b sb, .n false .u64 b]⟩, ⟨30, 2, 1, true, [.b sc, .n false .u64 c]⟩, ⟨30, 2, 0, true, [.b s1, .n true .u64 r1]⟩, ⟨30, 2, 0, true, [.b s2, .n true .u64 r2]⟩]) rfl ?_
    refine jc_region ?_
    refine jo_l (ly_lda agg30 rfl rfl rfl rfl) (hd 53 rfl) ?_
    refine jo_l (ly_lda agg30 rfl rfl rfl rfl) (hd 54 rfl) ?_
    refine jo_call Try.f52 (WMul_s sa sc a c ha hc ua uc) rfl Try.func52 rfl rfl (ovL_cons rfl (ovL_cons rfl ovL_nil)) (.cons (.a1 .b (.a1 .n .a0)) (.cons (.a1 .b (.a1 .n .a0)) .nil)) (hd 55 rfl) ?_ (fun ch hp => by simp at hp)
    rintro y ⟨s3, r3, e3, hy, h3_⟩
    injection hy with hy
    subst hy
    refine jo_l (ly_mv rfl) (hd 52 rfl) ?_
    refine jo_l (ly_ext rfl rfl) (hd 56 rfl) ?_
    refine jo_l (ly_ext rfl rfl) (hd 57 rfl) ?_
    refine jo_h (hy_alloc (id := 8) zero30 (by decide) rfl (by decide) rfl) (hd 14 rfl) ?_
    refine jo_st (sy_store rfl rfl rfl siz30 rfl rfl (Nat.le_of_ble_eq_true rfl)) ?_
    refine jo_l (ly_as rfl) (hd 15 rfl) ?_
    refine jo_nil ?_
    refine jc_seq ?_
    refine jc_H (H' := [⟨27, 2, 0, true, [.b sa, .n false .u64 a]⟩, ⟨27, 2, 0, true, [.b sb, .n false .u64 b]⟩, ⟨27, 2, 0, true, [.b sc, .n false .u64 c]⟩, ⟨30, 2, 1, true, [.b sa, .n false .u64 a]⟩, ⟨30, 2, 1, true, [.b sb, .n false .u64 b]⟩, ⟨30, 2, 1, true, [.b sc, .n false .u64 c]⟩, ⟨30, 2, 0, true, [.b s1, .n true .u64 r1]⟩, ⟨30, 2, 0, true, [.b s2, .n true .u64 r2]⟩, ⟨30, 2, 0, true, [.b s3, .n true .u64 r3]⟩]) rfl ?_
    refine jc_region ?_
    refine jo_l (ly_lda agg30 rfl rfl rfl rfl) (hd 59 rfl) ?_
    refine jo_l (ly_lda agg30 rfl rfl rfl rfl) (hd 60 rfl) ?_
    refine jo_call Try.f52 (WMul_s sb sc b c hb hc ub uc) rfl Try.func52 rfl rfl (ovL_cons rfl (ovL_cons rfl ovL_nil)) (.cons (.a1 .b (.a1 .n .a0)) (.cons (.a1 .b (.a1 .n .a0)) .nil)) (hd 61 rfl) ?_ (fun ch hp => by simp at hp)
    rintro y ⟨s4, r4, e4, hy, h4_⟩
    injection hy with hy
    subst hy
    refine jo_l (ly_mv rfl) (hd 58 rfl) ?_
    refine jo_l (ly_ext rfl rfl) (hd 62 rfl) ?_
    refine jo_l (ly_ext rfl rfl) (hd 63 rfl) ?_
    refine jo_h (hy_alloc (id := 9) zero30 (by decide) rfl (by decide) rfl) (hd 16 rfl) ?_
    refine jo_st (sy_store rfl rfl rfl siz30 rfl rfl (Nat.le_of_ble_eq_true rfl)) ?_
    refine jo_l (ly_as rfl) (hd 17 rfl) ?_
    refine jo_nil ?_
    refine jc_seq ?_
    refine jc_H (H' := [⟨27, 2, 0, true, [.b sa, .n false .u64 a]⟩, ⟨27, 2, 0, true, [.b sb, .n false .u64 b]⟩, ⟨27, 2, 0, true, [.b sc, .n false .u64 c]⟩, ⟨30, 2, 1, true, [.b sa, .n false .u64 a]⟩, ⟨30, 2, 1, true, [.b sb, .n false .u64 b]⟩, ⟨30, 2, 1, true, [.b sc, .n false .u64 c]⟩, ⟨30, 2, 0, true, [.b s1, .n true .u64 r1]⟩, ⟨30, 2, 0, true, [.b s2, .n true .u64 r2]⟩, ⟨30, 2, 0, true, [.b s3, .n true .u64 r3]⟩, ⟨30, 2, 0, true, [.b s4, .n true .u64 r4]⟩]) rfl ?_
    refine jc_region ?_
    refine jo_l (ly_lda agg30 rfl rfl rfl rfl) (hd 65 rfl) ?_
    refine jo_l (ly_lda agg30 rfl rfl rfl rfl) (hd 66 rfl) ?_
    refine jo_call Try.f50 (WAdd_s sb sc b c hb hc ub uc) rfl Try.func50 rfl rfl (ovL_cons rfl (ovL_cons rfl ovL_nil)) (.cons (.a1 .b (.a1 .n .a0)) (.cons (.a1 .b (.a1 .n .a0)) .nil)) (hd 67 rfl) ?_ (fun ch hp => by simp at hp)
    rintro y ⟨s5, r5, e5, hy, h5_⟩
    injection hy with hy
    subst hy
    refine jo_l (ly_mv rfl) (hd 64 rfl) ?_
    refine jo_l (ly_ext rfl rfl) (hd 68 rfl) ?_
    refine jo_l (ly_ext rfl rfl) (hd 69 rfl) ?_
    refine jo_h (hy_alloc (id := 10) zero30 (by decide) rfl (by decide) rfl) (hd 18 rfl) ?_
    refine jo_st (sy_store rfl rfl rfl siz30 rfl rfl (Nat.le_of_ble_eq_true rfl)) ?_
    refine jo_l (ly_as rfl) (hd 19 rfl) ?_
    refine jo_nil ?_
    refine jc_seq ?_
    refine jc_H (H' := [⟨27, 2, 0, true, [.b sa, .n false .u64 a]⟩, ⟨27, 2, 0, true, [.b sb, .n false .u64 b]⟩, ⟨27, 2, 0, true, [.b sc, .n false .u64 c]⟩, ⟨30, 2, 1, true, [.b sa, .n false .u64 a]⟩, ⟨30, 2, 1, true, [.b sb, .n false .u64 b]⟩, ⟨30, 2, 1, true, [.b sc, .n false .u64 c]⟩, ⟨30, 2, 0, true, [.b s1, .n true .u64 r1]⟩, ⟨30, 2, 0, true, [.b s2, .n true .u64 r2]⟩, ⟨30, 2, 0, true, [.b s3, .n true .u64 r3]⟩, ⟨30, 2, 0, true, [.b s4, .n true .u64 r4]⟩, ⟨30, 2, 0, true, [.b s5, .n true .u64 r5]⟩]) rfl ?_
    refine jc_region ?_
    refine jo_l (ly_lda agg30 rfl rfl rfl rfl) (hd 71 rfl) ?_
    refine jo_l (ly_lda agg30 rfl rfl rfl rfl) (hd 72 rfl) ?_
    refine jo_call Try.f51 (WSub_s sa sb a b ha hb ua ub) rfl Try.func51 rfl rfl (ovL_cons rfl (ovL_cons rfl ovL_nil)) (.cons (.a1 .b (.a1 .n .a0)) (.cons (.a1 .b (.a1 .n .a0)) .nil)) (hd 73 rfl) ?_ (fun ch hp => by simp at hp)
    rintro y ⟨s6, r6, e6, hy, h6_⟩
    injection hy with hy
    subst hy
    refine jo_l (ly_mv rfl) (hd 70 rfl) ?_
    refine jo_l (ly_ext rfl rfl) (hd 74 rfl) ?_
    refine jo_l (ly_ext rfl rfl) (hd 75 rfl) ?_
    refine jo_h (hy_alloc (id := 11) zero30 (by decide) rfl (by decide) rfl) (hd 20 rfl) ?_
    refine jo_st (sy_store rfl rfl rfl siz30 rfl rfl (Nat.le_of_ble_eq_true rfl)) ?_
    refine jo_l (ly_as rfl) (hd 21 rfl) ?_
    refine jo_nil ?_
    refine jc_seq ?_
    refine jc_H (H' := [⟨27, 2, 0, true, [.b sa, .n false .u64 a]⟩, ⟨27, 2, 0, true, [.b sb, .n false .u64 b]⟩, ⟨27, 2, 0, true, [.b sc, .n false .u64 c]⟩, ⟨30, 2, 1, true, [.b sa, .n false .u64 a]⟩, ⟨30, 2, 1, true, [.b sb, .n false .u64 b]⟩, ⟨30, 2, 1, true, [.b sc, .n false .u64 c]⟩, ⟨30, 2, 0, true, [.b s1, .n true .u64 r1]⟩, ⟨30, 2, 0, true, [.b s2, .n true .u64 r2]⟩, ⟨30, 2, 0, true, [.b s3, .n true .u64 r3]⟩, ⟨30, 2, 0, true, [.b s4, .n true .u64 r4]⟩, ⟨30, 2, 0, true, [.b s5, .n true .u64 r5]⟩, ⟨30, 2, 0, true, [.b s6, .n true .u64 r6]⟩]) rfl ?_
    refine jc_region ?_
    refine jo_l (ly_lda agg30 rfl rfl rfl rfl) (hd 77 rfl) ?_
    refine jo_call Try.f41 (Neg_s sa a ha ua) rfl Try.func41 rfl rfl (ovL_cons rfl ovL_nil) (.cons (.a1 .b (.a1 .n .a0)) .nil) (hd 78 rfl) ?_ (fun ch hp => by simp at hp)
    rintro y ⟨s7, r7, e7, hy, h7_⟩
    injection hy with hy
    subst hy
    refine jo_l (ly_mv rfl) (hd 76 rfl) ?_
    refine jo_l (ly_ext rfl rfl) (hd 79 rfl) ?_
    refine jo_l (ly_ext rfl rfl) (hd 80 rfl) ?_
    refine jo_h (hy_alloc (id := 12) zero30 (by decide) rfl (by decide) rfl) (hd 22 rfl) ?_
    refine jo_st (sy_store rfl rfl rfl siz30 rfl rfl (Nat.le_of_ble_eq_true rfl)) ?_
    refine jo_l (ly_as rfl) (hd 23 rfl) ?_
    refine jo_nil ?_
    refine jc_seq ?_
    refine jc_seq ?_
    refine jc_H (H' := [⟨27, 2, 0, true, [.b sa, .n false .u64 a]⟩, ⟨27, 2, 0, true, [.b sb, .n false .u64 b]⟩, ⟨27, 2, 0, true, [.b sc, .n false .u64 c]⟩, ⟨30, 2, 1, true, [.b sa, .n false .u64 a]⟩, ⟨30, 2, 1, true, [.b sb, .n false .u64 b]⟩, ⟨30, 2, 1, true, [.b sc, .n false .u64 c]⟩, ⟨30, 2, 0, true, [.b s1, .n true .u64 r1]⟩, ⟨30, 2, 0, true, [.b s2, .n true .u64 r2]⟩, ⟨30, 2, 0, true, [.b s3, .n true .u64 r3]⟩, ⟨30, 2, 0, true, [.b s4, .n true .u64 r4]⟩, ⟨30, 2, 0, true, [.b s5, .n true .u64 r5]⟩, ⟨30, 2, 0, true, [.b s6, .n true .u64 r6]⟩, ⟨30, 2, 0, true, [.b s7, .n true .u64 r7]⟩]) rfl ?_
    refine jc_region ?_
    refine jo_l (ly_mv rfl) (hd 81 rfl) ?_
    refine jo_l (ly_mv rfl) (hd 82 rfl) ?_
    refine jo_l (ly_mv rfl) (hd 83 rfl) ?_
    refine jo_l (ly_mv rfl) (hd 84 rfl) ?_
    refine jo_l (ly_mv rfl) (hd 85 rfl) ?_
    refine jo_l (ly_mv rfl) (hd 86 rfl) ?_
    refine jo_l (ly_mv rfl) (hd 87 rfl) ?_
    refine jo_h (hy_lit (id := 13) (xs := [.tmp 81, .tmp 82, .tmp 83, .tmp 84, .tmp 85, .tmp 86, .tmp 87]) el83 rfl (ovL_cons rfl (ovL_cons rfl (ovL_cons rfl (ovL_cons rfl (ovL_cons rfl (ovL_cons rfl (ovL_cons rfl ovL_nil))))))) rfl (all2_of rfl) (by decide) rfl) (hd 88 rfl) ?_
    refine jo_frz (k := .i64) (l := [e1, e2, e3, e4, e5, e6, e7]) (l' := [e1, e2, e3, e4, e5, e6, e7]) 88 rfl rfl (Nat.le_refl _) rfl hL ?_
    refine jo_call Try.f30 (all_s [e1, e2, e3, e4, e5, e6, e7] (by simp)) rfl Try.func30 rfl rfl (ovL_cons rfl ovL_nil) (.cons .n .nil) (hd 89 rfl) ?_ (fun ch hp => by simp at hp)
    rintro y hy; injection hy with hy; subst hy
    refine jo_l (ly_not rfl) (hd 90 rfl) ?_
    refine jo_nil ?_
    refine jc_ifn rfl (fun h1 => ?_) (fun h1 => ?_)
    · refine jc_seq ?_
      refine jc_region ?_
      refine jo_call Try.f10 (awake_s) rfl Try.func10 rfl rfl ovL_nil .nil (hd 91 rfl) ?_ (fun ch hp => by simp at hp)
      rintro y hy; injection hy with hy; subst hy
      refine jo_l (ly_as rfl) (hd 6 rfl) ?_
      refine jo_nil ?_
      refine jc_ret ?_
      refine ⟨_, _, (.cons rfl .nil), .b, ?_⟩
      exact rfl
    · have hall : ∀ e ∈ [e1, e2, e3, e4, e5, e6, e7], e = 0 := by simpa using h1
      obtain ⟨g1, w1⟩ := h1_ (hall e1 (by simp))
      have q1 := g1.2
      obtain ⟨g2, w2⟩ := h2_ (hall e2 (by simp))
      have q2 := g2.2
      obtain ⟨g3, w3⟩ := h3_ (hall e3 (by simp))
      have q3 := g3.2
      obtain ⟨g4, w4⟩ := h4_ (hall e4 (by simp))
      have q4 := g4.2
      obtain ⟨g5, w5⟩ := h5_ (hall e5 (by simp))
      have q5 := g5.2
      obtain ⟨g6, w6⟩ := h6_ (hall e6 (by simp))
      have q6 := g6.2
      obtain ⟨g7, w7⟩ := h7_ (hall e7 (by simp))
      have q7 := g7.2
      have z12 : Spec Try.prog 54 [.a [.b s1, .n false .u64 r1], .a [.b s2, .n false .u64 r2]] (fun o => o = .ret (.b true)) := by
        have h := same_s s1 s2 r1 r2 (by omega) (by omega) g1.1 g2.1
        rwa [decide_eq_true (cmpI_0.2 (by rw [w1, w2, Int.mul_comm]))] at h
      refine jc_skip ?_
      refine jc_seq ?_
      refine jc_H (H' := [⟨27, 2, 0, true, [.b sa, .n false .u64 a]⟩, ⟨27, 2, 0, true, [.b sb, .n false .u64 b]⟩, ⟨27, 2, 0, true, [.b sc, .n false .u64 c]⟩, ⟨30, 2, 1, true, [.b sa, .n false .u64 a]⟩, ⟨30, 2, 1, true, [.b sb, .n false .u64 b]⟩, ⟨30, 2, 1, true, [.b sc, .n false .u64 c]⟩, ⟨30, 2, 0, true, [.b s1, .n true .u64 r1]⟩, ⟨30, 2, 0, true, [.b s2, .n true .u64 r2]⟩, ⟨30, 2, 0, true, [.b s3, .n true .u64 r3]⟩, ⟨30, 2, 0, true, [.b s4, .n true .u64 r4]⟩, ⟨30, 2, 0, true, [.b s5, .n true .u64 r5]⟩, ⟨30, 2, 0, true, [.b s6, .n true .u64 r6]⟩, ⟨30, 2, 0, true, [.b s7, .n true .u64 r7]⟩, ⟨23, 1, 0, false, []⟩]) rfl ?_
      refine jc_region ?_
      refine jo_l (ly_lda agg30 rfl rfl rfl rfl) (hd 93 rfl) ?_
      refine jo_l (ly_lda agg30 rfl rfl rfl rfl) (hd 94 rfl) ?_
      refine jo_call Try.f52 (WMul_s s1 sc r1 c (by omega) hc g1.1 uc) rfl Try.func52 rfl rfl (ovL_cons rfl (ovL_cons rfl ovL_nil)) (.cons (.a1 .b (.a1 .n .a0)) (.cons (.a1 .b (.a1 .n .a0)) .nil)) (hd 95 rfl) ?_ (fun ch hp => by simp at hp)
      rintro y ⟨s8, r8, e8, hy, h8_⟩
      injection hy with hy
      subst hy
      refine jo_l (ly_mv rfl) (hd 92 rfl) ?_
      refine jo_l (ly_ext rfl rfl) (hd 96 rfl) ?_
      refine jo_l (ly_ext rfl rfl) (hd 97 rfl) ?_
      refine jo_h (hy_alloc (id := 14) zero30 (by decide) rfl (by decide) rfl) (hd 24 rfl) ?_
      refine jo_st (sy_store rfl rfl rfl siz30 rfl rfl (Nat.le_of_ble_eq_true rfl)) ?_
      refine jo_l (ly_as rfl) (hd 25 rfl) ?_
      refine jo_nil ?_
      refine jc_seq ?_
      refine jc_H (H' := [⟨27, 2, 0, true, [.b sa, .n false .u64 a]⟩, ⟨27, 2, 0, true, [.b sb, .n false .u64 b]⟩, ⟨27, 2, 0, true, [.b sc, .n false .u64 c]⟩, ⟨30, 2, 1, true, [.b sa, .n false .u64 a]⟩, ⟨30, 2, 1, true, [.b sb, .n false .u64 b]⟩, ⟨30, 2, 1, true, [.b sc, .n false .u64 c]⟩, ⟨30, 2, 0, true, [.b s1, .n true .u64 r1]⟩, ⟨30, 2, 0, true, [.b s2, .n true .u64 r2]⟩, ⟨30, 2, 0, true, [.b s3, .n true .u64 r3]⟩, ⟨30, 2, 0, true, [.b s4, .n true .u64 r4]⟩, ⟨30, 2, 0, true, [.b s5, .n true .u64 r5]⟩, ⟨30, 2, 0, true, [.b s6, .n true .u64 r6]⟩, ⟨30, 2, 0, true, [.b s7, .n true .u64 r7]⟩, ⟨23, 1, 0, false, []⟩, ⟨30, 2, 0, true, [.b s8, .n true .u64 r8]⟩]) rfl ?_
      refine jc_region ?_
      refine jo_l (ly_lda agg30 rfl rfl rfl rfl) (hd 99 rfl) ?_
      refine jo_l (ly_lda agg30 rfl rfl rfl rfl) (hd 100 rfl) ?_
      refine jo_call Try.f52 (WMul_s sa s4 a r4 ha (by omega) ua g4.1) rfl Try.func52 rfl rfl (ovL_cons rfl (ovL_cons rfl ovL_nil)) (.cons (.a1 .b (.a1 .n .a0)) (.cons (.a1 .b (.a1 .n .a0)) .nil)) (hd 101 rfl) ?_ (fun ch hp => by simp at hp)
      rintro y ⟨s9, r9, e9, hy, h9_⟩
      injection hy with hy
      subst hy
      refine jo_l (ly_mv rfl) (hd 98 rfl) ?_
      refine jo_l (ly_ext rfl rfl) (hd 102 rfl) ?_
      refine jo_l (ly_ext rfl rfl) (hd 103 rfl) ?_
      refine jo_h (hy_alloc (id := 15) zero30 (by decide) rfl (by decide) rfl) (hd 26 rfl) ?_
      refine jo_st (sy_store rfl rfl rfl siz30 rfl rfl (Nat.le_of_ble_eq_true rfl)) ?_
      refine jo_l (ly_as rfl) (hd 27 rfl) ?_
      refine jo_nil ?_
      refine jc_seq ?_
      refine jc_H (H' := [⟨27, 2, 0, true, [.b sa, .n false .u64 a]⟩, ⟨27, 2, 0, true, [.b sb, .n false .u64 b]⟩, ⟨27, 2, 0, true, [.b sc, .n false .u64 c]⟩, ⟨30, 2, 1, true, [.b sa, .n false .u64 a]⟩, ⟨30, 2, 1, true, [.b sb, .n false .u64 b]⟩, ⟨30, 2, 1, true, [.b sc, .n false .u64 c]⟩, ⟨30, 2, 0, true, [.b s1, .n true .u64 r1]⟩, ⟨30, 2, 0, true, [.b s2, .n true .u64 r2]⟩, ⟨30, 2, 0, true, [.b s3, .n true .u64 r3]⟩, ⟨30, 2, 0, true, [.b s4, .n true .u64 r4]⟩, ⟨30, 2, 0, true, [.b s5, .n true .u64 r5]⟩, ⟨30, 2, 0, true, [.b s6, .n true .u64 r6]⟩, ⟨30, 2, 0, true, [.b s7, .n true .u64 r7]⟩, ⟨23, 1, 0, false, []⟩, ⟨30, 2, 0, true, [.b s8, .n true .u64 r8]⟩, ⟨30, 2, 0, true, [.b s9, .n true .u64 r9]⟩]) rfl ?_
      refine jc_region ?_
      refine jo_l (ly_lda agg30 rfl rfl rfl rfl) (hd 105 rfl) ?_
      refine jo_l (ly_lda agg30 rfl rfl rfl rfl) (hd 106 rfl) ?_
      refine jo_call Try.f52 (WMul_s sa s5 a r5 ha (by omega) ua g5.1) rfl Try.func52 rfl rfl (ovL_cons rfl (ovL_cons rfl ovL_nil)) (.cons (.a1 .b (.a1 .n .a0)) (.cons (.a1 .b (.a1 .n .a0)) .nil)) (hd 107 rfl) ?_ (fun ch hp => by simp at hp)
      rintro y ⟨s10, r10, e10, hy, h10_⟩
      injection hy with hy
      subst hy
      refine jo_l (ly_mv rfl) (hd 104 rfl) ?_
      refine jo_l (ly_ext rfl rfl) (hd 108 rfl) ?_
      refine jo_l (ly_ext rfl rfl) (hd 109 rfl) ?_
      refine jo_h (hy_alloc (id := 16) zero30 (by decide) rfl (by decide) rfl) (hd 28 rfl) ?_
      refine jo_st (sy_store rfl rfl rfl siz30 rfl rfl (Nat.le_of_ble_eq_true rfl)) ?_
      refine jo_l (ly_as rfl) (hd 29 rfl) ?_
      refine jo_nil ?_
      refine jc_seq ?_
      refine jc_H (H' := [⟨27, 2, 0, true, [.b sa, .n false .u64 a]⟩, ⟨27, 2, 0, true, [.b sb, .n false .u64 b]⟩, ⟨27, 2, 0, true, [.b sc, .n false .u64 c]⟩, ⟨30, 2, 1, true, [.b sa, .n false .u64 a]⟩, ⟨30, 2, 1, true, [.b sb, .n false .u64 b]⟩, ⟨30, 2, 1, true, [.b sc, .n false .u64 c]⟩, ⟨30, 2, 0, true, [.b s1, .n true .u64 r1]⟩, ⟨30, 2, 0, true, [.b s2, .n true .u64 r2]⟩, ⟨30, 2, 0, true, [.b s3, .n true .u64 r3]⟩, ⟨30, 2, 0, true, [.b s4, .n true .u64 r4]⟩, ⟨30, 2, 0, true, [.b s5, .n true .u64 r5]⟩, ⟨30, 2, 0, true, [.b s6, .n true .u64 r6]⟩, ⟨30, 2, 0, true, [.b s7, .n true .u64 r7]⟩, ⟨23, 1, 0, false, []⟩, ⟨30, 2, 0, true, [.b s8, .n true .u64 r8]⟩, ⟨30, 2, 0, true, [.b s9, .n true .u64 r9]⟩, ⟨30, 2, 0, true, [.b s10, .n true .u64 r10]⟩]) rfl ?_
      refine jc_region ?_
      refine jo_l (ly_lda agg30 rfl rfl rfl rfl) (hd 111 rfl) ?_
      refine jo_l (ly_lda agg30 rfl rfl rfl rfl) (hd 112 rfl) ?_
      refine jo_call Try.f50 (WAdd_s s1 s3 r1 r3 (by omega) (by omega) g1.1 g3.1) rfl Try.func50 rfl rfl (ovL_cons rfl (ovL_cons rfl ovL_nil)) (.cons (.a1 .b (.a1 .n .a0)) (.cons (.a1 .b (.a1 .n .a0)) .nil)) (hd 113 rfl) ?_ (fun ch hp => by simp at hp)
      rintro y ⟨s11, r11, e11, hy, h11_⟩
      injection hy with hy
      subst hy
      refine jo_l (ly_mv rfl) (hd 110 rfl) ?_
      refine jo_l (ly_ext rfl rfl) (hd 114 rfl) ?_
      refine jo_l (ly_ext rfl rfl) (hd 115 rfl) ?_
      refine jo_h (hy_alloc (id := 17) zero30 (by decide) rfl (by decide) rfl) (hd 30 rfl) ?_
      refine jo_st (sy_store rfl rfl rfl siz30 rfl rfl (Nat.le_of_ble_eq_true rfl)) ?_
      refine jo_l (ly_as rfl) (hd 31 rfl) ?_
      refine jo_nil ?_
      refine jc_seq ?_
      refine jc_H (H' := [⟨27, 2, 0, true, [.b sa, .n false .u64 a]⟩, ⟨27, 2, 0, true, [.b sb, .n false .u64 b]⟩, ⟨27, 2, 0, true, [.b sc, .n false .u64 c]⟩, ⟨30, 2, 1, true, [.b sa, .n false .u64 a]⟩, ⟨30, 2, 1, true, [.b sb, .n false .u64 b]⟩, ⟨30, 2, 1, true, [.b sc, .n false .u64 c]⟩, ⟨30, 2, 0, true, [.b s1, .n true .u64 r1]⟩, ⟨30, 2, 0, true, [.b s2, .n true .u64 r2]⟩, ⟨30, 2, 0, true, [.b s3, .n true .u64 r3]⟩, ⟨30, 2, 0, true, [.b s4, .n true .u64 r4]⟩, ⟨30, 2, 0, true, [.b s5, .n true .u64 r5]⟩, ⟨30, 2, 0, true, [.b s6, .n true .u64 r6]⟩, ⟨30, 2, 0, true, [.b s7, .n true .u64 r7]⟩, ⟨23, 1, 0, false, []⟩, ⟨30, 2, 0, true, [.b s8, .n true .u64 r8]⟩, ⟨30, 2, 0, true, [.b s9, .n true .u64 r9]⟩, ⟨30, 2, 0, true, [.b s10, .n true .u64 r10]⟩, ⟨30, 2, 0, true, [.b s11, .n true .u64 r11]⟩]) rfl ?_
      refine jc_region ?_
      refine jo_l (ly_lda agg30 rfl rfl rfl rfl) (hd 117 rfl) ?_
      refine jo_l (ly_lda agg30 rfl rfl rfl rfl) (hd 118 rfl) ?_
      refine jo_call Try.f50 (WAdd_s sa s7 a r7 ha (by omega) ua g7.1) rfl Try.func50 rfl rfl (ovL_cons rfl (ovL_cons rfl ovL_nil)) (.cons (.a1 .b (.a1 .n .a0)) (.cons (.a1 .b (.a1 .n .a0)) .nil)) (hd 119 rfl) ?_ (fun ch hp => by simp at hp)
      rintro y ⟨s12, r12, e12, hy, h12_⟩
      injection hy with hy
      subst hy
      refine jo_l (ly_mv rfl) (hd 116 rfl) ?_
      refine jo_l (ly_ext rfl rfl) (hd 120 rfl) ?_
      refine jo_l (ly_ext rfl rfl) (hd 121 rfl) ?_
      refine jo_h (hy_alloc (id := 18) zero30 (by decide) rfl (by decide) rfl) (hd 32 rfl) ?_
      refine jo_st (sy_store rfl rfl rfl siz30 rfl rfl (Nat.le_of_ble_eq_true rfl)) ?_
      refine jo_l (ly_as rfl) (hd 33 rfl) ?_
      refine jo_nil ?_
      refine jc_seq ?_
      refine jc_seq ?_
      refine jc_H (H' := [⟨27, 2, 0, true, [.b sa, .n false .u64 a]⟩, ⟨27, 2, 0, true, [.b sb, .n false .u64 b]⟩, ⟨27, 2, 0, true, [.b sc, .n false .u64 c]⟩, ⟨30, 2, 1, true, [.b sa, .n false .u64 a]⟩, ⟨30, 2, 1, true, [.b sb, .n false .u64 b]⟩, ⟨30, 2, 1, true, [.b sc, .n false .u64 c]⟩, ⟨30, 2, 0, true, [.b s1, .n true .u64 r1]⟩, ⟨30, 2, 0, true, [.b s2, .n true .u64 r2]⟩, ⟨30, 2, 0, true, [.b s3, .n true .u64 r3]⟩, ⟨30, 2, 0, true, [.b s4, .n true .u64 r4]⟩, ⟨30, 2, 0, true, [.b s5, .n true .u64 r5]⟩, ⟨30, 2, 0, true, [.b s6, .n true .u64 r6]⟩, ⟨30, 2, 0, true, [.b s7, .n true .u64 r7]⟩, ⟨23, 1, 0, false, []⟩, ⟨30, 2, 0, true, [.b s8, .n true .u64 r8]⟩, ⟨30, 2, 0, true, [.b s9, .n true .u64 r9]⟩, ⟨30, 2, 0, true, [.b s10, .n true .u64 r10]⟩, ⟨30, 2, 0, true, [.b s11, .n true .u64 r11]⟩, ⟨30, 2, 0, true, [.b s12, .n true .u64 r12]⟩]) rfl ?_
      refine jc_region ?_
      refine jo_l (ly_mv rfl) (hd 122 rfl) ?_
      refine jo_l (ly_mv rfl) (hd 123 rfl) ?_
      refine jo_l (ly_mv rfl) (hd 124 rfl) ?_
      refine jo_l (ly_mv rfl) (hd 125 rfl) ?_
      refine jo_l (ly_mv rfl) (hd 126 rfl) ?_
      refine jo_h (hy_lit (id := 19) (xs := [.tmp 122, .tmp 123, .tmp 124, .tmp 125, .tmp 126]) el83 rfl (ovL_cons rfl (ovL_cons rfl (ovL_cons rfl (ovL_cons rfl (ovL_cons rfl ovL_nil))))) rfl (all2_of rfl) (by decide) rfl) (hd 127 rfl) ?_
      refine jo_frz (k := .i64) (l := [e8, e9, e10, e11, e12]) (l' := [e8, e9, e10, e11, e12]) 127 rfl rfl (Nat.le_refl _) rfl hL ?_
      refine jo_call Try.f30 (all_s [e8, e9, e10, e11, e12] (by simp)) rfl Try.func30 rfl rfl (ovL_cons rfl ovL_nil) (.cons .n .nil) (hd 128 rfl) ?_ (fun ch hp => by simp at hp)
      rintro y hy; injection hy with hy; subst hy
      refine jo_l (ly_not rfl) (hd 129 rfl) ?_
      refine jo_nil ?_
      refine jc_ifn rfl (fun h2 => ?_) (fun h2 => ?_)
      · refine jc_seq ?_
        refine jc_H (H' := [⟨27, 2, 0, true, [.b sa, .n false .u64 a]⟩, ⟨27, 2, 0, true, [.b sb, .n false .u64 b]⟩, ⟨27, 2, 0, true, [.b sc, .n false .u64 c]⟩, ⟨30, 2, 1, true, [.b sa, .n false .u64 a]⟩, ⟨30, 2, 1, true, [.b sb, .n false .u64 b]⟩, ⟨30, 2, 1, true, [.b sc, .n false .u64 c]⟩, ⟨30, 2, 0, true, [.b s1, .n true .u64 r1]⟩, ⟨30, 2, 0, true, [.b s2, .n true .u64 r2]⟩, ⟨30, 2, 0, true, [.b s3, .n true .u64 r3]⟩, ⟨30, 2, 0, true, [.b s4, .n true .u64 r4]⟩, ⟨30, 2, 0, true, [.b s5, .n true .u64 r5]⟩, ⟨30, 2, 0, true, [.b s6, .n true .u64 r6]⟩, ⟨30, 2, 0, true, [.b s7, .n true .u64 r7]⟩, ⟨23, 1, 0, false, []⟩, ⟨30, 2, 0, true, [.b s8, .n true .u64 r8]⟩, ⟨30, 2, 0, true, [.b s9, .n true .u64 r9]⟩, ⟨30, 2, 0, true, [.b s10, .n true .u64 r10]⟩, ⟨30, 2, 0, true, [.b s11, .n true .u64 r11]⟩, ⟨30, 2, 0, true, [.b s12, .n true .u64 r12]⟩, ⟨23, 1, 0, false, []⟩]) rfl ?_
        refine jc_region ?_
        refine jo_l (ly_lda agg30 rfl rfl rfl rfl) (hd 130 rfl) ?_
        refine jo_l (ly_lda agg30 rfl rfl rfl rfl) (hd 131 rfl) ?_
        refine jo_call Try.f54 (z12) rfl Try.func54 rfl rfl (ovL_cons rfl (ovL_cons rfl ovL_nil)) (.cons (.a1 .b (.a1 .n .a0)) (.cons (.a1 .b (.a1 .n .a0)) .nil)) (hd 132 rfl) ?_ (fun ch hp => by simp at hp)
        rintro y hy; injection hy with hy; subst hy
        refine jo_l (ly_mv rfl) (hd 133 rfl) ?_
        refine jo_callg Try.f10 133 rfl rfl (awake_s) rfl Try.func10 rfl rfl ovL_nil .nil (hd 134 rfl) ?_ (fun ch hp => by simp at hp)
        rintro y hy; injection hy with hy; subst hy
        refine jo_l (ly_pick_t rfl rfl) (hd 135 rfl) ?_
        refine jo_l (ly_as rfl) (hd 6 rfl) ?_
        refine jo_nil ?_
        refine jc_ret ?_
        refine ⟨_, _, (.cons rfl .nil), .b, ?_⟩
        exact rfl
      · have hall2 : ∀ e ∈ [e8, e9, e10, e11, e12], e = 0 := by simpa using h2
        obtain ⟨g8, w8⟩ := h8_ (hall2 e8 (by simp))
        have q8 := g8.2
        obtain ⟨g9, w9⟩ := h9_ (hall2 e9 (by simp))
        have q9 := g9.2
        obtain ⟨g10, w10⟩ := h10_ (hall2 e10 (by simp))
        have q10 := g10.2
        obtain ⟨g11, w11⟩ := h11_ (hall2 e11 (by simp))
        have q11 := g11.2
        obtain ⟨g12, w12⟩ := h12_ (hall2 e12 (by simp))
        have q12 := g12.2
        have z89 : Spec Try.prog 54 [.a [.b s8, .n false .u64 r8], .a [.b s9, .n false .u64 r9]] (fun o => o = .ret (.b true)) := by
          have h := same_s s8 s9 r8 r9 (by omega) (by omega) g8.1 g9.1
          rwa [decide_eq_true (cmpI_0.2 (by rw [w8, w9, w1, w4, Int.mul_assoc]))] at h
        have z1011 : Spec Try.prog 54 [.a [.b s10, .n false .u64 r10], .a [.b s11, .n false .u64 r11]] (fun o => o = .ret (.b true)) := by
          have h := same_s s10 s11 r10 r11 (by omega) (by omega) g10.1 g11.1
          rwa [decide_eq_true (cmpI_0.2 (by rw [w10, w11, w5, w1, w3, Int.mul_add]))] at h
        have z0 : Spec Try.prog 28 [.a [.b s12, .n false .u64 r12]] (fun o => o = .ret (.b true)) := by
          have h := zero_s s12 r12 (by omega) g12.1
          rwa [decide_eq_true (sgnI_0.2 (by rw [w12, w7]; omega))] at h
        have hcs := cmp_sub (x := sv sa a) (y := sv sb b)
        rw [← w6] at hcs
        refine jc_skip ?_
        refine jc_seq ?_
        refine jc_H (H' := [⟨27, 2, 0, true, [.b sa, .n false .u64 a]⟩, ⟨27, 2, 0, true, [.b sb, .n false .u64 b]⟩, ⟨27, 2, 0, true, [.b sc, .n false .u64 c]⟩, ⟨30, 2, 1, true, [.b sa, .n false .u64 a]⟩, ⟨30, 2, 1, true, [.b sb, .n false .u64 b]⟩, ⟨30, 2, 1, true, [.b sc, .n false .u64 c]⟩, ⟨30, 2, 0, true, [.b s1, .n true .u64 r1]⟩, ⟨30, 2, 0, true, [.b s2, .n true .u64 r2]⟩, ⟨30, 2, 0, true, [.b s3, .n true .u64 r3]⟩, ⟨30, 2, 0, true, [.b s4, .n true .u64 r4]⟩, ⟨30, 2, 0, true, [.b s5, .n true .u64 r5]⟩, ⟨30, 2, 0, true, [.b s6, .n true .u64 r6]⟩, ⟨30, 2, 0, true, [.b s7, .n true .u64 r7]⟩, ⟨23, 1, 0, false, []⟩, ⟨30, 2, 0, true, [.b s8, .n true .u64 r8]⟩, ⟨30, 2, 0, true, [.b s9, .n true .u64 r9]⟩, ⟨30, 2, 0, true, [.b s10, .n true .u64 r10]⟩, ⟨30, 2, 0, true, [.b s11, .n true .u64 r11]⟩, ⟨30, 2, 0, true, [.b s12, .n true .u64 r12]⟩, ⟨23, 1, 0, false, []⟩]) rfl ?_
        refine jc_draw (n := 38) _ rfl mixed ?_
        refine ja_l2 0 [2, 3, 4, 5, 6, 7, 8, 9, 10, 11, 12, 13, 14, 15, 16, 17, 18, 19, 20, 21, 22, 23, 24, 25, 26, 27, 28, 29, 30, 31, 32, 33, 34, 35, 36, 37] (lo_l (ly_lda agg30 rfl rfl rfl rfl) (hd 136 rfl)) rfl (by kernel_rfl) (by kernel_rfl) (by kernel_rfl) (by kernel_rfl) (fun _ _ _ _ h => h) ?_
        refine ja_l2 1 [2, 3, 4, 5, 6, 7, 8, 9, 10, 11, 12, 13, 14, 15, 16, 17, 18, 19, 20, 21, 22, 23, 24, 25, 26, 27, 28, 29, 30, 31, 32, 33, 34, 35, 36, 37] (lo_l (ly_lda agg30 rfl rfl rfl rfl) (hd 137 rfl)) rfl (by kernel_rfl) (by kernel_rfl) (by kernel_rfl) (by kernel_rfl) (fun _ _ _ _ h => h) ?_
        refine ja_1 2 ?_ rfl (by kernel_rfl)
        refine js_call Try.f54 (z12) rfl Try.func54 rfl rfl (ovL_cons rfl (ovL_cons rfl ovL_nil)) (.cons (.a1 .b (.a1 .n .a0)) (.cons (.a1 .b (.a1 .n .a0)) .nil)) (hd 138 rfl) ?_ (fun ch hp => by simp at hp)
        rintro y hy; injection hy with hy; subst hy
        refine ja_l2 3 [4, 5, 6, 7, 8, 9, 10, 11, 12, 13, 14, 15, 16, 17, 18, 19, 20, 21, 22, 23, 24, 25, 26, 27, 28, 29, 30, 31, 32, 33, 34, 35, 36, 37] (lo_l (ly_mv rfl) (hd 139 rfl)) rfl (by kernel_rfl) (by kernel_rfl) (by kernel_rfl) (by kernel_rfl) (fun _ _ _ _ h => h) ?_
        refine ja_l2 4 [6, 7, 8, 9, 10, 11, 12, 13, 14, 15, 16, 17, 18, 19, 20, 21, 22, 23, 24, 25, 26, 27, 28, 29, 30, 31, 32, 33, 34, 35, 36, 37] (lo_g 139 rfl rfl (ly_lda agg30 rfl rfl rfl rfl) (hd 140 rfl)) rfl (by kernel_rfl) (by kernel_rfl) (by kernel_rfl) (by kernel_rfl) (fun _ _ _ _ h => h) ?_
        refine ja_l2 5 [6, 7, 8, 9, 10, 11, 12, 13, 14, 15, 16, 17, 18, 19, 20, 21, 22, 23, 24, 25, 26, 27, 28, 29, 30, 31, 32, 33, 34, 35, 36, 37] (lo_g 139 rfl rfl (ly_lda agg30 rfl rfl rfl rfl) (hd 141 rfl)) rfl (by kernel_rfl) (by kernel_rfl) (by kernel_rfl) (by kernel_rfl) (fun _ _ _ _ h => h) ?_
        refine ja_1 6 ?_ rfl (by kernel_rfl)
        refine js_callg Try.f54 139 rfl rfl (z89) rfl Try.func54 rfl rfl (ovL_cons rfl (ovL_cons rfl ovL_nil)) (.cons (.a1 .b (.a1 .n .a0)) (.cons (.a1 .b (.a1 .n .a0)) .nil)) (hd 142 rfl) ?_ (fun ch hp => by simp at hp)
        rintro y hy; injection hy with hy; subst hy
        refine ja_l2 7 [8, 9, 10, 11, 12, 13, 14, 15, 16, 17, 18, 19, 20, 21, 22, 23, 24, 25, 26, 27, 28, 29, 30, 31, 32, 33, 34, 35, 36, 37] (lo_l (ly_pick_t rfl rfl) (hd 143 rfl)) rfl (by kernel_rfl) (by kernel_rfl) (by kernel_rfl) (by kernel_rfl) (fun _ _ _ _ h => h) ?_
        refine ja_l2 8 [9, 10, 11, 12, 13, 14, 15, 16, 17, 18, 19, 20, 21, 22, 23, 24, 25, 26, 27, 28, 29, 30, 31, 32, 33, 34, 35, 36, 37] (lo_l (ly_mv rfl) (hd 144 rfl)) rfl (by kernel_rfl) (by kernel_rfl) (by kernel_rfl) (by kernel_rfl) (fun _ _ _ _ h => h) ?_
        refine ja_l2 9 [11, 12, 13, 14, 15, 16, 17, 18, 19, 20, 21, 22, 23, 24, 25, 26, 27, 28, 29, 30, 31, 32, 33, 34, 35, 36, 37] (lo_g 144 rfl rfl (ly_lda agg30 rfl rfl rfl rfl) (hd 145 rfl)) rfl (by kernel_rfl) (by kernel_rfl) (by kernel_rfl) (by kernel_rfl) (fun _ _ _ _ h => h) ?_
        refine ja_l2 10 [11, 12, 13, 14, 15, 16, 17, 18, 19, 20, 21, 22, 23, 24, 25, 26, 27, 28, 29, 30, 31, 32, 33, 34, 35, 36, 37] (lo_g 144 rfl rfl (ly_lda agg30 rfl rfl rfl rfl) (hd 146 rfl)) rfl (by kernel_rfl) (by kernel_rfl) (by kernel_rfl) (by kernel_rfl) (fun _ _ _ _ h => h) ?_
        refine ja_1 11 ?_ rfl (by kernel_rfl)
        refine js_callg Try.f54 144 rfl rfl (z1011) rfl Try.func54 rfl rfl (ovL_cons rfl (ovL_cons rfl ovL_nil)) (.cons (.a1 .b (.a1 .n .a0)) (.cons (.a1 .b (.a1 .n .a0)) .nil)) (hd 147 rfl) ?_ (fun ch hp => by simp at hp)
        rintro y hy; injection hy with hy; subst hy
        refine ja_l2 12 [13, 14, 15, 16, 17, 18, 19, 20, 21, 22, 23, 24, 25, 26, 27, 28, 29, 30, 31, 32, 33, 34, 35, 36, 37] (lo_l (ly_pick_t rfl rfl) (hd 148 rfl)) rfl (by kernel_rfl) (by kernel_rfl) (by kernel_rfl) (by kernel_rfl) (fun _ _ _ _ h => h) ?_
        refine ja_l2 13 [14, 15, 16, 17, 18, 19, 20, 21, 22, 23, 24, 25, 26, 27, 28, 29, 30, 31, 32, 33, 34, 35, 36, 37] (lo_l (ly_mv rfl) (hd 149 rfl)) rfl (by kernel_rfl) (by kernel_rfl) (by kernel_rfl) (by kernel_rfl) (fun _ _ _ _ h => h) ?_
        refine ja_l2 14 [15, 16, 17, 18, 19, 20, 21, 22, 23, 24, 25, 26, 27, 28, 29, 30, 31, 32, 33, 34, 35, 36, 37] (lo_g 149 rfl rfl (ly_lda agg30 rfl rfl rfl rfl) (hd 150 rfl)) rfl (by kernel_rfl) (by kernel_rfl) (by kernel_rfl) (by kernel_rfl) (fun _ _ _ _ h => h) ?_
        refine ja_1 15 ?_ rfl (by kernel_rfl)
        refine js_callg Try.f28 149 rfl rfl (z0) rfl Try.func28 rfl rfl (ovL_cons rfl ovL_nil) (.cons (.a1 .b (.a1 .n .a0)) .nil) (hd 151 rfl) ?_ (fun ch hp => by simp at hp)
        rintro y hy; injection hy with hy; subst hy
        refine ja_l2 16 [17, 18, 19, 20, 21, 22, 23, 24, 25, 26, 27, 28, 29, 30, 31, 32, 33, 34, 35, 36, 37] (lo_l (ly_pick_t rfl rfl) (hd 152 rfl)) rfl (by kernel_rfl) (by kernel_rfl) (by kernel_rfl) (by kernel_rfl) (fun _ _ _ _ h => h) ?_
        refine ja_l2 17 [18, 19, 20, 21, 22, 23, 24, 25, 26, 27, 28, 29, 30, 31, 32, 33, 34, 35, 36, 37] (lo_l (ly_mv rfl) (hd 153 rfl)) rfl (by kernel_rfl) (by kernel_rfl) (by kernel_rfl) (by kernel_rfl) (fun _ _ _ _ h => h) ?_
        refine ja_l2 18 [20, 22, 23, 24, 25, 26, 27, 28, 29, 30, 31, 32, 33, 34, 35, 36, 37] (lo_g 153 rfl rfl (ly_lda agg30 rfl rfl rfl rfl) (hd 154 rfl)) rfl (by kernel_rfl) (by kernel_rfl) (by kernel_rfl) (by kernel_rfl) (fun _ _ _ _ h => h) ?_
        refine ja_l2 19 [20, 22, 23, 24, 25, 26, 27, 28, 29, 30, 31, 32, 33, 34, 35, 36, 37] (lo_g 153 rfl rfl (ly_lda agg30 rfl rfl rfl rfl) (hd 155 rfl)) rfl (by kernel_rfl) (by kernel_rfl) (by kernel_rfl) (by kernel_rfl) (fun _ _ _ _ h => h) ?_
        refine ja_l2 21 [22, 23, 24, 25, 26, 27, 28, 29, 30, 31, 32, 33, 34, 35, 36, 37] (lo_g 153 rfl rfl (ly_lda agg30 rfl rfl rfl rfl) (hd 157 rfl)) rfl (by kernel_rfl) (by kernel_rfl) (by kernel_rfl) (by kernel_rfl) (fun _ _ _ _ h => h) ?_
        refine ja_1 20 ?_ rfl (by kernel_rfl)
        refine js_callg Try.f49 153 rfl rfl (WCmp_s sa sb a b ha hb ua ub) rfl Try.func49 rfl rfl (ovL_cons rfl (ovL_cons rfl ovL_nil)) (.cons (.a1 .b (.a1 .n .a0)) (.cons (.a1 .b (.a1 .n .a0)) .nil)) (hd 156 rfl) ?_ (fun ch hp => by simp at hp)
        rintro y hy; injection hy with hy; subst hy
        refine ja_1 22 ?_ rfl (by kernel_rfl)
        refine js_callg Try.f36 153 rfl rfl (WSign_s s6 r6 (by omega) g6.1) rfl Try.func36 rfl rfl (ovL_cons rfl ovL_nil) (.cons (.a1 .b (.a1 .n .a0)) .nil) (hd 158 rfl) ?_ (fun ch hp => by simp at hp)
        rintro y hy; injection hy with hy; subst hy
        refine ja_l2 23 [24, 25, 26, 27, 28, 29, 30, 31, 32, 33, 34, 35, 36, 37] (lo_g 153 rfl rfl (ly_tt (ly_eq rfl rfl) hcs.1) (hd 159 rfl)) rfl (by kernel_rfl) (by kernel_rfl) (by kernel_rfl) (by kernel_rfl) (fun _ _ _ _ h => h) ?_
        refine ja_l2 24 [25, 26, 27, 28, 29, 30, 31, 32, 33, 34, 35, 36, 37] (lo_l (ly_pick_t rfl rfl) (hd 160 rfl)) rfl (by kernel_rfl) (by kernel_rfl) (by kernel_rfl) (by kernel_rfl) (fun _ _ _ _ h => h) ?_
        refine ja_l2 25 [26, 27, 28, 29, 30, 31, 32, 33, 34, 35, 36, 37] (lo_l (ly_mv rfl) (hd 161 rfl)) rfl (by kernel_rfl) (by kernel_rfl) (by kernel_rfl) (by kernel_rfl) (fun _ _ _ _ h => h) ?_
        refine ja_l2 26 [28, 30, 31, 32, 33, 34, 35, 36, 37] (lo_g 161 rfl rfl (ly_lda agg30 rfl rfl rfl rfl) (hd 162 rfl)) rfl (by kernel_rfl) (by kernel_rfl) (by kernel_rfl) (by kernel_rfl) (fun _ _ _ _ h => h) ?_
        refine ja_l2 27 [28, 30, 31, 32, 33, 34, 35, 36, 37] (lo_g 161 rfl rfl (ly_lda agg30 rfl rfl rfl rfl) (hd 163 rfl)) rfl (by kernel_rfl) (by kernel_rfl) (by kernel_rfl) (by kernel_rfl) (fun _ _ _ _ h => h) ?_
        refine ja_l2 29 [30, 31, 32, 33, 34, 35, 36, 37] (lo_g 161 rfl rfl (ly_lda agg30 rfl rfl rfl rfl) (hd 165 rfl)) rfl (by kernel_rfl) (by kernel_rfl) (by kernel_rfl) (by kernel_rfl) (fun _ _ _ _ h => h) ?_
        refine ja_1 28 ?_ rfl (by kernel_rfl)
        refine js_callg Try.f49 161 rfl rfl (WCmp_s sb sa b a hb ha ub ua) rfl Try.func49 rfl rfl (ovL_cons rfl (ovL_cons rfl ovL_nil)) (.cons (.a1 .b (.a1 .n .a0)) (.cons (.a1 .b (.a1 .n .a0)) .nil)) (hd 164 rfl) ?_ (fun ch hp => by simp at hp)
        rintro y hy; injection hy with hy; subst hy
        refine ja_1 30 ?_ rfl (by kernel_rfl)
        refine js_callg Try.f36 161 rfl rfl (WSign_s s6 r6 (by omega) g6.1) rfl Try.func36 rfl rfl (ovL_cons rfl ovL_nil) (.cons (.a1 .b (.a1 .n .a0)) .nil) (hd 166 rfl) ?_ (fun ch hp => by simp at hp)
        rintro y hy; injection hy with hy; subst hy
        refine ja_l2 31 [32, 33, 34, 35, 36, 37] (lo_g 161 rfl rfl (ly_neg rfl (r := -(sgnI (sv s6 r6))) (by have := sgn_range (sv s6 r6); rw [wrap_i64 (by omega) (by omega)]; omega)) (hd 167 rfl)) rfl (by kernel_rfl) (by kernel_rfl) (by kernel_rfl) (by kernel_rfl) (fun _ _ _ _ h => h) ?_
        refine ja_l2 32 [33, 34, 35, 36, 37] (lo_g 161 rfl rfl (ly_tt (ly_eq rfl rfl) hcs.2) (hd 168 rfl)) rfl (by kernel_rfl) (by kernel_rfl) (by kernel_rfl) (by kernel_rfl) (fun _ _ _ _ h => h) ?_
        refine ja_l2 33 [34, 35, 36, 37] (lo_l (ly_pick_t rfl rfl) (hd 169 rfl)) rfl (by kernel_rfl) (by kernel_rfl) (by kernel_rfl) (by kernel_rfl) (fun _ _ _ _ h => h) ?_
        refine ja_l 34 (lo_l (ly_mv rfl) (hd 170 rfl)) rfl (by kernel_rfl) (by kernel_rfl) (by kernel_rfl) (fun _ _ _ _ h => h) ?_
        refine ja_1 35 ?_ rfl (by kernel_rfl)
        refine js_callg Try.f10 170 rfl rfl (awake_s) rfl Try.func10 rfl rfl ovL_nil .nil (hd 171 rfl) ?_ (fun ch hp => by simp at hp)
        rintro y hy; injection hy with hy; subst hy
        refine ja_l 36 (lo_l (ly_pick_t rfl rfl) (hd 172 rfl)) rfl (by kernel_rfl) (by kernel_rfl) (by kernel_rfl) (fun _ _ _ _ h => h) ?_
        refine ja_l 37 (lo_l (ly_as rfl) (hd 6 rfl)) rfl (by kernel_rfl) (by kernel_rfl) (by kernel_rfl) (fun _ _ _ _ h => h) ?_
        refine ja_nil (by kernel_rfl) ?_
        refine jc_ret ?_
        refine ⟨_, _, (.cons rfl .nil), .b, ?_⟩
        exact rfl
  have S1_111111111110 : JA Try.prog ops1 1 #[true, true, true, true, true, true, true, true, true, true, true, false] Γ ([(7, .p 3 1 0), (8, .p 4 1 0), (9, .p 5 1 0), (34, .a [.b sa, .n false .u64 a]), (35, .a [.b sa, .n false .u64 a]), (36, .a [.b sb, .n false .u64 b]), (37, .a [.b sb, .n false .u64 b]), (38, .a [.b sc, .n false .u64 c]), (39, .a [.b sc, .n false .u64 c])] ++ F0) [⟨27, 2, 0, true, [.b sa, .n false .u64 a]⟩, ⟨27, 2, 0, true, [.b sb, .n false .u64 b]⟩, ⟨27, 2, 0, true, [.b sc, .n false .u64 c]⟩, ⟨30, 2, 1, true, [.b sa, .n false .u64 a]⟩, ⟨30, 2, 1, true, [.b sb, .n false .u64 b]⟩, ⟨30, 2, 1, true, [.b false, .c (.slice none 0 0)]⟩] Q1 := by
    subst ho; subst hF
    refine ja_1 11 ?_ rfl (by kernel_rfl)
    refine js_st (sy_store rfl rfl rfl siz30 rfl rfl (Nat.le_of_ble_eq_true rfl)) rfl ?_
    refine ja_to (m := [(7, .p 3 1 0), (8, .p 4 1 0), (9, .p 5 1 0), (34, .a [.b sa, .n false .u64 a]), (35, .a [.b sa, .n false .u64 a]), (36, .a [.b sb, .n false .u64 b]), (37, .a [.b sb, .n false .u64 b]), (38, .a [.b sc, .n false .u64 c]), (39, .a [.b sc, .n false .u64 c])]) (by decide) rfl (cov_n 9 rfl rfl (.cons rfl (.cons rfl (.cons rfl (.cons rfl (.cons rfl (.cons rfl (.cons rfl (.cons rfl (.cons rfl .nil)))))))))) S1_111111111111
  have S1_111111111100 : JA Try.prog ops1 2 #[true, true, true, true, true, true, true, true, true, true, false, false] Γ ([(7, .p 3 1 0), (8, .p 4 1 0), (9, .p 5 1 0), (34, .a [.b sa, .n false .u64 a]), (35, .a [.b sa, .n false .u64 a]), (36, .a [.b sb, .n false .u64 b]), (37, .a [.b sb, .n false .u64 b]), (38, .a [.b sc, .n false .u64 c]), (39, .a [.b sc, .n false .u64 c])] ++ F0) [⟨27, 2, 0, true, [.b sa, .n false .u64 a]⟩, ⟨27, 2, 0, true, [.b sb, .n false .u64 b]⟩, ⟨27, 2, 0, true, [.b sc, .n false .u64 c]⟩, ⟨30, 2, 1, true, [.b sa, .n false .u64 a]⟩, ⟨30, 2, 1, true, [.b false, .c (.slice none 0 0)]⟩, ⟨30, 2, 1, true, [.b false, .c (.slice none 0 0)]⟩] Q1 := by
    subst ho; subst hF
    refine ja_1 10 ?_ rfl (by kernel_rfl)
    refine js_st (sy_store rfl rfl rfl siz30 rfl rfl (Nat.le_of_ble_eq_true rfl)) rfl ?_
    refine ja_to (m := [(7, .p 3 1 0), (8, .p 4 1 0), (9, .p 5 1 0), (34, .a [.b sa, .n false .u64 a]), (35, .a [.b sa, .n false .u64 a]), (36, .a [.b sb, .n false .u64 b]), (37, .a [.b sb, .n false .u64 b]), (38, .a [.b sc, .n false .u64 c]), (39, .a [.b sc, .n false .u64 c])]) (by decide) rfl (cov_n 9 rfl rfl (.cons rfl (.cons rfl (.cons rfl (.cons rfl (.cons rfl (.cons rfl (.cons rfl (.cons rfl (.cons rfl .nil)))))))))) S1_111111111110
  have S1_111111111000 : JA Try.prog ops1 3 #[true, true, true, true, true, true, true, true, true, false, false, false] Γ ([(7, .p 3 1 0), (8, .p 4 1 0), (9, .p 5 1 0), (34, .a [.b sa, .n false .u64 a]), (35, .a [.b sa, .n false .u64 a]), (36, .a [.b sb, .n false .u64 b]), (37, .a [.b sb, .n false .u64 b]), (38, .a [.b sc, .n false .u64 c]), (39, .a [.b sc, .n false .u64 c])] ++ F0) [⟨27, 2, 0, true, [.b sa, .n false .u64 a]⟩, ⟨27, 2, 0, true, [.b sb, .n false .u64 b]⟩, ⟨27, 2, 0, true, [.b sc, .n false .u64 c]⟩, ⟨30, 2, 1, true, [.b false, .c (.slice none 0 0)]⟩, ⟨30, 2, 1, true, [.b false, .c (.slice none 0 0)]⟩, ⟨30, 2, 1, true, [.b false, .c (.slice none 0 0)]⟩] Q1 := by
    subst ho; subst hF
    refine ja_1 9 ?_ rfl (by kernel_rfl)
    refine js_st (sy_store rfl rfl rfl siz30 rfl rfl (Nat.le_of_ble_eq_true rfl)) rfl ?_
    refine ja_to (m := [(7, .p 3 1 0), (8, .p 4 1 0), (9, .p 5 1 0), (34, .a [.b sa, .n false .u64 a]), (35, .a [.b sa, .n false .u64 a]), (36, .a [.b sb, .n false .u64 b]), (37, .a [.b sb, .n false .u64 b]), (38, .a [.b sc, .n false .u64 c]), (39, .a [.b sc, .n false .u64 c])]) (by decide) rfl (cov_n 9 rfl rfl (.cons rfl (.cons rfl (.cons rfl (.cons rfl (.cons rfl (.cons rfl (.cons rfl (.cons rfl (.cons rfl .nil)))))))))) S1_111111111100
  have S1_111111110000 : JA Try.prog ops1 4 #[true, true, true, true, true, true, true, true, false, false, false, false] Γ ([(7, .p 3 1 0), (8, .p 4 1 0), (34, .a [.b sa, .n false .u64 a]), (35, .a [.b sa, .n false .u64 a]), (36, .a [.b sb, .n false .u64 b]), (37, .a [.b sb, .n false .u64 b]), (38, .a [.b sc, .n false .u64 c]), (39, .a [.b sc, .n false .u64 c])] ++ F0) [⟨27, 2, 0, true, [.b sa, .n false .u64 a]⟩, ⟨27, 2, 0, true, [.b sb, .n false .u64 b]⟩, ⟨27, 2, 0, true, [.b sc, .n false .u64 c]⟩, ⟨30, 2, 1, true, [.b false, .c (.slice none 0 0)]⟩, ⟨30, 2, 1, true, [.b false, .c (.slice none 0 0)]⟩, ⟨0, 1, 0, true, []⟩] Q1 := by
    subst ho; subst hF
    refine ja_1 8 ?_ rfl (by kernel_rfl)
    refine js_h (hy_allocAt (id := 5) zero30 (by decide) rfl (by decide) rfl) (hd 9 rfl) ?_
    refine ja_to (m := [(7, .p 3 1 0), (8, .p 4 1 0), (9, .p 5 1 0), (34, .a [.b sa, .n false .u64 a]), (35, .a [.b sa, .n false .u64 a]), (36, .a [.b sb, .n false .u64 b]), (37, .a [.b sb, .n false .u64 b]), (38, .a [.b sc, .n false .u64 c]), (39, .a [.b sc, .n false .u64 c])]) (by decide) rfl (cov_n 9 rfl rfl (.cons rfl (.cons rfl (.cons rfl (.cons rfl (.cons rfl (.cons rfl (.cons rfl (.cons rfl (.cons rfl .nil)))))))))) S1_111111111000
  have S1_111111101000 : JA Try.prog ops1 4 #[true, true, true, true, true, true, true, false, true, false, false, false] Γ ([(7, .p 3 1 0), (9, .p 5 1 0), (34, .a [.b sa, .n false .u64 a]), (35, .a [.b sa, .n false .u64 a]), (36, .a [.b sb, .n false .u64 b]), (37, .a [.b sb, .n false .u64 b]), (38, .a [.b sc, .n false .u64 c]), (39, .a [.b sc, .n false .u64 c])] ++ F0) [⟨27, 2, 0, true, [.b sa, .n false .u64 a]⟩, ⟨27, 2, 0, true, [.b sb, .n false .u64 b]⟩, ⟨27, 2, 0, true, [.b sc, .n false .u64 c]⟩, ⟨30, 2, 1, true, [.b false, .c (.slice none 0 0)]⟩, ⟨0, 1, 0, true, []⟩, ⟨30, 2, 1, true, [.b false, .c (.slice none 0 0)]⟩] Q1 := by
    subst ho; subst hF
    refine ja_1 7 ?_ rfl (by kernel_rfl)
    refine js_h (hy_allocAt (id := 4) zero30 (by decide) rfl (by decide) rfl) (hd 8 rfl) ?_
    refine ja_to (m := [(7, .p 3 1 0), (8, .p 4 1 0), (9, .p 5 1 0), (34, .a [.b sa, .n false .u64 a]), (35, .a [.b sa, .n false .u64 a]), (36, .a [.b sb, .n false .u64 b]), (37, .a [.b sb, .n false .u64 b]), (38, .a [.b sc, .n false .u64 c]), (39, .a [.b sc, .n false .u64 c])]) (by decide) rfl (cov_n 9 rfl rfl (.cons rfl (.cons rfl (.cons rfl (.cons rfl (.cons rfl (.cons rfl (.cons rfl (.cons rfl (.cons rfl .nil)))))))))) S1_111111111000
  have S1_111111100000 : JA Try.prog ops1 5 #[true, true, true, true, true, true, true, false, false, false, false, false] Γ ([(7, .p 3 1 0), (34, .a [.b sa, .n false .u64 a]), (35, .a [.b sa, .n false .u64 a]), (36, .a [.b sb, .n false .u64 b]), (37, .a [.b sb, .n false .u64 b]), (38, .a [.b sc, .n false .u64 c]), (39, .a [.b sc, .n false .u64 c])] ++ F0) [⟨27, 2, 0, true, [.b sa, .n false .u64 a]⟩, ⟨27, 2, 0, true, [.b sb, .n false .u64 b]⟩, ⟨27, 2, 0, true, [.b sc, .n false .u64 c]⟩, ⟨30, 2, 1, true, [.b false, .c (.slice none 0 0)]⟩, ⟨0, 1, 0, true, []⟩, ⟨0, 1, 0, true, []⟩] Q1 := by
    subst ho; subst hF
    refine ja_2 7 8 ?_ ?_ rfl rfl (by kernel_rfl)
    · refine js_h (hy_allocAt (id := 4) zero30 (by decide) rfl (by decide) rfl) (hd 8 rfl) ?_
      refine ja_to (m := [(7, .p 3 1 0), (8, .p 4 1 0), (34, .a [.b sa, .n false .u64 a]), (35, .a [.b sa, .n false .u64 a]), (36, .a [.b sb, .n false .u64 b]), (37, .a [.b sb, .n false .u64 b]), (38, .a [.b sc, .n false .u64 c]), (39, .a [.b sc, .n false .u64 c])]) (by decide) rfl (cov_n 8 rfl rfl (.cons rfl (.cons rfl (.cons rfl (.cons rfl (.cons rfl (.cons rfl (.cons rfl (.cons rfl .nil))))))))) S1_111111110000
    · refine js_h (hy_allocAt (id := 5) zero30 (by decide) rfl (by decide) rfl) (hd 9 rfl) ?_
      refine ja_to (m := [(7, .p 3 1 0), (9, .p 5 1 0), (34, .a [.b sa, .n false .u64 a]), (35, .a [.b sa, .n false .u64 a]), (36, .a [.b sb, .n false .u64 b]), (37, .a [.b sb, .n false .u64 b]), (38, .a [.b sc, .n false .u64 c]), (39, .a [.b sc, .n false .u64 c])]) (by decide) rfl (cov_n 8 rfl rfl (.cons rfl (.cons rfl (.cons rfl (.cons rfl (.cons rfl (.cons rfl (.cons rfl (.cons rfl .nil))))))))) S1_111111101000
  have S1_111111011000 : JA Try.prog ops1 4 #[true, true, true, true, true, true, false, true, true, false, false, false] Γ ([(8, .p 4 1 0), (9, .p 5 1 0), (34, .a [.b sa, .n false .u64 a]), (35, .a [.b sa, .n false .u64 a]), (36, .a [.b sb, .n false .u64 b]), (37, .a [.b sb, .n false .u64 b]), (38, .a [.b sc, .n false .u64 c]), (39, .a [.b sc, .n false .u64 c])] ++ F0) [⟨27, 2, 0, true, [.b sa, .n false .u64 a]⟩, ⟨27, 2, 0, true, [.b sb, .n false .u64 b]⟩, ⟨27, 2, 0, true, [.b sc, .n false .u64 c]⟩, ⟨0, 1, 0, true, []⟩, ⟨30, 2, 1, true, [.b false, .c (.slice none 0 0)]⟩, ⟨30, 2, 1, true, [.b false, .c (.slice none 0 0)]⟩] Q1 := by
    subst ho; subst hF
    refine ja_1 6 ?_ rfl (by kernel_rfl)
    refine js_h (hy_allocAt (id := 3) zero30 (by decide) rfl (by decide) rfl) (hd 7 rfl) ?_
    refine ja_to (m := [(7, .p 3 1 0), (8, .p 4 1 0), (9, .p 5 1 0), (34, .a [.b sa, .n false .u64 a]), (35, .a [.b sa, .n false .u64 a]), (36, .a [.b sb, .n false .u64 b]), (37, .a [.b sb, .n false .u64 b]), (38, .a [.b sc, .n false .u64 c]), (39, .a [.b sc, .n false .u64 c])]) (by decide) rfl (cov_n 9 rfl rfl (.cons rfl (.cons rfl (.cons rfl (.cons rfl (.cons rfl (.cons rfl (.cons rfl (.cons rfl (.cons rfl .nil)))))))))) S1_111111111000
  have S1_111111010000 : JA Try.prog ops1 5 #[true, true, true, true, true, true, false, true, false, false, false, false] Γ ([(8, .p 4 1 0), (34, .a [.b sa, .n false .u64 a]), (35, .a [.b sa, .n false .u64 a]), (36, .a [.b sb, .n false .u64 b]), (37, .a [.b sb, .n false .u64 b]), (38, .a [.b sc, .n false .u64 c]), (39, .a [.b sc, .n false .u64 c])] ++ F0) [⟨27, 2, 0, true, [.b sa, .n false .u64 a]⟩, ⟨27, 2, 0, true, [.b sb, .n false .u64 b]⟩, ⟨27, 2, 0, true, [.b sc, .n false .u64 c]⟩, ⟨0, 1, 0, true, []⟩, ⟨30, 2, 1, true, [.b false, .c (.slice none 0 0)]⟩, ⟨0, 1, 0, true, []⟩] Q1 := by
    subst ho; subst hF
    refine ja_2 6 8 ?_ ?_ rfl rfl (by kernel_rfl)
    · refine js_h (hy_allocAt (id := 3) zero30 (by decide) rfl (by decide) rfl) (hd 7 rfl) ?_
      refine ja_to (m := [(7, .p 3 1 0), (8, .p 4 1 0), (34, .a [.b sa, .n false .u64 a]), (35, .a [.b sa, .n false .u64 a]), (36, .a [.b sb, .n false .u64 b]), (37, .a [.b sb, .n false .u64 b]), (38, .a [.b sc, .n false .u64 c]), (39, .a [.b sc, .n false .u64 c])]) (by decide) rfl (cov_n 8 rfl rfl (.cons rfl (.cons rfl (.cons rfl (.cons rfl (.cons rfl (.cons rfl (.cons rfl (.cons rfl .nil))))))))) S1_111111110000
    · refine js_h (hy_allocAt (id := 5) zero30 (by decide) rfl (by decide) rfl) (hd 9 rfl) ?_
      refine ja_to (m := [(8, .p 4 1 0), (9, .p 5 1 0), (34, .a [.b sa, .n false .u64 a]), (35, .a [.b sa, .n false .u64 a]), (36, .a [.b sb, .n false .u64 b]), (37, .a [.b sb, .n false .u64 b]), (38, .a [.b sc, .n false .u64 c]), (39, .a [.b sc, .n false .u64 c])]) (by decide) rfl (cov_n 8 rfl rfl (.cons rfl (.cons rfl (.cons rfl (.cons rfl (.cons rfl (.cons rfl (.cons rfl (.cons rfl .nil))))))))) S1_111111011000
  have S1_111111001000 : JA Try.prog ops1 5 #[true, true, true, true, true, true, false, false, true, false, false, false] Γ ([(9, .p 5 1 0), (34, .a [.b sa, .n false .u64 a]), (35, .a [.b sa, .n false .u64 a]), (36, .a [.b sb, .n false .u64 b]), (37, .a [.b sb, .n false .u64 b]), (38, .a [.b sc, .n false .u64 c]), (39, .a [.b sc, .n false .u64 c])] ++ F0) [⟨27, 2, 0, true, [.b sa, .n false .u64 a]⟩, ⟨27, 2, 0, true, [.b sb, .n false .u64 b]⟩, ⟨27, 2, 0, true, [.b sc, .n false .u64 c]⟩, ⟨0, 1, 0, true, []⟩, ⟨0, 1, 0, true, []⟩, ⟨30, 2, 1, true, [.b false, .c (.slice none 0 0)]⟩] Q1 := by
    subst ho; subst hF
    refine ja_2 6 7 ?_ ?_ rfl rfl (by kernel_rfl)
    · refine js_h (hy_allocAt (id := 3) zero30 (by decide) rfl (by decide) rfl) (hd 7 rfl) ?_
      refine ja_to (m := [(7, .p 3 1 0), (9, .p 5 1 0), (34, .a [.b sa, .n false .u64 a]), (35, .a [.b sa, .n false .u64 a]), (36, .a [.b sb, .n false .u64 b]), (37, .a [.b sb, .n false .u64 b]), (38, .a [.b sc, .n false .u64 c]), (39, .a [.b sc, .n false .u64 c])]) (by decide) rfl (cov_n 8 rfl rfl (.cons rfl (.cons rfl (.cons rfl (.cons rfl (.cons rfl (.cons rfl (.cons rfl (.cons rfl .nil))))))))) S1_111111101000
    · refine js_h (hy_allocAt (id := 4) zero30 (by decide) rfl (by decide) rfl) (hd 8 rfl) ?_
      refine ja_to (m := [(8, .p 4 1 0), (9, .p 5 1 0), (34, .a [.b sa, .n false .u64 a]), (35, .a [.b sa, .n false .u64 a]), (36, .a [.b sb, .n false .u64 b]), (37, .a [.b sb, .n false .u64 b]), (38, .a [.b sc, .n false .u64 c]), (39, .a [.b sc, .n false .u64 c])]) (by decide) rfl (cov_n 8 rfl rfl (.cons rfl (.cons rfl (.cons rfl (.cons rfl (.cons rfl (.cons rfl (.cons rfl (.cons rfl .nil))))))))) S1_111111011000
  have S1_111111000000 : JA Try.prog ops1 6 #[true, true, true, true, true, true, false, false, false, false, false, false] Γ ([(34, .a [.b sa, .n false .u64 a]), (35, .a [.b sa, .n false .u64 a]), (36, .a [.b sb, .n false .u64 b]), (37, .a [.b sb, .n false .u64 b]), (38, .a [.b sc, .n false .u64 c]), (39, .a [.b sc, .n false .u64 c])] ++ F0) [⟨27, 2, 0, true, [.b sa, .n false .u64 a]⟩, ⟨27, 2, 0, true, [.b sb, .n false .u64 b]⟩, ⟨27, 2, 0, true, [.b sc, .n false .u64 c]⟩, ⟨0, 1, 0, true, []⟩, ⟨0, 1, 0, true, []⟩, ⟨0, 1, 0, true, []⟩] Q1 := by
    subst ho; subst hF
    refine ja_3 6 7 8 ?_ ?_ ?_ rfl rfl rfl (by kernel_rfl)
    · refine js_h (hy_allocAt (id := 3) zero30 (by decide) rfl (by decide) rfl) (hd 7 rfl) ?_
      refine ja_to (m := [(7, .p 3 1 0), (34, .a [.b sa, .n false .u64 a]), (35, .a [.b sa, .n false .u64 a]), (36, .a [.b sb, .n false .u64 b]), (37, .a [.b sb, .n false .u64 b]), (38, .a [.b sc, .n false .u64 c]), (39, .a [.b sc, .n false .u64 c])]) (by decide) rfl (cov_n 7 rfl rfl (.cons rfl (.cons rfl (.cons rfl (.cons rfl (.cons rfl (.cons rfl (.cons rfl .nil)))))))) S1_111111100000
    · refine js_h (hy_allocAt (id := 4) zero30 (by decide) rfl (by decide) rfl) (hd 8 rfl) ?_
      refine ja_to (m := [(8, .p 4 1 0), (34, .a [.b sa, .n false .u64 a]), (35, .a [.b sa, .n false .u64 a]), (36, .a [.b sb, .n false .u64 b]), (37, .a [.b sb, .n false .u64 b]), (38, .a [.b sc, .n false .u64 c]), (39, .a [.b sc, .n false .u64 c])]) (by decide) rfl (cov_n 7 rfl rfl (.cons rfl (.cons rfl (.cons rfl (.cons rfl (.cons rfl (.cons rfl (.cons rfl .nil)))))))) S1_111111010000
    · refine js_h (hy_allocAt (id := 5) zero30 (by decide) rfl (by decide) rfl) (hd 9 rfl) ?_
      refine ja_to (m := [(9, .p 5 1 0), (34, .a [.b sa, .n false .u64 a]), (35, .a [.b sa, .n false .u64 a]), (36, .a [.b sb, .n false .u64 b]), (37, .a [.b sb, .n false .u64 b]), (38, .a [.b sc, .n false .u64 c]), (39, .a [.b sc, .n false .u64 c])]) (by decide) rfl (cov_n 7 rfl rfl (.cons rfl (.cons rfl (.cons rfl (.cons rfl (.cons rfl (.cons rfl (.cons rfl .nil)))))))) S1_111111001000
  have S1_111110111000 : JA Try.prog ops1 4 #[true, true, true, true, true, false, true, true, true, false, false, false] Γ ([(7, .p 3 1 0), (8, .p 4 1 0), (9, .p 5 1 0), (34, .a [.b sa, .n false .u64 a]), (35, .a [.b sa, .n false .u64 a]), (36, .a [.b sb, .n false .u64 b]), (37, .a [.b sb, .n false .u64 b]), (38, .a [.b sc, .n false .u64 c])] ++ F0) [⟨27, 2, 0, true, [.b sa, .n false .u64 a]⟩, ⟨27, 2, 0, true, [.b sb, .n false .u64 b]⟩, ⟨27, 2, 0, true, [.b sc, .n false .u64 c]⟩, ⟨30, 2, 1, true, [.b false, .c (.slice none 0 0)]⟩, ⟨30, 2, 1, true, [.b false, .c (.slice none 0 0)]⟩, ⟨30, 2, 1, true, [.b false, .c (.slice none 0 0)]⟩] Q1 := by
    subst ho; subst hF
    refine ja_1 5 ?_ rfl (by kernel_rfl)
    refine js_call Try.f27 (in_s sc c) rfl Try.func27 rfl rfl (ovL_cons rfl ovL_nil) (.cons (.a1 .b (.a1 .n .a0)) .nil) (hd 39 rfl) ?_ (fun ch hp => by simp at hp)
    rintro y hy; injection hy with hy; subst hy
    refine ja_to (m := [(7, .p 3 1 0), (8, .p 4 1 0), (9, .p 5 1 0), (34, .a [.b sa, .n false .u64 a]), (35, .a [.b sa, .n false .u64 a]), (36, .a [.b sb, .n false .u64 b]), (37, .a [.b sb, .n false .u64 b]), (38, .a [.b sc, .n false .u64 c]), (39, .a [.b sc, .n false .u64 c])]) (by decide) rfl (cov_n 9 rfl rfl (.cons rfl (.cons rfl (.cons rfl (.cons rfl (.cons rfl (.cons rfl (.cons rfl (.cons rfl (.cons rfl .nil)))))))))) S1_111111111000
  have S1_111110110000 : JA Try.prog ops1 5 #[true, true, true, true, true, false, true, true, false, false, false, false] Γ ([(7, .p 3 1 0), (8, .p 4 1 0), (34, .a [.b sa, .n false .u64 a]), (35, .a [.b sa, .n false .u64 a]), (36, .a [.b sb, .n false .u64 b]), (37, .a [.b sb, .n false .u64 b]), (38, .a [.b sc, .n false .u64 c])] ++ F0) [⟨27, 2, 0, true, [.b sa, .n false .u64 a]⟩, ⟨27, 2, 0, true, [.b sb, .n false .u64 b]⟩, ⟨27, 2, 0, true, [.b sc, .n false .u64 c]⟩, ⟨30, 2, 1, true, [.b false, .c (.slice none 0 0)]⟩, ⟨30, 2, 1, true, [.b false, .c (.slice none 0 0)]⟩, ⟨0, 1, 0, true, []⟩] Q1 := by
    subst ho; subst hF
    refine ja_2 5 8 ?_ ?_ rfl rfl (by kernel_rfl)
    · refine js_call Try.f27 (in_s sc c) rfl Try.func27 rfl rfl (ovL_cons rfl ovL_nil) (.cons (.a1 .b (.a1 .n .a0)) .nil) (hd 39 rfl) ?_ (fun ch hp => by simp at hp)
      rintro y hy; injection hy with hy; subst hy
      refine ja_to (m := [(7, .p 3 1 0), (8, .p 4 1 0), (34, .a [.b sa, .n false .u64 a]), (35, .a [.b sa, .n false .u64 a]), (36, .a [.b sb, .n false .u64 b]), (37, .a [.b sb, .n false .u64 b]), (38, .a [.b sc, .n false .u64 c]), (39, .a [.b sc, .n false .u64 c])]) (by decide) rfl (cov_n 8 rfl rfl (.cons rfl (.cons rfl (.cons rfl (.cons rfl (.cons rfl (.cons rfl (.cons rfl (.cons rfl .nil))))))))) S1_111111110000
    · refine js_h (hy_allocAt (id := 5) zero30 (by decide) rfl (by decide) rfl) (hd 9 rfl) ?_
      refine ja_to (m := [(7, .p 3 1 0), (8, .p 4 1 0), (9, .p 5 1 0), (34, .a [.b sa, .n false .u64 a]), (35, .a [.b sa, .n false .u64 a]), (36, .a [.b sb, .n false .u64 b]), (37, .a [.b sb, .n false .u64 b]), (38, .a [.b sc, .n false .u64 c])]) (by decide) rfl (cov_n 8 rfl rfl (.cons rfl (.cons rfl (.cons rfl (.cons rfl (.cons rfl (.cons rfl (.cons rfl (.cons rfl .nil))))))))) S1_111110111000
  have S1_111110101000 : JA Try.prog ops1 5 #[true, true, true, true, true, false, true, false, true, false, false, false] Γ ([(7, .p 3 1 0), (9, .p 5 1 0), (34, .a [.b sa, .n false .u64 a]), (35, .a [.b sa, .n false .u64 a]), (36, .a [.b sb, .n false .u64 b]), (37, .a [.b sb, .n false .u64 b]), (38, .a [.b sc, .n false .u64 c])] ++ F0) [⟨27, 2, 0, true, [.b sa, .n false .u64 a]⟩, ⟨27, 2, 0, true, [.b sb, .n false .u64 b]⟩, ⟨27, 2, 0, true, [.b sc, .n false .u64 c]⟩, ⟨30, 2, 1, true, [.b false, .c (.slice none 0 0)]⟩, ⟨0, 1, 0, true, []⟩, ⟨30, 2, 1, true, [.b false, .c (.slice none 0 0)]⟩] Q1 := by
    subst ho; subst hF
    refine ja_2 5 7 ?_ ?_ rfl rfl (by kernel_rfl)
    · refine js_call Try.f27 (in_s sc c) rfl Try.func27 rfl rfl (ovL_cons rfl ovL_nil) (.cons (.a1 .b (.a1 .n .a0)) .nil) (hd 39 rfl) ?_ (fun ch hp => by simp at hp)
      rintro y hy; injection hy with hy; subst hy
      refine ja_to (m := [(7, .p 3 1 0), (9, .p 5 1 0), (34, .a [.b sa, .n false .u64 a]), (35, .a [.b sa, .n false .u64 a]), (36, .a [.b sb, .n false .u64 b]), (37, .a [.b sb, .n false .u64 b]), (38, .a [.b sc, .n false .u64 c]), (39, .a [.b sc, .n false .u64 c])]) (by decide) rfl (cov_n 8 rfl rfl (.cons rfl (.cons rfl (.cons rfl (.cons rfl (.cons rfl (.cons rfl (.cons rfl (.cons rfl .nil))))))))) S1_111111101000
    · refine js_h (hy_allocAt (id := 4) zero30 (by decide) rfl (by decide) rfl) (hd 8 rfl) ?_
      refine ja_to (m := [(7, .p 3 1 0), (8, .p 4 1 0), (9, .p 5 1 0), (34, .a [.b sa, .n false .u64 a]), (35, .a [.b sa, .n false .u64 a]), (36, .a [.b sb, .n false .u64 b]), (37, .a [.b sb, .n false .u64 b]), (38, .a [.b sc, .n false .u64 c])]) (by decide) rfl (cov_n 8 rfl rfl (.cons rfl (.cons rfl (.cons rfl (.cons rfl (.cons rfl (.cons rfl (.cons rfl (.cons rfl .nil))))))))) S1_111110111000
  have S1_111110100000 : JA Try.prog ops1 6 #[true, true, true, true, true, false, true, false, false, false, false, false] Γ ([(7, .p 3 1 0), (34, .a [.b sa, .n false .u64 a]), (35, .a [.b sa, .n false .u64 a]), (36, .a [.b sb, .n false .u64 b]), (37, .a [.b sb, .n false .u64 b]), (38, .a [.b sc, .n false .u64 c])] ++ F0) [⟨27, 2, 0, true, [.b sa, .n false .u64 a]⟩, ⟨27, 2, 0, true, [.b sb, .n false .u64 b]⟩, ⟨27, 2, 0, true, [.b sc, .n false .u64 c]⟩, ⟨30, 2, 1, true, [.b false, .c (.slice none 0 0)]⟩, ⟨0, 1, 0, true, []⟩, ⟨0, 1, 0, true, []⟩] Q1 := by
    subst ho; subst hF
    refine ja_3 5 7 8 ?_ ?_ ?_ rfl rfl rfl (by kernel_rfl)
    · refine js_call Try.f27 (in_s sc c) rfl Try.func27 rfl rfl (ovL_cons rfl ovL_nil) (.cons (.a1 .b (.a1 .n .a0)) .nil) (hd 39 rfl) ?_ (fun ch hp => by simp at hp)
      rintro y hy; injection hy with hy; subst hy
      refine ja_to (m := [(7, .p 3 1 0), (34, .a [.b sa, .n false .u64 a]), (35, .a [.b sa, .n false .u64 a]), (36, .a [.b sb, .n false .u64 b]), (37, .a [.b sb, .n false .u64 b]), (38, .a [.b sc, .n false .u64 c]), (39, .a [.b sc, .n false .u64 c])]) (by decide) rfl (cov_n 7 rfl rfl (.cons rfl (.cons rfl (.cons rfl (.cons rfl (.cons rfl (.cons rfl (.cons rfl .nil)))))))) S1_111111100000
    · refine js_h (hy_allocAt (id := 4) zero30 (by decide) rfl (by decide) rfl) (hd 8 rfl) ?_
      refine ja_to (m := [(7, .p 3 1 0), (8, .p 4 1 0), (34, .a [.b sa, .n false .u64 a]), (35, .a [.b sa, .n false .u64 a]), (36, .a [.b sb, .n false .u64 b]), (37, .a [.b sb, .n false .u64 b]), (38, .a [.b sc, .n false .u64 c])]) (by decide) rfl (cov_n 7 rfl rfl (.cons rfl (.cons rfl (.cons rfl (.cons rfl (.cons rfl (.cons rfl (.cons rfl .nil)))))))) S1_111110110000
    · refine js_h (hy_allocAt (id := 5) zero30 (by decide) rfl (by decide) rfl) (hd 9 rfl) ?_
      refine ja_to (m := [(7, .p 3 1 0), (9, .p 5 1 0), (34, .a [.b sa, .n false .u64 a]), (35, .a [.b sa, .n false .u64 a]), (36, .a [.b sb, .n false .u64 b]), (37, .a [.b sb, .n false .u64 b]), (38, .a [.b sc, .n false .u64 c])]) (by decide) rfl (cov_n 7 rfl rfl (.cons rfl (.cons rfl (.cons rfl (.cons rfl (.cons rfl (.cons rfl (.cons rfl .nil)))))))) S1_111110101000
  have S1_111110011000 : JA Try.prog ops1 5 #[true, true, true, true, true, false, false, true, true, false, false, false] Γ ([(8, .p 4 1 0), (9, .p 5 1 0), (34, .a [.b sa, .n false .u64 a]), (35, .a [.b sa, .n false .u64 a]), (36, .a [.b sb, .n false .u64 b]), (37, .a [.b sb, .n false .u64 b]), (38, .a [.b sc, .n false .u64 c])] ++ F0) [⟨27, 2, 0, true, [.b sa, .n false .u64 a]⟩, ⟨27, 2, 0, true, [.b sb, .n false .u64 b]⟩, ⟨27, 2, 0, true, [.b sc, .n false .u64 c]⟩, ⟨0, 1, 0, true, []⟩, ⟨30, 2, 1, true, [.b false, .c (.slice none 0 0)]⟩, ⟨30, 2, 1, true, [.b false, .c (.slice none 0 0)]⟩] Q1 := by
    subst ho; subst hF
    refine ja_2 5 6 ?_ ?_ rfl rfl (by kernel_rfl)
    · refine js_call Try.f27 (in_s sc c) rfl Try.func27 rfl rfl (ovL_cons rfl ovL_nil) (.cons (.a1 .b (.a1 .n .a0)) .nil) (hd 39 rfl) ?_ (fun ch hp => by simp at hp)
      rintro y hy; injection hy with hy; subst hy
      refine ja_to (m := [(8, .p 4 1 0), (9, .p 5 1 0), (34, .a [.b sa, .n false .u64 a]), (35, .a [.b sa, .n false .u64 a]), (36, .a [.b sb, .n false .u64 b]), (37, .a [.b sb, .n false .u64 b]), (38, .a [.b sc, .n false .u64 c]), (39, .a [.b sc, .n false .u64 c])]) (by decide) rfl (cov_n 8 rfl rfl (.cons rfl (.cons rfl (.cons rfl (.cons rfl (.cons rfl (.cons rfl (.cons rfl (.cons rfl .nil))))))))) S1_111111011000
    · refine js_h (hy_allocAt (id := 3) zero30 (by decide) rfl (by decide) rfl) (hd 7 rfl) ?_
      refine ja_to (m := [(7, .p 3 1 0), (8, .p 4 1 0), (9, .p 5 1 0), (34, .a [.b sa, .n false .u64 a]), (35, .a [.b sa, .n false .u64 a]), (36, .a [.b sb, .n false .u64 b]), (37, .a [.b sb, .n false .u64 b]), (38, .a [.b sc, .n false .u64 c])]) (by decide) rfl (cov_n 8 rfl rfl (.cons rfl (.cons rfl (.cons rfl (.cons rfl (.cons rfl (.cons rfl (.cons rfl (.cons rfl .nil))))))))) S1_111110111000
  have S1_111110010000 : JA Try.prog ops1 6 #[true, true, true, true, true, false, false, true, false, false, false, false] Γ ([(8, .p 4 1 0), (34, .a [.b sa, .n false .u64 a]), (35, .a [.b sa, .n false .u64 a]), (36, .a [.b sb, .n false .u64 b]), (37, .a [.b sb, .n false .u64 b]), (38, .a [.b sc, .n false .u64 c])] ++ F0) [⟨27, 2, 0, true, [.b sa, .n false .u64 a]⟩, ⟨27, 2, 0, true, [.b sb, .n false .u64 b]⟩, ⟨27, 2, 0, true, [.b sc, .n false .u64 c]⟩, ⟨0, 1, 0, true, []⟩, ⟨30, 2, 1, true, [.b false, .c (.slice none 0 0)]⟩, ⟨0, 1, 0, true, []⟩] Q1 := by
    subst ho; subst hF
    refine ja_3 5 6 8 ?_ ?_ ?_ rfl rfl rfl (by kernel_rfl)
    · refine js_call Try.f27 (in_s sc c) rfl Try.func27 rfl rfl (ovL_cons rfl ovL_nil) (.cons (.a1 .b (.a1 .n .a0)) .nil) (hd 39 rfl) ?_ (fun ch hp => by simp at hp)
      rintro y hy; injection hy with hy; subst hy
      refine ja_to (m := [(8, .p 4 1 0), (34, .a [.b sa, .n false .u64 a]), (35, .a [.b sa, .n false .u64 a]), (36, .a [.b sb, .n false .u64 b]), (37, .a [.b sb, .n false .u64 b]), (38, .a [.b sc, .n false .u64 c]), (39, .a [.b sc, .n false .u64 c])]) (by decide) rfl (cov_n 7 rfl rfl (.cons rfl (.cons rfl (.cons rfl (.cons rfl (.cons rfl (.cons rfl (.cons rfl .nil)))))))) S1_111111010000
    · refine js_h (hy_allocAt (id := 3) zero30 (by decide) rfl (by decide) rfl) (hd 7 rfl) ?_
      refine ja_to (m := [(7, .p 3 1 0), (8, .p 4 1 0), (34, .a [.b sa, .n false .u64 a]), (35, .a [.b sa, .n false .u64 a]), (36, .a [.b sb, .n false .u64 b]), (37, .a [.b sb, .n false .u64 b]), (38, .a [.b sc, .n false .u64 c])]) (by decide) rfl (cov_n 7 rfl rfl (.cons rfl (.cons rfl (.cons rfl (.cons rfl (.cons rfl (.cons rfl (.cons rfl .nil)))))))) S1_111110110000
    · refine js_h (hy_allocAt (id := 5) zero30 (by decide) rfl (by decide) rfl) (hd 9 rfl) ?_
      refine ja_to (m := [(8, .p 4 1 0), (9, .p 5 1 0), (34, .a [.b sa, .n false .u64 a]), (35, .a [.b sa, .n false .u64 a]), (36, .a [.b sb, .n false .u64 b]), (37, .a [.b sb, .n false .u64 b]), (38, .a [.b sc, .n false .u64 c])]) (by decide) rfl (cov_n 7 rfl rfl (.cons rfl (.cons rfl (.cons rfl (.cons rfl (.cons rfl (.cons rfl (.cons rfl .nil)))))))) S1_111110011000
  have S1_111110001000 : JA Try.prog ops1 6 #[true, true, true, true, true, false, false, false, true, false, false, false] Γ ([(9, .p 5 1 0), (34, .a [.b sa, .n false .u64 a]), (35, .a [.b sa, .n false .u64 a]), (36, .a [.b sb, .n false .u64 b]), (37, .a [.b sb, .n false .u64 b]), (38, .a [.b sc, .n false .u64 c])] ++ F0) [⟨27, 2, 0, true, [.b sa, .n false .u64 a]⟩, ⟨27, 2, 0, true, [.b sb, .n false .u64 b]⟩, ⟨27, 2, 0, true, [.b sc, .n false .u64 c]⟩, ⟨0, 1, 0, true, []⟩, ⟨0, 1, 0, true, []⟩, ⟨30, 2, 1, true, [.b false, .c (.slice none 0 0)]⟩] Q1 := by
    subst ho; subst hF
    refine ja_3 5 6 7 ?_ ?_ ?_ rfl rfl rfl (by kernel_rfl)
    · refine js_call Try.f27 (in_s sc c) rfl Try.func27 rfl rfl (ovL_cons rfl ovL_nil) (.cons (.a1 .b (.a1 .n .a0)) .nil) (hd 39 rfl) ?_ (fun ch hp => by simp at hp)
      rintro y hy; injection hy with hy; subst hy
      refine ja_to (m := [(9, .p 5 1 0), (34, .a [.b sa, .n false .u64 a]), (35, .a [.b sa, .n false .u64 a]), (36, .a [.b sb, .n false .u64 b]), (37, .a [.b sb, .n false .u64 b]), (38, .a [.b sc, .n false .u64 c]), (39, .a [.b sc, .n false .u64 c])]) (by decide) rfl (cov_n 7 rfl rfl (.cons rfl (.cons rfl (.cons rfl (.cons rfl (.cons rfl (.cons rfl (.cons rfl .nil)))))))) S1_111111001000
    · refine js_h (hy_allocAt (id := 3) zero30 (by decide) rfl (by decide) rfl) (hd 7 rfl) ?_
      refine ja_to (m := [(7, .p 3 1 0), (9, .p 5 1 0), (34, .a [.b sa, .n false .u64 a]), (35, .a [.b sa, .n false .u64 a]), (36, .a [.b sb, .n false .u64 b]), (37, .a [.b sb, .n false .u64 b]), (38, .a [.b sc, .n false .u64 c])]) (by decide) rfl (cov_n 7 rfl rfl (.cons rfl (.cons rfl (.cons rfl (.cons rfl (.cons rfl (.cons rfl (.cons rfl .nil)))))))) S1_111110101000
    · refine js_h (hy_allocAt (id := 4) zero30 (by decide) rfl (by decide) rfl) (hd 8 rfl) ?_
      refine ja_to (m := [(8, .p 4 1 0), (9, .p 5 1 0), (34, .a [.b sa, .n false .u64 a]), (35, .a [.b sa, .n false .u64 a]), (36, .a [.b sb, .n false .u64 b]), (37, .a [.b sb, .n false .u64 b]), (38, .a [.b sc, .n false .u64 c])]) (by decide) rfl (cov_n 7 rfl rfl (.cons rfl (.cons rfl (.cons rfl (.cons rfl (.cons rfl (.cons rfl (.cons rfl .nil)))))))) S1_111110011000
  have S1_111110000000 : JA Try.prog ops1 7 #[true, true, true, true, true, false, false, false, false, false, false, false] Γ ([(34, .a [.b sa, .n false .u64 a]), (35, .a [.b sa, .n false .u64 a]), (36, .a [.b sb, .n false .u64 b]), (37, .a [.b sb, .n false .u64 b]), (38, .a [.b sc, .n false .u64 c])] ++ F0) [⟨27, 2, 0, true, [.b sa, .n false .u64 a]⟩, ⟨27, 2, 0, true, [.b sb, .n false .u64 b]⟩, ⟨27, 2, 0, true, [.b sc, .n false .u64 c]⟩, ⟨0, 1, 0, true, []⟩, ⟨0, 1, 0, true, []⟩, ⟨0, 1, 0, true, []⟩] Q1 := by
    subst ho; subst hF
    refine ja_4 5 6 7 8 ?_ ?_ ?_ ?_ rfl rfl rfl rfl (by kernel_rfl)
    · refine js_call Try.f27 (in_s sc c) rfl Try.func27 rfl rfl (ovL_cons rfl ovL_nil) (.cons (.a1 .b (.a1 .n .a0)) .nil) (hd 39 rfl) ?_ (fun ch hp => by simp at hp)
      rintro y hy; injection hy with hy; subst hy
      refine ja_to (m := [(34, .a [.b sa, .n false .u64 a]), (35, .a [.b sa, .n false .u64 a]), (36, .a [.b sb, .n false .u64 b]), (37, .a [.b sb, .n false .u64 b]), (38, .a [.b sc, .n false .u64 c]), (39, .a [.b sc, .n false .u64 c])]) (by decide) rfl (cov_n 6 rfl rfl (.cons rfl (.cons rfl (.cons rfl (.cons rfl (.cons rfl (.cons rfl .nil))))))) S1_111111000000
    · refine js_h (hy_allocAt (id := 3) zero30 (by decide) rfl (by decide) rfl) (hd 7 rfl) ?_
      refine ja_to (m := [(7, .p 3 1 0), (34, .a [.b sa, .n false .u64 a]), (35, .a [.b sa, .n false .u64 a]), (36, .a [.b sb, .n false .u64 b]), (37, .a [.b sb, .n false .u64 b]), (38, .a [.b sc, .n false .u64 c])]) (by decide) rfl (cov_n 6 rfl rfl (.cons rfl (.cons rfl (.cons rfl (.cons rfl (.cons rfl (.cons rfl .nil))))))) S1_111110100000
    · refine js_h (hy_allocAt (id := 4) zero30 (by decide) rfl (by decide) rfl) (hd 8 rfl) ?_
      refine ja_to (m := [(8, .p 4 1 0), (34, .a [.b sa, .n false .u64 a]), (35, .a [.b sa, .n false .u64 a]), (36, .a [.b sb, .n false .u64 b]), (37, .a [.b sb, .n false .u64 b]), (38, .a [.b sc, .n false .u64 c])]) (by decide) rfl (cov_n 6 rfl rfl (.cons rfl (.cons rfl (.cons rfl (.cons rfl (.cons rfl (.cons rfl .nil))))))) S1_111110010000
    · refine js_h (hy_allocAt (id := 5) zero30 (by decide) rfl (by decide) rfl) (hd 9 rfl) ?_
      refine ja_to (m := [(9, .p 5 1 0), (34, .a [.b sa, .n false .u64 a]), (35, .a [.b sa, .n false .u64 a]), (36, .a [.b sb, .n false .u64 b]), (37, .a [.b sb, .n false .u64 b]), (38, .a [.b sc, .n false .u64 c])]) (by decide) rfl (cov_n 6 rfl rfl (.cons rfl (.cons rfl (.cons rfl (.cons rfl (.cons rfl (.cons rfl .nil))))))) S1_111110001000
  have S1_111010111000 : JA Try.prog ops1 5 #[true, true, true, false, true, false, true, true, true, false, false, false] Γ ([(7, .p 3 1 0), (8, .p 4 1 0), (9, .p 5 1 0), (34, .a [.b sa, .n false .u64 a]), (35, .a [.b sa, .n false .u64 a]), (36, .a [.b sb, .n false .u64 b]), (38, .a [.b sc, .n false .u64 c])] ++ F0) [⟨27, 2, 0, true, [.b sa, .n false .u64 a]⟩, ⟨27, 2, 0, true, [.b sb, .n false .u64 b]⟩, ⟨27, 2, 0, true, [.b sc, .n false .u64 c]⟩, ⟨30, 2, 1, true, [.b false, .c (.slice none 0 0)]⟩, ⟨30, 2, 1, true, [.b false, .c (.slice none 0 0)]⟩, ⟨30, 2, 1, true, [.b false, .c (.slice none 0 0)]⟩] Q1 := by
    subst ho; subst hF
    refine ja_1 3 ?_ rfl (by kernel_rfl)
    refine js_call Try.f27 (in_s sb b) rfl Try.func27 rfl rfl (ovL_cons rfl ovL_nil) (.cons (.a1 .b (.a1 .n .a0)) .nil) (hd 37 rfl) ?_ (fun ch hp => by simp at hp)
    rintro y hy; injection hy with hy; subst hy
    refine ja_to (m := [(7, .p 3 1 0), (8, .p 4 1 0), (9, .p 5 1 0), (34, .a [.b sa, .n false .u64 a]), (35, .a [.b sa, .n false .u64 a]), (36, .a [.b sb, .n false .u64 b]), (37, .a [.b sb, .n false .u64 b]), (38, .a [.b sc, .n false .u64 c])]) (by decide) rfl (cov_n 8 rfl rfl (.cons rfl (.cons rfl (.cons rfl (.cons rfl (.cons rfl (.cons rfl (.cons rfl (.cons rfl .nil))))))))) S1_111110111000
  have S1_111010110000 : JA Try.prog ops1 6 #[true, true, true, false, true, false, true, true, false, false, false, false] Γ ([(7, .p 3 1 0), (8, .p 4 1 0), (34, .a [.b sa, .n false .u64 a]), (35, .a [.b sa, .n false .u64 a]), (36, .a [.b sb, .n false .u64 b]), (38, .a [.b sc, .n false .u64 c])] ++ F0) [⟨27, 2, 0, true, [.b sa, .n false .u64 a]⟩, ⟨27, 2, 0, true, [.b sb, .n false .u64 b]⟩, ⟨27, 2, 0, true, [.b sc, .n false .u64 c]⟩, ⟨30, 2, 1, true, [.b false, .c (.slice none 0 0)]⟩, ⟨30, 2, 1, true, [.b false, .c (.slice none 0 0)]⟩, ⟨0, 1, 0, true, []⟩] Q1 := by
    subst ho; subst hF
    refine ja_2 3 8 ?_ ?_ rfl rfl (by kernel_rfl)
    · refine js_call Try.f27 (in_s sb b) rfl Try.func27 rfl rfl (ovL_cons rfl ovL_nil) (.cons (.a1 .b (.a1 .n .a0)) .nil) (hd 37 rfl) ?_ (fun ch hp => by simp at hp)
      rintro y hy; injection hy with hy; subst hy
      refine ja_to (m := [(7, .p 3 1 0), (8, .p 4 1 0), (34, .a [.b sa, .n false .u64 a]), (35, .a [.b sa, .n false .u64 a]), (36, .a [.b sb, .n false .u64 b]), (37, .a [.b sb, .n false .u64 b]), (38, .a [.b sc, .n false .u64 c])]) (by decide) rfl (cov_n 7 rfl rfl (.cons rfl (.cons rfl (.cons rfl (.cons rfl (.cons rfl (.cons rfl (.cons rfl .nil)))))))) S1_111110110000
    · refine js_h (hy_allocAt (id := 5) zero30 (by decide) rfl (by decide) rfl) (hd 9 rfl) ?_
      refine ja_to (m := [(7, .p 3 1 0), (8, .p 4 1 0), (9, .p 5 1 0), (34, .a [.b sa, .n false .u64 a]), (35, .a [.b sa, .n false .u64 a]), (36, .a [.b sb, .n false .u64 b]), (38, .a [.b sc, .n false .u64 c])]) (by decide) rfl (cov_n 7 rfl rfl (.cons rfl (.cons rfl (.cons rfl (.cons rfl (.cons rfl (.cons rfl (.cons rfl .nil)))))))) S1_111010111000
  have S1_111010101000 : JA Try.prog ops1 6 #[true, true, true, false, true, false, true, false, true, false, false, false] Γ ([(7, .p 3 1 0), (9, .p 5 1 0), (34, .a [.b sa, .n false .u64 a]), (35, .a [.b sa, .n false .u64 a]), (36, .a [.b sb, .n false .u64 b]), (38, .a [.b sc, .n false .u64 c])] ++ F0) [⟨27, 2, 0, true, [.b sa, .n false .u64 a]⟩, ⟨27, 2, 0, true, [.b sb, .n false .u64 b]⟩, ⟨27, 2, 0, true, [.b sc, .n false .u64 c]⟩, ⟨30, 2, 1, true, [.b false, .c (.slice none 0 0)]⟩, ⟨0, 1, 0, true, []⟩, ⟨30, 2, 1, true, [.b false, .c (.slice none 0 0)]⟩] Q1 := by
    subst ho; subst hF
    refine ja_2 3 7 ?_ ?_ rfl rfl (by kernel_rfl)
    · refine js_call Try.f27 (in_s sb b) rfl Try.func27 rfl rfl (ovL_cons rfl ovL_nil) (.cons (.a1 .b (.a1 .n .a0)) .nil) (hd 37 rfl) ?_ (fun ch hp => by simp at hp)
      rintro y hy; injection hy with hy; subst hy
      refine ja_to (m := [(7, .p 3 1 0), (9, .p 5 1 0), (34, .a [.b sa, .n false .u64 a]), (35, .a [.b sa, .n false .u64 a]), (36, .a [.b sb, .n false .u64 b]), (37, .a [.b sb, .n false .u64 b]), (38, .a [.b sc, .n false .u64 c])]) (by decide) rfl (cov_n 7 rfl rfl (.cons rfl (.cons rfl (.cons rfl (.cons rfl (.cons rfl (.cons rfl (.cons rfl .nil)))))))) S1_111110101000
    · refine js_h (hy_allocAt (id := 4) zero30 (by decide) rfl (by decide) rfl) (hd 8 rfl) ?_
      refine ja_to (m := [(7, .p 3 1 0), (8, .p 4 1 0), (9, .p 5 1 0), (34, .a [.b sa, .n false .u64 a]), (35, .a [.b sa, .n false .u64 a]), (36, .a [.b sb, .n false .u64 b]), (38, .a [.b sc, .n false .u64 c])]) (by decide) rfl (cov_n 7 rfl rfl (.cons rfl (.cons rfl (.cons rfl (.cons rfl (.cons rfl (.cons rfl (.cons rfl .nil)))))))) S1_111010111000
  have S1_111010100000 : JA Try.prog ops1 7 #[true, true, true, false, true, false, true, false, false, false, false, false] Γ ([(7, .p 3 1 0), (34, .a [.b sa, .n false .u64 a]), (35, .a [.b sa, .n false .u64 a]), (36, .a [.b sb, .n false .u64 b]), (38, .a [.b sc, .n false .u64 c])] ++ F0) [⟨27, 2, 0, true, [.b sa, .n false .u64 a]⟩, ⟨27, 2, 0, true, [.b sb, .n false .u64 b]⟩, ⟨27, 2, 0, true, [.b sc, .n false .u64 c]⟩, ⟨30, 2, 1, true, [.b false, .c (.slice none 0 0)]⟩, ⟨0, 1, 0, true, []⟩, ⟨0, 1, 0, true, []⟩] Q1 := by
    subst ho; subst hF
    refine ja_3 3 7 8 ?_ ?_ ?_ rfl rfl rfl (by kernel_rfl)
    · refine js_call Try.f27 (in_s sb b) rfl Try.func27 rfl rfl (ovL_cons rfl ovL_nil) (.cons (.a1 .b (.a1 .n .a0)) .nil) (hd 37 rfl) ?_ (fun ch hp => by simp at hp)
      rintro y hy; injection hy with hy; subst hy
      refine ja_to (m := [(7, .p 3 1 0), (34, .a [.b sa, .n false .u64 a]), (35, .a [.b sa, .n false .u64 a]), (36, .a [.b sb, .n false .u64 b]), (37, .a [.b sb, .n false .u64 b]), (38, .a [.b sc, .n false .u64 c])]) (by decide) rfl (cov_n 6 rfl rfl (.cons rfl (.cons rfl (.cons rfl (.cons rfl (.cons rfl (.cons rfl .nil))))))) S1_111110100000
    · refine js_h (hy_allocAt (id := 4) zero30 (by decide) rfl (by decide) rfl) (hd 8 rfl) ?_
      refine ja_to (m := [(7, .p 3 1 0), (8, .p 4 1 0), (34, .a [.b sa, .n false .u64 a]), (35, .a [.b sa, .n false .u64 a]), (36, .a [.b sb, .n false .u64 b]), (38, .a [.b sc, .n false .u64 c])]) (by decide) rfl (cov_n 6 rfl rfl (.cons rfl (.cons rfl (.cons rfl (.cons rfl (.cons rfl (.cons rfl .nil))))))) S1_111010110000
    · refine js_h (hy_allocAt (id := 5) zero30 (by decide) rfl (by decide) rfl) (hd 9 rfl) ?_
      refine ja_to (m := [(7, .p 3 1 0), (9, .p 5 1 0), (34, .a [.b sa, .n false .u64 a]), (35, .a [.b sa, .n false .u64 a]), (36, .a [.b sb, .n false .u64 b]), (38, .a [.b sc, .n false .u64 c])]) (by decide) rfl (cov_n 6 rfl rfl (.cons rfl (.cons rfl (.cons rfl (.cons rfl (.cons rfl (.cons rfl .nil))))))) S1_111010101000
  have S1_111010011000 : JA Try.prog ops1 6 #[true, true, true, false, true, false, false, true, true, false, false, false] Γ ([(8, .p 4 1 0), (9, .p 5 1 0), (34, .a [.b sa, .n false .u64 a]), (35, .a [.b sa, .n false .u64 a]), (36, .a [.b sb, .n false .u64 b]), (38, .a [.b sc, .n false .u64 c])] ++ F0) [⟨27, 2, 0, true, [.b sa, .n false .u64 a]⟩, ⟨27, 2, 0, true, [.b sb, .n false .u64 b]⟩, ⟨27, 2, 0, true, [.b sc, .n false .u64 c]⟩, ⟨0, 1, 0, true, []⟩, ⟨30, 2, 1, true, [.b false, .c (.slice none 0 0)]⟩, ⟨30, 2, 1, true, [.b false, .c (.slice none 0 0)]⟩] Q1 := by
    subst ho; subst hF
    refine ja_2 3 6 ?_ ?_ rfl rfl (by kernel_rfl)
    · refine js_call Try.f27 (in_s sb b) rfl Try.func27 rfl rfl (ovL_cons rfl ovL_nil) (.cons (.a1 .b (.a1 .n .a0)) .nil) (hd 37 rfl) ?_ (fun ch hp => by simp at hp)
      rintro y hy; injection hy with hy; subst hy
      refine ja_to (m := [(8, .p 4 1 0), (9, .p 5 1 0), (34, .a [.b sa, .n false .u64 a]), (35, .a [.b sa, .n false .u64 a]), (36, .a [.b sb, .n false .u64 b]), (37, .a [.b sb, .n false .u64 b]), (38, .a [.b sc, .n false .u64 c])]) (by decide) rfl (cov_n 7 rfl rfl (.cons rfl (.cons rfl (.cons rfl (.cons rfl (.cons rfl (.cons rfl (.cons rfl .nil)))))))) S1_111110011000
    · refine js_h (hy_allocAt (id := 3) zero30 (by decide) rfl (by decide) rfl) (hd 7 rfl) ?_
      refine ja_to (m := [(7, .p 3 1 0), (8, .p 4 1 0), (9, .p 5 1 0), (34, .a [.b sa, .n false .u64 a]), (35, .a [.b sa, .n false .u64 a]), (36, .a [.b sb, .n false .u64 b]), (38, .a [.b sc, .n false .u64 c])]) (by decide) rfl (cov_n 7 rfl rfl (.cons rfl (.cons rfl (.cons rfl (.cons rfl (.cons rfl (.cons rfl (.cons rfl .nil)))))))) S1_111010111000
  have S1_111010010000 : JA Try.prog ops1 7 #[true, true, true, false, true, false, false, true, false, false, false, false] Γ ([(8, .p 4 1 0), (34, .a [.b sa, .n false .u64 a]), (35, .a [.b sa, .n false .u64 a]), (36, .a [.b sb, .n false .u64 b]), (38, .a [.b sc, .n false .u64 c])] ++ F0) [⟨27, 2, 0, true, [.b sa, .n false .u64 a]⟩, ⟨27, 2, 0, true, [.b sb, .n false .u64 b]⟩, ⟨27, 2, 0, true, [.b sc, .n false .u64 c]⟩, ⟨0, 1, 0, true, []⟩, ⟨30, 2, 1, true, [.b false, .c (.slice none 0 0)]⟩, ⟨0, 1, 0, true, []⟩] Q1 := by
    subst ho; subst hF
    refine ja_3 3 6 8 ?_ ?_ ?_ rfl rfl rfl (by kernel_rfl)
    · refine js_call Try.f27 (in_s sb b) rfl Try.func27 rfl rfl (ovL_cons rfl ovL_nil) (.cons (.a1 .b (.a1 .n .a0)) .nil) (hd 37 rfl) ?_ (fun ch hp => by simp at hp)
      rintro y hy; injection hy with hy; subst hy
      refine ja_to (m := [(8, .p 4 1 0), (34, .a [.b sa, .n false .u64 a]), (35, .a [.b sa, .n false .u64 a]), (36, .a [.b sb, .n false .u64 b]), (37, .a [.b sb, .n false .u64 b]), (38, .a [.b sc, .n false .u64 c])]) (by decide) rfl (cov_n 6 rfl rfl (.cons rfl (.cons rfl (.cons rfl (.cons rfl (.cons rfl (.cons rfl .nil))))))) S1_111110010000
    · refine js_h (hy_allocAt (id := 3) zero30 (by decide) rfl (by decide) rfl) (hd 7 rfl) ?_
      refine ja_to (m := [(7, .p 3 1 0), (8, .p 4 1 0), (34, .a [.b sa, .n false .u64 a]), (35, .a [.b sa, .n false .u64 a]), (36, .a [.b sb, .n false .u64 b]), (38, .a [.b sc, .n false .u64 c])]) (by decide) rfl (cov_n 6 rfl rfl (.cons rfl (.cons rfl (.cons rfl (.cons rfl (.cons rfl (.cons rfl .nil))))))) S1_111010110000
    · refine js_h (hy_allocAt (id := 5) zero30 (by decide) rfl (by decide) rfl) (hd 9 rfl) ?_
      refine ja_to (m := [(8, .p 4 1 0), (9, .p 5 1 0), (34, .a [.b sa, .n false .u64 a]), (35, .a [.b sa, .n false .u64 a]), (36, .a [.b sb, .n false .u64 b]), (38, .a [.b sc, .n false .u64 c])]) (by decide) rfl (cov_n 6 rfl rfl (.cons rfl (.cons rfl (.cons rfl (.cons rfl (.cons rfl (.cons rfl .nil))))))) S1_111010011000
  have S1_111010001000 : JA Try.prog ops1 7 #[true, true, true, false, true, false, false, false, true, false, false, false] Γ ([(9, .p 5 1 0), (34, .a [.b sa, .n false .u64 a]), (35, .a [.b sa, .n false .u64 a]), (36, .a [.b sb, .n false .u64 b]), (38, .a [.b sc, .n false .u64 c])] ++ F0) [⟨27, 2, 0, true, [.b sa, .n false .u64 a]⟩, ⟨27, 2, 0, true, [.b sb, .n false .u64 b]⟩, ⟨27, 2, 0, true, [.b sc, .n false .u64 c]⟩, ⟨0, 1, 0, true, []⟩, ⟨0, 1, 0, true, []⟩, ⟨30, 2, 1, true, [.b false, .c (.slice none 0 0)]⟩] Q1 := by
    subst ho; subst hF
    refine ja_3 3 6 7 ?_ ?_ ?_ rfl rfl rfl (by kernel_rfl)
    · refine js_call Try.f27 (in_s sb b) rfl Try.func27 rfl rfl (ovL_cons rfl ovL_nil) (.cons (.a1 .b (.a1 .n .a0)) .nil) (hd 37 rfl) ?_ (fun ch hp => by simp at hp)
      rintro y hy; injection hy with hy; subst hy
      refine ja_to (m := [(9, .p 5 1 0), (34, .a [.b sa, .n false .u64 a]), (35, .a [.b sa, .n false .u64 a]), (36, .a [.b sb, .n false .u64 b]), (37, .a [.b sb, .n false .u64 b]), (38, .a [.b sc, .n false .u64 c])]) (by decide) rfl (cov_n 6 rfl rfl (.cons rfl (.cons rfl (.cons rfl (.cons rfl (.cons rfl (.cons rfl .nil))))))) S1_111110001000
    · refine js_h (hy_allocAt (id := 3) zero30 (by decide) rfl (by decide) rfl) (hd 7 rfl) ?_
      refine ja_to (m := [(7, .p 3 1 0), (9, .p 5 1 0), (34, .a [.b sa, .n false .u64 a]), (35, .a [.b sa, .n false .u64 a]), (36, .a [.b sb, .n false .u64 b]), (38, .a [.b sc, .n false .u64 c])]) (by decide) rfl (cov_n 6 rfl rfl (.cons rfl (.cons rfl (.cons rfl (.cons rfl (.cons rfl (.cons rfl .nil))))))) S1_111010101000
    · refine js_h (hy_allocAt (id := 4) zero30 (by decide) rfl (by decide) rfl) (hd 8 rfl) ?_
      refine ja_to (m := [(8, .p 4 1 0), (9, .p 5 1 0), (34, .a [.b sa, .n false .u64 a]), (35, .a [.b sa, .n false .u64 a]), (36, .a [.b sb, .n false .u64 b]), (38, .a [.b sc, .n false .u64 c])]) (by decide) rfl (cov_n 6 rfl rfl (.cons rfl (.cons rfl (.cons rfl (.cons rfl (.cons rfl (.cons rfl .nil))))))) S1_111010011000
  have S1_111010000000 : JA Try.prog ops1 8 #[true, true, true, false, true, false, false, false, false, false, false, false] Γ ([(34, .a [.b sa, .n false .u64 a]), (35, .a [.b sa, .n false .u64 a]), (36, .a [.b sb, .n false .u64 b]), (38, .a [.b sc, .n false .u64 c])] ++ F0) [⟨27, 2, 0, true, [.b sa, .n false .u64 a]⟩, ⟨27, 2, 0, true, [.b sb, .n false .u64 b]⟩, ⟨27, 2, 0, true, [.b sc, .n false .u64 c]⟩, ⟨0, 1, 0, true, []⟩, ⟨0, 1, 0, true, []⟩, ⟨0, 1, 0, true, []⟩] Q1 := by
    subst ho; subst hF
    refine ja_4 3 6 7 8 ?_ ?_ ?_ ?_ rfl rfl rfl rfl (by kernel_rfl)
    · refine js_call Try.f27 (in_s sb b) rfl Try.func27 rfl rfl (ovL_cons rfl ovL_nil) (.cons (.a1 .b (.a1 .n .a0)) .nil) (hd 37 rfl) ?_ (fun ch hp => by simp at hp)
      rintro y hy; injection hy with hy; subst hy
      refine ja_to (m := [(34, .a [.b sa, .n false .u64 a]), (35, .a [.b sa, .n false .u64 a]), (36, .a [.b sb, .n false .u64 b]), (37, .a [.b sb, .n false .u64 b]), (38, .a [.b sc, .n false .u64 c])]) (by decide) rfl (cov_n 5 rfl rfl (.cons rfl (.cons rfl (.cons rfl (.cons rfl (.cons rfl .nil)))))) S1_111110000000
    · refine js_h (hy_allocAt (id := 3) zero30 (by decide) rfl (by decide) rfl) (hd 7 rfl) ?_
      refine ja_to (m := [(7, .p 3 1 0), (34, .a [.b sa, .n false .u64 a]), (35, .a [.b sa, .n false .u64 a]), (36, .a [.b sb, .n false .u64 b]), (38, .a [.b sc, .n false .u64 c])]) (by decide) rfl (cov_n 5 rfl rfl (.cons rfl (.cons rfl (.cons rfl (.cons rfl (.cons rfl .nil)))))) S1_111010100000
    · refine js_h (hy_allocAt (id := 4) zero30 (by decide) rfl (by decide) rfl) (hd 8 rfl) ?_
      refine ja_to (m := [(8, .p 4 1 0), (34, .a [.b sa, .n false .u64 a]), (35, .a [.b sa, .n false .u64 a]), (36, .a [.b sb, .n false .u64 b]), (38, .a [.b sc, .n false .u64 c])]) (by decide) rfl (cov_n 5 rfl rfl (.cons rfl (.cons rfl (.cons rfl (.cons rfl (.cons rfl .nil)))))) S1_111010010000
    · refine js_h (hy_allocAt (id := 5) zero30 (by decide) rfl (by decide) rfl) (hd 9 rfl) ?_
      refine ja_to (m := [(9, .p 5 1 0), (34, .a [.b sa, .n false .u64 a]), (35, .a [.b sa, .n false .u64 a]), (36, .a [.b sb, .n false .u64 b]), (38, .a [.b sc, .n false .u64 c])]) (by decide) rfl (cov_n 5 rfl rfl (.cons rfl (.cons rfl (.cons rfl (.cons rfl (.cons rfl .nil)))))) S1_111010001000
  have S1_101010111000 : JA Try.prog ops1 6 #[true, false, true, false, true, false, true, true, true, false, false, false] Γ ([(7, .p 3 1 0), (8, .p 4 1 0), (9, .p 5 1 0), (34, .a [.b sa, .n false .u64 a]), (36, .a [.b sb, .n false .u64 b]), (38, .a [.b sc, .n false .u64 c])] ++ F0) [⟨27, 2, 0, true, [.b sa, .n false .u64 a]⟩, ⟨27, 2, 0, true, [.b sb, .n false .u64 b]⟩, ⟨27, 2, 0, true, [.b sc, .n false .u64 c]⟩, ⟨30, 2, 1, true, [.b false, .c (.slice none 0 0)]⟩, ⟨30, 2, 1, true, [.b false, .c (.slice none 0 0)]⟩, ⟨30, 2, 1, true, [.b false, .c (.slice none 0 0)]⟩] Q1 := by
    subst ho; subst hF
    refine ja_1 1 ?_ rfl (by kernel_rfl)
    refine js_call Try.f27 (in_s sa a) rfl Try.func27 rfl rfl (ovL_cons rfl ovL_nil) (.cons (.a1 .b (.a1 .n .a0)) .nil) (hd 35 rfl) ?_ (fun ch hp => by simp at hp)
    rintro y hy; injection hy with hy; subst hy
    refine ja_to (m := [(7, .p 3 1 0), (8, .p 4 1 0), (9, .p 5 1 0), (34, .a [.b sa, .n false .u64 a]), (35, .a [.b sa, .n false .u64 a]), (36, .a [.b sb, .n false .u64 b]), (38, .a [.b sc, .n false .u64 c])]) (by decide) rfl (cov_n 7 rfl rfl (.cons rfl (.cons rfl (.cons rfl (.cons rfl (.cons rfl (.cons rfl (.cons rfl .nil)))))))) S1_111010111000
  have S1_101010110000 : JA Try.prog ops1 7 #[true, false, true, false, true, false, true, true, false, false, false, false] Γ ([(7, .p 3 1 0), (8, .p 4 1 0), (34, .a [.b sa, .n false .u64 a]), (36, .a [.b sb, .n false .u64 b]), (38, .a [.b sc, .n false .u64 c])] ++ F0) [⟨27, 2, 0, true, [.b sa, .n false .u64 a]⟩, ⟨27, 2, 0, true, [.b sb, .n false .u64 b]⟩, ⟨27, 2, 0, true, [.b sc, .n false .u64 c]⟩, ⟨30, 2, 1, true, [.b false, .c (.slice none 0 0)]⟩, ⟨30, 2, 1, true, [.b false, .c (.slice none 0 0)]⟩, ⟨0, 1, 0, true, []⟩] Q1 := by
    subst ho; subst hF
    refine ja_2 1 8 ?_ ?_ rfl rfl (by kernel_rfl)
    · refine js_call Try.f27 (in_s sa a) rfl Try.func27 rfl rfl (ovL_cons rfl ovL_nil) (.cons (.a1 .b (.a1 .n .a0)) .nil) (hd 35 rfl) ?_ (fun ch hp => by simp at hp)
      rintro y hy; injection hy with hy; subst hy
      refine ja_to (m := [(7, .p 3 1 0), (8, .p 4 1 0), (34, .a [.b sa, .n false .u64 a]), (35, .a [.b sa, .n false .u64 a]), (36, .a [.b sb, .n false .u64 b]), (38, .a [.b sc, .n false .u64 c])]) (by decide) rfl (cov_n 6 rfl rfl (.cons rfl (.cons rfl (.cons rfl (.cons rfl (.cons rfl (.cons rfl .nil))))))) S1_111010110000
    · refine js_h (hy_allocAt (id := 5) zero30 (by decide) rfl (by decide) rfl) (hd 9 rfl) ?_
      refine ja_to (m := [(7, .p 3 1 0), (8, .p 4 1 0), (9, .p 5 1 0), (34, .a [.b sa, .n false .u64 a]), (36, .a [.b sb, .n false .u64 b]), (38, .a [.b sc, .n false .u64 c])]) (by decide) rfl (cov_n 6 rfl rfl (.cons rfl (.cons rfl (.cons rfl (.cons rfl (.cons rfl (.cons rfl .nil))))))) S1_101010111000
  have S1_101010101000 : JA Try.prog ops1 7 #[true, false, true, false, true, false, true, false, true, false, false, false] Γ ([(7, .p 3 1 0), (9, .p 5 1 0), (34, .a [.b sa, .n false .u64 a]), (36, .a [.b sb, .n false .u64 b]), (38, .a [.b sc, .n false .u64 c])] ++ F0) [⟨27, 2, 0, true, [.b sa, .n false .u64 a]⟩, ⟨27, 2, 0, true, [.b sb, .n false .u64 b]⟩, ⟨27, 2, 0, true, [.b sc, .n false .u64 c]⟩, ⟨30, 2, 1, true, [.b false, .c (.slice none 0 0)]⟩, ⟨0, 1, 0, true, []⟩, ⟨30, 2, 1, true, [.b false, .c (.slice none 0 0)]⟩] Q1 := by
    subst ho; subst hF
    refine ja_2 1 7 ?_ ?_ rfl rfl (by kernel_rfl)
    · refine js_call Try.f27 (in_s sa a) rfl Try.func27 rfl rfl (ovL_cons rfl ovL_nil) (.cons (.a1 .b (.a1 .n .a0)) .nil) (hd 35 rfl) ?_ (fun ch hp => by simp at hp)
      rintro y hy; injection hy with hy; subst hy
      refine ja_to (m := [(7, .p 3 1 0), (9, .p 5 1 0), (34, .a [.b sa, .n false .u64 a]), (35, .a [.b sa, .n false .u64 a]), (36, .a [.b sb, .n false .u64 b]), (38, .a [.b sc, .n false .u64 c])]) (by decide) rfl (cov_n 6 rfl rfl (.cons rfl (.cons rfl (.cons rfl (.cons rfl (.cons rfl (.cons rfl .nil))))))) S1_111010101000
    · refine js_h (hy_allocAt (id := 4) zero30 (by decide) rfl (by decide) rfl) (hd 8 rfl) ?_
      refine ja_to (m := [(7, .p 3 1 0), (8, .p 4 1 0), (9, .p 5 1 0), (34, .a [.b sa, .n false .u64 a]), (36, .a [.b sb, .n false .u64 b]), (38, .a [.b sc, .n false .u64 c])]) (by decide) rfl (cov_n 6 rfl rfl (.cons rfl (.cons rfl (.cons rfl (.cons rfl (.cons rfl (.cons rfl .nil))))))) S1_101010111000
  have S1_101010100000 : JA Try.prog ops1 8 #[true, false, true, false, true, false, true, false, false, false, false, false] Γ ([(7, .p 3 1 0), (34, .a [.b sa, .n false .u64 a]), (36, .a [.b sb, .n false .u64 b]), (38, .a [.b sc, .n false .u64 c])] ++ F0) [⟨27, 2, 0, true, [.b sa, .n false .u64 a]⟩, ⟨27, 2, 0, true, [.b sb, .n false .u64 b]⟩, ⟨27, 2, 0, true, [.b sc, .n false .u64 c]⟩, ⟨30, 2, 1, true, [.b false, .c (.slice none 0 0)]⟩, ⟨0, 1, 0, true, []⟩, ⟨0, 1, 0, true, []⟩] Q1 := by
    subst ho; subst hF
    refine ja_3 1 7 8 ?_ ?_ ?_ rfl rfl rfl (by kernel_rfl)
    · refine js_call Try.f27 (in_s sa a) rfl Try.func27 rfl rfl (ovL_cons rfl ovL_nil) (.cons (.a1 .b (.a1 .n .a0)) .nil) (hd 35 rfl) ?_ (fun ch hp => by simp at hp)
      rintro y hy; injection hy with hy; subst hy
      refine ja_to (m := [(7, .p 3 1 0), (34, .a [.b sa, .n false .u64 a]), (35, .a [.b sa, .n false .u64 a]), (36, .a [.b sb, .n false .u64 b]), (38, .a [.b sc, .n false .u64 c])]) (by decide) rfl (cov_n 5 rfl rfl (.cons rfl (.cons rfl (.cons rfl (.cons rfl (.cons rfl .nil)))))) S1_111010100000
    · refine js_h (hy_allocAt (id := 4) zero30 (by decide) rfl (by decide) rfl) (hd 8 rfl) ?_
      refine ja_to (m := [(7, .p 3 1 0), (8, .p 4 1 0), (34, .a [.b sa, .n false .u64 a]), (36, .a [.b sb, .n false .u64 b]), (38, .a [.b sc, .n false .u64 c])]) (by decide) rfl (cov_n 5 rfl rfl (.cons rfl (.cons rfl (.cons rfl (.cons rfl (.cons rfl .nil)))))) S1_101010110000
    · refine js_h (hy_allocAt (id := 5) zero30 (by decide) rfl (by decide) rfl) (hd 9 rfl) ?_
      refine ja_to (m := [(7, .p 3 1 0), (9, .p 5 1 0), (34, .a [.b sa, .n false .u64 a]), (36, .a [.b sb, .n false .u64 b]), (38, .a [.b sc, .n false .u64 c])]) (by decide) rfl (cov_n 5 rfl rfl (.cons rfl (.cons rfl (.cons rfl (.cons rfl (.cons rfl .nil)))))) S1_101010101000
  have S1_101010011000 : JA Try.prog ops1 7 #[true, false, true, false, true, false, false, true, true, false, false, false] Γ ([(8, .p 4 1 0), (9, .p 5 1 0), (34, .a [.b sa, .n false .u64 a]), (36, .a [.b sb, .n false .u64 b]), (38, .a [.b sc, .n false .u64 c])] ++ F0) [⟨27, 2, 0, true, [.b sa, .n false .u64 a]⟩, ⟨27, 2, 0, true, [.b sb, .n false .u64 b]⟩, ⟨27, 2, 0, true, [.b sc, .n false .u64 c]⟩, ⟨0, 1, 0, true, []⟩, ⟨30, 2, 1, true, [.b false, .c (.slice none 0 0)]⟩, ⟨30, 2, 1, true, [.b false, .c (.slice none 0 0)]⟩] Q1 := by
    subst ho; subst hF
    refine ja_2 1 6 ?_ ?_ rfl rfl (by kernel_rfl)
    · refine js_call Try.f27 (in_s sa a) rfl Try.func27 rfl rfl (ovL_cons rfl ovL_nil) (.cons (.a1 .b (.a1 .n .a0)) .nil) (hd 35 rfl) ?_ (fun ch hp => by simp at hp)
      rintro y hy; injection hy with hy; subst hy
      refine ja_to (m := [(8, .p 4 1 0), (9, .p 5 1 0), (34, .a [.b sa, .n false .u64 a]), (35, .a [.b sa, .n false .u64 a]), (36, .a [.b sb, .n false .u64 b]), (38, .a [.b sc, .n false .u64 c])]) (by decide) rfl (cov_n 6 rfl rfl (.cons rfl (.cons rfl (.cons rfl (.cons rfl (.cons rfl (.cons rfl .nil))))))) S1_111010011000
    · refine js_h (hy_allocAt (id := 3) zero30 (by decide) rfl (by decide) rfl) (hd 7 rfl) ?_
      refine ja_to (m := [(7, .p 3 1 0), (8, .p 4 1 0), (9, .p 5 1 0), (34, .a [.b sa, .n false .u64 a]), (36, .a [.b sb, .n false .u64 b]), (38, .a [.b sc, .n false .u64 c])]) (by decide) rfl (cov_n 6 rfl rfl (.cons rfl (.cons rfl (.cons rfl (.cons rfl (.cons rfl (.cons rfl .nil))))))) S1_101010111000
  have S1_101010010000 : JA Try.prog ops1 8 #[true, false, true, false, true, false, false, true, false, false, false, false] Γ ([(8, .p 4 1 0), (34, .a [.b sa, .n false .u64 a]), (36, .a [.b sb, .n false .u64 b]), (38, .a [.b sc, .n false .u64 c])] ++ F0) [⟨27, 2, 0, true, [.b sa, .n false .u64 a]⟩, ⟨27, 2, 0, true, [.b sb, .n false .u64 b]⟩, ⟨27, 2, 0, true, [.b sc, .n false .u64 c]⟩, ⟨0, 1, 0, true, []⟩, ⟨30, 2, 1, true, [.b false, .c (.slice none 0 0)]⟩, ⟨0, 1, 0, true, []⟩] Q1 := by
    subst ho; subst hF
    refine ja_3 1 6 8 ?_ ?_ ?_ rfl rfl rfl (by kernel_rfl)
    · refine js_call Try.f27 (in_s sa a) rfl Try.func27 rfl rfl (ovL_cons rfl ovL_nil) (.cons (.a1 .b (.a1 .n .a0)) .nil) (hd 35 rfl) ?_ (fun ch hp => by simp at hp)
      rintro y hy; injection hy with hy; subst hy
      refine ja_to (m := [(8, .p 4 1 0), (34, .a [.b sa, .n false .u64 a]), (35, .a [.b sa, .n false .u64 a]), (36, .a [.b sb, .n false .u64 b]), (38, .a [.b sc, .n false .u64 c])]) (by decide) rfl (cov_n 5 rfl rfl (.cons rfl (.cons rfl (.cons rfl (.cons rfl (.cons rfl .nil)))))) S1_111010010000
    · refine js_h (hy_allocAt (id := 3) zero30 (by decide) rfl (by decide) rfl) (hd 7 rfl) ?_
      refine ja_to (m := [(7, .p 3 1 0), (8, .p 4 1 0), (34, .a [.b sa, .n false .u64 a]), (36, .a [.b sb, .n false .u64 b]), (38, .a [.b sc, .n false .u64 c])]) (by decide) rfl (cov_n 5 rfl rfl (.cons rfl (.cons rfl (.cons rfl (.cons rfl (.cons rfl .nil)))))) S1_101010110000
    · refine js_h (hy_allocAt (id := 5) zero30 (by decide) rfl (by decide) rfl) (hd 9 rfl) ?_
      refine ja_to (m := [(8, .p 4 1 0), (9, .p 5 1 0), (34, .a [.b sa, .n false .u64 a]), (36, .a [.b sb, .n false .u64 b]), (38, .a [.b sc, .n false .u64 c])]) (by decide) rfl (cov_n 5 rfl rfl (.cons rfl (.cons rfl (.cons rfl (.cons rfl (.cons rfl .nil)))))) S1_101010011000
  have S1_101010001000 : JA Try.prog ops1 8 #[true, false, true, false, true, false, false, false, true, false, false, false] Γ ([(9, .p 5 1 0), (34, .a [.b sa, .n false .u64 a]), (36, .a [.b sb, .n false .u64 b]), (38, .a [.b sc, .n false .u64 c])] ++ F0) [⟨27, 2, 0, true, [.b sa, .n false .u64 a]⟩, ⟨27, 2, 0, true, [.b sb, .n false .u64 b]⟩, ⟨27, 2, 0, true, [.b sc, .n false .u64 c]⟩, ⟨0, 1, 0, true, []⟩, ⟨0, 1, 0, true, []⟩, ⟨30, 2, 1, true, [.b false, .c (.slice none 0 0)]⟩] Q1 := by
    subst ho; subst hF
    refine ja_3 1 6 7 ?_ ?_ ?_ rfl rfl rfl (by kernel_rfl)
    · refine js_call Try.f27 (in_s sa a) rfl Try.func27 rfl rfl (ovL_cons rfl ovL_nil) (.cons (.a1 .b (.a1 .n .a0)) .nil) (hd 35 rfl) ?_ (fun ch hp => by simp at hp)
      rintro y hy; injection hy with hy; subst hy
      refine ja_to (m := [(9, .p 5 1 0), (34, .a [.b sa, .n false .u64 a]), (35, .a [.b sa, .n false .u64 a]), (36, .a [.b sb, .n false .u64 b]), (38, .a [.b sc, .n false .u64 c])]) (by decide) rfl (cov_n 5 rfl rfl (.cons rfl (.cons rfl (.cons rfl (.cons rfl (.cons rfl .nil)))))) S1_111010001000
    · refine js_h (hy_allocAt (id := 3) zero30 (by decide) rfl (by decide) rfl) (hd 7 rfl) ?_
      refine ja_to (m := [(7, .p 3 1 0), (9, .p 5 1 0), (34, .a [.b sa, .n false .u64 a]), (36, .a [.b sb, .n false .u64 b]), (38, .a [.b sc, .n false .u64 c])]) (by decide) rfl (cov_n 5 rfl rfl (.cons rfl (.cons rfl (.cons rfl (.cons rfl (.cons rfl .nil)))))) S1_101010101000
    · refine js_h (hy_allocAt (id := 4) zero30 (by decide) rfl (by decide) rfl) (hd 8 rfl) ?_
      refine ja_to (m := [(8, .p 4 1 0), (9, .p 5 1 0), (34, .a [.b sa, .n false .u64 a]), (36, .a [.b sb, .n false .u64 b]), (38, .a [.b sc, .n false .u64 c])]) (by decide) rfl (cov_n 5 rfl rfl (.cons rfl (.cons rfl (.cons rfl (.cons rfl (.cons rfl .nil)))))) S1_101010011000
  have S1_101010000000 : JA Try.prog ops1 9 #[true, false, true, false, true, false, false, false, false, false, false, false] Γ ([(34, .a [.b sa, .n false .u64 a]), (36, .a [.b sb, .n false .u64 b]), (38, .a [.b sc, .n false .u64 c])] ++ F0) [⟨27, 2, 0, true, [.b sa, .n false .u64 a]⟩, ⟨27, 2, 0, true, [.b sb, .n false .u64 b]⟩, ⟨27, 2, 0, true, [.b sc, .n false .u64 c]⟩, ⟨0, 1, 0, true, []⟩, ⟨0, 1, 0, true, []⟩, ⟨0, 1, 0, true, []⟩] Q1 := by
    subst ho; subst hF
    refine ja_4 1 6 7 8 ?_ ?_ ?_ ?_ rfl rfl rfl rfl (by kernel_rfl)
    · refine js_call Try.f27 (in_s sa a) rfl Try.func27 rfl rfl (ovL_cons rfl ovL_nil) (.cons (.a1 .b (.a1 .n .a0)) .nil) (hd 35 rfl) ?_ (fun ch hp => by simp at hp)
      rintro y hy; injection hy with hy; subst hy
      refine ja_to (m := [(34, .a [.b sa, .n false .u64 a]), (35, .a [.b sa, .n false .u64 a]), (36, .a [.b sb, .n false .u64 b]), (38, .a [.b sc, .n false .u64 c])]) (by decide) rfl (cov_n 4 rfl rfl (.cons rfl (.cons rfl (.cons rfl (.cons rfl .nil))))) S1_111010000000
    · refine js_h (hy_allocAt (id := 3) zero30 (by decide) rfl (by decide) rfl) (hd 7 rfl) ?_
      refine ja_to (m := [(7, .p 3 1 0), (34, .a [.b sa, .n false .u64 a]), (36, .a [.b sb, .n false .u64 b]), (38, .a [.b sc, .n false .u64 c])]) (by decide) rfl (cov_n 4 rfl rfl (.cons rfl (.cons rfl (.cons rfl (.cons rfl .nil))))) S1_101010100000
    · refine js_h (hy_allocAt (id := 4) zero30 (by decide) rfl (by decide) rfl) (hd 8 rfl) ?_
      refine ja_to (m := [(8, .p 4 1 0), (34, .a [.b sa, .n false .u64 a]), (36, .a [.b sb, .n false .u64 b]), (38, .a [.b sc, .n false .u64 c])]) (by decide) rfl (cov_n 4 rfl rfl (.cons rfl (.cons rfl (.cons rfl (.cons rfl .nil))))) S1_101010010000
    · refine js_h (hy_allocAt (id := 5) zero30 (by decide) rfl (by decide) rfl) (hd 9 rfl) ?_
      refine ja_to (m := [(9, .p 5 1 0), (34, .a [.b sa, .n false .u64 a]), (36, .a [.b sb, .n false .u64 b]), (38, .a [.b sc, .n false .u64 c])]) (by decide) rfl (cov_n 4 rfl rfl (.cons rfl (.cons rfl (.cons rfl (.cons rfl .nil))))) S1_101010001000
  have S1_101000000000 : JA Try.prog ops1 10 #[true, false, true, false, false, false, false, false, false, false, false, false] Γ ([(34, .a [.b sa, .n false .u64 a]), (36, .a [.b sb, .n false .u64 b])] ++ F0) [⟨27, 2, 0, true, [.b sa, .n false .u64 a]⟩, ⟨27, 2, 0, true, [.b sb, .n false .u64 b]⟩, ⟨27, 2, 0, true, [.b sc, .n false .u64 c]⟩, ⟨0, 1, 0, true, []⟩, ⟨0, 1, 0, true, []⟩, ⟨0, 1, 0, true, []⟩] Q1 := by
    subst ho; subst hF
    refine ja_l2 4 [5, 9, 10, 11] (lo_l (ly_lda agg27 rfl rfl rfl rfl) (hd 38 rfl)) rfl (by kernel_rfl) (by kernel_rfl) (by kernel_rfl) (by kernel_rfl) hpan ?_
    refine ja_to (m := [(34, .a [.b sa, .n false .u64 a]), (36, .a [.b sb, .n false .u64 b]), (38, .a [.b sc, .n false .u64 c])]) (by decide) rfl (cov_n 3 rfl rfl (.cons rfl (.cons rfl (.cons rfl .nil)))) S1_101010000000
  have S1_100000000000 : JA Try.prog ops1 11 #[true, false, false, false, false, false, false, false, false, false, false, false] Γ ([(34, .a [.b sa, .n false .u64 a])] ++ F0) [⟨27, 2, 0, true, [.b sa, .n false .u64 a]⟩, ⟨27, 2, 0, true, [.b sb, .n false .u64 b]⟩, ⟨27, 2, 0, true, [.b sc, .n false .u64 c]⟩, ⟨0, 1, 0, true, []⟩, ⟨0, 1, 0, true, []⟩, ⟨0, 1, 0, true, []⟩] Q1 := by
    subst ho; subst hF
    refine ja_l2 2 [3, 5, 9, 10, 11] (lo_l (ly_lda agg27 rfl rfl rfl rfl) (hd 36 rfl)) rfl (by kernel_rfl) (by kernel_rfl) (by kernel_rfl) (by kernel_rfl) hpan ?_
    refine ja_to (m := [(34, .a [.b sa, .n false .u64 a]), (36, .a [.b sb, .n false .u64 b])]) (by decide) rfl (cov_n 2 rfl rfl (.cons rfl (.cons rfl .nil))) S1_101000000000
  have S1_000000000000 : JA Try.prog ops1 12 #[false, false, false, false, false, false, false, false, false, false, false, false] Γ ([] ++ F0) [⟨27, 2, 0, true, [.b sa, .n false .u64 a]⟩, ⟨27, 2, 0, true, [.b sb, .n false .u64 b]⟩, ⟨27, 2, 0, true, [.b sc, .n false .u64 c]⟩, ⟨0, 1, 0, true, []⟩, ⟨0, 1, 0, true, []⟩, ⟨0, 1, 0, true, []⟩] Q1 := by
    subst ho; subst hF
    refine ja_l2 0 [1, 3, 5, 9, 10, 11] (lo_l (ly_lda agg27 rfl rfl rfl rfl) (hd 34 rfl)) rfl (by kernel_rfl) (by kernel_rfl) (by kernel_rfl) (by kernel_rfl) hpan ?_
    refine ja_to (m := [(34, .a [.b sa, .n false .u64 a])]) (by decide) rfl (cov_n 1 rfl rfl (.cons rfl .nil)) S1_100000000000
  subst ho; subst hF
  exact ja_to (m := []) (by decide) rfl (cov_n 0 rfl rfl .nil) S1_000000000000
end Go.Proofs.Ytcdipmjgpimmdaa.Vc
