/- Quotient and rest of whole numbers, by all five divisions, make the number, and each rest lies where its division says, of every input of bulk at most 1048576 Texts joined: Yr, Yz, RRests. -/
import Derived.Test.YtcdipmjgpimmdaaK6
import Derived.Test.YtcdipmjgpimmdaaRows
import Derived.WalkKit
import Derived.ProofKit
import Derived.OpenShut
import Derived.Carry
import Derived.JoinedCond
/- Contract of surdlaw06.WholeRests. -/
set_option linter.unusedVariables false
set_option linter.unusedSimpArgs false
namespace Go.Proofs.Ytcdipmjgpimmdaa.Vc
open Go Go.RowKit
theorem ZOf_v (v : Int) (hl : (lm v).length < 4294967296) : Spec Try.prog 33 [.b (decide (v < 0)), .n false .u64 (lm v)] (fun o => o = .ret (.a [.b (decide (v < 0)), .n false .u64 (dg v)])) := by
  have h := ZOf_s (decide (v < 0)) (lm v) hl (lm_u v)
  rwa [sv_lm] at h
theorem WSign_v (v : Int) (hl : (lm v).length < 4294967296) : Spec Try.prog 36 [.a [.b (decide (v < 0)), .n false .u64 (lm v)]] (fun o => o = .ret (.i .i64 (sgnI v))) := by
  have h := WSign_s (decide (v < 0)) (lm v) hl (lm_u v)
  rwa [sv_lm] at h
theorem zero_v (v : Int) (hl : (lm v).length < 4294967296) : Spec Try.prog 28 [.a [.b (decide (v < 0)), .n false .u64 (lm v)]] (fun o => o = .ret (.b (decide (sgnI v = 0)))) := by
  have h := zero_s (decide (v < 0)) (lm v) hl (lm_u v)
  rwa [sv_lm] at h

set_option maxHeartbeats 20000000 in
set_option maxRecDepth 100000 in
theorem WholeRests_s (sa sb : Bool) (a b : List Int) (ha : a.length < 67108864) (hb : b.length < 67108864) (ua : u64s a) (ub : u64s b) : Spec Try.prog 5 [.a [.b sa, .n false .u64 a], .a [.b sb, .n false .u64 b]] (fun o => o = .ret (.b true)) := by
  refine spec_of' [(0, .a [.b sa, .n false .u64 a]), (1, .a [.b sb, .n false .u64 b])] rfl Try.func5 rfl (Nat.le_of_ble_eq_true rfl) fun Γ hN hds hL hR => ?_
  have hd : ∀ d, Nat.blt d 224 = true → d < Γ.N := fun d h => by rw [hN]; exact Nat.le_of_ble_eq_true h
  have da := dg_lenN (s := sa) ua rfl
  have db := dg_lenN (s := sb) ub rfl
  refine jc_seq ?_
  refine jc_region ?_
  refine jo_h (hy_box (id := 0) (n := 2) rfl rfl rfl (by decide) rfl) (hd 2 rfl) ?_
  refine jo_h (hy_box (id := 1) (n := 2) rfl rfl rfl (by decide) rfl) (hd 3 rfl) ?_
  refine jo_l (ly_as rfl) (hd 4 rfl) ?_
  refine jo_nil ?_
  refine jc_seq ?_
  refine jc_hold 2 _ ?_
  refine jc_draw (n := 8) _ rfl mixed ?_
  refine ja_gen (fun _ _ _ _ h => h) fun ops1 Q1 F0 hpan ho hq hF => ?_
  have S1_11111111 : JA Try.prog ops1 0 #[true, true, true, true, true, true, true, true] Γ ([(5, .p 2 1 0), (6, .p 3 1 0), (28, .a [.b sa, .n false .u64 a]), (29, .a [.b sa, .n false .u64 a]), (30, .a [.b sb, .n false .u64 b]), (31, .a [.b sb, .n false .u64 b])] ++ F0) [⟨27, 2, 0, true, [.b sa, .n false .u64 a]⟩, ⟨27, 2, 0, true, [.b sb, .n false .u64 b]⟩, ⟨30, 2, 1, true, [.b sa, .n false .u64 a]⟩, ⟨30, 2, 1, true, [.b sb, .n false .u64 b]⟩] Q1 := by
    subst ho; subst hq; subst hF
    refine ja_nil (by kernel_rfl) ?_
    refine jc_seq ?_
    refine jc_seq ?_
    refine jc_H (H' := [⟨27, 2, 0, true, [.b sa, .n false .u64 a]⟩, ⟨27, 2, 0, true, [.b sb, .n false .u64 b]⟩, ⟨30, 2, 1, true, [.b sa, .n false .u64 a]⟩, ⟨30, 2, 1, true, [.b sb, .n false .u64 b]⟩]) rfl ?_
    refine jc_region ?_
    refine jo_l (ly_lda agg30 rfl rfl rfl rfl) (hd 32 rfl) ?_
    refine jo_call Try.f28 (zero_s sb b (by omega) ub) rfl Try.func28 rfl rfl (ovL_cons rfl ovL_nil) (.cons (.a1 .b (.a1 .n .a0)) .nil) (hd 33 rfl) ?_ (fun ch hp => by simp at hp)
    rintro y hy; injection hy with hy; subst hy
    refine jo_l (ly_mv rfl) (hd 34 rfl) ?_
    refine jo_ifp 34 rfl (fun h1 => ?_) (fun h1 => ?_)
    · refine jo_s 34 rfl rfl rfl (hd 35 rfl) ?_
      refine jo_s 34 rfl rfl rfl (hd 36 rfl) ?_
      refine jo_s 34 rfl rfl rfl (hd 37 rfl) ?_
      refine jo_s 34 rfl rfl rfl (hd 38 rfl) ?_
      refine jo_s 34 rfl rfl rfl (hd 39 rfl) ?_
      refine jo_l (ly_pick_t rfl rfl) (hd 40 rfl) ?_
      refine jo_l (ly_mv rfl) (hd 41 rfl) ?_
      refine jo_s 41 rfl rfl rfl (hd 42 rfl) ?_
      refine jo_s 41 rfl rfl rfl (hd 43 rfl) ?_
      as_aux_lemma =>
        refine jo_s 41 rfl rfl rfl (hd 44 rfl) ?_
        refine jo_s 41 rfl rfl rfl (hd 45 rfl) ?_
        refine jo_s 41 rfl rfl rfl (hd 46 rfl) ?_
        refine jo_l (ly_pick_t rfl rfl) (hd 47 rfl) ?_
        refine jo_nil ?_
        refine jc_litt rfl ?_
        refine jc_seq ?_
        refine jc_region ?_
        refine jo_call Try.f10 (awake_s) rfl Try.func10 rfl rfl ovL_nil .nil (hd 48 rfl) ?_ (fun ch hp => by simp at hp)
        rintro y hy; injection hy with hy; subst hy
        refine jo_l (ly_as rfl) (hd 4 rfl) ?_
        refine jo_nil ?_
        refine jc_ret ?_
        refine ⟨_, _, (.cons rfl .nil), .b, ?_⟩
        exact rfl
    · have h0 : (sv sb b) ≠ 0 := fun e => h1 (sgnI_0.2 e)
      refine jo_g 34 rfl rfl (ly_lda agg27 rfl rfl rfl rfl) (hd 35 rfl) ?_
      refine jo_callg Try.f12 34 rfl rfl (of_s sa a (by omega) ua) rfl Try.func12 rfl rfl (ovL_cons rfl ovL_nil) (.cons (.a1 .b (.a1 .n .a0)) .nil) (hd 36 rfl) ?_ (fun ch hp => by simp at hp)
      rintro y hy; injection hy with hy; subst hy
      refine jo_g 34 rfl rfl (ly_field fl1_35_1 rfl rfl) (hd 37 rfl) ?_
      refine jo_callg Try.f29 34 rfl rfl (Len_s (sv sa a) (by omega)) rfl Try.func29 rfl rfl (ovL_cons rfl ovL_nil) (.cons .n .nil) (hd 38 rfl) ?_ (fun ch hp => by simp at hp)
      rintro y hy; injection hy with hy; subst hy
      refine jo_g 34 rfl rfl (ly_ge rfl rfl) (hd 39 rfl) ?_
      refine jo_l (ly_pick_f rfl rfl) (hd 40 rfl) ?_
      refine jo_l (ly_mv rfl) (hd 41 rfl) ?_
      refine jo_ifp 41 rfl (fun h3 => ?_) (fun h3 => ?_)
      · refine jo_s 41 rfl rfl rfl (hd 42 rfl) ?_
        refine jo_s 41 rfl rfl rfl (hd 43 rfl) ?_
        as_aux_lemma =>
          refine jo_s 41 rfl rfl rfl (hd 44 rfl) ?_
          refine jo_s 41 rfl rfl rfl (hd 45 rfl) ?_
          refine jo_s 41 rfl rfl rfl (hd 46 rfl) ?_
          refine jo_l (ly_pick_t rfl rfl) (hd 47 rfl) ?_
          refine jo_nil ?_
          refine jc_litt rfl ?_
          refine jc_seq ?_
          refine jc_region ?_
          refine jo_call Try.f10 (awake_s) rfl Try.func10 rfl rfl ovL_nil .nil (hd 48 rfl) ?_ (fun ch hp => by simp at hp)
          rintro y hy; injection hy with hy; subst hy
          refine jo_l (ly_as rfl) (hd 4 rfl) ?_
          refine jo_nil ?_
          refine jc_ret ?_
          refine ⟨_, _, (.cons rfl .nil), .b, ?_⟩
          exact rfl
      · have hlv : lenV (sv sa a) ≤ 67108864 := by omega
        refine jo_g 41 rfl rfl (ly_lda agg27 rfl rfl rfl rfl) (hd 42 rfl) ?_
        refine jo_callg Try.f12 41 rfl rfl (of_s sb b (by omega) ub) rfl Try.func12 rfl rfl (ovL_cons rfl ovL_nil) (.cons (.a1 .b (.a1 .n .a0)) .nil) (hd 43 rfl) ?_ (fun ch hp => by simp at hp)
        rintro y hy; injection hy with hy; subst hy
        as_aux_lemma =>
          refine jo_g 41 rfl rfl (ly_field fl1_35_1 rfl rfl) (hd 44 rfl) ?_
          refine jo_callg Try.f29 41 rfl rfl (Len_s (sv sb b) (by omega)) rfl Try.func29 rfl rfl (ovL_cons rfl ovL_nil) (.cons .n .nil) (hd 45 rfl) ?_ (fun ch hp => by simp at hp)
          rintro y hy; injection hy with hy; subst hy
          refine jo_g 41 rfl rfl (ly_ge rfl rfl) (hd 46 rfl) ?_
          refine jo_l (ly_pick_f rfl rfl) (hd 47 rfl) ?_
          refine jo_nil ?_
          refine jc_if rfl (fun h5 => ?_) (fun h5 => ?_)
          · refine jc_seq ?_
            refine jc_region ?_
            refine jo_call Try.f10 (awake_s) rfl Try.func10 rfl rfl ovL_nil .nil (hd 48 rfl) ?_ (fun ch hp => by simp at hp)
            rintro y hy; injection hy with hy; subst hy
            refine jo_l (ly_as rfl) (hd 4 rfl) ?_
            refine jo_nil ?_
            refine jc_ret ?_
            refine ⟨_, _, (.cons rfl .nil), .b, ?_⟩
            exact rfl
          · have hlw : lenV (sv sb b) ≤ 67108864 := by omega
            have lQ0 := lenV_lm (Nat.le_trans (wq_len (k := 0) (v := (sv sa a)) h0).1 hlv)
            have lR0 := lenV_lm (Nat.le_trans (wq_len (k := 0) (v := (sv sa a)) h0).2 hlw)
            have dQ0 := dg_mono (wq_abs (k := 0) (v := (sv sa a)) h0).1
            have dR0 := dg_mono (wq_abs (k := 0) (v := (sv sa a)) h0).2
            have lQ1 := lenV_lm (Nat.le_trans (wq_len (k := 1) (v := (sv sa a)) h0).1 hlv)
            have lR1 := lenV_lm (Nat.le_trans (wq_len (k := 1) (v := (sv sa a)) h0).2 hlw)
            have dQ1 := dg_mono (wq_abs (k := 1) (v := (sv sa a)) h0).1
            have dR1 := dg_mono (wq_abs (k := 1) (v := (sv sa a)) h0).2
            have lQ2 := lenV_lm (Nat.le_trans (wq_len (k := 2) (v := (sv sa a)) h0).1 hlv)
            have lR2 := lenV_lm (Nat.le_trans (wq_len (k := 2) (v := (sv sa a)) h0).2 hlw)
            have dQ2 := dg_mono (wq_abs (k := 2) (v := (sv sa a)) h0).1
            have dR2 := dg_mono (wq_abs (k := 2) (v := (sv sa a)) h0).2
            have lQ3 := lenV_lm (Nat.le_trans (wq_len (k := 3) (v := (sv sa a)) h0).1 hlv)
            have lR3 := lenV_lm (Nat.le_trans (wq_len (k := 3) (v := (sv sa a)) h0).2 hlw)
            have dQ3 := dg_mono (wq_abs (k := 3) (v := (sv sa a)) h0).1
            have dR3 := dg_mono (wq_abs (k := 3) (v := (sv sa a)) h0).2
            have lQ4 := lenV_lm (Nat.le_trans (wq_len (k := 4) (v := (sv sa a)) h0).1 hlv)
            have lR4 := lenV_lm (Nat.le_trans (wq_len (k := 4) (v := (sv sa a)) h0).2 hlw)
            have dQ4 := dg_mono (wq_abs (k := 4) (v := (sv sa a)) h0).1
            have dR4 := dg_mono (wq_abs (k := 4) (v := (sv sa a)) h0).2
            have dnb : (dg (((sv sb b)).natAbs : Int)).length = (dg (sv sb b)).length := congrArg List.length dg_abs
            have dn3 : (dg ((((sv sa a) - wq 3 (sv sa a) (sv sb b) * (sv sb b))).natAbs : Int)).length = (dg ((sv sa a) - wq 3 (sv sa a) (sv sb b) * (sv sb b))).length := congrArg List.length dg_abs
            have ds3 := dg_add_len ((((sv sa a) - wq 3 (sv sa a) (sv sb b) * (sv sb b))).natAbs : Int) ((((sv sa a) - wq 3 (sv sa a) (sv sb b) * (sv sb b))).natAbs : Int)
            have dgap := dg_sub_len (wq 2 (sv sa a) (sv sb b)) (wq 1 (sv sa a) (sv sb b))
            have dst : (dg (if ((sv sa a) - wq 1 (sv sa a) (sv sb b) * (sv sb b)) = 0 then 0 else 1)).length ≤ 1 := by split; rw [dg_0]; exact Nat.zero_le _; rw [dg_1]; exact Nat.le_refl _
            have dn0 : (dg ((((sv sa a) - wq 0 (sv sa a) (sv sb b) * (sv sb b))).natAbs : Int)).length = (dg ((sv sa a) - wq 0 (sv sa a) (sv sb b) * (sv sb b))).length := congrArg List.length dg_abs
            have dn1 : (dg ((((sv sa a) - wq 1 (sv sa a) (sv sb b) * (sv sb b))).natAbs : Int)).length = (dg ((sv sa a) - wq 1 (sv sa a) (sv sb b) * (sv sb b))).length := congrArg List.length dg_abs
            have dn2 : (dg ((((sv sa a) - wq 2 (sv sa a) (sv sb b) * (sv sb b))).natAbs : Int)).length = (dg ((sv sa a) - wq 2 (sv sa a) (sv sb b) * (sv sb b))).length := congrArg List.length dg_abs
            refine jc_skip ?_
            refine jc_seq ?_
            refine jc_H (H' := [⟨27, 2, 0, true, [.b sa, .n false .u64 a]⟩, ⟨27, 2, 0, true, [.b sb, .n false .u64 b]⟩, ⟨30, 2, 1, true, [.b sa, .n false .u64 a]⟩, ⟨30, 2, 1, true, [.b sb, .n false .u64 b]⟩]) rfl ?_
            refine jc_region ?_
            refine jo_l (ly_lda agg30 rfl rfl rfl rfl) (hd 50 rfl) ?_
            refine jo_l (ly_lda agg30 rfl rfl rfl rfl) (hd 51 rfl) ?_
            refine jo_call Try.f19 (Quo_z sa sb a b (sv sa a) (sv sb b) (by omega) (by omega) ua ub rfl rfl hlv hlw h0) rfl Try.func19 rfl rfl (ovL_cons rfl (ovL_cons rfl ovL_nil)) (.cons (.a1 .b (.a1 .n .a0)) (.cons (.a1 .b (.a1 .n .a0)) .nil)) (hd 52 rfl) ?_ (fun ch hp => by simp at hp)
            rintro y hy; injection hy with hy; subst hy
            refine jo_l (ly_mv rfl) (hd 49 rfl) ?_
            refine jo_l (ly_ext rfl rfl) (hd 53 rfl) ?_
            refine jo_l (ly_ext rfl rfl) (hd 54 rfl) ?_
            refine jo_l (ly_ext rfl rfl) (hd 55 rfl) ?_
            refine jo_h (hy_alloc (id := 4) zero30 (by decide) rfl (by decide) rfl) (hd 7 rfl) ?_
            refine jo_h (hy_alloc (id := 5) zero30 (by decide) rfl (by decide) rfl) (hd 8 rfl) ?_
            refine jo_st (sy_store rfl rfl rfl siz30 rfl rfl (Nat.le_of_ble_eq_true rfl)) ?_
            refine jo_st (sy_store rfl rfl rfl siz30 rfl rfl (Nat.le_of_ble_eq_true rfl)) ?_
            refine jo_l (ly_as rfl) (hd 9 rfl) ?_
            refine jo_nil ?_
            refine jc_seq ?_
            refine jc_H (H' := [⟨27, 2, 0, true, [.b sa, .n false .u64 a]⟩, ⟨27, 2, 0, true, [.b sb, .n false .u64 b]⟩, ⟨30, 2, 1, true, [.b sa, .n false .u64 a]⟩, ⟨30, 2, 1, true, [.b sb, .n false .u64 b]⟩, ⟨30, 2, 0, true, [.b (decide ((wq 0 (sv sa a) (sv sb b)) < 0)), .n true .u64 (lm (wq 0 (sv sa a) (sv sb b)))]⟩, ⟨30, 2, 0, true, [.b (decide (((sv sa a) - wq 0 (sv sa a) (sv sb b) * (sv sb b)) < 0)), .n true .u64 (lm ((sv sa a) - wq 0 (sv sa a) (sv sb b) * (sv sb b)))]⟩]) rfl ?_
            refine jc_region ?_
            refine jo_l (ly_lda agg30 rfl rfl rfl rfl) (hd 57 rfl) ?_
            refine jo_l (ly_lda agg30 rfl rfl rfl rfl) (hd 58 rfl) ?_
            refine jo_call Try.f20 (Floor_z sa sb a b (sv sa a) (sv sb b) (by omega) (by omega) ua ub rfl rfl hlv hlw h0) rfl Try.func20 rfl rfl (ovL_cons rfl (ovL_cons rfl ovL_nil)) (.cons (.a1 .b (.a1 .n .a0)) (.cons (.a1 .b (.a1 .n .a0)) .nil)) (hd 59 rfl) ?_ (fun ch hp => by simp at hp)
            rintro y hy; injection hy with hy; subst hy
            refine jo_l (ly_mv rfl) (hd 56 rfl) ?_
            refine jo_l (ly_ext rfl rfl) (hd 60 rfl) ?_
            refine jo_l (ly_ext rfl rfl) (hd 61 rfl) ?_
            refine jo_l (ly_ext rfl rfl) (hd 62 rfl) ?_
            refine jo_h (hy_alloc (id := 6) zero30 (by decide) rfl (by decide) rfl) (hd 10 rfl) ?_
            refine jo_h (hy_alloc (id := 7) zero30 (by decide) rfl (by decide) rfl) (hd 11 rfl) ?_
            refine jo_st (sy_store rfl rfl rfl siz30 rfl rfl (Nat.le_of_ble_eq_true rfl)) ?_
            refine jo_st (sy_store rfl rfl rfl siz30 rfl rfl (Nat.le_of_ble_eq_true rfl)) ?_
            refine jo_l (ly_as rfl) (hd 12 rfl) ?_
            refine jo_nil ?_
            refine jc_seq ?_
            refine jc_H (H' := [⟨27, 2, 0, true, [.b sa, .n false .u64 a]⟩, ⟨27, 2, 0, true, [.b sb, .n false .u64 b]⟩, ⟨30, 2, 1, true, [.b sa, .n false .u64 a]⟩, ⟨30, 2, 1, true, [.b sb, .n false .u64 b]⟩, ⟨30, 2, 0, true, [.b (decide ((wq 0 (sv sa a) (sv sb b)) < 0)), .n true .u64 (lm (wq 0 (sv sa a) (sv sb b)))]⟩, ⟨30, 2, 0, true, [.b (decide (((sv sa a) - wq 0 (sv sa a) (sv sb b) * (sv sb b)) < 0)), .n true .u64 (lm ((sv sa a) - wq 0 (sv sa a) (sv sb b) * (sv sb b)))]⟩, ⟨30, 2, 0, true, [.b (decide ((wq 1 (sv sa a) (sv sb b)) < 0)), .n true .u64 (lm (wq 1 (sv sa a) (sv sb b)))]⟩, ⟨30, 2, 0, true, [.b (decide (((sv sa a) - wq 1 (sv sa a) (sv sb b) * (sv sb b)) < 0)), .n true .u64 (lm ((sv sa a) - wq 1 (sv sa a) (sv sb b) * (sv sb b)))]⟩]) rfl ?_
            refine jc_region ?_
            refine jo_l (ly_lda agg30 rfl rfl rfl rfl) (hd 64 rfl) ?_
            refine jo_l (ly_lda agg30 rfl rfl rfl rfl) (hd 65 rfl) ?_
            refine jo_call Try.f21 (Ceil_z sa sb a b (sv sa a) (sv sb b) (by omega) (by omega) ua ub rfl rfl hlv hlw h0) rfl Try.func21 rfl rfl (ovL_cons rfl (ovL_cons rfl ovL_nil)) (.cons (.a1 .b (.a1 .n .a0)) (.cons (.a1 .b (.a1 .n .a0)) .nil)) (hd 66 rfl) ?_ (fun ch hp => by simp at hp)
            rintro y hy; injection hy with hy; subst hy
            refine jo_l (ly_mv rfl) (hd 63 rfl) ?_
            refine jo_l (ly_ext rfl rfl) (hd 67 rfl) ?_
            refine jo_l (ly_ext rfl rfl) (hd 68 rfl) ?_
            refine jo_l (ly_ext rfl rfl) (hd 69 rfl) ?_
            refine jo_h (hy_alloc (id := 8) zero30 (by decide) rfl (by decide) rfl) (hd 13 rfl) ?_
            refine jo_h (hy_alloc (id := 9) zero30 (by decide) rfl (by decide) rfl) (hd 14 rfl) ?_
            refine jo_st (sy_store rfl rfl rfl siz30 rfl rfl (Nat.le_of_ble_eq_true rfl)) ?_
            refine jo_st (sy_store rfl rfl rfl siz30 rfl rfl (Nat.le_of_ble_eq_true rfl)) ?_
            refine jo_l (ly_as rfl) (hd 15 rfl) ?_
            refine jo_nil ?_
            refine jc_seq ?_
            refine jc_H (H' := [⟨27, 2, 0, true, [.b sa, .n false .u64 a]⟩, ⟨27, 2, 0, true, [.b sb, .n false .u64 b]⟩, ⟨30, 2, 1, true, [.b sa, .n false .u64 a]⟩, ⟨30, 2, 1, true, [.b sb, .n false .u64 b]⟩, ⟨30, 2, 0, true, [.b (decide ((wq 0 (sv sa a) (sv sb b)) < 0)), .n true .u64 (lm (wq 0 (sv sa a) (sv sb b)))]⟩, ⟨30, 2, 0, true, [.b (decide (((sv sa a) - wq 0 (sv sa a) (sv sb b) * (sv sb b)) < 0)), .n true .u64 (lm ((sv sa a) - wq 0 (sv sa a) (sv sb b) * (sv sb b)))]⟩, ⟨30, 2, 0, true, [.b (decide ((wq 1 (sv sa a) (sv sb b)) < 0)), .n true .u64 (lm (wq 1 (sv sa a) (sv sb b)))]⟩, ⟨30, 2, 0, true, [.b (decide (((sv sa a) - wq 1 (sv sa a) (sv sb b) * (sv sb b)) < 0)), .n true .u64 (lm ((sv sa a) - wq 1 (sv sa a) (sv sb b) * (sv sb b)))]⟩, ⟨30, 2, 0, true, [.b (decide ((wq 2 (sv sa a) (sv sb b)) < 0)), .n true .u64 (lm (wq 2 (sv sa a) (sv sb b)))]⟩, ⟨30, 2, 0, true, [.b (decide (((sv sa a) - wq 2 (sv sa a) (sv sb b) * (sv sb b)) < 0)), .n true .u64 (lm ((sv sa a) - wq 2 (sv sa a) (sv sb b) * (sv sb b)))]⟩]) rfl ?_
            refine jc_region ?_
            refine jo_l (ly_lda agg30 rfl rfl rfl rfl) (hd 71 rfl) ?_
            refine jo_l (ly_lda agg30 rfl rfl rfl rfl) (hd 72 rfl) ?_
            refine jo_call Try.f22 (Near_z sa sb a b (sv sa a) (sv sb b) (by omega) (by omega) ua ub rfl rfl hlv hlw h0) rfl Try.func22 rfl rfl (ovL_cons rfl (ovL_cons rfl ovL_nil)) (.cons (.a1 .b (.a1 .n .a0)) (.cons (.a1 .b (.a1 .n .a0)) .nil)) (hd 73 rfl) ?_ (fun ch hp => by simp at hp)
            rintro y hy; injection hy with hy; subst hy
            refine jo_l (ly_mv rfl) (hd 70 rfl) ?_
            refine jo_l (ly_ext rfl rfl) (hd 74 rfl) ?_
            refine jo_l (ly_ext rfl rfl) (hd 75 rfl) ?_
            refine jo_l (ly_ext rfl rfl) (hd 76 rfl) ?_
            refine jo_h (hy_alloc (id := 10) zero30 (by decide) rfl (by decide) rfl) (hd 16 rfl) ?_
            refine jo_h (hy_alloc (id := 11) zero30 (by decide) rfl (by decide) rfl) (hd 17 rfl) ?_
            refine jo_st (sy_store rfl rfl rfl siz30 rfl rfl (Nat.le_of_ble_eq_true rfl)) ?_
            refine jo_st (sy_store rfl rfl rfl siz30 rfl rfl (Nat.le_of_ble_eq_true rfl)) ?_
            refine jo_l (ly_as rfl) (hd 18 rfl) ?_
            refine jo_nil ?_
            refine jc_seq ?_
            refine jc_H (H' := [⟨27, 2, 0, true, [.b sa, .n false .u64 a]⟩, ⟨27, 2, 0, true, [.b sb, .n false .u64 b]⟩, ⟨30, 2, 1, true, [.b sa, .n false .u64 a]⟩, ⟨30, 2, 1, true, [.b sb, .n false .u64 b]⟩, ⟨30, 2, 0, true, [.b (decide ((wq 0 (sv sa a) (sv sb b)) < 0)), .n true .u64 (lm (wq 0 (sv sa a) (sv sb b)))]⟩, ⟨30, 2, 0, true, [.b (decide (((sv sa a) - wq 0 (sv sa a) (sv sb b) * (sv sb b)) < 0)), .n true .u64 (lm ((sv sa a) - wq 0 (sv sa a) (sv sb b) * (sv sb b)))]⟩, ⟨30, 2, 0, true, [.b (decide ((wq 1 (sv sa a) (sv sb b)) < 0)), .n true .u64 (lm (wq 1 (sv sa a) (sv sb b)))]⟩, ⟨30, 2, 0, true, [.b (decide (((sv sa a) - wq 1 (sv sa a) (sv sb b) * (sv sb b)) < 0)), .n true .u64 (lm ((sv sa a) - wq 1 (sv sa a) (sv sb b) * (sv sb b)))]⟩, ⟨30, 2, 0, true, [.b (decide ((wq 2 (sv sa a) (sv sb b)) < 0)), .n true .u64 (lm (wq 2 (sv sa a) (sv sb b)))]⟩, ⟨30, 2, 0, true, [.b (decide (((sv sa a) - wq 2 (sv sa a) (sv sb b) * (sv sb b)) < 0)), .n true .u64 (lm ((sv sa a) - wq 2 (sv sa a) (sv sb b) * (sv sb b)))]⟩, ⟨30, 2, 0, true, [.b (decide ((wq 3 (sv sa a) (sv sb b)) < 0)), .n true .u64 (lm (wq 3 (sv sa a) (sv sb b)))]⟩, ⟨30, 2, 0, true, [.b (decide (((sv sa a) - wq 3 (sv sa a) (sv sb b) * (sv sb b)) < 0)), .n true .u64 (lm ((sv sa a) - wq 3 (sv sa a) (sv sb b) * (sv sb b)))]⟩]) rfl ?_
            refine jc_region ?_
            refine jo_l (ly_lda agg30 rfl rfl rfl rfl) (hd 78 rfl) ?_
            refine jo_l (ly_lda agg30 rfl rfl rfl rfl) (hd 79 rfl) ?_
            refine jo_call Try.f23 (Euclid_z sa sb a b (sv sa a) (sv sb b) (by omega) (by omega) ua ub rfl rfl hlv hlw h0) rfl Try.func23 rfl rfl (ovL_cons rfl (ovL_cons rfl ovL_nil)) (.cons (.a1 .b (.a1 .n .a0)) (.cons (.a1 .b (.a1 .n .a0)) .nil)) (hd 80 rfl) ?_ (fun ch hp => by simp at hp)
            rintro y hy; injection hy with hy; subst hy
            refine jo_l (ly_mv rfl) (hd 77 rfl) ?_
            refine jo_l (ly_ext rfl rfl) (hd 81 rfl) ?_
            refine jo_l (ly_ext rfl rfl) (hd 82 rfl) ?_
            refine jo_l (ly_ext rfl rfl) (hd 83 rfl) ?_
            refine jo_h (hy_alloc (id := 12) zero30 (by decide) rfl (by decide) rfl) (hd 19 rfl) ?_
            refine jo_h (hy_alloc (id := 13) zero30 (by decide) rfl (by decide) rfl) (hd 20 rfl) ?_
            refine jo_st (sy_store rfl rfl rfl siz30 rfl rfl (Nat.le_of_ble_eq_true rfl)) ?_
            refine jo_st (sy_store rfl rfl rfl siz30 rfl rfl (Nat.le_of_ble_eq_true rfl)) ?_
            refine jo_l (ly_as rfl) (hd 21 rfl) ?_
            refine jo_nil ?_
            refine jc_seq ?_
            refine jc_seq ?_
            refine jc_H (H' := [⟨27, 2, 0, true, [.b sa, .n false .u64 a]⟩, ⟨27, 2, 0, true, [.b sb, .n false .u64 b]⟩, ⟨30, 2, 1, true, [.b sa, .n false .u64 a]⟩, ⟨30, 2, 1, true, [.b sb, .n false .u64 b]⟩, ⟨30, 2, 0, true, [.b (decide ((wq 0 (sv sa a) (sv sb b)) < 0)), .n true .u64 (lm (wq 0 (sv sa a) (sv sb b)))]⟩, ⟨30, 2, 0, true, [.b (decide (((sv sa a) - wq 0 (sv sa a) (sv sb b) * (sv sb b)) < 0)), .n true .u64 (lm ((sv sa a) - wq 0 (sv sa a) (sv sb b) * (sv sb b)))]⟩, ⟨30, 2, 0, true, [.b (decide ((wq 1 (sv sa a) (sv sb b)) < 0)), .n true .u64 (lm (wq 1 (sv sa a) (sv sb b)))]⟩, ⟨30, 2, 0, true, [.b (decide (((sv sa a) - wq 1 (sv sa a) (sv sb b) * (sv sb b)) < 0)), .n true .u64 (lm ((sv sa a) - wq 1 (sv sa a) (sv sb b) * (sv sb b)))]⟩, ⟨30, 2, 0, true, [.b (decide ((wq 2 (sv sa a) (sv sb b)) < 0)), .n true .u64 (lm (wq 2 (sv sa a) (sv sb b)))]⟩, ⟨30, 2, 0, true, [.b (decide (((sv sa a) - wq 2 (sv sa a) (sv sb b) * (sv sb b)) < 0)), .n true .u64 (lm ((sv sa a) - wq 2 (sv sa a) (sv sb b) * (sv sb b)))]⟩, ⟨30, 2, 0, true, [.b (decide ((wq 3 (sv sa a) (sv sb b)) < 0)), .n true .u64 (lm (wq 3 (sv sa a) (sv sb b)))]⟩, ⟨30, 2, 0, true, [.b (decide (((sv sa a) - wq 3 (sv sa a) (sv sb b) * (sv sb b)) < 0)), .n true .u64 (lm ((sv sa a) - wq 3 (sv sa a) (sv sb b) * (sv sb b)))]⟩, ⟨30, 2, 0, true, [.b (decide ((wq 4 (sv sa a) (sv sb b)) < 0)), .n true .u64 (lm (wq 4 (sv sa a) (sv sb b)))]⟩, ⟨30, 2, 0, true, [.b (decide (((sv sa a) - wq 4 (sv sa a) (sv sb b) * (sv sb b)) < 0)), .n true .u64 (lm ((sv sa a) - wq 4 (sv sa a) (sv sb b) * (sv sb b)))]⟩]) rfl ?_
            refine jc_region ?_
            refine jo_l (ly_mv rfl) (hd 84 rfl) ?_
            refine jo_l (ly_mv rfl) (hd 85 rfl) ?_
            refine jo_l (ly_mv rfl) (hd 86 rfl) ?_
            refine jo_l (ly_mv rfl) (hd 87 rfl) ?_
            refine jo_l (ly_mv rfl) (hd 88 rfl) ?_
            refine jo_h (hy_lit (id := 14) (xs := [.tmp 84, .tmp 85, .tmp 86, .tmp 87, .tmp 88]) el83 rfl (ovL_cons rfl (ovL_cons rfl (ovL_cons rfl (ovL_cons rfl (ovL_cons rfl ovL_nil))))) rfl (all2_of rfl) (by decide) rfl) (hd 89 rfl) ?_
            refine jo_frz (k := .i64) (l := [0, 0, 0, 0, 0]) (l' := [0, 0, 0, 0, 0]) 89 rfl rfl (by decide) rfl hL ?_
            refine jo_call Try.f30 (all_s [0, 0, 0, 0, 0] (by decide)) rfl Try.func30 rfl rfl (ovL_cons rfl ovL_nil) (.cons .n .nil) (hd 90 rfl) ?_ (fun ch hp => by simp at hp)
            rintro y hy; injection hy with hy; subst hy
            refine jo_l (ly_not rfl) (hd 91 rfl) ?_
            refine jo_nil ?_
            refine jc_ifn rfl (fun h6 => ?_) (fun h6 => ?_)
            · exact absurd (by simp) h6
            · refine jc_skip ?_
              refine jc_seq ?_
              refine jc_seq ?_
              refine jc_region ?_
              refine jo_l (ly_lda agg30 rfl rfl rfl rfl) (hd 92 rfl) ?_
              refine jo_l (ly_lda agg30 rfl rfl rfl rfl) (hd 93 rfl) ?_
              refine jo_l (ly_lda agg30 rfl rfl rfl rfl) (hd 94 rfl) ?_
              refine jo_l (ly_lda agg30 rfl rfl rfl rfl) (hd 95 rfl) ?_
              refine jo_call Try.f31 (rest_s sa sb (decide ((wq 0 (sv sa a) (sv sb b)) < 0)) (decide (((sv sa a) - wq 0 (sv sa a) (sv sb b) * (sv sb b)) < 0)) a b (lm (wq 0 (sv sa a) (sv sb b))) (lm ((sv sa a) - wq 0 (sv sa a) (sv sb b) * (sv sb b))) (by omega) (by omega) (by omega) (by omega) ua ub (lm_u _) (lm_u _) (by rw [sv_lm, sv_lm]; omega)) rfl Try.func31 rfl rfl (ovL_cons rfl (ovL_cons rfl (ovL_cons rfl (ovL_cons rfl ovL_nil)))) (.cons (.a1 .b (.a1 .n .a0)) (.cons (.a1 .b (.a1 .n .a0)) (.cons (.a1 .b (.a1 .n .a0)) (.cons (.a1 .b (.a1 .n .a0)) .nil)))) (hd 96 rfl) ?_ (fun ch hp => by simp at hp)
              rintro y hy; injection hy with hy; subst hy
              refine jo_l (ly_not rfl) (hd 97 rfl) ?_
              refine jo_l (ly_mv rfl) (hd 98 rfl) ?_
              refine jo_g 98 rfl rfl (ly_lda agg30 rfl rfl rfl rfl) (hd 99 rfl) ?_
              refine jo_g 98 rfl rfl (ly_lda agg30 rfl rfl rfl rfl) (hd 100 rfl) ?_
              refine jo_g 98 rfl rfl (ly_lda agg30 rfl rfl rfl rfl) (hd 101 rfl) ?_
              refine jo_g 98 rfl rfl (ly_lda agg30 rfl rfl rfl rfl) (hd 102 rfl) ?_
              refine jo_callg Try.f31 98 rfl rfl (rest_s sa sb (decide ((wq 1 (sv sa a) (sv sb b)) < 0)) (decide (((sv sa a) - wq 1 (sv sa a) (sv sb b) * (sv sb b)) < 0)) a b (lm (wq 1 (sv sa a) (sv sb b))) (lm ((sv sa a) - wq 1 (sv sa a) (sv sb b) * (sv sb b))) (by omega) (by omega) (by omega) (by omega) ua ub (lm_u _) (lm_u _) (by rw [sv_lm, sv_lm]; omega)) rfl Try.func31 rfl rfl (ovL_cons rfl (ovL_cons rfl (ovL_cons rfl (ovL_cons rfl ovL_nil)))) (.cons (.a1 .b (.a1 .n .a0)) (.cons (.a1 .b (.a1 .n .a0)) (.cons (.a1 .b (.a1 .n .a0)) (.cons (.a1 .b (.a1 .n .a0)) .nil)))) (hd 103 rfl) ?_ (fun ch hp => by simp at hp)
              rintro y hy; injection hy with hy; subst hy
              as_aux_lemma =>
                refine jo_g 98 rfl rfl (ly_not rfl) (hd 104 rfl) ?_
                refine jo_l (ly_pick_f rfl rfl) (hd 105 rfl) ?_
                refine jo_l (ly_mv rfl) (hd 106 rfl) ?_
                refine jo_g 106 rfl rfl (ly_lda agg30 rfl rfl rfl rfl) (hd 107 rfl) ?_
                refine jo_g 106 rfl rfl (ly_lda agg30 rfl rfl rfl rfl) (hd 108 rfl) ?_
                refine jo_g 106 rfl rfl (ly_lda agg30 rfl rfl rfl rfl) (hd 109 rfl) ?_
                refine jo_g 106 rfl rfl (ly_lda agg30 rfl rfl rfl rfl) (hd 110 rfl) ?_
                refine jo_callg Try.f31 106 rfl rfl (rest_s sa sb (decide ((wq 2 (sv sa a) (sv sb b)) < 0)) (decide (((sv sa a) - wq 2 (sv sa a) (sv sb b) * (sv sb b)) < 0)) a b (lm (wq 2 (sv sa a) (sv sb b))) (lm ((sv sa a) - wq 2 (sv sa a) (sv sb b) * (sv sb b))) (by omega) (by omega) (by omega) (by omega) ua ub (lm_u _) (lm_u _) (by rw [sv_lm, sv_lm]; omega)) rfl Try.func31 rfl rfl (ovL_cons rfl (ovL_cons rfl (ovL_cons rfl (ovL_cons rfl ovL_nil)))) (.cons (.a1 .b (.a1 .n .a0)) (.cons (.a1 .b (.a1 .n .a0)) (.cons (.a1 .b (.a1 .n .a0)) (.cons (.a1 .b (.a1 .n .a0)) .nil)))) (hd 111 rfl) ?_ (fun ch hp => by simp at hp)
                rintro y hy; injection hy with hy; subst hy
                refine jo_g 106 rfl rfl (ly_not rfl) (hd 112 rfl) ?_
                refine jo_l (ly_pick_f rfl rfl) (hd 113 rfl) ?_
                refine jo_l (ly_mv rfl) (hd 114 rfl) ?_
                refine jo_g 114 rfl rfl (ly_lda agg30 rfl rfl rfl rfl) (hd 115 rfl) ?_
                as_aux_lemma =>
                  refine jo_g 114 rfl rfl (ly_lda agg30 rfl rfl rfl rfl) (hd 116 rfl) ?_
                  refine jo_g 114 rfl rfl (ly_lda agg30 rfl rfl rfl rfl) (hd 117 rfl) ?_
                  refine jo_g 114 rfl rfl (ly_lda agg30 rfl rfl rfl rfl) (hd 118 rfl) ?_
                  refine jo_callg Try.f31 114 rfl rfl (rest_s sa sb (decide ((wq 3 (sv sa a) (sv sb b)) < 0)) (decide (((sv sa a) - wq 3 (sv sa a) (sv sb b) * (sv sb b)) < 0)) a b (lm (wq 3 (sv sa a) (sv sb b))) (lm ((sv sa a) - wq 3 (sv sa a) (sv sb b) * (sv sb b))) (by omega) (by omega) (by omega) (by omega) ua ub (lm_u _) (lm_u _) (by rw [sv_lm, sv_lm]; omega)) rfl Try.func31 rfl rfl (ovL_cons rfl (ovL_cons rfl (ovL_cons rfl (ovL_cons rfl ovL_nil)))) (.cons (.a1 .b (.a1 .n .a0)) (.cons (.a1 .b (.a1 .n .a0)) (.cons (.a1 .b (.a1 .n .a0)) (.cons (.a1 .b (.a1 .n .a0)) .nil)))) (hd 119 rfl) ?_ (fun ch hp => by simp at hp)
                  rintro y hy; injection hy with hy; subst hy
                  refine jo_g 114 rfl rfl (ly_not rfl) (hd 120 rfl) ?_
                  refine jo_l (ly_pick_f rfl rfl) (hd 121 rfl) ?_
                  refine jo_l (ly_mv rfl) (hd 122 rfl) ?_
                  refine jo_g 122 rfl rfl (ly_lda agg30 rfl rfl rfl rfl) (hd 123 rfl) ?_
                  refine jo_g 122 rfl rfl (ly_lda agg30 rfl rfl rfl rfl) (hd 124 rfl) ?_
                  refine jo_g 122 rfl rfl (ly_lda agg30 rfl rfl rfl rfl) (hd 125 rfl) ?_
                  refine jo_g 122 rfl rfl (ly_lda agg30 rfl rfl rfl rfl) (hd 126 rfl) ?_
                  refine jo_callg Try.f31 122 rfl rfl (rest_s sa sb (decide ((wq 4 (sv sa a) (sv sb b)) < 0)) (decide (((sv sa a) - wq 4 (sv sa a) (sv sb b) * (sv sb b)) < 0)) a b (lm (wq 4 (sv sa a) (sv sb b))) (lm ((sv sa a) - wq 4 (sv sa a) (sv sb b) * (sv sb b))) (by omega) (by omega) (by omega) (by omega) ua ub (lm_u _) (lm_u _) (by rw [sv_lm, sv_lm]; omega)) rfl Try.func31 rfl rfl (ovL_cons rfl (ovL_cons rfl (ovL_cons rfl (ovL_cons rfl ovL_nil)))) (.cons (.a1 .b (.a1 .n .a0)) (.cons (.a1 .b (.a1 .n .a0)) (.cons (.a1 .b (.a1 .n .a0)) (.cons (.a1 .b (.a1 .n .a0)) .nil)))) (hd 127 rfl) ?_ (fun ch hp => by simp at hp)
                  rintro y hy; injection hy with hy; subst hy
                  as_aux_lemma =>
                    refine jo_g 122 rfl rfl (ly_not rfl) (hd 128 rfl) ?_
                    refine jo_l (ly_pick_f rfl rfl) (hd 129 rfl) ?_
                    refine jo_nil ?_
                    refine jc_litf rfl ?_
                    refine jc_skip ?_
                    refine jc_seq ?_
                    refine jc_H (H' := [⟨27, 2, 0, true, [.b sa, .n false .u64 a]⟩, ⟨27, 2, 0, true, [.b sb, .n false .u64 b]⟩, ⟨30, 2, 1, true, [.b sa, .n false .u64 a]⟩, ⟨30, 2, 1, true, [.b sb, .n false .u64 b]⟩, ⟨30, 2, 0, true, [.b (decide ((wq 0 (sv sa a) (sv sb b)) < 0)), .n true .u64 (lm (wq 0 (sv sa a) (sv sb b)))]⟩, ⟨30, 2, 0, true, [.b (decide (((sv sa a) - wq 0 (sv sa a) (sv sb b) * (sv sb b)) < 0)), .n true .u64 (lm ((sv sa a) - wq 0 (sv sa a) (sv sb b) * (sv sb b)))]⟩, ⟨30, 2, 0, true, [.b (decide ((wq 1 (sv sa a) (sv sb b)) < 0)), .n true .u64 (lm (wq 1 (sv sa a) (sv sb b)))]⟩, ⟨30, 2, 0, true, [.b (decide (((sv sa a) - wq 1 (sv sa a) (sv sb b) * (sv sb b)) < 0)), .n true .u64 (lm ((sv sa a) - wq 1 (sv sa a) (sv sb b) * (sv sb b)))]⟩, ⟨30, 2, 0, true, [.b (decide ((wq 2 (sv sa a) (sv sb b)) < 0)), .n true .u64 (lm (wq 2 (sv sa a) (sv sb b)))]⟩, ⟨30, 2, 0, true, [.b (decide (((sv sa a) - wq 2 (sv sa a) (sv sb b) * (sv sb b)) < 0)), .n true .u64 (lm ((sv sa a) - wq 2 (sv sa a) (sv sb b) * (sv sb b)))]⟩, ⟨30, 2, 0, true, [.b (decide ((wq 3 (sv sa a) (sv sb b)) < 0)), .n true .u64 (lm (wq 3 (sv sa a) (sv sb b)))]⟩, ⟨30, 2, 0, true, [.b (decide (((sv sa a) - wq 3 (sv sa a) (sv sb b) * (sv sb b)) < 0)), .n true .u64 (lm ((sv sa a) - wq 3 (sv sa a) (sv sb b) * (sv sb b)))]⟩, ⟨30, 2, 0, true, [.b (decide ((wq 4 (sv sa a) (sv sb b)) < 0)), .n true .u64 (lm (wq 4 (sv sa a) (sv sb b)))]⟩, ⟨30, 2, 0, true, [.b (decide (((sv sa a) - wq 4 (sv sa a) (sv sb b) * (sv sb b)) < 0)), .n true .u64 (lm ((sv sa a) - wq 4 (sv sa a) (sv sb b) * (sv sb b)))]⟩, ⟨23, 1, 0, false, []⟩]) rfl ?_
                    refine jc_region ?_
                    refine jo_l (ly_lda agg27 rfl rfl rfl rfl) (hd 130 rfl) ?_
                    refine jo_call Try.f12 (of_s sb b (by omega) ub) rfl Try.func12 rfl rfl (ovL_cons rfl ovL_nil) (.cons (.a1 .b (.a1 .n .a0)) .nil) (hd 131 rfl) ?_ (fun ch hp => by simp at hp)
                    rintro y hy; injection hy with hy; subst hy
                    refine jo_call Try.f32 (ZAbs_s (sv sb b)) rfl Try.func32 rfl rfl (ovL_cons rfl ovL_nil) (.cons (.a1 .b (.a1 .n .a0)) .nil) (hd 132 rfl) ?_ (fun ch hp => by simp at hp)
                    rintro y hy; injection hy with hy; subst hy
                    refine jo_h (hy_alloc (id := 15) zero35 (by decide) rfl (by decide) rfl) (hd 22 rfl) ?_
                    refine jo_st (sy_store rfl rfl rfl siz35 rfl rfl (Nat.le_of_ble_eq_true rfl)) ?_
                    refine jo_nil ?_
                    refine jc_seq ?_
                    refine jc_H (H' := [⟨27, 2, 0, true, [.b sa, .n false .u64 a]⟩, ⟨27, 2, 0, true, [.b sb, .n false .u64 b]⟩, ⟨30, 2, 1, true, [.b sa, .n false .u64 a]⟩, ⟨30, 2, 1, true, [.b sb, .n false .u64 b]⟩, ⟨30, 2, 0, true, [.b (decide ((wq 0 (sv sa a) (sv sb b)) < 0)), .n true .u64 (lm (wq 0 (sv sa a) (sv sb b)))]⟩, ⟨30, 2, 0, true, [.b (decide (((sv sa a) - wq 0 (sv sa a) (sv sb b) * (sv sb b)) < 0)), .n true .u64 (lm ((sv sa a) - wq 0 (sv sa a) (sv sb b) * (sv sb b)))]⟩, ⟨30, 2, 0, true, [.b (decide ((wq 1 (sv sa a) (sv sb b)) < 0)), .n true .u64 (lm (wq 1 (sv sa a) (sv sb b)))]⟩, ⟨30, 2, 0, true, [.b (decide (((sv sa a) - wq 1 (sv sa a) (sv sb b) * (sv sb b)) < 0)), .n true .u64 (lm ((sv sa a) - wq 1 (sv sa a) (sv sb b) * (sv sb b)))]⟩, ⟨30, 2, 0, true, [.b (decide ((wq 2 (sv sa a) (sv sb b)) < 0)), .n true .u64 (lm (wq 2 (sv sa a) (sv sb b)))]⟩, ⟨30, 2, 0, true, [.b (decide (((sv sa a) - wq 2 (sv sa a) (sv sb b) * (sv sb b)) < 0)), .n true .u64 (lm ((sv sa a) - wq 2 (sv sa a) (sv sb b) * (sv sb b)))]⟩, ⟨30, 2, 0, true, [.b (decide ((wq 3 (sv sa a) (sv sb b)) < 0)), .n true .u64 (lm (wq 3 (sv sa a) (sv sb b)))]⟩, ⟨30, 2, 0, true, [.b (decide (((sv sa a) - wq 3 (sv sa a) (sv sb b) * (sv sb b)) < 0)), .n true .u64 (lm ((sv sa a) - wq 3 (sv sa a) (sv sb b) * (sv sb b)))]⟩, ⟨30, 2, 0, true, [.b (decide ((wq 4 (sv sa a) (sv sb b)) < 0)), .n true .u64 (lm (wq 4 (sv sa a) (sv sb b)))]⟩, ⟨30, 2, 0, true, [.b (decide (((sv sa a) - wq 4 (sv sa a) (sv sb b) * (sv sb b)) < 0)), .n true .u64 (lm ((sv sa a) - wq 4 (sv sa a) (sv sb b) * (sv sb b)))]⟩, ⟨23, 1, 0, false, []⟩, ⟨35, 2, 0, true, [.b (decide ((((sv sb b)).natAbs : Int) < 0)), .n false .u64 (dg (((sv sb b)).natAbs : Int))]⟩]) rfl ?_
                    refine jc_region ?_
                    refine jo_l (ly_fa fld30_0 rfl rfl rfl) (hd 133 rfl) ?_
                    refine jo_l (ly_ld one4 rfl rfl rfl) (hd 134 rfl) ?_
                    refine jo_l (ly_fa fld30_1 rfl rfl rfl) (hd 135 rfl) ?_
                    refine jo_l (ly_ld one28 rfl rfl rfl) (hd 136 rfl) ?_
                    refine jo_call Try.f33 (ZOf_v ((sv sa a) - wq 3 (sv sa a) (sv sb b) * (sv sb b)) (by omega)) rfl Try.func33 rfl rfl (ovL_cons rfl (ovL_cons rfl ovL_nil)) (.cons .b (.cons .n .nil)) (hd 137 rfl) ?_ (fun ch hp => by simp at hp)
                    rintro y hy; injection hy with hy; subst hy
                    refine jo_call Try.f32 (ZAbs_s ((sv sa a) - wq 3 (sv sa a) (sv sb b) * (sv sb b))) rfl Try.func32 rfl rfl (ovL_cons rfl ovL_nil) (.cons (.a1 .b (.a1 .n .a0)) .nil) (hd 138 rfl) ?_ (fun ch hp => by simp at hp)
                    rintro y hy; injection hy with hy; subst hy
                    refine jo_h (hy_alloc (id := 16) zero35 (by decide) rfl (by decide) rfl) (hd 23 rfl) ?_
                    refine jo_st (sy_store rfl rfl rfl siz35 rfl rfl (Nat.le_of_ble_eq_true rfl)) ?_
                    refine jo_nil ?_
                    refine jc_seq ?_
                    refine jc_seq ?_
                    refine jc_H (H' := [⟨27, 2, 0, true, [.b sa, .n false .u64 a]⟩, ⟨27, 2, 0, true, [.b sb, .n false .u64 b]⟩, ⟨30, 2, 1, true, [.b sa, .n false .u64 a]⟩, ⟨30, 2, 1, true, [.b sb, .n false .u64 b]⟩, ⟨30, 2, 0, true, [.b (decide ((wq 0 (sv sa a) (sv sb b)) < 0)), .n true .u64 (lm (wq 0 (sv sa a) (sv sb b)))]⟩, ⟨30, 2, 0, true, [.b (decide (((sv sa a) - wq 0 (sv sa a) (sv sb b) * (sv sb b)) < 0)), .n true .u64 (lm ((sv sa a) - wq 0 (sv sa a) (sv sb b) * (sv sb b)))]⟩, ⟨30, 2, 0, true, [.b (decide ((wq 1 (sv sa a) (sv sb b)) < 0)), .n true .u64 (lm (wq 1 (sv sa a) (sv sb b)))]⟩, ⟨30, 2, 0, true, [.b (decide (((sv sa a) - wq 1 (sv sa a) (sv sb b) * (sv sb b)) < 0)), .n true .u64 (lm ((sv sa a) - wq 1 (sv sa a) (sv sb b) * (sv sb b)))]⟩, ⟨30, 2, 0, true, [.b (decide ((wq 2 (sv sa a) (sv sb b)) < 0)), .n true .u64 (lm (wq 2 (sv sa a) (sv sb b)))]⟩, ⟨30, 2, 0, true, [.b (decide (((sv sa a) - wq 2 (sv sa a) (sv sb b) * (sv sb b)) < 0)), .n true .u64 (lm ((sv sa a) - wq 2 (sv sa a) (sv sb b) * (sv sb b)))]⟩, ⟨30, 2, 0, true, [.b (decide ((wq 3 (sv sa a) (sv sb b)) < 0)), .n true .u64 (lm (wq 3 (sv sa a) (sv sb b)))]⟩, ⟨30, 2, 0, true, [.b (decide (((sv sa a) - wq 3 (sv sa a) (sv sb b) * (sv sb b)) < 0)), .n true .u64 (lm ((sv sa a) - wq 3 (sv sa a) (sv sb b) * (sv sb b)))]⟩, ⟨30, 2, 0, true, [.b (decide ((wq 4 (sv sa a) (sv sb b)) < 0)), .n true .u64 (lm (wq 4 (sv sa a) (sv sb b)))]⟩, ⟨30, 2, 0, true, [.b (decide (((sv sa a) - wq 4 (sv sa a) (sv sb b) * (sv sb b)) < 0)), .n true .u64 (lm ((sv sa a) - wq 4 (sv sa a) (sv sb b) * (sv sb b)))]⟩, ⟨23, 1, 0, false, []⟩, ⟨35, 2, 0, true, [.b (decide ((((sv sb b)).natAbs : Int) < 0)), .n false .u64 (dg (((sv sb b)).natAbs : Int))]⟩, ⟨35, 2, 0, true, [.b (decide (((((sv sa a) - wq 3 (sv sa a) (sv sb b) * (sv sb b))).natAbs : Int) < 0)), .n false .u64 (dg ((((sv sa a) - wq 3 (sv sa a) (sv sb b) * (sv sb b))).natAbs : Int))]⟩]) rfl ?_
                    refine jc_draw (n := 21) _ rfl mixed ?_
                    refine ja_l2 0 [2, 4, 5, 6, 7, 8, 9, 10, 11, 12, 13, 14, 15, 16, 17, 18, 19, 20] (lo_l (ly_lda agg35 rfl rfl rfl rfl) (hd 139 rfl)) rfl (by kernel_rfl) (by kernel_rfl) (by kernel_rfl) (by kernel_rfl) (fun _ _ _ _ h => h) ?_
                    refine ja_l2 1 [2, 4, 5, 6, 7, 8, 9, 10, 11, 12, 13, 14, 15, 16, 17, 18, 19, 20] (lo_l (ly_lda agg35 rfl rfl rfl rfl) (hd 140 rfl)) rfl (by kernel_rfl) (by kernel_rfl) (by kernel_rfl) (by kernel_rfl) (fun _ _ _ _ h => h) ?_
                    refine ja_l2 3 [4, 5, 6, 7, 8, 9, 10, 11, 12, 13, 14, 15, 16, 17, 18, 19, 20] (lo_l (ly_lda agg35 rfl rfl rfl rfl) (hd 142 rfl)) rfl (by kernel_rfl) (by kernel_rfl) (by kernel_rfl) (by kernel_rfl) (fun _ _ _ _ h => h) ?_
                    refine ja_1 2 ?_ rfl (by kernel_rfl)
                    refine js_call Try.f35 (ZAdd_s ((((sv sa a) - wq 3 (sv sa a) (sv sb b) * (sv sb b))).natAbs : Int) ((((sv sa a) - wq 3 (sv sa a) (sv sb b) * (sv sb b))).natAbs : Int) (by omega) (by omega)) rfl Try.func35 rfl rfl (ovL_cons rfl (ovL_cons rfl ovL_nil)) (.cons (.a1 .b (.a1 .n .a0)) (.cons (.a1 .b (.a1 .n .a0)) .nil)) (hd 141 rfl) ?_ (fun ch hp => by simp at hp)
                    rintro y hy; injection hy with hy; subst hy
                    refine ja_1 4 ?_ rfl (by kernel_rfl)
                    refine js_call Try.f34 (ZCmp_s (((((sv sa a) - wq 3 (sv sa a) (sv sb b) * (sv sb b))).natAbs : Int) + ((((sv sa a) - wq 3 (sv sa a) (sv sb b) * (sv sb b))).natAbs : Int)) (((sv sb b)).natAbs : Int) (by omega) (by omega)) rfl Try.func34 rfl rfl (ovL_cons rfl (ovL_cons rfl ovL_nil)) (.cons (.a1 .b (.a1 .n .a0)) (.cons (.a1 .b (.a1 .n .a0)) .nil)) (hd 143 rfl) ?_ (fun ch hp => by simp at hp)
                    rintro y hy; injection hy with hy; subst hy
                    refine ja_l2 5 [6, 7, 8, 9, 10, 11, 12, 13, 14, 15, 16, 17, 18, 19, 20] (lo_l (ly_ff (ly_gt rfl rfl) (cmp_no (by have := wr_near (v := (sv sa a)) h0; omega))) (hd 144 rfl)) rfl (by kernel_rfl) (by kernel_rfl) (by kernel_rfl) (by kernel_rfl) (fun _ _ _ _ h => h) ?_
                    refine ja_l2 6 [7, 8, 9, 10, 11, 12, 13, 14, 15, 16, 17, 18, 19, 20] (lo_l (ly_mv rfl) (hd 145 rfl)) rfl (by kernel_rfl) (by kernel_rfl) (by kernel_rfl) (by kernel_rfl) (fun _ _ _ _ h => h) ?_
                    refine ja_l2 7 [8, 9, 10, 11, 12, 13, 14, 15, 16, 17, 18, 19, 20] (lo_g 145 rfl rfl (ly_lda agg30 rfl rfl rfl rfl) (hd 146 rfl)) rfl (by kernel_rfl) (by kernel_rfl) (by kernel_rfl) (by kernel_rfl) (fun _ _ _ _ h => h) ?_
                    refine ja_1 8 ?_ rfl (by kernel_rfl)
                    refine js_callg Try.f36 145 rfl rfl (WSign_v ((sv sa a) - wq 4 (sv sa a) (sv sb b) * (sv sb b)) (by omega)) rfl Try.func36 rfl rfl (ovL_cons rfl ovL_nil) (.cons (.a1 .b (.a1 .n .a0)) .nil) (hd 147 rfl) ?_ (fun ch hp => by simp at hp)
                    rintro y hy; injection hy with hy; subst hy
                    refine ja_l2 9 [10, 11, 12, 13, 14, 15, 16, 17, 18, 19, 20] (lo_g 145 rfl rfl (ly_ff (ly_lt rfl rfl) (sgn_nn (wr_euclid h0).1)) (hd 148 rfl)) rfl (by kernel_rfl) (by kernel_rfl) (by kernel_rfl) (by kernel_rfl) (fun _ _ _ _ h => h) ?_
                    refine ja_l2 10 [11, 12, 13, 14, 15, 16, 17, 18, 19, 20] (lo_l (ly_pick_f rfl rfl) (hd 149 rfl)) rfl (by kernel_rfl) (by kernel_rfl) (by kernel_rfl) (by kernel_rfl) (fun _ _ _ _ h => h) ?_
                    refine ja_l 11 (lo_l (ly_mv rfl) (hd 150 rfl)) rfl (by kernel_rfl) (by kernel_rfl) (by kernel_rfl) (fun _ _ _ _ h => h) ?_
                    as_aux_lemma =>
                      refine ja_l2 12 [13, 16, 18, 19, 20] (lo_g 150 rfl rfl (ly_fa fld30_0 rfl rfl rfl) (hd 151 rfl)) rfl (by kernel_rfl) (by kernel_rfl) (by kernel_rfl) (by kernel_rfl) (fun _ _ _ _ h => h) ?_
                      refine ja_l2 13 [16, 18, 19, 20] (lo_g 150 rfl rfl (ly_ld one4 rfl rfl rfl) (hd 152 rfl)) rfl (by kernel_rfl) (by kernel_rfl) (by kernel_rfl) (by kernel_rfl) (fun _ _ _ _ h => h) ?_
                      refine ja_l2 14 [15, 16, 18, 19, 20] (lo_g 150 rfl rfl (ly_fa fld30_1 rfl rfl rfl) (hd 153 rfl)) rfl (by kernel_rfl) (by kernel_rfl) (by kernel_rfl) (by kernel_rfl) (fun _ _ _ _ h => h) ?_
                      refine ja_l2 15 [16, 18, 19, 20] (lo_g 150 rfl rfl (ly_ld one28 rfl rfl rfl) (hd 154 rfl)) rfl (by kernel_rfl) (by kernel_rfl) (by kernel_rfl) (by kernel_rfl) (fun _ _ _ _ h => h) ?_
                      refine ja_l2 17 [18, 19, 20] (lo_g 150 rfl rfl (ly_lda agg35 rfl rfl rfl rfl) (hd 156 rfl)) rfl (by kernel_rfl) (by kernel_rfl) (by kernel_rfl) (by kernel_rfl) (fun _ _ _ _ h => h) ?_
                      refine ja_1 16 ?_ rfl (by kernel_rfl)
                      refine js_callg Try.f33 150 rfl rfl (ZOf_v ((sv sa a) - wq 4 (sv sa a) (sv sb b) * (sv sb b)) (by omega)) rfl Try.func33 rfl rfl (ovL_cons rfl (ovL_cons rfl ovL_nil)) (.cons .b (.cons .n .nil)) (hd 155 rfl) ?_ (fun ch hp => by simp at hp)
                      rintro y hy; injection hy with hy; subst hy
                      refine ja_1 18 ?_ rfl (by kernel_rfl)
                      refine js_callg Try.f34 150 rfl rfl (ZCmp_s ((sv sa a) - wq 4 (sv sa a) (sv sb b) * (sv sb b)) (((sv sb b)).natAbs : Int) (by omega) (by omega)) rfl Try.func34 rfl rfl (ovL_cons rfl (ovL_cons rfl ovL_nil)) (.cons (.a1 .b (.a1 .n .a0)) (.cons (.a1 .b (.a1 .n .a0)) .nil)) (hd 157 rfl) ?_ (fun ch hp => by simp at hp)
                      rintro y hy; injection hy with hy; subst hy
                      refine ja_l 19 (lo_g 150 rfl rfl (ly_ff (ly_ge rfl rfl) (cmp_ltn (wr_euclid h0).2)) (hd 158 rfl)) rfl (by kernel_rfl) (by kernel_rfl) (by kernel_rfl) (fun _ _ _ _ h => h) ?_
                      refine ja_l 20 (lo_l (ly_pick_f rfl rfl) (hd 159 rfl)) rfl (by kernel_rfl) (by kernel_rfl) (by kernel_rfl) (fun _ _ _ _ h => h) ?_
                      refine ja_nil (by kernel_rfl) ?_
                      refine jc_litf rfl ?_
                      refine jc_skip ?_
                      refine jc_seq ?_
                      refine jc_seq ?_
                      refine jc_region ?_
                      refine jo_l (ly_lda agg30 rfl rfl rfl rfl) (hd 160 rfl) ?_
                      refine jo_l (ly_lda agg30 rfl rfl rfl rfl) (hd 161 rfl) ?_
                      refine jo_l (ly_lda agg30 rfl rfl rfl rfl) (hd 162 rfl) ?_
                      refine jo_h (hy_lit (id := 17) (xs := [.tmp 160, .tmp 161, .tmp 162]) el56 rfl (ovL_cons rfl (ovL_cons rfl (ovL_cons rfl ovL_nil))) rfl (all2_of rfl) (by decide) rfl) (hd 163 rfl) ?_
                      refine jo_l (ly_leno sl56 rfl rfl) (hd 164 rfl) ?_
                      refine jo_l (ly_mv rfl) (hd 165 rfl) ?_
                      refine jo_nil ?_
                      refine jc_block ?_
                      refine jc_H (H' := [⟨27, 2, 0, true, [.b sa, .n false .u64 a]⟩, ⟨27, 2, 0, true, [.b sb, .n false .u64 b]⟩, ⟨30, 2, 1, true, [.b sa, .n false .u64 a]⟩, ⟨30, 2, 1, true, [.b sb, .n false .u64 b]⟩, ⟨30, 2, 0, true, [.b (decide ((wq 0 (sv sa a) (sv sb b)) < 0)), .n true .u64 (lm (wq 0 (sv sa a) (sv sb b)))]⟩, ⟨30, 2, 0, true, [.b (decide (((sv sa a) - wq 0 (sv sa a) (sv sb b) * (sv sb b)) < 0)), .n true .u64 (lm ((sv sa a) - wq 0 (sv sa a) (sv sb b) * (sv sb b)))]⟩, ⟨30, 2, 0, true, [.b (decide ((wq 1 (sv sa a) (sv sb b)) < 0)), .n true .u64 (lm (wq 1 (sv sa a) (sv sb b)))]⟩, ⟨30, 2, 0, true, [.b (decide (((sv sa a) - wq 1 (sv sa a) (sv sb b) * (sv sb b)) < 0)), .n true .u64 (lm ((sv sa a) - wq 1 (sv sa a) (sv sb b) * (sv sb b)))]⟩, ⟨30, 2, 0, true, [.b (decide ((wq 2 (sv sa a) (sv sb b)) < 0)), .n true .u64 (lm (wq 2 (sv sa a) (sv sb b)))]⟩, ⟨30, 2, 0, true, [.b (decide (((sv sa a) - wq 2 (sv sa a) (sv sb b) * (sv sb b)) < 0)), .n true .u64 (lm ((sv sa a) - wq 2 (sv sa a) (sv sb b) * (sv sb b)))]⟩, ⟨30, 2, 0, true, [.b (decide ((wq 3 (sv sa a) (sv sb b)) < 0)), .n true .u64 (lm (wq 3 (sv sa a) (sv sb b)))]⟩, ⟨30, 2, 0, true, [.b (decide (((sv sa a) - wq 3 (sv sa a) (sv sb b) * (sv sb b)) < 0)), .n true .u64 (lm ((sv sa a) - wq 3 (sv sa a) (sv sb b) * (sv sb b)))]⟩, ⟨30, 2, 0, true, [.b (decide ((wq 4 (sv sa a) (sv sb b)) < 0)), .n true .u64 (lm (wq 4 (sv sa a) (sv sb b)))]⟩, ⟨30, 2, 0, true, [.b (decide (((sv sa a) - wq 4 (sv sa a) (sv sb b) * (sv sb b)) < 0)), .n true .u64 (lm ((sv sa a) - wq 4 (sv sa a) (sv sb b) * (sv sb b)))]⟩, ⟨23, 1, 0, false, []⟩, ⟨35, 2, 0, true, [.b (decide ((((sv sb b)).natAbs : Int) < 0)), .n false .u64 (dg (((sv sb b)).natAbs : Int))]⟩, ⟨35, 2, 0, true, [.b (decide (((((sv sa a) - wq 3 (sv sa a) (sv sb b) * (sv sb b))).natAbs : Int) < 0)), .n false .u64 (dg ((((sv sa a) - wq 3 (sv sa a) (sv sb b) * (sv sb b))).natAbs : Int))]⟩, ⟨30, 2, 0, true, [.b (decide (((sv sa a) - wq 0 (sv sa a) (sv sb b) * (sv sb b)) < 0)), .n true .u64 (lm ((sv sa a) - wq 0 (sv sa a) (sv sb b) * (sv sb b))), .b (decide (((sv sa a) - wq 1 (sv sa a) (sv sb b) * (sv sb b)) < 0)), .n true .u64 (lm ((sv sa a) - wq 1 (sv sa a) (sv sb b) * (sv sb b))), .b (decide (((sv sa a) - wq 2 (sv sa a) (sv sb b) * (sv sb b)) < 0)), .n true .u64 (lm ((sv sa a) - wq 2 (sv sa a) (sv sb b) * (sv sb b)))]⟩]) rfl ?_
                      refine jc_loopD (G := Nat) 18 (fun k => k ≤ 3) (fun k => [(165, .i .i64 (k : Int)), (4, .u), (25, .u), (166, .u), (167, .u), (168, .u), (169, .u), (170, .u), (171, .u), (172, .u), (173, .u), (174, .u), (175, .u), (176, .u), (177, .u), (178, .u)]) (fun k => [⟨27, 2, 0, true, [.b sa, .n false .u64 a]⟩, ⟨27, 2, 0, true, [.b sb, .n false .u64 b]⟩, ⟨30, 2, 1, true, [.b sa, .n false .u64 a]⟩, ⟨30, 2, 1, true, [.b sb, .n false .u64 b]⟩, ⟨30, 2, 0, true, [.b (decide ((wq 0 (sv sa a) (sv sb b)) < 0)), .n true .u64 (lm (wq 0 (sv sa a) (sv sb b)))]⟩, ⟨30, 2, 0, true, [.b (decide (((sv sa a) - wq 0 (sv sa a) (sv sb b) * (sv sb b)) < 0)), .n true .u64 (lm ((sv sa a) - wq 0 (sv sa a) (sv sb b) * (sv sb b)))]⟩, ⟨30, 2, 0, true, [.b (decide ((wq 1 (sv sa a) (sv sb b)) < 0)), .n true .u64 (lm (wq 1 (sv sa a) (sv sb b)))]⟩, ⟨30, 2, 0, true, [.b (decide (((sv sa a) - wq 1 (sv sa a) (sv sb b) * (sv sb b)) < 0)), .n true .u64 (lm ((sv sa a) - wq 1 (sv sa a) (sv sb b) * (sv sb b)))]⟩, ⟨30, 2, 0, true, [.b (decide ((wq 2 (sv sa a) (sv sb b)) < 0)), .n true .u64 (lm (wq 2 (sv sa a) (sv sb b)))]⟩, ⟨30, 2, 0, true, [.b (decide (((sv sa a) - wq 2 (sv sa a) (sv sb b) * (sv sb b)) < 0)), .n true .u64 (lm ((sv sa a) - wq 2 (sv sa a) (sv sb b) * (sv sb b)))]⟩, ⟨30, 2, 0, true, [.b (decide ((wq 3 (sv sa a) (sv sb b)) < 0)), .n true .u64 (lm (wq 3 (sv sa a) (sv sb b)))]⟩, ⟨30, 2, 0, true, [.b (decide (((sv sa a) - wq 3 (sv sa a) (sv sb b) * (sv sb b)) < 0)), .n true .u64 (lm ((sv sa a) - wq 3 (sv sa a) (sv sb b) * (sv sb b)))]⟩, ⟨30, 2, 0, true, [.b (decide ((wq 4 (sv sa a) (sv sb b)) < 0)), .n true .u64 (lm (wq 4 (sv sa a) (sv sb b)))]⟩, ⟨30, 2, 0, true, [.b (decide (((sv sa a) - wq 4 (sv sa a) (sv sb b) * (sv sb b)) < 0)), .n true .u64 (lm ((sv sa a) - wq 4 (sv sa a) (sv sb b) * (sv sb b)))]⟩, ⟨23, 1, 0, false, []⟩, ⟨35, 2, 0, true, [.b (decide ((((sv sb b)).natAbs : Int) < 0)), .n false .u64 (dg (((sv sb b)).natAbs : Int))]⟩, ⟨35, 2, 0, true, [.b (decide (((((sv sa a) - wq 3 (sv sa a) (sv sb b) * (sv sb b))).natAbs : Int) < 0)), .n false .u64 (dg ((((sv sa a) - wq 3 (sv sa a) (sv sb b) * (sv sb b))).natAbs : Int))]⟩, ⟨30, 2, 0, true, [.b (decide (((sv sa a) - wq 0 (sv sa a) (sv sb b) * (sv sb b)) < 0)), .n true .u64 (lm ((sv sa a) - wq 0 (sv sa a) (sv sb b) * (sv sb b))), .b (decide (((sv sa a) - wq 1 (sv sa a) (sv sb b) * (sv sb b)) < 0)), .n true .u64 (lm ((sv sa a) - wq 1 (sv sa a) (sv sb b) * (sv sb b))), .b (decide (((sv sa a) - wq 2 (sv sa a) (sv sb b) * (sv sb b)) < 0)), .n true .u64 (lm ((sv sa a) - wq 2 (sv sa a) (sv sb b) * (sv sb b)))]⟩]) (fun k => 3 - k) 0 ?_ ?_ rfl hR rfl (fun _ _ => rfl) (fun g _ => (.cons rfl (.cons rfl (.cons rfl (.cons rfl (.cons rfl (.cons rfl (.cons rfl (.cons rfl (.cons rfl (.cons rfl (.cons rfl (.cons rfl (.cons rfl (.cons rfl (.cons rfl (.cons rfl (.cons rfl (.cons rfl .nil))))))))))))))))))) ?_
                      · exact Nat.zero_le _
                      · exact (.cons rfl (.u (.u (.u (.u (.u (.u (.u (.u (.u (.u (.u (.u (.u (.u (.u .nil))))))))))))))))
                      · rintro k hk3
                        obtain rfl | rfl | rfl | rfl : k = 0 ∨ k = 1 ∨ k = 2 ∨ k = 3 := by omega
                        · refine jc_seq ?_
                          refine jc_region ?_
                          refine jo_l (ly_lt rfl rfl) (hd 166 rfl) ?_
                          refine jo_nil ?_
                          refine jc_seq ?_
                          refine jc_if rfl (fun h9 => ?_) (fun h9 => ?_)
                          · refine jc_skip ?_
                            refine jc_seq ?_
                            refine jc_block ?_
                            refine jc_seq ?_
                            refine jc_region ?_
                            refine jo_l (ly_ia (i := 0) sl56 rfl rfl rfl rfl (by decide) rfl) (hd 167 rfl) ?_
                            refine jo_l (ly_lda agg30 rfl rfl rfl rfl) (hd 168 rfl) ?_
                            refine jo_h (hy_alloc (id := 18) zero30 (by decide) rfl (by decide) rfl) (hd 25 rfl) ?_
                            refine jo_st (sy_store rfl rfl rfl siz30 rfl rfl (Nat.le_of_ble_eq_true rfl)) ?_
                            refine jo_nil ?_
                            refine jc_seq ?_
                            refine jc_draw (n := 9) _ rfl mixed ?_
                            refine ja_l2 0 [1, 4, 5, 7, 8] (lo_l (ly_fa fld30_0 rfl rfl rfl) (hd 169 rfl)) rfl (by kernel_rfl) (by kernel_rfl) (by kernel_rfl) (by kernel_rfl) (fun _ _ _ _ h => h) ?_
                            refine ja_l2 1 [4, 5, 7, 8] (lo_l (ly_ld one4 rfl rfl rfl) (hd 170 rfl)) rfl (by kernel_rfl) (by kernel_rfl) (by kernel_rfl) (by kernel_rfl) (fun _ _ _ _ h => h) ?_
                            refine ja_l2 2 [3, 4, 5, 7, 8] (lo_l (ly_fa fld30_1 rfl rfl rfl) (hd 171 rfl)) rfl (by kernel_rfl) (by kernel_rfl) (by kernel_rfl) (by kernel_rfl) (fun _ _ _ _ h => h) ?_
                            refine ja_l2 3 [4, 5, 7, 8] (lo_l (ly_ld one28 rfl rfl rfl) (hd 172 rfl)) rfl (by kernel_rfl) (by kernel_rfl) (by kernel_rfl) (by kernel_rfl) (fun _ _ _ _ h => h) ?_
                            refine ja_l2 6 [7, 8] (lo_l (ly_lda agg35 rfl rfl rfl rfl) (hd 175 rfl)) rfl (by kernel_rfl) (by kernel_rfl) (by kernel_rfl) (by kernel_rfl) (fun _ _ _ _ h => h) ?_
                            refine ja_1 4 ?_ rfl (by kernel_rfl)
                            refine js_call Try.f33 (ZOf_v ((sv sa a) - wq 0 (sv sa a) (sv sb b) * (sv sb b)) (by omega)) rfl Try.func33 rfl rfl (ovL_cons rfl (ovL_cons rfl ovL_nil)) (.cons .b (.cons .n .nil)) (hd 173 rfl) ?_ (fun ch hp => by simp at hp)
                            rintro y hy; injection hy with hy; subst hy
                            refine ja_1 5 ?_ rfl (by kernel_rfl)
                            refine js_call Try.f32 (ZAbs_s ((sv sa a) - wq 0 (sv sa a) (sv sb b) * (sv sb b))) rfl Try.func32 rfl rfl (ovL_cons rfl ovL_nil) (.cons (.a1 .b (.a1 .n .a0)) .nil) (hd 174 rfl) ?_ (fun ch hp => by simp at hp)
                            rintro y hy; injection hy with hy; subst hy
                            refine ja_1 7 ?_ rfl (by kernel_rfl)
                            refine js_call Try.f34 (ZCmp_s ((((sv sa a) - wq 0 (sv sa a) (sv sb b) * (sv sb b))).natAbs : Int) (((sv sb b)).natAbs : Int) (by omega) (by omega)) rfl Try.func34 rfl rfl (ovL_cons rfl (ovL_cons rfl ovL_nil)) (.cons (.a1 .b (.a1 .n .a0)) (.cons (.a1 .b (.a1 .n .a0)) .nil)) (hd 176 rfl) ?_ (fun ch hp => by simp at hp)
                            rintro y hy; injection hy with hy; subst hy
                            refine ja_l 8 (lo_l (ly_ff (ly_ge rfl rfl) (cmp_ltn (by have := wr_lt (k := 0) (v := (sv sa a)) h0; omega))) (hd 177 rfl)) rfl (by kernel_rfl) (by kernel_rfl) (by kernel_rfl) (fun _ _ _ _ h => h) ?_
                            refine ja_nil (by kernel_rfl) ?_
                            refine jc_litf rfl ?_
                            refine jc_skip ?_
                            refine jc_region ?_
                            refine jo_l (ly_add rfl rfl (wrap_i64 (by omega) (by omega))) (hd 178 rfl) ?_
                            refine jo_l (ly_mv rfl) (hd 165 rfl) ?_
                            refine jo_nil ?_
                            refine ⟨1, ?_, ?_, rfl, cov_n 31 rfl rfl ?_⟩
                            · decide
                            · decide
                            · exact (.cons rfl (.u (.u (.u (.u (.u (.u (.u (.u (.u (.u (.u (.u (.u (.u (.u .nil))))))))))))))))
                          · exact absurd (by decide) h9
                        · refine jc_seq ?_
                          refine jc_region ?_
                          refine jo_l (ly_lt rfl rfl) (hd 166 rfl) ?_
                          refine jo_nil ?_
                          refine jc_seq ?_
                          refine jc_if rfl (fun h11 => ?_) (fun h11 => ?_)
                          · refine jc_skip ?_
                            refine jc_seq ?_
                            refine jc_block ?_
                            refine jc_seq ?_
                            refine jc_region ?_
                            refine jo_l (ly_ia (i := 1) sl56 rfl rfl rfl rfl (by decide) rfl) (hd 167 rfl) ?_
                            refine jo_l (ly_lda agg30 rfl rfl rfl rfl) (hd 168 rfl) ?_
                            refine jo_h (hy_alloc (id := 18) zero30 (by decide) rfl (by decide) rfl) (hd 25 rfl) ?_
                            refine jo_st (sy_store rfl rfl rfl siz30 rfl rfl (Nat.le_of_ble_eq_true rfl)) ?_
                            refine jo_nil ?_
                            refine jc_seq ?_
                            refine jc_draw (n := 9) _ rfl mixed ?_
                            refine ja_l2 0 [1, 4, 5, 7, 8] (lo_l (ly_fa fld30_0 rfl rfl rfl) (hd 169 rfl)) rfl (by kernel_rfl) (by kernel_rfl) (by kernel_rfl) (by kernel_rfl) (fun _ _ _ _ h => h) ?_
                            refine ja_l2 1 [4, 5, 7, 8] (lo_l (ly_ld one4 rfl rfl rfl) (hd 170 rfl)) rfl (by kernel_rfl) (by kernel_rfl) (by kernel_rfl) (by kernel_rfl) (fun _ _ _ _ h => h) ?_
                            refine ja_l2 2 [3, 4, 5, 7, 8] (lo_l (ly_fa fld30_1 rfl rfl rfl) (hd 171 rfl)) rfl (by kernel_rfl) (by kernel_rfl) (by kernel_rfl) (by kernel_rfl) (fun _ _ _ _ h => h) ?_
                            refine ja_l2 3 [4, 5, 7, 8] (lo_l (ly_ld one28 rfl rfl rfl) (hd 172 rfl)) rfl (by kernel_rfl) (by kernel_rfl) (by kernel_rfl) (by kernel_rfl) (fun _ _ _ _ h => h) ?_
                            refine ja_l2 6 [7, 8] (lo_l (ly_lda agg35 rfl rfl rfl rfl) (hd 175 rfl)) rfl (by kernel_rfl) (by kernel_rfl) (by kernel_rfl) (by kernel_rfl) (fun _ _ _ _ h => h) ?_
                            refine ja_1 4 ?_ rfl (by kernel_rfl)
                            refine js_call Try.f33 (ZOf_v ((sv sa a) - wq 1 (sv sa a) (sv sb b) * (sv sb b)) (by omega)) rfl Try.func33 rfl rfl (ovL_cons rfl (ovL_cons rfl ovL_nil)) (.cons .b (.cons .n .nil)) (hd 173 rfl) ?_ (fun ch hp => by simp at hp)
                            rintro y hy; injection hy with hy; subst hy
                            refine ja_1 5 ?_ rfl (by kernel_rfl)
                            refine js_call Try.f32 (ZAbs_s ((sv sa a) - wq 1 (sv sa a) (sv sb b) * (sv sb b))) rfl Try.func32 rfl rfl (ovL_cons rfl ovL_nil) (.cons (.a1 .b (.a1 .n .a0)) .nil) (hd 174 rfl) ?_ (fun ch hp => by simp at hp)
                            rintro y hy; injection hy with hy; subst hy
                            refine ja_1 7 ?_ rfl (by kernel_rfl)
                            refine js_call Try.f34 (ZCmp_s ((((sv sa a) - wq 1 (sv sa a) (sv sb b) * (sv sb b))).natAbs : Int) (((sv sb b)).natAbs : Int) (by omega) (by omega)) rfl Try.func34 rfl rfl (ovL_cons rfl (ovL_cons rfl ovL_nil)) (.cons (.a1 .b (.a1 .n .a0)) (.cons (.a1 .b (.a1 .n .a0)) .nil)) (hd 176 rfl) ?_ (fun ch hp => by simp at hp)
                            rintro y hy; injection hy with hy; subst hy
                            refine ja_l 8 (lo_l (ly_ff (ly_ge rfl rfl) (cmp_ltn (by have := wr_lt (k := 1) (v := (sv sa a)) h0; omega))) (hd 177 rfl)) rfl (by kernel_rfl) (by kernel_rfl) (by kernel_rfl) (fun _ _ _ _ h => h) ?_
                            refine ja_nil (by kernel_rfl) ?_
                            refine jc_litf rfl ?_
                            refine jc_skip ?_
                            refine jc_region ?_
                            refine jo_l (ly_add rfl rfl (wrap_i64 (by omega) (by omega))) (hd 178 rfl) ?_
                            refine jo_l (ly_mv rfl) (hd 165 rfl) ?_
                            refine jo_nil ?_
                            refine ⟨2, ?_, ?_, rfl, cov_n 31 rfl rfl ?_⟩
                            · decide
                            · decide
                            · exact (.cons rfl (.u (.u (.u (.u (.u (.u (.u (.u (.u (.u (.u (.u (.u (.u (.u .nil))))))))))))))))
                          · exact absurd (by decide) h11
                        · refine jc_seq ?_
                          refine jc_region ?_
                          refine jo_l (ly_lt rfl rfl) (hd 166 rfl) ?_
                          refine jo_nil ?_
                          refine jc_seq ?_
                          refine jc_if rfl (fun h13 => ?_) (fun h13 => ?_)
                          · refine jc_skip ?_
                            refine jc_seq ?_
                            refine jc_block ?_
                            refine jc_seq ?_
                            refine jc_region ?_
                            refine jo_l (ly_ia (i := 2) sl56 rfl rfl rfl rfl (by decide) rfl) (hd 167 rfl) ?_
                            refine jo_l (ly_lda agg30 rfl rfl rfl rfl) (hd 168 rfl) ?_
                            refine jo_h (hy_alloc (id := 18) zero30 (by decide) rfl (by decide) rfl) (hd 25 rfl) ?_
                            refine jo_st (sy_store rfl rfl rfl siz30 rfl rfl (Nat.le_of_ble_eq_true rfl)) ?_
                            refine jo_nil ?_
                            refine jc_seq ?_
                            refine jc_draw (n := 9) _ rfl mixed ?_
                            refine ja_l2 0 [1, 4, 5, 7, 8] (lo_l (ly_fa fld30_0 rfl rfl rfl) (hd 169 rfl)) rfl (by kernel_rfl) (by kernel_rfl) (by kernel_rfl) (by kernel_rfl) (fun _ _ _ _ h => h) ?_
                            refine ja_l2 1 [4, 5, 7, 8] (lo_l (ly_ld one4 rfl rfl rfl) (hd 170 rfl)) rfl (by kernel_rfl) (by kernel_rfl) (by kernel_rfl) (by kernel_rfl) (fun _ _ _ _ h => h) ?_
                            refine ja_l2 2 [3, 4, 5, 7, 8] (lo_l (ly_fa fld30_1 rfl rfl rfl) (hd 171 rfl)) rfl (by kernel_rfl) (by kernel_rfl) (by kernel_rfl) (by kernel_rfl) (fun _ _ _ _ h => h) ?_
                            refine ja_l2 3 [4, 5, 7, 8] (lo_l (ly_ld one28 rfl rfl rfl) (hd 172 rfl)) rfl (by kernel_rfl) (by kernel_rfl) (by kernel_rfl) (by kernel_rfl) (fun _ _ _ _ h => h) ?_
                            refine ja_l2 6 [7, 8] (lo_l (ly_lda agg35 rfl rfl rfl rfl) (hd 175 rfl)) rfl (by kernel_rfl) (by kernel_rfl) (by kernel_rfl) (by kernel_rfl) (fun _ _ _ _ h => h) ?_
                            refine ja_1 4 ?_ rfl (by kernel_rfl)
                            refine js_call Try.f33 (ZOf_v ((sv sa a) - wq 2 (sv sa a) (sv sb b) * (sv sb b)) (by omega)) rfl Try.func33 rfl rfl (ovL_cons rfl (ovL_cons rfl ovL_nil)) (.cons .b (.cons .n .nil)) (hd 173 rfl) ?_ (fun ch hp => by simp at hp)
                            rintro y hy; injection hy with hy; subst hy
                            refine ja_1 5 ?_ rfl (by kernel_rfl)
                            refine js_call Try.f32 (ZAbs_s ((sv sa a) - wq 2 (sv sa a) (sv sb b) * (sv sb b))) rfl Try.func32 rfl rfl (ovL_cons rfl ovL_nil) (.cons (.a1 .b (.a1 .n .a0)) .nil) (hd 174 rfl) ?_ (fun ch hp => by simp at hp)
                            rintro y hy; injection hy with hy; subst hy
                            refine ja_1 7 ?_ rfl (by kernel_rfl)
                            refine js_call Try.f34 (ZCmp_s ((((sv sa a) - wq 2 (sv sa a) (sv sb b) * (sv sb b))).natAbs : Int) (((sv sb b)).natAbs : Int) (by omega) (by omega)) rfl Try.func34 rfl rfl (ovL_cons rfl (ovL_cons rfl ovL_nil)) (.cons (.a1 .b (.a1 .n .a0)) (.cons (.a1 .b (.a1 .n .a0)) .nil)) (hd 176 rfl) ?_ (fun ch hp => by simp at hp)
                            rintro y hy; injection hy with hy; subst hy
                            refine ja_l 8 (lo_l (ly_ff (ly_ge rfl rfl) (cmp_ltn (by have := wr_lt (k := 2) (v := (sv sa a)) h0; omega))) (hd 177 rfl)) rfl (by kernel_rfl) (by kernel_rfl) (by kernel_rfl) (fun _ _ _ _ h => h) ?_
                            refine ja_nil (by kernel_rfl) ?_
                            refine jc_litf rfl ?_
                            refine jc_skip ?_
                            refine jc_region ?_
                            refine jo_l (ly_add rfl rfl (wrap_i64 (by omega) (by omega))) (hd 178 rfl) ?_
                            refine jo_l (ly_mv rfl) (hd 165 rfl) ?_
                            refine jo_nil ?_
                            refine ⟨3, ?_, ?_, rfl, cov_n 31 rfl rfl ?_⟩
                            · decide
                            · decide
                            · exact (.cons rfl (.u (.u (.u (.u (.u (.u (.u (.u (.u (.u (.u (.u (.u (.u (.u .nil))))))))))))))))
                          · exact absurd (by decide) h13
                        · refine jc_seq ?_
                          refine jc_region ?_
                          refine jo_l (ly_lt rfl rfl) (hd 166 rfl) ?_
                          refine jo_nil ?_
                          refine jc_seq ?_
                          refine jc_if rfl (fun h15 => ?_) (fun h15 => ?_)
                          · exact absurd h15 (by decide)
                          · refine jc_exit ?_
                            refine jc_seq ?_
                            refine jc_hold 1 _ ?_
                            refine jc_draw (n := 13) _ rfl mixed ?_
                            refine ja_gen (fun _ _ _ _ h => h) fun ops1 Q1 F0 hpan ho hq hF => ?_
                            have S23_1111111111111 : JA Try.prog ops1 0 #[true, true, true, true, true, true, true, true, true, true, true, true, true] Γ ([(26, .p 18 1 0), (179, .p 8 0 0), (180, .b (decide ((wq 2 (sv sa a) (sv sb b)) < 0))), (181, .p 8 0 1), (182, .n true .u64 (lm (wq 2 (sv sa a) (sv sb b)))), (183, .a [.b (decide ((wq 2 (sv sa a) (sv sb b)) < 0)), .n false .u64 (dg (wq 2 (sv sa a) (sv sb b)))]), (184, .p 6 0 0), (185, .b (decide ((wq 1 (sv sa a) (sv sb b)) < 0))), (186, .p 6 0 1), (187, .n true .u64 (lm (wq 1 (sv sa a) (sv sb b)))), (188, .a [.b (decide ((wq 1 (sv sa a) (sv sb b)) < 0)), .n false .u64 (dg (wq 1 (sv sa a) (sv sb b)))]), (189, .a [.b (decide (((wq 2 (sv sa a) (sv sb b)) - (wq 1 (sv sa a) (sv sb b))) < 0)), .n false .u64 (dg ((wq 2 (sv sa a) (sv sb b)) - (wq 1 (sv sa a) (sv sb b))))])] ++ F0) [⟨27, 2, 0, true, [.b sa, .n false .u64 a]⟩, ⟨27, 2, 0, true, [.b sb, .n false .u64 b]⟩, ⟨30, 2, 1, true, [.b sa, .n false .u64 a]⟩, ⟨30, 2, 1, true, [.b sb, .n false .u64 b]⟩, ⟨30, 2, 0, true, [.b (decide ((wq 0 (sv sa a) (sv sb b)) < 0)), .n true .u64 (lm (wq 0 (sv sa a) (sv sb b)))]⟩, ⟨30, 2, 0, true, [.b (decide (((sv sa a) - wq 0 (sv sa a) (sv sb b) * (sv sb b)) < 0)), .n true .u64 (lm ((sv sa a) - wq 0 (sv sa a) (sv sb b) * (sv sb b)))]⟩, ⟨30, 2, 0, true, [.b (decide ((wq 1 (sv sa a) (sv sb b)) < 0)), .n true .u64 (lm (wq 1 (sv sa a) (sv sb b)))]⟩, ⟨30, 2, 0, true, [.b (decide (((sv sa a) - wq 1 (sv sa a) (sv sb b) * (sv sb b)) < 0)), .n true .u64 (lm ((sv sa a) - wq 1 (sv sa a) (sv sb b) * (sv sb b)))]⟩, ⟨30, 2, 0, true, [.b (decide ((wq 2 (sv sa a) (sv sb b)) < 0)), .n true .u64 (lm (wq 2 (sv sa a) (sv sb b)))]⟩, ⟨30, 2, 0, true, [.b (decide (((sv sa a) - wq 2 (sv sa a) (sv sb b) * (sv sb b)) < 0)), .n true .u64 (lm ((sv sa a) - wq 2 (sv sa a) (sv sb b) * (sv sb b)))]⟩, ⟨30, 2, 0, true, [.b (decide ((wq 3 (sv sa a) (sv sb b)) < 0)), .n true .u64 (lm (wq 3 (sv sa a) (sv sb b)))]⟩, ⟨30, 2, 0, true, [.b (decide (((sv sa a) - wq 3 (sv sa a) (sv sb b) * (sv sb b)) < 0)), .n true .u64 (lm ((sv sa a) - wq 3 (sv sa a) (sv sb b) * (sv sb b)))]⟩, ⟨30, 2, 0, true, [.b (decide ((wq 4 (sv sa a) (sv sb b)) < 0)), .n true .u64 (lm (wq 4 (sv sa a) (sv sb b)))]⟩, ⟨30, 2, 0, true, [.b (decide (((sv sa a) - wq 4 (sv sa a) (sv sb b) * (sv sb b)) < 0)), .n true .u64 (lm ((sv sa a) - wq 4 (sv sa a) (sv sb b) * (sv sb b)))]⟩, ⟨23, 1, 0, false, []⟩, ⟨35, 2, 0, true, [.b (decide ((((sv sb b)).natAbs : Int) < 0)), .n false .u64 (dg (((sv sb b)).natAbs : Int))]⟩, ⟨35, 2, 0, true, [.b (decide (((((sv sa a) - wq 3 (sv sa a) (sv sb b) * (sv sb b))).natAbs : Int) < 0)), .n false .u64 (dg ((((sv sa a) - wq 3 (sv sa a) (sv sb b) * (sv sb b))).natAbs : Int))]⟩, ⟨30, 2, 0, true, [.b (decide (((sv sa a) - wq 0 (sv sa a) (sv sb b) * (sv sb b)) < 0)), .n true .u64 (lm ((sv sa a) - wq 0 (sv sa a) (sv sb b) * (sv sb b))), .b (decide (((sv sa a) - wq 1 (sv sa a) (sv sb b) * (sv sb b)) < 0)), .n true .u64 (lm ((sv sa a) - wq 1 (sv sa a) (sv sb b) * (sv sb b))), .b (decide (((sv sa a) - wq 2 (sv sa a) (sv sb b) * (sv sb b)) < 0)), .n true .u64 (lm ((sv sa a) - wq 2 (sv sa a) (sv sb b) * (sv sb b)))]⟩, ⟨35, 2, 1, true, [.b (decide (((wq 2 (sv sa a) (sv sb b)) - (wq 1 (sv sa a) (sv sb b))) < 0)), .n false .u64 (dg ((wq 2 (sv sa a) (sv sb b)) - (wq 1 (sv sa a) (sv sb b))))]⟩] Q1 := by
                              subst ho; subst hq; subst hF
                              refine ja_nil (by kernel_rfl) ?_
                              refine jc_seq ?_
                              refine jc_region ?_
                              refine jo_l (ly_as rfl) (hd 27 rfl) ?_
                              refine jo_nil ?_
                              refine jc_meetH (G := Unit) (fun _ => True) (fun _ => [(27, .i .i64 (if ((sv sa a) - wq 1 (sv sa a) (sv sb b) * (sv sb b)) = 0 then 0 else 1)), (190, .u), (191, .u)]) ?_ ?_
                              · refine jc_seq ?_
                                refine jc_region ?_
                                refine jo_l (ly_lda agg30 rfl rfl rfl rfl) (hd 190 rfl) ?_
                                refine jo_call Try.f28 (zero_v ((sv sa a) - wq 1 (sv sa a) (sv sb b) * (sv sb b)) (by omega)) rfl Try.func28 rfl rfl (ovL_cons rfl ovL_nil) (.cons (.a1 .b (.a1 .n .a0)) .nil) (hd 191 rfl) ?_ (fun ch hp => by simp at hp)
                                rintro y hy; injection hy with hy; subst hy
                                refine jo_nil ?_
                                refine jc_if rfl (fun h16 => ?_) (fun h16 => ?_)
                                · refine jc_region ?_
                                  refine jo_l (ly_as rfl) (hd 27 rfl) ?_
                                  refine jo_nil ?_
                                  refine ⟨(), ?_, rfl, cov_n 3 rfl rfl ?_⟩
                                  · trivial
                                  · exact (.cons (by show some (V.i .i64 _) = some (V.i .i64 _); rw [if_pos (sgnI_0.1 (by assumption))]) (.u (.u .nil)))
                                · refine jc_skip ?_
                                  refine ⟨(), ?_, rfl, cov_n 2 rfl rfl ?_⟩
                                  · trivial
                                  · exact (.cons (by show some (V.i .i64 _) = some (V.i .i64 _); rw [if_neg (fun e => by first | exact absurd (sgnI_0.2 e) (by assumption))]) (.u (.u .nil)))
                              · rintro _ _
                                refine jc_seq ?_
                                refine jc_draw (n := 33) _ rfl mixed ?_
                                refine ja_l2 0 [1, 3, 4, 5, 6, 7, 8, 9, 10, 11, 12, 13, 14, 15, 16, 17, 18, 19, 20, 21, 22, 23, 24, 25, 26, 27, 28, 29, 30, 31, 32] (lo_l (ly_lda agg30 rfl rfl rfl rfl) (hd 192 rfl)) rfl (by kernel_rfl) (by kernel_rfl) (by kernel_rfl) (by kernel_rfl) (fun _ _ _ _ h => h) ?_
                                refine ja_l2 2 [3, 4, 5, 6, 7, 8, 9, 10, 11, 12, 13, 14, 15, 16, 17, 18, 19, 20, 21, 22, 23, 24, 25, 26, 27, 28, 29, 30, 31, 32] (lo_l (ly_lda agg30 rfl rfl rfl rfl) (hd 194 rfl)) rfl (by kernel_rfl) (by kernel_rfl) (by kernel_rfl) (by kernel_rfl) (fun _ _ _ _ h => h) ?_
                                refine ja_1 1 ?_ rfl (by kernel_rfl)
                                refine js_call Try.f36 (WSign_v ((sv sa a) - wq 0 (sv sa a) (sv sb b) * (sv sb b)) (by omega)) rfl Try.func36 rfl rfl (ovL_cons rfl ovL_nil) (.cons (.a1 .b (.a1 .n .a0)) .nil) (hd 193 rfl) ?_ (fun ch hp => by simp at hp)
                                rintro y hy; injection hy with hy; subst hy
                                refine ja_1 3 ?_ rfl (by kernel_rfl)
                                refine js_call Try.f36 (WSign_s sa a (by omega) ua) rfl Try.func36 rfl rfl (ovL_cons rfl ovL_nil) (.cons (.a1 .b (.a1 .n .a0)) .nil) (hd 195 rfl) ?_ (fun ch hp => by simp at hp)
                                rintro y hy; injection hy with hy; subst hy
                                refine ja_l2 4 [5, 6, 7, 8, 9, 10, 11, 12, 13, 14, 15, 16, 17, 18, 19, 20, 21, 22, 23, 24, 25, 26, 27, 28, 29, 30, 31, 32] (lo_l (ly_mul rfl rfl sgn_wrap) (hd 196 rfl)) rfl (by kernel_rfl) (by kernel_rfl) (by kernel_rfl) (by kernel_rfl) (fun _ _ _ _ h => h) ?_
                                refine ja_l2 5 [6, 7, 8, 9, 10, 11, 12, 13, 14, 15, 16, 17, 18, 19, 20, 21, 22, 23, 24, 25, 26, 27, 28, 29, 30, 31, 32] (lo_l (ly_tt (ly_ge rfl rfl) (sgn_ge (wr_quo h0))) (hd 197 rfl)) rfl (by kernel_rfl) (by kernel_rfl) (by kernel_rfl) (by kernel_rfl) (fun _ _ _ _ h => h) ?_
                                refine ja_l2 6 [7, 8, 9, 10, 11, 12, 13, 14, 15, 16, 17, 18, 19, 20, 21, 22, 23, 24, 25, 26, 27, 28, 29, 30, 31, 32] (lo_l (ly_mv rfl) (hd 198 rfl)) rfl (by kernel_rfl) (by kernel_rfl) (by kernel_rfl) (by kernel_rfl) (fun _ _ _ _ h => h) ?_
                                refine ja_l2 7 [8, 10, 11, 12, 13, 14, 15, 16, 17, 18, 19, 20, 21, 22, 23, 24, 25, 26, 27, 28, 29, 30, 31, 32] (lo_g 198 rfl rfl (ly_lda agg30 rfl rfl rfl rfl) (hd 199 rfl)) rfl (by kernel_rfl) (by kernel_rfl) (by kernel_rfl) (by kernel_rfl) (fun _ _ _ _ h => h) ?_
                                refine ja_l2 9 [10, 11, 12, 13, 14, 15, 16, 17, 18, 19, 20, 21, 22, 23, 24, 25, 26, 27, 28, 29, 30, 31, 32] (lo_g 198 rfl rfl (ly_lda agg30 rfl rfl rfl rfl) (hd 201 rfl)) rfl (by kernel_rfl) (by kernel_rfl) (by kernel_rfl) (by kernel_rfl) (fun _ _ _ _ h => h) ?_
                                refine ja_1 8 ?_ rfl (by kernel_rfl)
                                refine js_callg Try.f36 198 rfl rfl (WSign_v ((sv sa a) - wq 1 (sv sa a) (sv sb b) * (sv sb b)) (by omega)) rfl Try.func36 rfl rfl (ovL_cons rfl ovL_nil) (.cons (.a1 .b (.a1 .n .a0)) .nil) (hd 200 rfl) ?_ (fun ch hp => by simp at hp)
                                rintro y hy; injection hy with hy; subst hy
                                refine ja_1 10 ?_ rfl (by kernel_rfl)
                                refine js_callg Try.f36 198 rfl rfl (WSign_s sb b (by omega) ub) rfl Try.func36 rfl rfl (ovL_cons rfl ovL_nil) (.cons (.a1 .b (.a1 .n .a0)) .nil) (hd 202 rfl) ?_ (fun ch hp => by simp at hp)
                                rintro y hy; injection hy with hy; subst hy
                                refine ja_l2 11 [12, 13, 14, 15, 16, 17, 18, 19, 20, 21, 22, 23, 24, 25, 26, 27, 28, 29, 30, 31, 32] (lo_g 198 rfl rfl (ly_mul rfl rfl sgn_wrap) (hd 203 rfl)) rfl (by kernel_rfl) (by kernel_rfl) (by kernel_rfl) (by kernel_rfl) (fun _ _ _ _ h => h) ?_
                                as_aux_lemma =>
                                  refine ja_l2 12 [13, 14, 15, 16, 17, 18, 19, 20, 21, 22, 23, 24, 25, 26, 27, 28, 29, 30, 31, 32] (lo_g 198 rfl rfl (ly_tt (ly_ge rfl rfl) (sgn_ge (wr_floor h0))) (hd 204 rfl)) rfl (by kernel_rfl) (by kernel_rfl) (by kernel_rfl) (by kernel_rfl) (fun _ _ _ _ h => h) ?_
                                  refine ja_l2 13 [14, 15, 16, 17, 18, 19, 20, 21, 22, 23, 24, 25, 26, 27, 28, 29, 30, 31, 32] (lo_l (ly_pick_t rfl rfl) (hd 205 rfl)) rfl (by kernel_rfl) (by kernel_rfl) (by kernel_rfl) (by kernel_rfl) (fun _ _ _ _ h => h) ?_
                                  refine ja_l2 14 [15, 16, 17, 18, 19, 20, 21, 22, 23, 24, 25, 26, 27, 28, 29, 30, 31, 32] (lo_l (ly_mv rfl) (hd 206 rfl)) rfl (by kernel_rfl) (by kernel_rfl) (by kernel_rfl) (by kernel_rfl) (fun _ _ _ _ h => h) ?_
                                  refine ja_l2 15 [16, 18, 19, 20, 21, 22, 23, 24, 25, 26, 27, 28, 29, 30, 31, 32] (lo_g 206 rfl rfl (ly_lda agg30 rfl rfl rfl rfl) (hd 207 rfl)) rfl (by kernel_rfl) (by kernel_rfl) (by kernel_rfl) (by kernel_rfl) (fun _ _ _ _ h => h) ?_
                                  refine ja_l2 17 [18, 19, 20, 21, 22, 23, 24, 25, 26, 27, 28, 29, 30, 31, 32] (lo_g 206 rfl rfl (ly_lda agg30 rfl rfl rfl rfl) (hd 209 rfl)) rfl (by kernel_rfl) (by kernel_rfl) (by kernel_rfl) (by kernel_rfl) (fun _ _ _ _ h => h) ?_
                                  refine ja_1 16 ?_ rfl (by kernel_rfl)
                                  refine js_callg Try.f36 206 rfl rfl (WSign_v ((sv sa a) - wq 2 (sv sa a) (sv sb b) * (sv sb b)) (by omega)) rfl Try.func36 rfl rfl (ovL_cons rfl ovL_nil) (.cons (.a1 .b (.a1 .n .a0)) .nil) (hd 208 rfl) ?_ (fun ch hp => by simp at hp)
                                  rintro y hy; injection hy with hy; subst hy
                                  refine ja_1 18 ?_ rfl (by kernel_rfl)
                                  refine js_callg Try.f36 206 rfl rfl (WSign_s sb b (by omega) ub) rfl Try.func36 rfl rfl (ovL_cons rfl ovL_nil) (.cons (.a1 .b (.a1 .n .a0)) .nil) (hd 210 rfl) ?_ (fun ch hp => by simp at hp)
                                  rintro y hy; injection hy with hy; subst hy
                                  refine ja_l2 19 [20, 21, 22, 23, 24, 25, 26, 27, 28, 29, 30, 31, 32] (lo_g 206 rfl rfl (ly_mul rfl rfl sgn_wrap) (hd 211 rfl)) rfl (by kernel_rfl) (by kernel_rfl) (by kernel_rfl) (by kernel_rfl) (fun _ _ _ _ h => h) ?_
                                  refine ja_l2 20 [21, 22, 23, 24, 25, 26, 27, 28, 29, 30, 31, 32] (lo_g 206 rfl rfl (ly_tt (ly_le rfl rfl) (sgn_le (wr_ceil h0))) (hd 212 rfl)) rfl (by kernel_rfl) (by kernel_rfl) (by kernel_rfl) (by kernel_rfl) (fun _ _ _ _ h => h) ?_
                                  refine ja_l2 21 [22, 23, 24, 25, 26, 27, 28, 29, 30, 31, 32] (lo_l (ly_pick_t rfl rfl) (hd 213 rfl)) rfl (by kernel_rfl) (by kernel_rfl) (by kernel_rfl) (by kernel_rfl) (fun _ _ _ _ h => h) ?_
                                  refine ja_l2 22 [23, 24, 25, 26, 27, 28, 29, 30, 31, 32] (lo_l (ly_mv rfl) (hd 214 rfl)) rfl (by kernel_rfl) (by kernel_rfl) (by kernel_rfl) (by kernel_rfl) (fun _ _ _ _ h => h) ?_
                                  refine ja_l2 23 [26, 27, 28, 29, 30, 31, 32] (lo_g 214 rfl rfl (ly_lda agg35 rfl rfl rfl rfl) (hd 215 rfl)) rfl (by kernel_rfl) (by kernel_rfl) (by kernel_rfl) (by kernel_rfl) (fun _ _ _ _ h => h) ?_
                                  as_aux_lemma =>
                                    refine ja_l2 24 [25, 26, 27, 28, 29, 30, 31, 32] (lo_g 214 rfl rfl (ly_mv rfl) (hd 216 rfl)) rfl (by kernel_rfl) (by kernel_rfl) (by kernel_rfl) (by kernel_rfl) (fun _ _ _ _ h => h) ?_
                                    refine ja_1 25 ?_ rfl (by kernel_rfl)
                                    refine js_callg Try.f38 214 rfl rfl (ZInt_s (if ((sv sa a) - wq 1 (sv sa a) (sv sb b) * (sv sb b)) = 0 then 0 else 1) (by unfold inI; split <;> omega)) rfl Try.func38 rfl rfl (ovL_cons rfl ovL_nil) (.cons .i .nil) (hd 217 rfl) ?_ (fun ch hp => by simp at hp)
                                    rintro y hy; injection hy with hy; subst hy
                                    refine ja_1 26 ?_ rfl (by kernel_rfl)
                                    refine js_callg Try.f34 214 rfl rfl (ZCmp_s ((wq 2 (sv sa a) (sv sb b)) - (wq 1 (sv sa a) (sv sb b))) (if ((sv sa a) - wq 1 (sv sa a) (sv sb b) * (sv sb b)) = 0 then 0 else 1) (by omega) (by omega)) rfl Try.func34 rfl rfl (ovL_cons rfl (ovL_cons rfl ovL_nil)) (.cons (.a1 .b (.a1 .n .a0)) (.cons (.a1 .b (.a1 .n .a0)) .nil)) (hd 218 rfl) ?_ (fun ch hp => by simp at hp)
                                    rintro y hy; injection hy with hy; subst hy
                                    refine ja_l2 27 [28, 29, 30, 31, 32] (lo_g 214 rfl rfl (ly_tt (ly_eq rfl rfl) (cmpI_0.2 wq_gap)) (hd 219 rfl)) rfl (by kernel_rfl) (by kernel_rfl) (by kernel_rfl) (by kernel_rfl) (fun _ _ _ _ h => h) ?_
                                    refine ja_l2 28 [29, 30, 31, 32] (lo_l (ly_pick_t rfl rfl) (hd 220 rfl)) rfl (by kernel_rfl) (by kernel_rfl) (by kernel_rfl) (by kernel_rfl) (fun _ _ _ _ h => h) ?_
                                    refine ja_l 29 (lo_l (ly_mv rfl) (hd 221 rfl)) rfl (by kernel_rfl) (by kernel_rfl) (by kernel_rfl) (fun _ _ _ _ h => h) ?_
                                    refine ja_1 30 ?_ rfl (by kernel_rfl)
                                    refine js_callg Try.f10 221 rfl rfl (awake_s) rfl Try.func10 rfl rfl ovL_nil .nil (hd 222 rfl) ?_ (fun ch hp => by simp at hp)
                                    rintro y hy; injection hy with hy; subst hy
                                    refine ja_l 31 (lo_l (ly_pick_t rfl rfl) (hd 223 rfl)) rfl (by kernel_rfl) (by kernel_rfl) (by kernel_rfl) (fun _ _ _ _ h => h) ?_
                                    refine ja_l 32 (lo_l (ly_as rfl) (hd 4 rfl)) rfl (by kernel_rfl) (by kernel_rfl) (by kernel_rfl) (fun _ _ _ _ h => h) ?_
                                    refine ja_nil (by kernel_rfl) ?_
                                    refine jc_ret ?_
                                    refine ⟨_, _, (.cons rfl .nil), .b, ?_⟩
                                    exact rfl
                            have S23_1111111111110 : JA Try.prog ops1 1 #[true, true, true, true, true, true, true, true, true, true, true, true, false] Γ ([(26, .p 18 1 0), (179, .p 8 0 0), (180, .b (decide ((wq 2 (sv sa a) (sv sb b)) < 0))), (181, .p 8 0 1), (182, .n true .u64 (lm (wq 2 (sv sa a) (sv sb b)))), (183, .a [.b (decide ((wq 2 (sv sa a) (sv sb b)) < 0)), .n false .u64 (dg (wq 2 (sv sa a) (sv sb b)))]), (184, .p 6 0 0), (185, .b (decide ((wq 1 (sv sa a) (sv sb b)) < 0))), (186, .p 6 0 1), (187, .n true .u64 (lm (wq 1 (sv sa a) (sv sb b)))), (188, .a [.b (decide ((wq 1 (sv sa a) (sv sb b)) < 0)), .n false .u64 (dg (wq 1 (sv sa a) (sv sb b)))]), (189, .a [.b (decide (((wq 2 (sv sa a) (sv sb b)) - (wq 1 (sv sa a) (sv sb b))) < 0)), .n false .u64 (dg ((wq 2 (sv sa a) (sv sb b)) - (wq 1 (sv sa a) (sv sb b))))])] ++ F0) [⟨27, 2, 0, true, [.b sa, .n false .u64 a]⟩, ⟨27, 2, 0, true, [.b sb, .n false .u64 b]⟩, ⟨30, 2, 1, true, [.b sa, .n false .u64 a]⟩, ⟨30, 2, 1, true, [.b sb, .n false .u64 b]⟩, ⟨30, 2, 0, true, [.b (decide ((wq 0 (sv sa a) (sv sb b)) < 0)), .n true .u64 (lm (wq 0 (sv sa a) (sv sb b)))]⟩, ⟨30, 2, 0, true, [.b (decide (((sv sa a) - wq 0 (sv sa a) (sv sb b) * (sv sb b)) < 0)), .n true .u64 (lm ((sv sa a) - wq 0 (sv sa a) (sv sb b) * (sv sb b)))]⟩, ⟨30, 2, 0, true, [.b (decide ((wq 1 (sv sa a) (sv sb b)) < 0)), .n true .u64 (lm (wq 1 (sv sa a) (sv sb b)))]⟩, ⟨30, 2, 0, true, [.b (decide (((sv sa a) - wq 1 (sv sa a) (sv sb b) * (sv sb b)) < 0)), .n true .u64 (lm ((sv sa a) - wq 1 (sv sa a) (sv sb b) * (sv sb b)))]⟩, ⟨30, 2, 0, true, [.b (decide ((wq 2 (sv sa a) (sv sb b)) < 0)), .n true .u64 (lm (wq 2 (sv sa a) (sv sb b)))]⟩, ⟨30, 2, 0, true, [.b (decide (((sv sa a) - wq 2 (sv sa a) (sv sb b) * (sv sb b)) < 0)), .n true .u64 (lm ((sv sa a) - wq 2 (sv sa a) (sv sb b) * (sv sb b)))]⟩, ⟨30, 2, 0, true, [.b (decide ((wq 3 (sv sa a) (sv sb b)) < 0)), .n true .u64 (lm (wq 3 (sv sa a) (sv sb b)))]⟩, ⟨30, 2, 0, true, [.b (decide (((sv sa a) - wq 3 (sv sa a) (sv sb b) * (sv sb b)) < 0)), .n true .u64 (lm ((sv sa a) - wq 3 (sv sa a) (sv sb b) * (sv sb b)))]⟩, ⟨30, 2, 0, true, [.b (decide ((wq 4 (sv sa a) (sv sb b)) < 0)), .n true .u64 (lm (wq 4 (sv sa a) (sv sb b)))]⟩, ⟨30, 2, 0, true, [.b (decide (((sv sa a) - wq 4 (sv sa a) (sv sb b) * (sv sb b)) < 0)), .n true .u64 (lm ((sv sa a) - wq 4 (sv sa a) (sv sb b) * (sv sb b)))]⟩, ⟨23, 1, 0, false, []⟩, ⟨35, 2, 0, true, [.b (decide ((((sv sb b)).natAbs : Int) < 0)), .n false .u64 (dg (((sv sb b)).natAbs : Int))]⟩, ⟨35, 2, 0, true, [.b (decide (((((sv sa a) - wq 3 (sv sa a) (sv sb b) * (sv sb b))).natAbs : Int) < 0)), .n false .u64 (dg ((((sv sa a) - wq 3 (sv sa a) (sv sb b) * (sv sb b))).natAbs : Int))]⟩, ⟨30, 2, 0, true, [.b (decide (((sv sa a) - wq 0 (sv sa a) (sv sb b) * (sv sb b)) < 0)), .n true .u64 (lm ((sv sa a) - wq 0 (sv sa a) (sv sb b) * (sv sb b))), .b (decide (((sv sa a) - wq 1 (sv sa a) (sv sb b) * (sv sb b)) < 0)), .n true .u64 (lm ((sv sa a) - wq 1 (sv sa a) (sv sb b) * (sv sb b))), .b (decide (((sv sa a) - wq 2 (sv sa a) (sv sb b) * (sv sb b)) < 0)), .n true .u64 (lm ((sv sa a) - wq 2 (sv sa a) (sv sb b) * (sv sb b)))]⟩, ⟨35, 2, 1, true, [.b false, .c (.slice none 0 0)]⟩] Q1 := by
                              subst ho; subst hF
                              refine ja_1 12 ?_ rfl (by kernel_rfl)
                              refine js_st (sy_store rfl rfl rfl siz35 rfl rfl (Nat.le_of_ble_eq_true rfl)) rfl ?_
                              refine ja_to (m := [(26, .p 18 1 0), (179, .p 8 0 0), (180, .b (decide ((wq 2 (sv sa a) (sv sb b)) < 0))), (181, .p 8 0 1), (182, .n true .u64 (lm (wq 2 (sv sa a) (sv sb b)))), (183, .a [.b (decide ((wq 2 (sv sa a) (sv sb b)) < 0)), .n false .u64 (dg (wq 2 (sv sa a) (sv sb b)))]), (184, .p 6 0 0), (185, .b (decide ((wq 1 (sv sa a) (sv sb b)) < 0))), (186, .p 6 0 1), (187, .n true .u64 (lm (wq 1 (sv sa a) (sv sb b)))), (188, .a [.b (decide ((wq 1 (sv sa a) (sv sb b)) < 0)), .n false .u64 (dg (wq 1 (sv sa a) (sv sb b)))]), (189, .a [.b (decide (((wq 2 (sv sa a) (sv sb b)) - (wq 1 (sv sa a) (sv sb b))) < 0)), .n false .u64 (dg ((wq 2 (sv sa a) (sv sb b)) - (wq 1 (sv sa a) (sv sb b))))])]) (by decide) rfl (cov_n 12 rfl rfl (.cons rfl (.cons rfl (.cons rfl (.cons rfl (.cons rfl (.cons rfl (.cons rfl (.cons rfl (.cons rfl (.cons rfl (.cons rfl (.cons rfl .nil))))))))))))) S23_1111111111111
                            have S23_1111111111100 : JA Try.prog ops1 2 #[true, true, true, true, true, true, true, true, true, true, true, false, false] Γ ([(179, .p 8 0 0), (180, .b (decide ((wq 2 (sv sa a) (sv sb b)) < 0))), (181, .p 8 0 1), (182, .n true .u64 (lm (wq 2 (sv sa a) (sv sb b)))), (183, .a [.b (decide ((wq 2 (sv sa a) (sv sb b)) < 0)), .n false .u64 (dg (wq 2 (sv sa a) (sv sb b)))]), (184, .p 6 0 0), (185, .b (decide ((wq 1 (sv sa a) (sv sb b)) < 0))), (186, .p 6 0 1), (187, .n true .u64 (lm (wq 1 (sv sa a) (sv sb b)))), (188, .a [.b (decide ((wq 1 (sv sa a) (sv sb b)) < 0)), .n false .u64 (dg (wq 1 (sv sa a) (sv sb b)))]), (189, .a [.b (decide (((wq 2 (sv sa a) (sv sb b)) - (wq 1 (sv sa a) (sv sb b))) < 0)), .n false .u64 (dg ((wq 2 (sv sa a) (sv sb b)) - (wq 1 (sv sa a) (sv sb b))))])] ++ F0) [⟨27, 2, 0, true, [.b sa, .n false .u64 a]⟩, ⟨27, 2, 0, true, [.b sb, .n false .u64 b]⟩, ⟨30, 2, 1, true, [.b sa, .n false .u64 a]⟩, ⟨30, 2, 1, true, [.b sb, .n false .u64 b]⟩, ⟨30, 2, 0, true, [.b (decide ((wq 0 (sv sa a) (sv sb b)) < 0)), .n true .u64 (lm (wq 0 (sv sa a) (sv sb b)))]⟩, ⟨30, 2, 0, true, [.b (decide (((sv sa a) - wq 0 (sv sa a) (sv sb b) * (sv sb b)) < 0)), .n true .u64 (lm ((sv sa a) - wq 0 (sv sa a) (sv sb b) * (sv sb b)))]⟩, ⟨30, 2, 0, true, [.b (decide ((wq 1 (sv sa a) (sv sb b)) < 0)), .n true .u64 (lm (wq 1 (sv sa a) (sv sb b)))]⟩, ⟨30, 2, 0, true, [.b (decide (((sv sa a) - wq 1 (sv sa a) (sv sb b) * (sv sb b)) < 0)), .n true .u64 (lm ((sv sa a) - wq 1 (sv sa a) (sv sb b) * (sv sb b)))]⟩, ⟨30, 2, 0, true, [.b (decide ((wq 2 (sv sa a) (sv sb b)) < 0)), .n true .u64 (lm (wq 2 (sv sa a) (sv sb b)))]⟩, ⟨30, 2, 0, true, [.b (decide (((sv sa a) - wq 2 (sv sa a) (sv sb b) * (sv sb b)) < 0)), .n true .u64 (lm ((sv sa a) - wq 2 (sv sa a) (sv sb b) * (sv sb b)))]⟩, ⟨30, 2, 0, true, [.b (decide ((wq 3 (sv sa a) (sv sb b)) < 0)), .n true .u64 (lm (wq 3 (sv sa a) (sv sb b)))]⟩, ⟨30, 2, 0, true, [.b (decide (((sv sa a) - wq 3 (sv sa a) (sv sb b) * (sv sb b)) < 0)), .n true .u64 (lm ((sv sa a) - wq 3 (sv sa a) (sv sb b) * (sv sb b)))]⟩, ⟨30, 2, 0, true, [.b (decide ((wq 4 (sv sa a) (sv sb b)) < 0)), .n true .u64 (lm (wq 4 (sv sa a) (sv sb b)))]⟩, ⟨30, 2, 0, true, [.b (decide (((sv sa a) - wq 4 (sv sa a) (sv sb b) * (sv sb b)) < 0)), .n true .u64 (lm ((sv sa a) - wq 4 (sv sa a) (sv sb b) * (sv sb b)))]⟩, ⟨23, 1, 0, false, []⟩, ⟨35, 2, 0, true, [.b (decide ((((sv sb b)).natAbs : Int) < 0)), .n false .u64 (dg (((sv sb b)).natAbs : Int))]⟩, ⟨35, 2, 0, true, [.b (decide (((((sv sa a) - wq 3 (sv sa a) (sv sb b) * (sv sb b))).natAbs : Int) < 0)), .n false .u64 (dg ((((sv sa a) - wq 3 (sv sa a) (sv sb b) * (sv sb b))).natAbs : Int))]⟩, ⟨30, 2, 0, true, [.b (decide (((sv sa a) - wq 0 (sv sa a) (sv sb b) * (sv sb b)) < 0)), .n true .u64 (lm ((sv sa a) - wq 0 (sv sa a) (sv sb b) * (sv sb b))), .b (decide (((sv sa a) - wq 1 (sv sa a) (sv sb b) * (sv sb b)) < 0)), .n true .u64 (lm ((sv sa a) - wq 1 (sv sa a) (sv sb b) * (sv sb b))), .b (decide (((sv sa a) - wq 2 (sv sa a) (sv sb b) * (sv sb b)) < 0)), .n true .u64 (lm ((sv sa a) - wq 2 (sv sa a) (sv sb b) * (sv sb b)))]⟩, ⟨0, 1, 0, true, []⟩] Q1 := by
                              subst ho; subst hF
                              refine ja_1 11 ?_ rfl (by kernel_rfl)
                              refine js_h (hy_allocAt (id := 18) zero35 (by decide) rfl (by decide) rfl) (hd 26 rfl) ?_
                              refine ja_to (m := [(26, .p 18 1 0), (179, .p 8 0 0), (180, .b (decide ((wq 2 (sv sa a) (sv sb b)) < 0))), (181, .p 8 0 1), (182, .n true .u64 (lm (wq 2 (sv sa a) (sv sb b)))), (183, .a [.b (decide ((wq 2 (sv sa a) (sv sb b)) < 0)), .n false .u64 (dg (wq 2 (sv sa a) (sv sb b)))]), (184, .p 6 0 0), (185, .b (decide ((wq 1 (sv sa a) (sv sb b)) < 0))), (186, .p 6 0 1), (187, .n true .u64 (lm (wq 1 (sv sa a) (sv sb b)))), (188, .a [.b (decide ((wq 1 (sv sa a) (sv sb b)) < 0)), .n false .u64 (dg (wq 1 (sv sa a) (sv sb b)))]), (189, .a [.b (decide (((wq 2 (sv sa a) (sv sb b)) - (wq 1 (sv sa a) (sv sb b))) < 0)), .n false .u64 (dg ((wq 2 (sv sa a) (sv sb b)) - (wq 1 (sv sa a) (sv sb b))))])]) (by decide) rfl (cov_n 12 rfl rfl (.cons rfl (.cons rfl (.cons rfl (.cons rfl (.cons rfl (.cons rfl (.cons rfl (.cons rfl (.cons rfl (.cons rfl (.cons rfl (.cons rfl .nil))))))))))))) S23_1111111111110
                            have S23_1111111111010 : JA Try.prog ops1 2 #[true, true, true, true, true, true, true, true, true, true, false, true, false] Γ ([(26, .p 18 1 0), (179, .p 8 0 0), (180, .b (decide ((wq 2 (sv sa a) (sv sb b)) < 0))), (181, .p 8 0 1), (182, .n true .u64 (lm (wq 2 (sv sa a) (sv sb b)))), (183, .a [.b (decide ((wq 2 (sv sa a) (sv sb b)) < 0)), .n false .u64 (dg (wq 2 (sv sa a) (sv sb b)))]), (184, .p 6 0 0), (185, .b (decide ((wq 1 (sv sa a) (sv sb b)) < 0))), (186, .p 6 0 1), (187, .n true .u64 (lm (wq 1 (sv sa a) (sv sb b)))), (188, .a [.b (decide ((wq 1 (sv sa a) (sv sb b)) < 0)), .n false .u64 (dg (wq 1 (sv sa a) (sv sb b)))])] ++ F0) [⟨27, 2, 0, true, [.b sa, .n false .u64 a]⟩, ⟨27, 2, 0, true, [.b sb, .n false .u64 b]⟩, ⟨30, 2, 1, true, [.b sa, .n false .u64 a]⟩, ⟨30, 2, 1, true, [.b sb, .n false .u64 b]⟩, ⟨30, 2, 0, true, [.b (decide ((wq 0 (sv sa a) (sv sb b)) < 0)), .n true .u64 (lm (wq 0 (sv sa a) (sv sb b)))]⟩, ⟨30, 2, 0, true, [.b (decide (((sv sa a) - wq 0 (sv sa a) (sv sb b) * (sv sb b)) < 0)), .n true .u64 (lm ((sv sa a) - wq 0 (sv sa a) (sv sb b) * (sv sb b)))]⟩, ⟨30, 2, 0, true, [.b (decide ((wq 1 (sv sa a) (sv sb b)) < 0)), .n true .u64 (lm (wq 1 (sv sa a) (sv sb b)))]⟩, ⟨30, 2, 0, true, [.b (decide (((sv sa a) - wq 1 (sv sa a) (sv sb b) * (sv sb b)) < 0)), .n true .u64 (lm ((sv sa a) - wq 1 (sv sa a) (sv sb b) * (sv sb b)))]⟩, ⟨30, 2, 0, true, [.b (decide ((wq 2 (sv sa a) (sv sb b)) < 0)), .n true .u64 (lm (wq 2 (sv sa a) (sv sb b)))]⟩, ⟨30, 2, 0, true, [.b (decide (((sv sa a) - wq 2 (sv sa a) (sv sb b) * (sv sb b)) < 0)), .n true .u64 (lm ((sv sa a) - wq 2 (sv sa a) (sv sb b) * (sv sb b)))]⟩, ⟨30, 2, 0, true, [.b (decide ((wq 3 (sv sa a) (sv sb b)) < 0)), .n true .u64 (lm (wq 3 (sv sa a) (sv sb b)))]⟩, ⟨30, 2, 0, true, [.b (decide (((sv sa a) - wq 3 (sv sa a) (sv sb b) * (sv sb b)) < 0)), .n true .u64 (lm ((sv sa a) - wq 3 (sv sa a) (sv sb b) * (sv sb b)))]⟩, ⟨30, 2, 0, true, [.b (decide ((wq 4 (sv sa a) (sv sb b)) < 0)), .n true .u64 (lm (wq 4 (sv sa a) (sv sb b)))]⟩, ⟨30, 2, 0, true, [.b (decide (((sv sa a) - wq 4 (sv sa a) (sv sb b) * (sv sb b)) < 0)), .n true .u64 (lm ((sv sa a) - wq 4 (sv sa a) (sv sb b) * (sv sb b)))]⟩, ⟨23, 1, 0, false, []⟩, ⟨35, 2, 0, true, [.b (decide ((((sv sb b)).natAbs : Int) < 0)), .n false .u64 (dg (((sv sb b)).natAbs : Int))]⟩, ⟨35, 2, 0, true, [.b (decide (((((sv sa a) - wq 3 (sv sa a) (sv sb b) * (sv sb b))).natAbs : Int) < 0)), .n false .u64 (dg ((((sv sa a) - wq 3 (sv sa a) (sv sb b) * (sv sb b))).natAbs : Int))]⟩, ⟨30, 2, 0, true, [.b (decide (((sv sa a) - wq 0 (sv sa a) (sv sb b) * (sv sb b)) < 0)), .n true .u64 (lm ((sv sa a) - wq 0 (sv sa a) (sv sb b) * (sv sb b))), .b (decide (((sv sa a) - wq 1 (sv sa a) (sv sb b) * (sv sb b)) < 0)), .n true .u64 (lm ((sv sa a) - wq 1 (sv sa a) (sv sb b) * (sv sb b))), .b (decide (((sv sa a) - wq 2 (sv sa a) (sv sb b) * (sv sb b)) < 0)), .n true .u64 (lm ((sv sa a) - wq 2 (sv sa a) (sv sb b) * (sv sb b)))]⟩, ⟨35, 2, 1, true, [.b false, .c (.slice none 0 0)]⟩] Q1 := by
                              subst ho; subst hF
                              refine ja_1 10 ?_ rfl (by kernel_rfl)
                              refine js_call Try.f37 (ZSub_s (wq 2 (sv sa a) (sv sb b)) (wq 1 (sv sa a) (sv sb b)) (by omega) (by omega)) rfl Try.func37 rfl rfl (ovL_cons rfl (ovL_cons rfl ovL_nil)) (.cons (.a1 .b (.a1 .n .a0)) (.cons (.a1 .b (.a1 .n .a0)) .nil)) (hd 189 rfl) ?_ (fun ch hp => by simp at hp)
                              rintro y hy; injection hy with hy; subst hy
                              refine ja_to (m := [(26, .p 18 1 0), (179, .p 8 0 0), (180, .b (decide ((wq 2 (sv sa a) (sv sb b)) < 0))), (181, .p 8 0 1), (182, .n true .u64 (lm (wq 2 (sv sa a) (sv sb b)))), (183, .a [.b (decide ((wq 2 (sv sa a) (sv sb b)) < 0)), .n false .u64 (dg (wq 2 (sv sa a) (sv sb b)))]), (184, .p 6 0 0), (185, .b (decide ((wq 1 (sv sa a) (sv sb b)) < 0))), (186, .p 6 0 1), (187, .n true .u64 (lm (wq 1 (sv sa a) (sv sb b)))), (188, .a [.b (decide ((wq 1 (sv sa a) (sv sb b)) < 0)), .n false .u64 (dg (wq 1 (sv sa a) (sv sb b)))]), (189, .a [.b (decide (((wq 2 (sv sa a) (sv sb b)) - (wq 1 (sv sa a) (sv sb b))) < 0)), .n false .u64 (dg ((wq 2 (sv sa a) (sv sb b)) - (wq 1 (sv sa a) (sv sb b))))])]) (by decide) rfl (cov_n 12 rfl rfl (.cons rfl (.cons rfl (.cons rfl (.cons rfl (.cons rfl (.cons rfl (.cons rfl (.cons rfl (.cons rfl (.cons rfl (.cons rfl (.cons rfl .nil))))))))))))) S23_1111111111110
                            have S23_1111111111000 : JA Try.prog ops1 3 #[true, true, true, true, true, true, true, true, true, true, false, false, false] Γ ([(179, .p 8 0 0), (180, .b (decide ((wq 2 (sv sa a) (sv sb b)) < 0))), (181, .p 8 0 1), (182, .n true .u64 (lm (wq 2 (sv sa a) (sv sb b)))), (183, .a [.b (decide ((wq 2 (sv sa a) (sv sb b)) < 0)), .n false .u64 (dg (wq 2 (sv sa a) (sv sb b)))]), (184, .p 6 0 0), (185, .b (decide ((wq 1 (sv sa a) (sv sb b)) < 0))), (186, .p 6 0 1), (187, .n true .u64 (lm (wq 1 (sv sa a) (sv sb b)))), (188, .a [.b (decide ((wq 1 (sv sa a) (sv sb b)) < 0)), .n false .u64 (dg (wq 1 (sv sa a) (sv sb b)))])] ++ F0) [⟨27, 2, 0, true, [.b sa, .n false .u64 a]⟩, ⟨27, 2, 0, true, [.b sb, .n false .u64 b]⟩, ⟨30, 2, 1, true, [.b sa, .n false .u64 a]⟩, ⟨30, 2, 1, true, [.b sb, .n false .u64 b]⟩, ⟨30, 2, 0, true, [.b (decide ((wq 0 (sv sa a) (sv sb b)) < 0)), .n true .u64 (lm (wq 0 (sv sa a) (sv sb b)))]⟩, ⟨30, 2, 0, true, [.b (decide (((sv sa a) - wq 0 (sv sa a) (sv sb b) * (sv sb b)) < 0)), .n true .u64 (lm ((sv sa a) - wq 0 (sv sa a) (sv sb b) * (sv sb b)))]⟩, ⟨30, 2, 0, true, [.b (decide ((wq 1 (sv sa a) (sv sb b)) < 0)), .n true .u64 (lm (wq 1 (sv sa a) (sv sb b)))]⟩, ⟨30, 2, 0, true, [.b (decide (((sv sa a) - wq 1 (sv sa a) (sv sb b) * (sv sb b)) < 0)), .n true .u64 (lm ((sv sa a) - wq 1 (sv sa a) (sv sb b) * (sv sb b)))]⟩, ⟨30, 2, 0, true, [.b (decide ((wq 2 (sv sa a) (sv sb b)) < 0)), .n true .u64 (lm (wq 2 (sv sa a) (sv sb b)))]⟩, ⟨30, 2, 0, true, [.b (decide (((sv sa a) - wq 2 (sv sa a) (sv sb b) * (sv sb b)) < 0)), .n true .u64 (lm ((sv sa a) - wq 2 (sv sa a) (sv sb b) * (sv sb b)))]⟩, ⟨30, 2, 0, true, [.b (decide ((wq 3 (sv sa a) (sv sb b)) < 0)), .n true .u64 (lm (wq 3 (sv sa a) (sv sb b)))]⟩, ⟨30, 2, 0, true, [.b (decide (((sv sa a) - wq 3 (sv sa a) (sv sb b) * (sv sb b)) < 0)), .n true .u64 (lm ((sv sa a) - wq 3 (sv sa a) (sv sb b) * (sv sb b)))]⟩, ⟨30, 2, 0, true, [.b (decide ((wq 4 (sv sa a) (sv sb b)) < 0)), .n true .u64 (lm (wq 4 (sv sa a) (sv sb b)))]⟩, ⟨30, 2, 0, true, [.b (decide (((sv sa a) - wq 4 (sv sa a) (sv sb b) * (sv sb b)) < 0)), .n true .u64 (lm ((sv sa a) - wq 4 (sv sa a) (sv sb b) * (sv sb b)))]⟩, ⟨23, 1, 0, false, []⟩, ⟨35, 2, 0, true, [.b (decide ((((sv sb b)).natAbs : Int) < 0)), .n false .u64 (dg (((sv sb b)).natAbs : Int))]⟩, ⟨35, 2, 0, true, [.b (decide (((((sv sa a) - wq 3 (sv sa a) (sv sb b) * (sv sb b))).natAbs : Int) < 0)), .n false .u64 (dg ((((sv sa a) - wq 3 (sv sa a) (sv sb b) * (sv sb b))).natAbs : Int))]⟩, ⟨30, 2, 0, true, [.b (decide (((sv sa a) - wq 0 (sv sa a) (sv sb b) * (sv sb b)) < 0)), .n true .u64 (lm ((sv sa a) - wq 0 (sv sa a) (sv sb b) * (sv sb b))), .b (decide (((sv sa a) - wq 1 (sv sa a) (sv sb b) * (sv sb b)) < 0)), .n true .u64 (lm ((sv sa a) - wq 1 (sv sa a) (sv sb b) * (sv sb b))), .b (decide (((sv sa a) - wq 2 (sv sa a) (sv sb b) * (sv sb b)) < 0)), .n true .u64 (lm ((sv sa a) - wq 2 (sv sa a) (sv sb b) * (sv sb b)))]⟩, ⟨0, 1, 0, true, []⟩] Q1 := by
                              subst ho; subst hF
                              refine ja_2 10 11 ?_ ?_ rfl rfl (by kernel_rfl)
                              · refine js_call Try.f37 (ZSub_s (wq 2 (sv sa a) (sv sb b)) (wq 1 (sv sa a) (sv sb b)) (by omega) (by omega)) rfl Try.func37 rfl rfl (ovL_cons rfl (ovL_cons rfl ovL_nil)) (.cons (.a1 .b (.a1 .n .a0)) (.cons (.a1 .b (.a1 .n .a0)) .nil)) (hd 189 rfl) ?_ (fun ch hp => by simp at hp)
                                rintro y hy; injection hy with hy; subst hy
                                refine ja_to (m := [(179, .p 8 0 0), (180, .b (decide ((wq 2 (sv sa a) (sv sb b)) < 0))), (181, .p 8 0 1), (182, .n true .u64 (lm (wq 2 (sv sa a) (sv sb b)))), (183, .a [.b (decide ((wq 2 (sv sa a) (sv sb b)) < 0)), .n false .u64 (dg (wq 2 (sv sa a) (sv sb b)))]), (184, .p 6 0 0), (185, .b (decide ((wq 1 (sv sa a) (sv sb b)) < 0))), (186, .p 6 0 1), (187, .n true .u64 (lm (wq 1 (sv sa a) (sv sb b)))), (188, .a [.b (decide ((wq 1 (sv sa a) (sv sb b)) < 0)), .n false .u64 (dg (wq 1 (sv sa a) (sv sb b)))]), (189, .a [.b (decide (((wq 2 (sv sa a) (sv sb b)) - (wq 1 (sv sa a) (sv sb b))) < 0)), .n false .u64 (dg ((wq 2 (sv sa a) (sv sb b)) - (wq 1 (sv sa a) (sv sb b))))])]) (by decide) rfl (cov_n 11 rfl rfl (.cons rfl (.cons rfl (.cons rfl (.cons rfl (.cons rfl (.cons rfl (.cons rfl (.cons rfl (.cons rfl (.cons rfl (.cons rfl .nil)))))))))))) S23_1111111111100
                              · refine js_h (hy_allocAt (id := 18) zero35 (by decide) rfl (by decide) rfl) (hd 26 rfl) ?_
                                refine ja_to (m := [(26, .p 18 1 0), (179, .p 8 0 0), (180, .b (decide ((wq 2 (sv sa a) (sv sb b)) < 0))), (181, .p 8 0 1), (182, .n true .u64 (lm (wq 2 (sv sa a) (sv sb b)))), (183, .a [.b (decide ((wq 2 (sv sa a) (sv sb b)) < 0)), .n false .u64 (dg (wq 2 (sv sa a) (sv sb b)))]), (184, .p 6 0 0), (185, .b (decide ((wq 1 (sv sa a) (sv sb b)) < 0))), (186, .p 6 0 1), (187, .n true .u64 (lm (wq 1 (sv sa a) (sv sb b)))), (188, .a [.b (decide ((wq 1 (sv sa a) (sv sb b)) < 0)), .n false .u64 (dg (wq 1 (sv sa a) (sv sb b)))])]) (by decide) rfl (cov_n 11 rfl rfl (.cons rfl (.cons rfl (.cons rfl (.cons rfl (.cons rfl (.cons rfl (.cons rfl (.cons rfl (.cons rfl (.cons rfl (.cons rfl .nil)))))))))))) S23_1111111111010
                            have S23_1111111110010 : JA Try.prog ops1 3 #[true, true, true, true, true, true, true, true, true, false, false, true, false] Γ ([(26, .p 18 1 0), (179, .p 8 0 0), (180, .b (decide ((wq 2 (sv sa a) (sv sb b)) < 0))), (181, .p 8 0 1), (182, .n true .u64 (lm (wq 2 (sv sa a) (sv sb b)))), (183, .a [.b (decide ((wq 2 (sv sa a) (sv sb b)) < 0)), .n false .u64 (dg (wq 2 (sv sa a) (sv sb b)))]), (184, .p 6 0 0), (185, .b (decide ((wq 1 (sv sa a) (sv sb b)) < 0))), (186, .p 6 0 1), (187, .n true .u64 (lm (wq 1 (sv sa a) (sv sb b))))] ++ F0) [⟨27, 2, 0, true, [.b sa, .n false .u64 a]⟩, ⟨27, 2, 0, true, [.b sb, .n false .u64 b]⟩, ⟨30, 2, 1, true, [.b sa, .n false .u64 a]⟩, ⟨30, 2, 1, true, [.b sb, .n false .u64 b]⟩, ⟨30, 2, 0, true, [.b (decide ((wq 0 (sv sa a) (sv sb b)) < 0)), .n true .u64 (lm (wq 0 (sv sa a) (sv sb b)))]⟩, ⟨30, 2, 0, true, [.b (decide (((sv sa a) - wq 0 (sv sa a) (sv sb b) * (sv sb b)) < 0)), .n true .u64 (lm ((sv sa a) - wq 0 (sv sa a) (sv sb b) * (sv sb b)))]⟩, ⟨30, 2, 0, true, [.b (decide ((wq 1 (sv sa a) (sv sb b)) < 0)), .n true .u64 (lm (wq 1 (sv sa a) (sv sb b)))]⟩, ⟨30, 2, 0, true, [.b (decide (((sv sa a) - wq 1 (sv sa a) (sv sb b) * (sv sb b)) < 0)), .n true .u64 (lm ((sv sa a) - wq 1 (sv sa a) (sv sb b) * (sv sb b)))]⟩, ⟨30, 2, 0, true, [.b (decide ((wq 2 (sv sa a) (sv sb b)) < 0)), .n true .u64 (lm (wq 2 (sv sa a) (sv sb b)))]⟩, ⟨30, 2, 0, true, [.b (decide (((sv sa a) - wq 2 (sv sa a) (sv sb b) * (sv sb b)) < 0)), .n true .u64 (lm ((sv sa a) - wq 2 (sv sa a) (sv sb b) * (sv sb b)))]⟩, ⟨30, 2, 0, true, [.b (decide ((wq 3 (sv sa a) (sv sb b)) < 0)), .n true .u64 (lm (wq 3 (sv sa a) (sv sb b)))]⟩, ⟨30, 2, 0, true, [.b (decide (((sv sa a) - wq 3 (sv sa a) (sv sb b) * (sv sb b)) < 0)), .n true .u64 (lm ((sv sa a) - wq 3 (sv sa a) (sv sb b) * (sv sb b)))]⟩, ⟨30, 2, 0, true, [.b (decide ((wq 4 (sv sa a) (sv sb b)) < 0)), .n true .u64 (lm (wq 4 (sv sa a) (sv sb b)))]⟩, ⟨30, 2, 0, true, [.b (decide (((sv sa a) - wq 4 (sv sa a) (sv sb b) * (sv sb b)) < 0)), .n true .u64 (lm ((sv sa a) - wq 4 (sv sa a) (sv sb b) * (sv sb b)))]⟩, ⟨23, 1, 0, false, []⟩, ⟨35, 2, 0, true, [.b (decide ((((sv sb b)).natAbs : Int) < 0)), .n false .u64 (dg (((sv sb b)).natAbs : Int))]⟩, ⟨35, 2, 0, true, [.b (decide (((((sv sa a) - wq 3 (sv sa a) (sv sb b) * (sv sb b))).natAbs : Int) < 0)), .n false .u64 (dg ((((sv sa a) - wq 3 (sv sa a) (sv sb b) * (sv sb b))).natAbs : Int))]⟩, ⟨30, 2, 0, true, [.b (decide (((sv sa a) - wq 0 (sv sa a) (sv sb b) * (sv sb b)) < 0)), .n true .u64 (lm ((sv sa a) - wq 0 (sv sa a) (sv sb b) * (sv sb b))), .b (decide (((sv sa a) - wq 1 (sv sa a) (sv sb b) * (sv sb b)) < 0)), .n true .u64 (lm ((sv sa a) - wq 1 (sv sa a) (sv sb b) * (sv sb b))), .b (decide (((sv sa a) - wq 2 (sv sa a) (sv sb b) * (sv sb b)) < 0)), .n true .u64 (lm ((sv sa a) - wq 2 (sv sa a) (sv sb b) * (sv sb b)))]⟩, ⟨35, 2, 1, true, [.b false, .c (.slice none 0 0)]⟩] Q1 := by
                              subst ho; subst hF
                              refine ja_1 9 ?_ rfl (by kernel_rfl)
                              refine js_call Try.f33 (ZOf_v (wq 1 (sv sa a) (sv sb b)) (by omega)) rfl Try.func33 rfl rfl (ovL_cons rfl (ovL_cons rfl ovL_nil)) (.cons .b (.cons .n .nil)) (hd 188 rfl) ?_ (fun ch hp => by simp at hp)
                              rintro y hy; injection hy with hy; subst hy
                              refine ja_to (m := [(26, .p 18 1 0), (179, .p 8 0 0), (180, .b (decide ((wq 2 (sv sa a) (sv sb b)) < 0))), (181, .p 8 0 1), (182, .n true .u64 (lm (wq 2 (sv sa a) (sv sb b)))), (183, .a [.b (decide ((wq 2 (sv sa a) (sv sb b)) < 0)), .n false .u64 (dg (wq 2 (sv sa a) (sv sb b)))]), (184, .p 6 0 0), (185, .b (decide ((wq 1 (sv sa a) (sv sb b)) < 0))), (186, .p 6 0 1), (187, .n true .u64 (lm (wq 1 (sv sa a) (sv sb b)))), (188, .a [.b (decide ((wq 1 (sv sa a) (sv sb b)) < 0)), .n false .u64 (dg (wq 1 (sv sa a) (sv sb b)))])]) (by decide) rfl (cov_n 11 rfl rfl (.cons rfl (.cons rfl (.cons rfl (.cons rfl (.cons rfl (.cons rfl (.cons rfl (.cons rfl (.cons rfl (.cons rfl (.cons rfl .nil)))))))))))) S23_1111111111010
                            have S23_1111111110000 : JA Try.prog ops1 4 #[true, true, true, true, true, true, true, true, true, false, false, false, false] Γ ([(179, .p 8 0 0), (180, .b (decide ((wq 2 (sv sa a) (sv sb b)) < 0))), (181, .p 8 0 1), (182, .n true .u64 (lm (wq 2 (sv sa a) (sv sb b)))), (183, .a [.b (decide ((wq 2 (sv sa a) (sv sb b)) < 0)), .n false .u64 (dg (wq 2 (sv sa a) (sv sb b)))]), (184, .p 6 0 0), (185, .b (decide ((wq 1 (sv sa a) (sv sb b)) < 0))), (186, .p 6 0 1), (187, .n true .u64 (lm (wq 1 (sv sa a) (sv sb b))))] ++ F0) [⟨27, 2, 0, true, [.b sa, .n false .u64 a]⟩, ⟨27, 2, 0, true, [.b sb, .n false .u64 b]⟩, ⟨30, 2, 1, true, [.b sa, .n false .u64 a]⟩, ⟨30, 2, 1, true, [.b sb, .n false .u64 b]⟩, ⟨30, 2, 0, true, [.b (decide ((wq 0 (sv sa a) (sv sb b)) < 0)), .n true .u64 (lm (wq 0 (sv sa a) (sv sb b)))]⟩, ⟨30, 2, 0, true, [.b (decide (((sv sa a) - wq 0 (sv sa a) (sv sb b) * (sv sb b)) < 0)), .n true .u64 (lm ((sv sa a) - wq 0 (sv sa a) (sv sb b) * (sv sb b)))]⟩, ⟨30, 2, 0, true, [.b (decide ((wq 1 (sv sa a) (sv sb b)) < 0)), .n true .u64 (lm (wq 1 (sv sa a) (sv sb b)))]⟩, ⟨30, 2, 0, true, [.b (decide (((sv sa a) - wq 1 (sv sa a) (sv sb b) * (sv sb b)) < 0)), .n true .u64 (lm ((sv sa a) - wq 1 (sv sa a) (sv sb b) * (sv sb b)))]⟩, ⟨30, 2, 0, true, [.b (decide ((wq 2 (sv sa a) (sv sb b)) < 0)), .n true .u64 (lm (wq 2 (sv sa a) (sv sb b)))]⟩, ⟨30, 2, 0, true, [.b (decide (((sv sa a) - wq 2 (sv sa a) (sv sb b) * (sv sb b)) < 0)), .n true .u64 (lm ((sv sa a) - wq 2 (sv sa a) (sv sb b) * (sv sb b)))]⟩, ⟨30, 2, 0, true, [.b (decide ((wq 3 (sv sa a) (sv sb b)) < 0)), .n true .u64 (lm (wq 3 (sv sa a) (sv sb b)))]⟩, ⟨30, 2, 0, true, [.b (decide (((sv sa a) - wq 3 (sv sa a) (sv sb b) * (sv sb b)) < 0)), .n true .u64 (lm ((sv sa a) - wq 3 (sv sa a) (sv sb b) * (sv sb b)))]⟩, ⟨30, 2, 0, true, [.b (decide ((wq 4 (sv sa a) (sv sb b)) < 0)), .n true .u64 (lm (wq 4 (sv sa a) (sv sb b)))]⟩, ⟨30, 2, 0, true, [.b (decide (((sv sa a) - wq 4 (sv sa a) (sv sb b) * (sv sb b)) < 0)), .n true .u64 (lm ((sv sa a) - wq 4 (sv sa a) (sv sb b) * (sv sb b)))]⟩, ⟨23, 1, 0, false, []⟩, ⟨35, 2, 0, true, [.b (decide ((((sv sb b)).natAbs : Int) < 0)), .n false .u64 (dg (((sv sb b)).natAbs : Int))]⟩, ⟨35, 2, 0, true, [.b (decide (((((sv sa a) - wq 3 (sv sa a) (sv sb b) * (sv sb b))).natAbs : Int) < 0)), .n false .u64 (dg ((((sv sa a) - wq 3 (sv sa a) (sv sb b) * (sv sb b))).natAbs : Int))]⟩, ⟨30, 2, 0, true, [.b (decide (((sv sa a) - wq 0 (sv sa a) (sv sb b) * (sv sb b)) < 0)), .n true .u64 (lm ((sv sa a) - wq 0 (sv sa a) (sv sb b) * (sv sb b))), .b (decide (((sv sa a) - wq 1 (sv sa a) (sv sb b) * (sv sb b)) < 0)), .n true .u64 (lm ((sv sa a) - wq 1 (sv sa a) (sv sb b) * (sv sb b))), .b (decide (((sv sa a) - wq 2 (sv sa a) (sv sb b) * (sv sb b)) < 0)), .n true .u64 (lm ((sv sa a) - wq 2 (sv sa a) (sv sb b) * (sv sb b)))]⟩, ⟨0, 1, 0, true, []⟩] Q1 := by
                              subst ho; subst hF
                              refine ja_2 9 11 ?_ ?_ rfl rfl (by kernel_rfl)
                              · refine js_call Try.f33 (ZOf_v (wq 1 (sv sa a) (sv sb b)) (by omega)) rfl Try.func33 rfl rfl (ovL_cons rfl (ovL_cons rfl ovL_nil)) (.cons .b (.cons .n .nil)) (hd 188 rfl) ?_ (fun ch hp => by simp at hp)
                                rintro y hy; injection hy with hy; subst hy
                                refine ja_to (m := [(179, .p 8 0 0), (180, .b (decide ((wq 2 (sv sa a) (sv sb b)) < 0))), (181, .p 8 0 1), (182, .n true .u64 (lm (wq 2 (sv sa a) (sv sb b)))), (183, .a [.b (decide ((wq 2 (sv sa a) (sv sb b)) < 0)), .n false .u64 (dg (wq 2 (sv sa a) (sv sb b)))]), (184, .p 6 0 0), (185, .b (decide ((wq 1 (sv sa a) (sv sb b)) < 0))), (186, .p 6 0 1), (187, .n true .u64 (lm (wq 1 (sv sa a) (sv sb b)))), (188, .a [.b (decide ((wq 1 (sv sa a) (sv sb b)) < 0)), .n false .u64 (dg (wq 1 (sv sa a) (sv sb b)))])]) (by decide) rfl (cov_n 10 rfl rfl (.cons rfl (.cons rfl (.cons rfl (.cons rfl (.cons rfl (.cons rfl (.cons rfl (.cons rfl (.cons rfl (.cons rfl .nil))))))))))) S23_1111111111000
                              · refine js_h (hy_allocAt (id := 18) zero35 (by decide) rfl (by decide) rfl) (hd 26 rfl) ?_
                                refine ja_to (m := [(26, .p 18 1 0), (179, .p 8 0 0), (180, .b (decide ((wq 2 (sv sa a) (sv sb b)) < 0))), (181, .p 8 0 1), (182, .n true .u64 (lm (wq 2 (sv sa a) (sv sb b)))), (183, .a [.b (decide ((wq 2 (sv sa a) (sv sb b)) < 0)), .n false .u64 (dg (wq 2 (sv sa a) (sv sb b)))]), (184, .p 6 0 0), (185, .b (decide ((wq 1 (sv sa a) (sv sb b)) < 0))), (186, .p 6 0 1), (187, .n true .u64 (lm (wq 1 (sv sa a) (sv sb b))))]) (by decide) rfl (cov_n 10 rfl rfl (.cons rfl (.cons rfl (.cons rfl (.cons rfl (.cons rfl (.cons rfl (.cons rfl (.cons rfl (.cons rfl (.cons rfl .nil))))))))))) S23_1111111110010
                            have S23_1111011110010 : JA Try.prog ops1 4 #[true, true, true, true, false, true, true, true, true, false, false, true, false] Γ ([(26, .p 18 1 0), (179, .p 8 0 0), (180, .b (decide ((wq 2 (sv sa a) (sv sb b)) < 0))), (181, .p 8 0 1), (182, .n true .u64 (lm (wq 2 (sv sa a) (sv sb b)))), (184, .p 6 0 0), (185, .b (decide ((wq 1 (sv sa a) (sv sb b)) < 0))), (186, .p 6 0 1), (187, .n true .u64 (lm (wq 1 (sv sa a) (sv sb b))))] ++ F0) [⟨27, 2, 0, true, [.b sa, .n false .u64 a]⟩, ⟨27, 2, 0, true, [.b sb, .n false .u64 b]⟩, ⟨30, 2, 1, true, [.b sa, .n false .u64 a]⟩, ⟨30, 2, 1, true, [.b sb, .n false .u64 b]⟩, ⟨30, 2, 0, true, [.b (decide ((wq 0 (sv sa a) (sv sb b)) < 0)), .n true .u64 (lm (wq 0 (sv sa a) (sv sb b)))]⟩, ⟨30, 2, 0, true, [.b (decide (((sv sa a) - wq 0 (sv sa a) (sv sb b) * (sv sb b)) < 0)), .n true .u64 (lm ((sv sa a) - wq 0 (sv sa a) (sv sb b) * (sv sb b)))]⟩, ⟨30, 2, 0, true, [.b (decide ((wq 1 (sv sa a) (sv sb b)) < 0)), .n true .u64 (lm (wq 1 (sv sa a) (sv sb b)))]⟩, ⟨30, 2, 0, true, [.b (decide (((sv sa a) - wq 1 (sv sa a) (sv sb b) * (sv sb b)) < 0)), .n true .u64 (lm ((sv sa a) - wq 1 (sv sa a) (sv sb b) * (sv sb b)))]⟩, ⟨30, 2, 0, true, [.b (decide ((wq 2 (sv sa a) (sv sb b)) < 0)), .n true .u64 (lm (wq 2 (sv sa a) (sv sb b)))]⟩, ⟨30, 2, 0, true, [.b (decide (((sv sa a) - wq 2 (sv sa a) (sv sb b) * (sv sb b)) < 0)), .n true .u64 (lm ((sv sa a) - wq 2 (sv sa a) (sv sb b) * (sv sb b)))]⟩, ⟨30, 2, 0, true, [.b (decide ((wq 3 (sv sa a) (sv sb b)) < 0)), .n true .u64 (lm (wq 3 (sv sa a) (sv sb b)))]⟩, ⟨30, 2, 0, true, [.b (decide (((sv sa a) - wq 3 (sv sa a) (sv sb b) * (sv sb b)) < 0)), .n true .u64 (lm ((sv sa a) - wq 3 (sv sa a) (sv sb b) * (sv sb b)))]⟩, ⟨30, 2, 0, true, [.b (decide ((wq 4 (sv sa a) (sv sb b)) < 0)), .n true .u64 (lm (wq 4 (sv sa a) (sv sb b)))]⟩, ⟨30, 2, 0, true, [.b (decide (((sv sa a) - wq 4 (sv sa a) (sv sb b) * (sv sb b)) < 0)), .n true .u64 (lm ((sv sa a) - wq 4 (sv sa a) (sv sb b) * (sv sb b)))]⟩, ⟨23, 1, 0, false, []⟩, ⟨35, 2, 0, true, [.b (decide ((((sv sb b)).natAbs : Int) < 0)), .n false .u64 (dg (((sv sb b)).natAbs : Int))]⟩, ⟨35, 2, 0, true, [.b (decide (((((sv sa a) - wq 3 (sv sa a) (sv sb b) * (sv sb b))).natAbs : Int) < 0)), .n false .u64 (dg ((((sv sa a) - wq 3 (sv sa a) (sv sb b) * (sv sb b))).natAbs : Int))]⟩, ⟨30, 2, 0, true, [.b (decide (((sv sa a) - wq 0 (sv sa a) (sv sb b) * (sv sb b)) < 0)), .n true .u64 (lm ((sv sa a) - wq 0 (sv sa a) (sv sb b) * (sv sb b))), .b (decide (((sv sa a) - wq 1 (sv sa a) (sv sb b) * (sv sb b)) < 0)), .n true .u64 (lm ((sv sa a) - wq 1 (sv sa a) (sv sb b) * (sv sb b))), .b (decide (((sv sa a) - wq 2 (sv sa a) (sv sb b) * (sv sb b)) < 0)), .n true .u64 (lm ((sv sa a) - wq 2 (sv sa a) (sv sb b) * (sv sb b)))]⟩, ⟨35, 2, 1, true, [.b false, .c (.slice none 0 0)]⟩] Q1 := by
                              subst ho; subst hF
                              refine ja_1 4 ?_ rfl (by kernel_rfl)
                              refine js_call Try.f33 (ZOf_v (wq 2 (sv sa a) (sv sb b)) (by omega)) rfl Try.func33 rfl rfl (ovL_cons rfl (ovL_cons rfl ovL_nil)) (.cons .b (.cons .n .nil)) (hd 183 rfl) ?_ (fun ch hp => by simp at hp)
                              rintro y hy; injection hy with hy; subst hy
                              refine ja_to (m := [(26, .p 18 1 0), (179, .p 8 0 0), (180, .b (decide ((wq 2 (sv sa a) (sv sb b)) < 0))), (181, .p 8 0 1), (182, .n true .u64 (lm (wq 2 (sv sa a) (sv sb b)))), (183, .a [.b (decide ((wq 2 (sv sa a) (sv sb b)) < 0)), .n false .u64 (dg (wq 2 (sv sa a) (sv sb b)))]), (184, .p 6 0 0), (185, .b (decide ((wq 1 (sv sa a) (sv sb b)) < 0))), (186, .p 6 0 1), (187, .n true .u64 (lm (wq 1 (sv sa a) (sv sb b))))]) (by decide) rfl (cov_n 10 rfl rfl (.cons rfl (.cons rfl (.cons rfl (.cons rfl (.cons rfl (.cons rfl (.cons rfl (.cons rfl (.cons rfl (.cons rfl .nil))))))))))) S23_1111111110010
                            have S23_1111011110000 : JA Try.prog ops1 5 #[true, true, true, true, false, true, true, true, true, false, false, false, false] Γ ([(179, .p 8 0 0), (180, .b (decide ((wq 2 (sv sa a) (sv sb b)) < 0))), (181, .p 8 0 1), (182, .n true .u64 (lm (wq 2 (sv sa a) (sv sb b)))), (184, .p 6 0 0), (185, .b (decide ((wq 1 (sv sa a) (sv sb b)) < 0))), (186, .p 6 0 1), (187, .n true .u64 (lm (wq 1 (sv sa a) (sv sb b))))] ++ F0) [⟨27, 2, 0, true, [.b sa, .n false .u64 a]⟩, ⟨27, 2, 0, true, [.b sb, .n false .u64 b]⟩, ⟨30, 2, 1, true, [.b sa, .n false .u64 a]⟩, ⟨30, 2, 1, true, [.b sb, .n false .u64 b]⟩, ⟨30, 2, 0, true, [.b (decide ((wq 0 (sv sa a) (sv sb b)) < 0)), .n true .u64 (lm (wq 0 (sv sa a) (sv sb b)))]⟩, ⟨30, 2, 0, true, [.b (decide (((sv sa a) - wq 0 (sv sa a) (sv sb b) * (sv sb b)) < 0)), .n true .u64 (lm ((sv sa a) - wq 0 (sv sa a) (sv sb b) * (sv sb b)))]⟩, ⟨30, 2, 0, true, [.b (decide ((wq 1 (sv sa a) (sv sb b)) < 0)), .n true .u64 (lm (wq 1 (sv sa a) (sv sb b)))]⟩, ⟨30, 2, 0, true, [.b (decide (((sv sa a) - wq 1 (sv sa a) (sv sb b) * (sv sb b)) < 0)), .n true .u64 (lm ((sv sa a) - wq 1 (sv sa a) (sv sb b) * (sv sb b)))]⟩, ⟨30, 2, 0, true, [.b (decide ((wq 2 (sv sa a) (sv sb b)) < 0)), .n true .u64 (lm (wq 2 (sv sa a) (sv sb b)))]⟩, ⟨30, 2, 0, true, [.b (decide (((sv sa a) - wq 2 (sv sa a) (sv sb b) * (sv sb b)) < 0)), .n true .u64 (lm ((sv sa a) - wq 2 (sv sa a) (sv sb b) * (sv sb b)))]⟩, ⟨30, 2, 0, true, [.b (decide ((wq 3 (sv sa a) (sv sb b)) < 0)), .n true .u64 (lm (wq 3 (sv sa a) (sv sb b)))]⟩, ⟨30, 2, 0, true, [.b (decide (((sv sa a) - wq 3 (sv sa a) (sv sb b) * (sv sb b)) < 0)), .n true .u64 (lm ((sv sa a) - wq 3 (sv sa a) (sv sb b) * (sv sb b)))]⟩, ⟨30, 2, 0, true, [.b (decide ((wq 4 (sv sa a) (sv sb b)) < 0)), .n true .u64 (lm (wq 4 (sv sa a) (sv sb b)))]⟩, ⟨30, 2, 0, true, [.b (decide (((sv sa a) - wq 4 (sv sa a) (sv sb b) * (sv sb b)) < 0)), .n true .u64 (lm ((sv sa a) - wq 4 (sv sa a) (sv sb b) * (sv sb b)))]⟩, ⟨23, 1, 0, false, []⟩, ⟨35, 2, 0, true, [.b (decide ((((sv sb b)).natAbs : Int) < 0)), .n false .u64 (dg (((sv sb b)).natAbs : Int))]⟩, ⟨35, 2, 0, true, [.b (decide (((((sv sa a) - wq 3 (sv sa a) (sv sb b) * (sv sb b))).natAbs : Int) < 0)), .n false .u64 (dg ((((sv sa a) - wq 3 (sv sa a) (sv sb b) * (sv sb b))).natAbs : Int))]⟩, ⟨30, 2, 0, true, [.b (decide (((sv sa a) - wq 0 (sv sa a) (sv sb b) * (sv sb b)) < 0)), .n true .u64 (lm ((sv sa a) - wq 0 (sv sa a) (sv sb b) * (sv sb b))), .b (decide (((sv sa a) - wq 1 (sv sa a) (sv sb b) * (sv sb b)) < 0)), .n true .u64 (lm ((sv sa a) - wq 1 (sv sa a) (sv sb b) * (sv sb b))), .b (decide (((sv sa a) - wq 2 (sv sa a) (sv sb b) * (sv sb b)) < 0)), .n true .u64 (lm ((sv sa a) - wq 2 (sv sa a) (sv sb b) * (sv sb b)))]⟩, ⟨0, 1, 0, true, []⟩] Q1 := by
                              subst ho; subst hF
                              refine ja_2 4 11 ?_ ?_ rfl rfl (by kernel_rfl)
                              · refine js_call Try.f33 (ZOf_v (wq 2 (sv sa a) (sv sb b)) (by omega)) rfl Try.func33 rfl rfl (ovL_cons rfl (ovL_cons rfl ovL_nil)) (.cons .b (.cons .n .nil)) (hd 183 rfl) ?_ (fun ch hp => by simp at hp)
                                rintro y hy; injection hy with hy; subst hy
                                refine ja_to (m := [(179, .p 8 0 0), (180, .b (decide ((wq 2 (sv sa a) (sv sb b)) < 0))), (181, .p 8 0 1), (182, .n true .u64 (lm (wq 2 (sv sa a) (sv sb b)))), (183, .a [.b (decide ((wq 2 (sv sa a) (sv sb b)) < 0)), .n false .u64 (dg (wq 2 (sv sa a) (sv sb b)))]), (184, .p 6 0 0), (185, .b (decide ((wq 1 (sv sa a) (sv sb b)) < 0))), (186, .p 6 0 1), (187, .n true .u64 (lm (wq 1 (sv sa a) (sv sb b))))]) (by decide) rfl (cov_n 9 rfl rfl (.cons rfl (.cons rfl (.cons rfl (.cons rfl (.cons rfl (.cons rfl (.cons rfl (.cons rfl (.cons rfl .nil)))))))))) S23_1111111110000
                              · refine js_h (hy_allocAt (id := 18) zero35 (by decide) rfl (by decide) rfl) (hd 26 rfl) ?_
                                refine ja_to (m := [(26, .p 18 1 0), (179, .p 8 0 0), (180, .b (decide ((wq 2 (sv sa a) (sv sb b)) < 0))), (181, .p 8 0 1), (182, .n true .u64 (lm (wq 2 (sv sa a) (sv sb b)))), (184, .p 6 0 0), (185, .b (decide ((wq 1 (sv sa a) (sv sb b)) < 0))), (186, .p 6 0 1), (187, .n true .u64 (lm (wq 1 (sv sa a) (sv sb b))))]) (by decide) rfl (cov_n 9 rfl rfl (.cons rfl (.cons rfl (.cons rfl (.cons rfl (.cons rfl (.cons rfl (.cons rfl (.cons rfl (.cons rfl .nil)))))))))) S23_1111011110010
                            have S23_1111011100000 : JA Try.prog ops1 6 #[true, true, true, true, false, true, true, true, false, false, false, false, false] Γ ([(179, .p 8 0 0), (180, .b (decide ((wq 2 (sv sa a) (sv sb b)) < 0))), (181, .p 8 0 1), (182, .n true .u64 (lm (wq 2 (sv sa a) (sv sb b)))), (184, .p 6 0 0), (185, .b (decide ((wq 1 (sv sa a) (sv sb b)) < 0))), (186, .p 6 0 1)] ++ F0) [⟨27, 2, 0, true, [.b sa, .n false .u64 a]⟩, ⟨27, 2, 0, true, [.b sb, .n false .u64 b]⟩, ⟨30, 2, 1, true, [.b sa, .n false .u64 a]⟩, ⟨30, 2, 1, true, [.b sb, .n false .u64 b]⟩, ⟨30, 2, 0, true, [.b (decide ((wq 0 (sv sa a) (sv sb b)) < 0)), .n true .u64 (lm (wq 0 (sv sa a) (sv sb b)))]⟩, ⟨30, 2, 0, true, [.b (decide (((sv sa a) - wq 0 (sv sa a) (sv sb b) * (sv sb b)) < 0)), .n true .u64 (lm ((sv sa a) - wq 0 (sv sa a) (sv sb b) * (sv sb b)))]⟩, ⟨30, 2, 0, true, [.b (decide ((wq 1 (sv sa a) (sv sb b)) < 0)), .n true .u64 (lm (wq 1 (sv sa a) (sv sb b)))]⟩, ⟨30, 2, 0, true, [.b (decide (((sv sa a) - wq 1 (sv sa a) (sv sb b) * (sv sb b)) < 0)), .n true .u64 (lm ((sv sa a) - wq 1 (sv sa a) (sv sb b) * (sv sb b)))]⟩, ⟨30, 2, 0, true, [.b (decide ((wq 2 (sv sa a) (sv sb b)) < 0)), .n true .u64 (lm (wq 2 (sv sa a) (sv sb b)))]⟩, ⟨30, 2, 0, true, [.b (decide (((sv sa a) - wq 2 (sv sa a) (sv sb b) * (sv sb b)) < 0)), .n true .u64 (lm ((sv sa a) - wq 2 (sv sa a) (sv sb b) * (sv sb b)))]⟩, ⟨30, 2, 0, true, [.b (decide ((wq 3 (sv sa a) (sv sb b)) < 0)), .n true .u64 (lm (wq 3 (sv sa a) (sv sb b)))]⟩, ⟨30, 2, 0, true, [.b (decide (((sv sa a) - wq 3 (sv sa a) (sv sb b) * (sv sb b)) < 0)), .n true .u64 (lm ((sv sa a) - wq 3 (sv sa a) (sv sb b) * (sv sb b)))]⟩, ⟨30, 2, 0, true, [.b (decide ((wq 4 (sv sa a) (sv sb b)) < 0)), .n true .u64 (lm (wq 4 (sv sa a) (sv sb b)))]⟩, ⟨30, 2, 0, true, [.b (decide (((sv sa a) - wq 4 (sv sa a) (sv sb b) * (sv sb b)) < 0)), .n true .u64 (lm ((sv sa a) - wq 4 (sv sa a) (sv sb b) * (sv sb b)))]⟩, ⟨23, 1, 0, false, []⟩, ⟨35, 2, 0, true, [.b (decide ((((sv sb b)).natAbs : Int) < 0)), .n false .u64 (dg (((sv sb b)).natAbs : Int))]⟩, ⟨35, 2, 0, true, [.b (decide (((((sv sa a) - wq 3 (sv sa a) (sv sb b) * (sv sb b))).natAbs : Int) < 0)), .n false .u64 (dg ((((sv sa a) - wq 3 (sv sa a) (sv sb b) * (sv sb b))).natAbs : Int))]⟩, ⟨30, 2, 0, true, [.b (decide (((sv sa a) - wq 0 (sv sa a) (sv sb b) * (sv sb b)) < 0)), .n true .u64 (lm ((sv sa a) - wq 0 (sv sa a) (sv sb b) * (sv sb b))), .b (decide (((sv sa a) - wq 1 (sv sa a) (sv sb b) * (sv sb b)) < 0)), .n true .u64 (lm ((sv sa a) - wq 1 (sv sa a) (sv sb b) * (sv sb b))), .b (decide (((sv sa a) - wq 2 (sv sa a) (sv sb b) * (sv sb b)) < 0)), .n true .u64 (lm ((sv sa a) - wq 2 (sv sa a) (sv sb b) * (sv sb b)))]⟩, ⟨0, 1, 0, true, []⟩] Q1 := by
                              subst ho; subst hF
                              refine ja_l2 8 [9, 10, 12] (lo_l (ly_ld one28 rfl rfl rfl) (hd 187 rfl)) rfl (by kernel_rfl) (by kernel_rfl) (by kernel_rfl) (by kernel_rfl) hpan ?_
                              refine ja_to (m := [(179, .p 8 0 0), (180, .b (decide ((wq 2 (sv sa a) (sv sb b)) < 0))), (181, .p 8 0 1), (182, .n true .u64 (lm (wq 2 (sv sa a) (sv sb b)))), (184, .p 6 0 0), (185, .b (decide ((wq 1 (sv sa a) (sv sb b)) < 0))), (186, .p 6 0 1), (187, .n true .u64 (lm (wq 1 (sv sa a) (sv sb b))))]) (by decide) rfl (cov_n 8 rfl rfl (.cons rfl (.cons rfl (.cons rfl (.cons rfl (.cons rfl (.cons rfl (.cons rfl (.cons rfl .nil))))))))) S23_1111011110000
                            have S23_1111011000000 : JA Try.prog ops1 7 #[true, true, true, true, false, true, true, false, false, false, false, false, false] Γ ([(179, .p 8 0 0), (180, .b (decide ((wq 2 (sv sa a) (sv sb b)) < 0))), (181, .p 8 0 1), (182, .n true .u64 (lm (wq 2 (sv sa a) (sv sb b)))), (184, .p 6 0 0), (185, .b (decide ((wq 1 (sv sa a) (sv sb b)) < 0)))] ++ F0) [⟨27, 2, 0, true, [.b sa, .n false .u64 a]⟩, ⟨27, 2, 0, true, [.b sb, .n false .u64 b]⟩, ⟨30, 2, 1, true, [.b sa, .n false .u64 a]⟩, ⟨30, 2, 1, true, [.b sb, .n false .u64 b]⟩, ⟨30, 2, 0, true, [.b (decide ((wq 0 (sv sa a) (sv sb b)) < 0)), .n true .u64 (lm (wq 0 (sv sa a) (sv sb b)))]⟩, ⟨30, 2, 0, true, [.b (decide (((sv sa a) - wq 0 (sv sa a) (sv sb b) * (sv sb b)) < 0)), .n true .u64 (lm ((sv sa a) - wq 0 (sv sa a) (sv sb b) * (sv sb b)))]⟩, ⟨30, 2, 0, true, [.b (decide ((wq 1 (sv sa a) (sv sb b)) < 0)), .n true .u64 (lm (wq 1 (sv sa a) (sv sb b)))]⟩, ⟨30, 2, 0, true, [.b (decide (((sv sa a) - wq 1 (sv sa a) (sv sb b) * (sv sb b)) < 0)), .n true .u64 (lm ((sv sa a) - wq 1 (sv sa a) (sv sb b) * (sv sb b)))]⟩, ⟨30, 2, 0, true, [.b (decide ((wq 2 (sv sa a) (sv sb b)) < 0)), .n true .u64 (lm (wq 2 (sv sa a) (sv sb b)))]⟩, ⟨30, 2, 0, true, [.b (decide (((sv sa a) - wq 2 (sv sa a) (sv sb b) * (sv sb b)) < 0)), .n true .u64 (lm ((sv sa a) - wq 2 (sv sa a) (sv sb b) * (sv sb b)))]⟩, ⟨30, 2, 0, true, [.b (decide ((wq 3 (sv sa a) (sv sb b)) < 0)), .n true .u64 (lm (wq 3 (sv sa a) (sv sb b)))]⟩, ⟨30, 2, 0, true, [.b (decide (((sv sa a) - wq 3 (sv sa a) (sv sb b) * (sv sb b)) < 0)), .n true .u64 (lm ((sv sa a) - wq 3 (sv sa a) (sv sb b) * (sv sb b)))]⟩, ⟨30, 2, 0, true, [.b (decide ((wq 4 (sv sa a) (sv sb b)) < 0)), .n true .u64 (lm (wq 4 (sv sa a) (sv sb b)))]⟩, ⟨30, 2, 0, true, [.b (decide (((sv sa a) - wq 4 (sv sa a) (sv sb b) * (sv sb b)) < 0)), .n true .u64 (lm ((sv sa a) - wq 4 (sv sa a) (sv sb b) * (sv sb b)))]⟩, ⟨23, 1, 0, false, []⟩, ⟨35, 2, 0, true, [.b (decide ((((sv sb b)).natAbs : Int) < 0)), .n false .u64 (dg (((sv sb b)).natAbs : Int))]⟩, ⟨35, 2, 0, true, [.b (decide (((((sv sa a) - wq 3 (sv sa a) (sv sb b) * (sv sb b))).natAbs : Int) < 0)), .n false .u64 (dg ((((sv sa a) - wq 3 (sv sa a) (sv sb b) * (sv sb b))).natAbs : Int))]⟩, ⟨30, 2, 0, true, [.b (decide (((sv sa a) - wq 0 (sv sa a) (sv sb b) * (sv sb b)) < 0)), .n true .u64 (lm ((sv sa a) - wq 0 (sv sa a) (sv sb b) * (sv sb b))), .b (decide (((sv sa a) - wq 1 (sv sa a) (sv sb b) * (sv sb b)) < 0)), .n true .u64 (lm ((sv sa a) - wq 1 (sv sa a) (sv sb b) * (sv sb b))), .b (decide (((sv sa a) - wq 2 (sv sa a) (sv sb b) * (sv sb b)) < 0)), .n true .u64 (lm ((sv sa a) - wq 2 (sv sa a) (sv sb b) * (sv sb b)))]⟩, ⟨0, 1, 0, true, []⟩] Q1 := by
                              subst ho; subst hF
                              refine ja_l2 7 [8, 9, 10, 12] (lo_l (ly_fa fld30_1 rfl rfl rfl) (hd 186 rfl)) rfl (by kernel_rfl) (by kernel_rfl) (by kernel_rfl) (by kernel_rfl) hpan ?_
                              refine ja_to (m := [(179, .p 8 0 0), (180, .b (decide ((wq 2 (sv sa a) (sv sb b)) < 0))), (181, .p 8 0 1), (182, .n true .u64 (lm (wq 2 (sv sa a) (sv sb b)))), (184, .p 6 0 0), (185, .b (decide ((wq 1 (sv sa a) (sv sb b)) < 0))), (186, .p 6 0 1)]) (by decide) rfl (cov_n 7 rfl rfl (.cons rfl (.cons rfl (.cons rfl (.cons rfl (.cons rfl (.cons rfl (.cons rfl .nil)))))))) S23_1111011100000
                            have S23_1111010000000 : JA Try.prog ops1 8 #[true, true, true, true, false, true, false, false, false, false, false, false, false] Γ ([(179, .p 8 0 0), (180, .b (decide ((wq 2 (sv sa a) (sv sb b)) < 0))), (181, .p 8 0 1), (182, .n true .u64 (lm (wq 2 (sv sa a) (sv sb b)))), (184, .p 6 0 0)] ++ F0) [⟨27, 2, 0, true, [.b sa, .n false .u64 a]⟩, ⟨27, 2, 0, true, [.b sb, .n false .u64 b]⟩, ⟨30, 2, 1, true, [.b sa, .n false .u64 a]⟩, ⟨30, 2, 1, true, [.b sb, .n false .u64 b]⟩, ⟨30, 2, 0, true, [.b (decide ((wq 0 (sv sa a) (sv sb b)) < 0)), .n true .u64 (lm (wq 0 (sv sa a) (sv sb b)))]⟩, ⟨30, 2, 0, true, [.b (decide (((sv sa a) - wq 0 (sv sa a) (sv sb b) * (sv sb b)) < 0)), .n true .u64 (lm ((sv sa a) - wq 0 (sv sa a) (sv sb b) * (sv sb b)))]⟩, ⟨30, 2, 0, true, [.b (decide ((wq 1 (sv sa a) (sv sb b)) < 0)), .n true .u64 (lm (wq 1 (sv sa a) (sv sb b)))]⟩, ⟨30, 2, 0, true, [.b (decide (((sv sa a) - wq 1 (sv sa a) (sv sb b) * (sv sb b)) < 0)), .n true .u64 (lm ((sv sa a) - wq 1 (sv sa a) (sv sb b) * (sv sb b)))]⟩, ⟨30, 2, 0, true, [.b (decide ((wq 2 (sv sa a) (sv sb b)) < 0)), .n true .u64 (lm (wq 2 (sv sa a) (sv sb b)))]⟩, ⟨30, 2, 0, true, [.b (decide (((sv sa a) - wq 2 (sv sa a) (sv sb b) * (sv sb b)) < 0)), .n true .u64 (lm ((sv sa a) - wq 2 (sv sa a) (sv sb b) * (sv sb b)))]⟩, ⟨30, 2, 0, true, [.b (decide ((wq 3 (sv sa a) (sv sb b)) < 0)), .n true .u64 (lm (wq 3 (sv sa a) (sv sb b)))]⟩, ⟨30, 2, 0, true, [.b (decide (((sv sa a) - wq 3 (sv sa a) (sv sb b) * (sv sb b)) < 0)), .n true .u64 (lm ((sv sa a) - wq 3 (sv sa a) (sv sb b) * (sv sb b)))]⟩, ⟨30, 2, 0, true, [.b (decide ((wq 4 (sv sa a) (sv sb b)) < 0)), .n true .u64 (lm (wq 4 (sv sa a) (sv sb b)))]⟩, ⟨30, 2, 0, true, [.b (decide (((sv sa a) - wq 4 (sv sa a) (sv sb b) * (sv sb b)) < 0)), .n true .u64 (lm ((sv sa a) - wq 4 (sv sa a) (sv sb b) * (sv sb b)))]⟩, ⟨23, 1, 0, false, []⟩, ⟨35, 2, 0, true, [.b (decide ((((sv sb b)).natAbs : Int) < 0)), .n false .u64 (dg (((sv sb b)).natAbs : Int))]⟩, ⟨35, 2, 0, true, [.b (decide (((((sv sa a) - wq 3 (sv sa a) (sv sb b) * (sv sb b))).natAbs : Int) < 0)), .n false .u64 (dg ((((sv sa a) - wq 3 (sv sa a) (sv sb b) * (sv sb b))).natAbs : Int))]⟩, ⟨30, 2, 0, true, [.b (decide (((sv sa a) - wq 0 (sv sa a) (sv sb b) * (sv sb b)) < 0)), .n true .u64 (lm ((sv sa a) - wq 0 (sv sa a) (sv sb b) * (sv sb b))), .b (decide (((sv sa a) - wq 1 (sv sa a) (sv sb b) * (sv sb b)) < 0)), .n true .u64 (lm ((sv sa a) - wq 1 (sv sa a) (sv sb b) * (sv sb b))), .b (decide (((sv sa a) - wq 2 (sv sa a) (sv sb b) * (sv sb b)) < 0)), .n true .u64 (lm ((sv sa a) - wq 2 (sv sa a) (sv sb b) * (sv sb b)))]⟩, ⟨0, 1, 0, true, []⟩] Q1 := by
                              subst ho; subst hF
                              refine ja_l2 6 [9, 10, 12] (lo_l (ly_ld one4 rfl rfl rfl) (hd 185 rfl)) rfl (by kernel_rfl) (by kernel_rfl) (by kernel_rfl) (by kernel_rfl) hpan ?_
                              refine ja_to (m := [(179, .p 8 0 0), (180, .b (decide ((wq 2 (sv sa a) (sv sb b)) < 0))), (181, .p 8 0 1), (182, .n true .u64 (lm (wq 2 (sv sa a) (sv sb b)))), (184, .p 6 0 0), (185, .b (decide ((wq 1 (sv sa a) (sv sb b)) < 0)))]) (by decide) rfl (cov_n 6 rfl rfl (.cons rfl (.cons rfl (.cons rfl (.cons rfl (.cons rfl (.cons rfl .nil))))))) S23_1111011000000
                            have S23_1111000000000 : JA Try.prog ops1 9 #[true, true, true, true, false, false, false, false, false, false, false, false, false] Γ ([(179, .p 8 0 0), (180, .b (decide ((wq 2 (sv sa a) (sv sb b)) < 0))), (181, .p 8 0 1), (182, .n true .u64 (lm (wq 2 (sv sa a) (sv sb b))))] ++ F0) [⟨27, 2, 0, true, [.b sa, .n false .u64 a]⟩, ⟨27, 2, 0, true, [.b sb, .n false .u64 b]⟩, ⟨30, 2, 1, true, [.b sa, .n false .u64 a]⟩, ⟨30, 2, 1, true, [.b sb, .n false .u64 b]⟩, ⟨30, 2, 0, true, [.b (decide ((wq 0 (sv sa a) (sv sb b)) < 0)), .n true .u64 (lm (wq 0 (sv sa a) (sv sb b)))]⟩, ⟨30, 2, 0, true, [.b (decide (((sv sa a) - wq 0 (sv sa a) (sv sb b) * (sv sb b)) < 0)), .n true .u64 (lm ((sv sa a) - wq 0 (sv sa a) (sv sb b) * (sv sb b)))]⟩, ⟨30, 2, 0, true, [.b (decide ((wq 1 (sv sa a) (sv sb b)) < 0)), .n true .u64 (lm (wq 1 (sv sa a) (sv sb b)))]⟩, ⟨30, 2, 0, true, [.b (decide (((sv sa a) - wq 1 (sv sa a) (sv sb b) * (sv sb b)) < 0)), .n true .u64 (lm ((sv sa a) - wq 1 (sv sa a) (sv sb b) * (sv sb b)))]⟩, ⟨30, 2, 0, true, [.b (decide ((wq 2 (sv sa a) (sv sb b)) < 0)), .n true .u64 (lm (wq 2 (sv sa a) (sv sb b)))]⟩, ⟨30, 2, 0, true, [.b (decide (((sv sa a) - wq 2 (sv sa a) (sv sb b) * (sv sb b)) < 0)), .n true .u64 (lm ((sv sa a) - wq 2 (sv sa a) (sv sb b) * (sv sb b)))]⟩, ⟨30, 2, 0, true, [.b (decide ((wq 3 (sv sa a) (sv sb b)) < 0)), .n true .u64 (lm (wq 3 (sv sa a) (sv sb b)))]⟩, ⟨30, 2, 0, true, [.b (decide (((sv sa a) - wq 3 (sv sa a) (sv sb b) * (sv sb b)) < 0)), .n true .u64 (lm ((sv sa a) - wq 3 (sv sa a) (sv sb b) * (sv sb b)))]⟩, ⟨30, 2, 0, true, [.b (decide ((wq 4 (sv sa a) (sv sb b)) < 0)), .n true .u64 (lm (wq 4 (sv sa a) (sv sb b)))]⟩, ⟨30, 2, 0, true, [.b (decide (((sv sa a) - wq 4 (sv sa a) (sv sb b) * (sv sb b)) < 0)), .n true .u64 (lm ((sv sa a) - wq 4 (sv sa a) (sv sb b) * (sv sb b)))]⟩, ⟨23, 1, 0, false, []⟩, ⟨35, 2, 0, true, [.b (decide ((((sv sb b)).natAbs : Int) < 0)), .n false .u64 (dg (((sv sb b)).natAbs : Int))]⟩, ⟨35, 2, 0, true, [.b (decide (((((sv sa a) - wq 3 (sv sa a) (sv sb b) * (sv sb b))).natAbs : Int) < 0)), .n false .u64 (dg ((((sv sa a) - wq 3 (sv sa a) (sv sb b) * (sv sb b))).natAbs : Int))]⟩, ⟨30, 2, 0, true, [.b (decide (((sv sa a) - wq 0 (sv sa a) (sv sb b) * (sv sb b)) < 0)), .n true .u64 (lm ((sv sa a) - wq 0 (sv sa a) (sv sb b) * (sv sb b))), .b (decide (((sv sa a) - wq 1 (sv sa a) (sv sb b) * (sv sb b)) < 0)), .n true .u64 (lm ((sv sa a) - wq 1 (sv sa a) (sv sb b) * (sv sb b))), .b (decide (((sv sa a) - wq 2 (sv sa a) (sv sb b) * (sv sb b)) < 0)), .n true .u64 (lm ((sv sa a) - wq 2 (sv sa a) (sv sb b) * (sv sb b)))]⟩, ⟨0, 1, 0, true, []⟩] Q1 := by
                              subst ho; subst hF
                              refine ja_l2 5 [6, 9, 10, 12] (lo_l (ly_fa fld30_0 rfl rfl rfl) (hd 184 rfl)) rfl (by kernel_rfl) (by kernel_rfl) (by kernel_rfl) (by kernel_rfl) hpan ?_
                              refine ja_to (m := [(179, .p 8 0 0), (180, .b (decide ((wq 2 (sv sa a) (sv sb b)) < 0))), (181, .p 8 0 1), (182, .n true .u64 (lm (wq 2 (sv sa a) (sv sb b)))), (184, .p 6 0 0)]) (by decide) rfl (cov_n 5 rfl rfl (.cons rfl (.cons rfl (.cons rfl (.cons rfl (.cons rfl .nil)))))) S23_1111010000000
                            have S23_1110000000000 : JA Try.prog ops1 10 #[true, true, true, false, false, false, false, false, false, false, false, false, false] Γ ([(179, .p 8 0 0), (180, .b (decide ((wq 2 (sv sa a) (sv sb b)) < 0))), (181, .p 8 0 1)] ++ F0) [⟨27, 2, 0, true, [.b sa, .n false .u64 a]⟩, ⟨27, 2, 0, true, [.b sb, .n false .u64 b]⟩, ⟨30, 2, 1, true, [.b sa, .n false .u64 a]⟩, ⟨30, 2, 1, true, [.b sb, .n false .u64 b]⟩, ⟨30, 2, 0, true, [.b (decide ((wq 0 (sv sa a) (sv sb b)) < 0)), .n true .u64 (lm (wq 0 (sv sa a) (sv sb b)))]⟩, ⟨30, 2, 0, true, [.b (decide (((sv sa a) - wq 0 (sv sa a) (sv sb b) * (sv sb b)) < 0)), .n true .u64 (lm ((sv sa a) - wq 0 (sv sa a) (sv sb b) * (sv sb b)))]⟩, ⟨30, 2, 0, true, [.b (decide ((wq 1 (sv sa a) (sv sb b)) < 0)), .n true .u64 (lm (wq 1 (sv sa a) (sv sb b)))]⟩, ⟨30, 2, 0, true, [.b (decide (((sv sa a) - wq 1 (sv sa a) (sv sb b) * (sv sb b)) < 0)), .n true .u64 (lm ((sv sa a) - wq 1 (sv sa a) (sv sb b) * (sv sb b)))]⟩, ⟨30, 2, 0, true, [.b (decide ((wq 2 (sv sa a) (sv sb b)) < 0)), .n true .u64 (lm (wq 2 (sv sa a) (sv sb b)))]⟩, ⟨30, 2, 0, true, [.b (decide (((sv sa a) - wq 2 (sv sa a) (sv sb b) * (sv sb b)) < 0)), .n true .u64 (lm ((sv sa a) - wq 2 (sv sa a) (sv sb b) * (sv sb b)))]⟩, ⟨30, 2, 0, true, [.b (decide ((wq 3 (sv sa a) (sv sb b)) < 0)), .n true .u64 (lm (wq 3 (sv sa a) (sv sb b)))]⟩, ⟨30, 2, 0, true, [.b (decide (((sv sa a) - wq 3 (sv sa a) (sv sb b) * (sv sb b)) < 0)), .n true .u64 (lm ((sv sa a) - wq 3 (sv sa a) (sv sb b) * (sv sb b)))]⟩, ⟨30, 2, 0, true, [.b (decide ((wq 4 (sv sa a) (sv sb b)) < 0)), .n true .u64 (lm (wq 4 (sv sa a) (sv sb b)))]⟩, ⟨30, 2, 0, true, [.b (decide (((sv sa a) - wq 4 (sv sa a) (sv sb b) * (sv sb b)) < 0)), .n true .u64 (lm ((sv sa a) - wq 4 (sv sa a) (sv sb b) * (sv sb b)))]⟩, ⟨23, 1, 0, false, []⟩, ⟨35, 2, 0, true, [.b (decide ((((sv sb b)).natAbs : Int) < 0)), .n false .u64 (dg (((sv sb b)).natAbs : Int))]⟩, ⟨35, 2, 0, true, [.b (decide (((((sv sa a) - wq 3 (sv sa a) (sv sb b) * (sv sb b))).natAbs : Int) < 0)), .n false .u64 (dg ((((sv sa a) - wq 3 (sv sa a) (sv sb b) * (sv sb b))).natAbs : Int))]⟩, ⟨30, 2, 0, true, [.b (decide (((sv sa a) - wq 0 (sv sa a) (sv sb b) * (sv sb b)) < 0)), .n true .u64 (lm ((sv sa a) - wq 0 (sv sa a) (sv sb b) * (sv sb b))), .b (decide (((sv sa a) - wq 1 (sv sa a) (sv sb b) * (sv sb b)) < 0)), .n true .u64 (lm ((sv sa a) - wq 1 (sv sa a) (sv sb b) * (sv sb b))), .b (decide (((sv sa a) - wq 2 (sv sa a) (sv sb b) * (sv sb b)) < 0)), .n true .u64 (lm ((sv sa a) - wq 2 (sv sa a) (sv sb b) * (sv sb b)))]⟩, ⟨0, 1, 0, true, []⟩] Q1 := by
                              subst ho; subst hF
                              refine ja_l2 3 [4, 9, 10, 12] (lo_l (ly_ld one28 rfl rfl rfl) (hd 182 rfl)) rfl (by kernel_rfl) (by kernel_rfl) (by kernel_rfl) (by kernel_rfl) hpan ?_
                              refine ja_to (m := [(179, .p 8 0 0), (180, .b (decide ((wq 2 (sv sa a) (sv sb b)) < 0))), (181, .p 8 0 1), (182, .n true .u64 (lm (wq 2 (sv sa a) (sv sb b))))]) (by decide) rfl (cov_n 4 rfl rfl (.cons rfl (.cons rfl (.cons rfl (.cons rfl .nil))))) S23_1111000000000
                            have S23_1100000000000 : JA Try.prog ops1 11 #[true, true, false, false, false, false, false, false, false, false, false, false, false] Γ ([(179, .p 8 0 0), (180, .b (decide ((wq 2 (sv sa a) (sv sb b)) < 0)))] ++ F0) [⟨27, 2, 0, true, [.b sa, .n false .u64 a]⟩, ⟨27, 2, 0, true, [.b sb, .n false .u64 b]⟩, ⟨30, 2, 1, true, [.b sa, .n false .u64 a]⟩, ⟨30, 2, 1, true, [.b sb, .n false .u64 b]⟩, ⟨30, 2, 0, true, [.b (decide ((wq 0 (sv sa a) (sv sb b)) < 0)), .n true .u64 (lm (wq 0 (sv sa a) (sv sb b)))]⟩, ⟨30, 2, 0, true, [.b (decide (((sv sa a) - wq 0 (sv sa a) (sv sb b) * (sv sb b)) < 0)), .n true .u64 (lm ((sv sa a) - wq 0 (sv sa a) (sv sb b) * (sv sb b)))]⟩, ⟨30, 2, 0, true, [.b (decide ((wq 1 (sv sa a) (sv sb b)) < 0)), .n true .u64 (lm (wq 1 (sv sa a) (sv sb b)))]⟩, ⟨30, 2, 0, true, [.b (decide (((sv sa a) - wq 1 (sv sa a) (sv sb b) * (sv sb b)) < 0)), .n true .u64 (lm ((sv sa a) - wq 1 (sv sa a) (sv sb b) * (sv sb b)))]⟩, ⟨30, 2, 0, true, [.b (decide ((wq 2 (sv sa a) (sv sb b)) < 0)), .n true .u64 (lm (wq 2 (sv sa a) (sv sb b)))]⟩, ⟨30, 2, 0, true, [.b (decide (((sv sa a) - wq 2 (sv sa a) (sv sb b) * (sv sb b)) < 0)), .n true .u64 (lm ((sv sa a) - wq 2 (sv sa a) (sv sb b) * (sv sb b)))]⟩, ⟨30, 2, 0, true, [.b (decide ((wq 3 (sv sa a) (sv sb b)) < 0)), .n true .u64 (lm (wq 3 (sv sa a) (sv sb b)))]⟩, ⟨30, 2, 0, true, [.b (decide (((sv sa a) - wq 3 (sv sa a) (sv sb b) * (sv sb b)) < 0)), .n true .u64 (lm ((sv sa a) - wq 3 (sv sa a) (sv sb b) * (sv sb b)))]⟩, ⟨30, 2, 0, true, [.b (decide ((wq 4 (sv sa a) (sv sb b)) < 0)), .n true .u64 (lm (wq 4 (sv sa a) (sv sb b)))]⟩, ⟨30, 2, 0, true, [.b (decide (((sv sa a) - wq 4 (sv sa a) (sv sb b) * (sv sb b)) < 0)), .n true .u64 (lm ((sv sa a) - wq 4 (sv sa a) (sv sb b) * (sv sb b)))]⟩, ⟨23, 1, 0, false, []⟩, ⟨35, 2, 0, true, [.b (decide ((((sv sb b)).natAbs : Int) < 0)), .n false .u64 (dg (((sv sb b)).natAbs : Int))]⟩, ⟨35, 2, 0, true, [.b (decide (((((sv sa a) - wq 3 (sv sa a) (sv sb b) * (sv sb b))).natAbs : Int) < 0)), .n false .u64 (dg ((((sv sa a) - wq 3 (sv sa a) (sv sb b) * (sv sb b))).natAbs : Int))]⟩, ⟨30, 2, 0, true, [.b (decide (((sv sa a) - wq 0 (sv sa a) (sv sb b) * (sv sb b)) < 0)), .n true .u64 (lm ((sv sa a) - wq 0 (sv sa a) (sv sb b) * (sv sb b))), .b (decide (((sv sa a) - wq 1 (sv sa a) (sv sb b) * (sv sb b)) < 0)), .n true .u64 (lm ((sv sa a) - wq 1 (sv sa a) (sv sb b) * (sv sb b))), .b (decide (((sv sa a) - wq 2 (sv sa a) (sv sb b) * (sv sb b)) < 0)), .n true .u64 (lm ((sv sa a) - wq 2 (sv sa a) (sv sb b) * (sv sb b)))]⟩, ⟨0, 1, 0, true, []⟩] Q1 := by
                              subst ho; subst hF
                              refine ja_l2 2 [3, 4, 9, 10, 12] (lo_l (ly_fa fld30_1 rfl rfl rfl) (hd 181 rfl)) rfl (by kernel_rfl) (by kernel_rfl) (by kernel_rfl) (by kernel_rfl) hpan ?_
                              refine ja_to (m := [(179, .p 8 0 0), (180, .b (decide ((wq 2 (sv sa a) (sv sb b)) < 0))), (181, .p 8 0 1)]) (by decide) rfl (cov_n 3 rfl rfl (.cons rfl (.cons rfl (.cons rfl .nil)))) S23_1110000000000
                            have S23_1000000000000 : JA Try.prog ops1 12 #[true, false, false, false, false, false, false, false, false, false, false, false, false] Γ ([(179, .p 8 0 0)] ++ F0) [⟨27, 2, 0, true, [.b sa, .n false .u64 a]⟩, ⟨27, 2, 0, true, [.b sb, .n false .u64 b]⟩, ⟨30, 2, 1, true, [.b sa, .n false .u64 a]⟩, ⟨30, 2, 1, true, [.b sb, .n false .u64 b]⟩, ⟨30, 2, 0, true, [.b (decide ((wq 0 (sv sa a) (sv sb b)) < 0)), .n true .u64 (lm (wq 0 (sv sa a) (sv sb b)))]⟩, ⟨30, 2, 0, true, [.b (decide (((sv sa a) - wq 0 (sv sa a) (sv sb b) * (sv sb b)) < 0)), .n true .u64 (lm ((sv sa a) - wq 0 (sv sa a) (sv sb b) * (sv sb b)))]⟩, ⟨30, 2, 0, true, [.b (decide ((wq 1 (sv sa a) (sv sb b)) < 0)), .n true .u64 (lm (wq 1 (sv sa a) (sv sb b)))]⟩, ⟨30, 2, 0, true, [.b (decide (((sv sa a) - wq 1 (sv sa a) (sv sb b) * (sv sb b)) < 0)), .n true .u64 (lm ((sv sa a) - wq 1 (sv sa a) (sv sb b) * (sv sb b)))]⟩, ⟨30, 2, 0, true, [.b (decide ((wq 2 (sv sa a) (sv sb b)) < 0)), .n true .u64 (lm (wq 2 (sv sa a) (sv sb b)))]⟩, ⟨30, 2, 0, true, [.b (decide (((sv sa a) - wq 2 (sv sa a) (sv sb b) * (sv sb b)) < 0)), .n true .u64 (lm ((sv sa a) - wq 2 (sv sa a) (sv sb b) * (sv sb b)))]⟩, ⟨30, 2, 0, true, [.b (decide ((wq 3 (sv sa a) (sv sb b)) < 0)), .n true .u64 (lm (wq 3 (sv sa a) (sv sb b)))]⟩, ⟨30, 2, 0, true, [.b (decide (((sv sa a) - wq 3 (sv sa a) (sv sb b) * (sv sb b)) < 0)), .n true .u64 (lm ((sv sa a) - wq 3 (sv sa a) (sv sb b) * (sv sb b)))]⟩, ⟨30, 2, 0, true, [.b (decide ((wq 4 (sv sa a) (sv sb b)) < 0)), .n true .u64 (lm (wq 4 (sv sa a) (sv sb b)))]⟩, ⟨30, 2, 0, true, [.b (decide (((sv sa a) - wq 4 (sv sa a) (sv sb b) * (sv sb b)) < 0)), .n true .u64 (lm ((sv sa a) - wq 4 (sv sa a) (sv sb b) * (sv sb b)))]⟩, ⟨23, 1, 0, false, []⟩, ⟨35, 2, 0, true, [.b (decide ((((sv sb b)).natAbs : Int) < 0)), .n false .u64 (dg (((sv sb b)).natAbs : Int))]⟩, ⟨35, 2, 0, true, [.b (decide (((((sv sa a) - wq 3 (sv sa a) (sv sb b) * (sv sb b))).natAbs : Int) < 0)), .n false .u64 (dg ((((sv sa a) - wq 3 (sv sa a) (sv sb b) * (sv sb b))).natAbs : Int))]⟩, ⟨30, 2, 0, true, [.b (decide (((sv sa a) - wq 0 (sv sa a) (sv sb b) * (sv sb b)) < 0)), .n true .u64 (lm ((sv sa a) - wq 0 (sv sa a) (sv sb b) * (sv sb b))), .b (decide (((sv sa a) - wq 1 (sv sa a) (sv sb b) * (sv sb b)) < 0)), .n true .u64 (lm ((sv sa a) - wq 1 (sv sa a) (sv sb b) * (sv sb b))), .b (decide (((sv sa a) - wq 2 (sv sa a) (sv sb b) * (sv sb b)) < 0)), .n true .u64 (lm ((sv sa a) - wq 2 (sv sa a) (sv sb b) * (sv sb b)))]⟩, ⟨0, 1, 0, true, []⟩] Q1 := by
                              subst ho; subst hF
                              refine ja_l2 1 [4, 9, 10, 12] (lo_l (ly_ld one4 rfl rfl rfl) (hd 180 rfl)) rfl (by kernel_rfl) (by kernel_rfl) (by kernel_rfl) (by kernel_rfl) hpan ?_
                              refine ja_to (m := [(179, .p 8 0 0), (180, .b (decide ((wq 2 (sv sa a) (sv sb b)) < 0)))]) (by decide) rfl (cov_n 2 rfl rfl (.cons rfl (.cons rfl .nil))) S23_1100000000000
                            have S23_0000000000000 : JA Try.prog ops1 13 #[false, false, false, false, false, false, false, false, false, false, false, false, false] Γ ([] ++ F0) [⟨27, 2, 0, true, [.b sa, .n false .u64 a]⟩, ⟨27, 2, 0, true, [.b sb, .n false .u64 b]⟩, ⟨30, 2, 1, true, [.b sa, .n false .u64 a]⟩, ⟨30, 2, 1, true, [.b sb, .n false .u64 b]⟩, ⟨30, 2, 0, true, [.b (decide ((wq 0 (sv sa a) (sv sb b)) < 0)), .n true .u64 (lm (wq 0 (sv sa a) (sv sb b)))]⟩, ⟨30, 2, 0, true, [.b (decide (((sv sa a) - wq 0 (sv sa a) (sv sb b) * (sv sb b)) < 0)), .n true .u64 (lm ((sv sa a) - wq 0 (sv sa a) (sv sb b) * (sv sb b)))]⟩, ⟨30, 2, 0, true, [.b (decide ((wq 1 (sv sa a) (sv sb b)) < 0)), .n true .u64 (lm (wq 1 (sv sa a) (sv sb b)))]⟩, ⟨30, 2, 0, true, [.b (decide (((sv sa a) - wq 1 (sv sa a) (sv sb b) * (sv sb b)) < 0)), .n true .u64 (lm ((sv sa a) - wq 1 (sv sa a) (sv sb b) * (sv sb b)))]⟩, ⟨30, 2, 0, true, [.b (decide ((wq 2 (sv sa a) (sv sb b)) < 0)), .n true .u64 (lm (wq 2 (sv sa a) (sv sb b)))]⟩, ⟨30, 2, 0, true, [.b (decide (((sv sa a) - wq 2 (sv sa a) (sv sb b) * (sv sb b)) < 0)), .n true .u64 (lm ((sv sa a) - wq 2 (sv sa a) (sv sb b) * (sv sb b)))]⟩, ⟨30, 2, 0, true, [.b (decide ((wq 3 (sv sa a) (sv sb b)) < 0)), .n true .u64 (lm (wq 3 (sv sa a) (sv sb b)))]⟩, ⟨30, 2, 0, true, [.b (decide (((sv sa a) - wq 3 (sv sa a) (sv sb b) * (sv sb b)) < 0)), .n true .u64 (lm ((sv sa a) - wq 3 (sv sa a) (sv sb b) * (sv sb b)))]⟩, ⟨30, 2, 0, true, [.b (decide ((wq 4 (sv sa a) (sv sb b)) < 0)), .n true .u64 (lm (wq 4 (sv sa a) (sv sb b)))]⟩, ⟨30, 2, 0, true, [.b (decide (((sv sa a) - wq 4 (sv sa a) (sv sb b) * (sv sb b)) < 0)), .n true .u64 (lm ((sv sa a) - wq 4 (sv sa a) (sv sb b) * (sv sb b)))]⟩, ⟨23, 1, 0, false, []⟩, ⟨35, 2, 0, true, [.b (decide ((((sv sb b)).natAbs : Int) < 0)), .n false .u64 (dg (((sv sb b)).natAbs : Int))]⟩, ⟨35, 2, 0, true, [.b (decide (((((sv sa a) - wq 3 (sv sa a) (sv sb b) * (sv sb b))).natAbs : Int) < 0)), .n false .u64 (dg ((((sv sa a) - wq 3 (sv sa a) (sv sb b) * (sv sb b))).natAbs : Int))]⟩, ⟨30, 2, 0, true, [.b (decide (((sv sa a) - wq 0 (sv sa a) (sv sb b) * (sv sb b)) < 0)), .n true .u64 (lm ((sv sa a) - wq 0 (sv sa a) (sv sb b) * (sv sb b))), .b (decide (((sv sa a) - wq 1 (sv sa a) (sv sb b) * (sv sb b)) < 0)), .n true .u64 (lm ((sv sa a) - wq 1 (sv sa a) (sv sb b) * (sv sb b))), .b (decide (((sv sa a) - wq 2 (sv sa a) (sv sb b) * (sv sb b)) < 0)), .n true .u64 (lm ((sv sa a) - wq 2 (sv sa a) (sv sb b) * (sv sb b)))]⟩, ⟨0, 1, 0, true, []⟩] Q1 := by
                              subst ho; subst hF
                              refine ja_l2 0 [1, 4, 9, 10, 12] (lo_l (ly_fa fld30_0 rfl rfl rfl) (hd 179 rfl)) rfl (by kernel_rfl) (by kernel_rfl) (by kernel_rfl) (by kernel_rfl) hpan ?_
                              refine ja_to (m := [(179, .p 8 0 0)]) (by decide) rfl (cov_n 1 rfl rfl (.cons rfl .nil)) S23_1000000000000
                            subst ho; subst hF
                            exact ja_to (m := []) (by decide) rfl (cov_n 0 rfl rfl .nil) S23_0000000000000
  have S1_11111110 : JA Try.prog ops1 1 #[true, true, true, true, true, true, true, false] Γ ([(5, .p 2 1 0), (6, .p 3 1 0), (28, .a [.b sa, .n false .u64 a]), (29, .a [.b sa, .n false .u64 a]), (30, .a [.b sb, .n false .u64 b]), (31, .a [.b sb, .n false .u64 b])] ++ F0) [⟨27, 2, 0, true, [.b sa, .n false .u64 a]⟩, ⟨27, 2, 0, true, [.b sb, .n false .u64 b]⟩, ⟨30, 2, 1, true, [.b sa, .n false .u64 a]⟩, ⟨30, 2, 1, true, [.b false, .c (.slice none 0 0)]⟩] Q1 := by
    subst ho; subst hF
    refine ja_1 7 ?_ rfl (by kernel_rfl)
    refine js_st (sy_store rfl rfl rfl siz30 rfl rfl (Nat.le_of_ble_eq_true rfl)) rfl ?_
    refine ja_to (m := [(5, .p 2 1 0), (6, .p 3 1 0), (28, .a [.b sa, .n false .u64 a]), (29, .a [.b sa, .n false .u64 a]), (30, .a [.b sb, .n false .u64 b]), (31, .a [.b sb, .n false .u64 b])]) (by decide) rfl (cov_n 6 rfl rfl (.cons rfl (.cons rfl (.cons rfl (.cons rfl (.cons rfl (.cons rfl .nil))))))) S1_11111111
  have S1_11111100 : JA Try.prog ops1 2 #[true, true, true, true, true, true, false, false] Γ ([(5, .p 2 1 0), (6, .p 3 1 0), (28, .a [.b sa, .n false .u64 a]), (29, .a [.b sa, .n false .u64 a]), (30, .a [.b sb, .n false .u64 b]), (31, .a [.b sb, .n false .u64 b])] ++ F0) [⟨27, 2, 0, true, [.b sa, .n false .u64 a]⟩, ⟨27, 2, 0, true, [.b sb, .n false .u64 b]⟩, ⟨30, 2, 1, true, [.b false, .c (.slice none 0 0)]⟩, ⟨30, 2, 1, true, [.b false, .c (.slice none 0 0)]⟩] Q1 := by
    subst ho; subst hF
    refine ja_1 6 ?_ rfl (by kernel_rfl)
    refine js_st (sy_store rfl rfl rfl siz30 rfl rfl (Nat.le_of_ble_eq_true rfl)) rfl ?_
    refine ja_to (m := [(5, .p 2 1 0), (6, .p 3 1 0), (28, .a [.b sa, .n false .u64 a]), (29, .a [.b sa, .n false .u64 a]), (30, .a [.b sb, .n false .u64 b]), (31, .a [.b sb, .n false .u64 b])]) (by decide) rfl (cov_n 6 rfl rfl (.cons rfl (.cons rfl (.cons rfl (.cons rfl (.cons rfl (.cons rfl .nil))))))) S1_11111110
  have S1_11111000 : JA Try.prog ops1 3 #[true, true, true, true, true, false, false, false] Γ ([(5, .p 2 1 0), (28, .a [.b sa, .n false .u64 a]), (29, .a [.b sa, .n false .u64 a]), (30, .a [.b sb, .n false .u64 b]), (31, .a [.b sb, .n false .u64 b])] ++ F0) [⟨27, 2, 0, true, [.b sa, .n false .u64 a]⟩, ⟨27, 2, 0, true, [.b sb, .n false .u64 b]⟩, ⟨30, 2, 1, true, [.b false, .c (.slice none 0 0)]⟩, ⟨0, 1, 0, true, []⟩] Q1 := by
    subst ho; subst hF
    refine ja_1 5 ?_ rfl (by kernel_rfl)
    refine js_h (hy_allocAt (id := 3) zero30 (by decide) rfl (by decide) rfl) (hd 6 rfl) ?_
    refine ja_to (m := [(5, .p 2 1 0), (6, .p 3 1 0), (28, .a [.b sa, .n false .u64 a]), (29, .a [.b sa, .n false .u64 a]), (30, .a [.b sb, .n false .u64 b]), (31, .a [.b sb, .n false .u64 b])]) (by decide) rfl (cov_n 6 rfl rfl (.cons rfl (.cons rfl (.cons rfl (.cons rfl (.cons rfl (.cons rfl .nil))))))) S1_11111100
  have S1_11110100 : JA Try.prog ops1 3 #[true, true, true, true, false, true, false, false] Γ ([(6, .p 3 1 0), (28, .a [.b sa, .n false .u64 a]), (29, .a [.b sa, .n false .u64 a]), (30, .a [.b sb, .n false .u64 b]), (31, .a [.b sb, .n false .u64 b])] ++ F0) [⟨27, 2, 0, true, [.b sa, .n false .u64 a]⟩, ⟨27, 2, 0, true, [.b sb, .n false .u64 b]⟩, ⟨0, 1, 0, true, []⟩, ⟨30, 2, 1, true, [.b false, .c (.slice none 0 0)]⟩] Q1 := by
    subst ho; subst hF
    refine ja_1 4 ?_ rfl (by kernel_rfl)
    refine js_h (hy_allocAt (id := 2) zero30 (by decide) rfl (by decide) rfl) (hd 5 rfl) ?_
    refine ja_to (m := [(5, .p 2 1 0), (6, .p 3 1 0), (28, .a [.b sa, .n false .u64 a]), (29, .a [.b sa, .n false .u64 a]), (30, .a [.b sb, .n false .u64 b]), (31, .a [.b sb, .n false .u64 b])]) (by decide) rfl (cov_n 6 rfl rfl (.cons rfl (.cons rfl (.cons rfl (.cons rfl (.cons rfl (.cons rfl .nil))))))) S1_11111100
  have S1_11110000 : JA Try.prog ops1 4 #[true, true, true, true, false, false, false, false] Γ ([(28, .a [.b sa, .n false .u64 a]), (29, .a [.b sa, .n false .u64 a]), (30, .a [.b sb, .n false .u64 b]), (31, .a [.b sb, .n false .u64 b])] ++ F0) [⟨27, 2, 0, true, [.b sa, .n false .u64 a]⟩, ⟨27, 2, 0, true, [.b sb, .n false .u64 b]⟩, ⟨0, 1, 0, true, []⟩, ⟨0, 1, 0, true, []⟩] Q1 := by
    subst ho; subst hF
    refine ja_2 4 5 ?_ ?_ rfl rfl (by kernel_rfl)
    · refine js_h (hy_allocAt (id := 2) zero30 (by decide) rfl (by decide) rfl) (hd 5 rfl) ?_
      refine ja_to (m := [(5, .p 2 1 0), (28, .a [.b sa, .n false .u64 a]), (29, .a [.b sa, .n false .u64 a]), (30, .a [.b sb, .n false .u64 b]), (31, .a [.b sb, .n false .u64 b])]) (by decide) rfl (cov_n 5 rfl rfl (.cons rfl (.cons rfl (.cons rfl (.cons rfl (.cons rfl .nil)))))) S1_11111000
    · refine js_h (hy_allocAt (id := 3) zero30 (by decide) rfl (by decide) rfl) (hd 6 rfl) ?_
      refine ja_to (m := [(6, .p 3 1 0), (28, .a [.b sa, .n false .u64 a]), (29, .a [.b sa, .n false .u64 a]), (30, .a [.b sb, .n false .u64 b]), (31, .a [.b sb, .n false .u64 b])]) (by decide) rfl (cov_n 5 rfl rfl (.cons rfl (.cons rfl (.cons rfl (.cons rfl (.cons rfl .nil)))))) S1_11110100
  have S1_11101100 : JA Try.prog ops1 3 #[true, true, true, false, true, true, false, false] Γ ([(5, .p 2 1 0), (6, .p 3 1 0), (28, .a [.b sa, .n false .u64 a]), (29, .a [.b sa, .n false .u64 a]), (30, .a [.b sb, .n false .u64 b])] ++ F0) [⟨27, 2, 0, true, [.b sa, .n false .u64 a]⟩, ⟨27, 2, 0, true, [.b sb, .n false .u64 b]⟩, ⟨30, 2, 1, true, [.b false, .c (.slice none 0 0)]⟩, ⟨30, 2, 1, true, [.b false, .c (.slice none 0 0)]⟩] Q1 := by
    subst ho; subst hF
    refine ja_1 3 ?_ rfl (by kernel_rfl)
    refine js_call Try.f27 (in_s sb b) rfl Try.func27 rfl rfl (ovL_cons rfl ovL_nil) (.cons (.a1 .b (.a1 .n .a0)) .nil) (hd 31 rfl) ?_ (fun ch hp => by simp at hp)
    rintro y hy; injection hy with hy; subst hy
    refine ja_to (m := [(5, .p 2 1 0), (6, .p 3 1 0), (28, .a [.b sa, .n false .u64 a]), (29, .a [.b sa, .n false .u64 a]), (30, .a [.b sb, .n false .u64 b]), (31, .a [.b sb, .n false .u64 b])]) (by decide) rfl (cov_n 6 rfl rfl (.cons rfl (.cons rfl (.cons rfl (.cons rfl (.cons rfl (.cons rfl .nil))))))) S1_11111100
  have S1_11101000 : JA Try.prog ops1 4 #[true, true, true, false, true, false, false, false] Γ ([(5, .p 2 1 0), (28, .a [.b sa, .n false .u64 a]), (29, .a [.b sa, .n false .u64 a]), (30, .a [.b sb, .n false .u64 b])] ++ F0) [⟨27, 2, 0, true, [.b sa, .n false .u64 a]⟩, ⟨27, 2, 0, true, [.b sb, .n false .u64 b]⟩, ⟨30, 2, 1, true, [.b false, .c (.slice none 0 0)]⟩, ⟨0, 1, 0, true, []⟩] Q1 := by
    subst ho; subst hF
    refine ja_2 3 5 ?_ ?_ rfl rfl (by kernel_rfl)
    · refine js_call Try.f27 (in_s sb b) rfl Try.func27 rfl rfl (ovL_cons rfl ovL_nil) (.cons (.a1 .b (.a1 .n .a0)) .nil) (hd 31 rfl) ?_ (fun ch hp => by simp at hp)
      rintro y hy; injection hy with hy; subst hy
      refine ja_to (m := [(5, .p 2 1 0), (28, .a [.b sa, .n false .u64 a]), (29, .a [.b sa, .n false .u64 a]), (30, .a [.b sb, .n false .u64 b]), (31, .a [.b sb, .n false .u64 b])]) (by decide) rfl (cov_n 5 rfl rfl (.cons rfl (.cons rfl (.cons rfl (.cons rfl (.cons rfl .nil)))))) S1_11111000
    · refine js_h (hy_allocAt (id := 3) zero30 (by decide) rfl (by decide) rfl) (hd 6 rfl) ?_
      refine ja_to (m := [(5, .p 2 1 0), (6, .p 3 1 0), (28, .a [.b sa, .n false .u64 a]), (29, .a [.b sa, .n false .u64 a]), (30, .a [.b sb, .n false .u64 b])]) (by decide) rfl (cov_n 5 rfl rfl (.cons rfl (.cons rfl (.cons rfl (.cons rfl (.cons rfl .nil)))))) S1_11101100
  have S1_11100100 : JA Try.prog ops1 4 #[true, true, true, false, false, true, false, false] Γ ([(6, .p 3 1 0), (28, .a [.b sa, .n false .u64 a]), (29, .a [.b sa, .n false .u64 a]), (30, .a [.b sb, .n false .u64 b])] ++ F0) [⟨27, 2, 0, true, [.b sa, .n false .u64 a]⟩, ⟨27, 2, 0, true, [.b sb, .n false .u64 b]⟩, ⟨0, 1, 0, true, []⟩, ⟨30, 2, 1, true, [.b false, .c (.slice none 0 0)]⟩] Q1 := by
    subst ho; subst hF
    refine ja_2 3 4 ?_ ?_ rfl rfl (by kernel_rfl)
    · refine js_call Try.f27 (in_s sb b) rfl Try.func27 rfl rfl (ovL_cons rfl ovL_nil) (.cons (.a1 .b (.a1 .n .a0)) .nil) (hd 31 rfl) ?_ (fun ch hp => by simp at hp)
      rintro y hy; injection hy with hy; subst hy
      refine ja_to (m := [(6, .p 3 1 0), (28, .a [.b sa, .n false .u64 a]), (29, .a [.b sa, .n false .u64 a]), (30, .a [.b sb, .n false .u64 b]), (31, .a [.b sb, .n false .u64 b])]) (by decide) rfl (cov_n 5 rfl rfl (.cons rfl (.cons rfl (.cons rfl (.cons rfl (.cons rfl .nil)))))) S1_11110100
    · refine js_h (hy_allocAt (id := 2) zero30 (by decide) rfl (by decide) rfl) (hd 5 rfl) ?_
      refine ja_to (m := [(5, .p 2 1 0), (6, .p 3 1 0), (28, .a [.b sa, .n false .u64 a]), (29, .a [.b sa, .n false .u64 a]), (30, .a [.b sb, .n false .u64 b])]) (by decide) rfl (cov_n 5 rfl rfl (.cons rfl (.cons rfl (.cons rfl (.cons rfl (.cons rfl .nil)))))) S1_11101100
  have S1_11100000 : JA Try.prog ops1 5 #[true, true, true, false, false, false, false, false] Γ ([(28, .a [.b sa, .n false .u64 a]), (29, .a [.b sa, .n false .u64 a]), (30, .a [.b sb, .n false .u64 b])] ++ F0) [⟨27, 2, 0, true, [.b sa, .n false .u64 a]⟩, ⟨27, 2, 0, true, [.b sb, .n false .u64 b]⟩, ⟨0, 1, 0, true, []⟩, ⟨0, 1, 0, true, []⟩] Q1 := by
    subst ho; subst hF
    refine ja_3 3 4 5 ?_ ?_ ?_ rfl rfl rfl (by kernel_rfl)
    · refine js_call Try.f27 (in_s sb b) rfl Try.func27 rfl rfl (ovL_cons rfl ovL_nil) (.cons (.a1 .b (.a1 .n .a0)) .nil) (hd 31 rfl) ?_ (fun ch hp => by simp at hp)
      rintro y hy; injection hy with hy; subst hy
      refine ja_to (m := [(28, .a [.b sa, .n false .u64 a]), (29, .a [.b sa, .n false .u64 a]), (30, .a [.b sb, .n false .u64 b]), (31, .a [.b sb, .n false .u64 b])]) (by decide) rfl (cov_n 4 rfl rfl (.cons rfl (.cons rfl (.cons rfl (.cons rfl .nil))))) S1_11110000
    · refine js_h (hy_allocAt (id := 2) zero30 (by decide) rfl (by decide) rfl) (hd 5 rfl) ?_
      refine ja_to (m := [(5, .p 2 1 0), (28, .a [.b sa, .n false .u64 a]), (29, .a [.b sa, .n false .u64 a]), (30, .a [.b sb, .n false .u64 b])]) (by decide) rfl (cov_n 4 rfl rfl (.cons rfl (.cons rfl (.cons rfl (.cons rfl .nil))))) S1_11101000
    · refine js_h (hy_allocAt (id := 3) zero30 (by decide) rfl (by decide) rfl) (hd 6 rfl) ?_
      refine ja_to (m := [(6, .p 3 1 0), (28, .a [.b sa, .n false .u64 a]), (29, .a [.b sa, .n false .u64 a]), (30, .a [.b sb, .n false .u64 b])]) (by decide) rfl (cov_n 4 rfl rfl (.cons rfl (.cons rfl (.cons rfl (.cons rfl .nil))))) S1_11100100
  have S1_10101100 : JA Try.prog ops1 4 #[true, false, true, false, true, true, false, false] Γ ([(5, .p 2 1 0), (6, .p 3 1 0), (28, .a [.b sa, .n false .u64 a]), (30, .a [.b sb, .n false .u64 b])] ++ F0) [⟨27, 2, 0, true, [.b sa, .n false .u64 a]⟩, ⟨27, 2, 0, true, [.b sb, .n false .u64 b]⟩, ⟨30, 2, 1, true, [.b false, .c (.slice none 0 0)]⟩, ⟨30, 2, 1, true, [.b false, .c (.slice none 0 0)]⟩] Q1 := by
    subst ho; subst hF
    refine ja_1 1 ?_ rfl (by kernel_rfl)
    refine js_call Try.f27 (in_s sa a) rfl Try.func27 rfl rfl (ovL_cons rfl ovL_nil) (.cons (.a1 .b (.a1 .n .a0)) .nil) (hd 29 rfl) ?_ (fun ch hp => by simp at hp)
    rintro y hy; injection hy with hy; subst hy
    refine ja_to (m := [(5, .p 2 1 0), (6, .p 3 1 0), (28, .a [.b sa, .n false .u64 a]), (29, .a [.b sa, .n false .u64 a]), (30, .a [.b sb, .n false .u64 b])]) (by decide) rfl (cov_n 5 rfl rfl (.cons rfl (.cons rfl (.cons rfl (.cons rfl (.cons rfl .nil)))))) S1_11101100
  have S1_10101000 : JA Try.prog ops1 5 #[true, false, true, false, true, false, false, false] Γ ([(5, .p 2 1 0), (28, .a [.b sa, .n false .u64 a]), (30, .a [.b sb, .n false .u64 b])] ++ F0) [⟨27, 2, 0, true, [.b sa, .n false .u64 a]⟩, ⟨27, 2, 0, true, [.b sb, .n false .u64 b]⟩, ⟨30, 2, 1, true, [.b false, .c (.slice none 0 0)]⟩, ⟨0, 1, 0, true, []⟩] Q1 := by
    subst ho; subst hF
    refine ja_2 1 5 ?_ ?_ rfl rfl (by kernel_rfl)
    · refine js_call Try.f27 (in_s sa a) rfl Try.func27 rfl rfl (ovL_cons rfl ovL_nil) (.cons (.a1 .b (.a1 .n .a0)) .nil) (hd 29 rfl) ?_ (fun ch hp => by simp at hp)
      rintro y hy; injection hy with hy; subst hy
      refine ja_to (m := [(5, .p 2 1 0), (28, .a [.b sa, .n false .u64 a]), (29, .a [.b sa, .n false .u64 a]), (30, .a [.b sb, .n false .u64 b])]) (by decide) rfl (cov_n 4 rfl rfl (.cons rfl (.cons rfl (.cons rfl (.cons rfl .nil))))) S1_11101000
    · refine js_h (hy_allocAt (id := 3) zero30 (by decide) rfl (by decide) rfl) (hd 6 rfl) ?_
      refine ja_to (m := [(5, .p 2 1 0), (6, .p 3 1 0), (28, .a [.b sa, .n false .u64 a]), (30, .a [.b sb, .n false .u64 b])]) (by decide) rfl (cov_n 4 rfl rfl (.cons rfl (.cons rfl (.cons rfl (.cons rfl .nil))))) S1_10101100
  have S1_10100100 : JA Try.prog ops1 5 #[true, false, true, false, false, true, false, false] Γ ([(6, .p 3 1 0), (28, .a [.b sa, .n false .u64 a]), (30, .a [.b sb, .n false .u64 b])] ++ F0) [⟨27, 2, 0, true, [.b sa, .n false .u64 a]⟩, ⟨27, 2, 0, true, [.b sb, .n false .u64 b]⟩, ⟨0, 1, 0, true, []⟩, ⟨30, 2, 1, true, [.b false, .c (.slice none 0 0)]⟩] Q1 := by
    subst ho; subst hF
    refine ja_2 1 4 ?_ ?_ rfl rfl (by kernel_rfl)
    · refine js_call Try.f27 (in_s sa a) rfl Try.func27 rfl rfl (ovL_cons rfl ovL_nil) (.cons (.a1 .b (.a1 .n .a0)) .nil) (hd 29 rfl) ?_ (fun ch hp => by simp at hp)
      rintro y hy; injection hy with hy; subst hy
      refine ja_to (m := [(6, .p 3 1 0), (28, .a [.b sa, .n false .u64 a]), (29, .a [.b sa, .n false .u64 a]), (30, .a [.b sb, .n false .u64 b])]) (by decide) rfl (cov_n 4 rfl rfl (.cons rfl (.cons rfl (.cons rfl (.cons rfl .nil))))) S1_11100100
    · refine js_h (hy_allocAt (id := 2) zero30 (by decide) rfl (by decide) rfl) (hd 5 rfl) ?_
      refine ja_to (m := [(5, .p 2 1 0), (6, .p 3 1 0), (28, .a [.b sa, .n false .u64 a]), (30, .a [.b sb, .n false .u64 b])]) (by decide) rfl (cov_n 4 rfl rfl (.cons rfl (.cons rfl (.cons rfl (.cons rfl .nil))))) S1_10101100
  have S1_10100000 : JA Try.prog ops1 6 #[true, false, true, false, false, false, false, false] Γ ([(28, .a [.b sa, .n false .u64 a]), (30, .a [.b sb, .n false .u64 b])] ++ F0) [⟨27, 2, 0, true, [.b sa, .n false .u64 a]⟩, ⟨27, 2, 0, true, [.b sb, .n false .u64 b]⟩, ⟨0, 1, 0, true, []⟩, ⟨0, 1, 0, true, []⟩] Q1 := by
    subst ho; subst hF
    refine ja_3 1 4 5 ?_ ?_ ?_ rfl rfl rfl (by kernel_rfl)
    · refine js_call Try.f27 (in_s sa a) rfl Try.func27 rfl rfl (ovL_cons rfl ovL_nil) (.cons (.a1 .b (.a1 .n .a0)) .nil) (hd 29 rfl) ?_ (fun ch hp => by simp at hp)
      rintro y hy; injection hy with hy; subst hy
      refine ja_to (m := [(28, .a [.b sa, .n false .u64 a]), (29, .a [.b sa, .n false .u64 a]), (30, .a [.b sb, .n false .u64 b])]) (by decide) rfl (cov_n 3 rfl rfl (.cons rfl (.cons rfl (.cons rfl .nil)))) S1_11100000
    · refine js_h (hy_allocAt (id := 2) zero30 (by decide) rfl (by decide) rfl) (hd 5 rfl) ?_
      refine ja_to (m := [(5, .p 2 1 0), (28, .a [.b sa, .n false .u64 a]), (30, .a [.b sb, .n false .u64 b])]) (by decide) rfl (cov_n 3 rfl rfl (.cons rfl (.cons rfl (.cons rfl .nil)))) S1_10101000
    · refine js_h (hy_allocAt (id := 3) zero30 (by decide) rfl (by decide) rfl) (hd 6 rfl) ?_
      refine ja_to (m := [(6, .p 3 1 0), (28, .a [.b sa, .n false .u64 a]), (30, .a [.b sb, .n false .u64 b])]) (by decide) rfl (cov_n 3 rfl rfl (.cons rfl (.cons rfl (.cons rfl .nil)))) S1_10100100
  have S1_10000000 : JA Try.prog ops1 7 #[true, false, false, false, false, false, false, false] Γ ([(28, .a [.b sa, .n false .u64 a])] ++ F0) [⟨27, 2, 0, true, [.b sa, .n false .u64 a]⟩, ⟨27, 2, 0, true, [.b sb, .n false .u64 b]⟩, ⟨0, 1, 0, true, []⟩, ⟨0, 1, 0, true, []⟩] Q1 := by
    subst ho; subst hF
    refine ja_l2 2 [3, 6, 7] (lo_l (ly_lda agg27 rfl rfl rfl rfl) (hd 30 rfl)) rfl (by kernel_rfl) (by kernel_rfl) (by kernel_rfl) (by kernel_rfl) hpan ?_
    refine ja_to (m := [(28, .a [.b sa, .n false .u64 a]), (30, .a [.b sb, .n false .u64 b])]) (by decide) rfl (cov_n 2 rfl rfl (.cons rfl (.cons rfl .nil))) S1_10100000
  have S1_00000000 : JA Try.prog ops1 8 #[false, false, false, false, false, false, false, false] Γ ([] ++ F0) [⟨27, 2, 0, true, [.b sa, .n false .u64 a]⟩, ⟨27, 2, 0, true, [.b sb, .n false .u64 b]⟩, ⟨0, 1, 0, true, []⟩, ⟨0, 1, 0, true, []⟩] Q1 := by
    subst ho; subst hF
    refine ja_l2 0 [1, 3, 6, 7] (lo_l (ly_lda agg27 rfl rfl rfl rfl) (hd 28 rfl)) rfl (by kernel_rfl) (by kernel_rfl) (by kernel_rfl) (by kernel_rfl) hpan ?_
    refine ja_to (m := [(28, .a [.b sa, .n false .u64 a])]) (by decide) rfl (cov_n 1 rfl rfl (.cons rfl .nil)) S1_10000000
  subst ho; subst hF
  exact ja_to (m := []) (by decide) rfl (cov_n 0 rfl rfl .nil) S1_00000000
end Go.Proofs.Ytcdipmjgpimmdaa.Vc

/- Two numbers with a sign, and more, that are handed in. -/
set_option linter.unusedVariables false
set_option linter.unusedSimpArgs false
namespace Go.Proofs.Ytcdipmjgpimmdaa.Vc
open Go Go.RowKit
theorem short2b {H : Type} {d0 d1 : DataW H} {r : List (DataW H)} {l0 l1 : List Int} (hk : Rows.uptoSmall H (d0 :: d1 :: r) = true) (h0 : l0.length + 2 ≤ Rows.uptoBulk d0) (h1 : l1.length + 2 ≤ Rows.uptoBulk d1) : l0.length + l1.length ≤ 1048572 := by
  have h : Rows.uptoBulkAll (d0 :: d1 :: r) ≤ 1048576 := of_decide_eq_true hk
  simp only [Rows.uptoBulkAll] at h
  omega
end Go.Proofs.Ytcdipmjgpimmdaa.Vc

/- The law WholeRests of every input of bulk at most 1048576: it returns true, and the input reads as it did. -/
namespace Go.Proofs.Ytcdipmjgpimmdaa.wholeRests
open Go Go.ChangeShapes Go.WideShapes Go.ChangeAt Go.RowKit
open Go.ChangeMaps (open_string shut_string)
set_option linter.unusedVariables false

theorem own : ownKnob Try.prog.godebug = none := by kernel_rfl
theorem laidOut : laidOutB Try.prog = true := by kernel_rfl
set_option maxRecDepth 100000 in
theorem lifted (os : Os) (started : os.Started) (H : Type) (enc : TypeId × Value → H) (F : Stop.Interp) :
    ReturnsInHanded {} Try.checked os 5 .any ((Rows.OpenSpec.upto Rows.wholeRestsSpec).pre6 enc Try.prog Try.f5 Rows.wholeRestsUptoRow.domain false) (((Rows.OpenSpec.upto Rows.wholeRestsSpec).at F).post enc Try.prog Try.f5 false true false false) := by
  refine returnsInHanded_of_cond (C := Try.checked) (s := Rows.OpenSpec.upto Rows.wholeRestsSpec) (k := Rows.uptoSmall) rfl own started (by kernel_rfl) Try.func5
    (OpenSpec.witness (enc := enc) (C := Try.checked) (s := Rows.OpenSpec.upto Rows.wholeRestsSpec) (k := Rows.uptoSmall) rfl false ⟨#[], #[.agg #[.bool false, .slice none 0 0], .agg #[.bool false, .slice none 0 0]], []⟩ 8 (by kernel_rfl) (by kernel_rfl) (by kernel_rfl)
      (x := ([.agg [.lit (.bool false), .nil], .agg [.lit (.bool false), .nil]], [], [])) (by kernel_rfl) rfl (by kernel_rfl)) ?_
  intro W base args ds gs before hval0 hW _ hk _
  have hval : ∀ (j : Nat) t v, Try.f5.params[j]? = some t → args[j]? = some v → Value.okWide Try.prog W .any base t v := hval0
  have hW' := hW
  obtain ⟨p, q, hA0, hV, rfl, hfz, hnd⟩ := hW
  have hA : DataW.TrodAll enc Try.prog W 0 (fun _ => true) true Try.f5.params.toList args.toList ds p := hA0
  rw [Try.params5] at hA hval
  obtain ⟨v0, vs0, d0, ds0, p0, q0, hargs, rfl, rfl, h0, r0⟩ := trodAll_cons hA
  obtain ⟨v1, vs1, d1, ds1, p1, q1, rfl, rfl, rfl, h1, r1⟩ := trodAll_cons r0
  obtain ⟨rfl, rfl, rfl⟩ := trodAll_nil r1
  obtain rfl : args = #[v0, v1] := by cases args; simp_all
  obtain ⟨rfl, rfl⟩ := trodVars_none hV
  have hk0 := h0
  obtain ⟨s0, l0, rel0, hb0, ul0⟩ := Vc.openW (hval 0 27 v0 rfl rfl) h0
  have hk1 := h1
  obtain ⟨s1, l1, rel1, hb1, ul1⟩ := Vc.openW (hval 1 27 v1 rfl rfl) h1
  clear hA0 hval0
  simp only [List.append_nil] at hW' hk
  refine (Vc.spec_calls (vals := [v0, v1]) (Vc.WholeRests_s s0 s1 l0 l1 (by have := Vc.short2b hk hb0 hb1; omega) (by have := Vc.short2b hk hb0 hb1; omega) ul0 ul1) W (⟨_, _, rfl, rel0, ⟨_, _, rfl, rel1, rfl⟩⟩)).mono fun e W' ⟨he, hb⟩ => ?_
  subst he
  have hlt : ∀ x ∈ p0 ++ p1, x.block < W.heap.size := fun x hx => by simpa using hW'.lt x (by simpa using hx)
  exact ⟨_, rfl, Vc.post_of_below (pa := (p0 ++ (p1 ++ []))) (pv := []) hW' (fun _ _ _ => (trodAll_cons_mk (shut_bool Try.underlying4 _) trodAll_mk0)) (fun sp hsp => (trodAll_cons_mk (Go.WideElems.Trod_stays laidOut (by kernel_rfl) (of_decide_eq_true (by kernel_rfl)) hk0 (fun x hx => hb.same (hlt x (by simp [hx]))) (fun x hx => hsp x (by simp [hx]))) (trodAll_cons_mk (Go.WideElems.Trod_stays laidOut (by kernel_rfl) (of_decide_eq_true (by kernel_rfl)) hk1 (fun x hx => hb.same (hlt x (by simp [hx]))) (fun x hx => hsp x (by simp [hx]))) trodAll_mk0))) (fun _ _ => rfl) (by simp) hb⟩

theorem proved : Rows.WholeRestsUptoSaid :=
  OpenClaim.holds_of_cond 5 Try.f5 rfl rfl rfl rfl rfl rfl rfl ⟨rfl, rfl, rfl, rfl, rfl⟩ rfl rfl rfl rfl rfl (by kernel_rfl) Try.func5 (by kernel_rfl)
    (of_decide_eq_true (by kernel_rfl)) (by unfold Func.isWrapper; first | (rw [if_pos (by decide +kernel)]; kernel_rfl) | (rw [if_neg (by decide +kernel)]; exact ⟨rfl, rfl⟩))
    (fun os started H enc _ F => lifted os started H enc F)
end Go.Proofs.Ytcdipmjgpimmdaa.wholeRests
