/- Contracts of whole.fits, result, Mul; nat.Add, Sub in general. -/
import Derived.Test.YtcdipmjgpimmdaaWq
set_option linter.unusedVariables false
set_option linter.unusedSimpArgs false
namespace Go.Proofs.Ytcdipmjgpimmdaa.Vc
open Go Go.RowKit
set_option maxHeartbeats 4000000 in
theorem wfits_s (s : Bool) (l : List Int) (hl : l.length < 1099511627776) (hu : u64s l) : Spec Try.prog 69 [.a [.b s, .n false .u64 l]] (fun o => ∃ (s2 : Bool) (r : List Int) (e : Int), o = .ret (.t [.a [.b s2, .n true .u64 r], .i .i64 e]) ∧ (e = 0 → s2 = (s && decide (0 < ((trm l).length : Int))) ∧ r = trm l ∧ lenN l ≤ 67108864)) := by
  refine spec_of' [(0, .a [.b s, .n false .u64 l])] rfl Try.func69 rfl (Nat.le_of_ble_eq_true rfl) fun Γ hN hds hL hR => ?_
  have hd : ∀ d, Nat.blt d 11 = true → d < Γ.N := fun d h => by rw [hN]; exact Nat.le_of_ble_eq_true h
  refine jc_seq ?_
  refine jc_region ?_
  refine jo_h (hy_box (id := 0) (n := 2) rfl rfl rfl (by decide) rfl) (hd 1 rfl) ?_
  refine jo_h (hy_alloc (id := 1) zero30 (by decide) rfl (by decide) rfl) (hd 2 rfl) ?_
  refine jo_l (ly_as rfl) (hd 3 rfl) ?_
  refine jo_nil ?_
  refine jc_seq ?_
  refine jc_seq ?_
  refine jc_region ?_
  refine jo_l (ly_fa fld30_1 rfl rfl rfl) (hd 4 rfl) ?_
  refine jo_l (ly_ld one28 rfl rfl rfl) (hd 5 rfl) ?_
  refine jo_call Try.f66 (Length_s l hl hu) rfl Try.func66 rfl rfl (ovL_cons rfl ovL_nil) (.cons .n .nil) (hd 6 rfl) ?_ (fun ch hp => by simp at hp)
  rintro y hy; injection hy with hy; subst hy
  refine jo_l (ly_gt rfl rfl) (hd 7 rfl) ?_
  refine jo_nil ?_
  refine jc_if rfl (fun h1 => ?_) (fun h1 => ?_)
  · refine jc_seq ?_
    refine jc_region ?_
    refine jo_l (ly_build (is := []) (xs := []) (pls := []) zero30 pls30_ rfl ovL_nil rfl trivial (all_of rfl) rfl) (hd 8 rfl) ?_
    refine jo_st (sy_store rfl rfl rfl siz30 rfl rfl (Nat.le_of_ble_eq_true rfl)) ?_
    refine jo_l (ly_as rfl) (hd 3 rfl) ?_
    refine jo_nil ?_
    refine jc_ret ?_
    refine ⟨_, _, (.cons (ResV.cell agg30 rfl rfl rfl rfl) (.cons rfl .nil)), (.t1 (.a1 .b (.a1 (.nil (fr := true) (k := .u64)) .a0)) (.t1 .i .t0)), ?_⟩
    exact ⟨false, [], 3, rfl, fun h => absurd h (by decide)⟩
  · refine jc_skip ?_
    refine jc_seq ?_
    refine jc_region ?_
    refine jo_l (ly_lda agg30 rfl rfl rfl rfl) (hd 9 rfl) ?_
    refine jo_call Try.f73 (norm_s s l hl) rfl Try.func73 rfl rfl (ovL_cons rfl ovL_nil) (.cons (.a1 .b (.a1 .n .a0)) .nil) (hd 10 rfl) ?_ (fun ch hp => by simp at hp)
    rintro y hy; injection hy with hy; subst hy
    refine jo_st (sy_store rfl rfl rfl siz30 rfl rfl (Nat.le_of_ble_eq_true rfl)) ?_
    refine jo_l (ly_as rfl) (hd 3 rfl) ?_
    refine jo_nil ?_
    refine jc_ret ?_
    refine ⟨_, _, (.cons (ResV.cell agg30 rfl rfl rfl rfl) (.cons rfl .nil)), (.t1 (.a1 .b (.a1 .n .a0)) (.t1 .i .t0)), ?_⟩
    exact ⟨_, _, 0, rfl, fun _ => ⟨rfl, rfl, by omega⟩⟩

set_option maxHeartbeats 4000000 in
theorem result_s (s : Bool) (l : List Int) (e : Int) (hl : e = 0 → l.length < 1099511627776) (hu : e = 0 → u64s l) : Spec Try.prog 75 [.b s, .n false .u64 l, .i .i64 e] (fun o => ∃ (s2 : Bool) (r : List Int) (e2 : Int), o = .ret (.t [.a [.b s2, .n true .u64 r], .i .i64 e2]) ∧ (e2 = 0 → e = 0 ∧ s2 = (s && decide (0 < ((trm l).length : Int))) ∧ r = trm l ∧ lenN l ≤ 67108864)) := by
  refine spec_of' [(0, .b s), (1, .n false .u64 l), (2, .i .i64 e)] rfl Try.func75 rfl (Nat.le_of_ble_eq_true rfl) fun Γ hN hds hL hR => ?_
  have hd : ∀ d, Nat.blt d 18 = true → d < Γ.N := fun d h => by rw [hN]; exact Nat.le_of_ble_eq_true h
  refine jc_seq ?_
  refine jc_region ?_
  refine jo_h (hy_alloc (id := 0) zero30 (by decide) rfl (by decide) rfl) (hd 6 rfl) ?_
  refine jo_l (ly_as rfl) (hd 7 rfl) ?_
  refine jo_nil ?_
  refine jc_seq ?_
  refine jc_seq ?_
  refine jc_region ?_
  refine jo_l (ly_mv rfl) (hd 8 rfl) ?_
  refine jo_l (ly_ne rfl rfl) (hd 9 rfl) ?_
  refine jo_nil ?_
  refine jc_if rfl (fun h1 => ?_) (fun h1 => ?_)
  · refine jc_seq ?_
    refine jc_region ?_
    refine jo_l (ly_build (is := []) (xs := []) (pls := []) zero30 pls30_ rfl ovL_nil rfl trivial (all_of rfl) rfl) (hd 10 rfl) ?_
    refine jo_l (ly_mv rfl) (hd 11 rfl) ?_
    refine jo_st (sy_store rfl rfl rfl siz30 rfl rfl (Nat.le_of_ble_eq_true rfl)) ?_
    refine jo_l (ly_as rfl) (hd 7 rfl) ?_
    refine jo_nil ?_
    refine jc_ret ?_
    refine ⟨_, _, (.cons (ResV.cell agg30 rfl rfl rfl rfl) (.cons rfl .nil)), (.t1 (.a1 .b (.a1 (.nil (fr := true) (k := .u64)) .a0)) (.t1 .i .t0)), ?_⟩
    exact ⟨false, [], e, rfl, fun h => absurd h (by assumption)⟩
  · have he0 : e = 0 := by omega
    refine jc_skip ?_
    refine jc_seq ?_
    refine jc_region ?_
    refine jo_l (ly_mv rfl) (hd 12 rfl) ?_
    refine jo_l (ly_mv rfl) (hd 13 rfl) ?_
    refine jo_l (ly_build (is := [0, 1]) (xs := [.tmp 12, .tmp 13]) zero30 pls30_0_1 rfl (ovL_cons rfl (ovL_cons rfl ovL_nil)) rfl (by first | (simp [plsOk, cellsV]; done) | (simp [plsOk, cellsV, old]; done)) (all_of rfl) rfl) (hd 14 rfl) ?_
    refine jo_call Try.f69 (wfits_s s l (hl he0) (hu he0)) rfl Try.func69 rfl rfl (ovL_cons rfl ovL_nil) (.cons (.a1 .b (.a1 .n .a0)) .nil) (hd 15 rfl) ?_ (fun ch hp => by simp at hp)
    rintro y ⟨sf, rf, ef, hy, hf⟩
    injection hy with hy
    subst hy
    refine jo_l (ly_ext rfl rfl) (hd 16 rfl) ?_
    refine jo_l (ly_ext rfl rfl) (hd 17 rfl) ?_
    refine jo_st (sy_store rfl rfl rfl siz30 rfl rfl (Nat.le_of_ble_eq_true rfl)) ?_
    refine jo_l (ly_as rfl) (hd 7 rfl) ?_
    refine jo_nil ?_
    refine jc_ret ?_
    refine ⟨_, _, (.cons (ResV.cell agg30 rfl rfl rfl rfl) (.cons rfl .nil)), (.t1 (.a1 .b (.a1 .n .a0)) (.t1 .i .t0)), ?_⟩
    exact ⟨sf, rf, ef, rfl, fun h => ⟨he0, hf h⟩⟩

set_option maxHeartbeats 4000000 in
theorem WMul_s (s t : Bool) (a b : List Int) (hla : a.length < 4294967296) (hlb : b.length < 4294967296) (ua : u64s a) (ub : u64s b) : Spec Try.prog 52 [.a [.b s, .n false .u64 a], .a [.b t, .n false .u64 b]] (fun o => ∃ (s2 : Bool) (r : List Int) (e : Int), o = .ret (.t [.a [.b s2, .n true .u64 r], .i .i64 e]) ∧ (e = 0 → good r ∧ sv s2 r = sv s a * sv t b)) := by
  refine spec_of' [(0, .a [.b s, .n false .u64 a]), (1, .a [.b t, .n false .u64 b])] rfl Try.func52 rfl (Nat.le_of_ble_eq_true rfl) fun Γ hN hds hL hR => ?_
  have hd : ∀ d, Nat.blt d 26 = true → d < Γ.N := fun d h => by rw [hN]; exact Nat.le_of_ble_eq_true h
  refine jc_seq ?_
  refine jc_region ?_
  refine jo_h (hy_box (id := 0) (n := 2) rfl rfl rfl (by decide) rfl) (hd 2 rfl) ?_
  refine jo_h (hy_box (id := 1) (n := 2) rfl rfl rfl (by decide) rfl) (hd 3 rfl) ?_
  refine jo_h (hy_alloc (id := 2) zero30 (by decide) rfl (by decide) rfl) (hd 4 rfl) ?_
  refine jo_l (ly_as rfl) (hd 5 rfl) ?_
  refine jo_nil ?_
  refine jc_seq ?_
  refine jc_region ?_
  refine jo_l (ly_fa fld30_1 rfl rfl rfl) (hd 9 rfl) ?_
  refine jo_l (ly_ld one28 rfl rfl rfl) (hd 10 rfl) ?_
  refine jo_l (ly_fa fld30_1 rfl rfl rfl) (hd 11 rfl) ?_
  refine jo_l (ly_ld one28 rfl rfl rfl) (hd 12 rfl) ?_
  refine jo_call Try.f78 (MulN_s a b hla hlb ua ub) rfl Try.func78 rfl rfl (ovL_cons rfl (ovL_cons rfl ovL_nil)) (.cons .n (.cons .n .nil)) (hd 13 rfl) ?_ (fun ch hp => by simp at hp)
  rintro y ⟨rp, ep, hy, hp⟩
  injection hy with hy
  subst hy
  refine jo_l (ly_mv rfl) (hd 8 rfl) ?_
  refine jo_l (ly_ext rfl rfl) (hd 14 rfl) ?_
  refine jo_l (ly_ext rfl rfl) (hd 15 rfl) ?_
  refine jo_l (ly_as rfl) (hd 6 rfl) ?_
  refine jo_l (ly_as rfl) (hd 7 rfl) ?_
  refine jo_nil ?_
  refine jc_seq ?_
  refine jc_region ?_
  refine jo_l (ly_fa fld30_0 rfl rfl rfl) (hd 16 rfl) ?_
  refine jo_l (ly_ld one4 rfl rfl rfl) (hd 17 rfl) ?_
  refine jo_l (ly_fa fld30_0 rfl rfl rfl) (hd 18 rfl) ?_
  refine jo_l (ly_ld one4 rfl rfl rfl) (hd 19 rfl) ?_
  refine jo_l (ly_neb und4 rfl rfl) (hd 20 rfl) ?_
  refine jo_l (ly_mv rfl) (hd 21 rfl) ?_
  refine jo_l (ly_mv rfl) (hd 22 rfl) ?_
  refine jo_call Try.f75 (result_s (!(s == t)) rp ep (fun h => by have := (hp h).1.2; omega) (fun h => (hp h).1.1)) rfl Try.func75 rfl rfl (ovL_cons rfl (ovL_cons rfl (ovL_cons rfl ovL_nil))) (.cons .b (.cons .n (.cons .i .nil))) (hd 23 rfl) ?_ (fun ch hp => by simp at hp)
  rintro y ⟨sr, rr, er, hy, hr⟩
  injection hy with hy
  subst hy
  refine jo_l (ly_ext rfl rfl) (hd 24 rfl) ?_
  refine jo_l (ly_ext rfl rfl) (hd 25 rfl) ?_
  refine jo_st (sy_store rfl rfl rfl siz30 rfl rfl (Nat.le_of_ble_eq_true rfl)) ?_
  refine jo_l (ly_as rfl) (hd 5 rfl) ?_
  refine jo_nil ?_
  refine jc_ret ?_
  refine ⟨_, _, (.cons (ResV.cell agg30 rfl rfl rfl rfl) (.cons rfl .nil)), (.t1 (.a1 .b (.a1 .n .a0)) (.t1 .i .t0)), ?_⟩
  exact ⟨sr, rr, er, rfl, fun h => by obtain ⟨h1, h2, h3, h4⟩ := hr h; rw [h2, h3]; exact ⟨good_trm (hp h1).1.1 h4, by rw [sv_norm (hp h1).1.1, sv_mul (hp h1).2]⟩⟩

theorem AddN_s (a b : List Int) (hla : a.length < 4294967296) (hlb : b.length < 4294967296) (ua : u64s a) (ub : u64s b) : Spec Try.prog 74 [.n false .u64 a, .n false .u64 b] (fun o => ∃ (r : List Int) (e : Int), o = .ret (.t [.n false .u64 r, .i .i64 e]) ∧ (e = 0 → good r ∧ vl r = vl a + vl b)) := by
  by_cases h : lenN (trm (sumL a b)) ≤ 67108864
  · obtain hA := Add_ok a b hla hlb ua ub h
    have hu : u64s (sumL a b) := by
      unfold sumL
      have hc := adN_c (a := (swL (trm a) (trm b)).1) (b := (swL (trm a) (trm b)).2) (by unfold swL; split <;> exact u64s_trm (by assumption)) (by unfold swL; split <;> exact u64s_trm (by assumption)) (swL (trm a) (trm b)).1.length
      exact u64s_app1 (adN_u _) hc.1 (by omega)
    exact hA.mono fun o ho => ⟨_, 0, ho, fun _ => ⟨good_trm hu (by rwa [lenN_trm] at h), by rw [vl_trm, vl_sumL]⟩⟩
  · exact (Add_big a b hla hlb ua ub (by omega)).mono fun o ho => ⟨_, 3, ho, fun h => absurd h (by decide)⟩
theorem SubN_s (a b : List Int) (hla : a.length < 4294967296) (hlb : b.length < 4294967296) (ua : u64s a) (ub : u64s b) (hle : vl b ≤ vl a) : Spec Try.prog 76 [.n false .u64 a, .n false .u64 b] (fun o => ∃ (r : List Int) (e : Int), o = .ret (.t [.n false .u64 r, .i .i64 e]) ∧ (e = 0 → good r ∧ vl r = vl a - vl b)) := by
  have hc : 0 ≤ cmpL (trm a) (trm b) := by rcases cmpL_val ua ub with ⟨c, v⟩ | ⟨c, v⟩ | ⟨c, v⟩ <;> omega
  by_cases h : lenN (trm (difL a b)) ≤ 67108864
  · exact (Sub_ok a b hla hlb ua ub hc h).mono fun o ho => ⟨_, 0, ho, fun _ => ⟨good_trm (sbN_u (u64s_trm ua) (u64s_trm ub) _) (by rwa [lenN_trm] at h), by rw [vl_trm, vl_difL ua ub hle]⟩⟩
  · exact (Sub_big a b hla hlb ua ub hc (by omega)).mono fun o ho => ⟨_, 3, ho, fun h => absurd h (by decide)⟩
end Go.Proofs.Ytcdipmjgpimmdaa.Vc
