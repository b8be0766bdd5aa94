/- Contracts of whole.flip, Neg, Add, Sub. -/
import Derived.Test.YtcdipmjgpimmdaaWr
set_option linter.unusedVariables false
set_option linter.unusedSimpArgs false
namespace Go.Proofs.Ytcdipmjgpimmdaa.Vc
open Go Go.RowKit
set_option maxHeartbeats 4000000 in
theorem flip_s (s : Bool) (a : List Int) (hla : a.length < 4294967296) (ua : u64s a) : Spec Try.prog 77 [.a [.b s, .n false .u64 a]] (fun o => o = .ret (.a [.b (!s && decide (0 < ((trm a).length : Int))), .n true .u64 (trm a)])) := by
  refine spec_of' [(0, .a [.b s, .n false .u64 a])] rfl Try.func77 rfl (Nat.le_of_ble_eq_true rfl) fun Γ hN hds hL hR => ?_
  have hd : ∀ d, Nat.blt d 10 = true → d < Γ.N := fun d h => by rw [hN]; exact Nat.le_of_ble_eq_true h
  refine jc_seq ?_
  refine jc_region ?_
  refine jo_h (hy_box (id := 0) (n := 2) rfl rfl rfl (by decide) rfl) (hd 1 rfl) ?_
  refine jo_h (hy_alloc (id := 1) zero30 (by decide) rfl (by decide) rfl) (hd 2 rfl) ?_
  refine jo_nil ?_
  refine jc_seq ?_
  refine jc_region ?_
  refine jo_l (ly_fa fld30_0 rfl rfl rfl) (hd 3 rfl) ?_
  refine jo_l (ly_ld one4 rfl rfl rfl) (hd 4 rfl) ?_
  refine jo_l (ly_not rfl) (hd 5 rfl) ?_
  refine jo_l (ly_fa fld30_1 rfl rfl rfl) (hd 6 rfl) ?_
  refine jo_l (ly_ld one28 rfl rfl rfl) (hd 7 rfl) ?_
  refine jo_l (ly_build (is := [0, 1]) (xs := [.tmp 5, .tmp 7]) zero30 pls30_0_1 rfl (ovL_cons rfl (ovL_cons rfl ovL_nil)) rfl (by first | (simp [plsOk, cellsV]; done) | (simp [plsOk, cellsV, old]; done)) (all_of rfl) rfl) (hd 8 rfl) ?_
  refine jo_call Try.f73 (norm_s (!s) a (by omega)) rfl Try.func73 rfl rfl (ovL_cons rfl ovL_nil) (.cons (.a1 .b (.a1 .n .a0)) .nil) (hd 9 rfl) ?_ (fun ch hp => by simp at hp)
  rintro y hy; injection hy with hy; subst hy
  refine jo_st (sy_store rfl rfl rfl siz30 rfl rfl (Nat.le_of_ble_eq_true rfl)) ?_
  refine jo_nil ?_
  refine jc_ret ?_
  refine ⟨_, _, (.cons (ResV.cell agg30 rfl rfl rfl rfl) .nil), (.a1 .b (.a1 .n .a0)), ?_⟩
  exact rfl

set_option maxHeartbeats 4000000 in
theorem Neg_s (s : Bool) (a : List Int) (hla : a.length < 4294967296) (ua : u64s a) : Spec Try.prog 41 [.a [.b s, .n false .u64 a]] (fun o => ∃ (s2 : Bool) (r : List Int) (e : Int), o = .ret (.t [.a [.b s2, .n true .u64 r], .i .i64 e]) ∧ (e = 0 → good r ∧ sv s2 r = -(sv s a))) := by
  refine spec_of' [(0, .a [.b s, .n false .u64 a])] rfl Try.func41 rfl (Nat.le_of_ble_eq_true rfl) fun Γ hN hds hL hR => ?_
  have hd : ∀ d, Nat.blt d 13 = true → d < Γ.N := fun d h => by rw [hN]; exact Nat.le_of_ble_eq_true h
  refine jc_seq ?_
  refine jc_region ?_
  refine jo_h (hy_box (id := 0) (n := 2) rfl rfl rfl (by decide) rfl) (hd 1 rfl) ?_
  refine jo_h (hy_alloc (id := 1) zero30 (by decide) rfl (by decide) rfl) (hd 2 rfl) ?_
  refine jo_l (ly_as rfl) (hd 3 rfl) ?_
  refine jo_nil ?_
  refine jc_seq ?_
  refine jc_region ?_
  refine jo_l (ly_fa fld30_0 rfl rfl rfl) (hd 4 rfl) ?_
  refine jo_l (ly_ld one4 rfl rfl rfl) (hd 5 rfl) ?_
  refine jo_l (ly_not rfl) (hd 6 rfl) ?_
  refine jo_l (ly_fa fld30_1 rfl rfl rfl) (hd 7 rfl) ?_
  refine jo_l (ly_ld one28 rfl rfl rfl) (hd 8 rfl) ?_
  refine jo_l (ly_build (is := [0, 1]) (xs := [.tmp 6, .tmp 8]) zero30 pls30_0_1 rfl (ovL_cons rfl (ovL_cons rfl ovL_nil)) rfl (by first | (simp [plsOk, cellsV]; done) | (simp [plsOk, cellsV, old]; done)) (all_of rfl) rfl) (hd 9 rfl) ?_
  refine jo_call Try.f69 (wfits_s (!s) a (by omega) ua) rfl Try.func69 rfl rfl (ovL_cons rfl ovL_nil) (.cons (.a1 .b (.a1 .n .a0)) .nil) (hd 10 rfl) ?_ (fun ch hp => by simp at hp)
  rintro y ⟨sf, rf, ef, hy, hf⟩
  injection hy with hy
  subst hy
  refine jo_l (ly_ext rfl rfl) (hd 11 rfl) ?_
  refine jo_l (ly_ext rfl rfl) (hd 12 rfl) ?_
  refine jo_st (sy_store rfl rfl rfl siz30 rfl rfl (Nat.le_of_ble_eq_true rfl)) ?_
  refine jo_l (ly_as rfl) (hd 3 rfl) ?_
  refine jo_nil ?_
  refine jc_ret ?_
  refine ⟨_, _, (.cons (ResV.cell agg30 rfl rfl rfl rfl) (.cons rfl .nil)), (.t1 (.a1 .b (.a1 .n .a0)) (.t1 .i .t0)), ?_⟩
  exact ⟨sf, rf, ef, rfl, fun h => by obtain ⟨h2, h3, h4⟩ := hf h; rw [h2, h3]; exact ⟨good_trm ua h4, by rw [sv_norm ua, sv_neg]⟩⟩

set_option maxHeartbeats 4000000 in
theorem WAdd_s (s t : Bool) (a b : List Int) (hla : a.length < 4294967296) (hlb : b.length < 4294967296) (ua : u64s a) (ub : u64s b) : Spec Try.prog 50 [.a [.b s, .n false .u64 a], .a [.b t, .n false .u64 b]] (fun o => ∃ (s2 : Bool) (r : List Int) (e : Int), o = .ret (.t [.a [.b s2, .n true .u64 r], .i .i64 e]) ∧ (e = 0 → good r ∧ sv s2 r = sv s a + sv t b)) := by
  refine spec_of' [(0, .a [.b s, .n false .u64 a]), (1, .a [.b t, .n false .u64 b])] rfl Try.func50 rfl (Nat.le_of_ble_eq_true rfl) fun Γ hN hds hL hR => ?_
  have hd : ∀ d, Nat.blt d 57 = true → d < Γ.N := fun d h => by rw [hN]; exact Nat.le_of_ble_eq_true h
  have hma := trm_len a
  have hmb := trm_len b
  have hcv := cmpL_val (u64s_trm ua) (u64s_trm ub)
  have ea1 := sv_norm (s := s) ua
  have eb1 := sv_norm (s := t) ub
  refine jc_seq ?_
  refine jc_region ?_
  refine jo_h (hy_box (id := 0) (n := 2) rfl rfl rfl (by decide) rfl) (hd 2 rfl) ?_
  refine jo_h (hy_box (id := 1) (n := 2) rfl rfl rfl (by decide) rfl) (hd 3 rfl) ?_
  refine jo_h (hy_alloc (id := 2) zero30 (by decide) rfl (by decide) rfl) (hd 4 rfl) ?_
  refine jo_l (ly_as rfl) (hd 5 rfl) ?_
  refine jo_nil ?_
  refine jc_seq ?_
  refine jc_draw (n := 6) _ rfl mixed ?_
  refine ja_l2 0 [1, 3, 4, 5] (lo_l (ly_lda agg30 rfl rfl rfl rfl) (hd 10 rfl)) rfl (by kernel_rfl) (by kernel_rfl) (by kernel_rfl) (by kernel_rfl) (fun _ _ _ _ h => h) ?_
  refine ja_l2 2 [3, 4, 5] (lo_l (ly_lda agg30 rfl rfl rfl rfl) (hd 12 rfl)) rfl (by kernel_rfl) (by kernel_rfl) (by kernel_rfl) (by kernel_rfl) (fun _ _ _ _ h => h) ?_
  refine ja_1 1 ?_ rfl (by kernel_rfl)
  refine js_call Try.f73 (norm_s s a (by omega)) rfl Try.func73 rfl rfl (ovL_cons rfl ovL_nil) (.cons (.a1 .b (.a1 .n .a0)) .nil) (hd 11 rfl) ?_ (fun ch hp => by simp at hp)
  rintro y hy; injection hy with hy; subst hy
  refine ja_1 3 ?_ rfl (by kernel_rfl)
  refine js_call Try.f73 (norm_s t b (by omega)) rfl Try.func73 rfl rfl (ovL_cons rfl ovL_nil) (.cons (.a1 .b (.a1 .n .a0)) .nil) (hd 13 rfl) ?_ (fun ch hp => by simp at hp)
  rintro y hy; injection hy with hy; subst hy
  refine ja_1 4 ?_ rfl (by kernel_rfl)
  refine js_st (sy_store rfl rfl rfl siz30 rfl rfl (Nat.le_of_ble_eq_true rfl)) rfl ?_
  refine ja_1 5 ?_ rfl (by kernel_rfl)
  refine js_st (sy_store rfl rfl rfl siz30 rfl rfl (Nat.le_of_ble_eq_true rfl)) rfl ?_
  refine ja_nil (by kernel_rfl) ?_
  refine jc_seq ?_
  refine jc_seq ?_
  refine jc_region ?_
  refine jo_l (ly_fa fld30_0 rfl rfl rfl) (hd 14 rfl) ?_
  refine jo_l (ly_ld one4 rfl rfl rfl) (hd 15 rfl) ?_
  refine jo_l (ly_fa fld30_0 rfl rfl rfl) (hd 16 rfl) ?_
  refine jo_l (ly_ld one4 rfl rfl rfl) (hd 17 rfl) ?_
  refine jo_l (ly_eqb und4 rfl rfl) (hd 18 rfl) ?_
  refine jo_nil ?_
  refine jc_cond rfl (fun h1 => ?_) (fun h1 => ?_)
  · refine jc_seq ?_
    refine jc_region ?_
    refine jo_l (ly_fa fld30_1 rfl rfl rfl) (hd 20 rfl) ?_
    refine jo_l (ly_ld one28 rfl rfl rfl) (hd 21 rfl) ?_
    refine jo_l (ly_fa fld30_1 rfl rfl rfl) (hd 22 rfl) ?_
    refine jo_l (ly_ld one28 rfl rfl rfl) (hd 23 rfl) ?_
    refine jo_call Try.f74 (AddN_s (trm a) (trm b) (by omega) (by omega) (u64s_trm ua) (u64s_trm ub)) rfl Try.func74 rfl rfl (ovL_cons rfl (ovL_cons rfl ovL_nil)) (.cons .n (.cons .n .nil)) (hd 24 rfl) ?_ (fun ch hp => by simp at hp)
    rintro y ⟨ra, ea, hy, ha⟩
    injection hy with hy
    subst hy
    refine jo_l (ly_mv rfl) (hd 19 rfl) ?_
    refine jo_l (ly_ext rfl rfl) (hd 25 rfl) ?_
    refine jo_l (ly_ext rfl rfl) (hd 26 rfl) ?_
    refine jo_l (ly_as rfl) (hd 6 rfl) ?_
    refine jo_l (ly_as rfl) (hd 7 rfl) ?_
    refine jo_nil ?_
    refine jc_seq ?_
    refine jc_region ?_
    refine jo_l (ly_fa fld30_0 rfl rfl rfl) (hd 27 rfl) ?_
    refine jo_l (ly_ld one4 rfl rfl rfl) (hd 28 rfl) ?_
    refine jo_l (ly_mv rfl) (hd 29 rfl) ?_
    refine jo_l (ly_mv rfl) (hd 30 rfl) ?_
    refine jo_call Try.f75 (result_s (s && decide (0 < ((trm a).length : Int))) ra ea (fun h => by have := (ha h).1.2; omega) (fun h => (ha h).1.1)) rfl Try.func75 rfl rfl (ovL_cons rfl (ovL_cons rfl (ovL_cons rfl ovL_nil))) (.cons .b (.cons .n (.cons .i .nil))) (hd 31 rfl) ?_ (fun ch hp => by simp at hp)
    rintro y ⟨sr, rr, er, hy, hr⟩
    injection hy with hy
    subst hy
    refine jo_l (ly_ext rfl rfl) (hd 32 rfl) ?_
    refine jo_l (ly_ext rfl rfl) (hd 33 rfl) ?_
    refine jo_st (sy_store rfl rfl rfl siz30 rfl rfl (Nat.le_of_ble_eq_true rfl)) ?_
    refine jo_l (ly_as rfl) (hd 5 rfl) ?_
    refine jo_nil ?_
    refine jc_ret ?_
    refine ⟨_, _, (.cons (ResV.cell agg30 rfl rfl rfl rfl) (.cons rfl .nil)), (.t1 (.a1 .b (.a1 .n .a0)) (.t1 .i .t0)), ?_⟩
    exact ⟨sr, rr, er, rfl, fun h => by obtain ⟨h1, h2, h3, h4⟩ := hr h; rw [h2, h3]; exact ⟨good_trm (ha h1).1.1 h4, by rw [sv_norm (ha h1).1.1]; exact add_val (by assumption) (ha h1).2 ea1 eb1⟩⟩
  · refine jc_skip ?_
    refine jc_seq ?_
    refine jc_seq ?_
    refine jc_region ?_
    refine jo_l (ly_fa fld30_1 rfl rfl rfl) (hd 34 rfl) ?_
    refine jo_l (ly_ld one28 rfl rfl rfl) (hd 35 rfl) ?_
    refine jo_l (ly_fa fld30_1 rfl rfl rfl) (hd 36 rfl) ?_
    refine jo_l (ly_ld one28 rfl rfl rfl) (hd 37 rfl) ?_
    refine jo_call Try.f72 (Compare_s (trm a) (trm b) (by omega) (by omega)) rfl Try.func72 rfl rfl (ovL_cons rfl (ovL_cons rfl ovL_nil)) (.cons .n (.cons .n .nil)) (hd 38 rfl) ?_ (fun ch hp => by simp at hp)
    rintro y hy; injection hy with hy; subst hy
    refine jo_l (ly_lt rfl rfl) (hd 39 rfl) ?_
    refine jo_nil ?_
    refine jc_if rfl (fun h2 => ?_) (fun h2 => ?_)
    · refine jc_region ?_
      refine jo_l (ly_lda agg30 rfl rfl rfl rfl) (hd 40 rfl) ?_
      refine jo_l (ly_lda agg30 rfl rfl rfl rfl) (hd 41 rfl) ?_
      refine jo_st (sy_store rfl rfl rfl siz30 rfl rfl (Nat.le_of_ble_eq_true rfl)) ?_
      refine jo_st (sy_store rfl rfl rfl siz30 rfl rfl (Nat.le_of_ble_eq_true rfl)) ?_
      refine jo_nil ?_
      refine jc_seq ?_
      refine jc_region ?_
      refine jo_l (ly_fa fld30_1 rfl rfl rfl) (hd 43 rfl) ?_
      refine jo_l (ly_ld one28 rfl rfl rfl) (hd 44 rfl) ?_
      refine jo_l (ly_fa fld30_1 rfl rfl rfl) (hd 45 rfl) ?_
      refine jo_l (ly_ld one28 rfl rfl rfl) (hd 46 rfl) ?_
      refine jo_call Try.f76 (SubN_s (trm b) (trm a) (by omega) (by omega) (u64s_trm ub) (u64s_trm ua) (by rcases hcv with ⟨c, v⟩ | ⟨c, v⟩ | ⟨c, v⟩ <;> omega)) rfl Try.func76 rfl rfl (ovL_cons rfl (ovL_cons rfl ovL_nil)) (.cons .n (.cons .n .nil)) (hd 47 rfl) ?_ (fun ch hp => by simp at hp)
      rintro y ⟨ra, ea, hy, ha⟩
      injection hy with hy
      subst hy
      refine jo_l (ly_mv rfl) (hd 42 rfl) ?_
      refine jo_l (ly_ext rfl rfl) (hd 48 rfl) ?_
      refine jo_l (ly_ext rfl rfl) (hd 49 rfl) ?_
      refine jo_l (ly_as rfl) (hd 8 rfl) ?_
      refine jo_l (ly_as rfl) (hd 9 rfl) ?_
      refine jo_nil ?_
      refine jc_seq ?_
      refine jc_region ?_
      refine jo_l (ly_fa fld30_0 rfl rfl rfl) (hd 50 rfl) ?_
      refine jo_l (ly_ld one4 rfl rfl rfl) (hd 51 rfl) ?_
      refine jo_l (ly_mv rfl) (hd 52 rfl) ?_
      refine jo_l (ly_mv rfl) (hd 53 rfl) ?_
      refine jo_call Try.f75 (result_s (t && decide (0 < ((trm b).length : Int))) ra ea (fun h => by have := (ha h).1.2; omega) (fun h => (ha h).1.1)) rfl Try.func75 rfl rfl (ovL_cons rfl (ovL_cons rfl (ovL_cons rfl ovL_nil))) (.cons .b (.cons .n (.cons .i .nil))) (hd 54 rfl) ?_ (fun ch hp => by simp at hp)
      rintro y ⟨sr, rr, er, hy, hr⟩
      injection hy with hy
      subst hy
      refine jo_l (ly_ext rfl rfl) (hd 55 rfl) ?_
      refine jo_l (ly_ext rfl rfl) (hd 56 rfl) ?_
      refine jo_st (sy_store rfl rfl rfl siz30 rfl rfl (Nat.le_of_ble_eq_true rfl)) ?_
      refine jo_l (ly_as rfl) (hd 5 rfl) ?_
      refine jo_nil ?_
      refine jc_ret ?_
      refine ⟨_, _, (.cons (ResV.cell agg30 rfl rfl rfl rfl) (.cons rfl .nil)), (.t1 (.a1 .b (.a1 .n .a0)) (.t1 .i .t0)), ?_⟩
      exact ⟨sr, rr, er, rfl, fun h => by obtain ⟨h1, h2, h3, h4⟩ := hr h; rw [h2, h3]; exact ⟨good_trm (ha h1).1.1 h4, by rw [sv_norm (ha h1).1.1]; exact (sub_val (by rw [Bool.beq_comm]; assumption) (ha h1).2 eb1 ea1).trans (Int.add_comm _ _)⟩⟩
    · refine jc_skip ?_
      refine jc_seq ?_
      refine jc_region ?_
      refine jo_l (ly_fa fld30_1 rfl rfl rfl) (hd 43 rfl) ?_
      refine jo_l (ly_ld one28 rfl rfl rfl) (hd 44 rfl) ?_
      refine jo_l (ly_fa fld30_1 rfl rfl rfl) (hd 45 rfl) ?_
      refine jo_l (ly_ld one28 rfl rfl rfl) (hd 46 rfl) ?_
      refine jo_call Try.f76 (SubN_s (trm a) (trm b) (by omega) (by omega) (u64s_trm ua) (u64s_trm ub) (by rcases hcv with ⟨c, v⟩ | ⟨c, v⟩ | ⟨c, v⟩ <;> omega)) rfl Try.func76 rfl rfl (ovL_cons rfl (ovL_cons rfl ovL_nil)) (.cons .n (.cons .n .nil)) (hd 47 rfl) ?_ (fun ch hp => by simp at hp)
      rintro y ⟨ra, ea, hy, ha⟩
      injection hy with hy
      subst hy
      refine jo_l (ly_mv rfl) (hd 42 rfl) ?_
      refine jo_l (ly_ext rfl rfl) (hd 48 rfl) ?_
      refine jo_l (ly_ext rfl rfl) (hd 49 rfl) ?_
      refine jo_l (ly_as rfl) (hd 8 rfl) ?_
      refine jo_l (ly_as rfl) (hd 9 rfl) ?_
      refine jo_nil ?_
      refine jc_seq ?_
      refine jc_region ?_
      refine jo_l (ly_fa fld30_0 rfl rfl rfl) (hd 50 rfl) ?_
      refine jo_l (ly_ld one4 rfl rfl rfl) (hd 51 rfl) ?_
      refine jo_l (ly_mv rfl) (hd 52 rfl) ?_
      refine jo_l (ly_mv rfl) (hd 53 rfl) ?_
      refine jo_call Try.f75 (result_s (s && decide (0 < ((trm a).length : Int))) ra ea (fun h => by have := (ha h).1.2; omega) (fun h => (ha h).1.1)) rfl Try.func75 rfl rfl (ovL_cons rfl (ovL_cons rfl (ovL_cons rfl ovL_nil))) (.cons .b (.cons .n (.cons .i .nil))) (hd 54 rfl) ?_ (fun ch hp => by simp at hp)
      rintro y ⟨sr, rr, er, hy, hr⟩
      injection hy with hy
      subst hy
      refine jo_l (ly_ext rfl rfl) (hd 55 rfl) ?_
      refine jo_l (ly_ext rfl rfl) (hd 56 rfl) ?_
      refine jo_st (sy_store rfl rfl rfl siz30 rfl rfl (Nat.le_of_ble_eq_true rfl)) ?_
      refine jo_l (ly_as rfl) (hd 5 rfl) ?_
      refine jo_nil ?_
      refine jc_ret ?_
      refine ⟨_, _, (.cons (ResV.cell agg30 rfl rfl rfl rfl) (.cons rfl .nil)), (.t1 (.a1 .b (.a1 .n .a0)) (.t1 .i .t0)), ?_⟩
      exact ⟨sr, rr, er, rfl, fun h => by obtain ⟨h1, h2, h3, h4⟩ := hr h; rw [h2, h3]; exact ⟨good_trm (ha h1).1.1 h4, by rw [sv_norm (ha h1).1.1]; exact sub_val (by assumption) (ha h1).2 ea1 eb1⟩⟩

set_option maxHeartbeats 4000000 in
theorem WSub_s (s t : Bool) (a b : List Int) (hla : a.length < 4294967296) (hlb : b.length < 4294967296) (ua : u64s a) (ub : u64s b) : Spec Try.prog 51 [.a [.b s, .n false .u64 a], .a [.b t, .n false .u64 b]] (fun o => ∃ (s2 : Bool) (r : List Int) (e : Int), o = .ret (.t [.a [.b s2, .n true .u64 r], .i .i64 e]) ∧ (e = 0 → good r ∧ sv s2 r = sv s a - sv t b)) := by
  refine spec_of' [(0, .a [.b s, .n false .u64 a]), (1, .a [.b t, .n false .u64 b])] rfl Try.func51 rfl (Nat.le_of_ble_eq_true rfl) fun Γ hN hds hL hR => ?_
  have hd : ∀ d, Nat.blt d 12 = true → d < Γ.N := fun d h => by rw [hN]; exact Nat.le_of_ble_eq_true h
  have hmb := trm_len b
  refine jc_seq ?_
  refine jc_region ?_
  refine jo_h (hy_box (id := 0) (n := 2) rfl rfl rfl (by decide) rfl) (hd 2 rfl) ?_
  refine jo_h (hy_box (id := 1) (n := 2) rfl rfl rfl (by decide) rfl) (hd 3 rfl) ?_
  refine jo_h (hy_alloc (id := 2) zero30 (by decide) rfl (by decide) rfl) (hd 4 rfl) ?_
  refine jo_l (ly_as rfl) (hd 5 rfl) ?_
  refine jo_nil ?_
  refine jc_seq ?_
  refine jc_draw (n := 8) _ rfl mixed ?_
  refine ja_l2 0 [3, 4, 5, 6, 7] (lo_l (ly_lda agg30 rfl rfl rfl rfl) (hd 6 rfl)) rfl (by kernel_rfl) (by kernel_rfl) (by kernel_rfl) (by kernel_rfl) (fun _ _ _ _ h => h) ?_
  refine ja_l2 1 [2, 3, 4, 5, 6, 7] (lo_l (ly_lda agg30 rfl rfl rfl rfl) (hd 7 rfl)) rfl (by kernel_rfl) (by kernel_rfl) (by kernel_rfl) (by kernel_rfl) (fun _ _ _ _ h => h) ?_
  refine ja_1 2 ?_ rfl (by kernel_rfl)
  refine js_call Try.f77 (flip_s t b (by omega) ub) rfl Try.func77 rfl rfl (ovL_cons rfl ovL_nil) (.cons (.a1 .b (.a1 .n .a0)) .nil) (hd 8 rfl) ?_ (fun ch hp => by simp at hp)
  rintro y hy; injection hy with hy; subst hy
  refine ja_1 3 ?_ rfl (by kernel_rfl)
  refine js_call Try.f50 (WAdd_s s (!t && decide (0 < ((trm b).length : Int))) a (trm b) (by omega) (by omega) ua (u64s_trm ub)) rfl Try.func50 rfl rfl (ovL_cons rfl (ovL_cons rfl ovL_nil)) (.cons (.a1 .b (.a1 .n .a0)) (.cons (.a1 .b (.a1 .n .a0)) .nil)) (hd 9 rfl) ?_ (fun ch hp => by simp at hp)
  rintro y ⟨s1, r1, e1, hy, h1⟩
  injection hy with hy
  subst hy
  refine ja_l 4 (lo_l (ly_ext rfl rfl) (hd 10 rfl)) rfl (by kernel_rfl) (by kernel_rfl) (by kernel_rfl) (fun _ _ _ _ h => h) ?_
  refine ja_l 5 (lo_l (ly_ext rfl rfl) (hd 11 rfl)) rfl (by kernel_rfl) (by kernel_rfl) (by kernel_rfl) (fun _ _ _ _ h => h) ?_
  refine ja_1 6 ?_ rfl (by kernel_rfl)
  refine js_st (sy_store rfl rfl rfl siz30 rfl rfl (Nat.le_of_ble_eq_true rfl)) rfl ?_
  refine ja_l 7 (lo_l (ly_as rfl) (hd 5 rfl)) rfl (by kernel_rfl) (by kernel_rfl) (by kernel_rfl) (fun _ _ _ _ h => h) ?_
  refine ja_nil (by kernel_rfl) ?_
  refine jc_ret ?_
  refine ⟨_, _, (.cons (ResV.cell agg30 rfl rfl rfl rfl) (.cons rfl .nil)), (.t1 (.a1 .b (.a1 .n .a0)) (.t1 .i .t0)), ?_⟩
  exact ⟨s1, r1, e1, rfl, fun h => by obtain ⟨g1, g2⟩ := h1 h; exact ⟨g1, by rw [g2, sv_norm ub, sv_neg]; omega⟩⟩
end Go.Proofs.Ytcdipmjgpimmdaa.Vc
