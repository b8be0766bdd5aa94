/- The law WholeBezout of surdtop returns true for every two whole numbers of bulk at most 1048576 Texts joined: Zf, Zg, Zh, Zi, Zj, Zo. -/
import Derived.Test.YtcfdclehmpfkcaaK6
set_option linter.unusedVariables false
set_option linter.unusedSimpArgs false
/- Contracts of whole.Mul, Sub, Add by values, answers frozen. -/
namespace Go.Proofs.Ytcfdclehmpfkcaa.Vc
open Go Go.RowKit
set_option maxHeartbeats 4000000 in
theorem fits_l (s : Bool) (l : List Int) (v : Int) (hl : l.length < 1099511627776) (hu : u64s l) (hv : sv s l = v) : Spec Try.prog 123 [.a [.b s, .n false .u64 l]] (fun o => ∃ (s2 : Bool) (r : List Int) (e : Int), o = .ret (.t [.a [.b s2, .n true .u64 r], .i .i64 e]) ∧ Res (v) s2 r e) := by
  refine spec_of' [(0, .a [.b s, .n false .u64 l])] rfl Try.func123 rfl (Nat.le_of_ble_eq_true rfl) fun Γ hN hds hL hR => ?_
  have hd : ∀ d, Nat.blt d 11 = true → d < Γ.N := fun d h => by rw [hN]; exact Nat.le_of_ble_eq_true h
  refine jc_seq ?_; refine jc_region ?_; refine jo_h (hy_box (id := 0) (n := 2) rfl rfl rfl (by decide) rfl) (hd 1 rfl) ?_; refine jo_h (hy_alloc (id := 1) zero30 (by decide) rfl (by decide) rfl) (hd 2 rfl) ?_; refine jo_l (ly_as rfl) (hd 3 rfl) ?_; refine jo_nil ?_; refine jc_seq ?_; refine jc_seq ?_; refine jc_region ?_; refine jo_l (ly_fa fld30_1 rfl rfl rfl) (hd 4 rfl) ?_; refine jo_l (ly_ld one28 rfl rfl rfl) (hd 5 rfl) ?_
  refine jo_call Try.f33 (Length_s l hl hu) rfl Try.func33 rfl rfl (ovL_cons rfl ovL_nil) (.cons .n .nil) (hd 6 rfl) ?_ (fun ch hp => by simp at hp)
  rintro y hy; injection hy with hy; subst hy; refine jo_l (ly_gt rfl rfl) (hd 7 rfl) ?_; refine jo_nil ?_
  refine jc_if rfl (fun h1 => ?_) (fun h1 => ?_)
  · refine jc_seq ?_; refine jc_region ?_; refine jo_l (ly_build (is := []) (xs := []) (pls := []) zero30 pls30_ rfl ovL_nil rfl trivial (all_of rfl) rfl) (hd 8 rfl) ?_; refine jo_st (sy_store rfl rfl rfl siz30 rfl rfl (Nat.le_of_ble_eq_true rfl)) ?_; refine jo_l (ly_as rfl) (hd 3 rfl) ?_; refine jo_nil ?_; refine jc_ret ?_
    refine ⟨_, _, (.cons (ResV.cell agg30 rfl rfl rfl rfl) (.cons rfl .nil)), (.t1 (.a1 .b (.a1 (.nil (fr := true) (k := .u64)) .a0)) (.t1 .i .t0)), ?_⟩
    exact ⟨false, [], 3, rfl, res_big hu hv (by omega)⟩
  · refine jc_skip ?_; refine jc_seq ?_; refine jc_region ?_; refine jo_l (ly_lda agg30 rfl rfl rfl rfl) (hd 9 rfl) ?_
    refine jo_call Try.f90 (norm_s s l hl) rfl Try.func90 rfl rfl (ovL_cons rfl ovL_nil) (.cons (.a1 .b (.a1 .n .a0)) .nil) (hd 10 rfl) ?_ (fun ch hp => by simp at hp)
    rintro y hy; injection hy with hy; subst hy; refine jo_st (sy_store rfl rfl rfl siz30 rfl rfl (Nat.le_of_ble_eq_true rfl)) ?_; refine jo_l (ly_as rfl) (hd 3 rfl) ?_; refine jo_nil ?_; refine jc_ret ?_
    refine ⟨_, _, (.cons (ResV.cell agg30 rfl rfl rfl rfl) (.cons rfl .nil)), (.t1 (.a1 .b (.a1 .n .a0)) (.t1 .i .t0)), ?_⟩
    exact ⟨_, _, 0, rfl, res_ok hu hv (by omega)⟩

set_option maxHeartbeats 4000000 in
theorem result_l (s : Bool) (l : List Int) (e v : Int) (hRs : ResN v s l e) : Spec Try.prog 82 [.b s, .n false .u64 l, .i .i64 e] (fun o => ∃ (s2 : Bool) (r : List Int) (e : Int), o = .ret (.t [.a [.b s2, .n true .u64 r], .i .i64 e]) ∧ Res (v) s2 r e) := by
  refine spec_of' [(0, .b s), (1, .n false .u64 l), (2, .i .i64 e)] rfl Try.func82 rfl (Nat.le_of_ble_eq_true rfl) fun Γ hN hds hL hR => ?_
  have hd : ∀ d, Nat.blt d 18 = true → d < Γ.N := fun d h => by rw [hN]; exact Nat.le_of_ble_eq_true h
  refine jc_seq ?_; refine jc_region ?_; refine jo_h (hy_alloc (id := 0) zero30 (by decide) rfl (by decide) rfl) (hd 6 rfl) ?_; refine jo_l (ly_as rfl) (hd 7 rfl) ?_; refine jo_nil ?_; refine jc_seq ?_; refine jc_seq ?_; refine jc_region ?_; refine jo_l (ly_mv rfl) (hd 8 rfl) ?_; refine jo_l (ly_ne rfl rfl) (hd 9 rfl) ?_; refine jo_nil ?_
  refine jc_if rfl (fun h1 => ?_) (fun h1 => ?_)
  · have hE : e = 3 ∧ 67108864 < lenV v := by
      rcases hRs with ⟨h, _⟩ | h
      · omega
      · exact h
    refine jc_seq ?_; refine jc_region ?_; refine jo_l (ly_build (is := []) (xs := []) (pls := []) zero30 pls30_ rfl ovL_nil rfl trivial (all_of rfl) rfl) (hd 10 rfl) ?_; refine jo_l (ly_mv rfl) (hd 11 rfl) ?_; refine jo_st (sy_store rfl rfl rfl siz30 rfl rfl (Nat.le_of_ble_eq_true rfl)) ?_; refine jo_l (ly_as rfl) (hd 7 rfl) ?_; refine jo_nil ?_; refine jc_ret ?_
    refine ⟨_, _, (.cons (ResV.cell agg30 rfl rfl rfl rfl) (.cons rfl .nil)), (.t1 (.a1 .b (.a1 (.nil (fr := true) (k := .u64)) .a0)) (.t1 .i .t0)), ?_⟩
    exact ⟨false, [], e, rfl, .inr ⟨hE.2, rfl, rfl, hE.1⟩⟩
  · have hE : u64s l ∧ l.length < 1099511627776 ∧ sv s l = v := by
      rcases hRs with ⟨_, h⟩ | ⟨h, _⟩
      · exact h
      · omega
    refine jc_skip ?_; refine jc_seq ?_; refine jc_region ?_; refine jo_l (ly_mv rfl) (hd 12 rfl) ?_; refine jo_l (ly_mv rfl) (hd 13 rfl) ?_; refine jo_l (ly_build (is := [0, 1]) (xs := [.tmp 12, .tmp 13]) zero30 pls30_0_1 rfl (ovL_cons rfl (ovL_cons rfl ovL_nil)) rfl (by first | (simp [plsOk, cellsV]; done) | (simp [plsOk, cellsV, old]; done)) (all_of rfl) rfl) (hd 14 rfl) ?_
    refine jo_call Try.f123 (fits_l s l v hE.2.1 hE.1 hE.2.2) rfl Try.func123 rfl rfl (ovL_cons rfl ovL_nil) (.cons (.a1 .b (.a1 .n .a0)) .nil) (hd 15 rfl) ?_ (fun ch hp => by simp at hp)
    rintro y ⟨sf, rf, ef, hy, hf⟩; injection hy with hy; subst hy; refine jo_l (ly_ext rfl rfl) (hd 16 rfl) ?_; refine jo_l (ly_ext rfl rfl) (hd 17 rfl) ?_; refine jo_st (sy_store rfl rfl rfl siz30 rfl rfl (Nat.le_of_ble_eq_true rfl)) ?_; refine jo_l (ly_as rfl) (hd 7 rfl) ?_; refine jo_nil ?_; refine jc_ret ?_
    refine ⟨_, _, (.cons (ResV.cell agg30 rfl rfl rfl rfl) (.cons rfl .nil)), (.t1 (.a1 .b (.a1 .n .a0)) (.t1 .i .t0)), ?_⟩
    exact ⟨sf, rf, ef, rfl, hf⟩

set_option maxHeartbeats 4000000 in
theorem WMul_l (s t : Bool) (a b : List Int) (hla : a.length < 4294967296) (hlb : b.length < 4294967296) (ua : u64s a) (ub : u64s b) : Spec Try.prog 51 [.a [.b s, .n false .u64 a], .a [.b t, .n false .u64 b]] (fun o => ∃ (s2 : Bool) (r : List Int) (e : Int), o = .ret (.t [.a [.b s2, .n true .u64 r], .i .i64 e]) ∧ Res (sv s a * sv t b) s2 r e) := by
  refine spec_of' [(0, .a [.b s, .n false .u64 a]), (1, .a [.b t, .n false .u64 b])] rfl Try.func51 rfl (Nat.le_of_ble_eq_true rfl) fun Γ hN hds hL hR => ?_
  have hd : ∀ d, Nat.blt d 26 = true → d < Γ.N := fun d h => by rw [hN]; exact Nat.le_of_ble_eq_true h
  have ha0 := vl_nonneg ua
  have hb0 := vl_nonneg ub
  refine jc_seq ?_; refine jc_region ?_; refine jo_h (hy_box (id := 0) (n := 2) rfl rfl rfl (by decide) rfl) (hd 2 rfl) ?_; refine jo_h (hy_box (id := 1) (n := 2) rfl rfl rfl (by decide) rfl) (hd 3 rfl) ?_; refine jo_h (hy_alloc (id := 2) zero30 (by decide) rfl (by decide) rfl) (hd 4 rfl) ?_; refine jo_l (ly_as rfl) (hd 5 rfl) ?_; refine jo_nil ?_; refine jc_seq ?_; refine jc_region ?_; refine jo_l (ly_fa fld30_1 rfl rfl rfl) (hd 9 rfl) ?_; refine jo_l (ly_ld one28 rfl rfl rfl) (hd 10 rfl) ?_; refine jo_l (ly_fa fld30_1 rfl rfl rfl) (hd 11 rfl) ?_; refine jo_l (ly_ld one28 rfl rfl rfl) (hd 12 rfl) ?_
  refine jo_call Try.f61 (MulN_e a b hla hlb ua ub) rfl Try.func61 rfl rfl (ovL_cons rfl (ovL_cons rfl ovL_nil)) (.cons .n (.cons .n .nil)) (hd 13 rfl) ?_ (fun ch hp => by simp at hp)
  rintro y ⟨rp, ep, hy, hp⟩; injection hy with hy; subst hy; refine jo_l (ly_mv rfl) (hd 8 rfl) ?_; refine jo_l (ly_ext rfl rfl) (hd 14 rfl) ?_; refine jo_l (ly_ext rfl rfl) (hd 15 rfl) ?_; refine jo_l (ly_as rfl) (hd 6 rfl) ?_; refine jo_l (ly_as rfl) (hd 7 rfl) ?_; refine jo_nil ?_; refine jc_seq ?_; refine jc_region ?_; refine jo_l (ly_fa fld30_0 rfl rfl rfl) (hd 16 rfl) ?_; refine jo_l (ly_ld one4 rfl rfl rfl) (hd 17 rfl) ?_; refine jo_l (ly_fa fld30_0 rfl rfl rfl) (hd 18 rfl) ?_; refine jo_l (ly_ld one4 rfl rfl rfl) (hd 19 rfl) ?_; refine jo_l (ly_neb und4 rfl rfl) (hd 20 rfl) ?_; refine jo_l (ly_mv rfl) (hd 21 rfl) ?_; refine jo_l (ly_mv rfl) (hd 22 rfl) ?_
  refine jo_call Try.f82 (result_l (!(s == t)) rp ep (sv s a * sv t b) (resN_of hp (Int.mul_nonneg ha0 hb0) (fun q uq hq => sv_mul hq))) rfl Try.func82 rfl rfl (ovL_cons rfl (ovL_cons rfl (ovL_cons rfl ovL_nil))) (.cons .b (.cons .n (.cons .i .nil))) (hd 23 rfl) ?_ (fun ch hp => by simp at hp)
  rintro y ⟨sr, rr, er, hy, hr⟩; injection hy with hy; subst hy; refine jo_l (ly_ext rfl rfl) (hd 24 rfl) ?_; refine jo_l (ly_ext rfl rfl) (hd 25 rfl) ?_; refine jo_st (sy_store rfl rfl rfl siz30 rfl rfl (Nat.le_of_ble_eq_true rfl)) ?_; refine jo_l (ly_as rfl) (hd 5 rfl) ?_; refine jo_nil ?_; refine jc_ret ?_
  refine ⟨_, _, (.cons (ResV.cell agg30 rfl rfl rfl rfl) (.cons rfl .nil)), (.t1 (.a1 .b (.a1 .n .a0)) (.t1 .i .t0)), ?_⟩
  exact ⟨sr, rr, er, rfl, hr⟩

set_option maxHeartbeats 4000000 in
theorem WAdd_l (s t : Bool) (a b : List Int) (hla : a.length < 4294967296) (hlb : b.length < 4294967296) (ua : u64s a) (ub : u64s b) : Spec Try.prog 52 [.a [.b s, .n false .u64 a], .a [.b t, .n false .u64 b]] (fun o => ∃ (s2 : Bool) (r : List Int) (e : Int), o = .ret (.t [.a [.b s2, .n true .u64 r], .i .i64 e]) ∧ Res (sv s a + sv t b) s2 r e) := by
  refine spec_of' [(0, .a [.b s, .n false .u64 a]), (1, .a [.b t, .n false .u64 b])] rfl Try.func52 rfl (Nat.le_of_ble_eq_true rfl) fun Γ hN hds hL hR => ?_
  have hd : ∀ d, Nat.blt d 57 = true → d < Γ.N := fun d h => by rw [hN]; exact Nat.le_of_ble_eq_true h
  have hma := trm_len a
  have hmb := trm_len b
  have hcv := cmpL_val (u64s_trm ua) (u64s_trm ub)
  rw [trm_trm, trm_trm] at hcv
  have ea1 := sv_norm (s := s) ua
  have eb1 := sv_norm (s := t) ub
  have ha0 := vl_nonneg (u64s_trm ua)
  have hb0 := vl_nonneg (u64s_trm ub)
  refine jc_seq ?_; refine jc_region ?_; refine jo_h (hy_box (id := 0) (n := 2) rfl rfl rfl (by decide) rfl) (hd 2 rfl) ?_; refine jo_h (hy_box (id := 1) (n := 2) rfl rfl rfl (by decide) rfl) (hd 3 rfl) ?_; refine jo_h (hy_alloc (id := 2) zero30 (by decide) rfl (by decide) rfl) (hd 4 rfl) ?_; refine jo_l (ly_as rfl) (hd 5 rfl) ?_; refine jo_nil ?_; refine jc_seq ?_; refine jc_draw (n := 6) _ rfl mixed ?_; refine ja_l2 0 [1, 3, 4, 5] (lo_l (ly_lda agg30 rfl rfl rfl rfl) (hd 10 rfl)) rfl (by kernel_rfl) (by kernel_rfl) (by kernel_rfl) (by kernel_rfl) (fun _ _ _ _ h => h) ?_; refine ja_l2 2 [3, 4, 5] (lo_l (ly_lda agg30 rfl rfl rfl rfl) (hd 12 rfl)) rfl (by kernel_rfl) (by kernel_rfl) (by kernel_rfl) (by kernel_rfl) (fun _ _ _ _ h => h) ?_
  refine ja_1 1 ?_ rfl (by kernel_rfl)
  refine js_call Try.f90 (norm_s s a (by omega)) rfl Try.func90 rfl rfl (ovL_cons rfl ovL_nil) (.cons (.a1 .b (.a1 .n .a0)) .nil) (hd 11 rfl) ?_ (fun ch hp => by simp at hp)
  rintro y hy; injection hy with hy; subst hy
  refine ja_1 3 ?_ rfl (by kernel_rfl)
  refine js_call Try.f90 (norm_s t b (by omega)) rfl Try.func90 rfl rfl (ovL_cons rfl ovL_nil) (.cons (.a1 .b (.a1 .n .a0)) .nil) (hd 13 rfl) ?_ (fun ch hp => by simp at hp)
  rintro y hy; injection hy with hy; subst hy
  refine ja_1 4 ?_ rfl (by kernel_rfl)
  refine js_st (sy_store rfl rfl rfl siz30 rfl rfl (Nat.le_of_ble_eq_true rfl)) rfl ?_
  refine ja_1 5 ?_ rfl (by kernel_rfl)
  refine js_st (sy_store rfl rfl rfl siz30 rfl rfl (Nat.le_of_ble_eq_true rfl)) rfl ?_; refine ja_nil (by kernel_rfl) ?_; refine jc_seq ?_; refine jc_seq ?_; refine jc_region ?_; refine jo_l (ly_fa fld30_0 rfl rfl rfl) (hd 14 rfl) ?_; refine jo_l (ly_ld one4 rfl rfl rfl) (hd 15 rfl) ?_; refine jo_l (ly_fa fld30_0 rfl rfl rfl) (hd 16 rfl) ?_; refine jo_l (ly_ld one4 rfl rfl rfl) (hd 17 rfl) ?_; refine jo_l (ly_eqb und4 rfl rfl) (hd 18 rfl) ?_; refine jo_nil ?_
  refine jc_cond rfl (fun h1 => ?_) (fun h1 => ?_)
  · refine jc_seq ?_; refine jc_region ?_; refine jo_l (ly_fa fld30_1 rfl rfl rfl) (hd 20 rfl) ?_; refine jo_l (ly_ld one28 rfl rfl rfl) (hd 21 rfl) ?_; refine jo_l (ly_fa fld30_1 rfl rfl rfl) (hd 22 rfl) ?_; refine jo_l (ly_ld one28 rfl rfl rfl) (hd 23 rfl) ?_
    refine jo_call Try.f97 (AddN_e (trm a) (trm b) (by omega) (by omega) (u64s_trm ua) (u64s_trm ub)) rfl Try.func97 rfl rfl (ovL_cons rfl (ovL_cons rfl ovL_nil)) (.cons .n (.cons .n .nil)) (hd 24 rfl) ?_ (fun ch hp => by simp at hp)
    rintro y ⟨ra, ea, hy, ha⟩; injection hy with hy; subst hy; refine jo_l (ly_mv rfl) (hd 19 rfl) ?_; refine jo_l (ly_ext rfl rfl) (hd 25 rfl) ?_; refine jo_l (ly_ext rfl rfl) (hd 26 rfl) ?_; refine jo_l (ly_as rfl) (hd 6 rfl) ?_; refine jo_l (ly_as rfl) (hd 7 rfl) ?_; refine jo_nil ?_; refine jc_seq ?_; refine jc_region ?_; refine jo_l (ly_fa fld30_0 rfl rfl rfl) (hd 27 rfl) ?_; refine jo_l (ly_ld one4 rfl rfl rfl) (hd 28 rfl) ?_; refine jo_l (ly_mv rfl) (hd 29 rfl) ?_; refine jo_l (ly_mv rfl) (hd 30 rfl) ?_
    refine jo_call Try.f82 (result_l (s && decide (0 < ((trm a).length : Int))) ra ea (sv s a + sv t b) (resN_of ha (by omega) (fun q uq hq => add_val (by assumption) hq ea1 eb1))) rfl Try.func82 rfl rfl (ovL_cons rfl (ovL_cons rfl (ovL_cons rfl ovL_nil))) (.cons .b (.cons .n (.cons .i .nil))) (hd 31 rfl) ?_ (fun ch hp => by simp at hp)
    rintro y ⟨sr, rr, er, hy, hr⟩; injection hy with hy; subst hy; refine jo_l (ly_ext rfl rfl) (hd 32 rfl) ?_; refine jo_l (ly_ext rfl rfl) (hd 33 rfl) ?_; refine jo_st (sy_store rfl rfl rfl siz30 rfl rfl (Nat.le_of_ble_eq_true rfl)) ?_; refine jo_l (ly_as rfl) (hd 5 rfl) ?_; refine jo_nil ?_; refine jc_ret ?_
    refine ⟨_, _, (.cons (ResV.cell agg30 rfl rfl rfl rfl) (.cons rfl .nil)), (.t1 (.a1 .b (.a1 .n .a0)) (.t1 .i .t0)), ?_⟩
    exact ⟨sr, rr, er, rfl, hr⟩
  · refine jc_skip ?_; refine jc_seq ?_; refine jc_seq ?_; refine jc_region ?_; refine jo_l (ly_fa fld30_1 rfl rfl rfl) (hd 34 rfl) ?_; refine jo_l (ly_ld one28 rfl rfl rfl) (hd 35 rfl) ?_; refine jo_l (ly_fa fld30_1 rfl rfl rfl) (hd 36 rfl) ?_; refine jo_l (ly_ld one28 rfl rfl rfl) (hd 37 rfl) ?_
    refine jo_call Try.f22 (Compare_s (trm a) (trm b) (by omega) (by omega)) rfl Try.func22 rfl rfl (ovL_cons rfl (ovL_cons rfl ovL_nil)) (.cons .n (.cons .n .nil)) (hd 38 rfl) ?_ (fun ch hp => by simp at hp)
    rintro y hy; injection hy with hy; subst hy; refine jo_l (ly_lt rfl rfl) (hd 39 rfl) ?_; refine jo_nil ?_
    refine jc_if rfl (fun h2 => ?_) (fun h2 => ?_)
    · rw [trm_trm, trm_trm] at h2
      refine jc_region ?_; refine jo_l (ly_lda agg30 rfl rfl rfl rfl) (hd 40 rfl) ?_; refine jo_l (ly_lda agg30 rfl rfl rfl rfl) (hd 41 rfl) ?_; refine jo_st (sy_store rfl rfl rfl siz30 rfl rfl (Nat.le_of_ble_eq_true rfl)) ?_; refine jo_st (sy_store rfl rfl rfl siz30 rfl rfl (Nat.le_of_ble_eq_true rfl)) ?_; refine jo_nil ?_; refine jc_seq ?_; refine jc_region ?_; refine jo_l (ly_fa fld30_1 rfl rfl rfl) (hd 43 rfl) ?_; refine jo_l (ly_ld one28 rfl rfl rfl) (hd 44 rfl) ?_; refine jo_l (ly_fa fld30_1 rfl rfl rfl) (hd 45 rfl) ?_; refine jo_l (ly_ld one28 rfl rfl rfl) (hd 46 rfl) ?_
      refine jo_call Try.f98 (SubN_e (trm b) (trm a) (by omega) (by omega) (u64s_trm ub) (u64s_trm ua) (by rcases hcv with ⟨c, v⟩ | ⟨c, v⟩ | ⟨c, v⟩ <;> omega)) rfl Try.func98 rfl rfl (ovL_cons rfl (ovL_cons rfl ovL_nil)) (.cons .n (.cons .n .nil)) (hd 47 rfl) ?_ (fun ch hp => by simp at hp)
      rintro y ⟨ra, ea, hy, ha⟩; injection hy with hy; subst hy; refine jo_l (ly_mv rfl) (hd 42 rfl) ?_; refine jo_l (ly_ext rfl rfl) (hd 48 rfl) ?_; refine jo_l (ly_ext rfl rfl) (hd 49 rfl) ?_; refine jo_l (ly_as rfl) (hd 8 rfl) ?_; refine jo_l (ly_as rfl) (hd 9 rfl) ?_; refine jo_nil ?_; refine jc_seq ?_; refine jc_region ?_; refine jo_l (ly_fa fld30_0 rfl rfl rfl) (hd 50 rfl) ?_; refine jo_l (ly_ld one4 rfl rfl rfl) (hd 51 rfl) ?_; refine jo_l (ly_mv rfl) (hd 52 rfl) ?_; refine jo_l (ly_mv rfl) (hd 53 rfl) ?_
      refine jo_call Try.f82 (result_l (t && decide (0 < ((trm b).length : Int))) ra ea (sv s a + sv t b) (resN_of ha (by rcases hcv with ⟨c, v⟩ | ⟨c, v⟩ | ⟨c, v⟩ <;> omega) (fun q uq hq => (sub_val (by rw [Bool.beq_comm]; assumption) hq eb1 ea1).trans (Int.add_comm _ _)))) rfl Try.func82 rfl rfl (ovL_cons rfl (ovL_cons rfl (ovL_cons rfl ovL_nil))) (.cons .b (.cons .n (.cons .i .nil))) (hd 54 rfl) ?_ (fun ch hp => by simp at hp)
      rintro y ⟨sr, rr, er, hy, hr⟩; injection hy with hy; subst hy; refine jo_l (ly_ext rfl rfl) (hd 55 rfl) ?_; refine jo_l (ly_ext rfl rfl) (hd 56 rfl) ?_; refine jo_st (sy_store rfl rfl rfl siz30 rfl rfl (Nat.le_of_ble_eq_true rfl)) ?_; refine jo_l (ly_as rfl) (hd 5 rfl) ?_; refine jo_nil ?_; refine jc_ret ?_
      refine ⟨_, _, (.cons (ResV.cell agg30 rfl rfl rfl rfl) (.cons rfl .nil)), (.t1 (.a1 .b (.a1 .n .a0)) (.t1 .i .t0)), ?_⟩
      exact ⟨sr, rr, er, rfl, hr⟩
    · rw [trm_trm, trm_trm] at h2
      refine jc_skip ?_; refine jc_seq ?_; refine jc_region ?_; refine jo_l (ly_fa fld30_1 rfl rfl rfl) (hd 43 rfl) ?_; refine jo_l (ly_ld one28 rfl rfl rfl) (hd 44 rfl) ?_; refine jo_l (ly_fa fld30_1 rfl rfl rfl) (hd 45 rfl) ?_; refine jo_l (ly_ld one28 rfl rfl rfl) (hd 46 rfl) ?_
      refine jo_call Try.f98 (SubN_e (trm a) (trm b) (by omega) (by omega) (u64s_trm ua) (u64s_trm ub) (by rcases hcv with ⟨c, v⟩ | ⟨c, v⟩ | ⟨c, v⟩ <;> omega)) rfl Try.func98 rfl rfl (ovL_cons rfl (ovL_cons rfl ovL_nil)) (.cons .n (.cons .n .nil)) (hd 47 rfl) ?_ (fun ch hp => by simp at hp)
      rintro y ⟨ra, ea, hy, ha⟩; injection hy with hy; subst hy; refine jo_l (ly_mv rfl) (hd 42 rfl) ?_; refine jo_l (ly_ext rfl rfl) (hd 48 rfl) ?_; refine jo_l (ly_ext rfl rfl) (hd 49 rfl) ?_; refine jo_l (ly_as rfl) (hd 8 rfl) ?_; refine jo_l (ly_as rfl) (hd 9 rfl) ?_; refine jo_nil ?_; refine jc_seq ?_; refine jc_region ?_; refine jo_l (ly_fa fld30_0 rfl rfl rfl) (hd 50 rfl) ?_; refine jo_l (ly_ld one4 rfl rfl rfl) (hd 51 rfl) ?_; refine jo_l (ly_mv rfl) (hd 52 rfl) ?_; refine jo_l (ly_mv rfl) (hd 53 rfl) ?_
      refine jo_call Try.f82 (result_l (s && decide (0 < ((trm a).length : Int))) ra ea (sv s a + sv t b) (resN_of ha (by rcases hcv with ⟨c, v⟩ | ⟨c, v⟩ | ⟨c, v⟩ <;> omega) (fun q uq hq => sub_val (by assumption) hq ea1 eb1))) rfl Try.func82 rfl rfl (ovL_cons rfl (ovL_cons rfl (ovL_cons rfl ovL_nil))) (.cons .b (.cons .n (.cons .i .nil))) (hd 54 rfl) ?_ (fun ch hp => by simp at hp)
      rintro y ⟨sr, rr, er, hy, hr⟩; injection hy with hy; subst hy; refine jo_l (ly_ext rfl rfl) (hd 55 rfl) ?_; refine jo_l (ly_ext rfl rfl) (hd 56 rfl) ?_; refine jo_st (sy_store rfl rfl rfl siz30 rfl rfl (Nat.le_of_ble_eq_true rfl)) ?_; refine jo_l (ly_as rfl) (hd 5 rfl) ?_; refine jo_nil ?_; refine jc_ret ?_
      refine ⟨_, _, (.cons (ResV.cell agg30 rfl rfl rfl rfl) (.cons rfl .nil)), (.t1 (.a1 .b (.a1 .n .a0)) (.t1 .i .t0)), ?_⟩
      exact ⟨sr, rr, er, rfl, hr⟩

set_option maxHeartbeats 4000000 in
theorem WSub_l (s t : Bool) (a b : List Int) (hla : a.length < 4294967296) (hlb : b.length < 4294967296) (ua : u64s a) (ub : u64s b) : Spec Try.prog 56 [.a [.b s, .n false .u64 a], .a [.b t, .n false .u64 b]] (fun o => ∃ (s2 : Bool) (r : List Int) (e : Int), o = .ret (.t [.a [.b s2, .n true .u64 r], .i .i64 e]) ∧ Res (sv s a - sv t b) s2 r e) := by
  refine spec_of' [(0, .a [.b s, .n false .u64 a]), (1, .a [.b t, .n false .u64 b])] rfl Try.func56 rfl (Nat.le_of_ble_eq_true rfl) fun Γ hN hds hL hR => ?_
  have hd : ∀ d, Nat.blt d 12 = true → d < Γ.N := fun d h => by rw [hN]; exact Nat.le_of_ble_eq_true h
  have hmb := trm_len b
  have hx : ∀ (x : Int), x + sv (!t && decide (0 < ((trm b).length : Int))) (trm b) = x - sv t b := fun x => by rw [sv_norm ub, sv_neg]; omega
  refine jc_seq ?_; refine jc_region ?_; refine jo_h (hy_box (id := 0) (n := 2) rfl rfl rfl (by decide) rfl) (hd 2 rfl) ?_; refine jo_h (hy_box (id := 1) (n := 2) rfl rfl rfl (by decide) rfl) (hd 3 rfl) ?_; refine jo_h (hy_alloc (id := 2) zero30 (by decide) rfl (by decide) rfl) (hd 4 rfl) ?_; refine jo_l (ly_as rfl) (hd 5 rfl) ?_; refine jo_nil ?_; refine jc_seq ?_; refine jc_draw (n := 8) _ rfl mixed ?_; refine ja_l2 0 [3, 4, 5, 6, 7] (lo_l (ly_lda agg30 rfl rfl rfl rfl) (hd 6 rfl)) rfl (by kernel_rfl) (by kernel_rfl) (by kernel_rfl) (by kernel_rfl) (fun _ _ _ _ h => h) ?_; refine ja_l2 1 [2, 3, 4, 5, 6, 7] (lo_l (ly_lda agg30 rfl rfl rfl rfl) (hd 7 rfl)) rfl (by kernel_rfl) (by kernel_rfl) (by kernel_rfl) (by kernel_rfl) (fun _ _ _ _ h => h) ?_
  refine ja_1 2 ?_ rfl (by kernel_rfl)
  refine js_call Try.f101 (flip_s t b (by omega) ub) rfl Try.func101 rfl rfl (ovL_cons rfl ovL_nil) (.cons (.a1 .b (.a1 .n .a0)) .nil) (hd 8 rfl) ?_ (fun ch hp => by simp at hp)
  rintro y hy; injection hy with hy; subst hy
  refine ja_1 3 ?_ rfl (by kernel_rfl)
  refine js_call Try.f52 (WAdd_l s (!t && decide (0 < ((trm b).length : Int))) a (trm b) (by omega) (by omega) ua (u64s_trm ub)) rfl Try.func52 rfl rfl (ovL_cons rfl (ovL_cons rfl ovL_nil)) (.cons (.a1 .b (.a1 .n .a0)) (.cons (.a1 .b (.a1 .n .a0)) .nil)) (hd 9 rfl) ?_ (fun ch hp => by simp at hp)
  rintro y ⟨sr, rr, er, hy, hr⟩; injection hy with hy; subst hy; refine ja_l 4 (lo_l (ly_ext rfl rfl) (hd 10 rfl)) rfl (by kernel_rfl) (by kernel_rfl) (by kernel_rfl) (fun _ _ _ _ h => h) ?_; refine ja_l 5 (lo_l (ly_ext rfl rfl) (hd 11 rfl)) rfl (by kernel_rfl) (by kernel_rfl) (by kernel_rfl) (fun _ _ _ _ h => h) ?_
  refine ja_1 6 ?_ rfl (by kernel_rfl)
  refine js_st (sy_store rfl rfl rfl siz30 rfl rfl (Nat.le_of_ble_eq_true rfl)) rfl ?_; refine ja_l 7 (lo_l (ly_as rfl) (hd 5 rfl)) rfl (by kernel_rfl) (by kernel_rfl) (by kernel_rfl) (fun _ _ _ _ h => h) ?_; refine ja_nil (by kernel_rfl) ?_; refine jc_ret ?_
  refine ⟨_, _, (.cons (ResV.cell agg30 rfl rfl rfl rfl) (.cons rfl .nil)), (.t1 (.a1 .b (.a1 .n .a0)) (.t1 .i .t0)), ?_⟩
  exact ⟨sr, rr, er, rfl, by rw [hx] at hr; exact hr⟩

theorem WMul_v (v w : Int) (hv : (lm v).length < 4294967296) (hw : (lm w).length < 4294967296) (h : lenV (v * w) ≤ 67108864) : Spec Try.prog 51 [.a [.b (decide (v < 0)), .n false .u64 (lm v)], .a [.b (decide (w < 0)), .n false .u64 (lm w)]] (fun o => o = .ret (.t [.a [.b (decide ((v * w) < 0)), .n true .u64 (lm (v * w))], .i .i64 0])) :=
  (WMul_l (decide (v < 0)) (decide (w < 0)) (lm v) (lm w) hv hw (lm_u v) (lm_u w)).mono fun o ⟨s2, r, e, ho, hR⟩ => by
    rw [sv_lm, sv_lm] at hR
    rcases hR with ⟨_, h1, h2, h3⟩ | ⟨hb, _⟩
    · subst h1; subst h2; subst h3; exact ho
    · omega

theorem WSub_v (v w : Int) (hv : (lm v).length < 4294967296) (hw : (lm w).length < 4294967296) (h : lenV (v - w) ≤ 67108864) : Spec Try.prog 56 [.a [.b (decide (v < 0)), .n false .u64 (lm v)], .a [.b (decide (w < 0)), .n false .u64 (lm w)]] (fun o => o = .ret (.t [.a [.b (decide ((v - w) < 0)), .n true .u64 (lm (v - w))], .i .i64 0])) :=
  (WSub_l (decide (v < 0)) (decide (w < 0)) (lm v) (lm w) hv hw (lm_u v) (lm_u w)).mono fun o ⟨s2, r, e, ho, hR⟩ => by
    rw [sv_lm, sv_lm] at hR
    rcases hR with ⟨_, h1, h2, h3⟩ | ⟨hb, _⟩
    · subst h1; subst h2; subst h3; exact ho
    · omega

theorem WAdd_v (v w : Int) (hv : (lm v).length < 4294967296) (hw : (lm w).length < 4294967296) (h : lenV (v + w) ≤ 67108864) : Spec Try.prog 52 [.a [.b (decide (v < 0)), .n false .u64 (lm v)], .a [.b (decide (w < 0)), .n false .u64 (lm w)]] (fun o => o = .ret (.t [.a [.b (decide ((v + w) < 0)), .n true .u64 (lm (v + w))], .i .i64 0])) :=
  (WAdd_l (decide (v < 0)) (decide (w < 0)) (lm v) (lm w) hv hw (lm_u v) (lm_u w)).mono fun o ⟨s2, r, e, ho, hR⟩ => by
    rw [sv_lm, sv_lm] at hR
    rcases hR with ⟨_, h1, h2, h3⟩ | ⟨hb, _⟩
    · subst h1; subst h2; subst h3; exact ho
    · omega
end Go.Proofs.Ytcfdclehmpfkcaa.Vc

/- Contracts of whole.Of, flip, Sign by values. -/
namespace Go.Proofs.Ytcfdclehmpfkcaa.Vc
open Go Go.RowKit
set_option maxHeartbeats 4000000 in
theorem Of_0  : Spec Try.prog 87 [.i .i64 0] (fun o => o = .ret (.a [.b false, .n true .u64 []])) := by
  refine spec_of' [(0, .i .i64 0)] rfl Try.func87 rfl (Nat.le_of_ble_eq_true rfl) fun Γ hN hds hL hR => ?_
  have hd : ∀ d, Nat.blt d 14 = true → d < Γ.N := fun d h => by rw [hN]; exact Nat.le_of_ble_eq_true h
  have rF : Spec Try.prog 113 [.i .u64 0] (fun o => o = .ret (.n true .u64 [])) := by have h := From_s 0; rwa [if_pos rfl] at h
  refine jc_seq ?_; refine jc_region ?_; refine jo_h (hy_alloc (id := 0) zero30 (by decide) rfl (by decide) rfl) (hd 2 rfl) ?_; refine jo_nil ?_; refine jc_seq ?_; refine jc_seq ?_; refine jc_region ?_; refine jo_l (ly_mv rfl) (hd 3 rfl) ?_; refine jo_l (ly_ff (ly_lt rfl rfl) (by decide)) (hd 4 rfl) ?_; refine jo_nil ?_; refine jc_litf rfl ?_; refine jc_skip ?_; refine jc_seq ?_; refine jc_region ?_; refine jo_l (ly_mv rfl) (hd 10 rfl) ?_; refine jo_l (ly_conv und3 und82 rfl (r := 0) rfl) (hd 11 rfl) ?_
  refine jo_call Try.f113 (rF) rfl Try.func113 rfl rfl (ovL_cons rfl ovL_nil) (.cons .i .nil) (hd 12 rfl) ?_ (fun ch hp => by simp at hp)
  rintro y hy; injection hy with hy; subst hy; refine jo_l (ly_build (is := [1]) (xs := [.tmp 12]) zero30 pls30_1 rfl (ovL_cons rfl ovL_nil) rfl (by first | (simp [plsOk, cellsV]; done) | (simp [plsOk, cellsV, old]; done)) (all_of rfl) rfl) (hd 13 rfl) ?_; refine jo_st (sy_store rfl rfl rfl siz30 rfl rfl (Nat.le_of_ble_eq_true rfl)) ?_; refine jo_nil ?_; refine jc_ret ?_
  refine ⟨_, _, (.cons (ResV.cell agg30 rfl rfl rfl rfl) .nil), (.a1 .b (.a1 .n .a0)), ?_⟩
  exact rfl

theorem Of_v (v : Int) (h : inI v) : Spec Try.prog 87 [.i .i64 v] (fun o => o = .ret (.a [.b (decide (v < 0)), .n true .u64 (lm v)])) := by
  have e := of_lm h
  obtain ⟨h1, h2⟩ := h
  rw [e]
  unfold fl
  rcases Int.lt_trichotomy v 0 with hv | hv | hv
  · rw [decide_eq_true hv, if_neg (by omega), show ((v.natAbs : Nat) : Int) = -v by omega]
    exact Of_neg v hv h1
  · subst hv
    exact Of_0
  · rw [decide_eq_false (by omega), if_neg (by omega), show ((v.natAbs : Nat) : Int) = v by omega]
    exact Of_pos v hv h2
theorem flip_v (v : Int) (hl : (lm v).length < 4294967296) : Spec Try.prog 101 [.a [.b (decide (v < 0)), .n false .u64 (lm v)]] (fun o => o = .ret (.a [.b (decide ((-v) < 0)), .n true .u64 (lm (-v))])) := by
  have h := flip_s (decide (v < 0)) (lm v) (by omega) (lm_u v)
  have e := raw_res (s := !decide (v < 0)) (l := lm v) (v := -v) (lm_u v) (by rw [sv_neg, sv_lm])
  rw [e.1, e.2.1] at h
  exact h
theorem WSign_v' (v : Int) (hl : (lm v).length < 4294967296) : Spec Try.prog 83 [.a [.b (decide (v < 0)), .n false .u64 (lm v)]] (fun o => o = .ret (.i .i64 (sgnI v))) := by
  have h := WSign_s (decide (v < 0)) (lm v) hl (lm_u v)
  rwa [sv_lm] at h
end Go.Proofs.Ytcfdclehmpfkcaa.Vc

/- Contract of whole.cofactor. -/
namespace Go.Proofs.Ytcfdclehmpfkcaa.Vc
open Go Go.RowKit
set_option maxHeartbeats 4000000 in
set_option maxRecDepth 100000 in
theorem cofactor_s (a b : Int) (ha : lenV a ≤ 67108800) (hb : lenV b ≤ 67108800) (h0 : b ≠ 0) : Spec Try.prog 92 [.a [.b (decide (a < 0)), .n false .u64 (lm a)], .a [.b (decide (b < 0)), .n false .u64 (lm b)]] (fun o => ∃ g x : Int, o = .ret (.t [.a [.b (decide (g < 0)), .n false .u64 (lm g)], .a [.b (decide (x < 0)), .n false .u64 (lm x)]]) ∧ CoE a b g x) := by
  refine spec_of' [(0, .a [.b (decide (a < 0)), .n false .u64 (lm a)]), (1, .a [.b (decide (b < 0)), .n false .u64 (lm b)])] rfl Try.func92 rfl (Nat.le_of_ble_eq_true rfl) fun Γ hN hds hL hR => ?_
  have hd : ∀ d, Nat.blt d 54 = true → d < Γ.N := fun d h => by rw [hN]; exact Nat.le_of_ble_eq_true h
  refine jc_seq ?_; refine jc_region ?_; refine jo_h (hy_box (id := 0) (n := 2) rfl rfl rfl (by decide) rfl) (hd 2 rfl) ?_; refine jo_h (hy_box (id := 1) (n := 2) rfl rfl rfl (by decide) rfl) (hd 3 rfl) ?_; refine jo_h (hy_alloc (id := 2) zero30 (by decide) rfl (by decide) rfl) (hd 4 rfl) ?_; refine jo_h (hy_alloc (id := 3) zero30 (by decide) rfl (by decide) rfl) (hd 5 rfl) ?_; refine jo_nil ?_; refine jc_seq ?_; refine jc_hold 2 _ ?_; refine jc_draw (n := 6) _ rfl mixed ?_; refine ja_gen (fun _ _ _ _ h => h) fun ops1 Q1 F0 hpan ho hq hF => ?_
  have S1_111111 : JA Try.prog ops1 0 #[true, true, true, true, true, true] Γ ([(6, .p 4 1 0), (7, .p 5 1 0), (15, .a [.b (decide (a < 0)), .n false .u64 (lm a)]), (16, .a [.b (decide (b < 0)), .n false .u64 (lm b)])] ++ F0) [⟨66, 2, 0, true, [.b (decide (a < 0)), .n false .u64 (lm a)]⟩, ⟨66, 2, 0, true, [.b (decide (b < 0)), .n false .u64 (lm b)]⟩, ⟨66, 2, 0, true, [.b false, .c (.slice none 0 0)]⟩, ⟨66, 2, 0, true, [.b false, .c (.slice none 0 0)]⟩, ⟨66, 2, 1, true, [.b (decide (a < 0)), .n false .u64 (lm a)]⟩, ⟨66, 2, 1, true, [.b (decide (b < 0)), .n false .u64 (lm b)]⟩] Q1 := by
    subst ho; subst hq; subst hF; refine ja_nil (by kernel_rfl) ?_; refine jc_seq ?_; refine jc_region ?_
    refine jo_call Try.f87 (Of_v 1 (by unfold inI; omega)) rfl Try.func87 rfl rfl (ovL_cons rfl ovL_nil) (.cons .i .nil) (hd 17 rfl) ?_ (fun ch hp => by simp at hp)
    rintro y hy; injection hy with hy; subst hy
    refine jo_call Try.f87 (Of_v 0 (by unfold inI; omega)) rfl Try.func87 rfl rfl (ovL_cons rfl ovL_nil) (.cons .i .nil) (hd 18 rfl) ?_ (fun ch hp => by simp at hp)
    rintro y hy; injection hy with hy; subst hy; refine jo_h (hy_alloc (id := 6) zero30 (by decide) rfl (by decide) rfl) (hd 8 rfl) ?_; refine jo_h (hy_alloc (id := 7) zero30 (by decide) rfl (by decide) rfl) (hd 9 rfl) ?_; refine jo_st (sy_store rfl rfl rfl siz30 rfl rfl (Nat.le_of_ble_eq_true rfl)) ?_; refine jo_st (sy_store rfl rfl rfl siz30 rfl rfl (Nat.le_of_ble_eq_true rfl)) ?_; refine jo_nil ?_; refine jc_seq ?_; refine jc_block ?_; refine jc_H (H' := [⟨66, 2, 0, true, [.b (decide (a < 0)), .n false .u64 (lm a)]⟩, ⟨66, 2, 0, true, [.b (decide (b < 0)), .n false .u64 (lm b)]⟩, ⟨66, 2, 0, true, [.b false, .c (.slice none 0 0)]⟩, ⟨66, 2, 0, true, [.b false, .c (.slice none 0 0)]⟩, ⟨66, 2, 1, true, [.b (decide (a < 0)), .n false .u64 (lm a)]⟩, ⟨66, 2, 1, true, [.b (decide (b < 0)), .n false .u64 (lm b)]⟩, ⟨66, 2, 0, true, [.b (decide (1 < 0)), .n true .u64 (lm 1)]⟩, ⟨66, 2, 0, true, [.b (decide (0 < 0)), .n true .u64 (lm 0)]⟩]) rfl ?_
    refine jc_loopD (G := Int × Int × Int × Int × Bool × Bool) 8 (fun g => Co a b g.1 g.2.1 g.2.2.1 g.2.2.2.1) (fun g => [(10, .u), (11, .u), (12, .u), (13, .u), (14, .u), (19, .u), (20, .u), (21, .u), (22, .u), (23, .u), (24, .u), (25, .u), (26, .u), (27, .u), (28, .u), (29, .u), (30, .u), (31, .u), (32, .u), (33, .u), (34, .u), (35, .u), (36, .u), (37, .u), (38, .u), (39, .u), (40, .u), (41, .u), (42, .u), (43, .u), (44, .u)]) (fun g => [⟨66, 2, 0, true, [.b (decide (a < 0)), .n false .u64 (lm a)]⟩, ⟨66, 2, 0, true, [.b (decide (b < 0)), .n false .u64 (lm b)]⟩, ⟨66, 2, 0, true, [.b false, .c (.slice none 0 0)]⟩, ⟨66, 2, 0, true, [.b false, .c (.slice none 0 0)]⟩, ⟨66, 2, 1, true, [.b (decide (g.1 < 0)), .n g.2.2.2.2.1 .u64 (lm g.1)]⟩, ⟨66, 2, 1, true, [.b (decide (g.2.1 < 0)), .n g.2.2.2.2.2 .u64 (lm g.2.1)]⟩, ⟨66, 2, 0, true, [.b (decide (g.2.2.1 < 0)), .n true .u64 (lm g.2.2.1)]⟩, ⟨66, 2, 0, true, [.b (decide (g.2.2.2.1 < 0)), .n true .u64 (lm g.2.2.2.1)]⟩]) (fun g => g.2.1.natAbs) (a, b, 1, 0, false, false) ?_ ?_ rfl hR rfl (fun _ _ => rfl) (fun g _ => (.cons rfl (.cons rfl (.cons rfl (.cons rfl (.cons rfl (.cons rfl (.cons rfl (.cons rfl .nil))))))))) ?_
    · exact co_0 h0
    · exact (.u (.u (.u (.u (.u (.u (.u (.u (.u (.u (.u (.u (.u (.u (.u (.u (.u (.u (.u (.u (.u (.u (.u (.u (.u (.u (.u (.u (.u (.u (.u .nil)))))))))))))))))))))))))))))))
    · rintro ⟨r, s, x, y, f1, f2⟩ hC
      dsimp only at hC
      have hlr : lenV r ≤ 67108800 := lenV_max hC.br (by omega) (by omega)
      have hls : lenV s ≤ 67108800 := Nat.le_trans (lenV_mono hC.bs) (by omega)
      have hly := lenV_mono hC.by_
      have hlx := lenV_mono hC.bx
      have hmr := lenV_lm (v := r) (by omega)
      have hms := lenV_lm (v := s) (by omega)
      have hmy := lenV_lm (v := y) (by omega)
      have hmx := lenV_lm (v := x) (by omega)
      refine jc_seq ?_; refine jc_seq ?_; refine jc_region ?_; refine jo_l (ly_lda agg30 rfl rfl rfl rfl) (hd 19 rfl) ?_
      refine jo_call Try.f83 (WSign_v' s (by omega)) rfl Try.func83 rfl rfl (ovL_cons rfl ovL_nil) (.cons (.a1 .b (.a1 .n .a0)) .nil) (hd 20 rfl) ?_ (fun ch hp => by simp at hp)
      rintro y hy; injection hy with hy; subst hy; refine jo_l (ly_ne rfl rfl) (hd 21 rfl) ?_; refine jo_nil ?_
      refine jc_if rfl (fun h1 => ?_) (fun h1 => ?_)
      · have hs : s ≠ 0 := fun e => h1 (sgnI_0.2 e)
        have hq := euc (v := r) hs
        have hN := hC.next h0 hs hq
        have hlyn := lenV_mono hN.by_
        have hqy : lenV ((wq 4 r s) * y) ≤ lenV b + 1 := lenV_two (by have := hN.by_; have := hC.bx; omega)
        have hwl := wq_len (k := 4) (v := r) hs
        have hlq := lenV_lm (v := (wq 4 r s)) (by omega)
        have hlqy := lenV_lm (v := ((wq 4 r s) * y)) (by omega)
        have hlR := lenV_mono hN.bs
        have hEu : Spec Try.prog 94 [.a [.b (decide (r < 0)), .n false .u64 (lm r)], .a [.b (decide (s < 0)), .n false .u64 (lm s)]] (fun o => o = .ret (.t [.a [.b (decide ((wq 4 r s) < 0)), .n true .u64 (lm (wq 4 r s))], .a [.b (decide ((r % s) < 0)), .n true .u64 (lm (r % s))], .i .i64 0])) := by have h := Euclid_z (decide (r < 0)) (decide (s < 0)) (lm r) (lm s) r s (by omega) (by omega) (lm_u r) (lm_u s) (sv_lm r) (sv_lm s) (by omega) (by omega) hs; rwa [hq] at h
        refine jc_skip ?_; refine jc_block ?_; refine jc_seq ?_; refine jc_H (H' := [⟨66, 2, 0, true, [.b (decide (a < 0)), .n false .u64 (lm a)]⟩, ⟨66, 2, 0, true, [.b (decide (b < 0)), .n false .u64 (lm b)]⟩, ⟨66, 2, 0, true, [.b false, .c (.slice none 0 0)]⟩, ⟨66, 2, 0, true, [.b false, .c (.slice none 0 0)]⟩, ⟨66, 2, 1, true, [.b (decide (r < 0)), .n f1 .u64 (lm r)]⟩, ⟨66, 2, 1, true, [.b (decide (s < 0)), .n f2 .u64 (lm s)]⟩, ⟨66, 2, 0, true, [.b (decide (x < 0)), .n true .u64 (lm x)]⟩, ⟨66, 2, 0, true, [.b (decide (y < 0)), .n true .u64 (lm y)]⟩]) rfl ?_; refine jc_region ?_; refine jo_l (ly_lda agg30 rfl rfl rfl rfl) (hd 23 rfl) ?_; refine jo_l (ly_lda agg30 rfl rfl rfl rfl) (hd 24 rfl) ?_
        refine jo_call Try.f94 (hEu) rfl Try.func94 rfl rfl (ovL_cons rfl (ovL_cons rfl ovL_nil)) (.cons (.a1 .b (.a1 .n .a0)) (.cons (.a1 .b (.a1 .n .a0)) .nil)) (hd 25 rfl) ?_ (fun ch hp => by simp at hp)
        rintro y hy; injection hy with hy; subst hy; refine jo_l (ly_mv rfl) (hd 22 rfl) ?_; refine jo_l (ly_ext rfl rfl) (hd 26 rfl) ?_; refine jo_l (ly_ext rfl rfl) (hd 27 rfl) ?_; refine jo_l (ly_ext rfl rfl) (hd 28 rfl) ?_; refine jo_h (hy_alloc (id := 8) zero30 (by decide) rfl (by decide) rfl) (hd 10 rfl) ?_; refine jo_h (hy_alloc (id := 9) zero30 (by decide) rfl (by decide) rfl) (hd 11 rfl) ?_; refine jo_st (sy_store rfl rfl rfl siz30 rfl rfl (Nat.le_of_ble_eq_true rfl)) ?_; refine jo_st (sy_store rfl rfl rfl siz30 rfl rfl (Nat.le_of_ble_eq_true rfl)) ?_; refine jo_l (ly_as rfl) (hd 12 rfl) ?_; refine jo_nil ?_; refine jc_seq ?_; refine jc_H (H' := [⟨66, 2, 0, true, [.b (decide (a < 0)), .n false .u64 (lm a)]⟩, ⟨66, 2, 0, true, [.b (decide (b < 0)), .n false .u64 (lm b)]⟩, ⟨66, 2, 0, true, [.b false, .c (.slice none 0 0)]⟩, ⟨66, 2, 0, true, [.b false, .c (.slice none 0 0)]⟩, ⟨66, 2, 1, true, [.b (decide (r < 0)), .n f1 .u64 (lm r)]⟩, ⟨66, 2, 1, true, [.b (decide (s < 0)), .n f2 .u64 (lm s)]⟩, ⟨66, 2, 0, true, [.b (decide (x < 0)), .n true .u64 (lm x)]⟩, ⟨66, 2, 0, true, [.b (decide (y < 0)), .n true .u64 (lm y)]⟩, ⟨66, 2, 0, true, [.b (decide ((wq 4 r s) < 0)), .n true .u64 (lm (wq 4 r s))]⟩, ⟨66, 2, 0, true, [.b (decide ((r % s) < 0)), .n true .u64 (lm (r % s))]⟩]) rfl ?_; refine jc_draw (n := 4) _ rfl mixed ?_; refine ja_gen (fun _ _ _ _ h => h) fun ops1 Q1 F0 hpan ho hq hF => ?_
        have S5_1111 : JA Try.prog ops1 0 #[true, true, true, true] Γ ([(29, .a [.b (decide (s < 0)), .n f2 .u64 (lm s)]), (30, .a [.b (decide ((r % s) < 0)), .n true .u64 (lm (r % s))])] ++ F0) [⟨66, 2, 0, true, [.b (decide (a < 0)), .n false .u64 (lm a)]⟩, ⟨66, 2, 0, true, [.b (decide (b < 0)), .n false .u64 (lm b)]⟩, ⟨66, 2, 0, true, [.b false, .c (.slice none 0 0)]⟩, ⟨66, 2, 0, true, [.b false, .c (.slice none 0 0)]⟩, ⟨66, 2, 1, true, [.b (decide (s < 0)), .n f2 .u64 (lm s)]⟩, ⟨66, 2, 1, true, [.b (decide ((r % s) < 0)), .n true .u64 (lm (r % s))]⟩, ⟨66, 2, 0, true, [.b (decide (x < 0)), .n true .u64 (lm x)]⟩, ⟨66, 2, 0, true, [.b (decide (y < 0)), .n true .u64 (lm y)]⟩, ⟨66, 2, 0, true, [.b (decide ((wq 4 r s) < 0)), .n true .u64 (lm (wq 4 r s))]⟩, ⟨66, 2, 0, true, [.b (decide ((r % s) < 0)), .n true .u64 (lm (r % s))]⟩] Q1 := by
          subst ho; subst hq; subst hF; refine ja_nil (by kernel_rfl) ?_; refine jc_seq ?_; refine jc_H (H' := [⟨66, 2, 0, true, [.b (decide (a < 0)), .n false .u64 (lm a)]⟩, ⟨66, 2, 0, true, [.b (decide (b < 0)), .n false .u64 (lm b)]⟩, ⟨66, 2, 0, true, [.b false, .c (.slice none 0 0)]⟩, ⟨66, 2, 0, true, [.b false, .c (.slice none 0 0)]⟩, ⟨66, 2, 1, true, [.b (decide (s < 0)), .n f2 .u64 (lm s)]⟩, ⟨66, 2, 1, true, [.b (decide ((r % s) < 0)), .n true .u64 (lm (r % s))]⟩, ⟨66, 2, 0, true, [.b (decide (x < 0)), .n true .u64 (lm x)]⟩, ⟨66, 2, 0, true, [.b (decide (y < 0)), .n true .u64 (lm y)]⟩, ⟨66, 2, 0, true, [.b (decide ((wq 4 r s) < 0)), .n true .u64 (lm (wq 4 r s))]⟩, ⟨66, 2, 0, true, [.b (decide ((r % s) < 0)), .n true .u64 (lm (r % s))]⟩]) rfl ?_; refine jc_region ?_; refine jo_l (ly_lda agg30 rfl rfl rfl rfl) (hd 32 rfl) ?_; refine jo_l (ly_lda agg30 rfl rfl rfl rfl) (hd 33 rfl) ?_
          refine jo_call Try.f51 (WMul_v (wq 4 r s) y (by omega) (by omega) (by omega)) rfl Try.func51 rfl rfl (ovL_cons rfl (ovL_cons rfl ovL_nil)) (.cons (.a1 .b (.a1 .n .a0)) (.cons (.a1 .b (.a1 .n .a0)) .nil)) (hd 34 rfl) ?_ (fun ch hp => by simp at hp)
          rintro y hy; injection hy with hy; subst hy; refine jo_l (ly_mv rfl) (hd 31 rfl) ?_; refine jo_l (ly_ext rfl rfl) (hd 35 rfl) ?_; refine jo_l (ly_ext rfl rfl) (hd 36 rfl) ?_; refine jo_h (hy_alloc (id := 10) zero30 (by decide) rfl (by decide) rfl) (hd 13 rfl) ?_; refine jo_st (sy_store rfl rfl rfl siz30 rfl rfl (Nat.le_of_ble_eq_true rfl)) ?_; refine jo_l (ly_as rfl) (hd 14 rfl) ?_; refine jo_nil ?_; refine jc_seq ?_; refine jc_region ?_; refine jo_l (ly_lda agg30 rfl rfl rfl rfl) (hd 38 rfl) ?_; refine jo_l (ly_lda agg30 rfl rfl rfl rfl) (hd 39 rfl) ?_
          refine jo_call Try.f56 (WSub_v x ((wq 4 r s) * y) (by omega) (by omega) (by omega)) rfl Try.func56 rfl rfl (ovL_cons rfl (ovL_cons rfl ovL_nil)) (.cons (.a1 .b (.a1 .n .a0)) (.cons (.a1 .b (.a1 .n .a0)) .nil)) (hd 40 rfl) ?_ (fun ch hp => by simp at hp)
          rintro y hy; injection hy with hy; subst hy; refine jo_l (ly_mv rfl) (hd 37 rfl) ?_; refine jo_l (ly_ext rfl rfl) (hd 41 rfl) ?_; refine jo_l (ly_ext rfl rfl) (hd 42 rfl) ?_; refine jo_st (sy_store rfl rfl rfl siz30 rfl rfl (Nat.le_of_ble_eq_true rfl)) ?_; refine jo_nil ?_; refine jc_H (H' := [⟨66, 2, 0, true, [.b (decide (a < 0)), .n false .u64 (lm a)]⟩, ⟨66, 2, 0, true, [.b (decide (b < 0)), .n false .u64 (lm b)]⟩, ⟨66, 2, 0, true, [.b false, .c (.slice none 0 0)]⟩, ⟨66, 2, 0, true, [.b false, .c (.slice none 0 0)]⟩, ⟨66, 2, 1, true, [.b (decide (s < 0)), .n f2 .u64 (lm s)]⟩, ⟨66, 2, 1, true, [.b (decide ((r % s) < 0)), .n true .u64 (lm (r % s))]⟩, ⟨66, 2, 0, true, [.b (decide (x < 0)), .n true .u64 (lm x)]⟩, ⟨66, 2, 0, true, [.b (decide (y < 0)), .n true .u64 (lm y)]⟩, ⟨66, 2, 0, true, [.b (decide ((wq 4 r s) < 0)), .n true .u64 (lm (wq 4 r s))]⟩, ⟨66, 2, 0, true, [.b (decide ((r % s) < 0)), .n true .u64 (lm (r % s))]⟩, ⟨66, 2, 0, true, [.b (decide ((x - (wq 4 r s) * y) < 0)), .n true .u64 (lm (x - (wq 4 r s) * y))]⟩]) rfl ?_; refine jc_draw (n := 4) _ rfl mixed ?_; refine ja_gen (fun _ _ _ _ h => h) fun ops1 Q1 F0 hpan ho hq hF => ?_
          have S8_1111 : JA Try.prog ops1 0 #[true, true, true, true] Γ ([(43, .a [.b (decide (y < 0)), .n true .u64 (lm y)]), (44, .a [.b (decide ((x - (wq 4 r s) * y) < 0)), .n true .u64 (lm (x - (wq 4 r s) * y))])] ++ F0) [⟨66, 2, 0, true, [.b (decide (a < 0)), .n false .u64 (lm a)]⟩, ⟨66, 2, 0, true, [.b (decide (b < 0)), .n false .u64 (lm b)]⟩, ⟨66, 2, 0, true, [.b false, .c (.slice none 0 0)]⟩, ⟨66, 2, 0, true, [.b false, .c (.slice none 0 0)]⟩, ⟨66, 2, 1, true, [.b (decide (s < 0)), .n f2 .u64 (lm s)]⟩, ⟨66, 2, 1, true, [.b (decide ((r % s) < 0)), .n true .u64 (lm (r % s))]⟩, ⟨66, 2, 0, true, [.b (decide (y < 0)), .n true .u64 (lm y)]⟩, ⟨66, 2, 0, true, [.b (decide ((x - (wq 4 r s) * y) < 0)), .n true .u64 (lm (x - (wq 4 r s) * y))]⟩, ⟨66, 2, 0, true, [.b (decide ((wq 4 r s) < 0)), .n true .u64 (lm (wq 4 r s))]⟩, ⟨66, 2, 0, true, [.b (decide ((r % s) < 0)), .n true .u64 (lm (r % s))]⟩, ⟨66, 2, 0, true, [.b (decide ((x - (wq 4 r s) * y) < 0)), .n true .u64 (lm (x - (wq 4 r s) * y))]⟩] Q1 := by
            subst ho; subst hq; subst hF; refine ja_nil (by kernel_rfl) ?_
            refine ⟨(s, r % s, y, x - wq 4 r s * y, f2, true), ?_, ?_, rfl, cov_n 62 rfl rfl ?_⟩
            · exact hN
            · show (r % s).natAbs < s.natAbs
              have := Int.emod_lt r hs
              have := Int.emod_nonneg r hs
              omega
            · exact (.u (.u (.u (.u (.u (.u (.u (.u (.u (.u (.u (.u (.u (.u (.u (.u (.u (.u (.u (.u (.u (.u (.u (.u (.u (.u (.u (.u (.u (.u (.u .nil)))))))))))))))))))))))))))))))
          have S8_1110 : JA Try.prog ops1 1 #[true, true, true, false] Γ ([(43, .a [.b (decide (y < 0)), .n true .u64 (lm y)]), (44, .a [.b (decide ((x - (wq 4 r s) * y) < 0)), .n true .u64 (lm (x - (wq 4 r s) * y))])] ++ F0) [⟨66, 2, 0, true, [.b (decide (a < 0)), .n false .u64 (lm a)]⟩, ⟨66, 2, 0, true, [.b (decide (b < 0)), .n false .u64 (lm b)]⟩, ⟨66, 2, 0, true, [.b false, .c (.slice none 0 0)]⟩, ⟨66, 2, 0, true, [.b false, .c (.slice none 0 0)]⟩, ⟨66, 2, 1, true, [.b (decide (s < 0)), .n f2 .u64 (lm s)]⟩, ⟨66, 2, 1, true, [.b (decide ((r % s) < 0)), .n true .u64 (lm (r % s))]⟩, ⟨66, 2, 0, true, [.b (decide (y < 0)), .n true .u64 (lm y)]⟩, ⟨66, 2, 0, true, [.b (decide (y < 0)), .n true .u64 (lm y)]⟩, ⟨66, 2, 0, true, [.b (decide ((wq 4 r s) < 0)), .n true .u64 (lm (wq 4 r s))]⟩, ⟨66, 2, 0, true, [.b (decide ((r % s) < 0)), .n true .u64 (lm (r % s))]⟩, ⟨66, 2, 0, true, [.b (decide ((x - (wq 4 r s) * y) < 0)), .n true .u64 (lm (x - (wq 4 r s) * y))]⟩] Q1 := by
            subst ho; subst hF
            refine ja_1 3 ?_ rfl (by kernel_rfl)
            refine js_st (sy_store rfl rfl rfl siz30 rfl rfl (Nat.le_of_ble_eq_true rfl)) rfl ?_
            refine ja_to (m := [(43, .a [.b (decide (y < 0)), .n true .u64 (lm y)]), (44, .a [.b (decide ((x - (wq 4 r s) * y) < 0)), .n true .u64 (lm (x - (wq 4 r s) * y))])]) (by decide) rfl (cov_n 2 rfl rfl (.cons rfl (.cons rfl .nil))) S8_1111
          have S8_1100 : JA Try.prog ops1 2 #[true, true, false, false] Γ ([(43, .a [.b (decide (y < 0)), .n true .u64 (lm y)]), (44, .a [.b (decide ((x - (wq 4 r s) * y) < 0)), .n true .u64 (lm (x - (wq 4 r s) * y))])] ++ F0) [⟨66, 2, 0, true, [.b (decide (a < 0)), .n false .u64 (lm a)]⟩, ⟨66, 2, 0, true, [.b (decide (b < 0)), .n false .u64 (lm b)]⟩, ⟨66, 2, 0, true, [.b false, .c (.slice none 0 0)]⟩, ⟨66, 2, 0, true, [.b false, .c (.slice none 0 0)]⟩, ⟨66, 2, 1, true, [.b (decide (s < 0)), .n f2 .u64 (lm s)]⟩, ⟨66, 2, 1, true, [.b (decide ((r % s) < 0)), .n true .u64 (lm (r % s))]⟩, ⟨66, 2, 0, true, [.b (decide (x < 0)), .n true .u64 (lm x)]⟩, ⟨66, 2, 0, true, [.b (decide (y < 0)), .n true .u64 (lm y)]⟩, ⟨66, 2, 0, true, [.b (decide ((wq 4 r s) < 0)), .n true .u64 (lm (wq 4 r s))]⟩, ⟨66, 2, 0, true, [.b (decide ((r % s) < 0)), .n true .u64 (lm (r % s))]⟩, ⟨66, 2, 0, true, [.b (decide ((x - (wq 4 r s) * y) < 0)), .n true .u64 (lm (x - (wq 4 r s) * y))]⟩] Q1 := by
            subst ho; subst hF
            refine ja_1 2 ?_ rfl (by kernel_rfl)
            refine js_st (sy_store rfl rfl rfl siz30 rfl rfl (Nat.le_of_ble_eq_true rfl)) rfl ?_
            refine ja_to (m := [(43, .a [.b (decide (y < 0)), .n true .u64 (lm y)]), (44, .a [.b (decide ((x - (wq 4 r s) * y) < 0)), .n true .u64 (lm (x - (wq 4 r s) * y))])]) (by decide) rfl (cov_n 2 rfl rfl (.cons rfl (.cons rfl .nil))) S8_1110
          have S8_1010 : JA Try.prog ops1 2 #[true, false, true, false] Γ ([(43, .a [.b (decide (y < 0)), .n true .u64 (lm y)])] ++ F0) [⟨66, 2, 0, true, [.b (decide (a < 0)), .n false .u64 (lm a)]⟩, ⟨66, 2, 0, true, [.b (decide (b < 0)), .n false .u64 (lm b)]⟩, ⟨66, 2, 0, true, [.b false, .c (.slice none 0 0)]⟩, ⟨66, 2, 0, true, [.b false, .c (.slice none 0 0)]⟩, ⟨66, 2, 1, true, [.b (decide (s < 0)), .n f2 .u64 (lm s)]⟩, ⟨66, 2, 1, true, [.b (decide ((r % s) < 0)), .n true .u64 (lm (r % s))]⟩, ⟨66, 2, 0, true, [.b (decide (y < 0)), .n true .u64 (lm y)]⟩, ⟨66, 2, 0, true, [.b (decide (y < 0)), .n true .u64 (lm y)]⟩, ⟨66, 2, 0, true, [.b (decide ((wq 4 r s) < 0)), .n true .u64 (lm (wq 4 r s))]⟩, ⟨66, 2, 0, true, [.b (decide ((r % s) < 0)), .n true .u64 (lm (r % s))]⟩, ⟨66, 2, 0, true, [.b (decide ((x - (wq 4 r s) * y) < 0)), .n true .u64 (lm (x - (wq 4 r s) * y))]⟩] Q1 := by
            subst ho; subst hF; refine ja_l2 1 [3] (lo_l (ly_lda agg30 rfl rfl rfl rfl) (hd 44 rfl)) rfl (by kernel_rfl) (by kernel_rfl) (by kernel_rfl) (by kernel_rfl) hpan ?_
            refine ja_to (m := [(43, .a [.b (decide (y < 0)), .n true .u64 (lm y)]), (44, .a [.b (decide ((x - (wq 4 r s) * y) < 0)), .n true .u64 (lm (x - (wq 4 r s) * y))])]) (by decide) rfl (cov_n 2 rfl rfl (.cons rfl (.cons rfl .nil))) S8_1110
          have S8_1000 : JA Try.prog ops1 3 #[true, false, false, false] Γ ([(43, .a [.b (decide (y < 0)), .n true .u64 (lm y)])] ++ F0) [⟨66, 2, 0, true, [.b (decide (a < 0)), .n false .u64 (lm a)]⟩, ⟨66, 2, 0, true, [.b (decide (b < 0)), .n false .u64 (lm b)]⟩, ⟨66, 2, 0, true, [.b false, .c (.slice none 0 0)]⟩, ⟨66, 2, 0, true, [.b false, .c (.slice none 0 0)]⟩, ⟨66, 2, 1, true, [.b (decide (s < 0)), .n f2 .u64 (lm s)]⟩, ⟨66, 2, 1, true, [.b (decide ((r % s) < 0)), .n true .u64 (lm (r % s))]⟩, ⟨66, 2, 0, true, [.b (decide (x < 0)), .n true .u64 (lm x)]⟩, ⟨66, 2, 0, true, [.b (decide (y < 0)), .n true .u64 (lm y)]⟩, ⟨66, 2, 0, true, [.b (decide ((wq 4 r s) < 0)), .n true .u64 (lm (wq 4 r s))]⟩, ⟨66, 2, 0, true, [.b (decide ((r % s) < 0)), .n true .u64 (lm (r % s))]⟩, ⟨66, 2, 0, true, [.b (decide ((x - (wq 4 r s) * y) < 0)), .n true .u64 (lm (x - (wq 4 r s) * y))]⟩] Q1 := by
            subst ho; subst hF
            refine ja_2 1 2 ?_ ?_ rfl rfl (by kernel_rfl)
            · refine js_l (ly_lda agg30 rfl rfl rfl rfl) (hd 44 rfl) ?_
              refine ja_to (m := [(43, .a [.b (decide (y < 0)), .n true .u64 (lm y)]), (44, .a [.b (decide ((x - (wq 4 r s) * y) < 0)), .n true .u64 (lm (x - (wq 4 r s) * y))])]) (by decide) rfl (cov_n 2 rfl rfl (.cons rfl (.cons rfl .nil))) S8_1100
            · refine js_st (sy_store rfl rfl rfl siz30 rfl rfl (Nat.le_of_ble_eq_true rfl)) rfl ?_
              refine ja_to (m := [(43, .a [.b (decide (y < 0)), .n true .u64 (lm y)])]) (by decide) rfl (cov_n 1 rfl rfl (.cons rfl .nil)) S8_1010
          have S8_0000 : JA Try.prog ops1 4 #[false, false, false, false] Γ ([] ++ F0) [⟨66, 2, 0, true, [.b (decide (a < 0)), .n false .u64 (lm a)]⟩, ⟨66, 2, 0, true, [.b (decide (b < 0)), .n false .u64 (lm b)]⟩, ⟨66, 2, 0, true, [.b false, .c (.slice none 0 0)]⟩, ⟨66, 2, 0, true, [.b false, .c (.slice none 0 0)]⟩, ⟨66, 2, 1, true, [.b (decide (s < 0)), .n f2 .u64 (lm s)]⟩, ⟨66, 2, 1, true, [.b (decide ((r % s) < 0)), .n true .u64 (lm (r % s))]⟩, ⟨66, 2, 0, true, [.b (decide (x < 0)), .n true .u64 (lm x)]⟩, ⟨66, 2, 0, true, [.b (decide (y < 0)), .n true .u64 (lm y)]⟩, ⟨66, 2, 0, true, [.b (decide ((wq 4 r s) < 0)), .n true .u64 (lm (wq 4 r s))]⟩, ⟨66, 2, 0, true, [.b (decide ((r % s) < 0)), .n true .u64 (lm (r % s))]⟩, ⟨66, 2, 0, true, [.b (decide ((x - (wq 4 r s) * y) < 0)), .n true .u64 (lm (x - (wq 4 r s) * y))]⟩] Q1 := by
            subst ho; subst hF; refine ja_l2 0 [2, 3] (lo_l (ly_lda agg30 rfl rfl rfl rfl) (hd 43 rfl)) rfl (by kernel_rfl) (by kernel_rfl) (by kernel_rfl) (by kernel_rfl) hpan ?_
            refine ja_to (m := [(43, .a [.b (decide (y < 0)), .n true .u64 (lm y)])]) (by decide) rfl (cov_n 1 rfl rfl (.cons rfl .nil)) S8_1000
          subst ho; subst hF
          exact ja_to (m := []) (by decide) rfl (cov_n 0 rfl rfl .nil) S8_0000
        have S5_1110 : JA Try.prog ops1 1 #[true, true, true, false] Γ ([(29, .a [.b (decide (s < 0)), .n f2 .u64 (lm s)]), (30, .a [.b (decide ((r % s) < 0)), .n true .u64 (lm (r % s))])] ++ F0) [⟨66, 2, 0, true, [.b (decide (a < 0)), .n false .u64 (lm a)]⟩, ⟨66, 2, 0, true, [.b (decide (b < 0)), .n false .u64 (lm b)]⟩, ⟨66, 2, 0, true, [.b false, .c (.slice none 0 0)]⟩, ⟨66, 2, 0, true, [.b false, .c (.slice none 0 0)]⟩, ⟨66, 2, 1, true, [.b (decide (s < 0)), .n f2 .u64 (lm s)]⟩, ⟨66, 2, 1, true, [.b (decide (s < 0)), .n f2 .u64 (lm s)]⟩, ⟨66, 2, 0, true, [.b (decide (x < 0)), .n true .u64 (lm x)]⟩, ⟨66, 2, 0, true, [.b (decide (y < 0)), .n true .u64 (lm y)]⟩, ⟨66, 2, 0, true, [.b (decide ((wq 4 r s) < 0)), .n true .u64 (lm (wq 4 r s))]⟩, ⟨66, 2, 0, true, [.b (decide ((r % s) < 0)), .n true .u64 (lm (r % s))]⟩] Q1 := by
          subst ho; subst hF
          refine ja_1 3 ?_ rfl (by kernel_rfl)
          refine js_st (sy_store rfl rfl rfl siz30 rfl rfl (Nat.le_of_ble_eq_true rfl)) rfl ?_
          refine ja_to (m := [(29, .a [.b (decide (s < 0)), .n f2 .u64 (lm s)]), (30, .a [.b (decide ((r % s) < 0)), .n true .u64 (lm (r % s))])]) (by decide) rfl (cov_n 2 rfl rfl (.cons rfl (.cons rfl .nil))) S5_1111
        have S5_1100 : JA Try.prog ops1 2 #[true, true, false, false] Γ ([(29, .a [.b (decide (s < 0)), .n f2 .u64 (lm s)]), (30, .a [.b (decide ((r % s) < 0)), .n true .u64 (lm (r % s))])] ++ F0) [⟨66, 2, 0, true, [.b (decide (a < 0)), .n false .u64 (lm a)]⟩, ⟨66, 2, 0, true, [.b (decide (b < 0)), .n false .u64 (lm b)]⟩, ⟨66, 2, 0, true, [.b false, .c (.slice none 0 0)]⟩, ⟨66, 2, 0, true, [.b false, .c (.slice none 0 0)]⟩, ⟨66, 2, 1, true, [.b (decide (r < 0)), .n f1 .u64 (lm r)]⟩, ⟨66, 2, 1, true, [.b (decide (s < 0)), .n f2 .u64 (lm s)]⟩, ⟨66, 2, 0, true, [.b (decide (x < 0)), .n true .u64 (lm x)]⟩, ⟨66, 2, 0, true, [.b (decide (y < 0)), .n true .u64 (lm y)]⟩, ⟨66, 2, 0, true, [.b (decide ((wq 4 r s) < 0)), .n true .u64 (lm (wq 4 r s))]⟩, ⟨66, 2, 0, true, [.b (decide ((r % s) < 0)), .n true .u64 (lm (r % s))]⟩] Q1 := by
          subst ho; subst hF
          refine ja_1 2 ?_ rfl (by kernel_rfl)
          refine js_st (sy_store rfl rfl rfl siz30 rfl rfl (Nat.le_of_ble_eq_true rfl)) rfl ?_
          refine ja_to (m := [(29, .a [.b (decide (s < 0)), .n f2 .u64 (lm s)]), (30, .a [.b (decide ((r % s) < 0)), .n true .u64 (lm (r % s))])]) (by decide) rfl (cov_n 2 rfl rfl (.cons rfl (.cons rfl .nil))) S5_1110
        have S5_1010 : JA Try.prog ops1 2 #[true, false, true, false] Γ ([(29, .a [.b (decide (s < 0)), .n f2 .u64 (lm s)])] ++ F0) [⟨66, 2, 0, true, [.b (decide (a < 0)), .n false .u64 (lm a)]⟩, ⟨66, 2, 0, true, [.b (decide (b < 0)), .n false .u64 (lm b)]⟩, ⟨66, 2, 0, true, [.b false, .c (.slice none 0 0)]⟩, ⟨66, 2, 0, true, [.b false, .c (.slice none 0 0)]⟩, ⟨66, 2, 1, true, [.b (decide (s < 0)), .n f2 .u64 (lm s)]⟩, ⟨66, 2, 1, true, [.b (decide (s < 0)), .n f2 .u64 (lm s)]⟩, ⟨66, 2, 0, true, [.b (decide (x < 0)), .n true .u64 (lm x)]⟩, ⟨66, 2, 0, true, [.b (decide (y < 0)), .n true .u64 (lm y)]⟩, ⟨66, 2, 0, true, [.b (decide ((wq 4 r s) < 0)), .n true .u64 (lm (wq 4 r s))]⟩, ⟨66, 2, 0, true, [.b (decide ((r % s) < 0)), .n true .u64 (lm (r % s))]⟩] Q1 := by
          subst ho; subst hF; refine ja_l2 1 [3] (lo_l (ly_lda agg30 rfl rfl rfl rfl) (hd 30 rfl)) rfl (by kernel_rfl) (by kernel_rfl) (by kernel_rfl) (by kernel_rfl) hpan ?_
          refine ja_to (m := [(29, .a [.b (decide (s < 0)), .n f2 .u64 (lm s)]), (30, .a [.b (decide ((r % s) < 0)), .n true .u64 (lm (r % s))])]) (by decide) rfl (cov_n 2 rfl rfl (.cons rfl (.cons rfl .nil))) S5_1110
        have S5_1000 : JA Try.prog ops1 3 #[true, false, false, false] Γ ([(29, .a [.b (decide (s < 0)), .n f2 .u64 (lm s)])] ++ F0) [⟨66, 2, 0, true, [.b (decide (a < 0)), .n false .u64 (lm a)]⟩, ⟨66, 2, 0, true, [.b (decide (b < 0)), .n false .u64 (lm b)]⟩, ⟨66, 2, 0, true, [.b false, .c (.slice none 0 0)]⟩, ⟨66, 2, 0, true, [.b false, .c (.slice none 0 0)]⟩, ⟨66, 2, 1, true, [.b (decide (r < 0)), .n f1 .u64 (lm r)]⟩, ⟨66, 2, 1, true, [.b (decide (s < 0)), .n f2 .u64 (lm s)]⟩, ⟨66, 2, 0, true, [.b (decide (x < 0)), .n true .u64 (lm x)]⟩, ⟨66, 2, 0, true, [.b (decide (y < 0)), .n true .u64 (lm y)]⟩, ⟨66, 2, 0, true, [.b (decide ((wq 4 r s) < 0)), .n true .u64 (lm (wq 4 r s))]⟩, ⟨66, 2, 0, true, [.b (decide ((r % s) < 0)), .n true .u64 (lm (r % s))]⟩] Q1 := by
          subst ho; subst hF
          refine ja_2 1 2 ?_ ?_ rfl rfl (by kernel_rfl)
          · refine js_l (ly_lda agg30 rfl rfl rfl rfl) (hd 30 rfl) ?_
            refine ja_to (m := [(29, .a [.b (decide (s < 0)), .n f2 .u64 (lm s)]), (30, .a [.b (decide ((r % s) < 0)), .n true .u64 (lm (r % s))])]) (by decide) rfl (cov_n 2 rfl rfl (.cons rfl (.cons rfl .nil))) S5_1100
          · refine js_st (sy_store rfl rfl rfl siz30 rfl rfl (Nat.le_of_ble_eq_true rfl)) rfl ?_
            refine ja_to (m := [(29, .a [.b (decide (s < 0)), .n f2 .u64 (lm s)])]) (by decide) rfl (cov_n 1 rfl rfl (.cons rfl .nil)) S5_1010
        have S5_0000 : JA Try.prog ops1 4 #[false, false, false, false] Γ ([] ++ F0) [⟨66, 2, 0, true, [.b (decide (a < 0)), .n false .u64 (lm a)]⟩, ⟨66, 2, 0, true, [.b (decide (b < 0)), .n false .u64 (lm b)]⟩, ⟨66, 2, 0, true, [.b false, .c (.slice none 0 0)]⟩, ⟨66, 2, 0, true, [.b false, .c (.slice none 0 0)]⟩, ⟨66, 2, 1, true, [.b (decide (r < 0)), .n f1 .u64 (lm r)]⟩, ⟨66, 2, 1, true, [.b (decide (s < 0)), .n f2 .u64 (lm s)]⟩, ⟨66, 2, 0, true, [.b (decide (x < 0)), .n true .u64 (lm x)]⟩, ⟨66, 2, 0, true, [.b (decide (y < 0)), .n true .u64 (lm y)]⟩, ⟨66, 2, 0, true, [.b (decide ((wq 4 r s) < 0)), .n true .u64 (lm (wq 4 r s))]⟩, ⟨66, 2, 0, true, [.b (decide ((r % s) < 0)), .n true .u64 (lm (r % s))]⟩] Q1 := by
          subst ho; subst hF; refine ja_l2 0 [2, 3] (lo_l (ly_lda agg30 rfl rfl rfl rfl) (hd 29 rfl)) rfl (by kernel_rfl) (by kernel_rfl) (by kernel_rfl) (by kernel_rfl) hpan ?_
          refine ja_to (m := [(29, .a [.b (decide (s < 0)), .n f2 .u64 (lm s)])]) (by decide) rfl (cov_n 1 rfl rfl (.cons rfl .nil)) S5_1000
        subst ho; subst hF
        exact ja_to (m := []) (by decide) rfl (cov_n 0 rfl rfl .nil) S5_0000
      · have hs : s = 0 := sgnI_0.1 (Decidable.not_not.1 h1)
        subst hs; refine jc_exit ?_
        refine jc_meet (G := Int × Int × Bool) (fun g => CoE a b g.1 g.2.1) (fun g => [(45, .u), (46, .u), (47, .u), (48, .u), (49, .u), (50, .u), (51, .u)]) (fun g => [⟨66, 2, 0, true, [.b (decide (a < 0)), .n false .u64 (lm a)]⟩, ⟨66, 2, 0, true, [.b (decide (b < 0)), .n false .u64 (lm b)]⟩, ⟨66, 2, 0, true, [.b false, .c (.slice none 0 0)]⟩, ⟨66, 2, 0, true, [.b false, .c (.slice none 0 0)]⟩, ⟨66, 2, 1, true, [.b (decide (g.1 < 0)), .n g.2.2 .u64 (lm g.1)]⟩, ⟨66, 2, 1, true, [.b (decide (0 < 0)), .n f2 .u64 (lm 0)]⟩, ⟨66, 2, 0, true, [.b (decide (g.2.1 < 0)), .n true .u64 (lm g.2.1)]⟩, ⟨66, 2, 0, true, [.b (decide (y < 0)), .n true .u64 (lm y)]⟩]) ?_ ?_
        · refine jc_seq ?_; refine jc_region ?_; refine jo_l (ly_lda agg30 rfl rfl rfl rfl) (hd 45 rfl) ?_
          refine jo_call Try.f83 (WSign_v' r (by omega)) rfl Try.func83 rfl rfl (ovL_cons rfl ovL_nil) (.cons (.a1 .b (.a1 .n .a0)) .nil) (hd 46 rfl) ?_ (fun ch hp => by simp at hp)
          rintro y hy; injection hy with hy; subst hy; refine jo_l (ly_lt rfl rfl) (hd 47 rfl) ?_; refine jo_nil ?_
          refine jc_if rfl (fun h2 => ?_) (fun h2 => ?_)
          · refine jc_draw (n := 6) _ rfl mixed ?_; refine ja_gen (fun _ _ _ _ h => h) fun ops1 Q1 F0 hpan ho hq hF => ?_
            have S10_111111 : JA Try.prog ops1 0 #[true, true, true, true, true, true] Γ ([(48, .a [.b (decide (r < 0)), .n f1 .u64 (lm r)]), (49, .a [.b (decide ((-r) < 0)), .n true .u64 (lm (-r))]), (50, .a [.b (decide (x < 0)), .n true .u64 (lm x)]), (51, .a [.b (decide ((-x) < 0)), .n true .u64 (lm (-x))])] ++ F0) [⟨66, 2, 0, true, [.b (decide (a < 0)), .n false .u64 (lm a)]⟩, ⟨66, 2, 0, true, [.b (decide (b < 0)), .n false .u64 (lm b)]⟩, ⟨66, 2, 0, true, [.b false, .c (.slice none 0 0)]⟩, ⟨66, 2, 0, true, [.b false, .c (.slice none 0 0)]⟩, ⟨66, 2, 1, true, [.b (decide ((-r) < 0)), .n true .u64 (lm (-r))]⟩, ⟨66, 2, 1, true, [.b (decide (0 < 0)), .n f2 .u64 (lm 0)]⟩, ⟨66, 2, 0, true, [.b (decide ((-x) < 0)), .n true .u64 (lm (-x))]⟩, ⟨66, 2, 0, true, [.b (decide (y < 0)), .n true .u64 (lm y)]⟩] Q1 := by
              subst ho; subst hq; subst hF; refine ja_nil (by kernel_rfl) ?_
              refine ⟨(-r, -x, true), ?_, rfl, cov_n 7 rfl rfl ?_⟩
              · exact hC.neg (by rcases sgn_cases (x := r) with ⟨h, e⟩ | ⟨h, e⟩ | ⟨h, e⟩ <;> omega)
              · exact (.u (.u (.u (.u (.u (.u (.u .nil)))))))
            have S10_111110 : JA Try.prog ops1 1 #[true, true, true, true, true, false] Γ ([(48, .a [.b (decide (r < 0)), .n f1 .u64 (lm r)]), (49, .a [.b (decide ((-r) < 0)), .n true .u64 (lm (-r))]), (50, .a [.b (decide (x < 0)), .n true .u64 (lm x)]), (51, .a [.b (decide ((-x) < 0)), .n true .u64 (lm (-x))])] ++ F0) [⟨66, 2, 0, true, [.b (decide (a < 0)), .n false .u64 (lm a)]⟩, ⟨66, 2, 0, true, [.b (decide (b < 0)), .n false .u64 (lm b)]⟩, ⟨66, 2, 0, true, [.b false, .c (.slice none 0 0)]⟩, ⟨66, 2, 0, true, [.b false, .c (.slice none 0 0)]⟩, ⟨66, 2, 1, true, [.b (decide ((-r) < 0)), .n true .u64 (lm (-r))]⟩, ⟨66, 2, 1, true, [.b (decide (0 < 0)), .n f2 .u64 (lm 0)]⟩, ⟨66, 2, 0, true, [.b (decide (x < 0)), .n true .u64 (lm x)]⟩, ⟨66, 2, 0, true, [.b (decide (y < 0)), .n true .u64 (lm y)]⟩] Q1 := by
              subst ho; subst hF
              refine ja_1 5 ?_ rfl (by kernel_rfl)
              refine js_st (sy_store rfl rfl rfl siz30 rfl rfl (Nat.le_of_ble_eq_true rfl)) rfl ?_
              refine ja_to (m := [(48, .a [.b (decide (r < 0)), .n f1 .u64 (lm r)]), (49, .a [.b (decide ((-r) < 0)), .n true .u64 (lm (-r))]), (50, .a [.b (decide (x < 0)), .n true .u64 (lm x)]), (51, .a [.b (decide ((-x) < 0)), .n true .u64 (lm (-x))])]) (by decide) rfl (cov_n 4 rfl rfl (.cons rfl (.cons rfl (.cons rfl (.cons rfl .nil))))) S10_111111
            have S10_111100 : JA Try.prog ops1 2 #[true, true, true, true, false, false] Γ ([(48, .a [.b (decide (r < 0)), .n f1 .u64 (lm r)]), (49, .a [.b (decide ((-r) < 0)), .n true .u64 (lm (-r))]), (50, .a [.b (decide (x < 0)), .n true .u64 (lm x)]), (51, .a [.b (decide ((-x) < 0)), .n true .u64 (lm (-x))])] ++ F0) [⟨66, 2, 0, true, [.b (decide (a < 0)), .n false .u64 (lm a)]⟩, ⟨66, 2, 0, true, [.b (decide (b < 0)), .n false .u64 (lm b)]⟩, ⟨66, 2, 0, true, [.b false, .c (.slice none 0 0)]⟩, ⟨66, 2, 0, true, [.b false, .c (.slice none 0 0)]⟩, ⟨66, 2, 1, true, [.b (decide (r < 0)), .n f1 .u64 (lm r)]⟩, ⟨66, 2, 1, true, [.b (decide (0 < 0)), .n f2 .u64 (lm 0)]⟩, ⟨66, 2, 0, true, [.b (decide (x < 0)), .n true .u64 (lm x)]⟩, ⟨66, 2, 0, true, [.b (decide (y < 0)), .n true .u64 (lm y)]⟩] Q1 := by
              subst ho; subst hF
              refine ja_1 4 ?_ rfl (by kernel_rfl)
              refine js_st (sy_store rfl rfl rfl siz30 rfl rfl (Nat.le_of_ble_eq_true rfl)) rfl ?_
              refine ja_to (m := [(48, .a [.b (decide (r < 0)), .n f1 .u64 (lm r)]), (49, .a [.b (decide ((-r) < 0)), .n true .u64 (lm (-r))]), (50, .a [.b (decide (x < 0)), .n true .u64 (lm x)]), (51, .a [.b (decide ((-x) < 0)), .n true .u64 (lm (-x))])]) (by decide) rfl (cov_n 4 rfl rfl (.cons rfl (.cons rfl (.cons rfl (.cons rfl .nil))))) S10_111110
            have S10_111000 : JA Try.prog ops1 3 #[true, true, true, false, false, false] Γ ([(48, .a [.b (decide (r < 0)), .n f1 .u64 (lm r)]), (49, .a [.b (decide ((-r) < 0)), .n true .u64 (lm (-r))]), (50, .a [.b (decide (x < 0)), .n true .u64 (lm x)])] ++ F0) [⟨66, 2, 0, true, [.b (decide (a < 0)), .n false .u64 (lm a)]⟩, ⟨66, 2, 0, true, [.b (decide (b < 0)), .n false .u64 (lm b)]⟩, ⟨66, 2, 0, true, [.b false, .c (.slice none 0 0)]⟩, ⟨66, 2, 0, true, [.b false, .c (.slice none 0 0)]⟩, ⟨66, 2, 1, true, [.b (decide (r < 0)), .n f1 .u64 (lm r)]⟩, ⟨66, 2, 1, true, [.b (decide (0 < 0)), .n f2 .u64 (lm 0)]⟩, ⟨66, 2, 0, true, [.b (decide (x < 0)), .n true .u64 (lm x)]⟩, ⟨66, 2, 0, true, [.b (decide (y < 0)), .n true .u64 (lm y)]⟩] Q1 := by
              subst ho; subst hF
              refine ja_1 3 ?_ rfl (by kernel_rfl)
              refine js_call Try.f101 (flip_v x (by omega)) rfl Try.func101 rfl rfl (ovL_cons rfl ovL_nil) (.cons (.a1 .b (.a1 .n .a0)) .nil) (hd 51 rfl) ?_ (fun ch hp => by simp at hp)
              rintro y hy; injection hy with hy; subst hy
              refine ja_to (m := [(48, .a [.b (decide (r < 0)), .n f1 .u64 (lm r)]), (49, .a [.b (decide ((-r) < 0)), .n true .u64 (lm (-r))]), (50, .a [.b (decide (x < 0)), .n true .u64 (lm x)]), (51, .a [.b (decide ((-x) < 0)), .n true .u64 (lm (-x))])]) (by decide) rfl (cov_n 4 rfl rfl (.cons rfl (.cons rfl (.cons rfl (.cons rfl .nil))))) S10_111100
            have S10_101000 : JA Try.prog ops1 4 #[true, false, true, false, false, false] Γ ([(48, .a [.b (decide (r < 0)), .n f1 .u64 (lm r)]), (50, .a [.b (decide (x < 0)), .n true .u64 (lm x)])] ++ F0) [⟨66, 2, 0, true, [.b (decide (a < 0)), .n false .u64 (lm a)]⟩, ⟨66, 2, 0, true, [.b (decide (b < 0)), .n false .u64 (lm b)]⟩, ⟨66, 2, 0, true, [.b false, .c (.slice none 0 0)]⟩, ⟨66, 2, 0, true, [.b false, .c (.slice none 0 0)]⟩, ⟨66, 2, 1, true, [.b (decide (r < 0)), .n f1 .u64 (lm r)]⟩, ⟨66, 2, 1, true, [.b (decide (0 < 0)), .n f2 .u64 (lm 0)]⟩, ⟨66, 2, 0, true, [.b (decide (x < 0)), .n true .u64 (lm x)]⟩, ⟨66, 2, 0, true, [.b (decide (y < 0)), .n true .u64 (lm y)]⟩] Q1 := by
              subst ho; subst hF
              refine ja_1 1 ?_ rfl (by kernel_rfl)
              refine js_call Try.f101 (flip_v r (by omega)) rfl Try.func101 rfl rfl (ovL_cons rfl ovL_nil) (.cons (.a1 .b (.a1 .n .a0)) .nil) (hd 49 rfl) ?_ (fun ch hp => by simp at hp)
              rintro y hy; injection hy with hy; subst hy
              refine ja_to (m := [(48, .a [.b (decide (r < 0)), .n f1 .u64 (lm r)]), (49, .a [.b (decide ((-r) < 0)), .n true .u64 (lm (-r))]), (50, .a [.b (decide (x < 0)), .n true .u64 (lm x)])]) (by decide) rfl (cov_n 3 rfl rfl (.cons rfl (.cons rfl (.cons rfl .nil)))) S10_111000
            have S10_100000 : JA Try.prog ops1 5 #[true, false, false, false, false, false] Γ ([(48, .a [.b (decide (r < 0)), .n f1 .u64 (lm r)])] ++ F0) [⟨66, 2, 0, true, [.b (decide (a < 0)), .n false .u64 (lm a)]⟩, ⟨66, 2, 0, true, [.b (decide (b < 0)), .n false .u64 (lm b)]⟩, ⟨66, 2, 0, true, [.b false, .c (.slice none 0 0)]⟩, ⟨66, 2, 0, true, [.b false, .c (.slice none 0 0)]⟩, ⟨66, 2, 1, true, [.b (decide (r < 0)), .n f1 .u64 (lm r)]⟩, ⟨66, 2, 1, true, [.b (decide (0 < 0)), .n f2 .u64 (lm 0)]⟩, ⟨66, 2, 0, true, [.b (decide (x < 0)), .n true .u64 (lm x)]⟩, ⟨66, 2, 0, true, [.b (decide (y < 0)), .n true .u64 (lm y)]⟩] Q1 := by
              subst ho; subst hF; refine ja_l2 2 [3, 4, 5] (lo_l (ly_lda agg30 rfl rfl rfl rfl) (hd 50 rfl)) rfl (by kernel_rfl) (by kernel_rfl) (by kernel_rfl) (by kernel_rfl) hpan ?_
              refine ja_to (m := [(48, .a [.b (decide (r < 0)), .n f1 .u64 (lm r)]), (50, .a [.b (decide (x < 0)), .n true .u64 (lm x)])]) (by decide) rfl (cov_n 2 rfl rfl (.cons rfl (.cons rfl .nil))) S10_101000
            have S10_000000 : JA Try.prog ops1 6 #[false, false, false, false, false, false] Γ ([] ++ F0) [⟨66, 2, 0, true, [.b (decide (a < 0)), .n false .u64 (lm a)]⟩, ⟨66, 2, 0, true, [.b (decide (b < 0)), .n false .u64 (lm b)]⟩, ⟨66, 2, 0, true, [.b false, .c (.slice none 0 0)]⟩, ⟨66, 2, 0, true, [.b false, .c (.slice none 0 0)]⟩, ⟨66, 2, 1, true, [.b (decide (r < 0)), .n f1 .u64 (lm r)]⟩, ⟨66, 2, 1, true, [.b (decide (0 < 0)), .n f2 .u64 (lm 0)]⟩, ⟨66, 2, 0, true, [.b (decide (x < 0)), .n true .u64 (lm x)]⟩, ⟨66, 2, 0, true, [.b (decide (y < 0)), .n true .u64 (lm y)]⟩] Q1 := by
              subst ho; subst hF; refine ja_l2 0 [1, 3, 4, 5] (lo_l (ly_lda agg30 rfl rfl rfl rfl) (hd 48 rfl)) rfl (by kernel_rfl) (by kernel_rfl) (by kernel_rfl) (by kernel_rfl) hpan ?_
              refine ja_to (m := [(48, .a [.b (decide (r < 0)), .n f1 .u64 (lm r)])]) (by decide) rfl (cov_n 1 rfl rfl (.cons rfl .nil)) S10_100000
            subst ho; subst hF
            exact ja_to (m := []) (by decide) rfl (cov_n 0 rfl rfl .nil) S10_000000
          · refine jc_skip ?_
            refine ⟨(r, x, f1), ?_, rfl, cov_n 3 rfl rfl ?_⟩
            · exact hC.pos (by rcases sgn_cases (x := r) with ⟨h, e⟩ | ⟨h, e⟩ | ⟨h, e⟩ <;> omega)
            · exact (.u (.u (.u (.u (.u (.u (.u .nil)))))))
        · rintro ⟨g, z, f⟩ hE
          dsimp only at hE
          refine jc_seq ?_; refine jc_draw (n := 4) _ rfl mixed ?_; refine ja_gen (fun _ _ _ _ h => h) fun ops1 Q1 F0 hpan ho hq hF => ?_
          have S11_1111 : JA Try.prog ops1 0 #[true, true, true, true] Γ ([(52, .a [.b (decide (g < 0)), .n f .u64 (lm g)]), (53, .a [.b (decide (z < 0)), .n true .u64 (lm z)])] ++ F0) [⟨66, 2, 0, true, [.b (decide (a < 0)), .n false .u64 (lm a)]⟩, ⟨66, 2, 0, true, [.b (decide (b < 0)), .n false .u64 (lm b)]⟩, ⟨66, 2, 0, true, [.b (decide (g < 0)), .n f .u64 (lm g)]⟩, ⟨66, 2, 0, true, [.b (decide (z < 0)), .n true .u64 (lm z)]⟩, ⟨66, 2, 1, true, [.b (decide (g < 0)), .n f .u64 (lm g)]⟩, ⟨66, 2, 1, true, [.b (decide (0 < 0)), .n f2 .u64 (lm 0)]⟩, ⟨66, 2, 0, true, [.b (decide (z < 0)), .n true .u64 (lm z)]⟩, ⟨66, 2, 0, true, [.b (decide (y < 0)), .n true .u64 (lm y)]⟩] Q1 := by
            subst ho; subst hq; subst hF; refine ja_nil (by kernel_rfl) ?_; refine jc_ret ?_
            refine ⟨_, _, (.cons (ResV.cell agg30 rfl rfl rfl rfl) (.cons (ResV.cell agg30 rfl rfl rfl rfl) .nil)), (.t1 (.a1 .b (.a1 .nn .a0)) (.t1 (.a1 .b (.a1 .nn .a0)) .t0)), ?_⟩
            exact ⟨g, z, rfl, hE⟩
          have S11_1110 : JA Try.prog ops1 1 #[true, true, true, false] Γ ([(52, .a [.b (decide (g < 0)), .n f .u64 (lm g)]), (53, .a [.b (decide (z < 0)), .n true .u64 (lm z)])] ++ F0) [⟨66, 2, 0, true, [.b (decide (a < 0)), .n false .u64 (lm a)]⟩, ⟨66, 2, 0, true, [.b (decide (b < 0)), .n false .u64 (lm b)]⟩, ⟨66, 2, 0, true, [.b (decide (g < 0)), .n f .u64 (lm g)]⟩, ⟨66, 2, 0, true, [.b false, .c (.slice none 0 0)]⟩, ⟨66, 2, 1, true, [.b (decide (g < 0)), .n f .u64 (lm g)]⟩, ⟨66, 2, 1, true, [.b (decide (0 < 0)), .n f2 .u64 (lm 0)]⟩, ⟨66, 2, 0, true, [.b (decide (z < 0)), .n true .u64 (lm z)]⟩, ⟨66, 2, 0, true, [.b (decide (y < 0)), .n true .u64 (lm y)]⟩] Q1 := by
            subst ho; subst hF
            refine ja_1 3 ?_ rfl (by kernel_rfl)
            refine js_st (sy_store rfl rfl rfl siz30 rfl rfl (Nat.le_of_ble_eq_true rfl)) rfl ?_
            refine ja_to (m := [(52, .a [.b (decide (g < 0)), .n f .u64 (lm g)]), (53, .a [.b (decide (z < 0)), .n true .u64 (lm z)])]) (by decide) rfl (cov_n 2 rfl rfl (.cons rfl (.cons rfl .nil))) S11_1111
          have S11_1100 : JA Try.prog ops1 2 #[true, true, false, false] Γ ([(52, .a [.b (decide (g < 0)), .n f .u64 (lm g)]), (53, .a [.b (decide (z < 0)), .n true .u64 (lm z)])] ++ F0) [⟨66, 2, 0, true, [.b (decide (a < 0)), .n false .u64 (lm a)]⟩, ⟨66, 2, 0, true, [.b (decide (b < 0)), .n false .u64 (lm b)]⟩, ⟨66, 2, 0, true, [.b false, .c (.slice none 0 0)]⟩, ⟨66, 2, 0, true, [.b false, .c (.slice none 0 0)]⟩, ⟨66, 2, 1, true, [.b (decide (g < 0)), .n f .u64 (lm g)]⟩, ⟨66, 2, 1, true, [.b (decide (0 < 0)), .n f2 .u64 (lm 0)]⟩, ⟨66, 2, 0, true, [.b (decide (z < 0)), .n true .u64 (lm z)]⟩, ⟨66, 2, 0, true, [.b (decide (y < 0)), .n true .u64 (lm y)]⟩] Q1 := by
            subst ho; subst hF
            refine ja_1 2 ?_ rfl (by kernel_rfl)
            refine js_st (sy_store rfl rfl rfl siz30 rfl rfl (Nat.le_of_ble_eq_true rfl)) rfl ?_
            refine ja_to (m := [(52, .a [.b (decide (g < 0)), .n f .u64 (lm g)]), (53, .a [.b (decide (z < 0)), .n true .u64 (lm z)])]) (by decide) rfl (cov_n 2 rfl rfl (.cons rfl (.cons rfl .nil))) S11_1110
          have S11_1010 : JA Try.prog ops1 2 #[true, false, true, false] Γ ([(52, .a [.b (decide (g < 0)), .n f .u64 (lm g)])] ++ F0) [⟨66, 2, 0, true, [.b (decide (a < 0)), .n false .u64 (lm a)]⟩, ⟨66, 2, 0, true, [.b (decide (b < 0)), .n false .u64 (lm b)]⟩, ⟨66, 2, 0, true, [.b (decide (g < 0)), .n f .u64 (lm g)]⟩, ⟨66, 2, 0, true, [.b false, .c (.slice none 0 0)]⟩, ⟨66, 2, 1, true, [.b (decide (g < 0)), .n f .u64 (lm g)]⟩, ⟨66, 2, 1, true, [.b (decide (0 < 0)), .n f2 .u64 (lm 0)]⟩, ⟨66, 2, 0, true, [.b (decide (z < 0)), .n true .u64 (lm z)]⟩, ⟨66, 2, 0, true, [.b (decide (y < 0)), .n true .u64 (lm y)]⟩] Q1 := by
            subst ho; subst hF; refine ja_l2 1 [3] (lo_l (ly_lda agg30 rfl rfl rfl rfl) (hd 53 rfl)) rfl (by kernel_rfl) (by kernel_rfl) (by kernel_rfl) (by kernel_rfl) hpan ?_
            refine ja_to (m := [(52, .a [.b (decide (g < 0)), .n f .u64 (lm g)]), (53, .a [.b (decide (z < 0)), .n true .u64 (lm z)])]) (by decide) rfl (cov_n 2 rfl rfl (.cons rfl (.cons rfl .nil))) S11_1110
          have S11_1000 : JA Try.prog ops1 3 #[true, false, false, false] Γ ([(52, .a [.b (decide (g < 0)), .n f .u64 (lm g)])] ++ F0) [⟨66, 2, 0, true, [.b (decide (a < 0)), .n false .u64 (lm a)]⟩, ⟨66, 2, 0, true, [.b (decide (b < 0)), .n false .u64 (lm b)]⟩, ⟨66, 2, 0, true, [.b false, .c (.slice none 0 0)]⟩, ⟨66, 2, 0, true, [.b false, .c (.slice none 0 0)]⟩, ⟨66, 2, 1, true, [.b (decide (g < 0)), .n f .u64 (lm g)]⟩, ⟨66, 2, 1, true, [.b (decide (0 < 0)), .n f2 .u64 (lm 0)]⟩, ⟨66, 2, 0, true, [.b (decide (z < 0)), .n true .u64 (lm z)]⟩, ⟨66, 2, 0, true, [.b (decide (y < 0)), .n true .u64 (lm y)]⟩] Q1 := by
            subst ho; subst hF
            refine ja_2 1 2 ?_ ?_ rfl rfl (by kernel_rfl)
            · refine js_l (ly_lda agg30 rfl rfl rfl rfl) (hd 53 rfl) ?_
              refine ja_to (m := [(52, .a [.b (decide (g < 0)), .n f .u64 (lm g)]), (53, .a [.b (decide (z < 0)), .n true .u64 (lm z)])]) (by decide) rfl (cov_n 2 rfl rfl (.cons rfl (.cons rfl .nil))) S11_1100
            · refine js_st (sy_store rfl rfl rfl siz30 rfl rfl (Nat.le_of_ble_eq_true rfl)) rfl ?_
              refine ja_to (m := [(52, .a [.b (decide (g < 0)), .n f .u64 (lm g)])]) (by decide) rfl (cov_n 1 rfl rfl (.cons rfl .nil)) S11_1010
          have S11_0000 : JA Try.prog ops1 4 #[false, false, false, false] Γ ([] ++ F0) [⟨66, 2, 0, true, [.b (decide (a < 0)), .n false .u64 (lm a)]⟩, ⟨66, 2, 0, true, [.b (decide (b < 0)), .n false .u64 (lm b)]⟩, ⟨66, 2, 0, true, [.b false, .c (.slice none 0 0)]⟩, ⟨66, 2, 0, true, [.b false, .c (.slice none 0 0)]⟩, ⟨66, 2, 1, true, [.b (decide (g < 0)), .n f .u64 (lm g)]⟩, ⟨66, 2, 1, true, [.b (decide (0 < 0)), .n f2 .u64 (lm 0)]⟩, ⟨66, 2, 0, true, [.b (decide (z < 0)), .n true .u64 (lm z)]⟩, ⟨66, 2, 0, true, [.b (decide (y < 0)), .n true .u64 (lm y)]⟩] Q1 := by
            subst ho; subst hF; refine ja_l2 0 [2, 3] (lo_l (ly_lda agg30 rfl rfl rfl rfl) (hd 52 rfl)) rfl (by kernel_rfl) (by kernel_rfl) (by kernel_rfl) (by kernel_rfl) hpan ?_
            refine ja_to (m := [(52, .a [.b (decide (g < 0)), .n f .u64 (lm g)])]) (by decide) rfl (cov_n 1 rfl rfl (.cons rfl .nil)) S11_1000
          subst ho; subst hF
          exact ja_to (m := []) (by decide) rfl (cov_n 0 rfl rfl .nil) S11_0000
  have S1_111110 : JA Try.prog ops1 1 #[true, true, true, true, true, false] Γ ([(6, .p 4 1 0), (7, .p 5 1 0), (15, .a [.b (decide (a < 0)), .n false .u64 (lm a)]), (16, .a [.b (decide (b < 0)), .n false .u64 (lm b)])] ++ F0) [⟨66, 2, 0, true, [.b (decide (a < 0)), .n false .u64 (lm a)]⟩, ⟨66, 2, 0, true, [.b (decide (b < 0)), .n false .u64 (lm b)]⟩, ⟨66, 2, 0, true, [.b false, .c (.slice none 0 0)]⟩, ⟨66, 2, 0, true, [.b false, .c (.slice none 0 0)]⟩, ⟨66, 2, 1, true, [.b (decide (a < 0)), .n false .u64 (lm a)]⟩, ⟨66, 2, 1, true, [.b false, .c (.slice none 0 0)]⟩] Q1 := by
    subst ho; subst hF
    refine ja_1 5 ?_ rfl (by kernel_rfl)
    refine js_st (sy_store rfl rfl rfl siz30 rfl rfl (Nat.le_of_ble_eq_true rfl)) rfl ?_
    refine ja_to (m := [(6, .p 4 1 0), (7, .p 5 1 0), (15, .a [.b (decide (a < 0)), .n false .u64 (lm a)]), (16, .a [.b (decide (b < 0)), .n false .u64 (lm b)])]) (by decide) rfl (cov_n 4 rfl rfl (.cons rfl (.cons rfl (.cons rfl (.cons rfl .nil))))) S1_111111
  have S1_111100 : JA Try.prog ops1 2 #[true, true, true, true, false, false] Γ ([(6, .p 4 1 0), (7, .p 5 1 0), (15, .a [.b (decide (a < 0)), .n false .u64 (lm a)]), (16, .a [.b (decide (b < 0)), .n false .u64 (lm b)])] ++ F0) [⟨66, 2, 0, true, [.b (decide (a < 0)), .n false .u64 (lm a)]⟩, ⟨66, 2, 0, true, [.b (decide (b < 0)), .n false .u64 (lm b)]⟩, ⟨66, 2, 0, true, [.b false, .c (.slice none 0 0)]⟩, ⟨66, 2, 0, true, [.b false, .c (.slice none 0 0)]⟩, ⟨66, 2, 1, true, [.b false, .c (.slice none 0 0)]⟩, ⟨66, 2, 1, true, [.b false, .c (.slice none 0 0)]⟩] Q1 := by
    subst ho; subst hF
    refine ja_1 4 ?_ rfl (by kernel_rfl)
    refine js_st (sy_store rfl rfl rfl siz30 rfl rfl (Nat.le_of_ble_eq_true rfl)) rfl ?_
    refine ja_to (m := [(6, .p 4 1 0), (7, .p 5 1 0), (15, .a [.b (decide (a < 0)), .n false .u64 (lm a)]), (16, .a [.b (decide (b < 0)), .n false .u64 (lm b)])]) (by decide) rfl (cov_n 4 rfl rfl (.cons rfl (.cons rfl (.cons rfl (.cons rfl .nil))))) S1_111110
  have S1_111000 : JA Try.prog ops1 3 #[true, true, true, false, false, false] Γ ([(6, .p 4 1 0), (15, .a [.b (decide (a < 0)), .n false .u64 (lm a)]), (16, .a [.b (decide (b < 0)), .n false .u64 (lm b)])] ++ F0) [⟨66, 2, 0, true, [.b (decide (a < 0)), .n false .u64 (lm a)]⟩, ⟨66, 2, 0, true, [.b (decide (b < 0)), .n false .u64 (lm b)]⟩, ⟨66, 2, 0, true, [.b false, .c (.slice none 0 0)]⟩, ⟨66, 2, 0, true, [.b false, .c (.slice none 0 0)]⟩, ⟨66, 2, 1, true, [.b false, .c (.slice none 0 0)]⟩, ⟨0, 1, 0, true, []⟩] Q1 := by
    subst ho; subst hF
    refine ja_1 3 ?_ rfl (by kernel_rfl)
    refine js_h (hy_allocAt (id := 5) zero30 (by decide) rfl (by decide) rfl) (hd 7 rfl) ?_
    refine ja_to (m := [(6, .p 4 1 0), (7, .p 5 1 0), (15, .a [.b (decide (a < 0)), .n false .u64 (lm a)]), (16, .a [.b (decide (b < 0)), .n false .u64 (lm b)])]) (by decide) rfl (cov_n 4 rfl rfl (.cons rfl (.cons rfl (.cons rfl (.cons rfl .nil))))) S1_111100
  have S1_110100 : JA Try.prog ops1 3 #[true, true, false, true, false, false] Γ ([(7, .p 5 1 0), (15, .a [.b (decide (a < 0)), .n false .u64 (lm a)]), (16, .a [.b (decide (b < 0)), .n false .u64 (lm b)])] ++ F0) [⟨66, 2, 0, true, [.b (decide (a < 0)), .n false .u64 (lm a)]⟩, ⟨66, 2, 0, true, [.b (decide (b < 0)), .n false .u64 (lm b)]⟩, ⟨66, 2, 0, true, [.b false, .c (.slice none 0 0)]⟩, ⟨66, 2, 0, true, [.b false, .c (.slice none 0 0)]⟩, ⟨0, 1, 0, true, []⟩, ⟨66, 2, 1, true, [.b false, .c (.slice none 0 0)]⟩] Q1 := by
    subst ho; subst hF
    refine ja_1 2 ?_ rfl (by kernel_rfl)
    refine js_h (hy_allocAt (id := 4) zero30 (by decide) rfl (by decide) rfl) (hd 6 rfl) ?_
    refine ja_to (m := [(6, .p 4 1 0), (7, .p 5 1 0), (15, .a [.b (decide (a < 0)), .n false .u64 (lm a)]), (16, .a [.b (decide (b < 0)), .n false .u64 (lm b)])]) (by decide) rfl (cov_n 4 rfl rfl (.cons rfl (.cons rfl (.cons rfl (.cons rfl .nil))))) S1_111100
  have S1_110000 : JA Try.prog ops1 4 #[true, true, false, false, false, false] Γ ([(15, .a [.b (decide (a < 0)), .n false .u64 (lm a)]), (16, .a [.b (decide (b < 0)), .n false .u64 (lm b)])] ++ F0) [⟨66, 2, 0, true, [.b (decide (a < 0)), .n false .u64 (lm a)]⟩, ⟨66, 2, 0, true, [.b (decide (b < 0)), .n false .u64 (lm b)]⟩, ⟨66, 2, 0, true, [.b false, .c (.slice none 0 0)]⟩, ⟨66, 2, 0, true, [.b false, .c (.slice none 0 0)]⟩, ⟨0, 1, 0, true, []⟩, ⟨0, 1, 0, true, []⟩] Q1 := by
    subst ho; subst hF
    refine ja_2 2 3 ?_ ?_ rfl rfl (by kernel_rfl)
    · refine js_h (hy_allocAt (id := 4) zero30 (by decide) rfl (by decide) rfl) (hd 6 rfl) ?_
      refine ja_to (m := [(6, .p 4 1 0), (15, .a [.b (decide (a < 0)), .n false .u64 (lm a)]), (16, .a [.b (decide (b < 0)), .n false .u64 (lm b)])]) (by decide) rfl (cov_n 3 rfl rfl (.cons rfl (.cons rfl (.cons rfl .nil)))) S1_111000
    · refine js_h (hy_allocAt (id := 5) zero30 (by decide) rfl (by decide) rfl) (hd 7 rfl) ?_
      refine ja_to (m := [(7, .p 5 1 0), (15, .a [.b (decide (a < 0)), .n false .u64 (lm a)]), (16, .a [.b (decide (b < 0)), .n false .u64 (lm b)])]) (by decide) rfl (cov_n 3 rfl rfl (.cons rfl (.cons rfl (.cons rfl .nil)))) S1_110100
  have S1_101110 : JA Try.prog ops1 2 #[true, false, true, true, true, false] Γ ([(6, .p 4 1 0), (7, .p 5 1 0), (15, .a [.b (decide (a < 0)), .n false .u64 (lm a)])] ++ F0) [⟨66, 2, 0, true, [.b (decide (a < 0)), .n false .u64 (lm a)]⟩, ⟨66, 2, 0, true, [.b (decide (b < 0)), .n false .u64 (lm b)]⟩, ⟨66, 2, 0, true, [.b false, .c (.slice none 0 0)]⟩, ⟨66, 2, 0, true, [.b false, .c (.slice none 0 0)]⟩, ⟨66, 2, 1, true, [.b (decide (a < 0)), .n false .u64 (lm a)]⟩, ⟨66, 2, 1, true, [.b false, .c (.slice none 0 0)]⟩] Q1 := by
    subst ho; subst hF; refine ja_l2 1 [5] (lo_l (ly_lda agg30 rfl rfl rfl rfl) (hd 16 rfl)) rfl (by kernel_rfl) (by kernel_rfl) (by kernel_rfl) (by kernel_rfl) hpan ?_
    refine ja_to (m := [(6, .p 4 1 0), (7, .p 5 1 0), (15, .a [.b (decide (a < 0)), .n false .u64 (lm a)]), (16, .a [.b (decide (b < 0)), .n false .u64 (lm b)])]) (by decide) rfl (cov_n 4 rfl rfl (.cons rfl (.cons rfl (.cons rfl (.cons rfl .nil))))) S1_111110
  have S1_101100 : JA Try.prog ops1 3 #[true, false, true, true, false, false] Γ ([(6, .p 4 1 0), (7, .p 5 1 0), (15, .a [.b (decide (a < 0)), .n false .u64 (lm a)])] ++ F0) [⟨66, 2, 0, true, [.b (decide (a < 0)), .n false .u64 (lm a)]⟩, ⟨66, 2, 0, true, [.b (decide (b < 0)), .n false .u64 (lm b)]⟩, ⟨66, 2, 0, true, [.b false, .c (.slice none 0 0)]⟩, ⟨66, 2, 0, true, [.b false, .c (.slice none 0 0)]⟩, ⟨66, 2, 1, true, [.b false, .c (.slice none 0 0)]⟩, ⟨66, 2, 1, true, [.b false, .c (.slice none 0 0)]⟩] Q1 := by
    subst ho; subst hF
    refine ja_2 1 4 ?_ ?_ rfl rfl (by kernel_rfl)
    · refine js_l (ly_lda agg30 rfl rfl rfl rfl) (hd 16 rfl) ?_
      refine ja_to (m := [(6, .p 4 1 0), (7, .p 5 1 0), (15, .a [.b (decide (a < 0)), .n false .u64 (lm a)]), (16, .a [.b (decide (b < 0)), .n false .u64 (lm b)])]) (by decide) rfl (cov_n 4 rfl rfl (.cons rfl (.cons rfl (.cons rfl (.cons rfl .nil))))) S1_111100
    · refine js_st (sy_store rfl rfl rfl siz30 rfl rfl (Nat.le_of_ble_eq_true rfl)) rfl ?_
      refine ja_to (m := [(6, .p 4 1 0), (7, .p 5 1 0), (15, .a [.b (decide (a < 0)), .n false .u64 (lm a)])]) (by decide) rfl (cov_n 3 rfl rfl (.cons rfl (.cons rfl (.cons rfl .nil)))) S1_101110
  have S1_101000 : JA Try.prog ops1 4 #[true, false, true, false, false, false] Γ ([(6, .p 4 1 0), (15, .a [.b (decide (a < 0)), .n false .u64 (lm a)])] ++ F0) [⟨66, 2, 0, true, [.b (decide (a < 0)), .n false .u64 (lm a)]⟩, ⟨66, 2, 0, true, [.b (decide (b < 0)), .n false .u64 (lm b)]⟩, ⟨66, 2, 0, true, [.b false, .c (.slice none 0 0)]⟩, ⟨66, 2, 0, true, [.b false, .c (.slice none 0 0)]⟩, ⟨66, 2, 1, true, [.b false, .c (.slice none 0 0)]⟩, ⟨0, 1, 0, true, []⟩] Q1 := by
    subst ho; subst hF
    refine ja_2 1 3 ?_ ?_ rfl rfl (by kernel_rfl)
    · refine js_l (ly_lda agg30 rfl rfl rfl rfl) (hd 16 rfl) ?_
      refine ja_to (m := [(6, .p 4 1 0), (15, .a [.b (decide (a < 0)), .n false .u64 (lm a)]), (16, .a [.b (decide (b < 0)), .n false .u64 (lm b)])]) (by decide) rfl (cov_n 3 rfl rfl (.cons rfl (.cons rfl (.cons rfl .nil)))) S1_111000
    · refine js_h (hy_allocAt (id := 5) zero30 (by decide) rfl (by decide) rfl) (hd 7 rfl) ?_
      refine ja_to (m := [(6, .p 4 1 0), (7, .p 5 1 0), (15, .a [.b (decide (a < 0)), .n false .u64 (lm a)])]) (by decide) rfl (cov_n 3 rfl rfl (.cons rfl (.cons rfl (.cons rfl .nil)))) S1_101100
  have S1_100100 : JA Try.prog ops1 4 #[true, false, false, true, false, false] Γ ([(7, .p 5 1 0), (15, .a [.b (decide (a < 0)), .n false .u64 (lm a)])] ++ F0) [⟨66, 2, 0, true, [.b (decide (a < 0)), .n false .u64 (lm a)]⟩, ⟨66, 2, 0, true, [.b (decide (b < 0)), .n false .u64 (lm b)]⟩, ⟨66, 2, 0, true, [.b false, .c (.slice none 0 0)]⟩, ⟨66, 2, 0, true, [.b false, .c (.slice none 0 0)]⟩, ⟨0, 1, 0, true, []⟩, ⟨66, 2, 1, true, [.b false, .c (.slice none 0 0)]⟩] Q1 := by
    subst ho; subst hF
    refine ja_2 1 2 ?_ ?_ rfl rfl (by kernel_rfl)
    · refine js_l (ly_lda agg30 rfl rfl rfl rfl) (hd 16 rfl) ?_
      refine ja_to (m := [(7, .p 5 1 0), (15, .a [.b (decide (a < 0)), .n false .u64 (lm a)]), (16, .a [.b (decide (b < 0)), .n false .u64 (lm b)])]) (by decide) rfl (cov_n 3 rfl rfl (.cons rfl (.cons rfl (.cons rfl .nil)))) S1_110100
    · refine js_h (hy_allocAt (id := 4) zero30 (by decide) rfl (by decide) rfl) (hd 6 rfl) ?_
      refine ja_to (m := [(6, .p 4 1 0), (7, .p 5 1 0), (15, .a [.b (decide (a < 0)), .n false .u64 (lm a)])]) (by decide) rfl (cov_n 3 rfl rfl (.cons rfl (.cons rfl (.cons rfl .nil)))) S1_101100
  have S1_100000 : JA Try.prog ops1 5 #[true, false, false, false, false, false] Γ ([(15, .a [.b (decide (a < 0)), .n false .u64 (lm a)])] ++ F0) [⟨66, 2, 0, true, [.b (decide (a < 0)), .n false .u64 (lm a)]⟩, ⟨66, 2, 0, true, [.b (decide (b < 0)), .n false .u64 (lm b)]⟩, ⟨66, 2, 0, true, [.b false, .c (.slice none 0 0)]⟩, ⟨66, 2, 0, true, [.b false, .c (.slice none 0 0)]⟩, ⟨0, 1, 0, true, []⟩, ⟨0, 1, 0, true, []⟩] Q1 := by
    subst ho; subst hF
    refine ja_3 1 2 3 ?_ ?_ ?_ rfl rfl rfl (by kernel_rfl)
    · refine js_l (ly_lda agg30 rfl rfl rfl rfl) (hd 16 rfl) ?_
      refine ja_to (m := [(15, .a [.b (decide (a < 0)), .n false .u64 (lm a)]), (16, .a [.b (decide (b < 0)), .n false .u64 (lm b)])]) (by decide) rfl (cov_n 2 rfl rfl (.cons rfl (.cons rfl .nil))) S1_110000
    · refine js_h (hy_allocAt (id := 4) zero30 (by decide) rfl (by decide) rfl) (hd 6 rfl) ?_
      refine ja_to (m := [(6, .p 4 1 0), (15, .a [.b (decide (a < 0)), .n false .u64 (lm a)])]) (by decide) rfl (cov_n 2 rfl rfl (.cons rfl (.cons rfl .nil))) S1_101000
    · refine js_h (hy_allocAt (id := 5) zero30 (by decide) rfl (by decide) rfl) (hd 7 rfl) ?_
      refine ja_to (m := [(7, .p 5 1 0), (15, .a [.b (decide (a < 0)), .n false .u64 (lm a)])]) (by decide) rfl (cov_n 2 rfl rfl (.cons rfl (.cons rfl .nil))) S1_100100
  have S1_000000 : JA Try.prog ops1 6 #[false, false, false, false, false, false] Γ ([] ++ F0) [⟨66, 2, 0, true, [.b (decide (a < 0)), .n false .u64 (lm a)]⟩, ⟨66, 2, 0, true, [.b (decide (b < 0)), .n false .u64 (lm b)]⟩, ⟨66, 2, 0, true, [.b false, .c (.slice none 0 0)]⟩, ⟨66, 2, 0, true, [.b false, .c (.slice none 0 0)]⟩, ⟨0, 1, 0, true, []⟩, ⟨0, 1, 0, true, []⟩] Q1 := by
    subst ho; subst hF; refine ja_l2 0 [4, 5] (lo_l (ly_lda agg30 rfl rfl rfl rfl) (hd 15 rfl)) rfl (by kernel_rfl) (by kernel_rfl) (by kernel_rfl) (by kernel_rfl) hpan ?_
    refine ja_to (m := [(15, .a [.b (decide (a < 0)), .n false .u64 (lm a)])]) (by decide) rfl (cov_n 1 rfl rfl (.cons rfl .nil)) S1_100000
  subst ho; subst hF
  exact ja_to (m := []) (by decide) rfl (cov_n 0 rfl rfl .nil) S1_000000
end Go.Proofs.Ytcfdclehmpfkcaa.Vc

/- Contracts of div.Quo, whole.Bezout. -/
namespace Go.Proofs.Ytcfdclehmpfkcaa.Vc
open Go Go.RowKit
set_option maxHeartbeats 4000000 in
theorem Quo_v (v w : Int) (hv : lenV v ≤ 67108864) (hw : lenV w ≤ 67108864) (h0 : w ≠ 0) : Spec Try.prog 93 [.n false .u64 (lm v), .n false .u64 (lm w)] (fun o => o = .ret (.t [.n false .u64 (lm (qn v w)), .i .i64 0])) := by
  refine spec_of' [(0, .n false .u64 (lm v)), (1, .n false .u64 (lm w))] rfl Try.func93 rfl (Nat.le_of_ble_eq_true rfl) fun Γ hN hds hL hR => ?_
  have hd : ∀ d, Nat.blt d 25 = true → d < Γ.N := fun d h => by rw [hN]; exact Nat.le_of_ble_eq_true h
  have hlv := lenV_lm hv
  have hlw := lenV_lm hw
  have hle := lenV_mono (v := qn v w) (w := v) qn_le
  have hlq := lenV_lm (v := qn v w) (by omega)
  have hne := lm_ne h0
  refine jc_seq ?_; refine jc_region ?_; refine jo_l (ly_as rfl) (hd 4 rfl) ?_; refine jo_l (ly_as rfl) (hd 5 rfl) ?_; refine jo_nil ?_; refine jc_seq ?_; refine jc_region ?_; refine jo_l (ly_mv rfl) (hd 8 rfl) ?_
  refine jo_call Try.f99 (Norm_v v (by omega)) rfl Try.func99 rfl rfl (ovL_cons rfl ovL_nil) (.cons .n .nil) (hd 9 rfl) ?_ (fun ch hp => by simp at hp)
  rintro y hy; injection hy with hy; subst hy; refine jo_l (ly_mv rfl) (hd 10 rfl) ?_
  refine jo_call Try.f99 (Norm_v w (by omega)) rfl Try.func99 rfl rfl (ovL_cons rfl ovL_nil) (.cons .n .nil) (hd 11 rfl) ?_ (fun ch hp => by simp at hp)
  rintro y hy; injection hy with hy; subst hy; refine jo_l (ly_as rfl) (hd 0 rfl) ?_; refine jo_l (ly_as rfl) (hd 1 rfl) ?_; refine jo_nil ?_; refine jc_seq ?_; refine jc_seq ?_; refine jc_region ?_; refine jo_l (ly_mv rfl) (hd 12 rfl) ?_; refine jo_l (ly_lenn sl28 rfl) (hd 13 rfl) ?_; refine jo_l (ly_ff (ly_eq rfl rfl) (fun h => hne (List.eq_nil_of_length_eq_zero (by omega)))) (hd 14 rfl) ?_; refine jo_nil ?_; refine jc_litf rfl ?_; refine jc_skip ?_; refine jc_seq ?_; refine jc_region ?_; refine jo_l (ly_mv rfl) (hd 16 rfl) ?_; refine jo_l (ly_mv rfl) (hd 17 rfl) ?_
  refine jo_call Try.f100 (divide_v v w (by omega) (by omega) h0) rfl Try.func100 rfl rfl (ovL_cons rfl (ovL_cons rfl ovL_nil)) (.cons .n (.cons .n .nil)) (hd 18 rfl) ?_ (fun ch hp => by simp at hp)
  rintro y hy; injection hy with hy; subst hy; refine jo_l (ly_mv rfl) (hd 15 rfl) ?_; refine jo_l (ly_ext rfl rfl) (hd 19 rfl) ?_; refine jo_l (ly_ext rfl rfl) (hd 20 rfl) ?_; refine jo_l (ly_as rfl) (hd 6 rfl) ?_; refine jo_l (ly_as rfl) (hd 7 rfl) ?_; refine jo_nil ?_; refine jc_seq ?_; refine jc_seq ?_; refine jc_region ?_; refine jo_l (ly_mv rfl) (hd 21 rfl) ?_
  refine jo_call Try.f33 (Length_v (qn v w) (by omega)) rfl Try.func33 rfl rfl (ovL_cons rfl ovL_nil) (.cons .n .nil) (hd 22 rfl) ?_ (fun ch hp => by simp at hp)
  rintro y hy; injection hy with hy; subst hy; refine jo_l (ly_ff (ly_gt rfl rfl) (by omega)) (hd 23 rfl) ?_; refine jo_nil ?_; refine jc_litf rfl ?_; refine jc_skip ?_; refine jc_seq ?_; refine jc_region ?_; refine jo_l (ly_mv rfl) (hd 24 rfl) ?_; refine jo_l (ly_as rfl) (hd 4 rfl) ?_; refine jo_l (ly_as rfl) (hd 5 rfl) ?_; refine jo_nil ?_; refine jc_ret ?_
  refine ⟨_, _, (.cons rfl (.cons rfl .nil)), (.t1 .n (.t1 .i .t0)), ?_⟩
  exact rfl

set_option maxHeartbeats 4000000 in
set_option maxRecDepth 100000 in
theorem Bezout_s (sa sb : Bool) (a b : List Int) (v w : Int) (la : a.length < 4294967296) (lb : b.length < 4294967296) (ua : u64s a) (ub : u64s b) (ev : sv sa a = v) (ew : sv sb b = w) (hab : lenV v + lenV w ≤ 67108700) (h0 : w ≠ 0) : Spec Try.prog 50 [.a [.b sa, .n false .u64 a], .a [.b sb, .n false .u64 b]] (fun o => ∃ g x : Int, o = .ret (.t [.a [.b (decide (g < 0)), .n false .u64 (lm g)], .a [.b (decide ((x % qn w g) < 0)), .n false .u64 (lm (x % qn w g))], .a [.b (decide ((wq 0 (g - v * (x % qn w g)) w) < 0)), .n false .u64 (lm (wq 0 (g - v * (x % qn w g)) w))], .i .i64 0]) ∧ CoE v w g x) := by
  refine spec_of' [(0, .a [.b sa, .n false .u64 a]), (1, .a [.b sb, .n false .u64 b])] rfl Try.func50 rfl (Nat.le_of_ble_eq_true rfl) fun Γ hN hds hL hR => ?_
  have hd : ∀ d, Nat.blt d 116 = true → d < Γ.N := fun d h => by rw [hN]; exact Nat.le_of_ble_eq_true h
  have hlv := lenV_lm (v := v) (by omega)
  have hlw := lenV_lm (v := w) (by omega)
  have hne := lm_ne h0
  refine jc_seq ?_; refine jc_region ?_; refine jo_h (hy_box (id := 0) (n := 2) rfl rfl rfl (by decide) rfl) (hd 2 rfl) ?_; refine jo_h (hy_box (id := 1) (n := 2) rfl rfl rfl (by decide) rfl) (hd 3 rfl) ?_; refine jo_h (hy_alloc (id := 2) zero30 (by decide) rfl (by decide) rfl) (hd 4 rfl) ?_; refine jo_h (hy_alloc (id := 3) zero30 (by decide) rfl (by decide) rfl) (hd 5 rfl) ?_; refine jo_h (hy_alloc (id := 4) zero30 (by decide) rfl (by decide) rfl) (hd 6 rfl) ?_; refine jo_l (ly_as rfl) (hd 7 rfl) ?_; refine jo_nil ?_; refine jc_seq ?_; refine jc_draw (n := 6) _ rfl mixed ?_; refine ja_gen (fun _ _ _ _ h => h) fun ops1 Q1 F0 hpan ho hq hF => ?_
  have S1_111111 : JA Try.prog ops1 0 #[true, true, true, true, true, true] Γ ([(18, .a [.b sa, .n false .u64 a]), (19, .a [.b (decide (v < 0)), .n true .u64 (lm v)]), (20, .a [.b sb, .n false .u64 b]), (21, .a [.b (decide (w < 0)), .n true .u64 (lm w)])] ++ F0) [⟨66, 2, 0, true, [.b (decide (v < 0)), .n true .u64 (lm v)]⟩, ⟨66, 2, 0, true, [.b (decide (w < 0)), .n true .u64 (lm w)]⟩, ⟨66, 2, 0, true, [.b false, .c (.slice none 0 0)]⟩, ⟨66, 2, 0, true, [.b false, .c (.slice none 0 0)]⟩, ⟨66, 2, 0, true, [.b false, .c (.slice none 0 0)]⟩] Q1 := by
    subst ho; subst hq; subst hF; refine ja_nil (by kernel_rfl) ?_; refine jc_seq ?_; refine jc_seq ?_; refine jc_H (H' := [⟨66, 2, 0, true, [.b (decide (v < 0)), .n true .u64 (lm v)]⟩, ⟨66, 2, 0, true, [.b (decide (w < 0)), .n true .u64 (lm w)]⟩, ⟨66, 2, 0, true, [.b false, .c (.slice none 0 0)]⟩, ⟨66, 2, 0, true, [.b false, .c (.slice none 0 0)]⟩, ⟨66, 2, 0, true, [.b false, .c (.slice none 0 0)]⟩]) rfl ?_; refine jc_region ?_; refine jo_l (ly_fa fld30_1 rfl rfl rfl) (hd 22 rfl) ?_; refine jo_l (ly_ld one28 rfl rfl rfl) (hd 23 rfl) ?_
    refine jo_call Try.f33 (Length_v v (by omega)) rfl Try.func33 rfl rfl (ovL_cons rfl ovL_nil) (.cons .n .nil) (hd 24 rfl) ?_ (fun ch hp => by simp at hp)
    rintro y hy; injection hy with hy; subst hy; refine jo_l (ly_ff (ly_gt rfl rfl) (by omega)) (hd 25 rfl) ?_; refine jo_l (ly_mv rfl) (hd 26 rfl) ?_; refine jo_g 26 rfl rfl (ly_fa fld30_1 rfl rfl rfl) (hd 27 rfl) ?_; refine jo_g 26 rfl rfl (ly_ld one28 rfl rfl rfl) (hd 28 rfl) ?_
    refine jo_callg Try.f33 26 rfl rfl (Length_v w (by omega)) rfl Try.func33 rfl rfl (ovL_cons rfl ovL_nil) (.cons .n .nil) (hd 29 rfl) ?_ (fun ch hp => by simp at hp)
    rintro y hy; injection hy with hy; subst hy; refine jo_g 26 rfl rfl (ly_ff (ly_gt rfl rfl) (by omega)) (hd 30 rfl) ?_; refine jo_l (ly_pick_f rfl rfl) (hd 31 rfl) ?_; refine jo_nil ?_; refine jc_litf rfl ?_; refine jc_skip ?_; refine jc_seq ?_; refine jc_seq ?_; refine jc_region ?_; refine jo_l (ly_fa fld30_1 rfl rfl rfl) (hd 39 rfl) ?_; refine jo_l (ly_ld one28 rfl rfl rfl) (hd 40 rfl) ?_; refine jo_l (ly_lenn sl28 rfl) (hd 41 rfl) ?_; refine jo_l (ly_ff (ly_eq rfl rfl) (fun h => hne (List.eq_nil_of_length_eq_zero (by omega)))) (hd 42 rfl) ?_; refine jo_nil ?_; refine jc_litf rfl ?_; refine jc_skip ?_; refine jc_seq ?_; refine jc_region ?_; refine jo_l (ly_lda agg30 rfl rfl rfl rfl) (hd 51 rfl) ?_; refine jo_l (ly_lda agg30 rfl rfl rfl rfl) (hd 52 rfl) ?_
    refine jo_call Try.f92 (cofactor_s v w (by omega) (by omega) h0) rfl Try.func92 rfl rfl (ovL_cons rfl (ovL_cons rfl ovL_nil)) (.cons (.a1 .b (.a1 .n .a0)) (.cons (.a1 .b (.a1 .n .a0)) .nil)) (hd 53 rfl) ?_ (fun ch hp => by simp at hp)
    rintro y ⟨g, x, hy, hE⟩; injection hy with hy; subst hy
    have hg0 := hE.ne h0
    obtain ⟨hb1, hb2, hb3⟩ := bez_step hE h0
    have hXb := emod_nn (v := x) hb1
    have hlX : lenV (x % qn w g) ≤ lenV w := lenV_mono (by omega)
    have hlx := lenV_mono hE.bx
    have hlg := lenV_mono (hE.le h0)
    have hlst : lenV (qn w g) ≤ lenV w := lenV_mono (by omega)
    have hm1 := lenV_mul v (x % qn w g)
    have hm2 := lenV_sub g (v * (x % qn w g))
    have hmg := lenV_lm (v := g) (by omega)
    have hmx := lenV_lm (v := x) (by omega)
    have hmX := lenV_lm (v := (x % qn w g)) (by omega)
    have hmst := lenV_lm (v := qn w g) (by omega)
    have hmP := lenV_lm (v := v * (x % qn w g)) (by omega)
    have hmD := lenV_lm (v := (g - v * (x % qn w g))) (by omega)
    have hEu : Spec Try.prog 94 [.a [.b (decide (x < 0)), .n false .u64 (lm x)], .a [.b false, .n false .u64 (lm (qn w g))]] (fun o => o = .ret (.t [.a [.b (decide ((wq 4 x (qn w g)) < 0)), .n true .u64 (lm (wq 4 x (qn w g)))], .a [.b (decide ((x % qn w g) < 0)), .n true .u64 (lm (x % qn w g))], .i .i64 0])) := by have h := Euclid_z (decide (x < 0)) false (lm x) (lm (qn w g)) x (qn w g) (by omega) (by omega) (lm_u x) (lm_u _) (sv_lm x) (by show vl _ = _; rw [vl_lm (by omega)]) (by omega) (by omega) (by omega); rwa [euc (by omega)] at h
    refine jo_l (ly_mv rfl) (hd 50 rfl) ?_; refine jo_l (ly_ext rfl rfl) (hd 54 rfl) ?_; refine jo_l (ly_ext rfl rfl) (hd 55 rfl) ?_; refine jo_h (hy_alloc (id := 5) zero30 (by decide) rfl (by decide) rfl) (hd 8 rfl) ?_; refine jo_h (hy_alloc (id := 6) zero30 (by decide) rfl (by decide) rfl) (hd 9 rfl) ?_; refine jo_st (sy_store rfl rfl rfl siz30 rfl rfl (Nat.le_of_ble_eq_true rfl)) ?_; refine jo_st (sy_store rfl rfl rfl siz30 rfl rfl (Nat.le_of_ble_eq_true rfl)) ?_; refine jo_nil ?_; refine jc_seq ?_; refine jc_H (H' := [⟨66, 2, 0, true, [.b (decide (v < 0)), .n true .u64 (lm v)]⟩, ⟨66, 2, 0, true, [.b (decide (w < 0)), .n true .u64 (lm w)]⟩, ⟨66, 2, 0, true, [.b false, .c (.slice none 0 0)]⟩, ⟨66, 2, 0, true, [.b false, .c (.slice none 0 0)]⟩, ⟨66, 2, 0, true, [.b false, .c (.slice none 0 0)]⟩, ⟨66, 2, 0, true, [.b (decide (g < 0)), .n false .u64 (lm g)]⟩, ⟨66, 2, 0, true, [.b (decide (x < 0)), .n false .u64 (lm x)]⟩]) rfl ?_; refine jc_region ?_; refine jo_l (ly_fa fld30_1 rfl rfl rfl) (hd 57 rfl) ?_; refine jo_l (ly_ld one28 rfl rfl rfl) (hd 58 rfl) ?_; refine jo_l (ly_fa fld30_1 rfl rfl rfl) (hd 59 rfl) ?_; refine jo_l (ly_ld one28 rfl rfl rfl) (hd 60 rfl) ?_
    refine jo_call Try.f93 (Quo_v w g (by omega) (by omega) hg0) rfl Try.func93 rfl rfl (ovL_cons rfl (ovL_cons rfl ovL_nil)) (.cons .n (.cons .n .nil)) (hd 61 rfl) ?_ (fun ch hp => by simp at hp)
    rintro y hy; injection hy with hy; subst hy; refine jo_l (ly_mv rfl) (hd 56 rfl) ?_; refine jo_l (ly_ext rfl rfl) (hd 62 rfl) ?_; refine jo_l (ly_ext rfl rfl) (hd 63 rfl) ?_; refine jo_l (ly_as rfl) (hd 10 rfl) ?_; refine jo_l (ly_as rfl) (hd 11 rfl) ?_; refine jo_nil ?_; refine jc_seq ?_; refine jc_region ?_; refine jo_l (ly_lda agg30 rfl rfl rfl rfl) (hd 65 rfl) ?_; refine jo_l (ly_mv rfl) (hd 66 rfl) ?_; refine jo_l (ly_build (is := [1]) (xs := [.tmp 66]) zero30 pls30_1 rfl (ovL_cons rfl ovL_nil) rfl (by first | (simp [plsOk, cellsV]; done) | (simp [plsOk, cellsV, old]; done)) (all_of rfl) rfl) (hd 67 rfl) ?_
    refine jo_call Try.f94 (hEu) rfl Try.func94 rfl rfl (ovL_cons rfl (ovL_cons rfl ovL_nil)) (.cons (.a1 .b (.a1 .n .a0)) (.cons (.a1 .b (.a1 .n .a0)) .nil)) (hd 68 rfl) ?_ (fun ch hp => by simp at hp)
    rintro y hy; injection hy with hy; subst hy; refine jo_l (ly_mv rfl) (hd 64 rfl) ?_; refine jo_l (ly_ext rfl rfl) (hd 69 rfl) ?_; refine jo_l (ly_ext rfl rfl) (hd 70 rfl) ?_; refine jo_l (ly_ext rfl rfl) (hd 71 rfl) ?_; refine jo_st (sy_store rfl rfl rfl siz30 rfl rfl (Nat.le_of_ble_eq_true rfl)) ?_; refine jo_nil ?_; refine jc_seq ?_; refine jc_H (H' := [⟨66, 2, 0, true, [.b (decide (v < 0)), .n true .u64 (lm v)]⟩, ⟨66, 2, 0, true, [.b (decide (w < 0)), .n true .u64 (lm w)]⟩, ⟨66, 2, 0, true, [.b false, .c (.slice none 0 0)]⟩, ⟨66, 2, 0, true, [.b false, .c (.slice none 0 0)]⟩, ⟨66, 2, 0, true, [.b false, .c (.slice none 0 0)]⟩, ⟨66, 2, 0, true, [.b (decide (g < 0)), .n false .u64 (lm g)]⟩, ⟨66, 2, 0, true, [.b (decide ((x % qn w g) < 0)), .n true .u64 (lm (x % qn w g))]⟩]) rfl ?_; refine jc_region ?_; refine jo_l (ly_lda agg30 rfl rfl rfl rfl) (hd 73 rfl) ?_; refine jo_l (ly_lda agg30 rfl rfl rfl rfl) (hd 74 rfl) ?_
    refine jo_call Try.f51 (WMul_v v (x % qn w g) (by omega) (by omega) (by omega)) rfl Try.func51 rfl rfl (ovL_cons rfl (ovL_cons rfl ovL_nil)) (.cons (.a1 .b (.a1 .n .a0)) (.cons (.a1 .b (.a1 .n .a0)) .nil)) (hd 75 rfl) ?_ (fun ch hp => by simp at hp)
    rintro y hy; injection hy with hy; subst hy; refine jo_l (ly_mv rfl) (hd 72 rfl) ?_; refine jo_l (ly_ext rfl rfl) (hd 76 rfl) ?_; refine jo_l (ly_ext rfl rfl) (hd 77 rfl) ?_; refine jo_h (hy_alloc (id := 7) zero30 (by decide) rfl (by decide) rfl) (hd 12 rfl) ?_; refine jo_st (sy_store rfl rfl rfl siz30 rfl rfl (Nat.le_of_ble_eq_true rfl)) ?_; refine jo_l (ly_as rfl) (hd 13 rfl) ?_; refine jo_nil ?_; refine jc_seq ?_; refine jc_seq ?_; refine jc_region ?_; refine jo_l (ly_mv rfl) (hd 78 rfl) ?_; refine jo_l (ly_ff (ly_ne rfl rfl) (by decide)) (hd 79 rfl) ?_; refine jo_nil ?_; refine jc_litf rfl ?_; refine jc_skip ?_; refine jc_seq ?_; refine jc_H (H' := [⟨66, 2, 0, true, [.b (decide (v < 0)), .n true .u64 (lm v)]⟩, ⟨66, 2, 0, true, [.b (decide (w < 0)), .n true .u64 (lm w)]⟩, ⟨66, 2, 0, true, [.b false, .c (.slice none 0 0)]⟩, ⟨66, 2, 0, true, [.b false, .c (.slice none 0 0)]⟩, ⟨66, 2, 0, true, [.b false, .c (.slice none 0 0)]⟩, ⟨66, 2, 0, true, [.b (decide (g < 0)), .n false .u64 (lm g)]⟩, ⟨66, 2, 0, true, [.b (decide ((x % qn w g) < 0)), .n true .u64 (lm (x % qn w g))]⟩, ⟨66, 2, 0, true, [.b (decide ((v * (x % qn w g)) < 0)), .n true .u64 (lm (v * (x % qn w g)))]⟩]) rfl ?_; refine jc_region ?_; refine jo_l (ly_lda agg30 rfl rfl rfl rfl) (hd 90 rfl) ?_; refine jo_l (ly_lda agg30 rfl rfl rfl rfl) (hd 91 rfl) ?_
    refine jo_call Try.f56 (WSub_v g (v * (x % qn w g)) (by omega) (by omega) (by omega)) rfl Try.func56 rfl rfl (ovL_cons rfl (ovL_cons rfl ovL_nil)) (.cons (.a1 .b (.a1 .n .a0)) (.cons (.a1 .b (.a1 .n .a0)) .nil)) (hd 92 rfl) ?_ (fun ch hp => by simp at hp)
    rintro y hy; injection hy with hy; subst hy; refine jo_l (ly_mv rfl) (hd 89 rfl) ?_; refine jo_l (ly_ext rfl rfl) (hd 93 rfl) ?_; refine jo_l (ly_ext rfl rfl) (hd 94 rfl) ?_; refine jo_h (hy_alloc (id := 8) zero30 (by decide) rfl (by decide) rfl) (hd 14 rfl) ?_; refine jo_st (sy_store rfl rfl rfl siz30 rfl rfl (Nat.le_of_ble_eq_true rfl)) ?_; refine jo_l (ly_as rfl) (hd 13 rfl) ?_; refine jo_nil ?_; refine jc_seq ?_; refine jc_seq ?_; refine jc_region ?_; refine jo_l (ly_mv rfl) (hd 95 rfl) ?_; refine jo_l (ly_ff (ly_ne rfl rfl) (by decide)) (hd 96 rfl) ?_; refine jo_nil ?_; refine jc_litf rfl ?_; refine jc_skip ?_; refine jc_seq ?_; refine jc_H (H' := [⟨66, 2, 0, true, [.b (decide (v < 0)), .n true .u64 (lm v)]⟩, ⟨66, 2, 0, true, [.b (decide (w < 0)), .n true .u64 (lm w)]⟩, ⟨66, 2, 0, true, [.b false, .c (.slice none 0 0)]⟩, ⟨66, 2, 0, true, [.b false, .c (.slice none 0 0)]⟩, ⟨66, 2, 0, true, [.b false, .c (.slice none 0 0)]⟩, ⟨66, 2, 0, true, [.b (decide (g < 0)), .n false .u64 (lm g)]⟩, ⟨66, 2, 0, true, [.b (decide ((x % qn w g) < 0)), .n true .u64 (lm (x % qn w g))]⟩, ⟨66, 2, 0, true, [.b (decide ((v * (x % qn w g)) < 0)), .n true .u64 (lm (v * (x % qn w g)))]⟩, ⟨66, 2, 0, true, [.b (decide ((g - v * (x % qn w g)) < 0)), .n true .u64 (lm (g - v * (x % qn w g)))]⟩]) rfl ?_; refine jc_region ?_; refine jo_l (ly_lda agg30 rfl rfl rfl rfl) (hd 107 rfl) ?_; refine jo_l (ly_lda agg30 rfl rfl rfl rfl) (hd 108 rfl) ?_
    refine jo_call Try.f96 (Quo_z (decide ((g - v * (x % qn w g)) < 0)) (decide (w < 0)) (lm (g - v * (x % qn w g))) (lm w) (g - v * (x % qn w g)) w (by omega) (by omega) (lm_u _) (lm_u _) (sv_lm _) (sv_lm _) (by omega) (by omega) h0) rfl Try.func96 rfl rfl (ovL_cons rfl (ovL_cons rfl ovL_nil)) (.cons (.a1 .b (.a1 .n .a0)) (.cons (.a1 .b (.a1 .n .a0)) .nil)) (hd 109 rfl) ?_ (fun ch hp => by simp at hp)
    rintro y hy; injection hy with hy; subst hy; refine jo_l (ly_mv rfl) (hd 106 rfl) ?_; refine jo_l (ly_ext rfl rfl) (hd 110 rfl) ?_; refine jo_l (ly_ext rfl rfl) (hd 111 rfl) ?_; refine jo_l (ly_ext rfl rfl) (hd 112 rfl) ?_; refine jo_h (hy_alloc (id := 9) zero30 (by decide) rfl (by decide) rfl) (hd 15 rfl) ?_; refine jo_h (hy_alloc (id := 10) zero30 (by decide) rfl (by decide) rfl) (hd 16 rfl) ?_; refine jo_st (sy_store rfl rfl rfl siz30 rfl rfl (Nat.le_of_ble_eq_true rfl)) ?_; refine jo_st (sy_store rfl rfl rfl siz30 rfl rfl (Nat.le_of_ble_eq_true rfl)) ?_; refine jo_l (ly_as rfl) (hd 17 rfl) ?_; refine jo_nil ?_; refine jc_seq ?_; refine jc_H (H' := [⟨66, 2, 0, true, [.b (decide (v < 0)), .n true .u64 (lm v)]⟩, ⟨66, 2, 0, true, [.b (decide (w < 0)), .n true .u64 (lm w)]⟩, ⟨66, 2, 0, true, [.b false, .c (.slice none 0 0)]⟩, ⟨66, 2, 0, true, [.b false, .c (.slice none 0 0)]⟩, ⟨66, 2, 0, true, [.b false, .c (.slice none 0 0)]⟩, ⟨66, 2, 0, true, [.b (decide (g < 0)), .n false .u64 (lm g)]⟩, ⟨66, 2, 0, true, [.b (decide ((x % qn w g) < 0)), .n true .u64 (lm (x % qn w g))]⟩, ⟨66, 2, 0, true, [.b (decide ((v * (x % qn w g)) < 0)), .n true .u64 (lm (v * (x % qn w g)))]⟩, ⟨66, 2, 0, true, [.b (decide ((g - v * (x % qn w g)) < 0)), .n true .u64 (lm (g - v * (x % qn w g)))]⟩, ⟨66, 2, 0, true, [.b (decide ((wq 0 (g - v * (x % qn w g)) w) < 0)), .n true .u64 (lm (wq 0 (g - v * (x % qn w g)) w))]⟩, ⟨66, 2, 0, true, [.b (decide (((g - v * (x % qn w g)) - wq 0 (g - v * (x % qn w g)) w * w) < 0)), .n true .u64 (lm ((g - v * (x % qn w g)) - wq 0 (g - v * (x % qn w g)) w * w))]⟩]) rfl ?_; refine jc_draw (n := 7) _ rfl mixed ?_; refine ja_gen (fun _ _ _ _ h => h) fun ops1 Q1 F0 hpan ho hq hF => ?_
    have S16_1111111 : JA Try.prog ops1 0 #[true, true, true, true, true, true, true] Γ ([(7, .i .i64 0), (113, .a [.b (decide (g < 0)), .n false .u64 (lm g)]), (114, .a [.b (decide ((x % qn w g) < 0)), .n true .u64 (lm (x % qn w g))]), (115, .a [.b (decide ((wq 0 (g - v * (x % qn w g)) w) < 0)), .n true .u64 (lm (wq 0 (g - v * (x % qn w g)) w))])] ++ F0) [⟨66, 2, 0, true, [.b (decide (v < 0)), .n true .u64 (lm v)]⟩, ⟨66, 2, 0, true, [.b (decide (w < 0)), .n true .u64 (lm w)]⟩, ⟨66, 2, 0, true, [.b (decide (g < 0)), .n false .u64 (lm g)]⟩, ⟨66, 2, 0, true, [.b (decide ((x % qn w g) < 0)), .n true .u64 (lm (x % qn w g))]⟩, ⟨66, 2, 0, true, [.b (decide ((wq 0 (g - v * (x % qn w g)) w) < 0)), .n true .u64 (lm (wq 0 (g - v * (x % qn w g)) w))]⟩, ⟨66, 2, 0, true, [.b (decide (g < 0)), .n false .u64 (lm g)]⟩, ⟨66, 2, 0, true, [.b (decide ((x % qn w g) < 0)), .n true .u64 (lm (x % qn w g))]⟩, ⟨66, 2, 0, true, [.b (decide ((v * (x % qn w g)) < 0)), .n true .u64 (lm (v * (x % qn w g)))]⟩, ⟨66, 2, 0, true, [.b (decide ((g - v * (x % qn w g)) < 0)), .n true .u64 (lm (g - v * (x % qn w g)))]⟩, ⟨66, 2, 0, true, [.b (decide ((wq 0 (g - v * (x % qn w g)) w) < 0)), .n true .u64 (lm (wq 0 (g - v * (x % qn w g)) w))]⟩, ⟨66, 2, 0, true, [.b (decide (((g - v * (x % qn w g)) - wq 0 (g - v * (x % qn w g)) w * w) < 0)), .n true .u64 (lm ((g - v * (x % qn w g)) - wq 0 (g - v * (x % qn w g)) w * w))]⟩] Q1 := by
      subst ho; subst hq; subst hF; refine ja_nil (by kernel_rfl) ?_; refine jc_ret ?_
      refine ⟨_, _, (.cons (ResV.cell agg30 rfl rfl rfl rfl) (.cons (ResV.cell agg30 rfl rfl rfl rfl) (.cons (ResV.cell agg30 rfl rfl rfl rfl) (.cons rfl .nil)))), (.t1 (.a1 .b (.a1 .nn .a0)) (.t1 (.a1 .b (.a1 .nn .a0)) (.t1 (.a1 .b (.a1 .nn .a0)) (.t1 .i .t0)))), ?_⟩
      exact ⟨g, x, rfl, hE⟩
    have S16_1111110 : JA Try.prog ops1 1 #[true, true, true, true, true, true, false] Γ ([(113, .a [.b (decide (g < 0)), .n false .u64 (lm g)]), (114, .a [.b (decide ((x % qn w g) < 0)), .n true .u64 (lm (x % qn w g))]), (115, .a [.b (decide ((wq 0 (g - v * (x % qn w g)) w) < 0)), .n true .u64 (lm (wq 0 (g - v * (x % qn w g)) w))])] ++ F0) [⟨66, 2, 0, true, [.b (decide (v < 0)), .n true .u64 (lm v)]⟩, ⟨66, 2, 0, true, [.b (decide (w < 0)), .n true .u64 (lm w)]⟩, ⟨66, 2, 0, true, [.b (decide (g < 0)), .n false .u64 (lm g)]⟩, ⟨66, 2, 0, true, [.b (decide ((x % qn w g) < 0)), .n true .u64 (lm (x % qn w g))]⟩, ⟨66, 2, 0, true, [.b (decide ((wq 0 (g - v * (x % qn w g)) w) < 0)), .n true .u64 (lm (wq 0 (g - v * (x % qn w g)) w))]⟩, ⟨66, 2, 0, true, [.b (decide (g < 0)), .n false .u64 (lm g)]⟩, ⟨66, 2, 0, true, [.b (decide ((x % qn w g) < 0)), .n true .u64 (lm (x % qn w g))]⟩, ⟨66, 2, 0, true, [.b (decide ((v * (x % qn w g)) < 0)), .n true .u64 (lm (v * (x % qn w g)))]⟩, ⟨66, 2, 0, true, [.b (decide ((g - v * (x % qn w g)) < 0)), .n true .u64 (lm (g - v * (x % qn w g)))]⟩, ⟨66, 2, 0, true, [.b (decide ((wq 0 (g - v * (x % qn w g)) w) < 0)), .n true .u64 (lm (wq 0 (g - v * (x % qn w g)) w))]⟩, ⟨66, 2, 0, true, [.b (decide (((g - v * (x % qn w g)) - wq 0 (g - v * (x % qn w g)) w * w) < 0)), .n true .u64 (lm ((g - v * (x % qn w g)) - wq 0 (g - v * (x % qn w g)) w * w))]⟩] Q1 := by
      subst ho; subst hF; refine ja_l2 6 [] (lo_as rfl (hd 7 rfl)) rfl (by kernel_rfl) (by kernel_rfl) (by kernel_rfl) (by kernel_rfl) hpan ?_
      refine ja_to (m := [(7, .i .i64 0), (113, .a [.b (decide (g < 0)), .n false .u64 (lm g)]), (114, .a [.b (decide ((x % qn w g) < 0)), .n true .u64 (lm (x % qn w g))]), (115, .a [.b (decide ((wq 0 (g - v * (x % qn w g)) w) < 0)), .n true .u64 (lm (wq 0 (g - v * (x % qn w g)) w))])]) (by decide) rfl (cov_n 4 rfl rfl (.cons rfl (.cons rfl (.cons rfl (.cons rfl .nil))))) S16_1111111
    have S16_1111100 : JA Try.prog ops1 2 #[true, true, true, true, true, false, false] Γ ([(113, .a [.b (decide (g < 0)), .n false .u64 (lm g)]), (114, .a [.b (decide ((x % qn w g) < 0)), .n true .u64 (lm (x % qn w g))]), (115, .a [.b (decide ((wq 0 (g - v * (x % qn w g)) w) < 0)), .n true .u64 (lm (wq 0 (g - v * (x % qn w g)) w))])] ++ F0) [⟨66, 2, 0, true, [.b (decide (v < 0)), .n true .u64 (lm v)]⟩, ⟨66, 2, 0, true, [.b (decide (w < 0)), .n true .u64 (lm w)]⟩, ⟨66, 2, 0, true, [.b (decide (g < 0)), .n false .u64 (lm g)]⟩, ⟨66, 2, 0, true, [.b (decide ((x % qn w g) < 0)), .n true .u64 (lm (x % qn w g))]⟩, ⟨66, 2, 0, true, [.b false, .c (.slice none 0 0)]⟩, ⟨66, 2, 0, true, [.b (decide (g < 0)), .n false .u64 (lm g)]⟩, ⟨66, 2, 0, true, [.b (decide ((x % qn w g) < 0)), .n true .u64 (lm (x % qn w g))]⟩, ⟨66, 2, 0, true, [.b (decide ((v * (x % qn w g)) < 0)), .n true .u64 (lm (v * (x % qn w g)))]⟩, ⟨66, 2, 0, true, [.b (decide ((g - v * (x % qn w g)) < 0)), .n true .u64 (lm (g - v * (x % qn w g)))]⟩, ⟨66, 2, 0, true, [.b (decide ((wq 0 (g - v * (x % qn w g)) w) < 0)), .n true .u64 (lm (wq 0 (g - v * (x % qn w g)) w))]⟩, ⟨66, 2, 0, true, [.b (decide (((g - v * (x % qn w g)) - wq 0 (g - v * (x % qn w g)) w * w) < 0)), .n true .u64 (lm ((g - v * (x % qn w g)) - wq 0 (g - v * (x % qn w g)) w * w))]⟩] Q1 := by
      subst ho; subst hF
      refine ja_1 5 ?_ rfl (by kernel_rfl)
      refine js_st (sy_store rfl rfl rfl siz30 rfl rfl (Nat.le_of_ble_eq_true rfl)) rfl ?_
      refine ja_to (m := [(113, .a [.b (decide (g < 0)), .n false .u64 (lm g)]), (114, .a [.b (decide ((x % qn w g) < 0)), .n true .u64 (lm (x % qn w g))]), (115, .a [.b (decide ((wq 0 (g - v * (x % qn w g)) w) < 0)), .n true .u64 (lm (wq 0 (g - v * (x % qn w g)) w))])]) (by decide) rfl (cov_n 3 rfl rfl (.cons rfl (.cons rfl (.cons rfl .nil)))) S16_1111110
    have S16_1111000 : JA Try.prog ops1 3 #[true, true, true, true, false, false, false] Γ ([(113, .a [.b (decide (g < 0)), .n false .u64 (lm g)]), (114, .a [.b (decide ((x % qn w g) < 0)), .n true .u64 (lm (x % qn w g))]), (115, .a [.b (decide ((wq 0 (g - v * (x % qn w g)) w) < 0)), .n true .u64 (lm (wq 0 (g - v * (x % qn w g)) w))])] ++ F0) [⟨66, 2, 0, true, [.b (decide (v < 0)), .n true .u64 (lm v)]⟩, ⟨66, 2, 0, true, [.b (decide (w < 0)), .n true .u64 (lm w)]⟩, ⟨66, 2, 0, true, [.b (decide (g < 0)), .n false .u64 (lm g)]⟩, ⟨66, 2, 0, true, [.b false, .c (.slice none 0 0)]⟩, ⟨66, 2, 0, true, [.b false, .c (.slice none 0 0)]⟩, ⟨66, 2, 0, true, [.b (decide (g < 0)), .n false .u64 (lm g)]⟩, ⟨66, 2, 0, true, [.b (decide ((x % qn w g) < 0)), .n true .u64 (lm (x % qn w g))]⟩, ⟨66, 2, 0, true, [.b (decide ((v * (x % qn w g)) < 0)), .n true .u64 (lm (v * (x % qn w g)))]⟩, ⟨66, 2, 0, true, [.b (decide ((g - v * (x % qn w g)) < 0)), .n true .u64 (lm (g - v * (x % qn w g)))]⟩, ⟨66, 2, 0, true, [.b (decide ((wq 0 (g - v * (x % qn w g)) w) < 0)), .n true .u64 (lm (wq 0 (g - v * (x % qn w g)) w))]⟩, ⟨66, 2, 0, true, [.b (decide (((g - v * (x % qn w g)) - wq 0 (g - v * (x % qn w g)) w * w) < 0)), .n true .u64 (lm ((g - v * (x % qn w g)) - wq 0 (g - v * (x % qn w g)) w * w))]⟩] Q1 := by
      subst ho; subst hF
      refine ja_1 4 ?_ rfl (by kernel_rfl)
      refine js_st (sy_store rfl rfl rfl siz30 rfl rfl (Nat.le_of_ble_eq_true rfl)) rfl ?_
      refine ja_to (m := [(113, .a [.b (decide (g < 0)), .n false .u64 (lm g)]), (114, .a [.b (decide ((x % qn w g) < 0)), .n true .u64 (lm (x % qn w g))]), (115, .a [.b (decide ((wq 0 (g - v * (x % qn w g)) w) < 0)), .n true .u64 (lm (wq 0 (g - v * (x % qn w g)) w))])]) (by decide) rfl (cov_n 3 rfl rfl (.cons rfl (.cons rfl (.cons rfl .nil)))) S16_1111100
    have S16_1110000 : JA Try.prog ops1 4 #[true, true, true, false, false, false, false] Γ ([(113, .a [.b (decide (g < 0)), .n false .u64 (lm g)]), (114, .a [.b (decide ((x % qn w g) < 0)), .n true .u64 (lm (x % qn w g))]), (115, .a [.b (decide ((wq 0 (g - v * (x % qn w g)) w) < 0)), .n true .u64 (lm (wq 0 (g - v * (x % qn w g)) w))])] ++ F0) [⟨66, 2, 0, true, [.b (decide (v < 0)), .n true .u64 (lm v)]⟩, ⟨66, 2, 0, true, [.b (decide (w < 0)), .n true .u64 (lm w)]⟩, ⟨66, 2, 0, true, [.b false, .c (.slice none 0 0)]⟩, ⟨66, 2, 0, true, [.b false, .c (.slice none 0 0)]⟩, ⟨66, 2, 0, true, [.b false, .c (.slice none 0 0)]⟩, ⟨66, 2, 0, true, [.b (decide (g < 0)), .n false .u64 (lm g)]⟩, ⟨66, 2, 0, true, [.b (decide ((x % qn w g) < 0)), .n true .u64 (lm (x % qn w g))]⟩, ⟨66, 2, 0, true, [.b (decide ((v * (x % qn w g)) < 0)), .n true .u64 (lm (v * (x % qn w g)))]⟩, ⟨66, 2, 0, true, [.b (decide ((g - v * (x % qn w g)) < 0)), .n true .u64 (lm (g - v * (x % qn w g)))]⟩, ⟨66, 2, 0, true, [.b (decide ((wq 0 (g - v * (x % qn w g)) w) < 0)), .n true .u64 (lm (wq 0 (g - v * (x % qn w g)) w))]⟩, ⟨66, 2, 0, true, [.b (decide (((g - v * (x % qn w g)) - wq 0 (g - v * (x % qn w g)) w * w) < 0)), .n true .u64 (lm ((g - v * (x % qn w g)) - wq 0 (g - v * (x % qn w g)) w * w))]⟩] Q1 := by
      subst ho; subst hF
      refine ja_1 3 ?_ rfl (by kernel_rfl)
      refine js_st (sy_store rfl rfl rfl siz30 rfl rfl (Nat.le_of_ble_eq_true rfl)) rfl ?_
      refine ja_to (m := [(113, .a [.b (decide (g < 0)), .n false .u64 (lm g)]), (114, .a [.b (decide ((x % qn w g) < 0)), .n true .u64 (lm (x % qn w g))]), (115, .a [.b (decide ((wq 0 (g - v * (x % qn w g)) w) < 0)), .n true .u64 (lm (wq 0 (g - v * (x % qn w g)) w))])]) (by decide) rfl (cov_n 3 rfl rfl (.cons rfl (.cons rfl (.cons rfl .nil)))) S16_1111000
    have S16_1101100 : JA Try.prog ops1 3 #[true, true, false, true, true, false, false] Γ ([(113, .a [.b (decide (g < 0)), .n false .u64 (lm g)]), (114, .a [.b (decide ((x % qn w g) < 0)), .n true .u64 (lm (x % qn w g))])] ++ F0) [⟨66, 2, 0, true, [.b (decide (v < 0)), .n true .u64 (lm v)]⟩, ⟨66, 2, 0, true, [.b (decide (w < 0)), .n true .u64 (lm w)]⟩, ⟨66, 2, 0, true, [.b (decide (g < 0)), .n false .u64 (lm g)]⟩, ⟨66, 2, 0, true, [.b (decide ((x % qn w g) < 0)), .n true .u64 (lm (x % qn w g))]⟩, ⟨66, 2, 0, true, [.b false, .c (.slice none 0 0)]⟩, ⟨66, 2, 0, true, [.b (decide (g < 0)), .n false .u64 (lm g)]⟩, ⟨66, 2, 0, true, [.b (decide ((x % qn w g) < 0)), .n true .u64 (lm (x % qn w g))]⟩, ⟨66, 2, 0, true, [.b (decide ((v * (x % qn w g)) < 0)), .n true .u64 (lm (v * (x % qn w g)))]⟩, ⟨66, 2, 0, true, [.b (decide ((g - v * (x % qn w g)) < 0)), .n true .u64 (lm (g - v * (x % qn w g)))]⟩, ⟨66, 2, 0, true, [.b (decide ((wq 0 (g - v * (x % qn w g)) w) < 0)), .n true .u64 (lm (wq 0 (g - v * (x % qn w g)) w))]⟩, ⟨66, 2, 0, true, [.b (decide (((g - v * (x % qn w g)) - wq 0 (g - v * (x % qn w g)) w * w) < 0)), .n true .u64 (lm ((g - v * (x % qn w g)) - wq 0 (g - v * (x % qn w g)) w * w))]⟩] Q1 := by
      subst ho; subst hF; refine ja_l2 2 [5, 6] (lo_l (ly_lda agg30 rfl rfl rfl rfl) (hd 115 rfl)) rfl (by kernel_rfl) (by kernel_rfl) (by kernel_rfl) (by kernel_rfl) hpan ?_
      refine ja_to (m := [(113, .a [.b (decide (g < 0)), .n false .u64 (lm g)]), (114, .a [.b (decide ((x % qn w g) < 0)), .n true .u64 (lm (x % qn w g))]), (115, .a [.b (decide ((wq 0 (g - v * (x % qn w g)) w) < 0)), .n true .u64 (lm (wq 0 (g - v * (x % qn w g)) w))])]) (by decide) rfl (cov_n 3 rfl rfl (.cons rfl (.cons rfl (.cons rfl .nil)))) S16_1111100
    have S16_1101000 : JA Try.prog ops1 4 #[true, true, false, true, false, false, false] Γ ([(113, .a [.b (decide (g < 0)), .n false .u64 (lm g)]), (114, .a [.b (decide ((x % qn w g) < 0)), .n true .u64 (lm (x % qn w g))])] ++ F0) [⟨66, 2, 0, true, [.b (decide (v < 0)), .n true .u64 (lm v)]⟩, ⟨66, 2, 0, true, [.b (decide (w < 0)), .n true .u64 (lm w)]⟩, ⟨66, 2, 0, true, [.b (decide (g < 0)), .n false .u64 (lm g)]⟩, ⟨66, 2, 0, true, [.b false, .c (.slice none 0 0)]⟩, ⟨66, 2, 0, true, [.b false, .c (.slice none 0 0)]⟩, ⟨66, 2, 0, true, [.b (decide (g < 0)), .n false .u64 (lm g)]⟩, ⟨66, 2, 0, true, [.b (decide ((x % qn w g) < 0)), .n true .u64 (lm (x % qn w g))]⟩, ⟨66, 2, 0, true, [.b (decide ((v * (x % qn w g)) < 0)), .n true .u64 (lm (v * (x % qn w g)))]⟩, ⟨66, 2, 0, true, [.b (decide ((g - v * (x % qn w g)) < 0)), .n true .u64 (lm (g - v * (x % qn w g)))]⟩, ⟨66, 2, 0, true, [.b (decide ((wq 0 (g - v * (x % qn w g)) w) < 0)), .n true .u64 (lm (wq 0 (g - v * (x % qn w g)) w))]⟩, ⟨66, 2, 0, true, [.b (decide (((g - v * (x % qn w g)) - wq 0 (g - v * (x % qn w g)) w * w) < 0)), .n true .u64 (lm ((g - v * (x % qn w g)) - wq 0 (g - v * (x % qn w g)) w * w))]⟩] Q1 := by
      subst ho; subst hF
      refine ja_2 2 4 ?_ ?_ rfl rfl (by kernel_rfl)
      · refine js_l (ly_lda agg30 rfl rfl rfl rfl) (hd 115 rfl) ?_
        refine ja_to (m := [(113, .a [.b (decide (g < 0)), .n false .u64 (lm g)]), (114, .a [.b (decide ((x % qn w g) < 0)), .n true .u64 (lm (x % qn w g))]), (115, .a [.b (decide ((wq 0 (g - v * (x % qn w g)) w) < 0)), .n true .u64 (lm (wq 0 (g - v * (x % qn w g)) w))])]) (by decide) rfl (cov_n 3 rfl rfl (.cons rfl (.cons rfl (.cons rfl .nil)))) S16_1111000
      · refine js_st (sy_store rfl rfl rfl siz30 rfl rfl (Nat.le_of_ble_eq_true rfl)) rfl ?_
        refine ja_to (m := [(113, .a [.b (decide (g < 0)), .n false .u64 (lm g)]), (114, .a [.b (decide ((x % qn w g) < 0)), .n true .u64 (lm (x % qn w g))])]) (by decide) rfl (cov_n 2 rfl rfl (.cons rfl (.cons rfl .nil))) S16_1101100
    have S16_1100000 : JA Try.prog ops1 5 #[true, true, false, false, false, false, false] Γ ([(113, .a [.b (decide (g < 0)), .n false .u64 (lm g)]), (114, .a [.b (decide ((x % qn w g) < 0)), .n true .u64 (lm (x % qn w g))])] ++ F0) [⟨66, 2, 0, true, [.b (decide (v < 0)), .n true .u64 (lm v)]⟩, ⟨66, 2, 0, true, [.b (decide (w < 0)), .n true .u64 (lm w)]⟩, ⟨66, 2, 0, true, [.b false, .c (.slice none 0 0)]⟩, ⟨66, 2, 0, true, [.b false, .c (.slice none 0 0)]⟩, ⟨66, 2, 0, true, [.b false, .c (.slice none 0 0)]⟩, ⟨66, 2, 0, true, [.b (decide (g < 0)), .n false .u64 (lm g)]⟩, ⟨66, 2, 0, true, [.b (decide ((x % qn w g) < 0)), .n true .u64 (lm (x % qn w g))]⟩, ⟨66, 2, 0, true, [.b (decide ((v * (x % qn w g)) < 0)), .n true .u64 (lm (v * (x % qn w g)))]⟩, ⟨66, 2, 0, true, [.b (decide ((g - v * (x % qn w g)) < 0)), .n true .u64 (lm (g - v * (x % qn w g)))]⟩, ⟨66, 2, 0, true, [.b (decide ((wq 0 (g - v * (x % qn w g)) w) < 0)), .n true .u64 (lm (wq 0 (g - v * (x % qn w g)) w))]⟩, ⟨66, 2, 0, true, [.b (decide (((g - v * (x % qn w g)) - wq 0 (g - v * (x % qn w g)) w * w) < 0)), .n true .u64 (lm ((g - v * (x % qn w g)) - wq 0 (g - v * (x % qn w g)) w * w))]⟩] Q1 := by
      subst ho; subst hF
      refine ja_2 2 3 ?_ ?_ rfl rfl (by kernel_rfl)
      · refine js_l (ly_lda agg30 rfl rfl rfl rfl) (hd 115 rfl) ?_
        refine ja_to (m := [(113, .a [.b (decide (g < 0)), .n false .u64 (lm g)]), (114, .a [.b (decide ((x % qn w g) < 0)), .n true .u64 (lm (x % qn w g))]), (115, .a [.b (decide ((wq 0 (g - v * (x % qn w g)) w) < 0)), .n true .u64 (lm (wq 0 (g - v * (x % qn w g)) w))])]) (by decide) rfl (cov_n 3 rfl rfl (.cons rfl (.cons rfl (.cons rfl .nil)))) S16_1110000
      · refine js_st (sy_store rfl rfl rfl siz30 rfl rfl (Nat.le_of_ble_eq_true rfl)) rfl ?_
        refine ja_to (m := [(113, .a [.b (decide (g < 0)), .n false .u64 (lm g)]), (114, .a [.b (decide ((x % qn w g) < 0)), .n true .u64 (lm (x % qn w g))])]) (by decide) rfl (cov_n 2 rfl rfl (.cons rfl (.cons rfl .nil))) S16_1101000
    have S16_1011000 : JA Try.prog ops1 4 #[true, false, true, true, false, false, false] Γ ([(113, .a [.b (decide (g < 0)), .n false .u64 (lm g)]), (115, .a [.b (decide ((wq 0 (g - v * (x % qn w g)) w) < 0)), .n true .u64 (lm (wq 0 (g - v * (x % qn w g)) w))])] ++ F0) [⟨66, 2, 0, true, [.b (decide (v < 0)), .n true .u64 (lm v)]⟩, ⟨66, 2, 0, true, [.b (decide (w < 0)), .n true .u64 (lm w)]⟩, ⟨66, 2, 0, true, [.b (decide (g < 0)), .n false .u64 (lm g)]⟩, ⟨66, 2, 0, true, [.b false, .c (.slice none 0 0)]⟩, ⟨66, 2, 0, true, [.b false, .c (.slice none 0 0)]⟩, ⟨66, 2, 0, true, [.b (decide (g < 0)), .n false .u64 (lm g)]⟩, ⟨66, 2, 0, true, [.b (decide ((x % qn w g) < 0)), .n true .u64 (lm (x % qn w g))]⟩, ⟨66, 2, 0, true, [.b (decide ((v * (x % qn w g)) < 0)), .n true .u64 (lm (v * (x % qn w g)))]⟩, ⟨66, 2, 0, true, [.b (decide ((g - v * (x % qn w g)) < 0)), .n true .u64 (lm (g - v * (x % qn w g)))]⟩, ⟨66, 2, 0, true, [.b (decide ((wq 0 (g - v * (x % qn w g)) w) < 0)), .n true .u64 (lm (wq 0 (g - v * (x % qn w g)) w))]⟩, ⟨66, 2, 0, true, [.b (decide (((g - v * (x % qn w g)) - wq 0 (g - v * (x % qn w g)) w * w) < 0)), .n true .u64 (lm ((g - v * (x % qn w g)) - wq 0 (g - v * (x % qn w g)) w * w))]⟩] Q1 := by
      subst ho; subst hF; refine ja_l2 1 [4, 5, 6] (lo_l (ly_lda agg30 rfl rfl rfl rfl) (hd 114 rfl)) rfl (by kernel_rfl) (by kernel_rfl) (by kernel_rfl) (by kernel_rfl) hpan ?_
      refine ja_to (m := [(113, .a [.b (decide (g < 0)), .n false .u64 (lm g)]), (114, .a [.b (decide ((x % qn w g) < 0)), .n true .u64 (lm (x % qn w g))]), (115, .a [.b (decide ((wq 0 (g - v * (x % qn w g)) w) < 0)), .n true .u64 (lm (wq 0 (g - v * (x % qn w g)) w))])]) (by decide) rfl (cov_n 3 rfl rfl (.cons rfl (.cons rfl (.cons rfl .nil)))) S16_1111000
    have S16_1010000 : JA Try.prog ops1 5 #[true, false, true, false, false, false, false] Γ ([(113, .a [.b (decide (g < 0)), .n false .u64 (lm g)]), (115, .a [.b (decide ((wq 0 (g - v * (x % qn w g)) w) < 0)), .n true .u64 (lm (wq 0 (g - v * (x % qn w g)) w))])] ++ F0) [⟨66, 2, 0, true, [.b (decide (v < 0)), .n true .u64 (lm v)]⟩, ⟨66, 2, 0, true, [.b (decide (w < 0)), .n true .u64 (lm w)]⟩, ⟨66, 2, 0, true, [.b false, .c (.slice none 0 0)]⟩, ⟨66, 2, 0, true, [.b false, .c (.slice none 0 0)]⟩, ⟨66, 2, 0, true, [.b false, .c (.slice none 0 0)]⟩, ⟨66, 2, 0, true, [.b (decide (g < 0)), .n false .u64 (lm g)]⟩, ⟨66, 2, 0, true, [.b (decide ((x % qn w g) < 0)), .n true .u64 (lm (x % qn w g))]⟩, ⟨66, 2, 0, true, [.b (decide ((v * (x % qn w g)) < 0)), .n true .u64 (lm (v * (x % qn w g)))]⟩, ⟨66, 2, 0, true, [.b (decide ((g - v * (x % qn w g)) < 0)), .n true .u64 (lm (g - v * (x % qn w g)))]⟩, ⟨66, 2, 0, true, [.b (decide ((wq 0 (g - v * (x % qn w g)) w) < 0)), .n true .u64 (lm (wq 0 (g - v * (x % qn w g)) w))]⟩, ⟨66, 2, 0, true, [.b (decide (((g - v * (x % qn w g)) - wq 0 (g - v * (x % qn w g)) w * w) < 0)), .n true .u64 (lm ((g - v * (x % qn w g)) - wq 0 (g - v * (x % qn w g)) w * w))]⟩] Q1 := by
      subst ho; subst hF
      refine ja_2 1 3 ?_ ?_ rfl rfl (by kernel_rfl)
      · refine js_l (ly_lda agg30 rfl rfl rfl rfl) (hd 114 rfl) ?_
        refine ja_to (m := [(113, .a [.b (decide (g < 0)), .n false .u64 (lm g)]), (114, .a [.b (decide ((x % qn w g) < 0)), .n true .u64 (lm (x % qn w g))]), (115, .a [.b (decide ((wq 0 (g - v * (x % qn w g)) w) < 0)), .n true .u64 (lm (wq 0 (g - v * (x % qn w g)) w))])]) (by decide) rfl (cov_n 3 rfl rfl (.cons rfl (.cons rfl (.cons rfl .nil)))) S16_1110000
      · refine js_st (sy_store rfl rfl rfl siz30 rfl rfl (Nat.le_of_ble_eq_true rfl)) rfl ?_
        refine ja_to (m := [(113, .a [.b (decide (g < 0)), .n false .u64 (lm g)]), (115, .a [.b (decide ((wq 0 (g - v * (x % qn w g)) w) < 0)), .n true .u64 (lm (wq 0 (g - v * (x % qn w g)) w))])]) (by decide) rfl (cov_n 2 rfl rfl (.cons rfl (.cons rfl .nil))) S16_1011000
    have S16_1001000 : JA Try.prog ops1 5 #[true, false, false, true, false, false, false] Γ ([(113, .a [.b (decide (g < 0)), .n false .u64 (lm g)])] ++ F0) [⟨66, 2, 0, true, [.b (decide (v < 0)), .n true .u64 (lm v)]⟩, ⟨66, 2, 0, true, [.b (decide (w < 0)), .n true .u64 (lm w)]⟩, ⟨66, 2, 0, true, [.b (decide (g < 0)), .n false .u64 (lm g)]⟩, ⟨66, 2, 0, true, [.b false, .c (.slice none 0 0)]⟩, ⟨66, 2, 0, true, [.b false, .c (.slice none 0 0)]⟩, ⟨66, 2, 0, true, [.b (decide (g < 0)), .n false .u64 (lm g)]⟩, ⟨66, 2, 0, true, [.b (decide ((x % qn w g) < 0)), .n true .u64 (lm (x % qn w g))]⟩, ⟨66, 2, 0, true, [.b (decide ((v * (x % qn w g)) < 0)), .n true .u64 (lm (v * (x % qn w g)))]⟩, ⟨66, 2, 0, true, [.b (decide ((g - v * (x % qn w g)) < 0)), .n true .u64 (lm (g - v * (x % qn w g)))]⟩, ⟨66, 2, 0, true, [.b (decide ((wq 0 (g - v * (x % qn w g)) w) < 0)), .n true .u64 (lm (wq 0 (g - v * (x % qn w g)) w))]⟩, ⟨66, 2, 0, true, [.b (decide (((g - v * (x % qn w g)) - wq 0 (g - v * (x % qn w g)) w * w) < 0)), .n true .u64 (lm ((g - v * (x % qn w g)) - wq 0 (g - v * (x % qn w g)) w * w))]⟩] Q1 := by
      subst ho; subst hF; refine ja_l2 1 [4, 5, 6] (lo_l (ly_lda agg30 rfl rfl rfl rfl) (hd 114 rfl)) rfl (by kernel_rfl) (by kernel_rfl) (by kernel_rfl) (by kernel_rfl) hpan ?_
      refine ja_to (m := [(113, .a [.b (decide (g < 0)), .n false .u64 (lm g)]), (114, .a [.b (decide ((x % qn w g) < 0)), .n true .u64 (lm (x % qn w g))])]) (by decide) rfl (cov_n 2 rfl rfl (.cons rfl (.cons rfl .nil))) S16_1101000
    have S16_1000000 : JA Try.prog ops1 6 #[true, false, false, false, false, false, false] Γ ([(113, .a [.b (decide (g < 0)), .n false .u64 (lm g)])] ++ F0) [⟨66, 2, 0, true, [.b (decide (v < 0)), .n true .u64 (lm v)]⟩, ⟨66, 2, 0, true, [.b (decide (w < 0)), .n true .u64 (lm w)]⟩, ⟨66, 2, 0, true, [.b false, .c (.slice none 0 0)]⟩, ⟨66, 2, 0, true, [.b false, .c (.slice none 0 0)]⟩, ⟨66, 2, 0, true, [.b false, .c (.slice none 0 0)]⟩, ⟨66, 2, 0, true, [.b (decide (g < 0)), .n false .u64 (lm g)]⟩, ⟨66, 2, 0, true, [.b (decide ((x % qn w g) < 0)), .n true .u64 (lm (x % qn w g))]⟩, ⟨66, 2, 0, true, [.b (decide ((v * (x % qn w g)) < 0)), .n true .u64 (lm (v * (x % qn w g)))]⟩, ⟨66, 2, 0, true, [.b (decide ((g - v * (x % qn w g)) < 0)), .n true .u64 (lm (g - v * (x % qn w g)))]⟩, ⟨66, 2, 0, true, [.b (decide ((wq 0 (g - v * (x % qn w g)) w) < 0)), .n true .u64 (lm (wq 0 (g - v * (x % qn w g)) w))]⟩, ⟨66, 2, 0, true, [.b (decide (((g - v * (x % qn w g)) - wq 0 (g - v * (x % qn w g)) w * w) < 0)), .n true .u64 (lm ((g - v * (x % qn w g)) - wq 0 (g - v * (x % qn w g)) w * w))]⟩] Q1 := by
      subst ho; subst hF
      refine ja_3 1 2 3 ?_ ?_ ?_ rfl rfl rfl (by kernel_rfl)
      · refine js_l (ly_lda agg30 rfl rfl rfl rfl) (hd 114 rfl) ?_
        refine ja_to (m := [(113, .a [.b (decide (g < 0)), .n false .u64 (lm g)]), (114, .a [.b (decide ((x % qn w g) < 0)), .n true .u64 (lm (x % qn w g))])]) (by decide) rfl (cov_n 2 rfl rfl (.cons rfl (.cons rfl .nil))) S16_1100000
      · refine js_l (ly_lda agg30 rfl rfl rfl rfl) (hd 115 rfl) ?_
        refine ja_to (m := [(113, .a [.b (decide (g < 0)), .n false .u64 (lm g)]), (115, .a [.b (decide ((wq 0 (g - v * (x % qn w g)) w) < 0)), .n true .u64 (lm (wq 0 (g - v * (x % qn w g)) w))])]) (by decide) rfl (cov_n 2 rfl rfl (.cons rfl (.cons rfl .nil))) S16_1010000
      · refine js_st (sy_store rfl rfl rfl siz30 rfl rfl (Nat.le_of_ble_eq_true rfl)) rfl ?_
        refine ja_to (m := [(113, .a [.b (decide (g < 0)), .n false .u64 (lm g)])]) (by decide) rfl (cov_n 1 rfl rfl (.cons rfl .nil)) S16_1001000
    have S16_0000000 : JA Try.prog ops1 7 #[false, false, false, false, false, false, false] Γ ([] ++ F0) [⟨66, 2, 0, true, [.b (decide (v < 0)), .n true .u64 (lm v)]⟩, ⟨66, 2, 0, true, [.b (decide (w < 0)), .n true .u64 (lm w)]⟩, ⟨66, 2, 0, true, [.b false, .c (.slice none 0 0)]⟩, ⟨66, 2, 0, true, [.b false, .c (.slice none 0 0)]⟩, ⟨66, 2, 0, true, [.b false, .c (.slice none 0 0)]⟩, ⟨66, 2, 0, true, [.b (decide (g < 0)), .n false .u64 (lm g)]⟩, ⟨66, 2, 0, true, [.b (decide ((x % qn w g) < 0)), .n true .u64 (lm (x % qn w g))]⟩, ⟨66, 2, 0, true, [.b (decide ((v * (x % qn w g)) < 0)), .n true .u64 (lm (v * (x % qn w g)))]⟩, ⟨66, 2, 0, true, [.b (decide ((g - v * (x % qn w g)) < 0)), .n true .u64 (lm (g - v * (x % qn w g)))]⟩, ⟨66, 2, 0, true, [.b (decide ((wq 0 (g - v * (x % qn w g)) w) < 0)), .n true .u64 (lm (wq 0 (g - v * (x % qn w g)) w))]⟩, ⟨66, 2, 0, true, [.b (decide (((g - v * (x % qn w g)) - wq 0 (g - v * (x % qn w g)) w * w) < 0)), .n true .u64 (lm ((g - v * (x % qn w g)) - wq 0 (g - v * (x % qn w g)) w * w))]⟩] Q1 := by
      subst ho; subst hF; refine ja_l2 0 [3, 4, 5, 6] (lo_l (ly_lda agg30 rfl rfl rfl rfl) (hd 113 rfl)) rfl (by kernel_rfl) (by kernel_rfl) (by kernel_rfl) (by kernel_rfl) hpan ?_
      refine ja_to (m := [(113, .a [.b (decide (g < 0)), .n false .u64 (lm g)])]) (by decide) rfl (cov_n 1 rfl rfl (.cons rfl .nil)) S16_1000000
    subst ho; subst hF
    exact ja_to (m := []) (by decide) rfl (cov_n 0 rfl rfl .nil) S16_0000000
  have S1_111110 : JA Try.prog ops1 1 #[true, true, true, true, true, false] Γ ([(18, .a [.b sa, .n false .u64 a]), (19, .a [.b (decide (v < 0)), .n true .u64 (lm v)]), (20, .a [.b sb, .n false .u64 b]), (21, .a [.b (decide (w < 0)), .n true .u64 (lm w)])] ++ F0) [⟨66, 2, 0, true, [.b (decide (v < 0)), .n true .u64 (lm v)]⟩, ⟨66, 2, 0, true, [.b sb, .n false .u64 b]⟩, ⟨66, 2, 0, true, [.b false, .c (.slice none 0 0)]⟩, ⟨66, 2, 0, true, [.b false, .c (.slice none 0 0)]⟩, ⟨66, 2, 0, true, [.b false, .c (.slice none 0 0)]⟩] Q1 := by
    subst ho; subst hF
    refine ja_1 5 ?_ rfl (by kernel_rfl)
    refine js_st (sy_store rfl rfl rfl siz30 rfl rfl (Nat.le_of_ble_eq_true rfl)) rfl ?_
    refine ja_to (m := [(18, .a [.b sa, .n false .u64 a]), (19, .a [.b (decide (v < 0)), .n true .u64 (lm v)]), (20, .a [.b sb, .n false .u64 b]), (21, .a [.b (decide (w < 0)), .n true .u64 (lm w)])]) (by decide) rfl (cov_n 4 rfl rfl (.cons rfl (.cons rfl (.cons rfl (.cons rfl .nil))))) S1_111111
  have S1_111100 : JA Try.prog ops1 2 #[true, true, true, true, false, false] Γ ([(18, .a [.b sa, .n false .u64 a]), (19, .a [.b (decide (v < 0)), .n true .u64 (lm v)]), (20, .a [.b sb, .n false .u64 b]), (21, .a [.b (decide (w < 0)), .n true .u64 (lm w)])] ++ F0) [⟨66, 2, 0, true, [.b sa, .n false .u64 a]⟩, ⟨66, 2, 0, true, [.b sb, .n false .u64 b]⟩, ⟨66, 2, 0, true, [.b false, .c (.slice none 0 0)]⟩, ⟨66, 2, 0, true, [.b false, .c (.slice none 0 0)]⟩, ⟨66, 2, 0, true, [.b false, .c (.slice none 0 0)]⟩] Q1 := by
    subst ho; subst hF
    refine ja_1 4 ?_ rfl (by kernel_rfl)
    refine js_st (sy_store rfl rfl rfl siz30 rfl rfl (Nat.le_of_ble_eq_true rfl)) rfl ?_
    refine ja_to (m := [(18, .a [.b sa, .n false .u64 a]), (19, .a [.b (decide (v < 0)), .n true .u64 (lm v)]), (20, .a [.b sb, .n false .u64 b]), (21, .a [.b (decide (w < 0)), .n true .u64 (lm w)])]) (by decide) rfl (cov_n 4 rfl rfl (.cons rfl (.cons rfl (.cons rfl (.cons rfl .nil))))) S1_111110
  have S1_111000 : JA Try.prog ops1 3 #[true, true, true, false, false, false] Γ ([(18, .a [.b sa, .n false .u64 a]), (19, .a [.b (decide (v < 0)), .n true .u64 (lm v)]), (20, .a [.b sb, .n false .u64 b])] ++ F0) [⟨66, 2, 0, true, [.b sa, .n false .u64 a]⟩, ⟨66, 2, 0, true, [.b sb, .n false .u64 b]⟩, ⟨66, 2, 0, true, [.b false, .c (.slice none 0 0)]⟩, ⟨66, 2, 0, true, [.b false, .c (.slice none 0 0)]⟩, ⟨66, 2, 0, true, [.b false, .c (.slice none 0 0)]⟩] Q1 := by
    subst ho; subst hF
    refine ja_1 3 ?_ rfl (by kernel_rfl)
    refine js_call Try.f90 (norm_v sb b w (by omega) ub ew) rfl Try.func90 rfl rfl (ovL_cons rfl ovL_nil) (.cons (.a1 .b (.a1 .n .a0)) .nil) (hd 21 rfl) ?_ (fun ch hp => by simp at hp)
    rintro y hy; injection hy with hy; subst hy
    refine ja_to (m := [(18, .a [.b sa, .n false .u64 a]), (19, .a [.b (decide (v < 0)), .n true .u64 (lm v)]), (20, .a [.b sb, .n false .u64 b]), (21, .a [.b (decide (w < 0)), .n true .u64 (lm w)])]) (by decide) rfl (cov_n 4 rfl rfl (.cons rfl (.cons rfl (.cons rfl (.cons rfl .nil))))) S1_111100
  have S1_101000 : JA Try.prog ops1 4 #[true, false, true, false, false, false] Γ ([(18, .a [.b sa, .n false .u64 a]), (20, .a [.b sb, .n false .u64 b])] ++ F0) [⟨66, 2, 0, true, [.b sa, .n false .u64 a]⟩, ⟨66, 2, 0, true, [.b sb, .n false .u64 b]⟩, ⟨66, 2, 0, true, [.b false, .c (.slice none 0 0)]⟩, ⟨66, 2, 0, true, [.b false, .c (.slice none 0 0)]⟩, ⟨66, 2, 0, true, [.b false, .c (.slice none 0 0)]⟩] Q1 := by
    subst ho; subst hF
    refine ja_1 1 ?_ rfl (by kernel_rfl)
    refine js_call Try.f90 (norm_v sa a v (by omega) ua ev) rfl Try.func90 rfl rfl (ovL_cons rfl ovL_nil) (.cons (.a1 .b (.a1 .n .a0)) .nil) (hd 19 rfl) ?_ (fun ch hp => by simp at hp)
    rintro y hy; injection hy with hy; subst hy
    refine ja_to (m := [(18, .a [.b sa, .n false .u64 a]), (19, .a [.b (decide (v < 0)), .n true .u64 (lm v)]), (20, .a [.b sb, .n false .u64 b])]) (by decide) rfl (cov_n 3 rfl rfl (.cons rfl (.cons rfl (.cons rfl .nil)))) S1_111000
  have S1_100000 : JA Try.prog ops1 5 #[true, false, false, false, false, false] Γ ([(18, .a [.b sa, .n false .u64 a])] ++ F0) [⟨66, 2, 0, true, [.b sa, .n false .u64 a]⟩, ⟨66, 2, 0, true, [.b sb, .n false .u64 b]⟩, ⟨66, 2, 0, true, [.b false, .c (.slice none 0 0)]⟩, ⟨66, 2, 0, true, [.b false, .c (.slice none 0 0)]⟩, ⟨66, 2, 0, true, [.b false, .c (.slice none 0 0)]⟩] Q1 := by
    subst ho; subst hF; refine ja_l2 2 [3, 4, 5] (lo_l (ly_lda agg30 rfl rfl rfl rfl) (hd 20 rfl)) rfl (by kernel_rfl) (by kernel_rfl) (by kernel_rfl) (by kernel_rfl) hpan ?_
    refine ja_to (m := [(18, .a [.b sa, .n false .u64 a]), (20, .a [.b sb, .n false .u64 b])]) (by decide) rfl (cov_n 2 rfl rfl (.cons rfl (.cons rfl .nil))) S1_101000
  have S1_000000 : JA Try.prog ops1 6 #[false, false, false, false, false, false] Γ ([] ++ F0) [⟨66, 2, 0, true, [.b sa, .n false .u64 a]⟩, ⟨66, 2, 0, true, [.b sb, .n false .u64 b]⟩, ⟨66, 2, 0, true, [.b false, .c (.slice none 0 0)]⟩, ⟨66, 2, 0, true, [.b false, .c (.slice none 0 0)]⟩, ⟨66, 2, 0, true, [.b false, .c (.slice none 0 0)]⟩] Q1 := by
    subst ho; subst hF; refine ja_l2 0 [1, 3, 4, 5] (lo_l (ly_lda agg30 rfl rfl rfl rfl) (hd 18 rfl)) rfl (by kernel_rfl) (by kernel_rfl) (by kernel_rfl) (by kernel_rfl) hpan ?_
    refine ja_to (m := [(18, .a [.b sa, .n false .u64 a])]) (by decide) rfl (cov_n 1 rfl rfl (.cons rfl .nil)) S1_100000
  subst ho; subst hF
  exact ja_to (m := []) (by decide) rfl (cov_n 0 rfl rfl .nil) S1_000000
end Go.Proofs.Ytcfdclehmpfkcaa.Vc

/- Contracts of whole.Bezout of 0, Inverse. -/
namespace Go.Proofs.Ytcfdclehmpfkcaa.Vc
open Go Go.RowKit
set_option maxHeartbeats 4000000 in
set_option maxRecDepth 100000 in
theorem Bezout_0 (sa sb : Bool) (a b : List Int) (v : Int) (la : a.length < 4294967296) (lb : b.length < 4294967296) (ua : u64s a) (ub : u64s b) (ev : sv sa a = v) (ew : sv sb b = 0) (hab : lenV v ≤ 67108700) : Spec Try.prog 50 [.a [.b sa, .n false .u64 a], .a [.b sb, .n false .u64 b]] (fun o => o = .ret (.t [.a [.b false, .n false .u64 (lm v)], .a [.b (decide ((sgnI v) < 0)), .n false .u64 (lm (sgnI v))], .a [.b false, .n false .u64 []], .i .i64 0])) := by
  refine spec_of' [(0, .a [.b sa, .n false .u64 a]), (1, .a [.b sb, .n false .u64 b])] rfl Try.func50 rfl (Nat.le_of_ble_eq_true rfl) fun Γ hN hds hL hR => ?_
  have hd : ∀ d, Nat.blt d 116 = true → d < Γ.N := fun d h => by rw [hN]; exact Nat.le_of_ble_eq_true h
  have hlv := lenV_lm (v := v) (by omega)
  have hl0 : (lm 0).length = 0 := by rw [lm_0]; rfl
  have hsr := sgn_range v
  refine jc_seq ?_; refine jc_region ?_; refine jo_h (hy_box (id := 0) (n := 2) rfl rfl rfl (by decide) rfl) (hd 2 rfl) ?_; refine jo_h (hy_box (id := 1) (n := 2) rfl rfl rfl (by decide) rfl) (hd 3 rfl) ?_; refine jo_h (hy_alloc (id := 2) zero30 (by decide) rfl (by decide) rfl) (hd 4 rfl) ?_; refine jo_h (hy_alloc (id := 3) zero30 (by decide) rfl (by decide) rfl) (hd 5 rfl) ?_; refine jo_h (hy_alloc (id := 4) zero30 (by decide) rfl (by decide) rfl) (hd 6 rfl) ?_; refine jo_l (ly_as rfl) (hd 7 rfl) ?_; refine jo_nil ?_; refine jc_seq ?_; refine jc_draw (n := 6) _ rfl mixed ?_; refine ja_gen (fun _ _ _ _ h => h) fun ops1 Q1 F0 hpan ho hq hF => ?_
  have S1_111111 : JA Try.prog ops1 0 #[true, true, true, true, true, true] Γ ([(18, .a [.b sa, .n false .u64 a]), (19, .a [.b (decide (v < 0)), .n true .u64 (lm v)]), (20, .a [.b sb, .n false .u64 b]), (21, .a [.b (decide (0 < 0)), .n true .u64 (lm 0)])] ++ F0) [⟨66, 2, 0, true, [.b (decide (v < 0)), .n true .u64 (lm v)]⟩, ⟨66, 2, 0, true, [.b (decide (0 < 0)), .n true .u64 (lm 0)]⟩, ⟨66, 2, 0, true, [.b false, .c (.slice none 0 0)]⟩, ⟨66, 2, 0, true, [.b false, .c (.slice none 0 0)]⟩, ⟨66, 2, 0, true, [.b false, .c (.slice none 0 0)]⟩] Q1 := by
    subst ho; subst hq; subst hF; refine ja_nil (by kernel_rfl) ?_; refine jc_seq ?_; refine jc_seq ?_; refine jc_H (H' := [⟨66, 2, 0, true, [.b (decide (v < 0)), .n true .u64 (lm v)]⟩, ⟨66, 2, 0, true, [.b (decide (0 < 0)), .n true .u64 (lm 0)]⟩, ⟨66, 2, 0, true, [.b false, .c (.slice none 0 0)]⟩, ⟨66, 2, 0, true, [.b false, .c (.slice none 0 0)]⟩, ⟨66, 2, 0, true, [.b false, .c (.slice none 0 0)]⟩]) rfl ?_; refine jc_region ?_; refine jo_l (ly_fa fld30_1 rfl rfl rfl) (hd 22 rfl) ?_; refine jo_l (ly_ld one28 rfl rfl rfl) (hd 23 rfl) ?_
    refine jo_call Try.f33 (Length_v v (by omega)) rfl Try.func33 rfl rfl (ovL_cons rfl ovL_nil) (.cons .n .nil) (hd 24 rfl) ?_ (fun ch hp => by simp at hp)
    rintro y hy; injection hy with hy; subst hy; refine jo_l (ly_ff (ly_gt rfl rfl) (by omega)) (hd 25 rfl) ?_; refine jo_l (ly_mv rfl) (hd 26 rfl) ?_; refine jo_g 26 rfl rfl (ly_fa fld30_1 rfl rfl rfl) (hd 27 rfl) ?_; refine jo_g 26 rfl rfl (ly_ld one28 rfl rfl rfl) (hd 28 rfl) ?_
    refine jo_callg Try.f33 26 rfl rfl (Length_v 0 (by omega)) rfl Try.func33 rfl rfl (ovL_cons rfl ovL_nil) (.cons .n .nil) (hd 29 rfl) ?_ (fun ch hp => by simp at hp)
    rintro y hy; injection hy with hy; subst hy; refine jo_g 26 rfl rfl (ly_ff (ly_gt rfl rfl) (by decide)) (hd 30 rfl) ?_; refine jo_l (ly_pick_f rfl rfl) (hd 31 rfl) ?_; refine jo_nil ?_; refine jc_litf rfl ?_; refine jc_skip ?_; refine jc_seq ?_; refine jc_seq ?_; refine jc_region ?_; refine jo_l (ly_fa fld30_1 rfl rfl rfl) (hd 39 rfl) ?_; refine jo_l (ly_ld one28 rfl rfl rfl) (hd 40 rfl) ?_; refine jo_l (ly_lenn sl28 rfl) (hd 41 rfl) ?_; refine jo_l (ly_tt (ly_eq rfl rfl) (by omega)) (hd 42 rfl) ?_; refine jo_nil ?_; refine jc_litt rfl ?_; refine jc_seq ?_; refine jc_draw (n := 11) _ rfl mixed ?_; refine ja_l2 0 [1, 2, 7, 8, 9, 10] (lo_l (ly_fa fld30_1 rfl rfl rfl) (hd 43 rfl)) rfl (by kernel_rfl) (by kernel_rfl) (by kernel_rfl) (by kernel_rfl) (fun _ _ _ _ h => h) ?_; refine ja_l 1 (lo_l (ly_ld one28 rfl rfl rfl) (hd 44 rfl)) rfl (by kernel_rfl) (by kernel_rfl) (by kernel_rfl) (fun _ _ _ _ h => h) ?_; refine ja_l 2 (lo_l (ly_build (is := [1]) (xs := [.tmp 44]) zero30 pls30_1 rfl (ovL_cons rfl ovL_nil) rfl (by first | (simp [plsOk, cellsV]; done) | (simp [plsOk, cellsV, old]; done)) (all_of rfl) rfl) (hd 45 rfl)) rfl (by kernel_rfl) (by kernel_rfl) (by kernel_rfl) (fun _ _ _ _ h => h) ?_; refine ja_l2 3 [4, 5, 7, 8, 9, 10] (lo_l (ly_lda agg30 rfl rfl rfl rfl) (hd 46 rfl)) rfl (by kernel_rfl) (by kernel_rfl) (by kernel_rfl) (by kernel_rfl) (fun _ _ _ _ h => h) ?_
    refine ja_2 4 6 ?_ ?_ rfl rfl (by kernel_rfl)
    · refine js_call Try.f83 (WSign_v' v (by omega)) rfl Try.func83 rfl rfl (ovL_cons rfl ovL_nil) (.cons (.a1 .b (.a1 .n .a0)) .nil) (hd 47 rfl) ?_ (fun ch hp => by simp at hp)
      rintro y hy; injection hy with hy; subst hy
      refine ja_2 5 6 ?_ ?_ rfl rfl (by kernel_rfl)
      · refine js_call Try.f87 (Of_v (sgnI v) (by unfold inI; omega)) rfl Try.func87 rfl rfl (ovL_cons rfl ovL_nil) (.cons .i .nil) (hd 48 rfl) ?_ (fun ch hp => by simp at hp)
        rintro y hy; injection hy with hy; subst hy
        refine ja_2 6 7 ?_ ?_ rfl rfl (by kernel_rfl)
        · refine js_l (ly_build (is := []) (xs := []) (pls := []) zero30 pls30_ rfl ovL_nil rfl trivial (all_of rfl) rfl) (hd 49 rfl) ?_
          refine ja_1 7 ?_ rfl (by kernel_rfl)
          refine js_st (sy_store rfl rfl rfl siz30 rfl rfl (Nat.le_of_ble_eq_true rfl)) rfl ?_
          refine ja_1 8 ?_ rfl (by kernel_rfl)
          refine js_st (sy_store rfl rfl rfl siz30 rfl rfl (Nat.le_of_ble_eq_true rfl)) rfl ?_
          refine ja_1 9 ?_ rfl (by kernel_rfl)
          refine js_st (sy_store rfl rfl rfl siz30 rfl rfl (Nat.le_of_ble_eq_true rfl)) rfl ?_; refine ja_l 10 (lo_l (ly_as rfl) (hd 7 rfl)) rfl (by kernel_rfl) (by kernel_rfl) (by kernel_rfl) (fun _ _ _ _ h => h) ?_; refine ja_nil (by kernel_rfl) ?_; refine jc_ret ?_
          refine ⟨_, _, (.cons (ResV.cell agg30 rfl rfl rfl rfl) (.cons (ResV.cell agg30 rfl rfl rfl rfl) (.cons (ResV.cell agg30 rfl rfl rfl rfl) (.cons rfl .nil)))), (.t1 (.a1 .b (.a1 .nn .a0)) (.t1 (.a1 .b (.a1 .nn .a0)) (.t1 (.a1 .b (.a1 (.nil (fr := false) (k := .u64)) .a0)) (.t1 .i .t0)))), ?_⟩
          rfl
        · refine js_st (sy_store rfl rfl rfl siz30 rfl rfl (Nat.le_of_ble_eq_true rfl)) rfl ?_
          refine ja_2 6 8 ?_ ?_ rfl rfl (by kernel_rfl)
          · refine js_l (ly_build (is := []) (xs := []) (pls := []) zero30 pls30_ rfl ovL_nil rfl trivial (all_of rfl) rfl) (hd 49 rfl) ?_
            refine ja_1 8 ?_ rfl (by kernel_rfl)
            refine js_st (sy_store rfl rfl rfl siz30 rfl rfl (Nat.le_of_ble_eq_true rfl)) rfl ?_
            refine ja_1 9 ?_ rfl (by kernel_rfl)
            refine js_st (sy_store rfl rfl rfl siz30 rfl rfl (Nat.le_of_ble_eq_true rfl)) rfl ?_; refine ja_l 10 (lo_l (ly_as rfl) (hd 7 rfl)) rfl (by kernel_rfl) (by kernel_rfl) (by kernel_rfl) (fun _ _ _ _ h => h) ?_; refine ja_nil (by kernel_rfl) ?_; refine jc_ret ?_
            refine ⟨_, _, (.cons (ResV.cell agg30 rfl rfl rfl rfl) (.cons (ResV.cell agg30 rfl rfl rfl rfl) (.cons (ResV.cell agg30 rfl rfl rfl rfl) (.cons rfl .nil)))), (.t1 (.a1 .b (.a1 .nn .a0)) (.t1 (.a1 .b (.a1 .nn .a0)) (.t1 (.a1 .b (.a1 (.nil (fr := false) (k := .u64)) .a0)) (.t1 .i .t0)))), ?_⟩
            rfl
          · refine js_st (sy_store rfl rfl rfl siz30 rfl rfl (Nat.le_of_ble_eq_true rfl)) rfl ?_; refine ja_l 6 (lo_l (ly_build (is := []) (xs := []) (pls := []) zero30 pls30_ rfl ovL_nil rfl trivial (all_of rfl) rfl) (hd 49 rfl)) rfl (by kernel_rfl) (by kernel_rfl) (by kernel_rfl) (fun _ _ _ _ h => h) ?_
            refine ja_1 9 ?_ rfl (by kernel_rfl)
            refine js_st (sy_store rfl rfl rfl siz30 rfl rfl (Nat.le_of_ble_eq_true rfl)) rfl ?_; refine ja_l 10 (lo_l (ly_as rfl) (hd 7 rfl)) rfl (by kernel_rfl) (by kernel_rfl) (by kernel_rfl) (fun _ _ _ _ h => h) ?_; refine ja_nil (by kernel_rfl) ?_; refine jc_ret ?_
            refine ⟨_, _, (.cons (ResV.cell agg30 rfl rfl rfl rfl) (.cons (ResV.cell agg30 rfl rfl rfl rfl) (.cons (ResV.cell agg30 rfl rfl rfl rfl) (.cons rfl .nil)))), (.t1 (.a1 .b (.a1 .nn .a0)) (.t1 (.a1 .b (.a1 .nn .a0)) (.t1 (.a1 .b (.a1 (.nil (fr := false) (k := .u64)) .a0)) (.t1 .i .t0)))), ?_⟩
            rfl
      · refine js_l (ly_build (is := []) (xs := []) (pls := []) zero30 pls30_ rfl ovL_nil rfl trivial (all_of rfl) rfl) (hd 49 rfl) ?_
        refine ja_1 5 ?_ rfl (by kernel_rfl)
        refine js_call Try.f87 (Of_v (sgnI v) (by unfold inI; omega)) rfl Try.func87 rfl rfl (ovL_cons rfl ovL_nil) (.cons .i .nil) (hd 48 rfl) ?_ (fun ch hp => by simp at hp)
        rintro y hy; injection hy with hy; subst hy
        refine ja_1 7 ?_ rfl (by kernel_rfl)
        refine js_st (sy_store rfl rfl rfl siz30 rfl rfl (Nat.le_of_ble_eq_true rfl)) rfl ?_
        refine ja_1 8 ?_ rfl (by kernel_rfl)
        refine js_st (sy_store rfl rfl rfl siz30 rfl rfl (Nat.le_of_ble_eq_true rfl)) rfl ?_
        refine ja_1 9 ?_ rfl (by kernel_rfl)
        refine js_st (sy_store rfl rfl rfl siz30 rfl rfl (Nat.le_of_ble_eq_true rfl)) rfl ?_; refine ja_l 10 (lo_l (ly_as rfl) (hd 7 rfl)) rfl (by kernel_rfl) (by kernel_rfl) (by kernel_rfl) (fun _ _ _ _ h => h) ?_; refine ja_nil (by kernel_rfl) ?_; refine jc_ret ?_
        refine ⟨_, _, (.cons (ResV.cell agg30 rfl rfl rfl rfl) (.cons (ResV.cell agg30 rfl rfl rfl rfl) (.cons (ResV.cell agg30 rfl rfl rfl rfl) (.cons rfl .nil)))), (.t1 (.a1 .b (.a1 .nn .a0)) (.t1 (.a1 .b (.a1 .nn .a0)) (.t1 (.a1 .b (.a1 (.nil (fr := false) (k := .u64)) .a0)) (.t1 .i .t0)))), ?_⟩
        rfl
    · refine js_l (ly_build (is := []) (xs := []) (pls := []) zero30 pls30_ rfl ovL_nil rfl trivial (all_of rfl) rfl) (hd 49 rfl) ?_
      refine ja_1 4 ?_ rfl (by kernel_rfl)
      refine js_call Try.f83 (WSign_v' v (by omega)) rfl Try.func83 rfl rfl (ovL_cons rfl ovL_nil) (.cons (.a1 .b (.a1 .n .a0)) .nil) (hd 47 rfl) ?_ (fun ch hp => by simp at hp)
      rintro y hy; injection hy with hy; subst hy
      refine ja_1 5 ?_ rfl (by kernel_rfl)
      refine js_call Try.f87 (Of_v (sgnI v) (by unfold inI; omega)) rfl Try.func87 rfl rfl (ovL_cons rfl ovL_nil) (.cons .i .nil) (hd 48 rfl) ?_ (fun ch hp => by simp at hp)
      rintro y hy; injection hy with hy; subst hy
      refine ja_1 7 ?_ rfl (by kernel_rfl)
      refine js_st (sy_store rfl rfl rfl siz30 rfl rfl (Nat.le_of_ble_eq_true rfl)) rfl ?_
      refine ja_1 8 ?_ rfl (by kernel_rfl)
      refine js_st (sy_store rfl rfl rfl siz30 rfl rfl (Nat.le_of_ble_eq_true rfl)) rfl ?_
      refine ja_1 9 ?_ rfl (by kernel_rfl)
      refine js_st (sy_store rfl rfl rfl siz30 rfl rfl (Nat.le_of_ble_eq_true rfl)) rfl ?_; refine ja_l 10 (lo_l (ly_as rfl) (hd 7 rfl)) rfl (by kernel_rfl) (by kernel_rfl) (by kernel_rfl) (fun _ _ _ _ h => h) ?_; refine ja_nil (by kernel_rfl) ?_; refine jc_ret ?_
      refine ⟨_, _, (.cons (ResV.cell agg30 rfl rfl rfl rfl) (.cons (ResV.cell agg30 rfl rfl rfl rfl) (.cons (ResV.cell agg30 rfl rfl rfl rfl) (.cons rfl .nil)))), (.t1 (.a1 .b (.a1 .nn .a0)) (.t1 (.a1 .b (.a1 .nn .a0)) (.t1 (.a1 .b (.a1 (.nil (fr := false) (k := .u64)) .a0)) (.t1 .i .t0)))), ?_⟩
      rfl
  have S1_111110 : JA Try.prog ops1 1 #[true, true, true, true, true, false] Γ ([(18, .a [.b sa, .n false .u64 a]), (19, .a [.b (decide (v < 0)), .n true .u64 (lm v)]), (20, .a [.b sb, .n false .u64 b]), (21, .a [.b (decide (0 < 0)), .n true .u64 (lm 0)])] ++ F0) [⟨66, 2, 0, true, [.b (decide (v < 0)), .n true .u64 (lm v)]⟩, ⟨66, 2, 0, true, [.b sb, .n false .u64 b]⟩, ⟨66, 2, 0, true, [.b false, .c (.slice none 0 0)]⟩, ⟨66, 2, 0, true, [.b false, .c (.slice none 0 0)]⟩, ⟨66, 2, 0, true, [.b false, .c (.slice none 0 0)]⟩] Q1 := by
    subst ho; subst hF
    refine ja_1 5 ?_ rfl (by kernel_rfl)
    refine js_st (sy_store rfl rfl rfl siz30 rfl rfl (Nat.le_of_ble_eq_true rfl)) rfl ?_
    refine ja_to (m := [(18, .a [.b sa, .n false .u64 a]), (19, .a [.b (decide (v < 0)), .n true .u64 (lm v)]), (20, .a [.b sb, .n false .u64 b]), (21, .a [.b (decide (0 < 0)), .n true .u64 (lm 0)])]) (by decide) rfl (cov_n 4 rfl rfl (.cons rfl (.cons rfl (.cons rfl (.cons rfl .nil))))) S1_111111
  have S1_111100 : JA Try.prog ops1 2 #[true, true, true, true, false, false] Γ ([(18, .a [.b sa, .n false .u64 a]), (19, .a [.b (decide (v < 0)), .n true .u64 (lm v)]), (20, .a [.b sb, .n false .u64 b]), (21, .a [.b (decide (0 < 0)), .n true .u64 (lm 0)])] ++ F0) [⟨66, 2, 0, true, [.b sa, .n false .u64 a]⟩, ⟨66, 2, 0, true, [.b sb, .n false .u64 b]⟩, ⟨66, 2, 0, true, [.b false, .c (.slice none 0 0)]⟩, ⟨66, 2, 0, true, [.b false, .c (.slice none 0 0)]⟩, ⟨66, 2, 0, true, [.b false, .c (.slice none 0 0)]⟩] Q1 := by
    subst ho; subst hF
    refine ja_1 4 ?_ rfl (by kernel_rfl)
    refine js_st (sy_store rfl rfl rfl siz30 rfl rfl (Nat.le_of_ble_eq_true rfl)) rfl ?_
    refine ja_to (m := [(18, .a [.b sa, .n false .u64 a]), (19, .a [.b (decide (v < 0)), .n true .u64 (lm v)]), (20, .a [.b sb, .n false .u64 b]), (21, .a [.b (decide (0 < 0)), .n true .u64 (lm 0)])]) (by decide) rfl (cov_n 4 rfl rfl (.cons rfl (.cons rfl (.cons rfl (.cons rfl .nil))))) S1_111110
  have S1_111000 : JA Try.prog ops1 3 #[true, true, true, false, false, false] Γ ([(18, .a [.b sa, .n false .u64 a]), (19, .a [.b (decide (v < 0)), .n true .u64 (lm v)]), (20, .a [.b sb, .n false .u64 b])] ++ F0) [⟨66, 2, 0, true, [.b sa, .n false .u64 a]⟩, ⟨66, 2, 0, true, [.b sb, .n false .u64 b]⟩, ⟨66, 2, 0, true, [.b false, .c (.slice none 0 0)]⟩, ⟨66, 2, 0, true, [.b false, .c (.slice none 0 0)]⟩, ⟨66, 2, 0, true, [.b false, .c (.slice none 0 0)]⟩] Q1 := by
    subst ho; subst hF
    refine ja_1 3 ?_ rfl (by kernel_rfl)
    refine js_call Try.f90 (norm_v sb b 0 (by omega) ub ew) rfl Try.func90 rfl rfl (ovL_cons rfl ovL_nil) (.cons (.a1 .b (.a1 .n .a0)) .nil) (hd 21 rfl) ?_ (fun ch hp => by simp at hp)
    rintro y hy; injection hy with hy; subst hy
    refine ja_to (m := [(18, .a [.b sa, .n false .u64 a]), (19, .a [.b (decide (v < 0)), .n true .u64 (lm v)]), (20, .a [.b sb, .n false .u64 b]), (21, .a [.b (decide (0 < 0)), .n true .u64 (lm 0)])]) (by decide) rfl (cov_n 4 rfl rfl (.cons rfl (.cons rfl (.cons rfl (.cons rfl .nil))))) S1_111100
  have S1_101000 : JA Try.prog ops1 4 #[true, false, true, false, false, false] Γ ([(18, .a [.b sa, .n false .u64 a]), (20, .a [.b sb, .n false .u64 b])] ++ F0) [⟨66, 2, 0, true, [.b sa, .n false .u64 a]⟩, ⟨66, 2, 0, true, [.b sb, .n false .u64 b]⟩, ⟨66, 2, 0, true, [.b false, .c (.slice none 0 0)]⟩, ⟨66, 2, 0, true, [.b false, .c (.slice none 0 0)]⟩, ⟨66, 2, 0, true, [.b false, .c (.slice none 0 0)]⟩] Q1 := by
    subst ho; subst hF
    refine ja_1 1 ?_ rfl (by kernel_rfl)
    refine js_call Try.f90 (norm_v sa a v (by omega) ua ev) rfl Try.func90 rfl rfl (ovL_cons rfl ovL_nil) (.cons (.a1 .b (.a1 .n .a0)) .nil) (hd 19 rfl) ?_ (fun ch hp => by simp at hp)
    rintro y hy; injection hy with hy; subst hy
    refine ja_to (m := [(18, .a [.b sa, .n false .u64 a]), (19, .a [.b (decide (v < 0)), .n true .u64 (lm v)]), (20, .a [.b sb, .n false .u64 b])]) (by decide) rfl (cov_n 3 rfl rfl (.cons rfl (.cons rfl (.cons rfl .nil)))) S1_111000
  have S1_100000 : JA Try.prog ops1 5 #[true, false, false, false, false, false] Γ ([(18, .a [.b sa, .n false .u64 a])] ++ F0) [⟨66, 2, 0, true, [.b sa, .n false .u64 a]⟩, ⟨66, 2, 0, true, [.b sb, .n false .u64 b]⟩, ⟨66, 2, 0, true, [.b false, .c (.slice none 0 0)]⟩, ⟨66, 2, 0, true, [.b false, .c (.slice none 0 0)]⟩, ⟨66, 2, 0, true, [.b false, .c (.slice none 0 0)]⟩] Q1 := by
    subst ho; subst hF; refine ja_l2 2 [3, 4, 5] (lo_l (ly_lda agg30 rfl rfl rfl rfl) (hd 20 rfl)) rfl (by kernel_rfl) (by kernel_rfl) (by kernel_rfl) (by kernel_rfl) hpan ?_
    refine ja_to (m := [(18, .a [.b sa, .n false .u64 a]), (20, .a [.b sb, .n false .u64 b])]) (by decide) rfl (cov_n 2 rfl rfl (.cons rfl (.cons rfl .nil))) S1_101000
  have S1_000000 : JA Try.prog ops1 6 #[false, false, false, false, false, false] Γ ([] ++ F0) [⟨66, 2, 0, true, [.b sa, .n false .u64 a]⟩, ⟨66, 2, 0, true, [.b sb, .n false .u64 b]⟩, ⟨66, 2, 0, true, [.b false, .c (.slice none 0 0)]⟩, ⟨66, 2, 0, true, [.b false, .c (.slice none 0 0)]⟩, ⟨66, 2, 0, true, [.b false, .c (.slice none 0 0)]⟩] Q1 := by
    subst ho; subst hF; refine ja_l2 0 [1, 3, 4, 5] (lo_l (ly_lda agg30 rfl rfl rfl rfl) (hd 18 rfl)) rfl (by kernel_rfl) (by kernel_rfl) (by kernel_rfl) (by kernel_rfl) hpan ?_
    refine ja_to (m := [(18, .a [.b sa, .n false .u64 a])]) (by decide) rfl (cov_n 1 rfl rfl (.cons rfl .nil)) S1_100000
  subst ho; subst hF
  exact ja_to (m := []) (by decide) rfl (cov_n 0 rfl rfl .nil) S1_000000

theorem WCmp_v (v w : Int) (hv : (lm v).length < 4294967296) (hw : (lm w).length < 4294967296) : Spec Try.prog 53 [.a [.b (decide (v < 0)), .n false .u64 (lm v)], .a [.b (decide (w < 0)), .n false .u64 (lm w)]] (fun o => o = .ret (.i .i64 (cmpI v w))) := by
  have h := WCmp_s (decide (v < 0)) (decide (w < 0)) (lm v) (lm w) hv hw (lm_u v) (lm_u w)
  rwa [sv_lm, sv_lm] at h

set_option maxHeartbeats 4000000 in
set_option maxRecDepth 100000 in
theorem Inverse_s (sa sb : Bool) (a b : List Int) (v w : Int) (la : a.length < 4294967296) (lb : b.length < 4294967296) (ua : u64s a) (ub : u64s b) (ev : sv sa a = v) (ew : sv sb b = w) (hab : lenV v + lenV w ≤ 67108700) (h0 : w ≠ 0) : Spec Try.prog 55 [.a [.b sa, .n false .u64 a], .a [.b sb, .n false .u64 b]] (fun o => ∃ (s : Bool) (l : List Int) (e : Int), o = .ret (.t [.a [.b s, .n false .u64 l], .i .i64 e]) ∧ InvP v w s l e) := by
  refine spec_of' [(0, .a [.b sa, .n false .u64 a]), (1, .a [.b sb, .n false .u64 b])] rfl Try.func55 rfl (Nat.le_of_ble_eq_true rfl) fun Γ hN hds hL hR => ?_
  have hd : ∀ d, Nat.blt d 50 = true → d < Γ.N := fun d h => by rw [hN]; exact Nat.le_of_ble_eq_true h
  have hlv := lenV_lm (v := v) (by omega)
  have hlw := lenV_lm (v := w) (by omega)
  have hab2 : (w.natAbs : Int) ≠ 0 := by omega
  have hla : lm (w.natAbs : Int) = lm w := by unfold lm; rw [Int.natAbs_natCast]
  have hlen : lenV (w.natAbs : Int) = lenV w := by unfold lenV; rw [Int.natAbs_natCast]
  have htb : trm b = lm w := (raw_res ub ew).2.1
  have hNb : Spec Try.prog 99 [.n false .u64 b] (fun o => o = .ret (.n true .u64 (lm w))) := by have h := Norm_s b (by omega); rwa [htb] at h
  have hne := lm_ne h0
  have hsv : sv false (lm w) = (w.natAbs : Int) := by show vl (lm w) = _; rw [lm_v]
  have hR : v - wq 4 v (w.natAbs : Int) * (w.natAbs : Int) = v % w := by rw [euc hab2, emod_abs]
  have hRb : 0 ≤ v % w ∧ v % w < (w.natAbs : Int) := by have := emod_nn (v := v) (w := (w.natAbs : Int)) (by omega); rwa [emod_abs] at this
  have hlRv := lenV_mono (v := v % w) (w := w) (by omega)
  have hlR := lenV_lm (v := v % w) (by omega)
  have hEu : Spec Try.prog 94 [.a [.b sa, .n false .u64 a], .a [.b false, .n false .u64 (lm w)]] (fun o => o = .ret (.t [.a [.b (decide ((wq 4 v (w.natAbs : Int)) < 0)), .n true .u64 (lm (wq 4 v (w.natAbs : Int)))], .a [.b (decide ((v % w) < 0)), .n true .u64 (lm (v % w))], .i .i64 0])) := by have h := Euclid_z sa false a (lm w) v (w.natAbs : Int) (by omega) (by omega) ua (lm_u w) ev hsv (by omega) (by omega) hab2; rwa [hR] at h
  have hCo : Spec Try.prog 92 [.a [.b (decide ((v % w) < 0)), .n false .u64 (lm (v % w))], .a [.b false, .n false .u64 (lm w)]] (fun o => ∃ g x : Int, o = .ret (.t [.a [.b (decide (g < 0)), .n false .u64 (lm g)], .a [.b (decide (x < 0)), .n false .u64 (lm x)]]) ∧ CoE (v % w) (w.natAbs : Int) g x) := by have h := cofactor_s (v % w) (w.natAbs : Int) (by omega) (by omega) hab2; rw [hla, decide_eq_false (show ¬ (w.natAbs : Int) < 0 by omega)] at h; exact h
  refine jc_seq ?_; refine jc_region ?_; refine jo_h (hy_box (id := 0) (n := 2) rfl rfl rfl (by decide) rfl) (hd 2 rfl) ?_; refine jo_h (hy_box (id := 1) (n := 2) rfl rfl rfl (by decide) rfl) (hd 3 rfl) ?_; refine jo_h (hy_alloc (id := 2) zero30 (by decide) rfl (by decide) rfl) (hd 4 rfl) ?_; refine jo_l (ly_as rfl) (hd 5 rfl) ?_; refine jo_nil ?_; refine jc_seq ?_; refine jc_region ?_; refine jo_l (ly_fa fld30_1 rfl rfl rfl) (hd 10 rfl) ?_; refine jo_l (ly_ld one28 rfl rfl rfl) (hd 11 rfl) ?_
  refine jo_call Try.f99 (hNb) rfl Try.func99 rfl rfl (ovL_cons rfl ovL_nil) (.cons .n .nil) (hd 12 rfl) ?_ (fun ch hp => by simp at hp)
  rintro y hy; injection hy with hy; subst hy; refine jo_l (ly_build (is := [1]) (xs := [.tmp 12]) zero30 pls30_1 rfl (ovL_cons rfl ovL_nil) rfl (by first | (simp [plsOk, cellsV]; done) | (simp [plsOk, cellsV, old]; done)) (all_of rfl) rfl) (hd 13 rfl) ?_; refine jo_st (sy_store rfl rfl rfl siz30 rfl rfl (Nat.le_of_ble_eq_true rfl)) ?_; refine jo_nil ?_; refine jc_seq ?_; refine jc_seq ?_; refine jc_region ?_; refine jo_l (ly_fa fld30_1 rfl rfl rfl) (hd 14 rfl) ?_; refine jo_l (ly_ld one28 rfl rfl rfl) (hd 15 rfl) ?_; refine jo_l (ly_lenn sl28 rfl) (hd 16 rfl) ?_; refine jo_l (ly_ff (ly_eq rfl rfl) (fun h => hne (List.eq_nil_of_length_eq_zero (by omega)))) (hd 17 rfl) ?_; refine jo_nil ?_; refine jc_litf rfl ?_; refine jc_skip ?_; refine jc_seq ?_; refine jc_region ?_; refine jo_l (ly_lda agg30 rfl rfl rfl rfl) (hd 20 rfl) ?_; refine jo_l (ly_lda agg30 rfl rfl rfl rfl) (hd 21 rfl) ?_
  refine jo_call Try.f94 (hEu) rfl Try.func94 rfl rfl (ovL_cons rfl (ovL_cons rfl ovL_nil)) (.cons (.a1 .b (.a1 .n .a0)) (.cons (.a1 .b (.a1 .n .a0)) .nil)) (hd 22 rfl) ?_ (fun ch hp => by simp at hp)
  rintro y hy; injection hy with hy; subst hy; refine jo_l (ly_mv rfl) (hd 19 rfl) ?_; refine jo_l (ly_ext rfl rfl) (hd 23 rfl) ?_; refine jo_l (ly_ext rfl rfl) (hd 24 rfl) ?_; refine jo_l (ly_ext rfl rfl) (hd 25 rfl) ?_; refine jo_h (hy_alloc (id := 3) zero30 (by decide) rfl (by decide) rfl) (hd 6 rfl) ?_; refine jo_st (sy_store rfl rfl rfl siz30 rfl rfl (Nat.le_of_ble_eq_true rfl)) ?_; refine jo_st (sy_store rfl rfl rfl siz30 rfl rfl (Nat.le_of_ble_eq_true rfl)) ?_; refine jo_l (ly_as rfl) (hd 7 rfl) ?_; refine jo_nil ?_; refine jc_seq ?_; refine jc_seq ?_; refine jc_region ?_; refine jo_l (ly_mv rfl) (hd 26 rfl) ?_; refine jo_l (ly_ff (ly_ne rfl rfl) (by decide)) (hd 27 rfl) ?_; refine jo_nil ?_; refine jc_litf rfl ?_; refine jc_skip ?_; refine jc_seq ?_; refine jc_region ?_; refine jo_l (ly_lda agg30 rfl rfl rfl rfl) (hd 31 rfl) ?_; refine jo_l (ly_lda agg30 rfl rfl rfl rfl) (hd 32 rfl) ?_
  refine jo_call Try.f92 (hCo) rfl Try.func92 rfl rfl (ovL_cons rfl (ovL_cons rfl ovL_nil)) (.cons (.a1 .b (.a1 .n .a0)) (.cons (.a1 .b (.a1 .n .a0)) .nil)) (hd 33 rfl) ?_ (fun ch hp => by simp at hp)
  rintro y ⟨g, x, hy, hE⟩; injection hy with hy; subst hy
  have hlx := lenV_mono hE.bx
  have hlg := lenV_mono (hE.le hab2)
  have hmg := lenV_lm (v := g) (by omega)
  have hmx := lenV_lm (v := x) (by omega)
  have hXb := emod_nn (v := x) (w := (w.natAbs : Int)) (by omega)
  have hl1 : (lm 1).length ≤ 1 := lm_i64 (by decide)
  have hEu2 : Spec Try.prog 94 [.a [.b (decide (x < 0)), .n false .u64 (lm x)], .a [.b false, .n false .u64 (lm w)]] (fun o => o = .ret (.t [.a [.b (decide ((wq 4 x (w.natAbs : Int)) < 0)), .n true .u64 (lm (wq 4 x (w.natAbs : Int)))], .a [.b (decide ((x % (w.natAbs : Int)) < 0)), .n true .u64 (lm (x % (w.natAbs : Int)))], .i .i64 0])) := by have h := Euclid_z (decide (x < 0)) false (lm x) (lm w) x (w.natAbs : Int) (by omega) (by omega) (lm_u x) (lm_u w) (sv_lm x) hsv (by omega) (by omega) hab2; rwa [euc hab2] at h
  refine jo_l (ly_mv rfl) (hd 30 rfl) ?_; refine jo_l (ly_ext rfl rfl) (hd 34 rfl) ?_; refine jo_l (ly_ext rfl rfl) (hd 35 rfl) ?_; refine jo_h (hy_alloc (id := 4) zero30 (by decide) rfl (by decide) rfl) (hd 8 rfl) ?_; refine jo_h (hy_alloc (id := 5) zero30 (by decide) rfl (by decide) rfl) (hd 9 rfl) ?_; refine jo_st (sy_store rfl rfl rfl siz30 rfl rfl (Nat.le_of_ble_eq_true rfl)) ?_; refine jo_st (sy_store rfl rfl rfl siz30 rfl rfl (Nat.le_of_ble_eq_true rfl)) ?_; refine jo_nil ?_; refine jc_seq ?_; refine jc_seq ?_; refine jc_draw (n := 4) _ rfl mixed ?_; refine ja_l2 0 [2, 3] (lo_l (ly_lda agg30 rfl rfl rfl rfl) (hd 36 rfl)) rfl (by kernel_rfl) (by kernel_rfl) (by kernel_rfl) (by kernel_rfl) (fun _ _ _ _ h => h) ?_
  refine ja_1 1 ?_ rfl (by kernel_rfl)
  refine js_call Try.f87 (Of_v 1 (by unfold inI; omega)) rfl Try.func87 rfl rfl (ovL_cons rfl ovL_nil) (.cons .i .nil) (hd 37 rfl) ?_ (fun ch hp => by simp at hp)
  rintro y hy; injection hy with hy; subst hy
  refine ja_1 2 ?_ rfl (by kernel_rfl)
  refine js_call Try.f53 (WCmp_v g 1 (by omega) (by omega)) rfl Try.func53 rfl rfl (ovL_cons rfl (ovL_cons rfl ovL_nil)) (.cons (.a1 .b (.a1 .n .a0)) (.cons (.a1 .b (.a1 .n .a0)) .nil)) (hd 38 rfl) ?_ (fun ch hp => by simp at hp)
  rintro y hy; injection hy with hy; subst hy; refine ja_l 3 (lo_l (ly_ne rfl rfl) (hd 39 rfl)) rfl (by kernel_rfl) (by kernel_rfl) (by kernel_rfl) (fun _ _ _ _ h => h) ?_; refine ja_nil (by kernel_rfl) ?_
  refine jc_if rfl (fun h3 => ?_) (fun h3 => ?_)
  · have hg1 : g ≠ 1 := fun e => h3 (cmpI_0.2 e)
    refine jc_seq ?_; refine jc_region ?_; refine jo_l (ly_build (is := []) (xs := []) (pls := []) zero30 pls30_ rfl ovL_nil rfl trivial (all_of rfl) rfl) (hd 40 rfl) ?_; refine jo_st (sy_store rfl rfl rfl siz30 rfl rfl (Nat.le_of_ble_eq_true rfl)) ?_; refine jo_l (ly_as rfl) (hd 5 rfl) ?_; refine jo_nil ?_; refine jc_ret ?_
    refine ⟨_, _, (.cons (ResV.cell agg30 rfl rfl rfl rfl) (.cons rfl .nil)), (.t1 (.a1 .b (.a1 (.nil (fr := false) (k := .u64)) .a0)) (.t1 .i .t0)), ?_⟩
    exact ⟨false, [], 61, rfl, g, x, hE, .inl ⟨hg1, rfl, rfl, rfl⟩⟩
  · have hg1 : g = 1 := cmpI_0.1 (Decidable.not_not.1 h3)
    refine jc_skip ?_; refine jc_seq ?_; refine jc_region ?_; refine jo_l (ly_lda agg30 rfl rfl rfl rfl) (hd 42 rfl) ?_; refine jo_l (ly_lda agg30 rfl rfl rfl rfl) (hd 43 rfl) ?_
    refine jo_call Try.f94 (hEu2) rfl Try.func94 rfl rfl (ovL_cons rfl (ovL_cons rfl ovL_nil)) (.cons (.a1 .b (.a1 .n .a0)) (.cons (.a1 .b (.a1 .n .a0)) .nil)) (hd 44 rfl) ?_ (fun ch hp => by simp at hp)
    rintro y hy; injection hy with hy; subst hy; refine jo_l (ly_mv rfl) (hd 41 rfl) ?_; refine jo_l (ly_ext rfl rfl) (hd 45 rfl) ?_; refine jo_l (ly_ext rfl rfl) (hd 46 rfl) ?_; refine jo_l (ly_ext rfl rfl) (hd 47 rfl) ?_; refine jo_st (sy_store rfl rfl rfl siz30 rfl rfl (Nat.le_of_ble_eq_true rfl)) ?_; refine jo_l (ly_as rfl) (hd 7 rfl) ?_; refine jo_nil ?_; refine jc_seq ?_; refine jc_region ?_; refine jo_l (ly_lda agg30 rfl rfl rfl rfl) (hd 48 rfl) ?_; refine jo_l (ly_mv rfl) (hd 49 rfl) ?_; refine jo_st (sy_store rfl rfl rfl siz30 rfl rfl (Nat.le_of_ble_eq_true rfl)) ?_; refine jo_l (ly_as rfl) (hd 5 rfl) ?_; refine jo_nil ?_; refine jc_ret ?_
    refine ⟨_, _, (.cons (ResV.cell agg30 rfl rfl rfl rfl) (.cons rfl .nil)), (.t1 (.a1 .b (.a1 .nn .a0)) (.t1 .i .t0)), ?_⟩
    exact ⟨_, _, 0, rfl, g, x, hE, .inr ⟨hg1, rfl, rfl, rfl⟩⟩

set_option maxHeartbeats 4000000 in
theorem Inverse_0 (sa sb : Bool) (a b : List Int) (v : Int) (la : a.length < 4294967296) (lb : b.length < 4294967296) (ua : u64s a) (ub : u64s b) (ev : sv sa a = v) (ew : sv sb b = 0) (hab : lenV v ≤ 67108700) : Spec Try.prog 55 [.a [.b sa, .n false .u64 a], .a [.b sb, .n false .u64 b]] (fun o => o = .ret (.t [.a [.b false, .n false .u64 []], .i .i64 30])) := by
  refine spec_of' [(0, .a [.b sa, .n false .u64 a]), (1, .a [.b sb, .n false .u64 b])] rfl Try.func55 rfl (Nat.le_of_ble_eq_true rfl) fun Γ hN hds hL hR => ?_
  have hd : ∀ d, Nat.blt d 50 = true → d < Γ.N := fun d h => by rw [hN]; exact Nat.le_of_ble_eq_true h
  have htb : trm b = lm 0 := (raw_res ub ew).2.1
  have hNb : Spec Try.prog 99 [.n false .u64 b] (fun o => o = .ret (.n true .u64 (lm 0))) := by have h := Norm_s b (by omega); rwa [htb] at h
  have hl0 : (lm 0).length = 0 := by rw [lm_0]; rfl
  refine jc_seq ?_; refine jc_region ?_; refine jo_h (hy_box (id := 0) (n := 2) rfl rfl rfl (by decide) rfl) (hd 2 rfl) ?_; refine jo_h (hy_box (id := 1) (n := 2) rfl rfl rfl (by decide) rfl) (hd 3 rfl) ?_; refine jo_h (hy_alloc (id := 2) zero30 (by decide) rfl (by decide) rfl) (hd 4 rfl) ?_; refine jo_l (ly_as rfl) (hd 5 rfl) ?_; refine jo_nil ?_; refine jc_seq ?_; refine jc_region ?_; refine jo_l (ly_fa fld30_1 rfl rfl rfl) (hd 10 rfl) ?_; refine jo_l (ly_ld one28 rfl rfl rfl) (hd 11 rfl) ?_
  refine jo_call Try.f99 (hNb) rfl Try.func99 rfl rfl (ovL_cons rfl ovL_nil) (.cons .n .nil) (hd 12 rfl) ?_ (fun ch hp => by simp at hp)
  rintro y hy; injection hy with hy; subst hy; refine jo_l (ly_build (is := [1]) (xs := [.tmp 12]) zero30 pls30_1 rfl (ovL_cons rfl ovL_nil) rfl (by first | (simp [plsOk, cellsV]; done) | (simp [plsOk, cellsV, old]; done)) (all_of rfl) rfl) (hd 13 rfl) ?_; refine jo_st (sy_store rfl rfl rfl siz30 rfl rfl (Nat.le_of_ble_eq_true rfl)) ?_; refine jo_nil ?_; refine jc_seq ?_; refine jc_seq ?_; refine jc_region ?_; refine jo_l (ly_fa fld30_1 rfl rfl rfl) (hd 14 rfl) ?_; refine jo_l (ly_ld one28 rfl rfl rfl) (hd 15 rfl) ?_; refine jo_l (ly_lenn sl28 rfl) (hd 16 rfl) ?_; refine jo_l (ly_tt (ly_eq rfl rfl) (by omega)) (hd 17 rfl) ?_; refine jo_nil ?_; refine jc_litt rfl ?_; refine jc_seq ?_; refine jc_region ?_; refine jo_l (ly_build (is := []) (xs := []) (pls := []) zero30 pls30_ rfl ovL_nil rfl trivial (all_of rfl) rfl) (hd 18 rfl) ?_; refine jo_st (sy_store rfl rfl rfl siz30 rfl rfl (Nat.le_of_ble_eq_true rfl)) ?_; refine jo_l (ly_as rfl) (hd 5 rfl) ?_; refine jo_nil ?_; refine jc_ret ?_
  refine ⟨_, _, (.cons (ResV.cell agg30 rfl rfl rfl rfl) (.cons rfl .nil)), (.t1 (.a1 .b (.a1 (.nil (fr := false) (k := .u64)) .a0)) (.t1 .i .t0)), ?_⟩
  rfl
end Go.Proofs.Ytcfdclehmpfkcaa.Vc

/- Contracts of whole.Add, Mul, Abs by values, of Num.Is, of Copy: answers handed over. -/
namespace Go.Proofs.Ytcfdclehmpfkcaa.Vc
open Go Go.RowKit
end Go.Proofs.Ytcfdclehmpfkcaa.Vc
