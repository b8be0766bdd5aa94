/- The card of the law WholeMasks of surdlaw06: it returns true for every two whole numbers and every place of bulk at most 1048576 where the table of math/bits lies as the program lays it Texts joined: Zf, Uh, Zg, Ui, Uj, Uk. -/
import Derived.Test.YtaogaegchagbfaaDoorK4
set_option linter.unusedVariables false
set_option linter.unusedSimpArgs false
/- Contracts of whole.Mul, Sub, Add by values, answers frozen. -/
namespace Go.Proofs.YtaogaegchagbfaaDoor.Vc
open Go Go.RowKit
set_option maxHeartbeats 4000000 in
theorem fits_l (s : Bool) (l : List Int) (v : Int) (hl : l.length < 1099511627776) (hu : u64s l) (hv : sv s l = v) : Spec Tryd.prog 90 [.a [.b s, .n false .u64 l]] (fun o => ∃ (s2 : Bool) (r : List Int) (e : Int), o = .ret (.t [.a [.b s2, .n true .u64 r], .i .i64 e]) ∧ Res (v) s2 r e) := by
  refine spec_of' [(0, .a [.b s, .n false .u64 l])] rfl Tryd.func90 rfl (Nat.le_of_ble_eq_true rfl) fun Γ hN hds hL hR => ?_
  have hd : ∀ d, Nat.blt d 11 = true → d < Γ.N := fun d h => by rw [hN]; exact Nat.le_of_ble_eq_true h
  refine jc_seq ?_; refine jc_region ?_; refine jo_h (hy_box (id := 0) (n := 2) rfl rfl rfl (by decide) rfl) (hd 1 rfl) ?_; refine jo_h (hy_alloc (id := 1) zero30 (by decide) rfl (by decide) rfl) (hd 2 rfl) ?_; refine jo_l (ly_as rfl) (hd 3 rfl) ?_; refine jo_nil ?_; refine jc_seq ?_; refine jc_seq ?_; refine jc_region ?_; refine jo_l (ly_fa fld30_1 rfl rfl rfl) (hd 4 rfl) ?_; refine jo_l (ly_ld one28 rfl rfl rfl) (hd 5 rfl) ?_
  refine jo_call Tryd.f71 (Length_s l hl hu) rfl Tryd.func71 rfl rfl (ovL_cons rfl ovL_nil) (.cons .n .nil) (hd 6 rfl) ?_ (fun ch hp => by simp at hp)
  rintro y hy; injection hy with hy; subst hy; refine jo_l (ly_gt rfl rfl) (hd 7 rfl) ?_; refine jo_nil ?_
  refine jc_if rfl (fun h1 => ?_) (fun h1 => ?_)
  · refine jc_seq ?_; refine jc_region ?_; refine jo_l (ly_build (is := []) (xs := []) (pls := []) zero30 pls30_ rfl ovL_nil rfl trivial (all_of rfl) rfl) (hd 8 rfl) ?_; refine jo_st (sy_store rfl rfl rfl siz30 rfl rfl (Nat.le_of_ble_eq_true rfl)) ?_; refine jo_l (ly_as rfl) (hd 3 rfl) ?_; refine jo_nil ?_; refine jc_ret ?_
    refine ⟨_, _, (.cons (ResV.cell agg30 rfl rfl rfl rfl) (.cons rfl .nil)), (.t1 (.a1 .b (.a1 (.nil (fr := true) (k := .u64)) .a0)) (.t1 .i .t0)), ?_⟩
    exact ⟨false, [], 3, rfl, res_big hu hv (by omega)⟩
  · refine jc_skip ?_; refine jc_seq ?_; refine jc_region ?_; refine jo_l (ly_lda agg30 rfl rfl rfl rfl) (hd 9 rfl) ?_
    refine jo_call Tryd.f59 (norm_s s l hl) rfl Tryd.func59 rfl rfl (ovL_cons rfl ovL_nil) (.cons (.a1 .b (.a1 .n .a0)) .nil) (hd 10 rfl) ?_ (fun ch hp => by simp at hp)
    rintro y hy; injection hy with hy; subst hy; refine jo_st (sy_store rfl rfl rfl siz30 rfl rfl (Nat.le_of_ble_eq_true rfl)) ?_; refine jo_l (ly_as rfl) (hd 3 rfl) ?_; refine jo_nil ?_; refine jc_ret ?_
    refine ⟨_, _, (.cons (ResV.cell agg30 rfl rfl rfl rfl) (.cons rfl .nil)), (.t1 (.a1 .b (.a1 .n .a0)) (.t1 .i .t0)), ?_⟩
    exact ⟨_, _, 0, rfl, res_ok hu hv (by omega)⟩

set_option maxHeartbeats 4000000 in
theorem result_l (s : Bool) (l : List Int) (e v : Int) (hRs : ResN v s l e) : Spec Tryd.prog 61 [.b s, .n false .u64 l, .i .i64 e] (fun o => ∃ (s2 : Bool) (r : List Int) (e : Int), o = .ret (.t [.a [.b s2, .n true .u64 r], .i .i64 e]) ∧ Res (v) s2 r e) := by
  refine spec_of' [(0, .b s), (1, .n false .u64 l), (2, .i .i64 e)] rfl Tryd.func61 rfl (Nat.le_of_ble_eq_true rfl) fun Γ hN hds hL hR => ?_
  have hd : ∀ d, Nat.blt d 18 = true → d < Γ.N := fun d h => by rw [hN]; exact Nat.le_of_ble_eq_true h
  refine jc_seq ?_; refine jc_region ?_; refine jo_h (hy_alloc (id := 0) zero30 (by decide) rfl (by decide) rfl) (hd 6 rfl) ?_; refine jo_l (ly_as rfl) (hd 7 rfl) ?_; refine jo_nil ?_; refine jc_seq ?_; refine jc_seq ?_; refine jc_region ?_; refine jo_l (ly_mv rfl) (hd 8 rfl) ?_; refine jo_l (ly_ne rfl rfl) (hd 9 rfl) ?_; refine jo_nil ?_
  refine jc_if rfl (fun h1 => ?_) (fun h1 => ?_)
  · have hE : e = 3 ∧ 67108864 < lenV v := by
      rcases hRs with ⟨h, _⟩ | h
      · omega
      · exact h
    refine jc_seq ?_; refine jc_region ?_; refine jo_l (ly_build (is := []) (xs := []) (pls := []) zero30 pls30_ rfl ovL_nil rfl trivial (all_of rfl) rfl) (hd 10 rfl) ?_; refine jo_l (ly_mv rfl) (hd 11 rfl) ?_; refine jo_st (sy_store rfl rfl rfl siz30 rfl rfl (Nat.le_of_ble_eq_true rfl)) ?_; refine jo_l (ly_as rfl) (hd 7 rfl) ?_; refine jo_nil ?_; refine jc_ret ?_
    refine ⟨_, _, (.cons (ResV.cell agg30 rfl rfl rfl rfl) (.cons rfl .nil)), (.t1 (.a1 .b (.a1 (.nil (fr := true) (k := .u64)) .a0)) (.t1 .i .t0)), ?_⟩
    exact ⟨false, [], e, rfl, .inr ⟨hE.2, rfl, rfl, hE.1⟩⟩
  · have hE : u64s l ∧ l.length < 1099511627776 ∧ sv s l = v := by
      rcases hRs with ⟨_, h⟩ | ⟨h, _⟩
      · exact h
      · omega
    refine jc_skip ?_; refine jc_seq ?_; refine jc_region ?_; refine jo_l (ly_mv rfl) (hd 12 rfl) ?_; refine jo_l (ly_mv rfl) (hd 13 rfl) ?_; refine jo_l (ly_build (is := [0, 1]) (xs := [.tmp 12, .tmp 13]) zero30 pls30_0_1 rfl (ovL_cons rfl (ovL_cons rfl ovL_nil)) rfl (by first | (simp [plsOk, cellsV]; done) | (simp [plsOk, cellsV, old]; done)) (all_of rfl) rfl) (hd 14 rfl) ?_
    refine jo_call Tryd.f90 (fits_l s l v hE.2.1 hE.1 hE.2.2) rfl Tryd.func90 rfl rfl (ovL_cons rfl ovL_nil) (.cons (.a1 .b (.a1 .n .a0)) .nil) (hd 15 rfl) ?_ (fun ch hp => by simp at hp)
    rintro y ⟨sf, rf, ef, hy, hf⟩; injection hy with hy; subst hy; refine jo_l (ly_ext rfl rfl) (hd 16 rfl) ?_; refine jo_l (ly_ext rfl rfl) (hd 17 rfl) ?_; refine jo_st (sy_store rfl rfl rfl siz30 rfl rfl (Nat.le_of_ble_eq_true rfl)) ?_; refine jo_l (ly_as rfl) (hd 7 rfl) ?_; refine jo_nil ?_; refine jc_ret ?_
    refine ⟨_, _, (.cons (ResV.cell agg30 rfl rfl rfl rfl) (.cons rfl .nil)), (.t1 (.a1 .b (.a1 .n .a0)) (.t1 .i .t0)), ?_⟩
    exact ⟨sf, rf, ef, rfl, hf⟩

set_option maxHeartbeats 4000000 in
theorem WAdd_l (s t : Bool) (a b : List Int) (hla : a.length < 4294967296) (hlb : b.length < 4294967296) (ua : u64s a) (ub : u64s b) : Spec Tryd.prog 26 [.a [.b s, .n false .u64 a], .a [.b t, .n false .u64 b]] (fun o => ∃ (s2 : Bool) (r : List Int) (e : Int), o = .ret (.t [.a [.b s2, .n true .u64 r], .i .i64 e]) ∧ Res (sv s a + sv t b) s2 r e) := by
  refine spec_of' [(0, .a [.b s, .n false .u64 a]), (1, .a [.b t, .n false .u64 b])] rfl Tryd.func26 rfl (Nat.le_of_ble_eq_true rfl) fun Γ hN hds hL hR => ?_
  have hd : ∀ d, Nat.blt d 57 = true → d < Γ.N := fun d h => by rw [hN]; exact Nat.le_of_ble_eq_true h
  have hma := trm_len a
  have hmb := trm_len b
  have hcv := cmpL_val (u64s_trm ua) (u64s_trm ub)
  rw [trm_trm, trm_trm] at hcv
  have ea1 := sv_norm (s := s) ua
  have eb1 := sv_norm (s := t) ub
  have ha0 := vl_nonneg (u64s_trm ua)
  have hb0 := vl_nonneg (u64s_trm ub)
  refine jc_seq ?_; refine jc_region ?_; refine jo_h (hy_box (id := 0) (n := 2) rfl rfl rfl (by decide) rfl) (hd 2 rfl) ?_; refine jo_h (hy_box (id := 1) (n := 2) rfl rfl rfl (by decide) rfl) (hd 3 rfl) ?_; refine jo_h (hy_alloc (id := 2) zero30 (by decide) rfl (by decide) rfl) (hd 4 rfl) ?_; refine jo_l (ly_as rfl) (hd 5 rfl) ?_; refine jo_nil ?_; refine jc_seq ?_; refine jc_draw (n := 6) _ rfl mixed ?_; refine ja_l2 0 [1, 3, 4, 5] (lo_l (ly_lda agg30 rfl rfl rfl rfl) (hd 10 rfl)) rfl (by kernel_rfl) (by kernel_rfl) (by kernel_rfl) (by kernel_rfl) (fun _ _ _ _ h => h) ?_; refine ja_l2 2 [3, 4, 5] (lo_l (ly_lda agg30 rfl rfl rfl rfl) (hd 12 rfl)) rfl (by kernel_rfl) (by kernel_rfl) (by kernel_rfl) (by kernel_rfl) (fun _ _ _ _ h => h) ?_
  refine ja_1 1 ?_ rfl (by kernel_rfl)
  refine js_call Tryd.f59 (norm_s s a (by omega)) rfl Tryd.func59 rfl rfl (ovL_cons rfl ovL_nil) (.cons (.a1 .b (.a1 .n .a0)) .nil) (hd 11 rfl) ?_ (fun ch hp => by simp at hp)
  rintro y hy; injection hy with hy; subst hy
  refine ja_1 3 ?_ rfl (by kernel_rfl)
  refine js_call Tryd.f59 (norm_s t b (by omega)) rfl Tryd.func59 rfl rfl (ovL_cons rfl ovL_nil) (.cons (.a1 .b (.a1 .n .a0)) .nil) (hd 13 rfl) ?_ (fun ch hp => by simp at hp)
  rintro y hy; injection hy with hy; subst hy
  refine ja_1 4 ?_ rfl (by kernel_rfl)
  refine js_st (sy_store rfl rfl rfl siz30 rfl rfl (Nat.le_of_ble_eq_true rfl)) rfl ?_
  refine ja_1 5 ?_ rfl (by kernel_rfl)
  refine js_st (sy_store rfl rfl rfl siz30 rfl rfl (Nat.le_of_ble_eq_true rfl)) rfl ?_; refine ja_nil (by kernel_rfl) ?_; refine jc_seq ?_; refine jc_seq ?_; refine jc_region ?_; refine jo_l (ly_fa fld30_0 rfl rfl rfl) (hd 14 rfl) ?_; refine jo_l (ly_ld one4 rfl rfl rfl) (hd 15 rfl) ?_; refine jo_l (ly_fa fld30_0 rfl rfl rfl) (hd 16 rfl) ?_; refine jo_l (ly_ld one4 rfl rfl rfl) (hd 17 rfl) ?_; refine jo_l (ly_eqb und4 rfl rfl) (hd 18 rfl) ?_; refine jo_nil ?_
  refine jc_cond rfl (fun h1 => ?_) (fun h1 => ?_)
  · refine jc_seq ?_; refine jc_region ?_; refine jo_l (ly_fa fld30_1 rfl rfl rfl) (hd 20 rfl) ?_; refine jo_l (ly_ld one28 rfl rfl rfl) (hd 21 rfl) ?_; refine jo_l (ly_fa fld30_1 rfl rfl rfl) (hd 22 rfl) ?_; refine jo_l (ly_ld one28 rfl rfl rfl) (hd 23 rfl) ?_
    refine jo_call Tryd.f60 (AddN_e (trm a) (trm b) (by omega) (by omega) (u64s_trm ua) (u64s_trm ub)) rfl Tryd.func60 rfl rfl (ovL_cons rfl (ovL_cons rfl ovL_nil)) (.cons .n (.cons .n .nil)) (hd 24 rfl) ?_ (fun ch hp => by simp at hp)
    rintro y ⟨ra, ea, hy, ha⟩; injection hy with hy; subst hy; refine jo_l (ly_mv rfl) (hd 19 rfl) ?_; refine jo_l (ly_ext rfl rfl) (hd 25 rfl) ?_; refine jo_l (ly_ext rfl rfl) (hd 26 rfl) ?_; refine jo_l (ly_as rfl) (hd 6 rfl) ?_; refine jo_l (ly_as rfl) (hd 7 rfl) ?_; refine jo_nil ?_; refine jc_seq ?_; refine jc_region ?_; refine jo_l (ly_fa fld30_0 rfl rfl rfl) (hd 27 rfl) ?_; refine jo_l (ly_ld one4 rfl rfl rfl) (hd 28 rfl) ?_; refine jo_l (ly_mv rfl) (hd 29 rfl) ?_; refine jo_l (ly_mv rfl) (hd 30 rfl) ?_
    refine jo_call Tryd.f61 (result_l (s && decide (0 < ((trm a).length : Int))) ra ea (sv s a + sv t b) (resN_of ha (by omega) (fun q uq hq => add_val (by assumption) hq ea1 eb1))) rfl Tryd.func61 rfl rfl (ovL_cons rfl (ovL_cons rfl (ovL_cons rfl ovL_nil))) (.cons .b (.cons .n (.cons .i .nil))) (hd 31 rfl) ?_ (fun ch hp => by simp at hp)
    rintro y ⟨sr, rr, er, hy, hr⟩; injection hy with hy; subst hy; refine jo_l (ly_ext rfl rfl) (hd 32 rfl) ?_; refine jo_l (ly_ext rfl rfl) (hd 33 rfl) ?_; refine jo_st (sy_store rfl rfl rfl siz30 rfl rfl (Nat.le_of_ble_eq_true rfl)) ?_; refine jo_l (ly_as rfl) (hd 5 rfl) ?_; refine jo_nil ?_; refine jc_ret ?_
    refine ⟨_, _, (.cons (ResV.cell agg30 rfl rfl rfl rfl) (.cons rfl .nil)), (.t1 (.a1 .b (.a1 .n .a0)) (.t1 .i .t0)), ?_⟩
    exact ⟨sr, rr, er, rfl, hr⟩
  · refine jc_skip ?_; refine jc_seq ?_; refine jc_seq ?_; refine jc_region ?_; refine jo_l (ly_fa fld30_1 rfl rfl rfl) (hd 34 rfl) ?_; refine jo_l (ly_ld one28 rfl rfl rfl) (hd 35 rfl) ?_; refine jo_l (ly_fa fld30_1 rfl rfl rfl) (hd 36 rfl) ?_; refine jo_l (ly_ld one28 rfl rfl rfl) (hd 37 rfl) ?_
    refine jo_call Tryd.f62 (Compare_s (trm a) (trm b) (by omega) (by omega)) rfl Tryd.func62 rfl rfl (ovL_cons rfl (ovL_cons rfl ovL_nil)) (.cons .n (.cons .n .nil)) (hd 38 rfl) ?_ (fun ch hp => by simp at hp)
    rintro y hy; injection hy with hy; subst hy; refine jo_l (ly_lt rfl rfl) (hd 39 rfl) ?_; refine jo_nil ?_
    refine jc_if rfl (fun h2 => ?_) (fun h2 => ?_)
    · rw [trm_trm, trm_trm] at h2
      refine jc_region ?_; refine jo_l (ly_lda agg30 rfl rfl rfl rfl) (hd 40 rfl) ?_; refine jo_l (ly_lda agg30 rfl rfl rfl rfl) (hd 41 rfl) ?_; refine jo_st (sy_store rfl rfl rfl siz30 rfl rfl (Nat.le_of_ble_eq_true rfl)) ?_; refine jo_st (sy_store rfl rfl rfl siz30 rfl rfl (Nat.le_of_ble_eq_true rfl)) ?_; refine jo_nil ?_; refine jc_seq ?_; refine jc_region ?_; refine jo_l (ly_fa fld30_1 rfl rfl rfl) (hd 43 rfl) ?_; refine jo_l (ly_ld one28 rfl rfl rfl) (hd 44 rfl) ?_; refine jo_l (ly_fa fld30_1 rfl rfl rfl) (hd 45 rfl) ?_; refine jo_l (ly_ld one28 rfl rfl rfl) (hd 46 rfl) ?_
      refine jo_call Tryd.f63 (SubN_e (trm b) (trm a) (by omega) (by omega) (u64s_trm ub) (u64s_trm ua) (by rcases hcv with ⟨c, v⟩ | ⟨c, v⟩ | ⟨c, v⟩ <;> omega)) rfl Tryd.func63 rfl rfl (ovL_cons rfl (ovL_cons rfl ovL_nil)) (.cons .n (.cons .n .nil)) (hd 47 rfl) ?_ (fun ch hp => by simp at hp)
      rintro y ⟨ra, ea, hy, ha⟩; injection hy with hy; subst hy; refine jo_l (ly_mv rfl) (hd 42 rfl) ?_; refine jo_l (ly_ext rfl rfl) (hd 48 rfl) ?_; refine jo_l (ly_ext rfl rfl) (hd 49 rfl) ?_; refine jo_l (ly_as rfl) (hd 8 rfl) ?_; refine jo_l (ly_as rfl) (hd 9 rfl) ?_; refine jo_nil ?_; refine jc_seq ?_; refine jc_region ?_; refine jo_l (ly_fa fld30_0 rfl rfl rfl) (hd 50 rfl) ?_; refine jo_l (ly_ld one4 rfl rfl rfl) (hd 51 rfl) ?_; refine jo_l (ly_mv rfl) (hd 52 rfl) ?_; refine jo_l (ly_mv rfl) (hd 53 rfl) ?_
      refine jo_call Tryd.f61 (result_l (t && decide (0 < ((trm b).length : Int))) ra ea (sv s a + sv t b) (resN_of ha (by rcases hcv with ⟨c, v⟩ | ⟨c, v⟩ | ⟨c, v⟩ <;> omega) (fun q uq hq => (sub_val (by rw [Bool.beq_comm]; assumption) hq eb1 ea1).trans (Int.add_comm _ _)))) rfl Tryd.func61 rfl rfl (ovL_cons rfl (ovL_cons rfl (ovL_cons rfl ovL_nil))) (.cons .b (.cons .n (.cons .i .nil))) (hd 54 rfl) ?_ (fun ch hp => by simp at hp)
      rintro y ⟨sr, rr, er, hy, hr⟩; injection hy with hy; subst hy; refine jo_l (ly_ext rfl rfl) (hd 55 rfl) ?_; refine jo_l (ly_ext rfl rfl) (hd 56 rfl) ?_; refine jo_st (sy_store rfl rfl rfl siz30 rfl rfl (Nat.le_of_ble_eq_true rfl)) ?_; refine jo_l (ly_as rfl) (hd 5 rfl) ?_; refine jo_nil ?_; refine jc_ret ?_
      refine ⟨_, _, (.cons (ResV.cell agg30 rfl rfl rfl rfl) (.cons rfl .nil)), (.t1 (.a1 .b (.a1 .n .a0)) (.t1 .i .t0)), ?_⟩
      exact ⟨sr, rr, er, rfl, hr⟩
    · rw [trm_trm, trm_trm] at h2
      refine jc_skip ?_; refine jc_seq ?_; refine jc_region ?_; refine jo_l (ly_fa fld30_1 rfl rfl rfl) (hd 43 rfl) ?_; refine jo_l (ly_ld one28 rfl rfl rfl) (hd 44 rfl) ?_; refine jo_l (ly_fa fld30_1 rfl rfl rfl) (hd 45 rfl) ?_; refine jo_l (ly_ld one28 rfl rfl rfl) (hd 46 rfl) ?_
      refine jo_call Tryd.f63 (SubN_e (trm a) (trm b) (by omega) (by omega) (u64s_trm ua) (u64s_trm ub) (by rcases hcv with ⟨c, v⟩ | ⟨c, v⟩ | ⟨c, v⟩ <;> omega)) rfl Tryd.func63 rfl rfl (ovL_cons rfl (ovL_cons rfl ovL_nil)) (.cons .n (.cons .n .nil)) (hd 47 rfl) ?_ (fun ch hp => by simp at hp)
      rintro y ⟨ra, ea, hy, ha⟩; injection hy with hy; subst hy; refine jo_l (ly_mv rfl) (hd 42 rfl) ?_; refine jo_l (ly_ext rfl rfl) (hd 48 rfl) ?_; refine jo_l (ly_ext rfl rfl) (hd 49 rfl) ?_; refine jo_l (ly_as rfl) (hd 8 rfl) ?_; refine jo_l (ly_as rfl) (hd 9 rfl) ?_; refine jo_nil ?_; refine jc_seq ?_; refine jc_region ?_; refine jo_l (ly_fa fld30_0 rfl rfl rfl) (hd 50 rfl) ?_; refine jo_l (ly_ld one4 rfl rfl rfl) (hd 51 rfl) ?_; refine jo_l (ly_mv rfl) (hd 52 rfl) ?_; refine jo_l (ly_mv rfl) (hd 53 rfl) ?_
      refine jo_call Tryd.f61 (result_l (s && decide (0 < ((trm a).length : Int))) ra ea (sv s a + sv t b) (resN_of ha (by rcases hcv with ⟨c, v⟩ | ⟨c, v⟩ | ⟨c, v⟩ <;> omega) (fun q uq hq => sub_val (by assumption) hq ea1 eb1))) rfl Tryd.func61 rfl rfl (ovL_cons rfl (ovL_cons rfl (ovL_cons rfl ovL_nil))) (.cons .b (.cons .n (.cons .i .nil))) (hd 54 rfl) ?_ (fun ch hp => by simp at hp)
      rintro y ⟨sr, rr, er, hy, hr⟩; injection hy with hy; subst hy; refine jo_l (ly_ext rfl rfl) (hd 55 rfl) ?_; refine jo_l (ly_ext rfl rfl) (hd 56 rfl) ?_; refine jo_st (sy_store rfl rfl rfl siz30 rfl rfl (Nat.le_of_ble_eq_true rfl)) ?_; refine jo_l (ly_as rfl) (hd 5 rfl) ?_; refine jo_nil ?_; refine jc_ret ?_
      refine ⟨_, _, (.cons (ResV.cell agg30 rfl rfl rfl rfl) (.cons rfl .nil)), (.t1 (.a1 .b (.a1 .n .a0)) (.t1 .i .t0)), ?_⟩
      exact ⟨sr, rr, er, rfl, hr⟩

set_option maxHeartbeats 4000000 in
theorem WSub_l (s t : Bool) (a b : List Int) (hla : a.length < 4294967296) (hlb : b.length < 4294967296) (ua : u64s a) (ub : u64s b) : Spec Tryd.prog 28 [.a [.b s, .n false .u64 a], .a [.b t, .n false .u64 b]] (fun o => ∃ (s2 : Bool) (r : List Int) (e : Int), o = .ret (.t [.a [.b s2, .n true .u64 r], .i .i64 e]) ∧ Res (sv s a - sv t b) s2 r e) := by
  refine spec_of' [(0, .a [.b s, .n false .u64 a]), (1, .a [.b t, .n false .u64 b])] rfl Tryd.func28 rfl (Nat.le_of_ble_eq_true rfl) fun Γ hN hds hL hR => ?_
  have hd : ∀ d, Nat.blt d 12 = true → d < Γ.N := fun d h => by rw [hN]; exact Nat.le_of_ble_eq_true h
  have hmb := trm_len b
  have hx : ∀ (x : Int), x + sv (!t && decide (0 < ((trm b).length : Int))) (trm b) = x - sv t b := fun x => by rw [sv_norm ub, sv_neg]; omega
  refine jc_seq ?_; refine jc_region ?_; refine jo_h (hy_box (id := 0) (n := 2) rfl rfl rfl (by decide) rfl) (hd 2 rfl) ?_; refine jo_h (hy_box (id := 1) (n := 2) rfl rfl rfl (by decide) rfl) (hd 3 rfl) ?_; refine jo_h (hy_alloc (id := 2) zero30 (by decide) rfl (by decide) rfl) (hd 4 rfl) ?_; refine jo_l (ly_as rfl) (hd 5 rfl) ?_; refine jo_nil ?_; refine jc_seq ?_; refine jc_draw (n := 8) _ rfl mixed ?_; refine ja_l2 0 [3, 4, 5, 6, 7] (lo_l (ly_lda agg30 rfl rfl rfl rfl) (hd 6 rfl)) rfl (by kernel_rfl) (by kernel_rfl) (by kernel_rfl) (by kernel_rfl) (fun _ _ _ _ h => h) ?_; refine ja_l2 1 [2, 3, 4, 5, 6, 7] (lo_l (ly_lda agg30 rfl rfl rfl rfl) (hd 7 rfl)) rfl (by kernel_rfl) (by kernel_rfl) (by kernel_rfl) (by kernel_rfl) (fun _ _ _ _ h => h) ?_
  refine ja_1 2 ?_ rfl (by kernel_rfl)
  refine js_call Tryd.f64 (flip_s t b (by omega) ub) rfl Tryd.func64 rfl rfl (ovL_cons rfl ovL_nil) (.cons (.a1 .b (.a1 .n .a0)) .nil) (hd 8 rfl) ?_ (fun ch hp => by simp at hp)
  rintro y hy; injection hy with hy; subst hy
  refine ja_1 3 ?_ rfl (by kernel_rfl)
  refine js_call Tryd.f26 (WAdd_l s (!t && decide (0 < ((trm b).length : Int))) a (trm b) (by omega) (by omega) ua (u64s_trm ub)) rfl Tryd.func26 rfl rfl (ovL_cons rfl (ovL_cons rfl ovL_nil)) (.cons (.a1 .b (.a1 .n .a0)) (.cons (.a1 .b (.a1 .n .a0)) .nil)) (hd 9 rfl) ?_ (fun ch hp => by simp at hp)
  rintro y ⟨sr, rr, er, hy, hr⟩; injection hy with hy; subst hy; refine ja_l 4 (lo_l (ly_ext rfl rfl) (hd 10 rfl)) rfl (by kernel_rfl) (by kernel_rfl) (by kernel_rfl) (fun _ _ _ _ h => h) ?_; refine ja_l 5 (lo_l (ly_ext rfl rfl) (hd 11 rfl)) rfl (by kernel_rfl) (by kernel_rfl) (by kernel_rfl) (fun _ _ _ _ h => h) ?_
  refine ja_1 6 ?_ rfl (by kernel_rfl)
  refine js_st (sy_store rfl rfl rfl siz30 rfl rfl (Nat.le_of_ble_eq_true rfl)) rfl ?_; refine ja_l 7 (lo_l (ly_as rfl) (hd 5 rfl)) rfl (by kernel_rfl) (by kernel_rfl) (by kernel_rfl) (fun _ _ _ _ h => h) ?_; refine ja_nil (by kernel_rfl) ?_; refine jc_ret ?_
  refine ⟨_, _, (.cons (ResV.cell agg30 rfl rfl rfl rfl) (.cons rfl .nil)), (.t1 (.a1 .b (.a1 .n .a0)) (.t1 .i .t0)), ?_⟩
  exact ⟨sr, rr, er, rfl, by rw [hx] at hr; exact hr⟩

theorem WSub_v (v w : Int) (hv : (lm v).length < 4294967296) (hw : (lm w).length < 4294967296) (h : lenV (v - w) ≤ 67108864) : Spec Tryd.prog 28 [.a [.b (decide (v < 0)), .n false .u64 (lm v)], .a [.b (decide (w < 0)), .n false .u64 (lm w)]] (fun o => o = .ret (.t [.a [.b (decide ((v - w) < 0)), .n true .u64 (lm (v - w))], .i .i64 0])) :=
  (WSub_l (decide (v < 0)) (decide (w < 0)) (lm v) (lm w) hv hw (lm_u v) (lm_u w)).mono fun o ⟨s2, r, e, ho, hR⟩ => by
    rw [sv_lm, sv_lm] at hR
    rcases hR with ⟨_, h1, h2, h3⟩ | ⟨hb, _⟩
    · subst h1; subst h2; subst h3; exact ho
    · omega

theorem WAdd_v (v w : Int) (hv : (lm v).length < 4294967296) (hw : (lm w).length < 4294967296) (h : lenV (v + w) ≤ 67108864) : Spec Tryd.prog 26 [.a [.b (decide (v < 0)), .n false .u64 (lm v)], .a [.b (decide (w < 0)), .n false .u64 (lm w)]] (fun o => o = .ret (.t [.a [.b (decide ((v + w) < 0)), .n true .u64 (lm (v + w))], .i .i64 0])) :=
  (WAdd_l (decide (v < 0)) (decide (w < 0)) (lm v) (lm w) hv hw (lm_u v) (lm_u w)).mono fun o ⟨s2, r, e, ho, hR⟩ => by
    rw [sv_lm, sv_lm] at hR
    rcases hR with ⟨_, h1, h2, h3⟩ | ⟨hb, _⟩
    · subst h1; subst h2; subst h3; exact ho
    · omega
end Go.Proofs.YtaogaegchagbfaaDoor.Vc

/- Contracts of whole.twos, back. -/
namespace Go.Proofs.YtaogaegchagbfaaDoor.Vc
open Go Go.RowKit
set_option maxHeartbeats 4000000 in
theorem twos_p (s : Bool) (a : List Int) (v : Int) (la : a.length < 4294967296) (ua : u64s a) (ev : sv s a = v) (hv : lenV v ≤ 67108860) (h0 : 0 ≤ v) : Spec Tryd.prog 36 [.a [.b s, .n false .u64 a]] (fun o => o = .ret (.t [.n false .u64 (lm ((tw v : Nat) : Int)), .b false])) := by
  refine spec_of' [(0, .a [.b s, .n false .u64 a])] rfl Tryd.func36 rfl (Nat.le_of_ble_eq_true rfl) fun Γ hN hds hL hR => ?_
  have hd : ∀ d, Nat.blt d 20 = true → d < Γ.N := fun d h => by rw [hN]; exact Nat.le_of_ble_eq_true h
  have hSg := WSign_s s a la ua
  rw [ev] at hSg
  have hNo : Spec Tryd.prog 75 [.n false .u64 a] (fun o => o = .ret (.n false .u64 (lm ((tw v : Nat) : Int)))) := by have h := Norm_s a (by omega); rw [(raw_res ua ev).2.1] at h; rw [tw_p h0, Int.toNat_of_nonneg h0]; exact h.nn
  refine jc_seq ?_; refine jc_region ?_; refine jo_h (hy_box (id := 0) (n := 2) rfl rfl rfl (by decide) rfl) (hd 1 rfl) ?_; refine jo_l (ly_as rfl) (hd 2 rfl) ?_; refine jo_l (ly_as rfl) (hd 3 rfl) ?_; refine jo_nil ?_; refine jc_seq ?_; refine jc_seq ?_; refine jc_region ?_; refine jo_l (ly_lda agg30 rfl rfl rfl rfl) (hd 6 rfl) ?_
  refine jo_call Tryd.f44 (hSg) rfl Tryd.func44 rfl rfl (ovL_cons rfl ovL_nil) (.cons (.a1 .b (.a1 .n .a0)) .nil) (hd 7 rfl) ?_ (fun ch hp => by simp at hp)
  rintro y hy; injection hy with hy; subst hy; refine jo_l (ly_tt (ly_ge rfl rfl) (by unfold sgnI; (repeat' split) <;> omega)) (hd 8 rfl) ?_; refine jo_nil ?_; refine jc_litt rfl ?_; refine jc_seq ?_; refine jc_region ?_; refine jo_l (ly_fa fld30_1 rfl rfl rfl) (hd 9 rfl) ?_; refine jo_l (ly_ld one28 rfl rfl rfl) (hd 10 rfl) ?_
  refine jo_call Tryd.f75 (hNo) rfl Tryd.func75 rfl rfl (ovL_cons rfl ovL_nil) (.cons .n .nil) (hd 11 rfl) ?_ (fun ch hp => by simp at hp)
  rintro y hy; injection hy with hy; subst hy; refine jo_l (ly_as rfl) (hd 2 rfl) ?_; refine jo_l (ly_as rfl) (hd 3 rfl) ?_; refine jo_nil ?_; refine jc_ret ?_
  refine ⟨_, _, (.cons rfl (.cons rfl .nil)), (.t1 .n (.t1 .b .t0)), ?_⟩
  exact rfl

set_option maxHeartbeats 4000000 in
theorem twos_n (s : Bool) (a : List Int) (v : Int) (la : a.length < 4294967296) (ua : u64s a) (ev : sv s a = v) (hv : lenV v ≤ 67108860) (h0 : v < 0) : Spec Tryd.prog 36 [.a [.b s, .n false .u64 a]] (fun o => o = .ret (.t [.n false .u64 (lm ((tw v : Nat) : Int)), .b true])) := by
  refine spec_of' [(0, .a [.b s, .n false .u64 a])] rfl Tryd.func36 rfl (Nat.le_of_ble_eq_true rfl) fun Γ hN hds hL hR => ?_
  have hd : ∀ d, Nat.blt d 20 = true → d < Γ.N := fun d h => by rw [hN]; exact Nat.le_of_ble_eq_true h
  have hSg := WSign_s s a la ua
  rw [ev] at hSg
  have hva : vl a = -v := by have h8 := vl_nonneg ua; unfold sv at ev; split at ev <;> omega
  have hSb : Spec Tryd.prog 63 [.n false .u64 a, .n false .u64 [1]] (fun o => o = .ret (.t [.n false .u64 (lm ((tw v : Nat) : Int)), .i .i64 0])) := by
    have u1 : u64s [1] := u64s1 (by decide) (by decide)
    have hd : vl (difL a [1]) = ((tw v : Nat) : Int) := by rw [vl_difL ua u1 (by show 1 + Bs * 0 ≤ _; omega), tw_n h0, hva]; show -v - (1 + Bs * 0) = _; omega
    have hu : u64s (difL a [1]) := sbN_u (u64s_trm ua) (u64s_trm u1) _
    have e := trm_lm hu hd
    have hc := cmpL_val ua u1
    have h1v : vl [1] = 1 := rfl
    have hlz : lenV ((tw v : Nat) : Int) ≤ 67108864 := Nat.le_trans (lenV_mono (w := v) (by rw [tw_n h0]; omega)) (by omega)
    have h := Sub_ok a [1] (by omega) (by decide) ua u1 (by rcases hc with ⟨c, x⟩ | ⟨c, x⟩ | ⟨c, x⟩ <;> omega) (by rw [e, lenN_lm]; exact hlz)
    rwa [e] at h
  have hF1 : Spec Tryd.prog 68 [.i .u64 1] (fun o => o = .ret (.n true .u64 [1])) := by have h := From_s 1; rwa [if_neg (by decide)] at h
  refine jc_seq ?_; refine jc_region ?_; refine jo_h (hy_box (id := 0) (n := 2) rfl rfl rfl (by decide) rfl) (hd 1 rfl) ?_; refine jo_l (ly_as rfl) (hd 2 rfl) ?_; refine jo_l (ly_as rfl) (hd 3 rfl) ?_; refine jo_nil ?_; refine jc_seq ?_; refine jc_seq ?_; refine jc_region ?_; refine jo_l (ly_lda agg30 rfl rfl rfl rfl) (hd 6 rfl) ?_
  refine jo_call Tryd.f44 (hSg) rfl Tryd.func44 rfl rfl (ovL_cons rfl ovL_nil) (.cons (.a1 .b (.a1 .n .a0)) .nil) (hd 7 rfl) ?_ (fun ch hp => by simp at hp)
  rintro y hy; injection hy with hy; subst hy; refine jo_l (ly_ff (ly_ge rfl rfl) (by unfold sgnI; (repeat' split) <;> omega)) (hd 8 rfl) ?_; refine jo_nil ?_; refine jc_litf rfl ?_; refine jc_skip ?_; refine jc_seq ?_; refine jc_draw (n := 9) _ rfl mixed ?_; refine ja_l2 0 [1, 3, 4, 5, 6, 7, 8] (lo_l (ly_fa fld30_1 rfl rfl rfl) (hd 13 rfl)) rfl (by kernel_rfl) (by kernel_rfl) (by kernel_rfl) (by kernel_rfl) (fun _ _ _ _ h => h) ?_; refine ja_l2 1 [3, 4, 5, 6, 7, 8] (lo_l (ly_ld one28 rfl rfl rfl) (hd 14 rfl)) rfl (by kernel_rfl) (by kernel_rfl) (by kernel_rfl) (by kernel_rfl) (fun _ _ _ _ h => h) ?_
  refine ja_1 2 ?_ rfl (by kernel_rfl)
  refine js_call Tryd.f68 (hF1) rfl Tryd.func68 rfl rfl (ovL_cons rfl ovL_nil) (.cons .i .nil) (hd 15 rfl) ?_ (fun ch hp => by simp at hp)
  rintro y hy; injection hy with hy; subst hy
  refine ja_1 3 ?_ rfl (by kernel_rfl)
  refine js_call Tryd.f63 (hSb) rfl Tryd.func63 rfl rfl (ovL_cons rfl (ovL_cons rfl ovL_nil)) (.cons .n (.cons .n .nil)) (hd 16 rfl) ?_ (fun ch hp => by simp at hp)
  rintro y hy; injection hy with hy; subst hy; refine ja_l 4 (lo_l (ly_mv rfl) (hd 12 rfl)) rfl (by kernel_rfl) (by kernel_rfl) (by kernel_rfl) (fun _ _ _ _ h => h) ?_; refine ja_l 5 (lo_l (ly_ext rfl rfl) (hd 17 rfl)) rfl (by kernel_rfl) (by kernel_rfl) (by kernel_rfl) (fun _ _ _ _ h => h) ?_; refine ja_l 6 (lo_l (ly_ext rfl rfl) (hd 18 rfl)) rfl (by kernel_rfl) (by kernel_rfl) (by kernel_rfl) (fun _ _ _ _ h => h) ?_; refine ja_l 7 (lo_l (ly_as rfl) (hd 4 rfl)) rfl (by kernel_rfl) (by kernel_rfl) (by kernel_rfl) (fun _ _ _ _ h => h) ?_; refine ja_l 8 (lo_l (ly_as rfl) (hd 5 rfl)) rfl (by kernel_rfl) (by kernel_rfl) (by kernel_rfl) (fun _ _ _ _ h => h) ?_; refine ja_nil (by kernel_rfl) ?_; refine jc_seq ?_; refine jc_region ?_; refine jo_l (ly_mv rfl) (hd 19 rfl) ?_; refine jo_l (ly_as rfl) (hd 2 rfl) ?_; refine jo_l (ly_as rfl) (hd 3 rfl) ?_; refine jo_nil ?_; refine jc_ret ?_
  refine ⟨_, _, (.cons rfl (.cons rfl .nil)), (.t1 .n (.t1 .b .t0)), ?_⟩
  exact rfl

set_option maxHeartbeats 4000000 in
theorem back_f (k : Nat) (hk : lenV (k : Int) ≤ 67108864) : Spec Tryd.prog 37 [.n false .u64 (lm (k : Int)), .b false] (fun o => o = .ret (.t [.a [.b (decide ((k : Int) < 0)), .n true .u64 (lm (k : Int))], .i .i64 0])) := by
  refine spec_of' [(0, .n false .u64 (lm (k : Int))), (1, .b false)] rfl Tryd.func37 rfl (Nat.le_of_ble_eq_true rfl) fun Γ hN hds hL hR => ?_
  have hd : ∀ d, Nat.blt d 25 = true → d < Γ.N := fun d h => by rw [hN]; exact Nat.le_of_ble_eq_true h
  have hlk := lenV_lm hk
  have hRe : Spec Tryd.prog 61 [.b false, .n false .u64 (lm (k : Int)), .i .i64 0] (fun o => o = .ret (.t [.a [.b (decide ((k : Int) < 0)), .n true .u64 (lm (k : Int))], .i .i64 0])) := by
    have h := result_ok false (lm (k : Int)) (by omega) (lm_u _) (by rw [lenN_lm]; exact hk)
    have e := raw_res (s := false) (lm_u (k : Int)) (show sv false (lm (k : Int)) = (k : Int) from vl_lm (Int.natCast_nonneg _))
    rw [e.1, e.2.1] at h
    exact h
  refine jc_seq ?_; refine jc_region ?_; refine jo_h (hy_alloc (id := 0) zero30 (by decide) rfl (by decide) rfl) (hd 4 rfl) ?_; refine jo_l (ly_as rfl) (hd 5 rfl) ?_; refine jo_nil ?_; refine jc_seq ?_; refine jc_seq ?_; refine jc_region ?_; refine jo_l (ly_mv rfl) (hd 8 rfl) ?_; refine jo_l (ly_not rfl) (hd 9 rfl) ?_; refine jo_nil ?_; refine jc_litt rfl ?_; refine jc_seq ?_; refine jc_region ?_; refine jo_l (ly_mv rfl) (hd 10 rfl) ?_
  refine jo_call Tryd.f61 (hRe) rfl Tryd.func61 rfl rfl (ovL_cons rfl (ovL_cons rfl (ovL_cons rfl ovL_nil))) (.cons .b (.cons .n (.cons .i .nil))) (hd 11 rfl) ?_ (fun ch hp => by simp at hp)
  rintro y hy; injection hy with hy; subst hy; refine jo_l (ly_ext rfl rfl) (hd 12 rfl) ?_; refine jo_l (ly_ext rfl rfl) (hd 13 rfl) ?_; refine jo_st (sy_store rfl rfl rfl siz30 rfl rfl (Nat.le_of_ble_eq_true rfl)) ?_; refine jo_l (ly_as rfl) (hd 5 rfl) ?_; refine jo_nil ?_; refine jc_ret ?_
  refine ⟨_, _, (.cons (ResV.cell agg30 rfl rfl rfl rfl) (.cons rfl .nil)), (.t1 (.a1 .b (.a1 .n .a0)) (.t1 .i .t0)), ?_⟩
  exact rfl

set_option maxHeartbeats 4000000 in
theorem back_t (k : Nat) (hk : lenV (k : Int) ≤ 67108863) : Spec Tryd.prog 37 [.n false .u64 (lm (k : Int)), .b true] (fun o => o = .ret (.t [.a [.b (decide ((-((k : Nat) : Int) - 1) < 0)), .n true .u64 (lm (-((k : Nat) : Int) - 1))], .i .i64 0])) := by
  refine spec_of' [(0, .n false .u64 (lm (k : Int))), (1, .b true)] rfl Tryd.func37 rfl (Nat.le_of_ble_eq_true rfl) fun Γ hN hds hL hR => ?_
  have hd : ∀ d, Nat.blt d 25 = true → d < Γ.N := fun d h => by rw [hN]; exact Nat.le_of_ble_eq_true h
  have hl1 : lenV 1 = 1 := by decide +kernel
  have hs1 := lenV_add (k : Int) 1
  have hk1 := lenV_1 (g := (k : Int))
  have hka : lenV ((k : Int) + 1) ≤ 67108864 := by omega
  have hlk := lenV_lm hka
  have hAd := Add1_v (k : Int) (by omega) hka
  have hF1 : Spec Tryd.prog 68 [.i .u64 1] (fun o => o = .ret (.n true .u64 [1])) := by have h := From_s 1; rwa [if_neg (by decide)] at h
  have hRe : Spec Tryd.prog 61 [.b true, .n false .u64 (lm ((k : Int) + 1)), .i .i64 0] (fun o => o = .ret (.t [.a [.b (decide ((-((k : Nat) : Int) - 1) < 0)), .n true .u64 (lm (-((k : Nat) : Int) - 1))], .i .i64 0])) := by
    have h := result_ok true (lm ((k : Int) + 1)) (by omega) (lm_u _) (by rw [lenN_lm]; exact hka)
    have e := raw_res (s := true) (v := (-((k : Nat) : Int) - 1)) (lm_u ((k : Int) + 1)) (by show -(vl (lm ((k : Int) + 1))) = _; rw [vl_lm (by omega)]; omega)
    rw [e.1, e.2.1] at h
    exact h
  refine jc_seq ?_; refine jc_region ?_; refine jo_h (hy_alloc (id := 0) zero30 (by decide) rfl (by decide) rfl) (hd 4 rfl) ?_; refine jo_l (ly_as rfl) (hd 5 rfl) ?_; refine jo_nil ?_; refine jc_seq ?_; refine jc_seq ?_; refine jc_region ?_; refine jo_l (ly_mv rfl) (hd 8 rfl) ?_; refine jo_l (ly_not rfl) (hd 9 rfl) ?_; refine jo_nil ?_; refine jc_litf rfl ?_; refine jc_skip ?_; refine jc_seq ?_; refine jc_region ?_; refine jo_l (ly_mv rfl) (hd 15 rfl) ?_
  refine jo_call Tryd.f68 (hF1) rfl Tryd.func68 rfl rfl (ovL_cons rfl ovL_nil) (.cons .i .nil) (hd 16 rfl) ?_ (fun ch hp => by simp at hp)
  rintro y hy; injection hy with hy; subst hy
  refine jo_call Tryd.f60 (hAd) rfl Tryd.func60 rfl rfl (ovL_cons rfl (ovL_cons rfl ovL_nil)) (.cons .n (.cons .n .nil)) (hd 17 rfl) ?_ (fun ch hp => by simp at hp)
  rintro y hy; injection hy with hy; subst hy; refine jo_l (ly_mv rfl) (hd 14 rfl) ?_; refine jo_l (ly_ext rfl rfl) (hd 18 rfl) ?_; refine jo_l (ly_ext rfl rfl) (hd 19 rfl) ?_; refine jo_l (ly_as rfl) (hd 6 rfl) ?_; refine jo_l (ly_as rfl) (hd 7 rfl) ?_; refine jo_nil ?_; refine jc_seq ?_; refine jc_region ?_; refine jo_l (ly_mv rfl) (hd 20 rfl) ?_; refine jo_l (ly_mv rfl) (hd 21 rfl) ?_
  refine jo_call Tryd.f61 (hRe) rfl Tryd.func61 rfl rfl (ovL_cons rfl (ovL_cons rfl (ovL_cons rfl ovL_nil))) (.cons .b (.cons .n (.cons .i .nil))) (hd 22 rfl) ?_ (fun ch hp => by simp at hp)
  rintro y hy; injection hy with hy; subst hy; refine jo_l (ly_ext rfl rfl) (hd 23 rfl) ?_; refine jo_l (ly_ext rfl rfl) (hd 24 rfl) ?_; refine jo_st (sy_store rfl rfl rfl siz30 rfl rfl (Nat.le_of_ble_eq_true rfl)) ?_; refine jo_l (ly_as rfl) (hd 5 rfl) ?_; refine jo_nil ?_; refine jc_ret ?_
  refine ⟨_, _, (.cons (ResV.cell agg30 rfl rfl rfl rfl) (.cons rfl .nil)), (.t1 (.a1 .b (.a1 .n .a0)) (.t1 .i .t0)), ?_⟩
  exact rfl
end Go.Proofs.YtaogaegchagbfaaDoor.Vc

/- Contracts of whole.Of, flip, Sign by values. -/
namespace Go.Proofs.YtaogaegchagbfaaDoor.Vc
open Go Go.RowKit
set_option maxHeartbeats 4000000 in
theorem Of_0  : Spec Tryd.prog 58 [.i .i64 0] (fun o => o = .ret (.a [.b false, .n true .u64 []])) := by
  refine spec_of' [(0, .i .i64 0)] rfl Tryd.func58 rfl (Nat.le_of_ble_eq_true rfl) fun Γ hN hds hL hR => ?_
  have hd : ∀ d, Nat.blt d 14 = true → d < Γ.N := fun d h => by rw [hN]; exact Nat.le_of_ble_eq_true h
  have rF : Spec Tryd.prog 68 [.i .u64 0] (fun o => o = .ret (.n true .u64 [])) := by have h := From_s 0; rwa [if_pos rfl] at h
  refine jc_seq ?_; refine jc_region ?_; refine jo_h (hy_alloc (id := 0) zero30 (by decide) rfl (by decide) rfl) (hd 2 rfl) ?_; refine jo_nil ?_; refine jc_seq ?_; refine jc_seq ?_; refine jc_region ?_; refine jo_l (ly_mv rfl) (hd 3 rfl) ?_; refine jo_l (ly_ff (ly_lt rfl rfl) (by decide)) (hd 4 rfl) ?_; refine jo_nil ?_; refine jc_litf rfl ?_; refine jc_skip ?_; refine jc_seq ?_; refine jc_region ?_; refine jo_l (ly_mv rfl) (hd 10 rfl) ?_; refine jo_l (ly_conv und3 und82 rfl (r := 0) rfl) (hd 11 rfl) ?_
  refine jo_call Tryd.f68 (rF) rfl Tryd.func68 rfl rfl (ovL_cons rfl ovL_nil) (.cons .i .nil) (hd 12 rfl) ?_ (fun ch hp => by simp at hp)
  rintro y hy; injection hy with hy; subst hy; refine jo_l (ly_build (is := [1]) (xs := [.tmp 12]) zero30 pls30_1 rfl (ovL_cons rfl ovL_nil) rfl (by first | (simp [plsOk, cellsV]; done) | (simp [plsOk, cellsV, old]; done)) (all_of rfl) rfl) (hd 13 rfl) ?_; refine jo_st (sy_store rfl rfl rfl siz30 rfl rfl (Nat.le_of_ble_eq_true rfl)) ?_; refine jo_nil ?_; refine jc_ret ?_
  refine ⟨_, _, (.cons (ResV.cell agg30 rfl rfl rfl rfl) .nil), (.a1 .b (.a1 .n .a0)), ?_⟩
  exact rfl

theorem Of_v (v : Int) (h : inI v) : Spec Tryd.prog 58 [.i .i64 v] (fun o => o = .ret (.a [.b (decide (v < 0)), .n true .u64 (lm v)])) := by
  have e := of_lm h
  obtain ⟨h1, h2⟩ := h
  rw [e]
  unfold fl
  rcases Int.lt_trichotomy v 0 with hv | hv | hv
  · rw [decide_eq_true hv, if_neg (by omega), show ((v.natAbs : Nat) : Int) = -v by omega]
    exact Of_neg v hv h1
  · subst hv
    exact Of_0
  · rw [decide_eq_false (by omega), if_neg (by omega), show ((v.natAbs : Nat) : Int) = v by omega]
    exact Of_pos v hv h2
end Go.Proofs.YtaogaegchagbfaaDoor.Vc

/- Contracts of whole.And, Or, Xor, Not, Bit. -/
namespace Go.Proofs.YtaogaegchagbfaaDoor.Vc
open Go Go.RowKit
theorem WSub_rv (s t : Bool) (a b : List Int) (v x : Int) (hla : a.length < 4294967296) (hlb : b.length < 4294967296) (ua : u64s a) (ub : u64s b) (hv : sv s a = v) (hx : sv t b = x) (h : lenV (v - x) ≤ 67108864) : Spec Tryd.prog 28 [.a [.b s, .n false .u64 a], .a [.b t, .n false .u64 b]] (fun o => o = .ret (.t [.a [.b (decide ((v - x) < 0)), .n true .u64 (lm (v - x))], .i .i64 0])) :=
  (WSub_l s t a b hla hlb ua ub).mono fun o ⟨s2, r, e, ho, hR⟩ => by
    rw [hv, hx] at hR
    rcases hR with ⟨_, h1, h2, h3⟩ | ⟨hb, _⟩
    · subst h1; subst h2; subst h3; exact ho
    · omega

theorem WAdd_rv (s t : Bool) (a b : List Int) (v x : Int) (hla : a.length < 4294967296) (hlb : b.length < 4294967296) (ua : u64s a) (ub : u64s b) (hv : sv s a = v) (hx : sv t b = x) (h : lenV (v + x) ≤ 67108864) : Spec Tryd.prog 26 [.a [.b s, .n false .u64 a], .a [.b t, .n false .u64 b]] (fun o => o = .ret (.t [.a [.b (decide ((v + x) < 0)), .n true .u64 (lm (v + x))], .i .i64 0])) :=
  (WAdd_l s t a b hla hlb ua ub).mono fun o ⟨s2, r, e, ho, hR⟩ => by
    rw [hv, hx] at hR
    rcases hR with ⟨_, h1, h2, h3⟩ | ⟨hb, _⟩
    · subst h1; subst h2; subst h3; exact ho
    · omega

theorem tw_len (v : Int) : lenV ((tw v : Nat) : Int) ≤ lenV v := lenV_mono (by unfold tw; split <;> omega)
theorem op_len {x y L : Nat} (hx : lenV (x : Int) ≤ L) (hy : lenV (y : Int) ≤ L) : lenV ((x &&& y : Nat) : Int) ≤ L ∧ lenV ((x ||| y : Nat) : Int) ≤ L ∧ lenV ((x ^^^ y : Nat) : Int) ≤ L ∧ lenV ((x ^^^ (x &&& y) : Nat) : Int) ≤ L := by
  have h1 : x < 2 ^ L := Nat.lt_of_lt_of_le (lt_lenV x) (Nat.pow_le_pow_right (by decide) hx)
  have h2 : y < 2 ^ L := Nat.lt_of_lt_of_le (lt_lenV y) (Nat.pow_le_pow_right (by decide) hy)
  exact ⟨lenV_pow2 (Nat.and_lt_two_pow _ h2), lenV_pow2 (Nat.or_lt_two_pow h1 h2), lenV_pow2 (Nat.xor_lt_two_pow h1 h2), lenV_pow2 (Nat.xor_lt_two_pow h1 (Nat.and_lt_two_pow _ h2))⟩

set_option maxHeartbeats 4000000 in
theorem wAnd_00 (sa sb : Bool) (a b : List Int) (v w : Int) (la : a.length < 4294967296) (lb : b.length < 4294967296) (ua : u64s a) (ub : u64s b) (ev : sv sa a = v) (ew : sv sb b = w) (hv : lenV v ≤ 67108860) (hw : lenV w ≤ 67108860) (hs : 0 ≤ v) (ht : 0 ≤ w) : Spec Tryd.prog 8 [.a [.b sa, .n false .u64 a], .a [.b sb, .n false .u64 b]] (fun o => o = .ret (.t [.a [.b (decide ((andI v w) < 0)), .n false .u64 (lm (andI v w))], .i .i64 0])) := by
  refine spec_of' [(0, .a [.b sa, .n false .u64 a]), (1, .a [.b sb, .n false .u64 b])] rfl Tryd.func8 rfl (Nat.le_of_ble_eq_true rfl) fun Γ hN hds hL hR => ?_
  have hd : ∀ d, Nat.blt d 53 = true → d < Γ.N := fun d h => by rw [hN]; exact Nat.le_of_ble_eq_true h
  have hlx := Nat.le_trans (tw_len v) hv
  have hly := Nat.le_trans (tw_len w) hw
  have hl := op_len (L := 67108860) (x := (tw v)) (y := (tw w)) (by omega) (by omega)
  have hA := twos_p sa a v la ua ev hv (by omega)
  have hB := twos_p sb b w lb ub ew hw (by omega)
  have hZ := nAnd_v (tw v) (tw w) (by omega) (by omega)
  have hlz := hl.1
  have hBk : Spec Tryd.prog 37 [.n false .u64 (lm ((((tw v) &&& (tw w)) : Nat) : Int)), .b false] (fun o => o = .ret (.t [.a [.b (decide ((andI v w) < 0)), .n true .u64 (lm (andI v w))], .i .i64 0])) := by have h := back_f ((tw v) &&& (tw w)) (by omega); rw [show andI v w = ((((tw v) &&& (tw w)) : Nat) : Int) from by unfold andI; rw [if_neg (by omega), if_neg (by omega)]]; exact h
  refine jc_seq ?_; refine jc_region ?_; refine jo_h (hy_box (id := 0) (n := 2) rfl rfl rfl (by decide) rfl) (hd 2 rfl) ?_; refine jo_h (hy_box (id := 1) (n := 2) rfl rfl rfl (by decide) rfl) (hd 3 rfl) ?_; refine jo_h (hy_alloc (id := 2) zero30 (by decide) rfl (by decide) rfl) (hd 4 rfl) ?_; refine jo_l (ly_as rfl) (hd 5 rfl) ?_; refine jo_nil ?_; refine jc_seq ?_; refine jc_region ?_; refine jo_l (ly_lda agg30 rfl rfl rfl rfl) (hd 11 rfl) ?_
  refine jo_call Tryd.f36 (hA) rfl Tryd.func36 rfl rfl (ovL_cons rfl ovL_nil) (.cons (.a1 .b (.a1 .n .a0)) .nil) (hd 12 rfl) ?_ (fun ch hp => by simp at hp)
  rintro y hy; injection hy with hy; subst hy; refine jo_l (ly_mv rfl) (hd 10 rfl) ?_; refine jo_l (ly_ext rfl rfl) (hd 13 rfl) ?_; refine jo_l (ly_ext rfl rfl) (hd 14 rfl) ?_; refine jo_l (ly_as rfl) (hd 6 rfl) ?_; refine jo_l (ly_as rfl) (hd 7 rfl) ?_; refine jo_nil ?_; refine jc_seq ?_; refine jc_region ?_; refine jo_l (ly_lda agg30 rfl rfl rfl rfl) (hd 16 rfl) ?_
  refine jo_call Tryd.f36 (hB) rfl Tryd.func36 rfl rfl (ovL_cons rfl ovL_nil) (.cons (.a1 .b (.a1 .n .a0)) .nil) (hd 17 rfl) ?_ (fun ch hp => by simp at hp)
  rintro y hy; injection hy with hy; subst hy; refine jo_l (ly_mv rfl) (hd 15 rfl) ?_; refine jo_l (ly_ext rfl rfl) (hd 18 rfl) ?_; refine jo_l (ly_ext rfl rfl) (hd 19 rfl) ?_; refine jo_l (ly_as rfl) (hd 8 rfl) ?_; refine jo_l (ly_as rfl) (hd 9 rfl) ?_; refine jo_nil ?_; refine jc_seq ?_; refine jc_block ?_; refine jc_seq ?_; refine jc_region ?_; refine jo_l (ly_mv rfl) (hd 21 rfl) ?_; refine jo_l (ly_mv rfl) (hd 22 rfl) ?_; refine jo_s 22 rfl rfl rfl (hd 23 rfl) ?_; refine jo_l (ly_pick_f rfl rfl) (hd 24 rfl) ?_; refine jo_l (ly_as rfl) (hd 20 rfl) ?_; refine jo_nil ?_; refine jc_litf rfl ?_; refine jc_seq ?_; refine jc_region ?_; refine jo_l (ly_mv rfl) (hd 32 rfl) ?_; refine jo_l (ly_as rfl) (hd 31 rfl) ?_; refine jo_nil ?_; refine jc_litf rfl ?_; refine jc_seq ?_; refine jc_region ?_; refine jo_l (ly_mv rfl) (hd 40 rfl) ?_; refine jo_l (ly_as rfl) (hd 39 rfl) ?_; refine jo_nil ?_; refine jc_litf rfl ?_; refine jc_skip ?_; refine jc_seq ?_; refine jc_region ?_; refine jo_l (ly_mv rfl) (hd 47 rfl) ?_; refine jo_l (ly_mv rfl) (hd 48 rfl) ?_
  refine jo_call Tryd.f40 (hZ) rfl Tryd.func40 rfl rfl (ovL_cons rfl (ovL_cons rfl ovL_nil)) (.cons .n (.cons .n .nil)) (hd 49 rfl) ?_ (fun ch hp => by simp at hp)
  rintro y hy; injection hy with hy; subst hy
  refine jo_call Tryd.f37 (hBk) rfl Tryd.func37 rfl rfl (ovL_cons rfl (ovL_cons rfl ovL_nil)) (.cons .n (.cons .b .nil)) (hd 50 rfl) ?_ (fun ch hp => by simp at hp)
  rintro y hy; injection hy with hy; subst hy; refine jo_l (ly_ext rfl rfl) (hd 51 rfl) ?_; refine jo_l (ly_ext rfl rfl) (hd 52 rfl) ?_; refine jo_st (sy_store rfl rfl rfl siz30 rfl rfl (Nat.le_of_ble_eq_true rfl)) ?_; refine jo_l (ly_as rfl) (hd 5 rfl) ?_; refine jo_nil ?_; refine jc_ret ?_
  refine ⟨_, _, (.cons (ResV.cell agg30 rfl rfl rfl rfl) (.cons rfl .nil)), (.t1 (.a1 .b (.a1 .nn .a0)) (.t1 .i .t0)), ?_⟩
  exact rfl

set_option maxHeartbeats 4000000 in
theorem wAnd_01 (sa sb : Bool) (a b : List Int) (v w : Int) (la : a.length < 4294967296) (lb : b.length < 4294967296) (ua : u64s a) (ub : u64s b) (ev : sv sa a = v) (ew : sv sb b = w) (hv : lenV v ≤ 67108860) (hw : lenV w ≤ 67108860) (hs : 0 ≤ v) (ht : w < 0) : Spec Tryd.prog 8 [.a [.b sa, .n false .u64 a], .a [.b sb, .n false .u64 b]] (fun o => o = .ret (.t [.a [.b (decide ((andI v w) < 0)), .n false .u64 (lm (andI v w))], .i .i64 0])) := by
  refine spec_of' [(0, .a [.b sa, .n false .u64 a]), (1, .a [.b sb, .n false .u64 b])] rfl Tryd.func8 rfl (Nat.le_of_ble_eq_true rfl) fun Γ hN hds hL hR => ?_
  have hd : ∀ d, Nat.blt d 53 = true → d < Γ.N := fun d h => by rw [hN]; exact Nat.le_of_ble_eq_true h
  have hlx := Nat.le_trans (tw_len v) hv
  have hly := Nat.le_trans (tw_len w) hw
  have hl := op_len (L := 67108860) (x := (tw v)) (y := (tw w)) (by omega) (by omega)
  have hA := twos_p sa a v la ua ev hv (by omega)
  have hB := twos_n sb b w lb ub ew hw (by omega)
  have hZ := without_v (tw v) (tw w) (by omega) (by omega)
  have hlz := hl.2.2.2
  have hBk : Spec Tryd.prog 37 [.n false .u64 (lm ((((tw v) ^^^ ((tw v) &&& (tw w))) : Nat) : Int)), .b false] (fun o => o = .ret (.t [.a [.b (decide ((andI v w) < 0)), .n true .u64 (lm (andI v w))], .i .i64 0])) := by have h := back_f ((tw v) ^^^ ((tw v) &&& (tw w))) (by omega); rw [show andI v w = ((((tw v) ^^^ ((tw v) &&& (tw w))) : Nat) : Int) from by unfold andI; rw [if_neg (by omega), if_pos (by omega)]]; exact h
  refine jc_seq ?_; refine jc_region ?_; refine jo_h (hy_box (id := 0) (n := 2) rfl rfl rfl (by decide) rfl) (hd 2 rfl) ?_; refine jo_h (hy_box (id := 1) (n := 2) rfl rfl rfl (by decide) rfl) (hd 3 rfl) ?_; refine jo_h (hy_alloc (id := 2) zero30 (by decide) rfl (by decide) rfl) (hd 4 rfl) ?_; refine jo_l (ly_as rfl) (hd 5 rfl) ?_; refine jo_nil ?_; refine jc_seq ?_; refine jc_region ?_; refine jo_l (ly_lda agg30 rfl rfl rfl rfl) (hd 11 rfl) ?_
  refine jo_call Tryd.f36 (hA) rfl Tryd.func36 rfl rfl (ovL_cons rfl ovL_nil) (.cons (.a1 .b (.a1 .n .a0)) .nil) (hd 12 rfl) ?_ (fun ch hp => by simp at hp)
  rintro y hy; injection hy with hy; subst hy; refine jo_l (ly_mv rfl) (hd 10 rfl) ?_; refine jo_l (ly_ext rfl rfl) (hd 13 rfl) ?_; refine jo_l (ly_ext rfl rfl) (hd 14 rfl) ?_; refine jo_l (ly_as rfl) (hd 6 rfl) ?_; refine jo_l (ly_as rfl) (hd 7 rfl) ?_; refine jo_nil ?_; refine jc_seq ?_; refine jc_region ?_; refine jo_l (ly_lda agg30 rfl rfl rfl rfl) (hd 16 rfl) ?_
  refine jo_call Tryd.f36 (hB) rfl Tryd.func36 rfl rfl (ovL_cons rfl ovL_nil) (.cons (.a1 .b (.a1 .n .a0)) .nil) (hd 17 rfl) ?_ (fun ch hp => by simp at hp)
  rintro y hy; injection hy with hy; subst hy; refine jo_l (ly_mv rfl) (hd 15 rfl) ?_; refine jo_l (ly_ext rfl rfl) (hd 18 rfl) ?_; refine jo_l (ly_ext rfl rfl) (hd 19 rfl) ?_; refine jo_l (ly_as rfl) (hd 8 rfl) ?_; refine jo_l (ly_as rfl) (hd 9 rfl) ?_; refine jo_nil ?_; refine jc_seq ?_; refine jc_block ?_; refine jc_seq ?_; refine jc_region ?_; refine jo_l (ly_mv rfl) (hd 21 rfl) ?_; refine jo_l (ly_mv rfl) (hd 22 rfl) ?_; refine jo_s 22 rfl rfl rfl (hd 23 rfl) ?_; refine jo_l (ly_pick_f rfl rfl) (hd 24 rfl) ?_; refine jo_l (ly_as rfl) (hd 20 rfl) ?_; refine jo_nil ?_; refine jc_litf rfl ?_; refine jc_seq ?_; refine jc_region ?_; refine jo_l (ly_mv rfl) (hd 32 rfl) ?_; refine jo_l (ly_as rfl) (hd 31 rfl) ?_; refine jo_nil ?_; refine jc_litf rfl ?_; refine jc_seq ?_; refine jc_region ?_; refine jo_l (ly_mv rfl) (hd 40 rfl) ?_; refine jo_l (ly_as rfl) (hd 39 rfl) ?_; refine jo_nil ?_; refine jc_litt rfl ?_; refine jc_seq ?_; refine jc_region ?_; refine jo_l (ly_mv rfl) (hd 41 rfl) ?_; refine jo_l (ly_mv rfl) (hd 42 rfl) ?_
  refine jo_call Tryd.f39 (hZ) rfl Tryd.func39 rfl rfl (ovL_cons rfl (ovL_cons rfl ovL_nil)) (.cons .n (.cons .n .nil)) (hd 43 rfl) ?_ (fun ch hp => by simp at hp)
  rintro y hy; injection hy with hy; subst hy
  refine jo_call Tryd.f37 (hBk) rfl Tryd.func37 rfl rfl (ovL_cons rfl (ovL_cons rfl ovL_nil)) (.cons .n (.cons .b .nil)) (hd 44 rfl) ?_ (fun ch hp => by simp at hp)
  rintro y hy; injection hy with hy; subst hy; refine jo_l (ly_ext rfl rfl) (hd 45 rfl) ?_; refine jo_l (ly_ext rfl rfl) (hd 46 rfl) ?_; refine jo_st (sy_store rfl rfl rfl siz30 rfl rfl (Nat.le_of_ble_eq_true rfl)) ?_; refine jo_l (ly_as rfl) (hd 5 rfl) ?_; refine jo_nil ?_; refine jc_ret ?_
  refine ⟨_, _, (.cons (ResV.cell agg30 rfl rfl rfl rfl) (.cons rfl .nil)), (.t1 (.a1 .b (.a1 .nn .a0)) (.t1 .i .t0)), ?_⟩
  exact rfl

set_option maxHeartbeats 4000000 in
theorem wAnd_10 (sa sb : Bool) (a b : List Int) (v w : Int) (la : a.length < 4294967296) (lb : b.length < 4294967296) (ua : u64s a) (ub : u64s b) (ev : sv sa a = v) (ew : sv sb b = w) (hv : lenV v ≤ 67108860) (hw : lenV w ≤ 67108860) (hs : v < 0) (ht : 0 ≤ w) : Spec Tryd.prog 8 [.a [.b sa, .n false .u64 a], .a [.b sb, .n false .u64 b]] (fun o => o = .ret (.t [.a [.b (decide ((andI v w) < 0)), .n false .u64 (lm (andI v w))], .i .i64 0])) := by
  refine spec_of' [(0, .a [.b sa, .n false .u64 a]), (1, .a [.b sb, .n false .u64 b])] rfl Tryd.func8 rfl (Nat.le_of_ble_eq_true rfl) fun Γ hN hds hL hR => ?_
  have hd : ∀ d, Nat.blt d 53 = true → d < Γ.N := fun d h => by rw [hN]; exact Nat.le_of_ble_eq_true h
  have hlx := Nat.le_trans (tw_len v) hv
  have hly := Nat.le_trans (tw_len w) hw
  have hl := op_len (L := 67108860) (x := (tw w)) (y := (tw v)) (by omega) (by omega)
  have hA := twos_n sa a v la ua ev hv (by omega)
  have hB := twos_p sb b w lb ub ew hw (by omega)
  have hZ := without_v (tw w) (tw v) (by omega) (by omega)
  have hlz := hl.2.2.2
  have hBk : Spec Tryd.prog 37 [.n false .u64 (lm ((((tw w) ^^^ ((tw w) &&& (tw v))) : Nat) : Int)), .b false] (fun o => o = .ret (.t [.a [.b (decide ((andI v w) < 0)), .n true .u64 (lm (andI v w))], .i .i64 0])) := by have h := back_f ((tw w) ^^^ ((tw w) &&& (tw v))) (by omega); rw [show andI v w = ((((tw w) ^^^ ((tw w) &&& (tw v))) : Nat) : Int) from by unfold andI; rw [if_pos (by omega), if_neg (by omega)]]; exact h
  refine jc_seq ?_; refine jc_region ?_; refine jo_h (hy_box (id := 0) (n := 2) rfl rfl rfl (by decide) rfl) (hd 2 rfl) ?_; refine jo_h (hy_box (id := 1) (n := 2) rfl rfl rfl (by decide) rfl) (hd 3 rfl) ?_; refine jo_h (hy_alloc (id := 2) zero30 (by decide) rfl (by decide) rfl) (hd 4 rfl) ?_; refine jo_l (ly_as rfl) (hd 5 rfl) ?_; refine jo_nil ?_; refine jc_seq ?_; refine jc_region ?_; refine jo_l (ly_lda agg30 rfl rfl rfl rfl) (hd 11 rfl) ?_
  refine jo_call Tryd.f36 (hA) rfl Tryd.func36 rfl rfl (ovL_cons rfl ovL_nil) (.cons (.a1 .b (.a1 .n .a0)) .nil) (hd 12 rfl) ?_ (fun ch hp => by simp at hp)
  rintro y hy; injection hy with hy; subst hy; refine jo_l (ly_mv rfl) (hd 10 rfl) ?_; refine jo_l (ly_ext rfl rfl) (hd 13 rfl) ?_; refine jo_l (ly_ext rfl rfl) (hd 14 rfl) ?_; refine jo_l (ly_as rfl) (hd 6 rfl) ?_; refine jo_l (ly_as rfl) (hd 7 rfl) ?_; refine jo_nil ?_; refine jc_seq ?_; refine jc_region ?_; refine jo_l (ly_lda agg30 rfl rfl rfl rfl) (hd 16 rfl) ?_
  refine jo_call Tryd.f36 (hB) rfl Tryd.func36 rfl rfl (ovL_cons rfl ovL_nil) (.cons (.a1 .b (.a1 .n .a0)) .nil) (hd 17 rfl) ?_ (fun ch hp => by simp at hp)
  rintro y hy; injection hy with hy; subst hy; refine jo_l (ly_mv rfl) (hd 15 rfl) ?_; refine jo_l (ly_ext rfl rfl) (hd 18 rfl) ?_; refine jo_l (ly_ext rfl rfl) (hd 19 rfl) ?_; refine jo_l (ly_as rfl) (hd 8 rfl) ?_; refine jo_l (ly_as rfl) (hd 9 rfl) ?_; refine jo_nil ?_; refine jc_seq ?_; refine jc_block ?_; refine jc_seq ?_; refine jc_region ?_; refine jo_l (ly_mv rfl) (hd 21 rfl) ?_; refine jo_l (ly_mv rfl) (hd 22 rfl) ?_; refine jo_g 22 rfl rfl (ly_mv rfl) (hd 23 rfl) ?_; refine jo_l (ly_pick_t rfl rfl) (hd 24 rfl) ?_; refine jo_l (ly_as rfl) (hd 20 rfl) ?_; refine jo_nil ?_; refine jc_litf rfl ?_; refine jc_seq ?_; refine jc_region ?_; refine jo_l (ly_mv rfl) (hd 32 rfl) ?_; refine jo_l (ly_as rfl) (hd 31 rfl) ?_; refine jo_nil ?_; refine jc_litt rfl ?_; refine jc_seq ?_; refine jc_region ?_; refine jo_l (ly_mv rfl) (hd 33 rfl) ?_; refine jo_l (ly_mv rfl) (hd 34 rfl) ?_
  refine jo_call Tryd.f39 (hZ) rfl Tryd.func39 rfl rfl (ovL_cons rfl (ovL_cons rfl ovL_nil)) (.cons .n (.cons .n .nil)) (hd 35 rfl) ?_ (fun ch hp => by simp at hp)
  rintro y hy; injection hy with hy; subst hy
  refine jo_call Tryd.f37 (hBk) rfl Tryd.func37 rfl rfl (ovL_cons rfl (ovL_cons rfl ovL_nil)) (.cons .n (.cons .b .nil)) (hd 36 rfl) ?_ (fun ch hp => by simp at hp)
  rintro y hy; injection hy with hy; subst hy; refine jo_l (ly_ext rfl rfl) (hd 37 rfl) ?_; refine jo_l (ly_ext rfl rfl) (hd 38 rfl) ?_; refine jo_st (sy_store rfl rfl rfl siz30 rfl rfl (Nat.le_of_ble_eq_true rfl)) ?_; refine jo_l (ly_as rfl) (hd 5 rfl) ?_; refine jo_nil ?_; refine jc_ret ?_
  refine ⟨_, _, (.cons (ResV.cell agg30 rfl rfl rfl rfl) (.cons rfl .nil)), (.t1 (.a1 .b (.a1 .nn .a0)) (.t1 .i .t0)), ?_⟩
  exact rfl

set_option maxHeartbeats 4000000 in
theorem wAnd_11 (sa sb : Bool) (a b : List Int) (v w : Int) (la : a.length < 4294967296) (lb : b.length < 4294967296) (ua : u64s a) (ub : u64s b) (ev : sv sa a = v) (ew : sv sb b = w) (hv : lenV v ≤ 67108860) (hw : lenV w ≤ 67108860) (hs : v < 0) (ht : w < 0) : Spec Tryd.prog 8 [.a [.b sa, .n false .u64 a], .a [.b sb, .n false .u64 b]] (fun o => o = .ret (.t [.a [.b (decide ((andI v w) < 0)), .n false .u64 (lm (andI v w))], .i .i64 0])) := by
  refine spec_of' [(0, .a [.b sa, .n false .u64 a]), (1, .a [.b sb, .n false .u64 b])] rfl Tryd.func8 rfl (Nat.le_of_ble_eq_true rfl) fun Γ hN hds hL hR => ?_
  have hd : ∀ d, Nat.blt d 53 = true → d < Γ.N := fun d h => by rw [hN]; exact Nat.le_of_ble_eq_true h
  have hlx := Nat.le_trans (tw_len v) hv
  have hly := Nat.le_trans (tw_len w) hw
  have hl := op_len (L := 67108860) (x := (tw v)) (y := (tw w)) (by omega) (by omega)
  have hA := twos_n sa a v la ua ev hv (by omega)
  have hB := twos_n sb b w lb ub ew hw (by omega)
  have hZ := nOr_v (tw v) (tw w) (by omega) (by omega)
  have hlz := hl.2.1
  have hBk : Spec Tryd.prog 37 [.n false .u64 (lm ((((tw v) ||| (tw w)) : Nat) : Int)), .b true] (fun o => o = .ret (.t [.a [.b (decide ((andI v w) < 0)), .n true .u64 (lm (andI v w))], .i .i64 0])) := by have h := back_t ((tw v) ||| (tw w)) (by omega); rw [show andI v w = (-((((tw v) ||| (tw w)) : Nat) : Int) - 1) from by unfold andI; rw [if_pos (by omega), if_pos (by omega)]]; exact h
  refine jc_seq ?_; refine jc_region ?_; refine jo_h (hy_box (id := 0) (n := 2) rfl rfl rfl (by decide) rfl) (hd 2 rfl) ?_; refine jo_h (hy_box (id := 1) (n := 2) rfl rfl rfl (by decide) rfl) (hd 3 rfl) ?_; refine jo_h (hy_alloc (id := 2) zero30 (by decide) rfl (by decide) rfl) (hd 4 rfl) ?_; refine jo_l (ly_as rfl) (hd 5 rfl) ?_; refine jo_nil ?_; refine jc_seq ?_; refine jc_region ?_; refine jo_l (ly_lda agg30 rfl rfl rfl rfl) (hd 11 rfl) ?_
  refine jo_call Tryd.f36 (hA) rfl Tryd.func36 rfl rfl (ovL_cons rfl ovL_nil) (.cons (.a1 .b (.a1 .n .a0)) .nil) (hd 12 rfl) ?_ (fun ch hp => by simp at hp)
  rintro y hy; injection hy with hy; subst hy; refine jo_l (ly_mv rfl) (hd 10 rfl) ?_; refine jo_l (ly_ext rfl rfl) (hd 13 rfl) ?_; refine jo_l (ly_ext rfl rfl) (hd 14 rfl) ?_; refine jo_l (ly_as rfl) (hd 6 rfl) ?_; refine jo_l (ly_as rfl) (hd 7 rfl) ?_; refine jo_nil ?_; refine jc_seq ?_; refine jc_region ?_; refine jo_l (ly_lda agg30 rfl rfl rfl rfl) (hd 16 rfl) ?_
  refine jo_call Tryd.f36 (hB) rfl Tryd.func36 rfl rfl (ovL_cons rfl ovL_nil) (.cons (.a1 .b (.a1 .n .a0)) .nil) (hd 17 rfl) ?_ (fun ch hp => by simp at hp)
  rintro y hy; injection hy with hy; subst hy; refine jo_l (ly_mv rfl) (hd 15 rfl) ?_; refine jo_l (ly_ext rfl rfl) (hd 18 rfl) ?_; refine jo_l (ly_ext rfl rfl) (hd 19 rfl) ?_; refine jo_l (ly_as rfl) (hd 8 rfl) ?_; refine jo_l (ly_as rfl) (hd 9 rfl) ?_; refine jo_nil ?_; refine jc_seq ?_; refine jc_block ?_; refine jc_seq ?_; refine jc_region ?_; refine jo_l (ly_mv rfl) (hd 21 rfl) ?_; refine jo_l (ly_mv rfl) (hd 22 rfl) ?_; refine jo_g 22 rfl rfl (ly_mv rfl) (hd 23 rfl) ?_; refine jo_l (ly_pick_t rfl rfl) (hd 24 rfl) ?_; refine jo_l (ly_as rfl) (hd 20 rfl) ?_; refine jo_nil ?_; refine jc_litt rfl ?_; refine jc_seq ?_; refine jc_region ?_; refine jo_l (ly_mv rfl) (hd 25 rfl) ?_; refine jo_l (ly_mv rfl) (hd 26 rfl) ?_
  refine jo_call Tryd.f38 (hZ) rfl Tryd.func38 rfl rfl (ovL_cons rfl (ovL_cons rfl ovL_nil)) (.cons .n (.cons .n .nil)) (hd 27 rfl) ?_ (fun ch hp => by simp at hp)
  rintro y hy; injection hy with hy; subst hy
  refine jo_call Tryd.f37 (hBk) rfl Tryd.func37 rfl rfl (ovL_cons rfl (ovL_cons rfl ovL_nil)) (.cons .n (.cons .b .nil)) (hd 28 rfl) ?_ (fun ch hp => by simp at hp)
  rintro y hy; injection hy with hy; subst hy; refine jo_l (ly_ext rfl rfl) (hd 29 rfl) ?_; refine jo_l (ly_ext rfl rfl) (hd 30 rfl) ?_; refine jo_st (sy_store rfl rfl rfl siz30 rfl rfl (Nat.le_of_ble_eq_true rfl)) ?_; refine jo_l (ly_as rfl) (hd 5 rfl) ?_; refine jo_nil ?_; refine jc_ret ?_
  refine ⟨_, _, (.cons (ResV.cell agg30 rfl rfl rfl rfl) (.cons rfl .nil)), (.t1 (.a1 .b (.a1 .nn .a0)) (.t1 .i .t0)), ?_⟩
  exact rfl

theorem wAnd_v (sa sb : Bool) (a b : List Int) (v w : Int) (la : a.length < 4294967296) (lb : b.length < 4294967296) (ua : u64s a) (ub : u64s b) (ev : sv sa a = v) (ew : sv sb b = w) (hv : lenV v ≤ 67108860) (hw : lenV w ≤ 67108860) : Spec Tryd.prog 8 [.a [.b sa, .n false .u64 a], .a [.b sb, .n false .u64 b]] (fun o => o = .ret (.t [.a [.b (decide ((andI v w) < 0)), .n false .u64 (lm (andI v w))], .i .i64 0])) := by
  by_cases hs : v < 0 <;> by_cases ht : w < 0
  · exact wAnd_11 sa sb a b v w la lb ua ub ev ew hv hw hs ht
  · exact wAnd_10 sa sb a b v w la lb ua ub ev ew hv hw hs (by omega)
  · exact wAnd_01 sa sb a b v w la lb ua ub ev ew hv hw (by omega) ht
  · exact wAnd_00 sa sb a b v w la lb ua ub ev ew hv hw (by omega) (by omega)

set_option maxHeartbeats 4000000 in
theorem wOr_00 (sa sb : Bool) (a b : List Int) (v w : Int) (la : a.length < 4294967296) (lb : b.length < 4294967296) (ua : u64s a) (ub : u64s b) (ev : sv sa a = v) (ew : sv sb b = w) (hv : lenV v ≤ 67108860) (hw : lenV w ≤ 67108860) (hs : 0 ≤ v) (ht : 0 ≤ w) : Spec Tryd.prog 9 [.a [.b sa, .n false .u64 a], .a [.b sb, .n false .u64 b]] (fun o => o = .ret (.t [.a [.b (decide ((orI v w) < 0)), .n false .u64 (lm (orI v w))], .i .i64 0])) := by
  refine spec_of' [(0, .a [.b sa, .n false .u64 a]), (1, .a [.b sb, .n false .u64 b])] rfl Tryd.func9 rfl (Nat.le_of_ble_eq_true rfl) fun Γ hN hds hL hR => ?_
  have hd : ∀ d, Nat.blt d 53 = true → d < Γ.N := fun d h => by rw [hN]; exact Nat.le_of_ble_eq_true h
  have hlx := Nat.le_trans (tw_len v) hv
  have hly := Nat.le_trans (tw_len w) hw
  have hl := op_len (L := 67108860) (x := (tw v)) (y := (tw w)) (by omega) (by omega)
  have hA := twos_p sa a v la ua ev hv (by omega)
  have hB := twos_p sb b w lb ub ew hw (by omega)
  have hZ := nOr_v (tw v) (tw w) (by omega) (by omega)
  have hlz := hl.2.1
  have hBk : Spec Tryd.prog 37 [.n false .u64 (lm ((((tw v) ||| (tw w)) : Nat) : Int)), .b false] (fun o => o = .ret (.t [.a [.b (decide ((orI v w) < 0)), .n true .u64 (lm (orI v w))], .i .i64 0])) := by have h := back_f ((tw v) ||| (tw w)) (by omega); rw [show orI v w = ((((tw v) ||| (tw w)) : Nat) : Int) from by unfold orI; rw [if_neg (by omega), if_neg (by omega)]]; exact h
  refine jc_seq ?_; refine jc_region ?_; refine jo_h (hy_box (id := 0) (n := 2) rfl rfl rfl (by decide) rfl) (hd 2 rfl) ?_; refine jo_h (hy_box (id := 1) (n := 2) rfl rfl rfl (by decide) rfl) (hd 3 rfl) ?_; refine jo_h (hy_alloc (id := 2) zero30 (by decide) rfl (by decide) rfl) (hd 4 rfl) ?_; refine jo_l (ly_as rfl) (hd 5 rfl) ?_; refine jo_nil ?_; refine jc_seq ?_; refine jc_region ?_; refine jo_l (ly_lda agg30 rfl rfl rfl rfl) (hd 11 rfl) ?_
  refine jo_call Tryd.f36 (hA) rfl Tryd.func36 rfl rfl (ovL_cons rfl ovL_nil) (.cons (.a1 .b (.a1 .n .a0)) .nil) (hd 12 rfl) ?_ (fun ch hp => by simp at hp)
  rintro y hy; injection hy with hy; subst hy; refine jo_l (ly_mv rfl) (hd 10 rfl) ?_; refine jo_l (ly_ext rfl rfl) (hd 13 rfl) ?_; refine jo_l (ly_ext rfl rfl) (hd 14 rfl) ?_; refine jo_l (ly_as rfl) (hd 6 rfl) ?_; refine jo_l (ly_as rfl) (hd 7 rfl) ?_; refine jo_nil ?_; refine jc_seq ?_; refine jc_region ?_; refine jo_l (ly_lda agg30 rfl rfl rfl rfl) (hd 16 rfl) ?_
  refine jo_call Tryd.f36 (hB) rfl Tryd.func36 rfl rfl (ovL_cons rfl ovL_nil) (.cons (.a1 .b (.a1 .n .a0)) .nil) (hd 17 rfl) ?_ (fun ch hp => by simp at hp)
  rintro y hy; injection hy with hy; subst hy; refine jo_l (ly_mv rfl) (hd 15 rfl) ?_; refine jo_l (ly_ext rfl rfl) (hd 18 rfl) ?_; refine jo_l (ly_ext rfl rfl) (hd 19 rfl) ?_; refine jo_l (ly_as rfl) (hd 8 rfl) ?_; refine jo_l (ly_as rfl) (hd 9 rfl) ?_; refine jo_nil ?_; refine jc_seq ?_; refine jc_block ?_; refine jc_seq ?_; refine jc_region ?_; refine jo_l (ly_mv rfl) (hd 21 rfl) ?_; refine jo_l (ly_mv rfl) (hd 22 rfl) ?_; refine jo_s 22 rfl rfl rfl (hd 23 rfl) ?_; refine jo_l (ly_pick_f rfl rfl) (hd 24 rfl) ?_; refine jo_l (ly_as rfl) (hd 20 rfl) ?_; refine jo_nil ?_; refine jc_litf rfl ?_; refine jc_seq ?_; refine jc_region ?_; refine jo_l (ly_mv rfl) (hd 32 rfl) ?_; refine jo_l (ly_as rfl) (hd 31 rfl) ?_; refine jo_nil ?_; refine jc_litf rfl ?_; refine jc_seq ?_; refine jc_region ?_; refine jo_l (ly_mv rfl) (hd 40 rfl) ?_; refine jo_l (ly_as rfl) (hd 39 rfl) ?_; refine jo_nil ?_; refine jc_litf rfl ?_; refine jc_skip ?_; refine jc_seq ?_; refine jc_region ?_; refine jo_l (ly_mv rfl) (hd 47 rfl) ?_; refine jo_l (ly_mv rfl) (hd 48 rfl) ?_
  refine jo_call Tryd.f38 (hZ) rfl Tryd.func38 rfl rfl (ovL_cons rfl (ovL_cons rfl ovL_nil)) (.cons .n (.cons .n .nil)) (hd 49 rfl) ?_ (fun ch hp => by simp at hp)
  rintro y hy; injection hy with hy; subst hy
  refine jo_call Tryd.f37 (hBk) rfl Tryd.func37 rfl rfl (ovL_cons rfl (ovL_cons rfl ovL_nil)) (.cons .n (.cons .b .nil)) (hd 50 rfl) ?_ (fun ch hp => by simp at hp)
  rintro y hy; injection hy with hy; subst hy; refine jo_l (ly_ext rfl rfl) (hd 51 rfl) ?_; refine jo_l (ly_ext rfl rfl) (hd 52 rfl) ?_; refine jo_st (sy_store rfl rfl rfl siz30 rfl rfl (Nat.le_of_ble_eq_true rfl)) ?_; refine jo_l (ly_as rfl) (hd 5 rfl) ?_; refine jo_nil ?_; refine jc_ret ?_
  refine ⟨_, _, (.cons (ResV.cell agg30 rfl rfl rfl rfl) (.cons rfl .nil)), (.t1 (.a1 .b (.a1 .nn .a0)) (.t1 .i .t0)), ?_⟩
  exact rfl

set_option maxHeartbeats 4000000 in
theorem wOr_01 (sa sb : Bool) (a b : List Int) (v w : Int) (la : a.length < 4294967296) (lb : b.length < 4294967296) (ua : u64s a) (ub : u64s b) (ev : sv sa a = v) (ew : sv sb b = w) (hv : lenV v ≤ 67108860) (hw : lenV w ≤ 67108860) (hs : 0 ≤ v) (ht : w < 0) : Spec Tryd.prog 9 [.a [.b sa, .n false .u64 a], .a [.b sb, .n false .u64 b]] (fun o => o = .ret (.t [.a [.b (decide ((orI v w) < 0)), .n false .u64 (lm (orI v w))], .i .i64 0])) := by
  refine spec_of' [(0, .a [.b sa, .n false .u64 a]), (1, .a [.b sb, .n false .u64 b])] rfl Tryd.func9 rfl (Nat.le_of_ble_eq_true rfl) fun Γ hN hds hL hR => ?_
  have hd : ∀ d, Nat.blt d 53 = true → d < Γ.N := fun d h => by rw [hN]; exact Nat.le_of_ble_eq_true h
  have hlx := Nat.le_trans (tw_len v) hv
  have hly := Nat.le_trans (tw_len w) hw
  have hl := op_len (L := 67108860) (x := (tw w)) (y := (tw v)) (by omega) (by omega)
  have hA := twos_p sa a v la ua ev hv (by omega)
  have hB := twos_n sb b w lb ub ew hw (by omega)
  have hZ := without_v (tw w) (tw v) (by omega) (by omega)
  have hlz := hl.2.2.2
  have hBk : Spec Tryd.prog 37 [.n false .u64 (lm ((((tw w) ^^^ ((tw w) &&& (tw v))) : Nat) : Int)), .b true] (fun o => o = .ret (.t [.a [.b (decide ((orI v w) < 0)), .n true .u64 (lm (orI v w))], .i .i64 0])) := by have h := back_t ((tw w) ^^^ ((tw w) &&& (tw v))) (by omega); rw [show orI v w = (-((((tw w) ^^^ ((tw w) &&& (tw v))) : Nat) : Int) - 1) from by unfold orI; rw [if_neg (by omega), if_pos (by omega)]]; exact h
  refine jc_seq ?_; refine jc_region ?_; refine jo_h (hy_box (id := 0) (n := 2) rfl rfl rfl (by decide) rfl) (hd 2 rfl) ?_; refine jo_h (hy_box (id := 1) (n := 2) rfl rfl rfl (by decide) rfl) (hd 3 rfl) ?_; refine jo_h (hy_alloc (id := 2) zero30 (by decide) rfl (by decide) rfl) (hd 4 rfl) ?_; refine jo_l (ly_as rfl) (hd 5 rfl) ?_; refine jo_nil ?_; refine jc_seq ?_; refine jc_region ?_; refine jo_l (ly_lda agg30 rfl rfl rfl rfl) (hd 11 rfl) ?_
  refine jo_call Tryd.f36 (hA) rfl Tryd.func36 rfl rfl (ovL_cons rfl ovL_nil) (.cons (.a1 .b (.a1 .n .a0)) .nil) (hd 12 rfl) ?_ (fun ch hp => by simp at hp)
  rintro y hy; injection hy with hy; subst hy; refine jo_l (ly_mv rfl) (hd 10 rfl) ?_; refine jo_l (ly_ext rfl rfl) (hd 13 rfl) ?_; refine jo_l (ly_ext rfl rfl) (hd 14 rfl) ?_; refine jo_l (ly_as rfl) (hd 6 rfl) ?_; refine jo_l (ly_as rfl) (hd 7 rfl) ?_; refine jo_nil ?_; refine jc_seq ?_; refine jc_region ?_; refine jo_l (ly_lda agg30 rfl rfl rfl rfl) (hd 16 rfl) ?_
  refine jo_call Tryd.f36 (hB) rfl Tryd.func36 rfl rfl (ovL_cons rfl ovL_nil) (.cons (.a1 .b (.a1 .n .a0)) .nil) (hd 17 rfl) ?_ (fun ch hp => by simp at hp)
  rintro y hy; injection hy with hy; subst hy; refine jo_l (ly_mv rfl) (hd 15 rfl) ?_; refine jo_l (ly_ext rfl rfl) (hd 18 rfl) ?_; refine jo_l (ly_ext rfl rfl) (hd 19 rfl) ?_; refine jo_l (ly_as rfl) (hd 8 rfl) ?_; refine jo_l (ly_as rfl) (hd 9 rfl) ?_; refine jo_nil ?_; refine jc_seq ?_; refine jc_block ?_; refine jc_seq ?_; refine jc_region ?_; refine jo_l (ly_mv rfl) (hd 21 rfl) ?_; refine jo_l (ly_mv rfl) (hd 22 rfl) ?_; refine jo_s 22 rfl rfl rfl (hd 23 rfl) ?_; refine jo_l (ly_pick_f rfl rfl) (hd 24 rfl) ?_; refine jo_l (ly_as rfl) (hd 20 rfl) ?_; refine jo_nil ?_; refine jc_litf rfl ?_; refine jc_seq ?_; refine jc_region ?_; refine jo_l (ly_mv rfl) (hd 32 rfl) ?_; refine jo_l (ly_as rfl) (hd 31 rfl) ?_; refine jo_nil ?_; refine jc_litf rfl ?_; refine jc_seq ?_; refine jc_region ?_; refine jo_l (ly_mv rfl) (hd 40 rfl) ?_; refine jo_l (ly_as rfl) (hd 39 rfl) ?_; refine jo_nil ?_; refine jc_litt rfl ?_; refine jc_seq ?_; refine jc_region ?_; refine jo_l (ly_mv rfl) (hd 41 rfl) ?_; refine jo_l (ly_mv rfl) (hd 42 rfl) ?_
  refine jo_call Tryd.f39 (hZ) rfl Tryd.func39 rfl rfl (ovL_cons rfl (ovL_cons rfl ovL_nil)) (.cons .n (.cons .n .nil)) (hd 43 rfl) ?_ (fun ch hp => by simp at hp)
  rintro y hy; injection hy with hy; subst hy
  refine jo_call Tryd.f37 (hBk) rfl Tryd.func37 rfl rfl (ovL_cons rfl (ovL_cons rfl ovL_nil)) (.cons .n (.cons .b .nil)) (hd 44 rfl) ?_ (fun ch hp => by simp at hp)
  rintro y hy; injection hy with hy; subst hy; refine jo_l (ly_ext rfl rfl) (hd 45 rfl) ?_; refine jo_l (ly_ext rfl rfl) (hd 46 rfl) ?_; refine jo_st (sy_store rfl rfl rfl siz30 rfl rfl (Nat.le_of_ble_eq_true rfl)) ?_; refine jo_l (ly_as rfl) (hd 5 rfl) ?_; refine jo_nil ?_; refine jc_ret ?_
  refine ⟨_, _, (.cons (ResV.cell agg30 rfl rfl rfl rfl) (.cons rfl .nil)), (.t1 (.a1 .b (.a1 .nn .a0)) (.t1 .i .t0)), ?_⟩
  exact rfl

set_option maxHeartbeats 4000000 in
theorem wOr_10 (sa sb : Bool) (a b : List Int) (v w : Int) (la : a.length < 4294967296) (lb : b.length < 4294967296) (ua : u64s a) (ub : u64s b) (ev : sv sa a = v) (ew : sv sb b = w) (hv : lenV v ≤ 67108860) (hw : lenV w ≤ 67108860) (hs : v < 0) (ht : 0 ≤ w) : Spec Tryd.prog 9 [.a [.b sa, .n false .u64 a], .a [.b sb, .n false .u64 b]] (fun o => o = .ret (.t [.a [.b (decide ((orI v w) < 0)), .n false .u64 (lm (orI v w))], .i .i64 0])) := by
  refine spec_of' [(0, .a [.b sa, .n false .u64 a]), (1, .a [.b sb, .n false .u64 b])] rfl Tryd.func9 rfl (Nat.le_of_ble_eq_true rfl) fun Γ hN hds hL hR => ?_
  have hd : ∀ d, Nat.blt d 53 = true → d < Γ.N := fun d h => by rw [hN]; exact Nat.le_of_ble_eq_true h
  have hlx := Nat.le_trans (tw_len v) hv
  have hly := Nat.le_trans (tw_len w) hw
  have hl := op_len (L := 67108860) (x := (tw v)) (y := (tw w)) (by omega) (by omega)
  have hA := twos_n sa a v la ua ev hv (by omega)
  have hB := twos_p sb b w lb ub ew hw (by omega)
  have hZ := without_v (tw v) (tw w) (by omega) (by omega)
  have hlz := hl.2.2.2
  have hBk : Spec Tryd.prog 37 [.n false .u64 (lm ((((tw v) ^^^ ((tw v) &&& (tw w))) : Nat) : Int)), .b true] (fun o => o = .ret (.t [.a [.b (decide ((orI v w) < 0)), .n true .u64 (lm (orI v w))], .i .i64 0])) := by have h := back_t ((tw v) ^^^ ((tw v) &&& (tw w))) (by omega); rw [show orI v w = (-((((tw v) ^^^ ((tw v) &&& (tw w))) : Nat) : Int) - 1) from by unfold orI; rw [if_pos (by omega), if_neg (by omega)]]; exact h
  refine jc_seq ?_; refine jc_region ?_; refine jo_h (hy_box (id := 0) (n := 2) rfl rfl rfl (by decide) rfl) (hd 2 rfl) ?_; refine jo_h (hy_box (id := 1) (n := 2) rfl rfl rfl (by decide) rfl) (hd 3 rfl) ?_; refine jo_h (hy_alloc (id := 2) zero30 (by decide) rfl (by decide) rfl) (hd 4 rfl) ?_; refine jo_l (ly_as rfl) (hd 5 rfl) ?_; refine jo_nil ?_; refine jc_seq ?_; refine jc_region ?_; refine jo_l (ly_lda agg30 rfl rfl rfl rfl) (hd 11 rfl) ?_
  refine jo_call Tryd.f36 (hA) rfl Tryd.func36 rfl rfl (ovL_cons rfl ovL_nil) (.cons (.a1 .b (.a1 .n .a0)) .nil) (hd 12 rfl) ?_ (fun ch hp => by simp at hp)
  rintro y hy; injection hy with hy; subst hy; refine jo_l (ly_mv rfl) (hd 10 rfl) ?_; refine jo_l (ly_ext rfl rfl) (hd 13 rfl) ?_; refine jo_l (ly_ext rfl rfl) (hd 14 rfl) ?_; refine jo_l (ly_as rfl) (hd 6 rfl) ?_; refine jo_l (ly_as rfl) (hd 7 rfl) ?_; refine jo_nil ?_; refine jc_seq ?_; refine jc_region ?_; refine jo_l (ly_lda agg30 rfl rfl rfl rfl) (hd 16 rfl) ?_
  refine jo_call Tryd.f36 (hB) rfl Tryd.func36 rfl rfl (ovL_cons rfl ovL_nil) (.cons (.a1 .b (.a1 .n .a0)) .nil) (hd 17 rfl) ?_ (fun ch hp => by simp at hp)
  rintro y hy; injection hy with hy; subst hy; refine jo_l (ly_mv rfl) (hd 15 rfl) ?_; refine jo_l (ly_ext rfl rfl) (hd 18 rfl) ?_; refine jo_l (ly_ext rfl rfl) (hd 19 rfl) ?_; refine jo_l (ly_as rfl) (hd 8 rfl) ?_; refine jo_l (ly_as rfl) (hd 9 rfl) ?_; refine jo_nil ?_; refine jc_seq ?_; refine jc_block ?_; refine jc_seq ?_; refine jc_region ?_; refine jo_l (ly_mv rfl) (hd 21 rfl) ?_; refine jo_l (ly_mv rfl) (hd 22 rfl) ?_; refine jo_g 22 rfl rfl (ly_mv rfl) (hd 23 rfl) ?_; refine jo_l (ly_pick_t rfl rfl) (hd 24 rfl) ?_; refine jo_l (ly_as rfl) (hd 20 rfl) ?_; refine jo_nil ?_; refine jc_litf rfl ?_; refine jc_seq ?_; refine jc_region ?_; refine jo_l (ly_mv rfl) (hd 32 rfl) ?_; refine jo_l (ly_as rfl) (hd 31 rfl) ?_; refine jo_nil ?_; refine jc_litt rfl ?_; refine jc_seq ?_; refine jc_region ?_; refine jo_l (ly_mv rfl) (hd 33 rfl) ?_; refine jo_l (ly_mv rfl) (hd 34 rfl) ?_
  refine jo_call Tryd.f39 (hZ) rfl Tryd.func39 rfl rfl (ovL_cons rfl (ovL_cons rfl ovL_nil)) (.cons .n (.cons .n .nil)) (hd 35 rfl) ?_ (fun ch hp => by simp at hp)
  rintro y hy; injection hy with hy; subst hy
  refine jo_call Tryd.f37 (hBk) rfl Tryd.func37 rfl rfl (ovL_cons rfl (ovL_cons rfl ovL_nil)) (.cons .n (.cons .b .nil)) (hd 36 rfl) ?_ (fun ch hp => by simp at hp)
  rintro y hy; injection hy with hy; subst hy; refine jo_l (ly_ext rfl rfl) (hd 37 rfl) ?_; refine jo_l (ly_ext rfl rfl) (hd 38 rfl) ?_; refine jo_st (sy_store rfl rfl rfl siz30 rfl rfl (Nat.le_of_ble_eq_true rfl)) ?_; refine jo_l (ly_as rfl) (hd 5 rfl) ?_; refine jo_nil ?_; refine jc_ret ?_
  refine ⟨_, _, (.cons (ResV.cell agg30 rfl rfl rfl rfl) (.cons rfl .nil)), (.t1 (.a1 .b (.a1 .nn .a0)) (.t1 .i .t0)), ?_⟩
  exact rfl

set_option maxHeartbeats 4000000 in
theorem wOr_11 (sa sb : Bool) (a b : List Int) (v w : Int) (la : a.length < 4294967296) (lb : b.length < 4294967296) (ua : u64s a) (ub : u64s b) (ev : sv sa a = v) (ew : sv sb b = w) (hv : lenV v ≤ 67108860) (hw : lenV w ≤ 67108860) (hs : v < 0) (ht : w < 0) : Spec Tryd.prog 9 [.a [.b sa, .n false .u64 a], .a [.b sb, .n false .u64 b]] (fun o => o = .ret (.t [.a [.b (decide ((orI v w) < 0)), .n false .u64 (lm (orI v w))], .i .i64 0])) := by
  refine spec_of' [(0, .a [.b sa, .n false .u64 a]), (1, .a [.b sb, .n false .u64 b])] rfl Tryd.func9 rfl (Nat.le_of_ble_eq_true rfl) fun Γ hN hds hL hR => ?_
  have hd : ∀ d, Nat.blt d 53 = true → d < Γ.N := fun d h => by rw [hN]; exact Nat.le_of_ble_eq_true h
  have hlx := Nat.le_trans (tw_len v) hv
  have hly := Nat.le_trans (tw_len w) hw
  have hl := op_len (L := 67108860) (x := (tw v)) (y := (tw w)) (by omega) (by omega)
  have hA := twos_n sa a v la ua ev hv (by omega)
  have hB := twos_n sb b w lb ub ew hw (by omega)
  have hZ := nAnd_v (tw v) (tw w) (by omega) (by omega)
  have hlz := hl.1
  have hBk : Spec Tryd.prog 37 [.n false .u64 (lm ((((tw v) &&& (tw w)) : Nat) : Int)), .b true] (fun o => o = .ret (.t [.a [.b (decide ((orI v w) < 0)), .n true .u64 (lm (orI v w))], .i .i64 0])) := by have h := back_t ((tw v) &&& (tw w)) (by omega); rw [show orI v w = (-((((tw v) &&& (tw w)) : Nat) : Int) - 1) from by unfold orI; rw [if_pos (by omega), if_pos (by omega)]]; exact h
  refine jc_seq ?_; refine jc_region ?_; refine jo_h (hy_box (id := 0) (n := 2) rfl rfl rfl (by decide) rfl) (hd 2 rfl) ?_; refine jo_h (hy_box (id := 1) (n := 2) rfl rfl rfl (by decide) rfl) (hd 3 rfl) ?_; refine jo_h (hy_alloc (id := 2) zero30 (by decide) rfl (by decide) rfl) (hd 4 rfl) ?_; refine jo_l (ly_as rfl) (hd 5 rfl) ?_; refine jo_nil ?_; refine jc_seq ?_; refine jc_region ?_; refine jo_l (ly_lda agg30 rfl rfl rfl rfl) (hd 11 rfl) ?_
  refine jo_call Tryd.f36 (hA) rfl Tryd.func36 rfl rfl (ovL_cons rfl ovL_nil) (.cons (.a1 .b (.a1 .n .a0)) .nil) (hd 12 rfl) ?_ (fun ch hp => by simp at hp)
  rintro y hy; injection hy with hy; subst hy; refine jo_l (ly_mv rfl) (hd 10 rfl) ?_; refine jo_l (ly_ext rfl rfl) (hd 13 rfl) ?_; refine jo_l (ly_ext rfl rfl) (hd 14 rfl) ?_; refine jo_l (ly_as rfl) (hd 6 rfl) ?_; refine jo_l (ly_as rfl) (hd 7 rfl) ?_; refine jo_nil ?_; refine jc_seq ?_; refine jc_region ?_; refine jo_l (ly_lda agg30 rfl rfl rfl rfl) (hd 16 rfl) ?_
  refine jo_call Tryd.f36 (hB) rfl Tryd.func36 rfl rfl (ovL_cons rfl ovL_nil) (.cons (.a1 .b (.a1 .n .a0)) .nil) (hd 17 rfl) ?_ (fun ch hp => by simp at hp)
  rintro y hy; injection hy with hy; subst hy; refine jo_l (ly_mv rfl) (hd 15 rfl) ?_; refine jo_l (ly_ext rfl rfl) (hd 18 rfl) ?_; refine jo_l (ly_ext rfl rfl) (hd 19 rfl) ?_; refine jo_l (ly_as rfl) (hd 8 rfl) ?_; refine jo_l (ly_as rfl) (hd 9 rfl) ?_; refine jo_nil ?_; refine jc_seq ?_; refine jc_block ?_; refine jc_seq ?_; refine jc_region ?_; refine jo_l (ly_mv rfl) (hd 21 rfl) ?_; refine jo_l (ly_mv rfl) (hd 22 rfl) ?_; refine jo_g 22 rfl rfl (ly_mv rfl) (hd 23 rfl) ?_; refine jo_l (ly_pick_t rfl rfl) (hd 24 rfl) ?_; refine jo_l (ly_as rfl) (hd 20 rfl) ?_; refine jo_nil ?_; refine jc_litt rfl ?_; refine jc_seq ?_; refine jc_region ?_; refine jo_l (ly_mv rfl) (hd 25 rfl) ?_; refine jo_l (ly_mv rfl) (hd 26 rfl) ?_
  refine jo_call Tryd.f40 (hZ) rfl Tryd.func40 rfl rfl (ovL_cons rfl (ovL_cons rfl ovL_nil)) (.cons .n (.cons .n .nil)) (hd 27 rfl) ?_ (fun ch hp => by simp at hp)
  rintro y hy; injection hy with hy; subst hy
  refine jo_call Tryd.f37 (hBk) rfl Tryd.func37 rfl rfl (ovL_cons rfl (ovL_cons rfl ovL_nil)) (.cons .n (.cons .b .nil)) (hd 28 rfl) ?_ (fun ch hp => by simp at hp)
  rintro y hy; injection hy with hy; subst hy; refine jo_l (ly_ext rfl rfl) (hd 29 rfl) ?_; refine jo_l (ly_ext rfl rfl) (hd 30 rfl) ?_; refine jo_st (sy_store rfl rfl rfl siz30 rfl rfl (Nat.le_of_ble_eq_true rfl)) ?_; refine jo_l (ly_as rfl) (hd 5 rfl) ?_; refine jo_nil ?_; refine jc_ret ?_
  refine ⟨_, _, (.cons (ResV.cell agg30 rfl rfl rfl rfl) (.cons rfl .nil)), (.t1 (.a1 .b (.a1 .nn .a0)) (.t1 .i .t0)), ?_⟩
  exact rfl

theorem wOr_v (sa sb : Bool) (a b : List Int) (v w : Int) (la : a.length < 4294967296) (lb : b.length < 4294967296) (ua : u64s a) (ub : u64s b) (ev : sv sa a = v) (ew : sv sb b = w) (hv : lenV v ≤ 67108860) (hw : lenV w ≤ 67108860) : Spec Tryd.prog 9 [.a [.b sa, .n false .u64 a], .a [.b sb, .n false .u64 b]] (fun o => o = .ret (.t [.a [.b (decide ((orI v w) < 0)), .n false .u64 (lm (orI v w))], .i .i64 0])) := by
  by_cases hs : v < 0 <;> by_cases ht : w < 0
  · exact wOr_11 sa sb a b v w la lb ua ub ev ew hv hw hs ht
  · exact wOr_10 sa sb a b v w la lb ua ub ev ew hv hw hs (by omega)
  · exact wOr_01 sa sb a b v w la lb ua ub ev ew hv hw (by omega) ht
  · exact wOr_00 sa sb a b v w la lb ua ub ev ew hv hw (by omega) (by omega)

set_option maxHeartbeats 4000000 in
theorem wXor_00 (sa sb : Bool) (a b : List Int) (v w : Int) (la : a.length < 4294967296) (lb : b.length < 4294967296) (ua : u64s a) (ub : u64s b) (ev : sv sa a = v) (ew : sv sb b = w) (hv : lenV v ≤ 67108860) (hw : lenV w ≤ 67108860) (hs : 0 ≤ v) (ht : 0 ≤ w) : Spec Tryd.prog 10 [.a [.b sa, .n false .u64 a], .a [.b sb, .n false .u64 b]] (fun o => o = .ret (.t [.a [.b (decide ((xoI v w) < 0)), .n false .u64 (lm (xoI v w))], .i .i64 0])) := by
  refine spec_of' [(0, .a [.b sa, .n false .u64 a]), (1, .a [.b sb, .n false .u64 b])] rfl Tryd.func10 rfl (Nat.le_of_ble_eq_true rfl) fun Γ hN hds hL hR => ?_
  have hd : ∀ d, Nat.blt d 29 = true → d < Γ.N := fun d h => by rw [hN]; exact Nat.le_of_ble_eq_true h
  have hlx := Nat.le_trans (tw_len v) hv
  have hly := Nat.le_trans (tw_len w) hw
  have hl := op_len (L := 67108860) (x := (tw v)) (y := (tw w)) (by omega) (by omega)
  have hA := twos_p sa a v la ua ev hv (by omega)
  have hB := twos_p sb b w lb ub ew hw (by omega)
  have hZ := nXor_v (tw v) (tw w) (by omega) (by omega)
  have hlz := hl.2.2.1
  have hBk : Spec Tryd.prog 37 [.n false .u64 (lm ((((tw v) ^^^ (tw w)) : Nat) : Int)), .b false] (fun o => o = .ret (.t [.a [.b (decide ((xoI v w) < 0)), .n true .u64 (lm (xoI v w))], .i .i64 0])) := by have h := back_f ((tw v) ^^^ (tw w)) (by omega); rw [show xoI v w = ((((tw v) ^^^ (tw w)) : Nat) : Int) from by unfold xoI; rw [decide_eq_false (by omega), decide_eq_false (by omega)]; rfl]; exact h
  refine jc_seq ?_; refine jc_region ?_; refine jo_h (hy_box (id := 0) (n := 2) rfl rfl rfl (by decide) rfl) (hd 2 rfl) ?_; refine jo_h (hy_box (id := 1) (n := 2) rfl rfl rfl (by decide) rfl) (hd 3 rfl) ?_; refine jo_h (hy_alloc (id := 2) zero30 (by decide) rfl (by decide) rfl) (hd 4 rfl) ?_; refine jo_l (ly_as rfl) (hd 5 rfl) ?_; refine jo_nil ?_; refine jc_seq ?_; refine jc_region ?_; refine jo_l (ly_lda agg30 rfl rfl rfl rfl) (hd 11 rfl) ?_
  refine jo_call Tryd.f36 (hA) rfl Tryd.func36 rfl rfl (ovL_cons rfl ovL_nil) (.cons (.a1 .b (.a1 .n .a0)) .nil) (hd 12 rfl) ?_ (fun ch hp => by simp at hp)
  rintro y hy; injection hy with hy; subst hy; refine jo_l (ly_mv rfl) (hd 10 rfl) ?_; refine jo_l (ly_ext rfl rfl) (hd 13 rfl) ?_; refine jo_l (ly_ext rfl rfl) (hd 14 rfl) ?_; refine jo_l (ly_as rfl) (hd 6 rfl) ?_; refine jo_l (ly_as rfl) (hd 7 rfl) ?_; refine jo_nil ?_; refine jc_seq ?_; refine jc_region ?_; refine jo_l (ly_lda agg30 rfl rfl rfl rfl) (hd 16 rfl) ?_
  refine jo_call Tryd.f36 (hB) rfl Tryd.func36 rfl rfl (ovL_cons rfl ovL_nil) (.cons (.a1 .b (.a1 .n .a0)) .nil) (hd 17 rfl) ?_ (fun ch hp => by simp at hp)
  rintro y hy; injection hy with hy; subst hy; refine jo_l (ly_mv rfl) (hd 15 rfl) ?_; refine jo_l (ly_ext rfl rfl) (hd 18 rfl) ?_; refine jo_l (ly_ext rfl rfl) (hd 19 rfl) ?_; refine jo_l (ly_as rfl) (hd 8 rfl) ?_; refine jo_l (ly_as rfl) (hd 9 rfl) ?_; refine jo_nil ?_; refine jc_seq ?_; refine jc_region ?_; refine jo_l (ly_mv rfl) (hd 20 rfl) ?_; refine jo_l (ly_mv rfl) (hd 21 rfl) ?_
  refine jo_call Tryd.f41 (hZ) rfl Tryd.func41 rfl rfl (ovL_cons rfl (ovL_cons rfl ovL_nil)) (.cons .n (.cons .n .nil)) (hd 22 rfl) ?_ (fun ch hp => by simp at hp)
  rintro y hy; injection hy with hy; subst hy; refine jo_l (ly_mv rfl) (hd 23 rfl) ?_; refine jo_l (ly_mv rfl) (hd 24 rfl) ?_; refine jo_l (ly_neb und4 rfl rfl) (hd 25 rfl) ?_
  refine jo_call Tryd.f37 (hBk) rfl Tryd.func37 rfl rfl (ovL_cons rfl (ovL_cons rfl ovL_nil)) (.cons .n (.cons .b .nil)) (hd 26 rfl) ?_ (fun ch hp => by simp at hp)
  rintro y hy; injection hy with hy; subst hy; refine jo_l (ly_ext rfl rfl) (hd 27 rfl) ?_; refine jo_l (ly_ext rfl rfl) (hd 28 rfl) ?_; refine jo_st (sy_store rfl rfl rfl siz30 rfl rfl (Nat.le_of_ble_eq_true rfl)) ?_; refine jo_l (ly_as rfl) (hd 5 rfl) ?_; refine jo_nil ?_; refine jc_ret ?_
  refine ⟨_, _, (.cons (ResV.cell agg30 rfl rfl rfl rfl) (.cons rfl .nil)), (.t1 (.a1 .b (.a1 .nn .a0)) (.t1 .i .t0)), ?_⟩
  exact rfl

set_option maxHeartbeats 4000000 in
theorem wXor_01 (sa sb : Bool) (a b : List Int) (v w : Int) (la : a.length < 4294967296) (lb : b.length < 4294967296) (ua : u64s a) (ub : u64s b) (ev : sv sa a = v) (ew : sv sb b = w) (hv : lenV v ≤ 67108860) (hw : lenV w ≤ 67108860) (hs : 0 ≤ v) (ht : w < 0) : Spec Tryd.prog 10 [.a [.b sa, .n false .u64 a], .a [.b sb, .n false .u64 b]] (fun o => o = .ret (.t [.a [.b (decide ((xoI v w) < 0)), .n false .u64 (lm (xoI v w))], .i .i64 0])) := by
  refine spec_of' [(0, .a [.b sa, .n false .u64 a]), (1, .a [.b sb, .n false .u64 b])] rfl Tryd.func10 rfl (Nat.le_of_ble_eq_true rfl) fun Γ hN hds hL hR => ?_
  have hd : ∀ d, Nat.blt d 29 = true → d < Γ.N := fun d h => by rw [hN]; exact Nat.le_of_ble_eq_true h
  have hlx := Nat.le_trans (tw_len v) hv
  have hly := Nat.le_trans (tw_len w) hw
  have hl := op_len (L := 67108860) (x := (tw v)) (y := (tw w)) (by omega) (by omega)
  have hA := twos_p sa a v la ua ev hv (by omega)
  have hB := twos_n sb b w lb ub ew hw (by omega)
  have hZ := nXor_v (tw v) (tw w) (by omega) (by omega)
  have hlz := hl.2.2.1
  have hBk : Spec Tryd.prog 37 [.n false .u64 (lm ((((tw v) ^^^ (tw w)) : Nat) : Int)), .b true] (fun o => o = .ret (.t [.a [.b (decide ((xoI v w) < 0)), .n true .u64 (lm (xoI v w))], .i .i64 0])) := by have h := back_t ((tw v) ^^^ (tw w)) (by omega); rw [show xoI v w = (-((((tw v) ^^^ (tw w)) : Nat) : Int) - 1) from by unfold xoI; rw [decide_eq_false (by omega), decide_eq_true (by omega)]; rfl]; exact h
  refine jc_seq ?_; refine jc_region ?_; refine jo_h (hy_box (id := 0) (n := 2) rfl rfl rfl (by decide) rfl) (hd 2 rfl) ?_; refine jo_h (hy_box (id := 1) (n := 2) rfl rfl rfl (by decide) rfl) (hd 3 rfl) ?_; refine jo_h (hy_alloc (id := 2) zero30 (by decide) rfl (by decide) rfl) (hd 4 rfl) ?_; refine jo_l (ly_as rfl) (hd 5 rfl) ?_; refine jo_nil ?_; refine jc_seq ?_; refine jc_region ?_; refine jo_l (ly_lda agg30 rfl rfl rfl rfl) (hd 11 rfl) ?_
  refine jo_call Tryd.f36 (hA) rfl Tryd.func36 rfl rfl (ovL_cons rfl ovL_nil) (.cons (.a1 .b (.a1 .n .a0)) .nil) (hd 12 rfl) ?_ (fun ch hp => by simp at hp)
  rintro y hy; injection hy with hy; subst hy; refine jo_l (ly_mv rfl) (hd 10 rfl) ?_; refine jo_l (ly_ext rfl rfl) (hd 13 rfl) ?_; refine jo_l (ly_ext rfl rfl) (hd 14 rfl) ?_; refine jo_l (ly_as rfl) (hd 6 rfl) ?_; refine jo_l (ly_as rfl) (hd 7 rfl) ?_; refine jo_nil ?_; refine jc_seq ?_; refine jc_region ?_; refine jo_l (ly_lda agg30 rfl rfl rfl rfl) (hd 16 rfl) ?_
  refine jo_call Tryd.f36 (hB) rfl Tryd.func36 rfl rfl (ovL_cons rfl ovL_nil) (.cons (.a1 .b (.a1 .n .a0)) .nil) (hd 17 rfl) ?_ (fun ch hp => by simp at hp)
  rintro y hy; injection hy with hy; subst hy; refine jo_l (ly_mv rfl) (hd 15 rfl) ?_; refine jo_l (ly_ext rfl rfl) (hd 18 rfl) ?_; refine jo_l (ly_ext rfl rfl) (hd 19 rfl) ?_; refine jo_l (ly_as rfl) (hd 8 rfl) ?_; refine jo_l (ly_as rfl) (hd 9 rfl) ?_; refine jo_nil ?_; refine jc_seq ?_; refine jc_region ?_; refine jo_l (ly_mv rfl) (hd 20 rfl) ?_; refine jo_l (ly_mv rfl) (hd 21 rfl) ?_
  refine jo_call Tryd.f41 (hZ) rfl Tryd.func41 rfl rfl (ovL_cons rfl (ovL_cons rfl ovL_nil)) (.cons .n (.cons .n .nil)) (hd 22 rfl) ?_ (fun ch hp => by simp at hp)
  rintro y hy; injection hy with hy; subst hy; refine jo_l (ly_mv rfl) (hd 23 rfl) ?_; refine jo_l (ly_mv rfl) (hd 24 rfl) ?_; refine jo_l (ly_neb und4 rfl rfl) (hd 25 rfl) ?_
  refine jo_call Tryd.f37 (hBk) rfl Tryd.func37 rfl rfl (ovL_cons rfl (ovL_cons rfl ovL_nil)) (.cons .n (.cons .b .nil)) (hd 26 rfl) ?_ (fun ch hp => by simp at hp)
  rintro y hy; injection hy with hy; subst hy; refine jo_l (ly_ext rfl rfl) (hd 27 rfl) ?_; refine jo_l (ly_ext rfl rfl) (hd 28 rfl) ?_; refine jo_st (sy_store rfl rfl rfl siz30 rfl rfl (Nat.le_of_ble_eq_true rfl)) ?_; refine jo_l (ly_as rfl) (hd 5 rfl) ?_; refine jo_nil ?_; refine jc_ret ?_
  refine ⟨_, _, (.cons (ResV.cell agg30 rfl rfl rfl rfl) (.cons rfl .nil)), (.t1 (.a1 .b (.a1 .nn .a0)) (.t1 .i .t0)), ?_⟩
  exact rfl

set_option maxHeartbeats 4000000 in
theorem wXor_10 (sa sb : Bool) (a b : List Int) (v w : Int) (la : a.length < 4294967296) (lb : b.length < 4294967296) (ua : u64s a) (ub : u64s b) (ev : sv sa a = v) (ew : sv sb b = w) (hv : lenV v ≤ 67108860) (hw : lenV w ≤ 67108860) (hs : v < 0) (ht : 0 ≤ w) : Spec Tryd.prog 10 [.a [.b sa, .n false .u64 a], .a [.b sb, .n false .u64 b]] (fun o => o = .ret (.t [.a [.b (decide ((xoI v w) < 0)), .n false .u64 (lm (xoI v w))], .i .i64 0])) := by
  refine spec_of' [(0, .a [.b sa, .n false .u64 a]), (1, .a [.b sb, .n false .u64 b])] rfl Tryd.func10 rfl (Nat.le_of_ble_eq_true rfl) fun Γ hN hds hL hR => ?_
  have hd : ∀ d, Nat.blt d 29 = true → d < Γ.N := fun d h => by rw [hN]; exact Nat.le_of_ble_eq_true h
  have hlx := Nat.le_trans (tw_len v) hv
  have hly := Nat.le_trans (tw_len w) hw
  have hl := op_len (L := 67108860) (x := (tw v)) (y := (tw w)) (by omega) (by omega)
  have hA := twos_n sa a v la ua ev hv (by omega)
  have hB := twos_p sb b w lb ub ew hw (by omega)
  have hZ := nXor_v (tw v) (tw w) (by omega) (by omega)
  have hlz := hl.2.2.1
  have hBk : Spec Tryd.prog 37 [.n false .u64 (lm ((((tw v) ^^^ (tw w)) : Nat) : Int)), .b true] (fun o => o = .ret (.t [.a [.b (decide ((xoI v w) < 0)), .n true .u64 (lm (xoI v w))], .i .i64 0])) := by have h := back_t ((tw v) ^^^ (tw w)) (by omega); rw [show xoI v w = (-((((tw v) ^^^ (tw w)) : Nat) : Int) - 1) from by unfold xoI; rw [decide_eq_true (by omega), decide_eq_false (by omega)]; rfl]; exact h
  refine jc_seq ?_; refine jc_region ?_; refine jo_h (hy_box (id := 0) (n := 2) rfl rfl rfl (by decide) rfl) (hd 2 rfl) ?_; refine jo_h (hy_box (id := 1) (n := 2) rfl rfl rfl (by decide) rfl) (hd 3 rfl) ?_; refine jo_h (hy_alloc (id := 2) zero30 (by decide) rfl (by decide) rfl) (hd 4 rfl) ?_; refine jo_l (ly_as rfl) (hd 5 rfl) ?_; refine jo_nil ?_; refine jc_seq ?_; refine jc_region ?_; refine jo_l (ly_lda agg30 rfl rfl rfl rfl) (hd 11 rfl) ?_
  refine jo_call Tryd.f36 (hA) rfl Tryd.func36 rfl rfl (ovL_cons rfl ovL_nil) (.cons (.a1 .b (.a1 .n .a0)) .nil) (hd 12 rfl) ?_ (fun ch hp => by simp at hp)
  rintro y hy; injection hy with hy; subst hy; refine jo_l (ly_mv rfl) (hd 10 rfl) ?_; refine jo_l (ly_ext rfl rfl) (hd 13 rfl) ?_; refine jo_l (ly_ext rfl rfl) (hd 14 rfl) ?_; refine jo_l (ly_as rfl) (hd 6 rfl) ?_; refine jo_l (ly_as rfl) (hd 7 rfl) ?_; refine jo_nil ?_; refine jc_seq ?_; refine jc_region ?_; refine jo_l (ly_lda agg30 rfl rfl rfl rfl) (hd 16 rfl) ?_
  refine jo_call Tryd.f36 (hB) rfl Tryd.func36 rfl rfl (ovL_cons rfl ovL_nil) (.cons (.a1 .b (.a1 .n .a0)) .nil) (hd 17 rfl) ?_ (fun ch hp => by simp at hp)
  rintro y hy; injection hy with hy; subst hy; refine jo_l (ly_mv rfl) (hd 15 rfl) ?_; refine jo_l (ly_ext rfl rfl) (hd 18 rfl) ?_; refine jo_l (ly_ext rfl rfl) (hd 19 rfl) ?_; refine jo_l (ly_as rfl) (hd 8 rfl) ?_; refine jo_l (ly_as rfl) (hd 9 rfl) ?_; refine jo_nil ?_; refine jc_seq ?_; refine jc_region ?_; refine jo_l (ly_mv rfl) (hd 20 rfl) ?_; refine jo_l (ly_mv rfl) (hd 21 rfl) ?_
  refine jo_call Tryd.f41 (hZ) rfl Tryd.func41 rfl rfl (ovL_cons rfl (ovL_cons rfl ovL_nil)) (.cons .n (.cons .n .nil)) (hd 22 rfl) ?_ (fun ch hp => by simp at hp)
  rintro y hy; injection hy with hy; subst hy; refine jo_l (ly_mv rfl) (hd 23 rfl) ?_; refine jo_l (ly_mv rfl) (hd 24 rfl) ?_; refine jo_l (ly_neb und4 rfl rfl) (hd 25 rfl) ?_
  refine jo_call Tryd.f37 (hBk) rfl Tryd.func37 rfl rfl (ovL_cons rfl (ovL_cons rfl ovL_nil)) (.cons .n (.cons .b .nil)) (hd 26 rfl) ?_ (fun ch hp => by simp at hp)
  rintro y hy; injection hy with hy; subst hy; refine jo_l (ly_ext rfl rfl) (hd 27 rfl) ?_; refine jo_l (ly_ext rfl rfl) (hd 28 rfl) ?_; refine jo_st (sy_store rfl rfl rfl siz30 rfl rfl (Nat.le_of_ble_eq_true rfl)) ?_; refine jo_l (ly_as rfl) (hd 5 rfl) ?_; refine jo_nil ?_; refine jc_ret ?_
  refine ⟨_, _, (.cons (ResV.cell agg30 rfl rfl rfl rfl) (.cons rfl .nil)), (.t1 (.a1 .b (.a1 .nn .a0)) (.t1 .i .t0)), ?_⟩
  exact rfl

set_option maxHeartbeats 4000000 in
theorem wXor_11 (sa sb : Bool) (a b : List Int) (v w : Int) (la : a.length < 4294967296) (lb : b.length < 4294967296) (ua : u64s a) (ub : u64s b) (ev : sv sa a = v) (ew : sv sb b = w) (hv : lenV v ≤ 67108860) (hw : lenV w ≤ 67108860) (hs : v < 0) (ht : w < 0) : Spec Tryd.prog 10 [.a [.b sa, .n false .u64 a], .a [.b sb, .n false .u64 b]] (fun o => o = .ret (.t [.a [.b (decide ((xoI v w) < 0)), .n false .u64 (lm (xoI v w))], .i .i64 0])) := by
  refine spec_of' [(0, .a [.b sa, .n false .u64 a]), (1, .a [.b sb, .n false .u64 b])] rfl Tryd.func10 rfl (Nat.le_of_ble_eq_true rfl) fun Γ hN hds hL hR => ?_
  have hd : ∀ d, Nat.blt d 29 = true → d < Γ.N := fun d h => by rw [hN]; exact Nat.le_of_ble_eq_true h
  have hlx := Nat.le_trans (tw_len v) hv
  have hly := Nat.le_trans (tw_len w) hw
  have hl := op_len (L := 67108860) (x := (tw v)) (y := (tw w)) (by omega) (by omega)
  have hA := twos_n sa a v la ua ev hv (by omega)
  have hB := twos_n sb b w lb ub ew hw (by omega)
  have hZ := nXor_v (tw v) (tw w) (by omega) (by omega)
  have hlz := hl.2.2.1
  have hBk : Spec Tryd.prog 37 [.n false .u64 (lm ((((tw v) ^^^ (tw w)) : Nat) : Int)), .b false] (fun o => o = .ret (.t [.a [.b (decide ((xoI v w) < 0)), .n true .u64 (lm (xoI v w))], .i .i64 0])) := by have h := back_f ((tw v) ^^^ (tw w)) (by omega); rw [show xoI v w = ((((tw v) ^^^ (tw w)) : Nat) : Int) from by unfold xoI; rw [decide_eq_true (by omega), decide_eq_true (by omega)]; rfl]; exact h
  refine jc_seq ?_; refine jc_region ?_; refine jo_h (hy_box (id := 0) (n := 2) rfl rfl rfl (by decide) rfl) (hd 2 rfl) ?_; refine jo_h (hy_box (id := 1) (n := 2) rfl rfl rfl (by decide) rfl) (hd 3 rfl) ?_; refine jo_h (hy_alloc (id := 2) zero30 (by decide) rfl (by decide) rfl) (hd 4 rfl) ?_; refine jo_l (ly_as rfl) (hd 5 rfl) ?_; refine jo_nil ?_; refine jc_seq ?_; refine jc_region ?_; refine jo_l (ly_lda agg30 rfl rfl rfl rfl) (hd 11 rfl) ?_
  refine jo_call Tryd.f36 (hA) rfl Tryd.func36 rfl rfl (ovL_cons rfl ovL_nil) (.cons (.a1 .b (.a1 .n .a0)) .nil) (hd 12 rfl) ?_ (fun ch hp => by simp at hp)
  rintro y hy; injection hy with hy; subst hy; refine jo_l (ly_mv rfl) (hd 10 rfl) ?_; refine jo_l (ly_ext rfl rfl) (hd 13 rfl) ?_; refine jo_l (ly_ext rfl rfl) (hd 14 rfl) ?_; refine jo_l (ly_as rfl) (hd 6 rfl) ?_; refine jo_l (ly_as rfl) (hd 7 rfl) ?_; refine jo_nil ?_; refine jc_seq ?_; refine jc_region ?_; refine jo_l (ly_lda agg30 rfl rfl rfl rfl) (hd 16 rfl) ?_
  refine jo_call Tryd.f36 (hB) rfl Tryd.func36 rfl rfl (ovL_cons rfl ovL_nil) (.cons (.a1 .b (.a1 .n .a0)) .nil) (hd 17 rfl) ?_ (fun ch hp => by simp at hp)
  rintro y hy; injection hy with hy; subst hy; refine jo_l (ly_mv rfl) (hd 15 rfl) ?_; refine jo_l (ly_ext rfl rfl) (hd 18 rfl) ?_; refine jo_l (ly_ext rfl rfl) (hd 19 rfl) ?_; refine jo_l (ly_as rfl) (hd 8 rfl) ?_; refine jo_l (ly_as rfl) (hd 9 rfl) ?_; refine jo_nil ?_; refine jc_seq ?_; refine jc_region ?_; refine jo_l (ly_mv rfl) (hd 20 rfl) ?_; refine jo_l (ly_mv rfl) (hd 21 rfl) ?_
  refine jo_call Tryd.f41 (hZ) rfl Tryd.func41 rfl rfl (ovL_cons rfl (ovL_cons rfl ovL_nil)) (.cons .n (.cons .n .nil)) (hd 22 rfl) ?_ (fun ch hp => by simp at hp)
  rintro y hy; injection hy with hy; subst hy; refine jo_l (ly_mv rfl) (hd 23 rfl) ?_; refine jo_l (ly_mv rfl) (hd 24 rfl) ?_; refine jo_l (ly_neb und4 rfl rfl) (hd 25 rfl) ?_
  refine jo_call Tryd.f37 (hBk) rfl Tryd.func37 rfl rfl (ovL_cons rfl (ovL_cons rfl ovL_nil)) (.cons .n (.cons .b .nil)) (hd 26 rfl) ?_ (fun ch hp => by simp at hp)
  rintro y hy; injection hy with hy; subst hy; refine jo_l (ly_ext rfl rfl) (hd 27 rfl) ?_; refine jo_l (ly_ext rfl rfl) (hd 28 rfl) ?_; refine jo_st (sy_store rfl rfl rfl siz30 rfl rfl (Nat.le_of_ble_eq_true rfl)) ?_; refine jo_l (ly_as rfl) (hd 5 rfl) ?_; refine jo_nil ?_; refine jc_ret ?_
  refine ⟨_, _, (.cons (ResV.cell agg30 rfl rfl rfl rfl) (.cons rfl .nil)), (.t1 (.a1 .b (.a1 .nn .a0)) (.t1 .i .t0)), ?_⟩
  exact rfl

theorem wXor_v (sa sb : Bool) (a b : List Int) (v w : Int) (la : a.length < 4294967296) (lb : b.length < 4294967296) (ua : u64s a) (ub : u64s b) (ev : sv sa a = v) (ew : sv sb b = w) (hv : lenV v ≤ 67108860) (hw : lenV w ≤ 67108860) : Spec Tryd.prog 10 [.a [.b sa, .n false .u64 a], .a [.b sb, .n false .u64 b]] (fun o => o = .ret (.t [.a [.b (decide ((xoI v w) < 0)), .n false .u64 (lm (xoI v w))], .i .i64 0])) := by
  by_cases hs : v < 0 <;> by_cases ht : w < 0
  · exact wXor_11 sa sb a b v w la lb ua ub ev ew hv hw hs ht
  · exact wXor_10 sa sb a b v w la lb ua ub ev ew hv hw hs (by omega)
  · exact wXor_01 sa sb a b v w la lb ua ub ev ew hv hw (by omega) ht
  · exact wXor_00 sa sb a b v w la lb ua ub ev ew hv hw (by omega) (by omega)

set_option maxHeartbeats 4000000 in
theorem inverted_v (sa : Bool) (a : List Int) (v : Int) (la : a.length < 4294967296) (ua : u64s a) (ev : sv sa a = v) (hv : lenV v ≤ 67108860) : Spec Tryd.prog 42 [.a [.b sa, .n false .u64 a]] (fun o => o = .ret (.t [.a [.b (decide ((-1 - v) < 0)), .n false .u64 (lm (-1 - v))], .i .i64 0])) := by
  refine spec_of' [(0, .a [.b sa, .n false .u64 a])] rfl Tryd.func42 rfl (Nat.le_of_ble_eq_true rfl) fun Γ hN hds hL hR => ?_
  have hd : ∀ d, Nat.blt d 9 = true → d < Γ.N := fun d h => by rw [hN]; exact Nat.le_of_ble_eq_true h
  have hl1 : lenV (-1) = 1 := by decide +kernel
  have hs1 := lenV_sub (-1) v
  have h0v := @lenV_0 v
  have hOf := Of_v (-1) (by unfold inI; omega)
  have hSu := WSub_rv (decide ((-1 : Int) < 0)) sa (lm (-1)) a (-1) v (by have := lenV_lm (v := -1) (by omega); omega) la (lm_u _) ua (sv_lm _) ev (by omega)
  refine jc_seq ?_; refine jc_region ?_; refine jo_h (hy_box (id := 0) (n := 2) rfl rfl rfl (by decide) rfl) (hd 1 rfl) ?_; refine jo_h (hy_alloc (id := 1) zero30 (by decide) rfl (by decide) rfl) (hd 2 rfl) ?_; refine jo_l (ly_as rfl) (hd 3 rfl) ?_; refine jo_nil ?_; refine jc_seq ?_; refine jc_draw (n := 7) _ rfl mixed ?_; refine ja_l2 1 [2, 3, 4, 5, 6] (lo_l (ly_lda agg30 rfl rfl rfl rfl) (hd 5 rfl)) rfl (by kernel_rfl) (by kernel_rfl) (by kernel_rfl) (by kernel_rfl) (fun _ _ _ _ h => h) ?_
  refine ja_1 0 ?_ rfl (by kernel_rfl)
  refine js_call Tryd.f58 (hOf) rfl Tryd.func58 rfl rfl (ovL_cons rfl ovL_nil) (.cons .i .nil) (hd 4 rfl) ?_ (fun ch hp => by simp at hp)
  rintro y hy; injection hy with hy; subst hy
  refine ja_1 2 ?_ rfl (by kernel_rfl)
  refine js_call Tryd.f28 (hSu) rfl Tryd.func28 rfl rfl (ovL_cons rfl (ovL_cons rfl ovL_nil)) (.cons (.a1 .b (.a1 .n .a0)) (.cons (.a1 .b (.a1 .n .a0)) .nil)) (hd 6 rfl) ?_ (fun ch hp => by simp at hp)
  rintro y hy; injection hy with hy; subst hy; refine ja_l 3 (lo_l (ly_ext rfl rfl) (hd 7 rfl)) rfl (by kernel_rfl) (by kernel_rfl) (by kernel_rfl) (fun _ _ _ _ h => h) ?_; refine ja_l 4 (lo_l (ly_ext rfl rfl) (hd 8 rfl)) rfl (by kernel_rfl) (by kernel_rfl) (by kernel_rfl) (fun _ _ _ _ h => h) ?_
  refine ja_1 5 ?_ rfl (by kernel_rfl)
  refine js_st (sy_store rfl rfl rfl siz30 rfl rfl (Nat.le_of_ble_eq_true rfl)) rfl ?_; refine ja_l 6 (lo_l (ly_as rfl) (hd 3 rfl)) rfl (by kernel_rfl) (by kernel_rfl) (by kernel_rfl) (fun _ _ _ _ h => h) ?_; refine ja_nil (by kernel_rfl) ?_; refine jc_ret ?_
  refine ⟨_, _, (.cons (ResV.cell agg30 rfl rfl rfl rfl) (.cons rfl .nil)), (.t1 (.a1 .b (.a1 .nn .a0)) (.t1 .i .t0)), ?_⟩
  exact rfl

set_option maxHeartbeats 4000000 in
theorem wNot_v (sa : Bool) (a : List Int) (v : Int) (la : a.length < 4294967296) (ua : u64s a) (ev : sv sa a = v) (hv : lenV v ≤ 67108860) : Spec Tryd.prog 11 [.a [.b sa, .n false .u64 a]] (fun o => o = .ret (.t [.a [.b (decide ((-1 - v) < 0)), .n false .u64 (lm (-1 - v))], .i .i64 0])) := by
  refine spec_of' [(0, .a [.b sa, .n false .u64 a])] rfl Tryd.func11 rfl (Nat.le_of_ble_eq_true rfl) fun Γ hN hds hL hR => ?_
  have hd : ∀ d, Nat.blt d 8 = true → d < Γ.N := fun d h => by rw [hN]; exact Nat.le_of_ble_eq_true h
  refine jc_seq ?_; refine jc_region ?_; refine jo_h (hy_box (id := 0) (n := 2) rfl rfl rfl (by decide) rfl) (hd 1 rfl) ?_; refine jo_h (hy_alloc (id := 1) zero30 (by decide) rfl (by decide) rfl) (hd 2 rfl) ?_; refine jo_l (ly_as rfl) (hd 3 rfl) ?_; refine jo_nil ?_; refine jc_seq ?_; refine jc_region ?_; refine jo_l (ly_lda agg30 rfl rfl rfl rfl) (hd 4 rfl) ?_
  refine jo_call Tryd.f42 (inverted_v sa a v la ua ev hv) rfl Tryd.func42 rfl rfl (ovL_cons rfl ovL_nil) (.cons (.a1 .b (.a1 .n .a0)) .nil) (hd 5 rfl) ?_ (fun ch hp => by simp at hp)
  rintro y hy; injection hy with hy; subst hy; refine jo_l (ly_ext rfl rfl) (hd 6 rfl) ?_; refine jo_l (ly_ext rfl rfl) (hd 7 rfl) ?_; refine jo_st (sy_store rfl rfl rfl siz30 rfl rfl (Nat.le_of_ble_eq_true rfl)) ?_; refine jo_l (ly_as rfl) (hd 3 rfl) ?_; refine jo_nil ?_; refine jc_ret ?_
  refine ⟨_, _, (.cons (ResV.cell agg30 rfl rfl rfl rfl) (.cons rfl .nil)), (.t1 (.a1 .b (.a1 .n .a0)) (.t1 .i .t0)), ?_⟩
  exact rfl

set_option maxHeartbeats 4000000 in
theorem wBit_p (sa : Bool) (a : List Int) (v : Int) (la : a.length < 4294967296) (ua : u64s a) (ev : sv sa a = v) (hv : lenV v ≤ 67108860) (i : Nat) (hi : i < 1099511627776) (h0 : 0 ≤ v) : Spec Tryd.prog 12 [.a [.b sa, .n false .u64 a], .i .i64 (i : Int)] (fun o => o = .ret (.t [.i .i64 (bitI v i), .i .i64 0])) := by
  refine spec_of' [(0, .a [.b sa, .n false .u64 a]), (1, .i .i64 (i : Int))] rfl Tryd.func12 rfl (Nat.le_of_ble_eq_true rfl) fun Γ hN hds hL hR => ?_
  have hd : ∀ d, Nat.blt d 23 = true → d < Γ.N := fun d h => by rw [hN]; exact Nat.le_of_ble_eq_true h
  have hA := twos_p sa a v la ua ev hv h0
  have hlx := lenV_lm (v := ((tw v : Nat) : Int)) (by have := tw_len v; omega)
  have hBi : Spec Tryd.prog 43 [.n false .u64 (lm ((tw v : Nat) : Int)), .i .i64 (i : Int)] (fun o => o = .ret (.i .i64 ((tw v / 2 ^ i % 2 : Nat) : Int))) := by have h := Bit_r (lm ((tw v : Nat) : Int)) i (by omega) (lm_u _) hi; rwa [vl_lm (Int.natCast_nonneg _), Int.toNat_natCast] at h
  have hm2 := Nat.mod_lt (tw v / 2 ^ i) (show 0 < 2 by decide)
  refine jc_seq ?_; refine jc_region ?_; refine jo_h (hy_box (id := 0) (n := 2) rfl rfl rfl (by decide) rfl) (hd 2 rfl) ?_; refine jo_l (ly_as rfl) (hd 4 rfl) ?_; refine jo_l (ly_as rfl) (hd 5 rfl) ?_; refine jo_nil ?_; refine jc_seq ?_; refine jc_seq ?_; refine jc_region ?_; refine jo_l (ly_mv rfl) (hd 9 rfl) ?_; refine jo_l (ly_ff (ly_lt rfl rfl) (by omega)) (hd 10 rfl) ?_; refine jo_nil ?_; refine jc_litf rfl ?_; refine jc_skip ?_; refine jc_seq ?_; refine jc_region ?_; refine jo_l (ly_lda agg30 rfl rfl rfl rfl) (hd 12 rfl) ?_
  refine jo_call Tryd.f36 (hA) rfl Tryd.func36 rfl rfl (ovL_cons rfl ovL_nil) (.cons (.a1 .b (.a1 .n .a0)) .nil) (hd 13 rfl) ?_ (fun ch hp => by simp at hp)
  rintro y hy; injection hy with hy; subst hy; refine jo_l (ly_mv rfl) (hd 11 rfl) ?_; refine jo_l (ly_ext rfl rfl) (hd 14 rfl) ?_; refine jo_l (ly_ext rfl rfl) (hd 15 rfl) ?_; refine jo_l (ly_as rfl) (hd 6 rfl) ?_; refine jo_l (ly_as rfl) (hd 7 rfl) ?_; refine jo_nil ?_; refine jc_seq ?_; refine jc_region ?_; refine jo_l (ly_mv rfl) (hd 16 rfl) ?_; refine jo_l (ly_mv rfl) (hd 17 rfl) ?_
  refine jo_call Tryd.f43 (hBi) rfl Tryd.func43 rfl rfl (ovL_cons rfl (ovL_cons rfl ovL_nil)) (.cons .n (.cons .i .nil)) (hd 18 rfl) ?_ (fun ch hp => by simp at hp)
  rintro y hy; injection hy with hy; subst hy; refine jo_l (ly_as rfl) (hd 8 rfl) ?_; refine jo_nil ?_; refine jc_seq ?_; refine jc_seq ?_; refine jc_region ?_; refine jo_l (ly_mv rfl) (hd 19 rfl) ?_; refine jo_nil ?_; refine jc_litf rfl ?_; refine jc_skip ?_; refine jc_seq ?_; refine jc_region ?_; refine jo_l (ly_mv rfl) (hd 22 rfl) ?_; refine jo_l (ly_as rfl) (hd 4 rfl) ?_; refine jo_l (ly_as rfl) (hd 5 rfl) ?_; refine jo_nil ?_; refine jc_ret ?_
  refine ⟨_, _, (.cons rfl (.cons rfl .nil)), (.t1 .i (.t1 .i .t0)), ?_⟩
  unfold bitI; rw [if_neg (by omega)]

set_option maxHeartbeats 4000000 in
theorem wBit_n (sa : Bool) (a : List Int) (v : Int) (la : a.length < 4294967296) (ua : u64s a) (ev : sv sa a = v) (hv : lenV v ≤ 67108860) (i : Nat) (hi : i < 1099511627776) (h0 : v < 0) : Spec Tryd.prog 12 [.a [.b sa, .n false .u64 a], .i .i64 (i : Int)] (fun o => o = .ret (.t [.i .i64 (bitI v i), .i .i64 0])) := by
  refine spec_of' [(0, .a [.b sa, .n false .u64 a]), (1, .i .i64 (i : Int))] rfl Tryd.func12 rfl (Nat.le_of_ble_eq_true rfl) fun Γ hN hds hL hR => ?_
  have hd : ∀ d, Nat.blt d 23 = true → d < Γ.N := fun d h => by rw [hN]; exact Nat.le_of_ble_eq_true h
  have hA := twos_n sa a v la ua ev hv h0
  have hlx := lenV_lm (v := ((tw v : Nat) : Int)) (by have := tw_len v; omega)
  have hBi : Spec Tryd.prog 43 [.n false .u64 (lm ((tw v : Nat) : Int)), .i .i64 (i : Int)] (fun o => o = .ret (.i .i64 ((tw v / 2 ^ i % 2 : Nat) : Int))) := by have h := Bit_r (lm ((tw v : Nat) : Int)) i (by omega) (lm_u _) hi; rwa [vl_lm (Int.natCast_nonneg _), Int.toNat_natCast] at h
  have hm2 := Nat.mod_lt (tw v / 2 ^ i) (show 0 < 2 by decide)
  refine jc_seq ?_; refine jc_region ?_; refine jo_h (hy_box (id := 0) (n := 2) rfl rfl rfl (by decide) rfl) (hd 2 rfl) ?_; refine jo_l (ly_as rfl) (hd 4 rfl) ?_; refine jo_l (ly_as rfl) (hd 5 rfl) ?_; refine jo_nil ?_; refine jc_seq ?_; refine jc_seq ?_; refine jc_region ?_; refine jo_l (ly_mv rfl) (hd 9 rfl) ?_; refine jo_l (ly_ff (ly_lt rfl rfl) (by omega)) (hd 10 rfl) ?_; refine jo_nil ?_; refine jc_litf rfl ?_; refine jc_skip ?_; refine jc_seq ?_; refine jc_region ?_; refine jo_l (ly_lda agg30 rfl rfl rfl rfl) (hd 12 rfl) ?_
  refine jo_call Tryd.f36 (hA) rfl Tryd.func36 rfl rfl (ovL_cons rfl ovL_nil) (.cons (.a1 .b (.a1 .n .a0)) .nil) (hd 13 rfl) ?_ (fun ch hp => by simp at hp)
  rintro y hy; injection hy with hy; subst hy; refine jo_l (ly_mv rfl) (hd 11 rfl) ?_; refine jo_l (ly_ext rfl rfl) (hd 14 rfl) ?_; refine jo_l (ly_ext rfl rfl) (hd 15 rfl) ?_; refine jo_l (ly_as rfl) (hd 6 rfl) ?_; refine jo_l (ly_as rfl) (hd 7 rfl) ?_; refine jo_nil ?_; refine jc_seq ?_; refine jc_region ?_; refine jo_l (ly_mv rfl) (hd 16 rfl) ?_; refine jo_l (ly_mv rfl) (hd 17 rfl) ?_
  refine jo_call Tryd.f43 (hBi) rfl Tryd.func43 rfl rfl (ovL_cons rfl (ovL_cons rfl ovL_nil)) (.cons .n (.cons .i .nil)) (hd 18 rfl) ?_ (fun ch hp => by simp at hp)
  rintro y hy; injection hy with hy; subst hy; refine jo_l (ly_as rfl) (hd 8 rfl) ?_; refine jo_nil ?_; refine jc_seq ?_; refine jc_seq ?_; refine jc_region ?_; refine jo_l (ly_mv rfl) (hd 19 rfl) ?_; refine jo_nil ?_; refine jc_litt rfl ?_; refine jc_region ?_; refine jo_l (ly_mv rfl) (hd 20 rfl) ?_; refine jo_l (ly_sub rfl rfl (r := 1 - ((tw v / 2 ^ i % 2 : Nat) : Int)) (wrap_i64 (by omega) (by omega))) (hd 21 rfl) ?_; refine jo_l (ly_as rfl) (hd 8 rfl) ?_; refine jo_nil ?_; refine jc_seq ?_; refine jc_region ?_; refine jo_l (ly_mv rfl) (hd 22 rfl) ?_; refine jo_l (ly_as rfl) (hd 4 rfl) ?_; refine jo_l (ly_as rfl) (hd 5 rfl) ?_; refine jo_nil ?_; refine jc_ret ?_
  refine ⟨_, _, (.cons rfl (.cons rfl .nil)), (.t1 .i (.t1 .i .t0)), ?_⟩
  unfold bitI; rw [if_pos (by omega)]

theorem wBit_v (sa : Bool) (a : List Int) (v : Int) (la : a.length < 4294967296) (ua : u64s a) (ev : sv sa a = v) (hv : lenV v ≤ 67108860) (i : Nat) (hi : i < 1099511627776) : Spec Tryd.prog 12 [.a [.b sa, .n false .u64 a], .i .i64 (i : Int)] (fun o => o = .ret (.t [.i .i64 (bitI v i), .i .i64 0])) := by
  by_cases h0 : v < 0
  · exact wBit_n sa a v la ua ev hv i hi h0
  · exact wBit_p sa a v la ua ev hv i hi (by omega)
end Go.Proofs.YtaogaegchagbfaaDoor.Vc

/- Contract of nat.Left by nothing. -/
namespace Go.Proofs.YtaogaegchagbfaaDoor.Vc
open Go Go.RowKit
set_option maxHeartbeats 4000000 in
theorem Shift_z (sa : Bool) (a : List Int) (v : Int) (n : Nat) (la : a.length < 4294967296) (ua : u64s a) (ev : sv sa a = v) (hv : lenV v ≤ 67108860) (hn : n ≤ 1000) (h0 : v = 0) : Spec Tryd.prog 30 [.a [.b sa, .n false .u64 a], .i .i64 (-(n : Int))] (fun o => o = .ret (.t [.a [.b (decide ((v / ((2 ^ n : Nat) : Int)) < 0)), .n false .u64 (lm (v / ((2 ^ n : Nat) : Int)))], .i .i64 0])) := by
  refine spec_of' [(0, .a [.b sa, .n false .u64 a]), (1, .i .i64 (-(n : Int)))] rfl Tryd.func30 rfl (Nat.le_of_ble_eq_true rfl) fun Γ hN hds hL hR => ?_
  have hd : ∀ d, Nat.blt d 74 = true → d < Γ.N := fun d h => by rw [hN]; exact Nat.le_of_ble_eq_true h
  have hlv := lenV_lm (v := v) (by omega)
  have hNo : Spec Tryd.prog 59 [.a [.b sa, .n false .u64 a]] (fun o => o = .ret (.a [.b (decide (v < 0)), .n true .u64 (lm v)])) := by have h := norm_s sa a (by omega); have e := raw_res ua ev; rw [e.1, e.2.1] at h; exact h
  have hl0 : (lm v).length = 0 := by rw [h0, lm_0]; rfl
  refine jc_seq ?_; refine jc_region ?_; refine jo_h (hy_box (id := 0) (n := 2) rfl rfl rfl (by decide) rfl) (hd 2 rfl) ?_; refine jo_h (hy_alloc (id := 1) zero30 (by decide) rfl (by decide) rfl) (hd 4 rfl) ?_; refine jo_l (ly_as rfl) (hd 5 rfl) ?_; refine jo_nil ?_; refine jc_seq ?_; refine jc_region ?_; refine jo_l (ly_lda agg30 rfl rfl rfl rfl) (hd 11 rfl) ?_
  refine jo_call Tryd.f59 (hNo) rfl Tryd.func59 rfl rfl (ovL_cons rfl ovL_nil) (.cons (.a1 .b (.a1 .n .a0)) .nil) (hd 12 rfl) ?_ (fun ch hp => by simp at hp)
  rintro y hy; injection hy with hy; subst hy; refine jo_st (sy_store rfl rfl rfl siz30 rfl rfl (Nat.le_of_ble_eq_true rfl)) ?_; refine jo_nil ?_; refine jc_seq ?_; refine jc_seq ?_; refine jc_region ?_; refine jo_l (ly_fa fld30_1 rfl rfl rfl) (hd 13 rfl) ?_; refine jo_l (ly_ld one28 rfl rfl rfl) (hd 14 rfl) ?_; refine jo_l (ly_lenn sl28 rfl) (hd 15 rfl) ?_; refine jo_l (ly_tt (ly_eq rfl rfl) (by omega)) (hd 16 rfl) ?_; refine jo_nil ?_; refine jc_litt rfl ?_; refine jc_seq ?_; refine jc_region ?_; refine jo_l (ly_build (is := []) (xs := []) (pls := []) zero30 pls30_ rfl ovL_nil rfl trivial (all_of rfl) rfl) (hd 17 rfl) ?_; refine jo_st (sy_store rfl rfl rfl siz30 rfl rfl (Nat.le_of_ble_eq_true rfl)) ?_; refine jo_l (ly_as rfl) (hd 5 rfl) ?_; refine jo_nil ?_; refine jc_ret ?_
  refine ⟨_, _, (.cons (ResV.cell agg30 rfl rfl rfl rfl) (.cons rfl .nil)), (.t1 (.a1 .b (.a1 (.nil (fr := false) (k := .u64)) .a0)) (.t1 .i .t0)), ?_⟩
  rw [h0, Int.zero_ediv, lm_0, decide_eq_false (by decide)]

set_option maxHeartbeats 4000000 in
theorem Left_0 (x : Nat) (hx : lenV (x : Int) ≤ 67108864) (h0 : x ≠ 0) : Spec Tryd.prog 66 [.n false .u64 (lm (x : Int)), .i .i64 0] (fun o => o = .ret (.t [.n false .u64 (lm (x : Int)), .i .i64 0])) := by
  refine spec_of' [(0, .n false .u64 (lm (x : Int))), (1, .i .i64 0)] rfl Tryd.func66 rfl (Nat.le_of_ble_eq_true rfl) fun Γ hN hds hL hR => ?_
  have hd : ∀ d, Nat.blt d 73 = true → d < Γ.N := fun d h => by rw [hN]; exact Nat.le_of_ble_eq_true h
  have hlx := lenV_lm hx
  have hTr : Spec Tryd.prog 87 [.n false .u64 (lm (x : Int))] (fun o => o = .ret (.n false .u64 (lm (x : Int)))) := by have h := trim_s (lm (x : Int)) (by omega); rwa [trm_id (lm_t _)] at h
  have hne := List.length_pos_iff.2 (lm_ne (show (x : Int) ≠ 0 by omega))
  have hux := lm_u (x : Int)
  refine jc_seq ?_; refine jc_region ?_; refine jo_l (ly_as rfl) (hd 4 rfl) ?_; refine jo_l (ly_as rfl) (hd 5 rfl) ?_; refine jo_nil ?_; refine jc_seq ?_; refine jc_seq ?_; refine jc_region ?_; refine jo_l (ly_mv rfl) (hd 11 rfl) ?_; refine jo_l (ly_ff (ly_lt rfl rfl) (by decide)) (hd 12 rfl) ?_; refine jo_l (ly_mv rfl) (hd 13 rfl) ?_; refine jo_g 13 rfl rfl (ly_mv rfl) (hd 14 rfl) ?_; refine jo_g 13 rfl rfl (ly_ff (ly_gt rfl rfl) (by decide)) (hd 15 rfl) ?_; refine jo_l (ly_pick_f rfl rfl) (hd 16 rfl) ?_; refine jo_nil ?_; refine jc_litf rfl ?_; refine jc_skip ?_; refine jc_seq ?_; refine jc_region ?_; refine jo_l (ly_mv rfl) (hd 17 rfl) ?_
  refine jo_call Tryd.f87 (hTr) rfl Tryd.func87 rfl rfl (ovL_cons rfl ovL_nil) (.cons .n .nil) (hd 18 rfl) ?_ (fun ch hp => by simp at hp)
  rintro y hy; injection hy with hy; subst hy; refine jo_l (ly_as rfl) (hd 0 rfl) ?_; refine jo_nil ?_; refine jc_seq ?_; refine jc_seq ?_; refine jc_region ?_; refine jo_l (ly_mv rfl) (hd 19 rfl) ?_; refine jo_l (ly_lenn sl28 rfl) (hd 20 rfl) ?_; refine jo_l (ly_ff (ly_eq rfl rfl) (by omega)) (hd 21 rfl) ?_; refine jo_nil ?_; refine jc_litf rfl ?_; refine jc_skip ?_; refine jc_seq ?_; refine jc_seq ?_; refine jc_region ?_; refine jo_l (ly_mv rfl) (hd 22 rfl) ?_
  refine jo_call Tryd.f71 (Length_v (x : Int) (by omega)) rfl Tryd.func71 rfl rfl (ovL_cons rfl ovL_nil) (.cons .n .nil) (hd 23 rfl) ?_ (fun ch hp => by simp at hp)
  rintro y hy; injection hy with hy; subst hy; refine jo_l (ly_mv rfl) (hd 24 rfl) ?_; refine jo_l (ly_add rfl rfl (r := ((lenV (x : Int) : Nat) : Int)) (by rw [wrap_i64 (by omega) (by omega)]; omega)) (hd 25 rfl) ?_; refine jo_l (ly_ff (ly_gt rfl rfl) (by omega)) (hd 26 rfl) ?_; refine jo_nil ?_; refine jc_litf rfl ?_; refine jc_skip ?_; refine jc_seq ?_; refine jc_region ?_; refine jo_l (ly_mv rfl) (hd 27 rfl) ?_; refine jo_l (ly_quo rfl rfl (by decide) (r := 0) rfl) (hd 28 rfl) ?_; refine jo_l (ly_mv rfl) (hd 29 rfl) ?_; refine jo_l (ly_is (ly_rem rfl rfl (by decide) rfl) (show V.i .i64 _ = V.i .i64 0 from rfl)) (hd 30 rfl) ?_; refine jo_l (ly_conv und3 und116 rfl (r := 0) rfl) (hd 31 rfl) ?_; refine jo_l (ly_as rfl) (hd 6 rfl) ?_; refine jo_l (ly_as rfl) (hd 7 rfl) ?_; refine jo_nil ?_; refine jc_seq ?_; refine jc_region ?_; refine jo_l (ly_mv rfl) (hd 32 rfl) ?_; refine jo_l (ly_mv rfl) (hd 33 rfl) ?_; refine jo_l (ly_lenn sl28 rfl) (hd 34 rfl) ?_; refine jo_l (ly_add rfl rfl (r := ((lm (x : Int)).length : Int)) (by rw [wrap_i64 (by omega) (by omega)]; omega)) (hd 35 rfl) ?_; refine jo_l (ly_add rfl rfl (r := (((lm (x : Int)).length + 1 : Nat) : Int)) (by rw [wrap_i64 (by omega) (by omega)]; omega)) (hd 36 rfl) ?_; refine jo_h (hy_mk (m := (lm (x : Int)).length + 1) el28 rfl rfl rfl (by show 8 * ((lm (x : Int)).length + 1) ≤ _; omega) (by unfold maxLen; omega) rfl) (hd 37 rfl) ?_; refine jo_l (ly_as rfl) (hd 8 rfl) ?_; refine jo_nil ?_; refine jc_seq ?_; refine jc_seq ?_; refine jc_H (H' := [⟨76, 1, 0, true, ints .u64 (fillI ((lm (x : Int)).take 0) ((lm (x : Int)).length + 1))⟩]) (by show [(⟨76, 1, 0, true, ints .u64 _⟩ : Ob)] = [⟨76, 1, 0, true, ints .u64 _⟩]; rw [fill_t0]) ?_; refine jc_region ?_; refine jo_l (ly_mv rfl) (hd 38 rfl) ?_; refine jo_l (ly_lenn sl28 rfl) (hd 39 rfl) ?_; refine jo_l (ly_mv rfl) (hd 40 rfl) ?_; refine jo_nil ?_; refine jc_block ?_
  refine jc_loopF (G := Nat) (fun i => i ≤ (lm (x : Int)).length) (fun i => [(40, .i .i64 (i : Int)), (9, .u), (10, .u), (41, .u), (42, .u), (43, .u), (44, .u), (45, .u), (46, .u), (47, .u), (48, .u), (49, .u), (50, .u), (51, .u), (52, .u), (53, .u), (54, .u), (55, .u), (56, .u), (57, .u), (58, .u), (59, .u), (60, .u), (61, .u), (62, .u), (63, .u), (64, .u), (65, .u), (66, .u), (67, .u), (68, .u), (69, .u), (70, .u)]) (fun i => [⟨76, 1, 0, true, ints .u64 (fillI ((lm (x : Int)).take i) ((lm (x : Int)).length + 1))⟩]) (fun i => (lm (x : Int)).length - i) 0 ?_ ?_ rfl ?_
  · exact Nat.zero_le _
  · exact (.cons rfl (.u (.u (.u (.u (.u (.u (.u (.u (.u (.u (.u (.u (.u (.u (.u (.u (.u (.u (.u (.u (.u (.u (.u (.u (.u (.u (.u (.u (.u (.u (.u (.u .nil)))))))))))))))))))))))))))))))))
  · rintro i hc1
    have hfl : (fillI ((lm (x : Int)).take i) ((lm (x : Int)).length + 1)).length = (lm (x : Int)).length + 1 := fillI_len (by rw [List.length_take]; omega)
    have hxi := u64s_getD hux i
    refine jc_seq ?_; refine jc_region ?_; refine jo_l (ly_lt rfl rfl) (hd 41 rfl) ?_; refine jo_nil ?_; refine jc_seq ?_
    refine jc_if rfl (fun h4 => ?_) (fun h4 => ?_)
    · refine jc_skip ?_; refine jc_seq ?_; refine jc_block ?_; refine jc_seq ?_; refine jc_region ?_; refine jo_l (ly_mv rfl) (hd 42 rfl) ?_; refine jo_l (ly_ian (i := i) sl28 rfl rfl (by first | rfl | omega) (by omega)) (hd 43 rfl) ?_; refine jo_l (ly_ldq one82 rfl rfl) (hd 44 rfl) ?_; refine jo_l (ly_as rfl) (hd 9 rfl) ?_; refine jo_l (ly_as rfl) (hd 10 rfl) ?_; refine jo_nil ?_; refine jc_seq ?_; refine jc_region ?_; refine jo_l (ly_mv rfl) (hd 45 rfl) ?_; refine jo_l (ly_mv rfl) (hd 46 rfl) ?_; refine jo_l (ly_mv rfl) (hd 47 rfl) ?_; refine jo_l (ly_add rfl rfl (r := (i : Int)) (by rw [wrap_i64 (by omega) (by omega)]; omega)) (hd 48 rfl) ?_; refine jo_l (ly_ia (i := i) sl28 rfl rfl rfl (by first | rfl | omega) (by omega) rfl) (hd 49 rfl) ?_; refine jo_l (ly_is (ly_ldi one82 rfl rfl (by omega)) (show V.i .u64 _ = V.i .u64 (0) from congrArg (V.i .u64) (fill_take0 (by omega)))) (hd 50 rfl) ?_; refine jo_l (ly_mv rfl) (hd 51 rfl) ?_; refine jo_l (ly_mv rfl) (hd 52 rfl) ?_; refine jo_l (ly_is (ly_shl rfl rfl (by decide) rfl) (by show V.i .u64 _ = V.i .u64 ((lm (x : Int)).getD i 0); exact congrArg (V.i .u64) (by rw [u64_wrap_mod]; show (lm (x : Int)).getD i 0 * 1 % _ = _; omega))) (hd 53 rfl) ?_; refine jo_l (ly_is (ly_bit (by simp) rfl rfl rfl) (show V.i .u64 _ = V.i .u64 ((lm (x : Int)).getD i 0) from congrArg (V.i .u64) (or_z hxi.1 hxi.2))) (hd 54 rfl) ?_; refine jo_l (ly_ia (i := i) sl28 rfl rfl rfl (by first | rfl | omega) (by omega) rfl) (hd 55 rfl) ?_; refine jo_st (sy_storei rfl rfl rfl one82 (by omega)) ?_; refine jo_nil ?_; refine jc_region ?_; refine jo_l (ly_mv rfl) (hd 56 rfl) ?_; refine jo_l (ly_mv rfl) (hd 57 rfl) ?_; refine jo_l (ly_mv rfl) (hd 58 rfl) ?_; refine jo_l (ly_add rfl rfl (r := (i : Int)) (by rw [wrap_i64 (by omega) (by omega)]; omega)) (hd 59 rfl) ?_; refine jo_l (ly_add rfl rfl (r := ((i + 1 : Nat) : Int)) (by rw [wrap_i64 (by omega) (by omega)]; omega)) (hd 60 rfl) ?_; refine jo_l (ly_ia (i := i + 1) sl28 rfl rfl rfl (by first | rfl | omega) (by omega) rfl) (hd 61 rfl) ?_; refine jo_l (ly_is (ly_ldi one82 rfl rfl (by rw [List.length_set]; omega)) (show V.i .u64 _ = V.i .u64 (0) from congrArg (V.i .u64) (fill_take1 (by omega)))) (hd 62 rfl) ?_; refine jo_l (ly_mv rfl) (hd 63 rfl) ?_; refine jo_l (ly_is (ly_shr rfl rfl (by decide) rfl) (by show V.i .u64 _ = V.i .u64 ((lm (x : Int)).getD i 0 / 2); exact congrArg (V.i .u64) (by exact Int.fdiv_eq_ediv_of_nonneg _ (by decide)))) (hd 64 rfl) ?_; refine jo_l (ly_mv rfl) (hd 65 rfl) ?_; refine jo_l (ly_sub rfl rfl (r := 63) rfl) (hd 66 rfl) ?_; refine jo_l (ly_is (ly_shr rfl rfl (by decide) rfl) (by show V.i .u64 _ = V.i .u64 (0); exact congrArg (V.i .u64) (by rw [show (63 : Int).toNat = 63 from rfl]; exact shr63 hxi.1 hxi.2))) (hd 67 rfl) ?_; refine jo_l (ly_is (ly_bit (by simp) rfl rfl rfl) (show V.i .u64 _ = V.i .u64 0 from congrArg (V.i .u64) (by decide +kernel))) (hd 68 rfl) ?_; refine jo_l (ly_ia (i := i + 1) sl28 rfl rfl rfl (by first | rfl | omega) (by omega) rfl) (hd 69 rfl) ?_; refine jo_st (sy_storei rfl rfl rfl one82 (by rw [List.length_set]; omega)) ?_; refine jo_nil ?_; refine jc_region ?_; refine jo_l (ly_add rfl rfl (r := ((i + 1 : Nat) : Int)) (by rw [wrap_i64 (by omega) (by omega)]; omega)) (hd 70 rfl) ?_; refine jo_l (ly_mv rfl) (hd 40 rfl) ?_; refine jo_nil ?_
      refine ⟨i + 1, ?_, ?_, (by show [(⟨76, 1, 0, true, ints .u64 _⟩ : Ob)] = [⟨76, 1, 0, true, ints .u64 _⟩]; rw [fill_take (by omega)]), cov_n 66 rfl rfl ?_⟩
      · omega
      · omega
      · exact (.cons rfl (.u (.u (.u (.u (.u (.u (.u (.u (.u (.u (.u (.u (.u (.u (.u (.u (.u (.u (.u (.u (.u (.u (.u (.u (.u (.u (.u (.u (.u (.u (.u (.u .nil)))))))))))))))))))))))))))))))))
    · obtain rfl : i = (lm (x : Int)).length := by omega
      refine jc_exit ?_; refine jc_seq ?_; refine jc_frz (k := .u64) (l := fillI ((lm (x : Int)).take (lm (x : Int)).length) ((lm (x : Int)).length + 1)) (l' := (lm (x : Int)) ++ [0]) 8 rfl rfl (by omega) (by rw [List.take_length, List.drop_zero, fill_one, List.take_of_length_le (by simp)]) hL ?_; refine jc_region ?_; refine jo_l (ly_mv rfl) (hd 71 rfl) ?_
      refine jo_call Tryd.f87 (trim_s ((lm (x : Int)) ++ [0]) (by simp; omega)) rfl Tryd.func87 rfl rfl (ovL_cons rfl ovL_nil) (.cons .n .nil) (hd 72 rfl) ?_ (fun ch hp => by simp at hp)
      rintro y hy; injection hy with hy; subst hy; refine jo_l (ly_as rfl) (hd 4 rfl) ?_; refine jo_l (ly_as rfl) (hd 5 rfl) ?_; refine jo_nil ?_; refine jc_ret ?_
      refine ⟨_, _, (.cons rfl (.cons rfl .nil)), (.t1 .nn (.t1 .i .t0)), ?_⟩
      rw [show trm ((lm (x : Int)) ++ [0]) = (lm (x : Int)) from by rw [trm_lm (v := (x : Int)) (u64s_app1 hux (by decide) (by decide)) (by rw [vl_app, show vl [0] = 0 from rfl, Int.mul_zero, Int.add_zero, vl_lm (Int.natCast_nonneg _)])]]
end Go.Proofs.YtaogaegchagbfaaDoor.Vc

/- Contract of whole.Shift downwards. -/
namespace Go.Proofs.YtaogaegchagbfaaDoor.Vc
open Go Go.RowKit
set_option maxHeartbeats 4000000 in
theorem Shift_0p (sa : Bool) (a : List Int) (v : Int) (la : a.length < 4294967296) (ua : u64s a) (ev : sv sa a = v) (hv : lenV v ≤ 67108860) (h0 : v ≠ 0) (hs : 0 < v) : Spec Tryd.prog 30 [.a [.b sa, .n false .u64 a], .i .i64 0] (fun o => o = .ret (.t [.a [.b (decide ((v / ((2 ^ 0 : Nat) : Int)) < 0)), .n false .u64 (lm (v / ((2 ^ 0 : Nat) : Int)))], .i .i64 0])) := by
  refine spec_of' [(0, .a [.b sa, .n false .u64 a]), (1, .i .i64 0)] rfl Tryd.func30 rfl (Nat.le_of_ble_eq_true rfl) fun Γ hN hds hL hR => ?_
  have hd : ∀ d, Nat.blt d 74 = true → d < Γ.N := fun d h => by rw [hN]; exact Nat.le_of_ble_eq_true h
  have hlv := lenV_lm (v := v) (by omega)
  have hNo : Spec Tryd.prog 59 [.a [.b sa, .n false .u64 a]] (fun o => o = .ret (.a [.b (decide (v < 0)), .n true .u64 (lm v)])) := by have h := norm_s sa a (by omega); have e := raw_res ua ev; rw [e.1, e.2.1] at h; exact h
  have hal : lm ((v.natAbs : Nat) : Int) = lm v := by unfold lm; rw [Int.natAbs_natCast]
  have hav : lenV ((v.natAbs : Nat) : Int) = lenV v := by unfold lenV; rw [Int.natAbs_natCast]
  have hnz := List.length_pos_iff.2 (lm_ne (v := v) h0)
  have hLe := Left_0 v.natAbs (by omega) (by omega)
  rw [hal] at hLe
  have hRe : Spec Tryd.prog 61 [.b false, .n false .u64 (lm v), .i .i64 0] (fun o => o = .ret (.t [.a [.b (decide (v < 0)), .n true .u64 (lm v)], .i .i64 0])) := by
    have h := result_ok false (lm v) (by have := lenV_lm (v := v) (by omega); omega) (lm_u _) (by rw [lenN_lm]; omega)
    have e := raw_res (s := false) (v := v) (lm_u v) (by show vl (lm v) = _; rw [lm_v]; omega)
    rw [e.1, e.2.1] at h
    exact h
  refine jc_seq ?_; refine jc_region ?_; refine jo_h (hy_box (id := 0) (n := 2) rfl rfl rfl (by decide) rfl) (hd 2 rfl) ?_; refine jo_h (hy_alloc (id := 1) zero30 (by decide) rfl (by decide) rfl) (hd 4 rfl) ?_; refine jo_l (ly_as rfl) (hd 5 rfl) ?_; refine jo_nil ?_; refine jc_seq ?_; refine jc_region ?_; refine jo_l (ly_lda agg30 rfl rfl rfl rfl) (hd 11 rfl) ?_
  refine jo_call Tryd.f59 (hNo) rfl Tryd.func59 rfl rfl (ovL_cons rfl ovL_nil) (.cons (.a1 .b (.a1 .n .a0)) .nil) (hd 12 rfl) ?_ (fun ch hp => by simp at hp)
  rintro y hy; injection hy with hy; subst hy; refine jo_st (sy_store rfl rfl rfl siz30 rfl rfl (Nat.le_of_ble_eq_true rfl)) ?_; refine jo_nil ?_; refine jc_seq ?_; refine jc_seq ?_; refine jc_H (H' := [⟨27, 2, 0, true, [.b (decide (v < 0)), .n true .u64 (lm v)]⟩, ⟨27, 2, 0, true, [.b false, .c (.slice none 0 0)]⟩]) rfl ?_; refine jc_region ?_; refine jo_l (ly_fa fld30_1 rfl rfl rfl) (hd 13 rfl) ?_; refine jo_l (ly_ld one28 rfl rfl rfl) (hd 14 rfl) ?_; refine jo_l (ly_lenn sl28 rfl) (hd 15 rfl) ?_; refine jo_l (ly_ff (ly_eq rfl rfl) (by omega)) (hd 16 rfl) ?_; refine jo_nil ?_; refine jc_litf rfl ?_; refine jc_skip ?_; refine jc_seq ?_; refine jc_seq ?_; refine jc_region ?_; refine jo_l (ly_mv rfl) (hd 18 rfl) ?_; refine jo_l (ly_tt (ly_ge rfl rfl) (by decide)) (hd 19 rfl) ?_; refine jo_nil ?_; refine jc_litt rfl ?_; refine jc_seq ?_; refine jc_seq ?_; refine jc_region ?_; refine jo_l (ly_mv rfl) (hd 20 rfl) ?_; refine jo_l (ly_ff (ly_gt rfl rfl) (by decide)) (hd 21 rfl) ?_; refine jo_nil ?_; refine jc_litf rfl ?_; refine jc_skip ?_; refine jc_seq ?_; refine jc_region ?_; refine jo_l (ly_fa fld30_1 rfl rfl rfl) (hd 24 rfl) ?_; refine jo_l (ly_ld one28 rfl rfl rfl) (hd 25 rfl) ?_; refine jo_l (ly_mv rfl) (hd 26 rfl) ?_
  refine jo_call Tryd.f66 (hLe) rfl Tryd.func66 rfl rfl (ovL_cons rfl (ovL_cons rfl ovL_nil)) (.cons .n (.cons .i .nil)) (hd 27 rfl) ?_ (fun ch hp => by simp at hp)
  rintro y hy; injection hy with hy; subst hy; refine jo_l (ly_mv rfl) (hd 23 rfl) ?_; refine jo_l (ly_ext rfl rfl) (hd 28 rfl) ?_; refine jo_l (ly_ext rfl rfl) (hd 29 rfl) ?_; refine jo_l (ly_as rfl) (hd 6 rfl) ?_; refine jo_l (ly_as rfl) (hd 7 rfl) ?_; refine jo_nil ?_; refine jc_seq ?_; refine jc_region ?_; refine jo_l (ly_fa fld30_0 rfl rfl rfl) (hd 30 rfl) ?_; refine jo_l (ly_ff (ly_ld one4 rfl rfl rfl) (by omega)) (hd 31 rfl) ?_; refine jo_l (ly_mv rfl) (hd 32 rfl) ?_; refine jo_l (ly_mv rfl) (hd 33 rfl) ?_
  refine jo_call Tryd.f61 (hRe) rfl Tryd.func61 rfl rfl (ovL_cons rfl (ovL_cons rfl (ovL_cons rfl ovL_nil))) (.cons .b (.cons .n (.cons .i .nil))) (hd 34 rfl) ?_ (fun ch hp => by simp at hp)
  rintro y hy; injection hy with hy; subst hy; refine jo_l (ly_ext rfl rfl) (hd 35 rfl) ?_; refine jo_l (ly_ext rfl rfl) (hd 36 rfl) ?_; refine jo_st (sy_store rfl rfl rfl siz30 rfl rfl (Nat.le_of_ble_eq_true rfl)) ?_; refine jo_l (ly_as rfl) (hd 5 rfl) ?_; refine jo_nil ?_; refine jc_ret ?_
  refine ⟨_, _, (.cons (ResV.cell agg30 rfl rfl rfl rfl) (.cons rfl .nil)), (.t1 (.a1 .b (.a1 .nn .a0)) (.t1 .i .t0)), ?_⟩
  rw [show ((2 ^ 0 : Nat) : Int) = 1 from rfl, Int.ediv_one]

set_option maxHeartbeats 4000000 in
theorem Shift_0n (sa : Bool) (a : List Int) (v : Int) (la : a.length < 4294967296) (ua : u64s a) (ev : sv sa a = v) (hv : lenV v ≤ 67108860) (h0 : v ≠ 0) (hs : v < 0) : Spec Tryd.prog 30 [.a [.b sa, .n false .u64 a], .i .i64 0] (fun o => o = .ret (.t [.a [.b (decide ((v / ((2 ^ 0 : Nat) : Int)) < 0)), .n false .u64 (lm (v / ((2 ^ 0 : Nat) : Int)))], .i .i64 0])) := by
  refine spec_of' [(0, .a [.b sa, .n false .u64 a]), (1, .i .i64 0)] rfl Tryd.func30 rfl (Nat.le_of_ble_eq_true rfl) fun Γ hN hds hL hR => ?_
  have hd : ∀ d, Nat.blt d 74 = true → d < Γ.N := fun d h => by rw [hN]; exact Nat.le_of_ble_eq_true h
  have hlv := lenV_lm (v := v) (by omega)
  have hNo : Spec Tryd.prog 59 [.a [.b sa, .n false .u64 a]] (fun o => o = .ret (.a [.b (decide (v < 0)), .n true .u64 (lm v)])) := by have h := norm_s sa a (by omega); have e := raw_res ua ev; rw [e.1, e.2.1] at h; exact h
  have hal : lm ((v.natAbs : Nat) : Int) = lm v := by unfold lm; rw [Int.natAbs_natCast]
  have hav : lenV ((v.natAbs : Nat) : Int) = lenV v := by unfold lenV; rw [Int.natAbs_natCast]
  have hnz := List.length_pos_iff.2 (lm_ne (v := v) h0)
  have hLe := Left_0 v.natAbs (by omega) (by omega)
  rw [hal] at hLe
  have hRe : Spec Tryd.prog 61 [.b true, .n false .u64 (lm v), .i .i64 0] (fun o => o = .ret (.t [.a [.b (decide (v < 0)), .n true .u64 (lm v)], .i .i64 0])) := by
    have h := result_ok true (lm v) (by have := lenV_lm (v := v) (by omega); omega) (lm_u _) (by rw [lenN_lm]; omega)
    have e := raw_res (s := true) (v := v) (lm_u v) (by show -(vl (lm v)) = _; rw [lm_v]; omega)
    rw [e.1, e.2.1] at h
    exact h
  refine jc_seq ?_; refine jc_region ?_; refine jo_h (hy_box (id := 0) (n := 2) rfl rfl rfl (by decide) rfl) (hd 2 rfl) ?_; refine jo_h (hy_alloc (id := 1) zero30 (by decide) rfl (by decide) rfl) (hd 4 rfl) ?_; refine jo_l (ly_as rfl) (hd 5 rfl) ?_; refine jo_nil ?_; refine jc_seq ?_; refine jc_region ?_; refine jo_l (ly_lda agg30 rfl rfl rfl rfl) (hd 11 rfl) ?_
  refine jo_call Tryd.f59 (hNo) rfl Tryd.func59 rfl rfl (ovL_cons rfl ovL_nil) (.cons (.a1 .b (.a1 .n .a0)) .nil) (hd 12 rfl) ?_ (fun ch hp => by simp at hp)
  rintro y hy; injection hy with hy; subst hy; refine jo_st (sy_store rfl rfl rfl siz30 rfl rfl (Nat.le_of_ble_eq_true rfl)) ?_; refine jo_nil ?_; refine jc_seq ?_; refine jc_seq ?_; refine jc_H (H' := [⟨27, 2, 0, true, [.b (decide (v < 0)), .n true .u64 (lm v)]⟩, ⟨27, 2, 0, true, [.b false, .c (.slice none 0 0)]⟩]) rfl ?_; refine jc_region ?_; refine jo_l (ly_fa fld30_1 rfl rfl rfl) (hd 13 rfl) ?_; refine jo_l (ly_ld one28 rfl rfl rfl) (hd 14 rfl) ?_; refine jo_l (ly_lenn sl28 rfl) (hd 15 rfl) ?_; refine jo_l (ly_ff (ly_eq rfl rfl) (by omega)) (hd 16 rfl) ?_; refine jo_nil ?_; refine jc_litf rfl ?_; refine jc_skip ?_; refine jc_seq ?_; refine jc_seq ?_; refine jc_region ?_; refine jo_l (ly_mv rfl) (hd 18 rfl) ?_; refine jo_l (ly_tt (ly_ge rfl rfl) (by decide)) (hd 19 rfl) ?_; refine jo_nil ?_; refine jc_litt rfl ?_; refine jc_seq ?_; refine jc_seq ?_; refine jc_region ?_; refine jo_l (ly_mv rfl) (hd 20 rfl) ?_; refine jo_l (ly_ff (ly_gt rfl rfl) (by decide)) (hd 21 rfl) ?_; refine jo_nil ?_; refine jc_litf rfl ?_; refine jc_skip ?_; refine jc_seq ?_; refine jc_region ?_; refine jo_l (ly_fa fld30_1 rfl rfl rfl) (hd 24 rfl) ?_; refine jo_l (ly_ld one28 rfl rfl rfl) (hd 25 rfl) ?_; refine jo_l (ly_mv rfl) (hd 26 rfl) ?_
  refine jo_call Tryd.f66 (hLe) rfl Tryd.func66 rfl rfl (ovL_cons rfl (ovL_cons rfl ovL_nil)) (.cons .n (.cons .i .nil)) (hd 27 rfl) ?_ (fun ch hp => by simp at hp)
  rintro y hy; injection hy with hy; subst hy; refine jo_l (ly_mv rfl) (hd 23 rfl) ?_; refine jo_l (ly_ext rfl rfl) (hd 28 rfl) ?_; refine jo_l (ly_ext rfl rfl) (hd 29 rfl) ?_; refine jo_l (ly_as rfl) (hd 6 rfl) ?_; refine jo_l (ly_as rfl) (hd 7 rfl) ?_; refine jo_nil ?_; refine jc_seq ?_; refine jc_region ?_; refine jo_l (ly_fa fld30_0 rfl rfl rfl) (hd 30 rfl) ?_; refine jo_l (ly_tt (ly_ld one4 rfl rfl rfl) (by omega)) (hd 31 rfl) ?_; refine jo_l (ly_mv rfl) (hd 32 rfl) ?_; refine jo_l (ly_mv rfl) (hd 33 rfl) ?_
  refine jo_call Tryd.f61 (hRe) rfl Tryd.func61 rfl rfl (ovL_cons rfl (ovL_cons rfl (ovL_cons rfl ovL_nil))) (.cons .b (.cons .n (.cons .i .nil))) (hd 34 rfl) ?_ (fun ch hp => by simp at hp)
  rintro y hy; injection hy with hy; subst hy; refine jo_l (ly_ext rfl rfl) (hd 35 rfl) ?_; refine jo_l (ly_ext rfl rfl) (hd 36 rfl) ?_; refine jo_st (sy_store rfl rfl rfl siz30 rfl rfl (Nat.le_of_ble_eq_true rfl)) ?_; refine jo_l (ly_as rfl) (hd 5 rfl) ?_; refine jo_nil ?_; refine jc_ret ?_
  refine ⟨_, _, (.cons (ResV.cell agg30 rfl rfl rfl rfl) (.cons rfl .nil)), (.t1 (.a1 .b (.a1 .nn .a0)) (.t1 .i .t0)), ?_⟩
  rw [show ((2 ^ 0 : Nat) : Int) = 1 from rfl, Int.ediv_one]

theorem Right_all (v : Int) (n : Nat) (hv : lenV v ≤ 67108864) (h0 : v ≠ 0) (hn : n ≤ 1000) (hz : ∀ (h : (lm v).length ≤ n / 64), Spec Tryd.prog 67 [.n false .u64 (lm v), .i .i64 (n : Int)] (fun o => o = .ret (.t [.n false .u64 [], .i .i64 0]))) : Spec Tryd.prog 67 [.n false .u64 (lm v), .i .i64 (n : Int)] (fun o => o = .ret (.t [.n false .u64 (lm ((v.natAbs / 2 ^ n : Nat) : Int)), .i .i64 0])) := by
  have hal : lm ((v.natAbs : Nat) : Int) = lm v := by unfold lm; rw [Int.natAbs_natCast]
  rcases Nat.lt_or_ge (n / 64) (lm v).length with h | h
  · have h1 := Right_v v.natAbs n (by have : lenV ((v.natAbs : Nat) : Int) = lenV v := (by unfold lenV; rw [Int.natAbs_natCast]); omega) (by rw [hal]; exact h)
    rwa [hal] at h1
  · have h1 := hz h
    have h2 := lm_lt v.natAbs
    rw [hal] at h2
    have h3 : v.natAbs / 2 ^ n = 0 := Nat.div_eq_of_lt (Nat.lt_of_lt_of_le h2 (Nat.pow_le_pow_right (by decide) (by omega)))
    rw [h3, show ((0 : Nat) : Int) = 0 from rfl, lm_0]
    exact h1

set_option maxHeartbeats 4000000 in
theorem Right_out (v : Int) (n : Nat) (hv : lenV v ≤ 67108864) (hn : n ≤ 1000) (ho : (lm v).length ≤ n / 64) : Spec Tryd.prog 67 [.n false .u64 (lm v), .i .i64 (n : Int)] (fun o => o = .ret (.t [.n false .u64 [], .i .i64 0])) := by
  refine spec_of' [(0, .n false .u64 (lm v)), (1, .i .i64 (n : Int))] rfl Tryd.func67 rfl (Nat.le_of_ble_eq_true rfl) fun Γ hN hds hL hR => ?_
  have hd : ∀ d, Nat.blt d 77 = true → d < Γ.N := fun d h => by rw [hN]; exact Nat.le_of_ble_eq_true h
  have hlv := lenV_lm hv
  have hTr : Spec Tryd.prog 87 [.n false .u64 (lm v)] (fun o => o = .ret (.n false .u64 (lm v))) := by have h := trim_s (lm v) (by omega); rwa [trm_id (lm_t _)] at h
  refine jc_seq ?_; refine jc_region ?_; refine jo_l (ly_as rfl) (hd 4 rfl) ?_; refine jo_l (ly_as rfl) (hd 5 rfl) ?_; refine jo_nil ?_; refine jc_seq ?_; refine jc_seq ?_; refine jc_region ?_; refine jo_l (ly_mv rfl) (hd 10 rfl) ?_; refine jo_l (ly_ff (ly_lt rfl rfl) (by omega)) (hd 11 rfl) ?_; refine jo_l (ly_mv rfl) (hd 12 rfl) ?_; refine jo_g 12 rfl rfl (ly_mv rfl) (hd 13 rfl) ?_; refine jo_g 12 rfl rfl (ly_ff (ly_gt rfl rfl) (by omega)) (hd 14 rfl) ?_; refine jo_l (ly_pick_f rfl rfl) (hd 15 rfl) ?_; refine jo_nil ?_; refine jc_litf rfl ?_; refine jc_skip ?_; refine jc_seq ?_; refine jc_region ?_; refine jo_l (ly_mv rfl) (hd 16 rfl) ?_
  refine jo_call Tryd.f87 (hTr) rfl Tryd.func87 rfl rfl (ovL_cons rfl ovL_nil) (.cons .n .nil) (hd 17 rfl) ?_ (fun ch hp => by simp at hp)
  rintro y hy; injection hy with hy; subst hy; refine jo_l (ly_as rfl) (hd 0 rfl) ?_; refine jo_nil ?_; refine jc_seq ?_; refine jc_region ?_; refine jo_l (ly_mv rfl) (hd 18 rfl) ?_; refine jo_l (ly_quo rfl rfl (by decide) (r := ((n / 64 : Nat) : Int)) (by rw [show ((n : Int).tdiv 64) = ((n / 64 : Nat) : Int) from rfl, wrap_i64 (by omega) (by omega)])) (hd 19 rfl) ?_; refine jo_l (ly_mv rfl) (hd 20 rfl) ?_; refine jo_l (ly_is (ly_rem rfl rfl (by decide) rfl) (show V.i .i64 ((n : Int).tmod 64) = V.i .i64 ((n % 64 : Nat) : Int) from rfl)) (hd 21 rfl) ?_; refine jo_l (ly_conv und3 und116 rfl (r := ((n % 64 : Nat) : Int)) (wrap_u64 (by omega) (by omega))) (hd 22 rfl) ?_; refine jo_l (ly_as rfl) (hd 6 rfl) ?_; refine jo_l (ly_as rfl) (hd 7 rfl) ?_; refine jo_nil ?_; refine jc_seq ?_; refine jc_seq ?_; refine jc_region ?_; refine jo_l (ly_mv rfl) (hd 23 rfl) ?_; refine jo_l (ly_mv rfl) (hd 24 rfl) ?_; refine jo_l (ly_lenn sl28 rfl) (hd 25 rfl) ?_; refine jo_l (ly_tt (ly_ge rfl rfl) (by omega)) (hd 26 rfl) ?_; refine jo_nil ?_; refine jc_litt rfl ?_; refine jc_seq ?_; refine jc_region ?_; refine jo_l (ly_as rfl) (hd 4 rfl) ?_; refine jo_l (ly_as rfl) (hd 5 rfl) ?_; refine jo_nil ?_; refine jc_ret ?_
  refine ⟨_, _, (.cons rfl (.cons rfl .nil)), (.t1 (.nil (fr := false) (k := .u64)) (.t1 .i .t0)), ?_⟩
  exact rfl

set_option maxHeartbeats 4000000 in
theorem Shift_p (sa : Bool) (a : List Int) (v : Int) (n : Nat) (la : a.length < 4294967296) (ua : u64s a) (ev : sv sa a = v) (hv : lenV v ≤ 67108860) (hn : n ≤ 1000) (h0 : v ≠ 0) (hs : 0 < v) (hn1 : 0 < n) : Spec Tryd.prog 30 [.a [.b sa, .n false .u64 a], .i .i64 (-(n : Int))] (fun o => o = .ret (.t [.a [.b (decide ((v / ((2 ^ n : Nat) : Int)) < 0)), .n false .u64 (lm (v / ((2 ^ n : Nat) : Int)))], .i .i64 0])) := by
  refine spec_of' [(0, .a [.b sa, .n false .u64 a]), (1, .i .i64 (-(n : Int)))] rfl Tryd.func30 rfl (Nat.le_of_ble_eq_true rfl) fun Γ hN hds hL hR => ?_
  have hd : ∀ d, Nat.blt d 74 = true → d < Γ.N := fun d h => by rw [hN]; exact Nat.le_of_ble_eq_true h
  have hlv := lenV_lm (v := v) (by omega)
  have hNo : Spec Tryd.prog 59 [.a [.b sa, .n false .u64 a]] (fun o => o = .ret (.a [.b (decide (v < 0)), .n true .u64 (lm v)])) := by have h := norm_s sa a (by omega); have e := raw_res ua ev; rw [e.1, e.2.1] at h; exact h
  have hal : lm ((v.natAbs : Nat) : Int) = lm v := by unfold lm; rw [Int.natAbs_natCast]
  have hav : lenV ((v.natAbs : Nat) : Int) = lenV v := by unfold lenV; rw [Int.natAbs_natCast]
  have hnz := List.length_pos_iff.2 (lm_ne (v := v) h0)
  have hRi := Right_all v n (by omega) h0 hn (fun h => Right_out v n (by omega) hn h)
  have hqa : (v.natAbs / 2 ^ n) ≤ v.natAbs := Nat.div_le_self _ _
  have hql : lenV (((v.natAbs / 2 ^ n) : Nat) : Int) ≤ lenV v := lenV_mono (by rw [Int.natAbs_natCast]; exact hqa)
  have hqL := lenV_lm (v := (((v.natAbs / 2 ^ n) : Nat) : Int)) (by omega)
  have hqv : (v / ((2 ^ n : Nat) : Int)) = (((v.natAbs / 2 ^ n) : Nat) : Int) := shr_pos (by omega)
  have hRe : Spec Tryd.prog 61 [.b false, .n false .u64 (lm (((v.natAbs / 2 ^ n) : Nat) : Int)), .i .i64 0] (fun o => o = .ret (.t [.a [.b (decide ((v / ((2 ^ n : Nat) : Int)) < 0)), .n true .u64 (lm (v / ((2 ^ n : Nat) : Int)))], .i .i64 0])) := by
    have h := result_ok false (lm (((v.natAbs / 2 ^ n) : Nat) : Int)) (by have := lenV_lm (v := (((v.natAbs / 2 ^ n) : Nat) : Int)) (by omega); omega) (lm_u _) (by rw [lenN_lm]; omega)
    have e := raw_res (s := false) (v := (v / ((2 ^ n : Nat) : Int))) (lm_u (((v.natAbs / 2 ^ n) : Nat) : Int)) (by show vl (lm (((v.natAbs / 2 ^ n) : Nat) : Int)) = _; rw [vl_lm (Int.natCast_nonneg _)]; omega)
    rw [e.1, e.2.1] at h
    exact h
  refine jc_seq ?_; refine jc_region ?_; refine jo_h (hy_box (id := 0) (n := 2) rfl rfl rfl (by decide) rfl) (hd 2 rfl) ?_; refine jo_h (hy_alloc (id := 1) zero30 (by decide) rfl (by decide) rfl) (hd 4 rfl) ?_; refine jo_l (ly_as rfl) (hd 5 rfl) ?_; refine jo_nil ?_; refine jc_seq ?_; refine jc_region ?_; refine jo_l (ly_lda agg30 rfl rfl rfl rfl) (hd 11 rfl) ?_
  refine jo_call Tryd.f59 (hNo) rfl Tryd.func59 rfl rfl (ovL_cons rfl ovL_nil) (.cons (.a1 .b (.a1 .n .a0)) .nil) (hd 12 rfl) ?_ (fun ch hp => by simp at hp)
  rintro y hy; injection hy with hy; subst hy; refine jo_st (sy_store rfl rfl rfl siz30 rfl rfl (Nat.le_of_ble_eq_true rfl)) ?_; refine jo_nil ?_; refine jc_seq ?_; refine jc_seq ?_; refine jc_H (H' := [⟨27, 2, 0, true, [.b (decide (v < 0)), .n true .u64 (lm v)]⟩, ⟨27, 2, 0, true, [.b false, .c (.slice none 0 0)]⟩]) rfl ?_; refine jc_region ?_; refine jo_l (ly_fa fld30_1 rfl rfl rfl) (hd 13 rfl) ?_; refine jo_l (ly_ld one28 rfl rfl rfl) (hd 14 rfl) ?_; refine jo_l (ly_lenn sl28 rfl) (hd 15 rfl) ?_; refine jo_l (ly_ff (ly_eq rfl rfl) (by omega)) (hd 16 rfl) ?_; refine jo_nil ?_; refine jc_litf rfl ?_; refine jc_skip ?_; refine jc_seq ?_; refine jc_seq ?_; refine jc_region ?_; refine jo_l (ly_mv rfl) (hd 18 rfl) ?_; refine jo_l (ly_ff (ly_ge rfl rfl) (by omega)) (hd 19 rfl) ?_; refine jo_nil ?_; refine jc_litf rfl ?_; refine jc_skip ?_; refine jc_seq ?_; refine jc_region ?_; refine jo_l (ly_mv rfl) (hd 37 rfl) ?_; refine jo_l (ly_is (ly_max rfl rfl) (show V.i .i64 _ = V.i .i64 (-(n : Int)) by congr 1; omega)) (hd 38 rfl) ?_; refine jo_l (ly_neg rfl (r := (n : Int)) (by rw [wrap_i64 (by omega) (by omega)]; omega)) (hd 39 rfl) ?_; refine jo_l (ly_as rfl) (hd 1 rfl) ?_; refine jo_nil ?_; refine jc_seq ?_; refine jc_region ?_; refine jo_l (ly_fa fld30_0 rfl rfl rfl) (hd 40 rfl) ?_; refine jo_l (ly_ff (ly_ld one4 rfl rfl rfl) (by omega)) (hd 41 rfl) ?_; refine jo_l (ly_mv rfl) (hd 42 rfl) ?_; refine jo_s 42 rfl rfl rfl (hd 43 rfl) ?_; refine jo_s 42 rfl rfl rfl (hd 44 rfl) ?_; refine jo_s 42 rfl rfl rfl (hd 45 rfl) ?_; refine jo_s 42 rfl rfl rfl (hd 46 rfl) ?_; refine jo_s 42 rfl rfl rfl (hd 47 rfl) ?_; refine jo_l (ly_pick_f rfl rfl) (hd 48 rfl) ?_; refine jo_l (ly_as rfl) (hd 8 rfl) ?_; refine jo_nil ?_; refine jc_seq ?_; refine jc_region ?_; refine jo_l (ly_fa fld30_1 rfl rfl rfl) (hd 50 rfl) ?_; refine jo_l (ly_ld one28 rfl rfl rfl) (hd 51 rfl) ?_; refine jo_l (ly_mv rfl) (hd 52 rfl) ?_
  refine jo_call Tryd.f67 (hRi) rfl Tryd.func67 rfl rfl (ovL_cons rfl (ovL_cons rfl ovL_nil)) (.cons .n (.cons .i .nil)) (hd 53 rfl) ?_ (fun ch hp => by simp at hp)
  rintro y hy; injection hy with hy; subst hy; refine jo_l (ly_mv rfl) (hd 49 rfl) ?_; refine jo_l (ly_ext rfl rfl) (hd 54 rfl) ?_; refine jo_l (ly_ext rfl rfl) (hd 55 rfl) ?_; refine jo_l (ly_as rfl) (hd 9 rfl) ?_; refine jo_l (ly_as rfl) (hd 10 rfl) ?_; refine jo_nil ?_; refine jc_seq ?_; refine jc_seq ?_; refine jc_region ?_; refine jo_l (ly_mv rfl) (hd 56 rfl) ?_; refine jo_l (ly_tt (ly_eq rfl rfl) rfl) (hd 57 rfl) ?_; refine jo_l (ly_mv rfl) (hd 58 rfl) ?_; refine jo_g 58 rfl rfl (ly_mv rfl) (hd 59 rfl) ?_; refine jo_l (ly_pick_t rfl rfl) (hd 60 rfl) ?_; refine jo_nil ?_; refine jc_litf rfl ?_; refine jc_skip ?_; refine jc_seq ?_; refine jc_region ?_; refine jo_l (ly_fa fld30_0 rfl rfl rfl) (hd 67 rfl) ?_; refine jo_l (ly_ff (ly_ld one4 rfl rfl rfl) (by omega)) (hd 68 rfl) ?_; refine jo_l (ly_mv rfl) (hd 69 rfl) ?_; refine jo_l (ly_mv rfl) (hd 70 rfl) ?_
  refine jo_call Tryd.f61 (hRe) rfl Tryd.func61 rfl rfl (ovL_cons rfl (ovL_cons rfl (ovL_cons rfl ovL_nil))) (.cons .b (.cons .n (.cons .i .nil))) (hd 71 rfl) ?_ (fun ch hp => by simp at hp)
  rintro y hy; injection hy with hy; subst hy; refine jo_l (ly_ext rfl rfl) (hd 72 rfl) ?_; refine jo_l (ly_ext rfl rfl) (hd 73 rfl) ?_; refine jo_st (sy_store rfl rfl rfl siz30 rfl rfl (Nat.le_of_ble_eq_true rfl)) ?_; refine jo_l (ly_as rfl) (hd 5 rfl) ?_; refine jo_nil ?_; refine jc_ret ?_
  refine ⟨_, _, (.cons (ResV.cell agg30 rfl rfl rfl rfl) (.cons rfl .nil)), (.t1 (.a1 .b (.a1 .nn .a0)) (.t1 .i .t0)), ?_⟩
  exact rfl

set_option maxHeartbeats 4000000 in
theorem Shift_n (sa : Bool) (a : List Int) (v : Int) (n : Nat) (la : a.length < 4294967296) (ua : u64s a) (ev : sv sa a = v) (hv : lenV v ≤ 67108860) (hn : n ≤ 1000) (h0 : v ≠ 0) (hs : v < 0) (hn1 : 0 < n) : SpecT Tryd.prog 30 0 tzCells [.a [.b sa, .n false .u64 a], .i .i64 (-(n : Int))] (fun o => o = .ret (.t [.a [.b (decide ((v / ((2 ^ n : Nat) : Int)) < 0)), .n false .u64 (lm (v / ((2 ^ n : Nat) : Int)))], .i .i64 0])) := by
  refine specT_of [(0, .a [.b sa, .n false .u64 a]), (1, .i .i64 (-(n : Int)))] rfl Tryd.func30 rfl (Nat.le_of_ble_eq_true rfl) fun Γ hTb hN hds hL hR => ?_
  have hd : ∀ d, Nat.blt d 74 = true → d < Γ.N := fun d h => by rw [hN]; exact Nat.le_of_ble_eq_true h
  have hlv := lenV_lm (v := v) (by omega)
  have hNo : Spec Tryd.prog 59 [.a [.b sa, .n false .u64 a]] (fun o => o = .ret (.a [.b (decide (v < 0)), .n true .u64 (lm v)])) := by have h := norm_s sa a (by omega); have e := raw_res ua ev; rw [e.1, e.2.1] at h; exact h
  have hal : lm ((v.natAbs : Nat) : Int) = lm v := by unfold lm; rw [Int.natAbs_natCast]
  have hav : lenV ((v.natAbs : Nat) : Int) = lenV v := by unfold lenV; rw [Int.natAbs_natCast]
  have hnz := List.length_pos_iff.2 (lm_ne (v := v) h0)
  have hRi := Right_all v n (by omega) h0 hn (fun h => Right_out v n (by omega) hn h)
  have hqa : (v.natAbs / 2 ^ n) ≤ v.natAbs := Nat.div_le_self _ _
  have hql : lenV (((v.natAbs / 2 ^ n) : Nat) : Int) ≤ lenV v := lenV_mono (by rw [Int.natAbs_natCast]; exact hqa)
  have hqL := lenV_lm (v := (((v.natAbs / 2 ^ n) : Nat) : Int)) (by omega)
  have hTl : SpecT Tryd.prog 45 0 tzCells [.n false .u64 (lm v)] (fun o => o = .ret (.i .i64 ((tz v.natAbs : Nat) : Int))) := by have h := nTail_s (lm v) (by omega) (lm_u _); rwa [lm_v, Int.toNat_natCast] at h
  have hF1 : Spec Tryd.prog 68 [.i .u64 1] (fun o => o = .ret (.n true .u64 [1])) := by have h := From_s 1; rwa [if_neg (by decide)] at h
  have hl1 : lenV 1 = 1 := by decide +kernel
  have hs1 := lenV_add (((v.natAbs / 2 ^ n) : Nat) : Int) 1
  have h0v := @lenV_0 v
  have hAd := Add1_v (((v.natAbs / 2 ^ n) : Nat) : Int) (Int.natCast_nonneg _) (by omega)
  refine jc_seq ?_; refine jc_region ?_; refine jo_h (hy_box (id := 0) (n := 2) rfl rfl rfl (by decide) rfl) (hd 2 rfl) ?_; refine jo_h (hy_alloc (id := 1) zero30 (by decide) rfl (by decide) rfl) (hd 4 rfl) ?_; refine jo_l (ly_as rfl) (hd 5 rfl) ?_; refine jo_nil ?_; refine jc_seq ?_; refine jc_region ?_; refine jo_l (ly_lda agg30 rfl rfl rfl rfl) (hd 11 rfl) ?_
  refine jo_call Tryd.f59 (hNo) rfl Tryd.func59 rfl rfl (ovL_cons rfl ovL_nil) (.cons (.a1 .b (.a1 .n .a0)) .nil) (hd 12 rfl) ?_ (fun ch hp => by simp at hp)
  rintro y hy; injection hy with hy; subst hy; refine jo_st (sy_store rfl rfl rfl siz30 rfl rfl (Nat.le_of_ble_eq_true rfl)) ?_; refine jo_nil ?_; refine jc_seq ?_; refine jc_seq ?_; refine jc_H (H' := [⟨27, 2, 0, true, [.b (decide (v < 0)), .n true .u64 (lm v)]⟩, ⟨27, 2, 0, true, [.b false, .c (.slice none 0 0)]⟩]) rfl ?_; refine jc_region ?_; refine jo_l (ly_fa fld30_1 rfl rfl rfl) (hd 13 rfl) ?_; refine jo_l (ly_ld one28 rfl rfl rfl) (hd 14 rfl) ?_; refine jo_l (ly_lenn sl28 rfl) (hd 15 rfl) ?_; refine jo_l (ly_ff (ly_eq rfl rfl) (by omega)) (hd 16 rfl) ?_; refine jo_nil ?_; refine jc_litf rfl ?_; refine jc_skip ?_; refine jc_seq ?_; refine jc_seq ?_; refine jc_region ?_; refine jo_l (ly_mv rfl) (hd 18 rfl) ?_; refine jo_l (ly_ff (ly_ge rfl rfl) (by omega)) (hd 19 rfl) ?_; refine jo_nil ?_; refine jc_litf rfl ?_; refine jc_skip ?_; refine jc_seq ?_; refine jc_region ?_; refine jo_l (ly_mv rfl) (hd 37 rfl) ?_; refine jo_l (ly_is (ly_max rfl rfl) (show V.i .i64 _ = V.i .i64 (-(n : Int)) by congr 1; omega)) (hd 38 rfl) ?_; refine jo_l (ly_neg rfl (r := (n : Int)) (by rw [wrap_i64 (by omega) (by omega)]; omega)) (hd 39 rfl) ?_; refine jo_l (ly_as rfl) (hd 1 rfl) ?_; refine jo_nil ?_; refine jc_seq ?_; refine jc_region ?_; refine jo_l (ly_fa fld30_0 rfl rfl rfl) (hd 40 rfl) ?_; refine jo_l (ly_tt (ly_ld one4 rfl rfl rfl) (by omega)) (hd 41 rfl) ?_; refine jo_l (ly_mv rfl) (hd 42 rfl) ?_; refine jo_g 42 rfl rfl (ly_fa fld30_1 rfl rfl rfl) (hd 43 rfl) ?_; refine jo_g 42 rfl rfl (ly_ld one28 rfl rfl rfl) (hd 44 rfl) ?_
  refine jo_callgT Tryd.f45 42 rfl rfl (hTl) hL hTb rfl Tryd.func45 rfl rfl (ovL_cons rfl ovL_nil) (.cons .n .nil) (hd 45 rfl) ?_ (fun ch hp => by simp at hp)
  rintro y hy; injection hy with hy; subst hy; refine jo_g 42 rfl rfl (ly_mv rfl) (hd 46 rfl) ?_; refine jo_g 42 rfl rfl (ly_lt rfl rfl) (hd 47 rfl) ?_; refine jo_l (ly_pick_t rfl rfl) (hd 48 rfl) ?_; refine jo_l (ly_as rfl) (hd 8 rfl) ?_; refine jo_nil ?_; refine jc_seq ?_; refine jc_region ?_; refine jo_l (ly_fa fld30_1 rfl rfl rfl) (hd 50 rfl) ?_; refine jo_l (ly_ld one28 rfl rfl rfl) (hd 51 rfl) ?_; refine jo_l (ly_mv rfl) (hd 52 rfl) ?_
  refine jo_call Tryd.f67 (hRi) rfl Tryd.func67 rfl rfl (ovL_cons rfl (ovL_cons rfl ovL_nil)) (.cons .n (.cons .i .nil)) (hd 53 rfl) ?_ (fun ch hp => by simp at hp)
  rintro y hy; injection hy with hy; subst hy; refine jo_l (ly_mv rfl) (hd 49 rfl) ?_; refine jo_l (ly_ext rfl rfl) (hd 54 rfl) ?_; refine jo_l (ly_ext rfl rfl) (hd 55 rfl) ?_; refine jo_l (ly_as rfl) (hd 9 rfl) ?_; refine jo_l (ly_as rfl) (hd 10 rfl) ?_; refine jo_nil ?_; refine jc_seq ?_; refine jc_seq ?_; refine jc_region ?_; refine jo_l (ly_mv rfl) (hd 56 rfl) ?_; refine jo_l (ly_tt (ly_eq rfl rfl) rfl) (hd 57 rfl) ?_; refine jo_l (ly_mv rfl) (hd 58 rfl) ?_; refine jo_g 58 rfl rfl (ly_mv rfl) (hd 59 rfl) ?_; refine jo_l (ly_pick_t rfl rfl) (hd 60 rfl) ?_; refine jo_nil ?_
  refine jc_if rfl (fun h3 => ?_) (fun h3 => ?_)
  · have hqv : (v / ((2 ^ n : Nat) : Int)) = -(((v.natAbs / 2 ^ n) + 1 : Nat) : Int) := shr_neg1 hs (by omega)
    have hc1 : lenV (((v.natAbs / 2 ^ n) + 1 : Nat) : Int) = lenV ((((v.natAbs / 2 ^ n) : Nat) : Int) + 1) := rfl
    have hRe : Spec Tryd.prog 61 [.b true, .n false .u64 (lm ((((v.natAbs / 2 ^ n) + 1) : Nat) : Int)), .i .i64 0] (fun o => o = .ret (.t [.a [.b (decide ((v / ((2 ^ n : Nat) : Int)) < 0)), .n true .u64 (lm (v / ((2 ^ n : Nat) : Int)))], .i .i64 0])) := by
      have h := result_ok true (lm ((((v.natAbs / 2 ^ n) + 1) : Nat) : Int)) (by have := lenV_lm (v := ((((v.natAbs / 2 ^ n) + 1) : Nat) : Int)) (by omega); omega) (lm_u _) (by rw [lenN_lm]; omega)
      have e := raw_res (s := true) (v := (v / ((2 ^ n : Nat) : Int))) (lm_u ((((v.natAbs / 2 ^ n) + 1) : Nat) : Int)) (by show -(vl (lm ((((v.natAbs / 2 ^ n) + 1) : Nat) : Int))) = _; rw [vl_lm (Int.natCast_nonneg _)]; omega)
      rw [e.1, e.2.1] at h
      exact h
    refine jc_region ?_; refine jo_l (ly_mv rfl) (hd 62 rfl) ?_
    refine jo_call Tryd.f68 (hF1) rfl Tryd.func68 rfl rfl (ovL_cons rfl ovL_nil) (.cons .i .nil) (hd 63 rfl) ?_ (fun ch hp => by simp at hp)
    rintro y hy; injection hy with hy; subst hy
    refine jo_call Tryd.f60 (hAd) rfl Tryd.func60 rfl rfl (ovL_cons rfl (ovL_cons rfl ovL_nil)) (.cons .n (.cons .n .nil)) (hd 64 rfl) ?_ (fun ch hp => by simp at hp)
    rintro y hy; injection hy with hy; subst hy; refine jo_l (ly_mv rfl) (hd 61 rfl) ?_; refine jo_l (ly_ext rfl rfl) (hd 65 rfl) ?_; refine jo_l (ly_ext rfl rfl) (hd 66 rfl) ?_; refine jo_l (ly_as rfl) (hd 9 rfl) ?_; refine jo_l (ly_as rfl) (hd 10 rfl) ?_; refine jo_nil ?_; refine jc_seq ?_; refine jc_region ?_; refine jo_l (ly_fa fld30_0 rfl rfl rfl) (hd 67 rfl) ?_; refine jo_l (ly_tt (ly_ld one4 rfl rfl rfl) (by omega)) (hd 68 rfl) ?_; refine jo_l (ly_mv rfl) (hd 69 rfl) ?_; refine jo_l (ly_mv rfl) (hd 70 rfl) ?_
    refine jo_call Tryd.f61 (hRe) rfl Tryd.func61 rfl rfl (ovL_cons rfl (ovL_cons rfl (ovL_cons rfl ovL_nil))) (.cons .b (.cons .n (.cons .i .nil))) (hd 71 rfl) ?_ (fun ch hp => by simp at hp)
    rintro y hy; injection hy with hy; subst hy; refine jo_l (ly_ext rfl rfl) (hd 72 rfl) ?_; refine jo_l (ly_ext rfl rfl) (hd 73 rfl) ?_; refine jo_st (sy_store rfl rfl rfl siz30 rfl rfl (Nat.le_of_ble_eq_true rfl)) ?_; refine jo_l (ly_as rfl) (hd 5 rfl) ?_; refine jo_nil ?_; refine jc_ret ?_
    refine ⟨_, _, (.cons (ResV.cell agg30 rfl rfl rfl rfl) (.cons rfl .nil)), (.t1 (.a1 .b (.a1 .nn .a0)) (.t1 .i .t0)), ?_⟩
    exact rfl
  · have hqv : (v / ((2 ^ n : Nat) : Int)) = -(((v.natAbs / 2 ^ n) : Nat) : Int) := shr_neg0 hs (by omega)
    have hRe : Spec Tryd.prog 61 [.b true, .n false .u64 (lm (((v.natAbs / 2 ^ n) : Nat) : Int)), .i .i64 0] (fun o => o = .ret (.t [.a [.b (decide ((v / ((2 ^ n : Nat) : Int)) < 0)), .n true .u64 (lm (v / ((2 ^ n : Nat) : Int)))], .i .i64 0])) := by
      have h := result_ok true (lm (((v.natAbs / 2 ^ n) : Nat) : Int)) (by have := lenV_lm (v := (((v.natAbs / 2 ^ n) : Nat) : Int)) (by omega); omega) (lm_u _) (by rw [lenN_lm]; omega)
      have e := raw_res (s := true) (v := (v / ((2 ^ n : Nat) : Int))) (lm_u (((v.natAbs / 2 ^ n) : Nat) : Int)) (by show -(vl (lm (((v.natAbs / 2 ^ n) : Nat) : Int))) = _; rw [vl_lm (Int.natCast_nonneg _)]; omega)
      rw [e.1, e.2.1] at h
      exact h
    refine jc_skip ?_; refine jc_seq ?_; refine jc_region ?_; refine jo_l (ly_fa fld30_0 rfl rfl rfl) (hd 67 rfl) ?_; refine jo_l (ly_tt (ly_ld one4 rfl rfl rfl) (by omega)) (hd 68 rfl) ?_; refine jo_l (ly_mv rfl) (hd 69 rfl) ?_; refine jo_l (ly_mv rfl) (hd 70 rfl) ?_
    refine jo_call Tryd.f61 (hRe) rfl Tryd.func61 rfl rfl (ovL_cons rfl (ovL_cons rfl (ovL_cons rfl ovL_nil))) (.cons .b (.cons .n (.cons .i .nil))) (hd 71 rfl) ?_ (fun ch hp => by simp at hp)
    rintro y hy; injection hy with hy; subst hy; refine jo_l (ly_ext rfl rfl) (hd 72 rfl) ?_; refine jo_l (ly_ext rfl rfl) (hd 73 rfl) ?_; refine jo_st (sy_store rfl rfl rfl siz30 rfl rfl (Nat.le_of_ble_eq_true rfl)) ?_; refine jo_l (ly_as rfl) (hd 5 rfl) ?_; refine jo_nil ?_; refine jc_ret ?_
    refine ⟨_, _, (.cons (ResV.cell agg30 rfl rfl rfl rfl) (.cons rfl .nil)), (.t1 (.a1 .b (.a1 .nn .a0)) (.t1 .i .t0)), ?_⟩
    exact rfl

theorem Shift_all (sa : Bool) (a : List Int) (v : Int) (n : Nat) (la : a.length < 4294967296) (ua : u64s a) (ev : sv sa a = v) (hv : lenV v ≤ 67108860) (hn : n ≤ 1000) : SpecT Tryd.prog 30 0 tzCells [.a [.b sa, .n false .u64 a], .i .i64 (-(n : Int))] (fun o => o = .ret (.t [.a [.b (decide ((v / ((2 ^ n : Nat) : Int)) < 0)), .n false .u64 (lm (v / ((2 ^ n : Nat) : Int)))], .i .i64 0])) := by
  by_cases h0 : v = 0
  · exact specT_of_spec (Shift_z sa a v n la ua ev hv hn h0)
  · rcases Nat.eq_zero_or_pos n with hn0 | hn1
    · subst hn0
      by_cases hs : v < 0
      · exact specT_of_spec (Shift_0n sa a v la ua ev hv h0 hs)
      · exact specT_of_spec (Shift_0p sa a v la ua ev hv h0 (by omega))
    · by_cases hs : v < 0
      · exact Shift_n sa a v n la ua ev hv hn h0 hs hn1
      · exact specT_of_spec (Shift_p sa a v n la ua ev hv hn h0 (by omega) hn1)
end Go.Proofs.YtaogaegchagbfaaDoor.Vc
