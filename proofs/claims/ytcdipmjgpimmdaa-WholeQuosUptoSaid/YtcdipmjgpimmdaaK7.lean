/- All five divisions of whole numbers answer as the document says, of every input of bulk at most 1048576 Texts joined: Yn. -/
import Derived.Test.YtcdipmjgpimmdaaK6
/- Contracts of whole.divide, Quo, Floor, Ceil, Near, Euclid: the answers are the caller's own. -/
set_option linter.unusedVariables false
set_option linter.unusedSimpArgs false
namespace Go.Proofs.Ytcdipmjgpimmdaa.Vc
open Go Go.RowKit
set_option maxHeartbeats 4000000 in
theorem divide_n0 (s t : Bool) (a b : List Int) (v w : Int) (la : a.length < 1099511627776) (lb : b.length < 1099511627776) (ua : u64s a) (ub : u64s b) (ev : sv s a = v) (ew : sv t b = w) (hv : lenV v ≤ 67108864) (hw : lenV w ≤ 67108864) (h0 : w ≠ 0) : SpecM Try.prog 62 [.a [.b s, .n false .u64 a], .a [.b t, .n false .u64 b], .i .i64 0] [] (fun o G => o = .ret (.t [.a [.b (decide ((wq 0 v w) < 0)), .o 0 0 0 (lm (wq 0 v w)).length], .a [.b (decide ((v - wq 0 v w * w) < 0)), .o 1 0 0 (lm (v - wq 0 v w * w)).length], .i .i64 0]) ∧ G = [⟨82, 1, 0, true, ints .u64 (lm (wq 0 v w))⟩, ⟨82, 1, 0, true, ints .u64 (lm (v - wq 0 v w * w))⟩]) := by
  refine specS_of [(0, .a [.b s, .n false .u64 a]), (1, .a [.b t, .n false .u64 b]), (2, .i .i64 0)] rfl Try.func62 rfl (Nat.le_of_ble_eq_true rfl) fun Γ hN hds hL hR => ?_
  have hd : ∀ d, Nat.blt d 103 = true → d < Γ.N := fun d h => by rw [hN]; exact Nat.le_of_ble_eq_true h
  have hlv := lenV_lm hv
  have hlw := lenV_lm hw
  obtain ⟨hx, hr0, hr1, hq0⟩ := qr_facts (v := v) h0
  have hle := lenV_mono (v := qn v w) (w := v) qn_le
  have hlr := lenV_mono (v := rn v w) (w := w) (rn_le h0).1
  have hlR := lenV_lm (v := rn v w) (by omega)
  have habs : lm (w.natAbs : Int) = lm w := by unfold lm; rw [Int.natAbs_natCast]
  have hlenw : lenV (w.natAbs : Int) = lenV w := by unfold lenV; rw [Int.natAbs_natCast]
  have hS := Sub_v (w.natAbs : Int) (rn v w) hr0 (by omega) (by omega)
  rw [habs] at hS
  have hwl := wq_len (k := 0) (v := v) h0
  refine jc_seq ?_
  refine jc_region ?_
  refine jo_h (hy_box (id := 0) (n := 2) rfl rfl rfl (by decide) rfl) (hd 3 rfl) ?_
  refine jo_h (hy_box (id := 1) (n := 2) rfl rfl rfl (by decide) rfl) (hd 4 rfl) ?_
  refine jo_h (hy_alloc (id := 2) zero30 (by decide) rfl (by decide) rfl) (hd 6 rfl) ?_
  refine jo_h (hy_alloc (id := 3) zero30 (by decide) rfl (by decide) rfl) (hd 7 rfl) ?_
  refine jo_l (ly_as rfl) (hd 8 rfl) ?_
  refine jo_nil ?_
  refine jc_seq ?_
  refine jc_draw (n := 6) _ rfl mixed ?_
  refine ja_l2 0 [1, 3, 4, 5] (lo_l (ly_lda agg30 rfl rfl rfl rfl) (hd 16 rfl)) rfl (by kernel_rfl) (by kernel_rfl) (by kernel_rfl) (by kernel_rfl) (fun _ _ _ _ h => h) ?_
  refine ja_l2 2 [3, 4, 5] (lo_l (ly_lda agg30 rfl rfl rfl rfl) (hd 18 rfl)) rfl (by kernel_rfl) (by kernel_rfl) (by kernel_rfl) (by kernel_rfl) (fun _ _ _ _ h => h) ?_
  refine ja_1 1 ?_ rfl (by kernel_rfl)
  refine js_call Try.f73 (norm_v s a v la ua ev) rfl Try.func73 rfl rfl (ovL_cons rfl ovL_nil) (.cons (.a1 .b (.a1 .n .a0)) .nil) (hd 17 rfl) ?_ (fun ch hp => by simp at hp)
  rintro y hy; injection hy with hy; subst hy
  refine ja_1 3 ?_ rfl (by kernel_rfl)
  refine js_call Try.f73 (norm_v t b w lb ub ew) rfl Try.func73 rfl rfl (ovL_cons rfl ovL_nil) (.cons (.a1 .b (.a1 .n .a0)) .nil) (hd 19 rfl) ?_ (fun ch hp => by simp at hp)
  rintro y hy; injection hy with hy; subst hy
  refine ja_1 4 ?_ rfl (by kernel_rfl)
  refine js_st (sy_store rfl rfl rfl siz30 rfl rfl (Nat.le_of_ble_eq_true rfl)) rfl ?_
  refine ja_1 5 ?_ rfl (by kernel_rfl)
  refine js_st (sy_store rfl rfl rfl siz30 rfl rfl (Nat.le_of_ble_eq_true rfl)) rfl ?_
  refine ja_nil (by kernel_rfl) ?_
  refine jc_seq ?_
  refine jc_region ?_
  refine jo_l (ly_fa fld30_1 rfl rfl rfl) (hd 21 rfl) ?_
  refine jo_l (ly_ld one28 rfl rfl rfl) (hd 22 rfl) ?_
  refine jo_l (ly_fa fld30_1 rfl rfl rfl) (hd 23 rfl) ?_
  refine jo_l (ly_ld one28 rfl rfl rfl) (hd 24 rfl) ?_
  refine jo_call Try.f81 (Both_v v w hv hw h0) rfl Try.func81 rfl rfl (ovL_cons rfl (ovL_cons rfl ovL_nil)) (.cons .n (.cons .n .nil)) (hd 25 rfl) ?_ (fun ch hp => by simp at hp)
  rintro y hy; injection hy with hy; subst hy
  refine jo_l (ly_mv rfl) (hd 20 rfl) ?_
  refine jo_l (ly_ext rfl rfl) (hd 26 rfl) ?_
  refine jo_l (ly_ext rfl rfl) (hd 27 rfl) ?_
  refine jo_l (ly_ext rfl rfl) (hd 28 rfl) ?_
  refine jo_l (ly_as rfl) (hd 9 rfl) ?_
  refine jo_l (ly_as rfl) (hd 10 rfl) ?_
  refine jo_l (ly_as rfl) (hd 11 rfl) ?_
  refine jo_nil ?_
  refine jc_seq ?_
  refine jc_seq ?_
  refine jc_region ?_
  refine jo_l (ly_mv rfl) (hd 29 rfl) ?_
  refine jo_l (ly_ff (ly_ne rfl rfl) (by simp)) (hd 30 rfl) ?_
  refine jo_nil ?_
  refine jc_litf rfl ?_
  refine jc_skip ?_
  refine jc_seq ?_
  refine jc_draw (n := 9) _ rfl mixed ?_
  refine ja_l2 0 [1, 4, 7, 8] (lo_l (ly_fa fld30_0 rfl rfl rfl) (hd 34 rfl)) rfl (by kernel_rfl) (by kernel_rfl) (by kernel_rfl) (by kernel_rfl) (fun _ _ _ _ h => h) ?_
  refine ja_l 1 (lo_l (ly_ld one4 rfl rfl rfl) (hd 35 rfl)) rfl (by kernel_rfl) (by kernel_rfl) (by kernel_rfl) (fun _ _ _ _ h => h) ?_
  refine ja_l2 2 [3, 4, 7, 8] (lo_l (ly_fa fld30_0 rfl rfl rfl) (hd 36 rfl)) rfl (by kernel_rfl) (by kernel_rfl) (by kernel_rfl) (by kernel_rfl) (fun _ _ _ _ h => h) ?_
  refine ja_l 3 (lo_l (ly_ld one4 rfl rfl rfl) (hd 37 rfl)) rfl (by kernel_rfl) (by kernel_rfl) (by kernel_rfl) (fun _ _ _ _ h => h) ?_
  refine ja_l 4 (lo_l (ly_is (ly_neb und4 rfl rfl) (show V.b _ = V.b (ng v w) from rfl)) (hd 38 rfl)) rfl (by kernel_rfl) (by kernel_rfl) (by kernel_rfl) (fun _ _ _ _ h => h) ?_
  refine ja_l 5 (lo_l (ly_fa fld30_0 rfl rfl rfl) (hd 39 rfl)) rfl (by kernel_rfl) (by kernel_rfl) (by kernel_rfl) (fun _ _ _ _ h => h) ?_
  refine ja_l 6 (lo_l (ly_ld one4 rfl rfl rfl) (hd 40 rfl)) rfl (by kernel_rfl) (by kernel_rfl) (by kernel_rfl) (fun _ _ _ _ h => h) ?_
  refine ja_l 7 (lo_l (ly_as rfl) (hd 12 rfl)) rfl (by kernel_rfl) (by kernel_rfl) (by kernel_rfl) (fun _ _ _ _ h => h) ?_
  refine ja_l 8 (lo_l (ly_as rfl) (hd 13 rfl)) rfl (by kernel_rfl) (by kernel_rfl) (by kernel_rfl) (fun _ _ _ _ h => h) ?_
  refine ja_nil (by kernel_rfl) ?_
  refine jc_meetH (G := Int × Int × Bool) (fun g => sgd (ng v w) g.1 = (wq 0 v w) ∧ sgd g.2.2 g.2.1 = (v - wq 0 v w * w) ∧ 0 ≤ g.1 ∧ 0 ≤ g.2.1) (fun g => [(9, .n false .u64 (lm g.1)), (10, .n false .u64 (lm g.2.1)), (13, .b g.2.2), (8, .u), (11, .u), (41, .u), (42, .u), (43, .u), (44, .u), (45, .u), (46, .u), (47, .u), (48, .u), (49, .u), (50, .u), (51, .u), (52, .u), (53, .u), (54, .u), (55, .u), (56, .u), (57, .u), (58, .u), (59, .u), (60, .u), (61, .u), (62, .u), (63, .u), (64, .u), (65, .u), (66, .u), (67, .u), (68, .u), (69, .u), (70, .u), (71, .u), (72, .u), (73, .u), (74, .u), (75, .u), (76, .u), (77, .u), (78, .u)]) ?_ ?_
  · refine jc_seq ?_
    refine jc_draw (n := 18) _ rfl mixed ?_
    refine ja_l2 0 [1, 2, 3, 4, 5, 6, 7, 8, 9, 10, 11, 12, 13, 14, 15, 16, 17] (lo_l (ly_mv rfl) (hd 41 rfl)) rfl (by kernel_rfl) (by kernel_rfl) (by kernel_rfl) (by kernel_rfl) (fun _ _ _ _ h => h) ?_
    refine ja_1 1 ?_ rfl (by kernel_rfl)
    refine js_call Try.f66 (Length_v (rn v w) (by omega)) rfl Try.func66 rfl rfl (ovL_cons rfl ovL_nil) (.cons .n .nil) (hd 42 rfl) ?_ (fun ch hp => by simp at hp)
    rintro y hy; injection hy with hy; subst hy
    refine ja_l2 2 [3, 4, 5, 6, 7, 8, 9, 10, 11, 12, 13, 14, 15, 16, 17] (lo_l (ly_gt rfl rfl) (hd 43 rfl)) rfl (by kernel_rfl) (by kernel_rfl) (by kernel_rfl) (by kernel_rfl) (fun _ _ _ _ h => h) ?_
    refine ja_l 3 (lo_l (ly_mv rfl) (hd 44 rfl)) rfl (by kernel_rfl) (by kernel_rfl) (by kernel_rfl) (fun _ _ _ _ h => h) ?_
    refine ja_ifp 44 rfl (fun h2 => ?_) (fun h2 => ?_)
    · have hrn : rn v w ≠ 0 := fun e => by have := lenV_0.2 e; omega
      refine ja_l2 5 [6, 16, 17] (lo_g 44 rfl rfl (ly_mv rfl) (hd 46 rfl)) rfl (by kernel_rfl) (by kernel_rfl) (by kernel_rfl) (by kernel_rfl) (fun _ _ _ _ h => h) ?_
      refine ja_l2 7 [16, 17] (lo_g 44 rfl rfl (ly_mv rfl) (hd 48 rfl)) rfl (by kernel_rfl) (by kernel_rfl) (by kernel_rfl) (by kernel_rfl) (fun _ _ _ _ h => h) ?_
      refine ja_l2 8 [16, 17] (lo_g 44 rfl rfl (ly_mv rfl) (hd 49 rfl)) rfl (by kernel_rfl) (by kernel_rfl) (by kernel_rfl) (by kernel_rfl) (fun _ _ _ _ h => h) ?_
      refine ja_l2 9 [10, 16, 17] (lo_g 44 rfl rfl (ly_fa fld30_1 rfl rfl rfl) (hd 50 rfl)) rfl (by kernel_rfl) (by kernel_rfl) (by kernel_rfl) (by kernel_rfl) (fun _ _ _ _ h => h) ?_
      refine ja_l2 10 [16, 17] (lo_g 44 rfl rfl (ly_ld one28 rfl rfl rfl) (hd 51 rfl)) rfl (by kernel_rfl) (by kernel_rfl) (by kernel_rfl) (by kernel_rfl) (fun _ _ _ _ h => h) ?_
      refine ja_l2 11 [16, 17] (lo_g 44 rfl rfl (ly_mv rfl) (hd 52 rfl)) rfl (by kernel_rfl) (by kernel_rfl) (by kernel_rfl) (by kernel_rfl) (fun _ _ _ _ h => h) ?_
      refine ja_l2 12 [13, 16, 17] (lo_g 44 rfl rfl (ly_fa fld30_0 rfl rfl rfl) (hd 53 rfl)) rfl (by kernel_rfl) (by kernel_rfl) (by kernel_rfl) (by kernel_rfl) (fun _ _ _ _ h => h) ?_
      refine ja_l2 13 [16, 17] (lo_g 44 rfl rfl (ly_ld one4 rfl rfl rfl) (hd 54 rfl)) rfl (by kernel_rfl) (by kernel_rfl) (by kernel_rfl) (by kernel_rfl) (fun _ _ _ _ h => h) ?_
      refine ja_l2 14 [15, 16, 17] (lo_g 44 rfl rfl (ly_fa fld30_0 rfl rfl rfl) (hd 55 rfl)) rfl (by kernel_rfl) (by kernel_rfl) (by kernel_rfl) (by kernel_rfl) (fun _ _ _ _ h => h) ?_
      refine ja_l2 15 [16, 17] (lo_g 44 rfl rfl (ly_ld one4 rfl rfl rfl) (hd 56 rfl)) rfl (by kernel_rfl) (by kernel_rfl) (by kernel_rfl) (by kernel_rfl) (fun _ _ _ _ h => h) ?_
      refine ja_1 4 ?_ rfl (by kernel_rfl)
      refine js_callg Try.f82 44 rfl rfl (ways_s) rfl Try.func82 rfl rfl ovL_nil .nil (hd 45 rfl) ?_ (fun ch hp => by simp at hp)
      rintro y hy; injection hy with hy; subst hy
      refine ja_l2 6 [16, 17] (lo_g 44 rfl rfl (ly_ixa (i := 0) undA102 one101 rfl rfl rfl (by decide) rfl) (hd 47 rfl)) rfl (by kernel_rfl) (by kernel_rfl) (by kernel_rfl) (by kernel_rfl) (fun _ _ _ _ h => h) ?_
      refine ja_1 16 ?_ rfl (by kernel_rfl)
      refine js_callg Try.f94 44 rfl rfl (way0_v v w) rfl Try.func94 rfl rfl (ovL_cons rfl (ovL_cons rfl (ovL_cons rfl (ovL_cons rfl (ovL_cons rfl (ovL_cons rfl ovL_nil)))))) (.cons .n (.cons .n (.cons .n (.cons .b (.cons .b (.cons .b .nil)))))) (hd 57 rfl) ?_ (fun ch hp => by simp at hp)
      rintro y hy; injection hy with hy; subst hy
      refine ja_l 17 (lo_l (ly_pick_t rfl rfl) (hd 58 rfl)) rfl (by kernel_rfl) (by kernel_rfl) (by kernel_rfl) (fun _ _ _ _ h => h) ?_
      refine ja_nil (by kernel_rfl) ?_
      refine jc_cond rfl (fun h3 => ?_) (fun h3 => ?_)
      · have hg : gro 0 v w = true := h3
        refine jc_seq ?_
        refine jc_seq ?_
        refine jc_region ?_
        refine jo_l (ly_mv rfl) (hd 60 rfl) ?_
        refine jo_call Try.f70 (From1_v) rfl Try.func70 rfl rfl (ovL_cons rfl ovL_nil) (.cons .i .nil) (hd 61 rfl) ?_ (fun ch hp => by simp at hp)
        rintro y hy; injection hy with hy; subst hy
        refine jo_call Try.f74 (Add1_v (qn v w) hq0 (by have := lenV_mono (qn1_le h0 hrn); omega)) rfl Try.func74 rfl rfl (ovL_cons rfl (ovL_cons rfl ovL_nil)) (.cons .n (.cons .n .nil)) (hd 62 rfl) ?_ (fun ch hp => by simp at hp)
        rintro y hy; injection hy with hy; subst hy
        refine jo_l (ly_mv rfl) (hd 59 rfl) ?_
        refine jo_l (ly_ext rfl rfl) (hd 63 rfl) ?_
        refine jo_l (ly_ext rfl rfl) (hd 64 rfl) ?_
        refine jo_l (ly_as rfl) (hd 9 rfl) ?_
        refine jo_l (ly_as rfl) (hd 11 rfl) ?_
        refine jo_nil ?_
        refine jc_seq ?_
        refine jc_region ?_
        refine jo_l (ly_mv rfl) (hd 65 rfl) ?_
        refine jo_l (ly_ff (ly_ne rfl rfl) (by simp)) (hd 66 rfl) ?_
        refine jo_nil ?_
        refine jc_litf rfl ?_
        refine jc_skip ?_
        refine jc_seq ?_
        refine jc_region ?_
        refine jo_l (ly_fa fld30_1 rfl rfl rfl) (hd 71 rfl) ?_
        refine jo_l (ly_ld one28 rfl rfl rfl) (hd 72 rfl) ?_
        refine jo_l (ly_mv rfl) (hd 73 rfl) ?_
        refine jo_call Try.f76 (hS) rfl Try.func76 rfl rfl (ovL_cons rfl (ovL_cons rfl ovL_nil)) (.cons .n (.cons .n .nil)) (hd 74 rfl) ?_ (fun ch hp => by simp at hp)
        rintro y hy; injection hy with hy; subst hy
        refine jo_l (ly_mv rfl) (hd 70 rfl) ?_
        refine jo_l (ly_ext rfl rfl) (hd 75 rfl) ?_
        refine jo_l (ly_ext rfl rfl) (hd 76 rfl) ?_
        refine jo_l (ly_as rfl) (hd 10 rfl) ?_
        refine jo_nil ?_
        refine jc_region ?_
        refine jo_l (ly_mv rfl) (hd 77 rfl) ?_
        refine jo_l (ly_not rfl) (hd 78 rfl) ?_
        refine jo_l (ly_as rfl) (hd 13 rfl) ?_
        refine jo_nil ?_
        refine ⟨(qn v w + 1, (w.natAbs : Int) - rn v w, !decide (v < 0)), ?_, rfl, cov_n 40 rfl rfl ?_⟩
        · have hy := way_yes (k := 0) h0 hrn hg
          exact ⟨hy.1, hy.2, by show 0 ≤ qn v w + 1; omega, by show 0 ≤ (w.natAbs : Int) - rn v w; omega⟩
        · exact (.cons rfl (.cons rfl (.cons rfl (.u (.u (.u (.u (.u (.u (.u (.u (.u (.u (.u (.u (.u (.u (.u (.u (.u (.u (.u (.u (.u (.u (.u (.u (.u (.u (.u (.u (.u (.u (.u (.u (.u (.u (.u (.u (.u (.u (.u (.u .nil)))))))))))))))))))))))))))))))))))))))))))
      · have hg : gro 0 v w = false := h3
        refine jc_skip ?_
        refine ⟨(qn v w, rn v w, decide (v < 0)), ?_, rfl, cov_n 19 rfl rfl ?_⟩
        · have hy := way_no (k := 0) h0 (by first | exact .inl hrn | exact .inr hg)
          exact ⟨hy.1, hy.2, hq0, hr0⟩
        · exact (.cons rfl (.cons rfl (.cons rfl (.u (.u (.u (.u (.u (.u (.u (.u (.u (.u (.u (.u (.u (.u (.u (.u (.u (.u (.u (.u (.u (.u (.u (.u (.u (.u (.u (.u (.u (.u (.u (.u (.u (.u (.u (.u (.u (.u (.u (.u .nil)))))))))))))))))))))))))))))))))))))))))))
    · have hrn : rn v w = 0 := lenV_0.1 (by omega)
      refine ja_l2 5 [6, 16, 17] (lo_s 44 rfl rfl rfl (hd 46 rfl)) rfl (by kernel_rfl) (by kernel_rfl) (by kernel_rfl) (by kernel_rfl) (fun _ _ _ _ h => h) ?_
      refine ja_l2 7 [16, 17] (lo_s 44 rfl rfl rfl (hd 48 rfl)) rfl (by kernel_rfl) (by kernel_rfl) (by kernel_rfl) (by kernel_rfl) (fun _ _ _ _ h => h) ?_
      refine ja_l2 8 [16, 17] (lo_s 44 rfl rfl rfl (hd 49 rfl)) rfl (by kernel_rfl) (by kernel_rfl) (by kernel_rfl) (by kernel_rfl) (fun _ _ _ _ h => h) ?_
      refine ja_l2 9 [10, 16, 17] (lo_s 44 rfl rfl rfl (hd 50 rfl)) rfl (by kernel_rfl) (by kernel_rfl) (by kernel_rfl) (by kernel_rfl) (fun _ _ _ _ h => h) ?_
      refine ja_l2 10 [16, 17] (lo_s 44 rfl rfl rfl (hd 51 rfl)) rfl (by kernel_rfl) (by kernel_rfl) (by kernel_rfl) (by kernel_rfl) (fun _ _ _ _ h => h) ?_
      refine ja_l2 11 [16, 17] (lo_s 44 rfl rfl rfl (hd 52 rfl)) rfl (by kernel_rfl) (by kernel_rfl) (by kernel_rfl) (by kernel_rfl) (fun _ _ _ _ h => h) ?_
      refine ja_l2 12 [13, 16, 17] (lo_s 44 rfl rfl rfl (hd 53 rfl)) rfl (by kernel_rfl) (by kernel_rfl) (by kernel_rfl) (by kernel_rfl) (fun _ _ _ _ h => h) ?_
      refine ja_l2 13 [16, 17] (lo_s 44 rfl rfl rfl (hd 54 rfl)) rfl (by kernel_rfl) (by kernel_rfl) (by kernel_rfl) (by kernel_rfl) (fun _ _ _ _ h => h) ?_
      refine ja_l2 14 [15, 16, 17] (lo_s 44 rfl rfl rfl (hd 55 rfl)) rfl (by kernel_rfl) (by kernel_rfl) (by kernel_rfl) (by kernel_rfl) (fun _ _ _ _ h => h) ?_
      refine ja_l2 15 [16, 17] (lo_s 44 rfl rfl rfl (hd 56 rfl)) rfl (by kernel_rfl) (by kernel_rfl) (by kernel_rfl) (by kernel_rfl) (fun _ _ _ _ h => h) ?_
      refine ja_l2 4 [6, 16, 17] (lo_s 44 rfl rfl rfl (hd 45 rfl)) rfl (by kernel_rfl) (by kernel_rfl) (by kernel_rfl) (by kernel_rfl) (fun _ _ _ _ h => h) ?_
      refine ja_l2 6 [16, 17] (lo_s 44 rfl rfl rfl (hd 47 rfl)) rfl (by kernel_rfl) (by kernel_rfl) (by kernel_rfl) (by kernel_rfl) (fun _ _ _ _ h => h) ?_
      refine ja_l 16 (lo_s 44 rfl rfl rfl (hd 57 rfl)) rfl (by kernel_rfl) (by kernel_rfl) (by kernel_rfl) (fun _ _ _ _ h => h) ?_
      refine ja_l 17 (lo_l (ly_pick_f rfl rfl) (hd 58 rfl)) rfl (by kernel_rfl) (by kernel_rfl) (by kernel_rfl) (fun _ _ _ _ h => h) ?_
      refine ja_nil (by kernel_rfl) ?_
      refine jc_litf rfl ?_
      refine jc_skip ?_
      refine ⟨(qn v w, rn v w, decide (v < 0)), ?_, rfl, cov_n 19 rfl rfl ?_⟩
      · have hy := way_no (k := 0) h0 (by first | exact .inl hrn | exact .inr hg)
        exact ⟨hy.1, hy.2, hq0, hr0⟩
      · exact (.cons rfl (.cons rfl (.cons rfl (.u (.u (.u (.u (.u (.u (.u (.u (.u (.u (.u (.u (.u (.u (.u (.u (.u (.u (.u (.u (.u (.u (.u (.u (.u (.u (.u (.u (.u (.u (.u (.u (.u (.u (.u (.u (.u (.u (.u (.u .nil)))))))))))))))))))))))))))))))))))))))))))
  · rintro ⟨q, r, rs⟩ ⟨hc1, hc2, hc3, hc4⟩
    dsimp only at hc1 hc2 hc3 hc4
    have hq1 : lenV q ≤ 67108864 := by have := lenV_mono (v := q) (w := (wq 0 v w)) (by rw [← hc1, sgd_abs]; exact Nat.le_refl _); omega
    have hr2 : lenV r ≤ 67108864 := by have := lenV_mono (v := r) (w := (v - wq 0 v w * w)) (by rw [← hc2, sgd_abs]; exact Nat.le_refl _); omega
    have hql := lenV_lm hq1
    have hrl := lenV_lm hr2
    refine jc_seq ?_
    refine jc_region ?_
    refine jo_l (ly_mv rfl) (hd 80 rfl) ?_
    refine jo_l (ly_mv rfl) (hd 81 rfl) ?_
    refine jo_callN Try.f75 (result_nv (ng v w) (lm q) (wq 0 v w) (by omega) (lm_u q) (by rw [sv_sgd hc3]; exact hc1) (by omega)) (fun o G ⟨_, h⟩ => h ▸ idless_cons ints_id idless_nil) rfl Try.func75 rfl rfl (ovL_cons rfl (ovL_cons rfl (ovL_cons rfl ovL_nil))) (.cons .b (.cons .n (.cons .i .nil))) (hd 82 rfl) ?_ (fun ch G hp => by simp at hp)
    rintro y G ⟨hy, rfl⟩
    injection hy with hy
    subst hy
    show JO _ _ _ _ ((82, .t [.a [.b (decide ((wq 0 v w) < 0)), .o 4 0 0 (lm (wq 0 v w)).length], .i .i64 0]) :: _) _ _
    refine jo_l (ly_mv rfl) (hd 79 rfl) ?_
    refine jo_l (ly_ext rfl rfl) (hd 83 rfl) ?_
    refine jo_l (ly_ext rfl rfl) (hd 84 rfl) ?_
    refine jo_h (hy_alloc (id := 5) zero30 (by decide) rfl (by decide) rfl) (hd 14 rfl) ?_
    refine jo_st (sy_store rfl rfl rfl siz30 rfl rfl (Nat.le_of_ble_eq_true rfl)) ?_
    refine jo_l (ly_as rfl) (hd 11 rfl) ?_
    refine jo_nil ?_
    refine jc_seq ?_
    refine jc_seq ?_
    refine jc_region ?_
    refine jo_l (ly_mv rfl) (hd 85 rfl) ?_
    refine jo_l (ly_ff (ly_ne rfl rfl) (by simp)) (hd 86 rfl) ?_
    refine jo_nil ?_
    refine jc_litf rfl ?_
    refine jc_skip ?_
    refine jc_seq ?_
    refine jc_region ?_
    refine jo_l (ly_mv rfl) (hd 91 rfl) ?_
    refine jo_l (ly_mv rfl) (hd 92 rfl) ?_
    refine jo_callN Try.f75 (result_nv rs (lm r) (v - wq 0 v w * w) (by omega) (lm_u r) (by rw [sv_sgd hc4]; exact hc2) (by omega)) (fun o G ⟨_, h⟩ => h ▸ idless_cons ints_id idless_nil) rfl Try.func75 rfl rfl (ovL_cons rfl (ovL_cons rfl (ovL_cons rfl ovL_nil))) (.cons .b (.cons .n (.cons .i .nil))) (hd 93 rfl) ?_ (fun ch G hp => by simp at hp)
    rintro y G ⟨hy, rfl⟩
    injection hy with hy
    subst hy
    show JO _ _ _ _ ((93, .t [.a [.b (decide ((v - wq 0 v w * w) < 0)), .o 6 0 0 (lm (v - wq 0 v w * w)).length], .i .i64 0]) :: _) _ _
    refine jo_l (ly_mv rfl) (hd 90 rfl) ?_
    refine jo_l (ly_ext rfl rfl) (hd 94 rfl) ?_
    refine jo_l (ly_ext rfl rfl) (hd 95 rfl) ?_
    refine jo_h (hy_alloc (id := 7) zero30 (by decide) rfl (by decide) rfl) (hd 15 rfl) ?_
    refine jo_st (sy_store rfl rfl rfl siz30 rfl rfl (Nat.le_of_ble_eq_true rfl)) ?_
    refine jo_l (ly_as rfl) (hd 11 rfl) ?_
    refine jo_nil ?_
    refine jc_seq ?_
    refine jc_seq ?_
    refine jc_region ?_
    refine jo_l (ly_mv rfl) (hd 96 rfl) ?_
    refine jo_l (ly_ff (ly_ne rfl rfl) (by simp)) (hd 97 rfl) ?_
    refine jo_nil ?_
    refine jc_litf rfl ?_
    refine jc_skip ?_
    refine jc_seq ?_
    refine jc_draw (n := 5) _ rfl mixed ?_
    refine ja_l 0 (lo_l (ly_lda agg30 rfl rfl rfl rfl) (hd 101 rfl)) rfl (by kernel_rfl) (by kernel_rfl) (by kernel_rfl) (fun _ _ _ _ h => h) ?_
    refine ja_2 1 2 ?_ ?_ rfl rfl (by kernel_rfl)
    · refine js_l (ly_lda agg30 rfl rfl rfl rfl) (hd 102 rfl) ?_
      refine ja_1 2 ?_ rfl (by kernel_rfl)
      refine js_st (sy_store rfl rfl rfl siz30 rfl rfl (Nat.le_of_ble_eq_true rfl)) rfl ?_
      refine ja_1 3 ?_ rfl (by kernel_rfl)
      refine js_st (sy_store rfl rfl rfl siz30 rfl rfl (Nat.le_of_ble_eq_true rfl)) rfl ?_
      refine ja_l 4 (lo_l (ly_as rfl) (hd 8 rfl)) rfl (by kernel_rfl) (by kernel_rfl) (by kernel_rfl) (fun _ _ _ _ h => h) ?_
      refine ja_nil (by kernel_rfl) ?_
      refine jc_ret ?_
      refine ⟨[4, 6], _, (.t [.a [.b (decide ((wq 0 v w) < 0)), .o 0 0 0 (lm (wq 0 v w)).length], .a [.b (decide ((v - wq 0 v w * w) < 0)), .o 1 0 0 (lm (v - wq 0 v w * w)).length], .i .i64 0]), (.cons (ResV.cell agg30 rfl rfl rfl rfl) (.cons (ResV.cell agg30 rfl rfl rfl rfl) (.cons rfl .nil))), rfl, rfl, (by decide), (by first | exact idless_cons ints_id (idless_cons ints_id idless_nil) | exact idless_cons rfl (idless_cons rfl idless_nil)), ?_⟩
      exact ⟨rfl, rfl⟩
    · refine js_st (sy_store rfl rfl rfl siz30 rfl rfl (Nat.le_of_ble_eq_true rfl)) rfl ?_
      refine ja_l 1 (lo_l (ly_lda agg30 rfl rfl rfl rfl) (hd 102 rfl)) rfl (by kernel_rfl) (by kernel_rfl) (by kernel_rfl) (fun _ _ _ _ h => h) ?_
      refine ja_1 3 ?_ rfl (by kernel_rfl)
      refine js_st (sy_store rfl rfl rfl siz30 rfl rfl (Nat.le_of_ble_eq_true rfl)) rfl ?_
      refine ja_l 4 (lo_l (ly_as rfl) (hd 8 rfl)) rfl (by kernel_rfl) (by kernel_rfl) (by kernel_rfl) (fun _ _ _ _ h => h) ?_
      refine ja_nil (by kernel_rfl) ?_
      refine jc_ret ?_
      refine ⟨[4, 6], _, (.t [.a [.b (decide ((wq 0 v w) < 0)), .o 0 0 0 (lm (wq 0 v w)).length], .a [.b (decide ((v - wq 0 v w * w) < 0)), .o 1 0 0 (lm (v - wq 0 v w * w)).length], .i .i64 0]), (.cons (ResV.cell agg30 rfl rfl rfl rfl) (.cons (ResV.cell agg30 rfl rfl rfl rfl) (.cons rfl .nil))), rfl, rfl, (by decide), (by first | exact idless_cons ints_id (idless_cons ints_id idless_nil) | exact idless_cons rfl (idless_cons rfl idless_nil)), ?_⟩
      exact ⟨rfl, rfl⟩

set_option maxHeartbeats 4000000 in
theorem divide_n1 (s t : Bool) (a b : List Int) (v w : Int) (la : a.length < 1099511627776) (lb : b.length < 1099511627776) (ua : u64s a) (ub : u64s b) (ev : sv s a = v) (ew : sv t b = w) (hv : lenV v ≤ 67108864) (hw : lenV w ≤ 67108864) (h0 : w ≠ 0) : SpecM Try.prog 62 [.a [.b s, .n false .u64 a], .a [.b t, .n false .u64 b], .i .i64 1] [] (fun o G => o = .ret (.t [.a [.b (decide ((wq 1 v w) < 0)), .o 0 0 0 (lm (wq 1 v w)).length], .a [.b (decide ((v - wq 1 v w * w) < 0)), .o 1 0 0 (lm (v - wq 1 v w * w)).length], .i .i64 0]) ∧ G = [⟨82, 1, 0, true, ints .u64 (lm (wq 1 v w))⟩, ⟨82, 1, 0, true, ints .u64 (lm (v - wq 1 v w * w))⟩]) := by
  refine specS_of [(0, .a [.b s, .n false .u64 a]), (1, .a [.b t, .n false .u64 b]), (2, .i .i64 1)] rfl Try.func62 rfl (Nat.le_of_ble_eq_true rfl) fun Γ hN hds hL hR => ?_
  have hd : ∀ d, Nat.blt d 103 = true → d < Γ.N := fun d h => by rw [hN]; exact Nat.le_of_ble_eq_true h
  have hlv := lenV_lm hv
  have hlw := lenV_lm hw
  obtain ⟨hx, hr0, hr1, hq0⟩ := qr_facts (v := v) h0
  have hle := lenV_mono (v := qn v w) (w := v) qn_le
  have hlr := lenV_mono (v := rn v w) (w := w) (rn_le h0).1
  have hlR := lenV_lm (v := rn v w) (by omega)
  have habs : lm (w.natAbs : Int) = lm w := by unfold lm; rw [Int.natAbs_natCast]
  have hlenw : lenV (w.natAbs : Int) = lenV w := by unfold lenV; rw [Int.natAbs_natCast]
  have hS := Sub_v (w.natAbs : Int) (rn v w) hr0 (by omega) (by omega)
  rw [habs] at hS
  have hwl := wq_len (k := 1) (v := v) h0
  refine jc_seq ?_
  refine jc_region ?_
  refine jo_h (hy_box (id := 0) (n := 2) rfl rfl rfl (by decide) rfl) (hd 3 rfl) ?_
  refine jo_h (hy_box (id := 1) (n := 2) rfl rfl rfl (by decide) rfl) (hd 4 rfl) ?_
  refine jo_h (hy_alloc (id := 2) zero30 (by decide) rfl (by decide) rfl) (hd 6 rfl) ?_
  refine jo_h (hy_alloc (id := 3) zero30 (by decide) rfl (by decide) rfl) (hd 7 rfl) ?_
  refine jo_l (ly_as rfl) (hd 8 rfl) ?_
  refine jo_nil ?_
  refine jc_seq ?_
  refine jc_draw (n := 6) _ rfl mixed ?_
  refine ja_l2 0 [1, 3, 4, 5] (lo_l (ly_lda agg30 rfl rfl rfl rfl) (hd 16 rfl)) rfl (by kernel_rfl) (by kernel_rfl) (by kernel_rfl) (by kernel_rfl) (fun _ _ _ _ h => h) ?_
  refine ja_l2 2 [3, 4, 5] (lo_l (ly_lda agg30 rfl rfl rfl rfl) (hd 18 rfl)) rfl (by kernel_rfl) (by kernel_rfl) (by kernel_rfl) (by kernel_rfl) (fun _ _ _ _ h => h) ?_
  refine ja_1 1 ?_ rfl (by kernel_rfl)
  refine js_call Try.f73 (norm_v s a v la ua ev) rfl Try.func73 rfl rfl (ovL_cons rfl ovL_nil) (.cons (.a1 .b (.a1 .n .a0)) .nil) (hd 17 rfl) ?_ (fun ch hp => by simp at hp)
  rintro y hy; injection hy with hy; subst hy
  refine ja_1 3 ?_ rfl (by kernel_rfl)
  refine js_call Try.f73 (norm_v t b w lb ub ew) rfl Try.func73 rfl rfl (ovL_cons rfl ovL_nil) (.cons (.a1 .b (.a1 .n .a0)) .nil) (hd 19 rfl) ?_ (fun ch hp => by simp at hp)
  rintro y hy; injection hy with hy; subst hy
  refine ja_1 4 ?_ rfl (by kernel_rfl)
  refine js_st (sy_store rfl rfl rfl siz30 rfl rfl (Nat.le_of_ble_eq_true rfl)) rfl ?_
  refine ja_1 5 ?_ rfl (by kernel_rfl)
  refine js_st (sy_store rfl rfl rfl siz30 rfl rfl (Nat.le_of_ble_eq_true rfl)) rfl ?_
  refine ja_nil (by kernel_rfl) ?_
  refine jc_seq ?_
  refine jc_region ?_
  refine jo_l (ly_fa fld30_1 rfl rfl rfl) (hd 21 rfl) ?_
  refine jo_l (ly_ld one28 rfl rfl rfl) (hd 22 rfl) ?_
  refine jo_l (ly_fa fld30_1 rfl rfl rfl) (hd 23 rfl) ?_
  refine jo_l (ly_ld one28 rfl rfl rfl) (hd 24 rfl) ?_
  refine jo_call Try.f81 (Both_v v w hv hw h0) rfl Try.func81 rfl rfl (ovL_cons rfl (ovL_cons rfl ovL_nil)) (.cons .n (.cons .n .nil)) (hd 25 rfl) ?_ (fun ch hp => by simp at hp)
  rintro y hy; injection hy with hy; subst hy
  refine jo_l (ly_mv rfl) (hd 20 rfl) ?_
  refine jo_l (ly_ext rfl rfl) (hd 26 rfl) ?_
  refine jo_l (ly_ext rfl rfl) (hd 27 rfl) ?_
  refine jo_l (ly_ext rfl rfl) (hd 28 rfl) ?_
  refine jo_l (ly_as rfl) (hd 9 rfl) ?_
  refine jo_l (ly_as rfl) (hd 10 rfl) ?_
  refine jo_l (ly_as rfl) (hd 11 rfl) ?_
  refine jo_nil ?_
  refine jc_seq ?_
  refine jc_seq ?_
  refine jc_region ?_
  refine jo_l (ly_mv rfl) (hd 29 rfl) ?_
  refine jo_l (ly_ff (ly_ne rfl rfl) (by simp)) (hd 30 rfl) ?_
  refine jo_nil ?_
  refine jc_litf rfl ?_
  refine jc_skip ?_
  refine jc_seq ?_
  refine jc_draw (n := 9) _ rfl mixed ?_
  refine ja_l2 0 [1, 4, 7, 8] (lo_l (ly_fa fld30_0 rfl rfl rfl) (hd 34 rfl)) rfl (by kernel_rfl) (by kernel_rfl) (by kernel_rfl) (by kernel_rfl) (fun _ _ _ _ h => h) ?_
  refine ja_l 1 (lo_l (ly_ld one4 rfl rfl rfl) (hd 35 rfl)) rfl (by kernel_rfl) (by kernel_rfl) (by kernel_rfl) (fun _ _ _ _ h => h) ?_
  refine ja_l2 2 [3, 4, 7, 8] (lo_l (ly_fa fld30_0 rfl rfl rfl) (hd 36 rfl)) rfl (by kernel_rfl) (by kernel_rfl) (by kernel_rfl) (by kernel_rfl) (fun _ _ _ _ h => h) ?_
  refine ja_l 3 (lo_l (ly_ld one4 rfl rfl rfl) (hd 37 rfl)) rfl (by kernel_rfl) (by kernel_rfl) (by kernel_rfl) (fun _ _ _ _ h => h) ?_
  refine ja_l 4 (lo_l (ly_is (ly_neb und4 rfl rfl) (show V.b _ = V.b (ng v w) from rfl)) (hd 38 rfl)) rfl (by kernel_rfl) (by kernel_rfl) (by kernel_rfl) (fun _ _ _ _ h => h) ?_
  refine ja_l 5 (lo_l (ly_fa fld30_0 rfl rfl rfl) (hd 39 rfl)) rfl (by kernel_rfl) (by kernel_rfl) (by kernel_rfl) (fun _ _ _ _ h => h) ?_
  refine ja_l 6 (lo_l (ly_ld one4 rfl rfl rfl) (hd 40 rfl)) rfl (by kernel_rfl) (by kernel_rfl) (by kernel_rfl) (fun _ _ _ _ h => h) ?_
  refine ja_l 7 (lo_l (ly_as rfl) (hd 12 rfl)) rfl (by kernel_rfl) (by kernel_rfl) (by kernel_rfl) (fun _ _ _ _ h => h) ?_
  refine ja_l 8 (lo_l (ly_as rfl) (hd 13 rfl)) rfl (by kernel_rfl) (by kernel_rfl) (by kernel_rfl) (fun _ _ _ _ h => h) ?_
  refine ja_nil (by kernel_rfl) ?_
  refine jc_meetH (G := Int × Int × Bool) (fun g => sgd (ng v w) g.1 = (wq 1 v w) ∧ sgd g.2.2 g.2.1 = (v - wq 1 v w * w) ∧ 0 ≤ g.1 ∧ 0 ≤ g.2.1) (fun g => [(9, .n false .u64 (lm g.1)), (10, .n false .u64 (lm g.2.1)), (13, .b g.2.2), (8, .u), (11, .u), (41, .u), (42, .u), (43, .u), (44, .u), (45, .u), (46, .u), (47, .u), (48, .u), (49, .u), (50, .u), (51, .u), (52, .u), (53, .u), (54, .u), (55, .u), (56, .u), (57, .u), (58, .u), (59, .u), (60, .u), (61, .u), (62, .u), (63, .u), (64, .u), (65, .u), (66, .u), (67, .u), (68, .u), (69, .u), (70, .u), (71, .u), (72, .u), (73, .u), (74, .u), (75, .u), (76, .u), (77, .u), (78, .u)]) ?_ ?_
  · refine jc_seq ?_
    refine jc_draw (n := 18) _ rfl mixed ?_
    refine ja_l2 0 [1, 2, 3, 4, 5, 6, 7, 8, 9, 10, 11, 12, 13, 14, 15, 16, 17] (lo_l (ly_mv rfl) (hd 41 rfl)) rfl (by kernel_rfl) (by kernel_rfl) (by kernel_rfl) (by kernel_rfl) (fun _ _ _ _ h => h) ?_
    refine ja_1 1 ?_ rfl (by kernel_rfl)
    refine js_call Try.f66 (Length_v (rn v w) (by omega)) rfl Try.func66 rfl rfl (ovL_cons rfl ovL_nil) (.cons .n .nil) (hd 42 rfl) ?_ (fun ch hp => by simp at hp)
    rintro y hy; injection hy with hy; subst hy
    refine ja_l2 2 [3, 4, 5, 6, 7, 8, 9, 10, 11, 12, 13, 14, 15, 16, 17] (lo_l (ly_gt rfl rfl) (hd 43 rfl)) rfl (by kernel_rfl) (by kernel_rfl) (by kernel_rfl) (by kernel_rfl) (fun _ _ _ _ h => h) ?_
    refine ja_l 3 (lo_l (ly_mv rfl) (hd 44 rfl)) rfl (by kernel_rfl) (by kernel_rfl) (by kernel_rfl) (fun _ _ _ _ h => h) ?_
    refine ja_ifp 44 rfl (fun h2 => ?_) (fun h2 => ?_)
    · have hrn : rn v w ≠ 0 := fun e => by have := lenV_0.2 e; omega
      refine ja_l2 5 [6, 16, 17] (lo_g 44 rfl rfl (ly_mv rfl) (hd 46 rfl)) rfl (by kernel_rfl) (by kernel_rfl) (by kernel_rfl) (by kernel_rfl) (fun _ _ _ _ h => h) ?_
      refine ja_l2 7 [16, 17] (lo_g 44 rfl rfl (ly_mv rfl) (hd 48 rfl)) rfl (by kernel_rfl) (by kernel_rfl) (by kernel_rfl) (by kernel_rfl) (fun _ _ _ _ h => h) ?_
      refine ja_l2 8 [16, 17] (lo_g 44 rfl rfl (ly_mv rfl) (hd 49 rfl)) rfl (by kernel_rfl) (by kernel_rfl) (by kernel_rfl) (by kernel_rfl) (fun _ _ _ _ h => h) ?_
      refine ja_l2 9 [10, 16, 17] (lo_g 44 rfl rfl (ly_fa fld30_1 rfl rfl rfl) (hd 50 rfl)) rfl (by kernel_rfl) (by kernel_rfl) (by kernel_rfl) (by kernel_rfl) (fun _ _ _ _ h => h) ?_
      refine ja_l2 10 [16, 17] (lo_g 44 rfl rfl (ly_ld one28 rfl rfl rfl) (hd 51 rfl)) rfl (by kernel_rfl) (by kernel_rfl) (by kernel_rfl) (by kernel_rfl) (fun _ _ _ _ h => h) ?_
      refine ja_l2 11 [16, 17] (lo_g 44 rfl rfl (ly_mv rfl) (hd 52 rfl)) rfl (by kernel_rfl) (by kernel_rfl) (by kernel_rfl) (by kernel_rfl) (fun _ _ _ _ h => h) ?_
      refine ja_l2 12 [13, 16, 17] (lo_g 44 rfl rfl (ly_fa fld30_0 rfl rfl rfl) (hd 53 rfl)) rfl (by kernel_rfl) (by kernel_rfl) (by kernel_rfl) (by kernel_rfl) (fun _ _ _ _ h => h) ?_
      refine ja_l2 13 [16, 17] (lo_g 44 rfl rfl (ly_ld one4 rfl rfl rfl) (hd 54 rfl)) rfl (by kernel_rfl) (by kernel_rfl) (by kernel_rfl) (by kernel_rfl) (fun _ _ _ _ h => h) ?_
      refine ja_l2 14 [15, 16, 17] (lo_g 44 rfl rfl (ly_fa fld30_0 rfl rfl rfl) (hd 55 rfl)) rfl (by kernel_rfl) (by kernel_rfl) (by kernel_rfl) (by kernel_rfl) (fun _ _ _ _ h => h) ?_
      refine ja_l2 15 [16, 17] (lo_g 44 rfl rfl (ly_ld one4 rfl rfl rfl) (hd 56 rfl)) rfl (by kernel_rfl) (by kernel_rfl) (by kernel_rfl) (by kernel_rfl) (fun _ _ _ _ h => h) ?_
      refine ja_1 4 ?_ rfl (by kernel_rfl)
      refine js_callg Try.f82 44 rfl rfl (ways_s) rfl Try.func82 rfl rfl ovL_nil .nil (hd 45 rfl) ?_ (fun ch hp => by simp at hp)
      rintro y hy; injection hy with hy; subst hy
      refine ja_l2 6 [16, 17] (lo_g 44 rfl rfl (ly_ixa (i := 1) undA102 one101 rfl rfl rfl (by decide) rfl) (hd 47 rfl)) rfl (by kernel_rfl) (by kernel_rfl) (by kernel_rfl) (by kernel_rfl) (fun _ _ _ _ h => h) ?_
      refine ja_1 16 ?_ rfl (by kernel_rfl)
      refine js_callg Try.f95 44 rfl rfl (way1_v v w) rfl Try.func95 rfl rfl (ovL_cons rfl (ovL_cons rfl (ovL_cons rfl (ovL_cons rfl (ovL_cons rfl (ovL_cons rfl ovL_nil)))))) (.cons .n (.cons .n (.cons .n (.cons .b (.cons .b (.cons .b .nil)))))) (hd 57 rfl) ?_ (fun ch hp => by simp at hp)
      rintro y hy; injection hy with hy; subst hy
      refine ja_l 17 (lo_l (ly_pick_t rfl rfl) (hd 58 rfl)) rfl (by kernel_rfl) (by kernel_rfl) (by kernel_rfl) (fun _ _ _ _ h => h) ?_
      refine ja_nil (by kernel_rfl) ?_
      refine jc_cond rfl (fun h3 => ?_) (fun h3 => ?_)
      · have hg : gro 1 v w = true := h3
        refine jc_seq ?_
        refine jc_seq ?_
        refine jc_region ?_
        refine jo_l (ly_mv rfl) (hd 60 rfl) ?_
        refine jo_call Try.f70 (From1_v) rfl Try.func70 rfl rfl (ovL_cons rfl ovL_nil) (.cons .i .nil) (hd 61 rfl) ?_ (fun ch hp => by simp at hp)
        rintro y hy; injection hy with hy; subst hy
        refine jo_call Try.f74 (Add1_v (qn v w) hq0 (by have := lenV_mono (qn1_le h0 hrn); omega)) rfl Try.func74 rfl rfl (ovL_cons rfl (ovL_cons rfl ovL_nil)) (.cons .n (.cons .n .nil)) (hd 62 rfl) ?_ (fun ch hp => by simp at hp)
        rintro y hy; injection hy with hy; subst hy
        refine jo_l (ly_mv rfl) (hd 59 rfl) ?_
        refine jo_l (ly_ext rfl rfl) (hd 63 rfl) ?_
        refine jo_l (ly_ext rfl rfl) (hd 64 rfl) ?_
        refine jo_l (ly_as rfl) (hd 9 rfl) ?_
        refine jo_l (ly_as rfl) (hd 11 rfl) ?_
        refine jo_nil ?_
        refine jc_seq ?_
        refine jc_region ?_
        refine jo_l (ly_mv rfl) (hd 65 rfl) ?_
        refine jo_l (ly_ff (ly_ne rfl rfl) (by simp)) (hd 66 rfl) ?_
        refine jo_nil ?_
        refine jc_litf rfl ?_
        refine jc_skip ?_
        refine jc_seq ?_
        refine jc_region ?_
        refine jo_l (ly_fa fld30_1 rfl rfl rfl) (hd 71 rfl) ?_
        refine jo_l (ly_ld one28 rfl rfl rfl) (hd 72 rfl) ?_
        refine jo_l (ly_mv rfl) (hd 73 rfl) ?_
        refine jo_call Try.f76 (hS) rfl Try.func76 rfl rfl (ovL_cons rfl (ovL_cons rfl ovL_nil)) (.cons .n (.cons .n .nil)) (hd 74 rfl) ?_ (fun ch hp => by simp at hp)
        rintro y hy; injection hy with hy; subst hy
        refine jo_l (ly_mv rfl) (hd 70 rfl) ?_
        refine jo_l (ly_ext rfl rfl) (hd 75 rfl) ?_
        refine jo_l (ly_ext rfl rfl) (hd 76 rfl) ?_
        refine jo_l (ly_as rfl) (hd 10 rfl) ?_
        refine jo_nil ?_
        refine jc_region ?_
        refine jo_l (ly_mv rfl) (hd 77 rfl) ?_
        refine jo_l (ly_not rfl) (hd 78 rfl) ?_
        refine jo_l (ly_as rfl) (hd 13 rfl) ?_
        refine jo_nil ?_
        refine ⟨(qn v w + 1, (w.natAbs : Int) - rn v w, !decide (v < 0)), ?_, rfl, cov_n 40 rfl rfl ?_⟩
        · have hy := way_yes (k := 1) h0 hrn hg
          exact ⟨hy.1, hy.2, by show 0 ≤ qn v w + 1; omega, by show 0 ≤ (w.natAbs : Int) - rn v w; omega⟩
        · exact (.cons rfl (.cons rfl (.cons rfl (.u (.u (.u (.u (.u (.u (.u (.u (.u (.u (.u (.u (.u (.u (.u (.u (.u (.u (.u (.u (.u (.u (.u (.u (.u (.u (.u (.u (.u (.u (.u (.u (.u (.u (.u (.u (.u (.u (.u (.u .nil)))))))))))))))))))))))))))))))))))))))))))
      · have hg : gro 1 v w = false := h3
        refine jc_skip ?_
        refine ⟨(qn v w, rn v w, decide (v < 0)), ?_, rfl, cov_n 19 rfl rfl ?_⟩
        · have hy := way_no (k := 1) h0 (by first | exact .inl hrn | exact .inr hg)
          exact ⟨hy.1, hy.2, hq0, hr0⟩
        · exact (.cons rfl (.cons rfl (.cons rfl (.u (.u (.u (.u (.u (.u (.u (.u (.u (.u (.u (.u (.u (.u (.u (.u (.u (.u (.u (.u (.u (.u (.u (.u (.u (.u (.u (.u (.u (.u (.u (.u (.u (.u (.u (.u (.u (.u (.u (.u .nil)))))))))))))))))))))))))))))))))))))))))))
    · have hrn : rn v w = 0 := lenV_0.1 (by omega)
      refine ja_l2 5 [6, 16, 17] (lo_s 44 rfl rfl rfl (hd 46 rfl)) rfl (by kernel_rfl) (by kernel_rfl) (by kernel_rfl) (by kernel_rfl) (fun _ _ _ _ h => h) ?_
      refine ja_l2 7 [16, 17] (lo_s 44 rfl rfl rfl (hd 48 rfl)) rfl (by kernel_rfl) (by kernel_rfl) (by kernel_rfl) (by kernel_rfl) (fun _ _ _ _ h => h) ?_
      refine ja_l2 8 [16, 17] (lo_s 44 rfl rfl rfl (hd 49 rfl)) rfl (by kernel_rfl) (by kernel_rfl) (by kernel_rfl) (by kernel_rfl) (fun _ _ _ _ h => h) ?_
      refine ja_l2 9 [10, 16, 17] (lo_s 44 rfl rfl rfl (hd 50 rfl)) rfl (by kernel_rfl) (by kernel_rfl) (by kernel_rfl) (by kernel_rfl) (fun _ _ _ _ h => h) ?_
      refine ja_l2 10 [16, 17] (lo_s 44 rfl rfl rfl (hd 51 rfl)) rfl (by kernel_rfl) (by kernel_rfl) (by kernel_rfl) (by kernel_rfl) (fun _ _ _ _ h => h) ?_
      refine ja_l2 11 [16, 17] (lo_s 44 rfl rfl rfl (hd 52 rfl)) rfl (by kernel_rfl) (by kernel_rfl) (by kernel_rfl) (by kernel_rfl) (fun _ _ _ _ h => h) ?_
      refine ja_l2 12 [13, 16, 17] (lo_s 44 rfl rfl rfl (hd 53 rfl)) rfl (by kernel_rfl) (by kernel_rfl) (by kernel_rfl) (by kernel_rfl) (fun _ _ _ _ h => h) ?_
      refine ja_l2 13 [16, 17] (lo_s 44 rfl rfl rfl (hd 54 rfl)) rfl (by kernel_rfl) (by kernel_rfl) (by kernel_rfl) (by kernel_rfl) (fun _ _ _ _ h => h) ?_
      refine ja_l2 14 [15, 16, 17] (lo_s 44 rfl rfl rfl (hd 55 rfl)) rfl (by kernel_rfl) (by kernel_rfl) (by kernel_rfl) (by kernel_rfl) (fun _ _ _ _ h => h) ?_
      refine ja_l2 15 [16, 17] (lo_s 44 rfl rfl rfl (hd 56 rfl)) rfl (by kernel_rfl) (by kernel_rfl) (by kernel_rfl) (by kernel_rfl) (fun _ _ _ _ h => h) ?_
      refine ja_l2 4 [6, 16, 17] (lo_s 44 rfl rfl rfl (hd 45 rfl)) rfl (by kernel_rfl) (by kernel_rfl) (by kernel_rfl) (by kernel_rfl) (fun _ _ _ _ h => h) ?_
      refine ja_l2 6 [16, 17] (lo_s 44 rfl rfl rfl (hd 47 rfl)) rfl (by kernel_rfl) (by kernel_rfl) (by kernel_rfl) (by kernel_rfl) (fun _ _ _ _ h => h) ?_
      refine ja_l 16 (lo_s 44 rfl rfl rfl (hd 57 rfl)) rfl (by kernel_rfl) (by kernel_rfl) (by kernel_rfl) (fun _ _ _ _ h => h) ?_
      refine ja_l 17 (lo_l (ly_pick_f rfl rfl) (hd 58 rfl)) rfl (by kernel_rfl) (by kernel_rfl) (by kernel_rfl) (fun _ _ _ _ h => h) ?_
      refine ja_nil (by kernel_rfl) ?_
      refine jc_litf rfl ?_
      refine jc_skip ?_
      refine ⟨(qn v w, rn v w, decide (v < 0)), ?_, rfl, cov_n 19 rfl rfl ?_⟩
      · have hy := way_no (k := 1) h0 (by first | exact .inl hrn | exact .inr hg)
        exact ⟨hy.1, hy.2, hq0, hr0⟩
      · exact (.cons rfl (.cons rfl (.cons rfl (.u (.u (.u (.u (.u (.u (.u (.u (.u (.u (.u (.u (.u (.u (.u (.u (.u (.u (.u (.u (.u (.u (.u (.u (.u (.u (.u (.u (.u (.u (.u (.u (.u (.u (.u (.u (.u (.u (.u (.u .nil)))))))))))))))))))))))))))))))))))))))))))
  · rintro ⟨q, r, rs⟩ ⟨hc1, hc2, hc3, hc4⟩
    dsimp only at hc1 hc2 hc3 hc4
    have hq1 : lenV q ≤ 67108864 := by have := lenV_mono (v := q) (w := (wq 1 v w)) (by rw [← hc1, sgd_abs]; exact Nat.le_refl _); omega
    have hr2 : lenV r ≤ 67108864 := by have := lenV_mono (v := r) (w := (v - wq 1 v w * w)) (by rw [← hc2, sgd_abs]; exact Nat.le_refl _); omega
    have hql := lenV_lm hq1
    have hrl := lenV_lm hr2
    refine jc_seq ?_
    refine jc_region ?_
    refine jo_l (ly_mv rfl) (hd 80 rfl) ?_
    refine jo_l (ly_mv rfl) (hd 81 rfl) ?_
    refine jo_callN Try.f75 (result_nv (ng v w) (lm q) (wq 1 v w) (by omega) (lm_u q) (by rw [sv_sgd hc3]; exact hc1) (by omega)) (fun o G ⟨_, h⟩ => h ▸ idless_cons ints_id idless_nil) rfl Try.func75 rfl rfl (ovL_cons rfl (ovL_cons rfl (ovL_cons rfl ovL_nil))) (.cons .b (.cons .n (.cons .i .nil))) (hd 82 rfl) ?_ (fun ch G hp => by simp at hp)
    rintro y G ⟨hy, rfl⟩
    injection hy with hy
    subst hy
    show JO _ _ _ _ ((82, .t [.a [.b (decide ((wq 1 v w) < 0)), .o 4 0 0 (lm (wq 1 v w)).length], .i .i64 0]) :: _) _ _
    refine jo_l (ly_mv rfl) (hd 79 rfl) ?_
    refine jo_l (ly_ext rfl rfl) (hd 83 rfl) ?_
    refine jo_l (ly_ext rfl rfl) (hd 84 rfl) ?_
    refine jo_h (hy_alloc (id := 5) zero30 (by decide) rfl (by decide) rfl) (hd 14 rfl) ?_
    refine jo_st (sy_store rfl rfl rfl siz30 rfl rfl (Nat.le_of_ble_eq_true rfl)) ?_
    refine jo_l (ly_as rfl) (hd 11 rfl) ?_
    refine jo_nil ?_
    refine jc_seq ?_
    refine jc_seq ?_
    refine jc_region ?_
    refine jo_l (ly_mv rfl) (hd 85 rfl) ?_
    refine jo_l (ly_ff (ly_ne rfl rfl) (by simp)) (hd 86 rfl) ?_
    refine jo_nil ?_
    refine jc_litf rfl ?_
    refine jc_skip ?_
    refine jc_seq ?_
    refine jc_region ?_
    refine jo_l (ly_mv rfl) (hd 91 rfl) ?_
    refine jo_l (ly_mv rfl) (hd 92 rfl) ?_
    refine jo_callN Try.f75 (result_nv rs (lm r) (v - wq 1 v w * w) (by omega) (lm_u r) (by rw [sv_sgd hc4]; exact hc2) (by omega)) (fun o G ⟨_, h⟩ => h ▸ idless_cons ints_id idless_nil) rfl Try.func75 rfl rfl (ovL_cons rfl (ovL_cons rfl (ovL_cons rfl ovL_nil))) (.cons .b (.cons .n (.cons .i .nil))) (hd 93 rfl) ?_ (fun ch G hp => by simp at hp)
    rintro y G ⟨hy, rfl⟩
    injection hy with hy
    subst hy
    show JO _ _ _ _ ((93, .t [.a [.b (decide ((v - wq 1 v w * w) < 0)), .o 6 0 0 (lm (v - wq 1 v w * w)).length], .i .i64 0]) :: _) _ _
    refine jo_l (ly_mv rfl) (hd 90 rfl) ?_
    refine jo_l (ly_ext rfl rfl) (hd 94 rfl) ?_
    refine jo_l (ly_ext rfl rfl) (hd 95 rfl) ?_
    refine jo_h (hy_alloc (id := 7) zero30 (by decide) rfl (by decide) rfl) (hd 15 rfl) ?_
    refine jo_st (sy_store rfl rfl rfl siz30 rfl rfl (Nat.le_of_ble_eq_true rfl)) ?_
    refine jo_l (ly_as rfl) (hd 11 rfl) ?_
    refine jo_nil ?_
    refine jc_seq ?_
    refine jc_seq ?_
    refine jc_region ?_
    refine jo_l (ly_mv rfl) (hd 96 rfl) ?_
    refine jo_l (ly_ff (ly_ne rfl rfl) (by simp)) (hd 97 rfl) ?_
    refine jo_nil ?_
    refine jc_litf rfl ?_
    refine jc_skip ?_
    refine jc_seq ?_
    refine jc_draw (n := 5) _ rfl mixed ?_
    refine ja_l 0 (lo_l (ly_lda agg30 rfl rfl rfl rfl) (hd 101 rfl)) rfl (by kernel_rfl) (by kernel_rfl) (by kernel_rfl) (fun _ _ _ _ h => h) ?_
    refine ja_2 1 2 ?_ ?_ rfl rfl (by kernel_rfl)
    · refine js_l (ly_lda agg30 rfl rfl rfl rfl) (hd 102 rfl) ?_
      refine ja_1 2 ?_ rfl (by kernel_rfl)
      refine js_st (sy_store rfl rfl rfl siz30 rfl rfl (Nat.le_of_ble_eq_true rfl)) rfl ?_
      refine ja_1 3 ?_ rfl (by kernel_rfl)
      refine js_st (sy_store rfl rfl rfl siz30 rfl rfl (Nat.le_of_ble_eq_true rfl)) rfl ?_
      refine ja_l 4 (lo_l (ly_as rfl) (hd 8 rfl)) rfl (by kernel_rfl) (by kernel_rfl) (by kernel_rfl) (fun _ _ _ _ h => h) ?_
      refine ja_nil (by kernel_rfl) ?_
      refine jc_ret ?_
      refine ⟨[4, 6], _, (.t [.a [.b (decide ((wq 1 v w) < 0)), .o 0 0 0 (lm (wq 1 v w)).length], .a [.b (decide ((v - wq 1 v w * w) < 0)), .o 1 0 0 (lm (v - wq 1 v w * w)).length], .i .i64 0]), (.cons (ResV.cell agg30 rfl rfl rfl rfl) (.cons (ResV.cell agg30 rfl rfl rfl rfl) (.cons rfl .nil))), rfl, rfl, (by decide), (by first | exact idless_cons ints_id (idless_cons ints_id idless_nil) | exact idless_cons rfl (idless_cons rfl idless_nil)), ?_⟩
      exact ⟨rfl, rfl⟩
    · refine js_st (sy_store rfl rfl rfl siz30 rfl rfl (Nat.le_of_ble_eq_true rfl)) rfl ?_
      refine ja_l 1 (lo_l (ly_lda agg30 rfl rfl rfl rfl) (hd 102 rfl)) rfl (by kernel_rfl) (by kernel_rfl) (by kernel_rfl) (fun _ _ _ _ h => h) ?_
      refine ja_1 3 ?_ rfl (by kernel_rfl)
      refine js_st (sy_store rfl rfl rfl siz30 rfl rfl (Nat.le_of_ble_eq_true rfl)) rfl ?_
      refine ja_l 4 (lo_l (ly_as rfl) (hd 8 rfl)) rfl (by kernel_rfl) (by kernel_rfl) (by kernel_rfl) (fun _ _ _ _ h => h) ?_
      refine ja_nil (by kernel_rfl) ?_
      refine jc_ret ?_
      refine ⟨[4, 6], _, (.t [.a [.b (decide ((wq 1 v w) < 0)), .o 0 0 0 (lm (wq 1 v w)).length], .a [.b (decide ((v - wq 1 v w * w) < 0)), .o 1 0 0 (lm (v - wq 1 v w * w)).length], .i .i64 0]), (.cons (ResV.cell agg30 rfl rfl rfl rfl) (.cons (ResV.cell agg30 rfl rfl rfl rfl) (.cons rfl .nil))), rfl, rfl, (by decide), (by first | exact idless_cons ints_id (idless_cons ints_id idless_nil) | exact idless_cons rfl (idless_cons rfl idless_nil)), ?_⟩
      exact ⟨rfl, rfl⟩

set_option maxHeartbeats 4000000 in
theorem divide_n2 (s t : Bool) (a b : List Int) (v w : Int) (la : a.length < 1099511627776) (lb : b.length < 1099511627776) (ua : u64s a) (ub : u64s b) (ev : sv s a = v) (ew : sv t b = w) (hv : lenV v ≤ 67108864) (hw : lenV w ≤ 67108864) (h0 : w ≠ 0) : SpecM Try.prog 62 [.a [.b s, .n false .u64 a], .a [.b t, .n false .u64 b], .i .i64 2] [] (fun o G => o = .ret (.t [.a [.b (decide ((wq 2 v w) < 0)), .o 0 0 0 (lm (wq 2 v w)).length], .a [.b (decide ((v - wq 2 v w * w) < 0)), .o 1 0 0 (lm (v - wq 2 v w * w)).length], .i .i64 0]) ∧ G = [⟨82, 1, 0, true, ints .u64 (lm (wq 2 v w))⟩, ⟨82, 1, 0, true, ints .u64 (lm (v - wq 2 v w * w))⟩]) := by
  refine specS_of [(0, .a [.b s, .n false .u64 a]), (1, .a [.b t, .n false .u64 b]), (2, .i .i64 2)] rfl Try.func62 rfl (Nat.le_of_ble_eq_true rfl) fun Γ hN hds hL hR => ?_
  have hd : ∀ d, Nat.blt d 103 = true → d < Γ.N := fun d h => by rw [hN]; exact Nat.le_of_ble_eq_true h
  have hlv := lenV_lm hv
  have hlw := lenV_lm hw
  obtain ⟨hx, hr0, hr1, hq0⟩ := qr_facts (v := v) h0
  have hle := lenV_mono (v := qn v w) (w := v) qn_le
  have hlr := lenV_mono (v := rn v w) (w := w) (rn_le h0).1
  have hlR := lenV_lm (v := rn v w) (by omega)
  have habs : lm (w.natAbs : Int) = lm w := by unfold lm; rw [Int.natAbs_natCast]
  have hlenw : lenV (w.natAbs : Int) = lenV w := by unfold lenV; rw [Int.natAbs_natCast]
  have hS := Sub_v (w.natAbs : Int) (rn v w) hr0 (by omega) (by omega)
  rw [habs] at hS
  have hwl := wq_len (k := 2) (v := v) h0
  refine jc_seq ?_
  refine jc_region ?_
  refine jo_h (hy_box (id := 0) (n := 2) rfl rfl rfl (by decide) rfl) (hd 3 rfl) ?_
  refine jo_h (hy_box (id := 1) (n := 2) rfl rfl rfl (by decide) rfl) (hd 4 rfl) ?_
  refine jo_h (hy_alloc (id := 2) zero30 (by decide) rfl (by decide) rfl) (hd 6 rfl) ?_
  refine jo_h (hy_alloc (id := 3) zero30 (by decide) rfl (by decide) rfl) (hd 7 rfl) ?_
  refine jo_l (ly_as rfl) (hd 8 rfl) ?_
  refine jo_nil ?_
  refine jc_seq ?_
  refine jc_draw (n := 6) _ rfl mixed ?_
  refine ja_l2 0 [1, 3, 4, 5] (lo_l (ly_lda agg30 rfl rfl rfl rfl) (hd 16 rfl)) rfl (by kernel_rfl) (by kernel_rfl) (by kernel_rfl) (by kernel_rfl) (fun _ _ _ _ h => h) ?_
  refine ja_l2 2 [3, 4, 5] (lo_l (ly_lda agg30 rfl rfl rfl rfl) (hd 18 rfl)) rfl (by kernel_rfl) (by kernel_rfl) (by kernel_rfl) (by kernel_rfl) (fun _ _ _ _ h => h) ?_
  refine ja_1 1 ?_ rfl (by kernel_rfl)
  refine js_call Try.f73 (norm_v s a v la ua ev) rfl Try.func73 rfl rfl (ovL_cons rfl ovL_nil) (.cons (.a1 .b (.a1 .n .a0)) .nil) (hd 17 rfl) ?_ (fun ch hp => by simp at hp)
  rintro y hy; injection hy with hy; subst hy
  refine ja_1 3 ?_ rfl (by kernel_rfl)
  refine js_call Try.f73 (norm_v t b w lb ub ew) rfl Try.func73 rfl rfl (ovL_cons rfl ovL_nil) (.cons (.a1 .b (.a1 .n .a0)) .nil) (hd 19 rfl) ?_ (fun ch hp => by simp at hp)
  rintro y hy; injection hy with hy; subst hy
  refine ja_1 4 ?_ rfl (by kernel_rfl)
  refine js_st (sy_store rfl rfl rfl siz30 rfl rfl (Nat.le_of_ble_eq_true rfl)) rfl ?_
  refine ja_1 5 ?_ rfl (by kernel_rfl)
  refine js_st (sy_store rfl rfl rfl siz30 rfl rfl (Nat.le_of_ble_eq_true rfl)) rfl ?_
  refine ja_nil (by kernel_rfl) ?_
  refine jc_seq ?_
  refine jc_region ?_
  refine jo_l (ly_fa fld30_1 rfl rfl rfl) (hd 21 rfl) ?_
  refine jo_l (ly_ld one28 rfl rfl rfl) (hd 22 rfl) ?_
  refine jo_l (ly_fa fld30_1 rfl rfl rfl) (hd 23 rfl) ?_
  refine jo_l (ly_ld one28 rfl rfl rfl) (hd 24 rfl) ?_
  refine jo_call Try.f81 (Both_v v w hv hw h0) rfl Try.func81 rfl rfl (ovL_cons rfl (ovL_cons rfl ovL_nil)) (.cons .n (.cons .n .nil)) (hd 25 rfl) ?_ (fun ch hp => by simp at hp)
  rintro y hy; injection hy with hy; subst hy
  refine jo_l (ly_mv rfl) (hd 20 rfl) ?_
  refine jo_l (ly_ext rfl rfl) (hd 26 rfl) ?_
  refine jo_l (ly_ext rfl rfl) (hd 27 rfl) ?_
  refine jo_l (ly_ext rfl rfl) (hd 28 rfl) ?_
  refine jo_l (ly_as rfl) (hd 9 rfl) ?_
  refine jo_l (ly_as rfl) (hd 10 rfl) ?_
  refine jo_l (ly_as rfl) (hd 11 rfl) ?_
  refine jo_nil ?_
  refine jc_seq ?_
  refine jc_seq ?_
  refine jc_region ?_
  refine jo_l (ly_mv rfl) (hd 29 rfl) ?_
  refine jo_l (ly_ff (ly_ne rfl rfl) (by simp)) (hd 30 rfl) ?_
  refine jo_nil ?_
  refine jc_litf rfl ?_
  refine jc_skip ?_
  refine jc_seq ?_
  refine jc_draw (n := 9) _ rfl mixed ?_
  refine ja_l2 0 [1, 4, 7, 8] (lo_l (ly_fa fld30_0 rfl rfl rfl) (hd 34 rfl)) rfl (by kernel_rfl) (by kernel_rfl) (by kernel_rfl) (by kernel_rfl) (fun _ _ _ _ h => h) ?_
  refine ja_l 1 (lo_l (ly_ld one4 rfl rfl rfl) (hd 35 rfl)) rfl (by kernel_rfl) (by kernel_rfl) (by kernel_rfl) (fun _ _ _ _ h => h) ?_
  refine ja_l2 2 [3, 4, 7, 8] (lo_l (ly_fa fld30_0 rfl rfl rfl) (hd 36 rfl)) rfl (by kernel_rfl) (by kernel_rfl) (by kernel_rfl) (by kernel_rfl) (fun _ _ _ _ h => h) ?_
  refine ja_l 3 (lo_l (ly_ld one4 rfl rfl rfl) (hd 37 rfl)) rfl (by kernel_rfl) (by kernel_rfl) (by kernel_rfl) (fun _ _ _ _ h => h) ?_
  refine ja_l 4 (lo_l (ly_is (ly_neb und4 rfl rfl) (show V.b _ = V.b (ng v w) from rfl)) (hd 38 rfl)) rfl (by kernel_rfl) (by kernel_rfl) (by kernel_rfl) (fun _ _ _ _ h => h) ?_
  refine ja_l 5 (lo_l (ly_fa fld30_0 rfl rfl rfl) (hd 39 rfl)) rfl (by kernel_rfl) (by kernel_rfl) (by kernel_rfl) (fun _ _ _ _ h => h) ?_
  refine ja_l 6 (lo_l (ly_ld one4 rfl rfl rfl) (hd 40 rfl)) rfl (by kernel_rfl) (by kernel_rfl) (by kernel_rfl) (fun _ _ _ _ h => h) ?_
  refine ja_l 7 (lo_l (ly_as rfl) (hd 12 rfl)) rfl (by kernel_rfl) (by kernel_rfl) (by kernel_rfl) (fun _ _ _ _ h => h) ?_
  refine ja_l 8 (lo_l (ly_as rfl) (hd 13 rfl)) rfl (by kernel_rfl) (by kernel_rfl) (by kernel_rfl) (fun _ _ _ _ h => h) ?_
  refine ja_nil (by kernel_rfl) ?_
  refine jc_meetH (G := Int × Int × Bool) (fun g => sgd (ng v w) g.1 = (wq 2 v w) ∧ sgd g.2.2 g.2.1 = (v - wq 2 v w * w) ∧ 0 ≤ g.1 ∧ 0 ≤ g.2.1) (fun g => [(9, .n false .u64 (lm g.1)), (10, .n false .u64 (lm g.2.1)), (13, .b g.2.2), (8, .u), (11, .u), (41, .u), (42, .u), (43, .u), (44, .u), (45, .u), (46, .u), (47, .u), (48, .u), (49, .u), (50, .u), (51, .u), (52, .u), (53, .u), (54, .u), (55, .u), (56, .u), (57, .u), (58, .u), (59, .u), (60, .u), (61, .u), (62, .u), (63, .u), (64, .u), (65, .u), (66, .u), (67, .u), (68, .u), (69, .u), (70, .u), (71, .u), (72, .u), (73, .u), (74, .u), (75, .u), (76, .u), (77, .u), (78, .u)]) ?_ ?_
  · refine jc_seq ?_
    refine jc_draw (n := 18) _ rfl mixed ?_
    refine ja_l2 0 [1, 2, 3, 4, 5, 6, 7, 8, 9, 10, 11, 12, 13, 14, 15, 16, 17] (lo_l (ly_mv rfl) (hd 41 rfl)) rfl (by kernel_rfl) (by kernel_rfl) (by kernel_rfl) (by kernel_rfl) (fun _ _ _ _ h => h) ?_
    refine ja_1 1 ?_ rfl (by kernel_rfl)
    refine js_call Try.f66 (Length_v (rn v w) (by omega)) rfl Try.func66 rfl rfl (ovL_cons rfl ovL_nil) (.cons .n .nil) (hd 42 rfl) ?_ (fun ch hp => by simp at hp)
    rintro y hy; injection hy with hy; subst hy
    refine ja_l2 2 [3, 4, 5, 6, 7, 8, 9, 10, 11, 12, 13, 14, 15, 16, 17] (lo_l (ly_gt rfl rfl) (hd 43 rfl)) rfl (by kernel_rfl) (by kernel_rfl) (by kernel_rfl) (by kernel_rfl) (fun _ _ _ _ h => h) ?_
    refine ja_l 3 (lo_l (ly_mv rfl) (hd 44 rfl)) rfl (by kernel_rfl) (by kernel_rfl) (by kernel_rfl) (fun _ _ _ _ h => h) ?_
    refine ja_ifp 44 rfl (fun h2 => ?_) (fun h2 => ?_)
    · have hrn : rn v w ≠ 0 := fun e => by have := lenV_0.2 e; omega
      refine ja_l2 5 [6, 16, 17] (lo_g 44 rfl rfl (ly_mv rfl) (hd 46 rfl)) rfl (by kernel_rfl) (by kernel_rfl) (by kernel_rfl) (by kernel_rfl) (fun _ _ _ _ h => h) ?_
      refine ja_l2 7 [16, 17] (lo_g 44 rfl rfl (ly_mv rfl) (hd 48 rfl)) rfl (by kernel_rfl) (by kernel_rfl) (by kernel_rfl) (by kernel_rfl) (fun _ _ _ _ h => h) ?_
      refine ja_l2 8 [16, 17] (lo_g 44 rfl rfl (ly_mv rfl) (hd 49 rfl)) rfl (by kernel_rfl) (by kernel_rfl) (by kernel_rfl) (by kernel_rfl) (fun _ _ _ _ h => h) ?_
      refine ja_l2 9 [10, 16, 17] (lo_g 44 rfl rfl (ly_fa fld30_1 rfl rfl rfl) (hd 50 rfl)) rfl (by kernel_rfl) (by kernel_rfl) (by kernel_rfl) (by kernel_rfl) (fun _ _ _ _ h => h) ?_
      refine ja_l2 10 [16, 17] (lo_g 44 rfl rfl (ly_ld one28 rfl rfl rfl) (hd 51 rfl)) rfl (by kernel_rfl) (by kernel_rfl) (by kernel_rfl) (by kernel_rfl) (fun _ _ _ _ h => h) ?_
      refine ja_l2 11 [16, 17] (lo_g 44 rfl rfl (ly_mv rfl) (hd 52 rfl)) rfl (by kernel_rfl) (by kernel_rfl) (by kernel_rfl) (by kernel_rfl) (fun _ _ _ _ h => h) ?_
      refine ja_l2 12 [13, 16, 17] (lo_g 44 rfl rfl (ly_fa fld30_0 rfl rfl rfl) (hd 53 rfl)) rfl (by kernel_rfl) (by kernel_rfl) (by kernel_rfl) (by kernel_rfl) (fun _ _ _ _ h => h) ?_
      refine ja_l2 13 [16, 17] (lo_g 44 rfl rfl (ly_ld one4 rfl rfl rfl) (hd 54 rfl)) rfl (by kernel_rfl) (by kernel_rfl) (by kernel_rfl) (by kernel_rfl) (fun _ _ _ _ h => h) ?_
      refine ja_l2 14 [15, 16, 17] (lo_g 44 rfl rfl (ly_fa fld30_0 rfl rfl rfl) (hd 55 rfl)) rfl (by kernel_rfl) (by kernel_rfl) (by kernel_rfl) (by kernel_rfl) (fun _ _ _ _ h => h) ?_
      refine ja_l2 15 [16, 17] (lo_g 44 rfl rfl (ly_ld one4 rfl rfl rfl) (hd 56 rfl)) rfl (by kernel_rfl) (by kernel_rfl) (by kernel_rfl) (by kernel_rfl) (fun _ _ _ _ h => h) ?_
      refine ja_1 4 ?_ rfl (by kernel_rfl)
      refine js_callg Try.f82 44 rfl rfl (ways_s) rfl Try.func82 rfl rfl ovL_nil .nil (hd 45 rfl) ?_ (fun ch hp => by simp at hp)
      rintro y hy; injection hy with hy; subst hy
      refine ja_l2 6 [16, 17] (lo_g 44 rfl rfl (ly_ixa (i := 2) undA102 one101 rfl rfl rfl (by decide) rfl) (hd 47 rfl)) rfl (by kernel_rfl) (by kernel_rfl) (by kernel_rfl) (by kernel_rfl) (fun _ _ _ _ h => h) ?_
      refine ja_1 16 ?_ rfl (by kernel_rfl)
      refine js_callg Try.f96 44 rfl rfl (way2_v v w) rfl Try.func96 rfl rfl (ovL_cons rfl (ovL_cons rfl (ovL_cons rfl (ovL_cons rfl (ovL_cons rfl (ovL_cons rfl ovL_nil)))))) (.cons .n (.cons .n (.cons .n (.cons .b (.cons .b (.cons .b .nil)))))) (hd 57 rfl) ?_ (fun ch hp => by simp at hp)
      rintro y hy; injection hy with hy; subst hy
      refine ja_l 17 (lo_l (ly_pick_t rfl rfl) (hd 58 rfl)) rfl (by kernel_rfl) (by kernel_rfl) (by kernel_rfl) (fun _ _ _ _ h => h) ?_
      refine ja_nil (by kernel_rfl) ?_
      refine jc_cond rfl (fun h3 => ?_) (fun h3 => ?_)
      · have hg : gro 2 v w = true := h3
        refine jc_seq ?_
        refine jc_seq ?_
        refine jc_region ?_
        refine jo_l (ly_mv rfl) (hd 60 rfl) ?_
        refine jo_call Try.f70 (From1_v) rfl Try.func70 rfl rfl (ovL_cons rfl ovL_nil) (.cons .i .nil) (hd 61 rfl) ?_ (fun ch hp => by simp at hp)
        rintro y hy; injection hy with hy; subst hy
        refine jo_call Try.f74 (Add1_v (qn v w) hq0 (by have := lenV_mono (qn1_le h0 hrn); omega)) rfl Try.func74 rfl rfl (ovL_cons rfl (ovL_cons rfl ovL_nil)) (.cons .n (.cons .n .nil)) (hd 62 rfl) ?_ (fun ch hp => by simp at hp)
        rintro y hy; injection hy with hy; subst hy
        refine jo_l (ly_mv rfl) (hd 59 rfl) ?_
        refine jo_l (ly_ext rfl rfl) (hd 63 rfl) ?_
        refine jo_l (ly_ext rfl rfl) (hd 64 rfl) ?_
        refine jo_l (ly_as rfl) (hd 9 rfl) ?_
        refine jo_l (ly_as rfl) (hd 11 rfl) ?_
        refine jo_nil ?_
        refine jc_seq ?_
        refine jc_region ?_
        refine jo_l (ly_mv rfl) (hd 65 rfl) ?_
        refine jo_l (ly_ff (ly_ne rfl rfl) (by simp)) (hd 66 rfl) ?_
        refine jo_nil ?_
        refine jc_litf rfl ?_
        refine jc_skip ?_
        refine jc_seq ?_
        refine jc_region ?_
        refine jo_l (ly_fa fld30_1 rfl rfl rfl) (hd 71 rfl) ?_
        refine jo_l (ly_ld one28 rfl rfl rfl) (hd 72 rfl) ?_
        refine jo_l (ly_mv rfl) (hd 73 rfl) ?_
        refine jo_call Try.f76 (hS) rfl Try.func76 rfl rfl (ovL_cons rfl (ovL_cons rfl ovL_nil)) (.cons .n (.cons .n .nil)) (hd 74 rfl) ?_ (fun ch hp => by simp at hp)
        rintro y hy; injection hy with hy; subst hy
        refine jo_l (ly_mv rfl) (hd 70 rfl) ?_
        refine jo_l (ly_ext rfl rfl) (hd 75 rfl) ?_
        refine jo_l (ly_ext rfl rfl) (hd 76 rfl) ?_
        refine jo_l (ly_as rfl) (hd 10 rfl) ?_
        refine jo_nil ?_
        refine jc_region ?_
        refine jo_l (ly_mv rfl) (hd 77 rfl) ?_
        refine jo_l (ly_not rfl) (hd 78 rfl) ?_
        refine jo_l (ly_as rfl) (hd 13 rfl) ?_
        refine jo_nil ?_
        refine ⟨(qn v w + 1, (w.natAbs : Int) - rn v w, !decide (v < 0)), ?_, rfl, cov_n 40 rfl rfl ?_⟩
        · have hy := way_yes (k := 2) h0 hrn hg
          exact ⟨hy.1, hy.2, by show 0 ≤ qn v w + 1; omega, by show 0 ≤ (w.natAbs : Int) - rn v w; omega⟩
        · exact (.cons rfl (.cons rfl (.cons rfl (.u (.u (.u (.u (.u (.u (.u (.u (.u (.u (.u (.u (.u (.u (.u (.u (.u (.u (.u (.u (.u (.u (.u (.u (.u (.u (.u (.u (.u (.u (.u (.u (.u (.u (.u (.u (.u (.u (.u (.u .nil)))))))))))))))))))))))))))))))))))))))))))
      · have hg : gro 2 v w = false := h3
        refine jc_skip ?_
        refine ⟨(qn v w, rn v w, decide (v < 0)), ?_, rfl, cov_n 19 rfl rfl ?_⟩
        · have hy := way_no (k := 2) h0 (by first | exact .inl hrn | exact .inr hg)
          exact ⟨hy.1, hy.2, hq0, hr0⟩
        · exact (.cons rfl (.cons rfl (.cons rfl (.u (.u (.u (.u (.u (.u (.u (.u (.u (.u (.u (.u (.u (.u (.u (.u (.u (.u (.u (.u (.u (.u (.u (.u (.u (.u (.u (.u (.u (.u (.u (.u (.u (.u (.u (.u (.u (.u (.u (.u .nil)))))))))))))))))))))))))))))))))))))))))))
    · have hrn : rn v w = 0 := lenV_0.1 (by omega)
      refine ja_l2 5 [6, 16, 17] (lo_s 44 rfl rfl rfl (hd 46 rfl)) rfl (by kernel_rfl) (by kernel_rfl) (by kernel_rfl) (by kernel_rfl) (fun _ _ _ _ h => h) ?_
      refine ja_l2 7 [16, 17] (lo_s 44 rfl rfl rfl (hd 48 rfl)) rfl (by kernel_rfl) (by kernel_rfl) (by kernel_rfl) (by kernel_rfl) (fun _ _ _ _ h => h) ?_
      refine ja_l2 8 [16, 17] (lo_s 44 rfl rfl rfl (hd 49 rfl)) rfl (by kernel_rfl) (by kernel_rfl) (by kernel_rfl) (by kernel_rfl) (fun _ _ _ _ h => h) ?_
      refine ja_l2 9 [10, 16, 17] (lo_s 44 rfl rfl rfl (hd 50 rfl)) rfl (by kernel_rfl) (by kernel_rfl) (by kernel_rfl) (by kernel_rfl) (fun _ _ _ _ h => h) ?_
      refine ja_l2 10 [16, 17] (lo_s 44 rfl rfl rfl (hd 51 rfl)) rfl (by kernel_rfl) (by kernel_rfl) (by kernel_rfl) (by kernel_rfl) (fun _ _ _ _ h => h) ?_
      refine ja_l2 11 [16, 17] (lo_s 44 rfl rfl rfl (hd 52 rfl)) rfl (by kernel_rfl) (by kernel_rfl) (by kernel_rfl) (by kernel_rfl) (fun _ _ _ _ h => h) ?_
      refine ja_l2 12 [13, 16, 17] (lo_s 44 rfl rfl rfl (hd 53 rfl)) rfl (by kernel_rfl) (by kernel_rfl) (by kernel_rfl) (by kernel_rfl) (fun _ _ _ _ h => h) ?_
      refine ja_l2 13 [16, 17] (lo_s 44 rfl rfl rfl (hd 54 rfl)) rfl (by kernel_rfl) (by kernel_rfl) (by kernel_rfl) (by kernel_rfl) (fun _ _ _ _ h => h) ?_
      refine ja_l2 14 [15, 16, 17] (lo_s 44 rfl rfl rfl (hd 55 rfl)) rfl (by kernel_rfl) (by kernel_rfl) (by kernel_rfl) (by kernel_rfl) (fun _ _ _ _ h => h) ?_
      refine ja_l2 15 [16, 17] (lo_s 44 rfl rfl rfl (hd 56 rfl)) rfl (by kernel_rfl) (by kernel_rfl) (by kernel_rfl) (by kernel_rfl) (fun _ _ _ _ h => h) ?_
      refine ja_l2 4 [6, 16, 17] (lo_s 44 rfl rfl rfl (hd 45 rfl)) rfl (by kernel_rfl) (by kernel_rfl) (by kernel_rfl) (by kernel_rfl) (fun _ _ _ _ h => h) ?_
      refine ja_l2 6 [16, 17] (lo_s 44 rfl rfl rfl (hd 47 rfl)) rfl (by kernel_rfl) (by kernel_rfl) (by kernel_rfl) (by kernel_rfl) (fun _ _ _ _ h => h) ?_
      refine ja_l 16 (lo_s 44 rfl rfl rfl (hd 57 rfl)) rfl (by kernel_rfl) (by kernel_rfl) (by kernel_rfl) (fun _ _ _ _ h => h) ?_
      refine ja_l 17 (lo_l (ly_pick_f rfl rfl) (hd 58 rfl)) rfl (by kernel_rfl) (by kernel_rfl) (by kernel_rfl) (fun _ _ _ _ h => h) ?_
      refine ja_nil (by kernel_rfl) ?_
      refine jc_litf rfl ?_
      refine jc_skip ?_
      refine ⟨(qn v w, rn v w, decide (v < 0)), ?_, rfl, cov_n 19 rfl rfl ?_⟩
      · have hy := way_no (k := 2) h0 (by first | exact .inl hrn | exact .inr hg)
        exact ⟨hy.1, hy.2, hq0, hr0⟩
      · exact (.cons rfl (.cons rfl (.cons rfl (.u (.u (.u (.u (.u (.u (.u (.u (.u (.u (.u (.u (.u (.u (.u (.u (.u (.u (.u (.u (.u (.u (.u (.u (.u (.u (.u (.u (.u (.u (.u (.u (.u (.u (.u (.u (.u (.u (.u (.u .nil)))))))))))))))))))))))))))))))))))))))))))
  · rintro ⟨q, r, rs⟩ ⟨hc1, hc2, hc3, hc4⟩
    dsimp only at hc1 hc2 hc3 hc4
    have hq1 : lenV q ≤ 67108864 := by have := lenV_mono (v := q) (w := (wq 2 v w)) (by rw [← hc1, sgd_abs]; exact Nat.le_refl _); omega
    have hr2 : lenV r ≤ 67108864 := by have := lenV_mono (v := r) (w := (v - wq 2 v w * w)) (by rw [← hc2, sgd_abs]; exact Nat.le_refl _); omega
    have hql := lenV_lm hq1
    have hrl := lenV_lm hr2
    refine jc_seq ?_
    refine jc_region ?_
    refine jo_l (ly_mv rfl) (hd 80 rfl) ?_
    refine jo_l (ly_mv rfl) (hd 81 rfl) ?_
    refine jo_callN Try.f75 (result_nv (ng v w) (lm q) (wq 2 v w) (by omega) (lm_u q) (by rw [sv_sgd hc3]; exact hc1) (by omega)) (fun o G ⟨_, h⟩ => h ▸ idless_cons ints_id idless_nil) rfl Try.func75 rfl rfl (ovL_cons rfl (ovL_cons rfl (ovL_cons rfl ovL_nil))) (.cons .b (.cons .n (.cons .i .nil))) (hd 82 rfl) ?_ (fun ch G hp => by simp at hp)
    rintro y G ⟨hy, rfl⟩
    injection hy with hy
    subst hy
    show JO _ _ _ _ ((82, .t [.a [.b (decide ((wq 2 v w) < 0)), .o 4 0 0 (lm (wq 2 v w)).length], .i .i64 0]) :: _) _ _
    refine jo_l (ly_mv rfl) (hd 79 rfl) ?_
    refine jo_l (ly_ext rfl rfl) (hd 83 rfl) ?_
    refine jo_l (ly_ext rfl rfl) (hd 84 rfl) ?_
    refine jo_h (hy_alloc (id := 5) zero30 (by decide) rfl (by decide) rfl) (hd 14 rfl) ?_
    refine jo_st (sy_store rfl rfl rfl siz30 rfl rfl (Nat.le_of_ble_eq_true rfl)) ?_
    refine jo_l (ly_as rfl) (hd 11 rfl) ?_
    refine jo_nil ?_
    refine jc_seq ?_
    refine jc_seq ?_
    refine jc_region ?_
    refine jo_l (ly_mv rfl) (hd 85 rfl) ?_
    refine jo_l (ly_ff (ly_ne rfl rfl) (by simp)) (hd 86 rfl) ?_
    refine jo_nil ?_
    refine jc_litf rfl ?_
    refine jc_skip ?_
    refine jc_seq ?_
    refine jc_region ?_
    refine jo_l (ly_mv rfl) (hd 91 rfl) ?_
    refine jo_l (ly_mv rfl) (hd 92 rfl) ?_
    refine jo_callN Try.f75 (result_nv rs (lm r) (v - wq 2 v w * w) (by omega) (lm_u r) (by rw [sv_sgd hc4]; exact hc2) (by omega)) (fun o G ⟨_, h⟩ => h ▸ idless_cons ints_id idless_nil) rfl Try.func75 rfl rfl (ovL_cons rfl (ovL_cons rfl (ovL_cons rfl ovL_nil))) (.cons .b (.cons .n (.cons .i .nil))) (hd 93 rfl) ?_ (fun ch G hp => by simp at hp)
    rintro y G ⟨hy, rfl⟩
    injection hy with hy
    subst hy
    show JO _ _ _ _ ((93, .t [.a [.b (decide ((v - wq 2 v w * w) < 0)), .o 6 0 0 (lm (v - wq 2 v w * w)).length], .i .i64 0]) :: _) _ _
    refine jo_l (ly_mv rfl) (hd 90 rfl) ?_
    refine jo_l (ly_ext rfl rfl) (hd 94 rfl) ?_
    refine jo_l (ly_ext rfl rfl) (hd 95 rfl) ?_
    refine jo_h (hy_alloc (id := 7) zero30 (by decide) rfl (by decide) rfl) (hd 15 rfl) ?_
    refine jo_st (sy_store rfl rfl rfl siz30 rfl rfl (Nat.le_of_ble_eq_true rfl)) ?_
    refine jo_l (ly_as rfl) (hd 11 rfl) ?_
    refine jo_nil ?_
    refine jc_seq ?_
    refine jc_seq ?_
    refine jc_region ?_
    refine jo_l (ly_mv rfl) (hd 96 rfl) ?_
    refine jo_l (ly_ff (ly_ne rfl rfl) (by simp)) (hd 97 rfl) ?_
    refine jo_nil ?_
    refine jc_litf rfl ?_
    refine jc_skip ?_
    refine jc_seq ?_
    refine jc_draw (n := 5) _ rfl mixed ?_
    refine ja_l 0 (lo_l (ly_lda agg30 rfl rfl rfl rfl) (hd 101 rfl)) rfl (by kernel_rfl) (by kernel_rfl) (by kernel_rfl) (fun _ _ _ _ h => h) ?_
    refine ja_2 1 2 ?_ ?_ rfl rfl (by kernel_rfl)
    · refine js_l (ly_lda agg30 rfl rfl rfl rfl) (hd 102 rfl) ?_
      refine ja_1 2 ?_ rfl (by kernel_rfl)
      refine js_st (sy_store rfl rfl rfl siz30 rfl rfl (Nat.le_of_ble_eq_true rfl)) rfl ?_
      refine ja_1 3 ?_ rfl (by kernel_rfl)
      refine js_st (sy_store rfl rfl rfl siz30 rfl rfl (Nat.le_of_ble_eq_true rfl)) rfl ?_
      refine ja_l 4 (lo_l (ly_as rfl) (hd 8 rfl)) rfl (by kernel_rfl) (by kernel_rfl) (by kernel_rfl) (fun _ _ _ _ h => h) ?_
      refine ja_nil (by kernel_rfl) ?_
      refine jc_ret ?_
      refine ⟨[4, 6], _, (.t [.a [.b (decide ((wq 2 v w) < 0)), .o 0 0 0 (lm (wq 2 v w)).length], .a [.b (decide ((v - wq 2 v w * w) < 0)), .o 1 0 0 (lm (v - wq 2 v w * w)).length], .i .i64 0]), (.cons (ResV.cell agg30 rfl rfl rfl rfl) (.cons (ResV.cell agg30 rfl rfl rfl rfl) (.cons rfl .nil))), rfl, rfl, (by decide), (by first | exact idless_cons ints_id (idless_cons ints_id idless_nil) | exact idless_cons rfl (idless_cons rfl idless_nil)), ?_⟩
      exact ⟨rfl, rfl⟩
    · refine js_st (sy_store rfl rfl rfl siz30 rfl rfl (Nat.le_of_ble_eq_true rfl)) rfl ?_
      refine ja_l 1 (lo_l (ly_lda agg30 rfl rfl rfl rfl) (hd 102 rfl)) rfl (by kernel_rfl) (by kernel_rfl) (by kernel_rfl) (fun _ _ _ _ h => h) ?_
      refine ja_1 3 ?_ rfl (by kernel_rfl)
      refine js_st (sy_store rfl rfl rfl siz30 rfl rfl (Nat.le_of_ble_eq_true rfl)) rfl ?_
      refine ja_l 4 (lo_l (ly_as rfl) (hd 8 rfl)) rfl (by kernel_rfl) (by kernel_rfl) (by kernel_rfl) (fun _ _ _ _ h => h) ?_
      refine ja_nil (by kernel_rfl) ?_
      refine jc_ret ?_
      refine ⟨[4, 6], _, (.t [.a [.b (decide ((wq 2 v w) < 0)), .o 0 0 0 (lm (wq 2 v w)).length], .a [.b (decide ((v - wq 2 v w * w) < 0)), .o 1 0 0 (lm (v - wq 2 v w * w)).length], .i .i64 0]), (.cons (ResV.cell agg30 rfl rfl rfl rfl) (.cons (ResV.cell agg30 rfl rfl rfl rfl) (.cons rfl .nil))), rfl, rfl, (by decide), (by first | exact idless_cons ints_id (idless_cons ints_id idless_nil) | exact idless_cons rfl (idless_cons rfl idless_nil)), ?_⟩
      exact ⟨rfl, rfl⟩

set_option maxHeartbeats 4000000 in
theorem divide_n3 (s t : Bool) (a b : List Int) (v w : Int) (la : a.length < 1099511627776) (lb : b.length < 1099511627776) (ua : u64s a) (ub : u64s b) (ev : sv s a = v) (ew : sv t b = w) (hv : lenV v ≤ 67108864) (hw : lenV w ≤ 67108864) (h0 : w ≠ 0) : SpecM Try.prog 62 [.a [.b s, .n false .u64 a], .a [.b t, .n false .u64 b], .i .i64 3] [] (fun o G => o = .ret (.t [.a [.b (decide ((wq 3 v w) < 0)), .o 0 0 0 (lm (wq 3 v w)).length], .a [.b (decide ((v - wq 3 v w * w) < 0)), .o 1 0 0 (lm (v - wq 3 v w * w)).length], .i .i64 0]) ∧ G = [⟨82, 1, 0, true, ints .u64 (lm (wq 3 v w))⟩, ⟨82, 1, 0, true, ints .u64 (lm (v - wq 3 v w * w))⟩]) := by
  refine specS_of [(0, .a [.b s, .n false .u64 a]), (1, .a [.b t, .n false .u64 b]), (2, .i .i64 3)] rfl Try.func62 rfl (Nat.le_of_ble_eq_true rfl) fun Γ hN hds hL hR => ?_
  have hd : ∀ d, Nat.blt d 103 = true → d < Γ.N := fun d h => by rw [hN]; exact Nat.le_of_ble_eq_true h
  have hlv := lenV_lm hv
  have hlw := lenV_lm hw
  obtain ⟨hx, hr0, hr1, hq0⟩ := qr_facts (v := v) h0
  have hle := lenV_mono (v := qn v w) (w := v) qn_le
  have hlr := lenV_mono (v := rn v w) (w := w) (rn_le h0).1
  have hlR := lenV_lm (v := rn v w) (by omega)
  have habs : lm (w.natAbs : Int) = lm w := by unfold lm; rw [Int.natAbs_natCast]
  have hlenw : lenV (w.natAbs : Int) = lenV w := by unfold lenV; rw [Int.natAbs_natCast]
  have hS := Sub_v (w.natAbs : Int) (rn v w) hr0 (by omega) (by omega)
  rw [habs] at hS
  have hwl := wq_len (k := 3) (v := v) h0
  refine jc_seq ?_
  refine jc_region ?_
  refine jo_h (hy_box (id := 0) (n := 2) rfl rfl rfl (by decide) rfl) (hd 3 rfl) ?_
  refine jo_h (hy_box (id := 1) (n := 2) rfl rfl rfl (by decide) rfl) (hd 4 rfl) ?_
  refine jo_h (hy_alloc (id := 2) zero30 (by decide) rfl (by decide) rfl) (hd 6 rfl) ?_
  refine jo_h (hy_alloc (id := 3) zero30 (by decide) rfl (by decide) rfl) (hd 7 rfl) ?_
  refine jo_l (ly_as rfl) (hd 8 rfl) ?_
  refine jo_nil ?_
  refine jc_seq ?_
  refine jc_draw (n := 6) _ rfl mixed ?_
  refine ja_l2 0 [1, 3, 4, 5] (lo_l (ly_lda agg30 rfl rfl rfl rfl) (hd 16 rfl)) rfl (by kernel_rfl) (by kernel_rfl) (by kernel_rfl) (by kernel_rfl) (fun _ _ _ _ h => h) ?_
  refine ja_l2 2 [3, 4, 5] (lo_l (ly_lda agg30 rfl rfl rfl rfl) (hd 18 rfl)) rfl (by kernel_rfl) (by kernel_rfl) (by kernel_rfl) (by kernel_rfl) (fun _ _ _ _ h => h) ?_
  refine ja_1 1 ?_ rfl (by kernel_rfl)
  refine js_call Try.f73 (norm_v s a v la ua ev) rfl Try.func73 rfl rfl (ovL_cons rfl ovL_nil) (.cons (.a1 .b (.a1 .n .a0)) .nil) (hd 17 rfl) ?_ (fun ch hp => by simp at hp)
  rintro y hy; injection hy with hy; subst hy
  refine ja_1 3 ?_ rfl (by kernel_rfl)
  refine js_call Try.f73 (norm_v t b w lb ub ew) rfl Try.func73 rfl rfl (ovL_cons rfl ovL_nil) (.cons (.a1 .b (.a1 .n .a0)) .nil) (hd 19 rfl) ?_ (fun ch hp => by simp at hp)
  rintro y hy; injection hy with hy; subst hy
  refine ja_1 4 ?_ rfl (by kernel_rfl)
  refine js_st (sy_store rfl rfl rfl siz30 rfl rfl (Nat.le_of_ble_eq_true rfl)) rfl ?_
  refine ja_1 5 ?_ rfl (by kernel_rfl)
  refine js_st (sy_store rfl rfl rfl siz30 rfl rfl (Nat.le_of_ble_eq_true rfl)) rfl ?_
  refine ja_nil (by kernel_rfl) ?_
  refine jc_seq ?_
  refine jc_region ?_
  refine jo_l (ly_fa fld30_1 rfl rfl rfl) (hd 21 rfl) ?_
  refine jo_l (ly_ld one28 rfl rfl rfl) (hd 22 rfl) ?_
  refine jo_l (ly_fa fld30_1 rfl rfl rfl) (hd 23 rfl) ?_
  refine jo_l (ly_ld one28 rfl rfl rfl) (hd 24 rfl) ?_
  refine jo_call Try.f81 (Both_v v w hv hw h0) rfl Try.func81 rfl rfl (ovL_cons rfl (ovL_cons rfl ovL_nil)) (.cons .n (.cons .n .nil)) (hd 25 rfl) ?_ (fun ch hp => by simp at hp)
  rintro y hy; injection hy with hy; subst hy
  refine jo_l (ly_mv rfl) (hd 20 rfl) ?_
  refine jo_l (ly_ext rfl rfl) (hd 26 rfl) ?_
  refine jo_l (ly_ext rfl rfl) (hd 27 rfl) ?_
  refine jo_l (ly_ext rfl rfl) (hd 28 rfl) ?_
  refine jo_l (ly_as rfl) (hd 9 rfl) ?_
  refine jo_l (ly_as rfl) (hd 10 rfl) ?_
  refine jo_l (ly_as rfl) (hd 11 rfl) ?_
  refine jo_nil ?_
  refine jc_seq ?_
  refine jc_seq ?_
  refine jc_region ?_
  refine jo_l (ly_mv rfl) (hd 29 rfl) ?_
  refine jo_l (ly_ff (ly_ne rfl rfl) (by simp)) (hd 30 rfl) ?_
  refine jo_nil ?_
  refine jc_litf rfl ?_
  refine jc_skip ?_
  refine jc_seq ?_
  refine jc_draw (n := 9) _ rfl mixed ?_
  refine ja_l2 0 [1, 4, 7, 8] (lo_l (ly_fa fld30_0 rfl rfl rfl) (hd 34 rfl)) rfl (by kernel_rfl) (by kernel_rfl) (by kernel_rfl) (by kernel_rfl) (fun _ _ _ _ h => h) ?_
  refine ja_l 1 (lo_l (ly_ld one4 rfl rfl rfl) (hd 35 rfl)) rfl (by kernel_rfl) (by kernel_rfl) (by kernel_rfl) (fun _ _ _ _ h => h) ?_
  refine ja_l2 2 [3, 4, 7, 8] (lo_l (ly_fa fld30_0 rfl rfl rfl) (hd 36 rfl)) rfl (by kernel_rfl) (by kernel_rfl) (by kernel_rfl) (by kernel_rfl) (fun _ _ _ _ h => h) ?_
  refine ja_l 3 (lo_l (ly_ld one4 rfl rfl rfl) (hd 37 rfl)) rfl (by kernel_rfl) (by kernel_rfl) (by kernel_rfl) (fun _ _ _ _ h => h) ?_
  refine ja_l 4 (lo_l (ly_is (ly_neb und4 rfl rfl) (show V.b _ = V.b (ng v w) from rfl)) (hd 38 rfl)) rfl (by kernel_rfl) (by kernel_rfl) (by kernel_rfl) (fun _ _ _ _ h => h) ?_
  refine ja_l 5 (lo_l (ly_fa fld30_0 rfl rfl rfl) (hd 39 rfl)) rfl (by kernel_rfl) (by kernel_rfl) (by kernel_rfl) (fun _ _ _ _ h => h) ?_
  refine ja_l 6 (lo_l (ly_ld one4 rfl rfl rfl) (hd 40 rfl)) rfl (by kernel_rfl) (by kernel_rfl) (by kernel_rfl) (fun _ _ _ _ h => h) ?_
  refine ja_l 7 (lo_l (ly_as rfl) (hd 12 rfl)) rfl (by kernel_rfl) (by kernel_rfl) (by kernel_rfl) (fun _ _ _ _ h => h) ?_
  refine ja_l 8 (lo_l (ly_as rfl) (hd 13 rfl)) rfl (by kernel_rfl) (by kernel_rfl) (by kernel_rfl) (fun _ _ _ _ h => h) ?_
  refine ja_nil (by kernel_rfl) ?_
  refine jc_meetH (G := Int × Int × Bool) (fun g => sgd (ng v w) g.1 = (wq 3 v w) ∧ sgd g.2.2 g.2.1 = (v - wq 3 v w * w) ∧ 0 ≤ g.1 ∧ 0 ≤ g.2.1) (fun g => [(9, .n false .u64 (lm g.1)), (10, .n false .u64 (lm g.2.1)), (13, .b g.2.2), (8, .u), (11, .u), (41, .u), (42, .u), (43, .u), (44, .u), (45, .u), (46, .u), (47, .u), (48, .u), (49, .u), (50, .u), (51, .u), (52, .u), (53, .u), (54, .u), (55, .u), (56, .u), (57, .u), (58, .u), (59, .u), (60, .u), (61, .u), (62, .u), (63, .u), (64, .u), (65, .u), (66, .u), (67, .u), (68, .u), (69, .u), (70, .u), (71, .u), (72, .u), (73, .u), (74, .u), (75, .u), (76, .u), (77, .u), (78, .u)]) ?_ ?_
  · refine jc_seq ?_
    refine jc_draw (n := 18) _ rfl mixed ?_
    refine ja_l2 0 [1, 2, 3, 4, 5, 6, 7, 8, 9, 10, 11, 12, 13, 14, 15, 16, 17] (lo_l (ly_mv rfl) (hd 41 rfl)) rfl (by kernel_rfl) (by kernel_rfl) (by kernel_rfl) (by kernel_rfl) (fun _ _ _ _ h => h) ?_
    refine ja_1 1 ?_ rfl (by kernel_rfl)
    refine js_call Try.f66 (Length_v (rn v w) (by omega)) rfl Try.func66 rfl rfl (ovL_cons rfl ovL_nil) (.cons .n .nil) (hd 42 rfl) ?_ (fun ch hp => by simp at hp)
    rintro y hy; injection hy with hy; subst hy
    refine ja_l2 2 [3, 4, 5, 6, 7, 8, 9, 10, 11, 12, 13, 14, 15, 16, 17] (lo_l (ly_gt rfl rfl) (hd 43 rfl)) rfl (by kernel_rfl) (by kernel_rfl) (by kernel_rfl) (by kernel_rfl) (fun _ _ _ _ h => h) ?_
    refine ja_l 3 (lo_l (ly_mv rfl) (hd 44 rfl)) rfl (by kernel_rfl) (by kernel_rfl) (by kernel_rfl) (fun _ _ _ _ h => h) ?_
    refine ja_ifp 44 rfl (fun h2 => ?_) (fun h2 => ?_)
    · have hrn : rn v w ≠ 0 := fun e => by have := lenV_0.2 e; omega
      refine ja_l2 5 [6, 16, 17] (lo_g 44 rfl rfl (ly_mv rfl) (hd 46 rfl)) rfl (by kernel_rfl) (by kernel_rfl) (by kernel_rfl) (by kernel_rfl) (fun _ _ _ _ h => h) ?_
      refine ja_l2 7 [16, 17] (lo_g 44 rfl rfl (ly_mv rfl) (hd 48 rfl)) rfl (by kernel_rfl) (by kernel_rfl) (by kernel_rfl) (by kernel_rfl) (fun _ _ _ _ h => h) ?_
      refine ja_l2 8 [16, 17] (lo_g 44 rfl rfl (ly_mv rfl) (hd 49 rfl)) rfl (by kernel_rfl) (by kernel_rfl) (by kernel_rfl) (by kernel_rfl) (fun _ _ _ _ h => h) ?_
      refine ja_l2 9 [10, 16, 17] (lo_g 44 rfl rfl (ly_fa fld30_1 rfl rfl rfl) (hd 50 rfl)) rfl (by kernel_rfl) (by kernel_rfl) (by kernel_rfl) (by kernel_rfl) (fun _ _ _ _ h => h) ?_
      refine ja_l2 10 [16, 17] (lo_g 44 rfl rfl (ly_ld one28 rfl rfl rfl) (hd 51 rfl)) rfl (by kernel_rfl) (by kernel_rfl) (by kernel_rfl) (by kernel_rfl) (fun _ _ _ _ h => h) ?_
      refine ja_l2 11 [16, 17] (lo_g 44 rfl rfl (ly_mv rfl) (hd 52 rfl)) rfl (by kernel_rfl) (by kernel_rfl) (by kernel_rfl) (by kernel_rfl) (fun _ _ _ _ h => h) ?_
      refine ja_l2 12 [13, 16, 17] (lo_g 44 rfl rfl (ly_fa fld30_0 rfl rfl rfl) (hd 53 rfl)) rfl (by kernel_rfl) (by kernel_rfl) (by kernel_rfl) (by kernel_rfl) (fun _ _ _ _ h => h) ?_
      refine ja_l2 13 [16, 17] (lo_g 44 rfl rfl (ly_ld one4 rfl rfl rfl) (hd 54 rfl)) rfl (by kernel_rfl) (by kernel_rfl) (by kernel_rfl) (by kernel_rfl) (fun _ _ _ _ h => h) ?_
      refine ja_l2 14 [15, 16, 17] (lo_g 44 rfl rfl (ly_fa fld30_0 rfl rfl rfl) (hd 55 rfl)) rfl (by kernel_rfl) (by kernel_rfl) (by kernel_rfl) (by kernel_rfl) (fun _ _ _ _ h => h) ?_
      refine ja_l2 15 [16, 17] (lo_g 44 rfl rfl (ly_ld one4 rfl rfl rfl) (hd 56 rfl)) rfl (by kernel_rfl) (by kernel_rfl) (by kernel_rfl) (by kernel_rfl) (fun _ _ _ _ h => h) ?_
      refine ja_1 4 ?_ rfl (by kernel_rfl)
      refine js_callg Try.f82 44 rfl rfl (ways_s) rfl Try.func82 rfl rfl ovL_nil .nil (hd 45 rfl) ?_ (fun ch hp => by simp at hp)
      rintro y hy; injection hy with hy; subst hy
      refine ja_l2 6 [16, 17] (lo_g 44 rfl rfl (ly_ixa (i := 3) undA102 one101 rfl rfl rfl (by decide) rfl) (hd 47 rfl)) rfl (by kernel_rfl) (by kernel_rfl) (by kernel_rfl) (by kernel_rfl) (fun _ _ _ _ h => h) ?_
      refine ja_1 16 ?_ rfl (by kernel_rfl)
      refine js_callg Try.f97 44 rfl rfl (way3_v v w hv hw h0) rfl Try.func97 rfl rfl (ovL_cons rfl (ovL_cons rfl (ovL_cons rfl (ovL_cons rfl (ovL_cons rfl (ovL_cons rfl ovL_nil)))))) (.cons .n (.cons .n (.cons .n (.cons .b (.cons .b (.cons .b .nil)))))) (hd 57 rfl) ?_ (fun ch hp => by simp at hp)
      rintro y hy; injection hy with hy; subst hy
      refine ja_l 17 (lo_l (ly_pick_t rfl rfl) (hd 58 rfl)) rfl (by kernel_rfl) (by kernel_rfl) (by kernel_rfl) (fun _ _ _ _ h => h) ?_
      refine ja_nil (by kernel_rfl) ?_
      refine jc_cond rfl (fun h3 => ?_) (fun h3 => ?_)
      · have hg : gro 3 v w = true := h3
        refine jc_seq ?_
        refine jc_seq ?_
        refine jc_region ?_
        refine jo_l (ly_mv rfl) (hd 60 rfl) ?_
        refine jo_call Try.f70 (From1_v) rfl Try.func70 rfl rfl (ovL_cons rfl ovL_nil) (.cons .i .nil) (hd 61 rfl) ?_ (fun ch hp => by simp at hp)
        rintro y hy; injection hy with hy; subst hy
        refine jo_call Try.f74 (Add1_v (qn v w) hq0 (by have := lenV_mono (qn1_le h0 hrn); omega)) rfl Try.func74 rfl rfl (ovL_cons rfl (ovL_cons rfl ovL_nil)) (.cons .n (.cons .n .nil)) (hd 62 rfl) ?_ (fun ch hp => by simp at hp)
        rintro y hy; injection hy with hy; subst hy
        refine jo_l (ly_mv rfl) (hd 59 rfl) ?_
        refine jo_l (ly_ext rfl rfl) (hd 63 rfl) ?_
        refine jo_l (ly_ext rfl rfl) (hd 64 rfl) ?_
        refine jo_l (ly_as rfl) (hd 9 rfl) ?_
        refine jo_l (ly_as rfl) (hd 11 rfl) ?_
        refine jo_nil ?_
        refine jc_seq ?_
        refine jc_region ?_
        refine jo_l (ly_mv rfl) (hd 65 rfl) ?_
        refine jo_l (ly_ff (ly_ne rfl rfl) (by simp)) (hd 66 rfl) ?_
        refine jo_nil ?_
        refine jc_litf rfl ?_
        refine jc_skip ?_
        refine jc_seq ?_
        refine jc_region ?_
        refine jo_l (ly_fa fld30_1 rfl rfl rfl) (hd 71 rfl) ?_
        refine jo_l (ly_ld one28 rfl rfl rfl) (hd 72 rfl) ?_
        refine jo_l (ly_mv rfl) (hd 73 rfl) ?_
        refine jo_call Try.f76 (hS) rfl Try.func76 rfl rfl (ovL_cons rfl (ovL_cons rfl ovL_nil)) (.cons .n (.cons .n .nil)) (hd 74 rfl) ?_ (fun ch hp => by simp at hp)
        rintro y hy; injection hy with hy; subst hy
        refine jo_l (ly_mv rfl) (hd 70 rfl) ?_
        refine jo_l (ly_ext rfl rfl) (hd 75 rfl) ?_
        refine jo_l (ly_ext rfl rfl) (hd 76 rfl) ?_
        refine jo_l (ly_as rfl) (hd 10 rfl) ?_
        refine jo_nil ?_
        refine jc_region ?_
        refine jo_l (ly_mv rfl) (hd 77 rfl) ?_
        refine jo_l (ly_not rfl) (hd 78 rfl) ?_
        refine jo_l (ly_as rfl) (hd 13 rfl) ?_
        refine jo_nil ?_
        refine ⟨(qn v w + 1, (w.natAbs : Int) - rn v w, !decide (v < 0)), ?_, rfl, cov_n 40 rfl rfl ?_⟩
        · have hy := way_yes (k := 3) h0 hrn hg
          exact ⟨hy.1, hy.2, by show 0 ≤ qn v w + 1; omega, by show 0 ≤ (w.natAbs : Int) - rn v w; omega⟩
        · exact (.cons rfl (.cons rfl (.cons rfl (.u (.u (.u (.u (.u (.u (.u (.u (.u (.u (.u (.u (.u (.u (.u (.u (.u (.u (.u (.u (.u (.u (.u (.u (.u (.u (.u (.u (.u (.u (.u (.u (.u (.u (.u (.u (.u (.u (.u (.u .nil)))))))))))))))))))))))))))))))))))))))))))
      · have hg : gro 3 v w = false := h3
        refine jc_skip ?_
        refine ⟨(qn v w, rn v w, decide (v < 0)), ?_, rfl, cov_n 19 rfl rfl ?_⟩
        · have hy := way_no (k := 3) h0 (by first | exact .inl hrn | exact .inr hg)
          exact ⟨hy.1, hy.2, hq0, hr0⟩
        · exact (.cons rfl (.cons rfl (.cons rfl (.u (.u (.u (.u (.u (.u (.u (.u (.u (.u (.u (.u (.u (.u (.u (.u (.u (.u (.u (.u (.u (.u (.u (.u (.u (.u (.u (.u (.u (.u (.u (.u (.u (.u (.u (.u (.u (.u (.u (.u .nil)))))))))))))))))))))))))))))))))))))))))))
    · have hrn : rn v w = 0 := lenV_0.1 (by omega)
      refine ja_l2 5 [6, 16, 17] (lo_s 44 rfl rfl rfl (hd 46 rfl)) rfl (by kernel_rfl) (by kernel_rfl) (by kernel_rfl) (by kernel_rfl) (fun _ _ _ _ h => h) ?_
      refine ja_l2 7 [16, 17] (lo_s 44 rfl rfl rfl (hd 48 rfl)) rfl (by kernel_rfl) (by kernel_rfl) (by kernel_rfl) (by kernel_rfl) (fun _ _ _ _ h => h) ?_
      refine ja_l2 8 [16, 17] (lo_s 44 rfl rfl rfl (hd 49 rfl)) rfl (by kernel_rfl) (by kernel_rfl) (by kernel_rfl) (by kernel_rfl) (fun _ _ _ _ h => h) ?_
      refine ja_l2 9 [10, 16, 17] (lo_s 44 rfl rfl rfl (hd 50 rfl)) rfl (by kernel_rfl) (by kernel_rfl) (by kernel_rfl) (by kernel_rfl) (fun _ _ _ _ h => h) ?_
      refine ja_l2 10 [16, 17] (lo_s 44 rfl rfl rfl (hd 51 rfl)) rfl (by kernel_rfl) (by kernel_rfl) (by kernel_rfl) (by kernel_rfl) (fun _ _ _ _ h => h) ?_
      refine ja_l2 11 [16, 17] (lo_s 44 rfl rfl rfl (hd 52 rfl)) rfl (by kernel_rfl) (by kernel_rfl) (by kernel_rfl) (by kernel_rfl) (fun _ _ _ _ h => h) ?_
      refine ja_l2 12 [13, 16, 17] (lo_s 44 rfl rfl rfl (hd 53 rfl)) rfl (by kernel_rfl) (by kernel_rfl) (by kernel_rfl) (by kernel_rfl) (fun _ _ _ _ h => h) ?_
      refine ja_l2 13 [16, 17] (lo_s 44 rfl rfl rfl (hd 54 rfl)) rfl (by kernel_rfl) (by kernel_rfl) (by kernel_rfl) (by kernel_rfl) (fun _ _ _ _ h => h) ?_
      refine ja_l2 14 [15, 16, 17] (lo_s 44 rfl rfl rfl (hd 55 rfl)) rfl (by kernel_rfl) (by kernel_rfl) (by kernel_rfl) (by kernel_rfl) (fun _ _ _ _ h => h) ?_
      refine ja_l2 15 [16, 17] (lo_s 44 rfl rfl rfl (hd 56 rfl)) rfl (by kernel_rfl) (by kernel_rfl) (by kernel_rfl) (by kernel_rfl) (fun _ _ _ _ h => h) ?_
      refine ja_l2 4 [6, 16, 17] (lo_s 44 rfl rfl rfl (hd 45 rfl)) rfl (by kernel_rfl) (by kernel_rfl) (by kernel_rfl) (by kernel_rfl) (fun _ _ _ _ h => h) ?_
      refine ja_l2 6 [16, 17] (lo_s 44 rfl rfl rfl (hd 47 rfl)) rfl (by kernel_rfl) (by kernel_rfl) (by kernel_rfl) (by kernel_rfl) (fun _ _ _ _ h => h) ?_
      refine ja_l 16 (lo_s 44 rfl rfl rfl (hd 57 rfl)) rfl (by kernel_rfl) (by kernel_rfl) (by kernel_rfl) (fun _ _ _ _ h => h) ?_
      refine ja_l 17 (lo_l (ly_pick_f rfl rfl) (hd 58 rfl)) rfl (by kernel_rfl) (by kernel_rfl) (by kernel_rfl) (fun _ _ _ _ h => h) ?_
      refine ja_nil (by kernel_rfl) ?_
      refine jc_litf rfl ?_
      refine jc_skip ?_
      refine ⟨(qn v w, rn v w, decide (v < 0)), ?_, rfl, cov_n 19 rfl rfl ?_⟩
      · have hy := way_no (k := 3) h0 (by first | exact .inl hrn | exact .inr hg)
        exact ⟨hy.1, hy.2, hq0, hr0⟩
      · exact (.cons rfl (.cons rfl (.cons rfl (.u (.u (.u (.u (.u (.u (.u (.u (.u (.u (.u (.u (.u (.u (.u (.u (.u (.u (.u (.u (.u (.u (.u (.u (.u (.u (.u (.u (.u (.u (.u (.u (.u (.u (.u (.u (.u (.u (.u (.u .nil)))))))))))))))))))))))))))))))))))))))))))
  · rintro ⟨q, r, rs⟩ ⟨hc1, hc2, hc3, hc4⟩
    dsimp only at hc1 hc2 hc3 hc4
    have hq1 : lenV q ≤ 67108864 := by have := lenV_mono (v := q) (w := (wq 3 v w)) (by rw [← hc1, sgd_abs]; exact Nat.le_refl _); omega
    have hr2 : lenV r ≤ 67108864 := by have := lenV_mono (v := r) (w := (v - wq 3 v w * w)) (by rw [← hc2, sgd_abs]; exact Nat.le_refl _); omega
    have hql := lenV_lm hq1
    have hrl := lenV_lm hr2
    refine jc_seq ?_
    refine jc_region ?_
    refine jo_l (ly_mv rfl) (hd 80 rfl) ?_
    refine jo_l (ly_mv rfl) (hd 81 rfl) ?_
    refine jo_callN Try.f75 (result_nv (ng v w) (lm q) (wq 3 v w) (by omega) (lm_u q) (by rw [sv_sgd hc3]; exact hc1) (by omega)) (fun o G ⟨_, h⟩ => h ▸ idless_cons ints_id idless_nil) rfl Try.func75 rfl rfl (ovL_cons rfl (ovL_cons rfl (ovL_cons rfl ovL_nil))) (.cons .b (.cons .n (.cons .i .nil))) (hd 82 rfl) ?_ (fun ch G hp => by simp at hp)
    rintro y G ⟨hy, rfl⟩
    injection hy with hy
    subst hy
    show JO _ _ _ _ ((82, .t [.a [.b (decide ((wq 3 v w) < 0)), .o 4 0 0 (lm (wq 3 v w)).length], .i .i64 0]) :: _) _ _
    refine jo_l (ly_mv rfl) (hd 79 rfl) ?_
    refine jo_l (ly_ext rfl rfl) (hd 83 rfl) ?_
    refine jo_l (ly_ext rfl rfl) (hd 84 rfl) ?_
    refine jo_h (hy_alloc (id := 5) zero30 (by decide) rfl (by decide) rfl) (hd 14 rfl) ?_
    refine jo_st (sy_store rfl rfl rfl siz30 rfl rfl (Nat.le_of_ble_eq_true rfl)) ?_
    refine jo_l (ly_as rfl) (hd 11 rfl) ?_
    refine jo_nil ?_
    refine jc_seq ?_
    refine jc_seq ?_
    refine jc_region ?_
    refine jo_l (ly_mv rfl) (hd 85 rfl) ?_
    refine jo_l (ly_ff (ly_ne rfl rfl) (by simp)) (hd 86 rfl) ?_
    refine jo_nil ?_
    refine jc_litf rfl ?_
    refine jc_skip ?_
    refine jc_seq ?_
    refine jc_region ?_
    refine jo_l (ly_mv rfl) (hd 91 rfl) ?_
    refine jo_l (ly_mv rfl) (hd 92 rfl) ?_
    refine jo_callN Try.f75 (result_nv rs (lm r) (v - wq 3 v w * w) (by omega) (lm_u r) (by rw [sv_sgd hc4]; exact hc2) (by omega)) (fun o G ⟨_, h⟩ => h ▸ idless_cons ints_id idless_nil) rfl Try.func75 rfl rfl (ovL_cons rfl (ovL_cons rfl (ovL_cons rfl ovL_nil))) (.cons .b (.cons .n (.cons .i .nil))) (hd 93 rfl) ?_ (fun ch G hp => by simp at hp)
    rintro y G ⟨hy, rfl⟩
    injection hy with hy
    subst hy
    show JO _ _ _ _ ((93, .t [.a [.b (decide ((v - wq 3 v w * w) < 0)), .o 6 0 0 (lm (v - wq 3 v w * w)).length], .i .i64 0]) :: _) _ _
    refine jo_l (ly_mv rfl) (hd 90 rfl) ?_
    refine jo_l (ly_ext rfl rfl) (hd 94 rfl) ?_
    refine jo_l (ly_ext rfl rfl) (hd 95 rfl) ?_
    refine jo_h (hy_alloc (id := 7) zero30 (by decide) rfl (by decide) rfl) (hd 15 rfl) ?_
    refine jo_st (sy_store rfl rfl rfl siz30 rfl rfl (Nat.le_of_ble_eq_true rfl)) ?_
    refine jo_l (ly_as rfl) (hd 11 rfl) ?_
    refine jo_nil ?_
    refine jc_seq ?_
    refine jc_seq ?_
    refine jc_region ?_
    refine jo_l (ly_mv rfl) (hd 96 rfl) ?_
    refine jo_l (ly_ff (ly_ne rfl rfl) (by simp)) (hd 97 rfl) ?_
    refine jo_nil ?_
    refine jc_litf rfl ?_
    refine jc_skip ?_
    refine jc_seq ?_
    refine jc_draw (n := 5) _ rfl mixed ?_
    refine ja_l 0 (lo_l (ly_lda agg30 rfl rfl rfl rfl) (hd 101 rfl)) rfl (by kernel_rfl) (by kernel_rfl) (by kernel_rfl) (fun _ _ _ _ h => h) ?_
    refine ja_2 1 2 ?_ ?_ rfl rfl (by kernel_rfl)
    · refine js_l (ly_lda agg30 rfl rfl rfl rfl) (hd 102 rfl) ?_
      refine ja_1 2 ?_ rfl (by kernel_rfl)
      refine js_st (sy_store rfl rfl rfl siz30 rfl rfl (Nat.le_of_ble_eq_true rfl)) rfl ?_
      refine ja_1 3 ?_ rfl (by kernel_rfl)
      refine js_st (sy_store rfl rfl rfl siz30 rfl rfl (Nat.le_of_ble_eq_true rfl)) rfl ?_
      refine ja_l 4 (lo_l (ly_as rfl) (hd 8 rfl)) rfl (by kernel_rfl) (by kernel_rfl) (by kernel_rfl) (fun _ _ _ _ h => h) ?_
      refine ja_nil (by kernel_rfl) ?_
      refine jc_ret ?_
      refine ⟨[4, 6], _, (.t [.a [.b (decide ((wq 3 v w) < 0)), .o 0 0 0 (lm (wq 3 v w)).length], .a [.b (decide ((v - wq 3 v w * w) < 0)), .o 1 0 0 (lm (v - wq 3 v w * w)).length], .i .i64 0]), (.cons (ResV.cell agg30 rfl rfl rfl rfl) (.cons (ResV.cell agg30 rfl rfl rfl rfl) (.cons rfl .nil))), rfl, rfl, (by decide), (by first | exact idless_cons ints_id (idless_cons ints_id idless_nil) | exact idless_cons rfl (idless_cons rfl idless_nil)), ?_⟩
      exact ⟨rfl, rfl⟩
    · refine js_st (sy_store rfl rfl rfl siz30 rfl rfl (Nat.le_of_ble_eq_true rfl)) rfl ?_
      refine ja_l 1 (lo_l (ly_lda agg30 rfl rfl rfl rfl) (hd 102 rfl)) rfl (by kernel_rfl) (by kernel_rfl) (by kernel_rfl) (fun _ _ _ _ h => h) ?_
      refine ja_1 3 ?_ rfl (by kernel_rfl)
      refine js_st (sy_store rfl rfl rfl siz30 rfl rfl (Nat.le_of_ble_eq_true rfl)) rfl ?_
      refine ja_l 4 (lo_l (ly_as rfl) (hd 8 rfl)) rfl (by kernel_rfl) (by kernel_rfl) (by kernel_rfl) (fun _ _ _ _ h => h) ?_
      refine ja_nil (by kernel_rfl) ?_
      refine jc_ret ?_
      refine ⟨[4, 6], _, (.t [.a [.b (decide ((wq 3 v w) < 0)), .o 0 0 0 (lm (wq 3 v w)).length], .a [.b (decide ((v - wq 3 v w * w) < 0)), .o 1 0 0 (lm (v - wq 3 v w * w)).length], .i .i64 0]), (.cons (ResV.cell agg30 rfl rfl rfl rfl) (.cons (ResV.cell agg30 rfl rfl rfl rfl) (.cons rfl .nil))), rfl, rfl, (by decide), (by first | exact idless_cons ints_id (idless_cons ints_id idless_nil) | exact idless_cons rfl (idless_cons rfl idless_nil)), ?_⟩
      exact ⟨rfl, rfl⟩

set_option maxHeartbeats 4000000 in
theorem divide_n4 (s t : Bool) (a b : List Int) (v w : Int) (la : a.length < 1099511627776) (lb : b.length < 1099511627776) (ua : u64s a) (ub : u64s b) (ev : sv s a = v) (ew : sv t b = w) (hv : lenV v ≤ 67108864) (hw : lenV w ≤ 67108864) (h0 : w ≠ 0) : SpecM Try.prog 62 [.a [.b s, .n false .u64 a], .a [.b t, .n false .u64 b], .i .i64 4] [] (fun o G => o = .ret (.t [.a [.b (decide ((wq 4 v w) < 0)), .o 0 0 0 (lm (wq 4 v w)).length], .a [.b (decide ((v - wq 4 v w * w) < 0)), .o 1 0 0 (lm (v - wq 4 v w * w)).length], .i .i64 0]) ∧ G = [⟨82, 1, 0, true, ints .u64 (lm (wq 4 v w))⟩, ⟨82, 1, 0, true, ints .u64 (lm (v - wq 4 v w * w))⟩]) := by
  refine specS_of [(0, .a [.b s, .n false .u64 a]), (1, .a [.b t, .n false .u64 b]), (2, .i .i64 4)] rfl Try.func62 rfl (Nat.le_of_ble_eq_true rfl) fun Γ hN hds hL hR => ?_
  have hd : ∀ d, Nat.blt d 103 = true → d < Γ.N := fun d h => by rw [hN]; exact Nat.le_of_ble_eq_true h
  have hlv := lenV_lm hv
  have hlw := lenV_lm hw
  obtain ⟨hx, hr0, hr1, hq0⟩ := qr_facts (v := v) h0
  have hle := lenV_mono (v := qn v w) (w := v) qn_le
  have hlr := lenV_mono (v := rn v w) (w := w) (rn_le h0).1
  have hlR := lenV_lm (v := rn v w) (by omega)
  have habs : lm (w.natAbs : Int) = lm w := by unfold lm; rw [Int.natAbs_natCast]
  have hlenw : lenV (w.natAbs : Int) = lenV w := by unfold lenV; rw [Int.natAbs_natCast]
  have hS := Sub_v (w.natAbs : Int) (rn v w) hr0 (by omega) (by omega)
  rw [habs] at hS
  have hwl := wq_len (k := 4) (v := v) h0
  refine jc_seq ?_
  refine jc_region ?_
  refine jo_h (hy_box (id := 0) (n := 2) rfl rfl rfl (by decide) rfl) (hd 3 rfl) ?_
  refine jo_h (hy_box (id := 1) (n := 2) rfl rfl rfl (by decide) rfl) (hd 4 rfl) ?_
  refine jo_h (hy_alloc (id := 2) zero30 (by decide) rfl (by decide) rfl) (hd 6 rfl) ?_
  refine jo_h (hy_alloc (id := 3) zero30 (by decide) rfl (by decide) rfl) (hd 7 rfl) ?_
  refine jo_l (ly_as rfl) (hd 8 rfl) ?_
  refine jo_nil ?_
  refine jc_seq ?_
  refine jc_draw (n := 6) _ rfl mixed ?_
  refine ja_l2 0 [1, 3, 4, 5] (lo_l (ly_lda agg30 rfl rfl rfl rfl) (hd 16 rfl)) rfl (by kernel_rfl) (by kernel_rfl) (by kernel_rfl) (by kernel_rfl) (fun _ _ _ _ h => h) ?_
  refine ja_l2 2 [3, 4, 5] (lo_l (ly_lda agg30 rfl rfl rfl rfl) (hd 18 rfl)) rfl (by kernel_rfl) (by kernel_rfl) (by kernel_rfl) (by kernel_rfl) (fun _ _ _ _ h => h) ?_
  refine ja_1 1 ?_ rfl (by kernel_rfl)
  refine js_call Try.f73 (norm_v s a v la ua ev) rfl Try.func73 rfl rfl (ovL_cons rfl ovL_nil) (.cons (.a1 .b (.a1 .n .a0)) .nil) (hd 17 rfl) ?_ (fun ch hp => by simp at hp)
  rintro y hy; injection hy with hy; subst hy
  refine ja_1 3 ?_ rfl (by kernel_rfl)
  refine js_call Try.f73 (norm_v t b w lb ub ew) rfl Try.func73 rfl rfl (ovL_cons rfl ovL_nil) (.cons (.a1 .b (.a1 .n .a0)) .nil) (hd 19 rfl) ?_ (fun ch hp => by simp at hp)
  rintro y hy; injection hy with hy; subst hy
  refine ja_1 4 ?_ rfl (by kernel_rfl)
  refine js_st (sy_store rfl rfl rfl siz30 rfl rfl (Nat.le_of_ble_eq_true rfl)) rfl ?_
  refine ja_1 5 ?_ rfl (by kernel_rfl)
  refine js_st (sy_store rfl rfl rfl siz30 rfl rfl (Nat.le_of_ble_eq_true rfl)) rfl ?_
  refine ja_nil (by kernel_rfl) ?_
  refine jc_seq ?_
  refine jc_region ?_
  refine jo_l (ly_fa fld30_1 rfl rfl rfl) (hd 21 rfl) ?_
  refine jo_l (ly_ld one28 rfl rfl rfl) (hd 22 rfl) ?_
  refine jo_l (ly_fa fld30_1 rfl rfl rfl) (hd 23 rfl) ?_
  refine jo_l (ly_ld one28 rfl rfl rfl) (hd 24 rfl) ?_
  refine jo_call Try.f81 (Both_v v w hv hw h0) rfl Try.func81 rfl rfl (ovL_cons rfl (ovL_cons rfl ovL_nil)) (.cons .n (.cons .n .nil)) (hd 25 rfl) ?_ (fun ch hp => by simp at hp)
  rintro y hy; injection hy with hy; subst hy
  refine jo_l (ly_mv rfl) (hd 20 rfl) ?_
  refine jo_l (ly_ext rfl rfl) (hd 26 rfl) ?_
  refine jo_l (ly_ext rfl rfl) (hd 27 rfl) ?_
  refine jo_l (ly_ext rfl rfl) (hd 28 rfl) ?_
  refine jo_l (ly_as rfl) (hd 9 rfl) ?_
  refine jo_l (ly_as rfl) (hd 10 rfl) ?_
  refine jo_l (ly_as rfl) (hd 11 rfl) ?_
  refine jo_nil ?_
  refine jc_seq ?_
  refine jc_seq ?_
  refine jc_region ?_
  refine jo_l (ly_mv rfl) (hd 29 rfl) ?_
  refine jo_l (ly_ff (ly_ne rfl rfl) (by simp)) (hd 30 rfl) ?_
  refine jo_nil ?_
  refine jc_litf rfl ?_
  refine jc_skip ?_
  refine jc_seq ?_
  refine jc_draw (n := 9) _ rfl mixed ?_
  refine ja_l2 0 [1, 4, 7, 8] (lo_l (ly_fa fld30_0 rfl rfl rfl) (hd 34 rfl)) rfl (by kernel_rfl) (by kernel_rfl) (by kernel_rfl) (by kernel_rfl) (fun _ _ _ _ h => h) ?_
  refine ja_l 1 (lo_l (ly_ld one4 rfl rfl rfl) (hd 35 rfl)) rfl (by kernel_rfl) (by kernel_rfl) (by kernel_rfl) (fun _ _ _ _ h => h) ?_
  refine ja_l2 2 [3, 4, 7, 8] (lo_l (ly_fa fld30_0 rfl rfl rfl) (hd 36 rfl)) rfl (by kernel_rfl) (by kernel_rfl) (by kernel_rfl) (by kernel_rfl) (fun _ _ _ _ h => h) ?_
  refine ja_l 3 (lo_l (ly_ld one4 rfl rfl rfl) (hd 37 rfl)) rfl (by kernel_rfl) (by kernel_rfl) (by kernel_rfl) (fun _ _ _ _ h => h) ?_
  refine ja_l 4 (lo_l (ly_is (ly_neb und4 rfl rfl) (show V.b _ = V.b (ng v w) from rfl)) (hd 38 rfl)) rfl (by kernel_rfl) (by kernel_rfl) (by kernel_rfl) (fun _ _ _ _ h => h) ?_
  refine ja_l 5 (lo_l (ly_fa fld30_0 rfl rfl rfl) (hd 39 rfl)) rfl (by kernel_rfl) (by kernel_rfl) (by kernel_rfl) (fun _ _ _ _ h => h) ?_
  refine ja_l 6 (lo_l (ly_ld one4 rfl rfl rfl) (hd 40 rfl)) rfl (by kernel_rfl) (by kernel_rfl) (by kernel_rfl) (fun _ _ _ _ h => h) ?_
  refine ja_l 7 (lo_l (ly_as rfl) (hd 12 rfl)) rfl (by kernel_rfl) (by kernel_rfl) (by kernel_rfl) (fun _ _ _ _ h => h) ?_
  refine ja_l 8 (lo_l (ly_as rfl) (hd 13 rfl)) rfl (by kernel_rfl) (by kernel_rfl) (by kernel_rfl) (fun _ _ _ _ h => h) ?_
  refine ja_nil (by kernel_rfl) ?_
  refine jc_meetH (G := Int × Int × Bool) (fun g => sgd (ng v w) g.1 = (wq 4 v w) ∧ sgd g.2.2 g.2.1 = (v - wq 4 v w * w) ∧ 0 ≤ g.1 ∧ 0 ≤ g.2.1) (fun g => [(9, .n false .u64 (lm g.1)), (10, .n false .u64 (lm g.2.1)), (13, .b g.2.2), (8, .u), (11, .u), (41, .u), (42, .u), (43, .u), (44, .u), (45, .u), (46, .u), (47, .u), (48, .u), (49, .u), (50, .u), (51, .u), (52, .u), (53, .u), (54, .u), (55, .u), (56, .u), (57, .u), (58, .u), (59, .u), (60, .u), (61, .u), (62, .u), (63, .u), (64, .u), (65, .u), (66, .u), (67, .u), (68, .u), (69, .u), (70, .u), (71, .u), (72, .u), (73, .u), (74, .u), (75, .u), (76, .u), (77, .u), (78, .u)]) ?_ ?_
  · refine jc_seq ?_
    refine jc_draw (n := 18) _ rfl mixed ?_
    refine ja_l2 0 [1, 2, 3, 4, 5, 6, 7, 8, 9, 10, 11, 12, 13, 14, 15, 16, 17] (lo_l (ly_mv rfl) (hd 41 rfl)) rfl (by kernel_rfl) (by kernel_rfl) (by kernel_rfl) (by kernel_rfl) (fun _ _ _ _ h => h) ?_
    refine ja_1 1 ?_ rfl (by kernel_rfl)
    refine js_call Try.f66 (Length_v (rn v w) (by omega)) rfl Try.func66 rfl rfl (ovL_cons rfl ovL_nil) (.cons .n .nil) (hd 42 rfl) ?_ (fun ch hp => by simp at hp)
    rintro y hy; injection hy with hy; subst hy
    refine ja_l2 2 [3, 4, 5, 6, 7, 8, 9, 10, 11, 12, 13, 14, 15, 16, 17] (lo_l (ly_gt rfl rfl) (hd 43 rfl)) rfl (by kernel_rfl) (by kernel_rfl) (by kernel_rfl) (by kernel_rfl) (fun _ _ _ _ h => h) ?_
    refine ja_l 3 (lo_l (ly_mv rfl) (hd 44 rfl)) rfl (by kernel_rfl) (by kernel_rfl) (by kernel_rfl) (fun _ _ _ _ h => h) ?_
    refine ja_ifp 44 rfl (fun h2 => ?_) (fun h2 => ?_)
    · have hrn : rn v w ≠ 0 := fun e => by have := lenV_0.2 e; omega
      refine ja_l2 5 [6, 16, 17] (lo_g 44 rfl rfl (ly_mv rfl) (hd 46 rfl)) rfl (by kernel_rfl) (by kernel_rfl) (by kernel_rfl) (by kernel_rfl) (fun _ _ _ _ h => h) ?_
      refine ja_l2 7 [16, 17] (lo_g 44 rfl rfl (ly_mv rfl) (hd 48 rfl)) rfl (by kernel_rfl) (by kernel_rfl) (by kernel_rfl) (by kernel_rfl) (fun _ _ _ _ h => h) ?_
      refine ja_l2 8 [16, 17] (lo_g 44 rfl rfl (ly_mv rfl) (hd 49 rfl)) rfl (by kernel_rfl) (by kernel_rfl) (by kernel_rfl) (by kernel_rfl) (fun _ _ _ _ h => h) ?_
      refine ja_l2 9 [10, 16, 17] (lo_g 44 rfl rfl (ly_fa fld30_1 rfl rfl rfl) (hd 50 rfl)) rfl (by kernel_rfl) (by kernel_rfl) (by kernel_rfl) (by kernel_rfl) (fun _ _ _ _ h => h) ?_
      refine ja_l2 10 [16, 17] (lo_g 44 rfl rfl (ly_ld one28 rfl rfl rfl) (hd 51 rfl)) rfl (by kernel_rfl) (by kernel_rfl) (by kernel_rfl) (by kernel_rfl) (fun _ _ _ _ h => h) ?_
      refine ja_l2 11 [16, 17] (lo_g 44 rfl rfl (ly_mv rfl) (hd 52 rfl)) rfl (by kernel_rfl) (by kernel_rfl) (by kernel_rfl) (by kernel_rfl) (fun _ _ _ _ h => h) ?_
      refine ja_l2 12 [13, 16, 17] (lo_g 44 rfl rfl (ly_fa fld30_0 rfl rfl rfl) (hd 53 rfl)) rfl (by kernel_rfl) (by kernel_rfl) (by kernel_rfl) (by kernel_rfl) (fun _ _ _ _ h => h) ?_
      refine ja_l2 13 [16, 17] (lo_g 44 rfl rfl (ly_ld one4 rfl rfl rfl) (hd 54 rfl)) rfl (by kernel_rfl) (by kernel_rfl) (by kernel_rfl) (by kernel_rfl) (fun _ _ _ _ h => h) ?_
      refine ja_l2 14 [15, 16, 17] (lo_g 44 rfl rfl (ly_fa fld30_0 rfl rfl rfl) (hd 55 rfl)) rfl (by kernel_rfl) (by kernel_rfl) (by kernel_rfl) (by kernel_rfl) (fun _ _ _ _ h => h) ?_
      refine ja_l2 15 [16, 17] (lo_g 44 rfl rfl (ly_ld one4 rfl rfl rfl) (hd 56 rfl)) rfl (by kernel_rfl) (by kernel_rfl) (by kernel_rfl) (by kernel_rfl) (fun _ _ _ _ h => h) ?_
      refine ja_1 4 ?_ rfl (by kernel_rfl)
      refine js_callg Try.f82 44 rfl rfl (ways_s) rfl Try.func82 rfl rfl ovL_nil .nil (hd 45 rfl) ?_ (fun ch hp => by simp at hp)
      rintro y hy; injection hy with hy; subst hy
      refine ja_l2 6 [16, 17] (lo_g 44 rfl rfl (ly_ixa (i := 4) undA102 one101 rfl rfl rfl (by decide) rfl) (hd 47 rfl)) rfl (by kernel_rfl) (by kernel_rfl) (by kernel_rfl) (by kernel_rfl) (fun _ _ _ _ h => h) ?_
      refine ja_1 16 ?_ rfl (by kernel_rfl)
      refine js_callg Try.f99 44 rfl rfl (way4_v v w) rfl Try.func99 rfl rfl (ovL_cons rfl (ovL_cons rfl (ovL_cons rfl (ovL_cons rfl (ovL_cons rfl (ovL_cons rfl ovL_nil)))))) (.cons .n (.cons .n (.cons .n (.cons .b (.cons .b (.cons .b .nil)))))) (hd 57 rfl) ?_ (fun ch hp => by simp at hp)
      rintro y hy; injection hy with hy; subst hy
      refine ja_l 17 (lo_l (ly_pick_t rfl rfl) (hd 58 rfl)) rfl (by kernel_rfl) (by kernel_rfl) (by kernel_rfl) (fun _ _ _ _ h => h) ?_
      refine ja_nil (by kernel_rfl) ?_
      refine jc_cond rfl (fun h3 => ?_) (fun h3 => ?_)
      · have hg : gro 4 v w = true := h3
        refine jc_seq ?_
        refine jc_seq ?_
        refine jc_region ?_
        refine jo_l (ly_mv rfl) (hd 60 rfl) ?_
        refine jo_call Try.f70 (From1_v) rfl Try.func70 rfl rfl (ovL_cons rfl ovL_nil) (.cons .i .nil) (hd 61 rfl) ?_ (fun ch hp => by simp at hp)
        rintro y hy; injection hy with hy; subst hy
        refine jo_call Try.f74 (Add1_v (qn v w) hq0 (by have := lenV_mono (qn1_le h0 hrn); omega)) rfl Try.func74 rfl rfl (ovL_cons rfl (ovL_cons rfl ovL_nil)) (.cons .n (.cons .n .nil)) (hd 62 rfl) ?_ (fun ch hp => by simp at hp)
        rintro y hy; injection hy with hy; subst hy
        refine jo_l (ly_mv rfl) (hd 59 rfl) ?_
        refine jo_l (ly_ext rfl rfl) (hd 63 rfl) ?_
        refine jo_l (ly_ext rfl rfl) (hd 64 rfl) ?_
        refine jo_l (ly_as rfl) (hd 9 rfl) ?_
        refine jo_l (ly_as rfl) (hd 11 rfl) ?_
        refine jo_nil ?_
        refine jc_seq ?_
        refine jc_region ?_
        refine jo_l (ly_mv rfl) (hd 65 rfl) ?_
        refine jo_l (ly_ff (ly_ne rfl rfl) (by simp)) (hd 66 rfl) ?_
        refine jo_nil ?_
        refine jc_litf rfl ?_
        refine jc_skip ?_
        refine jc_seq ?_
        refine jc_region ?_
        refine jo_l (ly_fa fld30_1 rfl rfl rfl) (hd 71 rfl) ?_
        refine jo_l (ly_ld one28 rfl rfl rfl) (hd 72 rfl) ?_
        refine jo_l (ly_mv rfl) (hd 73 rfl) ?_
        refine jo_call Try.f76 (hS) rfl Try.func76 rfl rfl (ovL_cons rfl (ovL_cons rfl ovL_nil)) (.cons .n (.cons .n .nil)) (hd 74 rfl) ?_ (fun ch hp => by simp at hp)
        rintro y hy; injection hy with hy; subst hy
        refine jo_l (ly_mv rfl) (hd 70 rfl) ?_
        refine jo_l (ly_ext rfl rfl) (hd 75 rfl) ?_
        refine jo_l (ly_ext rfl rfl) (hd 76 rfl) ?_
        refine jo_l (ly_as rfl) (hd 10 rfl) ?_
        refine jo_nil ?_
        refine jc_region ?_
        refine jo_l (ly_mv rfl) (hd 77 rfl) ?_
        refine jo_l (ly_not rfl) (hd 78 rfl) ?_
        refine jo_l (ly_as rfl) (hd 13 rfl) ?_
        refine jo_nil ?_
        refine ⟨(qn v w + 1, (w.natAbs : Int) - rn v w, !decide (v < 0)), ?_, rfl, cov_n 40 rfl rfl ?_⟩
        · have hy := way_yes (k := 4) h0 hrn hg
          exact ⟨hy.1, hy.2, by show 0 ≤ qn v w + 1; omega, by show 0 ≤ (w.natAbs : Int) - rn v w; omega⟩
        · exact (.cons rfl (.cons rfl (.cons rfl (.u (.u (.u (.u (.u (.u (.u (.u (.u (.u (.u (.u (.u (.u (.u (.u (.u (.u (.u (.u (.u (.u (.u (.u (.u (.u (.u (.u (.u (.u (.u (.u (.u (.u (.u (.u (.u (.u (.u (.u .nil)))))))))))))))))))))))))))))))))))))))))))
      · have hg : gro 4 v w = false := h3
        refine jc_skip ?_
        refine ⟨(qn v w, rn v w, decide (v < 0)), ?_, rfl, cov_n 19 rfl rfl ?_⟩
        · have hy := way_no (k := 4) h0 (by first | exact .inl hrn | exact .inr hg)
          exact ⟨hy.1, hy.2, hq0, hr0⟩
        · exact (.cons rfl (.cons rfl (.cons rfl (.u (.u (.u (.u (.u (.u (.u (.u (.u (.u (.u (.u (.u (.u (.u (.u (.u (.u (.u (.u (.u (.u (.u (.u (.u (.u (.u (.u (.u (.u (.u (.u (.u (.u (.u (.u (.u (.u (.u (.u .nil)))))))))))))))))))))))))))))))))))))))))))
    · have hrn : rn v w = 0 := lenV_0.1 (by omega)
      refine ja_l2 5 [6, 16, 17] (lo_s 44 rfl rfl rfl (hd 46 rfl)) rfl (by kernel_rfl) (by kernel_rfl) (by kernel_rfl) (by kernel_rfl) (fun _ _ _ _ h => h) ?_
      refine ja_l2 7 [16, 17] (lo_s 44 rfl rfl rfl (hd 48 rfl)) rfl (by kernel_rfl) (by kernel_rfl) (by kernel_rfl) (by kernel_rfl) (fun _ _ _ _ h => h) ?_
      refine ja_l2 8 [16, 17] (lo_s 44 rfl rfl rfl (hd 49 rfl)) rfl (by kernel_rfl) (by kernel_rfl) (by kernel_rfl) (by kernel_rfl) (fun _ _ _ _ h => h) ?_
      refine ja_l2 9 [10, 16, 17] (lo_s 44 rfl rfl rfl (hd 50 rfl)) rfl (by kernel_rfl) (by kernel_rfl) (by kernel_rfl) (by kernel_rfl) (fun _ _ _ _ h => h) ?_
      refine ja_l2 10 [16, 17] (lo_s 44 rfl rfl rfl (hd 51 rfl)) rfl (by kernel_rfl) (by kernel_rfl) (by kernel_rfl) (by kernel_rfl) (fun _ _ _ _ h => h) ?_
      refine ja_l2 11 [16, 17] (lo_s 44 rfl rfl rfl (hd 52 rfl)) rfl (by kernel_rfl) (by kernel_rfl) (by kernel_rfl) (by kernel_rfl) (fun _ _ _ _ h => h) ?_
      refine ja_l2 12 [13, 16, 17] (lo_s 44 rfl rfl rfl (hd 53 rfl)) rfl (by kernel_rfl) (by kernel_rfl) (by kernel_rfl) (by kernel_rfl) (fun _ _ _ _ h => h) ?_
      refine ja_l2 13 [16, 17] (lo_s 44 rfl rfl rfl (hd 54 rfl)) rfl (by kernel_rfl) (by kernel_rfl) (by kernel_rfl) (by kernel_rfl) (fun _ _ _ _ h => h) ?_
      refine ja_l2 14 [15, 16, 17] (lo_s 44 rfl rfl rfl (hd 55 rfl)) rfl (by kernel_rfl) (by kernel_rfl) (by kernel_rfl) (by kernel_rfl) (fun _ _ _ _ h => h) ?_
      refine ja_l2 15 [16, 17] (lo_s 44 rfl rfl rfl (hd 56 rfl)) rfl (by kernel_rfl) (by kernel_rfl) (by kernel_rfl) (by kernel_rfl) (fun _ _ _ _ h => h) ?_
      refine ja_l2 4 [6, 16, 17] (lo_s 44 rfl rfl rfl (hd 45 rfl)) rfl (by kernel_rfl) (by kernel_rfl) (by kernel_rfl) (by kernel_rfl) (fun _ _ _ _ h => h) ?_
      refine ja_l2 6 [16, 17] (lo_s 44 rfl rfl rfl (hd 47 rfl)) rfl (by kernel_rfl) (by kernel_rfl) (by kernel_rfl) (by kernel_rfl) (fun _ _ _ _ h => h) ?_
      refine ja_l 16 (lo_s 44 rfl rfl rfl (hd 57 rfl)) rfl (by kernel_rfl) (by kernel_rfl) (by kernel_rfl) (fun _ _ _ _ h => h) ?_
      refine ja_l 17 (lo_l (ly_pick_f rfl rfl) (hd 58 rfl)) rfl (by kernel_rfl) (by kernel_rfl) (by kernel_rfl) (fun _ _ _ _ h => h) ?_
      refine ja_nil (by kernel_rfl) ?_
      refine jc_litf rfl ?_
      refine jc_skip ?_
      refine ⟨(qn v w, rn v w, decide (v < 0)), ?_, rfl, cov_n 19 rfl rfl ?_⟩
      · have hy := way_no (k := 4) h0 (by first | exact .inl hrn | exact .inr hg)
        exact ⟨hy.1, hy.2, hq0, hr0⟩
      · exact (.cons rfl (.cons rfl (.cons rfl (.u (.u (.u (.u (.u (.u (.u (.u (.u (.u (.u (.u (.u (.u (.u (.u (.u (.u (.u (.u (.u (.u (.u (.u (.u (.u (.u (.u (.u (.u (.u (.u (.u (.u (.u (.u (.u (.u (.u (.u .nil)))))))))))))))))))))))))))))))))))))))))))
  · rintro ⟨q, r, rs⟩ ⟨hc1, hc2, hc3, hc4⟩
    dsimp only at hc1 hc2 hc3 hc4
    have hq1 : lenV q ≤ 67108864 := by have := lenV_mono (v := q) (w := (wq 4 v w)) (by rw [← hc1, sgd_abs]; exact Nat.le_refl _); omega
    have hr2 : lenV r ≤ 67108864 := by have := lenV_mono (v := r) (w := (v - wq 4 v w * w)) (by rw [← hc2, sgd_abs]; exact Nat.le_refl _); omega
    have hql := lenV_lm hq1
    have hrl := lenV_lm hr2
    refine jc_seq ?_
    refine jc_region ?_
    refine jo_l (ly_mv rfl) (hd 80 rfl) ?_
    refine jo_l (ly_mv rfl) (hd 81 rfl) ?_
    refine jo_callN Try.f75 (result_nv (ng v w) (lm q) (wq 4 v w) (by omega) (lm_u q) (by rw [sv_sgd hc3]; exact hc1) (by omega)) (fun o G ⟨_, h⟩ => h ▸ idless_cons ints_id idless_nil) rfl Try.func75 rfl rfl (ovL_cons rfl (ovL_cons rfl (ovL_cons rfl ovL_nil))) (.cons .b (.cons .n (.cons .i .nil))) (hd 82 rfl) ?_ (fun ch G hp => by simp at hp)
    rintro y G ⟨hy, rfl⟩
    injection hy with hy
    subst hy
    show JO _ _ _ _ ((82, .t [.a [.b (decide ((wq 4 v w) < 0)), .o 4 0 0 (lm (wq 4 v w)).length], .i .i64 0]) :: _) _ _
    refine jo_l (ly_mv rfl) (hd 79 rfl) ?_
    refine jo_l (ly_ext rfl rfl) (hd 83 rfl) ?_
    refine jo_l (ly_ext rfl rfl) (hd 84 rfl) ?_
    refine jo_h (hy_alloc (id := 5) zero30 (by decide) rfl (by decide) rfl) (hd 14 rfl) ?_
    refine jo_st (sy_store rfl rfl rfl siz30 rfl rfl (Nat.le_of_ble_eq_true rfl)) ?_
    refine jo_l (ly_as rfl) (hd 11 rfl) ?_
    refine jo_nil ?_
    refine jc_seq ?_
    refine jc_seq ?_
    refine jc_region ?_
    refine jo_l (ly_mv rfl) (hd 85 rfl) ?_
    refine jo_l (ly_ff (ly_ne rfl rfl) (by simp)) (hd 86 rfl) ?_
    refine jo_nil ?_
    refine jc_litf rfl ?_
    refine jc_skip ?_
    refine jc_seq ?_
    refine jc_region ?_
    refine jo_l (ly_mv rfl) (hd 91 rfl) ?_
    refine jo_l (ly_mv rfl) (hd 92 rfl) ?_
    refine jo_callN Try.f75 (result_nv rs (lm r) (v - wq 4 v w * w) (by omega) (lm_u r) (by rw [sv_sgd hc4]; exact hc2) (by omega)) (fun o G ⟨_, h⟩ => h ▸ idless_cons ints_id idless_nil) rfl Try.func75 rfl rfl (ovL_cons rfl (ovL_cons rfl (ovL_cons rfl ovL_nil))) (.cons .b (.cons .n (.cons .i .nil))) (hd 93 rfl) ?_ (fun ch G hp => by simp at hp)
    rintro y G ⟨hy, rfl⟩
    injection hy with hy
    subst hy
    show JO _ _ _ _ ((93, .t [.a [.b (decide ((v - wq 4 v w * w) < 0)), .o 6 0 0 (lm (v - wq 4 v w * w)).length], .i .i64 0]) :: _) _ _
    refine jo_l (ly_mv rfl) (hd 90 rfl) ?_
    refine jo_l (ly_ext rfl rfl) (hd 94 rfl) ?_
    refine jo_l (ly_ext rfl rfl) (hd 95 rfl) ?_
    refine jo_h (hy_alloc (id := 7) zero30 (by decide) rfl (by decide) rfl) (hd 15 rfl) ?_
    refine jo_st (sy_store rfl rfl rfl siz30 rfl rfl (Nat.le_of_ble_eq_true rfl)) ?_
    refine jo_l (ly_as rfl) (hd 11 rfl) ?_
    refine jo_nil ?_
    refine jc_seq ?_
    refine jc_seq ?_
    refine jc_region ?_
    refine jo_l (ly_mv rfl) (hd 96 rfl) ?_
    refine jo_l (ly_ff (ly_ne rfl rfl) (by simp)) (hd 97 rfl) ?_
    refine jo_nil ?_
    refine jc_litf rfl ?_
    refine jc_skip ?_
    refine jc_seq ?_
    refine jc_draw (n := 5) _ rfl mixed ?_
    refine ja_l 0 (lo_l (ly_lda agg30 rfl rfl rfl rfl) (hd 101 rfl)) rfl (by kernel_rfl) (by kernel_rfl) (by kernel_rfl) (fun _ _ _ _ h => h) ?_
    refine ja_2 1 2 ?_ ?_ rfl rfl (by kernel_rfl)
    · refine js_l (ly_lda agg30 rfl rfl rfl rfl) (hd 102 rfl) ?_
      refine ja_1 2 ?_ rfl (by kernel_rfl)
      refine js_st (sy_store rfl rfl rfl siz30 rfl rfl (Nat.le_of_ble_eq_true rfl)) rfl ?_
      refine ja_1 3 ?_ rfl (by kernel_rfl)
      refine js_st (sy_store rfl rfl rfl siz30 rfl rfl (Nat.le_of_ble_eq_true rfl)) rfl ?_
      refine ja_l 4 (lo_l (ly_as rfl) (hd 8 rfl)) rfl (by kernel_rfl) (by kernel_rfl) (by kernel_rfl) (fun _ _ _ _ h => h) ?_
      refine ja_nil (by kernel_rfl) ?_
      refine jc_ret ?_
      refine ⟨[4, 6], _, (.t [.a [.b (decide ((wq 4 v w) < 0)), .o 0 0 0 (lm (wq 4 v w)).length], .a [.b (decide ((v - wq 4 v w * w) < 0)), .o 1 0 0 (lm (v - wq 4 v w * w)).length], .i .i64 0]), (.cons (ResV.cell agg30 rfl rfl rfl rfl) (.cons (ResV.cell agg30 rfl rfl rfl rfl) (.cons rfl .nil))), rfl, rfl, (by decide), (by first | exact idless_cons ints_id (idless_cons ints_id idless_nil) | exact idless_cons rfl (idless_cons rfl idless_nil)), ?_⟩
      exact ⟨rfl, rfl⟩
    · refine js_st (sy_store rfl rfl rfl siz30 rfl rfl (Nat.le_of_ble_eq_true rfl)) rfl ?_
      refine ja_l 1 (lo_l (ly_lda agg30 rfl rfl rfl rfl) (hd 102 rfl)) rfl (by kernel_rfl) (by kernel_rfl) (by kernel_rfl) (fun _ _ _ _ h => h) ?_
      refine ja_1 3 ?_ rfl (by kernel_rfl)
      refine js_st (sy_store rfl rfl rfl siz30 rfl rfl (Nat.le_of_ble_eq_true rfl)) rfl ?_
      refine ja_l 4 (lo_l (ly_as rfl) (hd 8 rfl)) rfl (by kernel_rfl) (by kernel_rfl) (by kernel_rfl) (fun _ _ _ _ h => h) ?_
      refine ja_nil (by kernel_rfl) ?_
      refine jc_ret ?_
      refine ⟨[4, 6], _, (.t [.a [.b (decide ((wq 4 v w) < 0)), .o 0 0 0 (lm (wq 4 v w)).length], .a [.b (decide ((v - wq 4 v w * w) < 0)), .o 1 0 0 (lm (v - wq 4 v w * w)).length], .i .i64 0]), (.cons (ResV.cell agg30 rfl rfl rfl rfl) (.cons (ResV.cell agg30 rfl rfl rfl rfl) (.cons rfl .nil))), rfl, rfl, (by decide), (by first | exact idless_cons ints_id (idless_cons ints_id idless_nil) | exact idless_cons rfl (idless_cons rfl idless_nil)), ?_⟩
      exact ⟨rfl, rfl⟩

set_option maxHeartbeats 4000000 in
theorem divide_nz (s t : Bool) (a b : List Int) (v : Int) (la : a.length < 1099511627776) (lb : b.length < 1099511627776) (ua : u64s a) (ub : u64s b) (ev : sv s a = v) (ew : sv t b = 0) (k : Int) (hv : lenV v ≤ 67108864) : SpecM Try.prog 62 [.a [.b s, .n false .u64 a], .a [.b t, .n false .u64 b], .i .i64 k] [] (fun o G => o = .ret (.t [.a [.b false, .o 0 0 0 0], .a [.b false, .o 1 0 0 0], .i .i64 30]) ∧ G = [⟨82, 1, 0, true, ints .u64 []⟩, ⟨82, 1, 0, true, ints .u64 []⟩]) := by
  refine specS_of [(0, .a [.b s, .n false .u64 a]), (1, .a [.b t, .n false .u64 b]), (2, .i .i64 k)] rfl Try.func62 rfl (Nat.le_of_ble_eq_true rfl) fun Γ hN hds hL hR => ?_
  have hd : ∀ d, Nat.blt d 103 = true → d < Γ.N := fun d h => by rw [hN]; exact Nat.le_of_ble_eq_true h
  have hlv := lenV_lm hv
  refine jc_seq ?_
  refine jc_region ?_
  refine jo_h (hy_box (id := 0) (n := 2) rfl rfl rfl (by decide) rfl) (hd 3 rfl) ?_
  refine jo_h (hy_box (id := 1) (n := 2) rfl rfl rfl (by decide) rfl) (hd 4 rfl) ?_
  refine jo_h (hy_alloc (id := 2) zero30 (by decide) rfl (by decide) rfl) (hd 6 rfl) ?_
  refine jo_h (hy_alloc (id := 3) zero30 (by decide) rfl (by decide) rfl) (hd 7 rfl) ?_
  refine jo_l (ly_as rfl) (hd 8 rfl) ?_
  refine jo_nil ?_
  refine jc_seq ?_
  refine jc_draw (n := 6) _ rfl mixed ?_
  refine ja_l2 0 [1, 3, 4, 5] (lo_l (ly_lda agg30 rfl rfl rfl rfl) (hd 16 rfl)) rfl (by kernel_rfl) (by kernel_rfl) (by kernel_rfl) (by kernel_rfl) (fun _ _ _ _ h => h) ?_
  refine ja_l2 2 [3, 4, 5] (lo_l (ly_lda agg30 rfl rfl rfl rfl) (hd 18 rfl)) rfl (by kernel_rfl) (by kernel_rfl) (by kernel_rfl) (by kernel_rfl) (fun _ _ _ _ h => h) ?_
  refine ja_1 1 ?_ rfl (by kernel_rfl)
  refine js_call Try.f73 (norm_v s a v la ua ev) rfl Try.func73 rfl rfl (ovL_cons rfl ovL_nil) (.cons (.a1 .b (.a1 .n .a0)) .nil) (hd 17 rfl) ?_ (fun ch hp => by simp at hp)
  rintro y hy; injection hy with hy; subst hy
  refine ja_1 3 ?_ rfl (by kernel_rfl)
  refine js_call Try.f73 (norm_v t b 0 lb ub ew) rfl Try.func73 rfl rfl (ovL_cons rfl ovL_nil) (.cons (.a1 .b (.a1 .n .a0)) .nil) (hd 19 rfl) ?_ (fun ch hp => by simp at hp)
  rintro y hy; injection hy with hy; subst hy
  refine ja_1 4 ?_ rfl (by kernel_rfl)
  refine js_st (sy_store rfl rfl rfl siz30 rfl rfl (Nat.le_of_ble_eq_true rfl)) rfl ?_
  refine ja_1 5 ?_ rfl (by kernel_rfl)
  refine js_st (sy_store rfl rfl rfl siz30 rfl rfl (Nat.le_of_ble_eq_true rfl)) rfl ?_
  refine ja_nil (by kernel_rfl) ?_
  refine jc_seq ?_
  refine jc_region ?_
  refine jo_l (ly_fa fld30_1 rfl rfl rfl) (hd 21 rfl) ?_
  refine jo_l (ly_ld one28 rfl rfl rfl) (hd 22 rfl) ?_
  refine jo_l (ly_fa fld30_1 rfl rfl rfl) (hd 23 rfl) ?_
  refine jo_l (ly_ld one28 rfl rfl rfl) (hd 24 rfl) ?_
  refine jo_call Try.f81 (Both_0 v hv) rfl Try.func81 rfl rfl (ovL_cons rfl (ovL_cons rfl ovL_nil)) (.cons .n (.cons .n .nil)) (hd 25 rfl) ?_ (fun ch hp => by simp at hp)
  rintro y hy; injection hy with hy; subst hy
  refine jo_l (ly_mv rfl) (hd 20 rfl) ?_
  refine jo_l (ly_ext rfl rfl) (hd 26 rfl) ?_
  refine jo_l (ly_ext rfl rfl) (hd 27 rfl) ?_
  refine jo_l (ly_ext rfl rfl) (hd 28 rfl) ?_
  refine jo_l (ly_as rfl) (hd 9 rfl) ?_
  refine jo_l (ly_as rfl) (hd 10 rfl) ?_
  refine jo_l (ly_as rfl) (hd 11 rfl) ?_
  refine jo_nil ?_
  refine jc_seq ?_
  refine jc_seq ?_
  refine jc_region ?_
  refine jo_l (ly_mv rfl) (hd 29 rfl) ?_
  refine jo_l (ly_tt (ly_ne rfl rfl) (by decide)) (hd 30 rfl) ?_
  refine jo_nil ?_
  refine jc_litt rfl ?_
  refine jc_seq ?_
  refine jc_region ?_
  refine jo_l (ly_build (is := []) (xs := []) (pls := []) zero30 pls30_ rfl ovL_nil rfl trivial (all_of rfl) rfl) (hd 31 rfl) ?_
  refine jo_l (ly_build (is := []) (xs := []) (pls := []) zero30 pls30_ rfl ovL_nil rfl trivial (all_of rfl) rfl) (hd 32 rfl) ?_
  refine jo_l (ly_mv rfl) (hd 33 rfl) ?_
  refine jo_st (sy_store rfl rfl rfl siz30 rfl rfl (Nat.le_of_ble_eq_true rfl)) ?_
  refine jo_st (sy_store rfl rfl rfl siz30 rfl rfl (Nat.le_of_ble_eq_true rfl)) ?_
  refine jo_l (ly_as rfl) (hd 8 rfl) ?_
  refine jo_nil ?_
  refine jc_own0c (id := 2) 1 82 1 rfl rfl rfl ?_
  refine jc_own0c (id := 3) 1 82 1 rfl rfl rfl ?_
  refine jc_ret ?_
  refine ⟨[4, 5], _, (.t [.a [.b false, .o 0 0 0 0], .a [.b false, .o 1 0 0 0], .i .i64 30]), (.cons (ResV.cell agg30 rfl rfl rfl rfl) (.cons (ResV.cell agg30 rfl rfl rfl rfl) (.cons rfl .nil))), rfl, rfl, (by decide), (by first | exact idless_cons ints_id (idless_cons ints_id idless_nil) | exact idless_cons rfl (idless_cons rfl idless_nil)), ?_⟩
  exact ⟨rfl, rfl⟩

set_option maxHeartbeats 4000000 in
theorem Quo_n (s t : Bool) (a b : List Int) (v w : Int) (la : a.length < 1099511627776) (lb : b.length < 1099511627776) (ua : u64s a) (ub : u64s b) (ev : sv s a = v) (ew : sv t b = w) (hv : lenV v ≤ 67108864) (hw : lenV w ≤ 67108864) (h0 : w ≠ 0) : SpecM Try.prog 19 [.a [.b s, .n false .u64 a], .a [.b t, .n false .u64 b]] [] (fun o G => o = .ret (.t [.a [.b (decide ((wq 0 v w) < 0)), .o 0 0 0 (lm (wq 0 v w)).length], .a [.b (decide ((v - wq 0 v w * w) < 0)), .o 1 0 0 (lm (v - wq 0 v w * w)).length], .i .i64 0]) ∧ G = [⟨82, 1, 0, true, ints .u64 (lm (wq 0 v w))⟩, ⟨82, 1, 0, true, ints .u64 (lm (v - wq 0 v w * w))⟩]) := by
  refine specS_of [(0, .a [.b s, .n false .u64 a]), (1, .a [.b t, .n false .u64 b])] rfl Try.func19 rfl (Nat.le_of_ble_eq_true rfl) fun Γ hN hds hL hR => ?_
  have hd : ∀ d, Nat.blt d 13 = true → d < Γ.N := fun d h => by rw [hN]; exact Nat.le_of_ble_eq_true h
  refine jc_seq ?_
  refine jc_region ?_
  refine jo_h (hy_box (id := 0) (n := 2) rfl rfl rfl (by decide) rfl) (hd 2 rfl) ?_
  refine jo_h (hy_box (id := 1) (n := 2) rfl rfl rfl (by decide) rfl) (hd 3 rfl) ?_
  refine jo_h (hy_alloc (id := 2) zero30 (by decide) rfl (by decide) rfl) (hd 4 rfl) ?_
  refine jo_h (hy_alloc (id := 3) zero30 (by decide) rfl (by decide) rfl) (hd 5 rfl) ?_
  refine jo_l (ly_as rfl) (hd 6 rfl) ?_
  refine jo_nil ?_
  refine jc_seq ?_
  refine jc_region ?_
  refine jo_l (ly_lda agg30 rfl rfl rfl rfl) (hd 7 rfl) ?_
  refine jo_l (ly_lda agg30 rfl rfl rfl rfl) (hd 8 rfl) ?_
  refine jo_callN Try.f62 (divide_n0 s t a b v w la lb ua ub ev ew hv hw h0) (fun o G ⟨_, h⟩ => h ▸ idless_cons ints_id (idless_cons ints_id idless_nil)) rfl Try.func62 rfl rfl (ovL_cons rfl (ovL_cons rfl (ovL_cons rfl ovL_nil))) (.cons (.a1 .b (.a1 .n .a0)) (.cons (.a1 .b (.a1 .n .a0)) (.cons .i .nil))) (hd 9 rfl) ?_ (fun ch G hp => by simp at hp)
  rintro y G ⟨hy, rfl⟩
  injection hy with hy
  subst hy
  show JO _ _ _ _ ((9, .t [.a [.b (decide ((wq 0 v w) < 0)), .o 4 0 0 (lm (wq 0 v w)).length], .a [.b (decide ((v - wq 0 v w * w) < 0)), .o 5 0 0 (lm (v - wq 0 v w * w)).length], .i .i64 0]) :: _) _ _
  refine jo_l (ly_ext rfl rfl) (hd 10 rfl) ?_
  refine jo_l (ly_ext rfl rfl) (hd 11 rfl) ?_
  refine jo_l (ly_ext rfl rfl) (hd 12 rfl) ?_
  refine jo_st (sy_store rfl rfl rfl siz30 rfl rfl (Nat.le_of_ble_eq_true rfl)) ?_
  refine jo_st (sy_store rfl rfl rfl siz30 rfl rfl (Nat.le_of_ble_eq_true rfl)) ?_
  refine jo_l (ly_as rfl) (hd 6 rfl) ?_
  refine jo_nil ?_
  refine jc_ret ?_
  refine ⟨[4, 5], _, (.t [.a [.b (decide ((wq 0 v w) < 0)), .o 0 0 0 (lm (wq 0 v w)).length], .a [.b (decide ((v - wq 0 v w * w) < 0)), .o 1 0 0 (lm (v - wq 0 v w * w)).length], .i .i64 0]), (.cons (ResV.cell agg30 rfl rfl rfl rfl) (.cons (ResV.cell agg30 rfl rfl rfl rfl) (.cons rfl .nil))), rfl, rfl, (by decide), (by first | exact idless_cons ints_id (idless_cons ints_id idless_nil) | exact idless_cons rfl (idless_cons rfl idless_nil)), ?_⟩
  exact ⟨rfl, rfl⟩

set_option maxHeartbeats 4000000 in
theorem Quo_nz (s t : Bool) (a b : List Int) (v : Int) (la : a.length < 1099511627776) (lb : b.length < 1099511627776) (ua : u64s a) (ub : u64s b) (ev : sv s a = v) (ew : sv t b = 0) (hv : lenV v ≤ 67108864) : SpecM Try.prog 19 [.a [.b s, .n false .u64 a], .a [.b t, .n false .u64 b]] [] (fun o G => o = .ret (.t [.a [.b false, .o 0 0 0 0], .a [.b false, .o 1 0 0 0], .i .i64 30]) ∧ G = [⟨82, 1, 0, true, ints .u64 []⟩, ⟨82, 1, 0, true, ints .u64 []⟩]) := by
  refine specS_of [(0, .a [.b s, .n false .u64 a]), (1, .a [.b t, .n false .u64 b])] rfl Try.func19 rfl (Nat.le_of_ble_eq_true rfl) fun Γ hN hds hL hR => ?_
  have hd : ∀ d, Nat.blt d 13 = true → d < Γ.N := fun d h => by rw [hN]; exact Nat.le_of_ble_eq_true h
  refine jc_seq ?_
  refine jc_region ?_
  refine jo_h (hy_box (id := 0) (n := 2) rfl rfl rfl (by decide) rfl) (hd 2 rfl) ?_
  refine jo_h (hy_box (id := 1) (n := 2) rfl rfl rfl (by decide) rfl) (hd 3 rfl) ?_
  refine jo_h (hy_alloc (id := 2) zero30 (by decide) rfl (by decide) rfl) (hd 4 rfl) ?_
  refine jo_h (hy_alloc (id := 3) zero30 (by decide) rfl (by decide) rfl) (hd 5 rfl) ?_
  refine jo_l (ly_as rfl) (hd 6 rfl) ?_
  refine jo_nil ?_
  refine jc_seq ?_
  refine jc_region ?_
  refine jo_l (ly_lda agg30 rfl rfl rfl rfl) (hd 7 rfl) ?_
  refine jo_l (ly_lda agg30 rfl rfl rfl rfl) (hd 8 rfl) ?_
  refine jo_callN Try.f62 (divide_nz s t a b v la lb ua ub ev ew 0 hv) (fun o G ⟨_, h⟩ => h ▸ idless_cons ints_id (idless_cons ints_id idless_nil)) rfl Try.func62 rfl rfl (ovL_cons rfl (ovL_cons rfl (ovL_cons rfl ovL_nil))) (.cons (.a1 .b (.a1 .n .a0)) (.cons (.a1 .b (.a1 .n .a0)) (.cons .i .nil))) (hd 9 rfl) ?_ (fun ch G hp => by simp at hp)
  rintro y G ⟨hy, rfl⟩
  injection hy with hy
  subst hy
  show JO _ _ _ _ ((9, .t [.a [.b false, .o 4 0 0 0], .a [.b false, .o 5 0 0 0], .i .i64 30]) :: _) _ _
  refine jo_l (ly_ext rfl rfl) (hd 10 rfl) ?_
  refine jo_l (ly_ext rfl rfl) (hd 11 rfl) ?_
  refine jo_l (ly_ext rfl rfl) (hd 12 rfl) ?_
  refine jo_st (sy_store rfl rfl rfl siz30 rfl rfl (Nat.le_of_ble_eq_true rfl)) ?_
  refine jo_st (sy_store rfl rfl rfl siz30 rfl rfl (Nat.le_of_ble_eq_true rfl)) ?_
  refine jo_l (ly_as rfl) (hd 6 rfl) ?_
  refine jo_nil ?_
  refine jc_ret ?_
  refine ⟨[4, 5], _, (.t [.a [.b false, .o 0 0 0 0], .a [.b false, .o 1 0 0 0], .i .i64 30]), (.cons (ResV.cell agg30 rfl rfl rfl rfl) (.cons (ResV.cell agg30 rfl rfl rfl rfl) (.cons rfl .nil))), rfl, rfl, (by decide), (by first | exact idless_cons ints_id (idless_cons ints_id idless_nil) | exact idless_cons rfl (idless_cons rfl idless_nil)), ?_⟩
  exact ⟨rfl, rfl⟩

set_option maxHeartbeats 4000000 in
theorem Floor_n (s t : Bool) (a b : List Int) (v w : Int) (la : a.length < 1099511627776) (lb : b.length < 1099511627776) (ua : u64s a) (ub : u64s b) (ev : sv s a = v) (ew : sv t b = w) (hv : lenV v ≤ 67108864) (hw : lenV w ≤ 67108864) (h0 : w ≠ 0) : SpecM Try.prog 20 [.a [.b s, .n false .u64 a], .a [.b t, .n false .u64 b]] [] (fun o G => o = .ret (.t [.a [.b (decide ((wq 1 v w) < 0)), .o 0 0 0 (lm (wq 1 v w)).length], .a [.b (decide ((v - wq 1 v w * w) < 0)), .o 1 0 0 (lm (v - wq 1 v w * w)).length], .i .i64 0]) ∧ G = [⟨82, 1, 0, true, ints .u64 (lm (wq 1 v w))⟩, ⟨82, 1, 0, true, ints .u64 (lm (v - wq 1 v w * w))⟩]) := by
  refine specS_of [(0, .a [.b s, .n false .u64 a]), (1, .a [.b t, .n false .u64 b])] rfl Try.func20 rfl (Nat.le_of_ble_eq_true rfl) fun Γ hN hds hL hR => ?_
  have hd : ∀ d, Nat.blt d 13 = true → d < Γ.N := fun d h => by rw [hN]; exact Nat.le_of_ble_eq_true h
  refine jc_seq ?_
  refine jc_region ?_
  refine jo_h (hy_box (id := 0) (n := 2) rfl rfl rfl (by decide) rfl) (hd 2 rfl) ?_
  refine jo_h (hy_box (id := 1) (n := 2) rfl rfl rfl (by decide) rfl) (hd 3 rfl) ?_
  refine jo_h (hy_alloc (id := 2) zero30 (by decide) rfl (by decide) rfl) (hd 4 rfl) ?_
  refine jo_h (hy_alloc (id := 3) zero30 (by decide) rfl (by decide) rfl) (hd 5 rfl) ?_
  refine jo_l (ly_as rfl) (hd 6 rfl) ?_
  refine jo_nil ?_
  refine jc_seq ?_
  refine jc_region ?_
  refine jo_l (ly_lda agg30 rfl rfl rfl rfl) (hd 7 rfl) ?_
  refine jo_l (ly_lda agg30 rfl rfl rfl rfl) (hd 8 rfl) ?_
  refine jo_callN Try.f62 (divide_n1 s t a b v w la lb ua ub ev ew hv hw h0) (fun o G ⟨_, h⟩ => h ▸ idless_cons ints_id (idless_cons ints_id idless_nil)) rfl Try.func62 rfl rfl (ovL_cons rfl (ovL_cons rfl (ovL_cons rfl ovL_nil))) (.cons (.a1 .b (.a1 .n .a0)) (.cons (.a1 .b (.a1 .n .a0)) (.cons .i .nil))) (hd 9 rfl) ?_ (fun ch G hp => by simp at hp)
  rintro y G ⟨hy, rfl⟩
  injection hy with hy
  subst hy
  show JO _ _ _ _ ((9, .t [.a [.b (decide ((wq 1 v w) < 0)), .o 4 0 0 (lm (wq 1 v w)).length], .a [.b (decide ((v - wq 1 v w * w) < 0)), .o 5 0 0 (lm (v - wq 1 v w * w)).length], .i .i64 0]) :: _) _ _
  refine jo_l (ly_ext rfl rfl) (hd 10 rfl) ?_
  refine jo_l (ly_ext rfl rfl) (hd 11 rfl) ?_
  refine jo_l (ly_ext rfl rfl) (hd 12 rfl) ?_
  refine jo_st (sy_store rfl rfl rfl siz30 rfl rfl (Nat.le_of_ble_eq_true rfl)) ?_
  refine jo_st (sy_store rfl rfl rfl siz30 rfl rfl (Nat.le_of_ble_eq_true rfl)) ?_
  refine jo_l (ly_as rfl) (hd 6 rfl) ?_
  refine jo_nil ?_
  refine jc_ret ?_
  refine ⟨[4, 5], _, (.t [.a [.b (decide ((wq 1 v w) < 0)), .o 0 0 0 (lm (wq 1 v w)).length], .a [.b (decide ((v - wq 1 v w * w) < 0)), .o 1 0 0 (lm (v - wq 1 v w * w)).length], .i .i64 0]), (.cons (ResV.cell agg30 rfl rfl rfl rfl) (.cons (ResV.cell agg30 rfl rfl rfl rfl) (.cons rfl .nil))), rfl, rfl, (by decide), (by first | exact idless_cons ints_id (idless_cons ints_id idless_nil) | exact idless_cons rfl (idless_cons rfl idless_nil)), ?_⟩
  exact ⟨rfl, rfl⟩

set_option maxHeartbeats 4000000 in
theorem Floor_nz (s t : Bool) (a b : List Int) (v : Int) (la : a.length < 1099511627776) (lb : b.length < 1099511627776) (ua : u64s a) (ub : u64s b) (ev : sv s a = v) (ew : sv t b = 0) (hv : lenV v ≤ 67108864) : SpecM Try.prog 20 [.a [.b s, .n false .u64 a], .a [.b t, .n false .u64 b]] [] (fun o G => o = .ret (.t [.a [.b false, .o 0 0 0 0], .a [.b false, .o 1 0 0 0], .i .i64 30]) ∧ G = [⟨82, 1, 0, true, ints .u64 []⟩, ⟨82, 1, 0, true, ints .u64 []⟩]) := by
  refine specS_of [(0, .a [.b s, .n false .u64 a]), (1, .a [.b t, .n false .u64 b])] rfl Try.func20 rfl (Nat.le_of_ble_eq_true rfl) fun Γ hN hds hL hR => ?_
  have hd : ∀ d, Nat.blt d 13 = true → d < Γ.N := fun d h => by rw [hN]; exact Nat.le_of_ble_eq_true h
  refine jc_seq ?_
  refine jc_region ?_
  refine jo_h (hy_box (id := 0) (n := 2) rfl rfl rfl (by decide) rfl) (hd 2 rfl) ?_
  refine jo_h (hy_box (id := 1) (n := 2) rfl rfl rfl (by decide) rfl) (hd 3 rfl) ?_
  refine jo_h (hy_alloc (id := 2) zero30 (by decide) rfl (by decide) rfl) (hd 4 rfl) ?_
  refine jo_h (hy_alloc (id := 3) zero30 (by decide) rfl (by decide) rfl) (hd 5 rfl) ?_
  refine jo_l (ly_as rfl) (hd 6 rfl) ?_
  refine jo_nil ?_
  refine jc_seq ?_
  refine jc_region ?_
  refine jo_l (ly_lda agg30 rfl rfl rfl rfl) (hd 7 rfl) ?_
  refine jo_l (ly_lda agg30 rfl rfl rfl rfl) (hd 8 rfl) ?_
  refine jo_callN Try.f62 (divide_nz s t a b v la lb ua ub ev ew 1 hv) (fun o G ⟨_, h⟩ => h ▸ idless_cons ints_id (idless_cons ints_id idless_nil)) rfl Try.func62 rfl rfl (ovL_cons rfl (ovL_cons rfl (ovL_cons rfl ovL_nil))) (.cons (.a1 .b (.a1 .n .a0)) (.cons (.a1 .b (.a1 .n .a0)) (.cons .i .nil))) (hd 9 rfl) ?_ (fun ch G hp => by simp at hp)
  rintro y G ⟨hy, rfl⟩
  injection hy with hy
  subst hy
  show JO _ _ _ _ ((9, .t [.a [.b false, .o 4 0 0 0], .a [.b false, .o 5 0 0 0], .i .i64 30]) :: _) _ _
  refine jo_l (ly_ext rfl rfl) (hd 10 rfl) ?_
  refine jo_l (ly_ext rfl rfl) (hd 11 rfl) ?_
  refine jo_l (ly_ext rfl rfl) (hd 12 rfl) ?_
  refine jo_st (sy_store rfl rfl rfl siz30 rfl rfl (Nat.le_of_ble_eq_true rfl)) ?_
  refine jo_st (sy_store rfl rfl rfl siz30 rfl rfl (Nat.le_of_ble_eq_true rfl)) ?_
  refine jo_l (ly_as rfl) (hd 6 rfl) ?_
  refine jo_nil ?_
  refine jc_ret ?_
  refine ⟨[4, 5], _, (.t [.a [.b false, .o 0 0 0 0], .a [.b false, .o 1 0 0 0], .i .i64 30]), (.cons (ResV.cell agg30 rfl rfl rfl rfl) (.cons (ResV.cell agg30 rfl rfl rfl rfl) (.cons rfl .nil))), rfl, rfl, (by decide), (by first | exact idless_cons ints_id (idless_cons ints_id idless_nil) | exact idless_cons rfl (idless_cons rfl idless_nil)), ?_⟩
  exact ⟨rfl, rfl⟩

set_option maxHeartbeats 4000000 in
theorem Ceil_n (s t : Bool) (a b : List Int) (v w : Int) (la : a.length < 1099511627776) (lb : b.length < 1099511627776) (ua : u64s a) (ub : u64s b) (ev : sv s a = v) (ew : sv t b = w) (hv : lenV v ≤ 67108864) (hw : lenV w ≤ 67108864) (h0 : w ≠ 0) : SpecM Try.prog 21 [.a [.b s, .n false .u64 a], .a [.b t, .n false .u64 b]] [] (fun o G => o = .ret (.t [.a [.b (decide ((wq 2 v w) < 0)), .o 0 0 0 (lm (wq 2 v w)).length], .a [.b (decide ((v - wq 2 v w * w) < 0)), .o 1 0 0 (lm (v - wq 2 v w * w)).length], .i .i64 0]) ∧ G = [⟨82, 1, 0, true, ints .u64 (lm (wq 2 v w))⟩, ⟨82, 1, 0, true, ints .u64 (lm (v - wq 2 v w * w))⟩]) := by
  refine specS_of [(0, .a [.b s, .n false .u64 a]), (1, .a [.b t, .n false .u64 b])] rfl Try.func21 rfl (Nat.le_of_ble_eq_true rfl) fun Γ hN hds hL hR => ?_
  have hd : ∀ d, Nat.blt d 13 = true → d < Γ.N := fun d h => by rw [hN]; exact Nat.le_of_ble_eq_true h
  refine jc_seq ?_
  refine jc_region ?_
  refine jo_h (hy_box (id := 0) (n := 2) rfl rfl rfl (by decide) rfl) (hd 2 rfl) ?_
  refine jo_h (hy_box (id := 1) (n := 2) rfl rfl rfl (by decide) rfl) (hd 3 rfl) ?_
  refine jo_h (hy_alloc (id := 2) zero30 (by decide) rfl (by decide) rfl) (hd 4 rfl) ?_
  refine jo_h (hy_alloc (id := 3) zero30 (by decide) rfl (by decide) rfl) (hd 5 rfl) ?_
  refine jo_l (ly_as rfl) (hd 6 rfl) ?_
  refine jo_nil ?_
  refine jc_seq ?_
  refine jc_region ?_
  refine jo_l (ly_lda agg30 rfl rfl rfl rfl) (hd 7 rfl) ?_
  refine jo_l (ly_lda agg30 rfl rfl rfl rfl) (hd 8 rfl) ?_
  refine jo_callN Try.f62 (divide_n2 s t a b v w la lb ua ub ev ew hv hw h0) (fun o G ⟨_, h⟩ => h ▸ idless_cons ints_id (idless_cons ints_id idless_nil)) rfl Try.func62 rfl rfl (ovL_cons rfl (ovL_cons rfl (ovL_cons rfl ovL_nil))) (.cons (.a1 .b (.a1 .n .a0)) (.cons (.a1 .b (.a1 .n .a0)) (.cons .i .nil))) (hd 9 rfl) ?_ (fun ch G hp => by simp at hp)
  rintro y G ⟨hy, rfl⟩
  injection hy with hy
  subst hy
  show JO _ _ _ _ ((9, .t [.a [.b (decide ((wq 2 v w) < 0)), .o 4 0 0 (lm (wq 2 v w)).length], .a [.b (decide ((v - wq 2 v w * w) < 0)), .o 5 0 0 (lm (v - wq 2 v w * w)).length], .i .i64 0]) :: _) _ _
  refine jo_l (ly_ext rfl rfl) (hd 10 rfl) ?_
  refine jo_l (ly_ext rfl rfl) (hd 11 rfl) ?_
  refine jo_l (ly_ext rfl rfl) (hd 12 rfl) ?_
  refine jo_st (sy_store rfl rfl rfl siz30 rfl rfl (Nat.le_of_ble_eq_true rfl)) ?_
  refine jo_st (sy_store rfl rfl rfl siz30 rfl rfl (Nat.le_of_ble_eq_true rfl)) ?_
  refine jo_l (ly_as rfl) (hd 6 rfl) ?_
  refine jo_nil ?_
  refine jc_ret ?_
  refine ⟨[4, 5], _, (.t [.a [.b (decide ((wq 2 v w) < 0)), .o 0 0 0 (lm (wq 2 v w)).length], .a [.b (decide ((v - wq 2 v w * w) < 0)), .o 1 0 0 (lm (v - wq 2 v w * w)).length], .i .i64 0]), (.cons (ResV.cell agg30 rfl rfl rfl rfl) (.cons (ResV.cell agg30 rfl rfl rfl rfl) (.cons rfl .nil))), rfl, rfl, (by decide), (by first | exact idless_cons ints_id (idless_cons ints_id idless_nil) | exact idless_cons rfl (idless_cons rfl idless_nil)), ?_⟩
  exact ⟨rfl, rfl⟩

set_option maxHeartbeats 4000000 in
theorem Ceil_nz (s t : Bool) (a b : List Int) (v : Int) (la : a.length < 1099511627776) (lb : b.length < 1099511627776) (ua : u64s a) (ub : u64s b) (ev : sv s a = v) (ew : sv t b = 0) (hv : lenV v ≤ 67108864) : SpecM Try.prog 21 [.a [.b s, .n false .u64 a], .a [.b t, .n false .u64 b]] [] (fun o G => o = .ret (.t [.a [.b false, .o 0 0 0 0], .a [.b false, .o 1 0 0 0], .i .i64 30]) ∧ G = [⟨82, 1, 0, true, ints .u64 []⟩, ⟨82, 1, 0, true, ints .u64 []⟩]) := by
  refine specS_of [(0, .a [.b s, .n false .u64 a]), (1, .a [.b t, .n false .u64 b])] rfl Try.func21 rfl (Nat.le_of_ble_eq_true rfl) fun Γ hN hds hL hR => ?_
  have hd : ∀ d, Nat.blt d 13 = true → d < Γ.N := fun d h => by rw [hN]; exact Nat.le_of_ble_eq_true h
  refine jc_seq ?_
  refine jc_region ?_
  refine jo_h (hy_box (id := 0) (n := 2) rfl rfl rfl (by decide) rfl) (hd 2 rfl) ?_
  refine jo_h (hy_box (id := 1) (n := 2) rfl rfl rfl (by decide) rfl) (hd 3 rfl) ?_
  refine jo_h (hy_alloc (id := 2) zero30 (by decide) rfl (by decide) rfl) (hd 4 rfl) ?_
  refine jo_h (hy_alloc (id := 3) zero30 (by decide) rfl (by decide) rfl) (hd 5 rfl) ?_
  refine jo_l (ly_as rfl) (hd 6 rfl) ?_
  refine jo_nil ?_
  refine jc_seq ?_
  refine jc_region ?_
  refine jo_l (ly_lda agg30 rfl rfl rfl rfl) (hd 7 rfl) ?_
  refine jo_l (ly_lda agg30 rfl rfl rfl rfl) (hd 8 rfl) ?_
  refine jo_callN Try.f62 (divide_nz s t a b v la lb ua ub ev ew 2 hv) (fun o G ⟨_, h⟩ => h ▸ idless_cons ints_id (idless_cons ints_id idless_nil)) rfl Try.func62 rfl rfl (ovL_cons rfl (ovL_cons rfl (ovL_cons rfl ovL_nil))) (.cons (.a1 .b (.a1 .n .a0)) (.cons (.a1 .b (.a1 .n .a0)) (.cons .i .nil))) (hd 9 rfl) ?_ (fun ch G hp => by simp at hp)
  rintro y G ⟨hy, rfl⟩
  injection hy with hy
  subst hy
  show JO _ _ _ _ ((9, .t [.a [.b false, .o 4 0 0 0], .a [.b false, .o 5 0 0 0], .i .i64 30]) :: _) _ _
  refine jo_l (ly_ext rfl rfl) (hd 10 rfl) ?_
  refine jo_l (ly_ext rfl rfl) (hd 11 rfl) ?_
  refine jo_l (ly_ext rfl rfl) (hd 12 rfl) ?_
  refine jo_st (sy_store rfl rfl rfl siz30 rfl rfl (Nat.le_of_ble_eq_true rfl)) ?_
  refine jo_st (sy_store rfl rfl rfl siz30 rfl rfl (Nat.le_of_ble_eq_true rfl)) ?_
  refine jo_l (ly_as rfl) (hd 6 rfl) ?_
  refine jo_nil ?_
  refine jc_ret ?_
  refine ⟨[4, 5], _, (.t [.a [.b false, .o 0 0 0 0], .a [.b false, .o 1 0 0 0], .i .i64 30]), (.cons (ResV.cell agg30 rfl rfl rfl rfl) (.cons (ResV.cell agg30 rfl rfl rfl rfl) (.cons rfl .nil))), rfl, rfl, (by decide), (by first | exact idless_cons ints_id (idless_cons ints_id idless_nil) | exact idless_cons rfl (idless_cons rfl idless_nil)), ?_⟩
  exact ⟨rfl, rfl⟩

set_option maxHeartbeats 4000000 in
theorem Near_n (s t : Bool) (a b : List Int) (v w : Int) (la : a.length < 1099511627776) (lb : b.length < 1099511627776) (ua : u64s a) (ub : u64s b) (ev : sv s a = v) (ew : sv t b = w) (hv : lenV v ≤ 67108864) (hw : lenV w ≤ 67108864) (h0 : w ≠ 0) : SpecM Try.prog 22 [.a [.b s, .n false .u64 a], .a [.b t, .n false .u64 b]] [] (fun o G => o = .ret (.t [.a [.b (decide ((wq 3 v w) < 0)), .o 0 0 0 (lm (wq 3 v w)).length], .a [.b (decide ((v - wq 3 v w * w) < 0)), .o 1 0 0 (lm (v - wq 3 v w * w)).length], .i .i64 0]) ∧ G = [⟨82, 1, 0, true, ints .u64 (lm (wq 3 v w))⟩, ⟨82, 1, 0, true, ints .u64 (lm (v - wq 3 v w * w))⟩]) := by
  refine specS_of [(0, .a [.b s, .n false .u64 a]), (1, .a [.b t, .n false .u64 b])] rfl Try.func22 rfl (Nat.le_of_ble_eq_true rfl) fun Γ hN hds hL hR => ?_
  have hd : ∀ d, Nat.blt d 13 = true → d < Γ.N := fun d h => by rw [hN]; exact Nat.le_of_ble_eq_true h
  refine jc_seq ?_
  refine jc_region ?_
  refine jo_h (hy_box (id := 0) (n := 2) rfl rfl rfl (by decide) rfl) (hd 2 rfl) ?_
  refine jo_h (hy_box (id := 1) (n := 2) rfl rfl rfl (by decide) rfl) (hd 3 rfl) ?_
  refine jo_h (hy_alloc (id := 2) zero30 (by decide) rfl (by decide) rfl) (hd 4 rfl) ?_
  refine jo_h (hy_alloc (id := 3) zero30 (by decide) rfl (by decide) rfl) (hd 5 rfl) ?_
  refine jo_l (ly_as rfl) (hd 6 rfl) ?_
  refine jo_nil ?_
  refine jc_seq ?_
  refine jc_region ?_
  refine jo_l (ly_lda agg30 rfl rfl rfl rfl) (hd 7 rfl) ?_
  refine jo_l (ly_lda agg30 rfl rfl rfl rfl) (hd 8 rfl) ?_
  refine jo_callN Try.f62 (divide_n3 s t a b v w la lb ua ub ev ew hv hw h0) (fun o G ⟨_, h⟩ => h ▸ idless_cons ints_id (idless_cons ints_id idless_nil)) rfl Try.func62 rfl rfl (ovL_cons rfl (ovL_cons rfl (ovL_cons rfl ovL_nil))) (.cons (.a1 .b (.a1 .n .a0)) (.cons (.a1 .b (.a1 .n .a0)) (.cons .i .nil))) (hd 9 rfl) ?_ (fun ch G hp => by simp at hp)
  rintro y G ⟨hy, rfl⟩
  injection hy with hy
  subst hy
  show JO _ _ _ _ ((9, .t [.a [.b (decide ((wq 3 v w) < 0)), .o 4 0 0 (lm (wq 3 v w)).length], .a [.b (decide ((v - wq 3 v w * w) < 0)), .o 5 0 0 (lm (v - wq 3 v w * w)).length], .i .i64 0]) :: _) _ _
  refine jo_l (ly_ext rfl rfl) (hd 10 rfl) ?_
  refine jo_l (ly_ext rfl rfl) (hd 11 rfl) ?_
  refine jo_l (ly_ext rfl rfl) (hd 12 rfl) ?_
  refine jo_st (sy_store rfl rfl rfl siz30 rfl rfl (Nat.le_of_ble_eq_true rfl)) ?_
  refine jo_st (sy_store rfl rfl rfl siz30 rfl rfl (Nat.le_of_ble_eq_true rfl)) ?_
  refine jo_l (ly_as rfl) (hd 6 rfl) ?_
  refine jo_nil ?_
  refine jc_ret ?_
  refine ⟨[4, 5], _, (.t [.a [.b (decide ((wq 3 v w) < 0)), .o 0 0 0 (lm (wq 3 v w)).length], .a [.b (decide ((v - wq 3 v w * w) < 0)), .o 1 0 0 (lm (v - wq 3 v w * w)).length], .i .i64 0]), (.cons (ResV.cell agg30 rfl rfl rfl rfl) (.cons (ResV.cell agg30 rfl rfl rfl rfl) (.cons rfl .nil))), rfl, rfl, (by decide), (by first | exact idless_cons ints_id (idless_cons ints_id idless_nil) | exact idless_cons rfl (idless_cons rfl idless_nil)), ?_⟩
  exact ⟨rfl, rfl⟩

set_option maxHeartbeats 4000000 in
theorem Near_nz (s t : Bool) (a b : List Int) (v : Int) (la : a.length < 1099511627776) (lb : b.length < 1099511627776) (ua : u64s a) (ub : u64s b) (ev : sv s a = v) (ew : sv t b = 0) (hv : lenV v ≤ 67108864) : SpecM Try.prog 22 [.a [.b s, .n false .u64 a], .a [.b t, .n false .u64 b]] [] (fun o G => o = .ret (.t [.a [.b false, .o 0 0 0 0], .a [.b false, .o 1 0 0 0], .i .i64 30]) ∧ G = [⟨82, 1, 0, true, ints .u64 []⟩, ⟨82, 1, 0, true, ints .u64 []⟩]) := by
  refine specS_of [(0, .a [.b s, .n false .u64 a]), (1, .a [.b t, .n false .u64 b])] rfl Try.func22 rfl (Nat.le_of_ble_eq_true rfl) fun Γ hN hds hL hR => ?_
  have hd : ∀ d, Nat.blt d 13 = true → d < Γ.N := fun d h => by rw [hN]; exact Nat.le_of_ble_eq_true h
  refine jc_seq ?_
  refine jc_region ?_
  refine jo_h (hy_box (id := 0) (n := 2) rfl rfl rfl (by decide) rfl) (hd 2 rfl) ?_
  refine jo_h (hy_box (id := 1) (n := 2) rfl rfl rfl (by decide) rfl) (hd 3 rfl) ?_
  refine jo_h (hy_alloc (id := 2) zero30 (by decide) rfl (by decide) rfl) (hd 4 rfl) ?_
  refine jo_h (hy_alloc (id := 3) zero30 (by decide) rfl (by decide) rfl) (hd 5 rfl) ?_
  refine jo_l (ly_as rfl) (hd 6 rfl) ?_
  refine jo_nil ?_
  refine jc_seq ?_
  refine jc_region ?_
  refine jo_l (ly_lda agg30 rfl rfl rfl rfl) (hd 7 rfl) ?_
  refine jo_l (ly_lda agg30 rfl rfl rfl rfl) (hd 8 rfl) ?_
  refine jo_callN Try.f62 (divide_nz s t a b v la lb ua ub ev ew 3 hv) (fun o G ⟨_, h⟩ => h ▸ idless_cons ints_id (idless_cons ints_id idless_nil)) rfl Try.func62 rfl rfl (ovL_cons rfl (ovL_cons rfl (ovL_cons rfl ovL_nil))) (.cons (.a1 .b (.a1 .n .a0)) (.cons (.a1 .b (.a1 .n .a0)) (.cons .i .nil))) (hd 9 rfl) ?_ (fun ch G hp => by simp at hp)
  rintro y G ⟨hy, rfl⟩
  injection hy with hy
  subst hy
  show JO _ _ _ _ ((9, .t [.a [.b false, .o 4 0 0 0], .a [.b false, .o 5 0 0 0], .i .i64 30]) :: _) _ _
  refine jo_l (ly_ext rfl rfl) (hd 10 rfl) ?_
  refine jo_l (ly_ext rfl rfl) (hd 11 rfl) ?_
  refine jo_l (ly_ext rfl rfl) (hd 12 rfl) ?_
  refine jo_st (sy_store rfl rfl rfl siz30 rfl rfl (Nat.le_of_ble_eq_true rfl)) ?_
  refine jo_st (sy_store rfl rfl rfl siz30 rfl rfl (Nat.le_of_ble_eq_true rfl)) ?_
  refine jo_l (ly_as rfl) (hd 6 rfl) ?_
  refine jo_nil ?_
  refine jc_ret ?_
  refine ⟨[4, 5], _, (.t [.a [.b false, .o 0 0 0 0], .a [.b false, .o 1 0 0 0], .i .i64 30]), (.cons (ResV.cell agg30 rfl rfl rfl rfl) (.cons (ResV.cell agg30 rfl rfl rfl rfl) (.cons rfl .nil))), rfl, rfl, (by decide), (by first | exact idless_cons ints_id (idless_cons ints_id idless_nil) | exact idless_cons rfl (idless_cons rfl idless_nil)), ?_⟩
  exact ⟨rfl, rfl⟩

set_option maxHeartbeats 4000000 in
theorem Euclid_n (s t : Bool) (a b : List Int) (v w : Int) (la : a.length < 1099511627776) (lb : b.length < 1099511627776) (ua : u64s a) (ub : u64s b) (ev : sv s a = v) (ew : sv t b = w) (hv : lenV v ≤ 67108864) (hw : lenV w ≤ 67108864) (h0 : w ≠ 0) : SpecM Try.prog 23 [.a [.b s, .n false .u64 a], .a [.b t, .n false .u64 b]] [] (fun o G => o = .ret (.t [.a [.b (decide ((wq 4 v w) < 0)), .o 0 0 0 (lm (wq 4 v w)).length], .a [.b (decide ((v - wq 4 v w * w) < 0)), .o 1 0 0 (lm (v - wq 4 v w * w)).length], .i .i64 0]) ∧ G = [⟨82, 1, 0, true, ints .u64 (lm (wq 4 v w))⟩, ⟨82, 1, 0, true, ints .u64 (lm (v - wq 4 v w * w))⟩]) := by
  refine specS_of [(0, .a [.b s, .n false .u64 a]), (1, .a [.b t, .n false .u64 b])] rfl Try.func23 rfl (Nat.le_of_ble_eq_true rfl) fun Γ hN hds hL hR => ?_
  have hd : ∀ d, Nat.blt d 13 = true → d < Γ.N := fun d h => by rw [hN]; exact Nat.le_of_ble_eq_true h
  refine jc_seq ?_
  refine jc_region ?_
  refine jo_h (hy_box (id := 0) (n := 2) rfl rfl rfl (by decide) rfl) (hd 2 rfl) ?_
  refine jo_h (hy_box (id := 1) (n := 2) rfl rfl rfl (by decide) rfl) (hd 3 rfl) ?_
  refine jo_h (hy_alloc (id := 2) zero30 (by decide) rfl (by decide) rfl) (hd 4 rfl) ?_
  refine jo_h (hy_alloc (id := 3) zero30 (by decide) rfl (by decide) rfl) (hd 5 rfl) ?_
  refine jo_l (ly_as rfl) (hd 6 rfl) ?_
  refine jo_nil ?_
  refine jc_seq ?_
  refine jc_region ?_
  refine jo_l (ly_lda agg30 rfl rfl rfl rfl) (hd 7 rfl) ?_
  refine jo_l (ly_lda agg30 rfl rfl rfl rfl) (hd 8 rfl) ?_
  refine jo_callN Try.f62 (divide_n4 s t a b v w la lb ua ub ev ew hv hw h0) (fun o G ⟨_, h⟩ => h ▸ idless_cons ints_id (idless_cons ints_id idless_nil)) rfl Try.func62 rfl rfl (ovL_cons rfl (ovL_cons rfl (ovL_cons rfl ovL_nil))) (.cons (.a1 .b (.a1 .n .a0)) (.cons (.a1 .b (.a1 .n .a0)) (.cons .i .nil))) (hd 9 rfl) ?_ (fun ch G hp => by simp at hp)
  rintro y G ⟨hy, rfl⟩
  injection hy with hy
  subst hy
  show JO _ _ _ _ ((9, .t [.a [.b (decide ((wq 4 v w) < 0)), .o 4 0 0 (lm (wq 4 v w)).length], .a [.b (decide ((v - wq 4 v w * w) < 0)), .o 5 0 0 (lm (v - wq 4 v w * w)).length], .i .i64 0]) :: _) _ _
  refine jo_l (ly_ext rfl rfl) (hd 10 rfl) ?_
  refine jo_l (ly_ext rfl rfl) (hd 11 rfl) ?_
  refine jo_l (ly_ext rfl rfl) (hd 12 rfl) ?_
  refine jo_st (sy_store rfl rfl rfl siz30 rfl rfl (Nat.le_of_ble_eq_true rfl)) ?_
  refine jo_st (sy_store rfl rfl rfl siz30 rfl rfl (Nat.le_of_ble_eq_true rfl)) ?_
  refine jo_l (ly_as rfl) (hd 6 rfl) ?_
  refine jo_nil ?_
  refine jc_ret ?_
  refine ⟨[4, 5], _, (.t [.a [.b (decide ((wq 4 v w) < 0)), .o 0 0 0 (lm (wq 4 v w)).length], .a [.b (decide ((v - wq 4 v w * w) < 0)), .o 1 0 0 (lm (v - wq 4 v w * w)).length], .i .i64 0]), (.cons (ResV.cell agg30 rfl rfl rfl rfl) (.cons (ResV.cell agg30 rfl rfl rfl rfl) (.cons rfl .nil))), rfl, rfl, (by decide), (by first | exact idless_cons ints_id (idless_cons ints_id idless_nil) | exact idless_cons rfl (idless_cons rfl idless_nil)), ?_⟩
  exact ⟨rfl, rfl⟩

set_option maxHeartbeats 4000000 in
theorem Euclid_nz (s t : Bool) (a b : List Int) (v : Int) (la : a.length < 1099511627776) (lb : b.length < 1099511627776) (ua : u64s a) (ub : u64s b) (ev : sv s a = v) (ew : sv t b = 0) (hv : lenV v ≤ 67108864) : SpecM Try.prog 23 [.a [.b s, .n false .u64 a], .a [.b t, .n false .u64 b]] [] (fun o G => o = .ret (.t [.a [.b false, .o 0 0 0 0], .a [.b false, .o 1 0 0 0], .i .i64 30]) ∧ G = [⟨82, 1, 0, true, ints .u64 []⟩, ⟨82, 1, 0, true, ints .u64 []⟩]) := by
  refine specS_of [(0, .a [.b s, .n false .u64 a]), (1, .a [.b t, .n false .u64 b])] rfl Try.func23 rfl (Nat.le_of_ble_eq_true rfl) fun Γ hN hds hL hR => ?_
  have hd : ∀ d, Nat.blt d 13 = true → d < Γ.N := fun d h => by rw [hN]; exact Nat.le_of_ble_eq_true h
  refine jc_seq ?_
  refine jc_region ?_
  refine jo_h (hy_box (id := 0) (n := 2) rfl rfl rfl (by decide) rfl) (hd 2 rfl) ?_
  refine jo_h (hy_box (id := 1) (n := 2) rfl rfl rfl (by decide) rfl) (hd 3 rfl) ?_
  refine jo_h (hy_alloc (id := 2) zero30 (by decide) rfl (by decide) rfl) (hd 4 rfl) ?_
  refine jo_h (hy_alloc (id := 3) zero30 (by decide) rfl (by decide) rfl) (hd 5 rfl) ?_
  refine jo_l (ly_as rfl) (hd 6 rfl) ?_
  refine jo_nil ?_
  refine jc_seq ?_
  refine jc_region ?_
  refine jo_l (ly_lda agg30 rfl rfl rfl rfl) (hd 7 rfl) ?_
  refine jo_l (ly_lda agg30 rfl rfl rfl rfl) (hd 8 rfl) ?_
  refine jo_callN Try.f62 (divide_nz s t a b v la lb ua ub ev ew 4 hv) (fun o G ⟨_, h⟩ => h ▸ idless_cons ints_id (idless_cons ints_id idless_nil)) rfl Try.func62 rfl rfl (ovL_cons rfl (ovL_cons rfl (ovL_cons rfl ovL_nil))) (.cons (.a1 .b (.a1 .n .a0)) (.cons (.a1 .b (.a1 .n .a0)) (.cons .i .nil))) (hd 9 rfl) ?_ (fun ch G hp => by simp at hp)
  rintro y G ⟨hy, rfl⟩
  injection hy with hy
  subst hy
  show JO _ _ _ _ ((9, .t [.a [.b false, .o 4 0 0 0], .a [.b false, .o 5 0 0 0], .i .i64 30]) :: _) _ _
  refine jo_l (ly_ext rfl rfl) (hd 10 rfl) ?_
  refine jo_l (ly_ext rfl rfl) (hd 11 rfl) ?_
  refine jo_l (ly_ext rfl rfl) (hd 12 rfl) ?_
  refine jo_st (sy_store rfl rfl rfl siz30 rfl rfl (Nat.le_of_ble_eq_true rfl)) ?_
  refine jo_st (sy_store rfl rfl rfl siz30 rfl rfl (Nat.le_of_ble_eq_true rfl)) ?_
  refine jo_l (ly_as rfl) (hd 6 rfl) ?_
  refine jo_nil ?_
  refine jc_ret ?_
  refine ⟨[4, 5], _, (.t [.a [.b false, .o 0 0 0 0], .a [.b false, .o 1 0 0 0], .i .i64 30]), (.cons (ResV.cell agg30 rfl rfl rfl rfl) (.cons (ResV.cell agg30 rfl rfl rfl rfl) (.cons rfl .nil))), rfl, rfl, (by decide), (by first | exact idless_cons ints_id (idless_cons ints_id idless_nil) | exact idless_cons rfl (idless_cons rfl idless_nil)), ?_⟩
  exact ⟨rfl, rfl⟩
end Go.Proofs.Ytcdipmjgpimmdaa.Vc
