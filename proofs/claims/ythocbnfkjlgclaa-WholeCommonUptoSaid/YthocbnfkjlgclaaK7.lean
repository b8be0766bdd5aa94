/- What Bezout tells of two whole numbers divides both and is made of both, and an inverse is one, of every input of bulk at most 1048576 Texts joined: Ym, Yo, Yp, Yz, Zf, Zg. -/
import Derived.Test.YthocbnfkjlgclaaK6
set_option linter.unusedVariables false
set_option linter.unusedSimpArgs false
/- Contracts of whole.divide, Quo, Floor, Ceil, Near, Euclid. -/
namespace Go.Proofs.Ythocbnfkjlgclaa.Vc
open Go Go.RowKit
set_option maxHeartbeats 4000000 in
theorem divide_z0 (s t : Bool) (a b : List Int) (v w : Int) (la : a.length < 1099511627776) (lb : b.length < 1099511627776) (ua : u64s a) (ub : u64s b) (ev : sv s a = v) (ew : sv t b = w) (hv : lenV v ≤ 67108864) (hw : lenV w ≤ 67108864) (h0 : w ≠ 0) : Spec Try.prog 51 [.a [.b s, .n false .u64 a], .a [.b t, .n false .u64 b], .i .i64 0] (fun o => o = .ret (.t [.a [.b (decide ((wq 0 v w) < 0)), .n true .u64 (lm (wq 0 v w))], .a [.b (decide ((v - wq 0 v w * w) < 0)), .n true .u64 (lm (v - wq 0 v w * w))], .i .i64 0])) := by
  refine spec_of' [(0, .a [.b s, .n false .u64 a]), (1, .a [.b t, .n false .u64 b]), (2, .i .i64 0)] rfl Try.func51 rfl (Nat.le_of_ble_eq_true rfl) fun Γ hN hds hL hR => ?_
  have hd : ∀ d, Nat.blt d 103 = true → d < Γ.N := fun d h => by rw [hN]; exact Nat.le_of_ble_eq_true h
  have hlv := lenV_lm hv
  have hlw := lenV_lm hw
  obtain ⟨hx, hr0, hr1, hq0⟩ := qr_facts (v := v) h0
  have hle := lenV_mono (v := qn v w) (w := v) qn_le
  have hlr := lenV_mono (v := rn v w) (w := w) (rn_le h0).1
  have hlR := lenV_lm (v := rn v w) (by omega)
  have habs : lm (w.natAbs : Int) = lm w := by unfold lm; rw [Int.natAbs_natCast]
  have hlenw : lenV (w.natAbs : Int) = lenV w := by unfold lenV; rw [Int.natAbs_natCast]
  have hS := Sub_v (w.natAbs : Int) (rn v w) hr0 (by omega) (by omega)
  rw [habs] at hS
  have hwl := wq_len (k := 0) (v := v) h0
  refine jc_seq ?_; refine jc_region ?_; refine jo_h (hy_box (id := 0) (n := 2) rfl rfl rfl (by decide) rfl) (hd 3 rfl) ?_; refine jo_h (hy_box (id := 1) (n := 2) rfl rfl rfl (by decide) rfl) (hd 4 rfl) ?_; refine jo_h (hy_alloc (id := 2) zero30 (by decide) rfl (by decide) rfl) (hd 6 rfl) ?_; refine jo_h (hy_alloc (id := 3) zero30 (by decide) rfl (by decide) rfl) (hd 7 rfl) ?_; refine jo_l (ly_as rfl) (hd 8 rfl) ?_; refine jo_nil ?_; refine jc_seq ?_; refine jc_draw (n := 6) _ rfl mixed ?_; refine ja_l2 0 [1, 3, 4, 5] (lo_l (ly_lda agg30 rfl rfl rfl rfl) (hd 16 rfl)) rfl (by kernel_rfl) (by kernel_rfl) (by kernel_rfl) (by kernel_rfl) (fun _ _ _ _ h => h) ?_; refine ja_l2 2 [3, 4, 5] (lo_l (ly_lda agg30 rfl rfl rfl rfl) (hd 18 rfl)) rfl (by kernel_rfl) (by kernel_rfl) (by kernel_rfl) (by kernel_rfl) (fun _ _ _ _ h => h) ?_
  refine ja_1 1 ?_ rfl (by kernel_rfl)
  refine js_call Try.f53 (norm_v s a v la ua ev) rfl Try.func53 rfl rfl (ovL_cons rfl ovL_nil) (.cons (.a1 .b (.a1 .n .a0)) .nil) (hd 17 rfl) ?_ (fun ch hp => by simp at hp)
  rintro y hy; injection hy with hy; subst hy
  refine ja_1 3 ?_ rfl (by kernel_rfl)
  refine js_call Try.f53 (norm_v t b w lb ub ew) rfl Try.func53 rfl rfl (ovL_cons rfl ovL_nil) (.cons (.a1 .b (.a1 .n .a0)) .nil) (hd 19 rfl) ?_ (fun ch hp => by simp at hp)
  rintro y hy; injection hy with hy; subst hy
  refine ja_1 4 ?_ rfl (by kernel_rfl)
  refine js_st (sy_store rfl rfl rfl siz30 rfl rfl (Nat.le_of_ble_eq_true rfl)) rfl ?_
  refine ja_1 5 ?_ rfl (by kernel_rfl)
  refine js_st (sy_store rfl rfl rfl siz30 rfl rfl (Nat.le_of_ble_eq_true rfl)) rfl ?_; refine ja_nil (by kernel_rfl) ?_; refine jc_seq ?_; refine jc_region ?_; refine jo_l (ly_fa fld30_1 rfl rfl rfl) (hd 21 rfl) ?_; refine jo_l (ly_ld one28 rfl rfl rfl) (hd 22 rfl) ?_; refine jo_l (ly_fa fld30_1 rfl rfl rfl) (hd 23 rfl) ?_; refine jo_l (ly_ld one28 rfl rfl rfl) (hd 24 rfl) ?_
  refine jo_call Try.f86 (Both_v v w hv hw h0) rfl Try.func86 rfl rfl (ovL_cons rfl (ovL_cons rfl ovL_nil)) (.cons .n (.cons .n .nil)) (hd 25 rfl) ?_ (fun ch hp => by simp at hp)
  rintro y hy; injection hy with hy; subst hy; refine jo_l (ly_mv rfl) (hd 20 rfl) ?_; refine jo_l (ly_ext rfl rfl) (hd 26 rfl) ?_; refine jo_l (ly_ext rfl rfl) (hd 27 rfl) ?_; refine jo_l (ly_ext rfl rfl) (hd 28 rfl) ?_; refine jo_l (ly_as rfl) (hd 9 rfl) ?_; refine jo_l (ly_as rfl) (hd 10 rfl) ?_; refine jo_l (ly_as rfl) (hd 11 rfl) ?_; refine jo_nil ?_; refine jc_seq ?_; refine jc_seq ?_; refine jc_region ?_; refine jo_l (ly_mv rfl) (hd 29 rfl) ?_; refine jo_l (ly_ff (ly_ne rfl rfl) (by simp)) (hd 30 rfl) ?_; refine jo_nil ?_; refine jc_litf rfl ?_; refine jc_skip ?_; refine jc_seq ?_; refine jc_draw (n := 9) _ rfl mixed ?_; refine ja_l2 0 [1, 4, 7, 8] (lo_l (ly_fa fld30_0 rfl rfl rfl) (hd 34 rfl)) rfl (by kernel_rfl) (by kernel_rfl) (by kernel_rfl) (by kernel_rfl) (fun _ _ _ _ h => h) ?_; refine ja_l 1 (lo_l (ly_ld one4 rfl rfl rfl) (hd 35 rfl)) rfl (by kernel_rfl) (by kernel_rfl) (by kernel_rfl) (fun _ _ _ _ h => h) ?_; refine ja_l2 2 [3, 4, 7, 8] (lo_l (ly_fa fld30_0 rfl rfl rfl) (hd 36 rfl)) rfl (by kernel_rfl) (by kernel_rfl) (by kernel_rfl) (by kernel_rfl) (fun _ _ _ _ h => h) ?_; refine ja_l 3 (lo_l (ly_ld one4 rfl rfl rfl) (hd 37 rfl)) rfl (by kernel_rfl) (by kernel_rfl) (by kernel_rfl) (fun _ _ _ _ h => h) ?_; refine ja_l 4 (lo_l (ly_is (ly_neb und4 rfl rfl) (show V.b _ = V.b (ng v w) from rfl)) (hd 38 rfl)) rfl (by kernel_rfl) (by kernel_rfl) (by kernel_rfl) (fun _ _ _ _ h => h) ?_; refine ja_l 5 (lo_l (ly_fa fld30_0 rfl rfl rfl) (hd 39 rfl)) rfl (by kernel_rfl) (by kernel_rfl) (by kernel_rfl) (fun _ _ _ _ h => h) ?_; refine ja_l 6 (lo_l (ly_ld one4 rfl rfl rfl) (hd 40 rfl)) rfl (by kernel_rfl) (by kernel_rfl) (by kernel_rfl) (fun _ _ _ _ h => h) ?_; refine ja_l 7 (lo_l (ly_as rfl) (hd 12 rfl)) rfl (by kernel_rfl) (by kernel_rfl) (by kernel_rfl) (fun _ _ _ _ h => h) ?_; refine ja_l 8 (lo_l (ly_as rfl) (hd 13 rfl)) rfl (by kernel_rfl) (by kernel_rfl) (by kernel_rfl) (fun _ _ _ _ h => h) ?_; refine ja_nil (by kernel_rfl) ?_
  refine jc_meetH (G := Int × Int × Bool) (fun g => sgd (ng v w) g.1 = (wq 0 v w) ∧ sgd g.2.2 g.2.1 = (v - wq 0 v w * w) ∧ 0 ≤ g.1 ∧ 0 ≤ g.2.1) (fun g => [(9, .n false .u64 (lm g.1)), (10, .n false .u64 (lm g.2.1)), (13, .b g.2.2), (8, .u), (11, .u), (41, .u), (42, .u), (43, .u), (44, .u), (45, .u), (46, .u), (47, .u), (48, .u), (49, .u), (50, .u), (51, .u), (52, .u), (53, .u), (54, .u), (55, .u), (56, .u), (57, .u), (58, .u), (59, .u), (60, .u), (61, .u), (62, .u), (63, .u), (64, .u), (65, .u), (66, .u), (67, .u), (68, .u), (69, .u), (70, .u), (71, .u), (72, .u), (73, .u), (74, .u), (75, .u), (76, .u), (77, .u), (78, .u)]) ?_ ?_
  · refine jc_seq ?_; refine jc_draw (n := 18) _ rfl mixed ?_; refine ja_l2 0 [1, 2, 3, 4, 5, 6, 7, 8, 9, 10, 11, 12, 13, 14, 15, 16, 17] (lo_l (ly_mv rfl) (hd 41 rfl)) rfl (by kernel_rfl) (by kernel_rfl) (by kernel_rfl) (by kernel_rfl) (fun _ _ _ _ h => h) ?_
    refine ja_1 1 ?_ rfl (by kernel_rfl)
    refine js_call Try.f54 (Length_v (rn v w) (by omega)) rfl Try.func54 rfl rfl (ovL_cons rfl ovL_nil) (.cons .n .nil) (hd 42 rfl) ?_ (fun ch hp => by simp at hp)
    rintro y hy; injection hy with hy; subst hy; refine ja_l2 2 [3, 4, 5, 6, 7, 8, 9, 10, 11, 12, 13, 14, 15, 16, 17] (lo_l (ly_gt rfl rfl) (hd 43 rfl)) rfl (by kernel_rfl) (by kernel_rfl) (by kernel_rfl) (by kernel_rfl) (fun _ _ _ _ h => h) ?_; refine ja_l 3 (lo_l (ly_mv rfl) (hd 44 rfl)) rfl (by kernel_rfl) (by kernel_rfl) (by kernel_rfl) (fun _ _ _ _ h => h) ?_
    refine ja_ifp 44 rfl (fun h2 => ?_) (fun h2 => ?_)
    · have hrn : rn v w ≠ 0 := fun e => by have := lenV_0.2 e; omega
      refine ja_l2 5 [6, 16, 17] (lo_g 44 rfl rfl (ly_mv rfl) (hd 46 rfl)) rfl (by kernel_rfl) (by kernel_rfl) (by kernel_rfl) (by kernel_rfl) (fun _ _ _ _ h => h) ?_; refine ja_l2 7 [16, 17] (lo_g 44 rfl rfl (ly_mv rfl) (hd 48 rfl)) rfl (by kernel_rfl) (by kernel_rfl) (by kernel_rfl) (by kernel_rfl) (fun _ _ _ _ h => h) ?_; refine ja_l2 8 [16, 17] (lo_g 44 rfl rfl (ly_mv rfl) (hd 49 rfl)) rfl (by kernel_rfl) (by kernel_rfl) (by kernel_rfl) (by kernel_rfl) (fun _ _ _ _ h => h) ?_; refine ja_l2 9 [10, 16, 17] (lo_g 44 rfl rfl (ly_fa fld30_1 rfl rfl rfl) (hd 50 rfl)) rfl (by kernel_rfl) (by kernel_rfl) (by kernel_rfl) (by kernel_rfl) (fun _ _ _ _ h => h) ?_; refine ja_l2 10 [16, 17] (lo_g 44 rfl rfl (ly_ld one28 rfl rfl rfl) (hd 51 rfl)) rfl (by kernel_rfl) (by kernel_rfl) (by kernel_rfl) (by kernel_rfl) (fun _ _ _ _ h => h) ?_; refine ja_l2 11 [16, 17] (lo_g 44 rfl rfl (ly_mv rfl) (hd 52 rfl)) rfl (by kernel_rfl) (by kernel_rfl) (by kernel_rfl) (by kernel_rfl) (fun _ _ _ _ h => h) ?_; refine ja_l2 12 [13, 16, 17] (lo_g 44 rfl rfl (ly_fa fld30_0 rfl rfl rfl) (hd 53 rfl)) rfl (by kernel_rfl) (by kernel_rfl) (by kernel_rfl) (by kernel_rfl) (fun _ _ _ _ h => h) ?_; refine ja_l2 13 [16, 17] (lo_g 44 rfl rfl (ly_ld one4 rfl rfl rfl) (hd 54 rfl)) rfl (by kernel_rfl) (by kernel_rfl) (by kernel_rfl) (by kernel_rfl) (fun _ _ _ _ h => h) ?_; refine ja_l2 14 [15, 16, 17] (lo_g 44 rfl rfl (ly_fa fld30_0 rfl rfl rfl) (hd 55 rfl)) rfl (by kernel_rfl) (by kernel_rfl) (by kernel_rfl) (by kernel_rfl) (fun _ _ _ _ h => h) ?_; refine ja_l2 15 [16, 17] (lo_g 44 rfl rfl (ly_ld one4 rfl rfl rfl) (hd 56 rfl)) rfl (by kernel_rfl) (by kernel_rfl) (by kernel_rfl) (by kernel_rfl) (fun _ _ _ _ h => h) ?_
      refine ja_1 4 ?_ rfl (by kernel_rfl)
      refine js_callg Try.f87 44 rfl rfl (ways_s) rfl Try.func87 rfl rfl ovL_nil .nil (hd 45 rfl) ?_ (fun ch hp => by simp at hp)
      rintro y hy; injection hy with hy; subst hy; refine ja_l2 6 [16, 17] (lo_g 44 rfl rfl (ly_ixa (i := 0) undA102 one101 rfl rfl rfl (by decide) rfl) (hd 47 rfl)) rfl (by kernel_rfl) (by kernel_rfl) (by kernel_rfl) (by kernel_rfl) (fun _ _ _ _ h => h) ?_
      refine ja_1 16 ?_ rfl (by kernel_rfl)
      refine js_callg Try.f109 44 rfl rfl (way0_v v w) rfl Try.func109 rfl rfl (ovL_cons rfl (ovL_cons rfl (ovL_cons rfl (ovL_cons rfl (ovL_cons rfl (ovL_cons rfl ovL_nil)))))) (.cons .n (.cons .n (.cons .n (.cons .b (.cons .b (.cons .b .nil)))))) (hd 57 rfl) ?_ (fun ch hp => by simp at hp)
      rintro y hy; injection hy with hy; subst hy; refine ja_l 17 (lo_l (ly_pick_t rfl rfl) (hd 58 rfl)) rfl (by kernel_rfl) (by kernel_rfl) (by kernel_rfl) (fun _ _ _ _ h => h) ?_; refine ja_nil (by kernel_rfl) ?_
      refine jc_cond rfl (fun h3 => ?_) (fun h3 => ?_)
      · have hg : gro 0 v w = true := h3
        refine jc_seq ?_; refine jc_seq ?_; refine jc_region ?_; refine jo_l (ly_mv rfl) (hd 60 rfl) ?_
        refine jo_call Try.f47 (From1_v) rfl Try.func47 rfl rfl (ovL_cons rfl ovL_nil) (.cons .i .nil) (hd 61 rfl) ?_ (fun ch hp => by simp at hp)
        rintro y hy; injection hy with hy; subst hy
        refine jo_call Try.f74 (Add1_v (qn v w) hq0 (by have := lenV_mono (qn1_le h0 hrn); omega)) rfl Try.func74 rfl rfl (ovL_cons rfl (ovL_cons rfl ovL_nil)) (.cons .n (.cons .n .nil)) (hd 62 rfl) ?_ (fun ch hp => by simp at hp)
        rintro y hy; injection hy with hy; subst hy; refine jo_l (ly_mv rfl) (hd 59 rfl) ?_; refine jo_l (ly_ext rfl rfl) (hd 63 rfl) ?_; refine jo_l (ly_ext rfl rfl) (hd 64 rfl) ?_; refine jo_l (ly_as rfl) (hd 9 rfl) ?_; refine jo_l (ly_as rfl) (hd 11 rfl) ?_; refine jo_nil ?_; refine jc_seq ?_; refine jc_region ?_; refine jo_l (ly_mv rfl) (hd 65 rfl) ?_; refine jo_l (ly_ff (ly_ne rfl rfl) (by simp)) (hd 66 rfl) ?_; refine jo_nil ?_; refine jc_litf rfl ?_; refine jc_skip ?_; refine jc_seq ?_; refine jc_region ?_; refine jo_l (ly_fa fld30_1 rfl rfl rfl) (hd 71 rfl) ?_; refine jo_l (ly_ld one28 rfl rfl rfl) (hd 72 rfl) ?_; refine jo_l (ly_mv rfl) (hd 73 rfl) ?_
        refine jo_call Try.f76 (hS) rfl Try.func76 rfl rfl (ovL_cons rfl (ovL_cons rfl ovL_nil)) (.cons .n (.cons .n .nil)) (hd 74 rfl) ?_ (fun ch hp => by simp at hp)
        rintro y hy; injection hy with hy; subst hy; refine jo_l (ly_mv rfl) (hd 70 rfl) ?_; refine jo_l (ly_ext rfl rfl) (hd 75 rfl) ?_; refine jo_l (ly_ext rfl rfl) (hd 76 rfl) ?_; refine jo_l (ly_as rfl) (hd 10 rfl) ?_; refine jo_nil ?_; refine jc_region ?_; refine jo_l (ly_mv rfl) (hd 77 rfl) ?_; refine jo_l (ly_not rfl) (hd 78 rfl) ?_; refine jo_l (ly_as rfl) (hd 13 rfl) ?_; refine jo_nil ?_
        refine ⟨(qn v w + 1, (w.natAbs : Int) - rn v w, !decide (v < 0)), ?_, rfl, cov_n 40 rfl rfl ?_⟩
        · have hy := way_yes (k := 0) h0 hrn hg
          exact ⟨hy.1, hy.2, by show 0 ≤ qn v w + 1; omega, by show 0 ≤ (w.natAbs : Int) - rn v w; omega⟩
        · exact (.cons rfl (.cons rfl (.cons rfl (.u (.u (.u (.u (.u (.u (.u (.u (.u (.u (.u (.u (.u (.u (.u (.u (.u (.u (.u (.u (.u (.u (.u (.u (.u (.u (.u (.u (.u (.u (.u (.u (.u (.u (.u (.u (.u (.u (.u (.u .nil)))))))))))))))))))))))))))))))))))))))))))
      · have hg : gro 0 v w = false := h3
        refine jc_skip ?_
        refine ⟨(qn v w, rn v w, decide (v < 0)), ?_, rfl, cov_n 19 rfl rfl ?_⟩
        · have hy := way_no (k := 0) h0 (by first | exact .inl hrn | exact .inr hg)
          exact ⟨hy.1, hy.2, hq0, hr0⟩
        · exact (.cons rfl (.cons rfl (.cons rfl (.u (.u (.u (.u (.u (.u (.u (.u (.u (.u (.u (.u (.u (.u (.u (.u (.u (.u (.u (.u (.u (.u (.u (.u (.u (.u (.u (.u (.u (.u (.u (.u (.u (.u (.u (.u (.u (.u (.u (.u .nil)))))))))))))))))))))))))))))))))))))))))))
    · have hrn : rn v w = 0 := lenV_0.1 (by omega)
      refine ja_l2 5 [6, 16, 17] (lo_s 44 rfl rfl rfl (hd 46 rfl)) rfl (by kernel_rfl) (by kernel_rfl) (by kernel_rfl) (by kernel_rfl) (fun _ _ _ _ h => h) ?_; refine ja_l2 7 [16, 17] (lo_s 44 rfl rfl rfl (hd 48 rfl)) rfl (by kernel_rfl) (by kernel_rfl) (by kernel_rfl) (by kernel_rfl) (fun _ _ _ _ h => h) ?_; refine ja_l2 8 [16, 17] (lo_s 44 rfl rfl rfl (hd 49 rfl)) rfl (by kernel_rfl) (by kernel_rfl) (by kernel_rfl) (by kernel_rfl) (fun _ _ _ _ h => h) ?_; refine ja_l2 9 [10, 16, 17] (lo_s 44 rfl rfl rfl (hd 50 rfl)) rfl (by kernel_rfl) (by kernel_rfl) (by kernel_rfl) (by kernel_rfl) (fun _ _ _ _ h => h) ?_; refine ja_l2 10 [16, 17] (lo_s 44 rfl rfl rfl (hd 51 rfl)) rfl (by kernel_rfl) (by kernel_rfl) (by kernel_rfl) (by kernel_rfl) (fun _ _ _ _ h => h) ?_; refine ja_l2 11 [16, 17] (lo_s 44 rfl rfl rfl (hd 52 rfl)) rfl (by kernel_rfl) (by kernel_rfl) (by kernel_rfl) (by kernel_rfl) (fun _ _ _ _ h => h) ?_; refine ja_l2 12 [13, 16, 17] (lo_s 44 rfl rfl rfl (hd 53 rfl)) rfl (by kernel_rfl) (by kernel_rfl) (by kernel_rfl) (by kernel_rfl) (fun _ _ _ _ h => h) ?_; refine ja_l2 13 [16, 17] (lo_s 44 rfl rfl rfl (hd 54 rfl)) rfl (by kernel_rfl) (by kernel_rfl) (by kernel_rfl) (by kernel_rfl) (fun _ _ _ _ h => h) ?_; refine ja_l2 14 [15, 16, 17] (lo_s 44 rfl rfl rfl (hd 55 rfl)) rfl (by kernel_rfl) (by kernel_rfl) (by kernel_rfl) (by kernel_rfl) (fun _ _ _ _ h => h) ?_; refine ja_l2 15 [16, 17] (lo_s 44 rfl rfl rfl (hd 56 rfl)) rfl (by kernel_rfl) (by kernel_rfl) (by kernel_rfl) (by kernel_rfl) (fun _ _ _ _ h => h) ?_; refine ja_l2 4 [6, 16, 17] (lo_s 44 rfl rfl rfl (hd 45 rfl)) rfl (by kernel_rfl) (by kernel_rfl) (by kernel_rfl) (by kernel_rfl) (fun _ _ _ _ h => h) ?_; refine ja_l2 6 [16, 17] (lo_s 44 rfl rfl rfl (hd 47 rfl)) rfl (by kernel_rfl) (by kernel_rfl) (by kernel_rfl) (by kernel_rfl) (fun _ _ _ _ h => h) ?_; refine ja_l 16 (lo_s 44 rfl rfl rfl (hd 57 rfl)) rfl (by kernel_rfl) (by kernel_rfl) (by kernel_rfl) (fun _ _ _ _ h => h) ?_; refine ja_l 17 (lo_l (ly_pick_f rfl rfl) (hd 58 rfl)) rfl (by kernel_rfl) (by kernel_rfl) (by kernel_rfl) (fun _ _ _ _ h => h) ?_; refine ja_nil (by kernel_rfl) ?_; refine jc_litf rfl ?_; refine jc_skip ?_
      refine ⟨(qn v w, rn v w, decide (v < 0)), ?_, rfl, cov_n 19 rfl rfl ?_⟩
      · have hy := way_no (k := 0) h0 (by first | exact .inl hrn | exact .inr hg)
        exact ⟨hy.1, hy.2, hq0, hr0⟩
      · exact (.cons rfl (.cons rfl (.cons rfl (.u (.u (.u (.u (.u (.u (.u (.u (.u (.u (.u (.u (.u (.u (.u (.u (.u (.u (.u (.u (.u (.u (.u (.u (.u (.u (.u (.u (.u (.u (.u (.u (.u (.u (.u (.u (.u (.u (.u (.u .nil)))))))))))))))))))))))))))))))))))))))))))
  · rintro ⟨q, r, rs⟩ ⟨hc1, hc2, hc3, hc4⟩
    dsimp only at hc1 hc2 hc3 hc4
    have hq1 : lenV q ≤ 67108864 := by have := lenV_mono (v := q) (w := (wq 0 v w)) (by rw [← hc1, sgd_abs]; exact Nat.le_refl _); omega
    have hr2 : lenV r ≤ 67108864 := by have := lenV_mono (v := r) (w := (v - wq 0 v w * w)) (by rw [← hc2, sgd_abs]; exact Nat.le_refl _); omega
    have hql := lenV_lm hq1
    have hrl := lenV_lm hr2
    refine jc_seq ?_; refine jc_region ?_; refine jo_l (ly_mv rfl) (hd 80 rfl) ?_; refine jo_l (ly_mv rfl) (hd 81 rfl) ?_
    refine jo_call Try.f50 (result_v (ng v w) (lm q) (wq 0 v w) (by omega) (lm_u q) (by rw [sv_sgd hc3]; exact hc1) (by omega)) rfl Try.func50 rfl rfl (ovL_cons rfl (ovL_cons rfl (ovL_cons rfl ovL_nil))) (.cons .b (.cons .n (.cons .i .nil))) (hd 82 rfl) ?_ (fun ch hp => by simp at hp)
    rintro y hy; injection hy with hy; subst hy; refine jo_l (ly_mv rfl) (hd 79 rfl) ?_; refine jo_l (ly_ext rfl rfl) (hd 83 rfl) ?_; refine jo_l (ly_ext rfl rfl) (hd 84 rfl) ?_; refine jo_h (hy_alloc (id := 4) zero30 (by decide) rfl (by decide) rfl) (hd 14 rfl) ?_; refine jo_st (sy_store rfl rfl rfl siz30 rfl rfl (Nat.le_of_ble_eq_true rfl)) ?_; refine jo_l (ly_as rfl) (hd 11 rfl) ?_; refine jo_nil ?_; refine jc_seq ?_; refine jc_seq ?_; refine jc_region ?_; refine jo_l (ly_mv rfl) (hd 85 rfl) ?_; refine jo_l (ly_ff (ly_ne rfl rfl) (by simp)) (hd 86 rfl) ?_; refine jo_nil ?_; refine jc_litf rfl ?_; refine jc_skip ?_; refine jc_seq ?_; refine jc_region ?_; refine jo_l (ly_mv rfl) (hd 91 rfl) ?_; refine jo_l (ly_mv rfl) (hd 92 rfl) ?_
    refine jo_call Try.f50 (result_v rs (lm r) (v - wq 0 v w * w) (by omega) (lm_u r) (by rw [sv_sgd hc4]; exact hc2) (by omega)) rfl Try.func50 rfl rfl (ovL_cons rfl (ovL_cons rfl (ovL_cons rfl ovL_nil))) (.cons .b (.cons .n (.cons .i .nil))) (hd 93 rfl) ?_ (fun ch hp => by simp at hp)
    rintro y hy; injection hy with hy; subst hy; refine jo_l (ly_mv rfl) (hd 90 rfl) ?_; refine jo_l (ly_ext rfl rfl) (hd 94 rfl) ?_; refine jo_l (ly_ext rfl rfl) (hd 95 rfl) ?_; refine jo_h (hy_alloc (id := 5) zero30 (by decide) rfl (by decide) rfl) (hd 15 rfl) ?_; refine jo_st (sy_store rfl rfl rfl siz30 rfl rfl (Nat.le_of_ble_eq_true rfl)) ?_; refine jo_l (ly_as rfl) (hd 11 rfl) ?_; refine jo_nil ?_; refine jc_seq ?_; refine jc_seq ?_; refine jc_region ?_; refine jo_l (ly_mv rfl) (hd 96 rfl) ?_; refine jo_l (ly_ff (ly_ne rfl rfl) (by simp)) (hd 97 rfl) ?_; refine jo_nil ?_; refine jc_litf rfl ?_; refine jc_skip ?_; refine jc_seq ?_; refine jc_draw (n := 5) _ rfl mixed ?_; refine ja_l 0 (lo_l (ly_lda agg30 rfl rfl rfl rfl) (hd 101 rfl)) rfl (by kernel_rfl) (by kernel_rfl) (by kernel_rfl) (fun _ _ _ _ h => h) ?_
    refine ja_2 1 2 ?_ ?_ rfl rfl (by kernel_rfl)
    · refine js_l (ly_lda agg30 rfl rfl rfl rfl) (hd 102 rfl) ?_
      refine ja_1 2 ?_ rfl (by kernel_rfl)
      refine js_st (sy_store rfl rfl rfl siz30 rfl rfl (Nat.le_of_ble_eq_true rfl)) rfl ?_
      refine ja_1 3 ?_ rfl (by kernel_rfl)
      refine js_st (sy_store rfl rfl rfl siz30 rfl rfl (Nat.le_of_ble_eq_true rfl)) rfl ?_; refine ja_l 4 (lo_l (ly_as rfl) (hd 8 rfl)) rfl (by kernel_rfl) (by kernel_rfl) (by kernel_rfl) (fun _ _ _ _ h => h) ?_; refine ja_nil (by kernel_rfl) ?_; refine jc_ret ?_
      refine ⟨_, _, (.cons (ResV.cell agg30 rfl rfl rfl rfl) (.cons (ResV.cell agg30 rfl rfl rfl rfl) (.cons rfl .nil))), (.t1 (.a1 .b (.a1 .n .a0)) (.t1 (.a1 .b (.a1 .n .a0)) (.t1 .i .t0))), ?_⟩
      exact rfl
    · refine js_st (sy_store rfl rfl rfl siz30 rfl rfl (Nat.le_of_ble_eq_true rfl)) rfl ?_; refine ja_l 1 (lo_l (ly_lda agg30 rfl rfl rfl rfl) (hd 102 rfl)) rfl (by kernel_rfl) (by kernel_rfl) (by kernel_rfl) (fun _ _ _ _ h => h) ?_
      refine ja_1 3 ?_ rfl (by kernel_rfl)
      refine js_st (sy_store rfl rfl rfl siz30 rfl rfl (Nat.le_of_ble_eq_true rfl)) rfl ?_; refine ja_l 4 (lo_l (ly_as rfl) (hd 8 rfl)) rfl (by kernel_rfl) (by kernel_rfl) (by kernel_rfl) (fun _ _ _ _ h => h) ?_; refine ja_nil (by kernel_rfl) ?_; refine jc_ret ?_
      refine ⟨_, _, (.cons (ResV.cell agg30 rfl rfl rfl rfl) (.cons (ResV.cell agg30 rfl rfl rfl rfl) (.cons rfl .nil))), (.t1 (.a1 .b (.a1 .n .a0)) (.t1 (.a1 .b (.a1 .n .a0)) (.t1 .i .t0))), ?_⟩
      exact rfl

set_option maxHeartbeats 4000000 in
theorem Quo_z (s t : Bool) (a b : List Int) (v w : Int) (la : a.length < 1099511627776) (lb : b.length < 1099511627776) (ua : u64s a) (ub : u64s b) (ev : sv s a = v) (ew : sv t b = w) (hv : lenV v ≤ 67108864) (hw : lenV w ≤ 67108864) (h0 : w ≠ 0) : Spec Try.prog 61 [.a [.b s, .n false .u64 a], .a [.b t, .n false .u64 b]] (fun o => o = .ret (.t [.a [.b (decide ((wq 0 v w) < 0)), .n true .u64 (lm (wq 0 v w))], .a [.b (decide ((v - wq 0 v w * w) < 0)), .n true .u64 (lm (v - wq 0 v w * w))], .i .i64 0])) := by
  refine spec_of' [(0, .a [.b s, .n false .u64 a]), (1, .a [.b t, .n false .u64 b])] rfl Try.func61 rfl (Nat.le_of_ble_eq_true rfl) fun Γ hN hds hL hR => ?_
  have hd : ∀ d, Nat.blt d 13 = true → d < Γ.N := fun d h => by rw [hN]; exact Nat.le_of_ble_eq_true h
  refine jc_seq ?_; refine jc_region ?_; refine jo_h (hy_box (id := 0) (n := 2) rfl rfl rfl (by decide) rfl) (hd 2 rfl) ?_; refine jo_h (hy_box (id := 1) (n := 2) rfl rfl rfl (by decide) rfl) (hd 3 rfl) ?_; refine jo_h (hy_alloc (id := 2) zero30 (by decide) rfl (by decide) rfl) (hd 4 rfl) ?_; refine jo_h (hy_alloc (id := 3) zero30 (by decide) rfl (by decide) rfl) (hd 5 rfl) ?_; refine jo_l (ly_as rfl) (hd 6 rfl) ?_; refine jo_nil ?_; refine jc_seq ?_; refine jc_region ?_; refine jo_l (ly_lda agg30 rfl rfl rfl rfl) (hd 7 rfl) ?_; refine jo_l (ly_lda agg30 rfl rfl rfl rfl) (hd 8 rfl) ?_
  refine jo_call Try.f51 (divide_z0 s t a b v w la lb ua ub ev ew hv hw h0) rfl Try.func51 rfl rfl (ovL_cons rfl (ovL_cons rfl (ovL_cons rfl ovL_nil))) (.cons (.a1 .b (.a1 .n .a0)) (.cons (.a1 .b (.a1 .n .a0)) (.cons .i .nil))) (hd 9 rfl) ?_ (fun ch hp => by simp at hp)
  rintro y hy; injection hy with hy; subst hy; refine jo_l (ly_ext rfl rfl) (hd 10 rfl) ?_; refine jo_l (ly_ext rfl rfl) (hd 11 rfl) ?_; refine jo_l (ly_ext rfl rfl) (hd 12 rfl) ?_; refine jo_st (sy_store rfl rfl rfl siz30 rfl rfl (Nat.le_of_ble_eq_true rfl)) ?_; refine jo_st (sy_store rfl rfl rfl siz30 rfl rfl (Nat.le_of_ble_eq_true rfl)) ?_; refine jo_l (ly_as rfl) (hd 6 rfl) ?_; refine jo_nil ?_; refine jc_ret ?_
  refine ⟨_, _, (.cons (ResV.cell agg30 rfl rfl rfl rfl) (.cons (ResV.cell agg30 rfl rfl rfl rfl) (.cons rfl .nil))), (.t1 (.a1 .b (.a1 .n .a0)) (.t1 (.a1 .b (.a1 .n .a0)) (.t1 .i .t0))), ?_⟩
  exact rfl

set_option maxHeartbeats 4000000 in
theorem divide_z4 (s t : Bool) (a b : List Int) (v w : Int) (la : a.length < 1099511627776) (lb : b.length < 1099511627776) (ua : u64s a) (ub : u64s b) (ev : sv s a = v) (ew : sv t b = w) (hv : lenV v ≤ 67108864) (hw : lenV w ≤ 67108864) (h0 : w ≠ 0) : Spec Try.prog 51 [.a [.b s, .n false .u64 a], .a [.b t, .n false .u64 b], .i .i64 4] (fun o => o = .ret (.t [.a [.b (decide ((wq 4 v w) < 0)), .n true .u64 (lm (wq 4 v w))], .a [.b (decide ((v - wq 4 v w * w) < 0)), .n true .u64 (lm (v - wq 4 v w * w))], .i .i64 0])) := by
  refine spec_of' [(0, .a [.b s, .n false .u64 a]), (1, .a [.b t, .n false .u64 b]), (2, .i .i64 4)] rfl Try.func51 rfl (Nat.le_of_ble_eq_true rfl) fun Γ hN hds hL hR => ?_
  have hd : ∀ d, Nat.blt d 103 = true → d < Γ.N := fun d h => by rw [hN]; exact Nat.le_of_ble_eq_true h
  have hlv := lenV_lm hv
  have hlw := lenV_lm hw
  obtain ⟨hx, hr0, hr1, hq0⟩ := qr_facts (v := v) h0
  have hle := lenV_mono (v := qn v w) (w := v) qn_le
  have hlr := lenV_mono (v := rn v w) (w := w) (rn_le h0).1
  have hlR := lenV_lm (v := rn v w) (by omega)
  have habs : lm (w.natAbs : Int) = lm w := by unfold lm; rw [Int.natAbs_natCast]
  have hlenw : lenV (w.natAbs : Int) = lenV w := by unfold lenV; rw [Int.natAbs_natCast]
  have hS := Sub_v (w.natAbs : Int) (rn v w) hr0 (by omega) (by omega)
  rw [habs] at hS
  have hwl := wq_len (k := 4) (v := v) h0
  refine jc_seq ?_; refine jc_region ?_; refine jo_h (hy_box (id := 0) (n := 2) rfl rfl rfl (by decide) rfl) (hd 3 rfl) ?_; refine jo_h (hy_box (id := 1) (n := 2) rfl rfl rfl (by decide) rfl) (hd 4 rfl) ?_; refine jo_h (hy_alloc (id := 2) zero30 (by decide) rfl (by decide) rfl) (hd 6 rfl) ?_; refine jo_h (hy_alloc (id := 3) zero30 (by decide) rfl (by decide) rfl) (hd 7 rfl) ?_; refine jo_l (ly_as rfl) (hd 8 rfl) ?_; refine jo_nil ?_; refine jc_seq ?_; refine jc_draw (n := 6) _ rfl mixed ?_; refine ja_l2 0 [1, 3, 4, 5] (lo_l (ly_lda agg30 rfl rfl rfl rfl) (hd 16 rfl)) rfl (by kernel_rfl) (by kernel_rfl) (by kernel_rfl) (by kernel_rfl) (fun _ _ _ _ h => h) ?_; refine ja_l2 2 [3, 4, 5] (lo_l (ly_lda agg30 rfl rfl rfl rfl) (hd 18 rfl)) rfl (by kernel_rfl) (by kernel_rfl) (by kernel_rfl) (by kernel_rfl) (fun _ _ _ _ h => h) ?_
  refine ja_1 1 ?_ rfl (by kernel_rfl)
  refine js_call Try.f53 (norm_v s a v la ua ev) rfl Try.func53 rfl rfl (ovL_cons rfl ovL_nil) (.cons (.a1 .b (.a1 .n .a0)) .nil) (hd 17 rfl) ?_ (fun ch hp => by simp at hp)
  rintro y hy; injection hy with hy; subst hy
  refine ja_1 3 ?_ rfl (by kernel_rfl)
  refine js_call Try.f53 (norm_v t b w lb ub ew) rfl Try.func53 rfl rfl (ovL_cons rfl ovL_nil) (.cons (.a1 .b (.a1 .n .a0)) .nil) (hd 19 rfl) ?_ (fun ch hp => by simp at hp)
  rintro y hy; injection hy with hy; subst hy
  refine ja_1 4 ?_ rfl (by kernel_rfl)
  refine js_st (sy_store rfl rfl rfl siz30 rfl rfl (Nat.le_of_ble_eq_true rfl)) rfl ?_
  refine ja_1 5 ?_ rfl (by kernel_rfl)
  refine js_st (sy_store rfl rfl rfl siz30 rfl rfl (Nat.le_of_ble_eq_true rfl)) rfl ?_; refine ja_nil (by kernel_rfl) ?_; refine jc_seq ?_; refine jc_region ?_; refine jo_l (ly_fa fld30_1 rfl rfl rfl) (hd 21 rfl) ?_; refine jo_l (ly_ld one28 rfl rfl rfl) (hd 22 rfl) ?_; refine jo_l (ly_fa fld30_1 rfl rfl rfl) (hd 23 rfl) ?_; refine jo_l (ly_ld one28 rfl rfl rfl) (hd 24 rfl) ?_
  refine jo_call Try.f86 (Both_v v w hv hw h0) rfl Try.func86 rfl rfl (ovL_cons rfl (ovL_cons rfl ovL_nil)) (.cons .n (.cons .n .nil)) (hd 25 rfl) ?_ (fun ch hp => by simp at hp)
  rintro y hy; injection hy with hy; subst hy; refine jo_l (ly_mv rfl) (hd 20 rfl) ?_; refine jo_l (ly_ext rfl rfl) (hd 26 rfl) ?_; refine jo_l (ly_ext rfl rfl) (hd 27 rfl) ?_; refine jo_l (ly_ext rfl rfl) (hd 28 rfl) ?_; refine jo_l (ly_as rfl) (hd 9 rfl) ?_; refine jo_l (ly_as rfl) (hd 10 rfl) ?_; refine jo_l (ly_as rfl) (hd 11 rfl) ?_; refine jo_nil ?_; refine jc_seq ?_; refine jc_seq ?_; refine jc_region ?_; refine jo_l (ly_mv rfl) (hd 29 rfl) ?_; refine jo_l (ly_ff (ly_ne rfl rfl) (by simp)) (hd 30 rfl) ?_; refine jo_nil ?_; refine jc_litf rfl ?_; refine jc_skip ?_; refine jc_seq ?_; refine jc_draw (n := 9) _ rfl mixed ?_; refine ja_l2 0 [1, 4, 7, 8] (lo_l (ly_fa fld30_0 rfl rfl rfl) (hd 34 rfl)) rfl (by kernel_rfl) (by kernel_rfl) (by kernel_rfl) (by kernel_rfl) (fun _ _ _ _ h => h) ?_; refine ja_l 1 (lo_l (ly_ld one4 rfl rfl rfl) (hd 35 rfl)) rfl (by kernel_rfl) (by kernel_rfl) (by kernel_rfl) (fun _ _ _ _ h => h) ?_; refine ja_l2 2 [3, 4, 7, 8] (lo_l (ly_fa fld30_0 rfl rfl rfl) (hd 36 rfl)) rfl (by kernel_rfl) (by kernel_rfl) (by kernel_rfl) (by kernel_rfl) (fun _ _ _ _ h => h) ?_; refine ja_l 3 (lo_l (ly_ld one4 rfl rfl rfl) (hd 37 rfl)) rfl (by kernel_rfl) (by kernel_rfl) (by kernel_rfl) (fun _ _ _ _ h => h) ?_; refine ja_l 4 (lo_l (ly_is (ly_neb und4 rfl rfl) (show V.b _ = V.b (ng v w) from rfl)) (hd 38 rfl)) rfl (by kernel_rfl) (by kernel_rfl) (by kernel_rfl) (fun _ _ _ _ h => h) ?_; refine ja_l 5 (lo_l (ly_fa fld30_0 rfl rfl rfl) (hd 39 rfl)) rfl (by kernel_rfl) (by kernel_rfl) (by kernel_rfl) (fun _ _ _ _ h => h) ?_; refine ja_l 6 (lo_l (ly_ld one4 rfl rfl rfl) (hd 40 rfl)) rfl (by kernel_rfl) (by kernel_rfl) (by kernel_rfl) (fun _ _ _ _ h => h) ?_; refine ja_l 7 (lo_l (ly_as rfl) (hd 12 rfl)) rfl (by kernel_rfl) (by kernel_rfl) (by kernel_rfl) (fun _ _ _ _ h => h) ?_; refine ja_l 8 (lo_l (ly_as rfl) (hd 13 rfl)) rfl (by kernel_rfl) (by kernel_rfl) (by kernel_rfl) (fun _ _ _ _ h => h) ?_; refine ja_nil (by kernel_rfl) ?_
  refine jc_meetH (G := Int × Int × Bool) (fun g => sgd (ng v w) g.1 = (wq 4 v w) ∧ sgd g.2.2 g.2.1 = (v - wq 4 v w * w) ∧ 0 ≤ g.1 ∧ 0 ≤ g.2.1) (fun g => [(9, .n false .u64 (lm g.1)), (10, .n false .u64 (lm g.2.1)), (13, .b g.2.2), (8, .u), (11, .u), (41, .u), (42, .u), (43, .u), (44, .u), (45, .u), (46, .u), (47, .u), (48, .u), (49, .u), (50, .u), (51, .u), (52, .u), (53, .u), (54, .u), (55, .u), (56, .u), (57, .u), (58, .u), (59, .u), (60, .u), (61, .u), (62, .u), (63, .u), (64, .u), (65, .u), (66, .u), (67, .u), (68, .u), (69, .u), (70, .u), (71, .u), (72, .u), (73, .u), (74, .u), (75, .u), (76, .u), (77, .u), (78, .u)]) ?_ ?_
  · refine jc_seq ?_; refine jc_draw (n := 18) _ rfl mixed ?_; refine ja_l2 0 [1, 2, 3, 4, 5, 6, 7, 8, 9, 10, 11, 12, 13, 14, 15, 16, 17] (lo_l (ly_mv rfl) (hd 41 rfl)) rfl (by kernel_rfl) (by kernel_rfl) (by kernel_rfl) (by kernel_rfl) (fun _ _ _ _ h => h) ?_
    refine ja_1 1 ?_ rfl (by kernel_rfl)
    refine js_call Try.f54 (Length_v (rn v w) (by omega)) rfl Try.func54 rfl rfl (ovL_cons rfl ovL_nil) (.cons .n .nil) (hd 42 rfl) ?_ (fun ch hp => by simp at hp)
    rintro y hy; injection hy with hy; subst hy; refine ja_l2 2 [3, 4, 5, 6, 7, 8, 9, 10, 11, 12, 13, 14, 15, 16, 17] (lo_l (ly_gt rfl rfl) (hd 43 rfl)) rfl (by kernel_rfl) (by kernel_rfl) (by kernel_rfl) (by kernel_rfl) (fun _ _ _ _ h => h) ?_; refine ja_l 3 (lo_l (ly_mv rfl) (hd 44 rfl)) rfl (by kernel_rfl) (by kernel_rfl) (by kernel_rfl) (fun _ _ _ _ h => h) ?_
    refine ja_ifp 44 rfl (fun h2 => ?_) (fun h2 => ?_)
    · have hrn : rn v w ≠ 0 := fun e => by have := lenV_0.2 e; omega
      refine ja_l2 5 [6, 16, 17] (lo_g 44 rfl rfl (ly_mv rfl) (hd 46 rfl)) rfl (by kernel_rfl) (by kernel_rfl) (by kernel_rfl) (by kernel_rfl) (fun _ _ _ _ h => h) ?_; refine ja_l2 7 [16, 17] (lo_g 44 rfl rfl (ly_mv rfl) (hd 48 rfl)) rfl (by kernel_rfl) (by kernel_rfl) (by kernel_rfl) (by kernel_rfl) (fun _ _ _ _ h => h) ?_; refine ja_l2 8 [16, 17] (lo_g 44 rfl rfl (ly_mv rfl) (hd 49 rfl)) rfl (by kernel_rfl) (by kernel_rfl) (by kernel_rfl) (by kernel_rfl) (fun _ _ _ _ h => h) ?_; refine ja_l2 9 [10, 16, 17] (lo_g 44 rfl rfl (ly_fa fld30_1 rfl rfl rfl) (hd 50 rfl)) rfl (by kernel_rfl) (by kernel_rfl) (by kernel_rfl) (by kernel_rfl) (fun _ _ _ _ h => h) ?_; refine ja_l2 10 [16, 17] (lo_g 44 rfl rfl (ly_ld one28 rfl rfl rfl) (hd 51 rfl)) rfl (by kernel_rfl) (by kernel_rfl) (by kernel_rfl) (by kernel_rfl) (fun _ _ _ _ h => h) ?_; refine ja_l2 11 [16, 17] (lo_g 44 rfl rfl (ly_mv rfl) (hd 52 rfl)) rfl (by kernel_rfl) (by kernel_rfl) (by kernel_rfl) (by kernel_rfl) (fun _ _ _ _ h => h) ?_; refine ja_l2 12 [13, 16, 17] (lo_g 44 rfl rfl (ly_fa fld30_0 rfl rfl rfl) (hd 53 rfl)) rfl (by kernel_rfl) (by kernel_rfl) (by kernel_rfl) (by kernel_rfl) (fun _ _ _ _ h => h) ?_; refine ja_l2 13 [16, 17] (lo_g 44 rfl rfl (ly_ld one4 rfl rfl rfl) (hd 54 rfl)) rfl (by kernel_rfl) (by kernel_rfl) (by kernel_rfl) (by kernel_rfl) (fun _ _ _ _ h => h) ?_; refine ja_l2 14 [15, 16, 17] (lo_g 44 rfl rfl (ly_fa fld30_0 rfl rfl rfl) (hd 55 rfl)) rfl (by kernel_rfl) (by kernel_rfl) (by kernel_rfl) (by kernel_rfl) (fun _ _ _ _ h => h) ?_; refine ja_l2 15 [16, 17] (lo_g 44 rfl rfl (ly_ld one4 rfl rfl rfl) (hd 56 rfl)) rfl (by kernel_rfl) (by kernel_rfl) (by kernel_rfl) (by kernel_rfl) (fun _ _ _ _ h => h) ?_
      refine ja_1 4 ?_ rfl (by kernel_rfl)
      refine js_callg Try.f87 44 rfl rfl (ways_s) rfl Try.func87 rfl rfl ovL_nil .nil (hd 45 rfl) ?_ (fun ch hp => by simp at hp)
      rintro y hy; injection hy with hy; subst hy; refine ja_l2 6 [16, 17] (lo_g 44 rfl rfl (ly_ixa (i := 4) undA102 one101 rfl rfl rfl (by decide) rfl) (hd 47 rfl)) rfl (by kernel_rfl) (by kernel_rfl) (by kernel_rfl) (by kernel_rfl) (fun _ _ _ _ h => h) ?_
      refine ja_1 16 ?_ rfl (by kernel_rfl)
      refine js_callg Try.f113 44 rfl rfl (way4_v v w) rfl Try.func113 rfl rfl (ovL_cons rfl (ovL_cons rfl (ovL_cons rfl (ovL_cons rfl (ovL_cons rfl (ovL_cons rfl ovL_nil)))))) (.cons .n (.cons .n (.cons .n (.cons .b (.cons .b (.cons .b .nil)))))) (hd 57 rfl) ?_ (fun ch hp => by simp at hp)
      rintro y hy; injection hy with hy; subst hy; refine ja_l 17 (lo_l (ly_pick_t rfl rfl) (hd 58 rfl)) rfl (by kernel_rfl) (by kernel_rfl) (by kernel_rfl) (fun _ _ _ _ h => h) ?_; refine ja_nil (by kernel_rfl) ?_
      refine jc_cond rfl (fun h3 => ?_) (fun h3 => ?_)
      · have hg : gro 4 v w = true := h3
        refine jc_seq ?_; refine jc_seq ?_; refine jc_region ?_; refine jo_l (ly_mv rfl) (hd 60 rfl) ?_
        refine jo_call Try.f47 (From1_v) rfl Try.func47 rfl rfl (ovL_cons rfl ovL_nil) (.cons .i .nil) (hd 61 rfl) ?_ (fun ch hp => by simp at hp)
        rintro y hy; injection hy with hy; subst hy
        refine jo_call Try.f74 (Add1_v (qn v w) hq0 (by have := lenV_mono (qn1_le h0 hrn); omega)) rfl Try.func74 rfl rfl (ovL_cons rfl (ovL_cons rfl ovL_nil)) (.cons .n (.cons .n .nil)) (hd 62 rfl) ?_ (fun ch hp => by simp at hp)
        rintro y hy; injection hy with hy; subst hy; refine jo_l (ly_mv rfl) (hd 59 rfl) ?_; refine jo_l (ly_ext rfl rfl) (hd 63 rfl) ?_; refine jo_l (ly_ext rfl rfl) (hd 64 rfl) ?_; refine jo_l (ly_as rfl) (hd 9 rfl) ?_; refine jo_l (ly_as rfl) (hd 11 rfl) ?_; refine jo_nil ?_; refine jc_seq ?_; refine jc_region ?_; refine jo_l (ly_mv rfl) (hd 65 rfl) ?_; refine jo_l (ly_ff (ly_ne rfl rfl) (by simp)) (hd 66 rfl) ?_; refine jo_nil ?_; refine jc_litf rfl ?_; refine jc_skip ?_; refine jc_seq ?_; refine jc_region ?_; refine jo_l (ly_fa fld30_1 rfl rfl rfl) (hd 71 rfl) ?_; refine jo_l (ly_ld one28 rfl rfl rfl) (hd 72 rfl) ?_; refine jo_l (ly_mv rfl) (hd 73 rfl) ?_
        refine jo_call Try.f76 (hS) rfl Try.func76 rfl rfl (ovL_cons rfl (ovL_cons rfl ovL_nil)) (.cons .n (.cons .n .nil)) (hd 74 rfl) ?_ (fun ch hp => by simp at hp)
        rintro y hy; injection hy with hy; subst hy; refine jo_l (ly_mv rfl) (hd 70 rfl) ?_; refine jo_l (ly_ext rfl rfl) (hd 75 rfl) ?_; refine jo_l (ly_ext rfl rfl) (hd 76 rfl) ?_; refine jo_l (ly_as rfl) (hd 10 rfl) ?_; refine jo_nil ?_; refine jc_region ?_; refine jo_l (ly_mv rfl) (hd 77 rfl) ?_; refine jo_l (ly_not rfl) (hd 78 rfl) ?_; refine jo_l (ly_as rfl) (hd 13 rfl) ?_; refine jo_nil ?_
        refine ⟨(qn v w + 1, (w.natAbs : Int) - rn v w, !decide (v < 0)), ?_, rfl, cov_n 40 rfl rfl ?_⟩
        · have hy := way_yes (k := 4) h0 hrn hg
          exact ⟨hy.1, hy.2, by show 0 ≤ qn v w + 1; omega, by show 0 ≤ (w.natAbs : Int) - rn v w; omega⟩
        · exact (.cons rfl (.cons rfl (.cons rfl (.u (.u (.u (.u (.u (.u (.u (.u (.u (.u (.u (.u (.u (.u (.u (.u (.u (.u (.u (.u (.u (.u (.u (.u (.u (.u (.u (.u (.u (.u (.u (.u (.u (.u (.u (.u (.u (.u (.u (.u .nil)))))))))))))))))))))))))))))))))))))))))))
      · have hg : gro 4 v w = false := h3
        refine jc_skip ?_
        refine ⟨(qn v w, rn v w, decide (v < 0)), ?_, rfl, cov_n 19 rfl rfl ?_⟩
        · have hy := way_no (k := 4) h0 (by first | exact .inl hrn | exact .inr hg)
          exact ⟨hy.1, hy.2, hq0, hr0⟩
        · exact (.cons rfl (.cons rfl (.cons rfl (.u (.u (.u (.u (.u (.u (.u (.u (.u (.u (.u (.u (.u (.u (.u (.u (.u (.u (.u (.u (.u (.u (.u (.u (.u (.u (.u (.u (.u (.u (.u (.u (.u (.u (.u (.u (.u (.u (.u (.u .nil)))))))))))))))))))))))))))))))))))))))))))
    · have hrn : rn v w = 0 := lenV_0.1 (by omega)
      refine ja_l2 5 [6, 16, 17] (lo_s 44 rfl rfl rfl (hd 46 rfl)) rfl (by kernel_rfl) (by kernel_rfl) (by kernel_rfl) (by kernel_rfl) (fun _ _ _ _ h => h) ?_; refine ja_l2 7 [16, 17] (lo_s 44 rfl rfl rfl (hd 48 rfl)) rfl (by kernel_rfl) (by kernel_rfl) (by kernel_rfl) (by kernel_rfl) (fun _ _ _ _ h => h) ?_; refine ja_l2 8 [16, 17] (lo_s 44 rfl rfl rfl (hd 49 rfl)) rfl (by kernel_rfl) (by kernel_rfl) (by kernel_rfl) (by kernel_rfl) (fun _ _ _ _ h => h) ?_; refine ja_l2 9 [10, 16, 17] (lo_s 44 rfl rfl rfl (hd 50 rfl)) rfl (by kernel_rfl) (by kernel_rfl) (by kernel_rfl) (by kernel_rfl) (fun _ _ _ _ h => h) ?_; refine ja_l2 10 [16, 17] (lo_s 44 rfl rfl rfl (hd 51 rfl)) rfl (by kernel_rfl) (by kernel_rfl) (by kernel_rfl) (by kernel_rfl) (fun _ _ _ _ h => h) ?_; refine ja_l2 11 [16, 17] (lo_s 44 rfl rfl rfl (hd 52 rfl)) rfl (by kernel_rfl) (by kernel_rfl) (by kernel_rfl) (by kernel_rfl) (fun _ _ _ _ h => h) ?_; refine ja_l2 12 [13, 16, 17] (lo_s 44 rfl rfl rfl (hd 53 rfl)) rfl (by kernel_rfl) (by kernel_rfl) (by kernel_rfl) (by kernel_rfl) (fun _ _ _ _ h => h) ?_; refine ja_l2 13 [16, 17] (lo_s 44 rfl rfl rfl (hd 54 rfl)) rfl (by kernel_rfl) (by kernel_rfl) (by kernel_rfl) (by kernel_rfl) (fun _ _ _ _ h => h) ?_; refine ja_l2 14 [15, 16, 17] (lo_s 44 rfl rfl rfl (hd 55 rfl)) rfl (by kernel_rfl) (by kernel_rfl) (by kernel_rfl) (by kernel_rfl) (fun _ _ _ _ h => h) ?_; refine ja_l2 15 [16, 17] (lo_s 44 rfl rfl rfl (hd 56 rfl)) rfl (by kernel_rfl) (by kernel_rfl) (by kernel_rfl) (by kernel_rfl) (fun _ _ _ _ h => h) ?_; refine ja_l2 4 [6, 16, 17] (lo_s 44 rfl rfl rfl (hd 45 rfl)) rfl (by kernel_rfl) (by kernel_rfl) (by kernel_rfl) (by kernel_rfl) (fun _ _ _ _ h => h) ?_; refine ja_l2 6 [16, 17] (lo_s 44 rfl rfl rfl (hd 47 rfl)) rfl (by kernel_rfl) (by kernel_rfl) (by kernel_rfl) (by kernel_rfl) (fun _ _ _ _ h => h) ?_; refine ja_l 16 (lo_s 44 rfl rfl rfl (hd 57 rfl)) rfl (by kernel_rfl) (by kernel_rfl) (by kernel_rfl) (fun _ _ _ _ h => h) ?_; refine ja_l 17 (lo_l (ly_pick_f rfl rfl) (hd 58 rfl)) rfl (by kernel_rfl) (by kernel_rfl) (by kernel_rfl) (fun _ _ _ _ h => h) ?_; refine ja_nil (by kernel_rfl) ?_; refine jc_litf rfl ?_; refine jc_skip ?_
      refine ⟨(qn v w, rn v w, decide (v < 0)), ?_, rfl, cov_n 19 rfl rfl ?_⟩
      · have hy := way_no (k := 4) h0 (by first | exact .inl hrn | exact .inr hg)
        exact ⟨hy.1, hy.2, hq0, hr0⟩
      · exact (.cons rfl (.cons rfl (.cons rfl (.u (.u (.u (.u (.u (.u (.u (.u (.u (.u (.u (.u (.u (.u (.u (.u (.u (.u (.u (.u (.u (.u (.u (.u (.u (.u (.u (.u (.u (.u (.u (.u (.u (.u (.u (.u (.u (.u (.u (.u .nil)))))))))))))))))))))))))))))))))))))))))))
  · rintro ⟨q, r, rs⟩ ⟨hc1, hc2, hc3, hc4⟩
    dsimp only at hc1 hc2 hc3 hc4
    have hq1 : lenV q ≤ 67108864 := by have := lenV_mono (v := q) (w := (wq 4 v w)) (by rw [← hc1, sgd_abs]; exact Nat.le_refl _); omega
    have hr2 : lenV r ≤ 67108864 := by have := lenV_mono (v := r) (w := (v - wq 4 v w * w)) (by rw [← hc2, sgd_abs]; exact Nat.le_refl _); omega
    have hql := lenV_lm hq1
    have hrl := lenV_lm hr2
    refine jc_seq ?_; refine jc_region ?_; refine jo_l (ly_mv rfl) (hd 80 rfl) ?_; refine jo_l (ly_mv rfl) (hd 81 rfl) ?_
    refine jo_call Try.f50 (result_v (ng v w) (lm q) (wq 4 v w) (by omega) (lm_u q) (by rw [sv_sgd hc3]; exact hc1) (by omega)) rfl Try.func50 rfl rfl (ovL_cons rfl (ovL_cons rfl (ovL_cons rfl ovL_nil))) (.cons .b (.cons .n (.cons .i .nil))) (hd 82 rfl) ?_ (fun ch hp => by simp at hp)
    rintro y hy; injection hy with hy; subst hy; refine jo_l (ly_mv rfl) (hd 79 rfl) ?_; refine jo_l (ly_ext rfl rfl) (hd 83 rfl) ?_; refine jo_l (ly_ext rfl rfl) (hd 84 rfl) ?_; refine jo_h (hy_alloc (id := 4) zero30 (by decide) rfl (by decide) rfl) (hd 14 rfl) ?_; refine jo_st (sy_store rfl rfl rfl siz30 rfl rfl (Nat.le_of_ble_eq_true rfl)) ?_; refine jo_l (ly_as rfl) (hd 11 rfl) ?_; refine jo_nil ?_; refine jc_seq ?_; refine jc_seq ?_; refine jc_region ?_; refine jo_l (ly_mv rfl) (hd 85 rfl) ?_; refine jo_l (ly_ff (ly_ne rfl rfl) (by simp)) (hd 86 rfl) ?_; refine jo_nil ?_; refine jc_litf rfl ?_; refine jc_skip ?_; refine jc_seq ?_; refine jc_region ?_; refine jo_l (ly_mv rfl) (hd 91 rfl) ?_; refine jo_l (ly_mv rfl) (hd 92 rfl) ?_
    refine jo_call Try.f50 (result_v rs (lm r) (v - wq 4 v w * w) (by omega) (lm_u r) (by rw [sv_sgd hc4]; exact hc2) (by omega)) rfl Try.func50 rfl rfl (ovL_cons rfl (ovL_cons rfl (ovL_cons rfl ovL_nil))) (.cons .b (.cons .n (.cons .i .nil))) (hd 93 rfl) ?_ (fun ch hp => by simp at hp)
    rintro y hy; injection hy with hy; subst hy; refine jo_l (ly_mv rfl) (hd 90 rfl) ?_; refine jo_l (ly_ext rfl rfl) (hd 94 rfl) ?_; refine jo_l (ly_ext rfl rfl) (hd 95 rfl) ?_; refine jo_h (hy_alloc (id := 5) zero30 (by decide) rfl (by decide) rfl) (hd 15 rfl) ?_; refine jo_st (sy_store rfl rfl rfl siz30 rfl rfl (Nat.le_of_ble_eq_true rfl)) ?_; refine jo_l (ly_as rfl) (hd 11 rfl) ?_; refine jo_nil ?_; refine jc_seq ?_; refine jc_seq ?_; refine jc_region ?_; refine jo_l (ly_mv rfl) (hd 96 rfl) ?_; refine jo_l (ly_ff (ly_ne rfl rfl) (by simp)) (hd 97 rfl) ?_; refine jo_nil ?_; refine jc_litf rfl ?_; refine jc_skip ?_; refine jc_seq ?_; refine jc_draw (n := 5) _ rfl mixed ?_; refine ja_l 0 (lo_l (ly_lda agg30 rfl rfl rfl rfl) (hd 101 rfl)) rfl (by kernel_rfl) (by kernel_rfl) (by kernel_rfl) (fun _ _ _ _ h => h) ?_
    refine ja_2 1 2 ?_ ?_ rfl rfl (by kernel_rfl)
    · refine js_l (ly_lda agg30 rfl rfl rfl rfl) (hd 102 rfl) ?_
      refine ja_1 2 ?_ rfl (by kernel_rfl)
      refine js_st (sy_store rfl rfl rfl siz30 rfl rfl (Nat.le_of_ble_eq_true rfl)) rfl ?_
      refine ja_1 3 ?_ rfl (by kernel_rfl)
      refine js_st (sy_store rfl rfl rfl siz30 rfl rfl (Nat.le_of_ble_eq_true rfl)) rfl ?_; refine ja_l 4 (lo_l (ly_as rfl) (hd 8 rfl)) rfl (by kernel_rfl) (by kernel_rfl) (by kernel_rfl) (fun _ _ _ _ h => h) ?_; refine ja_nil (by kernel_rfl) ?_; refine jc_ret ?_
      refine ⟨_, _, (.cons (ResV.cell agg30 rfl rfl rfl rfl) (.cons (ResV.cell agg30 rfl rfl rfl rfl) (.cons rfl .nil))), (.t1 (.a1 .b (.a1 .n .a0)) (.t1 (.a1 .b (.a1 .n .a0)) (.t1 .i .t0))), ?_⟩
      exact rfl
    · refine js_st (sy_store rfl rfl rfl siz30 rfl rfl (Nat.le_of_ble_eq_true rfl)) rfl ?_; refine ja_l 1 (lo_l (ly_lda agg30 rfl rfl rfl rfl) (hd 102 rfl)) rfl (by kernel_rfl) (by kernel_rfl) (by kernel_rfl) (fun _ _ _ _ h => h) ?_
      refine ja_1 3 ?_ rfl (by kernel_rfl)
      refine js_st (sy_store rfl rfl rfl siz30 rfl rfl (Nat.le_of_ble_eq_true rfl)) rfl ?_; refine ja_l 4 (lo_l (ly_as rfl) (hd 8 rfl)) rfl (by kernel_rfl) (by kernel_rfl) (by kernel_rfl) (fun _ _ _ _ h => h) ?_; refine ja_nil (by kernel_rfl) ?_; refine jc_ret ?_
      refine ⟨_, _, (.cons (ResV.cell agg30 rfl rfl rfl rfl) (.cons (ResV.cell agg30 rfl rfl rfl rfl) (.cons rfl .nil))), (.t1 (.a1 .b (.a1 .n .a0)) (.t1 (.a1 .b (.a1 .n .a0)) (.t1 .i .t0))), ?_⟩
      exact rfl

set_option maxHeartbeats 4000000 in
theorem Euclid_z (s t : Bool) (a b : List Int) (v w : Int) (la : a.length < 1099511627776) (lb : b.length < 1099511627776) (ua : u64s a) (ub : u64s b) (ev : sv s a = v) (ew : sv t b = w) (hv : lenV v ≤ 67108864) (hw : lenV w ≤ 67108864) (h0 : w ≠ 0) : Spec Try.prog 12 [.a [.b s, .n false .u64 a], .a [.b t, .n false .u64 b]] (fun o => o = .ret (.t [.a [.b (decide ((wq 4 v w) < 0)), .n true .u64 (lm (wq 4 v w))], .a [.b (decide ((v - wq 4 v w * w) < 0)), .n true .u64 (lm (v - wq 4 v w * w))], .i .i64 0])) := by
  refine spec_of' [(0, .a [.b s, .n false .u64 a]), (1, .a [.b t, .n false .u64 b])] rfl Try.func12 rfl (Nat.le_of_ble_eq_true rfl) fun Γ hN hds hL hR => ?_
  have hd : ∀ d, Nat.blt d 13 = true → d < Γ.N := fun d h => by rw [hN]; exact Nat.le_of_ble_eq_true h
  refine jc_seq ?_; refine jc_region ?_; refine jo_h (hy_box (id := 0) (n := 2) rfl rfl rfl (by decide) rfl) (hd 2 rfl) ?_; refine jo_h (hy_box (id := 1) (n := 2) rfl rfl rfl (by decide) rfl) (hd 3 rfl) ?_; refine jo_h (hy_alloc (id := 2) zero30 (by decide) rfl (by decide) rfl) (hd 4 rfl) ?_; refine jo_h (hy_alloc (id := 3) zero30 (by decide) rfl (by decide) rfl) (hd 5 rfl) ?_; refine jo_l (ly_as rfl) (hd 6 rfl) ?_; refine jo_nil ?_; refine jc_seq ?_; refine jc_region ?_; refine jo_l (ly_lda agg30 rfl rfl rfl rfl) (hd 7 rfl) ?_; refine jo_l (ly_lda agg30 rfl rfl rfl rfl) (hd 8 rfl) ?_
  refine jo_call Try.f51 (divide_z4 s t a b v w la lb ua ub ev ew hv hw h0) rfl Try.func51 rfl rfl (ovL_cons rfl (ovL_cons rfl (ovL_cons rfl ovL_nil))) (.cons (.a1 .b (.a1 .n .a0)) (.cons (.a1 .b (.a1 .n .a0)) (.cons .i .nil))) (hd 9 rfl) ?_ (fun ch hp => by simp at hp)
  rintro y hy; injection hy with hy; subst hy; refine jo_l (ly_ext rfl rfl) (hd 10 rfl) ?_; refine jo_l (ly_ext rfl rfl) (hd 11 rfl) ?_; refine jo_l (ly_ext rfl rfl) (hd 12 rfl) ?_; refine jo_st (sy_store rfl rfl rfl siz30 rfl rfl (Nat.le_of_ble_eq_true rfl)) ?_; refine jo_st (sy_store rfl rfl rfl siz30 rfl rfl (Nat.le_of_ble_eq_true rfl)) ?_; refine jo_l (ly_as rfl) (hd 6 rfl) ?_; refine jo_nil ?_; refine jc_ret ?_
  refine ⟨_, _, (.cons (ResV.cell agg30 rfl rfl rfl rfl) (.cons (ResV.cell agg30 rfl rfl rfl rfl) (.cons rfl .nil))), (.t1 (.a1 .b (.a1 .n .a0)) (.t1 (.a1 .b (.a1 .n .a0)) (.t1 .i .t0))), ?_⟩
  exact rfl
end Go.Proofs.Ythocbnfkjlgclaa.Vc

/- Contracts of surdref01.Shl, Div. -/
namespace Go.Proofs.Ythocbnfkjlgclaa.Vc
open Go Go.RowKit
set_option maxHeartbeats 4000000 in
theorem Shl_s (x n : Nat) (hx : (digs B32 x).length < 549755813888) (hn : n < 4294967296) : Spec Try.prog 91 [.n false .u64 (digs B32 x), .i .i64 (n : Int)] (fun o => o = .ret (.n false .u64 (digs B32 (x * 2 ^ n)))) := by
  refine spec_of' [(0, .n false .u64 (digs B32 x)), (1, .i .i64 (n : Int))] rfl Try.func91 rfl (Nat.le_of_ble_eq_true rfl) fun Γ hN hds hL hR => ?_
  have hd : ∀ d, Nat.blt d 55 = true → d < Γ.N := fun d h => by rw [hN]; exact Nat.le_of_ble_eq_true h
  have hr := rng_digs (b := B32) (by decide) x
  have hs : n % 32 < 32 := by omega
  refine jc_seq ?_; refine jc_region ?_; refine jo_l (ly_as rfl) (hd 4 rfl) ?_; refine jo_nil ?_; refine jc_seq ?_; refine jc_seq ?_; refine jc_region ?_; refine jo_l (ly_mv rfl) (hd 9 rfl) ?_; refine jo_l (ly_lenn sl33 rfl) (hd 10 rfl) ?_; refine jo_l (ly_eq rfl rfl) (hd 11 rfl) ?_; refine jo_nil ?_
  refine jc_if rfl (fun h1 => ?_) (fun h1 => ?_)
  · refine jc_seq ?_; refine jc_region ?_; refine jo_l (ly_as rfl) (hd 4 rfl) ?_; refine jo_nil ?_; refine jc_ret ?_
    refine ⟨_, _, (.cons rfl .nil), (.nil (fr := false) (k := .u64)), ?_⟩
    have hz : (digs B32 x) = [] := List.eq_nil_of_length_eq_zero (by omega)
    rw [digs_nil.1 hz, Nat.zero_mul, digs_0]
  · refine jc_skip ?_; refine jc_seq ?_; refine jc_region ?_; refine jo_l (ly_mv rfl) (hd 12 rfl) ?_; refine jo_l (ly_lenn sl33 rfl) (hd 13 rfl) ?_; refine jo_l (ly_mv rfl) (hd 14 rfl) ?_; refine jo_l (ly_quo rfl rfl (by omega) (r := ((n / 32 : Nat) : Int)) (quo32 (by omega))) (hd 15 rfl) ?_; refine jo_l (ly_add rfl rfl (r := (((digs B32 x).length + n / 32 : Nat) : Int)) (by rw [wrap_i64 (by omega) (by omega)]; omega)) (hd 16 rfl) ?_; refine jo_l (ly_add rfl rfl (r := (((digs B32 x).length + n / 32 + 1 : Nat) : Int)) (by rw [wrap_i64 (by omega) (by omega)]; omega)) (hd 17 rfl) ?_; refine jo_h (hy_mk (m := (digs B32 x).length + n / 32 + 1) el33 rfl rfl rfl (by show 8 * ((digs B32 x).length + n / 32 + 1) ≤ _; omega) (by unfold maxLen; omega) rfl) (hd 18 rfl) ?_; refine jo_l (ly_as rfl) (hd 5 rfl) ?_; refine jo_nil ?_; refine jc_seq ?_; refine jc_region ?_; refine jo_l (ly_mv rfl) (hd 19 rfl) ?_; refine jo_l (ly_is (ly_rem rfl rfl (by omega) rfl) (show V.i .i64 _ = V.i .i64 (((n % 32 : Nat) : Int)) from congrArg (V.i .i64) rem32)) (hd 20 rfl) ?_; refine jo_l (ly_as rfl) (hd 6 rfl) ?_; refine jo_nil ?_; refine jc_seq ?_; refine jc_seq ?_; refine jc_region ?_; refine jo_l (ly_mv rfl) (hd 21 rfl) ?_; refine jo_l (ly_lenn sl33 rfl) (hd 22 rfl) ?_; refine jo_l (ly_mv rfl) (hd 23 rfl) ?_; refine jo_nil ?_; refine jc_block ?_; refine jc_H (H' := [⟨34, 1, 0, true, ints .u64 (shR (digs B32 x) (n % 32) (n / 32) 0)⟩]) (by rw [← shR_0]; rfl) ?_
    refine jc_loopF (G := Nat) (fun i => i ≤ (digs B32 x).length) (fun i => [(23, .i .i64 (i : Int)), (7, .u), (8, .u), (24, .u), (25, .u), (26, .u), (27, .u), (28, .u), (29, .u), (30, .u), (31, .u), (32, .u), (33, .u), (34, .u), (35, .u), (36, .u), (37, .u), (38, .u), (39, .u), (40, .u), (41, .u), (42, .u), (43, .u), (44, .u), (45, .u), (46, .u), (47, .u), (48, .u), (49, .u), (50, .u), (51, .u), (52, .u)]) (fun i => [⟨34, 1, 0, true, ints .u64 (shR (digs B32 x) (n % 32) (n / 32) i)⟩]) (fun i => (digs B32 x).length - i) 0 ?_ ?_ rfl ?_
    · exact Nat.zero_le _
    · exact (.cons rfl (.u (.u (.u (.u (.u (.u (.u (.u (.u (.u (.u (.u (.u (.u (.u (.u (.u (.u (.u (.u (.u (.u (.u (.u (.u (.u (.u (.u (.u (.u (.u .nil))))))))))))))))))))))))))))))))
    · rintro i hc1
      have hf := shR_len (s := (n % 32)) (w := (n / 32)) hc1
      have hc := sh32_c hs hr i
      have hx := rng_getD (by decide) hr i
      have hp := sh_prod hs hr i
      have hel := sh_el (x := (digs B32 x).getD i 0) hs hc.1 hc.2
      refine jc_seq ?_; refine jc_region ?_; refine jo_l (ly_lt rfl rfl) (hd 24 rfl) ?_; refine jo_nil ?_; refine jc_seq ?_
      refine jc_if rfl (fun h2 => ?_) (fun h2 => ?_)
      · refine jc_skip ?_; refine jc_seq ?_; refine jc_block ?_; refine jc_seq ?_; refine jc_region ?_; refine jo_l (ly_mv rfl) (hd 25 rfl) ?_; refine jo_l (ly_ian (i := i) sl33 rfl rfl (by first | rfl | omega) (by omega)) (hd 26 rfl) ?_; refine jo_l (ly_ldq one82 rfl rfl) (hd 27 rfl) ?_; refine jo_l (ly_as rfl) (hd 7 rfl) ?_; refine jo_l (ly_as rfl) (hd 8 rfl) ?_; refine jo_nil ?_; refine jc_seq ?_; refine jc_draw (n := 14) _ rfl mixed ?_; refine ja_l2 0 [5, 6, 11, 12, 13] (lo_l (ly_mv rfl) (hd 28 rfl)) rfl (by kernel_rfl) (by kernel_rfl) (by kernel_rfl) (by kernel_rfl) (fun _ _ _ _ h => h) ?_; refine ja_l2 1 [4, 5, 6, 11, 12, 13] (lo_l (ly_mv rfl) (hd 29 rfl)) rfl (by kernel_rfl) (by kernel_rfl) (by kernel_rfl) (by kernel_rfl) (fun _ _ _ _ h => h) ?_; refine ja_l2 2 [3, 4, 5, 6, 11, 12, 13] (lo_l (ly_mv rfl) (hd 30 rfl)) rfl (by kernel_rfl) (by kernel_rfl) (by kernel_rfl) (by kernel_rfl) (fun _ _ _ _ h => h) ?_; refine ja_l2 3 [4, 5, 6, 11, 12, 13] (lo_l (ly_quo rfl rfl (by omega) (r := ((n / 32 : Nat) : Int)) (quo32 (by omega))) (hd 31 rfl)) rfl (by kernel_rfl) (by kernel_rfl) (by kernel_rfl) (by kernel_rfl) (fun _ _ _ _ h => h) ?_; refine ja_l2 4 [5, 6, 11, 12, 13] (lo_l (ly_add rfl rfl (r := ((i + n / 32 : Nat) : Int)) (by rw [wrap_i64 (by omega) (by omega)]; omega)) (hd 32 rfl)) rfl (by kernel_rfl) (by kernel_rfl) (by kernel_rfl) (by kernel_rfl) (fun _ _ _ _ h => h) ?_; refine ja_l2 5 [6, 11, 12, 13] (lo_l (ly_ia (i := i + n / 32) sl33 rfl rfl rfl (by first | rfl | omega) (by omega) rfl) (hd 33 rfl)) rfl (by kernel_rfl) (by kernel_rfl) (by kernel_rfl) (by kernel_rfl) (fun _ _ _ _ h => h) ?_; refine ja_l 6 (lo_l (ly_is (ly_ldi one82 rfl rfl (by omega)) (show V.i .u64 _ = V.i .u64 ((sh32 (digs B32 x) (n % 32) i).2) from congrArg (V.i .u64) shR_get)) (hd 34 rfl)) rfl (by kernel_rfl) (by kernel_rfl) (by kernel_rfl) (fun _ _ _ _ h => h) ?_; refine ja_l2 7 [9, 10, 11, 12, 13] (lo_l (ly_mv rfl) (hd 35 rfl)) rfl (by kernel_rfl) (by kernel_rfl) (by kernel_rfl) (by kernel_rfl) (fun _ _ _ _ h => h) ?_; refine ja_l2 8 [9, 10, 11, 12, 13] (lo_l (ly_mv rfl) (hd 36 rfl)) rfl (by kernel_rfl) (by kernel_rfl) (by kernel_rfl) (by kernel_rfl) (fun _ _ _ _ h => h) ?_; refine ja_l2 9 [10, 11, 12, 13] (lo_l (ly_is (ly_shl rfl rfl (by omega) rfl) (show V.i .u64 _ = V.i .u64 (((digs B32 x).getD i 0 * 2 ^ (n % 32))) from congrArg (V.i .u64) (shl_u64 hs hx.1 hx.2))) (hd 37 rfl)) rfl (by kernel_rfl) (by kernel_rfl) (by kernel_rfl) (by kernel_rfl) (fun _ _ _ _ h => h) ?_; refine ja_l 10 (lo_l (ly_is (ly_rem rfl rfl (by decide) rfl) (show V.i .u64 _ = V.i .u64 (((digs B32 x).getD i 0 * 2 ^ (n % 32)) % 4294967296) from congrArg (V.i .u64) (Int.tmod_eq_emod_of_nonneg hp.1))) (hd 38 rfl)) rfl (by kernel_rfl) (by kernel_rfl) (by kernel_rfl) (fun _ _ _ _ h => h) ?_; refine ja_l 11 (lo_l (ly_add rfl rfl (wrap_u64 hel.1 (Int.lt_trans hel.2 (by decide)))) (hd 39 rfl)) rfl (by kernel_rfl) (by kernel_rfl) (by kernel_rfl) (fun _ _ _ _ h => h) ?_; refine ja_l 12 (lo_l (ly_ia (i := i + n / 32) sl33 rfl rfl rfl (by first | rfl | omega) (by omega) rfl) (hd 40 rfl)) rfl (by kernel_rfl) (by kernel_rfl) (by kernel_rfl) (fun _ _ _ _ h => h) ?_
        refine ja_1 13 ?_ rfl (by kernel_rfl)
        refine js_st (sy_storei rfl rfl rfl one82 (by omega)) rfl ?_; refine ja_nil (by kernel_rfl) ?_; refine jc_region ?_; refine jo_l (ly_mv rfl) (hd 41 rfl) ?_; refine jo_l (ly_mv rfl) (hd 42 rfl) ?_; refine jo_l (ly_mv rfl) (hd 43 rfl) ?_; refine jo_l (ly_quo rfl rfl (by omega) (r := ((n / 32 : Nat) : Int)) (quo32 (by omega))) (hd 44 rfl) ?_; refine jo_l (ly_add rfl rfl (r := ((i + n / 32 : Nat) : Int)) (by rw [wrap_i64 (by omega) (by omega)]; omega)) (hd 45 rfl) ?_; refine jo_l (ly_add rfl rfl (r := ((i + n / 32 + 1 : Nat) : Int)) (by rw [wrap_i64 (by omega) (by omega)]; omega)) (hd 46 rfl) ?_; refine jo_l (ly_mv rfl) (hd 47 rfl) ?_; refine jo_l (ly_mv rfl) (hd 48 rfl) ?_; refine jo_l (ly_is (ly_shl rfl rfl (by omega) rfl) (show V.i .u64 _ = V.i .u64 (((digs B32 x).getD i 0 * 2 ^ (n % 32))) from congrArg (V.i .u64) (shl_u64 hs hx.1 hx.2))) (hd 49 rfl) ?_; refine jo_l (ly_quo rfl rfl (by decide) (r := ((digs B32 x).getD i 0 * 2 ^ (n % 32)) / 4294967296) (quo_u64 hp.1 (by omega) (by decide))) (hd 50 rfl) ?_; refine jo_l (ly_ia (i := i + n / 32 + 1) sl33 rfl rfl rfl (by first | rfl | omega) (by omega) rfl) (hd 51 rfl) ?_; refine jo_st (sy_storei rfl rfl rfl one82 (by simp only [List.length_set]; omega)) ?_; refine jo_nil ?_; refine jc_region ?_; refine jo_l (ly_add rfl rfl (wrap_i64 (by omega) (by omega))) (hd 52 rfl) ?_; refine jo_l (ly_mv rfl) (hd 23 rfl) ?_; refine jo_nil ?_
        refine ⟨i + 1, ?_, ?_, (by show [(⟨34, 1, 0, true, ints .u64 _⟩ : Ob)] = [⟨34, 1, 0, true, ints .u64 _⟩]; rw [shR_set (by omega)]), cov_n 64 rfl rfl ?_⟩
        · omega
        · omega
        · exact (.cons rfl (.u (.u (.u (.u (.u (.u (.u (.u (.u (.u (.u (.u (.u (.u (.u (.u (.u (.u (.u (.u (.u (.u (.u (.u (.u (.u (.u (.u (.u (.u (.u .nil))))))))))))))))))))))))))))))))
      · obtain rfl : i = (digs B32 x).length := by omega
        refine jc_exit ?_; refine jc_seq ?_; refine jc_region ?_; refine jo_frz (k := .u64) (l := shR (digs B32 x) (n % 32) (n / 32) (digs B32 x).length) (l' := shR (digs B32 x) (n % 32) (n / 32) (digs B32 x).length) 5 rfl rfl (by omega) (by rw [List.drop_zero, List.take_of_length_le (by omega)]) hL ?_; refine jo_l (ly_mv rfl) (hd 53 rfl) ?_
        refine jo_call Try.f81 (rnorm_s (shR (digs B32 x) (n % 32) (n / 32) (digs B32 x).length) (by omega)) rfl Try.func81 rfl rfl (ovL_cons rfl ovL_nil) (.cons .n .nil) (hd 54 rfl) ?_ (fun ch hp => by simp at hp)
        rintro y hy; injection hy with hy; subst hy; refine jo_l (ly_as rfl) (hd 4 rfl) ?_; refine jo_nil ?_; refine jc_ret ?_
        refine ⟨_, _, (.cons rfl .nil), .n, ?_⟩
        rw [shR_end]

set_option maxHeartbeats 4000000 in
theorem rDiv_s (x y : Nat) (hx : (digs B32 x).length < 4294967296) (hy : (digs B32 y).length < 4294967296) (h0 : 0 < y) : Spec Try.prog 68 [.n false .u64 (digs B32 x), .n false .u64 (digs B32 y)] (fun o => o = .ret (.t [.n false .u64 (digs B32 (x / y)), .n false .u64 (digs B32 (x % y))])) := by
  refine spec_of' [(0, .n false .u64 (digs B32 x)), (1, .n false .u64 (digs B32 y))] rfl Try.func68 rfl (Nat.le_of_ble_eq_true rfl) fun Γ hN hds hL hR => ?_
  have hd : ∀ d, Nat.blt d 60 = true → d < Γ.N := fun d h => by rw [hN]; exact Nat.le_of_ble_eq_true h
  refine jc_seq ?_; refine jc_region ?_; refine jo_l (ly_as rfl) (hd 4 rfl) ?_; refine jo_l (ly_as rfl) (hd 5 rfl) ?_; refine jo_nil ?_; refine jc_seq ?_; refine jc_region ?_; refine jo_l (ly_as rfl) (hd 6 rfl) ?_; refine jo_nil ?_; refine jc_seq ?_; refine jc_region ?_; refine jo_l (ly_mv rfl) (hd 12 rfl) ?_; refine jo_l (ly_lenn sl33 rfl) (hd 13 rfl) ?_; refine jo_h (hy_mk (m := (digs B32 x).length) el33 rfl rfl rfl (by show 8 * (digs B32 x).length ≤ _; omega) (by unfold maxLen; omega) rfl) (hd 14 rfl) ?_; refine jo_l (ly_as rfl) (hd 7 rfl) ?_; refine jo_nil ?_; refine jc_seq ?_; refine jc_seq ?_; refine jc_nilN (k := .u64) 6 rfl ?_; refine jc_region ?_; refine jo_l (ly_mv rfl) (hd 15 rfl) ?_; refine jo_l (ly_lenn sl33 rfl) (hd 16 rfl) ?_; refine jo_l (ly_sub rfl rfl (wrap_i64 (by omega) (by omega))) (hd 17 rfl) ?_; refine jo_l (ly_as rfl) (hd 8 rfl) ?_; refine jo_nil ?_; refine jc_block ?_; refine jc_H (H' := [⟨34, 1, 0, true, ints .u64 (List.replicate (digs B32 x).length 0 ++ [])⟩]) (by rw [List.append_nil]; rfl) ?_
  refine jc_loopD (G := Nat × List Int) 1 (fun g => g.1 ≤ (digs B32 x).length ∧ Qd x y g.1 g.2) (fun g => [(6, .n false .u64 (digs B32 (x / B32 ^ g.1 % y))), (8, .i .i64 ((g.1 : Int) - 1)), (9, .u), (10, .u), (11, .u), (18, .u), (19, .u), (20, .u), (21, .u), (22, .u), (23, .u), (24, .u), (25, .u), (26, .u), (27, .u), (28, .u), (29, .u), (30, .u), (31, .u), (32, .u), (33, .u), (34, .u), (35, .u), (36, .u), (37, .u), (38, .u), (39, .u), (40, .u), (41, .u), (42, .u), (43, .u), (44, .u), (45, .u), (46, .u), (47, .u), (48, .u), (49, .u), (50, .u), (51, .u), (52, .u), (53, .u), (54, .u), (55, .u), (56, .u)]) (fun g => [⟨34, 1, 0, true, ints .u64 (List.replicate g.1 0 ++ g.2)⟩]) (fun g => g.1) ((digs B32 x).length, []) ?_ ?_ rfl hR rfl (fun _ _ => rfl) (fun g _ => .cons ints_id .nil) ?_
  · exact ⟨Nat.le_refl _, qd_0⟩
  · exact (.cons (by show some (V.n false .u64 []) = some (V.n false .u64 (digs B32 (x / B32 ^ (digs B32 x).length % y))); rw [top_0, Nat.zero_mod, digs_0]) (.cons rfl (.u (.u (.u (.u (.u (.u (.u (.u (.u (.u (.u (.u (.u (.u (.u (.u (.u (.u (.u (.u (.u (.u (.u (.u (.u (.u (.u (.u (.u (.u (.u (.u (.u (.u (.u (.u (.u (.u (.u (.u (.u (.u .nil))))))))))))))))))))))))))))))))))))))))))))
  · rintro ⟨k, Q⟩ ⟨hk, hQ⟩
    dsimp only at hk hQ
    obtain ⟨R, hR0⟩ : ∃ R, x / B32 ^ k % y * B32 + x / B32 ^ (k - 1) % B32 = R := ⟨_, rfl⟩
    have hRb := dv_R (x := x) (k := k) h0
    rw [hR0] at hRb
    have hlR := len_yB hRb
    have hlA := len_le (Nat.le_of_lt (Nat.mod_lt (x / B32 ^ k) h0))
    have hAB : x / B32 ^ k % y * 2 ^ 32 < y * B32 := Nat.mul_lt_mul_of_pos_right (Nat.mod_lt (x / B32 ^ k) h0) (by decide)
    have hlAB := len_yB hAB
    have hdB := Nat.mod_lt (x / B32 ^ (k - 1)) (show 0 < B32 by decide)
    have hlD : (digs B32 (x / B32 ^ (k - 1) % B32)).length ≤ 1 := digs_len (by decide) 1 _ (by rw [Nat.pow_one]; exact hdB)
    have hNm : Spec Try.prog 81 [.n false .u64 [((x / B32 ^ (k - 1) % B32 : Nat) : Int)]] (fun o => o = .ret (.n false .u64 (digs B32 (x / B32 ^ (k - 1) % B32)))) := by have h := rnorm_s [((x / B32 ^ (k - 1) % B32 : Nat) : Int)] (by simp); rwa [trm_1 hdB] at h
    have hAdd : Spec Try.prog 63 [.n false .u64 (digs B32 (x / B32 ^ k % y * 2 ^ 32)), .n false .u64 (digs B32 (x / B32 ^ (k - 1) % B32))] (fun o => o = .ret (.n false .u64 (digs B32 R))) := by have h := rAdd_s (x / B32 ^ k % y * 2 ^ 32) (x / B32 ^ (k - 1) % B32) (by omega) (by omega); rw [show x / B32 ^ k % y * 2 ^ 32 + x / B32 ^ (k - 1) % B32 = R from hR0] at h; exact h
    refine jc_seq ?_; refine jc_seq ?_; refine jc_region ?_; refine jo_l (ly_mv rfl) (hd 18 rfl) ?_; refine jo_l (ly_ge rfl rfl) (hd 19 rfl) ?_; refine jo_nil ?_
    refine jc_if rfl (fun h1 => ?_) (fun h1 => ?_)
    · refine jc_skip ?_; refine jc_seq ?_; refine jc_block ?_; refine jc_seq ?_; refine jc_draw (n := 10) _ rfl mixed ?_; refine ja_l2 0 [1, 7, 8, 9] (lo_l (ly_mv rfl) (hd 22 rfl)) rfl (by kernel_rfl) (by kernel_rfl) (by kernel_rfl) (by kernel_rfl) (fun _ _ _ _ h => h) ?_; refine ja_l2 2 [4, 5, 6, 7, 8, 9] (lo_l (ly_mv rfl) (hd 24 rfl)) rfl (by kernel_rfl) (by kernel_rfl) (by kernel_rfl) (by kernel_rfl) (fun _ _ _ _ h => h) ?_; refine ja_l2 3 [4, 5, 6, 7, 8, 9] (lo_l (ly_mv rfl) (hd 25 rfl)) rfl (by kernel_rfl) (by kernel_rfl) (by kernel_rfl) (by kernel_rfl) (fun _ _ _ _ h => h) ?_; refine ja_l2 4 [5, 6, 7, 8, 9] (lo_l (ly_ian (i := k - 1) sl33 rfl rfl (by omega) (by omega)) (hd 26 rfl)) rfl (by kernel_rfl) (by kernel_rfl) (by kernel_rfl) (by kernel_rfl) (fun _ _ _ _ h => h) ?_; refine ja_l2 5 [6, 7, 8, 9] (lo_l (ly_is (ly_ldq one82 rfl rfl) (by show V.i .u64 _ = V.i .u64 (((x / B32 ^ (k - 1) % B32 : Nat) : Int)); exact congrArg (V.i .u64) (digs_at (by decide) (k - 1) x))) (hd 27 rfl)) rfl (by kernel_rfl) (by kernel_rfl) (by kernel_rfl) (by kernel_rfl) (fun _ _ _ _ h => h) ?_
      refine ja_2 1 6 ?_ ?_ rfl rfl (by kernel_rfl)
      · refine js_call Try.f91 (Shl_s (x / B32 ^ k % y) 32 (by omega) (by decide)) rfl Try.func91 rfl rfl (ovL_cons rfl (ovL_cons rfl ovL_nil)) (.cons .n (.cons .i .nil)) (hd 23 rfl) ?_ (fun ch hp => by simp at hp)
        rintro y hy; injection hy with hy; subst hy
        refine ja_1 6 ?_ rfl (by kernel_rfl)
        refine js_h (hy_lit (id := 1) (xs := [.tmp 27]) el33 rfl (ovL_cons rfl ovL_nil) rfl (all2_of rfl) (by decide) rfl) (hd 28 rfl) ?_; refine ja_frz (k := .u64) (l := [((x / B32 ^ (k - 1) % B32 : Nat) : Int)]) (l' := [((x / B32 ^ (k - 1) % B32 : Nat) : Int)]) 28 rfl rfl (Nat.le_refl _) rfl hL ?_
        refine ja_1 7 ?_ rfl (by kernel_rfl)
        refine js_call Try.f81 (hNm) rfl Try.func81 rfl rfl (ovL_cons rfl ovL_nil) (.cons .n .nil) (hd 29 rfl) ?_ (fun ch hp => by simp at hp)
        rintro y hy; injection hy with hy; subst hy
        refine ja_1 8 ?_ rfl (by kernel_rfl)
        refine js_call Try.f63 (hAdd) rfl Try.func63 rfl rfl (ovL_cons rfl (ovL_cons rfl ovL_nil)) (.cons .n (.cons .n .nil)) (hd 30 rfl) ?_ (fun ch hp => by simp at hp)
        rintro y hy; injection hy with hy; subst hy; refine ja_l 9 (lo_l (ly_as rfl) (hd 6 rfl)) rfl (by kernel_rfl) (by kernel_rfl) (by kernel_rfl) (fun _ _ _ _ h => h) ?_; refine ja_nil (by kernel_rfl) ?_; refine jc_seq ?_; refine jc_region ?_; refine jo_l (ly_as rfl) (hd 9 rfl) ?_; refine jo_nil ?_
        refine jc_meetH (G := Unit) (fun _ => True) (fun _ => [(6, .n false .u64 (digs B32 (R % y))), (9, .i .u64 ((R / y : Nat) : Int)), (10, .u), (11, .u), (31, .u), (32, .u), (33, .u), (34, .u), (35, .u), (36, .u), (37, .u), (38, .u), (39, .u), (40, .u), (41, .u), (42, .u), (43, .u), (44, .u), (45, .u), (46, .u), (47, .u), (48, .u), (49, .u), (50, .u), (51, .u), (52, .u)]) ?_ ?_
        · refine jc_seq ?_; refine jc_region ?_; refine jo_l (ly_mv rfl) (hd 31 rfl) ?_; refine jo_l (ly_mv rfl) (hd 32 rfl) ?_
          refine jo_call Try.f64 (rCmp_s R y (by omega) (by omega)) rfl Try.func64 rfl rfl (ovL_cons rfl (ovL_cons rfl ovL_nil)) (.cons .n (.cons .n .nil)) (hd 33 rfl) ?_ (fun ch hp => by simp at hp)
          rintro y hy; injection hy with hy; subst hy; refine jo_l (ly_ge rfl rfl) (hd 34 rfl) ?_; refine jo_nil ?_
          refine jc_if rfl (fun h2 => ?_) (fun h2 => ?_)
          · refine jc_seq ?_; refine jc_region ?_; refine jo_l (ly_as rfl) (hd 10 rfl) ?_; refine jo_nil ?_; refine jc_block ?_
            refine jc_loopF (G := Nat × Nat) (fun g => Hlv R y g.1 g.2) (fun g => [(6, .n false .u64 (digs B32 (R - y * g.2))), (9, .i .u64 (g.2 : Int)), (10, .i .i64 ((g.1 : Int) - 1)), (11, .u), (35, .u), (36, .u), (37, .u), (38, .u), (39, .u), (40, .u), (41, .u), (42, .u), (43, .u), (44, .u), (45, .u), (46, .u), (47, .u), (48, .u), (49, .u), (50, .u), (51, .u), (52, .u)]) (fun _ => _) (fun g => g.1) (32, 0) ?_ ?_ rfl ?_
            · exact hlv_0 hRb
            · exact (.cons (by show some (V.n false .u64 (digs B32 R)) = some (V.n false .u64 (digs B32 (R - y * 0))); rw [Nat.mul_zero, Nat.sub_zero]) (.cons rfl (.cons rfl (.u (.u (.u (.u (.u (.u (.u (.u (.u (.u (.u (.u (.u (.u (.u (.u (.u (.u (.u .nil))))))))))))))))))))))
            · rintro ⟨t, q⟩ hH
              dsimp only at hH
              have hlq := hlv_len (t := t) (q := q) hRb
              refine jc_seq ?_; refine jc_seq ?_; refine jc_region ?_; refine jo_l (ly_mv rfl) (hd 35 rfl) ?_; refine jo_l (ly_ge rfl rfl) (hd 36 rfl) ?_; refine jo_nil ?_
              refine jc_if rfl (fun h3 => ?_) (fun h3 => ?_)
              · obtain ⟨s, rfl⟩ : ∃ s, t = s + 1 := ⟨t - 1, by omega⟩
                have hs : s < 32 := by have := hH.1; omega
                have hls := len_ys (y := y) h0 hs
                refine jc_skip ?_
                refine jc_meetH (G := Nat) (fun g => Hlv R y s g) (fun g => [(6, .n false .u64 (digs B32 (R - y * g))), (9, .i .u64 (g : Int)), (11, .u), (39, .u), (40, .u), (41, .u), (42, .u), (43, .u), (44, .u), (45, .u), (46, .u), (47, .u), (48, .u), (49, .u), (50, .u), (51, .u), (52, .u)]) ?_ ?_
                · refine jc_block ?_; refine jc_seq ?_; refine jc_region ?_; refine jo_l (ly_mv rfl) (hd 39 rfl) ?_; refine jo_l (ly_is (ly_mv rfl) (show V.i .i64 _ = V.i .i64 (s : Int) by congr 1; omega)) (hd 40 rfl) ?_
                  refine jo_call Try.f91 (Shl_s y s (by omega) (by omega)) rfl Try.func91 rfl rfl (ovL_cons rfl (ovL_cons rfl ovL_nil)) (.cons .n (.cons .i .nil)) (hd 41 rfl) ?_ (fun ch hp => by simp at hp)
                  rintro y hy; injection hy with hy; subst hy; refine jo_l (ly_as rfl) (hd 11 rfl) ?_; refine jo_nil ?_; refine jc_seq ?_; refine jc_region ?_; refine jo_l (ly_mv rfl) (hd 42 rfl) ?_; refine jo_l (ly_mv rfl) (hd 43 rfl) ?_
                  refine jo_call Try.f64 (rCmp_s (R - y * q) (y * 2 ^ s) (by omega) (by omega)) rfl Try.func64 rfl rfl (ovL_cons rfl (ovL_cons rfl ovL_nil)) (.cons .n (.cons .n .nil)) (hd 44 rfl) ?_ (fun ch hp => by simp at hp)
                  rintro y hy; injection hy with hy; subst hy; refine jo_l (ly_ge rfl rfl) (hd 45 rfl) ?_; refine jo_nil ?_
                  refine jc_if rfl (fun h4 => ?_) (fun h4 => ?_)
                  · have hle := cmp_le h4
                    obtain ⟨hy1, hy2⟩ := hlv_yes hH hle
                    have hqb := hy1.2.2.2
                    refine jc_seq ?_; refine jc_region ?_; refine jo_l (ly_mv rfl) (hd 46 rfl) ?_; refine jo_l (ly_mv rfl) (hd 47 rfl) ?_
                    refine jo_call Try.f65 (rSub_s (R - y * q) (y * 2 ^ s) hle (by omega) (by omega)) rfl Try.func65 rfl rfl (ovL_cons rfl (ovL_cons rfl ovL_nil)) (.cons .n (.cons .n .nil)) (hd 48 rfl) ?_ (fun ch hp => by simp at hp)
                    rintro y hy; injection hy with hy; subst hy; refine jo_l (ly_as rfl) (hd 6 rfl) ?_; refine jo_nil ?_; refine jc_region ?_; refine jo_l (ly_mv rfl) (hd 49 rfl) ?_; refine jo_l (ly_is (ly_mv rfl) (show V.i .i64 _ = V.i .i64 (s : Int) by congr 1; omega)) (hd 50 rfl) ?_; refine jo_l (ly_is (ly_shl rfl rfl (by omega) rfl) (show V.i .u64 _ = V.i .u64 (((2 ^ s : Nat) : Int)) from congrArg (V.i .u64) (bit_shl hs))) (hd 51 rfl) ?_; refine jo_l (ly_add rfl rfl (r := ((q + 2 ^ s : Nat) : Int)) (by generalize 2 ^ s = u at *; rw [wrap_u64 (by omega) (by omega)]; omega)) (hd 52 rfl) ?_; refine jo_l (ly_as rfl) (hd 9 rfl) ?_; refine jo_nil ?_
                    refine ⟨(q + 2 ^ s), ?_, rfl, cov_n 17 rfl rfl ?_⟩
                    · exact hy1
                    · exact (.cons (by show some (V.n false .u64 _) = some (V.n false .u64 _); rw [hy2]) (.cons rfl (.u (.u (.u (.u (.u (.u (.u (.u (.u (.u (.u (.u (.u (.u (.u .nil)))))))))))))))))
                  · have hno := hlv_no hH (fun hle => h4 (cmp_ge hle))
                    refine jc_skip ?_
                    refine ⟨q, ?_, rfl, cov_n 8 rfl rfl ?_⟩
                    · exact hno
                    · exact (.cons rfl (.cons rfl (.u (.u (.u (.u (.u (.u (.u (.u (.u (.u (.u (.u (.u (.u (.u .nil)))))))))))))))))
                · rintro q' hH'; refine jc_region ?_; refine jo_l (ly_mv rfl) (hd 37 rfl) ?_; refine jo_l (ly_sub rfl rfl (wrap_i64 (by omega) (by omega))) (hd 38 rfl) ?_; refine jo_l (ly_as rfl) (hd 10 rfl) ?_; refine jo_nil ?_
                  refine ⟨(s, q'), ?_, ?_, rfl, cov_n 44 rfl rfl ?_⟩
                  · exact hH'
                  · show s < s + 1
                    omega
                  · exact (.cons rfl (.cons rfl (.cons (by show some (V.i .i64 _) = some (V.i .i64 _); congr 2; omega) (.u (.u (.u (.u (.u (.u (.u (.u (.u (.u (.u (.u (.u (.u (.u (.u (.u (.u (.u .nil))))))))))))))))))))))
              · obtain rfl : t = 0 := by omega
                obtain ⟨he1, he2⟩ := hlv_end hH
                refine jc_exit ?_
                refine ⟨(), ?_, rfl, cov_n 29 rfl rfl ?_⟩
                · trivial
                · exact (.cons (by show some (V.n false .u64 _) = some (V.n false .u64 _); rw [he2]) (.cons (by show some (V.i .u64 _) = some (V.i .u64 _); rw [he1]) (.u (.u (.u (.u (.u (.u (.u (.u (.u (.u (.u (.u (.u (.u (.u (.u (.u (.u (.u (.u (.u (.u (.u (.u .nil))))))))))))))))))))))))))
          · have hlt := cmp_lt' h2
            refine jc_skip ?_
            refine ⟨(), ?_, rfl, cov_n 4 rfl rfl ?_⟩
            · trivial
            · exact (.cons (by show some (V.n false .u64 _) = some (V.n false .u64 _); rw [Nat.mod_eq_of_lt hlt]) (.cons (by show some (V.i .u64 _) = some (V.i .u64 _); rw [Nat.div_eq_of_lt hlt]; rfl) (.u (.u (.u (.u (.u (.u (.u (.u (.u (.u (.u (.u (.u (.u (.u (.u (.u (.u (.u (.u (.u (.u (.u (.u .nil))))))))))))))))))))))))))
        · rintro _ _; refine jc_region ?_; refine jo_l (ly_mv rfl) (hd 53 rfl) ?_; refine jo_l (ly_mv rfl) (hd 54 rfl) ?_; refine jo_l (ly_mv rfl) (hd 55 rfl) ?_; refine jo_l (ly_ia (i := k - 1) sl33 rfl rfl rfl (by omega) (by omega) rfl) (hd 56 rfl) ?_; refine jo_st (sy_storei rfl rfl rfl one82 (by simp only [List.length_append, List.length_replicate]; omega)) ?_; refine jo_nil ?_; refine jc_region ?_; refine jo_l (ly_mv rfl) (hd 20 rfl) ?_; refine jo_l (ly_sub rfl rfl (wrap_i64 (by omega) (by omega))) (hd 21 rfl) ?_; refine jo_l (ly_as rfl) (hd 8 rfl) ?_; refine jo_nil ?_
          refine ⟨(k - 1, ((R / y : Nat) : Int) :: Q), ?_, ?_, (by show [(⟨34, 1, 0, true, ints .u64 _⟩ : Ob)] = [⟨34, 1, 0, true, ints .u64 _⟩]; rw [dv_row (by omega)]), cov_n 91 rfl rfl ?_⟩
          · exact ⟨by show k - 1 ≤ _; omega, by rw [← hR0]; exact hQ.next h0 (by omega) hk⟩
          · show k - 1 < k
            omega
          · exact (.cons (by show some (V.n false .u64 _) = some (V.n false .u64 _); rw [(dv_digit h0 (by omega)).2, hR0]) (.cons (by show some (V.i .i64 _) = some (V.i .i64 _); congr 2; omega) (.u (.u (.u (.u (.u (.u (.u (.u (.u (.u (.u (.u (.u (.u (.u (.u (.u (.u (.u (.u (.u (.u (.u (.u (.u (.u (.u (.u (.u (.u (.u (.u (.u (.u (.u (.u (.u (.u (.u (.u (.u (.u .nil))))))))))))))))))))))))))))))))))))))))))))
      · refine js_h (hy_lit (id := 1) (xs := [.tmp 27]) el33 rfl (ovL_cons rfl ovL_nil) rfl (all2_of rfl) (by decide) rfl) (hd 28 rfl) ?_; refine ja_frz (k := .u64) (l := [((x / B32 ^ (k - 1) % B32 : Nat) : Int)]) (l' := [((x / B32 ^ (k - 1) % B32 : Nat) : Int)]) 28 rfl rfl (Nat.le_refl _) rfl hL ?_
        refine ja_1 1 ?_ rfl (by kernel_rfl)
        refine js_call Try.f91 (Shl_s (x / B32 ^ k % y) 32 (by omega) (by decide)) rfl Try.func91 rfl rfl (ovL_cons rfl (ovL_cons rfl ovL_nil)) (.cons .n (.cons .i .nil)) (hd 23 rfl) ?_ (fun ch hp => by simp at hp)
        rintro y hy; injection hy with hy; subst hy
        refine ja_1 7 ?_ rfl (by kernel_rfl)
        refine js_call Try.f81 (hNm) rfl Try.func81 rfl rfl (ovL_cons rfl ovL_nil) (.cons .n .nil) (hd 29 rfl) ?_ (fun ch hp => by simp at hp)
        rintro y hy; injection hy with hy; subst hy
        refine ja_1 8 ?_ rfl (by kernel_rfl)
        refine js_call Try.f63 (hAdd) rfl Try.func63 rfl rfl (ovL_cons rfl (ovL_cons rfl ovL_nil)) (.cons .n (.cons .n .nil)) (hd 30 rfl) ?_ (fun ch hp => by simp at hp)
        rintro y hy; injection hy with hy; subst hy; refine ja_l 9 (lo_l (ly_as rfl) (hd 6 rfl)) rfl (by kernel_rfl) (by kernel_rfl) (by kernel_rfl) (fun _ _ _ _ h => h) ?_; refine ja_nil (by kernel_rfl) ?_; refine jc_seq ?_; refine jc_region ?_; refine jo_l (ly_as rfl) (hd 9 rfl) ?_; refine jo_nil ?_
        refine jc_meetH (G := Unit) (fun _ => True) (fun _ => [(6, .n false .u64 (digs B32 (R % y))), (9, .i .u64 ((R / y : Nat) : Int)), (10, .u), (11, .u), (31, .u), (32, .u), (33, .u), (34, .u), (35, .u), (36, .u), (37, .u), (38, .u), (39, .u), (40, .u), (41, .u), (42, .u), (43, .u), (44, .u), (45, .u), (46, .u), (47, .u), (48, .u), (49, .u), (50, .u), (51, .u), (52, .u)]) ?_ ?_
        · refine jc_seq ?_; refine jc_region ?_; refine jo_l (ly_mv rfl) (hd 31 rfl) ?_; refine jo_l (ly_mv rfl) (hd 32 rfl) ?_
          refine jo_call Try.f64 (rCmp_s R y (by omega) (by omega)) rfl Try.func64 rfl rfl (ovL_cons rfl (ovL_cons rfl ovL_nil)) (.cons .n (.cons .n .nil)) (hd 33 rfl) ?_ (fun ch hp => by simp at hp)
          rintro y hy; injection hy with hy; subst hy; refine jo_l (ly_ge rfl rfl) (hd 34 rfl) ?_; refine jo_nil ?_
          refine jc_if rfl (fun h5 => ?_) (fun h5 => ?_)
          · refine jc_seq ?_; refine jc_region ?_; refine jo_l (ly_as rfl) (hd 10 rfl) ?_; refine jo_nil ?_; refine jc_block ?_
            refine jc_loopF (G := Nat × Nat) (fun g => Hlv R y g.1 g.2) (fun g => [(6, .n false .u64 (digs B32 (R - y * g.2))), (9, .i .u64 (g.2 : Int)), (10, .i .i64 ((g.1 : Int) - 1)), (11, .u), (35, .u), (36, .u), (37, .u), (38, .u), (39, .u), (40, .u), (41, .u), (42, .u), (43, .u), (44, .u), (45, .u), (46, .u), (47, .u), (48, .u), (49, .u), (50, .u), (51, .u), (52, .u)]) (fun _ => _) (fun g => g.1) (32, 0) ?_ ?_ rfl ?_
            · exact hlv_0 hRb
            · exact (.cons (by show some (V.n false .u64 (digs B32 R)) = some (V.n false .u64 (digs B32 (R - y * 0))); rw [Nat.mul_zero, Nat.sub_zero]) (.cons rfl (.cons rfl (.u (.u (.u (.u (.u (.u (.u (.u (.u (.u (.u (.u (.u (.u (.u (.u (.u (.u (.u .nil))))))))))))))))))))))
            · rintro ⟨t, q⟩ hH
              dsimp only at hH
              have hlq := hlv_len (t := t) (q := q) hRb
              refine jc_seq ?_; refine jc_seq ?_; refine jc_region ?_; refine jo_l (ly_mv rfl) (hd 35 rfl) ?_; refine jo_l (ly_ge rfl rfl) (hd 36 rfl) ?_; refine jo_nil ?_
              refine jc_if rfl (fun h6 => ?_) (fun h6 => ?_)
              · obtain ⟨s, rfl⟩ : ∃ s, t = s + 1 := ⟨t - 1, by omega⟩
                have hs : s < 32 := by have := hH.1; omega
                have hls := len_ys (y := y) h0 hs
                refine jc_skip ?_
                refine jc_meetH (G := Nat) (fun g => Hlv R y s g) (fun g => [(6, .n false .u64 (digs B32 (R - y * g))), (9, .i .u64 (g : Int)), (11, .u), (39, .u), (40, .u), (41, .u), (42, .u), (43, .u), (44, .u), (45, .u), (46, .u), (47, .u), (48, .u), (49, .u), (50, .u), (51, .u), (52, .u)]) ?_ ?_
                · refine jc_block ?_; refine jc_seq ?_; refine jc_region ?_; refine jo_l (ly_mv rfl) (hd 39 rfl) ?_; refine jo_l (ly_is (ly_mv rfl) (show V.i .i64 _ = V.i .i64 (s : Int) by congr 1; omega)) (hd 40 rfl) ?_
                  refine jo_call Try.f91 (Shl_s y s (by omega) (by omega)) rfl Try.func91 rfl rfl (ovL_cons rfl (ovL_cons rfl ovL_nil)) (.cons .n (.cons .i .nil)) (hd 41 rfl) ?_ (fun ch hp => by simp at hp)
                  rintro y hy; injection hy with hy; subst hy; refine jo_l (ly_as rfl) (hd 11 rfl) ?_; refine jo_nil ?_; refine jc_seq ?_; refine jc_region ?_; refine jo_l (ly_mv rfl) (hd 42 rfl) ?_; refine jo_l (ly_mv rfl) (hd 43 rfl) ?_
                  refine jo_call Try.f64 (rCmp_s (R - y * q) (y * 2 ^ s) (by omega) (by omega)) rfl Try.func64 rfl rfl (ovL_cons rfl (ovL_cons rfl ovL_nil)) (.cons .n (.cons .n .nil)) (hd 44 rfl) ?_ (fun ch hp => by simp at hp)
                  rintro y hy; injection hy with hy; subst hy; refine jo_l (ly_ge rfl rfl) (hd 45 rfl) ?_; refine jo_nil ?_
                  refine jc_if rfl (fun h7 => ?_) (fun h7 => ?_)
                  · have hle := cmp_le h7
                    obtain ⟨hy1, hy2⟩ := hlv_yes hH hle
                    have hqb := hy1.2.2.2
                    refine jc_seq ?_; refine jc_region ?_; refine jo_l (ly_mv rfl) (hd 46 rfl) ?_; refine jo_l (ly_mv rfl) (hd 47 rfl) ?_
                    refine jo_call Try.f65 (rSub_s (R - y * q) (y * 2 ^ s) hle (by omega) (by omega)) rfl Try.func65 rfl rfl (ovL_cons rfl (ovL_cons rfl ovL_nil)) (.cons .n (.cons .n .nil)) (hd 48 rfl) ?_ (fun ch hp => by simp at hp)
                    rintro y hy; injection hy with hy; subst hy; refine jo_l (ly_as rfl) (hd 6 rfl) ?_; refine jo_nil ?_; refine jc_region ?_; refine jo_l (ly_mv rfl) (hd 49 rfl) ?_; refine jo_l (ly_is (ly_mv rfl) (show V.i .i64 _ = V.i .i64 (s : Int) by congr 1; omega)) (hd 50 rfl) ?_; refine jo_l (ly_is (ly_shl rfl rfl (by omega) rfl) (show V.i .u64 _ = V.i .u64 (((2 ^ s : Nat) : Int)) from congrArg (V.i .u64) (bit_shl hs))) (hd 51 rfl) ?_; refine jo_l (ly_add rfl rfl (r := ((q + 2 ^ s : Nat) : Int)) (by generalize 2 ^ s = u at *; rw [wrap_u64 (by omega) (by omega)]; omega)) (hd 52 rfl) ?_; refine jo_l (ly_as rfl) (hd 9 rfl) ?_; refine jo_nil ?_
                    refine ⟨(q + 2 ^ s), ?_, rfl, cov_n 17 rfl rfl ?_⟩
                    · exact hy1
                    · exact (.cons (by show some (V.n false .u64 _) = some (V.n false .u64 _); rw [hy2]) (.cons rfl (.u (.u (.u (.u (.u (.u (.u (.u (.u (.u (.u (.u (.u (.u (.u .nil)))))))))))))))))
                  · have hno := hlv_no hH (fun hle => h7 (cmp_ge hle))
                    refine jc_skip ?_
                    refine ⟨q, ?_, rfl, cov_n 8 rfl rfl ?_⟩
                    · exact hno
                    · exact (.cons rfl (.cons rfl (.u (.u (.u (.u (.u (.u (.u (.u (.u (.u (.u (.u (.u (.u (.u .nil)))))))))))))))))
                · rintro q' hH'; refine jc_region ?_; refine jo_l (ly_mv rfl) (hd 37 rfl) ?_; refine jo_l (ly_sub rfl rfl (wrap_i64 (by omega) (by omega))) (hd 38 rfl) ?_; refine jo_l (ly_as rfl) (hd 10 rfl) ?_; refine jo_nil ?_
                  refine ⟨(s, q'), ?_, ?_, rfl, cov_n 44 rfl rfl ?_⟩
                  · exact hH'
                  · show s < s + 1
                    omega
                  · exact (.cons rfl (.cons rfl (.cons (by show some (V.i .i64 _) = some (V.i .i64 _); congr 2; omega) (.u (.u (.u (.u (.u (.u (.u (.u (.u (.u (.u (.u (.u (.u (.u (.u (.u (.u (.u .nil))))))))))))))))))))))
              · obtain rfl : t = 0 := by omega
                obtain ⟨he1, he2⟩ := hlv_end hH
                refine jc_exit ?_
                refine ⟨(), ?_, rfl, cov_n 29 rfl rfl ?_⟩
                · trivial
                · exact (.cons (by show some (V.n false .u64 _) = some (V.n false .u64 _); rw [he2]) (.cons (by show some (V.i .u64 _) = some (V.i .u64 _); rw [he1]) (.u (.u (.u (.u (.u (.u (.u (.u (.u (.u (.u (.u (.u (.u (.u (.u (.u (.u (.u (.u (.u (.u (.u (.u .nil))))))))))))))))))))))))))
          · have hlt := cmp_lt' h5
            refine jc_skip ?_
            refine ⟨(), ?_, rfl, cov_n 4 rfl rfl ?_⟩
            · trivial
            · exact (.cons (by show some (V.n false .u64 _) = some (V.n false .u64 _); rw [Nat.mod_eq_of_lt hlt]) (.cons (by show some (V.i .u64 _) = some (V.i .u64 _); rw [Nat.div_eq_of_lt hlt]; rfl) (.u (.u (.u (.u (.u (.u (.u (.u (.u (.u (.u (.u (.u (.u (.u (.u (.u (.u (.u (.u (.u (.u (.u (.u .nil))))))))))))))))))))))))))
        · rintro _ _; refine jc_region ?_; refine jo_l (ly_mv rfl) (hd 53 rfl) ?_; refine jo_l (ly_mv rfl) (hd 54 rfl) ?_; refine jo_l (ly_mv rfl) (hd 55 rfl) ?_; refine jo_l (ly_ia (i := k - 1) sl33 rfl rfl rfl (by omega) (by omega) rfl) (hd 56 rfl) ?_; refine jo_st (sy_storei rfl rfl rfl one82 (by simp only [List.length_append, List.length_replicate]; omega)) ?_; refine jo_nil ?_; refine jc_region ?_; refine jo_l (ly_mv rfl) (hd 20 rfl) ?_; refine jo_l (ly_sub rfl rfl (wrap_i64 (by omega) (by omega))) (hd 21 rfl) ?_; refine jo_l (ly_as rfl) (hd 8 rfl) ?_; refine jo_nil ?_
          refine ⟨(k - 1, ((R / y : Nat) : Int) :: Q), ?_, ?_, (by show [(⟨34, 1, 0, true, ints .u64 _⟩ : Ob)] = [⟨34, 1, 0, true, ints .u64 _⟩]; rw [dv_row (by omega)]), cov_n 91 rfl rfl ?_⟩
          · exact ⟨by show k - 1 ≤ _; omega, by rw [← hR0]; exact hQ.next h0 (by omega) hk⟩
          · show k - 1 < k
            omega
          · exact (.cons (by show some (V.n false .u64 _) = some (V.n false .u64 _); rw [(dv_digit h0 (by omega)).2, hR0]) (.cons (by show some (V.i .i64 _) = some (V.i .i64 _); congr 2; omega) (.u (.u (.u (.u (.u (.u (.u (.u (.u (.u (.u (.u (.u (.u (.u (.u (.u (.u (.u (.u (.u (.u (.u (.u (.u (.u (.u (.u (.u (.u (.u (.u (.u (.u (.u (.u (.u (.u (.u (.u (.u (.u .nil))))))))))))))))))))))))))))))))))))))))))))
    · obtain rfl : k = 0 := by omega
      refine jc_exit ?_; refine jc_seq ?_; refine jc_region ?_; refine jo_frz (k := .u64) (l := List.replicate 0 0 ++ Q) (l' := Q) 7 rfl rfl (by have := hQ.l; simp only [List.length_append, List.length_replicate]; omega) (by have := hQ.l; rw [List.drop_zero]; show List.take _ Q = _; rw [List.take_of_length_le (by omega)]) hL ?_; refine jo_l (ly_mv rfl) (hd 57 rfl) ?_
      refine jo_call Try.f81 (rnorm_s Q (by have := hQ.l; omega)) rfl Try.func81 rfl rfl (ovL_cons rfl ovL_nil) (.cons .n .nil) (hd 58 rfl) ?_ (fun ch hp => by simp at hp)
      rintro y hy; injection hy with hy; subst hy; refine jo_l (ly_mv rfl) (hd 59 rfl) ?_; refine jo_l (ly_as rfl) (hd 4 rfl) ?_; refine jo_l (ly_as rfl) (hd 5 rfl) ?_; refine jo_nil ?_; refine jc_ret ?_
      refine ⟨_, _, (.cons rfl (.cons rfl .nil)), (.t1 .n (.t1 .n .t0)), ?_⟩
      rw [hQ.fin, Nat.pow_zero, Nat.div_one]
end Go.Proofs.Ythocbnfkjlgclaa.Vc

/- Contracts of surdref06.Floor, Ceil, Quo, Euclid, Near. -/
namespace Go.Proofs.Ythocbnfkjlgclaa.Vc
open Go Go.RowKit
set_option maxHeartbeats 4000000 in
theorem rFloor_s (v w : Int) (hv : (dg v).length < 4294967296) (hw : (dg w).length < 4294967296) (h0 : w ≠ 0) : Spec Try.prog 24 [.a [.b (decide (v < 0)), .n false .u64 (dg v)], .a [.b (decide (w < 0)), .n false .u64 (dg w)]] (fun o => o = .ret (.t [.a [.b (decide ((flo v w) < 0)), .n false .u64 (dg (flo v w))], .a [.b (decide ((v - (flo v w) * w) < 0)), .n false .u64 (dg (v - (flo v w) * w))]])) := by
  refine spec_of' [(0, .a [.b (decide (v < 0)), .n false .u64 (dg v)]), (1, .a [.b (decide (w < 0)), .n false .u64 (dg w)])] rfl Try.func24 rfl (Nat.le_of_ble_eq_true rfl) fun Γ hN hds hL hR => ?_
  have hd : ∀ d, Nat.blt d 43 = true → d < Γ.N := fun d h => by rw [hN]; exact Nat.le_of_ble_eq_true h
  have hX1 : (dg (zs (ng v w) (v.natAbs / w.natAbs))).length ≤ (dg v).length := dg_mono (by rw [zs_abs]; exact Nat.div_le_self _ _)
  have hX2 := dg_sub_len (zs (ng v w) (v.natAbs / w.natAbs)) 1
  have h1 := dg_1
  have hX3 := dg_mul_len (zs (ng v w) (v.natAbs / w.natAbs)) w
  have hX4 := dg_mul_len ((zs (ng v w) (v.natAbs / w.natAbs)) - 1) w
  refine jc_seq ?_; refine jc_region ?_; refine jo_h (hy_box (id := 0) (n := 2) rfl rfl rfl (by decide) rfl) (hd 2 rfl) ?_; refine jo_h (hy_box (id := 1) (n := 2) rfl rfl rfl (by decide) rfl) (hd 3 rfl) ?_; refine jo_h (hy_alloc (id := 2) zero35 (by decide) rfl (by decide) rfl) (hd 4 rfl) ?_; refine jo_h (hy_alloc (id := 3) zero35 (by decide) rfl (by decide) rfl) (hd 5 rfl) ?_; refine jo_nil ?_; refine jc_seq ?_; refine jc_region ?_; refine jo_l (ly_fa fld35_1 rfl rfl rfl) (hd 10 rfl) ?_; refine jo_l (ly_ld one33 rfl rfl rfl) (hd 11 rfl) ?_; refine jo_l (ly_fa fld35_1 rfl rfl rfl) (hd 12 rfl) ?_; refine jo_l (ly_ld one33 rfl rfl rfl) (hd 13 rfl) ?_
  refine jo_call Try.f68 (rDiv_s v.natAbs w.natAbs hv hw (by omega)) rfl Try.func68 rfl rfl (ovL_cons rfl (ovL_cons rfl ovL_nil)) (.cons .n (.cons .n .nil)) (hd 14 rfl) ?_ (fun ch hp => by simp at hp)
  rintro y hy; injection hy with hy; subst hy; refine jo_l (ly_mv rfl) (hd 9 rfl) ?_; refine jo_l (ly_ext rfl rfl) (hd 15 rfl) ?_; refine jo_l (ly_ext rfl rfl) (hd 16 rfl) ?_; refine jo_l (ly_as rfl) (hd 6 rfl) ?_; refine jo_l (ly_as rfl) (hd 7 rfl) ?_; refine jo_nil ?_; refine jc_seq ?_; refine jc_region ?_; refine jo_l (ly_fa fld35_0 rfl rfl rfl) (hd 17 rfl) ?_; refine jo_l (ly_ld one4 rfl rfl rfl) (hd 18 rfl) ?_; refine jo_l (ly_fa fld35_0 rfl rfl rfl) (hd 19 rfl) ?_; refine jo_l (ly_ld one4 rfl rfl rfl) (hd 20 rfl) ?_; refine jo_l (ly_is (ly_neb und4 rfl rfl) (show V.b _ = V.b (ng v w) from rfl)) (hd 21 rfl) ?_; refine jo_l (ly_mv rfl) (hd 22 rfl) ?_
  refine jo_call Try.f62 (make1_z (ng v w) (v.natAbs / w.natAbs)) rfl Try.func62 rfl rfl (ovL_cons rfl (ovL_cons rfl ovL_nil)) (.cons .b (.cons .n .nil)) (hd 23 rfl) ?_ (fun ch hp => by simp at hp)
  rintro y hy; injection hy with hy; subst hy; refine jo_h (hy_alloc (id := 4) zero35 (by decide) rfl (by decide) rfl) (hd 8 rfl) ?_; refine jo_st (sy_store rfl rfl rfl siz35 rfl rfl (Nat.le_of_ble_eq_true rfl)) ?_; refine jo_nil ?_; refine jc_seq ?_; refine jc_seq ?_; refine jc_region ?_; refine jo_l (ly_mv rfl) (hd 24 rfl) ?_
  refine jo_call Try.f67 (Zero_s (digs B32 (v.natAbs % w.natAbs))) rfl Try.func67 rfl rfl (ovL_cons rfl ovL_nil) (.cons .n .nil) (hd 25 rfl) ?_ (fun ch hp => by simp at hp)
  rintro y hy; injection hy with hy; subst hy; refine jo_l (ly_not rfl) (hd 26 rfl) ?_; refine jo_l (ly_mv rfl) (hd 27 rfl) ?_
  refine jo_split 27 rfl (fun h1 => ?_) (fun h1 => ?_)
  · have hr0 : ¬ v.natAbs % w.natAbs = 0 := fun h => by rw [decide_eq_true (digs_len0.2 h)] at h1; exact absurd h1 (by decide)
    refine jo_g 27 rfl rfl (ly_fa fld35_0 rfl rfl rfl) (hd 28 rfl) ?_; refine jo_g 27 rfl rfl (ly_ld one4 rfl rfl rfl) (hd 29 rfl) ?_; refine jo_g 27 rfl rfl (ly_fa fld35_0 rfl rfl rfl) (hd 30 rfl) ?_; refine jo_g 27 rfl rfl (ly_ld one4 rfl rfl rfl) (hd 31 rfl) ?_; refine jo_g 27 rfl rfl (ly_is (ly_neb und4 rfl rfl) (show V.b _ = V.b (ng v w) from rfl)) (hd 32 rfl) ?_; refine jo_l (ly_pick_t rfl rfl) (hd 33 rfl) ?_; refine jo_nil ?_
    refine jc_cond rfl (fun h2 => ?_) (fun h2 => ?_)
    · have hf : (zs (ng v w) (v.natAbs / w.natAbs)) - 1 = flo v w := flo_2 h2 hr0
      refine jc_draw (n := 4) _ rfl mixed ?_; refine ja_l 0 (lo_l (ly_lda agg35 rfl rfl rfl rfl) (hd 34 rfl)) rfl (by kernel_rfl) (by kernel_rfl) (by kernel_rfl) (fun _ _ _ _ h => h) ?_
      refine ja_1 1 ?_ rfl (by kernel_rfl)
      refine js_call Try.f26 (ZInt_s 1 (by unfold inI; omega)) rfl Try.func26 rfl rfl (ovL_cons rfl ovL_nil) (.cons .i .nil) (hd 35 rfl) ?_ (fun ch hp => by simp at hp)
      rintro y hy; injection hy with hy; subst hy
      refine ja_1 2 ?_ rfl (by kernel_rfl)
      refine js_call Try.f25 (ZSub_s _ 1 (by omega) (by omega)) rfl Try.func25 rfl rfl (ovL_cons rfl (ovL_cons rfl ovL_nil)) (.cons (.a1 .b (.a1 .n .a0)) (.cons (.a1 .b (.a1 .n .a0)) .nil)) (hd 36 rfl) ?_ (fun ch hp => by simp at hp)
      rintro y hy; injection hy with hy; subst hy
      refine ja_1 3 ?_ rfl (by kernel_rfl)
      refine js_st (sy_store rfl rfl rfl siz35 rfl rfl (Nat.le_of_ble_eq_true rfl)) rfl ?_; refine ja_nil (by kernel_rfl) ?_; refine jc_seq ?_; refine jc_draw (n := 8) _ rfl mixed ?_; refine ja_l 0 (lo_l (ly_lda agg35 rfl rfl rfl rfl) (hd 37 rfl)) rfl (by kernel_rfl) (by kernel_rfl) (by kernel_rfl) (fun _ _ _ _ h => h) ?_; refine ja_l2 1 [5, 6, 7] (lo_l (ly_lda agg35 rfl rfl rfl rfl) (hd 38 rfl)) rfl (by kernel_rfl) (by kernel_rfl) (by kernel_rfl) (by kernel_rfl) (fun _ _ _ _ h => h) ?_; refine ja_l2 2 [4, 5, 6, 7] (lo_l (ly_lda agg35 rfl rfl rfl rfl) (hd 39 rfl)) rfl (by kernel_rfl) (by kernel_rfl) (by kernel_rfl) (by kernel_rfl) (fun _ _ _ _ h => h) ?_; refine ja_l2 3 [4, 5, 6, 7] (lo_l (ly_lda agg35 rfl rfl rfl rfl) (hd 40 rfl)) rfl (by kernel_rfl) (by kernel_rfl) (by kernel_rfl) (by kernel_rfl) (fun _ _ _ _ h => h) ?_
      refine ja_1 4 ?_ rfl (by kernel_rfl)
      refine js_call Try.f21 (ZMul_s _ w (by omega) (by omega)) rfl Try.func21 rfl rfl (ovL_cons rfl (ovL_cons rfl ovL_nil)) (.cons (.a1 .b (.a1 .n .a0)) (.cons (.a1 .b (.a1 .n .a0)) .nil)) (hd 41 rfl) ?_ (fun ch hp => by simp at hp)
      rintro y hy; injection hy with hy; subst hy
      refine ja_1 5 ?_ rfl (by kernel_rfl)
      refine js_call Try.f25 (ZSub_s v _ (by omega) (by omega)) rfl Try.func25 rfl rfl (ovL_cons rfl (ovL_cons rfl ovL_nil)) (.cons (.a1 .b (.a1 .n .a0)) (.cons (.a1 .b (.a1 .n .a0)) .nil)) (hd 42 rfl) ?_ (fun ch hp => by simp at hp)
      rintro y hy; injection hy with hy; subst hy
      refine ja_1 6 ?_ rfl (by kernel_rfl)
      refine js_st (sy_store rfl rfl rfl siz35 rfl rfl (Nat.le_of_ble_eq_true rfl)) rfl ?_
      refine ja_1 7 ?_ rfl (by kernel_rfl)
      refine js_st (sy_store rfl rfl rfl siz35 rfl rfl (Nat.le_of_ble_eq_true rfl)) rfl ?_; refine ja_nil (by kernel_rfl) ?_; refine jc_ret ?_
      refine ⟨_, _, (.cons (ResV.cell agg35 rfl rfl rfl rfl) (.cons (ResV.cell agg35 rfl rfl rfl rfl) .nil)), (.t1 (.a1 .b (.a1 .n .a0)) (.t1 (.a1 .b (.a1 .n .a0)) .t0)), ?_⟩
      rw [hf]
    · have hf : (zs (ng v w) (v.natAbs / w.natAbs)) = flo v w := flo_1 (.inl h2)
      refine jc_skip ?_; refine jc_seq ?_; refine jc_draw (n := 8) _ rfl mixed ?_; refine ja_l 0 (lo_l (ly_lda agg35 rfl rfl rfl rfl) (hd 37 rfl)) rfl (by kernel_rfl) (by kernel_rfl) (by kernel_rfl) (fun _ _ _ _ h => h) ?_; refine ja_l2 1 [5, 6, 7] (lo_l (ly_lda agg35 rfl rfl rfl rfl) (hd 38 rfl)) rfl (by kernel_rfl) (by kernel_rfl) (by kernel_rfl) (by kernel_rfl) (fun _ _ _ _ h => h) ?_; refine ja_l2 2 [4, 5, 6, 7] (lo_l (ly_lda agg35 rfl rfl rfl rfl) (hd 39 rfl)) rfl (by kernel_rfl) (by kernel_rfl) (by kernel_rfl) (by kernel_rfl) (fun _ _ _ _ h => h) ?_; refine ja_l2 3 [4, 5, 6, 7] (lo_l (ly_lda agg35 rfl rfl rfl rfl) (hd 40 rfl)) rfl (by kernel_rfl) (by kernel_rfl) (by kernel_rfl) (by kernel_rfl) (fun _ _ _ _ h => h) ?_
      refine ja_1 4 ?_ rfl (by kernel_rfl)
      refine js_call Try.f21 (ZMul_s _ w (by omega) (by omega)) rfl Try.func21 rfl rfl (ovL_cons rfl (ovL_cons rfl ovL_nil)) (.cons (.a1 .b (.a1 .n .a0)) (.cons (.a1 .b (.a1 .n .a0)) .nil)) (hd 41 rfl) ?_ (fun ch hp => by simp at hp)
      rintro y hy; injection hy with hy; subst hy
      refine ja_1 5 ?_ rfl (by kernel_rfl)
      refine js_call Try.f25 (ZSub_s v _ (by omega) (by omega)) rfl Try.func25 rfl rfl (ovL_cons rfl (ovL_cons rfl ovL_nil)) (.cons (.a1 .b (.a1 .n .a0)) (.cons (.a1 .b (.a1 .n .a0)) .nil)) (hd 42 rfl) ?_ (fun ch hp => by simp at hp)
      rintro y hy; injection hy with hy; subst hy
      refine ja_1 6 ?_ rfl (by kernel_rfl)
      refine js_st (sy_store rfl rfl rfl siz35 rfl rfl (Nat.le_of_ble_eq_true rfl)) rfl ?_
      refine ja_1 7 ?_ rfl (by kernel_rfl)
      refine js_st (sy_store rfl rfl rfl siz35 rfl rfl (Nat.le_of_ble_eq_true rfl)) rfl ?_; refine ja_nil (by kernel_rfl) ?_; refine jc_ret ?_
      refine ⟨_, _, (.cons (ResV.cell agg35 rfl rfl rfl rfl) (.cons (ResV.cell agg35 rfl rfl rfl rfl) .nil)), (.t1 (.a1 .b (.a1 .n .a0)) (.t1 (.a1 .b (.a1 .n .a0)) .t0)), ?_⟩
      rw [hf]
  · have hr0 : v.natAbs % w.natAbs = 0 := digs_len0.1 (Decidable.byContradiction fun hn => by rw [decide_eq_false hn] at h1; exact absurd h1 (by decide))
    refine jo_s 27 rfl rfl rfl (hd 28 rfl) ?_; refine jo_s 27 rfl rfl rfl (hd 29 rfl) ?_; refine jo_s 27 rfl rfl rfl (hd 30 rfl) ?_; refine jo_s 27 rfl rfl rfl (hd 31 rfl) ?_; refine jo_s 27 rfl rfl rfl (hd 32 rfl) ?_; refine jo_l (ly_pick_f rfl rfl) (hd 33 rfl) ?_; refine jo_nil ?_; refine jc_litf rfl ?_; refine jc_skip ?_; refine jc_seq ?_; refine jc_draw (n := 8) _ rfl mixed ?_; refine ja_l 0 (lo_l (ly_lda agg35 rfl rfl rfl rfl) (hd 37 rfl)) rfl (by kernel_rfl) (by kernel_rfl) (by kernel_rfl) (fun _ _ _ _ h => h) ?_; refine ja_l2 1 [5, 6, 7] (lo_l (ly_lda agg35 rfl rfl rfl rfl) (hd 38 rfl)) rfl (by kernel_rfl) (by kernel_rfl) (by kernel_rfl) (by kernel_rfl) (fun _ _ _ _ h => h) ?_; refine ja_l2 2 [4, 5, 6, 7] (lo_l (ly_lda agg35 rfl rfl rfl rfl) (hd 39 rfl)) rfl (by kernel_rfl) (by kernel_rfl) (by kernel_rfl) (by kernel_rfl) (fun _ _ _ _ h => h) ?_; refine ja_l2 3 [4, 5, 6, 7] (lo_l (ly_lda agg35 rfl rfl rfl rfl) (hd 40 rfl)) rfl (by kernel_rfl) (by kernel_rfl) (by kernel_rfl) (by kernel_rfl) (fun _ _ _ _ h => h) ?_
    refine ja_1 4 ?_ rfl (by kernel_rfl)
    refine js_call Try.f21 (ZMul_s _ w (by omega) (by omega)) rfl Try.func21 rfl rfl (ovL_cons rfl (ovL_cons rfl ovL_nil)) (.cons (.a1 .b (.a1 .n .a0)) (.cons (.a1 .b (.a1 .n .a0)) .nil)) (hd 41 rfl) ?_ (fun ch hp => by simp at hp)
    rintro y hy; injection hy with hy; subst hy
    refine ja_1 5 ?_ rfl (by kernel_rfl)
    refine js_call Try.f25 (ZSub_s v _ (by omega) (by omega)) rfl Try.func25 rfl rfl (ovL_cons rfl (ovL_cons rfl ovL_nil)) (.cons (.a1 .b (.a1 .n .a0)) (.cons (.a1 .b (.a1 .n .a0)) .nil)) (hd 42 rfl) ?_ (fun ch hp => by simp at hp)
    rintro y hy; injection hy with hy; subst hy
    refine ja_1 6 ?_ rfl (by kernel_rfl)
    refine js_st (sy_store rfl rfl rfl siz35 rfl rfl (Nat.le_of_ble_eq_true rfl)) rfl ?_
    refine ja_1 7 ?_ rfl (by kernel_rfl)
    refine js_st (sy_store rfl rfl rfl siz35 rfl rfl (Nat.le_of_ble_eq_true rfl)) rfl ?_; refine ja_nil (by kernel_rfl) ?_; refine jc_ret ?_
    refine ⟨_, _, (.cons (ResV.cell agg35 rfl rfl rfl rfl) (.cons (ResV.cell agg35 rfl rfl rfl rfl) .nil)), (.t1 (.a1 .b (.a1 .n .a0)) (.t1 (.a1 .b (.a1 .n .a0)) .t0)), ?_⟩
    rw [flo_1 (.inr hr0)]

end Go.Proofs.Ythocbnfkjlgclaa.Vc

/- Two numbers with a sign, and more, that are handed in. -/
namespace Go.Proofs.Ythocbnfkjlgclaa.Vc
open Go Go.RowKit
theorem short2b {H : Type} {d0 d1 : DataW H} {r : List (DataW H)} {l0 l1 : List Int} (hk : Rows.uptoSmall H (d0 :: d1 :: r) = true) (h0 : l0.length + 2 ≤ Rows.uptoBulk d0) (h1 : l1.length + 2 ≤ Rows.uptoBulk d1) : l0.length + l1.length ≤ 1048572 := by
  have h : Rows.uptoBulkAll (d0 :: d1 :: r) ≤ 1048576 := of_decide_eq_true hk
  simp only [Rows.uptoBulkAll] at h
  omega
end Go.Proofs.Ythocbnfkjlgclaa.Vc

/- Contracts of whole.Mul, Sub, Add by values, answers frozen. -/
namespace Go.Proofs.Ythocbnfkjlgclaa.Vc
open Go Go.RowKit
set_option maxHeartbeats 4000000 in
theorem fits_l (s : Bool) (l : List Int) (v : Int) (hl : l.length < 1099511627776) (hu : u64s l) (hv : sv s l = v) : Spec Try.prog 78 [.a [.b s, .n false .u64 l]] (fun o => ∃ (s2 : Bool) (r : List Int) (e : Int), o = .ret (.t [.a [.b s2, .n true .u64 r], .i .i64 e]) ∧ Res (v) s2 r e) := by
  refine spec_of' [(0, .a [.b s, .n false .u64 l])] rfl Try.func78 rfl (Nat.le_of_ble_eq_true rfl) fun Γ hN hds hL hR => ?_
  have hd : ∀ d, Nat.blt d 11 = true → d < Γ.N := fun d h => by rw [hN]; exact Nat.le_of_ble_eq_true h
  refine jc_seq ?_; refine jc_region ?_; refine jo_h (hy_box (id := 0) (n := 2) rfl rfl rfl (by decide) rfl) (hd 1 rfl) ?_; refine jo_h (hy_alloc (id := 1) zero30 (by decide) rfl (by decide) rfl) (hd 2 rfl) ?_; refine jo_l (ly_as rfl) (hd 3 rfl) ?_; refine jo_nil ?_; refine jc_seq ?_; refine jc_seq ?_; refine jc_region ?_; refine jo_l (ly_fa fld30_1 rfl rfl rfl) (hd 4 rfl) ?_; refine jo_l (ly_ld one28 rfl rfl rfl) (hd 5 rfl) ?_
  refine jo_call Try.f54 (Length_s l hl hu) rfl Try.func54 rfl rfl (ovL_cons rfl ovL_nil) (.cons .n .nil) (hd 6 rfl) ?_ (fun ch hp => by simp at hp)
  rintro y hy; injection hy with hy; subst hy; refine jo_l (ly_gt rfl rfl) (hd 7 rfl) ?_; refine jo_nil ?_
  refine jc_if rfl (fun h1 => ?_) (fun h1 => ?_)
  · refine jc_seq ?_; refine jc_region ?_; refine jo_l (ly_build (is := []) (xs := []) (pls := []) zero30 pls30_ rfl ovL_nil rfl trivial (all_of rfl) rfl) (hd 8 rfl) ?_; refine jo_st (sy_store rfl rfl rfl siz30 rfl rfl (Nat.le_of_ble_eq_true rfl)) ?_; refine jo_l (ly_as rfl) (hd 3 rfl) ?_; refine jo_nil ?_; refine jc_ret ?_
    refine ⟨_, _, (.cons (ResV.cell agg30 rfl rfl rfl rfl) (.cons rfl .nil)), (.t1 (.a1 .b (.a1 (.nil (fr := true) (k := .u64)) .a0)) (.t1 .i .t0)), ?_⟩
    exact ⟨false, [], 3, rfl, res_big hu hv (by omega)⟩
  · refine jc_skip ?_; refine jc_seq ?_; refine jc_region ?_; refine jo_l (ly_lda agg30 rfl rfl rfl rfl) (hd 9 rfl) ?_
    refine jo_call Try.f53 (norm_s s l hl) rfl Try.func53 rfl rfl (ovL_cons rfl ovL_nil) (.cons (.a1 .b (.a1 .n .a0)) .nil) (hd 10 rfl) ?_ (fun ch hp => by simp at hp)
    rintro y hy; injection hy with hy; subst hy; refine jo_st (sy_store rfl rfl rfl siz30 rfl rfl (Nat.le_of_ble_eq_true rfl)) ?_; refine jo_l (ly_as rfl) (hd 3 rfl) ?_; refine jo_nil ?_; refine jc_ret ?_
    refine ⟨_, _, (.cons (ResV.cell agg30 rfl rfl rfl rfl) (.cons rfl .nil)), (.t1 (.a1 .b (.a1 .n .a0)) (.t1 .i .t0)), ?_⟩
    exact ⟨_, _, 0, rfl, res_ok hu hv (by omega)⟩

set_option maxHeartbeats 4000000 in
theorem result_l (s : Bool) (l : List Int) (e v : Int) (hRs : ResN v s l e) : Spec Try.prog 50 [.b s, .n false .u64 l, .i .i64 e] (fun o => ∃ (s2 : Bool) (r : List Int) (e : Int), o = .ret (.t [.a [.b s2, .n true .u64 r], .i .i64 e]) ∧ Res (v) s2 r e) := by
  refine spec_of' [(0, .b s), (1, .n false .u64 l), (2, .i .i64 e)] rfl Try.func50 rfl (Nat.le_of_ble_eq_true rfl) fun Γ hN hds hL hR => ?_
  have hd : ∀ d, Nat.blt d 18 = true → d < Γ.N := fun d h => by rw [hN]; exact Nat.le_of_ble_eq_true h
  refine jc_seq ?_; refine jc_region ?_; refine jo_h (hy_alloc (id := 0) zero30 (by decide) rfl (by decide) rfl) (hd 6 rfl) ?_; refine jo_l (ly_as rfl) (hd 7 rfl) ?_; refine jo_nil ?_; refine jc_seq ?_; refine jc_seq ?_; refine jc_region ?_; refine jo_l (ly_mv rfl) (hd 8 rfl) ?_; refine jo_l (ly_ne rfl rfl) (hd 9 rfl) ?_; refine jo_nil ?_
  refine jc_if rfl (fun h1 => ?_) (fun h1 => ?_)
  · have hE : e = 3 ∧ 67108864 < lenV v := by
      rcases hRs with ⟨h, _⟩ | h
      · omega
      · exact h
    refine jc_seq ?_; refine jc_region ?_; refine jo_l (ly_build (is := []) (xs := []) (pls := []) zero30 pls30_ rfl ovL_nil rfl trivial (all_of rfl) rfl) (hd 10 rfl) ?_; refine jo_l (ly_mv rfl) (hd 11 rfl) ?_; refine jo_st (sy_store rfl rfl rfl siz30 rfl rfl (Nat.le_of_ble_eq_true rfl)) ?_; refine jo_l (ly_as rfl) (hd 7 rfl) ?_; refine jo_nil ?_; refine jc_ret ?_
    refine ⟨_, _, (.cons (ResV.cell agg30 rfl rfl rfl rfl) (.cons rfl .nil)), (.t1 (.a1 .b (.a1 (.nil (fr := true) (k := .u64)) .a0)) (.t1 .i .t0)), ?_⟩
    exact ⟨false, [], e, rfl, .inr ⟨hE.2, rfl, rfl, hE.1⟩⟩
  · have hE : u64s l ∧ l.length < 1099511627776 ∧ sv s l = v := by
      rcases hRs with ⟨_, h⟩ | ⟨h, _⟩
      · exact h
      · omega
    refine jc_skip ?_; refine jc_seq ?_; refine jc_region ?_; refine jo_l (ly_mv rfl) (hd 12 rfl) ?_; refine jo_l (ly_mv rfl) (hd 13 rfl) ?_; refine jo_l (ly_build (is := [0, 1]) (xs := [.tmp 12, .tmp 13]) zero30 pls30_0_1 rfl (ovL_cons rfl (ovL_cons rfl ovL_nil)) rfl (by first | (simp [plsOk, cellsV]; done) | (simp [plsOk, cellsV, old]; done)) (all_of rfl) rfl) (hd 14 rfl) ?_
    refine jo_call Try.f78 (fits_l s l v hE.2.1 hE.1 hE.2.2) rfl Try.func78 rfl rfl (ovL_cons rfl ovL_nil) (.cons (.a1 .b (.a1 .n .a0)) .nil) (hd 15 rfl) ?_ (fun ch hp => by simp at hp)
    rintro y ⟨sf, rf, ef, hy, hf⟩; injection hy with hy; subst hy; refine jo_l (ly_ext rfl rfl) (hd 16 rfl) ?_; refine jo_l (ly_ext rfl rfl) (hd 17 rfl) ?_; refine jo_st (sy_store rfl rfl rfl siz30 rfl rfl (Nat.le_of_ble_eq_true rfl)) ?_; refine jo_l (ly_as rfl) (hd 7 rfl) ?_; refine jo_nil ?_; refine jc_ret ?_
    refine ⟨_, _, (.cons (ResV.cell agg30 rfl rfl rfl rfl) (.cons rfl .nil)), (.t1 (.a1 .b (.a1 .n .a0)) (.t1 .i .t0)), ?_⟩
    exact ⟨sf, rf, ef, rfl, hf⟩

set_option maxHeartbeats 4000000 in
theorem WMul_l (s t : Bool) (a b : List Int) (hla : a.length < 4294967296) (hlb : b.length < 4294967296) (ua : u64s a) (ub : u64s b) : Spec Try.prog 36 [.a [.b s, .n false .u64 a], .a [.b t, .n false .u64 b]] (fun o => ∃ (s2 : Bool) (r : List Int) (e : Int), o = .ret (.t [.a [.b s2, .n true .u64 r], .i .i64 e]) ∧ Res (sv s a * sv t b) s2 r e) := by
  refine spec_of' [(0, .a [.b s, .n false .u64 a]), (1, .a [.b t, .n false .u64 b])] rfl Try.func36 rfl (Nat.le_of_ble_eq_true rfl) fun Γ hN hds hL hR => ?_
  have hd : ∀ d, Nat.blt d 26 = true → d < Γ.N := fun d h => by rw [hN]; exact Nat.le_of_ble_eq_true h
  have ha0 := vl_nonneg ua
  have hb0 := vl_nonneg ub
  refine jc_seq ?_; refine jc_region ?_; refine jo_h (hy_box (id := 0) (n := 2) rfl rfl rfl (by decide) rfl) (hd 2 rfl) ?_; refine jo_h (hy_box (id := 1) (n := 2) rfl rfl rfl (by decide) rfl) (hd 3 rfl) ?_; refine jo_h (hy_alloc (id := 2) zero30 (by decide) rfl (by decide) rfl) (hd 4 rfl) ?_; refine jo_l (ly_as rfl) (hd 5 rfl) ?_; refine jo_nil ?_; refine jc_seq ?_; refine jc_region ?_; refine jo_l (ly_fa fld30_1 rfl rfl rfl) (hd 9 rfl) ?_; refine jo_l (ly_ld one28 rfl rfl rfl) (hd 10 rfl) ?_; refine jo_l (ly_fa fld30_1 rfl rfl rfl) (hd 11 rfl) ?_; refine jo_l (ly_ld one28 rfl rfl rfl) (hd 12 rfl) ?_
  refine jo_call Try.f77 (MulN_e a b hla hlb ua ub) rfl Try.func77 rfl rfl (ovL_cons rfl (ovL_cons rfl ovL_nil)) (.cons .n (.cons .n .nil)) (hd 13 rfl) ?_ (fun ch hp => by simp at hp)
  rintro y ⟨rp, ep, hy, hp⟩; injection hy with hy; subst hy; refine jo_l (ly_mv rfl) (hd 8 rfl) ?_; refine jo_l (ly_ext rfl rfl) (hd 14 rfl) ?_; refine jo_l (ly_ext rfl rfl) (hd 15 rfl) ?_; refine jo_l (ly_as rfl) (hd 6 rfl) ?_; refine jo_l (ly_as rfl) (hd 7 rfl) ?_; refine jo_nil ?_; refine jc_seq ?_; refine jc_region ?_; refine jo_l (ly_fa fld30_0 rfl rfl rfl) (hd 16 rfl) ?_; refine jo_l (ly_ld one4 rfl rfl rfl) (hd 17 rfl) ?_; refine jo_l (ly_fa fld30_0 rfl rfl rfl) (hd 18 rfl) ?_; refine jo_l (ly_ld one4 rfl rfl rfl) (hd 19 rfl) ?_; refine jo_l (ly_neb und4 rfl rfl) (hd 20 rfl) ?_; refine jo_l (ly_mv rfl) (hd 21 rfl) ?_; refine jo_l (ly_mv rfl) (hd 22 rfl) ?_
  refine jo_call Try.f50 (result_l (!(s == t)) rp ep (sv s a * sv t b) (resN_of hp (Int.mul_nonneg ha0 hb0) (fun q uq hq => sv_mul hq))) rfl Try.func50 rfl rfl (ovL_cons rfl (ovL_cons rfl (ovL_cons rfl ovL_nil))) (.cons .b (.cons .n (.cons .i .nil))) (hd 23 rfl) ?_ (fun ch hp => by simp at hp)
  rintro y ⟨sr, rr, er, hy, hr⟩; injection hy with hy; subst hy; refine jo_l (ly_ext rfl rfl) (hd 24 rfl) ?_; refine jo_l (ly_ext rfl rfl) (hd 25 rfl) ?_; refine jo_st (sy_store rfl rfl rfl siz30 rfl rfl (Nat.le_of_ble_eq_true rfl)) ?_; refine jo_l (ly_as rfl) (hd 5 rfl) ?_; refine jo_nil ?_; refine jc_ret ?_
  refine ⟨_, _, (.cons (ResV.cell agg30 rfl rfl rfl rfl) (.cons rfl .nil)), (.t1 (.a1 .b (.a1 .n .a0)) (.t1 .i .t0)), ?_⟩
  exact ⟨sr, rr, er, rfl, hr⟩

set_option maxHeartbeats 4000000 in
theorem WAdd_l (s t : Bool) (a b : List Int) (hla : a.length < 4294967296) (hlb : b.length < 4294967296) (ua : u64s a) (ub : u64s b) : Spec Try.prog 35 [.a [.b s, .n false .u64 a], .a [.b t, .n false .u64 b]] (fun o => ∃ (s2 : Bool) (r : List Int) (e : Int), o = .ret (.t [.a [.b s2, .n true .u64 r], .i .i64 e]) ∧ Res (sv s a + sv t b) s2 r e) := by
  refine spec_of' [(0, .a [.b s, .n false .u64 a]), (1, .a [.b t, .n false .u64 b])] rfl Try.func35 rfl (Nat.le_of_ble_eq_true rfl) fun Γ hN hds hL hR => ?_
  have hd : ∀ d, Nat.blt d 57 = true → d < Γ.N := fun d h => by rw [hN]; exact Nat.le_of_ble_eq_true h
  have hma := trm_len a
  have hmb := trm_len b
  have hcv := cmpL_val (u64s_trm ua) (u64s_trm ub)
  rw [trm_trm, trm_trm] at hcv
  have ea1 := sv_norm (s := s) ua
  have eb1 := sv_norm (s := t) ub
  have ha0 := vl_nonneg (u64s_trm ua)
  have hb0 := vl_nonneg (u64s_trm ub)
  refine jc_seq ?_; refine jc_region ?_; refine jo_h (hy_box (id := 0) (n := 2) rfl rfl rfl (by decide) rfl) (hd 2 rfl) ?_; refine jo_h (hy_box (id := 1) (n := 2) rfl rfl rfl (by decide) rfl) (hd 3 rfl) ?_; refine jo_h (hy_alloc (id := 2) zero30 (by decide) rfl (by decide) rfl) (hd 4 rfl) ?_; refine jo_l (ly_as rfl) (hd 5 rfl) ?_; refine jo_nil ?_; refine jc_seq ?_; refine jc_draw (n := 6) _ rfl mixed ?_; refine ja_l2 0 [1, 3, 4, 5] (lo_l (ly_lda agg30 rfl rfl rfl rfl) (hd 10 rfl)) rfl (by kernel_rfl) (by kernel_rfl) (by kernel_rfl) (by kernel_rfl) (fun _ _ _ _ h => h) ?_; refine ja_l2 2 [3, 4, 5] (lo_l (ly_lda agg30 rfl rfl rfl rfl) (hd 12 rfl)) rfl (by kernel_rfl) (by kernel_rfl) (by kernel_rfl) (by kernel_rfl) (fun _ _ _ _ h => h) ?_
  refine ja_1 1 ?_ rfl (by kernel_rfl)
  refine js_call Try.f53 (norm_s s a (by omega)) rfl Try.func53 rfl rfl (ovL_cons rfl ovL_nil) (.cons (.a1 .b (.a1 .n .a0)) .nil) (hd 11 rfl) ?_ (fun ch hp => by simp at hp)
  rintro y hy; injection hy with hy; subst hy
  refine ja_1 3 ?_ rfl (by kernel_rfl)
  refine js_call Try.f53 (norm_s t b (by omega)) rfl Try.func53 rfl rfl (ovL_cons rfl ovL_nil) (.cons (.a1 .b (.a1 .n .a0)) .nil) (hd 13 rfl) ?_ (fun ch hp => by simp at hp)
  rintro y hy; injection hy with hy; subst hy
  refine ja_1 4 ?_ rfl (by kernel_rfl)
  refine js_st (sy_store rfl rfl rfl siz30 rfl rfl (Nat.le_of_ble_eq_true rfl)) rfl ?_
  refine ja_1 5 ?_ rfl (by kernel_rfl)
  refine js_st (sy_store rfl rfl rfl siz30 rfl rfl (Nat.le_of_ble_eq_true rfl)) rfl ?_; refine ja_nil (by kernel_rfl) ?_; refine jc_seq ?_; refine jc_seq ?_; refine jc_region ?_; refine jo_l (ly_fa fld30_0 rfl rfl rfl) (hd 14 rfl) ?_; refine jo_l (ly_ld one4 rfl rfl rfl) (hd 15 rfl) ?_; refine jo_l (ly_fa fld30_0 rfl rfl rfl) (hd 16 rfl) ?_; refine jo_l (ly_ld one4 rfl rfl rfl) (hd 17 rfl) ?_; refine jo_l (ly_eqb und4 rfl rfl) (hd 18 rfl) ?_; refine jo_nil ?_
  refine jc_cond rfl (fun h1 => ?_) (fun h1 => ?_)
  · refine jc_seq ?_; refine jc_region ?_; refine jo_l (ly_fa fld30_1 rfl rfl rfl) (hd 20 rfl) ?_; refine jo_l (ly_ld one28 rfl rfl rfl) (hd 21 rfl) ?_; refine jo_l (ly_fa fld30_1 rfl rfl rfl) (hd 22 rfl) ?_; refine jo_l (ly_ld one28 rfl rfl rfl) (hd 23 rfl) ?_
    refine jo_call Try.f74 (AddN_e (trm a) (trm b) (by omega) (by omega) (u64s_trm ua) (u64s_trm ub)) rfl Try.func74 rfl rfl (ovL_cons rfl (ovL_cons rfl ovL_nil)) (.cons .n (.cons .n .nil)) (hd 24 rfl) ?_ (fun ch hp => by simp at hp)
    rintro y ⟨ra, ea, hy, ha⟩; injection hy with hy; subst hy; refine jo_l (ly_mv rfl) (hd 19 rfl) ?_; refine jo_l (ly_ext rfl rfl) (hd 25 rfl) ?_; refine jo_l (ly_ext rfl rfl) (hd 26 rfl) ?_; refine jo_l (ly_as rfl) (hd 6 rfl) ?_; refine jo_l (ly_as rfl) (hd 7 rfl) ?_; refine jo_nil ?_; refine jc_seq ?_; refine jc_region ?_; refine jo_l (ly_fa fld30_0 rfl rfl rfl) (hd 27 rfl) ?_; refine jo_l (ly_ld one4 rfl rfl rfl) (hd 28 rfl) ?_; refine jo_l (ly_mv rfl) (hd 29 rfl) ?_; refine jo_l (ly_mv rfl) (hd 30 rfl) ?_
    refine jo_call Try.f50 (result_l (s && decide (0 < ((trm a).length : Int))) ra ea (sv s a + sv t b) (resN_of ha (by omega) (fun q uq hq => add_val (by assumption) hq ea1 eb1))) rfl Try.func50 rfl rfl (ovL_cons rfl (ovL_cons rfl (ovL_cons rfl ovL_nil))) (.cons .b (.cons .n (.cons .i .nil))) (hd 31 rfl) ?_ (fun ch hp => by simp at hp)
    rintro y ⟨sr, rr, er, hy, hr⟩; injection hy with hy; subst hy; refine jo_l (ly_ext rfl rfl) (hd 32 rfl) ?_; refine jo_l (ly_ext rfl rfl) (hd 33 rfl) ?_; refine jo_st (sy_store rfl rfl rfl siz30 rfl rfl (Nat.le_of_ble_eq_true rfl)) ?_; refine jo_l (ly_as rfl) (hd 5 rfl) ?_; refine jo_nil ?_; refine jc_ret ?_
    refine ⟨_, _, (.cons (ResV.cell agg30 rfl rfl rfl rfl) (.cons rfl .nil)), (.t1 (.a1 .b (.a1 .n .a0)) (.t1 .i .t0)), ?_⟩
    exact ⟨sr, rr, er, rfl, hr⟩
  · refine jc_skip ?_; refine jc_seq ?_; refine jc_seq ?_; refine jc_region ?_; refine jo_l (ly_fa fld30_1 rfl rfl rfl) (hd 34 rfl) ?_; refine jo_l (ly_ld one28 rfl rfl rfl) (hd 35 rfl) ?_; refine jo_l (ly_fa fld30_1 rfl rfl rfl) (hd 36 rfl) ?_; refine jo_l (ly_ld one28 rfl rfl rfl) (hd 37 rfl) ?_
    refine jo_call Try.f75 (Compare_s (trm a) (trm b) (by omega) (by omega)) rfl Try.func75 rfl rfl (ovL_cons rfl (ovL_cons rfl ovL_nil)) (.cons .n (.cons .n .nil)) (hd 38 rfl) ?_ (fun ch hp => by simp at hp)
    rintro y hy; injection hy with hy; subst hy; refine jo_l (ly_lt rfl rfl) (hd 39 rfl) ?_; refine jo_nil ?_
    refine jc_if rfl (fun h2 => ?_) (fun h2 => ?_)
    · rw [trm_trm, trm_trm] at h2
      refine jc_region ?_; refine jo_l (ly_lda agg30 rfl rfl rfl rfl) (hd 40 rfl) ?_; refine jo_l (ly_lda agg30 rfl rfl rfl rfl) (hd 41 rfl) ?_; refine jo_st (sy_store rfl rfl rfl siz30 rfl rfl (Nat.le_of_ble_eq_true rfl)) ?_; refine jo_st (sy_store rfl rfl rfl siz30 rfl rfl (Nat.le_of_ble_eq_true rfl)) ?_; refine jo_nil ?_; refine jc_seq ?_; refine jc_region ?_; refine jo_l (ly_fa fld30_1 rfl rfl rfl) (hd 43 rfl) ?_; refine jo_l (ly_ld one28 rfl rfl rfl) (hd 44 rfl) ?_; refine jo_l (ly_fa fld30_1 rfl rfl rfl) (hd 45 rfl) ?_; refine jo_l (ly_ld one28 rfl rfl rfl) (hd 46 rfl) ?_
      refine jo_call Try.f76 (SubN_e (trm b) (trm a) (by omega) (by omega) (u64s_trm ub) (u64s_trm ua) (by rcases hcv with ⟨c, v⟩ | ⟨c, v⟩ | ⟨c, v⟩ <;> omega)) rfl Try.func76 rfl rfl (ovL_cons rfl (ovL_cons rfl ovL_nil)) (.cons .n (.cons .n .nil)) (hd 47 rfl) ?_ (fun ch hp => by simp at hp)
      rintro y ⟨ra, ea, hy, ha⟩; injection hy with hy; subst hy; refine jo_l (ly_mv rfl) (hd 42 rfl) ?_; refine jo_l (ly_ext rfl rfl) (hd 48 rfl) ?_; refine jo_l (ly_ext rfl rfl) (hd 49 rfl) ?_; refine jo_l (ly_as rfl) (hd 8 rfl) ?_; refine jo_l (ly_as rfl) (hd 9 rfl) ?_; refine jo_nil ?_; refine jc_seq ?_; refine jc_region ?_; refine jo_l (ly_fa fld30_0 rfl rfl rfl) (hd 50 rfl) ?_; refine jo_l (ly_ld one4 rfl rfl rfl) (hd 51 rfl) ?_; refine jo_l (ly_mv rfl) (hd 52 rfl) ?_; refine jo_l (ly_mv rfl) (hd 53 rfl) ?_
      refine jo_call Try.f50 (result_l (t && decide (0 < ((trm b).length : Int))) ra ea (sv s a + sv t b) (resN_of ha (by rcases hcv with ⟨c, v⟩ | ⟨c, v⟩ | ⟨c, v⟩ <;> omega) (fun q uq hq => (sub_val (by rw [Bool.beq_comm]; assumption) hq eb1 ea1).trans (Int.add_comm _ _)))) rfl Try.func50 rfl rfl (ovL_cons rfl (ovL_cons rfl (ovL_cons rfl ovL_nil))) (.cons .b (.cons .n (.cons .i .nil))) (hd 54 rfl) ?_ (fun ch hp => by simp at hp)
      rintro y ⟨sr, rr, er, hy, hr⟩; injection hy with hy; subst hy; refine jo_l (ly_ext rfl rfl) (hd 55 rfl) ?_; refine jo_l (ly_ext rfl rfl) (hd 56 rfl) ?_; refine jo_st (sy_store rfl rfl rfl siz30 rfl rfl (Nat.le_of_ble_eq_true rfl)) ?_; refine jo_l (ly_as rfl) (hd 5 rfl) ?_; refine jo_nil ?_; refine jc_ret ?_
      refine ⟨_, _, (.cons (ResV.cell agg30 rfl rfl rfl rfl) (.cons rfl .nil)), (.t1 (.a1 .b (.a1 .n .a0)) (.t1 .i .t0)), ?_⟩
      exact ⟨sr, rr, er, rfl, hr⟩
    · rw [trm_trm, trm_trm] at h2
      refine jc_skip ?_; refine jc_seq ?_; refine jc_region ?_; refine jo_l (ly_fa fld30_1 rfl rfl rfl) (hd 43 rfl) ?_; refine jo_l (ly_ld one28 rfl rfl rfl) (hd 44 rfl) ?_; refine jo_l (ly_fa fld30_1 rfl rfl rfl) (hd 45 rfl) ?_; refine jo_l (ly_ld one28 rfl rfl rfl) (hd 46 rfl) ?_
      refine jo_call Try.f76 (SubN_e (trm a) (trm b) (by omega) (by omega) (u64s_trm ua) (u64s_trm ub) (by rcases hcv with ⟨c, v⟩ | ⟨c, v⟩ | ⟨c, v⟩ <;> omega)) rfl Try.func76 rfl rfl (ovL_cons rfl (ovL_cons rfl ovL_nil)) (.cons .n (.cons .n .nil)) (hd 47 rfl) ?_ (fun ch hp => by simp at hp)
      rintro y ⟨ra, ea, hy, ha⟩; injection hy with hy; subst hy; refine jo_l (ly_mv rfl) (hd 42 rfl) ?_; refine jo_l (ly_ext rfl rfl) (hd 48 rfl) ?_; refine jo_l (ly_ext rfl rfl) (hd 49 rfl) ?_; refine jo_l (ly_as rfl) (hd 8 rfl) ?_; refine jo_l (ly_as rfl) (hd 9 rfl) ?_; refine jo_nil ?_; refine jc_seq ?_; refine jc_region ?_; refine jo_l (ly_fa fld30_0 rfl rfl rfl) (hd 50 rfl) ?_; refine jo_l (ly_ld one4 rfl rfl rfl) (hd 51 rfl) ?_; refine jo_l (ly_mv rfl) (hd 52 rfl) ?_; refine jo_l (ly_mv rfl) (hd 53 rfl) ?_
      refine jo_call Try.f50 (result_l (s && decide (0 < ((trm a).length : Int))) ra ea (sv s a + sv t b) (resN_of ha (by rcases hcv with ⟨c, v⟩ | ⟨c, v⟩ | ⟨c, v⟩ <;> omega) (fun q uq hq => sub_val (by assumption) hq ea1 eb1))) rfl Try.func50 rfl rfl (ovL_cons rfl (ovL_cons rfl (ovL_cons rfl ovL_nil))) (.cons .b (.cons .n (.cons .i .nil))) (hd 54 rfl) ?_ (fun ch hp => by simp at hp)
      rintro y ⟨sr, rr, er, hy, hr⟩; injection hy with hy; subst hy; refine jo_l (ly_ext rfl rfl) (hd 55 rfl) ?_; refine jo_l (ly_ext rfl rfl) (hd 56 rfl) ?_; refine jo_st (sy_store rfl rfl rfl siz30 rfl rfl (Nat.le_of_ble_eq_true rfl)) ?_; refine jo_l (ly_as rfl) (hd 5 rfl) ?_; refine jo_nil ?_; refine jc_ret ?_
      refine ⟨_, _, (.cons (ResV.cell agg30 rfl rfl rfl rfl) (.cons rfl .nil)), (.t1 (.a1 .b (.a1 .n .a0)) (.t1 .i .t0)), ?_⟩
      exact ⟨sr, rr, er, rfl, hr⟩

set_option maxHeartbeats 4000000 in
theorem WSub_l (s t : Bool) (a b : List Int) (hla : a.length < 4294967296) (hlb : b.length < 4294967296) (ua : u64s a) (ub : u64s b) : Spec Try.prog 60 [.a [.b s, .n false .u64 a], .a [.b t, .n false .u64 b]] (fun o => ∃ (s2 : Bool) (r : List Int) (e : Int), o = .ret (.t [.a [.b s2, .n true .u64 r], .i .i64 e]) ∧ Res (sv s a - sv t b) s2 r e) := by
  refine spec_of' [(0, .a [.b s, .n false .u64 a]), (1, .a [.b t, .n false .u64 b])] rfl Try.func60 rfl (Nat.le_of_ble_eq_true rfl) fun Γ hN hds hL hR => ?_
  have hd : ∀ d, Nat.blt d 12 = true → d < Γ.N := fun d h => by rw [hN]; exact Nat.le_of_ble_eq_true h
  have hmb := trm_len b
  have hx : ∀ (x : Int), x + sv (!t && decide (0 < ((trm b).length : Int))) (trm b) = x - sv t b := fun x => by rw [sv_norm ub, sv_neg]; omega
  refine jc_seq ?_; refine jc_region ?_; refine jo_h (hy_box (id := 0) (n := 2) rfl rfl rfl (by decide) rfl) (hd 2 rfl) ?_; refine jo_h (hy_box (id := 1) (n := 2) rfl rfl rfl (by decide) rfl) (hd 3 rfl) ?_; refine jo_h (hy_alloc (id := 2) zero30 (by decide) rfl (by decide) rfl) (hd 4 rfl) ?_; refine jo_l (ly_as rfl) (hd 5 rfl) ?_; refine jo_nil ?_; refine jc_seq ?_; refine jc_draw (n := 8) _ rfl mixed ?_; refine ja_l2 0 [3, 4, 5, 6, 7] (lo_l (ly_lda agg30 rfl rfl rfl rfl) (hd 6 rfl)) rfl (by kernel_rfl) (by kernel_rfl) (by kernel_rfl) (by kernel_rfl) (fun _ _ _ _ h => h) ?_; refine ja_l2 1 [2, 3, 4, 5, 6, 7] (lo_l (ly_lda agg30 rfl rfl rfl rfl) (hd 7 rfl)) rfl (by kernel_rfl) (by kernel_rfl) (by kernel_rfl) (by kernel_rfl) (fun _ _ _ _ h => h) ?_
  refine ja_1 2 ?_ rfl (by kernel_rfl)
  refine js_call Try.f89 (flip_s t b (by omega) ub) rfl Try.func89 rfl rfl (ovL_cons rfl ovL_nil) (.cons (.a1 .b (.a1 .n .a0)) .nil) (hd 8 rfl) ?_ (fun ch hp => by simp at hp)
  rintro y hy; injection hy with hy; subst hy
  refine ja_1 3 ?_ rfl (by kernel_rfl)
  refine js_call Try.f35 (WAdd_l s (!t && decide (0 < ((trm b).length : Int))) a (trm b) (by omega) (by omega) ua (u64s_trm ub)) rfl Try.func35 rfl rfl (ovL_cons rfl (ovL_cons rfl ovL_nil)) (.cons (.a1 .b (.a1 .n .a0)) (.cons (.a1 .b (.a1 .n .a0)) .nil)) (hd 9 rfl) ?_ (fun ch hp => by simp at hp)
  rintro y ⟨sr, rr, er, hy, hr⟩; injection hy with hy; subst hy; refine ja_l 4 (lo_l (ly_ext rfl rfl) (hd 10 rfl)) rfl (by kernel_rfl) (by kernel_rfl) (by kernel_rfl) (fun _ _ _ _ h => h) ?_; refine ja_l 5 (lo_l (ly_ext rfl rfl) (hd 11 rfl)) rfl (by kernel_rfl) (by kernel_rfl) (by kernel_rfl) (fun _ _ _ _ h => h) ?_
  refine ja_1 6 ?_ rfl (by kernel_rfl)
  refine js_st (sy_store rfl rfl rfl siz30 rfl rfl (Nat.le_of_ble_eq_true rfl)) rfl ?_; refine ja_l 7 (lo_l (ly_as rfl) (hd 5 rfl)) rfl (by kernel_rfl) (by kernel_rfl) (by kernel_rfl) (fun _ _ _ _ h => h) ?_; refine ja_nil (by kernel_rfl) ?_; refine jc_ret ?_
  refine ⟨_, _, (.cons (ResV.cell agg30 rfl rfl rfl rfl) (.cons rfl .nil)), (.t1 (.a1 .b (.a1 .n .a0)) (.t1 .i .t0)), ?_⟩
  exact ⟨sr, rr, er, rfl, by rw [hx] at hr; exact hr⟩

theorem WMul_v (v w : Int) (hv : (lm v).length < 4294967296) (hw : (lm w).length < 4294967296) (h : lenV (v * w) ≤ 67108864) : Spec Try.prog 36 [.a [.b (decide (v < 0)), .n false .u64 (lm v)], .a [.b (decide (w < 0)), .n false .u64 (lm w)]] (fun o => o = .ret (.t [.a [.b (decide ((v * w) < 0)), .n true .u64 (lm (v * w))], .i .i64 0])) :=
  (WMul_l (decide (v < 0)) (decide (w < 0)) (lm v) (lm w) hv hw (lm_u v) (lm_u w)).mono fun o ⟨s2, r, e, ho, hR⟩ => by
    rw [sv_lm, sv_lm] at hR
    rcases hR with ⟨_, h1, h2, h3⟩ | ⟨hb, _⟩
    · subst h1; subst h2; subst h3; exact ho
    · omega

theorem WSub_v (v w : Int) (hv : (lm v).length < 4294967296) (hw : (lm w).length < 4294967296) (h : lenV (v - w) ≤ 67108864) : Spec Try.prog 60 [.a [.b (decide (v < 0)), .n false .u64 (lm v)], .a [.b (decide (w < 0)), .n false .u64 (lm w)]] (fun o => o = .ret (.t [.a [.b (decide ((v - w) < 0)), .n true .u64 (lm (v - w))], .i .i64 0])) :=
  (WSub_l (decide (v < 0)) (decide (w < 0)) (lm v) (lm w) hv hw (lm_u v) (lm_u w)).mono fun o ⟨s2, r, e, ho, hR⟩ => by
    rw [sv_lm, sv_lm] at hR
    rcases hR with ⟨_, h1, h2, h3⟩ | ⟨hb, _⟩
    · subst h1; subst h2; subst h3; exact ho
    · omega

end Go.Proofs.Ythocbnfkjlgclaa.Vc

/- Contracts of whole.Of, flip, Sign by values. -/
namespace Go.Proofs.Ythocbnfkjlgclaa.Vc
open Go Go.RowKit
set_option maxHeartbeats 4000000 in
theorem Of_0  : Spec Try.prog 9 [.i .i64 0] (fun o => o = .ret (.a [.b false, .n true .u64 []])) := by
  refine spec_of' [(0, .i .i64 0)] rfl Try.func9 rfl (Nat.le_of_ble_eq_true rfl) fun Γ hN hds hL hR => ?_
  have hd : ∀ d, Nat.blt d 14 = true → d < Γ.N := fun d h => by rw [hN]; exact Nat.le_of_ble_eq_true h
  have rF : Spec Try.prog 47 [.i .u64 0] (fun o => o = .ret (.n true .u64 [])) := by have h := From_s 0; rwa [if_pos rfl] at h
  refine jc_seq ?_; refine jc_region ?_; refine jo_h (hy_alloc (id := 0) zero30 (by decide) rfl (by decide) rfl) (hd 2 rfl) ?_; refine jo_nil ?_; refine jc_seq ?_; refine jc_seq ?_; refine jc_region ?_; refine jo_l (ly_mv rfl) (hd 3 rfl) ?_; refine jo_l (ly_ff (ly_lt rfl rfl) (by decide)) (hd 4 rfl) ?_; refine jo_nil ?_; refine jc_litf rfl ?_; refine jc_skip ?_; refine jc_seq ?_; refine jc_region ?_; refine jo_l (ly_mv rfl) (hd 10 rfl) ?_; refine jo_l (ly_conv und3 und82 rfl (r := 0) rfl) (hd 11 rfl) ?_
  refine jo_call Try.f47 (rF) rfl Try.func47 rfl rfl (ovL_cons rfl ovL_nil) (.cons .i .nil) (hd 12 rfl) ?_ (fun ch hp => by simp at hp)
  rintro y hy; injection hy with hy; subst hy; refine jo_l (ly_build (is := [1]) (xs := [.tmp 12]) zero30 pls30_1 rfl (ovL_cons rfl ovL_nil) rfl (by first | (simp [plsOk, cellsV]; done) | (simp [plsOk, cellsV, old]; done)) (all_of rfl) rfl) (hd 13 rfl) ?_; refine jo_st (sy_store rfl rfl rfl siz30 rfl rfl (Nat.le_of_ble_eq_true rfl)) ?_; refine jo_nil ?_; refine jc_ret ?_
  refine ⟨_, _, (.cons (ResV.cell agg30 rfl rfl rfl rfl) .nil), (.a1 .b (.a1 .n .a0)), ?_⟩
  exact rfl

theorem Of_v (v : Int) (h : inI v) : Spec Try.prog 9 [.i .i64 v] (fun o => o = .ret (.a [.b (decide (v < 0)), .n true .u64 (lm v)])) := by
  have e := of_lm h
  obtain ⟨h1, h2⟩ := h
  rw [e]
  unfold fl
  rcases Int.lt_trichotomy v 0 with hv | hv | hv
  · rw [decide_eq_true hv, if_neg (by omega), show ((v.natAbs : Nat) : Int) = -v by omega]
    exact Of_neg v hv h1
  · subst hv
    exact Of_0
  · rw [decide_eq_false (by omega), if_neg (by omega), show ((v.natAbs : Nat) : Int) = v by omega]
    exact Of_pos v hv h2
theorem flip_v (v : Int) (hl : (lm v).length < 4294967296) : Spec Try.prog 89 [.a [.b (decide (v < 0)), .n false .u64 (lm v)]] (fun o => o = .ret (.a [.b (decide ((-v) < 0)), .n true .u64 (lm (-v))])) := by
  have h := flip_s (decide (v < 0)) (lm v) (by omega) (lm_u v)
  have e := raw_res (s := !decide (v < 0)) (l := lm v) (v := -v) (lm_u v) (by rw [sv_neg, sv_lm])
  rw [e.1, e.2.1] at h
  exact h
theorem WSign_v' (v : Int) (hl : (lm v).length < 4294967296) : Spec Try.prog 56 [.a [.b (decide (v < 0)), .n false .u64 (lm v)]] (fun o => o = .ret (.i .i64 (sgnI v))) := by
  have h := WSign_s (decide (v < 0)) (lm v) hl (lm_u v)
  rwa [sv_lm] at h
end Go.Proofs.Ythocbnfkjlgclaa.Vc
