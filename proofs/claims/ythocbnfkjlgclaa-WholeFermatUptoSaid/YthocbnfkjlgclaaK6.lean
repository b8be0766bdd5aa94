/- For primes up to 1000 the p-th power leaves the number its own rest, of every input of bulk at most 1048576 Texts joined: Ym, Za, Zb, Zc, Zd. -/
import Derived.Test.YthocbnfkjlgclaaK5
/- Contracts of whole.divide, Quo, Floor, Ceil, Near, Euclid. -/
set_option linter.unusedVariables false
set_option linter.unusedSimpArgs false
namespace Go.Proofs.Ythocbnfkjlgclaa.Vc
open Go Go.RowKit
set_option maxHeartbeats 4000000 in
theorem divide_z4 (s t : Bool) (a b : List Int) (v w : Int) (la : a.length < 1099511627776) (lb : b.length < 1099511627776) (ua : u64s a) (ub : u64s b) (ev : sv s a = v) (ew : sv t b = w) (hv : lenV v ≤ 67108864) (hw : lenV w ≤ 67108864) (h0 : w ≠ 0) : Spec Try.prog 51 [.a [.b s, .n false .u64 a], .a [.b t, .n false .u64 b], .i .i64 4] (fun o => o = .ret (.t [.a [.b (decide ((wq 4 v w) < 0)), .n true .u64 (lm (wq 4 v w))], .a [.b (decide ((v - wq 4 v w * w) < 0)), .n true .u64 (lm (v - wq 4 v w * w))], .i .i64 0])) := by
  refine spec_of' [(0, .a [.b s, .n false .u64 a]), (1, .a [.b t, .n false .u64 b]), (2, .i .i64 4)] rfl Try.func51 rfl (Nat.le_of_ble_eq_true rfl) fun Γ hN hds hL hR => ?_
  have hd : ∀ d, Nat.blt d 103 = true → d < Γ.N := fun d h => by rw [hN]; exact Nat.le_of_ble_eq_true h
  have hlv := lenV_lm hv
  have hlw := lenV_lm hw
  obtain ⟨hx, hr0, hr1, hq0⟩ := qr_facts (v := v) h0
  have hle := lenV_mono (v := qn v w) (w := v) qn_le
  have hlr := lenV_mono (v := rn v w) (w := w) (rn_le h0).1
  have hlR := lenV_lm (v := rn v w) (by omega)
  have habs : lm (w.natAbs : Int) = lm w := by unfold lm; rw [Int.natAbs_natCast]
  have hlenw : lenV (w.natAbs : Int) = lenV w := by unfold lenV; rw [Int.natAbs_natCast]
  have hS := Sub_v (w.natAbs : Int) (rn v w) hr0 (by omega) (by omega)
  rw [habs] at hS
  have hwl := wq_len (k := 4) (v := v) h0
  refine jc_seq ?_
  refine jc_region ?_
  refine jo_h (hy_box (id := 0) (n := 2) rfl rfl rfl (by decide) rfl) (hd 3 rfl) ?_
  refine jo_h (hy_box (id := 1) (n := 2) rfl rfl rfl (by decide) rfl) (hd 4 rfl) ?_
  refine jo_h (hy_alloc (id := 2) zero30 (by decide) rfl (by decide) rfl) (hd 6 rfl) ?_
  refine jo_h (hy_alloc (id := 3) zero30 (by decide) rfl (by decide) rfl) (hd 7 rfl) ?_
  refine jo_l (ly_as rfl) (hd 8 rfl) ?_
  refine jo_nil ?_
  refine jc_seq ?_
  refine jc_draw (n := 6) _ rfl mixed ?_
  refine ja_l2 0 [1, 3, 4, 5] (lo_l (ly_lda agg30 rfl rfl rfl rfl) (hd 16 rfl)) rfl (by kernel_rfl) (by kernel_rfl) (by kernel_rfl) (by kernel_rfl) (fun _ _ _ _ h => h) ?_
  refine ja_l2 2 [3, 4, 5] (lo_l (ly_lda agg30 rfl rfl rfl rfl) (hd 18 rfl)) rfl (by kernel_rfl) (by kernel_rfl) (by kernel_rfl) (by kernel_rfl) (fun _ _ _ _ h => h) ?_
  refine ja_1 1 ?_ rfl (by kernel_rfl)
  refine js_call Try.f53 (norm_v s a v la ua ev) rfl Try.func53 rfl rfl (ovL_cons rfl ovL_nil) (.cons (.a1 .b (.a1 .n .a0)) .nil) (hd 17 rfl) ?_ (fun ch hp => by simp at hp)
  rintro y hy; injection hy with hy; subst hy
  refine ja_1 3 ?_ rfl (by kernel_rfl)
  refine js_call Try.f53 (norm_v t b w lb ub ew) rfl Try.func53 rfl rfl (ovL_cons rfl ovL_nil) (.cons (.a1 .b (.a1 .n .a0)) .nil) (hd 19 rfl) ?_ (fun ch hp => by simp at hp)
  rintro y hy; injection hy with hy; subst hy
  refine ja_1 4 ?_ rfl (by kernel_rfl)
  refine js_st (sy_store rfl rfl rfl siz30 rfl rfl (Nat.le_of_ble_eq_true rfl)) rfl ?_
  refine ja_1 5 ?_ rfl (by kernel_rfl)
  refine js_st (sy_store rfl rfl rfl siz30 rfl rfl (Nat.le_of_ble_eq_true rfl)) rfl ?_
  refine ja_nil (by kernel_rfl) ?_
  refine jc_seq ?_
  refine jc_region ?_
  refine jo_l (ly_fa fld30_1 rfl rfl rfl) (hd 21 rfl) ?_
  refine jo_l (ly_ld one28 rfl rfl rfl) (hd 22 rfl) ?_
  refine jo_l (ly_fa fld30_1 rfl rfl rfl) (hd 23 rfl) ?_
  refine jo_l (ly_ld one28 rfl rfl rfl) (hd 24 rfl) ?_
  refine jo_call Try.f86 (Both_v v w hv hw h0) rfl Try.func86 rfl rfl (ovL_cons rfl (ovL_cons rfl ovL_nil)) (.cons .n (.cons .n .nil)) (hd 25 rfl) ?_ (fun ch hp => by simp at hp)
  rintro y hy; injection hy with hy; subst hy
  refine jo_l (ly_mv rfl) (hd 20 rfl) ?_
  refine jo_l (ly_ext rfl rfl) (hd 26 rfl) ?_
  refine jo_l (ly_ext rfl rfl) (hd 27 rfl) ?_
  refine jo_l (ly_ext rfl rfl) (hd 28 rfl) ?_
  refine jo_l (ly_as rfl) (hd 9 rfl) ?_
  refine jo_l (ly_as rfl) (hd 10 rfl) ?_
  refine jo_l (ly_as rfl) (hd 11 rfl) ?_
  refine jo_nil ?_
  refine jc_seq ?_
  refine jc_seq ?_
  refine jc_region ?_
  refine jo_l (ly_mv rfl) (hd 29 rfl) ?_
  refine jo_l (ly_ff (ly_ne rfl rfl) (by simp)) (hd 30 rfl) ?_
  refine jo_nil ?_
  refine jc_litf rfl ?_
  refine jc_skip ?_
  refine jc_seq ?_
  refine jc_draw (n := 9) _ rfl mixed ?_
  refine ja_l2 0 [1, 4, 7, 8] (lo_l (ly_fa fld30_0 rfl rfl rfl) (hd 34 rfl)) rfl (by kernel_rfl) (by kernel_rfl) (by kernel_rfl) (by kernel_rfl) (fun _ _ _ _ h => h) ?_
  refine ja_l 1 (lo_l (ly_ld one4 rfl rfl rfl) (hd 35 rfl)) rfl (by kernel_rfl) (by kernel_rfl) (by kernel_rfl) (fun _ _ _ _ h => h) ?_
  refine ja_l2 2 [3, 4, 7, 8] (lo_l (ly_fa fld30_0 rfl rfl rfl) (hd 36 rfl)) rfl (by kernel_rfl) (by kernel_rfl) (by kernel_rfl) (by kernel_rfl) (fun _ _ _ _ h => h) ?_
  refine ja_l 3 (lo_l (ly_ld one4 rfl rfl rfl) (hd 37 rfl)) rfl (by kernel_rfl) (by kernel_rfl) (by kernel_rfl) (fun _ _ _ _ h => h) ?_
  refine ja_l 4 (lo_l (ly_is (ly_neb und4 rfl rfl) (show V.b _ = V.b (ng v w) from rfl)) (hd 38 rfl)) rfl (by kernel_rfl) (by kernel_rfl) (by kernel_rfl) (fun _ _ _ _ h => h) ?_
  refine ja_l 5 (lo_l (ly_fa fld30_0 rfl rfl rfl) (hd 39 rfl)) rfl (by kernel_rfl) (by kernel_rfl) (by kernel_rfl) (fun _ _ _ _ h => h) ?_
  refine ja_l 6 (lo_l (ly_ld one4 rfl rfl rfl) (hd 40 rfl)) rfl (by kernel_rfl) (by kernel_rfl) (by kernel_rfl) (fun _ _ _ _ h => h) ?_
  refine ja_l 7 (lo_l (ly_as rfl) (hd 12 rfl)) rfl (by kernel_rfl) (by kernel_rfl) (by kernel_rfl) (fun _ _ _ _ h => h) ?_
  refine ja_l 8 (lo_l (ly_as rfl) (hd 13 rfl)) rfl (by kernel_rfl) (by kernel_rfl) (by kernel_rfl) (fun _ _ _ _ h => h) ?_
  refine ja_nil (by kernel_rfl) ?_
  refine jc_meetH (G := Int × Int × Bool) (fun g => sgd (ng v w) g.1 = (wq 4 v w) ∧ sgd g.2.2 g.2.1 = (v - wq 4 v w * w) ∧ 0 ≤ g.1 ∧ 0 ≤ g.2.1) (fun g => [(9, .n false .u64 (lm g.1)), (10, .n false .u64 (lm g.2.1)), (13, .b g.2.2), (8, .u), (11, .u), (41, .u), (42, .u), (43, .u), (44, .u), (45, .u), (46, .u), (47, .u), (48, .u), (49, .u), (50, .u), (51, .u), (52, .u), (53, .u), (54, .u), (55, .u), (56, .u), (57, .u), (58, .u), (59, .u), (60, .u), (61, .u), (62, .u), (63, .u), (64, .u), (65, .u), (66, .u), (67, .u), (68, .u), (69, .u), (70, .u), (71, .u), (72, .u), (73, .u), (74, .u), (75, .u), (76, .u), (77, .u), (78, .u)]) ?_ ?_
  · refine jc_seq ?_
    refine jc_draw (n := 18) _ rfl mixed ?_
    refine ja_l2 0 [1, 2, 3, 4, 5, 6, 7, 8, 9, 10, 11, 12, 13, 14, 15, 16, 17] (lo_l (ly_mv rfl) (hd 41 rfl)) rfl (by kernel_rfl) (by kernel_rfl) (by kernel_rfl) (by kernel_rfl) (fun _ _ _ _ h => h) ?_
    refine ja_1 1 ?_ rfl (by kernel_rfl)
    refine js_call Try.f54 (Length_v (rn v w) (by omega)) rfl Try.func54 rfl rfl (ovL_cons rfl ovL_nil) (.cons .n .nil) (hd 42 rfl) ?_ (fun ch hp => by simp at hp)
    rintro y hy; injection hy with hy; subst hy
    refine ja_l2 2 [3, 4, 5, 6, 7, 8, 9, 10, 11, 12, 13, 14, 15, 16, 17] (lo_l (ly_gt rfl rfl) (hd 43 rfl)) rfl (by kernel_rfl) (by kernel_rfl) (by kernel_rfl) (by kernel_rfl) (fun _ _ _ _ h => h) ?_
    refine ja_l 3 (lo_l (ly_mv rfl) (hd 44 rfl)) rfl (by kernel_rfl) (by kernel_rfl) (by kernel_rfl) (fun _ _ _ _ h => h) ?_
    refine ja_ifp 44 rfl (fun h2 => ?_) (fun h2 => ?_)
    · have hrn : rn v w ≠ 0 := fun e => by have := lenV_0.2 e; omega
      refine ja_l2 5 [6, 16, 17] (lo_g 44 rfl rfl (ly_mv rfl) (hd 46 rfl)) rfl (by kernel_rfl) (by kernel_rfl) (by kernel_rfl) (by kernel_rfl) (fun _ _ _ _ h => h) ?_
      refine ja_l2 7 [16, 17] (lo_g 44 rfl rfl (ly_mv rfl) (hd 48 rfl)) rfl (by kernel_rfl) (by kernel_rfl) (by kernel_rfl) (by kernel_rfl) (fun _ _ _ _ h => h) ?_
      refine ja_l2 8 [16, 17] (lo_g 44 rfl rfl (ly_mv rfl) (hd 49 rfl)) rfl (by kernel_rfl) (by kernel_rfl) (by kernel_rfl) (by kernel_rfl) (fun _ _ _ _ h => h) ?_
      refine ja_l2 9 [10, 16, 17] (lo_g 44 rfl rfl (ly_fa fld30_1 rfl rfl rfl) (hd 50 rfl)) rfl (by kernel_rfl) (by kernel_rfl) (by kernel_rfl) (by kernel_rfl) (fun _ _ _ _ h => h) ?_
      refine ja_l2 10 [16, 17] (lo_g 44 rfl rfl (ly_ld one28 rfl rfl rfl) (hd 51 rfl)) rfl (by kernel_rfl) (by kernel_rfl) (by kernel_rfl) (by kernel_rfl) (fun _ _ _ _ h => h) ?_
      refine ja_l2 11 [16, 17] (lo_g 44 rfl rfl (ly_mv rfl) (hd 52 rfl)) rfl (by kernel_rfl) (by kernel_rfl) (by kernel_rfl) (by kernel_rfl) (fun _ _ _ _ h => h) ?_
      refine ja_l2 12 [13, 16, 17] (lo_g 44 rfl rfl (ly_fa fld30_0 rfl rfl rfl) (hd 53 rfl)) rfl (by kernel_rfl) (by kernel_rfl) (by kernel_rfl) (by kernel_rfl) (fun _ _ _ _ h => h) ?_
      refine ja_l2 13 [16, 17] (lo_g 44 rfl rfl (ly_ld one4 rfl rfl rfl) (hd 54 rfl)) rfl (by kernel_rfl) (by kernel_rfl) (by kernel_rfl) (by kernel_rfl) (fun _ _ _ _ h => h) ?_
      refine ja_l2 14 [15, 16, 17] (lo_g 44 rfl rfl (ly_fa fld30_0 rfl rfl rfl) (hd 55 rfl)) rfl (by kernel_rfl) (by kernel_rfl) (by kernel_rfl) (by kernel_rfl) (fun _ _ _ _ h => h) ?_
      refine ja_l2 15 [16, 17] (lo_g 44 rfl rfl (ly_ld one4 rfl rfl rfl) (hd 56 rfl)) rfl (by kernel_rfl) (by kernel_rfl) (by kernel_rfl) (by kernel_rfl) (fun _ _ _ _ h => h) ?_
      refine ja_1 4 ?_ rfl (by kernel_rfl)
      refine js_callg Try.f87 44 rfl rfl (ways_s) rfl Try.func87 rfl rfl ovL_nil .nil (hd 45 rfl) ?_ (fun ch hp => by simp at hp)
      rintro y hy; injection hy with hy; subst hy
      refine ja_l2 6 [16, 17] (lo_g 44 rfl rfl (ly_ixa (i := 4) undA102 one101 rfl rfl rfl (by decide) rfl) (hd 47 rfl)) rfl (by kernel_rfl) (by kernel_rfl) (by kernel_rfl) (by kernel_rfl) (fun _ _ _ _ h => h) ?_
      refine ja_1 16 ?_ rfl (by kernel_rfl)
      refine js_callg Try.f113 44 rfl rfl (way4_v v w) rfl Try.func113 rfl rfl (ovL_cons rfl (ovL_cons rfl (ovL_cons rfl (ovL_cons rfl (ovL_cons rfl (ovL_cons rfl ovL_nil)))))) (.cons .n (.cons .n (.cons .n (.cons .b (.cons .b (.cons .b .nil)))))) (hd 57 rfl) ?_ (fun ch hp => by simp at hp)
      rintro y hy; injection hy with hy; subst hy
      refine ja_l 17 (lo_l (ly_pick_t rfl rfl) (hd 58 rfl)) rfl (by kernel_rfl) (by kernel_rfl) (by kernel_rfl) (fun _ _ _ _ h => h) ?_
      refine ja_nil (by kernel_rfl) ?_
      refine jc_cond rfl (fun h3 => ?_) (fun h3 => ?_)
      · have hg : gro 4 v w = true := h3
        refine jc_seq ?_
        refine jc_seq ?_
        refine jc_region ?_
        refine jo_l (ly_mv rfl) (hd 60 rfl) ?_
        refine jo_call Try.f47 (From1_v) rfl Try.func47 rfl rfl (ovL_cons rfl ovL_nil) (.cons .i .nil) (hd 61 rfl) ?_ (fun ch hp => by simp at hp)
        rintro y hy; injection hy with hy; subst hy
        refine jo_call Try.f74 (Add1_v (qn v w) hq0 (by have := lenV_mono (qn1_le h0 hrn); omega)) rfl Try.func74 rfl rfl (ovL_cons rfl (ovL_cons rfl ovL_nil)) (.cons .n (.cons .n .nil)) (hd 62 rfl) ?_ (fun ch hp => by simp at hp)
        rintro y hy; injection hy with hy; subst hy
        refine jo_l (ly_mv rfl) (hd 59 rfl) ?_
        refine jo_l (ly_ext rfl rfl) (hd 63 rfl) ?_
        refine jo_l (ly_ext rfl rfl) (hd 64 rfl) ?_
        refine jo_l (ly_as rfl) (hd 9 rfl) ?_
        refine jo_l (ly_as rfl) (hd 11 rfl) ?_
        refine jo_nil ?_
        refine jc_seq ?_
        refine jc_region ?_
        refine jo_l (ly_mv rfl) (hd 65 rfl) ?_
        refine jo_l (ly_ff (ly_ne rfl rfl) (by simp)) (hd 66 rfl) ?_
        refine jo_nil ?_
        refine jc_litf rfl ?_
        refine jc_skip ?_
        refine jc_seq ?_
        refine jc_region ?_
        refine jo_l (ly_fa fld30_1 rfl rfl rfl) (hd 71 rfl) ?_
        refine jo_l (ly_ld one28 rfl rfl rfl) (hd 72 rfl) ?_
        refine jo_l (ly_mv rfl) (hd 73 rfl) ?_
        refine jo_call Try.f76 (hS) rfl Try.func76 rfl rfl (ovL_cons rfl (ovL_cons rfl ovL_nil)) (.cons .n (.cons .n .nil)) (hd 74 rfl) ?_ (fun ch hp => by simp at hp)
        rintro y hy; injection hy with hy; subst hy
        refine jo_l (ly_mv rfl) (hd 70 rfl) ?_
        refine jo_l (ly_ext rfl rfl) (hd 75 rfl) ?_
        refine jo_l (ly_ext rfl rfl) (hd 76 rfl) ?_
        refine jo_l (ly_as rfl) (hd 10 rfl) ?_
        refine jo_nil ?_
        refine jc_region ?_
        refine jo_l (ly_mv rfl) (hd 77 rfl) ?_
        refine jo_l (ly_not rfl) (hd 78 rfl) ?_
        refine jo_l (ly_as rfl) (hd 13 rfl) ?_
        refine jo_nil ?_
        refine ⟨(qn v w + 1, (w.natAbs : Int) - rn v w, !decide (v < 0)), ?_, rfl, cov_n 40 rfl rfl ?_⟩
        · have hy := way_yes (k := 4) h0 hrn hg
          exact ⟨hy.1, hy.2, by show 0 ≤ qn v w + 1; omega, by show 0 ≤ (w.natAbs : Int) - rn v w; omega⟩
        · exact (.cons rfl (.cons rfl (.cons rfl (.u (.u (.u (.u (.u (.u (.u (.u (.u (.u (.u (.u (.u (.u (.u (.u (.u (.u (.u (.u (.u (.u (.u (.u (.u (.u (.u (.u (.u (.u (.u (.u (.u (.u (.u (.u (.u (.u (.u (.u .nil)))))))))))))))))))))))))))))))))))))))))))
      · have hg : gro 4 v w = false := h3
        refine jc_skip ?_
        refine ⟨(qn v w, rn v w, decide (v < 0)), ?_, rfl, cov_n 19 rfl rfl ?_⟩
        · have hy := way_no (k := 4) h0 (by first | exact .inl hrn | exact .inr hg)
          exact ⟨hy.1, hy.2, hq0, hr0⟩
        · exact (.cons rfl (.cons rfl (.cons rfl (.u (.u (.u (.u (.u (.u (.u (.u (.u (.u (.u (.u (.u (.u (.u (.u (.u (.u (.u (.u (.u (.u (.u (.u (.u (.u (.u (.u (.u (.u (.u (.u (.u (.u (.u (.u (.u (.u (.u (.u .nil)))))))))))))))))))))))))))))))))))))))))))
    · have hrn : rn v w = 0 := lenV_0.1 (by omega)
      refine ja_l2 5 [6, 16, 17] (lo_s 44 rfl rfl rfl (hd 46 rfl)) rfl (by kernel_rfl) (by kernel_rfl) (by kernel_rfl) (by kernel_rfl) (fun _ _ _ _ h => h) ?_
      refine ja_l2 7 [16, 17] (lo_s 44 rfl rfl rfl (hd 48 rfl)) rfl (by kernel_rfl) (by kernel_rfl) (by kernel_rfl) (by kernel_rfl) (fun _ _ _ _ h => h) ?_
      refine ja_l2 8 [16, 17] (lo_s 44 rfl rfl rfl (hd 49 rfl)) rfl (by kernel_rfl) (by kernel_rfl) (by kernel_rfl) (by kernel_rfl) (fun _ _ _ _ h => h) ?_
      refine ja_l2 9 [10, 16, 17] (lo_s 44 rfl rfl rfl (hd 50 rfl)) rfl (by kernel_rfl) (by kernel_rfl) (by kernel_rfl) (by kernel_rfl) (fun _ _ _ _ h => h) ?_
      refine ja_l2 10 [16, 17] (lo_s 44 rfl rfl rfl (hd 51 rfl)) rfl (by kernel_rfl) (by kernel_rfl) (by kernel_rfl) (by kernel_rfl) (fun _ _ _ _ h => h) ?_
      refine ja_l2 11 [16, 17] (lo_s 44 rfl rfl rfl (hd 52 rfl)) rfl (by kernel_rfl) (by kernel_rfl) (by kernel_rfl) (by kernel_rfl) (fun _ _ _ _ h => h) ?_
      refine ja_l2 12 [13, 16, 17] (lo_s 44 rfl rfl rfl (hd 53 rfl)) rfl (by kernel_rfl) (by kernel_rfl) (by kernel_rfl) (by kernel_rfl) (fun _ _ _ _ h => h) ?_
      refine ja_l2 13 [16, 17] (lo_s 44 rfl rfl rfl (hd 54 rfl)) rfl (by kernel_rfl) (by kernel_rfl) (by kernel_rfl) (by kernel_rfl) (fun _ _ _ _ h => h) ?_
      refine ja_l2 14 [15, 16, 17] (lo_s 44 rfl rfl rfl (hd 55 rfl)) rfl (by kernel_rfl) (by kernel_rfl) (by kernel_rfl) (by kernel_rfl) (fun _ _ _ _ h => h) ?_
      refine ja_l2 15 [16, 17] (lo_s 44 rfl rfl rfl (hd 56 rfl)) rfl (by kernel_rfl) (by kernel_rfl) (by kernel_rfl) (by kernel_rfl) (fun _ _ _ _ h => h) ?_
      refine ja_l2 4 [6, 16, 17] (lo_s 44 rfl rfl rfl (hd 45 rfl)) rfl (by kernel_rfl) (by kernel_rfl) (by kernel_rfl) (by kernel_rfl) (fun _ _ _ _ h => h) ?_
      refine ja_l2 6 [16, 17] (lo_s 44 rfl rfl rfl (hd 47 rfl)) rfl (by kernel_rfl) (by kernel_rfl) (by kernel_rfl) (by kernel_rfl) (fun _ _ _ _ h => h) ?_
      refine ja_l 16 (lo_s 44 rfl rfl rfl (hd 57 rfl)) rfl (by kernel_rfl) (by kernel_rfl) (by kernel_rfl) (fun _ _ _ _ h => h) ?_
      refine ja_l 17 (lo_l (ly_pick_f rfl rfl) (hd 58 rfl)) rfl (by kernel_rfl) (by kernel_rfl) (by kernel_rfl) (fun _ _ _ _ h => h) ?_
      refine ja_nil (by kernel_rfl) ?_
      refine jc_litf rfl ?_
      refine jc_skip ?_
      refine ⟨(qn v w, rn v w, decide (v < 0)), ?_, rfl, cov_n 19 rfl rfl ?_⟩
      · have hy := way_no (k := 4) h0 (by first | exact .inl hrn | exact .inr hg)
        exact ⟨hy.1, hy.2, hq0, hr0⟩
      · exact (.cons rfl (.cons rfl (.cons rfl (.u (.u (.u (.u (.u (.u (.u (.u (.u (.u (.u (.u (.u (.u (.u (.u (.u (.u (.u (.u (.u (.u (.u (.u (.u (.u (.u (.u (.u (.u (.u (.u (.u (.u (.u (.u (.u (.u (.u (.u .nil)))))))))))))))))))))))))))))))))))))))))))
  · rintro ⟨q, r, rs⟩ ⟨hc1, hc2, hc3, hc4⟩
    dsimp only at hc1 hc2 hc3 hc4
    have hq1 : lenV q ≤ 67108864 := by have := lenV_mono (v := q) (w := (wq 4 v w)) (by rw [← hc1, sgd_abs]; exact Nat.le_refl _); omega
    have hr2 : lenV r ≤ 67108864 := by have := lenV_mono (v := r) (w := (v - wq 4 v w * w)) (by rw [← hc2, sgd_abs]; exact Nat.le_refl _); omega
    have hql := lenV_lm hq1
    have hrl := lenV_lm hr2
    refine jc_seq ?_
    refine jc_region ?_
    refine jo_l (ly_mv rfl) (hd 80 rfl) ?_
    refine jo_l (ly_mv rfl) (hd 81 rfl) ?_
    refine jo_call Try.f50 (result_v (ng v w) (lm q) (wq 4 v w) (by omega) (lm_u q) (by rw [sv_sgd hc3]; exact hc1) (by omega)) rfl Try.func50 rfl rfl (ovL_cons rfl (ovL_cons rfl (ovL_cons rfl ovL_nil))) (.cons .b (.cons .n (.cons .i .nil))) (hd 82 rfl) ?_ (fun ch hp => by simp at hp)
    rintro y hy; injection hy with hy; subst hy
    refine jo_l (ly_mv rfl) (hd 79 rfl) ?_
    refine jo_l (ly_ext rfl rfl) (hd 83 rfl) ?_
    refine jo_l (ly_ext rfl rfl) (hd 84 rfl) ?_
    refine jo_h (hy_alloc (id := 4) zero30 (by decide) rfl (by decide) rfl) (hd 14 rfl) ?_
    refine jo_st (sy_store rfl rfl rfl siz30 rfl rfl (Nat.le_of_ble_eq_true rfl)) ?_
    refine jo_l (ly_as rfl) (hd 11 rfl) ?_
    refine jo_nil ?_
    refine jc_seq ?_
    refine jc_seq ?_
    refine jc_region ?_
    refine jo_l (ly_mv rfl) (hd 85 rfl) ?_
    refine jo_l (ly_ff (ly_ne rfl rfl) (by simp)) (hd 86 rfl) ?_
    refine jo_nil ?_
    refine jc_litf rfl ?_
    refine jc_skip ?_
    refine jc_seq ?_
    refine jc_region ?_
    refine jo_l (ly_mv rfl) (hd 91 rfl) ?_
    refine jo_l (ly_mv rfl) (hd 92 rfl) ?_
    refine jo_call Try.f50 (result_v rs (lm r) (v - wq 4 v w * w) (by omega) (lm_u r) (by rw [sv_sgd hc4]; exact hc2) (by omega)) rfl Try.func50 rfl rfl (ovL_cons rfl (ovL_cons rfl (ovL_cons rfl ovL_nil))) (.cons .b (.cons .n (.cons .i .nil))) (hd 93 rfl) ?_ (fun ch hp => by simp at hp)
    rintro y hy; injection hy with hy; subst hy
    refine jo_l (ly_mv rfl) (hd 90 rfl) ?_
    refine jo_l (ly_ext rfl rfl) (hd 94 rfl) ?_
    refine jo_l (ly_ext rfl rfl) (hd 95 rfl) ?_
    refine jo_h (hy_alloc (id := 5) zero30 (by decide) rfl (by decide) rfl) (hd 15 rfl) ?_
    refine jo_st (sy_store rfl rfl rfl siz30 rfl rfl (Nat.le_of_ble_eq_true rfl)) ?_
    refine jo_l (ly_as rfl) (hd 11 rfl) ?_
    refine jo_nil ?_
    refine jc_seq ?_
    refine jc_seq ?_
    refine jc_region ?_
    refine jo_l (ly_mv rfl) (hd 96 rfl) ?_
    refine jo_l (ly_ff (ly_ne rfl rfl) (by simp)) (hd 97 rfl) ?_
    refine jo_nil ?_
    refine jc_litf rfl ?_
    refine jc_skip ?_
    refine jc_seq ?_
    refine jc_draw (n := 5) _ rfl mixed ?_
    refine ja_l 0 (lo_l (ly_lda agg30 rfl rfl rfl rfl) (hd 101 rfl)) rfl (by kernel_rfl) (by kernel_rfl) (by kernel_rfl) (fun _ _ _ _ h => h) ?_
    refine ja_2 1 2 ?_ ?_ rfl rfl (by kernel_rfl)
    · refine js_l (ly_lda agg30 rfl rfl rfl rfl) (hd 102 rfl) ?_
      refine ja_1 2 ?_ rfl (by kernel_rfl)
      refine js_st (sy_store rfl rfl rfl siz30 rfl rfl (Nat.le_of_ble_eq_true rfl)) rfl ?_
      refine ja_1 3 ?_ rfl (by kernel_rfl)
      refine js_st (sy_store rfl rfl rfl siz30 rfl rfl (Nat.le_of_ble_eq_true rfl)) rfl ?_
      refine ja_l 4 (lo_l (ly_as rfl) (hd 8 rfl)) rfl (by kernel_rfl) (by kernel_rfl) (by kernel_rfl) (fun _ _ _ _ h => h) ?_
      refine ja_nil (by kernel_rfl) ?_
      refine jc_ret ?_
      refine ⟨_, _, (.cons (ResV.cell agg30 rfl rfl rfl rfl) (.cons (ResV.cell agg30 rfl rfl rfl rfl) (.cons rfl .nil))), (.t1 (.a1 .b (.a1 .n .a0)) (.t1 (.a1 .b (.a1 .n .a0)) (.t1 .i .t0))), ?_⟩
      exact rfl
    · refine js_st (sy_store rfl rfl rfl siz30 rfl rfl (Nat.le_of_ble_eq_true rfl)) rfl ?_
      refine ja_l 1 (lo_l (ly_lda agg30 rfl rfl rfl rfl) (hd 102 rfl)) rfl (by kernel_rfl) (by kernel_rfl) (by kernel_rfl) (fun _ _ _ _ h => h) ?_
      refine ja_1 3 ?_ rfl (by kernel_rfl)
      refine js_st (sy_store rfl rfl rfl siz30 rfl rfl (Nat.le_of_ble_eq_true rfl)) rfl ?_
      refine ja_l 4 (lo_l (ly_as rfl) (hd 8 rfl)) rfl (by kernel_rfl) (by kernel_rfl) (by kernel_rfl) (fun _ _ _ _ h => h) ?_
      refine ja_nil (by kernel_rfl) ?_
      refine jc_ret ?_
      refine ⟨_, _, (.cons (ResV.cell agg30 rfl rfl rfl rfl) (.cons (ResV.cell agg30 rfl rfl rfl rfl) (.cons rfl .nil))), (.t1 (.a1 .b (.a1 .n .a0)) (.t1 (.a1 .b (.a1 .n .a0)) (.t1 .i .t0))), ?_⟩
      exact rfl

set_option maxHeartbeats 4000000 in
theorem Euclid_z (s t : Bool) (a b : List Int) (v w : Int) (la : a.length < 1099511627776) (lb : b.length < 1099511627776) (ua : u64s a) (ub : u64s b) (ev : sv s a = v) (ew : sv t b = w) (hv : lenV v ≤ 67108864) (hw : lenV w ≤ 67108864) (h0 : w ≠ 0) : Spec Try.prog 12 [.a [.b s, .n false .u64 a], .a [.b t, .n false .u64 b]] (fun o => o = .ret (.t [.a [.b (decide ((wq 4 v w) < 0)), .n true .u64 (lm (wq 4 v w))], .a [.b (decide ((v - wq 4 v w * w) < 0)), .n true .u64 (lm (v - wq 4 v w * w))], .i .i64 0])) := by
  refine spec_of' [(0, .a [.b s, .n false .u64 a]), (1, .a [.b t, .n false .u64 b])] rfl Try.func12 rfl (Nat.le_of_ble_eq_true rfl) fun Γ hN hds hL hR => ?_
  have hd : ∀ d, Nat.blt d 13 = true → d < Γ.N := fun d h => by rw [hN]; exact Nat.le_of_ble_eq_true h
  refine jc_seq ?_
  refine jc_region ?_
  refine jo_h (hy_box (id := 0) (n := 2) rfl rfl rfl (by decide) rfl) (hd 2 rfl) ?_
  refine jo_h (hy_box (id := 1) (n := 2) rfl rfl rfl (by decide) rfl) (hd 3 rfl) ?_
  refine jo_h (hy_alloc (id := 2) zero30 (by decide) rfl (by decide) rfl) (hd 4 rfl) ?_
  refine jo_h (hy_alloc (id := 3) zero30 (by decide) rfl (by decide) rfl) (hd 5 rfl) ?_
  refine jo_l (ly_as rfl) (hd 6 rfl) ?_
  refine jo_nil ?_
  refine jc_seq ?_
  refine jc_region ?_
  refine jo_l (ly_lda agg30 rfl rfl rfl rfl) (hd 7 rfl) ?_
  refine jo_l (ly_lda agg30 rfl rfl rfl rfl) (hd 8 rfl) ?_
  refine jo_call Try.f51 (divide_z4 s t a b v w la lb ua ub ev ew hv hw h0) rfl Try.func51 rfl rfl (ovL_cons rfl (ovL_cons rfl (ovL_cons rfl ovL_nil))) (.cons (.a1 .b (.a1 .n .a0)) (.cons (.a1 .b (.a1 .n .a0)) (.cons .i .nil))) (hd 9 rfl) ?_ (fun ch hp => by simp at hp)
  rintro y hy; injection hy with hy; subst hy
  refine jo_l (ly_ext rfl rfl) (hd 10 rfl) ?_
  refine jo_l (ly_ext rfl rfl) (hd 11 rfl) ?_
  refine jo_l (ly_ext rfl rfl) (hd 12 rfl) ?_
  refine jo_st (sy_store rfl rfl rfl siz30 rfl rfl (Nat.le_of_ble_eq_true rfl)) ?_
  refine jo_st (sy_store rfl rfl rfl siz30 rfl rfl (Nat.le_of_ble_eq_true rfl)) ?_
  refine jo_l (ly_as rfl) (hd 6 rfl) ?_
  refine jo_nil ?_
  refine jc_ret ?_
  refine ⟨_, _, (.cons (ResV.cell agg30 rfl rfl rfl rfl) (.cons (ResV.cell agg30 rfl rfl rfl rfl) (.cons rfl .nil))), (.t1 (.a1 .b (.a1 .n .a0)) (.t1 (.a1 .b (.a1 .n .a0)) (.t1 .i .t0))), ?_⟩
  exact rfl
end Go.Proofs.Ythocbnfkjlgclaa.Vc

/- Contracts of mul.Mul told exactly, nat.Bit, div.limb, plus. -/
set_option linter.unusedVariables false
set_option linter.unusedSimpArgs false
namespace Go.Proofs.Ythocbnfkjlgclaa.Vc
open Go Go.RowKit
set_option maxHeartbeats 4000000 in
theorem mfits_l (l : List Int) (hl : l.length < 1099511627776) (hu : u64s l) : Spec Try.prog 115 [.n false .u64 l] (fun o => ∃ (r : List Int) (e : Int), o = .ret (.t [.n true .u64 r, .i .i64 e]) ∧ ErrL (vl l) r e) := by
  refine spec_of' [(0, .n false .u64 l)] rfl Try.func115 rfl (Nat.le_of_ble_eq_true rfl) fun Γ hN hds hL hR => ?_
  have hd : ∀ d, Nat.blt d 10 = true → d < Γ.N := fun d h => by rw [hN]; exact Nat.le_of_ble_eq_true h
  have hm := trm_len l
  refine jc_seq ?_
  refine jc_region ?_
  refine jo_l (ly_as rfl) (hd 2 rfl) ?_
  refine jo_l (ly_as rfl) (hd 3 rfl) ?_
  refine jo_nil ?_
  refine jc_seq ?_
  refine jc_region ?_
  refine jo_l (ly_mv rfl) (hd 4 rfl) ?_
  refine jo_call Try.f48 (Norm_s l hl) rfl Try.func48 rfl rfl (ovL_cons rfl ovL_nil) (.cons .n .nil) (hd 5 rfl) ?_ (fun ch hp => by simp at hp)
  rintro y hy; injection hy with hy; subst hy
  refine jo_l (ly_as rfl) (hd 0 rfl) ?_
  refine jo_nil ?_
  refine jc_seq ?_
  refine jc_seq ?_
  refine jc_region ?_
  refine jo_l (ly_mv rfl) (hd 6 rfl) ?_
  refine jo_call Try.f54 (Length_s (trm l) (by omega) (u64s_trm hu)) rfl Try.func54 rfl rfl (ovL_cons rfl ovL_nil) (.cons .n .nil) (hd 7 rfl) ?_ (fun ch hp => by simp at hp)
  rintro y hy; injection hy with hy; subst hy
  refine jo_l (ly_gt rfl rfl) (hd 8 rfl) ?_
  refine jo_nil ?_
  refine jc_if rfl (fun h1 => ?_) (fun h1 => ?_)
  · refine jc_seq ?_
    refine jc_region ?_
    refine jo_l (ly_as rfl) (hd 2 rfl) ?_
    refine jo_l (ly_as rfl) (hd 3 rfl) ?_
    refine jo_nil ?_
    refine jc_ret ?_
    refine ⟨_, _, (.cons rfl (.cons rfl .nil)), (.t1 (.nil (fr := true) (k := .u64)) (.t1 .i .t0)), ?_⟩
    exact ⟨[], 3, rfl, errL_big hu rfl (by rw [lenN_trm] at *; omega)⟩
  · refine jc_skip ?_
    refine jc_seq ?_
    refine jc_region ?_
    refine jo_l (ly_mv rfl) (hd 9 rfl) ?_
    refine jo_l (ly_as rfl) (hd 2 rfl) ?_
    refine jo_l (ly_as rfl) (hd 3 rfl) ?_
    refine jo_nil ?_
    refine jc_ret ?_
    refine ⟨_, _, (.cons rfl (.cons rfl .nil)), (.t1 .n (.t1 .i .t0)), ?_⟩
    exact ⟨_, 0, rfl, errL_ok hu rfl (by rw [lenN_trm] at *; omega)⟩

set_option maxHeartbeats 4000000 in
theorem product_l (a b : List Int) (hla : a.length < 4294967296) (hlb : b.length < 4294967296) (ua : u64s a) (ub : u64s b) : Spec Try.prog 97 [.n false .u64 a, .n false .u64 b, .f 98 []] (fun o => ∃ (r : List Int) (e : Int), o = .ret (.t [.n true .u64 r, .i .i64 e]) ∧ ErrL (vl a * vl b) r e) := by
  refine spec_of' [(0, .n false .u64 a), (1, .n false .u64 b), (2, .f 98 [])] rfl Try.func97 rfl (Nat.le_of_ble_eq_true rfl) fun Γ hN hds hL hR => ?_
  have hd : ∀ d, Nat.blt d 22 = true → d < Γ.N := fun d h => by rw [hN]; exact Nat.le_of_ble_eq_true h
  have hma := trm_len a
  have hmb := trm_len b
  refine jc_seq ?_
  refine jc_region ?_
  refine jo_l (ly_as rfl) (hd 6 rfl) ?_
  refine jo_l (ly_as rfl) (hd 7 rfl) ?_
  refine jo_nil ?_
  refine jc_seq ?_
  refine jc_region ?_
  refine jo_l (ly_mv rfl) (hd 8 rfl) ?_
  refine jo_call Try.f48 (Norm_s a (by omega)) rfl Try.func48 rfl rfl (ovL_cons rfl ovL_nil) (.cons .n .nil) (hd 9 rfl) ?_ (fun ch hp => by simp at hp)
  rintro y hy; injection hy with hy; subst hy
  refine jo_l (ly_mv rfl) (hd 10 rfl) ?_
  refine jo_call Try.f48 (Norm_s b (by omega)) rfl Try.func48 rfl rfl (ovL_cons rfl ovL_nil) (.cons .n .nil) (hd 11 rfl) ?_ (fun ch hp => by simp at hp)
  rintro y hy; injection hy with hy; subst hy
  refine jo_l (ly_as rfl) (hd 0 rfl) ?_
  refine jo_l (ly_as rfl) (hd 1 rfl) ?_
  refine jo_nil ?_
  refine jc_seq ?_
  refine jc_seq ?_
  refine jc_region ?_
  refine jo_l (ly_mv rfl) (hd 12 rfl) ?_
  refine jo_l (ly_mv rfl) (hd 13 rfl) ?_
  refine jo_call Try.f114 (great_e (trm a) (trm b) (by omega) (by omega) (u64s_trm ua) (u64s_trm ub)) rfl Try.func114 rfl rfl (ovL_cons rfl (ovL_cons rfl ovL_nil)) (.cons .n (.cons .n .nil)) (hd 14 rfl) ?_ (fun ch hp => by simp at hp)
  rintro y ⟨x, hy, hx⟩
  injection hy with hy
  subst hy
  refine jo_nil ?_
  refine jc_cond rfl (fun h1 => ?_) (fun h1 => ?_)
  · refine jc_seq ?_
    refine jc_region ?_
    refine jo_l (ly_as rfl) (hd 6 rfl) ?_
    refine jo_l (ly_as rfl) (hd 7 rfl) ?_
    refine jo_nil ?_
    refine jc_ret ?_
    refine ⟨_, _, (.cons rfl (.cons rfl .nil)), (.t1 (.nil (fr := true) (k := .u64)) (.t1 .i .t0)), ?_⟩
    refine ⟨[], 3, rfl, ?_⟩
    obtain ⟨g1, g2, g3⟩ := hx (by assumption)
    have := errN_great (r := []) (u64s_trm ua) (u64s_trm ub) g1 g2 g3
    rw [vl_trm, vl_trm] at this
    exact errL_of this
  · refine jc_skip ?_
    refine jc_seq ?_
    refine jc_region ?_
    refine jo_l (ly_mv rfl) (hd 15 rfl) ?_
    refine jo_l (ly_mv rfl) (hd 16 rfl) ?_
    refine jo_l (ly_mv rfl) (hd 17 rfl) ?_
    refine jo_call Try.f98 (way_s (trm a) (trm b) (by omega) (by omega) (u64s_trm ua) (u64s_trm ub)) rfl Try.func98 rfl rfl (ovL_cons rfl (ovL_cons rfl ovL_nil)) (.cons .n (.cons .n .nil)) (hd 18 rfl) ?_ (fun ch hp => by simp at hp)
    rintro y ⟨rs, hy, us, ls, vs⟩
    injection hy with hy
    subst hy
    refine jo_call Try.f115 (mfits_l rs (by omega) us) rfl Try.func115 rfl rfl (ovL_cons rfl ovL_nil) (.cons .n .nil) (hd 19 rfl) ?_ (fun ch hp => by simp at hp)
    rintro y ⟨rf, ef, hy, hf⟩
    injection hy with hy
    subst hy
    refine jo_l (ly_ext rfl rfl) (hd 20 rfl) ?_
    refine jo_l (ly_ext rfl rfl) (hd 21 rfl) ?_
    refine jo_l (ly_as rfl) (hd 6 rfl) ?_
    refine jo_l (ly_as rfl) (hd 7 rfl) ?_
    refine jo_nil ?_
    refine jc_ret ?_
    refine ⟨_, _, (.cons rfl (.cons rfl .nil)), (.t1 .n (.t1 .i .t0)), ?_⟩
    exact ⟨rf, ef, rfl, by rwa [vs, vl_trm, vl_trm] at hf⟩

set_option maxHeartbeats 4000000 in
theorem Mul_l (a b : List Int) (hla : a.length < 4294967296) (hlb : b.length < 4294967296) (ua : u64s a) (ub : u64s b) : Spec Try.prog 77 [.n false .u64 a, .n false .u64 b] (fun o => ∃ (r : List Int) (e : Int), o = .ret (.t [.n true .u64 r, .i .i64 e]) ∧ ErrL (vl a * vl b) r e) := by
  refine spec_of' [(0, .n false .u64 a), (1, .n false .u64 b)] rfl Try.func77 rfl (Nat.le_of_ble_eq_true rfl) fun Γ hN hds hL hR => ?_
  have hd : ∀ d, Nat.blt d 11 = true → d < Γ.N := fun d h => by rw [hN]; exact Nat.le_of_ble_eq_true h
  refine jc_seq ?_
  refine jc_region ?_
  refine jo_l (ly_as rfl) (hd 4 rfl) ?_
  refine jo_l (ly_as rfl) (hd 5 rfl) ?_
  refine jo_nil ?_
  refine jc_seq ?_
  refine jc_region ?_
  refine jo_l (ly_mv rfl) (hd 6 rfl) ?_
  refine jo_l (ly_mv rfl) (hd 7 rfl) ?_
  refine jo_call Try.f97 (product_l a b hla hlb ua ub) rfl Try.func97 rfl rfl (ovL_cons rfl (ovL_cons rfl (ovL_cons rfl ovL_nil))) (.cons .n (.cons .n (.cons .f .nil))) (hd 8 rfl) ?_ (fun ch hp => by simp at hp)
  rintro y ⟨rp, ep, hy, hp⟩
  injection hy with hy
  subst hy
  refine jo_l (ly_ext rfl rfl) (hd 9 rfl) ?_
  refine jo_l (ly_ext rfl rfl) (hd 10 rfl) ?_
  refine jo_l (ly_as rfl) (hd 4 rfl) ?_
  refine jo_l (ly_as rfl) (hd 5 rfl) ?_
  refine jo_nil ?_
  refine jc_ret ?_
  refine ⟨_, _, (.cons rfl (.cons rfl .nil)), (.t1 .n (.t1 .i .t0)), ?_⟩
  exact ⟨rp, ep, rfl, hp⟩

set_option maxHeartbeats 4000000 in
theorem Bit_r (l : List Int) (i : Nat) (hl : l.length < 1099511627776) (hu : u64s l) (hi : i < 1099511627776) : Spec Try.prog 85 [.n false .u64 l, .i .i64 (i : Int)] (fun o => o = .ret (.i .i64 (((vl l).toNat / 2 ^ i % 2 : Nat) : Int))) := by
  refine spec_of' [(0, .n false .u64 l), (1, .i .i64 (i : Int))] rfl Try.func85 rfl (Nat.le_of_ble_eq_true rfl) fun Γ hN hds hL hR => ?_
  have hd : ∀ d, Nat.blt d 25 = true → d < Γ.N := fun d h => by rw [hN]; exact Nat.le_of_ble_eq_true h
  have hm1 : ((vl l).toNat / 18446744073709551616 ^ (i / 64) % 18446744073709551616) < 18446744073709551616 := Nat.mod_lt _ (by decide)
  have hm2 : ((vl l).toNat / 18446744073709551616 ^ (i / 64) % 18446744073709551616) / 2 ^ (i % 64) ≤ ((vl l).toNat / 18446744073709551616 ^ (i / 64) % 18446744073709551616) := Nat.div_le_self _ _
  refine jc_seq ?_
  refine jc_region ?_
  refine jo_l (ly_as rfl) (hd 4 rfl) ?_
  refine jo_nil ?_
  refine jc_seq ?_
  refine jc_seq ?_
  refine jc_region ?_
  refine jo_l (ly_mv rfl) (hd 5 rfl) ?_
  refine jo_l (ly_ff (ly_lt rfl rfl) (by omega)) (hd 6 rfl) ?_
  refine jo_l (ly_mv rfl) (hd 7 rfl) ?_
  refine jo_g 7 rfl rfl (ly_mv rfl) (hd 8 rfl) ?_
  refine jo_g 7 rfl rfl (ly_quo rfl rfl (by decide) (r := ((i / 64 : Nat) : Int)) (by rw [show ((i : Int).tdiv 64) = ((i / 64 : Nat) : Int) from rfl, wrap_i64 (by omega) (by omega)])) (hd 9 rfl) ?_
  refine jo_g 7 rfl rfl (ly_mv rfl) (hd 10 rfl) ?_
  refine jo_g 7 rfl rfl (ly_lenn sl28 rfl) (hd 11 rfl) ?_
  refine jo_g 7 rfl rfl (ly_ge rfl rfl) (hd 12 rfl) ?_
  refine jo_l (ly_pick_f rfl rfl) (hd 13 rfl) ?_
  refine jo_nil ?_
  refine jc_if rfl (fun h1 => ?_) (fun h1 => ?_)
  · refine jc_seq ?_
    refine jc_region ?_
    refine jo_l (ly_as rfl) (hd 4 rfl) ?_
    refine jo_nil ?_
    refine jc_ret ?_
    refine ⟨_, _, (.cons rfl .nil), .i, ?_⟩
    rw [row_out hu (by omega)]
    rfl
  · refine jc_skip ?_
    refine jc_seq ?_
    refine jc_region ?_
    refine jo_l (ly_mv rfl) (hd 14 rfl) ?_
    refine jo_l (ly_mv rfl) (hd 15 rfl) ?_
    refine jo_l (ly_quo rfl rfl (by decide) (r := ((i / 64 : Nat) : Int)) (by rw [show ((i : Int).tdiv 64) = ((i / 64 : Nat) : Int) from rfl, wrap_i64 (by omega) (by omega)])) (hd 16 rfl) ?_
    refine jo_l (ly_ian (i := i / 64) sl28 rfl rfl (by first | rfl | omega) (by omega)) (hd 17 rfl) ?_
    refine jo_l (ly_is (ly_ldq one82 rfl rfl) (by exact congrArg (V.i .u64) (row_at hu (i / 64)))) (hd 18 rfl) ?_
    refine jo_l (ly_mv rfl) (hd 19 rfl) ?_
    refine jo_l (ly_is (ly_rem rfl rfl (by decide) rfl) (show V.i .i64 ((i : Int).tmod 64) = V.i .i64 ((i % 64 : Nat) : Int) from rfl)) (hd 20 rfl) ?_
    refine jo_l (ly_conv und3 und116 rfl (r := ((i % 64 : Nat) : Int)) (wrap_u64 (by omega) (by omega))) (hd 21 rfl) ?_
    refine jo_l (ly_is (ly_shr rfl rfl (by omega) rfl) (by exact congrArg (V.i .u64) (shr_nat (k := 2 ^ (i % 64)) (by rw [Int.toNat_natCast, Nat.min_eq_left (by have h : IntKind.u64.bits = 64 := rfl; omega)])))) (hd 22 rfl) ?_
    refine jo_l (ly_is (ly_bit (by simp) rfl rfl rfl) (by exact congrArg (V.i .u64) (and1 (by omega)))) (hd 23 rfl) ?_
    refine jo_l (ly_conv und82 und3 rfl (r := ((((vl l).toNat / 18446744073709551616 ^ (i / 64) % 18446744073709551616) / 2 ^ (i % 64) % 2 : Nat) : Int)) (wrap_i64 (by omega) (by omega))) (hd 24 rfl) ?_
    refine jo_l (ly_as rfl) (hd 4 rfl) ?_
    refine jo_nil ?_
    refine jc_ret ?_
    refine ⟨_, _, (.cons rfl .nil), .i, ?_⟩
    rw [bit_row]

set_option maxHeartbeats 4000000 in
theorem limb_s (a : List Int) (m : Int) (hl : a.length < 4294967296) (ua : u64s a) (hm0 : 0 ≤ m) (hm1 : m < 18446744073709551616) : Spec Try.prog 108 [.n false .u64 a, .i .u64 m] (fun o => o = .ret (.n true .u64 (lm (vl a * m)))) := by
  refine spec_of' [(0, .n false .u64 a), (1, .i .u64 m)] rfl Try.func108 rfl (Nat.le_of_ble_eq_true rfl) fun Γ hN hds hL hR => ?_
  have hd : ∀ d, Nat.blt d 51 = true → d < Γ.N := fun d h => by rw [hN]; exact Nat.le_of_ble_eq_true h
  refine jc_seq ?_
  refine jc_region ?_
  refine jo_l (ly_as rfl) (hd 4 rfl) ?_
  refine jo_nil ?_
  refine jc_seq ?_
  refine jc_region ?_
  refine jo_l (ly_mv rfl) (hd 13 rfl) ?_
  refine jo_l (ly_lenn sl28 rfl) (hd 14 rfl) ?_
  refine jo_l (ly_add rfl rfl (r := ((a.length + 1 : Nat) : Int)) (by rw [wrap_i64 (by omega) (by omega)]; omega)) (hd 15 rfl) ?_
  refine jo_h (hy_mk (m := a.length + 1) el28 rfl rfl rfl (by show 8 * (a.length + 1) ≤ _; omega) (by unfold maxLen; omega) rfl) (hd 16 rfl) ?_
  refine jo_l (ly_as rfl) (hd 5 rfl) ?_
  refine jo_nil ?_
  refine jc_seq ?_
  refine jc_region ?_
  refine jo_l (ly_as rfl) (hd 6 rfl) ?_
  refine jo_nil ?_
  refine jc_seq ?_
  refine jc_seq ?_
  refine jc_region ?_
  refine jo_l (ly_mv rfl) (hd 17 rfl) ?_
  refine jo_l (ly_lenn sl28 rfl) (hd 18 rfl) ?_
  refine jo_l (ly_mv rfl) (hd 19 rfl) ?_
  refine jo_nil ?_
  refine jc_block ?_
  refine jc_loopF (G := Nat) (fun i => i ≤ a.length) (fun i => [(6, .i .u64 (lbN a m i).2), (19, .i .i64 (i : Int)), (7, .u), (8, .u), (9, .u), (10, .u), (11, .u), (12, .u), (20, .u), (21, .u), (22, .u), (23, .u), (24, .u), (25, .u), (26, .u), (27, .u), (28, .u), (29, .u), (30, .u), (31, .u), (32, .u), (33, .u), (34, .u), (35, .u), (36, .u), (37, .u), (38, .u), (39, .u), (40, .u), (41, .u), (42, .u), (43, .u)]) (fun i => [⟨34, 1, 0, true, ints .u64 (fillI (lbN a m i).1 (a.length + 1))⟩]) (fun i => a.length - i) 0 ?_ ?_ rfl ?_
  · exact Nat.zero_le _
  · exact (.cons rfl (.cons rfl (.u (.u (.u (.u (.u (.u (.u (.u (.u (.u (.u (.u (.u (.u (.u (.u (.u (.u (.u (.u (.u (.u (.u (.u (.u (.u (.u (.u (.u (.u .nil))))))))))))))))))))))))))))))))
  · rintro i hc1
    have hf : (fillI (lbN a m i).1 (a.length + 1)).length = a.length + 1 := fillI_len (by rw [lbN_len]; omega)
    have hc := lbN_c ua hm0 hm1 i
    have hx := u64s_getD ua i
    have hp := mul_lt hx.1 hx.2 hm0 hm1
    refine jc_seq ?_
    refine jc_region ?_
    refine jo_l (ly_lt rfl rfl) (hd 20 rfl) ?_
    refine jo_nil ?_
    refine jc_seq ?_
    refine jc_if rfl (fun h1 => ?_) (fun h1 => ?_)
    · refine jc_skip ?_
      refine jc_seq ?_
      refine jc_block ?_
      refine jc_seq ?_
      refine jc_region ?_
      refine jo_l (ly_mv rfl) (hd 21 rfl) ?_
      refine jo_l (ly_ian (i := i) sl28 rfl rfl (by first | rfl | omega) (by omega)) (hd 22 rfl) ?_
      refine jo_l (ly_ldq one82 rfl rfl) (hd 23 rfl) ?_
      refine jo_l (ly_as rfl) (hd 7 rfl) ?_
      refine jo_l (ly_as rfl) (hd 8 rfl) ?_
      refine jo_nil ?_
      refine jc_seq ?_
      refine jc_region ?_
      refine jo_l (ly_mv rfl) (hd 25 rfl) ?_
      refine jo_l (ly_mv rfl) (hd 26 rfl) ?_
      refine jo_call Try.f121 (Mul64_s (a.getD i 0) m hx.1 hx.2 hm0 hm1) rfl Try.func121 rfl rfl (ovL_cons rfl (ovL_cons rfl ovL_nil)) (.cons .i (.cons .i .nil)) (hd 27 rfl) ?_ (fun ch hp => by simp at hp)
      rintro y hy; injection hy with hy; subst hy
      refine jo_l (ly_mv rfl) (hd 24 rfl) ?_
      refine jo_l (ly_ext rfl rfl) (hd 28 rfl) ?_
      refine jo_l (ly_ext rfl rfl) (hd 29 rfl) ?_
      refine jo_l (ly_as rfl) (hd 9 rfl) ?_
      refine jo_l (ly_as rfl) (hd 10 rfl) ?_
      refine jo_nil ?_
      refine jc_seq ?_
      refine jc_region ?_
      refine jo_l (ly_mv rfl) (hd 31 rfl) ?_
      refine jo_l (ly_mv rfl) (hd 32 rfl) ?_
      refine jo_h (hy_ext3 (e := add64Entry) Try.func94 rfl rfl (by kernel_rfl) (by kernel_rfl) rfl rfl rfl (fun w => run_add64 _ _ _ (Int.emod_nonneg _ (by decide)) hc.1 (by decide) (by decide) w) rel_pair) (hd 33 rfl) ?_
      refine jo_l (ly_mv rfl) (hd 30 rfl) ?_
      refine jo_l (ly_is (ly_ext rfl rfl) (show V.i .u64 _ = V.i .u64 (((a.getD i 0 * m % 18446744073709551616 + (lbN a m i).2) % 18446744073709551616)) from congrArg (V.i .u64) (by rw [Int.add_zero]))) (hd 34 rfl) ?_
      refine jo_l (ly_ext rfl rfl) (hd 35 rfl) ?_
      refine jo_l (ly_as rfl) (hd 11 rfl) ?_
      refine jo_l (ly_as rfl) (hd 12 rfl) ?_
      refine jo_nil ?_
      refine jc_region ?_
      refine jo_l (ly_mv rfl) (hd 36 rfl) ?_
      refine jo_l (ly_mv rfl) (hd 37 rfl) ?_
      refine jo_l (ly_mv rfl) (hd 38 rfl) ?_
      refine jo_l (ly_mv rfl) (hd 39 rfl) ?_
      refine jo_l (ly_mv rfl) (hd 40 rfl) ?_
      refine jo_l (ly_add rfl rfl (r := (a.getD i 0 * m / 18446744073709551616 + (a.getD i 0 * m % 18446744073709551616 + (lbN a m i).2) / 18446744073709551616)) (by rw [Int.add_zero]; exact wrap_u64 (by omega) (by omega))) (hd 41 rfl) ?_
      refine jo_l (ly_ia (i := i) sl28 rfl rfl rfl (by first | rfl | omega) (by omega) rfl) (hd 42 rfl) ?_
      refine jo_st (sy_storei rfl rfl rfl one82 (by omega)) ?_
      refine jo_l (ly_as rfl) (hd 6 rfl) ?_
      refine jo_nil ?_
      refine jc_region ?_
      refine jo_l (ly_add rfl rfl (wrap_i64 (by omega) (by omega))) (hd 43 rfl) ?_
      refine jo_l (ly_mv rfl) (hd 19 rfl) ?_
      refine jo_nil ?_
      refine ⟨i + 1, ?_, ?_, (by show [(⟨34, 1, 0, true, ints .u64 _⟩ : Ob)] = [⟨34, 1, 0, true, ints .u64 _⟩]; rw [lb_set (by omega)]), cov_n 64 rfl rfl ?_⟩
      · omega
      · omega
      · exact (.cons rfl (.cons rfl (.u (.u (.u (.u (.u (.u (.u (.u (.u (.u (.u (.u (.u (.u (.u (.u (.u (.u (.u (.u (.u (.u (.u (.u (.u (.u (.u (.u (.u (.u .nil))))))))))))))))))))))))))))))))
    · obtain rfl : i = a.length := by omega
      refine jc_exit ?_
      refine jc_seq ?_
      refine jc_region ?_
      refine jo_l (ly_mv rfl) (hd 44 rfl) ?_
      refine jo_l (ly_mv rfl) (hd 45 rfl) ?_
      refine jo_l (ly_lenn sl28 rfl) (hd 46 rfl) ?_
      refine jo_l (ly_mv rfl) (hd 47 rfl) ?_
      refine jo_l (ly_ia (i := a.length) sl28 rfl rfl rfl (by first | rfl | omega) (by omega) rfl) (hd 48 rfl) ?_
      refine jo_st (sy_storei rfl rfl rfl one82 (by omega)) ?_
      refine jo_nil ?_
      refine jc_seq ?_
      refine jc_region ?_
      refine jo_frz (k := .u64) (l' := lbL a m) 5 rfl rfl (by rw [fill_last (lbN_len _ _ _)]; simp [lbN_len]) (by rw [fill_last (lbN_len _ _ _), List.drop_zero, List.take_of_length_le (by simp [lbN_len])]; rfl) hL ?_
      refine jo_l (ly_mv rfl) (hd 49 rfl) ?_
      refine jo_call Try.f48 (Norm_s (lbL a m) (by unfold lbL; simp only [List.length_append, lbN_len, List.length_singleton]; omega)) rfl Try.func48 rfl rfl (ovL_cons rfl ovL_nil) (.cons .n .nil) (hd 50 rfl) ?_ (fun ch hp => by simp at hp)
      rintro y hy; injection hy with hy; subst hy
      refine jo_l (ly_as rfl) (hd 4 rfl) ?_
      refine jo_nil ?_
      refine jc_ret ?_
      refine ⟨_, _, (.cons rfl .nil), .n, ?_⟩
      rw [lb_trm ua hm0 hm1]

set_option maxHeartbeats 4000000 in
theorem plus_s (a b : List Int) (hla : a.length < 4294967296) (hlb : b.length < 4294967296) (ua : u64s a) (ub : u64s b) : Spec Try.prog 107 [.n false .u64 a, .n false .u64 b] (fun o => o = .ret (.n true .u64 (lm (vl a + vl b)))) := by
  refine spec_of' [(0, .n false .u64 a), (1, .n false .u64 b)] rfl Try.func107 rfl (Nat.le_of_ble_eq_true rfl) fun Γ hN hds hL hR => ?_
  have hd : ∀ d, Nat.blt d 51 = true → d < Γ.N := fun d h => by rw [hN]; exact Nat.le_of_ble_eq_true h
  refine jc_seq ?_
  refine jc_region ?_
  refine jo_l (ly_as rfl) (hd 4 rfl) ?_
  refine jo_nil ?_
  refine jc_seq ?_
  refine jc_region ?_
  refine jo_l (ly_mv rfl) (hd 10 rfl) ?_
  refine jo_l (ly_lenn sl28 rfl) (hd 11 rfl) ?_
  refine jo_l (ly_mv rfl) (hd 12 rfl) ?_
  refine jo_l (ly_lenn sl28 rfl) (hd 13 rfl) ?_
  refine jo_l (ly_is (ly_max rfl rfl) (show V.i .i64 _ = V.i .i64 ((max a.length b.length : Nat) : Int) by congr 1; omega)) (hd 14 rfl) ?_
  refine jo_l (ly_add rfl rfl (r := ((max a.length b.length + 1 : Nat) : Int)) (by rw [wrap_i64 (by omega) (by omega)]; omega)) (hd 15 rfl) ?_
  refine jo_h (hy_mk (m := max a.length b.length + 1) el28 rfl rfl rfl (by show 8 * (max a.length b.length + 1) ≤ _; omega) (by unfold maxLen; omega) rfl) (hd 16 rfl) ?_
  refine jo_l (ly_as rfl) (hd 5 rfl) ?_
  refine jo_nil ?_
  refine jc_seq ?_
  refine jc_region ?_
  refine jo_l (ly_as rfl) (hd 6 rfl) ?_
  refine jo_nil ?_
  refine jc_seq ?_
  refine jc_seq ?_
  refine jc_region ?_
  refine jo_l (ly_mv rfl) (hd 17 rfl) ?_
  refine jo_l (ly_leno sl28 rfl rfl) (hd 18 rfl) ?_
  refine jo_l (ly_mv rfl) (hd 19 rfl) ?_
  refine jo_nil ?_
  refine jc_block ?_
  refine jc_loopF (G := Nat) (fun i => i ≤ max a.length b.length + 1) (fun i => [(6, .i .u64 (adN a b i).2), (19, .i .i64 (i : Int)), (7, .u), (8, .u), (9, .u), (20, .u), (21, .u), (22, .u), (23, .u), (24, .u), (25, .u), (26, .u), (27, .u), (28, .u), (29, .u), (30, .u), (31, .u), (32, .u), (33, .u), (34, .u), (35, .u), (36, .u), (37, .u), (38, .u), (39, .u), (40, .u), (41, .u), (42, .u), (43, .u), (44, .u), (45, .u), (46, .u), (47, .u), (48, .u)]) (fun i => [⟨34, 1, 0, true, ints .u64 (fillI (adN a b i).1 (max a.length b.length + 1))⟩]) (fun i => max a.length b.length + 1 - i) 0 ?_ ?_ rfl ?_
  · exact Nat.zero_le _
  · exact (.cons rfl (.cons rfl (.u (.u (.u (.u (.u (.u (.u (.u (.u (.u (.u (.u (.u (.u (.u (.u (.u (.u (.u (.u (.u (.u (.u (.u (.u (.u (.u (.u (.u (.u (.u (.u .nil))))))))))))))))))))))))))))))))))
  · rintro i hc1
    have hf : (fillI (adN a b i).1 (max a.length b.length + 1)).length = max a.length b.length + 1 := fillI_len (by rw [adN_len]; omega)
    have hc := adN_c ua ub i
    have hx := u64s_getD ua i
    have hy := u64s_getD ub i
    refine jc_seq ?_
    refine jc_region ?_
    refine jo_l (ly_lt rfl rfl) (hd 20 rfl) ?_
    refine jo_nil ?_
    refine jc_seq ?_
    refine jc_if rfl (fun h1 => ?_) (fun h1 => ?_)
    · refine jc_skip ?_
      refine jc_seq ?_
      refine jc_block ?_
      refine jc_seq ?_
      refine jc_region ?_
      refine jo_l (ly_mv rfl) (hd 21 rfl) ?_
      refine jo_l (ly_as rfl) (hd 7 rfl) ?_
      refine jo_nil ?_
      refine jc_seq ?_
      refine jc_region ?_
      refine jo_l (ly_as rfl) (hd 8 rfl) ?_
      refine jo_l (ly_as rfl) (hd 9 rfl) ?_
      refine jo_nil ?_
      refine jc_meetH (G := Unit) (fun _ => True) (fun _ => [(8, .i .u64 (a.getD i 0)), (22, .u), (23, .u), (24, .u), (25, .u), (26, .u), (27, .u), (28, .u), (29, .u)]) ?_ ?_
      · refine jc_seq ?_
        refine jc_region ?_
        refine jo_l (ly_mv rfl) (hd 22 rfl) ?_
        refine jo_l (ly_mv rfl) (hd 23 rfl) ?_
        refine jo_l (ly_lenn sl28 rfl) (hd 24 rfl) ?_
        refine jo_l (ly_lt rfl rfl) (hd 25 rfl) ?_
        refine jo_nil ?_
        refine jc_if rfl (fun h2 => ?_) (fun h2 => ?_)
        · refine jc_region ?_
          refine jo_l (ly_mv rfl) (hd 26 rfl) ?_
          refine jo_l (ly_mv rfl) (hd 27 rfl) ?_
          refine jo_l (ly_ian (i := i) sl28 rfl rfl (by first | rfl | omega) (by omega)) (hd 28 rfl) ?_
          refine jo_l (ly_ldq one82 rfl rfl) (hd 29 rfl) ?_
          refine jo_l (ly_as rfl) (hd 8 rfl) ?_
          refine jo_nil ?_
          refine ⟨(), ?_, rfl, cov_n 9 rfl rfl ?_⟩
          · trivial
          · exact (.cons (by first | rfl | (show some (V.i .u64 _) = some (V.i .u64 _); rw [getD_ge (by omega)])) (.u (.u (.u (.u (.u (.u (.u (.u .nil)))))))))
        · refine jc_skip ?_
          refine ⟨(), ?_, rfl, cov_n 4 rfl rfl ?_⟩
          · trivial
          · exact (.cons (by first | rfl | (show some (V.i .u64 _) = some (V.i .u64 _); rw [getD_ge (by omega)])) (.u (.u (.u (.u (.u (.u (.u (.u .nil)))))))))
      · rintro _ _
        refine jc_meetH (G := Unit) (fun _ => True) (fun _ => [(9, .i .u64 (b.getD i 0)), (30, .u), (31, .u), (32, .u), (33, .u), (34, .u), (35, .u), (36, .u), (37, .u)]) ?_ ?_
        · refine jc_seq ?_
          refine jc_region ?_
          refine jo_l (ly_mv rfl) (hd 30 rfl) ?_
          refine jo_l (ly_mv rfl) (hd 31 rfl) ?_
          refine jo_l (ly_lenn sl28 rfl) (hd 32 rfl) ?_
          refine jo_l (ly_lt rfl rfl) (hd 33 rfl) ?_
          refine jo_nil ?_
          refine jc_if rfl (fun h3 => ?_) (fun h3 => ?_)
          · refine jc_region ?_
            refine jo_l (ly_mv rfl) (hd 34 rfl) ?_
            refine jo_l (ly_mv rfl) (hd 35 rfl) ?_
            refine jo_l (ly_ian (i := i) sl28 rfl rfl (by first | rfl | omega) (by omega)) (hd 36 rfl) ?_
            refine jo_l (ly_ldq one82 rfl rfl) (hd 37 rfl) ?_
            refine jo_l (ly_as rfl) (hd 9 rfl) ?_
            refine jo_nil ?_
            refine ⟨(), ?_, rfl, cov_n 9 rfl rfl ?_⟩
            · trivial
            · exact (.cons (by first | rfl | (show some (V.i .u64 _) = some (V.i .u64 _); rw [getD_ge (by omega)])) (.u (.u (.u (.u (.u (.u (.u (.u .nil)))))))))
          · refine jc_skip ?_
            refine ⟨(), ?_, rfl, cov_n 4 rfl rfl ?_⟩
            · trivial
            · exact (.cons (by first | rfl | (show some (V.i .u64 _) = some (V.i .u64 _); rw [getD_ge (by omega)])) (.u (.u (.u (.u (.u (.u (.u (.u .nil)))))))))
        · rintro _ _
          refine jc_region ?_
          refine jo_l (ly_mv rfl) (hd 39 rfl) ?_
          refine jo_l (ly_mv rfl) (hd 40 rfl) ?_
          refine jo_l (ly_mv rfl) (hd 41 rfl) ?_
          refine jo_l (ly_mv rfl) (hd 42 rfl) ?_
          refine jo_l (ly_mv rfl) (hd 43 rfl) ?_
          refine jo_h (hy_ext3 (e := add64Entry) Try.func94 rfl rfl (by kernel_rfl) (by kernel_rfl) rfl rfl rfl (fun w => run_add64 _ _ _ hx.1 hy.1 hc.1 hc.2 w) rel_pair) (hd 44 rfl) ?_
          refine jo_l (ly_mv rfl) (hd 38 rfl) ?_
          refine jo_l (ly_ext rfl rfl) (hd 45 rfl) ?_
          refine jo_l (ly_ext rfl rfl) (hd 46 rfl) ?_
          refine jo_l (ly_ia (i := i) sl28 rfl rfl rfl (by first | rfl | omega) (by omega) rfl) (hd 47 rfl) ?_
          refine jo_st (sy_storei rfl rfl rfl one82 (by omega)) ?_
          refine jo_l (ly_as rfl) (hd 6 rfl) ?_
          refine jo_nil ?_
          refine jc_region ?_
          refine jo_l (ly_add rfl rfl (wrap_i64 (by omega) (by omega))) (hd 48 rfl) ?_
          refine jo_l (ly_mv rfl) (hd 19 rfl) ?_
          refine jo_nil ?_
          refine ⟨i + 1, ?_, ?_, (by show [(⟨34, 1, 0, true, ints .u64 _⟩ : Ob)] = [⟨34, 1, 0, true, ints .u64 _⟩]; rw [fill_ad (by omega)]), cov_n 70 rfl rfl ?_⟩
          · omega
          · omega
          · exact (.cons rfl (.cons rfl (.u (.u (.u (.u (.u (.u (.u (.u (.u (.u (.u (.u (.u (.u (.u (.u (.u (.u (.u (.u (.u (.u (.u (.u (.u (.u (.u (.u (.u (.u (.u (.u .nil))))))))))))))))))))))))))))))))))
    · obtain rfl : i = max a.length b.length + 1 := by omega
      refine jc_exit ?_
      refine jc_seq ?_
      refine jc_region ?_
      refine jo_frz (k := .u64) (l' := (adN a b (max a.length b.length + 1)).1) 5 rfl rfl (by rw [fillI_full (adN_len _ _ _)]; simp [adN_len]) (by rw [fillI_full (adN_len _ _ _), List.drop_zero, List.take_of_length_le (by simp [adN_len])]) hL ?_
      refine jo_l (ly_mv rfl) (hd 49 rfl) ?_
      refine jo_call Try.f48 (Norm_s (adN a b (max a.length b.length + 1)).1 (by rw [adN_len]; omega)) rfl Try.func48 rfl rfl (ovL_cons rfl ovL_nil) (.cons .n .nil) (hd 50 rfl) ?_ (fun ch hp => by simp at hp)
      rintro y hy; injection hy with hy; subst hy
      refine jo_l (ly_as rfl) (hd 4 rfl) ?_
      refine jo_nil ?_
      refine jc_ret ?_
      refine ⟨_, _, (.cons rfl .nil), .n, ?_⟩
      rw [plus_trm ua ub]
end Go.Proofs.Ythocbnfkjlgclaa.Vc

/- Contract of div.times. -/
set_option linter.unusedVariables false
set_option linter.unusedSimpArgs false
namespace Go.Proofs.Ythocbnfkjlgclaa.Vc
open Go Go.RowKit
set_option maxHeartbeats 4000000 in
theorem times_s (x y m : Int) (hx0 : 0 ≤ x) (hy0 : 0 ≤ y) (hm : 0 < m) (lmb : lenV m ≤ 67108864) (hlx : (lm x).length < 4294967200) (hly : (lm y).length < 4294967200) : Spec Try.prog 84 [.n false .u64 (lm x), .n false .u64 (lm y), .n false .u64 (lm m)] (fun o => o = .ret (.n false .u64 (lm (x * y % m)))) := by
  refine spec_of' [(0, .n false .u64 (lm x)), (1, .n false .u64 (lm y)), (2, .n false .u64 (lm m))] rfl Try.func84 rfl (Nat.le_of_ble_eq_true rfl) fun Γ hN hds hL hR => ?_
  have hd : ∀ d, Nat.blt d 60 = true → d < Γ.N := fun d h => by rw [hN]; exact Nat.le_of_ble_eq_true h
  have hmb := fun v => emod_nn (v := v) hm
  have hxy := Int.mul_nonneg hx0 hy0
  have hlm := fun (v : Int) (h0 : 0 ≤ v) (h1 : v < m) => lenV_lm (v := v) (Nat.le_trans (lenV_mono (w := m) (by omega)) lmb)
  have hmm := lenV_lm lmb
  refine jc_seq ?_
  refine jc_region ?_
  refine jo_l (ly_as rfl) (hd 6 rfl) ?_
  refine jo_nil ?_
  refine jc_seq ?_
  refine jc_seq ?_
  refine jc_region ?_
  refine jo_l (ly_mv rfl) (hd 14 rfl) ?_
  refine jo_l (ly_mv rfl) (hd 15 rfl) ?_
  refine jo_call Try.f77 (Mul_l (lm x) (lm y) (by omega) (by omega) (lm_u _) (lm_u _)) rfl Try.func77 rfl rfl (ovL_cons rfl (ovL_cons rfl ovL_nil)) (.cons .n (.cons .n .nil)) (hd 16 rfl) ?_ (fun ch hp => by simp at hp)
  rintro y ⟨rp, ep, hy, hp⟩
  injection hy with hy
  subst hy
  rw [vl_lm hx0, vl_lm hy0] at hp
  refine jo_l (ly_mv rfl) (hd 13 rfl) ?_
  refine jo_l (ly_ext rfl rfl) (hd 17 rfl) ?_
  refine jo_l (ly_ext rfl rfl) (hd 18 rfl) ?_
  refine jo_l (ly_as rfl) (hd 7 rfl) ?_
  refine jo_l (ly_as rfl) (hd 8 rfl) ?_
  refine jo_nil ?_
  refine jc_seq ?_
  refine jc_region ?_
  refine jo_l (ly_mv rfl) (hd 19 rfl) ?_
  refine jo_l (ly_eq rfl rfl) (hd 20 rfl) ?_
  refine jo_nil ?_
  refine jc_if rfl (fun h1 => ?_) (fun h1 => ?_)
  · obtain ⟨rfl, hlen⟩ : rp = lm (x * y) ∧ lenV (x * y) ≤ 67108864 := by
      rcases hp with ⟨_, h1, h2⟩ | ⟨h1, _⟩
      · exact ⟨h1, h2⟩
      · omega
    have hlp := lenV_lm hlen
    refine jc_seq ?_
    refine jc_region ?_
    refine jo_l (ly_mv rfl) (hd 22 rfl) ?_
    refine jo_l (ly_mv rfl) (hd 23 rfl) ?_
    refine jo_call Try.f83 (divide_v (x * y) m (by omega) (by omega) (by omega)) rfl Try.func83 rfl rfl (ovL_cons rfl (ovL_cons rfl ovL_nil)) (.cons .n (.cons .n .nil)) (hd 24 rfl) ?_ (fun ch hp => by simp at hp)
    rintro y hy; injection hy with hy; subst hy
    refine jo_l (ly_mv rfl) (hd 21 rfl) ?_
    refine jo_l (ly_ext rfl rfl) (hd 25 rfl) ?_
    refine jo_l (ly_ext rfl rfl) (hd 26 rfl) ?_
    refine jo_l (ly_as rfl) (hd 9 rfl) ?_
    refine jo_l (ly_as rfl) (hd 10 rfl) ?_
    refine jo_nil ?_
    refine jc_seq ?_
    refine jc_region ?_
    refine jo_l (ly_mv rfl) (hd 27 rfl) ?_
    refine jo_l (ly_as rfl) (hd 6 rfl) ?_
    refine jo_nil ?_
    refine jc_ret ?_
    refine ⟨_, _, (.cons rfl .nil), .n, ?_⟩
    rw [rn_pos hxy hm]
  · refine jc_skip ?_
    refine jc_seq ?_
    refine jc_region ?_
    refine jo_l (ly_as rfl) (hd 11 rfl) ?_
    refine jo_nil ?_
    refine jc_seq ?_
    refine jc_seq ?_
    refine jc_nilN (k := .u64) 11 rfl ?_
    refine jc_region ?_
    refine jo_l (ly_mv rfl) (hd 28 rfl) ?_
    refine jo_l (ly_lenn sl28 rfl) (hd 29 rfl) ?_
    refine jo_l (ly_sub rfl rfl (wrap_i64 (by omega) (by omega))) (hd 30 rfl) ?_
    refine jo_l (ly_as rfl) (hd 12 rfl) ?_
    refine jo_nil ?_
    refine jc_block ?_
    refine jc_loopD (G := Nat) 0 (fun k => k ≤ (lm y).length) (fun k => [(11, .n false .u64 (lm (x * vl ((lm y).drop k) % m))), (12, .i .i64 ((k : Int) - 1)), (31, .u), (32, .u), (33, .u), (34, .u), (35, .u), (36, .u), (37, .u), (38, .u), (39, .u), (40, .u), (41, .u), (42, .u), (43, .u), (44, .u), (45, .u), (46, .u), (47, .u), (48, .u), (49, .u), (50, .u), (51, .u), (52, .u), (53, .u), (54, .u), (55, .u), (56, .u), (57, .u), (58, .u)]) (fun k => []) (fun k => k) (lm y).length ?_ ?_ rfl hR rfl (fun _ _ => rfl) (fun g _ => .nil) ?_
    · exact Nat.le_refl _
    · exact (.cons (by show some (V.n false .u64 []) = some (V.n false .u64 (lm (x * vl ((lm y).drop (lm y).length) % m))); rw [List.drop_length]; show _ = some (V.n false .u64 (lm (x * 0 % m))); rw [Int.mul_zero, Int.zero_emod, lm_0]) (.cons rfl (.u (.u (.u (.u (.u (.u (.u (.u (.u (.u (.u (.u (.u (.u (.u (.u (.u (.u (.u (.u (.u (.u (.u (.u (.u (.u (.u (.u .nil))))))))))))))))))))))))))))))
    · rintro k hk
      have hC := hmb (x * vl ((lm y).drop k))
      have hlC := hlm (x * vl ((lm y).drop k) % m) hC.1 hC.2
      have hyk := u64s_getD (lm_u y) (k - 1)
      have hB0 : 0 ≤ (18446744073709551616 * (x * vl ((lm y).drop k) % m)) := by omega
      have hr1 := rn_pos hB0 hm
      have hrb := hmb (18446744073709551616 * (x * vl ((lm y).drop k) % m))
      rw [← hr1] at hrb
      have hlr := hlm _ hrb.1 hrb.2
      have hxk : 0 ≤ x * ((lm y).getD (k - 1) 0) := Int.mul_nonneg hx0 hyk.1
      have hNm : Spec Try.prog 48 [.n false .u64 (0 :: lm (x * vl ((lm y).drop k) % m))] (fun o => o = .ret (.n true .u64 (lm (18446744073709551616 * (x * vl ((lm y).drop k) % m))))) := by have h := Norm_s (0 :: lm (x * vl ((lm y).drop k) % m)) (by simp only [List.length_cons]; omega); rwa [lm_cons0 hC.1] at h
      have hlB : (lm (18446744073709551616 * (x * vl ((lm y).drop k) % m))).length ≤ (lm (x * vl ((lm y).drop k) % m)).length + 1 := by rw [← lm_cons0 hC.1]; exact Nat.le_trans (trm_len _) (by simp)
      have hlb2 : 0 < k → (lm (x * ((lm y).getD (k - 1) 0))).length ≤ (lm x).length + 1 := fun _ => by have h := lb_trm (a := lm x) (lm_u x) hyk.1 hyk.2; rw [vl_lm hx0] at h; rw [← h]; exact Nat.le_trans (trm_len _) (by unfold lbL; simp [lbN_len])
      have hLb : Spec Try.prog 108 [.n false .u64 (lm x), .i .u64 ((lm y).getD (k - 1) 0)] (fun o => o = .ret (.n true .u64 (lm (x * ((lm y).getD (k - 1) 0))))) := by have h := limb_s (lm x) ((lm y).getD (k - 1) 0) (by omega) (lm_u x) hyk.1 hyk.2; rwa [vl_lm hx0] at h
      refine jc_seq ?_
      refine jc_seq ?_
      refine jc_region ?_
      refine jo_l (ly_mv rfl) (hd 31 rfl) ?_
      refine jo_l (ly_ge rfl rfl) (hd 32 rfl) ?_
      refine jo_nil ?_
      refine jc_if rfl (fun h2 => ?_) (fun h2 => ?_)
      · have hk0 : 0 < k := by omega
        have hlb3 := hlb2 hk0
        have hPl : Spec Try.prog 107 [.n false .u64 (lm (rn (18446744073709551616 * (x * vl ((lm y).drop k) % m)) m)), .n false .u64 (lm (x * ((lm y).getD (k - 1) 0)))] (fun o => o = .ret (.n true .u64 (lm (rn (18446744073709551616 * (x * vl ((lm y).drop k) % m)) m + x * ((lm y).getD (k - 1) 0))))) := by
          have h := plus_s (lm (rn (18446744073709551616 * (x * vl ((lm y).drop k) % m)) m)) (lm (x * ((lm y).getD (k - 1) 0))) (by omega) (by omega) (lm_u _) (lm_u _)
          rwa [vl_lm hrb.1, vl_lm hxk] at h
        have hstep : rn (rn (18446744073709551616 * (x * vl ((lm y).drop k) % m)) m + x * ((lm y).getD (k - 1) 0)) m = x * vl ((lm y).drop (k - 1)) % m := by
          rw [rn_pos (by omega) hm, hr1, times_step rfl, drop_cons' (l := lm y) (i := k - 1) (by omega), show k - 1 + 1 = k by omega]
          rfl
        have hps : (lm (rn (18446744073709551616 * (x * vl ((lm y).drop k) % m)) m + x * ((lm y).getD (k - 1) 0))).length ≤ max (lm (rn (18446744073709551616 * (x * vl ((lm y).drop k) % m)) m)).length (lm (x * ((lm y).getD (k - 1) 0))).length + 1 := by
          have h := plus_trm (lm_u (rn (18446744073709551616 * (x * vl ((lm y).drop k) % m)) m)) (lm_u (x * ((lm y).getD (k - 1) 0)))
          rw [vl_lm hrb.1, vl_lm hxk] at h
          rw [← h]
          exact Nat.le_trans (trm_len _) (by rw [adN_len]; exact Nat.le_refl _)
        refine jc_skip ?_
        refine jc_seq ?_
        refine jc_block ?_
        refine jc_seq ?_
        refine jc_region ?_
        refine jo_h (hy_mk (m := 1) el28 rfl rfl rfl (by decide) (by decide) rfl) (hd 35 rfl) ?_
        refine jo_l (ly_mv rfl) (hd 36 rfl) ?_
        refine jo_app el28 rfl rfl rfl rfl src_n (by omega) (by unfold maxLen; omega) (hd 37 rfl) ?_
        refine jo_l (ly_as rfl) (hd 11 rfl) ?_
        refine jo_nil ?_
        refine jc_seq ?_
        refine jc_region ?_
        refine jo_frz (k := .u64) (l := 0 :: lm (x * vl ((lm y).drop k) % m)) (l' := 0 :: lm (x * vl ((lm y).drop k) % m)) 11 rfl rfl (by simp only [List.length_cons]; omega) (by rw [List.drop_zero, List.take_of_length_le (by simp only [List.length_cons]; omega)]) hL ?_
        refine jo_l (ly_mv rfl) (hd 39 rfl) ?_
        refine jo_call Try.f48 (hNm) rfl Try.func48 rfl rfl (ovL_cons rfl ovL_nil) (.cons .n .nil) (hd 40 rfl) ?_ (fun ch hp => by simp at hp)
        rintro y hy; injection hy with hy; subst hy
        refine jo_l (ly_mv rfl) (hd 41 rfl) ?_
        refine jo_call Try.f83 (divide_v (18446744073709551616 * (x * vl ((lm y).drop k) % m)) m (by omega) (by omega) (by omega)) rfl Try.func83 rfl rfl (ovL_cons rfl (ovL_cons rfl ovL_nil)) (.cons .n (.cons .n .nil)) (hd 42 rfl) ?_ (fun ch hp => by simp at hp)
        rintro y hy; injection hy with hy; subst hy
        refine jo_l (ly_mv rfl) (hd 38 rfl) ?_
        refine jo_l (ly_ext rfl rfl) (hd 43 rfl) ?_
        refine jo_l (ly_ext rfl rfl) (hd 44 rfl) ?_
        refine jo_l (ly_as rfl) (hd 11 rfl) ?_
        refine jo_nil ?_
        refine jc_seq ?_
        refine jc_region ?_
        refine jo_l (ly_mv rfl) (hd 45 rfl) ?_
        refine jo_l (ly_mv rfl) (hd 46 rfl) ?_
        refine jo_l (ly_mv rfl) (hd 47 rfl) ?_
        refine jo_l (ly_mv rfl) (hd 48 rfl) ?_
        refine jo_l (ly_ian (i := k - 1) sl28 rfl rfl (by omega) (by omega)) (hd 49 rfl) ?_
        refine jo_l (ly_ldq one82 rfl rfl) (hd 50 rfl) ?_
        refine jo_call Try.f108 (hLb) rfl Try.func108 rfl rfl (ovL_cons rfl (ovL_cons rfl ovL_nil)) (.cons .n (.cons .i .nil)) (hd 51 rfl) ?_ (fun ch hp => by simp at hp)
        rintro y hy; injection hy with hy; subst hy
        refine jo_call Try.f107 (hPl) rfl Try.func107 rfl rfl (ovL_cons rfl (ovL_cons rfl ovL_nil)) (.cons .n (.cons .n .nil)) (hd 52 rfl) ?_ (fun ch hp => by simp at hp)
        rintro y hy; injection hy with hy; subst hy
        refine jo_l (ly_as rfl) (hd 11 rfl) ?_
        refine jo_nil ?_
        refine jc_region ?_
        refine jo_l (ly_mv rfl) (hd 54 rfl) ?_
        refine jo_l (ly_mv rfl) (hd 55 rfl) ?_
        refine jo_call Try.f83 (divide_v (rn (18446744073709551616 * (x * vl ((lm y).drop k) % m)) m + x * ((lm y).getD (k - 1) 0)) m (by omega) (by omega) (by omega)) rfl Try.func83 rfl rfl (ovL_cons rfl (ovL_cons rfl ovL_nil)) (.cons .n (.cons .n .nil)) (hd 56 rfl) ?_ (fun ch hp => by simp at hp)
        rintro y hy; injection hy with hy; subst hy
        refine jo_l (ly_mv rfl) (hd 53 rfl) ?_
        refine jo_l (ly_ext rfl rfl) (hd 57 rfl) ?_
        refine jo_l (ly_ext rfl rfl) (hd 58 rfl) ?_
        refine jo_l (ly_as rfl) (hd 11 rfl) ?_
        refine jo_nil ?_
        refine jc_region ?_
        refine jo_l (ly_mv rfl) (hd 33 rfl) ?_
        refine jo_l (ly_sub rfl rfl (wrap_i64 (by omega) (by omega))) (hd 34 rfl) ?_
        refine jo_l (ly_as rfl) (hd 12 rfl) ?_
        refine jo_nil ?_
        refine ⟨k - 1, ?_, ?_, rfl, cov_n 64 rfl rfl ?_⟩
        · omega
        · omega
        · exact (.cons (by show some (V.n false .u64 _) = some (V.n false .u64 _); rw [hstep]) (.cons (by show some (V.i .i64 _) = some (V.i .i64 _); congr 2; omega) (.u (.u (.u (.u (.u (.u (.u (.u (.u (.u (.u (.u (.u (.u (.u (.u (.u (.u (.u (.u (.u (.u (.u (.u (.u (.u (.u (.u .nil))))))))))))))))))))))))))))))
      · obtain rfl : k = 0 := by omega
        refine jc_exit ?_
        refine jc_seq ?_
        refine jc_region ?_
        refine jo_l (ly_mv rfl) (hd 59 rfl) ?_
        refine jo_l (ly_as rfl) (hd 6 rfl) ?_
        refine jo_nil ?_
        refine jc_ret ?_
        refine ⟨_, _, (.cons rfl .nil), .n, ?_⟩
        rw [List.drop_zero, vl_lm hy0]
end Go.Proofs.Ythocbnfkjlgclaa.Vc

/- Contract of div.Power. -/
set_option linter.unusedVariables false
set_option linter.unusedSimpArgs false
namespace Go.Proofs.Ythocbnfkjlgclaa.Vc
open Go Go.RowKit
theorem mul_emod_r (a b m : Int) : a * (b % m) % m = a * b % m := by rw [Int.mul_emod, Int.emod_emod, ← Int.mul_emod]

set_option maxHeartbeats 4000000 in
theorem Power_s (v m : Int) (e : List Int) (hv0 : 0 ≤ v) (hm : 0 < m) (lmb : lenV m ≤ 67108864) (hlv : (lm v).length < 4294967296) (he : e.length < 4294967296) (ue : u64s e) : Spec Try.prog 49 [.n false .u64 (lm v), .n false .u64 e, .n false .u64 (lm m)] (fun o => o = .ret (.t [.n false .u64 (lm (v ^ (vl e).toNat % m)), .i .i64 0])) := by
  refine spec_of' [(0, .n false .u64 (lm v)), (1, .n false .u64 e), (2, .n false .u64 (lm m))] rfl Try.func49 rfl (Nat.le_of_ble_eq_true rfl) fun Γ hN hds hL hR => ?_
  have hd : ∀ d, Nat.blt d 52 = true → d < Γ.N := fun d h => by rw [hN]; exact Nat.le_of_ble_eq_true h
  have hmb := fun v => emod_nn (v := v) hm
  have hlm := fun (v : Int) (h0 : 0 ≤ v) (h1 : v < m) => lenV_lm (v := v) (Nat.le_trans (lenV_mono (w := m) (by omega)) lmb)
  have hmm := lenV_lm lmb
  have hrv := rn_pos hv0 hm
  have hrvb := hmb v
  rw [← hrv] at hrvb
  have hlrv := hlm _ hrvb.1 hrvb.2
  have hne := lm_ne (v := m) (by omega)
  have hEn : lenN e = nbits (vl e).toNat := lenN_nbits ue
  have hEl := lenN_le e
  have hl1 : lm 1 = [1] := by rw [← fl_lm (by decide) (by decide)]; rfl
  have h1m : Spec Try.prog 83 [.n false .u64 [1], .n false .u64 (lm m)] (fun o => o = .ret (.t [.n false .u64 (lm (qn 1 m)), .n false .u64 (lm (rn 1 m))])) := by have h := divide_v 1 m (by rw [hl1]; decide) (by omega) (by omega); rwa [hl1] at h
  have hr1m := rn_pos (v := 1) (by decide) hm
  refine jc_seq ?_
  refine jc_region ?_
  refine jo_l (ly_as rfl) (hd 6 rfl) ?_
  refine jo_l (ly_as rfl) (hd 7 rfl) ?_
  refine jo_nil ?_
  refine jc_seq ?_
  refine jc_region ?_
  refine jo_l (ly_mv rfl) (hd 11 rfl) ?_
  refine jo_call Try.f48 (Norm_v m (by omega)) rfl Try.func48 rfl rfl (ovL_cons rfl ovL_nil) (.cons .n .nil) (hd 12 rfl) ?_ (fun ch hp => by simp at hp)
  rintro y hy; injection hy with hy; subst hy
  refine jo_l (ly_as rfl) (hd 2 rfl) ?_
  refine jo_nil ?_
  refine jc_seq ?_
  refine jc_seq ?_
  refine jc_region ?_
  refine jo_l (ly_mv rfl) (hd 13 rfl) ?_
  refine jo_l (ly_lenn sl28 rfl) (hd 14 rfl) ?_
  refine jo_l (ly_ff (ly_eq rfl rfl) (fun h => hne (List.eq_nil_of_length_eq_zero (by omega)))) (hd 15 rfl) ?_
  refine jo_nil ?_
  refine jc_litf rfl ?_
  refine jc_skip ?_
  refine jc_seq ?_
  refine jc_region ?_
  refine jo_l (ly_mv rfl) (hd 17 rfl) ?_
  refine jo_call Try.f48 (Norm_v v (by omega)) rfl Try.func48 rfl rfl (ovL_cons rfl ovL_nil) (.cons .n .nil) (hd 18 rfl) ?_ (fun ch hp => by simp at hp)
  rintro y hy; injection hy with hy; subst hy
  refine jo_l (ly_mv rfl) (hd 19 rfl) ?_
  refine jo_call Try.f83 (divide_v v m (by omega) (by omega) (by omega)) rfl Try.func83 rfl rfl (ovL_cons rfl (ovL_cons rfl ovL_nil)) (.cons .n (.cons .n .nil)) (hd 20 rfl) ?_ (fun ch hp => by simp at hp)
  rintro y hy; injection hy with hy; subst hy
  refine jo_l (ly_mv rfl) (hd 16 rfl) ?_
  refine jo_l (ly_ext rfl rfl) (hd 21 rfl) ?_
  refine jo_l (ly_ext rfl rfl) (hd 22 rfl) ?_
  refine jo_l (ly_as rfl) (hd 0 rfl) ?_
  refine jo_nil ?_
  refine jc_seq ?_
  refine jc_region ?_
  refine jo_h (hy_lit (id := 0) (xs := [.const (.int .u64 1)]) el28 rfl (ovL_cons rfl ovL_nil) rfl (all2_of rfl) (by decide) rfl) (hd 24 rfl) ?_
  refine jo_l (ly_mv rfl) (hd 25 rfl) ?_
  refine jo_frz (k := .u64) (l := [1]) (l' := [1]) 24 rfl rfl (Nat.le_refl _) rfl hL ?_
  refine jo_call Try.f83 (h1m) rfl Try.func83 rfl rfl (ovL_cons rfl (ovL_cons rfl ovL_nil)) (.cons .n (.cons .n .nil)) (hd 26 rfl) ?_ (fun ch hp => by simp at hp)
  rintro y hy; injection hy with hy; subst hy
  refine jo_l (ly_mv rfl) (hd 23 rfl) ?_
  refine jo_l (ly_ext rfl rfl) (hd 27 rfl) ?_
  refine jo_l (ly_ext rfl rfl) (hd 28 rfl) ?_
  refine jo_l (ly_as rfl) (hd 8 rfl) ?_
  refine jo_l (ly_as rfl) (hd 9 rfl) ?_
  refine jo_nil ?_
  refine jc_seq ?_
  refine jc_seq ?_
  refine jc_region ?_
  refine jo_l (ly_mv rfl) (hd 29 rfl) ?_
  refine jo_call Try.f54 (Length_s e (by omega) ue) rfl Try.func54 rfl rfl (ovL_cons rfl ovL_nil) (.cons .n .nil) (hd 30 rfl) ?_ (fun ch hp => by simp at hp)
  rintro y hy; injection hy with hy; subst hy
  refine jo_l (ly_sub rfl rfl (wrap_i64 (by omega) (by omega))) (hd 31 rfl) ?_
  refine jo_l (ly_as rfl) (hd 10 rfl) ?_
  refine jo_nil ?_
  refine jc_block ?_
  refine jc_loopF (G := Nat) (fun k => k ≤ nbits (vl e).toNat) (fun k => [(9, .n false .u64 (lm (v ^ ((vl e).toNat / 2 ^ k) % m))), (10, .i .i64 ((k : Int) - 1)), (32, .u), (33, .u), (34, .u), (35, .u), (36, .u), (37, .u), (38, .u), (39, .u), (40, .u), (41, .u), (42, .u), (43, .u), (44, .u), (45, .u), (46, .u), (47, .u)]) (fun _ => _) (fun k => k) (nbits (vl e).toNat) ?_ ?_ rfl ?_
  · exact Nat.le_refl _
  · exact (.cons (by show some (V.n false .u64 (lm (rn 1 m))) = some (V.n false .u64 (lm (v ^ ((vl e).toNat / 2 ^ nbits (vl e).toNat) % m))); rw [nbits_top, Int.pow_zero, hr1m]) (.cons (by show some (V.i .i64 _) = some (V.i .i64 _); rw [hEn]) (.u (.u (.u (.u (.u (.u (.u (.u (.u (.u (.u (.u (.u (.u (.u (.u .nil))))))))))))))))))
  · rintro k hk
    have hC := hmb (v ^ ((vl e).toNat / 2 ^ k))
    have hlC := hlm _ hC.1 hC.2
    have hS := hmb ((v ^ ((vl e).toNat / 2 ^ k) % m) * (v ^ ((vl e).toNat / 2 ^ k) % m))
    have hlS := hlm _ hS.1 hS.2
    refine jc_seq ?_
    refine jc_seq ?_
    refine jc_region ?_
    refine jo_l (ly_mv rfl) (hd 32 rfl) ?_
    refine jo_l (ly_ge rfl rfl) (hd 33 rfl) ?_
    refine jo_nil ?_
    refine jc_if rfl (fun h2 => ?_) (fun h2 => ?_)
    · have hk0 : 0 < k := by omega
      refine jc_skip ?_
      refine jc_meetH (G := Unit) (fun _ => True) (fun _ => [(9, .n false .u64 (lm (v ^ ((vl e).toNat / 2 ^ (k - 1)) % m))), (36, .u), (37, .u), (38, .u), (39, .u), (40, .u), (41, .u), (42, .u), (43, .u), (44, .u), (45, .u), (46, .u), (47, .u)]) ?_ ?_
      · refine jc_block ?_
        refine jc_seq ?_
        refine jc_region ?_
        refine jo_l (ly_mv rfl) (hd 36 rfl) ?_
        refine jo_l (ly_mv rfl) (hd 37 rfl) ?_
        refine jo_l (ly_mv rfl) (hd 38 rfl) ?_
        refine jo_call Try.f84 (times_s (v ^ ((vl e).toNat / 2 ^ k) % m) (v ^ ((vl e).toNat / 2 ^ k) % m) m hC.1 hC.1 hm lmb (by omega) (by omega)) rfl Try.func84 rfl rfl (ovL_cons rfl (ovL_cons rfl (ovL_cons rfl ovL_nil))) (.cons .n (.cons .n (.cons .n .nil))) (hd 39 rfl) ?_ (fun ch hp => by simp at hp)
        rintro y hy; injection hy with hy; subst hy
        refine jo_l (ly_as rfl) (hd 9 rfl) ?_
        refine jo_nil ?_
        refine jc_seq ?_
        refine jc_region ?_
        refine jo_l (ly_mv rfl) (hd 40 rfl) ?_
        refine jo_l (ly_is (ly_mv rfl) (show V.i .i64 _ = V.i .i64 ((k - 1 : Nat) : Int) by congr 1; omega)) (hd 41 rfl) ?_
        refine jo_call Try.f85 (Bit_r e (k - 1) (by omega) ue (by omega)) rfl Try.func85 rfl rfl (ovL_cons rfl (ovL_cons rfl ovL_nil)) (.cons .n (.cons .i .nil)) (hd 42 rfl) ?_ (fun ch hp => by simp at hp)
        rintro y hy; injection hy with hy; subst hy
        refine jo_l (ly_eq rfl rfl) (hd 43 rfl) ?_
        refine jo_nil ?_
        refine jc_if rfl (fun h3 => ?_) (fun h3 => ?_)
        · refine jc_region ?_
          refine jo_l (ly_mv rfl) (hd 44 rfl) ?_
          refine jo_l (ly_mv rfl) (hd 45 rfl) ?_
          refine jo_l (ly_mv rfl) (hd 46 rfl) ?_
          refine jo_call Try.f84 (times_s ((v ^ ((vl e).toNat / 2 ^ k) % m) * (v ^ ((vl e).toNat / 2 ^ k) % m) % m) (rn v m) m hS.1 hrvb.1 hm lmb (by omega) (by omega)) rfl Try.func84 rfl rfl (ovL_cons rfl (ovL_cons rfl (ovL_cons rfl ovL_nil))) (.cons .n (.cons .n (.cons .n .nil))) (hd 47 rfl) ?_ (fun ch hp => by simp at hp)
          rintro y hy; injection hy with hy; subst hy
          refine jo_l (ly_as rfl) (hd 9 rfl) ?_
          refine jo_nil ?_
          refine ⟨(), ?_, rfl, cov_n 14 rfl rfl ?_⟩
          · trivial
          · exact (.cons (by show some (V.n false .u64 _) = some (V.n false .u64 _); rw [hrv, mul_emod_r, pow_mul (by omega) (by omega)]) (.u (.u (.u (.u (.u (.u (.u (.u (.u (.u (.u (.u .nil)))))))))))))
        · refine jc_skip ?_
          refine ⟨(), ?_, rfl, cov_n 9 rfl rfl ?_⟩
          · trivial
          · exact (.cons (by show some (V.n false .u64 _) = some (V.n false .u64 _); rw [pow_sq (by omega) (by omega)]) (.u (.u (.u (.u (.u (.u (.u (.u (.u (.u (.u (.u .nil)))))))))))))
      · rintro _ _
        refine jc_region ?_
        refine jo_l (ly_mv rfl) (hd 34 rfl) ?_
        refine jo_l (ly_sub rfl rfl (wrap_i64 (by omega) (by omega))) (hd 35 rfl) ?_
        refine jo_l (ly_as rfl) (hd 10 rfl) ?_
        refine jo_nil ?_
        refine ⟨k - 1, ?_, ?_, rfl, cov_n 36 rfl rfl ?_⟩
        · omega
        · omega
        · exact (.cons rfl (.cons (by show some (V.i .i64 _) = some (V.i .i64 _); congr 2; omega) (.u (.u (.u (.u (.u (.u (.u (.u (.u (.u (.u (.u (.u (.u (.u (.u .nil))))))))))))))))))
    · obtain rfl : k = 0 := by omega
      refine jc_exit ?_
      refine jc_seq ?_
      refine jc_seq ?_
      refine jc_region ?_
      refine jo_l (ly_mv rfl) (hd 48 rfl) ?_
      refine jo_call Try.f54 (Length_v (v ^ ((vl e).toNat / 2 ^ 0) % m) (by omega)) rfl Try.func54 rfl rfl (ovL_cons rfl ovL_nil) (.cons .n .nil) (hd 49 rfl) ?_ (fun ch hp => by simp at hp)
      rintro y hy; injection hy with hy; subst hy
      refine jo_l (ly_ff (ly_gt rfl rfl) (by have := lenV_mono (v := v ^ ((vl e).toNat / 2 ^ 0) % m) (w := m) (by omega); omega)) (hd 50 rfl) ?_
      refine jo_nil ?_
      refine jc_litf rfl ?_
      refine jc_skip ?_
      refine jc_seq ?_
      refine jc_region ?_
      refine jo_l (ly_mv rfl) (hd 51 rfl) ?_
      refine jo_l (ly_as rfl) (hd 6 rfl) ?_
      refine jo_l (ly_as rfl) (hd 7 rfl) ?_
      refine jo_nil ?_
      refine jc_ret ?_
      refine ⟨_, _, (.cons rfl (.cons rfl .nil)), (.t1 .n (.t1 .i .t0)), ?_⟩
      rw [Nat.pow_zero, Nat.div_one]
end Go.Proofs.Ythocbnfkjlgclaa.Vc

/- Contracts of whole.PowMod. -/
set_option linter.unusedVariables false
set_option linter.unusedSimpArgs false
namespace Go.Proofs.Ythocbnfkjlgclaa.Vc
open Go Go.RowKit
set_option maxHeartbeats 4000000 in
theorem PowMod_z (s t : Bool) (a b e : List Int) (v w : Int) (la : a.length < 4294967296) (lb : b.length < 4294967296) (le : e.length < 4294967296) (ua : u64s a) (ub : u64s b) (ue : u64s e) (ev : sv s a = v) (ew : sv t b = w) (hv : lenV v ≤ 67108864) (hw : lenV w ≤ 67108864) (h0 : w ≠ 0) : Spec Try.prog 10 [.a [.b s, .n false .u64 a], .n false .u64 e, .a [.b t, .n false .u64 b]] (fun o => o = .ret (.t [.a [.b (decide ((v ^ (vl e).toNat % w) < 0)), .n true .u64 (lm (v ^ (vl e).toNat % w))], .i .i64 0])) := by
  refine spec_of' [(0, .a [.b s, .n false .u64 a]), (1, .n false .u64 e), (2, .a [.b t, .n false .u64 b])] rfl Try.func10 rfl (Nat.le_of_ble_eq_true rfl) fun Γ hN hds hL hR => ?_
  have hd : ∀ d, Nat.blt d 45 = true → d < Γ.N := fun d h => by rw [hN]; exact Nat.le_of_ble_eq_true h
  have hlv := lenV_lm hv
  have hlw := lenV_lm hw
  have hab : (w.natAbs : Int) ≠ 0 := by omega
  have hla : lm (w.natAbs : Int) = lm w := by unfold lm; rw [Int.natAbs_natCast]
  have hlen : lenV (w.natAbs : Int) = lenV w := by unfold lenV; rw [Int.natAbs_natCast]
  have htb : trm b = lm w := (raw_res ub ew).2.1
  have hNb : Spec Try.prog 48 [.n false .u64 b] (fun o => o = .ret (.n true .u64 (lm w))) := by have h := Norm_s b (by omega); rwa [htb] at h
  have hne := lm_ne h0
  have hsv : sv false (lm w) = (w.natAbs : Int) := by show vl (lm w) = _; rw [lm_v]
  have hR : (v - wq 4 v (w.natAbs : Int) * (w.natAbs : Int)) = v % w := by rw [euc hab, emod_abs]
  have hRb : 0 ≤ v % w ∧ v % w < (w.natAbs : Int) := by have := emod_nn (v := v) (w := (w.natAbs : Int)) (by omega); rwa [emod_abs] at this
  have hlR := lenV_lm (v := v % w) (by have := lenV_mono (v := v % w) (w := w) (by omega); omega)
  have hXb : 0 ≤ (v ^ (vl e).toNat % w) ∧ (v ^ (vl e).toNat % w) < (w.natAbs : Int) := by have := emod_nn (v := v ^ (vl e).toNat) (w := (w.natAbs : Int)) (by omega); rwa [emod_abs] at this
  have hlX := lenV_mono (v := (v ^ (vl e).toNat % w)) (w := w) (by omega)
  have hlX2 := lenV_lm (v := (v ^ (vl e).toNat % w)) (by omega)
  have hEu : Spec Try.prog 12 [.a [.b s, .n false .u64 a], .a [.b false, .n false .u64 (lm w)]] (fun o => o = .ret (.t [.a [.b (decide (wq 4 v (w.natAbs : Int) < 0)), .n true .u64 (lm (wq 4 v (w.natAbs : Int)))], .a [.b (decide (v % w < 0)), .n true .u64 (lm (v % w))], .i .i64 0])) := by have h := Euclid_z s false a (lm w) v (w.natAbs : Int) (by omega) (by omega) ua (lm_u w) ev hsv hv (by omega) hab; rwa [hR] at h
  have hPw : Spec Try.prog 49 [.n false .u64 (lm (v % w)), .n false .u64 e, .n false .u64 (lm w)] (fun o => o = .ret (.t [.n false .u64 (lm (v ^ (vl e).toNat % w)), .i .i64 0])) := by have h := Power_s (v % w) (w.natAbs : Int) e hRb.1 (by omega) (by omega) (by omega) le ue; rw [hla, rest_pow] at h; exact h
  refine jc_seq ?_
  refine jc_region ?_
  refine jo_h (hy_box (id := 0) (n := 2) rfl rfl rfl (by decide) rfl) (hd 3 rfl) ?_
  refine jo_h (hy_box (id := 1) (n := 2) rfl rfl rfl (by decide) rfl) (hd 5 rfl) ?_
  refine jo_h (hy_alloc (id := 2) zero30 (by decide) rfl (by decide) rfl) (hd 6 rfl) ?_
  refine jo_l (ly_as rfl) (hd 7 rfl) ?_
  refine jo_nil ?_
  refine jc_seq ?_
  refine jc_region ?_
  refine jo_l (ly_fa fld30_1 rfl rfl rfl) (hd 11 rfl) ?_
  refine jo_l (ly_ld one28 rfl rfl rfl) (hd 12 rfl) ?_
  refine jo_call Try.f48 (hNb) rfl Try.func48 rfl rfl (ovL_cons rfl ovL_nil) (.cons .n .nil) (hd 13 rfl) ?_ (fun ch hp => by simp at hp)
  rintro y hy; injection hy with hy; subst hy
  refine jo_l (ly_build (is := [1]) (xs := [.tmp 13]) zero30 pls30_1 rfl (ovL_cons rfl ovL_nil) rfl (by first | (simp [plsOk, cellsV]; done) | (simp [plsOk, cellsV, old]; done)) (all_of rfl) rfl) (hd 14 rfl) ?_
  refine jo_st (sy_store rfl rfl rfl siz30 rfl rfl (Nat.le_of_ble_eq_true rfl)) ?_
  refine jo_nil ?_
  refine jc_seq ?_
  refine jc_seq ?_
  refine jc_region ?_
  refine jo_l (ly_fa fld30_1 rfl rfl rfl) (hd 15 rfl) ?_
  refine jo_l (ly_ld one28 rfl rfl rfl) (hd 16 rfl) ?_
  refine jo_l (ly_lenn sl28 rfl) (hd 17 rfl) ?_
  refine jo_l (ly_ff (ly_eq rfl rfl) (fun h => hne (List.eq_nil_of_length_eq_zero (by omega)))) (hd 18 rfl) ?_
  refine jo_nil ?_
  refine jc_litf rfl ?_
  refine jc_skip ?_
  refine jc_seq ?_
  refine jc_region ?_
  refine jo_l (ly_lda agg30 rfl rfl rfl rfl) (hd 21 rfl) ?_
  refine jo_l (ly_lda agg30 rfl rfl rfl rfl) (hd 22 rfl) ?_
  refine jo_call Try.f12 (hEu) rfl Try.func12 rfl rfl (ovL_cons rfl (ovL_cons rfl ovL_nil)) (.cons (.a1 .b (.a1 .n .a0)) (.cons (.a1 .b (.a1 .n .a0)) .nil)) (hd 23 rfl) ?_ (fun ch hp => by simp at hp)
  rintro y hy; injection hy with hy; subst hy
  refine jo_l (ly_mv rfl) (hd 20 rfl) ?_
  refine jo_l (ly_ext rfl rfl) (hd 24 rfl) ?_
  refine jo_l (ly_ext rfl rfl) (hd 25 rfl) ?_
  refine jo_l (ly_ext rfl rfl) (hd 26 rfl) ?_
  refine jo_h (hy_alloc (id := 3) zero30 (by decide) rfl (by decide) rfl) (hd 8 rfl) ?_
  refine jo_st (sy_store rfl rfl rfl siz30 rfl rfl (Nat.le_of_ble_eq_true rfl)) ?_
  refine jo_st (sy_store rfl rfl rfl siz30 rfl rfl (Nat.le_of_ble_eq_true rfl)) ?_
  refine jo_l (ly_as rfl) (hd 9 rfl) ?_
  refine jo_nil ?_
  refine jc_seq ?_
  refine jc_seq ?_
  refine jc_region ?_
  refine jo_l (ly_mv rfl) (hd 27 rfl) ?_
  refine jo_l (ly_ff (ly_ne rfl rfl) (by decide)) (hd 28 rfl) ?_
  refine jo_nil ?_
  refine jc_litf rfl ?_
  refine jc_skip ?_
  refine jc_seq ?_
  refine jc_region ?_
  refine jo_l (ly_fa fld30_1 rfl rfl rfl) (hd 32 rfl) ?_
  refine jo_l (ly_ld one28 rfl rfl rfl) (hd 33 rfl) ?_
  refine jo_l (ly_mv rfl) (hd 34 rfl) ?_
  refine jo_l (ly_fa fld30_1 rfl rfl rfl) (hd 35 rfl) ?_
  refine jo_l (ly_ld one28 rfl rfl rfl) (hd 36 rfl) ?_
  refine jo_call Try.f49 (hPw) rfl Try.func49 rfl rfl (ovL_cons rfl (ovL_cons rfl (ovL_cons rfl ovL_nil))) (.cons .n (.cons .n (.cons .n .nil))) (hd 37 rfl) ?_ (fun ch hp => by simp at hp)
  rintro y hy; injection hy with hy; subst hy
  refine jo_l (ly_mv rfl) (hd 31 rfl) ?_
  refine jo_l (ly_ext rfl rfl) (hd 38 rfl) ?_
  refine jo_l (ly_ext rfl rfl) (hd 39 rfl) ?_
  refine jo_l (ly_as rfl) (hd 10 rfl) ?_
  refine jo_l (ly_as rfl) (hd 9 rfl) ?_
  refine jo_nil ?_
  refine jc_seq ?_
  refine jc_region ?_
  refine jo_l (ly_mv rfl) (hd 40 rfl) ?_
  refine jo_l (ly_mv rfl) (hd 41 rfl) ?_
  refine jo_call Try.f50 (result_v false (lm (v ^ (vl e).toNat % w)) (v ^ (vl e).toNat % w) (by omega) (lm_u _) (by show vl (lm _) = _; rw [vl_lm hXb.1]) (by omega)) rfl Try.func50 rfl rfl (ovL_cons rfl (ovL_cons rfl (ovL_cons rfl ovL_nil))) (.cons .b (.cons .n (.cons .i .nil))) (hd 42 rfl) ?_ (fun ch hp => by simp at hp)
  rintro y hy; injection hy with hy; subst hy
  refine jo_l (ly_ext rfl rfl) (hd 43 rfl) ?_
  refine jo_l (ly_ext rfl rfl) (hd 44 rfl) ?_
  refine jo_st (sy_store rfl rfl rfl siz30 rfl rfl (Nat.le_of_ble_eq_true rfl)) ?_
  refine jo_l (ly_as rfl) (hd 7 rfl) ?_
  refine jo_nil ?_
  refine jc_ret ?_
  refine ⟨_, _, (.cons (ResV.cell agg30 rfl rfl rfl rfl) (.cons rfl .nil)), (.t1 (.a1 .b (.a1 .n .a0)) (.t1 .i .t0)), ?_⟩
  exact rfl

end Go.Proofs.Ythocbnfkjlgclaa.Vc
