/- All five divisions of whole numbers answer as the document says, of every input of bulk at most 1048576 Texts joined: Wk, Wl, Wm, Wn, Wo, Wp, Wq, Wr, Ws, Wt, Wv, Wx, Wy, Wz, Ya, Yb, Ye. -/
import Derived.Test.YtcdipmjgpimmdaaK4
/- The contracts of the example (awake) and of surdlaw06.WholeNames. -/
set_option linter.unusedVariables false
set_option linter.unusedSimpArgs false
namespace Go.Proofs.Ytcdipmjgpimmdaa.Vc
open Go Go.RowKit
set_option maxHeartbeats 4000000 in
theorem num_s (n : Int) : Spec Try.prog 9 [.i .i64 n] (fun o => o = .ret (.i .i64 n)) := by
  refine spec_of' [(0, .i .i64 n)] rfl Try.func9 rfl (Nat.le_of_ble_eq_true rfl) fun Γ hN hds hL hR => ?_
  have hd : ∀ d, Nat.blt d 4 = true → d < Γ.N := fun d h => by rw [hN]; exact Nat.le_of_ble_eq_true h
  refine jc_seq ?_
  refine jc_region ?_
  refine jo_l (ly_as rfl) (hd 2 rfl) ?_
  refine jo_nil ?_
  refine jc_seq ?_
  refine jc_region ?_
  refine jo_l (ly_mv rfl) (hd 3 rfl) ?_
  refine jo_l (ly_as rfl) (hd 2 rfl) ?_
  refine jo_nil ?_
  refine jc_ret ?_
  refine ⟨_, _, (.cons rfl .nil), .i, ?_⟩
  exact rfl

set_option maxHeartbeats 4000000 in
theorem down_s (q r b : List Int) (s t u : Bool) : Spec Try.prog 95 [.n false .u64 q, .n false .u64 r, .n false .u64 b, .b s, .b t, .b u] (fun o => o = .ret (.b s)) := by
  refine spec_of' [(0, .n false .u64 q), (1, .n false .u64 r), (2, .n false .u64 b), (3, .b s), (4, .b t), (5, .b u)] rfl Try.func95 rfl (Nat.le_of_ble_eq_true rfl) fun Γ hN hds hL hR => ?_
  have hd : ∀ d, Nat.blt d 14 = true → d < Γ.N := fun d h => by rw [hN]; exact Nat.le_of_ble_eq_true h
  refine jc_seq ?_
  refine jc_region ?_
  refine jo_l (ly_as rfl) (hd 12 rfl) ?_
  refine jo_nil ?_
  refine jc_seq ?_
  refine jc_region ?_
  refine jo_l (ly_mv rfl) (hd 13 rfl) ?_
  refine jo_l (ly_as rfl) (hd 12 rfl) ?_
  refine jo_nil ?_
  refine jc_ret ?_
  refine ⟨_, _, (.cons rfl .nil), .b, ?_⟩
  exact rfl

set_option maxHeartbeats 4000000 in
set_option maxRecDepth 100000 in
theorem ways_s  : Spec Try.prog 82 [] (fun o => o = .ret (.a [.f 94 [], .f 95 [], .f 96 [], .f 97 [], .f 99 []])) := by
  refine spec_of' [] rfl Try.func82 rfl (Nat.le_of_ble_eq_true rfl) fun Γ hN hds hL hR => ?_
  have hd : ∀ d, Nat.blt d 2 = true → d < Γ.N := fun d h => by rw [hN]; exact Nat.le_of_ble_eq_true h
  refine jc_seq ?_
  refine jc_region ?_
  refine jo_h (hy_alloc (id := 0) zero102 (by decide) rfl (by decide) rfl) (hd 0 rfl) ?_
  refine jo_nil ?_
  refine jc_seq ?_
  refine jc_region ?_
  refine jo_l (ly_const (v := .agg #[.func (.func 94) #[] #[], .func (.func 95) #[] #[], .func (.func 96) #[] #[], .func (.func 97) #[] #[], .func (.func 99) #[] #[]]) (y := .a [.f 94 [], .f 95 [], .f 96 [], .f 97 [], .f 99 []]) (fun _ _ _ _ => ⟨[.func (.func 94) #[] #[], .func (.func 95) #[] #[], .func (.func 96) #[] #[], .func (.func 97) #[] #[], .func (.func 99) #[] #[]], rfl, _, _, rfl, ⟨[], rfl, rfl⟩, _, _, rfl, ⟨[], rfl, rfl⟩, _, _, rfl, ⟨[], rfl, rfl⟩, _, _, rfl, ⟨[], rfl, rfl⟩, _, _, rfl, ⟨[], rfl, rfl⟩, rfl⟩) (by intro a dst type pos after g w2; kernel_rfl)) (hd 1 rfl) ?_
  refine jo_st (sy_store rfl rfl rfl siz102 rfl rfl (Nat.le_of_ble_eq_true rfl)) ?_
  refine jo_nil ?_
  refine jc_ret ?_
  refine ⟨_, _, (.cons (ResV.cell agg102 rfl rfl rfl rfl) .nil), (.a1 .f (.a1 .f (.a1 .f (.a1 .f (.a1 .f .a0))))), ?_⟩
  exact rfl

set_option maxHeartbeats 4000000 in
theorem divide_ex  : Spec Try.prog 62 [.a [.b true, .n false .u64 [7]], .a [.b false, .n false .u64 [2]], .i .i64 1] (fun o => o = .ret (.t [.a [.b true, .n true .u64 [4]], .a [.b false, .n true .u64 [1]], .i .i64 0])) := by
  refine spec_of' [(0, .a [.b true, .n false .u64 [7]]), (1, .a [.b false, .n false .u64 [2]]), (2, .i .i64 1)] rfl Try.func62 rfl (Nat.le_of_ble_eq_true rfl) fun Γ hN hds hL hR => ?_
  have hd : ∀ d, Nat.blt d 103 = true → d < Γ.N := fun d h => by rw [hN]; exact Nat.le_of_ble_eq_true h
  have rA : Spec Try.prog 73 [.a [.b true, .n false .u64 [7]]] (fun o => o = .ret (.a [.b true, .n true .u64 [7]])) := norm_s true [7] (by decide)
  have rB : Spec Try.prog 73 [.a [.b false, .n false .u64 [2]]] (fun o => o = .ret (.a [.b false, .n true .u64 [2]])) := norm_s false [2] (by decide)
  have rD : Spec Try.prog 81 [.n false .u64 [7], .n false .u64 [2]] (fun o => o = .ret (.t [.n true .u64 [3], .n true .u64 [1], .i .i64 0])) := Both_1 7 2 (by decide) (by decide) (by decide) (by decide) (by decide)
  have rL : Spec Try.prog 66 [.n false .u64 [1]] (fun o => o = .ret (.i .i64 1)) := by have h := Length_s [1] (by decide) (u64s1 (v := 1) (by decide) (by decide)); rw [show lenN [1] = 1 by decide] at h; exact h
  have rF1 : Spec Try.prog 70 [.i .u64 1] (fun o => o = .ret (.n true .u64 [1])) := From_s 1
  have rS : Spec Try.prog 74 [.n false .u64 [3], .n false .u64 [1]] (fun o => o = .ret (.t [.n false .u64 [4], .i .i64 0])) := by have h := Add_ok [3] [1] (by decide) (by decide) (u64s1 (v := 3) (by decide) (by decide)) (u64s1 (v := 1) (by decide) (by decide)) (by decide); rw [show trm (sumL [3] [1]) = [4] by decide] at h; exact h
  have rM : Spec Try.prog 76 [.n false .u64 [2], .n false .u64 [1]] (fun o => o = .ret (.t [.n false .u64 [1], .i .i64 0])) := by have h := Sub_ok [2] [1] (by decide) (by decide) (u64s1 (v := 2) (by decide) (by decide)) (u64s1 (v := 1) (by decide) (by decide)) (by decide) (by decide); rw [show trm (difL [2] [1]) = [1] by decide] at h; exact h
  have rR4 : Spec Try.prog 75 [.b true, .n false .u64 [4], .i .i64 0] (fun o => o = .ret (.t [.a [.b true, .n true .u64 [4]], .i .i64 0])) := result_ok true [4] (by decide) (u64s1 (v := 4) (by decide) (by decide)) (by decide)
  have rR1 : Spec Try.prog 75 [.b false, .n false .u64 [1], .i .i64 0] (fun o => o = .ret (.t [.a [.b false, .n true .u64 [1]], .i .i64 0])) := result_ok false [1] (by decide) (u64s1 (v := 1) (by decide) (by decide)) (by decide)
  refine jc_seq ?_
  refine jc_region ?_
  refine jo_h (hy_box (id := 0) (n := 2) rfl rfl rfl (by decide) rfl) (hd 3 rfl) ?_
  refine jo_h (hy_box (id := 1) (n := 2) rfl rfl rfl (by decide) rfl) (hd 4 rfl) ?_
  refine jo_h (hy_alloc (id := 2) zero30 (by decide) rfl (by decide) rfl) (hd 6 rfl) ?_
  refine jo_h (hy_alloc (id := 3) zero30 (by decide) rfl (by decide) rfl) (hd 7 rfl) ?_
  refine jo_l (ly_as rfl) (hd 8 rfl) ?_
  refine jo_nil ?_
  refine jc_seq ?_
  refine jc_draw (n := 6) _ rfl mixed ?_
  refine ja_l2 0 [1, 3, 4, 5] (lo_l (ly_lda agg30 rfl rfl rfl rfl) (hd 16 rfl)) rfl (by kernel_rfl) (by kernel_rfl) (by kernel_rfl) (by kernel_rfl) (fun _ _ _ _ h => h) ?_
  refine ja_l2 2 [3, 4, 5] (lo_l (ly_lda agg30 rfl rfl rfl rfl) (hd 18 rfl)) rfl (by kernel_rfl) (by kernel_rfl) (by kernel_rfl) (by kernel_rfl) (fun _ _ _ _ h => h) ?_
  refine ja_1 1 ?_ rfl (by kernel_rfl)
  refine js_call Try.f73 (rA) rfl Try.func73 rfl rfl (ovL_cons rfl ovL_nil) (.cons (.a1 .b (.a1 .n .a0)) .nil) (hd 17 rfl) ?_ (fun ch hp => by simp at hp)
  rintro y hy; injection hy with hy; subst hy
  refine ja_1 3 ?_ rfl (by kernel_rfl)
  refine js_call Try.f73 (rB) rfl Try.func73 rfl rfl (ovL_cons rfl ovL_nil) (.cons (.a1 .b (.a1 .n .a0)) .nil) (hd 19 rfl) ?_ (fun ch hp => by simp at hp)
  rintro y hy; injection hy with hy; subst hy
  refine ja_1 4 ?_ rfl (by kernel_rfl)
  refine js_st (sy_store rfl rfl rfl siz30 rfl rfl (Nat.le_of_ble_eq_true rfl)) rfl ?_
  refine ja_1 5 ?_ rfl (by kernel_rfl)
  refine js_st (sy_store rfl rfl rfl siz30 rfl rfl (Nat.le_of_ble_eq_true rfl)) rfl ?_
  refine ja_nil (by kernel_rfl) ?_
  refine jc_seq ?_
  refine jc_region ?_
  refine jo_l (ly_fa fld30_1 rfl rfl rfl) (hd 21 rfl) ?_
  refine jo_l (ly_ld one28 rfl rfl rfl) (hd 22 rfl) ?_
  refine jo_l (ly_fa fld30_1 rfl rfl rfl) (hd 23 rfl) ?_
  refine jo_l (ly_ld one28 rfl rfl rfl) (hd 24 rfl) ?_
  refine jo_call Try.f81 (rD) rfl Try.func81 rfl rfl (ovL_cons rfl (ovL_cons rfl ovL_nil)) (.cons .n (.cons .n .nil)) (hd 25 rfl) ?_ (fun ch hp => by simp at hp)
  rintro y hy; injection hy with hy; subst hy
  refine jo_l (ly_mv rfl) (hd 20 rfl) ?_
  refine jo_l (ly_ext rfl rfl) (hd 26 rfl) ?_
  refine jo_l (ly_ext rfl rfl) (hd 27 rfl) ?_
  refine jo_l (ly_ext rfl rfl) (hd 28 rfl) ?_
  refine jo_l (ly_as rfl) (hd 9 rfl) ?_
  refine jo_l (ly_as rfl) (hd 10 rfl) ?_
  refine jo_l (ly_as rfl) (hd 11 rfl) ?_
  refine jo_nil ?_
  refine jc_seq ?_
  refine jc_seq ?_
  refine jc_region ?_
  refine jo_l (ly_mv rfl) (hd 29 rfl) ?_
  refine jo_l (ly_ff (ly_ne rfl rfl) (by simp)) (hd 30 rfl) ?_
  refine jo_nil ?_
  refine jc_litf rfl ?_
  refine jc_skip ?_
  refine jc_seq ?_
  refine jc_draw (n := 9) _ rfl mixed ?_
  refine ja_l2 0 [1, 4, 7, 8] (lo_l (ly_fa fld30_0 rfl rfl rfl) (hd 34 rfl)) rfl (by kernel_rfl) (by kernel_rfl) (by kernel_rfl) (by kernel_rfl) (fun _ _ _ _ h => h) ?_
  refine ja_l 1 (lo_l (ly_ld one4 rfl rfl rfl) (hd 35 rfl)) rfl (by kernel_rfl) (by kernel_rfl) (by kernel_rfl) (fun _ _ _ _ h => h) ?_
  refine ja_l2 2 [3, 4, 7, 8] (lo_l (ly_fa fld30_0 rfl rfl rfl) (hd 36 rfl)) rfl (by kernel_rfl) (by kernel_rfl) (by kernel_rfl) (by kernel_rfl) (fun _ _ _ _ h => h) ?_
  refine ja_l 3 (lo_l (ly_ld one4 rfl rfl rfl) (hd 37 rfl)) rfl (by kernel_rfl) (by kernel_rfl) (by kernel_rfl) (fun _ _ _ _ h => h) ?_
  refine ja_l 4 (lo_l (ly_is (ly_neb und4 rfl rfl) (show V.b (!(true == false)) = V.b true from rfl)) (hd 38 rfl)) rfl (by kernel_rfl) (by kernel_rfl) (by kernel_rfl) (fun _ _ _ _ h => h) ?_
  refine ja_l 5 (lo_l (ly_fa fld30_0 rfl rfl rfl) (hd 39 rfl)) rfl (by kernel_rfl) (by kernel_rfl) (by kernel_rfl) (fun _ _ _ _ h => h) ?_
  refine ja_l 6 (lo_l (ly_ld one4 rfl rfl rfl) (hd 40 rfl)) rfl (by kernel_rfl) (by kernel_rfl) (by kernel_rfl) (fun _ _ _ _ h => h) ?_
  refine ja_l 7 (lo_l (ly_as rfl) (hd 12 rfl)) rfl (by kernel_rfl) (by kernel_rfl) (by kernel_rfl) (fun _ _ _ _ h => h) ?_
  refine ja_l 8 (lo_l (ly_as rfl) (hd 13 rfl)) rfl (by kernel_rfl) (by kernel_rfl) (by kernel_rfl) (fun _ _ _ _ h => h) ?_
  refine ja_nil (by kernel_rfl) ?_
  refine jc_seq ?_
  refine jc_seq ?_
  refine jc_draw (n := 18) _ rfl mixed ?_
  refine ja_l2 0 [1, 2, 3, 4, 5, 6, 7, 8, 9, 10, 11, 12, 13, 14, 15, 16, 17] (lo_l (ly_mv rfl) (hd 41 rfl)) rfl (by kernel_rfl) (by kernel_rfl) (by kernel_rfl) (by kernel_rfl) (fun _ _ _ _ h => h) ?_
  refine ja_1 1 ?_ rfl (by kernel_rfl)
  refine js_call Try.f66 (rL) rfl Try.func66 rfl rfl (ovL_cons rfl ovL_nil) (.cons .n .nil) (hd 42 rfl) ?_ (fun ch hp => by simp at hp)
  rintro y hy; injection hy with hy; subst hy
  refine ja_l2 2 [3, 4, 5, 6, 7, 8, 9, 10, 11, 12, 13, 14, 15, 16, 17] (lo_l (ly_tt (ly_gt rfl rfl) (by decide)) (hd 43 rfl)) rfl (by kernel_rfl) (by kernel_rfl) (by kernel_rfl) (by kernel_rfl) (fun _ _ _ _ h => h) ?_
  refine ja_l 3 (lo_l (ly_mv rfl) (hd 44 rfl)) rfl (by kernel_rfl) (by kernel_rfl) (by kernel_rfl) (fun _ _ _ _ h => h) ?_
  refine ja_l2 5 [6, 16, 17] (lo_g 44 rfl rfl (ly_mv rfl) (hd 46 rfl)) rfl (by kernel_rfl) (by kernel_rfl) (by kernel_rfl) (by kernel_rfl) (fun _ _ _ _ h => h) ?_
  refine ja_l2 7 [16, 17] (lo_g 44 rfl rfl (ly_mv rfl) (hd 48 rfl)) rfl (by kernel_rfl) (by kernel_rfl) (by kernel_rfl) (by kernel_rfl) (fun _ _ _ _ h => h) ?_
  refine ja_l2 8 [16, 17] (lo_g 44 rfl rfl (ly_mv rfl) (hd 49 rfl)) rfl (by kernel_rfl) (by kernel_rfl) (by kernel_rfl) (by kernel_rfl) (fun _ _ _ _ h => h) ?_
  refine ja_l2 9 [10, 16, 17] (lo_g 44 rfl rfl (ly_fa fld30_1 rfl rfl rfl) (hd 50 rfl)) rfl (by kernel_rfl) (by kernel_rfl) (by kernel_rfl) (by kernel_rfl) (fun _ _ _ _ h => h) ?_
  refine ja_l2 10 [16, 17] (lo_g 44 rfl rfl (ly_ld one28 rfl rfl rfl) (hd 51 rfl)) rfl (by kernel_rfl) (by kernel_rfl) (by kernel_rfl) (by kernel_rfl) (fun _ _ _ _ h => h) ?_
  refine ja_l2 11 [16, 17] (lo_g 44 rfl rfl (ly_mv rfl) (hd 52 rfl)) rfl (by kernel_rfl) (by kernel_rfl) (by kernel_rfl) (by kernel_rfl) (fun _ _ _ _ h => h) ?_
  refine ja_l2 12 [13, 16, 17] (lo_g 44 rfl rfl (ly_fa fld30_0 rfl rfl rfl) (hd 53 rfl)) rfl (by kernel_rfl) (by kernel_rfl) (by kernel_rfl) (by kernel_rfl) (fun _ _ _ _ h => h) ?_
  refine ja_l2 13 [16, 17] (lo_g 44 rfl rfl (ly_ld one4 rfl rfl rfl) (hd 54 rfl)) rfl (by kernel_rfl) (by kernel_rfl) (by kernel_rfl) (by kernel_rfl) (fun _ _ _ _ h => h) ?_
  refine ja_l2 14 [15, 16, 17] (lo_g 44 rfl rfl (ly_fa fld30_0 rfl rfl rfl) (hd 55 rfl)) rfl (by kernel_rfl) (by kernel_rfl) (by kernel_rfl) (by kernel_rfl) (fun _ _ _ _ h => h) ?_
  refine ja_l2 15 [16, 17] (lo_g 44 rfl rfl (ly_ld one4 rfl rfl rfl) (hd 56 rfl)) rfl (by kernel_rfl) (by kernel_rfl) (by kernel_rfl) (by kernel_rfl) (fun _ _ _ _ h => h) ?_
  refine ja_1 4 ?_ rfl (by kernel_rfl)
  refine js_callg Try.f82 44 rfl rfl (ways_s) rfl Try.func82 rfl rfl ovL_nil .nil (hd 45 rfl) ?_ (fun ch hp => by simp at hp)
  rintro y hy; injection hy with hy; subst hy
  refine ja_l2 6 [16, 17] (lo_g 44 rfl rfl (ly_ixa (i := 1) undA102 one101 rfl rfl rfl (by decide) rfl) (hd 47 rfl)) rfl (by kernel_rfl) (by kernel_rfl) (by kernel_rfl) (by kernel_rfl) (fun _ _ _ _ h => h) ?_
  refine ja_1 16 ?_ rfl (by kernel_rfl)
  refine js_callg Try.f95 44 rfl rfl (down_s [3] [1] [2] true false true) rfl Try.func95 rfl rfl (ovL_cons rfl (ovL_cons rfl (ovL_cons rfl (ovL_cons rfl (ovL_cons rfl (ovL_cons rfl ovL_nil)))))) (.cons .n (.cons .n (.cons .n (.cons .b (.cons .b (.cons .b .nil)))))) (hd 57 rfl) ?_ (fun ch hp => by simp at hp)
  rintro y hy; injection hy with hy; subst hy
  refine ja_l 17 (lo_l (ly_pick_t rfl rfl) (hd 58 rfl)) rfl (by kernel_rfl) (by kernel_rfl) (by kernel_rfl) (fun _ _ _ _ h => h) ?_
  refine ja_nil (by kernel_rfl) ?_
  refine jc_litt rfl ?_
  refine jc_seq ?_
  refine jc_seq ?_
  refine jc_region ?_
  refine jo_l (ly_mv rfl) (hd 60 rfl) ?_
  refine jo_call Try.f70 (rF1) rfl Try.func70 rfl rfl (ovL_cons rfl ovL_nil) (.cons .i .nil) (hd 61 rfl) ?_ (fun ch hp => by simp at hp)
  rintro y hy; injection hy with hy; subst hy
  refine jo_call Try.f74 (rS) rfl Try.func74 rfl rfl (ovL_cons rfl (ovL_cons rfl ovL_nil)) (.cons .n (.cons .n .nil)) (hd 62 rfl) ?_ (fun ch hp => by simp at hp)
  rintro y hy; injection hy with hy; subst hy
  refine jo_l (ly_mv rfl) (hd 59 rfl) ?_
  refine jo_l (ly_ext rfl rfl) (hd 63 rfl) ?_
  refine jo_l (ly_ext rfl rfl) (hd 64 rfl) ?_
  refine jo_l (ly_as rfl) (hd 9 rfl) ?_
  refine jo_l (ly_as rfl) (hd 11 rfl) ?_
  refine jo_nil ?_
  refine jc_seq ?_
  refine jc_region ?_
  refine jo_l (ly_mv rfl) (hd 65 rfl) ?_
  refine jo_l (ly_ff (ly_ne rfl rfl) (by simp)) (hd 66 rfl) ?_
  refine jo_nil ?_
  refine jc_litf rfl ?_
  refine jc_skip ?_
  refine jc_seq ?_
  refine jc_region ?_
  refine jo_l (ly_fa fld30_1 rfl rfl rfl) (hd 71 rfl) ?_
  refine jo_l (ly_ld one28 rfl rfl rfl) (hd 72 rfl) ?_
  refine jo_l (ly_mv rfl) (hd 73 rfl) ?_
  refine jo_call Try.f76 (rM) rfl Try.func76 rfl rfl (ovL_cons rfl (ovL_cons rfl ovL_nil)) (.cons .n (.cons .n .nil)) (hd 74 rfl) ?_ (fun ch hp => by simp at hp)
  rintro y hy; injection hy with hy; subst hy
  refine jo_l (ly_mv rfl) (hd 70 rfl) ?_
  refine jo_l (ly_ext rfl rfl) (hd 75 rfl) ?_
  refine jo_l (ly_ext rfl rfl) (hd 76 rfl) ?_
  refine jo_l (ly_as rfl) (hd 10 rfl) ?_
  refine jo_nil ?_
  refine jc_region ?_
  refine jo_l (ly_mv rfl) (hd 77 rfl) ?_
  refine jo_l (ly_not rfl) (hd 78 rfl) ?_
  refine jo_l (ly_as rfl) (hd 13 rfl) ?_
  refine jo_nil ?_
  refine jc_seq ?_
  refine jc_region ?_
  refine jo_l (ly_mv rfl) (hd 80 rfl) ?_
  refine jo_l (ly_mv rfl) (hd 81 rfl) ?_
  refine jo_call Try.f75 (rR4) rfl Try.func75 rfl rfl (ovL_cons rfl (ovL_cons rfl (ovL_cons rfl ovL_nil))) (.cons .b (.cons .n (.cons .i .nil))) (hd 82 rfl) ?_ (fun ch hp => by simp at hp)
  rintro y hy; injection hy with hy; subst hy
  refine jo_l (ly_mv rfl) (hd 79 rfl) ?_
  refine jo_l (ly_ext rfl rfl) (hd 83 rfl) ?_
  refine jo_l (ly_ext rfl rfl) (hd 84 rfl) ?_
  refine jo_h (hy_alloc (id := 4) zero30 (by decide) rfl (by decide) rfl) (hd 14 rfl) ?_
  refine jo_st (sy_store rfl rfl rfl siz30 rfl rfl (Nat.le_of_ble_eq_true rfl)) ?_
  refine jo_l (ly_as rfl) (hd 11 rfl) ?_
  refine jo_nil ?_
  refine jc_seq ?_
  refine jc_seq ?_
  refine jc_region ?_
  refine jo_l (ly_mv rfl) (hd 85 rfl) ?_
  refine jo_l (ly_ff (ly_ne rfl rfl) (by simp)) (hd 86 rfl) ?_
  refine jo_nil ?_
  refine jc_litf rfl ?_
  refine jc_skip ?_
  refine jc_seq ?_
  refine jc_region ?_
  refine jo_l (ly_mv rfl) (hd 91 rfl) ?_
  refine jo_l (ly_mv rfl) (hd 92 rfl) ?_
  refine jo_call Try.f75 (rR1) rfl Try.func75 rfl rfl (ovL_cons rfl (ovL_cons rfl (ovL_cons rfl ovL_nil))) (.cons .b (.cons .n (.cons .i .nil))) (hd 93 rfl) ?_ (fun ch hp => by simp at hp)
  rintro y hy; injection hy with hy; subst hy
  refine jo_l (ly_mv rfl) (hd 90 rfl) ?_
  refine jo_l (ly_ext rfl rfl) (hd 94 rfl) ?_
  refine jo_l (ly_ext rfl rfl) (hd 95 rfl) ?_
  refine jo_h (hy_alloc (id := 5) zero30 (by decide) rfl (by decide) rfl) (hd 15 rfl) ?_
  refine jo_st (sy_store rfl rfl rfl siz30 rfl rfl (Nat.le_of_ble_eq_true rfl)) ?_
  refine jo_l (ly_as rfl) (hd 11 rfl) ?_
  refine jo_nil ?_
  refine jc_seq ?_
  refine jc_seq ?_
  refine jc_region ?_
  refine jo_l (ly_mv rfl) (hd 96 rfl) ?_
  refine jo_l (ly_ff (ly_ne rfl rfl) (by simp)) (hd 97 rfl) ?_
  refine jo_nil ?_
  refine jc_litf rfl ?_
  refine jc_skip ?_
  refine jc_seq ?_
  refine jc_draw (n := 5) _ rfl mixed ?_
  refine ja_l 0 (lo_l (ly_lda agg30 rfl rfl rfl rfl) (hd 101 rfl)) rfl (by kernel_rfl) (by kernel_rfl) (by kernel_rfl) (fun _ _ _ _ h => h) ?_
  refine ja_2 1 2 ?_ ?_ rfl rfl (by kernel_rfl)
  · refine js_l (ly_lda agg30 rfl rfl rfl rfl) (hd 102 rfl) ?_
    refine ja_1 2 ?_ rfl (by kernel_rfl)
    refine js_st (sy_store rfl rfl rfl siz30 rfl rfl (Nat.le_of_ble_eq_true rfl)) rfl ?_
    refine ja_1 3 ?_ rfl (by kernel_rfl)
    refine js_st (sy_store rfl rfl rfl siz30 rfl rfl (Nat.le_of_ble_eq_true rfl)) rfl ?_
    refine ja_l 4 (lo_l (ly_as rfl) (hd 8 rfl)) rfl (by kernel_rfl) (by kernel_rfl) (by kernel_rfl) (fun _ _ _ _ h => h) ?_
    refine ja_nil (by kernel_rfl) ?_
    refine jc_ret ?_
    refine ⟨_, _, (.cons (ResV.cell agg30 rfl rfl rfl rfl) (.cons (ResV.cell agg30 rfl rfl rfl rfl) (.cons rfl .nil))), (.t1 (.a1 .b (.a1 .n .a0)) (.t1 (.a1 .b (.a1 .n .a0)) (.t1 .i .t0))), ?_⟩
    exact rfl
  · refine js_st (sy_store rfl rfl rfl siz30 rfl rfl (Nat.le_of_ble_eq_true rfl)) rfl ?_
    refine ja_l 1 (lo_l (ly_lda agg30 rfl rfl rfl rfl) (hd 102 rfl)) rfl (by kernel_rfl) (by kernel_rfl) (by kernel_rfl) (fun _ _ _ _ h => h) ?_
    refine ja_1 3 ?_ rfl (by kernel_rfl)
    refine js_st (sy_store rfl rfl rfl siz30 rfl rfl (Nat.le_of_ble_eq_true rfl)) rfl ?_
    refine ja_l 4 (lo_l (ly_as rfl) (hd 8 rfl)) rfl (by kernel_rfl) (by kernel_rfl) (by kernel_rfl) (fun _ _ _ _ h => h) ?_
    refine ja_nil (by kernel_rfl) ?_
    refine jc_ret ?_
    refine ⟨_, _, (.cons (ResV.cell agg30 rfl rfl rfl rfl) (.cons (ResV.cell agg30 rfl rfl rfl rfl) (.cons rfl .nil))), (.t1 (.a1 .b (.a1 .n .a0)) (.t1 (.a1 .b (.a1 .n .a0)) (.t1 .i .t0))), ?_⟩
    exact rfl

set_option maxHeartbeats 4000000 in
theorem Floor_ex  : Spec Try.prog 20 [.a [.b true, .n false .u64 [7]], .a [.b false, .n false .u64 [2]]] (fun o => o = .ret (.t [.a [.b true, .n true .u64 [4]], .a [.b false, .n true .u64 [1]], .i .i64 0])) := by
  refine spec_of' [(0, .a [.b true, .n false .u64 [7]]), (1, .a [.b false, .n false .u64 [2]])] rfl Try.func20 rfl (Nat.le_of_ble_eq_true rfl) fun Γ hN hds hL hR => ?_
  have hd : ∀ d, Nat.blt d 13 = true → d < Γ.N := fun d h => by rw [hN]; exact Nat.le_of_ble_eq_true h
  refine jc_seq ?_
  refine jc_region ?_
  refine jo_h (hy_box (id := 0) (n := 2) rfl rfl rfl (by decide) rfl) (hd 2 rfl) ?_
  refine jo_h (hy_box (id := 1) (n := 2) rfl rfl rfl (by decide) rfl) (hd 3 rfl) ?_
  refine jo_h (hy_alloc (id := 2) zero30 (by decide) rfl (by decide) rfl) (hd 4 rfl) ?_
  refine jo_h (hy_alloc (id := 3) zero30 (by decide) rfl (by decide) rfl) (hd 5 rfl) ?_
  refine jo_l (ly_as rfl) (hd 6 rfl) ?_
  refine jo_nil ?_
  refine jc_seq ?_
  refine jc_region ?_
  refine jo_l (ly_lda agg30 rfl rfl rfl rfl) (hd 7 rfl) ?_
  refine jo_l (ly_lda agg30 rfl rfl rfl rfl) (hd 8 rfl) ?_
  refine jo_call Try.f62 (divide_ex) rfl Try.func62 rfl rfl (ovL_cons rfl (ovL_cons rfl (ovL_cons rfl ovL_nil))) (.cons (.a1 .b (.a1 .n .a0)) (.cons (.a1 .b (.a1 .n .a0)) (.cons .i .nil))) (hd 9 rfl) ?_ (fun ch hp => by simp at hp)
  rintro y hy; injection hy with hy; subst hy
  refine jo_l (ly_ext rfl rfl) (hd 10 rfl) ?_
  refine jo_l (ly_ext rfl rfl) (hd 11 rfl) ?_
  refine jo_l (ly_ext rfl rfl) (hd 12 rfl) ?_
  refine jo_st (sy_store rfl rfl rfl siz30 rfl rfl (Nat.le_of_ble_eq_true rfl)) ?_
  refine jo_st (sy_store rfl rfl rfl siz30 rfl rfl (Nat.le_of_ble_eq_true rfl)) ?_
  refine jo_l (ly_as rfl) (hd 6 rfl) ?_
  refine jo_nil ?_
  refine jc_ret ?_
  refine ⟨_, _, (.cons (ResV.cell agg30 rfl rfl rfl rfl) (.cons (ResV.cell agg30 rfl rfl rfl rfl) (.cons rfl .nil))), (.t1 (.a1 .b (.a1 .n .a0)) (.t1 (.a1 .b (.a1 .n .a0)) (.t1 .i .t0))), ?_⟩
  exact rfl

set_option maxHeartbeats 4000000 in
theorem awake_s  : Spec Try.prog 10 [] (fun o => o = .ret (.b true)) := by
  refine spec_of' [] rfl Try.func10 rfl (Nat.le_of_ble_eq_true rfl) fun Γ hN hds hL hR => ?_
  have hd : ∀ d, Nat.blt d 30 = true → d < Γ.N := fun d h => by rw [hN]; exact Nat.le_of_ble_eq_true h
  have r7 : Spec Try.prog 43 [.i .i64 (-7)] (fun o => o = .ret (.a [.b true, .n true .u64 [7]])) := Of_neg (-7) (by decide) (by decide)
  have r2 : Spec Try.prog 43 [.i .i64 2] (fun o => o = .ret (.a [.b false, .n true .u64 [2]])) := Of_pos 2 (by decide) (by decide)
  have rI4 : Spec Try.prog 38 [.i .i64 (-4)] (fun o => o = .ret (.a [.b true, .n false .u64 [4]])) := Int_neg (-4) (by decide) (by decide)
  have rI1 : Spec Try.prog 38 [.i .i64 1] (fun o => o = .ret (.a [.b false, .n false .u64 [1]])) := Int_pos 1 (by decide) (by decide)
  have rZ4 : Spec Try.prog 45 [.a [.b true, .n false .u64 [4]], .b true, .n false .u64 [4]] (fun o => o = .ret (.b true)) := ZIs_s true [4] (by decide)
  have rZ1 : Spec Try.prog 45 [.a [.b false, .n false .u64 [1]], .b false, .n false .u64 [1]] (fun o => o = .ret (.b true)) := ZIs_s false [1] (by decide)
  refine jc_seq ?_
  refine jc_region ?_
  refine jo_l (ly_as rfl) (hd 0 rfl) ?_
  refine jo_nil ?_
  refine jc_seq ?_
  refine jc_region ?_
  refine jo_call Try.f43 (r7) rfl Try.func43 rfl rfl (ovL_cons rfl ovL_nil) (.cons .i .nil) (hd 5 rfl) ?_ (fun ch hp => by simp at hp)
  rintro y hy; injection hy with hy; subst hy
  refine jo_call Try.f43 (r2) rfl Try.func43 rfl rfl (ovL_cons rfl ovL_nil) (.cons .i .nil) (hd 6 rfl) ?_ (fun ch hp => by simp at hp)
  rintro y hy; injection hy with hy; subst hy
  refine jo_call Try.f20 (Floor_ex) rfl Try.func20 rfl rfl (ovL_cons rfl (ovL_cons rfl ovL_nil)) (.cons (.a1 .b (.a1 .n .a0)) (.cons (.a1 .b (.a1 .n .a0)) .nil)) (hd 7 rfl) ?_ (fun ch hp => by simp at hp)
  rintro y hy; injection hy with hy; subst hy
  refine jo_l (ly_mv rfl) (hd 4 rfl) ?_
  refine jo_l (ly_ext rfl rfl) (hd 8 rfl) ?_
  refine jo_l (ly_ext rfl rfl) (hd 9 rfl) ?_
  refine jo_l (ly_ext rfl rfl) (hd 10 rfl) ?_
  refine jo_h (hy_alloc (id := 0) zero30 (by decide) rfl (by decide) rfl) (hd 1 rfl) ?_
  refine jo_h (hy_alloc (id := 1) zero30 (by decide) rfl (by decide) rfl) (hd 2 rfl) ?_
  refine jo_st (sy_store rfl rfl rfl siz30 rfl rfl (Nat.le_of_ble_eq_true rfl)) ?_
  refine jo_st (sy_store rfl rfl rfl siz30 rfl rfl (Nat.le_of_ble_eq_true rfl)) ?_
  refine jo_l (ly_as rfl) (hd 3 rfl) ?_
  refine jo_nil ?_
  refine jc_seq ?_
  refine jc_draw (n := 20) _ rfl mixed ?_
  refine ja_l2 0 [1, 2, 3, 4, 5, 6, 7, 8, 9, 10, 11, 12, 13, 14, 15, 16, 17, 18, 19] (lo_l (ly_mv rfl) (hd 11 rfl)) rfl (by kernel_rfl) (by kernel_rfl) (by kernel_rfl) (by kernel_rfl) (fun _ _ _ _ h => h) ?_
  refine ja_1 1 ?_ rfl (by kernel_rfl)
  refine js_call Try.f9 (num_s 0) rfl Try.func9 rfl rfl (ovL_cons rfl ovL_nil) (.cons .i .nil) (hd 12 rfl) ?_ (fun ch hp => by simp at hp)
  rintro y hy; injection hy with hy; subst hy
  refine ja_l2 2 [3, 4, 5, 6, 7, 8, 9, 10, 11, 12, 13, 14, 15, 16, 17, 18, 19] (lo_l (ly_tt (ly_eq rfl rfl) rfl) (hd 13 rfl)) rfl (by kernel_rfl) (by kernel_rfl) (by kernel_rfl) (by kernel_rfl) (fun _ _ _ _ h => h) ?_
  refine ja_l2 3 [4, 5, 6, 7, 8, 9, 10, 11, 12, 13, 14, 15, 16, 17, 18, 19] (lo_l (ly_mv rfl) (hd 14 rfl)) rfl (by kernel_rfl) (by kernel_rfl) (by kernel_rfl) (by kernel_rfl) (fun _ _ _ _ h => h) ?_
  refine ja_l2 5 [6, 9, 10, 11, 12, 13, 14, 15, 16, 17, 18, 19] (lo_g 14 rfl rfl (ly_fa fld30_0 rfl rfl rfl) (hd 16 rfl)) rfl (by kernel_rfl) (by kernel_rfl) (by kernel_rfl) (by kernel_rfl) (fun _ _ _ _ h => h) ?_
  refine ja_l2 6 [9, 10, 11, 12, 13, 14, 15, 16, 17, 18, 19] (lo_g 14 rfl rfl (ly_ld one4 rfl rfl rfl) (hd 17 rfl)) rfl (by kernel_rfl) (by kernel_rfl) (by kernel_rfl) (by kernel_rfl) (fun _ _ _ _ h => h) ?_
  refine ja_l2 7 [8, 9, 10, 11, 12, 13, 14, 15, 16, 17, 18, 19] (lo_g 14 rfl rfl (ly_fa fld30_1 rfl rfl rfl) (hd 18 rfl)) rfl (by kernel_rfl) (by kernel_rfl) (by kernel_rfl) (by kernel_rfl) (fun _ _ _ _ h => h) ?_
  refine ja_l2 8 [9, 10, 11, 12, 13, 14, 15, 16, 17, 18, 19] (lo_g 14 rfl rfl (ly_ld one28 rfl rfl rfl) (hd 19 rfl)) rfl (by kernel_rfl) (by kernel_rfl) (by kernel_rfl) (by kernel_rfl) (fun _ _ _ _ h => h) ?_
  refine ja_1 4 ?_ rfl (by kernel_rfl)
  refine js_callg Try.f38 14 rfl rfl (rI4) rfl Try.func38 rfl rfl (ovL_cons rfl ovL_nil) (.cons .i .nil) (hd 15 rfl) ?_ (fun ch hp => by simp at hp)
  rintro y hy; injection hy with hy; subst hy
  refine ja_1 9 ?_ rfl (by kernel_rfl)
  refine js_callg Try.f45 14 rfl rfl (rZ4) rfl Try.func45 rfl rfl (ovL_cons rfl (ovL_cons rfl (ovL_cons rfl ovL_nil))) (.cons (.a1 .b (.a1 .n .a0)) (.cons .b (.cons .n .nil))) (hd 20 rfl) ?_ (fun ch hp => by simp at hp)
  rintro y hy; injection hy with hy; subst hy
  refine ja_l2 10 [11, 12, 13, 14, 15, 16, 17, 18, 19] (lo_l (ly_pick_t rfl rfl) (hd 21 rfl)) rfl (by kernel_rfl) (by kernel_rfl) (by kernel_rfl) (by kernel_rfl) (fun _ _ _ _ h => h) ?_
  refine ja_l 11 (lo_l (ly_mv rfl) (hd 22 rfl)) rfl (by kernel_rfl) (by kernel_rfl) (by kernel_rfl) (fun _ _ _ _ h => h) ?_
  refine ja_l2 13 [14, 17, 18, 19] (lo_g 22 rfl rfl (ly_fa fld30_0 rfl rfl rfl) (hd 24 rfl)) rfl (by kernel_rfl) (by kernel_rfl) (by kernel_rfl) (by kernel_rfl) (fun _ _ _ _ h => h) ?_
  refine ja_l2 14 [17, 18, 19] (lo_g 22 rfl rfl (ly_ld one4 rfl rfl rfl) (hd 25 rfl)) rfl (by kernel_rfl) (by kernel_rfl) (by kernel_rfl) (by kernel_rfl) (fun _ _ _ _ h => h) ?_
  refine ja_l2 15 [16, 17, 18, 19] (lo_g 22 rfl rfl (ly_fa fld30_1 rfl rfl rfl) (hd 26 rfl)) rfl (by kernel_rfl) (by kernel_rfl) (by kernel_rfl) (by kernel_rfl) (fun _ _ _ _ h => h) ?_
  refine ja_l2 16 [17, 18, 19] (lo_g 22 rfl rfl (ly_ld one28 rfl rfl rfl) (hd 27 rfl)) rfl (by kernel_rfl) (by kernel_rfl) (by kernel_rfl) (by kernel_rfl) (fun _ _ _ _ h => h) ?_
  refine ja_1 12 ?_ rfl (by kernel_rfl)
  refine js_callg Try.f38 22 rfl rfl (rI1) rfl Try.func38 rfl rfl (ovL_cons rfl ovL_nil) (.cons .i .nil) (hd 23 rfl) ?_ (fun ch hp => by simp at hp)
  rintro y hy; injection hy with hy; subst hy
  refine ja_1 17 ?_ rfl (by kernel_rfl)
  refine js_callg Try.f45 22 rfl rfl (rZ1) rfl Try.func45 rfl rfl (ovL_cons rfl (ovL_cons rfl (ovL_cons rfl ovL_nil))) (.cons (.a1 .b (.a1 .n .a0)) (.cons .b (.cons .n .nil))) (hd 28 rfl) ?_ (fun ch hp => by simp at hp)
  rintro y hy; injection hy with hy; subst hy
  refine ja_l 18 (lo_l (ly_pick_t rfl rfl) (hd 29 rfl)) rfl (by kernel_rfl) (by kernel_rfl) (by kernel_rfl) (fun _ _ _ _ h => h) ?_
  refine ja_l 19 (lo_l (ly_as rfl) (hd 0 rfl)) rfl (by kernel_rfl) (by kernel_rfl) (by kernel_rfl) (fun _ _ _ _ h => h) ?_
  refine ja_nil (by kernel_rfl) ?_
  refine jc_ret ?_
  refine ⟨_, _, (.cons rfl .nil), .b, ?_⟩
  exact rfl

end Go.Proofs.Ytcdipmjgpimmdaa.Vc

/- Contract of bits.Mul64. -/
set_option linter.unusedVariables false
set_option linter.unusedSimpArgs false
namespace Go.Proofs.Ytcdipmjgpimmdaa.Vc
open Go Go.RowKit
set_option maxHeartbeats 4000000 in
theorem Mul64_s (x y : Int) (hx0 : 0 ≤ x) (hx : x < 18446744073709551616) (hy0 : 0 ≤ y) (hy : y < 18446744073709551616) : Spec Try.prog 112 [.i .u64 x, .i .u64 y] (fun o => o = .ret (.t [.i .u64 (x * y / 18446744073709551616), .i .u64 (x * y % 18446744073709551616)])) := by
  refine spec_of' [(0, .i .u64 x), (1, .i .u64 y)] rfl Try.func112 rfl (Nat.le_of_ble_eq_true rfl) fun Γ hN hds hL hR => ?_
  have hd : ∀ d, Nat.blt d 51 = true → d < Γ.N := fun d h => by rw [hN]; exact Nat.le_of_ble_eq_true h
  have hM := mul64_val hx0 hx hy0 hy
  dsimp only at hM
  obtain ⟨b00, b10, b01, b11, hhi⟩ := hM
  refine jc_seq ?_
  refine jc_region ?_
  refine jo_l (ly_as rfl) (hd 4 rfl) ?_
  refine jo_l (ly_as rfl) (hd 5 rfl) ?_
  refine jo_nil ?_
  refine jc_seq ?_
  refine jc_region ?_
  refine jo_l (ly_mv rfl) (hd 14 rfl) ?_
  refine jo_l (ly_is (ly_bit (by simp) rfl rfl rfl) (show V.i .u64 (bitop .and .u64 (x) 4294967295) = V.i .u64 (x % 4294967296) by rw [and32 hx0 hx])) (hd 15 rfl) ?_
  refine jo_l (ly_as rfl) (hd 6 rfl) ?_
  refine jo_nil ?_
  refine jc_seq ?_
  refine jc_region ?_
  refine jo_l (ly_mv rfl) (hd 16 rfl) ?_
  refine jo_l (ly_is (ly_shr rfl rfl (by omega) rfl) (show V.i .u64 _ = V.i .u64 (x / 4294967296) from congrArg _ (shr32 hx0))) (hd 17 rfl) ?_
  refine jo_l (ly_as rfl) (hd 7 rfl) ?_
  refine jo_nil ?_
  refine jc_seq ?_
  refine jc_region ?_
  refine jo_l (ly_mv rfl) (hd 18 rfl) ?_
  refine jo_l (ly_is (ly_bit (by simp) rfl rfl rfl) (show V.i .u64 (bitop .and .u64 (y) 4294967295) = V.i .u64 (y % 4294967296) by rw [and32 hy0 hy])) (hd 19 rfl) ?_
  refine jo_l (ly_as rfl) (hd 8 rfl) ?_
  refine jo_nil ?_
  refine jc_seq ?_
  refine jc_region ?_
  refine jo_l (ly_mv rfl) (hd 20 rfl) ?_
  refine jo_l (ly_is (ly_shr rfl rfl (by omega) rfl) (show V.i .u64 _ = V.i .u64 (y / 4294967296) from congrArg _ (shr32 hy0))) (hd 21 rfl) ?_
  refine jo_l (ly_as rfl) (hd 9 rfl) ?_
  refine jo_nil ?_
  refine jc_seq ?_
  refine jc_region ?_
  refine jo_l (ly_mv rfl) (hd 22 rfl) ?_
  refine jo_l (ly_mv rfl) (hd 23 rfl) ?_
  refine jo_l (ly_mul rfl rfl (wrap_u64 (by omega) (by omega))) (hd 24 rfl) ?_
  refine jo_l (ly_as rfl) (hd 10 rfl) ?_
  refine jo_nil ?_
  refine jc_seq ?_
  refine jc_region ?_
  refine jo_l (ly_mv rfl) (hd 25 rfl) ?_
  refine jo_l (ly_mv rfl) (hd 26 rfl) ?_
  refine jo_l (ly_mul rfl rfl (wrap_u64 (by omega) (by omega))) (hd 27 rfl) ?_
  refine jo_l (ly_mv rfl) (hd 28 rfl) ?_
  refine jo_l (ly_is (ly_shr rfl rfl (by omega) rfl) (show V.i .u64 _ = V.i .u64 (x % 4294967296 * (y % 4294967296) / 4294967296) from congrArg _ (shr32 b00.1))) (hd 29 rfl) ?_
  refine jo_l (ly_add rfl rfl (wrap_u64 (by omega) (by omega))) (hd 30 rfl) ?_
  refine jo_l (ly_as rfl) (hd 11 rfl) ?_
  refine jo_nil ?_
  refine jc_seq ?_
  refine jc_region ?_
  refine jo_l (ly_mv rfl) (hd 31 rfl) ?_
  refine jo_l (ly_is (ly_bit (by simp) rfl rfl rfl) (show V.i .u64 (bitop .and .u64 ((x / 4294967296 * (y % 4294967296) + x % 4294967296 * (y % 4294967296) / 4294967296)) 4294967295) = V.i .u64 ((x / 4294967296 * (y % 4294967296) + x % 4294967296 * (y % 4294967296) / 4294967296) % 4294967296) by rw [and32 (by omega) (by omega)])) (hd 32 rfl) ?_
  refine jo_l (ly_as rfl) (hd 12 rfl) ?_
  refine jo_nil ?_
  refine jc_seq ?_
  refine jc_region ?_
  refine jo_l (ly_mv rfl) (hd 33 rfl) ?_
  refine jo_l (ly_is (ly_shr rfl rfl (by omega) rfl) (show V.i .u64 _ = V.i .u64 ((x / 4294967296 * (y % 4294967296) + x % 4294967296 * (y % 4294967296) / 4294967296) / 4294967296) from congrArg _ (shr32 (by omega)))) (hd 34 rfl) ?_
  refine jo_l (ly_as rfl) (hd 13 rfl) ?_
  refine jo_nil ?_
  refine jc_seq ?_
  refine jc_region ?_
  refine jo_l (ly_mv rfl) (hd 35 rfl) ?_
  refine jo_l (ly_mv rfl) (hd 36 rfl) ?_
  refine jo_l (ly_mv rfl) (hd 37 rfl) ?_
  refine jo_l (ly_mul rfl rfl (wrap_u64 (by omega) (by omega))) (hd 38 rfl) ?_
  refine jo_l (ly_add rfl rfl (wrap_u64 (by omega) (by omega))) (hd 39 rfl) ?_
  refine jo_l (ly_as rfl) (hd 12 rfl) ?_
  refine jo_nil ?_
  refine jc_seq ?_
  refine jc_region ?_
  refine jo_l (ly_mv rfl) (hd 40 rfl) ?_
  refine jo_l (ly_mv rfl) (hd 41 rfl) ?_
  refine jo_l (ly_mul rfl rfl (wrap_u64 (by omega) (by omega))) (hd 42 rfl) ?_
  refine jo_l (ly_mv rfl) (hd 43 rfl) ?_
  refine jo_l (ly_add rfl rfl (wrap_u64 (by omega) (by omega))) (hd 44 rfl) ?_
  refine jo_l (ly_mv rfl) (hd 45 rfl) ?_
  refine jo_l (ly_is (ly_shr rfl rfl (by omega) rfl) (show V.i .u64 _ = V.i .u64 (((x / 4294967296 * (y % 4294967296) + x % 4294967296 * (y % 4294967296) / 4294967296) % 4294967296 + x % 4294967296 * (y / 4294967296)) / 4294967296) from congrArg _ (shr32 (by omega)))) (hd 46 rfl) ?_
  refine jo_l (ly_add rfl rfl (wrap_u64 (by omega) (by omega))) (hd 47 rfl) ?_
  refine jo_l (ly_as rfl) (hd 4 rfl) ?_
  refine jo_nil ?_
  refine jc_seq ?_
  refine jc_region ?_
  refine jo_l (ly_mv rfl) (hd 48 rfl) ?_
  refine jo_l (ly_mv rfl) (hd 49 rfl) ?_
  refine jo_l (ly_mul rfl rfl (r := x * y % 18446744073709551616) u64_wrap_mod) (hd 50 rfl) ?_
  refine jo_l (ly_as rfl) (hd 5 rfl) ?_
  refine jo_nil ?_
  refine jc_ret ?_
  refine ⟨_, _, (.cons rfl (.cons rfl .nil)), (.t1 .i (.t1 .i .t0)), ?_⟩
  rw [hhi]
end Go.Proofs.Ytcdipmjgpimmdaa.Vc

/- Contract of mul.school. -/
set_option linter.unusedVariables false
set_option linter.unusedSimpArgs false
namespace Go.Proofs.Ytcdipmjgpimmdaa.Vc
open Go Go.RowKit
end Go.Proofs.Ytcdipmjgpimmdaa.Vc

/- Contract of mul.addAt. -/
set_option linter.unusedVariables false
set_option linter.unusedSimpArgs false
namespace Go.Proofs.Ytcdipmjgpimmdaa.Vc
open Go Go.RowKit
end Go.Proofs.Ytcdipmjgpimmdaa.Vc

/- Contracts of mul.sum, less, part. -/
set_option linter.unusedVariables false
set_option linter.unusedSimpArgs false
namespace Go.Proofs.Ytcdipmjgpimmdaa.Vc
open Go Go.RowKit
end Go.Proofs.Ytcdipmjgpimmdaa.Vc

/- Contract of mul.halved. -/
set_option linter.unusedVariables false
set_option linter.unusedSimpArgs false
namespace Go.Proofs.Ytcdipmjgpimmdaa.Vc
open Go Go.RowKit
end Go.Proofs.Ytcdipmjgpimmdaa.Vc

/- Contracts of mul.fits, great, product, Mul. -/
set_option linter.unusedVariables false
set_option linter.unusedSimpArgs false
namespace Go.Proofs.Ytcdipmjgpimmdaa.Vc
open Go Go.RowKit
end Go.Proofs.Ytcdipmjgpimmdaa.Vc

/- Contracts of whole.fits, result, Mul; nat.Add, Sub in general. -/
set_option linter.unusedVariables false
set_option linter.unusedSimpArgs false
namespace Go.Proofs.Ytcdipmjgpimmdaa.Vc
open Go Go.RowKit
end Go.Proofs.Ytcdipmjgpimmdaa.Vc

/- Contracts of whole.flip, Neg, Add, Sub. -/
set_option linter.unusedVariables false
set_option linter.unusedSimpArgs false
namespace Go.Proofs.Ytcdipmjgpimmdaa.Vc
open Go Go.RowKit
end Go.Proofs.Ytcdipmjgpimmdaa.Vc

/- Contracts of whole.Sign, Compare; the helpers same, zero, all, in. -/
set_option linter.unusedVariables false
set_option linter.unusedSimpArgs false
namespace Go.Proofs.Ytcdipmjgpimmdaa.Vc
open Go Go.RowKit
end Go.Proofs.Ytcdipmjgpimmdaa.Vc

/- Numbers with a sign that are handed in. -/
set_option linter.unusedVariables false
set_option linter.unusedSimpArgs false
namespace Go.Proofs.Ytcdipmjgpimmdaa.Vc
open Go Go.RowKit
set_option maxRecDepth 100000 in
theorem openW {H : Type} {enc : TypeId × Value → H} {w : World} {sp : Nat → Bool} {held : Bool} {r : Reach} {b0 : Nat} {v : Value} {d : DataW H} {ps : List MemPlace} (hval : Value.okWide Try.prog w r b0 27 v) (hd : DataW.Trod enc Try.prog w 0 sp held 27 v d ps) :
    ∃ (s : Bool) (l : List Int), Rel w (fun _ => False) w.heap.size [] (.a [.b s, .n false .u64 l]) v ∧ l.length + 2 ≤ Rows.uptoBulk d ∧ u64s l := by
  obtain ⟨cs, rfl, hsz⟩ := Go.WideShapes.okWide_struct Try.underlying27 hval
  obtain ⟨fuel, hd⟩ := hd
  have hcl : (Value.agg cs).cells.toList = cs.toList := rfl
  rw [hcl] at hd
  obtain ⟨y0, y1, n, hx, hl, h0, h1⟩ := Go.ChangeShapes.trod_struct2 Try.underlying27 hd
  injection hx with hx _
  subst hx
  have hl' : cs.toList.length = 2 := hl
  obtain ⟨c0, c1, hcs⟩ : ∃ c0 c1, cs.toList = [c0, c1] := by
    match hm : cs.toList, hl' with
    | [a, b], _ => exact ⟨a, b, rfl⟩
  rw [hcs] at h0 h1
  obtain ⟨s, e0, hy0⟩ := DataW.trod_bool Try.underlying4 h0
  have e0' : [c0] = [Value.bool s] := e0
  injection e0' with e0'
  subst e0'; subst hy0
  have h1' : DataW.trod enc Try.prog w 0 sp held n 25 [c1] = some y1 := h1
  obtain ⟨l, k1, k2, k3⟩ := open_numsV Try.underlying25 Try.underlying82 (show Try.prog.cellsOf 82 = 1 by kernel_rfl) h1'
  refine ⟨s, l, ⟨cs.toList, by simp, ?_⟩, ?_, fun y hy => wf_u64 (k3 y hy)⟩
  · rw [hcs]; exact ⟨_, _, rfl, rfl, _, _, rfl, k1, rfl⟩
  · simp only [Rows.uptoBulk, Rows.uptoBulkAll]; omega
end Go.Proofs.Ytcdipmjgpimmdaa.Vc

/- Contracts of the references' Len, of Lend, lent, Kept. -/
set_option linter.unusedVariables false
set_option linter.unusedSimpArgs false
namespace Go.Proofs.Ytcdipmjgpimmdaa.Vc
open Go Go.RowKit
set_option maxHeartbeats 4000000 in
theorem Len_s (v : Int) (hl : (dg v).length < 1099511627776) : Spec Try.prog 29 [.n false .u64 (dg v)] (fun o => o = .ret (.i .i64 (lenV v : Int))) := by
  refine spec_of' [(0, .n false .u64 (dg v))] rfl Try.func29 rfl (Nat.le_of_ble_eq_true rfl) fun Γ hN hds hL hR => ?_
  have hd : ∀ d, Nat.blt d 25 = true → d < Γ.N := fun d h => by rw [hN]; exact Nat.le_of_ble_eq_true h
  have hB := lenV_le v
  have hT := dg_top v ((dg v).length - 1)
  have hE := lenD_eq v
  have hN := dg_nil (v := v)
  refine jc_seq ?_
  refine jc_region ?_
  refine jo_l (ly_as rfl) (hd 2 rfl) ?_
  refine jo_nil ?_
  refine jc_seq ?_
  refine jc_seq ?_
  refine jc_region ?_
  refine jo_l (ly_mv rfl) (hd 5 rfl) ?_
  refine jo_l (ly_lenn sl33 rfl) (hd 6 rfl) ?_
  refine jo_l (ly_eq rfl rfl) (hd 7 rfl) ?_
  refine jo_nil ?_
  refine jc_if rfl (fun h1 => ?_) (fun h1 => ?_)
  · have h0 : dg v = [] := List.eq_nil_of_length_eq_zero (by omega)
    refine jc_seq ?_
    refine jc_region ?_
    refine jo_l (ly_as rfl) (hd 2 rfl) ?_
    refine jo_nil ?_
    refine jc_ret ?_
    refine ⟨_, _, (.cons rfl .nil), .i, ?_⟩
    rw [hN.1 h0]
    rfl
  · have h0 : dg v ≠ [] := fun e => by rw [e] at h1; exact h1 rfl
    have hE := hE h0
    refine jc_skip ?_
    refine jc_seq ?_
    refine jc_region ?_
    refine jo_l (ly_mv rfl) (hd 8 rfl) ?_
    refine jo_l (ly_lenn sl33 rfl) (hd 9 rfl) ?_
    refine jo_l (ly_sub rfl rfl (wrap_i64 (by first | omega | (dsimp only; omega)) (by first | omega | (dsimp only; omega)))) (hd 10 rfl) ?_
    refine jo_l (ly_mul rfl rfl (r := ((32 * ((dg v).length - 1) : Nat) : Int)) (by have := List.length_pos_iff.2 h0; rw [wrap_i64 (by omega) (by omega)]; omega)) (hd 11 rfl) ?_
    refine jo_l (ly_as rfl) (hd 3 rfl) ?_
    refine jo_nil ?_
    refine jc_seq ?_
    refine jc_seq ?_
    refine jc_region ?_
    refine jo_l (ly_mv rfl) (hd 12 rfl) ?_
    refine jo_l (ly_mv rfl) (hd 13 rfl) ?_
    refine jo_l (ly_lenn sl33 rfl) (hd 14 rfl) ?_
    refine jo_l (ly_sub rfl rfl (wrap_i64 (by first | omega | (dsimp only; omega)) (by first | omega | (dsimp only; omega)))) (hd 15 rfl) ?_
    refine jo_l (ly_ian (i := (dg v).length - 1) sl33 rfl rfl (by have := List.length_pos_iff.2 h0; omega) (by have := List.length_pos_iff.2 h0; omega)) (hd 16 rfl) ?_
    refine jo_l (ly_ldq one82 rfl rfl) (hd 17 rfl) ?_
    refine jo_l (ly_as rfl) (hd 4 rfl) ?_
    refine jo_nil ?_
    refine jc_block ?_
    refine jc_loopF (G := Nat × Nat) (fun g => g.2 + nbits g.1 = lenV v ∧ g.1 < 4294967296) (fun g => [(3, .i .i64 (g.2 : Int)), (4, .i .u64 (g.1 : Int)), (18, .u), (19, .u), (20, .u), (21, .u), (22, .u), (23, .u)]) (fun _ => _) (fun g => g.1) (((dg v).getD ((dg v).length - 1) 0).toNat, 32 * ((dg v).length - 1)) ?_ ?_ rfl ?_
    · exact ⟨hE, by dsimp only; omega⟩
    · exact (.cons rfl (.cons (by show some (V.i .u64 _) = some (V.i .u64 _); congr 2; dsimp only; omega) (.u (.u (.u (.u (.u (.u .nil))))))))
    · rintro ⟨m, c⟩ ⟨hc1, hc2⟩
      dsimp only at hc1 hc2 ⊢
      refine jc_seq ?_
      refine jc_seq ?_
      refine jc_region ?_
      refine jo_l (ly_mv rfl) (hd 18 rfl) ?_
      refine jo_l (ly_gt rfl rfl) (hd 19 rfl) ?_
      refine jo_nil ?_
      refine jc_if rfl (fun h2 => ?_) (fun h2 => ?_)
      · refine jc_skip ?_
        refine jc_seq ?_
        refine jc_block ?_
        refine jc_region ?_
        refine jo_l (ly_mv rfl) (hd 22 rfl) ?_
        refine jo_l (ly_add rfl rfl (wrap_i64 (by first | omega | (dsimp only; omega)) (by first | omega | (dsimp only; omega)))) (hd 23 rfl) ?_
        refine jo_l (ly_as rfl) (hd 3 rfl) ?_
        refine jo_nil ?_
        refine jc_region ?_
        refine jo_l (ly_mv rfl) (hd 20 rfl) ?_
        refine jo_l (ly_quo rfl rfl (by first | omega | (dsimp only; omega)) (r := ((m / 2 : Nat) : Int)) (by rw [show ((m : Int).tdiv 2) = ((m / 2 : Nat) : Int) from rfl, wrap_u64 (by omega) (by omega)])) (hd 21 rfl) ?_
        refine jo_l (ly_as rfl) (hd 4 rfl) ?_
        refine jo_nil ?_
        refine ⟨(m / 2, c + 1), ?_, ?_, rfl, cov_n 16 rfl rfl ?_⟩
        · exact ⟨by have := nbits_half (m := m) (by omega); dsimp only; omega, by dsimp only; omega⟩
        · show m / 2 < m; omega
        · exact (.cons rfl (.cons rfl (.u (.u (.u (.u (.u (.u .nil))))))))
      · refine jc_exit ?_
        refine jc_seq ?_
        refine jc_region ?_
        refine jo_l (ly_mv rfl) (hd 24 rfl) ?_
        refine jo_l (ly_as rfl) (hd 2 rfl) ?_
        refine jo_nil ?_
        refine jc_ret ?_
        refine ⟨_, _, (.cons rfl .nil), .i, ?_⟩
        have hm : m = 0 := by omega
        subst hm
        rw [nbits_0] at hc1
        rw [← hc1]
        rfl

set_option maxHeartbeats 4000000 in
theorem Lend_s (l : List Int) (hl : l.length < 1099511627776) : Spec Try.prog 55 [.n false .u64 l] (fun o => o = .ret (.t [.n true .u64 (wrapP l), .n true .u64 l])) := by
  refine spec_of' [(0, .n false .u64 l)] rfl Try.func55 rfl (Nat.le_of_ble_eq_true rfl) fun Γ hN hds hL hR => ?_
  have hd : ∀ d, Nat.blt d 40 = true → d < Γ.N := fun d h => by rw [hN]; exact Nat.le_of_ble_eq_true h
  refine jc_seq ?_
  refine jc_region ?_
  refine jo_l (ly_as rfl) (hd 2 rfl) ?_
  refine jo_l (ly_as rfl) (hd 3 rfl) ?_
  refine jo_nil ?_
  refine jc_seq ?_
  refine jc_region ?_
  refine jo_l (ly_mv rfl) (hd 8 rfl) ?_
  refine jo_l (ly_lenn sl25 rfl) (hd 9 rfl) ?_
  refine jo_l (ly_add rfl rfl (r := ((l.length + 4 : Nat) : Int)) (by rw [wrap_i64 (by omega) (by omega)]; omega)) (hd 10 rfl) ?_
  refine jo_h (hy_mk (m := l.length + 4) el25 rfl rfl rfl (by show 8 * (l.length + 4) ≤ _; omega) (by unfold maxLen; omega) rfl) (hd 11 rfl) ?_
  refine jo_l (ly_as rfl) (hd 4 rfl) ?_
  refine jo_nil ?_
  refine jc_seq ?_
  refine jc_seq ?_
  refine jc_H (H' := [⟨82, 1, 0, true, ints .u64 (lendA (l.length + 4) 0)⟩]) (by rw [← lendA_0]; rfl) ?_
  refine jc_region ?_
  refine jo_l (ly_mv rfl) (hd 12 rfl) ?_
  refine jo_l (ly_leno sl25 rfl rfl) (hd 13 rfl) ?_
  refine jo_l (ly_mv rfl) (hd 14 rfl) ?_
  refine jo_nil ?_
  refine jc_block ?_
  refine jc_loopF (G := Nat) (fun i => i ≤ l.length + 4) (fun i => [(14, .i .i64 (i : Int)), (5, .u), (15, .u), (16, .u), (17, .u), (18, .u), (19, .u), (20, .u)]) (fun i => [⟨82, 1, 0, true, ints .u64 (lendA (l.length + 4) i)⟩]) (fun i => l.length + 4 - i) 0 ?_ ?_ rfl ?_
  · exact Nat.zero_le _
  · exact (.cons rfl (.u (.u (.u (.u (.u (.u (.u .nil))))))))
  · rintro i hc1
    have hlA := lendA_len hc1
    refine jc_seq ?_
    refine jc_region ?_
    refine jo_l (ly_lt rfl rfl) (hd 15 rfl) ?_
    refine jo_nil ?_
    refine jc_seq ?_
    refine jc_if rfl (fun h1 => ?_) (fun h1 => ?_)
    · refine jc_skip ?_
      refine jc_seq ?_
      refine jc_block ?_
      refine jc_seq ?_
      refine jc_region ?_
      refine jo_l (ly_mv rfl) (hd 16 rfl) ?_
      refine jo_l (ly_as rfl) (hd 5 rfl) ?_
      refine jo_nil ?_
      refine jc_region ?_
      refine jo_l (ly_mv rfl) (hd 17 rfl) ?_
      refine jo_l (ly_mv rfl) (hd 18 rfl) ?_
      refine jo_l (ly_ia (i := i) sl25 rfl rfl rfl (by first | rfl | omega) (by first | omega | (dsimp only; omega)) rfl) (hd 19 rfl) ?_
      refine jo_st (sy_storei rfl rfl rfl one82 (by first | omega | (dsimp only; omega))) ?_
      refine jo_nil ?_
      refine jc_region ?_
      refine jo_l (ly_add rfl rfl (wrap_i64 (by first | omega | (dsimp only; omega)) (by first | omega | (dsimp only; omega)))) (hd 20 rfl) ?_
      refine jo_l (ly_mv rfl) (hd 14 rfl) ?_
      refine jo_nil ?_
      refine ⟨i + 1, ?_, ?_, (by show [(⟨82, 1, 0, true, ints .u64 _⟩ : Ob)] = [⟨82, 1, 0, true, ints .u64 _⟩]; rw [lendA_set (by omega)]), cov_n 16 rfl rfl ?_⟩
      · omega
      · omega
      · exact (.cons rfl (.u (.u (.u (.u (.u (.u (.u .nil))))))))
    · refine jc_exit ?_
      refine jc_seq ?_
      refine jc_seq ?_
      refine jc_H (H' := [⟨82, 1, 0, true, ints .u64 (lendB l 0)⟩]) (by rw [← lendB_0, show l.length + 4 = i by omega]) ?_
      refine jc_region ?_
      refine jo_l (ly_mv rfl) (hd 21 rfl) ?_
      refine jo_l (ly_lenn sl25 rfl) (hd 22 rfl) ?_
      refine jo_l (ly_mv rfl) (hd 23 rfl) ?_
      refine jo_nil ?_
      refine jc_block ?_
      refine jc_loopF (G := Nat) (fun k => k ≤ l.length) (fun k => [(23, .i .i64 (k : Int)), (6, .u), (7, .u), (24, .u), (25, .u), (26, .u), (27, .u), (28, .u), (29, .u), (30, .u), (31, .u), (32, .u), (33, .u)]) (fun k => [⟨82, 1, 0, true, ints .u64 (lendB l k)⟩]) (fun k => l.length - k) 0 ?_ ?_ rfl ?_
      · exact Nat.zero_le _
      · exact (.cons rfl (.u (.u (.u (.u (.u (.u (.u (.u (.u (.u (.u (.u .nil)))))))))))))
      · rintro k hc2
        have hlB := lendB_len hc2
        refine jc_seq ?_
        refine jc_region ?_
        refine jo_l (ly_lt rfl rfl) (hd 24 rfl) ?_
        refine jo_nil ?_
        refine jc_seq ?_
        refine jc_if rfl (fun h2 => ?_) (fun h2 => ?_)
        · refine jc_skip ?_
          refine jc_seq ?_
          refine jc_block ?_
          refine jc_seq ?_
          refine jc_region ?_
          refine jo_l (ly_mv rfl) (hd 25 rfl) ?_
          refine jo_l (ly_ian (i := k) sl25 rfl rfl (by first | rfl | omega) (by first | omega | (dsimp only; omega))) (hd 26 rfl) ?_
          refine jo_l (ly_ldq one82 rfl rfl) (hd 27 rfl) ?_
          refine jo_l (ly_as rfl) (hd 6 rfl) ?_
          refine jo_l (ly_as rfl) (hd 7 rfl) ?_
          refine jo_nil ?_
          refine jc_region ?_
          refine jo_l (ly_mv rfl) (hd 28 rfl) ?_
          refine jo_l (ly_mv rfl) (hd 29 rfl) ?_
          refine jo_l (ly_add rfl rfl (wrap_i64 (by first | omega | (dsimp only; omega)) (by first | omega | (dsimp only; omega)))) (hd 30 rfl) ?_
          refine jo_l (ly_mv rfl) (hd 31 rfl) ?_
          refine jo_l (ly_ia (i := k + 2) sl25 rfl rfl rfl (by first | rfl | omega) (by first | omega | (dsimp only; omega)) rfl) (hd 32 rfl) ?_
          refine jo_st (sy_storei rfl rfl rfl one82 (by first | omega | (dsimp only; omega))) ?_
          refine jo_nil ?_
          refine jc_region ?_
          refine jo_l (ly_add rfl rfl (wrap_i64 (by first | omega | (dsimp only; omega)) (by first | omega | (dsimp only; omega)))) (hd 33 rfl) ?_
          refine jo_l (ly_mv rfl) (hd 23 rfl) ?_
          refine jo_nil ?_
          refine ⟨k + 1, ?_, ?_, (by show [(⟨82, 1, 0, true, ints .u64 _⟩ : Ob)] = [⟨82, 1, 0, true, ints .u64 _⟩]; rw [lendB_set (by omega)]), cov_n 26 rfl rfl ?_⟩
          · omega
          · omega
          · exact (.cons rfl (.u (.u (.u (.u (.u (.u (.u (.u (.u (.u (.u (.u .nil)))))))))))))
        · refine jc_exit ?_
          refine jc_seq ?_
          refine jc_H (H' := [⟨82, 1, 0, true, ints .u64 (wrapP l)⟩]) (by rw [← lendB_end, show l.length = k by omega]) ?_
          refine jc_draw (n := 8) _ rfl mixed ?_
          refine ja_l 0 (lo_l (ly_mv rfl) (hd 34 rfl)) rfl (by kernel_rfl) (by kernel_rfl) (by kernel_rfl) (fun _ _ _ _ h => h) ?_
          refine ja_l 1 (lo_l (ly_mv rfl) (hd 35 rfl)) rfl (by kernel_rfl) (by kernel_rfl) (by kernel_rfl) (fun _ _ _ _ h => h) ?_
          refine ja_l2 2 [3, 4, 5, 7] (lo_l (ly_mv rfl) (hd 36 rfl)) rfl (by kernel_rfl) (by kernel_rfl) (by kernel_rfl) (by kernel_rfl) (fun _ _ _ _ h => h) ?_
          refine ja_l2 3 [4, 5, 7] (lo_l (ly_lenn sl25 rfl) (hd 37 rfl)) rfl (by kernel_rfl) (by kernel_rfl) (by kernel_rfl) (by kernel_rfl) (fun _ _ _ _ h => h) ?_
          refine ja_l 4 (lo_l (ly_add rfl rfl (wrap_i64 (by first | omega | (dsimp only; omega)) (by first | omega | (dsimp only; omega)))) (hd 38 rfl)) rfl (by kernel_rfl) (by kernel_rfl) (by kernel_rfl) (fun _ _ _ _ h => h) ?_
          refine ja_l 5 (lo_l (ly_slo (l := 2) (h := l.length + 2) (r := 2) (n := l.length) sl25 rfl rfl (bnd_some' rfl rfl) (bnd_some' rfl (by omega)) (by omega) (by omega) rfl (by omega)) (hd 39 rfl)) rfl (by kernel_rfl) (by kernel_rfl) (by kernel_rfl) (fun _ _ _ _ h => h) ?_
          refine ja_l 6 (lo_l (ly_as rfl) (hd 2 rfl)) rfl (by kernel_rfl) (by kernel_rfl) (by kernel_rfl) (fun _ _ _ _ h => h) ?_
          refine ja_l 7 (lo_l (ly_as rfl) (hd 3 rfl)) rfl (by kernel_rfl) (by kernel_rfl) (by kernel_rfl) (fun _ _ _ _ h => h) ?_
          refine ja_nil (by kernel_rfl) ?_
          refine jc_ret ?_
          refine ⟨_, _, (.cons rfl (.cons rfl .nil)), (.t1 (.o (l := wrapP l) rfl (by rw [wrap_len]; omega) rfl) (.t1 (.o (l := wrapP l) rfl (by rw [wrap_len]; omega) rfl) .t0)), ?_⟩
          rw [show ((wrapP l).drop 0).take (l.length + 4) = wrapP l by rw [List.drop_zero, ← wrap_len, List.take_length], wrap_mid]

set_option maxHeartbeats 4000000 in
theorem lent_s (s : Bool) (l : List Int) (hl : l.length < 1099511627776) : Spec Try.prog 11 [.a [.b s, .n false .u64 l]] (fun o => o = .ret (.t [.n true .u64 (wrapP l), .a [.b s, .n true .u64 l]])) := by
  refine spec_of' [(0, .a [.b s, .n false .u64 l])] rfl Try.func11 rfl (Nat.le_of_ble_eq_true rfl) fun Γ hN hds hL hR => ?_
  have hd : ∀ d, Nat.blt d 17 = true → d < Γ.N := fun d h => by rw [hN]; exact Nat.le_of_ble_eq_true h
  refine jc_seq ?_
  refine jc_region ?_
  refine jo_h (hy_box (id := 0) (n := 2) rfl rfl rfl (by decide) rfl) (hd 1 rfl) ?_
  refine jo_l (ly_as rfl) (hd 2 rfl) ?_
  refine jo_h (hy_alloc (id := 1) zero30 (by decide) rfl (by decide) rfl) (hd 3 rfl) ?_
  refine jo_nil ?_
  refine jc_seq ?_
  refine jc_region ?_
  refine jo_l (ly_fa fld27_1 rfl rfl rfl) (hd 7 rfl) ?_
  refine jo_l (ly_ld one25 rfl rfl rfl) (hd 8 rfl) ?_
  refine jo_call Try.f55 (Lend_s l hl) rfl Try.func55 rfl rfl (ovL_cons rfl ovL_nil) (.cons .n .nil) (hd 9 rfl) ?_ (fun ch hp => by simp at hp)
  rintro y hy; injection hy with hy; subst hy
  refine jo_l (ly_mv rfl) (hd 6 rfl) ?_
  refine jo_l (ly_ext rfl rfl) (hd 10 rfl) ?_
  refine jo_l (ly_ext rfl rfl) (hd 11 rfl) ?_
  refine jo_l (ly_as rfl) (hd 4 rfl) ?_
  refine jo_l (ly_as rfl) (hd 5 rfl) ?_
  refine jo_nil ?_
  refine jc_seq ?_
  refine jc_draw (n := 7) _ rfl mixed ?_
  refine ja_l 0 (lo_l (ly_mv rfl) (hd 12 rfl)) rfl (by kernel_rfl) (by kernel_rfl) (by kernel_rfl) (fun _ _ _ _ h => h) ?_
  refine ja_l2 1 [2, 4, 6] (lo_l (ly_fa fld27_0 rfl rfl rfl) (hd 13 rfl)) rfl (by kernel_rfl) (by kernel_rfl) (by kernel_rfl) (by kernel_rfl) (fun _ _ _ _ h => h) ?_
  refine ja_l 2 (lo_l (ly_ld one4 rfl rfl rfl) (hd 14 rfl)) rfl (by kernel_rfl) (by kernel_rfl) (by kernel_rfl) (fun _ _ _ _ h => h) ?_
  refine ja_l 3 (lo_l (ly_mv rfl) (hd 15 rfl)) rfl (by kernel_rfl) (by kernel_rfl) (by kernel_rfl) (fun _ _ _ _ h => h) ?_
  refine ja_l 4 (lo_l (ly_build (is := [0, 1]) (xs := [.tmp 14, .tmp 15]) zero30 pls30_0_1 rfl (ovL_cons rfl (ovL_cons rfl ovL_nil)) rfl (by first | (simp [plsOk, cellsV]; done) | (simp [plsOk, cellsV, old]; done)) (all_of rfl) rfl) (hd 16 rfl)) rfl (by kernel_rfl) (by kernel_rfl) (by kernel_rfl) (fun _ _ _ _ h => h) ?_
  refine ja_l 5 (lo_l (ly_as rfl) (hd 2 rfl)) rfl (by kernel_rfl) (by kernel_rfl) (by kernel_rfl) (fun _ _ _ _ h => h) ?_
  refine ja_1 6 ?_ rfl (by kernel_rfl)
  refine js_st (sy_store rfl rfl rfl siz30 rfl rfl (Nat.le_of_ble_eq_true rfl)) rfl ?_
  refine ja_nil (by kernel_rfl) ?_
  refine jc_ret ?_
  refine ⟨_, _, (.cons rfl (.cons (ResV.cell agg30 rfl rfl rfl rfl) .nil)), (.t1 .n (.t1 (.a1 .b (.a1 .n .a0)) .t0)), ?_⟩
  exact rfl

set_option maxHeartbeats 4000000 in
theorem Kept_s (l : List Int) (hl : l.length < 1099511627776) : Spec Try.prog 26 [.n false .u64 (wrapP l), .n false .u64 l] (fun o => o = .ret (.b true)) := by
  refine spec_of' [(0, .n false .u64 (wrapP l)), (1, .n false .u64 l)] rfl Try.func26 rfl (Nat.le_of_ble_eq_true rfl) fun Γ hN hds hL hR => ?_
  have hd : ∀ d, Nat.blt d 39 = true → d < Γ.N := fun d h => by rw [hN]; exact Nat.le_of_ble_eq_true h
  have hw := wrap_len (l := l)
  refine jc_seq ?_
  refine jc_region ?_
  refine jo_l (ly_as rfl) (hd 4 rfl) ?_
  refine jo_nil ?_
  refine jc_seq ?_
  refine jc_seq ?_
  refine jc_region ?_
  refine jo_l (ly_mv rfl) (hd 7 rfl) ?_
  refine jo_l (ly_lenn sl25 rfl) (hd 8 rfl) ?_
  refine jo_l (ly_mv rfl) (hd 9 rfl) ?_
  refine jo_l (ly_lenn sl25 rfl) (hd 10 rfl) ?_
  refine jo_l (ly_add rfl rfl (wrap_i64 (by first | omega | (dsimp only; omega)) (by first | omega | (dsimp only; omega)))) (hd 11 rfl) ?_
  refine jo_l (ly_ff (ly_ne rfl rfl) (by omega)) (hd 12 rfl) ?_
  refine jo_nil ?_
  refine jc_litf rfl ?_
  refine jc_skip ?_
  refine jc_seq ?_
  refine jc_seq ?_
  refine jc_region ?_
  refine jo_l (ly_mv rfl) (hd 13 rfl) ?_
  refine jo_l (ly_lenn sl25 rfl) (hd 14 rfl) ?_
  refine jo_l (ly_mv rfl) (hd 15 rfl) ?_
  refine jo_nil ?_
  refine jc_block ?_
  refine jc_loopF (G := Nat) (fun i => i ≤ l.length + 4) (fun i => [(15, .i .i64 (i : Int)), (4, .u), (5, .u), (6, .u), (16, .u), (17, .u), (18, .u), (19, .u), (20, .u), (21, .u), (22, .u), (23, .u), (24, .u), (25, .u), (26, .u), (27, .u), (28, .u), (29, .u), (30, .u), (31, .u), (32, .u), (33, .u), (34, .u), (35, .u), (36, .u), (37, .u), (38, .u)]) (fun _ => _) (fun i => l.length + 4 - i) 0 ?_ ?_ rfl ?_
  · exact Nat.zero_le _
  · exact (.cons rfl (.u (.u (.u (.u (.u (.u (.u (.u (.u (.u (.u (.u (.u (.u (.u (.u (.u (.u (.u (.u (.u (.u (.u (.u (.u (.u .nil)))))))))))))))))))))))))))
  · rintro i hc1
    refine jc_seq ?_
    refine jc_region ?_
    refine jo_l (ly_lt rfl rfl) (hd 16 rfl) ?_
    refine jo_nil ?_
    refine jc_seq ?_
    refine jc_if rfl (fun h2 => ?_) (fun h2 => ?_)
    · refine jc_skip ?_
      refine jc_seq ?_
      refine jc_block ?_
      refine jc_seq ?_
      refine jc_region ?_
      refine jo_l (ly_mv rfl) (hd 17 rfl) ?_
      refine jo_l (ly_ian (i := i) sl25 rfl rfl (by first | rfl | omega) (by first | omega | (dsimp only; omega))) (hd 18 rfl) ?_
      refine jo_l (ly_ldq one82 rfl rfl) (hd 19 rfl) ?_
      refine jo_l (ly_as rfl) (hd 5 rfl) ?_
      refine jo_l (ly_as rfl) (hd 6 rfl) ?_
      refine jo_nil ?_
      refine jc_seq ?_
      refine jc_region ?_
      refine jo_l (ly_mv rfl) (hd 20 rfl) ?_
      refine jo_l (ly_lt rfl rfl) (hd 21 rfl) ?_
      refine jo_l (ly_mv rfl) (hd 22 rfl) ?_
      refine jo_ifp 22 rfl (fun h3 => ?_) (fun h3 => ?_)
      · refine jo_s 22 rfl rfl rfl (hd 23 rfl) ?_
        refine jo_s 22 rfl rfl rfl (hd 24 rfl) ?_
        refine jo_s 22 rfl rfl rfl (hd 25 rfl) ?_
        refine jo_s 22 rfl rfl rfl (hd 26 rfl) ?_
        refine jo_s 22 rfl rfl rfl (hd 27 rfl) ?_
        refine jo_l (ly_pick_t rfl rfl) (hd 28 rfl) ?_
        refine jo_nil ?_
        refine jc_litt rfl ?_
        refine jc_seq ?_
        refine jc_region ?_
        refine jo_l (ly_mv rfl) (hd 29 rfl) ?_
        refine jo_l (ly_ff (ly_ne rfl rfl) (fun hh => hh (wrap_out (by omega) (by omega)))) (hd 30 rfl) ?_
        refine jo_nil ?_
        refine jc_litf rfl ?_
        refine jc_skip ?_
        refine jc_region ?_
        refine jo_l (ly_add rfl rfl (wrap_i64 (by first | omega | (dsimp only; omega)) (by first | omega | (dsimp only; omega)))) (hd 38 rfl) ?_
        refine jo_l (ly_mv rfl) (hd 15 rfl) ?_
        refine jo_nil ?_
        refine ⟨i + 1, ?_, ?_, rfl, cov_n 47 rfl rfl ?_⟩
        · omega
        · omega
        · exact (.cons rfl (.u (.u (.u (.u (.u (.u (.u (.u (.u (.u (.u (.u (.u (.u (.u (.u (.u (.u (.u (.u (.u (.u (.u (.u (.u (.u .nil)))))))))))))))))))))))))))
      · refine jo_g 22 rfl rfl (ly_mv rfl) (hd 23 rfl) ?_
        refine jo_g 22 rfl rfl (ly_mv rfl) (hd 24 rfl) ?_
        refine jo_g 22 rfl rfl (ly_lenn sl25 rfl) (hd 25 rfl) ?_
        refine jo_g 22 rfl rfl (ly_add rfl rfl (wrap_i64 (by first | omega | (dsimp only; omega)) (by first | omega | (dsimp only; omega)))) (hd 26 rfl) ?_
        refine jo_g 22 rfl rfl (ly_ge rfl rfl) (hd 27 rfl) ?_
        refine jo_l (ly_pick_f rfl rfl) (hd 28 rfl) ?_
        refine jo_nil ?_
        refine jc_if rfl (fun h6 => ?_) (fun h6 => ?_)
        · refine jc_seq ?_
          refine jc_region ?_
          refine jo_l (ly_mv rfl) (hd 29 rfl) ?_
          refine jo_l (ly_ff (ly_ne rfl rfl) (fun hh => hh (wrap_out (by omega) (by omega)))) (hd 30 rfl) ?_
          refine jo_nil ?_
          refine jc_litf rfl ?_
          refine jc_skip ?_
          refine jc_region ?_
          refine jo_l (ly_add rfl rfl (wrap_i64 (by first | omega | (dsimp only; omega)) (by first | omega | (dsimp only; omega)))) (hd 38 rfl) ?_
          refine jo_l (ly_mv rfl) (hd 15 rfl) ?_
          refine jo_nil ?_
          refine ⟨i + 1, ?_, ?_, rfl, cov_n 47 rfl rfl ?_⟩
          · omega
          · omega
          · exact (.cons rfl (.u (.u (.u (.u (.u (.u (.u (.u (.u (.u (.u (.u (.u (.u (.u (.u (.u (.u (.u (.u (.u (.u (.u (.u (.u (.u .nil)))))))))))))))))))))))))))
        · refine jc_seq ?_
          refine jc_region ?_
          refine jo_l (ly_mv rfl) (hd 31 rfl) ?_
          refine jo_l (ly_mv rfl) (hd 32 rfl) ?_
          refine jo_l (ly_mv rfl) (hd 33 rfl) ?_
          refine jo_l (ly_sub rfl rfl (wrap_i64 (by first | omega | (dsimp only; omega)) (by first | omega | (dsimp only; omega)))) (hd 34 rfl) ?_
          refine jo_l (ly_ian (i := i - 2) sl25 rfl rfl (by first | rfl | omega) (by first | omega | (dsimp only; omega))) (hd 35 rfl) ?_
          refine jo_l (ly_ldq one82 rfl rfl) (hd 36 rfl) ?_
          refine jo_l (ly_ff (ly_ne rfl rfl) (fun hh => hh (wrap_in (by omega) (by omega)))) (hd 37 rfl) ?_
          refine jo_nil ?_
          refine jc_litf rfl ?_
          refine jc_skip ?_
          refine jc_region ?_
          refine jo_l (ly_add rfl rfl (wrap_i64 (by first | omega | (dsimp only; omega)) (by first | omega | (dsimp only; omega)))) (hd 38 rfl) ?_
          refine jo_l (ly_mv rfl) (hd 15 rfl) ?_
          refine jo_nil ?_
          refine ⟨i + 1, ?_, ?_, rfl, cov_n 52 rfl rfl ?_⟩
          · omega
          · omega
          · exact (.cons rfl (.u (.u (.u (.u (.u (.u (.u (.u (.u (.u (.u (.u (.u (.u (.u (.u (.u (.u (.u (.u (.u (.u (.u (.u (.u (.u .nil)))))))))))))))))))))))))))
    · refine jc_exit ?_
      refine jc_seq ?_
      refine jc_region ?_
      refine jo_l (ly_as rfl) (hd 4 rfl) ?_
      refine jo_nil ?_
      refine jc_ret ?_
      refine ⟨_, _, (.cons rfl .nil), .b, ?_⟩
      exact rfl
end Go.Proofs.Ytcdipmjgpimmdaa.Vc

/- Contracts with the error: mul.Mul, nat.Add, nat.Sub. -/
set_option linter.unusedVariables false
set_option linter.unusedSimpArgs false
namespace Go.Proofs.Ytcdipmjgpimmdaa.Vc
open Go Go.RowKit
end Go.Proofs.Ytcdipmjgpimmdaa.Vc

/- Contracts of whole.norm, fits, result, Add, Sub, Mul, Neg, Make, Abs: the answer is the caller's own. -/
set_option linter.unusedVariables false
set_option linter.unusedSimpArgs false
namespace Go.Proofs.Ytcdipmjgpimmdaa.Vc
open Go Go.RowKit
set_option maxHeartbeats 4000000 in
theorem Norm_n (l : List Int) (hl : l.length < 1099511627776) : SpecM Try.prog 86 [.n false .u64 l] [] (fun o G => o = .ret (.o 0 0 0 (trm l).length) ∧ G = [⟨82, 1, 0, true, ints .u64 (trm l)⟩]) := by
  refine specS_of [(0, .n false .u64 l)] rfl Try.func86 rfl (Nat.le_of_ble_eq_true rfl) fun Γ hN hds hL hR => ?_
  have hd : ∀ d, Nat.blt d 6 = true → d < Γ.N := fun d h => by rw [hN]; exact Nat.le_of_ble_eq_true h
  have hm := trm_len l
  refine jc_seq ?_
  refine jc_region ?_
  refine jo_l (ly_as rfl) (hd 2 rfl) ?_
  refine jo_nil ?_
  refine jc_seq ?_
  refine jc_region ?_
  refine jo_l (ly_mv rfl) (hd 3 rfl) ?_
  refine jo_call Try.f84 (trim_s l hl) rfl Try.func84 rfl rfl (ovL_cons rfl ovL_nil) (.cons .n .nil) (hd 4 rfl) ?_ (fun ch hp => by simp at hp)
  rintro y hy; injection hy with hy; subst hy
  refine jo_h (hy_app0 (id := 0) el28 rfl rfl src_n (by omega) (by unfold maxLen; omega) rfl) (hd 5 rfl) ?_
  refine jo_l (ly_as rfl) (hd 2 rfl) ?_
  refine jo_nil ?_
  refine jc_ret ?_
  refine ⟨[0], _, (.o 0 0 0 (trm l).length), (.cons rfl .nil), rfl, rfl, (by decide), (by first | exact idless_cons ints_id idless_nil | exact idless_cons rfl idless_nil), ?_⟩
  exact ⟨rfl, rfl⟩

set_option maxHeartbeats 4000000 in
theorem norm_n (s : Bool) (l : List Int) (hl : l.length < 1099511627776) : SpecM Try.prog 73 [.a [.b s, .n false .u64 l]] [] (fun o G => o = .ret (.a [.b (s && decide (0 < ((trm l).length : Int))), .o 0 0 0 (trm l).length]) ∧ G = [⟨82, 1, 0, true, ints .u64 (trm l)⟩]) := by
  refine specS_of [(0, .a [.b s, .n false .u64 l])] rfl Try.func73 rfl (Nat.le_of_ble_eq_true rfl) fun Γ hN hds hL hR => ?_
  have hd : ∀ d, Nat.blt d 16 = true → d < Γ.N := fun d h => by rw [hN]; exact Nat.le_of_ble_eq_true h
  refine jc_seq ?_
  refine jc_region ?_
  refine jo_h (hy_box (id := 0) (n := 2) rfl rfl rfl (by decide) rfl) (hd 1 rfl) ?_
  refine jo_h (hy_alloc (id := 1) zero30 (by decide) rfl (by decide) rfl) (hd 2 rfl) ?_
  refine jo_nil ?_
  refine jc_seq ?_
  refine jc_region ?_
  refine jo_l (ly_fa fld30_1 rfl rfl rfl) (hd 4 rfl) ?_
  refine jo_l (ly_ld one28 rfl rfl rfl) (hd 5 rfl) ?_
  refine jo_callN Try.f86 (Norm_n l hl) (fun o G ⟨_, h⟩ => h ▸ idless_cons ints_id idless_nil) rfl Try.func86 rfl rfl (ovL_cons rfl ovL_nil) (.cons .n .nil) (hd 6 rfl) ?_ (fun ch G hp => by simp at hp)
  rintro y G ⟨hy, rfl⟩
  injection hy with hy
  subst hy
  show JO _ _ _ _ ((6, .o 2 0 0 (trm l).length) :: _) _ _
  refine jo_l (ly_as rfl) (hd 3 rfl) ?_
  refine jo_nil ?_
  refine jc_seq ?_
  refine jc_region ?_
  refine jo_l (ly_fa fld30_0 rfl rfl rfl) (hd 7 rfl) ?_
  refine jo_l (ly_ld one4 rfl rfl rfl) (hd 8 rfl) ?_
  refine jo_l (ly_mv rfl) (hd 9 rfl) ?_
  refine jo_split 9 rfl (fun h1 => ?_) (fun h1 => ?_)
  · refine jo_g 9 rfl rfl (ly_mv rfl) (hd 10 rfl) ?_
    refine jo_g 9 rfl rfl (ly_leno sl28 rfl rfl) (hd 11 rfl) ?_
    refine jo_g 9 rfl rfl (ly_gt rfl rfl) (hd 12 rfl) ?_
    refine jo_l (ly_pick_t rfl rfl) (hd 13 rfl) ?_
    refine jo_l (ly_mv rfl) (hd 14 rfl) ?_
    refine jo_l (ly_build (is := [0, 1]) (xs := [.tmp 13, .tmp 14]) zero30 pls30_0_1 rfl (ovL_cons rfl (ovL_cons rfl ovL_nil)) rfl (by first | (simp [plsOk, cellsV]; done) | (simp [plsOk, cellsV, old]; done)) (all_of rfl) rfl) (hd 15 rfl) ?_
    refine jo_st (sy_store rfl rfl rfl siz30 rfl rfl (Nat.le_of_ble_eq_true rfl)) ?_
    refine jo_nil ?_
    refine jc_ret ?_
    refine ⟨[2], _, (.a [.b (decide (0 < ((trm l).length : Int))), .o 0 0 0 (trm l).length]), (.cons (ResV.cell agg30 rfl rfl rfl rfl) .nil), rfl, rfl, (by decide), (by first | exact idless_cons ints_id idless_nil | exact idless_cons rfl idless_nil), ?_⟩
    exact ⟨by simp_all, rfl⟩
  · refine jo_s 9 rfl rfl rfl (hd 10 rfl) ?_
    refine jo_s 9 rfl rfl rfl (hd 11 rfl) ?_
    refine jo_s 9 rfl rfl rfl (hd 12 rfl) ?_
    refine jo_l (ly_pick_f rfl rfl) (hd 13 rfl) ?_
    refine jo_l (ly_mv rfl) (hd 14 rfl) ?_
    refine jo_l (ly_build (is := [0, 1]) (xs := [.tmp 13, .tmp 14]) zero30 pls30_0_1 rfl (ovL_cons rfl (ovL_cons rfl ovL_nil)) rfl (by first | (simp [plsOk, cellsV]; done) | (simp [plsOk, cellsV, old]; done)) (all_of rfl) rfl) (hd 15 rfl) ?_
    refine jo_st (sy_store rfl rfl rfl siz30 rfl rfl (Nat.le_of_ble_eq_true rfl)) ?_
    refine jo_nil ?_
    refine jc_ret ?_
    refine ⟨[2], _, (.a [.b false, .o 0 0 0 (trm l).length]), (.cons (ResV.cell agg30 rfl rfl rfl rfl) .nil), rfl, rfl, (by decide), (by first | exact idless_cons ints_id idless_nil | exact idless_cons rfl idless_nil), ?_⟩
    exact ⟨by simp_all, rfl⟩

set_option maxHeartbeats 4000000 in
theorem fits_n (s : Bool) (l : List Int) (v : Int) (hl : l.length < 1099511627776) (hu : u64s l) (hv : sv s l = v) : SpecM Try.prog 69 [.a [.b s, .n false .u64 l]] [] (fun o G => ∃ (s2 : Bool) (r : List Int) (e : Int), o = .ret (.t [.a [.b s2, .o 0 0 0 r.length], .i .i64 e]) ∧ G = [⟨82, 1, 0, true, ints .u64 r⟩] ∧ Res (v) s2 r e) := by
  refine specS_of [(0, .a [.b s, .n false .u64 l])] rfl Try.func69 rfl (Nat.le_of_ble_eq_true rfl) fun Γ hN hds hL hR => ?_
  have hd : ∀ d, Nat.blt d 11 = true → d < Γ.N := fun d h => by rw [hN]; exact Nat.le_of_ble_eq_true h
  refine jc_seq ?_
  refine jc_region ?_
  refine jo_h (hy_box (id := 0) (n := 2) rfl rfl rfl (by decide) rfl) (hd 1 rfl) ?_
  refine jo_h (hy_alloc (id := 1) zero30 (by decide) rfl (by decide) rfl) (hd 2 rfl) ?_
  refine jo_l (ly_as rfl) (hd 3 rfl) ?_
  refine jo_nil ?_
  refine jc_seq ?_
  refine jc_seq ?_
  refine jc_region ?_
  refine jo_l (ly_fa fld30_1 rfl rfl rfl) (hd 4 rfl) ?_
  refine jo_l (ly_ld one28 rfl rfl rfl) (hd 5 rfl) ?_
  refine jo_call Try.f66 (Length_s l hl hu) rfl Try.func66 rfl rfl (ovL_cons rfl ovL_nil) (.cons .n .nil) (hd 6 rfl) ?_ (fun ch hp => by simp at hp)
  rintro y hy; injection hy with hy; subst hy
  refine jo_l (ly_gt rfl rfl) (hd 7 rfl) ?_
  refine jo_nil ?_
  refine jc_if rfl (fun h1 => ?_) (fun h1 => ?_)
  · refine jc_seq ?_
    refine jc_region ?_
    refine jo_l (ly_build (is := []) (xs := []) (pls := []) zero30 pls30_ rfl ovL_nil rfl trivial (all_of rfl) rfl) (hd 8 rfl) ?_
    refine jo_st (sy_store rfl rfl rfl siz30 rfl rfl (Nat.le_of_ble_eq_true rfl)) ?_
    refine jo_l (ly_as rfl) (hd 3 rfl) ?_
    refine jo_nil ?_
    refine jc_own0c (id := 1) 1 82 1 rfl rfl rfl ?_
    refine jc_ret ?_
    refine ⟨[2], _, (.t [.a [.b false, .o 0 0 0 0], .i .i64 3]), (.cons (ResV.cell agg30 rfl rfl rfl rfl) (.cons rfl .nil)), rfl, rfl, (by decide), (by first | exact idless_cons ints_id idless_nil | exact idless_cons rfl idless_nil), ?_⟩
    exact ⟨false, [], 3, rfl, rfl, res_big hu hv (by omega)⟩
  · refine jc_skip ?_
    refine jc_seq ?_
    refine jc_region ?_
    refine jo_l (ly_lda agg30 rfl rfl rfl rfl) (hd 9 rfl) ?_
    refine jo_callN Try.f73 (norm_n s l hl) (fun o G ⟨_, h⟩ => h ▸ idless_cons ints_id idless_nil) rfl Try.func73 rfl rfl (ovL_cons rfl ovL_nil) (.cons (.a1 .b (.a1 .n .a0)) .nil) (hd 10 rfl) ?_ (fun ch G hp => by simp at hp)
    rintro y G ⟨hy, rfl⟩
    injection hy with hy
    subst hy
    show JO _ _ _ _ ((10, .a [.b (s && decide (0 < ((trm l).length : Int))), .o 2 0 0 (trm l).length]) :: _) _ _
    refine jo_st (sy_store rfl rfl rfl siz30 rfl rfl (Nat.le_of_ble_eq_true rfl)) ?_
    refine jo_l (ly_as rfl) (hd 3 rfl) ?_
    refine jo_nil ?_
    refine jc_ret ?_
    refine ⟨[2], _, (.t [.a [.b (s && decide (0 < ((trm l).length : Int))), .o 0 0 0 (trm l).length], .i .i64 0]), (.cons (ResV.cell agg30 rfl rfl rfl rfl) (.cons rfl .nil)), rfl, rfl, (by decide), (by first | exact idless_cons ints_id idless_nil | exact idless_cons rfl idless_nil), ?_⟩
    exact ⟨_, _, 0, rfl, rfl, res_ok hu hv (by omega)⟩

set_option maxHeartbeats 4000000 in
theorem result_n (s : Bool) (l : List Int) (e v : Int) (hRs : ResN v s l e) : SpecM Try.prog 75 [.b s, .n false .u64 l, .i .i64 e] [] (fun o G => ∃ (s2 : Bool) (r : List Int) (e : Int), o = .ret (.t [.a [.b s2, .o 0 0 0 r.length], .i .i64 e]) ∧ G = [⟨82, 1, 0, true, ints .u64 r⟩] ∧ Res (v) s2 r e) := by
  refine specS_of [(0, .b s), (1, .n false .u64 l), (2, .i .i64 e)] rfl Try.func75 rfl (Nat.le_of_ble_eq_true rfl) fun Γ hN hds hL hR => ?_
  have hd : ∀ d, Nat.blt d 18 = true → d < Γ.N := fun d h => by rw [hN]; exact Nat.le_of_ble_eq_true h
  refine jc_seq ?_
  refine jc_region ?_
  refine jo_h (hy_alloc (id := 0) zero30 (by decide) rfl (by decide) rfl) (hd 6 rfl) ?_
  refine jo_l (ly_as rfl) (hd 7 rfl) ?_
  refine jo_nil ?_
  refine jc_seq ?_
  refine jc_seq ?_
  refine jc_region ?_
  refine jo_l (ly_mv rfl) (hd 8 rfl) ?_
  refine jo_l (ly_ne rfl rfl) (hd 9 rfl) ?_
  refine jo_nil ?_
  refine jc_if rfl (fun h1 => ?_) (fun h1 => ?_)
  · have hE : e = 3 ∧ 67108864 < lenV v := by
      rcases hRs with ⟨h, _⟩ | h
      · omega
      · exact h
    refine jc_seq ?_
    refine jc_region ?_
    refine jo_l (ly_build (is := []) (xs := []) (pls := []) zero30 pls30_ rfl ovL_nil rfl trivial (all_of rfl) rfl) (hd 10 rfl) ?_
    refine jo_l (ly_mv rfl) (hd 11 rfl) ?_
    refine jo_st (sy_store rfl rfl rfl siz30 rfl rfl (Nat.le_of_ble_eq_true rfl)) ?_
    refine jo_l (ly_as rfl) (hd 7 rfl) ?_
    refine jo_nil ?_
    refine jc_own0c (id := 0) 1 82 1 rfl rfl rfl ?_
    refine jc_ret ?_
    refine ⟨[1], _, (.t [.a [.b false, .o 0 0 0 0], .i .i64 e]), (.cons (ResV.cell agg30 rfl rfl rfl rfl) (.cons rfl .nil)), rfl, rfl, (by decide), (by first | exact idless_cons ints_id idless_nil | exact idless_cons rfl idless_nil), ?_⟩
    exact ⟨false, [], e, rfl, rfl, .inr ⟨hE.2, rfl, rfl, hE.1⟩⟩
  · have hE : u64s l ∧ l.length < 1099511627776 ∧ sv s l = v := by
      rcases hRs with ⟨_, h⟩ | ⟨h, _⟩
      · exact h
      · omega
    refine jc_skip ?_
    refine jc_seq ?_
    refine jc_region ?_
    refine jo_l (ly_mv rfl) (hd 12 rfl) ?_
    refine jo_l (ly_mv rfl) (hd 13 rfl) ?_
    refine jo_l (ly_build (is := [0, 1]) (xs := [.tmp 12, .tmp 13]) zero30 pls30_0_1 rfl (ovL_cons rfl (ovL_cons rfl ovL_nil)) rfl (by first | (simp [plsOk, cellsV]; done) | (simp [plsOk, cellsV, old]; done)) (all_of rfl) rfl) (hd 14 rfl) ?_
    refine jo_callN Try.f69 (fits_n s l v hE.2.1 hE.1 hE.2.2) (fun o G ⟨_, _, _, _, h, _⟩ => h ▸ idless_cons ints_id idless_nil) rfl Try.func69 rfl rfl (ovL_cons rfl ovL_nil) (.cons (.a1 .b (.a1 .n .a0)) .nil) (hd 15 rfl) ?_ (fun ch G hp => by simp at hp)
    rintro y G ⟨sf, rf, ef, hy, rfl, hf⟩
    injection hy with hy
    subst hy
    show JO _ _ _ _ ((15, .t [.a [.b sf, .o 1 0 0 rf.length], .i .i64 ef]) :: _) _ _
    refine jo_l (ly_ext rfl rfl) (hd 16 rfl) ?_
    refine jo_l (ly_ext rfl rfl) (hd 17 rfl) ?_
    refine jo_st (sy_store rfl rfl rfl siz30 rfl rfl (Nat.le_of_ble_eq_true rfl)) ?_
    refine jo_l (ly_as rfl) (hd 7 rfl) ?_
    refine jo_nil ?_
    refine jc_ret ?_
    refine ⟨[1], _, (.t [.a [.b sf, .o 0 0 0 rf.length], .i .i64 ef]), (.cons (ResV.cell agg30 rfl rfl rfl rfl) (.cons rfl .nil)), rfl, rfl, (by decide), (by first | exact idless_cons ints_id idless_nil | exact idless_cons rfl idless_nil), ?_⟩
    exact ⟨sf, rf, ef, rfl, rfl, hf⟩

end Go.Proofs.Ytcdipmjgpimmdaa.Vc

/- Contracts of the references' naturals: at, Cmp, Add, Sub, Mul. -/
set_option linter.unusedVariables false
set_option linter.unusedSimpArgs false
namespace Go.Proofs.Ytcdipmjgpimmdaa.Vc
open Go Go.RowKit
set_option maxHeartbeats 4000000 in
theorem at_s (x i d : Nat) (hx : (digs B32 x).length < 1099511627776) (hi : x / B32 ^ i % B32 = d) : Spec Try.prog 83 [.n false .u64 (digs B32 x), .i .i64 (i : Int)] (fun o => o = .ret (.i .u64 (d : Int))) := by
  refine spec_of' [(0, .n false .u64 (digs B32 x)), (1, .i .i64 (i : Int))] rfl Try.func83 rfl (Nat.le_of_ble_eq_true rfl) fun Γ hN hds hL hR => ?_
  have hd : ∀ d, Nat.blt d 13 = true → d < Γ.N := fun d h => by rw [hN]; exact Nat.le_of_ble_eq_true h
  have hv := digs_at (b := B32) (by decide) i x
  have ht := rng_getD (b := B32) (by decide) (rng_digs (by decide) x) i
  refine jc_seq ?_
  refine jc_region ?_
  refine jo_l (ly_as rfl) (hd 4 rfl) ?_
  refine jo_nil ?_
  refine jc_seq ?_
  refine jc_seq ?_
  refine jc_region ?_
  refine jo_l (ly_mv rfl) (hd 5 rfl) ?_
  refine jo_l (ly_mv rfl) (hd 6 rfl) ?_
  refine jo_l (ly_lenn sl33 rfl) (hd 7 rfl) ?_
  refine jo_l (ly_lt rfl rfl) (hd 8 rfl) ?_
  refine jo_nil ?_
  refine jc_if rfl (fun h1 => ?_) (fun h1 => ?_)
  · refine jc_seq ?_
    refine jc_region ?_
    refine jo_l (ly_mv rfl) (hd 9 rfl) ?_
    refine jo_l (ly_mv rfl) (hd 10 rfl) ?_
    refine jo_l (ly_ian (i := i) sl33 rfl rfl (by first | rfl | omega) (by omega)) (hd 11 rfl) ?_
    refine jo_l (ly_ldq one82 rfl rfl) (hd 12 rfl) ?_
    refine jo_l (ly_as rfl) (hd 4 rfl) ?_
    refine jo_nil ?_
    refine jc_ret ?_
    refine ⟨_, _, (.cons rfl .nil), .i, ?_⟩
    rw [hv, hi]
  · refine jc_skip ?_
    refine jc_seq ?_
    refine jc_region ?_
    refine jo_l (ly_as rfl) (hd 4 rfl) ?_
    refine jo_nil ?_
    refine jc_ret ?_
    refine ⟨_, _, (.cons rfl .nil), .i, ?_⟩
    rw [← hi]
    have h0 : (digs B32 x).getD i 0 = 0 := getD_ge (by omega)
    rw [h0] at hv
    rw [← hv]

set_option maxHeartbeats 4000000 in
theorem rCmp_s (x y : Nat) (hx : (digs B32 x).length < 1099511627776) (hy : (digs B32 y).length < 1099511627776) : Spec Try.prog 59 [.n false .u64 (digs B32 x), .n false .u64 (digs B32 y)] (fun o => o = .ret (.i .i64 (cmpI x y))) := by
  refine spec_of' [(0, .n false .u64 (digs B32 x)), (1, .n false .u64 (digs B32 y))] rfl Try.func59 rfl (Nat.le_of_ble_eq_true rfl) fun Γ hN hds hL hR => ?_
  have hd : ∀ d, Nat.blt d 41 = true → d < Γ.N := fun d h => by rw [hN]; exact Nat.le_of_ble_eq_true h
  have hcm := cmpL_digs (b := B32) (by decide) x y
  unfold cmpL at hcm
  refine jc_seq ?_
  refine jc_region ?_
  refine jo_l (ly_as rfl) (hd 4 rfl) ?_
  refine jo_nil ?_
  refine jc_seq ?_
  refine jc_seq ?_
  refine jc_region ?_
  refine jo_l (ly_mv rfl) (hd 6 rfl) ?_
  refine jo_l (ly_lenn sl33 rfl) (hd 7 rfl) ?_
  refine jo_l (ly_mv rfl) (hd 8 rfl) ?_
  refine jo_l (ly_lenn sl33 rfl) (hd 9 rfl) ?_
  refine jo_l (ly_ne rfl rfl) (hd 10 rfl) ?_
  refine jo_nil ?_
  refine jc_if rfl (fun h1 => ?_) (fun h1 => ?_)
  · refine jc_seq ?_
    refine jc_seq ?_
    refine jc_region ?_
    refine jo_l (ly_mv rfl) (hd 11 rfl) ?_
    refine jo_l (ly_lenn sl33 rfl) (hd 12 rfl) ?_
    refine jo_l (ly_mv rfl) (hd 13 rfl) ?_
    refine jo_l (ly_lenn sl33 rfl) (hd 14 rfl) ?_
    refine jo_l (ly_lt rfl rfl) (hd 15 rfl) ?_
    refine jo_nil ?_
    refine jc_if rfl (fun h2 => ?_) (fun h2 => ?_)
    · refine jc_seq ?_
      refine jc_region ?_
      refine jo_l (ly_as rfl) (hd 4 rfl) ?_
      refine jo_nil ?_
      refine jc_ret ?_
      refine ⟨_, _, (.cons rfl .nil), .i, ?_⟩
      rw [← hcm, if_pos (by omega)]
    · refine jc_skip ?_
      refine jc_seq ?_
      refine jc_region ?_
      refine jo_l (ly_as rfl) (hd 4 rfl) ?_
      refine jo_nil ?_
      refine jc_ret ?_
      refine ⟨_, _, (.cons rfl .nil), .i, ?_⟩
      rw [← hcm, if_neg (by omega), if_pos (by omega)]
  · refine jc_skip ?_
    refine jc_seq ?_
    refine jc_seq ?_
    refine jc_region ?_
    refine jo_l (ly_mv rfl) (hd 16 rfl) ?_
    refine jo_l (ly_lenn sl33 rfl) (hd 17 rfl) ?_
    refine jo_l (ly_sub rfl rfl (wrap_i64 (by omega) (by omega))) (hd 18 rfl) ?_
    refine jo_l (ly_as rfl) (hd 5 rfl) ?_
    refine jo_nil ?_
    refine jc_block ?_
    refine jc_loopF (G := Nat) (fun k => k ≤ (digs B32 x).length ∧ cmpN (digs B32 x) (digs B32 y) k = cmpN (digs B32 x) (digs B32 y) (digs B32 x).length) (fun k => [(5, .i .i64 ((k : Int) - 1)), (4, .u), (19, .u), (20, .u), (21, .u), (22, .u), (23, .u), (24, .u), (25, .u), (26, .u), (27, .u), (28, .u), (29, .u), (30, .u), (31, .u), (32, .u), (33, .u), (34, .u), (35, .u), (36, .u), (37, .u), (38, .u), (39, .u), (40, .u)]) (fun _ => _) (fun k => k) (digs B32 x).length ?_ ?_ rfl ?_
    · exact ⟨Nat.le_refl _, rfl⟩
    · exact (.cons rfl (.u (.u (.u (.u (.u (.u (.u (.u (.u (.u (.u (.u (.u (.u (.u (.u (.u (.u (.u (.u (.u (.u (.u .nil))))))))))))))))))))))))
    · rintro k ⟨hc1, hc2⟩
      refine jc_seq ?_
      refine jc_seq ?_
      refine jc_region ?_
      refine jo_l (ly_mv rfl) (hd 19 rfl) ?_
      refine jo_l (ly_ge rfl rfl) (hd 20 rfl) ?_
      refine jo_nil ?_
      refine jc_if rfl (fun h3 => ?_) (fun h3 => ?_)
      · refine jc_skip ?_
        refine jc_seq ?_
        refine jc_block ?_
        refine jc_seq ?_
        refine jc_seq ?_
        refine jc_draw (n := 9) _ rfl mixed ?_
        refine ja_l2 0 [2, 3, 8] (lo_l (ly_mv rfl) (hd 23 rfl)) rfl (by kernel_rfl) (by kernel_rfl) (by kernel_rfl) (by kernel_rfl) (fun _ _ _ _ h => h) ?_
        refine ja_l2 1 [2, 3, 8] (lo_l (ly_mv rfl) (hd 24 rfl)) rfl (by kernel_rfl) (by kernel_rfl) (by kernel_rfl) (by kernel_rfl) (fun _ _ _ _ h => h) ?_
        refine ja_l2 2 [3, 8] (lo_l (ly_ian (i := k - 1) sl33 rfl rfl (by omega) (by omega)) (hd 25 rfl)) rfl (by kernel_rfl) (by kernel_rfl) (by kernel_rfl) (by kernel_rfl) (fun _ _ _ _ h => h) ?_
        refine ja_l 3 (lo_l (ly_ldq one82 rfl rfl) (hd 26 rfl)) rfl (by kernel_rfl) (by kernel_rfl) (by kernel_rfl) (fun _ _ _ _ h => h) ?_
        refine ja_l2 4 [6, 7, 8] (lo_l (ly_mv rfl) (hd 27 rfl)) rfl (by kernel_rfl) (by kernel_rfl) (by kernel_rfl) (by kernel_rfl) (fun _ _ _ _ h => h) ?_
        refine ja_l2 5 [6, 7, 8] (lo_l (ly_mv rfl) (hd 28 rfl)) rfl (by kernel_rfl) (by kernel_rfl) (by kernel_rfl) (by kernel_rfl) (fun _ _ _ _ h => h) ?_
        refine ja_l2 6 [7, 8] (lo_l (ly_ian (i := k - 1) sl33 rfl rfl (by omega) (by omega)) (hd 29 rfl)) rfl (by kernel_rfl) (by kernel_rfl) (by kernel_rfl) (by kernel_rfl) (fun _ _ _ _ h => h) ?_
        refine ja_l 7 (lo_l (ly_ldq one82 rfl rfl) (hd 30 rfl)) rfl (by kernel_rfl) (by kernel_rfl) (by kernel_rfl) (fun _ _ _ _ h => h) ?_
        refine ja_l 8 (lo_l (ly_lt rfl rfl) (hd 31 rfl)) rfl (by kernel_rfl) (by kernel_rfl) (by kernel_rfl) (fun _ _ _ _ h => h) ?_
        refine ja_nil (by kernel_rfl) ?_
        refine jc_if rfl (fun h4 => ?_) (fun h4 => ?_)
        · refine jc_seq ?_
          refine jc_region ?_
          refine jo_l (ly_as rfl) (hd 4 rfl) ?_
          refine jo_nil ?_
          refine jc_ret ?_
          refine ⟨_, _, (.cons rfl .nil), .i, ?_⟩
          rw [← hcm, if_neg (by omega), if_neg (by omega), ← hc2, cmpN_lt (by omega) (by assumption)]
        · refine jc_skip ?_
          refine jc_seq ?_
          refine jc_draw (n := 9) _ rfl mixed ?_
          refine ja_l2 0 [2, 3, 8] (lo_l (ly_mv rfl) (hd 32 rfl)) rfl (by kernel_rfl) (by kernel_rfl) (by kernel_rfl) (by kernel_rfl) (fun _ _ _ _ h => h) ?_
          refine ja_l2 1 [2, 3, 8] (lo_l (ly_mv rfl) (hd 33 rfl)) rfl (by kernel_rfl) (by kernel_rfl) (by kernel_rfl) (by kernel_rfl) (fun _ _ _ _ h => h) ?_
          refine ja_l2 2 [3, 8] (lo_l (ly_ian (i := k - 1) sl33 rfl rfl (by omega) (by omega)) (hd 34 rfl)) rfl (by kernel_rfl) (by kernel_rfl) (by kernel_rfl) (by kernel_rfl) (fun _ _ _ _ h => h) ?_
          refine ja_l 3 (lo_l (ly_ldq one82 rfl rfl) (hd 35 rfl)) rfl (by kernel_rfl) (by kernel_rfl) (by kernel_rfl) (fun _ _ _ _ h => h) ?_
          refine ja_l2 4 [6, 7, 8] (lo_l (ly_mv rfl) (hd 36 rfl)) rfl (by kernel_rfl) (by kernel_rfl) (by kernel_rfl) (by kernel_rfl) (fun _ _ _ _ h => h) ?_
          refine ja_l2 5 [6, 7, 8] (lo_l (ly_mv rfl) (hd 37 rfl)) rfl (by kernel_rfl) (by kernel_rfl) (by kernel_rfl) (by kernel_rfl) (fun _ _ _ _ h => h) ?_
          refine ja_l2 6 [7, 8] (lo_l (ly_ian (i := k - 1) sl33 rfl rfl (by omega) (by omega)) (hd 38 rfl)) rfl (by kernel_rfl) (by kernel_rfl) (by kernel_rfl) (by kernel_rfl) (fun _ _ _ _ h => h) ?_
          refine ja_l 7 (lo_l (ly_ldq one82 rfl rfl) (hd 39 rfl)) rfl (by kernel_rfl) (by kernel_rfl) (by kernel_rfl) (fun _ _ _ _ h => h) ?_
          refine ja_l 8 (lo_l (ly_gt rfl rfl) (hd 40 rfl)) rfl (by kernel_rfl) (by kernel_rfl) (by kernel_rfl) (fun _ _ _ _ h => h) ?_
          refine ja_nil (by kernel_rfl) ?_
          refine jc_if rfl (fun h5 => ?_) (fun h5 => ?_)
          · refine jc_seq ?_
            refine jc_region ?_
            refine jo_l (ly_as rfl) (hd 4 rfl) ?_
            refine jo_nil ?_
            refine jc_ret ?_
            refine ⟨_, _, (.cons rfl .nil), .i, ?_⟩
            rw [← hcm, if_neg (by omega), if_neg (by omega), ← hc2, cmpN_gt (by omega) (by assumption)]
          · refine jc_skip ?_
            refine jc_region ?_
            refine jo_l (ly_mv rfl) (hd 21 rfl) ?_
            refine jo_l (ly_sub rfl rfl (wrap_i64 (by omega) (by omega))) (hd 22 rfl) ?_
            refine jo_l (ly_as rfl) (hd 5 rfl) ?_
            refine jo_nil ?_
            refine ⟨k - 1, ?_, ?_, rfl, cov_n 47 rfl rfl ?_⟩
            · exact ⟨by omega, by rw [← hc2]; exact cmpN_eq (by omega) (by assumption) (by assumption)⟩
            · omega
            · exact (.cons (by show some (V.i .i64 _) = some (V.i .i64 _); congr 2; omega) (.u (.u (.u (.u (.u (.u (.u (.u (.u (.u (.u (.u (.u (.u (.u (.u (.u (.u (.u (.u (.u (.u (.u .nil))))))))))))))))))))))))
      · refine jc_exit ?_
        refine jc_seq ?_
        refine jc_region ?_
        refine jo_l (ly_as rfl) (hd 4 rfl) ?_
        refine jo_nil ?_
        refine jc_ret ?_
        refine ⟨_, _, (.cons rfl .nil), .i, ?_⟩
        rw [← hcm, if_neg (by omega), if_neg (by omega), ← hc2]
        obtain rfl : k = 0 := by omega
        rfl

set_option maxHeartbeats 4000000 in
theorem rAdd_s (x y : Nat) (hx : (digs B32 x).length < 549755813888) (hy : (digs B32 y).length < 549755813888) : Spec Try.prog 64 [.n false .u64 (digs B32 x), .n false .u64 (digs B32 y)] (fun o => o = .ret (.n false .u64 (digs B32 (x + y)))) := by
  refine spec_of' [(0, .n false .u64 (digs B32 x)), (1, .n false .u64 (digs B32 y))] rfl Try.func64 rfl (Nat.le_of_ble_eq_true rfl) fun Γ hN hds hL hR => ?_
  have hd : ∀ d, Nat.blt d 44 = true → d < Γ.N := fun d h => by rw [hN]; exact Nat.le_of_ble_eq_true h
  refine jc_seq ?_
  refine jc_region ?_
  refine jo_l (ly_as rfl) (hd 4 rfl) ?_
  refine jo_nil ?_
  refine jc_seq ?_
  refine jc_region ?_
  refine jo_l (ly_mv rfl) (hd 10 rfl) ?_
  refine jo_l (ly_lenn sl33 rfl) (hd 11 rfl) ?_
  refine jo_l (ly_as rfl) (hd 5 rfl) ?_
  refine jo_nil ?_
  refine jc_meetH (G := Nat) (fun n => n = max (digs B32 x).length (digs B32 y).length) (fun n => [(5, .i .i64 (n : Int)), (12, .u), (13, .u), (14, .u), (15, .u), (16, .u), (17, .u)]) ?_ ?_
  · refine jc_seq ?_
    refine jc_region ?_
    refine jo_l (ly_mv rfl) (hd 12 rfl) ?_
    refine jo_l (ly_lenn sl33 rfl) (hd 13 rfl) ?_
    refine jo_l (ly_mv rfl) (hd 14 rfl) ?_
    refine jo_l (ly_gt rfl rfl) (hd 15 rfl) ?_
    refine jo_nil ?_
    refine jc_if rfl (fun h1 => ?_) (fun h1 => ?_)
    · refine jc_region ?_
      refine jo_l (ly_mv rfl) (hd 16 rfl) ?_
      refine jo_l (ly_lenn sl33 rfl) (hd 17 rfl) ?_
      refine jo_l (ly_as rfl) (hd 5 rfl) ?_
      refine jo_nil ?_
      refine ⟨(digs B32 y).length, ?_, rfl, cov_n 7 rfl rfl ?_⟩
      · omega
      · exact (.cons rfl (.u (.u (.u (.u (.u (.u .nil)))))))
    · refine jc_skip ?_
      refine ⟨(digs B32 x).length, ?_, rfl, cov_n 4 rfl rfl ?_⟩
      · omega
      · exact (.cons rfl (.u (.u (.u (.u (.u (.u .nil)))))))
  · rintro n hn
    refine jc_seq ?_
    refine jc_region ?_
    refine jo_l (ly_mv rfl) (hd 18 rfl) ?_
    refine jo_l (ly_add rfl rfl (r := ((n + 1 : Nat) : Int)) (by rw [wrap_i64 (by omega) (by omega)]; omega)) (hd 19 rfl) ?_
    refine jo_h (hy_mk (m := n + 1) el33 rfl rfl rfl (by show 8 * (n + 1) ≤ _; omega) (by unfold maxLen; omega) rfl) (hd 20 rfl) ?_
    refine jo_l (ly_as rfl) (hd 6 rfl) ?_
    refine jo_nil ?_
    refine jc_seq ?_
    refine jc_H (H' := [⟨82, 1, 0, true, ints .u64 (fillI (dvl (x + y) 0) (n + 1))⟩]) (by rw [← dvl_start]; rfl) ?_
    refine jc_region ?_
    refine jo_l (ly_as rfl) (hd 7 rfl) ?_
    refine jo_nil ?_
    refine jc_seq ?_
    refine jc_seq ?_
    refine jc_region ?_
    refine jo_l (ly_as rfl) (hd 8 rfl) ?_
    refine jo_nil ?_
    refine jc_block ?_
    refine jc_loopF (G := Nat) (fun i => i ≤ n + 1) (fun i => [(7, .i .u64 (cry x y i : Int)), (8, .i .i64 (i : Int)), (9, .u), (21, .u), (22, .u), (23, .u), (24, .u), (25, .u), (26, .u), (27, .u), (28, .u), (29, .u), (30, .u), (31, .u), (32, .u), (33, .u), (34, .u), (35, .u), (36, .u), (37, .u), (38, .u), (39, .u), (40, .u), (41, .u)]) (fun i => [⟨82, 1, 0, true, ints .u64 (fillI (dvl (x + y) i) (n + 1))⟩]) (fun i => n + 1 - i) 0 ?_ ?_ rfl ?_
    · exact Nat.zero_le _
    · exact (.cons (by show some (V.i .u64 _) = some (V.i .u64 _); rw [cry_0]; rfl) (.cons rfl (.u (.u (.u (.u (.u (.u (.u (.u (.u (.u (.u (.u (.u (.u (.u (.u (.u (.u (.u (.u (.u (.u .nil))))))))))))))))))))))))
    · rintro i hc1
      have hfl := fill_len (z := x + y) hc1
      have hcl := cry_le x y i
      have had := add_digit x y i
      obtain ⟨dx, hdx⟩ : ∃ q, x / B32 ^ i % B32 = q := ⟨_, rfl⟩
      obtain ⟨dy, hdy⟩ : ∃ q, y / B32 ^ i % B32 = q := ⟨_, rfl⟩
      have hb1 : x / B32 ^ i % B32 < 4294967296 := Nat.mod_lt _ (by decide)
      have hb2 : y / B32 ^ i % B32 < 4294967296 := Nat.mod_lt _ (by decide)
      rw [hdx] at hb1
      rw [hdy] at hb2
      rw [hdx, hdy] at had
      have hv1 : (dx + dy + cry x y i) % 4294967296 = (x + y) / B32 ^ i % B32 := had.1
      have hv2 : (dx + dy + cry x y i) / 4294967296 = cry x y (i + 1) := had.2
      refine jc_seq ?_
      refine jc_seq ?_
      refine jc_region ?_
      refine jo_l (ly_mv rfl) (hd 21 rfl) ?_
      refine jo_l (ly_mv rfl) (hd 22 rfl) ?_
      refine jo_l (ly_le rfl rfl) (hd 23 rfl) ?_
      refine jo_nil ?_
      refine jc_if rfl (fun h2 => ?_) (fun h2 => ?_)
      · refine jc_skip ?_
        refine jc_seq ?_
        refine jc_block ?_
        refine jc_seq ?_
        refine jc_region ?_
        refine jo_l (ly_mv rfl) (hd 26 rfl) ?_
        refine jo_l (ly_mv rfl) (hd 27 rfl) ?_
        refine jo_call Try.f83 (at_s x i dx (by omega) hdx) rfl Try.func83 rfl rfl (ovL_cons rfl (ovL_cons rfl ovL_nil)) (.cons .n (.cons .i .nil)) (hd 28 rfl) ?_ (fun ch hp => by simp at hp)
        rintro y hy; injection hy with hy; subst hy
        refine jo_l (ly_mv rfl) (hd 29 rfl) ?_
        refine jo_l (ly_mv rfl) (hd 30 rfl) ?_
        refine jo_call Try.f83 (at_s y i dy (by omega) hdy) rfl Try.func83 rfl rfl (ovL_cons rfl (ovL_cons rfl ovL_nil)) (.cons .n (.cons .i .nil)) (hd 31 rfl) ?_ (fun ch hp => by simp at hp)
        rintro y hy; injection hy with hy; subst hy
        refine jo_l (ly_add rfl rfl (r := ((dx + dy : Nat) : Int)) (by rw [wrap_u64 (by omega) (by omega)]; omega)) (hd 32 rfl) ?_
        refine jo_l (ly_mv rfl) (hd 33 rfl) ?_
        refine jo_l (ly_add rfl rfl (r := ((dx + dy + cry x y i : Nat) : Int)) (by rw [wrap_u64 (by omega) (by omega)]; omega)) (hd 34 rfl) ?_
        refine jo_l (ly_as rfl) (hd 9 rfl) ?_
        refine jo_nil ?_
        refine jc_seq ?_
        refine jc_region ?_
        refine jo_l (ly_mv rfl) (hd 35 rfl) ?_
        refine jo_l (ly_mv rfl) (hd 36 rfl) ?_
        refine jo_l (ly_mv rfl) (hd 37 rfl) ?_
        refine jo_l (ly_is (ly_rem rfl rfl (by decide) rfl) (show V.i .u64 (((dx + dy + cry x y i : Nat) : Int).tmod 4294967296) = V.i .u64 (dgt (x + y) i) by rw [show (((dx + dy + cry x y i : Nat) : Int).tmod 4294967296) = (((dx + dy + cry x y i) % 4294967296 : Nat) : Int) from rfl, hv1]; rfl)) (hd 38 rfl) ?_
        refine jo_l (ly_ia (i := i) sl33 rfl rfl rfl (by first | rfl | omega) (by first | omega | (dsimp only; omega)) rfl) (hd 39 rfl) ?_
        refine jo_st (sy_storei rfl rfl rfl one82 (by first | omega | (dsimp only; omega))) ?_
        refine jo_nil ?_
        refine jc_region ?_
        refine jo_l (ly_mv rfl) (hd 40 rfl) ?_
        refine jo_l (ly_quo rfl rfl (by decide) (r := ((cry x y (i + 1) : Nat) : Int)) (by rw [show (((dx + dy + cry x y i : Nat) : Int).tdiv 4294967296) = (((dx + dy + cry x y i) / 4294967296 : Nat) : Int) from rfl, hv2]; have := cry_le x y (i + 1); rw [wrap_u64 (by omega) (by omega)])) (hd 41 rfl) ?_
        refine jo_l (ly_as rfl) (hd 7 rfl) ?_
        refine jo_nil ?_
        refine jc_region ?_
        refine jo_l (ly_mv rfl) (hd 24 rfl) ?_
        refine jo_l (ly_add rfl rfl (wrap_i64 (by first | omega | (dsimp only; omega)) (by first | omega | (dsimp only; omega)))) (hd 25 rfl) ?_
        refine jo_l (ly_as rfl) (hd 8 rfl) ?_
        refine jo_nil ?_
        refine ⟨i + 1, ?_, ?_, (by show [(⟨82, 1, 0, true, ints .u64 _⟩ : Ob)] = [⟨82, 1, 0, true, ints .u64 _⟩]; rw [fill_dvl (by omega)]), cov_n 48 rfl rfl ?_⟩
        · omega
        · omega
        · exact (.cons rfl (.cons rfl (.u (.u (.u (.u (.u (.u (.u (.u (.u (.u (.u (.u (.u (.u (.u (.u (.u (.u (.u (.u (.u (.u .nil))))))))))))))))))))))))
      · refine jc_exit ?_
        refine jc_seq ?_
        obtain rfl : i = n + 1 := by omega
        refine jc_frz (k := .u64) (l' := dvl (x + y) (n + 1)) 6 rfl rfl (by rw [fill_all, dvl_len]; omega) (by rw [fill_all, List.drop_zero, List.take_of_length_le (by rw [dvl_len]; omega)]) hL ?_
        refine jc_region ?_
        refine jo_l (ly_mv rfl) (hd 42 rfl) ?_
        refine jo_call Try.f80 (rnorm_s (dvl (x + y) (n + 1)) (by rw [dvl_len]; omega)) rfl Try.func80 rfl rfl (ovL_cons rfl ovL_nil) (.cons .n .nil) (hd 43 rfl) ?_ (fun ch hp => by simp at hp)
        rintro y hy; injection hy with hy; subst hy
        refine jo_l (ly_as rfl) (hd 4 rfl) ?_
        refine jo_nil ?_
        refine jc_ret ?_
        refine ⟨_, _, (.cons rfl .nil), .n, ?_⟩
        rw [trm_dvl (sum_lt (by omega) (by omega))]

set_option maxHeartbeats 4000000 in
theorem rSub_s (x y : Nat) (hle : y ≤ x) (hx : (digs B32 x).length < 1099511627776) (hy : (digs B32 y).length < 1099511627776) : Spec Try.prog 65 [.n false .u64 (digs B32 x), .n false .u64 (digs B32 y)] (fun o => o = .ret (.n false .u64 (digs B32 (x - y)))) := by
  refine spec_of' [(0, .n false .u64 (digs B32 x)), (1, .n false .u64 (digs B32 y))] rfl Try.func65 rfl (Nat.le_of_ble_eq_true rfl) fun Γ hN hds hL hR => ?_
  have hd : ∀ d, Nat.blt d 39 = true → d < Γ.N := fun d h => by rw [hN]; exact Nat.le_of_ble_eq_true h
  refine jc_seq ?_
  refine jc_region ?_
  refine jo_l (ly_as rfl) (hd 4 rfl) ?_
  refine jo_nil ?_
  refine jc_seq ?_
  refine jc_region ?_
  refine jo_l (ly_mv rfl) (hd 9 rfl) ?_
  refine jo_l (ly_lenn sl33 rfl) (hd 10 rfl) ?_
  refine jo_h (hy_mk (m := (digs B32 x).length) el33 rfl rfl rfl (by show 8 * (digs B32 x).length ≤ _; omega) (by unfold maxLen; omega) rfl) (hd 11 rfl) ?_
  refine jo_l (ly_as rfl) (hd 5 rfl) ?_
  refine jo_nil ?_
  refine jc_seq ?_
  refine jc_H (H' := [⟨82, 1, 0, true, ints .u64 (fillI (dvl (x - y) 0) (digs B32 x).length)⟩]) (by rw [← dvl_start]; rfl) ?_
  refine jc_region ?_
  refine jo_l (ly_as rfl) (hd 6 rfl) ?_
  refine jo_nil ?_
  refine jc_seq ?_
  refine jc_seq ?_
  refine jc_region ?_
  refine jo_l (ly_mv rfl) (hd 12 rfl) ?_
  refine jo_l (ly_lenn sl33 rfl) (hd 13 rfl) ?_
  refine jo_l (ly_mv rfl) (hd 14 rfl) ?_
  refine jo_nil ?_
  refine jc_block ?_
  refine jc_loopF (G := Nat) (fun i => i ≤ (digs B32 x).length) (fun i => [(6, .i .u64 (brw x y i : Int)), (14, .i .i64 (i : Int)), (7, .u), (8, .u), (15, .u), (16, .u), (17, .u), (18, .u), (19, .u), (20, .u), (21, .u), (22, .u), (23, .u), (24, .u), (25, .u), (26, .u), (27, .u), (28, .u), (29, .u), (30, .u), (31, .u), (32, .u), (33, .u), (34, .u), (35, .u), (36, .u)]) (fun i => [⟨82, 1, 0, true, ints .u64 (fillI (dvl (x - y) i) ((digs B32 x).length))⟩]) (fun i => (digs B32 x).length - i) 0 ?_ ?_ rfl ?_
  · exact Nat.zero_le _
  · exact (.cons (by show some (V.i .u64 _) = some (V.i .u64 _); rw [brw_0]; rfl) (.cons rfl (.u (.u (.u (.u (.u (.u (.u (.u (.u (.u (.u (.u (.u (.u (.u (.u (.u (.u (.u (.u (.u (.u (.u (.u .nil))))))))))))))))))))))))))
  · rintro i hc1
    have hfl := fill_len (z := x - y) hc1
    have hcl := brw_le x y i
    have had := sub_digit hle i
    have hvx := digs_at (b := B32) (by decide) i x
    obtain ⟨dx, hdx⟩ : ∃ q, x / B32 ^ i % B32 = q := ⟨_, rfl⟩
    obtain ⟨dy, hdy⟩ : ∃ q, y / B32 ^ i % B32 = q := ⟨_, rfl⟩
    have hb1 : x / B32 ^ i % B32 < 4294967296 := Nat.mod_lt _ (by decide)
    have hb2 : y / B32 ^ i % B32 < 4294967296 := Nat.mod_lt _ (by decide)
    rw [hdx] at hb1
    rw [hdy] at hb2
    rw [hdx, hdy] at had
    rw [hdx] at hvx
    have hv1 : (dx + 4294967296 - dy - brw x y i) % 4294967296 = (x - y) / B32 ^ i % B32 := had.1
    have hv2 : 1 - (dx + 4294967296 - dy - brw x y i) / 4294967296 = brw x y (i + 1) := had.2
    refine jc_seq ?_
    refine jc_region ?_
    refine jo_l (ly_lt rfl rfl) (hd 15 rfl) ?_
    refine jo_nil ?_
    refine jc_seq ?_
    refine jc_if rfl (fun h1 => ?_) (fun h1 => ?_)
    · refine jc_skip ?_
      refine jc_seq ?_
      refine jc_block ?_
      refine jc_seq ?_
      refine jc_region ?_
      refine jo_l (ly_mv rfl) (hd 16 rfl) ?_
      refine jo_l (ly_as rfl) (hd 7 rfl) ?_
      refine jo_nil ?_
      refine jc_seq ?_
      refine jc_draw (n := 12) _ rfl mixed ?_
      refine ja_l2 0 [2, 3, 4, 8, 10, 11] (lo_l (ly_mv rfl) (hd 17 rfl)) rfl (by kernel_rfl) (by kernel_rfl) (by kernel_rfl) (by kernel_rfl) (fun _ _ _ _ h => h) ?_
      refine ja_l2 1 [2, 3, 4, 8, 10, 11] (lo_l (ly_mv rfl) (hd 18 rfl)) rfl (by kernel_rfl) (by kernel_rfl) (by kernel_rfl) (by kernel_rfl) (fun _ _ _ _ h => h) ?_
      refine ja_l2 2 [3, 4, 8, 10, 11] (lo_l (ly_ian (i := i) sl33 rfl rfl (by first | rfl | omega) (by omega)) (hd 19 rfl)) rfl (by kernel_rfl) (by kernel_rfl) (by kernel_rfl) (by kernel_rfl) (fun _ _ _ _ h => h) ?_
      refine ja_l2 3 [4, 8, 10, 11] (lo_l (ly_is (ly_ldq one82 rfl rfl) (by exact congrArg (V.i .u64) hvx)) (hd 20 rfl)) rfl (by kernel_rfl) (by kernel_rfl) (by kernel_rfl) (by kernel_rfl) (fun _ _ _ _ h => h) ?_
      refine ja_l2 4 [8, 10, 11] (lo_l (ly_add rfl rfl (r := ((dx + 4294967296 : Nat) : Int)) (by rw [wrap_u64 (by omega) (by omega)]; omega)) (hd 21 rfl)) rfl (by kernel_rfl) (by kernel_rfl) (by kernel_rfl) (by kernel_rfl) (fun _ _ _ _ h => h) ?_
      refine ja_l2 5 [7, 8, 10, 11] (lo_l (ly_mv rfl) (hd 22 rfl)) rfl (by kernel_rfl) (by kernel_rfl) (by kernel_rfl) (by kernel_rfl) (fun _ _ _ _ h => h) ?_
      refine ja_l2 6 [7, 8, 10, 11] (lo_l (ly_mv rfl) (hd 23 rfl)) rfl (by kernel_rfl) (by kernel_rfl) (by kernel_rfl) (by kernel_rfl) (fun _ _ _ _ h => h) ?_
      refine ja_l 9 (lo_l (ly_mv rfl) (hd 26 rfl)) rfl (by kernel_rfl) (by kernel_rfl) (by kernel_rfl) (fun _ _ _ _ h => h) ?_
      refine ja_1 7 ?_ rfl (by kernel_rfl)
      refine js_call Try.f83 (at_s y i dy hy hdy) rfl Try.func83 rfl rfl (ovL_cons rfl (ovL_cons rfl ovL_nil)) (.cons .n (.cons .i .nil)) (hd 24 rfl) ?_ (fun ch hp => by simp at hp)
      rintro y hy; injection hy with hy; subst hy
      refine ja_l 8 (lo_l (ly_sub rfl rfl (r := ((dx + 4294967296 - dy : Nat) : Int)) (by rw [wrap_u64 (by omega) (by omega)]; omega)) (hd 25 rfl)) rfl (by kernel_rfl) (by kernel_rfl) (by kernel_rfl) (fun _ _ _ _ h => h) ?_
      refine ja_l 10 (lo_l (ly_sub rfl rfl (r := ((dx + 4294967296 - dy - brw x y i : Nat) : Int)) (by rw [wrap_u64 (by omega) (by omega)]; omega)) (hd 27 rfl)) rfl (by kernel_rfl) (by kernel_rfl) (by kernel_rfl) (fun _ _ _ _ h => h) ?_
      refine ja_l 11 (lo_l (ly_as rfl) (hd 8 rfl)) rfl (by kernel_rfl) (by kernel_rfl) (by kernel_rfl) (fun _ _ _ _ h => h) ?_
      refine ja_nil (by kernel_rfl) ?_
      refine jc_seq ?_
      refine jc_region ?_
      refine jo_l (ly_mv rfl) (hd 28 rfl) ?_
      refine jo_l (ly_mv rfl) (hd 29 rfl) ?_
      refine jo_l (ly_mv rfl) (hd 30 rfl) ?_
      refine jo_l (ly_is (ly_rem rfl rfl (by decide) rfl) (show V.i .u64 (((dx + 4294967296 - dy - brw x y i : Nat) : Int).tmod 4294967296) = V.i .u64 (dgt (x - y) i) by rw [show (((dx + 4294967296 - dy - brw x y i : Nat) : Int).tmod 4294967296) = (((dx + 4294967296 - dy - brw x y i) % 4294967296 : Nat) : Int) from rfl, hv1]; rfl)) (hd 31 rfl) ?_
      refine jo_l (ly_ia (i := i) sl33 rfl rfl rfl (by first | rfl | omega) (by first | omega | (dsimp only; omega)) rfl) (hd 32 rfl) ?_
      refine jo_st (sy_storei rfl rfl rfl one82 (by first | omega | (dsimp only; omega))) ?_
      refine jo_nil ?_
      refine jc_region ?_
      refine jo_l (ly_mv rfl) (hd 33 rfl) ?_
      refine jo_l (ly_quo rfl rfl (by decide) (r := (((dx + 4294967296 - dy - brw x y i) / 4294967296 : Nat) : Int)) (by rw [show (((dx + 4294967296 - dy - brw x y i : Nat) : Int).tdiv 4294967296) = (((dx + 4294967296 - dy - brw x y i) / 4294967296 : Nat) : Int) from rfl, wrap_u64 (by omega) (by omega)])) (hd 34 rfl) ?_
      refine jo_l (ly_sub rfl rfl (r := ((brw x y (i + 1) : Nat) : Int)) (by rw [← hv2]; rw [wrap_u64 (by omega) (by omega)]; omega)) (hd 35 rfl) ?_
      refine jo_l (ly_as rfl) (hd 6 rfl) ?_
      refine jo_nil ?_
      refine jc_region ?_
      refine jo_l (ly_add rfl rfl (wrap_i64 (by first | omega | (dsimp only; omega)) (by first | omega | (dsimp only; omega)))) (hd 36 rfl) ?_
      refine jo_l (ly_mv rfl) (hd 14 rfl) ?_
      refine jo_nil ?_
      refine ⟨i + 1, ?_, ?_, (by show [(⟨82, 1, 0, true, ints .u64 _⟩ : Ob)] = [⟨82, 1, 0, true, ints .u64 _⟩]; rw [fill_dvl (by omega)]), cov_n 52 rfl rfl ?_⟩
      · omega
      · omega
      · exact (.cons rfl (.cons rfl (.u (.u (.u (.u (.u (.u (.u (.u (.u (.u (.u (.u (.u (.u (.u (.u (.u (.u (.u (.u (.u (.u (.u (.u .nil))))))))))))))))))))))))))
    · refine jc_exit ?_
      refine jc_seq ?_
      obtain rfl : i = (digs B32 x).length := by omega
      refine jc_frz (k := .u64) (l' := dvl (x - y) (digs B32 x).length) 5 rfl rfl (by rw [fill_all, dvl_len]; omega) (by rw [fill_all, List.drop_zero, List.take_of_length_le (by rw [dvl_len]; omega)]) hL ?_
      refine jc_region ?_
      refine jo_l (ly_mv rfl) (hd 37 rfl) ?_
      refine jo_call Try.f80 (rnorm_s (dvl (x - y) (digs B32 x).length) (by rw [dvl_len]; omega)) rfl Try.func80 rfl rfl (ovL_cons rfl ovL_nil) (.cons .n .nil) (hd 38 rfl) ?_ (fun ch hp => by simp at hp)
      rintro y hy; injection hy with hy; subst hy
      refine jo_l (ly_as rfl) (hd 4 rfl) ?_
      refine jo_nil ?_
      refine jc_ret ?_
      refine ⟨_, _, (.cons rfl .nil), .n, ?_⟩
      rw [trm_dvl dif_lt]

set_option maxHeartbeats 4000000 in
theorem rMul_r (a b : List Int) (hla : a.length < 549755813888) (hlb : b.length < 549755813888) (ra : rng B32 a) (rb : rng B32 b) : Spec Try.prog 79 [.n false .u64 a, .n false .u64 b] (fun o => ∃ r, o = .ret (.n false .u64 (trm r)) ∧ rng B32 r ∧ vb B32 r = vb B32 a * vb B32 b) := by
  refine spec_of' [(0, .n false .u64 a), (1, .n false .u64 b)] rfl Try.func79 rfl (Nat.le_of_ble_eq_true rfl) fun Γ hN hds hL hR => ?_
  have hd : ∀ d, Nat.blt d 65 = true → d < Γ.N := fun d h => by rw [hN]; exact Nat.le_of_ble_eq_true h
  have hB : B32 = 4294967296 := rfl
  refine jc_seq ?_
  refine jc_region ?_
  refine jo_l (ly_as rfl) (hd 4 rfl) ?_
  refine jo_nil ?_
  refine jc_seq ?_
  refine jc_region ?_
  refine jo_l (ly_mv rfl) (hd 12 rfl) ?_
  refine jo_l (ly_lenn sl33 rfl) (hd 13 rfl) ?_
  refine jo_l (ly_mv rfl) (hd 14 rfl) ?_
  refine jo_l (ly_lenn sl33 rfl) (hd 15 rfl) ?_
  refine jo_l (ly_add rfl rfl (r := ((a.length + b.length : Nat) : Int)) (by rw [wrap_i64 (by omega) (by omega)]; omega)) (hd 16 rfl) ?_
  refine jo_l (ly_add rfl rfl (r := ((a.length + b.length + 1 : Nat) : Int)) (by rw [wrap_i64 (by omega) (by omega)]; omega)) (hd 17 rfl) ?_
  refine jo_h (hy_mk (m := a.length + b.length + 1) el33 rfl rfl rfl (by show 8 * (a.length + b.length + 1) ≤ _; omega) (by unfold maxLen; omega) rfl) (hd 18 rfl) ?_
  refine jo_l (ly_as rfl) (hd 5 rfl) ?_
  refine jo_nil ?_
  refine jc_seq ?_
  refine jc_seq ?_
  refine jc_region ?_
  refine jo_l (ly_mv rfl) (hd 19 rfl) ?_
  refine jo_l (ly_lenn sl33 rfl) (hd 20 rfl) ?_
  refine jo_l (ly_mv rfl) (hd 21 rfl) ?_
  refine jo_nil ?_
  refine jc_block ?_
  refine jc_loopF (G := Nat × List Int) (fun g => g.1 ≤ a.length ∧ g.2.length = a.length + b.length + 1 ∧ rng B32 g.2 ∧ D.vl g.2 = D.vk a g.1 * D.vl b ∧ ∀ j, g.1 + b.length ≤ j → g.2.getD j 0 = 0) (fun g => [(21, .i .i64 (g.1 : Int)), (6, .u), (7, .u), (8, .u), (9, .u), (10, .u), (11, .u), (22, .u), (23, .u), (24, .u), (25, .u), (26, .u), (27, .u), (28, .u), (29, .u), (30, .u), (31, .u), (32, .u), (33, .u), (34, .u), (35, .u), (36, .u), (37, .u), (38, .u), (39, .u), (40, .u), (41, .u), (42, .u), (43, .u), (44, .u), (45, .u), (46, .u), (47, .u), (48, .u), (49, .u), (50, .u), (51, .u), (52, .u), (53, .u), (54, .u), (55, .u), (56, .u), (57, .u), (58, .u), (59, .u), (60, .u), (61, .u), (62, .u)]) (fun g => [⟨82, 1, 0, true, ints .u64 g.2⟩]) (fun g => a.length - g.1) (0, List.replicate (a.length + b.length + 1) 0) ?_ ?_ rfl ?_
  · exact ⟨Nat.zero_le _, List.length_replicate, fun x hx => by rw [List.eq_of_mem_replicate hx]; exact ⟨Int.le_refl 0, by decide⟩, by show D.vl (List.replicate (a.length + b.length + 1) 0) = D.vk a 0 * _; rw [D.vk_0, Int.zero_mul, ← vb_D]; have h9 := vb_app 4294967296 [] (a.length + b.length + 1); rw [List.nil_append] at h9; exact h9, fun j _ => getD_zeros _ j⟩
  · exact (.cons rfl (.u (.u (.u (.u (.u (.u (.u (.u (.u (.u (.u (.u (.u (.u (.u (.u (.u (.u (.u (.u (.u (.u (.u (.u (.u (.u (.u (.u (.u (.u (.u (.u (.u (.u (.u (.u (.u (.u (.u (.u (.u (.u (.u (.u (.u (.u (.u .nil))))))))))))))))))))))))))))))))))))))))))))))))
  · rintro ⟨i, r⟩ ⟨hc1, hc2, hc3, hc4, hc5⟩
    dsimp only at hc1 hc2 hc3 hc4 hc5 ⊢
    have hX : 0 ≤ a.getD i 0 ∧ a.getD i 0 < 4294967296 := rng_getD (by decide) ra i
    refine jc_seq ?_
    refine jc_region ?_
    refine jo_l (ly_lt rfl rfl) (hd 22 rfl) ?_
    refine jo_nil ?_
    refine jc_seq ?_
    refine jc_if rfl (fun h1 => ?_) (fun h1 => ?_)
    · refine jc_skip ?_
      refine jc_seq ?_
      refine jc_block ?_
      refine jc_seq ?_
      refine jc_region ?_
      refine jo_l (ly_mv rfl) (hd 23 rfl) ?_
      refine jo_l (ly_ian (i := i) sl33 rfl rfl (by first | rfl | omega) (by first | omega | (dsimp only; omega))) (hd 24 rfl) ?_
      refine jo_l (ly_ldq one82 rfl rfl) (hd 25 rfl) ?_
      refine jo_l (ly_as rfl) (hd 6 rfl) ?_
      refine jo_l (ly_as rfl) (hd 7 rfl) ?_
      refine jo_nil ?_
      refine jc_seq ?_
      refine jc_region ?_
      refine jo_l (ly_as rfl) (hd 8 rfl) ?_
      refine jo_nil ?_
      refine jc_seq ?_
      refine jc_seq ?_
      refine jc_region ?_
      refine jo_l (ly_mv rfl) (hd 26 rfl) ?_
      refine jo_l (ly_lenn sl33 rfl) (hd 27 rfl) ?_
      refine jo_l (ly_mv rfl) (hd 28 rfl) ?_
      refine jo_nil ?_
      refine jc_block ?_
      refine jc_loopF (G := Nat × List Int × Int) (fun g => g.1 ≤ b.length ∧ g.2.1.length = a.length + b.length + 1 ∧ rng B32 g.2.1 ∧ (0 ≤ g.2.2 ∧ g.2.2 < 4294967296) ∧ D.vl g.2.1 + g.2.2 * D.pB (i + g.1) = D.vl r + a.getD i 0 * D.pB i * D.vk b g.1 ∧ ∀ j, i + b.length ≤ j → g.2.1.getD j 0 = 0) (fun g => [(8, .i .u64 g.2.2), (28, .i .i64 (g.1 : Int)), (9, .u), (10, .u), (11, .u), (29, .u), (30, .u), (31, .u), (32, .u), (33, .u), (34, .u), (35, .u), (36, .u), (37, .u), (38, .u), (39, .u), (40, .u), (41, .u), (42, .u), (43, .u), (44, .u), (45, .u), (46, .u), (47, .u), (48, .u), (49, .u), (50, .u), (51, .u), (52, .u), (53, .u), (54, .u)]) (fun g => [⟨82, 1, 0, true, ints .u64 g.2.1⟩]) (fun g => b.length - g.1) (0, r, 0) ?_ ?_ rfl ?_
      · exact ⟨Nat.zero_le _, hc2, hc3, ⟨Int.le_refl 0, by show (0 : Int) < _; decide⟩, by show D.vl r + 0 * _ = _ + _ * D.vk b 0; rw [D.vk_0, Int.mul_zero, Int.zero_mul], hc5⟩
      · exact (.cons rfl (.cons rfl (.u (.u (.u (.u (.u (.u (.u (.u (.u (.u (.u (.u (.u (.u (.u (.u (.u (.u (.u (.u (.u (.u (.u (.u (.u (.u (.u (.u (.u .nil)))))))))))))))))))))))))))))))
      · rintro ⟨k, q, c⟩ ⟨hd1, hd2, hd3, hd4, hd5, hd6⟩
        dsimp only at hd1 hd2 hd3 hd4 hd5 hd6
        have hY : 0 ≤ b.getD k 0 ∧ b.getD k 0 < 4294967296 := rng_getD (by decide) rb k
        have hT : 0 ≤ q.getD (i + k) 0 ∧ q.getD (i + k) 0 < 4294967296 := rng_getD (by decide) hd3 (i + k)
        have hP := mul_bd (m := 4294967295) hX.1 hY.1 (by omega) (by omega)
        have hP2 : (a.getD i 0 * b.getD k 0) ≤ 18446744065119617025 := by have := hP.2; simpa using this
        have hP1 := hP.1
        refine jc_seq ?_
        refine jc_region ?_
        refine jo_l (ly_lt rfl rfl) (hd 29 rfl) ?_
        refine jo_nil ?_
        refine jc_seq ?_
        refine jc_if rfl (fun h2 => ?_) (fun h2 => ?_)
        · refine jc_skip ?_
          refine jc_seq ?_
          refine jc_block ?_
          refine jc_seq ?_
          refine jc_region ?_
          refine jo_l (ly_mv rfl) (hd 30 rfl) ?_
          refine jo_l (ly_ian (i := k) sl33 rfl rfl (by first | rfl | omega) (by first | omega | (dsimp only; omega))) (hd 31 rfl) ?_
          refine jo_l (ly_ldq one82 rfl rfl) (hd 32 rfl) ?_
          refine jo_l (ly_as rfl) (hd 9 rfl) ?_
          refine jo_l (ly_as rfl) (hd 10 rfl) ?_
          refine jo_nil ?_
          refine jc_seq ?_
          refine jc_region ?_
          refine jo_l (ly_mv rfl) (hd 33 rfl) ?_
          refine jo_l (ly_mv rfl) (hd 34 rfl) ?_
          refine jo_l (ly_mul rfl rfl (r := (a.getD i 0 * b.getD k 0)) (by rw [wrap_u64 (by omega) (by omega)])) (hd 35 rfl) ?_
          refine jo_l (ly_mv rfl) (hd 36 rfl) ?_
          refine jo_l (ly_mv rfl) (hd 37 rfl) ?_
          refine jo_l (ly_mv rfl) (hd 38 rfl) ?_
          refine jo_l (ly_add rfl rfl (r := ((i + k : Nat) : Int)) (by rw [wrap_i64 (by omega) (by omega)]; omega)) (hd 39 rfl) ?_
          refine jo_l (ly_ia (i := i + k) sl33 rfl rfl rfl (by first | rfl | omega) (by first | omega | (dsimp only; omega)) rfl) (hd 40 rfl) ?_
          refine jo_l (ly_is (ly_ldi one82 rfl rfl (by dsimp only; omega)) (show V.i .u64 (q.getD ((0 + (i + k)) * 1) 0) = V.i .u64 (q.getD (i + k) 0) by rw [Nat.zero_add, Nat.mul_one])) (hd 41 rfl) ?_
          refine jo_l (ly_add rfl rfl (r := (a.getD i 0 * b.getD k 0) + q.getD (i + k) 0) (by rw [wrap_u64 (by omega) (by omega)])) (hd 42 rfl) ?_
          refine jo_l (ly_mv rfl) (hd 43 rfl) ?_
          refine jo_l (ly_add rfl rfl (r := ((a.getD i 0 * b.getD k 0) + q.getD (i + k) 0 + c)) (by rw [wrap_u64 (by dsimp only; omega) (by dsimp only; omega)])) (hd 44 rfl) ?_
          refine jo_l (ly_as rfl) (hd 11 rfl) ?_
          refine jo_nil ?_
          refine jc_seq ?_
          refine jc_region ?_
          refine jo_l (ly_mv rfl) (hd 45 rfl) ?_
          refine jo_l (ly_mv rfl) (hd 46 rfl) ?_
          refine jo_l (ly_mv rfl) (hd 47 rfl) ?_
          refine jo_l (ly_add rfl rfl (r := ((i + k : Nat) : Int)) (by rw [wrap_i64 (by omega) (by omega)]; omega)) (hd 48 rfl) ?_
          refine jo_l (ly_mv rfl) (hd 49 rfl) ?_
          refine jo_l (ly_is (ly_rem rfl rfl (by decide) rfl) (congrArg (V.i .u64) (Int.tmod_eq_emod_of_nonneg (by omega)))) (hd 50 rfl) ?_
          refine jo_l (ly_ia (i := i + k) sl33 rfl rfl rfl (by first | rfl | omega) (by first | omega | (dsimp only; omega)) rfl) (hd 51 rfl) ?_
          refine jo_st (sy_storei rfl rfl rfl one82 (by dsimp only; omega)) ?_
          refine jo_nil ?_
          refine jc_region ?_
          refine jo_l (ly_mv rfl) (hd 52 rfl) ?_
          refine jo_l (ly_quo rfl rfl (by decide) (r := ((a.getD i 0 * b.getD k 0) + q.getD (i + k) 0 + c) / 4294967296) (by rw [Int.tdiv_eq_ediv_of_nonneg (by omega), wrap_u64 (by omega) (by omega)])) (hd 53 rfl) ?_
          refine jo_l (ly_as rfl) (hd 8 rfl) ?_
          refine jo_nil ?_
          refine jc_region ?_
          refine jo_l (ly_add rfl rfl (wrap_i64 (by first | omega | (dsimp only; omega)) (by first | omega | (dsimp only; omega)))) (hd 54 rfl) ?_
          refine jo_l (ly_mv rfl) (hd 28 rfl) ?_
          refine jo_nil ?_
          refine ⟨(k + 1, q.set ((0 + (i + k)) * 1) (((a.getD i 0 * b.getD k 0) + q.getD (i + k) 0 + c) % 4294967296), ((a.getD i 0 * b.getD k 0) + q.getD (i + k) 0 + c) / 4294967296), ?_, ?_, rfl, cov_n 62 rfl rfl ?_⟩
          · refine ⟨by show k + 1 ≤ b.length; omega, by rw [List.length_set]; exact hd2, rng_set hd3 (by omega) (by show _ < ((4294967296 : Nat) : Int); omega), ⟨by show 0 ≤ ((a.getD i 0 * b.getD k 0) + q.getD (i + k) 0 + c) / 4294967296; omega, by show ((a.getD i 0 * b.getD k 0) + q.getD (i + k) 0 + c) / 4294967296 < 4294967296; omega⟩, ?_, fun j hj => ?_⟩
            · exact D.school_in (by omega) (by rw [Nat.zero_add, Nat.mul_one]) rfl hd5 (by show ((a.getD i 0 * b.getD k 0) + q.getD (i + k) 0 + c) % 4294967296 + 4294967296 * (((a.getD i 0 * b.getD k 0) + q.getD (i + k) 0 + c) / 4294967296) = q.getD (i + k) 0 + (a.getD i 0 * b.getD k 0) + c; omega)
            · rw [Nat.zero_add, Nat.mul_one, getD_set (by omega)]; exact hd6 j hj
          · show b.length - (k + 1) < b.length - k
            omega
          · exact (.cons rfl (.cons rfl (.u (.u (.u (.u (.u (.u (.u (.u (.u (.u (.u (.u (.u (.u (.u (.u (.u (.u (.u (.u (.u (.u (.u (.u (.u (.u (.u (.u (.u .nil)))))))))))))))))))))))))))))))
        · obtain rfl : k = b.length := by omega
          refine jc_exit ?_
          refine jc_region ?_
          refine jo_l (ly_mv rfl) (hd 55 rfl) ?_
          refine jo_l (ly_mv rfl) (hd 56 rfl) ?_
          refine jo_l (ly_mv rfl) (hd 57 rfl) ?_
          refine jo_l (ly_lenn sl33 rfl) (hd 58 rfl) ?_
          refine jo_l (ly_add rfl rfl (r := ((i + b.length : Nat) : Int)) (by rw [wrap_i64 (by omega) (by omega)]; omega)) (hd 59 rfl) ?_
          refine jo_l (ly_mv rfl) (hd 60 rfl) ?_
          refine jo_l (ly_ia (i := i + b.length) sl33 rfl rfl rfl (by first | rfl | omega) (by first | omega | (dsimp only; omega)) rfl) (hd 61 rfl) ?_
          refine jo_st (sy_storei rfl rfl rfl one82 (by dsimp only; omega)) ?_
          refine jo_nil ?_
          refine jc_region ?_
          refine jo_l (ly_add rfl rfl (wrap_i64 (by first | omega | (dsimp only; omega)) (by first | omega | (dsimp only; omega)))) (hd 62 rfl) ?_
          refine jo_l (ly_mv rfl) (hd 21 rfl) ?_
          refine jo_nil ?_
          refine ⟨(i + 1, q.set ((0 + (i + b.length)) * 1) c), ?_, ?_, rfl, cov_n 99 rfl rfl ?_⟩
          · exact ⟨by show i + 1 ≤ a.length; omega, by rw [List.length_set]; exact hd2, rng_set hd3 hd4.1 hd4.2, D.school_row (by omega) (hd6 _ (Nat.le_refl _)) (by rw [Nat.zero_add, Nat.mul_one]) (by rw [hd5, hc4]), fun j hj => by rw [Nat.zero_add, Nat.mul_one, getD_set (by omega)]; exact hd6 j (by omega)⟩
          · show a.length - (i + 1) < a.length - i
            omega
          · exact (.cons rfl (.u (.u (.u (.u (.u (.u (.u (.u (.u (.u (.u (.u (.u (.u (.u (.u (.u (.u (.u (.u (.u (.u (.u (.u (.u (.u (.u (.u (.u (.u (.u (.u (.u (.u (.u (.u (.u (.u (.u (.u (.u (.u (.u (.u (.u (.u (.u .nil))))))))))))))))))))))))))))))))))))))))))))))))
    · refine jc_exit ?_
      refine jc_seq ?_
      obtain rfl : i = a.length := by omega
      refine jc_frz (k := .u64) (l' := r) 5 rfl rfl (by omega) (by rw [List.drop_zero, List.take_of_length_le (by omega)]) hL ?_
      refine jc_region ?_
      refine jo_l (ly_mv rfl) (hd 63 rfl) ?_
      refine jo_call Try.f80 (rnorm_s r (by omega)) rfl Try.func80 rfl rfl (ovL_cons rfl ovL_nil) (.cons .n .nil) (hd 64 rfl) ?_ (fun ch hp => by simp at hp)
      rintro y hy; injection hy with hy; subst hy
      refine jo_l (ly_as rfl) (hd 4 rfl) ?_
      refine jo_nil ?_
      refine jc_ret ?_
      refine ⟨_, _, (.cons rfl .nil), .n, ?_⟩
      exact ⟨r, rfl, hc3, by rw [vb_D, vb_D, vb_D, hc4, D.vk_all (Nat.le_refl _)]⟩

theorem rMul_s (x y : Nat) (hx : (digs B32 x).length < 549755813888) (hy : (digs B32 y).length < 549755813888) : Spec Try.prog 79 [.n false .u64 (digs B32 x), .n false .u64 (digs B32 y)] (fun o => o = .ret (.n false .u64 (digs B32 (x * y)))) :=
  (rMul_r _ _ hx hy (rng_digs (by decide) x) (rng_digs (by decide) y)).mono fun o ⟨r, ho, h1, h2⟩ => by
    rw [ho, trm_digs (b := B32) (n := x * y) (by decide) h1 (by rw [h2, vb_digs (by decide), vb_digs (by decide), Int.natCast_mul])]
end Go.Proofs.Ytcdipmjgpimmdaa.Vc

/- Contracts of the references' numbers with a sign; alike. -/
set_option linter.unusedVariables false
set_option linter.unusedSimpArgs false
namespace Go.Proofs.Ytcdipmjgpimmdaa.Vc
open Go Go.RowKit
theorem make1_z (s : Bool) (n : Nat) : Spec Try.prog 58 [.b s, .n false .u64 (digs B32 n)] (fun o => o = .ret (.a [.b (decide ((zs s n) < 0)), .n false .u64 (dg (zs s n))])) := by
  have h := make1_s s (digs B32 n)
  rw [mk_zs] at h
  rw [dg_zs]
  exact h
theorem make1_o (s : Bool) (l : List Int) (hu : u64s l) : Spec Try.prog 58 [.b s, .n false .u64 (trm (dig l))] (fun o => o = .ret (.a [.b (decide ((sv s l) < 0)), .n false .u64 (dg (sv s l))])) := by
  have h := make1_s s (trm (dig l))
  rw [zv_of hu, trm_dig (s := s) hu rfl] at h
  rw [trm_dig (s := s) hu rfl]
  exact h

set_option maxHeartbeats 4000000 in
theorem ZOf_s (s : Bool) (l : List Int) (hl : l.length < 4294967296) (hu : u64s l) : Spec Try.prog 33 [.b s, .n false .u64 l] (fun o => o = .ret (.a [.b (decide ((sv s l) < 0)), .n false .u64 (dg (sv s l))])) := by
  refine spec_of' [(0, .b s), (1, .n false .u64 l)] rfl Try.func33 rfl (Nat.le_of_ble_eq_true rfl) fun Γ hN hds hL hR => ?_
  have hd : ∀ d, Nat.blt d 9 = true → d < Γ.N := fun d h => by rw [hN]; exact Nat.le_of_ble_eq_true h
  refine jc_seq ?_
  refine jc_region ?_
  refine jo_h (hy_alloc (id := 0) zero35 (by decide) rfl (by decide) rfl) (hd 4 rfl) ?_
  refine jo_nil ?_
  refine jc_seq ?_
  refine jc_region ?_
  refine jo_l (ly_mv rfl) (hd 5 rfl) ?_
  refine jo_l (ly_mv rfl) (hd 6 rfl) ?_
  refine jo_call Try.f63 (rOf_s l hl hu) rfl Try.func63 rfl rfl (ovL_cons rfl ovL_nil) (.cons .n .nil) (hd 7 rfl) ?_ (fun ch hp => by simp at hp)
  rintro y hy; injection hy with hy; subst hy
  refine jo_call Try.f58 (make1_o s l hu) rfl Try.func58 rfl rfl (ovL_cons rfl (ovL_cons rfl ovL_nil)) (.cons .b (.cons .n .nil)) (hd 8 rfl) ?_ (fun ch hp => by simp at hp)
  rintro y hy; injection hy with hy; subst hy
  refine jo_st (sy_store rfl rfl rfl siz35 rfl rfl (Nat.le_of_ble_eq_true rfl)) ?_
  refine jo_nil ?_
  refine jc_ret ?_
  refine ⟨_, _, (.cons (ResV.cell agg35 rfl rfl rfl rfl) .nil), (.a1 .b (.a1 .n .a0)), ?_⟩
  exact rfl

set_option maxHeartbeats 4000000 in
theorem of_s (s : Bool) (l : List Int) (hl : l.length < 4294967296) (hu : u64s l) : Spec Try.prog 12 [.a [.b s, .n false .u64 l]] (fun o => o = .ret (.a [.b (decide ((sv s l) < 0)), .n false .u64 (dg (sv s l))])) := by
  refine spec_of' [(0, .a [.b s, .n false .u64 l])] rfl Try.func12 rfl (Nat.le_of_ble_eq_true rfl) fun Γ hN hds hL hR => ?_
  have hd : ∀ d, Nat.blt d 8 = true → d < Γ.N := fun d h => by rw [hN]; exact Nat.le_of_ble_eq_true h
  refine jc_seq ?_
  refine jc_region ?_
  refine jo_h (hy_box (id := 0) (n := 2) rfl rfl rfl (by decide) rfl) (hd 1 rfl) ?_
  refine jo_h (hy_alloc (id := 1) zero35 (by decide) rfl (by decide) rfl) (hd 2 rfl) ?_
  refine jo_nil ?_
  refine jc_seq ?_
  refine jc_region ?_
  refine jo_l (ly_fa fld27_0 rfl rfl rfl) (hd 3 rfl) ?_
  refine jo_l (ly_ld one4 rfl rfl rfl) (hd 4 rfl) ?_
  refine jo_l (ly_fa fld27_1 rfl rfl rfl) (hd 5 rfl) ?_
  refine jo_l (ly_ld one25 rfl rfl rfl) (hd 6 rfl) ?_
  refine jo_call Try.f33 (ZOf_s s l hl hu) rfl Try.func33 rfl rfl (ovL_cons rfl (ovL_cons rfl ovL_nil)) (.cons .b (.cons .n .nil)) (hd 7 rfl) ?_ (fun ch hp => by simp at hp)
  rintro y hy; injection hy with hy; subst hy
  refine jo_st (sy_store rfl rfl rfl siz35 rfl rfl (Nat.le_of_ble_eq_true rfl)) ?_
  refine jo_nil ?_
  refine jc_ret ?_
  refine ⟨_, _, (.cons (ResV.cell agg35 rfl rfl rfl rfl) .nil), (.a1 .b (.a1 .n .a0)), ?_⟩
  exact rfl

set_option maxHeartbeats 4000000 in
theorem ZNeg_s (v : Int) : Spec Try.prog 48 [.a [.b (decide (v < 0)), .n false .u64 (dg v)]] (fun o => o = .ret (.a [.b (decide ((-v) < 0)), .n false .u64 (dg (-v))])) := by
  refine spec_of' [(0, .a [.b (decide (v < 0)), .n false .u64 (dg v)])] rfl Try.func48 rfl (Nat.le_of_ble_eq_true rfl) fun Γ hN hds hL hR => ?_
  have hd : ∀ d, Nat.blt d 9 = true → d < Γ.N := fun d h => by rw [hN]; exact Nat.le_of_ble_eq_true h
  refine jc_seq ?_
  refine jc_region ?_
  refine jo_h (hy_box (id := 0) (n := 2) rfl rfl rfl (by decide) rfl) (hd 1 rfl) ?_
  refine jo_h (hy_alloc (id := 1) zero35 (by decide) rfl (by decide) rfl) (hd 2 rfl) ?_
  refine jo_nil ?_
  refine jc_seq ?_
  refine jc_region ?_
  refine jo_l (ly_fa fld35_0 rfl rfl rfl) (hd 3 rfl) ?_
  refine jo_l (ly_ld one4 rfl rfl rfl) (hd 4 rfl) ?_
  refine jo_l (ly_not rfl) (hd 5 rfl) ?_
  refine jo_l (ly_fa fld35_1 rfl rfl rfl) (hd 6 rfl) ?_
  refine jo_l (ly_ld one33 rfl rfl rfl) (hd 7 rfl) ?_
  refine jo_call Try.f58 (make1_z (!decide (v < 0)) v.natAbs) rfl Try.func58 rfl rfl (ovL_cons rfl (ovL_cons rfl ovL_nil)) (.cons .b (.cons .n .nil)) (hd 8 rfl) ?_ (fun ch hp => by simp at hp)
  rintro y hy; injection hy with hy; subst hy
  refine jo_st (sy_store rfl rfl rfl siz35 rfl rfl (Nat.le_of_ble_eq_true rfl)) ?_
  refine jo_nil ?_
  refine jc_ret ?_
  refine ⟨_, _, (.cons (ResV.cell agg35 rfl rfl rfl rfl) .nil), (.a1 .b (.a1 .n .a0)), ?_⟩
  rw [zneg]

set_option maxHeartbeats 4000000 in
theorem ZAdd_s (x y : Int) (hx : (dg x).length < 549755813888) (hy : (dg y).length < 549755813888) : Spec Try.prog 35 [.a [.b (decide (x < 0)), .n false .u64 (dg x)], .a [.b (decide (y < 0)), .n false .u64 (dg y)]] (fun o => o = .ret (.a [.b (decide ((x + y) < 0)), .n false .u64 (dg (x + y))])) := by
  refine spec_of' [(0, .a [.b (decide (x < 0)), .n false .u64 (dg x)]), (1, .a [.b (decide (y < 0)), .n false .u64 (dg y)])] rfl Try.func35 rfl (Nat.le_of_ble_eq_true rfl) fun Γ hN hds hL hR => ?_
  have hd : ∀ d, Nat.blt d 40 = true → d < Γ.N := fun d h => by rw [hN]; exact Nat.le_of_ble_eq_true h
  refine jc_seq ?_
  refine jc_region ?_
  refine jo_h (hy_box (id := 0) (n := 2) rfl rfl rfl (by decide) rfl) (hd 2 rfl) ?_
  refine jo_h (hy_box (id := 1) (n := 2) rfl rfl rfl (by decide) rfl) (hd 3 rfl) ?_
  refine jo_h (hy_alloc (id := 2) zero35 (by decide) rfl (by decide) rfl) (hd 4 rfl) ?_
  refine jo_nil ?_
  refine jc_seq ?_
  refine jc_seq ?_
  refine jc_region ?_
  refine jo_l (ly_fa fld35_0 rfl rfl rfl) (hd 5 rfl) ?_
  refine jo_l (ly_ld one4 rfl rfl rfl) (hd 6 rfl) ?_
  refine jo_l (ly_fa fld35_0 rfl rfl rfl) (hd 7 rfl) ?_
  refine jo_l (ly_ld one4 rfl rfl rfl) (hd 8 rfl) ?_
  refine jo_l (ly_eqb und4 rfl rfl) (hd 9 rfl) ?_
  refine jo_nil ?_
  refine jc_cond rfl (fun h1 => ?_) (fun h1 => ?_)
  · refine jc_seq ?_
    refine jc_draw (n := 9) _ rfl mixed ?_
    refine ja_l2 0 [1, 7, 8] (lo_l (ly_fa fld35_0 rfl rfl rfl) (hd 10 rfl)) rfl (by kernel_rfl) (by kernel_rfl) (by kernel_rfl) (by kernel_rfl) (fun _ _ _ _ h => h) ?_
    refine ja_l 1 (lo_l (ly_ld one4 rfl rfl rfl) (hd 11 rfl)) rfl (by kernel_rfl) (by kernel_rfl) (by kernel_rfl) (fun _ _ _ _ h => h) ?_
    refine ja_l2 2 [3, 6, 7, 8] (lo_l (ly_fa fld35_1 rfl rfl rfl) (hd 12 rfl)) rfl (by kernel_rfl) (by kernel_rfl) (by kernel_rfl) (by kernel_rfl) (fun _ _ _ _ h => h) ?_
    refine ja_l2 3 [6, 7, 8] (lo_l (ly_ld one33 rfl rfl rfl) (hd 13 rfl)) rfl (by kernel_rfl) (by kernel_rfl) (by kernel_rfl) (by kernel_rfl) (fun _ _ _ _ h => h) ?_
    refine ja_l2 4 [5, 6, 7, 8] (lo_l (ly_fa fld35_1 rfl rfl rfl) (hd 14 rfl)) rfl (by kernel_rfl) (by kernel_rfl) (by kernel_rfl) (by kernel_rfl) (fun _ _ _ _ h => h) ?_
    refine ja_l2 5 [6, 7, 8] (lo_l (ly_ld one33 rfl rfl rfl) (hd 15 rfl)) rfl (by kernel_rfl) (by kernel_rfl) (by kernel_rfl) (by kernel_rfl) (fun _ _ _ _ h => h) ?_
    refine ja_1 6 ?_ rfl (by kernel_rfl)
    refine js_call Try.f64 (rAdd_s x.natAbs y.natAbs hx hy) rfl Try.func64 rfl rfl (ovL_cons rfl (ovL_cons rfl ovL_nil)) (.cons .n (.cons .n .nil)) (hd 16 rfl) ?_ (fun ch hp => by simp at hp)
    rintro y hy; injection hy with hy; subst hy
    refine ja_1 7 ?_ rfl (by kernel_rfl)
    refine js_call Try.f58 (make1_z (decide (x < 0)) (x.natAbs + y.natAbs)) rfl Try.func58 rfl rfl (ovL_cons rfl (ovL_cons rfl ovL_nil)) (.cons .b (.cons .n .nil)) (hd 17 rfl) ?_ (fun ch hp => by simp at hp)
    rintro y hy; injection hy with hy; subst hy
    refine ja_1 8 ?_ rfl (by kernel_rfl)
    refine js_st (sy_store rfl rfl rfl siz35 rfl rfl (Nat.le_of_ble_eq_true rfl)) rfl ?_
    refine ja_nil (by kernel_rfl) ?_
    refine jc_ret ?_
    refine ⟨_, _, (.cons (ResV.cell agg35 rfl rfl rfl rfl) .nil), (.a1 .b (.a1 .n .a0)), ?_⟩
    rw [zadd_same (by assumption)]
  · refine jc_skip ?_
    refine jc_seq ?_
    refine jc_seq ?_
    refine jc_region ?_
    refine jo_l (ly_fa fld35_1 rfl rfl rfl) (hd 18 rfl) ?_
    refine jo_l (ly_ld one33 rfl rfl rfl) (hd 19 rfl) ?_
    refine jo_l (ly_fa fld35_1 rfl rfl rfl) (hd 20 rfl) ?_
    refine jo_l (ly_ld one33 rfl rfl rfl) (hd 21 rfl) ?_
    refine jo_call Try.f59 (rCmp_s x.natAbs y.natAbs (by show (dg x).length < _; omega) (by show (dg y).length < _; omega)) rfl Try.func59 rfl rfl (ovL_cons rfl (ovL_cons rfl ovL_nil)) (.cons .n (.cons .n .nil)) (hd 22 rfl) ?_ (fun ch hp => by simp at hp)
    rintro y hy; injection hy with hy; subst hy
    refine jo_l (ly_ge rfl rfl) (hd 23 rfl) ?_
    refine jo_nil ?_
    refine jc_if rfl (fun h2 => ?_) (fun h2 => ?_)
    · refine jc_seq ?_
      refine jc_draw (n := 9) _ rfl mixed ?_
      refine ja_l2 0 [1, 7, 8] (lo_l (ly_fa fld35_0 rfl rfl rfl) (hd 24 rfl)) rfl (by kernel_rfl) (by kernel_rfl) (by kernel_rfl) (by kernel_rfl) (fun _ _ _ _ h => h) ?_
      refine ja_l 1 (lo_l (ly_ld one4 rfl rfl rfl) (hd 25 rfl)) rfl (by kernel_rfl) (by kernel_rfl) (by kernel_rfl) (fun _ _ _ _ h => h) ?_
      refine ja_l2 2 [3, 6, 7, 8] (lo_l (ly_fa fld35_1 rfl rfl rfl) (hd 26 rfl)) rfl (by kernel_rfl) (by kernel_rfl) (by kernel_rfl) (by kernel_rfl) (fun _ _ _ _ h => h) ?_
      refine ja_l2 3 [6, 7, 8] (lo_l (ly_ld one33 rfl rfl rfl) (hd 27 rfl)) rfl (by kernel_rfl) (by kernel_rfl) (by kernel_rfl) (by kernel_rfl) (fun _ _ _ _ h => h) ?_
      refine ja_l2 4 [5, 6, 7, 8] (lo_l (ly_fa fld35_1 rfl rfl rfl) (hd 28 rfl)) rfl (by kernel_rfl) (by kernel_rfl) (by kernel_rfl) (by kernel_rfl) (fun _ _ _ _ h => h) ?_
      refine ja_l2 5 [6, 7, 8] (lo_l (ly_ld one33 rfl rfl rfl) (hd 29 rfl)) rfl (by kernel_rfl) (by kernel_rfl) (by kernel_rfl) (by kernel_rfl) (fun _ _ _ _ h => h) ?_
      refine ja_1 6 ?_ rfl (by kernel_rfl)
      refine js_call Try.f65 (rSub_s x.natAbs y.natAbs (cmp_le (by assumption)) (by show (dg x).length < _; omega) (by show (dg y).length < _; omega)) rfl Try.func65 rfl rfl (ovL_cons rfl (ovL_cons rfl ovL_nil)) (.cons .n (.cons .n .nil)) (hd 30 rfl) ?_ (fun ch hp => by simp at hp)
      rintro y hy; injection hy with hy; subst hy
      refine ja_1 7 ?_ rfl (by kernel_rfl)
      refine js_call Try.f58 (make1_z (decide (x < 0)) (x.natAbs - y.natAbs)) rfl Try.func58 rfl rfl (ovL_cons rfl (ovL_cons rfl ovL_nil)) (.cons .b (.cons .n .nil)) (hd 31 rfl) ?_ (fun ch hp => by simp at hp)
      rintro y hy; injection hy with hy; subst hy
      refine ja_1 8 ?_ rfl (by kernel_rfl)
      refine js_st (sy_store rfl rfl rfl siz35 rfl rfl (Nat.le_of_ble_eq_true rfl)) rfl ?_
      refine ja_nil (by kernel_rfl) ?_
      refine jc_ret ?_
      refine ⟨_, _, (.cons (ResV.cell agg35 rfl rfl rfl rfl) .nil), (.a1 .b (.a1 .n .a0)), ?_⟩
      rw [zadd_ge (by assumption) (by assumption)]
    · refine jc_skip ?_
      refine jc_seq ?_
      refine jc_draw (n := 9) _ rfl mixed ?_
      refine ja_l2 0 [1, 7, 8] (lo_l (ly_fa fld35_0 rfl rfl rfl) (hd 32 rfl)) rfl (by kernel_rfl) (by kernel_rfl) (by kernel_rfl) (by kernel_rfl) (fun _ _ _ _ h => h) ?_
      refine ja_l 1 (lo_l (ly_ld one4 rfl rfl rfl) (hd 33 rfl)) rfl (by kernel_rfl) (by kernel_rfl) (by kernel_rfl) (fun _ _ _ _ h => h) ?_
      refine ja_l2 2 [3, 6, 7, 8] (lo_l (ly_fa fld35_1 rfl rfl rfl) (hd 34 rfl)) rfl (by kernel_rfl) (by kernel_rfl) (by kernel_rfl) (by kernel_rfl) (fun _ _ _ _ h => h) ?_
      refine ja_l2 3 [6, 7, 8] (lo_l (ly_ld one33 rfl rfl rfl) (hd 35 rfl)) rfl (by kernel_rfl) (by kernel_rfl) (by kernel_rfl) (by kernel_rfl) (fun _ _ _ _ h => h) ?_
      refine ja_l2 4 [5, 6, 7, 8] (lo_l (ly_fa fld35_1 rfl rfl rfl) (hd 36 rfl)) rfl (by kernel_rfl) (by kernel_rfl) (by kernel_rfl) (by kernel_rfl) (fun _ _ _ _ h => h) ?_
      refine ja_l2 5 [6, 7, 8] (lo_l (ly_ld one33 rfl rfl rfl) (hd 37 rfl)) rfl (by kernel_rfl) (by kernel_rfl) (by kernel_rfl) (by kernel_rfl) (fun _ _ _ _ h => h) ?_
      refine ja_1 6 ?_ rfl (by kernel_rfl)
      refine js_call Try.f65 (rSub_s y.natAbs x.natAbs (cmp_gt (by assumption)) (by show (dg y).length < _; omega) (by show (dg x).length < _; omega)) rfl Try.func65 rfl rfl (ovL_cons rfl (ovL_cons rfl ovL_nil)) (.cons .n (.cons .n .nil)) (hd 38 rfl) ?_ (fun ch hp => by simp at hp)
      rintro y hy; injection hy with hy; subst hy
      refine ja_1 7 ?_ rfl (by kernel_rfl)
      refine js_call Try.f58 (make1_z (decide (y < 0)) (y.natAbs - x.natAbs)) rfl Try.func58 rfl rfl (ovL_cons rfl (ovL_cons rfl ovL_nil)) (.cons .b (.cons .n .nil)) (hd 39 rfl) ?_ (fun ch hp => by simp at hp)
      rintro y hy; injection hy with hy; subst hy
      refine ja_1 8 ?_ rfl (by kernel_rfl)
      refine js_st (sy_store rfl rfl rfl siz35 rfl rfl (Nat.le_of_ble_eq_true rfl)) rfl ?_
      refine ja_nil (by kernel_rfl) ?_
      refine jc_ret ?_
      refine ⟨_, _, (.cons (ResV.cell agg35 rfl rfl rfl rfl) .nil), (.a1 .b (.a1 .n .a0)), ?_⟩
      rw [zadd_lt (by assumption) (by assumption)]

set_option maxHeartbeats 4000000 in
theorem ZSub_s (x y : Int) (hx : (dg x).length < 549755813888) (hy : (dg y).length < 549755813888) : Spec Try.prog 37 [.a [.b (decide (x < 0)), .n false .u64 (dg x)], .a [.b (decide (y < 0)), .n false .u64 (dg y)]] (fun o => o = .ret (.a [.b (decide ((x - y) < 0)), .n false .u64 (dg (x - y))])) := by
  refine spec_of' [(0, .a [.b (decide (x < 0)), .n false .u64 (dg x)]), (1, .a [.b (decide (y < 0)), .n false .u64 (dg y)])] rfl Try.func37 rfl (Nat.le_of_ble_eq_true rfl) fun Γ hN hds hL hR => ?_
  have hd : ∀ d, Nat.blt d 9 = true → d < Γ.N := fun d h => by rw [hN]; exact Nat.le_of_ble_eq_true h
  refine jc_seq ?_
  refine jc_region ?_
  refine jo_h (hy_box (id := 0) (n := 2) rfl rfl rfl (by decide) rfl) (hd 2 rfl) ?_
  refine jo_h (hy_box (id := 1) (n := 2) rfl rfl rfl (by decide) rfl) (hd 3 rfl) ?_
  refine jo_h (hy_alloc (id := 2) zero35 (by decide) rfl (by decide) rfl) (hd 4 rfl) ?_
  refine jo_nil ?_
  refine jc_seq ?_
  refine jc_draw (n := 5) _ rfl mixed ?_
  refine ja_l 0 (lo_l (ly_lda agg35 rfl rfl rfl rfl) (hd 5 rfl)) rfl (by kernel_rfl) (by kernel_rfl) (by kernel_rfl) (fun _ _ _ _ h => h) ?_
  refine ja_l2 1 [2, 3, 4] (lo_l (ly_lda agg35 rfl rfl rfl rfl) (hd 6 rfl)) rfl (by kernel_rfl) (by kernel_rfl) (by kernel_rfl) (by kernel_rfl) (fun _ _ _ _ h => h) ?_
  refine ja_1 2 ?_ rfl (by kernel_rfl)
  refine js_call Try.f48 (ZNeg_s y) rfl Try.func48 rfl rfl (ovL_cons rfl ovL_nil) (.cons (.a1 .b (.a1 .n .a0)) .nil) (hd 7 rfl) ?_ (fun ch hp => by simp at hp)
  rintro y hy; injection hy with hy; subst hy
  refine ja_1 3 ?_ rfl (by kernel_rfl)
  refine js_call Try.f35 (ZAdd_s x (-y) hx (by unfold dg; rw [Int.natAbs_neg]; exact hy)) rfl Try.func35 rfl rfl (ovL_cons rfl (ovL_cons rfl ovL_nil)) (.cons (.a1 .b (.a1 .n .a0)) (.cons (.a1 .b (.a1 .n .a0)) .nil)) (hd 8 rfl) ?_ (fun ch hp => by simp at hp)
  rintro y hy; injection hy with hy; subst hy
  refine ja_1 4 ?_ rfl (by kernel_rfl)
  refine js_st (sy_store rfl rfl rfl siz35 rfl rfl (Nat.le_of_ble_eq_true rfl)) rfl ?_
  refine ja_nil (by kernel_rfl) ?_
  refine jc_ret ?_
  refine ⟨_, _, (.cons (ResV.cell agg35 rfl rfl rfl rfl) .nil), (.a1 .b (.a1 .n .a0)), ?_⟩
  rw [Int.sub_eq_add_neg]

set_option maxHeartbeats 4000000 in
theorem ZMul_s (x y : Int) (hx : (dg x).length < 549755813888) (hy : (dg y).length < 549755813888) : Spec Try.prog 53 [.a [.b (decide (x < 0)), .n false .u64 (dg x)], .a [.b (decide (y < 0)), .n false .u64 (dg y)]] (fun o => o = .ret (.a [.b (decide ((x * y) < 0)), .n false .u64 (dg (x * y))])) := by
  refine spec_of' [(0, .a [.b (decide (x < 0)), .n false .u64 (dg x)]), (1, .a [.b (decide (y < 0)), .n false .u64 (dg y)])] rfl Try.func53 rfl (Nat.le_of_ble_eq_true rfl) fun Γ hN hds hL hR => ?_
  have hd : ∀ d, Nat.blt d 16 = true → d < Γ.N := fun d h => by rw [hN]; exact Nat.le_of_ble_eq_true h
  refine jc_seq ?_
  refine jc_region ?_
  refine jo_h (hy_box (id := 0) (n := 2) rfl rfl rfl (by decide) rfl) (hd 2 rfl) ?_
  refine jo_h (hy_box (id := 1) (n := 2) rfl rfl rfl (by decide) rfl) (hd 3 rfl) ?_
  refine jo_h (hy_alloc (id := 2) zero35 (by decide) rfl (by decide) rfl) (hd 4 rfl) ?_
  refine jo_nil ?_
  refine jc_seq ?_
  refine jc_draw (n := 12) _ rfl mixed ?_
  refine ja_l2 0 [1, 4, 10, 11] (lo_l (ly_fa fld35_0 rfl rfl rfl) (hd 5 rfl)) rfl (by kernel_rfl) (by kernel_rfl) (by kernel_rfl) (by kernel_rfl) (fun _ _ _ _ h => h) ?_
  refine ja_l2 1 [4, 10, 11] (lo_l (ly_ld one4 rfl rfl rfl) (hd 6 rfl)) rfl (by kernel_rfl) (by kernel_rfl) (by kernel_rfl) (by kernel_rfl) (fun _ _ _ _ h => h) ?_
  refine ja_l2 2 [3, 4, 10, 11] (lo_l (ly_fa fld35_0 rfl rfl rfl) (hd 7 rfl)) rfl (by kernel_rfl) (by kernel_rfl) (by kernel_rfl) (by kernel_rfl) (fun _ _ _ _ h => h) ?_
  refine ja_l2 3 [4, 10, 11] (lo_l (ly_ld one4 rfl rfl rfl) (hd 8 rfl)) rfl (by kernel_rfl) (by kernel_rfl) (by kernel_rfl) (by kernel_rfl) (fun _ _ _ _ h => h) ?_
  refine ja_l 4 (lo_l (ly_neb und4 rfl rfl) (hd 9 rfl)) rfl (by kernel_rfl) (by kernel_rfl) (by kernel_rfl) (fun _ _ _ _ h => h) ?_
  refine ja_l2 5 [6, 9, 10, 11] (lo_l (ly_fa fld35_1 rfl rfl rfl) (hd 10 rfl)) rfl (by kernel_rfl) (by kernel_rfl) (by kernel_rfl) (by kernel_rfl) (fun _ _ _ _ h => h) ?_
  refine ja_l2 6 [9, 10, 11] (lo_l (ly_ld one33 rfl rfl rfl) (hd 11 rfl)) rfl (by kernel_rfl) (by kernel_rfl) (by kernel_rfl) (by kernel_rfl) (fun _ _ _ _ h => h) ?_
  refine ja_l2 7 [8, 9, 10, 11] (lo_l (ly_fa fld35_1 rfl rfl rfl) (hd 12 rfl)) rfl (by kernel_rfl) (by kernel_rfl) (by kernel_rfl) (by kernel_rfl) (fun _ _ _ _ h => h) ?_
  refine ja_l2 8 [9, 10, 11] (lo_l (ly_ld one33 rfl rfl rfl) (hd 13 rfl)) rfl (by kernel_rfl) (by kernel_rfl) (by kernel_rfl) (by kernel_rfl) (fun _ _ _ _ h => h) ?_
  refine ja_1 9 ?_ rfl (by kernel_rfl)
  refine js_call Try.f79 (rMul_s x.natAbs y.natAbs hx hy) rfl Try.func79 rfl rfl (ovL_cons rfl (ovL_cons rfl ovL_nil)) (.cons .n (.cons .n .nil)) (hd 14 rfl) ?_ (fun ch hp => by simp at hp)
  rintro y hy; injection hy with hy; subst hy
  refine ja_1 10 ?_ rfl (by kernel_rfl)
  refine js_call Try.f58 (make1_z (!(decide (x < 0) == decide (y < 0))) (x.natAbs * y.natAbs)) rfl Try.func58 rfl rfl (ovL_cons rfl (ovL_cons rfl ovL_nil)) (.cons .b (.cons .n .nil)) (hd 15 rfl) ?_ (fun ch hp => by simp at hp)
  rintro y hy; injection hy with hy; subst hy
  refine ja_1 11 ?_ rfl (by kernel_rfl)
  refine js_st (sy_store rfl rfl rfl siz35 rfl rfl (Nat.le_of_ble_eq_true rfl)) rfl ?_
  refine ja_nil (by kernel_rfl) ?_
  refine jc_ret ?_
  refine ⟨_, _, (.cons (ResV.cell agg35 rfl rfl rfl rfl) .nil), (.a1 .b (.a1 .n .a0)), ?_⟩
  rw [zmul]

set_option maxHeartbeats 4000000 in
theorem ZSign_s (v : Int) : Spec Try.prog 13 [.a [.b (decide (v < 0)), .n false .u64 (dg v)]] (fun o => o = .ret (.i .i64 (sgnI v))) := by
  refine spec_of' [(0, .a [.b (decide (v < 0)), .n false .u64 (dg v)])] rfl Try.func13 rfl (Nat.le_of_ble_eq_true rfl) fun Γ hN hds hL hR => ?_
  have hd : ∀ d, Nat.blt d 8 = true → d < Γ.N := fun d h => by rw [hN]; exact Nat.le_of_ble_eq_true h
  have hc := sgn_cases (x := v)
  have hz := dg_lenv (v := v)
  refine jc_seq ?_
  refine jc_region ?_
  refine jo_h (hy_box (id := 0) (n := 2) rfl rfl rfl (by decide) rfl) (hd 1 rfl) ?_
  refine jo_l (ly_as rfl) (hd 2 rfl) ?_
  refine jo_nil ?_
  refine jc_seq ?_
  refine jc_seq ?_
  refine jc_region ?_
  refine jo_l (ly_fa fld35_0 rfl rfl rfl) (hd 3 rfl) ?_
  refine jo_l (ly_ld one4 rfl rfl rfl) (hd 4 rfl) ?_
  refine jo_nil ?_
  refine jc_if rfl (fun h1 => ?_) (fun h1 => ?_)
  · refine jc_seq ?_
    refine jc_region ?_
    refine jo_l (ly_as rfl) (hd 2 rfl) ?_
    refine jo_nil ?_
    refine jc_ret ?_
    refine ⟨_, _, (.cons rfl .nil), .i, ?_⟩
    rcases hc with ⟨h, e⟩ | ⟨h, e⟩ | ⟨h, e⟩
    · rw [e]
    · omega
    · omega
  · refine jc_skip ?_
    refine jc_seq ?_
    refine jc_seq ?_
    refine jc_region ?_
    refine jo_l (ly_fa fld35_1 rfl rfl rfl) (hd 5 rfl) ?_
    refine jo_l (ly_ld one33 rfl rfl rfl) (hd 6 rfl) ?_
    refine jo_call Try.f56 (Zero_s (dg v)) rfl Try.func56 rfl rfl (ovL_cons rfl ovL_nil) (.cons .n .nil) (hd 7 rfl) ?_ (fun ch hp => by simp at hp)
    rintro y hy; injection hy with hy; subst hy
    refine jo_nil ?_
    refine jc_if rfl (fun h2 => ?_) (fun h2 => ?_)
    · refine jc_seq ?_
      refine jc_region ?_
      refine jo_l (ly_as rfl) (hd 2 rfl) ?_
      refine jo_nil ?_
      refine jc_ret ?_
      refine ⟨_, _, (.cons rfl .nil), .i, ?_⟩
      rcases hc with ⟨h, e⟩ | ⟨h, e⟩ | ⟨h, e⟩
      · omega
      · rw [e]
      · omega
    · refine jc_skip ?_
      refine jc_seq ?_
      refine jc_region ?_
      refine jo_l (ly_as rfl) (hd 2 rfl) ?_
      refine jo_nil ?_
      refine jc_ret ?_
      refine ⟨_, _, (.cons rfl .nil), .i, ?_⟩
      rcases hc with ⟨h, e⟩ | ⟨h, e⟩ | ⟨h, e⟩
      · omega
      · omega
      · rw [e]

theorem ZIs_v (v : Int) (hl : (dg v).length < 4294967296) : Spec Try.prog 45 [.a [.b (decide (v < 0)), .n false .u64 (dg v)], .b (decide (v < 0)), .n false .u64 (lm v)] (fun o => o = .ret (.b true)) := by
  have h := ZIs_s (decide (v < 0)) (dg v) hl
  rw [lims_dg] at h
  exact h

set_option maxHeartbeats 4000000 in
theorem alike_ok (v : Int) (h : lenV v ≤ 67108864) : Spec Try.prog 47 [.a [.b (decide (v < 0)), .n false .u64 (lm v)], .i .i64 0, .a [.b (decide (v < 0)), .n false .u64 (dg v)], .i .i64 0] (fun o => o = .ret (.b true)) := by
  refine spec_of' [(0, .a [.b (decide (v < 0)), .n false .u64 (lm v)]), (1, .i .i64 0), (2, .a [.b (decide (v < 0)), .n false .u64 (dg v)]), (3, .i .i64 0)] rfl Try.func47 rfl (Nat.le_of_ble_eq_true rfl) fun Γ hN hds hL hR => ?_
  have hd : ∀ d, Nat.blt d 45 = true → d < Γ.N := fun d h => by rw [hN]; exact Nat.le_of_ble_eq_true h
  have hl := lenV_dg h
  refine jc_seq ?_
  refine jc_region ?_
  refine jo_h (hy_box (id := 0) (n := 2) rfl rfl rfl (by decide) rfl) (hd 4 rfl) ?_
  refine jo_h (hy_box (id := 1) (n := 2) rfl rfl rfl (by decide) rfl) (hd 6 rfl) ?_
  refine jo_l (ly_as rfl) (hd 8 rfl) ?_
  refine jo_nil ?_
  refine jc_seq ?_
  refine jc_seq ?_
  refine jc_region ?_
  refine jo_l (ly_mv rfl) (hd 9 rfl) ?_
  refine jo_l (ly_tt (ly_eq rfl rfl) rfl) (hd 10 rfl) ?_
  refine jo_l (ly_mv rfl) (hd 11 rfl) ?_
  refine jo_g 11 rfl rfl (ly_fa fld35_1 rfl rfl rfl) (hd 12 rfl) ?_
  refine jo_g 11 rfl rfl (ly_ld one33 rfl rfl rfl) (hd 13 rfl) ?_
  refine jo_callg Try.f29 11 rfl rfl (Len_s v (by omega)) rfl Try.func29 rfl rfl (ovL_cons rfl ovL_nil) (.cons .n .nil) (hd 14 rfl) ?_ (fun ch hp => by simp at hp)
  rintro y hy; injection hy with hy; subst hy
  refine jo_g 11 rfl rfl (ly_ff (ly_gt rfl rfl) (by omega)) (hd 15 rfl) ?_
  refine jo_l (ly_pick_t rfl rfl) (hd 16 rfl) ?_
  refine jo_nil ?_
  refine jc_litf rfl ?_
  refine jc_skip ?_
  refine jc_seq ?_
  refine jc_seq ?_
  refine jc_region ?_
  refine jo_l (ly_mv rfl) (hd 17 rfl) ?_
  refine jo_l (ly_ff (ly_ne rfl rfl) (fun h => h rfl)) (hd 18 rfl) ?_
  refine jo_nil ?_
  refine jc_litf rfl ?_
  refine jc_skip ?_
  refine jc_seq ?_
  refine jc_region ?_
  refine jo_l (ly_mv rfl) (hd 34 rfl) ?_
  refine jo_call Try.f9 (num_s 0) rfl Try.func9 rfl rfl (ovL_cons rfl ovL_nil) (.cons .i .nil) (hd 35 rfl) ?_ (fun ch hp => by simp at hp)
  rintro y hy; injection hy with hy; subst hy
  refine jo_l (ly_tt (ly_eq rfl rfl) rfl) (hd 36 rfl) ?_
  refine jo_l (ly_mv rfl) (hd 37 rfl) ?_
  refine jo_g 37 rfl rfl (ly_lda agg35 rfl rfl rfl rfl) (hd 38 rfl) ?_
  refine jo_g 37 rfl rfl (ly_fa fld30_0 rfl rfl rfl) (hd 39 rfl) ?_
  refine jo_g 37 rfl rfl (ly_ld one4 rfl rfl rfl) (hd 40 rfl) ?_
  refine jo_g 37 rfl rfl (ly_fa fld30_1 rfl rfl rfl) (hd 41 rfl) ?_
  refine jo_g 37 rfl rfl (ly_ld one28 rfl rfl rfl) (hd 42 rfl) ?_
  refine jo_callg Try.f45 37 rfl rfl (ZIs_v v (by omega)) rfl Try.func45 rfl rfl (ovL_cons rfl (ovL_cons rfl (ovL_cons rfl ovL_nil))) (.cons (.a1 .b (.a1 .n .a0)) (.cons .b (.cons .n .nil))) (hd 43 rfl) ?_ (fun ch hp => by simp at hp)
  rintro y hy; injection hy with hy; subst hy
  refine jo_l (ly_pick_t rfl rfl) (hd 44 rfl) ?_
  refine jo_l (ly_as rfl) (hd 8 rfl) ?_
  refine jo_nil ?_
  refine jc_ret ?_
  refine ⟨_, _, (.cons rfl .nil), .b, ?_⟩
  exact rfl

set_option maxHeartbeats 4000000 in
theorem alike_err (v f : Int) (h : f ≠ 0) : Spec Try.prog 47 [.a [.b false, .n false .u64 []], .i .i64 f, .a [.b (decide (v < 0)), .n false .u64 (dg v)], .i .i64 f] (fun o => o = .ret (.b true)) := by
  refine spec_of' [(0, .a [.b false, .n false .u64 []]), (1, .i .i64 f), (2, .a [.b (decide (v < 0)), .n false .u64 (dg v)]), (3, .i .i64 f)] rfl Try.func47 rfl (Nat.le_of_ble_eq_true rfl) fun Γ hN hds hL hR => ?_
  have hd : ∀ d, Nat.blt d 45 = true → d < Γ.N := fun d h => by rw [hN]; exact Nat.le_of_ble_eq_true h
  refine jc_seq ?_
  refine jc_region ?_
  refine jo_h (hy_box (id := 0) (n := 2) rfl rfl rfl (by decide) rfl) (hd 4 rfl) ?_
  refine jo_h (hy_box (id := 1) (n := 2) rfl rfl rfl (by decide) rfl) (hd 6 rfl) ?_
  refine jo_l (ly_as rfl) (hd 8 rfl) ?_
  refine jo_nil ?_
  refine jc_seq ?_
  refine jc_seq ?_
  refine jc_region ?_
  refine jo_l (ly_mv rfl) (hd 9 rfl) ?_
  refine jo_l (ly_ff (ly_eq rfl rfl) h) (hd 10 rfl) ?_
  refine jo_l (ly_mv rfl) (hd 11 rfl) ?_
  refine jo_s 11 rfl rfl rfl (hd 12 rfl) ?_
  refine jo_s 11 rfl rfl rfl (hd 13 rfl) ?_
  refine jo_s 11 rfl rfl rfl (hd 14 rfl) ?_
  refine jo_s 11 rfl rfl rfl (hd 15 rfl) ?_
  refine jo_l (ly_pick_f rfl rfl) (hd 16 rfl) ?_
  refine jo_nil ?_
  refine jc_litf rfl ?_
  refine jc_skip ?_
  refine jc_seq ?_
  refine jc_seq ?_
  refine jc_region ?_
  refine jo_l (ly_mv rfl) (hd 17 rfl) ?_
  refine jo_l (ly_tt (ly_ne rfl rfl) h) (hd 18 rfl) ?_
  refine jo_nil ?_
  refine jc_litt rfl ?_
  refine jc_seq ?_
  refine jc_region ?_
  refine jo_l (ly_mv rfl) (hd 19 rfl) ?_
  refine jo_call Try.f9 (num_s f) rfl Try.func9 rfl rfl (ovL_cons rfl ovL_nil) (.cons .i .nil) (hd 20 rfl) ?_ (fun ch hp => by simp at hp)
  rintro y hy; injection hy with hy; subst hy
  refine jo_l (ly_mv rfl) (hd 21 rfl) ?_
  refine jo_l (ly_tt (ly_eq rfl rfl) rfl) (hd 22 rfl) ?_
  refine jo_l (ly_mv rfl) (hd 23 rfl) ?_
  refine jo_g 23 rfl rfl (ly_fa fld30_0 rfl rfl rfl) (hd 24 rfl) ?_
  refine jo_g 23 rfl rfl (ly_ld one4 rfl rfl rfl) (hd 25 rfl) ?_
  refine jo_g 23 rfl rfl (ly_not rfl) (hd 26 rfl) ?_
  refine jo_l (ly_pick_t rfl rfl) (hd 27 rfl) ?_
  refine jo_l (ly_mv rfl) (hd 28 rfl) ?_
  refine jo_g 28 rfl rfl (ly_fa fld30_1 rfl rfl rfl) (hd 29 rfl) ?_
  refine jo_g 28 rfl rfl (ly_ld one28 rfl rfl rfl) (hd 30 rfl) ?_
  refine jo_g 28 rfl rfl (ly_lenn sl28 rfl) (hd 31 rfl) ?_
  refine jo_g 28 rfl rfl (ly_tt (ly_eq rfl rfl) rfl) (hd 32 rfl) ?_
  refine jo_l (ly_pick_t rfl rfl) (hd 33 rfl) ?_
  refine jo_l (ly_as rfl) (hd 8 rfl) ?_
  refine jo_nil ?_
  refine jc_ret ?_
  refine ⟨_, _, (.cons rfl .nil), .b, ?_⟩
  exact rfl

end Go.Proofs.Ytcdipmjgpimmdaa.Vc

/- Contracts of the references' Bit, Tail; ints: nat.Small, whole.Int, Of. -/
set_option linter.unusedVariables false
set_option linter.unusedSimpArgs false
namespace Go.Proofs.Ytcdipmjgpimmdaa.Vc
open Go Go.RowKit
set_option maxHeartbeats 4000000 in
theorem Bit_s (x i : Nat) (hx : (digs B32 x).length < 1099511627776) (hi : i < 1099511627776) : Spec Try.prog 61 [.n false .u64 (digs B32 x), .i .i64 (i : Int)] (fun o => o = .ret (.i .i64 ((x / 2 ^ i % 2 : Nat) : Int))) := by
  refine spec_of' [(0, .n false .u64 (digs B32 x)), (1, .i .i64 (i : Int))] rfl Try.func61 rfl (Nat.le_of_ble_eq_true rfl) fun Γ hN hds hL hR => ?_
  have hd : ∀ d, Nat.blt d 24 = true → d < Γ.N := fun d h => by rw [hN]; exact Nat.le_of_ble_eq_true h
  have hm1 : (x / B32 ^ (i / 32) % B32) < 4294967296 := Nat.mod_lt _ (by decide)
  have hm2 : (x / B32 ^ (i / 32) % B32) / 2 ^ (i % 32) ≤ (x / B32 ^ (i / 32) % B32) := Nat.div_le_self _ _
  refine jc_seq ?_
  refine jc_region ?_
  refine jo_l (ly_as rfl) (hd 4 rfl) ?_
  refine jo_nil ?_
  refine jc_seq ?_
  refine jc_seq ?_
  refine jc_region ?_
  refine jo_l (ly_mv rfl) (hd 5 rfl) ?_
  refine jo_l (ly_ff (ly_lt rfl rfl) (by omega)) (hd 6 rfl) ?_
  refine jo_l (ly_mv rfl) (hd 7 rfl) ?_
  refine jo_g 7 rfl rfl (ly_mv rfl) (hd 8 rfl) ?_
  refine jo_g 7 rfl rfl (ly_quo rfl rfl (by decide) (r := ((i / 32 : Nat) : Int)) (by rw [show ((i : Int).tdiv 32) = ((i / 32 : Nat) : Int) from rfl, wrap_i64 (by omega) (by omega)])) (hd 9 rfl) ?_
  refine jo_g 7 rfl rfl (ly_mv rfl) (hd 10 rfl) ?_
  refine jo_g 7 rfl rfl (ly_lenn sl33 rfl) (hd 11 rfl) ?_
  refine jo_g 7 rfl rfl (ly_ge rfl rfl) (hd 12 rfl) ?_
  refine jo_l (ly_pick_f rfl rfl) (hd 13 rfl) ?_
  refine jo_nil ?_
  refine jc_if rfl (fun h1 => ?_) (fun h1 => ?_)
  · refine jc_seq ?_
    refine jc_region ?_
    refine jo_l (ly_as rfl) (hd 4 rfl) ?_
    refine jo_nil ?_
    refine jc_ret ?_
    refine ⟨_, _, (.cons rfl .nil), .i, ?_⟩
    rw [bit_out (by omega)]
    rfl
  · refine jc_skip ?_
    refine jc_seq ?_
    refine jc_region ?_
    refine jo_l (ly_mv rfl) (hd 14 rfl) ?_
    refine jo_l (ly_mv rfl) (hd 15 rfl) ?_
    refine jo_l (ly_quo rfl rfl (by decide) (r := ((i / 32 : Nat) : Int)) (by rw [show ((i : Int).tdiv 32) = ((i / 32 : Nat) : Int) from rfl, wrap_i64 (by omega) (by omega)])) (hd 16 rfl) ?_
    refine jo_l (ly_ian (i := i / 32) sl33 rfl rfl (by first | rfl | omega) (by omega)) (hd 17 rfl) ?_
    refine jo_l (ly_is (ly_ldq one82 rfl rfl) (by exact congrArg (V.i .u64) (digs_at (by decide) (i / 32) x))) (hd 18 rfl) ?_
    refine jo_l (ly_mv rfl) (hd 19 rfl) ?_
    refine jo_l (ly_is (ly_rem rfl rfl (by decide) rfl) (show V.i .i64 ((i : Int).tmod 32) = V.i .i64 ((i % 32 : Nat) : Int) from rfl)) (hd 20 rfl) ?_
    refine jo_l (ly_is (ly_shr rfl rfl (by omega) rfl) (by exact congrArg (V.i .u64) (shr_nat (k := 2 ^ (i % 32)) (by rw [Int.toNat_natCast, Nat.min_eq_left (by have h : IntKind.u64.bits = 64 := rfl; omega)])))) (hd 21 rfl) ?_
    refine jo_l (ly_is (ly_bit (by simp) rfl rfl rfl) (by exact congrArg (V.i .u64) (and1 (by omega)))) (hd 22 rfl) ?_
    refine jo_l (ly_conv und82 und3 rfl (wrap_i64 (by omega) (by omega))) (hd 23 rfl) ?_
    refine jo_l (ly_as rfl) (hd 4 rfl) ?_
    refine jo_nil ?_
    refine jc_ret ?_
    refine ⟨_, _, (.cons rfl .nil), .i, ?_⟩
    rw [bit_digit]

theorem ZInt_s (v : Int) (h : inI v) : Spec Try.prog 38 [.i .i64 v] (fun o => o = .ret (.a [.b (decide (v < 0)), .n false .u64 (dg v)])) := by
  have h' : -9223372036854775808 ≤ v ∧ v < 9223372036854775808 := h
  by_cases h0 : v < 0
  · have hu : u64s [-v] := u64s1 (by omega) (by omega)
    have h1 := Int_neg v h0 h'.1
    have e := zv_of (s := true) hu
    rw [e, trm_dig (s := true) (v := v) hu (by simp [sv, vl])] at h1
    have e2 : sv true [-v] = v := by simp [sv, vl]
    rw [e2] at h1
    exact h1
  · have hu : u64s [v] := u64s1 (by omega) (by omega)
    have h1 := Int_pos v (by omega) h'.2
    have e := zv_of (s := false) hu
    rw [e, trm_dig (s := false) (v := v) hu (by simp [sv, vl])] at h1
    have e2 : sv false [v] = v := by simp [sv, vl]
    rw [e2] at h1
    exact h1

end Go.Proofs.Ytcdipmjgpimmdaa.Vc
