/- RatioNames: it returns true Texts joined: Xb, Xc, Xd, Xe, Xf, RRNames. -/
import Derived.Test.YtpldmajdiljoaaaK6
import Derived.Test.YtpldmajdiljoaaaRows
import Derived.WalkKit
import Derived.ProofKit
import Derived.OpenShut
set_option linter.unusedVariables false
set_option linter.unusedSimpArgs false
/- Contracts of ratio.parts, norm. -/
namespace Go.Proofs.Ytpldmajdiljoaaa.Vc
open Go Go.RowKit
set_option maxHeartbeats 4000000 in
theorem parts_0 (s : Bool) (l d : List Int) (y : Nat) (hx : Rw l 0) (hy : Rw d y) (h0 : y ≠ 0) : Spec Try.prog 96 [(.a [.b s, .n false .u64 l, .n false .u64 d])] (fun o => o = .ret (.t [.b (sgq s 0), .n false .u64 (lm ((rn0 0 y : Nat) : Int)), .n false .u64 (lm ((rd0 0 y : Nat) : Int))])) := by
  refine spec_of' [(0, (.a [.b s, .n false .u64 l, .n false .u64 d]))] rfl Try.func96 rfl (Nat.le_of_ble_eq_true rfl) fun Γ hN hds hL hR => ?_
  have hd : ∀ d, Nat.blt d 42 = true → d < Γ.N := fun d h => by rw [hN]; exact Nat.le_of_ble_eq_true h
  have hNl : Spec Try.prog 71 [.n false .u64 l] (fun o => o = .ret (.n true .u64 (lm ((0 : Nat) : Int)))) := by have h := Norm_s l (by have := hx.l; omega); rw [hx.t] at h; exact h
  have hNd : Spec Try.prog 71 [.n false .u64 d] (fun o => o = .ret (.n true .u64 (lm (y : Int)))) := by have h := Norm_s d (by have := hy.l; omega); rw [hy.t] at h; exact h
  have hF1 : Spec Try.prog 58 [.i .u64 1] (fun o => o = .ret (.n true .u64 [1])) := by have h := From_s 1; rwa [if_neg (by decide)] at h
  have hly := mt lm_len0.1 h0
  refine jc_seq ?_; refine jc_region ?_; refine jo_h (hy_box (id := 0) (n := 3) rfl rfl rfl (by decide) rfl) (hd 1 rfl) ?_; refine jo_l (ly_as rfl) (hd 2 rfl) ?_; refine jo_l (ly_as rfl) (hd 3 rfl) ?_; refine jo_l (ly_as rfl) (hd 4 rfl) ?_; refine jo_nil ?_; refine jc_seq ?_; refine jc_draw (n := 9) _ rfl mixed ?_; refine ja_l2 0 [1, 2, 3, 6, 7, 8] (lo_l (ly_fa fld1028_0 rfl rfl rfl) (hd 8 rfl)) rfl (by kernel_rfl) (by kernel_rfl) (by kernel_rfl) (by kernel_rfl) (fun _ _ _ _ h => h) ?_; refine ja_l2 1 [2, 3, 6, 7, 8] (lo_l (ly_fa fld30_1 rfl rfl rfl) (hd 9 rfl)) rfl (by kernel_rfl) (by kernel_rfl) (by kernel_rfl) (by kernel_rfl) (fun _ _ _ _ h => h) ?_; refine ja_l2 2 [3, 6, 7, 8] (lo_l (ly_ld one28 rfl rfl rfl) (hd 10 rfl)) rfl (by kernel_rfl) (by kernel_rfl) (by kernel_rfl) (by kernel_rfl) (fun _ _ _ _ h => h) ?_; refine ja_l2 4 [5, 6, 7, 8] (lo_l (ly_fa fld1028_1 rfl rfl rfl) (hd 12 rfl)) rfl (by kernel_rfl) (by kernel_rfl) (by kernel_rfl) (by kernel_rfl) (fun _ _ _ _ h => h) ?_; refine ja_l2 5 [6, 7, 8] (lo_l (ly_ld one28 rfl rfl rfl) (hd 13 rfl)) rfl (by kernel_rfl) (by kernel_rfl) (by kernel_rfl) (by kernel_rfl) (fun _ _ _ _ h => h) ?_
  refine ja_1 3 ?_ rfl (by kernel_rfl)
  refine js_call Try.f71 (hNl) rfl Try.func71 rfl rfl (ovL_cons rfl ovL_nil) (.cons .n .nil) (hd 11 rfl) ?_ (fun ch hp => by simp at hp)
  rintro y hy; injection hy with hy; subst hy
  refine ja_1 6 ?_ rfl (by kernel_rfl)
  refine js_call Try.f71 (hNd) rfl Try.func71 rfl rfl (ovL_cons rfl ovL_nil) (.cons .n .nil) (hd 14 rfl) ?_ (fun ch hp => by simp at hp)
  rintro y hy; injection hy with hy; subst hy; refine ja_l 7 (lo_l (ly_as rfl) (hd 5 rfl)) rfl (by kernel_rfl) (by kernel_rfl) (by kernel_rfl) (fun _ _ _ _ h => h) ?_; refine ja_l 8 (lo_l (ly_as rfl) (hd 6 rfl)) rfl (by kernel_rfl) (by kernel_rfl) (by kernel_rfl) (fun _ _ _ _ h => h) ?_; refine ja_nil (by kernel_rfl) ?_; refine jc_seq ?_; refine jc_seq ?_; refine jc_region ?_; refine jo_l (ly_mv rfl) (hd 15 rfl) ?_; refine jo_l (ly_lenn sl28 rfl) (hd 16 rfl) ?_; refine jo_l (ly_ff (ly_eq rfl rfl) (by omega)) (hd 17 rfl) ?_; refine jo_nil ?_; refine jc_litf rfl ?_; refine jc_skip ?_; refine jc_seq ?_; refine jc_seq ?_; refine jc_region ?_; refine jo_l (ly_mv rfl) (hd 20 rfl) ?_; refine jo_l (ly_lenn sl28 rfl) (hd 21 rfl) ?_; refine jo_l (ly_tt (ly_eq rfl rfl) (by rw [show ((0 : Nat) : Int) = 0 from rfl, lm_0]; rfl)) (hd 22 rfl) ?_; refine jo_nil ?_; refine jc_litt rfl ?_; refine jc_seq ?_; refine jc_region ?_
  refine jo_call Try.f58 (hF1) rfl Try.func58 rfl rfl (ovL_cons rfl ovL_nil) (.cons .i .nil) (hd 23 rfl) ?_ (fun ch hp => by simp at hp)
  rintro y hy; injection hy with hy; subst hy; refine jo_l (ly_as rfl) (hd 2 rfl) ?_; refine jo_l (ly_as rfl) (hd 3 rfl) ?_; refine jo_l (ly_as rfl) (hd 4 rfl) ?_; refine jo_nil ?_; refine jc_ret ?_
  refine ⟨_, _, (.cons rfl (.cons rfl (.cons rfl .nil))), (.t1 .b (.t1 (.nil (fr := false) (k := .u64)) (.t1 .nn .t0))), ?_⟩
  rw [rn0_0, rd0_0 h0, lm_1n, show ((0 : Nat) : Int) = 0 from rfl, lm_0, sgq_0]

set_option maxHeartbeats 4000000 in
theorem parts_p (s : Bool) (l d : List Int) (x y : Nat) (hx : Rw l x) (hy : Rw d y) (h0 : y ≠ 0) (h1 : x ≠ 0) : Spec Try.prog 96 [(.a [.b s, .n false .u64 l, .n false .u64 d])] (fun o => o = .ret (.t [.b (sgq s x), .n false .u64 (lm ((rn0 x y : Nat) : Int)), .n false .u64 (lm ((rd0 x y : Nat) : Int))])) := by
  refine spec_of' [(0, (.a [.b s, .n false .u64 l, .n false .u64 d]))] rfl Try.func96 rfl (Nat.le_of_ble_eq_true rfl) fun Γ hN hds hL hR => ?_
  have hd : ∀ d, Nat.blt d 42 = true → d < Γ.N := fun d h => by rw [hN]; exact Nat.le_of_ble_eq_true h
  have hNl : Spec Try.prog 71 [.n false .u64 l] (fun o => o = .ret (.n true .u64 (lm (x : Int)))) := by have h := Norm_s l (by have := hx.l; omega); rw [hx.t] at h; exact h
  have hNd : Spec Try.prog 71 [.n false .u64 d] (fun o => o = .ret (.n true .u64 (lm (y : Int)))) := by have h := Norm_s d (by have := hy.l; omega); rw [hy.t] at h; exact h
  have hly := mt lm_len0.1 h0
  have hlx := mt lm_len0.1 h1
  have hGc : Spec Try.prog 60 [.n false .u64 (lm (x : Int)), .n false .u64 (lm (y : Int))] (fun o => o = .ret (.n false .u64 (lm ((Nat.gcd x y : Nat) : Int)))) := Gcd_v (lm (x : Int)) (lm (y : Int)) x y (Rw.of hx.b).l (Rw.of hy.b).l (lm_u _) (lm_u _) (Rw.of hx.b).v (Rw.of hy.b).v
  have hQx : Spec Try.prog 62 [.n false .u64 (lm (x : Int)), .n false .u64 (lm ((Nat.gcd x y : Nat) : Int))] (fun o => o = .ret (.t [.n false .u64 (lm ((rn0 x y : Nat) : Int)), .i .i64 0])) := by have h := Quo_v (x : Int) ((Nat.gcd x y : Nat) : Int) hx.b (gcd_b h0 hy.b) (by have := gcd_pos' (x := x) h0; omega); rw [qn_nt] at h; exact h
  have hQy : Spec Try.prog 62 [.n false .u64 (lm (y : Int)), .n false .u64 (lm ((Nat.gcd x y : Nat) : Int))] (fun o => o = .ret (.t [.n false .u64 (lm ((rd0 x y : Nat) : Int)), .i .i64 0])) := by have h := Quo_v (y : Int) ((Nat.gcd x y : Nat) : Int) hy.b (gcd_b h0 hy.b) (by have := gcd_pos' (x := x) h0; omega); rw [qn_nt] at h; exact h
  refine jc_seq ?_; refine jc_region ?_; refine jo_h (hy_box (id := 0) (n := 3) rfl rfl rfl (by decide) rfl) (hd 1 rfl) ?_; refine jo_l (ly_as rfl) (hd 2 rfl) ?_; refine jo_l (ly_as rfl) (hd 3 rfl) ?_; refine jo_l (ly_as rfl) (hd 4 rfl) ?_; refine jo_nil ?_; refine jc_seq ?_; refine jc_draw (n := 9) _ rfl mixed ?_; refine ja_l2 0 [1, 2, 3, 6, 7, 8] (lo_l (ly_fa fld1028_0 rfl rfl rfl) (hd 8 rfl)) rfl (by kernel_rfl) (by kernel_rfl) (by kernel_rfl) (by kernel_rfl) (fun _ _ _ _ h => h) ?_; refine ja_l2 1 [2, 3, 6, 7, 8] (lo_l (ly_fa fld30_1 rfl rfl rfl) (hd 9 rfl)) rfl (by kernel_rfl) (by kernel_rfl) (by kernel_rfl) (by kernel_rfl) (fun _ _ _ _ h => h) ?_; refine ja_l2 2 [3, 6, 7, 8] (lo_l (ly_ld one28 rfl rfl rfl) (hd 10 rfl)) rfl (by kernel_rfl) (by kernel_rfl) (by kernel_rfl) (by kernel_rfl) (fun _ _ _ _ h => h) ?_; refine ja_l2 4 [5, 6, 7, 8] (lo_l (ly_fa fld1028_1 rfl rfl rfl) (hd 12 rfl)) rfl (by kernel_rfl) (by kernel_rfl) (by kernel_rfl) (by kernel_rfl) (fun _ _ _ _ h => h) ?_; refine ja_l2 5 [6, 7, 8] (lo_l (ly_ld one28 rfl rfl rfl) (hd 13 rfl)) rfl (by kernel_rfl) (by kernel_rfl) (by kernel_rfl) (by kernel_rfl) (fun _ _ _ _ h => h) ?_
  refine ja_1 3 ?_ rfl (by kernel_rfl)
  refine js_call Try.f71 (hNl) rfl Try.func71 rfl rfl (ovL_cons rfl ovL_nil) (.cons .n .nil) (hd 11 rfl) ?_ (fun ch hp => by simp at hp)
  rintro y hy; injection hy with hy; subst hy
  refine ja_1 6 ?_ rfl (by kernel_rfl)
  refine js_call Try.f71 (hNd) rfl Try.func71 rfl rfl (ovL_cons rfl ovL_nil) (.cons .n .nil) (hd 14 rfl) ?_ (fun ch hp => by simp at hp)
  rintro y hy; injection hy with hy; subst hy; refine ja_l 7 (lo_l (ly_as rfl) (hd 5 rfl)) rfl (by kernel_rfl) (by kernel_rfl) (by kernel_rfl) (fun _ _ _ _ h => h) ?_; refine ja_l 8 (lo_l (ly_as rfl) (hd 6 rfl)) rfl (by kernel_rfl) (by kernel_rfl) (by kernel_rfl) (fun _ _ _ _ h => h) ?_; refine ja_nil (by kernel_rfl) ?_; refine jc_seq ?_; refine jc_seq ?_; refine jc_region ?_; refine jo_l (ly_mv rfl) (hd 15 rfl) ?_; refine jo_l (ly_lenn sl28 rfl) (hd 16 rfl) ?_; refine jo_l (ly_ff (ly_eq rfl rfl) (by omega)) (hd 17 rfl) ?_; refine jo_nil ?_; refine jc_litf rfl ?_; refine jc_skip ?_; refine jc_seq ?_; refine jc_seq ?_; refine jc_region ?_; refine jo_l (ly_mv rfl) (hd 20 rfl) ?_; refine jo_l (ly_lenn sl28 rfl) (hd 21 rfl) ?_; refine jo_l (ly_ff (ly_eq rfl rfl) (by omega)) (hd 22 rfl) ?_; refine jo_nil ?_; refine jc_litf rfl ?_; refine jc_skip ?_; refine jc_seq ?_; refine jc_region ?_; refine jo_l (ly_mv rfl) (hd 24 rfl) ?_; refine jo_l (ly_mv rfl) (hd 25 rfl) ?_
  refine jo_call Try.f60 (hGc) rfl Try.func60 rfl rfl (ovL_cons rfl (ovL_cons rfl ovL_nil)) (.cons .n (.cons .n .nil)) (hd 26 rfl) ?_ (fun ch hp => by simp at hp)
  rintro y hy; injection hy with hy; subst hy; refine jo_l (ly_as rfl) (hd 7 rfl) ?_; refine jo_nil ?_; refine jc_seq ?_; refine jc_draw (n := 18) _ rfl mixed ?_; refine ja_l2 0 [1, 2, 15, 16, 17] (lo_l (ly_fa fld1028_0 rfl rfl rfl) (hd 27 rfl)) rfl (by kernel_rfl) (by kernel_rfl) (by kernel_rfl) (by kernel_rfl) (fun _ _ _ _ h => h) ?_; refine ja_l 1 (lo_l (ly_fa fld30_0 rfl rfl rfl) (hd 28 rfl)) rfl (by kernel_rfl) (by kernel_rfl) (by kernel_rfl) (fun _ _ _ _ h => h) ?_; refine ja_l 2 (lo_l (ly_ld one4 rfl rfl rfl) (hd 29 rfl)) rfl (by kernel_rfl) (by kernel_rfl) (by kernel_rfl) (fun _ _ _ _ h => h) ?_; refine ja_l2 3 [5, 6, 7, 8, 11, 12, 13, 14, 15, 16, 17] (lo_l (ly_mv rfl) (hd 30 rfl)) rfl (by kernel_rfl) (by kernel_rfl) (by kernel_rfl) (by kernel_rfl) (fun _ _ _ _ h => h) ?_; refine ja_l2 4 [5, 6, 7, 8, 11, 12, 13, 14, 15, 16, 17] (lo_l (ly_mv rfl) (hd 31 rfl)) rfl (by kernel_rfl) (by kernel_rfl) (by kernel_rfl) (by kernel_rfl) (fun _ _ _ _ h => h) ?_; refine ja_l2 9 [11, 12, 13, 14, 15, 16, 17] (lo_l (ly_mv rfl) (hd 36 rfl)) rfl (by kernel_rfl) (by kernel_rfl) (by kernel_rfl) (by kernel_rfl) (fun _ _ _ _ h => h) ?_; refine ja_l2 10 [11, 12, 13, 14, 15, 16, 17] (lo_l (ly_mv rfl) (hd 37 rfl)) rfl (by kernel_rfl) (by kernel_rfl) (by kernel_rfl) (by kernel_rfl) (fun _ _ _ _ h => h) ?_
  refine ja_1 5 ?_ rfl (by kernel_rfl)
  refine js_call Try.f62 (hQx) rfl Try.func62 rfl rfl (ovL_cons rfl (ovL_cons rfl ovL_nil)) (.cons .n (.cons .n .nil)) (hd 32 rfl) ?_ (fun ch hp => by simp at hp)
  rintro y hy; injection hy with hy; subst hy; refine ja_l2 6 [8, 11, 12, 13, 14, 15, 16, 17] (lo_l (ly_ext rfl rfl) (hd 33 rfl)) rfl (by kernel_rfl) (by kernel_rfl) (by kernel_rfl) (by kernel_rfl) (fun _ _ _ _ h => h) ?_; refine ja_l2 7 [8, 11, 12, 13, 14, 15, 16, 17] (lo_l (ly_ext rfl rfl) (hd 34 rfl)) rfl (by kernel_rfl) (by kernel_rfl) (by kernel_rfl) (by kernel_rfl) (fun _ _ _ _ h => h) ?_
  refine ja_1 8 ?_ rfl (by kernel_rfl)
  refine js_call Try.f61 (mustN _) rfl Try.func61 rfl rfl (ovL_cons rfl (ovL_cons rfl ovL_nil)) (.cons .n (.cons .i .nil)) (hd 35 rfl) ?_ (fun ch hp => by simp at hp)
  rintro y hy; injection hy with hy; subst hy
  refine ja_1 11 ?_ rfl (by kernel_rfl)
  refine js_call Try.f62 (hQy) rfl Try.func62 rfl rfl (ovL_cons rfl (ovL_cons rfl ovL_nil)) (.cons .n (.cons .n .nil)) (hd 38 rfl) ?_ (fun ch hp => by simp at hp)
  rintro y hy; injection hy with hy; subst hy; refine ja_l2 12 [14, 15, 16, 17] (lo_l (ly_ext rfl rfl) (hd 39 rfl)) rfl (by kernel_rfl) (by kernel_rfl) (by kernel_rfl) (by kernel_rfl) (fun _ _ _ _ h => h) ?_; refine ja_l2 13 [14, 15, 16, 17] (lo_l (ly_ext rfl rfl) (hd 40 rfl)) rfl (by kernel_rfl) (by kernel_rfl) (by kernel_rfl) (by kernel_rfl) (fun _ _ _ _ h => h) ?_
  refine ja_1 14 ?_ rfl (by kernel_rfl)
  refine js_call Try.f61 (mustN _) rfl Try.func61 rfl rfl (ovL_cons rfl (ovL_cons rfl ovL_nil)) (.cons .n (.cons .i .nil)) (hd 41 rfl) ?_ (fun ch hp => by simp at hp)
  rintro y hy; injection hy with hy; subst hy; refine ja_l 15 (lo_l (ly_as rfl) (hd 2 rfl)) rfl (by kernel_rfl) (by kernel_rfl) (by kernel_rfl) (fun _ _ _ _ h => h) ?_; refine ja_l 16 (lo_l (ly_as rfl) (hd 3 rfl)) rfl (by kernel_rfl) (by kernel_rfl) (by kernel_rfl) (fun _ _ _ _ h => h) ?_; refine ja_l 17 (lo_l (ly_as rfl) (hd 4 rfl)) rfl (by kernel_rfl) (by kernel_rfl) (by kernel_rfl) (fun _ _ _ _ h => h) ?_; refine ja_nil (by kernel_rfl) ?_; refine jc_ret ?_
  refine ⟨_, _, (.cons rfl (.cons rfl (.cons rfl .nil))), (.t1 .b (.t1 .n (.t1 .n .t0))), ?_⟩
  rw [sgq_p h1]

theorem parts_s (s : Bool) (l d : List Int) (x y : Nat) (hx : Rw l x) (hy : Rw d y) (h0 : y ≠ 0) : Spec Try.prog 96 [(.a [.b s, .n false .u64 l, .n false .u64 d])] (fun o => o = .ret (.t [.b (sgq s x), .n false .u64 (lm ((rn0 x y : Nat) : Int)), .n false .u64 (lm ((rd0 x y : Nat) : Int))])) := by
  by_cases h1 : x = 0
  · subst h1; exact parts_0 s l d y hx hy h0
  · exact parts_p s l d x y hx hy h0 h1

set_option maxHeartbeats 4000000 in
theorem qnorm_s (s : Bool) (l d : List Int) (x y : Nat) (hx : Rw l x) (hy : Rw d y) (h0 : y ≠ 0) : Spec Try.prog 44 [(.a [.b s, .n false .u64 l, .n false .u64 d])] (fun o => o = .ret (.a [.b (sgq s x), .n false .u64 (lm ((rn0 x y : Nat) : Int)), .n false .u64 (lm ((rd0 x y : Nat) : Int))])) := by
  refine spec_of' [(0, (.a [.b s, .n false .u64 l, .n false .u64 d]))] rfl Try.func44 rfl (Nat.le_of_ble_eq_true rfl) fun Γ hN hds hL hR => ?_
  have hd : ∀ d, Nat.blt d 17 = true → d < Γ.N := fun d h => by rw [hN]; exact Nat.le_of_ble_eq_true h
  refine jc_seq ?_; refine jc_region ?_; refine jo_h (hy_box (id := 0) (n := 3) rfl rfl rfl (by decide) rfl) (hd 1 rfl) ?_; refine jo_h (hy_alloc (id := 1) zero1028 (by decide) rfl (by decide) rfl) (hd 2 rfl) ?_; refine jo_nil ?_; refine jc_seq ?_; refine jc_region ?_; refine jo_l (ly_lda agg1028 rfl rfl rfl rfl) (hd 7 rfl) ?_
  refine jo_call Try.f96 (parts_s s l d x y hx hy h0) rfl Try.func96 rfl rfl (ovL_cons rfl ovL_nil) (.cons (.a1 .b (.a1 .n (.a1 .n .a0))) .nil) (hd 8 rfl) ?_ (fun ch hp => by simp at hp)
  rintro y hy; injection hy with hy; subst hy; refine jo_l (ly_mv rfl) (hd 6 rfl) ?_; refine jo_l (ly_ext rfl rfl) (hd 9 rfl) ?_; refine jo_l (ly_ext rfl rfl) (hd 10 rfl) ?_; refine jo_l (ly_ext rfl rfl) (hd 11 rfl) ?_; refine jo_l (ly_as rfl) (hd 3 rfl) ?_; refine jo_l (ly_as rfl) (hd 4 rfl) ?_; refine jo_l (ly_as rfl) (hd 5 rfl) ?_; refine jo_nil ?_; refine jc_seq ?_; refine jc_region ?_; refine jo_l (ly_mv rfl) (hd 12 rfl) ?_; refine jo_l (ly_mv rfl) (hd 13 rfl) ?_; refine jo_l (ly_build (is := [0, 1]) (xs := [.tmp 12, .tmp 13]) zero30 pls30_0_1 rfl (ovL_cons rfl (ovL_cons rfl ovL_nil)) rfl (by first | (simp [plsOk, cellsV]; done) | (simp [plsOk, cellsV, old]; done)) (all_of rfl) rfl) (hd 14 rfl) ?_; refine jo_l (ly_mv rfl) (hd 15 rfl) ?_; refine jo_l (ly_build (is := [0, 1]) (xs := [.tmp 14, .tmp 15]) zero1028 pls1028_0_1 rfl (ovL_cons rfl (ovL_cons rfl ovL_nil)) rfl ⟨rfl, (by decide), rfl, (by decide), trivial⟩ (all_of rfl) rfl) (hd 16 rfl) ?_; refine jo_st (sy_store rfl rfl rfl siz1028 rfl rfl (Nat.le_of_ble_eq_true rfl)) ?_; refine jo_nil ?_; refine jc_ret ?_
  refine ⟨_, _, (.cons (ResV.cell agg1028 rfl rfl rfl rfl) .nil), (.a1 .b (.a1 .n (.a1 .n .a0))), ?_⟩
  exact rfl

end Go.Proofs.Ytpldmajdiljoaaa.Vc

/- Contract of ratio.looked. -/
namespace Go.Proofs.Ytpldmajdiljoaaa.Vc
open Go Go.RowKit
set_option maxHeartbeats 4000000 in
theorem looked_g (rs : List (Bool × List Int × List Int)) (hr : ∀ r ∈ rs, r.2.2.length ≤ 1048576 ∧ u64s r.2.2) (hrl : rs.length ≤ 1000) : Spec Try.prog 51 [.l false 3 (rtsV rs)] (fun o => o = lkO 126 rs) := by
  refine spec_of' [(0, .l false 3 (rtsV rs))] rfl Try.func51 rfl (Nat.le_of_ble_eq_true rfl) fun Γ hN hds hL hR => ?_
  have hd : ∀ d, Nat.blt d 17 = true → d < Γ.N := fun d h => by rw [hN]; exact Nat.le_of_ble_eq_true h
  refine jc_seq ?_; refine jc_region ?_; refine jo_l (ly_mv rfl) (hd 4 rfl) ?_; refine jo_l (ly_lenl sl1073 rfl) (hd 5 rfl) ?_; refine jo_l (ly_mv rfl) (hd 6 rfl) ?_; refine jo_nil ?_; refine jc_block ?_
  refine jc_loopD (G := Nat) 0 (fun i => i ≤ rs.length ∧ ∀ j < i, vl (rat0 rs j).2.2 ≠ 0) (fun i => [(6, .i .i64 (i : Int)), (3, .u), (7, .u), (8, .u), (9, .u), (10, .u), (11, .u), (12, .u), (13, .u), (14, .u), (15, .u), (16, .u)]) (fun i => []) (fun i => rs.length - i) 0 ?_ ?_ rfl hR rfl (fun _ _ => rfl) (fun g _ => .nil) ?_
  · exact ⟨Nat.zero_le _, fun j h => absurd h (Nat.not_lt_zero _)⟩
  · exact (.cons rfl (.u (.u (.u (.u (.u (.u (.u (.u (.u (.u (.u .nil))))))))))))
  · rintro i ⟨hi, hj⟩; refine jc_seq ?_; refine jc_region ?_; refine jo_l (ly_lt rfl rfl) (hd 7 rfl) ?_; refine jo_nil ?_; refine jc_seq ?_
    refine jc_if rfl (fun h1 => ?_) (fun h1 => ?_)
    · have hil : i < rs.length := by have h9 : (i : Int) < ((rtsV rs).length : Int) := h1; rw [rtsV_len] at h9; omega
      have hru : (rat0 rs i).2.2.length ≤ 1048576 ∧ u64s (rat0 rs i).2.2 := by have h9 := hr _ (List.getElem_mem hil); unfold rat0; rwa [List.getD_eq_getElem?_getD, List.getElem?_eq_getElem hil]
      have hrv := vl_nonneg hru.2
      have hLn := Length_s (rat0 rs i).2.2 (by omega) hru.2
      rw [lenN_lenV hru.2 rfl] at hLn
      refine jc_skip ?_; refine jc_seq ?_; refine jc_block ?_; refine jc_seq ?_; refine jc_region ?_; refine jo_l (ly_ial (i := i) (row := [V.b (rat0 rs i).1, V.n false .u64 (rat0 rs i).2.1, V.n false .u64 (rat0 rs i).2.2]) sl1073 rfl rfl (by omega) (rtsV_at hil)) (hd 8 rfl) ?_; refine jo_l (ly_ldqa agg1028 rfl rfl rfl) (hd 9 rfl) ?_; refine jo_h (hy_alloc (id := 0) zero1028 (by decide) rfl (by decide) rfl) (hd 3 rfl) ?_; refine jo_st (sy_store rfl rfl rfl siz1028 rfl rfl (Nat.le_of_ble_eq_true rfl)) ?_; refine jo_nil ?_; refine jc_seq ?_; refine jc_region ?_; refine jo_l (ly_fa fld1028_1 rfl rfl rfl) (hd 10 rfl) ?_; refine jo_l (ly_ld one28 rfl rfl rfl) (hd 11 rfl) ?_
      refine jo_call Try.f66 (hLn) rfl Try.func66 rfl rfl (ovL_cons rfl ovL_nil) (.cons .n .nil) (hd 12 rfl) ?_ (fun ch hp => by simp at hp)
      rintro y hy; injection hy with hy; subst hy; refine jo_l (ly_eq rfl rfl) (hd 13 rfl) ?_; refine jo_nil ?_
      refine jc_if rfl (fun h2 => ?_) (fun h2 => ?_)
      · have hz : vl (rat0 rs i).2.2 = 0 := by have h9 : ((lenV (vl (rat0 rs i).2.2) : Nat) : Int) = 0 := h2; have h7 := lenV_zero (x := (vl (rat0 rs i).2.2).toNat); rw [Int.toNat_of_nonneg hrv] at h7; have := h7.1 (by omega); omega
        refine jc_region ?_; refine jo_l (ly_build (is := [0]) (xs := [.const (.int .i64 70)]) zero1126 pls1126_0 rfl (ovL_cons rfl ovL_nil) rfl (by first | (simp [plsOk, cellsV]; done) | (simp [plsOk, cellsV, old]; done)) (all_of rfl) rfl) (hd 14 rfl) ?_; refine jo_l (ly_mi ndi1126 rfl) (hd 15 rfl) ?_; refine jo_panic rfl ?_
        show Out.pan _ = lkO 126 rs
        rw [lkO_n hil hz]
        rfl
      · have hnz : vl (rat0 rs i).2.2 ≠ 0 := fun e => by have h9 : ¬ ((lenV (vl (rat0 rs i).2.2) : Nat) : Int) = 0 := h2; rw [e] at h9; exact h9 rfl
        refine jc_skip ?_; refine jc_region ?_; refine jo_l (ly_add rfl rfl (r := ((i + 1 : Nat) : Int)) (by rw [wrap_i64 (by omega) (by omega)]; omega)) (hd 16 rfl) ?_; refine jo_l (ly_mv rfl) (hd 6 rfl) ?_; refine jo_nil ?_
        refine ⟨i + 1, ?_, ?_, rfl, cov_n 22 rfl rfl ?_⟩
        · exact ⟨by omega, fun j hjj => by rcases Nat.lt_or_ge j i with h9 | h9; exact hj j h9; rw [show j = i by omega]; exact hnz⟩
        · omega
        · exact (.cons rfl (.u (.u (.u (.u (.u (.u (.u (.u (.u (.u (.u .nil))))))))))))
    · obtain rfl : i = rs.length := by have h9 : ¬ (i : Int) < ((rtsV rs).length : Int) := h1; rw [rtsV_len] at h9; omega
      refine jc_exit ?_
      refine ⟨_, _, .nil, .t0, ?_⟩
      rw [lkO_y hj]

theorem looked_1 (s : Bool) (l d : List Int) (y : Nat) (hy : Rw d y) (h0 : y ≠ 0) : Spec Try.prog 51 [.l false 3 [[V.b s, V.n false .u64 l, V.n false .u64 d]]] (fun o => o = .ret (.t [])) := by
  have h := looked_g [(s, l, d)] (fun r hr => by simp only [List.mem_cons, List.mem_nil_iff, or_false] at hr; subst hr; exact ⟨hy.l, hy.u⟩) (by simp)
  have h1 : (vl d ≠ 0) := by rw [hy.v]; omega
  rwa [show lkO 126 [(s, l, d)] = .ret (.t []) by unfold lkO; simp [h1]] at h
theorem looked_2 (s : Bool) (l d : List Int) (y : Nat) (s2 : Bool) (l2 d2 : List Int) (y2 : Nat) (hy : Rw d y) (h0 : y ≠ 0) (hy2 : Rw d2 y2) (h02 : y2 ≠ 0) : Spec Try.prog 51 [.l false 3 [[V.b s, V.n false .u64 l, V.n false .u64 d], [V.b s2, V.n false .u64 l2, V.n false .u64 d2]]] (fun o => o = .ret (.t [])) := by
  have h := looked_g [(s, l, d), (s2, l2, d2)] (fun r hr => by simp only [List.mem_cons, List.mem_nil_iff, or_false] at hr; rcases hr with rfl | rfl; exact ⟨hy.l, hy.u⟩; exact ⟨hy2.l, hy2.u⟩) (by simp)
  have h1 : (vl d ≠ 0) := by rw [hy.v]; omega
  have h2 : (vl d2 ≠ 0) := by rw [hy2.v]; omega
  rwa [show lkO 126 [(s, l, d), (s2, l2, d2)] = .ret (.t []) by unfold lkO; simp [h1, h2]] at h
end Go.Proofs.Ytpldmajdiljoaaa.Vc

/- Contracts of ratio.Norm, Abs, Neg, Sign, Make, Int. -/
namespace Go.Proofs.Ytpldmajdiljoaaa.Vc
open Go Go.RowKit
set_option maxHeartbeats 4000000 in
theorem QMake_s (s t : Bool) (l d : List Int) (x y : Nat) (hx : Rw l x) (hy : Rw d y) (h0 : y ≠ 0) : Spec Try.prog 20 [.a [.b s, .n false .u64 l], .a [.b t, .n false .u64 d]] (fun o => o = .ret (.t [(.a [.b (sgq (s != t) x), .n false .u64 (lm ((rn0 x y : Nat) : Int)), .n false .u64 (lm ((rd0 x y : Nat) : Int))]), .i .i64 0])) := by
  refine spec_ofD [(0, .a [.b s, .n false .u64 l]), (1, .a [.b t, .n false .u64 d])] rfl Try.func20 rfl (Nat.le_of_ble_eq_true rfl) fun Γ 𝓡 hN hds hL hR hE => ?_
  have hd : ∀ d, Nat.blt d 21 = true → d < Γ.N := fun d h => by rw [hN]; exact Nat.le_of_ble_eq_true h
  refine jcp_seq ?_; refine jc_region ?_; refine jo_h (hy_box (id := 0) (n := 2) rfl rfl rfl (by decide) rfl) (hd 2 rfl) ?_; refine jo_h (hy_box (id := 1) (n := 2) rfl rfl rfl (by decide) rfl) (hd 3 rfl) ?_; refine jo_h (hy_alloc (id := 2) zero1028 (by decide) rfl (by decide) rfl) (hd 4 rfl) ?_; refine jo_h (hy_alloc (id := 3) zero23 (by decide) rfl (by decide) rfl) (hd 5 rfl) ?_; refine jo_nil ?_; refine jcd_defer (g := 53) (caps := [.p 2 0 0, .p 3 0 0]) 4 [_] (ops := [_, _]) rfl Try.func53 rfl rfl rfl hds hR hL hE ?_; refine jo_l (ly_mf (ovL_cons rfl (ovL_cons rfl ovL_nil))) (hd 7 rfl) ?_; refine jo_nil ?_
  refine ⟨rfl, rfl, rfl, ?_⟩
  intro Γ1 hN1 hL hR1
  replace hd : ∀ d, Nat.blt d 21 = true → d < Γ1.N := fun d h => by rw [hN1]; exact hd d h
  refine jo_nil ?_; refine jc_seq ?_; refine jc_region ?_; refine jo_l (ly_fa fld30_0 rfl rfl rfl) (hd 8 rfl) ?_; refine jo_l (ly_ld one4 rfl rfl rfl) (hd 9 rfl) ?_; refine jo_l (ly_fa fld30_0 rfl rfl rfl) (hd 10 rfl) ?_; refine jo_l (ly_ld one4 rfl rfl rfl) (hd 11 rfl) ?_; refine jo_l (ly_neb und4 rfl rfl) (hd 12 rfl) ?_; refine jo_l (ly_as rfl) (hd 6 rfl) ?_; refine jo_nil ?_; refine jc_seq ?_; refine jc_region ?_; refine jo_l (ly_mv rfl) (hd 13 rfl) ?_; refine jo_l (ly_fa fld30_1 rfl rfl rfl) (hd 14 rfl) ?_; refine jo_l (ly_ld one28 rfl rfl rfl) (hd 15 rfl) ?_; refine jo_l (ly_build (is := [0, 1]) (xs := [.tmp 13, .tmp 15]) zero30 pls30_0_1 rfl (ovL_cons rfl (ovL_cons rfl ovL_nil)) rfl (by first | (simp [plsOk, cellsV]; done) | (simp [plsOk, cellsV, old]; done)) (all_of rfl) rfl) (hd 16 rfl) ?_; refine jo_l (ly_fa fld30_1 rfl rfl rfl) (hd 17 rfl) ?_; refine jo_l (ly_ld one28 rfl rfl rfl) (hd 18 rfl) ?_; refine jo_l (ly_build (is := [0, 1]) (xs := [.tmp 16, .tmp 18]) zero1028 pls1028_0_1 rfl (ovL_cons rfl (ovL_cons rfl ovL_nil)) rfl ⟨rfl, (by decide), rfl, (by decide), trivial⟩ (all_of rfl) rfl) (hd 19 rfl) ?_
  refine jo_call Try.f44 (qnorm_s _ l d x y hx hy h0) rfl Try.func44 rfl rfl (ovL_cons rfl ovL_nil) (.cons (.a1 .b (.a1 .n (.a1 .n .a0))) .nil) (hd 20 rfl) ?_ (fun ch hp => by simp at hp)
  rintro y hy; injection hy with hy; subst hy; refine jo_st (sy_store rfl rfl rfl siz1028 rfl rfl (Nat.le_of_ble_eq_true rfl)) ?_; refine jo_st (sy_store rfl rfl rfl siz23 rfl rfl (Nat.le_of_ble_eq_true rfl)) ?_; refine jo_nil ?_; refine jc_ret ?_; refine Clo.fin clo_2346 (m := 4) (i := 2) (j := 3) (Nat.le_of_ble_eq_true rfl) rfl rfl rfl rfl ?_
  refine ⟨_, _, (.cons (ResV.cell agg1028 rfl rfl rfl rfl) (.cons (ResV.cell1 one23 rfl rfl rfl) .nil)), (.t1 (.a1 .b (.a1 .n (.a1 .n .a0))) (.t1 .i .t0)), ?_⟩
  exact rfl

set_option maxHeartbeats 4000000 in
theorem QInt_s (v : Int) (hv : inI v) : Spec Try.prog 23 [.i .i64 v] (fun o => o = .ret (.a [.b (decide (v < 0)), .n true .u64 (lm v), .n true .u64 (lm ((1 : Nat) : Int))])) := by
  refine spec_of' [(0, .i .i64 v)] rfl Try.func23 rfl (Nat.le_of_ble_eq_true rfl) fun Γ hN hds hL hR => ?_
  have hd : ∀ d, Nat.blt d 7 = true → d < Γ.N := fun d h => by rw [hN]; exact Nat.le_of_ble_eq_true h
  have hF1 : Spec Try.prog 58 [.i .u64 1] (fun o => o = .ret (.n true .u64 [1])) := by have h := From_s 1; rwa [if_neg (by decide)] at h
  refine jc_seq ?_; refine jc_region ?_; refine jo_h (hy_alloc (id := 0) zero1028 (by decide) rfl (by decide) rfl) (hd 2 rfl) ?_; refine jo_nil ?_; refine jc_seq ?_; refine jc_region ?_; refine jo_l (ly_mv rfl) (hd 3 rfl) ?_
  refine jo_call Try.f57 (Of_v v hv) rfl Try.func57 rfl rfl (ovL_cons rfl ovL_nil) (.cons .i .nil) (hd 4 rfl) ?_ (fun ch hp => by simp at hp)
  rintro y hy; injection hy with hy; subst hy
  refine jo_call Try.f58 (hF1) rfl Try.func58 rfl rfl (ovL_cons rfl ovL_nil) (.cons .i .nil) (hd 5 rfl) ?_ (fun ch hp => by simp at hp)
  rintro y hy; injection hy with hy; subst hy; refine jo_l (ly_build (is := [0, 1]) (xs := [.tmp 4, .tmp 5]) zero1028 pls1028_0_1 rfl (ovL_cons rfl (ovL_cons rfl ovL_nil)) rfl ⟨rfl, (by decide), rfl, (by decide), trivial⟩ (all_of rfl) rfl) (hd 6 rfl) ?_; refine jo_st (sy_store rfl rfl rfl siz1028 rfl rfl (Nat.le_of_ble_eq_true rfl)) ?_; refine jo_nil ?_; refine jc_ret ?_
  refine ⟨_, _, (.cons (ResV.cell agg1028 rfl rfl rfl rfl) .nil), (.a1 .b (.a1 .n (.a1 .n .a0))), ?_⟩
  rw [lm_1n]
end Go.Proofs.Ytpldmajdiljoaaa.Vc

/- Contracts of ratio.Print; Quo by 0. -/
namespace Go.Proofs.Ytpldmajdiljoaaa.Vc
open Go Go.RowKit
set_option maxHeartbeats 4000000 in
theorem QPrint_s (s : Bool) (l d : List Int) (x y : Nat) (hx : Rw l x) (hy : Rw d y) (h0 : y ≠ 0) : Spec Try.prog 32 [(.a [.b s, .n false .u64 l, .n false .u64 d])] (fun o => o = .ret (.t [.s (rtx (sgq s x) (rn0 x y) (rd0 x y)), .i .i64 0])) := by
  refine spec_ofD [(0, (.a [.b s, .n false .u64 l, .n false .u64 d]))] rfl Try.func32 rfl (Nat.le_of_ble_eq_true rfl) fun Γ 𝓡 hN hds hL hR hE => ?_
  have hd : ∀ d, Nat.blt d 38 = true → d < Γ.N := fun d h => by rw [hN]; exact Nat.le_of_ble_eq_true h
  have hbn : lenV ((rn0 x y : Nat) : Int) ≤ 67108864 := rn0_b hx.b
  have hbd : lenV ((rd0 x y : Nat) : Int) ≤ 67108864 := rd0_b hy.b
  have hRn := Rw.of hbn
  have hRd := Rw.of hbd
  have hF1 : Spec Try.prog 58 [.i .u64 1] (fun o => o = .ret (.n true .u64 [1])) := by have h := From_s 1; rwa [if_neg (by decide)] at h
  have hsn := ntx_size _ hbn
  have hsd := ntx_size _ hbd
  have hl1 := hRd.l
  have hPn : Spec Try.prog 85 [.n false .u64 (lm ((rn0 x y : Nat) : Int)), .i .i64 10] (fun o => o = .ret (.t [.s (ntx (rn0 x y)), .i .i64 0])) := by have h := Print_s (lm ((rn0 x y : Nat) : Int)) 10 hRn.l hRn.u (by decide) (by decide); rwa [hRn.v, Int.toNat_natCast] at h
  have hPd : Spec Try.prog 85 [.n false .u64 (lm ((rd0 x y : Nat) : Int)), .i .i64 10] (fun o => o = .ret (.t [.s (ntx (rd0 x y)), .i .i64 0])) := by have h := Print_s (lm ((rd0 x y : Nat) : Int)) 10 hRd.l hRd.u (by decide) (by decide); rwa [hRd.v, Int.toNat_natCast] at h
  have hCp : Spec Try.prog 86 [.n false .u64 (lm ((rd0 x y : Nat) : Int)), .n false .u64 [1]] (fun o => o = .ret (.i .i64 (cmpI ((rd0 x y : Nat) : Int) 1))) := by have h := Compare_v ((rd0 x y : Nat) : Int) ((1 : Nat) : Int) (by omega) (by rw [lm_1n]; decide); rw [lm_1n, Int.natAbs_natCast, Int.natAbs_natCast] at h; exact h
  refine jcp_seq ?_; refine jc_region ?_; refine jo_h (hy_box (id := 0) (n := 3) rfl rfl rfl (by decide) rfl) (hd 1 rfl) ?_; refine jo_h (hy_alloc (id := 1) zero9 (by decide) rfl (by decide) rfl) (hd 2 rfl) ?_; refine jo_h (hy_alloc (id := 2) zero23 (by decide) rfl (by decide) rfl) (hd 3 rfl) ?_; refine jo_nil ?_; refine jcd_defer (g := 82) (caps := [.p 1 0 0, .p 2 0 0]) 3 [_] (ops := [_, _]) rfl Try.func82 rfl rfl rfl hds hR hL hE ?_; refine jo_l (ly_mf (ovL_cons rfl (ovL_cons rfl ovL_nil))) (hd 5 rfl) ?_; refine jo_nil ?_
  refine ⟨rfl, rfl, rfl, ?_⟩
  intro Γ1 hN1 hL hR1
  replace hd : ∀ d, Nat.blt d 38 = true → d < Γ1.N := fun d h => by rw [hN1]; exact hd d h
  refine jo_nil ?_; refine jc_seq ?_; refine jc_region ?_; refine jo_l (ly_lda agg1028 rfl rfl rfl rfl) (hd 6 rfl) ?_; refine jo_h (hy_lit (id := 3) (xs := [.tmp 6]) el1073 rfl (ovL_cons rfl ovL_nil) rfl (all2_of rfl) (by decide) rfl) (hd 7 rfl) ?_; refine jo_frzr 7 (sz := 3) [[V.b s, V.n false .u64 l, V.n false .u64 d]] rfl rfl rfl rfl (by simp) (by simp [pureV]) (by decide) hL ?_
  refine jo_call Try.f51 (looked_1 s l d y hy h0) rfl Try.func51 rfl rfl (ovL_cons rfl ovL_nil) (.cons .l .nil) (hd 8 rfl) ?_ (fun ch hp => by simp at hp)
  rintro y hy; injection hy with hy; subst hy; refine jo_nil ?_; refine jc_seq ?_; refine jc_region ?_; refine jo_l (ly_lda agg1028 rfl rfl rfl rfl) (hd 9 rfl) ?_
  refine jo_call Try.f44 (qnorm_s s l d x y hx hy h0) rfl Try.func44 rfl rfl (ovL_cons rfl ovL_nil) (.cons (.a1 .b (.a1 .n (.a1 .n .a0))) .nil) (hd 10 rfl) ?_ (fun ch hp => by simp at hp)
  rintro y hy; injection hy with hy; subst hy; refine jo_h (hy_alloc (id := 4) zero1028 (by decide) rfl (by decide) rfl) (hd 4 rfl) ?_; refine jo_st (sy_store rfl rfl rfl siz1028 rfl rfl (Nat.le_of_ble_eq_true rfl)) ?_; refine jo_nil ?_; refine jc_seq ?_; refine jc_region ?_; refine jo_l (ly_fa fld1028_0 rfl rfl rfl) (hd 11 rfl) ?_; refine jo_l (ly_fa fld30_1 rfl rfl rfl) (hd 12 rfl) ?_; refine jo_l (ly_ld one28 rfl rfl rfl) (hd 13 rfl) ?_
  refine jo_call Try.f85 (hPn) rfl Try.func85 rfl rfl (ovL_cons rfl (ovL_cons rfl ovL_nil)) (.cons .n (.cons .i .nil)) (hd 14 rfl) ?_ (fun ch hp => by simp at hp)
  rintro y hy; injection hy with hy; subst hy; refine jo_l (ly_ext rfl rfl) (hd 15 rfl) ?_; refine jo_l (ly_ext rfl rfl) (hd 16 rfl) ?_
  refine jo_call Try.f84 (mustS _) rfl Try.func84 rfl rfl (ovL_cons rfl (ovL_cons rfl ovL_nil)) (.cons .s (.cons .i .nil)) (hd 17 rfl) ?_ (fun ch hp => by simp at hp)
  rintro y hy; injection hy with hy; subst hy; refine jo_st (sy_store rfl rfl rfl siz9 rfl rfl (Nat.le_of_ble_eq_true rfl)) ?_; refine jo_nil ?_; refine jc_seq ?_; refine jc_seq ?_; refine jc_region ?_; refine jo_l (ly_fa fld1028_0 rfl rfl rfl) (hd 18 rfl) ?_; refine jo_l (ly_fa fld30_0 rfl rfl rfl) (hd 19 rfl) ?_; refine jo_l (ly_ld one4 rfl rfl rfl) (hd 20 rfl) ?_; refine jo_nil ?_
  refine jc_cond rfl (fun h1 => ?_) (fun h1 => ?_)
  · have hs1 : rtx1 (sgq s x) (rn0 x y) = (⟨#[45]⟩ : ByteArray) ++ ntx (rn0 x y) := by unfold rtx1; rw [if_pos h1]
    refine jc_region ?_; refine jo_l (ly_ld one9 rfl rfl rfl) (hd 21 rfl) ?_; refine jo_l (ly_adds rfl rfl (by show ((1 + _ : Nat) : Int) ≤ 9223372036854775807; omega)) (hd 22 rfl) ?_; refine jo_st (sy_store rfl rfl rfl siz9 rfl rfl (Nat.le_of_ble_eq_true rfl)) ?_; refine jo_nil ?_; refine jc_seq ?_; refine jc_seq ?_; refine jc_nopan ?_; refine jc_draw (n := 5) _ rfl mixed ?_; refine ja_l2 0 [1, 3, 4] (lo_l (ly_fa fld1028_1 rfl rfl rfl) (hd 23 rfl)) rfl (by kernel_rfl) (by kernel_rfl) (by kernel_rfl) (by kernel_rfl) (fun _ _ _ _ h => h) ?_; refine ja_l2 1 [3, 4] (lo_l (ly_ld one28 rfl rfl rfl) (hd 24 rfl)) rfl (by kernel_rfl) (by kernel_rfl) (by kernel_rfl) (by kernel_rfl) (fun _ _ _ _ h => h) ?_
    refine ja_1 2 ?_ rfl (by kernel_rfl)
    refine js_call Try.f58 (hF1) rfl Try.func58 rfl rfl (ovL_cons rfl ovL_nil) (.cons .i .nil) (hd 25 rfl) ?_ (fun ch hp => by simp at hp)
    rintro y hy; injection hy with hy; subst hy
    refine ja_1 3 ?_ rfl (by kernel_rfl)
    refine js_call Try.f86 (hCp) rfl Try.func86 rfl rfl (ovL_cons rfl (ovL_cons rfl ovL_nil)) (.cons .n (.cons .n .nil)) (hd 26 rfl) ?_ (fun ch hp => by simp at hp)
    rintro y hy; injection hy with hy; subst hy; refine ja_l 4 (lo_l (ly_ne rfl rfl) (hd 27 rfl)) rfl (by kernel_rfl) (by kernel_rfl) (by kernel_rfl) (fun _ _ _ _ h => h) ?_; refine ja_nil (by kernel_rfl) ?_
    refine jc_if rfl (fun h2 => ?_) (fun h2 => ?_)
    · have hd1 : rd0 x y ≠ 1 := fun e => h2 (by rw [e]; exact cmpI_0.2 rfl)
      refine jc_nopan ?_; refine jc_draw (n := 10) _ rfl mixed ?_; refine ja_l 0 (lo_l (ly_ld one9 rfl rfl rfl) (hd 28 rfl)) rfl (by kernel_rfl) (by kernel_rfl) (by kernel_rfl) (fun _ _ _ _ h => h) ?_; refine ja_l2 1 [2, 3, 4, 5, 6, 7, 8, 9] (lo_l (ly_fa fld1028_1 rfl rfl rfl) (hd 29 rfl)) rfl (by kernel_rfl) (by kernel_rfl) (by kernel_rfl) (by kernel_rfl) (fun _ _ _ _ h => h) ?_; refine ja_l2 2 [3, 4, 5, 6, 7, 8, 9] (lo_l (ly_ld one28 rfl rfl rfl) (hd 30 rfl)) rfl (by kernel_rfl) (by kernel_rfl) (by kernel_rfl) (by kernel_rfl) (fun _ _ _ _ h => h) ?_
      refine ja_1 3 ?_ rfl (by kernel_rfl)
      refine js_call Try.f85 (hPd) rfl Try.func85 rfl rfl (ovL_cons rfl (ovL_cons rfl ovL_nil)) (.cons .n (.cons .i .nil)) (hd 31 rfl) ?_ (fun ch hp => by simp at hp)
      rintro y hy; injection hy with hy; subst hy; refine ja_l2 4 [6, 7, 8, 9] (lo_l (ly_ext rfl rfl) (hd 32 rfl)) rfl (by kernel_rfl) (by kernel_rfl) (by kernel_rfl) (by kernel_rfl) (fun _ _ _ _ h => h) ?_; refine ja_l2 5 [6, 7, 8, 9] (lo_l (ly_ext rfl rfl) (hd 33 rfl)) rfl (by kernel_rfl) (by kernel_rfl) (by kernel_rfl) (by kernel_rfl) (fun _ _ _ _ h => h) ?_
      refine ja_1 6 ?_ rfl (by kernel_rfl)
      refine js_call Try.f84 (mustS _) rfl Try.func84 rfl rfl (ovL_cons rfl (ovL_cons rfl ovL_nil)) (.cons .s (.cons .i .nil)) (hd 34 rfl) ?_ (fun ch hp => by simp at hp)
      rintro y hy; injection hy with hy; subst hy; refine ja_l 7 (lo_l (ly_adds rfl rfl (by show ((1 + _ : Nat) : Int) ≤ 9223372036854775807; omega)) (hd 35 rfl)) rfl (by kernel_rfl) (by kernel_rfl) (by kernel_rfl) (fun _ _ _ _ h => h) ?_; refine ja_l 8 (lo_l (ly_adds rfl rfl (by simp only [ByteArray.size_append]; show ((_ : Nat) : Int) ≤ 9223372036854775807; simp only [show (⟨#[45]⟩ : ByteArray).size = 1 from rfl, show (⟨#[47]⟩ : ByteArray).size = 1 from rfl]; omega)) (hd 36 rfl)) rfl (by kernel_rfl) (by kernel_rfl) (by kernel_rfl) (fun _ _ _ _ h => h) ?_
      refine ja_1 9 ?_ rfl (by kernel_rfl)
      refine js_st (sy_store rfl rfl rfl siz9 rfl rfl (Nat.le_of_ble_eq_true rfl)) rfl ?_; refine ja_nil (by kernel_rfl) ?_; refine jc_seq ?_; refine jc_region ?_; refine jo_l (ly_ld one9 rfl rfl rfl) (hd 37 rfl) ?_; refine jo_st (sy_store rfl rfl rfl siz9 rfl rfl (Nat.le_of_ble_eq_true rfl)) ?_; refine jo_st (sy_store rfl rfl rfl siz23 rfl rfl (Nat.le_of_ble_eq_true rfl)) ?_; refine jo_nil ?_; refine jc_ret ?_; refine Clo.fin clo_2358 (m := 3) (i := 1) (j := 2) (Nat.le_of_ble_eq_true rfl) rfl rfl rfl rfl ?_
      refine ⟨_, _, (.cons (ResV.cell1 one9 rfl rfl rfl) (.cons (ResV.cell1 one23 rfl rfl rfl) .nil)), (.t1 .s (.t1 .i .t0)), ?_⟩
      show Out.ret _ = Out.ret _
      unfold rtx
      first | rw [if_neg hd1, hs1] | rw [if_pos hd1, hs1]
    · have hd1 : rd0 x y = 1 := by have h9 := cmpI_0.1 (Decidable.not_not.1 h2); omega
      refine jc_skip ?_; refine jc_seq ?_; refine jc_region ?_; refine jo_l (ly_ld one9 rfl rfl rfl) (hd 37 rfl) ?_; refine jo_st (sy_store rfl rfl rfl siz9 rfl rfl (Nat.le_of_ble_eq_true rfl)) ?_; refine jo_st (sy_store rfl rfl rfl siz23 rfl rfl (Nat.le_of_ble_eq_true rfl)) ?_; refine jo_nil ?_; refine jc_ret ?_; refine Clo.fin clo_2358 (m := 3) (i := 1) (j := 2) (Nat.le_of_ble_eq_true rfl) rfl rfl rfl rfl ?_
      refine ⟨_, _, (.cons (ResV.cell1 one9 rfl rfl rfl) (.cons (ResV.cell1 one23 rfl rfl rfl) .nil)), (.t1 .s (.t1 .i .t0)), ?_⟩
      show Out.ret _ = Out.ret _
      unfold rtx
      first | rw [if_neg hd1, hs1] | rw [if_pos hd1, hs1]
  · have hs1 : rtx1 (sgq s x) (rn0 x y) = ntx (rn0 x y) := by unfold rtx1; rw [if_neg (by rw [h1]; decide)]
    refine jc_skip ?_; refine jc_seq ?_; refine jc_seq ?_; refine jc_nopan ?_; refine jc_draw (n := 5) _ rfl mixed ?_; refine ja_l2 0 [1, 3, 4] (lo_l (ly_fa fld1028_1 rfl rfl rfl) (hd 23 rfl)) rfl (by kernel_rfl) (by kernel_rfl) (by kernel_rfl) (by kernel_rfl) (fun _ _ _ _ h => h) ?_; refine ja_l2 1 [3, 4] (lo_l (ly_ld one28 rfl rfl rfl) (hd 24 rfl)) rfl (by kernel_rfl) (by kernel_rfl) (by kernel_rfl) (by kernel_rfl) (fun _ _ _ _ h => h) ?_
    refine ja_1 2 ?_ rfl (by kernel_rfl)
    refine js_call Try.f58 (hF1) rfl Try.func58 rfl rfl (ovL_cons rfl ovL_nil) (.cons .i .nil) (hd 25 rfl) ?_ (fun ch hp => by simp at hp)
    rintro y hy; injection hy with hy; subst hy
    refine ja_1 3 ?_ rfl (by kernel_rfl)
    refine js_call Try.f86 (hCp) rfl Try.func86 rfl rfl (ovL_cons rfl (ovL_cons rfl ovL_nil)) (.cons .n (.cons .n .nil)) (hd 26 rfl) ?_ (fun ch hp => by simp at hp)
    rintro y hy; injection hy with hy; subst hy; refine ja_l 4 (lo_l (ly_ne rfl rfl) (hd 27 rfl)) rfl (by kernel_rfl) (by kernel_rfl) (by kernel_rfl) (fun _ _ _ _ h => h) ?_; refine ja_nil (by kernel_rfl) ?_
    refine jc_if rfl (fun h3 => ?_) (fun h3 => ?_)
    · have hd1 : rd0 x y ≠ 1 := fun e => h3 (by rw [e]; exact cmpI_0.2 rfl)
      refine jc_nopan ?_; refine jc_draw (n := 10) _ rfl mixed ?_; refine ja_l 0 (lo_l (ly_ld one9 rfl rfl rfl) (hd 28 rfl)) rfl (by kernel_rfl) (by kernel_rfl) (by kernel_rfl) (fun _ _ _ _ h => h) ?_; refine ja_l2 1 [2, 3, 4, 5, 6, 7, 8, 9] (lo_l (ly_fa fld1028_1 rfl rfl rfl) (hd 29 rfl)) rfl (by kernel_rfl) (by kernel_rfl) (by kernel_rfl) (by kernel_rfl) (fun _ _ _ _ h => h) ?_; refine ja_l2 2 [3, 4, 5, 6, 7, 8, 9] (lo_l (ly_ld one28 rfl rfl rfl) (hd 30 rfl)) rfl (by kernel_rfl) (by kernel_rfl) (by kernel_rfl) (by kernel_rfl) (fun _ _ _ _ h => h) ?_
      refine ja_1 3 ?_ rfl (by kernel_rfl)
      refine js_call Try.f85 (hPd) rfl Try.func85 rfl rfl (ovL_cons rfl (ovL_cons rfl ovL_nil)) (.cons .n (.cons .i .nil)) (hd 31 rfl) ?_ (fun ch hp => by simp at hp)
      rintro y hy; injection hy with hy; subst hy; refine ja_l2 4 [6, 7, 8, 9] (lo_l (ly_ext rfl rfl) (hd 32 rfl)) rfl (by kernel_rfl) (by kernel_rfl) (by kernel_rfl) (by kernel_rfl) (fun _ _ _ _ h => h) ?_; refine ja_l2 5 [6, 7, 8, 9] (lo_l (ly_ext rfl rfl) (hd 33 rfl)) rfl (by kernel_rfl) (by kernel_rfl) (by kernel_rfl) (by kernel_rfl) (fun _ _ _ _ h => h) ?_
      refine ja_1 6 ?_ rfl (by kernel_rfl)
      refine js_call Try.f84 (mustS _) rfl Try.func84 rfl rfl (ovL_cons rfl (ovL_cons rfl ovL_nil)) (.cons .s (.cons .i .nil)) (hd 34 rfl) ?_ (fun ch hp => by simp at hp)
      rintro y hy; injection hy with hy; subst hy; refine ja_l 7 (lo_l (ly_adds rfl rfl (by show ((1 + _ : Nat) : Int) ≤ 9223372036854775807; omega)) (hd 35 rfl)) rfl (by kernel_rfl) (by kernel_rfl) (by kernel_rfl) (fun _ _ _ _ h => h) ?_; refine ja_l 8 (lo_l (ly_adds rfl rfl (by simp only [ByteArray.size_append]; show ((_ : Nat) : Int) ≤ 9223372036854775807; simp only [show (⟨#[45]⟩ : ByteArray).size = 1 from rfl, show (⟨#[47]⟩ : ByteArray).size = 1 from rfl]; omega)) (hd 36 rfl)) rfl (by kernel_rfl) (by kernel_rfl) (by kernel_rfl) (fun _ _ _ _ h => h) ?_
      refine ja_1 9 ?_ rfl (by kernel_rfl)
      refine js_st (sy_store rfl rfl rfl siz9 rfl rfl (Nat.le_of_ble_eq_true rfl)) rfl ?_; refine ja_nil (by kernel_rfl) ?_; refine jc_seq ?_; refine jc_region ?_; refine jo_l (ly_ld one9 rfl rfl rfl) (hd 37 rfl) ?_; refine jo_st (sy_store rfl rfl rfl siz9 rfl rfl (Nat.le_of_ble_eq_true rfl)) ?_; refine jo_st (sy_store rfl rfl rfl siz23 rfl rfl (Nat.le_of_ble_eq_true rfl)) ?_; refine jo_nil ?_; refine jc_ret ?_; refine Clo.fin clo_2358 (m := 3) (i := 1) (j := 2) (Nat.le_of_ble_eq_true rfl) rfl rfl rfl rfl ?_
      refine ⟨_, _, (.cons (ResV.cell1 one9 rfl rfl rfl) (.cons (ResV.cell1 one23 rfl rfl rfl) .nil)), (.t1 .s (.t1 .i .t0)), ?_⟩
      show Out.ret _ = Out.ret _
      unfold rtx
      first | rw [if_neg hd1, hs1] | rw [if_pos hd1, hs1]
    · have hd1 : rd0 x y = 1 := by have h9 := cmpI_0.1 (Decidable.not_not.1 h3); omega
      refine jc_skip ?_; refine jc_seq ?_; refine jc_region ?_; refine jo_l (ly_ld one9 rfl rfl rfl) (hd 37 rfl) ?_; refine jo_st (sy_store rfl rfl rfl siz9 rfl rfl (Nat.le_of_ble_eq_true rfl)) ?_; refine jo_st (sy_store rfl rfl rfl siz23 rfl rfl (Nat.le_of_ble_eq_true rfl)) ?_; refine jo_nil ?_; refine jc_ret ?_; refine Clo.fin clo_2358 (m := 3) (i := 1) (j := 2) (Nat.le_of_ble_eq_true rfl) rfl rfl rfl rfl ?_
      refine ⟨_, _, (.cons (ResV.cell1 one9 rfl rfl rfl) (.cons (ResV.cell1 one23 rfl rfl rfl) .nil)), (.t1 .s (.t1 .i .t0)), ?_⟩
      show Out.ret _ = Out.ret _
      unfold rtx
      first | rw [if_neg hd1, hs1] | rw [if_pos hd1, hs1]

set_option maxHeartbeats 4000000 in
theorem QQuo_0 (s : Bool) (l d : List Int) (x y : Nat) (hx : Rw l x) (hy : Rw d y) (s2 : Bool) (l2 d2 : List Int) (x2 y2 : Nat) (hx2 : Rw l2 x2) (hy2 : Rw d2 y2) (h0 : y ≠ 0) (h02 : y2 ≠ 0) (hz : x2 = 0) : Spec Try.prog 29 [(.a [.b s, .n false .u64 l, .n false .u64 d]), (.a [.b s2, .n false .u64 l2, .n false .u64 d2])] (fun o => o = .ret (.t [(.a [.b false, .n false .u64 [], .n false .u64 []]), .i .i64 70])) := by
  refine spec_ofD [(0, (.a [.b s, .n false .u64 l, .n false .u64 d])), (1, (.a [.b s2, .n false .u64 l2, .n false .u64 d2]))] rfl Try.func29 rfl (Nat.le_of_ble_eq_true rfl) fun Γ 𝓡 hN hds hL hR hE => ?_
  have hd : ∀ d, Nat.blt d 31 = true → d < Γ.N := fun d h => by rw [hN]; exact Nat.le_of_ble_eq_true h
  have hLn : Spec Try.prog 66 [.n false .u64 l2] (fun o => o = .ret (.i .i64 (lenV (x2 : Int)))) := by have h := Length_s l2 (by have := hx2.l; omega) hx2.u; rwa [hx2.n] at h
  refine jcp_seq ?_; refine jc_region ?_; refine jo_h (hy_box (id := 0) (n := 3) rfl rfl rfl (by decide) rfl) (hd 2 rfl) ?_; refine jo_h (hy_box (id := 1) (n := 3) rfl rfl rfl (by decide) rfl) (hd 3 rfl) ?_; refine jo_h (hy_alloc (id := 2) zero1028 (by decide) rfl (by decide) rfl) (hd 4 rfl) ?_; refine jo_h (hy_alloc (id := 3) zero23 (by decide) rfl (by decide) rfl) (hd 5 rfl) ?_; refine jo_nil ?_; refine jcd_defer (g := 72) (caps := [.p 2 0 0, .p 3 0 0]) 4 [_] (ops := [_, _]) rfl Try.func72 rfl rfl rfl hds hR hL hE ?_; refine jo_l (ly_mf (ovL_cons rfl (ovL_cons rfl ovL_nil))) (hd 6 rfl) ?_; refine jo_nil ?_
  refine ⟨rfl, rfl, rfl, ?_⟩
  intro Γ1 hN1 hL hR1
  replace hd : ∀ d, Nat.blt d 31 = true → d < Γ1.N := fun d h => by rw [hN1]; exact hd d h
  refine jo_nil ?_; refine jc_seq ?_; refine jc_region ?_; refine jo_l (ly_lda agg1028 rfl rfl rfl rfl) (hd 7 rfl) ?_; refine jo_l (ly_lda agg1028 rfl rfl rfl rfl) (hd 8 rfl) ?_; refine jo_h (hy_lit (id := 4) (xs := [.tmp 7, .tmp 8]) el1073 rfl (ovL_cons rfl (ovL_cons rfl ovL_nil)) rfl (all2_of rfl) (by decide) rfl) (hd 9 rfl) ?_; refine jo_frzr 9 (sz := 3) [[V.b s, V.n false .u64 l, V.n false .u64 d], [V.b s2, V.n false .u64 l2, V.n false .u64 d2]] rfl rfl rfl rfl (by simp) (by simp [pureV]) (by decide) hL ?_
  refine jo_call Try.f51 (looked_2 s l d y s2 l2 d2 y2 hy h0 hy2 h02) rfl Try.func51 rfl rfl (ovL_cons rfl ovL_nil) (.cons .l .nil) (hd 10 rfl) ?_ (fun ch hp => by simp at hp)
  rintro y hy; injection hy with hy; subst hy; refine jo_nil ?_; refine jc_seq ?_; refine jc_seq ?_; refine jc_region ?_; refine jo_l (ly_fa fld1028_0 rfl rfl rfl) (hd 11 rfl) ?_; refine jo_l (ly_fa fld30_1 rfl rfl rfl) (hd 12 rfl) ?_; refine jo_l (ly_ld one28 rfl rfl rfl) (hd 13 rfl) ?_
  refine jo_call Try.f66 (hLn) rfl Try.func66 rfl rfl (ovL_cons rfl ovL_nil) (.cons .n .nil) (hd 14 rfl) ?_ (fun ch hp => by simp at hp)
  rintro y hy; injection hy with hy; subst hy; refine jo_l (ly_tt (ly_eq rfl rfl) (by subst hz; rfl)) (hd 15 rfl) ?_; refine jo_nil ?_; refine jc_litt rfl ?_; refine jc_seq ?_; refine jc_region ?_; refine jo_l (ly_build (is := []) (xs := []) (pls := []) zero1028 pls1028_ rfl ovL_nil rfl trivial (all_of rfl) rfl) (hd 16 rfl) ?_; refine jo_st (sy_store rfl rfl rfl siz1028 rfl rfl (Nat.le_of_ble_eq_true rfl)) ?_; refine jo_st (sy_store rfl rfl rfl siz23 rfl rfl (Nat.le_of_ble_eq_true rfl)) ?_; refine jo_nil ?_; refine jc_ret ?_; refine Clo.fin clo_2353 (m := 4) (i := 2) (j := 3) (Nat.le_of_ble_eq_true rfl) rfl rfl rfl rfl ?_
  refine ⟨_, _, (.cons (ResV.cell agg1028 rfl rfl rfl rfl) (.cons (ResV.cell1 one23 rfl rfl rfl) .nil)), (.t1 (.a1 .b (.a1 (.nil (fr := false) (k := .u64)) (.a1 (.nil (fr := false) (k := .u64)) .a0))) (.t1 .i .t0)), ?_⟩
  exact rfl
end Go.Proofs.Ytpldmajdiljoaaa.Vc

/- The contract of surdlaw07.RatioNames. -/
namespace Go.Proofs.Ytpldmajdiljoaaa.Vc
open Go Go.RowKit
set_option maxHeartbeats 4000000 in
theorem lives7_s  : Spec Try.prog 8 [] (fun o => o = .ret (.b true)) := by
  refine spec_of' [] rfl Try.func8 rfl (Nat.le_of_ble_eq_true rfl) fun Γ hN hds hL hR => ?_
  have hd : ∀ d, Nat.blt d 40 = true → d < Γ.N := fun d h => by rw [hN]; exact Nat.le_of_ble_eq_true h
  have hMk : Spec Try.prog 20 [.a [.b false, .n false .u64 [6]], .a [.b true, .n false .u64 [4]]] (fun o => o = .ret (.t [.a [.b true, .n false .u64 [3], .n false .u64 [2]], .i .i64 0])) := by
    have h := QMake_s false true [6] [4] 6 4 (rw_1 (by decide) (by decide)) (rw_1 (by decide) (by decide)) (by decide)
    rwa [show sgq (false != true) 6 = true by decide, show rn0 6 4 = 3 by decide +kernel, show rd0 6 4 = 2 by decide +kernel, lm_1w (by decide) (by decide), lm_1w (by decide) (by decide)] at h
  have hPr : Spec Try.prog 32 [.a [.b true, .n false .u64 [3], .n false .u64 [2]]] (fun o => o = .ret (.t [.s ⟨#[45, 51, 47, 50]⟩, .i .i64 0])) := by
    have h := QPrint_s true [3] [2] 3 2 (rw_1 (by decide) (by decide)) (rw_1 (by decide) (by decide)) (by decide)
    rwa [show rtx (sgq true 3) (rn0 3 2) (rd0 3 2) = ⟨#[45, 51, 47, 50]⟩ by decide +kernel] at h
  have r1 : Rw (lm 1) 1 := Rw.of (x := 1) (by decide +kernel)
  have r0 : Rw (lm 0) 0 := Rw.of (x := 0) (by decide +kernel)
  refine jc_seq ?_; refine jc_region ?_; refine jo_l (ly_as rfl) (hd 0 rfl) ?_; refine jo_nil ?_; refine jc_seq ?_; refine jc_region ?_; refine jo_h (hy_lit (id := 0) (xs := [.const (.int .u64 6)]) el28 rfl (ovL_cons rfl ovL_nil) rfl (all2_of rfl) (by decide) rfl) (hd 8 rfl) ?_; refine jo_frz (k := .u64) (l := [6]) (l' := [6]) 8 rfl rfl (by decide) rfl hL ?_; refine jo_l (ly_build (is := [1]) (xs := [.tmp 8]) zero30 pls30_1 rfl (ovL_cons rfl ovL_nil) rfl (by first | (simp [plsOk, cellsV]; done) | (simp [plsOk, cellsV, old]; done)) (all_of rfl) rfl) (hd 9 rfl) ?_; refine jo_h (hy_lit (id := 1) (xs := [.const (.int .u64 4)]) el28 rfl (ovL_cons rfl ovL_nil) rfl (all2_of rfl) (by decide) rfl) (hd 10 rfl) ?_; refine jo_frz (k := .u64) (l := [4]) (l' := [4]) 10 rfl rfl (by decide) rfl hL ?_; refine jo_l (ly_build (is := [0, 1]) (xs := [.const (.bool true), .tmp 10]) zero30 pls30_0_1 rfl (ovL_cons rfl (ovL_cons rfl ovL_nil)) rfl (by first | (simp [plsOk, cellsV]; done) | (simp [plsOk, cellsV, old]; done)) (all_of rfl) rfl) (hd 11 rfl) ?_
  refine jo_call Try.f20 (hMk) rfl Try.func20 rfl rfl (ovL_cons rfl (ovL_cons rfl ovL_nil)) (.cons (.a1 .b (.a1 .n .a0)) (.cons (.a1 .b (.a1 .n .a0)) .nil)) (hd 12 rfl) ?_ (fun ch hp => by simp at hp)
  rintro y hy; injection hy with hy; subst hy; refine jo_l (ly_mv rfl) (hd 7 rfl) ?_; refine jo_l (ly_ext rfl rfl) (hd 13 rfl) ?_; refine jo_l (ly_ext rfl rfl) (hd 14 rfl) ?_; refine jo_h (hy_alloc (id := 2) zero1028 (by decide) rfl (by decide) rfl) (hd 1 rfl) ?_; refine jo_st (sy_store rfl rfl rfl siz1028 rfl rfl (Nat.le_of_ble_eq_true rfl)) ?_; refine jo_l (ly_as rfl) (hd 2 rfl) ?_; refine jo_nil ?_; refine jc_seq ?_; refine jc_region ?_; refine jo_l (ly_lda agg1028 rfl rfl rfl rfl) (hd 16 rfl) ?_
  refine jo_call Try.f32 (hPr) rfl Try.func32 rfl rfl (ovL_cons rfl ovL_nil) (.cons (.a1 .b (.a1 .n (.a1 .n .a0))) .nil) (hd 17 rfl) ?_ (fun ch hp => by simp at hp)
  rintro y hy; injection hy with hy; subst hy; refine jo_l (ly_mv rfl) (hd 15 rfl) ?_; refine jo_l (ly_ext rfl rfl) (hd 18 rfl) ?_; refine jo_l (ly_ext rfl rfl) (hd 19 rfl) ?_; refine jo_l (ly_as rfl) (hd 3 rfl) ?_; refine jo_l (ly_as rfl) (hd 4 rfl) ?_; refine jo_nil ?_; refine jc_seq ?_; refine jc_region ?_
  refine jo_call Try.f23 (QInt_s 1 (by unfold inI; omega)) rfl Try.func23 rfl rfl (ovL_cons rfl ovL_nil) (.cons .i .nil) (hd 21 rfl) ?_ (fun ch hp => by simp at hp)
  rintro y hy; injection hy with hy; subst hy
  refine jo_call Try.f23 (QInt_s 0 (by unfold inI; omega)) rfl Try.func23 rfl rfl (ovL_cons rfl ovL_nil) (.cons .i .nil) (hd 22 rfl) ?_ (fun ch hp => by simp at hp)
  rintro y hy; injection hy with hy; subst hy
  refine jo_call Try.f29 (QQuo_0 _ _ _ 1 1 r1 r1 _ _ _ 0 1 r0 r1 (by decide) (by decide) rfl) rfl Try.func29 rfl rfl (ovL_cons rfl (ovL_cons rfl ovL_nil)) (.cons (.a1 .b (.a1 .n (.a1 .n .a0))) (.cons (.a1 .b (.a1 .n (.a1 .n .a0))) .nil)) (hd 23 rfl) ?_ (fun ch hp => by simp at hp)
  rintro y hy; injection hy with hy; subst hy; refine jo_l (ly_mv rfl) (hd 20 rfl) ?_; refine jo_l (ly_ext rfl rfl) (hd 24 rfl) ?_; refine jo_l (ly_ext rfl rfl) (hd 25 rfl) ?_; refine jo_h (hy_alloc (id := 3) zero1028 (by decide) rfl (by decide) rfl) (hd 5 rfl) ?_; refine jo_st (sy_store rfl rfl rfl siz1028 rfl rfl (Nat.le_of_ble_eq_true rfl)) ?_; refine jo_l (ly_as rfl) (hd 6 rfl) ?_; refine jo_nil ?_; refine jc_seq ?_; refine jc_region ?_; refine jo_l (ly_mv rfl) (hd 26 rfl) ?_; refine jo_l (ly_tt (ly_eq rfl rfl) rfl) (hd 27 rfl) ?_; refine jo_l (ly_mv rfl) (hd 28 rfl) ?_; refine jo_g 28 rfl rfl (ly_mv rfl) (hd 29 rfl) ?_; refine jo_g 28 rfl rfl (ly_tt (ly_eq rfl rfl) rfl) (hd 30 rfl) ?_; refine jo_l (ly_pick_t rfl rfl) (hd 31 rfl) ?_; refine jo_l (ly_mv rfl) (hd 32 rfl) ?_; refine jo_g 32 rfl rfl (ly_mv rfl) (hd 33 rfl) ?_; refine jo_g 32 rfl rfl (ly_tt (ly_eqS rfl rfl) rfl) (hd 34 rfl) ?_; refine jo_l (ly_pick_t rfl rfl) (hd 35 rfl) ?_; refine jo_l (ly_mv rfl) (hd 36 rfl) ?_; refine jo_g 36 rfl rfl (ly_mv rfl) (hd 37 rfl) ?_; refine jo_g 36 rfl rfl (ly_tt (ly_eq rfl rfl) rfl) (hd 38 rfl) ?_; refine jo_l (ly_pick_t rfl rfl) (hd 39 rfl) ?_; refine jo_l (ly_as rfl) (hd 0 rfl) ?_; refine jo_nil ?_; refine jc_ret ?_
  refine ⟨_, _, (.cons rfl .nil), .b, ?_⟩
  exact rfl

set_option maxHeartbeats 4000000 in
theorem RatioNames_s  : Spec Try.prog 3 [] (fun o => o = .ret (.b true)) := by
  refine spec_of' [] rfl Try.func3 rfl (Nat.le_of_ble_eq_true rfl) fun Γ hN hds hL hR => ?_
  have hd : ∀ d, Nat.blt d 4 = true → d < Γ.N := fun d h => by rw [hN]; exact Nat.le_of_ble_eq_true h
  refine jc_seq ?_; refine jc_region ?_; refine jo_l (ly_as rfl) (hd 0 rfl) ?_; refine jo_nil ?_; refine jc_seq ?_; refine jc_region ?_; refine jo_l (ly_mv rfl) (hd 1 rfl) ?_
  refine jo_callg Try.f8 1 rfl rfl (lives7_s) rfl Try.func8 rfl rfl ovL_nil .nil (hd 2 rfl) ?_ (fun ch hp => by simp at hp)
  rintro y hy; injection hy with hy; subst hy; refine jo_l (ly_pick_t rfl rfl) (hd 3 rfl) ?_; refine jo_l (ly_as rfl) (hd 0 rfl) ?_; refine jo_nil ?_; refine jc_ret ?_
  refine ⟨_, _, (.cons rfl .nil), .b, ?_⟩
  exact rfl
end Go.Proofs.Ytpldmajdiljoaaa.Vc

/- The law RatioNames of every input: it returns true, and the input reads as it did. -/
namespace Go.Proofs.Ytpldmajdiljoaaa.ratioNames
open Go Go.ChangeShapes Go.WideShapes Go.ChangeAt Go.RowKit
open Go.ChangeMaps (open_string shut_string)

theorem own : ownKnob Try.prog.godebug = none := by kernel_rfl
set_option maxRecDepth 100000 in
theorem lifted (os : Os) (started : os.Started) (H : Type) (enc : TypeId × Value → H) :
    ReturnsInHanded {} Try.checked os 3 .any (Rows.ratioNamesSpec.pre6 enc Try.prog Try.f3 Rows.ratioNamesRow.domain false) (Rows.ratioNamesSpec.post enc Try.prog Try.f3 false true false false) := by
  refine returnsInHanded_of_change (C := Try.checked) own started (by kernel_rfl) Try.func3
    (ChangeSpec.witness6 (enc := enc) (C := Try.checked) false ⟨#[], #[], []⟩ 8 (by kernel_rfl) (by kernel_rfl) (by kernel_rfl) (by kernel_rfl)) ?_
  intro W base args ds gs before hval0 hW hcnd _
  have hval : ∀ (j : Nat) t v, Try.f3.params[j]? = some t → args[j]? = some v → Value.okWide Try.prog W .any base t v := hval0
  have hW' := hW
  obtain ⟨p, q, hA0, hV, rfl, hfz, hnd⟩ := hW
  have hA : DataW.TrodAll enc Try.prog W 0 (fun _ => true) true Try.f3.params.toList args.toList ds p := hA0
  rw [Try.params3] at hA hval
  obtain ⟨rfl, rfl, rfl⟩ := trodAll_none hA
  obtain ⟨rfl, rfl⟩ := trodVars_none hV
  clear hA0 hval0
  simp only [List.append_nil] at hW'
  refine (Vc.spec_calls (vals := []) (Vc.RatioNames_s ) W (rfl)).mono fun e W' ⟨he, hb⟩ => ?_; subst he
  exact ⟨_, rfl, Vc.post_of_below (pa := []) (pv := []) hW' (fun _ _ _ => (trodAll_cons_mk (shut_bool Try.underlying4 _) trodAll_mk0)) (fun sp _ => rfl) (fun _ _ => rfl) rfl hb⟩

theorem proved : Rows.RatioNamesSaid :=
  OpenClaim.holds_of_wide 3 Try.f3 rfl rfl rfl rfl rfl rfl rfl ⟨rfl, rfl, rfl, rfl, rfl⟩ rfl rfl rfl rfl rfl (by kernel_rfl) Try.func3 (by kernel_rfl)
    (of_decide_eq_true (by kernel_rfl)) (by unfold Func.isWrapper; first | (rw [if_pos (by decide +kernel)]; kernel_rfl) | (rw [if_neg (by decide +kernel)]; exact ⟨rfl, rfl⟩))
    (fun os started H enc _ => lifted os started H enc)
end Go.Proofs.Ytpldmajdiljoaaa.ratioNames
