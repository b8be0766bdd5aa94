/- RatioField: for every three rationals of bulk at most 1048576 it returns true Texts joined: Xc, Xd, Xe, Xf, Xg, Xh, Xi, Xj, Xja. -/
import Derived.Test.YtpldmajdiljoaaaK7
set_option linter.unusedVariables false
set_option linter.unusedSimpArgs false
/- Contract of ratio.looked. -/
namespace Go.Proofs.Ytpldmajdiljoaaa.Vc
open Go Go.RowKit
set_option maxHeartbeats 4000000 in
theorem looked_g (rs : List (Bool × List Int × List Int)) (hr : ∀ r ∈ rs, r.2.2.length ≤ 1048576 ∧ u64s r.2.2) (hrl : rs.length ≤ 1000) : Spec Try.prog 51 [.l false 3 (rtsV rs)] (fun o => o = lkO 126 rs) := by
  refine spec_of' [(0, .l false 3 (rtsV rs))] rfl Try.func51 rfl (Nat.le_of_ble_eq_true rfl) fun Γ hN hds hL hR => ?_
  have hd : ∀ d, Nat.blt d 17 = true → d < Γ.N := fun d h => by rw [hN]; exact Nat.le_of_ble_eq_true h
  refine jc_seq ?_; refine jc_region ?_; refine jo_l (ly_mv rfl) (hd 4 rfl) ?_; refine jo_l (ly_lenl sl1073 rfl) (hd 5 rfl) ?_; refine jo_l (ly_mv rfl) (hd 6 rfl) ?_; refine jo_nil ?_; refine jc_block ?_
  refine jc_loopD (G := Nat) 0 (fun i => i ≤ rs.length ∧ ∀ j < i, vl (rat0 rs j).2.2 ≠ 0) (fun i => [(6, .i .i64 (i : Int)), (3, .u), (7, .u), (8, .u), (9, .u), (10, .u), (11, .u), (12, .u), (13, .u), (14, .u), (15, .u), (16, .u)]) (fun i => []) (fun i => rs.length - i) 0 ?_ ?_ rfl hR rfl (fun _ _ => rfl) (fun g _ => .nil) ?_
  · exact ⟨Nat.zero_le _, fun j h => absurd h (Nat.not_lt_zero _)⟩
  · exact (.cons rfl (.u (.u (.u (.u (.u (.u (.u (.u (.u (.u (.u .nil))))))))))))
  · rintro i ⟨hi, hj⟩; refine jc_seq ?_; refine jc_region ?_; refine jo_l (ly_lt rfl rfl) (hd 7 rfl) ?_; refine jo_nil ?_; refine jc_seq ?_
    refine jc_if rfl (fun h1 => ?_) (fun h1 => ?_)
    · have hil : i < rs.length := by have h9 : (i : Int) < ((rtsV rs).length : Int) := h1; rw [rtsV_len] at h9; omega
      have hru : (rat0 rs i).2.2.length ≤ 1048576 ∧ u64s (rat0 rs i).2.2 := by have h9 := hr _ (List.getElem_mem hil); unfold rat0; rwa [List.getD_eq_getElem?_getD, List.getElem?_eq_getElem hil]
      have hrv := vl_nonneg hru.2
      have hLn := Length_s (rat0 rs i).2.2 (by omega) hru.2
      rw [lenN_lenV hru.2 rfl] at hLn
      refine jc_skip ?_; refine jc_seq ?_; refine jc_block ?_; refine jc_seq ?_; refine jc_region ?_; refine jo_l (ly_ial (i := i) (row := [V.b (rat0 rs i).1, V.n false .u64 (rat0 rs i).2.1, V.n false .u64 (rat0 rs i).2.2]) sl1073 rfl rfl (by omega) (rtsV_at hil)) (hd 8 rfl) ?_; refine jo_l (ly_ldqa agg1028 rfl rfl rfl) (hd 9 rfl) ?_; refine jo_h (hy_alloc (id := 0) zero1028 (by decide) rfl (by decide) rfl) (hd 3 rfl) ?_; refine jo_st (sy_store rfl rfl rfl siz1028 rfl rfl (Nat.le_of_ble_eq_true rfl)) ?_; refine jo_nil ?_; refine jc_seq ?_; refine jc_region ?_; refine jo_l (ly_fa fld1028_1 rfl rfl rfl) (hd 10 rfl) ?_; refine jo_l (ly_ld one28 rfl rfl rfl) (hd 11 rfl) ?_
      refine jo_call Try.f66 (hLn) rfl Try.func66 rfl rfl (ovL_cons rfl ovL_nil) (.cons .n .nil) (hd 12 rfl) ?_ (fun ch hp => by simp at hp)
      rintro y hy; injection hy with hy; subst hy; refine jo_l (ly_eq rfl rfl) (hd 13 rfl) ?_; refine jo_nil ?_
      refine jc_if rfl (fun h2 => ?_) (fun h2 => ?_)
      · have hz : vl (rat0 rs i).2.2 = 0 := by have h9 : ((lenV (vl (rat0 rs i).2.2) : Nat) : Int) = 0 := h2; have h7 := lenV_zero (x := (vl (rat0 rs i).2.2).toNat); rw [Int.toNat_of_nonneg hrv] at h7; have := h7.1 (by omega); omega
        refine jc_region ?_; refine jo_l (ly_build (is := [0]) (xs := [.const (.int .i64 70)]) zero1126 pls1126_0 rfl (ovL_cons rfl ovL_nil) rfl (by first | (simp [plsOk, cellsV]; done) | (simp [plsOk, cellsV, old]; done)) (all_of rfl) rfl) (hd 14 rfl) ?_; refine jo_l (ly_mi ndi1126 rfl) (hd 15 rfl) ?_; refine jo_panic rfl ?_
        show Out.pan _ = lkO 126 rs
        rw [lkO_n hil hz]
        rfl
      · have hnz : vl (rat0 rs i).2.2 ≠ 0 := fun e => by have h9 : ¬ ((lenV (vl (rat0 rs i).2.2) : Nat) : Int) = 0 := h2; rw [e] at h9; exact h9 rfl
        refine jc_skip ?_; refine jc_region ?_; refine jo_l (ly_add rfl rfl (r := ((i + 1 : Nat) : Int)) (by rw [wrap_i64 (by omega) (by omega)]; omega)) (hd 16 rfl) ?_; refine jo_l (ly_mv rfl) (hd 6 rfl) ?_; refine jo_nil ?_
        refine ⟨i + 1, ?_, ?_, rfl, cov_n 22 rfl rfl ?_⟩
        · exact ⟨by omega, fun j hjj => by rcases Nat.lt_or_ge j i with h9 | h9; exact hj j h9; rw [show j = i by omega]; exact hnz⟩
        · omega
        · exact (.cons rfl (.u (.u (.u (.u (.u (.u (.u (.u (.u (.u (.u .nil))))))))))))
    · obtain rfl : i = rs.length := by have h9 : ¬ (i : Int) < ((rtsV rs).length : Int) := h1; rw [rtsV_len] at h9; omega
      refine jc_exit ?_
      refine ⟨_, _, .nil, .t0, ?_⟩
      rw [lkO_y hj]

theorem looked_1 (s : Bool) (l d : List Int) (y : Nat) (hy : Rw d y) (h0 : y ≠ 0) : Spec Try.prog 51 [.l false 3 [[V.b s, V.n false .u64 l, V.n false .u64 d]]] (fun o => o = .ret (.t [])) := by
  have h := looked_g [(s, l, d)] (fun r hr => by simp only [List.mem_cons, List.mem_nil_iff, or_false] at hr; subst hr; exact ⟨hy.l, hy.u⟩) (by simp)
  have h1 : (vl d ≠ 0) := by rw [hy.v]; omega
  rwa [show lkO 126 [(s, l, d)] = .ret (.t []) by unfold lkO; simp [h1]] at h
theorem looked_2 (s : Bool) (l d : List Int) (y : Nat) (s2 : Bool) (l2 d2 : List Int) (y2 : Nat) (hy : Rw d y) (h0 : y ≠ 0) (hy2 : Rw d2 y2) (h02 : y2 ≠ 0) : Spec Try.prog 51 [.l false 3 [[V.b s, V.n false .u64 l, V.n false .u64 d], [V.b s2, V.n false .u64 l2, V.n false .u64 d2]]] (fun o => o = .ret (.t [])) := by
  have h := looked_g [(s, l, d), (s2, l2, d2)] (fun r hr => by simp only [List.mem_cons, List.mem_nil_iff, or_false] at hr; rcases hr with rfl | rfl; exact ⟨hy.l, hy.u⟩; exact ⟨hy2.l, hy2.u⟩) (by simp)
  have h1 : (vl d ≠ 0) := by rw [hy.v]; omega
  have h2 : (vl d2 ≠ 0) := by rw [hy2.v]; omega
  rwa [show lkO 126 [(s, l, d), (s2, l2, d2)] = .ret (.t []) by unfold lkO; simp [h1, h2]] at h
end Go.Proofs.Ytpldmajdiljoaaa.Vc

/- Contracts of ratio.Norm, Abs, Neg, Sign, Make, Int. -/
namespace Go.Proofs.Ytpldmajdiljoaaa.Vc
open Go Go.RowKit
set_option maxHeartbeats 4000000 in
theorem qsign_s (s : Bool) (l d : List Int) (hl : l.length ≤ 1048576) (hu : u64s l) : Spec Try.prog 52 [(.a [.b s, .n false .u64 l, .n false .u64 d])] (fun o => o = .ret (.i .i64 (sgnI (sv s l)))) := by
  refine spec_of' [(0, (.a [.b s, .n false .u64 l, .n false .u64 d]))] rfl Try.func52 rfl (Nat.le_of_ble_eq_true rfl) fun Γ hN hds hL hR => ?_
  have hd : ∀ d, Nat.blt d 6 = true → d < Γ.N := fun d h => by rw [hN]; exact Nat.le_of_ble_eq_true h
  refine jc_seq ?_; refine jc_region ?_; refine jo_h (hy_box (id := 0) (n := 3) rfl rfl rfl (by decide) rfl) (hd 1 rfl) ?_; refine jo_l (ly_as rfl) (hd 2 rfl) ?_; refine jo_nil ?_; refine jc_seq ?_; refine jc_region ?_; refine jo_l (ly_fa fld1028_0 rfl rfl rfl) (hd 3 rfl) ?_; refine jo_l (ly_lda agg30 rfl rfl rfl rfl) (hd 4 rfl) ?_
  refine jo_call Try.f97 (WSign_s s l (by omega) hu) rfl Try.func97 rfl rfl (ovL_cons rfl ovL_nil) (.cons (.a1 .b (.a1 .n .a0)) .nil) (hd 5 rfl) ?_ (fun ch hp => by simp at hp)
  rintro y hy; injection hy with hy; subst hy; refine jo_l (ly_as rfl) (hd 2 rfl) ?_; refine jo_nil ?_; refine jc_ret ?_
  refine ⟨_, _, (.cons rfl .nil), .i, ?_⟩
  exact rfl

set_option maxHeartbeats 4000000 in
theorem QSign_s (s : Bool) (l d : List Int) (y : Nat) (hl : l.length ≤ 1048576) (hu : u64s l) (hy : Rw d y) (h0 : y ≠ 0) : Spec Try.prog 15 [(.a [.b s, .n false .u64 l, .n false .u64 d])] (fun o => o = .ret (.t [.i .i64 (sgnI (sv s l)), .i .i64 0])) := by
  refine spec_ofD [(0, (.a [.b s, .n false .u64 l, .n false .u64 d]))] rfl Try.func15 rfl (Nat.le_of_ble_eq_true rfl) fun Γ 𝓡 hN hds hL hR hE => ?_
  have hd : ∀ d, Nat.blt d 10 = true → d < Γ.N := fun d h => by rw [hN]; exact Nat.le_of_ble_eq_true h
  refine jcp_seq ?_; refine jc_region ?_; refine jo_h (hy_box (id := 0) (n := 3) rfl rfl rfl (by decide) rfl) (hd 1 rfl) ?_; refine jo_h (hy_alloc (id := 1) zero3 (by decide) rfl (by decide) rfl) (hd 2 rfl) ?_; refine jo_h (hy_alloc (id := 2) zero23 (by decide) rfl (by decide) rfl) (hd 3 rfl) ?_; refine jo_nil ?_; refine jcd_defer (g := 49) (caps := [.p 1 0 0, .p 2 0 0]) 3 [_] (ops := [_, _]) rfl Try.func49 rfl rfl rfl hds hR hL hE ?_; refine jo_l (ly_mf (ovL_cons rfl (ovL_cons rfl ovL_nil))) (hd 4 rfl) ?_; refine jo_nil ?_
  refine ⟨rfl, rfl, rfl, ?_⟩
  intro Γ1 hN1 hL hR1
  replace hd : ∀ d, Nat.blt d 10 = true → d < Γ1.N := fun d h => by rw [hN1]; exact hd d h
  refine jo_nil ?_; refine jc_seq ?_; refine jc_region ?_; refine jo_l (ly_lda agg1028 rfl rfl rfl rfl) (hd 5 rfl) ?_; refine jo_h (hy_lit (id := 3) (xs := [.tmp 5]) el1073 rfl (ovL_cons rfl ovL_nil) rfl (all2_of rfl) (by decide) rfl) (hd 6 rfl) ?_; refine jo_frzr 6 (sz := 3) [[V.b s, V.n false .u64 l, V.n false .u64 d]] rfl rfl rfl rfl (by simp) (by simp [pureV]) (by decide) hL ?_
  refine jo_call Try.f51 (looked_1 s l d y hy h0) rfl Try.func51 rfl rfl (ovL_cons rfl ovL_nil) (.cons .l .nil) (hd 7 rfl) ?_ (fun ch hp => by simp at hp)
  rintro y hy; injection hy with hy; subst hy; refine jo_nil ?_; refine jc_seq ?_; refine jc_region ?_; refine jo_l (ly_lda agg1028 rfl rfl rfl rfl) (hd 8 rfl) ?_
  refine jo_call Try.f52 (qsign_s s l d hl hu) rfl Try.func52 rfl rfl (ovL_cons rfl ovL_nil) (.cons (.a1 .b (.a1 .n (.a1 .n .a0))) .nil) (hd 9 rfl) ?_ (fun ch hp => by simp at hp)
  rintro y hy; injection hy with hy; subst hy; refine jo_st (sy_store rfl rfl rfl siz3 rfl rfl (Nat.le_of_ble_eq_true rfl)) ?_; refine jo_st (sy_store rfl rfl rfl siz23 rfl rfl (Nat.le_of_ble_eq_true rfl)) ?_; refine jo_nil ?_; refine jc_ret ?_; refine Clo.fin clo_2342 (m := 3) (i := 1) (j := 2) (Nat.le_of_ble_eq_true rfl) rfl rfl rfl rfl ?_
  refine ⟨_, _, (.cons (ResV.cell1 one3 rfl rfl rfl) (.cons (ResV.cell1 one23 rfl rfl rfl) .nil)), (.t1 .i (.t1 .i .t0)), ?_⟩
  exact rfl

set_option maxHeartbeats 4000000 in
theorem QMake_s (s t : Bool) (l d : List Int) (x y : Nat) (hx : Rw l x) (hy : Rw d y) (h0 : y ≠ 0) : Spec Try.prog 20 [.a [.b s, .n false .u64 l], .a [.b t, .n false .u64 d]] (fun o => o = .ret (.t [(.a [.b (sgq (s != t) x), .n false .u64 (lm ((rn0 x y : Nat) : Int)), .n false .u64 (lm ((rd0 x y : Nat) : Int))]), .i .i64 0])) := by
  refine spec_ofD [(0, .a [.b s, .n false .u64 l]), (1, .a [.b t, .n false .u64 d])] rfl Try.func20 rfl (Nat.le_of_ble_eq_true rfl) fun Γ 𝓡 hN hds hL hR hE => ?_
  have hd : ∀ d, Nat.blt d 21 = true → d < Γ.N := fun d h => by rw [hN]; exact Nat.le_of_ble_eq_true h
  refine jcp_seq ?_; refine jc_region ?_; refine jo_h (hy_box (id := 0) (n := 2) rfl rfl rfl (by decide) rfl) (hd 2 rfl) ?_; refine jo_h (hy_box (id := 1) (n := 2) rfl rfl rfl (by decide) rfl) (hd 3 rfl) ?_; refine jo_h (hy_alloc (id := 2) zero1028 (by decide) rfl (by decide) rfl) (hd 4 rfl) ?_; refine jo_h (hy_alloc (id := 3) zero23 (by decide) rfl (by decide) rfl) (hd 5 rfl) ?_; refine jo_nil ?_; refine jcd_defer (g := 53) (caps := [.p 2 0 0, .p 3 0 0]) 4 [_] (ops := [_, _]) rfl Try.func53 rfl rfl rfl hds hR hL hE ?_; refine jo_l (ly_mf (ovL_cons rfl (ovL_cons rfl ovL_nil))) (hd 7 rfl) ?_; refine jo_nil ?_
  refine ⟨rfl, rfl, rfl, ?_⟩
  intro Γ1 hN1 hL hR1
  replace hd : ∀ d, Nat.blt d 21 = true → d < Γ1.N := fun d h => by rw [hN1]; exact hd d h
  refine jo_nil ?_; refine jc_seq ?_; refine jc_region ?_; refine jo_l (ly_fa fld30_0 rfl rfl rfl) (hd 8 rfl) ?_; refine jo_l (ly_ld one4 rfl rfl rfl) (hd 9 rfl) ?_; refine jo_l (ly_fa fld30_0 rfl rfl rfl) (hd 10 rfl) ?_; refine jo_l (ly_ld one4 rfl rfl rfl) (hd 11 rfl) ?_; refine jo_l (ly_neb und4 rfl rfl) (hd 12 rfl) ?_; refine jo_l (ly_as rfl) (hd 6 rfl) ?_; refine jo_nil ?_; refine jc_seq ?_; refine jc_region ?_; refine jo_l (ly_mv rfl) (hd 13 rfl) ?_; refine jo_l (ly_fa fld30_1 rfl rfl rfl) (hd 14 rfl) ?_; refine jo_l (ly_ld one28 rfl rfl rfl) (hd 15 rfl) ?_; refine jo_l (ly_build (is := [0, 1]) (xs := [.tmp 13, .tmp 15]) zero30 pls30_0_1 rfl (ovL_cons rfl (ovL_cons rfl ovL_nil)) rfl (by first | (simp [plsOk, cellsV]; done) | (simp [plsOk, cellsV, old]; done)) (all_of rfl) rfl) (hd 16 rfl) ?_; refine jo_l (ly_fa fld30_1 rfl rfl rfl) (hd 17 rfl) ?_; refine jo_l (ly_ld one28 rfl rfl rfl) (hd 18 rfl) ?_; refine jo_l (ly_build (is := [0, 1]) (xs := [.tmp 16, .tmp 18]) zero1028 pls1028_0_1 rfl (ovL_cons rfl (ovL_cons rfl ovL_nil)) rfl ⟨rfl, (by decide), rfl, (by decide), trivial⟩ (all_of rfl) rfl) (hd 19 rfl) ?_
  refine jo_call Try.f44 (qnorm_s _ l d x y hx hy h0) rfl Try.func44 rfl rfl (ovL_cons rfl ovL_nil) (.cons (.a1 .b (.a1 .n (.a1 .n .a0))) .nil) (hd 20 rfl) ?_ (fun ch hp => by simp at hp)
  rintro y hy; injection hy with hy; subst hy; refine jo_st (sy_store rfl rfl rfl siz1028 rfl rfl (Nat.le_of_ble_eq_true rfl)) ?_; refine jo_st (sy_store rfl rfl rfl siz23 rfl rfl (Nat.le_of_ble_eq_true rfl)) ?_; refine jo_nil ?_; refine jc_ret ?_; refine Clo.fin clo_2346 (m := 4) (i := 2) (j := 3) (Nat.le_of_ble_eq_true rfl) rfl rfl rfl rfl ?_
  refine ⟨_, _, (.cons (ResV.cell agg1028 rfl rfl rfl rfl) (.cons (ResV.cell1 one23 rfl rfl rfl) .nil)), (.t1 (.a1 .b (.a1 .n (.a1 .n .a0))) (.t1 .i .t0)), ?_⟩
  exact rfl

set_option maxHeartbeats 4000000 in
theorem QInt_s (v : Int) (hv : inI v) : Spec Try.prog 23 [.i .i64 v] (fun o => o = .ret (.a [.b (decide (v < 0)), .n true .u64 (lm v), .n true .u64 (lm ((1 : Nat) : Int))])) := by
  refine spec_of' [(0, .i .i64 v)] rfl Try.func23 rfl (Nat.le_of_ble_eq_true rfl) fun Γ hN hds hL hR => ?_
  have hd : ∀ d, Nat.blt d 7 = true → d < Γ.N := fun d h => by rw [hN]; exact Nat.le_of_ble_eq_true h
  have hF1 : Spec Try.prog 58 [.i .u64 1] (fun o => o = .ret (.n true .u64 [1])) := by have h := From_s 1; rwa [if_neg (by decide)] at h
  refine jc_seq ?_; refine jc_region ?_; refine jo_h (hy_alloc (id := 0) zero1028 (by decide) rfl (by decide) rfl) (hd 2 rfl) ?_; refine jo_nil ?_; refine jc_seq ?_; refine jc_region ?_; refine jo_l (ly_mv rfl) (hd 3 rfl) ?_
  refine jo_call Try.f57 (Of_v v hv) rfl Try.func57 rfl rfl (ovL_cons rfl ovL_nil) (.cons .i .nil) (hd 4 rfl) ?_ (fun ch hp => by simp at hp)
  rintro y hy; injection hy with hy; subst hy
  refine jo_call Try.f58 (hF1) rfl Try.func58 rfl rfl (ovL_cons rfl ovL_nil) (.cons .i .nil) (hd 5 rfl) ?_ (fun ch hp => by simp at hp)
  rintro y hy; injection hy with hy; subst hy; refine jo_l (ly_build (is := [0, 1]) (xs := [.tmp 4, .tmp 5]) zero1028 pls1028_0_1 rfl (ovL_cons rfl (ovL_cons rfl ovL_nil)) rfl ⟨rfl, (by decide), rfl, (by decide), trivial⟩ (all_of rfl) rfl) (hd 6 rfl) ?_; refine jo_st (sy_store rfl rfl rfl siz1028 rfl rfl (Nat.le_of_ble_eq_true rfl)) ?_; refine jo_nil ?_; refine jc_ret ?_
  refine ⟨_, _, (.cons (ResV.cell agg1028 rfl rfl rfl rfl) .nil), (.a1 .b (.a1 .n (.a1 .n .a0))), ?_⟩
  rw [lm_1n]
end Go.Proofs.Ytpldmajdiljoaaa.Vc

/- Contracts of ratio.Print; Quo by 0. -/
namespace Go.Proofs.Ytpldmajdiljoaaa.Vc
open Go Go.RowKit
set_option maxHeartbeats 4000000 in
theorem QPrint_s (s : Bool) (l d : List Int) (x y : Nat) (hx : Rw l x) (hy : Rw d y) (h0 : y ≠ 0) : Spec Try.prog 32 [(.a [.b s, .n false .u64 l, .n false .u64 d])] (fun o => o = .ret (.t [.s (rtx (sgq s x) (rn0 x y) (rd0 x y)), .i .i64 0])) := by
  refine spec_ofD [(0, (.a [.b s, .n false .u64 l, .n false .u64 d]))] rfl Try.func32 rfl (Nat.le_of_ble_eq_true rfl) fun Γ 𝓡 hN hds hL hR hE => ?_
  have hd : ∀ d, Nat.blt d 38 = true → d < Γ.N := fun d h => by rw [hN]; exact Nat.le_of_ble_eq_true h
  have hbn : lenV ((rn0 x y : Nat) : Int) ≤ 67108864 := rn0_b hx.b
  have hbd : lenV ((rd0 x y : Nat) : Int) ≤ 67108864 := rd0_b hy.b
  have hRn := Rw.of hbn
  have hRd := Rw.of hbd
  have hF1 : Spec Try.prog 58 [.i .u64 1] (fun o => o = .ret (.n true .u64 [1])) := by have h := From_s 1; rwa [if_neg (by decide)] at h
  have hsn := ntx_size _ hbn
  have hsd := ntx_size _ hbd
  have hl1 := hRd.l
  have hPn : Spec Try.prog 85 [.n false .u64 (lm ((rn0 x y : Nat) : Int)), .i .i64 10] (fun o => o = .ret (.t [.s (ntx (rn0 x y)), .i .i64 0])) := by have h := Print_s (lm ((rn0 x y : Nat) : Int)) 10 hRn.l hRn.u (by decide) (by decide); rwa [hRn.v, Int.toNat_natCast] at h
  have hPd : Spec Try.prog 85 [.n false .u64 (lm ((rd0 x y : Nat) : Int)), .i .i64 10] (fun o => o = .ret (.t [.s (ntx (rd0 x y)), .i .i64 0])) := by have h := Print_s (lm ((rd0 x y : Nat) : Int)) 10 hRd.l hRd.u (by decide) (by decide); rwa [hRd.v, Int.toNat_natCast] at h
  have hCp : Spec Try.prog 86 [.n false .u64 (lm ((rd0 x y : Nat) : Int)), .n false .u64 [1]] (fun o => o = .ret (.i .i64 (cmpI ((rd0 x y : Nat) : Int) 1))) := by have h := Compare_v ((rd0 x y : Nat) : Int) ((1 : Nat) : Int) (by omega) (by rw [lm_1n]; decide); rw [lm_1n, Int.natAbs_natCast, Int.natAbs_natCast] at h; exact h
  refine jcp_seq ?_; refine jc_region ?_; refine jo_h (hy_box (id := 0) (n := 3) rfl rfl rfl (by decide) rfl) (hd 1 rfl) ?_; refine jo_h (hy_alloc (id := 1) zero9 (by decide) rfl (by decide) rfl) (hd 2 rfl) ?_; refine jo_h (hy_alloc (id := 2) zero23 (by decide) rfl (by decide) rfl) (hd 3 rfl) ?_; refine jo_nil ?_; refine jcd_defer (g := 82) (caps := [.p 1 0 0, .p 2 0 0]) 3 [_] (ops := [_, _]) rfl Try.func82 rfl rfl rfl hds hR hL hE ?_; refine jo_l (ly_mf (ovL_cons rfl (ovL_cons rfl ovL_nil))) (hd 5 rfl) ?_; refine jo_nil ?_
  refine ⟨rfl, rfl, rfl, ?_⟩
  intro Γ1 hN1 hL hR1
  replace hd : ∀ d, Nat.blt d 38 = true → d < Γ1.N := fun d h => by rw [hN1]; exact hd d h
  refine jo_nil ?_; refine jc_seq ?_; refine jc_region ?_; refine jo_l (ly_lda agg1028 rfl rfl rfl rfl) (hd 6 rfl) ?_; refine jo_h (hy_lit (id := 3) (xs := [.tmp 6]) el1073 rfl (ovL_cons rfl ovL_nil) rfl (all2_of rfl) (by decide) rfl) (hd 7 rfl) ?_; refine jo_frzr 7 (sz := 3) [[V.b s, V.n false .u64 l, V.n false .u64 d]] rfl rfl rfl rfl (by simp) (by simp [pureV]) (by decide) hL ?_
  refine jo_call Try.f51 (looked_1 s l d y hy h0) rfl Try.func51 rfl rfl (ovL_cons rfl ovL_nil) (.cons .l .nil) (hd 8 rfl) ?_ (fun ch hp => by simp at hp)
  rintro y hy; injection hy with hy; subst hy; refine jo_nil ?_; refine jc_seq ?_; refine jc_region ?_; refine jo_l (ly_lda agg1028 rfl rfl rfl rfl) (hd 9 rfl) ?_
  refine jo_call Try.f44 (qnorm_s s l d x y hx hy h0) rfl Try.func44 rfl rfl (ovL_cons rfl ovL_nil) (.cons (.a1 .b (.a1 .n (.a1 .n .a0))) .nil) (hd 10 rfl) ?_ (fun ch hp => by simp at hp)
  rintro y hy; injection hy with hy; subst hy; refine jo_h (hy_alloc (id := 4) zero1028 (by decide) rfl (by decide) rfl) (hd 4 rfl) ?_; refine jo_st (sy_store rfl rfl rfl siz1028 rfl rfl (Nat.le_of_ble_eq_true rfl)) ?_; refine jo_nil ?_; refine jc_seq ?_; refine jc_region ?_; refine jo_l (ly_fa fld1028_0 rfl rfl rfl) (hd 11 rfl) ?_; refine jo_l (ly_fa fld30_1 rfl rfl rfl) (hd 12 rfl) ?_; refine jo_l (ly_ld one28 rfl rfl rfl) (hd 13 rfl) ?_
  refine jo_call Try.f85 (hPn) rfl Try.func85 rfl rfl (ovL_cons rfl (ovL_cons rfl ovL_nil)) (.cons .n (.cons .i .nil)) (hd 14 rfl) ?_ (fun ch hp => by simp at hp)
  rintro y hy; injection hy with hy; subst hy; refine jo_l (ly_ext rfl rfl) (hd 15 rfl) ?_; refine jo_l (ly_ext rfl rfl) (hd 16 rfl) ?_
  refine jo_call Try.f84 (mustS _) rfl Try.func84 rfl rfl (ovL_cons rfl (ovL_cons rfl ovL_nil)) (.cons .s (.cons .i .nil)) (hd 17 rfl) ?_ (fun ch hp => by simp at hp)
  rintro y hy; injection hy with hy; subst hy; refine jo_st (sy_store rfl rfl rfl siz9 rfl rfl (Nat.le_of_ble_eq_true rfl)) ?_; refine jo_nil ?_; refine jc_seq ?_; refine jc_seq ?_; refine jc_region ?_; refine jo_l (ly_fa fld1028_0 rfl rfl rfl) (hd 18 rfl) ?_; refine jo_l (ly_fa fld30_0 rfl rfl rfl) (hd 19 rfl) ?_; refine jo_l (ly_ld one4 rfl rfl rfl) (hd 20 rfl) ?_; refine jo_nil ?_
  refine jc_cond rfl (fun h1 => ?_) (fun h1 => ?_)
  · have hs1 : rtx1 (sgq s x) (rn0 x y) = (⟨#[45]⟩ : ByteArray) ++ ntx (rn0 x y) := by unfold rtx1; rw [if_pos h1]
    refine jc_region ?_; refine jo_l (ly_ld one9 rfl rfl rfl) (hd 21 rfl) ?_; refine jo_l (ly_adds rfl rfl (by show ((1 + _ : Nat) : Int) ≤ 9223372036854775807; omega)) (hd 22 rfl) ?_; refine jo_st (sy_store rfl rfl rfl siz9 rfl rfl (Nat.le_of_ble_eq_true rfl)) ?_; refine jo_nil ?_; refine jc_seq ?_; refine jc_seq ?_; refine jc_nopan ?_; refine jc_draw (n := 5) _ rfl mixed ?_; refine ja_l2 0 [1, 3, 4] (lo_l (ly_fa fld1028_1 rfl rfl rfl) (hd 23 rfl)) rfl (by kernel_rfl) (by kernel_rfl) (by kernel_rfl) (by kernel_rfl) (fun _ _ _ _ h => h) ?_; refine ja_l2 1 [3, 4] (lo_l (ly_ld one28 rfl rfl rfl) (hd 24 rfl)) rfl (by kernel_rfl) (by kernel_rfl) (by kernel_rfl) (by kernel_rfl) (fun _ _ _ _ h => h) ?_
    refine ja_1 2 ?_ rfl (by kernel_rfl)
    refine js_call Try.f58 (hF1) rfl Try.func58 rfl rfl (ovL_cons rfl ovL_nil) (.cons .i .nil) (hd 25 rfl) ?_ (fun ch hp => by simp at hp)
    rintro y hy; injection hy with hy; subst hy
    refine ja_1 3 ?_ rfl (by kernel_rfl)
    refine js_call Try.f86 (hCp) rfl Try.func86 rfl rfl (ovL_cons rfl (ovL_cons rfl ovL_nil)) (.cons .n (.cons .n .nil)) (hd 26 rfl) ?_ (fun ch hp => by simp at hp)
    rintro y hy; injection hy with hy; subst hy; refine ja_l 4 (lo_l (ly_ne rfl rfl) (hd 27 rfl)) rfl (by kernel_rfl) (by kernel_rfl) (by kernel_rfl) (fun _ _ _ _ h => h) ?_; refine ja_nil (by kernel_rfl) ?_
    refine jc_if rfl (fun h2 => ?_) (fun h2 => ?_)
    · have hd1 : rd0 x y ≠ 1 := fun e => h2 (by rw [e]; exact cmpI_0.2 rfl)
      refine jc_nopan ?_; refine jc_draw (n := 10) _ rfl mixed ?_; refine ja_l 0 (lo_l (ly_ld one9 rfl rfl rfl) (hd 28 rfl)) rfl (by kernel_rfl) (by kernel_rfl) (by kernel_rfl) (fun _ _ _ _ h => h) ?_; refine ja_l2 1 [2, 3, 4, 5, 6, 7, 8, 9] (lo_l (ly_fa fld1028_1 rfl rfl rfl) (hd 29 rfl)) rfl (by kernel_rfl) (by kernel_rfl) (by kernel_rfl) (by kernel_rfl) (fun _ _ _ _ h => h) ?_; refine ja_l2 2 [3, 4, 5, 6, 7, 8, 9] (lo_l (ly_ld one28 rfl rfl rfl) (hd 30 rfl)) rfl (by kernel_rfl) (by kernel_rfl) (by kernel_rfl) (by kernel_rfl) (fun _ _ _ _ h => h) ?_
      refine ja_1 3 ?_ rfl (by kernel_rfl)
      refine js_call Try.f85 (hPd) rfl Try.func85 rfl rfl (ovL_cons rfl (ovL_cons rfl ovL_nil)) (.cons .n (.cons .i .nil)) (hd 31 rfl) ?_ (fun ch hp => by simp at hp)
      rintro y hy; injection hy with hy; subst hy; refine ja_l2 4 [6, 7, 8, 9] (lo_l (ly_ext rfl rfl) (hd 32 rfl)) rfl (by kernel_rfl) (by kernel_rfl) (by kernel_rfl) (by kernel_rfl) (fun _ _ _ _ h => h) ?_; refine ja_l2 5 [6, 7, 8, 9] (lo_l (ly_ext rfl rfl) (hd 33 rfl)) rfl (by kernel_rfl) (by kernel_rfl) (by kernel_rfl) (by kernel_rfl) (fun _ _ _ _ h => h) ?_
      refine ja_1 6 ?_ rfl (by kernel_rfl)
      refine js_call Try.f84 (mustS _) rfl Try.func84 rfl rfl (ovL_cons rfl (ovL_cons rfl ovL_nil)) (.cons .s (.cons .i .nil)) (hd 34 rfl) ?_ (fun ch hp => by simp at hp)
      rintro y hy; injection hy with hy; subst hy; refine ja_l 7 (lo_l (ly_adds rfl rfl (by show ((1 + _ : Nat) : Int) ≤ 9223372036854775807; omega)) (hd 35 rfl)) rfl (by kernel_rfl) (by kernel_rfl) (by kernel_rfl) (fun _ _ _ _ h => h) ?_; refine ja_l 8 (lo_l (ly_adds rfl rfl (by simp only [ByteArray.size_append]; show ((_ : Nat) : Int) ≤ 9223372036854775807; simp only [show (⟨#[45]⟩ : ByteArray).size = 1 from rfl, show (⟨#[47]⟩ : ByteArray).size = 1 from rfl]; omega)) (hd 36 rfl)) rfl (by kernel_rfl) (by kernel_rfl) (by kernel_rfl) (fun _ _ _ _ h => h) ?_
      refine ja_1 9 ?_ rfl (by kernel_rfl)
      refine js_st (sy_store rfl rfl rfl siz9 rfl rfl (Nat.le_of_ble_eq_true rfl)) rfl ?_; refine ja_nil (by kernel_rfl) ?_; refine jc_seq ?_; refine jc_region ?_; refine jo_l (ly_ld one9 rfl rfl rfl) (hd 37 rfl) ?_; refine jo_st (sy_store rfl rfl rfl siz9 rfl rfl (Nat.le_of_ble_eq_true rfl)) ?_; refine jo_st (sy_store rfl rfl rfl siz23 rfl rfl (Nat.le_of_ble_eq_true rfl)) ?_; refine jo_nil ?_; refine jc_ret ?_; refine Clo.fin clo_2358 (m := 3) (i := 1) (j := 2) (Nat.le_of_ble_eq_true rfl) rfl rfl rfl rfl ?_
      refine ⟨_, _, (.cons (ResV.cell1 one9 rfl rfl rfl) (.cons (ResV.cell1 one23 rfl rfl rfl) .nil)), (.t1 .s (.t1 .i .t0)), ?_⟩
      show Out.ret _ = Out.ret _
      unfold rtx
      first | rw [if_neg hd1, hs1] | rw [if_pos hd1, hs1]
    · have hd1 : rd0 x y = 1 := by have h9 := cmpI_0.1 (Decidable.not_not.1 h2); omega
      refine jc_skip ?_; refine jc_seq ?_; refine jc_region ?_; refine jo_l (ly_ld one9 rfl rfl rfl) (hd 37 rfl) ?_; refine jo_st (sy_store rfl rfl rfl siz9 rfl rfl (Nat.le_of_ble_eq_true rfl)) ?_; refine jo_st (sy_store rfl rfl rfl siz23 rfl rfl (Nat.le_of_ble_eq_true rfl)) ?_; refine jo_nil ?_; refine jc_ret ?_; refine Clo.fin clo_2358 (m := 3) (i := 1) (j := 2) (Nat.le_of_ble_eq_true rfl) rfl rfl rfl rfl ?_
      refine ⟨_, _, (.cons (ResV.cell1 one9 rfl rfl rfl) (.cons (ResV.cell1 one23 rfl rfl rfl) .nil)), (.t1 .s (.t1 .i .t0)), ?_⟩
      show Out.ret _ = Out.ret _
      unfold rtx
      first | rw [if_neg hd1, hs1] | rw [if_pos hd1, hs1]
  · have hs1 : rtx1 (sgq s x) (rn0 x y) = ntx (rn0 x y) := by unfold rtx1; rw [if_neg (by rw [h1]; decide)]
    refine jc_skip ?_; refine jc_seq ?_; refine jc_seq ?_; refine jc_nopan ?_; refine jc_draw (n := 5) _ rfl mixed ?_; refine ja_l2 0 [1, 3, 4] (lo_l (ly_fa fld1028_1 rfl rfl rfl) (hd 23 rfl)) rfl (by kernel_rfl) (by kernel_rfl) (by kernel_rfl) (by kernel_rfl) (fun _ _ _ _ h => h) ?_; refine ja_l2 1 [3, 4] (lo_l (ly_ld one28 rfl rfl rfl) (hd 24 rfl)) rfl (by kernel_rfl) (by kernel_rfl) (by kernel_rfl) (by kernel_rfl) (fun _ _ _ _ h => h) ?_
    refine ja_1 2 ?_ rfl (by kernel_rfl)
    refine js_call Try.f58 (hF1) rfl Try.func58 rfl rfl (ovL_cons rfl ovL_nil) (.cons .i .nil) (hd 25 rfl) ?_ (fun ch hp => by simp at hp)
    rintro y hy; injection hy with hy; subst hy
    refine ja_1 3 ?_ rfl (by kernel_rfl)
    refine js_call Try.f86 (hCp) rfl Try.func86 rfl rfl (ovL_cons rfl (ovL_cons rfl ovL_nil)) (.cons .n (.cons .n .nil)) (hd 26 rfl) ?_ (fun ch hp => by simp at hp)
    rintro y hy; injection hy with hy; subst hy; refine ja_l 4 (lo_l (ly_ne rfl rfl) (hd 27 rfl)) rfl (by kernel_rfl) (by kernel_rfl) (by kernel_rfl) (fun _ _ _ _ h => h) ?_; refine ja_nil (by kernel_rfl) ?_
    refine jc_if rfl (fun h3 => ?_) (fun h3 => ?_)
    · have hd1 : rd0 x y ≠ 1 := fun e => h3 (by rw [e]; exact cmpI_0.2 rfl)
      refine jc_nopan ?_; refine jc_draw (n := 10) _ rfl mixed ?_; refine ja_l 0 (lo_l (ly_ld one9 rfl rfl rfl) (hd 28 rfl)) rfl (by kernel_rfl) (by kernel_rfl) (by kernel_rfl) (fun _ _ _ _ h => h) ?_; refine ja_l2 1 [2, 3, 4, 5, 6, 7, 8, 9] (lo_l (ly_fa fld1028_1 rfl rfl rfl) (hd 29 rfl)) rfl (by kernel_rfl) (by kernel_rfl) (by kernel_rfl) (by kernel_rfl) (fun _ _ _ _ h => h) ?_; refine ja_l2 2 [3, 4, 5, 6, 7, 8, 9] (lo_l (ly_ld one28 rfl rfl rfl) (hd 30 rfl)) rfl (by kernel_rfl) (by kernel_rfl) (by kernel_rfl) (by kernel_rfl) (fun _ _ _ _ h => h) ?_
      refine ja_1 3 ?_ rfl (by kernel_rfl)
      refine js_call Try.f85 (hPd) rfl Try.func85 rfl rfl (ovL_cons rfl (ovL_cons rfl ovL_nil)) (.cons .n (.cons .i .nil)) (hd 31 rfl) ?_ (fun ch hp => by simp at hp)
      rintro y hy; injection hy with hy; subst hy; refine ja_l2 4 [6, 7, 8, 9] (lo_l (ly_ext rfl rfl) (hd 32 rfl)) rfl (by kernel_rfl) (by kernel_rfl) (by kernel_rfl) (by kernel_rfl) (fun _ _ _ _ h => h) ?_; refine ja_l2 5 [6, 7, 8, 9] (lo_l (ly_ext rfl rfl) (hd 33 rfl)) rfl (by kernel_rfl) (by kernel_rfl) (by kernel_rfl) (by kernel_rfl) (fun _ _ _ _ h => h) ?_
      refine ja_1 6 ?_ rfl (by kernel_rfl)
      refine js_call Try.f84 (mustS _) rfl Try.func84 rfl rfl (ovL_cons rfl (ovL_cons rfl ovL_nil)) (.cons .s (.cons .i .nil)) (hd 34 rfl) ?_ (fun ch hp => by simp at hp)
      rintro y hy; injection hy with hy; subst hy; refine ja_l 7 (lo_l (ly_adds rfl rfl (by show ((1 + _ : Nat) : Int) ≤ 9223372036854775807; omega)) (hd 35 rfl)) rfl (by kernel_rfl) (by kernel_rfl) (by kernel_rfl) (fun _ _ _ _ h => h) ?_; refine ja_l 8 (lo_l (ly_adds rfl rfl (by simp only [ByteArray.size_append]; show ((_ : Nat) : Int) ≤ 9223372036854775807; simp only [show (⟨#[45]⟩ : ByteArray).size = 1 from rfl, show (⟨#[47]⟩ : ByteArray).size = 1 from rfl]; omega)) (hd 36 rfl)) rfl (by kernel_rfl) (by kernel_rfl) (by kernel_rfl) (fun _ _ _ _ h => h) ?_
      refine ja_1 9 ?_ rfl (by kernel_rfl)
      refine js_st (sy_store rfl rfl rfl siz9 rfl rfl (Nat.le_of_ble_eq_true rfl)) rfl ?_; refine ja_nil (by kernel_rfl) ?_; refine jc_seq ?_; refine jc_region ?_; refine jo_l (ly_ld one9 rfl rfl rfl) (hd 37 rfl) ?_; refine jo_st (sy_store rfl rfl rfl siz9 rfl rfl (Nat.le_of_ble_eq_true rfl)) ?_; refine jo_st (sy_store rfl rfl rfl siz23 rfl rfl (Nat.le_of_ble_eq_true rfl)) ?_; refine jo_nil ?_; refine jc_ret ?_; refine Clo.fin clo_2358 (m := 3) (i := 1) (j := 2) (Nat.le_of_ble_eq_true rfl) rfl rfl rfl rfl ?_
      refine ⟨_, _, (.cons (ResV.cell1 one9 rfl rfl rfl) (.cons (ResV.cell1 one23 rfl rfl rfl) .nil)), (.t1 .s (.t1 .i .t0)), ?_⟩
      show Out.ret _ = Out.ret _
      unfold rtx
      first | rw [if_neg hd1, hs1] | rw [if_pos hd1, hs1]
    · have hd1 : rd0 x y = 1 := by have h9 := cmpI_0.1 (Decidable.not_not.1 h3); omega
      refine jc_skip ?_; refine jc_seq ?_; refine jc_region ?_; refine jo_l (ly_ld one9 rfl rfl rfl) (hd 37 rfl) ?_; refine jo_st (sy_store rfl rfl rfl siz9 rfl rfl (Nat.le_of_ble_eq_true rfl)) ?_; refine jo_st (sy_store rfl rfl rfl siz23 rfl rfl (Nat.le_of_ble_eq_true rfl)) ?_; refine jo_nil ?_; refine jc_ret ?_; refine Clo.fin clo_2358 (m := 3) (i := 1) (j := 2) (Nat.le_of_ble_eq_true rfl) rfl rfl rfl rfl ?_
      refine ⟨_, _, (.cons (ResV.cell1 one9 rfl rfl rfl) (.cons (ResV.cell1 one23 rfl rfl rfl) .nil)), (.t1 .s (.t1 .i .t0)), ?_⟩
      show Out.ret _ = Out.ret _
      unfold rtx
      first | rw [if_neg hd1, hs1] | rw [if_pos hd1, hs1]

set_option maxHeartbeats 4000000 in
theorem QQuo_0 (s : Bool) (l d : List Int) (x y : Nat) (hx : Rw l x) (hy : Rw d y) (s2 : Bool) (l2 d2 : List Int) (x2 y2 : Nat) (hx2 : Rw l2 x2) (hy2 : Rw d2 y2) (h0 : y ≠ 0) (h02 : y2 ≠ 0) (hz : x2 = 0) : Spec Try.prog 29 [(.a [.b s, .n false .u64 l, .n false .u64 d]), (.a [.b s2, .n false .u64 l2, .n false .u64 d2])] (fun o => o = .ret (.t [(.a [.b false, .n false .u64 [], .n false .u64 []]), .i .i64 70])) := by
  refine spec_ofD [(0, (.a [.b s, .n false .u64 l, .n false .u64 d])), (1, (.a [.b s2, .n false .u64 l2, .n false .u64 d2]))] rfl Try.func29 rfl (Nat.le_of_ble_eq_true rfl) fun Γ 𝓡 hN hds hL hR hE => ?_
  have hd : ∀ d, Nat.blt d 31 = true → d < Γ.N := fun d h => by rw [hN]; exact Nat.le_of_ble_eq_true h
  have hLn : Spec Try.prog 66 [.n false .u64 l2] (fun o => o = .ret (.i .i64 (lenV (x2 : Int)))) := by have h := Length_s l2 (by have := hx2.l; omega) hx2.u; rwa [hx2.n] at h
  refine jcp_seq ?_; refine jc_region ?_; refine jo_h (hy_box (id := 0) (n := 3) rfl rfl rfl (by decide) rfl) (hd 2 rfl) ?_; refine jo_h (hy_box (id := 1) (n := 3) rfl rfl rfl (by decide) rfl) (hd 3 rfl) ?_; refine jo_h (hy_alloc (id := 2) zero1028 (by decide) rfl (by decide) rfl) (hd 4 rfl) ?_; refine jo_h (hy_alloc (id := 3) zero23 (by decide) rfl (by decide) rfl) (hd 5 rfl) ?_; refine jo_nil ?_; refine jcd_defer (g := 72) (caps := [.p 2 0 0, .p 3 0 0]) 4 [_] (ops := [_, _]) rfl Try.func72 rfl rfl rfl hds hR hL hE ?_; refine jo_l (ly_mf (ovL_cons rfl (ovL_cons rfl ovL_nil))) (hd 6 rfl) ?_; refine jo_nil ?_
  refine ⟨rfl, rfl, rfl, ?_⟩
  intro Γ1 hN1 hL hR1
  replace hd : ∀ d, Nat.blt d 31 = true → d < Γ1.N := fun d h => by rw [hN1]; exact hd d h
  refine jo_nil ?_; refine jc_seq ?_; refine jc_region ?_; refine jo_l (ly_lda agg1028 rfl rfl rfl rfl) (hd 7 rfl) ?_; refine jo_l (ly_lda agg1028 rfl rfl rfl rfl) (hd 8 rfl) ?_; refine jo_h (hy_lit (id := 4) (xs := [.tmp 7, .tmp 8]) el1073 rfl (ovL_cons rfl (ovL_cons rfl ovL_nil)) rfl (all2_of rfl) (by decide) rfl) (hd 9 rfl) ?_; refine jo_frzr 9 (sz := 3) [[V.b s, V.n false .u64 l, V.n false .u64 d], [V.b s2, V.n false .u64 l2, V.n false .u64 d2]] rfl rfl rfl rfl (by simp) (by simp [pureV]) (by decide) hL ?_
  refine jo_call Try.f51 (looked_2 s l d y s2 l2 d2 y2 hy h0 hy2 h02) rfl Try.func51 rfl rfl (ovL_cons rfl ovL_nil) (.cons .l .nil) (hd 10 rfl) ?_ (fun ch hp => by simp at hp)
  rintro y hy; injection hy with hy; subst hy; refine jo_nil ?_; refine jc_seq ?_; refine jc_seq ?_; refine jc_region ?_; refine jo_l (ly_fa fld1028_0 rfl rfl rfl) (hd 11 rfl) ?_; refine jo_l (ly_fa fld30_1 rfl rfl rfl) (hd 12 rfl) ?_; refine jo_l (ly_ld one28 rfl rfl rfl) (hd 13 rfl) ?_
  refine jo_call Try.f66 (hLn) rfl Try.func66 rfl rfl (ovL_cons rfl ovL_nil) (.cons .n .nil) (hd 14 rfl) ?_ (fun ch hp => by simp at hp)
  rintro y hy; injection hy with hy; subst hy; refine jo_l (ly_tt (ly_eq rfl rfl) (by subst hz; rfl)) (hd 15 rfl) ?_; refine jo_nil ?_; refine jc_litt rfl ?_; refine jc_seq ?_; refine jc_region ?_; refine jo_l (ly_build (is := []) (xs := []) (pls := []) zero1028 pls1028_ rfl ovL_nil rfl trivial (all_of rfl) rfl) (hd 16 rfl) ?_; refine jo_st (sy_store rfl rfl rfl siz1028 rfl rfl (Nat.le_of_ble_eq_true rfl)) ?_; refine jo_st (sy_store rfl rfl rfl siz23 rfl rfl (Nat.le_of_ble_eq_true rfl)) ?_; refine jo_nil ?_; refine jc_ret ?_; refine Clo.fin clo_2353 (m := 4) (i := 2) (j := 3) (Nat.le_of_ble_eq_true rfl) rfl rfl rfl rfl ?_
  refine ⟨_, _, (.cons (ResV.cell agg1028 rfl rfl rfl rfl) (.cons (ResV.cell1 one23 rfl rfl rfl) .nil)), (.t1 (.a1 .b (.a1 (.nil (fr := false) (k := .u64)) (.a1 (.nil (fr := false) (k := .u64)) .a0))) (.t1 .i .t0)), ?_⟩
  exact rfl
end Go.Proofs.Ytpldmajdiljoaaa.Vc

/- The contract of surdlaw07.RatioNames. -/
namespace Go.Proofs.Ytpldmajdiljoaaa.Vc
open Go Go.RowKit
set_option maxHeartbeats 4000000 in
theorem lives7_s  : Spec Try.prog 8 [] (fun o => o = .ret (.b true)) := by
  refine spec_of' [] rfl Try.func8 rfl (Nat.le_of_ble_eq_true rfl) fun Γ hN hds hL hR => ?_
  have hd : ∀ d, Nat.blt d 40 = true → d < Γ.N := fun d h => by rw [hN]; exact Nat.le_of_ble_eq_true h
  have hMk : Spec Try.prog 20 [.a [.b false, .n false .u64 [6]], .a [.b true, .n false .u64 [4]]] (fun o => o = .ret (.t [.a [.b true, .n false .u64 [3], .n false .u64 [2]], .i .i64 0])) := by
    have h := QMake_s false true [6] [4] 6 4 (rw_1 (by decide) (by decide)) (rw_1 (by decide) (by decide)) (by decide)
    rwa [show sgq (false != true) 6 = true by decide, show rn0 6 4 = 3 by decide +kernel, show rd0 6 4 = 2 by decide +kernel, lm_1w (by decide) (by decide), lm_1w (by decide) (by decide)] at h
  have hPr : Spec Try.prog 32 [.a [.b true, .n false .u64 [3], .n false .u64 [2]]] (fun o => o = .ret (.t [.s ⟨#[45, 51, 47, 50]⟩, .i .i64 0])) := by
    have h := QPrint_s true [3] [2] 3 2 (rw_1 (by decide) (by decide)) (rw_1 (by decide) (by decide)) (by decide)
    rwa [show rtx (sgq true 3) (rn0 3 2) (rd0 3 2) = ⟨#[45, 51, 47, 50]⟩ by decide +kernel] at h
  have r1 : Rw (lm 1) 1 := Rw.of (x := 1) (by decide +kernel)
  have r0 : Rw (lm 0) 0 := Rw.of (x := 0) (by decide +kernel)
  refine jc_seq ?_; refine jc_region ?_; refine jo_l (ly_as rfl) (hd 0 rfl) ?_; refine jo_nil ?_; refine jc_seq ?_; refine jc_region ?_; refine jo_h (hy_lit (id := 0) (xs := [.const (.int .u64 6)]) el28 rfl (ovL_cons rfl ovL_nil) rfl (all2_of rfl) (by decide) rfl) (hd 8 rfl) ?_; refine jo_frz (k := .u64) (l := [6]) (l' := [6]) 8 rfl rfl (by decide) rfl hL ?_; refine jo_l (ly_build (is := [1]) (xs := [.tmp 8]) zero30 pls30_1 rfl (ovL_cons rfl ovL_nil) rfl (by first | (simp [plsOk, cellsV]; done) | (simp [plsOk, cellsV, old]; done)) (all_of rfl) rfl) (hd 9 rfl) ?_; refine jo_h (hy_lit (id := 1) (xs := [.const (.int .u64 4)]) el28 rfl (ovL_cons rfl ovL_nil) rfl (all2_of rfl) (by decide) rfl) (hd 10 rfl) ?_; refine jo_frz (k := .u64) (l := [4]) (l' := [4]) 10 rfl rfl (by decide) rfl hL ?_; refine jo_l (ly_build (is := [0, 1]) (xs := [.const (.bool true), .tmp 10]) zero30 pls30_0_1 rfl (ovL_cons rfl (ovL_cons rfl ovL_nil)) rfl (by first | (simp [plsOk, cellsV]; done) | (simp [plsOk, cellsV, old]; done)) (all_of rfl) rfl) (hd 11 rfl) ?_
  refine jo_call Try.f20 (hMk) rfl Try.func20 rfl rfl (ovL_cons rfl (ovL_cons rfl ovL_nil)) (.cons (.a1 .b (.a1 .n .a0)) (.cons (.a1 .b (.a1 .n .a0)) .nil)) (hd 12 rfl) ?_ (fun ch hp => by simp at hp)
  rintro y hy; injection hy with hy; subst hy; refine jo_l (ly_mv rfl) (hd 7 rfl) ?_; refine jo_l (ly_ext rfl rfl) (hd 13 rfl) ?_; refine jo_l (ly_ext rfl rfl) (hd 14 rfl) ?_; refine jo_h (hy_alloc (id := 2) zero1028 (by decide) rfl (by decide) rfl) (hd 1 rfl) ?_; refine jo_st (sy_store rfl rfl rfl siz1028 rfl rfl (Nat.le_of_ble_eq_true rfl)) ?_; refine jo_l (ly_as rfl) (hd 2 rfl) ?_; refine jo_nil ?_; refine jc_seq ?_; refine jc_region ?_; refine jo_l (ly_lda agg1028 rfl rfl rfl rfl) (hd 16 rfl) ?_
  refine jo_call Try.f32 (hPr) rfl Try.func32 rfl rfl (ovL_cons rfl ovL_nil) (.cons (.a1 .b (.a1 .n (.a1 .n .a0))) .nil) (hd 17 rfl) ?_ (fun ch hp => by simp at hp)
  rintro y hy; injection hy with hy; subst hy; refine jo_l (ly_mv rfl) (hd 15 rfl) ?_; refine jo_l (ly_ext rfl rfl) (hd 18 rfl) ?_; refine jo_l (ly_ext rfl rfl) (hd 19 rfl) ?_; refine jo_l (ly_as rfl) (hd 3 rfl) ?_; refine jo_l (ly_as rfl) (hd 4 rfl) ?_; refine jo_nil ?_; refine jc_seq ?_; refine jc_region ?_
  refine jo_call Try.f23 (QInt_s 1 (by unfold inI; omega)) rfl Try.func23 rfl rfl (ovL_cons rfl ovL_nil) (.cons .i .nil) (hd 21 rfl) ?_ (fun ch hp => by simp at hp)
  rintro y hy; injection hy with hy; subst hy
  refine jo_call Try.f23 (QInt_s 0 (by unfold inI; omega)) rfl Try.func23 rfl rfl (ovL_cons rfl ovL_nil) (.cons .i .nil) (hd 22 rfl) ?_ (fun ch hp => by simp at hp)
  rintro y hy; injection hy with hy; subst hy
  refine jo_call Try.f29 (QQuo_0 _ _ _ 1 1 r1 r1 _ _ _ 0 1 r0 r1 (by decide) (by decide) rfl) rfl Try.func29 rfl rfl (ovL_cons rfl (ovL_cons rfl ovL_nil)) (.cons (.a1 .b (.a1 .n (.a1 .n .a0))) (.cons (.a1 .b (.a1 .n (.a1 .n .a0))) .nil)) (hd 23 rfl) ?_ (fun ch hp => by simp at hp)
  rintro y hy; injection hy with hy; subst hy; refine jo_l (ly_mv rfl) (hd 20 rfl) ?_; refine jo_l (ly_ext rfl rfl) (hd 24 rfl) ?_; refine jo_l (ly_ext rfl rfl) (hd 25 rfl) ?_; refine jo_h (hy_alloc (id := 3) zero1028 (by decide) rfl (by decide) rfl) (hd 5 rfl) ?_; refine jo_st (sy_store rfl rfl rfl siz1028 rfl rfl (Nat.le_of_ble_eq_true rfl)) ?_; refine jo_l (ly_as rfl) (hd 6 rfl) ?_; refine jo_nil ?_; refine jc_seq ?_; refine jc_region ?_; refine jo_l (ly_mv rfl) (hd 26 rfl) ?_; refine jo_l (ly_tt (ly_eq rfl rfl) rfl) (hd 27 rfl) ?_; refine jo_l (ly_mv rfl) (hd 28 rfl) ?_; refine jo_g 28 rfl rfl (ly_mv rfl) (hd 29 rfl) ?_; refine jo_g 28 rfl rfl (ly_tt (ly_eq rfl rfl) rfl) (hd 30 rfl) ?_; refine jo_l (ly_pick_t rfl rfl) (hd 31 rfl) ?_; refine jo_l (ly_mv rfl) (hd 32 rfl) ?_; refine jo_g 32 rfl rfl (ly_mv rfl) (hd 33 rfl) ?_; refine jo_g 32 rfl rfl (ly_tt (ly_eqS rfl rfl) rfl) (hd 34 rfl) ?_; refine jo_l (ly_pick_t rfl rfl) (hd 35 rfl) ?_; refine jo_l (ly_mv rfl) (hd 36 rfl) ?_; refine jo_g 36 rfl rfl (ly_mv rfl) (hd 37 rfl) ?_; refine jo_g 36 rfl rfl (ly_tt (ly_eq rfl rfl) rfl) (hd 38 rfl) ?_; refine jo_l (ly_pick_t rfl rfl) (hd 39 rfl) ?_; refine jo_l (ly_as rfl) (hd 0 rfl) ?_; refine jo_nil ?_; refine jc_ret ?_
  refine ⟨_, _, (.cons rfl .nil), .b, ?_⟩
  exact rfl

end Go.Proofs.Ytpldmajdiljoaaa.Vc

/- Contract of ratio.Add. -/
namespace Go.Proofs.Ytpldmajdiljoaaa.Vc
open Go Go.RowKit
set_option maxHeartbeats 4000000 in
set_option maxRecDepth 100000 in
theorem QAdd_s (s : Bool) (l d : List Int) (x y : Nat) (hx : Rw l x) (hy : Rw d y) (z : Int) (Y : Nat) (q1 : Qe s x y z Y) (s2 : Bool) (l2 d2 : List Int) (x2 y2 : Nat) (hx2 : Rw l2 x2) (hy2 : Rw d2 y2) (w : Int) (X : Nat) (q2 : Qe s2 x2 y2 w X) (hB : lenV (x : Int) + lenV (y : Int) + lenV (x2 : Int) + lenV (y2 : Int) + 1 ≤ 67108864) : Spec Try.prog 26 [(.a [.b s, .n false .u64 l, .n false .u64 d]), (.a [.b s2, .n false .u64 l2, .n false .u64 d2])] (fun o => o = .ret (.t [(.a [.b (decide ((z * (X : Int) + w * (Y : Int)) < 0)), .n false .u64 (lm ((nn (z * (X : Int) + w * (Y : Int)) (Y * X) : Nat) : Int)), .n false .u64 (lm ((dd (z * (X : Int) + w * (Y : Int)) (Y * X) : Nat) : Int))]), .i .i64 0])) := by
  refine spec_ofD [(0, (.a [.b s, .n false .u64 l, .n false .u64 d])), (1, (.a [.b s2, .n false .u64 l2, .n false .u64 d2]))] rfl Try.func26 rfl (Nat.le_of_ble_eq_true rfl) fun Γ 𝓡 hN hds hL hR hE => ?_
  have hd : ∀ d, Nat.blt d 99 = true → d < Γ.N := fun d h => by rw [hN]; exact Nat.le_of_ble_eq_true h
  have h0 := q1.1
  have h02 := q2.1
  have bN1 : lenV ((rn0 x y : Nat) : Int) ≤ lenV (x : Int) := rn0_b (Nat.le_refl _)
  have bD1 : lenV ((rd0 x y : Nat) : Int) ≤ lenV (y : Int) := rd0_b (Nat.le_refl _)
  have bN2 : lenV ((rn0 x2 y2 : Nat) : Int) ≤ lenV (x2 : Int) := rn0_b (Nat.le_refl _)
  have bD2 : lenV ((rd0 x2 y2 : Nat) : Int) ≤ lenV (y2 : Int) := rd0_b (Nat.le_refl _)
  obtain ⟨g9, eg⟩ : ∃ g9 : Nat, g9 = Nat.gcd (rd0 x y) (rd0 x2 y2) := ⟨_, rfl⟩
  have hG1 : Spec Try.prog 60 [.n false .u64 (lm (((rd0 x y) : Nat) : Int)), .n false .u64 (lm (((rd0 x2 y2) : Nat) : Int))] (fun o => o = .ret (.n false .u64 (lm (g9 : Int)))) := by
    rw [eg]
    have h := Gcd_v (lm (((rd0 x y) : Nat) : Int)) (lm (((rd0 x2 y2) : Nat) : Int)) (rd0 x y) (rd0 x2 y2) (Rw.of (by omega)).l (Rw.of (by omega)).l (lm_u _) (lm_u _) (Rw.of (by omega)).v (Rw.of (by omega)).v
    exact h
  have hg0 : 0 < g9 := by rw [eg]; exact gcd_pos' q2.d0
  have bg : lenV (g9 : Int) ≤ 67108864 := by rw [eg]; exact gcd_b q2.d0 (by omega)
  obtain ⟨p9, ep⟩ : ∃ p9 : Nat, p9 = (rd0 x y) / g9 := ⟨_, rfl⟩
  have hQ1 : Spec Try.prog 62 [.n false .u64 (lm (((rd0 x y) : Nat) : Int)), .n false .u64 (lm (g9 : Int))] (fun o => o = .ret (.t [.n false .u64 (lm (p9 : Int)), .i .i64 0])) := by
    rw [ep]
    have h := Quo_v (((rd0 x y) : Nat) : Int) (g9 : Int) (by omega) bg (by omega)
    rw [qn_nt] at h
    exact h
  obtain ⟨q9, eq9⟩ : ∃ q9 : Nat, q9 = (rd0 x2 y2) / g9 := ⟨_, rfl⟩
  have hQ2 : Spec Try.prog 62 [.n false .u64 (lm (((rd0 x2 y2) : Nat) : Int)), .n false .u64 (lm (g9 : Int))] (fun o => o = .ret (.t [.n false .u64 (lm (q9 : Int)), .i .i64 0])) := by
    rw [eq9]
    have h := Quo_v (((rd0 x2 y2) : Nat) : Int) (g9 : Int) (by omega) bg (by omega)
    rw [qn_nt] at h
    exact h
  have bp : lenV (p9 : Int) ≤ lenV (y : Int) := by rw [ep]; exact Nat.le_trans (lenV_nat (Nat.div_le_self _ _)) bD1
  have bq : lenV (q9 : Int) ≤ lenV (y2 : Int) := by rw [eq9]; exact Nat.le_trans (lenV_nat (Nat.div_le_self _ _)) bD2
  obtain ⟨L9, eL⟩ : ∃ L9 : Int, L9 = zs (sgq s x) (rn0 x y) * (q9 : Int) := ⟨_, rfl⟩
  have beL : lenV L9 ≤ lenV (x : Int) + lenV (y2 : Int) := by rw [eL]; have h9 := lenV_mul (zs (sgq s x) (rn0 x y)) (q9 : Int); rw [lenV_zs] at h9; omega
  have hM1 : Spec Try.prog 64 [.a [.b (sgq s x), .n false .u64 (lm (((rn0 x y) : Nat) : Int))], .a [.b false, .n false .u64 (lm (q9 : Int))]] (fun o => o = .ret (.t [.a [.b (decide (L9 < 0)), .n true .u64 (lm L9)], .i .i64 0])) := by
    have h := WMul_rv (sgq s x) false (lm (((rn0 x y) : Nat) : Int)) (lm (q9 : Int)) (zs (sgq s x) (rn0 x y)) (q9 : Int) (by have := (Rw.of (x := (rn0 x y)) (by omega)).l; omega) (by have := (Rw.of (x := q9) (by omega)).l; omega) (lm_u _) (lm_u _) sv_zs (vl_lm (Int.natCast_nonneg _)) (by rw [← eL]; omega)
    rwa [← eL] at h
  obtain ⟨R9, eR⟩ : ∃ R9 : Int, R9 = zs (sgq s2 x2) (rn0 x2 y2) * (p9 : Int) := ⟨_, rfl⟩
  have beR : lenV R9 ≤ lenV (x2 : Int) + lenV (y : Int) := by rw [eR]; have h9 := lenV_mul (zs (sgq s2 x2) (rn0 x2 y2)) (p9 : Int); rw [lenV_zs] at h9; omega
  have hM2 : Spec Try.prog 64 [.a [.b (sgq s2 x2), .n false .u64 (lm (((rn0 x2 y2) : Nat) : Int))], .a [.b false, .n false .u64 (lm (p9 : Int))]] (fun o => o = .ret (.t [.a [.b (decide (R9 < 0)), .n true .u64 (lm R9)], .i .i64 0])) := by
    have h := WMul_rv (sgq s2 x2) false (lm (((rn0 x2 y2) : Nat) : Int)) (lm (p9 : Int)) (zs (sgq s2 x2) (rn0 x2 y2)) (p9 : Int) (by have := (Rw.of (x := (rn0 x2 y2)) (by omega)).l; omega) (by have := (Rw.of (x := p9) (by omega)).l; omega) (lm_u _) (lm_u _) sv_zs (vl_lm (Int.natCast_nonneg _)) (by rw [← eR]; omega)
    rwa [← eR] at h
  obtain ⟨S9, eS⟩ : ∃ S9 : Int, S9 = L9 + R9 := ⟨_, rfl⟩
  have bS : lenV S9 ≤ 67108864 := by rw [eS]; have h9 := lenV_add L9 R9; omega
  have hA1 : Spec Try.prog 65 [.a [.b (decide (L9 < 0)), .n false .u64 (lm L9)], .a [.b (decide (R9 < 0)), .n false .u64 (lm R9)]] (fun o => o = .ret (.t [.a [.b (decide (S9 < 0)), .n true .u64 (lm S9)], .i .i64 0])) := by
    have h := WAdd_rv (decide (L9 < 0)) (decide (R9 < 0)) (lm L9) (lm R9) L9 R9 (by have := lenV_lm (v := L9) (by omega); omega) (by have := lenV_lm (v := R9) (by omega); omega) (lm_u _) (lm_u _) (sv_lm L9) (sv_lm R9) (by rw [← eS]; exact bS)
    rwa [← eS] at h
  have bSa : lenV ((S9.natAbs : Nat) : Int) ≤ 67108864 := by rw [lenV_abs]; exact bS
  have hlS := lenV_lm bS
  obtain ⟨k9, ek⟩ : ∃ k9 : Nat, k9 = Nat.gcd S9.natAbs g9 := ⟨_, rfl⟩
  have hG2 : Spec Try.prog 60 [.n false .u64 (lm S9), .n false .u64 (lm ((g9 : Nat) : Int))] (fun o => o = .ret (.n false .u64 (lm (k9 : Int)))) := by
    rw [ek]
    have h := Gcd_v (lm ((S9.natAbs : Nat) : Int)) (lm ((g9 : Nat) : Int)) S9.natAbs g9 (Rw.of bSa).l (Rw.of bg).l (lm_u _) (lm_u _) (Rw.of bSa).v (Rw.of bg).v
    rwa [lm_abs] at h
  have hk0 : 0 < k9 := by rw [ek]; exact Nat.gcd_pos_of_pos_right _ hg0
  have bk : lenV (k9 : Int) ≤ 67108864 := by rw [ek]; exact gcd_b (by omega) bg
  obtain ⟨m9, em⟩ : ∃ m9 : Nat, m9 = S9.natAbs / k9 := ⟨_, rfl⟩
  have hQ3 : Spec Try.prog 62 [.n false .u64 (lm S9), .n false .u64 (lm (k9 : Int))] (fun o => o = .ret (.t [.n false .u64 (lm (m9 : Int)), .i .i64 0])) := by
    rw [em]
    have h := Quo_v ((S9.natAbs : Nat) : Int) (k9 : Int) bSa bk (by omega)
    rw [qn_nt, lm_abs] at h
    exact h
  obtain ⟨r9, er⟩ : ∃ r9 : Nat, r9 = (rd0 x2 y2) / k9 := ⟨_, rfl⟩
  have hQ4 : Spec Try.prog 62 [.n false .u64 (lm (((rd0 x2 y2) : Nat) : Int)), .n false .u64 (lm (k9 : Int))] (fun o => o = .ret (.t [.n false .u64 (lm (r9 : Int)), .i .i64 0])) := by
    rw [er]
    have h := Quo_v (((rd0 x2 y2) : Nat) : Int) (k9 : Int) (by omega) bk (by omega)
    rw [qn_nt] at h
    exact h
  have br : lenV (r9 : Int) ≤ lenV (y2 : Int) := by rw [er]; exact Nat.le_trans (lenV_nat (Nat.div_le_self _ _)) bD2
  obtain ⟨t9, et⟩ : ∃ t9 : Nat, t9 = p9 * r9 := ⟨_, rfl⟩
  have hM3 : Spec Try.prog 67 [.n false .u64 (lm (p9 : Int)), .n false .u64 (lm (r9 : Int))] (fun o => o = .ret (.t [.n true .u64 (lm (t9 : Int)), .i .i64 0])) := by
    have hb9 : lenV ((t9 : Nat) : Int) ≤ 67108864 := by rw [et, Int.natCast_mul]; have h9 := lenV_mul (p9 : Int) (r9 : Int); omega
    refine (Mul_l (lm (p9 : Int)) (lm (r9 : Int)) (by have := (Rw.of (x := p9) (by omega)).l; omega) (by have := (Rw.of (x := r9) (by omega)).l; omega) (lm_u _) (lm_u _)).mono fun o ⟨r, e, ho, hr⟩ => ?_
    rw [vl_lm (Int.natCast_nonneg _), vl_lm (Int.natCast_nonneg _), ← Int.natCast_mul, ← et] at hr
    obtain ⟨rfl, rfl⟩ := errL_fit hr hb9
    exact ho
  have hz := add_all q1 q2 (S := S9) (by rw [eS, eL, eR, ep, eq9, eg])
  rw [← eg, ← ek, ← em, ← er, ← ep, ← et] at hz
  obtain ⟨hz1, hz2, hz3, hz4⟩ := hz
  have hW0 : Y * X ≠ 0 := Nat.mul_ne_zero q1.2.1 q2.2.1
  refine jcp_seq ?_; refine jc_region ?_; refine jo_h (hy_box (id := 0) (n := 3) rfl rfl rfl (by decide) rfl) (hd 2 rfl) ?_; refine jo_h (hy_box (id := 1) (n := 3) rfl rfl rfl (by decide) rfl) (hd 3 rfl) ?_; refine jo_h (hy_alloc (id := 2) zero1028 (by decide) rfl (by decide) rfl) (hd 4 rfl) ?_; refine jo_h (hy_alloc (id := 3) zero23 (by decide) rfl (by decide) rfl) (hd 5 rfl) ?_; refine jo_nil ?_; refine jcd_defer (g := 59) (caps := [.p 2 0 0, .p 3 0 0]) 4 [_] (ops := [_, _]) rfl Try.func59 rfl rfl rfl hds hR hL hE ?_; refine jo_l (ly_mf (ovL_cons rfl (ovL_cons rfl ovL_nil))) (hd 15 rfl) ?_; refine jo_nil ?_
  refine ⟨rfl, rfl, rfl, ?_⟩
  intro Γ1 hN1 hL hR1
  replace hd : ∀ d, Nat.blt d 99 = true → d < Γ1.N := fun d h => by rw [hN1]; exact hd d h
  refine jo_nil ?_; refine jc_seq ?_; refine jc_region ?_; refine jo_l (ly_lda agg1028 rfl rfl rfl rfl) (hd 16 rfl) ?_; refine jo_l (ly_lda agg1028 rfl rfl rfl rfl) (hd 17 rfl) ?_; refine jo_h (hy_lit (id := 4) (xs := [.tmp 16, .tmp 17]) el1073 rfl (ovL_cons rfl (ovL_cons rfl ovL_nil)) rfl (all2_of rfl) (by decide) rfl) (hd 18 rfl) ?_; refine jo_frzr 18 (sz := 3) [[V.b s, V.n false .u64 l, V.n false .u64 d], [V.b s2, V.n false .u64 l2, V.n false .u64 d2]] rfl rfl rfl rfl (by simp) (by simp [pureV]) (by decide) hL ?_
  refine jo_call Try.f51 (looked_2 s l d y s2 l2 d2 y2 hy h0 hy2 h02) rfl Try.func51 rfl rfl (ovL_cons rfl ovL_nil) (.cons .l .nil) (hd 19 rfl) ?_ (fun ch hp => by simp at hp)
  rintro y hy; injection hy with hy; subst hy; refine jo_nil ?_; refine jc_seq ?_; refine jc_nopan ?_; refine jc_draw (n := 6) _ rfl mixed ?_; refine ja_l2 0 [1, 3, 4, 5] (lo_l (ly_lda agg1028 rfl rfl rfl rfl) (hd 20 rfl)) rfl (by kernel_rfl) (by kernel_rfl) (by kernel_rfl) (by kernel_rfl) (fun _ _ _ _ h => h) ?_; refine ja_l2 2 [3, 4, 5] (lo_l (ly_lda agg1028 rfl rfl rfl rfl) (hd 22 rfl)) rfl (by kernel_rfl) (by kernel_rfl) (by kernel_rfl) (by kernel_rfl) (fun _ _ _ _ h => h) ?_
  refine ja_1 1 ?_ rfl (by kernel_rfl)
  refine js_call Try.f44 (qnorm_s s l d x y hx hy h0) rfl Try.func44 rfl rfl (ovL_cons rfl ovL_nil) (.cons (.a1 .b (.a1 .n (.a1 .n .a0))) .nil) (hd 21 rfl) ?_ (fun ch hp => by simp at hp)
  rintro y hy; injection hy with hy; subst hy
  refine ja_1 3 ?_ rfl (by kernel_rfl)
  refine js_call Try.f44 (qnorm_s s2 l2 d2 x2 y2 hx2 hy2 h02) rfl Try.func44 rfl rfl (ovL_cons rfl ovL_nil) (.cons (.a1 .b (.a1 .n (.a1 .n .a0))) .nil) (hd 23 rfl) ?_ (fun ch hp => by simp at hp)
  rintro y hy; injection hy with hy; subst hy
  refine ja_1 4 ?_ rfl (by kernel_rfl)
  refine js_st (sy_store rfl rfl rfl siz1028 rfl rfl (Nat.le_of_ble_eq_true rfl)) rfl ?_
  refine ja_1 5 ?_ rfl (by kernel_rfl)
  refine js_st (sy_store rfl rfl rfl siz1028 rfl rfl (Nat.le_of_ble_eq_true rfl)) rfl ?_; refine ja_nil (by kernel_rfl) ?_; refine jc_seq ?_; refine jc_region ?_; refine jo_l (ly_fa fld1028_1 rfl rfl rfl) (hd 24 rfl) ?_; refine jo_l (ly_ld one28 rfl rfl rfl) (hd 25 rfl) ?_; refine jo_l (ly_fa fld1028_1 rfl rfl rfl) (hd 26 rfl) ?_; refine jo_l (ly_ld one28 rfl rfl rfl) (hd 27 rfl) ?_
  refine jo_call Try.f60 (hG1) rfl Try.func60 rfl rfl (ovL_cons rfl (ovL_cons rfl ovL_nil)) (.cons .n (.cons .n .nil)) (hd 28 rfl) ?_ (fun ch hp => by simp at hp)
  rintro y hy; injection hy with hy; subst hy; refine jo_l (ly_as rfl) (hd 6 rfl) ?_; refine jo_nil ?_; refine jc_seq ?_; refine jc_nopan ?_; refine jc_draw (n := 16) _ rfl mixed ?_; refine ja_l2 0 [1, 3, 4, 5, 6, 10, 11, 12, 13, 14, 15] (lo_l (ly_fa fld1028_1 rfl rfl rfl) (hd 29 rfl)) rfl (by kernel_rfl) (by kernel_rfl) (by kernel_rfl) (by kernel_rfl) (fun _ _ _ _ h => h) ?_; refine ja_l2 1 [3, 4, 5, 6, 10, 11, 12, 13, 14, 15] (lo_l (ly_ld one28 rfl rfl rfl) (hd 30 rfl)) rfl (by kernel_rfl) (by kernel_rfl) (by kernel_rfl) (by kernel_rfl) (fun _ _ _ _ h => h) ?_; refine ja_l2 2 [3, 4, 5, 6, 10, 11, 12, 13, 14, 15] (lo_l (ly_mv rfl) (hd 31 rfl)) rfl (by kernel_rfl) (by kernel_rfl) (by kernel_rfl) (by kernel_rfl) (fun _ _ _ _ h => h) ?_; refine ja_l2 7 [8, 10, 11, 12, 13, 14, 15] (lo_l (ly_fa fld1028_1 rfl rfl rfl) (hd 36 rfl)) rfl (by kernel_rfl) (by kernel_rfl) (by kernel_rfl) (by kernel_rfl) (fun _ _ _ _ h => h) ?_; refine ja_l2 8 [10, 11, 12, 13, 14, 15] (lo_l (ly_ld one28 rfl rfl rfl) (hd 37 rfl)) rfl (by kernel_rfl) (by kernel_rfl) (by kernel_rfl) (by kernel_rfl) (fun _ _ _ _ h => h) ?_; refine ja_l2 9 [10, 11, 12, 13, 14, 15] (lo_l (ly_mv rfl) (hd 38 rfl)) rfl (by kernel_rfl) (by kernel_rfl) (by kernel_rfl) (by kernel_rfl) (fun _ _ _ _ h => h) ?_
  refine ja_1 3 ?_ rfl (by kernel_rfl)
  refine js_call Try.f62 (hQ1) rfl Try.func62 rfl rfl (ovL_cons rfl (ovL_cons rfl ovL_nil)) (.cons .n (.cons .n .nil)) (hd 32 rfl) ?_ (fun ch hp => by simp at hp)
  rintro y hy; injection hy with hy; subst hy; refine ja_l2 4 [6, 10, 11, 12, 13, 14, 15] (lo_l (ly_ext rfl rfl) (hd 33 rfl)) rfl (by kernel_rfl) (by kernel_rfl) (by kernel_rfl) (by kernel_rfl) (fun _ _ _ _ h => h) ?_; refine ja_l2 5 [6, 10, 11, 12, 13, 14, 15] (lo_l (ly_ext rfl rfl) (hd 34 rfl)) rfl (by kernel_rfl) (by kernel_rfl) (by kernel_rfl) (by kernel_rfl) (fun _ _ _ _ h => h) ?_
  refine ja_1 6 ?_ rfl (by kernel_rfl)
  refine js_call Try.f61 (mustN _) rfl Try.func61 rfl rfl (ovL_cons rfl (ovL_cons rfl ovL_nil)) (.cons .n (.cons .i .nil)) (hd 35 rfl) ?_ (fun ch hp => by simp at hp)
  rintro y hy; injection hy with hy; subst hy
  refine ja_1 10 ?_ rfl (by kernel_rfl)
  refine js_call Try.f62 (hQ2) rfl Try.func62 rfl rfl (ovL_cons rfl (ovL_cons rfl ovL_nil)) (.cons .n (.cons .n .nil)) (hd 39 rfl) ?_ (fun ch hp => by simp at hp)
  rintro y hy; injection hy with hy; subst hy; refine ja_l2 11 [13, 14, 15] (lo_l (ly_ext rfl rfl) (hd 40 rfl)) rfl (by kernel_rfl) (by kernel_rfl) (by kernel_rfl) (by kernel_rfl) (fun _ _ _ _ h => h) ?_; refine ja_l2 12 [13, 14, 15] (lo_l (ly_ext rfl rfl) (hd 41 rfl)) rfl (by kernel_rfl) (by kernel_rfl) (by kernel_rfl) (by kernel_rfl) (fun _ _ _ _ h => h) ?_
  refine ja_1 13 ?_ rfl (by kernel_rfl)
  refine js_call Try.f61 (mustN _) rfl Try.func61 rfl rfl (ovL_cons rfl (ovL_cons rfl ovL_nil)) (.cons .n (.cons .i .nil)) (hd 42 rfl) ?_ (fun ch hp => by simp at hp)
  rintro y hy; injection hy with hy; subst hy; refine ja_l 14 (lo_l (ly_as rfl) (hd 7 rfl)) rfl (by kernel_rfl) (by kernel_rfl) (by kernel_rfl) (fun _ _ _ _ h => h) ?_; refine ja_l 15 (lo_l (ly_as rfl) (hd 8 rfl)) rfl (by kernel_rfl) (by kernel_rfl) (by kernel_rfl) (fun _ _ _ _ h => h) ?_; refine ja_nil (by kernel_rfl) ?_; refine jc_seq ?_; refine jc_region ?_; refine jo_l (ly_fa fld1028_0 rfl rfl rfl) (hd 43 rfl) ?_; refine jo_l (ly_lda agg30 rfl rfl rfl rfl) (hd 44 rfl) ?_; refine jo_l (ly_mv rfl) (hd 45 rfl) ?_; refine jo_l (ly_build (is := [1]) (xs := [.tmp 45]) zero30 pls30_1 rfl (ovL_cons rfl ovL_nil) rfl (by first | (simp [plsOk, cellsV]; done) | (simp [plsOk, cellsV, old]; done)) (all_of rfl) rfl) (hd 46 rfl) ?_
  refine jo_call Try.f64 (hM1) rfl Try.func64 rfl rfl (ovL_cons rfl (ovL_cons rfl ovL_nil)) (.cons (.a1 .b (.a1 .n .a0)) (.cons (.a1 .b (.a1 .n .a0)) .nil)) (hd 47 rfl) ?_ (fun ch hp => by simp at hp)
  rintro y hy; injection hy with hy; subst hy; refine jo_l (ly_ext rfl rfl) (hd 48 rfl) ?_; refine jo_l (ly_ext rfl rfl) (hd 49 rfl) ?_
  refine jo_call Try.f63 (mustW _ _) rfl Try.func63 rfl rfl (ovL_cons rfl (ovL_cons rfl ovL_nil)) (.cons (.a1 .b (.a1 .n .a0)) (.cons .i .nil)) (hd 50 rfl) ?_ (fun ch hp => by simp at hp)
  rintro y hy; injection hy with hy; subst hy; refine jo_h (hy_alloc (id := 5) zero30 (by decide) rfl (by decide) rfl) (hd 9 rfl) ?_; refine jo_st (sy_store rfl rfl rfl siz30 rfl rfl (Nat.le_of_ble_eq_true rfl)) ?_; refine jo_nil ?_; refine jc_seq ?_; refine jc_region ?_; refine jo_l (ly_fa fld1028_0 rfl rfl rfl) (hd 51 rfl) ?_; refine jo_l (ly_lda agg30 rfl rfl rfl rfl) (hd 52 rfl) ?_; refine jo_l (ly_mv rfl) (hd 53 rfl) ?_; refine jo_l (ly_build (is := [1]) (xs := [.tmp 53]) zero30 pls30_1 rfl (ovL_cons rfl ovL_nil) rfl (by first | (simp [plsOk, cellsV]; done) | (simp [plsOk, cellsV, old]; done)) (all_of rfl) rfl) (hd 54 rfl) ?_
  refine jo_call Try.f64 (hM2) rfl Try.func64 rfl rfl (ovL_cons rfl (ovL_cons rfl ovL_nil)) (.cons (.a1 .b (.a1 .n .a0)) (.cons (.a1 .b (.a1 .n .a0)) .nil)) (hd 55 rfl) ?_ (fun ch hp => by simp at hp)
  rintro y hy; injection hy with hy; subst hy; refine jo_l (ly_ext rfl rfl) (hd 56 rfl) ?_; refine jo_l (ly_ext rfl rfl) (hd 57 rfl) ?_
  refine jo_call Try.f63 (mustW _ _) rfl Try.func63 rfl rfl (ovL_cons rfl (ovL_cons rfl ovL_nil)) (.cons (.a1 .b (.a1 .n .a0)) (.cons .i .nil)) (hd 58 rfl) ?_ (fun ch hp => by simp at hp)
  rintro y hy; injection hy with hy; subst hy; refine jo_h (hy_alloc (id := 6) zero30 (by decide) rfl (by decide) rfl) (hd 10 rfl) ?_; refine jo_st (sy_store rfl rfl rfl siz30 rfl rfl (Nat.le_of_ble_eq_true rfl)) ?_; refine jo_nil ?_; refine jc_seq ?_; refine jc_region ?_; refine jo_l (ly_lda agg30 rfl rfl rfl rfl) (hd 59 rfl) ?_; refine jo_l (ly_lda agg30 rfl rfl rfl rfl) (hd 60 rfl) ?_
  refine jo_call Try.f65 (hA1) rfl Try.func65 rfl rfl (ovL_cons rfl (ovL_cons rfl ovL_nil)) (.cons (.a1 .b (.a1 .n .a0)) (.cons (.a1 .b (.a1 .n .a0)) .nil)) (hd 61 rfl) ?_ (fun ch hp => by simp at hp)
  rintro y hy; injection hy with hy; subst hy; refine jo_l (ly_ext rfl rfl) (hd 62 rfl) ?_; refine jo_l (ly_ext rfl rfl) (hd 63 rfl) ?_
  refine jo_call Try.f63 (mustW _ _) rfl Try.func63 rfl rfl (ovL_cons rfl (ovL_cons rfl ovL_nil)) (.cons (.a1 .b (.a1 .n .a0)) (.cons .i .nil)) (hd 64 rfl) ?_ (fun ch hp => by simp at hp)
  rintro y hy; injection hy with hy; subst hy; refine jo_h (hy_alloc (id := 7) zero30 (by decide) rfl (by decide) rfl) (hd 11 rfl) ?_; refine jo_st (sy_store rfl rfl rfl siz30 rfl rfl (Nat.le_of_ble_eq_true rfl)) ?_; refine jo_nil ?_; refine jc_seq ?_; refine jc_region ?_; refine jo_l (ly_fa fld30_1 rfl rfl rfl) (hd 65 rfl) ?_; refine jo_l (ly_ld one28 rfl rfl rfl) (hd 66 rfl) ?_; refine jo_l (ly_mv rfl) (hd 67 rfl) ?_
  refine jo_call Try.f60 (hG2) rfl Try.func60 rfl rfl (ovL_cons rfl (ovL_cons rfl ovL_nil)) (.cons .n (.cons .n .nil)) (hd 68 rfl) ?_ (fun ch hp => by simp at hp)
  rintro y hy; injection hy with hy; subst hy; refine jo_l (ly_as rfl) (hd 12 rfl) ?_; refine jo_nil ?_; refine jc_seq ?_; refine jc_seq ?_; refine jc_region ?_; refine jo_l (ly_fa fld30_1 rfl rfl rfl) (hd 69 rfl) ?_; refine jo_l (ly_ld one28 rfl rfl rfl) (hd 70 rfl) ?_
  refine jo_call Try.f66 (Length_v S9 (by omega)) rfl Try.func66 rfl rfl (ovL_cons rfl ovL_nil) (.cons .n .nil) (hd 71 rfl) ?_ (fun ch hp => by simp at hp)
  rintro y hy; injection hy with hy; subst hy; refine jo_l (ly_eq rfl rfl) (hd 72 rfl) ?_; refine jo_nil ?_
  refine jc_if rfl (fun h1 => ?_) (fun h1 => ?_)
  · have hS0 : S9 = 0 := by have h9 : ((lenV S9 : Nat) : Int) = 0 := h1; have h7 := lenV_zero (x := S9.natAbs); rw [lenV_abs] at h7; have := h7.1 (by omega); omega
    refine jc_seq ?_; refine jc_region ?_
    refine jo_call Try.f23 (QInt_s 0 (by unfold inI; omega)) rfl Try.func23 rfl rfl (ovL_cons rfl ovL_nil) (.cons .i .nil) (hd 73 rfl) ?_ (fun ch hp => by simp at hp)
    rintro y hy; injection hy with hy; subst hy; refine jo_st (sy_store rfl rfl rfl siz1028 rfl rfl (Nat.le_of_ble_eq_true rfl)) ?_; refine jo_st (sy_store rfl rfl rfl siz23 rfl rfl (Nat.le_of_ble_eq_true rfl)) ?_; refine jo_nil ?_; refine jc_ret ?_; refine Clo.fin clo_2347 (m := 4) (i := 2) (j := 3) (Nat.le_of_ble_eq_true rfl) rfl rfl rfl rfl ?_
    refine ⟨_, _, (.cons (ResV.cell agg1028 rfl rfl rfl rfl) (.cons (ResV.cell1 one23 rfl rfl rfl) .nil)), (.t1 (.a1 .b (.a1 .nn (.a1 .nn .a0))) (.t1 .i .t0)), ?_⟩
    rw [hz4.1 hS0, nn_0, dd_0 hW0]
    rfl
  · refine jc_skip ?_; refine jc_seq ?_; refine jc_region ?_; refine jo_l (ly_fa fld30_1 rfl rfl rfl) (hd 74 rfl) ?_; refine jo_l (ly_ld one28 rfl rfl rfl) (hd 75 rfl) ?_; refine jo_l (ly_mv rfl) (hd 76 rfl) ?_
    refine jo_call Try.f62 (hQ3) rfl Try.func62 rfl rfl (ovL_cons rfl (ovL_cons rfl ovL_nil)) (.cons .n (.cons .n .nil)) (hd 77 rfl) ?_ (fun ch hp => by simp at hp)
    rintro y hy; injection hy with hy; subst hy; refine jo_l (ly_ext rfl rfl) (hd 78 rfl) ?_; refine jo_l (ly_ext rfl rfl) (hd 79 rfl) ?_
    refine jo_call Try.f61 (mustN _) rfl Try.func61 rfl rfl (ovL_cons rfl (ovL_cons rfl ovL_nil)) (.cons .n (.cons .i .nil)) (hd 80 rfl) ?_ (fun ch hp => by simp at hp)
    rintro y hy; injection hy with hy; subst hy; refine jo_l (ly_as rfl) (hd 13 rfl) ?_; refine jo_nil ?_; refine jc_seq ?_; refine jc_region ?_; refine jo_l (ly_mv rfl) (hd 81 rfl) ?_; refine jo_l (ly_fa fld1028_1 rfl rfl rfl) (hd 82 rfl) ?_; refine jo_l (ly_ld one28 rfl rfl rfl) (hd 83 rfl) ?_; refine jo_l (ly_mv rfl) (hd 84 rfl) ?_
    refine jo_call Try.f62 (hQ4) rfl Try.func62 rfl rfl (ovL_cons rfl (ovL_cons rfl ovL_nil)) (.cons .n (.cons .n .nil)) (hd 85 rfl) ?_ (fun ch hp => by simp at hp)
    rintro y hy; injection hy with hy; subst hy; refine jo_l (ly_ext rfl rfl) (hd 86 rfl) ?_; refine jo_l (ly_ext rfl rfl) (hd 87 rfl) ?_
    refine jo_call Try.f61 (mustN _) rfl Try.func61 rfl rfl (ovL_cons rfl (ovL_cons rfl ovL_nil)) (.cons .n (.cons .i .nil)) (hd 88 rfl) ?_ (fun ch hp => by simp at hp)
    rintro y hy; injection hy with hy; subst hy
    refine jo_call Try.f67 (hM3) rfl Try.func67 rfl rfl (ovL_cons rfl (ovL_cons rfl ovL_nil)) (.cons .n (.cons .n .nil)) (hd 89 rfl) ?_ (fun ch hp => by simp at hp)
    rintro y hy; injection hy with hy; subst hy; refine jo_l (ly_ext rfl rfl) (hd 90 rfl) ?_; refine jo_l (ly_ext rfl rfl) (hd 91 rfl) ?_
    refine jo_call Try.f61 (mustN _) rfl Try.func61 rfl rfl (ovL_cons rfl (ovL_cons rfl ovL_nil)) (.cons .n (.cons .i .nil)) (hd 92 rfl) ?_ (fun ch hp => by simp at hp)
    rintro y hy; injection hy with hy; subst hy; refine jo_l (ly_as rfl) (hd 14 rfl) ?_; refine jo_nil ?_; refine jc_seq ?_; refine jc_region ?_; refine jo_l (ly_fa fld30_0 rfl rfl rfl) (hd 93 rfl) ?_; refine jo_l (ly_ld one4 rfl rfl rfl) (hd 94 rfl) ?_; refine jo_l (ly_mv rfl) (hd 95 rfl) ?_; refine jo_l (ly_build (is := [0, 1]) (xs := [.tmp 94, .tmp 95]) zero30 pls30_0_1 rfl (ovL_cons rfl (ovL_cons rfl ovL_nil)) rfl (by first | (simp [plsOk, cellsV]; done) | (simp [plsOk, cellsV, old]; done)) (all_of rfl) rfl) (hd 96 rfl) ?_; refine jo_l (ly_mv rfl) (hd 97 rfl) ?_; refine jo_l (ly_build (is := [0, 1]) (xs := [.tmp 96, .tmp 97]) zero1028 pls1028_0_1 rfl (ovL_cons rfl (ovL_cons rfl ovL_nil)) rfl ⟨rfl, (by decide), rfl, (by decide), trivial⟩ (all_of rfl) rfl) (hd 98 rfl) ?_; refine jo_st (sy_store rfl rfl rfl siz1028 rfl rfl (Nat.le_of_ble_eq_true rfl)) ?_; refine jo_st (sy_store rfl rfl rfl siz23 rfl rfl (Nat.le_of_ble_eq_true rfl)) ?_; refine jo_nil ?_; refine jc_ret ?_; refine Clo.fin clo_2347 (m := 4) (i := 2) (j := 3) (Nat.le_of_ble_eq_true rfl) rfl rfl rfl rfl ?_
    refine ⟨_, _, (.cons (ResV.cell agg1028 rfl rfl rfl rfl) (.cons (ResV.cell1 one23 rfl rfl rfl) .nil)), (.t1 (.a1 .b (.a1 .nn (.a1 .nn .a0))) (.t1 .i .t0)), ?_⟩
    rw [← hz1, ← hz2, ← hz3]
end Go.Proofs.Ytpldmajdiljoaaa.Vc

/- Contract of ratio.Mul. -/
namespace Go.Proofs.Ytpldmajdiljoaaa.Vc
open Go Go.RowKit
set_option maxHeartbeats 4000000 in
theorem QMul_0a (s : Bool) (l d : List Int) (x y : Nat) (hx : Rw l x) (hy : Rw d y) (z : Int) (Y : Nat) (q1 : Qe s x y z Y) (s2 : Bool) (l2 d2 : List Int) (x2 y2 : Nat) (hx2 : Rw l2 x2) (hy2 : Rw d2 y2) (w : Int) (X : Nat) (q2 : Qe s2 x2 y2 w X) (hB : lenV (x : Int) + lenV (y : Int) + lenV (x2 : Int) + lenV (y2 : Int) ≤ 67108864) (hx0 : x = 0) : Spec Try.prog 27 [(.a [.b s, .n false .u64 l, .n false .u64 d]), (.a [.b s2, .n false .u64 l2, .n false .u64 d2])] (fun o => o = .ret (.t [(.a [.b (decide ((z * w) < 0)), .n false .u64 (lm ((nn (z * w) (Y * X) : Nat) : Int)), .n false .u64 (lm ((dd (z * w) (Y * X) : Nat) : Int))]), .i .i64 0])) := by
  refine spec_ofD [(0, (.a [.b s, .n false .u64 l, .n false .u64 d])), (1, (.a [.b s2, .n false .u64 l2, .n false .u64 d2]))] rfl Try.func27 rfl (Nat.le_of_ble_eq_true rfl) fun Γ 𝓡 hN hds hL hR hE => ?_
  have hd : ∀ d, Nat.blt d 93 = true → d < Γ.N := fun d h => by rw [hN]; exact Nat.le_of_ble_eq_true h
  have h0 := q1.1
  have h02 := q2.1
  have hlx : (lm ((rn0 x y : Nat) : Int)).length = 0 ↔ x = 0 := lm_len0.trans rn0_eq0
  have hlx2 : (lm ((rn0 x2 y2 : Nat) : Int)).length = 0 ↔ x2 = 0 := lm_len0.trans rn0_eq0
  have hW0 : Y * X ≠ 0 := Nat.mul_ne_zero q1.2.1 q2.2.1
  have hz0 : z * w = 0 := by rw [q1.z0.1 hx0, Int.zero_mul]
  refine jcp_seq ?_; refine jc_region ?_; refine jo_h (hy_box (id := 0) (n := 3) rfl rfl rfl (by decide) rfl) (hd 2 rfl) ?_; refine jo_h (hy_box (id := 1) (n := 3) rfl rfl rfl (by decide) rfl) (hd 3 rfl) ?_; refine jo_h (hy_alloc (id := 2) zero1028 (by decide) rfl (by decide) rfl) (hd 4 rfl) ?_; refine jo_h (hy_alloc (id := 3) zero23 (by decide) rfl (by decide) rfl) (hd 5 rfl) ?_; refine jo_nil ?_; refine jcd_defer (g := 68) (caps := [.p 2 0 0, .p 3 0 0]) 4 [_] (ops := [_, _]) rfl Try.func68 rfl rfl rfl hds hR hL hE ?_; refine jo_l (ly_mf (ovL_cons rfl (ovL_cons rfl ovL_nil))) (hd 10 rfl) ?_; refine jo_nil ?_
  refine ⟨rfl, rfl, rfl, ?_⟩
  intro Γ1 hN1 hL hR1
  replace hd : ∀ d, Nat.blt d 93 = true → d < Γ1.N := fun d h => by rw [hN1]; exact hd d h
  refine jo_nil ?_; refine jc_seq ?_; refine jc_region ?_; refine jo_l (ly_lda agg1028 rfl rfl rfl rfl) (hd 11 rfl) ?_; refine jo_l (ly_lda agg1028 rfl rfl rfl rfl) (hd 12 rfl) ?_; refine jo_h (hy_lit (id := 4) (xs := [.tmp 11, .tmp 12]) el1073 rfl (ovL_cons rfl (ovL_cons rfl ovL_nil)) rfl (all2_of rfl) (by decide) rfl) (hd 13 rfl) ?_; refine jo_frzr 13 (sz := 3) [[V.b s, V.n false .u64 l, V.n false .u64 d], [V.b s2, V.n false .u64 l2, V.n false .u64 d2]] rfl rfl rfl rfl (by simp) (by simp [pureV]) (by decide) hL ?_
  refine jo_call Try.f51 (looked_2 s l d y s2 l2 d2 y2 hy h0 hy2 h02) rfl Try.func51 rfl rfl (ovL_cons rfl ovL_nil) (.cons .l .nil) (hd 14 rfl) ?_ (fun ch hp => by simp at hp)
  rintro y hy; injection hy with hy; subst hy; refine jo_nil ?_; refine jc_seq ?_; refine jc_nopan ?_; refine jc_draw (n := 6) _ rfl mixed ?_; refine ja_l2 0 [1, 3, 4, 5] (lo_l (ly_lda agg1028 rfl rfl rfl rfl) (hd 15 rfl)) rfl (by kernel_rfl) (by kernel_rfl) (by kernel_rfl) (by kernel_rfl) (fun _ _ _ _ h => h) ?_; refine ja_l2 2 [3, 4, 5] (lo_l (ly_lda agg1028 rfl rfl rfl rfl) (hd 17 rfl)) rfl (by kernel_rfl) (by kernel_rfl) (by kernel_rfl) (by kernel_rfl) (fun _ _ _ _ h => h) ?_
  refine ja_1 1 ?_ rfl (by kernel_rfl)
  refine js_call Try.f44 (qnorm_s s l d x y hx hy h0) rfl Try.func44 rfl rfl (ovL_cons rfl ovL_nil) (.cons (.a1 .b (.a1 .n (.a1 .n .a0))) .nil) (hd 16 rfl) ?_ (fun ch hp => by simp at hp)
  rintro y hy; injection hy with hy; subst hy
  refine ja_1 3 ?_ rfl (by kernel_rfl)
  refine js_call Try.f44 (qnorm_s s2 l2 d2 x2 y2 hx2 hy2 h02) rfl Try.func44 rfl rfl (ovL_cons rfl ovL_nil) (.cons (.a1 .b (.a1 .n (.a1 .n .a0))) .nil) (hd 18 rfl) ?_ (fun ch hp => by simp at hp)
  rintro y hy; injection hy with hy; subst hy
  refine ja_1 4 ?_ rfl (by kernel_rfl)
  refine js_st (sy_store rfl rfl rfl siz1028 rfl rfl (Nat.le_of_ble_eq_true rfl)) rfl ?_
  refine ja_1 5 ?_ rfl (by kernel_rfl)
  refine js_st (sy_store rfl rfl rfl siz1028 rfl rfl (Nat.le_of_ble_eq_true rfl)) rfl ?_; refine ja_nil (by kernel_rfl) ?_; refine jc_seq ?_; refine jc_seq ?_; refine jc_region ?_; refine jo_l (ly_fa fld1028_0 rfl rfl rfl) (hd 19 rfl) ?_; refine jo_l (ly_fa fld30_1 rfl rfl rfl) (hd 20 rfl) ?_; refine jo_l (ly_ld one28 rfl rfl rfl) (hd 21 rfl) ?_; refine jo_l (ly_lenn sl28 rfl) (hd 22 rfl) ?_; refine jo_l (ly_tt (ly_eq rfl rfl) (by omega)) (hd 23 rfl) ?_; refine jo_l (ly_mv rfl) (hd 24 rfl) ?_; refine jo_s 24 rfl rfl rfl (hd 25 rfl) ?_; refine jo_s 24 rfl rfl rfl (hd 26 rfl) ?_; refine jo_s 24 rfl rfl rfl (hd 27 rfl) ?_; refine jo_s 24 rfl rfl rfl (hd 28 rfl) ?_; refine jo_s 24 rfl rfl rfl (hd 29 rfl) ?_; refine jo_l (ly_pick_t rfl rfl) (hd 30 rfl) ?_; refine jo_nil ?_; refine jc_litt rfl ?_; refine jc_seq ?_; refine jc_region ?_
  refine jo_call Try.f23 (QInt_s 0 (by unfold inI; omega)) rfl Try.func23 rfl rfl (ovL_cons rfl ovL_nil) (.cons .i .nil) (hd 31 rfl) ?_ (fun ch hp => by simp at hp)
  rintro y hy; injection hy with hy; subst hy; refine jo_st (sy_store rfl rfl rfl siz1028 rfl rfl (Nat.le_of_ble_eq_true rfl)) ?_; refine jo_st (sy_store rfl rfl rfl siz23 rfl rfl (Nat.le_of_ble_eq_true rfl)) ?_; refine jo_nil ?_; refine jc_ret ?_; refine Clo.fin clo_2350 (m := 4) (i := 2) (j := 3) (Nat.le_of_ble_eq_true rfl) rfl rfl rfl rfl ?_
  refine ⟨_, _, (.cons (ResV.cell agg1028 rfl rfl rfl rfl) (.cons (ResV.cell1 one23 rfl rfl rfl) .nil)), (.t1 (.a1 .b (.a1 .nn (.a1 .nn .a0))) (.t1 .i .t0)), ?_⟩
  rw [hz0, nn_0, dd_0 hW0]
  rfl

set_option maxHeartbeats 4000000 in
theorem QMul_0b (s : Bool) (l d : List Int) (x y : Nat) (hx : Rw l x) (hy : Rw d y) (z : Int) (Y : Nat) (q1 : Qe s x y z Y) (s2 : Bool) (l2 d2 : List Int) (x2 y2 : Nat) (hx2 : Rw l2 x2) (hy2 : Rw d2 y2) (w : Int) (X : Nat) (q2 : Qe s2 x2 y2 w X) (hB : lenV (x : Int) + lenV (y : Int) + lenV (x2 : Int) + lenV (y2 : Int) ≤ 67108864) (hx0 : x ≠ 0) (hx20 : x2 = 0) : Spec Try.prog 27 [(.a [.b s, .n false .u64 l, .n false .u64 d]), (.a [.b s2, .n false .u64 l2, .n false .u64 d2])] (fun o => o = .ret (.t [(.a [.b (decide ((z * w) < 0)), .n false .u64 (lm ((nn (z * w) (Y * X) : Nat) : Int)), .n false .u64 (lm ((dd (z * w) (Y * X) : Nat) : Int))]), .i .i64 0])) := by
  refine spec_ofD [(0, (.a [.b s, .n false .u64 l, .n false .u64 d])), (1, (.a [.b s2, .n false .u64 l2, .n false .u64 d2]))] rfl Try.func27 rfl (Nat.le_of_ble_eq_true rfl) fun Γ 𝓡 hN hds hL hR hE => ?_
  have hd : ∀ d, Nat.blt d 93 = true → d < Γ.N := fun d h => by rw [hN]; exact Nat.le_of_ble_eq_true h
  have h0 := q1.1
  have h02 := q2.1
  have hlx : (lm ((rn0 x y : Nat) : Int)).length = 0 ↔ x = 0 := lm_len0.trans rn0_eq0
  have hlx2 : (lm ((rn0 x2 y2 : Nat) : Int)).length = 0 ↔ x2 = 0 := lm_len0.trans rn0_eq0
  have hW0 : Y * X ≠ 0 := Nat.mul_ne_zero q1.2.1 q2.2.1
  have hz0 : z * w = 0 := by rw [q2.z0.1 hx20, Int.mul_zero]
  refine jcp_seq ?_; refine jc_region ?_; refine jo_h (hy_box (id := 0) (n := 3) rfl rfl rfl (by decide) rfl) (hd 2 rfl) ?_; refine jo_h (hy_box (id := 1) (n := 3) rfl rfl rfl (by decide) rfl) (hd 3 rfl) ?_; refine jo_h (hy_alloc (id := 2) zero1028 (by decide) rfl (by decide) rfl) (hd 4 rfl) ?_; refine jo_h (hy_alloc (id := 3) zero23 (by decide) rfl (by decide) rfl) (hd 5 rfl) ?_; refine jo_nil ?_; refine jcd_defer (g := 68) (caps := [.p 2 0 0, .p 3 0 0]) 4 [_] (ops := [_, _]) rfl Try.func68 rfl rfl rfl hds hR hL hE ?_; refine jo_l (ly_mf (ovL_cons rfl (ovL_cons rfl ovL_nil))) (hd 10 rfl) ?_; refine jo_nil ?_
  refine ⟨rfl, rfl, rfl, ?_⟩
  intro Γ1 hN1 hL hR1
  replace hd : ∀ d, Nat.blt d 93 = true → d < Γ1.N := fun d h => by rw [hN1]; exact hd d h
  refine jo_nil ?_; refine jc_seq ?_; refine jc_region ?_; refine jo_l (ly_lda agg1028 rfl rfl rfl rfl) (hd 11 rfl) ?_; refine jo_l (ly_lda agg1028 rfl rfl rfl rfl) (hd 12 rfl) ?_; refine jo_h (hy_lit (id := 4) (xs := [.tmp 11, .tmp 12]) el1073 rfl (ovL_cons rfl (ovL_cons rfl ovL_nil)) rfl (all2_of rfl) (by decide) rfl) (hd 13 rfl) ?_; refine jo_frzr 13 (sz := 3) [[V.b s, V.n false .u64 l, V.n false .u64 d], [V.b s2, V.n false .u64 l2, V.n false .u64 d2]] rfl rfl rfl rfl (by simp) (by simp [pureV]) (by decide) hL ?_
  refine jo_call Try.f51 (looked_2 s l d y s2 l2 d2 y2 hy h0 hy2 h02) rfl Try.func51 rfl rfl (ovL_cons rfl ovL_nil) (.cons .l .nil) (hd 14 rfl) ?_ (fun ch hp => by simp at hp)
  rintro y hy; injection hy with hy; subst hy; refine jo_nil ?_; refine jc_seq ?_; refine jc_nopan ?_; refine jc_draw (n := 6) _ rfl mixed ?_; refine ja_l2 0 [1, 3, 4, 5] (lo_l (ly_lda agg1028 rfl rfl rfl rfl) (hd 15 rfl)) rfl (by kernel_rfl) (by kernel_rfl) (by kernel_rfl) (by kernel_rfl) (fun _ _ _ _ h => h) ?_; refine ja_l2 2 [3, 4, 5] (lo_l (ly_lda agg1028 rfl rfl rfl rfl) (hd 17 rfl)) rfl (by kernel_rfl) (by kernel_rfl) (by kernel_rfl) (by kernel_rfl) (fun _ _ _ _ h => h) ?_
  refine ja_1 1 ?_ rfl (by kernel_rfl)
  refine js_call Try.f44 (qnorm_s s l d x y hx hy h0) rfl Try.func44 rfl rfl (ovL_cons rfl ovL_nil) (.cons (.a1 .b (.a1 .n (.a1 .n .a0))) .nil) (hd 16 rfl) ?_ (fun ch hp => by simp at hp)
  rintro y hy; injection hy with hy; subst hy
  refine ja_1 3 ?_ rfl (by kernel_rfl)
  refine js_call Try.f44 (qnorm_s s2 l2 d2 x2 y2 hx2 hy2 h02) rfl Try.func44 rfl rfl (ovL_cons rfl ovL_nil) (.cons (.a1 .b (.a1 .n (.a1 .n .a0))) .nil) (hd 18 rfl) ?_ (fun ch hp => by simp at hp)
  rintro y hy; injection hy with hy; subst hy
  refine ja_1 4 ?_ rfl (by kernel_rfl)
  refine js_st (sy_store rfl rfl rfl siz1028 rfl rfl (Nat.le_of_ble_eq_true rfl)) rfl ?_
  refine ja_1 5 ?_ rfl (by kernel_rfl)
  refine js_st (sy_store rfl rfl rfl siz1028 rfl rfl (Nat.le_of_ble_eq_true rfl)) rfl ?_; refine ja_nil (by kernel_rfl) ?_; refine jc_seq ?_; refine jc_seq ?_; refine jc_region ?_; refine jo_l (ly_fa fld1028_0 rfl rfl rfl) (hd 19 rfl) ?_; refine jo_l (ly_fa fld30_1 rfl rfl rfl) (hd 20 rfl) ?_; refine jo_l (ly_ld one28 rfl rfl rfl) (hd 21 rfl) ?_; refine jo_l (ly_lenn sl28 rfl) (hd 22 rfl) ?_; refine jo_l (ly_ff (ly_eq rfl rfl) (by omega)) (hd 23 rfl) ?_; refine jo_l (ly_mv rfl) (hd 24 rfl) ?_; refine jo_g 24 rfl rfl (ly_fa fld1028_0 rfl rfl rfl) (hd 25 rfl) ?_; refine jo_g 24 rfl rfl (ly_fa fld30_1 rfl rfl rfl) (hd 26 rfl) ?_; refine jo_g 24 rfl rfl (ly_ld one28 rfl rfl rfl) (hd 27 rfl) ?_; refine jo_g 24 rfl rfl (ly_lenn sl28 rfl) (hd 28 rfl) ?_; refine jo_g 24 rfl rfl (ly_tt (ly_eq rfl rfl) (by omega)) (hd 29 rfl) ?_; refine jo_l (ly_pick_f rfl rfl) (hd 30 rfl) ?_; refine jo_nil ?_; refine jc_litt rfl ?_; refine jc_seq ?_; refine jc_region ?_
  refine jo_call Try.f23 (QInt_s 0 (by unfold inI; omega)) rfl Try.func23 rfl rfl (ovL_cons rfl ovL_nil) (.cons .i .nil) (hd 31 rfl) ?_ (fun ch hp => by simp at hp)
  rintro y hy; injection hy with hy; subst hy; refine jo_st (sy_store rfl rfl rfl siz1028 rfl rfl (Nat.le_of_ble_eq_true rfl)) ?_; refine jo_st (sy_store rfl rfl rfl siz23 rfl rfl (Nat.le_of_ble_eq_true rfl)) ?_; refine jo_nil ?_; refine jc_ret ?_; refine Clo.fin clo_2350 (m := 4) (i := 2) (j := 3) (Nat.le_of_ble_eq_true rfl) rfl rfl rfl rfl ?_
  refine ⟨_, _, (.cons (ResV.cell agg1028 rfl rfl rfl rfl) (.cons (ResV.cell1 one23 rfl rfl rfl) .nil)), (.t1 (.a1 .b (.a1 .nn (.a1 .nn .a0))) (.t1 .i .t0)), ?_⟩
  rw [hz0, nn_0, dd_0 hW0]
  rfl

set_option maxHeartbeats 4000000 in
set_option maxRecDepth 100000 in
theorem QMul_n (s : Bool) (l d : List Int) (x y : Nat) (hx : Rw l x) (hy : Rw d y) (z : Int) (Y : Nat) (q1 : Qe s x y z Y) (s2 : Bool) (l2 d2 : List Int) (x2 y2 : Nat) (hx2 : Rw l2 x2) (hy2 : Rw d2 y2) (w : Int) (X : Nat) (q2 : Qe s2 x2 y2 w X) (hB : lenV (x : Int) + lenV (y : Int) + lenV (x2 : Int) + lenV (y2 : Int) ≤ 67108864) (hx0 : x ≠ 0) (hx20 : x2 ≠ 0) : Spec Try.prog 27 [(.a [.b s, .n false .u64 l, .n false .u64 d]), (.a [.b s2, .n false .u64 l2, .n false .u64 d2])] (fun o => o = .ret (.t [(.a [.b (decide ((z * w) < 0)), .n false .u64 (lm ((nn (z * w) (Y * X) : Nat) : Int)), .n false .u64 (lm ((dd (z * w) (Y * X) : Nat) : Int))]), .i .i64 0])) := by
  refine spec_ofD [(0, (.a [.b s, .n false .u64 l, .n false .u64 d])), (1, (.a [.b s2, .n false .u64 l2, .n false .u64 d2]))] rfl Try.func27 rfl (Nat.le_of_ble_eq_true rfl) fun Γ 𝓡 hN hds hL hR hE => ?_
  have hd : ∀ d, Nat.blt d 93 = true → d < Γ.N := fun d h => by rw [hN]; exact Nat.le_of_ble_eq_true h
  have h0 := q1.1
  have h02 := q2.1
  have bN1 : lenV ((rn0 x y : Nat) : Int) ≤ lenV (x : Int) := rn0_b (Nat.le_refl _)
  have bD1 : lenV ((rd0 x y : Nat) : Int) ≤ lenV (y : Int) := rd0_b (Nat.le_refl _)
  have bN2 : lenV ((rn0 x2 y2 : Nat) : Int) ≤ lenV (x2 : Int) := rn0_b (Nat.le_refl _)
  have bD2 : lenV ((rd0 x2 y2 : Nat) : Int) ≤ lenV (y2 : Int) := rd0_b (Nat.le_refl _)
  have hlx : (lm ((rn0 x y : Nat) : Int)).length = 0 ↔ x = 0 := lm_len0.trans rn0_eq0
  have hlx2 : (lm ((rn0 x2 y2 : Nat) : Int)).length = 0 ↔ x2 = 0 := lm_len0.trans rn0_eq0
  have hW0 : Y * X ≠ 0 := Nat.mul_ne_zero q1.2.1 q2.2.1
  obtain ⟨g9, eg⟩ : ∃ g9 : Nat, g9 = Nat.gcd (rn0 x y) (rd0 x2 y2) := ⟨_, rfl⟩
  have hG1 : Spec Try.prog 60 [.n false .u64 (lm (((rn0 x y) : Nat) : Int)), .n false .u64 (lm (((rd0 x2 y2) : Nat) : Int))] (fun o => o = .ret (.n false .u64 (lm (g9 : Int)))) := by
    rw [eg]
    have h := Gcd_v (lm (((rn0 x y) : Nat) : Int)) (lm (((rd0 x2 y2) : Nat) : Int)) (rn0 x y) (rd0 x2 y2) (Rw.of (by omega)).l (Rw.of (by omega)).l (lm_u _) (lm_u _) (Rw.of (by omega)).v (Rw.of (by omega)).v
    exact h
  have hg0 : 0 < g9 := by rw [eg]; exact gcd_pos' q2.d0
  have bg : lenV (g9 : Int) ≤ 67108864 := by rw [eg]; exact gcd_b q2.d0 (by omega)
  obtain ⟨k9, ek⟩ : ∃ k9 : Nat, k9 = Nat.gcd (rn0 x2 y2) (rd0 x y) := ⟨_, rfl⟩
  have hG2 : Spec Try.prog 60 [.n false .u64 (lm (((rn0 x2 y2) : Nat) : Int)), .n false .u64 (lm (((rd0 x y) : Nat) : Int))] (fun o => o = .ret (.n false .u64 (lm (k9 : Int)))) := by
    rw [ek]
    have h := Gcd_v (lm (((rn0 x2 y2) : Nat) : Int)) (lm (((rd0 x y) : Nat) : Int)) (rn0 x2 y2) (rd0 x y) (Rw.of (by omega)).l (Rw.of (by omega)).l (lm_u _) (lm_u _) (Rw.of (by omega)).v (Rw.of (by omega)).v
    exact h
  have hk0 : 0 < k9 := by rw [ek]; exact gcd_pos' q1.d0
  have bk : lenV (k9 : Int) ≤ 67108864 := by rw [ek]; exact gcd_b q1.d0 (by omega)
  obtain ⟨a9, ea⟩ : ∃ a9 : Nat, a9 = (rn0 x y) / g9 := ⟨_, rfl⟩
  have hQ1 : Spec Try.prog 62 [.n false .u64 (lm (((rn0 x y) : Nat) : Int)), .n false .u64 (lm (g9 : Int))] (fun o => o = .ret (.t [.n false .u64 (lm (a9 : Int)), .i .i64 0])) := by
    rw [ea]
    have h := Quo_v (((rn0 x y) : Nat) : Int) (g9 : Int) (by omega) bg (by omega)
    rw [qn_nt] at h
    exact h
  have ba9 : lenV (a9 : Int) ≤ lenV (x : Int) := by rw [ea]; exact Nat.le_trans (lenV_nat (Nat.div_le_self _ _)) bN1
  obtain ⟨c9, ec⟩ : ∃ c9 : Nat, c9 = (rn0 x2 y2) / k9 := ⟨_, rfl⟩
  have hQ2 : Spec Try.prog 62 [.n false .u64 (lm (((rn0 x2 y2) : Nat) : Int)), .n false .u64 (lm (k9 : Int))] (fun o => o = .ret (.t [.n false .u64 (lm (c9 : Int)), .i .i64 0])) := by
    rw [ec]
    have h := Quo_v (((rn0 x2 y2) : Nat) : Int) (k9 : Int) (by omega) bk (by omega)
    rw [qn_nt] at h
    exact h
  have bc9 : lenV (c9 : Int) ≤ lenV (x2 : Int) := by rw [ec]; exact Nat.le_trans (lenV_nat (Nat.div_le_self _ _)) bN2
  obtain ⟨t9, et⟩ : ∃ t9 : Nat, t9 = a9 * c9 := ⟨_, rfl⟩
  have hM1 : Spec Try.prog 67 [.n false .u64 (lm (a9 : Int)), .n false .u64 (lm (c9 : Int))] (fun o => o = .ret (.t [.n true .u64 (lm (t9 : Int)), .i .i64 0])) := by
    have hb9 : lenV ((t9 : Nat) : Int) ≤ 67108864 := by rw [et, Int.natCast_mul]; have h9 := lenV_mul (a9 : Int) (c9 : Int); omega
    refine (Mul_l (lm (a9 : Int)) (lm (c9 : Int)) (by have := (Rw.of (x := a9) (by omega)).l; omega) (by have := (Rw.of (x := c9) (by omega)).l; omega) (lm_u _) (lm_u _)).mono fun o ⟨r, e, ho, hr⟩ => ?_
    rw [vl_lm (Int.natCast_nonneg _), vl_lm (Int.natCast_nonneg _), ← Int.natCast_mul, ← et] at hr
    obtain ⟨rfl, rfl⟩ := errL_fit hr hb9
    exact ho
  obtain ⟨e9, ee⟩ : ∃ e9 : Nat, e9 = (rd0 x y) / k9 := ⟨_, rfl⟩
  have hQ3 : Spec Try.prog 62 [.n false .u64 (lm (((rd0 x y) : Nat) : Int)), .n false .u64 (lm (k9 : Int))] (fun o => o = .ret (.t [.n false .u64 (lm (e9 : Int)), .i .i64 0])) := by
    rw [ee]
    have h := Quo_v (((rd0 x y) : Nat) : Int) (k9 : Int) (by omega) bk (by omega)
    rw [qn_nt] at h
    exact h
  have be9 : lenV (e9 : Int) ≤ lenV (y : Int) := by rw [ee]; exact Nat.le_trans (lenV_nat (Nat.div_le_self _ _)) bD1
  obtain ⟨f9, ef⟩ : ∃ f9 : Nat, f9 = (rd0 x2 y2) / g9 := ⟨_, rfl⟩
  have hQ4 : Spec Try.prog 62 [.n false .u64 (lm (((rd0 x2 y2) : Nat) : Int)), .n false .u64 (lm (g9 : Int))] (fun o => o = .ret (.t [.n false .u64 (lm (f9 : Int)), .i .i64 0])) := by
    rw [ef]
    have h := Quo_v (((rd0 x2 y2) : Nat) : Int) (g9 : Int) (by omega) bg (by omega)
    rw [qn_nt] at h
    exact h
  have bf9 : lenV (f9 : Int) ≤ lenV (y2 : Int) := by rw [ef]; exact Nat.le_trans (lenV_nat (Nat.div_le_self _ _)) bD2
  obtain ⟨u9, eu⟩ : ∃ u9 : Nat, u9 = e9 * f9 := ⟨_, rfl⟩
  have hM2 : Spec Try.prog 67 [.n false .u64 (lm (e9 : Int)), .n false .u64 (lm (f9 : Int))] (fun o => o = .ret (.t [.n true .u64 (lm (u9 : Int)), .i .i64 0])) := by
    have hb9 : lenV ((u9 : Nat) : Int) ≤ 67108864 := by rw [eu, Int.natCast_mul]; have h9 := lenV_mul (e9 : Int) (f9 : Int); omega
    refine (Mul_l (lm (e9 : Int)) (lm (f9 : Int)) (by have := (Rw.of (x := e9) (by omega)).l; omega) (by have := (Rw.of (x := f9) (by omega)).l; omega) (lm_u _) (lm_u _)).mono fun o ⟨r, e, ho, hr⟩ => ?_
    rw [vl_lm (Int.natCast_nonneg _), vl_lm (Int.natCast_nonneg _), ← Int.natCast_mul, ← eu] at hr
    obtain ⟨rfl, rfl⟩ := errL_fit hr hb9
    exact ho
  have hz := mul_all q1 q2
  rw [← eg, ← ek, ← ea, ← ec, ← et, ← ee, ← ef, ← eu] at hz
  obtain ⟨hz1, hz2⟩ := hz
  have hz3 := mul_sgn q1 q2 hx0 hx20
  refine jcp_seq ?_; refine jc_region ?_; refine jo_h (hy_box (id := 0) (n := 3) rfl rfl rfl (by decide) rfl) (hd 2 rfl) ?_; refine jo_h (hy_box (id := 1) (n := 3) rfl rfl rfl (by decide) rfl) (hd 3 rfl) ?_; refine jo_h (hy_alloc (id := 2) zero1028 (by decide) rfl (by decide) rfl) (hd 4 rfl) ?_; refine jo_h (hy_alloc (id := 3) zero23 (by decide) rfl (by decide) rfl) (hd 5 rfl) ?_; refine jo_nil ?_; refine jcd_defer (g := 68) (caps := [.p 2 0 0, .p 3 0 0]) 4 [_] (ops := [_, _]) rfl Try.func68 rfl rfl rfl hds hR hL hE ?_; refine jo_l (ly_mf (ovL_cons rfl (ovL_cons rfl ovL_nil))) (hd 10 rfl) ?_; refine jo_nil ?_
  refine ⟨rfl, rfl, rfl, ?_⟩
  intro Γ1 hN1 hL hR1
  replace hd : ∀ d, Nat.blt d 93 = true → d < Γ1.N := fun d h => by rw [hN1]; exact hd d h
  refine jo_nil ?_; refine jc_seq ?_; refine jc_region ?_; refine jo_l (ly_lda agg1028 rfl rfl rfl rfl) (hd 11 rfl) ?_; refine jo_l (ly_lda agg1028 rfl rfl rfl rfl) (hd 12 rfl) ?_; refine jo_h (hy_lit (id := 4) (xs := [.tmp 11, .tmp 12]) el1073 rfl (ovL_cons rfl (ovL_cons rfl ovL_nil)) rfl (all2_of rfl) (by decide) rfl) (hd 13 rfl) ?_; refine jo_frzr 13 (sz := 3) [[V.b s, V.n false .u64 l, V.n false .u64 d], [V.b s2, V.n false .u64 l2, V.n false .u64 d2]] rfl rfl rfl rfl (by simp) (by simp [pureV]) (by decide) hL ?_
  refine jo_call Try.f51 (looked_2 s l d y s2 l2 d2 y2 hy h0 hy2 h02) rfl Try.func51 rfl rfl (ovL_cons rfl ovL_nil) (.cons .l .nil) (hd 14 rfl) ?_ (fun ch hp => by simp at hp)
  rintro y hy; injection hy with hy; subst hy; refine jo_nil ?_; refine jc_seq ?_; refine jc_nopan ?_; refine jc_draw (n := 6) _ rfl mixed ?_; refine ja_l2 0 [1, 3, 4, 5] (lo_l (ly_lda agg1028 rfl rfl rfl rfl) (hd 15 rfl)) rfl (by kernel_rfl) (by kernel_rfl) (by kernel_rfl) (by kernel_rfl) (fun _ _ _ _ h => h) ?_; refine ja_l2 2 [3, 4, 5] (lo_l (ly_lda agg1028 rfl rfl rfl rfl) (hd 17 rfl)) rfl (by kernel_rfl) (by kernel_rfl) (by kernel_rfl) (by kernel_rfl) (fun _ _ _ _ h => h) ?_
  refine ja_1 1 ?_ rfl (by kernel_rfl)
  refine js_call Try.f44 (qnorm_s s l d x y hx hy h0) rfl Try.func44 rfl rfl (ovL_cons rfl ovL_nil) (.cons (.a1 .b (.a1 .n (.a1 .n .a0))) .nil) (hd 16 rfl) ?_ (fun ch hp => by simp at hp)
  rintro y hy; injection hy with hy; subst hy
  refine ja_1 3 ?_ rfl (by kernel_rfl)
  refine js_call Try.f44 (qnorm_s s2 l2 d2 x2 y2 hx2 hy2 h02) rfl Try.func44 rfl rfl (ovL_cons rfl ovL_nil) (.cons (.a1 .b (.a1 .n (.a1 .n .a0))) .nil) (hd 18 rfl) ?_ (fun ch hp => by simp at hp)
  rintro y hy; injection hy with hy; subst hy
  refine ja_1 4 ?_ rfl (by kernel_rfl)
  refine js_st (sy_store rfl rfl rfl siz1028 rfl rfl (Nat.le_of_ble_eq_true rfl)) rfl ?_
  refine ja_1 5 ?_ rfl (by kernel_rfl)
  refine js_st (sy_store rfl rfl rfl siz1028 rfl rfl (Nat.le_of_ble_eq_true rfl)) rfl ?_; refine ja_nil (by kernel_rfl) ?_; refine jc_seq ?_; refine jc_seq ?_; refine jc_region ?_; refine jo_l (ly_fa fld1028_0 rfl rfl rfl) (hd 19 rfl) ?_; refine jo_l (ly_fa fld30_1 rfl rfl rfl) (hd 20 rfl) ?_; refine jo_l (ly_ld one28 rfl rfl rfl) (hd 21 rfl) ?_; refine jo_l (ly_lenn sl28 rfl) (hd 22 rfl) ?_; refine jo_l (ly_ff (ly_eq rfl rfl) (by omega)) (hd 23 rfl) ?_; refine jo_l (ly_mv rfl) (hd 24 rfl) ?_; refine jo_g 24 rfl rfl (ly_fa fld1028_0 rfl rfl rfl) (hd 25 rfl) ?_; refine jo_g 24 rfl rfl (ly_fa fld30_1 rfl rfl rfl) (hd 26 rfl) ?_; refine jo_g 24 rfl rfl (ly_ld one28 rfl rfl rfl) (hd 27 rfl) ?_; refine jo_g 24 rfl rfl (ly_lenn sl28 rfl) (hd 28 rfl) ?_; refine jo_g 24 rfl rfl (ly_ff (ly_eq rfl rfl) (by omega)) (hd 29 rfl) ?_; refine jo_l (ly_pick_f rfl rfl) (hd 30 rfl) ?_; refine jo_nil ?_; refine jc_litf rfl ?_; refine jc_skip ?_; refine jc_seq ?_; refine jc_nopan ?_; refine jc_draw (n := 14) _ rfl mixed ?_; refine ja_l2 0 [1, 2, 5, 11, 12, 13] (lo_l (ly_fa fld1028_0 rfl rfl rfl) (hd 32 rfl)) rfl (by kernel_rfl) (by kernel_rfl) (by kernel_rfl) (by kernel_rfl) (fun _ _ _ _ h => h) ?_; refine ja_l2 1 [2, 5, 11, 12, 13] (lo_l (ly_fa fld30_1 rfl rfl rfl) (hd 33 rfl)) rfl (by kernel_rfl) (by kernel_rfl) (by kernel_rfl) (by kernel_rfl) (fun _ _ _ _ h => h) ?_; refine ja_l2 2 [5, 11, 12, 13] (lo_l (ly_ld one28 rfl rfl rfl) (hd 34 rfl)) rfl (by kernel_rfl) (by kernel_rfl) (by kernel_rfl) (by kernel_rfl) (fun _ _ _ _ h => h) ?_; refine ja_l2 3 [4, 5, 11, 12, 13] (lo_l (ly_fa fld1028_1 rfl rfl rfl) (hd 35 rfl)) rfl (by kernel_rfl) (by kernel_rfl) (by kernel_rfl) (by kernel_rfl) (fun _ _ _ _ h => h) ?_; refine ja_l2 4 [5, 11, 12, 13] (lo_l (ly_ld one28 rfl rfl rfl) (hd 36 rfl)) rfl (by kernel_rfl) (by kernel_rfl) (by kernel_rfl) (by kernel_rfl) (fun _ _ _ _ h => h) ?_; refine ja_l2 6 [7, 8, 11, 12, 13] (lo_l (ly_fa fld1028_0 rfl rfl rfl) (hd 38 rfl)) rfl (by kernel_rfl) (by kernel_rfl) (by kernel_rfl) (by kernel_rfl) (fun _ _ _ _ h => h) ?_; refine ja_l2 7 [8, 11, 12, 13] (lo_l (ly_fa fld30_1 rfl rfl rfl) (hd 39 rfl)) rfl (by kernel_rfl) (by kernel_rfl) (by kernel_rfl) (by kernel_rfl) (fun _ _ _ _ h => h) ?_; refine ja_l2 8 [11, 12, 13] (lo_l (ly_ld one28 rfl rfl rfl) (hd 40 rfl)) rfl (by kernel_rfl) (by kernel_rfl) (by kernel_rfl) (by kernel_rfl) (fun _ _ _ _ h => h) ?_; refine ja_l2 9 [10, 11, 12, 13] (lo_l (ly_fa fld1028_1 rfl rfl rfl) (hd 41 rfl)) rfl (by kernel_rfl) (by kernel_rfl) (by kernel_rfl) (by kernel_rfl) (fun _ _ _ _ h => h) ?_; refine ja_l2 10 [11, 12, 13] (lo_l (ly_ld one28 rfl rfl rfl) (hd 42 rfl)) rfl (by kernel_rfl) (by kernel_rfl) (by kernel_rfl) (by kernel_rfl) (fun _ _ _ _ h => h) ?_
  refine ja_1 5 ?_ rfl (by kernel_rfl)
  refine js_call Try.f60 (hG1) rfl Try.func60 rfl rfl (ovL_cons rfl (ovL_cons rfl ovL_nil)) (.cons .n (.cons .n .nil)) (hd 37 rfl) ?_ (fun ch hp => by simp at hp)
  rintro y hy; injection hy with hy; subst hy
  refine ja_1 11 ?_ rfl (by kernel_rfl)
  refine js_call Try.f60 (hG2) rfl Try.func60 rfl rfl (ovL_cons rfl (ovL_cons rfl ovL_nil)) (.cons .n (.cons .n .nil)) (hd 43 rfl) ?_ (fun ch hp => by simp at hp)
  rintro y hy; injection hy with hy; subst hy; refine ja_l 12 (lo_l (ly_as rfl) (hd 6 rfl)) rfl (by kernel_rfl) (by kernel_rfl) (by kernel_rfl) (fun _ _ _ _ h => h) ?_; refine ja_l 13 (lo_l (ly_as rfl) (hd 7 rfl)) rfl (by kernel_rfl) (by kernel_rfl) (by kernel_rfl) (fun _ _ _ _ h => h) ?_; refine ja_nil (by kernel_rfl) ?_; refine jc_seq ?_; refine jc_nopan ?_; refine jc_draw (n := 21) _ rfl mixed ?_; refine ja_l2 0 [1, 2, 4, 5, 6, 7, 12, 13, 14, 15, 16, 17, 18, 19, 20] (lo_l (ly_fa fld1028_0 rfl rfl rfl) (hd 44 rfl)) rfl (by kernel_rfl) (by kernel_rfl) (by kernel_rfl) (by kernel_rfl) (fun _ _ _ _ h => h) ?_; refine ja_l2 1 [2, 4, 5, 6, 7, 12, 13, 14, 15, 16, 17, 18, 19, 20] (lo_l (ly_fa fld30_1 rfl rfl rfl) (hd 45 rfl)) rfl (by kernel_rfl) (by kernel_rfl) (by kernel_rfl) (by kernel_rfl) (fun _ _ _ _ h => h) ?_; refine ja_l2 2 [4, 5, 6, 7, 12, 13, 14, 15, 16, 17, 18, 19, 20] (lo_l (ly_ld one28 rfl rfl rfl) (hd 46 rfl)) rfl (by kernel_rfl) (by kernel_rfl) (by kernel_rfl) (by kernel_rfl) (fun _ _ _ _ h => h) ?_; refine ja_l2 3 [4, 5, 6, 7, 12, 13, 14, 15, 16, 17, 18, 19, 20] (lo_l (ly_mv rfl) (hd 47 rfl)) rfl (by kernel_rfl) (by kernel_rfl) (by kernel_rfl) (by kernel_rfl) (fun _ _ _ _ h => h) ?_; refine ja_l2 8 [9, 10, 12, 13, 14, 15, 16, 17, 18, 19, 20] (lo_l (ly_fa fld1028_0 rfl rfl rfl) (hd 52 rfl)) rfl (by kernel_rfl) (by kernel_rfl) (by kernel_rfl) (by kernel_rfl) (fun _ _ _ _ h => h) ?_; refine ja_l2 9 [10, 12, 13, 14, 15, 16, 17, 18, 19, 20] (lo_l (ly_fa fld30_1 rfl rfl rfl) (hd 53 rfl)) rfl (by kernel_rfl) (by kernel_rfl) (by kernel_rfl) (by kernel_rfl) (fun _ _ _ _ h => h) ?_; refine ja_l2 10 [12, 13, 14, 15, 16, 17, 18, 19, 20] (lo_l (ly_ld one28 rfl rfl rfl) (hd 54 rfl)) rfl (by kernel_rfl) (by kernel_rfl) (by kernel_rfl) (by kernel_rfl) (fun _ _ _ _ h => h) ?_; refine ja_l2 11 [12, 13, 14, 15, 16, 17, 18, 19, 20] (lo_l (ly_mv rfl) (hd 55 rfl)) rfl (by kernel_rfl) (by kernel_rfl) (by kernel_rfl) (by kernel_rfl) (fun _ _ _ _ h => h) ?_
  refine ja_1 4 ?_ rfl (by kernel_rfl)
  refine js_call Try.f62 (hQ1) rfl Try.func62 rfl rfl (ovL_cons rfl (ovL_cons rfl ovL_nil)) (.cons .n (.cons .n .nil)) (hd 48 rfl) ?_ (fun ch hp => by simp at hp)
  rintro y hy; injection hy with hy; subst hy; refine ja_l2 5 [7, 12, 13, 14, 15, 16, 17, 18, 19, 20] (lo_l (ly_ext rfl rfl) (hd 49 rfl)) rfl (by kernel_rfl) (by kernel_rfl) (by kernel_rfl) (by kernel_rfl) (fun _ _ _ _ h => h) ?_; refine ja_l2 6 [7, 12, 13, 14, 15, 16, 17, 18, 19, 20] (lo_l (ly_ext rfl rfl) (hd 50 rfl)) rfl (by kernel_rfl) (by kernel_rfl) (by kernel_rfl) (by kernel_rfl) (fun _ _ _ _ h => h) ?_
  refine ja_1 7 ?_ rfl (by kernel_rfl)
  refine js_call Try.f61 (mustN _) rfl Try.func61 rfl rfl (ovL_cons rfl (ovL_cons rfl ovL_nil)) (.cons .n (.cons .i .nil)) (hd 51 rfl) ?_ (fun ch hp => by simp at hp)
  rintro y hy; injection hy with hy; subst hy
  refine ja_1 12 ?_ rfl (by kernel_rfl)
  refine js_call Try.f62 (hQ2) rfl Try.func62 rfl rfl (ovL_cons rfl (ovL_cons rfl ovL_nil)) (.cons .n (.cons .n .nil)) (hd 56 rfl) ?_ (fun ch hp => by simp at hp)
  rintro y hy; injection hy with hy; subst hy; refine ja_l2 13 [15, 16, 17, 18, 19, 20] (lo_l (ly_ext rfl rfl) (hd 57 rfl)) rfl (by kernel_rfl) (by kernel_rfl) (by kernel_rfl) (by kernel_rfl) (fun _ _ _ _ h => h) ?_; refine ja_l2 14 [15, 16, 17, 18, 19, 20] (lo_l (ly_ext rfl rfl) (hd 58 rfl)) rfl (by kernel_rfl) (by kernel_rfl) (by kernel_rfl) (by kernel_rfl) (fun _ _ _ _ h => h) ?_
  refine ja_1 15 ?_ rfl (by kernel_rfl)
  refine js_call Try.f61 (mustN _) rfl Try.func61 rfl rfl (ovL_cons rfl (ovL_cons rfl ovL_nil)) (.cons .n (.cons .i .nil)) (hd 59 rfl) ?_ (fun ch hp => by simp at hp)
  rintro y hy; injection hy with hy; subst hy
  refine ja_1 16 ?_ rfl (by kernel_rfl)
  refine js_call Try.f67 (hM1) rfl Try.func67 rfl rfl (ovL_cons rfl (ovL_cons rfl ovL_nil)) (.cons .n (.cons .n .nil)) (hd 60 rfl) ?_ (fun ch hp => by simp at hp)
  rintro y hy; injection hy with hy; subst hy; refine ja_l 17 (lo_l (ly_ext rfl rfl) (hd 61 rfl)) rfl (by kernel_rfl) (by kernel_rfl) (by kernel_rfl) (fun _ _ _ _ h => h) ?_; refine ja_l 18 (lo_l (ly_ext rfl rfl) (hd 62 rfl)) rfl (by kernel_rfl) (by kernel_rfl) (by kernel_rfl) (fun _ _ _ _ h => h) ?_
  refine ja_1 19 ?_ rfl (by kernel_rfl)
  refine js_call Try.f61 (mustN _) rfl Try.func61 rfl rfl (ovL_cons rfl (ovL_cons rfl ovL_nil)) (.cons .n (.cons .i .nil)) (hd 63 rfl) ?_ (fun ch hp => by simp at hp)
  rintro y hy; injection hy with hy; subst hy; refine ja_l 20 (lo_l (ly_as rfl) (hd 8 rfl)) rfl (by kernel_rfl) (by kernel_rfl) (by kernel_rfl) (fun _ _ _ _ h => h) ?_; refine ja_nil (by kernel_rfl) ?_; refine jc_seq ?_; refine jc_nopan ?_; refine jc_draw (n := 19) _ rfl mixed ?_; refine ja_l2 0 [1, 3, 4, 5, 6, 10, 11, 12, 13, 14, 15, 16, 17, 18] (lo_l (ly_fa fld1028_1 rfl rfl rfl) (hd 64 rfl)) rfl (by kernel_rfl) (by kernel_rfl) (by kernel_rfl) (by kernel_rfl) (fun _ _ _ _ h => h) ?_; refine ja_l2 1 [3, 4, 5, 6, 10, 11, 12, 13, 14, 15, 16, 17, 18] (lo_l (ly_ld one28 rfl rfl rfl) (hd 65 rfl)) rfl (by kernel_rfl) (by kernel_rfl) (by kernel_rfl) (by kernel_rfl) (fun _ _ _ _ h => h) ?_; refine ja_l2 2 [3, 4, 5, 6, 10, 11, 12, 13, 14, 15, 16, 17, 18] (lo_l (ly_mv rfl) (hd 66 rfl)) rfl (by kernel_rfl) (by kernel_rfl) (by kernel_rfl) (by kernel_rfl) (fun _ _ _ _ h => h) ?_; refine ja_l2 7 [8, 10, 11, 12, 13, 14, 15, 16, 17, 18] (lo_l (ly_fa fld1028_1 rfl rfl rfl) (hd 71 rfl)) rfl (by kernel_rfl) (by kernel_rfl) (by kernel_rfl) (by kernel_rfl) (fun _ _ _ _ h => h) ?_; refine ja_l2 8 [10, 11, 12, 13, 14, 15, 16, 17, 18] (lo_l (ly_ld one28 rfl rfl rfl) (hd 72 rfl)) rfl (by kernel_rfl) (by kernel_rfl) (by kernel_rfl) (by kernel_rfl) (fun _ _ _ _ h => h) ?_; refine ja_l2 9 [10, 11, 12, 13, 14, 15, 16, 17, 18] (lo_l (ly_mv rfl) (hd 73 rfl)) rfl (by kernel_rfl) (by kernel_rfl) (by kernel_rfl) (by kernel_rfl) (fun _ _ _ _ h => h) ?_
  refine ja_1 3 ?_ rfl (by kernel_rfl)
  refine js_call Try.f62 (hQ3) rfl Try.func62 rfl rfl (ovL_cons rfl (ovL_cons rfl ovL_nil)) (.cons .n (.cons .n .nil)) (hd 67 rfl) ?_ (fun ch hp => by simp at hp)
  rintro y hy; injection hy with hy; subst hy; refine ja_l2 4 [6, 10, 11, 12, 13, 14, 15, 16, 17, 18] (lo_l (ly_ext rfl rfl) (hd 68 rfl)) rfl (by kernel_rfl) (by kernel_rfl) (by kernel_rfl) (by kernel_rfl) (fun _ _ _ _ h => h) ?_; refine ja_l2 5 [6, 10, 11, 12, 13, 14, 15, 16, 17, 18] (lo_l (ly_ext rfl rfl) (hd 69 rfl)) rfl (by kernel_rfl) (by kernel_rfl) (by kernel_rfl) (by kernel_rfl) (fun _ _ _ _ h => h) ?_
  refine ja_1 6 ?_ rfl (by kernel_rfl)
  refine js_call Try.f61 (mustN _) rfl Try.func61 rfl rfl (ovL_cons rfl (ovL_cons rfl ovL_nil)) (.cons .n (.cons .i .nil)) (hd 70 rfl) ?_ (fun ch hp => by simp at hp)
  rintro y hy; injection hy with hy; subst hy
  refine ja_1 10 ?_ rfl (by kernel_rfl)
  refine js_call Try.f62 (hQ4) rfl Try.func62 rfl rfl (ovL_cons rfl (ovL_cons rfl ovL_nil)) (.cons .n (.cons .n .nil)) (hd 74 rfl) ?_ (fun ch hp => by simp at hp)
  rintro y hy; injection hy with hy; subst hy; refine ja_l2 11 [13, 14, 15, 16, 17, 18] (lo_l (ly_ext rfl rfl) (hd 75 rfl)) rfl (by kernel_rfl) (by kernel_rfl) (by kernel_rfl) (by kernel_rfl) (fun _ _ _ _ h => h) ?_; refine ja_l2 12 [13, 14, 15, 16, 17, 18] (lo_l (ly_ext rfl rfl) (hd 76 rfl)) rfl (by kernel_rfl) (by kernel_rfl) (by kernel_rfl) (by kernel_rfl) (fun _ _ _ _ h => h) ?_
  refine ja_1 13 ?_ rfl (by kernel_rfl)
  refine js_call Try.f61 (mustN _) rfl Try.func61 rfl rfl (ovL_cons rfl (ovL_cons rfl ovL_nil)) (.cons .n (.cons .i .nil)) (hd 77 rfl) ?_ (fun ch hp => by simp at hp)
  rintro y hy; injection hy with hy; subst hy
  refine ja_1 14 ?_ rfl (by kernel_rfl)
  refine js_call Try.f67 (hM2) rfl Try.func67 rfl rfl (ovL_cons rfl (ovL_cons rfl ovL_nil)) (.cons .n (.cons .n .nil)) (hd 78 rfl) ?_ (fun ch hp => by simp at hp)
  rintro y hy; injection hy with hy; subst hy; refine ja_l 15 (lo_l (ly_ext rfl rfl) (hd 79 rfl)) rfl (by kernel_rfl) (by kernel_rfl) (by kernel_rfl) (fun _ _ _ _ h => h) ?_; refine ja_l 16 (lo_l (ly_ext rfl rfl) (hd 80 rfl)) rfl (by kernel_rfl) (by kernel_rfl) (by kernel_rfl) (fun _ _ _ _ h => h) ?_
  refine ja_1 17 ?_ rfl (by kernel_rfl)
  refine js_call Try.f61 (mustN _) rfl Try.func61 rfl rfl (ovL_cons rfl (ovL_cons rfl ovL_nil)) (.cons .n (.cons .i .nil)) (hd 81 rfl) ?_ (fun ch hp => by simp at hp)
  rintro y hy; injection hy with hy; subst hy; refine ja_l 18 (lo_l (ly_as rfl) (hd 9 rfl)) rfl (by kernel_rfl) (by kernel_rfl) (by kernel_rfl) (fun _ _ _ _ h => h) ?_; refine ja_nil (by kernel_rfl) ?_; refine jc_seq ?_; refine jc_region ?_; refine jo_l (ly_fa fld1028_0 rfl rfl rfl) (hd 82 rfl) ?_; refine jo_l (ly_fa fld30_0 rfl rfl rfl) (hd 83 rfl) ?_; refine jo_l (ly_ld one4 rfl rfl rfl) (hd 84 rfl) ?_; refine jo_l (ly_fa fld1028_0 rfl rfl rfl) (hd 85 rfl) ?_; refine jo_l (ly_fa fld30_0 rfl rfl rfl) (hd 86 rfl) ?_; refine jo_l (ly_ld one4 rfl rfl rfl) (hd 87 rfl) ?_; refine jo_l (ly_neb und4 rfl rfl) (hd 88 rfl) ?_; refine jo_l (ly_mv rfl) (hd 89 rfl) ?_; refine jo_l (ly_build (is := [0, 1]) (xs := [.tmp 88, .tmp 89]) zero30 pls30_0_1 rfl (ovL_cons rfl (ovL_cons rfl ovL_nil)) rfl (by first | (simp [plsOk, cellsV]; done) | (simp [plsOk, cellsV, old]; done)) (all_of rfl) rfl) (hd 90 rfl) ?_; refine jo_l (ly_mv rfl) (hd 91 rfl) ?_; refine jo_l (ly_build (is := [0, 1]) (xs := [.tmp 90, .tmp 91]) zero1028 pls1028_0_1 rfl (ovL_cons rfl (ovL_cons rfl ovL_nil)) rfl ⟨rfl, (by decide), rfl, (by decide), trivial⟩ (all_of rfl) rfl) (hd 92 rfl) ?_; refine jo_st (sy_store rfl rfl rfl siz1028 rfl rfl (Nat.le_of_ble_eq_true rfl)) ?_; refine jo_st (sy_store rfl rfl rfl siz23 rfl rfl (Nat.le_of_ble_eq_true rfl)) ?_; refine jo_nil ?_; refine jc_ret ?_; refine Clo.fin clo_2350 (m := 4) (i := 2) (j := 3) (Nat.le_of_ble_eq_true rfl) rfl rfl rfl rfl ?_
  refine ⟨_, _, (.cons (ResV.cell agg1028 rfl rfl rfl rfl) (.cons (ResV.cell1 one23 rfl rfl rfl) .nil)), (.t1 (.a1 .b (.a1 .n (.a1 .n .a0))) (.t1 .i .t0)), ?_⟩
  rw [← hz1, ← hz2, ← hz3]

theorem QMul_s (s : Bool) (l d : List Int) (x y : Nat) (hx : Rw l x) (hy : Rw d y) (z : Int) (Y : Nat) (q1 : Qe s x y z Y) (s2 : Bool) (l2 d2 : List Int) (x2 y2 : Nat) (hx2 : Rw l2 x2) (hy2 : Rw d2 y2) (w : Int) (X : Nat) (q2 : Qe s2 x2 y2 w X) (hB : lenV (x : Int) + lenV (y : Int) + lenV (x2 : Int) + lenV (y2 : Int) ≤ 67108864) : Spec Try.prog 27 [(.a [.b s, .n false .u64 l, .n false .u64 d]), (.a [.b s2, .n false .u64 l2, .n false .u64 d2])] (fun o => o = .ret (.t [(.a [.b (decide ((z * w) < 0)), .n false .u64 (lm ((nn (z * w) (Y * X) : Nat) : Int)), .n false .u64 (lm ((dd (z * w) (Y * X) : Nat) : Int))]), .i .i64 0])) := by
  by_cases hx0 : x = 0
  · exact QMul_0a s l d x y hx hy z Y q1 s2 l2 d2 x2 y2 hx2 hy2 w X q2 hB hx0
  · by_cases hx20 : x2 = 0
    · exact QMul_0b s l d x y hx hy z Y q1 s2 l2 d2 x2 y2 hx2 hy2 w X q2 hB hx0 hx20
    · exact QMul_n s l d x y hx hy z Y q1 s2 l2 d2 x2 y2 hx2 hy2 w X q2 hB hx0 hx20
end Go.Proofs.Ytpldmajdiljoaaa.Vc

/- Contracts of ratio.compare, Compare. -/
namespace Go.Proofs.Ytpldmajdiljoaaa.Vc
open Go Go.RowKit
set_option maxHeartbeats 4000000 in
theorem halves_v (a b : Nat) (hb : b ≠ 0) (la : lenV (a : Int) ≤ 67108864) (lb : lenV (b : Int) ≤ 67108864) : Spec Try.prog 110 [.n false .u64 (lm (a : Int)), .n false .u64 (lm (b : Int))] (fun o => o = .ret (.t [.n false .u64 (lm ((a / b : Nat) : Int)), .n false .u64 (lm ((a % b : Nat) : Int))])) := by
  refine spec_of' [(0, .n false .u64 (lm (a : Int))), (1, .n false .u64 (lm (b : Int)))] rfl Try.func110 rfl (Nat.le_of_ble_eq_true rfl) fun Γ hN hds hL hR => ?_
  have hd : ∀ d, Nat.blt d 23 = true → d < Γ.N := fun d h => by rw [hN]; exact Nat.le_of_ble_eq_true h
  have hBo : Spec Try.prog 138 [.n false .u64 (lm (a : Int)), .n false .u64 (lm (b : Int))] (fun o => o = .ret (.t [.n false .u64 (lm ((a / b : Nat) : Int)), .n false .u64 (lm ((a % b : Nat) : Int)), .i .i64 0])) := by have h := Both_v (a : Int) (b : Int) la lb (by omega); rwa [qn_nt, rn_nt] at h
  refine jc_seq ?_; refine jc_region ?_; refine jo_l (ly_as rfl) (hd 4 rfl) ?_; refine jo_l (ly_as rfl) (hd 5 rfl) ?_; refine jo_nil ?_; refine jc_seq ?_; refine jc_region ?_; refine jo_l (ly_mv rfl) (hd 10 rfl) ?_; refine jo_l (ly_mv rfl) (hd 11 rfl) ?_
  refine jo_call Try.f138 (hBo) rfl Try.func138 rfl rfl (ovL_cons rfl (ovL_cons rfl ovL_nil)) (.cons .n (.cons .n .nil)) (hd 12 rfl) ?_ (fun ch hp => by simp at hp)
  rintro y hy; injection hy with hy; subst hy; refine jo_l (ly_mv rfl) (hd 9 rfl) ?_; refine jo_l (ly_ext rfl rfl) (hd 13 rfl) ?_; refine jo_l (ly_ext rfl rfl) (hd 14 rfl) ?_; refine jo_l (ly_ext rfl rfl) (hd 15 rfl) ?_; refine jo_l (ly_as rfl) (hd 6 rfl) ?_; refine jo_l (ly_as rfl) (hd 7 rfl) ?_; refine jo_l (ly_as rfl) (hd 8 rfl) ?_; refine jo_nil ?_; refine jc_seq ?_; refine jc_seq ?_; refine jc_region ?_; refine jo_l (ly_mv rfl) (hd 16 rfl) ?_; refine jo_l (ly_ff (ly_ne rfl rfl) (by decide)) (hd 17 rfl) ?_; refine jo_nil ?_; refine jc_litf rfl ?_; refine jc_skip ?_; refine jc_seq ?_; refine jc_region ?_; refine jo_l (ly_mv rfl) (hd 21 rfl) ?_; refine jo_l (ly_mv rfl) (hd 22 rfl) ?_; refine jo_l (ly_as rfl) (hd 4 rfl) ?_; refine jo_l (ly_as rfl) (hd 5 rfl) ?_; refine jo_nil ?_; refine jc_ret ?_
  refine ⟨_, _, (.cons rfl (.cons rfl .nil)), (.t1 .n (.t1 .n .t0)), ?_⟩
  exact rfl

set_option maxHeartbeats 4000000 in
theorem compare_v (a b c d : Nat) (hb : b ≠ 0) (hd0 : d ≠ 0) (la : lenV (a : Int) ≤ 67108864) (lb : lenV (b : Int) ≤ 67108864) (lc : lenV (c : Int) ≤ 67108864) (ld : lenV (d : Int) ≤ 67108864) : Spec Try.prog 70 [.n false .u64 (lm (a : Int)), .n false .u64 (lm (b : Int)), .n false .u64 (lm (c : Int)), .n false .u64 (lm (d : Int))] (fun o => o = .ret (.i .i64 (cN a b c d))) := by
  refine spec_of' [(0, .n false .u64 (lm (a : Int))), (1, .n false .u64 (lm (b : Int))), (2, .n false .u64 (lm (c : Int))), (3, .n false .u64 (lm (d : Int)))] rfl Try.func70 rfl (Nat.le_of_ble_eq_true rfl) fun Γ hN hds hL hR => ?_
  have hd : ∀ d, Nat.blt d 61 = true → d < Γ.N := fun d h => by rw [hN]; exact Nat.le_of_ble_eq_true h
  refine jc_seq ?_; refine jc_region ?_; refine jo_l (ly_as rfl) (hd 8 rfl) ?_; refine jo_nil ?_; refine jc_seq ?_; refine jc_region ?_; refine jo_l (ly_as rfl) (hd 9 rfl) ?_; refine jo_nil ?_; refine jc_block ?_
  refine jc_loopF (G := Nat × Nat × Nat × Nat × Int) (fun g => g.2.1 ≠ 0 ∧ g.2.2.2.1 ≠ 0 ∧ lenV (g.1 : Int) ≤ 67108864 ∧ lenV (g.2.1 : Int) ≤ 67108864 ∧ lenV (g.2.2.1 : Int) ≤ 67108864 ∧ lenV (g.2.2.2.1 : Int) ≤ 67108864 ∧ (g.2.2.2.2 = 1 ∨ g.2.2.2.2 = -1) ∧ g.2.2.2.2 * cN g.1 g.2.1 g.2.2.1 g.2.2.2.1 = cN a b c d) (fun g => [(0, .n false .u64 (lm (g.1 : Int))), (1, .n false .u64 (lm (g.2.1 : Int))), (2, .n false .u64 (lm (g.2.2.1 : Int))), (3, .n false .u64 (lm (g.2.2.2.1 : Int))), (9, .i .i64 g.2.2.2.2), (8, .u), (10, .u), (11, .u), (12, .u), (13, .u), (14, .u), (15, .u), (16, .u), (17, .u), (18, .u), (19, .u), (20, .u), (21, .u), (22, .u), (23, .u), (24, .u), (25, .u), (26, .u), (27, .u), (28, .u), (29, .u), (30, .u), (31, .u), (32, .u), (33, .u), (34, .u), (35, .u), (36, .u), (37, .u), (38, .u), (39, .u), (40, .u), (41, .u), (42, .u), (43, .u), (44, .u), (45, .u), (46, .u), (47, .u), (48, .u), (49, .u), (50, .u), (51, .u), (52, .u), (53, .u), (54, .u), (55, .u), (56, .u), (57, .u), (58, .u), (59, .u), (60, .u)]) (fun _ => _) (fun g => g.2.1) (a, b, c, d, 1) ?_ ?_ rfl ?_
  · exact ⟨hb, hd0, la, lb, lc, ld, .inl rfl, Int.one_mul _⟩
  · exact (.cons rfl (.cons rfl (.cons rfl (.cons rfl (.cons rfl (.u (.u (.u (.u (.u (.u (.u (.u (.u (.u (.u (.u (.u (.u (.u (.u (.u (.u (.u (.u (.u (.u (.u (.u (.u (.u (.u (.u (.u (.u (.u (.u (.u (.u (.u (.u (.u (.u (.u (.u (.u (.u (.u (.u (.u (.u (.u (.u (.u (.u (.u (.u .nil)))))))))))))))))))))))))))))))))))))))))))))))))))))))))
  · rintro ⟨a1, b1, c1, d1, sg⟩ ⟨hb1, hd1, ba, bb, bc, bd, hsg, hc9⟩
    dsimp only at hb1 hd1 ba bb bc bd hsg hc9 ⊢
    have hlx := @lm_len0 (a1 % b1)
    have hly := @lm_len0 (c1 % d1)
    have bp := Nat.le_trans (lenV_nat (Nat.div_le_self a1 b1)) ba
    have bq := Nat.le_trans (lenV_nat (Nat.div_le_self c1 d1)) bc
    have bx := Nat.le_trans (lenV_nat (Nat.mod_le a1 b1)) ba
    have by9 := Nat.le_trans (lenV_nat (Nat.mod_le c1 d1)) bc
    have llp := lenV_lm bp
    have llq := lenV_lm bq
    have hCp : Spec Try.prog 86 [.n false .u64 (lm ((a1 / b1 : Nat) : Int)), .n false .u64 (lm ((c1 / d1 : Nat) : Int))] (fun o => o = .ret (.i .i64 (cmpI ((a1 / b1 : Nat) : Int) ((c1 / d1 : Nat) : Int)))) := by have h := Compare_v ((a1 / b1 : Nat) : Int) ((c1 / d1 : Nat) : Int) (by omega) (by omega); rwa [Int.natAbs_natCast, Int.natAbs_natCast] at h
    refine jc_seq ?_; refine jc_block ?_; refine jc_seq ?_; refine jc_region ?_; refine jo_l (ly_mv rfl) (hd 18 rfl) ?_; refine jo_l (ly_mv rfl) (hd 19 rfl) ?_
    refine jo_call Try.f110 (halves_v a1 b1 hb1 ba bb) rfl Try.func110 rfl rfl (ovL_cons rfl (ovL_cons rfl ovL_nil)) (.cons .n (.cons .n .nil)) (hd 20 rfl) ?_ (fun ch hp => by simp at hp)
    rintro y hy; injection hy with hy; subst hy; refine jo_l (ly_mv rfl) (hd 17 rfl) ?_; refine jo_l (ly_ext rfl rfl) (hd 21 rfl) ?_; refine jo_l (ly_ext rfl rfl) (hd 22 rfl) ?_; refine jo_l (ly_as rfl) (hd 10 rfl) ?_; refine jo_l (ly_as rfl) (hd 11 rfl) ?_; refine jo_nil ?_; refine jc_seq ?_; refine jc_region ?_; refine jo_l (ly_mv rfl) (hd 24 rfl) ?_; refine jo_l (ly_mv rfl) (hd 25 rfl) ?_
    refine jo_call Try.f110 (halves_v c1 d1 hd1 bc bd) rfl Try.func110 rfl rfl (ovL_cons rfl (ovL_cons rfl ovL_nil)) (.cons .n (.cons .n .nil)) (hd 26 rfl) ?_ (fun ch hp => by simp at hp)
    rintro y hy; injection hy with hy; subst hy; refine jo_l (ly_mv rfl) (hd 23 rfl) ?_; refine jo_l (ly_ext rfl rfl) (hd 27 rfl) ?_; refine jo_l (ly_ext rfl rfl) (hd 28 rfl) ?_; refine jo_l (ly_as rfl) (hd 12 rfl) ?_; refine jo_l (ly_as rfl) (hd 13 rfl) ?_; refine jo_nil ?_; refine jc_seq ?_; refine jc_seq ?_; refine jc_region ?_; refine jo_l (ly_mv rfl) (hd 29 rfl) ?_; refine jo_l (ly_mv rfl) (hd 30 rfl) ?_
    refine jo_call Try.f86 (hCp) rfl Try.func86 rfl rfl (ovL_cons rfl (ovL_cons rfl ovL_nil)) (.cons .n (.cons .n .nil)) (hd 31 rfl) ?_ (fun ch hp => by simp at hp)
    rintro y hy; injection hy with hy; subst hy; refine jo_l (ly_as rfl) (hd 14 rfl) ?_; refine jo_nil ?_; refine jc_seq ?_; refine jc_region ?_; refine jo_l (ly_mv rfl) (hd 32 rfl) ?_; refine jo_l (ly_ne rfl rfl) (hd 33 rfl) ?_; refine jo_nil ?_
    refine jc_if rfl (fun h1 => ?_) (fun h1 => ?_)
    · have hne : a1 / b1 ≠ c1 / d1 := fun e => h1 (by rw [e]; exact cmpI_0.2 rfl)
      have hcq := cN_q hb1 hd1 hne
      have hcr := @cN_rng a b c d
      refine jc_seq ?_; refine jc_region ?_; refine jo_l (ly_mv rfl) (hd 34 rfl) ?_; refine jo_l (ly_mv rfl) (hd 35 rfl) ?_; refine jo_l (ly_mul rfl rfl (r := cN a b c d) (by rw [hcq, hc9]; exact wrap_i64 (by omega) (by omega))) (hd 36 rfl) ?_; refine jo_l (ly_as rfl) (hd 8 rfl) ?_; refine jo_nil ?_; refine jc_ret ?_
      refine ⟨_, _, (.cons rfl .nil), .i, ?_⟩
      exact rfl
    · have hqe : a1 / b1 = c1 / d1 := by have h9 := cmpI_0.1 (Decidable.not_not.1 h1); omega
      have hz := cN_z hb1 hd1 hqe
      refine jc_skip ?_; refine jc_seq ?_; refine jc_block ?_; refine jc_seq ?_; refine jc_region ?_; refine jo_l (ly_mv rfl) (hd 38 rfl) ?_; refine jo_l (ly_lenn sl28 rfl) (hd 39 rfl) ?_; refine jo_l (ly_eq rfl rfl) (hd 40 rfl) ?_; refine jo_l (ly_mv rfl) (hd 41 rfl) ?_
      refine jo_ifp 41 rfl (fun h2 => ?_) (fun h2 => ?_)
      · have hxz : a1 % b1 = 0 := hlx.1 (by omega)
        refine jo_g 41 rfl rfl (ly_mv rfl) (hd 42 rfl) ?_; refine jo_g 41 rfl rfl (ly_lenn sl28 rfl) (hd 43 rfl) ?_; refine jo_g 41 rfl rfl (ly_eq rfl rfl) (hd 44 rfl) ?_; refine jo_l (ly_pick_t rfl rfl) (hd 45 rfl) ?_; refine jo_l (ly_as rfl) (hd 37 rfl) ?_; refine jo_nil ?_
        refine jc_if rfl (fun h3 => ?_) (fun h3 => ?_)
        · have hyz : c1 % d1 = 0 := hly.1 (by omega)
          refine jc_seq ?_; refine jc_region ?_; refine jo_l (ly_as rfl) (hd 8 rfl) ?_; refine jo_nil ?_; refine jc_ret ?_
          refine ⟨_, _, (.cons rfl .nil), .i, ?_⟩
          first | (exfalso; omega) | (rw [← hc9, hz.1 hxz hyz, Int.mul_zero]) | (rw [← hc9, hz.2.1 hxz hyn]; show Out.ret (V.i .i64 _) = Out.ret (V.i .i64 _); congr 2; omega) | (rw [← hc9, hz.2.2 hxn hyz2]; show Out.ret (V.i .i64 _) = Out.ret (V.i .i64 _); congr 2; omega)
        · have hyn : c1 % d1 ≠ 0 := fun e => h3 (by have := hly.2 e; omega)
          refine jc_seq ?_; refine jc_region ?_; refine jo_l (ly_mv rfl) (hd 47 rfl) ?_; refine jo_l (ly_lenn sl28 rfl) (hd 48 rfl) ?_; refine jo_l (ly_eq rfl rfl) (hd 49 rfl) ?_; refine jo_l (ly_as rfl) (hd 46 rfl) ?_; refine jo_nil ?_
          refine jc_if rfl (fun h4 => ?_) (fun h4 => ?_)
          · have hxz2 : a1 % b1 = 0 := hlx.1 (by omega)
            refine jc_seq ?_; refine jc_region ?_; refine jo_l (ly_mv rfl) (hd 50 rfl) ?_; refine jo_l (ly_neg rfl (r := -sg) (by rw [wrap_i64 (by omega) (by omega)]; omega)) (hd 51 rfl) ?_; refine jo_l (ly_as rfl) (hd 8 rfl) ?_; refine jo_nil ?_; refine jc_ret ?_
            refine ⟨_, _, (.cons rfl .nil), .i, ?_⟩
            first | (exfalso; omega) | (rw [← hc9, hz.1 hxz hyz, Int.mul_zero]) | (rw [← hc9, hz.2.1 hxz hyn]; show Out.ret (V.i .i64 _) = Out.ret (V.i .i64 _); congr 2; omega) | (rw [← hc9, hz.2.2 hxn hyz2]; show Out.ret (V.i .i64 _) = Out.ret (V.i .i64 _); congr 2; omega)
          · have hxn2 : a1 % b1 ≠ 0 := fun e => h4 (by have := hlx.2 e; omega)
            refine jc_seq ?_; refine jc_region ?_; refine jo_l (ly_mv rfl) (hd 53 rfl) ?_; refine jo_l (ly_lenn sl28 rfl) (hd 54 rfl) ?_; refine jo_l (ly_eq rfl rfl) (hd 55 rfl) ?_; refine jo_l (ly_as rfl) (hd 52 rfl) ?_; refine jo_nil ?_
            refine jc_if rfl (fun h5 => ?_) (fun h5 => ?_)
            · have hyz2 : c1 % d1 = 0 := hly.1 (by omega)
              refine jc_seq ?_; refine jc_region ?_; refine jo_l (ly_mv rfl) (hd 56 rfl) ?_; refine jo_l (ly_as rfl) (hd 8 rfl) ?_; refine jo_nil ?_; refine jc_ret ?_
              refine ⟨_, _, (.cons rfl .nil), .i, ?_⟩
              first | (exfalso; omega) | (rw [← hc9, hz.1 hxz hyz, Int.mul_zero]) | (rw [← hc9, hz.2.1 hxz hyn]; show Out.ret (V.i .i64 _) = Out.ret (V.i .i64 _); congr 2; omega) | (rw [← hc9, hz.2.2 hxn hyz2]; show Out.ret (V.i .i64 _) = Out.ret (V.i .i64 _); congr 2; omega)
            · have hyn2 : c1 % d1 ≠ 0 := fun e => h5 (by have := hly.2 e; omega)
              refine jc_skip ?_; refine jc_region ?_; refine jo_l (ly_mv rfl) (hd 57 rfl) ?_; refine jo_l (ly_mv rfl) (hd 58 rfl) ?_; refine jo_l (ly_mv rfl) (hd 59 rfl) ?_; refine jo_l (ly_mv rfl) (hd 60 rfl) ?_; refine jo_l (ly_as rfl) (hd 0 rfl) ?_; refine jo_l (ly_as rfl) (hd 1 rfl) ?_; refine jo_l (ly_as rfl) (hd 2 rfl) ?_; refine jo_l (ly_as rfl) (hd 3 rfl) ?_; refine jo_nil ?_; refine jc_region ?_; refine jo_l (ly_mv rfl) (hd 15 rfl) ?_; refine jo_l (ly_neg rfl (r := -sg) (by rw [wrap_i64 (by omega) (by omega)]; omega)) (hd 16 rfl) ?_; refine jo_l (ly_as rfl) (hd 9 rfl) ?_; refine jo_nil ?_
              refine ⟨(b1, a1 % b1, d1, c1 % d1, -sg), ?_, ?_, rfl, cov_n 108 (by kernel_rfl) (by kernel_rfl) ?_⟩
              · first | (exfalso; omega) | exact ⟨by dsimp only; omega, by dsimp only; omega, bb, bx, bd, by9, (by dsimp only; omega), (by show -sg * cN b1 (a1 % b1) d1 (c1 % d1) = _; rw [cN_n hqe, Int.neg_mul_neg]; exact hc9)⟩
              · exact Nat.mod_lt _ (by omega)
              · exact (.cons rfl (.cons rfl (.cons rfl (.cons rfl (.cons rfl (.u (.u (.u (.u (.u (.u (.u (.u (.u (.u (.u (.u (.u (.u (.u (.u (.u (.u (.u (.u (.u (.u (.u (.u (.u (.u (.u (.u (.u (.u (.u (.u (.u (.u (.u (.u (.u (.u (.u (.u (.u (.u (.u (.u (.u (.u (.u (.u (.u (.u (.u (.u .nil)))))))))))))))))))))))))))))))))))))))))))))))))))))))))
      · have hxn : a1 % b1 ≠ 0 := fun e => h2 (by have := hlx.2 e; omega)
        refine jo_s 41 rfl rfl rfl (hd 42 rfl) ?_; refine jo_s 41 rfl rfl rfl (hd 43 rfl) ?_; refine jo_s 41 rfl rfl rfl (hd 44 rfl) ?_; refine jo_l (ly_pick_f rfl rfl) (hd 45 rfl) ?_; refine jo_l (ly_as rfl) (hd 37 rfl) ?_; refine jo_nil ?_; refine jc_litf rfl ?_; refine jc_seq ?_; refine jc_region ?_; refine jo_l (ly_mv rfl) (hd 47 rfl) ?_; refine jo_l (ly_lenn sl28 rfl) (hd 48 rfl) ?_; refine jo_l (ly_eq rfl rfl) (hd 49 rfl) ?_; refine jo_l (ly_as rfl) (hd 46 rfl) ?_; refine jo_nil ?_
        refine jc_if rfl (fun h7 => ?_) (fun h7 => ?_)
        · have hxz2 : a1 % b1 = 0 := hlx.1 (by omega)
          refine jc_seq ?_; refine jc_region ?_; refine jo_l (ly_mv rfl) (hd 50 rfl) ?_; refine jo_l (ly_neg rfl (r := -sg) (by rw [wrap_i64 (by omega) (by omega)]; omega)) (hd 51 rfl) ?_; refine jo_l (ly_as rfl) (hd 8 rfl) ?_; refine jo_nil ?_; refine jc_ret ?_
          refine ⟨_, _, (.cons rfl .nil), .i, ?_⟩
          first | (exfalso; omega) | (rw [← hc9, hz.1 hxz hyz, Int.mul_zero]) | (rw [← hc9, hz.2.1 hxz hyn]; show Out.ret (V.i .i64 _) = Out.ret (V.i .i64 _); congr 2; omega) | (rw [← hc9, hz.2.2 hxn hyz2]; show Out.ret (V.i .i64 _) = Out.ret (V.i .i64 _); congr 2; omega)
        · have hxn2 : a1 % b1 ≠ 0 := fun e => h7 (by have := hlx.2 e; omega)
          refine jc_seq ?_; refine jc_region ?_; refine jo_l (ly_mv rfl) (hd 53 rfl) ?_; refine jo_l (ly_lenn sl28 rfl) (hd 54 rfl) ?_; refine jo_l (ly_eq rfl rfl) (hd 55 rfl) ?_; refine jo_l (ly_as rfl) (hd 52 rfl) ?_; refine jo_nil ?_
          refine jc_if rfl (fun h8 => ?_) (fun h8 => ?_)
          · have hyz2 : c1 % d1 = 0 := hly.1 (by omega)
            refine jc_seq ?_; refine jc_region ?_; refine jo_l (ly_mv rfl) (hd 56 rfl) ?_; refine jo_l (ly_as rfl) (hd 8 rfl) ?_; refine jo_nil ?_; refine jc_ret ?_
            refine ⟨_, _, (.cons rfl .nil), .i, ?_⟩
            first | (exfalso; omega) | (rw [← hc9, hz.1 hxz hyz, Int.mul_zero]) | (rw [← hc9, hz.2.1 hxz hyn]; show Out.ret (V.i .i64 _) = Out.ret (V.i .i64 _); congr 2; omega) | (rw [← hc9, hz.2.2 hxn hyz2]; show Out.ret (V.i .i64 _) = Out.ret (V.i .i64 _); congr 2; omega)
          · have hyn2 : c1 % d1 ≠ 0 := fun e => h8 (by have := hly.2 e; omega)
            refine jc_skip ?_; refine jc_region ?_; refine jo_l (ly_mv rfl) (hd 57 rfl) ?_; refine jo_l (ly_mv rfl) (hd 58 rfl) ?_; refine jo_l (ly_mv rfl) (hd 59 rfl) ?_; refine jo_l (ly_mv rfl) (hd 60 rfl) ?_; refine jo_l (ly_as rfl) (hd 0 rfl) ?_; refine jo_l (ly_as rfl) (hd 1 rfl) ?_; refine jo_l (ly_as rfl) (hd 2 rfl) ?_; refine jo_l (ly_as rfl) (hd 3 rfl) ?_; refine jo_nil ?_; refine jc_region ?_; refine jo_l (ly_mv rfl) (hd 15 rfl) ?_; refine jo_l (ly_neg rfl (r := -sg) (by rw [wrap_i64 (by omega) (by omega)]; omega)) (hd 16 rfl) ?_; refine jo_l (ly_as rfl) (hd 9 rfl) ?_; refine jo_nil ?_
            refine ⟨(b1, a1 % b1, d1, c1 % d1, -sg), ?_, ?_, rfl, cov_n 108 (by kernel_rfl) (by kernel_rfl) ?_⟩
            · first | (exfalso; omega) | exact ⟨by dsimp only; omega, by dsimp only; omega, bb, bx, bd, by9, (by dsimp only; omega), (by show -sg * cN b1 (a1 % b1) d1 (c1 % d1) = _; rw [cN_n hqe, Int.neg_mul_neg]; exact hc9)⟩
            · exact Nat.mod_lt _ (by omega)
            · exact (.cons rfl (.cons rfl (.cons rfl (.cons rfl (.cons rfl (.u (.u (.u (.u (.u (.u (.u (.u (.u (.u (.u (.u (.u (.u (.u (.u (.u (.u (.u (.u (.u (.u (.u (.u (.u (.u (.u (.u (.u (.u (.u (.u (.u (.u (.u (.u (.u (.u (.u (.u (.u (.u (.u (.u (.u (.u (.u (.u (.u (.u (.u (.u .nil)))))))))))))))))))))))))))))))))))))))))))))))))))))))))

set_option maxHeartbeats 4000000 in
theorem QCmp_s (s : Bool) (l d : List Int) (x y : Nat) (hx : Rw l x) (hy : Rw d y) (z : Int) (Y : Nat) (q1 : Qe s x y z Y) (s2 : Bool) (l2 d2 : List Int) (x2 y2 : Nat) (hx2 : Rw l2 x2) (hy2 : Rw d2 y2) (w : Int) (X : Nat) (q2 : Qe s2 x2 y2 w X) : Spec Try.prog 28 [(.a [.b s, .n false .u64 l, .n false .u64 d]), (.a [.b s2, .n false .u64 l2, .n false .u64 d2])] (fun o => o = .ret (.t [.i .i64 (cmpI (z * (X : Int)) (w * (Y : Int))), .i .i64 0])) := by
  refine spec_ofD [(0, (.a [.b s, .n false .u64 l, .n false .u64 d])), (1, (.a [.b s2, .n false .u64 l2, .n false .u64 d2]))] rfl Try.func28 rfl (Nat.le_of_ble_eq_true rfl) fun Γ 𝓡 hN hds hL hR hE => ?_
  have hd : ∀ d, Nat.blt d 40 = true → d < Γ.N := fun d h => by rw [hN]; exact Nat.le_of_ble_eq_true h
  have h0 := q1.1
  have h02 := q2.1
  have hS1 : Spec Try.prog 52 [(.a [.b s, .n false .u64 l, .n false .u64 d])] (fun o => o = .ret (.i .i64 (sgnI (zs s x)))) := by have h := qsign_s s l d hx.l hx.u; rwa [hx.sv] at h
  have hS2 : Spec Try.prog 52 [(.a [.b s2, .n false .u64 l2, .n false .u64 d2])] (fun o => o = .ret (.i .i64 (sgnI (zs s2 x2)))) := by have h := qsign_s s2 l2 d2 hx2.l hx2.u; rwa [hx2.sv] at h
  have hM1 : Spec Try.prog 71 [.n false .u64 l] (fun o => o = .ret (.n true .u64 (lm (x : Int)))) := by have h := Norm_s l (by have := hx.l; omega); rw [hx.t] at h; exact h
  have hM2 : Spec Try.prog 71 [.n false .u64 d] (fun o => o = .ret (.n true .u64 (lm (y : Int)))) := by have h := Norm_s d (by have := hy.l; omega); rw [hy.t] at h; exact h
  have hM3 : Spec Try.prog 71 [.n false .u64 l2] (fun o => o = .ret (.n true .u64 (lm (x2 : Int)))) := by have h := Norm_s l2 (by have := hx2.l; omega); rw [hx2.t] at h; exact h
  have hM4 : Spec Try.prog 71 [.n false .u64 d2] (fun o => o = .ret (.n true .u64 (lm (y2 : Int)))) := by have h := Norm_s d2 (by have := hy2.l; omega); rw [hy2.t] at h; exact h
  have hCc := compare_v x y x2 y2 h0 h02 hx.b hy.b hx2.b hy2.b
  have hcv := cmp_v q1.1 q2.1 q1.2.1 q2.2.1 q1.2.2 q2.2.2
  have hcq := cmp_q (s := s) (t := s2) (x := x) (x2 := x2) h0 h02
  have hcr := @cN_rng x y x2 y2
  refine jcp_seq ?_; refine jc_region ?_; refine jo_h (hy_box (id := 0) (n := 3) rfl rfl rfl (by decide) rfl) (hd 2 rfl) ?_; refine jo_h (hy_box (id := 1) (n := 3) rfl rfl rfl (by decide) rfl) (hd 3 rfl) ?_; refine jo_h (hy_alloc (id := 2) zero3 (by decide) rfl (by decide) rfl) (hd 4 rfl) ?_; refine jo_h (hy_alloc (id := 3) zero23 (by decide) rfl (by decide) rfl) (hd 5 rfl) ?_; refine jo_nil ?_; refine jcd_defer (g := 69) (caps := [.p 2 0 0, .p 3 0 0]) 4 [_] (ops := [_, _]) rfl Try.func69 rfl rfl rfl hds hR hL hE ?_; refine jo_l (ly_mf (ovL_cons rfl (ovL_cons rfl ovL_nil))) (hd 8 rfl) ?_; refine jo_nil ?_
  refine ⟨rfl, rfl, rfl, ?_⟩
  intro Γ1 hN1 hL hR1
  replace hd : ∀ d, Nat.blt d 40 = true → d < Γ1.N := fun d h => by rw [hN1]; exact hd d h
  refine jo_nil ?_; refine jc_seq ?_; refine jc_region ?_; refine jo_l (ly_lda agg1028 rfl rfl rfl rfl) (hd 9 rfl) ?_; refine jo_l (ly_lda agg1028 rfl rfl rfl rfl) (hd 10 rfl) ?_; refine jo_h (hy_lit (id := 4) (xs := [.tmp 9, .tmp 10]) el1073 rfl (ovL_cons rfl (ovL_cons rfl ovL_nil)) rfl (all2_of rfl) (by decide) rfl) (hd 11 rfl) ?_; refine jo_frzr 11 (sz := 3) [[V.b s, V.n false .u64 l, V.n false .u64 d], [V.b s2, V.n false .u64 l2, V.n false .u64 d2]] rfl rfl rfl rfl (by simp) (by simp [pureV]) (by decide) hL ?_
  refine jo_call Try.f51 (looked_2 s l d y s2 l2 d2 y2 hy h0 hy2 h02) rfl Try.func51 rfl rfl (ovL_cons rfl ovL_nil) (.cons .l .nil) (hd 12 rfl) ?_ (fun ch hp => by simp at hp)
  rintro y hy; injection hy with hy; subst hy; refine jo_nil ?_; refine jc_seq ?_; refine jc_nopan ?_; refine jc_draw (n := 6) _ rfl mixed ?_; refine ja_l2 0 [1, 3, 4, 5] (lo_l (ly_lda agg1028 rfl rfl rfl rfl) (hd 13 rfl)) rfl (by kernel_rfl) (by kernel_rfl) (by kernel_rfl) (by kernel_rfl) (fun _ _ _ _ h => h) ?_; refine ja_l2 2 [3, 4, 5] (lo_l (ly_lda agg1028 rfl rfl rfl rfl) (hd 15 rfl)) rfl (by kernel_rfl) (by kernel_rfl) (by kernel_rfl) (by kernel_rfl) (fun _ _ _ _ h => h) ?_
  refine ja_1 1 ?_ rfl (by kernel_rfl)
  refine js_call Try.f52 (hS1) rfl Try.func52 rfl rfl (ovL_cons rfl ovL_nil) (.cons (.a1 .b (.a1 .n (.a1 .n .a0))) .nil) (hd 14 rfl) ?_ (fun ch hp => by simp at hp)
  rintro y hy; injection hy with hy; subst hy
  refine ja_1 3 ?_ rfl (by kernel_rfl)
  refine js_call Try.f52 (hS2) rfl Try.func52 rfl rfl (ovL_cons rfl ovL_nil) (.cons (.a1 .b (.a1 .n (.a1 .n .a0))) .nil) (hd 16 rfl) ?_ (fun ch hp => by simp at hp)
  rintro y hy; injection hy with hy; subst hy; refine ja_l 4 (lo_l (ly_as rfl) (hd 6 rfl)) rfl (by kernel_rfl) (by kernel_rfl) (by kernel_rfl) (fun _ _ _ _ h => h) ?_; refine ja_l 5 (lo_l (ly_as rfl) (hd 7 rfl)) rfl (by kernel_rfl) (by kernel_rfl) (by kernel_rfl) (fun _ _ _ _ h => h) ?_; refine ja_nil (by kernel_rfl) ?_; refine jc_seq ?_; refine jc_seq ?_; refine jc_region ?_; refine jo_l (ly_mv rfl) (hd 17 rfl) ?_; refine jo_l (ly_mv rfl) (hd 18 rfl) ?_; refine jo_l (ly_ne rfl rfl) (hd 19 rfl) ?_; refine jo_nil ?_
  refine jc_if rfl (fun h1 => ?_) (fun h1 => ?_)
  · have hc1 := h1
    refine jc_seq ?_; refine jc_seq ?_; refine jc_region ?_; refine jo_l (ly_mv rfl) (hd 20 rfl) ?_; refine jo_l (ly_mv rfl) (hd 21 rfl) ?_; refine jo_l (ly_lt rfl rfl) (hd 22 rfl) ?_; refine jo_nil ?_
    refine jc_if rfl (fun h2 => ?_) (fun h2 => ?_)
    · have hc2 := h2
      refine jc_seq ?_; refine jc_region ?_; refine jo_st (sy_store rfl rfl rfl siz3 rfl rfl (Nat.le_of_ble_eq_true rfl)) ?_; refine jo_st (sy_store rfl rfl rfl siz23 rfl rfl (Nat.le_of_ble_eq_true rfl)) ?_; refine jo_nil ?_; refine jc_ret ?_; refine Clo.fin clo_2351 (m := 4) (i := 2) (j := 3) (Nat.le_of_ble_eq_true rfl) rfl rfl rfl rfl ?_
      refine ⟨_, _, (.cons (ResV.cell1 one3 rfl rfl rfl) (.cons (ResV.cell1 one23 rfl rfl rfl) .nil)), (.t1 .i (.t1 .i .t0)), ?_⟩
      rw [← hcv, hcq, if_pos hc1, if_pos hc2]
    · have hc2 := h2
      refine jc_skip ?_; refine jc_seq ?_; refine jc_region ?_; refine jo_st (sy_store rfl rfl rfl siz3 rfl rfl (Nat.le_of_ble_eq_true rfl)) ?_; refine jo_st (sy_store rfl rfl rfl siz23 rfl rfl (Nat.le_of_ble_eq_true rfl)) ?_; refine jo_nil ?_; refine jc_ret ?_; refine Clo.fin clo_2351 (m := 4) (i := 2) (j := 3) (Nat.le_of_ble_eq_true rfl) rfl rfl rfl rfl ?_
      refine ⟨_, _, (.cons (ResV.cell1 one3 rfl rfl rfl) (.cons (ResV.cell1 one23 rfl rfl rfl) .nil)), (.t1 .i (.t1 .i .t0)), ?_⟩
      rw [← hcv, hcq, if_pos hc1, if_neg hc2]
  · have hc1 := h1
    refine jc_skip ?_; refine jc_seq ?_; refine jc_nopan ?_; refine jc_draw (n := 19) _ rfl mixed ?_; refine ja_l 0 (lo_l (ly_mv rfl) (hd 23 rfl)) rfl (by kernel_rfl) (by kernel_rfl) (by kernel_rfl) (fun _ _ _ _ h => h) ?_; refine ja_l2 1 [2, 3, 4, 7, 11, 14, 15, 16, 17, 18] (lo_l (ly_fa fld1028_0 rfl rfl rfl) (hd 24 rfl)) rfl (by kernel_rfl) (by kernel_rfl) (by kernel_rfl) (by kernel_rfl) (fun _ _ _ _ h => h) ?_; refine ja_l2 2 [3, 4, 7, 11, 14, 15, 16, 17, 18] (lo_l (ly_fa fld30_1 rfl rfl rfl) (hd 25 rfl)) rfl (by kernel_rfl) (by kernel_rfl) (by kernel_rfl) (by kernel_rfl) (fun _ _ _ _ h => h) ?_; refine ja_l2 3 [4, 7, 11, 14, 15, 16, 17, 18] (lo_l (ly_ld one28 rfl rfl rfl) (hd 26 rfl)) rfl (by kernel_rfl) (by kernel_rfl) (by kernel_rfl) (by kernel_rfl) (fun _ _ _ _ h => h) ?_; refine ja_l2 5 [6, 7, 11, 14, 15, 16, 17, 18] (lo_l (ly_fa fld1028_1 rfl rfl rfl) (hd 28 rfl)) rfl (by kernel_rfl) (by kernel_rfl) (by kernel_rfl) (by kernel_rfl) (fun _ _ _ _ h => h) ?_; refine ja_l2 6 [7, 11, 14, 15, 16, 17, 18] (lo_l (ly_ld one28 rfl rfl rfl) (hd 29 rfl)) rfl (by kernel_rfl) (by kernel_rfl) (by kernel_rfl) (by kernel_rfl) (fun _ _ _ _ h => h) ?_; refine ja_l2 8 [9, 10, 11, 14, 15, 16, 17, 18] (lo_l (ly_fa fld1028_0 rfl rfl rfl) (hd 31 rfl)) rfl (by kernel_rfl) (by kernel_rfl) (by kernel_rfl) (by kernel_rfl) (fun _ _ _ _ h => h) ?_; refine ja_l2 9 [10, 11, 14, 15, 16, 17, 18] (lo_l (ly_fa fld30_1 rfl rfl rfl) (hd 32 rfl)) rfl (by kernel_rfl) (by kernel_rfl) (by kernel_rfl) (by kernel_rfl) (fun _ _ _ _ h => h) ?_; refine ja_l2 10 [11, 14, 15, 16, 17, 18] (lo_l (ly_ld one28 rfl rfl rfl) (hd 33 rfl)) rfl (by kernel_rfl) (by kernel_rfl) (by kernel_rfl) (by kernel_rfl) (fun _ _ _ _ h => h) ?_; refine ja_l2 12 [13, 14, 15, 16, 17, 18] (lo_l (ly_fa fld1028_1 rfl rfl rfl) (hd 35 rfl)) rfl (by kernel_rfl) (by kernel_rfl) (by kernel_rfl) (by kernel_rfl) (fun _ _ _ _ h => h) ?_; refine ja_l2 13 [14, 15, 16, 17, 18] (lo_l (ly_ld one28 rfl rfl rfl) (hd 36 rfl)) rfl (by kernel_rfl) (by kernel_rfl) (by kernel_rfl) (by kernel_rfl) (fun _ _ _ _ h => h) ?_
    refine ja_1 4 ?_ rfl (by kernel_rfl)
    refine js_call Try.f71 (hM1) rfl Try.func71 rfl rfl (ovL_cons rfl ovL_nil) (.cons .n .nil) (hd 27 rfl) ?_ (fun ch hp => by simp at hp)
    rintro y hy; injection hy with hy; subst hy
    refine ja_1 7 ?_ rfl (by kernel_rfl)
    refine js_call Try.f71 (hM2) rfl Try.func71 rfl rfl (ovL_cons rfl ovL_nil) (.cons .n .nil) (hd 30 rfl) ?_ (fun ch hp => by simp at hp)
    rintro y hy; injection hy with hy; subst hy
    refine ja_1 11 ?_ rfl (by kernel_rfl)
    refine js_call Try.f71 (hM3) rfl Try.func71 rfl rfl (ovL_cons rfl ovL_nil) (.cons .n .nil) (hd 34 rfl) ?_ (fun ch hp => by simp at hp)
    rintro y hy; injection hy with hy; subst hy
    refine ja_1 14 ?_ rfl (by kernel_rfl)
    refine js_call Try.f71 (hM4) rfl Try.func71 rfl rfl (ovL_cons rfl ovL_nil) (.cons .n .nil) (hd 37 rfl) ?_ (fun ch hp => by simp at hp)
    rintro y hy; injection hy with hy; subst hy
    refine ja_1 15 ?_ rfl (by kernel_rfl)
    refine js_call Try.f70 (hCc) rfl Try.func70 rfl rfl (ovL_cons rfl (ovL_cons rfl (ovL_cons rfl (ovL_cons rfl ovL_nil)))) (.cons .n (.cons .n (.cons .n (.cons .n .nil)))) (hd 38 rfl) ?_ (fun ch hp => by simp at hp)
    rintro y hy; injection hy with hy; subst hy; refine ja_l 16 (lo_l (ly_mul rfl rfl (r := sgnI (zs s x) * cN x y x2 y2) (by rcases sgn_range (zs s x) with e | e | e <;> rw [e] <;> exact wrap_i64 (by omega) (by omega))) (hd 39 rfl)) rfl (by kernel_rfl) (by kernel_rfl) (by kernel_rfl) (fun _ _ _ _ h => h) ?_
    refine ja_1 17 ?_ rfl (by kernel_rfl)
    refine js_st (sy_store rfl rfl rfl siz3 rfl rfl (Nat.le_of_ble_eq_true rfl)) rfl ?_
    refine ja_1 18 ?_ rfl (by kernel_rfl)
    refine js_st (sy_store rfl rfl rfl siz23 rfl rfl (Nat.le_of_ble_eq_true rfl)) rfl ?_; refine ja_nil (by kernel_rfl) ?_; refine jc_ret ?_; refine Clo.fin clo_2351 (m := 4) (i := 2) (j := 3) (Nat.le_of_ble_eq_true rfl) rfl rfl rfl rfl ?_
    refine ⟨_, _, (.cons (ResV.cell1 one3 rfl rfl rfl) (.cons (ResV.cell1 one23 rfl rfl rfl) .nil)), (.t1 .i (.t1 .i .t0)), ?_⟩
    rw [← hcv, hcq, if_neg hc1]
end Go.Proofs.Ytpldmajdiljoaaa.Vc

/- Contracts of ratio.Quo, surdlaw07.small. -/
namespace Go.Proofs.Ytpldmajdiljoaaa.Vc
open Go Go.RowKit
set_option maxHeartbeats 4000000 in
theorem QQuo_s (s : Bool) (l d : List Int) (x y : Nat) (hx : Rw l x) (hy : Rw d y) (z : Int) (Y : Nat) (q1 : Qe s x y z Y) (s2 : Bool) (l2 d2 : List Int) (x2 y2 : Nat) (hx2 : Rw l2 x2) (hy2 : Rw d2 y2) (w : Int) (X : Nat) (q2 : Qe s2 x2 y2 w X) (hB : lenV (x : Int) + lenV (y : Int) + lenV (x2 : Int) + lenV (y2 : Int) ≤ 67108864) (hx20 : x2 ≠ 0) : Spec Try.prog 29 [(.a [.b s, .n false .u64 l, .n false .u64 d]), (.a [.b s2, .n false .u64 l2, .n false .u64 d2])] (fun o => o = .ret (.t [(.a [.b (decide ((z * zs (decide (w < 0)) X) < 0)), .n false .u64 (lm ((nn (z * zs (decide (w < 0)) X) (Y * w.natAbs) : Nat) : Int)), .n false .u64 (lm ((dd (z * zs (decide (w < 0)) X) (Y * w.natAbs) : Nat) : Int))]), .i .i64 0])) := by
  refine spec_ofD [(0, (.a [.b s, .n false .u64 l, .n false .u64 d])), (1, (.a [.b s2, .n false .u64 l2, .n false .u64 d2]))] rfl Try.func29 rfl (Nat.le_of_ble_eq_true rfl) fun Γ 𝓡 hN hds hL hR hE => ?_
  have hd : ∀ d, Nat.blt d 31 = true → d < Γ.N := fun d h => by rw [hN]; exact Nat.le_of_ble_eq_true h
  have h0 := q1.1
  have h02 := q2.1
  have hLn : Spec Try.prog 66 [.n false .u64 l2] (fun o => o = .ret (.i .i64 (lenV (x2 : Int)))) := by have h := Length_s l2 (by have := hx2.l; omega) hx2.u; rwa [hx2.n] at h
  have hlz := mt lenV_zero.1 hx20
  refine jcp_seq ?_; refine jc_region ?_; refine jo_h (hy_box (id := 0) (n := 3) rfl rfl rfl (by decide) rfl) (hd 2 rfl) ?_; refine jo_h (hy_box (id := 1) (n := 3) rfl rfl rfl (by decide) rfl) (hd 3 rfl) ?_; refine jo_h (hy_alloc (id := 2) zero1028 (by decide) rfl (by decide) rfl) (hd 4 rfl) ?_; refine jo_h (hy_alloc (id := 3) zero23 (by decide) rfl (by decide) rfl) (hd 5 rfl) ?_; refine jo_nil ?_; refine jcd_defer (g := 72) (caps := [.p 2 0 0, .p 3 0 0]) 4 [_] (ops := [_, _]) rfl Try.func72 rfl rfl rfl hds hR hL hE ?_; refine jo_l (ly_mf (ovL_cons rfl (ovL_cons rfl ovL_nil))) (hd 6 rfl) ?_; refine jo_nil ?_
  refine ⟨rfl, rfl, rfl, ?_⟩
  intro Γ1 hN1 hL hR1
  replace hd : ∀ d, Nat.blt d 31 = true → d < Γ1.N := fun d h => by rw [hN1]; exact hd d h
  refine jo_nil ?_; refine jc_seq ?_; refine jc_region ?_; refine jo_l (ly_lda agg1028 rfl rfl rfl rfl) (hd 7 rfl) ?_; refine jo_l (ly_lda agg1028 rfl rfl rfl rfl) (hd 8 rfl) ?_; refine jo_h (hy_lit (id := 4) (xs := [.tmp 7, .tmp 8]) el1073 rfl (ovL_cons rfl (ovL_cons rfl ovL_nil)) rfl (all2_of rfl) (by decide) rfl) (hd 9 rfl) ?_; refine jo_frzr 9 (sz := 3) [[V.b s, V.n false .u64 l, V.n false .u64 d], [V.b s2, V.n false .u64 l2, V.n false .u64 d2]] rfl rfl rfl rfl (by simp) (by simp [pureV]) (by decide) hL ?_
  refine jo_call Try.f51 (looked_2 s l d y s2 l2 d2 y2 hy h0 hy2 h02) rfl Try.func51 rfl rfl (ovL_cons rfl ovL_nil) (.cons .l .nil) (hd 10 rfl) ?_ (fun ch hp => by simp at hp)
  rintro y hy; injection hy with hy; subst hy; refine jo_nil ?_; refine jc_seq ?_; refine jc_seq ?_; refine jc_region ?_; refine jo_l (ly_fa fld1028_0 rfl rfl rfl) (hd 11 rfl) ?_; refine jo_l (ly_fa fld30_1 rfl rfl rfl) (hd 12 rfl) ?_; refine jo_l (ly_ld one28 rfl rfl rfl) (hd 13 rfl) ?_
  refine jo_call Try.f66 (hLn) rfl Try.func66 rfl rfl (ovL_cons rfl ovL_nil) (.cons .n .nil) (hd 14 rfl) ?_ (fun ch hp => by simp at hp)
  rintro y hy; injection hy with hy; subst hy; refine jo_l (ly_ff (ly_eq rfl rfl) (by omega)) (hd 15 rfl) ?_; refine jo_nil ?_; refine jc_litf rfl ?_; refine jc_skip ?_; refine jc_seq ?_; refine jc_region ?_; refine jo_l (ly_lda agg1028 rfl rfl rfl rfl) (hd 17 rfl) ?_; refine jo_l (ly_fa fld1028_0 rfl rfl rfl) (hd 18 rfl) ?_; refine jo_l (ly_fa fld30_0 rfl rfl rfl) (hd 19 rfl) ?_; refine jo_l (ly_ld one4 rfl rfl rfl) (hd 20 rfl) ?_; refine jo_l (ly_fa fld1028_1 rfl rfl rfl) (hd 21 rfl) ?_; refine jo_l (ly_ld one28 rfl rfl rfl) (hd 22 rfl) ?_; refine jo_l (ly_build (is := [0, 1]) (xs := [.tmp 20, .tmp 22]) zero30 pls30_0_1 rfl (ovL_cons rfl (ovL_cons rfl ovL_nil)) rfl (by first | (simp [plsOk, cellsV]; done) | (simp [plsOk, cellsV, old]; done)) (all_of rfl) rfl) (hd 23 rfl) ?_; refine jo_l (ly_fa fld1028_0 rfl rfl rfl) (hd 24 rfl) ?_; refine jo_l (ly_fa fld30_1 rfl rfl rfl) (hd 25 rfl) ?_; refine jo_l (ly_ld one28 rfl rfl rfl) (hd 26 rfl) ?_; refine jo_l (ly_build (is := [0, 1]) (xs := [.tmp 23, .tmp 26]) zero1028 pls1028_0_1 rfl (ovL_cons rfl (ovL_cons rfl ovL_nil)) rfl ⟨rfl, (by decide), rfl, (by decide), trivial⟩ (all_of rfl) rfl) (hd 27 rfl) ?_
  refine jo_call Try.f27 (QMul_s s l d x y hx hy z Y q1 s2 d2 l2 y2 x2 hy2 hx2 (zs (decide (w < 0)) X) w.natAbs (q2.inv hx20) (by omega)) rfl Try.func27 rfl rfl (ovL_cons rfl (ovL_cons rfl ovL_nil)) (.cons (.a1 .b (.a1 .n (.a1 .n .a0))) (.cons (.a1 .b (.a1 .n (.a1 .n .a0))) .nil)) (hd 28 rfl) ?_ (fun ch hp => by simp at hp)
  rintro y hy; injection hy with hy; subst hy; refine jo_l (ly_ext rfl rfl) (hd 29 rfl) ?_; refine jo_l (ly_ext rfl rfl) (hd 30 rfl) ?_; refine jo_st (sy_store rfl rfl rfl siz1028 rfl rfl (Nat.le_of_ble_eq_true rfl)) ?_; refine jo_st (sy_store rfl rfl rfl siz23 rfl rfl (Nat.le_of_ble_eq_true rfl)) ?_; refine jo_nil ?_; refine jc_ret ?_; refine Clo.fin clo_2353 (m := 4) (i := 2) (j := 3) (Nat.le_of_ble_eq_true rfl) rfl rfl rfl rfl ?_
  refine ⟨_, _, (.cons (ResV.cell agg1028 rfl rfl rfl rfl) (.cons (ResV.cell1 one23 rfl rfl rfl) .nil)), (.t1 (.a1 .b (.a1 .n (.a1 .n .a0))) (.t1 .i .t0)), ?_⟩
  exact rfl

set_option maxHeartbeats 4000000 in
theorem small7_s (rs : List (Bool × List Int × List Int)) (hr : ∀ r ∈ rs, r.2.1.length ≤ 1048576 ∧ u64s r.2.1 ∧ r.2.2.length ≤ 1048576 ∧ u64s r.2.2) (hrl : rs.length ≤ 1000) : Spec Try.prog 25 [.l false 3 (rtsV rs)] (fun o => o = .ret (.b (smallQ rs))) := by
  refine spec_of' [(0, .l false 3 (rtsV rs))] rfl Try.func25 rfl (Nat.le_of_ble_eq_true rfl) fun Γ hN hds hL hR => ?_
  have hd : ∀ d, Nat.blt d 32 = true → d < Γ.N := fun d h => by rw [hN]; exact Nat.le_of_ble_eq_true h
  refine jc_seq ?_; refine jc_region ?_; refine jo_l (ly_as rfl) (hd 2 rfl) ?_; refine jo_nil ?_; refine jc_seq ?_; refine jc_seq ?_; refine jc_region ?_; refine jo_l (ly_mv rfl) (hd 5 rfl) ?_; refine jo_l (ly_lenl sl1073 rfl) (hd 6 rfl) ?_; refine jo_l (ly_mv rfl) (hd 7 rfl) ?_; refine jo_nil ?_; refine jc_block ?_
  refine jc_loopD (G := Nat) 0 (fun i => i ≤ rs.length ∧ ∀ j < i, okR (rat0 rs j)) (fun i => [(7, .i .i64 (i : Int)), (2, .u), (4, .u), (8, .u), (9, .u), (10, .u), (11, .u), (12, .u), (13, .u), (14, .u), (15, .u), (16, .u), (17, .u), (18, .u), (19, .u), (20, .u), (21, .u), (22, .u), (23, .u), (24, .u), (25, .u), (26, .u), (27, .u), (28, .u), (29, .u), (30, .u), (31, .u)]) (fun i => []) (fun i => rs.length - i) 0 ?_ ?_ rfl hR rfl (fun _ _ => rfl) (fun g _ => .nil) ?_
  · exact ⟨Nat.zero_le _, fun j h => absurd h (Nat.not_lt_zero _)⟩
  · exact (.cons rfl (.u (.u (.u (.u (.u (.u (.u (.u (.u (.u (.u (.u (.u (.u (.u (.u (.u (.u (.u (.u (.u (.u (.u (.u (.u (.u .nil)))))))))))))))))))))))))))
  · rintro i ⟨hi, hj⟩; refine jc_seq ?_; refine jc_region ?_; refine jo_l (ly_lt rfl rfl) (hd 8 rfl) ?_; refine jo_nil ?_; refine jc_seq ?_
    refine jc_if rfl (fun h1 => ?_) (fun h1 => ?_)
    · have hil : i < rs.length := by have h9 : (i : Int) < ((rtsV rs).length : Int) := h1; rw [rtsV_len] at h9; omega
      obtain ⟨hn1, hn2, hd1, hd2⟩ := rat0_mem hil hr
      have hOfD := rOf_s (rat0 rs i).2.2 (by omega) hd2
      rw [rOf_v hd2, digs_dg (vl_nonneg hd2)] at hOfD
      have hdlD := dg_lenN (s := false) hd2 rfl
      have hLeD := Len_s (vl (rat0 rs i).2.2) (by have h9 : sv false (rat0 rs i).2.2 = vl (rat0 rs i).2.2 := rfl; rw [← h9]; omega)
      have hOfN := rOf_s (rat0 rs i).2.1 (by omega) hn2
      rw [rOf_v hn2, digs_dg (vl_nonneg hn2)] at hOfN
      have hdlN := dg_lenN (s := false) hn2 rfl
      have hLeN := Len_s (vl (rat0 rs i).2.1) (by have h9 : sv false (rat0 rs i).2.1 = vl (rat0 rs i).2.1 := rfl; rw [← h9]; omega)
      have hdz := @dg_lenv (vl (rat0 rs i).2.2)
      refine jc_skip ?_; refine jc_seq ?_; refine jc_block ?_; refine jc_seq ?_; refine jc_region ?_; refine jo_l (ly_ial (i := i) (row := [V.b (rat0 rs i).1, V.n false .u64 (rat0 rs i).2.1, V.n false .u64 (rat0 rs i).2.2]) sl1073 rfl rfl (by omega) (rtsV_at hil)) (hd 9 rfl) ?_; refine jo_l (ly_ldqa agg1028 rfl rfl rfl) (hd 10 rfl) ?_; refine jo_h (hy_alloc (id := 0) zero1028 (by decide) rfl (by decide) rfl) (hd 4 rfl) ?_; refine jo_st (sy_store rfl rfl rfl siz1028 rfl rfl (Nat.le_of_ble_eq_true rfl)) ?_; refine jo_nil ?_; refine jc_seq ?_; refine jc_region ?_; refine jo_l (ly_fa fld1028_1 rfl rfl rfl) (hd 11 rfl) ?_; refine jo_l (ly_ld one28 rfl rfl rfl) (hd 12 rfl) ?_
      refine jo_call Try.f41 (hOfD) rfl Try.func41 rfl rfl (ovL_cons rfl ovL_nil) (.cons .n .nil) (hd 13 rfl) ?_ (fun ch hp => by simp at hp)
      rintro y hy; injection hy with hy; subst hy; refine jo_l (ly_lenn sl33 rfl) (hd 14 rfl) ?_; refine jo_l (ly_eq rfl rfl) (hd 15 rfl) ?_; refine jo_l (ly_mv rfl) (hd 16 rfl) ?_
      refine jo_ifp 16 rfl (fun h2 => ?_) (fun h2 => ?_)
      · have hk : ¬ okR (rat0 rs i) := fun h9 => h9.1 (hdz.1 h2)
        refine jo_s 16 rfl rfl rfl (hd 17 rfl) ?_; refine jo_s 16 rfl rfl rfl (hd 18 rfl) ?_; refine jo_s 16 rfl rfl rfl (hd 19 rfl) ?_; refine jo_s 16 rfl rfl rfl (hd 20 rfl) ?_; refine jo_s 16 rfl rfl rfl (hd 21 rfl) ?_; refine jo_l (ly_pick_t rfl rfl) (hd 22 rfl) ?_; refine jo_l (ly_mv rfl) (hd 23 rfl) ?_; refine jo_s 23 rfl rfl rfl (hd 24 rfl) ?_; refine jo_s 23 rfl rfl rfl (hd 25 rfl) ?_; refine jo_s 23 rfl rfl rfl (hd 26 rfl) ?_; refine jo_s 23 rfl rfl rfl (hd 27 rfl) ?_; refine jo_s 23 rfl rfl rfl (hd 28 rfl) ?_; refine jo_s 23 rfl rfl rfl (hd 29 rfl) ?_; refine jo_l (ly_pick_t rfl rfl) (hd 30 rfl) ?_; refine jo_nil ?_; refine jc_litt rfl ?_; refine jc_seq ?_; refine jc_region ?_; refine jo_l (ly_as rfl) (hd 2 rfl) ?_; refine jo_nil ?_; refine jc_ret ?_
        refine ⟨_, _, (.cons rfl .nil), .b, ?_⟩
        first | rw [smallQ_n hil hk] | rw [smallQ_y hj]
      · have hk1 : vl (rat0 rs i).2.2 ≠ 0 := fun e => h2 (hdz.2 e)
        refine jo_g 16 rfl rfl (ly_fa fld1028_1 rfl rfl rfl) (hd 17 rfl) ?_; refine jo_g 16 rfl rfl (ly_ld one28 rfl rfl rfl) (hd 18 rfl) ?_
        refine jo_callg Try.f41 16 rfl rfl (hOfD) rfl Try.func41 rfl rfl (ovL_cons rfl ovL_nil) (.cons .n .nil) (hd 19 rfl) ?_ (fun ch hp => by simp at hp)
        rintro y hy; injection hy with hy; subst hy
        refine jo_callg Try.f33 16 rfl rfl (hLeD) rfl Try.func33 rfl rfl (ovL_cons rfl ovL_nil) (.cons .n .nil) (hd 20 rfl) ?_ (fun ch hp => by simp at hp)
        rintro y hy; injection hy with hy; subst hy; refine jo_g 16 rfl rfl (ly_gt rfl rfl) (hd 21 rfl) ?_; refine jo_l (ly_pick_f rfl rfl) (hd 22 rfl) ?_; refine jo_l (ly_mv rfl) (hd 23 rfl) ?_
        refine jo_ifp 23 rfl (fun h4 => ?_) (fun h4 => ?_)
        · have hk : ¬ okR (rat0 rs i) := fun h9 => by have := h9.2.1; omega
          refine jo_s 23 rfl rfl rfl (hd 24 rfl) ?_; refine jo_s 23 rfl rfl rfl (hd 25 rfl) ?_; refine jo_s 23 rfl rfl rfl (hd 26 rfl) ?_; refine jo_s 23 rfl rfl rfl (hd 27 rfl) ?_; refine jo_s 23 rfl rfl rfl (hd 28 rfl) ?_; refine jo_s 23 rfl rfl rfl (hd 29 rfl) ?_; refine jo_l (ly_pick_t rfl rfl) (hd 30 rfl) ?_; refine jo_nil ?_; refine jc_litt rfl ?_; refine jc_seq ?_; refine jc_region ?_; refine jo_l (ly_as rfl) (hd 2 rfl) ?_; refine jo_nil ?_; refine jc_ret ?_
          refine ⟨_, _, (.cons rfl .nil), .b, ?_⟩
          first | rw [smallQ_n hil hk] | rw [smallQ_y hj]
        · refine jo_g 23 rfl rfl (ly_fa fld1028_0 rfl rfl rfl) (hd 24 rfl) ?_; refine jo_g 23 rfl rfl (ly_fa fld30_1 rfl rfl rfl) (hd 25 rfl) ?_; refine jo_g 23 rfl rfl (ly_ld one28 rfl rfl rfl) (hd 26 rfl) ?_
          refine jo_callg Try.f41 23 rfl rfl (hOfN) rfl Try.func41 rfl rfl (ovL_cons rfl ovL_nil) (.cons .n .nil) (hd 27 rfl) ?_ (fun ch hp => by simp at hp)
          rintro y hy; injection hy with hy; subst hy
          refine jo_callg Try.f33 23 rfl rfl (hLeN) rfl Try.func33 rfl rfl (ovL_cons rfl ovL_nil) (.cons .n .nil) (hd 28 rfl) ?_ (fun ch hp => by simp at hp)
          rintro y hy; injection hy with hy; subst hy; refine jo_g 23 rfl rfl (ly_gt rfl rfl) (hd 29 rfl) ?_; refine jo_l (ly_pick_f rfl rfl) (hd 30 rfl) ?_; refine jo_nil ?_
          refine jc_if rfl (fun h6 => ?_) (fun h6 => ?_)
          · have hk : ¬ okR (rat0 rs i) := fun h9 => by have := h9.2.2; omega
            refine jc_seq ?_; refine jc_region ?_; refine jo_l (ly_as rfl) (hd 2 rfl) ?_; refine jo_nil ?_; refine jc_ret ?_
            refine ⟨_, _, (.cons rfl .nil), .b, ?_⟩
            first | rw [smallQ_n hil hk] | rw [smallQ_y hj]
          · refine jc_skip ?_; refine jc_region ?_; refine jo_l (ly_add rfl rfl (r := ((i + 1 : Nat) : Int)) (by rw [wrap_i64 (by omega) (by omega)]; omega)) (hd 31 rfl) ?_; refine jo_l (ly_mv rfl) (hd 7 rfl) ?_; refine jo_nil ?_
            refine ⟨i + 1, ?_, ?_, rfl, cov_n 55 rfl rfl ?_⟩
            · exact ⟨by omega, fun j hjj => by rcases Nat.lt_or_ge j i with h9 | h9; exact hj j h9; rw [show j = i by omega]; exact ⟨hk1, by omega, by omega⟩⟩
            · omega
            · exact (.cons rfl (.u (.u (.u (.u (.u (.u (.u (.u (.u (.u (.u (.u (.u (.u (.u (.u (.u (.u (.u (.u (.u (.u (.u (.u (.u (.u .nil)))))))))))))))))))))))))))
    · obtain rfl : i = rs.length := by have h9 : ¬ (i : Int) < ((rtsV rs).length : Int) := h1; rw [rtsV_len] at h9; omega
      refine jc_exit ?_; refine jc_seq ?_; refine jc_region ?_; refine jo_l (ly_as rfl) (hd 2 rfl) ?_; refine jo_nil ?_; refine jc_ret ?_
      refine ⟨_, _, (.cons rfl .nil), .b, ?_⟩
      first | rw [smallQ_n hil hk] | rw [smallQ_y hj]
end Go.Proofs.Ytpldmajdiljoaaa.Vc

/- Rationals by their values: the contracts of Add, Mul, Quo, Compare. -/
namespace Go.Proofs.Ytpldmajdiljoaaa.Vc
open Go Go.RowKit
theorem QAdd_r {s : Bool} {l d : List Int} {x y : Nat} {z : Int} {Y b : Nat} (h1 : Qr s l d x y z Y b) {s2 : Bool} {l2 d2 : List Int} {x2 y2 : Nat} {w : Int} {X c : Nat} (h2 : Qr s2 l2 d2 x2 y2 w X c) (hb : 2 * b + 2 * c + 1 ≤ 67108864) : Spec Try.prog 26 [(.a [.b s, .n false .u64 l, .n false .u64 d]), (.a [.b s2, .n false .u64 l2, .n false .u64 d2])] (fun o => o = .ret (.t [(.a [.b (decide ((z * (X : Int) + w * (Y : Int)) < 0)), .n false .u64 (lm ((nn (z * (X : Int) + w * (Y : Int)) (Y * X) : Nat) : Int)), .n false .u64 (lm ((dd (z * (X : Int) + w * (Y : Int)) (Y * X) : Nat) : Int))]), .i .i64 0])) :=
  QAdd_s s l d x y h1.hx h1.hy z Y h1.q s2 l2 d2 x2 y2 h2.hx h2.hy w X h2.q (by have a1 := h1.bx; have a2 := h1.bd; have a3 := h2.bx; have a4 := h2.bd; omega)

theorem QMul_r {s : Bool} {l d : List Int} {x y : Nat} {z : Int} {Y b : Nat} (h1 : Qr s l d x y z Y b) {s2 : Bool} {l2 d2 : List Int} {x2 y2 : Nat} {w : Int} {X c : Nat} (h2 : Qr s2 l2 d2 x2 y2 w X c) (hb : 2 * b + 2 * c + 1 ≤ 67108864) : Spec Try.prog 27 [(.a [.b s, .n false .u64 l, .n false .u64 d]), (.a [.b s2, .n false .u64 l2, .n false .u64 d2])] (fun o => o = .ret (.t [(.a [.b (decide ((z * w) < 0)), .n false .u64 (lm ((nn (z * w) (Y * X) : Nat) : Int)), .n false .u64 (lm ((dd (z * w) (Y * X) : Nat) : Int))]), .i .i64 0])) :=
  QMul_s s l d x y h1.hx h1.hy z Y h1.q s2 l2 d2 x2 y2 h2.hx h2.hy w X h2.q (by have a1 := h1.bx; have a2 := h1.bd; have a3 := h2.bx; have a4 := h2.bd; omega)

theorem QQuo_r {s : Bool} {l d : List Int} {x y : Nat} {z : Int} {Y b : Nat} (h1 : Qr s l d x y z Y b) {s2 : Bool} {l2 d2 : List Int} {x2 y2 : Nat} {w : Int} {X c : Nat} (h2 : Qr s2 l2 d2 x2 y2 w X c) (hb : 2 * b + 2 * c + 1 ≤ 67108864) (hx20 : x2 ≠ 0) : Spec Try.prog 29 [(.a [.b s, .n false .u64 l, .n false .u64 d]), (.a [.b s2, .n false .u64 l2, .n false .u64 d2])] (fun o => o = .ret (.t [(.a [.b (decide ((z * zs (decide (w < 0)) X) < 0)), .n false .u64 (lm ((nn (z * zs (decide (w < 0)) X) (Y * w.natAbs) : Nat) : Int)), .n false .u64 (lm ((dd (z * zs (decide (w < 0)) X) (Y * w.natAbs) : Nat) : Int))]), .i .i64 0])) :=
  QQuo_s s l d x y h1.hx h1.hy z Y h1.q s2 l2 d2 x2 y2 h2.hx h2.hy w X h2.q (by have a1 := h1.bx; have a2 := h1.bd; have a3 := h2.bx; have a4 := h2.bd; omega) hx20

theorem QCmp_r {s : Bool} {l d : List Int} {x y : Nat} {z : Int} {Y b : Nat} (h1 : Qr s l d x y z Y b) {s2 : Bool} {l2 d2 : List Int} {x2 y2 : Nat} {w : Int} {X c : Nat} (h2 : Qr s2 l2 d2 x2 y2 w X c) : Spec Try.prog 28 [(.a [.b s, .n false .u64 l, .n false .u64 d]), (.a [.b s2, .n false .u64 l2, .n false .u64 d2])] (fun o => o = .ret (.t [.i .i64 (cmpI (z * (X : Int)) (w * (Y : Int))), .i .i64 0])) :=
  QCmp_s s l d x y h1.hx h1.hy z Y h1.q s2 l2 d2 x2 y2 h2.hx h2.hy w X h2.q
end Go.Proofs.Ytpldmajdiljoaaa.Vc
