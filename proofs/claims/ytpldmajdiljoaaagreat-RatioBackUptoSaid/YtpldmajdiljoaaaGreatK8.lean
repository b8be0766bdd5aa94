/- surdlaw07.RatioBack answers true for every rational of bulk at most 1048576, and leaves its input as it was: Parse undoes Print, Unchain undoes Chain Texts joined: So, Sp, Xb, Xc, Xd, Xe, Xf, Xg, Xh, Xi, Xj, Xja, Ra, Rc, Xv, Re. -/
import Derived.Test.YtpldmajdiljoaaaGreatK7
set_option linter.unusedVariables false
set_option linter.unusedSimpArgs false
set_option maxHeartbeats 4000000
namespace Go.Proofs.YtpldmajdiljoaaaGreat.Vc
open Go Go.RowKit
theorem Gcd_v (l l2 : List Int) (x y : Nat) (hl : l.length ≤ 1048576) (hl2 : l2.length ≤ 1048576) (hu : u64s l) (hu2 : u64s l2) (hx : vl l = (x : Int)) (hy : vl l2 = (y : Int)) : Spec Tryz.prog 33 [.n false .u64 l, .n false .u64 l2] (fun o => o = .ret (.n false .u64 (lm ((Nat.gcd x y : Nat) : Int)))) := by
  refine spec_of' [(0, .n false .u64 l), (1, .n false .u64 l2)] rfl Tryz.func33 rfl (zlb rfl) fun Γ hN hds hL hR => ?_
  have hd := hdOf 23 hN
  have hlx : lenV (x : Int) ≤ 67108864 := by have h9 := lenV_64 (s := false) hu; rw [show sv false l = (x : Int) from hx] at h9; omega
  have hly : lenV (y : Int) ≤ 67108864 := by have h9 := lenV_64 (s := false) hu2; rw [show sv false l2 = (y : Int) from hy] at h9; omega
  have hNa : Spec Tryz.prog 51 [.n false .u64 l] (fun o => o = .ret (.n false .u64 (lm (x : Int)))) := by have h := Norm_s l (by omega); rw [trm_lm hu hx] at h; exact h.nn
  have hNb : Spec Tryz.prog 51 [.n false .u64 l2] (fun o => o = .ret (.n false .u64 (lm (y : Int)))) := by have h := Norm_s l2 (by omega); rw [trm_lm hu2 hy] at h; exact h.nn
  refine zsr <| zas rfl (hd 4 rfl) <| jo_nil <| zsr <| zmv rfl (hd 7 rfl) ?_
  refine jo_call Tryz.f51 (hNa) rfl Tryz.func51 rfl rfl (ovL_cons rfl ovL_nil) (.cons .n .nil) (hd 8 rfl) ?_ (fun ch hp => by simp at hp)
  rintro _ ⟨⟩; refine zmv rfl (hd 9 rfl) ?_
  refine jo_call Tryz.f51 (hNb) rfl Tryz.func51 rfl rfl (ovL_cons rfl ovL_nil) (.cons .n .nil) (hd 10 rfl) ?_ (fun ch hp => by simp at hp)
  rintro _ ⟨⟩; refine zas rfl (hd 0 rfl) <| zas rfl (hd 1 rfl) <| jo_nil <| jc_seq <| jc_block ?_
  refine jc_loopF (G := Nat × Nat) (fun g => Nat.gcd g.1 g.2 = Nat.gcd x y ∧ lenV (g.1 : Int) ≤ 67108864 ∧ lenV (g.2 : Int) ≤ 67108864) (fun g => [(0, .n false .u64 (lm (g.1 : Int))), (1, .n false .u64 (lm (g.2 : Int))), (5, .u), (6, .u), (11, .u), (12, .u), (13, .u), (14, .u), (15, .u), (16, .u), (17, .u), (18, .u), (19, .u), (20, .u), (21, .u)]) (fun _ => _) (fun g => g.2) (x, y) ?_ ?_ rfl ?_
  · exact ⟨rfl, hlx, hly⟩
  · exact (.cons rfl (.cons rfl (.u (.u (.u (.u (.u (.u (.u (.u (.u (.u (.u (.u (.u .nil)))))))))))))))
  · rintro ⟨u, v⟩ ⟨hc1, hc2, hc3⟩
    dsimp only at hc1 hc2 hc3
    have hmu := lenV_lm hc2
    have hmv := lenV_lm hc3
    refine jc_seq <| zsr <| zmv rfl (hd 11 rfl) <| jo_l (ly_lenn sl28 rfl) (hd 12 rfl) <| jo_l (ly_gt rfl rfl) (hd 13 rfl) <| jo_nil ?_
    refine jc_if rfl (fun h1 => ?_) (fun h1 => ?_)
    · have hv0 : v ≠ 0 := fun e => by subst e; have h9 : (0 : Int) < ((lm ((0 : Nat) : Int)).length : Int) := h1; rw [show ((0 : Nat) : Int) = 0 from rfl, lm_0] at h9; simp at h9
      have hDv : Spec Tryz.prog 80 [.n false .u64 (lm (u : Int)), .n false .u64 (lm (v : Int))] (fun o => o = .ret (.t [.n false .u64 (lm (qn (u : Int) (v : Int))), .n false .u64 (lm ((u % v : Nat) : Int))])) := by have h := divide_v (u : Int) (v : Int) (by omega) (by omega) (by omega); rwa [rn_nt] at h
      refine jc_skip <| jc_block <| zsr <| zmv rfl (hd 15 rfl) <| zmv rfl (hd 16 rfl) ?_
      refine jo_call Tryz.f80 (hDv) rfl Tryz.func80 rfl rfl (ovL_cons rfl (ovL_cons rfl ovL_nil)) (.cons .n (.cons .n .nil)) (hd 17 rfl) ?_ (fun ch hp => by simp at hp)
      rintro _ ⟨⟩; refine zmv rfl (hd 14 rfl) <| jo_l (ly_ext rfl rfl) (hd 18 rfl) <| jo_l (ly_ext rfl rfl) (hd 19 rfl) <| zas rfl (hd 5 rfl) <| zas rfl (hd 6 rfl) <| jo_nil <| jc_region <| zmv rfl (hd 20 rfl) <| zmv rfl (hd 21 rfl) <| zas rfl (hd 0 rfl) <| zas rfl (hd 1 rfl) <| jo_nil ?_
      refine ⟨(v, u % v), ?_, ?_, rfl, cov_n 30 rfl rfl ?_⟩
      · exact ⟨by rw [← hc1]; exact gcd_step, hc3, Nat.le_trans (lenV_mono (by have := Nat.mod_le u v; dsimp only; omega)) hc2⟩
      · exact Nat.mod_lt _ (by omega)
      · exact (.cons rfl (.cons rfl (.u (.u (.u (.u (.u (.u (.u (.u (.u (.u (.u (.u (.u .nil)))))))))))))))
    · have hv0 : v = 0 := Decidable.byContradiction fun hc => h1 (by have h9 := List.length_pos_iff.2 (lm_ne (show (v : Int) ≠ 0 by omega)); show (0 : Int) < ((lm (v : Int)).length : Int); omega)
      subst hv0
      rw [Nat.gcd_zero_right] at hc1
      refine jc_exit <| zsr <| zmv rfl (hd 22 rfl) <| zas rfl (hd 4 rfl) <| jo_nil <| jc_ret ?_
      refine ⟨_, _, (.cons rfl .nil), .n, ?_⟩
      rw [← hc1]

theorem WMul_rv (s t : Bool) (a b : List Int) (v x : Int) (hla : a.length < 4294967296) (hlb : b.length < 4294967296) (ua : u64s a) (ub : u64s b) (hv : sv s a = v) (hx : sv t b = x) (h : lenV (v * x) ≤ 67108864) : Spec Tryz.prog 37 [.a [.b s, .n false .u64 a], .a [.b t, .n false .u64 b]] (fun o => o = .ret (.t [.a [.b (decide ((v * x) < 0)), .n true .u64 (lm (v * x))], .i .i64 0])) :=
  (WMul_l s t a b hla hlb ua ub).mono fun o ⟨s2, r, e, ho, hR⟩ => by
    rw [hv, hx] at hR
    rcases hR with ⟨_, h1, h2, h3⟩ | ⟨hb, _⟩
    · subst h1; subst h2; subst h3; exact ho
    · omega

theorem WAdd_rv (s t : Bool) (a b : List Int) (v x : Int) (hla : a.length < 4294967296) (hlb : b.length < 4294967296) (ua : u64s a) (ub : u64s b) (hv : sv s a = v) (hx : sv t b = x) (h : lenV (v + x) ≤ 67108864) : Spec Tryz.prog 38 [.a [.b s, .n false .u64 a], .a [.b t, .n false .u64 b]] (fun o => o = .ret (.t [.a [.b (decide ((v + x) < 0)), .n true .u64 (lm (v + x))], .i .i64 0])) :=
  (WAdd_l s t a b hla hlb ua ub).mono fun o ⟨s2, r, e, ho, hR⟩ => by
    rw [hv, hx] at hR
    rcases hR with ⟨_, h1, h2, h3⟩ | ⟨hb, _⟩
    · subst h1; subst h2; subst h3; exact ho
    · omega


theorem parts_0 (s : Bool) (l d : List Int) (y : Nat) (hx : Rw l 0) (hy : Rw d y) (h0 : y ≠ 0) : Spec Tryz.prog 79 [(.a [.b s, .n false .u64 l, .n false .u64 d])] (fun o => o = .ret (.t [.b (sgq s 0), .n false .u64 (lm ((rn0 0 y : Nat) : Int)), .n false .u64 (lm ((rd0 0 y : Nat) : Int))])) := by
  refine spec_of' [(0, (.a [.b s, .n false .u64 l, .n false .u64 d]))] rfl Tryz.func79 rfl (zlb rfl) fun Γ hN hds hL hR => ?_
  have hd := hdOf 42 hN
  have hNl : Spec Tryz.prog 51 [.n false .u64 l] (fun o => o = .ret (.n true .u64 (lm ((0 : Nat) : Int)))) := by have h := Norm_s l (by have := hx.l; omega); rw [hx.t] at h; exact h
  have hNd : Spec Tryz.prog 51 [.n false .u64 d] (fun o => o = .ret (.n true .u64 (lm (y : Int)))) := by have h := Norm_s d (by have := hy.l; omega); rw [hy.t] at h; exact h
  have hF1 : Spec Tryz.prog 68 [.i .u64 1] (fun o => o = .ret (.n true .u64 [1])) := by have h := From_s 1; rwa [if_neg (by decide)] at h
  have hly := mt lm_len0.1 h0
  refine zsr <| jo_h (hy_box (id := 0) (n := 3) rfl rfl rfl (by decide) rfl) (hd 1 rfl) <| zas rfl (hd 2 rfl) <| zas rfl (hd 3 rfl) <| zas rfl (hd 4 rfl) <| jo_nil <| jc_seq <| jc_draw (n := 9) _ rfl mixed <| zal2 0 [1, 2, 3, 6, 7, 8] (lo_l (ly_fa fld1027_0 rfl rfl rfl) (hd 8 rfl)) rfl <| zal2 1 [2, 3, 6, 7, 8] (lo_l (ly_fa fld30_1 rfl rfl rfl) (hd 9 rfl)) rfl <| zal2 2 [3, 6, 7, 8] (lo_l (ly_ld one28 rfl rfl rfl) (hd 10 rfl)) rfl <| zal2 4 [5, 6, 7, 8] (lo_l (ly_fa fld1027_1 rfl rfl rfl) (hd 12 rfl)) rfl ?_; refine zal2 5 [6, 7, 8] (lo_l (ly_ld one28 rfl rfl rfl) (hd 13 rfl)) rfl ?_
  refine ja_1 3 ?_ rfl (by kernel_rfl)
  refine js_call Tryz.f51 (hNl) rfl Tryz.func51 rfl rfl (ovL_cons rfl ovL_nil) (.cons .n .nil) (hd 11 rfl) ?_ (fun ch hp => by simp at hp)
  rintro y hy; injection hy with hy; subst hy
  refine ja_1 6 ?_ rfl (by kernel_rfl)
  refine js_call Tryz.f51 (hNd) rfl Tryz.func51 rfl rfl (ovL_cons rfl ovL_nil) (.cons .n .nil) (hd 14 rfl) ?_ (fun ch hp => by simp at hp)
  rintro _ ⟨⟩; refine zal 7 (lo_l (ly_as rfl) (hd 5 rfl)) rfl <| zal 8 (lo_l (ly_as rfl) (hd 6 rfl)) rfl <| ja_nil (by kernel_rfl) <| jc_seq <| zsr <| zmv rfl (hd 15 rfl) <| jo_l (ly_lenn sl28 rfl) (hd 16 rfl) <| jo_l (ly_ff (ly_eq rfl rfl) (by omega)) (hd 17 rfl) <| jo_nil <| jc_litf rfl <| jc_skip <| jc_seq ?_; refine zsr <| zmv rfl (hd 20 rfl) <| jo_l (ly_lenn sl28 rfl) (hd 21 rfl) <| jo_l (ly_tt (ly_eq rfl rfl) (by rw [show ((0 : Nat) : Int) = 0 from rfl, lm_0]; rfl)) (hd 22 rfl) <| jo_nil <| jc_litt rfl <| jc_seq <| jc_region ?_
  refine jo_call Tryz.f68 (hF1) rfl Tryz.func68 rfl rfl (ovL_cons rfl ovL_nil) (.cons .i .nil) (hd 23 rfl) ?_ (fun ch hp => by simp at hp)
  rintro _ ⟨⟩; refine zas rfl (hd 2 rfl) <| zas rfl (hd 3 rfl) <| zas rfl (hd 4 rfl) <| jo_nil <| jc_ret ?_
  refine ⟨_, _, (.cons rfl (.cons rfl (.cons rfl .nil))), (.t1 .b (.t1 (.nil (fr := false) (k := .u64)) (.t1 .nn .t0))), ?_⟩
  rw [rn0_0, rd0_0 h0, lm_1n, show ((0 : Nat) : Int) = 0 from rfl, lm_0, sgq_0]

theorem parts_p (s : Bool) (l d : List Int) (x y : Nat) (hx : Rw l x) (hy : Rw d y) (h0 : y ≠ 0) (h1 : x ≠ 0) : Spec Tryz.prog 79 [(.a [.b s, .n false .u64 l, .n false .u64 d])] (fun o => o = .ret (.t [.b (sgq s x), .n false .u64 (lm ((rn0 x y : Nat) : Int)), .n false .u64 (lm ((rd0 x y : Nat) : Int))])) := by
  refine spec_of' [(0, (.a [.b s, .n false .u64 l, .n false .u64 d]))] rfl Tryz.func79 rfl (zlb rfl) fun Γ hN hds hL hR => ?_
  have hd := hdOf 42 hN
  have hNl : Spec Tryz.prog 51 [.n false .u64 l] (fun o => o = .ret (.n true .u64 (lm (x : Int)))) := by have h := Norm_s l (by have := hx.l; omega); rw [hx.t] at h; exact h
  have hNd : Spec Tryz.prog 51 [.n false .u64 d] (fun o => o = .ret (.n true .u64 (lm (y : Int)))) := by have h := Norm_s d (by have := hy.l; omega); rw [hy.t] at h; exact h
  have hly := mt lm_len0.1 h0
  have hlx := mt lm_len0.1 h1
  have hGc : Spec Tryz.prog 33 [.n false .u64 (lm (x : Int)), .n false .u64 (lm (y : Int))] (fun o => o = .ret (.n false .u64 (lm ((Nat.gcd x y : Nat) : Int)))) := Gcd_v (lm (x : Int)) (lm (y : Int)) x y (Rw.of hx.b).l (Rw.of hy.b).l (lm_u _) (lm_u _) (Rw.of hx.b).v (Rw.of hy.b).v
  have hQx : Spec Tryz.prog 35 [.n false .u64 (lm (x : Int)), .n false .u64 (lm ((Nat.gcd x y : Nat) : Int))] (fun o => o = .ret (.t [.n false .u64 (lm ((rn0 x y : Nat) : Int)), .i .i64 0])) := by have h := Quo_v (x : Int) ((Nat.gcd x y : Nat) : Int) hx.b (gcd_b h0 hy.b) (by have := gcd_pos' (x := x) h0; omega); rw [qn_nt] at h; exact h
  have hQy : Spec Tryz.prog 35 [.n false .u64 (lm (y : Int)), .n false .u64 (lm ((Nat.gcd x y : Nat) : Int))] (fun o => o = .ret (.t [.n false .u64 (lm ((rd0 x y : Nat) : Int)), .i .i64 0])) := by have h := Quo_v (y : Int) ((Nat.gcd x y : Nat) : Int) hy.b (gcd_b h0 hy.b) (by have := gcd_pos' (x := x) h0; omega); rw [qn_nt] at h; exact h
  refine zsr <| jo_h (hy_box (id := 0) (n := 3) rfl rfl rfl (by decide) rfl) (hd 1 rfl) <| zas rfl (hd 2 rfl) <| zas rfl (hd 3 rfl) <| zas rfl (hd 4 rfl) <| jo_nil <| jc_seq <| jc_draw (n := 9) _ rfl mixed <| zal2 0 [1, 2, 3, 6, 7, 8] (lo_l (ly_fa fld1027_0 rfl rfl rfl) (hd 8 rfl)) rfl <| zal2 1 [2, 3, 6, 7, 8] (lo_l (ly_fa fld30_1 rfl rfl rfl) (hd 9 rfl)) rfl <| zal2 2 [3, 6, 7, 8] (lo_l (ly_ld one28 rfl rfl rfl) (hd 10 rfl)) rfl <| zal2 4 [5, 6, 7, 8] (lo_l (ly_fa fld1027_1 rfl rfl rfl) (hd 12 rfl)) rfl ?_; refine zal2 5 [6, 7, 8] (lo_l (ly_ld one28 rfl rfl rfl) (hd 13 rfl)) rfl ?_
  refine ja_1 3 ?_ rfl (by kernel_rfl)
  refine js_call Tryz.f51 (hNl) rfl Tryz.func51 rfl rfl (ovL_cons rfl ovL_nil) (.cons .n .nil) (hd 11 rfl) ?_ (fun ch hp => by simp at hp)
  rintro y hy; injection hy with hy; subst hy
  refine ja_1 6 ?_ rfl (by kernel_rfl)
  refine js_call Tryz.f51 (hNd) rfl Tryz.func51 rfl rfl (ovL_cons rfl ovL_nil) (.cons .n .nil) (hd 14 rfl) ?_ (fun ch hp => by simp at hp)
  rintro _ ⟨⟩; refine zal 7 (lo_l (ly_as rfl) (hd 5 rfl)) rfl <| zal 8 (lo_l (ly_as rfl) (hd 6 rfl)) rfl <| ja_nil (by kernel_rfl) <| jc_seq <| zsr <| zmv rfl (hd 15 rfl) <| jo_l (ly_lenn sl28 rfl) (hd 16 rfl) <| jo_l (ly_ff (ly_eq rfl rfl) (by omega)) (hd 17 rfl) <| jo_nil <| jc_litf rfl <| jc_skip <| jc_seq ?_; refine zsr <| zmv rfl (hd 20 rfl) <| jo_l (ly_lenn sl28 rfl) (hd 21 rfl) <| jo_l (ly_ff (ly_eq rfl rfl) (by omega)) (hd 22 rfl) <| jo_nil <| jc_litf rfl <| jc_skip <| zsr <| zmv rfl (hd 24 rfl) <| zmv rfl (hd 25 rfl) ?_
  refine jo_call Tryz.f33 (hGc) rfl Tryz.func33 rfl rfl (ovL_cons rfl (ovL_cons rfl ovL_nil)) (.cons .n (.cons .n .nil)) (hd 26 rfl) ?_ (fun ch hp => by simp at hp)
  rintro _ ⟨⟩; refine zas rfl (hd 7 rfl) <| jo_nil <| jc_seq <| jc_draw (n := 18) _ rfl mixed <| zal2 0 [1, 2, 15, 16, 17] (lo_l (ly_fa fld1027_0 rfl rfl rfl) (hd 27 rfl)) rfl <| zal 1 (lo_l (ly_fa fld30_0 rfl rfl rfl) (hd 28 rfl)) rfl <| zal 2 (lo_l (ly_ld one4 rfl rfl rfl) (hd 29 rfl)) rfl <| zal2 3 [5, 6, 7, 8, 11, 12, 13, 14, 15, 16, 17] (lo_l (ly_mv rfl) (hd 30 rfl)) rfl <| zal2 4 [5, 6, 7, 8, 11, 12, 13, 14, 15, 16, 17] (lo_l (ly_mv rfl) (hd 31 rfl)) rfl <| zal2 9 [11, 12, 13, 14, 15, 16, 17] (lo_l (ly_mv rfl) (hd 36 rfl)) rfl <| zal2 10 [11, 12, 13, 14, 15, 16, 17] (lo_l (ly_mv rfl) (hd 37 rfl)) rfl ?_
  refine ja_1 5 ?_ rfl (by kernel_rfl)
  refine js_call Tryz.f35 (hQx) rfl Tryz.func35 rfl rfl (ovL_cons rfl (ovL_cons rfl ovL_nil)) (.cons .n (.cons .n .nil)) (hd 32 rfl) ?_ (fun ch hp => by simp at hp)
  rintro _ ⟨⟩; refine zal2 6 [8, 11, 12, 13, 14, 15, 16, 17] (lo_l (ly_ext rfl rfl) (hd 33 rfl)) rfl <| zal2 7 [8, 11, 12, 13, 14, 15, 16, 17] (lo_l (ly_ext rfl rfl) (hd 34 rfl)) rfl ?_
  refine ja_1 8 ?_ rfl (by kernel_rfl)
  refine js_call Tryz.f34 (mustN _) rfl Tryz.func34 rfl rfl (ovL_cons rfl (ovL_cons rfl ovL_nil)) (.cons .n (.cons .i .nil)) (hd 35 rfl) ?_ (fun ch hp => by simp at hp)
  rintro y hy; injection hy with hy; subst hy
  refine ja_1 11 ?_ rfl (by kernel_rfl)
  refine js_call Tryz.f35 (hQy) rfl Tryz.func35 rfl rfl (ovL_cons rfl (ovL_cons rfl ovL_nil)) (.cons .n (.cons .n .nil)) (hd 38 rfl) ?_ (fun ch hp => by simp at hp)
  rintro _ ⟨⟩; refine zal2 12 [14, 15, 16, 17] (lo_l (ly_ext rfl rfl) (hd 39 rfl)) rfl <| zal2 13 [14, 15, 16, 17] (lo_l (ly_ext rfl rfl) (hd 40 rfl)) rfl ?_
  refine ja_1 14 ?_ rfl (by kernel_rfl)
  refine js_call Tryz.f34 (mustN _) rfl Tryz.func34 rfl rfl (ovL_cons rfl (ovL_cons rfl ovL_nil)) (.cons .n (.cons .i .nil)) (hd 41 rfl) ?_ (fun ch hp => by simp at hp)
  rintro _ ⟨⟩; refine zal 15 (lo_l (ly_as rfl) (hd 2 rfl)) rfl <| zal 16 (lo_l (ly_as rfl) (hd 3 rfl)) rfl <| zal 17 (lo_l (ly_as rfl) (hd 4 rfl)) rfl <| ja_nil (by kernel_rfl) <| jc_ret ?_
  refine ⟨_, _, (.cons rfl (.cons rfl (.cons rfl .nil))), (.t1 .b (.t1 .n (.t1 .n .t0))), ?_⟩
  rw [sgq_p h1]

theorem parts_s (s : Bool) (l d : List Int) (x y : Nat) (hx : Rw l x) (hy : Rw d y) (h0 : y ≠ 0) : Spec Tryz.prog 79 [(.a [.b s, .n false .u64 l, .n false .u64 d])] (fun o => o = .ret (.t [.b (sgq s x), .n false .u64 (lm ((rn0 x y : Nat) : Int)), .n false .u64 (lm ((rd0 x y : Nat) : Int))])) := by
  by_cases h1 : x = 0
  · subst h1; exact parts_0 s l d y hx hy h0
  · exact parts_p s l d x y hx hy h0 h1

theorem qnorm_s (s : Bool) (l d : List Int) (x y : Nat) (hx : Rw l x) (hy : Rw d y) (h0 : y ≠ 0) : Spec Tryz.prog 32 [(.a [.b s, .n false .u64 l, .n false .u64 d])] (fun o => o = .ret (.a [.b (sgq s x), .n false .u64 (lm ((rn0 x y : Nat) : Int)), .n false .u64 (lm ((rd0 x y : Nat) : Int))])) := by
  refine spec_of' [(0, (.a [.b s, .n false .u64 l, .n false .u64 d]))] rfl Tryz.func32 rfl (zlb rfl) fun Γ hN hds hL hR => ?_
  have hd := hdOf 17 hN
  refine zsr <| jo_h (hy_box (id := 0) (n := 3) rfl rfl rfl (by decide) rfl) (hd 1 rfl) <| jo_h (hy_alloc (id := 1) zero1027 (by decide) rfl (by decide) rfl) (hd 2 rfl) <| jo_nil <| zsr <| jo_l (ly_lda agg1027 rfl rfl rfl rfl) (hd 7 rfl) ?_
  refine jo_call Tryz.f79 (parts_s s l d x y hx hy h0) rfl Tryz.func79 rfl rfl (ovL_cons rfl ovL_nil) (.cons (.a1 .b (.a1 .n (.a1 .n .a0))) .nil) (hd 8 rfl) ?_ (fun ch hp => by simp at hp)
  rintro _ ⟨⟩; refine zmv rfl (hd 6 rfl) <| jo_l (ly_ext rfl rfl) (hd 9 rfl) <| jo_l (ly_ext rfl rfl) (hd 10 rfl) <| jo_l (ly_ext rfl rfl) (hd 11 rfl) <| zas rfl (hd 3 rfl) <| zas rfl (hd 4 rfl) <| zas rfl (hd 5 rfl) <| jo_nil <| zsr <| zmv rfl (hd 12 rfl) <| zmv rfl (hd 13 rfl) <| jo_l (ly_build (is := [0, 1]) (xs := [.tmp 12, .tmp 13]) zero30 pls30_0_1 rfl (ovL_cons rfl (ovL_cons rfl ovL_nil)) rfl (by first | (simp [plsOk, cellsV]; done) | (simp [plsOk, cellsV, old]; done)) (all_of rfl) rfl) (hd 14 rfl) ?_; refine zmv rfl (hd 15 rfl) <| jo_l (ly_build (is := [0, 1]) (xs := [.tmp 14, .tmp 15]) zero1027 pls1027_0_1 rfl (ovL_cons rfl (ovL_cons rfl ovL_nil)) rfl ⟨rfl, (by decide), rfl, (by decide), trivial⟩ (all_of rfl) rfl) (hd 16 rfl) <| jo_st (sy_store rfl rfl rfl siz1027 rfl rfl (zlb rfl)) <| jo_nil <| jc_ret ?_
  refine ⟨_, _, (.cons (ResV.cell agg1027 rfl rfl rfl rfl) .nil), (.a1 .b (.a1 .n (.a1 .n .a0))), ?_⟩
  exact rfl


theorem looked_g (rs : List (Bool × List Int × List Int)) (hr : ∀ r ∈ rs, r.2.2.length ≤ 1048576 ∧ u64s r.2.2) (hrl : rs.length ≤ 1000) : Spec Tryz.prog 31 [.l false 3 (rtsV rs)] (fun o => o = lkO 100 rs) := by
  refine spec_of' [(0, .l false 3 (rtsV rs))] rfl Tryz.func31 rfl (zlb rfl) fun Γ hN hds hL hR => ?_
  have hd := hdOf 17 hN
  refine zsr <| zmv rfl (hd 4 rfl) <| jo_l (ly_lenl sl1084 rfl) (hd 5 rfl) <| zmv rfl (hd 6 rfl) <| jo_nil <| jc_block ?_
  refine jc_loopD (G := Nat) 0 (fun i => i ≤ rs.length ∧ ∀ j < i, vl (rat0 rs j).2.2 ≠ 0) (fun i => [(6, .i .i64 (i : Int)), (3, .u), (7, .u), (8, .u), (9, .u), (10, .u), (11, .u), (12, .u), (13, .u), (14, .u), (15, .u), (16, .u)]) (fun i => []) (fun i => rs.length - i) 0 ?_ ?_ rfl hR rfl (fun _ _ => rfl) (fun g _ => .nil) ?_
  · exact ⟨Nat.zero_le _, fun j h => absurd h (Nat.not_lt_zero _)⟩
  · exact (.cons rfl (.u (.u (.u (.u (.u (.u (.u (.u (.u (.u (.u .nil))))))))))))
  · rintro i ⟨hi, hj⟩; refine zsr <| jo_l (ly_lt rfl rfl) (hd 7 rfl) <| jo_nil <| jc_seq ?_
    refine jc_if rfl (fun h1 => ?_) (fun h1 => ?_)
    · have hil : i < rs.length := by have h9 : (i : Int) < ((rtsV rs).length : Int) := h1; rw [rtsV_len] at h9; omega
      have hru : (rat0 rs i).2.2.length ≤ 1048576 ∧ u64s (rat0 rs i).2.2 := by have h9 := hr _ (List.getElem_mem hil); unfold rat0; rwa [List.getD_eq_getElem?_getD, List.getElem?_eq_getElem hil]
      have hrv := vl_nonneg hru.2
      have hLn := Length_s (rat0 rs i).2.2 (by omega) hru.2
      rw [lenN_lenV hru.2 rfl] at hLn
      refine jc_skip <| jc_seq <| jc_block <| zsr <| jo_l (ly_ial (i := i) (row := [V.b (rat0 rs i).1, V.n false .u64 (rat0 rs i).2.1, V.n false .u64 (rat0 rs i).2.2]) sl1084 rfl rfl (by omega) (rtsV_at hil)) (hd 8 rfl) <| jo_l (ly_ldqa agg1027 rfl rfl rfl) (hd 9 rfl) <| jo_h (hy_alloc (id := 0) zero1027 (by decide) rfl (by decide) rfl) (hd 3 rfl) <| jo_st (sy_store rfl rfl rfl siz1027 rfl rfl (zlb rfl)) <| jo_nil <| zsr <| jo_l (ly_fa fld1027_1 rfl rfl rfl) (hd 10 rfl) ?_; refine jo_l (ly_ld one28 rfl rfl rfl) (hd 11 rfl) ?_
      refine jo_call Tryz.f39 (hLn) rfl Tryz.func39 rfl rfl (ovL_cons rfl ovL_nil) (.cons .n .nil) (hd 12 rfl) ?_ (fun ch hp => by simp at hp)
      rintro _ ⟨⟩; refine jo_l (ly_eq rfl rfl) (hd 13 rfl) <| jo_nil ?_
      refine jc_if rfl (fun h2 => ?_) (fun h2 => ?_)
      · have hz : vl (rat0 rs i).2.2 = 0 := by have h9 : ((lenV (vl (rat0 rs i).2.2) : Nat) : Int) = 0 := h2; have h7 := lenV_zero (x := (vl (rat0 rs i).2.2).toNat); rw [Int.toNat_of_nonneg hrv] at h7; have := h7.1 (by omega); omega
        refine jc_region <| jo_l (ly_build (is := [0]) (xs := [.const (.int .i64 70)]) zero1100 pls1100_0 rfl (ovL_cons rfl ovL_nil) rfl (by first | (simp [plsOk, cellsV]; done) | (simp [plsOk, cellsV, old]; done)) (all_of rfl) rfl) (hd 14 rfl) <| jo_l (ly_mi ndi1100 rfl) (hd 15 rfl) <| jo_panic rfl ?_
        show Out.pan _ = lkO 100 rs
        rw [lkO_n hil hz]
        rfl
      · have hnz : vl (rat0 rs i).2.2 ≠ 0 := fun e => by have h9 : ¬ ((lenV (vl (rat0 rs i).2.2) : Nat) : Int) = 0 := h2; rw [e] at h9; exact h9 rfl
        refine jc_skip <| jc_region <| jo_l (ly_add rfl rfl (r := ((i + 1 : Nat) : Int)) (by rw [wrap_i64 (by omega) (by omega)]; omega)) (hd 16 rfl) <| zmv rfl (hd 6 rfl) <| jo_nil ?_
        refine ⟨i + 1, ?_, ?_, rfl, cov_n 22 rfl rfl ?_⟩
        · exact ⟨by omega, fun j hjj => by rcases Nat.lt_or_ge j i with h9 | h9; exact hj j h9; rw [show j = i by omega]; exact hnz⟩
        · omega
        · exact (.cons rfl (.u (.u (.u (.u (.u (.u (.u (.u (.u (.u (.u .nil))))))))))))
    · obtain rfl : i = rs.length := by have h9 : ¬ (i : Int) < ((rtsV rs).length : Int) := h1; rw [rtsV_len] at h9; omega
      refine jc_exit ?_
      refine ⟨_, _, .nil, .t0, ?_⟩
      rw [lkO_y hj]

theorem looked_1 (s : Bool) (l d : List Int) (y : Nat) (hy : Rw d y) (h0 : y ≠ 0) : Spec Tryz.prog 31 [.l false 3 [[V.b s, V.n false .u64 l, V.n false .u64 d]]] (fun o => o = .ret (.t [])) := by
  have h := looked_g [(s, l, d)] (fun r hr => by simp only [List.mem_cons, List.mem_nil_iff, or_false] at hr; subst hr; exact ⟨hy.l, hy.u⟩) (by simp)
  have h1 : (vl d ≠ 0) := by rw [hy.v]; omega
  rwa [show lkO 100 [(s, l, d)] = .ret (.t []) by unfold lkO; simp [h1]] at h
theorem looked_2 (s : Bool) (l d : List Int) (y : Nat) (s2 : Bool) (l2 d2 : List Int) (y2 : Nat) (hy : Rw d y) (h0 : y ≠ 0) (hy2 : Rw d2 y2) (h02 : y2 ≠ 0) : Spec Tryz.prog 31 [.l false 3 [[V.b s, V.n false .u64 l, V.n false .u64 d], [V.b s2, V.n false .u64 l2, V.n false .u64 d2]]] (fun o => o = .ret (.t [])) := by
  have h := looked_g [(s, l, d), (s2, l2, d2)] (fun r hr => by simp only [List.mem_cons, List.mem_nil_iff, or_false] at hr; rcases hr with rfl | rfl; exact ⟨hy.l, hy.u⟩; exact ⟨hy2.l, hy2.u⟩) (by simp)
  have h1 : (vl d ≠ 0) := by rw [hy.v]; omega
  have h2 : (vl d2 ≠ 0) := by rw [hy2.v]; omega
  rwa [show lkO 100 [(s, l, d), (s2, l2, d2)] = .ret (.t []) by unfold lkO; simp [h1, h2]] at h

theorem qsign_s (s : Bool) (l d : List Int) (hl : l.length ≤ 1048576) (hu : u64s l) : Spec Tryz.prog 49 [(.a [.b s, .n false .u64 l, .n false .u64 d])] (fun o => o = .ret (.i .i64 (sgnI (sv s l)))) := by
  refine spec_of' [(0, (.a [.b s, .n false .u64 l, .n false .u64 d]))] rfl Tryz.func49 rfl (zlb rfl) fun Γ hN hds hL hR => ?_
  have hd := hdOf 6 hN
  refine zsr <| jo_h (hy_box (id := 0) (n := 3) rfl rfl rfl (by decide) rfl) (hd 1 rfl) <| zas rfl (hd 2 rfl) <| jo_nil <| zsr <| jo_l (ly_fa fld1027_0 rfl rfl rfl) (hd 3 rfl) <| jo_l (ly_lda agg30 rfl rfl rfl rfl) (hd 4 rfl) ?_
  refine jo_call Tryz.f76 (WSign_s s l (by omega) hu) rfl Tryz.func76 rfl rfl (ovL_cons rfl ovL_nil) (.cons (.a1 .b (.a1 .n .a0)) .nil) (hd 5 rfl) ?_ (fun ch hp => by simp at hp)
  rintro _ ⟨⟩; refine zas rfl (hd 2 rfl) <| jo_nil <| jc_ret ?_
  refine ⟨_, _, (.cons rfl .nil), .i, ?_⟩
  exact rfl

theorem QMake_s (s t : Bool) (l d : List Int) (x y : Nat) (hx : Rw l x) (hy : Rw d y) (h0 : y ≠ 0) : Spec Tryz.prog 55 [.a [.b s, .n false .u64 l], .a [.b t, .n false .u64 d]] (fun o => o = .ret (.t [(.a [.b (sgq (s != t) x), .n false .u64 (lm ((rn0 x y : Nat) : Int)), .n false .u64 (lm ((rd0 x y : Nat) : Int))]), .i .i64 0])) := by
  refine spec_ofD [(0, .a [.b s, .n false .u64 l]), (1, .a [.b t, .n false .u64 d])] rfl Tryz.func55 rfl (zlb rfl) fun Γ 𝓡 hN hds hL hR hE => ?_
  have hd := hdOf 21 hN
  refine jcp_seq <| jc_region <| jo_h (hy_box (id := 0) (n := 2) rfl rfl rfl (by decide) rfl) (hd 2 rfl) <| jo_h (hy_box (id := 1) (n := 2) rfl rfl rfl (by decide) rfl) (hd 3 rfl) <| jo_h (hy_alloc (id := 2) zero1027 (by decide) rfl (by decide) rfl) (hd 4 rfl) <| jo_h (hy_alloc (id := 3) zero23 (by decide) rfl (by decide) rfl) (hd 5 rfl) <| jo_nil <| jcd_defer (g := 94) (caps := [.p 2 0 0, .p 3 0 0]) 4 [_] (ops := [_, _]) rfl Tryz.func94 rfl rfl rfl hds hR hL hE <| jo_l (ly_mf (ovL_cons rfl (ovL_cons rfl ovL_nil))) (hd 7 rfl) <| jo_nil ?_
  refine ⟨rfl, rfl, rfl, ?_⟩
  intro Γ1 hN1 hL hR1
  replace hd : ∀ d, Nat.blt d 21 = true → d < Γ1.N := fun d h => by rw [hN1]; exact hd d h
  refine jo_nil <| zsr <| jo_l (ly_fa fld30_0 rfl rfl rfl) (hd 8 rfl) <| jo_l (ly_ld one4 rfl rfl rfl) (hd 9 rfl) <| jo_l (ly_fa fld30_0 rfl rfl rfl) (hd 10 rfl) <| jo_l (ly_ld one4 rfl rfl rfl) (hd 11 rfl) <| jo_l (ly_neb und4 rfl rfl) (hd 12 rfl) <| zas rfl (hd 6 rfl) <| jo_nil <| zsr <| zmv rfl (hd 13 rfl) ?_; refine jo_l (ly_fa fld30_1 rfl rfl rfl) (hd 14 rfl) <| jo_l (ly_ld one28 rfl rfl rfl) (hd 15 rfl) <| jo_l (ly_build (is := [0, 1]) (xs := [.tmp 13, .tmp 15]) zero30 pls30_0_1 rfl (ovL_cons rfl (ovL_cons rfl ovL_nil)) rfl (by first | (simp [plsOk, cellsV]; done) | (simp [plsOk, cellsV, old]; done)) (all_of rfl) rfl) (hd 16 rfl) <| jo_l (ly_fa fld30_1 rfl rfl rfl) (hd 17 rfl) <| jo_l (ly_ld one28 rfl rfl rfl) (hd 18 rfl) <| jo_l (ly_build (is := [0, 1]) (xs := [.tmp 16, .tmp 18]) zero1027 pls1027_0_1 rfl (ovL_cons rfl (ovL_cons rfl ovL_nil)) rfl ⟨rfl, (by decide), rfl, (by decide), trivial⟩ (all_of rfl) rfl) (hd 19 rfl) ?_
  refine jo_call Tryz.f32 (qnorm_s _ l d x y hx hy h0) rfl Tryz.func32 rfl rfl (ovL_cons rfl ovL_nil) (.cons (.a1 .b (.a1 .n (.a1 .n .a0))) .nil) (hd 20 rfl) ?_ (fun ch hp => by simp at hp)
  rintro _ ⟨⟩; refine jo_st (sy_store rfl rfl rfl siz1027 rfl rfl (zlb rfl)) <| jo_st (sy_store rfl rfl rfl siz23 rfl rfl (zlb rfl)) <| jo_nil <| jc_ret <| Clo.fin clo_2346 (m := 4) (i := 2) (j := 3) (zlb rfl) rfl rfl rfl rfl ?_
  refine ⟨_, _, (.cons (ResV.cell agg1027 rfl rfl rfl rfl) (.cons (ResV.cell1 one23 rfl rfl rfl) .nil)), (.t1 (.a1 .b (.a1 .n (.a1 .n .a0))) (.t1 .i .t0)), ?_⟩
  exact rfl

theorem QInt_s (v : Int) (hv : inI v) : Spec Tryz.prog 40 [.i .i64 v] (fun o => o = .ret (.a [.b (decide (v < 0)), .n true .u64 (lm v), .n true .u64 (lm ((1 : Nat) : Int))])) := by
  refine spec_of' [(0, .i .i64 v)] rfl Tryz.func40 rfl (zlb rfl) fun Γ hN hds hL hR => ?_
  have hd := hdOf 7 hN
  have hF1 : Spec Tryz.prog 68 [.i .u64 1] (fun o => o = .ret (.n true .u64 [1])) := by have h := From_s 1; rwa [if_neg (by decide)] at h
  refine zsr <| jo_h (hy_alloc (id := 0) zero1027 (by decide) rfl (by decide) rfl) (hd 2 rfl) <| jo_nil <| zsr <| zmv rfl (hd 3 rfl) ?_
  refine jo_call Tryz.f87 (Of_v v hv) rfl Tryz.func87 rfl rfl (ovL_cons rfl ovL_nil) (.cons .i .nil) (hd 4 rfl) ?_ (fun ch hp => by simp at hp)
  rintro y hy; injection hy with hy; subst hy
  refine jo_call Tryz.f68 (hF1) rfl Tryz.func68 rfl rfl (ovL_cons rfl ovL_nil) (.cons .i .nil) (hd 5 rfl) ?_ (fun ch hp => by simp at hp)
  rintro _ ⟨⟩; refine jo_l (ly_build (is := [0, 1]) (xs := [.tmp 4, .tmp 5]) zero1027 pls1027_0_1 rfl (ovL_cons rfl (ovL_cons rfl ovL_nil)) rfl ⟨rfl, (by decide), rfl, (by decide), trivial⟩ (all_of rfl) rfl) (hd 6 rfl) <| jo_st (sy_store rfl rfl rfl siz1027 rfl rfl (zlb rfl)) <| jo_nil <| jc_ret ?_
  refine ⟨_, _, (.cons (ResV.cell agg1027 rfl rfl rfl rfl) .nil), (.a1 .b (.a1 .n (.a1 .n .a0))), ?_⟩
  rw [lm_1n]

theorem QPrint_s (s : Bool) (l d : List Int) (x y : Nat) (hx : Rw l x) (hy : Rw d y) (h0 : y ≠ 0) : Spec Tryz.prog 21 [(.a [.b s, .n false .u64 l, .n false .u64 d])] (fun o => o = .ret (.t [.s (rtx (sgq s x) (rn0 x y) (rd0 x y)), .i .i64 0])) := by
  refine spec_ofD [(0, (.a [.b s, .n false .u64 l, .n false .u64 d]))] rfl Tryz.func21 rfl (zlb rfl) fun Γ 𝓡 hN hds hL hR hE => ?_
  have hd := hdOf 38 hN
  have hbn : lenV ((rn0 x y : Nat) : Int) ≤ 67108864 := rn0_b hx.b
  have hbd : lenV ((rd0 x y : Nat) : Int) ≤ 67108864 := rd0_b hy.b
  have hRn := Rw.of hbn
  have hRd := Rw.of hbd
  have hF1 : Spec Tryz.prog 68 [.i .u64 1] (fun o => o = .ret (.n true .u64 [1])) := by have h := From_s 1; rwa [if_neg (by decide)] at h
  have hsn := ntx_size _ hbn
  have hsd := ntx_size _ hbd
  have hl1 := hRd.l
  have hPn : Spec Tryz.prog 66 [.n false .u64 (lm ((rn0 x y : Nat) : Int)), .i .i64 10] (fun o => o = .ret (.t [.s (ntx (rn0 x y)), .i .i64 0])) := by have h := Print_s (lm ((rn0 x y : Nat) : Int)) 10 hRn.l hRn.u (by decide) (by decide); rwa [hRn.v, Int.toNat_natCast] at h
  have hPd : Spec Tryz.prog 66 [.n false .u64 (lm ((rd0 x y : Nat) : Int)), .i .i64 10] (fun o => o = .ret (.t [.s (ntx (rd0 x y)), .i .i64 0])) := by have h := Print_s (lm ((rd0 x y : Nat) : Int)) 10 hRd.l hRd.u (by decide) (by decide); rwa [hRd.v, Int.toNat_natCast] at h
  have hCp : Spec Tryz.prog 67 [.n false .u64 (lm ((rd0 x y : Nat) : Int)), .n false .u64 [1]] (fun o => o = .ret (.i .i64 (cmpI ((rd0 x y : Nat) : Int) 1))) := by have h := Compare_v ((rd0 x y : Nat) : Int) ((1 : Nat) : Int) (by omega) (by rw [lm_1n]; decide); rw [lm_1n, Int.natAbs_natCast, Int.natAbs_natCast] at h; exact h
  refine jcp_seq <| jc_region <| jo_h (hy_box (id := 0) (n := 3) rfl rfl rfl (by decide) rfl) (hd 1 rfl) <| jo_h (hy_alloc (id := 1) zero9 (by decide) rfl (by decide) rfl) (hd 2 rfl) <| jo_h (hy_alloc (id := 2) zero23 (by decide) rfl (by decide) rfl) (hd 3 rfl) <| jo_nil <| jcd_defer (g := 63) (caps := [.p 1 0 0, .p 2 0 0]) 3 [_] (ops := [_, _]) rfl Tryz.func63 rfl rfl rfl hds hR hL hE <| jo_l (ly_mf (ovL_cons rfl (ovL_cons rfl ovL_nil))) (hd 5 rfl) <| jo_nil ?_
  refine ⟨rfl, rfl, rfl, ?_⟩
  intro Γ1 hN1 hL hR1
  replace hd : ∀ d, Nat.blt d 38 = true → d < Γ1.N := fun d h => by rw [hN1]; exact hd d h
  refine jo_nil <| zsr <| jo_l (ly_lda agg1027 rfl rfl rfl rfl) (hd 6 rfl) <| jo_h (hy_lit (id := 3) (xs := [.tmp 6]) el1084 rfl (ovL_cons rfl ovL_nil) rfl (all2_of rfl) (by decide) rfl) (hd 7 rfl) <| jo_frzr 7 (sz := 3) [[V.b s, V.n false .u64 l, V.n false .u64 d]] rfl rfl rfl rfl (by simp) (by simp [pureV]) (by decide) hL ?_
  refine jo_call Tryz.f31 (looked_1 s l d y hy h0) rfl Tryz.func31 rfl rfl (ovL_cons rfl ovL_nil) (.cons .l .nil) (hd 8 rfl) ?_ (fun ch hp => by simp at hp)
  rintro _ ⟨⟩; refine jo_nil <| zsr <| jo_l (ly_lda agg1027 rfl rfl rfl rfl) (hd 9 rfl) ?_
  refine jo_call Tryz.f32 (qnorm_s s l d x y hx hy h0) rfl Tryz.func32 rfl rfl (ovL_cons rfl ovL_nil) (.cons (.a1 .b (.a1 .n (.a1 .n .a0))) .nil) (hd 10 rfl) ?_ (fun ch hp => by simp at hp)
  rintro _ ⟨⟩; refine jo_h (hy_alloc (id := 4) zero1027 (by decide) rfl (by decide) rfl) (hd 4 rfl) <| jo_st (sy_store rfl rfl rfl siz1027 rfl rfl (zlb rfl)) <| jo_nil <| zsr <| jo_l (ly_fa fld1027_0 rfl rfl rfl) (hd 11 rfl) <| jo_l (ly_fa fld30_1 rfl rfl rfl) (hd 12 rfl) <| jo_l (ly_ld one28 rfl rfl rfl) (hd 13 rfl) ?_
  refine jo_call Tryz.f66 (hPn) rfl Tryz.func66 rfl rfl (ovL_cons rfl (ovL_cons rfl ovL_nil)) (.cons .n (.cons .i .nil)) (hd 14 rfl) ?_ (fun ch hp => by simp at hp)
  rintro _ ⟨⟩; refine jo_l (ly_ext rfl rfl) (hd 15 rfl) <| jo_l (ly_ext rfl rfl) (hd 16 rfl) ?_
  refine jo_call Tryz.f65 (mustS _) rfl Tryz.func65 rfl rfl (ovL_cons rfl (ovL_cons rfl ovL_nil)) (.cons .s (.cons .i .nil)) (hd 17 rfl) ?_ (fun ch hp => by simp at hp)
  rintro _ ⟨⟩; refine jo_st (sy_store rfl rfl rfl siz9 rfl rfl (zlb rfl)) <| jo_nil <| jc_seq <| zsr <| jo_l (ly_fa fld1027_0 rfl rfl rfl) (hd 18 rfl) <| jo_l (ly_fa fld30_0 rfl rfl rfl) (hd 19 rfl) <| jo_l (ly_ld one4 rfl rfl rfl) (hd 20 rfl) <| jo_nil ?_
  refine jc_cond rfl (fun h1 => ?_) (fun h1 => ?_)
  · have hs1 : rtx1 (sgq s x) (rn0 x y) = (⟨#[45]⟩ : ByteArray) ++ ntx (rn0 x y) := by unfold rtx1; rw [if_pos h1]
    refine jc_region <| jo_l (ly_ld one9 rfl rfl rfl) (hd 21 rfl) <| jo_l (ly_adds rfl rfl (by show ((1 + _ : Nat) : Int) ≤ 9223372036854775807; omega)) (hd 22 rfl) <| jo_st (sy_store rfl rfl rfl siz9 rfl rfl (zlb rfl)) <| jo_nil <| jc_seq <| jc_seq <| jc_nopan <| jc_draw (n := 5) _ rfl mixed <| zal2 0 [1, 3, 4] (lo_l (ly_fa fld1027_1 rfl rfl rfl) (hd 23 rfl)) rfl <| zal2 1 [3, 4] (lo_l (ly_ld one28 rfl rfl rfl) (hd 24 rfl)) rfl ?_
    refine ja_1 2 ?_ rfl (by kernel_rfl)
    refine js_call Tryz.f68 (hF1) rfl Tryz.func68 rfl rfl (ovL_cons rfl ovL_nil) (.cons .i .nil) (hd 25 rfl) ?_ (fun ch hp => by simp at hp)
    rintro y hy; injection hy with hy; subst hy
    refine ja_1 3 ?_ rfl (by kernel_rfl)
    refine js_call Tryz.f67 (hCp) rfl Tryz.func67 rfl rfl (ovL_cons rfl (ovL_cons rfl ovL_nil)) (.cons .n (.cons .n .nil)) (hd 26 rfl) ?_ (fun ch hp => by simp at hp)
    rintro _ ⟨⟩; refine zal 4 (lo_l (ly_ne rfl rfl) (hd 27 rfl)) rfl <| ja_nil (by kernel_rfl) ?_
    refine jc_if rfl (fun h2 => ?_) (fun h2 => ?_)
    · have hd1 : rd0 x y ≠ 1 := fun e => h2 (by rw [e]; exact cmpI_0.2 rfl)
      refine jc_nopan <| jc_draw (n := 10) _ rfl mixed <| zal 0 (lo_l (ly_ld one9 rfl rfl rfl) (hd 28 rfl)) rfl <| zal2 1 [2, 3, 4, 5, 6, 7, 8, 9] (lo_l (ly_fa fld1027_1 rfl rfl rfl) (hd 29 rfl)) rfl <| zal2 2 [3, 4, 5, 6, 7, 8, 9] (lo_l (ly_ld one28 rfl rfl rfl) (hd 30 rfl)) rfl ?_
      refine ja_1 3 ?_ rfl (by kernel_rfl)
      refine js_call Tryz.f66 (hPd) rfl Tryz.func66 rfl rfl (ovL_cons rfl (ovL_cons rfl ovL_nil)) (.cons .n (.cons .i .nil)) (hd 31 rfl) ?_ (fun ch hp => by simp at hp)
      rintro _ ⟨⟩; refine zal2 4 [6, 7, 8, 9] (lo_l (ly_ext rfl rfl) (hd 32 rfl)) rfl <| zal2 5 [6, 7, 8, 9] (lo_l (ly_ext rfl rfl) (hd 33 rfl)) rfl ?_
      refine ja_1 6 ?_ rfl (by kernel_rfl)
      refine js_call Tryz.f65 (mustS _) rfl Tryz.func65 rfl rfl (ovL_cons rfl (ovL_cons rfl ovL_nil)) (.cons .s (.cons .i .nil)) (hd 34 rfl) ?_ (fun ch hp => by simp at hp)
      rintro _ ⟨⟩; refine zal 7 (lo_l (ly_adds rfl rfl (by show ((1 + _ : Nat) : Int) ≤ 9223372036854775807; omega)) (hd 35 rfl)) rfl <| zal 8 (lo_l (ly_adds rfl rfl (by simp only [ByteArray.size_append]; show ((_ : Nat) : Int) ≤ 9223372036854775807; simp only [show (⟨#[45]⟩ : ByteArray).size = 1 from rfl, show (⟨#[47]⟩ : ByteArray).size = 1 from rfl]; omega)) (hd 36 rfl)) rfl ?_
      refine ja_1 9 ?_ rfl (by kernel_rfl)
      refine js_st (sy_store rfl rfl rfl siz9 rfl rfl (zlb rfl)) rfl <| ja_nil (by kernel_rfl) <| zsr <| jo_l (ly_ld one9 rfl rfl rfl) (hd 37 rfl) <| jo_st (sy_store rfl rfl rfl siz9 rfl rfl (zlb rfl)) <| jo_st (sy_store rfl rfl rfl siz23 rfl rfl (zlb rfl)) <| jo_nil <| jc_ret <| Clo.fin clo_2358 (m := 3) (i := 1) (j := 2) (zlb rfl) rfl rfl rfl rfl ?_
      refine ⟨_, _, (.cons (ResV.cell1 one9 rfl rfl rfl) (.cons (ResV.cell1 one23 rfl rfl rfl) .nil)), (.t1 .s (.t1 .i .t0)), ?_⟩
      show Out.ret _ = Out.ret _
      unfold rtx
      first | rw [if_neg hd1, hs1] | rw [if_pos hd1, hs1]
    · have hd1 : rd0 x y = 1 := by have h9 := cmpI_0.1 (Decidable.not_not.1 h2); omega
      refine jc_skip <| zsr <| jo_l (ly_ld one9 rfl rfl rfl) (hd 37 rfl) <| jo_st (sy_store rfl rfl rfl siz9 rfl rfl (zlb rfl)) <| jo_st (sy_store rfl rfl rfl siz23 rfl rfl (zlb rfl)) <| jo_nil <| jc_ret <| Clo.fin clo_2358 (m := 3) (i := 1) (j := 2) (zlb rfl) rfl rfl rfl rfl ?_
      refine ⟨_, _, (.cons (ResV.cell1 one9 rfl rfl rfl) (.cons (ResV.cell1 one23 rfl rfl rfl) .nil)), (.t1 .s (.t1 .i .t0)), ?_⟩
      show Out.ret _ = Out.ret _
      unfold rtx
      first | rw [if_neg hd1, hs1] | rw [if_pos hd1, hs1]
  · have hs1 : rtx1 (sgq s x) (rn0 x y) = ntx (rn0 x y) := by unfold rtx1; rw [if_neg (by rw [h1]; decide)]
    refine jc_skip <| jc_seq <| jc_seq <| jc_nopan <| jc_draw (n := 5) _ rfl mixed <| zal2 0 [1, 3, 4] (lo_l (ly_fa fld1027_1 rfl rfl rfl) (hd 23 rfl)) rfl <| zal2 1 [3, 4] (lo_l (ly_ld one28 rfl rfl rfl) (hd 24 rfl)) rfl ?_
    refine ja_1 2 ?_ rfl (by kernel_rfl)
    refine js_call Tryz.f68 (hF1) rfl Tryz.func68 rfl rfl (ovL_cons rfl ovL_nil) (.cons .i .nil) (hd 25 rfl) ?_ (fun ch hp => by simp at hp)
    rintro y hy; injection hy with hy; subst hy
    refine ja_1 3 ?_ rfl (by kernel_rfl)
    refine js_call Tryz.f67 (hCp) rfl Tryz.func67 rfl rfl (ovL_cons rfl (ovL_cons rfl ovL_nil)) (.cons .n (.cons .n .nil)) (hd 26 rfl) ?_ (fun ch hp => by simp at hp)
    rintro _ ⟨⟩; refine zal 4 (lo_l (ly_ne rfl rfl) (hd 27 rfl)) rfl <| ja_nil (by kernel_rfl) ?_
    refine jc_if rfl (fun h3 => ?_) (fun h3 => ?_)
    · have hd1 : rd0 x y ≠ 1 := fun e => h3 (by rw [e]; exact cmpI_0.2 rfl)
      refine jc_nopan <| jc_draw (n := 10) _ rfl mixed <| zal 0 (lo_l (ly_ld one9 rfl rfl rfl) (hd 28 rfl)) rfl <| zal2 1 [2, 3, 4, 5, 6, 7, 8, 9] (lo_l (ly_fa fld1027_1 rfl rfl rfl) (hd 29 rfl)) rfl <| zal2 2 [3, 4, 5, 6, 7, 8, 9] (lo_l (ly_ld one28 rfl rfl rfl) (hd 30 rfl)) rfl ?_
      refine ja_1 3 ?_ rfl (by kernel_rfl)
      refine js_call Tryz.f66 (hPd) rfl Tryz.func66 rfl rfl (ovL_cons rfl (ovL_cons rfl ovL_nil)) (.cons .n (.cons .i .nil)) (hd 31 rfl) ?_ (fun ch hp => by simp at hp)
      rintro _ ⟨⟩; refine zal2 4 [6, 7, 8, 9] (lo_l (ly_ext rfl rfl) (hd 32 rfl)) rfl <| zal2 5 [6, 7, 8, 9] (lo_l (ly_ext rfl rfl) (hd 33 rfl)) rfl ?_
      refine ja_1 6 ?_ rfl (by kernel_rfl)
      refine js_call Tryz.f65 (mustS _) rfl Tryz.func65 rfl rfl (ovL_cons rfl (ovL_cons rfl ovL_nil)) (.cons .s (.cons .i .nil)) (hd 34 rfl) ?_ (fun ch hp => by simp at hp)
      rintro _ ⟨⟩; refine zal 7 (lo_l (ly_adds rfl rfl (by show ((1 + _ : Nat) : Int) ≤ 9223372036854775807; omega)) (hd 35 rfl)) rfl <| zal 8 (lo_l (ly_adds rfl rfl (by simp only [ByteArray.size_append]; show ((_ : Nat) : Int) ≤ 9223372036854775807; simp only [show (⟨#[45]⟩ : ByteArray).size = 1 from rfl, show (⟨#[47]⟩ : ByteArray).size = 1 from rfl]; omega)) (hd 36 rfl)) rfl ?_
      refine ja_1 9 ?_ rfl (by kernel_rfl)
      refine js_st (sy_store rfl rfl rfl siz9 rfl rfl (zlb rfl)) rfl <| ja_nil (by kernel_rfl) <| zsr <| jo_l (ly_ld one9 rfl rfl rfl) (hd 37 rfl) <| jo_st (sy_store rfl rfl rfl siz9 rfl rfl (zlb rfl)) <| jo_st (sy_store rfl rfl rfl siz23 rfl rfl (zlb rfl)) <| jo_nil <| jc_ret <| Clo.fin clo_2358 (m := 3) (i := 1) (j := 2) (zlb rfl) rfl rfl rfl rfl ?_
      refine ⟨_, _, (.cons (ResV.cell1 one9 rfl rfl rfl) (.cons (ResV.cell1 one23 rfl rfl rfl) .nil)), (.t1 .s (.t1 .i .t0)), ?_⟩
      show Out.ret _ = Out.ret _
      unfold rtx
      first | rw [if_neg hd1, hs1] | rw [if_pos hd1, hs1]
    · have hd1 : rd0 x y = 1 := by have h9 := cmpI_0.1 (Decidable.not_not.1 h3); omega
      refine jc_skip <| zsr <| jo_l (ly_ld one9 rfl rfl rfl) (hd 37 rfl) <| jo_st (sy_store rfl rfl rfl siz9 rfl rfl (zlb rfl)) <| jo_st (sy_store rfl rfl rfl siz23 rfl rfl (zlb rfl)) <| jo_nil <| jc_ret <| Clo.fin clo_2358 (m := 3) (i := 1) (j := 2) (zlb rfl) rfl rfl rfl rfl ?_
      refine ⟨_, _, (.cons (ResV.cell1 one9 rfl rfl rfl) (.cons (ResV.cell1 one23 rfl rfl rfl) .nil)), (.t1 .s (.t1 .i .t0)), ?_⟩
      show Out.ret _ = Out.ret _
      unfold rtx
      first | rw [if_neg hd1, hs1] | rw [if_pos hd1, hs1]

theorem QQuo_0 (s : Bool) (l d : List Int) (x y : Nat) (hx : Rw l x) (hy : Rw d y) (s2 : Bool) (l2 d2 : List Int) (x2 y2 : Nat) (hx2 : Rw l2 x2) (hy2 : Rw d2 y2) (h0 : y ≠ 0) (h02 : y2 ≠ 0) (hz : x2 = 0) : Spec Tryz.prog 9 [(.a [.b s, .n false .u64 l, .n false .u64 d]), (.a [.b s2, .n false .u64 l2, .n false .u64 d2])] (fun o => o = .ret (.t [(.a [.b false, .n false .u64 [], .n false .u64 []]), .i .i64 70])) := by
  refine spec_ofD [(0, (.a [.b s, .n false .u64 l, .n false .u64 d])), (1, (.a [.b s2, .n false .u64 l2, .n false .u64 d2]))] rfl Tryz.func9 rfl (zlb rfl) fun Γ 𝓡 hN hds hL hR hE => ?_
  have hd := hdOf 31 hN
  have hLn : Spec Tryz.prog 39 [.n false .u64 l2] (fun o => o = .ret (.i .i64 (lenV (x2 : Int)))) := by have h := Length_s l2 (by have := hx2.l; omega) hx2.u; rwa [hx2.n] at h
  refine jcp_seq <| jc_region <| jo_h (hy_box (id := 0) (n := 3) rfl rfl rfl (by decide) rfl) (hd 2 rfl) <| jo_h (hy_box (id := 1) (n := 3) rfl rfl rfl (by decide) rfl) (hd 3 rfl) <| jo_h (hy_alloc (id := 2) zero1027 (by decide) rfl (by decide) rfl) (hd 4 rfl) <| jo_h (hy_alloc (id := 3) zero23 (by decide) rfl (by decide) rfl) (hd 5 rfl) <| jo_nil <| jcd_defer (g := 46) (caps := [.p 2 0 0, .p 3 0 0]) 4 [_] (ops := [_, _]) rfl Tryz.func46 rfl rfl rfl hds hR hL hE <| jo_l (ly_mf (ovL_cons rfl (ovL_cons rfl ovL_nil))) (hd 6 rfl) <| jo_nil ?_
  refine ⟨rfl, rfl, rfl, ?_⟩
  intro Γ1 hN1 hL hR1
  replace hd : ∀ d, Nat.blt d 31 = true → d < Γ1.N := fun d h => by rw [hN1]; exact hd d h
  refine jo_nil <| zsr <| jo_l (ly_lda agg1027 rfl rfl rfl rfl) (hd 7 rfl) <| jo_l (ly_lda agg1027 rfl rfl rfl rfl) (hd 8 rfl) <| jo_h (hy_lit (id := 4) (xs := [.tmp 7, .tmp 8]) el1084 rfl (ovL_cons rfl (ovL_cons rfl ovL_nil)) rfl (all2_of rfl) (by decide) rfl) (hd 9 rfl) <| jo_frzr 9 (sz := 3) [[V.b s, V.n false .u64 l, V.n false .u64 d], [V.b s2, V.n false .u64 l2, V.n false .u64 d2]] rfl rfl rfl rfl (by simp) (by simp [pureV]) (by decide) hL ?_
  refine jo_call Tryz.f31 (looked_2 s l d y s2 l2 d2 y2 hy h0 hy2 h02) rfl Tryz.func31 rfl rfl (ovL_cons rfl ovL_nil) (.cons .l .nil) (hd 10 rfl) ?_ (fun ch hp => by simp at hp)
  rintro _ ⟨⟩; refine jo_nil <| jc_seq <| zsr <| jo_l (ly_fa fld1027_0 rfl rfl rfl) (hd 11 rfl) <| jo_l (ly_fa fld30_1 rfl rfl rfl) (hd 12 rfl) <| jo_l (ly_ld one28 rfl rfl rfl) (hd 13 rfl) ?_
  refine jo_call Tryz.f39 (hLn) rfl Tryz.func39 rfl rfl (ovL_cons rfl ovL_nil) (.cons .n .nil) (hd 14 rfl) ?_ (fun ch hp => by simp at hp)
  rintro _ ⟨⟩; refine jo_l (ly_tt (ly_eq rfl rfl) (by subst hz; rfl)) (hd 15 rfl) <| jo_nil <| jc_litt rfl <| zsr <| jo_l (ly_build (is := []) (xs := []) (pls := []) zero1027 pls1027_ rfl ovL_nil rfl trivial (all_of rfl) rfl) (hd 16 rfl) <| jo_st (sy_store rfl rfl rfl siz1027 rfl rfl (zlb rfl)) <| jo_st (sy_store rfl rfl rfl siz23 rfl rfl (zlb rfl)) <| jo_nil <| jc_ret <| Clo.fin clo_2353 (m := 4) (i := 2) (j := 3) (zlb rfl) rfl rfl rfl rfl ?_
  refine ⟨_, _, (.cons (ResV.cell agg1027 rfl rfl rfl rfl) (.cons (ResV.cell1 one23 rfl rfl rfl) .nil)), (.t1 (.a1 .b (.a1 (.nil (fr := false) (k := .u64)) (.a1 (.nil (fr := false) (k := .u64)) .a0))) (.t1 .i .t0)), ?_⟩
  exact rfl

theorem lives7_s  : Spec Tryz.prog 12 [] (fun o => o = .ret (.b true)) := by
  refine spec_of' [] rfl Tryz.func12 rfl (zlb rfl) fun Γ hN hds hL hR => ?_
  have hd := hdOf 40 hN
  have hMk : Spec Tryz.prog 55 [.a [.b false, .n false .u64 [6]], .a [.b true, .n false .u64 [4]]] (fun o => o = .ret (.t [.a [.b true, .n false .u64 [3], .n false .u64 [2]], .i .i64 0])) := by
    have h := QMake_s false true [6] [4] 6 4 (rw_1 (by decide) (by decide)) (rw_1 (by decide) (by decide)) (by decide)
    rwa [show sgq (false != true) 6 = true by decide, show rn0 6 4 = 3 by decide +kernel, show rd0 6 4 = 2 by decide +kernel, lm_1w (by decide) (by decide), lm_1w (by decide) (by decide)] at h
  have hPr : Spec Tryz.prog 21 [.a [.b true, .n false .u64 [3], .n false .u64 [2]]] (fun o => o = .ret (.t [.s ⟨#[45, 51, 47, 50]⟩, .i .i64 0])) := by
    have h := QPrint_s true [3] [2] 3 2 (rw_1 (by decide) (by decide)) (rw_1 (by decide) (by decide)) (by decide)
    rwa [show rtx (sgq true 3) (rn0 3 2) (rd0 3 2) = ⟨#[45, 51, 47, 50]⟩ by decide +kernel] at h
  have r1 : Rw (lm 1) 1 := Rw.of (x := 1) (by decide +kernel)
  have r0 : Rw (lm 0) 0 := Rw.of (x := 0) (by decide +kernel)
  refine zsr <| zas rfl (hd 0 rfl) <| jo_nil <| zsr <| jo_h (hy_lit (id := 0) (xs := [.const (.int .u64 6)]) el28 rfl (ovL_cons rfl ovL_nil) rfl (all2_of rfl) (by decide) rfl) (hd 8 rfl) <| jo_frz (k := .u64) (l := [6]) (l' := [6]) 8 rfl rfl (by decide) rfl hL <| jo_l (ly_build (is := [1]) (xs := [.tmp 8]) zero30 pls30_1 rfl (ovL_cons rfl ovL_nil) rfl (by first | (simp [plsOk, cellsV]; done) | (simp [plsOk, cellsV, old]; done)) (all_of rfl) rfl) (hd 9 rfl) <| jo_h (hy_lit (id := 1) (xs := [.const (.int .u64 4)]) el28 rfl (ovL_cons rfl ovL_nil) rfl (all2_of rfl) (by decide) rfl) (hd 10 rfl) <| jo_frz (k := .u64) (l := [4]) (l' := [4]) 10 rfl rfl (by decide) rfl hL <| jo_l (ly_build (is := [0, 1]) (xs := [.const (.bool true), .tmp 10]) zero30 pls30_0_1 rfl (ovL_cons rfl (ovL_cons rfl ovL_nil)) rfl (by first | (simp [plsOk, cellsV]; done) | (simp [plsOk, cellsV, old]; done)) (all_of rfl) rfl) (hd 11 rfl) ?_
  refine jo_call Tryz.f55 (hMk) rfl Tryz.func55 rfl rfl (ovL_cons rfl (ovL_cons rfl ovL_nil)) (.cons (.a1 .b (.a1 .n .a0)) (.cons (.a1 .b (.a1 .n .a0)) .nil)) (hd 12 rfl) ?_ (fun ch hp => by simp at hp)
  rintro _ ⟨⟩; refine zmv rfl (hd 7 rfl) <| jo_l (ly_ext rfl rfl) (hd 13 rfl) <| jo_l (ly_ext rfl rfl) (hd 14 rfl) <| jo_h (hy_alloc (id := 2) zero1027 (by decide) rfl (by decide) rfl) (hd 1 rfl) <| jo_st (sy_store rfl rfl rfl siz1027 rfl rfl (zlb rfl)) <| zas rfl (hd 2 rfl) <| jo_nil <| zsr <| jo_l (ly_lda agg1027 rfl rfl rfl rfl) (hd 16 rfl) ?_
  refine jo_call Tryz.f21 (hPr) rfl Tryz.func21 rfl rfl (ovL_cons rfl ovL_nil) (.cons (.a1 .b (.a1 .n (.a1 .n .a0))) .nil) (hd 17 rfl) ?_ (fun ch hp => by simp at hp)
  rintro _ ⟨⟩; refine zmv rfl (hd 15 rfl) <| jo_l (ly_ext rfl rfl) (hd 18 rfl) <| jo_l (ly_ext rfl rfl) (hd 19 rfl) <| zas rfl (hd 3 rfl) <| zas rfl (hd 4 rfl) <| jo_nil <| jc_seq <| jc_region ?_
  refine jo_call Tryz.f40 (QInt_s 1 (by unfold inI; omega)) rfl Tryz.func40 rfl rfl (ovL_cons rfl ovL_nil) (.cons .i .nil) (hd 21 rfl) ?_ (fun ch hp => by simp at hp)
  rintro y hy; injection hy with hy; subst hy
  refine jo_call Tryz.f40 (QInt_s 0 (by unfold inI; omega)) rfl Tryz.func40 rfl rfl (ovL_cons rfl ovL_nil) (.cons .i .nil) (hd 22 rfl) ?_ (fun ch hp => by simp at hp)
  rintro y hy; injection hy with hy; subst hy
  refine jo_call Tryz.f9 (QQuo_0 _ _ _ 1 1 r1 r1 _ _ _ 0 1 r0 r1 (by decide) (by decide) rfl) rfl Tryz.func9 rfl rfl (ovL_cons rfl (ovL_cons rfl ovL_nil)) (.cons (.a1 .b (.a1 .n (.a1 .n .a0))) (.cons (.a1 .b (.a1 .n (.a1 .n .a0))) .nil)) (hd 23 rfl) ?_ (fun ch hp => by simp at hp)
  rintro _ ⟨⟩; refine zmv rfl (hd 20 rfl) <| jo_l (ly_ext rfl rfl) (hd 24 rfl) <| jo_l (ly_ext rfl rfl) (hd 25 rfl) <| jo_h (hy_alloc (id := 3) zero1027 (by decide) rfl (by decide) rfl) (hd 5 rfl) <| jo_st (sy_store rfl rfl rfl siz1027 rfl rfl (zlb rfl)) <| zas rfl (hd 6 rfl) <| jo_nil <| zsr <| zmv rfl (hd 26 rfl) <| jo_l (ly_tt (ly_eq rfl rfl) rfl) (hd 27 rfl) <| zmv rfl (hd 28 rfl) <| jo_g 28 rfl rfl (ly_mv rfl) (hd 29 rfl) ?_; refine jo_g 28 rfl rfl (ly_tt (ly_eq rfl rfl) rfl) (hd 30 rfl) <| jo_l (ly_pick_t rfl rfl) (hd 31 rfl) <| zmv rfl (hd 32 rfl) <| jo_g 32 rfl rfl (ly_mv rfl) (hd 33 rfl) <| jo_g 32 rfl rfl (ly_tt (ly_eqS rfl rfl) rfl) (hd 34 rfl) <| jo_l (ly_pick_t rfl rfl) (hd 35 rfl) <| zmv rfl (hd 36 rfl) <| jo_g 36 rfl rfl (ly_mv rfl) (hd 37 rfl) <| jo_g 36 rfl rfl (ly_tt (ly_eq rfl rfl) rfl) (hd 38 rfl) <| jo_l (ly_pick_t rfl rfl) (hd 39 rfl) <| zas rfl (hd 0 rfl) <| jo_nil <| jc_ret ?_
  refine ⟨_, _, (.cons rfl .nil), .b, ?_⟩
  exact rfl

set_option maxRecDepth 100000 in
theorem QAdd_s (s : Bool) (l d : List Int) (x y : Nat) (hx : Rw l x) (hy : Rw d y) (z : Int) (Y : Nat) (q1 : Qe s x y z Y) (s2 : Bool) (l2 d2 : List Int) (x2 y2 : Nat) (hx2 : Rw l2 x2) (hy2 : Rw d2 y2) (w : Int) (X : Nat) (q2 : Qe s2 x2 y2 w X) (hB : lenV (x : Int) + lenV (y : Int) + lenV (x2 : Int) + lenV (y2 : Int) + 1 ≤ 67108864) : Spec Tryz.prog 6 [(.a [.b s, .n false .u64 l, .n false .u64 d]), (.a [.b s2, .n false .u64 l2, .n false .u64 d2])] (fun o => o = .ret (.t [(.a [.b (decide ((z * (X : Int) + w * (Y : Int)) < 0)), .n false .u64 (lm ((nn (z * (X : Int) + w * (Y : Int)) (Y * X) : Nat) : Int)), .n false .u64 (lm ((dd (z * (X : Int) + w * (Y : Int)) (Y * X) : Nat) : Int))]), .i .i64 0])) := by
  refine spec_ofD [(0, (.a [.b s, .n false .u64 l, .n false .u64 d])), (1, (.a [.b s2, .n false .u64 l2, .n false .u64 d2]))] rfl Tryz.func6 rfl (zlb rfl) fun Γ 𝓡 hN hds hL hR hE => ?_
  have hd := hdOf 99 hN
  have h0 := q1.1
  have h02 := q2.1
  have bN1 : lenV ((rn0 x y : Nat) : Int) ≤ lenV (x : Int) := rn0_b (Nat.le_refl _)
  have bD1 : lenV ((rd0 x y : Nat) : Int) ≤ lenV (y : Int) := rd0_b (Nat.le_refl _)
  have bN2 : lenV ((rn0 x2 y2 : Nat) : Int) ≤ lenV (x2 : Int) := rn0_b (Nat.le_refl _)
  have bD2 : lenV ((rd0 x2 y2 : Nat) : Int) ≤ lenV (y2 : Int) := rd0_b (Nat.le_refl _)
  obtain ⟨g9, eg⟩ : ∃ g9 : Nat, g9 = Nat.gcd (rd0 x y) (rd0 x2 y2) := ⟨_, rfl⟩
  have hG1 : Spec Tryz.prog 33 [.n false .u64 (lm (((rd0 x y) : Nat) : Int)), .n false .u64 (lm (((rd0 x2 y2) : Nat) : Int))] (fun o => o = .ret (.n false .u64 (lm (g9 : Int)))) := by
    rw [eg]
    have h := Gcd_v (lm (((rd0 x y) : Nat) : Int)) (lm (((rd0 x2 y2) : Nat) : Int)) (rd0 x y) (rd0 x2 y2) (Rw.of (by omega)).l (Rw.of (by omega)).l (lm_u _) (lm_u _) (Rw.of (by omega)).v (Rw.of (by omega)).v
    exact h
  have hg0 : 0 < g9 := by rw [eg]; exact gcd_pos' q2.d0
  have bg : lenV (g9 : Int) ≤ 67108864 := by rw [eg]; exact gcd_b q2.d0 (by omega)
  obtain ⟨p9, ep⟩ : ∃ p9 : Nat, p9 = (rd0 x y) / g9 := ⟨_, rfl⟩
  have hQ1 : Spec Tryz.prog 35 [.n false .u64 (lm (((rd0 x y) : Nat) : Int)), .n false .u64 (lm (g9 : Int))] (fun o => o = .ret (.t [.n false .u64 (lm (p9 : Int)), .i .i64 0])) := by
    rw [ep]
    have h := Quo_v (((rd0 x y) : Nat) : Int) (g9 : Int) (by omega) bg (by omega)
    rw [qn_nt] at h
    exact h
  obtain ⟨q9, eq9⟩ : ∃ q9 : Nat, q9 = (rd0 x2 y2) / g9 := ⟨_, rfl⟩
  have hQ2 : Spec Tryz.prog 35 [.n false .u64 (lm (((rd0 x2 y2) : Nat) : Int)), .n false .u64 (lm (g9 : Int))] (fun o => o = .ret (.t [.n false .u64 (lm (q9 : Int)), .i .i64 0])) := by
    rw [eq9]
    have h := Quo_v (((rd0 x2 y2) : Nat) : Int) (g9 : Int) (by omega) bg (by omega)
    rw [qn_nt] at h
    exact h
  have bp : lenV (p9 : Int) ≤ lenV (y : Int) := by rw [ep]; exact Nat.le_trans (lenV_nat (Nat.div_le_self _ _)) bD1
  have bq : lenV (q9 : Int) ≤ lenV (y2 : Int) := by rw [eq9]; exact Nat.le_trans (lenV_nat (Nat.div_le_self _ _)) bD2
  obtain ⟨L9, eL⟩ : ∃ L9 : Int, L9 = zs (sgq s x) (rn0 x y) * (q9 : Int) := ⟨_, rfl⟩
  have beL : lenV L9 ≤ lenV (x : Int) + lenV (y2 : Int) := by rw [eL]; have h9 := lenV_mul (zs (sgq s x) (rn0 x y)) (q9 : Int); rw [lenV_zs] at h9; omega
  have hM1 : Spec Tryz.prog 37 [.a [.b (sgq s x), .n false .u64 (lm (((rn0 x y) : Nat) : Int))], .a [.b false, .n false .u64 (lm (q9 : Int))]] (fun o => o = .ret (.t [.a [.b (decide (L9 < 0)), .n true .u64 (lm L9)], .i .i64 0])) := by
    have h := WMul_rv (sgq s x) false (lm (((rn0 x y) : Nat) : Int)) (lm (q9 : Int)) (zs (sgq s x) (rn0 x y)) (q9 : Int) (by have := (Rw.of (x := (rn0 x y)) (by omega)).l; omega) (by have := (Rw.of (x := q9) (by omega)).l; omega) (lm_u _) (lm_u _) sv_zs (vl_lm (Int.natCast_nonneg _)) (by rw [← eL]; omega)
    rwa [← eL] at h
  obtain ⟨R9, eR⟩ : ∃ R9 : Int, R9 = zs (sgq s2 x2) (rn0 x2 y2) * (p9 : Int) := ⟨_, rfl⟩
  have beR : lenV R9 ≤ lenV (x2 : Int) + lenV (y : Int) := by rw [eR]; have h9 := lenV_mul (zs (sgq s2 x2) (rn0 x2 y2)) (p9 : Int); rw [lenV_zs] at h9; omega
  have hM2 : Spec Tryz.prog 37 [.a [.b (sgq s2 x2), .n false .u64 (lm (((rn0 x2 y2) : Nat) : Int))], .a [.b false, .n false .u64 (lm (p9 : Int))]] (fun o => o = .ret (.t [.a [.b (decide (R9 < 0)), .n true .u64 (lm R9)], .i .i64 0])) := by
    have h := WMul_rv (sgq s2 x2) false (lm (((rn0 x2 y2) : Nat) : Int)) (lm (p9 : Int)) (zs (sgq s2 x2) (rn0 x2 y2)) (p9 : Int) (by have := (Rw.of (x := (rn0 x2 y2)) (by omega)).l; omega) (by have := (Rw.of (x := p9) (by omega)).l; omega) (lm_u _) (lm_u _) sv_zs (vl_lm (Int.natCast_nonneg _)) (by rw [← eR]; omega)
    rwa [← eR] at h
  obtain ⟨S9, eS⟩ : ∃ S9 : Int, S9 = L9 + R9 := ⟨_, rfl⟩
  have bS : lenV S9 ≤ 67108864 := by rw [eS]; have h9 := lenV_add L9 R9; omega
  have hA1 : Spec Tryz.prog 38 [.a [.b (decide (L9 < 0)), .n false .u64 (lm L9)], .a [.b (decide (R9 < 0)), .n false .u64 (lm R9)]] (fun o => o = .ret (.t [.a [.b (decide (S9 < 0)), .n true .u64 (lm S9)], .i .i64 0])) := by
    have h := WAdd_rv (decide (L9 < 0)) (decide (R9 < 0)) (lm L9) (lm R9) L9 R9 (by have := lenV_lm (v := L9) (by omega); omega) (by have := lenV_lm (v := R9) (by omega); omega) (lm_u _) (lm_u _) (sv_lm L9) (sv_lm R9) (by rw [← eS]; exact bS)
    rwa [← eS] at h
  have bSa : lenV ((S9.natAbs : Nat) : Int) ≤ 67108864 := by rw [lenV_abs]; exact bS
  have hlS := lenV_lm bS
  obtain ⟨k9, ek⟩ : ∃ k9 : Nat, k9 = Nat.gcd S9.natAbs g9 := ⟨_, rfl⟩
  have hG2 : Spec Tryz.prog 33 [.n false .u64 (lm S9), .n false .u64 (lm ((g9 : Nat) : Int))] (fun o => o = .ret (.n false .u64 (lm (k9 : Int)))) := by
    rw [ek]
    have h := Gcd_v (lm ((S9.natAbs : Nat) : Int)) (lm ((g9 : Nat) : Int)) S9.natAbs g9 (Rw.of bSa).l (Rw.of bg).l (lm_u _) (lm_u _) (Rw.of bSa).v (Rw.of bg).v
    rwa [lm_abs] at h
  have hk0 : 0 < k9 := by rw [ek]; exact Nat.gcd_pos_of_pos_right _ hg0
  have bk : lenV (k9 : Int) ≤ 67108864 := by rw [ek]; exact gcd_b (by omega) bg
  obtain ⟨m9, em⟩ : ∃ m9 : Nat, m9 = S9.natAbs / k9 := ⟨_, rfl⟩
  have hQ3 : Spec Tryz.prog 35 [.n false .u64 (lm S9), .n false .u64 (lm (k9 : Int))] (fun o => o = .ret (.t [.n false .u64 (lm (m9 : Int)), .i .i64 0])) := by
    rw [em]
    have h := Quo_v ((S9.natAbs : Nat) : Int) (k9 : Int) bSa bk (by omega)
    rw [qn_nt, lm_abs] at h
    exact h
  obtain ⟨r9, er⟩ : ∃ r9 : Nat, r9 = (rd0 x2 y2) / k9 := ⟨_, rfl⟩
  have hQ4 : Spec Tryz.prog 35 [.n false .u64 (lm (((rd0 x2 y2) : Nat) : Int)), .n false .u64 (lm (k9 : Int))] (fun o => o = .ret (.t [.n false .u64 (lm (r9 : Int)), .i .i64 0])) := by
    rw [er]
    have h := Quo_v (((rd0 x2 y2) : Nat) : Int) (k9 : Int) (by omega) bk (by omega)
    rw [qn_nt] at h
    exact h
  have br : lenV (r9 : Int) ≤ lenV (y2 : Int) := by rw [er]; exact Nat.le_trans (lenV_nat (Nat.div_le_self _ _)) bD2
  obtain ⟨t9, et⟩ : ∃ t9 : Nat, t9 = p9 * r9 := ⟨_, rfl⟩
  have hM3 : Spec Tryz.prog 41 [.n false .u64 (lm (p9 : Int)), .n false .u64 (lm (r9 : Int))] (fun o => o = .ret (.t [.n true .u64 (lm (t9 : Int)), .i .i64 0])) := by
    have hb9 : lenV ((t9 : Nat) : Int) ≤ 67108864 := by rw [et, Int.natCast_mul]; have h9 := lenV_mul (p9 : Int) (r9 : Int); omega
    refine (Mul_l (lm (p9 : Int)) (lm (r9 : Int)) (by have := (Rw.of (x := p9) (by omega)).l; omega) (by have := (Rw.of (x := r9) (by omega)).l; omega) (lm_u _) (lm_u _)).mono fun o ⟨r, e, ho, hr⟩ => ?_
    rw [vl_lm (Int.natCast_nonneg _), vl_lm (Int.natCast_nonneg _), ← Int.natCast_mul, ← et] at hr
    obtain ⟨rfl, rfl⟩ := errL_fit hr hb9
    exact ho
  have hz := add_all q1 q2 (S := S9) (by rw [eS, eL, eR, ep, eq9, eg])
  rw [← eg, ← ek, ← em, ← er, ← ep, ← et] at hz
  obtain ⟨hz1, hz2, hz3, hz4⟩ := hz
  have hW0 : Y * X ≠ 0 := Nat.mul_ne_zero q1.2.1 q2.2.1
  refine jcp_seq <| jc_region <| jo_h (hy_box (id := 0) (n := 3) rfl rfl rfl (by decide) rfl) (hd 2 rfl) <| jo_h (hy_box (id := 1) (n := 3) rfl rfl rfl (by decide) rfl) (hd 3 rfl) <| jo_h (hy_alloc (id := 2) zero1027 (by decide) rfl (by decide) rfl) (hd 4 rfl) <| jo_h (hy_alloc (id := 3) zero23 (by decide) rfl (by decide) rfl) (hd 5 rfl) <| jo_nil <| jcd_defer (g := 29) (caps := [.p 2 0 0, .p 3 0 0]) 4 [_] (ops := [_, _]) rfl Tryz.func29 rfl rfl rfl hds hR hL hE <| jo_l (ly_mf (ovL_cons rfl (ovL_cons rfl ovL_nil))) (hd 15 rfl) <| jo_nil ?_
  refine ⟨rfl, rfl, rfl, ?_⟩
  intro Γ1 hN1 hL hR1
  replace hd : ∀ d, Nat.blt d 99 = true → d < Γ1.N := fun d h => by rw [hN1]; exact hd d h
  refine jo_nil <| zsr <| jo_l (ly_lda agg1027 rfl rfl rfl rfl) (hd 16 rfl) <| jo_l (ly_lda agg1027 rfl rfl rfl rfl) (hd 17 rfl) <| jo_h (hy_lit (id := 4) (xs := [.tmp 16, .tmp 17]) el1084 rfl (ovL_cons rfl (ovL_cons rfl ovL_nil)) rfl (all2_of rfl) (by decide) rfl) (hd 18 rfl) <| jo_frzr 18 (sz := 3) [[V.b s, V.n false .u64 l, V.n false .u64 d], [V.b s2, V.n false .u64 l2, V.n false .u64 d2]] rfl rfl rfl rfl (by simp) (by simp [pureV]) (by decide) hL ?_
  refine jo_call Tryz.f31 (looked_2 s l d y s2 l2 d2 y2 hy h0 hy2 h02) rfl Tryz.func31 rfl rfl (ovL_cons rfl ovL_nil) (.cons .l .nil) (hd 19 rfl) ?_ (fun ch hp => by simp at hp)
  rintro _ ⟨⟩; refine jo_nil <| jc_seq <| jc_nopan <| jc_draw (n := 6) _ rfl mixed <| zal2 0 [1, 3, 4, 5] (lo_l (ly_lda agg1027 rfl rfl rfl rfl) (hd 20 rfl)) rfl <| zal2 2 [3, 4, 5] (lo_l (ly_lda agg1027 rfl rfl rfl rfl) (hd 22 rfl)) rfl ?_
  refine ja_1 1 ?_ rfl (by kernel_rfl)
  refine js_call Tryz.f32 (qnorm_s s l d x y hx hy h0) rfl Tryz.func32 rfl rfl (ovL_cons rfl ovL_nil) (.cons (.a1 .b (.a1 .n (.a1 .n .a0))) .nil) (hd 21 rfl) ?_ (fun ch hp => by simp at hp)
  rintro y hy; injection hy with hy; subst hy
  refine ja_1 3 ?_ rfl (by kernel_rfl)
  refine js_call Tryz.f32 (qnorm_s s2 l2 d2 x2 y2 hx2 hy2 h02) rfl Tryz.func32 rfl rfl (ovL_cons rfl ovL_nil) (.cons (.a1 .b (.a1 .n (.a1 .n .a0))) .nil) (hd 23 rfl) ?_ (fun ch hp => by simp at hp)
  rintro y hy; injection hy with hy; subst hy
  refine ja_1 4 ?_ rfl (by kernel_rfl)
  refine js_st (sy_store rfl rfl rfl siz1027 rfl rfl (zlb rfl)) rfl ?_
  refine ja_1 5 ?_ rfl (by kernel_rfl)
  refine js_st (sy_store rfl rfl rfl siz1027 rfl rfl (zlb rfl)) rfl <| ja_nil (by kernel_rfl) <| jc_seq <| jc_H (H' := [⟨27, 3, 0, true, [.b (sgq s x), .n false .u64 (lm ((rn0 x y : Nat) : Int)), .n false .u64 (lm ((rd0 x y : Nat) : Int))]⟩, ⟨27, 3, 0, true, [.b (sgq s2 x2), .n false .u64 (lm ((rn0 x2 y2 : Nat) : Int)), .n false .u64 (lm ((rd0 x2 y2 : Nat) : Int))]⟩, ⟨27, 3, 0, true, [.b false, .c (.slice none 0 0), .c (.slice none 0 0)]⟩, ⟨33, 1, 0, true, [.i .i64 0]⟩, ⟨27, 3, 0, false, []⟩]) rfl <| jc_region <| jo_l (ly_fa fld1027_1 rfl rfl rfl) (hd 24 rfl) <| jo_l (ly_ld one28 rfl rfl rfl) (hd 25 rfl) <| jo_l (ly_fa fld1027_1 rfl rfl rfl) (hd 26 rfl) <| jo_l (ly_ld one28 rfl rfl rfl) (hd 27 rfl) ?_
  refine jo_call Tryz.f33 (hG1) rfl Tryz.func33 rfl rfl (ovL_cons rfl (ovL_cons rfl ovL_nil)) (.cons .n (.cons .n .nil)) (hd 28 rfl) ?_ (fun ch hp => by simp at hp)
  rintro _ ⟨⟩; refine zas rfl (hd 6 rfl) <| jo_nil <| jc_seq <| jc_nopan <| jc_draw (n := 16) _ rfl mixed <| zal2 0 [1, 3, 4, 5, 6, 10, 11, 12, 13, 14, 15] (lo_l (ly_fa fld1027_1 rfl rfl rfl) (hd 29 rfl)) rfl <| zal2 1 [3, 4, 5, 6, 10, 11, 12, 13, 14, 15] (lo_l (ly_ld one28 rfl rfl rfl) (hd 30 rfl)) rfl <| zal2 2 [3, 4, 5, 6, 10, 11, 12, 13, 14, 15] (lo_l (ly_mv rfl) (hd 31 rfl)) rfl <| zal2 7 [8, 10, 11, 12, 13, 14, 15] (lo_l (ly_fa fld1027_1 rfl rfl rfl) (hd 36 rfl)) rfl <| zal2 8 [10, 11, 12, 13, 14, 15] (lo_l (ly_ld one28 rfl rfl rfl) (hd 37 rfl)) rfl <| zal2 9 [10, 11, 12, 13, 14, 15] (lo_l (ly_mv rfl) (hd 38 rfl)) rfl ?_
  refine ja_1 3 ?_ rfl (by kernel_rfl)
  refine js_call Tryz.f35 (hQ1) rfl Tryz.func35 rfl rfl (ovL_cons rfl (ovL_cons rfl ovL_nil)) (.cons .n (.cons .n .nil)) (hd 32 rfl) ?_ (fun ch hp => by simp at hp)
  rintro _ ⟨⟩; refine zal2 4 [6, 10, 11, 12, 13, 14, 15] (lo_l (ly_ext rfl rfl) (hd 33 rfl)) rfl <| zal2 5 [6, 10, 11, 12, 13, 14, 15] (lo_l (ly_ext rfl rfl) (hd 34 rfl)) rfl ?_
  refine ja_1 6 ?_ rfl (by kernel_rfl)
  refine js_call Tryz.f34 (mustN _) rfl Tryz.func34 rfl rfl (ovL_cons rfl (ovL_cons rfl ovL_nil)) (.cons .n (.cons .i .nil)) (hd 35 rfl) ?_ (fun ch hp => by simp at hp)
  rintro y hy; injection hy with hy; subst hy
  refine ja_1 10 ?_ rfl (by kernel_rfl)
  refine js_call Tryz.f35 (hQ2) rfl Tryz.func35 rfl rfl (ovL_cons rfl (ovL_cons rfl ovL_nil)) (.cons .n (.cons .n .nil)) (hd 39 rfl) ?_ (fun ch hp => by simp at hp)
  rintro _ ⟨⟩; refine zal2 11 [13, 14, 15] (lo_l (ly_ext rfl rfl) (hd 40 rfl)) rfl <| zal2 12 [13, 14, 15] (lo_l (ly_ext rfl rfl) (hd 41 rfl)) rfl ?_
  refine ja_1 13 ?_ rfl (by kernel_rfl)
  refine js_call Tryz.f34 (mustN _) rfl Tryz.func34 rfl rfl (ovL_cons rfl (ovL_cons rfl ovL_nil)) (.cons .n (.cons .i .nil)) (hd 42 rfl) ?_ (fun ch hp => by simp at hp)
  rintro _ ⟨⟩; refine zal 14 (lo_l (ly_as rfl) (hd 7 rfl)) rfl <| zal 15 (lo_l (ly_as rfl) (hd 8 rfl)) rfl <| ja_nil (by kernel_rfl) <| zsr <| jo_l (ly_fa fld1027_0 rfl rfl rfl) (hd 43 rfl) <| jo_l (ly_lda agg30 rfl rfl rfl rfl) (hd 44 rfl) <| zmv rfl (hd 45 rfl) <| jo_l (ly_build (is := [1]) (xs := [.tmp 45]) zero30 pls30_1 rfl (ovL_cons rfl ovL_nil) rfl (by first | (simp [plsOk, cellsV]; done) | (simp [plsOk, cellsV, old]; done)) (all_of rfl) rfl) (hd 46 rfl) ?_
  refine jo_call Tryz.f37 (hM1) rfl Tryz.func37 rfl rfl (ovL_cons rfl (ovL_cons rfl ovL_nil)) (.cons (.a1 .b (.a1 .n .a0)) (.cons (.a1 .b (.a1 .n .a0)) .nil)) (hd 47 rfl) ?_ (fun ch hp => by simp at hp)
  rintro _ ⟨⟩; refine jo_l (ly_ext rfl rfl) (hd 48 rfl) <| jo_l (ly_ext rfl rfl) (hd 49 rfl) ?_
  refine jo_call Tryz.f36 (mustW _ _) rfl Tryz.func36 rfl rfl (ovL_cons rfl (ovL_cons rfl ovL_nil)) (.cons (.a1 .b (.a1 .n .a0)) (.cons .i .nil)) (hd 50 rfl) ?_ (fun ch hp => by simp at hp)
  rintro _ ⟨⟩; refine jo_h (hy_alloc (id := 5) zero30 (by decide) rfl (by decide) rfl) (hd 9 rfl) <| jo_st (sy_store rfl rfl rfl siz30 rfl rfl (zlb rfl)) <| jo_nil <| jc_seq <| jc_H (H' := [⟨27, 3, 0, true, [.b (sgq s x), .n false .u64 (lm ((rn0 x y : Nat) : Int)), .n false .u64 (lm ((rd0 x y : Nat) : Int))]⟩, ⟨27, 3, 0, true, [.b (sgq s2 x2), .n false .u64 (lm ((rn0 x2 y2 : Nat) : Int)), .n false .u64 (lm ((rd0 x2 y2 : Nat) : Int))]⟩, ⟨27, 3, 0, true, [.b false, .c (.slice none 0 0), .c (.slice none 0 0)]⟩, ⟨33, 1, 0, true, [.i .i64 0]⟩, ⟨27, 3, 0, false, []⟩, ⟨25, 2, 0, true, [.b (decide (L9 < 0)), .n false .u64 (lm L9)]⟩]) rfl <| jc_region <| jo_l (ly_fa fld1027_0 rfl rfl rfl) (hd 51 rfl) <| jo_l (ly_lda agg30 rfl rfl rfl rfl) (hd 52 rfl) <| zmv rfl (hd 53 rfl) <| jo_l (ly_build (is := [1]) (xs := [.tmp 53]) zero30 pls30_1 rfl (ovL_cons rfl ovL_nil) rfl (by first | (simp [plsOk, cellsV]; done) | (simp [plsOk, cellsV, old]; done)) (all_of rfl) rfl) (hd 54 rfl) ?_
  refine jo_call Tryz.f37 (hM2) rfl Tryz.func37 rfl rfl (ovL_cons rfl (ovL_cons rfl ovL_nil)) (.cons (.a1 .b (.a1 .n .a0)) (.cons (.a1 .b (.a1 .n .a0)) .nil)) (hd 55 rfl) ?_ (fun ch hp => by simp at hp)
  rintro _ ⟨⟩; refine jo_l (ly_ext rfl rfl) (hd 56 rfl) <| jo_l (ly_ext rfl rfl) (hd 57 rfl) ?_
  refine jo_call Tryz.f36 (mustW _ _) rfl Tryz.func36 rfl rfl (ovL_cons rfl (ovL_cons rfl ovL_nil)) (.cons (.a1 .b (.a1 .n .a0)) (.cons .i .nil)) (hd 58 rfl) ?_ (fun ch hp => by simp at hp)
  rintro _ ⟨⟩; refine jo_h (hy_alloc (id := 6) zero30 (by decide) rfl (by decide) rfl) (hd 10 rfl) <| jo_st (sy_store rfl rfl rfl siz30 rfl rfl (zlb rfl)) <| jo_nil <| zsr <| jo_l (ly_lda agg30 rfl rfl rfl rfl) (hd 59 rfl) <| jo_l (ly_lda agg30 rfl rfl rfl rfl) (hd 60 rfl) ?_
  refine jo_call Tryz.f38 (hA1) rfl Tryz.func38 rfl rfl (ovL_cons rfl (ovL_cons rfl ovL_nil)) (.cons (.a1 .b (.a1 .n .a0)) (.cons (.a1 .b (.a1 .n .a0)) .nil)) (hd 61 rfl) ?_ (fun ch hp => by simp at hp)
  rintro _ ⟨⟩; refine jo_l (ly_ext rfl rfl) (hd 62 rfl) <| jo_l (ly_ext rfl rfl) (hd 63 rfl) ?_
  refine jo_call Tryz.f36 (mustW _ _) rfl Tryz.func36 rfl rfl (ovL_cons rfl (ovL_cons rfl ovL_nil)) (.cons (.a1 .b (.a1 .n .a0)) (.cons .i .nil)) (hd 64 rfl) ?_ (fun ch hp => by simp at hp)
  rintro _ ⟨⟩; refine jo_h (hy_alloc (id := 7) zero30 (by decide) rfl (by decide) rfl) (hd 11 rfl) <| jo_st (sy_store rfl rfl rfl siz30 rfl rfl (zlb rfl)) <| jo_nil <| jc_seq <| jc_H (H' := [⟨27, 3, 0, true, [.b (sgq s x), .n false .u64 (lm ((rn0 x y : Nat) : Int)), .n false .u64 (lm ((rd0 x y : Nat) : Int))]⟩, ⟨27, 3, 0, true, [.b (sgq s2 x2), .n false .u64 (lm ((rn0 x2 y2 : Nat) : Int)), .n false .u64 (lm ((rd0 x2 y2 : Nat) : Int))]⟩, ⟨27, 3, 0, true, [.b false, .c (.slice none 0 0), .c (.slice none 0 0)]⟩, ⟨33, 1, 0, true, [.i .i64 0]⟩, ⟨27, 3, 0, false, []⟩, ⟨25, 2, 0, true, [.b (decide (L9 < 0)), .n false .u64 (lm L9)]⟩, ⟨25, 2, 0, true, [.b (decide (R9 < 0)), .n false .u64 (lm R9)]⟩, ⟨25, 2, 0, true, [.b (decide (S9 < 0)), .n false .u64 (lm S9)]⟩]) rfl <| jc_region <| jo_l (ly_fa fld30_1 rfl rfl rfl) (hd 65 rfl) <| jo_l (ly_ld one28 rfl rfl rfl) (hd 66 rfl) <| zmv rfl (hd 67 rfl) ?_
  refine jo_call Tryz.f33 (hG2) rfl Tryz.func33 rfl rfl (ovL_cons rfl (ovL_cons rfl ovL_nil)) (.cons .n (.cons .n .nil)) (hd 68 rfl) ?_ (fun ch hp => by simp at hp)
  rintro _ ⟨⟩; refine zas rfl (hd 12 rfl) <| jo_nil <| jc_seq <| zsr <| jo_l (ly_fa fld30_1 rfl rfl rfl) (hd 69 rfl) <| jo_l (ly_ld one28 rfl rfl rfl) (hd 70 rfl) ?_
  refine jo_call Tryz.f39 (Length_v S9 (by omega)) rfl Tryz.func39 rfl rfl (ovL_cons rfl ovL_nil) (.cons .n .nil) (hd 71 rfl) ?_ (fun ch hp => by simp at hp)
  rintro _ ⟨⟩; refine jo_l (ly_eq rfl rfl) (hd 72 rfl) <| jo_nil ?_
  refine jc_if rfl (fun h1 => ?_) (fun h1 => ?_)
  · have hS0 : S9 = 0 := by have h9 : ((lenV S9 : Nat) : Int) = 0 := h1; have h7 := lenV_zero (x := S9.natAbs); rw [lenV_abs] at h7; have := h7.1 (by omega); omega
    refine jc_seq <| jc_region ?_
    refine jo_call Tryz.f40 (QInt_s 0 (by unfold inI; omega)) rfl Tryz.func40 rfl rfl (ovL_cons rfl ovL_nil) (.cons .i .nil) (hd 73 rfl) ?_ (fun ch hp => by simp at hp)
    rintro _ ⟨⟩; refine jo_st (sy_store rfl rfl rfl siz1027 rfl rfl (zlb rfl)) <| jo_st (sy_store rfl rfl rfl siz23 rfl rfl (zlb rfl)) <| jo_nil <| jc_ret <| Clo.fin clo_2347 (m := 4) (i := 2) (j := 3) (zlb rfl) rfl rfl rfl rfl ?_
    refine ⟨_, _, (.cons (ResV.cell agg1027 rfl rfl rfl rfl) (.cons (ResV.cell1 one23 rfl rfl rfl) .nil)), (.t1 (.a1 .b (.a1 .nn (.a1 .nn .a0))) (.t1 .i .t0)), ?_⟩
    rw [hz4.1 hS0, nn_0, dd_0 hW0]
    rfl
  · refine jc_skip <| jc_seq <| jc_H (H' := [⟨27, 3, 0, true, [.b (sgq s x), .n false .u64 (lm ((rn0 x y : Nat) : Int)), .n false .u64 (lm ((rd0 x y : Nat) : Int))]⟩, ⟨27, 3, 0, true, [.b (sgq s2 x2), .n false .u64 (lm ((rn0 x2 y2 : Nat) : Int)), .n false .u64 (lm ((rd0 x2 y2 : Nat) : Int))]⟩, ⟨27, 3, 0, true, [.b false, .c (.slice none 0 0), .c (.slice none 0 0)]⟩, ⟨33, 1, 0, true, [.i .i64 0]⟩, ⟨27, 3, 0, false, []⟩, ⟨25, 2, 0, true, [.b (decide (L9 < 0)), .n false .u64 (lm L9)]⟩, ⟨25, 2, 0, true, [.b (decide (R9 < 0)), .n false .u64 (lm R9)]⟩, ⟨25, 2, 0, true, [.b (decide (S9 < 0)), .n false .u64 (lm S9)]⟩]) rfl <| jc_region <| jo_l (ly_fa fld30_1 rfl rfl rfl) (hd 74 rfl) <| jo_l (ly_ld one28 rfl rfl rfl) (hd 75 rfl) <| zmv rfl (hd 76 rfl) ?_
    refine jo_call Tryz.f35 (hQ3) rfl Tryz.func35 rfl rfl (ovL_cons rfl (ovL_cons rfl ovL_nil)) (.cons .n (.cons .n .nil)) (hd 77 rfl) ?_ (fun ch hp => by simp at hp)
    rintro _ ⟨⟩; refine jo_l (ly_ext rfl rfl) (hd 78 rfl) <| jo_l (ly_ext rfl rfl) (hd 79 rfl) ?_
    refine jo_call Tryz.f34 (mustN _) rfl Tryz.func34 rfl rfl (ovL_cons rfl (ovL_cons rfl ovL_nil)) (.cons .n (.cons .i .nil)) (hd 80 rfl) ?_ (fun ch hp => by simp at hp)
    rintro _ ⟨⟩; refine zas rfl (hd 13 rfl) <| jo_nil <| zsr <| zmv rfl (hd 81 rfl) <| jo_l (ly_fa fld1027_1 rfl rfl rfl) (hd 82 rfl) <| jo_l (ly_ld one28 rfl rfl rfl) (hd 83 rfl) <| zmv rfl (hd 84 rfl) ?_
    refine jo_call Tryz.f35 (hQ4) rfl Tryz.func35 rfl rfl (ovL_cons rfl (ovL_cons rfl ovL_nil)) (.cons .n (.cons .n .nil)) (hd 85 rfl) ?_ (fun ch hp => by simp at hp)
    rintro _ ⟨⟩; refine jo_l (ly_ext rfl rfl) (hd 86 rfl) <| jo_l (ly_ext rfl rfl) (hd 87 rfl) ?_
    refine jo_call Tryz.f34 (mustN _) rfl Tryz.func34 rfl rfl (ovL_cons rfl (ovL_cons rfl ovL_nil)) (.cons .n (.cons .i .nil)) (hd 88 rfl) ?_ (fun ch hp => by simp at hp)
    rintro y hy; injection hy with hy; subst hy
    refine jo_call Tryz.f41 (hM3) rfl Tryz.func41 rfl rfl (ovL_cons rfl (ovL_cons rfl ovL_nil)) (.cons .n (.cons .n .nil)) (hd 89 rfl) ?_ (fun ch hp => by simp at hp)
    rintro _ ⟨⟩; refine jo_l (ly_ext rfl rfl) (hd 90 rfl) <| jo_l (ly_ext rfl rfl) (hd 91 rfl) ?_
    refine jo_call Tryz.f34 (mustN _) rfl Tryz.func34 rfl rfl (ovL_cons rfl (ovL_cons rfl ovL_nil)) (.cons .n (.cons .i .nil)) (hd 92 rfl) ?_ (fun ch hp => by simp at hp)
    rintro _ ⟨⟩; refine zas rfl (hd 14 rfl) <| jo_nil <| zsr <| jo_l (ly_fa fld30_0 rfl rfl rfl) (hd 93 rfl) <| jo_l (ly_ld one4 rfl rfl rfl) (hd 94 rfl) <| zmv rfl (hd 95 rfl) <| jo_l (ly_build (is := [0, 1]) (xs := [.tmp 94, .tmp 95]) zero30 pls30_0_1 rfl (ovL_cons rfl (ovL_cons rfl ovL_nil)) rfl (by first | (simp [plsOk, cellsV]; done) | (simp [plsOk, cellsV, old]; done)) (all_of rfl) rfl) (hd 96 rfl) <| zmv rfl (hd 97 rfl) <| jo_l (ly_build (is := [0, 1]) (xs := [.tmp 96, .tmp 97]) zero1027 pls1027_0_1 rfl (ovL_cons rfl (ovL_cons rfl ovL_nil)) rfl ⟨rfl, (by decide), rfl, (by decide), trivial⟩ (all_of rfl) rfl) (hd 98 rfl) <| jo_st (sy_store rfl rfl rfl siz1027 rfl rfl (zlb rfl)) <| jo_st (sy_store rfl rfl rfl siz23 rfl rfl (zlb rfl)) <| jo_nil ?_; refine jc_ret <| Clo.fin clo_2347 (m := 4) (i := 2) (j := 3) (zlb rfl) rfl rfl rfl rfl ?_
    refine ⟨_, _, (.cons (ResV.cell agg1027 rfl rfl rfl rfl) (.cons (ResV.cell1 one23 rfl rfl rfl) .nil)), (.t1 (.a1 .b (.a1 .nn (.a1 .nn .a0))) (.t1 .i .t0)), ?_⟩
    rw [← hz1, ← hz2, ← hz3]

theorem QMul_0a (s : Bool) (l d : List Int) (x y : Nat) (hx : Rw l x) (hy : Rw d y) (z : Int) (Y : Nat) (q1 : Qe s x y z Y) (s2 : Bool) (l2 d2 : List Int) (x2 y2 : Nat) (hx2 : Rw l2 x2) (hy2 : Rw d2 y2) (w : Int) (X : Nat) (q2 : Qe s2 x2 y2 w X) (hB : lenV (x : Int) + lenV (y : Int) + lenV (x2 : Int) + lenV (y2 : Int) ≤ 67108864) (hx0 : x = 0) : Spec Tryz.prog 8 [(.a [.b s, .n false .u64 l, .n false .u64 d]), (.a [.b s2, .n false .u64 l2, .n false .u64 d2])] (fun o => o = .ret (.t [(.a [.b (decide ((z * w) < 0)), .n false .u64 (lm ((nn (z * w) (Y * X) : Nat) : Int)), .n false .u64 (lm ((dd (z * w) (Y * X) : Nat) : Int))]), .i .i64 0])) := by
  refine spec_ofD [(0, (.a [.b s, .n false .u64 l, .n false .u64 d])), (1, (.a [.b s2, .n false .u64 l2, .n false .u64 d2]))] rfl Tryz.func8 rfl (zlb rfl) fun Γ 𝓡 hN hds hL hR hE => ?_
  have hd := hdOf 93 hN
  have h0 := q1.1
  have h02 := q2.1
  have hlx : (lm ((rn0 x y : Nat) : Int)).length = 0 ↔ x = 0 := lm_len0.trans rn0_eq0
  have hlx2 : (lm ((rn0 x2 y2 : Nat) : Int)).length = 0 ↔ x2 = 0 := lm_len0.trans rn0_eq0
  have hW0 : Y * X ≠ 0 := Nat.mul_ne_zero q1.2.1 q2.2.1
  have hz0 : z * w = 0 := by rw [q1.z0.1 hx0, Int.zero_mul]
  refine jcp_seq <| jc_region <| jo_h (hy_box (id := 0) (n := 3) rfl rfl rfl (by decide) rfl) (hd 2 rfl) <| jo_h (hy_box (id := 1) (n := 3) rfl rfl rfl (by decide) rfl) (hd 3 rfl) <| jo_h (hy_alloc (id := 2) zero1027 (by decide) rfl (by decide) rfl) (hd 4 rfl) <| jo_h (hy_alloc (id := 3) zero23 (by decide) rfl (by decide) rfl) (hd 5 rfl) <| jo_nil <| jcd_defer (g := 45) (caps := [.p 2 0 0, .p 3 0 0]) 4 [_] (ops := [_, _]) rfl Tryz.func45 rfl rfl rfl hds hR hL hE <| jo_l (ly_mf (ovL_cons rfl (ovL_cons rfl ovL_nil))) (hd 10 rfl) <| jo_nil ?_
  refine ⟨rfl, rfl, rfl, ?_⟩
  intro Γ1 hN1 hL hR1
  replace hd : ∀ d, Nat.blt d 93 = true → d < Γ1.N := fun d h => by rw [hN1]; exact hd d h
  refine jo_nil <| zsr <| jo_l (ly_lda agg1027 rfl rfl rfl rfl) (hd 11 rfl) <| jo_l (ly_lda agg1027 rfl rfl rfl rfl) (hd 12 rfl) <| jo_h (hy_lit (id := 4) (xs := [.tmp 11, .tmp 12]) el1084 rfl (ovL_cons rfl (ovL_cons rfl ovL_nil)) rfl (all2_of rfl) (by decide) rfl) (hd 13 rfl) <| jo_frzr 13 (sz := 3) [[V.b s, V.n false .u64 l, V.n false .u64 d], [V.b s2, V.n false .u64 l2, V.n false .u64 d2]] rfl rfl rfl rfl (by simp) (by simp [pureV]) (by decide) hL ?_
  refine jo_call Tryz.f31 (looked_2 s l d y s2 l2 d2 y2 hy h0 hy2 h02) rfl Tryz.func31 rfl rfl (ovL_cons rfl ovL_nil) (.cons .l .nil) (hd 14 rfl) ?_ (fun ch hp => by simp at hp)
  rintro _ ⟨⟩; refine jo_nil <| jc_seq <| jc_nopan <| jc_draw (n := 6) _ rfl mixed <| zal2 0 [1, 3, 4, 5] (lo_l (ly_lda agg1027 rfl rfl rfl rfl) (hd 15 rfl)) rfl <| zal2 2 [3, 4, 5] (lo_l (ly_lda agg1027 rfl rfl rfl rfl) (hd 17 rfl)) rfl ?_
  refine ja_1 1 ?_ rfl (by kernel_rfl)
  refine js_call Tryz.f32 (qnorm_s s l d x y hx hy h0) rfl Tryz.func32 rfl rfl (ovL_cons rfl ovL_nil) (.cons (.a1 .b (.a1 .n (.a1 .n .a0))) .nil) (hd 16 rfl) ?_ (fun ch hp => by simp at hp)
  rintro y hy; injection hy with hy; subst hy
  refine ja_1 3 ?_ rfl (by kernel_rfl)
  refine js_call Tryz.f32 (qnorm_s s2 l2 d2 x2 y2 hx2 hy2 h02) rfl Tryz.func32 rfl rfl (ovL_cons rfl ovL_nil) (.cons (.a1 .b (.a1 .n (.a1 .n .a0))) .nil) (hd 18 rfl) ?_ (fun ch hp => by simp at hp)
  rintro y hy; injection hy with hy; subst hy
  refine ja_1 4 ?_ rfl (by kernel_rfl)
  refine js_st (sy_store rfl rfl rfl siz1027 rfl rfl (zlb rfl)) rfl ?_
  refine ja_1 5 ?_ rfl (by kernel_rfl)
  refine js_st (sy_store rfl rfl rfl siz1027 rfl rfl (zlb rfl)) rfl <| ja_nil (by kernel_rfl) <| jc_seq <| zsr <| jo_l (ly_fa fld1027_0 rfl rfl rfl) (hd 19 rfl) <| jo_l (ly_fa fld30_1 rfl rfl rfl) (hd 20 rfl) <| jo_l (ly_ld one28 rfl rfl rfl) (hd 21 rfl) <| jo_l (ly_lenn sl28 rfl) (hd 22 rfl) <| jo_l (ly_tt (ly_eq rfl rfl) (by omega)) (hd 23 rfl) <| zmv rfl (hd 24 rfl) <| jo_s 24 rfl rfl rfl (hd 25 rfl) <| jo_s 24 rfl rfl rfl (hd 26 rfl) ?_; refine jo_s 24 rfl rfl rfl (hd 27 rfl) <| jo_s 24 rfl rfl rfl (hd 28 rfl) <| jo_s 24 rfl rfl rfl (hd 29 rfl) <| jo_l (ly_pick_t rfl rfl) (hd 30 rfl) <| jo_nil <| jc_litt rfl <| jc_seq <| jc_region ?_
  refine jo_call Tryz.f40 (QInt_s 0 (by unfold inI; omega)) rfl Tryz.func40 rfl rfl (ovL_cons rfl ovL_nil) (.cons .i .nil) (hd 31 rfl) ?_ (fun ch hp => by simp at hp)
  rintro _ ⟨⟩; refine jo_st (sy_store rfl rfl rfl siz1027 rfl rfl (zlb rfl)) <| jo_st (sy_store rfl rfl rfl siz23 rfl rfl (zlb rfl)) <| jo_nil <| jc_ret <| Clo.fin clo_2350 (m := 4) (i := 2) (j := 3) (zlb rfl) rfl rfl rfl rfl ?_
  refine ⟨_, _, (.cons (ResV.cell agg1027 rfl rfl rfl rfl) (.cons (ResV.cell1 one23 rfl rfl rfl) .nil)), (.t1 (.a1 .b (.a1 .nn (.a1 .nn .a0))) (.t1 .i .t0)), ?_⟩
  rw [hz0, nn_0, dd_0 hW0]
  rfl

theorem QMul_0b (s : Bool) (l d : List Int) (x y : Nat) (hx : Rw l x) (hy : Rw d y) (z : Int) (Y : Nat) (q1 : Qe s x y z Y) (s2 : Bool) (l2 d2 : List Int) (x2 y2 : Nat) (hx2 : Rw l2 x2) (hy2 : Rw d2 y2) (w : Int) (X : Nat) (q2 : Qe s2 x2 y2 w X) (hB : lenV (x : Int) + lenV (y : Int) + lenV (x2 : Int) + lenV (y2 : Int) ≤ 67108864) (hx0 : x ≠ 0) (hx20 : x2 = 0) : Spec Tryz.prog 8 [(.a [.b s, .n false .u64 l, .n false .u64 d]), (.a [.b s2, .n false .u64 l2, .n false .u64 d2])] (fun o => o = .ret (.t [(.a [.b (decide ((z * w) < 0)), .n false .u64 (lm ((nn (z * w) (Y * X) : Nat) : Int)), .n false .u64 (lm ((dd (z * w) (Y * X) : Nat) : Int))]), .i .i64 0])) := by
  refine spec_ofD [(0, (.a [.b s, .n false .u64 l, .n false .u64 d])), (1, (.a [.b s2, .n false .u64 l2, .n false .u64 d2]))] rfl Tryz.func8 rfl (zlb rfl) fun Γ 𝓡 hN hds hL hR hE => ?_
  have hd := hdOf 93 hN
  have h0 := q1.1
  have h02 := q2.1
  have hlx : (lm ((rn0 x y : Nat) : Int)).length = 0 ↔ x = 0 := lm_len0.trans rn0_eq0
  have hlx2 : (lm ((rn0 x2 y2 : Nat) : Int)).length = 0 ↔ x2 = 0 := lm_len0.trans rn0_eq0
  have hW0 : Y * X ≠ 0 := Nat.mul_ne_zero q1.2.1 q2.2.1
  have hz0 : z * w = 0 := by rw [q2.z0.1 hx20, Int.mul_zero]
  refine jcp_seq <| jc_region <| jo_h (hy_box (id := 0) (n := 3) rfl rfl rfl (by decide) rfl) (hd 2 rfl) <| jo_h (hy_box (id := 1) (n := 3) rfl rfl rfl (by decide) rfl) (hd 3 rfl) <| jo_h (hy_alloc (id := 2) zero1027 (by decide) rfl (by decide) rfl) (hd 4 rfl) <| jo_h (hy_alloc (id := 3) zero23 (by decide) rfl (by decide) rfl) (hd 5 rfl) <| jo_nil <| jcd_defer (g := 45) (caps := [.p 2 0 0, .p 3 0 0]) 4 [_] (ops := [_, _]) rfl Tryz.func45 rfl rfl rfl hds hR hL hE <| jo_l (ly_mf (ovL_cons rfl (ovL_cons rfl ovL_nil))) (hd 10 rfl) <| jo_nil ?_
  refine ⟨rfl, rfl, rfl, ?_⟩
  intro Γ1 hN1 hL hR1
  replace hd : ∀ d, Nat.blt d 93 = true → d < Γ1.N := fun d h => by rw [hN1]; exact hd d h
  refine jo_nil <| zsr <| jo_l (ly_lda agg1027 rfl rfl rfl rfl) (hd 11 rfl) <| jo_l (ly_lda agg1027 rfl rfl rfl rfl) (hd 12 rfl) <| jo_h (hy_lit (id := 4) (xs := [.tmp 11, .tmp 12]) el1084 rfl (ovL_cons rfl (ovL_cons rfl ovL_nil)) rfl (all2_of rfl) (by decide) rfl) (hd 13 rfl) <| jo_frzr 13 (sz := 3) [[V.b s, V.n false .u64 l, V.n false .u64 d], [V.b s2, V.n false .u64 l2, V.n false .u64 d2]] rfl rfl rfl rfl (by simp) (by simp [pureV]) (by decide) hL ?_
  refine jo_call Tryz.f31 (looked_2 s l d y s2 l2 d2 y2 hy h0 hy2 h02) rfl Tryz.func31 rfl rfl (ovL_cons rfl ovL_nil) (.cons .l .nil) (hd 14 rfl) ?_ (fun ch hp => by simp at hp)
  rintro _ ⟨⟩; refine jo_nil <| jc_seq <| jc_nopan <| jc_draw (n := 6) _ rfl mixed <| zal2 0 [1, 3, 4, 5] (lo_l (ly_lda agg1027 rfl rfl rfl rfl) (hd 15 rfl)) rfl <| zal2 2 [3, 4, 5] (lo_l (ly_lda agg1027 rfl rfl rfl rfl) (hd 17 rfl)) rfl ?_
  refine ja_1 1 ?_ rfl (by kernel_rfl)
  refine js_call Tryz.f32 (qnorm_s s l d x y hx hy h0) rfl Tryz.func32 rfl rfl (ovL_cons rfl ovL_nil) (.cons (.a1 .b (.a1 .n (.a1 .n .a0))) .nil) (hd 16 rfl) ?_ (fun ch hp => by simp at hp)
  rintro y hy; injection hy with hy; subst hy
  refine ja_1 3 ?_ rfl (by kernel_rfl)
  refine js_call Tryz.f32 (qnorm_s s2 l2 d2 x2 y2 hx2 hy2 h02) rfl Tryz.func32 rfl rfl (ovL_cons rfl ovL_nil) (.cons (.a1 .b (.a1 .n (.a1 .n .a0))) .nil) (hd 18 rfl) ?_ (fun ch hp => by simp at hp)
  rintro y hy; injection hy with hy; subst hy
  refine ja_1 4 ?_ rfl (by kernel_rfl)
  refine js_st (sy_store rfl rfl rfl siz1027 rfl rfl (zlb rfl)) rfl ?_
  refine ja_1 5 ?_ rfl (by kernel_rfl)
  refine js_st (sy_store rfl rfl rfl siz1027 rfl rfl (zlb rfl)) rfl <| ja_nil (by kernel_rfl) <| jc_seq <| zsr <| jo_l (ly_fa fld1027_0 rfl rfl rfl) (hd 19 rfl) <| jo_l (ly_fa fld30_1 rfl rfl rfl) (hd 20 rfl) <| jo_l (ly_ld one28 rfl rfl rfl) (hd 21 rfl) <| jo_l (ly_lenn sl28 rfl) (hd 22 rfl) <| jo_l (ly_ff (ly_eq rfl rfl) (by omega)) (hd 23 rfl) <| zmv rfl (hd 24 rfl) <| jo_g 24 rfl rfl (ly_fa fld1027_0 rfl rfl rfl) (hd 25 rfl) <| jo_g 24 rfl rfl (ly_fa fld30_1 rfl rfl rfl) (hd 26 rfl) ?_; refine jo_g 24 rfl rfl (ly_ld one28 rfl rfl rfl) (hd 27 rfl) <| jo_g 24 rfl rfl (ly_lenn sl28 rfl) (hd 28 rfl) <| jo_g 24 rfl rfl (ly_tt (ly_eq rfl rfl) (by omega)) (hd 29 rfl) <| jo_l (ly_pick_f rfl rfl) (hd 30 rfl) <| jo_nil <| jc_litt rfl <| jc_seq <| jc_region ?_
  refine jo_call Tryz.f40 (QInt_s 0 (by unfold inI; omega)) rfl Tryz.func40 rfl rfl (ovL_cons rfl ovL_nil) (.cons .i .nil) (hd 31 rfl) ?_ (fun ch hp => by simp at hp)
  rintro _ ⟨⟩; refine jo_st (sy_store rfl rfl rfl siz1027 rfl rfl (zlb rfl)) <| jo_st (sy_store rfl rfl rfl siz23 rfl rfl (zlb rfl)) <| jo_nil <| jc_ret <| Clo.fin clo_2350 (m := 4) (i := 2) (j := 3) (zlb rfl) rfl rfl rfl rfl ?_
  refine ⟨_, _, (.cons (ResV.cell agg1027 rfl rfl rfl rfl) (.cons (ResV.cell1 one23 rfl rfl rfl) .nil)), (.t1 (.a1 .b (.a1 .nn (.a1 .nn .a0))) (.t1 .i .t0)), ?_⟩
  rw [hz0, nn_0, dd_0 hW0]
  rfl

set_option maxRecDepth 100000 in
theorem QMul_n (s : Bool) (l d : List Int) (x y : Nat) (hx : Rw l x) (hy : Rw d y) (z : Int) (Y : Nat) (q1 : Qe s x y z Y) (s2 : Bool) (l2 d2 : List Int) (x2 y2 : Nat) (hx2 : Rw l2 x2) (hy2 : Rw d2 y2) (w : Int) (X : Nat) (q2 : Qe s2 x2 y2 w X) (hB : lenV (x : Int) + lenV (y : Int) + lenV (x2 : Int) + lenV (y2 : Int) ≤ 67108864) (hx0 : x ≠ 0) (hx20 : x2 ≠ 0) : Spec Tryz.prog 8 [(.a [.b s, .n false .u64 l, .n false .u64 d]), (.a [.b s2, .n false .u64 l2, .n false .u64 d2])] (fun o => o = .ret (.t [(.a [.b (decide ((z * w) < 0)), .n false .u64 (lm ((nn (z * w) (Y * X) : Nat) : Int)), .n false .u64 (lm ((dd (z * w) (Y * X) : Nat) : Int))]), .i .i64 0])) := by
  refine spec_ofD [(0, (.a [.b s, .n false .u64 l, .n false .u64 d])), (1, (.a [.b s2, .n false .u64 l2, .n false .u64 d2]))] rfl Tryz.func8 rfl (zlb rfl) fun Γ 𝓡 hN hds hL hR hE => ?_
  have hd := hdOf 93 hN
  have h0 := q1.1
  have h02 := q2.1
  have bN1 : lenV ((rn0 x y : Nat) : Int) ≤ lenV (x : Int) := rn0_b (Nat.le_refl _)
  have bD1 : lenV ((rd0 x y : Nat) : Int) ≤ lenV (y : Int) := rd0_b (Nat.le_refl _)
  have bN2 : lenV ((rn0 x2 y2 : Nat) : Int) ≤ lenV (x2 : Int) := rn0_b (Nat.le_refl _)
  have bD2 : lenV ((rd0 x2 y2 : Nat) : Int) ≤ lenV (y2 : Int) := rd0_b (Nat.le_refl _)
  have hlx : (lm ((rn0 x y : Nat) : Int)).length = 0 ↔ x = 0 := lm_len0.trans rn0_eq0
  have hlx2 : (lm ((rn0 x2 y2 : Nat) : Int)).length = 0 ↔ x2 = 0 := lm_len0.trans rn0_eq0
  have hW0 : Y * X ≠ 0 := Nat.mul_ne_zero q1.2.1 q2.2.1
  obtain ⟨g9, eg⟩ : ∃ g9 : Nat, g9 = Nat.gcd (rn0 x y) (rd0 x2 y2) := ⟨_, rfl⟩
  have hG1 : Spec Tryz.prog 33 [.n false .u64 (lm (((rn0 x y) : Nat) : Int)), .n false .u64 (lm (((rd0 x2 y2) : Nat) : Int))] (fun o => o = .ret (.n false .u64 (lm (g9 : Int)))) := by
    rw [eg]
    have h := Gcd_v (lm (((rn0 x y) : Nat) : Int)) (lm (((rd0 x2 y2) : Nat) : Int)) (rn0 x y) (rd0 x2 y2) (Rw.of (by omega)).l (Rw.of (by omega)).l (lm_u _) (lm_u _) (Rw.of (by omega)).v (Rw.of (by omega)).v
    exact h
  have hg0 : 0 < g9 := by rw [eg]; exact gcd_pos' q2.d0
  have bg : lenV (g9 : Int) ≤ 67108864 := by rw [eg]; exact gcd_b q2.d0 (by omega)
  obtain ⟨k9, ek⟩ : ∃ k9 : Nat, k9 = Nat.gcd (rn0 x2 y2) (rd0 x y) := ⟨_, rfl⟩
  have hG2 : Spec Tryz.prog 33 [.n false .u64 (lm (((rn0 x2 y2) : Nat) : Int)), .n false .u64 (lm (((rd0 x y) : Nat) : Int))] (fun o => o = .ret (.n false .u64 (lm (k9 : Int)))) := by
    rw [ek]
    have h := Gcd_v (lm (((rn0 x2 y2) : Nat) : Int)) (lm (((rd0 x y) : Nat) : Int)) (rn0 x2 y2) (rd0 x y) (Rw.of (by omega)).l (Rw.of (by omega)).l (lm_u _) (lm_u _) (Rw.of (by omega)).v (Rw.of (by omega)).v
    exact h
  have hk0 : 0 < k9 := by rw [ek]; exact gcd_pos' q1.d0
  have bk : lenV (k9 : Int) ≤ 67108864 := by rw [ek]; exact gcd_b q1.d0 (by omega)
  obtain ⟨a9, ea⟩ : ∃ a9 : Nat, a9 = (rn0 x y) / g9 := ⟨_, rfl⟩
  have hQ1 : Spec Tryz.prog 35 [.n false .u64 (lm (((rn0 x y) : Nat) : Int)), .n false .u64 (lm (g9 : Int))] (fun o => o = .ret (.t [.n false .u64 (lm (a9 : Int)), .i .i64 0])) := by
    rw [ea]
    have h := Quo_v (((rn0 x y) : Nat) : Int) (g9 : Int) (by omega) bg (by omega)
    rw [qn_nt] at h
    exact h
  have ba9 : lenV (a9 : Int) ≤ lenV (x : Int) := by rw [ea]; exact Nat.le_trans (lenV_nat (Nat.div_le_self _ _)) bN1
  obtain ⟨c9, ec⟩ : ∃ c9 : Nat, c9 = (rn0 x2 y2) / k9 := ⟨_, rfl⟩
  have hQ2 : Spec Tryz.prog 35 [.n false .u64 (lm (((rn0 x2 y2) : Nat) : Int)), .n false .u64 (lm (k9 : Int))] (fun o => o = .ret (.t [.n false .u64 (lm (c9 : Int)), .i .i64 0])) := by
    rw [ec]
    have h := Quo_v (((rn0 x2 y2) : Nat) : Int) (k9 : Int) (by omega) bk (by omega)
    rw [qn_nt] at h
    exact h
  have bc9 : lenV (c9 : Int) ≤ lenV (x2 : Int) := by rw [ec]; exact Nat.le_trans (lenV_nat (Nat.div_le_self _ _)) bN2
  obtain ⟨t9, et⟩ : ∃ t9 : Nat, t9 = a9 * c9 := ⟨_, rfl⟩
  have hM1 : Spec Tryz.prog 41 [.n false .u64 (lm (a9 : Int)), .n false .u64 (lm (c9 : Int))] (fun o => o = .ret (.t [.n true .u64 (lm (t9 : Int)), .i .i64 0])) := by
    have hb9 : lenV ((t9 : Nat) : Int) ≤ 67108864 := by rw [et, Int.natCast_mul]; have h9 := lenV_mul (a9 : Int) (c9 : Int); omega
    refine (Mul_l (lm (a9 : Int)) (lm (c9 : Int)) (by have := (Rw.of (x := a9) (by omega)).l; omega) (by have := (Rw.of (x := c9) (by omega)).l; omega) (lm_u _) (lm_u _)).mono fun o ⟨r, e, ho, hr⟩ => ?_
    rw [vl_lm (Int.natCast_nonneg _), vl_lm (Int.natCast_nonneg _), ← Int.natCast_mul, ← et] at hr
    obtain ⟨rfl, rfl⟩ := errL_fit hr hb9
    exact ho
  obtain ⟨e9, ee⟩ : ∃ e9 : Nat, e9 = (rd0 x y) / k9 := ⟨_, rfl⟩
  have hQ3 : Spec Tryz.prog 35 [.n false .u64 (lm (((rd0 x y) : Nat) : Int)), .n false .u64 (lm (k9 : Int))] (fun o => o = .ret (.t [.n false .u64 (lm (e9 : Int)), .i .i64 0])) := by
    rw [ee]
    have h := Quo_v (((rd0 x y) : Nat) : Int) (k9 : Int) (by omega) bk (by omega)
    rw [qn_nt] at h
    exact h
  have be9 : lenV (e9 : Int) ≤ lenV (y : Int) := by rw [ee]; exact Nat.le_trans (lenV_nat (Nat.div_le_self _ _)) bD1
  obtain ⟨f9, ef⟩ : ∃ f9 : Nat, f9 = (rd0 x2 y2) / g9 := ⟨_, rfl⟩
  have hQ4 : Spec Tryz.prog 35 [.n false .u64 (lm (((rd0 x2 y2) : Nat) : Int)), .n false .u64 (lm (g9 : Int))] (fun o => o = .ret (.t [.n false .u64 (lm (f9 : Int)), .i .i64 0])) := by
    rw [ef]
    have h := Quo_v (((rd0 x2 y2) : Nat) : Int) (g9 : Int) (by omega) bg (by omega)
    rw [qn_nt] at h
    exact h
  have bf9 : lenV (f9 : Int) ≤ lenV (y2 : Int) := by rw [ef]; exact Nat.le_trans (lenV_nat (Nat.div_le_self _ _)) bD2
  obtain ⟨u9, eu⟩ : ∃ u9 : Nat, u9 = e9 * f9 := ⟨_, rfl⟩
  have hM2 : Spec Tryz.prog 41 [.n false .u64 (lm (e9 : Int)), .n false .u64 (lm (f9 : Int))] (fun o => o = .ret (.t [.n true .u64 (lm (u9 : Int)), .i .i64 0])) := by
    have hb9 : lenV ((u9 : Nat) : Int) ≤ 67108864 := by rw [eu, Int.natCast_mul]; have h9 := lenV_mul (e9 : Int) (f9 : Int); omega
    refine (Mul_l (lm (e9 : Int)) (lm (f9 : Int)) (by have := (Rw.of (x := e9) (by omega)).l; omega) (by have := (Rw.of (x := f9) (by omega)).l; omega) (lm_u _) (lm_u _)).mono fun o ⟨r, e, ho, hr⟩ => ?_
    rw [vl_lm (Int.natCast_nonneg _), vl_lm (Int.natCast_nonneg _), ← Int.natCast_mul, ← eu] at hr
    obtain ⟨rfl, rfl⟩ := errL_fit hr hb9
    exact ho
  have hz := mul_all q1 q2
  rw [← eg, ← ek, ← ea, ← ec, ← et, ← ee, ← ef, ← eu] at hz
  obtain ⟨hz1, hz2⟩ := hz
  have hz3 := mul_sgn q1 q2 hx0 hx20
  refine jcp_seq <| jc_region <| jo_h (hy_box (id := 0) (n := 3) rfl rfl rfl (by decide) rfl) (hd 2 rfl) <| jo_h (hy_box (id := 1) (n := 3) rfl rfl rfl (by decide) rfl) (hd 3 rfl) <| jo_h (hy_alloc (id := 2) zero1027 (by decide) rfl (by decide) rfl) (hd 4 rfl) <| jo_h (hy_alloc (id := 3) zero23 (by decide) rfl (by decide) rfl) (hd 5 rfl) <| jo_nil <| jcd_defer (g := 45) (caps := [.p 2 0 0, .p 3 0 0]) 4 [_] (ops := [_, _]) rfl Tryz.func45 rfl rfl rfl hds hR hL hE <| jo_l (ly_mf (ovL_cons rfl (ovL_cons rfl ovL_nil))) (hd 10 rfl) <| jo_nil ?_
  refine ⟨rfl, rfl, rfl, ?_⟩
  intro Γ1 hN1 hL hR1
  replace hd : ∀ d, Nat.blt d 93 = true → d < Γ1.N := fun d h => by rw [hN1]; exact hd d h
  refine jo_nil <| zsr <| jo_l (ly_lda agg1027 rfl rfl rfl rfl) (hd 11 rfl) <| jo_l (ly_lda agg1027 rfl rfl rfl rfl) (hd 12 rfl) <| jo_h (hy_lit (id := 4) (xs := [.tmp 11, .tmp 12]) el1084 rfl (ovL_cons rfl (ovL_cons rfl ovL_nil)) rfl (all2_of rfl) (by decide) rfl) (hd 13 rfl) <| jo_frzr 13 (sz := 3) [[V.b s, V.n false .u64 l, V.n false .u64 d], [V.b s2, V.n false .u64 l2, V.n false .u64 d2]] rfl rfl rfl rfl (by simp) (by simp [pureV]) (by decide) hL ?_
  refine jo_call Tryz.f31 (looked_2 s l d y s2 l2 d2 y2 hy h0 hy2 h02) rfl Tryz.func31 rfl rfl (ovL_cons rfl ovL_nil) (.cons .l .nil) (hd 14 rfl) ?_ (fun ch hp => by simp at hp)
  rintro _ ⟨⟩; refine jo_nil <| jc_seq <| jc_nopan <| jc_draw (n := 6) _ rfl mixed <| zal2 0 [1, 3, 4, 5] (lo_l (ly_lda agg1027 rfl rfl rfl rfl) (hd 15 rfl)) rfl <| zal2 2 [3, 4, 5] (lo_l (ly_lda agg1027 rfl rfl rfl rfl) (hd 17 rfl)) rfl ?_
  refine ja_1 1 ?_ rfl (by kernel_rfl)
  refine js_call Tryz.f32 (qnorm_s s l d x y hx hy h0) rfl Tryz.func32 rfl rfl (ovL_cons rfl ovL_nil) (.cons (.a1 .b (.a1 .n (.a1 .n .a0))) .nil) (hd 16 rfl) ?_ (fun ch hp => by simp at hp)
  rintro y hy; injection hy with hy; subst hy
  refine ja_1 3 ?_ rfl (by kernel_rfl)
  refine js_call Tryz.f32 (qnorm_s s2 l2 d2 x2 y2 hx2 hy2 h02) rfl Tryz.func32 rfl rfl (ovL_cons rfl ovL_nil) (.cons (.a1 .b (.a1 .n (.a1 .n .a0))) .nil) (hd 18 rfl) ?_ (fun ch hp => by simp at hp)
  rintro y hy; injection hy with hy; subst hy
  refine ja_1 4 ?_ rfl (by kernel_rfl)
  refine js_st (sy_store rfl rfl rfl siz1027 rfl rfl (zlb rfl)) rfl ?_
  refine ja_1 5 ?_ rfl (by kernel_rfl)
  refine js_st (sy_store rfl rfl rfl siz1027 rfl rfl (zlb rfl)) rfl <| ja_nil (by kernel_rfl) <| jc_seq <| zsr <| jo_l (ly_fa fld1027_0 rfl rfl rfl) (hd 19 rfl) <| jo_l (ly_fa fld30_1 rfl rfl rfl) (hd 20 rfl) <| jo_l (ly_ld one28 rfl rfl rfl) (hd 21 rfl) <| jo_l (ly_lenn sl28 rfl) (hd 22 rfl) <| jo_l (ly_ff (ly_eq rfl rfl) (by omega)) (hd 23 rfl) <| zmv rfl (hd 24 rfl) <| jo_g 24 rfl rfl (ly_fa fld1027_0 rfl rfl rfl) (hd 25 rfl) <| jo_g 24 rfl rfl (ly_fa fld30_1 rfl rfl rfl) (hd 26 rfl) ?_; refine jo_g 24 rfl rfl (ly_ld one28 rfl rfl rfl) (hd 27 rfl) <| jo_g 24 rfl rfl (ly_lenn sl28 rfl) (hd 28 rfl) <| jo_g 24 rfl rfl (ly_ff (ly_eq rfl rfl) (by omega)) (hd 29 rfl) <| jo_l (ly_pick_f rfl rfl) (hd 30 rfl) <| jo_nil <| jc_litf rfl <| jc_skip <| jc_seq <| jc_nopan <| jc_draw (n := 14) _ rfl mixed <| zal2 0 [1, 2, 5, 11, 12, 13] (lo_l (ly_fa fld1027_0 rfl rfl rfl) (hd 32 rfl)) rfl <| zal2 1 [2, 5, 11, 12, 13] (lo_l (ly_fa fld30_1 rfl rfl rfl) (hd 33 rfl)) rfl <| zal2 2 [5, 11, 12, 13] (lo_l (ly_ld one28 rfl rfl rfl) (hd 34 rfl)) rfl ?_; refine zal2 3 [4, 5, 11, 12, 13] (lo_l (ly_fa fld1027_1 rfl rfl rfl) (hd 35 rfl)) rfl <| zal2 4 [5, 11, 12, 13] (lo_l (ly_ld one28 rfl rfl rfl) (hd 36 rfl)) rfl <| zal2 6 [7, 8, 11, 12, 13] (lo_l (ly_fa fld1027_0 rfl rfl rfl) (hd 38 rfl)) rfl <| zal2 7 [8, 11, 12, 13] (lo_l (ly_fa fld30_1 rfl rfl rfl) (hd 39 rfl)) rfl <| zal2 8 [11, 12, 13] (lo_l (ly_ld one28 rfl rfl rfl) (hd 40 rfl)) rfl <| zal2 9 [10, 11, 12, 13] (lo_l (ly_fa fld1027_1 rfl rfl rfl) (hd 41 rfl)) rfl <| zal2 10 [11, 12, 13] (lo_l (ly_ld one28 rfl rfl rfl) (hd 42 rfl)) rfl ?_
  refine ja_1 5 ?_ rfl (by kernel_rfl)
  refine js_call Tryz.f33 (hG1) rfl Tryz.func33 rfl rfl (ovL_cons rfl (ovL_cons rfl ovL_nil)) (.cons .n (.cons .n .nil)) (hd 37 rfl) ?_ (fun ch hp => by simp at hp)
  rintro y hy; injection hy with hy; subst hy
  refine ja_1 11 ?_ rfl (by kernel_rfl)
  refine js_call Tryz.f33 (hG2) rfl Tryz.func33 rfl rfl (ovL_cons rfl (ovL_cons rfl ovL_nil)) (.cons .n (.cons .n .nil)) (hd 43 rfl) ?_ (fun ch hp => by simp at hp)
  rintro _ ⟨⟩; refine zal 12 (lo_l (ly_as rfl) (hd 6 rfl)) rfl <| zal 13 (lo_l (ly_as rfl) (hd 7 rfl)) rfl <| ja_nil (by kernel_rfl) <| jc_seq <| jc_nopan <| jc_draw (n := 21) _ rfl mixed <| zal2 0 [1, 2, 4, 5, 6, 7, 12, 13, 14, 15, 16, 17, 18, 19, 20] (lo_l (ly_fa fld1027_0 rfl rfl rfl) (hd 44 rfl)) rfl <| zal2 1 [2, 4, 5, 6, 7, 12, 13, 14, 15, 16, 17, 18, 19, 20] (lo_l (ly_fa fld30_1 rfl rfl rfl) (hd 45 rfl)) rfl <| zal2 2 [4, 5, 6, 7, 12, 13, 14, 15, 16, 17, 18, 19, 20] (lo_l (ly_ld one28 rfl rfl rfl) (hd 46 rfl)) rfl <| zal2 3 [4, 5, 6, 7, 12, 13, 14, 15, 16, 17, 18, 19, 20] (lo_l (ly_mv rfl) (hd 47 rfl)) rfl <| zal2 8 [9, 10, 12, 13, 14, 15, 16, 17, 18, 19, 20] (lo_l (ly_fa fld1027_0 rfl rfl rfl) (hd 52 rfl)) rfl <| zal2 9 [10, 12, 13, 14, 15, 16, 17, 18, 19, 20] (lo_l (ly_fa fld30_1 rfl rfl rfl) (hd 53 rfl)) rfl <| zal2 10 [12, 13, 14, 15, 16, 17, 18, 19, 20] (lo_l (ly_ld one28 rfl rfl rfl) (hd 54 rfl)) rfl ?_; refine zal2 11 [12, 13, 14, 15, 16, 17, 18, 19, 20] (lo_l (ly_mv rfl) (hd 55 rfl)) rfl ?_
  refine ja_1 4 ?_ rfl (by kernel_rfl)
  refine js_call Tryz.f35 (hQ1) rfl Tryz.func35 rfl rfl (ovL_cons rfl (ovL_cons rfl ovL_nil)) (.cons .n (.cons .n .nil)) (hd 48 rfl) ?_ (fun ch hp => by simp at hp)
  rintro _ ⟨⟩; refine zal2 5 [7, 12, 13, 14, 15, 16, 17, 18, 19, 20] (lo_l (ly_ext rfl rfl) (hd 49 rfl)) rfl <| zal2 6 [7, 12, 13, 14, 15, 16, 17, 18, 19, 20] (lo_l (ly_ext rfl rfl) (hd 50 rfl)) rfl ?_
  refine ja_1 7 ?_ rfl (by kernel_rfl)
  refine js_call Tryz.f34 (mustN _) rfl Tryz.func34 rfl rfl (ovL_cons rfl (ovL_cons rfl ovL_nil)) (.cons .n (.cons .i .nil)) (hd 51 rfl) ?_ (fun ch hp => by simp at hp)
  rintro y hy; injection hy with hy; subst hy
  refine ja_1 12 ?_ rfl (by kernel_rfl)
  refine js_call Tryz.f35 (hQ2) rfl Tryz.func35 rfl rfl (ovL_cons rfl (ovL_cons rfl ovL_nil)) (.cons .n (.cons .n .nil)) (hd 56 rfl) ?_ (fun ch hp => by simp at hp)
  rintro _ ⟨⟩; refine zal2 13 [15, 16, 17, 18, 19, 20] (lo_l (ly_ext rfl rfl) (hd 57 rfl)) rfl <| zal2 14 [15, 16, 17, 18, 19, 20] (lo_l (ly_ext rfl rfl) (hd 58 rfl)) rfl ?_
  refine ja_1 15 ?_ rfl (by kernel_rfl)
  refine js_call Tryz.f34 (mustN _) rfl Tryz.func34 rfl rfl (ovL_cons rfl (ovL_cons rfl ovL_nil)) (.cons .n (.cons .i .nil)) (hd 59 rfl) ?_ (fun ch hp => by simp at hp)
  rintro y hy; injection hy with hy; subst hy
  refine ja_1 16 ?_ rfl (by kernel_rfl)
  refine js_call Tryz.f41 (hM1) rfl Tryz.func41 rfl rfl (ovL_cons rfl (ovL_cons rfl ovL_nil)) (.cons .n (.cons .n .nil)) (hd 60 rfl) ?_ (fun ch hp => by simp at hp)
  rintro _ ⟨⟩; refine zal 17 (lo_l (ly_ext rfl rfl) (hd 61 rfl)) rfl <| zal 18 (lo_l (ly_ext rfl rfl) (hd 62 rfl)) rfl ?_
  refine ja_1 19 ?_ rfl (by kernel_rfl)
  refine js_call Tryz.f34 (mustN _) rfl Tryz.func34 rfl rfl (ovL_cons rfl (ovL_cons rfl ovL_nil)) (.cons .n (.cons .i .nil)) (hd 63 rfl) ?_ (fun ch hp => by simp at hp)
  rintro _ ⟨⟩; refine zal 20 (lo_l (ly_as rfl) (hd 8 rfl)) rfl <| ja_nil (by kernel_rfl) <| jc_seq <| jc_nopan <| jc_draw (n := 19) _ rfl mixed <| zal2 0 [1, 3, 4, 5, 6, 10, 11, 12, 13, 14, 15, 16, 17, 18] (lo_l (ly_fa fld1027_1 rfl rfl rfl) (hd 64 rfl)) rfl <| zal2 1 [3, 4, 5, 6, 10, 11, 12, 13, 14, 15, 16, 17, 18] (lo_l (ly_ld one28 rfl rfl rfl) (hd 65 rfl)) rfl <| zal2 2 [3, 4, 5, 6, 10, 11, 12, 13, 14, 15, 16, 17, 18] (lo_l (ly_mv rfl) (hd 66 rfl)) rfl <| zal2 7 [8, 10, 11, 12, 13, 14, 15, 16, 17, 18] (lo_l (ly_fa fld1027_1 rfl rfl rfl) (hd 71 rfl)) rfl <| zal2 8 [10, 11, 12, 13, 14, 15, 16, 17, 18] (lo_l (ly_ld one28 rfl rfl rfl) (hd 72 rfl)) rfl <| zal2 9 [10, 11, 12, 13, 14, 15, 16, 17, 18] (lo_l (ly_mv rfl) (hd 73 rfl)) rfl ?_
  refine ja_1 3 ?_ rfl (by kernel_rfl)
  refine js_call Tryz.f35 (hQ3) rfl Tryz.func35 rfl rfl (ovL_cons rfl (ovL_cons rfl ovL_nil)) (.cons .n (.cons .n .nil)) (hd 67 rfl) ?_ (fun ch hp => by simp at hp)
  rintro _ ⟨⟩; refine zal2 4 [6, 10, 11, 12, 13, 14, 15, 16, 17, 18] (lo_l (ly_ext rfl rfl) (hd 68 rfl)) rfl <| zal2 5 [6, 10, 11, 12, 13, 14, 15, 16, 17, 18] (lo_l (ly_ext rfl rfl) (hd 69 rfl)) rfl ?_
  refine ja_1 6 ?_ rfl (by kernel_rfl)
  refine js_call Tryz.f34 (mustN _) rfl Tryz.func34 rfl rfl (ovL_cons rfl (ovL_cons rfl ovL_nil)) (.cons .n (.cons .i .nil)) (hd 70 rfl) ?_ (fun ch hp => by simp at hp)
  rintro y hy; injection hy with hy; subst hy
  refine ja_1 10 ?_ rfl (by kernel_rfl)
  refine js_call Tryz.f35 (hQ4) rfl Tryz.func35 rfl rfl (ovL_cons rfl (ovL_cons rfl ovL_nil)) (.cons .n (.cons .n .nil)) (hd 74 rfl) ?_ (fun ch hp => by simp at hp)
  rintro _ ⟨⟩; refine zal2 11 [13, 14, 15, 16, 17, 18] (lo_l (ly_ext rfl rfl) (hd 75 rfl)) rfl <| zal2 12 [13, 14, 15, 16, 17, 18] (lo_l (ly_ext rfl rfl) (hd 76 rfl)) rfl ?_
  refine ja_1 13 ?_ rfl (by kernel_rfl)
  refine js_call Tryz.f34 (mustN _) rfl Tryz.func34 rfl rfl (ovL_cons rfl (ovL_cons rfl ovL_nil)) (.cons .n (.cons .i .nil)) (hd 77 rfl) ?_ (fun ch hp => by simp at hp)
  rintro y hy; injection hy with hy; subst hy
  refine ja_1 14 ?_ rfl (by kernel_rfl)
  refine js_call Tryz.f41 (hM2) rfl Tryz.func41 rfl rfl (ovL_cons rfl (ovL_cons rfl ovL_nil)) (.cons .n (.cons .n .nil)) (hd 78 rfl) ?_ (fun ch hp => by simp at hp)
  rintro _ ⟨⟩; refine zal 15 (lo_l (ly_ext rfl rfl) (hd 79 rfl)) rfl <| zal 16 (lo_l (ly_ext rfl rfl) (hd 80 rfl)) rfl ?_
  refine ja_1 17 ?_ rfl (by kernel_rfl)
  refine js_call Tryz.f34 (mustN _) rfl Tryz.func34 rfl rfl (ovL_cons rfl (ovL_cons rfl ovL_nil)) (.cons .n (.cons .i .nil)) (hd 81 rfl) ?_ (fun ch hp => by simp at hp)
  rintro _ ⟨⟩; refine zal 18 (lo_l (ly_as rfl) (hd 9 rfl)) rfl <| ja_nil (by kernel_rfl) <| zsr <| jo_l (ly_fa fld1027_0 rfl rfl rfl) (hd 82 rfl) <| jo_l (ly_fa fld30_0 rfl rfl rfl) (hd 83 rfl) <| jo_l (ly_ld one4 rfl rfl rfl) (hd 84 rfl) <| jo_l (ly_fa fld1027_0 rfl rfl rfl) (hd 85 rfl) <| jo_l (ly_fa fld30_0 rfl rfl rfl) (hd 86 rfl) <| jo_l (ly_ld one4 rfl rfl rfl) (hd 87 rfl) <| jo_l (ly_neb und4 rfl rfl) (hd 88 rfl) <| zmv rfl (hd 89 rfl) <| jo_l (ly_build (is := [0, 1]) (xs := [.tmp 88, .tmp 89]) zero30 pls30_0_1 rfl (ovL_cons rfl (ovL_cons rfl ovL_nil)) rfl (by first | (simp [plsOk, cellsV]; done) | (simp [plsOk, cellsV, old]; done)) (all_of rfl) rfl) (hd 90 rfl) ?_; refine zmv rfl (hd 91 rfl) <| jo_l (ly_build (is := [0, 1]) (xs := [.tmp 90, .tmp 91]) zero1027 pls1027_0_1 rfl (ovL_cons rfl (ovL_cons rfl ovL_nil)) rfl ⟨rfl, (by decide), rfl, (by decide), trivial⟩ (all_of rfl) rfl) (hd 92 rfl) <| jo_st (sy_store rfl rfl rfl siz1027 rfl rfl (zlb rfl)) <| jo_st (sy_store rfl rfl rfl siz23 rfl rfl (zlb rfl)) <| jo_nil <| jc_ret <| Clo.fin clo_2350 (m := 4) (i := 2) (j := 3) (zlb rfl) rfl rfl rfl rfl ?_
  refine ⟨_, _, (.cons (ResV.cell agg1027 rfl rfl rfl rfl) (.cons (ResV.cell1 one23 rfl rfl rfl) .nil)), (.t1 (.a1 .b (.a1 .n (.a1 .n .a0))) (.t1 .i .t0)), ?_⟩
  rw [← hz1, ← hz2, ← hz3]

theorem QMul_s (s : Bool) (l d : List Int) (x y : Nat) (hx : Rw l x) (hy : Rw d y) (z : Int) (Y : Nat) (q1 : Qe s x y z Y) (s2 : Bool) (l2 d2 : List Int) (x2 y2 : Nat) (hx2 : Rw l2 x2) (hy2 : Rw d2 y2) (w : Int) (X : Nat) (q2 : Qe s2 x2 y2 w X) (hB : lenV (x : Int) + lenV (y : Int) + lenV (x2 : Int) + lenV (y2 : Int) ≤ 67108864) : Spec Tryz.prog 8 [(.a [.b s, .n false .u64 l, .n false .u64 d]), (.a [.b s2, .n false .u64 l2, .n false .u64 d2])] (fun o => o = .ret (.t [(.a [.b (decide ((z * w) < 0)), .n false .u64 (lm ((nn (z * w) (Y * X) : Nat) : Int)), .n false .u64 (lm ((dd (z * w) (Y * X) : Nat) : Int))]), .i .i64 0])) := by
  by_cases hx0 : x = 0
  · exact QMul_0a s l d x y hx hy z Y q1 s2 l2 d2 x2 y2 hx2 hy2 w X q2 hB hx0
  · by_cases hx20 : x2 = 0
    · exact QMul_0b s l d x y hx hy z Y q1 s2 l2 d2 x2 y2 hx2 hy2 w X q2 hB hx0 hx20
    · exact QMul_n s l d x y hx hy z Y q1 s2 l2 d2 x2 y2 hx2 hy2 w X q2 hB hx0 hx20

theorem halves_v (a b : Nat) (hb : b ≠ 0) (la : lenV (a : Int) ≤ 67108864) (lb : lenV (b : Int) ≤ 67108864) : Spec Tryz.prog 92 [.n false .u64 (lm (a : Int)), .n false .u64 (lm (b : Int))] (fun o => o = .ret (.t [.n false .u64 (lm ((a / b : Nat) : Int)), .n false .u64 (lm ((a % b : Nat) : Int))])) := by
  refine spec_of' [(0, .n false .u64 (lm (a : Int))), (1, .n false .u64 (lm (b : Int)))] rfl Tryz.func92 rfl (zlb rfl) fun Γ hN hds hL hR => ?_
  have hd := hdOf 23 hN
  have hBo : Spec Tryz.prog 121 [.n false .u64 (lm (a : Int)), .n false .u64 (lm (b : Int))] (fun o => o = .ret (.t [.n false .u64 (lm ((a / b : Nat) : Int)), .n false .u64 (lm ((a % b : Nat) : Int)), .i .i64 0])) := by have h := Both_v (a : Int) (b : Int) la lb (by omega); rwa [qn_nt, rn_nt] at h
  refine zsr <| zas rfl (hd 4 rfl) <| zas rfl (hd 5 rfl) <| jo_nil <| zsr <| zmv rfl (hd 10 rfl) <| zmv rfl (hd 11 rfl) ?_
  refine jo_call Tryz.f121 (hBo) rfl Tryz.func121 rfl rfl (ovL_cons rfl (ovL_cons rfl ovL_nil)) (.cons .n (.cons .n .nil)) (hd 12 rfl) ?_ (fun ch hp => by simp at hp)
  rintro _ ⟨⟩; refine zmv rfl (hd 9 rfl) <| jo_l (ly_ext rfl rfl) (hd 13 rfl) <| jo_l (ly_ext rfl rfl) (hd 14 rfl) <| jo_l (ly_ext rfl rfl) (hd 15 rfl) <| zas rfl (hd 6 rfl) <| zas rfl (hd 7 rfl) <| zas rfl (hd 8 rfl) <| jo_nil <| jc_seq <| zsr <| zmv rfl (hd 16 rfl) <| jo_l (ly_ff (ly_ne rfl rfl) (by decide)) (hd 17 rfl) ?_; refine jo_nil <| jc_litf rfl <| jc_skip <| zsr <| zmv rfl (hd 21 rfl) <| zmv rfl (hd 22 rfl) <| zas rfl (hd 4 rfl) <| zas rfl (hd 5 rfl) <| jo_nil <| jc_ret ?_
  refine ⟨_, _, (.cons rfl (.cons rfl .nil)), (.t1 .n (.t1 .n .t0)), ?_⟩
  exact rfl

theorem compare_v (a b c d : Nat) (hb : b ≠ 0) (hd0 : d ≠ 0) (la : lenV (a : Int) ≤ 67108864) (lb : lenV (b : Int) ≤ 67108864) (lc : lenV (c : Int) ≤ 67108864) (ld : lenV (d : Int) ≤ 67108864) : Spec Tryz.prog 50 [.n false .u64 (lm (a : Int)), .n false .u64 (lm (b : Int)), .n false .u64 (lm (c : Int)), .n false .u64 (lm (d : Int))] (fun o => o = .ret (.i .i64 (cN a b c d))) := by
  refine spec_of' [(0, .n false .u64 (lm (a : Int))), (1, .n false .u64 (lm (b : Int))), (2, .n false .u64 (lm (c : Int))), (3, .n false .u64 (lm (d : Int)))] rfl Tryz.func50 rfl (zlb rfl) fun Γ hN hds hL hR => ?_
  have hd := hdOf 61 hN
  refine zsr <| zas rfl (hd 8 rfl) <| jo_nil <| zsr <| zas rfl (hd 9 rfl) <| jo_nil <| jc_block ?_
  refine jc_loopF (G := Nat × Nat × Nat × Nat × Int) (fun g => g.2.1 ≠ 0 ∧ g.2.2.2.1 ≠ 0 ∧ lenV (g.1 : Int) ≤ 67108864 ∧ lenV (g.2.1 : Int) ≤ 67108864 ∧ lenV (g.2.2.1 : Int) ≤ 67108864 ∧ lenV (g.2.2.2.1 : Int) ≤ 67108864 ∧ (g.2.2.2.2 = 1 ∨ g.2.2.2.2 = -1) ∧ g.2.2.2.2 * cN g.1 g.2.1 g.2.2.1 g.2.2.2.1 = cN a b c d) (fun g => [(0, .n false .u64 (lm (g.1 : Int))), (1, .n false .u64 (lm (g.2.1 : Int))), (2, .n false .u64 (lm (g.2.2.1 : Int))), (3, .n false .u64 (lm (g.2.2.2.1 : Int))), (9, .i .i64 g.2.2.2.2), (8, .u), (10, .u), (11, .u), (12, .u), (13, .u), (14, .u), (15, .u), (16, .u), (17, .u), (18, .u), (19, .u), (20, .u), (21, .u), (22, .u), (23, .u), (24, .u), (25, .u), (26, .u), (27, .u), (28, .u), (29, .u), (30, .u), (31, .u), (32, .u), (33, .u), (34, .u), (35, .u), (36, .u), (37, .u), (38, .u), (39, .u), (40, .u), (41, .u), (42, .u), (43, .u), (44, .u), (45, .u), (46, .u), (47, .u), (48, .u), (49, .u), (50, .u), (51, .u), (52, .u), (53, .u), (54, .u), (55, .u), (56, .u), (57, .u), (58, .u), (59, .u), (60, .u)]) (fun _ => _) (fun g => g.2.1) (a, b, c, d, 1) ?_ ?_ rfl ?_
  · exact ⟨hb, hd0, la, lb, lc, ld, .inl rfl, Int.one_mul _⟩
  · exact (.cons rfl (.cons rfl (.cons rfl (.cons rfl (.cons rfl (.u (.u (.u (.u (.u (.u (.u (.u (.u (.u (.u (.u (.u (.u (.u (.u (.u (.u (.u (.u (.u (.u (.u (.u (.u (.u (.u (.u (.u (.u (.u (.u (.u (.u (.u (.u (.u (.u (.u (.u (.u (.u (.u (.u (.u (.u (.u (.u (.u (.u (.u (.u .nil)))))))))))))))))))))))))))))))))))))))))))))))))))))))))
  · rintro ⟨a1, b1, c1, d1, sg⟩ ⟨hb1, hd1, ba, bb, bc, bd, hsg, hc9⟩
    dsimp only at hb1 hd1 ba bb bc bd hsg hc9 ⊢
    have hlx := @lm_len0 (a1 % b1)
    have hly := @lm_len0 (c1 % d1)
    have bp := Nat.le_trans (lenV_nat (Nat.div_le_self a1 b1)) ba
    have bq := Nat.le_trans (lenV_nat (Nat.div_le_self c1 d1)) bc
    have bx := Nat.le_trans (lenV_nat (Nat.mod_le a1 b1)) ba
    have by9 := Nat.le_trans (lenV_nat (Nat.mod_le c1 d1)) bc
    have llp := lenV_lm bp
    have llq := lenV_lm bq
    have hCp : Spec Tryz.prog 67 [.n false .u64 (lm ((a1 / b1 : Nat) : Int)), .n false .u64 (lm ((c1 / d1 : Nat) : Int))] (fun o => o = .ret (.i .i64 (cmpI ((a1 / b1 : Nat) : Int) ((c1 / d1 : Nat) : Int)))) := by have h := Compare_v ((a1 / b1 : Nat) : Int) ((c1 / d1 : Nat) : Int) (by omega) (by omega); rwa [Int.natAbs_natCast, Int.natAbs_natCast] at h
    refine jc_seq <| jc_block <| zsr <| zmv rfl (hd 18 rfl) <| zmv rfl (hd 19 rfl) ?_
    refine jo_call Tryz.f92 (halves_v a1 b1 hb1 ba bb) rfl Tryz.func92 rfl rfl (ovL_cons rfl (ovL_cons rfl ovL_nil)) (.cons .n (.cons .n .nil)) (hd 20 rfl) ?_ (fun ch hp => by simp at hp)
    rintro _ ⟨⟩; refine zmv rfl (hd 17 rfl) <| jo_l (ly_ext rfl rfl) (hd 21 rfl) <| jo_l (ly_ext rfl rfl) (hd 22 rfl) <| zas rfl (hd 10 rfl) <| zas rfl (hd 11 rfl) <| jo_nil <| zsr <| zmv rfl (hd 24 rfl) <| zmv rfl (hd 25 rfl) ?_
    refine jo_call Tryz.f92 (halves_v c1 d1 hd1 bc bd) rfl Tryz.func92 rfl rfl (ovL_cons rfl (ovL_cons rfl ovL_nil)) (.cons .n (.cons .n .nil)) (hd 26 rfl) ?_ (fun ch hp => by simp at hp)
    rintro _ ⟨⟩; refine zmv rfl (hd 23 rfl) <| jo_l (ly_ext rfl rfl) (hd 27 rfl) <| jo_l (ly_ext rfl rfl) (hd 28 rfl) <| zas rfl (hd 12 rfl) <| zas rfl (hd 13 rfl) <| jo_nil <| jc_seq <| zsr <| zmv rfl (hd 29 rfl) <| zmv rfl (hd 30 rfl) ?_
    refine jo_call Tryz.f67 (hCp) rfl Tryz.func67 rfl rfl (ovL_cons rfl (ovL_cons rfl ovL_nil)) (.cons .n (.cons .n .nil)) (hd 31 rfl) ?_ (fun ch hp => by simp at hp)
    rintro _ ⟨⟩; refine zas rfl (hd 14 rfl) <| jo_nil <| zsr <| zmv rfl (hd 32 rfl) <| jo_l (ly_ne rfl rfl) (hd 33 rfl) <| jo_nil ?_
    refine jc_if rfl (fun h1 => ?_) (fun h1 => ?_)
    · have hne : a1 / b1 ≠ c1 / d1 := fun e => h1 (by rw [e]; exact cmpI_0.2 rfl)
      have hcq := cN_q hb1 hd1 hne
      have hcr := @cN_rng a b c d
      refine zsr <| zmv rfl (hd 34 rfl) <| zmv rfl (hd 35 rfl) <| jo_l (ly_mul rfl rfl (r := cN a b c d) (by rw [hcq, hc9]; exact wrap_i64 (by omega) (by omega))) (hd 36 rfl) <| zas rfl (hd 8 rfl) <| jo_nil <| jc_ret ?_
      refine ⟨_, _, (.cons rfl .nil), .i, ?_⟩
      exact rfl
    · have hqe : a1 / b1 = c1 / d1 := by have h9 := cmpI_0.1 (Decidable.not_not.1 h1); omega
      have hz := cN_z hb1 hd1 hqe
      refine jc_skip <| jc_seq <| jc_block <| zsr <| zmv rfl (hd 38 rfl) <| jo_l (ly_lenn sl28 rfl) (hd 39 rfl) <| jo_l (ly_eq rfl rfl) (hd 40 rfl) <| zmv rfl (hd 41 rfl) ?_
      refine jo_ifp 41 rfl (fun h2 => ?_) (fun h2 => ?_)
      · have hxz : a1 % b1 = 0 := hlx.1 (by omega)
        refine jo_g 41 rfl rfl (ly_mv rfl) (hd 42 rfl) <| jo_g 41 rfl rfl (ly_lenn sl28 rfl) (hd 43 rfl) <| jo_g 41 rfl rfl (ly_eq rfl rfl) (hd 44 rfl) <| jo_l (ly_pick_t rfl rfl) (hd 45 rfl) <| zas rfl (hd 37 rfl) <| jo_nil ?_
        refine jc_if rfl (fun h3 => ?_) (fun h3 => ?_)
        · have hyz : c1 % d1 = 0 := hly.1 (by omega)
          refine zsr <| zas rfl (hd 8 rfl) <| jo_nil <| jc_ret ?_
          refine ⟨_, _, (.cons rfl .nil), .i, ?_⟩
          first | (exfalso; omega) | (rw [← hc9, hz.1 hxz hyz, Int.mul_zero]) | (rw [← hc9, hz.2.1 hxz hyn]; show Out.ret (V.i .i64 _) = Out.ret (V.i .i64 _); congr 2; omega) | (rw [← hc9, hz.2.2 hxn hyz2]; show Out.ret (V.i .i64 _) = Out.ret (V.i .i64 _); congr 2; omega)
        · have hyn : c1 % d1 ≠ 0 := fun e => h3 (by have := hly.2 e; omega)
          refine zsr <| zmv rfl (hd 47 rfl) <| jo_l (ly_lenn sl28 rfl) (hd 48 rfl) <| jo_l (ly_eq rfl rfl) (hd 49 rfl) <| zas rfl (hd 46 rfl) <| jo_nil ?_
          refine jc_if rfl (fun h4 => ?_) (fun h4 => ?_)
          · have hxz2 : a1 % b1 = 0 := hlx.1 (by omega)
            refine zsr <| zmv rfl (hd 50 rfl) <| jo_l (ly_neg rfl (r := -sg) (by rw [wrap_i64 (by omega) (by omega)]; omega)) (hd 51 rfl) <| zas rfl (hd 8 rfl) <| jo_nil <| jc_ret ?_
            refine ⟨_, _, (.cons rfl .nil), .i, ?_⟩
            first | (exfalso; omega) | (rw [← hc9, hz.1 hxz hyz, Int.mul_zero]) | (rw [← hc9, hz.2.1 hxz hyn]; show Out.ret (V.i .i64 _) = Out.ret (V.i .i64 _); congr 2; omega) | (rw [← hc9, hz.2.2 hxn hyz2]; show Out.ret (V.i .i64 _) = Out.ret (V.i .i64 _); congr 2; omega)
          · have hxn2 : a1 % b1 ≠ 0 := fun e => h4 (by have := hlx.2 e; omega)
            refine zsr <| zmv rfl (hd 53 rfl) <| jo_l (ly_lenn sl28 rfl) (hd 54 rfl) <| jo_l (ly_eq rfl rfl) (hd 55 rfl) <| zas rfl (hd 52 rfl) <| jo_nil ?_
            refine jc_if rfl (fun h5 => ?_) (fun h5 => ?_)
            · have hyz2 : c1 % d1 = 0 := hly.1 (by omega)
              refine zsr <| zmv rfl (hd 56 rfl) <| zas rfl (hd 8 rfl) <| jo_nil <| jc_ret ?_
              refine ⟨_, _, (.cons rfl .nil), .i, ?_⟩
              first | (exfalso; omega) | (rw [← hc9, hz.1 hxz hyz, Int.mul_zero]) | (rw [← hc9, hz.2.1 hxz hyn]; show Out.ret (V.i .i64 _) = Out.ret (V.i .i64 _); congr 2; omega) | (rw [← hc9, hz.2.2 hxn hyz2]; show Out.ret (V.i .i64 _) = Out.ret (V.i .i64 _); congr 2; omega)
            · have hyn2 : c1 % d1 ≠ 0 := fun e => h5 (by have := hly.2 e; omega)
              refine jc_skip <| jc_region <| zmv rfl (hd 57 rfl) <| zmv rfl (hd 58 rfl) <| zmv rfl (hd 59 rfl) <| zmv rfl (hd 60 rfl) <| zas rfl (hd 0 rfl) <| zas rfl (hd 1 rfl) <| zas rfl (hd 2 rfl) <| zas rfl (hd 3 rfl) <| jo_nil <| jc_region <| zmv rfl (hd 15 rfl) ?_; refine jo_l (ly_neg rfl (r := -sg) (by rw [wrap_i64 (by omega) (by omega)]; omega)) (hd 16 rfl) <| zas rfl (hd 9 rfl) <| jo_nil ?_
              refine ⟨(b1, a1 % b1, d1, c1 % d1, -sg), ?_, ?_, rfl, cov_n 108 (by kernel_rfl) (by kernel_rfl) ?_⟩
              · first | (exfalso; omega) | exact ⟨by dsimp only; omega, by dsimp only; omega, bb, bx, bd, by9, (by dsimp only; omega), (by show -sg * cN b1 (a1 % b1) d1 (c1 % d1) = _; rw [cN_n hqe, Int.neg_mul_neg]; exact hc9)⟩
              · exact Nat.mod_lt _ (by omega)
              · exact (.cons rfl (.cons rfl (.cons rfl (.cons rfl (.cons rfl (.u (.u (.u (.u (.u (.u (.u (.u (.u (.u (.u (.u (.u (.u (.u (.u (.u (.u (.u (.u (.u (.u (.u (.u (.u (.u (.u (.u (.u (.u (.u (.u (.u (.u (.u (.u (.u (.u (.u (.u (.u (.u (.u (.u (.u (.u (.u (.u (.u (.u (.u (.u .nil)))))))))))))))))))))))))))))))))))))))))))))))))))))))))
      · have hxn : a1 % b1 ≠ 0 := fun e => h2 (by have := hlx.2 e; omega)
        refine jo_s 41 rfl rfl rfl (hd 42 rfl) <| jo_s 41 rfl rfl rfl (hd 43 rfl) <| jo_s 41 rfl rfl rfl (hd 44 rfl) <| jo_l (ly_pick_f rfl rfl) (hd 45 rfl) <| zas rfl (hd 37 rfl) <| jo_nil <| jc_litf rfl <| zsr <| zmv rfl (hd 47 rfl) <| jo_l (ly_lenn sl28 rfl) (hd 48 rfl) <| jo_l (ly_eq rfl rfl) (hd 49 rfl) <| zas rfl (hd 46 rfl) ?_; refine jo_nil ?_
        refine jc_if rfl (fun h7 => ?_) (fun h7 => ?_)
        · have hxz2 : a1 % b1 = 0 := hlx.1 (by omega)
          refine zsr <| zmv rfl (hd 50 rfl) <| jo_l (ly_neg rfl (r := -sg) (by rw [wrap_i64 (by omega) (by omega)]; omega)) (hd 51 rfl) <| zas rfl (hd 8 rfl) <| jo_nil <| jc_ret ?_
          refine ⟨_, _, (.cons rfl .nil), .i, ?_⟩
          first | (exfalso; omega) | (rw [← hc9, hz.1 hxz hyz, Int.mul_zero]) | (rw [← hc9, hz.2.1 hxz hyn]; show Out.ret (V.i .i64 _) = Out.ret (V.i .i64 _); congr 2; omega) | (rw [← hc9, hz.2.2 hxn hyz2]; show Out.ret (V.i .i64 _) = Out.ret (V.i .i64 _); congr 2; omega)
        · have hxn2 : a1 % b1 ≠ 0 := fun e => h7 (by have := hlx.2 e; omega)
          refine zsr <| zmv rfl (hd 53 rfl) <| jo_l (ly_lenn sl28 rfl) (hd 54 rfl) <| jo_l (ly_eq rfl rfl) (hd 55 rfl) <| zas rfl (hd 52 rfl) <| jo_nil ?_
          refine jc_if rfl (fun h8 => ?_) (fun h8 => ?_)
          · have hyz2 : c1 % d1 = 0 := hly.1 (by omega)
            refine zsr <| zmv rfl (hd 56 rfl) <| zas rfl (hd 8 rfl) <| jo_nil <| jc_ret ?_
            refine ⟨_, _, (.cons rfl .nil), .i, ?_⟩
            first | (exfalso; omega) | (rw [← hc9, hz.1 hxz hyz, Int.mul_zero]) | (rw [← hc9, hz.2.1 hxz hyn]; show Out.ret (V.i .i64 _) = Out.ret (V.i .i64 _); congr 2; omega) | (rw [← hc9, hz.2.2 hxn hyz2]; show Out.ret (V.i .i64 _) = Out.ret (V.i .i64 _); congr 2; omega)
          · have hyn2 : c1 % d1 ≠ 0 := fun e => h8 (by have := hly.2 e; omega)
            refine jc_skip <| jc_region <| zmv rfl (hd 57 rfl) <| zmv rfl (hd 58 rfl) <| zmv rfl (hd 59 rfl) <| zmv rfl (hd 60 rfl) <| zas rfl (hd 0 rfl) <| zas rfl (hd 1 rfl) <| zas rfl (hd 2 rfl) <| zas rfl (hd 3 rfl) <| jo_nil <| jc_region <| zmv rfl (hd 15 rfl) ?_; refine jo_l (ly_neg rfl (r := -sg) (by rw [wrap_i64 (by omega) (by omega)]; omega)) (hd 16 rfl) <| zas rfl (hd 9 rfl) <| jo_nil ?_
            refine ⟨(b1, a1 % b1, d1, c1 % d1, -sg), ?_, ?_, rfl, cov_n 108 (by kernel_rfl) (by kernel_rfl) ?_⟩
            · first | (exfalso; omega) | exact ⟨by dsimp only; omega, by dsimp only; omega, bb, bx, bd, by9, (by dsimp only; omega), (by show -sg * cN b1 (a1 % b1) d1 (c1 % d1) = _; rw [cN_n hqe, Int.neg_mul_neg]; exact hc9)⟩
            · exact Nat.mod_lt _ (by omega)
            · exact (.cons rfl (.cons rfl (.cons rfl (.cons rfl (.cons rfl (.u (.u (.u (.u (.u (.u (.u (.u (.u (.u (.u (.u (.u (.u (.u (.u (.u (.u (.u (.u (.u (.u (.u (.u (.u (.u (.u (.u (.u (.u (.u (.u (.u (.u (.u (.u (.u (.u (.u (.u (.u (.u (.u (.u (.u (.u (.u (.u (.u (.u (.u (.u .nil)))))))))))))))))))))))))))))))))))))))))))))))))))))))))

theorem QCmp_s (s : Bool) (l d : List Int) (x y : Nat) (hx : Rw l x) (hy : Rw d y) (z : Int) (Y : Nat) (q1 : Qe s x y z Y) (s2 : Bool) (l2 d2 : List Int) (x2 y2 : Nat) (hx2 : Rw l2 x2) (hy2 : Rw d2 y2) (w : Int) (X : Nat) (q2 : Qe s2 x2 y2 w X) : Spec Tryz.prog 10 [(.a [.b s, .n false .u64 l, .n false .u64 d]), (.a [.b s2, .n false .u64 l2, .n false .u64 d2])] (fun o => o = .ret (.t [.i .i64 (cmpI (z * (X : Int)) (w * (Y : Int))), .i .i64 0])) := by
  refine spec_ofD [(0, (.a [.b s, .n false .u64 l, .n false .u64 d])), (1, (.a [.b s2, .n false .u64 l2, .n false .u64 d2]))] rfl Tryz.func10 rfl (zlb rfl) fun Γ 𝓡 hN hds hL hR hE => ?_
  have hd := hdOf 40 hN
  have h0 := q1.1
  have h02 := q2.1
  have hS1 : Spec Tryz.prog 49 [(.a [.b s, .n false .u64 l, .n false .u64 d])] (fun o => o = .ret (.i .i64 (sgnI (zs s x)))) := by have h := qsign_s s l d hx.l hx.u; rwa [hx.sv] at h
  have hS2 : Spec Tryz.prog 49 [(.a [.b s2, .n false .u64 l2, .n false .u64 d2])] (fun o => o = .ret (.i .i64 (sgnI (zs s2 x2)))) := by have h := qsign_s s2 l2 d2 hx2.l hx2.u; rwa [hx2.sv] at h
  have hM1 : Spec Tryz.prog 51 [.n false .u64 l] (fun o => o = .ret (.n true .u64 (lm (x : Int)))) := by have h := Norm_s l (by have := hx.l; omega); rw [hx.t] at h; exact h
  have hM2 : Spec Tryz.prog 51 [.n false .u64 d] (fun o => o = .ret (.n true .u64 (lm (y : Int)))) := by have h := Norm_s d (by have := hy.l; omega); rw [hy.t] at h; exact h
  have hM3 : Spec Tryz.prog 51 [.n false .u64 l2] (fun o => o = .ret (.n true .u64 (lm (x2 : Int)))) := by have h := Norm_s l2 (by have := hx2.l; omega); rw [hx2.t] at h; exact h
  have hM4 : Spec Tryz.prog 51 [.n false .u64 d2] (fun o => o = .ret (.n true .u64 (lm (y2 : Int)))) := by have h := Norm_s d2 (by have := hy2.l; omega); rw [hy2.t] at h; exact h
  have hCc := compare_v x y x2 y2 h0 h02 hx.b hy.b hx2.b hy2.b
  have hcv := cmp_v q1.1 q2.1 q1.2.1 q2.2.1 q1.2.2 q2.2.2
  have hcq := cmp_q (s := s) (t := s2) (x := x) (x2 := x2) h0 h02
  have hcr := @cN_rng x y x2 y2
  refine jcp_seq <| jc_region <| jo_h (hy_box (id := 0) (n := 3) rfl rfl rfl (by decide) rfl) (hd 2 rfl) <| jo_h (hy_box (id := 1) (n := 3) rfl rfl rfl (by decide) rfl) (hd 3 rfl) <| jo_h (hy_alloc (id := 2) zero3 (by decide) rfl (by decide) rfl) (hd 4 rfl) <| jo_h (hy_alloc (id := 3) zero23 (by decide) rfl (by decide) rfl) (hd 5 rfl) <| jo_nil <| jcd_defer (g := 47) (caps := [.p 2 0 0, .p 3 0 0]) 4 [_] (ops := [_, _]) rfl Tryz.func47 rfl rfl rfl hds hR hL hE <| jo_l (ly_mf (ovL_cons rfl (ovL_cons rfl ovL_nil))) (hd 8 rfl) <| jo_nil ?_
  refine ⟨rfl, rfl, rfl, ?_⟩
  intro Γ1 hN1 hL hR1
  replace hd : ∀ d, Nat.blt d 40 = true → d < Γ1.N := fun d h => by rw [hN1]; exact hd d h
  refine jo_nil <| zsr <| jo_l (ly_lda agg1027 rfl rfl rfl rfl) (hd 9 rfl) <| jo_l (ly_lda agg1027 rfl rfl rfl rfl) (hd 10 rfl) <| jo_h (hy_lit (id := 4) (xs := [.tmp 9, .tmp 10]) el1084 rfl (ovL_cons rfl (ovL_cons rfl ovL_nil)) rfl (all2_of rfl) (by decide) rfl) (hd 11 rfl) <| jo_frzr 11 (sz := 3) [[V.b s, V.n false .u64 l, V.n false .u64 d], [V.b s2, V.n false .u64 l2, V.n false .u64 d2]] rfl rfl rfl rfl (by simp) (by simp [pureV]) (by decide) hL ?_
  refine jo_call Tryz.f31 (looked_2 s l d y s2 l2 d2 y2 hy h0 hy2 h02) rfl Tryz.func31 rfl rfl (ovL_cons rfl ovL_nil) (.cons .l .nil) (hd 12 rfl) ?_ (fun ch hp => by simp at hp)
  rintro _ ⟨⟩; refine jo_nil <| jc_seq <| jc_nopan <| jc_draw (n := 6) _ rfl mixed <| zal2 0 [1, 3, 4, 5] (lo_l (ly_lda agg1027 rfl rfl rfl rfl) (hd 13 rfl)) rfl <| zal2 2 [3, 4, 5] (lo_l (ly_lda agg1027 rfl rfl rfl rfl) (hd 15 rfl)) rfl ?_
  refine ja_1 1 ?_ rfl (by kernel_rfl)
  refine js_call Tryz.f49 (hS1) rfl Tryz.func49 rfl rfl (ovL_cons rfl ovL_nil) (.cons (.a1 .b (.a1 .n (.a1 .n .a0))) .nil) (hd 14 rfl) ?_ (fun ch hp => by simp at hp)
  rintro y hy; injection hy with hy; subst hy
  refine ja_1 3 ?_ rfl (by kernel_rfl)
  refine js_call Tryz.f49 (hS2) rfl Tryz.func49 rfl rfl (ovL_cons rfl ovL_nil) (.cons (.a1 .b (.a1 .n (.a1 .n .a0))) .nil) (hd 16 rfl) ?_ (fun ch hp => by simp at hp)
  rintro _ ⟨⟩; refine zal 4 (lo_l (ly_as rfl) (hd 6 rfl)) rfl <| zal 5 (lo_l (ly_as rfl) (hd 7 rfl)) rfl <| ja_nil (by kernel_rfl) <| jc_seq <| zsr <| zmv rfl (hd 17 rfl) <| zmv rfl (hd 18 rfl) <| jo_l (ly_ne rfl rfl) (hd 19 rfl) <| jo_nil ?_
  refine jc_if rfl (fun h1 => ?_) (fun h1 => ?_)
  · have hc1 := h1
    refine jc_seq <| zsr <| zmv rfl (hd 20 rfl) <| zmv rfl (hd 21 rfl) <| jo_l (ly_lt rfl rfl) (hd 22 rfl) <| jo_nil ?_
    refine jc_if rfl (fun h2 => ?_) (fun h2 => ?_)
    · have hc2 := h2
      refine zsr <| jo_st (sy_store rfl rfl rfl siz3 rfl rfl (zlb rfl)) <| jo_st (sy_store rfl rfl rfl siz23 rfl rfl (zlb rfl)) <| jo_nil <| jc_ret <| Clo.fin clo_2351 (m := 4) (i := 2) (j := 3) (zlb rfl) rfl rfl rfl rfl ?_
      refine ⟨_, _, (.cons (ResV.cell1 one3 rfl rfl rfl) (.cons (ResV.cell1 one23 rfl rfl rfl) .nil)), (.t1 .i (.t1 .i .t0)), ?_⟩
      rw [← hcv, hcq, if_pos hc1, if_pos hc2]
    · have hc2 := h2
      refine jc_skip <| zsr <| jo_st (sy_store rfl rfl rfl siz3 rfl rfl (zlb rfl)) <| jo_st (sy_store rfl rfl rfl siz23 rfl rfl (zlb rfl)) <| jo_nil <| jc_ret <| Clo.fin clo_2351 (m := 4) (i := 2) (j := 3) (zlb rfl) rfl rfl rfl rfl ?_
      refine ⟨_, _, (.cons (ResV.cell1 one3 rfl rfl rfl) (.cons (ResV.cell1 one23 rfl rfl rfl) .nil)), (.t1 .i (.t1 .i .t0)), ?_⟩
      rw [← hcv, hcq, if_pos hc1, if_neg hc2]
  · have hc1 := h1
    refine jc_skip <| jc_seq <| jc_nopan <| jc_draw (n := 19) _ rfl mixed <| zal 0 (lo_l (ly_mv rfl) (hd 23 rfl)) rfl <| zal2 1 [2, 3, 4, 7, 11, 14, 15, 16, 17, 18] (lo_l (ly_fa fld1027_0 rfl rfl rfl) (hd 24 rfl)) rfl <| zal2 2 [3, 4, 7, 11, 14, 15, 16, 17, 18] (lo_l (ly_fa fld30_1 rfl rfl rfl) (hd 25 rfl)) rfl <| zal2 3 [4, 7, 11, 14, 15, 16, 17, 18] (lo_l (ly_ld one28 rfl rfl rfl) (hd 26 rfl)) rfl <| zal2 5 [6, 7, 11, 14, 15, 16, 17, 18] (lo_l (ly_fa fld1027_1 rfl rfl rfl) (hd 28 rfl)) rfl <| zal2 6 [7, 11, 14, 15, 16, 17, 18] (lo_l (ly_ld one28 rfl rfl rfl) (hd 29 rfl)) rfl <| zal2 8 [9, 10, 11, 14, 15, 16, 17, 18] (lo_l (ly_fa fld1027_0 rfl rfl rfl) (hd 31 rfl)) rfl <| zal2 9 [10, 11, 14, 15, 16, 17, 18] (lo_l (ly_fa fld30_1 rfl rfl rfl) (hd 32 rfl)) rfl <| zal2 10 [11, 14, 15, 16, 17, 18] (lo_l (ly_ld one28 rfl rfl rfl) (hd 33 rfl)) rfl ?_; refine zal2 12 [13, 14, 15, 16, 17, 18] (lo_l (ly_fa fld1027_1 rfl rfl rfl) (hd 35 rfl)) rfl <| zal2 13 [14, 15, 16, 17, 18] (lo_l (ly_ld one28 rfl rfl rfl) (hd 36 rfl)) rfl ?_
    refine ja_1 4 ?_ rfl (by kernel_rfl)
    refine js_call Tryz.f51 (hM1) rfl Tryz.func51 rfl rfl (ovL_cons rfl ovL_nil) (.cons .n .nil) (hd 27 rfl) ?_ (fun ch hp => by simp at hp)
    rintro y hy; injection hy with hy; subst hy
    refine ja_1 7 ?_ rfl (by kernel_rfl)
    refine js_call Tryz.f51 (hM2) rfl Tryz.func51 rfl rfl (ovL_cons rfl ovL_nil) (.cons .n .nil) (hd 30 rfl) ?_ (fun ch hp => by simp at hp)
    rintro y hy; injection hy with hy; subst hy
    refine ja_1 11 ?_ rfl (by kernel_rfl)
    refine js_call Tryz.f51 (hM3) rfl Tryz.func51 rfl rfl (ovL_cons rfl ovL_nil) (.cons .n .nil) (hd 34 rfl) ?_ (fun ch hp => by simp at hp)
    rintro y hy; injection hy with hy; subst hy
    refine ja_1 14 ?_ rfl (by kernel_rfl)
    refine js_call Tryz.f51 (hM4) rfl Tryz.func51 rfl rfl (ovL_cons rfl ovL_nil) (.cons .n .nil) (hd 37 rfl) ?_ (fun ch hp => by simp at hp)
    rintro y hy; injection hy with hy; subst hy
    refine ja_1 15 ?_ rfl (by kernel_rfl)
    refine js_call Tryz.f50 (hCc) rfl Tryz.func50 rfl rfl (ovL_cons rfl (ovL_cons rfl (ovL_cons rfl (ovL_cons rfl ovL_nil)))) (.cons .n (.cons .n (.cons .n (.cons .n .nil)))) (hd 38 rfl) ?_ (fun ch hp => by simp at hp)
    rintro _ ⟨⟩; refine zal 16 (lo_l (ly_mul rfl rfl (r := sgnI (zs s x) * cN x y x2 y2) (by rcases sgn_range (zs s x) with e | e | e <;> rw [e] <;> exact wrap_i64 (by omega) (by omega))) (hd 39 rfl)) rfl ?_
    refine ja_1 17 ?_ rfl (by kernel_rfl)
    refine js_st (sy_store rfl rfl rfl siz3 rfl rfl (zlb rfl)) rfl ?_
    refine ja_1 18 ?_ rfl (by kernel_rfl)
    refine js_st (sy_store rfl rfl rfl siz23 rfl rfl (zlb rfl)) rfl <| ja_nil (by kernel_rfl) <| jc_ret <| Clo.fin clo_2351 (m := 4) (i := 2) (j := 3) (zlb rfl) rfl rfl rfl rfl ?_
    refine ⟨_, _, (.cons (ResV.cell1 one3 rfl rfl rfl) (.cons (ResV.cell1 one23 rfl rfl rfl) .nil)), (.t1 .i (.t1 .i .t0)), ?_⟩
    rw [← hcv, hcq, if_neg hc1]

theorem QQuo_s (s : Bool) (l d : List Int) (x y : Nat) (hx : Rw l x) (hy : Rw d y) (z : Int) (Y : Nat) (q1 : Qe s x y z Y) (s2 : Bool) (l2 d2 : List Int) (x2 y2 : Nat) (hx2 : Rw l2 x2) (hy2 : Rw d2 y2) (w : Int) (X : Nat) (q2 : Qe s2 x2 y2 w X) (hB : lenV (x : Int) + lenV (y : Int) + lenV (x2 : Int) + lenV (y2 : Int) ≤ 67108864) (hx20 : x2 ≠ 0) : Spec Tryz.prog 9 [(.a [.b s, .n false .u64 l, .n false .u64 d]), (.a [.b s2, .n false .u64 l2, .n false .u64 d2])] (fun o => o = .ret (.t [(.a [.b (decide ((z * zs (decide (w < 0)) X) < 0)), .n false .u64 (lm ((nn (z * zs (decide (w < 0)) X) (Y * w.natAbs) : Nat) : Int)), .n false .u64 (lm ((dd (z * zs (decide (w < 0)) X) (Y * w.natAbs) : Nat) : Int))]), .i .i64 0])) := by
  refine spec_ofD [(0, (.a [.b s, .n false .u64 l, .n false .u64 d])), (1, (.a [.b s2, .n false .u64 l2, .n false .u64 d2]))] rfl Tryz.func9 rfl (zlb rfl) fun Γ 𝓡 hN hds hL hR hE => ?_
  have hd := hdOf 31 hN
  have h0 := q1.1
  have h02 := q2.1
  have hLn : Spec Tryz.prog 39 [.n false .u64 l2] (fun o => o = .ret (.i .i64 (lenV (x2 : Int)))) := by have h := Length_s l2 (by have := hx2.l; omega) hx2.u; rwa [hx2.n] at h
  have hlz := mt lenV_zero.1 hx20
  refine jcp_seq <| jc_region <| jo_h (hy_box (id := 0) (n := 3) rfl rfl rfl (by decide) rfl) (hd 2 rfl) <| jo_h (hy_box (id := 1) (n := 3) rfl rfl rfl (by decide) rfl) (hd 3 rfl) <| jo_h (hy_alloc (id := 2) zero1027 (by decide) rfl (by decide) rfl) (hd 4 rfl) <| jo_h (hy_alloc (id := 3) zero23 (by decide) rfl (by decide) rfl) (hd 5 rfl) <| jo_nil <| jcd_defer (g := 46) (caps := [.p 2 0 0, .p 3 0 0]) 4 [_] (ops := [_, _]) rfl Tryz.func46 rfl rfl rfl hds hR hL hE <| jo_l (ly_mf (ovL_cons rfl (ovL_cons rfl ovL_nil))) (hd 6 rfl) <| jo_nil ?_
  refine ⟨rfl, rfl, rfl, ?_⟩
  intro Γ1 hN1 hL hR1
  replace hd : ∀ d, Nat.blt d 31 = true → d < Γ1.N := fun d h => by rw [hN1]; exact hd d h
  refine jo_nil <| zsr <| jo_l (ly_lda agg1027 rfl rfl rfl rfl) (hd 7 rfl) <| jo_l (ly_lda agg1027 rfl rfl rfl rfl) (hd 8 rfl) <| jo_h (hy_lit (id := 4) (xs := [.tmp 7, .tmp 8]) el1084 rfl (ovL_cons rfl (ovL_cons rfl ovL_nil)) rfl (all2_of rfl) (by decide) rfl) (hd 9 rfl) <| jo_frzr 9 (sz := 3) [[V.b s, V.n false .u64 l, V.n false .u64 d], [V.b s2, V.n false .u64 l2, V.n false .u64 d2]] rfl rfl rfl rfl (by simp) (by simp [pureV]) (by decide) hL ?_
  refine jo_call Tryz.f31 (looked_2 s l d y s2 l2 d2 y2 hy h0 hy2 h02) rfl Tryz.func31 rfl rfl (ovL_cons rfl ovL_nil) (.cons .l .nil) (hd 10 rfl) ?_ (fun ch hp => by simp at hp)
  rintro _ ⟨⟩; refine jo_nil <| jc_seq <| zsr <| jo_l (ly_fa fld1027_0 rfl rfl rfl) (hd 11 rfl) <| jo_l (ly_fa fld30_1 rfl rfl rfl) (hd 12 rfl) <| jo_l (ly_ld one28 rfl rfl rfl) (hd 13 rfl) ?_
  refine jo_call Tryz.f39 (hLn) rfl Tryz.func39 rfl rfl (ovL_cons rfl ovL_nil) (.cons .n .nil) (hd 14 rfl) ?_ (fun ch hp => by simp at hp)
  rintro _ ⟨⟩; refine jo_l (ly_ff (ly_eq rfl rfl) (by omega)) (hd 15 rfl) <| jo_nil <| jc_litf rfl <| jc_skip <| zsr <| jo_l (ly_lda agg1027 rfl rfl rfl rfl) (hd 17 rfl) <| jo_l (ly_fa fld1027_0 rfl rfl rfl) (hd 18 rfl) <| jo_l (ly_fa fld30_0 rfl rfl rfl) (hd 19 rfl) <| jo_l (ly_ld one4 rfl rfl rfl) (hd 20 rfl) <| jo_l (ly_fa fld1027_1 rfl rfl rfl) (hd 21 rfl) <| jo_l (ly_ld one28 rfl rfl rfl) (hd 22 rfl) <| jo_l (ly_build (is := [0, 1]) (xs := [.tmp 20, .tmp 22]) zero30 pls30_0_1 rfl (ovL_cons rfl (ovL_cons rfl ovL_nil)) rfl (by first | (simp [plsOk, cellsV]; done) | (simp [plsOk, cellsV, old]; done)) (all_of rfl) rfl) (hd 23 rfl) ?_; refine jo_l (ly_fa fld1027_0 rfl rfl rfl) (hd 24 rfl) <| jo_l (ly_fa fld30_1 rfl rfl rfl) (hd 25 rfl) <| jo_l (ly_ld one28 rfl rfl rfl) (hd 26 rfl) <| jo_l (ly_build (is := [0, 1]) (xs := [.tmp 23, .tmp 26]) zero1027 pls1027_0_1 rfl (ovL_cons rfl (ovL_cons rfl ovL_nil)) rfl ⟨rfl, (by decide), rfl, (by decide), trivial⟩ (all_of rfl) rfl) (hd 27 rfl) ?_
  refine jo_call Tryz.f8 (QMul_s s l d x y hx hy z Y q1 s2 d2 l2 y2 x2 hy2 hx2 (zs (decide (w < 0)) X) w.natAbs (q2.inv hx20) (by omega)) rfl Tryz.func8 rfl rfl (ovL_cons rfl (ovL_cons rfl ovL_nil)) (.cons (.a1 .b (.a1 .n (.a1 .n .a0))) (.cons (.a1 .b (.a1 .n (.a1 .n .a0))) .nil)) (hd 28 rfl) ?_ (fun ch hp => by simp at hp)
  rintro _ ⟨⟩; refine jo_l (ly_ext rfl rfl) (hd 29 rfl) <| jo_l (ly_ext rfl rfl) (hd 30 rfl) <| jo_st (sy_store rfl rfl rfl siz1027 rfl rfl (zlb rfl)) <| jo_st (sy_store rfl rfl rfl siz23 rfl rfl (zlb rfl)) <| jo_nil <| jc_ret <| Clo.fin clo_2353 (m := 4) (i := 2) (j := 3) (zlb rfl) rfl rfl rfl rfl ?_
  refine ⟨_, _, (.cons (ResV.cell agg1027 rfl rfl rfl rfl) (.cons (ResV.cell1 one23 rfl rfl rfl) .nil)), (.t1 (.a1 .b (.a1 .n (.a1 .n .a0))) (.t1 .i .t0)), ?_⟩
  exact rfl

theorem small7_s (rs : List (Bool × List Int × List Int)) (hr : ∀ r ∈ rs, r.2.1.length ≤ 1048576 ∧ u64s r.2.1 ∧ r.2.2.length ≤ 1048576 ∧ u64s r.2.2) (hrl : rs.length ≤ 1000) : Spec Tryz.prog 20 [.l false 3 (rtsV rs)] (fun o => o = .ret (.b (smallQ rs))) := by
  refine spec_of' [(0, .l false 3 (rtsV rs))] rfl Tryz.func20 rfl (zlb rfl) fun Γ hN hds hL hR => ?_
  have hd := hdOf 32 hN
  refine zsr <| zas rfl (hd 2 rfl) <| jo_nil <| jc_seq <| zsr <| zmv rfl (hd 5 rfl) <| jo_l (ly_lenl sl1084 rfl) (hd 6 rfl) <| zmv rfl (hd 7 rfl) <| jo_nil <| jc_block ?_
  refine jc_loopD (G := Nat) 0 (fun i => i ≤ rs.length ∧ ∀ j < i, okR (rat0 rs j)) (fun i => [(7, .i .i64 (i : Int)), (2, .u), (4, .u), (8, .u), (9, .u), (10, .u), (11, .u), (12, .u), (13, .u), (14, .u), (15, .u), (16, .u), (17, .u), (18, .u), (19, .u), (20, .u), (21, .u), (22, .u), (23, .u), (24, .u), (25, .u), (26, .u), (27, .u), (28, .u), (29, .u), (30, .u), (31, .u)]) (fun i => []) (fun i => rs.length - i) 0 ?_ ?_ rfl hR rfl (fun _ _ => rfl) (fun g _ => .nil) ?_
  · exact ⟨Nat.zero_le _, fun j h => absurd h (Nat.not_lt_zero _)⟩
  · exact (.cons rfl (.u (.u (.u (.u (.u (.u (.u (.u (.u (.u (.u (.u (.u (.u (.u (.u (.u (.u (.u (.u (.u (.u (.u (.u (.u (.u .nil)))))))))))))))))))))))))))
  · rintro i ⟨hi, hj⟩; refine zsr <| jo_l (ly_lt rfl rfl) (hd 8 rfl) <| jo_nil <| jc_seq ?_
    refine jc_if rfl (fun h1 => ?_) (fun h1 => ?_)
    · have hil : i < rs.length := by have h9 : (i : Int) < ((rtsV rs).length : Int) := h1; rw [rtsV_len] at h9; omega
      obtain ⟨hn1, hn2, hd1, hd2⟩ := rat0_mem hil hr
      have hOfD := rOf_s (rat0 rs i).2.2 (by omega) hd2
      rw [rOf_v hd2, digs_dg (vl_nonneg hd2)] at hOfD
      have hdlD := dg_lenN (s := false) hd2 rfl
      have hLeD := Len_s (vl (rat0 rs i).2.2) (by have h9 : sv false (rat0 rs i).2.2 = vl (rat0 rs i).2.2 := rfl; rw [← h9]; omega)
      have hOfN := rOf_s (rat0 rs i).2.1 (by omega) hn2
      rw [rOf_v hn2, digs_dg (vl_nonneg hn2)] at hOfN
      have hdlN := dg_lenN (s := false) hn2 rfl
      have hLeN := Len_s (vl (rat0 rs i).2.1) (by have h9 : sv false (rat0 rs i).2.1 = vl (rat0 rs i).2.1 := rfl; rw [← h9]; omega)
      have hdz := @dg_lenv (vl (rat0 rs i).2.2)
      refine jc_skip <| jc_seq <| jc_block <| zsr <| jo_l (ly_ial (i := i) (row := [V.b (rat0 rs i).1, V.n false .u64 (rat0 rs i).2.1, V.n false .u64 (rat0 rs i).2.2]) sl1084 rfl rfl (by omega) (rtsV_at hil)) (hd 9 rfl) <| jo_l (ly_ldqa agg1027 rfl rfl rfl) (hd 10 rfl) <| jo_h (hy_alloc (id := 0) zero1027 (by decide) rfl (by decide) rfl) (hd 4 rfl) <| jo_st (sy_store rfl rfl rfl siz1027 rfl rfl (zlb rfl)) <| jo_nil <| zsr <| jo_l (ly_fa fld1027_1 rfl rfl rfl) (hd 11 rfl) ?_; refine jo_l (ly_ld one28 rfl rfl rfl) (hd 12 rfl) ?_
      refine jo_call Tryz.f25 (hOfD) rfl Tryz.func25 rfl rfl (ovL_cons rfl ovL_nil) (.cons .n .nil) (hd 13 rfl) ?_ (fun ch hp => by simp at hp)
      rintro _ ⟨⟩; refine jo_l (ly_lenn sl33 rfl) (hd 14 rfl) <| jo_l (ly_eq rfl rfl) (hd 15 rfl) <| zmv rfl (hd 16 rfl) ?_
      refine jo_ifp 16 rfl (fun h2 => ?_) (fun h2 => ?_)
      · have hk : ¬ okR (rat0 rs i) := fun h9 => h9.1 (hdz.1 h2)
        refine jo_s 16 rfl rfl rfl (hd 17 rfl) <| jo_s 16 rfl rfl rfl (hd 18 rfl) <| jo_s 16 rfl rfl rfl (hd 19 rfl) <| jo_s 16 rfl rfl rfl (hd 20 rfl) <| jo_s 16 rfl rfl rfl (hd 21 rfl) <| jo_l (ly_pick_t rfl rfl) (hd 22 rfl) <| zmv rfl (hd 23 rfl) <| jo_s 23 rfl rfl rfl (hd 24 rfl) <| jo_s 23 rfl rfl rfl (hd 25 rfl) <| jo_s 23 rfl rfl rfl (hd 26 rfl) <| jo_s 23 rfl rfl rfl (hd 27 rfl) <| jo_s 23 rfl rfl rfl (hd 28 rfl) <| jo_s 23 rfl rfl rfl (hd 29 rfl) ?_; refine jo_l (ly_pick_t rfl rfl) (hd 30 rfl) <| jo_nil <| jc_litt rfl <| zsr <| zas rfl (hd 2 rfl) <| jo_nil <| jc_ret ?_
        refine ⟨_, _, (.cons rfl .nil), .b, ?_⟩
        first | rw [smallQ_n hil hk] | rw [smallQ_y hj]
      · have hk1 : vl (rat0 rs i).2.2 ≠ 0 := fun e => h2 (hdz.2 e)
        refine jo_g 16 rfl rfl (ly_fa fld1027_1 rfl rfl rfl) (hd 17 rfl) <| jo_g 16 rfl rfl (ly_ld one28 rfl rfl rfl) (hd 18 rfl) ?_
        refine jo_callg Tryz.f25 16 rfl rfl (hOfD) rfl Tryz.func25 rfl rfl (ovL_cons rfl ovL_nil) (.cons .n .nil) (hd 19 rfl) ?_ (fun ch hp => by simp at hp)
        rintro y hy; injection hy with hy; subst hy
        refine jo_callg Tryz.f27 16 rfl rfl (hLeD) rfl Tryz.func27 rfl rfl (ovL_cons rfl ovL_nil) (.cons .n .nil) (hd 20 rfl) ?_ (fun ch hp => by simp at hp)
        rintro _ ⟨⟩; refine jo_g 16 rfl rfl (ly_gt rfl rfl) (hd 21 rfl) <| jo_l (ly_pick_f rfl rfl) (hd 22 rfl) <| zmv rfl (hd 23 rfl) ?_
        refine jo_ifp 23 rfl (fun h4 => ?_) (fun h4 => ?_)
        · have hk : ¬ okR (rat0 rs i) := fun h9 => by have := h9.2.1; omega
          refine jo_s 23 rfl rfl rfl (hd 24 rfl) <| jo_s 23 rfl rfl rfl (hd 25 rfl) <| jo_s 23 rfl rfl rfl (hd 26 rfl) <| jo_s 23 rfl rfl rfl (hd 27 rfl) <| jo_s 23 rfl rfl rfl (hd 28 rfl) <| jo_s 23 rfl rfl rfl (hd 29 rfl) <| jo_l (ly_pick_t rfl rfl) (hd 30 rfl) <| jo_nil <| jc_litt rfl <| zsr <| zas rfl (hd 2 rfl) <| jo_nil ?_; refine jc_ret ?_
          refine ⟨_, _, (.cons rfl .nil), .b, ?_⟩
          first | rw [smallQ_n hil hk] | rw [smallQ_y hj]
        · refine jo_g 23 rfl rfl (ly_fa fld1027_0 rfl rfl rfl) (hd 24 rfl) <| jo_g 23 rfl rfl (ly_fa fld30_1 rfl rfl rfl) (hd 25 rfl) <| jo_g 23 rfl rfl (ly_ld one28 rfl rfl rfl) (hd 26 rfl) ?_
          refine jo_callg Tryz.f25 23 rfl rfl (hOfN) rfl Tryz.func25 rfl rfl (ovL_cons rfl ovL_nil) (.cons .n .nil) (hd 27 rfl) ?_ (fun ch hp => by simp at hp)
          rintro y hy; injection hy with hy; subst hy
          refine jo_callg Tryz.f27 23 rfl rfl (hLeN) rfl Tryz.func27 rfl rfl (ovL_cons rfl ovL_nil) (.cons .n .nil) (hd 28 rfl) ?_ (fun ch hp => by simp at hp)
          rintro _ ⟨⟩; refine jo_g 23 rfl rfl (ly_gt rfl rfl) (hd 29 rfl) <| jo_l (ly_pick_f rfl rfl) (hd 30 rfl) <| jo_nil ?_
          refine jc_if rfl (fun h6 => ?_) (fun h6 => ?_)
          · have hk : ¬ okR (rat0 rs i) := fun h9 => by have := h9.2.2; omega
            refine zsr <| zas rfl (hd 2 rfl) <| jo_nil <| jc_ret ?_
            refine ⟨_, _, (.cons rfl .nil), .b, ?_⟩
            first | rw [smallQ_n hil hk] | rw [smallQ_y hj]
          · refine jc_skip <| jc_region <| jo_l (ly_add rfl rfl (r := ((i + 1 : Nat) : Int)) (by rw [wrap_i64 (by omega) (by omega)]; omega)) (hd 31 rfl) <| zmv rfl (hd 7 rfl) <| jo_nil ?_
            refine ⟨i + 1, ?_, ?_, rfl, cov_n 55 rfl rfl ?_⟩
            · exact ⟨by omega, fun j hjj => by rcases Nat.lt_or_ge j i with h9 | h9; exact hj j h9; rw [show j = i by omega]; exact ⟨hk1, by omega, by omega⟩⟩
            · omega
            · exact (.cons rfl (.u (.u (.u (.u (.u (.u (.u (.u (.u (.u (.u (.u (.u (.u (.u (.u (.u (.u (.u (.u (.u (.u (.u (.u (.u (.u .nil)))))))))))))))))))))))))))
    · obtain rfl : i = rs.length := by have h9 : ¬ (i : Int) < ((rtsV rs).length : Int) := h1; rw [rtsV_len] at h9; omega
      refine jc_exit <| zsr <| zas rfl (hd 2 rfl) <| jo_nil <| jc_ret ?_
      refine ⟨_, _, (.cons rfl .nil), .b, ?_⟩
      first | rw [smallQ_n hil hk] | rw [smallQ_y hj]

theorem QAdd_r {s : Bool} {l d : List Int} {x y : Nat} {z : Int} {Y b : Nat} (h1 : Qr s l d x y z Y b) {s2 : Bool} {l2 d2 : List Int} {x2 y2 : Nat} {w : Int} {X c : Nat} (h2 : Qr s2 l2 d2 x2 y2 w X c) (hb : 2 * b + 2 * c + 1 ≤ 67108864) : Spec Tryz.prog 6 [(.a [.b s, .n false .u64 l, .n false .u64 d]), (.a [.b s2, .n false .u64 l2, .n false .u64 d2])] (fun o => o = .ret (.t [(.a [.b (decide ((z * (X : Int) + w * (Y : Int)) < 0)), .n false .u64 (lm ((nn (z * (X : Int) + w * (Y : Int)) (Y * X) : Nat) : Int)), .n false .u64 (lm ((dd (z * (X : Int) + w * (Y : Int)) (Y * X) : Nat) : Int))]), .i .i64 0])) :=
  QAdd_s s l d x y h1.hx h1.hy z Y h1.q s2 l2 d2 x2 y2 h2.hx h2.hy w X h2.q (by have a1 := h1.bx; have a2 := h1.bd; have a3 := h2.bx; have a4 := h2.bd; omega)

theorem QQuo_r {s : Bool} {l d : List Int} {x y : Nat} {z : Int} {Y b : Nat} (h1 : Qr s l d x y z Y b) {s2 : Bool} {l2 d2 : List Int} {x2 y2 : Nat} {w : Int} {X c : Nat} (h2 : Qr s2 l2 d2 x2 y2 w X c) (hb : 2 * b + 2 * c + 1 ≤ 67108864) (hx20 : x2 ≠ 0) : Spec Tryz.prog 9 [(.a [.b s, .n false .u64 l, .n false .u64 d]), (.a [.b s2, .n false .u64 l2, .n false .u64 d2])] (fun o => o = .ret (.t [(.a [.b (decide ((z * zs (decide (w < 0)) X) < 0)), .n false .u64 (lm ((nn (z * zs (decide (w < 0)) X) (Y * w.natAbs) : Nat) : Int)), .n false .u64 (lm ((dd (z * zs (decide (w < 0)) X) (Y * w.natAbs) : Nat) : Int))]), .i .i64 0])) :=
  QQuo_s s l d x y h1.hx h1.hy z Y h1.q s2 l2 d2 x2 y2 h2.hx h2.hy w X h2.q (by have a1 := h1.bx; have a2 := h1.bd; have a3 := h2.bx; have a4 := h2.bd; omega) hx20

theorem QCmp_r {s : Bool} {l d : List Int} {x y : Nat} {z : Int} {Y b : Nat} (h1 : Qr s l d x y z Y b) {s2 : Bool} {l2 d2 : List Int} {x2 y2 : Nat} {w : Int} {X c : Nat} (h2 : Qr s2 l2 d2 x2 y2 w X c) : Spec Tryz.prog 10 [(.a [.b s, .n false .u64 l, .n false .u64 d]), (.a [.b s2, .n false .u64 l2, .n false .u64 d2])] (fun o => o = .ret (.t [.i .i64 (cmpI (z * (X : Int)) (w * (Y : Int))), .i .i64 0])) :=
  QCmp_s s l d x y h1.hx h1.hy z Y h1.q s2 l2 d2 x2 y2 h2.hx h2.hy w X h2.q

theorem dl0 {x : Nat} : (digs B32 x).length = 0 ↔ x = 0 := by
  rw [List.length_eq_zero_iff]
  constructor
  · intro h
    refine Decidable.byContradiction fun hx => ?_
    have := vb_digs (b := B32) (by decide) x
    rw [h] at this
    simp [vb] at this
    omega
  · rintro rfl; exact digs_0
theorem dl_of {x : Nat} (h : lenV (x : Int) ≤ 67108864) : (digs B32 x).length ≤ 2097152 := by
  have h1 := lenV_dg h
  rwa [show dg (x : Int) = digs B32 x from by unfold dg; rw [Int.natAbs_natCast]] at h1
theorem dgN {x : Nat} : dg (x : Int) = digs B32 x := by unfold dg; rw [Int.natAbs_natCast]

def dB (c : Int) : Prop := 48 ≤ c ∧ c ≤ 57
instance (c : Int) : Decidable (dB c) := by unfold dB; exact inferInstance
def nd (s : ByteArray) (j : Nat) : Nat := if h : j < s.size ∧ dB (byteAt s j) then nd s (j + 1) else j
termination_by s.size - j
theorem nd_step {s : ByteArray} {j : Nat} (h : j < s.size) (hd : dB (byteAt s j)) : nd s j = nd s (j + 1) := by rw [nd, dif_pos ⟨h, hd⟩]
theorem nd_end {s : ByteArray} {j : Nat} (h : ¬ (j < s.size ∧ dB (byteAt s j))) : nd s j = j := by rw [nd, dif_neg h]
theorem nd_is {s : ByteArray} {j k : Nat} (h1 : j ≤ k) (hk : k ≤ s.size) (ha : ∀ i, j ≤ i → i < k → dB (byteAt s i)) (he : k < s.size → ¬ dB (byteAt s k)) : nd s j = k := by
  rcases Nat.lt_or_ge j k with h | h
  · rw [nd_step (by omega) (ha j (Nat.le_refl _) h)]
    exact nd_is h hk (fun i hi => ha i (by omega)) he
  · have : j = k := by omega
    subst this
    exact nd_end fun hh => he hh.1 hh.2
termination_by k - j
def isD (s : ByteArray) : Prop := ∀ i, i < s.size → dB (byteAt s i)
theorem isD.nd {s : ByteArray} (h : isD s) : nd s 0 = s.size := nd_is (Nat.zero_le _) (Nat.le_refl _) (fun i _ hi => h i hi) (fun hh => absurd hh (Nat.lt_irrefl _))
theorem isD.val {s : ByteArray} (h : isD s) : ∀ i, i < s.size → dgv (byteAt s i) < 10 := fun i hi => by
  have := h i hi
  unfold dB at this
  unfold dgv
  rw [if_pos this]
  omega
theorem ex_sz {s : ByteArray} {a b : Nat} (hb : b ≤ s.size) : (s.extract a b).size = b - a := by rw [ByteArray.size_extract]; omega
theorem ba_ext {s t : ByteArray} (h : s.data = t.data) : s = t := by cases s; cases t; cases h; rfl
theorem ex_all (s : ByteArray) : s.extract 0 s.size = s := ba_ext (by rw [ByteArray.data_extract]; exact Array.extract_size)
theorem ba_nil {s : ByteArray} (h : s.size = 0) : s = ByteArray.empty := ba_ext (Array.eq_empty_of_size_eq_zero h)
def dv (s : ByteArray) : Nat := (hv 10 (dgs s)).toNat
theorem isD.rng {s : ByteArray} (h : isD s) : rng 10 (dgs s) := fun x hx => by
  obtain ⟨i, hi, rfl⟩ := List.getElem_of_mem hx
  rw [dgs_len] at hi
  have e := dgs_getD hi
  rw [List.getD_eq_getElem?_getD, List.getElem?_eq_getElem (by rw [dgs_len]; exact hi)] at e
  have e' : (dgs s)[i] = dgv (byteAt s i) := e
  rw [e']
  have := h i hi
  unfold dB at this
  unfold dgv
  rw [if_pos this]
  omega
theorem isD.hv {s : ByteArray} (h : isD s) : hv 10 (dgs s) = ((dv s : Nat) : Int) := (Int.toNat_of_nonneg (hv_nonneg h.rng)).symm

theorem cut_s (s : ByteArray) (hs : s.size < 4294967296) : Spec Tryz.prog 70 [.s s] (fun o => o = .ret (.t [.s (s.extract 0 (nd s 0)), .s (s.extract (nd s 0) s.size)])) := by
  refine spec_of' [(0, .s s)] rfl Tryz.func70 rfl (zlb rfl) fun Γ hN hds hL hR => ?_
  have hd := hdOf 29 hN
  refine zsr <| zas rfl (hd 2 rfl) <| zas rfl (hd 3 rfl) <| jo_nil <| zsr <| zas rfl (hd 4 rfl) <| jo_nil <| jc_seq <| jc_block ?_
  refine jc_loopF (G := Nat) (fun i => i ≤ s.size ∧ nd s i = nd s 0) (fun i => [(4, .i .i64 (i : Int)), (5, .u), (6, .u), (7, .u), (8, .u), (9, .u), (10, .u), (11, .u), (12, .u), (13, .u), (14, .u), (15, .u), (16, .u), (17, .u), (18, .u), (19, .u), (20, .u), (21, .u), (22, .u)]) (fun _ => _) (fun i => s.size - i) 0 ?_ ?_ rfl ?_
  · exact ⟨Nat.zero_le _, rfl⟩
  · exact (.cons rfl (.u (.u (.u (.u (.u (.u (.u (.u (.u (.u (.u (.u (.u (.u (.u (.u (.u (.u .nil)))))))))))))))))))
  · rintro i ⟨hi, hc⟩; refine jc_seq <| zsr <| zmv rfl (hd 5 rfl) <| zmv rfl (hd 6 rfl) <| jo_l (ly_lens und9 rfl) (hd 7 rfl) <| jo_l (ly_lt rfl rfl) (hd 8 rfl) <| zmv rfl (hd 9 rfl) ?_
    refine jo_ifp 9 rfl (fun h1 => ?_) (fun h1 => ?_)
    · refine jo_g 9 rfl rfl (ly_mv rfl) (hd 10 rfl) <| jo_g 9 rfl rfl (ly_mv rfl) (hd 11 rfl) <| jo_g 9 rfl rfl (ly_ixs (i := i) und9 rfl rfl (by first | rfl | omega) (by omega)) (hd 12 rfl) <| jo_g 9 rfl rfl (ly_ge rfl rfl) (hd 13 rfl) <| jo_l (ly_pick_t rfl rfl) (hd 14 rfl) <| zmv rfl (hd 15 rfl) ?_
      refine jo_ifp 15 rfl (fun h2 => ?_) (fun h2 => ?_)
      · refine jo_g 15 rfl rfl (ly_mv rfl) (hd 16 rfl) <| jo_g 15 rfl rfl (ly_mv rfl) (hd 17 rfl) <| jo_g 15 rfl rfl (ly_ixs (i := i) und9 rfl rfl (by first | rfl | omega) (by omega)) (hd 18 rfl) <| jo_g 15 rfl rfl (ly_le rfl rfl) (hd 19 rfl) <| jo_l (ly_pick_t rfl rfl) (hd 20 rfl) <| jo_nil ?_
        refine jc_if rfl (fun h3 => ?_) (fun h3 => ?_)
        · refine jc_skip <| jc_block <| jc_region <| zmv rfl (hd 21 rfl) <| jo_l (ly_add rfl rfl (r := ((i + 1 : Nat) : Int)) (by rw [wrap_i64 (by omega) (by omega)]; omega)) (hd 22 rfl) <| zas rfl (hd 4 rfl) <| jo_nil ?_
          refine ⟨i + 1, ?_, ?_, rfl, cov_n 40 rfl rfl ?_⟩
          · exact ⟨by omega, by rw [← hc]; exact (nd_step (by omega) (by unfold dB; omega)).symm⟩
          · omega
          · exact (.cons rfl (.u (.u (.u (.u (.u (.u (.u (.u (.u (.u (.u (.u (.u (.u (.u (.u (.u (.u .nil)))))))))))))))))))
        · refine jc_exit <| jc_seq <| jc_draw (n := 8) _ rfl mixed <| zal 0 (lo_l (ly_mv rfl) (hd 23 rfl)) rfl <| zal 1 (lo_l (ly_mv rfl) (hd 24 rfl)) rfl <| zal 2 (lo_l (ly_sls und9 rfl bnd_none (bnd_some' rfl (by first | rfl | omega)) (by omega) (by omega)) (hd 25 rfl)) rfl <| zal 3 (lo_l (ly_mv rfl) (hd 26 rfl)) rfl <| zal 4 (lo_l (ly_mv rfl) (hd 27 rfl)) rfl <| zal 5 (lo_l (ly_sls und9 rfl (bnd_some' rfl (by first | rfl | omega)) bnd_none (by omega) (by omega)) (hd 28 rfl)) rfl <| zal 6 (lo_l (ly_as rfl) (hd 2 rfl)) rfl <| zal 7 (lo_l (ly_as rfl) (hd 3 rfl)) rfl <| ja_nil (by kernel_rfl) <| jc_ret ?_
          refine ⟨_, _, (.cons rfl (.cons rfl .nil)), (.t1 .s (.t1 .s .t0)), ?_⟩
          rw [← hc, nd_end (by unfold dB; omega)]
      · refine jo_s 15 rfl rfl rfl (hd 16 rfl) <| jo_s 15 rfl rfl rfl (hd 17 rfl) <| jo_s 15 rfl rfl rfl (hd 18 rfl) <| jo_s 15 rfl rfl rfl (hd 19 rfl) <| jo_l (ly_pick_f rfl rfl) (hd 20 rfl) <| jo_nil <| jc_litf rfl <| jc_exit <| jc_seq <| jc_draw (n := 8) _ rfl mixed <| zal 0 (lo_l (ly_mv rfl) (hd 23 rfl)) rfl <| zal 1 (lo_l (ly_mv rfl) (hd 24 rfl)) rfl <| zal 2 (lo_l (ly_sls und9 rfl bnd_none (bnd_some' rfl (by first | rfl | omega)) (by omega) (by omega)) (hd 25 rfl)) rfl ?_; refine zal 3 (lo_l (ly_mv rfl) (hd 26 rfl)) rfl <| zal 4 (lo_l (ly_mv rfl) (hd 27 rfl)) rfl <| zal 5 (lo_l (ly_sls und9 rfl (bnd_some' rfl (by first | rfl | omega)) bnd_none (by omega) (by omega)) (hd 28 rfl)) rfl <| zal 6 (lo_l (ly_as rfl) (hd 2 rfl)) rfl <| zal 7 (lo_l (ly_as rfl) (hd 3 rfl)) rfl <| ja_nil (by kernel_rfl) <| jc_ret ?_
        refine ⟨_, _, (.cons rfl (.cons rfl .nil)), (.t1 .s (.t1 .s .t0)), ?_⟩
        rw [← hc, nd_end (by unfold dB; omega)]
    · refine jo_s 9 rfl rfl rfl (hd 10 rfl) <| jo_s 9 rfl rfl rfl (hd 11 rfl) <| jo_s 9 rfl rfl rfl (hd 12 rfl) <| jo_s 9 rfl rfl rfl (hd 13 rfl) <| jo_l (ly_pick_f rfl rfl) (hd 14 rfl) <| zmv rfl (hd 15 rfl) <| jo_s 15 rfl rfl rfl (hd 16 rfl) <| jo_s 15 rfl rfl rfl (hd 17 rfl) <| jo_s 15 rfl rfl rfl (hd 18 rfl) <| jo_s 15 rfl rfl rfl (hd 19 rfl) <| jo_l (ly_pick_f rfl rfl) (hd 20 rfl) <| jo_nil <| jc_litf rfl ?_; refine jc_exit <| jc_seq <| jc_draw (n := 8) _ rfl mixed <| zal 0 (lo_l (ly_mv rfl) (hd 23 rfl)) rfl <| zal 1 (lo_l (ly_mv rfl) (hd 24 rfl)) rfl <| zal 2 (lo_l (ly_sls und9 rfl bnd_none (bnd_some' rfl (by first | rfl | omega)) (by omega) (by omega)) (hd 25 rfl)) rfl <| zal 3 (lo_l (ly_mv rfl) (hd 26 rfl)) rfl <| zal 4 (lo_l (ly_mv rfl) (hd 27 rfl)) rfl <| zal 5 (lo_l (ly_sls und9 rfl (bnd_some' rfl (by first | rfl | omega)) bnd_none (by omega) (by omega)) (hd 28 rfl)) rfl <| zal 6 (lo_l (ly_as rfl) (hd 2 rfl)) rfl <| zal 7 (lo_l (ly_as rfl) (hd 3 rfl)) rfl <| ja_nil (by kernel_rfl) <| jc_ret ?_
      refine ⟨_, _, (.cons rfl (.cons rfl .nil)), (.t1 .s (.t1 .s .t0)), ?_⟩
      rw [← hc, nd_end (by unfold dB; omega)]

def eu (v : Int) (w : Nat) : Nat → Int × Nat
  | 0 => (v, w)
  | k + 1 => (((eu v w k).2 : Int), ((eu v w k).1 % ((eu v w k).2 : Int)).toNat)
def eqt (v : Int) (w k : Nat) : Int := (eu v w k).1 / ((eu v w k).2 : Int)
def wrow (q : Int) : List V := [.b (decide (q < 0)), .n false .u64 (lm q)]
def cfR (v : Int) (w k : Nat) : List (List V) := (List.range k).map fun i => wrow (eqt v w i)
structure Chn (v : Int) (w n : Nat) : Prop where
  n0 : n ≠ 0
  z : (eu v w n).2 = 0
  lt : ∀ k, k < n → (eu v w k).2 ≠ 0
  g : Int.gcd v (w : Int) = 1
variable {v : Int} {w n k : Nat}
theorem eu_s1 : (eu v w (k + 1)).1 = ((eu v w k).2 : Int) := rfl
theorem eu_s2 (h : (eu v w k).2 ≠ 0) : ((eu v w (k + 1)).2 : Int) = (eu v w k).1 % ((eu v w k).2 : Int) := Int.toNat_of_nonneg (Int.emod_nonneg _ (by omega))
theorem eu_down (h : (eu v w k).2 ≠ 0) : (eu v w (k + 1)).2 < (eu v w k).2 := by
  have h1 := eu_s2 h
  have h2 := Int.emod_lt_of_pos (eu v w k).1 (b := ((eu v w k).2 : Int)) (by omega)
  omega
theorem least_of {P : Nat → Prop} (hd : ∀ k, P k ∨ ¬ P k) : ∀ k, P k → ∃ n, P n ∧ ∀ j, j < n → ¬ P j := by
  intro k
  induction k using Nat.strongRecOn with
  | ind k ih =>
    intro hk
    by_cases h : ∃ j, j < k ∧ P j
    · obtain ⟨j, h1, h2⟩ := h
      exact ih j h1 h2
    · exact ⟨k, hk, fun j hj hp => h ⟨j, hj, hp⟩⟩
theorem chn_of (hw : w ≠ 0) (hg : Int.gcd v (w : Int) = 1) : ∃ n, Chn v w n := by
  have h1 : ∃ k, (eu v w k).2 = 0 := by
    by_cases h : ∃ k, (eu v w k).2 = 0
    · exact h
    · exfalso
      have h2 : ∀ k, (eu v w k).2 + k ≤ w := by
        intro k
        induction k with
        | zero => exact Nat.le_refl _
        | succ k ih =>
          have := eu_down (v := v) (w := w) (k := k) (fun e => h ⟨k, e⟩)
          omega
      have := h2 (w + 1)
      omega
  obtain ⟨k, hk⟩ := h1
  obtain ⟨n, hn, hl⟩ := least_of (P := fun k => (eu v w k).2 = 0) (fun k => Decidable.em _) k hk
  exact ⟨n, fun e => by subst e; exact hw hn, hn, hl, hg⟩
theorem Chn.gcd (h : Chn v w n) : ∀ k, k ≤ n → Int.gcd (eu v w k).1 ((eu v w k).2 : Int) = 1 := by
  intro k
  induction k with
  | zero => intro _; exact h.g
  | succ k ih =>
    intro hk
    have h1 := ih (by omega)
    rw [eu_s1, eu_s2 (h.lt k (by omega)), Int.gcd_comm, ← h1]
    have e := Int.mul_ediv_add_emod (eu v w k).1 ((eu v w k).2 : Int)
    generalize (eu v w k).1 / ((eu v w k).2 : Int) = q at e
    rw [← e, Int.add_comm, Int.gcd_add_mul_left_left, Int.add_comm, e]
theorem Chn.fall (h : Chn v w n) (hk : k + 1 < n) : ((eu v w (k + 1)).2 : Int) < (eu v w (k + 1)).1 := by
  have := eu_down (h.lt k (by omega))
  rw [eu_s1]
  omega
theorem Chn.pos (h : Chn v w n) (hk : k + 1 < n) : 0 < eqt v w (k + 1) := by
  have h1 := h.fall hk
  have h2 := h.lt (k + 1) hk
  unfold eqt
  exact Int.le_ediv_of_mul_le (by omega) (by omega)
theorem Chn.one (h : Chn v w n) (hk : k + 1 = n) : (eu v w k).2 = 1 := by
  have h1 := h.gcd n (Nat.le_refl _)
  subst hk
  rw [h.z] at h1
  have h2 : Int.gcd ((eu v w k).2 : Int) ((0 : Nat) : Int) = 1 := h1
  rwa [show ((0 : Nat) : Int) = 0 from rfl, Int.gcd_zero_right, Int.natAbs_natCast] at h2
theorem Chn.last (h : Chn v w n) (hk : k + 2 = n) : 1 < eqt v w (k + 1) := by
  have h1 := h.fall (k := k) (by omega)
  have h2 := h.one (k := k + 1) (by omega)
  unfold eqt
  rw [h2] at h1 ⊢
  rw [show ((1 : Nat) : Int) = 1 from rfl, Int.ediv_one]
  omega
theorem eu_len (h1 : lenV v ≤ 1048600) (h2 : lenV (w : Int) ≤ 1048600) (h : ∀ j, j < k → (eu v w j).2 ≠ 0) : lenV (eu v w k).1 ≤ 1048600 ∧ lenV ((eu v w k).2 : Int) ≤ 1048600 := by
  induction k with
  | zero => exact ⟨h1, h2⟩
  | succ k ih =>
    have i := ih fun j hj => h j (by omega)
    have hd := eu_down (h k (by omega))
    exact ⟨i.2, Nat.le_trans (lenV_mono (w := ((eu v w k).2 : Int)) (by omega)) i.2⟩
theorem eqt_len (h1 : lenV v ≤ 1048600) (h2 : lenV (w : Int) ≤ 1048600) (h : ∀ j, j ≤ k → (eu v w j).2 ≠ 0) : lenV (eqt v w k) ≤ 1048601 := by
  have i := (eu_len (k := k) h1 h2 fun j hj => h j (by omega)).1
  have hk := h k (Nat.le_refl _)
  unfold eqt
  generalize (eu v w k).1 = a at *
  generalize (eu v w k).2 = b at *
  have hb : (0 : Int) < (b : Int) := by omega
  have hn : ((a / (b : Int)).natAbs) ≤ a.natAbs + 1 := by
    rcases Int.lt_or_le a 0 with ha | ha
    · have e1 : a / (b : Int) < 0 := Int.ediv_neg_of_neg_of_pos ha hb
      have e2 : a ≤ a / (b : Int) := by
        refine Int.le_ediv_of_mul_le hb ?_
        have := Int.mul_le_mul_of_nonpos_left (a := a) (b := (b : Int)) (c := 1) (by omega) (by omega)
        omega
      omega
    · have e1 : 0 ≤ a / (b : Int) := Int.ediv_nonneg ha (by omega)
      have e2 : a / (b : Int) ≤ a := Int.ediv_le_self _ ha
      omega
  have h5 : lenV (1 : Int) = 1 := by decide
  have h6 : lenV (-1 : Int) = 1 := by decide
  rcases Int.lt_or_le a 0 with ha | ha
  · have h3 := lenV_add a (-1)
    exact Nat.le_trans (lenV_mono (w := a + -1) (by omega)) (by omega)
  · have h3 := lenV_add a 1
    exact Nat.le_trans (lenV_mono (w := a + 1) (by omega)) (by omega)
theorem Chn.half (h : Chn v w n) : ∀ k, k + 1 < n → 2 ^ k * ((eu v w (k + 1)).1.toNat * (eu v w (k + 1)).2) ≤ w * w := by
  intro k
  induction k with
  | zero =>
    intro hk
    have := eu_down (h.lt 0 (by omega))
    rw [Nat.pow_zero, Nat.one_mul, eu_s1, Int.toNat_natCast]
    exact Nat.mul_le_mul (Nat.le_refl _) (Nat.le_of_lt this)
  | succ k ih =>
    intro hk
    refine Nat.le_trans ?_ (ih (by omega))
    have hf := h.fall (k := k) (by omega)
    have hb := h.lt (k + 1) (by omega)
    have hs := eu_s2 hb
    rw [eu_s1 (k := k + 1), Int.toNat_natCast]
    generalize (eu v w (k + 1 + 1)).2 = r at *
    generalize (eu v w (k + 1)).1 = a at *
    generalize (eu v w (k + 1)).2 = b at *
    have hq : 1 ≤ a / (b : Int) := Int.le_ediv_of_mul_le (by omega) (by omega)
    have hd := Int.mul_ediv_add_emod a (b : Int)
    have hm : (b : Int) * 1 ≤ (b : Int) * (a / (b : Int)) := Int.mul_le_mul_of_nonneg_left hq (by omega)
    have hr := Int.emod_lt_of_pos a (b := (b : Int)) (by omega)
    have h2 : 2 * r ≤ a.toNat := by omega
    rw [Nat.pow_succ, Nat.mul_assoc]
    refine Nat.mul_le_mul_left _ ?_
    calc 2 * (b * r) = 2 * r * b := by rw [Nat.mul_comm b r, Nat.mul_assoc]
      _ ≤ a.toNat * b := Nat.mul_le_mul_right _ h2
theorem Chn.len (h : Chn v w n) (hw : lenV (w : Int) ≤ 1048600) : n ≤ 2097300 := by
  rcases Nat.lt_or_ge n 3 with h3 | h3
  · omega
  · obtain ⟨m, rfl⟩ : ∃ m, n = m + 2 := ⟨n - 2, by omega⟩
    have h1 := h.half m (by omega)
    have hb := h.lt (m + 1) (by omega)
    have hf := h.fall (k := m) (by omega)
    have hp : 1 ≤ (eu v w (m + 1)).1.toNat * (eu v w (m + 1)).2 := Nat.mul_pos (by omega) (by omega)
    have h2 : 2 ^ m ≤ w * w := Nat.le_trans (by rw [Nat.mul_one]; exact Nat.le_refl _) (Nat.le_trans (Nat.mul_le_mul_left (2 ^ m) hp) h1)
    obtain ⟨K, hK⟩ : ∃ K, K = 1048600 := ⟨_, rfl⟩
    rw [← hK] at hw
    have h4 : w < 2 ^ K := by have := nbits_le.1 hw; rwa [Int.natAbs_natCast] at this
    have h5 : w * w < 2 ^ (K + K) := by
      rw [Nat.pow_add]
      exact Nat.mul_lt_mul'' h4 h4
    have h6 : m < K + K := (Nat.pow_lt_pow_iff_right (by decide : 1 < 2)).1 (Nat.lt_of_le_of_lt h2 h5)
    omega
theorem cfR_s : cfR v w (k + 1) = cfR v w k ++ [wrow (eqt v w k)] := by unfold cfR; rw [List.range_succ, List.map_append]; rfl
theorem cfR_len : (cfR v w k).length = k := by unfold cfR; rw [List.length_map, List.length_range]
theorem cfR_at {i : Nat} (h : i < k) : (cfR v w k)[i]? = some (wrow (eqt v w i)) := by
  unfold cfR
  rw [List.getElem?_map, List.getElem?_range h]
  rfl
theorem cfR_row : ∀ r ∈ cfR v w k, r.length = 2 := fun r h => by
  unfold cfR at h
  obtain ⟨i, _, rfl⟩ := List.mem_map.1 h
  rfl
theorem cfR_pure : ∀ r ∈ cfR v w k, r.all pureV = true := fun r h => by
  unfold cfR at h
  obtain ⟨i, _, rfl⟩ := List.mem_map.1 h
  rfl
theorem cfR_flat : (cfR v w k).flatten.length = k * 2 := by
  induction k with
  | zero => rfl
  | succ k ih => rw [cfR_s, List.flatten_append, List.length_append, ih]; show k * 2 + 2 = _; omega
theorem cfR_snoc : (cfR v w (k + 1)).flatten = (cfR v w k).flatten ++ wrow (eqt v w k) := by rw [cfR_s, List.flatten_append]; rfl
theorem cfR_id (n : Nat) : (cfR v w k).flatten.all (idB n) = true := by
  induction k with
  | zero => rfl
  | succ k ih => rw [cfR_snoc, List.all_append, ih]; rfl
theorem can_of {a : Int} {b : Nat} {Z : Int} {W : Nat} (hg : Int.gcd a (b : Int) = 1) (hb : b ≠ 0) (hW : W ≠ 0) (h : Z * (b : Int) = a * (W : Int)) : decide (Z < 0) = decide (a < 0) ∧ lm ((nn Z W : Nat) : Int) = lm a ∧ dd Z W = b := by
  have h1 : Nat.gcd a.natAbs b = 1 := hg
  have h2 := congrArg Int.natAbs h
  rw [Int.natAbs_mul, Int.natAbs_mul, Int.natAbs_natCast, Int.natAbs_natCast] at h2
  have h3 := low_of h1 hb hW h2.symm
  refine ⟨?_, ?_, h3.2.symm⟩
  · have hbp : (0 : Int) < (b : Int) := by omega
    have hWp : (0 : Int) < (W : Int) := by omega
    rw [decide_eq_decide]
    constructor
    · intro hz
      have := Int.mul_neg_of_neg_of_pos hz hbp
      rw [h] at this
      exact Int.not_le.1 fun ha => absurd (Int.mul_nonneg ha (by omega : (0 : Int) ≤ (W : Int))) (by omega)
    · intro ha
      have := Int.mul_neg_of_neg_of_pos ha hWp
      rw [← h] at this
      exact Int.not_le.1 fun hz => absurd (Int.mul_nonneg hz (by omega : (0 : Int) ≤ (b : Int))) (by omega)
  · rw [← h3.1]; unfold lm; rw [Int.natAbs_natCast]
theorem eu_sum (h : (eu v w k).2 ≠ 0) : (eu v w k).1 = eqt v w k * ((eu v w k).2 : Int) + ((eu v w (k + 1)).2 : Int) := by
  rw [eu_s2 h]
  unfold eqt
  have := Int.mul_ediv_add_emod (eu v w k).1 ((eu v w k).2 : Int)
  rw [Int.mul_comm] at this
  omega
theorem wq1_div {a : Int} {b : Nat} (hb : b ≠ 0) : wq 1 a (b : Int) = a / (b : Int) ∧ a - wq 1 a (b : Int) * (b : Int) = a % (b : Int) := by
  have h1 := (flo_rest (v := a) (w := (b : Int)) (by omega))
  have h2 : 0 ≤ frs a (b : Int) ∧ frs a (b : Int) < (b : Int) := by
    obtain ⟨hx, h0, h1, h2⟩ := qr_facts (v := a) (w := (b : Int)) (by omega)
    rw [Int.natAbs_natCast] at h1
    unfold frs sgd
    rw [decide_eq_false (by omega)]
    simp only [Bool.false_eq_true, if_false, Int.natAbs_natCast]
    split <;> omega
  have h3 : wq 1 a (b : Int) = flo a (b : Int) := rfl
  have h5 : a / (b : Int) = flo a (b : Int) := by
    have hp : (0 : Int) < (b : Int) := by omega
    refine Int.le_antisymm ?_ ?_
    · refine Int.lt_add_one_iff.1 (Int.ediv_lt_of_lt_mul hp ?_)
      rw [Int.add_mul, Int.one_mul]; omega
    · exact Int.le_ediv_of_mul_le hp (by omega)
  refine ⟨by rw [h3, h5], ?_⟩
  have := Int.mul_ediv_add_emod a (b : Int)
  rw [h3, ← h5]
  rw [Int.mul_comm] at this
  omega
end Go.Proofs.YtpldmajdiljoaaaGreat.Vc
