/- RatioRings: for every two rationals of bulk at most 1048576 it returns true Texts joined: Za, Qf, Zb, Zc, Zd, Zf, Zg, Zh, Zi, Zj, Zo, Qg, Qh, Qi, Qj, Qk, Ql, Qn, Qo, Qp, Qs, Qt, Qu, Qv, Qw, Qx, Sa, Sc, Se, Sf, Sg, Sh, Si, Sk, Sm, Sn, So, Sp, Xb, Xc, Xd, Xe, Xf, Xg, Xh, Xi, Xj, Xja, Ra. -/
import Derived.Test.YtpldmajdiljoaaaGreatK7
set_option linter.unusedVariables false
set_option linter.unusedSimpArgs false
set_option maxHeartbeats 4000000
namespace Go.Proofs.YtpldmajdiljoaaaGreat.Vc
open Go Go.RowKit
theorem mfits_l (l : List Int) (hl : l.length < 1099511627776) (hu : u64s l) : Spec Tryz.prog 115 [.n false .u64 l] (fun o => ∃ (r : List Int) (e : Int), o = .ret (.t [.n true .u64 r, .i .i64 e]) ∧ ErrL (vl l) r e) := by
  refine spec_of' [(0, .n false .u64 l)] rfl Tryz.func115 rfl (zlb rfl) fun Γ hN hds hL hR => ?_
  have hd := hdOf 10 hN
  have hm := trm_len l
  refine zsr <| zas rfl (hd 2 rfl) <| zas rfl (hd 3 rfl) <| jo_nil <| zsr <| zmv rfl (hd 4 rfl) ?_
  refine jo_call Tryz.f51 (Norm_s l hl) rfl Tryz.func51 rfl rfl (ovL_cons rfl ovL_nil) (.cons .n .nil) (hd 5 rfl) ?_ (fun ch hp => by simp at hp)
  rintro _ ⟨⟩; refine zas rfl (hd 0 rfl) <| jo_nil <| jc_seq <| zsr <| zmv rfl (hd 6 rfl) ?_
  refine jo_call Tryz.f39 (Length_s (trm l) (by omega) (u64s_trm hu)) rfl Tryz.func39 rfl rfl (ovL_cons rfl ovL_nil) (.cons .n .nil) (hd 7 rfl) ?_ (fun ch hp => by simp at hp)
  rintro _ ⟨⟩; refine jo_l (ly_gt rfl rfl) (hd 8 rfl) <| jo_nil ?_
  refine jc_if rfl (fun h1 => ?_) (fun h1 => ?_)
  · refine zsr <| zas rfl (hd 2 rfl) <| zas rfl (hd 3 rfl) <| jo_nil <| jc_ret ?_
    refine ⟨_, _, (.cons rfl (.cons rfl .nil)), (.t1 (.nil (fr := true) (k := .u64)) (.t1 .i .t0)), ?_⟩
    exact ⟨[], 3, rfl, errL_big hu rfl (by rw [lenN_trm] at *; omega)⟩
  · refine jc_skip <| zsr <| zmv rfl (hd 9 rfl) <| zas rfl (hd 2 rfl) <| zas rfl (hd 3 rfl) <| jo_nil <| jc_ret ?_
    refine ⟨_, _, (.cons rfl (.cons rfl .nil)), (.t1 .n (.t1 .i .t0)), ?_⟩
    exact ⟨_, 0, rfl, errL_ok hu rfl (by rw [lenN_trm] at *; omega)⟩

theorem product_l (a b : List Int) (hla : a.length < 4294967296) (hlb : b.length < 4294967296) (ua : u64s a) (ub : u64s b) : Spec Tryz.prog 88 [.n false .u64 a, .n false .u64 b, .f 89 []] (fun o => ∃ (r : List Int) (e : Int), o = .ret (.t [.n true .u64 r, .i .i64 e]) ∧ ErrL (vl a * vl b) r e) := by
  refine spec_of' [(0, .n false .u64 a), (1, .n false .u64 b), (2, .f 89 [])] rfl Tryz.func88 rfl (zlb rfl) fun Γ hN hds hL hR => ?_
  have hd := hdOf 22 hN
  have hma := trm_len a
  have hmb := trm_len b
  refine zsr <| zas rfl (hd 6 rfl) <| zas rfl (hd 7 rfl) <| jo_nil <| zsr <| zmv rfl (hd 8 rfl) ?_
  refine jo_call Tryz.f51 (Norm_s a (by omega)) rfl Tryz.func51 rfl rfl (ovL_cons rfl ovL_nil) (.cons .n .nil) (hd 9 rfl) ?_ (fun ch hp => by simp at hp)
  rintro _ ⟨⟩; refine zmv rfl (hd 10 rfl) ?_
  refine jo_call Tryz.f51 (Norm_s b (by omega)) rfl Tryz.func51 rfl rfl (ovL_cons rfl ovL_nil) (.cons .n .nil) (hd 11 rfl) ?_ (fun ch hp => by simp at hp)
  rintro _ ⟨⟩; refine zas rfl (hd 0 rfl) <| zas rfl (hd 1 rfl) <| jo_nil <| jc_seq <| zsr <| zmv rfl (hd 12 rfl) <| zmv rfl (hd 13 rfl) ?_
  refine jo_call Tryz.f114 (great_e (trm a) (trm b) (by omega) (by omega) (u64s_trm ua) (u64s_trm ub)) rfl Tryz.func114 rfl rfl (ovL_cons rfl (ovL_cons rfl ovL_nil)) (.cons .n (.cons .n .nil)) (hd 14 rfl) ?_ (fun ch hp => by simp at hp)
  rintro y ⟨x, hy, hx⟩; injection hy with hy; subst hy; refine jo_nil ?_
  refine jc_cond rfl (fun h1 => ?_) (fun h1 => ?_)
  · refine zsr <| zas rfl (hd 6 rfl) <| zas rfl (hd 7 rfl) <| jo_nil <| jc_ret ?_
    refine ⟨_, _, (.cons rfl (.cons rfl .nil)), (.t1 (.nil (fr := true) (k := .u64)) (.t1 .i .t0)), ?_⟩
    refine ⟨[], 3, rfl, ?_⟩
    obtain ⟨g1, g2, g3⟩ := hx (by assumption)
    have := errN_great (r := []) (u64s_trm ua) (u64s_trm ub) g1 g2 g3
    rw [vl_trm, vl_trm] at this
    exact errL_of this
  · refine jc_skip <| zsr <| zmv rfl (hd 15 rfl) <| zmv rfl (hd 16 rfl) <| zmv rfl (hd 17 rfl) ?_
    refine jo_call Tryz.f89 (way_s (trm a) (trm b) (by omega) (by omega) (u64s_trm ua) (u64s_trm ub)) rfl Tryz.func89 rfl rfl (ovL_cons rfl (ovL_cons rfl ovL_nil)) (.cons .n (.cons .n .nil)) (hd 18 rfl) ?_ (fun ch hp => by simp at hp)
    rintro y ⟨rs, hy, us, ls, vs⟩; injection hy with hy; subst hy
    refine jo_call Tryz.f115 (mfits_l rs (by omega) us) rfl Tryz.func115 rfl rfl (ovL_cons rfl ovL_nil) (.cons .n .nil) (hd 19 rfl) ?_ (fun ch hp => by simp at hp)
    rintro y ⟨rf, ef, hy, hf⟩; injection hy with hy; subst hy; refine jo_l (ly_ext rfl rfl) (hd 20 rfl) <| jo_l (ly_ext rfl rfl) (hd 21 rfl) <| zas rfl (hd 6 rfl) <| zas rfl (hd 7 rfl) <| jo_nil <| jc_ret ?_
    refine ⟨_, _, (.cons rfl (.cons rfl .nil)), (.t1 .n (.t1 .i .t0)), ?_⟩
    exact ⟨rf, ef, rfl, by rwa [vs, vl_trm, vl_trm] at hf⟩

theorem Mul_l (a b : List Int) (hla : a.length < 4294967296) (hlb : b.length < 4294967296) (ua : u64s a) (ub : u64s b) : Spec Tryz.prog 41 [.n false .u64 a, .n false .u64 b] (fun o => ∃ (r : List Int) (e : Int), o = .ret (.t [.n true .u64 r, .i .i64 e]) ∧ ErrL (vl a * vl b) r e) := by
  refine spec_of' [(0, .n false .u64 a), (1, .n false .u64 b)] rfl Tryz.func41 rfl (zlb rfl) fun Γ hN hds hL hR => ?_
  have hd := hdOf 11 hN
  refine zsr <| zas rfl (hd 4 rfl) <| zas rfl (hd 5 rfl) <| jo_nil <| zsr <| zmv rfl (hd 6 rfl) <| zmv rfl (hd 7 rfl) ?_
  refine jo_call Tryz.f88 (product_l a b hla hlb ua ub) rfl Tryz.func88 rfl rfl (ovL_cons rfl (ovL_cons rfl (ovL_cons rfl ovL_nil))) (.cons .n (.cons .n (.cons .f .nil))) (hd 8 rfl) ?_ (fun ch hp => by simp at hp)
  rintro y ⟨rp, ep, hy, hp⟩; injection hy with hy; subst hy; refine jo_l (ly_ext rfl rfl) (hd 9 rfl) <| jo_l (ly_ext rfl rfl) (hd 10 rfl) <| zas rfl (hd 4 rfl) <| zas rfl (hd 5 rfl) <| jo_nil <| jc_ret ?_
  refine ⟨_, _, (.cons rfl (.cons rfl .nil)), (.t1 .n (.t1 .i .t0)), ?_⟩
  exact ⟨rp, ep, rfl, hp⟩


theorem Both_r (l : List Int) (w : Int) (hl : l.length ≤ 1048576) (hu : u64s l) (hw : lenV w ≤ 67108864) (h0 : w ≠ 0) : Spec Tryz.prog 121 [.n false .u64 l, .n false .u64 (lm w)] (fun o => o = .ret (.t [.n false .u64 (lm (qn (vl l) w)), .n false .u64 (lm (rn (vl l) w)), .i .i64 0])) := by
  refine spec_of' [(0, .n false .u64 l), (1, .n false .u64 (lm w))] rfl Tryz.func121 rfl (zlb rfl) fun Γ hN hds hL hR => ?_
  have hd := hdOf 32 hN
  have hv : lenV (vl l) ≤ 67108864 := by have := lenV_64 (s := false) hu; have e : sv false l = vl l := rfl; rw [e] at this; omega
  have hlw := lenV_lm hw
  have hle := lenV_mono (v := qn (vl l) w) (w := vl l) qn_le
  have hlr := lenV_mono (v := rn (vl l) w) (w := w) (rn_le h0).1
  have hlq := lenV_lm (v := qn (vl l) w) (by omega)
  have hlR := lenV_lm (v := rn (vl l) w) (by omega)
  have hne := lm_ne h0
  have hlv := lenV_lm hv
  have hNl : Spec Tryz.prog 51 [.n false .u64 l] (fun o => o = .ret (.n true .u64 (lm (vl l)))) := by have h := Norm_s l (by omega); rwa [trm_lm hu rfl] at h
  refine zsr <| zas rfl (hd 4 rfl) <| zas rfl (hd 5 rfl) <| zas rfl (hd 6 rfl) <| jo_nil <| zsr <| zmv rfl (hd 9 rfl) ?_
  refine jo_call Tryz.f51 (hNl) rfl Tryz.func51 rfl rfl (ovL_cons rfl ovL_nil) (.cons .n .nil) (hd 10 rfl) ?_ (fun ch hp => by simp at hp)
  rintro _ ⟨⟩; refine zmv rfl (hd 11 rfl) ?_
  refine jo_call Tryz.f51 (Norm_v w (by omega)) rfl Tryz.func51 rfl rfl (ovL_cons rfl ovL_nil) (.cons .n .nil) (hd 12 rfl) ?_ (fun ch hp => by simp at hp)
  rintro _ ⟨⟩; refine zas rfl (hd 0 rfl) <| zas rfl (hd 1 rfl) <| jo_nil <| jc_seq <| zsr <| zmv rfl (hd 13 rfl) <| jo_l (ly_lenn sl28 rfl) (hd 14 rfl) <| jo_l (ly_ff (ly_eq rfl rfl) (fun h => hne (List.eq_nil_of_length_eq_zero (by omega)))) (hd 15 rfl) <| jo_nil <| jc_litf rfl <| jc_skip <| jc_seq ?_; refine jc_region <| zmv rfl (hd 17 rfl) <| zmv rfl (hd 18 rfl) ?_
  refine jo_call Tryz.f80 (divide_v (vl l) w (by omega) (by omega) h0) rfl Tryz.func80 rfl rfl (ovL_cons rfl (ovL_cons rfl ovL_nil)) (.cons .n (.cons .n .nil)) (hd 19 rfl) ?_ (fun ch hp => by simp at hp)
  rintro _ ⟨⟩; refine zmv rfl (hd 16 rfl) <| jo_l (ly_ext rfl rfl) (hd 20 rfl) <| jo_l (ly_ext rfl rfl) (hd 21 rfl) <| zas rfl (hd 7 rfl) <| zas rfl (hd 8 rfl) <| jo_nil <| jc_seq <| zsr <| zmv rfl (hd 22 rfl) ?_
  refine jo_call Tryz.f39 (Length_v (qn (vl l) w) (by omega)) rfl Tryz.func39 rfl rfl (ovL_cons rfl ovL_nil) (.cons .n .nil) (hd 23 rfl) ?_ (fun ch hp => by simp at hp)
  rintro _ ⟨⟩; refine jo_l (ly_ff (ly_gt rfl rfl) (by omega)) (hd 24 rfl) <| zmv rfl (hd 25 rfl) <| jo_g 25 rfl rfl (ly_mv rfl) (hd 26 rfl) ?_
  refine jo_callg Tryz.f39 25 rfl rfl (Length_v (rn (vl l) w) (by omega)) rfl Tryz.func39 rfl rfl (ovL_cons rfl ovL_nil) (.cons .n .nil) (hd 27 rfl) ?_ (fun ch hp => by simp at hp)
  rintro _ ⟨⟩; refine jo_g 25 rfl rfl (ly_ff (ly_gt rfl rfl) (by omega)) (hd 28 rfl) <| jo_l (ly_pick_f rfl rfl) (hd 29 rfl) <| jo_nil <| jc_litf rfl <| jc_skip <| zsr <| zmv rfl (hd 30 rfl) <| zmv rfl (hd 31 rfl) <| zas rfl (hd 4 rfl) <| zas rfl (hd 5 rfl) <| zas rfl (hd 6 rfl) <| jo_nil ?_; refine jc_ret ?_
  refine ⟨_, _, (.cons rfl (.cons rfl (.cons rfl .nil))), (.t1 .n (.t1 .n (.t1 .i .t0))), ?_⟩
  exact rfl

theorem Square_l (a : List Int) (hla : a.length < 67108864) (ua : u64s a) : Spec Tryz.prog 102 [.n false .u64 a] (fun o => ∃ (r : List Int) (e : Int), o = .ret (.t [.n true .u64 r, .i .i64 e]) ∧ ErrL (vl a * vl a) r e) := by
  refine spec_of' [(0, .n false .u64 a)] rfl Tryz.func102 rfl (zlb rfl) fun Γ hN hds hL hR => ?_
  have hd := hdOf 9 hN
  refine zsr <| zas rfl (hd 2 rfl) <| zas rfl (hd 3 rfl) <| jo_nil <| zsr <| zmv rfl (hd 4 rfl) <| zmv rfl (hd 5 rfl) ?_
  refine jo_call Tryz.f41 (Mul_l a a (by omega) (by omega) ua ua) rfl Tryz.func41 rfl rfl (ovL_cons rfl (ovL_cons rfl ovL_nil)) (.cons .n (.cons .n .nil)) (hd 6 rfl) ?_ (fun ch hp => by simp at hp)
  rintro y ⟨rp, ep, hy, hp⟩; injection hy with hy; subst hy; refine jo_l (ly_ext rfl rfl) (hd 7 rfl) <| jo_l (ly_ext rfl rfl) (hd 8 rfl) <| zas rfl (hd 2 rfl) <| zas rfl (hd 3 rfl) <| jo_nil <| jc_ret ?_
  refine ⟨_, _, (.cons rfl (.cons rfl .nil)), (.t1 .n (.t1 .i .t0)), ?_⟩
  exact ⟨rp, ep, rfl, hp⟩




theorem fits_l (s : Bool) (l : List Int) (v : Int) (hl : l.length < 1099511627776) (hu : u64s l) (hv : sv s l = v) : Spec Tryz.prog 110 [.a [.b s, .n false .u64 l]] (fun o => ∃ (s2 : Bool) (r : List Int) (e : Int), o = .ret (.t [.a [.b s2, .n true .u64 r], .i .i64 e]) ∧ Res (v) s2 r e) := by
  refine spec_of' [(0, .a [.b s, .n false .u64 l])] rfl Tryz.func110 rfl (zlb rfl) fun Γ hN hds hL hR => ?_
  have hd := hdOf 11 hN
  refine zsr <| jo_h (hy_box (id := 0) (n := 2) rfl rfl rfl (by decide) rfl) (hd 1 rfl) <| jo_h (hy_alloc (id := 1) zero30 (by decide) rfl (by decide) rfl) (hd 2 rfl) <| zas rfl (hd 3 rfl) <| jo_nil <| jc_seq <| zsr <| jo_l (ly_fa fld30_1 rfl rfl rfl) (hd 4 rfl) <| jo_l (ly_ld one28 rfl rfl rfl) (hd 5 rfl) ?_
  refine jo_call Tryz.f39 (Length_s l hl hu) rfl Tryz.func39 rfl rfl (ovL_cons rfl ovL_nil) (.cons .n .nil) (hd 6 rfl) ?_ (fun ch hp => by simp at hp)
  rintro _ ⟨⟩; refine jo_l (ly_gt rfl rfl) (hd 7 rfl) <| jo_nil ?_
  refine jc_if rfl (fun h1 => ?_) (fun h1 => ?_)
  · refine zsr <| jo_l (ly_build (is := []) (xs := []) (pls := []) zero30 pls30_ rfl ovL_nil rfl trivial (all_of rfl) rfl) (hd 8 rfl) <| jo_st (sy_store rfl rfl rfl siz30 rfl rfl (zlb rfl)) <| zas rfl (hd 3 rfl) <| jo_nil <| jc_ret ?_
    refine ⟨_, _, (.cons (ResV.cell agg30 rfl rfl rfl rfl) (.cons rfl .nil)), (.t1 (.a1 .b (.a1 (.nil (fr := true) (k := .u64)) .a0)) (.t1 .i .t0)), ?_⟩
    exact ⟨false, [], 3, rfl, res_big hu hv (by omega)⟩
  · refine jc_skip <| zsr <| jo_l (ly_lda agg30 rfl rfl rfl rfl) (hd 9 rfl) ?_
    refine jo_call Tryz.f82 (norm_s s l hl) rfl Tryz.func82 rfl rfl (ovL_cons rfl ovL_nil) (.cons (.a1 .b (.a1 .n .a0)) .nil) (hd 10 rfl) ?_ (fun ch hp => by simp at hp)
    rintro _ ⟨⟩; refine jo_st (sy_store rfl rfl rfl siz30 rfl rfl (zlb rfl)) <| zas rfl (hd 3 rfl) <| jo_nil <| jc_ret ?_
    refine ⟨_, _, (.cons (ResV.cell agg30 rfl rfl rfl rfl) (.cons rfl .nil)), (.t1 (.a1 .b (.a1 .n .a0)) (.t1 .i .t0)), ?_⟩
    exact ⟨_, _, 0, rfl, res_ok hu hv (by omega)⟩

theorem result_l (s : Bool) (l : List Int) (e v : Int) (hRs : ResN v s l e) : Spec Tryz.prog 81 [.b s, .n false .u64 l, .i .i64 e] (fun o => ∃ (s2 : Bool) (r : List Int) (e : Int), o = .ret (.t [.a [.b s2, .n true .u64 r], .i .i64 e]) ∧ Res (v) s2 r e) := by
  refine spec_of' [(0, .b s), (1, .n false .u64 l), (2, .i .i64 e)] rfl Tryz.func81 rfl (zlb rfl) fun Γ hN hds hL hR => ?_
  have hd := hdOf 18 hN
  refine zsr <| jo_h (hy_alloc (id := 0) zero30 (by decide) rfl (by decide) rfl) (hd 6 rfl) <| zas rfl (hd 7 rfl) <| jo_nil <| jc_seq <| zsr <| zmv rfl (hd 8 rfl) <| jo_l (ly_ne rfl rfl) (hd 9 rfl) <| jo_nil ?_
  refine jc_if rfl (fun h1 => ?_) (fun h1 => ?_)
  · have hE : e = 3 ∧ 67108864 < lenV v := by
      rcases hRs with ⟨h, _⟩ | h
      · omega
      · exact h
    refine zsr <| jo_l (ly_build (is := []) (xs := []) (pls := []) zero30 pls30_ rfl ovL_nil rfl trivial (all_of rfl) rfl) (hd 10 rfl) <| zmv rfl (hd 11 rfl) <| jo_st (sy_store rfl rfl rfl siz30 rfl rfl (zlb rfl)) <| zas rfl (hd 7 rfl) <| jo_nil <| jc_ret ?_
    refine ⟨_, _, (.cons (ResV.cell agg30 rfl rfl rfl rfl) (.cons rfl .nil)), (.t1 (.a1 .b (.a1 (.nil (fr := true) (k := .u64)) .a0)) (.t1 .i .t0)), ?_⟩
    exact ⟨false, [], e, rfl, .inr ⟨hE.2, rfl, rfl, hE.1⟩⟩
  · have hE : u64s l ∧ l.length < 1099511627776 ∧ sv s l = v := by
      rcases hRs with ⟨_, h⟩ | ⟨h, _⟩
      · exact h
      · omega
    refine jc_skip <| zsr <| zmv rfl (hd 12 rfl) <| zmv rfl (hd 13 rfl) <| jo_l (ly_build (is := [0, 1]) (xs := [.tmp 12, .tmp 13]) zero30 pls30_0_1 rfl (ovL_cons rfl (ovL_cons rfl ovL_nil)) rfl (by first | (simp [plsOk, cellsV]; done) | (simp [plsOk, cellsV, old]; done)) (all_of rfl) rfl) (hd 14 rfl) ?_
    refine jo_call Tryz.f110 (fits_l s l v hE.2.1 hE.1 hE.2.2) rfl Tryz.func110 rfl rfl (ovL_cons rfl ovL_nil) (.cons (.a1 .b (.a1 .n .a0)) .nil) (hd 15 rfl) ?_ (fun ch hp => by simp at hp)
    rintro y ⟨sf, rf, ef, hy, hf⟩; injection hy with hy; subst hy; refine jo_l (ly_ext rfl rfl) (hd 16 rfl) <| jo_l (ly_ext rfl rfl) (hd 17 rfl) <| jo_st (sy_store rfl rfl rfl siz30 rfl rfl (zlb rfl)) <| zas rfl (hd 7 rfl) <| jo_nil <| jc_ret ?_
    refine ⟨_, _, (.cons (ResV.cell agg30 rfl rfl rfl rfl) (.cons rfl .nil)), (.t1 (.a1 .b (.a1 .n .a0)) (.t1 .i .t0)), ?_⟩
    exact ⟨sf, rf, ef, rfl, hf⟩

theorem WMul_l (s t : Bool) (a b : List Int) (hla : a.length < 4294967296) (hlb : b.length < 4294967296) (ua : u64s a) (ub : u64s b) : Spec Tryz.prog 37 [.a [.b s, .n false .u64 a], .a [.b t, .n false .u64 b]] (fun o => ∃ (s2 : Bool) (r : List Int) (e : Int), o = .ret (.t [.a [.b s2, .n true .u64 r], .i .i64 e]) ∧ Res (sv s a * sv t b) s2 r e) := by
  refine spec_of' [(0, .a [.b s, .n false .u64 a]), (1, .a [.b t, .n false .u64 b])] rfl Tryz.func37 rfl (zlb rfl) fun Γ hN hds hL hR => ?_
  have hd := hdOf 26 hN
  have ha0 := vl_nonneg ua
  have hb0 := vl_nonneg ub
  refine zsr <| jo_h (hy_box (id := 0) (n := 2) rfl rfl rfl (by decide) rfl) (hd 2 rfl) <| jo_h (hy_box (id := 1) (n := 2) rfl rfl rfl (by decide) rfl) (hd 3 rfl) <| jo_h (hy_alloc (id := 2) zero30 (by decide) rfl (by decide) rfl) (hd 4 rfl) <| zas rfl (hd 5 rfl) <| jo_nil <| zsr <| jo_l (ly_fa fld30_1 rfl rfl rfl) (hd 9 rfl) <| jo_l (ly_ld one28 rfl rfl rfl) (hd 10 rfl) <| jo_l (ly_fa fld30_1 rfl rfl rfl) (hd 11 rfl) <| jo_l (ly_ld one28 rfl rfl rfl) (hd 12 rfl) ?_
  refine jo_call Tryz.f41 (MulN_e a b hla hlb ua ub) rfl Tryz.func41 rfl rfl (ovL_cons rfl (ovL_cons rfl ovL_nil)) (.cons .n (.cons .n .nil)) (hd 13 rfl) ?_ (fun ch hp => by simp at hp)
  rintro y ⟨rp, ep, hy, hp⟩; injection hy with hy; subst hy; refine zmv rfl (hd 8 rfl) <| jo_l (ly_ext rfl rfl) (hd 14 rfl) <| jo_l (ly_ext rfl rfl) (hd 15 rfl) <| zas rfl (hd 6 rfl) <| zas rfl (hd 7 rfl) <| jo_nil <| zsr <| jo_l (ly_fa fld30_0 rfl rfl rfl) (hd 16 rfl) <| jo_l (ly_ld one4 rfl rfl rfl) (hd 17 rfl) <| jo_l (ly_fa fld30_0 rfl rfl rfl) (hd 18 rfl) <| jo_l (ly_ld one4 rfl rfl rfl) (hd 19 rfl) <| jo_l (ly_neb und4 rfl rfl) (hd 20 rfl) ?_; refine zmv rfl (hd 21 rfl) <| zmv rfl (hd 22 rfl) ?_
  refine jo_call Tryz.f81 (result_l (!(s == t)) rp ep (sv s a * sv t b) (resN_of hp (Int.mul_nonneg ha0 hb0) (fun q uq hq => sv_mul hq))) rfl Tryz.func81 rfl rfl (ovL_cons rfl (ovL_cons rfl (ovL_cons rfl ovL_nil))) (.cons .b (.cons .n (.cons .i .nil))) (hd 23 rfl) ?_ (fun ch hp => by simp at hp)
  rintro y ⟨sr, rr, er, hy, hr⟩; injection hy with hy; subst hy; refine jo_l (ly_ext rfl rfl) (hd 24 rfl) <| jo_l (ly_ext rfl rfl) (hd 25 rfl) <| jo_st (sy_store rfl rfl rfl siz30 rfl rfl (zlb rfl)) <| zas rfl (hd 5 rfl) <| jo_nil <| jc_ret ?_
  refine ⟨_, _, (.cons (ResV.cell agg30 rfl rfl rfl rfl) (.cons rfl .nil)), (.t1 (.a1 .b (.a1 .n .a0)) (.t1 .i .t0)), ?_⟩
  exact ⟨sr, rr, er, rfl, hr⟩

theorem WAdd_l (s t : Bool) (a b : List Int) (hla : a.length < 4294967296) (hlb : b.length < 4294967296) (ua : u64s a) (ub : u64s b) : Spec Tryz.prog 38 [.a [.b s, .n false .u64 a], .a [.b t, .n false .u64 b]] (fun o => ∃ (s2 : Bool) (r : List Int) (e : Int), o = .ret (.t [.a [.b s2, .n true .u64 r], .i .i64 e]) ∧ Res (sv s a + sv t b) s2 r e) := by
  refine spec_of' [(0, .a [.b s, .n false .u64 a]), (1, .a [.b t, .n false .u64 b])] rfl Tryz.func38 rfl (zlb rfl) fun Γ hN hds hL hR => ?_
  have hd := hdOf 57 hN
  have hma := trm_len a
  have hmb := trm_len b
  have hcv := cmpL_val (u64s_trm ua) (u64s_trm ub)
  rw [trm_trm, trm_trm] at hcv
  have ea1 := sv_norm (s := s) ua
  have eb1 := sv_norm (s := t) ub
  have ha0 := vl_nonneg (u64s_trm ua)
  have hb0 := vl_nonneg (u64s_trm ub)
  refine zsr <| jo_h (hy_box (id := 0) (n := 2) rfl rfl rfl (by decide) rfl) (hd 2 rfl) <| jo_h (hy_box (id := 1) (n := 2) rfl rfl rfl (by decide) rfl) (hd 3 rfl) <| jo_h (hy_alloc (id := 2) zero30 (by decide) rfl (by decide) rfl) (hd 4 rfl) <| zas rfl (hd 5 rfl) <| jo_nil <| jc_seq <| jc_draw (n := 6) _ rfl mixed <| zal2 0 [1, 3, 4, 5] (lo_l (ly_lda agg30 rfl rfl rfl rfl) (hd 10 rfl)) rfl <| zal2 2 [3, 4, 5] (lo_l (ly_lda agg30 rfl rfl rfl rfl) (hd 12 rfl)) rfl ?_
  refine ja_1 1 ?_ rfl (by kernel_rfl)
  refine js_call Tryz.f82 (norm_s s a (by omega)) rfl Tryz.func82 rfl rfl (ovL_cons rfl ovL_nil) (.cons (.a1 .b (.a1 .n .a0)) .nil) (hd 11 rfl) ?_ (fun ch hp => by simp at hp)
  rintro y hy; injection hy with hy; subst hy
  refine ja_1 3 ?_ rfl (by kernel_rfl)
  refine js_call Tryz.f82 (norm_s t b (by omega)) rfl Tryz.func82 rfl rfl (ovL_cons rfl ovL_nil) (.cons (.a1 .b (.a1 .n .a0)) .nil) (hd 13 rfl) ?_ (fun ch hp => by simp at hp)
  rintro y hy; injection hy with hy; subst hy
  refine ja_1 4 ?_ rfl (by kernel_rfl)
  refine js_st (sy_store rfl rfl rfl siz30 rfl rfl (zlb rfl)) rfl ?_
  refine ja_1 5 ?_ rfl (by kernel_rfl)
  refine js_st (sy_store rfl rfl rfl siz30 rfl rfl (zlb rfl)) rfl <| ja_nil (by kernel_rfl) <| jc_seq <| zsr <| jo_l (ly_fa fld30_0 rfl rfl rfl) (hd 14 rfl) <| jo_l (ly_ld one4 rfl rfl rfl) (hd 15 rfl) <| jo_l (ly_fa fld30_0 rfl rfl rfl) (hd 16 rfl) <| jo_l (ly_ld one4 rfl rfl rfl) (hd 17 rfl) <| jo_l (ly_eqb und4 rfl rfl) (hd 18 rfl) <| jo_nil ?_
  refine jc_cond rfl (fun h1 => ?_) (fun h1 => ?_)
  · refine zsr <| jo_l (ly_fa fld30_1 rfl rfl rfl) (hd 20 rfl) <| jo_l (ly_ld one28 rfl rfl rfl) (hd 21 rfl) <| jo_l (ly_fa fld30_1 rfl rfl rfl) (hd 22 rfl) <| jo_l (ly_ld one28 rfl rfl rfl) (hd 23 rfl) ?_
    refine jo_call Tryz.f83 (AddN_e (trm a) (trm b) (by omega) (by omega) (u64s_trm ua) (u64s_trm ub)) rfl Tryz.func83 rfl rfl (ovL_cons rfl (ovL_cons rfl ovL_nil)) (.cons .n (.cons .n .nil)) (hd 24 rfl) ?_ (fun ch hp => by simp at hp)
    rintro y ⟨ra, ea, hy, ha⟩; injection hy with hy; subst hy; refine zmv rfl (hd 19 rfl) <| jo_l (ly_ext rfl rfl) (hd 25 rfl) <| jo_l (ly_ext rfl rfl) (hd 26 rfl) <| zas rfl (hd 6 rfl) <| zas rfl (hd 7 rfl) <| jo_nil <| zsr <| jo_l (ly_fa fld30_0 rfl rfl rfl) (hd 27 rfl) <| jo_l (ly_ld one4 rfl rfl rfl) (hd 28 rfl) <| zmv rfl (hd 29 rfl) <| zmv rfl (hd 30 rfl) ?_
    refine jo_call Tryz.f81 (result_l (s && decide (0 < ((trm a).length : Int))) ra ea (sv s a + sv t b) (resN_of ha (by omega) (fun q uq hq => add_val (by assumption) hq ea1 eb1))) rfl Tryz.func81 rfl rfl (ovL_cons rfl (ovL_cons rfl (ovL_cons rfl ovL_nil))) (.cons .b (.cons .n (.cons .i .nil))) (hd 31 rfl) ?_ (fun ch hp => by simp at hp)
    rintro y ⟨sr, rr, er, hy, hr⟩; injection hy with hy; subst hy; refine jo_l (ly_ext rfl rfl) (hd 32 rfl) <| jo_l (ly_ext rfl rfl) (hd 33 rfl) <| jo_st (sy_store rfl rfl rfl siz30 rfl rfl (zlb rfl)) <| zas rfl (hd 5 rfl) <| jo_nil <| jc_ret ?_
    refine ⟨_, _, (.cons (ResV.cell agg30 rfl rfl rfl rfl) (.cons rfl .nil)), (.t1 (.a1 .b (.a1 .n .a0)) (.t1 .i .t0)), ?_⟩
    exact ⟨sr, rr, er, rfl, hr⟩
  · refine jc_skip <| jc_seq <| zsr <| jo_l (ly_fa fld30_1 rfl rfl rfl) (hd 34 rfl) <| jo_l (ly_ld one28 rfl rfl rfl) (hd 35 rfl) <| jo_l (ly_fa fld30_1 rfl rfl rfl) (hd 36 rfl) <| jo_l (ly_ld one28 rfl rfl rfl) (hd 37 rfl) ?_
    refine jo_call Tryz.f67 (Compare_s (trm a) (trm b) (by omega) (by omega)) rfl Tryz.func67 rfl rfl (ovL_cons rfl (ovL_cons rfl ovL_nil)) (.cons .n (.cons .n .nil)) (hd 38 rfl) ?_ (fun ch hp => by simp at hp)
    rintro _ ⟨⟩; refine jo_l (ly_lt rfl rfl) (hd 39 rfl) <| jo_nil ?_
    refine jc_if rfl (fun h2 => ?_) (fun h2 => ?_)
    · rw [trm_trm, trm_trm] at h2
      refine jc_region <| jo_l (ly_lda agg30 rfl rfl rfl rfl) (hd 40 rfl) <| jo_l (ly_lda agg30 rfl rfl rfl rfl) (hd 41 rfl) <| jo_st (sy_store rfl rfl rfl siz30 rfl rfl (zlb rfl)) <| jo_st (sy_store rfl rfl rfl siz30 rfl rfl (zlb rfl)) <| jo_nil <| zsr <| jo_l (ly_fa fld30_1 rfl rfl rfl) (hd 43 rfl) <| jo_l (ly_ld one28 rfl rfl rfl) (hd 44 rfl) <| jo_l (ly_fa fld30_1 rfl rfl rfl) (hd 45 rfl) <| jo_l (ly_ld one28 rfl rfl rfl) (hd 46 rfl) ?_
      refine jo_call Tryz.f84 (SubN_e (trm b) (trm a) (by omega) (by omega) (u64s_trm ub) (u64s_trm ua) (by rcases hcv with ⟨c, v⟩ | ⟨c, v⟩ | ⟨c, v⟩ <;> omega)) rfl Tryz.func84 rfl rfl (ovL_cons rfl (ovL_cons rfl ovL_nil)) (.cons .n (.cons .n .nil)) (hd 47 rfl) ?_ (fun ch hp => by simp at hp)
      rintro y ⟨ra, ea, hy, ha⟩; injection hy with hy; subst hy; refine zmv rfl (hd 42 rfl) <| jo_l (ly_ext rfl rfl) (hd 48 rfl) <| jo_l (ly_ext rfl rfl) (hd 49 rfl) <| zas rfl (hd 8 rfl) <| zas rfl (hd 9 rfl) <| jo_nil <| zsr <| jo_l (ly_fa fld30_0 rfl rfl rfl) (hd 50 rfl) <| jo_l (ly_ld one4 rfl rfl rfl) (hd 51 rfl) <| zmv rfl (hd 52 rfl) <| zmv rfl (hd 53 rfl) ?_
      refine jo_call Tryz.f81 (result_l (t && decide (0 < ((trm b).length : Int))) ra ea (sv s a + sv t b) (resN_of ha (by rcases hcv with ⟨c, v⟩ | ⟨c, v⟩ | ⟨c, v⟩ <;> omega) (fun q uq hq => (sub_val (by rw [Bool.beq_comm]; assumption) hq eb1 ea1).trans (Int.add_comm _ _)))) rfl Tryz.func81 rfl rfl (ovL_cons rfl (ovL_cons rfl (ovL_cons rfl ovL_nil))) (.cons .b (.cons .n (.cons .i .nil))) (hd 54 rfl) ?_ (fun ch hp => by simp at hp)
      rintro y ⟨sr, rr, er, hy, hr⟩; injection hy with hy; subst hy; refine jo_l (ly_ext rfl rfl) (hd 55 rfl) <| jo_l (ly_ext rfl rfl) (hd 56 rfl) <| jo_st (sy_store rfl rfl rfl siz30 rfl rfl (zlb rfl)) <| zas rfl (hd 5 rfl) <| jo_nil <| jc_ret ?_
      refine ⟨_, _, (.cons (ResV.cell agg30 rfl rfl rfl rfl) (.cons rfl .nil)), (.t1 (.a1 .b (.a1 .n .a0)) (.t1 .i .t0)), ?_⟩
      exact ⟨sr, rr, er, rfl, hr⟩
    · rw [trm_trm, trm_trm] at h2
      refine jc_skip <| zsr <| jo_l (ly_fa fld30_1 rfl rfl rfl) (hd 43 rfl) <| jo_l (ly_ld one28 rfl rfl rfl) (hd 44 rfl) <| jo_l (ly_fa fld30_1 rfl rfl rfl) (hd 45 rfl) <| jo_l (ly_ld one28 rfl rfl rfl) (hd 46 rfl) ?_
      refine jo_call Tryz.f84 (SubN_e (trm a) (trm b) (by omega) (by omega) (u64s_trm ua) (u64s_trm ub) (by rcases hcv with ⟨c, v⟩ | ⟨c, v⟩ | ⟨c, v⟩ <;> omega)) rfl Tryz.func84 rfl rfl (ovL_cons rfl (ovL_cons rfl ovL_nil)) (.cons .n (.cons .n .nil)) (hd 47 rfl) ?_ (fun ch hp => by simp at hp)
      rintro y ⟨ra, ea, hy, ha⟩; injection hy with hy; subst hy; refine zmv rfl (hd 42 rfl) <| jo_l (ly_ext rfl rfl) (hd 48 rfl) <| jo_l (ly_ext rfl rfl) (hd 49 rfl) <| zas rfl (hd 8 rfl) <| zas rfl (hd 9 rfl) <| jo_nil <| zsr <| jo_l (ly_fa fld30_0 rfl rfl rfl) (hd 50 rfl) <| jo_l (ly_ld one4 rfl rfl rfl) (hd 51 rfl) <| zmv rfl (hd 52 rfl) <| zmv rfl (hd 53 rfl) ?_
      refine jo_call Tryz.f81 (result_l (s && decide (0 < ((trm a).length : Int))) ra ea (sv s a + sv t b) (resN_of ha (by rcases hcv with ⟨c, v⟩ | ⟨c, v⟩ | ⟨c, v⟩ <;> omega) (fun q uq hq => sub_val (by assumption) hq ea1 eb1))) rfl Tryz.func81 rfl rfl (ovL_cons rfl (ovL_cons rfl (ovL_cons rfl ovL_nil))) (.cons .b (.cons .n (.cons .i .nil))) (hd 54 rfl) ?_ (fun ch hp => by simp at hp)
      rintro y ⟨sr, rr, er, hy, hr⟩; injection hy with hy; subst hy; refine jo_l (ly_ext rfl rfl) (hd 55 rfl) <| jo_l (ly_ext rfl rfl) (hd 56 rfl) <| jo_st (sy_store rfl rfl rfl siz30 rfl rfl (zlb rfl)) <| zas rfl (hd 5 rfl) <| jo_nil <| jc_ret ?_
      refine ⟨_, _, (.cons (ResV.cell agg30 rfl rfl rfl rfl) (.cons rfl .nil)), (.t1 (.a1 .b (.a1 .n .a0)) (.t1 .i .t0)), ?_⟩
      exact ⟨sr, rr, er, rfl, hr⟩


theorem Of_0  : Spec Tryz.prog 87 [.i .i64 0] (fun o => o = .ret (.a [.b false, .n true .u64 []])) := by
  refine spec_of' [(0, .i .i64 0)] rfl Tryz.func87 rfl (zlb rfl) fun Γ hN hds hL hR => ?_
  have hd := hdOf 14 hN
  have rF : Spec Tryz.prog 68 [.i .u64 0] (fun o => o = .ret (.n true .u64 [])) := by have h := From_s 0; rwa [if_pos rfl] at h
  refine zsr <| jo_h (hy_alloc (id := 0) zero30 (by decide) rfl (by decide) rfl) (hd 2 rfl) <| jo_nil <| jc_seq <| zsr <| zmv rfl (hd 3 rfl) <| jo_l (ly_ff (ly_lt rfl rfl) (by decide)) (hd 4 rfl) <| jo_nil <| jc_litf rfl <| jc_skip <| jc_seq ?_; refine jc_region <| zmv rfl (hd 10 rfl) <| jo_l (ly_conv und3 und82 rfl (r := 0) rfl) (hd 11 rfl) ?_
  refine jo_call Tryz.f68 (rF) rfl Tryz.func68 rfl rfl (ovL_cons rfl ovL_nil) (.cons .i .nil) (hd 12 rfl) ?_ (fun ch hp => by simp at hp)
  rintro _ ⟨⟩; refine jo_l (ly_build (is := [1]) (xs := [.tmp 12]) zero30 pls30_1 rfl (ovL_cons rfl ovL_nil) rfl (by first | (simp [plsOk, cellsV]; done) | (simp [plsOk, cellsV, old]; done)) (all_of rfl) rfl) (hd 13 rfl) <| jo_st (sy_store rfl rfl rfl siz30 rfl rfl (zlb rfl)) <| jo_nil <| jc_ret ?_
  refine ⟨_, _, (.cons (ResV.cell agg30 rfl rfl rfl rfl) .nil), (.a1 .b (.a1 .n .a0)), ?_⟩
  exact rfl

theorem Of_v (v : Int) (h : inI v) : Spec Tryz.prog 87 [.i .i64 v] (fun o => o = .ret (.a [.b (decide (v < 0)), .n true .u64 (lm v)])) := by
  have e := of_lm h
  obtain ⟨h1, h2⟩ := h
  rw [e]
  unfold fl
  rcases Int.lt_trichotomy v 0 with hv | hv | hv
  · rw [decide_eq_true hv, if_neg (by omega), show ((v.natAbs : Nat) : Int) = -v by omega]
    exact Of_neg v hv h1
  · subst hv
    exact Of_0
  · rw [decide_eq_false (by omega), if_neg (by omega), show ((v.natAbs : Nat) : Int) = v by omega]
    exact Of_pos v hv h2


theorem Quo_v (v w : Int) (hv : lenV v ≤ 67108864) (hw : lenV w ≤ 67108864) (h0 : w ≠ 0) : Spec Tryz.prog 35 [.n false .u64 (lm v), .n false .u64 (lm w)] (fun o => o = .ret (.t [.n false .u64 (lm (qn v w)), .i .i64 0])) := by
  refine spec_of' [(0, .n false .u64 (lm v)), (1, .n false .u64 (lm w))] rfl Tryz.func35 rfl (zlb rfl) fun Γ hN hds hL hR => ?_
  have hd := hdOf 25 hN
  have hlv := lenV_lm hv
  have hlw := lenV_lm hw
  have hle := lenV_mono (v := qn v w) (w := v) qn_le
  have hlq := lenV_lm (v := qn v w) (by omega)
  have hne := lm_ne h0
  refine zsr <| zas rfl (hd 4 rfl) <| zas rfl (hd 5 rfl) <| jo_nil <| zsr <| zmv rfl (hd 8 rfl) ?_
  refine jo_call Tryz.f51 (Norm_v v (by omega)) rfl Tryz.func51 rfl rfl (ovL_cons rfl ovL_nil) (.cons .n .nil) (hd 9 rfl) ?_ (fun ch hp => by simp at hp)
  rintro _ ⟨⟩; refine zmv rfl (hd 10 rfl) ?_
  refine jo_call Tryz.f51 (Norm_v w (by omega)) rfl Tryz.func51 rfl rfl (ovL_cons rfl ovL_nil) (.cons .n .nil) (hd 11 rfl) ?_ (fun ch hp => by simp at hp)
  rintro _ ⟨⟩; refine zas rfl (hd 0 rfl) <| zas rfl (hd 1 rfl) <| jo_nil <| jc_seq <| zsr <| zmv rfl (hd 12 rfl) <| jo_l (ly_lenn sl28 rfl) (hd 13 rfl) <| jo_l (ly_ff (ly_eq rfl rfl) (fun h => hne (List.eq_nil_of_length_eq_zero (by omega)))) (hd 14 rfl) <| jo_nil <| jc_litf rfl <| jc_skip <| jc_seq ?_; refine jc_region <| zmv rfl (hd 16 rfl) <| zmv rfl (hd 17 rfl) ?_
  refine jo_call Tryz.f80 (divide_v v w (by omega) (by omega) h0) rfl Tryz.func80 rfl rfl (ovL_cons rfl (ovL_cons rfl ovL_nil)) (.cons .n (.cons .n .nil)) (hd 18 rfl) ?_ (fun ch hp => by simp at hp)
  rintro _ ⟨⟩; refine zmv rfl (hd 15 rfl) <| jo_l (ly_ext rfl rfl) (hd 19 rfl) <| jo_l (ly_ext rfl rfl) (hd 20 rfl) <| zas rfl (hd 6 rfl) <| zas rfl (hd 7 rfl) <| jo_nil <| jc_seq <| zsr <| zmv rfl (hd 21 rfl) ?_
  refine jo_call Tryz.f39 (Length_v (qn v w) (by omega)) rfl Tryz.func39 rfl rfl (ovL_cons rfl ovL_nil) (.cons .n .nil) (hd 22 rfl) ?_ (fun ch hp => by simp at hp)
  rintro _ ⟨⟩; refine jo_l (ly_ff (ly_gt rfl rfl) (by omega)) (hd 23 rfl) <| jo_nil <| jc_litf rfl <| jc_skip <| zsr <| zmv rfl (hd 24 rfl) <| zas rfl (hd 4 rfl) <| zas rfl (hd 5 rfl) <| jo_nil <| jc_ret ?_
  refine ⟨_, _, (.cons rfl (.cons rfl .nil)), (.t1 .n (.t1 .i .t0)), ?_⟩
  exact rfl



theorem part_0 (b K : Nat) (hlb : 2 ≤ b) (hb2 : b ≤ 36) (hK : ∀ k, k < K → lenV ((b ^ 2 ^ k : Nat) : Int) ≤ 67108864) (hK2 : K ≤ 40) (l : List Int) (n : Nat) (hl : l.length ≤ 1048576) (hu : u64s l) (hx : (vl l).toNat < b ^ 2 ^ 0) (hn : 0 ≤ n) (hjK : 0 ≤ K) : SpecM Tryz.prog 124 [.n false .u64 l, .i .i64 (((0 : Nat) : Int) - 1), .q [.i .i64 (b : Int)], .q [.l true 1 (pwR b K)], .q [cyc 124 [.q [.i .i64 (b : Int)], .q [.l true 1 (pwR b K)]] [] n]] [] (fun o G => ∃ ver, o = .ret (.o 0 ver 0 (hdg b (2 ^ 0) (vl l).toNat).length) ∧ G = [⟨3, 1, ver, true, ints .i64 (hdg b (2 ^ 0) (vl l).toNat)⟩]) := by
  refine specS_of [(0, .n false .u64 l), (1, .i .i64 (((0 : Nat) : Int) - 1)), (2, .q [.i .i64 (b : Int)]), (3, .q [.l true 1 (pwR b K)]), (4, .q [cyc 124 [.q [.i .i64 (b : Int)], .q [.l true 1 (pwR b K)]] [] n])] rfl Tryz.func124 rfl (zlb rfl) fun Γ hN hds hL hR => ?_
  have hd := hdOf 45 hN
  have hj40 : 2 ^ 0 ≤ 2 ^ 40 := two_cap (by omega)
  refine zsr <| zas rfl (hd 7 rfl) <| jo_nil <| jc_seq <| zsr <| zmv rfl (hd 11 rfl) <| jo_l (ly_tt (ly_lt rfl rfl) (by omega)) (hd 12 rfl) <| zmv rfl (hd 13 rfl) <| jo_s 13 rfl rfl rfl (hd 14 rfl) <| jo_s 13 rfl rfl rfl (hd 15 rfl) <| jo_s 13 rfl rfl rfl (hd 16 rfl) ?_; refine jo_l (ly_pick_t rfl rfl) (hd 17 rfl) <| jo_nil <| jc_litt rfl <| jc_seq <| jc_draw (n := 7) _ rfl mixed <| zal 0 (lo_l (ly_mv rfl) (hd 18 rfl)) rfl <| zal 1 (lo_l (ly_ldq one3 rfl rfl) (hd 19 rfl)) rfl <| zal2 2 [3, 4, 5, 6] (lo_l (ly_mv rfl) (hd 20 rfl)) rfl <| zal2 3 [4, 5, 6] (lo_l (ly_add rfl rfl (r := (0 : Int)) (by rw [wrap_i64 (by omega) (by omega)]; omega)) (hd 21 rfl)) rfl <| zal 4 (lo_l (ly_is (ly_shl rfl rfl (by omega) rfl) (show V.i .i64 _ = V.i .i64 ((2 ^ 0 : Nat) : Int) from rfl)) (hd 22 rfl)) rfl ?_
  refine ja_1 5 ?_ rfl (by kernel_rfl)
  refine js_callN Tryz.f123 (digits_n l b (2 ^ 0) hl hu hlb hb2 (by omega)) (fun o G ⟨_, h⟩ => h ▸ idless_cons ints_id idless_nil) rfl Tryz.func123 rfl rfl (ovL_cons rfl (ovL_cons rfl (ovL_cons rfl ovL_nil))) (.cons .n (.cons .i (.cons .i .nil))) (hd 23 rfl) ?_ (fun ch G hp => by simp at hp)
  rintro y G ⟨hy, rfl⟩; injection hy with hy; subst hy
  show JA _ _ _ _ _ ((23, .o 0 0 0 (hdg b (2 ^ 0) (vl l).toNat).length) :: _) _ _
  refine zal 6 (lo_l (ly_as rfl) (hd 7 rfl)) rfl <| ja_nil (by kernel_rfl) <| jc_ret ?_
  refine ⟨[0], _, (.o 0 0 0 (hdg b (2 ^ 0) (vl l).toNat).length), (.cons rfl .nil), rfl, rfl, (by decide), (by first | exact idless_cons ints_id idless_nil | exact idless_cons (by show List.all (ints _ _ ++ ints _ _) _ = true; rw [ints_append]; exact ints_id) idless_nil), ?_⟩
  exact ⟨0, rfl, rfl⟩

theorem part_1 (b K j : Nat) (hlb : 2 ≤ b) (hb2 : b ≤ 36) (hK : ∀ k, k < K → lenV ((b ^ 2 ^ k : Nat) : Int) ≤ 67108864) (hK2 : K ≤ 40) (ih : ∀ (l : List Int) (n : Nat) (hl : l.length ≤ 1048576) (hu : u64s l) (hx : (vl l).toNat < b ^ 2 ^ j) (hn : j ≤ n) (hjK : j ≤ K), SpecM Tryz.prog 124 [.n false .u64 l, .i .i64 (((j : Nat) : Int) - 1), .q [.i .i64 (b : Int)], .q [.l true 1 (pwR b K)], .q [cyc 124 [.q [.i .i64 (b : Int)], .q [.l true 1 (pwR b K)]] [] n]] [] (fun o G => o = .ret (.o 0 0 0 (hdg b (2 ^ j) (vl l).toNat).length) ∧ G = [⟨3, 1, 0, true, ints .i64 (hdg b (2 ^ j) (vl l).toNat)⟩])) (l : List Int) (n : Nat) (hl : l.length ≤ 1048576) (hu : u64s l) (hx : (vl l).toNat < b ^ 2 ^ (j + 1)) (hn : (j + 1) ≤ n) (hjK : (j + 1) ≤ K) : SpecM Tryz.prog 124 [.n false .u64 l, .i .i64 ((((j + 1) : Nat) : Int) - 1), .q [.i .i64 (b : Int)], .q [.l true 1 (pwR b K)], .q [cyc 124 [.q [.i .i64 (b : Int)], .q [.l true 1 (pwR b K)]] [] n]] [] (fun o G => ∃ ver, o = .ret (.o 0 ver 0 (hdg b (2 ^ (j + 1)) (vl l).toNat).length) ∧ G = [⟨3, 1, ver, true, ints .i64 (hdg b (2 ^ (j + 1)) (vl l).toNat)⟩]) := by
  refine specS_of [(0, .n false .u64 l), (1, .i .i64 ((((j + 1) : Nat) : Int) - 1)), (2, .q [.i .i64 (b : Int)]), (3, .q [.l true 1 (pwR b K)]), (4, .q [cyc 124 [.q [.i .i64 (b : Int)], .q [.l true 1 (pwR b K)]] [] n])] rfl Tryz.func124 rfl (zlb rfl) fun Γ hN hds hL hR => ?_
  have hd := hdOf 45 hN
  have hj40 : 2 ^ (j + 1) ≤ 2 ^ 40 := two_cap (by omega)
  obtain ⟨n, rfl⟩ : ∃ m, n = m + 1 := ⟨n - 1, by omega⟩
  have hp0 := pw_pos (b := b) (k := j) hlb
  have hxv := nat_of hu
  have hv : lenV (vl l) ≤ 67108864 := by have := lenV_64 (s := false) hu; have e : sv false l = vl l := rfl; rw [e] at this; omega
  have hpw : ((b ^ 2 ^ j : Nat) : Int) ≠ 0 := by omega
  have hQn := qn_nat2 (p := b ^ 2 ^ j) hxv.symm
  have hRn := rn_nat2 (p := b ^ 2 ^ j) hxv.symm
  have hQl := lenV_lm (Nat.le_trans (lenV_mono (qn_le (v := vl l) (w := ((b ^ 2 ^ j : Nat) : Int)))) hv)
  have hRl := lenV_lm (Nat.le_trans (lenV_mono (rn_le (v := vl l) hpw).1) (hK j (by omega)))
  have hQx := part_q hx
  have hRx := part_r (j := j) (x := (vl l).toNat) hlb
  have hlQ : (hdg b (2 ^ j) (vl (lm (qn (vl l) ((b ^ 2 ^ j : Nat) : Int)))).toNat).length ≤ 1099511627776 := by rw [hdg_le, hQn]; have h1 := digs_len hlb _ _ hQx; have h2 : 2 ^ j ≤ 2 ^ 40 := two_cap (by omega); omega
  have hlR : (hdg b (2 ^ j) (vl (lm (rn (vl l) ((b ^ 2 ^ j : Nat) : Int)))).toNat).length ≤ 1099511627776 := by rw [hdg_le, hRn]; have h1 := digs_len hlb _ _ hRx; have h2 : 2 ^ j ≤ 2 ^ 40 := two_cap (by omega); omega
  refine zsr <| zas rfl (hd 7 rfl) <| jo_nil <| jc_seq <| zsr <| zmv rfl (hd 11 rfl) <| jo_l (ly_ff (ly_lt rfl rfl) (by omega)) (hd 12 rfl) <| zmv rfl (hd 13 rfl) <| jo_g 13 rfl rfl (ly_mv rfl) (hd 14 rfl) ?_
  refine jo_callg Tryz.f39 13 rfl rfl (Length_s l (by omega) hu) rfl Tryz.func39 rfl rfl (ovL_cons rfl ovL_nil) (.cons .n .nil) (hd 15 rfl) ?_ (fun ch hp => by simp at hp)
  rintro _ ⟨⟩; refine jo_g 13 rfl rfl (ly_le rfl rfl) (hd 16 rfl) <| jo_l (ly_pick_f rfl rfl) (hd 17 rfl) <| jo_nil ?_
  refine jc_if rfl (fun h1 => ?_) (fun h1 => ?_)
  · refine jc_seq <| jc_draw (n := 7) _ rfl mixed <| zal 0 (lo_l (ly_mv rfl) (hd 18 rfl)) rfl <| zal 1 (lo_l (ly_ldq one3 rfl rfl) (hd 19 rfl)) rfl <| zal2 2 [3, 4, 5, 6] (lo_l (ly_mv rfl) (hd 20 rfl)) rfl <| zal2 3 [4, 5, 6] (lo_l (ly_add rfl rfl (r := (((j + 1 : Nat) : Int) : Int)) (by rw [wrap_i64 (by omega) (by omega)]; omega)) (hd 21 rfl)) rfl <| zal 4 (lo_l (ly_is (ly_shl rfl rfl (by omega) rfl) (show V.i .i64 _ = V.i .i64 ((2 ^ (j + 1) : Nat) : Int) by rw [Int.one_mul, Int.toNat_natCast, Nat.min_eq_left (by have h : IntKind.i64.bits = 64 := rfl; omega), show (2 : Int) ^ (j + 1) = ((2 ^ (j + 1) : Nat) : Int) by simp]; generalize 2 ^ (j + 1) = q at *; exact congrArg (V.i .i64) (wrap_i64 (by omega) (by omega)))) (hd 22 rfl)) rfl ?_
    refine ja_1 5 ?_ rfl (by kernel_rfl)
    refine js_callN Tryz.f123 (digits_n l b (2 ^ (j + 1)) hl hu hlb hb2 (by omega)) (fun o G ⟨_, h⟩ => h ▸ idless_cons ints_id idless_nil) rfl Tryz.func123 rfl rfl (ovL_cons rfl (ovL_cons rfl (ovL_cons rfl ovL_nil))) (.cons .n (.cons .i (.cons .i .nil))) (hd 23 rfl) ?_ (fun ch G hp => by simp at hp)
    rintro y G ⟨hy, rfl⟩; injection hy with hy; subst hy
    show JA _ _ _ _ _ ((23, .o 0 0 0 (hdg b (2 ^ (j + 1)) (vl l).toNat).length) :: _) _ _
    refine zal 6 (lo_l (ly_as rfl) (hd 7 rfl)) rfl <| ja_nil (by kernel_rfl) <| jc_ret ?_
    refine ⟨[0], _, (.o 0 0 0 (hdg b (2 ^ (j + 1)) (vl l).toNat).length), (.cons rfl .nil), rfl, rfl, (by decide), (by first | exact idless_cons ints_id idless_nil | exact idless_cons (by show List.all (ints _ _ ++ ints _ _) _ = true; rw [ints_append]; exact ints_id) idless_nil), ?_⟩
    exact ⟨0, rfl, rfl⟩
  · refine jc_skip <| zsr <| zmv rfl (hd 25 rfl) <| jo_l (ly_ldq one1140 rfl rfl) (hd 26 rfl) <| zmv rfl (hd 27 rfl) <| jo_l (ly_ial (i := j) (row := [pwV b j]) sl1140 rfl rfl (by omega) (pw_at (by omega))) (hd 28 rfl) <| jo_l (ly_ldq one28 rfl rfl) (hd 29 rfl) ?_
    refine jo_call Tryz.f121 (Both_r l ((b ^ 2 ^ j : Nat) : Int) hl hu (hK j (by omega)) hpw) rfl Tryz.func121 rfl rfl (ovL_cons rfl (ovL_cons rfl ovL_nil)) (.cons .n (.cons .n .nil)) (hd 30 rfl) ?_ (fun ch hp => by simp at hp)
    rintro _ ⟨⟩; refine zmv rfl (hd 24 rfl) <| jo_l (ly_ext rfl rfl) (hd 31 rfl) <| jo_l (ly_ext rfl rfl) (hd 32 rfl) <| jo_l (ly_ext rfl rfl) (hd 33 rfl) <| zas rfl (hd 8 rfl) <| zas rfl (hd 9 rfl) <| zas rfl (hd 10 rfl) <| jo_nil <| jc_seq <| jc_draw (n := 12) _ rfl mixed <| zal2 0 [4, 9, 10, 11] (lo_l (ly_ldqf one1123 rfl rfl) (hd 34 rfl)) rfl <| zal2 1 [4, 9, 10, 11] (lo_l (ly_mv rfl) (hd 35 rfl)) rfl <| zal2 2 [3, 4, 9, 10, 11] (lo_l (ly_mv rfl) (hd 36 rfl)) rfl ?_; refine zal2 3 [4, 9, 10, 11] (lo_l (ly_is (ly_sub rfl rfl (wrap_i64 (by omega) (by omega))) (show V.i .i64 _ = V.i .i64 ((j : Int) - 1) by congr 1; omega)) (hd 37 rfl)) rfl <| zal2 5 [9, 10, 11] (lo_l (ly_ldqf one1123 rfl rfl) (hd 39 rfl)) rfl <| zal2 6 [9, 10, 11] (lo_l (ly_mv rfl) (hd 40 rfl)) rfl <| zal2 7 [8, 9, 10, 11] (lo_l (ly_mv rfl) (hd 41 rfl)) rfl <| zal2 8 [9, 10, 11] (lo_l (ly_is (ly_sub rfl rfl (wrap_i64 (by omega) (by omega))) (show V.i .i64 _ = V.i .i64 ((j : Int) - 1) by congr 1; omega)) (hd 42 rfl)) rfl ?_
    refine ja_1 4 ?_ rfl (by kernel_rfl)
    refine js_callNC Tryz.f124 (ih (lm (qn (vl l) ((b ^ 2 ^ j : Nat) : Int))) n hQl (lm_u _) (by rw [hQn]; exact hQx) (by omega) (by omega)) (fun o G ⟨_, h⟩ => h ▸ idless_cons ints_id idless_nil) rfl Tryz.func124 rfl rfl (ovL_cons rfl (ovL_cons rfl ovL_nil)) (.cons .n (.cons .i (.cons .q (.cons .q (.cons .q .nil))))) (hd 38 rfl) ?_ (fun ch G hp => by simp at hp)
    rintro y G ⟨hy, rfl⟩; injection hy with hy; subst hy
    show JA _ _ _ _ _ ((38, .o 0 0 0 (hdg b (2 ^ j) (vl (lm (qn (vl l) ((b ^ 2 ^ j : Nat) : Int)))).toNat).length) :: _) _ _
    refine ja_1 9 ?_ rfl (by kernel_rfl)
    refine js_callNC Tryz.f124 (ih (lm (rn (vl l) ((b ^ 2 ^ j : Nat) : Int))) n hRl (lm_u _) (by rw [hRn]; exact hRx) (by omega) (by omega)) (fun o G ⟨_, h⟩ => h ▸ idless_cons ints_id idless_nil) rfl Tryz.func124 rfl rfl (ovL_cons rfl (ovL_cons rfl ovL_nil)) (.cons .n (.cons .i (.cons .q (.cons .q (.cons .q .nil))))) (hd 43 rfl) ?_ (fun ch G hp => by simp at hp)
    rintro y G ⟨hy, rfl⟩; injection hy with hy; subst hy
    show JA _ _ _ _ _ ((43, .o 1 0 0 (hdg b (2 ^ j) (vl (lm (rn (vl l) ((b ^ 2 ^ j : Nat) : Int)))).toNat).length) :: _) _ _
    refine ja_1 10 ?_ rfl (by kernel_rfl)
    refine js_app el1122 rfl rfl (by rw [ints_length, Nat.mul_one]) rfl (src_o rfl (by rw [ints_length, Nat.mul_one]) ints_one) (by show ((hdg b (2 ^ j) (vl (lm (qn (vl l) ((b ^ 2 ^ j : Nat) : Int)))).toNat).length + (hdg b (2 ^ j) (vl (lm (rn (vl l) ((b ^ 2 ^ j : Nat) : Int)))).toNat).length) * 8 ≤ _; omega) (by show (hdg b (2 ^ j) (vl (lm (qn (vl l) ((b ^ 2 ^ j : Nat) : Int)))).toNat).length + (hdg b (2 ^ j) (vl (lm (rn (vl l) ((b ^ 2 ^ j : Nat) : Int)))).toNat).length ≤ 9223372036854775807; omega) (hd 44 rfl) rfl <| zal 11 (lo_l (ly_as rfl) (hd 7 rfl)) rfl <| ja_nil (by kernel_rfl) <| jc_ret ?_
    refine ⟨[0], _, (.o 0 1 0 ((hdg b (2 ^ j) (vl (lm (qn (vl l) ((b ^ 2 ^ j : Nat) : Int)))).toNat).length + (hdg b (2 ^ j) (vl (lm (rn (vl l) ((b ^ 2 ^ j : Nat) : Int)))).toNat).length)), (.cons rfl .nil), rfl, rfl, (by decide), (by first | exact idless_cons ints_id idless_nil | exact idless_cons (by show List.all (ints _ _ ++ ints _ _) _ = true; rw [ints_append]; exact ints_id) idless_nil), ?_⟩
    exact ⟨1, by show Out.ret (V.o _ _ _ ((hdg b (2 ^ j) (vl (lm (qn (vl l) ((b ^ 2 ^ j : Nat) : Int)))).toNat).length + (hdg b (2 ^ j) (vl (lm (rn (vl l) ((b ^ 2 ^ j : Nat) : Int)))).toNat).length)) = _; rw [← List.length_append, hQn, hRn, part_join hlb hx], by show [(⟨3, 1, 1, true, ints .i64 (hdg b (2 ^ j) (vl (lm (qn (vl l) ((b ^ 2 ^ j : Nat) : Int)))).toNat) ++ ints .i64 (hdg b (2 ^ j) (vl (lm (rn (vl l) ((b ^ 2 ^ j : Nat) : Int)))).toNat)⟩ : Ob)] = [⟨3, 1, 1, true, ints .i64 (hdg b (2 ^ (j + 1)) (vl l).toNat)⟩]; rw [ints_append, hQn, hRn, part_join hlb hx]⟩

theorem part_n (b K : Nat) (hlb : 2 ≤ b) (hb2 : b ≤ 36) (hK : ∀ k, k < K → lenV ((b ^ 2 ^ k : Nat) : Int) ≤ 67108864) (hK2 : K ≤ 40) : ∀ (j : Nat) (l : List Int) (n : Nat) (hl : l.length ≤ 1048576) (hu : u64s l) (hx : (vl l).toNat < b ^ 2 ^ j) (hn : j ≤ n) (hjK : j ≤ K), SpecM Tryz.prog 124 [.n false .u64 l, .i .i64 (((j : Nat) : Int) - 1), .q [.i .i64 (b : Int)], .q [.l true 1 (pwR b K)], .q [cyc 124 [.q [.i .i64 (b : Int)], .q [.l true 1 (pwR b K)]] [] n]] [] (fun o G => o = .ret (.o 0 0 0 (hdg b (2 ^ j) (vl l).toNat).length) ∧ G = [⟨3, 1, 0, true, ints .i64 (hdg b (2 ^ j) (vl l).toNat)⟩])
  | 0, l, n, hl, hu, hx, hn, hjK => (part_0 b K hlb hb2 hK hK2 l n hl hu hx hn hjK).ver0 ints_id
  | j + 1, l, n, hl, hu, hx, hn, hjK => (part_1 b K j hlb hb2 hK hK2 (fun l n hl hu hx hn hjK => part_n b K hlb hb2 hK hK2 j l n hl hu hx hn hjK) l n hl hu hx hn hjK).ver0 ints_id

theorem all_n (l : List Int) (b : Nat) (hl : l.length ≤ 1048576) (hu : u64s l) (hlb : 2 ≤ b) (hb2 : b ≤ 36) : SpecM Tryz.prog 101 [.n false .u64 l, .i .i64 (b : Int)] [] (fun o G => o = .ret (.o 0 0 0 (hdg b 1 (vl l).toNat).length) ∧ G = [⟨3, 1, 0, true, ints .i64 (hdg b 1 (vl l).toNat)⟩]) := by
  refine specS_of [(0, .n false .u64 l), (1, .i .i64 (b : Int))] rfl Tryz.func101 rfl (zlb rfl) fun Γ hN hds hL hR => ?_
  have hd := hdOf 75 hN
  have hlenl := lenN_le l
  have hxv := nat_of hu
  have hv0 := vl_nonneg hu
  have hv : lenV (vl l) ≤ 67108864 := by have := lenV_64 (s := false) hu; have e : sv false l = vl l := rfl; rw [e] at this; omega
  have hxp := lenV_pow hv0 hv
  have hF : Spec Tryz.prog 68 [.i .u64 (b : Int)] (fun o => o = .ret (.n true .u64 (lm ((b ^ 2 ^ 0 : Nat) : Int)))) := by have h := From_s (b : Int); rwa [show (if (b : Int) = 0 then [] else [(b : Int)]) = lm ((b ^ 2 ^ 0 : Nat) : Int) from by rw [Nat.pow_zero, Nat.pow_one]; exact fl_lm (by omega) (by omega)] at h
  refine zsr <| jo_h (hy_box (id := 0) (n := 1) rfl rfl rfl (by decide) rfl) (hd 3 rfl) <| zas rfl (hd 4 rfl) <| jo_nil <| jc_seq <| zsr <| zmv rfl (hd 12 rfl) ?_
  refine jo_call Tryz.f39 (Length_s l (by omega) hu) rfl Tryz.func39 rfl rfl (ovL_cons rfl ovL_nil) (.cons .n .nil) (hd 13 rfl) ?_ (fun ch hp => by simp at hp)
  rintro _ ⟨⟩; refine jo_l (ly_le rfl rfl) (hd 14 rfl) <| zmv rfl (hd 15 rfl) ?_
  refine jo_ifp 15 rfl (fun h1 => ?_) (fun h1 => ?_)
  · refine jo_s 15 rfl rfl rfl (hd 16 rfl) <| jo_s 15 rfl rfl rfl (hd 17 rfl) <| jo_s 15 rfl rfl rfl (hd 18 rfl) <| jo_l (ly_pick_t rfl rfl) (hd 19 rfl) <| jo_nil <| jc_litt rfl <| zsr <| zmv rfl (hd 20 rfl) <| jo_l (ly_ld one3 rfl rfl rfl) (hd 21 rfl) ?_
    refine jo_callN Tryz.f123 (digits_n l b 1 hl hu hlb hb2 (by decide)) (fun o G ⟨_, h⟩ => h ▸ idless_cons ints_id idless_nil) rfl Tryz.func123 rfl rfl (ovL_cons rfl (ovL_cons rfl (ovL_cons rfl ovL_nil))) (.cons .n (.cons .i (.cons .i .nil))) (hd 22 rfl) ?_ (fun ch G hp => by simp at hp)
    rintro y G ⟨hy, rfl⟩; injection hy with hy; subst hy
    show JO _ _ _ _ ((22, .o 1 0 0 (hdg b 1 (vl l).toNat).length) :: _) _ _
    refine zas rfl (hd 4 rfl) <| jo_nil <| jc_ret ?_
    refine ⟨[1], _, (.o 0 0 0 (hdg b 1 (vl l).toNat).length), (.cons rfl .nil), rfl, rfl, (by decide), (idless_cons ints_id idless_nil), ?_⟩
    exact ⟨rfl, rfl⟩
  · refine jo_g 15 rfl rfl (ly_mv rfl) (hd 16 rfl) ?_
    refine jo_callg Tryz.f39 15 rfl rfl (Length_s l (by omega) hu) rfl Tryz.func39 rfl rfl (ovL_cons rfl ovL_nil) (.cons .n .nil) (hd 17 rfl) ?_ (fun ch hp => by simp at hp)
    rintro _ ⟨⟩; refine jo_g 15 rfl rfl (ly_ff (ly_gt rfl rfl) (by omega)) (hd 18 rfl) <| jo_l (ly_pick_f rfl rfl) (hd 19 rfl) <| jo_nil <| jc_litf rfl <| jc_skip <| zsr <| jo_l (ly_ld one3 rfl rfl rfl) (hd 23 rfl) <| jo_l (ly_conv und3 und82 rfl (r := (b : Int)) (wrap_u64 (by omega) (by omega))) (hd 24 rfl) ?_
    refine jo_call Tryz.f68 (hF) rfl Tryz.func68 rfl rfl (ovL_cons rfl ovL_nil) (.cons .i .nil) (hd 25 rfl) ?_ (fun ch hp => by simp at hp)
    rintro _ ⟨⟩; refine jo_h (hy_lit (id := 1) (xs := [.tmp 25]) el1140 rfl (ovL_cons rfl ovL_nil) rfl (all2_of rfl) (by decide) rfl) (hd 26 rfl) <| jo_h (hy_alloc (id := 2) zero1140 (by decide) rfl (by decide) rfl) (hd 5 rfl) <| jo_st (sy_store rfl rfl rfl siz1140 rfl rfl (zlb rfl)) <| jo_nil ?_
    refine jc_meet (G := Nat) (fun k => k ≤ 26 ∧ lenV ((b ^ 2 ^ k : Nat) : Int) ≤ 67108864 ∧ (vl l).toNat < b ^ 2 ^ (k + 1)) (fun k => [(6, .u), (7, .u), (8, .u), (27, .u), (28, .u), (29, .u), (30, .u), (31, .u), (32, .u), (33, .u), (34, .u), (35, .u), (36, .u), (37, .u), (38, .u), (39, .u), (40, .u), (41, .u), (42, .u), (43, .u), (44, .u), (45, .u), (46, .u), (47, .u), (48, .u), (49, .u)]) (fun k => [⟨3, 1, 0, true, [.i .i64 (b : Int)]⟩, ⟨23, 1, k, true, (pwR b (k + 1)).flatten⟩, ⟨140, 1, 0, true, [.o 1 k 0 (k + 1)]⟩]) ?_ ?_
    · refine jc_block <| jc_H (H' := [⟨3, 1, 0, true, [.i .i64 (b : Int)]⟩, ⟨23, 1, 0, true, (pwR b (0 + 1)).flatten⟩, ⟨140, 1, 0, true, [.o 1 0 0 (0 + 1)]⟩]) (by rw [← pw_one]; rfl) ?_
      refine jc_loopD (G := Nat) 3 (fun k => k ≤ 26 ∧ lenV ((b ^ 2 ^ k : Nat) : Int) ≤ 67108864) (fun k => [(6, .u), (7, .u), (8, .u), (27, .u), (28, .u), (29, .u), (30, .u), (31, .u), (32, .u), (33, .u), (34, .u), (35, .u), (36, .u), (37, .u), (38, .u), (39, .u), (40, .u), (41, .u), (42, .u), (43, .u), (44, .u), (45, .u), (46, .u), (47, .u), (48, .u), (49, .u)]) (fun k => [⟨3, 1, 0, true, [.i .i64 (b : Int)]⟩, ⟨23, 1, k, true, (pwR b (k + 1)).flatten⟩, ⟨140, 1, 0, true, [.o 1 k 0 (k + 1)]⟩]) (fun k => 27 - k) 0 ?_ ?_ rfl hR rfl (fun _ _ => rfl) (fun k _ => .cons rfl (.cons pw_id (.cons rfl .nil))) ?_
      · exact ⟨by decide, Nat.le_trans (lenV_mono (w := 36) (by rw [Int.natAbs_natCast, Nat.pow_zero, Nat.pow_one]; omega)) (by decide)⟩
      · exact (.u (.u (.u (.u (.u (.u (.u (.u (.u (.u (.u (.u (.u (.u (.u (.u (.u (.u (.u (.u (.u (.u (.u (.u (.u (.u .nil))))))))))))))))))))))))))
      · rintro k ⟨hk26, hkl⟩
        have hkm := lenV_lm hkl
        refine jc_block <| zsr <| jo_l (ly_ld one1140 rfl rfl rfl) (hd 27 rfl) <| jo_l (ly_ld one1140 rfl rfl rfl) (hd 28 rfl) <| jo_l (ly_leno sl1140 rfl rfl) (hd 29 rfl) <| jo_l (ly_sub rfl rfl (wrap_i64 (by omega) (by omega))) (hd 30 rfl) <| jo_l (ly_ia (i := k) sl1140 rfl rfl rfl (by omega) (by omega) rfl) (hd 31 rfl) <| jo_l (ly_ld (y := pwV b k) one28 rfl rfl (by rw [Nat.zero_add, Nat.mul_one]; exact pw_fat (by omega))) (hd 32 rfl) <| zas rfl (hd 6 rfl) <| jo_nil <| jc_seq <| jc_region ?_; refine zmv rfl (hd 34 rfl) ?_
        refine jo_call Tryz.f102 (Square_l (lm ((b ^ 2 ^ k : Nat) : Int)) (by omega) (lm_u _)) rfl Tryz.func102 rfl rfl (ovL_cons rfl ovL_nil) (.cons .n .nil) (hd 35 rfl) ?_ (fun ch hp => by simp at hp)
        rintro y ⟨r2, e2, hy, he2⟩; injection hy with hy; subst hy
        rw [pw_sqI] at he2
        have hle2 := errL_len he2
        have hu2 := errL_u he2
        have hcv := cmpL_val hu2 hu
        refine zmv rfl (hd 33 rfl) <| jo_l (ly_ext rfl rfl) (hd 36 rfl) <| jo_l (ly_ext rfl rfl) (hd 37 rfl) <| zas rfl (hd 7 rfl) <| zas rfl (hd 8 rfl) <| jo_nil <| jc_seq <| zsr <| zmv rfl (hd 38 rfl) <| jo_l (ly_ne rfl rfl) (hd 39 rfl) <| zmv rfl (hd 40 rfl) ?_
        refine jo_ifp 40 rfl (fun h4 => ?_) (fun h4 => ?_)
        · refine jo_s 40 rfl rfl rfl (hd 41 rfl) <| jo_s 40 rfl rfl rfl (hd 42 rfl) <| jo_s 40 rfl rfl rfl (hd 43 rfl) <| jo_s 40 rfl rfl rfl (hd 44 rfl) <| jo_l (ly_pick_t rfl rfl) (hd 45 rfl) <| jo_nil <| jc_litt rfl <| jc_exit ?_
          refine ⟨k, ?_, rfl, cov_n 49 rfl rfl ?_⟩
          · exact ⟨hk26, hkl, pw_big hv hv0 (errL_ne he2 (by assumption))⟩
          · exact (.u (.u (.u (.u (.u (.u (.u (.u (.u (.u (.u (.u (.u (.u (.u (.u (.u (.u (.u (.u (.u (.u (.u (.u (.u (.u .nil))))))))))))))))))))))))))
        · obtain ⟨hr2, hle9⟩ := errL_eq he2 (Decidable.not_not.1 h4)
          have hvr : vl r2 = ((b ^ 2 ^ (k + 1) : Nat) : Int) := by rw [hr2, vl_lm (Int.natCast_nonneg _)]
          refine jo_g 40 rfl rfl (ly_mv rfl) (hd 41 rfl) <| jo_g 40 rfl rfl (ly_mv rfl) (hd 42 rfl) ?_
          refine jo_callg Tryz.f67 40 rfl rfl (Compare_s r2 l (by omega) (by omega)) rfl Tryz.func67 rfl rfl (ovL_cons rfl (ovL_cons rfl ovL_nil)) (.cons .n (.cons .n .nil)) (hd 43 rfl) ?_ (fun ch hp => by simp at hp)
          rintro _ ⟨⟩; refine jo_g 40 rfl rfl (ly_gt rfl rfl) (hd 44 rfl) <| jo_l (ly_pick_f rfl rfl) (hd 45 rfl) <| jo_nil ?_
          refine jc_if rfl (fun h6 => ?_) (fun h6 => ?_)
          · refine jc_exit ?_
            refine ⟨k, ?_, rfl, cov_n 49 rfl rfl ?_⟩
            · exact ⟨hk26, hkl, by rcases hcv with ⟨c, v⟩ | ⟨c, v⟩ | ⟨c, v⟩ <;> omega⟩
            · exact (.u (.u (.u (.u (.u (.u (.u (.u (.u (.u (.u (.u (.u (.u (.u (.u (.u (.u (.u (.u (.u (.u (.u (.u (.u (.u .nil))))))))))))))))))))))))))
          · have hge : b ^ 2 ^ (k + 1) ≤ (vl l).toNat := by rcases hcv with ⟨c, v⟩ | ⟨c, v⟩ | ⟨c, v⟩ <;> omega
            have hkeep : k + 1 ≤ 26 ∧ lenV ((b ^ 2 ^ (k + 1) : Nat) : Int) ≤ 67108864 := ⟨pw_cap26 hlb hge hxp, hle9⟩
            refine jc_skip <| jc_region <| jo_l (ly_ld one1140 rfl rfl rfl) (hd 46 rfl) <| zmv rfl (hd 47 rfl) <| jo_h (hy_lit (id := 3) (xs := [.tmp 47]) el1140 rfl (ovL_cons rfl ovL_nil) rfl (all2_of rfl) (by decide) rfl) (hd 48 rfl) <| jo_app el1140 rfl rfl (by rw [pw_flen, Nat.mul_one]) rfl (src_o rfl rfl rfl) (by show (k + 1 + 1) * 24 ≤ _; omega) (by show k + 1 + 1 ≤ 9223372036854775807; omega) (hd 49 rfl) <| jo_st (sy_store rfl rfl rfl siz1140 rfl (by simp [cellsV, oneO]) (zlb rfl)) <| jo_nil ?_
            refine ⟨k + 1, ?_, ?_, (by show [_, (⟨23, 1, k + 1, true, (pwR b (k + 1)).flatten ++ [V.n true .u64 r2]⟩ : Ob), _] = [_, ⟨23, 1, k + 1, true, (pwR b (k + 1 + 1)).flatten⟩, _]; rw [hr2, ← pw_snoc (K := k + 1)]; rfl), cov_n 53 rfl rfl ?_⟩
            · exact hkeep
            · omega
            · exact (.u (.u (.u (.u (.u (.u (.u (.u (.u (.u (.u (.u (.u (.u (.u (.u (.u (.u (.u (.u (.u (.u (.u (.u (.u (.u .nil))))))))))))))))))))))))))
    · rintro k ⟨hk26, hkl, hx⟩
      have hK : ∀ j, j < k + 1 → lenV ((b ^ 2 ^ j : Nat) : Int) ≤ 67108864 := fun j hj => Nat.le_trans (pw_mono hlb (by omega)) hkl
      have hx0 : (vl l).toNat ≠ 0 := fun h0 => by have h1 := (lenN_zero hu).2 (by omega); omega
      have hdm := digs_len hlb _ _ hx
      have hlen : (hdg b (2 ^ (k + 1)) (vl l).toNat).length = 2 ^ (k + 1) := by rw [hdg_le]; omega
      have h27 : 2 ^ (k + 1) ≤ 2 ^ 27 := two_cap (by omega)
      refine zsr <| jo_h (hy_alloc (id := 3) zero1123 (by decide) rfl (by decide) rfl) (hd 9 rfl) <| jo_nil <| jc_seq <| jc_frzrc 0 (idB := 2) (id := 1) (pwR b (k + 1)) rfl rfl rfl rfl pw_length pw_sz pw_pure (by decide) hL <| jc_frzp 5 rfl rfl rfl rfl hL <| jc_frzp 3 rfl rfl rfl rfl hL <| jc_region <| jo_l (ly_mf (ovL_cons rfl (ovL_cons rfl (ovL_cons rfl ovL_nil)))) (hd 50 rfl) <| jo_st (sy_store rfl rfl rfl siz1123 rfl rfl (zlb rfl)) <| jo_nil <| jc_seq ?_; refine jc_cyc 9 [.q [.i .i64 (b : Int)], .q [.l true 1 (pwR b (k + 1))]] [] (k + 2) rfl rfl rfl rfl hL <| jc_region <| jo_l (ly_ldqf one1123 rfl rfl) (hd 51 rfl) <| zmv rfl (hd 52 rfl) <| jo_l (ly_ldq one1140 rfl rfl) (hd 53 rfl) <| jo_l (ly_is (ly_lenl sl1140 rfl) (show V.i .i64 _ = V.i .i64 ((k + 1 : Nat) : Int) by rw [pw_length])) (hd 54 rfl) <| jo_l (ly_sub rfl rfl (wrap_i64 (by omega) (by omega))) (hd 55 rfl) ?_
      refine jo_callNC Tryz.f124 (part_n b (k + 1) hlb hb2 hK (by omega) (k + 1) l (k + 1) hl hu hx (Nat.le_refl _) (Nat.le_refl _)) (fun o G ⟨_, h⟩ => h ▸ idless_cons ints_id idless_nil) rfl Tryz.func124 rfl rfl (ovL_cons rfl (ovL_cons rfl ovL_nil)) (.cons .n (.cons .i (.cons .q (.cons .q (.cons .q .nil))))) (hd 56 rfl) ?_ (fun ch G hp => by simp at hp)
      rintro y G ⟨hy, rfl⟩; injection hy with hy; subst hy
      show JO _ _ _ _ ((56, .o 4 0 0 (hdg b (2 ^ (k + 1)) (vl l).toNat).length) :: _) _ _
      refine zas rfl (hd 10 rfl) <| jo_nil <| zsr <| zas rfl (hd 11 rfl) <| jo_nil ?_
      refine jc_meetH (G := Nat) (fun i => i = (2 ^ (k + 1) - (digs b (vl l).toNat).length)) (fun i => [(11, .i .i64 (i : Int)), (57, .u), (58, .u), (59, .u), (60, .u), (61, .u), (62, .u), (63, .u), (64, .u), (65, .u), (66, .u), (67, .u), (68, .u), (69, .u), (70, .u)]) ?_ ?_
      · refine jc_block ?_
        refine jc_loopF (G := Nat) (fun i => i ≤ (2 ^ (k + 1) - (digs b (vl l).toNat).length)) (fun i => [(11, .i .i64 (i : Int)), (57, .u), (58, .u), (59, .u), (60, .u), (61, .u), (62, .u), (63, .u), (64, .u), (65, .u), (66, .u), (67, .u), (68, .u), (69, .u), (70, .u)]) (fun _ => _) (fun i => (2 ^ (k + 1) - (digs b (vl l).toNat).length) - i) 0 ?_ ?_ rfl ?_
        · exact Nat.zero_le _
        · exact (.cons rfl (.u (.u (.u (.u (.u (.u (.u (.u (.u (.u (.u (.u (.u (.u .nil)))))))))))))))
        · rintro i hiz; refine jc_seq <| zsr <| zmv rfl (hd 57 rfl) <| zmv rfl (hd 58 rfl) <| jo_l (ly_leno sl1122 rfl rfl) (hd 59 rfl) <| jo_l (ly_sub rfl rfl (wrap_i64 (by omega) (by omega))) (hd 60 rfl) <| jo_l (ly_lt rfl rfl) (hd 61 rfl) <| zmv rfl (hd 62 rfl) ?_
          refine jo_ifp 62 rfl (fun h7 => ?_) (fun h7 => ?_)
          · refine jo_g 62 rfl rfl (ly_mv rfl) (hd 63 rfl) <| jo_g 62 rfl rfl (ly_mv rfl) (hd 64 rfl) <| jo_g 62 rfl rfl (ly_ia (i := i) sl1122 rfl rfl rfl (by first | rfl | omega) (by omega) rfl) (hd 65 rfl) <| jo_g 62 rfl rfl (ly_is (ly_ldi one3 rfl rfl (by first | omega | (dsimp only; omega))) (show V.i .i64 _ = V.i .i64 ((hdg b (2 ^ (k + 1)) (vl l).toNat).getD i 0) by rw [Nat.zero_add, Nat.mul_one])) (hd 66 rfl) <| jo_g 62 rfl rfl (ly_eq rfl rfl) (hd 67 rfl) <| jo_l (ly_pick_t rfl rfl) (hd 68 rfl) <| jo_nil ?_
            refine jc_if rfl (fun h8 => ?_) (fun h8 => ?_)
            · have hz0 := h8
              refine jc_skip <| jc_block <| jc_region <| zmv rfl (hd 69 rfl) <| jo_l (ly_add rfl rfl (r := ((i + 1 : Nat) : Int)) (by rw [wrap_i64 (by omega) (by omega)]; omega)) (hd 70 rfl) <| zas rfl (hd 11 rfl) <| jo_nil ?_
              refine ⟨i + 1, ?_, ?_, rfl, cov_n 31 rfl rfl ?_⟩
              · exact cut_next hlb hx0 hdm hiz hz0
              · have := cut_next hlb hx0 hdm hiz hz0
                omega
              · exact (.cons rfl (.u (.u (.u (.u (.u (.u (.u (.u (.u (.u (.u (.u (.u (.u .nil)))))))))))))))
            · refine jc_exit ?_
              refine ⟨i, ?_, rfl, cov_n 28 rfl rfl ?_⟩
              · exact cut_at hlb hx0 hdm hiz (by first | (left; omega) | (right; assumption))
              · exact (.cons rfl (.u (.u (.u (.u (.u (.u (.u (.u (.u (.u (.u (.u (.u (.u .nil)))))))))))))))
          · refine jo_s 62 rfl rfl rfl (hd 63 rfl) <| jo_s 62 rfl rfl rfl (hd 64 rfl) <| jo_s 62 rfl rfl rfl (hd 65 rfl) <| jo_s 62 rfl rfl rfl (hd 66 rfl) <| jo_s 62 rfl rfl rfl (hd 67 rfl) <| jo_l (ly_pick_f rfl rfl) (hd 68 rfl) <| jo_nil <| jc_litf rfl <| jc_exit ?_
            refine ⟨i, ?_, rfl, cov_n 28 rfl rfl ?_⟩
            · exact cut_at hlb hx0 hdm hiz (by first | (left; omega) | (right; assumption))
            · exact (.cons rfl (.u (.u (.u (.u (.u (.u (.u (.u (.u (.u (.u (.u (.u (.u .nil)))))))))))))))
      · rintro i hiz
        have hdr := cut_drop (m := 2 ^ (k + 1)) hlb hx0
        have hR1l : (hdg b 1 (vl l).toNat).length = (hdg b (2 ^ (k + 1)) (vl l).toNat).length - i := by rw [← hdr, List.length_drop, hiz]
        refine zsr <| zmv rfl (hd 71 rfl) <| zmv rfl (hd 72 rfl) <| jo_l (ly_slo (l := i) (h := (hdg b (2 ^ (k + 1)) (vl l).toNat).length) (r := i) (n := (hdg b (2 ^ (k + 1)) (vl l).toNat).length - i) sl1122 rfl rfl (bnd_some' rfl rfl) bnd_none (by omega) (Nat.le_refl _) (by omega) rfl) (hd 73 rfl) <| jo_h (hy_app0 (id := 5) el1122 rfl rfl (src_oo rfl (by omega)) (by omega) (by show _ ≤ 9223372036854775807; omega) rfl) (hd 74 rfl) <| zas rfl (hd 4 rfl) <| jo_nil <| jc_ret ?_
        refine ⟨[5], _, (.o 0 0 0 ((hdg b (2 ^ (k + 1)) (vl l).toNat).length - i)), (.cons rfl .nil), rfl, rfl, (by decide), (idless_cons ints_id idless_nil), ?_⟩
        exact ⟨by rw [hR1l], by show [(⟨3, 1, 0, true, ints .i64 (((hdg b (2 ^ (k + 1)) (vl l).toNat).drop i).take ((hdg b (2 ^ (k + 1)) (vl l).toNat).length - i))⟩ : Ob)] = [⟨3, 1, 0, true, ints .i64 (hdg b 1 (vl l).toNat)⟩]; rw [List.take_of_length_le (by rw [List.length_drop]; exact Nat.le_refl _), hiz, hdr]⟩

theorem text_s (l : List Int) (hl : l.length < 1099511627776) (hr : rng 36 l) : Spec Tryz.prog 100 [.n false .i64 l] (fun o => o = .ret (.n true .u8 (bytesI (txt l)))) := by
  refine spec_of' [(0, .n false .i64 l)] rfl Tryz.func100 rfl (zlb rfl) fun Γ hN hds hL hR => ?_
  have hd := hdOf 23 hN
  refine zsr <| zas rfl (hd 2 rfl) <| jo_nil <| zsr <| zmv rfl (hd 6 rfl) <| jo_l (ly_lenn sl1122 rfl) (hd 7 rfl) <| jo_h (hy_mk (m := l.length) el1120 rfl rfl rfl (by show 1 * l.length ≤ _; omega) (by unfold maxLen; omega) rfl) (hd 8 rfl) <| zas rfl (hd 3 rfl) <| jo_nil <| jc_seq <| jc_seq ?_; refine jc_H (H' := [⟨5, 1, 0, true, ints .u8 (cpI (l.map ltr) 0)⟩]) (by rw [← cpI_0, List.length_map]; rfl) <| jc_region <| zmv rfl (hd 9 rfl) <| jo_l (ly_lenn sl1122 rfl) (hd 10 rfl) <| zmv rfl (hd 11 rfl) <| jo_nil <| jc_block ?_
  refine jc_loopF (G := Nat) (fun i => i ≤ l.length) (fun i => [(11, .i .i64 (i : Int)), (4, .u), (5, .u), (12, .u), (13, .u), (14, .u), (15, .u), (16, .u), (17, .u), (18, .u), (19, .u), (20, .u), (21, .u)]) (fun i => [⟨5, 1, 0, true, ints .u8 (cpI (l.map ltr) i)⟩]) (fun i => l.length - i) 0 ?_ ?_ rfl ?_
  · exact Nat.zero_le _
  · exact (.cons rfl (.u (.u (.u (.u (.u (.u (.u (.u (.u (.u (.u (.u .nil)))))))))))))
  · rintro i hi
    have hcl := cpI_len (l := l.map ltr) (i := i) (by rw [List.length_map]; exact hi)
    rw [List.length_map] at hcl
    have hx := rng_getD (by decide) hr i
    refine zsr <| jo_l (ly_lt rfl rfl) (hd 12 rfl) <| jo_nil <| jc_seq ?_
    refine jc_if rfl (fun h1 => ?_) (fun h1 => ?_)
    · refine jc_skip <| jc_seq <| jc_block <| zsr <| zmv rfl (hd 13 rfl) <| jo_l (ly_ian (i := i) sl1122 rfl rfl (by first | rfl | omega) (by omega)) (hd 14 rfl) <| jo_l (ly_ldq one3 rfl rfl) (hd 15 rfl) <| zas rfl (hd 4 rfl) <| zas rfl (hd 5 rfl) <| jo_nil <| jc_region <| zmv rfl (hd 16 rfl) ?_; refine zmv rfl (hd 17 rfl) <| zmv rfl (hd 18 rfl) <| jo_l (ly_ixs (b := ltrTab) (i := (l.getD i 0).toNat) und9 (by kernel_rfl) rfl (by omega) (by show _ < 36; omega)) (hd 19 rfl) <| jo_l (ly_ia (i := i) sl1120 rfl rfl rfl (by first | rfl | omega) (by omega) rfl) (hd 20 rfl) <| jo_st (sy_storei rfl rfl rfl one5 (by first | omega | (dsimp only; omega))) <| jo_nil <| jc_region <| jo_l (ly_add rfl rfl (r := ((i + 1 : Nat) : Int)) (by rw [wrap_i64 (by omega) (by omega)]; omega)) (hd 21 rfl) <| zmv rfl (hd 11 rfl) <| jo_nil ?_
      refine ⟨i + 1, ?_, ?_, (by show [(⟨5, 1, 0, true, ints .u8 _⟩ : Ob)] = [⟨5, 1, 0, true, ints .u8 _⟩]; rw [← cpI_set (by rw [List.length_map]; omega), txt_getD (by omega)]; rfl), cov_n 26 rfl rfl ?_⟩
      · omega
      · omega
      · exact (.cons rfl (.u (.u (.u (.u (.u (.u (.u (.u (.u (.u (.u (.u .nil)))))))))))))
    · refine jc_exit <| jc_seq ?_
      obtain rfl : i = l.length := by omega
      refine jc_frz (k := .u8) (l := cpI (l.map ltr) l.length) (l' := bytesI (txt l)) 3 rfl rfl (by rw [hcl]; omega) (by rw [txt_I, List.drop_zero, List.take_of_length_le (by omega)]; have h := cpI_all (l.map ltr); rwa [List.length_map] at h) hL <| jc_region <| zmv rfl (hd 22 rfl) <| zas rfl (hd 2 rfl) <| jo_nil <| jc_ret ?_
      refine ⟨_, _, (.cons rfl .nil), .n, ?_⟩
      rfl

theorem good_y (b : Nat) (hb : 2 ≤ b) (hb2 : b ≤ 36) : Spec Tryz.prog 99 [.i .i64 (b : Int)] (fun o => o = .ret (.b true)) := by
  refine spec_of' [(0, .i .i64 (b : Int))] rfl Tryz.func99 rfl (zlb rfl) fun Γ hN hds hL hR => ?_
  have hd := hdOf 9 hN
  refine zsr <| zas rfl (hd 2 rfl) <| jo_nil <| zsr <| zmv rfl (hd 3 rfl) <| jo_l (ly_tt (ly_ge rfl rfl) (by omega)) (hd 4 rfl) <| zmv rfl (hd 5 rfl) <| jo_g 5 rfl rfl (ly_mv rfl) (hd 6 rfl) <| jo_g 5 rfl rfl (ly_tt (ly_le rfl rfl) (by omega)) (hd 7 rfl) <| jo_l (ly_pick_t rfl rfl) (hd 8 rfl) <| zas rfl (hd 2 rfl) ?_; refine jo_nil <| jc_ret ?_
  refine ⟨_, _, (.cons rfl .nil), .b, ?_⟩
  exact rfl

theorem Print_s (l : List Int) (b : Nat) (hl : l.length ≤ 1048576) (hu : u64s l) (hlb : 2 ≤ b) (hb2 : b ≤ 36) : Spec Tryz.prog 66 [.n false .u64 l, .i .i64 (b : Int)] (fun o => o = .ret (.t [.s (txt (hdg b 1 (vl l).toNat)), .i .i64 0])) := by
  refine spec_of' [(0, .n false .u64 l), (1, .i .i64 (b : Int))] rfl Tryz.func66 rfl (zlb rfl) fun Γ hN hds hL hR => ?_
  have hd := hdOf 14 hN
  have hRl : (hdg b 1 (vl l).toNat).length ≤ 67108864 := by rw [hdg_le]; have h1 := digs_le_len hu hlb; omega
  refine zsr <| zas rfl (hd 4 rfl) <| zas rfl (hd 5 rfl) <| jo_nil <| jc_seq <| zsr <| zmv rfl (hd 6 rfl) ?_
  refine jo_call Tryz.f99 (good_y b hlb hb2) rfl Tryz.func99 rfl rfl (ovL_cons rfl ovL_nil) (.cons .i .nil) (hd 7 rfl) ?_ (fun ch hp => by simp at hp)
  rintro _ ⟨⟩; refine jo_l (ly_not rfl) (hd 8 rfl) <| jo_nil <| jc_litf rfl <| jc_skip <| zsr <| zmv rfl (hd 9 rfl) <| zmv rfl (hd 10 rfl) ?_
  refine jo_callN Tryz.f101 (all_n l b hl hu hlb hb2) (fun o G ⟨_, h⟩ => h ▸ idless_cons ints_id idless_nil) rfl Tryz.func101 rfl rfl (ovL_cons rfl (ovL_cons rfl ovL_nil)) (.cons .n (.cons .i .nil)) (hd 11 rfl) ?_ (fun ch G hp => by simp at hp)
  rintro y G ⟨hy, rfl⟩; injection hy with hy; subst hy
  show JO _ _ _ _ ((11, .o 0 0 0 (hdg b 1 (vl l).toNat).length) :: _) _ _
  refine jo_frz (k := .i64) (l := (hdg b 1 (vl l).toNat)) (l' := (hdg b 1 (vl l).toNat)) 11 rfl rfl (by omega) (by rw [List.drop_zero, List.take_length]) hL ?_
  refine jo_call Tryz.f100 (text_s (hdg b 1 (vl l).toNat) (by omega) (rng36 hb2 (hdg_rng hlb _ _))) rfl Tryz.func100 rfl rfl (ovL_cons rfl ovL_nil) (.cons .n .nil) (hd 12 rfl) ?_ (fun ch hp => by simp at hp)
  rintro _ ⟨⟩; refine jo_l (ly_b2s undS1120 und5 und9 rfl) (hd 13 rfl) <| zas rfl (hd 4 rfl) <| zas rfl (hd 5 rfl) <| jo_nil <| jc_ret ?_
  refine ⟨_, _, (.cons rfl (.cons rfl .nil)), (.t1 .s (.t1 .i .t0)), ?_⟩
  exact rfl
























theorem Gcd_v (l l2 : List Int) (x y : Nat) (hl : l.length ≤ 1048576) (hl2 : l2.length ≤ 1048576) (hu : u64s l) (hu2 : u64s l2) (hx : vl l = (x : Int)) (hy : vl l2 = (y : Int)) : Spec Tryz.prog 33 [.n false .u64 l, .n false .u64 l2] (fun o => o = .ret (.n false .u64 (lm ((Nat.gcd x y : Nat) : Int)))) := by
  refine spec_of' [(0, .n false .u64 l), (1, .n false .u64 l2)] rfl Tryz.func33 rfl (zlb rfl) fun Γ hN hds hL hR => ?_
  have hd := hdOf 23 hN
  have hlx : lenV (x : Int) ≤ 67108864 := by have h9 := lenV_64 (s := false) hu; rw [show sv false l = (x : Int) from hx] at h9; omega
  have hly : lenV (y : Int) ≤ 67108864 := by have h9 := lenV_64 (s := false) hu2; rw [show sv false l2 = (y : Int) from hy] at h9; omega
  have hNa : Spec Tryz.prog 51 [.n false .u64 l] (fun o => o = .ret (.n false .u64 (lm (x : Int)))) := by have h := Norm_s l (by omega); rw [trm_lm hu hx] at h; exact h.nn
  have hNb : Spec Tryz.prog 51 [.n false .u64 l2] (fun o => o = .ret (.n false .u64 (lm (y : Int)))) := by have h := Norm_s l2 (by omega); rw [trm_lm hu2 hy] at h; exact h.nn
  refine zsr <| zas rfl (hd 4 rfl) <| jo_nil <| zsr <| zmv rfl (hd 7 rfl) ?_
  refine jo_call Tryz.f51 (hNa) rfl Tryz.func51 rfl rfl (ovL_cons rfl ovL_nil) (.cons .n .nil) (hd 8 rfl) ?_ (fun ch hp => by simp at hp)
  rintro _ ⟨⟩; refine zmv rfl (hd 9 rfl) ?_
  refine jo_call Tryz.f51 (hNb) rfl Tryz.func51 rfl rfl (ovL_cons rfl ovL_nil) (.cons .n .nil) (hd 10 rfl) ?_ (fun ch hp => by simp at hp)
  rintro _ ⟨⟩; refine zas rfl (hd 0 rfl) <| zas rfl (hd 1 rfl) <| jo_nil <| jc_seq <| jc_block ?_
  refine jc_loopF (G := Nat × Nat) (fun g => Nat.gcd g.1 g.2 = Nat.gcd x y ∧ lenV (g.1 : Int) ≤ 67108864 ∧ lenV (g.2 : Int) ≤ 67108864) (fun g => [(0, .n false .u64 (lm (g.1 : Int))), (1, .n false .u64 (lm (g.2 : Int))), (5, .u), (6, .u), (11, .u), (12, .u), (13, .u), (14, .u), (15, .u), (16, .u), (17, .u), (18, .u), (19, .u), (20, .u), (21, .u)]) (fun _ => _) (fun g => g.2) (x, y) ?_ ?_ rfl ?_
  · exact ⟨rfl, hlx, hly⟩
  · exact (.cons rfl (.cons rfl (.u (.u (.u (.u (.u (.u (.u (.u (.u (.u (.u (.u (.u .nil)))))))))))))))
  · rintro ⟨u, v⟩ ⟨hc1, hc2, hc3⟩
    dsimp only at hc1 hc2 hc3
    have hmu := lenV_lm hc2
    have hmv := lenV_lm hc3
    refine jc_seq <| zsr <| zmv rfl (hd 11 rfl) <| jo_l (ly_lenn sl28 rfl) (hd 12 rfl) <| jo_l (ly_gt rfl rfl) (hd 13 rfl) <| jo_nil ?_
    refine jc_if rfl (fun h1 => ?_) (fun h1 => ?_)
    · have hv0 : v ≠ 0 := fun e => by subst e; have h9 : (0 : Int) < ((lm ((0 : Nat) : Int)).length : Int) := h1; rw [show ((0 : Nat) : Int) = 0 from rfl, lm_0] at h9; simp at h9
      have hDv : Spec Tryz.prog 80 [.n false .u64 (lm (u : Int)), .n false .u64 (lm (v : Int))] (fun o => o = .ret (.t [.n false .u64 (lm (qn (u : Int) (v : Int))), .n false .u64 (lm ((u % v : Nat) : Int))])) := by have h := divide_v (u : Int) (v : Int) (by omega) (by omega) (by omega); rwa [rn_nt] at h
      refine jc_skip <| jc_block <| zsr <| zmv rfl (hd 15 rfl) <| zmv rfl (hd 16 rfl) ?_
      refine jo_call Tryz.f80 (hDv) rfl Tryz.func80 rfl rfl (ovL_cons rfl (ovL_cons rfl ovL_nil)) (.cons .n (.cons .n .nil)) (hd 17 rfl) ?_ (fun ch hp => by simp at hp)
      rintro _ ⟨⟩; refine zmv rfl (hd 14 rfl) <| jo_l (ly_ext rfl rfl) (hd 18 rfl) <| jo_l (ly_ext rfl rfl) (hd 19 rfl) <| zas rfl (hd 5 rfl) <| zas rfl (hd 6 rfl) <| jo_nil <| jc_region <| zmv rfl (hd 20 rfl) <| zmv rfl (hd 21 rfl) <| zas rfl (hd 0 rfl) <| zas rfl (hd 1 rfl) <| jo_nil ?_
      refine ⟨(v, u % v), ?_, ?_, rfl, cov_n 30 rfl rfl ?_⟩
      · exact ⟨by rw [← hc1]; exact gcd_step, hc3, Nat.le_trans (lenV_mono (by have := Nat.mod_le u v; dsimp only; omega)) hc2⟩
      · exact Nat.mod_lt _ (by omega)
      · exact (.cons rfl (.cons rfl (.u (.u (.u (.u (.u (.u (.u (.u (.u (.u (.u (.u (.u .nil)))))))))))))))
    · have hv0 : v = 0 := Decidable.byContradiction fun hc => h1 (by have h9 := List.length_pos_iff.2 (lm_ne (show (v : Int) ≠ 0 by omega)); show (0 : Int) < ((lm (v : Int)).length : Int); omega)
      subst hv0
      rw [Nat.gcd_zero_right] at hc1
      refine jc_exit <| zsr <| zmv rfl (hd 22 rfl) <| zas rfl (hd 4 rfl) <| jo_nil <| jc_ret ?_
      refine ⟨_, _, (.cons rfl .nil), .n, ?_⟩
      rw [← hc1]

theorem WMul_rv (s t : Bool) (a b : List Int) (v x : Int) (hla : a.length < 4294967296) (hlb : b.length < 4294967296) (ua : u64s a) (ub : u64s b) (hv : sv s a = v) (hx : sv t b = x) (h : lenV (v * x) ≤ 67108864) : Spec Tryz.prog 37 [.a [.b s, .n false .u64 a], .a [.b t, .n false .u64 b]] (fun o => o = .ret (.t [.a [.b (decide ((v * x) < 0)), .n true .u64 (lm (v * x))], .i .i64 0])) :=
  (WMul_l s t a b hla hlb ua ub).mono fun o ⟨s2, r, e, ho, hR⟩ => by
    rw [hv, hx] at hR
    rcases hR with ⟨_, h1, h2, h3⟩ | ⟨hb, _⟩
    · subst h1; subst h2; subst h3; exact ho
    · omega

theorem WAdd_rv (s t : Bool) (a b : List Int) (v x : Int) (hla : a.length < 4294967296) (hlb : b.length < 4294967296) (ua : u64s a) (ub : u64s b) (hv : sv s a = v) (hx : sv t b = x) (h : lenV (v + x) ≤ 67108864) : Spec Tryz.prog 38 [.a [.b s, .n false .u64 a], .a [.b t, .n false .u64 b]] (fun o => o = .ret (.t [.a [.b (decide ((v + x) < 0)), .n true .u64 (lm (v + x))], .i .i64 0])) :=
  (WAdd_l s t a b hla hlb ua ub).mono fun o ⟨s2, r, e, ho, hR⟩ => by
    rw [hv, hx] at hR
    rcases hR with ⟨_, h1, h2, h3⟩ | ⟨hb, _⟩
    · subst h1; subst h2; subst h3; exact ho
    · omega


theorem parts_0 (s : Bool) (l d : List Int) (y : Nat) (hx : Rw l 0) (hy : Rw d y) (h0 : y ≠ 0) : Spec Tryz.prog 79 [(.a [.b s, .n false .u64 l, .n false .u64 d])] (fun o => o = .ret (.t [.b (sgq s 0), .n false .u64 (lm ((rn0 0 y : Nat) : Int)), .n false .u64 (lm ((rd0 0 y : Nat) : Int))])) := by
  refine spec_of' [(0, (.a [.b s, .n false .u64 l, .n false .u64 d]))] rfl Tryz.func79 rfl (zlb rfl) fun Γ hN hds hL hR => ?_
  have hd := hdOf 42 hN
  have hNl : Spec Tryz.prog 51 [.n false .u64 l] (fun o => o = .ret (.n true .u64 (lm ((0 : Nat) : Int)))) := by have h := Norm_s l (by have := hx.l; omega); rw [hx.t] at h; exact h
  have hNd : Spec Tryz.prog 51 [.n false .u64 d] (fun o => o = .ret (.n true .u64 (lm (y : Int)))) := by have h := Norm_s d (by have := hy.l; omega); rw [hy.t] at h; exact h
  have hF1 : Spec Tryz.prog 68 [.i .u64 1] (fun o => o = .ret (.n true .u64 [1])) := by have h := From_s 1; rwa [if_neg (by decide)] at h
  have hly := mt lm_len0.1 h0
  refine zsr <| jo_h (hy_box (id := 0) (n := 3) rfl rfl rfl (by decide) rfl) (hd 1 rfl) <| zas rfl (hd 2 rfl) <| zas rfl (hd 3 rfl) <| zas rfl (hd 4 rfl) <| jo_nil <| jc_seq <| jc_draw (n := 9) _ rfl mixed <| zal2 0 [1, 2, 3, 6, 7, 8] (lo_l (ly_fa fld1027_0 rfl rfl rfl) (hd 8 rfl)) rfl <| zal2 1 [2, 3, 6, 7, 8] (lo_l (ly_fa fld30_1 rfl rfl rfl) (hd 9 rfl)) rfl <| zal2 2 [3, 6, 7, 8] (lo_l (ly_ld one28 rfl rfl rfl) (hd 10 rfl)) rfl <| zal2 4 [5, 6, 7, 8] (lo_l (ly_fa fld1027_1 rfl rfl rfl) (hd 12 rfl)) rfl ?_; refine zal2 5 [6, 7, 8] (lo_l (ly_ld one28 rfl rfl rfl) (hd 13 rfl)) rfl ?_
  refine ja_1 3 ?_ rfl (by kernel_rfl)
  refine js_call Tryz.f51 (hNl) rfl Tryz.func51 rfl rfl (ovL_cons rfl ovL_nil) (.cons .n .nil) (hd 11 rfl) ?_ (fun ch hp => by simp at hp)
  rintro y hy; injection hy with hy; subst hy
  refine ja_1 6 ?_ rfl (by kernel_rfl)
  refine js_call Tryz.f51 (hNd) rfl Tryz.func51 rfl rfl (ovL_cons rfl ovL_nil) (.cons .n .nil) (hd 14 rfl) ?_ (fun ch hp => by simp at hp)
  rintro _ ⟨⟩; refine zal 7 (lo_l (ly_as rfl) (hd 5 rfl)) rfl <| zal 8 (lo_l (ly_as rfl) (hd 6 rfl)) rfl <| ja_nil (by kernel_rfl) <| jc_seq <| zsr <| zmv rfl (hd 15 rfl) <| jo_l (ly_lenn sl28 rfl) (hd 16 rfl) <| jo_l (ly_ff (ly_eq rfl rfl) (by omega)) (hd 17 rfl) <| jo_nil <| jc_litf rfl <| jc_skip <| jc_seq ?_; refine zsr <| zmv rfl (hd 20 rfl) <| jo_l (ly_lenn sl28 rfl) (hd 21 rfl) <| jo_l (ly_tt (ly_eq rfl rfl) (by rw [show ((0 : Nat) : Int) = 0 from rfl, lm_0]; rfl)) (hd 22 rfl) <| jo_nil <| jc_litt rfl <| jc_seq <| jc_region ?_
  refine jo_call Tryz.f68 (hF1) rfl Tryz.func68 rfl rfl (ovL_cons rfl ovL_nil) (.cons .i .nil) (hd 23 rfl) ?_ (fun ch hp => by simp at hp)
  rintro _ ⟨⟩; refine zas rfl (hd 2 rfl) <| zas rfl (hd 3 rfl) <| zas rfl (hd 4 rfl) <| jo_nil <| jc_ret ?_
  refine ⟨_, _, (.cons rfl (.cons rfl (.cons rfl .nil))), (.t1 .b (.t1 (.nil (fr := false) (k := .u64)) (.t1 .nn .t0))), ?_⟩
  rw [rn0_0, rd0_0 h0, lm_1n, show ((0 : Nat) : Int) = 0 from rfl, lm_0, sgq_0]

theorem parts_p (s : Bool) (l d : List Int) (x y : Nat) (hx : Rw l x) (hy : Rw d y) (h0 : y ≠ 0) (h1 : x ≠ 0) : Spec Tryz.prog 79 [(.a [.b s, .n false .u64 l, .n false .u64 d])] (fun o => o = .ret (.t [.b (sgq s x), .n false .u64 (lm ((rn0 x y : Nat) : Int)), .n false .u64 (lm ((rd0 x y : Nat) : Int))])) := by
  refine spec_of' [(0, (.a [.b s, .n false .u64 l, .n false .u64 d]))] rfl Tryz.func79 rfl (zlb rfl) fun Γ hN hds hL hR => ?_
  have hd := hdOf 42 hN
  have hNl : Spec Tryz.prog 51 [.n false .u64 l] (fun o => o = .ret (.n true .u64 (lm (x : Int)))) := by have h := Norm_s l (by have := hx.l; omega); rw [hx.t] at h; exact h
  have hNd : Spec Tryz.prog 51 [.n false .u64 d] (fun o => o = .ret (.n true .u64 (lm (y : Int)))) := by have h := Norm_s d (by have := hy.l; omega); rw [hy.t] at h; exact h
  have hly := mt lm_len0.1 h0
  have hlx := mt lm_len0.1 h1
  have hGc : Spec Tryz.prog 33 [.n false .u64 (lm (x : Int)), .n false .u64 (lm (y : Int))] (fun o => o = .ret (.n false .u64 (lm ((Nat.gcd x y : Nat) : Int)))) := Gcd_v (lm (x : Int)) (lm (y : Int)) x y (Rw.of hx.b).l (Rw.of hy.b).l (lm_u _) (lm_u _) (Rw.of hx.b).v (Rw.of hy.b).v
  have hQx : Spec Tryz.prog 35 [.n false .u64 (lm (x : Int)), .n false .u64 (lm ((Nat.gcd x y : Nat) : Int))] (fun o => o = .ret (.t [.n false .u64 (lm ((rn0 x y : Nat) : Int)), .i .i64 0])) := by have h := Quo_v (x : Int) ((Nat.gcd x y : Nat) : Int) hx.b (gcd_b h0 hy.b) (by have := gcd_pos' (x := x) h0; omega); rw [qn_nt] at h; exact h
  have hQy : Spec Tryz.prog 35 [.n false .u64 (lm (y : Int)), .n false .u64 (lm ((Nat.gcd x y : Nat) : Int))] (fun o => o = .ret (.t [.n false .u64 (lm ((rd0 x y : Nat) : Int)), .i .i64 0])) := by have h := Quo_v (y : Int) ((Nat.gcd x y : Nat) : Int) hy.b (gcd_b h0 hy.b) (by have := gcd_pos' (x := x) h0; omega); rw [qn_nt] at h; exact h
  refine zsr <| jo_h (hy_box (id := 0) (n := 3) rfl rfl rfl (by decide) rfl) (hd 1 rfl) <| zas rfl (hd 2 rfl) <| zas rfl (hd 3 rfl) <| zas rfl (hd 4 rfl) <| jo_nil <| jc_seq <| jc_draw (n := 9) _ rfl mixed <| zal2 0 [1, 2, 3, 6, 7, 8] (lo_l (ly_fa fld1027_0 rfl rfl rfl) (hd 8 rfl)) rfl <| zal2 1 [2, 3, 6, 7, 8] (lo_l (ly_fa fld30_1 rfl rfl rfl) (hd 9 rfl)) rfl <| zal2 2 [3, 6, 7, 8] (lo_l (ly_ld one28 rfl rfl rfl) (hd 10 rfl)) rfl <| zal2 4 [5, 6, 7, 8] (lo_l (ly_fa fld1027_1 rfl rfl rfl) (hd 12 rfl)) rfl ?_; refine zal2 5 [6, 7, 8] (lo_l (ly_ld one28 rfl rfl rfl) (hd 13 rfl)) rfl ?_
  refine ja_1 3 ?_ rfl (by kernel_rfl)
  refine js_call Tryz.f51 (hNl) rfl Tryz.func51 rfl rfl (ovL_cons rfl ovL_nil) (.cons .n .nil) (hd 11 rfl) ?_ (fun ch hp => by simp at hp)
  rintro y hy; injection hy with hy; subst hy
  refine ja_1 6 ?_ rfl (by kernel_rfl)
  refine js_call Tryz.f51 (hNd) rfl Tryz.func51 rfl rfl (ovL_cons rfl ovL_nil) (.cons .n .nil) (hd 14 rfl) ?_ (fun ch hp => by simp at hp)
  rintro _ ⟨⟩; refine zal 7 (lo_l (ly_as rfl) (hd 5 rfl)) rfl <| zal 8 (lo_l (ly_as rfl) (hd 6 rfl)) rfl <| ja_nil (by kernel_rfl) <| jc_seq <| zsr <| zmv rfl (hd 15 rfl) <| jo_l (ly_lenn sl28 rfl) (hd 16 rfl) <| jo_l (ly_ff (ly_eq rfl rfl) (by omega)) (hd 17 rfl) <| jo_nil <| jc_litf rfl <| jc_skip <| jc_seq ?_; refine zsr <| zmv rfl (hd 20 rfl) <| jo_l (ly_lenn sl28 rfl) (hd 21 rfl) <| jo_l (ly_ff (ly_eq rfl rfl) (by omega)) (hd 22 rfl) <| jo_nil <| jc_litf rfl <| jc_skip <| zsr <| zmv rfl (hd 24 rfl) <| zmv rfl (hd 25 rfl) ?_
  refine jo_call Tryz.f33 (hGc) rfl Tryz.func33 rfl rfl (ovL_cons rfl (ovL_cons rfl ovL_nil)) (.cons .n (.cons .n .nil)) (hd 26 rfl) ?_ (fun ch hp => by simp at hp)
  rintro _ ⟨⟩; refine zas rfl (hd 7 rfl) <| jo_nil <| jc_seq <| jc_draw (n := 18) _ rfl mixed <| zal2 0 [1, 2, 15, 16, 17] (lo_l (ly_fa fld1027_0 rfl rfl rfl) (hd 27 rfl)) rfl <| zal 1 (lo_l (ly_fa fld30_0 rfl rfl rfl) (hd 28 rfl)) rfl <| zal 2 (lo_l (ly_ld one4 rfl rfl rfl) (hd 29 rfl)) rfl <| zal2 3 [5, 6, 7, 8, 11, 12, 13, 14, 15, 16, 17] (lo_l (ly_mv rfl) (hd 30 rfl)) rfl <| zal2 4 [5, 6, 7, 8, 11, 12, 13, 14, 15, 16, 17] (lo_l (ly_mv rfl) (hd 31 rfl)) rfl <| zal2 9 [11, 12, 13, 14, 15, 16, 17] (lo_l (ly_mv rfl) (hd 36 rfl)) rfl <| zal2 10 [11, 12, 13, 14, 15, 16, 17] (lo_l (ly_mv rfl) (hd 37 rfl)) rfl ?_
  refine ja_1 5 ?_ rfl (by kernel_rfl)
  refine js_call Tryz.f35 (hQx) rfl Tryz.func35 rfl rfl (ovL_cons rfl (ovL_cons rfl ovL_nil)) (.cons .n (.cons .n .nil)) (hd 32 rfl) ?_ (fun ch hp => by simp at hp)
  rintro _ ⟨⟩; refine zal2 6 [8, 11, 12, 13, 14, 15, 16, 17] (lo_l (ly_ext rfl rfl) (hd 33 rfl)) rfl <| zal2 7 [8, 11, 12, 13, 14, 15, 16, 17] (lo_l (ly_ext rfl rfl) (hd 34 rfl)) rfl ?_
  refine ja_1 8 ?_ rfl (by kernel_rfl)
  refine js_call Tryz.f34 (mustN _) rfl Tryz.func34 rfl rfl (ovL_cons rfl (ovL_cons rfl ovL_nil)) (.cons .n (.cons .i .nil)) (hd 35 rfl) ?_ (fun ch hp => by simp at hp)
  rintro y hy; injection hy with hy; subst hy
  refine ja_1 11 ?_ rfl (by kernel_rfl)
  refine js_call Tryz.f35 (hQy) rfl Tryz.func35 rfl rfl (ovL_cons rfl (ovL_cons rfl ovL_nil)) (.cons .n (.cons .n .nil)) (hd 38 rfl) ?_ (fun ch hp => by simp at hp)
  rintro _ ⟨⟩; refine zal2 12 [14, 15, 16, 17] (lo_l (ly_ext rfl rfl) (hd 39 rfl)) rfl <| zal2 13 [14, 15, 16, 17] (lo_l (ly_ext rfl rfl) (hd 40 rfl)) rfl ?_
  refine ja_1 14 ?_ rfl (by kernel_rfl)
  refine js_call Tryz.f34 (mustN _) rfl Tryz.func34 rfl rfl (ovL_cons rfl (ovL_cons rfl ovL_nil)) (.cons .n (.cons .i .nil)) (hd 41 rfl) ?_ (fun ch hp => by simp at hp)
  rintro _ ⟨⟩; refine zal 15 (lo_l (ly_as rfl) (hd 2 rfl)) rfl <| zal 16 (lo_l (ly_as rfl) (hd 3 rfl)) rfl <| zal 17 (lo_l (ly_as rfl) (hd 4 rfl)) rfl <| ja_nil (by kernel_rfl) <| jc_ret ?_
  refine ⟨_, _, (.cons rfl (.cons rfl (.cons rfl .nil))), (.t1 .b (.t1 .n (.t1 .n .t0))), ?_⟩
  rw [sgq_p h1]

theorem parts_s (s : Bool) (l d : List Int) (x y : Nat) (hx : Rw l x) (hy : Rw d y) (h0 : y ≠ 0) : Spec Tryz.prog 79 [(.a [.b s, .n false .u64 l, .n false .u64 d])] (fun o => o = .ret (.t [.b (sgq s x), .n false .u64 (lm ((rn0 x y : Nat) : Int)), .n false .u64 (lm ((rd0 x y : Nat) : Int))])) := by
  by_cases h1 : x = 0
  · subst h1; exact parts_0 s l d y hx hy h0
  · exact parts_p s l d x y hx hy h0 h1

theorem qnorm_s (s : Bool) (l d : List Int) (x y : Nat) (hx : Rw l x) (hy : Rw d y) (h0 : y ≠ 0) : Spec Tryz.prog 32 [(.a [.b s, .n false .u64 l, .n false .u64 d])] (fun o => o = .ret (.a [.b (sgq s x), .n false .u64 (lm ((rn0 x y : Nat) : Int)), .n false .u64 (lm ((rd0 x y : Nat) : Int))])) := by
  refine spec_of' [(0, (.a [.b s, .n false .u64 l, .n false .u64 d]))] rfl Tryz.func32 rfl (zlb rfl) fun Γ hN hds hL hR => ?_
  have hd := hdOf 17 hN
  refine zsr <| jo_h (hy_box (id := 0) (n := 3) rfl rfl rfl (by decide) rfl) (hd 1 rfl) <| jo_h (hy_alloc (id := 1) zero1027 (by decide) rfl (by decide) rfl) (hd 2 rfl) <| jo_nil <| zsr <| jo_l (ly_lda agg1027 rfl rfl rfl rfl) (hd 7 rfl) ?_
  refine jo_call Tryz.f79 (parts_s s l d x y hx hy h0) rfl Tryz.func79 rfl rfl (ovL_cons rfl ovL_nil) (.cons (.a1 .b (.a1 .n (.a1 .n .a0))) .nil) (hd 8 rfl) ?_ (fun ch hp => by simp at hp)
  rintro _ ⟨⟩; refine zmv rfl (hd 6 rfl) <| jo_l (ly_ext rfl rfl) (hd 9 rfl) <| jo_l (ly_ext rfl rfl) (hd 10 rfl) <| jo_l (ly_ext rfl rfl) (hd 11 rfl) <| zas rfl (hd 3 rfl) <| zas rfl (hd 4 rfl) <| zas rfl (hd 5 rfl) <| jo_nil <| zsr <| zmv rfl (hd 12 rfl) <| zmv rfl (hd 13 rfl) <| jo_l (ly_build (is := [0, 1]) (xs := [.tmp 12, .tmp 13]) zero30 pls30_0_1 rfl (ovL_cons rfl (ovL_cons rfl ovL_nil)) rfl (by first | (simp [plsOk, cellsV]; done) | (simp [plsOk, cellsV, old]; done)) (all_of rfl) rfl) (hd 14 rfl) ?_; refine zmv rfl (hd 15 rfl) <| jo_l (ly_build (is := [0, 1]) (xs := [.tmp 14, .tmp 15]) zero1027 pls1027_0_1 rfl (ovL_cons rfl (ovL_cons rfl ovL_nil)) rfl ⟨rfl, (by decide), rfl, (by decide), trivial⟩ (all_of rfl) rfl) (hd 16 rfl) <| jo_st (sy_store rfl rfl rfl siz1027 rfl rfl (zlb rfl)) <| jo_nil <| jc_ret ?_
  refine ⟨_, _, (.cons (ResV.cell agg1027 rfl rfl rfl rfl) .nil), (.a1 .b (.a1 .n (.a1 .n .a0))), ?_⟩
  exact rfl


theorem looked_g (rs : List (Bool × List Int × List Int)) (hr : ∀ r ∈ rs, r.2.2.length ≤ 1048576 ∧ u64s r.2.2) (hrl : rs.length ≤ 1000) : Spec Tryz.prog 31 [.l false 3 (rtsV rs)] (fun o => o = lkO 100 rs) := by
  refine spec_of' [(0, .l false 3 (rtsV rs))] rfl Tryz.func31 rfl (zlb rfl) fun Γ hN hds hL hR => ?_
  have hd := hdOf 17 hN
  refine zsr <| zmv rfl (hd 4 rfl) <| jo_l (ly_lenl sl1084 rfl) (hd 5 rfl) <| zmv rfl (hd 6 rfl) <| jo_nil <| jc_block ?_
  refine jc_loopD (G := Nat) 0 (fun i => i ≤ rs.length ∧ ∀ j < i, vl (rat0 rs j).2.2 ≠ 0) (fun i => [(6, .i .i64 (i : Int)), (3, .u), (7, .u), (8, .u), (9, .u), (10, .u), (11, .u), (12, .u), (13, .u), (14, .u), (15, .u), (16, .u)]) (fun i => []) (fun i => rs.length - i) 0 ?_ ?_ rfl hR rfl (fun _ _ => rfl) (fun g _ => .nil) ?_
  · exact ⟨Nat.zero_le _, fun j h => absurd h (Nat.not_lt_zero _)⟩
  · exact (.cons rfl (.u (.u (.u (.u (.u (.u (.u (.u (.u (.u (.u .nil))))))))))))
  · rintro i ⟨hi, hj⟩; refine zsr <| jo_l (ly_lt rfl rfl) (hd 7 rfl) <| jo_nil <| jc_seq ?_
    refine jc_if rfl (fun h1 => ?_) (fun h1 => ?_)
    · have hil : i < rs.length := by have h9 : (i : Int) < ((rtsV rs).length : Int) := h1; rw [rtsV_len] at h9; omega
      have hru : (rat0 rs i).2.2.length ≤ 1048576 ∧ u64s (rat0 rs i).2.2 := by have h9 := hr _ (List.getElem_mem hil); unfold rat0; rwa [List.getD_eq_getElem?_getD, List.getElem?_eq_getElem hil]
      have hrv := vl_nonneg hru.2
      have hLn := Length_s (rat0 rs i).2.2 (by omega) hru.2
      rw [lenN_lenV hru.2 rfl] at hLn
      refine jc_skip <| jc_seq <| jc_block <| zsr <| jo_l (ly_ial (i := i) (row := [V.b (rat0 rs i).1, V.n false .u64 (rat0 rs i).2.1, V.n false .u64 (rat0 rs i).2.2]) sl1084 rfl rfl (by omega) (rtsV_at hil)) (hd 8 rfl) <| jo_l (ly_ldqa agg1027 rfl rfl rfl) (hd 9 rfl) <| jo_h (hy_alloc (id := 0) zero1027 (by decide) rfl (by decide) rfl) (hd 3 rfl) <| jo_st (sy_store rfl rfl rfl siz1027 rfl rfl (zlb rfl)) <| jo_nil <| zsr <| jo_l (ly_fa fld1027_1 rfl rfl rfl) (hd 10 rfl) ?_; refine jo_l (ly_ld one28 rfl rfl rfl) (hd 11 rfl) ?_
      refine jo_call Tryz.f39 (hLn) rfl Tryz.func39 rfl rfl (ovL_cons rfl ovL_nil) (.cons .n .nil) (hd 12 rfl) ?_ (fun ch hp => by simp at hp)
      rintro _ ⟨⟩; refine jo_l (ly_eq rfl rfl) (hd 13 rfl) <| jo_nil ?_
      refine jc_if rfl (fun h2 => ?_) (fun h2 => ?_)
      · have hz : vl (rat0 rs i).2.2 = 0 := by have h9 : ((lenV (vl (rat0 rs i).2.2) : Nat) : Int) = 0 := h2; have h7 := lenV_zero (x := (vl (rat0 rs i).2.2).toNat); rw [Int.toNat_of_nonneg hrv] at h7; have := h7.1 (by omega); omega
        refine jc_region <| jo_l (ly_build (is := [0]) (xs := [.const (.int .i64 70)]) zero1100 pls1100_0 rfl (ovL_cons rfl ovL_nil) rfl (by first | (simp [plsOk, cellsV]; done) | (simp [plsOk, cellsV, old]; done)) (all_of rfl) rfl) (hd 14 rfl) <| jo_l (ly_mi ndi1100 rfl) (hd 15 rfl) <| jo_panic rfl ?_
        show Out.pan _ = lkO 100 rs
        rw [lkO_n hil hz]
        rfl
      · have hnz : vl (rat0 rs i).2.2 ≠ 0 := fun e => by have h9 : ¬ ((lenV (vl (rat0 rs i).2.2) : Nat) : Int) = 0 := h2; rw [e] at h9; exact h9 rfl
        refine jc_skip <| jc_region <| jo_l (ly_add rfl rfl (r := ((i + 1 : Nat) : Int)) (by rw [wrap_i64 (by omega) (by omega)]; omega)) (hd 16 rfl) <| zmv rfl (hd 6 rfl) <| jo_nil ?_
        refine ⟨i + 1, ?_, ?_, rfl, cov_n 22 rfl rfl ?_⟩
        · exact ⟨by omega, fun j hjj => by rcases Nat.lt_or_ge j i with h9 | h9; exact hj j h9; rw [show j = i by omega]; exact hnz⟩
        · omega
        · exact (.cons rfl (.u (.u (.u (.u (.u (.u (.u (.u (.u (.u (.u .nil))))))))))))
    · obtain rfl : i = rs.length := by have h9 : ¬ (i : Int) < ((rtsV rs).length : Int) := h1; rw [rtsV_len] at h9; omega
      refine jc_exit ?_
      refine ⟨_, _, .nil, .t0, ?_⟩
      rw [lkO_y hj]

theorem looked_1 (s : Bool) (l d : List Int) (y : Nat) (hy : Rw d y) (h0 : y ≠ 0) : Spec Tryz.prog 31 [.l false 3 [[V.b s, V.n false .u64 l, V.n false .u64 d]]] (fun o => o = .ret (.t [])) := by
  have h := looked_g [(s, l, d)] (fun r hr => by simp only [List.mem_cons, List.mem_nil_iff, or_false] at hr; subst hr; exact ⟨hy.l, hy.u⟩) (by simp)
  have h1 : (vl d ≠ 0) := by rw [hy.v]; omega
  rwa [show lkO 100 [(s, l, d)] = .ret (.t []) by unfold lkO; simp [h1]] at h
theorem looked_2 (s : Bool) (l d : List Int) (y : Nat) (s2 : Bool) (l2 d2 : List Int) (y2 : Nat) (hy : Rw d y) (h0 : y ≠ 0) (hy2 : Rw d2 y2) (h02 : y2 ≠ 0) : Spec Tryz.prog 31 [.l false 3 [[V.b s, V.n false .u64 l, V.n false .u64 d], [V.b s2, V.n false .u64 l2, V.n false .u64 d2]]] (fun o => o = .ret (.t [])) := by
  have h := looked_g [(s, l, d), (s2, l2, d2)] (fun r hr => by simp only [List.mem_cons, List.mem_nil_iff, or_false] at hr; rcases hr with rfl | rfl; exact ⟨hy.l, hy.u⟩; exact ⟨hy2.l, hy2.u⟩) (by simp)
  have h1 : (vl d ≠ 0) := by rw [hy.v]; omega
  have h2 : (vl d2 ≠ 0) := by rw [hy2.v]; omega
  rwa [show lkO 100 [(s, l, d), (s2, l2, d2)] = .ret (.t []) by unfold lkO; simp [h1, h2]] at h
theorem looked_2z (s : Bool) (l d : List Int) (y : Nat) (s2 : Bool) (l2 d2 : List Int) (y2 : Nat) (hy : Rw d y) (hy2 : Rw d2 y2) (h0 : y = 0 ∨ y2 = 0) : Spec Tryz.prog 31 [.l false 3 [[V.b s, V.n false .u64 l, V.n false .u64 d], [V.b s2, V.n false .u64 l2, V.n false .u64 d2]]] (fun o => o = .pan (gave 100 70 false)) := by
  have h := looked_g [(s, l, d), (s2, l2, d2)] (fun r hr => by simp only [List.mem_cons, List.mem_nil_iff, or_false] at hr; rcases hr with rfl | rfl; exact ⟨hy.l, hy.u⟩; exact ⟨hy2.l, hy2.u⟩) (by simp)
  have h1 : (vl d = 0 ∨ vl d2 = 0) := by rw [hy.v, hy2.v]; omega
  rwa [show lkO 100 [(s, l, d), (s2, l2, d2)] = .pan (gave 100 70 false) by unfold lkO; rcases h1 with h1 | h1 <;> simp [h1]] at h

theorem QNeg_s (s : Bool) (l d : List Int) (x y : Nat) (hx : Rw l x) (hy : Rw d y) (h0 : y ≠ 0) : Spec Tryz.prog 44 [(.a [.b s, .n false .u64 l, .n false .u64 d])] (fun o => o = .ret (.t [(.a [.b (sgq (!s) x), .n false .u64 (lm ((rn0 x y : Nat) : Int)), .n false .u64 (lm ((rd0 x y : Nat) : Int))]), .i .i64 0])) := by
  refine spec_ofD [(0, (.a [.b s, .n false .u64 l, .n false .u64 d]))] rfl Tryz.func44 rfl (zlb rfl) fun Γ 𝓡 hN hds hL hR hE => ?_
  have hd := hdOf 21 hN
  refine jcp_seq <| jc_region <| jo_h (hy_box (id := 0) (n := 3) rfl rfl rfl (by decide) rfl) (hd 1 rfl) <| jo_h (hy_alloc (id := 1) zero1027 (by decide) rfl (by decide) rfl) (hd 2 rfl) <| jo_h (hy_alloc (id := 2) zero23 (by decide) rfl (by decide) rfl) (hd 3 rfl) <| jo_nil <| jcd_defer (g := 91) (caps := [.p 1 0 0, .p 2 0 0]) 3 [_] (ops := [_, _]) rfl Tryz.func91 rfl rfl rfl hds hR hL hE <| jo_l (ly_mf (ovL_cons rfl (ovL_cons rfl ovL_nil))) (hd 4 rfl) <| jo_nil ?_
  refine ⟨rfl, rfl, rfl, ?_⟩
  intro Γ1 hN1 hL hR1
  replace hd : ∀ d, Nat.blt d 21 = true → d < Γ1.N := fun d h => by rw [hN1]; exact hd d h
  refine jo_nil <| zsr <| jo_l (ly_lda agg1027 rfl rfl rfl rfl) (hd 5 rfl) ?_
  refine jo_call Tryz.f32 (qnorm_s s l d x y hx hy h0) rfl Tryz.func32 rfl rfl (ovL_cons rfl ovL_nil) (.cons (.a1 .b (.a1 .n (.a1 .n .a0))) .nil) (hd 6 rfl) ?_ (fun ch hp => by simp at hp)
  rintro _ ⟨⟩; refine jo_st (sy_store rfl rfl rfl siz1027 rfl rfl (zlb rfl)) <| jo_nil <| zsr <| jo_l (ly_fa fld1027_0 rfl rfl rfl) (hd 7 rfl) <| jo_l (ly_fa fld30_0 rfl rfl rfl) (hd 8 rfl) <| jo_l (ly_ld one4 rfl rfl rfl) (hd 9 rfl) <| jo_l (ly_not rfl) (hd 10 rfl) <| zmv rfl (hd 11 rfl) ?_
  refine jo_split 11 rfl (fun h1 => ?_) (fun h1 => ?_)
  · refine jo_g 11 rfl rfl (ly_fa fld1027_0 rfl rfl rfl) (hd 12 rfl) <| jo_g 11 rfl rfl (ly_fa fld30_1 rfl rfl rfl) (hd 13 rfl) <| jo_g 11 rfl rfl (ly_ld one28 rfl rfl rfl) (hd 14 rfl) <| jo_g 11 rfl rfl (ly_lenn sl28 rfl) (hd 15 rfl) <| jo_g 11 rfl rfl (ly_gt rfl rfl) (hd 16 rfl) <| jo_l (ly_pick_t rfl rfl) (hd 17 rfl) <| jo_l (ly_fa fld1027_0 rfl rfl rfl) (hd 18 rfl) <| jo_l (ly_fa fld30_0 rfl rfl rfl) (hd 19 rfl) <| jo_st (sy_store rfl rfl rfl siz4 rfl rfl (zlb rfl)) <| jo_nil <| zsr <| jo_l (ly_lda agg1027 rfl rfl rfl rfl) (hd 20 rfl) ?_; refine jo_st (sy_store rfl rfl rfl siz1027 rfl rfl (zlb rfl)) <| jo_st (sy_store rfl rfl rfl siz23 rfl rfl (zlb rfl)) <| jo_nil <| jc_ret <| Clo.fin clo_2340 (m := 3) (i := 1) (j := 2) (zlb rfl) rfl rfl rfl rfl ?_
    refine ⟨_, _, (.cons (ResV.cell agg1027 rfl rfl rfl rfl) (.cons (ResV.cell1 one23 rfl rfl rfl) .nil)), (.t1 (.a1 .b (.a1 .n (.a1 .n .a0))) (.t1 .i .t0)), ?_⟩
    have e9 := sgq_neg (s := s) (x := x) (y := y)
    rw [h1, Bool.true_and] at e9
    rw [e9]
  · refine jo_s 11 rfl rfl rfl (hd 12 rfl) <| jo_s 11 rfl rfl rfl (hd 13 rfl) <| jo_s 11 rfl rfl rfl (hd 14 rfl) <| jo_s 11 rfl rfl rfl (hd 15 rfl) <| jo_s 11 rfl rfl rfl (hd 16 rfl) <| jo_l (ly_pick_f rfl rfl) (hd 17 rfl) <| jo_l (ly_fa fld1027_0 rfl rfl rfl) (hd 18 rfl) <| jo_l (ly_fa fld30_0 rfl rfl rfl) (hd 19 rfl) <| jo_st (sy_store rfl rfl rfl siz4 rfl rfl (zlb rfl)) <| jo_nil <| zsr <| jo_l (ly_lda agg1027 rfl rfl rfl rfl) (hd 20 rfl) ?_; refine jo_st (sy_store rfl rfl rfl siz1027 rfl rfl (zlb rfl)) <| jo_st (sy_store rfl rfl rfl siz23 rfl rfl (zlb rfl)) <| jo_nil <| jc_ret <| Clo.fin clo_2340 (m := 3) (i := 1) (j := 2) (zlb rfl) rfl rfl rfl rfl ?_
    refine ⟨_, _, (.cons (ResV.cell agg1027 rfl rfl rfl rfl) (.cons (ResV.cell1 one23 rfl rfl rfl) .nil)), (.t1 (.a1 .b (.a1 .n (.a1 .n .a0))) (.t1 .i .t0)), ?_⟩
    have e9 := sgq_neg (s := s) (x := x) (y := y)
    rw [h1, Bool.false_and] at e9
    first | rw [← e9] | rw [h1, ← e9]

theorem qsign_s (s : Bool) (l d : List Int) (hl : l.length ≤ 1048576) (hu : u64s l) : Spec Tryz.prog 49 [(.a [.b s, .n false .u64 l, .n false .u64 d])] (fun o => o = .ret (.i .i64 (sgnI (sv s l)))) := by
  refine spec_of' [(0, (.a [.b s, .n false .u64 l, .n false .u64 d]))] rfl Tryz.func49 rfl (zlb rfl) fun Γ hN hds hL hR => ?_
  have hd := hdOf 6 hN
  refine zsr <| jo_h (hy_box (id := 0) (n := 3) rfl rfl rfl (by decide) rfl) (hd 1 rfl) <| zas rfl (hd 2 rfl) <| jo_nil <| zsr <| jo_l (ly_fa fld1027_0 rfl rfl rfl) (hd 3 rfl) <| jo_l (ly_lda agg30 rfl rfl rfl rfl) (hd 4 rfl) ?_
  refine jo_call Tryz.f76 (WSign_s s l (by omega) hu) rfl Tryz.func76 rfl rfl (ovL_cons rfl ovL_nil) (.cons (.a1 .b (.a1 .n .a0)) .nil) (hd 5 rfl) ?_ (fun ch hp => by simp at hp)
  rintro _ ⟨⟩; refine zas rfl (hd 2 rfl) <| jo_nil <| jc_ret ?_
  refine ⟨_, _, (.cons rfl .nil), .i, ?_⟩
  exact rfl

theorem QMake_s (s t : Bool) (l d : List Int) (x y : Nat) (hx : Rw l x) (hy : Rw d y) (h0 : y ≠ 0) : Spec Tryz.prog 55 [.a [.b s, .n false .u64 l], .a [.b t, .n false .u64 d]] (fun o => o = .ret (.t [(.a [.b (sgq (s != t) x), .n false .u64 (lm ((rn0 x y : Nat) : Int)), .n false .u64 (lm ((rd0 x y : Nat) : Int))]), .i .i64 0])) := by
  refine spec_ofD [(0, .a [.b s, .n false .u64 l]), (1, .a [.b t, .n false .u64 d])] rfl Tryz.func55 rfl (zlb rfl) fun Γ 𝓡 hN hds hL hR hE => ?_
  have hd := hdOf 21 hN
  refine jcp_seq <| jc_region <| jo_h (hy_box (id := 0) (n := 2) rfl rfl rfl (by decide) rfl) (hd 2 rfl) <| jo_h (hy_box (id := 1) (n := 2) rfl rfl rfl (by decide) rfl) (hd 3 rfl) <| jo_h (hy_alloc (id := 2) zero1027 (by decide) rfl (by decide) rfl) (hd 4 rfl) <| jo_h (hy_alloc (id := 3) zero23 (by decide) rfl (by decide) rfl) (hd 5 rfl) <| jo_nil <| jcd_defer (g := 94) (caps := [.p 2 0 0, .p 3 0 0]) 4 [_] (ops := [_, _]) rfl Tryz.func94 rfl rfl rfl hds hR hL hE <| jo_l (ly_mf (ovL_cons rfl (ovL_cons rfl ovL_nil))) (hd 7 rfl) <| jo_nil ?_
  refine ⟨rfl, rfl, rfl, ?_⟩
  intro Γ1 hN1 hL hR1
  replace hd : ∀ d, Nat.blt d 21 = true → d < Γ1.N := fun d h => by rw [hN1]; exact hd d h
  refine jo_nil <| zsr <| jo_l (ly_fa fld30_0 rfl rfl rfl) (hd 8 rfl) <| jo_l (ly_ld one4 rfl rfl rfl) (hd 9 rfl) <| jo_l (ly_fa fld30_0 rfl rfl rfl) (hd 10 rfl) <| jo_l (ly_ld one4 rfl rfl rfl) (hd 11 rfl) <| jo_l (ly_neb und4 rfl rfl) (hd 12 rfl) <| zas rfl (hd 6 rfl) <| jo_nil <| zsr <| zmv rfl (hd 13 rfl) ?_; refine jo_l (ly_fa fld30_1 rfl rfl rfl) (hd 14 rfl) <| jo_l (ly_ld one28 rfl rfl rfl) (hd 15 rfl) <| jo_l (ly_build (is := [0, 1]) (xs := [.tmp 13, .tmp 15]) zero30 pls30_0_1 rfl (ovL_cons rfl (ovL_cons rfl ovL_nil)) rfl (by first | (simp [plsOk, cellsV]; done) | (simp [plsOk, cellsV, old]; done)) (all_of rfl) rfl) (hd 16 rfl) <| jo_l (ly_fa fld30_1 rfl rfl rfl) (hd 17 rfl) <| jo_l (ly_ld one28 rfl rfl rfl) (hd 18 rfl) <| jo_l (ly_build (is := [0, 1]) (xs := [.tmp 16, .tmp 18]) zero1027 pls1027_0_1 rfl (ovL_cons rfl (ovL_cons rfl ovL_nil)) rfl ⟨rfl, (by decide), rfl, (by decide), trivial⟩ (all_of rfl) rfl) (hd 19 rfl) ?_
  refine jo_call Tryz.f32 (qnorm_s _ l d x y hx hy h0) rfl Tryz.func32 rfl rfl (ovL_cons rfl ovL_nil) (.cons (.a1 .b (.a1 .n (.a1 .n .a0))) .nil) (hd 20 rfl) ?_ (fun ch hp => by simp at hp)
  rintro _ ⟨⟩; refine jo_st (sy_store rfl rfl rfl siz1027 rfl rfl (zlb rfl)) <| jo_st (sy_store rfl rfl rfl siz23 rfl rfl (zlb rfl)) <| jo_nil <| jc_ret <| Clo.fin clo_2346 (m := 4) (i := 2) (j := 3) (zlb rfl) rfl rfl rfl rfl ?_
  refine ⟨_, _, (.cons (ResV.cell agg1027 rfl rfl rfl rfl) (.cons (ResV.cell1 one23 rfl rfl rfl) .nil)), (.t1 (.a1 .b (.a1 .n (.a1 .n .a0))) (.t1 .i .t0)), ?_⟩
  exact rfl

theorem QInt_s (v : Int) (hv : inI v) : Spec Tryz.prog 40 [.i .i64 v] (fun o => o = .ret (.a [.b (decide (v < 0)), .n true .u64 (lm v), .n true .u64 (lm ((1 : Nat) : Int))])) := by
  refine spec_of' [(0, .i .i64 v)] rfl Tryz.func40 rfl (zlb rfl) fun Γ hN hds hL hR => ?_
  have hd := hdOf 7 hN
  have hF1 : Spec Tryz.prog 68 [.i .u64 1] (fun o => o = .ret (.n true .u64 [1])) := by have h := From_s 1; rwa [if_neg (by decide)] at h
  refine zsr <| jo_h (hy_alloc (id := 0) zero1027 (by decide) rfl (by decide) rfl) (hd 2 rfl) <| jo_nil <| zsr <| zmv rfl (hd 3 rfl) ?_
  refine jo_call Tryz.f87 (Of_v v hv) rfl Tryz.func87 rfl rfl (ovL_cons rfl ovL_nil) (.cons .i .nil) (hd 4 rfl) ?_ (fun ch hp => by simp at hp)
  rintro y hy; injection hy with hy; subst hy
  refine jo_call Tryz.f68 (hF1) rfl Tryz.func68 rfl rfl (ovL_cons rfl ovL_nil) (.cons .i .nil) (hd 5 rfl) ?_ (fun ch hp => by simp at hp)
  rintro _ ⟨⟩; refine jo_l (ly_build (is := [0, 1]) (xs := [.tmp 4, .tmp 5]) zero1027 pls1027_0_1 rfl (ovL_cons rfl (ovL_cons rfl ovL_nil)) rfl ⟨rfl, (by decide), rfl, (by decide), trivial⟩ (all_of rfl) rfl) (hd 6 rfl) <| jo_st (sy_store rfl rfl rfl siz1027 rfl rfl (zlb rfl)) <| jo_nil <| jc_ret ?_
  refine ⟨_, _, (.cons (ResV.cell agg1027 rfl rfl rfl rfl) .nil), (.a1 .b (.a1 .n (.a1 .n .a0))), ?_⟩
  rw [lm_1n]

theorem QPrint_s (s : Bool) (l d : List Int) (x y : Nat) (hx : Rw l x) (hy : Rw d y) (h0 : y ≠ 0) : Spec Tryz.prog 21 [(.a [.b s, .n false .u64 l, .n false .u64 d])] (fun o => o = .ret (.t [.s (rtx (sgq s x) (rn0 x y) (rd0 x y)), .i .i64 0])) := by
  refine spec_ofD [(0, (.a [.b s, .n false .u64 l, .n false .u64 d]))] rfl Tryz.func21 rfl (zlb rfl) fun Γ 𝓡 hN hds hL hR hE => ?_
  have hd := hdOf 38 hN
  have hbn : lenV ((rn0 x y : Nat) : Int) ≤ 67108864 := rn0_b hx.b
  have hbd : lenV ((rd0 x y : Nat) : Int) ≤ 67108864 := rd0_b hy.b
  have hRn := Rw.of hbn
  have hRd := Rw.of hbd
  have hF1 : Spec Tryz.prog 68 [.i .u64 1] (fun o => o = .ret (.n true .u64 [1])) := by have h := From_s 1; rwa [if_neg (by decide)] at h
  have hsn := ntx_size _ hbn
  have hsd := ntx_size _ hbd
  have hl1 := hRd.l
  have hPn : Spec Tryz.prog 66 [.n false .u64 (lm ((rn0 x y : Nat) : Int)), .i .i64 10] (fun o => o = .ret (.t [.s (ntx (rn0 x y)), .i .i64 0])) := by have h := Print_s (lm ((rn0 x y : Nat) : Int)) 10 hRn.l hRn.u (by decide) (by decide); rwa [hRn.v, Int.toNat_natCast] at h
  have hPd : Spec Tryz.prog 66 [.n false .u64 (lm ((rd0 x y : Nat) : Int)), .i .i64 10] (fun o => o = .ret (.t [.s (ntx (rd0 x y)), .i .i64 0])) := by have h := Print_s (lm ((rd0 x y : Nat) : Int)) 10 hRd.l hRd.u (by decide) (by decide); rwa [hRd.v, Int.toNat_natCast] at h
  have hCp : Spec Tryz.prog 67 [.n false .u64 (lm ((rd0 x y : Nat) : Int)), .n false .u64 [1]] (fun o => o = .ret (.i .i64 (cmpI ((rd0 x y : Nat) : Int) 1))) := by have h := Compare_v ((rd0 x y : Nat) : Int) ((1 : Nat) : Int) (by omega) (by rw [lm_1n]; decide); rw [lm_1n, Int.natAbs_natCast, Int.natAbs_natCast] at h; exact h
  refine jcp_seq <| jc_region <| jo_h (hy_box (id := 0) (n := 3) rfl rfl rfl (by decide) rfl) (hd 1 rfl) <| jo_h (hy_alloc (id := 1) zero9 (by decide) rfl (by decide) rfl) (hd 2 rfl) <| jo_h (hy_alloc (id := 2) zero23 (by decide) rfl (by decide) rfl) (hd 3 rfl) <| jo_nil <| jcd_defer (g := 63) (caps := [.p 1 0 0, .p 2 0 0]) 3 [_] (ops := [_, _]) rfl Tryz.func63 rfl rfl rfl hds hR hL hE <| jo_l (ly_mf (ovL_cons rfl (ovL_cons rfl ovL_nil))) (hd 5 rfl) <| jo_nil ?_
  refine ⟨rfl, rfl, rfl, ?_⟩
  intro Γ1 hN1 hL hR1
  replace hd : ∀ d, Nat.blt d 38 = true → d < Γ1.N := fun d h => by rw [hN1]; exact hd d h
  refine jo_nil <| zsr <| jo_l (ly_lda agg1027 rfl rfl rfl rfl) (hd 6 rfl) <| jo_h (hy_lit (id := 3) (xs := [.tmp 6]) el1084 rfl (ovL_cons rfl ovL_nil) rfl (all2_of rfl) (by decide) rfl) (hd 7 rfl) <| jo_frzr 7 (sz := 3) [[V.b s, V.n false .u64 l, V.n false .u64 d]] rfl rfl rfl rfl (by simp) (by simp [pureV]) (by decide) hL ?_
  refine jo_call Tryz.f31 (looked_1 s l d y hy h0) rfl Tryz.func31 rfl rfl (ovL_cons rfl ovL_nil) (.cons .l .nil) (hd 8 rfl) ?_ (fun ch hp => by simp at hp)
  rintro _ ⟨⟩; refine jo_nil <| zsr <| jo_l (ly_lda agg1027 rfl rfl rfl rfl) (hd 9 rfl) ?_
  refine jo_call Tryz.f32 (qnorm_s s l d x y hx hy h0) rfl Tryz.func32 rfl rfl (ovL_cons rfl ovL_nil) (.cons (.a1 .b (.a1 .n (.a1 .n .a0))) .nil) (hd 10 rfl) ?_ (fun ch hp => by simp at hp)
  rintro _ ⟨⟩; refine jo_h (hy_alloc (id := 4) zero1027 (by decide) rfl (by decide) rfl) (hd 4 rfl) <| jo_st (sy_store rfl rfl rfl siz1027 rfl rfl (zlb rfl)) <| jo_nil <| zsr <| jo_l (ly_fa fld1027_0 rfl rfl rfl) (hd 11 rfl) <| jo_l (ly_fa fld30_1 rfl rfl rfl) (hd 12 rfl) <| jo_l (ly_ld one28 rfl rfl rfl) (hd 13 rfl) ?_
  refine jo_call Tryz.f66 (hPn) rfl Tryz.func66 rfl rfl (ovL_cons rfl (ovL_cons rfl ovL_nil)) (.cons .n (.cons .i .nil)) (hd 14 rfl) ?_ (fun ch hp => by simp at hp)
  rintro _ ⟨⟩; refine jo_l (ly_ext rfl rfl) (hd 15 rfl) <| jo_l (ly_ext rfl rfl) (hd 16 rfl) ?_
  refine jo_call Tryz.f65 (mustS _) rfl Tryz.func65 rfl rfl (ovL_cons rfl (ovL_cons rfl ovL_nil)) (.cons .s (.cons .i .nil)) (hd 17 rfl) ?_ (fun ch hp => by simp at hp)
  rintro _ ⟨⟩; refine jo_st (sy_store rfl rfl rfl siz9 rfl rfl (zlb rfl)) <| jo_nil <| jc_seq <| zsr <| jo_l (ly_fa fld1027_0 rfl rfl rfl) (hd 18 rfl) <| jo_l (ly_fa fld30_0 rfl rfl rfl) (hd 19 rfl) <| jo_l (ly_ld one4 rfl rfl rfl) (hd 20 rfl) <| jo_nil ?_
  refine jc_cond rfl (fun h1 => ?_) (fun h1 => ?_)
  · have hs1 : rtx1 (sgq s x) (rn0 x y) = (⟨#[45]⟩ : ByteArray) ++ ntx (rn0 x y) := by unfold rtx1; rw [if_pos h1]
    refine jc_region <| jo_l (ly_ld one9 rfl rfl rfl) (hd 21 rfl) <| jo_l (ly_adds rfl rfl (by show ((1 + _ : Nat) : Int) ≤ 9223372036854775807; omega)) (hd 22 rfl) <| jo_st (sy_store rfl rfl rfl siz9 rfl rfl (zlb rfl)) <| jo_nil <| jc_seq <| jc_seq <| jc_nopan <| jc_draw (n := 5) _ rfl mixed <| zal2 0 [1, 3, 4] (lo_l (ly_fa fld1027_1 rfl rfl rfl) (hd 23 rfl)) rfl <| zal2 1 [3, 4] (lo_l (ly_ld one28 rfl rfl rfl) (hd 24 rfl)) rfl ?_
    refine ja_1 2 ?_ rfl (by kernel_rfl)
    refine js_call Tryz.f68 (hF1) rfl Tryz.func68 rfl rfl (ovL_cons rfl ovL_nil) (.cons .i .nil) (hd 25 rfl) ?_ (fun ch hp => by simp at hp)
    rintro y hy; injection hy with hy; subst hy
    refine ja_1 3 ?_ rfl (by kernel_rfl)
    refine js_call Tryz.f67 (hCp) rfl Tryz.func67 rfl rfl (ovL_cons rfl (ovL_cons rfl ovL_nil)) (.cons .n (.cons .n .nil)) (hd 26 rfl) ?_ (fun ch hp => by simp at hp)
    rintro _ ⟨⟩; refine zal 4 (lo_l (ly_ne rfl rfl) (hd 27 rfl)) rfl <| ja_nil (by kernel_rfl) ?_
    refine jc_if rfl (fun h2 => ?_) (fun h2 => ?_)
    · have hd1 : rd0 x y ≠ 1 := fun e => h2 (by rw [e]; exact cmpI_0.2 rfl)
      refine jc_nopan <| jc_draw (n := 10) _ rfl mixed <| zal 0 (lo_l (ly_ld one9 rfl rfl rfl) (hd 28 rfl)) rfl <| zal2 1 [2, 3, 4, 5, 6, 7, 8, 9] (lo_l (ly_fa fld1027_1 rfl rfl rfl) (hd 29 rfl)) rfl <| zal2 2 [3, 4, 5, 6, 7, 8, 9] (lo_l (ly_ld one28 rfl rfl rfl) (hd 30 rfl)) rfl ?_
      refine ja_1 3 ?_ rfl (by kernel_rfl)
      refine js_call Tryz.f66 (hPd) rfl Tryz.func66 rfl rfl (ovL_cons rfl (ovL_cons rfl ovL_nil)) (.cons .n (.cons .i .nil)) (hd 31 rfl) ?_ (fun ch hp => by simp at hp)
      rintro _ ⟨⟩; refine zal2 4 [6, 7, 8, 9] (lo_l (ly_ext rfl rfl) (hd 32 rfl)) rfl <| zal2 5 [6, 7, 8, 9] (lo_l (ly_ext rfl rfl) (hd 33 rfl)) rfl ?_
      refine ja_1 6 ?_ rfl (by kernel_rfl)
      refine js_call Tryz.f65 (mustS _) rfl Tryz.func65 rfl rfl (ovL_cons rfl (ovL_cons rfl ovL_nil)) (.cons .s (.cons .i .nil)) (hd 34 rfl) ?_ (fun ch hp => by simp at hp)
      rintro _ ⟨⟩; refine zal 7 (lo_l (ly_adds rfl rfl (by show ((1 + _ : Nat) : Int) ≤ 9223372036854775807; omega)) (hd 35 rfl)) rfl <| zal 8 (lo_l (ly_adds rfl rfl (by simp only [ByteArray.size_append]; show ((_ : Nat) : Int) ≤ 9223372036854775807; simp only [show (⟨#[45]⟩ : ByteArray).size = 1 from rfl, show (⟨#[47]⟩ : ByteArray).size = 1 from rfl]; omega)) (hd 36 rfl)) rfl ?_
      refine ja_1 9 ?_ rfl (by kernel_rfl)
      refine js_st (sy_store rfl rfl rfl siz9 rfl rfl (zlb rfl)) rfl <| ja_nil (by kernel_rfl) <| zsr <| jo_l (ly_ld one9 rfl rfl rfl) (hd 37 rfl) <| jo_st (sy_store rfl rfl rfl siz9 rfl rfl (zlb rfl)) <| jo_st (sy_store rfl rfl rfl siz23 rfl rfl (zlb rfl)) <| jo_nil <| jc_ret <| Clo.fin clo_2358 (m := 3) (i := 1) (j := 2) (zlb rfl) rfl rfl rfl rfl ?_
      refine ⟨_, _, (.cons (ResV.cell1 one9 rfl rfl rfl) (.cons (ResV.cell1 one23 rfl rfl rfl) .nil)), (.t1 .s (.t1 .i .t0)), ?_⟩
      show Out.ret _ = Out.ret _
      unfold rtx
      first | rw [if_neg hd1, hs1] | rw [if_pos hd1, hs1]
    · have hd1 : rd0 x y = 1 := by have h9 := cmpI_0.1 (Decidable.not_not.1 h2); omega
      refine jc_skip <| zsr <| jo_l (ly_ld one9 rfl rfl rfl) (hd 37 rfl) <| jo_st (sy_store rfl rfl rfl siz9 rfl rfl (zlb rfl)) <| jo_st (sy_store rfl rfl rfl siz23 rfl rfl (zlb rfl)) <| jo_nil <| jc_ret <| Clo.fin clo_2358 (m := 3) (i := 1) (j := 2) (zlb rfl) rfl rfl rfl rfl ?_
      refine ⟨_, _, (.cons (ResV.cell1 one9 rfl rfl rfl) (.cons (ResV.cell1 one23 rfl rfl rfl) .nil)), (.t1 .s (.t1 .i .t0)), ?_⟩
      show Out.ret _ = Out.ret _
      unfold rtx
      first | rw [if_neg hd1, hs1] | rw [if_pos hd1, hs1]
  · have hs1 : rtx1 (sgq s x) (rn0 x y) = ntx (rn0 x y) := by unfold rtx1; rw [if_neg (by rw [h1]; decide)]
    refine jc_skip <| jc_seq <| jc_seq <| jc_nopan <| jc_draw (n := 5) _ rfl mixed <| zal2 0 [1, 3, 4] (lo_l (ly_fa fld1027_1 rfl rfl rfl) (hd 23 rfl)) rfl <| zal2 1 [3, 4] (lo_l (ly_ld one28 rfl rfl rfl) (hd 24 rfl)) rfl ?_
    refine ja_1 2 ?_ rfl (by kernel_rfl)
    refine js_call Tryz.f68 (hF1) rfl Tryz.func68 rfl rfl (ovL_cons rfl ovL_nil) (.cons .i .nil) (hd 25 rfl) ?_ (fun ch hp => by simp at hp)
    rintro y hy; injection hy with hy; subst hy
    refine ja_1 3 ?_ rfl (by kernel_rfl)
    refine js_call Tryz.f67 (hCp) rfl Tryz.func67 rfl rfl (ovL_cons rfl (ovL_cons rfl ovL_nil)) (.cons .n (.cons .n .nil)) (hd 26 rfl) ?_ (fun ch hp => by simp at hp)
    rintro _ ⟨⟩; refine zal 4 (lo_l (ly_ne rfl rfl) (hd 27 rfl)) rfl <| ja_nil (by kernel_rfl) ?_
    refine jc_if rfl (fun h3 => ?_) (fun h3 => ?_)
    · have hd1 : rd0 x y ≠ 1 := fun e => h3 (by rw [e]; exact cmpI_0.2 rfl)
      refine jc_nopan <| jc_draw (n := 10) _ rfl mixed <| zal 0 (lo_l (ly_ld one9 rfl rfl rfl) (hd 28 rfl)) rfl <| zal2 1 [2, 3, 4, 5, 6, 7, 8, 9] (lo_l (ly_fa fld1027_1 rfl rfl rfl) (hd 29 rfl)) rfl <| zal2 2 [3, 4, 5, 6, 7, 8, 9] (lo_l (ly_ld one28 rfl rfl rfl) (hd 30 rfl)) rfl ?_
      refine ja_1 3 ?_ rfl (by kernel_rfl)
      refine js_call Tryz.f66 (hPd) rfl Tryz.func66 rfl rfl (ovL_cons rfl (ovL_cons rfl ovL_nil)) (.cons .n (.cons .i .nil)) (hd 31 rfl) ?_ (fun ch hp => by simp at hp)
      rintro _ ⟨⟩; refine zal2 4 [6, 7, 8, 9] (lo_l (ly_ext rfl rfl) (hd 32 rfl)) rfl <| zal2 5 [6, 7, 8, 9] (lo_l (ly_ext rfl rfl) (hd 33 rfl)) rfl ?_
      refine ja_1 6 ?_ rfl (by kernel_rfl)
      refine js_call Tryz.f65 (mustS _) rfl Tryz.func65 rfl rfl (ovL_cons rfl (ovL_cons rfl ovL_nil)) (.cons .s (.cons .i .nil)) (hd 34 rfl) ?_ (fun ch hp => by simp at hp)
      rintro _ ⟨⟩; refine zal 7 (lo_l (ly_adds rfl rfl (by show ((1 + _ : Nat) : Int) ≤ 9223372036854775807; omega)) (hd 35 rfl)) rfl <| zal 8 (lo_l (ly_adds rfl rfl (by simp only [ByteArray.size_append]; show ((_ : Nat) : Int) ≤ 9223372036854775807; simp only [show (⟨#[45]⟩ : ByteArray).size = 1 from rfl, show (⟨#[47]⟩ : ByteArray).size = 1 from rfl]; omega)) (hd 36 rfl)) rfl ?_
      refine ja_1 9 ?_ rfl (by kernel_rfl)
      refine js_st (sy_store rfl rfl rfl siz9 rfl rfl (zlb rfl)) rfl <| ja_nil (by kernel_rfl) <| zsr <| jo_l (ly_ld one9 rfl rfl rfl) (hd 37 rfl) <| jo_st (sy_store rfl rfl rfl siz9 rfl rfl (zlb rfl)) <| jo_st (sy_store rfl rfl rfl siz23 rfl rfl (zlb rfl)) <| jo_nil <| jc_ret <| Clo.fin clo_2358 (m := 3) (i := 1) (j := 2) (zlb rfl) rfl rfl rfl rfl ?_
      refine ⟨_, _, (.cons (ResV.cell1 one9 rfl rfl rfl) (.cons (ResV.cell1 one23 rfl rfl rfl) .nil)), (.t1 .s (.t1 .i .t0)), ?_⟩
      show Out.ret _ = Out.ret _
      unfold rtx
      first | rw [if_neg hd1, hs1] | rw [if_pos hd1, hs1]
    · have hd1 : rd0 x y = 1 := by have h9 := cmpI_0.1 (Decidable.not_not.1 h3); omega
      refine jc_skip <| zsr <| jo_l (ly_ld one9 rfl rfl rfl) (hd 37 rfl) <| jo_st (sy_store rfl rfl rfl siz9 rfl rfl (zlb rfl)) <| jo_st (sy_store rfl rfl rfl siz23 rfl rfl (zlb rfl)) <| jo_nil <| jc_ret <| Clo.fin clo_2358 (m := 3) (i := 1) (j := 2) (zlb rfl) rfl rfl rfl rfl ?_
      refine ⟨_, _, (.cons (ResV.cell1 one9 rfl rfl rfl) (.cons (ResV.cell1 one23 rfl rfl rfl) .nil)), (.t1 .s (.t1 .i .t0)), ?_⟩
      show Out.ret _ = Out.ret _
      unfold rtx
      first | rw [if_neg hd1, hs1] | rw [if_pos hd1, hs1]

theorem QQuo_0 (s : Bool) (l d : List Int) (x y : Nat) (hx : Rw l x) (hy : Rw d y) (s2 : Bool) (l2 d2 : List Int) (x2 y2 : Nat) (hx2 : Rw l2 x2) (hy2 : Rw d2 y2) (h0 : y ≠ 0) (h02 : y2 ≠ 0) (hz : x2 = 0) : Spec Tryz.prog 9 [(.a [.b s, .n false .u64 l, .n false .u64 d]), (.a [.b s2, .n false .u64 l2, .n false .u64 d2])] (fun o => o = .ret (.t [(.a [.b false, .n false .u64 [], .n false .u64 []]), .i .i64 70])) := by
  refine spec_ofD [(0, (.a [.b s, .n false .u64 l, .n false .u64 d])), (1, (.a [.b s2, .n false .u64 l2, .n false .u64 d2]))] rfl Tryz.func9 rfl (zlb rfl) fun Γ 𝓡 hN hds hL hR hE => ?_
  have hd := hdOf 31 hN
  have hLn : Spec Tryz.prog 39 [.n false .u64 l2] (fun o => o = .ret (.i .i64 (lenV (x2 : Int)))) := by have h := Length_s l2 (by have := hx2.l; omega) hx2.u; rwa [hx2.n] at h
  refine jcp_seq <| jc_region <| jo_h (hy_box (id := 0) (n := 3) rfl rfl rfl (by decide) rfl) (hd 2 rfl) <| jo_h (hy_box (id := 1) (n := 3) rfl rfl rfl (by decide) rfl) (hd 3 rfl) <| jo_h (hy_alloc (id := 2) zero1027 (by decide) rfl (by decide) rfl) (hd 4 rfl) <| jo_h (hy_alloc (id := 3) zero23 (by decide) rfl (by decide) rfl) (hd 5 rfl) <| jo_nil <| jcd_defer (g := 46) (caps := [.p 2 0 0, .p 3 0 0]) 4 [_] (ops := [_, _]) rfl Tryz.func46 rfl rfl rfl hds hR hL hE <| jo_l (ly_mf (ovL_cons rfl (ovL_cons rfl ovL_nil))) (hd 6 rfl) <| jo_nil ?_
  refine ⟨rfl, rfl, rfl, ?_⟩
  intro Γ1 hN1 hL hR1
  replace hd : ∀ d, Nat.blt d 31 = true → d < Γ1.N := fun d h => by rw [hN1]; exact hd d h
  refine jo_nil <| zsr <| jo_l (ly_lda agg1027 rfl rfl rfl rfl) (hd 7 rfl) <| jo_l (ly_lda agg1027 rfl rfl rfl rfl) (hd 8 rfl) <| jo_h (hy_lit (id := 4) (xs := [.tmp 7, .tmp 8]) el1084 rfl (ovL_cons rfl (ovL_cons rfl ovL_nil)) rfl (all2_of rfl) (by decide) rfl) (hd 9 rfl) <| jo_frzr 9 (sz := 3) [[V.b s, V.n false .u64 l, V.n false .u64 d], [V.b s2, V.n false .u64 l2, V.n false .u64 d2]] rfl rfl rfl rfl (by simp) (by simp [pureV]) (by decide) hL ?_
  refine jo_call Tryz.f31 (looked_2 s l d y s2 l2 d2 y2 hy h0 hy2 h02) rfl Tryz.func31 rfl rfl (ovL_cons rfl ovL_nil) (.cons .l .nil) (hd 10 rfl) ?_ (fun ch hp => by simp at hp)
  rintro _ ⟨⟩; refine jo_nil <| jc_seq <| zsr <| jo_l (ly_fa fld1027_0 rfl rfl rfl) (hd 11 rfl) <| jo_l (ly_fa fld30_1 rfl rfl rfl) (hd 12 rfl) <| jo_l (ly_ld one28 rfl rfl rfl) (hd 13 rfl) ?_
  refine jo_call Tryz.f39 (hLn) rfl Tryz.func39 rfl rfl (ovL_cons rfl ovL_nil) (.cons .n .nil) (hd 14 rfl) ?_ (fun ch hp => by simp at hp)
  rintro _ ⟨⟩; refine jo_l (ly_tt (ly_eq rfl rfl) (by subst hz; rfl)) (hd 15 rfl) <| jo_nil <| jc_litt rfl <| zsr <| jo_l (ly_build (is := []) (xs := []) (pls := []) zero1027 pls1027_ rfl ovL_nil rfl trivial (all_of rfl) rfl) (hd 16 rfl) <| jo_st (sy_store rfl rfl rfl siz1027 rfl rfl (zlb rfl)) <| jo_st (sy_store rfl rfl rfl siz23 rfl rfl (zlb rfl)) <| jo_nil <| jc_ret <| Clo.fin clo_2353 (m := 4) (i := 2) (j := 3) (zlb rfl) rfl rfl rfl rfl ?_
  refine ⟨_, _, (.cons (ResV.cell agg1027 rfl rfl rfl rfl) (.cons (ResV.cell1 one23 rfl rfl rfl) .nil)), (.t1 (.a1 .b (.a1 (.nil (fr := false) (k := .u64)) (.a1 (.nil (fr := false) (k := .u64)) .a0))) (.t1 .i .t0)), ?_⟩
  exact rfl

theorem lives7_s  : Spec Tryz.prog 12 [] (fun o => o = .ret (.b true)) := by
  refine spec_of' [] rfl Tryz.func12 rfl (zlb rfl) fun Γ hN hds hL hR => ?_
  have hd := hdOf 40 hN
  have hMk : Spec Tryz.prog 55 [.a [.b false, .n false .u64 [6]], .a [.b true, .n false .u64 [4]]] (fun o => o = .ret (.t [.a [.b true, .n false .u64 [3], .n false .u64 [2]], .i .i64 0])) := by
    have h := QMake_s false true [6] [4] 6 4 (rw_1 (by decide) (by decide)) (rw_1 (by decide) (by decide)) (by decide)
    rwa [show sgq (false != true) 6 = true by decide, show rn0 6 4 = 3 by decide +kernel, show rd0 6 4 = 2 by decide +kernel, lm_1w (by decide) (by decide), lm_1w (by decide) (by decide)] at h
  have hPr : Spec Tryz.prog 21 [.a [.b true, .n false .u64 [3], .n false .u64 [2]]] (fun o => o = .ret (.t [.s ⟨#[45, 51, 47, 50]⟩, .i .i64 0])) := by
    have h := QPrint_s true [3] [2] 3 2 (rw_1 (by decide) (by decide)) (rw_1 (by decide) (by decide)) (by decide)
    rwa [show rtx (sgq true 3) (rn0 3 2) (rd0 3 2) = ⟨#[45, 51, 47, 50]⟩ by decide +kernel] at h
  have r1 : Rw (lm 1) 1 := Rw.of (x := 1) (by decide +kernel)
  have r0 : Rw (lm 0) 0 := Rw.of (x := 0) (by decide +kernel)
  refine zsr <| zas rfl (hd 0 rfl) <| jo_nil <| zsr <| jo_h (hy_lit (id := 0) (xs := [.const (.int .u64 6)]) el28 rfl (ovL_cons rfl ovL_nil) rfl (all2_of rfl) (by decide) rfl) (hd 8 rfl) <| jo_frz (k := .u64) (l := [6]) (l' := [6]) 8 rfl rfl (by decide) rfl hL <| jo_l (ly_build (is := [1]) (xs := [.tmp 8]) zero30 pls30_1 rfl (ovL_cons rfl ovL_nil) rfl (by first | (simp [plsOk, cellsV]; done) | (simp [plsOk, cellsV, old]; done)) (all_of rfl) rfl) (hd 9 rfl) <| jo_h (hy_lit (id := 1) (xs := [.const (.int .u64 4)]) el28 rfl (ovL_cons rfl ovL_nil) rfl (all2_of rfl) (by decide) rfl) (hd 10 rfl) <| jo_frz (k := .u64) (l := [4]) (l' := [4]) 10 rfl rfl (by decide) rfl hL <| jo_l (ly_build (is := [0, 1]) (xs := [.const (.bool true), .tmp 10]) zero30 pls30_0_1 rfl (ovL_cons rfl (ovL_cons rfl ovL_nil)) rfl (by first | (simp [plsOk, cellsV]; done) | (simp [plsOk, cellsV, old]; done)) (all_of rfl) rfl) (hd 11 rfl) ?_
  refine jo_call Tryz.f55 (hMk) rfl Tryz.func55 rfl rfl (ovL_cons rfl (ovL_cons rfl ovL_nil)) (.cons (.a1 .b (.a1 .n .a0)) (.cons (.a1 .b (.a1 .n .a0)) .nil)) (hd 12 rfl) ?_ (fun ch hp => by simp at hp)
  rintro _ ⟨⟩; refine zmv rfl (hd 7 rfl) <| jo_l (ly_ext rfl rfl) (hd 13 rfl) <| jo_l (ly_ext rfl rfl) (hd 14 rfl) <| jo_h (hy_alloc (id := 2) zero1027 (by decide) rfl (by decide) rfl) (hd 1 rfl) <| jo_st (sy_store rfl rfl rfl siz1027 rfl rfl (zlb rfl)) <| zas rfl (hd 2 rfl) <| jo_nil <| zsr <| jo_l (ly_lda agg1027 rfl rfl rfl rfl) (hd 16 rfl) ?_
  refine jo_call Tryz.f21 (hPr) rfl Tryz.func21 rfl rfl (ovL_cons rfl ovL_nil) (.cons (.a1 .b (.a1 .n (.a1 .n .a0))) .nil) (hd 17 rfl) ?_ (fun ch hp => by simp at hp)
  rintro _ ⟨⟩; refine zmv rfl (hd 15 rfl) <| jo_l (ly_ext rfl rfl) (hd 18 rfl) <| jo_l (ly_ext rfl rfl) (hd 19 rfl) <| zas rfl (hd 3 rfl) <| zas rfl (hd 4 rfl) <| jo_nil <| jc_seq <| jc_region ?_
  refine jo_call Tryz.f40 (QInt_s 1 (by unfold inI; omega)) rfl Tryz.func40 rfl rfl (ovL_cons rfl ovL_nil) (.cons .i .nil) (hd 21 rfl) ?_ (fun ch hp => by simp at hp)
  rintro y hy; injection hy with hy; subst hy
  refine jo_call Tryz.f40 (QInt_s 0 (by unfold inI; omega)) rfl Tryz.func40 rfl rfl (ovL_cons rfl ovL_nil) (.cons .i .nil) (hd 22 rfl) ?_ (fun ch hp => by simp at hp)
  rintro y hy; injection hy with hy; subst hy
  refine jo_call Tryz.f9 (QQuo_0 _ _ _ 1 1 r1 r1 _ _ _ 0 1 r0 r1 (by decide) (by decide) rfl) rfl Tryz.func9 rfl rfl (ovL_cons rfl (ovL_cons rfl ovL_nil)) (.cons (.a1 .b (.a1 .n (.a1 .n .a0))) (.cons (.a1 .b (.a1 .n (.a1 .n .a0))) .nil)) (hd 23 rfl) ?_ (fun ch hp => by simp at hp)
  rintro _ ⟨⟩; refine zmv rfl (hd 20 rfl) <| jo_l (ly_ext rfl rfl) (hd 24 rfl) <| jo_l (ly_ext rfl rfl) (hd 25 rfl) <| jo_h (hy_alloc (id := 3) zero1027 (by decide) rfl (by decide) rfl) (hd 5 rfl) <| jo_st (sy_store rfl rfl rfl siz1027 rfl rfl (zlb rfl)) <| zas rfl (hd 6 rfl) <| jo_nil <| zsr <| zmv rfl (hd 26 rfl) <| jo_l (ly_tt (ly_eq rfl rfl) rfl) (hd 27 rfl) <| zmv rfl (hd 28 rfl) <| jo_g 28 rfl rfl (ly_mv rfl) (hd 29 rfl) ?_; refine jo_g 28 rfl rfl (ly_tt (ly_eq rfl rfl) rfl) (hd 30 rfl) <| jo_l (ly_pick_t rfl rfl) (hd 31 rfl) <| zmv rfl (hd 32 rfl) <| jo_g 32 rfl rfl (ly_mv rfl) (hd 33 rfl) <| jo_g 32 rfl rfl (ly_tt (ly_eqS rfl rfl) rfl) (hd 34 rfl) <| jo_l (ly_pick_t rfl rfl) (hd 35 rfl) <| zmv rfl (hd 36 rfl) <| jo_g 36 rfl rfl (ly_mv rfl) (hd 37 rfl) <| jo_g 36 rfl rfl (ly_tt (ly_eq rfl rfl) rfl) (hd 38 rfl) <| jo_l (ly_pick_t rfl rfl) (hd 39 rfl) <| zas rfl (hd 0 rfl) <| jo_nil <| jc_ret ?_
  refine ⟨_, _, (.cons rfl .nil), .b, ?_⟩
  exact rfl



theorem halves_v (a b : Nat) (hb : b ≠ 0) (la : lenV (a : Int) ≤ 67108864) (lb : lenV (b : Int) ≤ 67108864) : Spec Tryz.prog 92 [.n false .u64 (lm (a : Int)), .n false .u64 (lm (b : Int))] (fun o => o = .ret (.t [.n false .u64 (lm ((a / b : Nat) : Int)), .n false .u64 (lm ((a % b : Nat) : Int))])) := by
  refine spec_of' [(0, .n false .u64 (lm (a : Int))), (1, .n false .u64 (lm (b : Int)))] rfl Tryz.func92 rfl (zlb rfl) fun Γ hN hds hL hR => ?_
  have hd := hdOf 23 hN
  have hBo : Spec Tryz.prog 121 [.n false .u64 (lm (a : Int)), .n false .u64 (lm (b : Int))] (fun o => o = .ret (.t [.n false .u64 (lm ((a / b : Nat) : Int)), .n false .u64 (lm ((a % b : Nat) : Int)), .i .i64 0])) := by have h := Both_v (a : Int) (b : Int) la lb (by omega); rwa [qn_nt, rn_nt] at h
  refine zsr <| zas rfl (hd 4 rfl) <| zas rfl (hd 5 rfl) <| jo_nil <| zsr <| zmv rfl (hd 10 rfl) <| zmv rfl (hd 11 rfl) ?_
  refine jo_call Tryz.f121 (hBo) rfl Tryz.func121 rfl rfl (ovL_cons rfl (ovL_cons rfl ovL_nil)) (.cons .n (.cons .n .nil)) (hd 12 rfl) ?_ (fun ch hp => by simp at hp)
  rintro _ ⟨⟩; refine zmv rfl (hd 9 rfl) <| jo_l (ly_ext rfl rfl) (hd 13 rfl) <| jo_l (ly_ext rfl rfl) (hd 14 rfl) <| jo_l (ly_ext rfl rfl) (hd 15 rfl) <| zas rfl (hd 6 rfl) <| zas rfl (hd 7 rfl) <| zas rfl (hd 8 rfl) <| jo_nil <| jc_seq <| zsr <| zmv rfl (hd 16 rfl) <| jo_l (ly_ff (ly_ne rfl rfl) (by decide)) (hd 17 rfl) ?_; refine jo_nil <| jc_litf rfl <| jc_skip <| zsr <| zmv rfl (hd 21 rfl) <| zmv rfl (hd 22 rfl) <| zas rfl (hd 4 rfl) <| zas rfl (hd 5 rfl) <| jo_nil <| jc_ret ?_
  refine ⟨_, _, (.cons rfl (.cons rfl .nil)), (.t1 .n (.t1 .n .t0)), ?_⟩
  exact rfl

theorem compare_v (a b c d : Nat) (hb : b ≠ 0) (hd0 : d ≠ 0) (la : lenV (a : Int) ≤ 67108864) (lb : lenV (b : Int) ≤ 67108864) (lc : lenV (c : Int) ≤ 67108864) (ld : lenV (d : Int) ≤ 67108864) : Spec Tryz.prog 50 [.n false .u64 (lm (a : Int)), .n false .u64 (lm (b : Int)), .n false .u64 (lm (c : Int)), .n false .u64 (lm (d : Int))] (fun o => o = .ret (.i .i64 (cN a b c d))) := by
  refine spec_of' [(0, .n false .u64 (lm (a : Int))), (1, .n false .u64 (lm (b : Int))), (2, .n false .u64 (lm (c : Int))), (3, .n false .u64 (lm (d : Int)))] rfl Tryz.func50 rfl (zlb rfl) fun Γ hN hds hL hR => ?_
  have hd := hdOf 61 hN
  refine zsr <| zas rfl (hd 8 rfl) <| jo_nil <| zsr <| zas rfl (hd 9 rfl) <| jo_nil <| jc_block ?_
  refine jc_loopF (G := Nat × Nat × Nat × Nat × Int) (fun g => g.2.1 ≠ 0 ∧ g.2.2.2.1 ≠ 0 ∧ lenV (g.1 : Int) ≤ 67108864 ∧ lenV (g.2.1 : Int) ≤ 67108864 ∧ lenV (g.2.2.1 : Int) ≤ 67108864 ∧ lenV (g.2.2.2.1 : Int) ≤ 67108864 ∧ (g.2.2.2.2 = 1 ∨ g.2.2.2.2 = -1) ∧ g.2.2.2.2 * cN g.1 g.2.1 g.2.2.1 g.2.2.2.1 = cN a b c d) (fun g => [(0, .n false .u64 (lm (g.1 : Int))), (1, .n false .u64 (lm (g.2.1 : Int))), (2, .n false .u64 (lm (g.2.2.1 : Int))), (3, .n false .u64 (lm (g.2.2.2.1 : Int))), (9, .i .i64 g.2.2.2.2), (8, .u), (10, .u), (11, .u), (12, .u), (13, .u), (14, .u), (15, .u), (16, .u), (17, .u), (18, .u), (19, .u), (20, .u), (21, .u), (22, .u), (23, .u), (24, .u), (25, .u), (26, .u), (27, .u), (28, .u), (29, .u), (30, .u), (31, .u), (32, .u), (33, .u), (34, .u), (35, .u), (36, .u), (37, .u), (38, .u), (39, .u), (40, .u), (41, .u), (42, .u), (43, .u), (44, .u), (45, .u), (46, .u), (47, .u), (48, .u), (49, .u), (50, .u), (51, .u), (52, .u), (53, .u), (54, .u), (55, .u), (56, .u), (57, .u), (58, .u), (59, .u), (60, .u)]) (fun _ => _) (fun g => g.2.1) (a, b, c, d, 1) ?_ ?_ rfl ?_
  · exact ⟨hb, hd0, la, lb, lc, ld, .inl rfl, Int.one_mul _⟩
  · exact (.cons rfl (.cons rfl (.cons rfl (.cons rfl (.cons rfl (.u (.u (.u (.u (.u (.u (.u (.u (.u (.u (.u (.u (.u (.u (.u (.u (.u (.u (.u (.u (.u (.u (.u (.u (.u (.u (.u (.u (.u (.u (.u (.u (.u (.u (.u (.u (.u (.u (.u (.u (.u (.u (.u (.u (.u (.u (.u (.u (.u (.u (.u (.u .nil)))))))))))))))))))))))))))))))))))))))))))))))))))))))))
  · rintro ⟨a1, b1, c1, d1, sg⟩ ⟨hb1, hd1, ba, bb, bc, bd, hsg, hc9⟩
    dsimp only at hb1 hd1 ba bb bc bd hsg hc9 ⊢
    have hlx := @lm_len0 (a1 % b1)
    have hly := @lm_len0 (c1 % d1)
    have bp := Nat.le_trans (lenV_nat (Nat.div_le_self a1 b1)) ba
    have bq := Nat.le_trans (lenV_nat (Nat.div_le_self c1 d1)) bc
    have bx := Nat.le_trans (lenV_nat (Nat.mod_le a1 b1)) ba
    have by9 := Nat.le_trans (lenV_nat (Nat.mod_le c1 d1)) bc
    have llp := lenV_lm bp
    have llq := lenV_lm bq
    have hCp : Spec Tryz.prog 67 [.n false .u64 (lm ((a1 / b1 : Nat) : Int)), .n false .u64 (lm ((c1 / d1 : Nat) : Int))] (fun o => o = .ret (.i .i64 (cmpI ((a1 / b1 : Nat) : Int) ((c1 / d1 : Nat) : Int)))) := by have h := Compare_v ((a1 / b1 : Nat) : Int) ((c1 / d1 : Nat) : Int) (by omega) (by omega); rwa [Int.natAbs_natCast, Int.natAbs_natCast] at h
    refine jc_seq <| jc_block <| zsr <| zmv rfl (hd 18 rfl) <| zmv rfl (hd 19 rfl) ?_
    refine jo_call Tryz.f92 (halves_v a1 b1 hb1 ba bb) rfl Tryz.func92 rfl rfl (ovL_cons rfl (ovL_cons rfl ovL_nil)) (.cons .n (.cons .n .nil)) (hd 20 rfl) ?_ (fun ch hp => by simp at hp)
    rintro _ ⟨⟩; refine zmv rfl (hd 17 rfl) <| jo_l (ly_ext rfl rfl) (hd 21 rfl) <| jo_l (ly_ext rfl rfl) (hd 22 rfl) <| zas rfl (hd 10 rfl) <| zas rfl (hd 11 rfl) <| jo_nil <| zsr <| zmv rfl (hd 24 rfl) <| zmv rfl (hd 25 rfl) ?_
    refine jo_call Tryz.f92 (halves_v c1 d1 hd1 bc bd) rfl Tryz.func92 rfl rfl (ovL_cons rfl (ovL_cons rfl ovL_nil)) (.cons .n (.cons .n .nil)) (hd 26 rfl) ?_ (fun ch hp => by simp at hp)
    rintro _ ⟨⟩; refine zmv rfl (hd 23 rfl) <| jo_l (ly_ext rfl rfl) (hd 27 rfl) <| jo_l (ly_ext rfl rfl) (hd 28 rfl) <| zas rfl (hd 12 rfl) <| zas rfl (hd 13 rfl) <| jo_nil <| jc_seq <| zsr <| zmv rfl (hd 29 rfl) <| zmv rfl (hd 30 rfl) ?_
    refine jo_call Tryz.f67 (hCp) rfl Tryz.func67 rfl rfl (ovL_cons rfl (ovL_cons rfl ovL_nil)) (.cons .n (.cons .n .nil)) (hd 31 rfl) ?_ (fun ch hp => by simp at hp)
    rintro _ ⟨⟩; refine zas rfl (hd 14 rfl) <| jo_nil <| zsr <| zmv rfl (hd 32 rfl) <| jo_l (ly_ne rfl rfl) (hd 33 rfl) <| jo_nil ?_
    refine jc_if rfl (fun h1 => ?_) (fun h1 => ?_)
    · have hne : a1 / b1 ≠ c1 / d1 := fun e => h1 (by rw [e]; exact cmpI_0.2 rfl)
      have hcq := cN_q hb1 hd1 hne
      have hcr := @cN_rng a b c d
      refine zsr <| zmv rfl (hd 34 rfl) <| zmv rfl (hd 35 rfl) <| jo_l (ly_mul rfl rfl (r := cN a b c d) (by rw [hcq, hc9]; exact wrap_i64 (by omega) (by omega))) (hd 36 rfl) <| zas rfl (hd 8 rfl) <| jo_nil <| jc_ret ?_
      refine ⟨_, _, (.cons rfl .nil), .i, ?_⟩
      exact rfl
    · have hqe : a1 / b1 = c1 / d1 := by have h9 := cmpI_0.1 (Decidable.not_not.1 h1); omega
      have hz := cN_z hb1 hd1 hqe
      refine jc_skip <| jc_seq <| jc_block <| zsr <| zmv rfl (hd 38 rfl) <| jo_l (ly_lenn sl28 rfl) (hd 39 rfl) <| jo_l (ly_eq rfl rfl) (hd 40 rfl) <| zmv rfl (hd 41 rfl) ?_
      refine jo_ifp 41 rfl (fun h2 => ?_) (fun h2 => ?_)
      · have hxz : a1 % b1 = 0 := hlx.1 (by omega)
        refine jo_g 41 rfl rfl (ly_mv rfl) (hd 42 rfl) <| jo_g 41 rfl rfl (ly_lenn sl28 rfl) (hd 43 rfl) <| jo_g 41 rfl rfl (ly_eq rfl rfl) (hd 44 rfl) <| jo_l (ly_pick_t rfl rfl) (hd 45 rfl) <| zas rfl (hd 37 rfl) <| jo_nil ?_
        refine jc_if rfl (fun h3 => ?_) (fun h3 => ?_)
        · have hyz : c1 % d1 = 0 := hly.1 (by omega)
          refine zsr <| zas rfl (hd 8 rfl) <| jo_nil <| jc_ret ?_
          refine ⟨_, _, (.cons rfl .nil), .i, ?_⟩
          first | (exfalso; omega) | (rw [← hc9, hz.1 hxz hyz, Int.mul_zero]) | (rw [← hc9, hz.2.1 hxz hyn]; show Out.ret (V.i .i64 _) = Out.ret (V.i .i64 _); congr 2; omega) | (rw [← hc9, hz.2.2 hxn hyz2]; show Out.ret (V.i .i64 _) = Out.ret (V.i .i64 _); congr 2; omega)
        · have hyn : c1 % d1 ≠ 0 := fun e => h3 (by have := hly.2 e; omega)
          refine zsr <| zmv rfl (hd 47 rfl) <| jo_l (ly_lenn sl28 rfl) (hd 48 rfl) <| jo_l (ly_eq rfl rfl) (hd 49 rfl) <| zas rfl (hd 46 rfl) <| jo_nil ?_
          refine jc_if rfl (fun h4 => ?_) (fun h4 => ?_)
          · have hxz2 : a1 % b1 = 0 := hlx.1 (by omega)
            refine zsr <| zmv rfl (hd 50 rfl) <| jo_l (ly_neg rfl (r := -sg) (by rw [wrap_i64 (by omega) (by omega)]; omega)) (hd 51 rfl) <| zas rfl (hd 8 rfl) <| jo_nil <| jc_ret ?_
            refine ⟨_, _, (.cons rfl .nil), .i, ?_⟩
            first | (exfalso; omega) | (rw [← hc9, hz.1 hxz hyz, Int.mul_zero]) | (rw [← hc9, hz.2.1 hxz hyn]; show Out.ret (V.i .i64 _) = Out.ret (V.i .i64 _); congr 2; omega) | (rw [← hc9, hz.2.2 hxn hyz2]; show Out.ret (V.i .i64 _) = Out.ret (V.i .i64 _); congr 2; omega)
          · have hxn2 : a1 % b1 ≠ 0 := fun e => h4 (by have := hlx.2 e; omega)
            refine zsr <| zmv rfl (hd 53 rfl) <| jo_l (ly_lenn sl28 rfl) (hd 54 rfl) <| jo_l (ly_eq rfl rfl) (hd 55 rfl) <| zas rfl (hd 52 rfl) <| jo_nil ?_
            refine jc_if rfl (fun h5 => ?_) (fun h5 => ?_)
            · have hyz2 : c1 % d1 = 0 := hly.1 (by omega)
              refine zsr <| zmv rfl (hd 56 rfl) <| zas rfl (hd 8 rfl) <| jo_nil <| jc_ret ?_
              refine ⟨_, _, (.cons rfl .nil), .i, ?_⟩
              first | (exfalso; omega) | (rw [← hc9, hz.1 hxz hyz, Int.mul_zero]) | (rw [← hc9, hz.2.1 hxz hyn]; show Out.ret (V.i .i64 _) = Out.ret (V.i .i64 _); congr 2; omega) | (rw [← hc9, hz.2.2 hxn hyz2]; show Out.ret (V.i .i64 _) = Out.ret (V.i .i64 _); congr 2; omega)
            · have hyn2 : c1 % d1 ≠ 0 := fun e => h5 (by have := hly.2 e; omega)
              refine jc_skip <| jc_region <| zmv rfl (hd 57 rfl) <| zmv rfl (hd 58 rfl) <| zmv rfl (hd 59 rfl) <| zmv rfl (hd 60 rfl) <| zas rfl (hd 0 rfl) <| zas rfl (hd 1 rfl) <| zas rfl (hd 2 rfl) <| zas rfl (hd 3 rfl) <| jo_nil <| jc_region <| zmv rfl (hd 15 rfl) ?_; refine jo_l (ly_neg rfl (r := -sg) (by rw [wrap_i64 (by omega) (by omega)]; omega)) (hd 16 rfl) <| zas rfl (hd 9 rfl) <| jo_nil ?_
              refine ⟨(b1, a1 % b1, d1, c1 % d1, -sg), ?_, ?_, rfl, cov_n 108 (by kernel_rfl) (by kernel_rfl) ?_⟩
              · first | (exfalso; omega) | exact ⟨by dsimp only; omega, by dsimp only; omega, bb, bx, bd, by9, (by dsimp only; omega), (by show -sg * cN b1 (a1 % b1) d1 (c1 % d1) = _; rw [cN_n hqe, Int.neg_mul_neg]; exact hc9)⟩
              · exact Nat.mod_lt _ (by omega)
              · exact (.cons rfl (.cons rfl (.cons rfl (.cons rfl (.cons rfl (.u (.u (.u (.u (.u (.u (.u (.u (.u (.u (.u (.u (.u (.u (.u (.u (.u (.u (.u (.u (.u (.u (.u (.u (.u (.u (.u (.u (.u (.u (.u (.u (.u (.u (.u (.u (.u (.u (.u (.u (.u (.u (.u (.u (.u (.u (.u (.u (.u (.u (.u (.u .nil)))))))))))))))))))))))))))))))))))))))))))))))))))))))))
      · have hxn : a1 % b1 ≠ 0 := fun e => h2 (by have := hlx.2 e; omega)
        refine jo_s 41 rfl rfl rfl (hd 42 rfl) <| jo_s 41 rfl rfl rfl (hd 43 rfl) <| jo_s 41 rfl rfl rfl (hd 44 rfl) <| jo_l (ly_pick_f rfl rfl) (hd 45 rfl) <| zas rfl (hd 37 rfl) <| jo_nil <| jc_litf rfl <| zsr <| zmv rfl (hd 47 rfl) <| jo_l (ly_lenn sl28 rfl) (hd 48 rfl) <| jo_l (ly_eq rfl rfl) (hd 49 rfl) <| zas rfl (hd 46 rfl) ?_; refine jo_nil ?_
        refine jc_if rfl (fun h7 => ?_) (fun h7 => ?_)
        · have hxz2 : a1 % b1 = 0 := hlx.1 (by omega)
          refine zsr <| zmv rfl (hd 50 rfl) <| jo_l (ly_neg rfl (r := -sg) (by rw [wrap_i64 (by omega) (by omega)]; omega)) (hd 51 rfl) <| zas rfl (hd 8 rfl) <| jo_nil <| jc_ret ?_
          refine ⟨_, _, (.cons rfl .nil), .i, ?_⟩
          first | (exfalso; omega) | (rw [← hc9, hz.1 hxz hyz, Int.mul_zero]) | (rw [← hc9, hz.2.1 hxz hyn]; show Out.ret (V.i .i64 _) = Out.ret (V.i .i64 _); congr 2; omega) | (rw [← hc9, hz.2.2 hxn hyz2]; show Out.ret (V.i .i64 _) = Out.ret (V.i .i64 _); congr 2; omega)
        · have hxn2 : a1 % b1 ≠ 0 := fun e => h7 (by have := hlx.2 e; omega)
          refine zsr <| zmv rfl (hd 53 rfl) <| jo_l (ly_lenn sl28 rfl) (hd 54 rfl) <| jo_l (ly_eq rfl rfl) (hd 55 rfl) <| zas rfl (hd 52 rfl) <| jo_nil ?_
          refine jc_if rfl (fun h8 => ?_) (fun h8 => ?_)
          · have hyz2 : c1 % d1 = 0 := hly.1 (by omega)
            refine zsr <| zmv rfl (hd 56 rfl) <| zas rfl (hd 8 rfl) <| jo_nil <| jc_ret ?_
            refine ⟨_, _, (.cons rfl .nil), .i, ?_⟩
            first | (exfalso; omega) | (rw [← hc9, hz.1 hxz hyz, Int.mul_zero]) | (rw [← hc9, hz.2.1 hxz hyn]; show Out.ret (V.i .i64 _) = Out.ret (V.i .i64 _); congr 2; omega) | (rw [← hc9, hz.2.2 hxn hyz2]; show Out.ret (V.i .i64 _) = Out.ret (V.i .i64 _); congr 2; omega)
          · have hyn2 : c1 % d1 ≠ 0 := fun e => h8 (by have := hly.2 e; omega)
            refine jc_skip <| jc_region <| zmv rfl (hd 57 rfl) <| zmv rfl (hd 58 rfl) <| zmv rfl (hd 59 rfl) <| zmv rfl (hd 60 rfl) <| zas rfl (hd 0 rfl) <| zas rfl (hd 1 rfl) <| zas rfl (hd 2 rfl) <| zas rfl (hd 3 rfl) <| jo_nil <| jc_region <| zmv rfl (hd 15 rfl) ?_; refine jo_l (ly_neg rfl (r := -sg) (by rw [wrap_i64 (by omega) (by omega)]; omega)) (hd 16 rfl) <| zas rfl (hd 9 rfl) <| jo_nil ?_
            refine ⟨(b1, a1 % b1, d1, c1 % d1, -sg), ?_, ?_, rfl, cov_n 108 (by kernel_rfl) (by kernel_rfl) ?_⟩
            · first | (exfalso; omega) | exact ⟨by dsimp only; omega, by dsimp only; omega, bb, bx, bd, by9, (by dsimp only; omega), (by show -sg * cN b1 (a1 % b1) d1 (c1 % d1) = _; rw [cN_n hqe, Int.neg_mul_neg]; exact hc9)⟩
            · exact Nat.mod_lt _ (by omega)
            · exact (.cons rfl (.cons rfl (.cons rfl (.cons rfl (.cons rfl (.u (.u (.u (.u (.u (.u (.u (.u (.u (.u (.u (.u (.u (.u (.u (.u (.u (.u (.u (.u (.u (.u (.u (.u (.u (.u (.u (.u (.u (.u (.u (.u (.u (.u (.u (.u (.u (.u (.u (.u (.u (.u (.u (.u (.u (.u (.u (.u (.u (.u (.u (.u .nil)))))))))))))))))))))))))))))))))))))))))))))))))))))))))

theorem QCmp_s (s : Bool) (l d : List Int) (x y : Nat) (hx : Rw l x) (hy : Rw d y) (z : Int) (Y : Nat) (q1 : Qe s x y z Y) (s2 : Bool) (l2 d2 : List Int) (x2 y2 : Nat) (hx2 : Rw l2 x2) (hy2 : Rw d2 y2) (w : Int) (X : Nat) (q2 : Qe s2 x2 y2 w X) : Spec Tryz.prog 10 [(.a [.b s, .n false .u64 l, .n false .u64 d]), (.a [.b s2, .n false .u64 l2, .n false .u64 d2])] (fun o => o = .ret (.t [.i .i64 (cmpI (z * (X : Int)) (w * (Y : Int))), .i .i64 0])) := by
  refine spec_ofD [(0, (.a [.b s, .n false .u64 l, .n false .u64 d])), (1, (.a [.b s2, .n false .u64 l2, .n false .u64 d2]))] rfl Tryz.func10 rfl (zlb rfl) fun Γ 𝓡 hN hds hL hR hE => ?_
  have hd := hdOf 40 hN
  have h0 := q1.1
  have h02 := q2.1
  have hS1 : Spec Tryz.prog 49 [(.a [.b s, .n false .u64 l, .n false .u64 d])] (fun o => o = .ret (.i .i64 (sgnI (zs s x)))) := by have h := qsign_s s l d hx.l hx.u; rwa [hx.sv] at h
  have hS2 : Spec Tryz.prog 49 [(.a [.b s2, .n false .u64 l2, .n false .u64 d2])] (fun o => o = .ret (.i .i64 (sgnI (zs s2 x2)))) := by have h := qsign_s s2 l2 d2 hx2.l hx2.u; rwa [hx2.sv] at h
  have hM1 : Spec Tryz.prog 51 [.n false .u64 l] (fun o => o = .ret (.n true .u64 (lm (x : Int)))) := by have h := Norm_s l (by have := hx.l; omega); rw [hx.t] at h; exact h
  have hM2 : Spec Tryz.prog 51 [.n false .u64 d] (fun o => o = .ret (.n true .u64 (lm (y : Int)))) := by have h := Norm_s d (by have := hy.l; omega); rw [hy.t] at h; exact h
  have hM3 : Spec Tryz.prog 51 [.n false .u64 l2] (fun o => o = .ret (.n true .u64 (lm (x2 : Int)))) := by have h := Norm_s l2 (by have := hx2.l; omega); rw [hx2.t] at h; exact h
  have hM4 : Spec Tryz.prog 51 [.n false .u64 d2] (fun o => o = .ret (.n true .u64 (lm (y2 : Int)))) := by have h := Norm_s d2 (by have := hy2.l; omega); rw [hy2.t] at h; exact h
  have hCc := compare_v x y x2 y2 h0 h02 hx.b hy.b hx2.b hy2.b
  have hcv := cmp_v q1.1 q2.1 q1.2.1 q2.2.1 q1.2.2 q2.2.2
  have hcq := cmp_q (s := s) (t := s2) (x := x) (x2 := x2) h0 h02
  have hcr := @cN_rng x y x2 y2
  refine jcp_seq <| jc_region <| jo_h (hy_box (id := 0) (n := 3) rfl rfl rfl (by decide) rfl) (hd 2 rfl) <| jo_h (hy_box (id := 1) (n := 3) rfl rfl rfl (by decide) rfl) (hd 3 rfl) <| jo_h (hy_alloc (id := 2) zero3 (by decide) rfl (by decide) rfl) (hd 4 rfl) <| jo_h (hy_alloc (id := 3) zero23 (by decide) rfl (by decide) rfl) (hd 5 rfl) <| jo_nil <| jcd_defer (g := 47) (caps := [.p 2 0 0, .p 3 0 0]) 4 [_] (ops := [_, _]) rfl Tryz.func47 rfl rfl rfl hds hR hL hE <| jo_l (ly_mf (ovL_cons rfl (ovL_cons rfl ovL_nil))) (hd 8 rfl) <| jo_nil ?_
  refine ⟨rfl, rfl, rfl, ?_⟩
  intro Γ1 hN1 hL hR1
  replace hd : ∀ d, Nat.blt d 40 = true → d < Γ1.N := fun d h => by rw [hN1]; exact hd d h
  refine jo_nil <| zsr <| jo_l (ly_lda agg1027 rfl rfl rfl rfl) (hd 9 rfl) <| jo_l (ly_lda agg1027 rfl rfl rfl rfl) (hd 10 rfl) <| jo_h (hy_lit (id := 4) (xs := [.tmp 9, .tmp 10]) el1084 rfl (ovL_cons rfl (ovL_cons rfl ovL_nil)) rfl (all2_of rfl) (by decide) rfl) (hd 11 rfl) <| jo_frzr 11 (sz := 3) [[V.b s, V.n false .u64 l, V.n false .u64 d], [V.b s2, V.n false .u64 l2, V.n false .u64 d2]] rfl rfl rfl rfl (by simp) (by simp [pureV]) (by decide) hL ?_
  refine jo_call Tryz.f31 (looked_2 s l d y s2 l2 d2 y2 hy h0 hy2 h02) rfl Tryz.func31 rfl rfl (ovL_cons rfl ovL_nil) (.cons .l .nil) (hd 12 rfl) ?_ (fun ch hp => by simp at hp)
  rintro _ ⟨⟩; refine jo_nil <| jc_seq <| jc_nopan <| jc_draw (n := 6) _ rfl mixed <| zal2 0 [1, 3, 4, 5] (lo_l (ly_lda agg1027 rfl rfl rfl rfl) (hd 13 rfl)) rfl <| zal2 2 [3, 4, 5] (lo_l (ly_lda agg1027 rfl rfl rfl rfl) (hd 15 rfl)) rfl ?_
  refine ja_1 1 ?_ rfl (by kernel_rfl)
  refine js_call Tryz.f49 (hS1) rfl Tryz.func49 rfl rfl (ovL_cons rfl ovL_nil) (.cons (.a1 .b (.a1 .n (.a1 .n .a0))) .nil) (hd 14 rfl) ?_ (fun ch hp => by simp at hp)
  rintro y hy; injection hy with hy; subst hy
  refine ja_1 3 ?_ rfl (by kernel_rfl)
  refine js_call Tryz.f49 (hS2) rfl Tryz.func49 rfl rfl (ovL_cons rfl ovL_nil) (.cons (.a1 .b (.a1 .n (.a1 .n .a0))) .nil) (hd 16 rfl) ?_ (fun ch hp => by simp at hp)
  rintro _ ⟨⟩; refine zal 4 (lo_l (ly_as rfl) (hd 6 rfl)) rfl <| zal 5 (lo_l (ly_as rfl) (hd 7 rfl)) rfl <| ja_nil (by kernel_rfl) <| jc_seq <| zsr <| zmv rfl (hd 17 rfl) <| zmv rfl (hd 18 rfl) <| jo_l (ly_ne rfl rfl) (hd 19 rfl) <| jo_nil ?_
  refine jc_if rfl (fun h1 => ?_) (fun h1 => ?_)
  · have hc1 := h1
    refine jc_seq <| zsr <| zmv rfl (hd 20 rfl) <| zmv rfl (hd 21 rfl) <| jo_l (ly_lt rfl rfl) (hd 22 rfl) <| jo_nil ?_
    refine jc_if rfl (fun h2 => ?_) (fun h2 => ?_)
    · have hc2 := h2
      refine zsr <| jo_st (sy_store rfl rfl rfl siz3 rfl rfl (zlb rfl)) <| jo_st (sy_store rfl rfl rfl siz23 rfl rfl (zlb rfl)) <| jo_nil <| jc_ret <| Clo.fin clo_2351 (m := 4) (i := 2) (j := 3) (zlb rfl) rfl rfl rfl rfl ?_
      refine ⟨_, _, (.cons (ResV.cell1 one3 rfl rfl rfl) (.cons (ResV.cell1 one23 rfl rfl rfl) .nil)), (.t1 .i (.t1 .i .t0)), ?_⟩
      rw [← hcv, hcq, if_pos hc1, if_pos hc2]
    · have hc2 := h2
      refine jc_skip <| zsr <| jo_st (sy_store rfl rfl rfl siz3 rfl rfl (zlb rfl)) <| jo_st (sy_store rfl rfl rfl siz23 rfl rfl (zlb rfl)) <| jo_nil <| jc_ret <| Clo.fin clo_2351 (m := 4) (i := 2) (j := 3) (zlb rfl) rfl rfl rfl rfl ?_
      refine ⟨_, _, (.cons (ResV.cell1 one3 rfl rfl rfl) (.cons (ResV.cell1 one23 rfl rfl rfl) .nil)), (.t1 .i (.t1 .i .t0)), ?_⟩
      rw [← hcv, hcq, if_pos hc1, if_neg hc2]
  · have hc1 := h1
    refine jc_skip <| jc_seq <| jc_nopan <| jc_draw (n := 19) _ rfl mixed <| zal 0 (lo_l (ly_mv rfl) (hd 23 rfl)) rfl <| zal2 1 [2, 3, 4, 7, 11, 14, 15, 16, 17, 18] (lo_l (ly_fa fld1027_0 rfl rfl rfl) (hd 24 rfl)) rfl <| zal2 2 [3, 4, 7, 11, 14, 15, 16, 17, 18] (lo_l (ly_fa fld30_1 rfl rfl rfl) (hd 25 rfl)) rfl <| zal2 3 [4, 7, 11, 14, 15, 16, 17, 18] (lo_l (ly_ld one28 rfl rfl rfl) (hd 26 rfl)) rfl <| zal2 5 [6, 7, 11, 14, 15, 16, 17, 18] (lo_l (ly_fa fld1027_1 rfl rfl rfl) (hd 28 rfl)) rfl <| zal2 6 [7, 11, 14, 15, 16, 17, 18] (lo_l (ly_ld one28 rfl rfl rfl) (hd 29 rfl)) rfl <| zal2 8 [9, 10, 11, 14, 15, 16, 17, 18] (lo_l (ly_fa fld1027_0 rfl rfl rfl) (hd 31 rfl)) rfl <| zal2 9 [10, 11, 14, 15, 16, 17, 18] (lo_l (ly_fa fld30_1 rfl rfl rfl) (hd 32 rfl)) rfl <| zal2 10 [11, 14, 15, 16, 17, 18] (lo_l (ly_ld one28 rfl rfl rfl) (hd 33 rfl)) rfl ?_; refine zal2 12 [13, 14, 15, 16, 17, 18] (lo_l (ly_fa fld1027_1 rfl rfl rfl) (hd 35 rfl)) rfl <| zal2 13 [14, 15, 16, 17, 18] (lo_l (ly_ld one28 rfl rfl rfl) (hd 36 rfl)) rfl ?_
    refine ja_1 4 ?_ rfl (by kernel_rfl)
    refine js_call Tryz.f51 (hM1) rfl Tryz.func51 rfl rfl (ovL_cons rfl ovL_nil) (.cons .n .nil) (hd 27 rfl) ?_ (fun ch hp => by simp at hp)
    rintro y hy; injection hy with hy; subst hy
    refine ja_1 7 ?_ rfl (by kernel_rfl)
    refine js_call Tryz.f51 (hM2) rfl Tryz.func51 rfl rfl (ovL_cons rfl ovL_nil) (.cons .n .nil) (hd 30 rfl) ?_ (fun ch hp => by simp at hp)
    rintro y hy; injection hy with hy; subst hy
    refine ja_1 11 ?_ rfl (by kernel_rfl)
    refine js_call Tryz.f51 (hM3) rfl Tryz.func51 rfl rfl (ovL_cons rfl ovL_nil) (.cons .n .nil) (hd 34 rfl) ?_ (fun ch hp => by simp at hp)
    rintro y hy; injection hy with hy; subst hy
    refine ja_1 14 ?_ rfl (by kernel_rfl)
    refine js_call Tryz.f51 (hM4) rfl Tryz.func51 rfl rfl (ovL_cons rfl ovL_nil) (.cons .n .nil) (hd 37 rfl) ?_ (fun ch hp => by simp at hp)
    rintro y hy; injection hy with hy; subst hy
    refine ja_1 15 ?_ rfl (by kernel_rfl)
    refine js_call Tryz.f50 (hCc) rfl Tryz.func50 rfl rfl (ovL_cons rfl (ovL_cons rfl (ovL_cons rfl (ovL_cons rfl ovL_nil)))) (.cons .n (.cons .n (.cons .n (.cons .n .nil)))) (hd 38 rfl) ?_ (fun ch hp => by simp at hp)
    rintro _ ⟨⟩; refine zal 16 (lo_l (ly_mul rfl rfl (r := sgnI (zs s x) * cN x y x2 y2) (by rcases sgn_range (zs s x) with e | e | e <;> rw [e] <;> exact wrap_i64 (by omega) (by omega))) (hd 39 rfl)) rfl ?_
    refine ja_1 17 ?_ rfl (by kernel_rfl)
    refine js_st (sy_store rfl rfl rfl siz3 rfl rfl (zlb rfl)) rfl ?_
    refine ja_1 18 ?_ rfl (by kernel_rfl)
    refine js_st (sy_store rfl rfl rfl siz23 rfl rfl (zlb rfl)) rfl <| ja_nil (by kernel_rfl) <| jc_ret <| Clo.fin clo_2351 (m := 4) (i := 2) (j := 3) (zlb rfl) rfl rfl rfl rfl ?_
    refine ⟨_, _, (.cons (ResV.cell1 one3 rfl rfl rfl) (.cons (ResV.cell1 one23 rfl rfl rfl) .nil)), (.t1 .i (.t1 .i .t0)), ?_⟩
    rw [← hcv, hcq, if_neg hc1]



theorem dl0 {x : Nat} : (digs B32 x).length = 0 ↔ x = 0 := by
  rw [List.length_eq_zero_iff]
  constructor
  · intro h
    refine Decidable.byContradiction fun hx => ?_
    have := vb_digs (b := B32) (by decide) x
    rw [h] at this
    simp [vb] at this
    omega
  · rintro rfl; exact digs_0
theorem dl_mono {x y : Nat} (h : x ≤ y) : (digs B32 x).length ≤ (digs B32 y).length := digs_mono (b := B32) (by decide) x y h
theorem dl_of {x : Nat} (h : lenV (x : Int) ≤ 67108864) : (digs B32 x).length ≤ 2097152 := by
  have h1 := lenV_dg h
  rwa [show dg (x : Int) = digs B32 x from by unfold dg; rw [Int.natAbs_natCast]] at h1
theorem dgN {x : Nat} : dg (x : Int) = digs B32 x := by unfold dg; rw [Int.natAbs_natCast]
theorem lims_nt {x : Nat} : lims (digs B32 x) = lm (x : Int) := by unfold lm; rw [Int.natAbs_natCast]; exact lims_digs x
theorem Rw.dl {l : List Int} {x : Nat} (h : Rw l x) : (digs B32 x).length ≤ 2097152 := dl_of h.b
theorem sgn_zs {s : Bool} {n : Nat} : sgnI (zs s n) = if n = 0 then 0 else if s = true then -1 else 1 := by
  unfold sgnI zs
  cases s <;> by_cases h : n = 0 <;> simp [h] <;> omega
theorem sgn_low {s : Bool} {x y : Nat} : sgnI (zs (sgq s x) (rn0 x y)) = sgnI (zs s x) := by
  have h := @rn0_eq0 x y
  by_cases hx : x = 0
  · subst hx; rw [rn0_0, zs_0, zs_0]
  · rw [sgq_p hx, sgn_zs, sgn_zs, if_neg (fun e => hx (h.1 e)), if_neg hx]
end Go.Proofs.YtpldmajdiljoaaaGreat.Vc
