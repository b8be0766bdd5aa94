/- RatioRings: for every two rationals of bulk at most 1048576 it returns true Texts joined: Wy, Wz, Ya, Yb, Ye, Yg, Yh, Yi, Yj, Yk, Yl, Ym. -/
import Derived.Test.YtpldmajdiljoaaaGreatK5
set_option linter.unusedVariables false
set_option linter.unusedSimpArgs false
set_option maxHeartbeats 4000000
namespace Go.Proofs.YtpldmajdiljoaaaGreat.Vc
open Go Go.RowKit
theorem mfits_e (l : List Int) (hl : l.length < 1099511627776) (hu : u64s l) : Spec Tryz.prog 115 [.n false .u64 l] (fun o => ∃ (r : List Int) (e : Int), o = .ret (.t [.n true .u64 r, .i .i64 e]) ∧ ErrN (vl l) r e) := by
  refine spec_of' [(0, .n false .u64 l)] rfl Tryz.func115 rfl (zlb rfl) fun Γ hN hds hL hR => ?_
  have hd := hdOf 10 hN
  have hm := trm_len l
  refine zsr <| zas rfl (hd 2 rfl) <| zas rfl (hd 3 rfl) <| jo_nil <| zsr <| zmv rfl (hd 4 rfl) ?_
  refine jo_call Tryz.f51 (Norm_s l hl) rfl Tryz.func51 rfl rfl (ovL_cons rfl ovL_nil) (.cons .n .nil) (hd 5 rfl) ?_ (fun ch hp => by simp at hp)
  rintro _ ⟨⟩; refine zas rfl (hd 0 rfl) <| jo_nil <| jc_seq <| zsr <| zmv rfl (hd 6 rfl) ?_
  refine jo_call Tryz.f39 (Length_s (trm l) (by omega) (u64s_trm hu)) rfl Tryz.func39 rfl rfl (ovL_cons rfl ovL_nil) (.cons .n .nil) (hd 7 rfl) ?_ (fun ch hp => by simp at hp)
  rintro _ ⟨⟩; refine jo_l (ly_gt rfl rfl) (hd 8 rfl) <| jo_nil ?_
  refine jc_if rfl (fun h1 => ?_) (fun h1 => ?_)
  · refine zsr <| zas rfl (hd 2 rfl) <| zas rfl (hd 3 rfl) <| jo_nil <| jc_ret ?_
    refine ⟨_, _, (.cons rfl (.cons rfl .nil)), (.t1 (.nil (fr := true) (k := .u64)) (.t1 .i .t0)), ?_⟩
    exact ⟨[], 3, rfl, errN_big hu rfl (by rw [lenN_trm] at *; omega)⟩
  · refine jc_skip <| zsr <| zmv rfl (hd 9 rfl) <| zas rfl (hd 2 rfl) <| zas rfl (hd 3 rfl) <| jo_nil <| jc_ret ?_
    refine ⟨_, _, (.cons rfl (.cons rfl .nil)), (.t1 .n (.t1 .i .t0)), ?_⟩
    exact ⟨_, 0, rfl, errN_ok hu rfl (by rw [lenN_trm] at *; omega)⟩

theorem great_e (a b : List Int) (ha : a.length < 1099511627776) (hb : b.length < 1099511627776) (ua : u64s a) (ub : u64s b) : Spec Tryz.prog 114 [.n false .u64 a, .n false .u64 b] (fun o => ∃ x : Bool, o = .ret (.b x) ∧ (x = true → 0 < lenN a ∧ 0 < lenN b ∧ 67108864 < lenN a + lenN b - 1)) := by
  refine spec_of' [(0, .n false .u64 a), (1, .n false .u64 b)] rfl Tryz.func114 rfl (zlb rfl) fun Γ hN hds hL hR => ?_
  have hd := hdOf 24 hN
  have h1 := lenN_le a
  have h2 := lenN_le b
  refine zsr <| zas rfl (hd 4 rfl) <| jo_nil <| zsr <| zmv rfl (hd 7 rfl) ?_
  refine jo_call Tryz.f39 (Length_s a ha ua) rfl Tryz.func39 rfl rfl (ovL_cons rfl ovL_nil) (.cons .n .nil) (hd 8 rfl) ?_ (fun ch hp => by simp at hp)
  rintro _ ⟨⟩; refine zmv rfl (hd 9 rfl) ?_
  refine jo_call Tryz.f39 (Length_s b hb ub) rfl Tryz.func39 rfl rfl (ovL_cons rfl ovL_nil) (.cons .n .nil) (hd 10 rfl) ?_ (fun ch hp => by simp at hp)
  rintro _ ⟨⟩; refine zas rfl (hd 5 rfl) <| zas rfl (hd 6 rfl) <| jo_nil <| zsr <| zmv rfl (hd 11 rfl) <| jo_l (ly_gt rfl rfl) (hd 12 rfl) <| zmv rfl (hd 13 rfl) ?_
  refine jo_ifp 13 rfl (fun h1 => ?_) (fun h1 => ?_)
  · refine jo_g 13 rfl rfl (ly_mv rfl) (hd 14 rfl) <| jo_g 13 rfl rfl (ly_gt rfl rfl) (hd 15 rfl) <| jo_l (ly_pick_t rfl rfl) (hd 16 rfl) <| zmv rfl (hd 17 rfl) ?_
    refine jo_ifp 17 rfl (fun h2 => ?_) (fun h2 => ?_)
    · refine jo_g 17 rfl rfl (ly_mv rfl) (hd 18 rfl) <| jo_g 17 rfl rfl (ly_mv rfl) (hd 19 rfl) <| jo_g 17 rfl rfl (ly_add rfl rfl (wrap_i64 (by omega) (by omega))) (hd 20 rfl) <| jo_g 17 rfl rfl (ly_sub rfl rfl (wrap_i64 (by omega) (by omega))) (hd 21 rfl) <| jo_g 17 rfl rfl (ly_gt rfl rfl) (hd 22 rfl) <| jo_l (ly_pick_t rfl rfl) (hd 23 rfl) <| zas rfl (hd 4 rfl) <| jo_nil <| jc_ret ?_
      refine ⟨_, _, (.cons rfl .nil), .b, ?_⟩
      exact ⟨_, rfl, fun h => by first | (cases h; done) | (simp at h; done) | (have h := of_decide_eq_true h; exact ⟨by omega, by omega, by omega⟩)⟩
    · refine jo_s 17 rfl rfl rfl (hd 18 rfl) <| jo_s 17 rfl rfl rfl (hd 19 rfl) <| jo_s 17 rfl rfl rfl (hd 20 rfl) <| jo_s 17 rfl rfl rfl (hd 21 rfl) <| jo_s 17 rfl rfl rfl (hd 22 rfl) <| jo_l (ly_pick_f rfl rfl) (hd 23 rfl) <| zas rfl (hd 4 rfl) <| jo_nil <| jc_ret ?_
      refine ⟨_, _, (.cons rfl .nil), .b, ?_⟩
      exact ⟨_, rfl, fun h => by first | (cases h; done) | (simp at h; done) | (have h := of_decide_eq_true h; exact ⟨by omega, by omega, by omega⟩)⟩
  · refine jo_s 13 rfl rfl rfl (hd 14 rfl) <| jo_s 13 rfl rfl rfl (hd 15 rfl) <| jo_l (ly_pick_f rfl rfl) (hd 16 rfl) <| zmv rfl (hd 17 rfl) <| jo_s 17 rfl rfl rfl (hd 18 rfl) <| jo_s 17 rfl rfl rfl (hd 19 rfl) <| jo_s 17 rfl rfl rfl (hd 20 rfl) <| jo_s 17 rfl rfl rfl (hd 21 rfl) <| jo_s 17 rfl rfl rfl (hd 22 rfl) <| jo_l (ly_pick_f rfl rfl) (hd 23 rfl) <| zas rfl (hd 4 rfl) <| jo_nil <| jc_ret ?_
    refine ⟨_, _, (.cons rfl .nil), .b, ?_⟩
    exact ⟨_, rfl, fun h => by first | (cases h; done) | (simp at h; done) | (have h := of_decide_eq_true h; exact ⟨by omega, by omega, by omega⟩)⟩

theorem product_e (a b : List Int) (hla : a.length < 4294967296) (hlb : b.length < 4294967296) (ua : u64s a) (ub : u64s b) : Spec Tryz.prog 88 [.n false .u64 a, .n false .u64 b, .f 89 []] (fun o => ∃ (r : List Int) (e : Int), o = .ret (.t [.n true .u64 r, .i .i64 e]) ∧ ErrN (vl a * vl b) r e) := by
  refine spec_of' [(0, .n false .u64 a), (1, .n false .u64 b), (2, .f 89 [])] rfl Tryz.func88 rfl (zlb rfl) fun Γ hN hds hL hR => ?_
  have hd := hdOf 22 hN
  have hma := trm_len a
  have hmb := trm_len b
  refine zsr <| zas rfl (hd 6 rfl) <| zas rfl (hd 7 rfl) <| jo_nil <| zsr <| zmv rfl (hd 8 rfl) ?_
  refine jo_call Tryz.f51 (Norm_s a (by omega)) rfl Tryz.func51 rfl rfl (ovL_cons rfl ovL_nil) (.cons .n .nil) (hd 9 rfl) ?_ (fun ch hp => by simp at hp)
  rintro _ ⟨⟩; refine zmv rfl (hd 10 rfl) ?_
  refine jo_call Tryz.f51 (Norm_s b (by omega)) rfl Tryz.func51 rfl rfl (ovL_cons rfl ovL_nil) (.cons .n .nil) (hd 11 rfl) ?_ (fun ch hp => by simp at hp)
  rintro _ ⟨⟩; refine zas rfl (hd 0 rfl) <| zas rfl (hd 1 rfl) <| jo_nil <| jc_seq <| zsr <| zmv rfl (hd 12 rfl) <| zmv rfl (hd 13 rfl) ?_
  refine jo_call Tryz.f114 (great_e (trm a) (trm b) (by omega) (by omega) (u64s_trm ua) (u64s_trm ub)) rfl Tryz.func114 rfl rfl (ovL_cons rfl (ovL_cons rfl ovL_nil)) (.cons .n (.cons .n .nil)) (hd 14 rfl) ?_ (fun ch hp => by simp at hp)
  rintro y ⟨x, hy, hx⟩; injection hy with hy; subst hy; refine jo_nil ?_
  refine jc_cond rfl (fun h1 => ?_) (fun h1 => ?_)
  · refine zsr <| zas rfl (hd 6 rfl) <| zas rfl (hd 7 rfl) <| jo_nil <| jc_ret ?_
    refine ⟨_, _, (.cons rfl (.cons rfl .nil)), (.t1 (.nil (fr := true) (k := .u64)) (.t1 .i .t0)), ?_⟩
    refine ⟨[], 3, rfl, ?_⟩
    obtain ⟨g1, g2, g3⟩ := hx (by assumption)
    have := errN_great (r := []) (u64s_trm ua) (u64s_trm ub) g1 g2 g3
    rwa [vl_trm, vl_trm] at this
  · refine jc_skip <| zsr <| zmv rfl (hd 15 rfl) <| zmv rfl (hd 16 rfl) <| zmv rfl (hd 17 rfl) ?_
    refine jo_call Tryz.f89 (way_s (trm a) (trm b) (by omega) (by omega) (u64s_trm ua) (u64s_trm ub)) rfl Tryz.func89 rfl rfl (ovL_cons rfl (ovL_cons rfl ovL_nil)) (.cons .n (.cons .n .nil)) (hd 18 rfl) ?_ (fun ch hp => by simp at hp)
    rintro y ⟨rs, hy, us, ls, vs⟩; injection hy with hy; subst hy
    refine jo_call Tryz.f115 (mfits_e rs (by omega) us) rfl Tryz.func115 rfl rfl (ovL_cons rfl ovL_nil) (.cons .n .nil) (hd 19 rfl) ?_ (fun ch hp => by simp at hp)
    rintro y ⟨rf, ef, hy, hf⟩; injection hy with hy; subst hy; refine jo_l (ly_ext rfl rfl) (hd 20 rfl) <| jo_l (ly_ext rfl rfl) (hd 21 rfl) <| zas rfl (hd 6 rfl) <| zas rfl (hd 7 rfl) <| jo_nil <| jc_ret ?_
    refine ⟨_, _, (.cons rfl (.cons rfl .nil)), (.t1 .n (.t1 .i .t0)), ?_⟩
    exact ⟨rf, ef, rfl, by rwa [vs, vl_trm, vl_trm] at hf⟩

theorem MulN_e (a b : List Int) (hla : a.length < 4294967296) (hlb : b.length < 4294967296) (ua : u64s a) (ub : u64s b) : Spec Tryz.prog 41 [.n false .u64 a, .n false .u64 b] (fun o => ∃ (r : List Int) (e : Int), o = .ret (.t [.n true .u64 r, .i .i64 e]) ∧ ErrN (vl a * vl b) r e) := by
  refine spec_of' [(0, .n false .u64 a), (1, .n false .u64 b)] rfl Tryz.func41 rfl (zlb rfl) fun Γ hN hds hL hR => ?_
  have hd := hdOf 11 hN
  refine zsr <| zas rfl (hd 4 rfl) <| zas rfl (hd 5 rfl) <| jo_nil <| zsr <| zmv rfl (hd 6 rfl) <| zmv rfl (hd 7 rfl) ?_
  refine jo_call Tryz.f88 (product_e a b hla hlb ua ub) rfl Tryz.func88 rfl rfl (ovL_cons rfl (ovL_cons rfl (ovL_cons rfl ovL_nil))) (.cons .n (.cons .n (.cons .f .nil))) (hd 8 rfl) ?_ (fun ch hp => by simp at hp)
  rintro y ⟨rp, ep, hy, hp⟩; injection hy with hy; subst hy; refine jo_l (ly_ext rfl rfl) (hd 9 rfl) <| jo_l (ly_ext rfl rfl) (hd 10 rfl) <| zas rfl (hd 4 rfl) <| zas rfl (hd 5 rfl) <| jo_nil <| jc_ret ?_
  refine ⟨_, _, (.cons rfl (.cons rfl .nil)), (.t1 .n (.t1 .i .t0)), ?_⟩
  exact ⟨rp, ep, rfl, hp⟩

theorem AddN_e (a b : List Int) (hla : a.length < 4294967296) (hlb : b.length < 4294967296) (ua : u64s a) (ub : u64s b) : Spec Tryz.prog 83 [.n false .u64 a, .n false .u64 b] (fun o => ∃ (r : List Int) (e : Int), o = .ret (.t [.n false .u64 r, .i .i64 e]) ∧ ErrN (vl a + vl b) r e) := by
  have hu : u64s (sumL a b) := by
    unfold sumL
    have hc := adN_c (a := (swL (trm a) (trm b)).1) (b := (swL (trm a) (trm b)).2) (by unfold swL; split <;> exact u64s_trm (by assumption)) (by unfold swL; split <;> exact u64s_trm (by assumption)) (swL (trm a) (trm b)).1.length
    exact u64s_app1 (adN_u _) hc.1 (by omega)
  by_cases h : lenN (trm (sumL a b)) ≤ 67108864
  · exact (Add_ok a b hla hlb ua ub h).mono fun o ho => ⟨_, 0, ho, errN_ok hu (vl_sumL a b) (by rwa [lenN_trm] at h)⟩
  · exact (Add_big a b hla hlb ua ub (by omega)).mono fun o ho => ⟨_, 3, ho, errN_big hu (vl_sumL a b) (by rw [lenN_trm] at h; omega)⟩
theorem SubN_e (a b : List Int) (hla : a.length < 4294967296) (hlb : b.length < 4294967296) (ua : u64s a) (ub : u64s b) (hle : vl b ≤ vl a) : Spec Tryz.prog 84 [.n false .u64 a, .n false .u64 b] (fun o => ∃ (r : List Int) (e : Int), o = .ret (.t [.n false .u64 r, .i .i64 e]) ∧ ErrN (vl a - vl b) r e) := by
  have hc : 0 ≤ cmpL (trm a) (trm b) := by rcases cmpL_val ua ub with ⟨c, v⟩ | ⟨c, v⟩ | ⟨c, v⟩ <;> omega
  have hu : u64s (difL a b) := sbN_u (u64s_trm ua) (u64s_trm ub) _
  by_cases h : lenN (trm (difL a b)) ≤ 67108864
  · exact (Sub_ok a b hla hlb ua ub hc h).mono fun o ho => ⟨_, 0, ho, errN_ok hu (vl_difL ua ub hle) (by rwa [lenN_trm] at h)⟩
  · exact (Sub_big a b hla hlb ua ub hc (by omega)).mono fun o ho => ⟨_, 3, ho, errN_big hu (vl_difL ua ub hle) (by rw [lenN_trm] at h; omega)⟩

theorem Norm_n (l : List Int) (hl : l.length < 1099511627776) : SpecM Tryz.prog 51 [.n false .u64 l] [] (fun o G => o = .ret (.o 0 0 0 (trm l).length) ∧ G = [⟨79, 1, 0, true, ints .u64 (trm l)⟩]) := by
  refine specS_of [(0, .n false .u64 l)] rfl Tryz.func51 rfl (zlb rfl) fun Γ hN hds hL hR => ?_
  have hd := hdOf 6 hN
  have hm := trm_len l
  refine zsr <| zas rfl (hd 2 rfl) <| jo_nil <| zsr <| zmv rfl (hd 3 rfl) ?_
  refine jo_call Tryz.f85 (trim_s l hl) rfl Tryz.func85 rfl rfl (ovL_cons rfl ovL_nil) (.cons .n .nil) (hd 4 rfl) ?_ (fun ch hp => by simp at hp)
  rintro _ ⟨⟩; refine jo_h (hy_app0 (id := 0) el28 rfl rfl src_n (by omega) (by unfold maxLen; omega) rfl) (hd 5 rfl) <| zas rfl (hd 2 rfl) <| jo_nil <| jc_ret ?_
  refine ⟨[0], _, (.o 0 0 0 (trm l).length), (.cons rfl .nil), rfl, rfl, (by decide), (by first | exact idless_cons ints_id idless_nil | exact idless_cons rfl idless_nil), ?_⟩
  exact ⟨rfl, rfl⟩


theorem at_s (x i d : Nat) (hx : (digs B32 x).length < 1099511627776) (hi : x / B32 ^ i % B32 = d) : Spec Tryz.prog 98 [.n false .u64 (digs B32 x), .i .i64 (i : Int)] (fun o => o = .ret (.i .u64 (d : Int))) := by
  refine spec_of' [(0, .n false .u64 (digs B32 x)), (1, .i .i64 (i : Int))] rfl Tryz.func98 rfl (zlb rfl) fun Γ hN hds hL hR => ?_
  have hd := hdOf 13 hN
  have hv := digs_at (b := B32) (by decide) i x
  have ht := rng_getD (b := B32) (by decide) (rng_digs (by decide) x) i
  refine zsr <| zas rfl (hd 4 rfl) <| jo_nil <| jc_seq <| zsr <| zmv rfl (hd 5 rfl) <| zmv rfl (hd 6 rfl) <| jo_l (ly_lenn sl33 rfl) (hd 7 rfl) <| jo_l (ly_lt rfl rfl) (hd 8 rfl) <| jo_nil ?_
  refine jc_if rfl (fun h1 => ?_) (fun h1 => ?_)
  · refine zsr <| zmv rfl (hd 9 rfl) <| zmv rfl (hd 10 rfl) <| jo_l (ly_ian (i := i) sl33 rfl rfl (by first | rfl | omega) (by omega)) (hd 11 rfl) <| jo_l (ly_ldq one82 rfl rfl) (hd 12 rfl) <| zas rfl (hd 4 rfl) <| jo_nil <| jc_ret ?_
    refine ⟨_, _, (.cons rfl .nil), .i, ?_⟩
    rw [hv, hi]
  · refine jc_skip <| zsr <| zas rfl (hd 4 rfl) <| jo_nil <| jc_ret ?_
    refine ⟨_, _, (.cons rfl .nil), .i, ?_⟩
    rw [← hi]
    have h0 : (digs B32 x).getD i 0 = 0 := getD_ge (by omega)
    rw [h0] at hv
    rw [← hv]

theorem rCmp_s (x y : Nat) (hx : (digs B32 x).length < 1099511627776) (hy : (digs B32 y).length < 1099511627776) : Spec Tryz.prog 59 [.n false .u64 (digs B32 x), .n false .u64 (digs B32 y)] (fun o => o = .ret (.i .i64 (cmpI x y))) := by
  refine spec_of' [(0, .n false .u64 (digs B32 x)), (1, .n false .u64 (digs B32 y))] rfl Tryz.func59 rfl (zlb rfl) fun Γ hN hds hL hR => ?_
  have hd := hdOf 41 hN
  have hcm := cmpL_digs (b := B32) (by decide) x y
  unfold cmpL at hcm
  refine zsr <| zas rfl (hd 4 rfl) <| jo_nil <| jc_seq <| zsr <| zmv rfl (hd 6 rfl) <| jo_l (ly_lenn sl33 rfl) (hd 7 rfl) <| zmv rfl (hd 8 rfl) <| jo_l (ly_lenn sl33 rfl) (hd 9 rfl) <| jo_l (ly_ne rfl rfl) (hd 10 rfl) <| jo_nil ?_
  refine jc_if rfl (fun h1 => ?_) (fun h1 => ?_)
  · refine jc_seq <| zsr <| zmv rfl (hd 11 rfl) <| jo_l (ly_lenn sl33 rfl) (hd 12 rfl) <| zmv rfl (hd 13 rfl) <| jo_l (ly_lenn sl33 rfl) (hd 14 rfl) <| jo_l (ly_lt rfl rfl) (hd 15 rfl) <| jo_nil ?_
    refine jc_if rfl (fun h2 => ?_) (fun h2 => ?_)
    · refine zsr <| zas rfl (hd 4 rfl) <| jo_nil <| jc_ret ?_
      refine ⟨_, _, (.cons rfl .nil), .i, ?_⟩
      rw [← hcm, if_pos (by omega)]
    · refine jc_skip <| zsr <| zas rfl (hd 4 rfl) <| jo_nil <| jc_ret ?_
      refine ⟨_, _, (.cons rfl .nil), .i, ?_⟩
      rw [← hcm, if_neg (by omega), if_pos (by omega)]
  · refine jc_skip <| jc_seq <| zsr <| zmv rfl (hd 16 rfl) <| jo_l (ly_lenn sl33 rfl) (hd 17 rfl) <| jo_l (ly_sub rfl rfl (wrap_i64 (by omega) (by omega))) (hd 18 rfl) <| zas rfl (hd 5 rfl) <| jo_nil <| jc_block ?_
    refine jc_loopF (G := Nat) (fun k => k ≤ (digs B32 x).length ∧ cmpN (digs B32 x) (digs B32 y) k = cmpN (digs B32 x) (digs B32 y) (digs B32 x).length) (fun k => [(5, .i .i64 ((k : Int) - 1)), (4, .u), (19, .u), (20, .u), (21, .u), (22, .u), (23, .u), (24, .u), (25, .u), (26, .u), (27, .u), (28, .u), (29, .u), (30, .u), (31, .u), (32, .u), (33, .u), (34, .u), (35, .u), (36, .u), (37, .u), (38, .u), (39, .u), (40, .u)]) (fun _ => _) (fun k => k) (digs B32 x).length ?_ ?_ rfl ?_
    · exact ⟨Nat.le_refl _, rfl⟩
    · exact (.cons rfl (.u (.u (.u (.u (.u (.u (.u (.u (.u (.u (.u (.u (.u (.u (.u (.u (.u (.u (.u (.u (.u (.u (.u .nil))))))))))))))))))))))))
    · rintro k ⟨hc1, hc2⟩; refine jc_seq <| zsr <| zmv rfl (hd 19 rfl) <| jo_l (ly_ge rfl rfl) (hd 20 rfl) <| jo_nil ?_
      refine jc_if rfl (fun h3 => ?_) (fun h3 => ?_)
      · refine jc_skip <| jc_seq <| jc_block <| jc_seq <| jc_seq <| jc_draw (n := 9) _ rfl mixed <| zal2 0 [2, 3, 8] (lo_l (ly_mv rfl) (hd 23 rfl)) rfl <| zal2 1 [2, 3, 8] (lo_l (ly_mv rfl) (hd 24 rfl)) rfl <| zal2 2 [3, 8] (lo_l (ly_ian (i := k - 1) sl33 rfl rfl (by omega) (by omega)) (hd 25 rfl)) rfl <| zal 3 (lo_l (ly_ldq one82 rfl rfl) (hd 26 rfl)) rfl <| zal2 4 [6, 7, 8] (lo_l (ly_mv rfl) (hd 27 rfl)) rfl <| zal2 5 [6, 7, 8] (lo_l (ly_mv rfl) (hd 28 rfl)) rfl <| zal2 6 [7, 8] (lo_l (ly_ian (i := k - 1) sl33 rfl rfl (by omega) (by omega)) (hd 29 rfl)) rfl ?_; refine zal 7 (lo_l (ly_ldq one82 rfl rfl) (hd 30 rfl)) rfl <| zal 8 (lo_l (ly_lt rfl rfl) (hd 31 rfl)) rfl <| ja_nil (by kernel_rfl) ?_
        refine jc_if rfl (fun h4 => ?_) (fun h4 => ?_)
        · refine zsr <| zas rfl (hd 4 rfl) <| jo_nil <| jc_ret ?_
          refine ⟨_, _, (.cons rfl .nil), .i, ?_⟩
          rw [← hcm, if_neg (by omega), if_neg (by omega), ← hc2, cmpN_lt (by omega) (by assumption)]
        · refine jc_skip <| jc_seq <| jc_draw (n := 9) _ rfl mixed <| zal2 0 [2, 3, 8] (lo_l (ly_mv rfl) (hd 32 rfl)) rfl <| zal2 1 [2, 3, 8] (lo_l (ly_mv rfl) (hd 33 rfl)) rfl <| zal2 2 [3, 8] (lo_l (ly_ian (i := k - 1) sl33 rfl rfl (by omega) (by omega)) (hd 34 rfl)) rfl <| zal 3 (lo_l (ly_ldq one82 rfl rfl) (hd 35 rfl)) rfl <| zal2 4 [6, 7, 8] (lo_l (ly_mv rfl) (hd 36 rfl)) rfl <| zal2 5 [6, 7, 8] (lo_l (ly_mv rfl) (hd 37 rfl)) rfl <| zal2 6 [7, 8] (lo_l (ly_ian (i := k - 1) sl33 rfl rfl (by omega) (by omega)) (hd 38 rfl)) rfl <| zal 7 (lo_l (ly_ldq one82 rfl rfl) (hd 39 rfl)) rfl <| zal 8 (lo_l (ly_gt rfl rfl) (hd 40 rfl)) rfl <| ja_nil (by kernel_rfl) ?_
          refine jc_if rfl (fun h5 => ?_) (fun h5 => ?_)
          · refine zsr <| zas rfl (hd 4 rfl) <| jo_nil <| jc_ret ?_
            refine ⟨_, _, (.cons rfl .nil), .i, ?_⟩
            rw [← hcm, if_neg (by omega), if_neg (by omega), ← hc2, cmpN_gt (by omega) (by assumption)]
          · refine jc_skip <| jc_region <| zmv rfl (hd 21 rfl) <| jo_l (ly_sub rfl rfl (wrap_i64 (by omega) (by omega))) (hd 22 rfl) <| zas rfl (hd 5 rfl) <| jo_nil ?_
            refine ⟨k - 1, ?_, ?_, rfl, cov_n 47 rfl rfl ?_⟩
            · exact ⟨by omega, by rw [← hc2]; exact cmpN_eq (by omega) (by assumption) (by assumption)⟩
            · omega
            · exact (.cons (by show some (V.i .i64 _) = some (V.i .i64 _); congr 2; omega) (.u (.u (.u (.u (.u (.u (.u (.u (.u (.u (.u (.u (.u (.u (.u (.u (.u (.u (.u (.u (.u (.u (.u .nil))))))))))))))))))))))))
      · refine jc_exit <| zsr <| zas rfl (hd 4 rfl) <| jo_nil <| jc_ret ?_
        refine ⟨_, _, (.cons rfl .nil), .i, ?_⟩
        rw [← hcm, if_neg (by omega), if_neg (by omega), ← hc2]
        obtain rfl : k = 0 := by omega
        rfl

theorem rAdd_s (x y : Nat) (hx : (digs B32 x).length < 549755813888) (hy : (digs B32 y).length < 549755813888) : Spec Tryz.prog 58 [.n false .u64 (digs B32 x), .n false .u64 (digs B32 y)] (fun o => o = .ret (.n false .u64 (digs B32 (x + y)))) := by
  refine spec_of' [(0, .n false .u64 (digs B32 x)), (1, .n false .u64 (digs B32 y))] rfl Tryz.func58 rfl (zlb rfl) fun Γ hN hds hL hR => ?_
  have hd := hdOf 44 hN
  refine zsr <| zas rfl (hd 4 rfl) <| jo_nil <| zsr <| zmv rfl (hd 10 rfl) <| jo_l (ly_lenn sl33 rfl) (hd 11 rfl) <| zas rfl (hd 5 rfl) <| jo_nil ?_
  refine jc_meetH (G := Nat) (fun n => n = max (digs B32 x).length (digs B32 y).length) (fun n => [(5, .i .i64 (n : Int)), (12, .u), (13, .u), (14, .u), (15, .u), (16, .u), (17, .u)]) ?_ ?_
  · refine zsr <| zmv rfl (hd 12 rfl) <| jo_l (ly_lenn sl33 rfl) (hd 13 rfl) <| zmv rfl (hd 14 rfl) <| jo_l (ly_gt rfl rfl) (hd 15 rfl) <| jo_nil ?_
    refine jc_if rfl (fun h1 => ?_) (fun h1 => ?_)
    · refine jc_region <| zmv rfl (hd 16 rfl) <| jo_l (ly_lenn sl33 rfl) (hd 17 rfl) <| zas rfl (hd 5 rfl) <| jo_nil ?_
      refine ⟨(digs B32 y).length, ?_, rfl, cov_n 7 rfl rfl ?_⟩
      · omega
      · exact (.cons rfl (.u (.u (.u (.u (.u (.u .nil)))))))
    · refine jc_skip ?_
      refine ⟨(digs B32 x).length, ?_, rfl, cov_n 4 rfl rfl ?_⟩
      · omega
      · exact (.cons rfl (.u (.u (.u (.u (.u (.u .nil)))))))
  · rintro n hn; refine zsr <| zmv rfl (hd 18 rfl) <| jo_l (ly_add rfl rfl (r := ((n + 1 : Nat) : Int)) (by rw [wrap_i64 (by omega) (by omega)]; omega)) (hd 19 rfl) <| jo_h (hy_mk (m := n + 1) el33 rfl rfl rfl (by show 8 * (n + 1) ≤ _; omega) (by unfold maxLen; omega) rfl) (hd 20 rfl) <| zas rfl (hd 6 rfl) <| jo_nil <| jc_seq <| jc_H (H' := [⟨79, 1, 0, true, ints .u64 (fillI (dvl (x + y) 0) (n + 1))⟩]) (by rw [← dvl_start]; rfl) <| jc_region <| zas rfl (hd 7 rfl) <| jo_nil <| jc_seq ?_; refine zsr <| zas rfl (hd 8 rfl) <| jo_nil <| jc_block ?_
    refine jc_loopF (G := Nat) (fun i => i ≤ n + 1) (fun i => [(7, .i .u64 (cry x y i : Int)), (8, .i .i64 (i : Int)), (9, .u), (21, .u), (22, .u), (23, .u), (24, .u), (25, .u), (26, .u), (27, .u), (28, .u), (29, .u), (30, .u), (31, .u), (32, .u), (33, .u), (34, .u), (35, .u), (36, .u), (37, .u), (38, .u), (39, .u), (40, .u), (41, .u)]) (fun i => [⟨79, 1, 0, true, ints .u64 (fillI (dvl (x + y) i) (n + 1))⟩]) (fun i => n + 1 - i) 0 ?_ ?_ rfl ?_
    · exact Nat.zero_le _
    · exact (.cons (by show some (V.i .u64 _) = some (V.i .u64 _); rw [cry_0]; rfl) (.cons rfl (.u (.u (.u (.u (.u (.u (.u (.u (.u (.u (.u (.u (.u (.u (.u (.u (.u (.u (.u (.u (.u (.u .nil))))))))))))))))))))))))
    · rintro i hc1
      have hfl := fill_len (z := x + y) hc1
      have hcl := cry_le x y i
      have had := add_digit x y i
      obtain ⟨dx, hdx⟩ : ∃ q, x / B32 ^ i % B32 = q := ⟨_, rfl⟩
      obtain ⟨dy, hdy⟩ : ∃ q, y / B32 ^ i % B32 = q := ⟨_, rfl⟩
      have hb1 : x / B32 ^ i % B32 < 4294967296 := Nat.mod_lt _ (by decide)
      have hb2 : y / B32 ^ i % B32 < 4294967296 := Nat.mod_lt _ (by decide)
      rw [hdx] at hb1
      rw [hdy] at hb2
      rw [hdx, hdy] at had
      have hv1 : (dx + dy + cry x y i) % 4294967296 = (x + y) / B32 ^ i % B32 := had.1
      have hv2 : (dx + dy + cry x y i) / 4294967296 = cry x y (i + 1) := had.2
      refine jc_seq <| zsr <| zmv rfl (hd 21 rfl) <| zmv rfl (hd 22 rfl) <| jo_l (ly_le rfl rfl) (hd 23 rfl) <| jo_nil ?_
      refine jc_if rfl (fun h2 => ?_) (fun h2 => ?_)
      · refine jc_skip <| jc_seq <| jc_block <| zsr <| zmv rfl (hd 26 rfl) <| zmv rfl (hd 27 rfl) ?_
        refine jo_call Tryz.f98 (at_s x i dx (by omega) hdx) rfl Tryz.func98 rfl rfl (ovL_cons rfl (ovL_cons rfl ovL_nil)) (.cons .n (.cons .i .nil)) (hd 28 rfl) ?_ (fun ch hp => by simp at hp)
        rintro _ ⟨⟩; refine zmv rfl (hd 29 rfl) <| zmv rfl (hd 30 rfl) ?_
        refine jo_call Tryz.f98 (at_s y i dy (by omega) hdy) rfl Tryz.func98 rfl rfl (ovL_cons rfl (ovL_cons rfl ovL_nil)) (.cons .n (.cons .i .nil)) (hd 31 rfl) ?_ (fun ch hp => by simp at hp)
        rintro _ ⟨⟩; refine jo_l (ly_add rfl rfl (r := ((dx + dy : Nat) : Int)) (by rw [wrap_u64 (by omega) (by omega)]; omega)) (hd 32 rfl) <| zmv rfl (hd 33 rfl) <| jo_l (ly_add rfl rfl (r := ((dx + dy + cry x y i : Nat) : Int)) (by rw [wrap_u64 (by omega) (by omega)]; omega)) (hd 34 rfl) <| zas rfl (hd 9 rfl) <| jo_nil <| zsr <| zmv rfl (hd 35 rfl) <| zmv rfl (hd 36 rfl) <| zmv rfl (hd 37 rfl) <| jo_l (ly_is (ly_rem rfl rfl (by decide) rfl) (show V.i .u64 (((dx + dy + cry x y i : Nat) : Int).tmod 4294967296) = V.i .u64 (dgt (x + y) i) by rw [show (((dx + dy + cry x y i : Nat) : Int).tmod 4294967296) = (((dx + dy + cry x y i) % 4294967296 : Nat) : Int) from rfl, hv1]; rfl)) (hd 38 rfl) <| jo_l (ly_ia (i := i) sl33 rfl rfl rfl (by first | rfl | omega) (by first | omega | (dsimp only; omega)) rfl) (hd 39 rfl) <| jo_st (sy_storei rfl rfl rfl one82 (by first | omega | (dsimp only; omega))) ?_; refine jo_nil <| jc_region <| zmv rfl (hd 40 rfl) <| jo_l (ly_quo rfl rfl (by decide) (r := ((cry x y (i + 1) : Nat) : Int)) (by rw [show (((dx + dy + cry x y i : Nat) : Int).tdiv 4294967296) = (((dx + dy + cry x y i) / 4294967296 : Nat) : Int) from rfl, hv2]; have := cry_le x y (i + 1); rw [wrap_u64 (by omega) (by omega)])) (hd 41 rfl) <| zas rfl (hd 7 rfl) <| jo_nil <| jc_region <| zmv rfl (hd 24 rfl) <| jo_l (ly_add rfl rfl (wrap_i64 (by first | omega | (dsimp only; omega)) (by first | omega | (dsimp only; omega)))) (hd 25 rfl) <| zas rfl (hd 8 rfl) <| jo_nil ?_
        refine ⟨i + 1, ?_, ?_, (by show [(⟨79, 1, 0, true, ints .u64 _⟩ : Ob)] = [⟨79, 1, 0, true, ints .u64 _⟩]; rw [fill_dvl (by omega)]), cov_n 48 rfl rfl ?_⟩
        · omega
        · omega
        · exact (.cons rfl (.cons rfl (.u (.u (.u (.u (.u (.u (.u (.u (.u (.u (.u (.u (.u (.u (.u (.u (.u (.u (.u (.u (.u (.u .nil))))))))))))))))))))))))
      · refine jc_exit <| jc_seq ?_
        obtain rfl : i = n + 1 := by omega
        refine jc_frz (k := .u64) (l' := dvl (x + y) (n + 1)) 6 rfl rfl (by rw [fill_all, dvl_len]; omega) (by rw [fill_all, List.drop_zero, List.take_of_length_le (by rw [dvl_len]; omega)]) hL <| jc_region <| zmv rfl (hd 42 rfl) ?_
        refine jo_call Tryz.f78 (rnorm_s (dvl (x + y) (n + 1)) (by rw [dvl_len]; omega)) rfl Tryz.func78 rfl rfl (ovL_cons rfl ovL_nil) (.cons .n .nil) (hd 43 rfl) ?_ (fun ch hp => by simp at hp)
        rintro _ ⟨⟩; refine zas rfl (hd 4 rfl) <| jo_nil <| jc_ret ?_
        refine ⟨_, _, (.cons rfl .nil), .n, ?_⟩
        rw [trm_dvl (sum_lt (by omega) (by omega))]

theorem rSub_s (x y : Nat) (hle : y ≤ x) (hx : (digs B32 x).length < 1099511627776) (hy : (digs B32 y).length < 1099511627776) : Spec Tryz.prog 60 [.n false .u64 (digs B32 x), .n false .u64 (digs B32 y)] (fun o => o = .ret (.n false .u64 (digs B32 (x - y)))) := by
  refine spec_of' [(0, .n false .u64 (digs B32 x)), (1, .n false .u64 (digs B32 y))] rfl Tryz.func60 rfl (zlb rfl) fun Γ hN hds hL hR => ?_
  have hd := hdOf 39 hN
  refine zsr <| zas rfl (hd 4 rfl) <| jo_nil <| zsr <| zmv rfl (hd 9 rfl) <| jo_l (ly_lenn sl33 rfl) (hd 10 rfl) <| jo_h (hy_mk (m := (digs B32 x).length) el33 rfl rfl rfl (by show 8 * (digs B32 x).length ≤ _; omega) (by unfold maxLen; omega) rfl) (hd 11 rfl) <| zas rfl (hd 5 rfl) <| jo_nil <| jc_seq <| jc_H (H' := [⟨79, 1, 0, true, ints .u64 (fillI (dvl (x - y) 0) (digs B32 x).length)⟩]) (by rw [← dvl_start]; rfl) ?_; refine jc_region <| zas rfl (hd 6 rfl) <| jo_nil <| jc_seq <| zsr <| zmv rfl (hd 12 rfl) <| jo_l (ly_lenn sl33 rfl) (hd 13 rfl) <| zmv rfl (hd 14 rfl) <| jo_nil <| jc_block ?_
  refine jc_loopF (G := Nat) (fun i => i ≤ (digs B32 x).length) (fun i => [(6, .i .u64 (brw x y i : Int)), (14, .i .i64 (i : Int)), (7, .u), (8, .u), (15, .u), (16, .u), (17, .u), (18, .u), (19, .u), (20, .u), (21, .u), (22, .u), (23, .u), (24, .u), (25, .u), (26, .u), (27, .u), (28, .u), (29, .u), (30, .u), (31, .u), (32, .u), (33, .u), (34, .u), (35, .u), (36, .u)]) (fun i => [⟨79, 1, 0, true, ints .u64 (fillI (dvl (x - y) i) ((digs B32 x).length))⟩]) (fun i => (digs B32 x).length - i) 0 ?_ ?_ rfl ?_
  · exact Nat.zero_le _
  · exact (.cons (by show some (V.i .u64 _) = some (V.i .u64 _); rw [brw_0]; rfl) (.cons rfl (.u (.u (.u (.u (.u (.u (.u (.u (.u (.u (.u (.u (.u (.u (.u (.u (.u (.u (.u (.u (.u (.u (.u (.u .nil))))))))))))))))))))))))))
  · rintro i hc1
    have hfl := fill_len (z := x - y) hc1
    have hcl := brw_le x y i
    have had := sub_digit hle i
    have hvx := digs_at (b := B32) (by decide) i x
    obtain ⟨dx, hdx⟩ : ∃ q, x / B32 ^ i % B32 = q := ⟨_, rfl⟩
    obtain ⟨dy, hdy⟩ : ∃ q, y / B32 ^ i % B32 = q := ⟨_, rfl⟩
    have hb1 : x / B32 ^ i % B32 < 4294967296 := Nat.mod_lt _ (by decide)
    have hb2 : y / B32 ^ i % B32 < 4294967296 := Nat.mod_lt _ (by decide)
    rw [hdx] at hb1
    rw [hdy] at hb2
    rw [hdx, hdy] at had
    rw [hdx] at hvx
    have hv1 : (dx + 4294967296 - dy - brw x y i) % 4294967296 = (x - y) / B32 ^ i % B32 := had.1
    have hv2 : 1 - (dx + 4294967296 - dy - brw x y i) / 4294967296 = brw x y (i + 1) := had.2
    refine zsr <| jo_l (ly_lt rfl rfl) (hd 15 rfl) <| jo_nil <| jc_seq ?_
    refine jc_if rfl (fun h1 => ?_) (fun h1 => ?_)
    · refine jc_skip <| jc_seq <| jc_block <| zsr <| zmv rfl (hd 16 rfl) <| zas rfl (hd 7 rfl) <| jo_nil <| jc_seq <| jc_draw (n := 12) _ rfl mixed <| zal2 0 [2, 3, 4, 8, 10, 11] (lo_l (ly_mv rfl) (hd 17 rfl)) rfl <| zal2 1 [2, 3, 4, 8, 10, 11] (lo_l (ly_mv rfl) (hd 18 rfl)) rfl <| zal2 2 [3, 4, 8, 10, 11] (lo_l (ly_ian (i := i) sl33 rfl rfl (by first | rfl | omega) (by omega)) (hd 19 rfl)) rfl ?_; refine zal2 3 [4, 8, 10, 11] (lo_l (ly_is (ly_ldq one82 rfl rfl) (by exact congrArg (V.i .u64) hvx)) (hd 20 rfl)) rfl <| zal2 4 [8, 10, 11] (lo_l (ly_add rfl rfl (r := ((dx + 4294967296 : Nat) : Int)) (by rw [wrap_u64 (by omega) (by omega)]; omega)) (hd 21 rfl)) rfl <| zal2 5 [7, 8, 10, 11] (lo_l (ly_mv rfl) (hd 22 rfl)) rfl <| zal2 6 [7, 8, 10, 11] (lo_l (ly_mv rfl) (hd 23 rfl)) rfl <| zal 9 (lo_l (ly_mv rfl) (hd 26 rfl)) rfl ?_
      refine ja_1 7 ?_ rfl (by kernel_rfl)
      refine js_call Tryz.f98 (at_s y i dy hy hdy) rfl Tryz.func98 rfl rfl (ovL_cons rfl (ovL_cons rfl ovL_nil)) (.cons .n (.cons .i .nil)) (hd 24 rfl) ?_ (fun ch hp => by simp at hp)
      rintro _ ⟨⟩; refine zal 8 (lo_l (ly_sub rfl rfl (r := ((dx + 4294967296 - dy : Nat) : Int)) (by rw [wrap_u64 (by omega) (by omega)]; omega)) (hd 25 rfl)) rfl <| zal 10 (lo_l (ly_sub rfl rfl (r := ((dx + 4294967296 - dy - brw x y i : Nat) : Int)) (by rw [wrap_u64 (by omega) (by omega)]; omega)) (hd 27 rfl)) rfl <| zal 11 (lo_l (ly_as rfl) (hd 8 rfl)) rfl <| ja_nil (by kernel_rfl) <| zsr <| zmv rfl (hd 28 rfl) <| zmv rfl (hd 29 rfl) <| zmv rfl (hd 30 rfl) <| jo_l (ly_is (ly_rem rfl rfl (by decide) rfl) (show V.i .u64 (((dx + 4294967296 - dy - brw x y i : Nat) : Int).tmod 4294967296) = V.i .u64 (dgt (x - y) i) by rw [show (((dx + 4294967296 - dy - brw x y i : Nat) : Int).tmod 4294967296) = (((dx + 4294967296 - dy - brw x y i) % 4294967296 : Nat) : Int) from rfl, hv1]; rfl)) (hd 31 rfl) <| jo_l (ly_ia (i := i) sl33 rfl rfl rfl (by first | rfl | omega) (by first | omega | (dsimp only; omega)) rfl) (hd 32 rfl) <| jo_st (sy_storei rfl rfl rfl one82 (by first | omega | (dsimp only; omega))) <| jo_nil ?_; refine jc_region <| zmv rfl (hd 33 rfl) <| jo_l (ly_quo rfl rfl (by decide) (r := (((dx + 4294967296 - dy - brw x y i) / 4294967296 : Nat) : Int)) (by rw [show (((dx + 4294967296 - dy - brw x y i : Nat) : Int).tdiv 4294967296) = (((dx + 4294967296 - dy - brw x y i) / 4294967296 : Nat) : Int) from rfl, wrap_u64 (by omega) (by omega)])) (hd 34 rfl) <| jo_l (ly_sub rfl rfl (r := ((brw x y (i + 1) : Nat) : Int)) (by rw [← hv2]; rw [wrap_u64 (by omega) (by omega)]; omega)) (hd 35 rfl) <| zas rfl (hd 6 rfl) <| jo_nil <| jc_region <| jo_l (ly_add rfl rfl (wrap_i64 (by first | omega | (dsimp only; omega)) (by first | omega | (dsimp only; omega)))) (hd 36 rfl) <| zmv rfl (hd 14 rfl) <| jo_nil ?_
      refine ⟨i + 1, ?_, ?_, (by show [(⟨79, 1, 0, true, ints .u64 _⟩ : Ob)] = [⟨79, 1, 0, true, ints .u64 _⟩]; rw [fill_dvl (by omega)]), cov_n 52 rfl rfl ?_⟩
      · omega
      · omega
      · exact (.cons rfl (.cons rfl (.u (.u (.u (.u (.u (.u (.u (.u (.u (.u (.u (.u (.u (.u (.u (.u (.u (.u (.u (.u (.u (.u (.u (.u .nil))))))))))))))))))))))))))
    · refine jc_exit <| jc_seq ?_
      obtain rfl : i = (digs B32 x).length := by omega
      refine jc_frz (k := .u64) (l' := dvl (x - y) (digs B32 x).length) 5 rfl rfl (by rw [fill_all, dvl_len]; omega) (by rw [fill_all, List.drop_zero, List.take_of_length_le (by rw [dvl_len]; omega)]) hL <| jc_region <| zmv rfl (hd 37 rfl) ?_
      refine jo_call Tryz.f78 (rnorm_s (dvl (x - y) (digs B32 x).length) (by rw [dvl_len]; omega)) rfl Tryz.func78 rfl rfl (ovL_cons rfl ovL_nil) (.cons .n .nil) (hd 38 rfl) ?_ (fun ch hp => by simp at hp)
      rintro _ ⟨⟩; refine zas rfl (hd 4 rfl) <| jo_nil <| jc_ret ?_
      refine ⟨_, _, (.cons rfl .nil), .n, ?_⟩
      rw [trm_dvl dif_lt]

theorem rMul_r (a b : List Int) (hla : a.length < 549755813888) (hlb : b.length < 549755813888) (ra : rng B32 a) (rb : rng B32 b) : Spec Tryz.prog 56 [.n false .u64 a, .n false .u64 b] (fun o => ∃ r, o = .ret (.n false .u64 (trm r)) ∧ rng B32 r ∧ vb B32 r = vb B32 a * vb B32 b) := by
  refine spec_of' [(0, .n false .u64 a), (1, .n false .u64 b)] rfl Tryz.func56 rfl (zlb rfl) fun Γ hN hds hL hR => ?_
  have hd := hdOf 65 hN
  have hB : B32 = 4294967296 := rfl
  refine zsr <| zas rfl (hd 4 rfl) <| jo_nil <| zsr <| zmv rfl (hd 12 rfl) <| jo_l (ly_lenn sl33 rfl) (hd 13 rfl) <| zmv rfl (hd 14 rfl) <| jo_l (ly_lenn sl33 rfl) (hd 15 rfl) <| jo_l (ly_add rfl rfl (r := ((a.length + b.length : Nat) : Int)) (by rw [wrap_i64 (by omega) (by omega)]; omega)) (hd 16 rfl) <| jo_l (ly_add rfl rfl (r := ((a.length + b.length + 1 : Nat) : Int)) (by rw [wrap_i64 (by omega) (by omega)]; omega)) (hd 17 rfl) <| jo_h (hy_mk (m := a.length + b.length + 1) el33 rfl rfl rfl (by show 8 * (a.length + b.length + 1) ≤ _; omega) (by unfold maxLen; omega) rfl) (hd 18 rfl) ?_; refine zas rfl (hd 5 rfl) <| jo_nil <| jc_seq <| zsr <| zmv rfl (hd 19 rfl) <| jo_l (ly_lenn sl33 rfl) (hd 20 rfl) <| zmv rfl (hd 21 rfl) <| jo_nil <| jc_block ?_
  refine jc_loopF (G := Nat × List Int) (fun g => g.1 ≤ a.length ∧ g.2.length = a.length + b.length + 1 ∧ rng B32 g.2 ∧ D.vl g.2 = D.vk a g.1 * D.vl b ∧ ∀ j, g.1 + b.length ≤ j → g.2.getD j 0 = 0) (fun g => [(21, .i .i64 (g.1 : Int)), (6, .u), (7, .u), (8, .u), (9, .u), (10, .u), (11, .u), (22, .u), (23, .u), (24, .u), (25, .u), (26, .u), (27, .u), (28, .u), (29, .u), (30, .u), (31, .u), (32, .u), (33, .u), (34, .u), (35, .u), (36, .u), (37, .u), (38, .u), (39, .u), (40, .u), (41, .u), (42, .u), (43, .u), (44, .u), (45, .u), (46, .u), (47, .u), (48, .u), (49, .u), (50, .u), (51, .u), (52, .u), (53, .u), (54, .u), (55, .u), (56, .u), (57, .u), (58, .u), (59, .u), (60, .u), (61, .u), (62, .u)]) (fun g => [⟨79, 1, 0, true, ints .u64 g.2⟩]) (fun g => a.length - g.1) (0, List.replicate (a.length + b.length + 1) 0) ?_ ?_ rfl ?_
  · exact ⟨Nat.zero_le _, List.length_replicate, fun x hx => by rw [List.eq_of_mem_replicate hx]; exact ⟨Int.le_refl 0, by decide⟩, by show D.vl (List.replicate (a.length + b.length + 1) 0) = D.vk a 0 * _; rw [D.vk_0, Int.zero_mul, ← vb_D]; have h9 := vb_app 4294967296 [] (a.length + b.length + 1); rw [List.nil_append] at h9; exact h9, fun j _ => getD_zeros _ j⟩
  · exact (.cons rfl (.u (.u (.u (.u (.u (.u (.u (.u (.u (.u (.u (.u (.u (.u (.u (.u (.u (.u (.u (.u (.u (.u (.u (.u (.u (.u (.u (.u (.u (.u (.u (.u (.u (.u (.u (.u (.u (.u (.u (.u (.u (.u (.u (.u (.u (.u (.u .nil))))))))))))))))))))))))))))))))))))))))))))))))
  · rintro ⟨i, r⟩ ⟨hc1, hc2, hc3, hc4, hc5⟩
    dsimp only at hc1 hc2 hc3 hc4 hc5 ⊢
    have hX : 0 ≤ a.getD i 0 ∧ a.getD i 0 < 4294967296 := rng_getD (by decide) ra i
    refine zsr <| jo_l (ly_lt rfl rfl) (hd 22 rfl) <| jo_nil <| jc_seq ?_
    refine jc_if rfl (fun h1 => ?_) (fun h1 => ?_)
    · refine jc_skip <| jc_seq <| jc_block <| zsr <| zmv rfl (hd 23 rfl) <| jo_l (ly_ian (i := i) sl33 rfl rfl (by first | rfl | omega) (by first | omega | (dsimp only; omega))) (hd 24 rfl) <| jo_l (ly_ldq one82 rfl rfl) (hd 25 rfl) <| zas rfl (hd 6 rfl) <| zas rfl (hd 7 rfl) <| jo_nil <| jc_seq <| jc_region ?_; refine zas rfl (hd 8 rfl) <| jo_nil <| jc_seq <| zsr <| zmv rfl (hd 26 rfl) <| jo_l (ly_lenn sl33 rfl) (hd 27 rfl) <| zmv rfl (hd 28 rfl) <| jo_nil <| jc_block ?_
      refine jc_loopF (G := Nat × List Int × Int) (fun g => g.1 ≤ b.length ∧ g.2.1.length = a.length + b.length + 1 ∧ rng B32 g.2.1 ∧ (0 ≤ g.2.2 ∧ g.2.2 < 4294967296) ∧ D.vl g.2.1 + g.2.2 * D.pB (i + g.1) = D.vl r + a.getD i 0 * D.pB i * D.vk b g.1 ∧ ∀ j, i + b.length ≤ j → g.2.1.getD j 0 = 0) (fun g => [(8, .i .u64 g.2.2), (28, .i .i64 (g.1 : Int)), (9, .u), (10, .u), (11, .u), (29, .u), (30, .u), (31, .u), (32, .u), (33, .u), (34, .u), (35, .u), (36, .u), (37, .u), (38, .u), (39, .u), (40, .u), (41, .u), (42, .u), (43, .u), (44, .u), (45, .u), (46, .u), (47, .u), (48, .u), (49, .u), (50, .u), (51, .u), (52, .u), (53, .u), (54, .u)]) (fun g => [⟨79, 1, 0, true, ints .u64 g.2.1⟩]) (fun g => b.length - g.1) (0, r, 0) ?_ ?_ rfl ?_
      · exact ⟨Nat.zero_le _, hc2, hc3, ⟨Int.le_refl 0, by show (0 : Int) < _; decide⟩, by show D.vl r + 0 * _ = _ + _ * D.vk b 0; rw [D.vk_0, Int.mul_zero, Int.zero_mul], hc5⟩
      · exact (.cons rfl (.cons rfl (.u (.u (.u (.u (.u (.u (.u (.u (.u (.u (.u (.u (.u (.u (.u (.u (.u (.u (.u (.u (.u (.u (.u (.u (.u (.u (.u (.u (.u .nil)))))))))))))))))))))))))))))))
      · rintro ⟨k, q, c⟩ ⟨hd1, hd2, hd3, hd4, hd5, hd6⟩
        dsimp only at hd1 hd2 hd3 hd4 hd5 hd6
        have hY : 0 ≤ b.getD k 0 ∧ b.getD k 0 < 4294967296 := rng_getD (by decide) rb k
        have hT : 0 ≤ q.getD (i + k) 0 ∧ q.getD (i + k) 0 < 4294967296 := rng_getD (by decide) hd3 (i + k)
        have hP := mul_bd (m := 4294967295) hX.1 hY.1 (by omega) (by omega)
        have hP2 : (a.getD i 0 * b.getD k 0) ≤ 18446744065119617025 := by have := hP.2; simpa using this
        have hP1 := hP.1
        refine zsr <| jo_l (ly_lt rfl rfl) (hd 29 rfl) <| jo_nil <| jc_seq ?_
        refine jc_if rfl (fun h2 => ?_) (fun h2 => ?_)
        · refine jc_skip <| jc_seq <| jc_block <| zsr <| zmv rfl (hd 30 rfl) <| jo_l (ly_ian (i := k) sl33 rfl rfl (by first | rfl | omega) (by first | omega | (dsimp only; omega))) (hd 31 rfl) <| jo_l (ly_ldq one82 rfl rfl) (hd 32 rfl) <| zas rfl (hd 9 rfl) <| zas rfl (hd 10 rfl) <| jo_nil <| jc_seq <| jc_region ?_; refine zmv rfl (hd 33 rfl) <| zmv rfl (hd 34 rfl) <| jo_l (ly_mul rfl rfl (r := (a.getD i 0 * b.getD k 0)) (by rw [wrap_u64 (by omega) (by omega)])) (hd 35 rfl) <| zmv rfl (hd 36 rfl) <| zmv rfl (hd 37 rfl) <| zmv rfl (hd 38 rfl) <| jo_l (ly_add rfl rfl (r := ((i + k : Nat) : Int)) (by rw [wrap_i64 (by omega) (by omega)]; omega)) (hd 39 rfl) <| jo_l (ly_ia (i := i + k) sl33 rfl rfl rfl (by first | rfl | omega) (by first | omega | (dsimp only; omega)) rfl) (hd 40 rfl) <| jo_l (ly_is (ly_ldi one82 rfl rfl (by dsimp only; omega)) (show V.i .u64 (q.getD ((0 + (i + k)) * 1) 0) = V.i .u64 (q.getD (i + k) 0) by rw [Nat.zero_add, Nat.mul_one])) (hd 41 rfl) <| jo_l (ly_add rfl rfl (r := (a.getD i 0 * b.getD k 0) + q.getD (i + k) 0) (by rw [wrap_u64 (by omega) (by omega)])) (hd 42 rfl) <| zmv rfl (hd 43 rfl) <| jo_l (ly_add rfl rfl (r := ((a.getD i 0 * b.getD k 0) + q.getD (i + k) 0 + c)) (by rw [wrap_u64 (by dsimp only; omega) (by dsimp only; omega)])) (hd 44 rfl) <| zas rfl (hd 11 rfl) ?_; refine jo_nil <| zsr <| zmv rfl (hd 45 rfl) <| zmv rfl (hd 46 rfl) <| zmv rfl (hd 47 rfl) <| jo_l (ly_add rfl rfl (r := ((i + k : Nat) : Int)) (by rw [wrap_i64 (by omega) (by omega)]; omega)) (hd 48 rfl) <| zmv rfl (hd 49 rfl) <| jo_l (ly_is (ly_rem rfl rfl (by decide) rfl) (congrArg (V.i .u64) (Int.tmod_eq_emod_of_nonneg (by omega)))) (hd 50 rfl) <| jo_l (ly_ia (i := i + k) sl33 rfl rfl rfl (by first | rfl | omega) (by first | omega | (dsimp only; omega)) rfl) (hd 51 rfl) <| jo_st (sy_storei rfl rfl rfl one82 (by dsimp only; omega)) <| jo_nil <| jc_region ?_; refine zmv rfl (hd 52 rfl) <| jo_l (ly_quo rfl rfl (by decide) (r := ((a.getD i 0 * b.getD k 0) + q.getD (i + k) 0 + c) / 4294967296) (by rw [Int.tdiv_eq_ediv_of_nonneg (by omega), wrap_u64 (by omega) (by omega)])) (hd 53 rfl) <| zas rfl (hd 8 rfl) <| jo_nil <| jc_region <| jo_l (ly_add rfl rfl (wrap_i64 (by first | omega | (dsimp only; omega)) (by first | omega | (dsimp only; omega)))) (hd 54 rfl) <| zmv rfl (hd 28 rfl) <| jo_nil ?_
          refine ⟨(k + 1, q.set ((0 + (i + k)) * 1) (((a.getD i 0 * b.getD k 0) + q.getD (i + k) 0 + c) % 4294967296), ((a.getD i 0 * b.getD k 0) + q.getD (i + k) 0 + c) / 4294967296), ?_, ?_, rfl, cov_n 62 rfl rfl ?_⟩
          · refine ⟨by show k + 1 ≤ b.length; omega, by rw [List.length_set]; exact hd2, rng_set hd3 (by omega) (by show _ < ((4294967296 : Nat) : Int); omega), ⟨by show 0 ≤ ((a.getD i 0 * b.getD k 0) + q.getD (i + k) 0 + c) / 4294967296; omega, by show ((a.getD i 0 * b.getD k 0) + q.getD (i + k) 0 + c) / 4294967296 < 4294967296; omega⟩, ?_, fun j hj => ?_⟩
            · exact D.school_in (by omega) (by rw [Nat.zero_add, Nat.mul_one]) rfl hd5 (by show ((a.getD i 0 * b.getD k 0) + q.getD (i + k) 0 + c) % 4294967296 + 4294967296 * (((a.getD i 0 * b.getD k 0) + q.getD (i + k) 0 + c) / 4294967296) = q.getD (i + k) 0 + (a.getD i 0 * b.getD k 0) + c; omega)
            · rw [Nat.zero_add, Nat.mul_one, getD_set (by omega)]; exact hd6 j hj
          · show b.length - (k + 1) < b.length - k
            omega
          · exact (.cons rfl (.cons rfl (.u (.u (.u (.u (.u (.u (.u (.u (.u (.u (.u (.u (.u (.u (.u (.u (.u (.u (.u (.u (.u (.u (.u (.u (.u (.u (.u (.u (.u .nil)))))))))))))))))))))))))))))))
        · obtain rfl : k = b.length := by omega
          refine jc_exit <| jc_region <| zmv rfl (hd 55 rfl) <| zmv rfl (hd 56 rfl) <| zmv rfl (hd 57 rfl) <| jo_l (ly_lenn sl33 rfl) (hd 58 rfl) <| jo_l (ly_add rfl rfl (r := ((i + b.length : Nat) : Int)) (by rw [wrap_i64 (by omega) (by omega)]; omega)) (hd 59 rfl) <| zmv rfl (hd 60 rfl) <| jo_l (ly_ia (i := i + b.length) sl33 rfl rfl rfl (by first | rfl | omega) (by first | omega | (dsimp only; omega)) rfl) (hd 61 rfl) <| jo_st (sy_storei rfl rfl rfl one82 (by dsimp only; omega)) <| jo_nil <| jc_region <| jo_l (ly_add rfl rfl (wrap_i64 (by first | omega | (dsimp only; omega)) (by first | omega | (dsimp only; omega)))) (hd 62 rfl) ?_; refine zmv rfl (hd 21 rfl) <| jo_nil ?_
          refine ⟨(i + 1, q.set ((0 + (i + b.length)) * 1) c), ?_, ?_, rfl, cov_n 99 rfl rfl ?_⟩
          · exact ⟨by show i + 1 ≤ a.length; omega, by rw [List.length_set]; exact hd2, rng_set hd3 hd4.1 hd4.2, D.school_row (by omega) (hd6 _ (Nat.le_refl _)) (by rw [Nat.zero_add, Nat.mul_one]) (by rw [hd5, hc4]), fun j hj => by rw [Nat.zero_add, Nat.mul_one, getD_set (by omega)]; exact hd6 j (by omega)⟩
          · show a.length - (i + 1) < a.length - i
            omega
          · exact (.cons rfl (.u (.u (.u (.u (.u (.u (.u (.u (.u (.u (.u (.u (.u (.u (.u (.u (.u (.u (.u (.u (.u (.u (.u (.u (.u (.u (.u (.u (.u (.u (.u (.u (.u (.u (.u (.u (.u (.u (.u (.u (.u (.u (.u (.u (.u (.u (.u .nil))))))))))))))))))))))))))))))))))))))))))))))))
    · refine jc_exit <| jc_seq ?_
      obtain rfl : i = a.length := by omega
      refine jc_frz (k := .u64) (l' := r) 5 rfl rfl (by omega) (by rw [List.drop_zero, List.take_of_length_le (by omega)]) hL <| jc_region <| zmv rfl (hd 63 rfl) ?_
      refine jo_call Tryz.f78 (rnorm_s r (by omega)) rfl Tryz.func78 rfl rfl (ovL_cons rfl ovL_nil) (.cons .n .nil) (hd 64 rfl) ?_ (fun ch hp => by simp at hp)
      rintro _ ⟨⟩; refine zas rfl (hd 4 rfl) <| jo_nil <| jc_ret ?_
      refine ⟨_, _, (.cons rfl .nil), .n, ?_⟩
      exact ⟨r, rfl, hc3, by rw [vb_D, vb_D, vb_D, hc4, D.vk_all (Nat.le_refl _)]⟩

theorem rMul_s (x y : Nat) (hx : (digs B32 x).length < 549755813888) (hy : (digs B32 y).length < 549755813888) : Spec Tryz.prog 56 [.n false .u64 (digs B32 x), .n false .u64 (digs B32 y)] (fun o => o = .ret (.n false .u64 (digs B32 (x * y)))) :=
  (rMul_r _ _ hx hy (rng_digs (by decide) x) (rng_digs (by decide) y)).mono fun o ⟨r, ho, h1, h2⟩ => by
    rw [ho, trm_digs (b := B32) (n := x * y) (by decide) h1 (by rw [h2, vb_digs (by decide), vb_digs (by decide), Int.natCast_mul])]


theorem From_n (v : Int) : SpecM Tryz.prog 68 [.i .u64 v] [] (fun o G => o = .ret (.o 0 0 0 (fl v).length) ∧ G = [⟨79, 1, 0, true, ints .u64 (fl v)⟩]) := by
  refine specS_of [(0, .i .u64 v)] rfl Tryz.func68 rfl (zlb rfl) fun Γ hN hds hL hR => ?_
  have hd := hdOf 7 hN
  refine zsr <| zas rfl (hd 2 rfl) <| jo_nil <| jc_seq <| zsr <| zmv rfl (hd 3 rfl) <| jo_l (ly_eq rfl rfl) (hd 4 rfl) <| jo_nil ?_
  refine jc_if rfl (fun h1 => ?_) (fun h1 => ?_)
  · refine zsr <| zas rfl (hd 2 rfl) <| jo_nil <| jc_own0 2 79 1 rfl rfl <| jc_ret ?_
    refine ⟨[0], _, (.o 0 0 0 0), (.cons rfl .nil), rfl, rfl, (by decide), (by first | exact idless_cons ints_id idless_nil | exact idless_cons rfl idless_nil), ?_⟩
    unfold fl
    rw [if_pos (by assumption)]
    exact ⟨rfl, rfl⟩
  · refine jc_skip <| zsr <| zmv rfl (hd 5 rfl) <| jo_h (hy_lit (id := 0) (xs := [.tmp 5]) el28 rfl (ovL_cons rfl ovL_nil) rfl (all2_of rfl) (by decide) rfl) (hd 6 rfl) <| zas rfl (hd 2 rfl) <| jo_nil <| jc_ret ?_
    refine ⟨[0], _, (.o 0 0 0 1), (.cons rfl .nil), rfl, rfl, (by decide), (by first | exact idless_cons ints_id idless_nil | exact idless_cons rfl idless_nil), ?_⟩
    unfold fl
    rw [if_neg (by assumption)]
    exact ⟨rfl, rfl⟩

theorem Of_n (v : Int) (h0 : -9223372036854775808 ≤ v) (h1 : v < 9223372036854775808) : SpecM Tryz.prog 87 [.i .i64 v] [] (fun o G => o = .ret (.a [.b (decide (v < 0)), .o 0 0 0 (lm v).length]) ∧ G = [⟨79, 1, 0, true, ints .u64 (lm v)⟩]) := by
  refine specS_of [(0, .i .i64 v)] rfl Tryz.func87 rfl (zlb rfl) fun Γ hN hds hL hR => ?_
  have hd := hdOf 14 hN
  have hlm := lm_small (v := v) (by omega)
  refine zsr <| jo_h (hy_alloc (id := 0) zero30 (by decide) rfl (by decide) rfl) (hd 2 rfl) <| jo_nil <| jc_seq <| zsr <| zmv rfl (hd 3 rfl) <| jo_l (ly_lt rfl rfl) (hd 4 rfl) <| jo_nil ?_
  refine jc_if rfl (fun h1 => ?_) (fun h1 => ?_)
  · refine zsr <| zmv rfl (hd 5 rfl) <| jo_l (ly_conv und3 und82 rfl (r := v + 18446744073709551616) (wrap_u64' (by omega) (by omega) (by omega))) (hd 6 rfl) <| jo_l (ly_neg rfl (r := -v) (wrap_u64' (by omega) (by omega) (by omega))) (hd 7 rfl) ?_
    refine jo_callN Tryz.f68 (From_n (-v)) (fun o G ⟨_, h⟩ => h ▸ idless_cons ints_id idless_nil) rfl Tryz.func68 rfl rfl (ovL_cons rfl ovL_nil) (.cons .i .nil) (hd 8 rfl) ?_ (fun ch G hp => by simp at hp)
    rintro y G ⟨hy, rfl⟩; injection hy with hy; subst hy
    show JO _ _ _ _ ((8, .o 1 0 0 (fl (-v)).length) :: _) _ _
    refine jo_l (ly_build (is := [0, 1]) (xs := [.const (.bool true), .tmp 8]) zero30 pls30_0_1 rfl (ovL_cons rfl (ovL_cons rfl ovL_nil)) rfl (by first | (simp [plsOk, cellsV]; done) | (simp [plsOk, cellsV, old]; done)) (all_of rfl) rfl) (hd 9 rfl) <| jo_st (sy_store rfl rfl rfl siz30 rfl rfl (zlb rfl)) <| jo_nil <| jc_ret ?_
    refine ⟨[1], _, (.a [.b true, .o 0 0 0 (fl (-v)).length]), (.cons (ResV.cell agg30 rfl rfl rfl rfl) .nil), rfl, rfl, (by decide), (by first | exact idless_cons ints_id idless_nil | exact idless_cons rfl idless_nil), ?_⟩
    rw [hlm, show ((v.natAbs : Nat) : Int) = -v by omega, decide_eq_true (by assumption)]
    exact ⟨rfl, rfl⟩
  · refine jc_skip <| zsr <| zmv rfl (hd 10 rfl) <| jo_l (ly_conv und3 und82 rfl (wrap_u64 (by omega) (by omega))) (hd 11 rfl) ?_
    refine jo_callN Tryz.f68 (From_n v) (fun o G ⟨_, h⟩ => h ▸ idless_cons ints_id idless_nil) rfl Tryz.func68 rfl rfl (ovL_cons rfl ovL_nil) (.cons .i .nil) (hd 12 rfl) ?_ (fun ch G hp => by simp at hp)
    rintro y G ⟨hy, rfl⟩; injection hy with hy; subst hy
    show JO _ _ _ _ ((12, .o 1 0 0 (fl v).length) :: _) _ _
    refine jo_l (ly_build (is := [1]) (xs := [.tmp 12]) zero30 pls30_1 rfl (ovL_cons rfl ovL_nil) rfl (by first | (simp [plsOk, cellsV]; done) | (simp [plsOk, cellsV, old]; done)) (all_of rfl) rfl) (hd 13 rfl) <| jo_st (sy_store rfl rfl rfl siz30 rfl rfl (zlb rfl)) <| jo_nil <| jc_ret ?_
    refine ⟨[1], _, (.a [.b false, .o 0 0 0 (fl v).length]), (.cons (ResV.cell agg30 rfl rfl rfl rfl) .nil), rfl, rfl, (by decide), (by first | exact idless_cons ints_id idless_nil | exact idless_cons rfl idless_nil), ?_⟩
    rw [hlm, show ((v.natAbs : Nat) : Int) = v by omega, decide_eq_false (by assumption)]
    exact ⟨rfl, rfl⟩

theorem Lz_s (x : Nat) (hx : x < 18446744073709551616) : Spec Tryz.prog 106 [.i .u64 (x : Int)] (fun o => o = .ret (.i .i64 ((64 - bl 64 x : Nat) : Int))) := by
  refine spec_of' [(0, .i .u64 (x : Int))] rfl Tryz.func106 rfl (zlb rfl) fun Γ hN hds hL hR => ?_
  have hd := hdOf 6 hN
  have hb := bl_le 64 x
  refine zsr <| zas rfl (hd 2 rfl) <| jo_nil <| zsr <| zmv rfl (hd 3 rfl) ?_
  refine jo_call Tryz.f86 (Len64_s x hx) rfl Tryz.func86 rfl rfl (ovL_cons rfl ovL_nil) (.cons .i .nil) (hd 4 rfl) ?_ (fun ch hp => by simp at hp)
  rintro _ ⟨⟩; refine jo_l (ly_sub rfl rfl (r := ((64 - bl 64 x : Nat) : Int)) (by rw [wrap_i64 (by omega) (by omega)]; omega)) (hd 5 rfl) <| zas rfl (hd 2 rfl) <| jo_nil <| jc_ret ?_
  refine ⟨_, _, (.cons rfl .nil), .i, ?_⟩
  exact rfl

theorem Div64_s (hi lo y : Int) (hh0 : 0 ≤ hi) (hhy : hi < y) (hl0 : 0 ≤ lo) (hl1 : lo < 18446744073709551616) (hy1 : y < 18446744073709551616) : Spec Tryz.prog 105 [.i .u64 hi, .i .u64 lo, .i .u64 y] (fun o => o = .ret (.t [.i .u64 ((hi * 18446744073709551616 + lo) / y), .i .u64 ((hi * 18446744073709551616 + lo) % y)])) := by
  refine spec_of' [(0, .i .u64 hi), (1, .i .u64 lo), (2, .i .u64 y)] rfl Tryz.func105 rfl (zlb rfl) fun Γ hN hds hL hR => ?_
  have hd := hdOf 135 hN
  obtain ⟨s, hs⟩ : ∃ s : Nat, 64 - bl 64 y.toNat = s := ⟨_, rfl⟩
  have hz := lz_int (show 0 < y by omega) hy1
  rw [hs] at hz
  obtain ⟨s64, y0, y1⟩ := hz
  have hD := div_both s64 hh0 hhy hl0 hl1 y0 y1
  dsimp only at hD
  obtain ⟨Y, hY⟩ : ∃ Y, y * 2 ^ s = Y := ⟨_, rfl⟩
  obtain ⟨U, hU⟩ : ∃ U, hi * 2 ^ s + hiS lo s = U := ⟨_, rfl⟩
  obtain ⟨L, hLo⟩ : ∃ L, loS lo s = L := ⟨_, rfl⟩
  have hLb := @loS_bd lo s
  rw [hLo] at hLb
  rw [hY] at y0 y1
  rw [hY, hU, hLo] at hD
  obtain ⟨N1, hN1⟩ : ∃ N, U * 4294967296 + L / 4294967296 = N := ⟨_, rfl⟩
  rw [hN1] at hD
  obtain ⟨R1, hR1⟩ : ∃ N, N1 % Y = N := ⟨_, rfl⟩
  rw [hR1] at hD
  obtain ⟨N2, hN2⟩ : ∃ N, R1 * 4294967296 + L % 4294967296 = N := ⟨_, rfl⟩
  rw [hN2] at hD
  obtain ⟨hP1, hP2, hE1, hE2⟩ := hD
  have hU0 := hP1.u0
  have hU1 := hP1.lt
  have hp2 := p2pos s
  have hhs : 0 ≤ hi * 2 ^ s := Int.mul_nonneg hh0 (Int.le_of_lt hp2)
  have hhb := hiS_bd (s := s) (Nat.le_of_lt s64) hl0 hl1
  have hq1l := hP1.q_lt
  have hq1n := hP1.q_nn
  have hq2l := hP2.q_lt
  have hq2n := hP2.q_nn
  have hfi1 := hP1.first
  have hfi2 := hP2.first
  have hr20 := hP2.u0
  have hr21 := hP2.lt
  have hrr := hP2.rest_lt
  refine zsr <| zas rfl (hd 6 rfl) <| zas rfl (hd 7 rfl) <| jo_nil <| jc_seq <| zsr <| zmv rfl (hd 19 rfl) <| jo_l (ly_ff (ly_eq rfl rfl) (by omega)) (hd 20 rfl) <| jo_nil <| jc_litf rfl <| jc_skip ?_; refine jc_seq <| zsr <| zmv rfl (hd 22 rfl) <| zmv rfl (hd 23 rfl) <| jo_l (ly_ff (ly_le rfl rfl) (by omega)) (hd 24 rfl) <| jo_nil <| jc_litf rfl <| jc_skip <| jc_seq <| zsr <| zmv rfl (hd 26 rfl) ?_; refine jo_l (ly_eq rfl rfl) (hd 27 rfl) <| jo_nil ?_
  refine jc_if rfl (fun h3 => ?_) (fun h3 => ?_)
  · obtain rfl : hi = 0 := h3
    refine jc_seq <| jc_draw (n := 8) _ rfl mixed <| zal 0 (lo_l (ly_mv rfl) (hd 28 rfl)) rfl <| zal 1 (lo_l (ly_mv rfl) (hd 29 rfl)) rfl <| zal 2 (lo_l (ly_quo rfl rfl (by omega) (r := lo / y) (quo_u64 hl0 hl1 (by omega))) (hd 30 rfl)) rfl <| zal 3 (lo_l (ly_mv rfl) (hd 31 rfl)) rfl <| zal 4 (lo_l (ly_mv rfl) (hd 32 rfl)) rfl <| zal 5 (lo_l (ly_is (ly_rem rfl rfl (by omega) rfl) (show V.i .u64 _ = V.i .u64 (lo % y) from congrArg (V.i .u64) (Int.tmod_eq_emod_of_nonneg hl0))) (hd 33 rfl)) rfl <| zal 6 (lo_l (ly_as rfl) (hd 6 rfl)) rfl <| zal 7 (lo_l (ly_as rfl) (hd 7 rfl)) rfl <| ja_nil (by kernel_rfl) <| jc_ret ?_
    refine ⟨_, _, (.cons rfl (.cons rfl .nil)), (.t1 .i (.t1 .i .t0)), ?_⟩
    rw [Int.zero_mul, Int.zero_add]
  · refine jc_skip <| zsr <| jo_l (ly_is (ly_mv rfl) (show V.i .u64 _ = V.i .u64 ((y.toNat : Int)) from congrArg (V.i .u64) (Int.toNat_of_nonneg (by omega)).symm)) (hd 34 rfl) ?_
    refine jo_call Tryz.f106 (Lz_s y.toNat (by omega)) rfl Tryz.func106 rfl rfl (ovL_cons rfl ovL_nil) (.cons .i .nil) (hd 35 rfl) ?_ (fun ch hp => by simp at hp)
    rintro _ ⟨⟩; refine jo_l (ly_conv und3 und116 rfl (r := (s : Int)) (by rw [hs]; exact wrap_u64 (by omega) (by omega))) (hd 36 rfl) <| zas rfl (hd 8 rfl) <| jo_nil <| zsr <| zmv rfl (hd 37 rfl) <| zmv rfl (hd 38 rfl) <| jo_l (ly_is (ly_shl rfl rfl (by omega) rfl) (show V.i .u64 _ = V.i .u64 (Y) from congrArg (V.i .u64) (shl_fit (by omega) hY (by omega) (by omega)))) (hd 39 rfl) <| zas rfl (hd 2 rfl) <| jo_nil <| zsr <| zmv rfl (hd 40 rfl) ?_; refine jo_l (ly_is (ly_shr rfl rfl (by omega) rfl) (show V.i .u64 _ = V.i .u64 (Y / 4294967296) from congrArg (V.i .u64) (shr32 (by omega)))) (hd 41 rfl) <| zas rfl (hd 9 rfl) <| jo_nil <| zsr <| zmv rfl (hd 42 rfl) <| jo_l (ly_is (ly_bit (by simp) rfl rfl rfl) (show V.i .u64 _ = V.i .u64 (Y % 4294967296) from congrArg (V.i .u64) (and32 (by omega) (by omega)))) (hd 43 rfl) <| zas rfl (hd 10 rfl) <| jo_nil <| zsr <| zmv rfl (hd 44 rfl) <| zmv rfl (hd 45 rfl) ?_; refine jo_l (ly_is (ly_shl rfl rfl (by omega) rfl) (show V.i .u64 _ = V.i .u64 (loS hi s) from congrArg (V.i .u64) (shl_sym (by omega)))) (hd 46 rfl) <| zmv rfl (hd 47 rfl) <| zmv rfl (hd 48 rfl) <| jo_l (ly_sub rfl rfl (r := ((64 - s : Nat) : Int)) (by rw [wrap_u64 (by omega) (by omega)]; omega)) (hd 49 rfl) <| jo_l (ly_is (ly_shr rfl rfl (by omega) rfl) (show V.i .u64 _ = V.i .u64 (lo / 2 ^ (64 - s)) from congrArg (V.i .u64) (shr_sym (by omega)))) (hd 50 rfl) <| jo_l (ly_is (ly_bit (by simp) rfl rfl rfl) (show V.i .u64 _ = V.i .u64 (U) from congrArg (V.i .u64) ((or_hi (by omega) hhs (by omega) hl0 hl1 hh0).trans hU))) (hd 51 rfl) <| zas rfl (hd 11 rfl) <| jo_nil <| zsr <| zmv rfl (hd 52 rfl) <| zmv rfl (hd 53 rfl) <| jo_l (ly_is (ly_shl rfl rfl (by omega) rfl) (show V.i .u64 _ = V.i .u64 (L) from congrArg (V.i .u64) ((shl_sym (by omega)).trans hLo))) (hd 54 rfl) ?_; refine zas rfl (hd 12 rfl) <| jo_nil <| zsr <| zmv rfl (hd 55 rfl) <| jo_l (ly_is (ly_shr rfl rfl (by omega) rfl) (show V.i .u64 _ = V.i .u64 (L / 4294967296) from congrArg (V.i .u64) (shr32 (by omega)))) (hd 56 rfl) <| zas rfl (hd 13 rfl) <| jo_nil <| zsr <| zmv rfl (hd 57 rfl) <| jo_l (ly_is (ly_bit (by simp) rfl rfl rfl) (show V.i .u64 _ = V.i .u64 (L % 4294967296) from congrArg (V.i .u64) (and32 (by omega) (by omega)))) (hd 58 rfl) <| zas rfl (hd 14 rfl) ?_; refine jo_nil <| zsr <| zmv rfl (hd 59 rfl) <| zmv rfl (hd 60 rfl) <| jo_l (ly_quo rfl rfl (by omega) (r := U / (Y / 4294967296)) (quo_u64 (by omega) (by omega) (by omega))) (hd 61 rfl) <| zas rfl (hd 15 rfl) <| jo_nil <| zsr <| zmv rfl (hd 62 rfl) <| zmv rfl (hd 63 rfl) <| zmv rfl (hd 64 rfl) ?_; refine jo_l (ly_mul rfl rfl rfl) (hd 65 rfl) <| jo_l (ly_is (ly_sub rfl rfl rfl) (show V.i .u64 _ = V.i .u64 (U - U / (Y / 4294967296) * (Y / 4294967296)) from congrArg (V.i .u64) (sub_fit hfi1.1.2.2.2 (by omega)))) (hd 66 rfl) <| zas rfl (hd 16 rfl) <| jo_nil ?_
    refine jc_meetH (G := Unit) (fun _ => True) (fun _ => [(15, .i .u64 (N1 / Y)), (16, .u), (67, .u), (68, .u), (69, .u), (70, .u), (71, .u), (72, .u), (73, .u), (74, .u), (75, .u), (76, .u), (77, .u), (78, .u), (79, .u), (80, .u), (81, .u), (82, .u), (83, .u), (84, .u), (85, .u)]) ?_ ?_
    · refine jc_block ?_
      refine jc_loopF (G := Int × Int) (fun g => Hf N1 Y U g.1 g.2 ∧ 0 ≤ g.1 ∧ g.2 < 4294967296) (fun g => [(15, .i .u64 g.1), (16, .i .u64 g.2), (67, .u), (68, .u), (69, .u), (70, .u), (71, .u), (72, .u), (73, .u), (74, .u), (75, .u), (76, .u), (77, .u), (78, .u), (79, .u), (80, .u), (81, .u), (82, .u), (83, .u), (84, .u), (85, .u)]) (fun _ => _) (fun g => g.1.toNat) (U / (Y / 4294967296), U - U / (Y / 4294967296) * (Y / 4294967296)) ?_ ?_ rfl ?_
      · exact ⟨hP1.first.1, hP1.first.2.1, hP1.first.2.2⟩
      · exact (.cons rfl (.cons rfl (.u (.u (.u (.u (.u (.u (.u (.u (.u (.u (.u (.u (.u (.u (.u (.u (.u (.u (.u .nil)))))))))))))))))))))
      · rintro ⟨q, r⟩ ⟨hf, hq0, hr1⟩
        dsimp only at hf hq0 hr1
        have hf4 := hf
        obtain ⟨he, hQ, hq1, hr0⟩ := hf4
        have hmb := mul_bd (m := 4294967295) hq0 (show 0 ≤ Y % 4294967296 by omega)
        refine jc_seq <| zsr <| zmv rfl (hd 67 rfl) <| jo_l (ly_ge rfl rfl) (hd 68 rfl) <| zmv rfl (hd 69 rfl) ?_
        refine jo_ifp 69 rfl (fun h4 => ?_) (fun h4 => ?_)
        · refine jo_s 69 rfl rfl rfl (hd 70 rfl) <| jo_s 69 rfl rfl rfl (hd 71 rfl) <| jo_s 69 rfl rfl rfl (hd 72 rfl) <| jo_s 69 rfl rfl rfl (hd 73 rfl) <| jo_s 69 rfl rfl rfl (hd 74 rfl) <| jo_s 69 rfl rfl rfl (hd 75 rfl) <| jo_s 69 rfl rfl rfl (hd 76 rfl) <| jo_s 69 rfl rfl rfl (hd 77 rfl) <| jo_l (ly_pick_t rfl rfl) (hd 78 rfl) <| jo_nil <| jc_litt rfl <| jc_skip <| jc_block ?_; refine jc_seq ?_
          obtain ⟨hn1, hn2, hn3⟩ := hP1.next hf (by first | (left; omega) | (right; omega))
          refine jc_region <| zmv rfl (hd 79 rfl) <| jo_l (ly_sub rfl rfl (wrap_u64 (by first | omega | (dsimp only; omega)) (by first | omega | (dsimp only; omega)))) (hd 80 rfl) <| zas rfl (hd 15 rfl) <| jo_nil <| zsr <| zmv rfl (hd 81 rfl) <| zmv rfl (hd 82 rfl) <| jo_l (ly_add rfl rfl (wrap_u64 (by first | omega | (dsimp only; omega)) (by first | omega | (dsimp only; omega)))) (hd 83 rfl) <| zas rfl (hd 16 rfl) <| jo_nil <| jc_seq ?_; refine jc_region <| zmv rfl (hd 84 rfl) <| jo_l (ly_ge rfl rfl) (hd 85 rfl) <| jo_nil ?_
          refine jc_if rfl (fun h6 => ?_) (fun h6 => ?_)
          · refine jc_exit ?_
            refine ⟨(), ?_, rfl, cov_n 43 rfl rfl ?_⟩
            · trivial
            · exact (.cons (by show some (V.i .u64 _) = some (V.i .u64 _); congr 2; first | exact hP1.over hn1 (by omega) (by omega) (by omega) | exact hP1.last hf (by omega)) (.u (.u (.u (.u (.u (.u (.u (.u (.u (.u (.u (.u (.u (.u (.u (.u (.u (.u (.u (.u .nil)))))))))))))))))))))
          · refine jc_skip ?_
            refine ⟨(q - 1, r + Y / 4294967296), ?_, ?_, rfl, cov_n 43 rfl rfl ?_⟩
            · exact ⟨hn1, by show 0 ≤ q - 1; omega, by show r + Y / 4294967296 < 4294967296; omega⟩
            · show (q - 1).toNat < q.toNat
              omega
            · exact (.cons rfl (.cons rfl (.u (.u (.u (.u (.u (.u (.u (.u (.u (.u (.u (.u (.u (.u (.u (.u (.u (.u (.u .nil)))))))))))))))))))))
        · refine jo_g 69 rfl rfl (ly_mv rfl) (hd 70 rfl) <| jo_g 69 rfl rfl (ly_mv rfl) (hd 71 rfl) <| jo_g 69 rfl rfl (ly_mul rfl rfl (wrap_u64 (by have := hmb (by omega) (by omega); dsimp only; omega) (by have := hmb (by omega) (by omega); dsimp only; omega))) (hd 72 rfl) <| jo_g 69 rfl rfl (ly_mv rfl) (hd 73 rfl) <| jo_g 69 rfl rfl (ly_mul rfl rfl (wrap_u64 (by first | omega | (dsimp only; omega)) (by first | omega | (dsimp only; omega)))) (hd 74 rfl) <| jo_g 69 rfl rfl (ly_mv rfl) (hd 75 rfl) <| jo_g 69 rfl rfl (ly_add rfl rfl (wrap_u64 (by first | omega | (dsimp only; omega)) (by first | omega | (dsimp only; omega)))) (hd 76 rfl) <| jo_g 69 rfl rfl (ly_gt rfl rfl) (hd 77 rfl) <| jo_l (ly_pick_f rfl rfl) (hd 78 rfl) <| jo_nil ?_
          refine jc_if rfl (fun h7 => ?_) (fun h7 => ?_)
          · refine jc_skip <| jc_block <| jc_seq ?_
            obtain ⟨hn1, hn2, hn3⟩ := hP1.next hf (by first | (left; omega) | (right; omega))
            refine jc_region <| zmv rfl (hd 79 rfl) <| jo_l (ly_sub rfl rfl (wrap_u64 (by first | omega | (dsimp only; omega)) (by first | omega | (dsimp only; omega)))) (hd 80 rfl) <| zas rfl (hd 15 rfl) <| jo_nil <| zsr <| zmv rfl (hd 81 rfl) <| zmv rfl (hd 82 rfl) <| jo_l (ly_add rfl rfl (wrap_u64 (by first | omega | (dsimp only; omega)) (by first | omega | (dsimp only; omega)))) (hd 83 rfl) <| zas rfl (hd 16 rfl) <| jo_nil <| jc_seq ?_; refine jc_region <| zmv rfl (hd 84 rfl) <| jo_l (ly_ge rfl rfl) (hd 85 rfl) <| jo_nil ?_
            refine jc_if rfl (fun h8 => ?_) (fun h8 => ?_)
            · refine jc_exit ?_
              refine ⟨(), ?_, rfl, cov_n 43 rfl rfl ?_⟩
              · trivial
              · exact (.cons (by show some (V.i .u64 _) = some (V.i .u64 _); congr 2; first | exact hP1.over hn1 (by omega) (by omega) (by omega) | exact hP1.last hf (by omega)) (.u (.u (.u (.u (.u (.u (.u (.u (.u (.u (.u (.u (.u (.u (.u (.u (.u (.u (.u (.u .nil)))))))))))))))))))))
            · refine jc_skip ?_
              refine ⟨(q - 1, r + Y / 4294967296), ?_, ?_, rfl, cov_n 43 rfl rfl ?_⟩
              · exact ⟨hn1, by show 0 ≤ q - 1; omega, by show r + Y / 4294967296 < 4294967296; omega⟩
              · show (q - 1).toNat < q.toNat
                omega
              · exact (.cons rfl (.cons rfl (.u (.u (.u (.u (.u (.u (.u (.u (.u (.u (.u (.u (.u (.u (.u (.u (.u (.u (.u .nil)))))))))))))))))))))
          · refine jc_exit ?_
            refine ⟨(), ?_, rfl, cov_n 34 rfl rfl ?_⟩
            · trivial
            · exact (.cons (by show some (V.i .u64 _) = some (V.i .u64 _); congr 2; first | exact hP1.over hn1 (by omega) (by omega) (by omega) | exact hP1.last hf (by omega)) (.u (.u (.u (.u (.u (.u (.u (.u (.u (.u (.u (.u (.u (.u (.u (.u (.u (.u (.u (.u .nil)))))))))))))))))))))
    · rintro _ _; refine zsr <| zmv rfl (hd 86 rfl) <| jo_l (ly_mul rfl rfl rfl) (hd 87 rfl) <| zmv rfl (hd 88 rfl) <| jo_l (ly_add rfl rfl rfl) (hd 89 rfl) <| zmv rfl (hd 90 rfl) <| zmv rfl (hd 91 rfl) <| jo_l (ly_mul rfl rfl rfl) (hd 92 rfl) <| jo_l (ly_is (ly_sub rfl rfl rfl) (show V.i .u64 _ = V.i .u64 (R1) from congrArg (V.i .u64) (hP1.rest.trans hR1))) (hd 93 rfl) <| zas rfl (hd 17 rfl) <| jo_nil <| jc_seq ?_; refine jc_region <| zmv rfl (hd 94 rfl) <| zmv rfl (hd 95 rfl) <| jo_l (ly_quo rfl rfl (by omega) (r := R1 / (Y / 4294967296)) (quo_u64 (by omega) (by omega) (by omega))) (hd 96 rfl) <| zas rfl (hd 18 rfl) <| jo_nil <| zsr <| zmv rfl (hd 97 rfl) <| zmv rfl (hd 98 rfl) <| zmv rfl (hd 99 rfl) <| jo_l (ly_mul rfl rfl rfl) (hd 100 rfl) <| jo_l (ly_is (ly_sub rfl rfl rfl) (show V.i .u64 _ = V.i .u64 (R1 - R1 / (Y / 4294967296) * (Y / 4294967296)) from congrArg (V.i .u64) (sub_fit hfi2.1.2.2.2 (by omega)))) (hd 101 rfl) ?_; refine zas rfl (hd 16 rfl) <| jo_nil ?_
      refine jc_meetH (G := Unit) (fun _ => True) (fun _ => [(18, .i .u64 (N2 / Y)), (16, .u), (102, .u), (103, .u), (104, .u), (105, .u), (106, .u), (107, .u), (108, .u), (109, .u), (110, .u), (111, .u), (112, .u), (113, .u), (114, .u), (115, .u), (116, .u), (117, .u), (118, .u), (119, .u), (120, .u)]) ?_ ?_
      · refine jc_block ?_
        refine jc_loopF (G := Int × Int) (fun g => Hf N2 Y R1 g.1 g.2 ∧ 0 ≤ g.1 ∧ g.2 < 4294967296) (fun g => [(18, .i .u64 g.1), (16, .i .u64 g.2), (102, .u), (103, .u), (104, .u), (105, .u), (106, .u), (107, .u), (108, .u), (109, .u), (110, .u), (111, .u), (112, .u), (113, .u), (114, .u), (115, .u), (116, .u), (117, .u), (118, .u), (119, .u), (120, .u)]) (fun _ => _) (fun g => g.1.toNat) (R1 / (Y / 4294967296), R1 - R1 / (Y / 4294967296) * (Y / 4294967296)) ?_ ?_ rfl ?_
        · exact ⟨hP2.first.1, hP2.first.2.1, hP2.first.2.2⟩
        · exact (.cons rfl (.cons rfl (.u (.u (.u (.u (.u (.u (.u (.u (.u (.u (.u (.u (.u (.u (.u (.u (.u (.u (.u .nil)))))))))))))))))))))
        · rintro ⟨q, r⟩ ⟨hf, hq0, hr1⟩
          dsimp only at hf hq0 hr1
          have hf4 := hf
          obtain ⟨he, hQ, hq1, hr0⟩ := hf4
          have hmb := mul_bd (m := 4294967295) hq0 (show 0 ≤ Y % 4294967296 by omega)
          refine jc_seq <| zsr <| zmv rfl (hd 102 rfl) <| jo_l (ly_ge rfl rfl) (hd 103 rfl) <| zmv rfl (hd 104 rfl) ?_
          refine jo_ifp 104 rfl (fun h9 => ?_) (fun h9 => ?_)
          · refine jo_s 104 rfl rfl rfl (hd 105 rfl) <| jo_s 104 rfl rfl rfl (hd 106 rfl) <| jo_s 104 rfl rfl rfl (hd 107 rfl) <| jo_s 104 rfl rfl rfl (hd 108 rfl) <| jo_s 104 rfl rfl rfl (hd 109 rfl) <| jo_s 104 rfl rfl rfl (hd 110 rfl) <| jo_s 104 rfl rfl rfl (hd 111 rfl) <| jo_s 104 rfl rfl rfl (hd 112 rfl) <| jo_l (ly_pick_t rfl rfl) (hd 113 rfl) <| jo_nil <| jc_litt rfl <| jc_skip <| jc_block ?_; refine jc_seq ?_
            obtain ⟨hn1, hn2, hn3⟩ := hP2.next hf (by first | (left; omega) | (right; omega))
            refine jc_region <| zmv rfl (hd 114 rfl) <| jo_l (ly_sub rfl rfl (wrap_u64 (by first | omega | (dsimp only; omega)) (by first | omega | (dsimp only; omega)))) (hd 115 rfl) <| zas rfl (hd 18 rfl) <| jo_nil <| zsr <| zmv rfl (hd 116 rfl) <| zmv rfl (hd 117 rfl) <| jo_l (ly_add rfl rfl (wrap_u64 (by first | omega | (dsimp only; omega)) (by first | omega | (dsimp only; omega)))) (hd 118 rfl) <| zas rfl (hd 16 rfl) <| jo_nil <| jc_seq ?_; refine jc_region <| zmv rfl (hd 119 rfl) <| jo_l (ly_ge rfl rfl) (hd 120 rfl) <| jo_nil ?_
            refine jc_if rfl (fun h11 => ?_) (fun h11 => ?_)
            · refine jc_exit ?_
              refine ⟨(), ?_, rfl, cov_n 43 rfl rfl ?_⟩
              · trivial
              · exact (.cons (by show some (V.i .u64 _) = some (V.i .u64 _); congr 2; first | exact hP2.over hn1 (by omega) (by omega) (by omega) | exact hP2.last hf (by omega)) (.u (.u (.u (.u (.u (.u (.u (.u (.u (.u (.u (.u (.u (.u (.u (.u (.u (.u (.u (.u .nil)))))))))))))))))))))
            · refine jc_skip ?_
              refine ⟨(q - 1, r + Y / 4294967296), ?_, ?_, rfl, cov_n 43 rfl rfl ?_⟩
              · exact ⟨hn1, by show 0 ≤ q - 1; omega, by show r + Y / 4294967296 < 4294967296; omega⟩
              · show (q - 1).toNat < q.toNat
                omega
              · exact (.cons rfl (.cons rfl (.u (.u (.u (.u (.u (.u (.u (.u (.u (.u (.u (.u (.u (.u (.u (.u (.u (.u (.u .nil)))))))))))))))))))))
          · refine jo_g 104 rfl rfl (ly_mv rfl) (hd 105 rfl) <| jo_g 104 rfl rfl (ly_mv rfl) (hd 106 rfl) <| jo_g 104 rfl rfl (ly_mul rfl rfl (wrap_u64 (by have := hmb (by omega) (by omega); dsimp only; omega) (by have := hmb (by omega) (by omega); dsimp only; omega))) (hd 107 rfl) <| jo_g 104 rfl rfl (ly_mv rfl) (hd 108 rfl) <| jo_g 104 rfl rfl (ly_mul rfl rfl (wrap_u64 (by first | omega | (dsimp only; omega)) (by first | omega | (dsimp only; omega)))) (hd 109 rfl) <| jo_g 104 rfl rfl (ly_mv rfl) (hd 110 rfl) <| jo_g 104 rfl rfl (ly_add rfl rfl (wrap_u64 (by first | omega | (dsimp only; omega)) (by first | omega | (dsimp only; omega)))) (hd 111 rfl) <| jo_g 104 rfl rfl (ly_gt rfl rfl) (hd 112 rfl) <| jo_l (ly_pick_f rfl rfl) (hd 113 rfl) <| jo_nil ?_
            refine jc_if rfl (fun h12 => ?_) (fun h12 => ?_)
            · refine jc_skip <| jc_block <| jc_seq ?_
              obtain ⟨hn1, hn2, hn3⟩ := hP2.next hf (by first | (left; omega) | (right; omega))
              refine jc_region <| zmv rfl (hd 114 rfl) <| jo_l (ly_sub rfl rfl (wrap_u64 (by first | omega | (dsimp only; omega)) (by first | omega | (dsimp only; omega)))) (hd 115 rfl) <| zas rfl (hd 18 rfl) <| jo_nil <| zsr <| zmv rfl (hd 116 rfl) <| zmv rfl (hd 117 rfl) <| jo_l (ly_add rfl rfl (wrap_u64 (by first | omega | (dsimp only; omega)) (by first | omega | (dsimp only; omega)))) (hd 118 rfl) <| zas rfl (hd 16 rfl) <| jo_nil <| jc_seq ?_; refine jc_region <| zmv rfl (hd 119 rfl) <| jo_l (ly_ge rfl rfl) (hd 120 rfl) <| jo_nil ?_
              refine jc_if rfl (fun h13 => ?_) (fun h13 => ?_)
              · refine jc_exit ?_
                refine ⟨(), ?_, rfl, cov_n 43 rfl rfl ?_⟩
                · trivial
                · exact (.cons (by show some (V.i .u64 _) = some (V.i .u64 _); congr 2; first | exact hP2.over hn1 (by omega) (by omega) (by omega) | exact hP2.last hf (by omega)) (.u (.u (.u (.u (.u (.u (.u (.u (.u (.u (.u (.u (.u (.u (.u (.u (.u (.u (.u (.u .nil)))))))))))))))))))))
              · refine jc_skip ?_
                refine ⟨(q - 1, r + Y / 4294967296), ?_, ?_, rfl, cov_n 43 rfl rfl ?_⟩
                · exact ⟨hn1, by show 0 ≤ q - 1; omega, by show r + Y / 4294967296 < 4294967296; omega⟩
                · show (q - 1).toNat < q.toNat
                  omega
                · exact (.cons rfl (.cons rfl (.u (.u (.u (.u (.u (.u (.u (.u (.u (.u (.u (.u (.u (.u (.u (.u (.u (.u (.u .nil)))))))))))))))))))))
            · refine jc_exit ?_
              refine ⟨(), ?_, rfl, cov_n 34 rfl rfl ?_⟩
              · trivial
              · exact (.cons (by show some (V.i .u64 _) = some (V.i .u64 _); congr 2; first | exact hP2.over hn1 (by omega) (by omega) (by omega) | exact hP2.last hf (by omega)) (.u (.u (.u (.u (.u (.u (.u (.u (.u (.u (.u (.u (.u (.u (.u (.u (.u (.u (.u (.u .nil)))))))))))))))))))))
      · rintro _ _; refine zsr <| zmv rfl (hd 121 rfl) <| jo_l (ly_mul rfl rfl (wrap_u64 (by first | omega | (dsimp only; omega)) (by first | omega | (dsimp only; omega)))) (hd 122 rfl) <| zmv rfl (hd 123 rfl) <| jo_l (ly_add rfl rfl (r := (hi * 18446744073709551616 + lo) / y) (by rw [wrap_u64 (by omega) (by omega)]; exact hE1)) (hd 124 rfl) <| zmv rfl (hd 125 rfl) <| jo_l (ly_mul rfl rfl rfl) (hd 126 rfl) <| zmv rfl (hd 127 rfl) <| jo_l (ly_add rfl rfl rfl) (hd 128 rfl) <| zmv rfl (hd 129 rfl) <| zmv rfl (hd 130 rfl) <| jo_l (ly_mul rfl rfl rfl) (hd 131 rfl) ?_; refine jo_l (ly_is (ly_sub rfl rfl rfl) (show V.i .u64 _ = V.i .u64 (N2 % Y) from congrArg (V.i .u64) hP2.rest)) (hd 132 rfl) <| zmv rfl (hd 133 rfl) <| jo_l (ly_is (ly_shr rfl rfl (by omega) rfl) (show V.i .u64 _ = V.i .u64 ((hi * 18446744073709551616 + lo) % y) from congrArg (V.i .u64) ((shr_sym (by omega)).trans hE2))) (hd 134 rfl) <| zas rfl (hd 6 rfl) <| zas rfl (hd 7 rfl) <| jo_nil <| jc_ret ?_
        refine ⟨_, _, (.cons rfl (.cons rfl .nil)), (.t1 .i (.t1 .i .t0)), ?_⟩
        rfl

theorem up_s (s : Nat) (a : List Int) (hl : a.length < 1099511627776) (hs : s < 64) (ua : u64s a) : Spec Tryz.prog 107 [.n false .u64 a, .i .u64 (s : Int)] (fun o => o = .ret (.n true .u64 (upL a s))) := by
  refine spec_of' [(0, .n false .u64 a), (1, .i .u64 (s : Int))] rfl Tryz.func107 rfl (zlb rfl) fun Γ hN hds hL hR => ?_
  have hd := hdOf 39 hN
  refine zsr <| zas rfl (hd 4 rfl) <| jo_nil <| zsr <| zmv rfl (hd 8 rfl) <| jo_l (ly_lenn sl28 rfl) (hd 9 rfl) <| jo_l (ly_add rfl rfl (r := ((a.length + 1 : Nat) : Int)) (by rw [wrap_i64 (by omega) (by omega)]; omega)) (hd 10 rfl) <| jo_h (hy_mk (m := a.length + 1) el28 rfl rfl rfl (by show 8 * (a.length + 1) ≤ _; omega) (by unfold maxLen; omega) rfl) (hd 11 rfl) <| zas rfl (hd 5 rfl) <| jo_nil <| jc_seq ?_; refine jc_seq <| jc_H (H' := [⟨79, 1, 0, true, ints .u64 (upR a s 0)⟩]) (by rw [← upR_0]; rfl) <| jc_region <| zmv rfl (hd 12 rfl) <| jo_l (ly_lenn sl28 rfl) (hd 13 rfl) <| zmv rfl (hd 14 rfl) <| jo_nil <| jc_block ?_
  refine jc_loopF (G := Nat) (fun i => i ≤ a.length) (fun i => [(14, .i .i64 (i : Int)), (6, .u), (7, .u), (15, .u), (16, .u), (17, .u), (18, .u), (19, .u), (20, .u), (21, .u), (22, .u), (23, .u), (24, .u), (25, .u), (26, .u), (27, .u), (28, .u), (29, .u), (30, .u), (31, .u), (32, .u), (33, .u), (34, .u), (35, .u), (36, .u), (37, .u)]) (fun i => [⟨79, 1, 0, true, ints .u64 (upR a s i)⟩]) (fun i => a.length - i) 0 ?_ ?_ rfl ?_
  · exact Nat.zero_le _
  · exact (.cons rfl (.u (.u (.u (.u (.u (.u (.u (.u (.u (.u (.u (.u (.u (.u (.u (.u (.u (.u (.u (.u (.u (.u (.u (.u (.u .nil))))))))))))))))))))))))))
  · rintro i hc1
    have hf := upR_len (s := s) hc1
    have hc := upN_c (Nat.le_of_lt hs) ua i
    have hx := u64s_getD ua i
    refine zsr <| jo_l (ly_lt rfl rfl) (hd 15 rfl) <| jo_nil <| jc_seq ?_
    refine jc_if rfl (fun h1 => ?_) (fun h1 => ?_)
    · refine jc_skip <| jc_seq <| jc_block <| zsr <| zmv rfl (hd 16 rfl) <| jo_l (ly_ian (i := i) sl28 rfl rfl (by first | rfl | omega) (by omega)) (hd 17 rfl) <| jo_l (ly_ldq one82 rfl rfl) (hd 18 rfl) <| zas rfl (hd 6 rfl) <| zas rfl (hd 7 rfl) <| jo_nil <| jc_seq <| jc_region ?_; refine zmv rfl (hd 19 rfl) <| zmv rfl (hd 20 rfl) <| jo_l (ly_ia (i := i) sl28 rfl rfl rfl (by first | rfl | omega) (by omega) rfl) (hd 21 rfl) <| jo_l (ly_is (ly_ldi one82 rfl rfl (by omega)) (show V.i .u64 _ = V.i .u64 ((upN a s i).2) from congrArg (V.i .u64) upR_get)) (hd 22 rfl) <| zmv rfl (hd 23 rfl) <| zmv rfl (hd 24 rfl) <| jo_l (ly_is (ly_shl rfl rfl (by omega) rfl) (show V.i .u64 _ = V.i .u64 (loS (a.getD i 0) s) from congrArg (V.i .u64) (shl_sym (by omega)))) (hd 25 rfl) <| jo_l (ly_is (ly_bit (by simp) rfl rfl rfl) (show V.i .u64 _ = V.i .u64 ((upN a s i).2 + loS (a.getD i 0) s) from congrArg (V.i .u64) (or_lo (by omega) hc.1 hc.2 hx.1).1)) (hd 26 rfl) <| jo_l (ly_ia (i := i) sl28 rfl rfl rfl (by first | rfl | omega) (by omega) rfl) (hd 27 rfl) <| jo_st (sy_storei rfl rfl rfl one82 (by omega)) <| jo_nil <| jc_region <| zmv rfl (hd 28 rfl) ?_; refine zmv rfl (hd 29 rfl) <| jo_l (ly_add rfl rfl (wrap_i64 (by omega) (by omega))) (hd 30 rfl) <| zmv rfl (hd 31 rfl) <| jo_l (ly_is (ly_shr rfl rfl (by omega) rfl) (show V.i .u64 _ = V.i .u64 (a.getD i 0 / 2) from congrArg (V.i .u64) (shr1 hx.1))) (hd 32 rfl) <| zmv rfl (hd 33 rfl) <| jo_l (ly_sub rfl rfl (r := ((63 - s : Nat) : Int)) (by rw [wrap_u64 (by omega) (by omega)]; omega)) (hd 34 rfl) <| jo_l (ly_is (ly_shr rfl rfl (by omega) rfl) (show V.i .u64 _ = V.i .u64 (hiS (a.getD i 0) s) from congrArg (V.i .u64) ((shr_sym (by omega)).trans (shr_two hs)))) (hd 35 rfl) <| jo_l (ly_ia (i := i + 1) sl28 rfl rfl rfl (by first | rfl | omega) (by omega) rfl) (hd 36 rfl) <| jo_st (sy_storei rfl rfl rfl one82 (by simp only [List.length_set]; omega)) <| jo_nil <| jc_region <| jo_l (ly_add rfl rfl (wrap_i64 (by omega) (by omega))) (hd 37 rfl) <| zmv rfl (hd 14 rfl) ?_; refine jo_nil ?_
      refine ⟨i + 1, ?_, ?_, (by show [(⟨79, 1, 0, true, ints .u64 _⟩ : Ob)] = [⟨79, 1, 0, true, ints .u64 _⟩]; rw [upR_set (by omega)]), cov_n 52 rfl rfl ?_⟩
      · omega
      · omega
      · exact (.cons rfl (.u (.u (.u (.u (.u (.u (.u (.u (.u (.u (.u (.u (.u (.u (.u (.u (.u (.u (.u (.u (.u (.u (.u (.u (.u .nil))))))))))))))))))))))))))
    · obtain rfl : i = a.length := by omega
      rw [upR_end] at hf ⊢
      refine jc_exit <| zsr <| zmv rfl (hd 38 rfl) <| zas rfl (hd 4 rfl) <| jo_nil <| jc_ret ?_
      refine ⟨_, _, (.cons rfl .nil), (.o (l := upL a s) rfl (by omega) rfl), ?_⟩
      rw [List.drop_zero, List.take_of_length_le (by omega)]

theorem up_n (s : Nat) (a : List Int) (hl : a.length < 1099511627776) (hs : s < 64) (ua : u64s a) : SpecM Tryz.prog 107 [.n false .u64 a, .i .u64 (s : Int)] [] (fun o G => o = .ret (.o 0 0 0 (a.length + 1)) ∧ G = [⟨79, 1, 0, true, ints .u64 (upL a s)⟩]) := by
  refine specS_of [(0, .n false .u64 a), (1, .i .u64 (s : Int))] rfl Tryz.func107 rfl (zlb rfl) fun Γ hN hds hL hR => ?_
  have hd := hdOf 39 hN
  refine zsr <| zas rfl (hd 4 rfl) <| jo_nil <| zsr <| zmv rfl (hd 8 rfl) <| jo_l (ly_lenn sl28 rfl) (hd 9 rfl) <| jo_l (ly_add rfl rfl (r := ((a.length + 1 : Nat) : Int)) (by rw [wrap_i64 (by omega) (by omega)]; omega)) (hd 10 rfl) <| jo_h (hy_mk (m := a.length + 1) el28 rfl rfl rfl (by show 8 * (a.length + 1) ≤ _; omega) (by unfold maxLen; omega) rfl) (hd 11 rfl) <| zas rfl (hd 5 rfl) <| jo_nil <| jc_seq ?_; refine jc_seq <| jc_H (H' := [⟨79, 1, 0, true, ints .u64 (upR a s 0)⟩]) (by rw [← upR_0]; rfl) <| jc_region <| zmv rfl (hd 12 rfl) <| jo_l (ly_lenn sl28 rfl) (hd 13 rfl) <| zmv rfl (hd 14 rfl) <| jo_nil <| jc_block ?_
  refine jc_loopF (G := Nat) (fun i => i ≤ a.length) (fun i => [(14, .i .i64 (i : Int)), (6, .u), (7, .u), (15, .u), (16, .u), (17, .u), (18, .u), (19, .u), (20, .u), (21, .u), (22, .u), (23, .u), (24, .u), (25, .u), (26, .u), (27, .u), (28, .u), (29, .u), (30, .u), (31, .u), (32, .u), (33, .u), (34, .u), (35, .u), (36, .u), (37, .u)]) (fun i => [⟨79, 1, 0, true, ints .u64 (upR a s i)⟩]) (fun i => a.length - i) 0 ?_ ?_ rfl ?_
  · exact Nat.zero_le _
  · exact (.cons rfl (.u (.u (.u (.u (.u (.u (.u (.u (.u (.u (.u (.u (.u (.u (.u (.u (.u (.u (.u (.u (.u (.u (.u (.u (.u .nil))))))))))))))))))))))))))
  · rintro i hc1
    have hf := upR_len (s := s) hc1
    have hc := upN_c (Nat.le_of_lt hs) ua i
    have hx := u64s_getD ua i
    refine zsr <| jo_l (ly_lt rfl rfl) (hd 15 rfl) <| jo_nil <| jc_seq ?_
    refine jc_if rfl (fun h1 => ?_) (fun h1 => ?_)
    · refine jc_skip <| jc_seq <| jc_block <| zsr <| zmv rfl (hd 16 rfl) <| jo_l (ly_ian (i := i) sl28 rfl rfl (by first | rfl | omega) (by omega)) (hd 17 rfl) <| jo_l (ly_ldq one82 rfl rfl) (hd 18 rfl) <| zas rfl (hd 6 rfl) <| zas rfl (hd 7 rfl) <| jo_nil <| jc_seq <| jc_region ?_; refine zmv rfl (hd 19 rfl) <| zmv rfl (hd 20 rfl) <| jo_l (ly_ia (i := i) sl28 rfl rfl rfl (by first | rfl | omega) (by omega) rfl) (hd 21 rfl) <| jo_l (ly_is (ly_ldi one82 rfl rfl (by omega)) (show V.i .u64 _ = V.i .u64 ((upN a s i).2) from congrArg (V.i .u64) upR_get)) (hd 22 rfl) <| zmv rfl (hd 23 rfl) <| zmv rfl (hd 24 rfl) <| jo_l (ly_is (ly_shl rfl rfl (by omega) rfl) (show V.i .u64 _ = V.i .u64 (loS (a.getD i 0) s) from congrArg (V.i .u64) (shl_sym (by omega)))) (hd 25 rfl) <| jo_l (ly_is (ly_bit (by simp) rfl rfl rfl) (show V.i .u64 _ = V.i .u64 ((upN a s i).2 + loS (a.getD i 0) s) from congrArg (V.i .u64) (or_lo (by omega) hc.1 hc.2 hx.1).1)) (hd 26 rfl) <| jo_l (ly_ia (i := i) sl28 rfl rfl rfl (by first | rfl | omega) (by omega) rfl) (hd 27 rfl) <| jo_st (sy_storei rfl rfl rfl one82 (by omega)) <| jo_nil <| jc_region <| zmv rfl (hd 28 rfl) ?_; refine zmv rfl (hd 29 rfl) <| jo_l (ly_add rfl rfl (wrap_i64 (by omega) (by omega))) (hd 30 rfl) <| zmv rfl (hd 31 rfl) <| jo_l (ly_is (ly_shr rfl rfl (by omega) rfl) (show V.i .u64 _ = V.i .u64 (a.getD i 0 / 2) from congrArg (V.i .u64) (shr1 hx.1))) (hd 32 rfl) <| zmv rfl (hd 33 rfl) <| jo_l (ly_sub rfl rfl (r := ((63 - s : Nat) : Int)) (by rw [wrap_u64 (by omega) (by omega)]; omega)) (hd 34 rfl) <| jo_l (ly_is (ly_shr rfl rfl (by omega) rfl) (show V.i .u64 _ = V.i .u64 (hiS (a.getD i 0) s) from congrArg (V.i .u64) ((shr_sym (by omega)).trans (shr_two hs)))) (hd 35 rfl) <| jo_l (ly_ia (i := i + 1) sl28 rfl rfl rfl (by first | rfl | omega) (by omega) rfl) (hd 36 rfl) <| jo_st (sy_storei rfl rfl rfl one82 (by simp only [List.length_set]; omega)) <| jo_nil <| jc_region <| jo_l (ly_add rfl rfl (wrap_i64 (by omega) (by omega))) (hd 37 rfl) <| zmv rfl (hd 14 rfl) ?_; refine jo_nil ?_
      refine ⟨i + 1, ?_, ?_, (by show [(⟨79, 1, 0, true, ints .u64 _⟩ : Ob)] = [⟨79, 1, 0, true, ints .u64 _⟩]; rw [upR_set (by omega)]), cov_n 52 rfl rfl ?_⟩
      · omega
      · omega
      · exact (.cons rfl (.u (.u (.u (.u (.u (.u (.u (.u (.u (.u (.u (.u (.u (.u (.u (.u (.u (.u (.u (.u (.u (.u (.u (.u (.u .nil))))))))))))))))))))))))))
    · obtain rfl : i = a.length := by omega
      rw [upR_end] at hf ⊢
      refine jc_exit <| zsr <| zmv rfl (hd 38 rfl) <| zas rfl (hd 4 rfl) <| jo_nil <| jc_ret ?_
      refine ⟨[0], _, (.o 0 0 0 (a.length + 1)), (.cons rfl .nil), rfl, rfl, (by decide), (by first | exact idless_cons ints_id idless_nil | exact idless_cons rfl idless_nil), ?_⟩
      exact ⟨rfl, rfl⟩

theorem div_down_s (s : Nat) (a : List Int) (hl : a.length < 1099511627776) (hs : s < 64) (ua : u64s a) : Spec Tryz.prog 109 [.n false .u64 a, .i .u64 (s : Int)] (fun o => o = .ret (.n true .u64 (trm (dnN a s a.length)))) := by
  refine spec_of' [(0, .n false .u64 a), (1, .i .u64 (s : Int))] rfl Tryz.func109 rfl (zlb rfl) fun Γ hN hds hL hR => ?_
  have hd := hdOf 47 hN
  refine zsr <| zas rfl (hd 4 rfl) <| jo_nil <| zsr <| zmv rfl (hd 8 rfl) <| jo_l (ly_lenn sl28 rfl) (hd 9 rfl) <| jo_h (hy_mk (m := a.length) el28 rfl rfl rfl (by show 8 * a.length ≤ _; omega) (by unfold maxLen; omega) rfl) (hd 10 rfl) <| zas rfl (hd 5 rfl) <| jo_nil <| jc_seq <| jc_seq ?_; refine jc_region <| zmv rfl (hd 11 rfl) <| jo_l (ly_lenn sl28 rfl) (hd 12 rfl) <| zmv rfl (hd 13 rfl) <| jo_nil <| jc_block ?_
  refine jc_loopF (G := Nat) (fun i => i ≤ a.length) (fun i => [(13, .i .i64 (i : Int)), (6, .u), (7, .u), (14, .u), (15, .u), (16, .u), (17, .u), (18, .u), (19, .u), (20, .u), (21, .u), (22, .u), (23, .u), (24, .u), (25, .u), (26, .u), (27, .u), (28, .u), (29, .u), (30, .u), (31, .u), (32, .u), (33, .u), (34, .u), (35, .u), (36, .u), (37, .u), (38, .u), (39, .u), (40, .u), (41, .u), (42, .u), (43, .u), (44, .u)]) (fun i => [⟨79, 1, 0, true, ints .u64 (fillI (dnN a s i) a.length)⟩]) (fun i => a.length - i) 0 ?_ ?_ rfl ?_
  · exact Nat.zero_le _
  · exact (.cons rfl (.u (.u (.u (.u (.u (.u (.u (.u (.u (.u (.u (.u (.u (.u (.u (.u (.u (.u (.u (.u (.u (.u (.u (.u (.u (.u (.u (.u (.u (.u (.u (.u (.u .nil))))))))))))))))))))))))))))))))))
  · rintro i hc1
    have hf : (fillI (dnN a s i) a.length).length = a.length := fillI_len (by rw [dnN_len]; exact hc1)
    have hx := u64s_getD ua i
    have hy := u64s_getD ua (i + 1)
    refine zsr <| jo_l (ly_lt rfl rfl) (hd 14 rfl) <| jo_nil <| jc_seq ?_
    refine jc_if rfl (fun h1 => ?_) (fun h1 => ?_)
    · refine jc_skip ?_
      refine jc_meet (G := Unit) (fun _ => True) (fun _ => [(6, .u), (7, .u), (15, .u), (16, .u), (17, .u), (18, .u), (19, .u), (20, .u), (21, .u), (22, .u), (23, .u), (24, .u), (25, .u), (26, .u), (27, .u), (28, .u), (29, .u), (30, .u), (31, .u), (32, .u), (33, .u), (34, .u), (35, .u), (36, .u), (37, .u), (38, .u), (39, .u), (40, .u), (41, .u), (42, .u), (43, .u)]) (fun _ => [⟨79, 1, 0, true, ints .u64 (fillI (dnN a s (i + 1)) a.length)⟩]) ?_ ?_
      · refine jc_block <| zsr <| zmv rfl (hd 15 rfl) <| jo_l (ly_ian (i := i) sl28 rfl rfl (by first | rfl | omega) (by omega)) (hd 16 rfl) <| jo_l (ly_ldq one82 rfl rfl) (hd 17 rfl) <| zas rfl (hd 6 rfl) <| zas rfl (hd 7 rfl) <| jo_nil <| zsr <| zmv rfl (hd 18 rfl) <| zmv rfl (hd 19 rfl) ?_; refine zmv rfl (hd 20 rfl) <| zmv rfl (hd 21 rfl) <| jo_l (ly_is (ly_shr rfl rfl (by omega) rfl) (show V.i .u64 _ = V.i .u64 (a.getD i 0 / 2 ^ s) from congrArg (V.i .u64) (shr_sym (by omega)))) (hd 22 rfl) <| jo_l (ly_ia (i := i) sl28 rfl rfl rfl (by first | rfl | omega) (by omega) rfl) (hd 23 rfl) <| jo_st (sy_storei rfl rfl rfl one82 (by omega)) <| jo_nil <| zsr <| zmv rfl (hd 24 rfl) <| jo_l (ly_add rfl rfl (wrap_i64 (by omega) (by omega))) (hd 25 rfl) <| zmv rfl (hd 26 rfl) <| jo_l (ly_lenn sl28 rfl) (hd 27 rfl) <| jo_l (ly_lt rfl rfl) (hd 28 rfl) ?_; refine jo_nil ?_
        refine jc_if rfl (fun h2 => ?_) (fun h2 => ?_)
        · refine jc_draw (n := 16) _ rfl mixed <| zal2 0 [2, 3, 13, 14, 15] (lo_l (ly_mv rfl) (hd 29 rfl)) rfl <| zal2 1 [2, 3, 13, 14, 15] (lo_l (ly_mv rfl) (hd 30 rfl)) rfl <| zal2 2 [3, 13, 14, 15] (lo_l (ly_ia (i := i) sl28 rfl rfl rfl (by first | rfl | omega) (by omega) rfl) (hd 31 rfl)) rfl <| zal 3 (lo_l (ly_is (ly_ldi one82 rfl rfl (by simp only [List.length_set]; omega)) (show V.i .u64 _ = V.i .u64 (a.getD i 0 / 2 ^ s) from congrArg (V.i .u64) (dnR_get (by omega)))) (hd 32 rfl)) rfl <| zal2 4 [7, 8, 9, 12, 13, 14, 15] (lo_l (ly_mv rfl) (hd 33 rfl)) rfl <| zal2 5 [6, 7, 8, 9, 12, 13, 14, 15] (lo_l (ly_mv rfl) (hd 34 rfl)) rfl <| zal2 6 [7, 8, 9, 12, 13, 14, 15] (lo_l (ly_add rfl rfl (r := ((i + 1 : Nat) : Int)) (by rw [wrap_i64 (by omega) (by omega)]; omega)) (hd 35 rfl)) rfl <| zal2 7 [8, 9, 12, 13, 14, 15] (lo_l (ly_ian (i := i + 1) sl28 rfl rfl (by first | rfl | omega) (by omega)) (hd 36 rfl)) rfl <| zal2 8 [9, 12, 13, 14, 15] (lo_l (ly_ldq one82 rfl rfl) (hd 37 rfl)) rfl <| zal2 9 [12, 13, 14, 15] (lo_l (ly_is (ly_shl rfl rfl (by omega) rfl) (show V.i .u64 _ = V.i .u64 (a.getD (i + 1) 0 * 2 % 18446744073709551616) from congrArg (V.i .u64) shl1)) (hd 38 rfl)) rfl <| zal2 10 [11, 12, 13, 14, 15] (lo_l (ly_mv rfl) (hd 39 rfl)) rfl <| zal2 11 [12, 13, 14, 15] (lo_l (ly_sub rfl rfl (r := ((63 - s : Nat) : Int)) (by rw [wrap_u64 (by omega) (by omega)]; omega)) (hd 40 rfl)) rfl ?_; refine zal 12 (lo_l (ly_is (ly_shl rfl rfl (by omega) rfl) (show V.i .u64 _ = V.i .u64 (loS (a.getD (i + 1) 0) (64 - s)) from congrArg (V.i .u64) ((shl_sym (by omega)).trans (shl_two hs)))) (hd 41 rfl)) rfl <| zal 13 (lo_l (ly_is (ly_bit (by simp) rfl rfl rfl) (show V.i .u64 _ = V.i .u64 (dnD a s i) from congrArg (V.i .u64) (dn_or (Nat.le_of_lt hs) hx.1 hx.2 hy.1).1)) (hd 42 rfl)) rfl <| zal 14 (lo_l (ly_ia (i := i) sl28 rfl rfl rfl (by first | rfl | omega) (by omega) rfl) (hd 43 rfl)) rfl ?_
          refine ja_1 15 ?_ rfl (by kernel_rfl)
          refine js_st (sy_storei rfl rfl rfl one82 (by simp only [List.length_set]; omega)) rfl <| ja_nil (by kernel_rfl) ?_
          refine ⟨(), ?_, (by show [(⟨79, 1, 0, true, ints .u64 _⟩ : Ob)] = [⟨79, 1, 0, true, ints .u64 _⟩]; first | rw [← dnD_last (show a.length ≤ i + 1 by omega), dnR_set (by omega)] | rw [List.set_set, dnR_set (by omega)]), cov_n 31 rfl rfl ?_⟩
          · trivial
          · exact (.u (.u (.u (.u (.u (.u (.u (.u (.u (.u (.u (.u (.u (.u (.u (.u (.u (.u (.u (.u (.u (.u (.u (.u (.u (.u (.u (.u (.u (.u (.u .nil)))))))))))))))))))))))))))))))
        · refine jc_skip ?_
          refine ⟨(), ?_, (by show [(⟨79, 1, 0, true, ints .u64 _⟩ : Ob)] = [⟨79, 1, 0, true, ints .u64 _⟩]; first | rw [← dnD_last (show a.length ≤ i + 1 by omega), dnR_set (by omega)] | rw [List.set_set, dnR_set (by omega)]), cov_n 16 rfl rfl ?_⟩
          · trivial
          · exact (.u (.u (.u (.u (.u (.u (.u (.u (.u (.u (.u (.u (.u (.u (.u (.u (.u (.u (.u (.u (.u (.u (.u (.u (.u (.u (.u (.u (.u (.u (.u .nil)))))))))))))))))))))))))))))))
      · rintro _ _; refine jc_region <| jo_l (ly_add rfl rfl (wrap_i64 (by omega) (by omega))) (hd 44 rfl) <| zmv rfl (hd 13 rfl) <| jo_nil ?_
        refine ⟨i + 1, ?_, ?_, rfl, cov_n 68 rfl rfl ?_⟩
        · omega
        · omega
        · exact (.cons rfl (.u (.u (.u (.u (.u (.u (.u (.u (.u (.u (.u (.u (.u (.u (.u (.u (.u (.u (.u (.u (.u (.u (.u (.u (.u (.u (.u (.u (.u (.u (.u (.u (.u .nil))))))))))))))))))))))))))))))))))
    · obtain rfl : i = a.length := by omega
      refine jc_exit <| zsr <| jo_frz (k := .u64) (l := fillI (dnN a s a.length) a.length) (l' := dnN a s a.length) 5 rfl rfl (by omega) (by rw [List.drop_zero, List.take_of_length_le (by omega), fillI_full (dnN_len _ _ _)]) hL <| zmv rfl (hd 45 rfl) ?_
      refine jo_call Tryz.f51 (Norm_s (dnN a s a.length) (by rw [dnN_len]; omega)) rfl Tryz.func51 rfl rfl (ovL_cons rfl ovL_nil) (.cons .n .nil) (hd 46 rfl) ?_ (fun ch hp => by simp at hp)
      rintro _ ⟨⟩; refine zas rfl (hd 4 rfl) <| jo_nil <| jc_ret ?_
      refine ⟨_, _, (.cons rfl .nil), .n, ?_⟩
      exact rfl

set_option maxRecDepth 100000 in
theorem guess_s (U u v Q : List Int) (j n : Nat) (hU : j + (n + 3) ≤ U.length) (hUl : U.length < 4398046511104) (uU : u64s U) (hu : slJ U j (n + 3) = u) (hP : GuP u v n) : SpecM Tryz.prog 108 [.o 0 0 j (n + 3), .n false .u64 v] ([⟨79, 1, 0, true, ints .u64 U⟩, ⟨79, 1, 0, true, ints .u64 Q⟩]) (fun o H' => o = .ret (.i .u64 (vl u / vl v)) ∧ ∃ r, H' = [⟨79, 1, 0, true, ints .u64 (rwJ U j r)⟩, ⟨79, 1, 0, true, ints .u64 Q⟩] ∧ r.length = n + 3 ∧ u64s r ∧ vl r = vl u % vl v) := by
  refine specM_of [(0, .o 0 0 j (n + 3)), (1, .n false .u64 v)] rfl (2) rfl Tryz.func108 rfl (zlb rfl) fun Γ hN hds => ?_
  have hd := hdOf 195 hN
  have hlu := hP.lu
  have hlv := hP.lv
  have hv0 := hP.pos
  have hQ1 := hP.q_lt
  have hQ0 := hP.q_nn
  have hx0 := u64s_getD hP.uu n
  have hx1 := u64s_getD hP.uu (n + 1)
  have hx2 := u64s_getD hP.uu (n + 2)
  have hy0 := u64s_getD hP.uv n
  have hy1 := u64s_getD hP.uv (n + 1)
  have hat2 : ∀ k, k < n + 3 → U.getD (j + k) 0 = u.getD k 0 := fun k hk => by rw [← hu, slJ_at hk]
  have hat : ∀ k, k < n + 3 → U.getD ((j + k) * 1) 0 = u.getD k 0 := fun k hk => by rw [Nat.mul_one]; exact hat2 k hk
  refine zsr <| zas rfl (hd 4 rfl) <| jo_nil <| zsr <| zmv rfl (hd 24 rfl) <| jo_l (ly_lenn sl28 rfl) (hd 25 rfl) <| zas rfl (hd 5 rfl) <| jo_nil <| zsr <| zas rfl (hd 6 rfl) ?_; refine zas rfl (hd 7 rfl) <| jo_nil <| zsr <| zas rfl (hd 8 rfl) <| jo_nil ?_
  refine jc_meetH (G := Int × Int × Bool) (fun g => vl u / vl v ≤ g.1 ∧ 0 ≤ g.1 ∧ g.1 < 18446744073709551616 ∧ (g.2.2 = false → Est u v n g.1 g.2.1 ∧ g.2.1 < 18446744073709551616) ∧ (g.2.2 = true → g.1 ≤ vl u / vl v + 1)) (fun g => [(6, .i .u64 g.1), (7, .i .u64 g.2.1), (8, .b g.2.2), (9, .u), (26, .u), (27, .u), (28, .u), (29, .u), (30, .u), (31, .u), (32, .u), (33, .u), (34, .u), (35, .u), (36, .u), (37, .u), (38, .u), (39, .u), (40, .u), (41, .u), (42, .u), (43, .u), (44, .u), (45, .u), (46, .u), (47, .u), (48, .u), (49, .u), (50, .u), (51, .u), (52, .u), (53, .u), (54, .u), (55, .u), (56, .u), (57, .u), (58, .u), (59, .u), (60, .u), (61, .u), (62, .u), (63, .u), (64, .u), (65, .u), (66, .u), (67, .u), (68, .u), (69, .u)]) ?_ ?_
  · refine jc_seq <| jc_draw (n := 10) _ rfl mixed <| zal2 0 [2, 3, 9] (lo_l (ly_mv rfl) (hd 26 rfl)) rfl <| zal2 1 [2, 3, 9] (lo_l (ly_mv rfl) (hd 27 rfl)) rfl <| zal2 2 [3, 9] (lo_l (ly_ia (i := n + 2) sl28 rfl rfl rfl (by first | rfl | omega) (by omega) rfl) (hd 28 rfl)) rfl <| zal 3 (lo_l (ly_is (ly_ldi one82 rfl rfl (by omega)) (show V.i .u64 _ = V.i .u64 (u.getD (n + 2) 0) from congrArg (V.i .u64) (hat (n + 2) (by omega)))) (hd 29 rfl)) rfl <| zal2 4 [7, 8, 9] (lo_l (ly_mv rfl) (hd 30 rfl)) rfl <| zal2 5 [6, 7, 8, 9] (lo_l (ly_mv rfl) (hd 31 rfl)) rfl <| zal2 6 [7, 8, 9] (lo_l (ly_sub rfl rfl (r := ((n + 1 : Nat) : Int)) (by rw [wrap_i64 (by omega) (by omega)]; omega)) (hd 32 rfl)) rfl <| zal2 7 [8, 9] (lo_l (ly_ian (i := n + 1) sl28 rfl rfl (by first | rfl | omega) (by omega)) (hd 33 rfl)) rfl <| zal 8 (lo_l (ly_ldq one82 rfl rfl) (hd 34 rfl)) rfl <| zal 9 (lo_l (ly_ge rfl rfl) (hd 35 rfl)) rfl <| ja_nil (by kernel_rfl) ?_
    refine jc_if rfl (fun h1 => ?_) (fun h1 => ?_)
    · refine zsr <| zas rfl (hd 6 rfl) <| jo_nil <| zsr <| zas rfl (hd 9 rfl) <| jo_nil <| jc_seq <| jc_draw (n := 16) _ rfl mixed <| zal2 0 [3, 4, 10, 11, 12, 13, 14, 15] (lo_l (ly_mv rfl) (hd 37 rfl)) rfl <| zal2 1 [2, 3, 4, 10, 11, 12, 13, 14, 15] (lo_l (ly_mv rfl) (hd 38 rfl)) rfl <| zal2 2 [3, 4, 10, 11, 12, 13, 14, 15] (lo_l (ly_sub rfl rfl (r := ((n + 1 : Nat) : Int)) (by rw [wrap_i64 (by omega) (by omega)]; omega)) (hd 39 rfl)) rfl ?_; refine zal2 3 [4, 10, 11, 12, 13, 14, 15] (lo_l (ly_ia (i := n + 1) sl28 rfl rfl rfl (by first | rfl | omega) (by omega) rfl) (hd 40 rfl)) rfl <| zal2 4 [10, 11, 12, 13, 14, 15] (lo_l (ly_is (ly_ldi one82 rfl rfl (by omega)) (show V.i .u64 _ = V.i .u64 (u.getD (n + 1) 0) from congrArg (V.i .u64) (hat (n + 1) (by omega)))) (hd 41 rfl)) rfl <| zal2 5 [8, 9, 10, 11, 12, 13, 14, 15] (lo_l (ly_mv rfl) (hd 42 rfl)) rfl <| zal2 6 [7, 8, 9, 10, 11, 12, 13, 14, 15] (lo_l (ly_mv rfl) (hd 43 rfl)) rfl <| zal2 7 [8, 9, 10, 11, 12, 13, 14, 15] (lo_l (ly_sub rfl rfl (r := ((n + 1 : Nat) : Int)) (by rw [wrap_i64 (by omega) (by omega)]; omega)) (hd 44 rfl)) rfl <| zal2 8 [9, 10, 11, 12, 13, 14, 15] (lo_l (ly_ian (i := n + 1) sl28 rfl rfl (by first | rfl | omega) (by omega)) (hd 45 rfl)) rfl <| zal2 9 [10, 11, 12, 13, 14, 15] (lo_l (ly_ldq one82 rfl rfl) (hd 46 rfl)) rfl ?_
      refine ja_1 10 ?_ rfl (by kernel_rfl)
      refine js_h (hy_ext3 (e := add64Entry) Tryz.func111 rfl rfl (by kernel_rfl) (by kernel_rfl) rfl rfl rfl (fun w => run_add64 _ _ _ hx1.1 hy1.1 (by decide) (by decide) w) rel_pair) (hd 47 rfl) <| zal 11 (lo_l (ly_mv rfl) (hd 36 rfl)) rfl <| zal 12 (lo_l (ly_ext rfl rfl) (hd 48 rfl)) rfl <| zal 13 (lo_l (ly_ext rfl rfl) (hd 49 rfl)) rfl <| zal 14 (lo_l (ly_as rfl) (hd 7 rfl)) rfl <| zal 15 (lo_l (ly_as rfl) (hd 9 rfl)) rfl <| ja_nil (by kernel_rfl) <| jc_region <| zmv rfl (hd 50 rfl) <| jo_l (ly_ne rfl rfl) (hd 51 rfl) <| zas rfl (hd 8 rfl) <| jo_nil ?_
      refine ⟨(18446744073709551615, (u.getD (n + 1) 0 + v.getD (n + 1) 0 + 0) % 18446744073709551616, decide ((u.getD (n + 1) 0 + v.getD (n + 1) 0 + 0) / 18446744073709551616 ≠ 0)), ?_, rfl, cov_n 31 rfl rfl ?_⟩
      · have hE := hP.first_eq (by omega)
        refine ⟨hE.2.1, hE.2.2.1, hE.2.2.2.1, fun h => ?_, fun h => ?_⟩
        · have h2 := of_decide_eq_false h
          have e : (u.getD (n + 1) 0 + v.getD (n + 1) 0 + 0) % 18446744073709551616 = u.getD (n + 1) 0 + v.getD (n + 1) 0 := by omega
          show Est u v n _ ((u.getD (n + 1) 0 + v.getD (n + 1) 0 + 0) % 18446744073709551616) ∧ (u.getD (n + 1) 0 + v.getD (n + 1) 0 + 0) % 18446744073709551616 < _
          rw [e]
          exact ⟨hE, by omega⟩
        · have h2 := of_decide_eq_true h
          exact hP.over hE (by omega)
      · exact (.cons rfl (.cons rfl (.cons rfl (.u (.u (.u (.u (.u (.u (.u (.u (.u (.u (.u (.u (.u (.u (.u (.u (.u (.u (.u (.u (.u (.u (.u (.u (.u (.u (.u (.u (.u (.u (.u (.u (.u (.u (.u (.u (.u (.u (.u (.u (.u (.u (.u (.u (.u .nil))))))))))))))))))))))))))))))))))))))))))))))))
    · refine jc_draw (n := 20) _ rfl mixed <| zal2 0 [2, 3, 14, 15, 16, 17, 18, 19] (lo_l (ly_mv rfl) (hd 53 rfl)) rfl <| zal2 1 [2, 3, 14, 15, 16, 17, 18, 19] (lo_l (ly_mv rfl) (hd 54 rfl)) rfl <| zal2 2 [3, 14, 15, 16, 17, 18, 19] (lo_l (ly_ia (i := n + 2) sl28 rfl rfl rfl (by first | rfl | omega) (by omega) rfl) (hd 55 rfl)) rfl <| zal2 3 [14, 15, 16, 17, 18, 19] (lo_l (ly_is (ly_ldi one82 rfl rfl (by omega)) (show V.i .u64 _ = V.i .u64 (u.getD (n + 2) 0) from congrArg (V.i .u64) (hat (n + 2) (by omega)))) (hd 56 rfl)) rfl <| zal2 4 [7, 8, 14, 15, 16, 17, 18, 19] (lo_l (ly_mv rfl) (hd 57 rfl)) rfl <| zal2 5 [6, 7, 8, 14, 15, 16, 17, 18, 19] (lo_l (ly_mv rfl) (hd 58 rfl)) rfl <| zal2 6 [7, 8, 14, 15, 16, 17, 18, 19] (lo_l (ly_sub rfl rfl (r := ((n + 1 : Nat) : Int)) (by rw [wrap_i64 (by omega) (by omega)]; omega)) (hd 59 rfl)) rfl <| zal2 7 [8, 14, 15, 16, 17, 18, 19] (lo_l (ly_ia (i := n + 1) sl28 rfl rfl rfl (by first | rfl | omega) (by omega) rfl) (hd 60 rfl)) rfl <| zal2 8 [14, 15, 16, 17, 18, 19] (lo_l (ly_is (ly_ldi one82 rfl rfl (by omega)) (show V.i .u64 _ = V.i .u64 (u.getD (n + 1) 0) from congrArg (V.i .u64) (hat (n + 1) (by omega)))) (hd 61 rfl)) rfl <| zal2 9 [12, 13, 14, 15, 16, 17, 18, 19] (lo_l (ly_mv rfl) (hd 62 rfl)) rfl <| zal2 10 [11, 12, 13, 14, 15, 16, 17, 18, 19] (lo_l (ly_mv rfl) (hd 63 rfl)) rfl <| zal2 11 [12, 13, 14, 15, 16, 17, 18, 19] (lo_l (ly_sub rfl rfl (r := ((n + 1 : Nat) : Int)) (by rw [wrap_i64 (by omega) (by omega)]; omega)) (hd 64 rfl)) rfl ?_; refine zal2 12 [13, 14, 15, 16, 17, 18, 19] (lo_l (ly_ian (i := n + 1) sl28 rfl rfl (by first | rfl | omega) (by omega)) (hd 65 rfl)) rfl <| zal2 13 [14, 15, 16, 17, 18, 19] (lo_l (ly_ldq one82 rfl rfl) (hd 66 rfl)) rfl ?_
      refine ja_1 14 ?_ rfl (by kernel_rfl)
      refine js_call Tryz.f105 (Div64_s (u.getD (n + 2) 0) (u.getD (n + 1) 0) (v.getD (n + 1) 0) hx2.1 (by omega) hx1.1 hx1.2 hy1.2) rfl Tryz.func105 rfl rfl (ovL_cons rfl (ovL_cons rfl (ovL_cons rfl ovL_nil))) (.cons .i (.cons .i (.cons .i .nil))) (hd 67 rfl) ?_ (fun ch hp => by simp at hp)
      rintro _ ⟨⟩; refine zal 15 (lo_l (ly_mv rfl) (hd 52 rfl)) rfl <| zal 16 (lo_l (ly_ext rfl rfl) (hd 68 rfl)) rfl <| zal 17 (lo_l (ly_ext rfl rfl) (hd 69 rfl)) rfl <| zal 18 (lo_l (ly_as rfl) (hd 6 rfl)) rfl <| zal 19 (lo_l (ly_as rfl) (hd 7 rfl)) rfl <| ja_nil (by kernel_rfl) ?_
      refine ⟨((u.getD (n + 2) 0 * 18446744073709551616 + u.getD (n + 1) 0) / v.getD (n + 1) 0, (u.getD (n + 2) 0 * 18446744073709551616 + u.getD (n + 1) 0) % v.getD (n + 1) 0, false), ?_, rfl, cov_n 30 rfl rfl ?_⟩
      · have hE := hP.first_div (by omega)
        have hm := Int.emod_lt_of_pos (u.getD (n + 2) 0 * 18446744073709551616 + u.getD (n + 1) 0) (show 0 < v.getD (n + 1) 0 by omega)
        exact ⟨hE.2.1, hE.2.2.1, hE.2.2.2.1, fun _ => ⟨hE, by dsimp only; omega⟩, fun h => absurd h (by simp)⟩
      · exact (.cons rfl (.cons rfl (.cons rfl (.u (.u (.u (.u (.u (.u (.u (.u (.u (.u (.u (.u (.u (.u (.u (.u (.u (.u (.u (.u (.u (.u (.u (.u (.u (.u (.u (.u (.u (.u (.u (.u (.u (.u (.u (.u (.u (.u (.u (.u (.u (.u (.u (.u (.u .nil))))))))))))))))))))))))))))))))))))))))))))))))
  · rintro ⟨q0, r0, sure⟩ ⟨hc1, hc2, hc3, hc4, hc5⟩
    dsimp only at hc1 hc2 hc3 hc4 hc5
    refine jc_meetH (G := Int) (fun g => vl u / vl v ≤ g ∧ 0 ≤ g ∧ g < 18446744073709551616 ∧ g ≤ vl u / vl v + 1) (fun g => [(6, .i .u64 g), (7, .u), (10, .u), (11, .u), (12, .u), (70, .u), (71, .u), (72, .u), (73, .u), (74, .u), (75, .u), (76, .u), (77, .u), (78, .u), (79, .u), (80, .u), (81, .u), (82, .u), (83, .u), (84, .u), (85, .u), (86, .u), (87, .u), (88, .u), (89, .u), (90, .u), (91, .u), (92, .u), (93, .u), (94, .u), (95, .u), (96, .u), (97, .u), (98, .u), (99, .u), (100, .u), (101, .u), (102, .u), (103, .u), (104, .u), (105, .u), (106, .u), (107, .u), (108, .u), (109, .u), (110, .u), (111, .u), (112, .u)]) ?_ ?_
    · refine jc_block ?_
      refine jc_loopF (G := Int × Int) (fun g => vl u / vl v ≤ g.1 ∧ 0 ≤ g.1 ∧ g.1 < 18446744073709551616 ∧ (sure = false → Est u v n g.1 g.2 ∧ g.2 < 18446744073709551616) ∧ (sure = true → g.1 ≤ vl u / vl v + 1)) (fun g => [(6, .i .u64 g.1), (7, .i .u64 g.2), (10, .u), (11, .u), (12, .u), (70, .u), (71, .u), (72, .u), (73, .u), (74, .u), (75, .u), (76, .u), (77, .u), (78, .u), (79, .u), (80, .u), (81, .u), (82, .u), (83, .u), (84, .u), (85, .u), (86, .u), (87, .u), (88, .u), (89, .u), (90, .u), (91, .u), (92, .u), (93, .u), (94, .u), (95, .u), (96, .u), (97, .u), (98, .u), (99, .u), (100, .u), (101, .u), (102, .u), (103, .u), (104, .u), (105, .u), (106, .u), (107, .u), (108, .u), (109, .u), (110, .u), (111, .u), (112, .u)]) (fun _ => _) (fun g => g.1.toNat) (q0, r0) ?_ ?_ rfl ?_
      · exact ⟨hc1, hc2, hc3, hc4, hc5⟩
      · exact (.cons rfl (.cons rfl (.u (.u (.u (.u (.u (.u (.u (.u (.u (.u (.u (.u (.u (.u (.u (.u (.u (.u (.u (.u (.u (.u (.u (.u (.u (.u (.u (.u (.u (.u (.u (.u (.u (.u (.u (.u (.u (.u (.u (.u (.u (.u (.u (.u (.u (.u .nil))))))))))))))))))))))))))))))))))))))))))))))))
      · rintro ⟨q, r⟩ ⟨hd1, hd2, hd3, hd4, hd5⟩
        dsimp only at hd1 hd2 hd3 hd4 hd5
        refine jc_seq <| zsr <| zmv rfl (hd 70 rfl) <| jo_l (ly_not rfl) (hd 71 rfl) <| jo_nil ?_
        refine jc_cond rfl (fun h2 => ?_) (fun h2 => ?_)
        · have hsf : sure = false := by simpa using h2
          obtain ⟨hE, hr⟩ := hd4 hsf
          obtain ⟨hE1, hE2, hE3, hE4, hE5⟩ := id hE
          refine jc_skip <| jc_block <| zsr <| zmv rfl (hd 73 rfl) <| zmv rfl (hd 74 rfl) <| zmv rfl (hd 75 rfl) <| jo_l (ly_sub rfl rfl (r := ((n : Nat) : Int)) (by rw [wrap_i64 (by omega) (by omega)]; omega)) (hd 76 rfl) <| jo_l (ly_ian (i := n) sl28 rfl rfl (by first | rfl | omega) (by omega)) (hd 77 rfl) <| jo_l (ly_ldq one82 rfl rfl) (hd 78 rfl) ?_
          refine jo_call Tryz.f128 (Mul64_s q (v.getD n 0) hd2 hd3 hy0.1 hy0.2) rfl Tryz.func128 rfl rfl (ovL_cons rfl (ovL_cons rfl ovL_nil)) (.cons .i (.cons .i .nil)) (hd 79 rfl) ?_ (fun ch hp => by simp at hp)
          rintro _ ⟨⟩; refine zmv rfl (hd 72 rfl) <| jo_l (ly_ext rfl rfl) (hd 80 rfl) <| jo_l (ly_ext rfl rfl) (hd 81 rfl) <| zas rfl (hd 10 rfl) <| zas rfl (hd 11 rfl) <| jo_nil <| jc_seq <| zsr <| zmv rfl (hd 82 rfl) <| zmv rfl (hd 83 rfl) <| jo_l (ly_lt rfl rfl) (hd 84 rfl) <| zmv rfl (hd 85 rfl) ?_
          refine jo_ifp 85 rfl (fun h3 => ?_) (fun h3 => ?_)
          · refine jo_s 85 rfl rfl rfl (hd 86 rfl) <| jo_s 85 rfl rfl rfl (hd 87 rfl) <| jo_s 85 rfl rfl rfl (hd 88 rfl) <| jo_s 85 rfl rfl rfl (hd 89 rfl) <| jo_s' 89 rfl rfl (hd 90 rfl) <| jo_s' 89 rfl rfl (hd 91 rfl) <| jo_s' 89 rfl rfl (hd 92 rfl) <| jo_s' 89 rfl rfl (hd 93 rfl) <| jo_s' 89 rfl rfl (hd 94 rfl) <| jo_s' 89 rfl rfl (hd 95 rfl) <| jo_s' 89 rfl rfl (hd 96 rfl) <| jo_s 85 rfl rfl rfl (hd 97 rfl) <| jo_l (ly_pick_t rfl rfl) (hd 98 rfl) ?_; refine jo_nil <| jc_litt rfl <| jc_exit ?_
            refine ⟨q, ?_, rfl, cov_n 80 rfl rfl ?_⟩
            · exact ⟨hd1, hd2, hd3, hP.last hE (by omega)⟩
            · exact (.cons rfl (.u (.u (.u (.u (.u (.u (.u (.u (.u (.u (.u (.u (.u (.u (.u (.u (.u (.u (.u (.u (.u (.u (.u (.u (.u (.u (.u (.u (.u (.u (.u (.u (.u (.u (.u (.u (.u (.u (.u (.u (.u (.u (.u (.u (.u (.u (.u .nil))))))))))))))))))))))))))))))))))))))))))))))))
          · refine jo_g 85 rfl rfl (ly_mv rfl) (hd 86 rfl) <| jo_g 85 rfl rfl (ly_mv rfl) (hd 87 rfl) <| jo_g 85 rfl rfl (ly_eq rfl rfl) (hd 88 rfl) <| jo_g 85 rfl rfl (ly_mv rfl) (hd 89 rfl) ?_
            refine jo_ifp 89 rfl (fun h5 => ?_) (fun h5 => ?_)
            · refine jo_g 89 rfl rfl (ly_mv rfl) (hd 90 rfl) <| jo_g 89 rfl rfl (ly_mv rfl) (hd 91 rfl) <| jo_g 89 rfl rfl (ly_mv rfl) (hd 92 rfl) <| jo_g 89 rfl rfl (ly_sub rfl rfl (r := ((n : Nat) : Int)) (by rw [wrap_i64 (by omega) (by omega)]; omega)) (hd 93 rfl) <| jo_g 89 rfl rfl (ly_ia (i := n) sl28 rfl rfl rfl (by first | rfl | omega) (by omega) rfl) (hd 94 rfl) <| jo_g 89 rfl rfl (ly_is (ly_ldi one82 rfl rfl (by omega)) (show V.i .u64 _ = V.i .u64 (u.getD (n) 0) from congrArg (V.i .u64) (hat (n) (by omega)))) (hd 95 rfl) <| jo_g 89 rfl rfl (ly_le rfl rfl) (hd 96 rfl) <| jo_g 85 rfl rfl (ly_pick_t rfl rfl) (hd 97 rfl) <| jo_l (ly_pick_f rfl rfl) (hd 98 rfl) <| jo_nil ?_
              refine jc_if rfl (fun h6 => ?_) (fun h6 => ?_)
              · refine jc_exit ?_
                refine ⟨q, ?_, rfl, cov_n 81 rfl rfl ?_⟩
                · exact ⟨hd1, hd2, hd3, hP.last hE (by omega)⟩
                · exact (.cons rfl (.u (.u (.u (.u (.u (.u (.u (.u (.u (.u (.u (.u (.u (.u (.u (.u (.u (.u (.u (.u (.u (.u (.u (.u (.u (.u (.u (.u (.u (.u (.u (.u (.u (.u (.u (.u (.u (.u (.u (.u (.u (.u (.u (.u (.u (.u (.u .nil))))))))))))))))))))))))))))))))))))))))))))))))
              · refine jc_skip <| jc_seq ?_
                obtain ⟨hN, hq1⟩ := hP.next hE (by omega)
                obtain ⟨hN1, hN2, hN3, hN4, hN5⟩ := id hN
                refine jc_region <| zmv rfl (hd 99 rfl) <| jo_l (ly_sub rfl rfl (wrap_u64 (by first | omega | (dsimp only; omega)) (by first | omega | (dsimp only; omega)))) (hd 100 rfl) <| zas rfl (hd 6 rfl) <| jo_nil <| zsr <| zas rfl (hd 12 rfl) <| jo_nil <| zsr <| zmv rfl (hd 102 rfl) <| zmv rfl (hd 103 rfl) ?_; refine zmv rfl (hd 104 rfl) <| jo_l (ly_sub rfl rfl (r := ((n + 1 : Nat) : Int)) (by rw [wrap_i64 (by omega) (by omega)]; omega)) (hd 105 rfl) <| jo_l (ly_ian (i := n + 1) sl28 rfl rfl (by first | rfl | omega) (by omega)) (hd 106 rfl) <| jo_l (ly_ldq one82 rfl rfl) (hd 107 rfl) <| jo_h (hy_ext3 (e := add64Entry) Tryz.func111 rfl rfl (by kernel_rfl) (by kernel_rfl) rfl rfl rfl (fun w => run_add64 _ _ _ hE5 hy1.1 (by decide) (by decide) w) rel_pair) (hd 108 rfl) <| zmv rfl (hd 101 rfl) <| jo_l (ly_ext rfl rfl) (hd 109 rfl) <| jo_l (ly_ext rfl rfl) (hd 110 rfl) <| zas rfl (hd 7 rfl) <| zas rfl (hd 12 rfl) <| jo_nil <| jc_seq <| jc_region ?_; refine zmv rfl (hd 111 rfl) <| jo_l (ly_ne rfl rfl) (hd 112 rfl) <| jo_nil ?_
                refine jc_if rfl (fun h7 => ?_) (fun h7 => ?_)
                · refine jc_exit ?_
                  refine ⟨(q - 1), ?_, rfl, cov_n 99 rfl rfl ?_⟩
                  · exact ⟨hN2, hN3, hN4, hP.over hN (by omega)⟩
                  · exact (.cons rfl (.u (.u (.u (.u (.u (.u (.u (.u (.u (.u (.u (.u (.u (.u (.u (.u (.u (.u (.u (.u (.u (.u (.u (.u (.u (.u (.u (.u (.u (.u (.u (.u (.u (.u (.u (.u (.u (.u (.u (.u (.u (.u (.u (.u (.u (.u (.u .nil))))))))))))))))))))))))))))))))))))))))))))))))
                · refine jc_skip ?_
                  refine ⟨(q - 1, (r + v.getD (n + 1) 0 + 0) % 18446744073709551616), ?_, ?_, rfl, cov_n 99 rfl rfl ?_⟩
                  · have e : (r + v.getD (n + 1) 0 + 0) % 18446744073709551616 = r + v.getD (n + 1) 0 := by omega
                    exact ⟨hN2, hN3, hN4, fun _ => by show Est u v n (q - 1) ((r + v.getD (n + 1) 0 + 0) % 18446744073709551616) ∧ (r + v.getD (n + 1) 0 + 0) % 18446744073709551616 < _; rw [e]; exact ⟨hN, by omega⟩, fun h => absurd (hsf.symm.trans h) (by simp)⟩
                  · show (q - 1).toNat < q.toNat
                    omega
                  · exact (.cons rfl (.cons rfl (.u (.u (.u (.u (.u (.u (.u (.u (.u (.u (.u (.u (.u (.u (.u (.u (.u (.u (.u (.u (.u (.u (.u (.u (.u (.u (.u (.u (.u (.u (.u (.u (.u (.u (.u (.u (.u (.u (.u (.u (.u (.u (.u (.u (.u (.u .nil))))))))))))))))))))))))))))))))))))))))))))))))
            · refine jo_s 89 rfl rfl rfl (hd 90 rfl) <| jo_s 89 rfl rfl rfl (hd 91 rfl) <| jo_s 89 rfl rfl rfl (hd 92 rfl) <| jo_s 89 rfl rfl rfl (hd 93 rfl) <| jo_s 89 rfl rfl rfl (hd 94 rfl) <| jo_s 89 rfl rfl rfl (hd 95 rfl) <| jo_s 89 rfl rfl rfl (hd 96 rfl) <| jo_g 85 rfl rfl (ly_pick_f rfl rfl) (hd 97 rfl) <| jo_l (ly_pick_f rfl rfl) (hd 98 rfl) <| jo_nil <| jc_litf rfl <| jc_skip <| jc_seq ?_
              obtain ⟨hN, hq1⟩ := hP.next hE (by omega)
              obtain ⟨hN1, hN2, hN3, hN4, hN5⟩ := id hN
              refine jc_region <| zmv rfl (hd 99 rfl) <| jo_l (ly_sub rfl rfl (wrap_u64 (by first | omega | (dsimp only; omega)) (by first | omega | (dsimp only; omega)))) (hd 100 rfl) <| zas rfl (hd 6 rfl) <| jo_nil <| zsr <| zas rfl (hd 12 rfl) <| jo_nil <| zsr <| zmv rfl (hd 102 rfl) <| zmv rfl (hd 103 rfl) ?_; refine zmv rfl (hd 104 rfl) <| jo_l (ly_sub rfl rfl (r := ((n + 1 : Nat) : Int)) (by rw [wrap_i64 (by omega) (by omega)]; omega)) (hd 105 rfl) <| jo_l (ly_ian (i := n + 1) sl28 rfl rfl (by first | rfl | omega) (by omega)) (hd 106 rfl) <| jo_l (ly_ldq one82 rfl rfl) (hd 107 rfl) <| jo_h (hy_ext3 (e := add64Entry) Tryz.func111 rfl rfl (by kernel_rfl) (by kernel_rfl) rfl rfl rfl (fun w => run_add64 _ _ _ hE5 hy1.1 (by decide) (by decide) w) rel_pair) (hd 108 rfl) <| zmv rfl (hd 101 rfl) <| jo_l (ly_ext rfl rfl) (hd 109 rfl) <| jo_l (ly_ext rfl rfl) (hd 110 rfl) <| zas rfl (hd 7 rfl) <| zas rfl (hd 12 rfl) <| jo_nil <| jc_seq <| jc_region ?_; refine zmv rfl (hd 111 rfl) <| jo_l (ly_ne rfl rfl) (hd 112 rfl) <| jo_nil ?_
              refine jc_if rfl (fun h9 => ?_) (fun h9 => ?_)
              · refine jc_exit ?_
                refine ⟨(q - 1), ?_, rfl, cov_n 99 rfl rfl ?_⟩
                · exact ⟨hN2, hN3, hN4, hP.over hN (by omega)⟩
                · exact (.cons rfl (.u (.u (.u (.u (.u (.u (.u (.u (.u (.u (.u (.u (.u (.u (.u (.u (.u (.u (.u (.u (.u (.u (.u (.u (.u (.u (.u (.u (.u (.u (.u (.u (.u (.u (.u (.u (.u (.u (.u (.u (.u (.u (.u (.u (.u (.u (.u .nil))))))))))))))))))))))))))))))))))))))))))))))))
              · refine jc_skip ?_
                refine ⟨(q - 1, (r + v.getD (n + 1) 0 + 0) % 18446744073709551616), ?_, ?_, rfl, cov_n 99 rfl rfl ?_⟩
                · have e : (r + v.getD (n + 1) 0 + 0) % 18446744073709551616 = r + v.getD (n + 1) 0 := by omega
                  exact ⟨hN2, hN3, hN4, fun _ => by show Est u v n (q - 1) ((r + v.getD (n + 1) 0 + 0) % 18446744073709551616) ∧ (r + v.getD (n + 1) 0 + 0) % 18446744073709551616 < _; rw [e]; exact ⟨hN, by omega⟩, fun h => absurd (hsf.symm.trans h) (by simp)⟩
                · show (q - 1).toNat < q.toNat
                  omega
                · exact (.cons rfl (.cons rfl (.u (.u (.u (.u (.u (.u (.u (.u (.u (.u (.u (.u (.u (.u (.u (.u (.u (.u (.u (.u (.u (.u (.u (.u (.u (.u (.u (.u (.u (.u (.u (.u (.u (.u (.u (.u (.u (.u (.u (.u (.u (.u (.u (.u (.u (.u .nil))))))))))))))))))))))))))))))))))))))))))))))))
        · have hst : sure = true := by simpa using h2
          have hlast := hd5 hst
          refine jc_exit ?_
          refine ⟨q, ?_, rfl, cov_n 50 rfl rfl ?_⟩
          · exact ⟨hd1, hd2, hd3, hlast⟩
          · exact (.cons rfl (.u (.u (.u (.u (.u (.u (.u (.u (.u (.u (.u (.u (.u (.u (.u (.u (.u (.u (.u (.u (.u (.u (.u (.u (.u (.u (.u (.u (.u (.u (.u (.u (.u (.u (.u (.u (.u (.u (.u (.u (.u (.u (.u (.u (.u (.u (.u .nil))))))))))))))))))))))))))))))))))))))))))))))))
    · rintro q ⟨hq1, hq2, hq3, hq4⟩
      obtain ⟨hgQ, hgl, hgu, hgv⟩ := gs_end hP.uu hP.uv (by omega) hv0 hq2 hq3 hq1 hq4
      unfold gsQ at hgQ
      have hmB := msB_bd u v q
      have hum := msL_u hP.uu hP.uv hq2 hq3
      have hml0 := msL_len u v q
      refine jc_seq <| jc_H (H' := [⟨79, 1, 0, true, ints .u64 (rwJ U j (msN u v q 0).1)⟩, ⟨79, 1, 0, true, ints .u64 Q⟩]) (by show _ = [(⟨79, 1, 0, true, ints .u64 (rwJ U j [])⟩ : Ob), _]; rw [rwJ_0]) <| jc_region <| zas rfl (hd 13 rfl) <| zas rfl (hd 14 rfl) <| jo_nil <| jc_seq <| zsr <| zmv rfl (hd 113 rfl) <| jo_l (ly_lenn sl28 rfl) (hd 114 rfl) <| zmv rfl (hd 115 rfl) <| jo_nil ?_; refine jc_block ?_
      refine jc_loopF (G := Nat) (fun i => i ≤ v.length) (fun i => [(13, .i .u64 (msN u v q i).2.1), (14, .i .u64 (msN u v q i).2.2), (115, .i .i64 (i : Int)), (15, .u), (16, .u), (17, .u), (18, .u), (19, .u), (20, .u), (116, .u), (117, .u), (118, .u), (119, .u), (120, .u), (121, .u), (122, .u), (123, .u), (124, .u), (125, .u), (126, .u), (127, .u), (128, .u), (129, .u), (130, .u), (131, .u), (132, .u), (133, .u), (134, .u), (135, .u), (136, .u), (137, .u), (138, .u), (139, .u), (140, .u), (141, .u), (142, .u), (143, .u), (144, .u), (145, .u), (146, .u), (147, .u), (148, .u)]) (fun i => [⟨79, 1, 0, true, ints .u64 (rwJ U j (msN u v q i).1)⟩, ⟨79, 1, 0, true, ints .u64 Q⟩]) (fun i => v.length - i) 0 ?_ ?_ rfl ?_
      · exact Nat.zero_le _
      · exact (.cons rfl (.cons rfl (.cons rfl (.u (.u (.u (.u (.u (.u (.u (.u (.u (.u (.u (.u (.u (.u (.u (.u (.u (.u (.u (.u (.u (.u (.u (.u (.u (.u (.u (.u (.u (.u (.u (.u (.u (.u (.u (.u (.u (.u (.u .nil))))))))))))))))))))))))))))))))))))))))))
      · rintro i hi1
        have hml := msN_len u v q i
        have hf : (rwJ U j (msN u v q i).1).length = U.length := rwJ_len (by omega)
        have hc := msN_c (u := u) hP.uv hq2 hq3 i
        have hb := msN_b u v q i
        have hxi := u64s_getD hP.uu i
        have hyi := u64s_getD hP.uv i
        have hmp := mul_lt hyi.1 hyi.2 hq2 hq3
        refine zsr <| jo_l (ly_lt rfl rfl) (hd 116 rfl) <| jo_nil <| jc_seq ?_
        refine jc_if rfl (fun h10 => ?_) (fun h10 => ?_)
        · refine jc_skip <| jc_seq <| jc_block <| zsr <| zmv rfl (hd 117 rfl) <| jo_l (ly_ian (i := i) sl28 rfl rfl (by first | rfl | omega) (by omega)) (hd 118 rfl) <| jo_l (ly_ldq one82 rfl rfl) (hd 119 rfl) <| zas rfl (hd 15 rfl) <| zas rfl (hd 16 rfl) <| jo_nil <| jc_seq <| jc_region ?_; refine zmv rfl (hd 121 rfl) <| zmv rfl (hd 122 rfl) ?_
          refine jo_call Tryz.f128 (Mul64_s (v.getD i 0) q hyi.1 hyi.2 hq2 hq3) rfl Tryz.func128 rfl rfl (ovL_cons rfl (ovL_cons rfl ovL_nil)) (.cons .i (.cons .i .nil)) (hd 123 rfl) ?_ (fun ch hp => by simp at hp)
          rintro _ ⟨⟩; refine zmv rfl (hd 120 rfl) <| jo_l (ly_ext rfl rfl) (hd 124 rfl) <| jo_l (ly_ext rfl rfl) (hd 125 rfl) <| zas rfl (hd 17 rfl) <| zas rfl (hd 18 rfl) <| jo_nil <| zsr <| zmv rfl (hd 127 rfl) <| zmv rfl (hd 128 rfl) <| jo_h (hy_ext3 (e := add64Entry) Tryz.func111 rfl rfl (by kernel_rfl) (by kernel_rfl) rfl rfl rfl (fun w => run_add64 _ _ _ (Int.emod_nonneg _ (by decide)) hc.1 (by decide) (by decide) w) rel_pair) (hd 129 rfl) <| zmv rfl (hd 126 rfl) <| jo_l (ly_is (ly_ext rfl rfl) (show V.i .u64 _ = V.i .u64 (msS u v q i (msN u v q i).2.1) from congrArg (V.i .u64) (by unfold msS; rw [Int.add_zero]))) (hd 130 rfl) ?_; refine jo_l (ly_ext rfl rfl) (hd 131 rfl) <| zas rfl (hd 19 rfl) <| zas rfl (hd 20 rfl) <| jo_nil <| zsr <| zmv rfl (hd 132 rfl) <| zmv rfl (hd 133 rfl) <| jo_l (ly_add rfl rfl (r := msC v q i (msN u v q i).2.1) (by unfold msC; rw [Int.add_zero]; exact wrap_u64 (by omega) (by omega))) (hd 134 rfl) <| zas rfl (hd 13 rfl) <| jo_nil <| jc_region <| zmv rfl (hd 136 rfl) ?_; refine zmv rfl (hd 137 rfl) <| zmv rfl (hd 138 rfl) <| zmv rfl (hd 139 rfl) <| jo_l (ly_ia (i := i) sl28 rfl rfl rfl (by first | rfl | omega) (by omega) rfl) (hd 140 rfl) <| jo_l (ly_is (ly_ldi one82 rfl rfl (by omega)) (show V.i .u64 _ = V.i .u64 (u.getD i 0) from congrArg (V.i .u64) ((rwJ_at (by omega) (by omega)).trans (hat2 (i) (by omega))))) (hd 141 rfl) <| zmv rfl (hd 142 rfl) <| zmv rfl (hd 143 rfl) <| jo_h (hy_ext3 (e := sub64Entry) Tryz.func113 rfl rfl (by kernel_rfl) (by kernel_rfl) rfl rfl rfl (fun w => run_sub64 _ _ _ hxi.1 hxi.2 (by unfold msS; omega) (by unfold msS; omega) hb.1 hb.2 w) rel_pair) (hd 144 rfl) <| zmv rfl (hd 135 rfl) <| jo_l (ly_is (ly_ext rfl rfl) (show V.i .u64 _ = V.i .u64 (sbD (u.getD i 0) (msS u v q i (msN u v q i).2.1) (msN u v q i).2.2) from congrArg (V.i .u64) rfl)) (hd 145 rfl) <| jo_l (ly_is (ly_ext rfl rfl) (show V.i .u64 _ = V.i .u64 (sbB (u.getD i 0) (msS u v q i (msN u v q i).2.1) (msN u v q i).2.2) from congrArg (V.i .u64) rfl)) (hd 146 rfl) <| jo_l (ly_ia (i := i) sl28 rfl rfl rfl (by first | rfl | omega) (by omega) rfl) (hd 147 rfl) <| jo_st (sy_storei rfl rfl rfl one82 (by omega)) ?_; refine zas rfl (hd 14 rfl) <| jo_nil <| jc_region <| jo_l (ly_add rfl rfl (wrap_i64 (by omega) (by omega))) (hd 148 rfl) <| zmv rfl (hd 115 rfl) <| jo_nil ?_
          refine ⟨i + 1, ?_, ?_, (by show [(⟨79, 1, 0, true, ints .u64 _⟩ : Ob), _] = [⟨79, 1, 0, true, ints .u64 _⟩, _]; rw [ms_set (by omega)]), cov_n 84 rfl rfl ?_⟩
          · omega
          · omega
          · exact (.cons rfl (.cons rfl (.cons rfl (.u (.u (.u (.u (.u (.u (.u (.u (.u (.u (.u (.u (.u (.u (.u (.u (.u (.u (.u (.u (.u (.u (.u (.u (.u (.u (.u (.u (.u (.u (.u (.u (.u (.u (.u (.u (.u (.u (.u .nil))))))))))))))))))))))))))))))))))))))))))
        · obtain rfl : i = v.length := by omega
          refine jc_exit <| zsr <| zmv rfl (hd 150 rfl) <| zmv rfl (hd 151 rfl) <| zmv rfl (hd 152 rfl) <| zmv rfl (hd 153 rfl) <| jo_l (ly_ia (i := v.length) sl28 rfl rfl rfl (by first | rfl | omega) (by omega) rfl) (hd 154 rfl) <| jo_l (ly_is (ly_ldi one82 rfl rfl (by omega)) (show V.i .u64 _ = V.i .u64 (u.getD v.length 0) from congrArg (V.i .u64) ((rwJ_at (by omega) (by omega)).trans (hat2 (v.length) (by omega))))) (hd 155 rfl) <| zmv rfl (hd 156 rfl) <| zmv rfl (hd 157 rfl) <| jo_h (hy_ext3 (e := sub64Entry) Tryz.func113 rfl rfl (by kernel_rfl) (by kernel_rfl) rfl rfl rfl (fun w => run_sub64 _ _ _ hxi.1 hxi.2 hc.1 hc.2 hb.1 hb.2 w) rel_pair) (hd 158 rfl) <| zmv rfl (hd 149 rfl) ?_; refine jo_l (ly_is (ly_ext rfl rfl) (show V.i .u64 _ = V.i .u64 (sbD (u.getD v.length 0) (msN u v q v.length).2.1 (msN u v q v.length).2.2) from congrArg (V.i .u64) rfl)) (hd 159 rfl) <| jo_l (ly_is (ly_ext rfl rfl) (show V.i .u64 _ = V.i .u64 (msB u v q) from congrArg (V.i .u64) rfl)) (hd 160 rfl) <| jo_l (ly_ia (i := v.length) sl28 rfl rfl rfl (by first | rfl | omega) (by omega) rfl) (hd 161 rfl) <| jo_st (sy_storei rfl rfl rfl one82 (by omega)) <| zas rfl (hd 14 rfl) <| jo_nil <| jc_seq <| jc_seq <| jc_H (H' := [⟨79, 1, 0, true, ints .u64 (rwJ U j (msL u v q))⟩, ⟨79, 1, 0, true, ints .u64 Q⟩]) (by show [(⟨79, 1, 0, true, ints .u64 _⟩ : Ob), _] = [⟨79, 1, 0, true, ints .u64 _⟩, _]; rw [ml_row (by omega)]) ?_
          have hW : (rwJ U j (msL u v q)).length = U.length := rwJ_len (by omega)
          refine jc_region <| zmv rfl (hd 162 rfl) <| jo_l (ly_ne rfl rfl) (hd 163 rfl) <| jo_nil ?_
          refine jc_if rfl (fun h11 => ?_) (fun h11 => ?_)
          · have hb1 : msB u v q = 1 := by omega
            have hq9 : q - 1 = vl u / vl v := by omega
            have hgl2 : gsL u v q = bkL (msL u v q) v := if_neg (by omega)
            rw [hgl2] at hgl hgu hgv
            refine zsr <| zmv rfl (hd 164 rfl) <| jo_l (ly_sub rfl rfl (r := vl u / vl v) (by rw [hq9]; exact wrap_u64 (by omega) (by omega))) (hd 165 rfl) <| zas rfl (hd 6 rfl) <| jo_nil <| jc_seq <| jc_H (H' := [⟨79, 1, 0, true, ints .u64 (rwJ (rwJ U j (msL u v q)) j (adN (msL u v q) v 0).1)⟩, ⟨79, 1, 0, true, ints .u64 Q⟩]) (by show _ = [(⟨79, 1, 0, true, ints .u64 (rwJ (rwJ U j (msL u v q)) j [])⟩ : Ob), _]; rw [rwJ_0]) <| jc_region <| zas rfl (hd 21 rfl) <| jo_nil <| jc_seq <| jc_seq ?_; refine jc_region <| zmv rfl (hd 166 rfl) <| jo_l (ly_lenn sl28 rfl) (hd 167 rfl) <| zmv rfl (hd 168 rfl) <| jo_nil <| jc_block ?_
            refine jc_loopF (G := Nat) (fun i => i ≤ v.length) (fun i => [(21, .i .u64 (adN (msL u v q) v i).2), (168, .i .i64 (i : Int)), (22, .u), (23, .u), (169, .u), (170, .u), (171, .u), (172, .u), (173, .u), (174, .u), (175, .u), (176, .u), (177, .u), (178, .u), (179, .u), (180, .u), (181, .u), (182, .u), (183, .u), (184, .u), (185, .u), (186, .u)]) (fun i => [⟨79, 1, 0, true, ints .u64 (rwJ (rwJ U j (msL u v q)) j (adN (msL u v q) v i).1)⟩, ⟨79, 1, 0, true, ints .u64 Q⟩]) (fun i => v.length - i) 0 ?_ ?_ rfl ?_
            · exact Nat.zero_le _
            · exact (.cons rfl (.cons rfl (.u (.u (.u (.u (.u (.u (.u (.u (.u (.u (.u (.u (.u (.u (.u (.u (.u (.u (.u (.u .nil))))))))))))))))))))))
            · rintro i hi1
              have hal := adN_len (msL u v q) v i
              have hf2 : (rwJ (rwJ U j (msL u v q)) j (adN (msL u v q) v i).1).length = (rwJ U j (msL u v q)).length := rwJ_len (by omega)
              have hca := adN_c hum hP.uv i
              have hxa := u64s_getD hum i
              have hya := u64s_getD hP.uv i
              refine zsr <| jo_l (ly_lt rfl rfl) (hd 169 rfl) <| jo_nil <| jc_seq ?_
              refine jc_if rfl (fun h12 => ?_) (fun h12 => ?_)
              · refine jc_skip <| jc_seq <| jc_block <| zsr <| zmv rfl (hd 170 rfl) <| jo_l (ly_ian (i := i) sl28 rfl rfl (by first | rfl | omega) (by omega)) (hd 171 rfl) <| jo_l (ly_ldq one82 rfl rfl) (hd 172 rfl) <| zas rfl (hd 22 rfl) <| zas rfl (hd 23 rfl) <| jo_nil <| jc_region <| zmv rfl (hd 174 rfl) ?_; refine zmv rfl (hd 175 rfl) <| zmv rfl (hd 176 rfl) <| zmv rfl (hd 177 rfl) <| jo_l (ly_ia (i := i) sl28 rfl rfl rfl (by first | rfl | omega) (by omega) rfl) (hd 178 rfl) <| jo_l (ly_is (ly_ldi one82 rfl rfl (by omega)) (show V.i .u64 _ = V.i .u64 ((msL u v q).getD i 0) from congrArg (V.i .u64) ((rwJ_at (by omega) (by omega)).trans (rwJ_in' (by omega) (by omega))))) (hd 179 rfl) <| zmv rfl (hd 180 rfl) <| zmv rfl (hd 181 rfl) <| jo_h (hy_ext3 (e := add64Entry) Tryz.func111 rfl rfl (by kernel_rfl) (by kernel_rfl) rfl rfl rfl (fun w => run_add64 _ _ _ hxa.1 hya.1 hca.1 hca.2 w) rel_pair) (hd 182 rfl) <| zmv rfl (hd 173 rfl) <| jo_l (ly_ext rfl rfl) (hd 183 rfl) <| jo_l (ly_ext rfl rfl) (hd 184 rfl) <| jo_l (ly_ia (i := i) sl28 rfl rfl rfl (by first | rfl | omega) (by omega) rfl) (hd 185 rfl) <| jo_st (sy_storei rfl rfl rfl one82 (by omega)) ?_; refine zas rfl (hd 21 rfl) <| jo_nil <| jc_region <| jo_l (ly_add rfl rfl (wrap_i64 (by omega) (by omega))) (hd 186 rfl) <| zmv rfl (hd 168 rfl) <| jo_nil ?_
                refine ⟨i + 1, ?_, ?_, (by show [(⟨79, 1, 0, true, ints .u64 _⟩ : Ob), _] = [⟨79, 1, 0, true, ints .u64 _⟩, _]; rw [ad_set (by omega)]), cov_n 44 rfl rfl ?_⟩
                · omega
                · omega
                · exact (.cons rfl (.cons rfl (.u (.u (.u (.u (.u (.u (.u (.u (.u (.u (.u (.u (.u (.u (.u (.u (.u (.u (.u (.u .nil))))))))))))))))))))))
              · obtain rfl : i = v.length := by omega
                refine jc_exit <| jc_region <| zmv rfl (hd 187 rfl) <| zmv rfl (hd 188 rfl) <| jo_l (ly_ia (i := v.length) sl28 rfl rfl rfl (by first | rfl | omega) (by omega) rfl) (hd 189 rfl) <| jo_l (ly_is (ly_ldi one82 rfl rfl (by omega)) (show V.i .u64 _ = V.i .u64 ((msL u v q).getD v.length 0) from congrArg (V.i .u64) ((rwJ_at (by omega) (by omega)).trans (rwJ_in' (by omega) (by omega))))) (hd 190 rfl) <| zmv rfl (hd 191 rfl) <| jo_l (ly_is (ly_add rfl rfl rfl) (show V.i .u64 _ = V.i .u64 (((msL u v q).getD v.length 0 + (adN (msL u v q) v v.length).2) % 18446744073709551616) from congrArg (V.i .u64) u64_wrap_mod)) (hd 192 rfl) <| jo_l (ly_ia (i := v.length) sl28 rfl rfl rfl (by first | rfl | omega) (by omega) rfl) (hd 193 rfl) <| jo_st (sy_storei rfl rfl rfl one82 (by omega)) <| jo_nil <| jc_seq <| jc_region ?_; refine zmv rfl (hd 194 rfl) <| zas rfl (hd 4 rfl) <| jo_nil <| jc_ret ?_
                refine ⟨_, (.cons rfl .nil), rfl, (.cons ints_id (.cons ints_id .nil)), ?_⟩
                exact ⟨rfl, bkL (msL u v q) v, by show [(⟨79, 1, 0, true, ints .u64 _⟩ : Ob), _] = [⟨79, 1, 0, true, ints .u64 _⟩, _]; rw [bk_row (by omega) (by omega)], by omega, hgu, hgv⟩
          · have hb0 : msB u v q = 0 := by omega
            have hq9 : q = vl u / vl v := by omega
            have hgl2 : gsL u v q = msL u v q := if_pos hb0
            rw [hgl2] at hgl hgu hgv
            refine jc_skip <| zsr <| zmv rfl (hd 194 rfl) <| zas rfl (hd 4 rfl) <| jo_nil <| jc_ret ?_
            refine ⟨_, (.cons rfl .nil), rfl, (.cons ints_id (.cons ints_id .nil)), ?_⟩
            rw [← hq9]
            exact ⟨rfl, (msL u v q), rfl, by omega, hgu, hgv⟩

set_option maxRecDepth 100000 in
theorem divide_s (a b : List Int) (la : a.length < 4294967296) (lb : b.length < 4294967296) (ua : u64s a) (ub : u64s b) (ta : tpd a) (tb : tpd b) (hb : b ≠ []) : Spec Tryz.prog 80 [.n false .u64 a, .n false .u64 b] (fun o => o = .ret (.t [.n false .u64 (lm (vl a / vl b)), .n false .u64 (lm (vl a % vl b))])) := by
  refine spec_of' [(0, .n false .u64 a), (1, .n false .u64 b)] rfl Tryz.func80 rfl (zlb rfl) fun Γ hN hds hL hR => ?_
  have hd := hdOf 104 hN
  have hcv := cmpL_val ua ub
  have hb0 := vl_pos ub tb hb
  have hva := vl_nonneg ua
  refine zsr <| zas rfl (hd 4 rfl) <| zas rfl (hd 5 rfl) <| jo_nil <| jc_seq <| zsr <| zmv rfl (hd 15 rfl) <| zmv rfl (hd 16 rfl) ?_
  refine jo_call Tryz.f67 (Compare_s a b la lb) rfl Tryz.func67 rfl rfl (ovL_cons rfl (ovL_cons rfl ovL_nil)) (.cons .n (.cons .n .nil)) (hd 17 rfl) ?_ (fun ch hp => by simp at hp)
  rintro _ ⟨⟩; refine jo_l (ly_lt rfl rfl) (hd 18 rfl) <| jo_nil ?_
  refine jc_if rfl (fun h1 => ?_) (fun h1 => ?_)
  · have hlt : vl a < vl b := by rcases hcv with ⟨c, v⟩ | ⟨c, v⟩ | ⟨c, v⟩ <;> omega
    refine zsr <| zmv rfl (hd 19 rfl) <| zas rfl (hd 4 rfl) <| zas rfl (hd 5 rfl) <| jo_nil <| jc_ret ?_
    refine ⟨_, _, (.cons rfl (.cons rfl .nil)), (.t1 (.nil (fr := false) (k := .u64)) (.t1 .nn .t0)), ?_⟩
    rw [Int.ediv_eq_zero_of_lt hva hlt, Int.emod_eq_of_lt hva hlt, lm_0, lm_id ua ta]
  · have hge : vl b ≤ vl a := by rcases hcv with ⟨c, v⟩ | ⟨c, v⟩ | ⟨c, v⟩ <;> omega
    have hlen := kn_len ua ub tb hb hge
    refine jc_skip <| jc_seq <| zsr <| zmv rfl (hd 20 rfl) <| jo_l (ly_lenn sl28 rfl) (hd 21 rfl) <| jo_l (ly_eq rfl rfl) (hd 22 rfl) <| jo_nil ?_
    refine jc_if rfl (fun h2 => ?_) (fun h2 => ?_)
    · obtain ⟨d, rfl⟩ : ∃ d, b = [d] := List.length_eq_one_iff.1 (by omega)
      have hdb := ub d (List.mem_singleton.2 rfl)
      have hd0 := tpd_one tb
      have hdp : 0 < d := by omega
      have hvd : vl [d] = d := by simp [vl]
      refine zsr <| zmv rfl (hd 23 rfl) <| jo_l (ly_lenn sl28 rfl) (hd 24 rfl) <| jo_h (hy_mk (m := a.length) el28 rfl rfl rfl (by show 8 * a.length ≤ _; omega) (by unfold maxLen; omega) rfl) (hd 25 rfl) <| zas rfl (hd 6 rfl) <| zas rfl (hd 7 rfl) <| jo_nil <| jc_seq <| zsr <| zmv rfl (hd 26 rfl) <| jo_l (ly_lenn sl28 rfl) (hd 27 rfl) ?_; refine jo_l (ly_sub rfl rfl (wrap_i64 (by omega) (by omega))) (hd 28 rfl) <| zas rfl (hd 8 rfl) <| jo_nil <| jc_block <| jc_H (H' := [⟨79, 1, 0, true, ints .u64 (List.replicate a.length 0 ++ (dvN a d (a.length - a.length)).1)⟩]) (by rw [Nat.sub_self]; show _ = [(⟨79, 1, 0, true, ints .u64 (List.replicate a.length 0 ++ [])⟩ : Ob)]; rw [List.append_nil]; rfl) ?_
      refine jc_loopF (G := Nat) (fun k => k ≤ a.length) (fun k => [(7, .i .u64 (dvN a d (a.length - k)).2), (8, .i .i64 ((k : Int) - 1)), (29, .u), (30, .u), (31, .u), (32, .u), (33, .u), (34, .u), (35, .u), (36, .u), (37, .u), (38, .u), (39, .u), (40, .u), (41, .u), (42, .u), (43, .u), (44, .u), (45, .u), (46, .u), (47, .u)]) (fun k => [⟨79, 1, 0, true, ints .u64 (List.replicate k 0 ++ (dvN a d (a.length - k)).1)⟩]) (fun k => k) a.length ?_ ?_ rfl ?_
      · exact Nat.le_refl _
      · exact (.cons (by show some (V.i .u64 0) = some (V.i .u64 (dvN a d (a.length - a.length)).2); rw [Nat.sub_self]; rfl) (.cons rfl (.u (.u (.u (.u (.u (.u (.u (.u (.u (.u (.u (.u (.u (.u (.u (.u (.u (.u (.u .nil)))))))))))))))))))))
      · rintro k hc1
        have hr := dvN_r (a := a) hdp (a.length - k)
        have hx := u64s_getD ua (k - 1)
        refine jc_seq <| zsr <| zmv rfl (hd 29 rfl) <| jo_l (ly_ge rfl rfl) (hd 30 rfl) <| jo_nil ?_
        refine jc_if rfl (fun h3 => ?_) (fun h3 => ?_)
        · refine jc_skip <| jc_seq <| jc_block <| jc_draw (n := 17) _ rfl mixed <| zal 0 (lo_l (ly_mv rfl) (hd 34 rfl)) rfl <| zal 1 (lo_l (ly_mv rfl) (hd 35 rfl)) rfl <| zal2 2 [10, 11, 12, 13, 14, 15, 16] (lo_l (ly_mv rfl) (hd 36 rfl)) rfl <| zal2 3 [5, 6, 10, 11, 12, 13, 14, 15, 16] (lo_l (ly_mv rfl) (hd 37 rfl)) rfl <| zal2 4 [5, 6, 10, 11, 12, 13, 14, 15, 16] (lo_l (ly_mv rfl) (hd 38 rfl)) rfl <| zal2 5 [6, 10, 11, 12, 13, 14, 15, 16] (lo_l (ly_ian (i := k - 1) sl28 rfl rfl (by omega) (by omega)) (hd 39 rfl)) rfl <| zal2 6 [10, 11, 12, 13, 14, 15, 16] (lo_l (ly_ldq one82 rfl rfl) (hd 40 rfl)) rfl <| zal2 7 [8, 9, 10, 11, 12, 13, 14, 15, 16] (lo_l (ly_mv rfl) (hd 41 rfl)) rfl <| zal2 8 [9, 10, 11, 12, 13, 14, 15, 16] (lo_l (ly_ian (i := 0) sl28 rfl rfl rfl (by simp)) (hd 42 rfl)) rfl ?_; refine zal2 9 [10, 11, 12, 13, 14, 15, 16] (lo_l (ly_ldq one82 rfl rfl) (hd 43 rfl)) rfl ?_
          refine ja_1 10 ?_ rfl (by kernel_rfl)
          refine js_call Tryz.f105 (Div64_s (dvN a d (a.length - k)).2 (a.getD (k - 1) 0) d hr.1 hr.2 hx.1 hx.2 hdb.2) rfl Tryz.func105 rfl rfl (ovL_cons rfl (ovL_cons rfl (ovL_cons rfl ovL_nil))) (.cons .i (.cons .i (.cons .i .nil))) (hd 44 rfl) ?_ (fun ch hp => by simp at hp)
          rintro _ ⟨⟩; refine zal 11 (lo_l (ly_mv rfl) (hd 33 rfl)) rfl <| zal 12 (lo_l (ly_ext rfl rfl) (hd 45 rfl)) rfl <| zal 13 (lo_ext rfl rfl (hd 46 rfl)) rfl <| zal 14 (lo_l (ly_ia (i := k - 1) sl28 rfl rfl rfl (by omega) (by omega) rfl) (hd 47 rfl)) rfl ?_
          refine ja_1 15 ?_ rfl (by kernel_rfl)
          refine js_st (sy_storei rfl rfl rfl one82 (by simp only [List.length_append, List.length_replicate, dvN_len]; omega)) rfl <| zal 16 (lo_l (ly_as rfl) (hd 7 rfl)) rfl <| ja_nil (by kernel_rfl) <| jc_region <| zmv rfl (hd 31 rfl) <| jo_l (ly_sub rfl rfl (wrap_i64 (by omega) (by omega))) (hd 32 rfl) <| zas rfl (hd 8 rfl) <| jo_nil ?_
          refine ⟨k - 1, ?_, ?_, (by show [(⟨79, 1, 0, true, ints .u64 _⟩ : Ob)] = [⟨79, 1, 0, true, ints .u64 _⟩]; rw [dv_row (by omega), dv_step (by omega) hc1]), cov_n 42 rfl rfl ?_⟩
          · omega
          · omega
          · exact (.cons (by show some (V.i .u64 _) = some (V.i .u64 _); rw [dv_step (by omega) hc1]) (.cons (by show some (V.i .i64 _) = some (V.i .i64 _); congr 2; omega) (.u (.u (.u (.u (.u (.u (.u (.u (.u (.u (.u (.u (.u (.u (.u (.u (.u (.u (.u .nil)))))))))))))))))))))
        · obtain rfl : k = 0 := by omega
          refine jc_exit <| zsr <| jo_frz (k := .u64) (l := List.replicate 0 0 ++ (dvN a d (a.length - 0)).1) (l' := (dvN a d a.length).1) 6 rfl rfl (by simp [dvN_len]) (by rw [Nat.sub_zero, List.drop_zero]; show List.take _ (dvN a d a.length).1 = _; rw [List.take_of_length_le (by rw [dvN_len]; exact Nat.le_refl _)]) hL <| zmv rfl (hd 48 rfl) ?_
          refine jo_call Tryz.f51 (Norm_s (dvN a d a.length).1 (by rw [dvN_len]; omega)) rfl Tryz.func51 rfl rfl (ovL_cons rfl ovL_nil) (.cons .n .nil) (hd 49 rfl) ?_ (fun ch hp => by simp at hp)
          rintro _ ⟨⟩; refine zmv rfl (hd 50 rfl) ?_
          refine jo_call Tryz.f68 (From_s (dvN a d (a.length - 0)).2) rfl Tryz.func68 rfl rfl (ovL_cons rfl ovL_nil) (.cons .i .nil) (hd 51 rfl) ?_ (fun ch hp => by simp at hp)
          rintro _ ⟨⟩; refine zas rfl (hd 4 rfl) <| zas rfl (hd 5 rfl) <| jo_nil <| jc_ret ?_
          refine ⟨_, _, (.cons rfl (.cons rfl .nil)), (.t1 .nn (.t1 .nn .t0)), ?_⟩
          have hde := dv_end ua hdp
          rw [Nat.sub_zero, hde.2, fl_lm (Int.emod_nonneg _ (by omega)) (by have := Int.emod_lt_of_pos (vl a) hdp; omega), hde.1, hvd]
    · have hbl : 0 < b.length := List.length_pos_iff.2 hb
      obtain ⟨n, hn⟩ : ∃ n, b.length = n + 2 := ⟨b.length - 2, by omega⟩
      have htb := tb hb
      rw [hn, show n + 2 - 1 = n + 1 by omega] at htb
      have hbt := u64s_getD ub (n + 1)
      obtain ⟨s, hs⟩ : ∃ s : Nat, 64 - bl 64 (b.getD (n + 1) 0).toNat = s := ⟨_, rfl⟩
      have hz := lz_int (show 0 < b.getD (n + 1) 0 by omega) hbt.2
      rw [hs] at hz
      obtain ⟨s64, y0, y1⟩ := hz
      obtain ⟨v, hv⟩ : ∃ v, (upL b s).take b.length = v := ⟨_, rfl⟩
      have hv2 := up_cut s64 ub (by rw [hn]; exact y1) hb
      have uv : u64s v := hv ▸ u64s_take (upL_u s64 ub) _
      have hlv : v.length = n + 2 := by rw [← hv, List.length_take, upL_len]; omega
      rw [hv] at hv2
      have htop := kn_top ub uv tb hn hlv hv2
      have hul := upL_len a s
      refine jc_skip <| zsr <| zmv rfl (hd 52 rfl) <| zmv rfl (hd 53 rfl) <| jo_l (ly_lenn sl28 rfl) (hd 54 rfl) <| jo_l (ly_sub rfl rfl (r := ((n + 1 : Nat) : Int)) (by rw [wrap_i64 (by omega) (by omega)]; omega)) (hd 55 rfl) <| jo_l (ly_ian (i := n + 1) sl28 rfl rfl (by first | rfl | omega) (by omega)) (hd 56 rfl) <| jo_l (ly_is (ly_ldq one82 rfl rfl) (show V.i .u64 _ = V.i .u64 (((b.getD (n + 1) 0).toNat : Int)) from congrArg (V.i .u64) (Int.toNat_of_nonneg hbt.1).symm)) (hd 57 rfl) ?_
      refine jo_call Tryz.f106 (Lz_s (b.getD (n + 1) 0).toNat (by omega)) rfl Tryz.func106 rfl rfl (ovL_cons rfl ovL_nil) (.cons .i .nil) (hd 58 rfl) ?_ (fun ch hp => by simp at hp)
      rintro _ ⟨⟩; refine jo_l (ly_conv und3 und116 rfl (r := (s : Int)) (by rw [hs]; exact wrap_u64 (by omega) (by omega))) (hd 59 rfl) <| zas rfl (hd 9 rfl) <| jo_nil <| jc_seq <| jc_draw (n := 11) _ rfl mixed <| zal2 0 [2, 5, 8, 9, 10] (lo_l (ly_mv rfl) (hd 60 rfl)) rfl <| zal2 1 [2, 5, 8, 9, 10] (lo_l (ly_mv rfl) (hd 61 rfl)) rfl <| zal2 3 [5, 8, 9, 10] (lo_l (ly_mv rfl) (hd 63 rfl)) rfl <| zal2 4 [5, 8, 9, 10] (lo_l (ly_mv rfl) (hd 64 rfl)) rfl <| zal2 6 [7, 8, 10] (lo_l (ly_mv rfl) (hd 66 rfl)) rfl <| zal 7 (lo_l (ly_lenn sl28 rfl) (hd 67 rfl)) rfl ?_
      refine ja_1 2 ?_ rfl (by kernel_rfl)
      refine js_callN Tryz.f107 (up_n s a (by omega) s64 ua) (fun o G ⟨_, h⟩ => h ▸ idless_cons ints_id idless_nil) rfl Tryz.func107 rfl rfl (ovL_cons rfl (ovL_cons rfl ovL_nil)) (.cons .n (.cons .i .nil)) (hd 62 rfl) ?_ (fun ch G hp => by simp at hp)
      rintro y G ⟨hy, rfl⟩; injection hy with hy; subst hy
      show JA _ _ _ _ _ ((62, .o 0 0 0 (a.length + 1)) :: _) _ _
      refine ja_1 5 ?_ rfl (by kernel_rfl)
      refine js_call Tryz.f107 (up_s s b (by omega) s64 ub) rfl Tryz.func107 rfl rfl (ovL_cons rfl (ovL_cons rfl ovL_nil)) (.cons .n (.cons .i .nil)) (hd 65 rfl) ?_ (fun ch hp => by simp at hp)
      rintro _ ⟨⟩; refine zal 8 (lo_l (ly_is (ly_sln sl28 rfl bnd_none (bnd_some' rfl rfl) (.inl rfl) (by omega) (by rw [upL_len]; omega)) (show V.n _ .u64 _ = V.n _ .u64 v by rw [List.drop_zero, hv])) (hd 68 rfl)) rfl <| zal 9 (lo_l (ly_as rfl) (hd 10 rfl)) rfl <| zal 10 (lo_l (ly_as rfl) (hd 11 rfl)) rfl <| ja_nil (by kernel_rfl) <| zsr <| zmv rfl (hd 69 rfl) <| jo_l (ly_lenn sl28 rfl) (hd 70 rfl) <| zas rfl (hd 12 rfl) <| jo_nil <| zsr <| zmv rfl (hd 71 rfl) ?_; refine jo_l (ly_lenn sl28 rfl) (hd 72 rfl) <| zmv rfl (hd 73 rfl) <| jo_l (ly_sub rfl rfl (r := ((a.length - v.length : Nat) : Int)) (by rw [wrap_i64 (by omega) (by omega)]; omega)) (hd 74 rfl) <| jo_l (ly_add rfl rfl (r := ((a.length - v.length + 1 : Nat) : Int)) (by rw [wrap_i64 (by omega) (by omega)]; omega)) (hd 75 rfl) <| jo_h (hy_mk (m := a.length - v.length + 1) el28 rfl rfl rfl (by show 8 * (a.length - v.length + 1) ≤ _; omega) (by unfold maxLen; omega) rfl) (hd 76 rfl) <| zas rfl (hd 13 rfl) <| jo_nil <| jc_seq <| zsr <| zmv rfl (hd 77 rfl) <| jo_l (ly_lenn sl28 rfl) (hd 78 rfl) <| zmv rfl (hd 79 rfl) ?_; refine jo_l (ly_sub rfl rfl (r := ((a.length - v.length : Nat) : Int)) (by rw [wrap_i64 (by omega) (by omega)]; omega)) (hd 80 rfl) <| zas rfl (hd 14 rfl) <| jo_nil <| jc_block <| jc_H (H' := [⟨79, 1, 0, true, ints .u64 (upL a s)⟩, ⟨79, 1, 0, true, ints .u64 (List.replicate (a.length - b.length + 1) 0 ++ [])⟩]) (by rw [List.append_nil, hn, ← hlv]; rfl) ?_
      refine jc_loopF (G := Nat × List Int × List Int) (fun g => g.1 ≤ a.length - b.length + 1 ∧ Kn (vl a * 2 ^ s) v (a.length + 1) g.1 g.2.1 g.2.2 ∧ g.2.2.length = a.length - b.length + 1 - g.1) (fun g => [(14, .i .i64 ((g.1 : Int) - 1)), (81, .u), (82, .u), (83, .u), (84, .u), (85, .u), (86, .u), (87, .u), (88, .u), (89, .u), (90, .u), (91, .u), (92, .u), (93, .u), (94, .u), (95, .u), (96, .u)]) (fun g => [⟨79, 1, 0, true, ints .u64 g.2.1⟩, ⟨79, 1, 0, true, ints .u64 (List.replicate g.1 0 ++ g.2.2)⟩]) (fun g => g.1) (a.length - b.length + 1, upL a s, []) ?_ ?_ rfl ?_
      · exact ⟨Nat.le_refl _, kn_start s64 ua ub tb hb hv2 hlen, by show 0 = _; omega⟩
      · exact (.cons (by show some (V.i .i64 _) = some (V.i .i64 _); congr 2; omega) (.u (.u (.u (.u (.u (.u (.u (.u (.u (.u (.u (.u (.u (.u (.u (.u .nil)))))))))))))))))
      · rintro ⟨k, U, Qs⟩ ⟨hk, hK, hQl⟩
        dsimp only at hk hK hQl
        refine jc_seq <| zsr <| zmv rfl (hd 81 rfl) <| jo_l (ly_ge rfl rfl) (hd 82 rfl) <| jo_nil ?_
        refine jc_if rfl (fun h4 => ?_) (fun h4 => ?_)
        · obtain ⟨k, rfl⟩ : ∃ m, k = m + 1 := ⟨k - 1, by omega⟩
          have hG := hK.gup uv hlv htop (by omega)
          have hKl := hK.lu
          refine jc_skip <| jc_seq <| jc_block <| jc_region <| zmv rfl (hd 85 rfl) <| zmv rfl (hd 86 rfl) <| zmv rfl (hd 87 rfl) <| zmv rfl (hd 88 rfl) <| zmv rfl (hd 89 rfl) <| zmv rfl (hd 90 rfl) <| jo_l (ly_add rfl rfl (r := ((k + v.length : Nat) : Int)) (by rw [wrap_i64 (by omega) (by omega)]; omega)) (hd 91 rfl) <| jo_l (ly_add rfl rfl (r := ((k + v.length + 1 : Nat) : Int)) (by rw [wrap_i64 (by omega) (by omega)]; omega)) (hd 92 rfl) <| jo_l (ly_slo (l := k) (h := k + (n + 3)) (r := k) (n := n + 3) sl28 rfl rfl (bnd_some' rfl (by omega)) (bnd_some' rfl (by omega)) (by omega) (by omega) (by omega) (by omega)) (hd 93 rfl) ?_; refine zmv rfl (hd 94 rfl) ?_
          refine jo_callM Tryz.f108 (guess_s U (slJ U k (n + 3)) v (List.replicate (k + 1) 0 ++ Qs) k n (by omega) (by omega) hK.uu rfl hG) rfl Tryz.func108 rfl rfl (ovL_cons rfl (ovL_cons rfl ovL_nil)) (.cons (.same rfl) (.cons .n .nil)) (freshless_cons ints_noFr (freshless_cons ints_noFr freshless_nil)) (hd 95 rfl) ?_ (fun ch H2 hp => by simp at hp)
          rintro y H2 ⟨hy, r, rfl, hrl, hru, hrv⟩; injection hy with hy; subst hy; refine jo_l (ly_ia (i := k) sl28 rfl rfl rfl (by omega) (by omega) rfl) (hd 96 rfl) <| jo_st (sy_storei rfl rfl rfl one82 (by simp only [List.length_append, List.length_replicate]; omega)) <| jo_nil <| jc_region <| zmv rfl (hd 83 rfl) <| jo_l (ly_sub rfl rfl (wrap_i64 (by omega) (by omega))) (hd 84 rfl) <| zas rfl (hd 14 rfl) <| jo_nil ?_
          refine ⟨(k, rwJ U k r, vl (slJ U k (n + 3)) / vl v :: Qs), ?_, ?_, (by show [_, (⟨79, 1, 0, true, ints .u64 _⟩ : Ob)] = [_, ⟨79, 1, 0, true, ints .u64 _⟩]; rw [dv_row']), cov_n 34 rfl rfl ?_⟩
          · exact ⟨by show k ≤ _; omega, hK.next hG (by omega) hrl hru hrv, by show (_ :: Qs).length = _; rw [List.length_cons]; omega⟩
          · show k < k + 1
            omega
          · exact (.cons (by show some (V.i .i64 _) = some (V.i .i64 _); congr 2; omega) (.u (.u (.u (.u (.u (.u (.u (.u (.u (.u (.u (.u (.u (.u (.u (.u .nil)))))))))))))))))
        · obtain rfl : k = 0 := by omega
          have hKl := hK.lu
          obtain ⟨hf1, hf2, hf3⟩ := hK.fin s64 hv2 hb0 ua uv (by omega)
          refine jc_exit <| jc_seq <| jc_frz (k := .u64) (l := List.replicate 0 0 ++ Qs) (l' := Qs) 13 rfl rfl (by simp only [List.length_append, List.length_replicate]; omega) (by rw [List.drop_zero]; show List.take _ Qs = _; rw [List.take_of_length_le (by omega)]) hL <| jc_frz (k := .u64) (l := U) (l' := U) 10 rfl rfl (by omega) (by rw [List.drop_zero, List.take_of_length_le (by omega)]) hL <| jc_draw (n := 9) _ rfl mixed <| zal2 0 [1, 6, 7, 8] (lo_l (ly_mv rfl) (hd 97 rfl)) rfl <| zal2 2 [4, 6, 7, 8] (lo_l (ly_mv rfl) (hd 99 rfl)) rfl <| zal2 3 [4, 6, 7, 8] (lo_l (ly_mv rfl) (hd 100 rfl)) rfl <| zal2 4 [6, 7, 8] (lo_l (ly_is (ly_sln sl28 rfl bnd_none (bnd_some' rfl rfl) (.inl rfl) (by omega) (by omega)) (show V.n _ .u64 _ = V.n _ .u64 (U.take v.length) by rw [List.drop_zero])) (hd 101 rfl)) rfl <| zal2 5 [6, 7, 8] (lo_l (ly_mv rfl) (hd 102 rfl)) rfl ?_
          refine ja_1 1 ?_ rfl (by kernel_rfl)
          refine js_call Tryz.f51 (Norm_s Qs (by omega)) rfl Tryz.func51 rfl rfl (ovL_cons rfl ovL_nil) (.cons .n .nil) (hd 98 rfl) ?_ (fun ch hp => by simp at hp)
          rintro y hy; injection hy with hy; subst hy
          refine ja_1 6 ?_ rfl (by kernel_rfl)
          refine js_call Tryz.f109 (div_down_s s (U.take v.length) (by rw [List.length_take]; omega) s64 (u64s_take hK.uu _)) rfl Tryz.func109 rfl rfl (ovL_cons rfl (ovL_cons rfl ovL_nil)) (.cons .n (.cons .i .nil)) (hd 103 rfl) ?_ (fun ch hp => by simp at hp)
          rintro _ ⟨⟩; refine zal 7 (lo_l (ly_as rfl) (hd 4 rfl)) rfl <| zal 8 (lo_l (ly_as rfl) (hd 5 rfl)) rfl <| ja_nil (by kernel_rfl) <| jc_ret ?_
          refine ⟨_, _, (.cons rfl (.cons rfl .nil)), (.t1 .nn (.t1 .nn .t0)), ?_⟩
          rw [hf1, hf3]

theorem Norm_v (v : Int) (hl : (lm v).length < 1099511627776) : Spec Tryz.prog 51 [.n false .u64 (lm v)] (fun o => o = .ret (.n true .u64 (lm v))) := by
  have h := Norm_s (lm v) hl
  rwa [trm_id (lm_t v)] at h
theorem Length_v (v : Int) (hl : (lm v).length < 1099511627776) : Spec Tryz.prog 39 [.n false .u64 (lm v)] (fun o => o = .ret (.i .i64 (lenV v : Int))) := by
  have h := Length_s (lm v) hl (lm_u v)
  rwa [lenN_lm] at h
theorem Compare_v (v w : Int) (hv : (lm v).length < 4294967296) (hw : (lm w).length < 4294967296) : Spec Tryz.prog 67 [.n false .u64 (lm v), .n false .u64 (lm w)] (fun o => o = .ret (.i .i64 (cmpI v.natAbs w.natAbs))) := by
  have h := Compare_s (lm v) (lm w) hv hw
  rw [trm_id (lm_t v), trm_id (lm_t w)] at h
  have e : cmpL (lm v) (lm w) = cmpI v.natAbs w.natAbs := cmpL_digs (by decide) _ _
  rwa [e] at h
theorem divide_v (v w : Int) (hv : (lm v).length < 4294967296) (hw : (lm w).length < 4294967296) (h0 : w ≠ 0) : Spec Tryz.prog 80 [.n false .u64 (lm v), .n false .u64 (lm w)] (fun o => o = .ret (.t [.n false .u64 (lm (qn v w)), .n false .u64 (lm (rn v w))])) := by
  have h := divide_s (lm v) (lm w) hv hw (lm_u v) (lm_u w) (lm_t v) (lm_t w) (lm_ne h0)
  rwa [lm_v, lm_v] at h
theorem Both_v (v w : Int) (hv : lenV v ≤ 67108864) (hw : lenV w ≤ 67108864) (h0 : w ≠ 0) : Spec Tryz.prog 121 [.n false .u64 (lm v), .n false .u64 (lm w)] (fun o => o = .ret (.t [.n false .u64 (lm (qn v w)), .n false .u64 (lm (rn v w)), .i .i64 0])) := by
  refine spec_of' [(0, .n false .u64 (lm v)), (1, .n false .u64 (lm w))] rfl Tryz.func121 rfl (zlb rfl) fun Γ hN hds hL hR => ?_
  have hd := hdOf 32 hN
  have hlv := lenV_lm hv
  have hlw := lenV_lm hw
  have hle := lenV_mono (v := qn v w) (w := v) qn_le
  have hlr := lenV_mono (v := rn v w) (w := w) (rn_le h0).1
  have hlq := lenV_lm (v := qn v w) (by omega)
  have hlR := lenV_lm (v := rn v w) (by omega)
  have hne := lm_ne h0
  refine zsr <| zas rfl (hd 4 rfl) <| zas rfl (hd 5 rfl) <| zas rfl (hd 6 rfl) <| jo_nil <| zsr <| zmv rfl (hd 9 rfl) ?_
  refine jo_call Tryz.f51 (Norm_v v (by omega)) rfl Tryz.func51 rfl rfl (ovL_cons rfl ovL_nil) (.cons .n .nil) (hd 10 rfl) ?_ (fun ch hp => by simp at hp)
  rintro _ ⟨⟩; refine zmv rfl (hd 11 rfl) ?_
  refine jo_call Tryz.f51 (Norm_v w (by omega)) rfl Tryz.func51 rfl rfl (ovL_cons rfl ovL_nil) (.cons .n .nil) (hd 12 rfl) ?_ (fun ch hp => by simp at hp)
  rintro _ ⟨⟩; refine zas rfl (hd 0 rfl) <| zas rfl (hd 1 rfl) <| jo_nil <| jc_seq <| zsr <| zmv rfl (hd 13 rfl) <| jo_l (ly_lenn sl28 rfl) (hd 14 rfl) <| jo_l (ly_ff (ly_eq rfl rfl) (fun h => hne (List.eq_nil_of_length_eq_zero (by omega)))) (hd 15 rfl) <| jo_nil <| jc_litf rfl <| jc_skip <| jc_seq ?_; refine jc_region <| zmv rfl (hd 17 rfl) <| zmv rfl (hd 18 rfl) ?_
  refine jo_call Tryz.f80 (divide_v v w (by omega) (by omega) h0) rfl Tryz.func80 rfl rfl (ovL_cons rfl (ovL_cons rfl ovL_nil)) (.cons .n (.cons .n .nil)) (hd 19 rfl) ?_ (fun ch hp => by simp at hp)
  rintro _ ⟨⟩; refine zmv rfl (hd 16 rfl) <| jo_l (ly_ext rfl rfl) (hd 20 rfl) <| jo_l (ly_ext rfl rfl) (hd 21 rfl) <| zas rfl (hd 7 rfl) <| zas rfl (hd 8 rfl) <| jo_nil <| jc_seq <| zsr <| zmv rfl (hd 22 rfl) ?_
  refine jo_call Tryz.f39 (Length_v (qn v w) (by omega)) rfl Tryz.func39 rfl rfl (ovL_cons rfl ovL_nil) (.cons .n .nil) (hd 23 rfl) ?_ (fun ch hp => by simp at hp)
  rintro _ ⟨⟩; refine jo_l (ly_ff (ly_gt rfl rfl) (by omega)) (hd 24 rfl) <| zmv rfl (hd 25 rfl) <| jo_g 25 rfl rfl (ly_mv rfl) (hd 26 rfl) ?_
  refine jo_callg Tryz.f39 25 rfl rfl (Length_v (rn v w) (by omega)) rfl Tryz.func39 rfl rfl (ovL_cons rfl ovL_nil) (.cons .n .nil) (hd 27 rfl) ?_ (fun ch hp => by simp at hp)
  rintro _ ⟨⟩; refine jo_g 25 rfl rfl (ly_ff (ly_gt rfl rfl) (by omega)) (hd 28 rfl) <| jo_l (ly_pick_f rfl rfl) (hd 29 rfl) <| jo_nil <| jc_litf rfl <| jc_skip <| zsr <| zmv rfl (hd 30 rfl) <| zmv rfl (hd 31 rfl) <| zas rfl (hd 4 rfl) <| zas rfl (hd 5 rfl) <| zas rfl (hd 6 rfl) <| jo_nil ?_; refine jc_ret ?_
  refine ⟨_, _, (.cons rfl (.cons rfl (.cons rfl .nil))), (.t1 .n (.t1 .n (.t1 .i .t0))), ?_⟩
  exact rfl



end Go.Proofs.YtpldmajdiljoaaaGreat.Vc
