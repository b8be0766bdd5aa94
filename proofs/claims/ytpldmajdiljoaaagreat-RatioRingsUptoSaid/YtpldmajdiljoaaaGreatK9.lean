/- RatioRings: for every two rationals of bulk at most 1048576 it returns true Texts joined: Xm, Xn, Xo, Xr, Rb, Xs. -/
import Derived.Test.YtpldmajdiljoaaaGreatK8
set_option linter.unusedVariables false
set_option linter.unusedSimpArgs false
set_option maxHeartbeats 4000000
namespace Go.Proofs.YtpldmajdiljoaaaGreat.Vc
open Go Go.RowKit
theorem rGcd_v (x y : Nat) (hdx : (digs B32 x).length < 4294967296) (hdy : (digs B32 y).length < 4294967296) : Spec Tryz.prog 96 [.n false .u64 (digs B32 x), .n false .u64 (digs B32 y)] (fun o => o = .ret (.n false .u64 (digs B32 (Nat.gcd x y)))) := by
  refine spec_of' [(0, .n false .u64 (digs B32 x)), (1, .n false .u64 (digs B32 y))] rfl Tryz.func96 rfl (zlb rfl) fun Γ hN hds hL hR => ?_
  have hd := hdOf 19 hN
  refine zsr <| zas rfl (hd 4 rfl) <| jo_nil <| jc_seq <| jc_block ?_
  refine jc_loopF (G := Nat × Nat) (fun g => Nat.gcd g.1 g.2 = Nat.gcd x y ∧ (digs B32 g.1).length < 4294967296 ∧ (digs B32 g.2).length < 4294967296) (fun g => [(0, .n false .u64 (digs B32 g.1)), (1, .n false .u64 (digs B32 g.2)), (5, .u), (6, .u), (7, .u), (8, .u), (9, .u), (10, .u), (11, .u), (12, .u), (13, .u), (14, .u), (15, .u), (16, .u), (17, .u)]) (fun _ => _) (fun g => g.2) (x, y) ?_ ?_ rfl ?_
  · exact ⟨rfl, hdx, hdy⟩
  · exact (.cons rfl (.cons rfl (.u (.u (.u (.u (.u (.u (.u (.u (.u (.u (.u (.u (.u .nil)))))))))))))))
  · rintro ⟨u, v⟩ ⟨hc1, hc2, hc3⟩
    dsimp only at hc1 hc2 hc3 ⊢
    have hl0 := @dl0 v
    refine jc_seq <| zsr <| zmv rfl (hd 7 rfl) ?_
    refine jo_call Tryz.f26 (Zero_s (digs B32 v)) rfl Tryz.func26 rfl rfl (ovL_cons rfl ovL_nil) (.cons .n .nil) (hd 8 rfl) ?_ (fun ch hp => by simp at hp)
    rintro _ ⟨⟩; refine jo_l (ly_not rfl) (hd 9 rfl) <| jo_nil ?_
    refine jc_ifn rfl (fun h1 => ?_) (fun h1 => ?_)
    · have hv0 : v ≠ 0 := fun e => h1 (by have := hl0.2 e; omega)
      refine jc_skip <| jc_block <| zsr <| zmv rfl (hd 11 rfl) <| zmv rfl (hd 12 rfl) ?_
      refine jo_call Tryz.f97 (rDiv_s u v hc2 hc3 (by omega)) rfl Tryz.func97 rfl rfl (ovL_cons rfl (ovL_cons rfl ovL_nil)) (.cons .n (.cons .n .nil)) (hd 13 rfl) ?_ (fun ch hp => by simp at hp)
      rintro _ ⟨⟩; refine zmv rfl (hd 10 rfl) <| jo_l (ly_ext rfl rfl) (hd 14 rfl) <| jo_l (ly_ext rfl rfl) (hd 15 rfl) <| zas rfl (hd 5 rfl) <| zas rfl (hd 6 rfl) <| jo_nil <| jc_region <| zmv rfl (hd 16 rfl) <| zmv rfl (hd 17 rfl) <| zas rfl (hd 0 rfl) <| zas rfl (hd 1 rfl) <| jo_nil ?_
      refine ⟨(v, u % v), ?_, ?_, rfl, cov_n 30 rfl rfl ?_⟩
      · exact ⟨by rw [← hc1]; exact gcd_step, hc3, Nat.lt_of_le_of_lt (dl_mono (Nat.mod_le u v)) hc2⟩
      · exact Nat.mod_lt _ (by omega)
      · exact (.cons rfl (.cons rfl (.u (.u (.u (.u (.u (.u (.u (.u (.u (.u (.u (.u (.u .nil)))))))))))))))
    · have hv0 : v = 0 := hl0.1 (by omega)
      subst hv0
      rw [Nat.gcd_zero_right] at hc1
      refine jc_exit <| zsr <| zmv rfl (hd 18 rfl) <| zas rfl (hd 4 rfl) <| jo_nil <| jc_ret ?_
      refine ⟨_, _, (.cons rfl .nil), .n, ?_⟩
      rw [← hc1]

theorem rMake_0 (b : Bool) (y : Nat) (h0 : y ≠ 0) : Spec Tryz.prog 57 [.b b, .n false .u64 (digs B32 0), .n false .u64 (digs B32 y)] (fun o => o = .ret (.a [.b (sgq b 0), .n false .u64 (digs B32 (rn0 0 y)), .n false .u64 (digs B32 (rd0 0 y))])) := by
  refine spec_of' [(0, .b b), (1, .n false .u64 (digs B32 0)), (2, .n false .u64 (digs B32 y))] rfl Tryz.func57 rfl (zlb rfl) fun Γ hN hds hL hR => ?_
  have hd := hdOf 31 hN
  have hI1 : Spec Tryz.prog 95 [.i .i64 1] (fun o => o = .ret (.n false .u64 (digs B32 1))) := by have h := rInt_s ((1 : Nat) : Int) (by decide) (by decide); rw [rInt_v (v := 1) (by decide)] at h; exact h
  have hZe : Spec Tryz.prog 26 [.n false .u64 (digs B32 0)] (fun o => o = .ret (.b true)) := by have h := Zero_s (digs B32 0); rwa [decide_eq_true (by rw [digs_0]; rfl)] at h
  refine zsr <| jo_h (hy_alloc (id := 0) zero1030 (by decide) rfl (by decide) rfl) (hd 6 rfl) <| jo_nil <| jc_seq <| zsr <| zmv rfl (hd 8 rfl) ?_
  refine jo_call Tryz.f26 (hZe) rfl Tryz.func26 rfl rfl (ovL_cons rfl ovL_nil) (.cons .n .nil) (hd 9 rfl) ?_ (fun ch hp => by simp at hp)
  rintro _ ⟨⟩; refine jo_nil <| jc_litt rfl <| jc_seq <| jc_region ?_
  refine jo_call Tryz.f95 (hI1) rfl Tryz.func95 rfl rfl (ovL_cons rfl ovL_nil) (.cons .i .nil) (hd 10 rfl) ?_ (fun ch hp => by simp at hp)
  rintro _ ⟨⟩; refine jo_l (ly_build (is := [2]) (xs := [.tmp 10]) zero1030 pls1030_2 rfl (ovL_cons rfl ovL_nil) rfl (by first | (simp [plsOk, cellsV]; done) | (simp [plsOk, cellsV, old]; done)) (all_of rfl) rfl) (hd 11 rfl) <| jo_st (sy_store rfl rfl rfl siz1030 rfl rfl (zlb rfl)) <| jo_nil <| jc_ret ?_
  refine ⟨_, _, (.cons (ResV.cell agg1030 rfl rfl rfl rfl) .nil), (.a1 .b (.a1 (.nil (fr := false) (k := .u64)) (.a1 .n .a0))), ?_⟩
  rw [sgq_0, rn0_0, rd0_0 h0, digs_0]

theorem rMake_p (b : Bool) (x y : Nat) (hdx : (digs B32 x).length < 4294967296) (hdy : (digs B32 y).length < 4294967296) (h0 : y ≠ 0) (h1 : x ≠ 0) : Spec Tryz.prog 57 [.b b, .n false .u64 (digs B32 x), .n false .u64 (digs B32 y)] (fun o => o = .ret (.a [.b (sgq b x), .n false .u64 (digs B32 (rn0 x y)), .n false .u64 (digs B32 (rd0 x y))])) := by
  refine spec_of' [(0, .b b), (1, .n false .u64 (digs B32 x)), (2, .n false .u64 (digs B32 y))] rfl Tryz.func57 rfl (zlb rfl) fun Γ hN hds hL hR => ?_
  have hd := hdOf 31 hN
  have hl0 := @dl0 x
  have hgl : (digs B32 (Nat.gcd x y)).length < 4294967296 := Nat.lt_of_le_of_lt (dl_mono (Nat.le_of_dvd (by omega) (Nat.gcd_dvd_right x y))) hdy
  have hg0 := gcd_pos' (x := x) h0
  have hZe : Spec Tryz.prog 26 [.n false .u64 (digs B32 x)] (fun o => o = .ret (.b false)) := by have h := Zero_s (digs B32 x); rwa [decide_eq_false (by have := @dl0 x; omega)] at h
  refine zsr <| jo_h (hy_alloc (id := 0) zero1030 (by decide) rfl (by decide) rfl) (hd 6 rfl) <| jo_nil <| jc_seq <| zsr <| zmv rfl (hd 8 rfl) ?_
  refine jo_call Tryz.f26 (hZe) rfl Tryz.func26 rfl rfl (ovL_cons rfl ovL_nil) (.cons .n .nil) (hd 9 rfl) ?_ (fun ch hp => by simp at hp)
  rintro _ ⟨⟩; refine jo_nil <| jc_litf rfl <| jc_skip <| zsr <| zmv rfl (hd 12 rfl) <| zmv rfl (hd 13 rfl) ?_
  refine jo_call Tryz.f96 (rGcd_v x y hdx hdy) rfl Tryz.func96 rfl rfl (ovL_cons rfl (ovL_cons rfl ovL_nil)) (.cons .n (.cons .n .nil)) (hd 14 rfl) ?_ (fun ch hp => by simp at hp)
  rintro _ ⟨⟩; refine zas rfl (hd 7 rfl) <| jo_nil <| zsr <| zmv rfl (hd 16 rfl) <| zmv rfl (hd 17 rfl) ?_
  refine jo_call Tryz.f97 (rDiv_s x (Nat.gcd x y) hdx hgl hg0) rfl Tryz.func97 rfl rfl (ovL_cons rfl (ovL_cons rfl ovL_nil)) (.cons .n (.cons .n .nil)) (hd 18 rfl) ?_ (fun ch hp => by simp at hp)
  rintro _ ⟨⟩; refine zmv rfl (hd 15 rfl) <| jo_l (ly_ext rfl rfl) (hd 19 rfl) <| jo_l (ly_ext rfl rfl) (hd 20 rfl) <| zas rfl (hd 1 rfl) <| jo_nil <| zsr <| zmv rfl (hd 22 rfl) <| zmv rfl (hd 23 rfl) ?_
  refine jo_call Tryz.f97 (rDiv_s y (Nat.gcd x y) hdy hgl hg0) rfl Tryz.func97 rfl rfl (ovL_cons rfl (ovL_cons rfl ovL_nil)) (.cons .n (.cons .n .nil)) (hd 24 rfl) ?_ (fun ch hp => by simp at hp)
  rintro _ ⟨⟩; refine zmv rfl (hd 21 rfl) <| jo_l (ly_ext rfl rfl) (hd 25 rfl) <| jo_l (ly_ext rfl rfl) (hd 26 rfl) <| zas rfl (hd 2 rfl) <| jo_nil <| zsr <| zmv rfl (hd 27 rfl) <| zmv rfl (hd 28 rfl) <| zmv rfl (hd 29 rfl) <| jo_l (ly_build (is := [0, 1, 2]) (xs := [.tmp 27, .tmp 28, .tmp 29]) zero1030 pls1030_0_1_2 rfl (ovL_cons rfl (ovL_cons rfl (ovL_cons rfl ovL_nil))) rfl (by first | (simp [plsOk, cellsV]; done) | (simp [plsOk, cellsV, old]; done)) (all_of rfl) rfl) (hd 30 rfl) <| jo_st (sy_store rfl rfl rfl siz1030 rfl rfl (zlb rfl)) <| jo_nil ?_; refine jc_ret ?_
  refine ⟨_, _, (.cons (ResV.cell agg1030 rfl rfl rfl rfl) .nil), (.a1 .b (.a1 .n (.a1 .n .a0))), ?_⟩
  rw [sgq_p h1]
  rfl

theorem rMake_s (b : Bool) (x y : Nat) (hdx : (digs B32 x).length < 4294967296) (hdy : (digs B32 y).length < 4294967296) (h0 : y ≠ 0) : Spec Tryz.prog 57 [.b b, .n false .u64 (digs B32 x), .n false .u64 (digs B32 y)] (fun o => o = .ret (.a [.b (sgq b x), .n false .u64 (digs B32 (rn0 x y)), .n false .u64 (digs B32 (rd0 x y))])) := by
  by_cases h1 : x = 0
  · subst h1; exact rMake_0 b y h0
  · exact rMake_p b x y hdx hdy h0 h1

theorem number_s (s : Bool) (l d : List Int) (x y : Nat) (hx : Rw l x) (hy : Rw d y) (h0 : y ≠ 0) : Spec Tryz.prog 28 [(.a [.b s, .n false .u64 l, .n false .u64 d])] (fun o => o = .ret (.t [(.a [.b (sgq s x), .n false .u64 (digs B32 (rn0 x y)), .n false .u64 (digs B32 (rd0 x y))]), .b true])) := by
  refine spec_of' [(0, (.a [.b s, .n false .u64 l, .n false .u64 d]))] rfl Tryz.func28 rfl (zlb rfl) fun Γ hN hds hL hR => ?_
  have hd := hdOf 20 hN
  have hOl : Spec Tryz.prog 25 [.n false .u64 l] (fun o => o = .ret (.n false .u64 (digs B32 x))) := by have h := rOf_s l (by have := hx.l; omega) hx.u; rwa [rOf_v hx.u, hx.v, Int.toNat_natCast] at h
  have hOd : Spec Tryz.prog 25 [.n false .u64 d] (fun o => o = .ret (.n false .u64 (digs B32 y))) := by have h := rOf_s d (by have := hy.l; omega) hy.u; rwa [rOf_v hy.u, hy.v, Int.toNat_natCast] at h
  have hl0 := @dl0 y
  have hlx := hx.dl
  have hly := hy.dl
  have hZe : Spec Tryz.prog 26 [.n false .u64 (digs B32 y)] (fun o => o = .ret (.b false)) := by have h := Zero_s (digs B32 y); rwa [decide_eq_false (by have := @dl0 y; omega)] at h
  refine zsr <| jo_h (hy_box (id := 0) (n := 3) rfl rfl rfl (by decide) rfl) (hd 1 rfl) <| jo_h (hy_alloc (id := 1) zero1030 (by decide) rfl (by decide) rfl) (hd 2 rfl) <| zas rfl (hd 3 rfl) <| jo_nil <| zsr <| jo_l (ly_fa fld1027_1 rfl rfl rfl) (hd 5 rfl) <| jo_l (ly_ld one28 rfl rfl rfl) (hd 6 rfl) ?_
  refine jo_call Tryz.f25 (hOd) rfl Tryz.func25 rfl rfl (ovL_cons rfl ovL_nil) (.cons .n .nil) (hd 7 rfl) ?_ (fun ch hp => by simp at hp)
  rintro _ ⟨⟩; refine zas rfl (hd 4 rfl) <| jo_nil <| jc_seq <| zsr <| zmv rfl (hd 8 rfl) ?_
  refine jo_call Tryz.f26 (hZe) rfl Tryz.func26 rfl rfl (ovL_cons rfl ovL_nil) (.cons .n .nil) (hd 9 rfl) ?_ (fun ch hp => by simp at hp)
  rintro _ ⟨⟩; refine jo_nil <| jc_litf rfl <| jc_skip <| jc_seq <| jc_draw (n := 11) _ rfl mixed <| zal2 0 [1, 2, 8, 9, 10] (lo_l (ly_fa fld1027_0 rfl rfl rfl) (hd 11 rfl)) rfl <| zal2 1 [2, 8, 9, 10] (lo_l (ly_fa fld30_0 rfl rfl rfl) (hd 12 rfl)) rfl <| zal 2 (lo_l (ly_ld one4 rfl rfl rfl) (hd 13 rfl)) rfl <| zal2 3 [4, 5, 6, 8, 9, 10] (lo_l (ly_fa fld1027_0 rfl rfl rfl) (hd 14 rfl)) rfl <| zal2 4 [5, 6, 8, 9, 10] (lo_l (ly_fa fld30_1 rfl rfl rfl) (hd 15 rfl)) rfl <| zal2 5 [6, 8, 9, 10] (lo_l (ly_ld one28 rfl rfl rfl) (hd 16 rfl)) rfl <| zal 7 (lo_l (ly_mv rfl) (hd 18 rfl)) rfl ?_
  refine ja_1 6 ?_ rfl (by kernel_rfl)
  refine js_call Tryz.f25 (hOl) rfl Tryz.func25 rfl rfl (ovL_cons rfl ovL_nil) (.cons .n .nil) (hd 17 rfl) ?_ (fun ch hp => by simp at hp)
  rintro y hy; injection hy with hy; subst hy
  refine ja_1 8 ?_ rfl (by kernel_rfl)
  refine js_call Tryz.f57 (rMake_s s x y (by omega) (by omega) h0) rfl Tryz.func57 rfl rfl (ovL_cons rfl (ovL_cons rfl (ovL_cons rfl ovL_nil))) (.cons .b (.cons .n (.cons .n .nil))) (hd 19 rfl) ?_ (fun ch hp => by simp at hp)
  rintro y hy; injection hy with hy; subst hy
  refine ja_1 9 ?_ rfl (by kernel_rfl)
  refine js_st (sy_store rfl rfl rfl siz1030 rfl rfl (zlb rfl)) rfl <| zal 10 (lo_l (ly_as rfl) (hd 3 rfl)) rfl <| ja_nil (by kernel_rfl) <| jc_ret ?_
  refine ⟨_, _, (.cons (ResV.cell agg1030 rfl rfl rfl rfl) (.cons rfl .nil)), (.t1 (.a1 .b (.a1 .n (.a1 .n .a0))) (.t1 .b .t0)), ?_⟩
  exact rfl

theorem number_z (s : Bool) (l d : List Int) (hy : Rw d 0) : Spec Tryz.prog 28 [(.a [.b s, .n false .u64 l, .n false .u64 d])] (fun o => o = .ret (.t [(.a [.b false, .n false .u64 [], .n false .u64 []]), .b false])) := by
  refine spec_of' [(0, (.a [.b s, .n false .u64 l, .n false .u64 d]))] rfl Tryz.func28 rfl (zlb rfl) fun Γ hN hds hL hR => ?_
  have hd := hdOf 20 hN
  have hOd : Spec Tryz.prog 25 [.n false .u64 d] (fun o => o = .ret (.n false .u64 (digs B32 0))) := by have h := rOf_s d (by have := hy.l; omega) hy.u; rwa [rOf_v hy.u, hy.v] at h
  have hZe : Spec Tryz.prog 26 [.n false .u64 (digs B32 0)] (fun o => o = .ret (.b true)) := by have h := Zero_s (digs B32 0); rwa [decide_eq_true (by rw [digs_0]; rfl)] at h
  refine zsr <| jo_h (hy_box (id := 0) (n := 3) rfl rfl rfl (by decide) rfl) (hd 1 rfl) <| jo_h (hy_alloc (id := 1) zero1030 (by decide) rfl (by decide) rfl) (hd 2 rfl) <| zas rfl (hd 3 rfl) <| jo_nil <| zsr <| jo_l (ly_fa fld1027_1 rfl rfl rfl) (hd 5 rfl) <| jo_l (ly_ld one28 rfl rfl rfl) (hd 6 rfl) ?_
  refine jo_call Tryz.f25 (hOd) rfl Tryz.func25 rfl rfl (ovL_cons rfl ovL_nil) (.cons .n .nil) (hd 7 rfl) ?_ (fun ch hp => by simp at hp)
  rintro _ ⟨⟩; refine zas rfl (hd 4 rfl) <| jo_nil <| jc_seq <| zsr <| zmv rfl (hd 8 rfl) ?_
  refine jo_call Tryz.f26 (hZe) rfl Tryz.func26 rfl rfl (ovL_cons rfl ovL_nil) (.cons .n .nil) (hd 9 rfl) ?_ (fun ch hp => by simp at hp)
  rintro _ ⟨⟩; refine jo_nil <| jc_litt rfl <| zsr <| jo_l (ly_build (is := []) (xs := []) (pls := []) zero1030 pls1030_ rfl ovL_nil rfl trivial (all_of rfl) rfl) (hd 10 rfl) <| jo_st (sy_store rfl rfl rfl siz1030 rfl rfl (zlb rfl)) <| zas rfl (hd 3 rfl) <| jo_nil <| jc_ret ?_
  refine ⟨_, _, (.cons (ResV.cell agg1030 rfl rfl rfl rfl) (.cons rfl .nil)), (.t1 (.a1 .b (.a1 (.nil (fr := false) (k := .u64)) (.a1 (.nil (fr := false) (k := .u64)) .a0))) (.t1 .b .t0)), ?_⟩
  exact rfl

theorem nothing_z  : Spec Tryz.prog 52 [(.a [.b false, .n false .u64 [], .n false .u64 []])] (fun o => o = .ret (.b true)) := by
  refine spec_of' [(0, (.a [.b false, .n false .u64 [], .n false .u64 []]))] rfl Tryz.func52 rfl (zlb rfl) fun Γ hN hds hL hR => ?_
  have hd := hdOf 20 hN
  refine zsr <| jo_h (hy_box (id := 0) (n := 3) rfl rfl rfl (by decide) rfl) (hd 1 rfl) <| zas rfl (hd 2 rfl) <| jo_nil <| zsr <| jo_l (ly_fa fld1027_0 rfl rfl rfl) (hd 3 rfl) <| jo_l (ly_fa fld30_0 rfl rfl rfl) (hd 4 rfl) <| jo_l (ly_ld one4 rfl rfl rfl) (hd 5 rfl) <| jo_l (ly_not rfl) (hd 6 rfl) <| zmv rfl (hd 7 rfl) <| jo_g 7 rfl rfl (ly_fa fld1027_0 rfl rfl rfl) (hd 8 rfl) ?_; refine jo_g 7 rfl rfl (ly_fa fld30_1 rfl rfl rfl) (hd 9 rfl) <| jo_g 7 rfl rfl (ly_ld one28 rfl rfl rfl) (hd 10 rfl) <| jo_g 7 rfl rfl (ly_lenn sl28 rfl) (hd 11 rfl) <| jo_g 7 rfl rfl (ly_tt (ly_eq rfl rfl) rfl) (hd 12 rfl) <| jo_l (ly_pick_t rfl rfl) (hd 13 rfl) <| zmv rfl (hd 14 rfl) <| jo_g 14 rfl rfl (ly_fa fld1027_1 rfl rfl rfl) (hd 15 rfl) <| jo_g 14 rfl rfl (ly_ld one28 rfl rfl rfl) (hd 16 rfl) <| jo_g 14 rfl rfl (ly_lenn sl28 rfl) (hd 17 rfl) <| jo_g 14 rfl rfl (ly_tt (ly_eq rfl rfl) rfl) (hd 18 rfl) <| jo_l (ly_pick_t rfl rfl) (hd 19 rfl) <| zas rfl (hd 2 rfl) <| jo_nil ?_; refine jc_ret ?_
  refine ⟨_, _, (.cons rfl .nil), .b, ?_⟩
  exact rfl

theorem qis_s (b : Bool) (x : Nat) (hdx : (digs B32 x).length < 4294967296) : Spec Tryz.prog 53 [.a [.b b, .n false .u64 (lm (x : Int))], (.a [.b b, .n false .u64 (digs B32 x)])] (fun o => o = .ret (.b true)) := by
  refine spec_of' [(0, .a [.b b, .n false .u64 (lm (x : Int))]), (1, (.a [.b b, .n false .u64 (digs B32 x)]))] rfl Tryz.func53 rfl (zlb rfl) fun Γ hN hds hL hR => ?_
  have hd := hdOf 17 hN
  have hIs : Spec Tryz.prog 54 [.n false .u64 (digs B32 x), .n false .u64 (lm (x : Int))] (fun o => o = .ret (.b true)) := by have h := Is_s (digs B32 x) (by omega); rwa [lims_nt] at h
  refine zsr <| jo_h (hy_box (id := 0) (n := 2) rfl rfl rfl (by decide) rfl) (hd 2 rfl) <| jo_h (hy_box (id := 1) (n := 2) rfl rfl rfl (by decide) rfl) (hd 3 rfl) <| zas rfl (hd 4 rfl) <| jo_nil <| zsr <| jo_l (ly_fa fld30_0 rfl rfl rfl) (hd 5 rfl) <| jo_l (ly_ld one4 rfl rfl rfl) (hd 6 rfl) <| jo_l (ly_fa fld1076_0 rfl rfl rfl) (hd 7 rfl) <| jo_l (ly_ld one4 rfl rfl rfl) (hd 8 rfl) <| jo_l (ly_is (ly_eqb und4 rfl rfl) (show V.b (_ == _) = V.b true from congrArg V.b (beq_self_eq_true _))) (hd 9 rfl) ?_; refine zmv rfl (hd 10 rfl) <| jo_g 10 rfl rfl (ly_fa fld1076_1 rfl rfl rfl) (hd 11 rfl) <| jo_g 10 rfl rfl (ly_ld one33 rfl rfl rfl) (hd 12 rfl) <| jo_g 10 rfl rfl (ly_fa fld30_1 rfl rfl rfl) (hd 13 rfl) <| jo_g 10 rfl rfl (ly_ld one28 rfl rfl rfl) (hd 14 rfl) ?_
  refine jo_callg Tryz.f54 10 rfl rfl (hIs) rfl Tryz.func54 rfl rfl (ovL_cons rfl (ovL_cons rfl ovL_nil)) (.cons .n (.cons .n .nil)) (hd 15 rfl) ?_ (fun ch hp => by simp at hp)
  rintro _ ⟨⟩; refine jo_l (ly_pick_t rfl rfl) (hd 16 rfl) <| zas rfl (hd 4 rfl) <| jo_nil <| jc_ret ?_
  refine ⟨_, _, (.cons rfl .nil), .b, ?_⟩
  exact rfl

theorem same7_ok (b : Bool) (x y : Nat) (bx : lenV (x : Int) ≤ 67108864) (by9 : lenV (y : Int) ≤ 67108864) : Spec Tryz.prog 11 [(.a [.b b, .n false .u64 (lm (x : Int)), .n false .u64 (lm (y : Int))]), .i .i64 0, (.a [.b b, .n false .u64 (digs B32 x), .n false .u64 (digs B32 y)]), .i .i64 0] (fun o => o = .ret (.b true)) := by
  refine spec_of' [(0, (.a [.b b, .n false .u64 (lm (x : Int)), .n false .u64 (lm (y : Int))])), (1, .i .i64 0), (2, (.a [.b b, .n false .u64 (digs B32 x), .n false .u64 (digs B32 y)])), (3, .i .i64 0)] rfl Tryz.func11 rfl (zlb rfl) fun Γ hN hds hL hR => ?_
  have hd := hdOf 51 hN
  have hdx := dl_of bx
  have hdy := dl_of by9
  have hLx : Spec Tryz.prog 27 [.n false .u64 (digs B32 x)] (fun o => o = .ret (.i .i64 (lenV (x : Int)))) := by have h := Len_s (x : Int) (by rw [dgN]; omega); rwa [dgN] at h
  have hLy : Spec Tryz.prog 27 [.n false .u64 (digs B32 y)] (fun o => o = .ret (.i .i64 (lenV (y : Int)))) := by have h := Len_s (y : Int) (by rw [dgN]; omega); rwa [dgN] at h
  have hIy : Spec Tryz.prog 54 [.n false .u64 (digs B32 y), .n false .u64 (lm (y : Int))] (fun o => o = .ret (.b true)) := by have h := Is_s (digs B32 y) (by omega); rwa [lims_nt] at h
  refine zsr <| jo_h (hy_box (id := 0) (n := 3) rfl rfl rfl (by decide) rfl) (hd 4 rfl) <| jo_h (hy_box (id := 1) (n := 3) rfl rfl rfl (by decide) rfl) (hd 6 rfl) <| zas rfl (hd 8 rfl) <| jo_nil <| jc_seq <| zsr <| zmv rfl (hd 9 rfl) <| jo_l (ly_tt (ly_eq rfl rfl) rfl) (hd 10 rfl) <| zmv rfl (hd 11 rfl) <| jo_g 11 rfl rfl (ly_fa fld1030_1 rfl rfl rfl) (hd 12 rfl) ?_; refine jo_g 11 rfl rfl (ly_ld one33 rfl rfl rfl) (hd 13 rfl) ?_
  refine jo_callg Tryz.f27 11 rfl rfl (hLx) rfl Tryz.func27 rfl rfl (ovL_cons rfl ovL_nil) (.cons .n .nil) (hd 14 rfl) ?_ (fun ch hp => by simp at hp)
  rintro _ ⟨⟩; refine jo_g 11 rfl rfl (ly_ff (ly_gt rfl rfl) (by omega)) (hd 15 rfl) <| jo_g 11 rfl rfl (ly_mv rfl) (hd 16 rfl) <| jo_g 16 rfl rfl (ly_fa fld1030_2 rfl rfl rfl) (hd 17 rfl) <| jo_g 16 rfl rfl (ly_ld one33 rfl rfl rfl) (hd 18 rfl) ?_
  refine jo_callg Tryz.f27 16 rfl rfl (hLy) rfl Tryz.func27 rfl rfl (ovL_cons rfl ovL_nil) (.cons .n .nil) (hd 19 rfl) ?_ (fun ch hp => by simp at hp)
  rintro _ ⟨⟩; refine jo_g 16 rfl rfl (ly_ff (ly_gt rfl rfl) (by omega)) (hd 20 rfl) <| jo_g 11 rfl rfl (ly_pick_f rfl rfl) (hd 21 rfl) <| jo_l (ly_pick_t rfl rfl) (hd 22 rfl) <| jo_nil <| jc_litf rfl <| jc_skip <| jc_seq <| zsr <| zmv rfl (hd 23 rfl) <| jo_l (ly_ff (ly_ne rfl rfl) (by decide)) (hd 24 rfl) <| jo_nil <| jc_litf rfl ?_; refine jc_skip <| zsr <| zmv rfl (hd 32 rfl) <| jo_l (ly_tt (ly_eq rfl rfl) rfl) (hd 33 rfl) <| zmv rfl (hd 34 rfl) <| jo_g 34 rfl rfl (ly_fa fld1027_0 rfl rfl rfl) (hd 35 rfl) <| jo_g 34 rfl rfl (ly_lda agg30 rfl rfl rfl rfl) (hd 36 rfl) <| jo_g 34 rfl rfl (ly_fa fld1030_0 rfl rfl rfl) (hd 37 rfl) <| jo_g 34 rfl rfl (ly_ld one4 rfl rfl rfl) (hd 38 rfl) <| jo_g 34 rfl rfl (ly_fa fld1030_1 rfl rfl rfl) (hd 39 rfl) <| jo_g 34 rfl rfl (ly_ld one33 rfl rfl rfl) (hd 40 rfl) <| jo_g 34 rfl rfl (ly_build (is := [0, 1]) (xs := [.tmp 38, .tmp 40]) zero1076 pls1076_0_1 rfl (ovL_cons rfl (ovL_cons rfl ovL_nil)) rfl (by first | (simp [plsOk, cellsV]; done) | (simp [plsOk, cellsV, old]; done)) (all_of rfl) rfl) (hd 41 rfl) ?_
  refine jo_callg Tryz.f53 34 rfl rfl (qis_s b x (by omega)) rfl Tryz.func53 rfl rfl (ovL_cons rfl (ovL_cons rfl ovL_nil)) (.cons (.a1 .b (.a1 .n .a0)) (.cons (.a1 .b (.a1 .n .a0)) .nil)) (hd 42 rfl) ?_ (fun ch hp => by simp at hp)
  rintro _ ⟨⟩; refine jo_l (ly_pick_t rfl rfl) (hd 43 rfl) <| zmv rfl (hd 44 rfl) <| jo_g 44 rfl rfl (ly_fa fld1030_2 rfl rfl rfl) (hd 45 rfl) <| jo_g 44 rfl rfl (ly_ld one33 rfl rfl rfl) (hd 46 rfl) <| jo_g 44 rfl rfl (ly_fa fld1027_1 rfl rfl rfl) (hd 47 rfl) <| jo_g 44 rfl rfl (ly_ld one28 rfl rfl rfl) (hd 48 rfl) ?_
  refine jo_callg Tryz.f54 44 rfl rfl (hIy) rfl Tryz.func54 rfl rfl (ovL_cons rfl (ovL_cons rfl ovL_nil)) (.cons .n (.cons .n .nil)) (hd 49 rfl) ?_ (fun ch hp => by simp at hp)
  rintro _ ⟨⟩; refine jo_l (ly_pick_t rfl rfl) (hd 50 rfl) <| zas rfl (hd 8 rfl) <| jo_nil <| jc_ret ?_
  refine ⟨_, _, (.cons rfl .nil), .b, ?_⟩
  exact rfl

theorem same7_er (b : Bool) (X Y : List Int) (e : Int) (he : e ≠ 0) : Spec Tryz.prog 11 [(.a [.b false, .n false .u64 [], .n false .u64 []]), .i .i64 e, (.a [.b b, .n false .u64 X, .n false .u64 Y]), .i .i64 e] (fun o => o = .ret (.b true)) := by
  refine spec_of' [(0, (.a [.b false, .n false .u64 [], .n false .u64 []])), (1, .i .i64 e), (2, (.a [.b b, .n false .u64 X, .n false .u64 Y])), (3, .i .i64 e)] rfl Tryz.func11 rfl (zlb rfl) fun Γ hN hds hL hR => ?_
  have hd := hdOf 51 hN
  refine zsr <| jo_h (hy_box (id := 0) (n := 3) rfl rfl rfl (by decide) rfl) (hd 4 rfl) <| jo_h (hy_box (id := 1) (n := 3) rfl rfl rfl (by decide) rfl) (hd 6 rfl) <| zas rfl (hd 8 rfl) <| jo_nil <| jc_seq <| zsr <| zmv rfl (hd 9 rfl) <| jo_l (ly_ff (ly_eq rfl rfl) he) (hd 10 rfl) <| zmv rfl (hd 11 rfl) <| jo_s 11 rfl rfl rfl (hd 12 rfl) ?_; refine jo_s 11 rfl rfl rfl (hd 13 rfl) <| jo_s 11 rfl rfl rfl (hd 14 rfl) <| jo_s 11 rfl rfl rfl (hd 15 rfl) <| jo_s 11 rfl rfl rfl (hd 16 rfl) <| jo_s' 16 rfl rfl (hd 17 rfl) <| jo_s' 16 rfl rfl (hd 18 rfl) <| jo_s' 16 rfl rfl (hd 19 rfl) <| jo_s' 16 rfl rfl (hd 20 rfl) <| jo_s 11 rfl rfl rfl (hd 21 rfl) <| jo_l (ly_pick_f rfl rfl) (hd 22 rfl) <| jo_nil <| jc_litf rfl <| jc_skip ?_; refine jc_seq <| zsr <| zmv rfl (hd 23 rfl) <| jo_l (ly_tt (ly_ne rfl rfl) he) (hd 24 rfl) <| jo_nil <| jc_litt rfl <| zsr <| zmv rfl (hd 25 rfl) <| zmv rfl (hd 26 rfl) <| jo_l (ly_tt (ly_eq rfl rfl) rfl) (hd 27 rfl) <| zmv rfl (hd 28 rfl) ?_; refine jo_g 28 rfl rfl (ly_lda agg1027 rfl rfl rfl rfl) (hd 29 rfl) ?_
  refine jo_callg Tryz.f52 28 rfl rfl (nothing_z) rfl Tryz.func52 rfl rfl (ovL_cons rfl ovL_nil) (.cons (.a1 .b (.a1 .n (.a1 .n .a0))) .nil) (hd 30 rfl) ?_ (fun ch hp => by simp at hp)
  rintro _ ⟨⟩; refine jo_l (ly_pick_t rfl rfl) (hd 31 rfl) <| zas rfl (hd 8 rfl) <| jo_nil <| jc_ret ?_
  refine ⟨_, _, (.cons rfl .nil), .b, ?_⟩
  exact rfl

theorem rSgn_s (b : Bool) (x : Nat) (Y : List Int) : Spec Tryz.prog 17 [(.a [.b b, .n false .u64 (digs B32 x), .n false .u64 Y])] (fun o => o = .ret (.i .i64 (sgnI (zs b x)))) := by
  refine spec_of' [(0, (.a [.b b, .n false .u64 (digs B32 x), .n false .u64 Y]))] rfl Tryz.func17 rfl (zlb rfl) fun Γ hN hds hL hR => ?_
  have hd := hdOf 8 hN
  have hl0 := @dl0 x
  refine zsr <| jo_h (hy_box (id := 0) (n := 3) rfl rfl rfl (by decide) rfl) (hd 1 rfl) <| zas rfl (hd 2 rfl) <| jo_nil <| jc_seq <| zsr <| jo_l (ly_fa fld1030_1 rfl rfl rfl) (hd 3 rfl) <| jo_l (ly_ld one33 rfl rfl rfl) (hd 4 rfl) ?_
  refine jo_call Tryz.f26 (Zero_s (digs B32 x)) rfl Tryz.func26 rfl rfl (ovL_cons rfl ovL_nil) (.cons .n .nil) (hd 5 rfl) ?_ (fun ch hp => by simp at hp)
  rintro _ ⟨⟩; refine jo_nil ?_
  refine jc_if rfl (fun h1 => ?_) (fun h1 => ?_)
  · have hx0 : x = 0 := hl0.1 (by omega)
    refine zsr <| zas rfl (hd 2 rfl) <| jo_nil <| jc_ret ?_
    refine ⟨_, _, (.cons rfl .nil), .i, ?_⟩
    rw [sgn_zs, if_pos hx0]
  · have hx0 : x ≠ 0 := fun e => h1 (by have := hl0.2 e; omega)
    refine jc_skip <| jc_seq <| zsr <| jo_l (ly_fa fld1030_0 rfl rfl rfl) (hd 6 rfl) <| jo_l (ly_ld one4 rfl rfl rfl) (hd 7 rfl) <| jo_nil ?_
    refine jc_cond rfl (fun h2 => ?_) (fun h2 => ?_)
    · have hb := h2
      refine zsr <| zas rfl (hd 2 rfl) <| jo_nil <| jc_ret ?_
      refine ⟨_, _, (.cons rfl .nil), .i, ?_⟩
      rw [sgn_zs, if_neg hx0, if_pos hb]
    · have hb := h2
      refine jc_skip <| zsr <| zas rfl (hd 2 rfl) <| jo_nil <| jc_ret ?_
      refine ⟨_, _, (.cons rfl .nil), .i, ?_⟩
      rw [sgn_zs, if_neg hx0, if_neg (by rw [hb]; decide)]


theorem mustU (u : Value) : Spec Tryz.prog 34 [.c u, .i .i64 0] (fun o => o = .ret (.c u)) := by
  refine spec_of' [(0, .c u), (1, .i .i64 0)] rfl Tryz.func34 rfl (zlb rfl) fun Γ hN hds hL hR => ?_
  have hd := hdOf 11 hN
  refine zsr <| zas rfl (hd 4 rfl) <| jo_nil <| jc_seq <| zsr <| zmv rfl (hd 5 rfl) <| jo_l (ly_ff (ly_ne rfl rfl) (by decide)) (hd 6 rfl) <| jo_nil <| jc_litf rfl <| jc_skip <| jc_seq ?_; refine jc_region <| zmv rfl (hd 10 rfl) <| zas rfl (hd 4 rfl) <| jo_nil <| jc_ret ?_
  refine ⟨_, _, (.cons rfl .nil), .c, ?_⟩
  exact rfl

theorem divide_q (a b : List Int) (la : a.length < 4294967296) (lb : b.length < 4294967296) (ua : u64s a) (ub : u64s b) (ta : tpd a) (tb : tpd b) (hb : b ≠ []) : SpecM Tryz.prog 80 [.n false .u64 a, .n false .u64 b] [] (fun o G => o = .ret (.t [.o 0 0 0 (lm (vl a / vl b)).length, .n false .u64 (lm (vl a % vl b))]) ∧ G = [⟨79, 1, 0, true, ints .u64 (lm (vl a / vl b))⟩]) := by
  refine specS_of [(0, .n false .u64 a), (1, .n false .u64 b)] rfl Tryz.func80 rfl (zlb rfl) fun Γ hN hds hL hR => ?_
  have hd := hdOf 104 hN
  have hcv := cmpL_val ua ub
  have hb0 := vl_pos ub tb hb
  have hva := vl_nonneg ua
  refine zsr <| zas rfl (hd 4 rfl) <| zas rfl (hd 5 rfl) <| jo_nil <| jc_seq <| zsr <| zmv rfl (hd 15 rfl) <| zmv rfl (hd 16 rfl) ?_
  refine jo_call Tryz.f67 (Compare_s a b la lb) rfl Tryz.func67 rfl rfl (ovL_cons rfl (ovL_cons rfl ovL_nil)) (.cons .n (.cons .n .nil)) (hd 17 rfl) ?_ (fun ch hp => by simp at hp)
  rintro _ ⟨⟩; refine jo_l (ly_lt rfl rfl) (hd 18 rfl) <| jo_nil ?_
  refine jc_if rfl (fun h1 => ?_) (fun h1 => ?_)
  · have hlt : vl a < vl b := by rcases hcv with ⟨c, v⟩ | ⟨c, v⟩ | ⟨c, v⟩ <;> omega
    refine zsr <| zmv rfl (hd 19 rfl) <| zas rfl (hd 4 rfl) <| zas rfl (hd 5 rfl) <| jo_nil <| jc_own0 4 79 1 rfl rfl <| jc_ret ?_
    refine ⟨[0], _, (.t [.o 0 0 0 0, .n false .u64 a]), (.cons rfl (.cons rfl .nil)), rfl, rfl, (by decide), (by first | exact idless_cons ints_id idless_nil | exact idless_cons rfl idless_nil), ?_⟩
    rw [Int.ediv_eq_zero_of_lt hva hlt, Int.emod_eq_of_lt hva hlt, lm_0, lm_id ua ta]
    exact ⟨rfl, rfl⟩
  · have hge : vl b ≤ vl a := by rcases hcv with ⟨c, v⟩ | ⟨c, v⟩ | ⟨c, v⟩ <;> omega
    have hlen := kn_len ua ub tb hb hge
    refine jc_skip <| jc_seq <| zsr <| zmv rfl (hd 20 rfl) <| jo_l (ly_lenn sl28 rfl) (hd 21 rfl) <| jo_l (ly_eq rfl rfl) (hd 22 rfl) <| jo_nil ?_
    refine jc_if rfl (fun h2 => ?_) (fun h2 => ?_)
    · obtain ⟨d, rfl⟩ : ∃ d, b = [d] := List.length_eq_one_iff.1 (by omega)
      have hdb := ub d (List.mem_singleton.2 rfl)
      have hd0 := tpd_one tb
      have hdp : 0 < d := by omega
      have hvd : vl [d] = d := by simp [vl]
      refine zsr <| zmv rfl (hd 23 rfl) <| jo_l (ly_lenn sl28 rfl) (hd 24 rfl) <| jo_h (hy_mk (m := a.length) el28 rfl rfl rfl (by show 8 * a.length ≤ _; omega) (by unfold maxLen; omega) rfl) (hd 25 rfl) <| zas rfl (hd 6 rfl) <| zas rfl (hd 7 rfl) <| jo_nil <| jc_seq <| zsr <| zmv rfl (hd 26 rfl) <| jo_l (ly_lenn sl28 rfl) (hd 27 rfl) ?_; refine jo_l (ly_sub rfl rfl (wrap_i64 (by omega) (by omega))) (hd 28 rfl) <| zas rfl (hd 8 rfl) <| jo_nil <| jc_block <| jc_H (H' := [⟨79, 1, 0, true, ints .u64 (List.replicate a.length 0 ++ (dvN a d (a.length - a.length)).1)⟩]) (by rw [Nat.sub_self]; show _ = [(⟨79, 1, 0, true, ints .u64 (List.replicate a.length 0 ++ [])⟩ : Ob)]; rw [List.append_nil]; rfl) ?_
      refine jc_loopF (G := Nat) (fun k => k ≤ a.length) (fun k => [(7, .i .u64 (dvN a d (a.length - k)).2), (8, .i .i64 ((k : Int) - 1)), (29, .u), (30, .u), (31, .u), (32, .u), (33, .u), (34, .u), (35, .u), (36, .u), (37, .u), (38, .u), (39, .u), (40, .u), (41, .u), (42, .u), (43, .u), (44, .u), (45, .u), (46, .u), (47, .u)]) (fun k => [⟨79, 1, 0, true, ints .u64 (List.replicate k 0 ++ (dvN a d (a.length - k)).1)⟩]) (fun k => k) a.length ?_ ?_ rfl ?_
      · exact Nat.le_refl _
      · exact (.cons (by show some (V.i .u64 0) = some (V.i .u64 (dvN a d (a.length - a.length)).2); rw [Nat.sub_self]; rfl) (.cons rfl (.u (.u (.u (.u (.u (.u (.u (.u (.u (.u (.u (.u (.u (.u (.u (.u (.u (.u (.u .nil)))))))))))))))))))))
      · rintro k hc1
        have hr := dvN_r (a := a) hdp (a.length - k)
        have hx := u64s_getD ua (k - 1)
        refine jc_seq <| zsr <| zmv rfl (hd 29 rfl) <| jo_l (ly_ge rfl rfl) (hd 30 rfl) <| jo_nil ?_
        refine jc_if rfl (fun h3 => ?_) (fun h3 => ?_)
        · refine jc_skip <| jc_seq <| jc_block <| jc_draw (n := 17) _ rfl mixed <| zal 0 (lo_l (ly_mv rfl) (hd 34 rfl)) rfl <| zal 1 (lo_l (ly_mv rfl) (hd 35 rfl)) rfl <| zal2 2 [10, 11, 12, 13, 14, 15, 16] (lo_l (ly_mv rfl) (hd 36 rfl)) rfl <| zal2 3 [5, 6, 10, 11, 12, 13, 14, 15, 16] (lo_l (ly_mv rfl) (hd 37 rfl)) rfl <| zal2 4 [5, 6, 10, 11, 12, 13, 14, 15, 16] (lo_l (ly_mv rfl) (hd 38 rfl)) rfl <| zal2 5 [6, 10, 11, 12, 13, 14, 15, 16] (lo_l (ly_ian (i := k - 1) sl28 rfl rfl (by omega) (by omega)) (hd 39 rfl)) rfl <| zal2 6 [10, 11, 12, 13, 14, 15, 16] (lo_l (ly_ldq one82 rfl rfl) (hd 40 rfl)) rfl <| zal2 7 [8, 9, 10, 11, 12, 13, 14, 15, 16] (lo_l (ly_mv rfl) (hd 41 rfl)) rfl <| zal2 8 [9, 10, 11, 12, 13, 14, 15, 16] (lo_l (ly_ian (i := 0) sl28 rfl rfl rfl (by simp)) (hd 42 rfl)) rfl ?_; refine zal2 9 [10, 11, 12, 13, 14, 15, 16] (lo_l (ly_ldq one82 rfl rfl) (hd 43 rfl)) rfl ?_
          refine ja_1 10 ?_ rfl (by kernel_rfl)
          refine js_call Tryz.f105 (Div64_s (dvN a d (a.length - k)).2 (a.getD (k - 1) 0) d hr.1 hr.2 hx.1 hx.2 hdb.2) rfl Tryz.func105 rfl rfl (ovL_cons rfl (ovL_cons rfl (ovL_cons rfl ovL_nil))) (.cons .i (.cons .i (.cons .i .nil))) (hd 44 rfl) ?_ (fun ch hp => by simp at hp)
          rintro _ ⟨⟩; refine zal 11 (lo_l (ly_mv rfl) (hd 33 rfl)) rfl <| zal 12 (lo_l (ly_ext rfl rfl) (hd 45 rfl)) rfl <| zal 13 (lo_ext rfl rfl (hd 46 rfl)) rfl <| zal 14 (lo_l (ly_ia (i := k - 1) sl28 rfl rfl rfl (by omega) (by omega) rfl) (hd 47 rfl)) rfl ?_
          refine ja_1 15 ?_ rfl (by kernel_rfl)
          refine js_st (sy_storei rfl rfl rfl one82 (by simp only [List.length_append, List.length_replicate, dvN_len]; omega)) rfl <| zal 16 (lo_l (ly_as rfl) (hd 7 rfl)) rfl <| ja_nil (by kernel_rfl) <| jc_region <| zmv rfl (hd 31 rfl) <| jo_l (ly_sub rfl rfl (wrap_i64 (by omega) (by omega))) (hd 32 rfl) <| zas rfl (hd 8 rfl) <| jo_nil ?_
          refine ⟨k - 1, ?_, ?_, (by show [(⟨79, 1, 0, true, ints .u64 _⟩ : Ob)] = [⟨79, 1, 0, true, ints .u64 _⟩]; rw [dv_row (by omega), dv_step (by omega) hc1]), cov_n 42 rfl rfl ?_⟩
          · omega
          · omega
          · exact (.cons (by show some (V.i .u64 _) = some (V.i .u64 _); rw [dv_step (by omega) hc1]) (.cons (by show some (V.i .i64 _) = some (V.i .i64 _); congr 2; omega) (.u (.u (.u (.u (.u (.u (.u (.u (.u (.u (.u (.u (.u (.u (.u (.u (.u (.u (.u .nil)))))))))))))))))))))
        · obtain rfl : k = 0 := by omega
          refine jc_exit <| zsr <| jo_frz (k := .u64) (l := List.replicate 0 0 ++ (dvN a d (a.length - 0)).1) (l' := (dvN a d a.length).1) 6 rfl rfl (by simp [dvN_len]) (by rw [Nat.sub_zero, List.drop_zero]; show List.take _ (dvN a d a.length).1 = _; rw [List.take_of_length_le (by rw [dvN_len]; exact Nat.le_refl _)]) hL <| zmv rfl (hd 48 rfl) ?_
          refine jo_callN Tryz.f51 (Norm_n (dvN a d a.length).1 (by rw [dvN_len]; omega)) (fun o G ⟨_, h⟩ => h ▸ idless_cons ints_id idless_nil) rfl Tryz.func51 rfl rfl (ovL_cons rfl ovL_nil) (.cons .n .nil) (hd 49 rfl) ?_ (fun ch G hp => by simp at hp)
          rintro y G ⟨hy, rfl⟩; injection hy with hy; subst hy
          show JO _ _ _ _ ((49, .o 1 0 0 (trm (dvN a d a.length).1).length) :: _) _ _
          refine zmv rfl (hd 50 rfl) ?_
          refine jo_call Tryz.f68 (From_s (dvN a d (a.length - 0)).2) rfl Tryz.func68 rfl rfl (ovL_cons rfl ovL_nil) (.cons .i .nil) (hd 51 rfl) ?_ (fun ch hp => by simp at hp)
          rintro _ ⟨⟩; refine zas rfl (hd 4 rfl) <| zas rfl (hd 5 rfl) <| jo_nil <| jc_weakn 5 rfl <| jc_ret ?_
          refine ⟨[1], _, (.t [.o 0 0 0 (trm (dvN a d a.length).1).length, .n false .u64 (if (dvN a d (a.length - 0)).2 = 0 then [] else [(dvN a d (a.length - 0)).2])]), (.cons rfl (.cons rfl .nil)), rfl, rfl, (by decide), (by first | exact idless_cons ints_id idless_nil | exact idless_cons rfl idless_nil), ?_⟩
          have hde := dv_end ua hdp
          rw [Nat.sub_zero, hde.2, fl_lm (Int.emod_nonneg _ (by omega)) (by have := Int.emod_lt_of_pos (vl a) hdp; omega), hde.1, hvd]
          exact ⟨rfl, rfl⟩
    · have hbl : 0 < b.length := List.length_pos_iff.2 hb
      obtain ⟨n, hn⟩ : ∃ n, b.length = n + 2 := ⟨b.length - 2, by omega⟩
      have htb := tb hb
      rw [hn, show n + 2 - 1 = n + 1 by omega] at htb
      have hbt := u64s_getD ub (n + 1)
      obtain ⟨s, hs⟩ : ∃ s : Nat, 64 - bl 64 (b.getD (n + 1) 0).toNat = s := ⟨_, rfl⟩
      have hz := lz_int (show 0 < b.getD (n + 1) 0 by omega) hbt.2
      rw [hs] at hz
      obtain ⟨s64, y0, y1⟩ := hz
      obtain ⟨v, hv⟩ : ∃ v, (upL b s).take b.length = v := ⟨_, rfl⟩
      have hv2 := up_cut s64 ub (by rw [hn]; exact y1) hb
      have uv : u64s v := hv ▸ u64s_take (upL_u s64 ub) _
      have hlv : v.length = n + 2 := by rw [← hv, List.length_take, upL_len]; omega
      rw [hv] at hv2
      have htop := kn_top ub uv tb hn hlv hv2
      have hul := upL_len a s
      refine jc_skip <| zsr <| zmv rfl (hd 52 rfl) <| zmv rfl (hd 53 rfl) <| jo_l (ly_lenn sl28 rfl) (hd 54 rfl) <| jo_l (ly_sub rfl rfl (r := ((n + 1 : Nat) : Int)) (by rw [wrap_i64 (by omega) (by omega)]; omega)) (hd 55 rfl) <| jo_l (ly_ian (i := n + 1) sl28 rfl rfl (by first | rfl | omega) (by omega)) (hd 56 rfl) <| jo_l (ly_is (ly_ldq one82 rfl rfl) (show V.i .u64 _ = V.i .u64 (((b.getD (n + 1) 0).toNat : Int)) from congrArg (V.i .u64) (Int.toNat_of_nonneg hbt.1).symm)) (hd 57 rfl) ?_
      refine jo_call Tryz.f106 (Lz_s (b.getD (n + 1) 0).toNat (by omega)) rfl Tryz.func106 rfl rfl (ovL_cons rfl ovL_nil) (.cons .i .nil) (hd 58 rfl) ?_ (fun ch hp => by simp at hp)
      rintro _ ⟨⟩; refine jo_l (ly_conv und3 und116 rfl (r := (s : Int)) (by rw [hs]; exact wrap_u64 (by omega) (by omega))) (hd 59 rfl) <| zas rfl (hd 9 rfl) <| jo_nil <| jc_seq <| jc_draw (n := 11) _ rfl mixed <| zal2 0 [2, 5, 8, 9, 10] (lo_l (ly_mv rfl) (hd 60 rfl)) rfl <| zal2 1 [2, 5, 8, 9, 10] (lo_l (ly_mv rfl) (hd 61 rfl)) rfl <| zal2 3 [5, 8, 9, 10] (lo_l (ly_mv rfl) (hd 63 rfl)) rfl <| zal2 4 [5, 8, 9, 10] (lo_l (ly_mv rfl) (hd 64 rfl)) rfl <| zal2 6 [7, 8, 10] (lo_l (ly_mv rfl) (hd 66 rfl)) rfl <| zal 7 (lo_l (ly_lenn sl28 rfl) (hd 67 rfl)) rfl ?_
      refine ja_1 2 ?_ rfl (by kernel_rfl)
      refine js_callN Tryz.f107 (up_n s a (by omega) s64 ua) (fun o G ⟨_, h⟩ => h ▸ idless_cons ints_id idless_nil) rfl Tryz.func107 rfl rfl (ovL_cons rfl (ovL_cons rfl ovL_nil)) (.cons .n (.cons .i .nil)) (hd 62 rfl) ?_ (fun ch G hp => by simp at hp)
      rintro y G ⟨hy, rfl⟩; injection hy with hy; subst hy
      show JA _ _ _ _ _ ((62, .o 0 0 0 (a.length + 1)) :: _) _ _
      refine ja_1 5 ?_ rfl (by kernel_rfl)
      refine js_call Tryz.f107 (up_s s b (by omega) s64 ub) rfl Tryz.func107 rfl rfl (ovL_cons rfl (ovL_cons rfl ovL_nil)) (.cons .n (.cons .i .nil)) (hd 65 rfl) ?_ (fun ch hp => by simp at hp)
      rintro _ ⟨⟩; refine zal 8 (lo_l (ly_is (ly_sln sl28 rfl bnd_none (bnd_some' rfl rfl) (.inl rfl) (by omega) (by rw [upL_len]; omega)) (show V.n _ .u64 _ = V.n _ .u64 v by rw [List.drop_zero, hv])) (hd 68 rfl)) rfl <| zal 9 (lo_l (ly_as rfl) (hd 10 rfl)) rfl <| zal 10 (lo_l (ly_as rfl) (hd 11 rfl)) rfl <| ja_nil (by kernel_rfl) <| zsr <| zmv rfl (hd 69 rfl) <| jo_l (ly_lenn sl28 rfl) (hd 70 rfl) <| zas rfl (hd 12 rfl) <| jo_nil <| zsr <| zmv rfl (hd 71 rfl) ?_; refine jo_l (ly_lenn sl28 rfl) (hd 72 rfl) <| zmv rfl (hd 73 rfl) <| jo_l (ly_sub rfl rfl (r := ((a.length - v.length : Nat) : Int)) (by rw [wrap_i64 (by omega) (by omega)]; omega)) (hd 74 rfl) <| jo_l (ly_add rfl rfl (r := ((a.length - v.length + 1 : Nat) : Int)) (by rw [wrap_i64 (by omega) (by omega)]; omega)) (hd 75 rfl) <| jo_h (hy_mk (m := a.length - v.length + 1) el28 rfl rfl rfl (by show 8 * (a.length - v.length + 1) ≤ _; omega) (by unfold maxLen; omega) rfl) (hd 76 rfl) <| zas rfl (hd 13 rfl) <| jo_nil <| jc_seq <| zsr <| zmv rfl (hd 77 rfl) <| jo_l (ly_lenn sl28 rfl) (hd 78 rfl) <| zmv rfl (hd 79 rfl) ?_; refine jo_l (ly_sub rfl rfl (r := ((a.length - v.length : Nat) : Int)) (by rw [wrap_i64 (by omega) (by omega)]; omega)) (hd 80 rfl) <| zas rfl (hd 14 rfl) <| jo_nil <| jc_block <| jc_H (H' := [⟨79, 1, 0, true, ints .u64 (upL a s)⟩, ⟨79, 1, 0, true, ints .u64 (List.replicate (a.length - b.length + 1) 0 ++ [])⟩]) (by rw [List.append_nil, hn, ← hlv]; rfl) ?_
      refine jc_loopF (G := Nat × List Int × List Int) (fun g => g.1 ≤ a.length - b.length + 1 ∧ Kn (vl a * 2 ^ s) v (a.length + 1) g.1 g.2.1 g.2.2 ∧ g.2.2.length = a.length - b.length + 1 - g.1) (fun g => [(14, .i .i64 ((g.1 : Int) - 1)), (81, .u), (82, .u), (83, .u), (84, .u), (85, .u), (86, .u), (87, .u), (88, .u), (89, .u), (90, .u), (91, .u), (92, .u), (93, .u), (94, .u), (95, .u), (96, .u)]) (fun g => [⟨79, 1, 0, true, ints .u64 g.2.1⟩, ⟨79, 1, 0, true, ints .u64 (List.replicate g.1 0 ++ g.2.2)⟩]) (fun g => g.1) (a.length - b.length + 1, upL a s, []) ?_ ?_ rfl ?_
      · exact ⟨Nat.le_refl _, kn_start s64 ua ub tb hb hv2 hlen, by show 0 = _; omega⟩
      · exact (.cons (by show some (V.i .i64 _) = some (V.i .i64 _); congr 2; omega) (.u (.u (.u (.u (.u (.u (.u (.u (.u (.u (.u (.u (.u (.u (.u (.u .nil)))))))))))))))))
      · rintro ⟨k, U, Qs⟩ ⟨hk, hK, hQl⟩
        dsimp only at hk hK hQl
        refine jc_seq <| zsr <| zmv rfl (hd 81 rfl) <| jo_l (ly_ge rfl rfl) (hd 82 rfl) <| jo_nil ?_
        refine jc_if rfl (fun h4 => ?_) (fun h4 => ?_)
        · obtain ⟨k, rfl⟩ : ∃ m, k = m + 1 := ⟨k - 1, by omega⟩
          have hG := hK.gup uv hlv htop (by omega)
          have hKl := hK.lu
          refine jc_skip <| jc_seq <| jc_block <| jc_region <| zmv rfl (hd 85 rfl) <| zmv rfl (hd 86 rfl) <| zmv rfl (hd 87 rfl) <| zmv rfl (hd 88 rfl) <| zmv rfl (hd 89 rfl) <| zmv rfl (hd 90 rfl) <| jo_l (ly_add rfl rfl (r := ((k + v.length : Nat) : Int)) (by rw [wrap_i64 (by omega) (by omega)]; omega)) (hd 91 rfl) <| jo_l (ly_add rfl rfl (r := ((k + v.length + 1 : Nat) : Int)) (by rw [wrap_i64 (by omega) (by omega)]; omega)) (hd 92 rfl) <| jo_l (ly_slo (l := k) (h := k + (n + 3)) (r := k) (n := n + 3) sl28 rfl rfl (bnd_some' rfl (by omega)) (bnd_some' rfl (by omega)) (by omega) (by omega) (by omega) (by omega)) (hd 93 rfl) ?_; refine zmv rfl (hd 94 rfl) ?_
          refine jo_callM Tryz.f108 (guess_s U (slJ U k (n + 3)) v (List.replicate (k + 1) 0 ++ Qs) k n (by omega) (by omega) hK.uu rfl hG) rfl Tryz.func108 rfl rfl (ovL_cons rfl (ovL_cons rfl ovL_nil)) (.cons (.same rfl) (.cons .n .nil)) (freshless_cons ints_noFr (freshless_cons ints_noFr freshless_nil)) (hd 95 rfl) ?_ (fun ch H2 hp => by simp at hp)
          rintro y H2 ⟨hy, r, rfl, hrl, hru, hrv⟩; injection hy with hy; subst hy; refine jo_l (ly_ia (i := k) sl28 rfl rfl rfl (by omega) (by omega) rfl) (hd 96 rfl) <| jo_st (sy_storei rfl rfl rfl one82 (by simp only [List.length_append, List.length_replicate]; omega)) <| jo_nil <| jc_region <| zmv rfl (hd 83 rfl) <| jo_l (ly_sub rfl rfl (wrap_i64 (by omega) (by omega))) (hd 84 rfl) <| zas rfl (hd 14 rfl) <| jo_nil ?_
          refine ⟨(k, rwJ U k r, vl (slJ U k (n + 3)) / vl v :: Qs), ?_, ?_, (by show [_, (⟨79, 1, 0, true, ints .u64 _⟩ : Ob)] = [_, ⟨79, 1, 0, true, ints .u64 _⟩]; rw [dv_row']), cov_n 34 rfl rfl ?_⟩
          · exact ⟨by show k ≤ _; omega, hK.next hG (by omega) hrl hru hrv, by show (_ :: Qs).length = _; rw [List.length_cons]; omega⟩
          · show k < k + 1
            omega
          · exact (.cons (by show some (V.i .i64 _) = some (V.i .i64 _); congr 2; omega) (.u (.u (.u (.u (.u (.u (.u (.u (.u (.u (.u (.u (.u (.u (.u (.u .nil)))))))))))))))))
        · obtain rfl : k = 0 := by omega
          have hKl := hK.lu
          obtain ⟨hf1, hf2, hf3⟩ := hK.fin s64 hv2 hb0 ua uv (by omega)
          refine jc_exit <| jc_seq <| jc_frz (k := .u64) (l := List.replicate 0 0 ++ Qs) (l' := Qs) 13 rfl rfl (by simp only [List.length_append, List.length_replicate]; omega) (by rw [List.drop_zero]; show List.take _ Qs = _; rw [List.take_of_length_le (by omega)]) hL <| jc_frz (k := .u64) (l := U) (l' := U) 10 rfl rfl (by omega) (by rw [List.drop_zero, List.take_of_length_le (by omega)]) hL <| jc_draw (n := 9) _ rfl mixed <| zal2 0 [1, 6, 7, 8] (lo_l (ly_mv rfl) (hd 97 rfl)) rfl <| zal2 2 [4, 6, 7, 8] (lo_l (ly_mv rfl) (hd 99 rfl)) rfl <| zal2 3 [4, 6, 7, 8] (lo_l (ly_mv rfl) (hd 100 rfl)) rfl <| zal2 4 [6, 7, 8] (lo_l (ly_is (ly_sln sl28 rfl bnd_none (bnd_some' rfl rfl) (.inl rfl) (by omega) (by omega)) (show V.n _ .u64 _ = V.n _ .u64 (U.take v.length) by rw [List.drop_zero])) (hd 101 rfl)) rfl <| zal2 5 [6, 7, 8] (lo_l (ly_mv rfl) (hd 102 rfl)) rfl ?_
          refine ja_1 1 ?_ rfl (by kernel_rfl)
          refine js_callN Tryz.f51 (Norm_n Qs (by omega)) (fun o G ⟨_, h⟩ => h ▸ idless_cons ints_id idless_nil) rfl Tryz.func51 rfl rfl (ovL_cons rfl ovL_nil) (.cons .n .nil) (hd 98 rfl) ?_ (fun ch G hp => by simp at hp)
          rintro y G ⟨hy, rfl⟩; injection hy with hy; subst hy
          show JA _ _ _ _ _ ((98, .o 2 0 0 (trm Qs).length) :: _) _ _
          refine ja_1 6 ?_ rfl (by kernel_rfl)
          refine js_call Tryz.f109 (div_down_s s (U.take v.length) (by rw [List.length_take]; omega) s64 (u64s_take hK.uu _)) rfl Tryz.func109 rfl rfl (ovL_cons rfl (ovL_cons rfl ovL_nil)) (.cons .n (.cons .i .nil)) (hd 103 rfl) ?_ (fun ch hp => by simp at hp)
          rintro _ ⟨⟩; refine zal 7 (lo_l (ly_as rfl) (hd 4 rfl)) rfl <| zal 8 (lo_l (ly_as rfl) (hd 5 rfl)) rfl <| ja_nil (by kernel_rfl) <| jc_weakn 5 rfl <| jc_ret ?_
          refine ⟨[2], _, (.t [.o 0 0 0 (trm Qs).length, .n false .u64 (trm (dnN (U.take v.length) s (U.take v.length).length))]), (.cons rfl (.cons rfl .nil)), rfl, rfl, (by decide), (by first | exact idless_cons ints_id idless_nil | exact idless_cons rfl idless_nil), ?_⟩
          rw [hf1, hf3]
          exact ⟨rfl, rfl⟩

theorem Quo_n (x g : Nat) (hx : lenV (x : Int) ≤ 67108864) (hg9 : lenV (g : Int) ≤ 67108864) (h0 : g ≠ 0) : SpecM Tryz.prog 35 [.n false .u64 (lm (x : Int)), .n false .u64 (lm (g : Int))] [] (fun o G => o = .ret (.t [.o 0 0 0 (lm ((x / g : Nat) : Int)).length, .i .i64 0]) ∧ G = [⟨79, 1, 0, true, ints .u64 (lm ((x / g : Nat) : Int))⟩]) := by
  refine specS_of [(0, .n false .u64 (lm (x : Int))), (1, .n false .u64 (lm (g : Int)))] rfl Tryz.func35 rfl (zlb rfl) fun Γ hN hds hL hR => ?_
  have hd := hdOf 25 hN
  have hlv := lenV_lm hx
  have hlw := lenV_lm hg9
  have hle : lenV ((x / g : Nat) : Int) ≤ lenV (x : Int) := lenV_nat (Nat.div_le_self _ _)
  have hlq := lenV_lm (v := ((x / g : Nat) : Int)) (by omega)
  have hne := lm_ne (show (g : Int) ≠ 0 by omega)
  have hDq : SpecM Tryz.prog 80 [.n false .u64 (lm (x : Int)), .n false .u64 (lm (g : Int))] [] (fun o G => o = .ret (.t [.o 0 0 0 (lm ((x / g : Nat) : Int)).length, .n false .u64 (lm ((x % g : Nat) : Int))]) ∧ G = [⟨79, 1, 0, true, ints .u64 (lm ((x / g : Nat) : Int))⟩]) := by
    have h := divide_q (lm (x : Int)) (lm (g : Int)) (by omega) (by omega) (lm_u _) (lm_u _) (lm_t _) (lm_t _) hne
    rw [vl_lm (Int.natCast_nonneg _), vl_lm (Int.natCast_nonneg _), ← Int.natCast_ediv, ← Int.natCast_emod] at h
    exact h
  refine zsr <| zas rfl (hd 4 rfl) <| zas rfl (hd 5 rfl) <| jo_nil <| zsr <| zmv rfl (hd 8 rfl) ?_
  refine jo_call Tryz.f51 (Norm_v (x : Int) (by omega)) rfl Tryz.func51 rfl rfl (ovL_cons rfl ovL_nil) (.cons .n .nil) (hd 9 rfl) ?_ (fun ch hp => by simp at hp)
  rintro _ ⟨⟩; refine zmv rfl (hd 10 rfl) ?_
  refine jo_call Tryz.f51 (Norm_v (g : Int) (by omega)) rfl Tryz.func51 rfl rfl (ovL_cons rfl ovL_nil) (.cons .n .nil) (hd 11 rfl) ?_ (fun ch hp => by simp at hp)
  rintro _ ⟨⟩; refine zas rfl (hd 0 rfl) <| zas rfl (hd 1 rfl) <| jo_nil <| jc_seq <| zsr <| zmv rfl (hd 12 rfl) <| jo_l (ly_lenn sl28 rfl) (hd 13 rfl) <| jo_l (ly_ff (ly_eq rfl rfl) (fun h => hne (List.eq_nil_of_length_eq_zero (by omega)))) (hd 14 rfl) <| jo_nil <| jc_litf rfl <| jc_skip <| jc_seq ?_; refine jc_region <| zmv rfl (hd 16 rfl) <| zmv rfl (hd 17 rfl) ?_
  refine jo_callN Tryz.f80 (hDq) (fun o G ⟨_, h⟩ => h ▸ idless_cons ints_id idless_nil) rfl Tryz.func80 rfl rfl (ovL_cons rfl (ovL_cons rfl ovL_nil)) (.cons .n (.cons .n .nil)) (hd 18 rfl) ?_ (fun ch G hp => by simp at hp)
  rintro y G ⟨hy, rfl⟩; injection hy with hy; subst hy
  show JO _ _ _ _ ((18, .t [.o 0 0 0 (lm ((x / g : Nat) : Int)).length, .n false .u64 (lm ((x % g : Nat) : Int))]) :: _) _ _
  refine zmv rfl (hd 15 rfl) <| jo_l (ly_ext rfl rfl) (hd 19 rfl) <| jo_l (ly_ext rfl rfl) (hd 20 rfl) <| zas rfl (hd 6 rfl) <| zas rfl (hd 7 rfl) <| jo_nil <| jc_seq <| zsr <| zmv rfl (hd 21 rfl) ?_
  refine jo_callL Tryz.f39 (Length_v ((x / g : Nat) : Int) (by omega)) rfl Tryz.func39 rfl rfl (ovL_cons rfl ovL_nil) (.a1 (.o rfl (by simp) (by rw [List.drop_zero, List.take_length])) .a0) (.cons .n .nil) hL (fun y hy => by injection hy with hy; subst hy; rfl) (hd 22 rfl) ?_ (fun ch hp => by simp at hp)
  rintro _ ⟨⟩; refine jo_l (ly_ff (ly_gt rfl rfl) (by omega)) (hd 23 rfl) <| jo_nil <| jc_litf rfl <| jc_skip <| zsr <| zmv rfl (hd 24 rfl) <| zas rfl (hd 4 rfl) <| zas rfl (hd 5 rfl) <| jo_nil <| jc_ret ?_
  refine ⟨[0], _, (.t [.o 0 0 0 (lm ((x / g : Nat) : Int)).length, .i .i64 0]), (.cons rfl (.cons rfl .nil)), rfl, rfl, (by decide), (by first | exact idless_cons ints_id idless_nil | exact idless_cons rfl idless_nil), ?_⟩
  exact ⟨rfl, rfl⟩



theorem mfits_n (l : List Int) (hl : l.length < 1099511627776) (hu : u64s l) (h : lenN l ≤ 67108864) : SpecM Tryz.prog 115 [.n false .u64 l] [] (fun o G => o = .ret (.t [.o 0 0 0 (trm l).length, .i .i64 0]) ∧ G = [⟨79, 1, 0, true, ints .u64 (trm l)⟩]) := by
  refine specS_of [(0, .n false .u64 l)] rfl Tryz.func115 rfl (zlb rfl) fun Γ hN hds hL hR => ?_
  have hd := hdOf 10 hN
  have hm := trm_len l
  refine zsr <| zas rfl (hd 2 rfl) <| zas rfl (hd 3 rfl) <| jo_nil <| zsr <| zmv rfl (hd 4 rfl) ?_
  refine jo_callN Tryz.f51 (Norm_n l hl) (fun o G ⟨_, h⟩ => h ▸ idless_cons ints_id idless_nil) rfl Tryz.func51 rfl rfl (ovL_cons rfl ovL_nil) (.cons .n .nil) (hd 5 rfl) ?_ (fun ch G hp => by simp at hp)
  rintro y G ⟨hy, rfl⟩; injection hy with hy; subst hy
  show JO _ _ _ _ ((5, .o 0 0 0 (trm l).length) :: _) _ _
  refine zas rfl (hd 0 rfl) <| jo_nil <| jc_seq <| zsr <| zmv rfl (hd 6 rfl) ?_
  refine jo_callL Tryz.f39 (Length_s (trm l) (by omega) (u64s_trm hu)) rfl Tryz.func39 rfl rfl (ovL_cons rfl ovL_nil) (.a1 (.o rfl (by simp) (by rw [List.drop_zero, List.take_length])) .a0) (.cons .n .nil) hL (fun y hy => by injection hy with hy; subst hy; rfl) (hd 7 rfl) ?_ (fun ch hp => by simp at hp)
  rintro _ ⟨⟩; refine jo_l (ly_ff (ly_gt rfl rfl) (by rw [lenN_trm]; omega)) (hd 8 rfl) <| jo_nil <| jc_litf rfl <| jc_skip <| zsr <| zmv rfl (hd 9 rfl) <| zas rfl (hd 2 rfl) <| zas rfl (hd 3 rfl) <| jo_nil <| jc_ret ?_
  refine ⟨[0], _, (.t [.o 0 0 0 (trm l).length, .i .i64 0]), (.cons rfl (.cons rfl .nil)), rfl, rfl, (by decide), (by first | exact idless_cons ints_id idless_nil | exact idless_cons rfl idless_nil), ?_⟩
  exact ⟨rfl, rfl⟩

theorem product_n (a b : List Int) (hla : a.length < 4294967296) (hlb : b.length < 4294967296) (ua : u64s a) (ub : u64s b) (hf : lenV (vl a * vl b) ≤ 67108864) : SpecM Tryz.prog 88 [.n false .u64 a, .n false .u64 b, .f 89 []] [] (fun o G => o = .ret (.t [.o 0 0 0 (lm (vl a * vl b)).length, .i .i64 0]) ∧ G = [⟨79, 1, 0, true, ints .u64 (lm (vl a * vl b))⟩]) := by
  refine specS_of [(0, .n false .u64 a), (1, .n false .u64 b), (2, .f 89 [])] rfl Tryz.func88 rfl (zlb rfl) fun Γ hN hds hL hR => ?_
  have hd := hdOf 22 hN
  have hma := trm_len a
  have hmb := trm_len b
  refine zsr <| zas rfl (hd 6 rfl) <| zas rfl (hd 7 rfl) <| jo_nil <| zsr <| zmv rfl (hd 8 rfl) ?_
  refine jo_call Tryz.f51 (Norm_s a (by omega)) rfl Tryz.func51 rfl rfl (ovL_cons rfl ovL_nil) (.cons .n .nil) (hd 9 rfl) ?_ (fun ch hp => by simp at hp)
  rintro _ ⟨⟩; refine zmv rfl (hd 10 rfl) ?_
  refine jo_call Tryz.f51 (Norm_s b (by omega)) rfl Tryz.func51 rfl rfl (ovL_cons rfl ovL_nil) (.cons .n .nil) (hd 11 rfl) ?_ (fun ch hp => by simp at hp)
  rintro _ ⟨⟩; refine zas rfl (hd 0 rfl) <| zas rfl (hd 1 rfl) <| jo_nil <| jc_seq <| zsr <| zmv rfl (hd 12 rfl) <| zmv rfl (hd 13 rfl) ?_
  refine jo_call Tryz.f114 (great_e (trm a) (trm b) (by omega) (by omega) (u64s_trm ua) (u64s_trm ub)) rfl Tryz.func114 rfl rfl (ovL_cons rfl (ovL_cons rfl ovL_nil)) (.cons .n (.cons .n .nil)) (hd 14 rfl) ?_ (fun ch hp => by simp at hp)
  rintro y ⟨x, hy, hx⟩; injection hy with hy; subst hy; refine jo_nil ?_
  refine jc_cond rfl (fun h1 => ?_) (fun h1 => ?_)
  · exfalso
    obtain ⟨g1, g2, g3⟩ := hx h1
    have h9 := errN_great (r := []) (u64s_trm ua) (u64s_trm ub) g1 g2 g3
    rw [vl_trm, vl_trm] at h9
    rcases h9 with ⟨h8, _⟩ | ⟨_, h8⟩ <;> omega
  · refine jc_skip <| zsr <| zmv rfl (hd 15 rfl) <| zmv rfl (hd 16 rfl) <| zmv rfl (hd 17 rfl) ?_
    refine jo_call Tryz.f89 (way_s (trm a) (trm b) (by omega) (by omega) (u64s_trm ua) (u64s_trm ub)) rfl Tryz.func89 rfl rfl (ovL_cons rfl (ovL_cons rfl ovL_nil)) (.cons .n (.cons .n .nil)) (hd 18 rfl) ?_ (fun ch hp => by simp at hp)
    rintro y ⟨rs, hy, us, ls, vs⟩; injection hy with hy; subst hy
    refine jo_callN Tryz.f115 (mfits_n rs (by omega) us (by rw [lenN_lenV us rfl, vs, vl_trm, vl_trm]; exact hf)) (fun o G ⟨_, h⟩ => h ▸ idless_cons ints_id idless_nil) rfl Tryz.func115 rfl rfl (ovL_cons rfl ovL_nil) (.cons .n .nil) (hd 19 rfl) ?_ (fun ch G hp => by simp at hp)
    rintro y G ⟨hy, rfl⟩; injection hy with hy; subst hy
    show JO _ _ _ _ ((19, .t [.o 0 0 0 (trm rs).length, .i .i64 0]) :: _) _ _
    refine jo_l (ly_ext rfl rfl) (hd 20 rfl) <| jo_l (ly_ext rfl rfl) (hd 21 rfl) <| zas rfl (hd 6 rfl) <| zas rfl (hd 7 rfl) <| jo_nil <| jc_ret ?_
    refine ⟨[0], _, (.t [.o 0 0 0 (trm rs).length, .i .i64 0]), (.cons rfl (.cons rfl .nil)), rfl, rfl, (by decide), (by first | exact idless_cons ints_id idless_nil | exact idless_cons rfl idless_nil), ?_⟩
    rw [trm_lm us (show vl rs = vl a * vl b by rw [vs, vl_trm, vl_trm])]
    exact ⟨rfl, rfl⟩

theorem Mul_nn (x y : Nat) (hx : lenV (x : Int) ≤ 67108864) (hy : lenV (y : Int) ≤ 67108864) (hf : lenV ((x * y : Nat) : Int) ≤ 67108864) : SpecM Tryz.prog 41 [.n false .u64 (lm (x : Int)), .n false .u64 (lm (y : Int))] [] (fun o G => o = .ret (.t [.o 0 0 0 (lm ((x * y : Nat) : Int)).length, .i .i64 0]) ∧ G = [⟨79, 1, 0, true, ints .u64 (lm ((x * y : Nat) : Int))⟩]) := by
  refine specS_of [(0, .n false .u64 (lm (x : Int))), (1, .n false .u64 (lm (y : Int)))] rfl Tryz.func41 rfl (zlb rfl) fun Γ hN hds hL hR => ?_
  have hd := hdOf 11 hN
  have hlx := lenV_lm hx
  have hly := lenV_lm hy
  have hPr : SpecM Tryz.prog 88 [.n false .u64 (lm (x : Int)), .n false .u64 (lm (y : Int)), .f 89 []] [] (fun o G => o = .ret (.t [.o 0 0 0 (lm ((x * y : Nat) : Int)).length, .i .i64 0]) ∧ G = [⟨79, 1, 0, true, ints .u64 (lm ((x * y : Nat) : Int))⟩]) := by
    have h := product_n (lm (x : Int)) (lm (y : Int)) (by omega) (by omega) (lm_u _) (lm_u _) (by rw [vl_lm (Int.natCast_nonneg _), vl_lm (Int.natCast_nonneg _), ← Int.natCast_mul]; exact hf)
    rw [vl_lm (Int.natCast_nonneg _), vl_lm (Int.natCast_nonneg _), ← Int.natCast_mul] at h
    exact h
  refine zsr <| zas rfl (hd 4 rfl) <| zas rfl (hd 5 rfl) <| jo_nil <| zsr <| zmv rfl (hd 6 rfl) <| zmv rfl (hd 7 rfl) ?_
  refine jo_callN Tryz.f88 (hPr) (fun o G ⟨_, h⟩ => h ▸ idless_cons ints_id idless_nil) rfl Tryz.func88 rfl rfl (ovL_cons rfl (ovL_cons rfl (ovL_cons rfl ovL_nil))) (.cons .n (.cons .n (.cons .f .nil))) (hd 8 rfl) ?_ (fun ch G hp => by simp at hp)
  rintro y G ⟨hy, rfl⟩; injection hy with hy; subst hy
  show JO _ _ _ _ ((8, .t [.o 0 0 0 (lm ((x * y : Nat) : Int)).length, .i .i64 0]) :: _) _ _
  refine jo_l (ly_ext rfl rfl) (hd 9 rfl) <| jo_l (ly_ext rfl rfl) (hd 10 rfl) <| zas rfl (hd 4 rfl) <| zas rfl (hd 5 rfl) <| jo_nil <| jc_ret ?_
  refine ⟨[0], _, (.t [.o 0 0 0 (lm ((x * y : Nat) : Int)).length, .i .i64 0]), (.cons rfl (.cons rfl .nil)), rfl, rfl, (by decide), (by first | exact idless_cons ints_id idless_nil | exact idless_cons rfl idless_nil), ?_⟩
  exact ⟨rfl, rfl⟩

theorem QInt_n (v : Int) (hv : inI v) : SpecM Tryz.prog 40 [.i .i64 v] [] (fun o G => o = .ret (.a [.b (decide (v < 0)), .o 0 0 0 (lm v).length, .o 1 0 0 1]) ∧ G = [⟨79, 1, 0, true, ints .u64 (lm v)⟩, ⟨79, 1, 0, true, ints .u64 [1]⟩]) := by
  refine specS_of [(0, .i .i64 v)] rfl Tryz.func40 rfl (zlb rfl) fun Γ hN hds hL hR => ?_
  have hd := hdOf 7 hN
  have hF1 : SpecM Tryz.prog 68 [.i .u64 1] [] (fun o G => o = .ret (.o 0 0 0 1) ∧ G = [⟨79, 1, 0, true, ints .u64 [1]⟩]) := From_n 1
  refine zsr <| jo_h (hy_alloc (id := 0) zero1027 (by decide) rfl (by decide) rfl) (hd 2 rfl) <| jo_nil <| zsr <| zmv rfl (hd 3 rfl) ?_
  refine jo_callN Tryz.f87 (Of_n v hv.1 hv.2) (fun o G ⟨_, h⟩ => h ▸ idless_cons ints_id idless_nil) rfl Tryz.func87 rfl rfl (ovL_cons rfl ovL_nil) (.cons .i .nil) (hd 4 rfl) ?_ (fun ch G hp => by simp at hp)
  rintro y G ⟨hy, rfl⟩; injection hy with hy; subst hy
  show JO _ _ _ _ ((4, .a [.b (decide (v < 0)), .o 1 0 0 (lm v).length]) :: _) _ _
  refine jo_callN Tryz.f68 (hF1) (fun o G ⟨_, h⟩ => h ▸ idless_cons ints_id idless_nil) rfl Tryz.func68 rfl rfl (ovL_cons rfl ovL_nil) (.cons .i .nil) (hd 5 rfl) ?_ (fun ch G hp => by simp at hp)
  rintro y G ⟨hy, rfl⟩; injection hy with hy; subst hy
  show JO _ _ _ _ ((5, .o 2 0 0 1) :: _) _ _
  refine jo_l (ly_build (is := [0, 1]) (xs := [.tmp 4, .tmp 5]) zero1027 pls1027_0_1 rfl (ovL_cons rfl (ovL_cons rfl ovL_nil)) rfl ⟨rfl, (by decide), rfl, (by decide), trivial⟩ (all_of rfl) rfl) (hd 6 rfl) <| jo_st (sy_store rfl rfl rfl siz1027 rfl rfl (zlb rfl)) <| jo_nil <| jc_ret ?_
  refine ⟨[1, 2], _, (.a [.b (decide (v < 0)), .o 0 0 0 (lm v).length, .o 1 0 0 1]), (.cons (ResV.cell agg1027 rfl rfl rfl rfl) .nil), rfl, rfl, (by decide), (idless_cons ints_id (idless_cons ints_id idless_nil)), ?_⟩
  exact ⟨rfl, rfl⟩

theorem zs_add {b : Bool} {m n : Nat} : zs b (m + n) = zs b m + zs b n := by unfold zs; cases b <;> simp <;> omega
theorem zs_sub1 {b c : Bool} {m n : Nat} (hbc : (b == c) = false) (h : n ≤ m) : zs b (m - n) = zs b m + zs c n := by unfold zs; cases b <;> cases c <;> simp at hbc ⊢ <;> omega
theorem zs_sub2 {b c : Bool} {m n : Nat} (hbc : (b == c) = false) (h : m ≤ n) : zs c (n - m) = zs b m + zs c n := by unfold zs; cases b <;> cases c <;> simp at hbc ⊢ <;> omega
theorem zs_mul2 {b c : Bool} {m n : Nat} : zs (b != c) (m * n) = zs b m * zs c n := by unfold zs; cases b <;> cases c <;> simp [Int.neg_mul, Int.mul_neg]
theorem Qe.make {b : Bool} {x y : Nat} {z : Int} {Y : Nat} (h : Qe b x y z Y) : sgq b x = decide (z < 0) ∧ rn0 x y = nn z Y ∧ rd0 x y = dd z Y := ⟨h.sgn, h.low.1, h.low.2⟩
theorem add_ref {b c e : Bool} {n1 d1 n2 d2 N : Nat} {z w : Int} {Y X : Nat} (q1 : Qe b n1 d1 z Y) (q2 : Qe c n2 d2 w X) (hN : zs e N = zs b n1 * (d2 : Int) + zs c n2 * (d1 : Int)) : Qe e N (d1 * d2) (z * (X : Int) + w * (Y : Int)) (Y * X) :=
  ⟨Nat.mul_ne_zero q1.1 q2.1, Nat.mul_ne_zero q1.2.1 q2.2.1, by rw [hN]; exact q1.add q2⟩
theorem mul_ref {b c : Bool} {n1 d1 n2 d2 : Nat} {z w : Int} {Y X : Nat} (q1 : Qe b n1 d1 z Y) (q2 : Qe c n2 d2 w X) : Qe (b != c) (n1 * n2) (d1 * d2) (z * w) (Y * X) :=
  ⟨Nat.mul_ne_zero q1.1 q2.1, Nat.mul_ne_zero q1.2.1 q2.2.1, by rw [zs_mul2]; exact q1.mul q2⟩
theorem Qe.neg {s : Bool} {x y : Nat} {z : Int} {Y : Nat} (h : Qe s x y z Y) : Qe (sgq (!s) x) (rn0 x y) (rd0 x y) (-z) Y := by
  have h1 : Qe (!s) x y (-z) Y := ⟨h.1, h.2.1, by rw [show zs (!s) x = -zs s x by unfold zs; cases s <;> simp, Int.neg_mul, Int.neg_mul, h.2.2]⟩
  exact h1.low'
def ngb (b : Bool) (n : Nat) : Bool := if n = 0 then b else !b
theorem Qe.negb {b : Bool} {x y : Nat} {z : Int} {Y : Nat} (h : Qe b x y z Y) : Qe (ngb b x) x y (-z) Y := by
  refine ⟨h.1, h.2.1, ?_⟩
  have : zs (ngb b x) x = -zs b x := by
    unfold ngb zs
    by_cases hx : x = 0
    · rw [if_pos hx, hx]; cases b <;> simp
    · rw [if_neg hx]; cases b <;> simp
  rw [this, Int.neg_mul, Int.neg_mul, h.2.2]
theorem cmpI_ge {x y : Nat} (h : 0 ≤ cmpI (x : Int) (y : Int)) : y ≤ x := by unfold cmpI at h; (repeat' split at h) <;> omega
theorem cmpI_lt {x y : Nat} (h : ¬ 0 ≤ cmpI (x : Int) (y : Int)) : x ≤ y := by unfold cmpI at h; (repeat' split at h) <;> omega
theorem lenV_mn {m n L : Nat} (h : lenV (m : Int) + lenV (n : Int) ≤ L) : lenV ((m * n : Nat) : Int) ≤ L := by
  rw [Int.natCast_mul]
  exact Nat.le_trans (lenV_mul _ _) h
theorem lenV_an {m n L : Nat} (h1 : lenV (m : Int) ≤ L) (h2 : lenV (n : Int) ≤ L) : lenV ((m + n : Nat) : Int) ≤ L + 1 := by
  rw [Int.natCast_add]
  have := lenV_add (m : Int) (n : Int)
  omega

theorem QAdd_n (s : Bool) (l d : List Int) (x y : Nat) (hx : Rw l x) (hy : Rw d y) (z : Int) (Y : Nat) (q1 : Qe s x y z Y) (s2 : Bool) (l2 d2 : List Int) (x2 y2 : Nat) (hx2 : Rw l2 x2) (hy2 : Rw d2 y2) (w : Int) (X : Nat) (q2 : Qe s2 x2 y2 w X) (hB : lenV (x : Int) + lenV (y : Int) + lenV (x2 : Int) + lenV (y2 : Int) + 1 ≤ 67108864) : SpecM Tryz.prog 6 [(.a [.b s, .n false .u64 l, .n false .u64 d]), (.a [.b s2, .n false .u64 l2, .n false .u64 d2])] [] (fun o G => o = .ret (.t [.a [.b (decide ((z * (X : Int) + w * (Y : Int)) < 0)), .o 0 0 0 (lm ((nn (z * (X : Int) + w * (Y : Int)) (Y * X) : Nat) : Int)).length, .o 1 0 0 (lm ((dd (z * (X : Int) + w * (Y : Int)) (Y * X) : Nat) : Int)).length], .i .i64 0]) ∧ G = [⟨79, 1, 0, true, ints .u64 (lm ((nn (z * (X : Int) + w * (Y : Int)) (Y * X) : Nat) : Int))⟩, ⟨79, 1, 0, true, ints .u64 (lm ((dd (z * (X : Int) + w * (Y : Int)) (Y * X) : Nat) : Int))⟩]) := by
  refine specS_ofD [(0, (.a [.b s, .n false .u64 l, .n false .u64 d])), (1, (.a [.b s2, .n false .u64 l2, .n false .u64 d2]))] rfl Tryz.func6 rfl (zlb rfl) fun Γ 𝓡 hN hds hL hR hE => ?_
  have hd := hdOf 99 hN
  have h0 := q1.1
  have h02 := q2.1
  have bN1 : lenV ((rn0 x y : Nat) : Int) ≤ lenV (x : Int) := rn0_b (Nat.le_refl _)
  have bD1 : lenV ((rd0 x y : Nat) : Int) ≤ lenV (y : Int) := rd0_b (Nat.le_refl _)
  have bN2 : lenV ((rn0 x2 y2 : Nat) : Int) ≤ lenV (x2 : Int) := rn0_b (Nat.le_refl _)
  have bD2 : lenV ((rd0 x2 y2 : Nat) : Int) ≤ lenV (y2 : Int) := rd0_b (Nat.le_refl _)
  obtain ⟨g9, eg⟩ : ∃ g9 : Nat, g9 = Nat.gcd (rd0 x y) (rd0 x2 y2) := ⟨_, rfl⟩
  have hG1 : Spec Tryz.prog 33 [.n false .u64 (lm (((rd0 x y) : Nat) : Int)), .n false .u64 (lm (((rd0 x2 y2) : Nat) : Int))] (fun o => o = .ret (.n false .u64 (lm (g9 : Int)))) := by
    rw [eg]
    have h := Gcd_v (lm (((rd0 x y) : Nat) : Int)) (lm (((rd0 x2 y2) : Nat) : Int)) (rd0 x y) (rd0 x2 y2) (Rw.of (by omega)).l (Rw.of (by omega)).l (lm_u _) (lm_u _) (Rw.of (by omega)).v (Rw.of (by omega)).v
    exact h
  have hg0 : 0 < g9 := by rw [eg]; exact gcd_pos' q2.d0
  have bg : lenV (g9 : Int) ≤ 67108864 := by rw [eg]; exact gcd_b q2.d0 (by omega)
  obtain ⟨p9, ep⟩ : ∃ p9 : Nat, p9 = (rd0 x y) / g9 := ⟨_, rfl⟩
  have hQ1 : Spec Tryz.prog 35 [.n false .u64 (lm (((rd0 x y) : Nat) : Int)), .n false .u64 (lm (g9 : Int))] (fun o => o = .ret (.t [.n false .u64 (lm (p9 : Int)), .i .i64 0])) := by
    rw [ep]
    have h := Quo_v (((rd0 x y) : Nat) : Int) (g9 : Int) (by omega) bg (by omega)
    rw [qn_nt] at h
    exact h
  obtain ⟨q9, eq9⟩ : ∃ q9 : Nat, q9 = (rd0 x2 y2) / g9 := ⟨_, rfl⟩
  have hQ2 : Spec Tryz.prog 35 [.n false .u64 (lm (((rd0 x2 y2) : Nat) : Int)), .n false .u64 (lm (g9 : Int))] (fun o => o = .ret (.t [.n false .u64 (lm (q9 : Int)), .i .i64 0])) := by
    rw [eq9]
    have h := Quo_v (((rd0 x2 y2) : Nat) : Int) (g9 : Int) (by omega) bg (by omega)
    rw [qn_nt] at h
    exact h
  have bp : lenV (p9 : Int) ≤ lenV (y : Int) := by rw [ep]; exact Nat.le_trans (lenV_nat (Nat.div_le_self _ _)) bD1
  have bq : lenV (q9 : Int) ≤ lenV (y2 : Int) := by rw [eq9]; exact Nat.le_trans (lenV_nat (Nat.div_le_self _ _)) bD2
  obtain ⟨L9, eL⟩ : ∃ L9 : Int, L9 = zs (sgq s x) (rn0 x y) * (q9 : Int) := ⟨_, rfl⟩
  have beL : lenV L9 ≤ lenV (x : Int) + lenV (y2 : Int) := by rw [eL]; have h9 := lenV_mul (zs (sgq s x) (rn0 x y)) (q9 : Int); rw [lenV_zs] at h9; omega
  have hM1 : Spec Tryz.prog 37 [.a [.b (sgq s x), .n false .u64 (lm (((rn0 x y) : Nat) : Int))], .a [.b false, .n false .u64 (lm (q9 : Int))]] (fun o => o = .ret (.t [.a [.b (decide (L9 < 0)), .n true .u64 (lm L9)], .i .i64 0])) := by
    have h := WMul_rv (sgq s x) false (lm (((rn0 x y) : Nat) : Int)) (lm (q9 : Int)) (zs (sgq s x) (rn0 x y)) (q9 : Int) (by have := (Rw.of (x := (rn0 x y)) (by omega)).l; omega) (by have := (Rw.of (x := q9) (by omega)).l; omega) (lm_u _) (lm_u _) sv_zs (vl_lm (Int.natCast_nonneg _)) (by rw [← eL]; omega)
    rwa [← eL] at h
  obtain ⟨R9, eR⟩ : ∃ R9 : Int, R9 = zs (sgq s2 x2) (rn0 x2 y2) * (p9 : Int) := ⟨_, rfl⟩
  have beR : lenV R9 ≤ lenV (x2 : Int) + lenV (y : Int) := by rw [eR]; have h9 := lenV_mul (zs (sgq s2 x2) (rn0 x2 y2)) (p9 : Int); rw [lenV_zs] at h9; omega
  have hM2 : Spec Tryz.prog 37 [.a [.b (sgq s2 x2), .n false .u64 (lm (((rn0 x2 y2) : Nat) : Int))], .a [.b false, .n false .u64 (lm (p9 : Int))]] (fun o => o = .ret (.t [.a [.b (decide (R9 < 0)), .n true .u64 (lm R9)], .i .i64 0])) := by
    have h := WMul_rv (sgq s2 x2) false (lm (((rn0 x2 y2) : Nat) : Int)) (lm (p9 : Int)) (zs (sgq s2 x2) (rn0 x2 y2)) (p9 : Int) (by have := (Rw.of (x := (rn0 x2 y2)) (by omega)).l; omega) (by have := (Rw.of (x := p9) (by omega)).l; omega) (lm_u _) (lm_u _) sv_zs (vl_lm (Int.natCast_nonneg _)) (by rw [← eR]; omega)
    rwa [← eR] at h
  obtain ⟨S9, eS⟩ : ∃ S9 : Int, S9 = L9 + R9 := ⟨_, rfl⟩
  have bS : lenV S9 ≤ 67108864 := by rw [eS]; have h9 := lenV_add L9 R9; omega
  have hA1 : Spec Tryz.prog 38 [.a [.b (decide (L9 < 0)), .n false .u64 (lm L9)], .a [.b (decide (R9 < 0)), .n false .u64 (lm R9)]] (fun o => o = .ret (.t [.a [.b (decide (S9 < 0)), .n true .u64 (lm S9)], .i .i64 0])) := by
    have h := WAdd_rv (decide (L9 < 0)) (decide (R9 < 0)) (lm L9) (lm R9) L9 R9 (by have := lenV_lm (v := L9) (by omega); omega) (by have := lenV_lm (v := R9) (by omega); omega) (lm_u _) (lm_u _) (sv_lm L9) (sv_lm R9) (by rw [← eS]; exact bS)
    rwa [← eS] at h
  have bSa : lenV ((S9.natAbs : Nat) : Int) ≤ 67108864 := by rw [lenV_abs]; exact bS
  have hlS := lenV_lm bS
  obtain ⟨k9, ek⟩ : ∃ k9 : Nat, k9 = Nat.gcd S9.natAbs g9 := ⟨_, rfl⟩
  have hG2 : Spec Tryz.prog 33 [.n false .u64 (lm S9), .n false .u64 (lm ((g9 : Nat) : Int))] (fun o => o = .ret (.n false .u64 (lm (k9 : Int)))) := by
    rw [ek]
    have h := Gcd_v (lm ((S9.natAbs : Nat) : Int)) (lm ((g9 : Nat) : Int)) S9.natAbs g9 (Rw.of bSa).l (Rw.of bg).l (lm_u _) (lm_u _) (Rw.of bSa).v (Rw.of bg).v
    rwa [lm_abs] at h
  have hk0 : 0 < k9 := by rw [ek]; exact Nat.gcd_pos_of_pos_right _ hg0
  have bk : lenV (k9 : Int) ≤ 67108864 := by rw [ek]; exact gcd_b (by omega) bg
  obtain ⟨m9, em⟩ : ∃ m9 : Nat, m9 = S9.natAbs / k9 := ⟨_, rfl⟩
  have hQ3 : Spec Tryz.prog 35 [.n false .u64 (lm S9), .n false .u64 (lm (k9 : Int))] (fun o => o = .ret (.t [.n false .u64 (lm (m9 : Int)), .i .i64 0])) := by
    rw [em]
    have h := Quo_v ((S9.natAbs : Nat) : Int) (k9 : Int) bSa bk (by omega)
    rw [qn_nt, lm_abs] at h
    exact h
  obtain ⟨r9, er⟩ : ∃ r9 : Nat, r9 = (rd0 x2 y2) / k9 := ⟨_, rfl⟩
  have hQ4 : Spec Tryz.prog 35 [.n false .u64 (lm (((rd0 x2 y2) : Nat) : Int)), .n false .u64 (lm (k9 : Int))] (fun o => o = .ret (.t [.n false .u64 (lm (r9 : Int)), .i .i64 0])) := by
    rw [er]
    have h := Quo_v (((rd0 x2 y2) : Nat) : Int) (k9 : Int) (by omega) bk (by omega)
    rw [qn_nt] at h
    exact h
  have br : lenV (r9 : Int) ≤ lenV (y2 : Int) := by rw [er]; exact Nat.le_trans (lenV_nat (Nat.div_le_self _ _)) bD2
  obtain ⟨t9, et⟩ : ∃ t9 : Nat, t9 = p9 * r9 := ⟨_, rfl⟩
  have hM3 : Spec Tryz.prog 41 [.n false .u64 (lm (p9 : Int)), .n false .u64 (lm (r9 : Int))] (fun o => o = .ret (.t [.n true .u64 (lm (t9 : Int)), .i .i64 0])) := by
    have hb9 : lenV ((t9 : Nat) : Int) ≤ 67108864 := by rw [et, Int.natCast_mul]; have h9 := lenV_mul (p9 : Int) (r9 : Int); omega
    refine (Mul_l (lm (p9 : Int)) (lm (r9 : Int)) (by have := (Rw.of (x := p9) (by omega)).l; omega) (by have := (Rw.of (x := r9) (by omega)).l; omega) (lm_u _) (lm_u _)).mono fun o ⟨r, e, ho, hr⟩ => ?_
    rw [vl_lm (Int.natCast_nonneg _), vl_lm (Int.natCast_nonneg _), ← Int.natCast_mul, ← et] at hr
    obtain ⟨rfl, rfl⟩ := errL_fit hr hb9
    exact ho
  have hz := add_all q1 q2 (S := S9) (by rw [eS, eL, eR, ep, eq9, eg])
  rw [← eg, ← ek, ← em, ← er, ← ep, ← et] at hz
  obtain ⟨hz1, hz2, hz3, hz4⟩ := hz
  have hW0 : Y * X ≠ 0 := Nat.mul_ne_zero q1.2.1 q2.2.1
  have hQ3n : SpecM Tryz.prog 35 [.n false .u64 (lm S9), .n false .u64 (lm (k9 : Int))] [] (fun o G => o = .ret (.t [.o 0 0 0 (lm (m9 : Int)).length, .i .i64 0]) ∧ G = [⟨79, 1, 0, true, ints .u64 (lm (m9 : Int))⟩]) := by
    rw [em]
    have h := Quo_n (S9.natAbs) k9 bSa bk (by omega)
    rwa [lm_abs] at h
  have bp9 : lenV (p9 : Int) ≤ 67108864 := by omega
  have hM3n : SpecM Tryz.prog 41 [.n false .u64 (lm (p9 : Int)), .n false .u64 (lm (r9 : Int))] [] (fun o G => o = .ret (.t [.o 0 0 0 (lm (t9 : Int)).length, .i .i64 0]) ∧ G = [⟨79, 1, 0, true, ints .u64 (lm (t9 : Int))⟩]) := by
    rw [et]
    exact Mul_nn p9 r9 (by omega) (by omega) (lenV_mn (by omega))
  refine jcp_seq <| jc_region <| jo_h (hy_box (id := 0) (n := 3) rfl rfl rfl (by decide) rfl) (hd 2 rfl) <| jo_h (hy_box (id := 1) (n := 3) rfl rfl rfl (by decide) rfl) (hd 3 rfl) <| jo_h (hy_alloc (id := 2) zero1027 (by decide) rfl (by decide) rfl) (hd 4 rfl) <| jo_h (hy_alloc (id := 3) zero23 (by decide) rfl (by decide) rfl) (hd 5 rfl) <| jo_nil <| jcd_defer (g := 29) (caps := [.p 2 0 0, .p 3 0 0]) 4 [_] (ops := [_, _]) rfl Tryz.func29 rfl rfl rfl hds hR hL hE <| jo_l (ly_mf (ovL_cons rfl (ovL_cons rfl ovL_nil))) (hd 15 rfl) <| jo_nil ?_
  refine ⟨rfl, rfl, rfl, ?_⟩
  intro Γ1 hN1 hL hR1
  replace hd : ∀ d, Nat.blt d 99 = true → d < Γ1.N := fun d h => by rw [hN1]; exact hd d h
  refine jo_nil <| zsr <| jo_l (ly_lda agg1027 rfl rfl rfl rfl) (hd 16 rfl) <| jo_l (ly_lda agg1027 rfl rfl rfl rfl) (hd 17 rfl) <| jo_h (hy_lit (id := 4) (xs := [.tmp 16, .tmp 17]) el1084 rfl (ovL_cons rfl (ovL_cons rfl ovL_nil)) rfl (all2_of rfl) (by decide) rfl) (hd 18 rfl) <| jo_frzr 18 (sz := 3) [[V.b s, V.n false .u64 l, V.n false .u64 d], [V.b s2, V.n false .u64 l2, V.n false .u64 d2]] rfl rfl rfl rfl (by simp) (by simp [pureV]) (by decide) hL ?_
  refine jo_call Tryz.f31 (looked_2 s l d y s2 l2 d2 y2 hy h0 hy2 h02) rfl Tryz.func31 rfl rfl (ovL_cons rfl ovL_nil) (.cons .l .nil) (hd 19 rfl) ?_ (fun ch hp => by simp at hp)
  rintro _ ⟨⟩; refine jo_nil <| jc_seq <| jc_nopan <| jc_draw (n := 6) _ rfl mixed <| zal2 0 [1, 3, 4, 5] (lo_l (ly_lda agg1027 rfl rfl rfl rfl) (hd 20 rfl)) rfl <| zal2 2 [3, 4, 5] (lo_l (ly_lda agg1027 rfl rfl rfl rfl) (hd 22 rfl)) rfl ?_
  refine ja_1 1 ?_ rfl (by kernel_rfl)
  refine js_call Tryz.f32 (qnorm_s s l d x y hx hy h0) rfl Tryz.func32 rfl rfl (ovL_cons rfl ovL_nil) (.cons (.a1 .b (.a1 .n (.a1 .n .a0))) .nil) (hd 21 rfl) ?_ (fun ch hp => by simp at hp)
  rintro y hy; injection hy with hy; subst hy
  refine ja_1 3 ?_ rfl (by kernel_rfl)
  refine js_call Tryz.f32 (qnorm_s s2 l2 d2 x2 y2 hx2 hy2 h02) rfl Tryz.func32 rfl rfl (ovL_cons rfl ovL_nil) (.cons (.a1 .b (.a1 .n (.a1 .n .a0))) .nil) (hd 23 rfl) ?_ (fun ch hp => by simp at hp)
  rintro y hy; injection hy with hy; subst hy
  refine ja_1 4 ?_ rfl (by kernel_rfl)
  refine js_st (sy_store rfl rfl rfl siz1027 rfl rfl (zlb rfl)) rfl ?_
  refine ja_1 5 ?_ rfl (by kernel_rfl)
  refine js_st (sy_store rfl rfl rfl siz1027 rfl rfl (zlb rfl)) rfl <| ja_nil (by kernel_rfl) <| jc_seq <| jc_H (H' := [⟨27, 3, 0, true, [.b (sgq s x), .n false .u64 (lm ((rn0 x y : Nat) : Int)), .n false .u64 (lm ((rd0 x y : Nat) : Int))]⟩, ⟨27, 3, 0, true, [.b (sgq s2 x2), .n false .u64 (lm ((rn0 x2 y2 : Nat) : Int)), .n false .u64 (lm ((rd0 x2 y2 : Nat) : Int))]⟩, ⟨27, 3, 0, true, [.b false, .c (.slice none 0 0), .c (.slice none 0 0)]⟩, ⟨33, 1, 0, true, [.i .i64 0]⟩, ⟨27, 3, 0, false, []⟩]) rfl <| jc_region <| jo_l (ly_fa fld1027_1 rfl rfl rfl) (hd 24 rfl) <| jo_l (ly_ld one28 rfl rfl rfl) (hd 25 rfl) <| jo_l (ly_fa fld1027_1 rfl rfl rfl) (hd 26 rfl) <| jo_l (ly_ld one28 rfl rfl rfl) (hd 27 rfl) ?_
  refine jo_call Tryz.f33 (hG1) rfl Tryz.func33 rfl rfl (ovL_cons rfl (ovL_cons rfl ovL_nil)) (.cons .n (.cons .n .nil)) (hd 28 rfl) ?_ (fun ch hp => by simp at hp)
  rintro _ ⟨⟩; refine zas rfl (hd 6 rfl) <| jo_nil <| jc_seq <| jc_nopan <| jc_draw (n := 16) _ rfl mixed <| zal2 0 [1, 3, 4, 5, 6, 10, 11, 12, 13, 14, 15] (lo_l (ly_fa fld1027_1 rfl rfl rfl) (hd 29 rfl)) rfl <| zal2 1 [3, 4, 5, 6, 10, 11, 12, 13, 14, 15] (lo_l (ly_ld one28 rfl rfl rfl) (hd 30 rfl)) rfl <| zal2 2 [3, 4, 5, 6, 10, 11, 12, 13, 14, 15] (lo_l (ly_mv rfl) (hd 31 rfl)) rfl <| zal2 7 [8, 10, 11, 12, 13, 14, 15] (lo_l (ly_fa fld1027_1 rfl rfl rfl) (hd 36 rfl)) rfl <| zal2 8 [10, 11, 12, 13, 14, 15] (lo_l (ly_ld one28 rfl rfl rfl) (hd 37 rfl)) rfl <| zal2 9 [10, 11, 12, 13, 14, 15] (lo_l (ly_mv rfl) (hd 38 rfl)) rfl ?_
  refine ja_1 3 ?_ rfl (by kernel_rfl)
  refine js_call Tryz.f35 (hQ1) rfl Tryz.func35 rfl rfl (ovL_cons rfl (ovL_cons rfl ovL_nil)) (.cons .n (.cons .n .nil)) (hd 32 rfl) ?_ (fun ch hp => by simp at hp)
  rintro _ ⟨⟩; refine zal2 4 [6, 10, 11, 12, 13, 14, 15] (lo_l (ly_ext rfl rfl) (hd 33 rfl)) rfl <| zal2 5 [6, 10, 11, 12, 13, 14, 15] (lo_l (ly_ext rfl rfl) (hd 34 rfl)) rfl ?_
  refine ja_1 6 ?_ rfl (by kernel_rfl)
  refine js_call Tryz.f34 (mustN _) rfl Tryz.func34 rfl rfl (ovL_cons rfl (ovL_cons rfl ovL_nil)) (.cons .n (.cons .i .nil)) (hd 35 rfl) ?_ (fun ch hp => by simp at hp)
  rintro y hy; injection hy with hy; subst hy
  refine ja_1 10 ?_ rfl (by kernel_rfl)
  refine js_call Tryz.f35 (hQ2) rfl Tryz.func35 rfl rfl (ovL_cons rfl (ovL_cons rfl ovL_nil)) (.cons .n (.cons .n .nil)) (hd 39 rfl) ?_ (fun ch hp => by simp at hp)
  rintro _ ⟨⟩; refine zal2 11 [13, 14, 15] (lo_l (ly_ext rfl rfl) (hd 40 rfl)) rfl <| zal2 12 [13, 14, 15] (lo_l (ly_ext rfl rfl) (hd 41 rfl)) rfl ?_
  refine ja_1 13 ?_ rfl (by kernel_rfl)
  refine js_call Tryz.f34 (mustN _) rfl Tryz.func34 rfl rfl (ovL_cons rfl (ovL_cons rfl ovL_nil)) (.cons .n (.cons .i .nil)) (hd 42 rfl) ?_ (fun ch hp => by simp at hp)
  rintro _ ⟨⟩; refine zal 14 (lo_l (ly_as rfl) (hd 7 rfl)) rfl <| zal 15 (lo_l (ly_as rfl) (hd 8 rfl)) rfl <| ja_nil (by kernel_rfl) <| zsr <| jo_l (ly_fa fld1027_0 rfl rfl rfl) (hd 43 rfl) <| jo_l (ly_lda agg30 rfl rfl rfl rfl) (hd 44 rfl) <| zmv rfl (hd 45 rfl) <| jo_l (ly_build (is := [1]) (xs := [.tmp 45]) zero30 pls30_1 rfl (ovL_cons rfl ovL_nil) rfl (by first | (simp [plsOk, cellsV]; done) | (simp [plsOk, cellsV, old]; done)) (all_of rfl) rfl) (hd 46 rfl) ?_
  refine jo_call Tryz.f37 (hM1) rfl Tryz.func37 rfl rfl (ovL_cons rfl (ovL_cons rfl ovL_nil)) (.cons (.a1 .b (.a1 .n .a0)) (.cons (.a1 .b (.a1 .n .a0)) .nil)) (hd 47 rfl) ?_ (fun ch hp => by simp at hp)
  rintro _ ⟨⟩; refine jo_l (ly_ext rfl rfl) (hd 48 rfl) <| jo_l (ly_ext rfl rfl) (hd 49 rfl) ?_
  refine jo_call Tryz.f36 (mustW _ _) rfl Tryz.func36 rfl rfl (ovL_cons rfl (ovL_cons rfl ovL_nil)) (.cons (.a1 .b (.a1 .n .a0)) (.cons .i .nil)) (hd 50 rfl) ?_ (fun ch hp => by simp at hp)
  rintro _ ⟨⟩; refine jo_h (hy_alloc (id := 5) zero30 (by decide) rfl (by decide) rfl) (hd 9 rfl) <| jo_st (sy_store rfl rfl rfl siz30 rfl rfl (zlb rfl)) <| jo_nil <| jc_seq <| jc_H (H' := [⟨27, 3, 0, true, [.b (sgq s x), .n false .u64 (lm ((rn0 x y : Nat) : Int)), .n false .u64 (lm ((rd0 x y : Nat) : Int))]⟩, ⟨27, 3, 0, true, [.b (sgq s2 x2), .n false .u64 (lm ((rn0 x2 y2 : Nat) : Int)), .n false .u64 (lm ((rd0 x2 y2 : Nat) : Int))]⟩, ⟨27, 3, 0, true, [.b false, .c (.slice none 0 0), .c (.slice none 0 0)]⟩, ⟨33, 1, 0, true, [.i .i64 0]⟩, ⟨27, 3, 0, false, []⟩, ⟨25, 2, 0, true, [.b (decide (L9 < 0)), .n false .u64 (lm L9)]⟩]) rfl <| jc_region <| jo_l (ly_fa fld1027_0 rfl rfl rfl) (hd 51 rfl) <| jo_l (ly_lda agg30 rfl rfl rfl rfl) (hd 52 rfl) <| zmv rfl (hd 53 rfl) <| jo_l (ly_build (is := [1]) (xs := [.tmp 53]) zero30 pls30_1 rfl (ovL_cons rfl ovL_nil) rfl (by first | (simp [plsOk, cellsV]; done) | (simp [plsOk, cellsV, old]; done)) (all_of rfl) rfl) (hd 54 rfl) ?_
  refine jo_call Tryz.f37 (hM2) rfl Tryz.func37 rfl rfl (ovL_cons rfl (ovL_cons rfl ovL_nil)) (.cons (.a1 .b (.a1 .n .a0)) (.cons (.a1 .b (.a1 .n .a0)) .nil)) (hd 55 rfl) ?_ (fun ch hp => by simp at hp)
  rintro _ ⟨⟩; refine jo_l (ly_ext rfl rfl) (hd 56 rfl) <| jo_l (ly_ext rfl rfl) (hd 57 rfl) ?_
  refine jo_call Tryz.f36 (mustW _ _) rfl Tryz.func36 rfl rfl (ovL_cons rfl (ovL_cons rfl ovL_nil)) (.cons (.a1 .b (.a1 .n .a0)) (.cons .i .nil)) (hd 58 rfl) ?_ (fun ch hp => by simp at hp)
  rintro _ ⟨⟩; refine jo_h (hy_alloc (id := 6) zero30 (by decide) rfl (by decide) rfl) (hd 10 rfl) <| jo_st (sy_store rfl rfl rfl siz30 rfl rfl (zlb rfl)) <| jo_nil <| zsr <| jo_l (ly_lda agg30 rfl rfl rfl rfl) (hd 59 rfl) <| jo_l (ly_lda agg30 rfl rfl rfl rfl) (hd 60 rfl) ?_
  refine jo_call Tryz.f38 (hA1) rfl Tryz.func38 rfl rfl (ovL_cons rfl (ovL_cons rfl ovL_nil)) (.cons (.a1 .b (.a1 .n .a0)) (.cons (.a1 .b (.a1 .n .a0)) .nil)) (hd 61 rfl) ?_ (fun ch hp => by simp at hp)
  rintro _ ⟨⟩; refine jo_l (ly_ext rfl rfl) (hd 62 rfl) <| jo_l (ly_ext rfl rfl) (hd 63 rfl) ?_
  refine jo_call Tryz.f36 (mustW _ _) rfl Tryz.func36 rfl rfl (ovL_cons rfl (ovL_cons rfl ovL_nil)) (.cons (.a1 .b (.a1 .n .a0)) (.cons .i .nil)) (hd 64 rfl) ?_ (fun ch hp => by simp at hp)
  rintro _ ⟨⟩; refine jo_h (hy_alloc (id := 7) zero30 (by decide) rfl (by decide) rfl) (hd 11 rfl) <| jo_st (sy_store rfl rfl rfl siz30 rfl rfl (zlb rfl)) <| jo_nil <| jc_seq <| jc_H (H' := [⟨27, 3, 0, true, [.b (sgq s x), .n false .u64 (lm ((rn0 x y : Nat) : Int)), .n false .u64 (lm ((rd0 x y : Nat) : Int))]⟩, ⟨27, 3, 0, true, [.b (sgq s2 x2), .n false .u64 (lm ((rn0 x2 y2 : Nat) : Int)), .n false .u64 (lm ((rd0 x2 y2 : Nat) : Int))]⟩, ⟨27, 3, 0, true, [.b false, .c (.slice none 0 0), .c (.slice none 0 0)]⟩, ⟨33, 1, 0, true, [.i .i64 0]⟩, ⟨27, 3, 0, false, []⟩, ⟨25, 2, 0, true, [.b (decide (L9 < 0)), .n false .u64 (lm L9)]⟩, ⟨25, 2, 0, true, [.b (decide (R9 < 0)), .n false .u64 (lm R9)]⟩, ⟨25, 2, 0, true, [.b (decide (S9 < 0)), .n false .u64 (lm S9)]⟩]) rfl <| jc_region <| jo_l (ly_fa fld30_1 rfl rfl rfl) (hd 65 rfl) <| jo_l (ly_ld one28 rfl rfl rfl) (hd 66 rfl) <| zmv rfl (hd 67 rfl) ?_
  refine jo_call Tryz.f33 (hG2) rfl Tryz.func33 rfl rfl (ovL_cons rfl (ovL_cons rfl ovL_nil)) (.cons .n (.cons .n .nil)) (hd 68 rfl) ?_ (fun ch hp => by simp at hp)
  rintro _ ⟨⟩; refine zas rfl (hd 12 rfl) <| jo_nil <| jc_seq <| zsr <| jo_l (ly_fa fld30_1 rfl rfl rfl) (hd 69 rfl) <| jo_l (ly_ld one28 rfl rfl rfl) (hd 70 rfl) ?_
  refine jo_call Tryz.f39 (Length_v S9 (by omega)) rfl Tryz.func39 rfl rfl (ovL_cons rfl ovL_nil) (.cons .n .nil) (hd 71 rfl) ?_ (fun ch hp => by simp at hp)
  rintro _ ⟨⟩; refine jo_l (ly_eq rfl rfl) (hd 72 rfl) <| jo_nil ?_
  refine jc_if rfl (fun h1 => ?_) (fun h1 => ?_)
  · have hS0 : S9 = 0 := by have h9 : ((lenV S9 : Nat) : Int) = 0 := h1; have h7 := lenV_zero (x := S9.natAbs); rw [lenV_abs] at h7; have := h7.1 (by omega); omega
    refine jc_seq <| jc_region ?_
    refine jo_callN Tryz.f40 (QInt_n 0 (by unfold inI; omega)) (fun o G ⟨_, h⟩ => h ▸ idless_cons ints_id (idless_cons ints_id idless_nil)) rfl Tryz.func40 rfl rfl (ovL_cons rfl ovL_nil) (.cons .i .nil) (hd 73 rfl) ?_ (fun ch G hp => by simp at hp)
    rintro y G ⟨hy, rfl⟩; injection hy with hy; subst hy
    show JO _ _ _ _ ((73, .a [.b (decide ((0 : Int) < 0)), .o 8 0 0 (lm 0).length, .o 9 0 0 1]) :: _) _ _
    refine jo_st (sy_store rfl rfl rfl siz1027 rfl rfl (zlb rfl)) <| jo_st (sy_store rfl rfl rfl siz23 rfl rfl (zlb rfl)) <| jo_nil <| jc_ret <| Clo.fin clo_2347 (m := 4) (i := 2) (j := 3) (zlb rfl) rfl rfl rfl rfl ?_
    refine ⟨[8, 9], _, (.t [.a [.b (decide ((0 : Int) < 0)), .o 0 0 0 (lm 0).length, .o 1 0 0 1], .i .i64 0]), (.cons (ResV.cell agg1027 rfl rfl rfl rfl) (.cons (ResV.cell1 one23 rfl rfl rfl) .nil)), rfl, rfl, (by decide), (idless_cons ints_id (idless_cons ints_id idless_nil)), ?_⟩
    rw [hz4.1 hS0, nn_0, dd_0 hW0, lm_1n]
    exact ⟨rfl, rfl⟩
  · refine jc_skip <| jc_seq <| jc_H (H' := [⟨27, 3, 0, true, [.b (sgq s x), .n false .u64 (lm ((rn0 x y : Nat) : Int)), .n false .u64 (lm ((rd0 x y : Nat) : Int))]⟩, ⟨27, 3, 0, true, [.b (sgq s2 x2), .n false .u64 (lm ((rn0 x2 y2 : Nat) : Int)), .n false .u64 (lm ((rd0 x2 y2 : Nat) : Int))]⟩, ⟨27, 3, 0, true, [.b false, .c (.slice none 0 0), .c (.slice none 0 0)]⟩, ⟨33, 1, 0, true, [.i .i64 0]⟩, ⟨27, 3, 0, false, []⟩, ⟨25, 2, 0, true, [.b (decide (L9 < 0)), .n false .u64 (lm L9)]⟩, ⟨25, 2, 0, true, [.b (decide (R9 < 0)), .n false .u64 (lm R9)]⟩, ⟨25, 2, 0, true, [.b (decide (S9 < 0)), .n false .u64 (lm S9)]⟩]) rfl <| jc_region <| jo_l (ly_fa fld30_1 rfl rfl rfl) (hd 74 rfl) <| jo_l (ly_ld one28 rfl rfl rfl) (hd 75 rfl) <| zmv rfl (hd 76 rfl) ?_
    refine jo_callN Tryz.f35 (hQ3n) (fun o G ⟨_, h⟩ => h ▸ idless_cons ints_id idless_nil) rfl Tryz.func35 rfl rfl (ovL_cons rfl (ovL_cons rfl ovL_nil)) (.cons .n (.cons .n .nil)) (hd 77 rfl) ?_ (fun ch G hp => by simp at hp)
    rintro y G ⟨hy, rfl⟩; injection hy with hy; subst hy
    show JO _ _ _ _ ((77, .t [.o 8 0 0 (lm (m9 : Int)).length, .i .i64 0]) :: _) _ _
    refine jo_l (ly_ext rfl rfl) (hd 78 rfl) <| jo_l (ly_ext rfl rfl) (hd 79 rfl) <| jo_callU Tryz.f34 (fun u => mustU u) rfl Tryz.func34 rfl rfl rfl rfl (hd 80 rfl) <| zas rfl (hd 13 rfl) <| jo_nil <| zsr <| zmv rfl (hd 81 rfl) <| jo_l (ly_fa fld1027_1 rfl rfl rfl) (hd 82 rfl) <| jo_l (ly_ld one28 rfl rfl rfl) (hd 83 rfl) <| zmv rfl (hd 84 rfl) ?_
    refine jo_call Tryz.f35 (hQ4) rfl Tryz.func35 rfl rfl (ovL_cons rfl (ovL_cons rfl ovL_nil)) (.cons .n (.cons .n .nil)) (hd 85 rfl) ?_ (fun ch hp => by simp at hp)
    rintro _ ⟨⟩; refine jo_l (ly_ext rfl rfl) (hd 86 rfl) <| jo_l (ly_ext rfl rfl) (hd 87 rfl) ?_
    refine jo_call Tryz.f34 (mustN _) rfl Tryz.func34 rfl rfl (ovL_cons rfl (ovL_cons rfl ovL_nil)) (.cons .n (.cons .i .nil)) (hd 88 rfl) ?_ (fun ch hp => by simp at hp)
    rintro y hy; injection hy with hy; subst hy
    refine jo_callN Tryz.f41 (hM3n) (fun o G ⟨_, h⟩ => h ▸ idless_cons ints_id idless_nil) rfl Tryz.func41 rfl rfl (ovL_cons rfl (ovL_cons rfl ovL_nil)) (.cons .n (.cons .n .nil)) (hd 89 rfl) ?_ (fun ch G hp => by simp at hp)
    rintro y G ⟨hy, rfl⟩; injection hy with hy; subst hy
    show JO _ _ _ _ ((89, .t [.o 9 0 0 (lm (t9 : Int)).length, .i .i64 0]) :: _) _ _
    refine jo_l (ly_ext rfl rfl) (hd 90 rfl) <| jo_l (ly_ext rfl rfl) (hd 91 rfl) <| jo_callU Tryz.f34 (fun u => mustU u) rfl Tryz.func34 rfl rfl rfl rfl (hd 92 rfl) <| zas rfl (hd 14 rfl) <| jo_nil <| zsr <| jo_l (ly_fa fld30_0 rfl rfl rfl) (hd 93 rfl) <| jo_l (ly_ld one4 rfl rfl rfl) (hd 94 rfl) <| zmv rfl (hd 95 rfl) <| jo_l (ly_build (is := [0, 1]) (xs := [.tmp 94, .tmp 95]) zero30 pls30_0_1 rfl (ovL_cons rfl (ovL_cons rfl ovL_nil)) rfl (by first | (simp [plsOk, cellsV]; done) | (simp [plsOk, cellsV, old]; done)) (all_of rfl) rfl) (hd 96 rfl) <| zmv rfl (hd 97 rfl) <| jo_l (ly_build (is := [0, 1]) (xs := [.tmp 96, .tmp 97]) zero1027 pls1027_0_1 rfl (ovL_cons rfl (ovL_cons rfl ovL_nil)) rfl ⟨rfl, (by decide), rfl, (by decide), trivial⟩ (all_of rfl) rfl) (hd 98 rfl) ?_; refine jo_st (sy_store rfl rfl rfl siz1027 rfl rfl (zlb rfl)) <| jo_st (sy_store rfl rfl rfl siz23 rfl rfl (zlb rfl)) <| jo_nil <| jc_ret <| Clo.fin clo_2347 (m := 4) (i := 2) (j := 3) (zlb rfl) rfl rfl rfl rfl ?_
    refine ⟨[8, 9], _, (.t [.a [.b (decide (S9 < 0)), .o 0 0 0 (lm (m9 : Int)).length, .o 1 0 0 (lm (t9 : Int)).length], .i .i64 0]), (.cons (ResV.cell agg1027 rfl rfl rfl rfl) (.cons (ResV.cell1 one23 rfl rfl rfl) .nil)), rfl, rfl, (by decide), (idless_cons ints_id (idless_cons ints_id idless_nil)), ?_⟩
    rw [← hz1, ← hz2, ← hz3]
    exact ⟨rfl, rfl⟩

theorem QMul_0an (s : Bool) (l d : List Int) (x y : Nat) (hx : Rw l x) (hy : Rw d y) (z : Int) (Y : Nat) (q1 : Qe s x y z Y) (s2 : Bool) (l2 d2 : List Int) (x2 y2 : Nat) (hx2 : Rw l2 x2) (hy2 : Rw d2 y2) (w : Int) (X : Nat) (q2 : Qe s2 x2 y2 w X) (hB : lenV (x : Int) + lenV (y : Int) + lenV (x2 : Int) + lenV (y2 : Int) ≤ 67108864) (hx0 : x = 0) : SpecM Tryz.prog 8 [(.a [.b s, .n false .u64 l, .n false .u64 d]), (.a [.b s2, .n false .u64 l2, .n false .u64 d2])] [] (fun o G => o = .ret (.t [.a [.b (decide ((z * w) < 0)), .o 0 0 0 (lm ((nn (z * w) (Y * X) : Nat) : Int)).length, .o 1 0 0 (lm ((dd (z * w) (Y * X) : Nat) : Int)).length], .i .i64 0]) ∧ G = [⟨79, 1, 0, true, ints .u64 (lm ((nn (z * w) (Y * X) : Nat) : Int))⟩, ⟨79, 1, 0, true, ints .u64 (lm ((dd (z * w) (Y * X) : Nat) : Int))⟩]) := by
  refine specS_ofD [(0, (.a [.b s, .n false .u64 l, .n false .u64 d])), (1, (.a [.b s2, .n false .u64 l2, .n false .u64 d2]))] rfl Tryz.func8 rfl (zlb rfl) fun Γ 𝓡 hN hds hL hR hE => ?_
  have hd := hdOf 93 hN
  have h0 := q1.1
  have h02 := q2.1
  have hlx : (lm ((rn0 x y : Nat) : Int)).length = 0 ↔ x = 0 := lm_len0.trans rn0_eq0
  have hlx2 : (lm ((rn0 x2 y2 : Nat) : Int)).length = 0 ↔ x2 = 0 := lm_len0.trans rn0_eq0
  have hW0 : Y * X ≠ 0 := Nat.mul_ne_zero q1.2.1 q2.2.1
  have hz0 : z * w = 0 := by rw [q1.z0.1 hx0, Int.zero_mul]
  refine jcp_seq <| jc_region <| jo_h (hy_box (id := 0) (n := 3) rfl rfl rfl (by decide) rfl) (hd 2 rfl) <| jo_h (hy_box (id := 1) (n := 3) rfl rfl rfl (by decide) rfl) (hd 3 rfl) <| jo_h (hy_alloc (id := 2) zero1027 (by decide) rfl (by decide) rfl) (hd 4 rfl) <| jo_h (hy_alloc (id := 3) zero23 (by decide) rfl (by decide) rfl) (hd 5 rfl) <| jo_nil <| jcd_defer (g := 45) (caps := [.p 2 0 0, .p 3 0 0]) 4 [_] (ops := [_, _]) rfl Tryz.func45 rfl rfl rfl hds hR hL hE <| jo_l (ly_mf (ovL_cons rfl (ovL_cons rfl ovL_nil))) (hd 10 rfl) <| jo_nil ?_
  refine ⟨rfl, rfl, rfl, ?_⟩
  intro Γ1 hN1 hL hR1
  replace hd : ∀ d, Nat.blt d 93 = true → d < Γ1.N := fun d h => by rw [hN1]; exact hd d h
  refine jo_nil <| zsr <| jo_l (ly_lda agg1027 rfl rfl rfl rfl) (hd 11 rfl) <| jo_l (ly_lda agg1027 rfl rfl rfl rfl) (hd 12 rfl) <| jo_h (hy_lit (id := 4) (xs := [.tmp 11, .tmp 12]) el1084 rfl (ovL_cons rfl (ovL_cons rfl ovL_nil)) rfl (all2_of rfl) (by decide) rfl) (hd 13 rfl) <| jo_frzr 13 (sz := 3) [[V.b s, V.n false .u64 l, V.n false .u64 d], [V.b s2, V.n false .u64 l2, V.n false .u64 d2]] rfl rfl rfl rfl (by simp) (by simp [pureV]) (by decide) hL ?_
  refine jo_call Tryz.f31 (looked_2 s l d y s2 l2 d2 y2 hy h0 hy2 h02) rfl Tryz.func31 rfl rfl (ovL_cons rfl ovL_nil) (.cons .l .nil) (hd 14 rfl) ?_ (fun ch hp => by simp at hp)
  rintro _ ⟨⟩; refine jo_nil <| jc_seq <| jc_nopan <| jc_draw (n := 6) _ rfl mixed <| zal2 0 [1, 3, 4, 5] (lo_l (ly_lda agg1027 rfl rfl rfl rfl) (hd 15 rfl)) rfl <| zal2 2 [3, 4, 5] (lo_l (ly_lda agg1027 rfl rfl rfl rfl) (hd 17 rfl)) rfl ?_
  refine ja_1 1 ?_ rfl (by kernel_rfl)
  refine js_call Tryz.f32 (qnorm_s s l d x y hx hy h0) rfl Tryz.func32 rfl rfl (ovL_cons rfl ovL_nil) (.cons (.a1 .b (.a1 .n (.a1 .n .a0))) .nil) (hd 16 rfl) ?_ (fun ch hp => by simp at hp)
  rintro y hy; injection hy with hy; subst hy
  refine ja_1 3 ?_ rfl (by kernel_rfl)
  refine js_call Tryz.f32 (qnorm_s s2 l2 d2 x2 y2 hx2 hy2 h02) rfl Tryz.func32 rfl rfl (ovL_cons rfl ovL_nil) (.cons (.a1 .b (.a1 .n (.a1 .n .a0))) .nil) (hd 18 rfl) ?_ (fun ch hp => by simp at hp)
  rintro y hy; injection hy with hy; subst hy
  refine ja_1 4 ?_ rfl (by kernel_rfl)
  refine js_st (sy_store rfl rfl rfl siz1027 rfl rfl (zlb rfl)) rfl ?_
  refine ja_1 5 ?_ rfl (by kernel_rfl)
  refine js_st (sy_store rfl rfl rfl siz1027 rfl rfl (zlb rfl)) rfl <| ja_nil (by kernel_rfl) <| jc_seq <| zsr <| jo_l (ly_fa fld1027_0 rfl rfl rfl) (hd 19 rfl) <| jo_l (ly_fa fld30_1 rfl rfl rfl) (hd 20 rfl) <| jo_l (ly_ld one28 rfl rfl rfl) (hd 21 rfl) <| jo_l (ly_lenn sl28 rfl) (hd 22 rfl) <| jo_l (ly_tt (ly_eq rfl rfl) (by omega)) (hd 23 rfl) <| zmv rfl (hd 24 rfl) <| jo_s 24 rfl rfl rfl (hd 25 rfl) <| jo_s 24 rfl rfl rfl (hd 26 rfl) ?_; refine jo_s 24 rfl rfl rfl (hd 27 rfl) <| jo_s 24 rfl rfl rfl (hd 28 rfl) <| jo_s 24 rfl rfl rfl (hd 29 rfl) <| jo_l (ly_pick_t rfl rfl) (hd 30 rfl) <| jo_nil <| jc_litt rfl <| jc_seq <| jc_region ?_
  refine jo_callN Tryz.f40 (QInt_n 0 (by unfold inI; omega)) (fun o G ⟨_, h⟩ => h ▸ idless_cons ints_id (idless_cons ints_id idless_nil)) rfl Tryz.func40 rfl rfl (ovL_cons rfl ovL_nil) (.cons .i .nil) (hd 31 rfl) ?_ (fun ch G hp => by simp at hp)
  rintro y G ⟨hy, rfl⟩; injection hy with hy; subst hy
  show JO _ _ _ _ ((31, .a [.b (decide ((0 : Int) < 0)), .o 5 0 0 (lm 0).length, .o 6 0 0 1]) :: _) _ _
  refine jo_st (sy_store rfl rfl rfl siz1027 rfl rfl (zlb rfl)) <| jo_st (sy_store rfl rfl rfl siz23 rfl rfl (zlb rfl)) <| jo_nil <| jc_ret <| Clo.fin clo_2350 (m := 4) (i := 2) (j := 3) (zlb rfl) rfl rfl rfl rfl ?_
  refine ⟨[5, 6], _, (.t [.a [.b (decide ((0 : Int) < 0)), .o 0 0 0 (lm 0).length, .o 1 0 0 1], .i .i64 0]), (.cons (ResV.cell agg1027 rfl rfl rfl rfl) (.cons (ResV.cell1 one23 rfl rfl rfl) .nil)), rfl, rfl, (by decide), (idless_cons ints_id (idless_cons ints_id idless_nil)), ?_⟩
  rw [hz0, nn_0, dd_0 hW0, lm_1n]
  exact ⟨rfl, rfl⟩

theorem QMul_0bn (s : Bool) (l d : List Int) (x y : Nat) (hx : Rw l x) (hy : Rw d y) (z : Int) (Y : Nat) (q1 : Qe s x y z Y) (s2 : Bool) (l2 d2 : List Int) (x2 y2 : Nat) (hx2 : Rw l2 x2) (hy2 : Rw d2 y2) (w : Int) (X : Nat) (q2 : Qe s2 x2 y2 w X) (hB : lenV (x : Int) + lenV (y : Int) + lenV (x2 : Int) + lenV (y2 : Int) ≤ 67108864) (hx0 : x ≠ 0) (hx20 : x2 = 0) : SpecM Tryz.prog 8 [(.a [.b s, .n false .u64 l, .n false .u64 d]), (.a [.b s2, .n false .u64 l2, .n false .u64 d2])] [] (fun o G => o = .ret (.t [.a [.b (decide ((z * w) < 0)), .o 0 0 0 (lm ((nn (z * w) (Y * X) : Nat) : Int)).length, .o 1 0 0 (lm ((dd (z * w) (Y * X) : Nat) : Int)).length], .i .i64 0]) ∧ G = [⟨79, 1, 0, true, ints .u64 (lm ((nn (z * w) (Y * X) : Nat) : Int))⟩, ⟨79, 1, 0, true, ints .u64 (lm ((dd (z * w) (Y * X) : Nat) : Int))⟩]) := by
  refine specS_ofD [(0, (.a [.b s, .n false .u64 l, .n false .u64 d])), (1, (.a [.b s2, .n false .u64 l2, .n false .u64 d2]))] rfl Tryz.func8 rfl (zlb rfl) fun Γ 𝓡 hN hds hL hR hE => ?_
  have hd := hdOf 93 hN
  have h0 := q1.1
  have h02 := q2.1
  have hlx : (lm ((rn0 x y : Nat) : Int)).length = 0 ↔ x = 0 := lm_len0.trans rn0_eq0
  have hlx2 : (lm ((rn0 x2 y2 : Nat) : Int)).length = 0 ↔ x2 = 0 := lm_len0.trans rn0_eq0
  have hW0 : Y * X ≠ 0 := Nat.mul_ne_zero q1.2.1 q2.2.1
  have hz0 : z * w = 0 := by rw [q2.z0.1 hx20, Int.mul_zero]
  refine jcp_seq <| jc_region <| jo_h (hy_box (id := 0) (n := 3) rfl rfl rfl (by decide) rfl) (hd 2 rfl) <| jo_h (hy_box (id := 1) (n := 3) rfl rfl rfl (by decide) rfl) (hd 3 rfl) <| jo_h (hy_alloc (id := 2) zero1027 (by decide) rfl (by decide) rfl) (hd 4 rfl) <| jo_h (hy_alloc (id := 3) zero23 (by decide) rfl (by decide) rfl) (hd 5 rfl) <| jo_nil <| jcd_defer (g := 45) (caps := [.p 2 0 0, .p 3 0 0]) 4 [_] (ops := [_, _]) rfl Tryz.func45 rfl rfl rfl hds hR hL hE <| jo_l (ly_mf (ovL_cons rfl (ovL_cons rfl ovL_nil))) (hd 10 rfl) <| jo_nil ?_
  refine ⟨rfl, rfl, rfl, ?_⟩
  intro Γ1 hN1 hL hR1
  replace hd : ∀ d, Nat.blt d 93 = true → d < Γ1.N := fun d h => by rw [hN1]; exact hd d h
  refine jo_nil <| zsr <| jo_l (ly_lda agg1027 rfl rfl rfl rfl) (hd 11 rfl) <| jo_l (ly_lda agg1027 rfl rfl rfl rfl) (hd 12 rfl) <| jo_h (hy_lit (id := 4) (xs := [.tmp 11, .tmp 12]) el1084 rfl (ovL_cons rfl (ovL_cons rfl ovL_nil)) rfl (all2_of rfl) (by decide) rfl) (hd 13 rfl) <| jo_frzr 13 (sz := 3) [[V.b s, V.n false .u64 l, V.n false .u64 d], [V.b s2, V.n false .u64 l2, V.n false .u64 d2]] rfl rfl rfl rfl (by simp) (by simp [pureV]) (by decide) hL ?_
  refine jo_call Tryz.f31 (looked_2 s l d y s2 l2 d2 y2 hy h0 hy2 h02) rfl Tryz.func31 rfl rfl (ovL_cons rfl ovL_nil) (.cons .l .nil) (hd 14 rfl) ?_ (fun ch hp => by simp at hp)
  rintro _ ⟨⟩; refine jo_nil <| jc_seq <| jc_nopan <| jc_draw (n := 6) _ rfl mixed <| zal2 0 [1, 3, 4, 5] (lo_l (ly_lda agg1027 rfl rfl rfl rfl) (hd 15 rfl)) rfl <| zal2 2 [3, 4, 5] (lo_l (ly_lda agg1027 rfl rfl rfl rfl) (hd 17 rfl)) rfl ?_
  refine ja_1 1 ?_ rfl (by kernel_rfl)
  refine js_call Tryz.f32 (qnorm_s s l d x y hx hy h0) rfl Tryz.func32 rfl rfl (ovL_cons rfl ovL_nil) (.cons (.a1 .b (.a1 .n (.a1 .n .a0))) .nil) (hd 16 rfl) ?_ (fun ch hp => by simp at hp)
  rintro y hy; injection hy with hy; subst hy
  refine ja_1 3 ?_ rfl (by kernel_rfl)
  refine js_call Tryz.f32 (qnorm_s s2 l2 d2 x2 y2 hx2 hy2 h02) rfl Tryz.func32 rfl rfl (ovL_cons rfl ovL_nil) (.cons (.a1 .b (.a1 .n (.a1 .n .a0))) .nil) (hd 18 rfl) ?_ (fun ch hp => by simp at hp)
  rintro y hy; injection hy with hy; subst hy
  refine ja_1 4 ?_ rfl (by kernel_rfl)
  refine js_st (sy_store rfl rfl rfl siz1027 rfl rfl (zlb rfl)) rfl ?_
  refine ja_1 5 ?_ rfl (by kernel_rfl)
  refine js_st (sy_store rfl rfl rfl siz1027 rfl rfl (zlb rfl)) rfl <| ja_nil (by kernel_rfl) <| jc_seq <| zsr <| jo_l (ly_fa fld1027_0 rfl rfl rfl) (hd 19 rfl) <| jo_l (ly_fa fld30_1 rfl rfl rfl) (hd 20 rfl) <| jo_l (ly_ld one28 rfl rfl rfl) (hd 21 rfl) <| jo_l (ly_lenn sl28 rfl) (hd 22 rfl) <| jo_l (ly_ff (ly_eq rfl rfl) (by omega)) (hd 23 rfl) <| zmv rfl (hd 24 rfl) <| jo_g 24 rfl rfl (ly_fa fld1027_0 rfl rfl rfl) (hd 25 rfl) <| jo_g 24 rfl rfl (ly_fa fld30_1 rfl rfl rfl) (hd 26 rfl) ?_; refine jo_g 24 rfl rfl (ly_ld one28 rfl rfl rfl) (hd 27 rfl) <| jo_g 24 rfl rfl (ly_lenn sl28 rfl) (hd 28 rfl) <| jo_g 24 rfl rfl (ly_tt (ly_eq rfl rfl) (by omega)) (hd 29 rfl) <| jo_l (ly_pick_f rfl rfl) (hd 30 rfl) <| jo_nil <| jc_litt rfl <| jc_seq <| jc_region ?_
  refine jo_callN Tryz.f40 (QInt_n 0 (by unfold inI; omega)) (fun o G ⟨_, h⟩ => h ▸ idless_cons ints_id (idless_cons ints_id idless_nil)) rfl Tryz.func40 rfl rfl (ovL_cons rfl ovL_nil) (.cons .i .nil) (hd 31 rfl) ?_ (fun ch G hp => by simp at hp)
  rintro y G ⟨hy, rfl⟩; injection hy with hy; subst hy
  show JO _ _ _ _ ((31, .a [.b (decide ((0 : Int) < 0)), .o 5 0 0 (lm 0).length, .o 6 0 0 1]) :: _) _ _
  refine jo_st (sy_store rfl rfl rfl siz1027 rfl rfl (zlb rfl)) <| jo_st (sy_store rfl rfl rfl siz23 rfl rfl (zlb rfl)) <| jo_nil <| jc_ret <| Clo.fin clo_2350 (m := 4) (i := 2) (j := 3) (zlb rfl) rfl rfl rfl rfl ?_
  refine ⟨[5, 6], _, (.t [.a [.b (decide ((0 : Int) < 0)), .o 0 0 0 (lm 0).length, .o 1 0 0 1], .i .i64 0]), (.cons (ResV.cell agg1027 rfl rfl rfl rfl) (.cons (ResV.cell1 one23 rfl rfl rfl) .nil)), rfl, rfl, (by decide), (idless_cons ints_id (idless_cons ints_id idless_nil)), ?_⟩
  rw [hz0, nn_0, dd_0 hW0, lm_1n]
  exact ⟨rfl, rfl⟩

theorem QMul_nn (s : Bool) (l d : List Int) (x y : Nat) (hx : Rw l x) (hy : Rw d y) (z : Int) (Y : Nat) (q1 : Qe s x y z Y) (s2 : Bool) (l2 d2 : List Int) (x2 y2 : Nat) (hx2 : Rw l2 x2) (hy2 : Rw d2 y2) (w : Int) (X : Nat) (q2 : Qe s2 x2 y2 w X) (hB : lenV (x : Int) + lenV (y : Int) + lenV (x2 : Int) + lenV (y2 : Int) ≤ 67108864) (hx0 : x ≠ 0) (hx20 : x2 ≠ 0) : SpecM Tryz.prog 8 [(.a [.b s, .n false .u64 l, .n false .u64 d]), (.a [.b s2, .n false .u64 l2, .n false .u64 d2])] [] (fun o G => o = .ret (.t [.a [.b (decide ((z * w) < 0)), .o 0 0 0 (lm ((nn (z * w) (Y * X) : Nat) : Int)).length, .o 1 0 0 (lm ((dd (z * w) (Y * X) : Nat) : Int)).length], .i .i64 0]) ∧ G = [⟨79, 1, 0, true, ints .u64 (lm ((nn (z * w) (Y * X) : Nat) : Int))⟩, ⟨79, 1, 0, true, ints .u64 (lm ((dd (z * w) (Y * X) : Nat) : Int))⟩]) := by
  refine specS_ofD [(0, (.a [.b s, .n false .u64 l, .n false .u64 d])), (1, (.a [.b s2, .n false .u64 l2, .n false .u64 d2]))] rfl Tryz.func8 rfl (zlb rfl) fun Γ 𝓡 hN hds hL hR hE => ?_
  have hd := hdOf 93 hN
  have h0 := q1.1
  have h02 := q2.1
  have bN1 : lenV ((rn0 x y : Nat) : Int) ≤ lenV (x : Int) := rn0_b (Nat.le_refl _)
  have bD1 : lenV ((rd0 x y : Nat) : Int) ≤ lenV (y : Int) := rd0_b (Nat.le_refl _)
  have bN2 : lenV ((rn0 x2 y2 : Nat) : Int) ≤ lenV (x2 : Int) := rn0_b (Nat.le_refl _)
  have bD2 : lenV ((rd0 x2 y2 : Nat) : Int) ≤ lenV (y2 : Int) := rd0_b (Nat.le_refl _)
  have hlx : (lm ((rn0 x y : Nat) : Int)).length = 0 ↔ x = 0 := lm_len0.trans rn0_eq0
  have hlx2 : (lm ((rn0 x2 y2 : Nat) : Int)).length = 0 ↔ x2 = 0 := lm_len0.trans rn0_eq0
  have hW0 : Y * X ≠ 0 := Nat.mul_ne_zero q1.2.1 q2.2.1
  obtain ⟨g9, eg⟩ : ∃ g9 : Nat, g9 = Nat.gcd (rn0 x y) (rd0 x2 y2) := ⟨_, rfl⟩
  have hG1 : Spec Tryz.prog 33 [.n false .u64 (lm (((rn0 x y) : Nat) : Int)), .n false .u64 (lm (((rd0 x2 y2) : Nat) : Int))] (fun o => o = .ret (.n false .u64 (lm (g9 : Int)))) := by
    rw [eg]
    have h := Gcd_v (lm (((rn0 x y) : Nat) : Int)) (lm (((rd0 x2 y2) : Nat) : Int)) (rn0 x y) (rd0 x2 y2) (Rw.of (by omega)).l (Rw.of (by omega)).l (lm_u _) (lm_u _) (Rw.of (by omega)).v (Rw.of (by omega)).v
    exact h
  have hg0 : 0 < g9 := by rw [eg]; exact gcd_pos' q2.d0
  have bg : lenV (g9 : Int) ≤ 67108864 := by rw [eg]; exact gcd_b q2.d0 (by omega)
  obtain ⟨k9, ek⟩ : ∃ k9 : Nat, k9 = Nat.gcd (rn0 x2 y2) (rd0 x y) := ⟨_, rfl⟩
  have hG2 : Spec Tryz.prog 33 [.n false .u64 (lm (((rn0 x2 y2) : Nat) : Int)), .n false .u64 (lm (((rd0 x y) : Nat) : Int))] (fun o => o = .ret (.n false .u64 (lm (k9 : Int)))) := by
    rw [ek]
    have h := Gcd_v (lm (((rn0 x2 y2) : Nat) : Int)) (lm (((rd0 x y) : Nat) : Int)) (rn0 x2 y2) (rd0 x y) (Rw.of (by omega)).l (Rw.of (by omega)).l (lm_u _) (lm_u _) (Rw.of (by omega)).v (Rw.of (by omega)).v
    exact h
  have hk0 : 0 < k9 := by rw [ek]; exact gcd_pos' q1.d0
  have bk : lenV (k9 : Int) ≤ 67108864 := by rw [ek]; exact gcd_b q1.d0 (by omega)
  obtain ⟨a9, ea⟩ : ∃ a9 : Nat, a9 = (rn0 x y) / g9 := ⟨_, rfl⟩
  have hQ1 : Spec Tryz.prog 35 [.n false .u64 (lm (((rn0 x y) : Nat) : Int)), .n false .u64 (lm (g9 : Int))] (fun o => o = .ret (.t [.n false .u64 (lm (a9 : Int)), .i .i64 0])) := by
    rw [ea]
    have h := Quo_v (((rn0 x y) : Nat) : Int) (g9 : Int) (by omega) bg (by omega)
    rw [qn_nt] at h
    exact h
  have ba9 : lenV (a9 : Int) ≤ lenV (x : Int) := by rw [ea]; exact Nat.le_trans (lenV_nat (Nat.div_le_self _ _)) bN1
  obtain ⟨c9, ec⟩ : ∃ c9 : Nat, c9 = (rn0 x2 y2) / k9 := ⟨_, rfl⟩
  have hQ2 : Spec Tryz.prog 35 [.n false .u64 (lm (((rn0 x2 y2) : Nat) : Int)), .n false .u64 (lm (k9 : Int))] (fun o => o = .ret (.t [.n false .u64 (lm (c9 : Int)), .i .i64 0])) := by
    rw [ec]
    have h := Quo_v (((rn0 x2 y2) : Nat) : Int) (k9 : Int) (by omega) bk (by omega)
    rw [qn_nt] at h
    exact h
  have bc9 : lenV (c9 : Int) ≤ lenV (x2 : Int) := by rw [ec]; exact Nat.le_trans (lenV_nat (Nat.div_le_self _ _)) bN2
  obtain ⟨t9, et⟩ : ∃ t9 : Nat, t9 = a9 * c9 := ⟨_, rfl⟩
  have hM1 : Spec Tryz.prog 41 [.n false .u64 (lm (a9 : Int)), .n false .u64 (lm (c9 : Int))] (fun o => o = .ret (.t [.n true .u64 (lm (t9 : Int)), .i .i64 0])) := by
    have hb9 : lenV ((t9 : Nat) : Int) ≤ 67108864 := by rw [et, Int.natCast_mul]; have h9 := lenV_mul (a9 : Int) (c9 : Int); omega
    refine (Mul_l (lm (a9 : Int)) (lm (c9 : Int)) (by have := (Rw.of (x := a9) (by omega)).l; omega) (by have := (Rw.of (x := c9) (by omega)).l; omega) (lm_u _) (lm_u _)).mono fun o ⟨r, e, ho, hr⟩ => ?_
    rw [vl_lm (Int.natCast_nonneg _), vl_lm (Int.natCast_nonneg _), ← Int.natCast_mul, ← et] at hr
    obtain ⟨rfl, rfl⟩ := errL_fit hr hb9
    exact ho
  obtain ⟨e9, ee⟩ : ∃ e9 : Nat, e9 = (rd0 x y) / k9 := ⟨_, rfl⟩
  have hQ3 : Spec Tryz.prog 35 [.n false .u64 (lm (((rd0 x y) : Nat) : Int)), .n false .u64 (lm (k9 : Int))] (fun o => o = .ret (.t [.n false .u64 (lm (e9 : Int)), .i .i64 0])) := by
    rw [ee]
    have h := Quo_v (((rd0 x y) : Nat) : Int) (k9 : Int) (by omega) bk (by omega)
    rw [qn_nt] at h
    exact h
  have be9 : lenV (e9 : Int) ≤ lenV (y : Int) := by rw [ee]; exact Nat.le_trans (lenV_nat (Nat.div_le_self _ _)) bD1
  obtain ⟨f9, ef⟩ : ∃ f9 : Nat, f9 = (rd0 x2 y2) / g9 := ⟨_, rfl⟩
  have hQ4 : Spec Tryz.prog 35 [.n false .u64 (lm (((rd0 x2 y2) : Nat) : Int)), .n false .u64 (lm (g9 : Int))] (fun o => o = .ret (.t [.n false .u64 (lm (f9 : Int)), .i .i64 0])) := by
    rw [ef]
    have h := Quo_v (((rd0 x2 y2) : Nat) : Int) (g9 : Int) (by omega) bg (by omega)
    rw [qn_nt] at h
    exact h
  have bf9 : lenV (f9 : Int) ≤ lenV (y2 : Int) := by rw [ef]; exact Nat.le_trans (lenV_nat (Nat.div_le_self _ _)) bD2
  obtain ⟨u9, eu⟩ : ∃ u9 : Nat, u9 = e9 * f9 := ⟨_, rfl⟩
  have hM2 : Spec Tryz.prog 41 [.n false .u64 (lm (e9 : Int)), .n false .u64 (lm (f9 : Int))] (fun o => o = .ret (.t [.n true .u64 (lm (u9 : Int)), .i .i64 0])) := by
    have hb9 : lenV ((u9 : Nat) : Int) ≤ 67108864 := by rw [eu, Int.natCast_mul]; have h9 := lenV_mul (e9 : Int) (f9 : Int); omega
    refine (Mul_l (lm (e9 : Int)) (lm (f9 : Int)) (by have := (Rw.of (x := e9) (by omega)).l; omega) (by have := (Rw.of (x := f9) (by omega)).l; omega) (lm_u _) (lm_u _)).mono fun o ⟨r, e, ho, hr⟩ => ?_
    rw [vl_lm (Int.natCast_nonneg _), vl_lm (Int.natCast_nonneg _), ← Int.natCast_mul, ← eu] at hr
    obtain ⟨rfl, rfl⟩ := errL_fit hr hb9
    exact ho
  have hz := mul_all q1 q2
  rw [← eg, ← ek, ← ea, ← ec, ← et, ← ee, ← ef, ← eu] at hz
  obtain ⟨hz1, hz2⟩ := hz
  have hz3 := mul_sgn q1 q2 hx0 hx20
  have hM1n : SpecM Tryz.prog 41 [.n false .u64 (lm (a9 : Int)), .n false .u64 (lm (c9 : Int))] [] (fun o G => o = .ret (.t [.o 0 0 0 (lm (t9 : Int)).length, .i .i64 0]) ∧ G = [⟨79, 1, 0, true, ints .u64 (lm (t9 : Int))⟩]) := by
    rw [et]
    exact Mul_nn a9 c9 (by omega) (by omega) (lenV_mn (by omega))
  have hM2n : SpecM Tryz.prog 41 [.n false .u64 (lm (e9 : Int)), .n false .u64 (lm (f9 : Int))] [] (fun o G => o = .ret (.t [.o 0 0 0 (lm (u9 : Int)).length, .i .i64 0]) ∧ G = [⟨79, 1, 0, true, ints .u64 (lm (u9 : Int))⟩]) := by
    rw [eu]
    exact Mul_nn e9 f9 (by omega) (by omega) (lenV_mn (by omega))
  refine jcp_seq <| jc_region <| jo_h (hy_box (id := 0) (n := 3) rfl rfl rfl (by decide) rfl) (hd 2 rfl) <| jo_h (hy_box (id := 1) (n := 3) rfl rfl rfl (by decide) rfl) (hd 3 rfl) <| jo_h (hy_alloc (id := 2) zero1027 (by decide) rfl (by decide) rfl) (hd 4 rfl) <| jo_h (hy_alloc (id := 3) zero23 (by decide) rfl (by decide) rfl) (hd 5 rfl) <| jo_nil <| jcd_defer (g := 45) (caps := [.p 2 0 0, .p 3 0 0]) 4 [_] (ops := [_, _]) rfl Tryz.func45 rfl rfl rfl hds hR hL hE <| jo_l (ly_mf (ovL_cons rfl (ovL_cons rfl ovL_nil))) (hd 10 rfl) <| jo_nil ?_
  refine ⟨rfl, rfl, rfl, ?_⟩
  intro Γ1 hN1 hL hR1
  replace hd : ∀ d, Nat.blt d 93 = true → d < Γ1.N := fun d h => by rw [hN1]; exact hd d h
  refine jo_nil <| zsr <| jo_l (ly_lda agg1027 rfl rfl rfl rfl) (hd 11 rfl) <| jo_l (ly_lda agg1027 rfl rfl rfl rfl) (hd 12 rfl) <| jo_h (hy_lit (id := 4) (xs := [.tmp 11, .tmp 12]) el1084 rfl (ovL_cons rfl (ovL_cons rfl ovL_nil)) rfl (all2_of rfl) (by decide) rfl) (hd 13 rfl) <| jo_frzr 13 (sz := 3) [[V.b s, V.n false .u64 l, V.n false .u64 d], [V.b s2, V.n false .u64 l2, V.n false .u64 d2]] rfl rfl rfl rfl (by simp) (by simp [pureV]) (by decide) hL ?_
  refine jo_call Tryz.f31 (looked_2 s l d y s2 l2 d2 y2 hy h0 hy2 h02) rfl Tryz.func31 rfl rfl (ovL_cons rfl ovL_nil) (.cons .l .nil) (hd 14 rfl) ?_ (fun ch hp => by simp at hp)
  rintro _ ⟨⟩; refine jo_nil <| jc_seq <| jc_nopan <| jc_draw (n := 6) _ rfl mixed <| zal2 0 [1, 3, 4, 5] (lo_l (ly_lda agg1027 rfl rfl rfl rfl) (hd 15 rfl)) rfl <| zal2 2 [3, 4, 5] (lo_l (ly_lda agg1027 rfl rfl rfl rfl) (hd 17 rfl)) rfl ?_
  refine ja_1 1 ?_ rfl (by kernel_rfl)
  refine js_call Tryz.f32 (qnorm_s s l d x y hx hy h0) rfl Tryz.func32 rfl rfl (ovL_cons rfl ovL_nil) (.cons (.a1 .b (.a1 .n (.a1 .n .a0))) .nil) (hd 16 rfl) ?_ (fun ch hp => by simp at hp)
  rintro y hy; injection hy with hy; subst hy
  refine ja_1 3 ?_ rfl (by kernel_rfl)
  refine js_call Tryz.f32 (qnorm_s s2 l2 d2 x2 y2 hx2 hy2 h02) rfl Tryz.func32 rfl rfl (ovL_cons rfl ovL_nil) (.cons (.a1 .b (.a1 .n (.a1 .n .a0))) .nil) (hd 18 rfl) ?_ (fun ch hp => by simp at hp)
  rintro y hy; injection hy with hy; subst hy
  refine ja_1 4 ?_ rfl (by kernel_rfl)
  refine js_st (sy_store rfl rfl rfl siz1027 rfl rfl (zlb rfl)) rfl ?_
  refine ja_1 5 ?_ rfl (by kernel_rfl)
  refine js_st (sy_store rfl rfl rfl siz1027 rfl rfl (zlb rfl)) rfl <| ja_nil (by kernel_rfl) <| jc_seq <| zsr <| jo_l (ly_fa fld1027_0 rfl rfl rfl) (hd 19 rfl) <| jo_l (ly_fa fld30_1 rfl rfl rfl) (hd 20 rfl) <| jo_l (ly_ld one28 rfl rfl rfl) (hd 21 rfl) <| jo_l (ly_lenn sl28 rfl) (hd 22 rfl) <| jo_l (ly_ff (ly_eq rfl rfl) (by omega)) (hd 23 rfl) <| zmv rfl (hd 24 rfl) <| jo_g 24 rfl rfl (ly_fa fld1027_0 rfl rfl rfl) (hd 25 rfl) <| jo_g 24 rfl rfl (ly_fa fld30_1 rfl rfl rfl) (hd 26 rfl) ?_; refine jo_g 24 rfl rfl (ly_ld one28 rfl rfl rfl) (hd 27 rfl) <| jo_g 24 rfl rfl (ly_lenn sl28 rfl) (hd 28 rfl) <| jo_g 24 rfl rfl (ly_ff (ly_eq rfl rfl) (by omega)) (hd 29 rfl) <| jo_l (ly_pick_f rfl rfl) (hd 30 rfl) <| jo_nil <| jc_litf rfl <| jc_skip <| jc_seq <| jc_H (H' := [⟨27, 3, 0, true, [.b (sgq s x), .n false .u64 (lm ((rn0 x y : Nat) : Int)), .n false .u64 (lm ((rd0 x y : Nat) : Int))]⟩, ⟨27, 3, 0, true, [.b (sgq s2 x2), .n false .u64 (lm ((rn0 x2 y2 : Nat) : Int)), .n false .u64 (lm ((rd0 x2 y2 : Nat) : Int))]⟩, ⟨27, 3, 0, true, [.b false, .c (.slice none 0 0), .c (.slice none 0 0)]⟩, ⟨33, 1, 0, true, [.i .i64 0]⟩, ⟨27, 3, 0, false, []⟩]) rfl <| jc_nopan <| jc_draw (n := 14) _ rfl mixed <| zal2 0 [1, 2, 5, 11, 12, 13] (lo_l (ly_fa fld1027_0 rfl rfl rfl) (hd 32 rfl)) rfl <| zal2 1 [2, 5, 11, 12, 13] (lo_l (ly_fa fld30_1 rfl rfl rfl) (hd 33 rfl)) rfl ?_; refine zal2 2 [5, 11, 12, 13] (lo_l (ly_ld one28 rfl rfl rfl) (hd 34 rfl)) rfl <| zal2 3 [4, 5, 11, 12, 13] (lo_l (ly_fa fld1027_1 rfl rfl rfl) (hd 35 rfl)) rfl <| zal2 4 [5, 11, 12, 13] (lo_l (ly_ld one28 rfl rfl rfl) (hd 36 rfl)) rfl <| zal2 6 [7, 8, 11, 12, 13] (lo_l (ly_fa fld1027_0 rfl rfl rfl) (hd 38 rfl)) rfl <| zal2 7 [8, 11, 12, 13] (lo_l (ly_fa fld30_1 rfl rfl rfl) (hd 39 rfl)) rfl <| zal2 8 [11, 12, 13] (lo_l (ly_ld one28 rfl rfl rfl) (hd 40 rfl)) rfl <| zal2 9 [10, 11, 12, 13] (lo_l (ly_fa fld1027_1 rfl rfl rfl) (hd 41 rfl)) rfl <| zal2 10 [11, 12, 13] (lo_l (ly_ld one28 rfl rfl rfl) (hd 42 rfl)) rfl ?_
  refine ja_1 5 ?_ rfl (by kernel_rfl)
  refine js_call Tryz.f33 (hG1) rfl Tryz.func33 rfl rfl (ovL_cons rfl (ovL_cons rfl ovL_nil)) (.cons .n (.cons .n .nil)) (hd 37 rfl) ?_ (fun ch hp => by simp at hp)
  rintro y hy; injection hy with hy; subst hy
  refine ja_1 11 ?_ rfl (by kernel_rfl)
  refine js_call Tryz.f33 (hG2) rfl Tryz.func33 rfl rfl (ovL_cons rfl (ovL_cons rfl ovL_nil)) (.cons .n (.cons .n .nil)) (hd 43 rfl) ?_ (fun ch hp => by simp at hp)
  rintro _ ⟨⟩; refine zal 12 (lo_l (ly_as rfl) (hd 6 rfl)) rfl <| zal 13 (lo_l (ly_as rfl) (hd 7 rfl)) rfl <| ja_nil (by kernel_rfl) <| jc_seq <| jc_nopan <| jc_draw (n := 21) _ rfl mixed <| zal2 0 [1, 2, 4, 5, 6, 7, 12, 13, 14, 15, 16, 17, 18, 19, 20] (lo_l (ly_fa fld1027_0 rfl rfl rfl) (hd 44 rfl)) rfl <| zal2 1 [2, 4, 5, 6, 7, 12, 13, 14, 15, 16, 17, 18, 19, 20] (lo_l (ly_fa fld30_1 rfl rfl rfl) (hd 45 rfl)) rfl <| zal2 2 [4, 5, 6, 7, 12, 13, 14, 15, 16, 17, 18, 19, 20] (lo_l (ly_ld one28 rfl rfl rfl) (hd 46 rfl)) rfl <| zal2 3 [4, 5, 6, 7, 12, 13, 14, 15, 16, 17, 18, 19, 20] (lo_l (ly_mv rfl) (hd 47 rfl)) rfl <| zal2 8 [9, 10, 12, 13, 14, 15, 16, 17, 18, 19, 20] (lo_l (ly_fa fld1027_0 rfl rfl rfl) (hd 52 rfl)) rfl <| zal2 9 [10, 12, 13, 14, 15, 16, 17, 18, 19, 20] (lo_l (ly_fa fld30_1 rfl rfl rfl) (hd 53 rfl)) rfl <| zal2 10 [12, 13, 14, 15, 16, 17, 18, 19, 20] (lo_l (ly_ld one28 rfl rfl rfl) (hd 54 rfl)) rfl ?_; refine zal2 11 [12, 13, 14, 15, 16, 17, 18, 19, 20] (lo_l (ly_mv rfl) (hd 55 rfl)) rfl ?_
  refine ja_1 4 ?_ rfl (by kernel_rfl)
  refine js_call Tryz.f35 (hQ1) rfl Tryz.func35 rfl rfl (ovL_cons rfl (ovL_cons rfl ovL_nil)) (.cons .n (.cons .n .nil)) (hd 48 rfl) ?_ (fun ch hp => by simp at hp)
  rintro _ ⟨⟩; refine zal2 5 [7, 12, 13, 14, 15, 16, 17, 18, 19, 20] (lo_l (ly_ext rfl rfl) (hd 49 rfl)) rfl <| zal2 6 [7, 12, 13, 14, 15, 16, 17, 18, 19, 20] (lo_l (ly_ext rfl rfl) (hd 50 rfl)) rfl ?_
  refine ja_1 7 ?_ rfl (by kernel_rfl)
  refine js_call Tryz.f34 (mustN _) rfl Tryz.func34 rfl rfl (ovL_cons rfl (ovL_cons rfl ovL_nil)) (.cons .n (.cons .i .nil)) (hd 51 rfl) ?_ (fun ch hp => by simp at hp)
  rintro y hy; injection hy with hy; subst hy
  refine ja_1 12 ?_ rfl (by kernel_rfl)
  refine js_call Tryz.f35 (hQ2) rfl Tryz.func35 rfl rfl (ovL_cons rfl (ovL_cons rfl ovL_nil)) (.cons .n (.cons .n .nil)) (hd 56 rfl) ?_ (fun ch hp => by simp at hp)
  rintro _ ⟨⟩; refine zal2 13 [15, 16, 17, 18, 19, 20] (lo_l (ly_ext rfl rfl) (hd 57 rfl)) rfl <| zal2 14 [15, 16, 17, 18, 19, 20] (lo_l (ly_ext rfl rfl) (hd 58 rfl)) rfl ?_
  refine ja_1 15 ?_ rfl (by kernel_rfl)
  refine js_call Tryz.f34 (mustN _) rfl Tryz.func34 rfl rfl (ovL_cons rfl (ovL_cons rfl ovL_nil)) (.cons .n (.cons .i .nil)) (hd 59 rfl) ?_ (fun ch hp => by simp at hp)
  rintro y hy; injection hy with hy; subst hy
  refine ja_1 16 ?_ rfl (by kernel_rfl)
  refine js_callN Tryz.f41 (hM1n) (fun o G ⟨_, h⟩ => h ▸ idless_cons ints_id idless_nil) rfl Tryz.func41 rfl rfl (ovL_cons rfl (ovL_cons rfl ovL_nil)) (.cons .n (.cons .n .nil)) (hd 60 rfl) ?_ (fun ch G hp => by simp at hp)
  rintro y G ⟨hy, rfl⟩; injection hy with hy; subst hy
  show JA _ _ _ _ _ ((60, .t [.o 5 0 0 (lm (t9 : Int)).length, .i .i64 0]) :: _) _ _
  refine zal 17 (lo_l (ly_ext rfl rfl) (hd 61 rfl)) rfl <| zal 18 (lo_l (ly_ext rfl rfl) (hd 62 rfl)) rfl ?_
  refine ja_1 19 ?_ rfl (by kernel_rfl)
  refine js_callU Tryz.f34 (fun u => mustU u) rfl Tryz.func34 rfl rfl rfl rfl (hd 63 rfl) <| zal 20 (lo_l (ly_as rfl) (hd 8 rfl)) rfl <| ja_nil (by kernel_rfl) <| jc_seq <| jc_H (H' := [⟨27, 3, 0, true, [.b (sgq s x), .n false .u64 (lm ((rn0 x y : Nat) : Int)), .n false .u64 (lm ((rd0 x y : Nat) : Int))]⟩, ⟨27, 3, 0, true, [.b (sgq s2 x2), .n false .u64 (lm ((rn0 x2 y2 : Nat) : Int)), .n false .u64 (lm ((rd0 x2 y2 : Nat) : Int))]⟩, ⟨27, 3, 0, true, [.b false, .c (.slice none 0 0), .c (.slice none 0 0)]⟩, ⟨33, 1, 0, true, [.i .i64 0]⟩, ⟨27, 3, 0, false, []⟩, ⟨79, 1, 0, true, ints .u64 (lm (t9 : Int))⟩]) rfl <| jc_nopan <| jc_draw (n := 19) _ rfl mixed <| zal2 0 [1, 3, 4, 5, 6, 10, 11, 12, 13, 14, 15, 16, 17, 18] (lo_l (ly_fa fld1027_1 rfl rfl rfl) (hd 64 rfl)) rfl <| zal2 1 [3, 4, 5, 6, 10, 11, 12, 13, 14, 15, 16, 17, 18] (lo_l (ly_ld one28 rfl rfl rfl) (hd 65 rfl)) rfl <| zal2 2 [3, 4, 5, 6, 10, 11, 12, 13, 14, 15, 16, 17, 18] (lo_l (ly_mv rfl) (hd 66 rfl)) rfl <| zal2 7 [8, 10, 11, 12, 13, 14, 15, 16, 17, 18] (lo_l (ly_fa fld1027_1 rfl rfl rfl) (hd 71 rfl)) rfl <| zal2 8 [10, 11, 12, 13, 14, 15, 16, 17, 18] (lo_l (ly_ld one28 rfl rfl rfl) (hd 72 rfl)) rfl <| zal2 9 [10, 11, 12, 13, 14, 15, 16, 17, 18] (lo_l (ly_mv rfl) (hd 73 rfl)) rfl ?_
  refine ja_1 3 ?_ rfl (by kernel_rfl)
  refine js_call Tryz.f35 (hQ3) rfl Tryz.func35 rfl rfl (ovL_cons rfl (ovL_cons rfl ovL_nil)) (.cons .n (.cons .n .nil)) (hd 67 rfl) ?_ (fun ch hp => by simp at hp)
  rintro _ ⟨⟩; refine zal2 4 [6, 10, 11, 12, 13, 14, 15, 16, 17, 18] (lo_l (ly_ext rfl rfl) (hd 68 rfl)) rfl <| zal2 5 [6, 10, 11, 12, 13, 14, 15, 16, 17, 18] (lo_l (ly_ext rfl rfl) (hd 69 rfl)) rfl ?_
  refine ja_1 6 ?_ rfl (by kernel_rfl)
  refine js_call Tryz.f34 (mustN _) rfl Tryz.func34 rfl rfl (ovL_cons rfl (ovL_cons rfl ovL_nil)) (.cons .n (.cons .i .nil)) (hd 70 rfl) ?_ (fun ch hp => by simp at hp)
  rintro y hy; injection hy with hy; subst hy
  refine ja_1 10 ?_ rfl (by kernel_rfl)
  refine js_call Tryz.f35 (hQ4) rfl Tryz.func35 rfl rfl (ovL_cons rfl (ovL_cons rfl ovL_nil)) (.cons .n (.cons .n .nil)) (hd 74 rfl) ?_ (fun ch hp => by simp at hp)
  rintro _ ⟨⟩; refine zal2 11 [13, 14, 15, 16, 17, 18] (lo_l (ly_ext rfl rfl) (hd 75 rfl)) rfl <| zal2 12 [13, 14, 15, 16, 17, 18] (lo_l (ly_ext rfl rfl) (hd 76 rfl)) rfl ?_
  refine ja_1 13 ?_ rfl (by kernel_rfl)
  refine js_call Tryz.f34 (mustN _) rfl Tryz.func34 rfl rfl (ovL_cons rfl (ovL_cons rfl ovL_nil)) (.cons .n (.cons .i .nil)) (hd 77 rfl) ?_ (fun ch hp => by simp at hp)
  rintro y hy; injection hy with hy; subst hy
  refine ja_1 14 ?_ rfl (by kernel_rfl)
  refine js_callN Tryz.f41 (hM2n) (fun o G ⟨_, h⟩ => h ▸ idless_cons ints_id idless_nil) rfl Tryz.func41 rfl rfl (ovL_cons rfl (ovL_cons rfl ovL_nil)) (.cons .n (.cons .n .nil)) (hd 78 rfl) ?_ (fun ch G hp => by simp at hp)
  rintro y G ⟨hy, rfl⟩; injection hy with hy; subst hy
  show JA _ _ _ _ _ ((78, .t [.o 6 0 0 (lm (u9 : Int)).length, .i .i64 0]) :: _) _ _
  refine zal 15 (lo_l (ly_ext rfl rfl) (hd 79 rfl)) rfl <| zal 16 (lo_l (ly_ext rfl rfl) (hd 80 rfl)) rfl ?_
  refine ja_1 17 ?_ rfl (by kernel_rfl)
  refine js_callU Tryz.f34 (fun u => mustU u) rfl Tryz.func34 rfl rfl rfl rfl (hd 81 rfl) <| zal 18 (lo_l (ly_as rfl) (hd 9 rfl)) rfl <| ja_nil (by kernel_rfl) <| jc_seq <| jc_H (H' := [⟨27, 3, 0, true, [.b (sgq s x), .n false .u64 (lm ((rn0 x y : Nat) : Int)), .n false .u64 (lm ((rd0 x y : Nat) : Int))]⟩, ⟨27, 3, 0, true, [.b (sgq s2 x2), .n false .u64 (lm ((rn0 x2 y2 : Nat) : Int)), .n false .u64 (lm ((rd0 x2 y2 : Nat) : Int))]⟩, ⟨27, 3, 0, true, [.b false, .c (.slice none 0 0), .c (.slice none 0 0)]⟩, ⟨33, 1, 0, true, [.i .i64 0]⟩, ⟨27, 3, 0, false, []⟩, ⟨79, 1, 0, true, ints .u64 (lm (t9 : Int))⟩, ⟨79, 1, 0, true, ints .u64 (lm (u9 : Int))⟩]) rfl <| jc_region <| jo_l (ly_fa fld1027_0 rfl rfl rfl) (hd 82 rfl) <| jo_l (ly_fa fld30_0 rfl rfl rfl) (hd 83 rfl) <| jo_l (ly_ld one4 rfl rfl rfl) (hd 84 rfl) <| jo_l (ly_fa fld1027_0 rfl rfl rfl) (hd 85 rfl) <| jo_l (ly_fa fld30_0 rfl rfl rfl) (hd 86 rfl) <| jo_l (ly_ld one4 rfl rfl rfl) (hd 87 rfl) <| jo_l (ly_neb und4 rfl rfl) (hd 88 rfl) ?_; refine zmv rfl (hd 89 rfl) <| jo_l (ly_build (is := [0, 1]) (xs := [.tmp 88, .tmp 89]) zero30 pls30_0_1 rfl (ovL_cons rfl (ovL_cons rfl ovL_nil)) rfl (by first | (simp [plsOk, cellsV]; done) | (simp [plsOk, cellsV, old]; done)) (all_of rfl) rfl) (hd 90 rfl) <| zmv rfl (hd 91 rfl) <| jo_l (ly_build (is := [0, 1]) (xs := [.tmp 90, .tmp 91]) zero1027 pls1027_0_1 rfl (ovL_cons rfl (ovL_cons rfl ovL_nil)) rfl ⟨rfl, (by decide), rfl, (by decide), trivial⟩ (all_of rfl) rfl) (hd 92 rfl) <| jo_st (sy_store rfl rfl rfl siz1027 rfl rfl (zlb rfl)) <| jo_st (sy_store rfl rfl rfl siz23 rfl rfl (zlb rfl)) <| jo_nil <| jc_ret <| Clo.fin clo_2350 (m := 4) (i := 2) (j := 3) (zlb rfl) rfl rfl rfl rfl ?_
  refine ⟨[5, 6], _, (.t [.a [.b ((sgq s x) != (sgq s2 x2)), .o 0 0 0 (lm (t9 : Int)).length, .o 1 0 0 (lm (u9 : Int)).length], .i .i64 0]), (.cons (ResV.cell agg1027 rfl rfl rfl rfl) (.cons (ResV.cell1 one23 rfl rfl rfl) .nil)), rfl, rfl, (by decide), (idless_cons ints_id (idless_cons ints_id idless_nil)), ?_⟩
  rw [← hz1, ← hz2, ← hz3]
  exact ⟨rfl, rfl⟩

theorem QMul_m (s : Bool) (l d : List Int) (x y : Nat) (hx : Rw l x) (hy : Rw d y) (z : Int) (Y : Nat) (q1 : Qe s x y z Y) (s2 : Bool) (l2 d2 : List Int) (x2 y2 : Nat) (hx2 : Rw l2 x2) (hy2 : Rw d2 y2) (w : Int) (X : Nat) (q2 : Qe s2 x2 y2 w X) (hB : lenV (x : Int) + lenV (y : Int) + lenV (x2 : Int) + lenV (y2 : Int) ≤ 67108864) : SpecM Tryz.prog 8 [(.a [.b s, .n false .u64 l, .n false .u64 d]), (.a [.b s2, .n false .u64 l2, .n false .u64 d2])] [] (fun o G => o = .ret (.t [.a [.b (decide ((z * w) < 0)), .o 0 0 0 (lm ((nn (z * w) (Y * X) : Nat) : Int)).length, .o 1 0 0 (lm ((dd (z * w) (Y * X) : Nat) : Int)).length], .i .i64 0]) ∧ G = [⟨79, 1, 0, true, ints .u64 (lm ((nn (z * w) (Y * X) : Nat) : Int))⟩, ⟨79, 1, 0, true, ints .u64 (lm ((dd (z * w) (Y * X) : Nat) : Int))⟩]) := by
  by_cases hx0 : x = 0
  · exact QMul_0an s l d x y hx hy z Y q1 s2 l2 d2 x2 y2 hx2 hy2 w X q2 hB hx0
  · by_cases hx20 : x2 = 0
    · exact QMul_0bn s l d x y hx hy z Y q1 s2 l2 d2 x2 y2 hx2 hy2 w X q2 hB hx0 hx20
    · exact QMul_nn s l d x y hx hy z Y q1 s2 l2 d2 x2 y2 hx2 hy2 w X q2 hB hx0 hx20

theorem QQuo_n (s : Bool) (l d : List Int) (x y : Nat) (hx : Rw l x) (hy : Rw d y) (z : Int) (Y : Nat) (q1 : Qe s x y z Y) (s2 : Bool) (l2 d2 : List Int) (x2 y2 : Nat) (hx2 : Rw l2 x2) (hy2 : Rw d2 y2) (w : Int) (X : Nat) (q2 : Qe s2 x2 y2 w X) (hB : lenV (x : Int) + lenV (y : Int) + lenV (x2 : Int) + lenV (y2 : Int) ≤ 67108864) (hx20 : x2 ≠ 0) : SpecM Tryz.prog 9 [(.a [.b s, .n false .u64 l, .n false .u64 d]), (.a [.b s2, .n false .u64 l2, .n false .u64 d2])] [] (fun o G => o = .ret (.t [.a [.b (decide ((z * zs (decide (w < 0)) X) < 0)), .o 0 0 0 (lm ((nn (z * zs (decide (w < 0)) X) (Y * w.natAbs) : Nat) : Int)).length, .o 1 0 0 (lm ((dd (z * zs (decide (w < 0)) X) (Y * w.natAbs) : Nat) : Int)).length], .i .i64 0]) ∧ G = [⟨79, 1, 0, true, ints .u64 (lm ((nn (z * zs (decide (w < 0)) X) (Y * w.natAbs) : Nat) : Int))⟩, ⟨79, 1, 0, true, ints .u64 (lm ((dd (z * zs (decide (w < 0)) X) (Y * w.natAbs) : Nat) : Int))⟩]) := by
  refine specS_ofD [(0, (.a [.b s, .n false .u64 l, .n false .u64 d])), (1, (.a [.b s2, .n false .u64 l2, .n false .u64 d2]))] rfl Tryz.func9 rfl (zlb rfl) fun Γ 𝓡 hN hds hL hR hE => ?_
  have hd := hdOf 31 hN
  have h0 := q1.1
  have h02 := q2.1
  have hLn : Spec Tryz.prog 39 [.n false .u64 l2] (fun o => o = .ret (.i .i64 (lenV (x2 : Int)))) := by have h := Length_s l2 (by have := hx2.l; omega) hx2.u; rwa [hx2.n] at h
  have hlz := mt lenV_zero.1 hx20
  refine jcp_seq <| jc_region <| jo_h (hy_box (id := 0) (n := 3) rfl rfl rfl (by decide) rfl) (hd 2 rfl) <| jo_h (hy_box (id := 1) (n := 3) rfl rfl rfl (by decide) rfl) (hd 3 rfl) <| jo_h (hy_alloc (id := 2) zero1027 (by decide) rfl (by decide) rfl) (hd 4 rfl) <| jo_h (hy_alloc (id := 3) zero23 (by decide) rfl (by decide) rfl) (hd 5 rfl) <| jo_nil <| jcd_defer (g := 46) (caps := [.p 2 0 0, .p 3 0 0]) 4 [_] (ops := [_, _]) rfl Tryz.func46 rfl rfl rfl hds hR hL hE <| jo_l (ly_mf (ovL_cons rfl (ovL_cons rfl ovL_nil))) (hd 6 rfl) <| jo_nil ?_
  refine ⟨rfl, rfl, rfl, ?_⟩
  intro Γ1 hN1 hL hR1
  replace hd : ∀ d, Nat.blt d 31 = true → d < Γ1.N := fun d h => by rw [hN1]; exact hd d h
  refine jo_nil <| zsr <| jo_l (ly_lda agg1027 rfl rfl rfl rfl) (hd 7 rfl) <| jo_l (ly_lda agg1027 rfl rfl rfl rfl) (hd 8 rfl) <| jo_h (hy_lit (id := 4) (xs := [.tmp 7, .tmp 8]) el1084 rfl (ovL_cons rfl (ovL_cons rfl ovL_nil)) rfl (all2_of rfl) (by decide) rfl) (hd 9 rfl) <| jo_frzr 9 (sz := 3) [[V.b s, V.n false .u64 l, V.n false .u64 d], [V.b s2, V.n false .u64 l2, V.n false .u64 d2]] rfl rfl rfl rfl (by simp) (by simp [pureV]) (by decide) hL ?_
  refine jo_call Tryz.f31 (looked_2 s l d y s2 l2 d2 y2 hy h0 hy2 h02) rfl Tryz.func31 rfl rfl (ovL_cons rfl ovL_nil) (.cons .l .nil) (hd 10 rfl) ?_ (fun ch hp => by simp at hp)
  rintro _ ⟨⟩; refine jo_nil <| jc_seq <| zsr <| jo_l (ly_fa fld1027_0 rfl rfl rfl) (hd 11 rfl) <| jo_l (ly_fa fld30_1 rfl rfl rfl) (hd 12 rfl) <| jo_l (ly_ld one28 rfl rfl rfl) (hd 13 rfl) ?_
  refine jo_call Tryz.f39 (hLn) rfl Tryz.func39 rfl rfl (ovL_cons rfl ovL_nil) (.cons .n .nil) (hd 14 rfl) ?_ (fun ch hp => by simp at hp)
  rintro _ ⟨⟩; refine jo_l (ly_ff (ly_eq rfl rfl) (by omega)) (hd 15 rfl) <| jo_nil <| jc_litf rfl <| jc_skip <| zsr <| jo_l (ly_lda agg1027 rfl rfl rfl rfl) (hd 17 rfl) <| jo_l (ly_fa fld1027_0 rfl rfl rfl) (hd 18 rfl) <| jo_l (ly_fa fld30_0 rfl rfl rfl) (hd 19 rfl) <| jo_l (ly_ld one4 rfl rfl rfl) (hd 20 rfl) <| jo_l (ly_fa fld1027_1 rfl rfl rfl) (hd 21 rfl) <| jo_l (ly_ld one28 rfl rfl rfl) (hd 22 rfl) <| jo_l (ly_build (is := [0, 1]) (xs := [.tmp 20, .tmp 22]) zero30 pls30_0_1 rfl (ovL_cons rfl (ovL_cons rfl ovL_nil)) rfl (by first | (simp [plsOk, cellsV]; done) | (simp [plsOk, cellsV, old]; done)) (all_of rfl) rfl) (hd 23 rfl) ?_; refine jo_l (ly_fa fld1027_0 rfl rfl rfl) (hd 24 rfl) <| jo_l (ly_fa fld30_1 rfl rfl rfl) (hd 25 rfl) <| jo_l (ly_ld one28 rfl rfl rfl) (hd 26 rfl) <| jo_l (ly_build (is := [0, 1]) (xs := [.tmp 23, .tmp 26]) zero1027 pls1027_0_1 rfl (ovL_cons rfl (ovL_cons rfl ovL_nil)) rfl ⟨rfl, (by decide), rfl, (by decide), trivial⟩ (all_of rfl) rfl) (hd 27 rfl) ?_
  refine jo_callN Tryz.f8 (QMul_m s l d x y hx hy z Y q1 s2 d2 l2 y2 x2 hy2 hx2 (zs (decide (w < 0)) X) w.natAbs (q2.inv hx20) (by omega)) (fun o G ⟨_, h⟩ => h ▸ idless_cons ints_id (idless_cons ints_id idless_nil)) rfl Tryz.func8 rfl rfl (ovL_cons rfl (ovL_cons rfl ovL_nil)) (.cons (.a1 .b (.a1 .n (.a1 .n .a0))) (.cons (.a1 .b (.a1 .n (.a1 .n .a0))) .nil)) (hd 28 rfl) ?_ (fun ch G hp => by simp at hp)
  rintro y G ⟨hy, rfl⟩; injection hy with hy; subst hy
  show JO _ _ _ _ ((28, .t [.a [.b (decide ((z * zs (decide (w < 0)) X) < 0)), .o 5 0 0 (lm ((nn (z * zs (decide (w < 0)) X) (Y * w.natAbs) : Nat) : Int)).length, .o 6 0 0 (lm ((dd (z * zs (decide (w < 0)) X) (Y * w.natAbs) : Nat) : Int)).length], .i .i64 0]) :: _) _ _
  refine jo_l (ly_ext rfl rfl) (hd 29 rfl) <| jo_l (ly_ext rfl rfl) (hd 30 rfl) <| jo_st (sy_store rfl rfl rfl siz1027 rfl rfl (zlb rfl)) <| jo_st (sy_store rfl rfl rfl siz23 rfl rfl (zlb rfl)) <| jo_nil <| jc_ret <| Clo.fin clo_2353 (m := 4) (i := 2) (j := 3) (zlb rfl) rfl rfl rfl rfl ?_
  refine ⟨[5, 6], _, (.t [.a [.b (decide ((z * zs (decide (w < 0)) X) < 0)), .o 0 0 0 (lm ((nn (z * zs (decide (w < 0)) X) (Y * w.natAbs) : Nat) : Int)).length, .o 1 0 0 (lm ((dd (z * zs (decide (w < 0)) X) (Y * w.natAbs) : Nat) : Int)).length], .i .i64 0]), (.cons (ResV.cell agg1027 rfl rfl rfl rfl) (.cons (ResV.cell1 one23 rfl rfl rfl) .nil)), rfl, rfl, (by decide), (idless_cons ints_id (idless_cons ints_id idless_nil)), ?_⟩
  exact ⟨rfl, rfl⟩

theorem QSub_n (s : Bool) (l d : List Int) (x y : Nat) (hx : Rw l x) (hy : Rw d y) (z : Int) (Y : Nat) (q1 : Qe s x y z Y) (s2 : Bool) (l2 d2 : List Int) (x2 y2 : Nat) (hx2 : Rw l2 x2) (hy2 : Rw d2 y2) (w : Int) (X : Nat) (q2 : Qe s2 x2 y2 w X) (hB : lenV (x : Int) + lenV (y : Int) + lenV (x2 : Int) + lenV (y2 : Int) + 1 ≤ 67108864) : SpecM Tryz.prog 7 [(.a [.b s, .n false .u64 l, .n false .u64 d]), (.a [.b s2, .n false .u64 l2, .n false .u64 d2])] [] (fun o G => o = .ret (.t [.a [.b (decide ((z * (X : Int) + -w * (Y : Int)) < 0)), .o 0 0 0 (lm ((nn (z * (X : Int) + -w * (Y : Int)) (Y * X) : Nat) : Int)).length, .o 1 0 0 (lm ((dd (z * (X : Int) + -w * (Y : Int)) (Y * X) : Nat) : Int)).length], .i .i64 0]) ∧ G = [⟨79, 1, 0, true, ints .u64 (lm ((nn (z * (X : Int) + -w * (Y : Int)) (Y * X) : Nat) : Int))⟩, ⟨79, 1, 0, true, ints .u64 (lm ((dd (z * (X : Int) + -w * (Y : Int)) (Y * X) : Nat) : Int))⟩]) := by
  refine specS_ofD [(0, (.a [.b s, .n false .u64 l, .n false .u64 d])), (1, (.a [.b s2, .n false .u64 l2, .n false .u64 d2]))] rfl Tryz.func7 rfl (zlb rfl) fun Γ 𝓡 hN hds hL hR hE => ?_
  have hd := hdOf 20 hN
  have h0 := q1.1
  have h02 := q2.1
  have bN2 : lenV ((rn0 x2 y2 : Nat) : Int) ≤ lenV (x2 : Int) := rn0_b (Nat.le_refl _)
  have bD2 : lenV ((rd0 x2 y2 : Nat) : Int) ≤ lenV (y2 : Int) := rd0_b (Nat.le_refl _)
  refine jcp_seq <| jc_region <| jo_h (hy_box (id := 0) (n := 3) rfl rfl rfl (by decide) rfl) (hd 2 rfl) <| jo_h (hy_box (id := 1) (n := 3) rfl rfl rfl (by decide) rfl) (hd 3 rfl) <| jo_h (hy_alloc (id := 2) zero1027 (by decide) rfl (by decide) rfl) (hd 4 rfl) <| jo_h (hy_alloc (id := 3) zero23 (by decide) rfl (by decide) rfl) (hd 5 rfl) <| jo_nil <| jcd_defer (g := 42) (caps := [.p 2 0 0, .p 3 0 0]) 4 [_] (ops := [_, _]) rfl Tryz.func42 rfl rfl rfl hds hR hL hE <| jo_l (ly_mf (ovL_cons rfl (ovL_cons rfl ovL_nil))) (hd 6 rfl) <| jo_nil ?_
  refine ⟨rfl, rfl, rfl, ?_⟩
  intro Γ1 hN1 hL hR1
  replace hd : ∀ d, Nat.blt d 20 = true → d < Γ1.N := fun d h => by rw [hN1]; exact hd d h
  refine jo_nil <| zsr <| jo_l (ly_lda agg1027 rfl rfl rfl rfl) (hd 7 rfl) <| jo_l (ly_lda agg1027 rfl rfl rfl rfl) (hd 8 rfl) <| jo_h (hy_lit (id := 4) (xs := [.tmp 7, .tmp 8]) el1084 rfl (ovL_cons rfl (ovL_cons rfl ovL_nil)) rfl (all2_of rfl) (by decide) rfl) (hd 9 rfl) <| jo_frzr 9 (sz := 3) [[V.b s, V.n false .u64 l, V.n false .u64 d], [V.b s2, V.n false .u64 l2, V.n false .u64 d2]] rfl rfl rfl rfl (by simp) (by simp [pureV]) (by decide) hL ?_
  refine jo_call Tryz.f31 (looked_2 s l d y s2 l2 d2 y2 hy h0 hy2 h02) rfl Tryz.func31 rfl rfl (ovL_cons rfl ovL_nil) (.cons .l .nil) (hd 10 rfl) ?_ (fun ch hp => by simp at hp)
  rintro _ ⟨⟩; refine jo_nil <| jc_seq <| jc_nopan <| jc_draw (n := 11) _ rfl mixed <| zal2 0 [6, 7, 8, 9, 10] (lo_l (ly_lda agg1027 rfl rfl rfl rfl) (hd 11 rfl)) rfl <| zal2 1 [2, 3, 4, 5, 6, 7, 8, 9, 10] (lo_l (ly_lda agg1027 rfl rfl rfl rfl) (hd 12 rfl)) rfl ?_
  refine ja_1 2 ?_ rfl (by kernel_rfl)
  refine js_call Tryz.f44 (QNeg_s s2 l2 d2 x2 y2 hx2 hy2 h02) rfl Tryz.func44 rfl rfl (ovL_cons rfl ovL_nil) (.cons (.a1 .b (.a1 .n (.a1 .n .a0))) .nil) (hd 13 rfl) ?_ (fun ch hp => by simp at hp)
  rintro _ ⟨⟩; refine zal2 3 [5, 6, 7, 8, 9, 10] (lo_l (ly_ext rfl rfl) (hd 14 rfl)) rfl <| zal2 4 [5, 6, 7, 8, 9, 10] (lo_l (ly_ext rfl rfl) (hd 15 rfl)) rfl ?_
  refine ja_1 5 ?_ rfl (by kernel_rfl)
  refine js_call Tryz.f43 (mustR _ _ _) rfl Tryz.func43 rfl rfl (ovL_cons rfl (ovL_cons rfl ovL_nil)) (.cons (.a1 .b (.a1 .n (.a1 .n .a0))) (.cons .i .nil)) (hd 16 rfl) ?_ (fun ch hp => by simp at hp)
  rintro y hy; injection hy with hy; subst hy
  refine ja_1 6 ?_ rfl (by kernel_rfl)
  refine js_callN Tryz.f6 (QAdd_n s l d x y hx hy z Y q1 (sgq (!s2) x2) _ _ (rn0 x2 y2) (rd0 x2 y2) (Rw.of (by omega)) (Rw.of (by omega)) (-w) X q2.neg (by omega)) (fun o G ⟨_, h⟩ => h ▸ idless_cons ints_id (idless_cons ints_id idless_nil)) rfl Tryz.func6 rfl rfl (ovL_cons rfl (ovL_cons rfl ovL_nil)) (.cons (.a1 .b (.a1 .n (.a1 .n .a0))) (.cons (.a1 .b (.a1 .n (.a1 .n .a0))) .nil)) (hd 17 rfl) ?_ (fun ch G hp => by simp at hp)
  rintro y G ⟨hy, rfl⟩; injection hy with hy; subst hy
  show JA _ _ _ _ _ ((17, .t [.a [.b (decide ((z * (X : Int) + -w * (Y : Int)) < 0)), .o 5 0 0 (lm ((nn (z * (X : Int) + -w * (Y : Int)) (Y * X) : Nat) : Int)).length, .o 6 0 0 (lm ((dd (z * (X : Int) + -w * (Y : Int)) (Y * X) : Nat) : Int)).length], .i .i64 0]) :: _) _ _
  refine zal 7 (lo_l (ly_ext rfl rfl) (hd 18 rfl)) rfl <| zal 8 (lo_l (ly_ext rfl rfl) (hd 19 rfl)) rfl ?_
  refine ja_1 9 ?_ rfl (by kernel_rfl)
  refine js_st (sy_store rfl rfl rfl siz1027 rfl rfl (zlb rfl)) rfl ?_
  refine ja_1 10 ?_ rfl (by kernel_rfl)
  refine js_st (sy_store rfl rfl rfl siz23 rfl rfl (zlb rfl)) rfl <| ja_nil (by kernel_rfl) <| jc_ret <| Clo.fin clo_2381 (m := 4) (i := 2) (j := 3) (zlb rfl) rfl rfl rfl rfl ?_
  refine ⟨[5, 6], _, (.t [.a [.b (decide ((z * (X : Int) + -w * (Y : Int)) < 0)), .o 0 0 0 (lm ((nn (z * (X : Int) + -w * (Y : Int)) (Y * X) : Nat) : Int)).length, .o 1 0 0 (lm ((dd (z * (X : Int) + -w * (Y : Int)) (Y * X) : Nat) : Int)).length], .i .i64 0]), (.cons (ResV.cell agg1027 rfl rfl rfl rfl) (.cons (ResV.cell1 one23 rfl rfl rfl) .nil)), rfl, rfl, (by decide), (idless_cons ints_id (idless_cons ints_id idless_nil)), ?_⟩
  exact ⟨rfl, rfl⟩

theorem QAdd_z (s : Bool) (l d : List Int) (y : Nat) (hy : Rw d y) (s2 : Bool) (l2 d2 : List Int) (y2 : Nat) (hy2 : Rw d2 y2) (hz : y = 0 ∨ y2 = 0) : Spec Tryz.prog 6 [(.a [.b s, .n false .u64 l, .n false .u64 d]), (.a [.b s2, .n false .u64 l2, .n false .u64 d2])] (fun o => o = .ret (.t [(.a [.b false, .n false .u64 [], .n false .u64 []]), .i .i64 70])) := by
  refine spec_ofD [(0, (.a [.b s, .n false .u64 l, .n false .u64 d])), (1, (.a [.b s2, .n false .u64 l2, .n false .u64 d2]))] rfl Tryz.func6 rfl (zlb rfl) fun Γ 𝓡 hN hds hL hR hE => ?_
  have hd := hdOf 99 hN
  refine jcp_seq <| jc_region <| jo_h (hy_box (id := 0) (n := 3) rfl rfl rfl (by decide) rfl) (hd 2 rfl) <| jo_h (hy_box (id := 1) (n := 3) rfl rfl rfl (by decide) rfl) (hd 3 rfl) <| jo_h (hy_alloc (id := 2) zero1027 (by decide) rfl (by decide) rfl) (hd 4 rfl) <| jo_h (hy_alloc (id := 3) zero23 (by decide) rfl (by decide) rfl) (hd 5 rfl) <| jo_nil <| jcd_defer (g := 29) (caps := [.p 2 0 0, .p 3 0 0]) 4 [_] (ops := [_, _]) rfl Tryz.func29 rfl rfl rfl hds hR hL hE <| jo_l (ly_mf (ovL_cons rfl (ovL_cons rfl ovL_nil))) (hd 15 rfl) <| jo_nil ?_
  refine ⟨rfl, rfl, rfl, ?_⟩
  intro Γ1 hN1 hL hR1
  replace hd : ∀ d, Nat.blt d 99 = true → d < Γ1.N := fun d h => by rw [hN1]; exact hd d h
  refine jo_nil <| zsr <| jo_l (ly_lda agg1027 rfl rfl rfl rfl) (hd 16 rfl) <| jo_l (ly_lda agg1027 rfl rfl rfl rfl) (hd 17 rfl) <| jo_h (hy_lit (id := 4) (xs := [.tmp 16, .tmp 17]) el1084 rfl (ovL_cons rfl (ovL_cons rfl ovL_nil)) rfl (all2_of rfl) (by decide) rfl) (hd 18 rfl) <| jo_frzr 18 (sz := 3) [[V.b s, V.n false .u64 l, V.n false .u64 d], [V.b s2, V.n false .u64 l2, V.n false .u64 d2]] rfl rfl rfl rfl (by simp) (by simp [pureV]) (by decide) hL <| jo_call Tryz.f31 (looked_2z s l d y s2 l2 d2 y2 hy hy2 hz) rfl Tryz.func31 rfl rfl (ovL_cons rfl ovL_nil) (.cons .l .nil) (hd 19 rfl) (fun y hy => by simp at hy) ?_; rintro ch hch; injection hch with hch; subst hch; refine Clo.finP clo_2347 (m := 4) (i := 2) (j := 3) (by decide) (zlb rfl) rfl rfl rfl rfl ?_
  refine ⟨_, _, (.cons (ResV.cell agg1027 rfl rfl rfl rfl) (.cons (ResV.cell1 one23 rfl rfl rfl) .nil)), (.t1 (.a1 .b (.a1 .n (.a1 .n .a0))) (.t1 .i .t0)), ?_⟩
  exact rfl

theorem QMul_z (s : Bool) (l d : List Int) (y : Nat) (hy : Rw d y) (s2 : Bool) (l2 d2 : List Int) (y2 : Nat) (hy2 : Rw d2 y2) (hz : y = 0 ∨ y2 = 0) : Spec Tryz.prog 8 [(.a [.b s, .n false .u64 l, .n false .u64 d]), (.a [.b s2, .n false .u64 l2, .n false .u64 d2])] (fun o => o = .ret (.t [(.a [.b false, .n false .u64 [], .n false .u64 []]), .i .i64 70])) := by
  refine spec_ofD [(0, (.a [.b s, .n false .u64 l, .n false .u64 d])), (1, (.a [.b s2, .n false .u64 l2, .n false .u64 d2]))] rfl Tryz.func8 rfl (zlb rfl) fun Γ 𝓡 hN hds hL hR hE => ?_
  have hd := hdOf 93 hN
  refine jcp_seq <| jc_region <| jo_h (hy_box (id := 0) (n := 3) rfl rfl rfl (by decide) rfl) (hd 2 rfl) <| jo_h (hy_box (id := 1) (n := 3) rfl rfl rfl (by decide) rfl) (hd 3 rfl) <| jo_h (hy_alloc (id := 2) zero1027 (by decide) rfl (by decide) rfl) (hd 4 rfl) <| jo_h (hy_alloc (id := 3) zero23 (by decide) rfl (by decide) rfl) (hd 5 rfl) <| jo_nil <| jcd_defer (g := 45) (caps := [.p 2 0 0, .p 3 0 0]) 4 [_] (ops := [_, _]) rfl Tryz.func45 rfl rfl rfl hds hR hL hE <| jo_l (ly_mf (ovL_cons rfl (ovL_cons rfl ovL_nil))) (hd 10 rfl) <| jo_nil ?_
  refine ⟨rfl, rfl, rfl, ?_⟩
  intro Γ1 hN1 hL hR1
  replace hd : ∀ d, Nat.blt d 93 = true → d < Γ1.N := fun d h => by rw [hN1]; exact hd d h
  refine jo_nil <| zsr <| jo_l (ly_lda agg1027 rfl rfl rfl rfl) (hd 11 rfl) <| jo_l (ly_lda agg1027 rfl rfl rfl rfl) (hd 12 rfl) <| jo_h (hy_lit (id := 4) (xs := [.tmp 11, .tmp 12]) el1084 rfl (ovL_cons rfl (ovL_cons rfl ovL_nil)) rfl (all2_of rfl) (by decide) rfl) (hd 13 rfl) <| jo_frzr 13 (sz := 3) [[V.b s, V.n false .u64 l, V.n false .u64 d], [V.b s2, V.n false .u64 l2, V.n false .u64 d2]] rfl rfl rfl rfl (by simp) (by simp [pureV]) (by decide) hL <| jo_call Tryz.f31 (looked_2z s l d y s2 l2 d2 y2 hy hy2 hz) rfl Tryz.func31 rfl rfl (ovL_cons rfl ovL_nil) (.cons .l .nil) (hd 14 rfl) (fun y hy => by simp at hy) ?_; rintro ch hch; injection hch with hch; subst hch; refine Clo.finP clo_2350 (m := 4) (i := 2) (j := 3) (by decide) (zlb rfl) rfl rfl rfl rfl ?_
  refine ⟨_, _, (.cons (ResV.cell agg1027 rfl rfl rfl rfl) (.cons (ResV.cell1 one23 rfl rfl rfl) .nil)), (.t1 (.a1 .b (.a1 .n (.a1 .n .a0))) (.t1 .i .t0)), ?_⟩
  exact rfl

theorem QQuo_z (s : Bool) (l d : List Int) (y : Nat) (hy : Rw d y) (s2 : Bool) (l2 d2 : List Int) (y2 : Nat) (hy2 : Rw d2 y2) (hz : y = 0 ∨ y2 = 0) : Spec Tryz.prog 9 [(.a [.b s, .n false .u64 l, .n false .u64 d]), (.a [.b s2, .n false .u64 l2, .n false .u64 d2])] (fun o => o = .ret (.t [(.a [.b false, .n false .u64 [], .n false .u64 []]), .i .i64 70])) := by
  refine spec_ofD [(0, (.a [.b s, .n false .u64 l, .n false .u64 d])), (1, (.a [.b s2, .n false .u64 l2, .n false .u64 d2]))] rfl Tryz.func9 rfl (zlb rfl) fun Γ 𝓡 hN hds hL hR hE => ?_
  have hd := hdOf 31 hN
  refine jcp_seq <| jc_region <| jo_h (hy_box (id := 0) (n := 3) rfl rfl rfl (by decide) rfl) (hd 2 rfl) <| jo_h (hy_box (id := 1) (n := 3) rfl rfl rfl (by decide) rfl) (hd 3 rfl) <| jo_h (hy_alloc (id := 2) zero1027 (by decide) rfl (by decide) rfl) (hd 4 rfl) <| jo_h (hy_alloc (id := 3) zero23 (by decide) rfl (by decide) rfl) (hd 5 rfl) <| jo_nil <| jcd_defer (g := 46) (caps := [.p 2 0 0, .p 3 0 0]) 4 [_] (ops := [_, _]) rfl Tryz.func46 rfl rfl rfl hds hR hL hE <| jo_l (ly_mf (ovL_cons rfl (ovL_cons rfl ovL_nil))) (hd 6 rfl) <| jo_nil ?_
  refine ⟨rfl, rfl, rfl, ?_⟩
  intro Γ1 hN1 hL hR1
  replace hd : ∀ d, Nat.blt d 31 = true → d < Γ1.N := fun d h => by rw [hN1]; exact hd d h
  refine jo_nil <| zsr <| jo_l (ly_lda agg1027 rfl rfl rfl rfl) (hd 7 rfl) <| jo_l (ly_lda agg1027 rfl rfl rfl rfl) (hd 8 rfl) <| jo_h (hy_lit (id := 4) (xs := [.tmp 7, .tmp 8]) el1084 rfl (ovL_cons rfl (ovL_cons rfl ovL_nil)) rfl (all2_of rfl) (by decide) rfl) (hd 9 rfl) <| jo_frzr 9 (sz := 3) [[V.b s, V.n false .u64 l, V.n false .u64 d], [V.b s2, V.n false .u64 l2, V.n false .u64 d2]] rfl rfl rfl rfl (by simp) (by simp [pureV]) (by decide) hL <| jo_call Tryz.f31 (looked_2z s l d y s2 l2 d2 y2 hy hy2 hz) rfl Tryz.func31 rfl rfl (ovL_cons rfl ovL_nil) (.cons .l .nil) (hd 10 rfl) (fun y hy => by simp at hy) ?_; rintro ch hch; injection hch with hch; subst hch; refine Clo.finP clo_2353 (m := 4) (i := 2) (j := 3) (by decide) (zlb rfl) rfl rfl rfl rfl ?_
  refine ⟨_, _, (.cons (ResV.cell agg1027 rfl rfl rfl rfl) (.cons (ResV.cell1 one23 rfl rfl rfl) .nil)), (.t1 (.a1 .b (.a1 .n (.a1 .n .a0))) (.t1 .i .t0)), ?_⟩
  exact rfl

theorem QSub_z (s : Bool) (l d : List Int) (y : Nat) (hy : Rw d y) (s2 : Bool) (l2 d2 : List Int) (y2 : Nat) (hy2 : Rw d2 y2) (hz : y = 0 ∨ y2 = 0) : Spec Tryz.prog 7 [(.a [.b s, .n false .u64 l, .n false .u64 d]), (.a [.b s2, .n false .u64 l2, .n false .u64 d2])] (fun o => o = .ret (.t [(.a [.b false, .n false .u64 [], .n false .u64 []]), .i .i64 70])) := by
  refine spec_ofD [(0, (.a [.b s, .n false .u64 l, .n false .u64 d])), (1, (.a [.b s2, .n false .u64 l2, .n false .u64 d2]))] rfl Tryz.func7 rfl (zlb rfl) fun Γ 𝓡 hN hds hL hR hE => ?_
  have hd := hdOf 20 hN
  refine jcp_seq <| jc_region <| jo_h (hy_box (id := 0) (n := 3) rfl rfl rfl (by decide) rfl) (hd 2 rfl) <| jo_h (hy_box (id := 1) (n := 3) rfl rfl rfl (by decide) rfl) (hd 3 rfl) <| jo_h (hy_alloc (id := 2) zero1027 (by decide) rfl (by decide) rfl) (hd 4 rfl) <| jo_h (hy_alloc (id := 3) zero23 (by decide) rfl (by decide) rfl) (hd 5 rfl) <| jo_nil <| jcd_defer (g := 42) (caps := [.p 2 0 0, .p 3 0 0]) 4 [_] (ops := [_, _]) rfl Tryz.func42 rfl rfl rfl hds hR hL hE <| jo_l (ly_mf (ovL_cons rfl (ovL_cons rfl ovL_nil))) (hd 6 rfl) <| jo_nil ?_
  refine ⟨rfl, rfl, rfl, ?_⟩
  intro Γ1 hN1 hL hR1
  replace hd : ∀ d, Nat.blt d 20 = true → d < Γ1.N := fun d h => by rw [hN1]; exact hd d h
  refine jo_nil <| zsr <| jo_l (ly_lda agg1027 rfl rfl rfl rfl) (hd 7 rfl) <| jo_l (ly_lda agg1027 rfl rfl rfl rfl) (hd 8 rfl) <| jo_h (hy_lit (id := 4) (xs := [.tmp 7, .tmp 8]) el1084 rfl (ovL_cons rfl (ovL_cons rfl ovL_nil)) rfl (all2_of rfl) (by decide) rfl) (hd 9 rfl) <| jo_frzr 9 (sz := 3) [[V.b s, V.n false .u64 l, V.n false .u64 d], [V.b s2, V.n false .u64 l2, V.n false .u64 d2]] rfl rfl rfl rfl (by simp) (by simp [pureV]) (by decide) hL <| jo_call Tryz.f31 (looked_2z s l d y s2 l2 d2 y2 hy hy2 hz) rfl Tryz.func31 rfl rfl (ovL_cons rfl ovL_nil) (.cons .l .nil) (hd 10 rfl) (fun y hy => by simp at hy) ?_; rintro ch hch; injection hch with hch; subst hch; refine Clo.finP clo_2381 (m := 4) (i := 2) (j := 3) (by decide) (zlb rfl) rfl rfl rfl rfl ?_
  refine ⟨_, _, (.cons (ResV.cell agg1027 rfl rfl rfl rfl) (.cons (ResV.cell1 one23 rfl rfl rfl) .nil)), (.t1 (.a1 .b (.a1 .n (.a1 .n .a0))) (.t1 .i .t0)), ?_⟩
  exact rfl

theorem QCmp_z (s : Bool) (l d : List Int) (y : Nat) (hy : Rw d y) (s2 : Bool) (l2 d2 : List Int) (y2 : Nat) (hy2 : Rw d2 y2) (hz : y = 0 ∨ y2 = 0) : Spec Tryz.prog 10 [(.a [.b s, .n false .u64 l, .n false .u64 d]), (.a [.b s2, .n false .u64 l2, .n false .u64 d2])] (fun o => o = .ret (.t [.i .i64 0, .i .i64 70])) := by
  refine spec_ofD [(0, (.a [.b s, .n false .u64 l, .n false .u64 d])), (1, (.a [.b s2, .n false .u64 l2, .n false .u64 d2]))] rfl Tryz.func10 rfl (zlb rfl) fun Γ 𝓡 hN hds hL hR hE => ?_
  have hd := hdOf 40 hN
  refine jcp_seq <| jc_region <| jo_h (hy_box (id := 0) (n := 3) rfl rfl rfl (by decide) rfl) (hd 2 rfl) <| jo_h (hy_box (id := 1) (n := 3) rfl rfl rfl (by decide) rfl) (hd 3 rfl) <| jo_h (hy_alloc (id := 2) zero3 (by decide) rfl (by decide) rfl) (hd 4 rfl) <| jo_h (hy_alloc (id := 3) zero23 (by decide) rfl (by decide) rfl) (hd 5 rfl) <| jo_nil <| jcd_defer (g := 47) (caps := [.p 2 0 0, .p 3 0 0]) 4 [_] (ops := [_, _]) rfl Tryz.func47 rfl rfl rfl hds hR hL hE <| jo_l (ly_mf (ovL_cons rfl (ovL_cons rfl ovL_nil))) (hd 8 rfl) <| jo_nil ?_
  refine ⟨rfl, rfl, rfl, ?_⟩
  intro Γ1 hN1 hL hR1
  replace hd : ∀ d, Nat.blt d 40 = true → d < Γ1.N := fun d h => by rw [hN1]; exact hd d h
  refine jo_nil <| zsr <| jo_l (ly_lda agg1027 rfl rfl rfl rfl) (hd 9 rfl) <| jo_l (ly_lda agg1027 rfl rfl rfl rfl) (hd 10 rfl) <| jo_h (hy_lit (id := 4) (xs := [.tmp 9, .tmp 10]) el1084 rfl (ovL_cons rfl (ovL_cons rfl ovL_nil)) rfl (all2_of rfl) (by decide) rfl) (hd 11 rfl) <| jo_frzr 11 (sz := 3) [[V.b s, V.n false .u64 l, V.n false .u64 d], [V.b s2, V.n false .u64 l2, V.n false .u64 d2]] rfl rfl rfl rfl (by simp) (by simp [pureV]) (by decide) hL <| jo_call Tryz.f31 (looked_2z s l d y s2 l2 d2 y2 hy hy2 hz) rfl Tryz.func31 rfl rfl (ovL_cons rfl ovL_nil) (.cons .l .nil) (hd 12 rfl) (fun y hy => by simp at hy) ?_; rintro ch hch; injection hch with hch; subst hch; refine Clo.finP clo_2351 (m := 4) (i := 2) (j := 3) (by decide) (zlb rfl) rfl rfl rfl rfl ?_
  refine ⟨_, _, (.cons (ResV.cell1 one3 rfl rfl rfl) (.cons (ResV.cell1 one23 rfl rfl rfl) .nil)), (.t1 .i (.t1 .i .t0)), ?_⟩
  exact rfl
end Go.Proofs.YtpldmajdiljoaaaGreat.Vc
