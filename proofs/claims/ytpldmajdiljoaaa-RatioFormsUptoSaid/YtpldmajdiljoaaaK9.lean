/- RatioForms: for every rational, every whole number and every int, of bulk at most 1048576, it returns true Texts joined: Xm, Xn, Xo, Xp. -/
import Derived.Test.YtpldmajdiljoaaaK8
set_option linter.unusedVariables false
set_option linter.unusedSimpArgs false
/- Contracts of the references of ratio. -/
namespace Go.Proofs.Ytpldmajdiljoaaa.Vc
open Go Go.RowKit
set_option maxHeartbeats 4000000 in
theorem rGcd_v (x y : Nat) (hdx : (digs B32 x).length < 4294967296) (hdy : (digs B32 y).length < 4294967296) : Spec Try.prog 55 [.n false .u64 (digs B32 x), .n false .u64 (digs B32 y)] (fun o => o = .ret (.n false .u64 (digs B32 (Nat.gcd x y)))) := by
  refine spec_of' [(0, .n false .u64 (digs B32 x)), (1, .n false .u64 (digs B32 y))] rfl Try.func55 rfl (Nat.le_of_ble_eq_true rfl) fun Γ hN hds hL hR => ?_
  have hd := hdOf 19 hN
  refine jc_seq ?_; refine jc_region ?_; refine jo_l (ly_as rfl) (hd 4 rfl) ?_; refine jo_nil ?_; refine jc_seq ?_; refine jc_block ?_
  refine jc_loopF (G := Nat × Nat) (fun g => Nat.gcd g.1 g.2 = Nat.gcd x y ∧ (digs B32 g.1).length < 4294967296 ∧ (digs B32 g.2).length < 4294967296) (fun g => [(0, .n false .u64 (digs B32 g.1)), (1, .n false .u64 (digs B32 g.2)), (5, .u), (6, .u), (7, .u), (8, .u), (9, .u), (10, .u), (11, .u), (12, .u), (13, .u), (14, .u), (15, .u), (16, .u), (17, .u)]) (fun _ => _) (fun g => g.2) (x, y) ?_ ?_ rfl ?_
  · exact ⟨rfl, hdx, hdy⟩
  · exact (.cons rfl (.cons rfl (.u (.u (.u (.u (.u (.u (.u (.u (.u (.u (.u (.u (.u .nil)))))))))))))))
  · rintro ⟨u, v⟩ ⟨hc1, hc2, hc3⟩
    dsimp only at hc1 hc2 hc3 ⊢
    have hl0 := @dl0 v
    refine jc_seq ?_; refine jc_seq ?_; refine jc_region ?_; refine jo_l (ly_mv rfl) (hd 7 rfl) ?_
    refine jo_call Try.f21 (Zero_s (digs B32 v)) rfl Try.func21 rfl rfl (ovL_cons rfl ovL_nil) (.cons .n .nil) (hd 8 rfl) ?_ (fun ch hp => by simp at hp)
    rintro y hy; injection hy with hy; subst hy; refine jo_l (ly_not rfl) (hd 9 rfl) ?_; refine jo_nil ?_
    refine jc_ifn rfl (fun h1 => ?_) (fun h1 => ?_)
    · have hv0 : v ≠ 0 := fun e => h1 (by have := hl0.2 e; omega)
      refine jc_skip ?_; refine jc_block ?_; refine jc_seq ?_; refine jc_region ?_; refine jo_l (ly_mv rfl) (hd 11 rfl) ?_; refine jo_l (ly_mv rfl) (hd 12 rfl) ?_
      refine jo_call Try.f56 (rDiv_s u v hc2 hc3 (by omega)) rfl Try.func56 rfl rfl (ovL_cons rfl (ovL_cons rfl ovL_nil)) (.cons .n (.cons .n .nil)) (hd 13 rfl) ?_ (fun ch hp => by simp at hp)
      rintro y hy; injection hy with hy; subst hy; refine jo_l (ly_mv rfl) (hd 10 rfl) ?_; refine jo_l (ly_ext rfl rfl) (hd 14 rfl) ?_; refine jo_l (ly_ext rfl rfl) (hd 15 rfl) ?_; refine jo_l (ly_as rfl) (hd 5 rfl) ?_; refine jo_l (ly_as rfl) (hd 6 rfl) ?_; refine jo_nil ?_; refine jc_region ?_; refine jo_l (ly_mv rfl) (hd 16 rfl) ?_; refine jo_l (ly_mv rfl) (hd 17 rfl) ?_; refine jo_l (ly_as rfl) (hd 0 rfl) ?_; refine jo_l (ly_as rfl) (hd 1 rfl) ?_; refine jo_nil ?_
      refine ⟨(v, u % v), ?_, ?_, rfl, cov_n 30 rfl rfl ?_⟩
      · exact ⟨by rw [← hc1]; exact gcd_step, hc3, Nat.lt_of_le_of_lt (dl_mono (Nat.mod_le u v)) hc2⟩
      · exact Nat.mod_lt _ (by omega)
      · exact (.cons rfl (.cons rfl (.u (.u (.u (.u (.u (.u (.u (.u (.u (.u (.u (.u (.u .nil)))))))))))))))
    · have hv0 : v = 0 := hl0.1 (by omega)
      subst hv0
      rw [Nat.gcd_zero_right] at hc1
      refine jc_exit ?_; refine jc_seq ?_; refine jc_region ?_; refine jo_l (ly_mv rfl) (hd 18 rfl) ?_; refine jo_l (ly_as rfl) (hd 4 rfl) ?_; refine jo_nil ?_; refine jc_ret ?_
      refine ⟨_, _, (.cons rfl .nil), .n, ?_⟩
      rw [← hc1]

set_option maxHeartbeats 4000000 in
theorem rMake_0 (b : Bool) (y : Nat) (h0 : y ≠ 0) : Spec Try.prog 22 [.b b, .n false .u64 (digs B32 0), .n false .u64 (digs B32 y)] (fun o => o = .ret (.a [.b (sgq b 0), .n false .u64 (digs B32 (rn0 0 y)), .n false .u64 (digs B32 (rd0 0 y))])) := by
  refine spec_of' [(0, .b b), (1, .n false .u64 (digs B32 0)), (2, .n false .u64 (digs B32 y))] rfl Try.func22 rfl (Nat.le_of_ble_eq_true rfl) fun Γ hN hds hL hR => ?_
  have hd := hdOf 31 hN
  have hI1 : Spec Try.prog 54 [.i .i64 1] (fun o => o = .ret (.n false .u64 (digs B32 1))) := by have h := rInt_s ((1 : Nat) : Int) (by decide) (by decide); rw [rInt_v (v := 1) (by decide)] at h; exact h
  have hZe : Spec Try.prog 21 [.n false .u64 (digs B32 0)] (fun o => o = .ret (.b true)) := by have h := Zero_s (digs B32 0); rwa [decide_eq_true (by rw [digs_0]; rfl)] at h
  refine jc_seq ?_; refine jc_region ?_; refine jo_h (hy_alloc (id := 0) zero1031 (by decide) rfl (by decide) rfl) (hd 6 rfl) ?_; refine jo_nil ?_; refine jc_seq ?_; refine jc_seq ?_; refine jc_region ?_; refine jo_l (ly_mv rfl) (hd 8 rfl) ?_
  refine jo_call Try.f21 (hZe) rfl Try.func21 rfl rfl (ovL_cons rfl ovL_nil) (.cons .n .nil) (hd 9 rfl) ?_ (fun ch hp => by simp at hp)
  rintro y hy; injection hy with hy; subst hy; refine jo_nil ?_; refine jc_litt rfl ?_; refine jc_seq ?_; refine jc_region ?_
  refine jo_call Try.f54 (hI1) rfl Try.func54 rfl rfl (ovL_cons rfl ovL_nil) (.cons .i .nil) (hd 10 rfl) ?_ (fun ch hp => by simp at hp)
  rintro y hy; injection hy with hy; subst hy; refine jo_l (ly_build (is := [2]) (xs := [.tmp 10]) zero1031 pls1031_2 rfl (ovL_cons rfl ovL_nil) rfl (by first | (simp [plsOk, cellsV]; done) | (simp [plsOk, cellsV, old]; done)) (all_of rfl) rfl) (hd 11 rfl) ?_; refine jo_st (sy_store rfl rfl rfl siz1031 rfl rfl (Nat.le_of_ble_eq_true rfl)) ?_; refine jo_nil ?_; refine jc_ret ?_
  refine ⟨_, _, (.cons (ResV.cell agg1031 rfl rfl rfl rfl) .nil), (.a1 .b (.a1 (.nil (fr := false) (k := .u64)) (.a1 .n .a0))), ?_⟩
  rw [sgq_0, rn0_0, rd0_0 h0, digs_0]

set_option maxHeartbeats 4000000 in
theorem rMake_p (b : Bool) (x y : Nat) (hdx : (digs B32 x).length < 4294967296) (hdy : (digs B32 y).length < 4294967296) (h0 : y ≠ 0) (h1 : x ≠ 0) : Spec Try.prog 22 [.b b, .n false .u64 (digs B32 x), .n false .u64 (digs B32 y)] (fun o => o = .ret (.a [.b (sgq b x), .n false .u64 (digs B32 (rn0 x y)), .n false .u64 (digs B32 (rd0 x y))])) := by
  refine spec_of' [(0, .b b), (1, .n false .u64 (digs B32 x)), (2, .n false .u64 (digs B32 y))] rfl Try.func22 rfl (Nat.le_of_ble_eq_true rfl) fun Γ hN hds hL hR => ?_
  have hd := hdOf 31 hN
  have hl0 := @dl0 x
  have hgl : (digs B32 (Nat.gcd x y)).length < 4294967296 := Nat.lt_of_le_of_lt (dl_mono (Nat.le_of_dvd (by omega) (Nat.gcd_dvd_right x y))) hdy
  have hg0 := gcd_pos' (x := x) h0
  have hZe : Spec Try.prog 21 [.n false .u64 (digs B32 x)] (fun o => o = .ret (.b false)) := by have h := Zero_s (digs B32 x); rwa [decide_eq_false (by have := @dl0 x; omega)] at h
  refine jc_seq ?_; refine jc_region ?_; refine jo_h (hy_alloc (id := 0) zero1031 (by decide) rfl (by decide) rfl) (hd 6 rfl) ?_; refine jo_nil ?_; refine jc_seq ?_; refine jc_seq ?_; refine jc_region ?_; refine jo_l (ly_mv rfl) (hd 8 rfl) ?_
  refine jo_call Try.f21 (hZe) rfl Try.func21 rfl rfl (ovL_cons rfl ovL_nil) (.cons .n .nil) (hd 9 rfl) ?_ (fun ch hp => by simp at hp)
  rintro y hy; injection hy with hy; subst hy; refine jo_nil ?_; refine jc_litf rfl ?_; refine jc_skip ?_; refine jc_seq ?_; refine jc_region ?_; refine jo_l (ly_mv rfl) (hd 12 rfl) ?_; refine jo_l (ly_mv rfl) (hd 13 rfl) ?_
  refine jo_call Try.f55 (rGcd_v x y hdx hdy) rfl Try.func55 rfl rfl (ovL_cons rfl (ovL_cons rfl ovL_nil)) (.cons .n (.cons .n .nil)) (hd 14 rfl) ?_ (fun ch hp => by simp at hp)
  rintro y hy; injection hy with hy; subst hy; refine jo_l (ly_as rfl) (hd 7 rfl) ?_; refine jo_nil ?_; refine jc_seq ?_; refine jc_region ?_; refine jo_l (ly_mv rfl) (hd 16 rfl) ?_; refine jo_l (ly_mv rfl) (hd 17 rfl) ?_
  refine jo_call Try.f56 (rDiv_s x (Nat.gcd x y) hdx hgl hg0) rfl Try.func56 rfl rfl (ovL_cons rfl (ovL_cons rfl ovL_nil)) (.cons .n (.cons .n .nil)) (hd 18 rfl) ?_ (fun ch hp => by simp at hp)
  rintro y hy; injection hy with hy; subst hy; refine jo_l (ly_mv rfl) (hd 15 rfl) ?_; refine jo_l (ly_ext rfl rfl) (hd 19 rfl) ?_; refine jo_l (ly_ext rfl rfl) (hd 20 rfl) ?_; refine jo_l (ly_as rfl) (hd 1 rfl) ?_; refine jo_nil ?_; refine jc_seq ?_; refine jc_region ?_; refine jo_l (ly_mv rfl) (hd 22 rfl) ?_; refine jo_l (ly_mv rfl) (hd 23 rfl) ?_
  refine jo_call Try.f56 (rDiv_s y (Nat.gcd x y) hdy hgl hg0) rfl Try.func56 rfl rfl (ovL_cons rfl (ovL_cons rfl ovL_nil)) (.cons .n (.cons .n .nil)) (hd 24 rfl) ?_ (fun ch hp => by simp at hp)
  rintro y hy; injection hy with hy; subst hy; refine jo_l (ly_mv rfl) (hd 21 rfl) ?_; refine jo_l (ly_ext rfl rfl) (hd 25 rfl) ?_; refine jo_l (ly_ext rfl rfl) (hd 26 rfl) ?_; refine jo_l (ly_as rfl) (hd 2 rfl) ?_; refine jo_nil ?_; refine jc_seq ?_; refine jc_region ?_; refine jo_l (ly_mv rfl) (hd 27 rfl) ?_; refine jo_l (ly_mv rfl) (hd 28 rfl) ?_; refine jo_l (ly_mv rfl) (hd 29 rfl) ?_; refine jo_l (ly_build (is := [0, 1, 2]) (xs := [.tmp 27, .tmp 28, .tmp 29]) zero1031 pls1031_0_1_2 rfl (ovL_cons rfl (ovL_cons rfl (ovL_cons rfl ovL_nil))) rfl (by first | (simp [plsOk, cellsV]; done) | (simp [plsOk, cellsV, old]; done)) (all_of rfl) rfl) (hd 30 rfl) ?_; refine jo_st (sy_store rfl rfl rfl siz1031 rfl rfl (Nat.le_of_ble_eq_true rfl)) ?_; refine jo_nil ?_; refine jc_ret ?_
  refine ⟨_, _, (.cons (ResV.cell agg1031 rfl rfl rfl rfl) .nil), (.a1 .b (.a1 .n (.a1 .n .a0))), ?_⟩
  rw [sgq_p h1]
  rfl

theorem rMake_s (b : Bool) (x y : Nat) (hdx : (digs B32 x).length < 4294967296) (hdy : (digs B32 y).length < 4294967296) (h0 : y ≠ 0) : Spec Try.prog 22 [.b b, .n false .u64 (digs B32 x), .n false .u64 (digs B32 y)] (fun o => o = .ret (.a [.b (sgq b x), .n false .u64 (digs B32 (rn0 x y)), .n false .u64 (digs B32 (rd0 x y))])) := by
  by_cases h1 : x = 0
  · subst h1; exact rMake_0 b y h0
  · exact rMake_p b x y hdx hdy h0 h1

set_option maxHeartbeats 4000000 in
theorem number_s (s : Bool) (l d : List Int) (x y : Nat) (hx : Rw l x) (hy : Rw d y) (h0 : y ≠ 0) : Spec Try.prog 9 [(.a [.b s, .n false .u64 l, .n false .u64 d])] (fun o => o = .ret (.t [(.a [.b (sgq s x), .n false .u64 (digs B32 (rn0 x y)), .n false .u64 (digs B32 (rd0 x y))]), .b true])) := by
  refine spec_of' [(0, (.a [.b s, .n false .u64 l, .n false .u64 d]))] rfl Try.func9 rfl (Nat.le_of_ble_eq_true rfl) fun Γ hN hds hL hR => ?_
  have hd := hdOf 20 hN
  have hOl : Spec Try.prog 41 [.n false .u64 l] (fun o => o = .ret (.n false .u64 (digs B32 x))) := by have h := rOf_s l (by have := hx.l; omega) hx.u; rwa [rOf_v hx.u, hx.v, Int.toNat_natCast] at h
  have hOd : Spec Try.prog 41 [.n false .u64 d] (fun o => o = .ret (.n false .u64 (digs B32 y))) := by have h := rOf_s d (by have := hy.l; omega) hy.u; rwa [rOf_v hy.u, hy.v, Int.toNat_natCast] at h
  have hl0 := @dl0 y
  have hlx := hx.dl
  have hly := hy.dl
  have hZe : Spec Try.prog 21 [.n false .u64 (digs B32 y)] (fun o => o = .ret (.b false)) := by have h := Zero_s (digs B32 y); rwa [decide_eq_false (by have := @dl0 y; omega)] at h
  refine jc_seq ?_; refine jc_region ?_; refine jo_h (hy_box (id := 0) (n := 3) rfl rfl rfl (by decide) rfl) (hd 1 rfl) ?_; refine jo_h (hy_alloc (id := 1) zero1031 (by decide) rfl (by decide) rfl) (hd 2 rfl) ?_; refine jo_l (ly_as rfl) (hd 3 rfl) ?_; refine jo_nil ?_; refine jc_seq ?_; refine jc_region ?_; refine jo_l (ly_fa fld1028_1 rfl rfl rfl) (hd 5 rfl) ?_; refine jo_l (ly_ld one28 rfl rfl rfl) (hd 6 rfl) ?_
  refine jo_call Try.f41 (hOd) rfl Try.func41 rfl rfl (ovL_cons rfl ovL_nil) (.cons .n .nil) (hd 7 rfl) ?_ (fun ch hp => by simp at hp)
  rintro y hy; injection hy with hy; subst hy; refine jo_l (ly_as rfl) (hd 4 rfl) ?_; refine jo_nil ?_; refine jc_seq ?_; refine jc_seq ?_; refine jc_region ?_; refine jo_l (ly_mv rfl) (hd 8 rfl) ?_
  refine jo_call Try.f21 (hZe) rfl Try.func21 rfl rfl (ovL_cons rfl ovL_nil) (.cons .n .nil) (hd 9 rfl) ?_ (fun ch hp => by simp at hp)
  rintro y hy; injection hy with hy; subst hy; refine jo_nil ?_; refine jc_litf rfl ?_; refine jc_skip ?_; refine jc_seq ?_; refine jc_draw (n := 11) _ rfl mixed ?_; refine ja_l2 0 [1, 2, 8, 9, 10] (lo_l (ly_fa fld1028_0 rfl rfl rfl) (hd 11 rfl)) rfl (by kernel_rfl) (by kernel_rfl) (by kernel_rfl) (by kernel_rfl) (fun _ _ _ _ h => h) ?_; refine ja_l2 1 [2, 8, 9, 10] (lo_l (ly_fa fld30_0 rfl rfl rfl) (hd 12 rfl)) rfl (by kernel_rfl) (by kernel_rfl) (by kernel_rfl) (by kernel_rfl) (fun _ _ _ _ h => h) ?_; refine ja_l 2 (lo_l (ly_ld one4 rfl rfl rfl) (hd 13 rfl)) rfl (by kernel_rfl) (by kernel_rfl) (by kernel_rfl) (fun _ _ _ _ h => h) ?_; refine ja_l2 3 [4, 5, 6, 8, 9, 10] (lo_l (ly_fa fld1028_0 rfl rfl rfl) (hd 14 rfl)) rfl (by kernel_rfl) (by kernel_rfl) (by kernel_rfl) (by kernel_rfl) (fun _ _ _ _ h => h) ?_; refine ja_l2 4 [5, 6, 8, 9, 10] (lo_l (ly_fa fld30_1 rfl rfl rfl) (hd 15 rfl)) rfl (by kernel_rfl) (by kernel_rfl) (by kernel_rfl) (by kernel_rfl) (fun _ _ _ _ h => h) ?_; refine ja_l2 5 [6, 8, 9, 10] (lo_l (ly_ld one28 rfl rfl rfl) (hd 16 rfl)) rfl (by kernel_rfl) (by kernel_rfl) (by kernel_rfl) (by kernel_rfl) (fun _ _ _ _ h => h) ?_; refine ja_l 7 (lo_l (ly_mv rfl) (hd 18 rfl)) rfl (by kernel_rfl) (by kernel_rfl) (by kernel_rfl) (fun _ _ _ _ h => h) ?_
  refine ja_1 6 ?_ rfl (by kernel_rfl)
  refine js_call Try.f41 (hOl) rfl Try.func41 rfl rfl (ovL_cons rfl ovL_nil) (.cons .n .nil) (hd 17 rfl) ?_ (fun ch hp => by simp at hp)
  rintro y hy; injection hy with hy; subst hy
  refine ja_1 8 ?_ rfl (by kernel_rfl)
  refine js_call Try.f22 (rMake_s s x y (by omega) (by omega) h0) rfl Try.func22 rfl rfl (ovL_cons rfl (ovL_cons rfl (ovL_cons rfl ovL_nil))) (.cons .b (.cons .n (.cons .n .nil))) (hd 19 rfl) ?_ (fun ch hp => by simp at hp)
  rintro y hy; injection hy with hy; subst hy
  refine ja_1 9 ?_ rfl (by kernel_rfl)
  refine js_st (sy_store rfl rfl rfl siz1031 rfl rfl (Nat.le_of_ble_eq_true rfl)) rfl ?_; refine ja_l 10 (lo_l (ly_as rfl) (hd 3 rfl)) rfl (by kernel_rfl) (by kernel_rfl) (by kernel_rfl) (fun _ _ _ _ h => h) ?_; refine ja_nil (by kernel_rfl) ?_; refine jc_ret ?_
  refine ⟨_, _, (.cons (ResV.cell agg1031 rfl rfl rfl rfl) (.cons rfl .nil)), (.t1 (.a1 .b (.a1 .n (.a1 .n .a0))) (.t1 .b .t0)), ?_⟩
  exact rfl

set_option maxHeartbeats 4000000 in
theorem number_z (s : Bool) (l d : List Int) (hy : Rw d 0) : Spec Try.prog 9 [(.a [.b s, .n false .u64 l, .n false .u64 d])] (fun o => o = .ret (.t [(.a [.b false, .n false .u64 [], .n false .u64 []]), .b false])) := by
  refine spec_of' [(0, (.a [.b s, .n false .u64 l, .n false .u64 d]))] rfl Try.func9 rfl (Nat.le_of_ble_eq_true rfl) fun Γ hN hds hL hR => ?_
  have hd := hdOf 20 hN
  have hOd : Spec Try.prog 41 [.n false .u64 d] (fun o => o = .ret (.n false .u64 (digs B32 0))) := by have h := rOf_s d (by have := hy.l; omega) hy.u; rwa [rOf_v hy.u, hy.v] at h
  have hZe : Spec Try.prog 21 [.n false .u64 (digs B32 0)] (fun o => o = .ret (.b true)) := by have h := Zero_s (digs B32 0); rwa [decide_eq_true (by rw [digs_0]; rfl)] at h
  refine jc_seq ?_; refine jc_region ?_; refine jo_h (hy_box (id := 0) (n := 3) rfl rfl rfl (by decide) rfl) (hd 1 rfl) ?_; refine jo_h (hy_alloc (id := 1) zero1031 (by decide) rfl (by decide) rfl) (hd 2 rfl) ?_; refine jo_l (ly_as rfl) (hd 3 rfl) ?_; refine jo_nil ?_; refine jc_seq ?_; refine jc_region ?_; refine jo_l (ly_fa fld1028_1 rfl rfl rfl) (hd 5 rfl) ?_; refine jo_l (ly_ld one28 rfl rfl rfl) (hd 6 rfl) ?_
  refine jo_call Try.f41 (hOd) rfl Try.func41 rfl rfl (ovL_cons rfl ovL_nil) (.cons .n .nil) (hd 7 rfl) ?_ (fun ch hp => by simp at hp)
  rintro y hy; injection hy with hy; subst hy; refine jo_l (ly_as rfl) (hd 4 rfl) ?_; refine jo_nil ?_; refine jc_seq ?_; refine jc_seq ?_; refine jc_region ?_; refine jo_l (ly_mv rfl) (hd 8 rfl) ?_
  refine jo_call Try.f21 (hZe) rfl Try.func21 rfl rfl (ovL_cons rfl ovL_nil) (.cons .n .nil) (hd 9 rfl) ?_ (fun ch hp => by simp at hp)
  rintro y hy; injection hy with hy; subst hy; refine jo_nil ?_; refine jc_litt rfl ?_; refine jc_seq ?_; refine jc_region ?_; refine jo_l (ly_build (is := []) (xs := []) (pls := []) zero1031 pls1031_ rfl ovL_nil rfl trivial (all_of rfl) rfl) (hd 10 rfl) ?_; refine jo_st (sy_store rfl rfl rfl siz1031 rfl rfl (Nat.le_of_ble_eq_true rfl)) ?_; refine jo_l (ly_as rfl) (hd 3 rfl) ?_; refine jo_nil ?_; refine jc_ret ?_
  refine ⟨_, _, (.cons (ResV.cell agg1031 rfl rfl rfl rfl) (.cons rfl .nil)), (.t1 (.a1 .b (.a1 (.nil (fr := false) (k := .u64)) (.a1 (.nil (fr := false) (k := .u64)) .a0))) (.t1 .b .t0)), ?_⟩
  exact rfl

set_option maxHeartbeats 4000000 in
theorem nothing_z  : Spec Try.prog 45 [(.a [.b false, .n false .u64 [], .n false .u64 []])] (fun o => o = .ret (.b true)) := by
  refine spec_of' [(0, (.a [.b false, .n false .u64 [], .n false .u64 []]))] rfl Try.func45 rfl (Nat.le_of_ble_eq_true rfl) fun Γ hN hds hL hR => ?_
  have hd := hdOf 20 hN
  refine jc_seq ?_; refine jc_region ?_; refine jo_h (hy_box (id := 0) (n := 3) rfl rfl rfl (by decide) rfl) (hd 1 rfl) ?_; refine jo_l (ly_as rfl) (hd 2 rfl) ?_; refine jo_nil ?_; refine jc_seq ?_; refine jc_region ?_; refine jo_l (ly_fa fld1028_0 rfl rfl rfl) (hd 3 rfl) ?_; refine jo_l (ly_fa fld30_0 rfl rfl rfl) (hd 4 rfl) ?_; refine jo_l (ly_ld one4 rfl rfl rfl) (hd 5 rfl) ?_; refine jo_l (ly_not rfl) (hd 6 rfl) ?_; refine jo_l (ly_mv rfl) (hd 7 rfl) ?_; refine jo_g 7 rfl rfl (ly_fa fld1028_0 rfl rfl rfl) (hd 8 rfl) ?_; refine jo_g 7 rfl rfl (ly_fa fld30_1 rfl rfl rfl) (hd 9 rfl) ?_; refine jo_g 7 rfl rfl (ly_ld one28 rfl rfl rfl) (hd 10 rfl) ?_; refine jo_g 7 rfl rfl (ly_lenn sl28 rfl) (hd 11 rfl) ?_; refine jo_g 7 rfl rfl (ly_tt (ly_eq rfl rfl) rfl) (hd 12 rfl) ?_; refine jo_l (ly_pick_t rfl rfl) (hd 13 rfl) ?_; refine jo_l (ly_mv rfl) (hd 14 rfl) ?_; refine jo_g 14 rfl rfl (ly_fa fld1028_1 rfl rfl rfl) (hd 15 rfl) ?_; refine jo_g 14 rfl rfl (ly_ld one28 rfl rfl rfl) (hd 16 rfl) ?_; refine jo_g 14 rfl rfl (ly_lenn sl28 rfl) (hd 17 rfl) ?_; refine jo_g 14 rfl rfl (ly_tt (ly_eq rfl rfl) rfl) (hd 18 rfl) ?_; refine jo_l (ly_pick_t rfl rfl) (hd 19 rfl) ?_; refine jo_l (ly_as rfl) (hd 2 rfl) ?_; refine jo_nil ?_; refine jc_ret ?_
  refine ⟨_, _, (.cons rfl .nil), .b, ?_⟩
  exact rfl

set_option maxHeartbeats 4000000 in
theorem qis_s (b : Bool) (x : Nat) (hdx : (digs B32 x).length < 4294967296) : Spec Try.prog 46 [.a [.b b, .n false .u64 (lm (x : Int))], (.a [.b b, .n false .u64 (digs B32 x)])] (fun o => o = .ret (.b true)) := by
  refine spec_of' [(0, .a [.b b, .n false .u64 (lm (x : Int))]), (1, (.a [.b b, .n false .u64 (digs B32 x)]))] rfl Try.func46 rfl (Nat.le_of_ble_eq_true rfl) fun Γ hN hds hL hR => ?_
  have hd := hdOf 17 hN
  have hIs : Spec Try.prog 39 [.n false .u64 (digs B32 x), .n false .u64 (lm (x : Int))] (fun o => o = .ret (.b true)) := by have h := Is_s (digs B32 x) (by omega); rwa [lims_nt] at h
  refine jc_seq ?_; refine jc_region ?_; refine jo_h (hy_box (id := 0) (n := 2) rfl rfl rfl (by decide) rfl) (hd 2 rfl) ?_; refine jo_h (hy_box (id := 1) (n := 2) rfl rfl rfl (by decide) rfl) (hd 3 rfl) ?_; refine jo_l (ly_as rfl) (hd 4 rfl) ?_; refine jo_nil ?_; refine jc_seq ?_; refine jc_region ?_; refine jo_l (ly_fa fld30_0 rfl rfl rfl) (hd 5 rfl) ?_; refine jo_l (ly_ld one4 rfl rfl rfl) (hd 6 rfl) ?_; refine jo_l (ly_fa fld1044_0 rfl rfl rfl) (hd 7 rfl) ?_; refine jo_l (ly_ld one4 rfl rfl rfl) (hd 8 rfl) ?_; refine jo_l (ly_is (ly_eqb und4 rfl rfl) (show V.b (_ == _) = V.b true from congrArg V.b (beq_self_eq_true _))) (hd 9 rfl) ?_; refine jo_l (ly_mv rfl) (hd 10 rfl) ?_; refine jo_g 10 rfl rfl (ly_fa fld1044_1 rfl rfl rfl) (hd 11 rfl) ?_; refine jo_g 10 rfl rfl (ly_ld one33 rfl rfl rfl) (hd 12 rfl) ?_; refine jo_g 10 rfl rfl (ly_fa fld30_1 rfl rfl rfl) (hd 13 rfl) ?_; refine jo_g 10 rfl rfl (ly_ld one28 rfl rfl rfl) (hd 14 rfl) ?_
  refine jo_callg Try.f39 10 rfl rfl (hIs) rfl Try.func39 rfl rfl (ovL_cons rfl (ovL_cons rfl ovL_nil)) (.cons .n (.cons .n .nil)) (hd 15 rfl) ?_ (fun ch hp => by simp at hp)
  rintro y hy; injection hy with hy; subst hy; refine jo_l (ly_pick_t rfl rfl) (hd 16 rfl) ?_; refine jo_l (ly_as rfl) (hd 4 rfl) ?_; refine jo_nil ?_; refine jc_ret ?_
  refine ⟨_, _, (.cons rfl .nil), .b, ?_⟩
  exact rfl

set_option maxHeartbeats 4000000 in
theorem same7_ok (b : Bool) (x y : Nat) (bx : lenV (x : Int) ≤ 67108864) (by9 : lenV (y : Int) ≤ 67108864) : Spec Try.prog 11 [(.a [.b b, .n false .u64 (lm (x : Int)), .n false .u64 (lm (y : Int))]), .i .i64 0, (.a [.b b, .n false .u64 (digs B32 x), .n false .u64 (digs B32 y)]), .i .i64 0] (fun o => o = .ret (.b true)) := by
  refine spec_of' [(0, (.a [.b b, .n false .u64 (lm (x : Int)), .n false .u64 (lm (y : Int))])), (1, .i .i64 0), (2, (.a [.b b, .n false .u64 (digs B32 x), .n false .u64 (digs B32 y)])), (3, .i .i64 0)] rfl Try.func11 rfl (Nat.le_of_ble_eq_true rfl) fun Γ hN hds hL hR => ?_
  have hd := hdOf 51 hN
  have hdx := dl_of bx
  have hdy := dl_of by9
  have hLx : Spec Try.prog 33 [.n false .u64 (digs B32 x)] (fun o => o = .ret (.i .i64 (lenV (x : Int)))) := by have h := Len_s (x : Int) (by rw [dgN]; omega); rwa [dgN] at h
  have hLy : Spec Try.prog 33 [.n false .u64 (digs B32 y)] (fun o => o = .ret (.i .i64 (lenV (y : Int)))) := by have h := Len_s (y : Int) (by rw [dgN]; omega); rwa [dgN] at h
  have hIy : Spec Try.prog 39 [.n false .u64 (digs B32 y), .n false .u64 (lm (y : Int))] (fun o => o = .ret (.b true)) := by have h := Is_s (digs B32 y) (by omega); rwa [lims_nt] at h
  refine jc_seq ?_; refine jc_region ?_; refine jo_h (hy_box (id := 0) (n := 3) rfl rfl rfl (by decide) rfl) (hd 4 rfl) ?_; refine jo_h (hy_box (id := 1) (n := 3) rfl rfl rfl (by decide) rfl) (hd 6 rfl) ?_; refine jo_l (ly_as rfl) (hd 8 rfl) ?_; refine jo_nil ?_; refine jc_seq ?_; refine jc_seq ?_; refine jc_region ?_; refine jo_l (ly_mv rfl) (hd 9 rfl) ?_; refine jo_l (ly_tt (ly_eq rfl rfl) rfl) (hd 10 rfl) ?_; refine jo_l (ly_mv rfl) (hd 11 rfl) ?_; refine jo_g 11 rfl rfl (ly_fa fld1031_1 rfl rfl rfl) (hd 12 rfl) ?_; refine jo_g 11 rfl rfl (ly_ld one33 rfl rfl rfl) (hd 13 rfl) ?_
  refine jo_callg Try.f33 11 rfl rfl (hLx) rfl Try.func33 rfl rfl (ovL_cons rfl ovL_nil) (.cons .n .nil) (hd 14 rfl) ?_ (fun ch hp => by simp at hp)
  rintro y hy; injection hy with hy; subst hy; refine jo_g 11 rfl rfl (ly_ff (ly_gt rfl rfl) (by omega)) (hd 15 rfl) ?_; refine jo_g 11 rfl rfl (ly_mv rfl) (hd 16 rfl) ?_; refine jo_g 16 rfl rfl (ly_fa fld1031_2 rfl rfl rfl) (hd 17 rfl) ?_; refine jo_g 16 rfl rfl (ly_ld one33 rfl rfl rfl) (hd 18 rfl) ?_
  refine jo_callg Try.f33 16 rfl rfl (hLy) rfl Try.func33 rfl rfl (ovL_cons rfl ovL_nil) (.cons .n .nil) (hd 19 rfl) ?_ (fun ch hp => by simp at hp)
  rintro y hy; injection hy with hy; subst hy; refine jo_g 16 rfl rfl (ly_ff (ly_gt rfl rfl) (by omega)) (hd 20 rfl) ?_; refine jo_g 11 rfl rfl (ly_pick_f rfl rfl) (hd 21 rfl) ?_; refine jo_l (ly_pick_t rfl rfl) (hd 22 rfl) ?_; refine jo_nil ?_; refine jc_litf rfl ?_; refine jc_skip ?_; refine jc_seq ?_; refine jc_seq ?_; refine jc_region ?_; refine jo_l (ly_mv rfl) (hd 23 rfl) ?_; refine jo_l (ly_ff (ly_ne rfl rfl) (by decide)) (hd 24 rfl) ?_; refine jo_nil ?_; refine jc_litf rfl ?_; refine jc_skip ?_; refine jc_seq ?_; refine jc_region ?_; refine jo_l (ly_mv rfl) (hd 32 rfl) ?_; refine jo_l (ly_tt (ly_eq rfl rfl) rfl) (hd 33 rfl) ?_; refine jo_l (ly_mv rfl) (hd 34 rfl) ?_; refine jo_g 34 rfl rfl (ly_fa fld1028_0 rfl rfl rfl) (hd 35 rfl) ?_; refine jo_g 34 rfl rfl (ly_lda agg30 rfl rfl rfl rfl) (hd 36 rfl) ?_; refine jo_g 34 rfl rfl (ly_fa fld1031_0 rfl rfl rfl) (hd 37 rfl) ?_; refine jo_g 34 rfl rfl (ly_ld one4 rfl rfl rfl) (hd 38 rfl) ?_; refine jo_g 34 rfl rfl (ly_fa fld1031_1 rfl rfl rfl) (hd 39 rfl) ?_; refine jo_g 34 rfl rfl (ly_ld one33 rfl rfl rfl) (hd 40 rfl) ?_; refine jo_g 34 rfl rfl (ly_build (is := [0, 1]) (xs := [.tmp 38, .tmp 40]) zero1044 pls1044_0_1 rfl (ovL_cons rfl (ovL_cons rfl ovL_nil)) rfl (by first | (simp [plsOk, cellsV]; done) | (simp [plsOk, cellsV, old]; done)) (all_of rfl) rfl) (hd 41 rfl) ?_
  refine jo_callg Try.f46 34 rfl rfl (qis_s b x (by omega)) rfl Try.func46 rfl rfl (ovL_cons rfl (ovL_cons rfl ovL_nil)) (.cons (.a1 .b (.a1 .n .a0)) (.cons (.a1 .b (.a1 .n .a0)) .nil)) (hd 42 rfl) ?_ (fun ch hp => by simp at hp)
  rintro y hy; injection hy with hy; subst hy; refine jo_l (ly_pick_t rfl rfl) (hd 43 rfl) ?_; refine jo_l (ly_mv rfl) (hd 44 rfl) ?_; refine jo_g 44 rfl rfl (ly_fa fld1031_2 rfl rfl rfl) (hd 45 rfl) ?_; refine jo_g 44 rfl rfl (ly_ld one33 rfl rfl rfl) (hd 46 rfl) ?_; refine jo_g 44 rfl rfl (ly_fa fld1028_1 rfl rfl rfl) (hd 47 rfl) ?_; refine jo_g 44 rfl rfl (ly_ld one28 rfl rfl rfl) (hd 48 rfl) ?_
  refine jo_callg Try.f39 44 rfl rfl (hIy) rfl Try.func39 rfl rfl (ovL_cons rfl (ovL_cons rfl ovL_nil)) (.cons .n (.cons .n .nil)) (hd 49 rfl) ?_ (fun ch hp => by simp at hp)
  rintro y hy; injection hy with hy; subst hy; refine jo_l (ly_pick_t rfl rfl) (hd 50 rfl) ?_; refine jo_l (ly_as rfl) (hd 8 rfl) ?_; refine jo_nil ?_; refine jc_ret ?_
  refine ⟨_, _, (.cons rfl .nil), .b, ?_⟩
  exact rfl

set_option maxHeartbeats 4000000 in
theorem same7_er (b : Bool) (X Y : List Int) (e : Int) (he : e ≠ 0) : Spec Try.prog 11 [(.a [.b false, .n false .u64 [], .n false .u64 []]), .i .i64 e, (.a [.b b, .n false .u64 X, .n false .u64 Y]), .i .i64 e] (fun o => o = .ret (.b true)) := by
  refine spec_of' [(0, (.a [.b false, .n false .u64 [], .n false .u64 []])), (1, .i .i64 e), (2, (.a [.b b, .n false .u64 X, .n false .u64 Y])), (3, .i .i64 e)] rfl Try.func11 rfl (Nat.le_of_ble_eq_true rfl) fun Γ hN hds hL hR => ?_
  have hd := hdOf 51 hN
  refine jc_seq ?_; refine jc_region ?_; refine jo_h (hy_box (id := 0) (n := 3) rfl rfl rfl (by decide) rfl) (hd 4 rfl) ?_; refine jo_h (hy_box (id := 1) (n := 3) rfl rfl rfl (by decide) rfl) (hd 6 rfl) ?_; refine jo_l (ly_as rfl) (hd 8 rfl) ?_; refine jo_nil ?_; refine jc_seq ?_; refine jc_seq ?_; refine jc_region ?_; refine jo_l (ly_mv rfl) (hd 9 rfl) ?_; refine jo_l (ly_ff (ly_eq rfl rfl) he) (hd 10 rfl) ?_; refine jo_l (ly_mv rfl) (hd 11 rfl) ?_; refine jo_s 11 rfl rfl rfl (hd 12 rfl) ?_; refine jo_s 11 rfl rfl rfl (hd 13 rfl) ?_; refine jo_s 11 rfl rfl rfl (hd 14 rfl) ?_; refine jo_s 11 rfl rfl rfl (hd 15 rfl) ?_; refine jo_s 11 rfl rfl rfl (hd 16 rfl) ?_; refine jo_s' 16 rfl rfl (hd 17 rfl) ?_; refine jo_s' 16 rfl rfl (hd 18 rfl) ?_; refine jo_s' 16 rfl rfl (hd 19 rfl) ?_; refine jo_s' 16 rfl rfl (hd 20 rfl) ?_; refine jo_s 11 rfl rfl rfl (hd 21 rfl) ?_; refine jo_l (ly_pick_f rfl rfl) (hd 22 rfl) ?_; refine jo_nil ?_; refine jc_litf rfl ?_; refine jc_skip ?_; refine jc_seq ?_; refine jc_seq ?_; refine jc_region ?_; refine jo_l (ly_mv rfl) (hd 23 rfl) ?_; refine jo_l (ly_tt (ly_ne rfl rfl) he) (hd 24 rfl) ?_; refine jo_nil ?_; refine jc_litt rfl ?_; refine jc_seq ?_; refine jc_region ?_; refine jo_l (ly_mv rfl) (hd 25 rfl) ?_; refine jo_l (ly_mv rfl) (hd 26 rfl) ?_; refine jo_l (ly_tt (ly_eq rfl rfl) rfl) (hd 27 rfl) ?_; refine jo_l (ly_mv rfl) (hd 28 rfl) ?_; refine jo_g 28 rfl rfl (ly_lda agg1028 rfl rfl rfl rfl) (hd 29 rfl) ?_
  refine jo_callg Try.f45 28 rfl rfl (nothing_z) rfl Try.func45 rfl rfl (ovL_cons rfl ovL_nil) (.cons (.a1 .b (.a1 .n (.a1 .n .a0))) .nil) (hd 30 rfl) ?_ (fun ch hp => by simp at hp)
  rintro y hy; injection hy with hy; subst hy; refine jo_l (ly_pick_t rfl rfl) (hd 31 rfl) ?_; refine jo_l (ly_as rfl) (hd 8 rfl) ?_; refine jo_nil ?_; refine jc_ret ?_
  refine ⟨_, _, (.cons rfl .nil), .b, ?_⟩
  exact rfl

set_option maxHeartbeats 4000000 in
theorem rSgn_s (b : Bool) (x : Nat) (Y : List Int) : Spec Try.prog 18 [(.a [.b b, .n false .u64 (digs B32 x), .n false .u64 Y])] (fun o => o = .ret (.i .i64 (sgnI (zs b x)))) := by
  refine spec_of' [(0, (.a [.b b, .n false .u64 (digs B32 x), .n false .u64 Y]))] rfl Try.func18 rfl (Nat.le_of_ble_eq_true rfl) fun Γ hN hds hL hR => ?_
  have hd := hdOf 8 hN
  have hl0 := @dl0 x
  refine jc_seq ?_; refine jc_region ?_; refine jo_h (hy_box (id := 0) (n := 3) rfl rfl rfl (by decide) rfl) (hd 1 rfl) ?_; refine jo_l (ly_as rfl) (hd 2 rfl) ?_; refine jo_nil ?_; refine jc_seq ?_; refine jc_seq ?_; refine jc_region ?_; refine jo_l (ly_fa fld1031_1 rfl rfl rfl) (hd 3 rfl) ?_; refine jo_l (ly_ld one33 rfl rfl rfl) (hd 4 rfl) ?_
  refine jo_call Try.f21 (Zero_s (digs B32 x)) rfl Try.func21 rfl rfl (ovL_cons rfl ovL_nil) (.cons .n .nil) (hd 5 rfl) ?_ (fun ch hp => by simp at hp)
  rintro y hy; injection hy with hy; subst hy; refine jo_nil ?_
  refine jc_if rfl (fun h1 => ?_) (fun h1 => ?_)
  · have hx0 : x = 0 := hl0.1 (by omega)
    refine jc_seq ?_; refine jc_region ?_; refine jo_l (ly_as rfl) (hd 2 rfl) ?_; refine jo_nil ?_; refine jc_ret ?_
    refine ⟨_, _, (.cons rfl .nil), .i, ?_⟩
    rw [sgn_zs, if_pos hx0]
  · have hx0 : x ≠ 0 := fun e => h1 (by have := hl0.2 e; omega)
    refine jc_skip ?_; refine jc_seq ?_; refine jc_seq ?_; refine jc_region ?_; refine jo_l (ly_fa fld1031_0 rfl rfl rfl) (hd 6 rfl) ?_; refine jo_l (ly_ld one4 rfl rfl rfl) (hd 7 rfl) ?_; refine jo_nil ?_
    refine jc_cond rfl (fun h2 => ?_) (fun h2 => ?_)
    · have hb := h2
      refine jc_seq ?_; refine jc_region ?_; refine jo_l (ly_as rfl) (hd 2 rfl) ?_; refine jo_nil ?_; refine jc_ret ?_
      refine ⟨_, _, (.cons rfl .nil), .i, ?_⟩
      rw [sgn_zs, if_neg hx0, if_pos hb]
    · have hb := h2
      refine jc_skip ?_; refine jc_seq ?_; refine jc_region ?_; refine jo_l (ly_as rfl) (hd 2 rfl) ?_; refine jo_nil ?_; refine jc_ret ?_
      refine ⟨_, _, (.cons rfl .nil), .i, ?_⟩
      rw [sgn_zs, if_neg hx0, if_neg (by rw [hb]; decide)]

set_option maxHeartbeats 4000000 in
theorem rNeg_s (s : Bool) (x n : Nat) (Y : List Int) (hxn : x = 0 ↔ n = 0) : Spec Try.prog 16 [(.a [.b (sgq s x), .n false .u64 (digs B32 n), .n false .u64 Y])] (fun o => o = .ret (.a [.b (sgq (!s) x), .n false .u64 (digs B32 n), .n false .u64 Y])) := by
  refine spec_of' [(0, (.a [.b (sgq s x), .n false .u64 (digs B32 n), .n false .u64 Y]))] rfl Try.func16 rfl (Nat.le_of_ble_eq_true rfl) fun Γ hN hds hL hR => ?_
  have hd := hdOf 11 hN
  refine jc_seq ?_; refine jc_region ?_; refine jo_h (hy_box (id := 0) (n := 3) rfl rfl rfl (by decide) rfl) (hd 1 rfl) ?_; refine jo_h (hy_alloc (id := 1) zero1031 (by decide) rfl (by decide) rfl) (hd 2 rfl) ?_; refine jo_nil ?_; refine jc_seq ?_; refine jc_seq ?_; refine jc_region ?_; refine jo_l (ly_lda agg1031 rfl rfl rfl rfl) (hd 3 rfl) ?_
  refine jo_call Try.f18 (rSgn_s (sgq s x) n Y) rfl Try.func18 rfl rfl (ovL_cons rfl ovL_nil) (.cons (.a1 .b (.a1 .n (.a1 .n .a0))) .nil) (hd 4 rfl) ?_ (fun ch hp => by simp at hp)
  rintro y hy; injection hy with hy; subst hy; refine jo_l (ly_ne rfl rfl) (hd 5 rfl) ?_; refine jo_nil ?_
  refine jc_if rfl (fun h1 => ?_) (fun h1 => ?_)
  · have hx0 : x ≠ 0 := fun e => h1 (by rw [sgnI_0, zs_ne]; exact hxn.1 e)
    refine jc_region ?_; refine jo_l (ly_fa fld1031_0 rfl rfl rfl) (hd 6 rfl) ?_; refine jo_l (ly_ld one4 rfl rfl rfl) (hd 7 rfl) ?_; refine jo_l (ly_not rfl) (hd 8 rfl) ?_; refine jo_l (ly_fa fld1031_0 rfl rfl rfl) (hd 9 rfl) ?_; refine jo_st (sy_store rfl rfl rfl siz4 rfl rfl (Nat.le_of_ble_eq_true rfl)) ?_; refine jo_nil ?_; refine jc_seq ?_; refine jc_region ?_; refine jo_l (ly_lda agg1031 rfl rfl rfl rfl) (hd 10 rfl) ?_; refine jo_st (sy_store rfl rfl rfl siz1031 rfl rfl (Nat.le_of_ble_eq_true rfl)) ?_; refine jo_nil ?_; refine jc_ret ?_
    refine ⟨_, _, (.cons (ResV.cell agg1031 rfl rfl rfl rfl) .nil), (.a1 .b (.a1 .n (.a1 .n .a0))), ?_⟩
    rw [sgq_p hx0, sgq_p hx0]
  · have hx0 : x = 0 := by have h9 := Decidable.not_not.1 h1; rw [sgnI_0, zs_ne] at h9; exact hxn.2 h9
    refine jc_skip ?_; refine jc_seq ?_; refine jc_region ?_; refine jo_l (ly_lda agg1031 rfl rfl rfl rfl) (hd 10 rfl) ?_; refine jo_st (sy_store rfl rfl rfl siz1031 rfl rfl (Nat.le_of_ble_eq_true rfl)) ?_; refine jo_nil ?_; refine jc_ret ?_
    refine ⟨_, _, (.cons (ResV.cell agg1031 rfl rfl rfl rfl) .nil), (.a1 .b (.a1 .n (.a1 .n .a0))), ?_⟩
    subst hx0
    rw [sgq_0, sgq_0]

set_option maxHeartbeats 4000000 in
theorem rAbs_s (b : Bool) (X Y : List Int) : Spec Try.prog 17 [(.a [.b b, .n false .u64 X, .n false .u64 Y])] (fun o => o = .ret (.a [.b false, .n false .u64 X, .n false .u64 Y])) := by
  refine spec_of' [(0, (.a [.b b, .n false .u64 X, .n false .u64 Y]))] rfl Try.func17 rfl (Nat.le_of_ble_eq_true rfl) fun Γ hN hds hL hR => ?_
  have hd := hdOf 5 hN
  refine jc_seq ?_; refine jc_region ?_; refine jo_h (hy_box (id := 0) (n := 3) rfl rfl rfl (by decide) rfl) (hd 1 rfl) ?_; refine jo_h (hy_alloc (id := 1) zero1031 (by decide) rfl (by decide) rfl) (hd 2 rfl) ?_; refine jo_nil ?_; refine jc_seq ?_; refine jc_region ?_; refine jo_l (ly_fa fld1031_0 rfl rfl rfl) (hd 3 rfl) ?_; refine jo_st (sy_store rfl rfl rfl siz4 rfl rfl (Nat.le_of_ble_eq_true rfl)) ?_; refine jo_nil ?_; refine jc_seq ?_; refine jc_region ?_; refine jo_l (ly_lda agg1031 rfl rfl rfl rfl) (hd 4 rfl) ?_; refine jo_st (sy_store rfl rfl rfl siz1031 rfl rfl (Nat.le_of_ble_eq_true rfl)) ?_; refine jo_nil ?_; refine jc_ret ?_
  refine ⟨_, _, (.cons (ResV.cell agg1031 rfl rfl rfl rfl) .nil), (.a1 .b (.a1 .n (.a1 .n .a0))), ?_⟩
  exact rfl

set_option maxHeartbeats 4000000 in
theorem whole7_s (s : Bool) (l : List Int) (x : Nat) (hx : Rw l x) : Spec Try.prog 19 [.a [.b s, .n false .u64 l]] (fun o => o = .ret (.a [.b (sgq s x), .n false .u64 (digs B32 x)])) := by
  refine spec_of' [(0, .a [.b s, .n false .u64 l])] rfl Try.func19 rfl (Nat.le_of_ble_eq_true rfl) fun Γ hN hds hL hR => ?_
  have hd := hdOf 16 hN
  have hOl : Spec Try.prog 41 [.n false .u64 l] (fun o => o = .ret (.n false .u64 (digs B32 x))) := by have h := rOf_s l (by have := hx.l; omega) hx.u; rwa [rOf_v hx.u, hx.v, Int.toNat_natCast] at h
  refine jc_seq ?_; refine jc_region ?_; refine jo_h (hy_box (id := 0) (n := 2) rfl rfl rfl (by decide) rfl) (hd 1 rfl) ?_; refine jo_h (hy_alloc (id := 1) zero1044 (by decide) rfl (by decide) rfl) (hd 2 rfl) ?_; refine jo_nil ?_; refine jc_seq ?_; refine jc_region ?_; refine jo_l (ly_fa fld30_1 rfl rfl rfl) (hd 4 rfl) ?_; refine jo_l (ly_ld one28 rfl rfl rfl) (hd 5 rfl) ?_
  refine jo_call Try.f41 (hOl) rfl Try.func41 rfl rfl (ovL_cons rfl ovL_nil) (.cons .n .nil) (hd 6 rfl) ?_ (fun ch hp => by simp at hp)
  rintro y hy; injection hy with hy; subst hy; refine jo_l (ly_as rfl) (hd 3 rfl) ?_; refine jo_nil ?_; refine jc_seq ?_; refine jc_region ?_; refine jo_l (ly_fa fld30_0 rfl rfl rfl) (hd 7 rfl) ?_; refine jo_l (ly_ld one4 rfl rfl rfl) (hd 8 rfl) ?_; refine jo_l (ly_mv rfl) (hd 9 rfl) ?_
  refine jo_split 9 rfl (fun h1 => ?_) (fun h1 => ?_)
  · refine jo_g 9 rfl rfl (ly_mv rfl) (hd 10 rfl) ?_
    refine jo_callg Try.f21 9 rfl rfl (Zero_s (digs B32 x)) rfl Try.func21 rfl rfl (ovL_cons rfl ovL_nil) (.cons .n .nil) (hd 11 rfl) ?_ (fun ch hp => by simp at hp)
    rintro y hy; injection hy with hy; subst hy; refine jo_g 9 rfl rfl (ly_not rfl) (hd 12 rfl) ?_; refine jo_l (ly_pick_t rfl rfl) (hd 13 rfl) ?_; refine jo_l (ly_mv rfl) (hd 14 rfl) ?_; refine jo_l (ly_build (is := [0, 1]) (xs := [.tmp 13, .tmp 14]) zero1044 pls1044_0_1 rfl (ovL_cons rfl (ovL_cons rfl ovL_nil)) rfl (by first | (simp [plsOk, cellsV]; done) | (simp [plsOk, cellsV, old]; done)) (all_of rfl) rfl) (hd 15 rfl) ?_; refine jo_st (sy_store rfl rfl rfl siz1044 rfl rfl (Nat.le_of_ble_eq_true rfl)) ?_; refine jo_nil ?_; refine jc_ret ?_
    refine ⟨_, _, (.cons (ResV.cell agg1044 rfl rfl rfl rfl) .nil), (.a1 .b (.a1 .n .a0)), ?_⟩
    rw [sgq_len h1]
  · refine jo_s 9 rfl rfl rfl (hd 10 rfl) ?_; refine jo_s 9 rfl rfl rfl (hd 11 rfl) ?_; refine jo_s 9 rfl rfl rfl (hd 12 rfl) ?_; refine jo_l (ly_pick_f rfl rfl) (hd 13 rfl) ?_; refine jo_l (ly_mv rfl) (hd 14 rfl) ?_; refine jo_l (ly_build (is := [0, 1]) (xs := [.tmp 13, .tmp 14]) zero1044 pls1044_0_1 rfl (ovL_cons rfl (ovL_cons rfl ovL_nil)) rfl (by first | (simp [plsOk, cellsV]; done) | (simp [plsOk, cellsV, old]; done)) (all_of rfl) rfl) (hd 15 rfl) ?_; refine jo_st (sy_store rfl rfl rfl siz1044 rfl rfl (Nat.le_of_ble_eq_true rfl)) ?_; refine jo_nil ?_; refine jc_ret ?_
    refine ⟨_, _, (.cons (ResV.cell agg1044 rfl rfl rfl rfl) .nil), (.a1 .b (.a1 .n .a0)), ?_⟩
    rw [show sgq s x = false by rw [h1]; rfl]

/- Contracts of div.Quo, ratio.parts, norm: the results are new. -/
set_option maxHeartbeats 4000000 in
theorem mustU (u : Value) : Spec Try.prog 61 [.c u, .i .i64 0] (fun o => o = .ret (.c u)) := by
  refine spec_of' [(0, .c u), (1, .i .i64 0)] rfl Try.func61 rfl (Nat.le_of_ble_eq_true rfl) fun Γ hN hds hL hR => ?_
  have hd := hdOf 11 hN
  refine jc_seq ?_; refine jc_region ?_; refine jo_l (ly_as rfl) (hd 4 rfl) ?_; refine jo_nil ?_; refine jc_seq ?_; refine jc_seq ?_; refine jc_region ?_; refine jo_l (ly_mv rfl) (hd 5 rfl) ?_; refine jo_l (ly_ff (ly_ne rfl rfl) (by decide)) (hd 6 rfl) ?_; refine jo_nil ?_; refine jc_litf rfl ?_; refine jc_skip ?_; refine jc_seq ?_; refine jc_region ?_; refine jo_l (ly_mv rfl) (hd 10 rfl) ?_; refine jo_l (ly_as rfl) (hd 4 rfl) ?_; refine jo_nil ?_; refine jc_ret ?_
  refine ⟨_, _, (.cons rfl .nil), .c, ?_⟩
  exact rfl

set_option maxHeartbeats 4000000 in
theorem divide_q (a b : List Int) (la : a.length < 4294967296) (lb : b.length < 4294967296) (ua : u64s a) (ub : u64s b) (ta : tpd a) (tb : tpd b) (hb : b ≠ []) : SpecM Try.prog 100 [.n false .u64 a, .n false .u64 b] [] (fun o G => o = .ret (.t [.o 0 0 0 (lm (vl a / vl b)).length, .n false .u64 (lm (vl a % vl b))]) ∧ G = [⟨67, 1, 0, true, ints .u64 (lm (vl a / vl b))⟩]) := by
  refine specS_of [(0, .n false .u64 a), (1, .n false .u64 b)] rfl Try.func100 rfl (Nat.le_of_ble_eq_true rfl) fun Γ hN hds hL hR => ?_
  have hd := hdOf 104 hN
  have hcv := cmpL_val ua ub
  have hb0 := vl_pos ub tb hb
  have hva := vl_nonneg ua
  refine jc_seq ?_; refine jc_region ?_; refine jo_l (ly_as rfl) (hd 4 rfl) ?_; refine jo_l (ly_as rfl) (hd 5 rfl) ?_; refine jo_nil ?_; refine jc_seq ?_; refine jc_seq ?_; refine jc_region ?_; refine jo_l (ly_mv rfl) (hd 15 rfl) ?_; refine jo_l (ly_mv rfl) (hd 16 rfl) ?_
  refine jo_call Try.f86 (Compare_s a b la lb) rfl Try.func86 rfl rfl (ovL_cons rfl (ovL_cons rfl ovL_nil)) (.cons .n (.cons .n .nil)) (hd 17 rfl) ?_ (fun ch hp => by simp at hp)
  rintro y hy; injection hy with hy; subst hy; refine jo_l (ly_lt rfl rfl) (hd 18 rfl) ?_; refine jo_nil ?_
  refine jc_if rfl (fun h1 => ?_) (fun h1 => ?_)
  · have hlt : vl a < vl b := by rcases hcv with ⟨c, v⟩ | ⟨c, v⟩ | ⟨c, v⟩ <;> omega
    refine jc_seq ?_; refine jc_region ?_; refine jo_l (ly_mv rfl) (hd 19 rfl) ?_; refine jo_l (ly_as rfl) (hd 4 rfl) ?_; refine jo_l (ly_as rfl) (hd 5 rfl) ?_; refine jo_nil ?_; refine jc_own0 4 67 1 rfl rfl ?_; refine jc_ret ?_
    refine ⟨[0], _, (.t [.o 0 0 0 0, .n false .u64 a]), (.cons rfl (.cons rfl .nil)), rfl, rfl, (by decide), (by first | exact idless_cons ints_id idless_nil | exact idless_cons rfl idless_nil), ?_⟩
    rw [Int.ediv_eq_zero_of_lt hva hlt, Int.emod_eq_of_lt hva hlt, lm_0, lm_id ua ta]
    exact ⟨rfl, rfl⟩
  · have hge : vl b ≤ vl a := by rcases hcv with ⟨c, v⟩ | ⟨c, v⟩ | ⟨c, v⟩ <;> omega
    have hlen := kn_len ua ub tb hb hge
    refine jc_skip ?_; refine jc_seq ?_; refine jc_seq ?_; refine jc_region ?_; refine jo_l (ly_mv rfl) (hd 20 rfl) ?_; refine jo_l (ly_lenn sl28 rfl) (hd 21 rfl) ?_; refine jo_l (ly_eq rfl rfl) (hd 22 rfl) ?_; refine jo_nil ?_
    refine jc_if rfl (fun h2 => ?_) (fun h2 => ?_)
    · obtain ⟨d, rfl⟩ : ∃ d, b = [d] := List.length_eq_one_iff.1 (by omega)
      have hdb := ub d (List.mem_singleton.2 rfl)
      have hd0 := tpd_one tb
      have hdp : 0 < d := by omega
      have hvd : vl [d] = d := by simp [vl]
      refine jc_seq ?_; refine jc_region ?_; refine jo_l (ly_mv rfl) (hd 23 rfl) ?_; refine jo_l (ly_lenn sl28 rfl) (hd 24 rfl) ?_; refine jo_h (hy_mk (m := a.length) el28 rfl rfl rfl (by show 8 * a.length ≤ _; omega) (by unfold maxLen; omega) rfl) (hd 25 rfl) ?_; refine jo_l (ly_as rfl) (hd 6 rfl) ?_; refine jo_l (ly_as rfl) (hd 7 rfl) ?_; refine jo_nil ?_; refine jc_seq ?_; refine jc_seq ?_; refine jc_region ?_; refine jo_l (ly_mv rfl) (hd 26 rfl) ?_; refine jo_l (ly_lenn sl28 rfl) (hd 27 rfl) ?_; refine jo_l (ly_sub rfl rfl (wrap_i64 (by omega) (by omega))) (hd 28 rfl) ?_; refine jo_l (ly_as rfl) (hd 8 rfl) ?_; refine jo_nil ?_; refine jc_block ?_; refine jc_H (H' := [⟨67, 1, 0, true, ints .u64 (List.replicate a.length 0 ++ (dvN a d (a.length - a.length)).1)⟩]) (by rw [Nat.sub_self]; show _ = [(⟨67, 1, 0, true, ints .u64 (List.replicate a.length 0 ++ [])⟩ : Ob)]; rw [List.append_nil]; rfl) ?_
      refine jc_loopF (G := Nat) (fun k => k ≤ a.length) (fun k => [(7, .i .u64 (dvN a d (a.length - k)).2), (8, .i .i64 ((k : Int) - 1)), (29, .u), (30, .u), (31, .u), (32, .u), (33, .u), (34, .u), (35, .u), (36, .u), (37, .u), (38, .u), (39, .u), (40, .u), (41, .u), (42, .u), (43, .u), (44, .u), (45, .u), (46, .u), (47, .u)]) (fun k => [⟨67, 1, 0, true, ints .u64 (List.replicate k 0 ++ (dvN a d (a.length - k)).1)⟩]) (fun k => k) a.length ?_ ?_ rfl ?_
      · exact Nat.le_refl _
      · exact (.cons (by show some (V.i .u64 0) = some (V.i .u64 (dvN a d (a.length - a.length)).2); rw [Nat.sub_self]; rfl) (.cons rfl (.u (.u (.u (.u (.u (.u (.u (.u (.u (.u (.u (.u (.u (.u (.u (.u (.u (.u (.u .nil)))))))))))))))))))))
      · rintro k hc1
        have hr := dvN_r (a := a) hdp (a.length - k)
        have hx := u64s_getD ua (k - 1)
        refine jc_seq ?_; refine jc_seq ?_; refine jc_region ?_; refine jo_l (ly_mv rfl) (hd 29 rfl) ?_; refine jo_l (ly_ge rfl rfl) (hd 30 rfl) ?_; refine jo_nil ?_
        refine jc_if rfl (fun h3 => ?_) (fun h3 => ?_)
        · refine jc_skip ?_; refine jc_seq ?_; refine jc_block ?_; refine jc_draw (n := 17) _ rfl mixed ?_; refine ja_l 0 (lo_l (ly_mv rfl) (hd 34 rfl)) rfl (by kernel_rfl) (by kernel_rfl) (by kernel_rfl) (fun _ _ _ _ h => h) ?_; refine ja_l 1 (lo_l (ly_mv rfl) (hd 35 rfl)) rfl (by kernel_rfl) (by kernel_rfl) (by kernel_rfl) (fun _ _ _ _ h => h) ?_; refine ja_l2 2 [10, 11, 12, 13, 14, 15, 16] (lo_l (ly_mv rfl) (hd 36 rfl)) rfl (by kernel_rfl) (by kernel_rfl) (by kernel_rfl) (by kernel_rfl) (fun _ _ _ _ h => h) ?_; refine ja_l2 3 [5, 6, 10, 11, 12, 13, 14, 15, 16] (lo_l (ly_mv rfl) (hd 37 rfl)) rfl (by kernel_rfl) (by kernel_rfl) (by kernel_rfl) (by kernel_rfl) (fun _ _ _ _ h => h) ?_; refine ja_l2 4 [5, 6, 10, 11, 12, 13, 14, 15, 16] (lo_l (ly_mv rfl) (hd 38 rfl)) rfl (by kernel_rfl) (by kernel_rfl) (by kernel_rfl) (by kernel_rfl) (fun _ _ _ _ h => h) ?_; refine ja_l2 5 [6, 10, 11, 12, 13, 14, 15, 16] (lo_l (ly_ian (i := k - 1) sl28 rfl rfl (by omega) (by omega)) (hd 39 rfl)) rfl (by kernel_rfl) (by kernel_rfl) (by kernel_rfl) (by kernel_rfl) (fun _ _ _ _ h => h) ?_; refine ja_l2 6 [10, 11, 12, 13, 14, 15, 16] (lo_l (ly_ldq one82 rfl rfl) (hd 40 rfl)) rfl (by kernel_rfl) (by kernel_rfl) (by kernel_rfl) (by kernel_rfl) (fun _ _ _ _ h => h) ?_; refine ja_l2 7 [8, 9, 10, 11, 12, 13, 14, 15, 16] (lo_l (ly_mv rfl) (hd 41 rfl)) rfl (by kernel_rfl) (by kernel_rfl) (by kernel_rfl) (by kernel_rfl) (fun _ _ _ _ h => h) ?_; refine ja_l2 8 [9, 10, 11, 12, 13, 14, 15, 16] (lo_l (ly_ian (i := 0) sl28 rfl rfl rfl (by simp)) (hd 42 rfl)) rfl (by kernel_rfl) (by kernel_rfl) (by kernel_rfl) (by kernel_rfl) (fun _ _ _ _ h => h) ?_; refine ja_l2 9 [10, 11, 12, 13, 14, 15, 16] (lo_l (ly_ldq one82 rfl rfl) (hd 43 rfl)) rfl (by kernel_rfl) (by kernel_rfl) (by kernel_rfl) (by kernel_rfl) (fun _ _ _ _ h => h) ?_
          refine ja_1 10 ?_ rfl (by kernel_rfl)
          refine js_call Try.f122 (Div64_s (dvN a d (a.length - k)).2 (a.getD (k - 1) 0) d hr.1 hr.2 hx.1 hx.2 hdb.2) rfl Try.func122 rfl rfl (ovL_cons rfl (ovL_cons rfl (ovL_cons rfl ovL_nil))) (.cons .i (.cons .i (.cons .i .nil))) (hd 44 rfl) ?_ (fun ch hp => by simp at hp)
          rintro y hy; injection hy with hy; subst hy; refine ja_l 11 (lo_l (ly_mv rfl) (hd 33 rfl)) rfl (by kernel_rfl) (by kernel_rfl) (by kernel_rfl) (fun _ _ _ _ h => h) ?_; refine ja_l 12 (lo_l (ly_ext rfl rfl) (hd 45 rfl)) rfl (by kernel_rfl) (by kernel_rfl) (by kernel_rfl) (fun _ _ _ _ h => h) ?_; refine ja_l 13 (lo_ext rfl rfl (hd 46 rfl)) rfl (by kernel_rfl) (by kernel_rfl) (by kernel_rfl) (fun _ _ _ _ h => h) ?_; refine ja_l 14 (lo_l (ly_ia (i := k - 1) sl28 rfl rfl rfl (by omega) (by omega) rfl) (hd 47 rfl)) rfl (by kernel_rfl) (by kernel_rfl) (by kernel_rfl) (fun _ _ _ _ h => h) ?_
          refine ja_1 15 ?_ rfl (by kernel_rfl)
          refine js_st (sy_storei rfl rfl rfl one82 (by simp only [List.length_append, List.length_replicate, dvN_len]; omega)) rfl ?_; refine ja_l 16 (lo_l (ly_as rfl) (hd 7 rfl)) rfl (by kernel_rfl) (by kernel_rfl) (by kernel_rfl) (fun _ _ _ _ h => h) ?_; refine ja_nil (by kernel_rfl) ?_; refine jc_region ?_; refine jo_l (ly_mv rfl) (hd 31 rfl) ?_; refine jo_l (ly_sub rfl rfl (wrap_i64 (by omega) (by omega))) (hd 32 rfl) ?_; refine jo_l (ly_as rfl) (hd 8 rfl) ?_; refine jo_nil ?_
          refine ⟨k - 1, ?_, ?_, (by show [(⟨67, 1, 0, true, ints .u64 _⟩ : Ob)] = [⟨67, 1, 0, true, ints .u64 _⟩]; rw [dv_row (by omega), dv_step (by omega) hc1]), cov_n 42 rfl rfl ?_⟩
          · omega
          · omega
          · exact (.cons (by show some (V.i .u64 _) = some (V.i .u64 _); rw [dv_step (by omega) hc1]) (.cons (by show some (V.i .i64 _) = some (V.i .i64 _); congr 2; omega) (.u (.u (.u (.u (.u (.u (.u (.u (.u (.u (.u (.u (.u (.u (.u (.u (.u (.u (.u .nil)))))))))))))))))))))
        · obtain rfl : k = 0 := by omega
          refine jc_exit ?_; refine jc_seq ?_; refine jc_region ?_; refine jo_frz (k := .u64) (l := List.replicate 0 0 ++ (dvN a d (a.length - 0)).1) (l' := (dvN a d a.length).1) 6 rfl rfl (by simp [dvN_len]) (by rw [Nat.sub_zero, List.drop_zero]; show List.take _ (dvN a d a.length).1 = _; rw [List.take_of_length_le (by rw [dvN_len]; exact Nat.le_refl _)]) hL ?_; refine jo_l (ly_mv rfl) (hd 48 rfl) ?_
          refine jo_callN Try.f71 (Norm_n (dvN a d a.length).1 (by rw [dvN_len]; omega)) (fun o G ⟨_, h⟩ => h ▸ idless_cons ints_id idless_nil) rfl Try.func71 rfl rfl (ovL_cons rfl ovL_nil) (.cons .n .nil) (hd 49 rfl) ?_ (fun ch G hp => by simp at hp)
          rintro y G ⟨hy, rfl⟩; injection hy with hy; subst hy
          show JO _ _ _ _ ((49, .o 1 0 0 (trm (dvN a d a.length).1).length) :: _) _ _
          refine jo_l (ly_mv rfl) (hd 50 rfl) ?_
          refine jo_call Try.f58 (From_s (dvN a d (a.length - 0)).2) rfl Try.func58 rfl rfl (ovL_cons rfl ovL_nil) (.cons .i .nil) (hd 51 rfl) ?_ (fun ch hp => by simp at hp)
          rintro y hy; injection hy with hy; subst hy; refine jo_l (ly_as rfl) (hd 4 rfl) ?_; refine jo_l (ly_as rfl) (hd 5 rfl) ?_; refine jo_nil ?_; refine jc_weakn 5 rfl ?_; refine jc_ret ?_
          refine ⟨[1], _, (.t [.o 0 0 0 (trm (dvN a d a.length).1).length, .n false .u64 (if (dvN a d (a.length - 0)).2 = 0 then [] else [(dvN a d (a.length - 0)).2])]), (.cons rfl (.cons rfl .nil)), rfl, rfl, (by decide), (by first | exact idless_cons ints_id idless_nil | exact idless_cons rfl idless_nil), ?_⟩
          have hde := dv_end ua hdp
          rw [Nat.sub_zero, hde.2, fl_lm (Int.emod_nonneg _ (by omega)) (by have := Int.emod_lt_of_pos (vl a) hdp; omega), hde.1, hvd]
          exact ⟨rfl, rfl⟩
    · have hbl : 0 < b.length := List.length_pos_iff.2 hb
      obtain ⟨n, hn⟩ : ∃ n, b.length = n + 2 := ⟨b.length - 2, by omega⟩
      have htb := tb hb
      rw [hn, show n + 2 - 1 = n + 1 by omega] at htb
      have hbt := u64s_getD ub (n + 1)
      obtain ⟨s, hs⟩ : ∃ s : Nat, 64 - bl 64 (b.getD (n + 1) 0).toNat = s := ⟨_, rfl⟩
      have hz := lz_int (show 0 < b.getD (n + 1) 0 by omega) hbt.2
      rw [hs] at hz
      obtain ⟨s64, y0, y1⟩ := hz
      obtain ⟨v, hv⟩ : ∃ v, (upL b s).take b.length = v := ⟨_, rfl⟩
      have hv2 := up_cut s64 ub (by rw [hn]; exact y1) hb
      have uv : u64s v := hv ▸ u64s_take (upL_u s64 ub) _
      have hlv : v.length = n + 2 := by rw [← hv, List.length_take, upL_len]; omega
      rw [hv] at hv2
      have htop := kn_top ub uv tb hn hlv hv2
      have hul := upL_len a s
      refine jc_skip ?_; refine jc_seq ?_; refine jc_region ?_; refine jo_l (ly_mv rfl) (hd 52 rfl) ?_; refine jo_l (ly_mv rfl) (hd 53 rfl) ?_; refine jo_l (ly_lenn sl28 rfl) (hd 54 rfl) ?_; refine jo_l (ly_sub rfl rfl (r := ((n + 1 : Nat) : Int)) (by rw [wrap_i64 (by omega) (by omega)]; omega)) (hd 55 rfl) ?_; refine jo_l (ly_ian (i := n + 1) sl28 rfl rfl (by first | rfl | omega) (by omega)) (hd 56 rfl) ?_; refine jo_l (ly_is (ly_ldq one82 rfl rfl) (show V.i .u64 _ = V.i .u64 (((b.getD (n + 1) 0).toNat : Int)) from congrArg (V.i .u64) (Int.toNat_of_nonneg hbt.1).symm)) (hd 57 rfl) ?_
      refine jo_call Try.f123 (Lz_s (b.getD (n + 1) 0).toNat (by omega)) rfl Try.func123 rfl rfl (ovL_cons rfl ovL_nil) (.cons .i .nil) (hd 58 rfl) ?_ (fun ch hp => by simp at hp)
      rintro y hy; injection hy with hy; subst hy; refine jo_l (ly_conv und3 und116 rfl (r := (s : Int)) (by rw [hs]; exact wrap_u64 (by omega) (by omega))) (hd 59 rfl) ?_; refine jo_l (ly_as rfl) (hd 9 rfl) ?_; refine jo_nil ?_; refine jc_seq ?_; refine jc_draw (n := 11) _ rfl mixed ?_; refine ja_l2 0 [2, 5, 8, 9, 10] (lo_l (ly_mv rfl) (hd 60 rfl)) rfl (by kernel_rfl) (by kernel_rfl) (by kernel_rfl) (by kernel_rfl) (fun _ _ _ _ h => h) ?_; refine ja_l2 1 [2, 5, 8, 9, 10] (lo_l (ly_mv rfl) (hd 61 rfl)) rfl (by kernel_rfl) (by kernel_rfl) (by kernel_rfl) (by kernel_rfl) (fun _ _ _ _ h => h) ?_; refine ja_l2 3 [5, 8, 9, 10] (lo_l (ly_mv rfl) (hd 63 rfl)) rfl (by kernel_rfl) (by kernel_rfl) (by kernel_rfl) (by kernel_rfl) (fun _ _ _ _ h => h) ?_; refine ja_l2 4 [5, 8, 9, 10] (lo_l (ly_mv rfl) (hd 64 rfl)) rfl (by kernel_rfl) (by kernel_rfl) (by kernel_rfl) (by kernel_rfl) (fun _ _ _ _ h => h) ?_; refine ja_l2 6 [7, 8, 10] (lo_l (ly_mv rfl) (hd 66 rfl)) rfl (by kernel_rfl) (by kernel_rfl) (by kernel_rfl) (by kernel_rfl) (fun _ _ _ _ h => h) ?_; refine ja_l 7 (lo_l (ly_lenn sl28 rfl) (hd 67 rfl)) rfl (by kernel_rfl) (by kernel_rfl) (by kernel_rfl) (fun _ _ _ _ h => h) ?_
      refine ja_1 2 ?_ rfl (by kernel_rfl)
      refine js_callN Try.f124 (up_n s a (by omega) s64 ua) (fun o G ⟨_, h⟩ => h ▸ idless_cons ints_id idless_nil) rfl Try.func124 rfl rfl (ovL_cons rfl (ovL_cons rfl ovL_nil)) (.cons .n (.cons .i .nil)) (hd 62 rfl) ?_ (fun ch G hp => by simp at hp)
      rintro y G ⟨hy, rfl⟩; injection hy with hy; subst hy
      show JA _ _ _ _ _ ((62, .o 0 0 0 (a.length + 1)) :: _) _ _
      refine ja_1 5 ?_ rfl (by kernel_rfl)
      refine js_call Try.f124 (up_s s b (by omega) s64 ub) rfl Try.func124 rfl rfl (ovL_cons rfl (ovL_cons rfl ovL_nil)) (.cons .n (.cons .i .nil)) (hd 65 rfl) ?_ (fun ch hp => by simp at hp)
      rintro y hy; injection hy with hy; subst hy; refine ja_l 8 (lo_l (ly_is (ly_sln sl28 rfl bnd_none (bnd_some' rfl rfl) (.inl rfl) (by omega) (by rw [upL_len]; omega)) (show V.n _ .u64 _ = V.n _ .u64 v by rw [List.drop_zero, hv])) (hd 68 rfl)) rfl (by kernel_rfl) (by kernel_rfl) (by kernel_rfl) (fun _ _ _ _ h => h) ?_; refine ja_l 9 (lo_l (ly_as rfl) (hd 10 rfl)) rfl (by kernel_rfl) (by kernel_rfl) (by kernel_rfl) (fun _ _ _ _ h => h) ?_; refine ja_l 10 (lo_l (ly_as rfl) (hd 11 rfl)) rfl (by kernel_rfl) (by kernel_rfl) (by kernel_rfl) (fun _ _ _ _ h => h) ?_; refine ja_nil (by kernel_rfl) ?_; refine jc_seq ?_; refine jc_region ?_; refine jo_l (ly_mv rfl) (hd 69 rfl) ?_; refine jo_l (ly_lenn sl28 rfl) (hd 70 rfl) ?_; refine jo_l (ly_as rfl) (hd 12 rfl) ?_; refine jo_nil ?_; refine jc_seq ?_; refine jc_region ?_; refine jo_l (ly_mv rfl) (hd 71 rfl) ?_; refine jo_l (ly_lenn sl28 rfl) (hd 72 rfl) ?_; refine jo_l (ly_mv rfl) (hd 73 rfl) ?_; refine jo_l (ly_sub rfl rfl (r := ((a.length - v.length : Nat) : Int)) (by rw [wrap_i64 (by omega) (by omega)]; omega)) (hd 74 rfl) ?_; refine jo_l (ly_add rfl rfl (r := ((a.length - v.length + 1 : Nat) : Int)) (by rw [wrap_i64 (by omega) (by omega)]; omega)) (hd 75 rfl) ?_; refine jo_h (hy_mk (m := a.length - v.length + 1) el28 rfl rfl rfl (by show 8 * (a.length - v.length + 1) ≤ _; omega) (by unfold maxLen; omega) rfl) (hd 76 rfl) ?_; refine jo_l (ly_as rfl) (hd 13 rfl) ?_; refine jo_nil ?_; refine jc_seq ?_; refine jc_seq ?_; refine jc_region ?_; refine jo_l (ly_mv rfl) (hd 77 rfl) ?_; refine jo_l (ly_lenn sl28 rfl) (hd 78 rfl) ?_; refine jo_l (ly_mv rfl) (hd 79 rfl) ?_; refine jo_l (ly_sub rfl rfl (r := ((a.length - v.length : Nat) : Int)) (by rw [wrap_i64 (by omega) (by omega)]; omega)) (hd 80 rfl) ?_; refine jo_l (ly_as rfl) (hd 14 rfl) ?_; refine jo_nil ?_; refine jc_block ?_; refine jc_H (H' := [⟨67, 1, 0, true, ints .u64 (upL a s)⟩, ⟨67, 1, 0, true, ints .u64 (List.replicate (a.length - b.length + 1) 0 ++ [])⟩]) (by rw [List.append_nil, hn, ← hlv]; rfl) ?_
      refine jc_loopF (G := Nat × List Int × List Int) (fun g => g.1 ≤ a.length - b.length + 1 ∧ Kn (vl a * 2 ^ s) v (a.length + 1) g.1 g.2.1 g.2.2 ∧ g.2.2.length = a.length - b.length + 1 - g.1) (fun g => [(14, .i .i64 ((g.1 : Int) - 1)), (81, .u), (82, .u), (83, .u), (84, .u), (85, .u), (86, .u), (87, .u), (88, .u), (89, .u), (90, .u), (91, .u), (92, .u), (93, .u), (94, .u), (95, .u), (96, .u)]) (fun g => [⟨67, 1, 0, true, ints .u64 g.2.1⟩, ⟨67, 1, 0, true, ints .u64 (List.replicate g.1 0 ++ g.2.2)⟩]) (fun g => g.1) (a.length - b.length + 1, upL a s, []) ?_ ?_ rfl ?_
      · exact ⟨Nat.le_refl _, kn_start s64 ua ub tb hb hv2 hlen, by show 0 = _; omega⟩
      · exact (.cons (by show some (V.i .i64 _) = some (V.i .i64 _); congr 2; omega) (.u (.u (.u (.u (.u (.u (.u (.u (.u (.u (.u (.u (.u (.u (.u (.u .nil)))))))))))))))))
      · rintro ⟨k, U, Qs⟩ ⟨hk, hK, hQl⟩
        dsimp only at hk hK hQl
        refine jc_seq ?_; refine jc_seq ?_; refine jc_region ?_; refine jo_l (ly_mv rfl) (hd 81 rfl) ?_; refine jo_l (ly_ge rfl rfl) (hd 82 rfl) ?_; refine jo_nil ?_
        refine jc_if rfl (fun h4 => ?_) (fun h4 => ?_)
        · obtain ⟨k, rfl⟩ : ∃ m, k = m + 1 := ⟨k - 1, by omega⟩
          have hG := hK.gup uv hlv htop (by omega)
          have hKl := hK.lu
          refine jc_skip ?_; refine jc_seq ?_; refine jc_block ?_; refine jc_region ?_; refine jo_l (ly_mv rfl) (hd 85 rfl) ?_; refine jo_l (ly_mv rfl) (hd 86 rfl) ?_; refine jo_l (ly_mv rfl) (hd 87 rfl) ?_; refine jo_l (ly_mv rfl) (hd 88 rfl) ?_; refine jo_l (ly_mv rfl) (hd 89 rfl) ?_; refine jo_l (ly_mv rfl) (hd 90 rfl) ?_; refine jo_l (ly_add rfl rfl (r := ((k + v.length : Nat) : Int)) (by rw [wrap_i64 (by omega) (by omega)]; omega)) (hd 91 rfl) ?_; refine jo_l (ly_add rfl rfl (r := ((k + v.length + 1 : Nat) : Int)) (by rw [wrap_i64 (by omega) (by omega)]; omega)) (hd 92 rfl) ?_; refine jo_l (ly_slo (l := k) (h := k + (n + 3)) (r := k) (n := n + 3) sl28 rfl rfl (bnd_some' rfl (by omega)) (bnd_some' rfl (by omega)) (by omega) (by omega) (by omega) (by omega)) (hd 93 rfl) ?_; refine jo_l (ly_mv rfl) (hd 94 rfl) ?_
          refine jo_callM Try.f125 (guess_s U (slJ U k (n + 3)) v (List.replicate (k + 1) 0 ++ Qs) k n (by omega) (by omega) hK.uu rfl hG) rfl Try.func125 rfl rfl (ovL_cons rfl (ovL_cons rfl ovL_nil)) (.cons (.same rfl) (.cons .n .nil)) (freshless_cons ints_noFr (freshless_cons ints_noFr freshless_nil)) (hd 95 rfl) ?_ (fun ch H2 hp => by simp at hp)
          rintro y H2 ⟨hy, r, rfl, hrl, hru, hrv⟩; injection hy with hy; subst hy; refine jo_l (ly_ia (i := k) sl28 rfl rfl rfl (by omega) (by omega) rfl) (hd 96 rfl) ?_; refine jo_st (sy_storei rfl rfl rfl one82 (by simp only [List.length_append, List.length_replicate]; omega)) ?_; refine jo_nil ?_; refine jc_region ?_; refine jo_l (ly_mv rfl) (hd 83 rfl) ?_; refine jo_l (ly_sub rfl rfl (wrap_i64 (by omega) (by omega))) (hd 84 rfl) ?_; refine jo_l (ly_as rfl) (hd 14 rfl) ?_; refine jo_nil ?_
          refine ⟨(k, rwJ U k r, vl (slJ U k (n + 3)) / vl v :: Qs), ?_, ?_, (by show [_, (⟨67, 1, 0, true, ints .u64 _⟩ : Ob)] = [_, ⟨67, 1, 0, true, ints .u64 _⟩]; rw [dv_row']), cov_n 34 rfl rfl ?_⟩
          · exact ⟨by show k ≤ _; omega, hK.next hG (by omega) hrl hru hrv, by show (_ :: Qs).length = _; rw [List.length_cons]; omega⟩
          · show k < k + 1
            omega
          · exact (.cons (by show some (V.i .i64 _) = some (V.i .i64 _); congr 2; omega) (.u (.u (.u (.u (.u (.u (.u (.u (.u (.u (.u (.u (.u (.u (.u (.u .nil)))))))))))))))))
        · obtain rfl : k = 0 := by omega
          have hKl := hK.lu
          obtain ⟨hf1, hf2, hf3⟩ := hK.fin s64 hv2 hb0 ua uv (by omega)
          refine jc_exit ?_; refine jc_seq ?_; refine jc_frz (k := .u64) (l := List.replicate 0 0 ++ Qs) (l' := Qs) 13 rfl rfl (by simp only [List.length_append, List.length_replicate]; omega) (by rw [List.drop_zero]; show List.take _ Qs = _; rw [List.take_of_length_le (by omega)]) hL ?_; refine jc_frz (k := .u64) (l := U) (l' := U) 10 rfl rfl (by omega) (by rw [List.drop_zero, List.take_of_length_le (by omega)]) hL ?_; refine jc_draw (n := 9) _ rfl mixed ?_; refine ja_l2 0 [1, 6, 7, 8] (lo_l (ly_mv rfl) (hd 97 rfl)) rfl (by kernel_rfl) (by kernel_rfl) (by kernel_rfl) (by kernel_rfl) (fun _ _ _ _ h => h) ?_; refine ja_l2 2 [4, 6, 7, 8] (lo_l (ly_mv rfl) (hd 99 rfl)) rfl (by kernel_rfl) (by kernel_rfl) (by kernel_rfl) (by kernel_rfl) (fun _ _ _ _ h => h) ?_; refine ja_l2 3 [4, 6, 7, 8] (lo_l (ly_mv rfl) (hd 100 rfl)) rfl (by kernel_rfl) (by kernel_rfl) (by kernel_rfl) (by kernel_rfl) (fun _ _ _ _ h => h) ?_; refine ja_l2 4 [6, 7, 8] (lo_l (ly_is (ly_sln sl28 rfl bnd_none (bnd_some' rfl rfl) (.inl rfl) (by omega) (by omega)) (show V.n _ .u64 _ = V.n _ .u64 (U.take v.length) by rw [List.drop_zero])) (hd 101 rfl)) rfl (by kernel_rfl) (by kernel_rfl) (by kernel_rfl) (by kernel_rfl) (fun _ _ _ _ h => h) ?_; refine ja_l2 5 [6, 7, 8] (lo_l (ly_mv rfl) (hd 102 rfl)) rfl (by kernel_rfl) (by kernel_rfl) (by kernel_rfl) (by kernel_rfl) (fun _ _ _ _ h => h) ?_
          refine ja_1 1 ?_ rfl (by kernel_rfl)
          refine js_callN Try.f71 (Norm_n Qs (by omega)) (fun o G ⟨_, h⟩ => h ▸ idless_cons ints_id idless_nil) rfl Try.func71 rfl rfl (ovL_cons rfl ovL_nil) (.cons .n .nil) (hd 98 rfl) ?_ (fun ch G hp => by simp at hp)
          rintro y G ⟨hy, rfl⟩; injection hy with hy; subst hy
          show JA _ _ _ _ _ ((98, .o 2 0 0 (trm Qs).length) :: _) _ _
          refine ja_1 6 ?_ rfl (by kernel_rfl)
          refine js_call Try.f126 (div_down_s s (U.take v.length) (by rw [List.length_take]; omega) s64 (u64s_take hK.uu _)) rfl Try.func126 rfl rfl (ovL_cons rfl (ovL_cons rfl ovL_nil)) (.cons .n (.cons .i .nil)) (hd 103 rfl) ?_ (fun ch hp => by simp at hp)
          rintro y hy; injection hy with hy; subst hy; refine ja_l 7 (lo_l (ly_as rfl) (hd 4 rfl)) rfl (by kernel_rfl) (by kernel_rfl) (by kernel_rfl) (fun _ _ _ _ h => h) ?_; refine ja_l 8 (lo_l (ly_as rfl) (hd 5 rfl)) rfl (by kernel_rfl) (by kernel_rfl) (by kernel_rfl) (fun _ _ _ _ h => h) ?_; refine ja_nil (by kernel_rfl) ?_; refine jc_weakn 5 rfl ?_; refine jc_ret ?_
          refine ⟨[2], _, (.t [.o 0 0 0 (trm Qs).length, .n false .u64 (trm (dnN (U.take v.length) s (U.take v.length).length))]), (.cons rfl (.cons rfl .nil)), rfl, rfl, (by decide), (by first | exact idless_cons ints_id idless_nil | exact idless_cons rfl idless_nil), ?_⟩
          rw [hf1, hf3]
          exact ⟨rfl, rfl⟩

set_option maxHeartbeats 4000000 in
theorem Quo_n (x g : Nat) (hx : lenV (x : Int) ≤ 67108864) (hg9 : lenV (g : Int) ≤ 67108864) (h0 : g ≠ 0) : SpecM Try.prog 62 [.n false .u64 (lm (x : Int)), .n false .u64 (lm (g : Int))] [] (fun o G => o = .ret (.t [.o 0 0 0 (lm ((x / g : Nat) : Int)).length, .i .i64 0]) ∧ G = [⟨67, 1, 0, true, ints .u64 (lm ((x / g : Nat) : Int))⟩]) := by
  refine specS_of [(0, .n false .u64 (lm (x : Int))), (1, .n false .u64 (lm (g : Int)))] rfl Try.func62 rfl (Nat.le_of_ble_eq_true rfl) fun Γ hN hds hL hR => ?_
  have hd := hdOf 25 hN
  have hlv := lenV_lm hx
  have hlw := lenV_lm hg9
  have hle : lenV ((x / g : Nat) : Int) ≤ lenV (x : Int) := lenV_nat (Nat.div_le_self _ _)
  have hlq := lenV_lm (v := ((x / g : Nat) : Int)) (by omega)
  have hne := lm_ne (show (g : Int) ≠ 0 by omega)
  have hDq : SpecM Try.prog 100 [.n false .u64 (lm (x : Int)), .n false .u64 (lm (g : Int))] [] (fun o G => o = .ret (.t [.o 0 0 0 (lm ((x / g : Nat) : Int)).length, .n false .u64 (lm ((x % g : Nat) : Int))]) ∧ G = [⟨67, 1, 0, true, ints .u64 (lm ((x / g : Nat) : Int))⟩]) := by
    have h := divide_q (lm (x : Int)) (lm (g : Int)) (by omega) (by omega) (lm_u _) (lm_u _) (lm_t _) (lm_t _) hne
    rw [vl_lm (Int.natCast_nonneg _), vl_lm (Int.natCast_nonneg _), ← Int.natCast_ediv, ← Int.natCast_emod] at h
    exact h
  refine jc_seq ?_; refine jc_region ?_; refine jo_l (ly_as rfl) (hd 4 rfl) ?_; refine jo_l (ly_as rfl) (hd 5 rfl) ?_; refine jo_nil ?_; refine jc_seq ?_; refine jc_region ?_; refine jo_l (ly_mv rfl) (hd 8 rfl) ?_
  refine jo_call Try.f71 (Norm_v (x : Int) (by omega)) rfl Try.func71 rfl rfl (ovL_cons rfl ovL_nil) (.cons .n .nil) (hd 9 rfl) ?_ (fun ch hp => by simp at hp)
  rintro y hy; injection hy with hy; subst hy; refine jo_l (ly_mv rfl) (hd 10 rfl) ?_
  refine jo_call Try.f71 (Norm_v (g : Int) (by omega)) rfl Try.func71 rfl rfl (ovL_cons rfl ovL_nil) (.cons .n .nil) (hd 11 rfl) ?_ (fun ch hp => by simp at hp)
  rintro y hy; injection hy with hy; subst hy; refine jo_l (ly_as rfl) (hd 0 rfl) ?_; refine jo_l (ly_as rfl) (hd 1 rfl) ?_; refine jo_nil ?_; refine jc_seq ?_; refine jc_seq ?_; refine jc_region ?_; refine jo_l (ly_mv rfl) (hd 12 rfl) ?_; refine jo_l (ly_lenn sl28 rfl) (hd 13 rfl) ?_; refine jo_l (ly_ff (ly_eq rfl rfl) (fun h => hne (List.eq_nil_of_length_eq_zero (by omega)))) (hd 14 rfl) ?_; refine jo_nil ?_; refine jc_litf rfl ?_; refine jc_skip ?_; refine jc_seq ?_; refine jc_region ?_; refine jo_l (ly_mv rfl) (hd 16 rfl) ?_; refine jo_l (ly_mv rfl) (hd 17 rfl) ?_
  refine jo_callN Try.f100 (hDq) (fun o G ⟨_, h⟩ => h ▸ idless_cons ints_id idless_nil) rfl Try.func100 rfl rfl (ovL_cons rfl (ovL_cons rfl ovL_nil)) (.cons .n (.cons .n .nil)) (hd 18 rfl) ?_ (fun ch G hp => by simp at hp)
  rintro y G ⟨hy, rfl⟩; injection hy with hy; subst hy
  show JO _ _ _ _ ((18, .t [.o 0 0 0 (lm ((x / g : Nat) : Int)).length, .n false .u64 (lm ((x % g : Nat) : Int))]) :: _) _ _
  refine jo_l (ly_mv rfl) (hd 15 rfl) ?_; refine jo_l (ly_ext rfl rfl) (hd 19 rfl) ?_; refine jo_l (ly_ext rfl rfl) (hd 20 rfl) ?_; refine jo_l (ly_as rfl) (hd 6 rfl) ?_; refine jo_l (ly_as rfl) (hd 7 rfl) ?_; refine jo_nil ?_; refine jc_seq ?_; refine jc_seq ?_; refine jc_region ?_; refine jo_l (ly_mv rfl) (hd 21 rfl) ?_
  refine jo_callL Try.f66 (Length_v ((x / g : Nat) : Int) (by omega)) rfl Try.func66 rfl rfl (ovL_cons rfl ovL_nil) (.a1 (.o rfl (by simp) (by rw [List.drop_zero, List.take_length])) .a0) (.cons .n .nil) hL (fun y hy => by injection hy with hy; subst hy; rfl) (hd 22 rfl) ?_ (fun ch hp => by simp at hp)
  rintro y hy; injection hy with hy; subst hy; refine jo_l (ly_ff (ly_gt rfl rfl) (by omega)) (hd 23 rfl) ?_; refine jo_nil ?_; refine jc_litf rfl ?_; refine jc_skip ?_; refine jc_seq ?_; refine jc_region ?_; refine jo_l (ly_mv rfl) (hd 24 rfl) ?_; refine jo_l (ly_as rfl) (hd 4 rfl) ?_; refine jo_l (ly_as rfl) (hd 5 rfl) ?_; refine jo_nil ?_; refine jc_ret ?_
  refine ⟨[0], _, (.t [.o 0 0 0 (lm ((x / g : Nat) : Int)).length, .i .i64 0]), (.cons rfl (.cons rfl .nil)), rfl, rfl, (by decide), (by first | exact idless_cons ints_id idless_nil | exact idless_cons rfl idless_nil), ?_⟩
  exact ⟨rfl, rfl⟩

set_option maxHeartbeats 4000000 in
theorem parts_0n (s : Bool) (l d : List Int) (y : Nat) (hx : Rw l 0) (hy : Rw d y) (h0 : y ≠ 0) : SpecM Try.prog 96 [(.a [.b s, .n false .u64 l, .n false .u64 d])] [] (fun o G => o = .ret (.t [.b (sgq s 0), .o 0 0 0 (lm ((rn0 0 y : Nat) : Int)).length, .o 1 0 0 (lm ((rd0 0 y : Nat) : Int)).length]) ∧ G = [⟨67, 1, 0, true, ints .u64 (lm ((rn0 0 y : Nat) : Int))⟩, ⟨67, 1, 0, true, ints .u64 (lm ((rd0 0 y : Nat) : Int))⟩]) := by
  refine specS_of [(0, (.a [.b s, .n false .u64 l, .n false .u64 d]))] rfl Try.func96 rfl (Nat.le_of_ble_eq_true rfl) fun Γ hN hds hL hR => ?_
  have hd := hdOf 42 hN
  have hNl : Spec Try.prog 71 [.n false .u64 l] (fun o => o = .ret (.n true .u64 (lm ((0 : Nat) : Int)))) := by have h := Norm_s l (by have := hx.l; omega); rw [hx.t] at h; exact h
  have hNd : Spec Try.prog 71 [.n false .u64 d] (fun o => o = .ret (.n true .u64 (lm (y : Int)))) := by have h := Norm_s d (by have := hy.l; omega); rw [hy.t] at h; exact h
  have hF1 : SpecM Try.prog 58 [.i .u64 1] [] (fun o G => o = .ret (.o 0 0 0 1) ∧ G = [⟨67, 1, 0, true, ints .u64 [1]⟩]) := From_n 1
  have hly := mt lm_len0.1 h0
  refine jc_seq ?_; refine jc_region ?_; refine jo_h (hy_box (id := 0) (n := 3) rfl rfl rfl (by decide) rfl) (hd 1 rfl) ?_; refine jo_l (ly_as rfl) (hd 2 rfl) ?_; refine jo_l (ly_as rfl) (hd 3 rfl) ?_; refine jo_l (ly_as rfl) (hd 4 rfl) ?_; refine jo_nil ?_; refine jc_seq ?_; refine jc_draw (n := 9) _ rfl mixed ?_; refine ja_l2 0 [1, 2, 3, 6, 7, 8] (lo_l (ly_fa fld1028_0 rfl rfl rfl) (hd 8 rfl)) rfl (by kernel_rfl) (by kernel_rfl) (by kernel_rfl) (by kernel_rfl) (fun _ _ _ _ h => h) ?_; refine ja_l2 1 [2, 3, 6, 7, 8] (lo_l (ly_fa fld30_1 rfl rfl rfl) (hd 9 rfl)) rfl (by kernel_rfl) (by kernel_rfl) (by kernel_rfl) (by kernel_rfl) (fun _ _ _ _ h => h) ?_; refine ja_l2 2 [3, 6, 7, 8] (lo_l (ly_ld one28 rfl rfl rfl) (hd 10 rfl)) rfl (by kernel_rfl) (by kernel_rfl) (by kernel_rfl) (by kernel_rfl) (fun _ _ _ _ h => h) ?_; refine ja_l2 4 [5, 6, 7, 8] (lo_l (ly_fa fld1028_1 rfl rfl rfl) (hd 12 rfl)) rfl (by kernel_rfl) (by kernel_rfl) (by kernel_rfl) (by kernel_rfl) (fun _ _ _ _ h => h) ?_; refine ja_l2 5 [6, 7, 8] (lo_l (ly_ld one28 rfl rfl rfl) (hd 13 rfl)) rfl (by kernel_rfl) (by kernel_rfl) (by kernel_rfl) (by kernel_rfl) (fun _ _ _ _ h => h) ?_
  refine ja_1 3 ?_ rfl (by kernel_rfl)
  refine js_call Try.f71 (hNl) rfl Try.func71 rfl rfl (ovL_cons rfl ovL_nil) (.cons .n .nil) (hd 11 rfl) ?_ (fun ch hp => by simp at hp)
  rintro y hy; injection hy with hy; subst hy
  refine ja_1 6 ?_ rfl (by kernel_rfl)
  refine js_call Try.f71 (hNd) rfl Try.func71 rfl rfl (ovL_cons rfl ovL_nil) (.cons .n .nil) (hd 14 rfl) ?_ (fun ch hp => by simp at hp)
  rintro y hy; injection hy with hy; subst hy; refine ja_l 7 (lo_l (ly_as rfl) (hd 5 rfl)) rfl (by kernel_rfl) (by kernel_rfl) (by kernel_rfl) (fun _ _ _ _ h => h) ?_; refine ja_l 8 (lo_l (ly_as rfl) (hd 6 rfl)) rfl (by kernel_rfl) (by kernel_rfl) (by kernel_rfl) (fun _ _ _ _ h => h) ?_; refine ja_nil (by kernel_rfl) ?_; refine jc_seq ?_; refine jc_seq ?_; refine jc_region ?_; refine jo_l (ly_mv rfl) (hd 15 rfl) ?_; refine jo_l (ly_lenn sl28 rfl) (hd 16 rfl) ?_; refine jo_l (ly_ff (ly_eq rfl rfl) (by omega)) (hd 17 rfl) ?_; refine jo_nil ?_; refine jc_litf rfl ?_; refine jc_skip ?_; refine jc_seq ?_; refine jc_seq ?_; refine jc_region ?_; refine jo_l (ly_mv rfl) (hd 20 rfl) ?_; refine jo_l (ly_lenn sl28 rfl) (hd 21 rfl) ?_; refine jo_l (ly_tt (ly_eq rfl rfl) (by rw [show ((0 : Nat) : Int) = 0 from rfl, lm_0]; rfl)) (hd 22 rfl) ?_; refine jo_nil ?_; refine jc_litt rfl ?_; refine jc_seq ?_; refine jc_region ?_
  refine jo_callN Try.f58 (hF1) (fun o G ⟨_, h⟩ => h ▸ idless_cons ints_id idless_nil) rfl Try.func58 rfl rfl (ovL_cons rfl ovL_nil) (.cons .i .nil) (hd 23 rfl) ?_ (fun ch G hp => by simp at hp)
  rintro y G ⟨hy, rfl⟩; injection hy with hy; subst hy
  show JO _ _ _ _ ((23, .o 1 0 0 1) :: _) _ _
  refine jo_l (ly_as rfl) (hd 2 rfl) ?_; refine jo_l (ly_as rfl) (hd 3 rfl) ?_; refine jo_l (ly_as rfl) (hd 4 rfl) ?_; refine jo_nil ?_; refine jc_own0 3 67 1 rfl rfl ?_; refine jc_ret ?_
  refine ⟨[2, 1], _, (.t [.b false, .o 0 0 0 0, .o 1 0 0 1]), (.cons rfl (.cons rfl (.cons rfl .nil))), rfl, rfl, (by decide), (idless_cons rfl (idless_cons ints_id idless_nil)), ?_⟩
  rw [rn0_0, rd0_0 h0, lm_1n, show ((0 : Nat) : Int) = 0 from rfl, lm_0, sgq_0]
  exact ⟨rfl, rfl⟩

set_option maxHeartbeats 4000000 in
theorem parts_pn (s : Bool) (l d : List Int) (x y : Nat) (hx : Rw l x) (hy : Rw d y) (h0 : y ≠ 0) (h1 : x ≠ 0) : SpecM Try.prog 96 [(.a [.b s, .n false .u64 l, .n false .u64 d])] [] (fun o G => o = .ret (.t [.b (sgq s x), .o 0 0 0 (lm ((rn0 x y : Nat) : Int)).length, .o 1 0 0 (lm ((rd0 x y : Nat) : Int)).length]) ∧ G = [⟨67, 1, 0, true, ints .u64 (lm ((rn0 x y : Nat) : Int))⟩, ⟨67, 1, 0, true, ints .u64 (lm ((rd0 x y : Nat) : Int))⟩]) := by
  refine specS_of [(0, (.a [.b s, .n false .u64 l, .n false .u64 d]))] rfl Try.func96 rfl (Nat.le_of_ble_eq_true rfl) fun Γ hN hds hL hR => ?_
  have hd := hdOf 42 hN
  have hNl : Spec Try.prog 71 [.n false .u64 l] (fun o => o = .ret (.n true .u64 (lm (x : Int)))) := by have h := Norm_s l (by have := hx.l; omega); rw [hx.t] at h; exact h
  have hNd : Spec Try.prog 71 [.n false .u64 d] (fun o => o = .ret (.n true .u64 (lm (y : Int)))) := by have h := Norm_s d (by have := hy.l; omega); rw [hy.t] at h; exact h
  have hly := mt lm_len0.1 h0
  have hlx := mt lm_len0.1 h1
  have hGc : Spec Try.prog 60 [.n false .u64 (lm (x : Int)), .n false .u64 (lm (y : Int))] (fun o => o = .ret (.n false .u64 (lm ((Nat.gcd x y : Nat) : Int)))) := Gcd_v (lm (x : Int)) (lm (y : Int)) x y (Rw.of hx.b).l (Rw.of hy.b).l (lm_u _) (lm_u _) (Rw.of hx.b).v (Rw.of hy.b).v
  have hQx : SpecM Try.prog 62 [.n false .u64 (lm (x : Int)), .n false .u64 (lm ((Nat.gcd x y : Nat) : Int))] [] (fun o G => o = .ret (.t [.o 0 0 0 (lm ((rn0 x y : Nat) : Int)).length, .i .i64 0]) ∧ G = [⟨67, 1, 0, true, ints .u64 (lm ((rn0 x y : Nat) : Int))⟩]) := Quo_n x (Nat.gcd x y) hx.b (gcd_b h0 hy.b) (by have := gcd_pos' (x := x) h0; omega)
  have hQy : SpecM Try.prog 62 [.n false .u64 (lm (y : Int)), .n false .u64 (lm ((Nat.gcd x y : Nat) : Int))] [] (fun o G => o = .ret (.t [.o 0 0 0 (lm ((rd0 x y : Nat) : Int)).length, .i .i64 0]) ∧ G = [⟨67, 1, 0, true, ints .u64 (lm ((rd0 x y : Nat) : Int))⟩]) := Quo_n y (Nat.gcd x y) hy.b (gcd_b h0 hy.b) (by have := gcd_pos' (x := x) h0; omega)
  refine jc_seq ?_; refine jc_region ?_; refine jo_h (hy_box (id := 0) (n := 3) rfl rfl rfl (by decide) rfl) (hd 1 rfl) ?_; refine jo_l (ly_as rfl) (hd 2 rfl) ?_; refine jo_l (ly_as rfl) (hd 3 rfl) ?_; refine jo_l (ly_as rfl) (hd 4 rfl) ?_; refine jo_nil ?_; refine jc_seq ?_; refine jc_draw (n := 9) _ rfl mixed ?_; refine ja_l2 0 [1, 2, 3, 6, 7, 8] (lo_l (ly_fa fld1028_0 rfl rfl rfl) (hd 8 rfl)) rfl (by kernel_rfl) (by kernel_rfl) (by kernel_rfl) (by kernel_rfl) (fun _ _ _ _ h => h) ?_; refine ja_l2 1 [2, 3, 6, 7, 8] (lo_l (ly_fa fld30_1 rfl rfl rfl) (hd 9 rfl)) rfl (by kernel_rfl) (by kernel_rfl) (by kernel_rfl) (by kernel_rfl) (fun _ _ _ _ h => h) ?_; refine ja_l2 2 [3, 6, 7, 8] (lo_l (ly_ld one28 rfl rfl rfl) (hd 10 rfl)) rfl (by kernel_rfl) (by kernel_rfl) (by kernel_rfl) (by kernel_rfl) (fun _ _ _ _ h => h) ?_; refine ja_l2 4 [5, 6, 7, 8] (lo_l (ly_fa fld1028_1 rfl rfl rfl) (hd 12 rfl)) rfl (by kernel_rfl) (by kernel_rfl) (by kernel_rfl) (by kernel_rfl) (fun _ _ _ _ h => h) ?_; refine ja_l2 5 [6, 7, 8] (lo_l (ly_ld one28 rfl rfl rfl) (hd 13 rfl)) rfl (by kernel_rfl) (by kernel_rfl) (by kernel_rfl) (by kernel_rfl) (fun _ _ _ _ h => h) ?_
  refine ja_1 3 ?_ rfl (by kernel_rfl)
  refine js_call Try.f71 (hNl) rfl Try.func71 rfl rfl (ovL_cons rfl ovL_nil) (.cons .n .nil) (hd 11 rfl) ?_ (fun ch hp => by simp at hp)
  rintro y hy; injection hy with hy; subst hy
  refine ja_1 6 ?_ rfl (by kernel_rfl)
  refine js_call Try.f71 (hNd) rfl Try.func71 rfl rfl (ovL_cons rfl ovL_nil) (.cons .n .nil) (hd 14 rfl) ?_ (fun ch hp => by simp at hp)
  rintro y hy; injection hy with hy; subst hy; refine ja_l 7 (lo_l (ly_as rfl) (hd 5 rfl)) rfl (by kernel_rfl) (by kernel_rfl) (by kernel_rfl) (fun _ _ _ _ h => h) ?_; refine ja_l 8 (lo_l (ly_as rfl) (hd 6 rfl)) rfl (by kernel_rfl) (by kernel_rfl) (by kernel_rfl) (fun _ _ _ _ h => h) ?_; refine ja_nil (by kernel_rfl) ?_; refine jc_seq ?_; refine jc_seq ?_; refine jc_region ?_; refine jo_l (ly_mv rfl) (hd 15 rfl) ?_; refine jo_l (ly_lenn sl28 rfl) (hd 16 rfl) ?_; refine jo_l (ly_ff (ly_eq rfl rfl) (by omega)) (hd 17 rfl) ?_; refine jo_nil ?_; refine jc_litf rfl ?_; refine jc_skip ?_; refine jc_seq ?_; refine jc_seq ?_; refine jc_region ?_; refine jo_l (ly_mv rfl) (hd 20 rfl) ?_; refine jo_l (ly_lenn sl28 rfl) (hd 21 rfl) ?_; refine jo_l (ly_ff (ly_eq rfl rfl) (by omega)) (hd 22 rfl) ?_; refine jo_nil ?_; refine jc_litf rfl ?_; refine jc_skip ?_; refine jc_seq ?_; refine jc_region ?_; refine jo_l (ly_mv rfl) (hd 24 rfl) ?_; refine jo_l (ly_mv rfl) (hd 25 rfl) ?_
  refine jo_call Try.f60 (hGc) rfl Try.func60 rfl rfl (ovL_cons rfl (ovL_cons rfl ovL_nil)) (.cons .n (.cons .n .nil)) (hd 26 rfl) ?_ (fun ch hp => by simp at hp)
  rintro y hy; injection hy with hy; subst hy; refine jo_l (ly_as rfl) (hd 7 rfl) ?_; refine jo_nil ?_; refine jc_seq ?_; refine jc_draw (n := 18) _ rfl mixed ?_; refine ja_l2 0 [1, 2, 15, 16, 17] (lo_l (ly_fa fld1028_0 rfl rfl rfl) (hd 27 rfl)) rfl (by kernel_rfl) (by kernel_rfl) (by kernel_rfl) (by kernel_rfl) (fun _ _ _ _ h => h) ?_; refine ja_l 1 (lo_l (ly_fa fld30_0 rfl rfl rfl) (hd 28 rfl)) rfl (by kernel_rfl) (by kernel_rfl) (by kernel_rfl) (fun _ _ _ _ h => h) ?_; refine ja_l 2 (lo_l (ly_ld one4 rfl rfl rfl) (hd 29 rfl)) rfl (by kernel_rfl) (by kernel_rfl) (by kernel_rfl) (fun _ _ _ _ h => h) ?_; refine ja_l2 3 [5, 6, 7, 8, 11, 12, 13, 14, 15, 16, 17] (lo_l (ly_mv rfl) (hd 30 rfl)) rfl (by kernel_rfl) (by kernel_rfl) (by kernel_rfl) (by kernel_rfl) (fun _ _ _ _ h => h) ?_; refine ja_l2 4 [5, 6, 7, 8, 11, 12, 13, 14, 15, 16, 17] (lo_l (ly_mv rfl) (hd 31 rfl)) rfl (by kernel_rfl) (by kernel_rfl) (by kernel_rfl) (by kernel_rfl) (fun _ _ _ _ h => h) ?_; refine ja_l2 9 [11, 12, 13, 14, 15, 16, 17] (lo_l (ly_mv rfl) (hd 36 rfl)) rfl (by kernel_rfl) (by kernel_rfl) (by kernel_rfl) (by kernel_rfl) (fun _ _ _ _ h => h) ?_; refine ja_l2 10 [11, 12, 13, 14, 15, 16, 17] (lo_l (ly_mv rfl) (hd 37 rfl)) rfl (by kernel_rfl) (by kernel_rfl) (by kernel_rfl) (by kernel_rfl) (fun _ _ _ _ h => h) ?_
  refine ja_1 5 ?_ rfl (by kernel_rfl)
  refine js_callN Try.f62 (hQx) (fun o G ⟨_, h⟩ => h ▸ idless_cons ints_id idless_nil) rfl Try.func62 rfl rfl (ovL_cons rfl (ovL_cons rfl ovL_nil)) (.cons .n (.cons .n .nil)) (hd 32 rfl) ?_ (fun ch G hp => by simp at hp)
  rintro y G ⟨hy, rfl⟩; injection hy with hy; subst hy
  show JA _ _ _ _ _ ((32, .t [.o 1 0 0 (lm ((rn0 x y : Nat) : Int)).length, .i .i64 0]) :: _) _ _
  refine ja_l2 6 [8, 11, 12, 13, 14, 15, 16, 17] (lo_l (ly_ext rfl rfl) (hd 33 rfl)) rfl (by kernel_rfl) (by kernel_rfl) (by kernel_rfl) (by kernel_rfl) (fun _ _ _ _ h => h) ?_; refine ja_l2 7 [8, 11, 12, 13, 14, 15, 16, 17] (lo_l (ly_ext rfl rfl) (hd 34 rfl)) rfl (by kernel_rfl) (by kernel_rfl) (by kernel_rfl) (by kernel_rfl) (fun _ _ _ _ h => h) ?_
  refine ja_1 8 ?_ rfl (by kernel_rfl)
  refine js_callU Try.f61 (fun u => mustU u) rfl Try.func61 rfl rfl rfl rfl (hd 35 rfl) ?_
  refine ja_1 11 ?_ rfl (by kernel_rfl)
  refine js_callN Try.f62 (hQy) (fun o G ⟨_, h⟩ => h ▸ idless_cons ints_id idless_nil) rfl Try.func62 rfl rfl (ovL_cons rfl (ovL_cons rfl ovL_nil)) (.cons .n (.cons .n .nil)) (hd 38 rfl) ?_ (fun ch G hp => by simp at hp)
  rintro y G ⟨hy, rfl⟩; injection hy with hy; subst hy
  show JA _ _ _ _ _ ((38, .t [.o 2 0 0 (lm ((rd0 x y : Nat) : Int)).length, .i .i64 0]) :: _) _ _
  refine ja_l2 12 [14, 15, 16, 17] (lo_l (ly_ext rfl rfl) (hd 39 rfl)) rfl (by kernel_rfl) (by kernel_rfl) (by kernel_rfl) (by kernel_rfl) (fun _ _ _ _ h => h) ?_; refine ja_l2 13 [14, 15, 16, 17] (lo_l (ly_ext rfl rfl) (hd 40 rfl)) rfl (by kernel_rfl) (by kernel_rfl) (by kernel_rfl) (by kernel_rfl) (fun _ _ _ _ h => h) ?_
  refine ja_1 14 ?_ rfl (by kernel_rfl)
  refine js_callU Try.f61 (fun u => mustU u) rfl Try.func61 rfl rfl rfl rfl (hd 41 rfl) ?_; refine ja_l 15 (lo_l (ly_as rfl) (hd 2 rfl)) rfl (by kernel_rfl) (by kernel_rfl) (by kernel_rfl) (fun _ _ _ _ h => h) ?_; refine ja_l 16 (lo_l (ly_as rfl) (hd 3 rfl)) rfl (by kernel_rfl) (by kernel_rfl) (by kernel_rfl) (fun _ _ _ _ h => h) ?_; refine ja_l 17 (lo_l (ly_as rfl) (hd 4 rfl)) rfl (by kernel_rfl) (by kernel_rfl) (by kernel_rfl) (fun _ _ _ _ h => h) ?_; refine ja_nil (by kernel_rfl) ?_; refine jc_ret ?_
  refine ⟨[1, 2], _, (.t [.b s, .o 0 0 0 (lm ((rn0 x y : Nat) : Int)).length, .o 1 0 0 (lm ((rd0 x y : Nat) : Int)).length]), (.cons rfl (.cons rfl (.cons rfl .nil))), rfl, rfl, (by decide), (idless_cons ints_id (idless_cons ints_id idless_nil)), ?_⟩
  rw [sgq_p h1]
  exact ⟨rfl, rfl⟩

theorem parts_n (s : Bool) (l d : List Int) (x y : Nat) (hx : Rw l x) (hy : Rw d y) (h0 : y ≠ 0) : SpecM Try.prog 96 [(.a [.b s, .n false .u64 l, .n false .u64 d])] [] (fun o G => o = .ret (.t [.b (sgq s x), .o 0 0 0 (lm ((rn0 x y : Nat) : Int)).length, .o 1 0 0 (lm ((rd0 x y : Nat) : Int)).length]) ∧ G = [⟨67, 1, 0, true, ints .u64 (lm ((rn0 x y : Nat) : Int))⟩, ⟨67, 1, 0, true, ints .u64 (lm ((rd0 x y : Nat) : Int))⟩]) := by
  by_cases h1 : x = 0
  · subst h1; exact parts_0n s l d y hx hy h0
  · exact parts_pn s l d x y hx hy h0 h1

set_option maxHeartbeats 4000000 in
theorem qnorm_n (s : Bool) (l d : List Int) (x y : Nat) (hx : Rw l x) (hy : Rw d y) (h0 : y ≠ 0) : SpecM Try.prog 44 [(.a [.b s, .n false .u64 l, .n false .u64 d])] [] (fun o G => o = .ret (.a [.b (sgq s x), .o 0 0 0 (lm ((rn0 x y : Nat) : Int)).length, .o 1 0 0 (lm ((rd0 x y : Nat) : Int)).length]) ∧ G = [⟨67, 1, 0, true, ints .u64 (lm ((rn0 x y : Nat) : Int))⟩, ⟨67, 1, 0, true, ints .u64 (lm ((rd0 x y : Nat) : Int))⟩]) := by
  refine specS_of [(0, (.a [.b s, .n false .u64 l, .n false .u64 d]))] rfl Try.func44 rfl (Nat.le_of_ble_eq_true rfl) fun Γ hN hds hL hR => ?_
  have hd := hdOf 17 hN
  refine jc_seq ?_; refine jc_region ?_; refine jo_h (hy_box (id := 0) (n := 3) rfl rfl rfl (by decide) rfl) (hd 1 rfl) ?_; refine jo_h (hy_alloc (id := 1) zero1028 (by decide) rfl (by decide) rfl) (hd 2 rfl) ?_; refine jo_nil ?_; refine jc_seq ?_; refine jc_region ?_; refine jo_l (ly_lda agg1028 rfl rfl rfl rfl) (hd 7 rfl) ?_
  refine jo_callN Try.f96 (parts_n s l d x y hx hy h0) (fun o G ⟨_, h⟩ => h ▸ idless_cons ints_id (idless_cons ints_id idless_nil)) rfl Try.func96 rfl rfl (ovL_cons rfl ovL_nil) (.cons (.a1 .b (.a1 .n (.a1 .n .a0))) .nil) (hd 8 rfl) ?_ (fun ch G hp => by simp at hp)
  rintro y G ⟨hy, rfl⟩; injection hy with hy; subst hy
  show JO _ _ _ _ ((8, .t [.b (sgq s x), .o 2 0 0 (lm ((rn0 x y : Nat) : Int)).length, .o 3 0 0 (lm ((rd0 x y : Nat) : Int)).length]) :: _) _ _
  refine jo_l (ly_mv rfl) (hd 6 rfl) ?_; refine jo_l (ly_ext rfl rfl) (hd 9 rfl) ?_; refine jo_l (ly_ext rfl rfl) (hd 10 rfl) ?_; refine jo_l (ly_ext rfl rfl) (hd 11 rfl) ?_; refine jo_l (ly_as rfl) (hd 3 rfl) ?_; refine jo_l (ly_as rfl) (hd 4 rfl) ?_; refine jo_l (ly_as rfl) (hd 5 rfl) ?_; refine jo_nil ?_; refine jc_seq ?_; refine jc_region ?_; refine jo_l (ly_mv rfl) (hd 12 rfl) ?_; refine jo_l (ly_mv rfl) (hd 13 rfl) ?_; refine jo_l (ly_build (is := [0, 1]) (xs := [.tmp 12, .tmp 13]) zero30 pls30_0_1 rfl (ovL_cons rfl (ovL_cons rfl ovL_nil)) rfl (by first | (simp [plsOk, cellsV]; done) | (simp [plsOk, cellsV, old]; done)) (all_of rfl) rfl) (hd 14 rfl) ?_; refine jo_l (ly_mv rfl) (hd 15 rfl) ?_; refine jo_l (ly_build (is := [0, 1]) (xs := [.tmp 14, .tmp 15]) zero1028 pls1028_0_1 rfl (ovL_cons rfl (ovL_cons rfl ovL_nil)) rfl ⟨rfl, (by decide), rfl, (by decide), trivial⟩ (all_of rfl) rfl) (hd 16 rfl) ?_; refine jo_st (sy_store rfl rfl rfl siz1028 rfl rfl (Nat.le_of_ble_eq_true rfl)) ?_; refine jo_nil ?_; refine jc_ret ?_
  refine ⟨[2, 3], _, (.a [.b (sgq s x), .o 0 0 0 (lm ((rn0 x y : Nat) : Int)).length, .o 1 0 0 (lm ((rd0 x y : Nat) : Int)).length]), (.cons (ResV.cell agg1028 rfl rfl rfl rfl) .nil), rfl, rfl, (by decide), (idless_cons ints_id (idless_cons ints_id idless_nil)), ?_⟩
  exact ⟨rfl, rfl⟩

/- Contracts of ratio.Norm, Neg, Abs, Make: the results are new. -/
set_option maxHeartbeats 4000000 in
theorem caughtR_1c (a b c ue : Value) (ha : a.oneCell' = true) (hb : b.oneCell' = true) (hc : c.oneCell' = true) (hu : ue.oneCell' = true) (e : Int) : Spec Try.prog 43 [.c (.iface 126 (.agg #[.int .i64 e])), .a [.c a, .c b, .c c], .c ue] (fun o => o = .ret (.t [(.a [.b false, .c (.slice none 0 0), .c (.slice none 0 0)]), .i .i64 e])) := by
  refine spec_of' [(0, .c (.iface 126 (.agg #[.int .i64 e]))), (1, .a [.c a, .c b, .c c]), (2, .c ue)] rfl Try.func43 rfl (Nat.le_of_ble_eq_true rfl) fun Γ hN hds hL hR => ?_
  have hd := hdOf 26 hN
  refine jc_seq ?_; refine jc_region ?_; refine jo_h (hy_box (id := 0) (n := 3) rfl (one_c3V ha hb hc) rfl (by decide) rfl) (hd 4 rfl) ?_; refine jo_h (hy_alloc (id := 1) zero1028 (by decide) rfl (by decide) rfl) (hd 6 rfl) ?_; refine jo_l (ly_as rfl) (hd 7 rfl) ?_; refine jo_nil ?_; refine jc_seq ?_; refine jc_seq ?_; refine jc_region ?_; refine jo_l (ly_mv rfl) (hd 11 rfl) ?_; refine jo_l (ly_eqi1 undI20 rfl) (hd 12 rfl) ?_; refine jo_nil ?_; refine jc_litf rfl ?_; refine jc_skip ?_; refine jc_seq ?_; refine jc_region ?_; refine jo_l (ly_mv rfl) (hd 16 rfl) ?_; refine jo_l (ly_ta ndi1126 rfl) (hd 17 rfl) ?_; refine jo_l (ly_mv rfl) (hd 15 rfl) ?_; refine jo_l (ly_ext rfl rfl) (hd 18 rfl) ?_; refine jo_l (ly_ext rfl rfl) (hd 19 rfl) ?_; refine jo_h (hy_alloc (id := 2) zero1126 (by decide) rfl (by decide) rfl) (hd 8 rfl) ?_; refine jo_st (sy_store rfl rfl rfl siz1126 rfl rfl (Nat.le_of_ble_eq_true rfl)) ?_; refine jo_l (ly_as rfl) (hd 9 rfl) ?_; refine jo_nil ?_; refine jc_seq ?_; refine jc_seq ?_; refine jc_region ?_; refine jo_l (ly_mv rfl) (hd 20 rfl) ?_; refine jo_l (ly_not rfl) (hd 21 rfl) ?_; refine jo_nil ?_; refine jc_litf rfl ?_; refine jc_skip ?_; refine jc_seq ?_; refine jc_region ?_; refine jo_h (hy_alloc (id := 3) zero1028 (by decide) rfl (by decide) rfl) (hd 10 rfl) ?_; refine jo_nil ?_; refine jc_seq ?_; refine jc_draw (n := 5) _ rfl mixed ?_; refine ja_l 0 (lo_l (ly_lda agg1028 rfl rfl rfl rfl) (hd 23 rfl)) rfl (by kernel_rfl) (by kernel_rfl) (by kernel_rfl) (fun _ _ _ _ h => h) ?_
  refine ja_2 1 3 ?_ ?_ rfl rfl (by kernel_rfl)
  · refine js_l (ly_fa fld1126_0 rfl rfl rfl) (hd 24 rfl) ?_
    refine ja_2 2 3 ?_ ?_ rfl rfl (by kernel_rfl)
    · refine js_l (ly_ld one23 rfl rfl rfl) (hd 25 rfl) ?_
      refine ja_1 3 ?_ rfl (by kernel_rfl)
      refine js_st (sy_store rfl rfl rfl siz1028 rfl rfl (Nat.le_of_ble_eq_true rfl)) rfl ?_; refine ja_l 4 (lo_l (ly_as rfl) (hd 7 rfl)) rfl (by kernel_rfl) (by kernel_rfl) (by kernel_rfl) (fun _ _ _ _ h => h) ?_; refine ja_nil (by kernel_rfl) ?_; refine jc_ret ?_
      refine ⟨_, _, (.cons (ResV.cell agg1028 rfl rfl rfl rfl) (.cons rfl .nil)), (.t1 (.a1 .b (.a1 .c (.a1 .c .a0))) (.t1 .i .t0)), ?_⟩
      exact rfl
    · refine js_st (sy_store rfl rfl rfl siz1028 rfl rfl (Nat.le_of_ble_eq_true rfl)) rfl ?_; refine ja_l 2 (lo_l (ly_ld one23 rfl rfl rfl) (hd 25 rfl)) rfl (by kernel_rfl) (by kernel_rfl) (by kernel_rfl) (fun _ _ _ _ h => h) ?_; refine ja_l 4 (lo_l (ly_as rfl) (hd 7 rfl)) rfl (by kernel_rfl) (by kernel_rfl) (by kernel_rfl) (fun _ _ _ _ h => h) ?_; refine ja_nil (by kernel_rfl) ?_; refine jc_ret ?_
      refine ⟨_, _, (.cons (ResV.cell agg1028 rfl rfl rfl rfl) (.cons rfl .nil)), (.t1 (.a1 .b (.a1 .c (.a1 .c .a0))) (.t1 .i .t0)), ?_⟩
      exact rfl
  · refine js_st (sy_store rfl rfl rfl siz1028 rfl rfl (Nat.le_of_ble_eq_true rfl)) rfl ?_; refine ja_l 1 (lo_l (ly_fa fld1126_0 rfl rfl rfl) (hd 24 rfl)) rfl (by kernel_rfl) (by kernel_rfl) (by kernel_rfl) (fun _ _ _ _ h => h) ?_; refine ja_l 2 (lo_l (ly_ld one23 rfl rfl rfl) (hd 25 rfl)) rfl (by kernel_rfl) (by kernel_rfl) (by kernel_rfl) (fun _ _ _ _ h => h) ?_; refine ja_l 4 (lo_l (ly_as rfl) (hd 7 rfl)) rfl (by kernel_rfl) (by kernel_rfl) (by kernel_rfl) (fun _ _ _ _ h => h) ?_; refine ja_nil (by kernel_rfl) ?_; refine jc_ret ?_
    refine ⟨_, _, (.cons (ResV.cell agg1028 rfl rfl rfl rfl) (.cons rfl .nil)), (.t1 (.a1 .b (.a1 .c (.a1 .c .a0))) (.t1 .i .t0)), ?_⟩
    exact rfl

theorem cloc_2335 : Clo Try.prog 42 28 34 3 true 126 (.a [.b false, .c (.slice none 0 0), .c (.slice none 0 0)]) where
  shape := ⟨Try.f42, Try.f43, 43, 35, 20, "ratio.go:64", Try.func42, rfl, rfl, rfl, Try.func43, rfl, rfl, fun us ue hl h1 h2 => by
    obtain ⟨a, b, c, rfl⟩ : ∃ a b c, us = [a, b, c] := by
      match us, hl with
      | [a, b, c], _ => exact ⟨a, b, c, rfl⟩
    exact caughtR_0 a b c ue (h1 a (by simp)) (h1 b (by simp)) (h1 c (by simp)) h2, fun us ue e hl h1 h2 => by
    obtain ⟨a, b, c, rfl⟩ : ∃ a b c, us = [a, b, c] := by
      match us, hl with
      | [a, b, c], _ => exact ⟨a, b, c, rfl⟩
    exact caughtR_1c a b c ue (h1 a (by simp)) (h1 b (by simp)) (h1 c (by simp)) h2 e⟩
  hm := mixed
  hld := .inl ⟨rfl, agg1028⟩
  hsz := siz1028
  hle := one23
  hz1 := rfl
  hz2 := rfl
  hz3 := fun _ => rfl

theorem cloc_2340 : Clo Try.prog 47 28 34 3 true 126 (.a [.b false, .c (.slice none 0 0), .c (.slice none 0 0)]) where
  shape := ⟨Try.f47, Try.f43, 43, 35, 20, "ratio.go:80", Try.func47, rfl, rfl, rfl, Try.func43, rfl, rfl, fun us ue hl h1 h2 => by
    obtain ⟨a, b, c, rfl⟩ : ∃ a b c, us = [a, b, c] := by
      match us, hl with
      | [a, b, c], _ => exact ⟨a, b, c, rfl⟩
    exact caughtR_0 a b c ue (h1 a (by simp)) (h1 b (by simp)) (h1 c (by simp)) h2, fun us ue e hl h1 h2 => by
    obtain ⟨a, b, c, rfl⟩ : ∃ a b c, us = [a, b, c] := by
      match us, hl with
      | [a, b, c], _ => exact ⟨a, b, c, rfl⟩
    exact caughtR_1c a b c ue (h1 a (by simp)) (h1 b (by simp)) (h1 c (by simp)) h2 e⟩
  hm := mixed
  hld := .inl ⟨rfl, agg1028⟩
  hsz := siz1028
  hle := one23
  hz1 := rfl
  hz2 := rfl
  hz3 := fun _ => rfl

theorem cloc_2341 : Clo Try.prog 48 28 34 3 true 126 (.a [.b false, .c (.slice none 0 0), .c (.slice none 0 0)]) where
  shape := ⟨Try.f48, Try.f43, 43, 35, 20, "ratio.go:88", Try.func48, rfl, rfl, rfl, Try.func43, rfl, rfl, fun us ue hl h1 h2 => by
    obtain ⟨a, b, c, rfl⟩ : ∃ a b c, us = [a, b, c] := by
      match us, hl with
      | [a, b, c], _ => exact ⟨a, b, c, rfl⟩
    exact caughtR_0 a b c ue (h1 a (by simp)) (h1 b (by simp)) (h1 c (by simp)) h2, fun us ue e hl h1 h2 => by
    obtain ⟨a, b, c, rfl⟩ : ∃ a b c, us = [a, b, c] := by
      match us, hl with
      | [a, b, c], _ => exact ⟨a, b, c, rfl⟩
    exact caughtR_1c a b c ue (h1 a (by simp)) (h1 b (by simp)) (h1 c (by simp)) h2 e⟩
  hm := mixed
  hld := .inl ⟨rfl, agg1028⟩
  hsz := siz1028
  hle := one23
  hz1 := rfl
  hz2 := rfl
  hz3 := fun _ => rfl

set_option maxHeartbeats 4000000 in
theorem QNorm_zc (s : Bool) (l d : List Int) (x : Nat) (hx : Rw l x) (hy : Rw d 0) : Spec Try.prog 10 [(.a [.b s, .n false .u64 l, .n false .u64 d])] (fun o => o = .ret (.t [(.a [.b false, .c (.slice none 0 0), .c (.slice none 0 0)]), .i .i64 70])) := by
  refine spec_ofD [(0, (.a [.b s, .n false .u64 l, .n false .u64 d]))] rfl Try.func10 rfl (Nat.le_of_ble_eq_true rfl) fun Γ 𝓡 hN hds hL hR hE => ?_
  have hd := hdOf 7 hN
  refine jcp_seq ?_; refine jc_region ?_; refine jo_h (hy_box (id := 0) (n := 3) rfl rfl rfl (by decide) rfl) (hd 1 rfl) ?_; refine jo_h (hy_alloc (id := 1) zero1028 (by decide) rfl (by decide) rfl) (hd 2 rfl) ?_; refine jo_h (hy_alloc (id := 2) zero23 (by decide) rfl (by decide) rfl) (hd 3 rfl) ?_; refine jo_nil ?_; refine jcd_defer (g := 42) (caps := [.p 1 0 0, .p 2 0 0]) 3 [_] (ops := [_, _]) rfl Try.func42 rfl rfl rfl hds hR hL hE ?_; refine jo_l (ly_mf (ovL_cons rfl (ovL_cons rfl ovL_nil))) (hd 4 rfl) ?_; refine jo_nil ?_
  refine ⟨rfl, rfl, rfl, ?_⟩
  intro Γ1 hN1 hL hR1
  replace hd : ∀ d, Nat.blt d 7 = true → d < Γ1.N := fun d h => by rw [hN1]; exact hd d h
  refine jo_nil ?_; refine jc_seq ?_; refine jc_region ?_; refine jo_l (ly_lda agg1028 rfl rfl rfl rfl) (hd 5 rfl) ?_; refine jo_call Try.f44 (qnorm_z s l d x hx hy) rfl Try.func44 rfl rfl (ovL_cons rfl ovL_nil) (.cons (.a1 .b (.a1 .n (.a1 .n .a0))) .nil) (hd 6 rfl) (fun y hy => by simp at hy) ?_; rintro ch hch; injection hch with hch; subst hch; refine Clo.finP cloc_2335 (m := 3) (i := 1) (j := 2) (by decide) (Nat.le_of_ble_eq_true rfl) rfl rfl rfl rfl ?_
  refine ⟨_, _, (.cons (ResV.cell agg1028 rfl rfl rfl rfl) (.cons (ResV.cell1 one23 rfl rfl rfl) .nil)), (.t1 (.a1 .b (.a1 .c (.a1 .c .a0))) (.t1 .i .t0)), ?_⟩
  exact rfl

set_option maxHeartbeats 4000000 in
theorem QNeg_zc (s : Bool) (l d : List Int) (x : Nat) (hx : Rw l x) (hy : Rw d 0) : Spec Try.prog 13 [(.a [.b s, .n false .u64 l, .n false .u64 d])] (fun o => o = .ret (.t [(.a [.b false, .c (.slice none 0 0), .c (.slice none 0 0)]), .i .i64 70])) := by
  refine spec_ofD [(0, (.a [.b s, .n false .u64 l, .n false .u64 d]))] rfl Try.func13 rfl (Nat.le_of_ble_eq_true rfl) fun Γ 𝓡 hN hds hL hR hE => ?_
  have hd := hdOf 21 hN
  refine jcp_seq ?_; refine jc_region ?_; refine jo_h (hy_box (id := 0) (n := 3) rfl rfl rfl (by decide) rfl) (hd 1 rfl) ?_; refine jo_h (hy_alloc (id := 1) zero1028 (by decide) rfl (by decide) rfl) (hd 2 rfl) ?_; refine jo_h (hy_alloc (id := 2) zero23 (by decide) rfl (by decide) rfl) (hd 3 rfl) ?_; refine jo_nil ?_; refine jcd_defer (g := 47) (caps := [.p 1 0 0, .p 2 0 0]) 3 [_] (ops := [_, _]) rfl Try.func47 rfl rfl rfl hds hR hL hE ?_; refine jo_l (ly_mf (ovL_cons rfl (ovL_cons rfl ovL_nil))) (hd 4 rfl) ?_; refine jo_nil ?_
  refine ⟨rfl, rfl, rfl, ?_⟩
  intro Γ1 hN1 hL hR1
  replace hd : ∀ d, Nat.blt d 21 = true → d < Γ1.N := fun d h => by rw [hN1]; exact hd d h
  refine jo_nil ?_; refine jc_seq ?_; refine jc_region ?_; refine jo_l (ly_lda agg1028 rfl rfl rfl rfl) (hd 5 rfl) ?_; refine jo_call Try.f44 (qnorm_z s l d x hx hy) rfl Try.func44 rfl rfl (ovL_cons rfl ovL_nil) (.cons (.a1 .b (.a1 .n (.a1 .n .a0))) .nil) (hd 6 rfl) (fun y hy => by simp at hy) ?_; rintro ch hch; injection hch with hch; subst hch; refine Clo.finP cloc_2340 (m := 3) (i := 1) (j := 2) (by decide) (Nat.le_of_ble_eq_true rfl) rfl rfl rfl rfl ?_
  refine ⟨_, _, (.cons (ResV.cell agg1028 rfl rfl rfl rfl) (.cons (ResV.cell1 one23 rfl rfl rfl) .nil)), (.t1 (.a1 .b (.a1 .c (.a1 .c .a0))) (.t1 .i .t0)), ?_⟩
  exact rfl

set_option maxHeartbeats 4000000 in
theorem QAbs_zc (s : Bool) (l d : List Int) (x : Nat) (hx : Rw l x) (hy : Rw d 0) : Spec Try.prog 14 [(.a [.b s, .n false .u64 l, .n false .u64 d])] (fun o => o = .ret (.t [(.a [.b false, .c (.slice none 0 0), .c (.slice none 0 0)]), .i .i64 70])) := by
  refine spec_ofD [(0, (.a [.b s, .n false .u64 l, .n false .u64 d]))] rfl Try.func14 rfl (Nat.le_of_ble_eq_true rfl) fun Γ 𝓡 hN hds hL hR hE => ?_
  have hd := hdOf 10 hN
  refine jcp_seq ?_; refine jc_region ?_; refine jo_h (hy_box (id := 0) (n := 3) rfl rfl rfl (by decide) rfl) (hd 1 rfl) ?_; refine jo_h (hy_alloc (id := 1) zero1028 (by decide) rfl (by decide) rfl) (hd 2 rfl) ?_; refine jo_h (hy_alloc (id := 2) zero23 (by decide) rfl (by decide) rfl) (hd 3 rfl) ?_; refine jo_nil ?_; refine jcd_defer (g := 48) (caps := [.p 1 0 0, .p 2 0 0]) 3 [_] (ops := [_, _]) rfl Try.func48 rfl rfl rfl hds hR hL hE ?_; refine jo_l (ly_mf (ovL_cons rfl (ovL_cons rfl ovL_nil))) (hd 4 rfl) ?_; refine jo_nil ?_
  refine ⟨rfl, rfl, rfl, ?_⟩
  intro Γ1 hN1 hL hR1
  replace hd : ∀ d, Nat.blt d 10 = true → d < Γ1.N := fun d h => by rw [hN1]; exact hd d h
  refine jo_nil ?_; refine jc_seq ?_; refine jc_region ?_; refine jo_l (ly_lda agg1028 rfl rfl rfl rfl) (hd 5 rfl) ?_; refine jo_call Try.f44 (qnorm_z s l d x hx hy) rfl Try.func44 rfl rfl (ovL_cons rfl ovL_nil) (.cons (.a1 .b (.a1 .n (.a1 .n .a0))) .nil) (hd 6 rfl) (fun y hy => by simp at hy) ?_; rintro ch hch; injection hch with hch; subst hch; refine Clo.finP cloc_2341 (m := 3) (i := 1) (j := 2) (by decide) (Nat.le_of_ble_eq_true rfl) rfl rfl rfl rfl ?_
  refine ⟨_, _, (.cons (ResV.cell agg1028 rfl rfl rfl rfl) (.cons (ResV.cell1 one23 rfl rfl rfl) .nil)), (.t1 (.a1 .b (.a1 .c (.a1 .c .a0))) (.t1 .i .t0)), ?_⟩
  exact rfl

set_option maxHeartbeats 4000000 in
theorem QNorm_n (s : Bool) (l d : List Int) (x y : Nat) (hx : Rw l x) (hy : Rw d y) (h0 : y ≠ 0) : SpecM Try.prog 10 [(.a [.b s, .n false .u64 l, .n false .u64 d])] [] (fun o G => o = .ret (.t [.a [.b (sgq s x), .o 0 0 0 (lm ((rn0 x y : Nat) : Int)).length, .o 1 0 0 (lm ((rd0 x y : Nat) : Int)).length], .i .i64 0]) ∧ G = [⟨67, 1, 0, true, ints .u64 (lm ((rn0 x y : Nat) : Int))⟩, ⟨67, 1, 0, true, ints .u64 (lm ((rd0 x y : Nat) : Int))⟩]) := by
  refine specS_ofD [(0, (.a [.b s, .n false .u64 l, .n false .u64 d]))] rfl Try.func10 rfl (Nat.le_of_ble_eq_true rfl) fun Γ 𝓡 hN hds hL hR hE => ?_
  have hd := hdOf 7 hN
  refine jcp_seq ?_; refine jc_region ?_; refine jo_h (hy_box (id := 0) (n := 3) rfl rfl rfl (by decide) rfl) (hd 1 rfl) ?_; refine jo_h (hy_alloc (id := 1) zero1028 (by decide) rfl (by decide) rfl) (hd 2 rfl) ?_; refine jo_h (hy_alloc (id := 2) zero23 (by decide) rfl (by decide) rfl) (hd 3 rfl) ?_; refine jo_nil ?_; refine jcd_defer (g := 42) (caps := [.p 1 0 0, .p 2 0 0]) 3 [_] (ops := [_, _]) rfl Try.func42 rfl rfl rfl hds hR hL hE ?_; refine jo_l (ly_mf (ovL_cons rfl (ovL_cons rfl ovL_nil))) (hd 4 rfl) ?_; refine jo_nil ?_
  refine ⟨rfl, rfl, rfl, ?_⟩
  intro Γ1 hN1 hL hR1
  replace hd : ∀ d, Nat.blt d 7 = true → d < Γ1.N := fun d h => by rw [hN1]; exact hd d h
  refine jo_nil ?_; refine jc_seq ?_; refine jc_region ?_; refine jo_l (ly_lda agg1028 rfl rfl rfl rfl) (hd 5 rfl) ?_
  refine jo_callN Try.f44 (qnorm_n s l d x y hx hy h0) (fun o G ⟨_, h⟩ => h ▸ idless_cons ints_id (idless_cons ints_id idless_nil)) rfl Try.func44 rfl rfl (ovL_cons rfl ovL_nil) (.cons (.a1 .b (.a1 .n (.a1 .n .a0))) .nil) (hd 6 rfl) ?_ (fun ch G hp => by simp at hp)
  rintro y G ⟨hy, rfl⟩; injection hy with hy; subst hy
  show JO _ _ _ _ ((6, .a [.b (sgq s x), .o 3 0 0 (lm ((rn0 x y : Nat) : Int)).length, .o 4 0 0 (lm ((rd0 x y : Nat) : Int)).length]) :: _) _ _
  refine jo_st (sy_store rfl rfl rfl siz1028 rfl rfl (Nat.le_of_ble_eq_true rfl)) ?_; refine jo_st (sy_store rfl rfl rfl siz23 rfl rfl (Nat.le_of_ble_eq_true rfl)) ?_; refine jo_nil ?_; refine jc_ret ?_; refine Clo.fin clo_2335 (m := 3) (i := 1) (j := 2) (Nat.le_of_ble_eq_true rfl) rfl rfl rfl rfl ?_
  refine ⟨[3, 4], _, (.t [.a [.b (sgq s x), .o 0 0 0 (lm ((rn0 x y : Nat) : Int)).length, .o 1 0 0 (lm ((rd0 x y : Nat) : Int)).length], .i .i64 0]), (.cons (ResV.cell agg1028 rfl rfl rfl rfl) (.cons (ResV.cell1 one23 rfl rfl rfl) .nil)), rfl, rfl, (by decide), (idless_cons ints_id (idless_cons ints_id idless_nil)), ?_⟩
  exact ⟨rfl, rfl⟩

set_option maxHeartbeats 4000000 in
theorem QAbs_n (s : Bool) (l d : List Int) (x y : Nat) (hx : Rw l x) (hy : Rw d y) (h0 : y ≠ 0) : SpecM Try.prog 14 [(.a [.b s, .n false .u64 l, .n false .u64 d])] [] (fun o G => o = .ret (.t [.a [.b false, .o 0 0 0 (lm ((rn0 x y : Nat) : Int)).length, .o 1 0 0 (lm ((rd0 x y : Nat) : Int)).length], .i .i64 0]) ∧ G = [⟨67, 1, 0, true, ints .u64 (lm ((rn0 x y : Nat) : Int))⟩, ⟨67, 1, 0, true, ints .u64 (lm ((rd0 x y : Nat) : Int))⟩]) := by
  refine specS_ofD [(0, (.a [.b s, .n false .u64 l, .n false .u64 d]))] rfl Try.func14 rfl (Nat.le_of_ble_eq_true rfl) fun Γ 𝓡 hN hds hL hR hE => ?_
  have hd := hdOf 10 hN
  refine jcp_seq ?_; refine jc_region ?_; refine jo_h (hy_box (id := 0) (n := 3) rfl rfl rfl (by decide) rfl) (hd 1 rfl) ?_; refine jo_h (hy_alloc (id := 1) zero1028 (by decide) rfl (by decide) rfl) (hd 2 rfl) ?_; refine jo_h (hy_alloc (id := 2) zero23 (by decide) rfl (by decide) rfl) (hd 3 rfl) ?_; refine jo_nil ?_; refine jcd_defer (g := 48) (caps := [.p 1 0 0, .p 2 0 0]) 3 [_] (ops := [_, _]) rfl Try.func48 rfl rfl rfl hds hR hL hE ?_; refine jo_l (ly_mf (ovL_cons rfl (ovL_cons rfl ovL_nil))) (hd 4 rfl) ?_; refine jo_nil ?_
  refine ⟨rfl, rfl, rfl, ?_⟩
  intro Γ1 hN1 hL hR1
  replace hd : ∀ d, Nat.blt d 10 = true → d < Γ1.N := fun d h => by rw [hN1]; exact hd d h
  refine jo_nil ?_; refine jc_seq ?_; refine jc_region ?_; refine jo_l (ly_lda agg1028 rfl rfl rfl rfl) (hd 5 rfl) ?_
  refine jo_callN Try.f44 (qnorm_n s l d x y hx hy h0) (fun o G ⟨_, h⟩ => h ▸ idless_cons ints_id (idless_cons ints_id idless_nil)) rfl Try.func44 rfl rfl (ovL_cons rfl ovL_nil) (.cons (.a1 .b (.a1 .n (.a1 .n .a0))) .nil) (hd 6 rfl) ?_ (fun ch G hp => by simp at hp)
  rintro y G ⟨hy, rfl⟩; injection hy with hy; subst hy
  show JO _ _ _ _ ((6, .a [.b (sgq s x), .o 3 0 0 (lm ((rn0 x y : Nat) : Int)).length, .o 4 0 0 (lm ((rd0 x y : Nat) : Int)).length]) :: _) _ _
  refine jo_st (sy_store rfl rfl rfl siz1028 rfl rfl (Nat.le_of_ble_eq_true rfl)) ?_; refine jo_nil ?_; refine jc_seq ?_; refine jc_region ?_; refine jo_l (ly_fa fld1028_0 rfl rfl rfl) (hd 7 rfl) ?_; refine jo_l (ly_fa fld30_0 rfl rfl rfl) (hd 8 rfl) ?_; refine jo_st (sy_store rfl rfl rfl siz4 rfl rfl (Nat.le_of_ble_eq_true rfl)) ?_; refine jo_nil ?_; refine jc_seq ?_; refine jc_region ?_; refine jo_l (ly_lda agg1028 rfl rfl rfl rfl) (hd 9 rfl) ?_; refine jo_st (sy_store rfl rfl rfl siz1028 rfl rfl (Nat.le_of_ble_eq_true rfl)) ?_; refine jo_st (sy_store rfl rfl rfl siz23 rfl rfl (Nat.le_of_ble_eq_true rfl)) ?_; refine jo_nil ?_; refine jc_ret ?_; refine Clo.fin clo_2341 (m := 3) (i := 1) (j := 2) (Nat.le_of_ble_eq_true rfl) rfl rfl rfl rfl ?_
  refine ⟨[3, 4], _, (.t [.a [.b false, .o 0 0 0 (lm ((rn0 x y : Nat) : Int)).length, .o 1 0 0 (lm ((rd0 x y : Nat) : Int)).length], .i .i64 0]), (.cons (ResV.cell agg1028 rfl rfl rfl rfl) (.cons (ResV.cell1 one23 rfl rfl rfl) .nil)), rfl, rfl, (by decide), (idless_cons ints_id (idless_cons ints_id idless_nil)), ?_⟩
  exact ⟨rfl, rfl⟩

set_option maxHeartbeats 4000000 in
theorem QNeg_n (s : Bool) (l d : List Int) (x y : Nat) (hx : Rw l x) (hy : Rw d y) (h0 : y ≠ 0) : SpecM Try.prog 13 [(.a [.b s, .n false .u64 l, .n false .u64 d])] [] (fun o G => o = .ret (.t [.a [.b (sgq (!s) x), .o 0 0 0 (lm ((rn0 x y : Nat) : Int)).length, .o 1 0 0 (lm ((rd0 x y : Nat) : Int)).length], .i .i64 0]) ∧ G = [⟨67, 1, 0, true, ints .u64 (lm ((rn0 x y : Nat) : Int))⟩, ⟨67, 1, 0, true, ints .u64 (lm ((rd0 x y : Nat) : Int))⟩]) := by
  refine specS_ofD [(0, (.a [.b s, .n false .u64 l, .n false .u64 d]))] rfl Try.func13 rfl (Nat.le_of_ble_eq_true rfl) fun Γ 𝓡 hN hds hL hR hE => ?_
  have hd := hdOf 21 hN
  refine jcp_seq ?_; refine jc_region ?_; refine jo_h (hy_box (id := 0) (n := 3) rfl rfl rfl (by decide) rfl) (hd 1 rfl) ?_; refine jo_h (hy_alloc (id := 1) zero1028 (by decide) rfl (by decide) rfl) (hd 2 rfl) ?_; refine jo_h (hy_alloc (id := 2) zero23 (by decide) rfl (by decide) rfl) (hd 3 rfl) ?_; refine jo_nil ?_; refine jcd_defer (g := 47) (caps := [.p 1 0 0, .p 2 0 0]) 3 [_] (ops := [_, _]) rfl Try.func47 rfl rfl rfl hds hR hL hE ?_; refine jo_l (ly_mf (ovL_cons rfl (ovL_cons rfl ovL_nil))) (hd 4 rfl) ?_; refine jo_nil ?_
  refine ⟨rfl, rfl, rfl, ?_⟩
  intro Γ1 hN1 hL hR1
  replace hd : ∀ d, Nat.blt d 21 = true → d < Γ1.N := fun d h => by rw [hN1]; exact hd d h
  refine jo_nil ?_; refine jc_seq ?_; refine jc_region ?_; refine jo_l (ly_lda agg1028 rfl rfl rfl rfl) (hd 5 rfl) ?_
  refine jo_callN Try.f44 (qnorm_n s l d x y hx hy h0) (fun o G ⟨_, h⟩ => h ▸ idless_cons ints_id (idless_cons ints_id idless_nil)) rfl Try.func44 rfl rfl (ovL_cons rfl ovL_nil) (.cons (.a1 .b (.a1 .n (.a1 .n .a0))) .nil) (hd 6 rfl) ?_ (fun ch G hp => by simp at hp)
  rintro y G ⟨hy, rfl⟩; injection hy with hy; subst hy
  show JO _ _ _ _ ((6, .a [.b (sgq s x), .o 3 0 0 (lm ((rn0 x y : Nat) : Int)).length, .o 4 0 0 (lm ((rd0 x y : Nat) : Int)).length]) :: _) _ _
  refine jo_st (sy_store rfl rfl rfl siz1028 rfl rfl (Nat.le_of_ble_eq_true rfl)) ?_; refine jo_nil ?_; refine jc_seq ?_; refine jc_region ?_; refine jo_l (ly_fa fld1028_0 rfl rfl rfl) (hd 7 rfl) ?_; refine jo_l (ly_fa fld30_0 rfl rfl rfl) (hd 8 rfl) ?_; refine jo_l (ly_ld one4 rfl rfl rfl) (hd 9 rfl) ?_; refine jo_l (ly_not rfl) (hd 10 rfl) ?_; refine jo_l (ly_mv rfl) (hd 11 rfl) ?_
  refine jo_split 11 rfl (fun h1 => ?_) (fun h1 => ?_)
  · refine jo_g 11 rfl rfl (ly_fa fld1028_0 rfl rfl rfl) (hd 12 rfl) ?_; refine jo_g 11 rfl rfl (ly_fa fld30_1 rfl rfl rfl) (hd 13 rfl) ?_; refine jo_g 11 rfl rfl (ly_ld one28 rfl rfl rfl) (hd 14 rfl) ?_; refine jo_g 11 rfl rfl (ly_leno sl28 rfl rfl) (hd 15 rfl) ?_; refine jo_g 11 rfl rfl (ly_gt rfl rfl) (hd 16 rfl) ?_; refine jo_l (ly_pick_t rfl rfl) (hd 17 rfl) ?_; refine jo_l (ly_fa fld1028_0 rfl rfl rfl) (hd 18 rfl) ?_; refine jo_l (ly_fa fld30_0 rfl rfl rfl) (hd 19 rfl) ?_; refine jo_st (sy_store rfl rfl rfl siz4 rfl rfl (Nat.le_of_ble_eq_true rfl)) ?_; refine jo_nil ?_; refine jc_seq ?_; refine jc_region ?_; refine jo_l (ly_lda agg1028 rfl rfl rfl rfl) (hd 20 rfl) ?_; refine jo_st (sy_store rfl rfl rfl siz1028 rfl rfl (Nat.le_of_ble_eq_true rfl)) ?_; refine jo_st (sy_store rfl rfl rfl siz23 rfl rfl (Nat.le_of_ble_eq_true rfl)) ?_; refine jo_nil ?_; refine jc_ret ?_; refine Clo.fin clo_2340 (m := 3) (i := 1) (j := 2) (Nat.le_of_ble_eq_true rfl) rfl rfl rfl rfl ?_
    refine ⟨[3, 4], _, (.t [.a [.b (decide (0 < ((lm ((rn0 x y : Nat) : Int)).length : Int))), .o 0 0 0 (lm ((rn0 x y : Nat) : Int)).length, .o 1 0 0 (lm ((rd0 x y : Nat) : Int)).length], .i .i64 0]), (.cons (ResV.cell agg1028 rfl rfl rfl rfl) (.cons (ResV.cell1 one23 rfl rfl rfl) .nil)), rfl, rfl, (by decide), (idless_cons ints_id (idless_cons ints_id idless_nil)), ?_⟩
    have e9 := sgq_neg (s := s) (x := x) (y := y)
    rw [h1, Bool.true_and] at e9
    rw [e9]
    exact ⟨rfl, rfl⟩
  · refine jo_s 11 rfl rfl rfl (hd 12 rfl) ?_; refine jo_s 11 rfl rfl rfl (hd 13 rfl) ?_; refine jo_s 11 rfl rfl rfl (hd 14 rfl) ?_; refine jo_s 11 rfl rfl rfl (hd 15 rfl) ?_; refine jo_s 11 rfl rfl rfl (hd 16 rfl) ?_; refine jo_l (ly_pick_f rfl rfl) (hd 17 rfl) ?_; refine jo_l (ly_fa fld1028_0 rfl rfl rfl) (hd 18 rfl) ?_; refine jo_l (ly_fa fld30_0 rfl rfl rfl) (hd 19 rfl) ?_; refine jo_st (sy_store rfl rfl rfl siz4 rfl rfl (Nat.le_of_ble_eq_true rfl)) ?_; refine jo_nil ?_; refine jc_seq ?_; refine jc_region ?_; refine jo_l (ly_lda agg1028 rfl rfl rfl rfl) (hd 20 rfl) ?_; refine jo_st (sy_store rfl rfl rfl siz1028 rfl rfl (Nat.le_of_ble_eq_true rfl)) ?_; refine jo_st (sy_store rfl rfl rfl siz23 rfl rfl (Nat.le_of_ble_eq_true rfl)) ?_; refine jo_nil ?_; refine jc_ret ?_; refine Clo.fin clo_2340 (m := 3) (i := 1) (j := 2) (Nat.le_of_ble_eq_true rfl) rfl rfl rfl rfl ?_
    refine ⟨[3, 4], _, (.t [.a [.b false, .o 0 0 0 (lm ((rn0 x y : Nat) : Int)).length, .o 1 0 0 (lm ((rd0 x y : Nat) : Int)).length], .i .i64 0]), (.cons (ResV.cell agg1028 rfl rfl rfl rfl) (.cons (ResV.cell1 one23 rfl rfl rfl) .nil)), rfl, rfl, (by decide), (idless_cons ints_id (idless_cons ints_id idless_nil)), ?_⟩
    have e9 := sgq_neg (s := s) (x := x) (y := y)
    rw [h1, Bool.false_and] at e9
    rw [← e9]
    exact ⟨rfl, rfl⟩

set_option maxHeartbeats 4000000 in
theorem QMake_n (s t : Bool) (l d : List Int) (x y : Nat) (hx : Rw l x) (hy : Rw d y) (h0 : y ≠ 0) : SpecM Try.prog 20 [.a [.b s, .n false .u64 l], .a [.b t, .n false .u64 d]] [] (fun o G => o = .ret (.t [.a [.b (sgq (s != t) x), .o 0 0 0 (lm ((rn0 x y : Nat) : Int)).length, .o 1 0 0 (lm ((rd0 x y : Nat) : Int)).length], .i .i64 0]) ∧ G = [⟨67, 1, 0, true, ints .u64 (lm ((rn0 x y : Nat) : Int))⟩, ⟨67, 1, 0, true, ints .u64 (lm ((rd0 x y : Nat) : Int))⟩]) := by
  refine specS_ofD [(0, .a [.b s, .n false .u64 l]), (1, .a [.b t, .n false .u64 d])] rfl Try.func20 rfl (Nat.le_of_ble_eq_true rfl) fun Γ 𝓡 hN hds hL hR hE => ?_
  have hd := hdOf 21 hN
  refine jcp_seq ?_; refine jc_region ?_; refine jo_h (hy_box (id := 0) (n := 2) rfl rfl rfl (by decide) rfl) (hd 2 rfl) ?_; refine jo_h (hy_box (id := 1) (n := 2) rfl rfl rfl (by decide) rfl) (hd 3 rfl) ?_; refine jo_h (hy_alloc (id := 2) zero1028 (by decide) rfl (by decide) rfl) (hd 4 rfl) ?_; refine jo_h (hy_alloc (id := 3) zero23 (by decide) rfl (by decide) rfl) (hd 5 rfl) ?_; refine jo_nil ?_; refine jcd_defer (g := 53) (caps := [.p 2 0 0, .p 3 0 0]) 4 [_] (ops := [_, _]) rfl Try.func53 rfl rfl rfl hds hR hL hE ?_; refine jo_l (ly_mf (ovL_cons rfl (ovL_cons rfl ovL_nil))) (hd 7 rfl) ?_; refine jo_nil ?_
  refine ⟨rfl, rfl, rfl, ?_⟩
  intro Γ1 hN1 hL hR1
  replace hd : ∀ d, Nat.blt d 21 = true → d < Γ1.N := fun d h => by rw [hN1]; exact hd d h
  refine jo_nil ?_; refine jc_seq ?_; refine jc_region ?_; refine jo_l (ly_fa fld30_0 rfl rfl rfl) (hd 8 rfl) ?_; refine jo_l (ly_ld one4 rfl rfl rfl) (hd 9 rfl) ?_; refine jo_l (ly_fa fld30_0 rfl rfl rfl) (hd 10 rfl) ?_; refine jo_l (ly_ld one4 rfl rfl rfl) (hd 11 rfl) ?_; refine jo_l (ly_neb und4 rfl rfl) (hd 12 rfl) ?_; refine jo_l (ly_as rfl) (hd 6 rfl) ?_; refine jo_nil ?_; refine jc_seq ?_; refine jc_region ?_; refine jo_l (ly_mv rfl) (hd 13 rfl) ?_; refine jo_l (ly_fa fld30_1 rfl rfl rfl) (hd 14 rfl) ?_; refine jo_l (ly_ld one28 rfl rfl rfl) (hd 15 rfl) ?_; refine jo_l (ly_build (is := [0, 1]) (xs := [.tmp 13, .tmp 15]) zero30 pls30_0_1 rfl (ovL_cons rfl (ovL_cons rfl ovL_nil)) rfl (by first | (simp [plsOk, cellsV]; done) | (simp [plsOk, cellsV, old]; done)) (all_of rfl) rfl) (hd 16 rfl) ?_; refine jo_l (ly_fa fld30_1 rfl rfl rfl) (hd 17 rfl) ?_; refine jo_l (ly_ld one28 rfl rfl rfl) (hd 18 rfl) ?_; refine jo_l (ly_build (is := [0, 1]) (xs := [.tmp 16, .tmp 18]) zero1028 pls1028_0_1 rfl (ovL_cons rfl (ovL_cons rfl ovL_nil)) rfl ⟨rfl, (by decide), rfl, (by decide), trivial⟩ (all_of rfl) rfl) (hd 19 rfl) ?_
  refine jo_callN Try.f44 (qnorm_n (s != t) l d x y hx hy h0) (fun o G ⟨_, h⟩ => h ▸ idless_cons ints_id (idless_cons ints_id idless_nil)) rfl Try.func44 rfl rfl (ovL_cons rfl ovL_nil) (.cons (.a1 .b (.a1 .n (.a1 .n .a0))) .nil) (hd 20 rfl) ?_ (fun ch G hp => by simp at hp)
  rintro y G ⟨hy, rfl⟩; injection hy with hy; subst hy
  show JO _ _ _ _ ((20, .a [.b (sgq (s != t) x), .o 4 0 0 (lm ((rn0 x y : Nat) : Int)).length, .o 5 0 0 (lm ((rd0 x y : Nat) : Int)).length]) :: _) _ _
  refine jo_st (sy_store rfl rfl rfl siz1028 rfl rfl (Nat.le_of_ble_eq_true rfl)) ?_; refine jo_st (sy_store rfl rfl rfl siz23 rfl rfl (Nat.le_of_ble_eq_true rfl)) ?_; refine jo_nil ?_; refine jc_ret ?_; refine Clo.fin clo_2346 (m := 4) (i := 2) (j := 3) (Nat.le_of_ble_eq_true rfl) rfl rfl rfl rfl ?_
  refine ⟨[4, 5], _, (.t [.a [.b (sgq (s != t) x), .o 0 0 0 (lm ((rn0 x y : Nat) : Int)).length, .o 1 0 0 (lm ((rd0 x y : Nat) : Int)).length], .i .i64 0]), (.cons (ResV.cell agg1028 rfl rfl rfl rfl) (.cons (ResV.cell1 one23 rfl rfl rfl) .nil)), rfl, rfl, (by decide), (idless_cons ints_id (idless_cons ints_id idless_nil)), ?_⟩
  exact ⟨rfl, rfl⟩

/- Contract of surdref07.Int. -/
set_option maxHeartbeats 4000000 in
theorem rInt7_s (v : Int) (hv : inI v) : Spec Try.prog 24 [.i .i64 v] (fun o => o = .ret (.a [.b (decide (v < 0)), .n false .u64 (digs B32 v.natAbs), .n false .u64 (digs B32 1)])) := by
  refine spec_of' [(0, .i .i64 v)] rfl Try.func24 rfl (Nat.le_of_ble_eq_true rfl) fun Γ hN hds hL hR => ?_
  have hd := hdOf 16 hN
  have hI1 : Spec Try.prog 54 [.i .i64 1] (fun o => o = .ret (.n false .u64 (digs B32 1))) := by have h := rInt_s ((1 : Nat) : Int) (by decide) (by decide); rw [rInt_v (v := 1) (by decide)] at h; exact h
  refine jc_seq ?_; refine jc_region ?_; refine jo_h (hy_alloc (id := 0) zero1031 (by decide) rfl (by decide) rfl) (hd 2 rfl) ?_; refine jo_nil ?_; refine jc_seq ?_; refine jc_seq ?_; refine jc_region ?_; refine jo_l (ly_mv rfl) (hd 3 rfl) ?_; refine jo_l (ly_lt rfl rfl) (hd 4 rfl) ?_; refine jo_nil ?_
  refine jc_if rfl (fun h1 => ?_) (fun h1 => ?_)
  · have hlo := hv.1
    have hOf : Spec Try.prog 41 [.n false .u64 [((v.natAbs : Nat) : Int)]] (fun o => o = .ret (.n false .u64 (digs B32 v.natAbs))) := by have h := rOf_s [((v.natAbs : Nat) : Int)] (by simp) (u64s1 (by omega) (by omega)); rwa [rInt_v (by omega)] at h
    refine jc_seq ?_; refine jc_region ?_; refine jo_l (ly_mv rfl) (hd 5 rfl) ?_; refine jo_l (ly_conv und3 und82 rfl rfl) (hd 6 rfl) ?_; refine jo_l (ly_neg rfl (r := ((v.natAbs : Nat) : Int)) (by rw [u64_wrap_mod, u64_wrap_mod]; omega)) (hd 7 rfl) ?_; refine jo_h (hy_lit (id := 1) (xs := [.tmp 7]) el25 rfl (ovL_cons rfl ovL_nil) rfl (all2_of rfl) (by decide) rfl) (hd 8 rfl) ?_; refine jo_frz (k := .u64) (l := [((v.natAbs : Nat) : Int)]) (l' := [((v.natAbs : Nat) : Int)]) 8 rfl rfl (by simp) rfl hL ?_
    refine jo_call Try.f41 (hOf) rfl Try.func41 rfl rfl (ovL_cons rfl ovL_nil) (.cons .n .nil) (hd 9 rfl) ?_ (fun ch hp => by simp at hp)
    rintro y hy; injection hy with hy; subst hy
    refine jo_call Try.f54 (hI1) rfl Try.func54 rfl rfl (ovL_cons rfl ovL_nil) (.cons .i .nil) (hd 10 rfl) ?_ (fun ch hp => by simp at hp)
    rintro y hy; injection hy with hy; subst hy; refine jo_l (ly_build (is := [0, 1, 2]) (xs := [.const (.bool true), .tmp 9, .tmp 10]) zero1031 pls1031_0_1_2 rfl (ovL_cons rfl (ovL_cons rfl (ovL_cons rfl ovL_nil))) rfl (by first | (simp [plsOk, cellsV]; done) | (simp [plsOk, cellsV, old]; done)) (all_of rfl) rfl) (hd 11 rfl) ?_; refine jo_st (sy_store rfl rfl rfl siz1031 rfl rfl (Nat.le_of_ble_eq_true rfl)) ?_; refine jo_nil ?_; refine jc_ret ?_
    refine ⟨_, _, (.cons (ResV.cell agg1031 rfl rfl rfl rfl) .nil), (.a1 .b (.a1 .n (.a1 .n .a0))), ?_⟩
    rw [decide_eq_true (by omega)]
  · have hhi := hv.2
    have hIv : Spec Try.prog 54 [.i .i64 v] (fun o => o = .ret (.n false .u64 (digs B32 v.natAbs))) := by have h := rInt_s v (by omega) hv.2; rwa [show trm (dig [v]) = digs B32 v.natAbs from (by have e : v = ((v.natAbs : Nat) : Int) := (by omega); have h9 := rInt_v (v := v.natAbs) (by omega); rw [← e] at h9; exact h9)] at h
    refine jc_skip ?_; refine jc_seq ?_; refine jc_region ?_; refine jo_l (ly_mv rfl) (hd 12 rfl) ?_
    refine jo_call Try.f54 (hIv) rfl Try.func54 rfl rfl (ovL_cons rfl ovL_nil) (.cons .i .nil) (hd 13 rfl) ?_ (fun ch hp => by simp at hp)
    rintro y hy; injection hy with hy; subst hy
    refine jo_call Try.f54 (hI1) rfl Try.func54 rfl rfl (ovL_cons rfl ovL_nil) (.cons .i .nil) (hd 14 rfl) ?_ (fun ch hp => by simp at hp)
    rintro y hy; injection hy with hy; subst hy; refine jo_l (ly_build (is := [1, 2]) (xs := [.tmp 13, .tmp 14]) zero1031 pls1031_1_2 rfl (ovL_cons rfl (ovL_cons rfl ovL_nil)) rfl (by first | (simp [plsOk, cellsV]; done) | (simp [plsOk, cellsV, old]; done)) (all_of rfl) rfl) (hd 15 rfl) ?_; refine jo_st (sy_store rfl rfl rfl siz1031 rfl rfl (Nat.le_of_ble_eq_true rfl)) ?_; refine jo_nil ?_; refine jc_ret ?_
    refine ⟨_, _, (.cons (ResV.cell agg1031 rfl rfl rfl rfl) .nil), (.a1 .b (.a1 .n (.a1 .n .a0))), ?_⟩
    rw [decide_eq_false (by omega)]
end Go.Proofs.Ytpldmajdiljoaaa.Vc
