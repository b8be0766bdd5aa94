/- The law WholeTower of surdtop returns true for every two naturals and every cut of bulk at most 1048576 Texts joined: Qs, Qt, Qu, Qv, Qw, Qx, Sa, Sc, Se, Sf, Sg, Sh, Si, Sj, Sk, Sm, Sn, So, Sp, St, Su, RTower. -/
import Derived.Test.YtcfdclehmpfkcaaK6
import Derived.Test.YtcfdclehmpfkcaaRows
import Derived.WalkKit
import Derived.ProofKit
import Derived.OpenShut
import Derived.Carry
import Derived.JoinedCond
set_option linter.unusedVariables false
set_option linter.unusedSimpArgs false
/- Contract of numeral.build. -/
namespace Go.Proofs.Ytcfdclehmpfkcaa.Vc
open Go Go.RowKit
theorem Mul_f (x y : Int) (hx : 0 ≤ x) (hy : 0 ≤ y) (fx : lenV x ≤ 67108864) (fy : lenV y ≤ 67108864) (f : lenV (x * y) ≤ 67108864) : Spec Try.prog 61 [.n false .u64 (lm x), .n false .u64 (lm y)] (fun o => o = .ret (.t [.n false .u64 (lm (x * y)), .i .i64 0])) := by
  have h1 := lenV_lm fx
  have h2 := lenV_lm fy
  refine (Mul_l (lm x) (lm y) (by omega) (by omega) (lm_u _) (lm_u _)).weak fun o ho => ?_
  obtain ⟨r, e, rfl, he⟩ := ho
  rw [vl_lm hx, vl_lm hy] at he
  obtain ⟨rfl, rfl⟩ := errL_fit he f
  exact ⟨_, rfl, fun _ _ _ _ h => end_nnT h⟩
theorem Add_f (x y : Int) (hx : 0 ≤ x) (hy : 0 ≤ y) (fx : lenV x ≤ 67108864) (fy : lenV y ≤ 67108864) (f : lenV (x + y) ≤ 67108864) : Spec Try.prog 97 [.n false .u64 (lm x), .n false .u64 (lm y)] (fun o => o = .ret (.t [.n false .u64 (lm (x + y)), .i .i64 0])) := by
  have h1 := lenV_lm fx
  have h2 := lenV_lm fy
  have ev : vl (sumL (lm x) (lm y)) = x + y := by rw [vl_sumL, vl_lm hx, vl_lm hy]
  have hc := adN_c (a := (swL (trm (lm x)) (trm (lm y))).1) (b := (swL (trm (lm x)) (trm (lm y))).2) (by unfold swL; split; exact u64s_trm (lm_u y); exact u64s_trm (lm_u x)) (by unfold swL; split; exact u64s_trm (lm_u x); exact u64s_trm (lm_u y)) (swL (trm (lm x)) (trm (lm y))).1.length
  have hu : u64s (sumL (lm x) (lm y)) := u64s_app1 (adN_u _) hc.1 (by omega)
  have e := trm_lm hu ev
  have h := Add_ok (lm x) (lm y) (by omega) (by omega) (lm_u x) (lm_u y) (by rw [e, lenN_lm]; exact f)
  rwa [e] at h

set_option maxHeartbeats 4000000 in
theorem power_x (b n g : Nat) (hlb : 2 ≤ b) (hb2 : b ≤ 36) (hn : lenV (PW b n) ≤ 67108864) : SpecX Try.prog 111 [.i .i64 (n : Int), .q [.c (.map (some g))], .q [.i .i64 (b : Int)]] (cF b) g (fun o => o = .ret (.t [.n false .u64 (lm (PW b n)), .i .i64 0])) := by
  refine specX_of [(0, .i .i64 (n : Int)), (1, .q [.c (.map (some g))]), (2, .q [.i .i64 (b : Int)])] rfl Try.func111 rfl (Nat.le_of_ble_eq_true rfl) fun Γ hN hds hΓ => ?_
  have hdM : ∀ d, Nat.blt d 33 = true → d < Γ.N := fun d h => by rw [hN]; exact Nat.le_of_ble_eq_true h
  have hd := hdM
  have hF : Spec Try.prog 113 [.i .u64 (b : Int)] (fun o => o = .ret (.n false .u64 (lm (b : Int)))) := by have h := (From_s (b : Int)).nn; rwa [show (if (b : Int) = 0 then [] else [(b : Int)]) = lm (b : Int) from fl_lm (by omega) (by omega)] at h
  have hlb9 : lenV (b : Int) ≤ 67108864 := Nat.le_trans (lenV_mono (w := 36) (by omega)) (by decide)
  refine jcm_toP hΓ rfl ?_
  intro Γ1 hN1 hds1 hL hR back backE
  have hd : ∀ d, Nat.blt d 33 = true → d < Γ1.N := fun d h => by rw [hN1]; exact hdM d h
  refine jcp_seq ?_; refine jc_region ?_; refine jo_l (ly_as rfl) (hd 4 rfl) ?_; refine jo_l (ly_as rfl) (hd 5 rfl) ?_; refine jo_nil ?_; refine back _ _ _ _ rfl ?_
  have hd := hdM
  refine jcm_seq ?_; refine jcm_seq ?_; refine jcm_region ?_; refine jom_l (ly_ldq one1138 rfl rfl) (hd 11 rfl) ?_; refine jom_l (ly_mv rfl) (hd 12 rfl) ?_
  refine jom_lookup (n := n) (z := (.slice none 0 0)) undm1138 undki3 (zvOk zv28) rfl rfl rfl (hd 13 rfl) ?_ ?_
  · refine jom_l (ly_mv rfl) (hd 10 rfl) ?_; refine jom_l (ly_ext rfl rfl) (hd 14 rfl) ?_; refine jom_l (ly_ext rfl rfl) (hd 15 rfl) ?_; refine jom_l (ly_as rfl) (hd 6 rfl) ?_; refine jom_l (ly_as rfl) (hd 7 rfl) ?_; refine jom_nil ?_; refine jcm_toP hΓ rfl ?_
    intro Γ1 hN1 hds1 hL hR back backE
    have hd : ∀ d, Nat.blt d 33 = true → d < Γ1.N := fun d h => by rw [hN1]; exact hdM d h
    refine jcp_seq ?_; refine jc_region ?_; refine jo_l (ly_mv rfl) (hd 16 rfl) ?_; refine jo_nil ?_; refine back _ _ _ _ rfl ?_
    have hd := hdM
    refine jcm_litt rfl ?_; refine jcm_toP hΓ rfl ?_
    intro Γ1 hN1 hds1 hL hR back backE
    have hd : ∀ d, Nat.blt d 33 = true → d < Γ1.N := fun d h => by rw [hN1]; exact hdM d h
    refine jcp_seq ?_; refine jc_region ?_; refine jo_l (ly_mv rfl) (hd 17 rfl) ?_; refine jo_l (ly_as rfl) (hd 4 rfl) ?_; refine jo_l (ly_as rfl) (hd 5 rfl) ?_; refine jo_nil ?_; refine back _ _ _ _ rfl ?_
    have hd := hdM
    refine jcm_ret fun a w s hg => ?_
    refine ⟨_, _, s, hg, (.cons rfl (.cons rfl .nil)), ?_⟩
    exact rfl
  · refine jom_l (ly_mv rfl) (hd 10 rfl) ?_; refine jom_l (ly_ext rfl rfl) (hd 14 rfl) ?_; refine jom_l (ly_ext rfl rfl) (hd 15 rfl) ?_; refine jom_l (ly_as rfl) (hd 6 rfl) ?_; refine jom_l (ly_as rfl) (hd 7 rfl) ?_; refine jom_nil ?_; refine jcm_toP hΓ rfl ?_
    intro Γ1 hN1 hds1 hL hR back backE
    have hd : ∀ d, Nat.blt d 33 = true → d < Γ1.N := fun d h => by rw [hN1]; exact hdM d h
    refine jcp_seq ?_; refine jc_region ?_; refine jo_l (ly_mv rfl) (hd 16 rfl) ?_; refine jo_nil ?_; refine back _ _ _ _ rfl ?_
    have hd := hdM
    refine jcm_litf rfl ?_; refine jcm_skip ?_; refine jcm_toP hΓ rfl ?_
    intro Γ1 hN1 hds1 hL hR back backE
    have hd : ∀ d, Nat.blt d 33 = true → d < Γ1.N := fun d h => by rw [hN1]; exact hdM d h
    refine jcp_seq ?_; refine jc_region ?_; refine jo_l (ly_ldq one3 rfl rfl) (hd 19 rfl) ?_; refine jo_l (ly_conv und3 und82 rfl (r := (b : Int)) (wrap_u64 (by omega) (by omega))) (hd 20 rfl) ?_
    refine jo_call Try.f113 (hF) rfl Try.func113 rfl rfl (ovL_cons rfl ovL_nil) (.cons .i .nil) (hd 21 rfl) ?_ (fun ch hp => by simp at hp)
    rintro y hy; injection hy with hy; subst hy; refine jo_l (ly_mv rfl) (hd 22 rfl) ?_
    refine jo_call Try.f112 (Pow_v b n hlb hlb9 (by omega)) rfl Try.func112 rfl rfl (ovL_cons rfl (ovL_cons rfl ovL_nil)) (.cons .n (.cons .i .nil)) (hd 23 rfl) ?_ (fun ch hp => by simp at hp)
    rintro y hy; injection hy with hy; subst hy; refine jo_l (ly_mv rfl) (hd 18 rfl) ?_; refine jo_l (ly_ext rfl rfl) (hd 24 rfl) ?_; refine jo_l (ly_ext rfl rfl) (hd 25 rfl) ?_; refine jo_l (ly_as rfl) (hd 8 rfl) ?_; refine jo_l (ly_as rfl) (hd 9 rfl) ?_; refine jo_nil ?_; refine back _ _ _ _ rfl ?_
    have hd := hdM
    refine jcm_seq ?_; refine jcm_toP hΓ rfl ?_
    intro Γ1 hN1 hds1 hL hR back backE
    have hd : ∀ d, Nat.blt d 33 = true → d < Γ1.N := fun d h => by rw [hN1]; exact hdM d h
    refine jcp_seq ?_; refine jc_region ?_; refine jo_l (ly_mv rfl) (hd 26 rfl) ?_; refine jo_l (ly_tt (ly_eq rfl rfl) (by decide)) (hd 27 rfl) ?_; refine jo_nil ?_; refine back _ _ _ _ rfl ?_
    have hd := hdM
    refine jcm_litt rfl ?_; refine jcm_region ?_; refine jom_l (ly_ldq one1138 rfl rfl) (hd 28 rfl) ?_; refine jom_l (ly_mv rfl) (hd 29 rfl) ?_; refine jom_l (ly_mv rfl) (hd 30 rfl) ?_; refine jom_enter hΓ undm1138 undki3 rfl rfl rfl (fun w u h => rel_Ble (Nat.zero_le _) _ _ h) ?_; refine jom_nil ?_; refine jcm_toP hΓ rfl ?_
    intro Γ1 hN1 hds1 hL hR back backE
    have hd : ∀ d, Nat.blt d 33 = true → d < Γ1.N := fun d h => by rw [hN1]; exact hdM d h
    refine jcp_seq ?_; refine jc_region ?_; refine jo_l (ly_mv rfl) (hd 31 rfl) ?_; refine jo_l (ly_mv rfl) (hd 32 rfl) ?_; refine jo_l (ly_as rfl) (hd 4 rfl) ?_; refine jo_l (ly_as rfl) (hd 5 rfl) ?_; refine jo_nil ?_; refine back _ _ _ _ rfl ?_
    have hd := hdM
    refine jcm_ret fun a w s hg => ?_
    refine ⟨_, _, s, hg, (.cons rfl (.cons rfl .nil)), ?_⟩
    exact rfl

set_option maxHeartbeats 4000000 in
theorem part_big (b g : Nat) (hlb : 2 ≤ b) (hb2 : b ≤ 36) (l : List Int) (n : Nat) (hr : rng b l) (hl : l.length ≤ 1099511627776) (hv9 : lenV (hv b l) ≤ 67108864) (hk9 : lenV (PW b ((l.length + 1) / 2)) ≤ 67108864) (hn : l.length ≤ n) (h12 : 12 < l.length) (ih : ∀ (l2 : List Int) (n : Nat), rng b l2 → l2.length ≤ 1099511627776 → lenV (hv b l2) ≤ 67108864 → lenV (PW b ((l2.length + 1) / 2)) ≤ 67108864 → l2.length ≤ n → l2.length < l.length → SpecX Try.prog 114 [.n false .i64 l2, .q [.i .i64 (b : Int)], .q [cyc 114 [.q [.i .i64 (b : Int)]] [.q [.f 111 [.q [.c (.map (some g))], .q [.i .i64 (b : Int)]]]] n], .q [.f 111 [.q [.c (.map (some g))], .q [.i .i64 (b : Int)]]]] (cF b) g (fun o => o = .ret (.t [.n false .u64 (lm (hv b l2)), .i .i64 0]))) : SpecX Try.prog 114 [.n false .i64 l, .q [.i .i64 (b : Int)], .q [cyc 114 [.q [.i .i64 (b : Int)]] [.q [.f 111 [.q [.c (.map (some g))], .q [.i .i64 (b : Int)]]]] n], .q [.f 111 [.q [.c (.map (some g))], .q [.i .i64 (b : Int)]]]] (cF b) g (fun o => o = .ret (.t [.n false .u64 (lm (hv b l)), .i .i64 0])) := by
  refine specX_of [(0, .n false .i64 l), (1, .q [.i .i64 (b : Int)]), (2, .q [cyc 114 [.q [.i .i64 (b : Int)]] [.q [.f 111 [.q [.c (.map (some g))], .q [.i .i64 (b : Int)]]]] n]), (3, .q [.f 111 [.q [.c (.map (some g))], .q [.i .i64 (b : Int)]]])] rfl Try.func114 rfl (Nat.le_of_ble_eq_true rfl) fun Γ hN hds hΓ => ?_
  have hdM : ∀ d, Nat.blt d 89 = true → d < Γ.N := fun d h => by rw [hN]; exact Nat.le_of_ble_eq_true h
  have hd := hdM
  obtain ⟨n, rfl⟩ : ∃ m, n = m + 1 := ⟨n - 1, by omega⟩
  have hla : (l.take (l.length - (l.length / 2))).length = l.length - (l.length / 2) := by rw [List.length_take]; omega
  have hlb0 : (l.drop (l.length - (l.length / 2))).length = (l.length / 2) := by rw [List.length_drop]; omega
  have hra := rng_take hr (l.length - (l.length / 2))
  have hrb := rng_drop hr (l.length - (l.length / 2))
  have hsp := hv_split (b := b) (k := (l.length / 2)) l (by omega)
  have hna := hv_nonneg hra
  have hnb := hv_nonneg hrb
  have hnl := hv_nonneg hr
  obtain ⟨hfa, hfb, hfm⟩ := half_fit (k := (l.length / 2)) hlb hr (by omega) hv9
  have hfp : lenV (PW b (l.length / 2)) ≤ 67108864 := Nat.le_trans (PW_mono hlb (by omega)) hk9
  have hpn := PW_nn (v := b) (n := (l.length / 2))
  have hka : lenV (PW b (((l.take (l.length - (l.length / 2))).length + 1) / 2)) ≤ 67108864 := Nat.le_trans (PW_mono hlb (by omega)) hk9
  have hkb : lenV (PW b (((l.drop (l.length - (l.length / 2))).length + 1) / 2)) ≤ 67108864 := Nat.le_trans (PW_mono hlb (by omega)) hk9
  refine jcm_toP hΓ rfl ?_
  intro Γ1 hN1 hds1 hL hR back backE
  have hd : ∀ d, Nat.blt d 89 = true → d < Γ1.N := fun d h => by rw [hN1]; exact hdM d h
  refine jcp_seq ?_; refine jc_region ?_; refine jo_l (ly_as rfl) (hd 5 rfl) ?_; refine jo_l (ly_as rfl) (hd 6 rfl) ?_; refine jo_nil ?_; refine back _ _ _ _ rfl ?_
  have hd := hdM
  refine jcm_seq ?_; refine jcm_toP hΓ rfl ?_
  intro Γ1 hN1 hds1 hL hR back backE
  have hd : ∀ d, Nat.blt d 89 = true → d < Γ1.N := fun d h => by rw [hN1]; exact hdM d h
  refine jcp_seq ?_; refine jc_region ?_; refine jo_l (ly_mv rfl) (hd 16 rfl) ?_; refine jo_l (ly_lenn sl1039 rfl) (hd 17 rfl) ?_; refine jo_l (ly_ff (ly_le rfl rfl) (by omega)) (hd 18 rfl) ?_; refine jo_nil ?_; refine back _ _ _ _ rfl ?_
  have hd := hdM
  refine jcm_litf rfl ?_; refine jcm_skip ?_; refine jcm_toP hΓ rfl ?_
  intro Γ1 hN1 hds1 hL hR back backE
  have hd : ∀ d, Nat.blt d 89 = true → d < Γ1.N := fun d h => by rw [hN1]; exact hdM d h
  refine jcp_seq ?_; refine jc_region ?_; refine jo_l (ly_mv rfl) (hd 35 rfl) ?_; refine jo_l (ly_lenn sl1039 rfl) (hd 36 rfl) ?_; refine jo_l (ly_quo rfl rfl (by omega) (r := ((l.length / 2 : Nat) : Int)) (by rw [show ((l.length : Int).tdiv 2) = ((l.length / 2 : Nat) : Int) from rfl]; exact wrap_i64 (by omega) (by omega))) (hd 37 rfl) ?_; refine jo_l (ly_as rfl) (hd 10 rfl) ?_; refine jo_nil ?_; refine back _ _ _ _ rfl ?_
  have hd := hdM
  refine jcm_seq ?_; refine jcm_draw (n := 13) _ rfl mixed ?_; refine jam_l2 0 [7, 8, 9, 10, 11, 12] (lo_l (ly_ldqf one1143 rfl rfl) (hd 39 rfl)) rfl (by kernel_rfl) (by kernel_rfl) (by kernel_rfl) (by kernel_rfl) (fun _ _ _ h => h) ?_; refine jam_l2 1 [6, 7, 8, 9, 10, 11, 12] (lo_l (ly_mv rfl) (hd 40 rfl)) rfl (by kernel_rfl) (by kernel_rfl) (by kernel_rfl) (by kernel_rfl) (fun _ _ _ h => h) ?_; refine jam_l2 2 [3, 5, 6, 7, 8, 9, 10, 11, 12] (lo_l (ly_mv rfl) (hd 41 rfl)) rfl (by kernel_rfl) (by kernel_rfl) (by kernel_rfl) (by kernel_rfl) (fun _ _ _ h => h) ?_; refine jam_l2 3 [5, 6, 7, 8, 9, 10, 11, 12] (lo_l (ly_lenn sl1039 rfl) (hd 42 rfl)) rfl (by kernel_rfl) (by kernel_rfl) (by kernel_rfl) (by kernel_rfl) (fun _ _ _ h => h) ?_; refine jam_l2 4 [5, 6, 7, 8, 9, 10, 11, 12] (lo_l (ly_mv rfl) (hd 43 rfl)) rfl (by kernel_rfl) (by kernel_rfl) (by kernel_rfl) (by kernel_rfl) (fun _ _ _ h => h) ?_; refine jam_l2 5 [6, 7, 8, 9, 10, 11, 12] (lo_l (ly_sub rfl rfl (r := ((l.length - (l.length / 2) : Nat) : Int)) (by rw [wrap_i64 (by omega) (by omega)]; omega)) (hd 44 rfl)) rfl (by kernel_rfl) (by kernel_rfl) (by kernel_rfl) (by kernel_rfl) (fun _ _ _ h => h) ?_; refine jam_l2 6 [7, 8, 9, 10, 11, 12] (lo_l (ly_is (ly_sln sl1039 rfl bnd_none (bnd_some' rfl rfl) (.inl rfl) (by omega) (by omega)) (show V.n _ _ _ = V.n false .i64 (l.take (l.length - (l.length / 2))) by rw [List.drop_zero])) (hd 45 rfl)) rfl (by kernel_rfl) (by kernel_rfl) (by kernel_rfl) (by kernel_rfl) (fun _ _ _ h => h) ?_
  refine jam_1X Try.f114 7 hΓ (ih (l.take (l.length - (l.length / 2))) n hra (by omega) hfa hka (by omega) (by omega)) rfl (by kernel_rfl) rfl Try.func114 rfl rfl (ovL_cons rfl ovL_nil) (.cons .n (.cons .q (.cons .q (.cons .q .nil)))) (hd 46 rfl) ?_ (fun ch hp => by simp at hp)
  rintro y hy; injection hy with hy; subst hy; refine jam_l2 8 [9, 10, 11, 12] (lo_l (ly_mv rfl) (hd 38 rfl)) rfl (by kernel_rfl) (by kernel_rfl) (by kernel_rfl) (by kernel_rfl) (fun _ _ _ h => h) ?_; refine jam_l2 9 [11, 12] (lo_l (ly_ext rfl rfl) (hd 47 rfl)) rfl (by kernel_rfl) (by kernel_rfl) (by kernel_rfl) (by kernel_rfl) (fun _ _ _ h => h) ?_; refine jam_l2 10 [12] (lo_l (ly_ext rfl rfl) (hd 48 rfl)) rfl (by kernel_rfl) (by kernel_rfl) (by kernel_rfl) (by kernel_rfl) (fun _ _ _ h => h) ?_; refine jam_l2 11 [12] (lo_l (ly_as rfl) (hd 11 rfl)) rfl (by kernel_rfl) (by kernel_rfl) (by kernel_rfl) (by kernel_rfl) (fun _ _ _ h => h) ?_; refine jam_l2 12 [] (lo_l (ly_as rfl) (hd 12 rfl)) rfl (by kernel_rfl) (by kernel_rfl) (by kernel_rfl) (by kernel_rfl) (fun _ _ _ h => h) ?_; refine jam_nil (by kernel_rfl) ?_; refine jcm_seq ?_; refine jcm_toP hΓ rfl ?_
  intro Γ1 hN1 hds1 hL hR back backE
  have hd : ∀ d, Nat.blt d 89 = true → d < Γ1.N := fun d h => by rw [hN1]; exact hdM d h
  refine jcp_seq ?_; refine jc_region ?_; refine jo_l (ly_mv rfl) (hd 49 rfl) ?_; refine jo_l (ly_ff (ly_ne rfl rfl) (by decide)) (hd 50 rfl) ?_; refine jo_nil ?_; refine back _ _ _ _ rfl ?_
  have hd := hdM
  refine jcm_litf rfl ?_; refine jcm_skip ?_; refine jcm_seq ?_; refine jcm_draw (n := 13) _ rfl mixed ?_; refine jam_l2 0 [7, 8, 9, 10, 11, 12] (lo_l (ly_ldqf one1143 rfl rfl) (hd 53 rfl)) rfl (by kernel_rfl) (by kernel_rfl) (by kernel_rfl) (by kernel_rfl) (fun _ _ _ h => h) ?_; refine jam_l2 1 [6, 7, 8, 9, 10, 11, 12] (lo_l (ly_mv rfl) (hd 54 rfl)) rfl (by kernel_rfl) (by kernel_rfl) (by kernel_rfl) (by kernel_rfl) (fun _ _ _ h => h) ?_; refine jam_l2 2 [3, 5, 6, 7, 8, 9, 10, 11, 12] (lo_l (ly_mv rfl) (hd 55 rfl)) rfl (by kernel_rfl) (by kernel_rfl) (by kernel_rfl) (by kernel_rfl) (fun _ _ _ h => h) ?_; refine jam_l2 3 [5, 6, 7, 8, 9, 10, 11, 12] (lo_l (ly_lenn sl1039 rfl) (hd 56 rfl)) rfl (by kernel_rfl) (by kernel_rfl) (by kernel_rfl) (by kernel_rfl) (fun _ _ _ h => h) ?_; refine jam_l2 4 [5, 6, 7, 8, 9, 10, 11, 12] (lo_l (ly_mv rfl) (hd 57 rfl)) rfl (by kernel_rfl) (by kernel_rfl) (by kernel_rfl) (by kernel_rfl) (fun _ _ _ h => h) ?_; refine jam_l2 5 [6, 7, 8, 9, 10, 11, 12] (lo_l (ly_sub rfl rfl (r := ((l.length - (l.length / 2) : Nat) : Int)) (by rw [wrap_i64 (by omega) (by omega)]; omega)) (hd 58 rfl)) rfl (by kernel_rfl) (by kernel_rfl) (by kernel_rfl) (by kernel_rfl) (fun _ _ _ h => h) ?_; refine jam_l2 6 [7, 8, 9, 10, 11, 12] (lo_l (ly_is (ly_sln sl1039 rfl (bnd_some' rfl rfl) bnd_none (.inl rfl) (by omega) (by omega)) (show V.n _ _ _ = V.n false .i64 (l.drop (l.length - (l.length / 2))) by rw [List.take_length])) (hd 59 rfl)) rfl (by kernel_rfl) (by kernel_rfl) (by kernel_rfl) (by kernel_rfl) (fun _ _ _ h => h) ?_
  refine jam_1X Try.f114 7 hΓ (ih (l.drop (l.length - (l.length / 2))) n hrb (by omega) hfb hkb (by omega) (by omega)) rfl (by kernel_rfl) rfl Try.func114 rfl rfl (ovL_cons rfl ovL_nil) (.cons .n (.cons .q (.cons .q (.cons .q .nil)))) (hd 60 rfl) ?_ (fun ch hp => by simp at hp)
  rintro y hy; injection hy with hy; subst hy; refine jam_l2 8 [9, 10, 11, 12] (lo_l (ly_mv rfl) (hd 52 rfl)) rfl (by kernel_rfl) (by kernel_rfl) (by kernel_rfl) (by kernel_rfl) (fun _ _ _ h => h) ?_; refine jam_l2 9 [11, 12] (lo_l (ly_ext rfl rfl) (hd 61 rfl)) rfl (by kernel_rfl) (by kernel_rfl) (by kernel_rfl) (by kernel_rfl) (fun _ _ _ h => h) ?_; refine jam_l2 10 [12] (lo_l (ly_ext rfl rfl) (hd 62 rfl)) rfl (by kernel_rfl) (by kernel_rfl) (by kernel_rfl) (by kernel_rfl) (fun _ _ _ h => h) ?_; refine jam_l2 11 [12] (lo_l (ly_as rfl) (hd 13 rfl)) rfl (by kernel_rfl) (by kernel_rfl) (by kernel_rfl) (by kernel_rfl) (fun _ _ _ h => h) ?_; refine jam_l2 12 [] (lo_l (ly_as rfl) (hd 12 rfl)) rfl (by kernel_rfl) (by kernel_rfl) (by kernel_rfl) (by kernel_rfl) (fun _ _ _ h => h) ?_; refine jam_nil (by kernel_rfl) ?_; refine jcm_seq ?_; refine jcm_toP hΓ rfl ?_
  intro Γ1 hN1 hds1 hL hR back backE
  have hd : ∀ d, Nat.blt d 89 = true → d < Γ1.N := fun d h => by rw [hN1]; exact hdM d h
  refine jcp_seq ?_; refine jc_region ?_; refine jo_l (ly_mv rfl) (hd 63 rfl) ?_; refine jo_l (ly_ff (ly_ne rfl rfl) (by decide)) (hd 64 rfl) ?_; refine jo_nil ?_; refine back _ _ _ _ rfl ?_
  have hd := hdM
  refine jcm_litf rfl ?_; refine jcm_skip ?_; refine jcm_seq ?_; refine jcm_region ?_; refine jom_l (ly_ldqf one1139 rfl rfl) (hd 67 rfl) ?_; refine jom_l (ly_mv rfl) (hd 68 rfl) ?_
  refine jom_callX Try.f111 hΓ (power_x b (l.length / 2) g hlb hb2 (by omega)) rfl Try.func111 rfl rfl (ovL_cons rfl ovL_nil) (.cons .i (.cons .q (.cons .q .nil))) (hd 69 rfl) ?_ (fun ch hp => by simp at hp)
  rintro y hy; injection hy with hy; subst hy; refine jom_l (ly_mv rfl) (hd 66 rfl) ?_; refine jom_l (ly_ext rfl rfl) (hd 70 rfl) ?_; refine jom_l (ly_ext rfl rfl) (hd 71 rfl) ?_; refine jom_l (ly_as rfl) (hd 14 rfl) ?_; refine jom_l (ly_as rfl) (hd 12 rfl) ?_; refine jom_nil ?_; refine jcm_seq ?_; refine jcm_toP hΓ rfl ?_
  intro Γ1 hN1 hds1 hL hR back backE
  have hd : ∀ d, Nat.blt d 89 = true → d < Γ1.N := fun d h => by rw [hN1]; exact hdM d h
  refine jcp_seq ?_; refine jc_region ?_; refine jo_l (ly_mv rfl) (hd 72 rfl) ?_; refine jo_l (ly_ff (ly_ne rfl rfl) (by decide)) (hd 73 rfl) ?_; refine jo_nil ?_; refine back _ _ _ _ rfl ?_
  have hd := hdM
  refine jcm_litf rfl ?_; refine jcm_skip ?_; refine jcm_toP hΓ rfl ?_
  intro Γ1 hN1 hds1 hL hR back backE
  have hd : ∀ d, Nat.blt d 89 = true → d < Γ1.N := fun d h => by rw [hN1]; exact hdM d h
  refine jcp_seq ?_; refine jc_region ?_; refine jo_l (ly_mv rfl) (hd 76 rfl) ?_; refine jo_l (ly_mv rfl) (hd 77 rfl) ?_
  refine jo_call Try.f61 (Mul_f (hv b (l.take (l.length - (l.length / 2)))) (PW b (l.length / 2)) hna hpn (by omega) (by omega) hfm) rfl Try.func61 rfl rfl (ovL_cons rfl (ovL_cons rfl ovL_nil)) (.cons .n (.cons .n .nil)) (hd 78 rfl) ?_ (fun ch hp => by simp at hp)
  rintro y hy; injection hy with hy; subst hy; refine jo_l (ly_mv rfl) (hd 75 rfl) ?_; refine jo_l (ly_ext rfl rfl) (hd 79 rfl) ?_; refine jo_l (ly_ext rfl rfl) (hd 80 rfl) ?_; refine jo_l (ly_as rfl) (hd 15 rfl) ?_; refine jo_l (ly_as rfl) (hd 12 rfl) ?_; refine jo_nil ?_; refine back _ _ _ _ rfl ?_
  have hd := hdM
  refine jcm_seq ?_; refine jcm_toP hΓ rfl ?_
  intro Γ1 hN1 hds1 hL hR back backE
  have hd : ∀ d, Nat.blt d 89 = true → d < Γ1.N := fun d h => by rw [hN1]; exact hdM d h
  refine jcp_seq ?_; refine jc_region ?_; refine jo_l (ly_mv rfl) (hd 81 rfl) ?_; refine jo_l (ly_ff (ly_ne rfl rfl) (by decide)) (hd 82 rfl) ?_; refine jo_nil ?_; refine back _ _ _ _ rfl ?_
  have hd := hdM
  refine jcm_litf rfl ?_; refine jcm_skip ?_; refine jcm_toP hΓ rfl ?_
  intro Γ1 hN1 hds1 hL hR back backE
  have hd : ∀ d, Nat.blt d 89 = true → d < Γ1.N := fun d h => by rw [hN1]; exact hdM d h
  refine jcp_seq ?_; refine jc_region ?_; refine jo_l (ly_mv rfl) (hd 84 rfl) ?_; refine jo_l (ly_mv rfl) (hd 85 rfl) ?_
  refine jo_call Try.f97 (Add_f (hv b (l.take (l.length - (l.length / 2))) * PW b (l.length / 2)) (hv b (l.drop (l.length - (l.length / 2)))) (Int.mul_nonneg hna hpn) hnb hfm (by omega) (by rw [← hsp]; omega)) rfl Try.func97 rfl rfl (ovL_cons rfl (ovL_cons rfl ovL_nil)) (.cons .n (.cons .n .nil)) (hd 86 rfl) ?_ (fun ch hp => by simp at hp)
  rintro y hy; injection hy with hy; subst hy; refine jo_l (ly_ext rfl rfl) (hd 87 rfl) ?_; refine jo_l (ly_ext rfl rfl) (hd 88 rfl) ?_; refine jo_l (ly_as rfl) (hd 5 rfl) ?_; refine jo_l (ly_as rfl) (hd 6 rfl) ?_; refine jo_nil ?_; refine back _ _ _ _ rfl ?_
  have hd := hdM
  refine jcm_ret fun a w s hg => ?_
  refine ⟨_, _, s, hg, (.cons rfl (.cons rfl .nil)), ?_⟩
  show Out.ret _ = Out.ret _; rw [hsp]; rfl

theorem part_x (b g : Nat) (hlb : 2 ≤ b) (hb2 : b ≤ 36) : ∀ (m : Nat) (l : List Int) (n : Nat) (hr : rng b l) (hl : l.length ≤ 1099511627776) (hv9 : lenV (hv b l) ≤ 67108864) (hk9 : lenV (PW b ((l.length + 1) / 2)) ≤ 67108864) (hn : l.length ≤ n) (hm : l.length < m), SpecX Try.prog 114 [.n false .i64 l, .q [.i .i64 (b : Int)], .q [cyc 114 [.q [.i .i64 (b : Int)]] [.q [.f 111 [.q [.c (.map (some g))], .q [.i .i64 (b : Int)]]]] n], .q [.f 111 [.q [.c (.map (some g))], .q [.i .i64 (b : Int)]]]] (cF b) g (fun o => o = .ret (.t [.n false .u64 (lm (hv b l)), .i .i64 0]))
  | 0, l, n, hr, hl, hv9, hk9, hn, hm => by omega
  | m + 1, l, n, hr, hl, hv9, hk9, hn, hm => by
    by_cases h : l.length ≤ 12
    · exact specX_of_spec (part_12 l b _ _ hlb hb2 hr h)
    · exact part_big b g hlb hb2 l n hr hl hv9 hk9 hn (by omega) fun l2 n2 h1 h2 h5 h6 h3 h4 => part_x b g hlb hb2 m l2 n2 h1 h2 h5 h6 h3 (by omega)

set_option maxHeartbeats 4000000 in
theorem build_s (l : List Int) (b : Nat) (hlb : 2 ≤ b) (hb2 : b ≤ 36) (hr : rng b l) (hl : l.length ≤ 1099511627776) (hv9 : lenV (hv b l) ≤ 67108864) : Spec Try.prog 67 [.n false .i64 l, .i .i64 (b : Int)] (fun o => o = .ret (.t [.n false .u64 (lm (hv b l)), .i .i64 0])) := by
  refine spec_of' [(0, .n false .i64 l), (1, .i .i64 (b : Int))] rfl Try.func67 rfl (Nat.le_of_ble_eq_true rfl) fun Γ hN hds hL hR => ?_
  have hd : ∀ d, Nat.blt d 31 = true → d < Γ.N := fun d h => by rw [hN]; exact Nat.le_of_ble_eq_true h
  refine jc_seq ?_; refine jc_region ?_; refine jo_h (hy_box (id := 0) (n := 1) rfl rfl rfl (by decide) rfl) (hd 3 rfl) ?_; refine jo_l (ly_as rfl) (hd 4 rfl) ?_; refine jo_l (ly_as rfl) (hd 5 rfl) ?_; refine jo_nil ?_
  refine jc_meetH (G := Nat) (fun i => i ≤ l.length ∧ hv b (l.drop i) = hv b l ∧ ((l.drop i).length = 0 ∨ (l.drop i).getD 0 0 ≠ 0)) (fun i => [(0, .n false .i64 (l.drop i)), (9, .u), (10, .u), (11, .u), (12, .u), (13, .u), (14, .u), (15, .u), (16, .u), (17, .u), (18, .u), (19, .u)]) ?_ ?_
  · refine jc_block ?_
    refine jc_loopF (G := Nat) (fun i => i ≤ l.length ∧ hv b (l.drop i) = hv b l) (fun i => [(0, .n false .i64 (l.drop i)), (9, .u), (10, .u), (11, .u), (12, .u), (13, .u), (14, .u), (15, .u), (16, .u), (17, .u), (18, .u), (19, .u)]) (fun _ => _) (fun i => l.length - i) 0 ?_ ?_ rfl ?_
    · exact ⟨Nat.zero_le _, rfl⟩
    · exact (.cons rfl (.u (.u (.u (.u (.u (.u (.u (.u (.u (.u (.u .nil))))))))))))
    · rintro i ⟨hi, hvi⟩
      have hld : (l.drop i).length = l.length - i := List.length_drop ..
      refine jc_seq ?_; refine jc_seq ?_; refine jc_region ?_; refine jo_l (ly_mv rfl) (hd 9 rfl) ?_; refine jo_l (ly_lenn sl1039 rfl) (hd 10 rfl) ?_; refine jo_l (ly_gt rfl rfl) (hd 11 rfl) ?_; refine jo_l (ly_mv rfl) (hd 12 rfl) ?_
      refine jo_ifp 12 rfl (fun h1 => ?_) (fun h1 => ?_)
      · refine jo_g 12 rfl rfl (ly_mv rfl) (hd 13 rfl) ?_; refine jo_g 12 rfl rfl (ly_ian (i := 0) sl1039 rfl rfl rfl (by omega)) (hd 14 rfl) ?_; refine jo_g 12 rfl rfl (ly_ldq one3 rfl rfl) (hd 15 rfl) ?_; refine jo_g 12 rfl rfl (ly_eq rfl rfl) (hd 16 rfl) ?_; refine jo_l (ly_pick_t rfl rfl) (hd 17 rfl) ?_; refine jo_nil ?_
        refine jc_if rfl (fun h2 => ?_) (fun h2 => ?_)
        · refine jc_skip ?_; refine jc_block ?_; refine jc_region ?_; refine jo_l (ly_mv rfl) (hd 18 rfl) ?_; refine jo_l (ly_sln sl1039 rfl (bnd_some' rfl rfl) bnd_none (.inl rfl) (by show 1 ≤ _; omega) (by omega)) (hd 19 rfl) ?_; refine jo_l (ly_as rfl) (hd 0 rfl) ?_; refine jo_nil ?_
          refine ⟨i + 1, ?_, ?_, rfl, cov_n 25 rfl rfl ?_⟩
          · exact ⟨by omega, hv_dropI (by assumption) hvi⟩
          · omega
          · exact (.cons (by show some (V.n _ _ _) = some (V.n _ _ _); rw [List.take_length, List.drop_drop]) (.u (.u (.u (.u (.u (.u (.u (.u (.u (.u (.u .nil))))))))))))
        · refine jc_exit ?_
          refine ⟨i, ?_, rfl, cov_n 22 rfl rfl ?_⟩
          · exact ⟨hi, hvi, by first | (left; omega) | (right; assumption)⟩
          · exact (.cons rfl (.u (.u (.u (.u (.u (.u (.u (.u (.u (.u (.u .nil))))))))))))
      · refine jo_s 12 rfl rfl rfl (hd 13 rfl) ?_; refine jo_s 12 rfl rfl rfl (hd 14 rfl) ?_; refine jo_s 12 rfl rfl rfl (hd 15 rfl) ?_; refine jo_s 12 rfl rfl rfl (hd 16 rfl) ?_; refine jo_l (ly_pick_f rfl rfl) (hd 17 rfl) ?_; refine jo_nil ?_; refine jc_litf rfl ?_; refine jc_exit ?_
        refine ⟨i, ?_, rfl, cov_n 22 rfl rfl ?_⟩
        · exact ⟨hi, hvi, by first | (left; omega) | (right; assumption)⟩
        · exact (.cons rfl (.u (.u (.u (.u (.u (.u (.u (.u (.u (.u (.u .nil))))))))))))
  · rintro i ⟨hi, hvi, hdi⟩
    have hld : (l.drop i).length = l.length - i := List.length_drop ..
    have hv9i : lenV (hv b (l.drop i)) ≤ 67108864 := by rw [hvi]; exact hv9
    have hlli := lead_len hlb (rng_drop hr i) hv9i hdi
    have hk9 := lead_fit hlb hb2 (rng_drop hr i) hv9i hdi
    refine jc_seq ?_; refine jc_seq ?_; refine jc_region ?_; refine jo_l (ly_mv rfl) (hd 20 rfl) ?_; refine jo_l (ly_lenn sl1039 rfl) (hd 21 rfl) ?_; refine jo_l (ly_ff (ly_gt rfl rfl) (by omega)) (hd 22 rfl) ?_; refine jo_nil ?_; refine jc_litf rfl ?_; refine jc_skip ?_; refine jc_frzp 3 rfl rfl rfl rfl hL ?_; refine jc_keep (F' := [(0, _), (3, _)]) (.cons rfl (.cons rfl .nil)) ?_
    have hd0 := hd
    have hLo := hL
    have hRo := hR
    refine jc_enterM2 (cF b) (hd 23 rfl) rfl rfl hR ?_
    intro Γ' Γ1 g hN1 hds1 hL hR hN' hΓ hreb back
    have hdM : ∀ d, Nat.blt d 31 = true → d < Γ'.N := fun d h => by rw [hN']; exact hd0 d h
    have hd : ∀ d, Nat.blt d 31 = true → d < Γ1.N := fun d h => by rw [hN1]; exact hd0 d h
    refine jo_h (hy_alloc (id := 0) zero1138 (by decide) rfl (by decide) rfl) (hd 6 rfl) ?_; refine jo_st (sy_store rfl rfl rfl siz1138 rfl rfl (Nat.le_of_ble_eq_true rfl)) ?_; refine jo_nil ?_; refine jcp_seq ?_; refine jc_region ?_; refine jo_h (hy_alloc (id := 1) zero1139 (by decide) rfl (by decide) rfl) (hd 7 rfl) ?_; refine jo_nil ?_; refine jcp_frzp 6 rfl rfl rfl rfl hL ?_; refine jcp_seq ?_; refine jc_region ?_; refine jo_l (ly_mf (ovL_cons rfl (ovL_cons rfl ovL_nil))) (hd 24 rfl) ?_; refine jo_st (sy_store rfl rfl rfl siz1139 rfl rfl (Nat.le_of_ble_eq_true rfl)) ?_; refine jo_nil ?_; refine jcp_seq ?_; refine jc_region ?_; refine jo_h (hy_alloc (id := 2) zero1143 (by decide) rfl (by decide) rfl) (hd 8 rfl) ?_; refine jo_nil ?_; refine jcp_frzF 7 rfl rfl rfl hL ?_; refine jcp_seq ?_; refine jc_region ?_; refine jo_l (ly_mf (ovL_cons rfl (ovL_cons rfl (ovL_cons rfl ovL_nil)))) (hd 25 rfl) ?_; refine jo_st (sy_store rfl rfl rfl siz1143 rfl rfl (Nat.le_of_ble_eq_true rfl)) ?_; refine jo_nil ?_; refine jcp_cyc 8 [.q [.i .i64 (b : Int)]] [.q [.f 111 [.q [.c (.map (some g))], .q [.i .i64 (b : Int)]]]] (l.length + 1) rfl rfl rfl rfl hL ?_; refine jcp_keep (F' := [(0, _), (8, _)]) (.cons rfl (.cons rfl .nil)) ?_; refine back _ _ _ _ rfl ?_
    have hd := hdM
    refine jcm_seq ?_; refine jcm_region ?_; refine jom_l (ly_ldqf one1143 rfl rfl) (hd 26 rfl) ?_; refine jom_l (ly_mv rfl) (hd 27 rfl) ?_
    refine jom_callX Try.f114 hΓ (part_x b g hlb hb2 (l.length + 1) (l.drop i) l.length (rng_drop hr i) (by omega) hv9i hk9 (by omega) (by omega)) rfl Try.func114 rfl rfl (ovL_cons rfl ovL_nil) (.cons .n (.cons .q (.cons .q (.cons .q .nil)))) (hd 28 rfl) ?_ (fun ch hp => by simp at hp)
    rintro y hy; injection hy with hy; subst hy; refine jom_l (ly_ext rfl rfl) (hd 29 rfl) ?_; refine jom_l (ly_ext rfl rfl) (hd 30 rfl) ?_; refine jom_l (ly_as rfl) (hd 4 rfl) ?_; refine jom_l (ly_as rfl) (hd 5 rfl) ?_; refine jom_nil ?_; refine jcm_ret fun a w s hg => ?_
    refine ⟨_, [], ?_, [], hreb _ _ _ s⟩
    refine ⟨_, _, (.cons rfl (.cons rfl .nil)), (.t1 .nn (.t1 .i .t0)), ?_⟩
    rw [hvi]
end Go.Proofs.Ytcfdclehmpfkcaa.Vc

/- The contract of surdlaw05.NumeralBack. -/
namespace Go.Proofs.Ytcfdclehmpfkcaa.Vc
open Go Go.RowKit
theorem Parse_t (l : List Int) (b : Nat) (hlb : 2 ≤ b) (hb2 : b ≤ 36) (hr : rng b l) (h0 : l ≠ []) (hl : l.length ≤ 1073741824) (hv9 : lenV (hv b l) ≤ 67108864) : Spec Try.prog 16 [.s (txt l), .i .i64 (b : Int)] (fun o => o = .ret (.t [.n false .u64 (lm (hv b l)), .i .i64 0])) := by
  have e : dgs (txt l) = l := dgs_txt (rng36 hb2 hr)
  have h1 := List.length_pos_iff.2 h0
  refine Parse_k (txt l) b _ 0 hlb hb2 (by rw [txt_size]; omega) (by rw [txt_size]; omega) (fun i hi => ?_) (by rw [e]; exact build_s l b hlb hb2 hr (by omega) hv9)
  have h := dgs_getD hi
  rw [e] at h
  rw [← h]
  exact (rng_getD (by omega) hr i).2

end Go.Proofs.Ytcfdclehmpfkcaa.Vc

/- Contracts of whole.Print, whole.Parse. -/
namespace Go.Proofs.Ytcfdclehmpfkcaa.Vc
open Go Go.RowKit
end Go.Proofs.Ytcfdclehmpfkcaa.Vc

/- The contract of surdlaw06.WholeBack. -/
namespace Go.Proofs.Ytcfdclehmpfkcaa.Vc
open Go Go.RowKit
theorem Parse_d (l : List Int) (hr : rng 10 l) (h0 : l ≠ []) (hl : l.length ≤ 1073741824) (hv9 : lenV (hv 10 l) ≤ 67108864) : Spec Try.prog 16 [.s (txt l), .i .i64 10] (fun o => o = .ret (.t [.n false .u64 (lm (hv 10 l)), .i .i64 0])) := Parse_t l 10 (by decide) (by decide) hr h0 hl hv9
end Go.Proofs.Ytcfdclehmpfkcaa.Vc

/- nat.Add with an own row. -/
namespace Go.Proofs.Ytcfdclehmpfkcaa.Vc
open Go Go.RowKit
end Go.Proofs.Ytcfdclehmpfkcaa.Vc

/- numeral.build with an own row. -/
namespace Go.Proofs.Ytcfdclehmpfkcaa.Vc
open Go Go.RowKit
end Go.Proofs.Ytcfdclehmpfkcaa.Vc

/- Contracts of surdlaw05.same, numeral.Build, surdref05.Build. -/
namespace Go.Proofs.Ytcfdclehmpfkcaa.Vc
open Go Go.RowKit
end Go.Proofs.Ytcfdclehmpfkcaa.Vc

/- Contracts of numeral.Parse with an own row, surdref05.Parse. -/
namespace Go.Proofs.Ytcfdclehmpfkcaa.Vc
open Go Go.RowKit
end Go.Proofs.Ytcfdclehmpfkcaa.Vc

/- Contracts of surdref06.Digits, Number. -/
namespace Go.Proofs.Ytcfdclehmpfkcaa.Vc
open Go Go.RowKit
end Go.Proofs.Ytcfdclehmpfkcaa.Vc

/- Contract of surdref06.Parse. -/
namespace Go.Proofs.Ytcfdclehmpfkcaa.Vc
open Go Go.RowKit
end Go.Proofs.Ytcfdclehmpfkcaa.Vc

/- Contract of surdref06.Print. -/
namespace Go.Proofs.Ytcfdclehmpfkcaa.Vc
open Go Go.RowKit
end Go.Proofs.Ytcfdclehmpfkcaa.Vc

/- Contracts of whole.Parse with an own row. -/
namespace Go.Proofs.Ytcfdclehmpfkcaa.Vc
open Go Go.RowKit
end Go.Proofs.Ytcfdclehmpfkcaa.Vc

/- The contract of surdlaw06.WholeTexts. -/
namespace Go.Proofs.Ytcfdclehmpfkcaa.Vc
open Go Go.RowKit
end Go.Proofs.Ytcfdclehmpfkcaa.Vc

/- Contract of surdtop.put. -/
namespace Go.Proofs.Ytcfdclehmpfkcaa.Vc
open Go Go.RowKit
set_option maxHeartbeats 4000000 in
theorem put_s (v : Int) (h0 : -9223372036854775808 ≤ v) (h9 : v < 9223372036854775808) : Spec Try.prog 58 [.i .i64 v, .i .i64 2, .i .i64 60] (fun o => ∃ b : Nat, 2 ≤ b ∧ b ≤ 60 ∧ o = .ret (.i .i64 (b : Int))) := by
  refine spec_of' [(0, .i .i64 v), (1, .i .i64 2), (2, .i .i64 60)] rfl Try.func58 rfl (Nat.le_of_ble_eq_true rfl) fun Γ hN hds hL hR => ?_
  have hd : ∀ d, Nat.blt d 24 = true → d < Γ.N := fun d h => by rw [hN]; exact Nat.le_of_ble_eq_true h
  have h1 := Int.tmod_lt_of_pos v (show (0 : Int) < 59 by decide)
  have h2 : -59 < v.tmod 59 := by have := Int.lt_tmod_of_pos v (show (0 : Int) < 59 by decide); omega
  refine jc_seq ?_; refine jc_region ?_; refine jo_l (ly_as rfl) (hd 6 rfl) ?_; refine jo_nil ?_; refine jc_seq ?_; refine jc_region ?_; refine jo_l (ly_mv rfl) (hd 7 rfl) ?_; refine jo_l (ly_mv rfl) (hd 8 rfl) ?_; refine jo_l (ly_mv rfl) (hd 9 rfl) ?_; refine jo_l (ly_sub rfl rfl (r := 58) rfl) (hd 10 rfl) ?_; refine jo_l (ly_add rfl rfl (r := 59) rfl) (hd 11 rfl) ?_; refine jo_l (ly_rem rfl rfl (by decide) rfl) (hd 12 rfl) ?_; refine jo_l (ly_as rfl) (hd 0 rfl) ?_; refine jo_nil ?_; refine jc_seq ?_; refine jc_seq ?_; refine jc_region ?_; refine jo_l (ly_mv rfl) (hd 13 rfl) ?_; refine jo_l (ly_lt rfl rfl) (hd 14 rfl) ?_; refine jo_nil ?_
  refine jc_if rfl (fun h1 => ?_) (fun h1 => ?_)
  · refine jc_region ?_; refine jo_l (ly_mv rfl) (hd 15 rfl) ?_; refine jo_l (ly_mv rfl) (hd 16 rfl) ?_; refine jo_l (ly_mv rfl) (hd 17 rfl) ?_; refine jo_l (ly_sub rfl rfl (r := 58) rfl) (hd 18 rfl) ?_; refine jo_l (ly_add rfl rfl (r := 59) rfl) (hd 19 rfl) ?_; refine jo_l (ly_add rfl rfl (r := v.tmod 59 + 59) (wrap_i64 (by omega) (by omega))) (hd 20 rfl) ?_; refine jo_l (ly_as rfl) (hd 0 rfl) ?_; refine jo_nil ?_; refine jc_seq ?_; refine jc_region ?_; refine jo_l (ly_mv rfl) (hd 21 rfl) ?_; refine jo_l (ly_mv rfl) (hd 22 rfl) ?_; refine jo_l (ly_add rfl rfl (wrap_i64 (by omega) (by omega))) (hd 23 rfl) ?_; refine jo_l (ly_as rfl) (hd 6 rfl) ?_; refine jo_nil ?_; refine jc_ret ?_
    refine ⟨_, _, (.cons rfl .nil), .i, ?_⟩
    refine ⟨(_ : Int).toNat, ?_, ?_, congrArg (fun z => Out.ret (V.i .i64 z)) (Int.toNat_of_nonneg ?_).symm⟩ <;> omega
  · refine jc_skip ?_; refine jc_seq ?_; refine jc_region ?_; refine jo_l (ly_mv rfl) (hd 21 rfl) ?_; refine jo_l (ly_mv rfl) (hd 22 rfl) ?_; refine jo_l (ly_add rfl rfl (wrap_i64 (by omega) (by omega))) (hd 23 rfl) ?_; refine jo_l (ly_as rfl) (hd 6 rfl) ?_; refine jo_nil ?_; refine jc_ret ?_
    refine ⟨_, _, (.cons rfl .nil), .i, ?_⟩
    refine ⟨(_ : Int).toNat, ?_, ?_, congrArg (fun z => Out.ret (V.i .i64 z)) (Int.toNat_of_nonneg ?_).symm⟩ <;> omega
end Go.Proofs.Ytcfdclehmpfkcaa.Vc

/- Contract of nat.Times. -/
namespace Go.Proofs.Ytcfdclehmpfkcaa.Vc
open Go Go.RowKit
set_option maxHeartbeats 4000000 in
theorem Times_v (x m : Int) (hx0 : 0 ≤ x) (hx9 : lenV x ≤ 67108864) (hm0 : 0 ≤ m) (hm1 : m < 18446744073709551616) (hf9 : lenV (x * m) ≤ 67108864) : Spec Try.prog 161 [.n false .u64 (lm x), .i .u64 m] (fun o => o = .ret (.t [.n false .u64 (lm (x * m)), .i .i64 0])) := by
  refine spec_of' [(0, .n false .u64 (lm x)), (1, .i .u64 m)] rfl Try.func161 rfl (Nat.le_of_ble_eq_true rfl) fun Γ hN hds hL hR => ?_
  have hd : ∀ d, Nat.blt d 56 = true → d < Γ.N := fun d h => by rw [hN]; exact Nat.le_of_ble_eq_true h
  have hlx := lenV_lm hx9
  have ua := lm_u x
  have hTr : Spec Try.prog 71 [.n false .u64 (lm x)] (fun o => o = .ret (.n false .u64 (lm x))) := by have h := trim_s (lm x) (by omega); rwa [trm_id (lm_t x)] at h
  refine jc_seq ?_; refine jc_region ?_; refine jo_l (ly_as rfl) (hd 4 rfl) ?_; refine jo_l (ly_as rfl) (hd 5 rfl) ?_; refine jo_nil ?_; refine jc_seq ?_; refine jc_region ?_; refine jo_l (ly_mv rfl) (hd 14 rfl) ?_
  refine jo_call Try.f71 (hTr) rfl Try.func71 rfl rfl (ovL_cons rfl ovL_nil) (.cons .n .nil) (hd 15 rfl) ?_ (fun ch hp => by simp at hp)
  rintro y hy; injection hy with hy; subst hy; refine jo_l (ly_as rfl) (hd 0 rfl) ?_; refine jo_nil ?_; refine jc_seq ?_; refine jc_region ?_; refine jo_l (ly_mv rfl) (hd 16 rfl) ?_; refine jo_l (ly_lenn sl28 rfl) (hd 17 rfl) ?_; refine jo_l (ly_add rfl rfl (r := (((lm x).length + 1 : Nat) : Int)) (by rw [wrap_i64 (by omega) (by omega)]; omega)) (hd 18 rfl) ?_; refine jo_h (hy_mk (m := (lm x).length + 1) el28 rfl rfl rfl (by show 8 * ((lm x).length + 1) ≤ _; omega) (by unfold maxLen; omega) rfl) (hd 19 rfl) ?_; refine jo_l (ly_as rfl) (hd 6 rfl) ?_; refine jo_nil ?_; refine jc_seq ?_; refine jc_region ?_; refine jo_l (ly_as rfl) (hd 7 rfl) ?_; refine jo_nil ?_; refine jc_seq ?_; refine jc_seq ?_; refine jc_region ?_; refine jo_l (ly_mv rfl) (hd 20 rfl) ?_; refine jo_l (ly_lenn sl28 rfl) (hd 21 rfl) ?_; refine jo_l (ly_mv rfl) (hd 22 rfl) ?_; refine jo_nil ?_; refine jc_block ?_
  refine jc_loopF (G := Nat) (fun i => i ≤ (lm x).length) (fun i => [(7, .i .u64 (lbN (lm x) m i).2), (22, .i .i64 (i : Int)), (8, .u), (9, .u), (10, .u), (11, .u), (12, .u), (13, .u), (23, .u), (24, .u), (25, .u), (26, .u), (27, .u), (28, .u), (29, .u), (30, .u), (31, .u), (32, .u), (33, .u), (34, .u), (35, .u), (36, .u), (37, .u), (38, .u), (39, .u), (40, .u), (41, .u), (42, .u), (43, .u), (44, .u), (45, .u), (46, .u)]) (fun i => [⟨90, 1, 0, true, ints .u64 (fillI (lbN (lm x) m i).1 ((lm x).length + 1))⟩]) (fun i => (lm x).length - i) 0 ?_ ?_ rfl ?_
  · exact Nat.zero_le _
  · exact (.cons rfl (.cons rfl (.u (.u (.u (.u (.u (.u (.u (.u (.u (.u (.u (.u (.u (.u (.u (.u (.u (.u (.u (.u (.u (.u (.u (.u (.u (.u (.u (.u (.u (.u .nil))))))))))))))))))))))))))))))))
  · rintro i hc1
    have hf : (fillI (lbN (lm x) m i).1 ((lm x).length + 1)).length = (lm x).length + 1 := fillI_len (by rw [lbN_len]; omega)
    have hc := lbN_c ua hm0 hm1 i
    have hx := u64s_getD ua i
    have hp := mul_lt hx.1 hx.2 hm0 hm1
    refine jc_seq ?_; refine jc_region ?_; refine jo_l (ly_lt rfl rfl) (hd 23 rfl) ?_; refine jo_nil ?_; refine jc_seq ?_
    refine jc_if rfl (fun h1 => ?_) (fun h1 => ?_)
    · refine jc_skip ?_; refine jc_seq ?_; refine jc_block ?_; refine jc_seq ?_; refine jc_region ?_; refine jo_l (ly_mv rfl) (hd 24 rfl) ?_; refine jo_l (ly_ian (i := i) sl28 rfl rfl (by first | rfl | omega) (by omega)) (hd 25 rfl) ?_; refine jo_l (ly_ldq one82 rfl rfl) (hd 26 rfl) ?_; refine jo_l (ly_as rfl) (hd 8 rfl) ?_; refine jo_l (ly_as rfl) (hd 9 rfl) ?_; refine jo_nil ?_; refine jc_seq ?_; refine jc_region ?_; refine jo_l (ly_mv rfl) (hd 28 rfl) ?_; refine jo_l (ly_mv rfl) (hd 29 rfl) ?_
      refine jo_call Try.f136 (Mul64_s ((lm x).getD i 0) m hx.1 hx.2 hm0 hm1) rfl Try.func136 rfl rfl (ovL_cons rfl (ovL_cons rfl ovL_nil)) (.cons .i (.cons .i .nil)) (hd 30 rfl) ?_ (fun ch hp => by simp at hp)
      rintro y hy; injection hy with hy; subst hy; refine jo_l (ly_mv rfl) (hd 27 rfl) ?_; refine jo_l (ly_ext rfl rfl) (hd 31 rfl) ?_; refine jo_l (ly_ext rfl rfl) (hd 32 rfl) ?_; refine jo_l (ly_as rfl) (hd 10 rfl) ?_; refine jo_l (ly_as rfl) (hd 11 rfl) ?_; refine jo_nil ?_; refine jc_seq ?_; refine jc_region ?_; refine jo_l (ly_mv rfl) (hd 34 rfl) ?_; refine jo_l (ly_mv rfl) (hd 35 rfl) ?_; refine jo_h (hy_ext3 (e := add64Entry) Try.func126 rfl rfl (by kernel_rfl) (by kernel_rfl) rfl rfl rfl (fun w => run_add64 _ _ _ (Int.emod_nonneg _ (by decide)) hc.1 (by decide) (by decide) w) rel_pair) (hd 36 rfl) ?_; refine jo_l (ly_mv rfl) (hd 33 rfl) ?_; refine jo_l (ly_is (ly_ext rfl rfl) (show V.i .u64 _ = V.i .u64 ((((lm x).getD i 0 * m % 18446744073709551616 + (lbN (lm x) m i).2) % 18446744073709551616)) from congrArg (V.i .u64) (by rw [Int.add_zero]))) (hd 37 rfl) ?_; refine jo_l (ly_ext rfl rfl) (hd 38 rfl) ?_; refine jo_l (ly_as rfl) (hd 12 rfl) ?_; refine jo_l (ly_as rfl) (hd 13 rfl) ?_; refine jo_nil ?_; refine jc_seq ?_; refine jc_region ?_; refine jo_l (ly_mv rfl) (hd 39 rfl) ?_; refine jo_l (ly_mv rfl) (hd 40 rfl) ?_; refine jo_l (ly_mv rfl) (hd 41 rfl) ?_; refine jo_l (ly_ia (i := i) sl28 rfl rfl rfl (by first | rfl | omega) (by omega) rfl) (hd 42 rfl) ?_; refine jo_st (sy_storei rfl rfl rfl one82 (by omega)) ?_; refine jo_nil ?_; refine jc_region ?_; refine jo_l (ly_mv rfl) (hd 43 rfl) ?_; refine jo_l (ly_mv rfl) (hd 44 rfl) ?_; refine jo_l (ly_add rfl rfl (r := ((lm x).getD i 0 * m / 18446744073709551616 + ((lm x).getD i 0 * m % 18446744073709551616 + (lbN (lm x) m i).2) / 18446744073709551616)) (by rw [Int.add_zero]; exact wrap_u64 (by omega) (by omega))) (hd 45 rfl) ?_; refine jo_l (ly_as rfl) (hd 7 rfl) ?_; refine jo_nil ?_; refine jc_region ?_; refine jo_l (ly_add rfl rfl (wrap_i64 (by omega) (by omega))) (hd 46 rfl) ?_; refine jo_l (ly_mv rfl) (hd 22 rfl) ?_; refine jo_nil ?_
      refine ⟨i + 1, ?_, ?_, (by show [(⟨90, 1, 0, true, ints .u64 _⟩ : Ob)] = [⟨90, 1, 0, true, ints .u64 _⟩]; rw [lb_set (by omega)]), cov_n 64 rfl rfl ?_⟩
      · omega
      · omega
      · exact (.cons rfl (.cons rfl (.u (.u (.u (.u (.u (.u (.u (.u (.u (.u (.u (.u (.u (.u (.u (.u (.u (.u (.u (.u (.u (.u (.u (.u (.u (.u (.u (.u (.u (.u .nil))))))))))))))))))))))))))))))))
    · obtain rfl : i = (lm x).length := by omega
      refine jc_exit ?_; refine jc_seq ?_; refine jc_region ?_; refine jo_l (ly_mv rfl) (hd 47 rfl) ?_; refine jo_l (ly_mv rfl) (hd 48 rfl) ?_; refine jo_l (ly_lenn sl28 rfl) (hd 49 rfl) ?_; refine jo_l (ly_mv rfl) (hd 50 rfl) ?_; refine jo_l (ly_ia (i := (lm x).length) sl28 rfl rfl rfl (by first | rfl | omega) (by omega) rfl) (hd 51 rfl) ?_; refine jo_st (sy_storei rfl rfl rfl one82 (by omega)) ?_; refine jo_nil ?_; refine jc_seq ?_; refine jc_frz (k := .u64) (l' := lbL (lm x) m) 6 rfl rfl (by rw [fill_last (lbN_len _ _ _)]; simp [lbN_len]) (by rw [fill_last (lbN_len _ _ _), List.drop_zero, List.take_of_length_le (by simp [lbN_len])]; rfl) hL ?_
      have hlb := lb_trm ua hm0 hm1
      rw [vl_lm hx0] at hlb
      refine jc_region ?_; refine jo_l (ly_mv rfl) (hd 52 rfl) ?_
      refine jo_call Try.f127 (told_ok (lbL (lm x) m) (by unfold lbL; simp only [List.length_append, lbN_len, List.length_singleton]; omega) (by have hcc := lbN_c ua hm0 hm1 (lm x).length; exact u64s_app1 (lbN_u _ m _) hcc.1 hcc.2) (by rw [hlb, lenN_lm]; exact hf9)) rfl Try.func127 rfl rfl (ovL_cons rfl ovL_nil) (.cons .n .nil) (hd 53 rfl) ?_ (fun ch hp => by simp at hp)
      rintro y hy; injection hy with hy; subst hy; refine jo_l (ly_ext rfl rfl) (hd 54 rfl) ?_; refine jo_l (ly_ext rfl rfl) (hd 55 rfl) ?_; refine jo_l (ly_as rfl) (hd 4 rfl) ?_; refine jo_l (ly_as rfl) (hd 5 rfl) ?_; refine jo_nil ?_; refine jc_ret ?_
      refine ⟨_, _, (.cons rfl (.cons rfl .nil)), (.t1 .n (.t1 .i .t0)), ?_⟩
      rw [hlb]
end Go.Proofs.Ytcfdclehmpfkcaa.Vc

/- Contracts of nat.Left of 1, roots.newton. -/
namespace Go.Proofs.Ytcfdclehmpfkcaa.Vc
open Go Go.RowKit
set_option maxHeartbeats 4000000 in
theorem Left_p (n : Nat) (hn9 : n + 1 ≤ 67108864) : Spec Try.prog 163 [.n false .u64 [1], .i .i64 (n : Int)] (fun o => o = .ret (.t [.n false .u64 (lm ((2 ^ n : Nat) : Int)), .i .i64 0])) := by
  refine spec_of' [(0, .n false .u64 [1]), (1, .i .i64 (n : Int))] rfl Try.func163 rfl (Nat.le_of_ble_eq_true rfl) fun Γ hN hds hL hR => ?_
  have hd : ∀ d, Nat.blt d 73 = true → d < Γ.N := fun d h => by rw [hN]; exact Nat.le_of_ble_eq_true h
  have hp64 := two64 n
  have hT1 : Spec Try.prog 71 [.n false .u64 [1]] (fun o => o = .ret (.n false .u64 [1])) := by have h := trim_s [1] (by decide); rwa [show trm [1] = [1] by decide] at h
  have hT8 : Spec Try.prog 71 [.n false .u64 (twoL n)] (fun o => o = .ret (.n false .u64 (lm ((2 ^ n : Nat) : Int)))) := by have h := trim_s (twoL n) (by rw [twoL_len]; omega); rwa [twoL_trm] at h
  have hLn : Spec Try.prog 33 [.n false .u64 [1]] (fun o => o = .ret (.i .i64 1)) := by have h := Length_s [1] (by decide) (u64s1 (by decide) (by decide)); rwa [show ((lenN [1] : Nat) : Int) = 1 by decide +kernel] at h
  refine jc_seq ?_; refine jc_region ?_; refine jo_l (ly_as rfl) (hd 4 rfl) ?_; refine jo_l (ly_as rfl) (hd 5 rfl) ?_; refine jo_nil ?_; refine jc_seq ?_; refine jc_seq ?_; refine jc_region ?_; refine jo_l (ly_mv rfl) (hd 11 rfl) ?_; refine jo_l (ly_ff (ly_lt rfl rfl) (by omega)) (hd 12 rfl) ?_; refine jo_l (ly_mv rfl) (hd 13 rfl) ?_; refine jo_g 13 rfl rfl (ly_mv rfl) (hd 14 rfl) ?_; refine jo_g 13 rfl rfl (ly_ff (ly_gt rfl rfl) (by omega)) (hd 15 rfl) ?_; refine jo_l (ly_pick_f rfl rfl) (hd 16 rfl) ?_; refine jo_nil ?_; refine jc_litf rfl ?_; refine jc_skip ?_; refine jc_seq ?_; refine jc_region ?_; refine jo_l (ly_mv rfl) (hd 17 rfl) ?_
  refine jo_call Try.f71 (hT1) rfl Try.func71 rfl rfl (ovL_cons rfl ovL_nil) (.cons .n .nil) (hd 18 rfl) ?_ (fun ch hp => by simp at hp)
  rintro y hy; injection hy with hy; subst hy; refine jo_l (ly_as rfl) (hd 0 rfl) ?_; refine jo_nil ?_; refine jc_seq ?_; refine jc_seq ?_; refine jc_region ?_; refine jo_l (ly_mv rfl) (hd 19 rfl) ?_; refine jo_l (ly_lenn sl28 rfl) (hd 20 rfl) ?_; refine jo_l (ly_ff (ly_eq rfl rfl) (by decide)) (hd 21 rfl) ?_; refine jo_nil ?_; refine jc_litf rfl ?_; refine jc_skip ?_; refine jc_seq ?_; refine jc_seq ?_; refine jc_region ?_; refine jo_l (ly_mv rfl) (hd 22 rfl) ?_
  refine jo_call Try.f33 (hLn) rfl Try.func33 rfl rfl (ovL_cons rfl ovL_nil) (.cons .n .nil) (hd 23 rfl) ?_ (fun ch hp => by simp at hp)
  rintro y hy; injection hy with hy; subst hy; refine jo_l (ly_mv rfl) (hd 24 rfl) ?_; refine jo_l (ly_add rfl rfl (r := ((n + 1 : Nat) : Int)) (by rw [wrap_i64 (by omega) (by omega)]; omega)) (hd 25 rfl) ?_; refine jo_l (ly_ff (ly_gt rfl rfl) (by omega)) (hd 26 rfl) ?_; refine jo_nil ?_; refine jc_litf rfl ?_; refine jc_skip ?_; refine jc_seq ?_; refine jc_region ?_; refine jo_l (ly_mv rfl) (hd 27 rfl) ?_; refine jo_l (ly_quo rfl rfl (by decide) (r := ((n / 64 : Nat) : Int)) (by rw [show ((n : Int).tdiv 64) = ((n / 64 : Nat) : Int) from rfl, wrap_i64 (by omega) (by omega)])) (hd 28 rfl) ?_; refine jo_l (ly_mv rfl) (hd 29 rfl) ?_; refine jo_l (ly_is (ly_rem rfl rfl (by decide) rfl) (show V.i .i64 ((n : Int).tmod 64) = V.i .i64 ((n % 64 : Nat) : Int) from rfl)) (hd 30 rfl) ?_; refine jo_l (ly_conv und3 und116 rfl (r := ((n % 64 : Nat) : Int)) (wrap_u64 (by omega) (by omega))) (hd 31 rfl) ?_; refine jo_l (ly_as rfl) (hd 6 rfl) ?_; refine jo_l (ly_as rfl) (hd 7 rfl) ?_; refine jo_nil ?_; refine jc_seq ?_; refine jc_region ?_; refine jo_l (ly_mv rfl) (hd 32 rfl) ?_; refine jo_l (ly_mv rfl) (hd 33 rfl) ?_; refine jo_l (ly_lenn sl28 rfl) (hd 34 rfl) ?_; refine jo_l (ly_add rfl rfl (r := ((n / 64 + 1 : Nat) : Int)) (by show IntKind.i64.wrap (((n / 64 : Nat) : Int) + 1) = _; rw [wrap_i64 (by omega) (by omega)]; omega)) (hd 35 rfl) ?_; refine jo_l (ly_add rfl rfl (r := ((n / 64 + 2 : Nat) : Int)) (by rw [wrap_i64 (by omega) (by omega)]; omega)) (hd 36 rfl) ?_; refine jo_h (hy_mk (m := n / 64 + 2) el28 rfl rfl rfl (by show 8 * (n / 64 + 2) ≤ _; omega) (by unfold maxLen; omega) rfl) (hd 37 rfl) ?_; refine jo_l (ly_as rfl) (hd 8 rfl) ?_; refine jo_nil ?_; refine jc_seq ?_; refine jc_seq ?_; refine jc_H (H' := [⟨90, 1, 0, true, ints .u64 (twoS n 0)⟩]) (by show [(⟨90, 1, 0, true, ints .u64 _⟩ : Ob)] = [⟨90, 1, 0, true, ints .u64 _⟩]; rw [twoS_00]) ?_; refine jc_region ?_; refine jo_l (ly_mv rfl) (hd 38 rfl) ?_; refine jo_l (ly_lenn sl28 rfl) (hd 39 rfl) ?_; refine jo_l (ly_mv rfl) (hd 40 rfl) ?_; refine jo_nil ?_; refine jc_block ?_
  refine jc_loopF (G := Nat) (fun i => i ≤ 1) (fun i => [(40, .i .i64 (i : Int)), (9, .u), (10, .u), (41, .u), (42, .u), (43, .u), (44, .u), (45, .u), (46, .u), (47, .u), (48, .u), (49, .u), (50, .u), (51, .u), (52, .u), (53, .u), (54, .u), (55, .u), (56, .u), (57, .u), (58, .u), (59, .u), (60, .u), (61, .u), (62, .u), (63, .u), (64, .u), (65, .u), (66, .u), (67, .u), (68, .u), (69, .u), (70, .u)]) (fun i => [⟨90, 1, 0, true, ints .u64 (twoS n i)⟩]) (fun i => 1 - i) 0 ?_ ?_ rfl ?_
  · exact Nat.zero_le _
  · exact (.cons rfl (.u (.u (.u (.u (.u (.u (.u (.u (.u (.u (.u (.u (.u (.u (.u (.u (.u (.u (.u (.u (.u (.u (.u (.u (.u (.u (.u (.u (.u (.u (.u (.u .nil)))))))))))))))))))))))))))))))))
  · rintro i hi; refine jc_seq ?_; refine jc_region ?_; refine jo_l (ly_lt rfl rfl) (hd 41 rfl) ?_; refine jo_nil ?_; refine jc_seq ?_
    refine jc_if rfl (fun h4 => ?_) (fun h4 => ?_)
    · obtain rfl : i = 0 := (by have h9 : (i : Int) < (([1] : List Int).length : Int) := h4; simp at h9; omega)
      refine jc_skip ?_; refine jc_seq ?_; refine jc_block ?_; refine jc_seq ?_; refine jc_region ?_; refine jo_l (ly_mv rfl) (hd 42 rfl) ?_; refine jo_l (ly_ian (i := 0) sl28 rfl rfl (by first | rfl | omega) (by omega)) (hd 43 rfl) ?_; refine jo_l (ly_ldq one82 rfl rfl) (hd 44 rfl) ?_; refine jo_l (ly_as rfl) (hd 9 rfl) ?_; refine jo_l (ly_as rfl) (hd 10 rfl) ?_; refine jo_nil ?_; refine jc_seq ?_; refine jc_region ?_; refine jo_l (ly_mv rfl) (hd 45 rfl) ?_; refine jo_l (ly_mv rfl) (hd 46 rfl) ?_; refine jo_l (ly_mv rfl) (hd 47 rfl) ?_; refine jo_l (ly_add rfl rfl (r := ((n / 64 : Nat) : Int)) (by show IntKind.i64.wrap (((n / 64 : Nat) : Int) + 0) = _; rw [wrap_i64 (by omega) (by omega)]; omega)) (hd 48 rfl) ?_; refine jo_l (ly_ia (i := n / 64) sl28 rfl rfl rfl (by first | rfl | omega) (by omega) rfl) (hd 49 rfl) ?_; refine jo_l (ly_is (ly_ldi one82 rfl rfl (by rw [twoS_len]; omega)) (show V.i .u64 _ = V.i .u64 (0) from congrArg (V.i .u64) twoS_0)) (hd 50 rfl) ?_; refine jo_l (ly_mv rfl) (hd 51 rfl) ?_; refine jo_l (ly_mv rfl) (hd 52 rfl) ?_; refine jo_l (ly_is (ly_shl rfl rfl (by omega) rfl) (show V.i .u64 _ = V.i .u64 (((2 ^ (n % 64) : Nat) : Int)) from congrArg (V.i .u64) ((shl_sym (by omega)).trans (by rw [show ([1] : List Int).getD ((0 + 0) * 1) 0 = 1 from rfl, Int.one_mul, ← p2cast]; omega)))) (hd 53 rfl) ?_; refine jo_l (ly_is (ly_bit (by simp) rfl rfl rfl) (show V.i .u64 _ = V.i .u64 (((2 ^ (n % 64) : Nat) : Int)) from congrArg (V.i .u64) (or_z hp64.1 hp64.2))) (hd 54 rfl) ?_; refine jo_l (ly_ia (i := n / 64) sl28 rfl rfl rfl (by first | rfl | omega) (by omega) rfl) (hd 55 rfl) ?_; refine jo_st (sy_storei rfl rfl rfl one82 (by rw [twoS_len]; omega)) ?_; refine jo_nil ?_; refine jc_region ?_; refine jo_l (ly_mv rfl) (hd 56 rfl) ?_; refine jo_l (ly_mv rfl) (hd 57 rfl) ?_; refine jo_l (ly_mv rfl) (hd 58 rfl) ?_; refine jo_l (ly_add rfl rfl (r := ((n / 64 : Nat) : Int)) (by show IntKind.i64.wrap (((n / 64 : Nat) : Int) + 0) = _; rw [wrap_i64 (by omega) (by omega)]; omega)) (hd 59 rfl) ?_; refine jo_l (ly_add rfl rfl (r := ((n / 64 + 1 : Nat) : Int)) (by rw [wrap_i64 (by omega) (by omega)]; omega)) (hd 60 rfl) ?_; refine jo_l (ly_ia (i := n / 64 + 1) sl28 rfl rfl rfl (by first | rfl | omega) (by omega) rfl) (hd 61 rfl) ?_; refine jo_l (ly_is (ly_ldi one82 rfl rfl (by rw [List.length_set, twoS_len]; omega)) (show V.i .u64 _ = V.i .u64 (0) from congrArg (V.i .u64) twoS_at)) (hd 62 rfl) ?_; refine jo_l (ly_mv rfl) (hd 63 rfl) ?_; refine jo_l (ly_is (ly_shr rfl rfl (by decide) rfl) (show V.i .u64 _ = V.i .u64 (0) from congrArg (V.i .u64) (by decide))) (hd 64 rfl) ?_; refine jo_l (ly_mv rfl) (hd 65 rfl) ?_; refine jo_l (ly_sub rfl rfl (r := ((63 - n % 64 : Nat) : Int)) (by rw [wrap_u64 (by omega) (by omega)]; omega)) (hd 66 rfl) ?_; refine jo_l (ly_is (ly_shr rfl rfl (by omega) rfl) (show V.i .u64 _ = V.i .u64 (0) from congrArg (V.i .u64) (Int.zero_fdiv _))) (hd 67 rfl) ?_; refine jo_l (ly_is (ly_bit (by simp) rfl rfl rfl) (show V.i .u64 _ = V.i .u64 0 from congrArg (V.i .u64) (by decide +kernel))) (hd 68 rfl) ?_; refine jo_l (ly_ia (i := n / 64 + 1) sl28 rfl rfl rfl (by first | rfl | omega) (by omega) rfl) (hd 69 rfl) ?_; refine jo_st (sy_storei rfl rfl rfl one82 (by rw [List.length_set, twoS_len]; omega)) ?_; refine jo_nil ?_; refine jc_region ?_; refine jo_l (ly_add rfl rfl (r := 1) rfl) (hd 70 rfl) ?_; refine jo_l (ly_mv rfl) (hd 40 rfl) ?_; refine jo_nil ?_
      refine ⟨0 + 1, ?_, ?_, (by show [(⟨90, 1, 0, true, ints .u64 _⟩ : Ob)] = [⟨90, 1, 0, true, ints .u64 _⟩]; first | rw [twoS_set] | rw [twoS_00]), cov_n 66 rfl rfl ?_⟩
      · decide
      · decide
      · exact (.cons rfl (.u (.u (.u (.u (.u (.u (.u (.u (.u (.u (.u (.u (.u (.u (.u (.u (.u (.u (.u (.u (.u (.u (.u (.u (.u (.u (.u (.u (.u (.u (.u (.u .nil)))))))))))))))))))))))))))))))))
    · obtain rfl : i = 1 := (by have h9 : ¬ (i : Int) < (([1] : List Int).length : Int) := h4; simp at h9; omega)
      refine jc_exit ?_; refine jc_seq ?_; refine jc_frz (k := .u64) (l' := twoL n) 8 rfl rfl (by rw [twoS_len]; omega) (by rw [twoS_1, List.drop_zero, List.take_of_length_le (by rw [twoL_len]; omega)]) hL ?_; refine jc_region ?_; refine jo_l (ly_mv rfl) (hd 71 rfl) ?_
      refine jo_call Try.f71 (hT8) rfl Try.func71 rfl rfl (ovL_cons rfl ovL_nil) (.cons .n .nil) (hd 72 rfl) ?_ (fun ch hp => by simp at hp)
      rintro y hy; injection hy with hy; subst hy; refine jo_l (ly_as rfl) (hd 4 rfl) ?_; refine jo_l (ly_as rfl) (hd 5 rfl) ?_; refine jo_nil ?_; refine jc_ret ?_
      refine ⟨_, _, (.cons rfl (.cons rfl .nil)), (.t1 .nn (.t1 .i .t0)), ?_⟩
      exact rfl

set_option maxHeartbeats 4000000 in
theorem power_v (n : Nat) (hn9 : n + 1 ≤ 67108864) : Spec Try.prog 160 [.i .i64 (n : Int)] (fun o => o = .ret (.n false .u64 (lm ((2 ^ n : Nat) : Int)))) := by
  refine spec_of' [(0, .i .i64 (n : Int))] rfl Try.func160 rfl (Nat.le_of_ble_eq_true rfl) fun Γ hN hds hL hR => ?_
  have hd : ∀ d, Nat.blt d 12 = true → d < Γ.N := fun d h => by rw [hN]; exact Nat.le_of_ble_eq_true h
  have hF1 : Spec Try.prog 113 [.i .u64 1] (fun o => o = .ret (.n true .u64 [1])) := by have h := From_s 1; rwa [if_neg (by decide)] at h
  have hLf := Left_p n hn9
  refine jc_seq ?_; refine jc_region ?_; refine jo_l (ly_as rfl) (hd 2 rfl) ?_; refine jo_nil ?_; refine jc_seq ?_; refine jc_region ?_
  refine jo_call Try.f113 (hF1) rfl Try.func113 rfl rfl (ovL_cons rfl ovL_nil) (.cons .i .nil) (hd 6 rfl) ?_ (fun ch hp => by simp at hp)
  rintro y hy; injection hy with hy; subst hy; refine jo_l (ly_mv rfl) (hd 7 rfl) ?_
  refine jo_call Try.f163 (hLf) rfl Try.func163 rfl rfl (ovL_cons rfl (ovL_cons rfl ovL_nil)) (.cons .n (.cons .i .nil)) (hd 8 rfl) ?_ (fun ch hp => by simp at hp)
  rintro y hy; injection hy with hy; subst hy; refine jo_l (ly_mv rfl) (hd 5 rfl) ?_; refine jo_l (ly_ext rfl rfl) (hd 9 rfl) ?_; refine jo_l (ly_ext rfl rfl) (hd 10 rfl) ?_; refine jo_l (ly_as rfl) (hd 3 rfl) ?_; refine jo_l (ly_as rfl) (hd 4 rfl) ?_; refine jo_nil ?_; refine jc_seq ?_; refine jc_region ?_; refine jo_l (ly_mv rfl) (hd 11 rfl) ?_; refine jo_l (ly_as rfl) (hd 2 rfl) ?_; refine jo_nil ?_; refine jc_ret ?_
  refine ⟨_, _, (.cons rfl .nil), .n, ?_⟩
  exact rfl

theorem Cmp_n (v w : Int) (hv : 0 ≤ v) (hw : 0 ≤ w) (hlv : (lm v).length < 4294967296) (hlw : (lm w).length < 4294967296) : Spec Try.prog 22 [.n false .u64 (lm v), .n false .u64 (lm w)] (fun o => o = .ret (.i .i64 (cmpI v w))) := by
  have h := Compare_s (lm v) (lm w) hlv hlw
  have e : cmpL (trm (lm v)) (trm (lm w)) = cmpI v w := by
    have h1 := cmpL_val (lm_u v) (lm_u w)
    rw [vl_lm hv, vl_lm hw] at h1
    unfold cmpI
    rcases h1 with ⟨h1, h2⟩ | ⟨h1, h2⟩ | ⟨h1, h2⟩ <;> rw [h1]
    · rw [if_neg (by omega), if_neg (by omega)]
    · rw [if_pos h2]
    · rw [if_neg (by omega), if_pos h2]
  rwa [e] at h

set_option maxHeartbeats 4000000 in
theorem newton_v (a n r mm : Nat) (hk : n + 1 < lenV (a : Int)) (hRt : RootIs a (n + 1) r) (hst : (lenV (a : Int) + (n + 1) - 1) / (n + 1) = mm) (hf : 2 * lenV (a : Int) + 200 ≤ 67108864) : Spec Try.prog 149 [.n false .u64 (lm (a : Int)), .i .i64 ((n + 1 : Nat) : Int)] (fun o => o = .ret (.n false .u64 (lm (r : Int)))) := by
  refine spec_of' [(0, .n false .u64 (lm (a : Int))), (1, .i .i64 ((n + 1 : Nat) : Int))] rfl Try.func149 rfl (Nat.le_of_ble_eq_true rfl) fun Γ hN hds hL hR => ?_
  have hd : ∀ d, Nat.blt d 72 = true → d < Γ.N := fun d h => by rw [hN]; exact Nat.le_of_ble_eq_true h
  have hr2 := root_2 hRt hk
  have hrm := root_start hRt (by omega) hst
  have hmk := start_mul hst
  rw [Nat.add_sub_cancel] at hmk
  have hml := start_le (k := n + 1) (by omega) (by omega) hst
  have hla := lenV_lm (v := (a : Int)) (by omega)
  have hpw := power_v mm (by omega)
  refine jc_seq ?_; refine jc_region ?_; refine jo_l (ly_as rfl) (hd 4 rfl) ?_; refine jo_nil ?_; refine jc_seq ?_; refine jc_region ?_; refine jo_l (ly_mv rfl) (hd 18 rfl) ?_
  refine jo_call Try.f33 (Length_v (a : Int) (by omega)) rfl Try.func33 rfl rfl (ovL_cons rfl ovL_nil) (.cons .n .nil) (hd 19 rfl) ?_ (fun ch hp => by simp at hp)
  rintro y hy; injection hy with hy; subst hy; refine jo_l (ly_as rfl) (hd 5 rfl) ?_; refine jo_nil ?_; refine jc_seq ?_; refine jc_seq ?_; refine jc_region ?_; refine jo_l (ly_mv rfl) (hd 20 rfl) ?_; refine jo_l (ly_mv rfl) (hd 21 rfl) ?_; refine jo_l (ly_ff (ly_ge rfl rfl) (by omega)) (hd 22 rfl) ?_; refine jo_nil ?_; refine jc_litf rfl ?_; refine jc_skip ?_; refine jc_seq ?_; refine jc_region ?_; refine jo_l (ly_mv rfl) (hd 24 rfl) ?_; refine jo_l (ly_mv rfl) (hd 25 rfl) ?_; refine jo_l (ly_add rfl rfl (r := ((lenV (a : Int) + (n + 1) : Nat) : Int)) (by rw [wrap_i64 (by omega) (by omega)]; omega)) (hd 26 rfl) ?_; refine jo_l (ly_sub rfl rfl (r := ((lenV (a : Int) + (n + 1) - 1 : Nat) : Int)) (by rw [wrap_i64 (by omega) (by omega)]; omega)) (hd 27 rfl) ?_; refine jo_l (ly_mv rfl) (hd 28 rfl) ?_; refine jo_l (ly_quo rfl rfl (by omega) (r := (mm : Int)) (by rw [show (((lenV (a : Int) + (n + 1) - 1 : Nat) : Int)).tdiv ((n + 1 : Nat) : Int) = (((lenV (a : Int) + (n + 1) - 1) / (n + 1) : Nat) : Int) from rfl, hst]; exact wrap_i64 (by omega) (by omega))) (hd 29 rfl) ?_
  refine jo_call Try.f160 (hpw) rfl Try.func160 rfl rfl (ovL_cons rfl ovL_nil) (.cons .i .nil) (hd 30 rfl) ?_ (fun ch hp => by simp at hp)
  rintro y hy; injection hy with hy; subst hy; refine jo_l (ly_as rfl) (hd 6 rfl) ?_; refine jo_nil ?_; refine jc_block ?_
  refine jc_loopF (G := Nat) (fun x => r ≤ x ∧ x ≤ 2 ^ mm) (fun x => [(6, .n false .u64 (lm (x : Int))), (4, .u), (7, .u), (8, .u), (9, .u), (10, .u), (11, .u), (12, .u), (13, .u), (14, .u), (15, .u), (16, .u), (17, .u), (31, .u), (32, .u), (33, .u), (34, .u), (35, .u), (36, .u), (37, .u), (38, .u), (39, .u), (40, .u), (41, .u), (42, .u), (43, .u), (44, .u), (45, .u), (46, .u), (47, .u), (48, .u), (49, .u), (50, .u), (51, .u), (52, .u), (53, .u), (54, .u), (55, .u), (56, .u), (57, .u), (58, .u), (59, .u), (60, .u), (61, .u), (62, .u), (63, .u), (64, .u), (65, .u), (66, .u), (67, .u), (68, .u), (69, .u), (70, .u), (71, .u)]) (fun _ => _) (fun x => x) (2 ^ mm) ?_ ?_ rfl ?_
  · exact ⟨hrm, Nat.le_refl _⟩
  · exact (.cons rfl (.u (.u (.u (.u (.u (.u (.u (.u (.u (.u (.u (.u (.u (.u (.u (.u (.u (.u (.u (.u (.u (.u (.u (.u (.u (.u (.u (.u (.u (.u (.u (.u (.u (.u (.u (.u (.u (.u (.u (.u (.u (.u (.u (.u (.u (.u (.u (.u (.u (.u (.u (.u (.u .nil))))))))))))))))))))))))))))))))))))))))))))))))))))))
  · rintro x ⟨hc1, hc2⟩
    have hx2 : 2 ≤ x := by omega
    have hu0 : (0 : Int) ≤ ((a / x ^ n : Nat) : Int) := Int.natCast_nonneg _
    have hPn : 0 ≤ PW x n := PW_nn
    have hlx := len_2m hc2
    have hpl := pw_len2 (n := n) hc2
    have hp0 := PW_pos (n := n) hx2
    have hq9 : lenV ((a / x ^ n : Nat) : Int) ≤ lenV (a : Int) := lenV_mono (by have := Nat.div_le_self a (x ^ n); omega)
    have hxn := lenV_mul (x : Int) (n : Int)
    have hn6 : lenV (n : Int) ≤ 64 := len64.2 (by omega)
    have hsm := lenV_add ((x : Int) * (n : Int)) ((a / x ^ n : Nat) : Int)
    have hxn0 : 0 ≤ (x : Int) * (n : Int) := Int.mul_nonneg (by omega) (by omega)
    have hQu : Spec Try.prog 93 [.n false .u64 (lm (a : Int)), .n false .u64 (lm (PW x n))] (fun o => o = .ret (.t [.n false .u64 (lm ((a / x ^ n : Nat) : Int)), .i .i64 0])) := by have h := Quo_v (a : Int) (PW x n) (by omega) (by omega) hp0; rwa [qn_pw] at h
    have hls := lenV_lm (v := ((x : Int) * (n : Int) + ((a / x ^ n : Nat) : Int))) (by omega)
    have hTh : Spec Try.prog 146 [.n false .u64 (lm ((x : Int) * (n : Int) + ((a / x ^ n : Nat) : Int))), .i .u64 ((n + 1 : Nat) : Int)] (fun o => o = .ret (.t [.n false .u64 (lm ((nwt a x n : Nat) : Int)), .i .u64 (((x : Int) * (n : Int) + ((a / x ^ n : Nat) : Int)) % ((n + 1 : Nat) : Int)), .i .i64 0])) := by have h := Through_s (lm ((x : Int) * (n : Int) + ((a / x ^ n : Nat) : Int))) ((n + 1 : Nat) : Int) (by omega) (lm_u _) (by omega) (by omega) (by rw [lenN_lm]; omega); rwa [vl_lm (by omega), nwt_i] at h
    have hly : lenV ((nwt a x n : Nat) : Int) ≤ lenV ((x : Int) * (n : Int) + ((a / x ^ n : Nat) : Int)) := lenV_mono (by rw [← nwt_i, Int.natAbs_ediv_of_nonneg (by omega)]; exact Nat.div_le_self _ _)
    have hmy := lenV_lm (v := ((nwt a x n : Nat) : Int)) (by omega)
    have hmx := lenV_lm (v := (x : Int)) (by omega)
    refine jc_block ?_; refine jc_seq ?_; refine jc_region ?_; refine jo_l (ly_mv rfl) (hd 32 rfl) ?_; refine jo_l (ly_mv rfl) (hd 33 rfl) ?_; refine jo_l (ly_sub rfl rfl (r := (n : Int)) (by rw [wrap_i64 (by omega) (by omega)]; omega)) (hd 34 rfl) ?_
    refine jo_call Try.f112 (Pow_v x n hx2 (by omega) (by omega)) rfl Try.func112 rfl rfl (ovL_cons rfl (ovL_cons rfl ovL_nil)) (.cons .n (.cons .i .nil)) (hd 35 rfl) ?_ (fun ch hp => by simp at hp)
    rintro y hy; injection hy with hy; subst hy; refine jo_l (ly_mv rfl) (hd 31 rfl) ?_; refine jo_l (ly_ext rfl rfl) (hd 36 rfl) ?_; refine jo_l (ly_ext rfl rfl) (hd 37 rfl) ?_; refine jo_l (ly_as rfl) (hd 7 rfl) ?_; refine jo_l (ly_as rfl) (hd 8 rfl) ?_; refine jo_nil ?_; refine jc_seq ?_; refine jc_region ?_; refine jo_l (ly_mv rfl) (hd 39 rfl) ?_; refine jo_l (ly_mv rfl) (hd 40 rfl) ?_
    refine jo_call Try.f93 (hQu) rfl Try.func93 rfl rfl (ovL_cons rfl (ovL_cons rfl ovL_nil)) (.cons .n (.cons .n .nil)) (hd 41 rfl) ?_ (fun ch hp => by simp at hp)
    rintro y hy; injection hy with hy; subst hy; refine jo_l (ly_mv rfl) (hd 38 rfl) ?_; refine jo_l (ly_ext rfl rfl) (hd 42 rfl) ?_; refine jo_l (ly_ext rfl rfl) (hd 43 rfl) ?_; refine jo_l (ly_as rfl) (hd 9 rfl) ?_; refine jo_l (ly_as rfl) (hd 10 rfl) ?_; refine jo_nil ?_; refine jc_seq ?_; refine jc_region ?_; refine jo_l (ly_mv rfl) (hd 45 rfl) ?_; refine jo_l (ly_mv rfl) (hd 46 rfl) ?_; refine jo_l (ly_sub rfl rfl (r := (n : Int)) (by rw [wrap_i64 (by omega) (by omega)]; omega)) (hd 47 rfl) ?_; refine jo_l (ly_conv und3 und82 rfl (r := (n : Int)) (wrap_u64 (by omega) (by omega))) (hd 48 rfl) ?_
    refine jo_call Try.f161 (Times_v (x : Int) (n : Int) (by omega) (by omega) (by omega) (by omega) (by omega)) rfl Try.func161 rfl rfl (ovL_cons rfl (ovL_cons rfl ovL_nil)) (.cons .n (.cons .i .nil)) (hd 49 rfl) ?_ (fun ch hp => by simp at hp)
    rintro y hy; injection hy with hy; subst hy; refine jo_l (ly_mv rfl) (hd 44 rfl) ?_; refine jo_l (ly_ext rfl rfl) (hd 50 rfl) ?_; refine jo_l (ly_ext rfl rfl) (hd 51 rfl) ?_; refine jo_l (ly_as rfl) (hd 11 rfl) ?_; refine jo_l (ly_as rfl) (hd 12 rfl) ?_; refine jo_nil ?_; refine jc_seq ?_; refine jc_region ?_; refine jo_l (ly_mv rfl) (hd 53 rfl) ?_; refine jo_l (ly_mv rfl) (hd 54 rfl) ?_
    refine jo_call Try.f97 (Add_f ((x : Int) * (n : Int)) ((a / x ^ n : Nat) : Int) hxn0 (by omega) (by omega) (by omega) (by omega)) rfl Try.func97 rfl rfl (ovL_cons rfl (ovL_cons rfl ovL_nil)) (.cons .n (.cons .n .nil)) (hd 55 rfl) ?_ (fun ch hp => by simp at hp)
    rintro y hy; injection hy with hy; subst hy; refine jo_l (ly_mv rfl) (hd 52 rfl) ?_; refine jo_l (ly_ext rfl rfl) (hd 56 rfl) ?_; refine jo_l (ly_ext rfl rfl) (hd 57 rfl) ?_; refine jo_l (ly_as rfl) (hd 13 rfl) ?_; refine jo_l (ly_as rfl) (hd 14 rfl) ?_; refine jo_nil ?_; refine jc_seq ?_; refine jc_region ?_; refine jo_l (ly_mv rfl) (hd 59 rfl) ?_; refine jo_l (ly_mv rfl) (hd 60 rfl) ?_; refine jo_l (ly_conv und3 und82 rfl (r := ((n + 1 : Nat) : Int)) (wrap_u64 (by omega) (by omega))) (hd 61 rfl) ?_
    refine jo_call Try.f146 (hTh) rfl Try.func146 rfl rfl (ovL_cons rfl (ovL_cons rfl ovL_nil)) (.cons .n (.cons .i .nil)) (hd 62 rfl) ?_ (fun ch hp => by simp at hp)
    rintro y hy; injection hy with hy; subst hy; refine jo_l (ly_mv rfl) (hd 58 rfl) ?_; refine jo_l (ly_ext rfl rfl) (hd 63 rfl) ?_; refine jo_l (ly_ext rfl rfl) (hd 64 rfl) ?_; refine jo_l (ly_ext rfl rfl) (hd 65 rfl) ?_; refine jo_l (ly_as rfl) (hd 15 rfl) ?_; refine jo_l (ly_as rfl) (hd 16 rfl) ?_; refine jo_l (ly_as rfl) (hd 17 rfl) ?_; refine jo_nil ?_; refine jc_seq ?_; refine jc_seq ?_; refine jc_region ?_; refine jo_l (ly_mv rfl) (hd 66 rfl) ?_; refine jo_l (ly_mv rfl) (hd 67 rfl) ?_
    refine jo_call Try.f22 (Cmp_n ((nwt a x n : Nat) : Int) (x : Int) (by omega) (by omega) (by omega) (by omega)) rfl Try.func22 rfl rfl (ovL_cons rfl (ovL_cons rfl ovL_nil)) (.cons .n (.cons .n .nil)) (hd 68 rfl) ?_ (fun ch hp => by simp at hp)
    rintro y hy; injection hy with hy; subst hy; refine jo_l (ly_ge rfl rfl) (hd 69 rfl) ?_; refine jo_nil ?_
    refine jc_if rfl (fun h2 => ?_) (fun h2 => ?_)
    · have hxr := hRt.is hc1 (nw_exit (by omega) (cmp_le h2))
      refine jc_seq ?_; refine jc_region ?_; refine jo_l (ly_mv rfl) (hd 70 rfl) ?_; refine jo_l (ly_as rfl) (hd 4 rfl) ?_; refine jo_nil ?_; refine jc_ret ?_
      refine ⟨_, _, (.cons rfl .nil), .n, ?_⟩
      rw [hxr]
    · have hyx := cmp_lt' h2
      refine jc_skip ?_; refine jc_region ?_; refine jo_l (ly_mv rfl) (hd 71 rfl) ?_; refine jo_l (ly_as rfl) (hd 6 rfl) ?_; refine jo_nil ?_
      refine ⟨nwt a x n, ?_, ?_, rfl, cov_n 106 (by kernel_rfl) (by kernel_rfl) ?_⟩
      · exact ⟨nw_low (by omega) hRt.le, by omega⟩
      · omega
      · exact (.cons rfl (.u (.u (.u (.u (.u (.u (.u (.u (.u (.u (.u (.u (.u (.u (.u (.u (.u (.u (.u (.u (.u (.u (.u (.u (.u (.u (.u (.u (.u (.u (.u (.u (.u (.u (.u (.u (.u (.u (.u (.u (.u (.u (.u (.u (.u (.u (.u (.u (.u (.u (.u (.u (.u .nil))))))))))))))))))))))))))))))))))))))))))))))))))))))
end Go.Proofs.Ytcfdclehmpfkcaa.Vc

/- Contracts of roots.Root, surdtop.works. -/
namespace Go.Proofs.Ytcfdclehmpfkcaa.Vc
open Go Go.RowKit
set_option maxHeartbeats 4000000 in
theorem rfits_s (l : List Int) (hl : l.length ≤ 1048576) (hu : u64s l) (hf : lenN l ≤ 67108864) : Spec Try.prog 148 [.n false .u64 l] (fun o => o = .ret (.t [.n true .u64 (trm l), .i .i64 0])) := by
  refine spec_of' [(0, .n false .u64 l)] rfl Try.func148 rfl (Nat.le_of_ble_eq_true rfl) fun Γ hN hds hL hR => ?_
  have hd : ∀ d, Nat.blt d 9 = true → d < Γ.N := fun d h => by rw [hN]; exact Nat.le_of_ble_eq_true h
  refine jc_seq ?_; refine jc_region ?_; refine jo_l (ly_as rfl) (hd 2 rfl) ?_; refine jo_l (ly_as rfl) (hd 3 rfl) ?_; refine jo_nil ?_; refine jc_seq ?_; refine jc_seq ?_; refine jc_region ?_; refine jo_l (ly_mv rfl) (hd 4 rfl) ?_
  refine jo_call Try.f33 (Length_s l (by omega) hu) rfl Try.func33 rfl rfl (ovL_cons rfl ovL_nil) (.cons .n .nil) (hd 5 rfl) ?_ (fun ch hp => by simp at hp)
  rintro y hy; injection hy with hy; subst hy; refine jo_l (ly_ff (ly_gt rfl rfl) (by omega)) (hd 6 rfl) ?_; refine jo_nil ?_; refine jc_litf rfl ?_; refine jc_skip ?_; refine jc_seq ?_; refine jc_region ?_; refine jo_l (ly_mv rfl) (hd 7 rfl) ?_
  refine jo_call Try.f99 (Norm_s l (by omega)) rfl Try.func99 rfl rfl (ovL_cons rfl ovL_nil) (.cons .n .nil) (hd 8 rfl) ?_ (fun ch hp => by simp at hp)
  rintro y hy; injection hy with hy; subst hy; refine jo_l (ly_as rfl) (hd 2 rfl) ?_; refine jo_l (ly_as rfl) (hd 3 rfl) ?_; refine jo_nil ?_; refine jc_ret ?_
  refine ⟨_, _, (.cons rfl (.cons rfl .nil)), (.t1 .n (.t1 .i .t0)), ?_⟩
  exact rfl

set_option maxHeartbeats 4000000 in
theorem rless_v (v x : Int) (h0 : 0 ≤ x) (hle : x ≤ v) (hv : lenV v ≤ 67108864) : Spec Try.prog 150 [.n false .u64 (lm v), .n false .u64 (lm x)] (fun o => o = .ret (.n false .u64 (lm (v - x)))) := by
  refine spec_of' [(0, .n false .u64 (lm v)), (1, .n false .u64 (lm x))] rfl Try.func150 rfl (Nat.le_of_ble_eq_true rfl) fun Γ hN hds hL hR => ?_
  have hd : ∀ d, Nat.blt d 14 = true → d < Γ.N := fun d h => by rw [hN]; exact Nat.le_of_ble_eq_true h
  refine jc_seq ?_; refine jc_region ?_; refine jo_l (ly_as rfl) (hd 4 rfl) ?_; refine jo_nil ?_; refine jc_seq ?_; refine jc_region ?_; refine jo_l (ly_mv rfl) (hd 8 rfl) ?_; refine jo_l (ly_mv rfl) (hd 9 rfl) ?_
  refine jo_call Try.f98 (Sub_v v x h0 hle hv) rfl Try.func98 rfl rfl (ovL_cons rfl (ovL_cons rfl ovL_nil)) (.cons .n (.cons .n .nil)) (hd 10 rfl) ?_ (fun ch hp => by simp at hp)
  rintro y hy; injection hy with hy; subst hy; refine jo_l (ly_mv rfl) (hd 7 rfl) ?_; refine jo_l (ly_ext rfl rfl) (hd 11 rfl) ?_; refine jo_l (ly_ext rfl rfl) (hd 12 rfl) ?_; refine jo_l (ly_as rfl) (hd 5 rfl) ?_; refine jo_l (ly_as rfl) (hd 6 rfl) ?_; refine jo_nil ?_; refine jc_seq ?_; refine jc_region ?_; refine jo_l (ly_mv rfl) (hd 13 rfl) ?_; refine jo_l (ly_as rfl) (hd 4 rfl) ?_; refine jo_nil ?_; refine jc_ret ?_
  refine ⟨_, _, (.cons rfl .nil), .n, ?_⟩
  exact rfl

set_option maxHeartbeats 4000000 in
theorem Root_s (l : List Int) (a n r : Nat) (hl : l.length ≤ 1048576) (hu : u64s l) (hv : vl l = (a : Int)) (ha : 0 < a) (hn : 2 ≤ n) (hRt : RootIs a n r) (hf : lenV (a : Int) ≤ 67108864) (hNw : Spec Try.prog 149 [.n false .u64 (lm (a : Int)), .i .i64 (n : Int)] (fun o => o = .ret (.n false .u64 (lm (r : Int))))) (hPw : Spec Try.prog 112 [.n false .u64 (lm (r : Int)), .i .i64 (n : Int)] (fun o => o = .ret (.t [.n false .u64 (lm (PW r n)), .i .i64 0]))) : Spec Try.prog 125 [.n false .u64 l, .i .i64 (n : Int)] (fun o => o = .ret (.t [.n false .u64 (lm (r : Int)), .n false .u64 (lm ((a : Int) - PW r n)), .i .i64 0])) := by
  refine spec_of' [(0, .n false .u64 l), (1, .i .i64 (n : Int))] rfl Try.func125 rfl (Nat.le_of_ble_eq_true rfl) fun Γ hN hds hL hR => ?_
  have hd : ∀ d, Nat.blt d 42 = true → d < Γ.N := fun d h => by rw [hN]; exact Nat.le_of_ble_eq_true h
  have hfi := rfits_s l hl hu (by rw [lenN_lenV hu hv]; omega)
  rw [trm_lm hu hv] at hfi
  have hla := lenV_lm (v := (a : Int)) (by omega)
  have hle : PW r n ≤ (a : Int) := by have := hRt.le; unfold PW; omega
  have hlp : lenV (PW r n) ≤ lenV (a : Int) := lenV_mono (by have : 0 ≤ PW r n := PW_nn; omega)
  have hls := rless_v (a : Int) (PW r n) PW_nn hle (by omega)
  have ha1 : 0 < lenV (a : Int) := by have := @lenV_0 (a : Int); omega
  refine jc_seq ?_; refine jc_region ?_; refine jo_l (ly_as rfl) (hd 4 rfl) ?_; refine jo_l (ly_as rfl) (hd 5 rfl) ?_; refine jo_l (ly_as rfl) (hd 6 rfl) ?_; refine jo_nil ?_; refine jc_seq ?_; refine jc_seq ?_; refine jc_region ?_; refine jo_l (ly_mv rfl) (hd 11 rfl) ?_; refine jo_l (ly_ff (ly_lt rfl rfl) (by omega)) (hd 12 rfl) ?_; refine jo_nil ?_; refine jc_litf rfl ?_; refine jc_skip ?_; refine jc_seq ?_; refine jc_region ?_; refine jo_l (ly_mv rfl) (hd 14 rfl) ?_
  refine jo_call Try.f148 (hfi) rfl Try.func148 rfl rfl (ovL_cons rfl ovL_nil) (.cons .n .nil) (hd 15 rfl) ?_ (fun ch hp => by simp at hp)
  rintro y hy; injection hy with hy; subst hy; refine jo_l (ly_mv rfl) (hd 13 rfl) ?_; refine jo_l (ly_ext rfl rfl) (hd 16 rfl) ?_; refine jo_l (ly_ext rfl rfl) (hd 17 rfl) ?_; refine jo_l (ly_as rfl) (hd 0 rfl) ?_; refine jo_l (ly_as rfl) (hd 7 rfl) ?_; refine jo_nil ?_; refine jc_seq ?_; refine jc_seq ?_; refine jc_region ?_; refine jo_l (ly_mv rfl) (hd 18 rfl) ?_; refine jo_l (ly_ff (ly_ne rfl rfl) (by decide)) (hd 19 rfl) ?_; refine jo_nil ?_; refine jc_litf rfl ?_; refine jc_skip ?_; refine jc_seq ?_; refine jc_seq ?_; refine jc_region ?_; refine jo_l (ly_mv rfl) (hd 21 rfl) ?_; refine jo_l (ly_ff (ly_eq rfl rfl) (by omega)) (hd 22 rfl) ?_; refine jo_l (ly_mv rfl) (hd 23 rfl) ?_; refine jo_g 23 rfl rfl (ly_mv rfl) (hd 24 rfl) ?_
  refine jo_callg Try.f33 23 rfl rfl (Length_v (a : Int) (by omega)) rfl Try.func33 rfl rfl (ovL_cons rfl ovL_nil) (.cons .n .nil) (hd 25 rfl) ?_ (fun ch hp => by simp at hp)
  rintro y hy; injection hy with hy; subst hy; refine jo_g 23 rfl rfl (ly_ff (ly_eq rfl rfl) (by omega)) (hd 26 rfl) ?_; refine jo_l (ly_pick_f rfl rfl) (hd 27 rfl) ?_; refine jo_nil ?_; refine jc_litf rfl ?_; refine jc_skip ?_; refine jc_seq ?_; refine jc_region ?_; refine jo_l (ly_mv rfl) (hd 29 rfl) ?_; refine jo_l (ly_mv rfl) (hd 30 rfl) ?_
  refine jo_call Try.f149 (hNw) rfl Try.func149 rfl rfl (ovL_cons rfl (ovL_cons rfl ovL_nil)) (.cons .n (.cons .i .nil)) (hd 31 rfl) ?_ (fun ch hp => by simp at hp)
  rintro y hy; injection hy with hy; subst hy; refine jo_l (ly_as rfl) (hd 8 rfl) ?_; refine jo_nil ?_; refine jc_seq ?_; refine jc_region ?_; refine jo_l (ly_mv rfl) (hd 33 rfl) ?_; refine jo_l (ly_mv rfl) (hd 34 rfl) ?_
  refine jo_call Try.f112 (hPw) rfl Try.func112 rfl rfl (ovL_cons rfl (ovL_cons rfl ovL_nil)) (.cons .n (.cons .i .nil)) (hd 35 rfl) ?_ (fun ch hp => by simp at hp)
  rintro y hy; injection hy with hy; subst hy; refine jo_l (ly_mv rfl) (hd 32 rfl) ?_; refine jo_l (ly_ext rfl rfl) (hd 36 rfl) ?_; refine jo_l (ly_ext rfl rfl) (hd 37 rfl) ?_; refine jo_l (ly_as rfl) (hd 9 rfl) ?_; refine jo_l (ly_as rfl) (hd 10 rfl) ?_; refine jo_nil ?_; refine jc_seq ?_; refine jc_region ?_; refine jo_l (ly_mv rfl) (hd 38 rfl) ?_; refine jo_l (ly_mv rfl) (hd 39 rfl) ?_; refine jo_l (ly_mv rfl) (hd 40 rfl) ?_
  refine jo_call Try.f150 (hls) rfl Try.func150 rfl rfl (ovL_cons rfl (ovL_cons rfl ovL_nil)) (.cons .n (.cons .n .nil)) (hd 41 rfl) ?_ (fun ch hp => by simp at hp)
  rintro y hy; injection hy with hy; subst hy; refine jo_l (ly_as rfl) (hd 4 rfl) ?_; refine jo_l (ly_as rfl) (hd 5 rfl) ?_; refine jo_l (ly_as rfl) (hd 6 rfl) ?_; refine jo_nil ?_; refine jc_ret ?_
  refine ⟨_, _, (.cons rfl (.cons rfl (.cons rfl .nil))), (.t1 .nn (.t1 .nn (.t1 .i .t0))), ?_⟩
  exact rfl

set_option maxHeartbeats 4000000 in
theorem Sqrt_49  : Spec Try.prog 89 [.n false .u64 [49]] (fun o => o = .ret (.t [.n false .u64 [7], .n false .u64 [], .i .i64 0])) := by
  refine spec_of' [(0, .n false .u64 [49])] rfl Try.func89 rfl (Nat.le_of_ble_eq_true rfl) fun Γ hN hds hL hR => ?_
  have hd : ∀ d, Nat.blt d 10 = true → d < Γ.N := fun d h => by rw [hN]; exact Nat.le_of_ble_eq_true h
  have hRo : Spec Try.prog 125 [.n false .u64 [49], .i .i64 2] (fun o => o = .ret (.t [.n false .u64 [7], .n false .u64 [], .i .i64 0])) := by
      have e49 : lenV ((49 : Nat) : Int) = 6 := by decide +kernel
      have hN := newton_v 49 1 7 3 (by rw [e49]; decide) ⟨by decide, by decide⟩ (by rw [e49]) (by rw [e49]; decide)
      have hP := Pow_v 7 2 (by decide) (by decide +kernel) (by decide +kernel)
      have h := Root_s [49] 49 2 7 (by decide) (u64s1 (by decide) (by decide)) (by decide) (by decide) (by decide) ⟨by decide, by decide⟩ (by rw [e49]; decide) hN hP
      rwa [show lm ((7 : Nat) : Int) = [7] by rw [← fl_lm (by decide) (by decide)]; rfl, show ((49 : Nat) : Int) - PW 7 2 = 0 by decide, lm_0] at h
  refine jc_seq ?_; refine jc_region ?_; refine jo_l (ly_as rfl) (hd 2 rfl) ?_; refine jo_l (ly_as rfl) (hd 3 rfl) ?_; refine jo_l (ly_as rfl) (hd 4 rfl) ?_; refine jo_nil ?_; refine jc_seq ?_; refine jc_region ?_; refine jo_l (ly_mv rfl) (hd 5 rfl) ?_
  refine jo_call Try.f125 (hRo) rfl Try.func125 rfl rfl (ovL_cons rfl (ovL_cons rfl ovL_nil)) (.cons .n (.cons .i .nil)) (hd 6 rfl) ?_ (fun ch hp => by simp at hp)
  rintro y hy; injection hy with hy; subst hy; refine jo_l (ly_ext rfl rfl) (hd 7 rfl) ?_; refine jo_l (ly_ext rfl rfl) (hd 8 rfl) ?_; refine jo_l (ly_ext rfl rfl) (hd 9 rfl) ?_; refine jo_l (ly_as rfl) (hd 2 rfl) ?_; refine jo_l (ly_as rfl) (hd 3 rfl) ?_; refine jo_l (ly_as rfl) (hd 4 rfl) ?_; refine jo_nil ?_; refine jc_ret ?_
  refine ⟨_, _, (.cons rfl (.cons rfl (.cons rfl .nil))), (.t1 .nn (.t1 .nn (.t1 .i .t0))), ?_⟩
  exact rfl

set_option maxHeartbeats 4000000 in
theorem works_s  : Spec Try.prog 49 [] (fun o => o = .ret (.b true)) := by
  refine spec_of' [] rfl Try.func49 rfl (Nat.le_of_ble_eq_true rfl) fun Γ hN hds hL hR => ?_
  have hd : ∀ d, Nat.blt d 51 = true → d < Γ.N := fun d h => by rw [hN]; exact Nat.le_of_ble_eq_true h
  have hMu : Spec Try.prog 61 [.n false .u64 [6], .n false .u64 [7]] (fun o => o = .ret (.t [.n false .u64 [42], .i .i64 0])) := by
      have h := Mul_f 6 7 (by decide) (by decide) (by decide +kernel) (by decide +kernel) (by decide +kernel)
      rwa [show lm 6 = [6] by rw [← fl_lm (by decide) (by decide)]; rfl, show lm 7 = [7] by rw [← fl_lm (by decide) (by decide)]; rfl, show lm (6 * 7) = [42] by rw [← fl_lm (by decide) (by decide)]; rfl] at h
  have hSq := Sqrt_49
  have hPr : Spec Try.prog 21 [.n false .u64 [42], .i .i64 10] (fun o => o = .ret (.t [.s ⟨#[52, 50]⟩, .i .i64 0])) := by
      have h := Print_s [42] 10 (by decide) (u64s1 (by decide) (by decide)) (by decide) (by decide)
      rwa [show (txt (hdg 10 1 (vl [42]).toNat)) = ⟨#[52, 50]⟩ by decide +kernel] at h
  have hCm : Spec Try.prog 22 [.n false .u64 [7], .n false .u64 [7]] (fun o => o = .ret (.i .i64 0)) := by have h := Compare_s [7] [7] (by decide) (by decide); rwa [show cmpL (trm [7]) (trm [7]) = 0 by decide +kernel] at h
  have hSg : Spec Try.prog 83 [.a [.b true, .n false .u64 [1]]] (fun o => o = .ret (.i .i64 (-1))) := by have h := WSign_s true [1] (by decide) (u64s1 (by decide) (by decide)); rwa [show sgnI (sv true [1]) = -1 by decide +kernel] at h
  refine jc_seq ?_; refine jc_region ?_; refine jo_l (ly_as rfl) (hd 0 rfl) ?_; refine jo_nil ?_; refine jc_seq ?_; refine jc_region ?_; refine jo_h (hy_lit (id := 0) (xs := [.const (.int .u64 6)]) el28 rfl (ovL_cons rfl ovL_nil) rfl (all2_of rfl) (by decide) rfl) (hd 9 rfl) ?_; refine jo_h (hy_lit (id := 1) (xs := [.const (.int .u64 7)]) el28 rfl (ovL_cons rfl ovL_nil) rfl (all2_of rfl) (by decide) rfl) (hd 10 rfl) ?_; refine jo_frz (k := .u64) (l := [6]) (l' := [6]) 9 rfl rfl (by decide) rfl hL ?_; refine jo_frz (k := .u64) (l := [7]) (l' := [7]) 10 rfl rfl (by decide) rfl hL ?_
  refine jo_call Try.f61 (hMu) rfl Try.func61 rfl rfl (ovL_cons rfl (ovL_cons rfl ovL_nil)) (.cons .n (.cons .n .nil)) (hd 11 rfl) ?_ (fun ch hp => by simp at hp)
  rintro y hy; injection hy with hy; subst hy; refine jo_l (ly_mv rfl) (hd 8 rfl) ?_; refine jo_l (ly_ext rfl rfl) (hd 12 rfl) ?_; refine jo_l (ly_ext rfl rfl) (hd 13 rfl) ?_; refine jo_l (ly_as rfl) (hd 1 rfl) ?_; refine jo_l (ly_as rfl) (hd 2 rfl) ?_; refine jo_nil ?_; refine jc_seq ?_; refine jc_region ?_; refine jo_h (hy_lit (id := 2) (xs := [.const (.int .u64 49)]) el28 rfl (ovL_cons rfl ovL_nil) rfl (all2_of rfl) (by decide) rfl) (hd 15 rfl) ?_; refine jo_frz (k := .u64) (l := [49]) (l' := [49]) 15 rfl rfl (by decide) rfl hL ?_
  refine jo_call Try.f89 (hSq) rfl Try.func89 rfl rfl (ovL_cons rfl ovL_nil) (.cons .n .nil) (hd 16 rfl) ?_ (fun ch hp => by simp at hp)
  rintro y hy; injection hy with hy; subst hy; refine jo_l (ly_mv rfl) (hd 14 rfl) ?_; refine jo_l (ly_ext rfl rfl) (hd 17 rfl) ?_; refine jo_l (ly_ext rfl rfl) (hd 18 rfl) ?_; refine jo_l (ly_ext rfl rfl) (hd 19 rfl) ?_; refine jo_l (ly_as rfl) (hd 3 rfl) ?_; refine jo_l (ly_as rfl) (hd 4 rfl) ?_; refine jo_l (ly_as rfl) (hd 5 rfl) ?_; refine jo_nil ?_; refine jc_seq ?_; refine jc_region ?_; refine jo_l (ly_mv rfl) (hd 21 rfl) ?_
  refine jo_call Try.f21 (hPr) rfl Try.func21 rfl rfl (ovL_cons rfl (ovL_cons rfl ovL_nil)) (.cons .n (.cons .i .nil)) (hd 22 rfl) ?_ (fun ch hp => by simp at hp)
  rintro y hy; injection hy with hy; subst hy; refine jo_l (ly_mv rfl) (hd 20 rfl) ?_; refine jo_l (ly_ext rfl rfl) (hd 23 rfl) ?_; refine jo_l (ly_ext rfl rfl) (hd 24 rfl) ?_; refine jo_l (ly_as rfl) (hd 6 rfl) ?_; refine jo_l (ly_as rfl) (hd 7 rfl) ?_; refine jo_nil ?_; refine jc_seq ?_; refine jc_region ?_; refine jo_l (ly_mv rfl) (hd 25 rfl) ?_; refine jo_l (ly_tt (ly_eq rfl rfl) rfl) (hd 26 rfl) ?_; refine jo_l (ly_mv rfl) (hd 27 rfl) ?_; refine jo_g 27 rfl rfl (ly_mv rfl) (hd 28 rfl) ?_; refine jo_g 27 rfl rfl (ly_tt (ly_eq rfl rfl) rfl) (hd 29 rfl) ?_; refine jo_l (ly_pick_t rfl rfl) (hd 30 rfl) ?_; refine jo_l (ly_mv rfl) (hd 31 rfl) ?_; refine jo_g 31 rfl rfl (ly_mv rfl) (hd 32 rfl) ?_; refine jo_g 31 rfl rfl (ly_tt (ly_eq rfl rfl) rfl) (hd 33 rfl) ?_; refine jo_l (ly_pick_t rfl rfl) (hd 34 rfl) ?_; refine jo_l (ly_mv rfl) (hd 35 rfl) ?_; refine jo_g 35 rfl rfl (ly_mv rfl) (hd 36 rfl) ?_; refine jo_g 35 rfl rfl (ly_tt (ly_eqS rfl rfl) rfl) (hd 37 rfl) ?_; refine jo_l (ly_pick_t rfl rfl) (hd 38 rfl) ?_; refine jo_l (ly_mv rfl) (hd 39 rfl) ?_; refine jo_g 39 rfl rfl (ly_mv rfl) (hd 40 rfl) ?_; refine jo_hg 39 rfl rfl (hy_lit (id := 3) (xs := [.const (.int .u64 7)]) el28 rfl (ovL_cons rfl ovL_nil) rfl (all2_of rfl) (by decide) rfl) (hd 41 rfl) ?_; refine jo_frz (k := .u64) (l := [7]) (l' := [7]) 41 rfl rfl (by decide) rfl hL ?_
  refine jo_callg Try.f22 39 rfl rfl (hCm) rfl Try.func22 rfl rfl (ovL_cons rfl (ovL_cons rfl ovL_nil)) (.cons .n (.cons .n .nil)) (hd 42 rfl) ?_ (fun ch hp => by simp at hp)
  rintro y hy; injection hy with hy; subst hy; refine jo_g 39 rfl rfl (ly_tt (ly_eq rfl rfl) rfl) (hd 43 rfl) ?_; refine jo_l (ly_pick_t rfl rfl) (hd 44 rfl) ?_; refine jo_l (ly_mv rfl) (hd 45 rfl) ?_; refine jo_hg 45 rfl rfl (hy_lit (id := 4) (xs := [.const (.int .u64 1)]) el28 rfl (ovL_cons rfl ovL_nil) rfl (all2_of rfl) (by decide) rfl) (hd 46 rfl) ?_; refine jo_frz (k := .u64) (l := [1]) (l' := [1]) 46 rfl rfl (by decide) rfl hL ?_; refine jo_g 45 rfl rfl (ly_build (is := [0, 1]) (xs := [.const (.bool true), .tmp 46]) zero30 pls30_0_1 rfl (ovL_cons rfl (ovL_cons rfl ovL_nil)) rfl (by first | (simp [plsOk, cellsV]; done) | (simp [plsOk, cellsV, old]; done)) (all_of rfl) rfl) (hd 47 rfl) ?_
  refine jo_callg Try.f83 45 rfl rfl (hSg) rfl Try.func83 rfl rfl (ovL_cons rfl ovL_nil) (.cons (.a1 .b (.a1 .n .a0)) .nil) (hd 48 rfl) ?_ (fun ch hp => by simp at hp)
  rintro y hy; injection hy with hy; subst hy; refine jo_g 45 rfl rfl (ly_tt (ly_eq rfl rfl) rfl) (hd 49 rfl) ?_; refine jo_l (ly_pick_t rfl rfl) (hd 50 rfl) ?_; refine jo_l (ly_as rfl) (hd 0 rfl) ?_; refine jo_nil ?_; refine jc_ret ?_
  refine ⟨_, _, (.cons rfl .nil), .b, ?_⟩
  exact rfl
end Go.Proofs.Ytcfdclehmpfkcaa.Vc

/- Contracts of surdtop.small, div.Gcd, Divides. -/
namespace Go.Proofs.Ytcfdclehmpfkcaa.Vc
open Go Go.RowKit
set_option maxHeartbeats 4000000 in
theorem small_s (K : Nat) (rows : List (List Int)) (hr : ∀ l ∈ rows, l.length < 4294967296 ∧ u64s l) (hrl : rows.length ≤ 1000) : Spec Try.prog 48 [.i .i64 (K : Int), .l false 1 (rowsV rows)] (fun o => o = .ret (.b (smallB K rows))) := by
  refine spec_of' [(0, .i .i64 (K : Int)), (1, .l false 1 (rowsV rows))] rfl Try.func48 rfl (Nat.le_of_ble_eq_true rfl) fun Γ hN hds hL hR => ?_
  have hd : ∀ d, Nat.blt d 19 = true → d < Γ.N := fun d h => by rw [hN]; exact Nat.le_of_ble_eq_true h
  refine jc_seq ?_; refine jc_region ?_; refine jo_l (ly_as rfl) (hd 4 rfl) ?_; refine jo_nil ?_; refine jc_seq ?_; refine jc_seq ?_; refine jc_region ?_; refine jo_l (ly_mv rfl) (hd 7 rfl) ?_; refine jo_l (ly_lenl sl81 rfl) (hd 8 rfl) ?_; refine jo_l (ly_mv rfl) (hd 9 rfl) ?_; refine jo_nil ?_; refine jc_block ?_
  refine jc_loopF (G := Nat) (fun i => i ≤ rows.length ∧ ∀ j < i, lenV (vl (rows.getD j [])) ≤ K) (fun i => [(9, .i .i64 (i : Int)), (4, .u), (6, .u), (10, .u), (11, .u), (12, .u), (13, .u), (14, .u), (15, .u), (16, .u), (17, .u), (18, .u)]) (fun _ => _) (fun i => rows.length - i) 0 ?_ ?_ rfl ?_
  · exact ⟨Nat.zero_le _, fun j h => absurd h (Nat.not_lt_zero _)⟩
  · exact (.cons rfl (.u (.u (.u (.u (.u (.u (.u (.u (.u (.u (.u .nil))))))))))))
  · rintro i ⟨hi, hj⟩; refine jc_seq ?_; refine jc_region ?_; refine jo_l (ly_lt rfl rfl) (hd 10 rfl) ?_; refine jo_nil ?_; refine jc_seq ?_
    refine jc_if rfl (fun h1 => ?_) (fun h1 => ?_)
    · have hil : i < rows.length := by have h9 : (i : Int) < ((rowsV rows).length : Int) := h1; rw [rowsV_len] at h9; omega
      have hru := rows_u hr hil
      have hOf := rOf_s (rows.getD i []) (by omega) hru.2
      rw [rOf_v hru.2, digs_dg (vl_nonneg hru.2)] at hOf
      have hdl := dg_lenN (s := false) hru.2 rfl
      have hLe := Len_s (vl (rows.getD i [])) (by have h9 : sv false (rows.getD i []) = vl (rows.getD i []) := rfl; rw [← h9]; omega)
      refine jc_skip ?_; refine jc_seq ?_; refine jc_block ?_; refine jc_seq ?_; refine jc_region ?_; refine jo_l (ly_ial (i := i) (row := [.n false .u64 (rows.getD i [])]) sl81 rfl rfl (by omega) (rowsV_at hil)) (hd 11 rfl) ?_; refine jo_l (ly_ldq one25 rfl rfl) (hd 12 rfl) ?_; refine jo_l (ly_as rfl) (hd 6 rfl) ?_; refine jo_nil ?_; refine jc_seq ?_; refine jc_region ?_; refine jo_l (ly_mv rfl) (hd 13 rfl) ?_
      refine jo_call Try.f27 (hOf) rfl Try.func27 rfl rfl (ovL_cons rfl ovL_nil) (.cons .n .nil) (hd 14 rfl) ?_ (fun ch hp => by simp at hp)
      rintro y hy; injection hy with hy; subst hy
      refine jo_call Try.f46 (hLe) rfl Try.func46 rfl rfl (ovL_cons rfl ovL_nil) (.cons .n .nil) (hd 15 rfl) ?_ (fun ch hp => by simp at hp)
      rintro y hy; injection hy with hy; subst hy; refine jo_l (ly_mv rfl) (hd 16 rfl) ?_; refine jo_l (ly_gt rfl rfl) (hd 17 rfl) ?_; refine jo_nil ?_
      refine jc_if rfl (fun h2 => ?_) (fun h2 => ?_)
      · refine jc_seq ?_; refine jc_region ?_; refine jo_l (ly_as rfl) (hd 4 rfl) ?_; refine jo_nil ?_; refine jc_ret ?_
        refine ⟨_, _, (.cons rfl .nil), .b, ?_⟩
        rw [smallB_n hil (by omega)]
      · refine jc_skip ?_; refine jc_region ?_; refine jo_l (ly_add rfl rfl (r := ((i + 1 : Nat) : Int)) (by rw [wrap_i64 (by omega) (by omega)]; omega)) (hd 18 rfl) ?_; refine jo_l (ly_mv rfl) (hd 9 rfl) ?_; refine jo_nil ?_
        refine ⟨i + 1, ?_, ?_, rfl, cov_n 23 rfl rfl ?_⟩
        · exact ⟨by omega, fun j hjj => by rcases Nat.lt_or_ge j i with h9 | h9; exact hj j h9; rw [show j = i by omega]; omega⟩
        · omega
        · exact (.cons rfl (.u (.u (.u (.u (.u (.u (.u (.u (.u (.u (.u .nil))))))))))))
    · obtain rfl : i = rows.length := by have h9 : ¬ (i : Int) < ((rowsV rows).length : Int) := h1; rw [rowsV_len] at h9; omega
      refine jc_exit ?_; refine jc_seq ?_; refine jc_region ?_; refine jo_l (ly_as rfl) (hd 4 rfl) ?_; refine jo_nil ?_; refine jc_ret ?_
      refine ⟨_, _, (.cons rfl .nil), .b, ?_⟩
      rw [smallB_y hj]

end Go.Proofs.Ytcfdclehmpfkcaa.Vc

/- The contract of surdtop.WholeBezout. -/
namespace Go.Proofs.Ytcfdclehmpfkcaa.Vc
open Go Go.RowKit
theorem sml2 {K : Nat} {a b : List Int} (h : smallB K [a, b] = true) : lenV (vl a) ≤ K ∧ lenV (vl b) ≤ K := by
  unfold smallB at h
  simpa using h

end Go.Proofs.Ytcfdclehmpfkcaa.Vc

/- Contracts of mul.School, Karatsuba, div.Both. -/
namespace Go.Proofs.Ytcfdclehmpfkcaa.Vc
open Go Go.RowKit
set_option maxHeartbeats 4000000 in
theorem kway_s (c : Nat) (hc : c ≤ 1000) (a b : List Int) (hla : a.length < 4294967296) (hlb : b.length < 4294967296) (ua : u64s a) (ub : u64s b) : Spec Try.prog 104 [.n false .u64 a, .n false .u64 b, .q [.i .i64 (c : Int)]] (fun o => ∃ r, o = .ret (.n true .u64 r) ∧ u64s r ∧ r.length ≤ a.length + b.length + 1 ∧ vl r = vl a * vl b) := by
  refine spec_of' [(0, .n false .u64 a), (1, .n false .u64 b), (2, .q [.i .i64 (c : Int)])] rfl Try.func104 rfl (Nat.le_of_ble_eq_true rfl) fun Γ hN hds hL hR => ?_
  have hd : ∀ d, Nat.blt d 11 = true → d < Γ.N := fun d h => by rw [hN]; exact Nat.le_of_ble_eq_true h
  refine jc_seq ?_; refine jc_region ?_; refine jo_l (ly_as rfl) (hd 5 rfl) ?_; refine jo_nil ?_; refine jc_seq ?_; refine jc_region ?_; refine jo_l (ly_mv rfl) (hd 6 rfl) ?_; refine jo_l (ly_mv rfl) (hd 7 rfl) ?_; refine jo_l (ly_ldq one3 rfl rfl) (hd 8 rfl) ?_; refine jo_l (ly_is (ly_max rfl rfl) (show V.i .i64 _ = V.i .i64 ((max c 4 : Nat) : Int) by congr 1; omega)) (hd 9 rfl) ?_
  refine jo_call Try.f105 (halved_s (max c 4) (by omega) (by omega) a b (by omega) (by omega) ua ub) rfl Try.func105 rfl rfl (ovL_cons rfl (ovL_cons rfl (ovL_cons rfl ovL_nil))) (.cons .n (.cons .n (.cons .i .nil))) (hd 10 rfl) ?_ (fun ch hp => by simp at hp)
  rintro y ⟨rs, hy, us, ls, vs⟩; injection hy with hy; subst hy; refine jo_l (ly_as rfl) (hd 5 rfl) ?_; refine jo_nil ?_; refine jc_ret ?_
  refine ⟨_, _, (.cons rfl .nil), .n, ?_⟩
  exact ⟨rs, rfl, us, ls, vs⟩

set_option maxHeartbeats 4000000 in
theorem productS_l (a b : List Int) (hla : a.length < 4294967296) (hlb : b.length < 4294967296) (ua : u64s a) (ub : u64s b) : Spec Try.prog 102 [.n false .u64 a, .n false .u64 b, .f 103 []] (fun o => ∃ (r : List Int) (e : Int), o = .ret (.t [.n true .u64 r, .i .i64 e]) ∧ ErrL (vl a * vl b) r e) := by
  refine spec_of' [(0, .n false .u64 a), (1, .n false .u64 b), (2, .f 103 [])] rfl Try.func102 rfl (Nat.le_of_ble_eq_true rfl) fun Γ hN hds hL hR => ?_
  have hd : ∀ d, Nat.blt d 22 = true → d < Γ.N := fun d h => by rw [hN]; exact Nat.le_of_ble_eq_true h
  have hma := trm_len a
  have hmb := trm_len b
  refine jc_seq ?_; refine jc_region ?_; refine jo_l (ly_as rfl) (hd 6 rfl) ?_; refine jo_l (ly_as rfl) (hd 7 rfl) ?_; refine jo_nil ?_; refine jc_seq ?_; refine jc_region ?_; refine jo_l (ly_mv rfl) (hd 8 rfl) ?_
  refine jo_call Try.f99 (Norm_s a (by omega)) rfl Try.func99 rfl rfl (ovL_cons rfl ovL_nil) (.cons .n .nil) (hd 9 rfl) ?_ (fun ch hp => by simp at hp)
  rintro y hy; injection hy with hy; subst hy; refine jo_l (ly_mv rfl) (hd 10 rfl) ?_
  refine jo_call Try.f99 (Norm_s b (by omega)) rfl Try.func99 rfl rfl (ovL_cons rfl ovL_nil) (.cons .n .nil) (hd 11 rfl) ?_ (fun ch hp => by simp at hp)
  rintro y hy; injection hy with hy; subst hy; refine jo_l (ly_as rfl) (hd 0 rfl) ?_; refine jo_l (ly_as rfl) (hd 1 rfl) ?_; refine jo_nil ?_; refine jc_seq ?_; refine jc_seq ?_; refine jc_region ?_; refine jo_l (ly_mv rfl) (hd 12 rfl) ?_; refine jo_l (ly_mv rfl) (hd 13 rfl) ?_
  refine jo_call Try.f134 (great_e (trm a) (trm b) (by omega) (by omega) (u64s_trm ua) (u64s_trm ub)) rfl Try.func134 rfl rfl (ovL_cons rfl (ovL_cons rfl ovL_nil)) (.cons .n (.cons .n .nil)) (hd 14 rfl) ?_ (fun ch hp => by simp at hp)
  rintro y ⟨x, hy, hx⟩; injection hy with hy; subst hy; refine jo_nil ?_
  refine jc_cond rfl (fun h1 => ?_) (fun h1 => ?_)
  · refine jc_seq ?_; refine jc_region ?_; refine jo_l (ly_as rfl) (hd 6 rfl) ?_; refine jo_l (ly_as rfl) (hd 7 rfl) ?_; refine jo_nil ?_; refine jc_ret ?_
    refine ⟨_, _, (.cons rfl (.cons rfl .nil)), (.t1 (.nil (fr := true) (k := .u64)) (.t1 .i .t0)), ?_⟩
    refine ⟨[], 3, rfl, ?_⟩
    obtain ⟨g1, g2, g3⟩ := hx (by assumption)
    have := errN_great (r := []) (u64s_trm ua) (u64s_trm ub) g1 g2 g3
    rw [vl_trm, vl_trm] at this
    exact errL_of this
  · refine jc_skip ?_; refine jc_seq ?_; refine jc_region ?_; refine jo_l (ly_mv rfl) (hd 15 rfl) ?_; refine jo_l (ly_mv rfl) (hd 16 rfl) ?_; refine jo_l (ly_mv rfl) (hd 17 rfl) ?_
    refine jo_call Try.f103 (school_s (trm a) (trm b) (by omega) (by omega) (u64s_trm ua) (u64s_trm ub)) rfl Try.func103 rfl rfl (ovL_cons rfl (ovL_cons rfl ovL_nil)) (.cons .n (.cons .n .nil)) (hd 18 rfl) ?_ (fun ch hp => by simp at hp)
    rintro y ⟨rs, hy, us, ls, vs⟩; injection hy with hy; subst hy
    refine jo_call Try.f135 (mfits_l rs (by omega) us) rfl Try.func135 rfl rfl (ovL_cons rfl ovL_nil) (.cons .n .nil) (hd 19 rfl) ?_ (fun ch hp => by simp at hp)
    rintro y ⟨rf, ef, hy, hf⟩; injection hy with hy; subst hy; refine jo_l (ly_ext rfl rfl) (hd 20 rfl) ?_; refine jo_l (ly_ext rfl rfl) (hd 21 rfl) ?_; refine jo_l (ly_as rfl) (hd 6 rfl) ?_; refine jo_l (ly_as rfl) (hd 7 rfl) ?_; refine jo_nil ?_; refine jc_ret ?_
    refine ⟨_, _, (.cons rfl (.cons rfl .nil)), (.t1 .n (.t1 .i .t0)), ?_⟩
    exact ⟨rf, ef, rfl, by rwa [vs, vl_trm, vl_trm] at hf⟩

set_option maxHeartbeats 4000000 in
theorem productK_l (c : Nat) (hc : c ≤ 1000) (a b : List Int) (hla : a.length < 4294967296) (hlb : b.length < 4294967296) (ua : u64s a) (ub : u64s b) : Spec Try.prog 102 [.n false .u64 a, .n false .u64 b, .f 104 [.q [.i .i64 (c : Int)]]] (fun o => ∃ (r : List Int) (e : Int), o = .ret (.t [.n true .u64 r, .i .i64 e]) ∧ ErrL (vl a * vl b) r e) := by
  refine spec_of' [(0, .n false .u64 a), (1, .n false .u64 b), (2, .f 104 [.q [.i .i64 (c : Int)]])] rfl Try.func102 rfl (Nat.le_of_ble_eq_true rfl) fun Γ hN hds hL hR => ?_
  have hd : ∀ d, Nat.blt d 22 = true → d < Γ.N := fun d h => by rw [hN]; exact Nat.le_of_ble_eq_true h
  have hma := trm_len a
  have hmb := trm_len b
  refine jc_seq ?_; refine jc_region ?_; refine jo_l (ly_as rfl) (hd 6 rfl) ?_; refine jo_l (ly_as rfl) (hd 7 rfl) ?_; refine jo_nil ?_; refine jc_seq ?_; refine jc_region ?_; refine jo_l (ly_mv rfl) (hd 8 rfl) ?_
  refine jo_call Try.f99 (Norm_s a (by omega)) rfl Try.func99 rfl rfl (ovL_cons rfl ovL_nil) (.cons .n .nil) (hd 9 rfl) ?_ (fun ch hp => by simp at hp)
  rintro y hy; injection hy with hy; subst hy; refine jo_l (ly_mv rfl) (hd 10 rfl) ?_
  refine jo_call Try.f99 (Norm_s b (by omega)) rfl Try.func99 rfl rfl (ovL_cons rfl ovL_nil) (.cons .n .nil) (hd 11 rfl) ?_ (fun ch hp => by simp at hp)
  rintro y hy; injection hy with hy; subst hy; refine jo_l (ly_as rfl) (hd 0 rfl) ?_; refine jo_l (ly_as rfl) (hd 1 rfl) ?_; refine jo_nil ?_; refine jc_seq ?_; refine jc_seq ?_; refine jc_region ?_; refine jo_l (ly_mv rfl) (hd 12 rfl) ?_; refine jo_l (ly_mv rfl) (hd 13 rfl) ?_
  refine jo_call Try.f134 (great_e (trm a) (trm b) (by omega) (by omega) (u64s_trm ua) (u64s_trm ub)) rfl Try.func134 rfl rfl (ovL_cons rfl (ovL_cons rfl ovL_nil)) (.cons .n (.cons .n .nil)) (hd 14 rfl) ?_ (fun ch hp => by simp at hp)
  rintro y ⟨x, hy, hx⟩; injection hy with hy; subst hy; refine jo_nil ?_
  refine jc_cond rfl (fun h1 => ?_) (fun h1 => ?_)
  · refine jc_seq ?_; refine jc_region ?_; refine jo_l (ly_as rfl) (hd 6 rfl) ?_; refine jo_l (ly_as rfl) (hd 7 rfl) ?_; refine jo_nil ?_; refine jc_ret ?_
    refine ⟨_, _, (.cons rfl (.cons rfl .nil)), (.t1 (.nil (fr := true) (k := .u64)) (.t1 .i .t0)), ?_⟩
    refine ⟨[], 3, rfl, ?_⟩
    obtain ⟨g1, g2, g3⟩ := hx (by assumption)
    have := errN_great (r := []) (u64s_trm ua) (u64s_trm ub) g1 g2 g3
    rw [vl_trm, vl_trm] at this
    exact errL_of this
  · refine jc_skip ?_; refine jc_seq ?_; refine jc_region ?_; refine jo_l (ly_mv rfl) (hd 15 rfl) ?_; refine jo_l (ly_mv rfl) (hd 16 rfl) ?_; refine jo_l (ly_mv rfl) (hd 17 rfl) ?_
    refine jo_callC Try.f104 (kway_s c hc (trm a) (trm b) (by omega) (by omega) (u64s_trm ua) (u64s_trm ub)) rfl Try.func104 rfl rfl (ovL_cons rfl (ovL_cons rfl ovL_nil)) (.cons .n (.cons .n (.cons .q .nil))) (hd 18 rfl) ?_ (fun ch hp => by simp at hp)
    rintro y ⟨rs, hy, us, ls, vs⟩; injection hy with hy; subst hy
    refine jo_call Try.f135 (mfits_l rs (by omega) us) rfl Try.func135 rfl rfl (ovL_cons rfl ovL_nil) (.cons .n .nil) (hd 19 rfl) ?_ (fun ch hp => by simp at hp)
    rintro y ⟨rf, ef, hy, hf⟩; injection hy with hy; subst hy; refine jo_l (ly_ext rfl rfl) (hd 20 rfl) ?_; refine jo_l (ly_ext rfl rfl) (hd 21 rfl) ?_; refine jo_l (ly_as rfl) (hd 6 rfl) ?_; refine jo_l (ly_as rfl) (hd 7 rfl) ?_; refine jo_nil ?_; refine jc_ret ?_
    refine ⟨_, _, (.cons rfl (.cons rfl .nil)), (.t1 .n (.t1 .i .t0)), ?_⟩
    exact ⟨rf, ef, rfl, by rwa [vs, vl_trm, vl_trm] at hf⟩

set_option maxHeartbeats 4000000 in
theorem School_l (a b : List Int) (hla : a.length < 4294967296) (hlb : b.length < 4294967296) (ua : u64s a) (ub : u64s b) : Spec Try.prog 59 [.n false .u64 a, .n false .u64 b] (fun o => ∃ (r : List Int) (e : Int), o = .ret (.t [.n true .u64 r, .i .i64 e]) ∧ ErrL (vl a * vl b) r e) := by
  refine spec_of' [(0, .n false .u64 a), (1, .n false .u64 b)] rfl Try.func59 rfl (Nat.le_of_ble_eq_true rfl) fun Γ hN hds hL hR => ?_
  have hd : ∀ d, Nat.blt d 11 = true → d < Γ.N := fun d h => by rw [hN]; exact Nat.le_of_ble_eq_true h
  refine jc_seq ?_; refine jc_region ?_; refine jo_l (ly_as rfl) (hd 4 rfl) ?_; refine jo_l (ly_as rfl) (hd 5 rfl) ?_; refine jo_nil ?_; refine jc_seq ?_; refine jc_region ?_; refine jo_l (ly_mv rfl) (hd 6 rfl) ?_; refine jo_l (ly_mv rfl) (hd 7 rfl) ?_
  refine jo_call Try.f102 (productS_l a b hla hlb ua ub) rfl Try.func102 rfl rfl (ovL_cons rfl (ovL_cons rfl (ovL_cons rfl ovL_nil))) (.cons .n (.cons .n (.cons .f .nil))) (hd 8 rfl) ?_ (fun ch hp => by simp at hp)
  rintro y ⟨rp, ep, hy, hp⟩; injection hy with hy; subst hy; refine jo_l (ly_ext rfl rfl) (hd 9 rfl) ?_; refine jo_l (ly_ext rfl rfl) (hd 10 rfl) ?_; refine jo_l (ly_as rfl) (hd 4 rfl) ?_; refine jo_l (ly_as rfl) (hd 5 rfl) ?_; refine jo_nil ?_; refine jc_ret ?_
  refine ⟨_, _, (.cons rfl (.cons rfl .nil)), (.t1 .n (.t1 .i .t0)), ?_⟩
  exact ⟨rp, ep, rfl, hp⟩

set_option maxHeartbeats 4000000 in
theorem Karatsuba_l (c : Nat) (hc2 : 2 ≤ c) (hc : c ≤ 1000) (a b : List Int) (hla : a.length < 4294967296) (hlb : b.length < 4294967296) (ua : u64s a) (ub : u64s b) : Spec Try.prog 60 [.n false .u64 a, .n false .u64 b, .i .i64 (c : Int)] (fun o => ∃ (r : List Int) (e : Int), o = .ret (.t [.n true .u64 r, .i .i64 e]) ∧ ErrL (vl a * vl b) r e) := by
  refine spec_of' [(0, .n false .u64 a), (1, .n false .u64 b), (2, .i .i64 (c : Int))] rfl Try.func60 rfl (Nat.le_of_ble_eq_true rfl) fun Γ hN hds hL hR => ?_
  have hd : ∀ d, Nat.blt d 16 = true → d < Γ.N := fun d h => by rw [hN]; exact Nat.le_of_ble_eq_true h
  refine jc_seq ?_; refine jc_region ?_; refine jo_h (hy_box (id := 0) (n := 1) rfl rfl rfl (by decide) rfl) (hd 5 rfl) ?_; refine jo_l (ly_as rfl) (hd 6 rfl) ?_; refine jo_l (ly_as rfl) (hd 7 rfl) ?_; refine jo_nil ?_; refine jc_seq ?_; refine jc_seq ?_; refine jc_region ?_; refine jo_l (ly_ld one3 rfl rfl rfl) (hd 8 rfl) ?_; refine jo_l (ly_ff (ly_lt rfl rfl) (by omega)) (hd 9 rfl) ?_; refine jo_nil ?_; refine jc_litf rfl ?_; refine jc_skip ?_; refine jc_seq ?_; refine jc_region ?_; refine jo_l (ly_mv rfl) (hd 10 rfl) ?_; refine jo_l (ly_mv rfl) (hd 11 rfl) ?_; refine jo_frzp 5 (zs := [.i .i64 (c : Int)]) rfl rfl rfl rfl hL ?_; refine jo_l (ly_mf (ovL_cons rfl ovL_nil)) (hd 12 rfl) ?_
  refine jo_call Try.f102 (productK_l c hc a b hla hlb ua ub) rfl Try.func102 rfl rfl (ovL_cons rfl (ovL_cons rfl (ovL_cons rfl ovL_nil))) (.cons .n (.cons .n (.cons (.fc (.a1 .q .a0)) .nil))) (hd 13 rfl) ?_ (fun ch hp => by simp at hp)
  rintro y ⟨rp, ep, hy, hp⟩; injection hy with hy; subst hy; refine jo_l (ly_ext rfl rfl) (hd 14 rfl) ?_; refine jo_l (ly_ext rfl rfl) (hd 15 rfl) ?_; refine jo_l (ly_as rfl) (hd 6 rfl) ?_; refine jo_l (ly_as rfl) (hd 7 rfl) ?_; refine jo_nil ?_; refine jc_ret ?_
  refine ⟨_, _, (.cons rfl (.cons rfl .nil)), (.t1 .n (.t1 .i .t0)), ?_⟩
  exact ⟨rp, ep, rfl, hp⟩

theorem School_rv (a b : List Int) (hla : a.length < 4294967296) (hlb : b.length < 4294967296) (ua : u64s a) (ub : u64s b) (hf : lenV (vl a * vl b) ≤ 67108864) : Spec Try.prog 59 [.n false .u64 a, .n false .u64 b] (fun o => o = .ret (.t [.n true .u64 (lm (vl a * vl b)), .i .i64 0])) :=
  (School_l a b hla hlb ua ub).mono fun o ⟨r, e, ho, h⟩ => by
    obtain ⟨rfl, rfl⟩ := errL_fit h hf
    exact ho

theorem Karatsuba_rv (c : Nat) (hc2 : 2 ≤ c) (hc : c ≤ 1000) (a b : List Int) (hla : a.length < 4294967296) (hlb : b.length < 4294967296) (ua : u64s a) (ub : u64s b) (hf : lenV (vl a * vl b) ≤ 67108864) : Spec Try.prog 60 [.n false .u64 a, .n false .u64 b, .i .i64 (c : Int)] (fun o => o = .ret (.t [.n true .u64 (lm (vl a * vl b)), .i .i64 0])) :=
  (Karatsuba_l c hc2 hc a b hla hlb ua ub).mono fun o ⟨r, e, ho, h⟩ => by
    obtain ⟨rfl, rfl⟩ := errL_fit h hf
    exact ho

theorem Mul_rv (a b : List Int) (hla : a.length < 4294967296) (hlb : b.length < 4294967296) (ua : u64s a) (ub : u64s b) (hf : lenV (vl a * vl b) ≤ 67108864) : Spec Try.prog 61 [.n false .u64 a, .n false .u64 b] (fun o => o = .ret (.t [.n true .u64 (lm (vl a * vl b)), .i .i64 0])) :=
  (Mul_l a b hla hlb ua ub).mono fun o ⟨r, e, ho, h⟩ => by
    obtain ⟨rfl, rfl⟩ := errL_fit h hf
    exact ho

set_option maxHeartbeats 4000000 in
theorem Both_w (v : Int) (l : List Int) (hl : l.length ≤ 1048576) (hu : u64s l) (hv : lenV v ≤ 67108864) (h0 : vl l ≠ 0) : Spec Try.prog 62 [.n false .u64 (lm v), .n false .u64 l] (fun o => o = .ret (.t [.n false .u64 (lm (qn v (vl l))), .n false .u64 (lm (rn v (vl l))), .i .i64 0])) := by
  refine spec_of' [(0, .n false .u64 (lm v)), (1, .n false .u64 l)] rfl Try.func62 rfl (Nat.le_of_ble_eq_true rfl) fun Γ hN hds hL hR => ?_
  have hd : ∀ d, Nat.blt d 32 = true → d < Γ.N := fun d h => by rw [hN]; exact Nat.le_of_ble_eq_true h
  have hw : lenV (vl l) ≤ 67108864 := by have := lenV_64 (s := false) hu; have e : sv false l = vl l := rfl; rw [e] at this; omega
  have hlw := lenV_lm hw
  have hlv := lenV_lm hv
  have hle := lenV_mono (v := qn v (vl l)) (w := v) qn_le
  have hlr := lenV_mono (v := rn v (vl l)) (w := vl l) (rn_le h0).1
  have hlq := lenV_lm (v := qn v (vl l)) (by omega)
  have hlR := lenV_lm (v := rn v (vl l)) (by omega)
  have hne := lm_ne h0
  have hNl : Spec Try.prog 99 [.n false .u64 l] (fun o => o = .ret (.n true .u64 (lm (vl l)))) := by have h := Norm_s l (by omega); rwa [trm_lm hu rfl] at h
  refine jc_seq ?_; refine jc_region ?_; refine jo_l (ly_as rfl) (hd 4 rfl) ?_; refine jo_l (ly_as rfl) (hd 5 rfl) ?_; refine jo_l (ly_as rfl) (hd 6 rfl) ?_; refine jo_nil ?_; refine jc_seq ?_; refine jc_region ?_; refine jo_l (ly_mv rfl) (hd 9 rfl) ?_
  refine jo_call Try.f99 (Norm_v v (by omega)) rfl Try.func99 rfl rfl (ovL_cons rfl ovL_nil) (.cons .n .nil) (hd 10 rfl) ?_ (fun ch hp => by simp at hp)
  rintro y hy; injection hy with hy; subst hy; refine jo_l (ly_mv rfl) (hd 11 rfl) ?_
  refine jo_call Try.f99 (hNl) rfl Try.func99 rfl rfl (ovL_cons rfl ovL_nil) (.cons .n .nil) (hd 12 rfl) ?_ (fun ch hp => by simp at hp)
  rintro y hy; injection hy with hy; subst hy; refine jo_l (ly_as rfl) (hd 0 rfl) ?_; refine jo_l (ly_as rfl) (hd 1 rfl) ?_; refine jo_nil ?_; refine jc_seq ?_; refine jc_seq ?_; refine jc_region ?_; refine jo_l (ly_mv rfl) (hd 13 rfl) ?_; refine jo_l (ly_lenn sl28 rfl) (hd 14 rfl) ?_; refine jo_l (ly_ff (ly_eq rfl rfl) (fun h => hne (List.eq_nil_of_length_eq_zero (by omega)))) (hd 15 rfl) ?_; refine jo_nil ?_; refine jc_litf rfl ?_; refine jc_skip ?_; refine jc_seq ?_; refine jc_region ?_; refine jo_l (ly_mv rfl) (hd 17 rfl) ?_; refine jo_l (ly_mv rfl) (hd 18 rfl) ?_
  refine jo_call Try.f100 (divide_v v (vl l) (by omega) (by omega) h0) rfl Try.func100 rfl rfl (ovL_cons rfl (ovL_cons rfl ovL_nil)) (.cons .n (.cons .n .nil)) (hd 19 rfl) ?_ (fun ch hp => by simp at hp)
  rintro y hy; injection hy with hy; subst hy; refine jo_l (ly_mv rfl) (hd 16 rfl) ?_; refine jo_l (ly_ext rfl rfl) (hd 20 rfl) ?_; refine jo_l (ly_ext rfl rfl) (hd 21 rfl) ?_; refine jo_l (ly_as rfl) (hd 7 rfl) ?_; refine jo_l (ly_as rfl) (hd 8 rfl) ?_; refine jo_nil ?_; refine jc_seq ?_; refine jc_seq ?_; refine jc_region ?_; refine jo_l (ly_mv rfl) (hd 22 rfl) ?_
  refine jo_call Try.f33 (Length_v (qn v (vl l)) (by omega)) rfl Try.func33 rfl rfl (ovL_cons rfl ovL_nil) (.cons .n .nil) (hd 23 rfl) ?_ (fun ch hp => by simp at hp)
  rintro y hy; injection hy with hy; subst hy; refine jo_l (ly_ff (ly_gt rfl rfl) (by omega)) (hd 24 rfl) ?_; refine jo_l (ly_mv rfl) (hd 25 rfl) ?_; refine jo_g 25 rfl rfl (ly_mv rfl) (hd 26 rfl) ?_
  refine jo_callg Try.f33 25 rfl rfl (Length_v (rn v (vl l)) (by omega)) rfl Try.func33 rfl rfl (ovL_cons rfl ovL_nil) (.cons .n .nil) (hd 27 rfl) ?_ (fun ch hp => by simp at hp)
  rintro y hy; injection hy with hy; subst hy; refine jo_g 25 rfl rfl (ly_ff (ly_gt rfl rfl) (by omega)) (hd 28 rfl) ?_; refine jo_l (ly_pick_f rfl rfl) (hd 29 rfl) ?_; refine jo_nil ?_; refine jc_litf rfl ?_; refine jc_skip ?_; refine jc_seq ?_; refine jc_region ?_; refine jo_l (ly_mv rfl) (hd 30 rfl) ?_; refine jo_l (ly_mv rfl) (hd 31 rfl) ?_; refine jo_l (ly_as rfl) (hd 4 rfl) ?_; refine jo_l (ly_as rfl) (hd 5 rfl) ?_; refine jo_l (ly_as rfl) (hd 6 rfl) ?_; refine jo_nil ?_; refine jc_ret ?_
  refine ⟨_, _, (.cons rfl (.cons rfl (.cons rfl .nil))), (.t1 .n (.t1 .n (.t1 .i .t0))), ?_⟩
  exact rfl
end Go.Proofs.Ytcfdclehmpfkcaa.Vc

/- The contract of surdtop.WholeTower. -/
namespace Go.Proofs.Ytcfdclehmpfkcaa.Vc
open Go Go.RowKit
set_option maxHeartbeats 20000000 in
set_option maxRecDepth 100000 in
theorem WholeTower_b (a b : List Int) (c : Int) (hab : a.length + b.length ≤ 1048574) (ua : u64s a) (ub : u64s b) (hc0 : -9223372036854775808 ≤ c) (hc9 : c < 9223372036854775808) (hbs : smallB 1048576 [a, b] = false) : Spec Try.prog 13 [.n false .u64 a, .n false .u64 b, .i .i64 c] (fun o => o = .ret (.b true)) := by
  refine spec_of' [(0, .n false .u64 a), (1, .n false .u64 b), (2, .i .i64 c)] rfl Try.func13 rfl (Nat.le_of_ble_eq_true rfl) fun Γ hN hds hL hR => ?_
  have hd : ∀ d, Nat.blt d 115 = true → d < Γ.N := fun d h => by rw [hN]; exact Nat.le_of_ble_eq_true h
  have hSm : Spec Try.prog 48 [.i .i64 1048576, .l false 1 (rowsV [a, b])] (fun o => o = .ret (.b false)) := by have h := small_s 1048576 [a, b] (fun l hl => by simp only [List.mem_cons, List.mem_nil_iff, or_false] at hl; rcases hl with rfl | rfl <;> exact ⟨by omega, by assumption⟩) (by simp); rwa [hbs] at h
  refine jc_seq ?_; refine jc_region ?_; refine jo_l (ly_as rfl) (hd 6 rfl) ?_; refine jo_nil ?_; refine jc_seq ?_; refine jc_seq ?_; refine jc_region ?_; refine jo_l (ly_mv rfl) (hd 18 rfl) ?_; refine jo_l (ly_mv rfl) (hd 19 rfl) ?_; refine jo_h (hy_lit (id := 0) (xs := [.tmp 18, .tmp 19]) el81 rfl (ovL_cons rfl (ovL_cons rfl ovL_nil)) rfl (all2_of rfl) (by decide) rfl) (hd 20 rfl) ?_; refine jo_frzr 20 (sz := 1) (rowsV [a, b]) rfl rfl rfl rfl (by simp [rowsV]) (by simp [rowsV, pureV]) (by decide) hL ?_
  refine jo_call Try.f48 (hSm) rfl Try.func48 rfl rfl (ovL_cons rfl (ovL_cons rfl ovL_nil)) (.cons .i (.cons .l .nil)) (hd 21 rfl) ?_ (fun ch hp => by simp at hp)
  rintro y hy; injection hy with hy; subst hy; refine jo_l (ly_not rfl) (hd 22 rfl) ?_; refine jo_nil ?_; refine jc_litt rfl ?_; refine jc_seq ?_; refine jc_region ?_
  refine jo_call Try.f49 (works_s) rfl Try.func49 rfl rfl ovL_nil .nil (hd 23 rfl) ?_ (fun ch hp => by simp at hp)
  rintro y hy; injection hy with hy; subst hy; refine jo_l (ly_as rfl) (hd 6 rfl) ?_; refine jo_nil ?_; refine jc_ret ?_
  refine ⟨_, _, (.cons rfl .nil), .b, ?_⟩
  exact rfl

set_option maxHeartbeats 20000000 in
set_option maxRecDepth 100000 in
theorem WholeTower_z (a b : List Int) (c : Int) (hab : a.length + b.length ≤ 1048574) (ua : u64s a) (ub : u64s b) (hc0 : -9223372036854775808 ≤ c) (hc9 : c < 9223372036854775808) (hbs : smallB 1048576 [a, b] = true) (h0 : vl b = 0) : Spec Try.prog 13 [.n false .u64 a, .n false .u64 b, .i .i64 c] (fun o => o = .ret (.b true)) := by
  refine spec_of' [(0, .n false .u64 a), (1, .n false .u64 b), (2, .i .i64 c)] rfl Try.func13 rfl (Nat.le_of_ble_eq_true rfl) fun Γ hN hds hL hR => ?_
  have hd : ∀ d, Nat.blt d 115 = true → d < Γ.N := fun d h => by rw [hN]; exact Nat.le_of_ble_eq_true h
  have hSm : Spec Try.prog 48 [.i .i64 1048576, .l false 1 (rowsV [a, b])] (fun o => o = .ret (.b true)) := by have h := small_s 1048576 [a, b] (fun l hl => by simp only [List.mem_cons, List.mem_nil_iff, or_false] at hl; rcases hl with rfl | rfl <;> exact ⟨by omega, by assumption⟩) (by simp); rwa [hbs] at h
  have hs2 := sml2 hbs
  have hmm := lenV_mul (vl a) (vl b)
  have hva := vl_nonneg ua
  have hvb := vl_nonneg ub
  have hvp := Int.mul_nonneg hva hvb
  have hmp := lenV_lm (v := (vl a * vl b)) (by omega)
  have hSc := School_rv a b (by omega) (by omega) ua ub (by omega)
  have hMl := Mul_rv a b (by omega) (by omega) ua ub (by omega)
  have hCx : Spec Try.prog 22 [.n false .u64 (lm (vl a * vl b)), .n false .u64 (lm (vl a * vl b))] (fun o => o = .ret (.i .i64 0)) := by have h := Cmp_n (vl a * vl b) (vl a * vl b) hvp hvp (by omega) (by omega); rwa [cmpI_0.2 rfl] at h
  have hRl : (hdg 10 1 (vl a * vl b).toNat).length ≤ 67108864 := by rw [hdg_le]; have h1 := digs_le_len (l := lm (vl a * vl b)) (b := 10) (lm_u _) (by decide); rw [vl_lm hvp] at h1; omega
  have hRn : (hdg 10 1 (vl a * vl b).toNat) ≠ [] := fun h => by have h1 := congrArg List.length h; rw [hdg_le] at h1; simp at h1
  have hrb := hdg_rng (b := 10) (by decide) 1 (vl a * vl b).toNat
  have hhv : hv 10 (hdg 10 1 (vl a * vl b).toNat) = (vl a * vl b) := by rw [hv_hdg (by decide)]; exact Int.toNat_of_nonneg hvp
  have hPr : Spec Try.prog 21 [.n false .u64 (lm (vl a * vl b)), .i .i64 10] (fun o => o = .ret (.t [.s (txt (hdg 10 1 (vl a * vl b).toNat)), .i .i64 0])) := by have h := Print_s (lm (vl a * vl b)) 10 (by omega) (lm_u _) (by decide) (by decide); rwa [vl_lm hvp] at h
  have hPa : Spec Try.prog 16 [.s (txt (hdg 10 1 (vl a * vl b).toNat)), .i .i64 10] (fun o => o = .ret (.t [.n false .u64 (lm (vl a * vl b)), .i .i64 0])) := by have h := Parse_d (hdg 10 1 (vl a * vl b).toNat) hrb hRn (by omega) (by rw [hhv]; omega); rwa [hhv] at h
  refine jc_seq ?_; refine jc_region ?_; refine jo_l (ly_as rfl) (hd 6 rfl) ?_; refine jo_nil ?_; refine jc_seq ?_; refine jc_seq ?_; refine jc_region ?_; refine jo_l (ly_mv rfl) (hd 18 rfl) ?_; refine jo_l (ly_mv rfl) (hd 19 rfl) ?_; refine jo_h (hy_lit (id := 0) (xs := [.tmp 18, .tmp 19]) el81 rfl (ovL_cons rfl (ovL_cons rfl ovL_nil)) rfl (all2_of rfl) (by decide) rfl) (hd 20 rfl) ?_; refine jo_frzr 20 (sz := 1) (rowsV [a, b]) rfl rfl rfl rfl (by simp [rowsV]) (by simp [rowsV, pureV]) (by decide) hL ?_
  refine jo_call Try.f48 (hSm) rfl Try.func48 rfl rfl (ovL_cons rfl (ovL_cons rfl ovL_nil)) (.cons .i (.cons .l .nil)) (hd 21 rfl) ?_ (fun ch hp => by simp at hp)
  rintro y hy; injection hy with hy; subst hy; refine jo_l (ly_not rfl) (hd 22 rfl) ?_; refine jo_nil ?_; refine jc_litf rfl ?_; refine jc_skip ?_; refine jc_seq ?_; refine jc_region ?_; refine jo_l (ly_mv rfl) (hd 24 rfl) ?_
  refine jo_call Try.f58 (put_s c hc0 hc9) rfl Try.func58 rfl rfl (ovL_cons rfl (ovL_cons rfl (ovL_cons rfl ovL_nil))) (.cons .i (.cons .i (.cons .i .nil))) (hd 25 rfl) ?_ (fun ch hp => by simp at hp)
  rintro y ⟨bb, hlb, hb2, hy⟩; injection hy with hy; subst hy; refine jo_l (ly_as rfl) (hd 2 rfl) ?_; refine jo_nil ?_; refine jc_seq ?_; refine jc_region ?_; refine jo_l (ly_mv rfl) (hd 27 rfl) ?_; refine jo_l (ly_mv rfl) (hd 28 rfl) ?_
  refine jo_call Try.f59 (hSc) rfl Try.func59 rfl rfl (ovL_cons rfl (ovL_cons rfl ovL_nil)) (.cons .n (.cons .n .nil)) (hd 29 rfl) ?_ (fun ch hp => by simp at hp)
  rintro y hy; injection hy with hy; subst hy; refine jo_l (ly_mv rfl) (hd 26 rfl) ?_; refine jo_l (ly_ext rfl rfl) (hd 30 rfl) ?_; refine jo_l (ly_ext rfl rfl) (hd 31 rfl) ?_; refine jo_l (ly_as rfl) (hd 7 rfl) ?_; refine jo_l (ly_as rfl) (hd 8 rfl) ?_; refine jo_nil ?_; refine jc_seq ?_; refine jc_region ?_; refine jo_l (ly_mv rfl) (hd 33 rfl) ?_; refine jo_l (ly_mv rfl) (hd 34 rfl) ?_; refine jo_l (ly_mv rfl) (hd 35 rfl) ?_
  refine jo_call Try.f60 (Karatsuba_rv bb hlb (by omega) a b (by omega) (by omega) ua ub (by omega)) rfl Try.func60 rfl rfl (ovL_cons rfl (ovL_cons rfl (ovL_cons rfl ovL_nil))) (.cons .n (.cons .n (.cons .i .nil))) (hd 36 rfl) ?_ (fun ch hp => by simp at hp)
  rintro y hy; injection hy with hy; subst hy; refine jo_l (ly_mv rfl) (hd 32 rfl) ?_; refine jo_l (ly_ext rfl rfl) (hd 37 rfl) ?_; refine jo_l (ly_ext rfl rfl) (hd 38 rfl) ?_; refine jo_l (ly_as rfl) (hd 9 rfl) ?_; refine jo_l (ly_as rfl) (hd 10 rfl) ?_; refine jo_nil ?_; refine jc_seq ?_; refine jc_region ?_; refine jo_l (ly_mv rfl) (hd 40 rfl) ?_; refine jo_l (ly_mv rfl) (hd 41 rfl) ?_
  refine jo_call Try.f61 (hMl) rfl Try.func61 rfl rfl (ovL_cons rfl (ovL_cons rfl ovL_nil)) (.cons .n (.cons .n .nil)) (hd 42 rfl) ?_ (fun ch hp => by simp at hp)
  rintro y hy; injection hy with hy; subst hy; refine jo_l (ly_mv rfl) (hd 39 rfl) ?_; refine jo_l (ly_ext rfl rfl) (hd 43 rfl) ?_; refine jo_l (ly_ext rfl rfl) (hd 44 rfl) ?_; refine jo_l (ly_as rfl) (hd 11 rfl) ?_; refine jo_l (ly_as rfl) (hd 12 rfl) ?_; refine jo_nil ?_; refine jc_seq ?_; refine jc_seq ?_; refine jc_region ?_; refine jo_l (ly_mv rfl) (hd 45 rfl) ?_; refine jo_l (ly_ff (ly_ne rfl rfl) (by decide)) (hd 46 rfl) ?_; refine jo_l (ly_mv rfl) (hd 47 rfl) ?_; refine jo_g 47 rfl rfl (ly_mv rfl) (hd 48 rfl) ?_; refine jo_g 47 rfl rfl (ly_ff (ly_ne rfl rfl) (by decide)) (hd 49 rfl) ?_; refine jo_l (ly_pick_f rfl rfl) (hd 50 rfl) ?_; refine jo_l (ly_mv rfl) (hd 51 rfl) ?_; refine jo_g 51 rfl rfl (ly_mv rfl) (hd 52 rfl) ?_; refine jo_g 51 rfl rfl (ly_ff (ly_ne rfl rfl) (by decide)) (hd 53 rfl) ?_; refine jo_l (ly_pick_f rfl rfl) (hd 54 rfl) ?_; refine jo_l (ly_mv rfl) (hd 55 rfl) ?_; refine jo_g 55 rfl rfl (ly_mv rfl) (hd 56 rfl) ?_; refine jo_g 55 rfl rfl (ly_mv rfl) (hd 57 rfl) ?_
  refine jo_callg Try.f22 55 rfl rfl (hCx) rfl Try.func22 rfl rfl (ovL_cons rfl (ovL_cons rfl ovL_nil)) (.cons .n (.cons .n .nil)) (hd 58 rfl) ?_ (fun ch hp => by simp at hp)
  rintro y hy; injection hy with hy; subst hy; refine jo_g 55 rfl rfl (ly_ff (ly_ne rfl rfl) (by decide)) (hd 59 rfl) ?_; refine jo_l (ly_pick_f rfl rfl) (hd 60 rfl) ?_; refine jo_l (ly_mv rfl) (hd 61 rfl) ?_; refine jo_g 61 rfl rfl (ly_mv rfl) (hd 62 rfl) ?_; refine jo_g 61 rfl rfl (ly_mv rfl) (hd 63 rfl) ?_
  refine jo_callg Try.f22 61 rfl rfl (hCx) rfl Try.func22 rfl rfl (ovL_cons rfl (ovL_cons rfl ovL_nil)) (.cons .n (.cons .n .nil)) (hd 64 rfl) ?_ (fun ch hp => by simp at hp)
  rintro y hy; injection hy with hy; subst hy; refine jo_g 61 rfl rfl (ly_ff (ly_ne rfl rfl) (by decide)) (hd 65 rfl) ?_; refine jo_l (ly_pick_f rfl rfl) (hd 66 rfl) ?_; refine jo_nil ?_; refine jc_litf rfl ?_; refine jc_skip ?_; refine jc_seq ?_; refine jc_seq ?_; refine jc_region ?_; refine jo_l (ly_mv rfl) (hd 67 rfl) ?_
  refine jo_call Try.f33 (Length_s b (by omega) ub) rfl Try.func33 rfl rfl (ovL_cons rfl ovL_nil) (.cons .n .nil) (hd 68 rfl) ?_ (fun ch hp => by simp at hp)
  rintro y hy; injection hy with hy; subst hy; refine jo_l (ly_ff (ly_gt rfl rfl) (by have h9 := lenN_zero ub; omega)) (hd 69 rfl) ?_; refine jo_nil ?_; refine jc_litf rfl ?_; refine jc_skip ?_; refine jc_seq ?_; refine jc_region ?_; refine jo_l (ly_mv rfl) (hd 91 rfl) ?_
  refine jo_call Try.f21 (hPr) rfl Try.func21 rfl rfl (ovL_cons rfl (ovL_cons rfl ovL_nil)) (.cons .n (.cons .i .nil)) (hd 92 rfl) ?_ (fun ch hp => by simp at hp)
  rintro y hy; injection hy with hy; subst hy; refine jo_l (ly_mv rfl) (hd 90 rfl) ?_; refine jo_l (ly_ext rfl rfl) (hd 93 rfl) ?_; refine jo_l (ly_ext rfl rfl) (hd 94 rfl) ?_; refine jo_l (ly_as rfl) (hd 16 rfl) ?_; refine jo_l (ly_as rfl) (hd 8 rfl) ?_; refine jo_nil ?_; refine jc_seq ?_; refine jc_region ?_; refine jo_l (ly_mv rfl) (hd 96 rfl) ?_
  refine jo_call Try.f16 (hPa) rfl Try.func16 rfl rfl (ovL_cons rfl (ovL_cons rfl ovL_nil)) (.cons .s (.cons .i .nil)) (hd 97 rfl) ?_ (fun ch hp => by simp at hp)
  rintro y hy; injection hy with hy; subst hy; refine jo_l (ly_mv rfl) (hd 95 rfl) ?_; refine jo_l (ly_ext rfl rfl) (hd 98 rfl) ?_; refine jo_l (ly_ext rfl rfl) (hd 99 rfl) ?_; refine jo_l (ly_as rfl) (hd 17 rfl) ?_; refine jo_l (ly_as rfl) (hd 10 rfl) ?_; refine jo_nil ?_; refine jc_seq ?_; refine jc_region ?_; refine jo_l (ly_mv rfl) (hd 100 rfl) ?_; refine jo_l (ly_tt (ly_eq rfl rfl) rfl) (hd 101 rfl) ?_; refine jo_l (ly_mv rfl) (hd 102 rfl) ?_; refine jo_g 102 rfl rfl (ly_mv rfl) (hd 103 rfl) ?_; refine jo_g 102 rfl rfl (ly_tt (ly_eq rfl rfl) rfl) (hd 104 rfl) ?_; refine jo_l (ly_pick_t rfl rfl) (hd 105 rfl) ?_; refine jo_l (ly_mv rfl) (hd 106 rfl) ?_; refine jo_g 106 rfl rfl (ly_mv rfl) (hd 107 rfl) ?_; refine jo_g 106 rfl rfl (ly_mv rfl) (hd 108 rfl) ?_
  refine jo_callg Try.f22 106 rfl rfl (hCx) rfl Try.func22 rfl rfl (ovL_cons rfl (ovL_cons rfl ovL_nil)) (.cons .n (.cons .n .nil)) (hd 109 rfl) ?_ (fun ch hp => by simp at hp)
  rintro y hy; injection hy with hy; subst hy; refine jo_g 106 rfl rfl (ly_tt (ly_eq rfl rfl) rfl) (hd 110 rfl) ?_; refine jo_l (ly_pick_t rfl rfl) (hd 111 rfl) ?_; refine jo_l (ly_mv rfl) (hd 112 rfl) ?_
  refine jo_callg Try.f49 112 rfl rfl (works_s) rfl Try.func49 rfl rfl ovL_nil .nil (hd 113 rfl) ?_ (fun ch hp => by simp at hp)
  rintro y hy; injection hy with hy; subst hy; refine jo_l (ly_pick_t rfl rfl) (hd 114 rfl) ?_; refine jo_l (ly_as rfl) (hd 6 rfl) ?_; refine jo_nil ?_; refine jc_ret ?_
  refine ⟨_, _, (.cons rfl .nil), .b, ?_⟩
  exact rfl

set_option maxHeartbeats 20000000 in
set_option maxRecDepth 100000 in
theorem WholeTower_n (a b : List Int) (c : Int) (hab : a.length + b.length ≤ 1048574) (ua : u64s a) (ub : u64s b) (hc0 : -9223372036854775808 ≤ c) (hc9 : c < 9223372036854775808) (hbs : smallB 1048576 [a, b] = true) (h0 : vl b ≠ 0) : Spec Try.prog 13 [.n false .u64 a, .n false .u64 b, .i .i64 c] (fun o => o = .ret (.b true)) := by
  refine spec_of' [(0, .n false .u64 a), (1, .n false .u64 b), (2, .i .i64 c)] rfl Try.func13 rfl (Nat.le_of_ble_eq_true rfl) fun Γ hN hds hL hR => ?_
  have hd : ∀ d, Nat.blt d 115 = true → d < Γ.N := fun d h => by rw [hN]; exact Nat.le_of_ble_eq_true h
  have hSm : Spec Try.prog 48 [.i .i64 1048576, .l false 1 (rowsV [a, b])] (fun o => o = .ret (.b true)) := by have h := small_s 1048576 [a, b] (fun l hl => by simp only [List.mem_cons, List.mem_nil_iff, or_false] at hl; rcases hl with rfl | rfl <;> exact ⟨by omega, by assumption⟩) (by simp); rwa [hbs] at h
  have hs2 := sml2 hbs
  have hmm := lenV_mul (vl a) (vl b)
  have hva := vl_nonneg ua
  have hvb := vl_nonneg ub
  have hvp := Int.mul_nonneg hva hvb
  have hmp := lenV_lm (v := (vl a * vl b)) (by omega)
  have hSc := School_rv a b (by omega) (by omega) ua ub (by omega)
  have hMl := Mul_rv a b (by omega) (by omega) ua ub (by omega)
  have hCx : Spec Try.prog 22 [.n false .u64 (lm (vl a * vl b)), .n false .u64 (lm (vl a * vl b))] (fun o => o = .ret (.i .i64 0)) := by have h := Cmp_n (vl a * vl b) (vl a * vl b) hvp hvp (by omega) (by omega); rwa [cmpI_0.2 rfl] at h
  have hRl : (hdg 10 1 (vl a * vl b).toNat).length ≤ 67108864 := by rw [hdg_le]; have h1 := digs_le_len (l := lm (vl a * vl b)) (b := 10) (lm_u _) (by decide); rw [vl_lm hvp] at h1; omega
  have hRn : (hdg 10 1 (vl a * vl b).toNat) ≠ [] := fun h => by have h1 := congrArg List.length h; rw [hdg_le] at h1; simp at h1
  have hrb := hdg_rng (b := 10) (by decide) 1 (vl a * vl b).toNat
  have hhv : hv 10 (hdg 10 1 (vl a * vl b).toNat) = (vl a * vl b) := by rw [hv_hdg (by decide)]; exact Int.toNat_of_nonneg hvp
  have hPr : Spec Try.prog 21 [.n false .u64 (lm (vl a * vl b)), .i .i64 10] (fun o => o = .ret (.t [.s (txt (hdg 10 1 (vl a * vl b).toNat)), .i .i64 0])) := by have h := Print_s (lm (vl a * vl b)) 10 (by omega) (lm_u _) (by decide) (by decide); rwa [vl_lm hvp] at h
  have hPa : Spec Try.prog 16 [.s (txt (hdg 10 1 (vl a * vl b).toNat)), .i .i64 10] (fun o => o = .ret (.t [.n false .u64 (lm (vl a * vl b)), .i .i64 0])) := by have h := Parse_d (hdg 10 1 (vl a * vl b).toNat) hrb hRn (by omega) (by rw [hhv]; omega); rwa [hhv] at h
  have hqe : qn (vl a * vl b) (vl b) = vl a := by unfold qn; rw [← Int.natCast_ediv, Int.natAbs_mul, Nat.mul_div_cancel _ (by omega)]; omega
  have hre : rn (vl a * vl b) (vl b) = 0 := by unfold rn; rw [← Int.natCast_emod, Int.natAbs_mul, Nat.mul_mod_left]; rfl
  have hBo : Spec Try.prog 62 [.n false .u64 (lm (vl a * vl b)), .n false .u64 b] (fun o => o = .ret (.t [.n false .u64 (lm (vl a)), .n false .u64 [], .i .i64 0])) := by have h := Both_w (vl a * vl b) b (by omega) ub (by omega) h0; rwa [hqe, hre, lm_0] at h
  have hCq : Spec Try.prog 22 [.n false .u64 (lm (vl a)), .n false .u64 a] (fun o => o = .ret (.i .i64 0)) := by have h9 := lenV_lm (v := vl a) (by omega); have h := Compare_s (lm (vl a)) a (by omega) (by omega); rwa [cmpL_same ua] at h
  have hLz : Spec Try.prog 33 [.n false .u64 []] (fun o => o = .ret (.i .i64 0)) := by have h := Length_s [] (by decide) (fun x hx => by cases hx); rwa [show ((lenN [] : Nat) : Int) = 0 by decide +kernel] at h
  refine jc_seq ?_; refine jc_region ?_; refine jo_l (ly_as rfl) (hd 6 rfl) ?_; refine jo_nil ?_; refine jc_seq ?_; refine jc_seq ?_; refine jc_region ?_; refine jo_l (ly_mv rfl) (hd 18 rfl) ?_; refine jo_l (ly_mv rfl) (hd 19 rfl) ?_; refine jo_h (hy_lit (id := 0) (xs := [.tmp 18, .tmp 19]) el81 rfl (ovL_cons rfl (ovL_cons rfl ovL_nil)) rfl (all2_of rfl) (by decide) rfl) (hd 20 rfl) ?_; refine jo_frzr 20 (sz := 1) (rowsV [a, b]) rfl rfl rfl rfl (by simp [rowsV]) (by simp [rowsV, pureV]) (by decide) hL ?_
  refine jo_call Try.f48 (hSm) rfl Try.func48 rfl rfl (ovL_cons rfl (ovL_cons rfl ovL_nil)) (.cons .i (.cons .l .nil)) (hd 21 rfl) ?_ (fun ch hp => by simp at hp)
  rintro y hy; injection hy with hy; subst hy; refine jo_l (ly_not rfl) (hd 22 rfl) ?_; refine jo_nil ?_; refine jc_litf rfl ?_; refine jc_skip ?_; refine jc_seq ?_; refine jc_region ?_; refine jo_l (ly_mv rfl) (hd 24 rfl) ?_
  refine jo_call Try.f58 (put_s c hc0 hc9) rfl Try.func58 rfl rfl (ovL_cons rfl (ovL_cons rfl (ovL_cons rfl ovL_nil))) (.cons .i (.cons .i (.cons .i .nil))) (hd 25 rfl) ?_ (fun ch hp => by simp at hp)
  rintro y ⟨bb, hlb, hb2, hy⟩; injection hy with hy; subst hy; refine jo_l (ly_as rfl) (hd 2 rfl) ?_; refine jo_nil ?_; refine jc_seq ?_; refine jc_region ?_; refine jo_l (ly_mv rfl) (hd 27 rfl) ?_; refine jo_l (ly_mv rfl) (hd 28 rfl) ?_
  refine jo_call Try.f59 (hSc) rfl Try.func59 rfl rfl (ovL_cons rfl (ovL_cons rfl ovL_nil)) (.cons .n (.cons .n .nil)) (hd 29 rfl) ?_ (fun ch hp => by simp at hp)
  rintro y hy; injection hy with hy; subst hy; refine jo_l (ly_mv rfl) (hd 26 rfl) ?_; refine jo_l (ly_ext rfl rfl) (hd 30 rfl) ?_; refine jo_l (ly_ext rfl rfl) (hd 31 rfl) ?_; refine jo_l (ly_as rfl) (hd 7 rfl) ?_; refine jo_l (ly_as rfl) (hd 8 rfl) ?_; refine jo_nil ?_; refine jc_seq ?_; refine jc_region ?_; refine jo_l (ly_mv rfl) (hd 33 rfl) ?_; refine jo_l (ly_mv rfl) (hd 34 rfl) ?_; refine jo_l (ly_mv rfl) (hd 35 rfl) ?_
  refine jo_call Try.f60 (Karatsuba_rv bb hlb (by omega) a b (by omega) (by omega) ua ub (by omega)) rfl Try.func60 rfl rfl (ovL_cons rfl (ovL_cons rfl (ovL_cons rfl ovL_nil))) (.cons .n (.cons .n (.cons .i .nil))) (hd 36 rfl) ?_ (fun ch hp => by simp at hp)
  rintro y hy; injection hy with hy; subst hy; refine jo_l (ly_mv rfl) (hd 32 rfl) ?_; refine jo_l (ly_ext rfl rfl) (hd 37 rfl) ?_; refine jo_l (ly_ext rfl rfl) (hd 38 rfl) ?_; refine jo_l (ly_as rfl) (hd 9 rfl) ?_; refine jo_l (ly_as rfl) (hd 10 rfl) ?_; refine jo_nil ?_; refine jc_seq ?_; refine jc_region ?_; refine jo_l (ly_mv rfl) (hd 40 rfl) ?_; refine jo_l (ly_mv rfl) (hd 41 rfl) ?_
  refine jo_call Try.f61 (hMl) rfl Try.func61 rfl rfl (ovL_cons rfl (ovL_cons rfl ovL_nil)) (.cons .n (.cons .n .nil)) (hd 42 rfl) ?_ (fun ch hp => by simp at hp)
  rintro y hy; injection hy with hy; subst hy; refine jo_l (ly_mv rfl) (hd 39 rfl) ?_; refine jo_l (ly_ext rfl rfl) (hd 43 rfl) ?_; refine jo_l (ly_ext rfl rfl) (hd 44 rfl) ?_; refine jo_l (ly_as rfl) (hd 11 rfl) ?_; refine jo_l (ly_as rfl) (hd 12 rfl) ?_; refine jo_nil ?_; refine jc_seq ?_; refine jc_seq ?_; refine jc_region ?_; refine jo_l (ly_mv rfl) (hd 45 rfl) ?_; refine jo_l (ly_ff (ly_ne rfl rfl) (by decide)) (hd 46 rfl) ?_; refine jo_l (ly_mv rfl) (hd 47 rfl) ?_; refine jo_g 47 rfl rfl (ly_mv rfl) (hd 48 rfl) ?_; refine jo_g 47 rfl rfl (ly_ff (ly_ne rfl rfl) (by decide)) (hd 49 rfl) ?_; refine jo_l (ly_pick_f rfl rfl) (hd 50 rfl) ?_; refine jo_l (ly_mv rfl) (hd 51 rfl) ?_; refine jo_g 51 rfl rfl (ly_mv rfl) (hd 52 rfl) ?_; refine jo_g 51 rfl rfl (ly_ff (ly_ne rfl rfl) (by decide)) (hd 53 rfl) ?_; refine jo_l (ly_pick_f rfl rfl) (hd 54 rfl) ?_; refine jo_l (ly_mv rfl) (hd 55 rfl) ?_; refine jo_g 55 rfl rfl (ly_mv rfl) (hd 56 rfl) ?_; refine jo_g 55 rfl rfl (ly_mv rfl) (hd 57 rfl) ?_
  refine jo_callg Try.f22 55 rfl rfl (hCx) rfl Try.func22 rfl rfl (ovL_cons rfl (ovL_cons rfl ovL_nil)) (.cons .n (.cons .n .nil)) (hd 58 rfl) ?_ (fun ch hp => by simp at hp)
  rintro y hy; injection hy with hy; subst hy; refine jo_g 55 rfl rfl (ly_ff (ly_ne rfl rfl) (by decide)) (hd 59 rfl) ?_; refine jo_l (ly_pick_f rfl rfl) (hd 60 rfl) ?_; refine jo_l (ly_mv rfl) (hd 61 rfl) ?_; refine jo_g 61 rfl rfl (ly_mv rfl) (hd 62 rfl) ?_; refine jo_g 61 rfl rfl (ly_mv rfl) (hd 63 rfl) ?_
  refine jo_callg Try.f22 61 rfl rfl (hCx) rfl Try.func22 rfl rfl (ovL_cons rfl (ovL_cons rfl ovL_nil)) (.cons .n (.cons .n .nil)) (hd 64 rfl) ?_ (fun ch hp => by simp at hp)
  rintro y hy; injection hy with hy; subst hy; refine jo_g 61 rfl rfl (ly_ff (ly_ne rfl rfl) (by decide)) (hd 65 rfl) ?_; refine jo_l (ly_pick_f rfl rfl) (hd 66 rfl) ?_; refine jo_nil ?_; refine jc_litf rfl ?_; refine jc_skip ?_; refine jc_seq ?_; refine jc_seq ?_; refine jc_region ?_; refine jo_l (ly_mv rfl) (hd 67 rfl) ?_
  refine jo_call Try.f33 (Length_s b (by omega) ub) rfl Try.func33 rfl rfl (ovL_cons rfl ovL_nil) (.cons .n .nil) (hd 68 rfl) ?_ (fun ch hp => by simp at hp)
  rintro y hy; injection hy with hy; subst hy; refine jo_l (ly_tt (ly_gt rfl rfl) (by have h9 := lenN_zero ub; omega)) (hd 69 rfl) ?_; refine jo_nil ?_; refine jc_litt rfl ?_; refine jc_seq ?_; refine jc_region ?_; refine jo_l (ly_mv rfl) (hd 71 rfl) ?_; refine jo_l (ly_mv rfl) (hd 72 rfl) ?_
  refine jo_call Try.f62 (hBo) rfl Try.func62 rfl rfl (ovL_cons rfl (ovL_cons rfl ovL_nil)) (.cons .n (.cons .n .nil)) (hd 73 rfl) ?_ (fun ch hp => by simp at hp)
  rintro y hy; injection hy with hy; subst hy; refine jo_l (ly_mv rfl) (hd 70 rfl) ?_; refine jo_l (ly_ext rfl rfl) (hd 74 rfl) ?_; refine jo_l (ly_ext rfl rfl) (hd 75 rfl) ?_; refine jo_l (ly_ext rfl rfl) (hd 76 rfl) ?_; refine jo_l (ly_as rfl) (hd 13 rfl) ?_; refine jo_l (ly_as rfl) (hd 14 rfl) ?_; refine jo_l (ly_as rfl) (hd 15 rfl) ?_; refine jo_nil ?_; refine jc_seq ?_; refine jc_region ?_; refine jo_l (ly_mv rfl) (hd 77 rfl) ?_; refine jo_l (ly_ff (ly_ne rfl rfl) (by decide)) (hd 78 rfl) ?_; refine jo_l (ly_mv rfl) (hd 79 rfl) ?_; refine jo_g 79 rfl rfl (ly_mv rfl) (hd 80 rfl) ?_; refine jo_g 79 rfl rfl (ly_mv rfl) (hd 81 rfl) ?_
  refine jo_callg Try.f22 79 rfl rfl (hCq) rfl Try.func22 rfl rfl (ovL_cons rfl (ovL_cons rfl ovL_nil)) (.cons .n (.cons .n .nil)) (hd 82 rfl) ?_ (fun ch hp => by simp at hp)
  rintro y hy; injection hy with hy; subst hy; refine jo_g 79 rfl rfl (ly_ff (ly_ne rfl rfl) (by decide)) (hd 83 rfl) ?_; refine jo_l (ly_pick_f rfl rfl) (hd 84 rfl) ?_; refine jo_l (ly_mv rfl) (hd 85 rfl) ?_; refine jo_g 85 rfl rfl (ly_mv rfl) (hd 86 rfl) ?_
  refine jo_callg Try.f33 85 rfl rfl (hLz) rfl Try.func33 rfl rfl (ovL_cons rfl ovL_nil) (.cons .n .nil) (hd 87 rfl) ?_ (fun ch hp => by simp at hp)
  rintro y hy; injection hy with hy; subst hy; refine jo_g 85 rfl rfl (ly_ff (ly_ne rfl rfl) (by decide)) (hd 88 rfl) ?_; refine jo_l (ly_pick_f rfl rfl) (hd 89 rfl) ?_; refine jo_nil ?_; refine jc_litf rfl ?_; refine jc_skip ?_; refine jc_seq ?_; refine jc_region ?_; refine jo_l (ly_mv rfl) (hd 91 rfl) ?_
  refine jo_call Try.f21 (hPr) rfl Try.func21 rfl rfl (ovL_cons rfl (ovL_cons rfl ovL_nil)) (.cons .n (.cons .i .nil)) (hd 92 rfl) ?_ (fun ch hp => by simp at hp)
  rintro y hy; injection hy with hy; subst hy; refine jo_l (ly_mv rfl) (hd 90 rfl) ?_; refine jo_l (ly_ext rfl rfl) (hd 93 rfl) ?_; refine jo_l (ly_ext rfl rfl) (hd 94 rfl) ?_; refine jo_l (ly_as rfl) (hd 16 rfl) ?_; refine jo_l (ly_as rfl) (hd 8 rfl) ?_; refine jo_nil ?_; refine jc_seq ?_; refine jc_region ?_; refine jo_l (ly_mv rfl) (hd 96 rfl) ?_
  refine jo_call Try.f16 (hPa) rfl Try.func16 rfl rfl (ovL_cons rfl (ovL_cons rfl ovL_nil)) (.cons .s (.cons .i .nil)) (hd 97 rfl) ?_ (fun ch hp => by simp at hp)
  rintro y hy; injection hy with hy; subst hy; refine jo_l (ly_mv rfl) (hd 95 rfl) ?_; refine jo_l (ly_ext rfl rfl) (hd 98 rfl) ?_; refine jo_l (ly_ext rfl rfl) (hd 99 rfl) ?_; refine jo_l (ly_as rfl) (hd 17 rfl) ?_; refine jo_l (ly_as rfl) (hd 10 rfl) ?_; refine jo_nil ?_; refine jc_seq ?_; refine jc_region ?_; refine jo_l (ly_mv rfl) (hd 100 rfl) ?_; refine jo_l (ly_tt (ly_eq rfl rfl) rfl) (hd 101 rfl) ?_; refine jo_l (ly_mv rfl) (hd 102 rfl) ?_; refine jo_g 102 rfl rfl (ly_mv rfl) (hd 103 rfl) ?_; refine jo_g 102 rfl rfl (ly_tt (ly_eq rfl rfl) rfl) (hd 104 rfl) ?_; refine jo_l (ly_pick_t rfl rfl) (hd 105 rfl) ?_; refine jo_l (ly_mv rfl) (hd 106 rfl) ?_; refine jo_g 106 rfl rfl (ly_mv rfl) (hd 107 rfl) ?_; refine jo_g 106 rfl rfl (ly_mv rfl) (hd 108 rfl) ?_
  refine jo_callg Try.f22 106 rfl rfl (hCx) rfl Try.func22 rfl rfl (ovL_cons rfl (ovL_cons rfl ovL_nil)) (.cons .n (.cons .n .nil)) (hd 109 rfl) ?_ (fun ch hp => by simp at hp)
  rintro y hy; injection hy with hy; subst hy; refine jo_g 106 rfl rfl (ly_tt (ly_eq rfl rfl) rfl) (hd 110 rfl) ?_; refine jo_l (ly_pick_t rfl rfl) (hd 111 rfl) ?_; refine jo_l (ly_mv rfl) (hd 112 rfl) ?_
  refine jo_callg Try.f49 112 rfl rfl (works_s) rfl Try.func49 rfl rfl ovL_nil .nil (hd 113 rfl) ?_ (fun ch hp => by simp at hp)
  rintro y hy; injection hy with hy; subst hy; refine jo_l (ly_pick_t rfl rfl) (hd 114 rfl) ?_; refine jo_l (ly_as rfl) (hd 6 rfl) ?_; refine jo_nil ?_; refine jc_ret ?_
  refine ⟨_, _, (.cons rfl .nil), .b, ?_⟩
  exact rfl

theorem WholeTower_s (a b : List Int) (c : Int) (hab : a.length + b.length ≤ 1048574) (ua : u64s a) (ub : u64s b) (hc0 : -9223372036854775808 ≤ c) (hc9 : c < 9223372036854775808) : Spec Try.prog 13 [.n false .u64 a, .n false .u64 b, .i .i64 c] (fun o => o = .ret (.b true)) := by
  cases hbs : smallB 1048576 [a, b] with
  | false => exact WholeTower_b a b c hab ua ub hc0 hc9 hbs
  | true =>
    by_cases h0 : vl b = 0
    · exact WholeTower_z a b c hab ua ub hc0 hc9 hbs h0
    · exact WholeTower_n a b c hab ua ub hc0 hc9 hbs h0
end Go.Proofs.Ytcfdclehmpfkcaa.Vc

/- The law WholeTower of every input of bulk at most 1048576: it returns true, and the input reads as it did. -/
namespace Go.Proofs.Ytcfdclehmpfkcaa.wholeTower
open Go Go.ChangeShapes Go.WideShapes Go.ChangeAt Go.RowKit
open Go.ChangeMaps (open_string shut_string)

theorem own : ownKnob Try.prog.godebug = none := by kernel_rfl
theorem laidOut : laidOutB Try.prog = true := by kernel_rfl
set_option maxRecDepth 100000 in
theorem lifted (os : Os) (started : os.Started) (H : Type) (enc : TypeId × Value → H) (F : Stop.Interp) :
    ReturnsInHanded {} Try.checked os 13 .any ((Rows.OpenSpec.upto Rows.wholeTowerSpec).pre6 enc Try.prog Try.f13 Rows.wholeTowerUptoRow.domain false) (((Rows.OpenSpec.upto Rows.wholeTowerSpec).at F).post enc Try.prog Try.f13 false true false false) := by
  refine returnsInHanded_of_cond (C := Try.checked) (s := Rows.OpenSpec.upto Rows.wholeTowerSpec) (k := Rows.uptoSmall) rfl own started (by kernel_rfl) Try.func13
    (OpenSpec.witness (enc := enc) (C := Try.checked) (s := Rows.OpenSpec.upto Rows.wholeTowerSpec) (k := Rows.uptoSmall) rfl false ⟨#[], #[.slice none 0 0, .slice none 0 0, .int .i64 0], []⟩ 8 (by kernel_rfl) (by kernel_rfl) (by kernel_rfl)
      (x := ([.nil, .nil, .lit (.int .i64 0)], [], [])) (by kernel_rfl) rfl (by kernel_rfl)) ?_
  intro W base args ds gs before hval0 hW _ hk _
  have hval : ∀ (j : Nat) t v, Try.f13.params[j]? = some t → args[j]? = some v → Value.okWide Try.prog W .any base t v := hval0
  have hW' := hW
  obtain ⟨p, q, hA0, hV, rfl, hfz, hnd⟩ := hW
  have hA : DataW.TrodAll enc Try.prog W 0 (fun _ => true) true Try.f13.params.toList args.toList ds p := hA0
  rw [Try.params13] at hA hval
  obtain ⟨v0, vs0, d0, ds0, p0, q0, hargs, rfl, rfl, h0, r0⟩ := trodAll_cons hA
  obtain ⟨v1, vs1, d1, ds1, p1, q1, rfl, rfl, rfl, h1, r1⟩ := trodAll_cons r0
  obtain ⟨v2, vs2, d2, ds2, p2, q2, rfl, rfl, rfl, h2, r2⟩ := trodAll_cons r1
  obtain ⟨rfl, rfl, rfl⟩ := trodAll_nil r2
  obtain rfl : args = #[v0, v1, v2] := by cases args; simp_all
  obtain ⟨rfl, rfl⟩ := trodVars_none hV
  have hk0 := h0
  obtain ⟨l0, rel0, hb0, ul0⟩ := Vc.openN28 (hval 0 24 v0 rfl rfl) h0
  have hk1 := h1
  obtain ⟨l1, rel1, hb1, ul1⟩ := Vc.openN28 (hval 1 24 v1 rfl rfl) h1
  obtain ⟨a2, rfl, rfl, rfl, w2⟩ := open_int Try.underlying3 (hval 2 3 v2 rfl rfl) h2
  clear hA0 hval0
  simp only [List.append_nil] at hW' hk
  refine (Vc.spec_calls (vals := [v0, v1, .int .i64 a2]) (Vc.WholeTower_s l0 l1 a2 (Vc.short2n hk hb0 hb1) ul0 ul1 (by have := w2; simp [Lit.wf, IntKind.min, IntKind.max, IntKind.signed, IntKind.bits] at this; omega) (by have := w2; simp [Lit.wf, IntKind.min, IntKind.max, IntKind.signed, IntKind.bits] at this; omega)) W (⟨_, _, rfl, rel0, ⟨_, _, rfl, rel1, ⟨_, _, rfl, rfl, rfl⟩⟩⟩)).mono fun e W' ⟨he, hb⟩ => ?_; subst he
  have hlt : ∀ x ∈ p0 ++ p1, x.block < W.heap.size := fun x hx => by simpa using hW'.lt x (by simpa using hx)
  exact ⟨_, rfl, Vc.post_of_below (pa := (p0 ++ (p1 ++ ([] ++ [])))) (pv := []) hW' (fun _ _ _ => (trodAll_cons_mk (shut_bool Try.underlying4 _) trodAll_mk0)) (fun sp hsp => (trodAll_cons_mk (Go.WideElems.Trod_stays laidOut (by kernel_rfl) (of_decide_eq_true (by kernel_rfl)) hk0 (fun x hx => hb.same (hlt x (by simp [hx]))) (fun x hx => hsp x (by simp [hx]))) (trodAll_cons_mk (Go.WideElems.Trod_stays laidOut (by kernel_rfl) (of_decide_eq_true (by kernel_rfl)) hk1 (fun x hx => hb.same (hlt x (by simp [hx]))) (fun x hx => hsp x (by simp [hx]))) (trodAll_cons_mk (shut_int Try.underlying3 w2) trodAll_mk0)))) (fun _ _ => rfl) (by simp) hb⟩

theorem proved : Rows.WholeTowerUptoSaid :=
  OpenClaim.holds_of_cond 13 Try.f13 rfl rfl rfl rfl rfl rfl rfl ⟨rfl, rfl, rfl, rfl, rfl⟩ rfl rfl rfl rfl rfl (by kernel_rfl) Try.func13 (by kernel_rfl)
    (of_decide_eq_true (by kernel_rfl)) (by unfold Func.isWrapper; first | (rw [if_pos (by decide +kernel)]; kernel_rfl) | (rw [if_neg (by decide +kernel)]; exact ⟨rfl, rfl⟩))
    (fun os started H enc _ F => lifted os started H enc F)
end Go.Proofs.Ytcfdclehmpfkcaa.wholeTower
