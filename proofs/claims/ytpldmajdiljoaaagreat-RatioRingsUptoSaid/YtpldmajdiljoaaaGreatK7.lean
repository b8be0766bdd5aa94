/- RatioRings: for every two rationals of bulk at most 1048576 it returns true Texts joined: Yo, Yp, Yq, Yr, Yz, Pa, Pb, Pc, Pd, Pe, Pf, Pg, Ph, Pi, Pj, Pk, Pl, Pm, Pn, Po, Pp, Pq, Pv, Pw, Px, Py, Pz, Qd, Qe, Xa, Xl, Xz. -/
import Derived.Test.YtpldmajdiljoaaaGreatK6
set_option linter.unusedVariables false
set_option linter.unusedSimpArgs false
set_option maxHeartbeats 4000000
namespace Go.Proofs.YtpldmajdiljoaaaGreat.Vc
open Go Go.RowKit
theorem Shl_s (x n : Nat) (hx : (digs B32 x).length < 549755813888) (hn : n < 4294967296) : Spec Tryz.prog 122 [.n false .u64 (digs B32 x), .i .i64 (n : Int)] (fun o => o = .ret (.n false .u64 (digs B32 (x * 2 ^ n)))) := by
  refine spec_of' [(0, .n false .u64 (digs B32 x)), (1, .i .i64 (n : Int))] rfl Tryz.func122 rfl (zlb rfl) fun Γ hN hds hL hR => ?_
  have hd := hdOf 55 hN
  have hr := rng_digs (b := B32) (by decide) x
  have hs : n % 32 < 32 := by omega
  refine zsr <| zas rfl (hd 4 rfl) <| jo_nil <| jc_seq <| zsr <| zmv rfl (hd 9 rfl) <| jo_l (ly_lenn sl33 rfl) (hd 10 rfl) <| jo_l (ly_eq rfl rfl) (hd 11 rfl) <| jo_nil ?_
  refine jc_if rfl (fun h1 => ?_) (fun h1 => ?_)
  · refine zsr <| zas rfl (hd 4 rfl) <| jo_nil <| jc_ret ?_
    refine ⟨_, _, (.cons rfl .nil), (.nil (fr := false) (k := .u64)), ?_⟩
    have hz : (digs B32 x) = [] := List.eq_nil_of_length_eq_zero (by omega)
    rw [digs_nil.1 hz, Nat.zero_mul, digs_0]
  · refine jc_skip <| zsr <| zmv rfl (hd 12 rfl) <| jo_l (ly_lenn sl33 rfl) (hd 13 rfl) <| zmv rfl (hd 14 rfl) <| jo_l (ly_quo rfl rfl (by omega) (r := ((n / 32 : Nat) : Int)) (quo32 (by omega))) (hd 15 rfl) <| jo_l (ly_add rfl rfl (r := (((digs B32 x).length + n / 32 : Nat) : Int)) (by rw [wrap_i64 (by omega) (by omega)]; omega)) (hd 16 rfl) <| jo_l (ly_add rfl rfl (r := (((digs B32 x).length + n / 32 + 1 : Nat) : Int)) (by rw [wrap_i64 (by omega) (by omega)]; omega)) (hd 17 rfl) <| jo_h (hy_mk (m := (digs B32 x).length + n / 32 + 1) el33 rfl rfl rfl (by show 8 * ((digs B32 x).length + n / 32 + 1) ≤ _; omega) (by unfold maxLen; omega) rfl) (hd 18 rfl) <| zas rfl (hd 5 rfl) <| jo_nil <| jc_seq ?_; refine jc_region <| zmv rfl (hd 19 rfl) <| jo_l (ly_is (ly_rem rfl rfl (by omega) rfl) (show V.i .i64 _ = V.i .i64 (((n % 32 : Nat) : Int)) from congrArg (V.i .i64) rem32)) (hd 20 rfl) <| zas rfl (hd 6 rfl) <| jo_nil <| jc_seq <| zsr <| zmv rfl (hd 21 rfl) <| jo_l (ly_lenn sl33 rfl) (hd 22 rfl) <| zmv rfl (hd 23 rfl) <| jo_nil <| jc_block ?_; refine jc_H (H' := [⟨79, 1, 0, true, ints .u64 (shR (digs B32 x) (n % 32) (n / 32) 0)⟩]) (by rw [← shR_0]; rfl) ?_
    refine jc_loopF (G := Nat) (fun i => i ≤ (digs B32 x).length) (fun i => [(23, .i .i64 (i : Int)), (7, .u), (8, .u), (24, .u), (25, .u), (26, .u), (27, .u), (28, .u), (29, .u), (30, .u), (31, .u), (32, .u), (33, .u), (34, .u), (35, .u), (36, .u), (37, .u), (38, .u), (39, .u), (40, .u), (41, .u), (42, .u), (43, .u), (44, .u), (45, .u), (46, .u), (47, .u), (48, .u), (49, .u), (50, .u), (51, .u), (52, .u)]) (fun i => [⟨79, 1, 0, true, ints .u64 (shR (digs B32 x) (n % 32) (n / 32) i)⟩]) (fun i => (digs B32 x).length - i) 0 ?_ ?_ rfl ?_
    · exact Nat.zero_le _
    · exact (.cons rfl (.u (.u (.u (.u (.u (.u (.u (.u (.u (.u (.u (.u (.u (.u (.u (.u (.u (.u (.u (.u (.u (.u (.u (.u (.u (.u (.u (.u (.u (.u (.u .nil))))))))))))))))))))))))))))))))
    · rintro i hc1
      have hf := shR_len (s := (n % 32)) (w := (n / 32)) hc1
      have hc := sh32_c hs hr i
      have hx := rng_getD (by decide) hr i
      have hp := sh_prod hs hr i
      have hel := sh_el (x := (digs B32 x).getD i 0) hs hc.1 hc.2
      refine zsr <| jo_l (ly_lt rfl rfl) (hd 24 rfl) <| jo_nil <| jc_seq ?_
      refine jc_if rfl (fun h2 => ?_) (fun h2 => ?_)
      · refine jc_skip <| jc_seq <| jc_block <| zsr <| zmv rfl (hd 25 rfl) <| jo_l (ly_ian (i := i) sl33 rfl rfl (by first | rfl | omega) (by omega)) (hd 26 rfl) <| jo_l (ly_ldq one82 rfl rfl) (hd 27 rfl) <| zas rfl (hd 7 rfl) <| zas rfl (hd 8 rfl) <| jo_nil <| jc_seq <| jc_draw (n := 14) _ rfl mixed ?_; refine zal2 0 [5, 6, 11, 12, 13] (lo_l (ly_mv rfl) (hd 28 rfl)) rfl <| zal2 1 [4, 5, 6, 11, 12, 13] (lo_l (ly_mv rfl) (hd 29 rfl)) rfl <| zal2 2 [3, 4, 5, 6, 11, 12, 13] (lo_l (ly_mv rfl) (hd 30 rfl)) rfl <| zal2 3 [4, 5, 6, 11, 12, 13] (lo_l (ly_quo rfl rfl (by omega) (r := ((n / 32 : Nat) : Int)) (quo32 (by omega))) (hd 31 rfl)) rfl <| zal2 4 [5, 6, 11, 12, 13] (lo_l (ly_add rfl rfl (r := ((i + n / 32 : Nat) : Int)) (by rw [wrap_i64 (by omega) (by omega)]; omega)) (hd 32 rfl)) rfl <| zal2 5 [6, 11, 12, 13] (lo_l (ly_ia (i := i + n / 32) sl33 rfl rfl rfl (by first | rfl | omega) (by omega) rfl) (hd 33 rfl)) rfl <| zal 6 (lo_l (ly_is (ly_ldi one82 rfl rfl (by omega)) (show V.i .u64 _ = V.i .u64 ((sh32 (digs B32 x) (n % 32) i).2) from congrArg (V.i .u64) shR_get)) (hd 34 rfl)) rfl <| zal2 7 [9, 10, 11, 12, 13] (lo_l (ly_mv rfl) (hd 35 rfl)) rfl <| zal2 8 [9, 10, 11, 12, 13] (lo_l (ly_mv rfl) (hd 36 rfl)) rfl <| zal2 9 [10, 11, 12, 13] (lo_l (ly_is (ly_shl rfl rfl (by omega) rfl) (show V.i .u64 _ = V.i .u64 (((digs B32 x).getD i 0 * 2 ^ (n % 32))) from congrArg (V.i .u64) (shl_u64 hs hx.1 hx.2))) (hd 37 rfl)) rfl <| zal 10 (lo_l (ly_is (ly_rem rfl rfl (by decide) rfl) (show V.i .u64 _ = V.i .u64 (((digs B32 x).getD i 0 * 2 ^ (n % 32)) % 4294967296) from congrArg (V.i .u64) (Int.tmod_eq_emod_of_nonneg hp.1))) (hd 38 rfl)) rfl <| zal 11 (lo_l (ly_add rfl rfl (wrap_u64 hel.1 (Int.lt_trans hel.2 (by decide)))) (hd 39 rfl)) rfl <| zal 12 (lo_l (ly_ia (i := i + n / 32) sl33 rfl rfl rfl (by first | rfl | omega) (by omega) rfl) (hd 40 rfl)) rfl ?_
        refine ja_1 13 ?_ rfl (by kernel_rfl)
        refine js_st (sy_storei rfl rfl rfl one82 (by omega)) rfl <| ja_nil (by kernel_rfl) <| jc_region <| zmv rfl (hd 41 rfl) <| zmv rfl (hd 42 rfl) <| zmv rfl (hd 43 rfl) <| jo_l (ly_quo rfl rfl (by omega) (r := ((n / 32 : Nat) : Int)) (quo32 (by omega))) (hd 44 rfl) <| jo_l (ly_add rfl rfl (r := ((i + n / 32 : Nat) : Int)) (by rw [wrap_i64 (by omega) (by omega)]; omega)) (hd 45 rfl) <| jo_l (ly_add rfl rfl (r := ((i + n / 32 + 1 : Nat) : Int)) (by rw [wrap_i64 (by omega) (by omega)]; omega)) (hd 46 rfl) <| zmv rfl (hd 47 rfl) <| zmv rfl (hd 48 rfl) <| jo_l (ly_is (ly_shl rfl rfl (by omega) rfl) (show V.i .u64 _ = V.i .u64 (((digs B32 x).getD i 0 * 2 ^ (n % 32))) from congrArg (V.i .u64) (shl_u64 hs hx.1 hx.2))) (hd 49 rfl) <| jo_l (ly_quo rfl rfl (by decide) (r := ((digs B32 x).getD i 0 * 2 ^ (n % 32)) / 4294967296) (quo_u64 hp.1 (by omega) (by decide))) (hd 50 rfl) ?_; refine jo_l (ly_ia (i := i + n / 32 + 1) sl33 rfl rfl rfl (by first | rfl | omega) (by omega) rfl) (hd 51 rfl) <| jo_st (sy_storei rfl rfl rfl one82 (by simp only [List.length_set]; omega)) <| jo_nil <| jc_region <| jo_l (ly_add rfl rfl (wrap_i64 (by omega) (by omega))) (hd 52 rfl) <| zmv rfl (hd 23 rfl) <| jo_nil ?_
        refine ⟨i + 1, ?_, ?_, (by show [(⟨79, 1, 0, true, ints .u64 _⟩ : Ob)] = [⟨79, 1, 0, true, ints .u64 _⟩]; rw [shR_set (by omega)]), cov_n 64 rfl rfl ?_⟩
        · omega
        · omega
        · exact (.cons rfl (.u (.u (.u (.u (.u (.u (.u (.u (.u (.u (.u (.u (.u (.u (.u (.u (.u (.u (.u (.u (.u (.u (.u (.u (.u (.u (.u (.u (.u (.u (.u .nil))))))))))))))))))))))))))))))))
      · obtain rfl : i = (digs B32 x).length := by omega
        refine jc_exit <| zsr <| jo_frz (k := .u64) (l := shR (digs B32 x) (n % 32) (n / 32) (digs B32 x).length) (l' := shR (digs B32 x) (n % 32) (n / 32) (digs B32 x).length) 5 rfl rfl (by omega) (by rw [List.drop_zero, List.take_of_length_le (by omega)]) hL <| zmv rfl (hd 53 rfl) ?_
        refine jo_call Tryz.f78 (rnorm_s (shR (digs B32 x) (n % 32) (n / 32) (digs B32 x).length) (by omega)) rfl Tryz.func78 rfl rfl (ovL_cons rfl ovL_nil) (.cons .n .nil) (hd 54 rfl) ?_ (fun ch hp => by simp at hp)
        rintro _ ⟨⟩; refine zas rfl (hd 4 rfl) <| jo_nil <| jc_ret ?_
        refine ⟨_, _, (.cons rfl .nil), .n, ?_⟩
        rw [shR_end]

theorem rDiv_s (x y : Nat) (hx : (digs B32 x).length < 4294967296) (hy : (digs B32 y).length < 4294967296) (h0 : 0 < y) : Spec Tryz.prog 97 [.n false .u64 (digs B32 x), .n false .u64 (digs B32 y)] (fun o => o = .ret (.t [.n false .u64 (digs B32 (x / y)), .n false .u64 (digs B32 (x % y))])) := by
  refine spec_of' [(0, .n false .u64 (digs B32 x)), (1, .n false .u64 (digs B32 y))] rfl Tryz.func97 rfl (zlb rfl) fun Γ hN hds hL hR => ?_
  have hd := hdOf 60 hN
  refine zsr <| zas rfl (hd 4 rfl) <| zas rfl (hd 5 rfl) <| jo_nil <| zsr <| zas rfl (hd 6 rfl) <| jo_nil <| zsr <| zmv rfl (hd 12 rfl) <| jo_l (ly_lenn sl33 rfl) (hd 13 rfl) ?_; refine jo_h (hy_mk (m := (digs B32 x).length) el33 rfl rfl rfl (by show 8 * (digs B32 x).length ≤ _; omega) (by unfold maxLen; omega) rfl) (hd 14 rfl) <| zas rfl (hd 7 rfl) <| jo_nil <| jc_seq <| jc_seq <| jc_nilN (k := .u64) 6 rfl <| jc_region <| zmv rfl (hd 15 rfl) <| jo_l (ly_lenn sl33 rfl) (hd 16 rfl) <| jo_l (ly_sub rfl rfl (wrap_i64 (by omega) (by omega))) (hd 17 rfl) <| zas rfl (hd 8 rfl) <| jo_nil <| jc_block ?_; refine jc_H (H' := [⟨79, 1, 0, true, ints .u64 (List.replicate (digs B32 x).length 0 ++ [])⟩]) (by rw [List.append_nil]; rfl) ?_
  refine jc_loopD (G := Nat × List Int) 1 (fun g => g.1 ≤ (digs B32 x).length ∧ Qd x y g.1 g.2) (fun g => [(6, .n false .u64 (digs B32 (x / B32 ^ g.1 % y))), (8, .i .i64 ((g.1 : Int) - 1)), (9, .u), (10, .u), (11, .u), (18, .u), (19, .u), (20, .u), (21, .u), (22, .u), (23, .u), (24, .u), (25, .u), (26, .u), (27, .u), (28, .u), (29, .u), (30, .u), (31, .u), (32, .u), (33, .u), (34, .u), (35, .u), (36, .u), (37, .u), (38, .u), (39, .u), (40, .u), (41, .u), (42, .u), (43, .u), (44, .u), (45, .u), (46, .u), (47, .u), (48, .u), (49, .u), (50, .u), (51, .u), (52, .u), (53, .u), (54, .u), (55, .u), (56, .u)]) (fun g => [⟨79, 1, 0, true, ints .u64 (List.replicate g.1 0 ++ g.2)⟩]) (fun g => g.1) ((digs B32 x).length, []) ?_ ?_ rfl hR rfl (fun _ _ => rfl) (fun g _ => .cons ints_id .nil) ?_
  · exact ⟨Nat.le_refl _, qd_0⟩
  · exact (.cons (by show some (V.n false .u64 []) = some (V.n false .u64 (digs B32 (x / B32 ^ (digs B32 x).length % y))); rw [top_0, Nat.zero_mod, digs_0]) (.cons rfl (.u (.u (.u (.u (.u (.u (.u (.u (.u (.u (.u (.u (.u (.u (.u (.u (.u (.u (.u (.u (.u (.u (.u (.u (.u (.u (.u (.u (.u (.u (.u (.u (.u (.u (.u (.u (.u (.u (.u (.u (.u (.u .nil))))))))))))))))))))))))))))))))))))))))))))
  · rintro ⟨k, Q⟩ ⟨hk, hQ⟩
    dsimp only at hk hQ
    obtain ⟨R, hR0⟩ : ∃ R, x / B32 ^ k % y * B32 + x / B32 ^ (k - 1) % B32 = R := ⟨_, rfl⟩
    have hRb := dv_R (x := x) (k := k) h0
    rw [hR0] at hRb
    have hlR := len_yB hRb
    have hlA := len_le (Nat.le_of_lt (Nat.mod_lt (x / B32 ^ k) h0))
    have hAB : x / B32 ^ k % y * 2 ^ 32 < y * B32 := Nat.mul_lt_mul_of_pos_right (Nat.mod_lt (x / B32 ^ k) h0) (by decide)
    have hlAB := len_yB hAB
    have hdB := Nat.mod_lt (x / B32 ^ (k - 1)) (show 0 < B32 by decide)
    have hlD : (digs B32 (x / B32 ^ (k - 1) % B32)).length ≤ 1 := digs_len (by decide) 1 _ (by rw [Nat.pow_one]; exact hdB)
    have hNm : Spec Tryz.prog 78 [.n false .u64 [((x / B32 ^ (k - 1) % B32 : Nat) : Int)]] (fun o => o = .ret (.n false .u64 (digs B32 (x / B32 ^ (k - 1) % B32)))) := by have h := rnorm_s [((x / B32 ^ (k - 1) % B32 : Nat) : Int)] (by simp); rwa [trm_1 hdB] at h
    have hAdd : Spec Tryz.prog 58 [.n false .u64 (digs B32 (x / B32 ^ k % y * 2 ^ 32)), .n false .u64 (digs B32 (x / B32 ^ (k - 1) % B32))] (fun o => o = .ret (.n false .u64 (digs B32 R))) := by have h := rAdd_s (x / B32 ^ k % y * 2 ^ 32) (x / B32 ^ (k - 1) % B32) (by omega) (by omega); rw [show x / B32 ^ k % y * 2 ^ 32 + x / B32 ^ (k - 1) % B32 = R from hR0] at h; exact h
    refine jc_seq <| zsr <| zmv rfl (hd 18 rfl) <| jo_l (ly_ge rfl rfl) (hd 19 rfl) <| jo_nil ?_
    refine jc_if rfl (fun h1 => ?_) (fun h1 => ?_)
    · refine jc_skip <| jc_seq <| jc_block <| jc_seq <| jc_draw (n := 10) _ rfl mixed <| zal2 0 [1, 7, 8, 9] (lo_l (ly_mv rfl) (hd 22 rfl)) rfl <| zal2 2 [4, 5, 6, 7, 8, 9] (lo_l (ly_mv rfl) (hd 24 rfl)) rfl <| zal2 3 [4, 5, 6, 7, 8, 9] (lo_l (ly_mv rfl) (hd 25 rfl)) rfl <| zal2 4 [5, 6, 7, 8, 9] (lo_l (ly_ian (i := k - 1) sl33 rfl rfl (by omega) (by omega)) (hd 26 rfl)) rfl <| zal2 5 [6, 7, 8, 9] (lo_l (ly_is (ly_ldq one82 rfl rfl) (by show V.i .u64 _ = V.i .u64 (((x / B32 ^ (k - 1) % B32 : Nat) : Int)); exact congrArg (V.i .u64) (digs_at (by decide) (k - 1) x))) (hd 27 rfl)) rfl ?_
      refine ja_2 1 6 ?_ ?_ rfl rfl (by kernel_rfl)
      · refine js_call Tryz.f122 (Shl_s (x / B32 ^ k % y) 32 (by omega) (by decide)) rfl Tryz.func122 rfl rfl (ovL_cons rfl (ovL_cons rfl ovL_nil)) (.cons .n (.cons .i .nil)) (hd 23 rfl) ?_ (fun ch hp => by simp at hp)
        rintro y hy; injection hy with hy; subst hy
        refine ja_1 6 ?_ rfl (by kernel_rfl)
        refine js_h (hy_lit (id := 1) (xs := [.tmp 27]) el33 rfl (ovL_cons rfl ovL_nil) rfl (all2_of rfl) (by decide) rfl) (hd 28 rfl) <| ja_frz (k := .u64) (l := [((x / B32 ^ (k - 1) % B32 : Nat) : Int)]) (l' := [((x / B32 ^ (k - 1) % B32 : Nat) : Int)]) 28 rfl rfl (Nat.le_refl _) rfl hL ?_
        refine ja_1 7 ?_ rfl (by kernel_rfl)
        refine js_call Tryz.f78 (hNm) rfl Tryz.func78 rfl rfl (ovL_cons rfl ovL_nil) (.cons .n .nil) (hd 29 rfl) ?_ (fun ch hp => by simp at hp)
        rintro y hy; injection hy with hy; subst hy
        refine ja_1 8 ?_ rfl (by kernel_rfl)
        refine js_call Tryz.f58 (hAdd) rfl Tryz.func58 rfl rfl (ovL_cons rfl (ovL_cons rfl ovL_nil)) (.cons .n (.cons .n .nil)) (hd 30 rfl) ?_ (fun ch hp => by simp at hp)
        rintro _ ⟨⟩; refine zal 9 (lo_l (ly_as rfl) (hd 6 rfl)) rfl <| ja_nil (by kernel_rfl) <| zsr <| zas rfl (hd 9 rfl) <| jo_nil ?_
        refine jc_meetH (G := Unit) (fun _ => True) (fun _ => [(6, .n false .u64 (digs B32 (R % y))), (9, .i .u64 ((R / y : Nat) : Int)), (10, .u), (11, .u), (31, .u), (32, .u), (33, .u), (34, .u), (35, .u), (36, .u), (37, .u), (38, .u), (39, .u), (40, .u), (41, .u), (42, .u), (43, .u), (44, .u), (45, .u), (46, .u), (47, .u), (48, .u), (49, .u), (50, .u), (51, .u), (52, .u)]) ?_ ?_
        · refine zsr <| zmv rfl (hd 31 rfl) <| zmv rfl (hd 32 rfl) ?_
          refine jo_call Tryz.f59 (rCmp_s R y (by omega) (by omega)) rfl Tryz.func59 rfl rfl (ovL_cons rfl (ovL_cons rfl ovL_nil)) (.cons .n (.cons .n .nil)) (hd 33 rfl) ?_ (fun ch hp => by simp at hp)
          rintro _ ⟨⟩; refine jo_l (ly_ge rfl rfl) (hd 34 rfl) <| jo_nil ?_
          refine jc_if rfl (fun h2 => ?_) (fun h2 => ?_)
          · refine zsr <| zas rfl (hd 10 rfl) <| jo_nil <| jc_block ?_
            refine jc_loopF (G := Nat × Nat) (fun g => Hlv R y g.1 g.2) (fun g => [(6, .n false .u64 (digs B32 (R - y * g.2))), (9, .i .u64 (g.2 : Int)), (10, .i .i64 ((g.1 : Int) - 1)), (11, .u), (35, .u), (36, .u), (37, .u), (38, .u), (39, .u), (40, .u), (41, .u), (42, .u), (43, .u), (44, .u), (45, .u), (46, .u), (47, .u), (48, .u), (49, .u), (50, .u), (51, .u), (52, .u)]) (fun _ => _) (fun g => g.1) (32, 0) ?_ ?_ rfl ?_
            · exact hlv_0 hRb
            · exact (.cons (by show some (V.n false .u64 (digs B32 R)) = some (V.n false .u64 (digs B32 (R - y * 0))); rw [Nat.mul_zero, Nat.sub_zero]) (.cons rfl (.cons rfl (.u (.u (.u (.u (.u (.u (.u (.u (.u (.u (.u (.u (.u (.u (.u (.u (.u (.u (.u .nil))))))))))))))))))))))
            · rintro ⟨t, q⟩ hH
              dsimp only at hH
              have hlq := hlv_len (t := t) (q := q) hRb
              refine jc_seq <| zsr <| zmv rfl (hd 35 rfl) <| jo_l (ly_ge rfl rfl) (hd 36 rfl) <| jo_nil ?_
              refine jc_if rfl (fun h3 => ?_) (fun h3 => ?_)
              · obtain ⟨s, rfl⟩ : ∃ s, t = s + 1 := ⟨t - 1, by omega⟩
                have hs : s < 32 := by have := hH.1; omega
                have hls := len_ys (y := y) h0 hs
                refine jc_skip ?_
                refine jc_meetH (G := Nat) (fun g => Hlv R y s g) (fun g => [(6, .n false .u64 (digs B32 (R - y * g))), (9, .i .u64 (g : Int)), (11, .u), (39, .u), (40, .u), (41, .u), (42, .u), (43, .u), (44, .u), (45, .u), (46, .u), (47, .u), (48, .u), (49, .u), (50, .u), (51, .u), (52, .u)]) ?_ ?_
                · refine jc_block <| zsr <| zmv rfl (hd 39 rfl) <| jo_l (ly_is (ly_mv rfl) (show V.i .i64 _ = V.i .i64 (s : Int) by congr 1; omega)) (hd 40 rfl) ?_
                  refine jo_call Tryz.f122 (Shl_s y s (by omega) (by omega)) rfl Tryz.func122 rfl rfl (ovL_cons rfl (ovL_cons rfl ovL_nil)) (.cons .n (.cons .i .nil)) (hd 41 rfl) ?_ (fun ch hp => by simp at hp)
                  rintro _ ⟨⟩; refine zas rfl (hd 11 rfl) <| jo_nil <| zsr <| zmv rfl (hd 42 rfl) <| zmv rfl (hd 43 rfl) ?_
                  refine jo_call Tryz.f59 (rCmp_s (R - y * q) (y * 2 ^ s) (by omega) (by omega)) rfl Tryz.func59 rfl rfl (ovL_cons rfl (ovL_cons rfl ovL_nil)) (.cons .n (.cons .n .nil)) (hd 44 rfl) ?_ (fun ch hp => by simp at hp)
                  rintro _ ⟨⟩; refine jo_l (ly_ge rfl rfl) (hd 45 rfl) <| jo_nil ?_
                  refine jc_if rfl (fun h4 => ?_) (fun h4 => ?_)
                  · have hle := cmp_le h4
                    obtain ⟨hy1, hy2⟩ := hlv_yes hH hle
                    have hqb := hy1.2.2.2
                    refine zsr <| zmv rfl (hd 46 rfl) <| zmv rfl (hd 47 rfl) ?_
                    refine jo_call Tryz.f60 (rSub_s (R - y * q) (y * 2 ^ s) hle (by omega) (by omega)) rfl Tryz.func60 rfl rfl (ovL_cons rfl (ovL_cons rfl ovL_nil)) (.cons .n (.cons .n .nil)) (hd 48 rfl) ?_ (fun ch hp => by simp at hp)
                    rintro _ ⟨⟩; refine zas rfl (hd 6 rfl) <| jo_nil <| jc_region <| zmv rfl (hd 49 rfl) <| jo_l (ly_is (ly_mv rfl) (show V.i .i64 _ = V.i .i64 (s : Int) by congr 1; omega)) (hd 50 rfl) <| jo_l (ly_is (ly_shl rfl rfl (by omega) rfl) (show V.i .u64 _ = V.i .u64 (((2 ^ s : Nat) : Int)) from congrArg (V.i .u64) (bit_shl hs))) (hd 51 rfl) <| jo_l (ly_add rfl rfl (r := ((q + 2 ^ s : Nat) : Int)) (by generalize 2 ^ s = u at *; rw [wrap_u64 (by omega) (by omega)]; omega)) (hd 52 rfl) <| zas rfl (hd 9 rfl) <| jo_nil ?_
                    refine ⟨(q + 2 ^ s), ?_, rfl, cov_n 17 rfl rfl ?_⟩
                    · exact hy1
                    · exact (.cons (by show some (V.n false .u64 _) = some (V.n false .u64 _); rw [hy2]) (.cons rfl (.u (.u (.u (.u (.u (.u (.u (.u (.u (.u (.u (.u (.u (.u (.u .nil)))))))))))))))))
                  · have hno := hlv_no hH (fun hle => h4 (cmp_ge hle))
                    refine jc_skip ?_
                    refine ⟨q, ?_, rfl, cov_n 8 rfl rfl ?_⟩
                    · exact hno
                    · exact (.cons rfl (.cons rfl (.u (.u (.u (.u (.u (.u (.u (.u (.u (.u (.u (.u (.u (.u (.u .nil)))))))))))))))))
                · rintro q' hH'; refine jc_region <| zmv rfl (hd 37 rfl) <| jo_l (ly_sub rfl rfl (wrap_i64 (by omega) (by omega))) (hd 38 rfl) <| zas rfl (hd 10 rfl) <| jo_nil ?_
                  refine ⟨(s, q'), ?_, ?_, rfl, cov_n 44 rfl rfl ?_⟩
                  · exact hH'
                  · show s < s + 1
                    omega
                  · exact (.cons rfl (.cons rfl (.cons (by show some (V.i .i64 _) = some (V.i .i64 _); congr 2; omega) (.u (.u (.u (.u (.u (.u (.u (.u (.u (.u (.u (.u (.u (.u (.u (.u (.u (.u (.u .nil))))))))))))))))))))))
              · obtain rfl : t = 0 := by omega
                obtain ⟨he1, he2⟩ := hlv_end hH
                refine jc_exit ?_
                refine ⟨(), ?_, rfl, cov_n 29 rfl rfl ?_⟩
                · trivial
                · exact (.cons (by show some (V.n false .u64 _) = some (V.n false .u64 _); rw [he2]) (.cons (by show some (V.i .u64 _) = some (V.i .u64 _); rw [he1]) (.u (.u (.u (.u (.u (.u (.u (.u (.u (.u (.u (.u (.u (.u (.u (.u (.u (.u (.u (.u (.u (.u (.u (.u .nil))))))))))))))))))))))))))
          · have hlt := cmp_lt' h2
            refine jc_skip ?_
            refine ⟨(), ?_, rfl, cov_n 4 rfl rfl ?_⟩
            · trivial
            · exact (.cons (by show some (V.n false .u64 _) = some (V.n false .u64 _); rw [Nat.mod_eq_of_lt hlt]) (.cons (by show some (V.i .u64 _) = some (V.i .u64 _); rw [Nat.div_eq_of_lt hlt]; rfl) (.u (.u (.u (.u (.u (.u (.u (.u (.u (.u (.u (.u (.u (.u (.u (.u (.u (.u (.u (.u (.u (.u (.u (.u .nil))))))))))))))))))))))))))
        · rintro _ _; refine jc_region <| zmv rfl (hd 53 rfl) <| zmv rfl (hd 54 rfl) <| zmv rfl (hd 55 rfl) <| jo_l (ly_ia (i := k - 1) sl33 rfl rfl rfl (by omega) (by omega) rfl) (hd 56 rfl) <| jo_st (sy_storei rfl rfl rfl one82 (by simp only [List.length_append, List.length_replicate]; omega)) <| jo_nil <| jc_region <| zmv rfl (hd 20 rfl) <| jo_l (ly_sub rfl rfl (wrap_i64 (by omega) (by omega))) (hd 21 rfl) <| zas rfl (hd 8 rfl) <| jo_nil ?_
          refine ⟨(k - 1, ((R / y : Nat) : Int) :: Q), ?_, ?_, (by show [(⟨79, 1, 0, true, ints .u64 _⟩ : Ob)] = [⟨79, 1, 0, true, ints .u64 _⟩]; rw [dv_row (by omega)]), cov_n 91 rfl rfl ?_⟩
          · exact ⟨by show k - 1 ≤ _; omega, by rw [← hR0]; exact hQ.next h0 (by omega) hk⟩
          · show k - 1 < k
            omega
          · exact (.cons (by show some (V.n false .u64 _) = some (V.n false .u64 _); rw [(dv_digit h0 (by omega)).2, hR0]) (.cons (by show some (V.i .i64 _) = some (V.i .i64 _); congr 2; omega) (.u (.u (.u (.u (.u (.u (.u (.u (.u (.u (.u (.u (.u (.u (.u (.u (.u (.u (.u (.u (.u (.u (.u (.u (.u (.u (.u (.u (.u (.u (.u (.u (.u (.u (.u (.u (.u (.u (.u (.u (.u (.u .nil))))))))))))))))))))))))))))))))))))))))))))
      · refine js_h (hy_lit (id := 1) (xs := [.tmp 27]) el33 rfl (ovL_cons rfl ovL_nil) rfl (all2_of rfl) (by decide) rfl) (hd 28 rfl) <| ja_frz (k := .u64) (l := [((x / B32 ^ (k - 1) % B32 : Nat) : Int)]) (l' := [((x / B32 ^ (k - 1) % B32 : Nat) : Int)]) 28 rfl rfl (Nat.le_refl _) rfl hL ?_
        refine ja_1 1 ?_ rfl (by kernel_rfl)
        refine js_call Tryz.f122 (Shl_s (x / B32 ^ k % y) 32 (by omega) (by decide)) rfl Tryz.func122 rfl rfl (ovL_cons rfl (ovL_cons rfl ovL_nil)) (.cons .n (.cons .i .nil)) (hd 23 rfl) ?_ (fun ch hp => by simp at hp)
        rintro y hy; injection hy with hy; subst hy
        refine ja_1 7 ?_ rfl (by kernel_rfl)
        refine js_call Tryz.f78 (hNm) rfl Tryz.func78 rfl rfl (ovL_cons rfl ovL_nil) (.cons .n .nil) (hd 29 rfl) ?_ (fun ch hp => by simp at hp)
        rintro y hy; injection hy with hy; subst hy
        refine ja_1 8 ?_ rfl (by kernel_rfl)
        refine js_call Tryz.f58 (hAdd) rfl Tryz.func58 rfl rfl (ovL_cons rfl (ovL_cons rfl ovL_nil)) (.cons .n (.cons .n .nil)) (hd 30 rfl) ?_ (fun ch hp => by simp at hp)
        rintro _ ⟨⟩; refine zal 9 (lo_l (ly_as rfl) (hd 6 rfl)) rfl <| ja_nil (by kernel_rfl) <| zsr <| zas rfl (hd 9 rfl) <| jo_nil ?_
        refine jc_meetH (G := Unit) (fun _ => True) (fun _ => [(6, .n false .u64 (digs B32 (R % y))), (9, .i .u64 ((R / y : Nat) : Int)), (10, .u), (11, .u), (31, .u), (32, .u), (33, .u), (34, .u), (35, .u), (36, .u), (37, .u), (38, .u), (39, .u), (40, .u), (41, .u), (42, .u), (43, .u), (44, .u), (45, .u), (46, .u), (47, .u), (48, .u), (49, .u), (50, .u), (51, .u), (52, .u)]) ?_ ?_
        · refine zsr <| zmv rfl (hd 31 rfl) <| zmv rfl (hd 32 rfl) ?_
          refine jo_call Tryz.f59 (rCmp_s R y (by omega) (by omega)) rfl Tryz.func59 rfl rfl (ovL_cons rfl (ovL_cons rfl ovL_nil)) (.cons .n (.cons .n .nil)) (hd 33 rfl) ?_ (fun ch hp => by simp at hp)
          rintro _ ⟨⟩; refine jo_l (ly_ge rfl rfl) (hd 34 rfl) <| jo_nil ?_
          refine jc_if rfl (fun h5 => ?_) (fun h5 => ?_)
          · refine zsr <| zas rfl (hd 10 rfl) <| jo_nil <| jc_block ?_
            refine jc_loopF (G := Nat × Nat) (fun g => Hlv R y g.1 g.2) (fun g => [(6, .n false .u64 (digs B32 (R - y * g.2))), (9, .i .u64 (g.2 : Int)), (10, .i .i64 ((g.1 : Int) - 1)), (11, .u), (35, .u), (36, .u), (37, .u), (38, .u), (39, .u), (40, .u), (41, .u), (42, .u), (43, .u), (44, .u), (45, .u), (46, .u), (47, .u), (48, .u), (49, .u), (50, .u), (51, .u), (52, .u)]) (fun _ => _) (fun g => g.1) (32, 0) ?_ ?_ rfl ?_
            · exact hlv_0 hRb
            · exact (.cons (by show some (V.n false .u64 (digs B32 R)) = some (V.n false .u64 (digs B32 (R - y * 0))); rw [Nat.mul_zero, Nat.sub_zero]) (.cons rfl (.cons rfl (.u (.u (.u (.u (.u (.u (.u (.u (.u (.u (.u (.u (.u (.u (.u (.u (.u (.u (.u .nil))))))))))))))))))))))
            · rintro ⟨t, q⟩ hH
              dsimp only at hH
              have hlq := hlv_len (t := t) (q := q) hRb
              refine jc_seq <| zsr <| zmv rfl (hd 35 rfl) <| jo_l (ly_ge rfl rfl) (hd 36 rfl) <| jo_nil ?_
              refine jc_if rfl (fun h6 => ?_) (fun h6 => ?_)
              · obtain ⟨s, rfl⟩ : ∃ s, t = s + 1 := ⟨t - 1, by omega⟩
                have hs : s < 32 := by have := hH.1; omega
                have hls := len_ys (y := y) h0 hs
                refine jc_skip ?_
                refine jc_meetH (G := Nat) (fun g => Hlv R y s g) (fun g => [(6, .n false .u64 (digs B32 (R - y * g))), (9, .i .u64 (g : Int)), (11, .u), (39, .u), (40, .u), (41, .u), (42, .u), (43, .u), (44, .u), (45, .u), (46, .u), (47, .u), (48, .u), (49, .u), (50, .u), (51, .u), (52, .u)]) ?_ ?_
                · refine jc_block <| zsr <| zmv rfl (hd 39 rfl) <| jo_l (ly_is (ly_mv rfl) (show V.i .i64 _ = V.i .i64 (s : Int) by congr 1; omega)) (hd 40 rfl) ?_
                  refine jo_call Tryz.f122 (Shl_s y s (by omega) (by omega)) rfl Tryz.func122 rfl rfl (ovL_cons rfl (ovL_cons rfl ovL_nil)) (.cons .n (.cons .i .nil)) (hd 41 rfl) ?_ (fun ch hp => by simp at hp)
                  rintro _ ⟨⟩; refine zas rfl (hd 11 rfl) <| jo_nil <| zsr <| zmv rfl (hd 42 rfl) <| zmv rfl (hd 43 rfl) ?_
                  refine jo_call Tryz.f59 (rCmp_s (R - y * q) (y * 2 ^ s) (by omega) (by omega)) rfl Tryz.func59 rfl rfl (ovL_cons rfl (ovL_cons rfl ovL_nil)) (.cons .n (.cons .n .nil)) (hd 44 rfl) ?_ (fun ch hp => by simp at hp)
                  rintro _ ⟨⟩; refine jo_l (ly_ge rfl rfl) (hd 45 rfl) <| jo_nil ?_
                  refine jc_if rfl (fun h7 => ?_) (fun h7 => ?_)
                  · have hle := cmp_le h7
                    obtain ⟨hy1, hy2⟩ := hlv_yes hH hle
                    have hqb := hy1.2.2.2
                    refine zsr <| zmv rfl (hd 46 rfl) <| zmv rfl (hd 47 rfl) ?_
                    refine jo_call Tryz.f60 (rSub_s (R - y * q) (y * 2 ^ s) hle (by omega) (by omega)) rfl Tryz.func60 rfl rfl (ovL_cons rfl (ovL_cons rfl ovL_nil)) (.cons .n (.cons .n .nil)) (hd 48 rfl) ?_ (fun ch hp => by simp at hp)
                    rintro _ ⟨⟩; refine zas rfl (hd 6 rfl) <| jo_nil <| jc_region <| zmv rfl (hd 49 rfl) <| jo_l (ly_is (ly_mv rfl) (show V.i .i64 _ = V.i .i64 (s : Int) by congr 1; omega)) (hd 50 rfl) <| jo_l (ly_is (ly_shl rfl rfl (by omega) rfl) (show V.i .u64 _ = V.i .u64 (((2 ^ s : Nat) : Int)) from congrArg (V.i .u64) (bit_shl hs))) (hd 51 rfl) <| jo_l (ly_add rfl rfl (r := ((q + 2 ^ s : Nat) : Int)) (by generalize 2 ^ s = u at *; rw [wrap_u64 (by omega) (by omega)]; omega)) (hd 52 rfl) <| zas rfl (hd 9 rfl) <| jo_nil ?_
                    refine ⟨(q + 2 ^ s), ?_, rfl, cov_n 17 rfl rfl ?_⟩
                    · exact hy1
                    · exact (.cons (by show some (V.n false .u64 _) = some (V.n false .u64 _); rw [hy2]) (.cons rfl (.u (.u (.u (.u (.u (.u (.u (.u (.u (.u (.u (.u (.u (.u (.u .nil)))))))))))))))))
                  · have hno := hlv_no hH (fun hle => h7 (cmp_ge hle))
                    refine jc_skip ?_
                    refine ⟨q, ?_, rfl, cov_n 8 rfl rfl ?_⟩
                    · exact hno
                    · exact (.cons rfl (.cons rfl (.u (.u (.u (.u (.u (.u (.u (.u (.u (.u (.u (.u (.u (.u (.u .nil)))))))))))))))))
                · rintro q' hH'; refine jc_region <| zmv rfl (hd 37 rfl) <| jo_l (ly_sub rfl rfl (wrap_i64 (by omega) (by omega))) (hd 38 rfl) <| zas rfl (hd 10 rfl) <| jo_nil ?_
                  refine ⟨(s, q'), ?_, ?_, rfl, cov_n 44 rfl rfl ?_⟩
                  · exact hH'
                  · show s < s + 1
                    omega
                  · exact (.cons rfl (.cons rfl (.cons (by show some (V.i .i64 _) = some (V.i .i64 _); congr 2; omega) (.u (.u (.u (.u (.u (.u (.u (.u (.u (.u (.u (.u (.u (.u (.u (.u (.u (.u (.u .nil))))))))))))))))))))))
              · obtain rfl : t = 0 := by omega
                obtain ⟨he1, he2⟩ := hlv_end hH
                refine jc_exit ?_
                refine ⟨(), ?_, rfl, cov_n 29 rfl rfl ?_⟩
                · trivial
                · exact (.cons (by show some (V.n false .u64 _) = some (V.n false .u64 _); rw [he2]) (.cons (by show some (V.i .u64 _) = some (V.i .u64 _); rw [he1]) (.u (.u (.u (.u (.u (.u (.u (.u (.u (.u (.u (.u (.u (.u (.u (.u (.u (.u (.u (.u (.u (.u (.u (.u .nil))))))))))))))))))))))))))
          · have hlt := cmp_lt' h5
            refine jc_skip ?_
            refine ⟨(), ?_, rfl, cov_n 4 rfl rfl ?_⟩
            · trivial
            · exact (.cons (by show some (V.n false .u64 _) = some (V.n false .u64 _); rw [Nat.mod_eq_of_lt hlt]) (.cons (by show some (V.i .u64 _) = some (V.i .u64 _); rw [Nat.div_eq_of_lt hlt]; rfl) (.u (.u (.u (.u (.u (.u (.u (.u (.u (.u (.u (.u (.u (.u (.u (.u (.u (.u (.u (.u (.u (.u (.u (.u .nil))))))))))))))))))))))))))
        · rintro _ _; refine jc_region <| zmv rfl (hd 53 rfl) <| zmv rfl (hd 54 rfl) <| zmv rfl (hd 55 rfl) <| jo_l (ly_ia (i := k - 1) sl33 rfl rfl rfl (by omega) (by omega) rfl) (hd 56 rfl) <| jo_st (sy_storei rfl rfl rfl one82 (by simp only [List.length_append, List.length_replicate]; omega)) <| jo_nil <| jc_region <| zmv rfl (hd 20 rfl) <| jo_l (ly_sub rfl rfl (wrap_i64 (by omega) (by omega))) (hd 21 rfl) <| zas rfl (hd 8 rfl) <| jo_nil ?_
          refine ⟨(k - 1, ((R / y : Nat) : Int) :: Q), ?_, ?_, (by show [(⟨79, 1, 0, true, ints .u64 _⟩ : Ob)] = [⟨79, 1, 0, true, ints .u64 _⟩]; rw [dv_row (by omega)]), cov_n 91 rfl rfl ?_⟩
          · exact ⟨by show k - 1 ≤ _; omega, by rw [← hR0]; exact hQ.next h0 (by omega) hk⟩
          · show k - 1 < k
            omega
          · exact (.cons (by show some (V.n false .u64 _) = some (V.n false .u64 _); rw [(dv_digit h0 (by omega)).2, hR0]) (.cons (by show some (V.i .i64 _) = some (V.i .i64 _); congr 2; omega) (.u (.u (.u (.u (.u (.u (.u (.u (.u (.u (.u (.u (.u (.u (.u (.u (.u (.u (.u (.u (.u (.u (.u (.u (.u (.u (.u (.u (.u (.u (.u (.u (.u (.u (.u (.u (.u (.u (.u (.u (.u (.u .nil))))))))))))))))))))))))))))))))))))))))))))
    · obtain rfl : k = 0 := by omega
      refine jc_exit <| zsr <| jo_frz (k := .u64) (l := List.replicate 0 0 ++ Q) (l' := Q) 7 rfl rfl (by have := hQ.l; simp only [List.length_append, List.length_replicate]; omega) (by have := hQ.l; rw [List.drop_zero]; show List.take _ Q = _; rw [List.take_of_length_le (by omega)]) hL <| zmv rfl (hd 57 rfl) ?_
      refine jo_call Tryz.f78 (rnorm_s Q (by have := hQ.l; omega)) rfl Tryz.func78 rfl rfl (ovL_cons rfl ovL_nil) (.cons .n .nil) (hd 58 rfl) ?_ (fun ch hp => by simp at hp)
      rintro _ ⟨⟩; refine zmv rfl (hd 59 rfl) <| zas rfl (hd 4 rfl) <| zas rfl (hd 5 rfl) <| jo_nil <| jc_ret ?_
      refine ⟨_, _, (.cons rfl (.cons rfl .nil)), (.t1 .n (.t1 .n .t0)), ?_⟩
      rw [hQ.fin, Nat.pow_zero, Nat.div_one]





def xr5 (x : Int) : Int := bitop .xor .u64 x 5
def xorL (l : List Int) : List Int := l.map xr5
def xorI (l : List Int) (i : Nat) : List Int := xorL (l.take i) ++ l.drop i
def cpI (l : List Int) (i : Nat) : List Int := fillI (l.take i) l.length
theorem cpI_0 (l : List Int) : List.replicate l.length (0 : Int) = cpI l 0 := by simp [cpI, fillI]
theorem cpI_len {l : List Int} {i : Nat} (h : i ≤ l.length) : (cpI l i).length = l.length := fillI_len (by rw [List.length_take]; omega)
theorem cpI_all (l : List Int) : cpI l l.length = l := by rw [cpI, List.take_length, fillI_full rfl]
theorem cpI_set {l : List Int} {i : Nat} (h : i < l.length) : (cpI l i).set ((0 + i) * 1) (l.getD i 0) = cpI l (i + 1) := by
  rw [Nat.zero_add, Nat.mul_one]
  unfold cpI
  have e : (l.take i).length = i := by rw [List.length_take]; omega
  have := fillI_set (l := l.take i) (n := l.length) (v := l.getD i 0) (by omega)
  rw [e] at this
  rw [this, List.take_add_one, List.getElem?_eq_getElem h, List.getD_eq_getElem?_getD, List.getElem?_eq_getElem h]
  rfl
theorem lenV_add (a b : Int) : lenV (a + b) ≤ max (lenV a) (lenV b) + 1 := by
  have h := lenV_sub a (-b)
  rw [Int.sub_neg] at h
  have e : lenV (-b) = lenV b := by unfold lenV; rw [Int.natAbs_neg]
  rwa [e] at h


theorem rng_app {b : Nat} {l l' : List Int} (h : rng b l) (h' : rng b l') : rng b (l ++ l') := fun x hx => by
  rcases List.mem_append.1 hx with h1 | h1
  · exact h x h1
  · exact h' x h1
theorem rng_one {b : Nat} {x : Int} (h0 : 0 ≤ x) (h1 : x < b) : rng b [x] := fun y hy => by
  rw [List.mem_singleton.1 hy]; exact ⟨h0, h1⟩
theorem rng_zeros {b k : Nat} (hb : 0 < b) : rng b (List.replicate k 0) := fun x hx => by
  rw [(List.mem_replicate.1 hx).2]; omega
theorem vb_append (b : Nat) : ∀ l l' : List Int, vb b (l ++ l') = vb b l + (b : Int) ^ l.length * vb b l'
  | [], l' => by simp [vb]
  | x :: l, l' => by
    rw [List.cons_append, vb, vb, vb_append b l l', List.length_cons, Int.pow_succ, Int.mul_add, Int.mul_comm ((b : Int) ^ l.length) b, Int.mul_assoc]
    omega
theorem vb_inj {b : Nat} : ∀ {l l' : List Int}, rng b l → rng b l' → l.length = l'.length → vb b l = vb b l' → l = l'
  | [], [], _, _, _, _ => rfl
  | [], _ :: _, _, _, h, _ => by simp at h
  | _ :: _, [], _, _, h, _ => by simp at h
  | x :: l, y :: l', h1, h2, h3, h4 => by
    have hx := h1 x (List.mem_cons_self ..)
    have hy := h2 y (List.mem_cons_self ..)
    simp only [vb] at h4
    have e : x = y := by
      have e1 : (x + b * vb b l) % b = x := by rw [Int.add_mul_emod_self_left]; exact Int.emod_eq_of_lt hx.1 hx.2
      have e2 : (y + b * vb b l') % b = y := by rw [Int.add_mul_emod_self_left]; exact Int.emod_eq_of_lt hy.1 hy.2
      rw [← e1, ← e2, h4]
    subst e
    have hb : (b : Int) ≠ 0 := by omega
    have e2 : vb b l = vb b l' := Int.eq_of_mul_eq_mul_left hb (by omega)
    rw [vb_inj (rng_tail h1) (rng_tail h2) (by simpa using h3) e2]
theorem vb_lt {b : Nat} : ∀ {l : List Int}, rng b l → vb b l < (b : Int) ^ l.length
  | [], _ => by simp [vb]
  | x :: l, h => by
    have hx := h x (List.mem_cons_self ..)
    have ih := vb_lt (rng_tail h)
    rw [vb, List.length_cons, Int.pow_succ]
    have : (b : Int) * (vb b l + 1) ≤ b * (b : Int) ^ l.length := Int.mul_le_mul_of_nonneg_left (by omega) (by omega)
    rw [Int.mul_comm ((b : Int) ^ l.length)]
    rw [Int.mul_add] at this
    omega
def padD (b m x : Nat) : List Int := digs b x ++ List.replicate (m - (digs b x).length) 0
theorem padD_rng {b : Nat} (hb : 2 ≤ b) (m x : Nat) : rng b (padD b m x) := rng_app (rng_digs hb x) (rng_zeros (by omega))
theorem padD_vb {b : Nat} (hb : 2 ≤ b) (m x : Nat) : vb b (padD b m x) = x := by rw [padD, vb_app, vb_digs hb]
theorem padD_le {b : Nat} (m x : Nat) : (padD b m x).length = max m (digs b x).length := by simp [padD]; omega
theorem padD_len {b : Nat} (hb : 2 ≤ b) {m x : Nat} (h : x < b ^ m) : (padD b m x).length = m := by
  have := digs_len hb m x h
  rw [padD_le]; omega
theorem padD_eq {b : Nat} (hb : 2 ≤ b) {m x : Nat} {l : List Int} (hr : rng b l) (hl : l.length = m) (hv : vb b l = x) : l = padD b m x := by
  have h := vb_lt hr
  rw [hv, hl] at h
  have h' : x < b ^ m := by exact_mod_cast h
  exact vb_inj hr (padD_rng hb m x) (by rw [hl, padD_len hb h']) (by rw [hv, padD_vb hb])
theorem padD_app {b : Nat} (hb : 2 ≤ b) {n m q r : Nat} (hq : q < b ^ m) (hr : r < b ^ n) : padD b n r ++ padD b m q = padD b (n + m) (q * b ^ n + r) := by
  refine padD_eq hb (rng_app (padD_rng hb _ _) (padD_rng hb _ _)) (by rw [List.length_append, padD_len hb hr, padD_len hb hq]) ?_
  rw [vb_append, padD_len hb hr, padD_vb hb, padD_vb hb, Int.natCast_add, Int.natCast_mul, Int.natCast_pow, Int.mul_comm]
  omega
def hdg (b m x : Nat) : List Int := (padD b m x).reverse
theorem hdg_le {b : Nat} (m x : Nat) : (hdg b m x).length = max m (digs b x).length := by rw [hdg, List.length_reverse, padD_le]
theorem hdg_app {b : Nat} (hb : 2 ≤ b) {n m q r : Nat} (hq : q < b ^ m) (hr : r < b ^ n) : hdg b m q ++ hdg b n r = hdg b (n + m) (q * b ^ n + r) := by
  unfold hdg
  rw [← padD_app hb hq hr, List.reverse_append]
theorem hdg_rng {b : Nat} (hb : 2 ≤ b) (m x : Nat) : rng b (hdg b m x) := fun y hy => padD_rng hb m x y (List.mem_reverse.1 hy)
theorem digs_ne {b x : Nat} (hb : 2 ≤ b) (h : x ≠ 0) : digs b x ≠ [] := fun e => by
  have := vb_digs hb x
  rw [e] at this
  simp [vb] at this
  omega
theorem hdg_cut {b : Nat} (hb : 2 ≤ b) {m x : Nat} (hx : x ≠ 0) : hdg b m x = List.replicate (m - (digs b x).length) 0 ++ hdg b 1 x := by
  have h1 : 0 < (digs b x).length := List.length_pos_iff.2 (digs_ne hb hx)
  unfold hdg padD
  rw [List.reverse_append, List.reverse_append, show 1 - (digs b x).length = 0 by omega]
  simp
theorem hdg_head {b : Nat} (hb : 2 ≤ b) {x : Nat} (hx : x ≠ 0) : (hdg b 1 x).getD 0 0 ≠ 0 := by
  have h1 : 0 < (digs b x).length := List.length_pos_iff.2 (digs_ne hb hx)
  have ht := tpd_digs hb x (digs_ne hb hx)
  unfold hdg padD
  rw [show 1 - (digs b x).length = 0 by omega]
  simp only [List.replicate_zero, List.append_nil]
  rw [List.getD_eq_getElem?_getD, List.getElem?_reverse (by omega), Nat.sub_zero, ← List.getD_eq_getElem?_getD]
  exact ht


theorem w63 {n p : Nat} (h : 2 ^ n ≤ p) (hp : p ≤ 9223372036854775808) : n ≤ 63 :=
  (Nat.pow_le_pow_iff_right (by decide : 1 < 2)).1 (Nat.le_trans h (show p ≤ 2 ^ 63 from hp))
theorem w_step {b n p : Nat} (hb : 2 ≤ b) (h1 : p = b ^ n) (h2 : 2 ^ n ≤ p) (h3 : p ≤ 9223372036854775808 / b) : p * b = b ^ (n + 1) ∧ 2 ^ (n + 1) ≤ p * b ∧ p * b ≤ 9223372036854775808 := by
  refine ⟨by rw [h1, Nat.pow_succ], ?_, (Nat.le_div_iff_mul_le (by omega)).1 h3⟩
  rw [Nat.pow_succ]
  exact Nat.mul_le_mul h2 hb
theorem w_exit {b n p : Nat} (hb : 2 ≤ b) (hb2 : b ≤ 36) (h1 : p = b ^ n) (h3 : ¬ p ≤ 9223372036854775808 / b) : 1 ≤ n := by
  rcases Nat.eq_zero_or_pos n with h | h
  · subst h
    exact absurd ((Nat.le_div_iff_mul_le (by omega)).2 (by rw [h1, Nat.pow_zero]; omega)) h3
  · exact h
theorem dg_in {b : Nat} (acc : List Int) (r : Int) : vb b (acc ++ [r % b]) + (b : Int) ^ (acc.length + 1) * (r / b) = vb b acc + (b : Int) ^ acc.length * r := by
  rw [vb_append]
  simp only [vb]
  rw [Int.pow_succ, Int.mul_zero, Int.add_zero, Int.mul_assoc, Int.add_assoc, ← Int.mul_add, Int.emod_add_mul_ediv]
theorem dgr_lt {b n i : Nat} {r : Int} (hb : 2 ≤ b) (hi : i < n) (h0 : 0 ≤ r) (h : r < (b : Int) ^ (n - i)) : 0 ≤ r / b ∧ r / b < (b : Int) ^ (n - (i + 1)) := by
  refine ⟨Int.ediv_nonneg h0 (by omega), Int.ediv_lt_of_lt_mul (by omega) ?_⟩
  rw [← Int.pow_succ]
  rwa [show (n - (i + 1)).succ = n - i by omega]
theorem dg_out {b n : Nat} {acc acc' : List Int} {v r : Int} (hl : acc'.length = acc.length + n) (h : vb b acc' + (b : Int) ^ acc'.length * r = vb b acc + (b : Int) ^ acc.length * (v % ((b ^ n : Nat) : Int))) (hr : r = 0) : vb b acc' + (b : Int) ^ acc'.length * (v / ((b ^ n : Nat) : Int)) = vb b acc + (b : Int) ^ acc.length * v := by
  subst hr
  rw [Int.mul_zero, Int.add_zero] at h
  rw [h, hl, Int.pow_add, ← Int.natCast_pow b n, Int.mul_assoc, Int.add_assoc, ← Int.mul_add, Int.emod_add_mul_ediv]
theorem pB_pow : ∀ n, pB n = ((2 ^ (64 * n) : Nat) : Int)
  | 0 => rfl
  | n + 1 => by
    rw [pB, pB_pow n, show 64 * (n + 1) = 64 * n + 64 by omega, Nat.pow_add, Int.natCast_mul, Int.mul_comm]
    rfl
theorem dg_cap {b L : Nat} (hb : 2 ≤ b) {acc l : List Int} {v : Int} (hr : rng b acc) (hv : 0 < v) (hu : u64s l) (hL : l.length ≤ L) (h : vb b acc + (b : Int) ^ acc.length * v = vl l) : acc.length < 64 * L := by
  have h0 := vb_nonneg hr
  have hlt := vl_lt hu
  have e := pB_pow l.length
  have h1 : ((2 ^ acc.length : Nat) : Int) ≤ (b : Int) ^ acc.length := by
    rw [← Int.natCast_pow]
    exact_mod_cast Nat.pow_le_pow_left hb acc.length
  have h2 : (b : Int) ^ acc.length * 1 ≤ (b : Int) ^ acc.length * v := Int.mul_le_mul_of_nonneg_left (by omega) (by have : (0 : Int) ≤ ((2 ^ acc.length : Nat) : Int) := Int.natCast_nonneg _; omega)
  have h3 : ((2 ^ acc.length : Nat) : Int) < ((2 ^ (64 * l.length) : Nat) : Int) := by omega
  have h4 : acc.length < 64 * l.length := (Nat.pow_lt_pow_iff_right (by decide : 1 < 2)).1 (by exact_mod_cast h3)
  omega
theorem dg_rlt {b n : Nat} {v : Int} (hb : 2 ≤ b) : 0 ≤ v % ((b ^ n : Nat) : Int) ∧ v % ((b ^ n : Nat) : Int) < (b : Int) ^ (n - 0) := by
  have hp : (0 : Int) < ((b ^ n : Nat) : Int) := by exact_mod_cast Nat.pow_pos (by omega)
  refine ⟨Int.emod_nonneg _ (by omega), ?_⟩
  rw [Nat.sub_zero, ← Int.natCast_pow]
  exact Int.emod_lt_of_pos _ hp
theorem dg_zero {b : Nat} {r : Int} (h0 : 0 ≤ r) {n : Nat} (h : r < (b : Int) ^ (n - n)) : r = 0 := by
  rw [Nat.sub_self, Int.pow_zero] at h
  omega
theorem dg_less {v : Int} {b n : Nat} (hv : 0 < v) (hb : 2 ≤ b) (hn : 1 ≤ n) : (v / ((b ^ n : Nat) : Int)).toNat < v.toNat := by
  have hp : 2 ≤ b ^ n := Nat.le_trans (show 2 ≤ b ^ 1 by rw [Nat.pow_one]; exact hb) (Nat.pow_le_pow_right (by omega) hn)
  have h1 : v / ((b ^ n : Nat) : Int) < v := Int.ediv_lt_self_of_pos_of_ne_one hv (by omega)
  omega
theorem rng_take {b : Nat} {l : List Int} (h : rng b l) (k : Nat) : rng b (l.take k) := fun x hx => h x (List.mem_of_mem_take hx)
theorem take_pred {l : List Int} {k : Nat} (hk : 0 < k) (hl : k ≤ l.length) : l.take k = l.take (k - 1) ++ [l.getD (k - 1) 0] := by
  obtain ⟨j, rfl⟩ : ∃ j, k = j + 1 := ⟨k - 1, by omega⟩
  rw [Nat.add_sub_cancel, List.take_add_one, List.getD_eq_getElem?_getD, List.getElem?_eq_getElem (by omega)]
  rfl
theorem cut_step {b k : Nat} {acc : List Int} (hk : 0 < k) (hl : k ≤ acc.length) (h0 : acc.getD (k - 1) 0 = 0) : vb b (acc.take (k - 1)) = vb b (acc.take k) := by
  rw [take_pred hk hl, h0]
  exact (vb_app b (acc.take (k - 1)) 1).symm
theorem cut_digs {b k x : Nat} (hb : 2 ≤ b) {acc : List Int} (hl : k ≤ acc.length) (hr : rng b acc) (hv : vb b (acc.take k) = x) (ht : k = 0 ∨ acc.getD (k - 1) 0 ≠ 0) : acc.take k = digs b x := by
  have h := digs_of hb (rng_take hr k) (fun hne => by
    rcases ht with h | h
    · subst h; exact absurd rfl hne
    · have hk : 0 < k := by
        rcases Nat.eq_zero_or_pos k with e | e
        · subst e; exact absurd rfl hne
        · exact e
      rw [List.length_take, Nat.min_eq_left hl, List.getD_eq_getElem?_getD, List.getElem?_take, if_pos (by omega), ← List.getD_eq_getElem?_getD]
      exact h)
  rw [← h, hv, Int.toNat_natCast]
theorem pad_end {b m k x : Nat} {C : List Int} (h1 : C.take k = digs b x ++ List.replicate (k - (digs b x).length) 0) (h2 : (digs b x).length ≤ k) (h3 : m ≤ k) (h4 : k ≤ max m (digs b x).length) : C.take k = padD b m x := by
  rw [h1, padD]
  congr 2
  omega
theorem pad_step {D C C' : List Int} {k : Nat} (hD : D.length ≤ k) (h1 : C.take k = D ++ List.replicate (k - D.length) 0) (h2 : C'.take (k + 1) = C.take k ++ [0]) : C'.take (k + 1) = D ++ List.replicate (k + 1 - D.length) 0 := by
  rw [h2, h1, List.append_assoc, show k + 1 - D.length = (k - D.length) + 1 by omega, List.replicate_succ']
theorem getT {C acc : List Int} {j : Nat} (h : C.take acc.length = acc) (hj : j < acc.length) : C.getD ((0 + j) * 1) 0 = acc.getD j 0 := by
  have e : acc.getD j 0 = (C.take acc.length).getD j 0 := by rw [h]
  rw [e, Nat.zero_add, Nat.mul_one, List.getD_eq_getElem?_getD, List.getD_eq_getElem?_getD, List.getElem?_take, if_pos hj]
theorem takeT {C acc : List Int} {k : Nat} (h : C.take acc.length = acc) (hk : k ≤ acc.length) : C.take k = acc.take k := by
  have := congrArg (List.take k) h
  rw [List.take_take, Nat.min_eq_left hk] at this
  exact this
def revI (B : List Int) (i : Nat) : List Int := List.replicate (B.length - i) 0 ++ (B.take i).reverse
theorem revI_0 (B : List Int) : revI B 0 = List.replicate B.length 0 := by simp [revI]
theorem revI_len {B : List Int} {i : Nat} (h : i ≤ B.length) : (revI B i).length = B.length := by simp [revI]; omega
theorem revI_all (B : List Int) : revI B B.length = B.reverse := by simp [revI]
theorem revI_set {B : List Int} {i : Nat} (h : i < B.length) : (revI B i).set (B.length - 1 - i) (B.getD i 0) = revI B (i + 1) := by
  have e : B.take (i + 1) = B.take i ++ [B.getD i 0] := by
    have := take_pred (l := B) (k := i + 1) (by omega) (by omega)
    rwa [Nat.add_sub_cancel] at this
  unfold revI
  obtain ⟨j, hj⟩ : ∃ j, B.length - 1 - i = j := ⟨_, rfl⟩
  rw [hj, show B.length - i = j + 1 by omega, show B.length - (i + 1) = j by omega, e, List.reverse_append, List.replicate_succ', List.append_assoc, List.set_append_right _ _ (by simp)]
  simp

def pwV (b k : Nat) : V := .n true .u64 (lm ((b ^ 2 ^ k : Nat) : Int))
def pwR (b K : Nat) : List (List V) := (List.range K).map fun k => [pwV b k]
theorem pw_length {b K : Nat} : (pwR b K).length = K := by simp [pwR]
theorem pw_snoc {b K : Nat} : (pwR b K).flatten ++ [pwV b K] = (pwR b (K + 1)).flatten := by
  unfold pwR
  rw [List.range_succ, List.map_append, List.flatten_append]
  rfl
theorem pw_one {b : Nat} : [pwV b 0] = (pwR b 1).flatten := rfl
theorem pw_mono {b j k : Nat} (hb : 2 ≤ b) (h : j ≤ k) : lenV ((b ^ 2 ^ j : Nat) : Int) ≤ lenV ((b ^ 2 ^ k : Nat) : Int) := by
  refine lenV_mono ?_
  rw [Int.natAbs_natCast, Int.natAbs_natCast]
  exact Nat.pow_le_pow_right (by omega) (Nat.pow_le_pow_right (by decide) h)
theorem pw_big {b k : Nat} {v : Int} (hv : lenV v ≤ 67108864) (h0 : 0 ≤ v) (h : 67108864 < lenV ((b ^ 2 ^ k : Nat) : Int)) : v.toNat < b ^ 2 ^ k := by
  rcases Nat.lt_or_ge v.toNat (b ^ 2 ^ k) with h1 | h1
  · exact h1
  · have := lenV_mono (v := ((b ^ 2 ^ k : Nat) : Int)) (w := v) (by rw [Int.natAbs_natCast]; omega)
    omega
theorem errL_len {x : Int} {r : List Int} {e : Int} (h : ErrL x r e) : r.length ≤ 1048576 := by
  rcases h with ⟨_, h, hh⟩ | ⟨_, h, _⟩
  · rw [h]; exact lenV_lm hh
  · rw [h]; simp
theorem errL_u {x : Int} {r : List Int} {e : Int} (h : ErrL x r e) : u64s r := by
  rcases h with ⟨_, h, hh⟩ | ⟨_, h, _⟩
  · rw [h]; exact lm_u _
  · rw [h]; exact fun x hx => by simp at hx
theorem errL_ne {x : Int} {r : List Int} {e : Int} (h : ErrL x r e) (he : e ≠ 0) : 67108864 < lenV x := by
  rcases h with ⟨h, _⟩ | ⟨_, _, h⟩
  · exact absurd h he
  · exact h
theorem errL_eq {x : Int} {r : List Int} {e : Int} (h : ErrL x r e) (he : e = 0) : r = lm x ∧ lenV x ≤ 67108864 := by
  rcases h with ⟨_, h⟩ | ⟨h, _⟩
  · exact h
  · omega
theorem pw_at {b K k : Nat} (h : k < K) : (pwR b K)[k]? = some [pwV b k] := by
  unfold pwR
  rw [List.getElem?_map, List.getElem?_range h]; rfl
theorem pw_flat {b : Nat} : ∀ K, (pwR b K).flatten = (List.range K).map (pwV b)
  | 0 => rfl
  | K + 1 => by rw [← pw_snoc, pw_flat K, List.range_succ, List.map_append]; rfl
theorem pw_flen {b K : Nat} : (pwR b K).flatten.length = K := by rw [pw_flat]; simp
theorem pw_fat {b K k : Nat} (h : k < K) : (pwR b K).flatten[k]? = some (pwV b k) := by
  rw [pw_flat, List.getElem?_map, List.getElem?_range h]; rfl
theorem pw_sz {b K : Nat} : ∀ r ∈ pwR b K, r.length = 1 := fun r hr => by
  obtain ⟨k, _, rfl⟩ := List.mem_map.1 hr; rfl
theorem pw_pure {b K : Nat} : ∀ r ∈ pwR b K, r.all pureV = true := fun r hr => by
  obtain ⟨k, _, rfl⟩ := List.mem_map.1 hr; rfl
theorem pw_id {b K n : Nat} : (pwR b K).flatten.all (idB n) = true := by
  rw [pw_flat, List.all_map, List.all_eq_true]; intro x _; rfl
theorem pw_pos {b k : Nat} (hb : 2 ≤ b) : 0 < b ^ 2 ^ k := Nat.pow_pos (by omega)
theorem pw_sq {b k : Nat} : b ^ 2 ^ k * b ^ 2 ^ k = b ^ 2 ^ (k + 1) := by
  rw [← Nat.pow_add]; congr 1; rw [Nat.pow_succ]; omega
theorem pw_sqI {b k : Nat} : vl (lm ((b ^ 2 ^ k : Nat) : Int)) * vl (lm ((b ^ 2 ^ k : Nat) : Int)) = ((b ^ 2 ^ (k + 1) : Nat) : Int) := by
  rw [vl_lm (Int.natCast_nonneg _), ← Int.natCast_mul, pw_sq]
theorem pw_cap {b k x L : Nat} (hb : 2 ≤ b) (h : b ^ 2 ^ k ≤ x) (hx : x < 2 ^ L) : 2 ^ k < L := by
  have h1 : 2 ^ 2 ^ k ≤ b ^ 2 ^ k := Nat.pow_le_pow_left hb _
  exact (Nat.pow_lt_pow_iff_right (by decide : 1 < 2)).1 (Nat.lt_of_le_of_lt h1 (Nat.lt_of_le_of_lt h hx))
theorem pw_cap26 {b k x : Nat} (hb : 2 ≤ b) (h : b ^ 2 ^ k ≤ x) (hx : x < 2 ^ 67108864) : k ≤ 26 := by
  have h1 := pw_cap hb h hx
  have h2 : 2 ^ k < 2 ^ 26 := h1
  have := (Nat.pow_lt_pow_iff_right (by decide : 1 < 2)).1 h2
  omega
theorem two_cap {k n : Nat} (h : k ≤ n) : 2 ^ k ≤ 2 ^ n := Nat.pow_le_pow_right (by decide) h
theorem nat_of {l : List Int} (hu : u64s l) : ((vl l).toNat : Int) = vl l := Int.toNat_of_nonneg (vl_nonneg hu)
theorem lenV_pow {v : Int} {L : Nat} (h0 : 0 ≤ v) (h : lenV v ≤ L) : v.toNat < 2 ^ L := by
  have h1 : v.natAbs < 2 ^ L := nbits_le.1 h
  have : v.toNat = v.natAbs := by omega
  omega
theorem digs_le_len {b : Nat} {l : List Int} (hu : u64s l) (hb : 2 ≤ b) : (digs b (vl l).toNat).length ≤ 64 * l.length := by
  refine digs_len hb _ _ ?_
  have h := vl_lt hu
  have h0 := vl_nonneg hu
  rw [pB_pow] at h
  have h1 : (vl l).toNat < 2 ^ (64 * l.length) := by omega
  exact Nat.lt_of_lt_of_le h1 (Nat.pow_le_pow_left hb _)
theorem part_q {b j x : Nat} (h : x < b ^ 2 ^ (j + 1)) : x / b ^ 2 ^ j < b ^ 2 ^ j := by
  rw [← pw_sq] at h
  exact Nat.div_lt_of_lt_mul h
theorem part_r {b j x : Nat} (hb : 2 ≤ b) : x % b ^ 2 ^ j < b ^ 2 ^ j := Nat.mod_lt _ (pw_pos hb)
theorem part_join {b j x : Nat} (hb : 2 ≤ b) (h : x < b ^ 2 ^ (j + 1)) : hdg b (2 ^ j) (x / b ^ 2 ^ j) ++ hdg b (2 ^ j) (x % b ^ 2 ^ j) = hdg b (2 ^ (j + 1)) x := by
  rw [hdg_app hb (part_q h) (part_r hb), Nat.div_add_mod' x]
  congr 1; rw [Nat.pow_succ]; omega
theorem qn_nat2 {v : Int} {p x : Nat} (h : v = (x : Int)) : (vl (lm (qn v (p : Int)))).toNat = x / p := by
  subst h
  rw [show qn (x : Int) (p : Int) = ((x / p : Nat) : Int) from by unfold qn; simp, vl_lm (Int.natCast_nonneg _)]; rfl
theorem rn_nat2 {v : Int} {p x : Nat} (h : v = (x : Int)) : (vl (lm (rn v (p : Int)))).toNat = x % p := by
  subst h
  rw [show rn (x : Int) (p : Int) = ((x % p : Nat) : Int) from by unfold rn; simp, vl_lm (Int.natCast_nonneg _)]; rfl
theorem cut_at {b m x i : Nat} (hb : 2 ≤ b) (hx : x ≠ 0) (hm : (digs b x).length ≤ m) (hi : i ≤ m - (digs b x).length) (hend : (hdg b m x).length - 1 ≤ i ∨ (hdg b m x).getD i 0 ≠ 0) : i = m - (digs b x).length := by
  have h1 : 0 < (digs b x).length := List.length_pos_iff.2 (digs_ne hb hx)
  rcases hend with h | h
  · rw [hdg_le] at h; omega
  · rcases Nat.lt_or_ge i (m - (digs b x).length) with hlt | hge
    · exfalso
      apply h
      rw [hdg_cut hb hx, List.getD_eq_getElem?_getD, List.getElem?_append_left (by simpa using hlt), List.getElem?_replicate, if_pos hlt]
      rfl
    · omega
theorem cut_next {b m x i : Nat} (hb : 2 ≤ b) (hx : x ≠ 0) (hm : (digs b x).length ≤ m) (hi : i ≤ m - (digs b x).length) (h0 : (hdg b m x).getD i 0 = 0) : i + 1 ≤ m - (digs b x).length := by
  rcases Nat.lt_or_ge i (m - (digs b x).length) with hlt | hge
  · exact hlt
  · exfalso
    obtain rfl : i = m - (digs b x).length := by omega
    apply hdg_head hb hx
    rw [hdg_cut hb hx, List.getD_eq_getElem?_getD, List.getElem?_append_right (by simp)] at h0
    simpa using h0
theorem cut_drop {b m x : Nat} (hb : 2 ≤ b) (hx : x ≠ 0) : (hdg b m x).drop (m - (digs b x).length) = hdg b 1 x := by
  rw [hdg_cut hb hx, List.drop_append_of_le_length (by simp)]
  simp

def ltrTab : ByteArray := ⟨#[48, 49, 50, 51, 52, 53, 54, 55, 56, 57, 97, 98, 99, 100, 101, 102, 103, 104, 105, 106, 107, 108, 109, 110, 111, 112, 113, 114, 115, 116, 117, 118, 119, 120, 121, 122]⟩
def ltr (x : Int) : Int := byteAt ltrTab x.toNat
def ltrB (x : Int) : UInt8 := UInt8.ofNat (ltr x).toNat
def txt (l : List Int) : ByteArray := ⟨(l.map ltrB).toArray⟩
theorem ltr_rng (x : Int) : 0 ≤ ltr x ∧ ltr x < 256 := byteAt_range _ _
theorem ltrB_to (x : Int) : ((ltrB x).toNat : Int) = ltr x := by
  have h := ltr_rng x
  unfold ltrB
  rw [UInt8.toNat_ofNat_of_lt' (by show (ltr x).toNat < 256; omega)]
  omega
theorem txt_I (l : List Int) : bytesI (txt l) = l.map ltr := by
  unfold bytesI txt
  rw [List.toList_toArray, List.map_map]
  exact List.map_congr_left fun x _ => ltrB_to x
theorem txt_size (l : List Int) : (txt l).size = l.length := by
  have := bytesI_len (txt l)
  rw [txt_I, List.length_map] at this
  omega
theorem txt_getD {l : List Int} {i : Nat} (h : i < l.length) : (l.map ltr).getD i 0 = ltr (l.getD i 0) := by
  rw [List.getD_eq_getElem?_getD, List.getElem?_map, List.getD_eq_getElem?_getD, List.getElem?_eq_getElem h]; rfl
theorem rng36 {b : Nat} (hb : b ≤ 36) {l : List Int} (h : rng b l) : rng 36 l := fun x hx => by have := h x hx; omega

def hv (b : Nat) (l : List Int) : Int := vb b l.reverse
def dgv (c : Int) : Int := if 48 ≤ c ∧ c ≤ 57 then c - 48 else if 97 ≤ c ∧ c ≤ 122 then c - 97 + 10 else 36
def dgs (s : ByteArray) : List Int := (bytesI s).map dgv

def ordW (s t : ByteArray) : Int := if s.size < t.size ∨ (s.size = t.size ∧ Op.bytesLess s.toList t.toList = true) then -1 else if s = t then 0 else 1

def PW (v n : Nat) : Int := ((v ^ n : Nat) : Int)
theorem errL_fit {x : Int} {r : List Int} {e : Int} (h : ErrL x r e) (hx : lenV x ≤ 67108864) : r = lm x ∧ e = 0 := by
  rcases h with ⟨h, h2, _⟩ | ⟨_, _, h⟩
  · exact ⟨h2, h⟩
  · omega
def cF (b n : Nat) : V := .n false .u64 (lm (PW b n))

theorem rOf_v {l : List Int} (hu : u64s l) : trm (dig l) = digs B32 (vl l).toNat := by
  rw [trm_dig (s := false) hu rfl]
  show digs 4294967296 (vl l).natAbs = digs 4294967296 (vl l).toNat
  have := vl_nonneg hu
  rw [show (vl l).natAbs = (vl l).toNat by omega]
theorem rInt_v {v : Nat} (h : v < 18446744073709551616) : trm (dig [(v : Int)]) = digs B32 v := by
  rw [rOf_v (fun x hx => by simp at hx; subst hx; omega), show (vl [(v : Int)]).toNat = v by simp [vl]]

def padZ (l : List Int) (j : Nat) : List Int := List.replicate j 0 ++ l
def zfill (m i : Nat) : List Int := List.replicate i 48 ++ List.replicate (m - i) 0
def ptx (s : ByteArray) (k : Nat) : ByteArray := s.extract 0 (s.size - k) ++ ⟨#[46]⟩ ++ s.extract (s.size - k) s.size


def wtxt (v : Int) : ByteArray := if v < 0 then (⟨#[45]⟩ : ByteArray) ++ txt (hdg 10 1 v.natAbs) else txt (hdg 10 1 v.natAbs)

def dgm (b : Nat) (s : ByteArray) : List Int := (dgs s).map fun d => if d < (b : Int) then d else -1

def tab10 : ByteArray := ⟨#[48, 49, 50, 51, 52, 53, 54, 55, 56, 57]⟩

def nwt (a x n : Nat) : Nat := (n * x + a / x ^ n) / (n + 1)
structure RootIs (a k r : Nat) : Prop where
  le : r ^ k ≤ a
  lt : a < (r + 1) ^ k
def twoL (n : Nat) : List Int := List.replicate (n / 64) 0 ++ [((2 ^ (n % 64) : Nat) : Int), 0]
def twoS (n i : Nat) : List Int := if i = 0 then List.replicate (n / 64 + 2) 0 else twoL n

def smallB (K : Nat) (rows : List (List Int)) : Bool := rows.all fun l => decide (lenV (vl l) ≤ K)
theorem rn_nt {x y : Nat} : rn (x : Int) (y : Int) = ((x % y : Nat) : Int) := by
  unfold rn
  rw [Int.natAbs_natCast, Int.natAbs_natCast]
  rfl
theorem gcd_step {x y : Nat} : Nat.gcd y (x % y) = Nat.gcd x y := by
  rw [Nat.gcd_comm y, ← Nat.gcd_rec, Nat.gcd_comm]

def Rw (l : List Int) (x : Nat) : Prop := u64s l ∧ vl l = (x : Int) ∧ l.length ≤ 1048576
theorem Rw.u {l : List Int} {x : Nat} (h : Rw l x) : u64s l := h.1
theorem Rw.v {l : List Int} {x : Nat} (h : Rw l x) : vl l = (x : Int) := h.2.1
theorem Rw.l {l : List Int} {x : Nat} (h : Rw l x) : l.length ≤ 1048576 := h.2.2
theorem Rw.t {l : List Int} {x : Nat} (h : Rw l x) : trm l = lm (x : Int) := trm_lm h.1 h.2.1
theorem Rw.b {l : List Int} {x : Nat} (h : Rw l x) : lenV (x : Int) ≤ 67108864 := by
  have h1 := lenV_64 (s := false) h.1
  rw [show sv false l = (x : Int) from h.2.1] at h1
  have := h.2.2
  omega
theorem Rw.b' {l : List Int} {x : Nat} (h : Rw l x) : lenV (x : Int) ≤ 64 * l.length := by
  have h1 := lenV_64 (s := false) h.1
  rwa [show sv false l = (x : Int) from h.2.1] at h1
theorem Rw.n {l : List Int} {x : Nat} (h : Rw l x) : lenN l = lenV (x : Int) := lenN_lenV h.1 h.2.1
theorem Rw.of {x : Nat} (h : lenV (x : Int) ≤ 67108864) : Rw (lm (x : Int)) x := ⟨lm_u _, by rw [lm_v, Int.natAbs_natCast], lenV_lm h⟩
theorem lenV_nat {x y : Nat} (h : x ≤ y) : lenV (x : Int) ≤ lenV (y : Int) := lenV_mono (by omega)
theorem lenV_zero {x : Nat} : lenV (x : Int) = 0 ↔ x = 0 := by
  unfold lenV
  rw [Int.natAbs_natCast]
  constructor
  · intro h
    rcases Nat.eq_zero_or_pos x with h0 | h0
    · exact h0
    · have := nbits_pos (n := x) (by omega); omega
  · rintro rfl; rfl
theorem qn_nt {x y : Nat} : qn (x : Int) (y : Int) = ((x / y : Nat) : Int) := by
  unfold qn
  rw [Int.natAbs_natCast, Int.natAbs_natCast]
  rfl
theorem lm_len0 {x : Nat} : (lm (x : Int)).length = 0 ↔ x = 0 := by
  constructor
  · intro h
    refine Decidable.byContradiction fun hx => ?_
    exact lm_ne (show (x : Int) ≠ 0 by omega) (List.eq_nil_of_length_eq_zero h)
  · rintro rfl; rw [show ((0 : Nat) : Int) = 0 from rfl, lm_0]; rfl
theorem lm_1n : lm ((1 : Nat) : Int) = [1] := by rw [← fl_lm (v := ((1 : Nat) : Int)) (by decide) (by decide)]; rfl
def rn0 (x y : Nat) : Nat := x / Nat.gcd x y
def rd0 (x y : Nat) : Nat := y / Nat.gcd x y
def sgq (s : Bool) (x : Nat) : Bool := s && decide (x ≠ 0)
theorem gcd_pos' {x y : Nat} (hy : y ≠ 0) : 0 < Nat.gcd x y := Nat.gcd_pos_of_pos_right _ (by omega)
theorem rn0_le {x y : Nat} : rn0 x y ≤ x := Nat.div_le_self _ _
theorem rd0_le {x y : Nat} : rd0 x y ≤ y := Nat.div_le_self _ _
theorem rd0_pos {x y : Nat} (hy : y ≠ 0) : 0 < rd0 x y := Nat.div_pos (Nat.le_of_dvd (by omega) (Nat.gcd_dvd_right _ _)) (gcd_pos' hy)
theorem rn0_mul {x y : Nat} : rn0 x y * Nat.gcd x y = x := Nat.div_mul_cancel (Nat.gcd_dvd_left _ _)
theorem rd0_mul {x y : Nat} : rd0 x y * Nat.gcd x y = y := Nat.div_mul_cancel (Nat.gcd_dvd_right _ _)
theorem rn0_0 {y : Nat} : rn0 0 y = 0 := by unfold rn0; exact Nat.zero_div _
theorem rd0_0 {y : Nat} (hy : y ≠ 0) : rd0 0 y = 1 := by unfold rd0; rw [Nat.gcd_zero_left]; exact Nat.div_self (by omega)
theorem rn0_eq0 {x y : Nat} : rn0 x y = 0 ↔ x = 0 := by
  constructor
  · intro h
    have := @rn0_mul x y
    rw [h, Nat.zero_mul] at this
    exact this.symm
  · rintro rfl; exact rn0_0
theorem rn0_cop {x y : Nat} (hy : y ≠ 0) : Nat.gcd (rn0 x y) (rd0 x y) = 1 := by
  have h := Nat.gcd_mul_right (rn0 x y) (Nat.gcd x y) (rd0 x y)
  rw [rn0_mul, rd0_mul] at h
  have h1 := gcd_pos' (x := x) hy
  have h2 : Nat.gcd (rn0 x y) (rd0 x y) * Nat.gcd x y = 1 * Nat.gcd x y := by omega
  exact Nat.eq_of_mul_eq_mul_right h1 h2
theorem rn0_b {x y L : Nat} (h : lenV (x : Int) ≤ L) : lenV ((rn0 x y : Nat) : Int) ≤ L := Nat.le_trans (lenV_nat rn0_le) h
theorem rd0_b {x y L : Nat} (h : lenV (y : Int) ≤ L) : lenV ((rd0 x y : Nat) : Int) ≤ L := Nat.le_trans (lenV_nat rd0_le) h
theorem gcd_b {x y L : Nat} (hy : y ≠ 0) (h : lenV (y : Int) ≤ L) : lenV ((Nat.gcd x y : Nat) : Int) ≤ L := Nat.le_trans (lenV_nat (Nat.le_of_dvd (by omega) (Nat.gcd_dvd_right _ _))) h

theorem sgq_0 {s : Bool} : sgq s 0 = false := by cases s <;> rfl
theorem sgq_p {s : Bool} {x : Nat} (h : x ≠ 0) : sgq s x = s := by unfold sgq; rw [decide_eq_true h, Bool.and_true]
theorem sgq_neg {s : Bool} {x y : Nat} : (!sgq s x && decide (0 < ((lm ((rn0 x y : Nat) : Int)).length : Int))) = sgq (!s) x := by
  have h := @lm_len0 (rn0 x y)
  have h2 := @rn0_eq0 x y
  by_cases hx : x = 0
  · subst hx; rw [decide_eq_false (by omega), Bool.and_false]; exact sgq_0.symm
  · rw [sgq_p hx, sgq_p hx, decide_eq_true (by omega), Bool.and_true]
theorem lm_1w {v : Nat} (h0 : 0 < v) (h : v < 18446744073709551616) : lm ((v : Nat) : Int) = [(v : Int)] := by rw [← fl_lm (by omega) (by omega), if_neg (by omega)]
theorem rw_1 {v : Nat} (h0 : 0 < v) (h : v < 18446744073709551616) : Rw [(v : Int)] v := ⟨fun x hx => (by rw [List.mem_singleton] at hx; omega), (by show (v : Int) + Bs * 0 = _; omega), (by show 1 ≤ _; decide)⟩
def rtV (r : Bool × List Int × List Int) : List V := [.b r.1, .n false .u64 r.2.1, .n false .u64 r.2.2]
def rtsV (rs : List (Bool × List Int × List Int)) : List (List V) := rs.map rtV
def rat0 (rs : List (Bool × List Int × List Int)) (i : Nat) : Bool × List Int × List Int := rs.getD i (false, [], [])
theorem rtsV_len {rs : List (Bool × List Int × List Int)} : (rtsV rs).length = rs.length := by unfold rtsV; simp
theorem rtsV_at {rs : List (Bool × List Int × List Int)} {i : Nat} (h : i < rs.length) : (rtsV rs)[i]? = some [V.b (rat0 rs i).1, V.n false .u64 (rat0 rs i).2.1, V.n false .u64 (rat0 rs i).2.2] := by
  unfold rtsV rat0
  rw [List.getElem?_map, List.getD_eq_getElem?_getD, List.getElem?_eq_getElem h]
  rfl
def lkO (tg : TypeId) (rs : List (Bool × List Int × List Int)) : Out := if rs.all (fun r => decide (vl r.2.2 ≠ 0)) then .ret (.t []) else .pan (gave tg 70 false)
theorem lkO_n {tg : TypeId} {rs : List (Bool × List Int × List Int)} {i : Nat} (hi : i < rs.length) (h : vl (rat0 rs i).2.2 = 0) : lkO tg rs = .pan (gave tg 70 false) := by
  unfold lkO
  rw [if_neg]
  intro h1
  have h2 := List.all_eq_true.1 h1 _ (List.getElem_mem hi)
  unfold rat0 at h
  rw [List.getD_eq_getElem?_getD, List.getElem?_eq_getElem hi] at h
  simp at h2
  exact h2 h
theorem lkO_y {tg : TypeId} {rs : List (Bool × List Int × List Int)} (h : ∀ j < rs.length, vl (rat0 rs j).2.2 ≠ 0) : lkO tg rs = .ret (.t []) := by
  unfold lkO
  rw [if_pos]
  refine List.all_eq_true.2 fun r hr => decide_eq_true ?_
  obtain ⟨j, hj, rfl⟩ := List.getElem_of_mem hr
  have h2 := h j hj
  unfold rat0 at h2
  rwa [List.getD_eq_getElem?_getD, List.getElem?_eq_getElem hj] at h2
def ntx (x : Nat) : ByteArray := txt (hdg 10 1 x)
def rtx1 (s : Bool) (x : Nat) : ByteArray := if s then (⟨#[45]⟩ : ByteArray) ++ ntx x else ntx x
def rtx (s : Bool) (x y : Nat) : ByteArray := if y = 1 then rtx1 s x else rtx1 s x ++ ((⟨#[47]⟩ : ByteArray) ++ ntx y)
theorem ntx_size0 {x L : Nat} (h : lenV (x : Int) ≤ L) : (ntx x).size ≤ L + 1 := by
  unfold ntx
  rw [txt_size, hdg_le]
  have h2 : x < 10 ^ L := Nat.lt_of_lt_of_le (nbits_le.1 h) (Nat.pow_le_pow_left (by decide) _)
  have := digs_len (b := 10) (by decide) L x h2
  omega
theorem ntx_size (x : Nat) (h : lenV (x : Int) ≤ 67108864) : (ntx x).size ≤ 67108865 := ntx_size0 h

theorem low_uniq {a b c d : Nat} (h1 : Nat.gcd a b = 1) (h2 : Nat.gcd c d = 1) (hb : b ≠ 0) (hd : d ≠ 0) (h : a * d = c * b) : a = c ∧ b = d := by
  have e1 : b ∣ d := by
    have hc : Nat.Coprime b a := by rw [Nat.coprime_comm]; exact h1
    exact hc.dvd_of_dvd_mul_left (h ▸ Nat.dvd_mul_left b c)
  have e2 : d ∣ b := by
    have hc : Nat.Coprime d c := by rw [Nat.coprime_comm]; exact h2
    exact hc.dvd_of_dvd_mul_left (h ▸ Nat.dvd_mul_left d a)
  have e := Nat.dvd_antisymm e1 e2
  subst e
  exact ⟨Nat.eq_of_mul_eq_mul_right (Nat.pos_of_ne_zero hb) h, rfl⟩
def nn (z : Int) (Y : Nat) : Nat := rn0 z.natAbs Y
def dd (z : Int) (Y : Nat) : Nat := rd0 z.natAbs Y
theorem low_of {a b : Nat} {z : Int} {Y : Nat} (h1 : Nat.gcd a b = 1) (hb : b ≠ 0) (hY : Y ≠ 0) (h : a * Y = z.natAbs * b) : a = nn z Y ∧ b = dd z Y := by
  refine low_uniq h1 (rn0_cop hY) hb (Nat.pos_iff_ne_zero.1 (rd0_pos hY)) ?_
  have e1 : nn z Y * Nat.gcd z.natAbs Y = z.natAbs := @rn0_mul z.natAbs Y
  have e2 : dd z Y * Nat.gcd z.natAbs Y = Y := @rd0_mul z.natAbs Y
  have hg := gcd_pos' (x := z.natAbs) hY
  refine Nat.eq_of_mul_eq_mul_right hg ?_
  show a * dd z Y * _ = nn z Y * b * _
  rw [Nat.mul_assoc, e2, h, Nat.mul_right_comm, e1]
theorem zs_0 {s : Bool} : zs s 0 = 0 := by cases s <;> rfl
theorem zs_neg {s : Bool} {x : Nat} : decide (zs s x < 0) = sgq s x := by
  unfold zs sgq
  cases s
  · simp
  · by_cases h : x = 0
    · subst h; rfl
    · rw [if_pos rfl, decide_eq_true h, Bool.true_and]; exact decide_eq_true (by omega)
theorem zs_mul {s : Bool} {x k : Nat} : zs s (x * k) = zs s x * (k : Int) := by
  unfold zs
  cases s <;> simp [Int.neg_mul]
theorem zs_dec (z : Int) : zs (decide (z < 0)) z.natAbs = z := by
  unfold zs
  by_cases h : z < 0
  · rw [if_pos (decide_eq_true h)]; omega
  · rw [if_neg (by rw [decide_eq_false h]; decide)]; omega
def Qe (s : Bool) (x y : Nat) (z : Int) (Y : Nat) : Prop := y ≠ 0 ∧ Y ≠ 0 ∧ zs s x * (Y : Int) = z * (y : Int)
theorem Qe.raw {s : Bool} {x y : Nat} (h : y ≠ 0) : Qe s x y (zs s x) y := ⟨h, h, rfl⟩
theorem Qe.abs {s : Bool} {x y : Nat} {z : Int} {Y : Nat} (h : Qe s x y z Y) : x * Y = z.natAbs * y := by
  have := congrArg Int.natAbs h.2.2
  rwa [Int.natAbs_mul, Int.natAbs_mul, Int.natAbs_natCast, Int.natAbs_natCast, zs_abs] at this
theorem Qe.sgn {s : Bool} {x y : Nat} {z : Int} {Y : Nat} (h : Qe s x y z Y) : sgq s x = decide (z < 0) := by
  rw [← zs_neg, decide_eq_decide]
  have h1 : (0 : Int) < (y : Int) := by have := h.1; omega
  have h2 : (0 : Int) < (Y : Int) := by have := h.2.1; omega
  have h3 := h.2.2
  constructor
  · intro h4
    have : zs s x * (Y : Int) < 0 := Int.mul_neg_of_neg_of_pos h4 h2
    rw [h3] at this
    exact Int.not_le.1 fun h5 => absurd (Int.mul_nonneg h5 (Int.le_of_lt h1)) (by omega)
  · intro h4
    have : z * (y : Int) < 0 := Int.mul_neg_of_neg_of_pos h4 h1
    rw [← h3] at this
    exact Int.not_le.1 fun h5 => absurd (Int.mul_nonneg h5 (Int.le_of_lt h2)) (by omega)
theorem Qe.low {s : Bool} {x y : Nat} {z : Int} {Y : Nat} (h : Qe s x y z Y) : rn0 x y = nn z Y ∧ rd0 x y = dd z Y := by
  refine low_of (rn0_cop h.1) (Nat.pos_iff_ne_zero.1 (rd0_pos h.1)) h.2.1 ?_
  have hg := gcd_pos' (x := x) h.1
  refine Nat.eq_of_mul_eq_mul_right hg ?_
  rw [Nat.mul_right_comm, rn0_mul, Nat.mul_assoc, rd0_mul, h.abs]
theorem Qe.can (z : Int) {Y : Nat} (hY : Y ≠ 0) : Qe (decide (z < 0)) (nn z Y) (dd z Y) z Y := by
  refine ⟨Nat.pos_iff_ne_zero.1 (rd0_pos hY), hY, ?_⟩
  have e1 := @rn0_mul z.natAbs Y
  have e2 := @rd0_mul z.natAbs Y
  have hg := gcd_pos' (x := z.natAbs) hY
  have e3 : (nn z Y : Nat) * Nat.gcd z.natAbs Y = z.natAbs := e1
  have e4 : (dd z Y : Nat) * Nat.gcd z.natAbs Y = Y := e2
  have h1 : zs (decide (z < 0)) (nn z Y) * ((Nat.gcd z.natAbs Y : Nat) : Int) = z := by rw [← zs_mul, e3, zs_dec]
  have h2 : (Y : Int) = (dd z Y : Int) * ((Nat.gcd z.natAbs Y : Nat) : Int) := by exact_mod_cast e4.symm
  rw [h2]
  generalize (Nat.gcd z.natAbs Y : Nat) = G at *
  generalize zs (decide (z < 0)) (nn z Y) = A at *
  generalize (dd z Y : Int) = D at *
  rw [← h1]
  simp only [Int.mul_assoc, Int.mul_comm, Int.mul_left_comm]
theorem low_same {z w : Int} {Y X : Nat} (hY : Y ≠ 0) (hX : X ≠ 0) (h : z * (X : Int) = w * (Y : Int)) : nn z Y = nn w X ∧ dd z Y = dd w X ∧ decide (z < 0) = decide (w < 0) := by
  have q : Qe (decide (z < 0)) z.natAbs Y w X := ⟨hY, hX, by rw [zs_dec, h]⟩
  refine ⟨q.low.1, q.low.2, ?_⟩
  rw [← q.sgn, ← zs_neg, zs_dec]
theorem Qe.add {s t : Bool} {x y x2 y2 : Nat} {z w : Int} {Y X : Nat} (h1 : Qe s x y z Y) (h2 : Qe t x2 y2 w X) : (zs s x * (y2 : Int) + zs t x2 * (y : Int)) * ((Y * X : Nat) : Int) = (z * (X : Int) + w * (Y : Int)) * ((y * y2 : Nat) : Int) := by
  have e1 := h1.2.2
  have e2 := h2.2.2
  rw [Int.natCast_mul, Int.natCast_mul]
  generalize zs s x = A at *
  generalize zs t x2 = B at *
  have : (A * (y2 : Int) + B * (y : Int)) * ((Y : Int) * (X : Int)) = (A * (Y : Int)) * ((y2 : Int) * (X : Int)) + (B * (X : Int)) * ((y : Int) * (Y : Int)) := by
    rw [Int.add_mul]; congr 1 <;> simp only [Int.mul_assoc, Int.mul_comm, Int.mul_left_comm]
  rw [this, e1, e2, Int.add_mul]
  congr 1 <;> simp only [Int.mul_assoc, Int.mul_comm, Int.mul_left_comm]
theorem Qe.mul {s t : Bool} {x y x2 y2 : Nat} {z w : Int} {Y X : Nat} (h1 : Qe s x y z Y) (h2 : Qe t x2 y2 w X) : (zs s x * zs t x2) * ((Y * X : Nat) : Int) = (z * w) * ((y * y2 : Nat) : Int) := by
  have e1 := h1.2.2
  have e2 := h2.2.2
  rw [Int.natCast_mul, Int.natCast_mul]
  generalize zs s x = A at *
  generalize zs t x2 = B at *
  have : A * B * ((Y : Int) * (X : Int)) = (A * (Y : Int)) * (B * (X : Int)) := by simp only [Int.mul_assoc, Int.mul_comm, Int.mul_left_comm]
  rw [this, e1, e2]
  simp only [Int.mul_assoc, Int.mul_comm, Int.mul_left_comm]
theorem sum_low {s t : Bool} {n1 d1 n2 d2 : Nat} (c1 : Nat.gcd n1 d1 = 1) (c2 : Nat.gcd n2 d2 = 1) (h1 : d1 ≠ 0) (h2 : d2 ≠ 0) {S : Int} (hS : S = zs s n1 * ((d2 / Nat.gcd d1 d2 : Nat) : Int) + zs t n2 * ((d1 / Nat.gcd d1 d2 : Nat) : Int)) :
    S.natAbs / Nat.gcd S.natAbs (Nat.gcd d1 d2) = nn (zs s n1 * (d2 : Int) + zs t n2 * (d1 : Int)) (d1 * d2) ∧ d1 / Nat.gcd d1 d2 * (d2 / Nat.gcd S.natAbs (Nat.gcd d1 d2)) = dd (zs s n1 * (d2 : Int) + zs t n2 * (d1 : Int)) (d1 * d2) ∧
    decide (S < 0) = decide (zs s n1 * (d2 : Int) + zs t n2 * (d1 : Int) < 0) ∧ zs s n1 * (d2 : Int) + zs t n2 * (d1 : Int) = S * ((Nat.gcd d1 d2 : Nat) : Int) := by
  have hg : 0 < Nat.gcd d1 d2 := Nat.gcd_pos_of_pos_left _ (Nat.pos_of_ne_zero h1)
  obtain ⟨p, hp⟩ := Nat.gcd_dvd_left d1 d2
  obtain ⟨q, hq⟩ := Nat.gcd_dvd_right d1 d2
  generalize hG : Nat.gcd d1 d2 = g at *
  have ep : d1 / g = p := by rw [hp]; exact Nat.mul_div_cancel_left _ hg
  have eq : d2 / g = q := by rw [hq]; exact Nat.mul_div_cancel_left _ hg
  rw [ep, eq] at hS
  rw [ep]
  have cpq : Nat.gcd p q = 1 := by
    have := Nat.gcd_mul_left g p q
    rw [← hp, ← hq, hG] at this
    exact Nat.eq_of_mul_eq_mul_left hg (by omega)
  have hZ : zs s n1 * (d2 : Int) + zs t n2 * (d1 : Int) = S * (g : Int) := by
    rw [hS, hp, hq, Int.natCast_mul, Int.natCast_mul, Int.add_mul]
    congr 1 <;> simp only [Int.mul_assoc, Int.mul_comm, Int.mul_left_comm]
  have hp0 : p ≠ 0 := fun e => h1 (by rw [hp, e, Nat.mul_zero])
  have hq0 : q ≠ 0 := fun e => h2 (by rw [hq, e, Nat.mul_zero])
  have cSp : Nat.Coprime S.natAbs p := by
    have k1 : Nat.Coprime n1 p := Nat.Coprime.coprime_dvd_right ⟨g, by rw [hp, Nat.mul_comm]⟩ c1
    have k2 : Nat.Coprime (n1 * q) p := k1.mul_left (by rw [Nat.coprime_comm]; exact cpq)
    rw [Nat.coprime_iff_gcd_eq_one] at *
    have h3 : Nat.gcd S.natAbs p ∣ n1 * q := by
      have a1 : ((Nat.gcd S.natAbs p : Nat) : Int) ∣ S := Int.ofNat_dvd_left.2 (Nat.gcd_dvd_left _ _)
      have a2 : ((Nat.gcd S.natAbs p : Nat) : Int) ∣ (p : Int) := Int.ofNat_dvd.2 (Nat.gcd_dvd_right _ _)
      have a3 : ((Nat.gcd S.natAbs p : Nat) : Int) ∣ zs s n1 * (q : Int) := by
        have : zs s n1 * (q : Int) = S - zs t n2 * (p : Int) := by rw [hS]; omega
        rw [this]
        exact Int.dvd_sub a1 (Int.dvd_mul_of_dvd_right a2)
      have := Int.ofNat_dvd_left.1 a3
      rwa [Int.natAbs_mul, zs_abs, Int.natAbs_natCast] at this
    exact Nat.dvd_one.1 (by rw [← k2]; exact Nat.dvd_gcd h3 (Nat.gcd_dvd_right _ _))
  have cSq : Nat.Coprime S.natAbs q := by
    have k1 : Nat.Coprime n2 q := Nat.Coprime.coprime_dvd_right ⟨g, by rw [hq, Nat.mul_comm]⟩ c2
    have k2 : Nat.Coprime (n2 * p) q := k1.mul_left cpq
    rw [Nat.coprime_iff_gcd_eq_one] at *
    have h3 : Nat.gcd S.natAbs q ∣ n2 * p := by
      have a1 : ((Nat.gcd S.natAbs q : Nat) : Int) ∣ S := Int.ofNat_dvd_left.2 (Nat.gcd_dvd_left _ _)
      have a2 : ((Nat.gcd S.natAbs q : Nat) : Int) ∣ (q : Int) := Int.ofNat_dvd.2 (Nat.gcd_dvd_right _ _)
      have a3 : ((Nat.gcd S.natAbs q : Nat) : Int) ∣ zs t n2 * (p : Int) := by
        have : zs t n2 * (p : Int) = S - zs s n1 * (q : Int) := by rw [hS]; omega
        rw [this]
        exact Int.dvd_sub a1 (Int.dvd_mul_of_dvd_right a2)
      have := Int.ofNat_dvd_left.1 a3
      rwa [Int.natAbs_mul, zs_abs, Int.natAbs_natCast] at this
    exact Nat.dvd_one.1 (by rw [← k2]; exact Nat.dvd_gcd h3 (Nat.gcd_dvd_right _ _))
  have hh : 0 < Nat.gcd S.natAbs g := Nat.gcd_pos_of_pos_right _ hg
  obtain ⟨m, hm⟩ := Nat.gcd_dvd_left S.natAbs g
  obtain ⟨r, hr⟩ := Nat.gcd_dvd_right S.natAbs g
  generalize hHd : Nat.gcd S.natAbs g = k at *
  have em : S.natAbs / k = m := by rw [hm]; exact Nat.mul_div_cancel_left _ hh
  have ed : d2 / k = r * q := by rw [hq, hr, Nat.mul_assoc]; exact Nat.mul_div_cancel_left _ hh
  have cmr : Nat.gcd m r = 1 := by
    have := Nat.gcd_mul_left k m r
    rw [← hm, ← hr, hHd] at this
    exact Nat.eq_of_mul_eq_mul_left hh (by omega)
  have hr0 : r ≠ 0 := fun e => by rw [e, Nat.mul_zero] at hr; omega
  rw [em, ed]
  have cm : Nat.gcd m (p * (r * q)) = 1 := by
    have k1 : Nat.Coprime m p := Nat.Coprime.coprime_dvd_left ⟨k, by rw [hm, Nat.mul_comm]⟩ cSp
    have k2 : Nat.Coprime m q := Nat.Coprime.coprime_dvd_left ⟨k, by rw [hm, Nat.mul_comm]⟩ cSq
    exact k1.mul_right (Nat.Coprime.mul_right cmr k2)
  obtain ⟨a1, a2⟩ := low_of (a := m) (b := p * (r * q)) (z := zs s n1 * (d2 : Int) + zs t n2 * (d1 : Int)) (Y := d1 * d2) cm (Nat.mul_ne_zero hp0 (Nat.mul_ne_zero hr0 hq0)) (Nat.mul_ne_zero h1 h2) (by
    rw [hZ, Int.natAbs_mul, Int.natAbs_natCast, hp, hq, hm]
    rw [hr]
    simp only [Nat.mul_assoc, Nat.mul_comm, Nat.mul_left_comm])
  refine ⟨a1, a2, ?_, hZ⟩
  rw [hZ, decide_eq_decide]
  have hgi : (0 : Int) < (g : Int) := by omega
  constructor
  · intro h; exact Int.mul_neg_of_neg_of_pos h hgi
  · intro h; exact Int.not_le.1 fun h5 => absurd (Int.mul_nonneg h5 (Int.le_of_lt hgi)) (by omega)
theorem mul_low {s t : Bool} {n1 d1 n2 d2 : Nat} (c1 : Nat.gcd n1 d1 = 1) (c2 : Nat.gcd n2 d2 = 1) (h1 : d1 ≠ 0) (h2 : d2 ≠ 0) :
    n1 / Nat.gcd n1 d2 * (n2 / Nat.gcd n2 d1) = nn (zs s n1 * zs t n2) (d1 * d2) ∧ d1 / Nat.gcd n2 d1 * (d2 / Nat.gcd n1 d2) = dd (zs s n1 * zs t n2) (d1 * d2) := by
  have hg : 0 < Nat.gcd n1 d2 := Nat.gcd_pos_of_pos_right _ (Nat.pos_of_ne_zero h2)
  have hh : 0 < Nat.gcd n2 d1 := Nat.gcd_pos_of_pos_right _ (Nat.pos_of_ne_zero h1)
  obtain ⟨a, ha⟩ := Nat.gcd_dvd_left n1 d2
  obtain ⟨b, hb⟩ := Nat.gcd_dvd_right n1 d2
  obtain ⟨c, hc⟩ := Nat.gcd_dvd_left n2 d1
  obtain ⟨d, hd⟩ := Nat.gcd_dvd_right n2 d1
  have cab : Nat.gcd a b = 1 := by
    have := Nat.gcd_mul_left (Nat.gcd n1 d2) a b
    rw [← ha, ← hb] at this
    exact Nat.eq_of_mul_eq_mul_left hg (by omega)
  have ccd : Nat.gcd c d = 1 := by
    have := Nat.gcd_mul_left (Nat.gcd n2 d1) c d
    rw [← hc, ← hd] at this
    exact Nat.eq_of_mul_eq_mul_left hh (by omega)
  generalize Nat.gcd n1 d2 = g at *
  generalize Nat.gcd n2 d1 = h at *
  have ea : n1 / g = a := by rw [ha]; exact Nat.mul_div_cancel_left _ hg
  have eb : d2 / g = b := by rw [hb]; exact Nat.mul_div_cancel_left _ hg
  have ec : n2 / h = c := by rw [hc]; exact Nat.mul_div_cancel_left _ hh
  have ed : d1 / h = d := by rw [hd]; exact Nat.mul_div_cancel_left _ hh
  rw [ea, eb, ec, ed]
  have hb0 : b ≠ 0 := fun e => h2 (by rw [hb, e, Nat.mul_zero])
  have hd0 : d ≠ 0 := fun e => h1 (by rw [hd, e, Nat.mul_zero])
  have cad : Nat.Coprime a d := Nat.Coprime.coprime_dvd_left ⟨g, by rw [ha, Nat.mul_comm]⟩ (Nat.Coprime.coprime_dvd_right ⟨h, by rw [hd, Nat.mul_comm]⟩ c1)
  have ccb : Nat.Coprime c b := Nat.Coprime.coprime_dvd_left ⟨h, by rw [hc, Nat.mul_comm]⟩ (Nat.Coprime.coprime_dvd_right ⟨g, by rw [hb, Nat.mul_comm]⟩ c2)
  have k1 : Nat.Coprime a (d * b) := cad.mul_right cab
  have k2 : Nat.Coprime c (d * b) := Nat.Coprime.mul_right ccd ccb
  refine low_of (k1.mul_left k2) (Nat.mul_ne_zero hd0 hb0) (Nat.mul_ne_zero h1 h2) ?_
  rw [Int.natAbs_mul, zs_abs, zs_abs, ha, hc, hb, hd]
  simp only [Nat.mul_assoc, Nat.mul_comm, Nat.mul_left_comm]

theorem lm_abs (v : Int) : lm ((v.natAbs : Nat) : Int) = lm v := by unfold lm; rw [Int.natAbs_natCast]
theorem lenV_zs {s : Bool} {n : Nat} : lenV (zs s n) = lenV (n : Int) := by unfold lenV; rw [zs_abs, Int.natAbs_natCast]
theorem lenV_abs (v : Int) : lenV ((v.natAbs : Nat) : Int) = lenV v := by unfold lenV; rw [Int.natAbs_natCast]
theorem sv_zs {s : Bool} {n : Nat} : sv s (lm (n : Int)) = zs s n := by unfold sv zs; rw [lm_v, Int.natAbs_natCast]
theorem Rw.sv {s : Bool} {l : List Int} {x : Nat} (h : Rw l x) : sv s l = zs s x := by unfold Vc.sv zs; rw [h.v]
theorem Qe.low' {s : Bool} {x y : Nat} {z : Int} {Y : Nat} (h : Qe s x y z Y) : Qe (sgq s x) (rn0 x y) (rd0 x y) z Y := by
  have h1 := Qe.can z h.2.1
  rw [h.low.1, h.low.2, h.sgn]
  exact h1
theorem Qe.cop {s : Bool} {x y : Nat} {z : Int} {Y : Nat} (h : Qe s x y z Y) : Nat.gcd (rn0 x y) (rd0 x y) = 1 := rn0_cop h.1
theorem Qe.d0 {s : Bool} {x y : Nat} {z : Int} {Y : Nat} (h : Qe s x y z Y) : rd0 x y ≠ 0 := Nat.pos_iff_ne_zero.1 (rd0_pos h.1)
theorem add_all {s t : Bool} {x y x2 y2 : Nat} {z w : Int} {Y X : Nat} (q1 : Qe s x y z Y) (q2 : Qe t x2 y2 w X) {S : Int}
    (hS : S = zs (sgq s x) (rn0 x y) * ((rd0 x2 y2 / Nat.gcd (rd0 x y) (rd0 x2 y2) : Nat) : Int) + zs (sgq t x2) (rn0 x2 y2) * ((rd0 x y / Nat.gcd (rd0 x y) (rd0 x2 y2) : Nat) : Int)) :
    S.natAbs / Nat.gcd S.natAbs (Nat.gcd (rd0 x y) (rd0 x2 y2)) = nn (z * (X : Int) + w * (Y : Int)) (Y * X) ∧ rd0 x y / Nat.gcd (rd0 x y) (rd0 x2 y2) * (rd0 x2 y2 / Nat.gcd S.natAbs (Nat.gcd (rd0 x y) (rd0 x2 y2))) = dd (z * (X : Int) + w * (Y : Int)) (Y * X) ∧
    decide (S < 0) = decide (z * (X : Int) + w * (Y : Int) < 0) ∧ (S = 0 ↔ z * (X : Int) + w * (Y : Int) = 0) := by
  have h := sum_low q1.cop q2.cop q1.d0 q2.d0 hS
  have l1 := q1.low'
  have l2 := q2.low'
  have k := l1.add l2
  have hd := Nat.mul_ne_zero q1.d0 q2.d0
  have hY := Nat.mul_ne_zero q1.2.1 q2.2.1
  have m := low_same hd hY k
  rw [← m.1, ← m.2.1, ← m.2.2]
  refine ⟨h.1, h.2.1, h.2.2.1, ?_⟩
  have hg : ((Nat.gcd (rd0 x y) (rd0 x2 y2) : Nat) : Int) ≠ 0 := by
    have := gcd_pos' (x := rd0 x y) q2.d0
    omega
  have e := h.2.2.2
  generalize zs (sgq s x) (rn0 x y) * ((rd0 x2 y2 : Nat) : Int) + zs (sgq t x2) (rn0 x2 y2) * ((rd0 x y : Nat) : Int) = A at *
  generalize z * (X : Int) + w * (Y : Int) = B at *
  have hd' : ((rd0 x y * rd0 x2 y2 : Nat) : Int) ≠ 0 := by omega
  have hY' : ((Y * X : Nat) : Int) ≠ 0 := by omega
  constructor
  · intro h0
    rw [h0, Int.zero_mul] at e
    rw [e, Int.zero_mul] at k
    rcases Int.mul_eq_zero.1 k.symm with h1 | h1
    · exact h1
    · exact absurd h1 hd'
  · intro h0
    rw [h0, Int.zero_mul] at k
    rcases Int.mul_eq_zero.1 k with h1 | h1
    · rw [h1] at e
      rcases Int.mul_eq_zero.1 e.symm with h2 | h2
      · exact h2
      · exact absurd h2 hg
    · exact absurd h1 hY'
theorem mul_all {s t : Bool} {x y x2 y2 : Nat} {z w : Int} {Y X : Nat} (q1 : Qe s x y z Y) (q2 : Qe t x2 y2 w X) :
    rn0 x y / Nat.gcd (rn0 x y) (rd0 x2 y2) * (rn0 x2 y2 / Nat.gcd (rn0 x2 y2) (rd0 x y)) = nn (z * w) (Y * X) ∧ rd0 x y / Nat.gcd (rn0 x2 y2) (rd0 x y) * (rd0 x2 y2 / Nat.gcd (rn0 x y) (rd0 x2 y2)) = dd (z * w) (Y * X) := by
  have h := mul_low (s := sgq s x) (t := sgq t x2) q1.cop q2.cop q1.d0 q2.d0
  have m := low_same (Nat.mul_ne_zero q1.d0 q2.d0) (Nat.mul_ne_zero q1.2.1 q2.2.1) (q1.low'.mul q2.low')
  rw [← m.1, ← m.2.1]
  exact h
theorem zs_ne {s : Bool} {x : Nat} : zs s x = 0 ↔ x = 0 := by unfold zs; split <;> omega
theorem Qe.z0 {s : Bool} {x y : Nat} {z : Int} {Y : Nat} (h : Qe s x y z Y) : x = 0 ↔ z = 0 := by
  have := h.abs
  have h1 := h.1
  have h2 := h.2.1
  constructor
  · intro e
    rw [e, Nat.zero_mul] at this
    rcases Nat.mul_eq_zero.1 this.symm with h3 | h3
    · omega
    · omega
  · intro e
    rw [e] at this
    rw [Int.natAbs_zero, Nat.zero_mul] at this
    rcases Nat.mul_eq_zero.1 this with h3 | h3
    · exact h3
    · omega
theorem mul_sgn {s t : Bool} {x y x2 y2 : Nat} {z w : Int} {Y X : Nat} (q1 : Qe s x y z Y) (q2 : Qe t x2 y2 w X) (h1 : x ≠ 0) (h2 : x2 ≠ 0) : (!(sgq s x == sgq t x2)) = decide (z * w < 0) := by
  rw [q1.sgn, q2.sgn]
  have hz : z ≠ 0 := fun e => h1 (q1.z0.2 e)
  have hw : w ≠ 0 := fun e => h2 (q2.z0.2 e)
  by_cases a : z < 0 <;> by_cases b : w < 0
  · have : 0 < z * w := Int.mul_pos_of_neg_of_neg a b
    rw [decide_eq_true a, decide_eq_true b, decide_eq_false (by omega)]; rfl
  · have : z * w < 0 := Int.mul_neg_of_neg_of_pos a (by omega)
    rw [decide_eq_true a, decide_eq_false b, decide_eq_true this]; rfl
  · have : z * w < 0 := Int.mul_neg_of_pos_of_neg (by omega) b
    rw [decide_eq_false a, decide_eq_true b, decide_eq_true this]; rfl
  · have : 0 < z * w := Int.mul_pos (by omega) (by omega)
    rw [decide_eq_false a, decide_eq_false b, decide_eq_false (by omega)]; rfl
theorem nn_0 {Y : Nat} : nn 0 Y = 0 := rn0_0
theorem dd_0 {Y : Nat} (h : Y ≠ 0) : dd 0 Y = 1 := rd0_0 h
def cN (a b c d : Nat) : Int := cmpI ((a * d : Nat) : Int) ((c * b : Nat) : Int)
theorem cmpI_neg {x y : Int} : cmpI y x = -cmpI x y := by unfold cmpI; (repeat' split) <;> omega
theorem cmpI_add {x y k : Int} : cmpI (x + k) (y + k) = cmpI x y := by unfold cmpI; (repeat' split) <;> omega
theorem cmpI_1 {x y : Int} (h : x < y) : cmpI x y = -1 := by unfold cmpI; rw [if_pos h]
theorem cmpI_2 {x y : Int} (h : y < x) : cmpI x y = 1 := by unfold cmpI; rw [if_neg (by omega), if_pos h]
theorem cN_q {a b c d : Nat} (hb : b ≠ 0) (hd : d ≠ 0) (h : a / b ≠ c / d) : cmpI ((a / b : Nat) : Int) ((c / d : Nat) : Int) = cN a b c d := by
  have key : ∀ a b c d : Nat, b ≠ 0 → d ≠ 0 → a / b < c / d → a * d < c * b := fun a b c d hb hd hlt => by
    have h1 : a < b * (a / b + 1) := by
      have := Nat.lt_mul_div_succ a (Nat.pos_of_ne_zero hb)
      exact this
    have h2 : d * (c / d) ≤ c := Nat.mul_div_le c d
    have h3 : a / b + 1 ≤ c / d := hlt
    calc a * d < b * (a / b + 1) * d := Nat.mul_lt_mul_of_pos_right h1 (Nat.pos_of_ne_zero hd)
      _ ≤ b * (c / d) * d := Nat.mul_le_mul_right _ (Nat.mul_le_mul_left _ h3)
      _ = (d * (c / d)) * b := by rw [Nat.mul_assoc, Nat.mul_comm b, Nat.mul_comm (c / d)]
      _ ≤ c * b := Nat.mul_le_mul_right _ h2
  unfold cN
  rcases Nat.lt_or_gt_of_ne h with h1 | h1
  · rw [cmpI_1 (by omega), cmpI_1 (by have := key a b c d hb hd h1; omega)]
  · rw [cmpI_2 (by omega), cmpI_2 (by have := key c d a b hd hb h1; omega)]
theorem cN_r {a b c d : Nat} (h : a / b = c / d) : cN a b c d = cmpI ((a % b * d : Nat) : Int) ((c % d * b : Nat) : Int) := by
  unfold cN
  have h1 : a * d = a % b * d + b * (a / b) * d := by rw [← Nat.add_mul, Nat.mod_add_div]
  have h2 : c * b = c % d * b + b * (a / b) * d := by
    rw [h, show b * (c / d) * d = d * (c / d) * b by rw [Nat.mul_assoc, Nat.mul_comm b, Nat.mul_comm (c / d)], ← Nat.add_mul, Nat.mod_add_div]
  rw [h1, h2, Int.natCast_add, Int.natCast_add, cmpI_add]
theorem cN_n {a b c d : Nat} (h : a / b = c / d) : cN b (a % b) d (c % d) = -cN a b c d := by
  rw [cN_r h, ← cmpI_neg]
  unfold cN
  rw [Nat.mul_comm b, Nat.mul_comm d]
theorem cN_z {a b c d : Nat} (hb : b ≠ 0) (hd : d ≠ 0) (h : a / b = c / d) : (a % b = 0 → c % d = 0 → cN a b c d = 0) ∧ (a % b = 0 → c % d ≠ 0 → cN a b c d = -1) ∧ (a % b ≠ 0 → c % d = 0 → cN a b c d = 1) := by
  rw [cN_r h]
  refine ⟨fun e1 e2 => ?_, fun e1 e2 => ?_, fun e1 e2 => ?_⟩
  · rw [e1, e2, Nat.zero_mul, Nat.zero_mul]; rfl
  · rw [e1, Nat.zero_mul]
    have := Nat.mul_pos (Nat.pos_of_ne_zero e2) (Nat.pos_of_ne_zero hb)
    exact cmpI_1 (by omega)
  · rw [e2, Nat.zero_mul]
    have := Nat.mul_pos (Nat.pos_of_ne_zero e1) (Nat.pos_of_ne_zero hd)
    exact cmpI_2 (by omega)
theorem zs_m {s : Bool} {n : Nat} (h : zs s n < 0) : zs s n = -(n : Int) := by cases s <;> simp [zs] at h ⊢ <;> omega
theorem zs_p {s : Bool} {n : Nat} (h : 0 < zs s n) : zs s n = (n : Int) := by cases s <;> simp [zs] at h ⊢ <;> omega
theorem cmp_q {s t : Bool} {x y x2 y2 : Nat} (hy : y ≠ 0) (hy2 : y2 ≠ 0) : cmpI (zs s x * (y2 : Int)) (zs t x2 * (y : Int)) = if sgnI (zs s x) ≠ sgnI (zs t x2) then (if sgnI (zs s x) < sgnI (zs t x2) then -1 else 1) else sgnI (zs s x) * cN x y x2 y2 := by
  have p1 : (0 : Int) < (y : Int) := by omega
  have p2 : (0 : Int) < (y2 : Int) := by omega
  have a1 : ∀ (v : Int) (k : Int), 0 < k → (v < 0 ∧ v * k < 0) ∨ (v = 0 ∧ v * k = 0) ∨ (0 < v ∧ 0 < v * k) := fun v k hk => by
    rcases Int.lt_trichotomy v 0 with h | h | h
    · exact .inl ⟨h, Int.mul_neg_of_neg_of_pos h hk⟩
    · exact .inr (.inl ⟨h, by rw [h, Int.zero_mul]⟩)
    · exact .inr (.inr ⟨h, Int.mul_pos h hk⟩)
  have b1 := a1 (zs s x) (y2 : Int) p2
  have b2 := a1 (zs t x2) (y : Int) p1
  have c1 := sgn_cases (x := zs s x)
  have c2 := sgn_cases (x := zs t x2)
  by_cases e : sgnI (zs s x) = sgnI (zs t x2)
  · rw [if_neg (not_not_intro e)]
    unfold cN
    rcases c1 with ⟨h1, h2⟩ | ⟨h1, h2⟩ | ⟨h1, h2⟩
    · have h3 : zs t x2 < 0 := by omega
      have e1 : zs s x = -(x : Int) := zs_m h1
      have e2 : zs t x2 = -(x2 : Int) := zs_m h3
      rw [h2, e1, e2, Int.neg_mul, Int.neg_mul, Int.natCast_mul, Int.natCast_mul]
      generalize (x : Int) * (y2 : Int) = A
      generalize (x2 : Int) * (y : Int) = B
      unfold cmpI
      (repeat' split) <;> omega
    · have h3 : zs t x2 = 0 := by omega
      rw [h2, h1, h3, Int.zero_mul, Int.zero_mul, Int.zero_mul]; rfl
    · have h3 : 0 < zs t x2 := by omega
      have e1 : zs s x = (x : Int) := zs_p h1
      have e2 : zs t x2 = (x2 : Int) := zs_p h3
      rw [h2, e1, e2, Int.one_mul, Int.natCast_mul, Int.natCast_mul]
  · rw [if_pos e]
    by_cases hlt : sgnI (zs s x) < sgnI (zs t x2)
    · rw [if_pos hlt]; exact cmpI_1 (by omega)
    · rw [if_neg hlt]; exact cmpI_2 (by omega)
theorem cmp_v {A B : Int} {p q : Nat} {z w : Int} {Y X : Nat} (hp : p ≠ 0) (hq : q ≠ 0) (hY : Y ≠ 0) (hX : X ≠ 0) (h1 : A * (Y : Int) = z * (p : Int)) (h2 : B * (X : Int) = w * (q : Int)) : cmpI (A * (q : Int)) (B * (p : Int)) = cmpI (z * (X : Int)) (w * (Y : Int)) := by
  have key : ∀ (u v k : Int), 0 < k → cmpI (u * k) (v * k) = cmpI u v := fun u v k hk => by
    rcases Int.lt_trichotomy u v with h | h | h
    · rw [cmpI_1 h, cmpI_1 (Int.mul_lt_mul_of_pos_right h hk)]
    · rw [h, cmpI_0.2 rfl, cmpI_0.2 rfl]
    · rw [cmpI_2 h, cmpI_2 (Int.mul_lt_mul_of_pos_right h hk)]
  have pp : (0 : Int) < ((Y : Int) * (X : Int)) := Int.mul_pos (by omega) (by omega)
  have pq : (0 : Int) < ((p : Int) * (q : Int)) := Int.mul_pos (by omega) (by omega)
  rw [← key _ _ _ pp, ← key (z * (X : Int)) _ _ pq]
  congr 1
  · calc A * (q : Int) * ((Y : Int) * (X : Int)) = (A * (Y : Int)) * ((q : Int) * (X : Int)) := by simp only [Int.mul_assoc, Int.mul_comm, Int.mul_left_comm]
      _ = _ := by rw [h1]; simp only [Int.mul_assoc, Int.mul_comm, Int.mul_left_comm]
  · calc B * (p : Int) * ((Y : Int) * (X : Int)) = (B * (X : Int)) * ((p : Int) * (Y : Int)) := by simp only [Int.mul_assoc, Int.mul_comm, Int.mul_left_comm]
      _ = _ := by rw [h2]; simp only [Int.mul_assoc, Int.mul_comm, Int.mul_left_comm]

theorem nn_b {z : Int} {Y : Nat} : lenV ((nn z Y : Nat) : Int) ≤ lenV z := by rw [← lenV_abs z]; exact lenV_nat rn0_le
theorem dd_b {z : Int} {Y : Nat} : lenV ((dd z Y : Nat) : Int) ≤ lenV (Y : Int) := lenV_nat rd0_le
theorem cN_rng {a b c d : Nat} : -1 ≤ cN a b c d ∧ cN a b c d ≤ 1 := cmpI_rng
theorem Qe.inv {s : Bool} {x y : Nat} {z : Int} {Y : Nat} (h : Qe s x y z Y) (hx : x ≠ 0) : Qe s y x (zs (decide (z < 0)) Y) z.natAbs := by
  have hz : z ≠ 0 := fun e => hx (h.z0.2 e)
  refine ⟨hx, by omega, ?_⟩
  have h1 := h.abs
  have h2 := h.sgn
  rw [sgq_p hx] at h2
  rw [← h2, ← zs_mul, ← zs_mul, Nat.mul_comm Y x, h1, Nat.mul_comm]
structure Qr (s : Bool) (l d : List Int) (x y : Nat) (z : Int) (Y b : Nat) : Prop where
  hx : Rw l x
  hy : Rw d y
  q : Qe s x y z Y
  bx : lenV (x : Int) ≤ b
  bd : lenV (y : Int) ≤ b
  bz : lenV z ≤ b
  bY : lenV (Y : Int) ≤ b
theorem Qr.can {z : Int} {Y b : Nat} (h0 : Y ≠ 0) (h1 : lenV z ≤ b) (h2 : lenV (Y : Int) ≤ b) (hb : b ≤ 67108864) : Qr (decide (z < 0)) (lm ((nn z Y : Nat) : Int)) (lm ((dd z Y : Nat) : Int)) (nn z Y) (dd z Y) z Y b :=
  ⟨Rw.of (Nat.le_trans nn_b (Nat.le_trans h1 hb)), Rw.of (Nat.le_trans dd_b (Nat.le_trans h2 hb)), Qe.can z h0, Nat.le_trans nn_b h1, Nat.le_trans dd_b h2, h1, h2⟩
variable {s t : Bool} {l d l2 d2 : List Int} {x y x2 y2 : Nat} {z w : Int} {Y X b c : Nat}
theorem Qr.add (h1 : Qr s l d x y z Y b) (h2 : Qr t l2 d2 x2 y2 w X c) (hb : b + c + 1 ≤ 67108864) {Z : Int} {W : Nat} (eZ : Z = z * (X : Int) + w * (Y : Int)) (eW : W = Y * X) :
    Qr (decide (Z < 0)) (lm ((nn Z W : Nat) : Int)) (lm ((dd Z W : Nat) : Int)) (nn Z W) (dd Z W) Z W (b + c + 1) := by
  subst eZ eW
  have b1 := h1.bz
  have b2 := h1.bY
  have b3 := h2.bz
  have b4 := h2.bY
  refine Qr.can (Nat.mul_ne_zero h1.q.2.1 h2.q.2.1) ?_ ?_ hb
  · have h8 := lenV_mul z (X : Int)
    have h9 := lenV_mul w (Y : Int)
    have h7 := lenV_add (z * (X : Int)) (w * (Y : Int))
    omega
  · rw [Int.natCast_mul]
    have h8 := lenV_mul (Y : Int) (X : Int)
    omega
theorem Qr.mul (h1 : Qr s l d x y z Y b) (h2 : Qr t l2 d2 x2 y2 w X c) (hb : b + c + 1 ≤ 67108864) {Z : Int} {W : Nat} (eZ : Z = z * w) (eW : W = Y * X) :
    Qr (decide (Z < 0)) (lm ((nn Z W : Nat) : Int)) (lm ((dd Z W : Nat) : Int)) (nn Z W) (dd Z W) Z W (b + c + 1) := by
  subst eZ eW
  have b1 := h1.bz
  have b2 := h1.bY
  have b3 := h2.bz
  have b4 := h2.bY
  refine Qr.can (Nat.mul_ne_zero h1.q.2.1 h2.q.2.1) ?_ ?_ hb
  · have h8 := lenV_mul z w
    omega
  · rw [Int.natCast_mul]
    have h8 := lenV_mul (Y : Int) (X : Int)
    omega
theorem Qr.quo (h1 : Qr s l d x y z Y b) (h2 : Qr t l2 d2 x2 y2 w X c) (hb : b + c + 1 ≤ 67108864) (hx2 : x2 ≠ 0) {Z : Int} {W : Nat} (eZ : Z = z * zs (decide (w < 0)) X) (eW : W = Y * w.natAbs) :
    Qr (decide (Z < 0)) (lm ((nn Z W : Nat) : Int)) (lm ((dd Z W : Nat) : Int)) (nn Z W) (dd Z W) Z W (b + c + 1) := by
  subst eZ eW
  have b1 := h1.bz
  have b2 := h1.bY
  have b3 := h2.bz
  have b4 := h2.bY
  have hw : w ≠ 0 := fun e => hx2 (h2.q.z0.2 e)
  refine Qr.can (Nat.mul_ne_zero h1.q.2.1 (by omega)) ?_ ?_ hb
  · have h8 := lenV_mul z (zs (decide (w < 0)) X)
    rw [lenV_zs] at h8
    omega
  · rw [Int.natCast_mul]
    have h8 := lenV_mul (Y : Int) ((w.natAbs : Nat) : Int)
    rw [lenV_abs] at h8
    omega
theorem Qr.neg (h : Qr s l d x y z Y b) (hb : b ≤ 67108864) : Qr (decide (-z < 0)) (lm ((nn (-z) Y : Nat) : Int)) (lm ((dd (-z) Y : Nat) : Int)) (nn (-z) Y) (dd (-z) Y) (-z) Y b :=
  Qr.can h.q.2.1 (by have := h.bz; rwa [show lenV (-z) = lenV z by unfold lenV; rw [Int.natAbs_neg]]) h.bY hb
def okR (r : Bool × List Int × List Int) : Prop := vl r.2.2 ≠ 0 ∧ lenV (vl r.2.2) ≤ 1048576 ∧ lenV (vl r.2.1) ≤ 1048576
instance (r : Bool × List Int × List Int) : Decidable (okR r) := by unfold okR; exact inferInstance
def smallQ (rs : List (Bool × List Int × List Int)) : Bool := rs.all fun r => decide (okR r)
end Go.Proofs.YtpldmajdiljoaaaGreat.Vc

namespace Go.Proofs.YtpldmajdiljoaaaGreat.Vc
open Go Go.RowKit
theorem word_s (b : Nat) (hb : 2 ≤ b) (hb2 : b ≤ 36) : Spec Tryz.prog 129 [.i .i64 (b : Int)] (fun o => ∃ n : Nat, o = .ret (.t [.i .u64 ((b ^ n : Nat) : Int), .i .i64 (n : Int)]) ∧ 1 ≤ n ∧ n ≤ 63 ∧ b ^ n ≤ 9223372036854775808) := by
  refine spec_of' [(0, .i .i64 (b : Int))] rfl Tryz.func129 rfl (zlb rfl) fun Γ hN hds hL hR => ?_
  have hd := hdOf 19 hN
  refine zsr <| zas rfl (hd 2 rfl) <| zas rfl (hd 3 rfl) <| jo_nil <| zsr <| zas rfl (hd 4 rfl) <| zas rfl (hd 5 rfl) <| jo_nil <| jc_seq <| jc_block ?_
  refine jc_loopF (G := Nat × Nat) (fun g => g.2 = b ^ g.1 ∧ 2 ^ g.1 ≤ g.2 ∧ g.2 ≤ 9223372036854775808 ∧ g.1 ≤ 63) (fun g => [(4, .i .u64 (g.2 : Int)), (5, .i .i64 (g.1 : Int)), (6, .u), (7, .u), (8, .u), (9, .u), (10, .u), (11, .u), (12, .u), (13, .u), (14, .u), (15, .u), (16, .u)]) (fun _ => _) (fun g => 64 - g.1) (0, 1) ?_ ?_ rfl ?_
  · exact ⟨rfl, Nat.le_refl _, by decide, by decide⟩
  · exact (.cons rfl (.cons rfl (.u (.u (.u (.u (.u (.u (.u (.u (.u (.u (.u .nil)))))))))))))
  · rintro ⟨n, p⟩ ⟨hc1, hc2, hc3, hc4⟩
    dsimp only at hc1 hc2 hc3 hc4
    refine jc_seq <| zsr <| zmv rfl (hd 6 rfl) <| zmv rfl (hd 7 rfl) <| jo_l (ly_conv und3 und82 rfl (r := (b : Int)) (wrap_u64 (by omega) (by omega))) (hd 8 rfl) <| jo_l (ly_quo rfl rfl (by omega) (r := ((9223372036854775808 / b : Nat) : Int)) (by rw [show ((9223372036854775808 : Int).tdiv (b : Int)) = ((9223372036854775808 / b : Nat) : Int) from rfl]; exact wrap_u64 (Int.natCast_nonneg _) (by have := Nat.div_le_self 9223372036854775808 b; generalize 9223372036854775808 / b = q at *; omega))) (hd 9 rfl) <| jo_l (ly_le rfl rfl) (hd 10 rfl) <| jo_nil ?_
    refine jc_if rfl (fun h1 => ?_) (fun h1 => ?_)
    · obtain ⟨hs1, hs2, hs3⟩ := w_step hb hc1 hc2 (by omega : p ≤ 9223372036854775808 / b)
      refine jc_skip <| jc_block <| zsr <| zmv rfl (hd 11 rfl) <| zmv rfl (hd 12 rfl) <| jo_l (ly_conv und3 und82 rfl (r := (b : Int)) (wrap_u64 (by omega) (by omega))) (hd 13 rfl) <| jo_l (ly_mul rfl rfl (r := ((p * b : Nat) : Int)) (by dsimp only; rw [← Int.natCast_mul]; exact wrap_u64 (by omega) (by omega))) (hd 14 rfl) <| zas rfl (hd 4 rfl) <| jo_nil <| jc_region <| zmv rfl (hd 15 rfl) <| jo_l (ly_add rfl rfl (r := ((n + 1 : Nat) : Int)) (by rw [wrap_i64 (by omega) (by omega)]; omega)) (hd 16 rfl) ?_; refine zas rfl (hd 5 rfl) <| jo_nil ?_
      refine ⟨(n + 1, p * b), ?_, ?_, rfl, cov_n 26 rfl rfl ?_⟩
      · exact ⟨hs1, hs2, hs3, w63 hs2 hs3⟩
      · show 64 - (n + 1) < 64 - n
        omega
      · exact (.cons rfl (.cons rfl (.u (.u (.u (.u (.u (.u (.u (.u (.u (.u (.u .nil)))))))))))))
    · have hn1 := w_exit hb hb2 hc1 (by omega : ¬ p ≤ 9223372036854775808 / b)
      refine jc_exit <| zsr <| zmv rfl (hd 17 rfl) <| zmv rfl (hd 18 rfl) <| zas rfl (hd 2 rfl) <| zas rfl (hd 3 rfl) <| jo_nil <| jc_ret ?_
      refine ⟨_, _, (.cons rfl (.cons rfl .nil)), (.t1 .i (.t1 .i .t0)), ?_⟩
      exact ⟨n, by rw [hc1], hn1, hc4, by omega⟩

theorem Through_s (l : List Int) (d : Int) (hl : l.length < 1073741824) (hu : u64s l) (hd0 : 0 < d) (hd1 : d < 18446744073709551616) (hf : lenN l ≤ 67108864) : Spec Tryz.prog 130 [.n false .u64 l, .i .u64 d] (fun o => o = .ret (.t [.n false .u64 (lm (vl l / d)), .i .u64 (vl l % d), .i .i64 0])) := by
  refine spec_of' [(0, .n false .u64 l), (1, .i .u64 d)] rfl Tryz.func130 rfl (zlb rfl) fun Γ hN hds hL hR => ?_
  have hd := hdOf 48 hN
  have hm := trm_len l
  have uT := u64s_trm hu
  have hde := dv_end (d := d) uT hd0
  rw [vl_trm] at hde
  have hv0 := vl_nonneg hu
  have hq : (vl l / d).natAbs ≤ (vl l).natAbs := by have := Int.ediv_nonneg hv0 (show 0 ≤ d by omega); have := Int.ediv_le_self d hv0; omega
  have hfq : lenV (vl l / d) ≤ 67108864 := Nat.le_trans (lenV_mono hq) (by rw [← lenN_lenV hu rfl]; exact hf)
  refine zsr <| zas rfl (hd 4 rfl) <| zas rfl (hd 5 rfl) <| zas rfl (hd 6 rfl) <| jo_nil <| jc_seq <| zsr <| zmv rfl (hd 11 rfl) <| jo_l (ly_ff (ly_eq rfl rfl) (by omega)) (hd 12 rfl) <| jo_nil <| jc_litf rfl ?_; refine jc_skip <| zsr <| zmv rfl (hd 13 rfl) ?_
  refine jo_call Tryz.f85 (trim_s l (by omega)) rfl Tryz.func85 rfl rfl (ovL_cons rfl ovL_nil) (.cons .n .nil) (hd 14 rfl) ?_ (fun ch hp => by simp at hp)
  rintro _ ⟨⟩; refine zas rfl (hd 0 rfl) <| jo_nil <| zsr <| zmv rfl (hd 15 rfl) <| jo_l (ly_lenn sl28 rfl) (hd 16 rfl) <| jo_h (hy_mk (m := (trm l).length) el28 rfl rfl rfl (by show 8 * (trm l).length ≤ _; omega) (by unfold maxLen; omega) rfl) (hd 17 rfl) <| zas rfl (hd 7 rfl) <| jo_nil <| zsr <| zas rfl (hd 8 rfl) <| jo_nil ?_; refine jc_seq <| zsr <| zmv rfl (hd 18 rfl) <| jo_l (ly_lenn sl28 rfl) (hd 19 rfl) <| jo_l (ly_sub rfl rfl (wrap_i64 (by omega) (by omega))) (hd 20 rfl) <| zas rfl (hd 9 rfl) <| jo_nil <| jc_block <| jc_H (H' := [⟨79, 1, 0, true, ints .u64 (List.replicate (trm l).length 0 ++ (dvN (trm l) d ((trm l).length - (trm l).length)).1)⟩]) (by rw [Nat.sub_self]; show _ = [(⟨79, 1, 0, true, ints .u64 (List.replicate (trm l).length 0 ++ [])⟩ : Ob)]; rw [List.append_nil]; rfl) ?_
  refine jc_loopF (G := Nat) (fun k => k ≤ (trm l).length) (fun k => [(8, .i .u64 (dvN (trm l) d ((trm l).length - k)).2), (9, .i .i64 ((k : Int) - 1)), (21, .u), (22, .u), (23, .u), (24, .u), (25, .u), (26, .u), (27, .u), (28, .u), (29, .u), (30, .u), (31, .u), (32, .u), (33, .u), (34, .u), (35, .u), (36, .u), (37, .u)]) (fun k => [⟨79, 1, 0, true, ints .u64 (List.replicate k 0 ++ (dvN (trm l) d ((trm l).length - k)).1)⟩]) (fun k => k) (trm l).length ?_ ?_ rfl ?_
  · exact Nat.le_refl _
  · exact (.cons (by show some (V.i .u64 0) = some (V.i .u64 (dvN (trm l) d ((trm l).length - (trm l).length)).2); rw [Nat.sub_self]; rfl) (.cons rfl (.u (.u (.u (.u (.u (.u (.u (.u (.u (.u (.u (.u (.u (.u (.u (.u (.u .nil)))))))))))))))))))
  · rintro k hc1
    have hr := dvN_r (a := trm l) hd0 ((trm l).length - k)
    have hx := u64s_getD uT (k - 1)
    refine jc_seq <| zsr <| zmv rfl (hd 21 rfl) <| jo_l (ly_ge rfl rfl) (hd 22 rfl) <| jo_nil ?_
    refine jc_if rfl (fun h2 => ?_) (fun h2 => ?_)
    · refine jc_skip <| jc_seq <| jc_block <| jc_region <| zmv rfl (hd 26 rfl) <| zmv rfl (hd 27 rfl) <| zmv rfl (hd 28 rfl) <| zmv rfl (hd 29 rfl) <| zmv rfl (hd 30 rfl) <| jo_l (ly_ian (i := k - 1) sl28 rfl rfl (by omega) (by omega)) (hd 31 rfl) <| jo_l (ly_ldq one82 rfl rfl) (hd 32 rfl) <| zmv rfl (hd 33 rfl) ?_
      refine jo_call Tryz.f105 (Div64_s (dvN (trm l) d ((trm l).length - k)).2 ((trm l).getD (k - 1) 0) d hr.1 hr.2 hx.1 hx.2 hd1) rfl Tryz.func105 rfl rfl (ovL_cons rfl (ovL_cons rfl (ovL_cons rfl ovL_nil))) (.cons .i (.cons .i (.cons .i .nil))) (hd 34 rfl) ?_ (fun ch hp => by simp at hp)
      rintro _ ⟨⟩; refine zmv rfl (hd 25 rfl) <| jo_l (ly_ext rfl rfl) (hd 35 rfl) <| jo_l (ly_ext rfl rfl) (hd 36 rfl) <| jo_l (ly_ia (i := k - 1) sl28 rfl rfl rfl (by omega) (by omega) rfl) (hd 37 rfl) <| jo_st (sy_storei rfl rfl rfl one82 (by simp only [List.length_append, List.length_replicate, dvN_len]; omega)) <| zas rfl (hd 8 rfl) <| jo_nil <| jc_region <| zmv rfl (hd 23 rfl) <| jo_l (ly_sub rfl rfl (wrap_i64 (by omega) (by omega))) (hd 24 rfl) <| zas rfl (hd 9 rfl) <| jo_nil ?_
      refine ⟨k - 1, ?_, ?_, (by show [(⟨79, 1, 0, true, ints .u64 _⟩ : Ob)] = [⟨79, 1, 0, true, ints .u64 _⟩]; rw [dv_row (by omega), dv_step (by omega) hc1]), cov_n 38 rfl rfl ?_⟩
      · omega
      · omega
      · exact (.cons (by show some (V.i .u64 _) = some (V.i .u64 _); rw [dv_step (by omega) hc1]) (.cons (by show some (V.i .i64 _) = some (V.i .i64 _); congr 2; omega) (.u (.u (.u (.u (.u (.u (.u (.u (.u (.u (.u (.u (.u (.u (.u (.u (.u .nil)))))))))))))))))))
    · obtain rfl : k = 0 := by omega
      refine jc_exit <| jc_seq <| jc_frz (k := .u64) (l := List.replicate 0 0 ++ (dvN (trm l) d ((trm l).length - 0)).1) (l' := (dvN (trm l) d (trm l).length).1) 7 rfl rfl (by simp [dvN_len]) (by rw [Nat.sub_zero, List.drop_zero]; show List.take _ (dvN (trm l) d (trm l).length).1 = _; rw [List.take_of_length_le (by rw [dvN_len]; exact Nat.le_refl _)]) hL <| jc_region <| zmv rfl (hd 39 rfl) ?_
      refine jo_call Tryz.f112 (told_ok (dvN (trm l) d (trm l).length).1 (by rw [dvN_len]; omega) (dvN_u uT hd0 _) (by rw [hde.1, lenN_lm]; exact hfq)) rfl Tryz.func112 rfl rfl (ovL_cons rfl ovL_nil) (.cons .n .nil) (hd 40 rfl) ?_ (fun ch hp => by simp at hp)
      rintro _ ⟨⟩; refine zmv rfl (hd 38 rfl) <| jo_l (ly_ext rfl rfl) (hd 41 rfl) <| jo_l (ly_ext rfl rfl) (hd 42 rfl) <| zas rfl (hd 7 rfl) <| zas rfl (hd 10 rfl) <| jo_nil <| jc_seq <| zsr <| zmv rfl (hd 43 rfl) <| jo_l (ly_ff (ly_ne rfl rfl) (by decide)) (hd 44 rfl) <| jo_nil <| jc_litf rfl ?_; refine jc_skip <| zsr <| zmv rfl (hd 46 rfl) <| zmv rfl (hd 47 rfl) <| zas rfl (hd 4 rfl) <| zas rfl (hd 5 rfl) <| zas rfl (hd 6 rfl) <| jo_nil <| jc_ret ?_
      refine ⟨_, _, (.cons rfl (.cons rfl (.cons rfl .nil))), (.t1 .nn (.t1 .i (.t1 .i .t0))), ?_⟩
      rw [Nat.sub_zero, hde.1, hde.2]

theorem digits_n (l : List Int) (b m : Nat) (hl : l.length ≤ 1048576) (hu : u64s l) (hb : 2 ≤ b) (hb2 : b ≤ 36) (hm : m ≤ 1099511627776) : SpecM Tryz.prog 123 [.n false .u64 l, .i .i64 (b : Int), .i .i64 (m : Int)] [] (fun o G => o = .ret (.o 0 0 0 (hdg b m (vl l).toNat).length) ∧ G = [⟨3, 1, 0, true, ints .i64 (hdg b m (vl l).toNat)⟩]) := by
  refine specS_of [(0, .n false .u64 l), (1, .i .i64 (b : Int)), (2, .i .i64 (m : Int))] rfl Tryz.func123 rfl (zlb rfl) fun Γ hN hds hL hR => ?_
  have hd := hdOf 102 hN
  have hlenl := lenN_le l
  have hv0 := vl_nonneg hu
  refine zsr <| zas rfl (hd 6 rfl) <| jo_nil <| zsr <| zas rfl (hd 7 rfl) <| jo_nil <| jc_seq <| jc_own0 (id := 0) 7 3 1 rfl rfl <| jc_region <| zmv rfl (hd 17 rfl) ?_
  refine jo_call Tryz.f129 (word_s b hb hb2) rfl Tryz.func129 rfl rfl (ovL_cons rfl ovL_nil) (.cons .i .nil) (hd 18 rfl) ?_ (fun ch hp => by simp at hp)
  rintro y ⟨n, hy, hn1, hn2, hn3⟩; injection hy with hy; subst hy; refine zmv rfl (hd 16 rfl) <| jo_l (ly_ext rfl rfl) (hd 19 rfl) <| jo_l (ly_ext rfl rfl) (hd 20 rfl) <| zas rfl (hd 8 rfl) <| zas rfl (hd 9 rfl) <| jo_nil <| jc_seq <| jc_block ?_
  refine jc_loopD (G := List Int × Nat × List Int × List Int) 1 (fun g => u64s g.1 ∧ g.1.length ≤ 1048576 ∧ rng b g.2.2.1 ∧ vb b g.2.2.1 + (b : Int) ^ g.2.2.1.length * vl g.1 = vl l ∧ g.2.2.1.length ≤ 67108928 ∧ g.2.2.1.length ≤ g.2.2.2.length ∧ g.2.2.2.take g.2.2.1.length = g.2.2.1) (fun g => [(0, .n false .u64 g.1), (7, .o 0 g.2.1 0 g.2.2.1.length), (10, .u), (11, .u), (12, .u), (21, .u), (22, .u), (23, .u), (24, .u), (25, .u), (26, .u), (27, .u), (28, .u), (29, .u), (30, .u), (31, .u), (32, .u), (33, .u), (34, .u), (35, .u), (36, .u), (37, .u), (38, .u), (39, .u), (40, .u), (41, .u), (42, .u), (43, .u), (44, .u), (45, .u), (46, .u), (47, .u), (48, .u), (49, .u), (50, .u), (51, .u), (52, .u), (53, .u), (54, .u), (55, .u), (56, .u), (57, .u)]) (fun g => [⟨3, 1, g.2.1, true, ints .i64 g.2.2.2⟩]) (fun g => (vl g.1).toNat) (l, 0, [], []) ?_ ?_ rfl hR rfl (fun _ _ => rfl) (fun g _ => .cons ints_id .nil) ?_
  · exact ⟨hu, hl, (fun x hx => by simp at hx), by simp [vb], Nat.zero_le _, Nat.le_refl _, rfl⟩
  · exact (.cons rfl (.cons rfl (.u (.u (.u (.u (.u (.u (.u (.u (.u (.u (.u (.u (.u (.u (.u (.u (.u (.u (.u (.u (.u (.u (.u (.u (.u (.u (.u (.u (.u (.u (.u (.u (.u (.u (.u (.u (.u (.u (.u (.u .nil))))))))))))))))))))))))))))))))))))))))))
  · rintro ⟨A, ver, acc, C⟩ ⟨uA, hA, hr, hI, hal, hC1, hC2⟩
    dsimp only at uA hA hr hI hal hC1 hC2
    have hlA := lenN_le A
    have hvA := vl_nonneg uA
    refine jc_seq <| zsr <| zmv rfl (hd 21 rfl) ?_
    refine jo_call Tryz.f39 (Length_s A (by omega) uA) rfl Tryz.func39 rfl rfl (ovL_cons rfl ovL_nil) (.cons .n .nil) (hd 22 rfl) ?_ (fun ch hp => by simp at hp)
    rintro _ ⟨⟩; refine jo_l (ly_gt rfl rfl) (hd 23 rfl) <| jo_nil ?_
    refine jc_if rfl (fun h1 => ?_) (fun h1 => ?_)
    · have hvp : 0 < vl A := by
        rcases Int.lt_or_le 0 (vl A) with h | h
        · exact h
        · have h2 := (lenN_zero uA).2 (by omega)
          omega
      have hcap := dg_cap (L := 1048576) hb hr hvp hu hl hI
      have hbn : (0 : Int) < ((b ^ n : Nat) : Int) := by exact_mod_cast Nat.pow_pos (by omega)
      have hbn2 : ((b ^ n : Nat) : Int) ≤ 9223372036854775808 := by omega
      have hq0 : 0 ≤ vl A / ((b ^ n : Nat) : Int) := Int.ediv_nonneg hvA (by omega)
      have hrl : vl A % ((b ^ n : Nat) : Int) < 18446744073709551616 := by have := Int.emod_lt_of_pos (vl A) hbn; omega
      have hfA : lenV (vl A) ≤ 67108864 := by rw [← lenN_lenV uA rfl]; omega
      have hlq : (lm (vl A / ((b ^ n : Nat) : Int))).length ≤ 1048576 := lenV_lm (Nat.le_trans (lenV_mono (w := vl A) (by have := Int.ediv_le_self ((b ^ n : Nat) : Int) hvA; omega)) hfA)
      refine jc_skip <| jc_block <| zsr <| zmv rfl (hd 25 rfl) <| zmv rfl (hd 26 rfl) ?_
      refine jo_call Tryz.f130 (Through_s A ((b ^ n : Nat) : Int) (by omega) uA hbn (by omega) (by omega)) rfl Tryz.func130 rfl rfl (ovL_cons rfl (ovL_cons rfl ovL_nil)) (.cons .n (.cons .i .nil)) (hd 27 rfl) ?_ (fun ch hp => by simp at hp)
      rintro _ ⟨⟩; refine zmv rfl (hd 24 rfl) <| jo_l (ly_ext rfl rfl) (hd 28 rfl) <| jo_l (ly_ext rfl rfl) (hd 29 rfl) <| jo_l (ly_ext rfl rfl) (hd 30 rfl) <| zas rfl (hd 10 rfl) <| zas rfl (hd 11 rfl) <| zas rfl (hd 12 rfl) <| jo_nil <| jc_seq <| zsr <| zmv rfl (hd 31 rfl) <| jo_l (ly_ff (ly_ne rfl rfl) (by decide)) (hd 32 rfl) ?_; refine jo_nil <| jc_litf rfl <| jc_skip <| jc_seq <| zsr <| zmv rfl (hd 41 rfl) <| zmv rfl (hd 42 rfl) <| jo_nil <| jc_block ?_
      refine jc_loopD (G := Nat × Nat × List Int × List Int × Int) 1 (fun g => g.1 ≤ n ∧ rng b g.2.2.1 ∧ g.2.2.1.length = acc.length + g.1 ∧ vb b g.2.2.1 + (b : Int) ^ g.2.2.1.length * g.2.2.2.2 = vb b acc + (b : Int) ^ acc.length * (vl A % ((b ^ n : Nat) : Int)) ∧ 0 ≤ g.2.2.2.2 ∧ g.2.2.2.2 < (b : Int) ^ (n - g.1) ∧ g.2.2.1.length ≤ g.2.2.2.1.length ∧ g.2.2.2.1.take g.2.2.1.length = g.2.2.1 ∧ g.2.2.2.2 < 18446744073709551616) (fun g => [(7, .o 0 g.2.1 0 g.2.2.1.length), (11, .i .u64 g.2.2.2.2), (42, .i .i64 (g.1 : Int)), (43, .u), (44, .u), (45, .u), (46, .u), (47, .u), (48, .u), (49, .u), (50, .u), (51, .u), (52, .u), (53, .u), (54, .u), (55, .u), (56, .u)]) (fun g => [⟨3, 1, g.2.1, true, ints .i64 g.2.2.2.1⟩]) (fun g => n - g.1) (0, ver, acc, C, vl A % ((b ^ n : Nat) : Int)) ?_ ?_ rfl hR rfl (fun _ _ => rfl) (fun g _ => .cons ints_id .nil) ?_
      · exact ⟨Nat.zero_le _, hr, rfl, rfl, (dg_rlt hb).1, (dg_rlt hb).2, hC1, hC2, hrl⟩
      · exact (.cons rfl (.cons rfl (.cons rfl (.u (.u (.u (.u (.u (.u (.u (.u (.u (.u (.u (.u (.u (.u .nil)))))))))))))))))
      · rintro ⟨i, ver2, acc2, C2, r⟩ ⟨hi, hr2, hal2, hI2, h0, h1r, hD1, hD2, hr64⟩
        dsimp only at hi hr2 hal2 hI2 h0 h1r hD1 hD2 hr64
        refine zsr <| jo_l (ly_lt rfl rfl) (hd 43 rfl) <| jo_nil <| jc_seq ?_
        refine jc_if rfl (fun h3 => ?_) (fun h3 => ?_)
        · have hilt : i < n := by omega
          refine jc_skip <| jc_seq <| jc_block <| zsr <| zmv rfl (hd 44 rfl) <| zmv rfl (hd 45 rfl) <| zmv rfl (hd 46 rfl) <| jo_l (ly_conv und3 und82 rfl (r := (b : Int)) (wrap_u64 (by omega) (by omega))) (hd 47 rfl) <| jo_l (ly_is (ly_rem rfl rfl (by omega) rfl) (show V.i .u64 _ = V.i .u64 (r % (b : Int)) from congrArg (V.i .u64) (Int.tmod_eq_emod_of_nonneg h0))) (hd 48 rfl) <| jo_l (ly_conv und82 und3 rfl (r := r % (b : Int)) (wrap_i64 (by have := Int.emod_nonneg r (show (b : Int) ≠ 0 by omega); omega) (by have := Int.emod_lt_of_pos r (show (0 : Int) < b by omega); omega))) (hd 49 rfl) <| jo_h (hy_lit (id := 1) (xs := [.tmp 49]) el1122 rfl (ovL_cons rfl ovL_nil) rfl (all2_of rfl) (by decide) rfl) (hd 50 rfl) ?_
          refine jo_appI (C := C2) (v := (r % (b : Int))) el1122 rfl rfl hD1 rfl (src_o (cs := ints .i64 [(r % (b : Int))]) rfl rfl rfl) (by show (_ + 1) * 8 ≤ _; first | omega | (dsimp only; omega)) (by show _ + 1 ≤ 9223372036854775807; first | omega | (dsimp only; omega)) (hd 51 rfl) (fun ver' C' hE1 hE2 => ?_)
          refine zas rfl (hd 7 rfl) <| jo_nil <| jc_region <| zmv rfl (hd 52 rfl) <| zmv rfl (hd 53 rfl) <| jo_l (ly_conv und3 und82 rfl (r := (b : Int)) (wrap_u64 (by omega) (by omega))) (hd 54 rfl) <| jo_l (ly_quo rfl rfl (by omega) (r := r / (b : Int)) (by rw [Int.tdiv_eq_ediv_of_nonneg h0]; exact wrap_u64 (Int.ediv_nonneg h0 (by omega)) (by have := Int.ediv_le_self (b : Int) h0; omega))) (hd 55 rfl) <| zas rfl (hd 11 rfl) <| jo_nil <| jc_region <| jo_l (ly_add rfl rfl (r := ((i + 1 : Nat) : Int)) (by rw [wrap_i64 (by omega) (by omega)]; omega)) (hd 56 rfl) <| zmv rfl (hd 42 rfl) <| jo_nil ?_
          refine ⟨(i + 1, ver', acc2 ++ [r % (b : Int)], C', r / (b : Int)), ?_, ?_, rfl, cov_n 34 rfl rfl ?_⟩
          · exact ⟨by omega, rng_app hr2 (rng_one (Int.emod_nonneg _ (by omega)) (Int.emod_lt_of_pos _ (by omega))), by simp only [List.length_append, List.length_singleton]; omega, by simp only [List.length_append, List.length_singleton]; rw [dg_in]; exact hI2, (dgr_lt hb hilt h0 h1r).1, (dgr_lt hb hilt h0 h1r).2, by simp only [List.length_append, List.length_singleton]; exact hE1, by simp only [List.length_append, List.length_singleton]; rw [hE2, hD2], by have := Int.ediv_le_self (b : Int) h0; dsimp only; omega⟩
          · show n - (i + 1) < n - i
            omega
          · exact (.cons (by show some _ = some _; rw [List.length_append]; rfl) (.cons rfl (.cons rfl (.u (.u (.u (.u (.u (.u (.u (.u (.u (.u (.u (.u (.u (.u .nil)))))))))))))))))
        · obtain rfl : n = i := by omega
          have hr0 := dg_zero h0 h1r
          refine jc_exit <| jc_region <| zmv rfl (hd 57 rfl) <| zas rfl (hd 0 rfl) <| jo_nil ?_
          refine ⟨(lm (vl A / ((b ^ n : Nat) : Int)), ver2, acc2, C2), ?_, ?_, rfl, cov_n 79 rfl rfl ?_⟩
          · exact ⟨lm_u _, hlq, hr2, by dsimp only; rw [vl_lm hq0, dg_out hal2 hI2 hr0, hI], by dsimp only; omega, hD1, hD2⟩
          · show (vl (lm _)).toNat < (vl A).toNat
            rw [vl_lm hq0]
            exact dg_less hvp hb hn1
          · exact (.cons rfl (.cons rfl (.u (.u (.u (.u (.u (.u (.u (.u (.u (.u (.u (.u (.u (.u (.u (.u (.u (.u (.u (.u (.u (.u (.u (.u (.u (.u (.u (.u (.u (.u (.u (.u (.u (.u (.u (.u (.u (.u (.u (.u .nil))))))))))))))))))))))))))))))))))))))))))
    · have hv00 : vl A = 0 := (lenN_zero uA).1 (by omega)
      have hvacc : vb b acc = vl l := by rw [hv00, Int.mul_zero, Int.add_zero] at hI; exact hI
      refine jc_exit ?_
      refine jc_meetH (G := Nat) (fun k => k ≤ acc.length ∧ acc.take k = (digs b (vl l).toNat)) (fun k => [(7, .o 0 ver 0 k), (58, .u), (59, .u), (60, .u), (61, .u), (62, .u), (63, .u), (64, .u), (65, .u), (66, .u), (67, .u), (68, .u), (69, .u), (70, .u), (71, .u), (72, .u), (73, .u), (74, .u)]) ?_ ?_
      · refine jc_block ?_
        refine jc_loopF (G := Nat) (fun k => k ≤ acc.length ∧ vb b (acc.take k) = vb b acc) (fun k => [(7, .o 0 ver 0 k), (58, .u), (59, .u), (60, .u), (61, .u), (62, .u), (63, .u), (64, .u), (65, .u), (66, .u), (67, .u), (68, .u), (69, .u), (70, .u), (71, .u), (72, .u), (73, .u), (74, .u)]) (fun _ => _) (fun k => k) acc.length ?_ ?_ rfl ?_
        · exact ⟨Nat.le_refl _, by rw [List.take_length]⟩
        · exact (.cons rfl (.u (.u (.u (.u (.u (.u (.u (.u (.u (.u (.u (.u (.u (.u (.u (.u (.u .nil))))))))))))))))))
        · rintro k ⟨hk, hkv⟩; refine jc_seq <| zsr <| zmv rfl (hd 58 rfl) <| jo_l (ly_leno sl1122 rfl rfl) (hd 59 rfl) <| jo_l (ly_gt rfl rfl) (hd 60 rfl) <| zmv rfl (hd 61 rfl) ?_
          refine jo_ifp 61 rfl (fun h4 => ?_) (fun h4 => ?_)
          · refine jo_g 61 rfl rfl (ly_mv rfl) (hd 62 rfl) <| jo_g 61 rfl rfl (ly_mv rfl) (hd 63 rfl) <| jo_g 61 rfl rfl (ly_leno sl1122 rfl rfl) (hd 64 rfl) <| jo_g 61 rfl rfl (ly_sub rfl rfl (wrap_i64 (by omega) (by omega))) (hd 65 rfl) <| jo_g 61 rfl rfl (ly_ia (i := k - 1) sl1122 rfl rfl rfl (by omega) (by omega) rfl) (hd 66 rfl) <| jo_g 61 rfl rfl (ly_is (ly_ldi one3 rfl rfl (by first | omega | (dsimp only; omega))) (show V.i .i64 _ = V.i .i64 (acc.getD (k - 1) 0) by rw [getT hC2 (by omega)])) (hd 67 rfl) <| jo_g 61 rfl rfl (ly_eq rfl rfl) (hd 68 rfl) <| jo_l (ly_pick_t rfl rfl) (hd 69 rfl) <| jo_nil ?_
            refine jc_if rfl (fun h5 => ?_) (fun h5 => ?_)
            · have hz0 := h5
              refine jc_skip <| jc_block <| jc_region <| zmv rfl (hd 70 rfl) <| zmv rfl (hd 71 rfl) <| jo_l (ly_leno sl1122 rfl rfl) (hd 72 rfl) <| jo_l (ly_sub rfl rfl (wrap_i64 (by omega) (by omega))) (hd 73 rfl) <| jo_l (ly_slo (l := 0) (h := k - 1) (r := 0) (n := k - 1) sl1122 rfl rfl bnd_none (bnd_some' rfl (by omega)) (by omega) (by omega) rfl (by omega)) (hd 74 rfl) <| zas rfl (hd 7 rfl) <| jo_nil ?_
              refine ⟨k - 1, ?_, ?_, rfl, cov_n 37 rfl rfl ?_⟩
              · exact ⟨by omega, by rw [cut_step (by omega) hk hz0]; exact hkv⟩
              · omega
              · exact (.cons rfl (.u (.u (.u (.u (.u (.u (.u (.u (.u (.u (.u (.u (.u (.u (.u (.u (.u .nil))))))))))))))))))
            · refine jc_exit ?_
              refine ⟨k, ?_, rfl, cov_n 31 rfl rfl ?_⟩
              · exact ⟨hk, cut_digs hb hk hr (by rw [hkv, hvacc]; exact (Int.toNat_of_nonneg hv0).symm) (by first | (left; omega) | (right; assumption))⟩
              · exact (.cons rfl (.u (.u (.u (.u (.u (.u (.u (.u (.u (.u (.u (.u (.u (.u (.u (.u (.u .nil))))))))))))))))))
          · refine jo_s 61 rfl rfl rfl (hd 62 rfl) <| jo_s 61 rfl rfl rfl (hd 63 rfl) <| jo_s 61 rfl rfl rfl (hd 64 rfl) <| jo_s 61 rfl rfl rfl (hd 65 rfl) <| jo_s 61 rfl rfl rfl (hd 66 rfl) <| jo_s 61 rfl rfl rfl (hd 67 rfl) <| jo_s 61 rfl rfl rfl (hd 68 rfl) <| jo_l (ly_pick_f rfl rfl) (hd 69 rfl) <| jo_nil <| jc_litf rfl <| jc_exit ?_
            refine ⟨k, ?_, rfl, cov_n 31 rfl rfl ?_⟩
            · exact ⟨hk, cut_digs hb hk hr (by rw [hkv, hvacc]; exact (Int.toNat_of_nonneg hv0).symm) (by first | (left; omega) | (right; assumption))⟩
            · exact (.cons rfl (.u (.u (.u (.u (.u (.u (.u (.u (.u (.u (.u (.u (.u (.u (.u (.u (.u .nil))))))))))))))))))
      · rintro k ⟨hk, hdk⟩
        have hdl : (digs b (vl l).toNat).length = k := by rw [← hdk, List.length_take]; omega
        have hck : C.take k = (digs b (vl l).toNat) := by rw [takeT hC2 hk, hdk]
        refine jc_seq <| jc_block ?_
        refine jc_loopD (G := Nat × List Int × Nat) 1 (fun g => (digs b (vl l).toNat).length ≤ g.2.2 ∧ g.2.2 ≤ max m (digs b (vl l).toNat).length ∧ g.2.2 ≤ g.2.1.length ∧ g.2.1.take g.2.2 = (digs b (vl l).toNat) ++ List.replicate (g.2.2 - (digs b (vl l).toNat).length) 0) (fun g => [(7, .o 0 g.1 0 g.2.2), (75, .u), (76, .u), (77, .u), (78, .u), (79, .u), (80, .u), (81, .u)]) (fun g => [⟨3, 1, g.1, true, ints .i64 g.2.1⟩]) (fun g => m - g.2.2) (ver, C, k) ?_ ?_ rfl hR rfl (fun _ _ => rfl) (fun g _ => .cons ints_id .nil) ?_
        · exact ⟨by rw [hdl]; exact Nat.le_refl _, by dsimp only; omega, by dsimp only; omega, by dsimp only; rw [hck, hdl, Nat.sub_self]; simp⟩
        · exact (.cons rfl (.u (.u (.u (.u (.u (.u (.u .nil))))))))
        · rintro ⟨ver3, C3, k3⟩ ⟨hp1, hp2, hp3, hp4⟩
          dsimp only at hp1 hp2 hp3 hp4
          refine jc_seq <| zsr <| zmv rfl (hd 75 rfl) <| jo_l (ly_leno sl1122 rfl rfl) (hd 76 rfl) <| zmv rfl (hd 77 rfl) <| jo_l (ly_lt rfl rfl) (hd 78 rfl) <| jo_nil ?_
          refine jc_if rfl (fun h7 => ?_) (fun h7 => ?_)
          · dsimp only at h7
            refine jc_skip <| jc_block <| jc_region <| zmv rfl (hd 79 rfl) <| jo_h (hy_lit (id := 1) (xs := [.const (.int .i64 0)]) el1122 rfl (ovL_cons rfl ovL_nil) rfl (all2_of rfl) (by decide) rfl) (hd 80 rfl) ?_
            refine jo_appI (C := C3) (v := 0) el1122 rfl rfl hp3 rfl (src_o (cs := ints .i64 [0]) rfl rfl rfl) (by show (_ + 1) * 8 ≤ _; first | omega | (dsimp only; omega)) (by show _ + 1 ≤ 9223372036854775807; first | omega | (dsimp only; omega)) (hd 81 rfl) (fun ver' C' hE1 hE2 => ?_)
            refine zas rfl (hd 7 rfl) <| jo_nil ?_
            refine ⟨(ver', C', k3 + 1), ?_, ?_, rfl, cov_n 16 rfl rfl ?_⟩
            · exact ⟨by dsimp only; omega, by dsimp only; omega, hE1, pad_step hp1 hp4 hE2⟩
            · show m - (k3 + 1) < m - k3
              omega
            · exact (.cons rfl (.u (.u (.u (.u (.u (.u (.u .nil))))))))
          · dsimp only at h7 ⊢
            have hB : (C3.take k3).length = k3 := by rw [List.length_take]; omega
            have hpd := pad_end hp4 hp1 (by omega) hp2
            refine jc_exit <| zsr <| zmv rfl (hd 82 rfl) <| jo_l (ly_leno sl1122 rfl rfl) (hd 83 rfl) <| jo_h (hy_mk (m := k3) el1122 rfl rfl rfl (by show 8 * k3 ≤ _; omega) (by unfold maxLen; omega) rfl) (hd 84 rfl) <| zas rfl (hd 13 rfl) <| jo_nil <| jc_seq <| zsr <| zmv rfl (hd 85 rfl) <| jo_l (ly_leno sl1122 rfl rfl) (hd 86 rfl) ?_; refine zmv rfl (hd 87 rfl) <| jo_nil <| jc_block <| jc_H (H' := [⟨3, 1, ver3, true, ints .i64 C3⟩, ⟨3, 1, 0, true, ints .i64 (revI (C3.take k3) 0)⟩]) (by rw [revI_0, hB]; rfl) ?_
            refine jc_loopF (G := Nat) (fun i => i ≤ k3) (fun i => [(87, .i .i64 (i : Int)), (14, .u), (15, .u), (88, .u), (89, .u), (90, .u), (91, .u), (92, .u), (93, .u), (94, .u), (95, .u), (96, .u), (97, .u), (98, .u), (99, .u), (100, .u)]) (fun i => [⟨3, 1, ver3, true, ints .i64 C3⟩, ⟨3, 1, 0, true, ints .i64 (revI (C3.take k3) i)⟩]) (fun i => k3 - i) 0 ?_ ?_ rfl ?_
            · exact Nat.zero_le _
            · exact (.cons rfl (.u (.u (.u (.u (.u (.u (.u (.u (.u (.u (.u (.u (.u (.u (.u .nil))))))))))))))))
            · rintro i hi9
              have hrl9 := revI_len (B := (C3.take k3)) (i := i) (by rw [hB]; exact hi9)
              refine zsr <| jo_l (ly_lt rfl rfl) (hd 88 rfl) <| jo_nil <| jc_seq ?_
              refine jc_if rfl (fun h8 => ?_) (fun h8 => ?_)
              · refine jc_skip <| jc_seq <| jc_block <| zsr <| zmv rfl (hd 89 rfl) <| jo_l (ly_ia (i := i) sl1122 rfl rfl rfl (by first | rfl | omega) (by omega) rfl) (hd 90 rfl) <| jo_l (ly_is (ly_ldi one3 rfl rfl (by first | omega | (dsimp only; omega))) (show V.i .i64 _ = V.i .i64 ((C3.take k3).getD i 0) by rw [getT (acc := (C3.take k3)) (by rw [hB]) (by rw [hB]; omega)])) (hd 91 rfl) <| zas rfl (hd 14 rfl) <| zas rfl (hd 15 rfl) <| jo_nil ?_
                have hset : (revI (C3.take k3) i).set ((0 + (k3 - 1 - i)) * 1) ((C3.take k3).getD i 0) = revI (C3.take k3) (i + 1) := by
                  rw [Nat.zero_add, Nat.mul_one]
                  have h := revI_set (B := (C3.take k3)) (i := i) (by rw [hB]; omega)
                  rwa [hB] at h
                refine jc_region <| zmv rfl (hd 92 rfl) <| zmv rfl (hd 93 rfl) <| jo_l (ly_leno sl1122 rfl rfl) (hd 94 rfl) <| jo_l (ly_sub rfl rfl (wrap_i64 (by omega) (by omega))) (hd 95 rfl) <| zmv rfl (hd 96 rfl) <| jo_l (ly_sub rfl rfl (r := ((k3 - 1 - i : Nat) : Int)) (by rw [wrap_i64 (by omega) (by omega)]; omega)) (hd 97 rfl) <| zmv rfl (hd 98 rfl) <| jo_l (ly_ia (i := k3 - 1 - i) sl1122 rfl rfl rfl (by first | rfl | omega) (by omega) rfl) (hd 99 rfl) <| jo_st (sy_storei rfl rfl rfl one3 (by rw [hrl9, hB]; first | omega | (dsimp only; omega))) <| jo_nil <| jc_region <| jo_l (ly_add rfl rfl (r := ((i + 1 : Nat) : Int)) (by rw [wrap_i64 (by omega) (by omega)]; omega)) (hd 100 rfl) ?_; refine zmv rfl (hd 87 rfl) <| jo_nil ?_
                refine ⟨i + 1, ?_, ?_, (by show [_, (⟨3, 1, 0, true, ints .i64 _⟩ : Ob)] = [_, ⟨3, 1, 0, true, ints .i64 _⟩]; rw [hset]), cov_n 32 rfl rfl ?_⟩
                · omega
                · omega
                · exact (.cons rfl (.u (.u (.u (.u (.u (.u (.u (.u (.u (.u (.u (.u (.u (.u (.u .nil))))))))))))))))
              · obtain rfl : i = k3 := by omega
                have hR : revI (C3.take i) i = (hdg b m (vl l).toNat) := by
                  have h := revI_all (C3.take i)
                  rw [hB] at h
                  rw [h, hpd]; rfl
                have hRl : (hdg b m (vl l).toNat).length = i := by rw [← hR, revI_len (by omega), hB]
                refine jc_exit <| zsr <| zmv rfl (hd 101 rfl) <| zas rfl (hd 6 rfl) <| jo_nil <| jc_ret ?_
                refine ⟨[1], _, (.o 0 0 0 i), (.cons rfl .nil), rfl, rfl, (by decide), (by first | exact idless_cons ints_id idless_nil | exact idless_cons rfl idless_nil), ?_⟩
                exact ⟨by rw [hRl], by rw [← hR]; rfl⟩

theorem caughtR_0 (a b c ue : Value) (ha : a.oneCell' = true) (hb : b.oneCell' = true) (hc : c.oneCell' = true) (hu : ue.oneCell' = true) : Spec Tryz.prog 30 [.c .nilIface, .a [.c a, .c b, .c c], .c ue] (fun o => o = .ret (.t [.a [.c a, .c b, .c c], .c ue])) := by
  refine spec_of' [(0, .c .nilIface), (1, .a [.c a, .c b, .c c]), (2, .c ue)] rfl Tryz.func30 rfl (zlb rfl) fun Γ hN hds hL hR => ?_
  have hd := hdOf 26 hN
  refine zsr <| jo_h (hy_box (id := 0) (n := 3) rfl (one_c3V ha hb hc) rfl (by decide) rfl) (hd 4 rfl) <| jo_h (hy_alloc (id := 1) zero1027 (by decide) rfl (by decide) rfl) (hd 6 rfl) <| zas rfl (hd 7 rfl) <| jo_nil <| jc_seq <| zsr <| zmv rfl (hd 11 rfl) <| jo_l (ly_eqi0 undI20 rfl) (hd 12 rfl) <| jo_nil <| jc_litt rfl ?_; refine zsr <| jo_l (ly_lda agg1027 rfl rfl rfl rfl) (hd 13 rfl) <| zmv rfl (hd 14 rfl) <| jo_st (sy_store rfl rfl rfl siz1027 rfl (one_c3 ha hb hc) (zlb rfl)) <| zas rfl (hd 7 rfl) <| jo_nil <| jc_ret ?_
  refine ⟨_, _, (.cons (ResV.cell agg1027 rfl rfl rfl rfl) (.cons rfl .nil)), (.t1 (.a1 .c (.a1 .c (.a1 .c .a0))) (.t1 .c .t0)), ?_⟩
  exact rfl

theorem caughtR_1 (a b c ue : Value) (ha : a.oneCell' = true) (hb : b.oneCell' = true) (hc : c.oneCell' = true) (hu : ue.oneCell' = true) (e : Int) : Spec Tryz.prog 30 [.c (.iface 100 (.agg #[.int .i64 e])), .a [.c a, .c b, .c c], .c ue] (fun o => o = .ret (.t [(.a [.b false, .n false .u64 [], .n false .u64 []]), .i .i64 e])) := by
  refine spec_of' [(0, .c (.iface 100 (.agg #[.int .i64 e]))), (1, .a [.c a, .c b, .c c]), (2, .c ue)] rfl Tryz.func30 rfl (zlb rfl) fun Γ hN hds hL hR => ?_
  have hd := hdOf 26 hN
  refine zsr <| jo_h (hy_box (id := 0) (n := 3) rfl (one_c3V ha hb hc) rfl (by decide) rfl) (hd 4 rfl) <| jo_h (hy_alloc (id := 1) zero1027 (by decide) rfl (by decide) rfl) (hd 6 rfl) <| zas rfl (hd 7 rfl) <| jo_nil <| jc_seq <| zsr <| zmv rfl (hd 11 rfl) <| jo_l (ly_eqi1 undI20 rfl) (hd 12 rfl) <| jo_nil <| jc_litf rfl ?_; refine jc_skip <| zsr <| zmv rfl (hd 16 rfl) <| jo_l (ly_ta ndi1100 rfl) (hd 17 rfl) <| zmv rfl (hd 15 rfl) <| jo_l (ly_ext rfl rfl) (hd 18 rfl) <| jo_l (ly_ext rfl rfl) (hd 19 rfl) <| jo_h (hy_alloc (id := 2) zero1100 (by decide) rfl (by decide) rfl) (hd 8 rfl) <| jo_st (sy_store rfl rfl rfl siz1100 rfl rfl (zlb rfl)) <| zas rfl (hd 9 rfl) <| jo_nil <| jc_seq ?_; refine zsr <| zmv rfl (hd 20 rfl) <| jo_l (ly_not rfl) (hd 21 rfl) <| jo_nil <| jc_litf rfl <| jc_skip <| zsr <| jo_h (hy_alloc (id := 3) zero1027 (by decide) rfl (by decide) rfl) (hd 10 rfl) <| jo_nil <| jc_seq <| jc_draw (n := 5) _ rfl mixed ?_; refine zal 0 (lo_l (ly_lda agg1027 rfl rfl rfl rfl) (hd 23 rfl)) rfl ?_
  refine ja_2 1 3 ?_ ?_ rfl rfl (by kernel_rfl)
  · refine js_l (ly_fa fld1100_0 rfl rfl rfl) (hd 24 rfl) ?_
    refine ja_2 2 3 ?_ ?_ rfl rfl (by kernel_rfl)
    · refine js_l (ly_ld one23 rfl rfl rfl) (hd 25 rfl) ?_
      refine ja_1 3 ?_ rfl (by kernel_rfl)
      refine js_st (sy_store rfl rfl rfl siz1027 rfl rfl (zlb rfl)) rfl <| zal 4 (lo_l (ly_as rfl) (hd 7 rfl)) rfl <| ja_nil (by kernel_rfl) <| jc_ret ?_
      refine ⟨_, _, (.cons (ResV.cell agg1027 rfl rfl rfl rfl) (.cons rfl .nil)), (.t1 (.a1 .b (.a1 (.nil (fr := false) (k := .u64)) (.a1 (.nil (fr := false) (k := .u64)) .a0))) (.t1 .i .t0)), ?_⟩
      exact rfl
    · refine js_st (sy_store rfl rfl rfl siz1027 rfl rfl (zlb rfl)) rfl <| zal 2 (lo_l (ly_ld one23 rfl rfl rfl) (hd 25 rfl)) rfl <| zal 4 (lo_l (ly_as rfl) (hd 7 rfl)) rfl <| ja_nil (by kernel_rfl) <| jc_ret ?_
      refine ⟨_, _, (.cons (ResV.cell agg1027 rfl rfl rfl rfl) (.cons rfl .nil)), (.t1 (.a1 .b (.a1 (.nil (fr := false) (k := .u64)) (.a1 (.nil (fr := false) (k := .u64)) .a0))) (.t1 .i .t0)), ?_⟩
      exact rfl
  · refine js_st (sy_store rfl rfl rfl siz1027 rfl rfl (zlb rfl)) rfl <| zal 1 (lo_l (ly_fa fld1100_0 rfl rfl rfl) (hd 24 rfl)) rfl <| zal 2 (lo_l (ly_ld one23 rfl rfl rfl) (hd 25 rfl)) rfl <| zal 4 (lo_l (ly_as rfl) (hd 7 rfl)) rfl <| ja_nil (by kernel_rfl) <| jc_ret ?_
    refine ⟨_, _, (.cons (ResV.cell agg1027 rfl rfl rfl rfl) (.cons rfl .nil)), (.t1 (.a1 .b (.a1 (.nil (fr := false) (k := .u64)) (.a1 (.nil (fr := false) (k := .u64)) .a0))) (.t1 .i .t0)), ?_⟩
    exact rfl

theorem caughtI_0 (a ue : Value) (ha : a.oneCell' = true) (hu : ue.oneCell' = true) : Spec Tryz.prog 48 [.c .nilIface, .c a, .c ue] (fun o => o = .ret (.t [.c a, .c ue])) := by
  refine spec_of' [(0, .c .nilIface), (1, .c a), (2, .c ue)] rfl Tryz.func48 rfl (zlb rfl) fun Γ hN hds hL hR => ?_
  have hd := hdOf 26 hN
  refine zsr <| zas rfl (hd 6 rfl) <| zas rfl (hd 7 rfl) <| jo_nil <| jc_seq <| zsr <| zmv rfl (hd 11 rfl) <| jo_l (ly_eqi0 undI20 rfl) (hd 12 rfl) <| jo_nil <| jc_litt rfl <| jc_seq ?_; refine jc_region <| zmv rfl (hd 13 rfl) <| zmv rfl (hd 14 rfl) <| zas rfl (hd 6 rfl) <| zas rfl (hd 7 rfl) <| jo_nil <| jc_ret ?_
  refine ⟨_, _, (.cons rfl (.cons rfl .nil)), (.t1 .c (.t1 .c .t0)), ?_⟩
  exact rfl

theorem caughtI_1 (a ue : Value) (ha : a.oneCell' = true) (hu : ue.oneCell' = true) (e : Int) : Spec Tryz.prog 48 [.c (.iface 100 (.agg #[.int .i64 e])), .c a, .c ue] (fun o => o = .ret (.t [(.i .i64 0), .i .i64 e])) := by
  refine spec_of' [(0, .c (.iface 100 (.agg #[.int .i64 e]))), (1, .c a), (2, .c ue)] rfl Tryz.func48 rfl (zlb rfl) fun Γ hN hds hL hR => ?_
  have hd := hdOf 26 hN
  refine zsr <| zas rfl (hd 6 rfl) <| zas rfl (hd 7 rfl) <| jo_nil <| jc_seq <| zsr <| zmv rfl (hd 11 rfl) <| jo_l (ly_eqi1 undI20 rfl) (hd 12 rfl) <| jo_nil <| jc_litf rfl <| jc_skip ?_; refine zsr <| zmv rfl (hd 16 rfl) <| jo_l (ly_ta ndi1100 rfl) (hd 17 rfl) <| zmv rfl (hd 15 rfl) <| jo_l (ly_ext rfl rfl) (hd 18 rfl) <| jo_l (ly_ext rfl rfl) (hd 19 rfl) <| jo_h (hy_alloc (id := 0) zero1100 (by decide) rfl (by decide) rfl) (hd 8 rfl) <| jo_st (sy_store rfl rfl rfl siz1100 rfl rfl (zlb rfl)) <| zas rfl (hd 9 rfl) <| jo_nil <| jc_seq <| jc_seq ?_; refine jc_region <| zmv rfl (hd 20 rfl) <| jo_l (ly_not rfl) (hd 21 rfl) <| jo_nil <| jc_litf rfl <| jc_skip <| zsr <| zas rfl (hd 10 rfl) <| jo_nil <| jc_seq <| jc_draw (n := 5) _ rfl mixed <| zal 0 (lo_l (ly_mv rfl) (hd 23 rfl)) rfl ?_; refine zal 1 (lo_l (ly_fa fld1100_0 rfl rfl rfl) (hd 24 rfl)) rfl <| zal 2 (lo_l (ly_ld one23 rfl rfl rfl) (hd 25 rfl)) rfl <| zal 3 (lo_l (ly_as rfl) (hd 6 rfl)) rfl <| zal 4 (lo_l (ly_as rfl) (hd 7 rfl)) rfl <| ja_nil (by kernel_rfl) <| jc_ret ?_
  refine ⟨_, _, (.cons rfl (.cons rfl .nil)), (.t1 .i (.t1 .i .t0)), ?_⟩
  exact rfl

theorem caughtS_0 (a ue : Value) (ha : a.oneCell' = true) (hu : ue.oneCell' = true) : Spec Tryz.prog 64 [.c .nilIface, .c a, .c ue] (fun o => o = .ret (.t [.c a, .c ue])) := by
  refine spec_of' [(0, .c .nilIface), (1, .c a), (2, .c ue)] rfl Tryz.func64 rfl (zlb rfl) fun Γ hN hds hL hR => ?_
  have hd := hdOf 26 hN
  refine zsr <| zas rfl (hd 6 rfl) <| zas rfl (hd 7 rfl) <| jo_nil <| jc_seq <| zsr <| zmv rfl (hd 11 rfl) <| jo_l (ly_eqi0 undI20 rfl) (hd 12 rfl) <| jo_nil <| jc_litt rfl <| jc_seq ?_; refine jc_region <| zmv rfl (hd 13 rfl) <| zmv rfl (hd 14 rfl) <| zas rfl (hd 6 rfl) <| zas rfl (hd 7 rfl) <| jo_nil <| jc_ret ?_
  refine ⟨_, _, (.cons rfl (.cons rfl .nil)), (.t1 .c (.t1 .c .t0)), ?_⟩
  exact rfl

theorem caughtS_1 (a ue : Value) (ha : a.oneCell' = true) (hu : ue.oneCell' = true) (e : Int) : Spec Tryz.prog 64 [.c (.iface 100 (.agg #[.int .i64 e])), .c a, .c ue] (fun o => o = .ret (.t [(.s .empty), .i .i64 e])) := by
  refine spec_of' [(0, .c (.iface 100 (.agg #[.int .i64 e]))), (1, .c a), (2, .c ue)] rfl Tryz.func64 rfl (zlb rfl) fun Γ hN hds hL hR => ?_
  have hd := hdOf 26 hN
  refine zsr <| zas rfl (hd 6 rfl) <| zas rfl (hd 7 rfl) <| jo_nil <| jc_seq <| zsr <| zmv rfl (hd 11 rfl) <| jo_l (ly_eqi1 undI20 rfl) (hd 12 rfl) <| jo_nil <| jc_litf rfl <| jc_skip ?_; refine zsr <| zmv rfl (hd 16 rfl) <| jo_l (ly_ta ndi1100 rfl) (hd 17 rfl) <| zmv rfl (hd 15 rfl) <| jo_l (ly_ext rfl rfl) (hd 18 rfl) <| jo_l (ly_ext rfl rfl) (hd 19 rfl) <| jo_h (hy_alloc (id := 0) zero1100 (by decide) rfl (by decide) rfl) (hd 8 rfl) <| jo_st (sy_store rfl rfl rfl siz1100 rfl rfl (zlb rfl)) <| zas rfl (hd 9 rfl) <| jo_nil <| jc_seq <| jc_seq ?_; refine jc_region <| zmv rfl (hd 20 rfl) <| jo_l (ly_not rfl) (hd 21 rfl) <| jo_nil <| jc_litf rfl <| jc_skip <| zsr <| zas rfl (hd 10 rfl) <| jo_nil <| jc_seq <| jc_draw (n := 5) _ rfl mixed <| zal 0 (lo_l (ly_mv rfl) (hd 23 rfl)) rfl ?_; refine zal 1 (lo_l (ly_fa fld1100_0 rfl rfl rfl) (hd 24 rfl)) rfl <| zal 2 (lo_l (ly_ld one23 rfl rfl rfl) (hd 25 rfl)) rfl <| zal 3 (lo_l (ly_as rfl) (hd 6 rfl)) rfl <| zal 4 (lo_l (ly_as rfl) (hd 7 rfl)) rfl <| ja_nil (by kernel_rfl) <| jc_ret ?_
  refine ⟨_, _, (.cons rfl (.cons rfl .nil)), (.t1 .s (.t1 .i .t0)), ?_⟩
  exact rfl

theorem clo_2346 : Clo Tryz.prog 94 27 33 3 true 100 (.a [.b false, .n false .u64 [], .n false .u64 []]) where
  shape := ⟨Tryz.f94, Tryz.f30, 30, 34, 20, "ratio.go:70", Tryz.func94, rfl, rfl, rfl, Tryz.func30, rfl, rfl, fun us ue hl h1 h2 => by
    obtain ⟨a, b, c, rfl⟩ : ∃ a b c, us = [a, b, c] := by
      match us, hl with
      | [a, b, c], _ => exact ⟨a, b, c, rfl⟩
    exact caughtR_0 a b c ue (h1 a (by simp)) (h1 b (by simp)) (h1 c (by simp)) h2, fun us ue e hl h1 h2 => by
    obtain ⟨a, b, c, rfl⟩ : ∃ a b c, us = [a, b, c] := by
      match us, hl with
      | [a, b, c], _ => exact ⟨a, b, c, rfl⟩
    exact caughtR_1 a b c ue (h1 a (by simp)) (h1 b (by simp)) (h1 c (by simp)) h2 e⟩
  hm := mixed
  hld := .inl ⟨rfl, agg1027⟩
  hsz := siz1027
  hle := one23
  hz1 := rfl
  hz2 := rfl
  hz3 := fun _ => rfl

theorem clo_2340 : Clo Tryz.prog 91 27 33 3 true 100 (.a [.b false, .n false .u64 [], .n false .u64 []]) where
  shape := ⟨Tryz.f91, Tryz.f30, 30, 34, 20, "ratio.go:80", Tryz.func91, rfl, rfl, rfl, Tryz.func30, rfl, rfl, fun us ue hl h1 h2 => by
    obtain ⟨a, b, c, rfl⟩ : ∃ a b c, us = [a, b, c] := by
      match us, hl with
      | [a, b, c], _ => exact ⟨a, b, c, rfl⟩
    exact caughtR_0 a b c ue (h1 a (by simp)) (h1 b (by simp)) (h1 c (by simp)) h2, fun us ue e hl h1 h2 => by
    obtain ⟨a, b, c, rfl⟩ : ∃ a b c, us = [a, b, c] := by
      match us, hl with
      | [a, b, c], _ => exact ⟨a, b, c, rfl⟩
    exact caughtR_1 a b c ue (h1 a (by simp)) (h1 b (by simp)) (h1 c (by simp)) h2 e⟩
  hm := mixed
  hld := .inl ⟨rfl, agg1027⟩
  hsz := siz1027
  hle := one23
  hz1 := rfl
  hz2 := rfl
  hz3 := fun _ => rfl

theorem clo_2347 : Clo Tryz.prog 29 27 33 3 true 100 (.a [.b false, .n false .u64 [], .n false .u64 []]) where
  shape := ⟨Tryz.f29, Tryz.f30, 30, 34, 20, "ratio.go:96", Tryz.func29, rfl, rfl, rfl, Tryz.func30, rfl, rfl, fun us ue hl h1 h2 => by
    obtain ⟨a, b, c, rfl⟩ : ∃ a b c, us = [a, b, c] := by
      match us, hl with
      | [a, b, c], _ => exact ⟨a, b, c, rfl⟩
    exact caughtR_0 a b c ue (h1 a (by simp)) (h1 b (by simp)) (h1 c (by simp)) h2, fun us ue e hl h1 h2 => by
    obtain ⟨a, b, c, rfl⟩ : ∃ a b c, us = [a, b, c] := by
      match us, hl with
      | [a, b, c], _ => exact ⟨a, b, c, rfl⟩
    exact caughtR_1 a b c ue (h1 a (by simp)) (h1 b (by simp)) (h1 c (by simp)) h2 e⟩
  hm := mixed
  hld := .inl ⟨rfl, agg1027⟩
  hsz := siz1027
  hle := one23
  hz1 := rfl
  hz2 := rfl
  hz3 := fun _ => rfl

theorem clo_2350 : Clo Tryz.prog 45 27 33 3 true 100 (.a [.b false, .n false .u64 [], .n false .u64 []]) where
  shape := ⟨Tryz.f45, Tryz.f30, 30, 34, 20, "ratio.go:122", Tryz.func45, rfl, rfl, rfl, Tryz.func30, rfl, rfl, fun us ue hl h1 h2 => by
    obtain ⟨a, b, c, rfl⟩ : ∃ a b c, us = [a, b, c] := by
      match us, hl with
      | [a, b, c], _ => exact ⟨a, b, c, rfl⟩
    exact caughtR_0 a b c ue (h1 a (by simp)) (h1 b (by simp)) (h1 c (by simp)) h2, fun us ue e hl h1 h2 => by
    obtain ⟨a, b, c, rfl⟩ : ∃ a b c, us = [a, b, c] := by
      match us, hl with
      | [a, b, c], _ => exact ⟨a, b, c, rfl⟩
    exact caughtR_1 a b c ue (h1 a (by simp)) (h1 b (by simp)) (h1 c (by simp)) h2 e⟩
  hm := mixed
  hld := .inl ⟨rfl, agg1027⟩
  hsz := siz1027
  hle := one23
  hz1 := rfl
  hz2 := rfl
  hz3 := fun _ => rfl

theorem clo_2351 : Clo Tryz.prog 47 3 33 1 false 100 (.i .i64 0) where
  shape := ⟨Tryz.f47, Tryz.f48, 48, 36, 20, "ratio.go:146", Tryz.func47, rfl, rfl, rfl, Tryz.func48, rfl, rfl, fun us ue hl h1 h2 => by
    obtain ⟨a, rfl⟩ : ∃ a, us = [a] := by
      match us, hl with
      | [a], _ => exact ⟨a, rfl⟩
    exact caughtI_0 a ue (h1 a (by simp)) h2, fun us ue e hl h1 h2 => by
    obtain ⟨a, rfl⟩ : ∃ a, us = [a] := by
      match us, hl with
      | [a], _ => exact ⟨a, rfl⟩
    exact caughtI_1 a ue (h1 a (by simp)) h2 e⟩
  hm := mixed
  hld := .inr ⟨rfl, rfl, one3⟩
  hsz := siz3
  hle := one23
  hz1 := rfl
  hz2 := rfl
  hz3 := fun _ => rfl

theorem clo_2353 : Clo Tryz.prog 46 27 33 3 true 100 (.a [.b false, .n false .u64 [], .n false .u64 []]) where
  shape := ⟨Tryz.f46, Tryz.f30, 30, 34, 20, "ratio.go:136", Tryz.func46, rfl, rfl, rfl, Tryz.func30, rfl, rfl, fun us ue hl h1 h2 => by
    obtain ⟨a, b, c, rfl⟩ : ∃ a b c, us = [a, b, c] := by
      match us, hl with
      | [a, b, c], _ => exact ⟨a, b, c, rfl⟩
    exact caughtR_0 a b c ue (h1 a (by simp)) (h1 b (by simp)) (h1 c (by simp)) h2, fun us ue e hl h1 h2 => by
    obtain ⟨a, b, c, rfl⟩ : ∃ a b c, us = [a, b, c] := by
      match us, hl with
      | [a, b, c], _ => exact ⟨a, b, c, rfl⟩
    exact caughtR_1 a b c ue (h1 a (by simp)) (h1 b (by simp)) (h1 c (by simp)) h2 e⟩
  hm := mixed
  hld := .inl ⟨rfl, agg1027⟩
  hsz := siz1027
  hle := one23
  hz1 := rfl
  hz2 := rfl
  hz3 := fun _ => rfl

theorem clo_2358 : Clo Tryz.prog 63 9 33 1 false 100 (.s .empty) where
  shape := ⟨Tryz.f63, Tryz.f64, 64, 45, 20, "ratio.go:291", Tryz.func63, rfl, rfl, rfl, Tryz.func64, rfl, rfl, fun us ue hl h1 h2 => by
    obtain ⟨a, rfl⟩ : ∃ a, us = [a] := by
      match us, hl with
      | [a], _ => exact ⟨a, rfl⟩
    exact caughtS_0 a ue (h1 a (by simp)) h2, fun us ue e hl h1 h2 => by
    obtain ⟨a, rfl⟩ : ∃ a, us = [a] := by
      match us, hl with
      | [a], _ => exact ⟨a, rfl⟩
    exact caughtS_1 a ue (h1 a (by simp)) h2 e⟩
  hm := mixed
  hld := .inr ⟨rfl, rfl, one9⟩
  hsz := siz9
  hle := one23
  hz1 := rfl
  hz2 := rfl
  hz3 := fun _ => rfl

theorem clo_2381 : Clo Tryz.prog 42 27 33 3 true 100 (.a [.b false, .n false .u64 [], .n false .u64 []]) where
  shape := ⟨Tryz.f42, Tryz.f30, 30, 34, 20, "ratio.go:115", Tryz.func42, rfl, rfl, rfl, Tryz.func30, rfl, rfl, fun us ue hl h1 h2 => by
    obtain ⟨a, b, c, rfl⟩ : ∃ a b c, us = [a, b, c] := by
      match us, hl with
      | [a, b, c], _ => exact ⟨a, b, c, rfl⟩
    exact caughtR_0 a b c ue (h1 a (by simp)) (h1 b (by simp)) (h1 c (by simp)) h2, fun us ue e hl h1 h2 => by
    obtain ⟨a, b, c, rfl⟩ : ∃ a b c, us = [a, b, c] := by
      match us, hl with
      | [a, b, c], _ => exact ⟨a, b, c, rfl⟩
    exact caughtR_1 a b c ue (h1 a (by simp)) (h1 b (by simp)) (h1 c (by simp)) h2 e⟩
  hm := mixed
  hld := .inl ⟨rfl, agg1027⟩
  hsz := siz1027
  hle := one23
  hz1 := rfl
  hz2 := rfl
  hz3 := fun _ => rfl

theorem mustN (l : List Int) : Spec Tryz.prog 34 [.n false .u64 l, .i .i64 0] (fun o => o = .ret (.n false .u64 l)) := by
  refine spec_of' [(0, .n false .u64 l), (1, .i .i64 0)] rfl Tryz.func34 rfl (zlb rfl) fun Γ hN hds hL hR => ?_
  have hd := hdOf 11 hN
  refine zsr <| zas rfl (hd 4 rfl) <| jo_nil <| jc_seq <| zsr <| zmv rfl (hd 5 rfl) <| jo_l (ly_ff (ly_ne rfl rfl) (by decide)) (hd 6 rfl) <| jo_nil <| jc_litf rfl <| jc_skip <| jc_seq ?_; refine jc_region <| zmv rfl (hd 10 rfl) <| zas rfl (hd 4 rfl) <| jo_nil <| jc_ret ?_
  refine ⟨_, _, (.cons rfl .nil), .n, ?_⟩
  exact rfl

theorem mustW (s : Bool) (l : List Int) : Spec Tryz.prog 36 [.a [.b s, .n false .u64 l], .i .i64 0] (fun o => o = .ret (.a [.b s, .n false .u64 l])) := by
  refine spec_of' [(0, .a [.b s, .n false .u64 l]), (1, .i .i64 0)] rfl Tryz.func36 rfl (zlb rfl) fun Γ hN hds hL hR => ?_
  have hd := hdOf 11 hN
  refine zsr <| jo_h (hy_box (id := 0) (n := 2) rfl rfl rfl (by decide) rfl) (hd 2 rfl) <| jo_h (hy_alloc (id := 1) zero30 (by decide) rfl (by decide) rfl) (hd 4 rfl) <| jo_nil <| jc_seq <| zsr <| zmv rfl (hd 5 rfl) <| jo_l (ly_ff (ly_ne rfl rfl) (by decide)) (hd 6 rfl) <| jo_nil <| jc_litf rfl <| jc_skip ?_; refine zsr <| jo_l (ly_lda agg30 rfl rfl rfl rfl) (hd 10 rfl) <| jo_st (sy_store rfl rfl rfl siz30 rfl rfl (zlb rfl)) <| jo_nil <| jc_ret ?_
  refine ⟨_, _, (.cons (ResV.cell agg30 rfl rfl rfl rfl) .nil), (.a1 .b (.a1 .n .a0)), ?_⟩
  exact rfl

theorem mustS (s : ByteArray) : Spec Tryz.prog 65 [.s s, .i .i64 0] (fun o => o = .ret (.s s)) := by
  refine spec_of' [(0, .s s), (1, .i .i64 0)] rfl Tryz.func65 rfl (zlb rfl) fun Γ hN hds hL hR => ?_
  have hd := hdOf 11 hN
  refine zsr <| zas rfl (hd 4 rfl) <| jo_nil <| jc_seq <| zsr <| zmv rfl (hd 5 rfl) <| jo_l (ly_ff (ly_ne rfl rfl) (by decide)) (hd 6 rfl) <| jo_nil <| jc_litf rfl <| jc_skip <| jc_seq ?_; refine jc_region <| zmv rfl (hd 10 rfl) <| zas rfl (hd 4 rfl) <| jo_nil <| jc_ret ?_
  refine ⟨_, _, (.cons rfl .nil), .s, ?_⟩
  exact rfl

theorem mustR (s : Bool) (l d : List Int) : Spec Tryz.prog 43 [.a [.b s, .n false .u64 l, .n false .u64 d], .i .i64 0] (fun o => o = .ret (.a [.b s, .n false .u64 l, .n false .u64 d])) := by
  refine spec_of' [(0, .a [.b s, .n false .u64 l, .n false .u64 d]), (1, .i .i64 0)] rfl Tryz.func43 rfl (zlb rfl) fun Γ hN hds hL hR => ?_
  have hd := hdOf 11 hN
  refine zsr <| jo_h (hy_box (id := 0) (n := 3) rfl rfl rfl (by decide) rfl) (hd 2 rfl) <| jo_h (hy_alloc (id := 1) zero1027 (by decide) rfl (by decide) rfl) (hd 4 rfl) <| jo_nil <| jc_seq <| zsr <| zmv rfl (hd 5 rfl) <| jo_l (ly_ff (ly_ne rfl rfl) (by decide)) (hd 6 rfl) <| jo_nil <| jc_litf rfl <| jc_skip ?_; refine zsr <| jo_l (ly_lda agg1027 rfl rfl rfl rfl) (hd 10 rfl) <| jo_st (sy_store rfl rfl rfl siz1027 rfl rfl (zlb rfl)) <| jo_nil <| jc_ret ?_
  refine ⟨_, _, (.cons (ResV.cell agg1027 rfl rfl rfl rfl) .nil), (.a1 .b (.a1 .n (.a1 .n .a0))), ?_⟩
  exact rfl

section
variable {gv n : Nat} {rs : Nat → List Int}
theorem oz_ids : ObsId (n + 1) (rowsJ n (ozL0 gv n rs) (ozR rs) []) := by
  have h := rj_obs (n := n) (L := ozL0 gv n rs) (f := ozR rs) (J := []) (fun y hy => by
    obtain ⟨j, hj, rfl⟩ := List.mem_map.1 hy
    have := List.mem_range.1 hj
    simp [idB]; omega) fun j _ y hy => List.all_eq_true.1 ints_id y hy
  rwa [List.take_of_length_le (by rw [rj_len]; simp)] at h
theorem oz_fresh : freshless (rowsJ n (ozL0 gv n rs) (ozR rs) []) := by
  unfold rowsJ
  rw [List.append_nil]
  intro o ho hl y hy
  rcases List.mem_cons.1 ho with rfl | ho
  · obtain ⟨j, hj, rfl⟩ := List.mem_map.1 hy
    rfl
  · obtain ⟨j, hj, rfl⟩ := List.mem_map.1 ho
    exact List.all_eq_true.1 ints_noFr y hy
end

theorem own_3 (s1 : Bool) (l1 d1 : List Int) (hl1 : l1.length < 1099511627776) (hm1 : d1.length < 1099511627776) (s2 : Bool) (l2 d2 : List Int) (hl2 : l2.length < 1099511627776) (hm2 : d2.length < 1099511627776) (s3 : Bool) (l3 d3 : List Int) (hl3 : l3.length < 1099511627776) (hm3 : d3.length < 1099511627776) : SpecM Tryz.prog 18 [.o 0 0 0 3] ([⟨27, 3, 0, true, [.b s1, .o 1 0 0 l1.length, .o 2 0 0 d1.length, .b s2, .o 3 0 0 l2.length, .o 4 0 0 d2.length, .b s3, .o 5 0 0 l3.length, .o 6 0 0 d3.length]⟩, ⟨79, 1, 0, true, ints .u64 l1⟩, ⟨79, 1, 0, true, ints .u64 d1⟩, ⟨79, 1, 0, true, ints .u64 l2⟩, ⟨79, 1, 0, true, ints .u64 d2⟩, ⟨79, 1, 0, true, ints .u64 l3⟩, ⟨79, 1, 0, true, ints .u64 d3⟩]) (fun o _ => o = .ret (.b true)) := by
  refine specM_of [(0, .o 0 0 0 3)] rfl (7) rfl Tryz.func18 rfl (zlb rfl) fun Γ hN hds => ?_
  have hd := hdOf 23 hN
  refine zsr <| zas rfl (hd 2 rfl) <| jo_nil <| zsr <| zas rfl (hd 3 rfl) <| jo_nil <| jc_seq <| zsr <| zmv rfl (hd 6 rfl) <| jo_l (ly_leno sl1084 rfl rfl) (hd 7 rfl) ?_; refine zmv rfl (hd 8 rfl) <| jo_nil <| jc_block <| jc_rounds 4 <| jc_round (n := 3) <| zsr <| jo_l (ly_tt (ly_lt rfl rfl) (by decide)) (hd 9 rfl) <| jo_nil <| jc_seq <| jc_litt rfl <| jc_skip <| jc_seq ?_; refine jc_block <| zsr <| jo_l (ly_ia (i := 0) sl1084 rfl rfl rfl rfl (by decide) rfl) (hd 10 rfl) <| jo_l (ly_lda agg1027 rfl rfl rfl rfl) (hd 11 rfl) <| jo_h (hy_alloc (id := 7) zero1027 (by decide) rfl (by decide) rfl) (hd 5 rfl) <| jo_st (sy_store rfl rfl rfl siz1027 rfl rfl (zlb rfl)) <| jo_nil <| jc_region <| zmv rfl (hd 12 rfl) <| jo_l (ly_fa fld1027_0 rfl rfl rfl) (hd 13 rfl) <| jo_l (ly_fa fld30_1 rfl rfl rfl) (hd 14 rfl) <| jo_l (ly_ld one28 rfl rfl rfl) (hd 15 rfl) ?_; refine jo_l (ly_fa fld1027_1 rfl rfl rfl) (hd 16 rfl) <| jo_l (ly_ld one28 rfl rfl rfl) (hd 17 rfl) <| jo_h (hy_lit (id := 8) (xs := [.tmp 15, .tmp 17]) el81 rfl (ovL_cons rfl (ovL_cons rfl ovL_nil)) rfl (all2_of rfl) (by decide) rfl) (hd 18 rfl) <| jo_h (hy_app0 (id := 9) el81 rfl rfl (src_o rfl rfl rfl) (by decide) (by decide) rfl) (hd 19 rfl) <| zas rfl (hd 3 rfl) <| jo_nil <| jc_region <| jo_l (ly_add rfl rfl (r := 1) rfl) (hd 20 rfl) <| zmv rfl (hd 8 rfl) <| jo_nil <| jc_round (n := 2) <| jc_seq <| jc_H (H' := [⟨27, 3, 0, true, [.b s1, .o 1 0 0 l1.length, .o 2 0 0 d1.length, .b s2, .o 3 0 0 l2.length, .o 4 0 0 d2.length, .b s3, .o 5 0 0 l3.length, .o 6 0 0 d3.length]⟩, ⟨79, 1, 0, true, ints .u64 l1⟩, ⟨79, 1, 0, true, ints .u64 d1⟩, ⟨79, 1, 0, true, ints .u64 l2⟩, ⟨79, 1, 0, true, ints .u64 d2⟩, ⟨79, 1, 0, true, ints .u64 l3⟩, ⟨79, 1, 0, true, ints .u64 d3⟩, ⟨27, 3, 0, true, [.b s1, .o 1 0 0 l1.length, .o 2 0 0 d1.length]⟩, ⟨22, 1, 0, true, [.o 1 0 0 l1.length, .o 2 0 0 d1.length]⟩, ⟨22, 1, 0, true, [.o 1 0 0 l1.length, .o 2 0 0 d1.length]⟩]) rfl ?_; refine jc_region <| jo_l (ly_tt (ly_lt rfl rfl) (by decide)) (hd 9 rfl) <| jo_nil <| jc_seq <| jc_litt rfl <| jc_skip <| jc_seq <| jc_block <| zsr <| jo_l (ly_ia (i := 1) sl1084 rfl rfl rfl rfl (by decide) rfl) (hd 10 rfl) <| jo_l (ly_lda agg1027 rfl rfl rfl rfl) (hd 11 rfl) <| jo_h (hy_alloc (id := 10) zero1027 (by decide) rfl (by decide) rfl) (hd 5 rfl) ?_; refine jo_st (sy_store rfl rfl rfl siz1027 rfl rfl (zlb rfl)) <| jo_nil <| jc_region <| zmv rfl (hd 12 rfl) <| jo_l (ly_fa fld1027_0 rfl rfl rfl) (hd 13 rfl) <| jo_l (ly_fa fld30_1 rfl rfl rfl) (hd 14 rfl) <| jo_l (ly_ld one28 rfl rfl rfl) (hd 15 rfl) <| jo_l (ly_fa fld1027_1 rfl rfl rfl) (hd 16 rfl) <| jo_l (ly_ld one28 rfl rfl rfl) (hd 17 rfl) <| jo_h (hy_lit (id := 11) (xs := [.tmp 15, .tmp 17]) el81 rfl (ovL_cons rfl (ovL_cons rfl ovL_nil)) rfl (all2_of rfl) (by decide) rfl) (hd 18 rfl) <| jo_app el81 rfl rfl rfl rfl (src_o rfl rfl rfl) (by decide) (by decide) (hd 19 rfl) <| zas rfl (hd 3 rfl) <| jo_nil ?_; refine jc_region <| jo_l (ly_add rfl rfl (r := 2) rfl) (hd 20 rfl) <| zmv rfl (hd 8 rfl) <| jo_nil <| jc_round (n := 1) <| jc_seq <| jc_H (H' := [⟨27, 3, 0, true, [.b s1, .o 1 0 0 l1.length, .o 2 0 0 d1.length, .b s2, .o 3 0 0 l2.length, .o 4 0 0 d2.length, .b s3, .o 5 0 0 l3.length, .o 6 0 0 d3.length]⟩, ⟨79, 1, 0, true, ints .u64 l1⟩, ⟨79, 1, 0, true, ints .u64 d1⟩, ⟨79, 1, 0, true, ints .u64 l2⟩, ⟨79, 1, 0, true, ints .u64 d2⟩, ⟨79, 1, 0, true, ints .u64 l3⟩, ⟨79, 1, 0, true, ints .u64 d3⟩, ⟨27, 3, 0, true, [.b s1, .o 1 0 0 l1.length, .o 2 0 0 d1.length]⟩, ⟨22, 1, 0, true, [.o 1 0 0 l1.length, .o 2 0 0 d1.length]⟩, ⟨22, 1, 1, true, [.o 1 0 0 l1.length, .o 2 0 0 d1.length, .o 3 0 0 l2.length, .o 4 0 0 d2.length]⟩, ⟨27, 3, 0, true, [.b s2, .o 3 0 0 l2.length, .o 4 0 0 d2.length]⟩, ⟨22, 1, 0, true, [.o 3 0 0 l2.length, .o 4 0 0 d2.length]⟩]) rfl ?_
  refine jc_region <| jo_l (ly_tt (ly_lt rfl rfl) (by decide)) (hd 9 rfl) <| jo_nil <| jc_seq <| jc_litt rfl <| jc_skip <| jc_seq <| jc_block <| zsr <| jo_l (ly_ia (i := 2) sl1084 rfl rfl rfl rfl (by decide) rfl) (hd 10 rfl) <| jo_l (ly_lda agg1027 rfl rfl rfl rfl) (hd 11 rfl) <| jo_h (hy_alloc (id := 12) zero1027 (by decide) rfl (by decide) rfl) (hd 5 rfl) ?_; refine jo_st (sy_store rfl rfl rfl siz1027 rfl rfl (zlb rfl)) <| jo_nil <| jc_region <| zmv rfl (hd 12 rfl) <| jo_l (ly_fa fld1027_0 rfl rfl rfl) (hd 13 rfl) <| jo_l (ly_fa fld30_1 rfl rfl rfl) (hd 14 rfl) <| jo_l (ly_ld one28 rfl rfl rfl) (hd 15 rfl) <| jo_l (ly_fa fld1027_1 rfl rfl rfl) (hd 16 rfl) <| jo_l (ly_ld one28 rfl rfl rfl) (hd 17 rfl) <| jo_h (hy_lit (id := 13) (xs := [.tmp 15, .tmp 17]) el81 rfl (ovL_cons rfl (ovL_cons rfl ovL_nil)) rfl (all2_of rfl) (by decide) rfl) (hd 18 rfl) <| jo_app el81 rfl rfl rfl rfl (src_o rfl rfl rfl) (by decide) (by decide) (hd 19 rfl) <| zas rfl (hd 3 rfl) <| jo_nil ?_; refine jc_region <| jo_l (ly_add rfl rfl (r := 3) rfl) (hd 20 rfl) <| zmv rfl (hd 8 rfl) <| jo_nil <| jc_round (n := 0) <| jc_seq <| jc_H (H' := [⟨27, 3, 0, true, [.b s1, .o 1 0 0 l1.length, .o 2 0 0 d1.length, .b s2, .o 3 0 0 l2.length, .o 4 0 0 d2.length, .b s3, .o 5 0 0 l3.length, .o 6 0 0 d3.length]⟩, ⟨79, 1, 0, true, ints .u64 l1⟩, ⟨79, 1, 0, true, ints .u64 d1⟩, ⟨79, 1, 0, true, ints .u64 l2⟩, ⟨79, 1, 0, true, ints .u64 d2⟩, ⟨79, 1, 0, true, ints .u64 l3⟩, ⟨79, 1, 0, true, ints .u64 d3⟩, ⟨27, 3, 0, true, [.b s1, .o 1 0 0 l1.length, .o 2 0 0 d1.length]⟩, ⟨22, 1, 0, true, [.o 1 0 0 l1.length, .o 2 0 0 d1.length]⟩, ⟨22, 1, 2, true, [.o 1 0 0 l1.length, .o 2 0 0 d1.length, .o 3 0 0 l2.length, .o 4 0 0 d2.length, .o 5 0 0 l3.length, .o 6 0 0 d3.length]⟩, ⟨27, 3, 0, true, [.b s2, .o 3 0 0 l2.length, .o 4 0 0 d2.length]⟩, ⟨22, 1, 0, true, [.o 3 0 0 l2.length, .o 4 0 0 d2.length]⟩, ⟨27, 3, 0, true, [.b s3, .o 5 0 0 l3.length, .o 6 0 0 d3.length]⟩, ⟨22, 1, 0, true, [.o 5 0 0 l3.length, .o 6 0 0 d3.length]⟩]) rfl <| jc_region <| jo_l (ly_ff (ly_lt rfl rfl) (by decide)) (hd 9 rfl) <| jo_nil <| jc_seq <| jc_litf rfl <| jc_exit ?_; refine jc_seq <| jc_H (H' := [⟨27, 3, 0, true, [.b s1, .o 1 0 0 l1.length, .o 2 0 0 d1.length, .b s2, .o 3 0 0 l2.length, .o 4 0 0 d2.length, .b s3, .o 5 0 0 l3.length, .o 6 0 0 d3.length]⟩, ⟨79, 1, 0, true, ints .u64 l1⟩, ⟨79, 1, 0, true, ints .u64 d1⟩, ⟨79, 1, 0, true, ints .u64 l2⟩, ⟨79, 1, 0, true, ints .u64 d2⟩, ⟨79, 1, 0, true, ints .u64 l3⟩, ⟨79, 1, 0, true, ints .u64 d3⟩, ⟨27, 3, 0, true, [.b s1, .o 1 0 0 l1.length, .o 2 0 0 d1.length]⟩, ⟨22, 1, 0, true, [.o 1 0 0 l1.length, .o 2 0 0 d1.length]⟩, ⟨22, 1, 2, true, [.o 1 0 0 l1.length, .o 2 0 0 d1.length, .o 3 0 0 l2.length, .o 4 0 0 d2.length, .o 5 0 0 l3.length, .o 6 0 0 d3.length]⟩, ⟨27, 3, 0, true, [.b s2, .o 3 0 0 l2.length, .o 4 0 0 d2.length]⟩, ⟨22, 1, 0, true, [.o 3 0 0 l2.length, .o 4 0 0 d2.length]⟩, ⟨27, 3, 0, true, [.b s3, .o 5 0 0 l3.length, .o 6 0 0 d3.length]⟩, ⟨22, 1, 0, true, [.o 5 0 0 l3.length, .o 6 0 0 d3.length]⟩]) rfl <| jc_region <| zmv rfl (hd 21 rfl) ?_
  refine jo_callG Tryz.f62 (sel := [9, 1, 2, 3, 4, 5, 6]) (OwnV_s 2 6 (by decide) (rsOf [l1, d1, l2, d2, l3, d3]) (fun j _ => rsOf_len (by simp <;> omega) (by decide) j)) rfl Tryz.func62 rfl rfl (ovL_cons rfl ovL_nil) rfl rfl (.cons rfl rfl (.cons rfl (renL_ints _ _ _) (.cons rfl (renL_ints _ _ _) (.cons rfl (renL_ints _ _ _) (.cons rfl (renL_ints _ _ _) (.cons rfl (renL_ints _ _ _) (.cons rfl (renL_ints _ _ _) .nil))))))) (by decide) oz_ids oz_fresh (fun y G h => by cases h; rfl) (hd 22 rfl) ?_ (fun ch G hp => by cases hp)
  rintro y G hy; injection hy with hy; subst hy; refine zas rfl (hd 2 rfl) <| jo_nil <| jc_ret ?_
  refine ⟨_, (.cons rfl .nil), rfl, (.cons rfl (.cons rfl (.cons rfl (.cons rfl (.cons rfl (.cons rfl (.cons rfl .nil))))))), ?_⟩
  exact rfl

theorem own_4 (s1 : Bool) (l1 d1 : List Int) (hl1 : l1.length < 1099511627776) (hm1 : d1.length < 1099511627776) (s2 : Bool) (l2 d2 : List Int) (hl2 : l2.length < 1099511627776) (hm2 : d2.length < 1099511627776) (s3 : Bool) (l3 d3 : List Int) (hl3 : l3.length < 1099511627776) (hm3 : d3.length < 1099511627776) (s4 : Bool) (l4 d4 : List Int) (hl4 : l4.length < 1099511627776) (hm4 : d4.length < 1099511627776) : SpecM Tryz.prog 18 [.o 0 0 0 4] ([⟨27, 3, 0, true, [.b s1, .o 1 0 0 l1.length, .o 2 0 0 d1.length, .b s2, .o 3 0 0 l2.length, .o 4 0 0 d2.length, .b s3, .o 5 0 0 l3.length, .o 6 0 0 d3.length, .b s4, .o 7 0 0 l4.length, .o 8 0 0 d4.length]⟩, ⟨79, 1, 0, true, ints .u64 l1⟩, ⟨79, 1, 0, true, ints .u64 d1⟩, ⟨79, 1, 0, true, ints .u64 l2⟩, ⟨79, 1, 0, true, ints .u64 d2⟩, ⟨79, 1, 0, true, ints .u64 l3⟩, ⟨79, 1, 0, true, ints .u64 d3⟩, ⟨79, 1, 0, true, ints .u64 l4⟩, ⟨79, 1, 0, true, ints .u64 d4⟩]) (fun o _ => o = .ret (.b true)) := by
  refine specM_of [(0, .o 0 0 0 4)] rfl (9) rfl Tryz.func18 rfl (zlb rfl) fun Γ hN hds => ?_
  have hd := hdOf 23 hN
  refine zsr <| zas rfl (hd 2 rfl) <| jo_nil <| zsr <| zas rfl (hd 3 rfl) <| jo_nil <| jc_seq <| zsr <| zmv rfl (hd 6 rfl) <| jo_l (ly_leno sl1084 rfl rfl) (hd 7 rfl) ?_; refine zmv rfl (hd 8 rfl) <| jo_nil <| jc_block <| jc_rounds 5 <| jc_round (n := 4) <| zsr <| jo_l (ly_tt (ly_lt rfl rfl) (by decide)) (hd 9 rfl) <| jo_nil <| jc_seq <| jc_litt rfl <| jc_skip <| jc_seq ?_; refine jc_block <| zsr <| jo_l (ly_ia (i := 0) sl1084 rfl rfl rfl rfl (by decide) rfl) (hd 10 rfl) <| jo_l (ly_lda agg1027 rfl rfl rfl rfl) (hd 11 rfl) <| jo_h (hy_alloc (id := 9) zero1027 (by decide) rfl (by decide) rfl) (hd 5 rfl) <| jo_st (sy_store rfl rfl rfl siz1027 rfl rfl (zlb rfl)) <| jo_nil <| jc_region <| zmv rfl (hd 12 rfl) <| jo_l (ly_fa fld1027_0 rfl rfl rfl) (hd 13 rfl) <| jo_l (ly_fa fld30_1 rfl rfl rfl) (hd 14 rfl) <| jo_l (ly_ld one28 rfl rfl rfl) (hd 15 rfl) ?_; refine jo_l (ly_fa fld1027_1 rfl rfl rfl) (hd 16 rfl) <| jo_l (ly_ld one28 rfl rfl rfl) (hd 17 rfl) <| jo_h (hy_lit (id := 10) (xs := [.tmp 15, .tmp 17]) el81 rfl (ovL_cons rfl (ovL_cons rfl ovL_nil)) rfl (all2_of rfl) (by decide) rfl) (hd 18 rfl) <| jo_h (hy_app0 (id := 11) el81 rfl rfl (src_o rfl rfl rfl) (by decide) (by decide) rfl) (hd 19 rfl) <| zas rfl (hd 3 rfl) <| jo_nil <| jc_region <| jo_l (ly_add rfl rfl (r := 1) rfl) (hd 20 rfl) <| zmv rfl (hd 8 rfl) <| jo_nil <| jc_round (n := 3) <| jc_seq <| jc_H (H' := [⟨27, 3, 0, true, [.b s1, .o 1 0 0 l1.length, .o 2 0 0 d1.length, .b s2, .o 3 0 0 l2.length, .o 4 0 0 d2.length, .b s3, .o 5 0 0 l3.length, .o 6 0 0 d3.length, .b s4, .o 7 0 0 l4.length, .o 8 0 0 d4.length]⟩, ⟨79, 1, 0, true, ints .u64 l1⟩, ⟨79, 1, 0, true, ints .u64 d1⟩, ⟨79, 1, 0, true, ints .u64 l2⟩, ⟨79, 1, 0, true, ints .u64 d2⟩, ⟨79, 1, 0, true, ints .u64 l3⟩, ⟨79, 1, 0, true, ints .u64 d3⟩, ⟨79, 1, 0, true, ints .u64 l4⟩, ⟨79, 1, 0, true, ints .u64 d4⟩, ⟨27, 3, 0, true, [.b s1, .o 1 0 0 l1.length, .o 2 0 0 d1.length]⟩, ⟨22, 1, 0, true, [.o 1 0 0 l1.length, .o 2 0 0 d1.length]⟩, ⟨22, 1, 0, true, [.o 1 0 0 l1.length, .o 2 0 0 d1.length]⟩]) rfl ?_; refine jc_region <| jo_l (ly_tt (ly_lt rfl rfl) (by decide)) (hd 9 rfl) <| jo_nil <| jc_seq <| jc_litt rfl <| jc_skip <| jc_seq <| jc_block <| zsr <| jo_l (ly_ia (i := 1) sl1084 rfl rfl rfl rfl (by decide) rfl) (hd 10 rfl) <| jo_l (ly_lda agg1027 rfl rfl rfl rfl) (hd 11 rfl) <| jo_h (hy_alloc (id := 12) zero1027 (by decide) rfl (by decide) rfl) (hd 5 rfl) ?_; refine jo_st (sy_store rfl rfl rfl siz1027 rfl rfl (zlb rfl)) <| jo_nil <| jc_region <| zmv rfl (hd 12 rfl) <| jo_l (ly_fa fld1027_0 rfl rfl rfl) (hd 13 rfl) <| jo_l (ly_fa fld30_1 rfl rfl rfl) (hd 14 rfl) <| jo_l (ly_ld one28 rfl rfl rfl) (hd 15 rfl) <| jo_l (ly_fa fld1027_1 rfl rfl rfl) (hd 16 rfl) <| jo_l (ly_ld one28 rfl rfl rfl) (hd 17 rfl) <| jo_h (hy_lit (id := 13) (xs := [.tmp 15, .tmp 17]) el81 rfl (ovL_cons rfl (ovL_cons rfl ovL_nil)) rfl (all2_of rfl) (by decide) rfl) (hd 18 rfl) <| jo_app el81 rfl rfl rfl rfl (src_o rfl rfl rfl) (by decide) (by decide) (hd 19 rfl) <| zas rfl (hd 3 rfl) <| jo_nil ?_; refine jc_region <| jo_l (ly_add rfl rfl (r := 2) rfl) (hd 20 rfl) <| zmv rfl (hd 8 rfl) <| jo_nil <| jc_round (n := 2) <| jc_seq <| jc_H (H' := [⟨27, 3, 0, true, [.b s1, .o 1 0 0 l1.length, .o 2 0 0 d1.length, .b s2, .o 3 0 0 l2.length, .o 4 0 0 d2.length, .b s3, .o 5 0 0 l3.length, .o 6 0 0 d3.length, .b s4, .o 7 0 0 l4.length, .o 8 0 0 d4.length]⟩, ⟨79, 1, 0, true, ints .u64 l1⟩, ⟨79, 1, 0, true, ints .u64 d1⟩, ⟨79, 1, 0, true, ints .u64 l2⟩, ⟨79, 1, 0, true, ints .u64 d2⟩, ⟨79, 1, 0, true, ints .u64 l3⟩, ⟨79, 1, 0, true, ints .u64 d3⟩, ⟨79, 1, 0, true, ints .u64 l4⟩, ⟨79, 1, 0, true, ints .u64 d4⟩, ⟨27, 3, 0, true, [.b s1, .o 1 0 0 l1.length, .o 2 0 0 d1.length]⟩, ⟨22, 1, 0, true, [.o 1 0 0 l1.length, .o 2 0 0 d1.length]⟩, ⟨22, 1, 1, true, [.o 1 0 0 l1.length, .o 2 0 0 d1.length, .o 3 0 0 l2.length, .o 4 0 0 d2.length]⟩, ⟨27, 3, 0, true, [.b s2, .o 3 0 0 l2.length, .o 4 0 0 d2.length]⟩, ⟨22, 1, 0, true, [.o 3 0 0 l2.length, .o 4 0 0 d2.length]⟩]) rfl ?_
  refine jc_region <| jo_l (ly_tt (ly_lt rfl rfl) (by decide)) (hd 9 rfl) <| jo_nil <| jc_seq <| jc_litt rfl <| jc_skip <| jc_seq <| jc_block <| zsr <| jo_l (ly_ia (i := 2) sl1084 rfl rfl rfl rfl (by decide) rfl) (hd 10 rfl) <| jo_l (ly_lda agg1027 rfl rfl rfl rfl) (hd 11 rfl) <| jo_h (hy_alloc (id := 14) zero1027 (by decide) rfl (by decide) rfl) (hd 5 rfl) ?_; refine jo_st (sy_store rfl rfl rfl siz1027 rfl rfl (zlb rfl)) <| jo_nil <| jc_region <| zmv rfl (hd 12 rfl) <| jo_l (ly_fa fld1027_0 rfl rfl rfl) (hd 13 rfl) <| jo_l (ly_fa fld30_1 rfl rfl rfl) (hd 14 rfl) <| jo_l (ly_ld one28 rfl rfl rfl) (hd 15 rfl) <| jo_l (ly_fa fld1027_1 rfl rfl rfl) (hd 16 rfl) <| jo_l (ly_ld one28 rfl rfl rfl) (hd 17 rfl) <| jo_h (hy_lit (id := 15) (xs := [.tmp 15, .tmp 17]) el81 rfl (ovL_cons rfl (ovL_cons rfl ovL_nil)) rfl (all2_of rfl) (by decide) rfl) (hd 18 rfl) <| jo_app el81 rfl rfl rfl rfl (src_o rfl rfl rfl) (by decide) (by decide) (hd 19 rfl) <| zas rfl (hd 3 rfl) <| jo_nil ?_; refine jc_region <| jo_l (ly_add rfl rfl (r := 3) rfl) (hd 20 rfl) <| zmv rfl (hd 8 rfl) <| jo_nil <| jc_round (n := 1) <| jc_seq <| jc_H (H' := [⟨27, 3, 0, true, [.b s1, .o 1 0 0 l1.length, .o 2 0 0 d1.length, .b s2, .o 3 0 0 l2.length, .o 4 0 0 d2.length, .b s3, .o 5 0 0 l3.length, .o 6 0 0 d3.length, .b s4, .o 7 0 0 l4.length, .o 8 0 0 d4.length]⟩, ⟨79, 1, 0, true, ints .u64 l1⟩, ⟨79, 1, 0, true, ints .u64 d1⟩, ⟨79, 1, 0, true, ints .u64 l2⟩, ⟨79, 1, 0, true, ints .u64 d2⟩, ⟨79, 1, 0, true, ints .u64 l3⟩, ⟨79, 1, 0, true, ints .u64 d3⟩, ⟨79, 1, 0, true, ints .u64 l4⟩, ⟨79, 1, 0, true, ints .u64 d4⟩, ⟨27, 3, 0, true, [.b s1, .o 1 0 0 l1.length, .o 2 0 0 d1.length]⟩, ⟨22, 1, 0, true, [.o 1 0 0 l1.length, .o 2 0 0 d1.length]⟩, ⟨22, 1, 2, true, [.o 1 0 0 l1.length, .o 2 0 0 d1.length, .o 3 0 0 l2.length, .o 4 0 0 d2.length, .o 5 0 0 l3.length, .o 6 0 0 d3.length]⟩, ⟨27, 3, 0, true, [.b s2, .o 3 0 0 l2.length, .o 4 0 0 d2.length]⟩, ⟨22, 1, 0, true, [.o 3 0 0 l2.length, .o 4 0 0 d2.length]⟩, ⟨27, 3, 0, true, [.b s3, .o 5 0 0 l3.length, .o 6 0 0 d3.length]⟩, ⟨22, 1, 0, true, [.o 5 0 0 l3.length, .o 6 0 0 d3.length]⟩]) rfl <| jc_region <| jo_l (ly_tt (ly_lt rfl rfl) (by decide)) (hd 9 rfl) <| jo_nil <| jc_seq <| jc_litt rfl <| jc_skip ?_; refine jc_seq <| jc_block <| zsr <| jo_l (ly_ia (i := 3) sl1084 rfl rfl rfl rfl (by decide) rfl) (hd 10 rfl) <| jo_l (ly_lda agg1027 rfl rfl rfl rfl) (hd 11 rfl) <| jo_h (hy_alloc (id := 16) zero1027 (by decide) rfl (by decide) rfl) (hd 5 rfl) <| jo_st (sy_store rfl rfl rfl siz1027 rfl rfl (zlb rfl)) <| jo_nil <| jc_region <| zmv rfl (hd 12 rfl) <| jo_l (ly_fa fld1027_0 rfl rfl rfl) (hd 13 rfl) <| jo_l (ly_fa fld30_1 rfl rfl rfl) (hd 14 rfl) ?_; refine jo_l (ly_ld one28 rfl rfl rfl) (hd 15 rfl) <| jo_l (ly_fa fld1027_1 rfl rfl rfl) (hd 16 rfl) <| jo_l (ly_ld one28 rfl rfl rfl) (hd 17 rfl) <| jo_h (hy_lit (id := 17) (xs := [.tmp 15, .tmp 17]) el81 rfl (ovL_cons rfl (ovL_cons rfl ovL_nil)) rfl (all2_of rfl) (by decide) rfl) (hd 18 rfl) <| jo_app el81 rfl rfl rfl rfl (src_o rfl rfl rfl) (by decide) (by decide) (hd 19 rfl) <| zas rfl (hd 3 rfl) <| jo_nil <| jc_region <| jo_l (ly_add rfl rfl (r := 4) rfl) (hd 20 rfl) <| zmv rfl (hd 8 rfl) <| jo_nil <| jc_round (n := 0) <| jc_seq ?_; refine jc_H (H' := [⟨27, 3, 0, true, [.b s1, .o 1 0 0 l1.length, .o 2 0 0 d1.length, .b s2, .o 3 0 0 l2.length, .o 4 0 0 d2.length, .b s3, .o 5 0 0 l3.length, .o 6 0 0 d3.length, .b s4, .o 7 0 0 l4.length, .o 8 0 0 d4.length]⟩, ⟨79, 1, 0, true, ints .u64 l1⟩, ⟨79, 1, 0, true, ints .u64 d1⟩, ⟨79, 1, 0, true, ints .u64 l2⟩, ⟨79, 1, 0, true, ints .u64 d2⟩, ⟨79, 1, 0, true, ints .u64 l3⟩, ⟨79, 1, 0, true, ints .u64 d3⟩, ⟨79, 1, 0, true, ints .u64 l4⟩, ⟨79, 1, 0, true, ints .u64 d4⟩, ⟨27, 3, 0, true, [.b s1, .o 1 0 0 l1.length, .o 2 0 0 d1.length]⟩, ⟨22, 1, 0, true, [.o 1 0 0 l1.length, .o 2 0 0 d1.length]⟩, ⟨22, 1, 3, true, [.o 1 0 0 l1.length, .o 2 0 0 d1.length, .o 3 0 0 l2.length, .o 4 0 0 d2.length, .o 5 0 0 l3.length, .o 6 0 0 d3.length, .o 7 0 0 l4.length, .o 8 0 0 d4.length]⟩, ⟨27, 3, 0, true, [.b s2, .o 3 0 0 l2.length, .o 4 0 0 d2.length]⟩, ⟨22, 1, 0, true, [.o 3 0 0 l2.length, .o 4 0 0 d2.length]⟩, ⟨27, 3, 0, true, [.b s3, .o 5 0 0 l3.length, .o 6 0 0 d3.length]⟩, ⟨22, 1, 0, true, [.o 5 0 0 l3.length, .o 6 0 0 d3.length]⟩, ⟨27, 3, 0, true, [.b s4, .o 7 0 0 l4.length, .o 8 0 0 d4.length]⟩, ⟨22, 1, 0, true, [.o 7 0 0 l4.length, .o 8 0 0 d4.length]⟩]) rfl ?_
  refine jc_region <| jo_l (ly_ff (ly_lt rfl rfl) (by decide)) (hd 9 rfl) <| jo_nil <| jc_seq <| jc_litf rfl <| jc_exit <| jc_seq <| jc_H (H' := [⟨27, 3, 0, true, [.b s1, .o 1 0 0 l1.length, .o 2 0 0 d1.length, .b s2, .o 3 0 0 l2.length, .o 4 0 0 d2.length, .b s3, .o 5 0 0 l3.length, .o 6 0 0 d3.length, .b s4, .o 7 0 0 l4.length, .o 8 0 0 d4.length]⟩, ⟨79, 1, 0, true, ints .u64 l1⟩, ⟨79, 1, 0, true, ints .u64 d1⟩, ⟨79, 1, 0, true, ints .u64 l2⟩, ⟨79, 1, 0, true, ints .u64 d2⟩, ⟨79, 1, 0, true, ints .u64 l3⟩, ⟨79, 1, 0, true, ints .u64 d3⟩, ⟨79, 1, 0, true, ints .u64 l4⟩, ⟨79, 1, 0, true, ints .u64 d4⟩, ⟨27, 3, 0, true, [.b s1, .o 1 0 0 l1.length, .o 2 0 0 d1.length]⟩, ⟨22, 1, 0, true, [.o 1 0 0 l1.length, .o 2 0 0 d1.length]⟩, ⟨22, 1, 3, true, [.o 1 0 0 l1.length, .o 2 0 0 d1.length, .o 3 0 0 l2.length, .o 4 0 0 d2.length, .o 5 0 0 l3.length, .o 6 0 0 d3.length, .o 7 0 0 l4.length, .o 8 0 0 d4.length]⟩, ⟨27, 3, 0, true, [.b s2, .o 3 0 0 l2.length, .o 4 0 0 d2.length]⟩, ⟨22, 1, 0, true, [.o 3 0 0 l2.length, .o 4 0 0 d2.length]⟩, ⟨27, 3, 0, true, [.b s3, .o 5 0 0 l3.length, .o 6 0 0 d3.length]⟩, ⟨22, 1, 0, true, [.o 5 0 0 l3.length, .o 6 0 0 d3.length]⟩, ⟨27, 3, 0, true, [.b s4, .o 7 0 0 l4.length, .o 8 0 0 d4.length]⟩, ⟨22, 1, 0, true, [.o 7 0 0 l4.length, .o 8 0 0 d4.length]⟩]) rfl <| jc_region <| zmv rfl (hd 21 rfl) ?_
  refine jo_callG Tryz.f62 (sel := [11, 1, 2, 3, 4, 5, 6, 7, 8]) (OwnV_s 3 8 (by decide) (rsOf [l1, d1, l2, d2, l3, d3, l4, d4]) (fun j _ => rsOf_len (by simp <;> omega) (by decide) j)) rfl Tryz.func62 rfl rfl (ovL_cons rfl ovL_nil) rfl rfl (.cons rfl rfl (.cons rfl (renL_ints _ _ _) (.cons rfl (renL_ints _ _ _) (.cons rfl (renL_ints _ _ _) (.cons rfl (renL_ints _ _ _) (.cons rfl (renL_ints _ _ _) (.cons rfl (renL_ints _ _ _) (.cons rfl (renL_ints _ _ _) (.cons rfl (renL_ints _ _ _) .nil))))))))) (by decide) oz_ids oz_fresh (fun y G h => by cases h; rfl) (hd 22 rfl) ?_ (fun ch G hp => by cases hp)
  rintro y G hy; injection hy with hy; subst hy; refine zas rfl (hd 2 rfl) <| jo_nil <| jc_ret ?_
  refine ⟨_, (.cons rfl .nil), rfl, (.cons rfl (.cons rfl (.cons rfl (.cons rfl (.cons rfl (.cons rfl (.cons rfl (.cons rfl (.cons rfl .nil))))))))), ?_⟩
  exact rfl

theorem Rw.mk' {l : List Int} (hu : u64s l) (hl : l.length ≤ 1048576) : Rw l (vl l).toNat := ⟨hu, (Int.toNat_of_nonneg (vl_nonneg hu)).symm, hl⟩
set_option maxRecDepth 100000 in
theorem openQ {H : Type} {enc : TypeId × Value → H} {w : World} {sp : Nat → Bool} {held : Bool} {r : Reach} {b0 : Nat} {v : Value} {d : DataW H} {ps : List MemPlace} (hval : Value.okWide Tryz.prog w r b0 27 v) (hd : DataW.Trod enc Tryz.prog w 0 sp held 27 v d ps) :
    ∃ (s : Bool) (l e : List Int), Rel w (fun _ => False) w.heap.size [] (.a [.b s, .n false .u64 l, .n false .u64 e]) v ∧ l.length + e.length + 3 ≤ Rows.uptoBulk d ∧ u64s l ∧ u64s e := by
  obtain ⟨cs, rfl, hsz⟩ := Go.WideShapes.okWide_struct Tryz.underlying27 hval
  obtain ⟨fuel, hd⟩ := hd
  have hcl : (Value.agg cs).cells.toList = cs.toList := rfl
  rw [hcl] at hd
  obtain ⟨y0, y1, n, hx, hl, h0, h1⟩ := Go.ChangeShapes.trod_struct2 Tryz.underlying27 hd
  injection hx with hx _; subst hx
  have hl' : cs.toList.length = 3 := hl
  obtain ⟨c0, c1, c2, hcs⟩ : ∃ c0 c1 c2, cs.toList = [c0, c1, c2] := by
    match hm : cs.toList, hl' with
    | [a, b, c], _ => exact ⟨a, b, c, rfl⟩
  rw [hcs] at h0 h1
  have h0' : DataW.trod enc Tryz.prog w 0 sp held n 25 [c0, c1] = some y0 := h0
  obtain ⟨u0, u1, m, hy, hl2, g0, g1⟩ := Go.ChangeShapes.trod_struct2 Tryz.underlying25 h0'
  subst hy
  obtain ⟨s, e0, hy0⟩ := DataW.trod_bool Tryz.underlying4 g0
  have e0' : [c0] = [Value.bool s] := e0
  injection e0' with e0'; subst e0'; subst hy0
  have g1' : DataW.trod enc Tryz.prog w 0 sp held m 23 [c1] = some u1 := g1
  obtain ⟨l, k1, k2, k3⟩ := open_numsV Tryz.underlying23 Tryz.underlying79 (show Tryz.prog.cellsOf 79 = 1 by kernel_rfl) g1'
  have h1' : DataW.trod enc Tryz.prog w 0 sp held n 23 [c2] = some y1 := h1
  obtain ⟨e, k4, k5, k6⟩ := open_numsV Tryz.underlying23 Tryz.underlying79 (show Tryz.prog.cellsOf 79 = 1 by kernel_rfl) h1'
  refine ⟨s, l, e, ⟨cs.toList, by simp, ?_⟩, ?_, fun y hy => wf_u64 (k3 y hy), fun y hy => wf_u64 (k6 y hy)⟩
  · rw [hcs]; exact ⟨_, _, rfl, rfl, _, _, rfl, k1, _, _, rfl, k4, rfl⟩
  · simp only [Rows.uptoBulk, Rows.uptoBulkAll]; omega
theorem short2q {H : Type} {d0 d1 : DataW H} {rest : List (DataW H)} {l0 e0 l1 e1 : List Int} (hk : Rows.uptoSmall H (d0 :: d1 :: rest) = true) (h0 : l0.length + e0.length + 3 ≤ Rows.uptoBulk d0) (h1 : l1.length + e1.length + 3 ≤ Rows.uptoBulk d1) : l0.length + e0.length + l1.length + e1.length ≤ 1048570 := by
  have h : Rows.uptoBulkAll (d0 :: d1 :: rest) ≤ 1048576 := of_decide_eq_true hk
  simp only [Rows.uptoBulkAll] at h
  omega
end Go.Proofs.YtpldmajdiljoaaaGreat.Vc
