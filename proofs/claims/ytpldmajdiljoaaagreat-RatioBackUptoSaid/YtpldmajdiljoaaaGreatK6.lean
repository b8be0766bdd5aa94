/- surdlaw07.RatioBack answers true for every rational of bulk at most 1048576, and leaves its input as it was: Parse undoes Print, Unchain undoes Chain Texts joined: Yi, Yj, Yk, Yl, Ym, Yo, Yp, Yq, Yr, Yz, Pa, Pb, Pc, Pd, Pe, Pf, Pg, Ph, Pi, Pj, Pk, Pl, Pm, Pn, Po, Pp, Pq, Pr, Pt, Pv, Pw, Px, Py, Pz, Qd. -/
import Derived.Test.YtpldmajdiljoaaaGreatK5
set_option linter.unusedVariables false
set_option linter.unusedSimpArgs false
set_option maxHeartbeats 4000000
namespace Go.Proofs.YtpldmajdiljoaaaGreat.Vc
open Go Go.RowKit
set_option maxRecDepth 100000 in
theorem guess_s (U u v Q : List Int) (j n : Nat) (hU : j + (n + 3) ≤ U.length) (hUl : U.length < 4398046511104) (uU : u64s U) (hu : slJ U j (n + 3) = u) (hP : GuP u v n) : SpecM Tryz.prog 108 [.o 0 0 j (n + 3), .n false .u64 v] ([⟨79, 1, 0, true, ints .u64 U⟩, ⟨79, 1, 0, true, ints .u64 Q⟩]) (fun o H' => o = .ret (.i .u64 (vl u / vl v)) ∧ ∃ r, H' = [⟨79, 1, 0, true, ints .u64 (rwJ U j r)⟩, ⟨79, 1, 0, true, ints .u64 Q⟩] ∧ r.length = n + 3 ∧ u64s r ∧ vl r = vl u % vl v) := by
  refine specM_of [(0, .o 0 0 j (n + 3)), (1, .n false .u64 v)] rfl (2) rfl Tryz.func108 rfl (zlb rfl) fun Γ hN hds => ?_
  have hd := hdOf 195 hN
  have hlu := hP.lu
  have hlv := hP.lv
  have hv0 := hP.pos
  have hQ1 := hP.q_lt
  have hQ0 := hP.q_nn
  have hx0 := u64s_getD hP.uu n
  have hx1 := u64s_getD hP.uu (n + 1)
  have hx2 := u64s_getD hP.uu (n + 2)
  have hy0 := u64s_getD hP.uv n
  have hy1 := u64s_getD hP.uv (n + 1)
  have hat2 : ∀ k, k < n + 3 → U.getD (j + k) 0 = u.getD k 0 := fun k hk => by rw [← hu, slJ_at hk]
  have hat : ∀ k, k < n + 3 → U.getD ((j + k) * 1) 0 = u.getD k 0 := fun k hk => by rw [Nat.mul_one]; exact hat2 k hk
  refine zsr <| zas rfl (hd 4 rfl) <| jo_nil <| zsr <| zmv rfl (hd 24 rfl) <| jo_l (ly_lenn sl28 rfl) (hd 25 rfl) <| zas rfl (hd 5 rfl) <| jo_nil <| zsr <| zas rfl (hd 6 rfl) ?_; refine zas rfl (hd 7 rfl) <| jo_nil <| zsr <| zas rfl (hd 8 rfl) <| jo_nil ?_
  refine jc_meetH (G := Int × Int × Bool) (fun g => vl u / vl v ≤ g.1 ∧ 0 ≤ g.1 ∧ g.1 < 18446744073709551616 ∧ (g.2.2 = false → Est u v n g.1 g.2.1 ∧ g.2.1 < 18446744073709551616) ∧ (g.2.2 = true → g.1 ≤ vl u / vl v + 1)) (fun g => [(6, .i .u64 g.1), (7, .i .u64 g.2.1), (8, .b g.2.2), (9, .u), (26, .u), (27, .u), (28, .u), (29, .u), (30, .u), (31, .u), (32, .u), (33, .u), (34, .u), (35, .u), (36, .u), (37, .u), (38, .u), (39, .u), (40, .u), (41, .u), (42, .u), (43, .u), (44, .u), (45, .u), (46, .u), (47, .u), (48, .u), (49, .u), (50, .u), (51, .u), (52, .u), (53, .u), (54, .u), (55, .u), (56, .u), (57, .u), (58, .u), (59, .u), (60, .u), (61, .u), (62, .u), (63, .u), (64, .u), (65, .u), (66, .u), (67, .u), (68, .u), (69, .u)]) ?_ ?_
  · refine jc_seq <| jc_draw (n := 10) _ rfl mixed <| zal2 0 [2, 3, 9] (lo_l (ly_mv rfl) (hd 26 rfl)) rfl <| zal2 1 [2, 3, 9] (lo_l (ly_mv rfl) (hd 27 rfl)) rfl <| zal2 2 [3, 9] (lo_l (ly_ia (i := n + 2) sl28 rfl rfl rfl (by first | rfl | omega) (by omega) rfl) (hd 28 rfl)) rfl <| zal 3 (lo_l (ly_is (ly_ldi one82 rfl rfl (by omega)) (show V.i .u64 _ = V.i .u64 (u.getD (n + 2) 0) from congrArg (V.i .u64) (hat (n + 2) (by omega)))) (hd 29 rfl)) rfl <| zal2 4 [7, 8, 9] (lo_l (ly_mv rfl) (hd 30 rfl)) rfl <| zal2 5 [6, 7, 8, 9] (lo_l (ly_mv rfl) (hd 31 rfl)) rfl <| zal2 6 [7, 8, 9] (lo_l (ly_sub rfl rfl (r := ((n + 1 : Nat) : Int)) (by rw [wrap_i64 (by omega) (by omega)]; omega)) (hd 32 rfl)) rfl <| zal2 7 [8, 9] (lo_l (ly_ian (i := n + 1) sl28 rfl rfl (by first | rfl | omega) (by omega)) (hd 33 rfl)) rfl <| zal 8 (lo_l (ly_ldq one82 rfl rfl) (hd 34 rfl)) rfl <| zal 9 (lo_l (ly_ge rfl rfl) (hd 35 rfl)) rfl <| ja_nil (by kernel_rfl) ?_
    refine jc_if rfl (fun h1 => ?_) (fun h1 => ?_)
    · refine zsr <| zas rfl (hd 6 rfl) <| jo_nil <| zsr <| zas rfl (hd 9 rfl) <| jo_nil <| jc_seq <| jc_draw (n := 16) _ rfl mixed <| zal2 0 [3, 4, 10, 11, 12, 13, 14, 15] (lo_l (ly_mv rfl) (hd 37 rfl)) rfl <| zal2 1 [2, 3, 4, 10, 11, 12, 13, 14, 15] (lo_l (ly_mv rfl) (hd 38 rfl)) rfl <| zal2 2 [3, 4, 10, 11, 12, 13, 14, 15] (lo_l (ly_sub rfl rfl (r := ((n + 1 : Nat) : Int)) (by rw [wrap_i64 (by omega) (by omega)]; omega)) (hd 39 rfl)) rfl ?_; refine zal2 3 [4, 10, 11, 12, 13, 14, 15] (lo_l (ly_ia (i := n + 1) sl28 rfl rfl rfl (by first | rfl | omega) (by omega) rfl) (hd 40 rfl)) rfl <| zal2 4 [10, 11, 12, 13, 14, 15] (lo_l (ly_is (ly_ldi one82 rfl rfl (by omega)) (show V.i .u64 _ = V.i .u64 (u.getD (n + 1) 0) from congrArg (V.i .u64) (hat (n + 1) (by omega)))) (hd 41 rfl)) rfl <| zal2 5 [8, 9, 10, 11, 12, 13, 14, 15] (lo_l (ly_mv rfl) (hd 42 rfl)) rfl <| zal2 6 [7, 8, 9, 10, 11, 12, 13, 14, 15] (lo_l (ly_mv rfl) (hd 43 rfl)) rfl <| zal2 7 [8, 9, 10, 11, 12, 13, 14, 15] (lo_l (ly_sub rfl rfl (r := ((n + 1 : Nat) : Int)) (by rw [wrap_i64 (by omega) (by omega)]; omega)) (hd 44 rfl)) rfl <| zal2 8 [9, 10, 11, 12, 13, 14, 15] (lo_l (ly_ian (i := n + 1) sl28 rfl rfl (by first | rfl | omega) (by omega)) (hd 45 rfl)) rfl <| zal2 9 [10, 11, 12, 13, 14, 15] (lo_l (ly_ldq one82 rfl rfl) (hd 46 rfl)) rfl ?_
      refine ja_1 10 ?_ rfl (by kernel_rfl)
      refine js_h (hy_ext3 (e := add64Entry) Tryz.func111 rfl rfl (by kernel_rfl) (by kernel_rfl) rfl rfl rfl (fun w => run_add64 _ _ _ hx1.1 hy1.1 (by decide) (by decide) w) rel_pair) (hd 47 rfl) <| zal 11 (lo_l (ly_mv rfl) (hd 36 rfl)) rfl <| zal 12 (lo_l (ly_ext rfl rfl) (hd 48 rfl)) rfl <| zal 13 (lo_l (ly_ext rfl rfl) (hd 49 rfl)) rfl <| zal 14 (lo_l (ly_as rfl) (hd 7 rfl)) rfl <| zal 15 (lo_l (ly_as rfl) (hd 9 rfl)) rfl <| ja_nil (by kernel_rfl) <| jc_region <| zmv rfl (hd 50 rfl) <| jo_l (ly_ne rfl rfl) (hd 51 rfl) <| zas rfl (hd 8 rfl) <| jo_nil ?_
      refine ⟨(18446744073709551615, (u.getD (n + 1) 0 + v.getD (n + 1) 0 + 0) % 18446744073709551616, decide ((u.getD (n + 1) 0 + v.getD (n + 1) 0 + 0) / 18446744073709551616 ≠ 0)), ?_, rfl, cov_n 31 rfl rfl ?_⟩
      · have hE := hP.first_eq (by omega)
        refine ⟨hE.2.1, hE.2.2.1, hE.2.2.2.1, fun h => ?_, fun h => ?_⟩
        · have h2 := of_decide_eq_false h
          have e : (u.getD (n + 1) 0 + v.getD (n + 1) 0 + 0) % 18446744073709551616 = u.getD (n + 1) 0 + v.getD (n + 1) 0 := by omega
          show Est u v n _ ((u.getD (n + 1) 0 + v.getD (n + 1) 0 + 0) % 18446744073709551616) ∧ (u.getD (n + 1) 0 + v.getD (n + 1) 0 + 0) % 18446744073709551616 < _
          rw [e]
          exact ⟨hE, by omega⟩
        · have h2 := of_decide_eq_true h
          exact hP.over hE (by omega)
      · exact (.cons rfl (.cons rfl (.cons rfl (.u (.u (.u (.u (.u (.u (.u (.u (.u (.u (.u (.u (.u (.u (.u (.u (.u (.u (.u (.u (.u (.u (.u (.u (.u (.u (.u (.u (.u (.u (.u (.u (.u (.u (.u (.u (.u (.u (.u (.u (.u (.u (.u (.u (.u .nil))))))))))))))))))))))))))))))))))))))))))))))))
    · refine jc_draw (n := 20) _ rfl mixed <| zal2 0 [2, 3, 14, 15, 16, 17, 18, 19] (lo_l (ly_mv rfl) (hd 53 rfl)) rfl <| zal2 1 [2, 3, 14, 15, 16, 17, 18, 19] (lo_l (ly_mv rfl) (hd 54 rfl)) rfl <| zal2 2 [3, 14, 15, 16, 17, 18, 19] (lo_l (ly_ia (i := n + 2) sl28 rfl rfl rfl (by first | rfl | omega) (by omega) rfl) (hd 55 rfl)) rfl <| zal2 3 [14, 15, 16, 17, 18, 19] (lo_l (ly_is (ly_ldi one82 rfl rfl (by omega)) (show V.i .u64 _ = V.i .u64 (u.getD (n + 2) 0) from congrArg (V.i .u64) (hat (n + 2) (by omega)))) (hd 56 rfl)) rfl <| zal2 4 [7, 8, 14, 15, 16, 17, 18, 19] (lo_l (ly_mv rfl) (hd 57 rfl)) rfl <| zal2 5 [6, 7, 8, 14, 15, 16, 17, 18, 19] (lo_l (ly_mv rfl) (hd 58 rfl)) rfl <| zal2 6 [7, 8, 14, 15, 16, 17, 18, 19] (lo_l (ly_sub rfl rfl (r := ((n + 1 : Nat) : Int)) (by rw [wrap_i64 (by omega) (by omega)]; omega)) (hd 59 rfl)) rfl <| zal2 7 [8, 14, 15, 16, 17, 18, 19] (lo_l (ly_ia (i := n + 1) sl28 rfl rfl rfl (by first | rfl | omega) (by omega) rfl) (hd 60 rfl)) rfl <| zal2 8 [14, 15, 16, 17, 18, 19] (lo_l (ly_is (ly_ldi one82 rfl rfl (by omega)) (show V.i .u64 _ = V.i .u64 (u.getD (n + 1) 0) from congrArg (V.i .u64) (hat (n + 1) (by omega)))) (hd 61 rfl)) rfl <| zal2 9 [12, 13, 14, 15, 16, 17, 18, 19] (lo_l (ly_mv rfl) (hd 62 rfl)) rfl <| zal2 10 [11, 12, 13, 14, 15, 16, 17, 18, 19] (lo_l (ly_mv rfl) (hd 63 rfl)) rfl <| zal2 11 [12, 13, 14, 15, 16, 17, 18, 19] (lo_l (ly_sub rfl rfl (r := ((n + 1 : Nat) : Int)) (by rw [wrap_i64 (by omega) (by omega)]; omega)) (hd 64 rfl)) rfl ?_; refine zal2 12 [13, 14, 15, 16, 17, 18, 19] (lo_l (ly_ian (i := n + 1) sl28 rfl rfl (by first | rfl | omega) (by omega)) (hd 65 rfl)) rfl <| zal2 13 [14, 15, 16, 17, 18, 19] (lo_l (ly_ldq one82 rfl rfl) (hd 66 rfl)) rfl ?_
      refine ja_1 14 ?_ rfl (by kernel_rfl)
      refine js_call Tryz.f105 (Div64_s (u.getD (n + 2) 0) (u.getD (n + 1) 0) (v.getD (n + 1) 0) hx2.1 (by omega) hx1.1 hx1.2 hy1.2) rfl Tryz.func105 rfl rfl (ovL_cons rfl (ovL_cons rfl (ovL_cons rfl ovL_nil))) (.cons .i (.cons .i (.cons .i .nil))) (hd 67 rfl) ?_ (fun ch hp => by simp at hp)
      rintro _ ⟨⟩; refine zal 15 (lo_l (ly_mv rfl) (hd 52 rfl)) rfl <| zal 16 (lo_l (ly_ext rfl rfl) (hd 68 rfl)) rfl <| zal 17 (lo_l (ly_ext rfl rfl) (hd 69 rfl)) rfl <| zal 18 (lo_l (ly_as rfl) (hd 6 rfl)) rfl <| zal 19 (lo_l (ly_as rfl) (hd 7 rfl)) rfl <| ja_nil (by kernel_rfl) ?_
      refine ⟨((u.getD (n + 2) 0 * 18446744073709551616 + u.getD (n + 1) 0) / v.getD (n + 1) 0, (u.getD (n + 2) 0 * 18446744073709551616 + u.getD (n + 1) 0) % v.getD (n + 1) 0, false), ?_, rfl, cov_n 30 rfl rfl ?_⟩
      · have hE := hP.first_div (by omega)
        have hm := Int.emod_lt_of_pos (u.getD (n + 2) 0 * 18446744073709551616 + u.getD (n + 1) 0) (show 0 < v.getD (n + 1) 0 by omega)
        exact ⟨hE.2.1, hE.2.2.1, hE.2.2.2.1, fun _ => ⟨hE, by dsimp only; omega⟩, fun h => absurd h (by simp)⟩
      · exact (.cons rfl (.cons rfl (.cons rfl (.u (.u (.u (.u (.u (.u (.u (.u (.u (.u (.u (.u (.u (.u (.u (.u (.u (.u (.u (.u (.u (.u (.u (.u (.u (.u (.u (.u (.u (.u (.u (.u (.u (.u (.u (.u (.u (.u (.u (.u (.u (.u (.u (.u (.u .nil))))))))))))))))))))))))))))))))))))))))))))))))
  · rintro ⟨q0, r0, sure⟩ ⟨hc1, hc2, hc3, hc4, hc5⟩
    dsimp only at hc1 hc2 hc3 hc4 hc5
    refine jc_meetH (G := Int) (fun g => vl u / vl v ≤ g ∧ 0 ≤ g ∧ g < 18446744073709551616 ∧ g ≤ vl u / vl v + 1) (fun g => [(6, .i .u64 g), (7, .u), (10, .u), (11, .u), (12, .u), (70, .u), (71, .u), (72, .u), (73, .u), (74, .u), (75, .u), (76, .u), (77, .u), (78, .u), (79, .u), (80, .u), (81, .u), (82, .u), (83, .u), (84, .u), (85, .u), (86, .u), (87, .u), (88, .u), (89, .u), (90, .u), (91, .u), (92, .u), (93, .u), (94, .u), (95, .u), (96, .u), (97, .u), (98, .u), (99, .u), (100, .u), (101, .u), (102, .u), (103, .u), (104, .u), (105, .u), (106, .u), (107, .u), (108, .u), (109, .u), (110, .u), (111, .u), (112, .u)]) ?_ ?_
    · refine jc_block ?_
      refine jc_loopF (G := Int × Int) (fun g => vl u / vl v ≤ g.1 ∧ 0 ≤ g.1 ∧ g.1 < 18446744073709551616 ∧ (sure = false → Est u v n g.1 g.2 ∧ g.2 < 18446744073709551616) ∧ (sure = true → g.1 ≤ vl u / vl v + 1)) (fun g => [(6, .i .u64 g.1), (7, .i .u64 g.2), (10, .u), (11, .u), (12, .u), (70, .u), (71, .u), (72, .u), (73, .u), (74, .u), (75, .u), (76, .u), (77, .u), (78, .u), (79, .u), (80, .u), (81, .u), (82, .u), (83, .u), (84, .u), (85, .u), (86, .u), (87, .u), (88, .u), (89, .u), (90, .u), (91, .u), (92, .u), (93, .u), (94, .u), (95, .u), (96, .u), (97, .u), (98, .u), (99, .u), (100, .u), (101, .u), (102, .u), (103, .u), (104, .u), (105, .u), (106, .u), (107, .u), (108, .u), (109, .u), (110, .u), (111, .u), (112, .u)]) (fun _ => _) (fun g => g.1.toNat) (q0, r0) ?_ ?_ rfl ?_
      · exact ⟨hc1, hc2, hc3, hc4, hc5⟩
      · exact (.cons rfl (.cons rfl (.u (.u (.u (.u (.u (.u (.u (.u (.u (.u (.u (.u (.u (.u (.u (.u (.u (.u (.u (.u (.u (.u (.u (.u (.u (.u (.u (.u (.u (.u (.u (.u (.u (.u (.u (.u (.u (.u (.u (.u (.u (.u (.u (.u (.u (.u .nil))))))))))))))))))))))))))))))))))))))))))))))))
      · rintro ⟨q, r⟩ ⟨hd1, hd2, hd3, hd4, hd5⟩
        dsimp only at hd1 hd2 hd3 hd4 hd5
        refine jc_seq <| zsr <| zmv rfl (hd 70 rfl) <| jo_l (ly_not rfl) (hd 71 rfl) <| jo_nil ?_
        refine jc_cond rfl (fun h2 => ?_) (fun h2 => ?_)
        · have hsf : sure = false := by simpa using h2
          obtain ⟨hE, hr⟩ := hd4 hsf
          obtain ⟨hE1, hE2, hE3, hE4, hE5⟩ := id hE
          refine jc_skip <| jc_block <| zsr <| zmv rfl (hd 73 rfl) <| zmv rfl (hd 74 rfl) <| zmv rfl (hd 75 rfl) <| jo_l (ly_sub rfl rfl (r := ((n : Nat) : Int)) (by rw [wrap_i64 (by omega) (by omega)]; omega)) (hd 76 rfl) <| jo_l (ly_ian (i := n) sl28 rfl rfl (by first | rfl | omega) (by omega)) (hd 77 rfl) <| jo_l (ly_ldq one82 rfl rfl) (hd 78 rfl) ?_
          refine jo_call Tryz.f128 (Mul64_s q (v.getD n 0) hd2 hd3 hy0.1 hy0.2) rfl Tryz.func128 rfl rfl (ovL_cons rfl (ovL_cons rfl ovL_nil)) (.cons .i (.cons .i .nil)) (hd 79 rfl) ?_ (fun ch hp => by simp at hp)
          rintro _ ⟨⟩; refine zmv rfl (hd 72 rfl) <| jo_l (ly_ext rfl rfl) (hd 80 rfl) <| jo_l (ly_ext rfl rfl) (hd 81 rfl) <| zas rfl (hd 10 rfl) <| zas rfl (hd 11 rfl) <| jo_nil <| jc_seq <| zsr <| zmv rfl (hd 82 rfl) <| zmv rfl (hd 83 rfl) <| jo_l (ly_lt rfl rfl) (hd 84 rfl) <| zmv rfl (hd 85 rfl) ?_
          refine jo_ifp 85 rfl (fun h3 => ?_) (fun h3 => ?_)
          · refine jo_s 85 rfl rfl rfl (hd 86 rfl) <| jo_s 85 rfl rfl rfl (hd 87 rfl) <| jo_s 85 rfl rfl rfl (hd 88 rfl) <| jo_s 85 rfl rfl rfl (hd 89 rfl) <| jo_s' 89 rfl rfl (hd 90 rfl) <| jo_s' 89 rfl rfl (hd 91 rfl) <| jo_s' 89 rfl rfl (hd 92 rfl) <| jo_s' 89 rfl rfl (hd 93 rfl) <| jo_s' 89 rfl rfl (hd 94 rfl) <| jo_s' 89 rfl rfl (hd 95 rfl) <| jo_s' 89 rfl rfl (hd 96 rfl) <| jo_s 85 rfl rfl rfl (hd 97 rfl) <| jo_l (ly_pick_t rfl rfl) (hd 98 rfl) ?_; refine jo_nil <| jc_litt rfl <| jc_exit ?_
            refine ⟨q, ?_, rfl, cov_n 80 rfl rfl ?_⟩
            · exact ⟨hd1, hd2, hd3, hP.last hE (by omega)⟩
            · exact (.cons rfl (.u (.u (.u (.u (.u (.u (.u (.u (.u (.u (.u (.u (.u (.u (.u (.u (.u (.u (.u (.u (.u (.u (.u (.u (.u (.u (.u (.u (.u (.u (.u (.u (.u (.u (.u (.u (.u (.u (.u (.u (.u (.u (.u (.u (.u (.u (.u .nil))))))))))))))))))))))))))))))))))))))))))))))))
          · refine jo_g 85 rfl rfl (ly_mv rfl) (hd 86 rfl) <| jo_g 85 rfl rfl (ly_mv rfl) (hd 87 rfl) <| jo_g 85 rfl rfl (ly_eq rfl rfl) (hd 88 rfl) <| jo_g 85 rfl rfl (ly_mv rfl) (hd 89 rfl) ?_
            refine jo_ifp 89 rfl (fun h5 => ?_) (fun h5 => ?_)
            · refine jo_g 89 rfl rfl (ly_mv rfl) (hd 90 rfl) <| jo_g 89 rfl rfl (ly_mv rfl) (hd 91 rfl) <| jo_g 89 rfl rfl (ly_mv rfl) (hd 92 rfl) <| jo_g 89 rfl rfl (ly_sub rfl rfl (r := ((n : Nat) : Int)) (by rw [wrap_i64 (by omega) (by omega)]; omega)) (hd 93 rfl) <| jo_g 89 rfl rfl (ly_ia (i := n) sl28 rfl rfl rfl (by first | rfl | omega) (by omega) rfl) (hd 94 rfl) <| jo_g 89 rfl rfl (ly_is (ly_ldi one82 rfl rfl (by omega)) (show V.i .u64 _ = V.i .u64 (u.getD (n) 0) from congrArg (V.i .u64) (hat (n) (by omega)))) (hd 95 rfl) <| jo_g 89 rfl rfl (ly_le rfl rfl) (hd 96 rfl) <| jo_g 85 rfl rfl (ly_pick_t rfl rfl) (hd 97 rfl) <| jo_l (ly_pick_f rfl rfl) (hd 98 rfl) <| jo_nil ?_
              refine jc_if rfl (fun h6 => ?_) (fun h6 => ?_)
              · refine jc_exit ?_
                refine ⟨q, ?_, rfl, cov_n 81 rfl rfl ?_⟩
                · exact ⟨hd1, hd2, hd3, hP.last hE (by omega)⟩
                · exact (.cons rfl (.u (.u (.u (.u (.u (.u (.u (.u (.u (.u (.u (.u (.u (.u (.u (.u (.u (.u (.u (.u (.u (.u (.u (.u (.u (.u (.u (.u (.u (.u (.u (.u (.u (.u (.u (.u (.u (.u (.u (.u (.u (.u (.u (.u (.u (.u (.u .nil))))))))))))))))))))))))))))))))))))))))))))))))
              · refine jc_skip <| jc_seq ?_
                obtain ⟨hN, hq1⟩ := hP.next hE (by omega)
                obtain ⟨hN1, hN2, hN3, hN4, hN5⟩ := id hN
                refine jc_region <| zmv rfl (hd 99 rfl) <| jo_l (ly_sub rfl rfl (wrap_u64 (by first | omega | (dsimp only; omega)) (by first | omega | (dsimp only; omega)))) (hd 100 rfl) <| zas rfl (hd 6 rfl) <| jo_nil <| zsr <| zas rfl (hd 12 rfl) <| jo_nil <| zsr <| zmv rfl (hd 102 rfl) <| zmv rfl (hd 103 rfl) ?_; refine zmv rfl (hd 104 rfl) <| jo_l (ly_sub rfl rfl (r := ((n + 1 : Nat) : Int)) (by rw [wrap_i64 (by omega) (by omega)]; omega)) (hd 105 rfl) <| jo_l (ly_ian (i := n + 1) sl28 rfl rfl (by first | rfl | omega) (by omega)) (hd 106 rfl) <| jo_l (ly_ldq one82 rfl rfl) (hd 107 rfl) <| jo_h (hy_ext3 (e := add64Entry) Tryz.func111 rfl rfl (by kernel_rfl) (by kernel_rfl) rfl rfl rfl (fun w => run_add64 _ _ _ hE5 hy1.1 (by decide) (by decide) w) rel_pair) (hd 108 rfl) <| zmv rfl (hd 101 rfl) <| jo_l (ly_ext rfl rfl) (hd 109 rfl) <| jo_l (ly_ext rfl rfl) (hd 110 rfl) <| zas rfl (hd 7 rfl) <| zas rfl (hd 12 rfl) <| jo_nil <| jc_seq <| jc_region ?_; refine zmv rfl (hd 111 rfl) <| jo_l (ly_ne rfl rfl) (hd 112 rfl) <| jo_nil ?_
                refine jc_if rfl (fun h7 => ?_) (fun h7 => ?_)
                · refine jc_exit ?_
                  refine ⟨(q - 1), ?_, rfl, cov_n 99 rfl rfl ?_⟩
                  · exact ⟨hN2, hN3, hN4, hP.over hN (by omega)⟩
                  · exact (.cons rfl (.u (.u (.u (.u (.u (.u (.u (.u (.u (.u (.u (.u (.u (.u (.u (.u (.u (.u (.u (.u (.u (.u (.u (.u (.u (.u (.u (.u (.u (.u (.u (.u (.u (.u (.u (.u (.u (.u (.u (.u (.u (.u (.u (.u (.u (.u (.u .nil))))))))))))))))))))))))))))))))))))))))))))))))
                · refine jc_skip ?_
                  refine ⟨(q - 1, (r + v.getD (n + 1) 0 + 0) % 18446744073709551616), ?_, ?_, rfl, cov_n 99 rfl rfl ?_⟩
                  · have e : (r + v.getD (n + 1) 0 + 0) % 18446744073709551616 = r + v.getD (n + 1) 0 := by omega
                    exact ⟨hN2, hN3, hN4, fun _ => by show Est u v n (q - 1) ((r + v.getD (n + 1) 0 + 0) % 18446744073709551616) ∧ (r + v.getD (n + 1) 0 + 0) % 18446744073709551616 < _; rw [e]; exact ⟨hN, by omega⟩, fun h => absurd (hsf.symm.trans h) (by simp)⟩
                  · show (q - 1).toNat < q.toNat
                    omega
                  · exact (.cons rfl (.cons rfl (.u (.u (.u (.u (.u (.u (.u (.u (.u (.u (.u (.u (.u (.u (.u (.u (.u (.u (.u (.u (.u (.u (.u (.u (.u (.u (.u (.u (.u (.u (.u (.u (.u (.u (.u (.u (.u (.u (.u (.u (.u (.u (.u (.u (.u (.u .nil))))))))))))))))))))))))))))))))))))))))))))))))
            · refine jo_s 89 rfl rfl rfl (hd 90 rfl) <| jo_s 89 rfl rfl rfl (hd 91 rfl) <| jo_s 89 rfl rfl rfl (hd 92 rfl) <| jo_s 89 rfl rfl rfl (hd 93 rfl) <| jo_s 89 rfl rfl rfl (hd 94 rfl) <| jo_s 89 rfl rfl rfl (hd 95 rfl) <| jo_s 89 rfl rfl rfl (hd 96 rfl) <| jo_g 85 rfl rfl (ly_pick_f rfl rfl) (hd 97 rfl) <| jo_l (ly_pick_f rfl rfl) (hd 98 rfl) <| jo_nil <| jc_litf rfl <| jc_skip <| jc_seq ?_
              obtain ⟨hN, hq1⟩ := hP.next hE (by omega)
              obtain ⟨hN1, hN2, hN3, hN4, hN5⟩ := id hN
              refine jc_region <| zmv rfl (hd 99 rfl) <| jo_l (ly_sub rfl rfl (wrap_u64 (by first | omega | (dsimp only; omega)) (by first | omega | (dsimp only; omega)))) (hd 100 rfl) <| zas rfl (hd 6 rfl) <| jo_nil <| zsr <| zas rfl (hd 12 rfl) <| jo_nil <| zsr <| zmv rfl (hd 102 rfl) <| zmv rfl (hd 103 rfl) ?_; refine zmv rfl (hd 104 rfl) <| jo_l (ly_sub rfl rfl (r := ((n + 1 : Nat) : Int)) (by rw [wrap_i64 (by omega) (by omega)]; omega)) (hd 105 rfl) <| jo_l (ly_ian (i := n + 1) sl28 rfl rfl (by first | rfl | omega) (by omega)) (hd 106 rfl) <| jo_l (ly_ldq one82 rfl rfl) (hd 107 rfl) <| jo_h (hy_ext3 (e := add64Entry) Tryz.func111 rfl rfl (by kernel_rfl) (by kernel_rfl) rfl rfl rfl (fun w => run_add64 _ _ _ hE5 hy1.1 (by decide) (by decide) w) rel_pair) (hd 108 rfl) <| zmv rfl (hd 101 rfl) <| jo_l (ly_ext rfl rfl) (hd 109 rfl) <| jo_l (ly_ext rfl rfl) (hd 110 rfl) <| zas rfl (hd 7 rfl) <| zas rfl (hd 12 rfl) <| jo_nil <| jc_seq <| jc_region ?_; refine zmv rfl (hd 111 rfl) <| jo_l (ly_ne rfl rfl) (hd 112 rfl) <| jo_nil ?_
              refine jc_if rfl (fun h9 => ?_) (fun h9 => ?_)
              · refine jc_exit ?_
                refine ⟨(q - 1), ?_, rfl, cov_n 99 rfl rfl ?_⟩
                · exact ⟨hN2, hN3, hN4, hP.over hN (by omega)⟩
                · exact (.cons rfl (.u (.u (.u (.u (.u (.u (.u (.u (.u (.u (.u (.u (.u (.u (.u (.u (.u (.u (.u (.u (.u (.u (.u (.u (.u (.u (.u (.u (.u (.u (.u (.u (.u (.u (.u (.u (.u (.u (.u (.u (.u (.u (.u (.u (.u (.u (.u .nil))))))))))))))))))))))))))))))))))))))))))))))))
              · refine jc_skip ?_
                refine ⟨(q - 1, (r + v.getD (n + 1) 0 + 0) % 18446744073709551616), ?_, ?_, rfl, cov_n 99 rfl rfl ?_⟩
                · have e : (r + v.getD (n + 1) 0 + 0) % 18446744073709551616 = r + v.getD (n + 1) 0 := by omega
                  exact ⟨hN2, hN3, hN4, fun _ => by show Est u v n (q - 1) ((r + v.getD (n + 1) 0 + 0) % 18446744073709551616) ∧ (r + v.getD (n + 1) 0 + 0) % 18446744073709551616 < _; rw [e]; exact ⟨hN, by omega⟩, fun h => absurd (hsf.symm.trans h) (by simp)⟩
                · show (q - 1).toNat < q.toNat
                  omega
                · exact (.cons rfl (.cons rfl (.u (.u (.u (.u (.u (.u (.u (.u (.u (.u (.u (.u (.u (.u (.u (.u (.u (.u (.u (.u (.u (.u (.u (.u (.u (.u (.u (.u (.u (.u (.u (.u (.u (.u (.u (.u (.u (.u (.u (.u (.u (.u (.u (.u (.u (.u .nil))))))))))))))))))))))))))))))))))))))))))))))))
        · have hst : sure = true := by simpa using h2
          have hlast := hd5 hst
          refine jc_exit ?_
          refine ⟨q, ?_, rfl, cov_n 50 rfl rfl ?_⟩
          · exact ⟨hd1, hd2, hd3, hlast⟩
          · exact (.cons rfl (.u (.u (.u (.u (.u (.u (.u (.u (.u (.u (.u (.u (.u (.u (.u (.u (.u (.u (.u (.u (.u (.u (.u (.u (.u (.u (.u (.u (.u (.u (.u (.u (.u (.u (.u (.u (.u (.u (.u (.u (.u (.u (.u (.u (.u (.u (.u .nil))))))))))))))))))))))))))))))))))))))))))))))))
    · rintro q ⟨hq1, hq2, hq3, hq4⟩
      obtain ⟨hgQ, hgl, hgu, hgv⟩ := gs_end hP.uu hP.uv (by omega) hv0 hq2 hq3 hq1 hq4
      unfold gsQ at hgQ
      have hmB := msB_bd u v q
      have hum := msL_u hP.uu hP.uv hq2 hq3
      have hml0 := msL_len u v q
      refine jc_seq <| jc_H (H' := [⟨79, 1, 0, true, ints .u64 (rwJ U j (msN u v q 0).1)⟩, ⟨79, 1, 0, true, ints .u64 Q⟩]) (by show _ = [(⟨79, 1, 0, true, ints .u64 (rwJ U j [])⟩ : Ob), _]; rw [rwJ_0]) <| jc_region <| zas rfl (hd 13 rfl) <| zas rfl (hd 14 rfl) <| jo_nil <| jc_seq <| zsr <| zmv rfl (hd 113 rfl) <| jo_l (ly_lenn sl28 rfl) (hd 114 rfl) <| zmv rfl (hd 115 rfl) <| jo_nil ?_; refine jc_block ?_
      refine jc_loopF (G := Nat) (fun i => i ≤ v.length) (fun i => [(13, .i .u64 (msN u v q i).2.1), (14, .i .u64 (msN u v q i).2.2), (115, .i .i64 (i : Int)), (15, .u), (16, .u), (17, .u), (18, .u), (19, .u), (20, .u), (116, .u), (117, .u), (118, .u), (119, .u), (120, .u), (121, .u), (122, .u), (123, .u), (124, .u), (125, .u), (126, .u), (127, .u), (128, .u), (129, .u), (130, .u), (131, .u), (132, .u), (133, .u), (134, .u), (135, .u), (136, .u), (137, .u), (138, .u), (139, .u), (140, .u), (141, .u), (142, .u), (143, .u), (144, .u), (145, .u), (146, .u), (147, .u), (148, .u)]) (fun i => [⟨79, 1, 0, true, ints .u64 (rwJ U j (msN u v q i).1)⟩, ⟨79, 1, 0, true, ints .u64 Q⟩]) (fun i => v.length - i) 0 ?_ ?_ rfl ?_
      · exact Nat.zero_le _
      · exact (.cons rfl (.cons rfl (.cons rfl (.u (.u (.u (.u (.u (.u (.u (.u (.u (.u (.u (.u (.u (.u (.u (.u (.u (.u (.u (.u (.u (.u (.u (.u (.u (.u (.u (.u (.u (.u (.u (.u (.u (.u (.u (.u (.u (.u (.u .nil))))))))))))))))))))))))))))))))))))))))))
      · rintro i hi1
        have hml := msN_len u v q i
        have hf : (rwJ U j (msN u v q i).1).length = U.length := rwJ_len (by omega)
        have hc := msN_c (u := u) hP.uv hq2 hq3 i
        have hb := msN_b u v q i
        have hxi := u64s_getD hP.uu i
        have hyi := u64s_getD hP.uv i
        have hmp := mul_lt hyi.1 hyi.2 hq2 hq3
        refine zsr <| jo_l (ly_lt rfl rfl) (hd 116 rfl) <| jo_nil <| jc_seq ?_
        refine jc_if rfl (fun h10 => ?_) (fun h10 => ?_)
        · refine jc_skip <| jc_seq <| jc_block <| zsr <| zmv rfl (hd 117 rfl) <| jo_l (ly_ian (i := i) sl28 rfl rfl (by first | rfl | omega) (by omega)) (hd 118 rfl) <| jo_l (ly_ldq one82 rfl rfl) (hd 119 rfl) <| zas rfl (hd 15 rfl) <| zas rfl (hd 16 rfl) <| jo_nil <| jc_seq <| jc_region ?_; refine zmv rfl (hd 121 rfl) <| zmv rfl (hd 122 rfl) ?_
          refine jo_call Tryz.f128 (Mul64_s (v.getD i 0) q hyi.1 hyi.2 hq2 hq3) rfl Tryz.func128 rfl rfl (ovL_cons rfl (ovL_cons rfl ovL_nil)) (.cons .i (.cons .i .nil)) (hd 123 rfl) ?_ (fun ch hp => by simp at hp)
          rintro _ ⟨⟩; refine zmv rfl (hd 120 rfl) <| jo_l (ly_ext rfl rfl) (hd 124 rfl) <| jo_l (ly_ext rfl rfl) (hd 125 rfl) <| zas rfl (hd 17 rfl) <| zas rfl (hd 18 rfl) <| jo_nil <| zsr <| zmv rfl (hd 127 rfl) <| zmv rfl (hd 128 rfl) <| jo_h (hy_ext3 (e := add64Entry) Tryz.func111 rfl rfl (by kernel_rfl) (by kernel_rfl) rfl rfl rfl (fun w => run_add64 _ _ _ (Int.emod_nonneg _ (by decide)) hc.1 (by decide) (by decide) w) rel_pair) (hd 129 rfl) <| zmv rfl (hd 126 rfl) <| jo_l (ly_is (ly_ext rfl rfl) (show V.i .u64 _ = V.i .u64 (msS u v q i (msN u v q i).2.1) from congrArg (V.i .u64) (by unfold msS; rw [Int.add_zero]))) (hd 130 rfl) ?_; refine jo_l (ly_ext rfl rfl) (hd 131 rfl) <| zas rfl (hd 19 rfl) <| zas rfl (hd 20 rfl) <| jo_nil <| zsr <| zmv rfl (hd 132 rfl) <| zmv rfl (hd 133 rfl) <| jo_l (ly_add rfl rfl (r := msC v q i (msN u v q i).2.1) (by unfold msC; rw [Int.add_zero]; exact wrap_u64 (by omega) (by omega))) (hd 134 rfl) <| zas rfl (hd 13 rfl) <| jo_nil <| jc_region <| zmv rfl (hd 136 rfl) ?_; refine zmv rfl (hd 137 rfl) <| zmv rfl (hd 138 rfl) <| zmv rfl (hd 139 rfl) <| jo_l (ly_ia (i := i) sl28 rfl rfl rfl (by first | rfl | omega) (by omega) rfl) (hd 140 rfl) <| jo_l (ly_is (ly_ldi one82 rfl rfl (by omega)) (show V.i .u64 _ = V.i .u64 (u.getD i 0) from congrArg (V.i .u64) ((rwJ_at (by omega) (by omega)).trans (hat2 (i) (by omega))))) (hd 141 rfl) <| zmv rfl (hd 142 rfl) <| zmv rfl (hd 143 rfl) <| jo_h (hy_ext3 (e := sub64Entry) Tryz.func113 rfl rfl (by kernel_rfl) (by kernel_rfl) rfl rfl rfl (fun w => run_sub64 _ _ _ hxi.1 hxi.2 (by unfold msS; omega) (by unfold msS; omega) hb.1 hb.2 w) rel_pair) (hd 144 rfl) <| zmv rfl (hd 135 rfl) <| jo_l (ly_is (ly_ext rfl rfl) (show V.i .u64 _ = V.i .u64 (sbD (u.getD i 0) (msS u v q i (msN u v q i).2.1) (msN u v q i).2.2) from congrArg (V.i .u64) rfl)) (hd 145 rfl) <| jo_l (ly_is (ly_ext rfl rfl) (show V.i .u64 _ = V.i .u64 (sbB (u.getD i 0) (msS u v q i (msN u v q i).2.1) (msN u v q i).2.2) from congrArg (V.i .u64) rfl)) (hd 146 rfl) <| jo_l (ly_ia (i := i) sl28 rfl rfl rfl (by first | rfl | omega) (by omega) rfl) (hd 147 rfl) <| jo_st (sy_storei rfl rfl rfl one82 (by omega)) ?_; refine zas rfl (hd 14 rfl) <| jo_nil <| jc_region <| jo_l (ly_add rfl rfl (wrap_i64 (by omega) (by omega))) (hd 148 rfl) <| zmv rfl (hd 115 rfl) <| jo_nil ?_
          refine ⟨i + 1, ?_, ?_, (by show [(⟨79, 1, 0, true, ints .u64 _⟩ : Ob), _] = [⟨79, 1, 0, true, ints .u64 _⟩, _]; rw [ms_set (by omega)]), cov_n 84 rfl rfl ?_⟩
          · omega
          · omega
          · exact (.cons rfl (.cons rfl (.cons rfl (.u (.u (.u (.u (.u (.u (.u (.u (.u (.u (.u (.u (.u (.u (.u (.u (.u (.u (.u (.u (.u (.u (.u (.u (.u (.u (.u (.u (.u (.u (.u (.u (.u (.u (.u (.u (.u (.u (.u .nil))))))))))))))))))))))))))))))))))))))))))
        · obtain rfl : i = v.length := by omega
          refine jc_exit <| zsr <| zmv rfl (hd 150 rfl) <| zmv rfl (hd 151 rfl) <| zmv rfl (hd 152 rfl) <| zmv rfl (hd 153 rfl) <| jo_l (ly_ia (i := v.length) sl28 rfl rfl rfl (by first | rfl | omega) (by omega) rfl) (hd 154 rfl) <| jo_l (ly_is (ly_ldi one82 rfl rfl (by omega)) (show V.i .u64 _ = V.i .u64 (u.getD v.length 0) from congrArg (V.i .u64) ((rwJ_at (by omega) (by omega)).trans (hat2 (v.length) (by omega))))) (hd 155 rfl) <| zmv rfl (hd 156 rfl) <| zmv rfl (hd 157 rfl) <| jo_h (hy_ext3 (e := sub64Entry) Tryz.func113 rfl rfl (by kernel_rfl) (by kernel_rfl) rfl rfl rfl (fun w => run_sub64 _ _ _ hxi.1 hxi.2 hc.1 hc.2 hb.1 hb.2 w) rel_pair) (hd 158 rfl) <| zmv rfl (hd 149 rfl) ?_; refine jo_l (ly_is (ly_ext rfl rfl) (show V.i .u64 _ = V.i .u64 (sbD (u.getD v.length 0) (msN u v q v.length).2.1 (msN u v q v.length).2.2) from congrArg (V.i .u64) rfl)) (hd 159 rfl) <| jo_l (ly_is (ly_ext rfl rfl) (show V.i .u64 _ = V.i .u64 (msB u v q) from congrArg (V.i .u64) rfl)) (hd 160 rfl) <| jo_l (ly_ia (i := v.length) sl28 rfl rfl rfl (by first | rfl | omega) (by omega) rfl) (hd 161 rfl) <| jo_st (sy_storei rfl rfl rfl one82 (by omega)) <| zas rfl (hd 14 rfl) <| jo_nil <| jc_seq <| jc_seq <| jc_H (H' := [⟨79, 1, 0, true, ints .u64 (rwJ U j (msL u v q))⟩, ⟨79, 1, 0, true, ints .u64 Q⟩]) (by show [(⟨79, 1, 0, true, ints .u64 _⟩ : Ob), _] = [⟨79, 1, 0, true, ints .u64 _⟩, _]; rw [ml_row (by omega)]) ?_
          have hW : (rwJ U j (msL u v q)).length = U.length := rwJ_len (by omega)
          refine jc_region <| zmv rfl (hd 162 rfl) <| jo_l (ly_ne rfl rfl) (hd 163 rfl) <| jo_nil ?_
          refine jc_if rfl (fun h11 => ?_) (fun h11 => ?_)
          · have hb1 : msB u v q = 1 := by omega
            have hq9 : q - 1 = vl u / vl v := by omega
            have hgl2 : gsL u v q = bkL (msL u v q) v := if_neg (by omega)
            rw [hgl2] at hgl hgu hgv
            refine zsr <| zmv rfl (hd 164 rfl) <| jo_l (ly_sub rfl rfl (r := vl u / vl v) (by rw [hq9]; exact wrap_u64 (by omega) (by omega))) (hd 165 rfl) <| zas rfl (hd 6 rfl) <| jo_nil <| jc_seq <| jc_H (H' := [⟨79, 1, 0, true, ints .u64 (rwJ (rwJ U j (msL u v q)) j (adN (msL u v q) v 0).1)⟩, ⟨79, 1, 0, true, ints .u64 Q⟩]) (by show _ = [(⟨79, 1, 0, true, ints .u64 (rwJ (rwJ U j (msL u v q)) j [])⟩ : Ob), _]; rw [rwJ_0]) <| jc_region <| zas rfl (hd 21 rfl) <| jo_nil <| jc_seq <| jc_seq ?_; refine jc_region <| zmv rfl (hd 166 rfl) <| jo_l (ly_lenn sl28 rfl) (hd 167 rfl) <| zmv rfl (hd 168 rfl) <| jo_nil <| jc_block ?_
            refine jc_loopF (G := Nat) (fun i => i ≤ v.length) (fun i => [(21, .i .u64 (adN (msL u v q) v i).2), (168, .i .i64 (i : Int)), (22, .u), (23, .u), (169, .u), (170, .u), (171, .u), (172, .u), (173, .u), (174, .u), (175, .u), (176, .u), (177, .u), (178, .u), (179, .u), (180, .u), (181, .u), (182, .u), (183, .u), (184, .u), (185, .u), (186, .u)]) (fun i => [⟨79, 1, 0, true, ints .u64 (rwJ (rwJ U j (msL u v q)) j (adN (msL u v q) v i).1)⟩, ⟨79, 1, 0, true, ints .u64 Q⟩]) (fun i => v.length - i) 0 ?_ ?_ rfl ?_
            · exact Nat.zero_le _
            · exact (.cons rfl (.cons rfl (.u (.u (.u (.u (.u (.u (.u (.u (.u (.u (.u (.u (.u (.u (.u (.u (.u (.u (.u (.u .nil))))))))))))))))))))))
            · rintro i hi1
              have hal := adN_len (msL u v q) v i
              have hf2 : (rwJ (rwJ U j (msL u v q)) j (adN (msL u v q) v i).1).length = (rwJ U j (msL u v q)).length := rwJ_len (by omega)
              have hca := adN_c hum hP.uv i
              have hxa := u64s_getD hum i
              have hya := u64s_getD hP.uv i
              refine zsr <| jo_l (ly_lt rfl rfl) (hd 169 rfl) <| jo_nil <| jc_seq ?_
              refine jc_if rfl (fun h12 => ?_) (fun h12 => ?_)
              · refine jc_skip <| jc_seq <| jc_block <| zsr <| zmv rfl (hd 170 rfl) <| jo_l (ly_ian (i := i) sl28 rfl rfl (by first | rfl | omega) (by omega)) (hd 171 rfl) <| jo_l (ly_ldq one82 rfl rfl) (hd 172 rfl) <| zas rfl (hd 22 rfl) <| zas rfl (hd 23 rfl) <| jo_nil <| jc_region <| zmv rfl (hd 174 rfl) ?_; refine zmv rfl (hd 175 rfl) <| zmv rfl (hd 176 rfl) <| zmv rfl (hd 177 rfl) <| jo_l (ly_ia (i := i) sl28 rfl rfl rfl (by first | rfl | omega) (by omega) rfl) (hd 178 rfl) <| jo_l (ly_is (ly_ldi one82 rfl rfl (by omega)) (show V.i .u64 _ = V.i .u64 ((msL u v q).getD i 0) from congrArg (V.i .u64) ((rwJ_at (by omega) (by omega)).trans (rwJ_in' (by omega) (by omega))))) (hd 179 rfl) <| zmv rfl (hd 180 rfl) <| zmv rfl (hd 181 rfl) <| jo_h (hy_ext3 (e := add64Entry) Tryz.func111 rfl rfl (by kernel_rfl) (by kernel_rfl) rfl rfl rfl (fun w => run_add64 _ _ _ hxa.1 hya.1 hca.1 hca.2 w) rel_pair) (hd 182 rfl) <| zmv rfl (hd 173 rfl) <| jo_l (ly_ext rfl rfl) (hd 183 rfl) <| jo_l (ly_ext rfl rfl) (hd 184 rfl) <| jo_l (ly_ia (i := i) sl28 rfl rfl rfl (by first | rfl | omega) (by omega) rfl) (hd 185 rfl) <| jo_st (sy_storei rfl rfl rfl one82 (by omega)) ?_; refine zas rfl (hd 21 rfl) <| jo_nil <| jc_region <| jo_l (ly_add rfl rfl (wrap_i64 (by omega) (by omega))) (hd 186 rfl) <| zmv rfl (hd 168 rfl) <| jo_nil ?_
                refine ⟨i + 1, ?_, ?_, (by show [(⟨79, 1, 0, true, ints .u64 _⟩ : Ob), _] = [⟨79, 1, 0, true, ints .u64 _⟩, _]; rw [ad_set (by omega)]), cov_n 44 rfl rfl ?_⟩
                · omega
                · omega
                · exact (.cons rfl (.cons rfl (.u (.u (.u (.u (.u (.u (.u (.u (.u (.u (.u (.u (.u (.u (.u (.u (.u (.u (.u (.u .nil))))))))))))))))))))))
              · obtain rfl : i = v.length := by omega
                refine jc_exit <| jc_region <| zmv rfl (hd 187 rfl) <| zmv rfl (hd 188 rfl) <| jo_l (ly_ia (i := v.length) sl28 rfl rfl rfl (by first | rfl | omega) (by omega) rfl) (hd 189 rfl) <| jo_l (ly_is (ly_ldi one82 rfl rfl (by omega)) (show V.i .u64 _ = V.i .u64 ((msL u v q).getD v.length 0) from congrArg (V.i .u64) ((rwJ_at (by omega) (by omega)).trans (rwJ_in' (by omega) (by omega))))) (hd 190 rfl) <| zmv rfl (hd 191 rfl) <| jo_l (ly_is (ly_add rfl rfl rfl) (show V.i .u64 _ = V.i .u64 (((msL u v q).getD v.length 0 + (adN (msL u v q) v v.length).2) % 18446744073709551616) from congrArg (V.i .u64) u64_wrap_mod)) (hd 192 rfl) <| jo_l (ly_ia (i := v.length) sl28 rfl rfl rfl (by first | rfl | omega) (by omega) rfl) (hd 193 rfl) <| jo_st (sy_storei rfl rfl rfl one82 (by omega)) <| jo_nil <| jc_seq <| jc_region ?_; refine zmv rfl (hd 194 rfl) <| zas rfl (hd 4 rfl) <| jo_nil <| jc_ret ?_
                refine ⟨_, (.cons rfl .nil), rfl, (.cons ints_id (.cons ints_id .nil)), ?_⟩
                exact ⟨rfl, bkL (msL u v q) v, by show [(⟨79, 1, 0, true, ints .u64 _⟩ : Ob), _] = [⟨79, 1, 0, true, ints .u64 _⟩, _]; rw [bk_row (by omega) (by omega)], by omega, hgu, hgv⟩
          · have hb0 : msB u v q = 0 := by omega
            have hq9 : q = vl u / vl v := by omega
            have hgl2 : gsL u v q = msL u v q := if_pos hb0
            rw [hgl2] at hgl hgu hgv
            refine jc_skip <| zsr <| zmv rfl (hd 194 rfl) <| zas rfl (hd 4 rfl) <| jo_nil <| jc_ret ?_
            refine ⟨_, (.cons rfl .nil), rfl, (.cons ints_id (.cons ints_id .nil)), ?_⟩
            rw [← hq9]
            exact ⟨rfl, (msL u v q), rfl, by omega, hgu, hgv⟩

set_option maxRecDepth 100000 in
theorem divide_s (a b : List Int) (la : a.length < 4294967296) (lb : b.length < 4294967296) (ua : u64s a) (ub : u64s b) (ta : tpd a) (tb : tpd b) (hb : b ≠ []) : Spec Tryz.prog 80 [.n false .u64 a, .n false .u64 b] (fun o => o = .ret (.t [.n false .u64 (lm (vl a / vl b)), .n false .u64 (lm (vl a % vl b))])) := by
  refine spec_of' [(0, .n false .u64 a), (1, .n false .u64 b)] rfl Tryz.func80 rfl (zlb rfl) fun Γ hN hds hL hR => ?_
  have hd := hdOf 104 hN
  have hcv := cmpL_val ua ub
  have hb0 := vl_pos ub tb hb
  have hva := vl_nonneg ua
  refine zsr <| zas rfl (hd 4 rfl) <| zas rfl (hd 5 rfl) <| jo_nil <| jc_seq <| zsr <| zmv rfl (hd 15 rfl) <| zmv rfl (hd 16 rfl) ?_
  refine jo_call Tryz.f67 (Compare_s a b la lb) rfl Tryz.func67 rfl rfl (ovL_cons rfl (ovL_cons rfl ovL_nil)) (.cons .n (.cons .n .nil)) (hd 17 rfl) ?_ (fun ch hp => by simp at hp)
  rintro _ ⟨⟩; refine jo_l (ly_lt rfl rfl) (hd 18 rfl) <| jo_nil ?_
  refine jc_if rfl (fun h1 => ?_) (fun h1 => ?_)
  · have hlt : vl a < vl b := by rcases hcv with ⟨c, v⟩ | ⟨c, v⟩ | ⟨c, v⟩ <;> omega
    refine zsr <| zmv rfl (hd 19 rfl) <| zas rfl (hd 4 rfl) <| zas rfl (hd 5 rfl) <| jo_nil <| jc_ret ?_
    refine ⟨_, _, (.cons rfl (.cons rfl .nil)), (.t1 (.nil (fr := false) (k := .u64)) (.t1 .nn .t0)), ?_⟩
    rw [Int.ediv_eq_zero_of_lt hva hlt, Int.emod_eq_of_lt hva hlt, lm_0, lm_id ua ta]
  · have hge : vl b ≤ vl a := by rcases hcv with ⟨c, v⟩ | ⟨c, v⟩ | ⟨c, v⟩ <;> omega
    have hlen := kn_len ua ub tb hb hge
    refine jc_skip <| jc_seq <| zsr <| zmv rfl (hd 20 rfl) <| jo_l (ly_lenn sl28 rfl) (hd 21 rfl) <| jo_l (ly_eq rfl rfl) (hd 22 rfl) <| jo_nil ?_
    refine jc_if rfl (fun h2 => ?_) (fun h2 => ?_)
    · obtain ⟨d, rfl⟩ : ∃ d, b = [d] := List.length_eq_one_iff.1 (by omega)
      have hdb := ub d (List.mem_singleton.2 rfl)
      have hd0 := tpd_one tb
      have hdp : 0 < d := by omega
      have hvd : vl [d] = d := by simp [vl]
      refine zsr <| zmv rfl (hd 23 rfl) <| jo_l (ly_lenn sl28 rfl) (hd 24 rfl) <| jo_h (hy_mk (m := a.length) el28 rfl rfl rfl (by show 8 * a.length ≤ _; omega) (by unfold maxLen; omega) rfl) (hd 25 rfl) <| zas rfl (hd 6 rfl) <| zas rfl (hd 7 rfl) <| jo_nil <| jc_seq <| zsr <| zmv rfl (hd 26 rfl) <| jo_l (ly_lenn sl28 rfl) (hd 27 rfl) ?_; refine jo_l (ly_sub rfl rfl (wrap_i64 (by omega) (by omega))) (hd 28 rfl) <| zas rfl (hd 8 rfl) <| jo_nil <| jc_block <| jc_H (H' := [⟨79, 1, 0, true, ints .u64 (List.replicate a.length 0 ++ (dvN a d (a.length - a.length)).1)⟩]) (by rw [Nat.sub_self]; show _ = [(⟨79, 1, 0, true, ints .u64 (List.replicate a.length 0 ++ [])⟩ : Ob)]; rw [List.append_nil]; rfl) ?_
      refine jc_loopF (G := Nat) (fun k => k ≤ a.length) (fun k => [(7, .i .u64 (dvN a d (a.length - k)).2), (8, .i .i64 ((k : Int) - 1)), (29, .u), (30, .u), (31, .u), (32, .u), (33, .u), (34, .u), (35, .u), (36, .u), (37, .u), (38, .u), (39, .u), (40, .u), (41, .u), (42, .u), (43, .u), (44, .u), (45, .u), (46, .u), (47, .u)]) (fun k => [⟨79, 1, 0, true, ints .u64 (List.replicate k 0 ++ (dvN a d (a.length - k)).1)⟩]) (fun k => k) a.length ?_ ?_ rfl ?_
      · exact Nat.le_refl _
      · exact (.cons (by show some (V.i .u64 0) = some (V.i .u64 (dvN a d (a.length - a.length)).2); rw [Nat.sub_self]; rfl) (.cons rfl (.u (.u (.u (.u (.u (.u (.u (.u (.u (.u (.u (.u (.u (.u (.u (.u (.u (.u (.u .nil)))))))))))))))))))))
      · rintro k hc1
        have hr := dvN_r (a := a) hdp (a.length - k)
        have hx := u64s_getD ua (k - 1)
        refine jc_seq <| zsr <| zmv rfl (hd 29 rfl) <| jo_l (ly_ge rfl rfl) (hd 30 rfl) <| jo_nil ?_
        refine jc_if rfl (fun h3 => ?_) (fun h3 => ?_)
        · refine jc_skip <| jc_seq <| jc_block <| jc_draw (n := 17) _ rfl mixed <| zal 0 (lo_l (ly_mv rfl) (hd 34 rfl)) rfl <| zal 1 (lo_l (ly_mv rfl) (hd 35 rfl)) rfl <| zal2 2 [10, 11, 12, 13, 14, 15, 16] (lo_l (ly_mv rfl) (hd 36 rfl)) rfl <| zal2 3 [5, 6, 10, 11, 12, 13, 14, 15, 16] (lo_l (ly_mv rfl) (hd 37 rfl)) rfl <| zal2 4 [5, 6, 10, 11, 12, 13, 14, 15, 16] (lo_l (ly_mv rfl) (hd 38 rfl)) rfl <| zal2 5 [6, 10, 11, 12, 13, 14, 15, 16] (lo_l (ly_ian (i := k - 1) sl28 rfl rfl (by omega) (by omega)) (hd 39 rfl)) rfl <| zal2 6 [10, 11, 12, 13, 14, 15, 16] (lo_l (ly_ldq one82 rfl rfl) (hd 40 rfl)) rfl <| zal2 7 [8, 9, 10, 11, 12, 13, 14, 15, 16] (lo_l (ly_mv rfl) (hd 41 rfl)) rfl <| zal2 8 [9, 10, 11, 12, 13, 14, 15, 16] (lo_l (ly_ian (i := 0) sl28 rfl rfl rfl (by simp)) (hd 42 rfl)) rfl ?_; refine zal2 9 [10, 11, 12, 13, 14, 15, 16] (lo_l (ly_ldq one82 rfl rfl) (hd 43 rfl)) rfl ?_
          refine ja_1 10 ?_ rfl (by kernel_rfl)
          refine js_call Tryz.f105 (Div64_s (dvN a d (a.length - k)).2 (a.getD (k - 1) 0) d hr.1 hr.2 hx.1 hx.2 hdb.2) rfl Tryz.func105 rfl rfl (ovL_cons rfl (ovL_cons rfl (ovL_cons rfl ovL_nil))) (.cons .i (.cons .i (.cons .i .nil))) (hd 44 rfl) ?_ (fun ch hp => by simp at hp)
          rintro _ ⟨⟩; refine zal 11 (lo_l (ly_mv rfl) (hd 33 rfl)) rfl <| zal 12 (lo_l (ly_ext rfl rfl) (hd 45 rfl)) rfl <| zal 13 (lo_ext rfl rfl (hd 46 rfl)) rfl <| zal 14 (lo_l (ly_ia (i := k - 1) sl28 rfl rfl rfl (by omega) (by omega) rfl) (hd 47 rfl)) rfl ?_
          refine ja_1 15 ?_ rfl (by kernel_rfl)
          refine js_st (sy_storei rfl rfl rfl one82 (by simp only [List.length_append, List.length_replicate, dvN_len]; omega)) rfl <| zal 16 (lo_l (ly_as rfl) (hd 7 rfl)) rfl <| ja_nil (by kernel_rfl) <| jc_region <| zmv rfl (hd 31 rfl) <| jo_l (ly_sub rfl rfl (wrap_i64 (by omega) (by omega))) (hd 32 rfl) <| zas rfl (hd 8 rfl) <| jo_nil ?_
          refine ⟨k - 1, ?_, ?_, (by show [(⟨79, 1, 0, true, ints .u64 _⟩ : Ob)] = [⟨79, 1, 0, true, ints .u64 _⟩]; rw [dv_row (by omega), dv_step (by omega) hc1]), cov_n 42 rfl rfl ?_⟩
          · omega
          · omega
          · exact (.cons (by show some (V.i .u64 _) = some (V.i .u64 _); rw [dv_step (by omega) hc1]) (.cons (by show some (V.i .i64 _) = some (V.i .i64 _); congr 2; omega) (.u (.u (.u (.u (.u (.u (.u (.u (.u (.u (.u (.u (.u (.u (.u (.u (.u (.u (.u .nil)))))))))))))))))))))
        · obtain rfl : k = 0 := by omega
          refine jc_exit <| zsr <| jo_frz (k := .u64) (l := List.replicate 0 0 ++ (dvN a d (a.length - 0)).1) (l' := (dvN a d a.length).1) 6 rfl rfl (by simp [dvN_len]) (by rw [Nat.sub_zero, List.drop_zero]; show List.take _ (dvN a d a.length).1 = _; rw [List.take_of_length_le (by rw [dvN_len]; exact Nat.le_refl _)]) hL <| zmv rfl (hd 48 rfl) ?_
          refine jo_call Tryz.f51 (Norm_s (dvN a d a.length).1 (by rw [dvN_len]; omega)) rfl Tryz.func51 rfl rfl (ovL_cons rfl ovL_nil) (.cons .n .nil) (hd 49 rfl) ?_ (fun ch hp => by simp at hp)
          rintro _ ⟨⟩; refine zmv rfl (hd 50 rfl) ?_
          refine jo_call Tryz.f68 (From_s (dvN a d (a.length - 0)).2) rfl Tryz.func68 rfl rfl (ovL_cons rfl ovL_nil) (.cons .i .nil) (hd 51 rfl) ?_ (fun ch hp => by simp at hp)
          rintro _ ⟨⟩; refine zas rfl (hd 4 rfl) <| zas rfl (hd 5 rfl) <| jo_nil <| jc_ret ?_
          refine ⟨_, _, (.cons rfl (.cons rfl .nil)), (.t1 .nn (.t1 .nn .t0)), ?_⟩
          have hde := dv_end ua hdp
          rw [Nat.sub_zero, hde.2, fl_lm (Int.emod_nonneg _ (by omega)) (by have := Int.emod_lt_of_pos (vl a) hdp; omega), hde.1, hvd]
    · have hbl : 0 < b.length := List.length_pos_iff.2 hb
      obtain ⟨n, hn⟩ : ∃ n, b.length = n + 2 := ⟨b.length - 2, by omega⟩
      have htb := tb hb
      rw [hn, show n + 2 - 1 = n + 1 by omega] at htb
      have hbt := u64s_getD ub (n + 1)
      obtain ⟨s, hs⟩ : ∃ s : Nat, 64 - bl 64 (b.getD (n + 1) 0).toNat = s := ⟨_, rfl⟩
      have hz := lz_int (show 0 < b.getD (n + 1) 0 by omega) hbt.2
      rw [hs] at hz
      obtain ⟨s64, y0, y1⟩ := hz
      obtain ⟨v, hv⟩ : ∃ v, (upL b s).take b.length = v := ⟨_, rfl⟩
      have hv2 := up_cut s64 ub (by rw [hn]; exact y1) hb
      have uv : u64s v := hv ▸ u64s_take (upL_u s64 ub) _
      have hlv : v.length = n + 2 := by rw [← hv, List.length_take, upL_len]; omega
      rw [hv] at hv2
      have htop := kn_top ub uv tb hn hlv hv2
      have hul := upL_len a s
      refine jc_skip <| zsr <| zmv rfl (hd 52 rfl) <| zmv rfl (hd 53 rfl) <| jo_l (ly_lenn sl28 rfl) (hd 54 rfl) <| jo_l (ly_sub rfl rfl (r := ((n + 1 : Nat) : Int)) (by rw [wrap_i64 (by omega) (by omega)]; omega)) (hd 55 rfl) <| jo_l (ly_ian (i := n + 1) sl28 rfl rfl (by first | rfl | omega) (by omega)) (hd 56 rfl) <| jo_l (ly_is (ly_ldq one82 rfl rfl) (show V.i .u64 _ = V.i .u64 (((b.getD (n + 1) 0).toNat : Int)) from congrArg (V.i .u64) (Int.toNat_of_nonneg hbt.1).symm)) (hd 57 rfl) ?_
      refine jo_call Tryz.f106 (Lz_s (b.getD (n + 1) 0).toNat (by omega)) rfl Tryz.func106 rfl rfl (ovL_cons rfl ovL_nil) (.cons .i .nil) (hd 58 rfl) ?_ (fun ch hp => by simp at hp)
      rintro _ ⟨⟩; refine jo_l (ly_conv und3 und116 rfl (r := (s : Int)) (by rw [hs]; exact wrap_u64 (by omega) (by omega))) (hd 59 rfl) <| zas rfl (hd 9 rfl) <| jo_nil <| jc_seq <| jc_draw (n := 11) _ rfl mixed <| zal2 0 [2, 5, 8, 9, 10] (lo_l (ly_mv rfl) (hd 60 rfl)) rfl <| zal2 1 [2, 5, 8, 9, 10] (lo_l (ly_mv rfl) (hd 61 rfl)) rfl <| zal2 3 [5, 8, 9, 10] (lo_l (ly_mv rfl) (hd 63 rfl)) rfl <| zal2 4 [5, 8, 9, 10] (lo_l (ly_mv rfl) (hd 64 rfl)) rfl <| zal2 6 [7, 8, 10] (lo_l (ly_mv rfl) (hd 66 rfl)) rfl <| zal 7 (lo_l (ly_lenn sl28 rfl) (hd 67 rfl)) rfl ?_
      refine ja_1 2 ?_ rfl (by kernel_rfl)
      refine js_callN Tryz.f107 (up_n s a (by omega) s64 ua) (fun o G ⟨_, h⟩ => h ▸ idless_cons ints_id idless_nil) rfl Tryz.func107 rfl rfl (ovL_cons rfl (ovL_cons rfl ovL_nil)) (.cons .n (.cons .i .nil)) (hd 62 rfl) ?_ (fun ch G hp => by simp at hp)
      rintro y G ⟨hy, rfl⟩; injection hy with hy; subst hy
      show JA _ _ _ _ _ ((62, .o 0 0 0 (a.length + 1)) :: _) _ _
      refine ja_1 5 ?_ rfl (by kernel_rfl)
      refine js_call Tryz.f107 (up_s s b (by omega) s64 ub) rfl Tryz.func107 rfl rfl (ovL_cons rfl (ovL_cons rfl ovL_nil)) (.cons .n (.cons .i .nil)) (hd 65 rfl) ?_ (fun ch hp => by simp at hp)
      rintro _ ⟨⟩; refine zal 8 (lo_l (ly_is (ly_sln sl28 rfl bnd_none (bnd_some' rfl rfl) (.inl rfl) (by omega) (by rw [upL_len]; omega)) (show V.n _ .u64 _ = V.n _ .u64 v by rw [List.drop_zero, hv])) (hd 68 rfl)) rfl <| zal 9 (lo_l (ly_as rfl) (hd 10 rfl)) rfl <| zal 10 (lo_l (ly_as rfl) (hd 11 rfl)) rfl <| ja_nil (by kernel_rfl) <| zsr <| zmv rfl (hd 69 rfl) <| jo_l (ly_lenn sl28 rfl) (hd 70 rfl) <| zas rfl (hd 12 rfl) <| jo_nil <| zsr <| zmv rfl (hd 71 rfl) ?_; refine jo_l (ly_lenn sl28 rfl) (hd 72 rfl) <| zmv rfl (hd 73 rfl) <| jo_l (ly_sub rfl rfl (r := ((a.length - v.length : Nat) : Int)) (by rw [wrap_i64 (by omega) (by omega)]; omega)) (hd 74 rfl) <| jo_l (ly_add rfl rfl (r := ((a.length - v.length + 1 : Nat) : Int)) (by rw [wrap_i64 (by omega) (by omega)]; omega)) (hd 75 rfl) <| jo_h (hy_mk (m := a.length - v.length + 1) el28 rfl rfl rfl (by show 8 * (a.length - v.length + 1) ≤ _; omega) (by unfold maxLen; omega) rfl) (hd 76 rfl) <| zas rfl (hd 13 rfl) <| jo_nil <| jc_seq <| zsr <| zmv rfl (hd 77 rfl) <| jo_l (ly_lenn sl28 rfl) (hd 78 rfl) <| zmv rfl (hd 79 rfl) ?_; refine jo_l (ly_sub rfl rfl (r := ((a.length - v.length : Nat) : Int)) (by rw [wrap_i64 (by omega) (by omega)]; omega)) (hd 80 rfl) <| zas rfl (hd 14 rfl) <| jo_nil <| jc_block <| jc_H (H' := [⟨79, 1, 0, true, ints .u64 (upL a s)⟩, ⟨79, 1, 0, true, ints .u64 (List.replicate (a.length - b.length + 1) 0 ++ [])⟩]) (by rw [List.append_nil, hn, ← hlv]; rfl) ?_
      refine jc_loopF (G := Nat × List Int × List Int) (fun g => g.1 ≤ a.length - b.length + 1 ∧ Kn (vl a * 2 ^ s) v (a.length + 1) g.1 g.2.1 g.2.2 ∧ g.2.2.length = a.length - b.length + 1 - g.1) (fun g => [(14, .i .i64 ((g.1 : Int) - 1)), (81, .u), (82, .u), (83, .u), (84, .u), (85, .u), (86, .u), (87, .u), (88, .u), (89, .u), (90, .u), (91, .u), (92, .u), (93, .u), (94, .u), (95, .u), (96, .u)]) (fun g => [⟨79, 1, 0, true, ints .u64 g.2.1⟩, ⟨79, 1, 0, true, ints .u64 (List.replicate g.1 0 ++ g.2.2)⟩]) (fun g => g.1) (a.length - b.length + 1, upL a s, []) ?_ ?_ rfl ?_
      · exact ⟨Nat.le_refl _, kn_start s64 ua ub tb hb hv2 hlen, by show 0 = _; omega⟩
      · exact (.cons (by show some (V.i .i64 _) = some (V.i .i64 _); congr 2; omega) (.u (.u (.u (.u (.u (.u (.u (.u (.u (.u (.u (.u (.u (.u (.u (.u .nil)))))))))))))))))
      · rintro ⟨k, U, Qs⟩ ⟨hk, hK, hQl⟩
        dsimp only at hk hK hQl
        refine jc_seq <| zsr <| zmv rfl (hd 81 rfl) <| jo_l (ly_ge rfl rfl) (hd 82 rfl) <| jo_nil ?_
        refine jc_if rfl (fun h4 => ?_) (fun h4 => ?_)
        · obtain ⟨k, rfl⟩ : ∃ m, k = m + 1 := ⟨k - 1, by omega⟩
          have hG := hK.gup uv hlv htop (by omega)
          have hKl := hK.lu
          refine jc_skip <| jc_seq <| jc_block <| jc_region <| zmv rfl (hd 85 rfl) <| zmv rfl (hd 86 rfl) <| zmv rfl (hd 87 rfl) <| zmv rfl (hd 88 rfl) <| zmv rfl (hd 89 rfl) <| zmv rfl (hd 90 rfl) <| jo_l (ly_add rfl rfl (r := ((k + v.length : Nat) : Int)) (by rw [wrap_i64 (by omega) (by omega)]; omega)) (hd 91 rfl) <| jo_l (ly_add rfl rfl (r := ((k + v.length + 1 : Nat) : Int)) (by rw [wrap_i64 (by omega) (by omega)]; omega)) (hd 92 rfl) <| jo_l (ly_slo (l := k) (h := k + (n + 3)) (r := k) (n := n + 3) sl28 rfl rfl (bnd_some' rfl (by omega)) (bnd_some' rfl (by omega)) (by omega) (by omega) (by omega) (by omega)) (hd 93 rfl) ?_; refine zmv rfl (hd 94 rfl) ?_
          refine jo_callM Tryz.f108 (guess_s U (slJ U k (n + 3)) v (List.replicate (k + 1) 0 ++ Qs) k n (by omega) (by omega) hK.uu rfl hG) rfl Tryz.func108 rfl rfl (ovL_cons rfl (ovL_cons rfl ovL_nil)) (.cons (.same rfl) (.cons .n .nil)) (freshless_cons ints_noFr (freshless_cons ints_noFr freshless_nil)) (hd 95 rfl) ?_ (fun ch H2 hp => by simp at hp)
          rintro y H2 ⟨hy, r, rfl, hrl, hru, hrv⟩; injection hy with hy; subst hy; refine jo_l (ly_ia (i := k) sl28 rfl rfl rfl (by omega) (by omega) rfl) (hd 96 rfl) <| jo_st (sy_storei rfl rfl rfl one82 (by simp only [List.length_append, List.length_replicate]; omega)) <| jo_nil <| jc_region <| zmv rfl (hd 83 rfl) <| jo_l (ly_sub rfl rfl (wrap_i64 (by omega) (by omega))) (hd 84 rfl) <| zas rfl (hd 14 rfl) <| jo_nil ?_
          refine ⟨(k, rwJ U k r, vl (slJ U k (n + 3)) / vl v :: Qs), ?_, ?_, (by show [_, (⟨79, 1, 0, true, ints .u64 _⟩ : Ob)] = [_, ⟨79, 1, 0, true, ints .u64 _⟩]; rw [dv_row']), cov_n 34 rfl rfl ?_⟩
          · exact ⟨by show k ≤ _; omega, hK.next hG (by omega) hrl hru hrv, by show (_ :: Qs).length = _; rw [List.length_cons]; omega⟩
          · show k < k + 1
            omega
          · exact (.cons (by show some (V.i .i64 _) = some (V.i .i64 _); congr 2; omega) (.u (.u (.u (.u (.u (.u (.u (.u (.u (.u (.u (.u (.u (.u (.u (.u .nil)))))))))))))))))
        · obtain rfl : k = 0 := by omega
          have hKl := hK.lu
          obtain ⟨hf1, hf2, hf3⟩ := hK.fin s64 hv2 hb0 ua uv (by omega)
          refine jc_exit <| jc_seq <| jc_frz (k := .u64) (l := List.replicate 0 0 ++ Qs) (l' := Qs) 13 rfl rfl (by simp only [List.length_append, List.length_replicate]; omega) (by rw [List.drop_zero]; show List.take _ Qs = _; rw [List.take_of_length_le (by omega)]) hL <| jc_frz (k := .u64) (l := U) (l' := U) 10 rfl rfl (by omega) (by rw [List.drop_zero, List.take_of_length_le (by omega)]) hL <| jc_draw (n := 9) _ rfl mixed <| zal2 0 [1, 6, 7, 8] (lo_l (ly_mv rfl) (hd 97 rfl)) rfl <| zal2 2 [4, 6, 7, 8] (lo_l (ly_mv rfl) (hd 99 rfl)) rfl <| zal2 3 [4, 6, 7, 8] (lo_l (ly_mv rfl) (hd 100 rfl)) rfl <| zal2 4 [6, 7, 8] (lo_l (ly_is (ly_sln sl28 rfl bnd_none (bnd_some' rfl rfl) (.inl rfl) (by omega) (by omega)) (show V.n _ .u64 _ = V.n _ .u64 (U.take v.length) by rw [List.drop_zero])) (hd 101 rfl)) rfl <| zal2 5 [6, 7, 8] (lo_l (ly_mv rfl) (hd 102 rfl)) rfl ?_
          refine ja_1 1 ?_ rfl (by kernel_rfl)
          refine js_call Tryz.f51 (Norm_s Qs (by omega)) rfl Tryz.func51 rfl rfl (ovL_cons rfl ovL_nil) (.cons .n .nil) (hd 98 rfl) ?_ (fun ch hp => by simp at hp)
          rintro y hy; injection hy with hy; subst hy
          refine ja_1 6 ?_ rfl (by kernel_rfl)
          refine js_call Tryz.f109 (div_down_s s (U.take v.length) (by rw [List.length_take]; omega) s64 (u64s_take hK.uu _)) rfl Tryz.func109 rfl rfl (ovL_cons rfl (ovL_cons rfl ovL_nil)) (.cons .n (.cons .i .nil)) (hd 103 rfl) ?_ (fun ch hp => by simp at hp)
          rintro _ ⟨⟩; refine zal 7 (lo_l (ly_as rfl) (hd 4 rfl)) rfl <| zal 8 (lo_l (ly_as rfl) (hd 5 rfl)) rfl <| ja_nil (by kernel_rfl) <| jc_ret ?_
          refine ⟨_, _, (.cons rfl (.cons rfl .nil)), (.t1 .nn (.t1 .nn .t0)), ?_⟩
          rw [hf1, hf3]

theorem Norm_v (v : Int) (hl : (lm v).length < 1099511627776) : Spec Tryz.prog 51 [.n false .u64 (lm v)] (fun o => o = .ret (.n true .u64 (lm v))) := by
  have h := Norm_s (lm v) hl
  rwa [trm_id (lm_t v)] at h
theorem Length_v (v : Int) (hl : (lm v).length < 1099511627776) : Spec Tryz.prog 39 [.n false .u64 (lm v)] (fun o => o = .ret (.i .i64 (lenV v : Int))) := by
  have h := Length_s (lm v) hl (lm_u v)
  rwa [lenN_lm] at h
theorem Compare_v (v w : Int) (hv : (lm v).length < 4294967296) (hw : (lm w).length < 4294967296) : Spec Tryz.prog 67 [.n false .u64 (lm v), .n false .u64 (lm w)] (fun o => o = .ret (.i .i64 (cmpI v.natAbs w.natAbs))) := by
  have h := Compare_s (lm v) (lm w) hv hw
  rw [trm_id (lm_t v), trm_id (lm_t w)] at h
  have e : cmpL (lm v) (lm w) = cmpI v.natAbs w.natAbs := cmpL_digs (by decide) _ _
  rwa [e] at h
theorem norm_v (s : Bool) (l : List Int) (v : Int) (hl : l.length < 1099511627776) (hu : u64s l) (hv : sv s l = v) : Spec Tryz.prog 82 [.a [.b s, .n false .u64 l]] (fun o => o = .ret (.a [.b (decide (v < 0)), .n true .u64 (lm v)])) := by
  have h := norm_s s l hl
  have e := raw_res hu hv
  rwa [e.1, e.2.1] at h
theorem result_v (s : Bool) (l : List Int) (v : Int) (hl : l.length < 1099511627776) (hu : u64s l) (hv : sv s l = v) (h : lenV v ≤ 67108864) : Spec Tryz.prog 81 [.b s, .n false .u64 l, .i .i64 0] (fun o => o = .ret (.t [.a [.b (decide (v < 0)), .n true .u64 (lm v)], .i .i64 0])) := by
  have e := raw_res hu hv
  have h := result_ok s l hl hu (by omega)
  rwa [e.1, e.2.1] at h
theorem divide_v (v w : Int) (hv : (lm v).length < 4294967296) (hw : (lm w).length < 4294967296) (h0 : w ≠ 0) : Spec Tryz.prog 80 [.n false .u64 (lm v), .n false .u64 (lm w)] (fun o => o = .ret (.t [.n false .u64 (lm (qn v w)), .n false .u64 (lm (rn v w))])) := by
  have h := divide_s (lm v) (lm w) hv hw (lm_u v) (lm_u w) (lm_t v) (lm_t w) (lm_ne h0)
  rwa [lm_v, lm_v] at h
theorem Sub_v (v w : Int) (h0 : 0 ≤ w) (hle : w ≤ v) (hv : lenV v ≤ 67108864) : Spec Tryz.prog 84 [.n false .u64 (lm v), .n false .u64 (lm w)] (fun o => o = .ret (.t [.n false .u64 (lm (v - w)), .i .i64 0])) := by
  have hw : lenV w ≤ 67108864 := Nat.le_trans (lenV_mono (by omega)) hv
  have hlv := lenV_lm hv
  have hlw := lenV_lm hw
  have ev : vl (lm v) = v := by rw [lm_v]; omega
  have ew : vl (lm w) = w := by rw [lm_v]; omega
  have hd : vl (difL (lm v) (lm w)) = v - w := by rw [vl_difL (lm_u v) (lm_u w) (by omega), ev, ew]
  have hu : u64s (difL (lm v) (lm w)) := sbN_u (u64s_trm (lm_u v)) (u64s_trm (lm_u w)) _
  have e := trm_lm hu hd
  have hc := cmpL_val (lm_u v) (lm_u w)
  have h := Sub_ok (lm v) (lm w) (by omega) (by omega) (lm_u v) (lm_u w) (by rcases hc with ⟨c, x⟩ | ⟨c, x⟩ | ⟨c, x⟩ <;> omega) (by rw [e, lenN_lm]; exact Nat.le_trans (lenV_mono (by omega)) hv)
  rwa [e] at h
theorem Add1_v (v : Int) (h0 : 0 ≤ v) (hv : lenV (v + 1) ≤ 67108864) : Spec Tryz.prog 83 [.n false .u64 (lm v), .n false .u64 [1]] (fun o => o = .ret (.t [.n false .u64 (lm (v + 1)), .i .i64 0])) := by
  have hlv := lenV_lm (Nat.le_trans (lenV_mono (show v.natAbs ≤ (v + 1).natAbs by omega)) hv)
  have ev : vl (lm v) = v := by rw [lm_v]; omega
  have u1 : u64s [1] := u64s1 (by decide) (by decide)
  have hd : vl (sumL (lm v) [1]) = v + 1 := by rw [vl_sumL, ev]; rfl
  have hc := adN_c (a := (swL (trm (lm v)) (trm [1])).1) (b := (swL (trm (lm v)) (trm [1])).2) (by unfold swL; split; exact u64s_trm u1; exact u64s_trm (lm_u v)) (by unfold swL; split; exact u64s_trm (lm_u v); exact u64s_trm u1) (swL (trm (lm v)) (trm [1])).1.length
  have hu : u64s (sumL (lm v) [1]) := u64s_app1 (adN_u _) hc.1 (by omega)
  have e := trm_lm hu hd
  have h := Add_ok (lm v) [1] (by omega) (by decide) (lm_u v) u1 (by rw [e, lenN_lm]; exact hv)
  rwa [e] at h
theorem Both_v (v w : Int) (hv : lenV v ≤ 67108864) (hw : lenV w ≤ 67108864) (h0 : w ≠ 0) : Spec Tryz.prog 121 [.n false .u64 (lm v), .n false .u64 (lm w)] (fun o => o = .ret (.t [.n false .u64 (lm (qn v w)), .n false .u64 (lm (rn v w)), .i .i64 0])) := by
  refine spec_of' [(0, .n false .u64 (lm v)), (1, .n false .u64 (lm w))] rfl Tryz.func121 rfl (zlb rfl) fun Γ hN hds hL hR => ?_
  have hd := hdOf 32 hN
  have hlv := lenV_lm hv
  have hlw := lenV_lm hw
  have hle := lenV_mono (v := qn v w) (w := v) qn_le
  have hlr := lenV_mono (v := rn v w) (w := w) (rn_le h0).1
  have hlq := lenV_lm (v := qn v w) (by omega)
  have hlR := lenV_lm (v := rn v w) (by omega)
  have hne := lm_ne h0
  refine zsr <| zas rfl (hd 4 rfl) <| zas rfl (hd 5 rfl) <| zas rfl (hd 6 rfl) <| jo_nil <| zsr <| zmv rfl (hd 9 rfl) ?_
  refine jo_call Tryz.f51 (Norm_v v (by omega)) rfl Tryz.func51 rfl rfl (ovL_cons rfl ovL_nil) (.cons .n .nil) (hd 10 rfl) ?_ (fun ch hp => by simp at hp)
  rintro _ ⟨⟩; refine zmv rfl (hd 11 rfl) ?_
  refine jo_call Tryz.f51 (Norm_v w (by omega)) rfl Tryz.func51 rfl rfl (ovL_cons rfl ovL_nil) (.cons .n .nil) (hd 12 rfl) ?_ (fun ch hp => by simp at hp)
  rintro _ ⟨⟩; refine zas rfl (hd 0 rfl) <| zas rfl (hd 1 rfl) <| jo_nil <| jc_seq <| zsr <| zmv rfl (hd 13 rfl) <| jo_l (ly_lenn sl28 rfl) (hd 14 rfl) <| jo_l (ly_ff (ly_eq rfl rfl) (fun h => hne (List.eq_nil_of_length_eq_zero (by omega)))) (hd 15 rfl) <| jo_nil <| jc_litf rfl <| jc_skip <| jc_seq ?_; refine jc_region <| zmv rfl (hd 17 rfl) <| zmv rfl (hd 18 rfl) ?_
  refine jo_call Tryz.f80 (divide_v v w (by omega) (by omega) h0) rfl Tryz.func80 rfl rfl (ovL_cons rfl (ovL_cons rfl ovL_nil)) (.cons .n (.cons .n .nil)) (hd 19 rfl) ?_ (fun ch hp => by simp at hp)
  rintro _ ⟨⟩; refine zmv rfl (hd 16 rfl) <| jo_l (ly_ext rfl rfl) (hd 20 rfl) <| jo_l (ly_ext rfl rfl) (hd 21 rfl) <| zas rfl (hd 7 rfl) <| zas rfl (hd 8 rfl) <| jo_nil <| jc_seq <| zsr <| zmv rfl (hd 22 rfl) ?_
  refine jo_call Tryz.f39 (Length_v (qn v w) (by omega)) rfl Tryz.func39 rfl rfl (ovL_cons rfl ovL_nil) (.cons .n .nil) (hd 23 rfl) ?_ (fun ch hp => by simp at hp)
  rintro _ ⟨⟩; refine jo_l (ly_ff (ly_gt rfl rfl) (by omega)) (hd 24 rfl) <| zmv rfl (hd 25 rfl) <| jo_g 25 rfl rfl (ly_mv rfl) (hd 26 rfl) ?_
  refine jo_callg Tryz.f39 25 rfl rfl (Length_v (rn v w) (by omega)) rfl Tryz.func39 rfl rfl (ovL_cons rfl ovL_nil) (.cons .n .nil) (hd 27 rfl) ?_ (fun ch hp => by simp at hp)
  rintro _ ⟨⟩; refine jo_g 25 rfl rfl (ly_ff (ly_gt rfl rfl) (by omega)) (hd 28 rfl) <| jo_l (ly_pick_f rfl rfl) (hd 29 rfl) <| jo_nil <| jc_litf rfl <| jc_skip <| zsr <| zmv rfl (hd 30 rfl) <| zmv rfl (hd 31 rfl) <| zas rfl (hd 4 rfl) <| zas rfl (hd 5 rfl) <| zas rfl (hd 6 rfl) <| jo_nil ?_; refine jc_ret ?_
  refine ⟨_, _, (.cons rfl (.cons rfl (.cons rfl .nil))), (.t1 .n (.t1 .n (.t1 .i .t0))), ?_⟩
  exact rfl

theorem way1_v (v w : Int) : Spec Tryz.prog 132 [.n false .u64 (lm (qn v w)), .n false .u64 (lm (rn v w)), .n false .u64 (lm w), .b (ng v w), .b (decide (w < 0)), .b (decide (v < 0))] (fun o => o = .ret (.b (gro 1 v w))) := by
  refine spec_of' [(0, .n false .u64 (lm (qn v w))), (1, .n false .u64 (lm (rn v w))), (2, .n false .u64 (lm w)), (3, .b (ng v w)), (4, .b (decide (w < 0))), (5, .b (decide (v < 0)))] rfl Tryz.func132 rfl (zlb rfl) fun Γ hN hds hL hR => ?_
  have hd := hdOf 14 hN
  refine zsr <| zas rfl (hd 12 rfl) <| jo_nil <| zsr <| zmv rfl (hd 13 rfl) <| zas rfl (hd 12 rfl) <| jo_nil <| jc_ret ?_
  refine ⟨_, _, (.cons rfl .nil), .b, ?_⟩
  exact rfl


theorem From1_v : Spec Tryz.prog 68 [.i .u64 1] (fun o => o = .ret (.n true .u64 [1])) := From_s 1

theorem divide_z1 (s t : Bool) (a b : List Int) (v w : Int) (la : a.length < 1099511627776) (lb : b.length < 1099511627776) (ua : u64s a) (ub : u64s b) (ev : sv s a = v) (ew : sv t b = w) (hv : lenV v ≤ 67108864) (hw : lenV w ≤ 67108864) (h0 : w ≠ 0) : Spec Tryz.prog 104 [.a [.b s, .n false .u64 a], .a [.b t, .n false .u64 b], .i .i64 1] (fun o => o = .ret (.t [.a [.b (decide ((wq 1 v w) < 0)), .n true .u64 (lm (wq 1 v w))], .a [.b (decide ((v - wq 1 v w * w) < 0)), .n true .u64 (lm (v - wq 1 v w * w))], .i .i64 0])) := by
  refine spec_of' [(0, .a [.b s, .n false .u64 a]), (1, .a [.b t, .n false .u64 b]), (2, .i .i64 1)] rfl Tryz.func104 rfl (zlb rfl) fun Γ hN hds hL hR => ?_
  have hd := hdOf 103 hN
  have hlv := lenV_lm hv
  have hlw := lenV_lm hw
  obtain ⟨hx, hr0, hr1, hq0⟩ := qr_facts (v := v) h0
  have hle := lenV_mono (v := qn v w) (w := v) qn_le
  have hlr := lenV_mono (v := rn v w) (w := w) (rn_le h0).1
  have hlR := lenV_lm (v := rn v w) (by omega)
  have habs : lm (w.natAbs : Int) = lm w := by unfold lm; rw [Int.natAbs_natCast]
  have hlenw : lenV (w.natAbs : Int) = lenV w := by unfold lenV; rw [Int.natAbs_natCast]
  have hS := Sub_v (w.natAbs : Int) (rn v w) hr0 (by omega) (by omega)
  rw [habs] at hS
  have hwl := wq_len (k := 1) (v := v) h0
  refine zsr <| jo_h (hy_box (id := 0) (n := 2) rfl rfl rfl (by decide) rfl) (hd 3 rfl) <| jo_h (hy_box (id := 1) (n := 2) rfl rfl rfl (by decide) rfl) (hd 4 rfl) <| jo_h (hy_alloc (id := 2) zero30 (by decide) rfl (by decide) rfl) (hd 6 rfl) <| jo_h (hy_alloc (id := 3) zero30 (by decide) rfl (by decide) rfl) (hd 7 rfl) <| zas rfl (hd 8 rfl) <| jo_nil <| jc_seq <| jc_draw (n := 6) _ rfl mixed <| zal2 0 [1, 3, 4, 5] (lo_l (ly_lda agg30 rfl rfl rfl rfl) (hd 16 rfl)) rfl <| zal2 2 [3, 4, 5] (lo_l (ly_lda agg30 rfl rfl rfl rfl) (hd 18 rfl)) rfl ?_
  refine ja_1 1 ?_ rfl (by kernel_rfl)
  refine js_call Tryz.f82 (norm_v s a v la ua ev) rfl Tryz.func82 rfl rfl (ovL_cons rfl ovL_nil) (.cons (.a1 .b (.a1 .n .a0)) .nil) (hd 17 rfl) ?_ (fun ch hp => by simp at hp)
  rintro y hy; injection hy with hy; subst hy
  refine ja_1 3 ?_ rfl (by kernel_rfl)
  refine js_call Tryz.f82 (norm_v t b w lb ub ew) rfl Tryz.func82 rfl rfl (ovL_cons rfl ovL_nil) (.cons (.a1 .b (.a1 .n .a0)) .nil) (hd 19 rfl) ?_ (fun ch hp => by simp at hp)
  rintro y hy; injection hy with hy; subst hy
  refine ja_1 4 ?_ rfl (by kernel_rfl)
  refine js_st (sy_store rfl rfl rfl siz30 rfl rfl (zlb rfl)) rfl ?_
  refine ja_1 5 ?_ rfl (by kernel_rfl)
  refine js_st (sy_store rfl rfl rfl siz30 rfl rfl (zlb rfl)) rfl <| ja_nil (by kernel_rfl) <| zsr <| jo_l (ly_fa fld30_1 rfl rfl rfl) (hd 21 rfl) <| jo_l (ly_ld one28 rfl rfl rfl) (hd 22 rfl) <| jo_l (ly_fa fld30_1 rfl rfl rfl) (hd 23 rfl) <| jo_l (ly_ld one28 rfl rfl rfl) (hd 24 rfl) ?_
  refine jo_call Tryz.f121 (Both_v v w hv hw h0) rfl Tryz.func121 rfl rfl (ovL_cons rfl (ovL_cons rfl ovL_nil)) (.cons .n (.cons .n .nil)) (hd 25 rfl) ?_ (fun ch hp => by simp at hp)
  rintro _ ⟨⟩; refine zmv rfl (hd 20 rfl) <| jo_l (ly_ext rfl rfl) (hd 26 rfl) <| jo_l (ly_ext rfl rfl) (hd 27 rfl) <| jo_l (ly_ext rfl rfl) (hd 28 rfl) <| zas rfl (hd 9 rfl) <| zas rfl (hd 10 rfl) <| zas rfl (hd 11 rfl) <| jo_nil <| jc_seq <| zsr <| zmv rfl (hd 29 rfl) <| jo_l (ly_ff (ly_ne rfl rfl) (by simp)) (hd 30 rfl) ?_; refine jo_nil <| jc_litf rfl <| jc_skip <| jc_seq <| jc_draw (n := 9) _ rfl mixed <| zal2 0 [1, 4, 7, 8] (lo_l (ly_fa fld30_0 rfl rfl rfl) (hd 34 rfl)) rfl <| zal 1 (lo_l (ly_ld one4 rfl rfl rfl) (hd 35 rfl)) rfl <| zal2 2 [3, 4, 7, 8] (lo_l (ly_fa fld30_0 rfl rfl rfl) (hd 36 rfl)) rfl <| zal 3 (lo_l (ly_ld one4 rfl rfl rfl) (hd 37 rfl)) rfl <| zal 4 (lo_l (ly_is (ly_neb und4 rfl rfl) (show V.b _ = V.b (ng v w) from rfl)) (hd 38 rfl)) rfl <| zal 5 (lo_l (ly_fa fld30_0 rfl rfl rfl) (hd 39 rfl)) rfl <| zal 6 (lo_l (ly_ld one4 rfl rfl rfl) (hd 40 rfl)) rfl <| zal 7 (lo_l (ly_as rfl) (hd 12 rfl)) rfl ?_; refine zal 8 (lo_l (ly_as rfl) (hd 13 rfl)) rfl <| ja_nil (by kernel_rfl) ?_
  refine jc_meetH (G := Int × Int × Bool) (fun g => sgd (ng v w) g.1 = (wq 1 v w) ∧ sgd g.2.2 g.2.1 = (v - wq 1 v w * w) ∧ 0 ≤ g.1 ∧ 0 ≤ g.2.1) (fun g => [(9, .n false .u64 (lm g.1)), (10, .n false .u64 (lm g.2.1)), (13, .b g.2.2), (8, .u), (11, .u), (41, .u), (42, .u), (43, .u), (44, .u), (45, .u), (46, .u), (47, .u), (48, .u), (49, .u), (50, .u), (51, .u), (52, .u), (53, .u), (54, .u), (55, .u), (56, .u), (57, .u), (58, .u), (59, .u), (60, .u), (61, .u), (62, .u), (63, .u), (64, .u), (65, .u), (66, .u), (67, .u), (68, .u), (69, .u), (70, .u), (71, .u), (72, .u), (73, .u), (74, .u), (75, .u), (76, .u), (77, .u), (78, .u)]) ?_ ?_
  · refine jc_seq <| jc_draw (n := 18) _ rfl mixed <| zal2 0 [1, 2, 3, 4, 5, 6, 7, 8, 9, 10, 11, 12, 13, 14, 15, 16, 17] (lo_l (ly_mv rfl) (hd 41 rfl)) rfl ?_
    refine ja_1 1 ?_ rfl (by kernel_rfl)
    refine js_call Tryz.f39 (Length_v (rn v w) (by omega)) rfl Tryz.func39 rfl rfl (ovL_cons rfl ovL_nil) (.cons .n .nil) (hd 42 rfl) ?_ (fun ch hp => by simp at hp)
    rintro _ ⟨⟩; refine zal2 2 [3, 4, 5, 6, 7, 8, 9, 10, 11, 12, 13, 14, 15, 16, 17] (lo_l (ly_gt rfl rfl) (hd 43 rfl)) rfl <| zal 3 (lo_l (ly_mv rfl) (hd 44 rfl)) rfl ?_
    refine ja_ifp 44 rfl (fun h2 => ?_) (fun h2 => ?_)
    · have hrn : rn v w ≠ 0 := fun e => by have := lenV_0.2 e; omega
      refine zal2 5 [6, 16, 17] (lo_g 44 rfl rfl (ly_mv rfl) (hd 46 rfl)) rfl <| zal2 7 [16, 17] (lo_g 44 rfl rfl (ly_mv rfl) (hd 48 rfl)) rfl <| zal2 8 [16, 17] (lo_g 44 rfl rfl (ly_mv rfl) (hd 49 rfl)) rfl <| zal2 9 [10, 16, 17] (lo_g 44 rfl rfl (ly_fa fld30_1 rfl rfl rfl) (hd 50 rfl)) rfl <| zal2 10 [16, 17] (lo_g 44 rfl rfl (ly_ld one28 rfl rfl rfl) (hd 51 rfl)) rfl <| zal2 11 [16, 17] (lo_g 44 rfl rfl (ly_mv rfl) (hd 52 rfl)) rfl <| zal2 12 [13, 16, 17] (lo_g 44 rfl rfl (ly_fa fld30_0 rfl rfl rfl) (hd 53 rfl)) rfl <| zal2 13 [16, 17] (lo_g 44 rfl rfl (ly_ld one4 rfl rfl rfl) (hd 54 rfl)) rfl <| zal2 14 [15, 16, 17] (lo_g 44 rfl rfl (ly_fa fld30_0 rfl rfl rfl) (hd 55 rfl)) rfl <| zal2 15 [16, 17] (lo_g 44 rfl rfl (ly_ld one4 rfl rfl rfl) (hd 56 rfl)) rfl ?_
      refine ja_1 4 ?_ rfl (by kernel_rfl)
      refine js_callg Tryz.f127 44 rfl rfl (ways_s) rfl Tryz.func127 rfl rfl ovL_nil .nil (hd 45 rfl) ?_ (fun ch hp => by simp at hp)
      rintro _ ⟨⟩; refine zal2 6 [16, 17] (lo_g 44 rfl rfl (ly_ixa (i := 1) undA102 one101 rfl rfl rfl (by decide) rfl) (hd 47 rfl)) rfl ?_
      refine ja_1 16 ?_ rfl (by kernel_rfl)
      refine js_callg Tryz.f132 44 rfl rfl (way1_v v w) rfl Tryz.func132 rfl rfl (ovL_cons rfl (ovL_cons rfl (ovL_cons rfl (ovL_cons rfl (ovL_cons rfl (ovL_cons rfl ovL_nil)))))) (.cons .n (.cons .n (.cons .n (.cons .b (.cons .b (.cons .b .nil)))))) (hd 57 rfl) ?_ (fun ch hp => by simp at hp)
      rintro _ ⟨⟩; refine zal 17 (lo_l (ly_pick_t rfl rfl) (hd 58 rfl)) rfl <| ja_nil (by kernel_rfl) ?_
      refine jc_cond rfl (fun h3 => ?_) (fun h3 => ?_)
      · have hg : gro 1 v w = true := h3
        refine jc_seq <| zsr <| zmv rfl (hd 60 rfl) ?_
        refine jo_call Tryz.f68 (From1_v) rfl Tryz.func68 rfl rfl (ovL_cons rfl ovL_nil) (.cons .i .nil) (hd 61 rfl) ?_ (fun ch hp => by simp at hp)
        rintro y hy; injection hy with hy; subst hy
        refine jo_call Tryz.f83 (Add1_v (qn v w) hq0 (by have := lenV_mono (qn1_le h0 hrn); omega)) rfl Tryz.func83 rfl rfl (ovL_cons rfl (ovL_cons rfl ovL_nil)) (.cons .n (.cons .n .nil)) (hd 62 rfl) ?_ (fun ch hp => by simp at hp)
        rintro _ ⟨⟩; refine zmv rfl (hd 59 rfl) <| jo_l (ly_ext rfl rfl) (hd 63 rfl) <| jo_l (ly_ext rfl rfl) (hd 64 rfl) <| zas rfl (hd 9 rfl) <| zas rfl (hd 11 rfl) <| jo_nil <| zsr <| zmv rfl (hd 65 rfl) <| jo_l (ly_ff (ly_ne rfl rfl) (by simp)) (hd 66 rfl) <| jo_nil <| jc_litf rfl <| jc_skip ?_; refine zsr <| jo_l (ly_fa fld30_1 rfl rfl rfl) (hd 71 rfl) <| jo_l (ly_ld one28 rfl rfl rfl) (hd 72 rfl) <| zmv rfl (hd 73 rfl) ?_
        refine jo_call Tryz.f84 (hS) rfl Tryz.func84 rfl rfl (ovL_cons rfl (ovL_cons rfl ovL_nil)) (.cons .n (.cons .n .nil)) (hd 74 rfl) ?_ (fun ch hp => by simp at hp)
        rintro _ ⟨⟩; refine zmv rfl (hd 70 rfl) <| jo_l (ly_ext rfl rfl) (hd 75 rfl) <| jo_l (ly_ext rfl rfl) (hd 76 rfl) <| zas rfl (hd 10 rfl) <| jo_nil <| jc_region <| zmv rfl (hd 77 rfl) <| jo_l (ly_not rfl) (hd 78 rfl) <| zas rfl (hd 13 rfl) <| jo_nil ?_
        refine ⟨(qn v w + 1, (w.natAbs : Int) - rn v w, !decide (v < 0)), ?_, rfl, cov_n 40 rfl rfl ?_⟩
        · have hy := way_yes (k := 1) h0 hrn hg
          exact ⟨hy.1, hy.2, by show 0 ≤ qn v w + 1; omega, by show 0 ≤ (w.natAbs : Int) - rn v w; omega⟩
        · exact (.cons rfl (.cons rfl (.cons rfl (.u (.u (.u (.u (.u (.u (.u (.u (.u (.u (.u (.u (.u (.u (.u (.u (.u (.u (.u (.u (.u (.u (.u (.u (.u (.u (.u (.u (.u (.u (.u (.u (.u (.u (.u (.u (.u (.u (.u (.u .nil)))))))))))))))))))))))))))))))))))))))))))
      · have hg : gro 1 v w = false := h3
        refine jc_skip ?_
        refine ⟨(qn v w, rn v w, decide (v < 0)), ?_, rfl, cov_n 19 rfl rfl ?_⟩
        · have hy := way_no (k := 1) h0 (by first | exact .inl hrn | exact .inr hg)
          exact ⟨hy.1, hy.2, hq0, hr0⟩
        · exact (.cons rfl (.cons rfl (.cons rfl (.u (.u (.u (.u (.u (.u (.u (.u (.u (.u (.u (.u (.u (.u (.u (.u (.u (.u (.u (.u (.u (.u (.u (.u (.u (.u (.u (.u (.u (.u (.u (.u (.u (.u (.u (.u (.u (.u (.u (.u .nil)))))))))))))))))))))))))))))))))))))))))))
    · have hrn : rn v w = 0 := lenV_0.1 (by omega)
      refine zal2 5 [6, 16, 17] (lo_s 44 rfl rfl rfl (hd 46 rfl)) rfl <| zal2 7 [16, 17] (lo_s 44 rfl rfl rfl (hd 48 rfl)) rfl <| zal2 8 [16, 17] (lo_s 44 rfl rfl rfl (hd 49 rfl)) rfl <| zal2 9 [10, 16, 17] (lo_s 44 rfl rfl rfl (hd 50 rfl)) rfl <| zal2 10 [16, 17] (lo_s 44 rfl rfl rfl (hd 51 rfl)) rfl <| zal2 11 [16, 17] (lo_s 44 rfl rfl rfl (hd 52 rfl)) rfl <| zal2 12 [13, 16, 17] (lo_s 44 rfl rfl rfl (hd 53 rfl)) rfl <| zal2 13 [16, 17] (lo_s 44 rfl rfl rfl (hd 54 rfl)) rfl <| zal2 14 [15, 16, 17] (lo_s 44 rfl rfl rfl (hd 55 rfl)) rfl <| zal2 15 [16, 17] (lo_s 44 rfl rfl rfl (hd 56 rfl)) rfl <| zal2 4 [6, 16, 17] (lo_s 44 rfl rfl rfl (hd 45 rfl)) rfl <| zal2 6 [16, 17] (lo_s 44 rfl rfl rfl (hd 47 rfl)) rfl <| zal 16 (lo_s 44 rfl rfl rfl (hd 57 rfl)) rfl ?_; refine zal 17 (lo_l (ly_pick_f rfl rfl) (hd 58 rfl)) rfl <| ja_nil (by kernel_rfl) <| jc_litf rfl <| jc_skip ?_
      refine ⟨(qn v w, rn v w, decide (v < 0)), ?_, rfl, cov_n 19 rfl rfl ?_⟩
      · have hy := way_no (k := 1) h0 (by first | exact .inl hrn | exact .inr hg)
        exact ⟨hy.1, hy.2, hq0, hr0⟩
      · exact (.cons rfl (.cons rfl (.cons rfl (.u (.u (.u (.u (.u (.u (.u (.u (.u (.u (.u (.u (.u (.u (.u (.u (.u (.u (.u (.u (.u (.u (.u (.u (.u (.u (.u (.u (.u (.u (.u (.u (.u (.u (.u (.u (.u (.u (.u (.u .nil)))))))))))))))))))))))))))))))))))))))))))
  · rintro ⟨q, r, rs⟩ ⟨hc1, hc2, hc3, hc4⟩
    dsimp only at hc1 hc2 hc3 hc4
    have hq1 : lenV q ≤ 67108864 := by have := lenV_mono (v := q) (w := (wq 1 v w)) (by rw [← hc1, sgd_abs]; exact Nat.le_refl _); omega
    have hr2 : lenV r ≤ 67108864 := by have := lenV_mono (v := r) (w := (v - wq 1 v w * w)) (by rw [← hc2, sgd_abs]; exact Nat.le_refl _); omega
    have hql := lenV_lm hq1
    have hrl := lenV_lm hr2
    refine zsr <| zmv rfl (hd 80 rfl) <| zmv rfl (hd 81 rfl) ?_
    refine jo_call Tryz.f81 (result_v (ng v w) (lm q) (wq 1 v w) (by omega) (lm_u q) (by rw [sv_sgd hc3]; exact hc1) (by omega)) rfl Tryz.func81 rfl rfl (ovL_cons rfl (ovL_cons rfl (ovL_cons rfl ovL_nil))) (.cons .b (.cons .n (.cons .i .nil))) (hd 82 rfl) ?_ (fun ch hp => by simp at hp)
    rintro _ ⟨⟩; refine zmv rfl (hd 79 rfl) <| jo_l (ly_ext rfl rfl) (hd 83 rfl) <| jo_l (ly_ext rfl rfl) (hd 84 rfl) <| jo_h (hy_alloc (id := 4) zero30 (by decide) rfl (by decide) rfl) (hd 14 rfl) <| jo_st (sy_store rfl rfl rfl siz30 rfl rfl (zlb rfl)) <| zas rfl (hd 11 rfl) <| jo_nil <| jc_seq <| zsr <| zmv rfl (hd 85 rfl) <| jo_l (ly_ff (ly_ne rfl rfl) (by simp)) (hd 86 rfl) <| jo_nil ?_; refine jc_litf rfl <| jc_skip <| zsr <| zmv rfl (hd 91 rfl) <| zmv rfl (hd 92 rfl) ?_
    refine jo_call Tryz.f81 (result_v rs (lm r) (v - wq 1 v w * w) (by omega) (lm_u r) (by rw [sv_sgd hc4]; exact hc2) (by omega)) rfl Tryz.func81 rfl rfl (ovL_cons rfl (ovL_cons rfl (ovL_cons rfl ovL_nil))) (.cons .b (.cons .n (.cons .i .nil))) (hd 93 rfl) ?_ (fun ch hp => by simp at hp)
    rintro _ ⟨⟩; refine zmv rfl (hd 90 rfl) <| jo_l (ly_ext rfl rfl) (hd 94 rfl) <| jo_l (ly_ext rfl rfl) (hd 95 rfl) <| jo_h (hy_alloc (id := 5) zero30 (by decide) rfl (by decide) rfl) (hd 15 rfl) <| jo_st (sy_store rfl rfl rfl siz30 rfl rfl (zlb rfl)) <| zas rfl (hd 11 rfl) <| jo_nil <| jc_seq <| zsr <| zmv rfl (hd 96 rfl) <| jo_l (ly_ff (ly_ne rfl rfl) (by simp)) (hd 97 rfl) <| jo_nil ?_; refine jc_litf rfl <| jc_skip <| jc_seq <| jc_draw (n := 5) _ rfl mixed <| zal 0 (lo_l (ly_lda agg30 rfl rfl rfl rfl) (hd 101 rfl)) rfl ?_
    refine ja_2 1 2 ?_ ?_ rfl rfl (by kernel_rfl)
    · refine js_l (ly_lda agg30 rfl rfl rfl rfl) (hd 102 rfl) ?_
      refine ja_1 2 ?_ rfl (by kernel_rfl)
      refine js_st (sy_store rfl rfl rfl siz30 rfl rfl (zlb rfl)) rfl ?_
      refine ja_1 3 ?_ rfl (by kernel_rfl)
      refine js_st (sy_store rfl rfl rfl siz30 rfl rfl (zlb rfl)) rfl <| zal 4 (lo_l (ly_as rfl) (hd 8 rfl)) rfl <| ja_nil (by kernel_rfl) <| jc_ret ?_
      refine ⟨_, _, (.cons (ResV.cell agg30 rfl rfl rfl rfl) (.cons (ResV.cell agg30 rfl rfl rfl rfl) (.cons rfl .nil))), (.t1 (.a1 .b (.a1 .n .a0)) (.t1 (.a1 .b (.a1 .n .a0)) (.t1 .i .t0))), ?_⟩
      exact rfl
    · refine js_st (sy_store rfl rfl rfl siz30 rfl rfl (zlb rfl)) rfl <| zal 1 (lo_l (ly_lda agg30 rfl rfl rfl rfl) (hd 102 rfl)) rfl ?_
      refine ja_1 3 ?_ rfl (by kernel_rfl)
      refine js_st (sy_store rfl rfl rfl siz30 rfl rfl (zlb rfl)) rfl <| zal 4 (lo_l (ly_as rfl) (hd 8 rfl)) rfl <| ja_nil (by kernel_rfl) <| jc_ret ?_
      refine ⟨_, _, (.cons (ResV.cell agg30 rfl rfl rfl rfl) (.cons (ResV.cell agg30 rfl rfl rfl rfl) (.cons rfl .nil))), (.t1 (.a1 .b (.a1 .n .a0)) (.t1 (.a1 .b (.a1 .n .a0)) (.t1 .i .t0))), ?_⟩
      exact rfl

theorem Floor_z (s t : Bool) (a b : List Int) (v w : Int) (la : a.length < 1099511627776) (lb : b.length < 1099511627776) (ua : u64s a) (ub : u64s b) (ev : sv s a = v) (ew : sv t b = w) (hv : lenV v ≤ 67108864) (hw : lenV w ≤ 67108864) (h0 : w ≠ 0) : Spec Tryz.prog 75 [.a [.b s, .n false .u64 a], .a [.b t, .n false .u64 b]] (fun o => o = .ret (.t [.a [.b (decide ((wq 1 v w) < 0)), .n true .u64 (lm (wq 1 v w))], .a [.b (decide ((v - wq 1 v w * w) < 0)), .n true .u64 (lm (v - wq 1 v w * w))], .i .i64 0])) := by
  refine spec_of' [(0, .a [.b s, .n false .u64 a]), (1, .a [.b t, .n false .u64 b])] rfl Tryz.func75 rfl (zlb rfl) fun Γ hN hds hL hR => ?_
  have hd := hdOf 13 hN
  refine zsr <| jo_h (hy_box (id := 0) (n := 2) rfl rfl rfl (by decide) rfl) (hd 2 rfl) <| jo_h (hy_box (id := 1) (n := 2) rfl rfl rfl (by decide) rfl) (hd 3 rfl) <| jo_h (hy_alloc (id := 2) zero30 (by decide) rfl (by decide) rfl) (hd 4 rfl) <| jo_h (hy_alloc (id := 3) zero30 (by decide) rfl (by decide) rfl) (hd 5 rfl) <| zas rfl (hd 6 rfl) <| jo_nil <| zsr <| jo_l (ly_lda agg30 rfl rfl rfl rfl) (hd 7 rfl) <| jo_l (ly_lda agg30 rfl rfl rfl rfl) (hd 8 rfl) ?_
  refine jo_call Tryz.f104 (divide_z1 s t a b v w la lb ua ub ev ew hv hw h0) rfl Tryz.func104 rfl rfl (ovL_cons rfl (ovL_cons rfl (ovL_cons rfl ovL_nil))) (.cons (.a1 .b (.a1 .n .a0)) (.cons (.a1 .b (.a1 .n .a0)) (.cons .i .nil))) (hd 9 rfl) ?_ (fun ch hp => by simp at hp)
  rintro _ ⟨⟩; refine jo_l (ly_ext rfl rfl) (hd 10 rfl) <| jo_l (ly_ext rfl rfl) (hd 11 rfl) <| jo_l (ly_ext rfl rfl) (hd 12 rfl) <| jo_st (sy_store rfl rfl rfl siz30 rfl rfl (zlb rfl)) <| jo_st (sy_store rfl rfl rfl siz30 rfl rfl (zlb rfl)) <| zas rfl (hd 6 rfl) <| jo_nil <| jc_ret ?_
  refine ⟨_, _, (.cons (ResV.cell agg30 rfl rfl rfl rfl) (.cons (ResV.cell agg30 rfl rfl rfl rfl) (.cons rfl .nil))), (.t1 (.a1 .b (.a1 .n .a0)) (.t1 (.a1 .b (.a1 .n .a0)) (.t1 .i .t0))), ?_⟩
  exact rfl







def xr5 (x : Int) : Int := bitop .xor .u64 x 5
def xorL (l : List Int) : List Int := l.map xr5
def xorI (l : List Int) (i : Nat) : List Int := xorL (l.take i) ++ l.drop i
def cpI (l : List Int) (i : Nat) : List Int := fillI (l.take i) l.length
theorem cpI_0 (l : List Int) : List.replicate l.length (0 : Int) = cpI l 0 := by simp [cpI, fillI]
theorem cpI_len {l : List Int} {i : Nat} (h : i ≤ l.length) : (cpI l i).length = l.length := fillI_len (by rw [List.length_take]; omega)
theorem cpI_all (l : List Int) : cpI l l.length = l := by rw [cpI, List.take_length, fillI_full rfl]
theorem cpI_set {l : List Int} {i : Nat} (h : i < l.length) : (cpI l i).set ((0 + i) * 1) (l.getD i 0) = cpI l (i + 1) := by
  rw [Nat.zero_add, Nat.mul_one]
  unfold cpI
  have e : (l.take i).length = i := by rw [List.length_take]; omega
  have := fillI_set (l := l.take i) (n := l.length) (v := l.getD i 0) (by omega)
  rw [e] at this
  rw [this, List.take_add_one, List.getElem?_eq_getElem h, List.getD_eq_getElem?_getD, List.getElem?_eq_getElem h]
  rfl
theorem lenV_add (a b : Int) : lenV (a + b) ≤ max (lenV a) (lenV b) + 1 := by
  have h := lenV_sub a (-b)
  rw [Int.sub_neg] at h
  have e : lenV (-b) = lenV b := by unfold lenV; rw [Int.natAbs_neg]
  rwa [e] at h


theorem rng_app {b : Nat} {l l' : List Int} (h : rng b l) (h' : rng b l') : rng b (l ++ l') := fun x hx => by
  rcases List.mem_append.1 hx with h1 | h1
  · exact h x h1
  · exact h' x h1
theorem rng_one {b : Nat} {x : Int} (h0 : 0 ≤ x) (h1 : x < b) : rng b [x] := fun y hy => by
  rw [List.mem_singleton.1 hy]; exact ⟨h0, h1⟩
theorem rng_zeros {b k : Nat} (hb : 0 < b) : rng b (List.replicate k 0) := fun x hx => by
  rw [(List.mem_replicate.1 hx).2]; omega
theorem vb_append (b : Nat) : ∀ l l' : List Int, vb b (l ++ l') = vb b l + (b : Int) ^ l.length * vb b l'
  | [], l' => by simp [vb]
  | x :: l, l' => by
    rw [List.cons_append, vb, vb, vb_append b l l', List.length_cons, Int.pow_succ, Int.mul_add, Int.mul_comm ((b : Int) ^ l.length) b, Int.mul_assoc]
    omega
theorem vb_inj {b : Nat} : ∀ {l l' : List Int}, rng b l → rng b l' → l.length = l'.length → vb b l = vb b l' → l = l'
  | [], [], _, _, _, _ => rfl
  | [], _ :: _, _, _, h, _ => by simp at h
  | _ :: _, [], _, _, h, _ => by simp at h
  | x :: l, y :: l', h1, h2, h3, h4 => by
    have hx := h1 x (List.mem_cons_self ..)
    have hy := h2 y (List.mem_cons_self ..)
    simp only [vb] at h4
    have e : x = y := by
      have e1 : (x + b * vb b l) % b = x := by rw [Int.add_mul_emod_self_left]; exact Int.emod_eq_of_lt hx.1 hx.2
      have e2 : (y + b * vb b l') % b = y := by rw [Int.add_mul_emod_self_left]; exact Int.emod_eq_of_lt hy.1 hy.2
      rw [← e1, ← e2, h4]
    subst e
    have hb : (b : Int) ≠ 0 := by omega
    have e2 : vb b l = vb b l' := Int.eq_of_mul_eq_mul_left hb (by omega)
    rw [vb_inj (rng_tail h1) (rng_tail h2) (by simpa using h3) e2]
theorem vb_lt {b : Nat} : ∀ {l : List Int}, rng b l → vb b l < (b : Int) ^ l.length
  | [], _ => by simp [vb]
  | x :: l, h => by
    have hx := h x (List.mem_cons_self ..)
    have ih := vb_lt (rng_tail h)
    rw [vb, List.length_cons, Int.pow_succ]
    have : (b : Int) * (vb b l + 1) ≤ b * (b : Int) ^ l.length := Int.mul_le_mul_of_nonneg_left (by omega) (by omega)
    rw [Int.mul_comm ((b : Int) ^ l.length)]
    rw [Int.mul_add] at this
    omega
def padD (b m x : Nat) : List Int := digs b x ++ List.replicate (m - (digs b x).length) 0
theorem padD_rng {b : Nat} (hb : 2 ≤ b) (m x : Nat) : rng b (padD b m x) := rng_app (rng_digs hb x) (rng_zeros (by omega))
theorem padD_vb {b : Nat} (hb : 2 ≤ b) (m x : Nat) : vb b (padD b m x) = x := by rw [padD, vb_app, vb_digs hb]
theorem padD_le {b : Nat} (m x : Nat) : (padD b m x).length = max m (digs b x).length := by simp [padD]; omega
theorem padD_len {b : Nat} (hb : 2 ≤ b) {m x : Nat} (h : x < b ^ m) : (padD b m x).length = m := by
  have := digs_len hb m x h
  rw [padD_le]; omega
theorem padD_eq {b : Nat} (hb : 2 ≤ b) {m x : Nat} {l : List Int} (hr : rng b l) (hl : l.length = m) (hv : vb b l = x) : l = padD b m x := by
  have h := vb_lt hr
  rw [hv, hl] at h
  have h' : x < b ^ m := by exact_mod_cast h
  exact vb_inj hr (padD_rng hb m x) (by rw [hl, padD_len hb h']) (by rw [hv, padD_vb hb])
theorem padD_app {b : Nat} (hb : 2 ≤ b) {n m q r : Nat} (hq : q < b ^ m) (hr : r < b ^ n) : padD b n r ++ padD b m q = padD b (n + m) (q * b ^ n + r) := by
  refine padD_eq hb (rng_app (padD_rng hb _ _) (padD_rng hb _ _)) (by rw [List.length_append, padD_len hb hr, padD_len hb hq]) ?_
  rw [vb_append, padD_len hb hr, padD_vb hb, padD_vb hb, Int.natCast_add, Int.natCast_mul, Int.natCast_pow, Int.mul_comm]
  omega
def hdg (b m x : Nat) : List Int := (padD b m x).reverse
theorem hdg_le {b : Nat} (m x : Nat) : (hdg b m x).length = max m (digs b x).length := by rw [hdg, List.length_reverse, padD_le]
theorem hdg_app {b : Nat} (hb : 2 ≤ b) {n m q r : Nat} (hq : q < b ^ m) (hr : r < b ^ n) : hdg b m q ++ hdg b n r = hdg b (n + m) (q * b ^ n + r) := by
  unfold hdg
  rw [← padD_app hb hq hr, List.reverse_append]
theorem hdg_rng {b : Nat} (hb : 2 ≤ b) (m x : Nat) : rng b (hdg b m x) := fun y hy => padD_rng hb m x y (List.mem_reverse.1 hy)
theorem digs_ne {b x : Nat} (hb : 2 ≤ b) (h : x ≠ 0) : digs b x ≠ [] := fun e => by
  have := vb_digs hb x
  rw [e] at this
  simp [vb] at this
  omega
theorem hdg_cut {b : Nat} (hb : 2 ≤ b) {m x : Nat} (hx : x ≠ 0) : hdg b m x = List.replicate (m - (digs b x).length) 0 ++ hdg b 1 x := by
  have h1 : 0 < (digs b x).length := List.length_pos_iff.2 (digs_ne hb hx)
  unfold hdg padD
  rw [List.reverse_append, List.reverse_append, show 1 - (digs b x).length = 0 by omega]
  simp
theorem hdg_head {b : Nat} (hb : 2 ≤ b) {x : Nat} (hx : x ≠ 0) : (hdg b 1 x).getD 0 0 ≠ 0 := by
  have h1 : 0 < (digs b x).length := List.length_pos_iff.2 (digs_ne hb hx)
  have ht := tpd_digs hb x (digs_ne hb hx)
  unfold hdg padD
  rw [show 1 - (digs b x).length = 0 by omega]
  simp only [List.replicate_zero, List.append_nil]
  rw [List.getD_eq_getElem?_getD, List.getElem?_reverse (by omega), Nat.sub_zero, ← List.getD_eq_getElem?_getD]
  exact ht

theorem pm_half {x k : Nat} (hk : 0 < k) : x / 2 ^ k = x / 2 ^ (k - 1) / 2 := by
  obtain ⟨j, rfl⟩ : ∃ j, k = j + 1 := ⟨k - 1, by omega⟩
  rw [Nat.add_sub_cancel, Nat.pow_succ, Nat.div_div_eq_div_mul]
theorem pm_bit1 {x k : Nat} (hk : 0 < k) (h : ((x / 2 ^ (k - 1) % 2 : Nat) : Int) = 1) : 2 * (x / 2 ^ k) + 1 = x / 2 ^ (k - 1) := by
  rw [pm_half hk]; omega
theorem pm_bit0 {x k : Nat} (hk : 0 < k) (h : ¬ ((x / 2 ^ (k - 1) % 2 : Nat) : Int) = 1) : 2 * (x / 2 ^ k) = x / 2 ^ (k - 1) := by
  rw [pm_half hk]; omega

theorem w63 {n p : Nat} (h : 2 ^ n ≤ p) (hp : p ≤ 9223372036854775808) : n ≤ 63 :=
  (Nat.pow_le_pow_iff_right (by decide : 1 < 2)).1 (Nat.le_trans h (show p ≤ 2 ^ 63 from hp))
theorem w_step {b n p : Nat} (hb : 2 ≤ b) (h1 : p = b ^ n) (h2 : 2 ^ n ≤ p) (h3 : p ≤ 9223372036854775808 / b) : p * b = b ^ (n + 1) ∧ 2 ^ (n + 1) ≤ p * b ∧ p * b ≤ 9223372036854775808 := by
  refine ⟨by rw [h1, Nat.pow_succ], ?_, (Nat.le_div_iff_mul_le (by omega)).1 h3⟩
  rw [Nat.pow_succ]
  exact Nat.mul_le_mul h2 hb
theorem w_exit {b n p : Nat} (hb : 2 ≤ b) (hb2 : b ≤ 36) (h1 : p = b ^ n) (h3 : ¬ p ≤ 9223372036854775808 / b) : 1 ≤ n := by
  rcases Nat.eq_zero_or_pos n with h | h
  · subst h
    exact absurd ((Nat.le_div_iff_mul_le (by omega)).2 (by rw [h1, Nat.pow_zero]; omega)) h3
  · exact h
theorem dg_in {b : Nat} (acc : List Int) (r : Int) : vb b (acc ++ [r % b]) + (b : Int) ^ (acc.length + 1) * (r / b) = vb b acc + (b : Int) ^ acc.length * r := by
  rw [vb_append]
  simp only [vb]
  rw [Int.pow_succ, Int.mul_zero, Int.add_zero, Int.mul_assoc, Int.add_assoc, ← Int.mul_add, Int.emod_add_mul_ediv]
theorem dgr_lt {b n i : Nat} {r : Int} (hb : 2 ≤ b) (hi : i < n) (h0 : 0 ≤ r) (h : r < (b : Int) ^ (n - i)) : 0 ≤ r / b ∧ r / b < (b : Int) ^ (n - (i + 1)) := by
  refine ⟨Int.ediv_nonneg h0 (by omega), Int.ediv_lt_of_lt_mul (by omega) ?_⟩
  rw [← Int.pow_succ]
  rwa [show (n - (i + 1)).succ = n - i by omega]
theorem dg_out {b n : Nat} {acc acc' : List Int} {v r : Int} (hl : acc'.length = acc.length + n) (h : vb b acc' + (b : Int) ^ acc'.length * r = vb b acc + (b : Int) ^ acc.length * (v % ((b ^ n : Nat) : Int))) (hr : r = 0) : vb b acc' + (b : Int) ^ acc'.length * (v / ((b ^ n : Nat) : Int)) = vb b acc + (b : Int) ^ acc.length * v := by
  subst hr
  rw [Int.mul_zero, Int.add_zero] at h
  rw [h, hl, Int.pow_add, ← Int.natCast_pow b n, Int.mul_assoc, Int.add_assoc, ← Int.mul_add, Int.emod_add_mul_ediv]
theorem pB_pow : ∀ n, pB n = ((2 ^ (64 * n) : Nat) : Int)
  | 0 => rfl
  | n + 1 => by
    rw [pB, pB_pow n, show 64 * (n + 1) = 64 * n + 64 by omega, Nat.pow_add, Int.natCast_mul, Int.mul_comm]
    rfl
theorem dg_cap {b L : Nat} (hb : 2 ≤ b) {acc l : List Int} {v : Int} (hr : rng b acc) (hv : 0 < v) (hu : u64s l) (hL : l.length ≤ L) (h : vb b acc + (b : Int) ^ acc.length * v = vl l) : acc.length < 64 * L := by
  have h0 := vb_nonneg hr
  have hlt := vl_lt hu
  have e := pB_pow l.length
  have h1 : ((2 ^ acc.length : Nat) : Int) ≤ (b : Int) ^ acc.length := by
    rw [← Int.natCast_pow]
    exact_mod_cast Nat.pow_le_pow_left hb acc.length
  have h2 : (b : Int) ^ acc.length * 1 ≤ (b : Int) ^ acc.length * v := Int.mul_le_mul_of_nonneg_left (by omega) (by have : (0 : Int) ≤ ((2 ^ acc.length : Nat) : Int) := Int.natCast_nonneg _; omega)
  have h3 : ((2 ^ acc.length : Nat) : Int) < ((2 ^ (64 * l.length) : Nat) : Int) := by omega
  have h4 : acc.length < 64 * l.length := (Nat.pow_lt_pow_iff_right (by decide : 1 < 2)).1 (by exact_mod_cast h3)
  omega
theorem dg_rlt {b n : Nat} {v : Int} (hb : 2 ≤ b) : 0 ≤ v % ((b ^ n : Nat) : Int) ∧ v % ((b ^ n : Nat) : Int) < (b : Int) ^ (n - 0) := by
  have hp : (0 : Int) < ((b ^ n : Nat) : Int) := by exact_mod_cast Nat.pow_pos (by omega)
  refine ⟨Int.emod_nonneg _ (by omega), ?_⟩
  rw [Nat.sub_zero, ← Int.natCast_pow]
  exact Int.emod_lt_of_pos _ hp
theorem dg_zero {b : Nat} {r : Int} (h0 : 0 ≤ r) {n : Nat} (h : r < (b : Int) ^ (n - n)) : r = 0 := by
  rw [Nat.sub_self, Int.pow_zero] at h
  omega
theorem dg_less {v : Int} {b n : Nat} (hv : 0 < v) (hb : 2 ≤ b) (hn : 1 ≤ n) : (v / ((b ^ n : Nat) : Int)).toNat < v.toNat := by
  have hp : 2 ≤ b ^ n := Nat.le_trans (show 2 ≤ b ^ 1 by rw [Nat.pow_one]; exact hb) (Nat.pow_le_pow_right (by omega) hn)
  have h1 : v / ((b ^ n : Nat) : Int) < v := Int.ediv_lt_self_of_pos_of_ne_one hv (by omega)
  omega
theorem rng_take {b : Nat} {l : List Int} (h : rng b l) (k : Nat) : rng b (l.take k) := fun x hx => h x (List.mem_of_mem_take hx)
theorem take_pred {l : List Int} {k : Nat} (hk : 0 < k) (hl : k ≤ l.length) : l.take k = l.take (k - 1) ++ [l.getD (k - 1) 0] := by
  obtain ⟨j, rfl⟩ : ∃ j, k = j + 1 := ⟨k - 1, by omega⟩
  rw [Nat.add_sub_cancel, List.take_add_one, List.getD_eq_getElem?_getD, List.getElem?_eq_getElem (by omega)]
  rfl
theorem cut_step {b k : Nat} {acc : List Int} (hk : 0 < k) (hl : k ≤ acc.length) (h0 : acc.getD (k - 1) 0 = 0) : vb b (acc.take (k - 1)) = vb b (acc.take k) := by
  rw [take_pred hk hl, h0]
  exact (vb_app b (acc.take (k - 1)) 1).symm
theorem cut_digs {b k x : Nat} (hb : 2 ≤ b) {acc : List Int} (hl : k ≤ acc.length) (hr : rng b acc) (hv : vb b (acc.take k) = x) (ht : k = 0 ∨ acc.getD (k - 1) 0 ≠ 0) : acc.take k = digs b x := by
  have h := digs_of hb (rng_take hr k) (fun hne => by
    rcases ht with h | h
    · subst h; exact absurd rfl hne
    · have hk : 0 < k := by
        rcases Nat.eq_zero_or_pos k with e | e
        · subst e; exact absurd rfl hne
        · exact e
      rw [List.length_take, Nat.min_eq_left hl, List.getD_eq_getElem?_getD, List.getElem?_take, if_pos (by omega), ← List.getD_eq_getElem?_getD]
      exact h)
  rw [← h, hv, Int.toNat_natCast]
theorem pad_end {b m k x : Nat} {C : List Int} (h1 : C.take k = digs b x ++ List.replicate (k - (digs b x).length) 0) (h2 : (digs b x).length ≤ k) (h3 : m ≤ k) (h4 : k ≤ max m (digs b x).length) : C.take k = padD b m x := by
  rw [h1, padD]
  congr 2
  omega
theorem pad_step {D C C' : List Int} {k : Nat} (hD : D.length ≤ k) (h1 : C.take k = D ++ List.replicate (k - D.length) 0) (h2 : C'.take (k + 1) = C.take k ++ [0]) : C'.take (k + 1) = D ++ List.replicate (k + 1 - D.length) 0 := by
  rw [h2, h1, List.append_assoc, show k + 1 - D.length = (k - D.length) + 1 by omega, List.replicate_succ']
theorem getT {C acc : List Int} {j : Nat} (h : C.take acc.length = acc) (hj : j < acc.length) : C.getD ((0 + j) * 1) 0 = acc.getD j 0 := by
  have e : acc.getD j 0 = (C.take acc.length).getD j 0 := by rw [h]
  rw [e, Nat.zero_add, Nat.mul_one, List.getD_eq_getElem?_getD, List.getD_eq_getElem?_getD, List.getElem?_take, if_pos hj]
theorem takeT {C acc : List Int} {k : Nat} (h : C.take acc.length = acc) (hk : k ≤ acc.length) : C.take k = acc.take k := by
  have := congrArg (List.take k) h
  rw [List.take_take, Nat.min_eq_left hk] at this
  exact this
def revI (B : List Int) (i : Nat) : List Int := List.replicate (B.length - i) 0 ++ (B.take i).reverse
theorem revI_0 (B : List Int) : revI B 0 = List.replicate B.length 0 := by simp [revI]
theorem revI_len {B : List Int} {i : Nat} (h : i ≤ B.length) : (revI B i).length = B.length := by simp [revI]; omega
theorem revI_all (B : List Int) : revI B B.length = B.reverse := by simp [revI]
theorem revI_set {B : List Int} {i : Nat} (h : i < B.length) : (revI B i).set (B.length - 1 - i) (B.getD i 0) = revI B (i + 1) := by
  have e : B.take (i + 1) = B.take i ++ [B.getD i 0] := by
    have := take_pred (l := B) (k := i + 1) (by omega) (by omega)
    rwa [Nat.add_sub_cancel] at this
  unfold revI
  obtain ⟨j, hj⟩ : ∃ j, B.length - 1 - i = j := ⟨_, rfl⟩
  rw [hj, show B.length - i = j + 1 by omega, show B.length - (i + 1) = j by omega, e, List.reverse_append, List.replicate_succ', List.append_assoc, List.set_append_right _ _ (by simp)]
  simp

def pwV (b k : Nat) : V := .n true .u64 (lm ((b ^ 2 ^ k : Nat) : Int))
def pwR (b K : Nat) : List (List V) := (List.range K).map fun k => [pwV b k]
theorem pw_length {b K : Nat} : (pwR b K).length = K := by simp [pwR]
theorem pw_snoc {b K : Nat} : (pwR b K).flatten ++ [pwV b K] = (pwR b (K + 1)).flatten := by
  unfold pwR
  rw [List.range_succ, List.map_append, List.flatten_append]
  rfl
theorem pw_one {b : Nat} : [pwV b 0] = (pwR b 1).flatten := rfl
theorem pw_mono {b j k : Nat} (hb : 2 ≤ b) (h : j ≤ k) : lenV ((b ^ 2 ^ j : Nat) : Int) ≤ lenV ((b ^ 2 ^ k : Nat) : Int) := by
  refine lenV_mono ?_
  rw [Int.natAbs_natCast, Int.natAbs_natCast]
  exact Nat.pow_le_pow_right (by omega) (Nat.pow_le_pow_right (by decide) h)
theorem pw_big {b k : Nat} {v : Int} (hv : lenV v ≤ 67108864) (h0 : 0 ≤ v) (h : 67108864 < lenV ((b ^ 2 ^ k : Nat) : Int)) : v.toNat < b ^ 2 ^ k := by
  rcases Nat.lt_or_ge v.toNat (b ^ 2 ^ k) with h1 | h1
  · exact h1
  · have := lenV_mono (v := ((b ^ 2 ^ k : Nat) : Int)) (w := v) (by rw [Int.natAbs_natCast]; omega)
    omega
theorem errL_len {x : Int} {r : List Int} {e : Int} (h : ErrL x r e) : r.length ≤ 1048576 := by
  rcases h with ⟨_, h, hh⟩ | ⟨_, h, _⟩
  · rw [h]; exact lenV_lm hh
  · rw [h]; simp
theorem errL_u {x : Int} {r : List Int} {e : Int} (h : ErrL x r e) : u64s r := by
  rcases h with ⟨_, h, hh⟩ | ⟨_, h, _⟩
  · rw [h]; exact lm_u _
  · rw [h]; exact fun x hx => by simp at hx
theorem errL_ne {x : Int} {r : List Int} {e : Int} (h : ErrL x r e) (he : e ≠ 0) : 67108864 < lenV x := by
  rcases h with ⟨h, _⟩ | ⟨_, _, h⟩
  · exact absurd h he
  · exact h
theorem errL_eq {x : Int} {r : List Int} {e : Int} (h : ErrL x r e) (he : e = 0) : r = lm x ∧ lenV x ≤ 67108864 := by
  rcases h with ⟨_, h⟩ | ⟨h, _⟩
  · exact h
  · omega
theorem pw_at {b K k : Nat} (h : k < K) : (pwR b K)[k]? = some [pwV b k] := by
  unfold pwR
  rw [List.getElem?_map, List.getElem?_range h]; rfl
theorem pw_flat {b : Nat} : ∀ K, (pwR b K).flatten = (List.range K).map (pwV b)
  | 0 => rfl
  | K + 1 => by rw [← pw_snoc, pw_flat K, List.range_succ, List.map_append]; rfl
theorem pw_flen {b K : Nat} : (pwR b K).flatten.length = K := by rw [pw_flat]; simp
theorem pw_fat {b K k : Nat} (h : k < K) : (pwR b K).flatten[k]? = some (pwV b k) := by
  rw [pw_flat, List.getElem?_map, List.getElem?_range h]; rfl
theorem pw_sz {b K : Nat} : ∀ r ∈ pwR b K, r.length = 1 := fun r hr => by
  obtain ⟨k, _, rfl⟩ := List.mem_map.1 hr; rfl
theorem pw_pure {b K : Nat} : ∀ r ∈ pwR b K, r.all pureV = true := fun r hr => by
  obtain ⟨k, _, rfl⟩ := List.mem_map.1 hr; rfl
theorem pw_id {b K n : Nat} : (pwR b K).flatten.all (idB n) = true := by
  rw [pw_flat, List.all_map, List.all_eq_true]; intro x _; rfl
theorem pw_pos {b k : Nat} (hb : 2 ≤ b) : 0 < b ^ 2 ^ k := Nat.pow_pos (by omega)
theorem pw_sq {b k : Nat} : b ^ 2 ^ k * b ^ 2 ^ k = b ^ 2 ^ (k + 1) := by
  rw [← Nat.pow_add]; congr 1; rw [Nat.pow_succ]; omega
theorem pw_sqI {b k : Nat} : vl (lm ((b ^ 2 ^ k : Nat) : Int)) * vl (lm ((b ^ 2 ^ k : Nat) : Int)) = ((b ^ 2 ^ (k + 1) : Nat) : Int) := by
  rw [vl_lm (Int.natCast_nonneg _), ← Int.natCast_mul, pw_sq]
theorem pw_cap {b k x L : Nat} (hb : 2 ≤ b) (h : b ^ 2 ^ k ≤ x) (hx : x < 2 ^ L) : 2 ^ k < L := by
  have h1 : 2 ^ 2 ^ k ≤ b ^ 2 ^ k := Nat.pow_le_pow_left hb _
  exact (Nat.pow_lt_pow_iff_right (by decide : 1 < 2)).1 (Nat.lt_of_le_of_lt h1 (Nat.lt_of_le_of_lt h hx))
theorem pw_cap26 {b k x : Nat} (hb : 2 ≤ b) (h : b ^ 2 ^ k ≤ x) (hx : x < 2 ^ 67108864) : k ≤ 26 := by
  have h1 := pw_cap hb h hx
  have h2 : 2 ^ k < 2 ^ 26 := h1
  have := (Nat.pow_lt_pow_iff_right (by decide : 1 < 2)).1 h2
  omega
theorem two_cap {k n : Nat} (h : k ≤ n) : 2 ^ k ≤ 2 ^ n := Nat.pow_le_pow_right (by decide) h
theorem nat_of {l : List Int} (hu : u64s l) : ((vl l).toNat : Int) = vl l := Int.toNat_of_nonneg (vl_nonneg hu)
theorem lenV_pow {v : Int} {L : Nat} (h0 : 0 ≤ v) (h : lenV v ≤ L) : v.toNat < 2 ^ L := by
  have h1 : v.natAbs < 2 ^ L := nbits_le.1 h
  have : v.toNat = v.natAbs := by omega
  omega
theorem digs_le_len {b : Nat} {l : List Int} (hu : u64s l) (hb : 2 ≤ b) : (digs b (vl l).toNat).length ≤ 64 * l.length := by
  refine digs_len hb _ _ ?_
  have h := vl_lt hu
  have h0 := vl_nonneg hu
  rw [pB_pow] at h
  have h1 : (vl l).toNat < 2 ^ (64 * l.length) := by omega
  exact Nat.lt_of_lt_of_le h1 (Nat.pow_le_pow_left hb _)
theorem part_q {b j x : Nat} (h : x < b ^ 2 ^ (j + 1)) : x / b ^ 2 ^ j < b ^ 2 ^ j := by
  rw [← pw_sq] at h
  exact Nat.div_lt_of_lt_mul h
theorem part_r {b j x : Nat} (hb : 2 ≤ b) : x % b ^ 2 ^ j < b ^ 2 ^ j := Nat.mod_lt _ (pw_pos hb)
theorem part_join {b j x : Nat} (hb : 2 ≤ b) (h : x < b ^ 2 ^ (j + 1)) : hdg b (2 ^ j) (x / b ^ 2 ^ j) ++ hdg b (2 ^ j) (x % b ^ 2 ^ j) = hdg b (2 ^ (j + 1)) x := by
  rw [hdg_app hb (part_q h) (part_r hb), Nat.div_add_mod' x]
  congr 1; rw [Nat.pow_succ]; omega
theorem qn_nat2 {v : Int} {p x : Nat} (h : v = (x : Int)) : (vl (lm (qn v (p : Int)))).toNat = x / p := by
  subst h
  rw [show qn (x : Int) (p : Int) = ((x / p : Nat) : Int) from by unfold qn; simp, vl_lm (Int.natCast_nonneg _)]; rfl
theorem rn_nat2 {v : Int} {p x : Nat} (h : v = (x : Int)) : (vl (lm (rn v (p : Int)))).toNat = x % p := by
  subst h
  rw [show rn (x : Int) (p : Int) = ((x % p : Nat) : Int) from by unfold rn; simp, vl_lm (Int.natCast_nonneg _)]; rfl
theorem cut_at {b m x i : Nat} (hb : 2 ≤ b) (hx : x ≠ 0) (hm : (digs b x).length ≤ m) (hi : i ≤ m - (digs b x).length) (hend : (hdg b m x).length - 1 ≤ i ∨ (hdg b m x).getD i 0 ≠ 0) : i = m - (digs b x).length := by
  have h1 : 0 < (digs b x).length := List.length_pos_iff.2 (digs_ne hb hx)
  rcases hend with h | h
  · rw [hdg_le] at h; omega
  · rcases Nat.lt_or_ge i (m - (digs b x).length) with hlt | hge
    · exfalso
      apply h
      rw [hdg_cut hb hx, List.getD_eq_getElem?_getD, List.getElem?_append_left (by simpa using hlt), List.getElem?_replicate, if_pos hlt]
      rfl
    · omega
theorem cut_next {b m x i : Nat} (hb : 2 ≤ b) (hx : x ≠ 0) (hm : (digs b x).length ≤ m) (hi : i ≤ m - (digs b x).length) (h0 : (hdg b m x).getD i 0 = 0) : i + 1 ≤ m - (digs b x).length := by
  rcases Nat.lt_or_ge i (m - (digs b x).length) with hlt | hge
  · exact hlt
  · exfalso
    obtain rfl : i = m - (digs b x).length := by omega
    apply hdg_head hb hx
    rw [hdg_cut hb hx, List.getD_eq_getElem?_getD, List.getElem?_append_right (by simp)] at h0
    simpa using h0
theorem cut_drop {b m x : Nat} (hb : 2 ≤ b) (hx : x ≠ 0) : (hdg b m x).drop (m - (digs b x).length) = hdg b 1 x := by
  rw [hdg_cut hb hx, List.drop_append_of_le_length (by simp)]
  simp

def ltrTab : ByteArray := ⟨#[48, 49, 50, 51, 52, 53, 54, 55, 56, 57, 97, 98, 99, 100, 101, 102, 103, 104, 105, 106, 107, 108, 109, 110, 111, 112, 113, 114, 115, 116, 117, 118, 119, 120, 121, 122]⟩
def ltr (x : Int) : Int := byteAt ltrTab x.toNat
def ltrB (x : Int) : UInt8 := UInt8.ofNat (ltr x).toNat
def txt (l : List Int) : ByteArray := ⟨(l.map ltrB).toArray⟩
theorem ltr_rng (x : Int) : 0 ≤ ltr x ∧ ltr x < 256 := byteAt_range _ _
theorem ltrB_to (x : Int) : ((ltrB x).toNat : Int) = ltr x := by
  have h := ltr_rng x
  unfold ltrB
  rw [UInt8.toNat_ofNat_of_lt' (by show (ltr x).toNat < 256; omega)]
  omega
theorem txt_I (l : List Int) : bytesI (txt l) = l.map ltr := by
  unfold bytesI txt
  rw [List.toList_toArray, List.map_map]
  exact List.map_congr_left fun x _ => ltrB_to x
theorem txt_size (l : List Int) : (txt l).size = l.length := by
  have := bytesI_len (txt l)
  rw [txt_I, List.length_map] at this
  omega
theorem txt_getD {l : List Int} {i : Nat} (h : i < l.length) : (l.map ltr).getD i 0 = ltr (l.getD i 0) := by
  rw [List.getD_eq_getElem?_getD, List.getElem?_map, List.getD_eq_getElem?_getD, List.getElem?_eq_getElem h]; rfl
theorem rng36 {b : Nat} (hb : b ≤ 36) {l : List Int} (h : rng b l) : rng 36 l := fun x hx => by have := h x hx; omega

def hv (b : Nat) (l : List Int) : Int := vb b l.reverse
theorem hv_snoc {b : Nat} {l : List Int} {d : Int} : hv b (l ++ [d]) = hv b l * b + d := by
  unfold hv
  rw [List.reverse_append]
  show d + (b : Int) * vb b l.reverse = _
  rw [Int.mul_comm, Int.add_comm]
theorem hv_app {b : Nat} (l m : List Int) : hv b (l ++ m) = hv b l * (b : Int) ^ m.length + hv b m := by
  unfold hv
  rw [List.reverse_append, vb_append, List.length_reverse, Int.add_comm, Int.mul_comm]
theorem hv_step {b i : Nat} {l : List Int} (h : i < l.length) : hv b (l.take (i + 1)) = hv b (l.take i) * b + l.getD i 0 := by
  have := take_pred (l := l) (k := i + 1) (by omega) (by omega)
  rw [Nat.add_sub_cancel] at this
  rw [this, hv_snoc]
theorem rng_rev {b : Nat} {l : List Int} (h : rng b l) : rng b l.reverse := fun x hx => h x (List.mem_reverse.1 hx)
theorem hv_nonneg {b : Nat} {l : List Int} (h : rng b l) : 0 ≤ hv b l := vb_nonneg (rng_rev h)
theorem hv_lt {b : Nat} {l : List Int} (h : rng b l) : hv b l < (b : Int) ^ l.length := by
  have := vb_lt (rng_rev h)
  rwa [List.length_reverse] at this
theorem hv_12 {b : Nat} {l : List Int} (hb : b ≤ 36) (hb0 : 2 ≤ b) (h : rng b l) (hl : l.length ≤ 12) : hv b l < 4738381338321616896 := by
  have h1 := hv_lt h
  have h2 : b ^ l.length ≤ 36 ^ 12 := Nat.le_trans (Nat.pow_le_pow_left hb _) (Nat.pow_le_pow_right (by decide) hl)
  have h3 : (b : Int) ^ l.length = ((b ^ l.length : Nat) : Int) := by simp
  rw [h3] at h1
  have h4 : (36 : Nat) ^ 12 = 4738381338321616896 := by decide
  omega
theorem hv_drop1 {b : Nat} {l : List Int} (h0 : l.getD 0 0 = 0) : hv b (l.drop 1) = hv b l := by
  cases l with
  | nil => rfl
  | cons x l =>
    have : x = 0 := h0
    subst this
    unfold hv
    rw [List.reverse_cons]
    exact (vb_app b l.reverse 1).symm
theorem hv_dropI {b i : Nat} {l : List Int} (h0 : (l.drop i).getD 0 0 = 0) (h : hv b (l.drop i) = hv b l) : hv b (l.drop (i + 1)) = hv b l := by
  rw [← h, ← hv_drop1 (l := l.drop i) h0, List.drop_drop]
theorem rng_drop {b : Nat} {l : List Int} (h : rng b l) (k : Nat) : rng b (l.drop k) := fun x hx => h x (List.mem_of_mem_drop hx)
def dgv (c : Int) : Int := if 48 ≤ c ∧ c ≤ 57 then c - 48 else if 97 ≤ c ∧ c ≤ 122 then c - 97 + 10 else 36
theorem dgv_rng {c : Int} (h0 : 0 ≤ c) (h1 : c < 256) : 0 ≤ dgv c ∧ dgv c ≤ 36 := by
  unfold dgv; split <;> (try split) <;> omega
def dgs (s : ByteArray) : List Int := (bytesI s).map dgv
theorem dgs_len (s : ByteArray) : (dgs s).length = s.size := by simp [dgs, bytesI_len]
theorem bytesI_getD {s : ByteArray} {i : Nat} (h : i < s.size) : (bytesI s).getD i 0 = byteAt s i := by
  unfold bytesI byteAt
  rw [dif_pos h, List.getD_eq_getElem?_getD, List.getElem?_map, Array.getElem?_toList, Array.getElem?_eq_getElem (by simpa using h)]
  rfl
theorem dgs_getD {s : ByteArray} {i : Nat} (h : i < s.size) : (dgs s).getD i 0 = dgv (byteAt s i) := by
  unfold dgs
  rw [List.getD_eq_getElem?_getD, List.getElem?_map]
  have h1 := bytesI_getD h
  rw [List.getD_eq_getElem?_getD] at h1
  have h2 : i < (bytesI s).length := by rw [bytesI_len]; exact h
  rw [List.getElem?_eq_getElem h2] at h1 ⊢
  rw [← h1]; rfl
theorem dgv_ltr {x : Int} (h0 : 0 ≤ x) (h1 : x < 36) : dgv (ltr x) = x := by
  obtain ⟨a, rfl⟩ : ∃ a : Nat, x = a := ⟨x.toNat, by omega⟩
  have key : ∀ a : Fin 36, dgv (ltr (a.val : Int)) = (a.val : Int) := by decide +kernel
  exact key ⟨a, by omega⟩
theorem dgs_txt {l : List Int} (h : rng 36 l) : dgs (txt l) = l := by
  unfold dgs
  rw [txt_I, List.map_map]
  conv => rhs; rw [← List.map_id l]
  exact List.map_congr_left fun x hx => dgv_ltr (h x hx).1 (h x hx).2

theorem hv_hdg {b : Nat} (hb : 2 ≤ b) (m x : Nat) : hv b (hdg b m x) = x := by
  unfold hv hdg
  rw [List.reverse_reverse, padD_vb hb]
theorem hv_cons {b : Nat} {x : Int} {l : List Int} : hv b (x :: l) = x * (b : Int) ^ l.length + hv b l := by
  have := hv_app (b := b) [x] l
  rw [List.singleton_append] at this
  rw [this]
  congr 1
  unfold hv; simp [vb]
def ordW (s t : ByteArray) : Int := if s.size < t.size ∨ (s.size = t.size ∧ Op.bytesLess s.toList t.toList = true) then -1 else if s = t then 0 else 1

theorem and1i {n : Nat} (h1 : n < 9223372036854775808) : bitop .and .i64 (n : Int) 1 = ((n % 2 : Nat) : Int) := by
  unfold bitop
  simp only [IntKind.bits]
  have e1 : (BitVec.ofInt 64 (n : Int)).toNat = n := by
    rw [BitVec.toNat_ofInt]; simp; omega
  have e2 : (BitVec.ofInt 64 1).toNat = 1 := by decide
  have e3 : (BitVec.ofInt 64 (n : Int) &&& BitVec.ofInt 64 1).toNat = n % 2 := by
    rw [BitVec.toNat_and, e1, e2]
    simp
  show IntKind.i64.wrap (((BitVec.ofInt 64 (n : Int) &&& BitVec.ofInt 64 1).toNat : Nat) : Int) = _
  rw [e3, wrap_i64 (by omega) (by omega)]
def PW (v n : Nat) : Int := ((v ^ n : Nat) : Int)
theorem PW_0 {v : Nat} : PW v 0 = 1 := rfl
theorem PW_1 {v : Nat} : PW v 1 = v := by unfold PW; rw [Nat.pow_one]
theorem PW_nn {v n : Nat} : 0 ≤ PW v n := Int.natCast_nonneg _
theorem PW_pos {v n : Nat} (hv : 2 ≤ v) : PW v n ≠ 0 := by
  have := Nat.pow_pos (n := n) (show 0 < v by omega)
  unfold PW; omega
theorem PW_add {v m n : Nat} : PW v m * PW v n = PW v (m + n) := by
  unfold PW; rw [← Int.natCast_mul, Nat.pow_add]
theorem PW_sq {v m : Nat} : vl (lm (PW v m)) * vl (lm (PW v m)) = PW v (2 * m) := by
  rw [vl_lm PW_nn, PW_add]; congr 1; omega
theorem PW_s {v m : Nat} : vl (lm (PW v m)) * vl (lm (v : Int)) = PW v (m + 1) := by
  rw [vl_lm PW_nn, vl_lm (Int.natCast_nonneg _), ← PW_1 (v := v), PW_add]
theorem PW_mono {v m n : Nat} (hv : 2 ≤ v) (h : m ≤ n) : lenV (PW v m) ≤ lenV (PW v n) := by
  refine lenV_mono ?_
  unfold PW
  rw [Int.natAbs_natCast, Int.natAbs_natCast]
  exact Nat.pow_le_pow_right (by omega) h
theorem errL_fit {x : Int} {r : List Int} {e : Int} (h : ErrL x r e) (hx : lenV x ≤ 67108864) : r = lm x ∧ e = 0 := by
  rcases h with ⟨h, h2, _⟩ | ⟨_, _, h⟩
  · exact ⟨h2, h⟩
  · omega
theorem lenV_ge {x : Int} {k : Nat} (h : 2 ^ k ≤ x.natAbs) : k + 1 ≤ lenV x := by
  unfold lenV
  rcases Nat.lt_or_ge (nbits x.natAbs) (k + 1) with h1 | h1
  · have := nbits_le.1 (show nbits x.natAbs ≤ k by omega)
    omega
  · exact h1
theorem lenV_pw {x : Int} (h : x ≠ 0) : 2 ^ (lenV x - 1) ≤ x.natAbs := by
  rcases Nat.lt_or_ge x.natAbs (2 ^ (lenV x - 1)) with h1 | h1
  · have h2 := nbits_le.2 h1
    have h3 : nbits x.natAbs = lenV x := rfl
    have h4 : 0 < lenV x := nbits_pos (by omega)
    omega
  · exact h1
theorem lenV_2 {v : Nat} (hv : 2 ≤ v) : 2 ≤ lenV (v : Int) := lenV_ge (k := 1) (by rw [Int.natAbs_natCast]; exact hv)
theorem PW_len {v n : Nat} (hv : 2 ≤ v) : (lenV (v : Int) - 1) * n + 1 ≤ lenV (PW v n) := by
  refine lenV_ge ?_
  have h := lenV_pw (x := (v : Int)) (by omega)
  rw [Int.natAbs_natCast] at h
  unfold PW
  rw [Int.natAbs_natCast, Nat.pow_mul]
  exact Nat.pow_le_pow_left h n
theorem PW_n {v n : Nat} (hv : 2 ≤ v) : n + 1 ≤ lenV (PW v n) := by
  have h1 := PW_len (n := n) hv
  have h2 := lenV_2 hv
  have h3 : 1 * n ≤ (lenV (v : Int) - 1) * n := Nat.mul_le_mul_right n (by omega)
  omega
theorem lenV_digK {b n K : Nat} {x : Int} (hb : b ≤ 36) (hb0 : 2 ≤ b) (h0 : 0 ≤ x) (hx : x ≤ PW b n) (hK : 6 * n < K) : lenV x ≤ K := by
  refine nbits_le.2 ?_
  have h1 : b ^ n ≤ 2 ^ (6 * n) := by
    rw [Nat.pow_mul]
    exact Nat.pow_le_pow_left (by omega) n
  have h4 : x.natAbs ≤ b ^ n := by unfold PW at hx; omega
  exact Nat.lt_of_le_of_lt (Nat.le_trans h4 h1) (Nat.pow_lt_pow_right (by decide) hK)
theorem lenV_dig {b n : Nat} {x : Int} (hb : b ≤ 36) (hb0 : 2 ≤ b) (h0 : 0 ≤ x) (hx : x ≤ PW b n) (hn : n ≤ 2097152) : lenV x ≤ 16777216 := lenV_digK hb hb0 h0 hx (by omega)
theorem PW_fit {b n : Nat} (hb : b ≤ 36) (hb0 : 2 ≤ b) (hn : n ≤ 2097152) : lenV (PW b n) ≤ 16777216 := lenV_dig hb hb0 PW_nn (Int.le_refl _) hn
theorem hv_split {b k : Nat} (l : List Int) (hk : k ≤ l.length) : hv b l = hv b (l.take (l.length - k)) * PW b k + hv b (l.drop (l.length - k)) := by
  have h := hv_app (b := b) (l.take (l.length - k)) (l.drop (l.length - k))
  rw [List.take_append_drop, List.length_drop, show l.length - (l.length - k) = k by omega] at h
  rw [h, show (b : Int) ^ k = PW b k by unfold PW; simp]
def cF (b n : Nat) : V := .n false .u64 (lm (PW b n))

theorem rOf_v {l : List Int} (hu : u64s l) : trm (dig l) = digs B32 (vl l).toNat := by
  rw [trm_dig (s := false) hu rfl]
  show digs 4294967296 (vl l).natAbs = digs 4294967296 (vl l).toNat
  have := vl_nonneg hu
  rw [show (vl l).natAbs = (vl l).toNat by omega]
theorem digs_dg {v : Int} (h : 0 ≤ v) : digs B32 v.toNat = dg v := by
  show digs 4294967296 v.toNat = digs 4294967296 v.natAbs
  rw [show v.natAbs = v.toNat by omega]

def padZ (l : List Int) (j : Nat) : List Int := List.replicate j 0 ++ l
def zfill (m i : Nat) : List Int := List.replicate i 48 ++ List.replicate (m - i) 0
def ptx (s : ByteArray) (k : Nat) : ByteArray := s.extract 0 (s.size - k) ++ ⟨#[46]⟩ ++ s.extract (s.size - k) s.size

theorem hv_lead {b : Nat} {l : List Int} (hb : 2 ≤ b) (hr : rng b l) (h0 : l.getD 0 0 ≠ 0) : PW b (l.length - 1) ≤ hv b l := by
  cases l with
  | nil => exact absurd rfl h0
  | cons x l =>
    rw [hv_cons]
    have hx := hr x (List.mem_cons_self ..)
    have h1 : x ≠ 0 := h0
    have h2 := hv_nonneg (b := b) (l := l) fun y hy => hr y (List.mem_cons_of_mem _ hy)
    have h3 : (0 : Int) < (b : Int) ^ l.length := Int.pow_pos (by omega)
    have h4 : 1 * (b : Int) ^ l.length ≤ x * (b : Int) ^ l.length := Int.mul_le_mul_of_nonneg_right (by omega) (by omega)
    show PW b l.length ≤ _
    unfold PW
    rw [Int.natCast_pow]
    omega
theorem PW_small {b n : Nat} (hb : b ≤ 36) (hb0 : 2 ≤ b) (hn : n ≤ 2097152) : lenV (PW b n) ≤ 67108864 := Nat.le_trans (PW_fit hb hb0 hn) (by decide)
theorem lead_len {b : Nat} {l : List Int} (hb : 2 ≤ b) (hr : rng b l) (hf : lenV (hv b l) ≤ 67108864) (hd : l.length = 0 ∨ l.getD 0 0 ≠ 0) : l.length ≤ 67108864 := by
  rcases hd with h | h
  · omega
  · have h1 := hv_lead hb hr h
    have h2 := PW_n (n := l.length - 1) hb
    have h3 : lenV (PW b (l.length - 1)) ≤ lenV (hv b l) := lenV_mono (by have := PW_nn (v := b) (n := l.length - 1); omega)
    omega
theorem lead_fit {b : Nat} {l : List Int} (hb : 2 ≤ b) (hb2 : b ≤ 36) (hr : rng b l) (hf : lenV (hv b l) ≤ 67108864) (hd : l.length = 0 ∨ l.getD 0 0 ≠ 0) : lenV (PW b ((l.length + 1) / 2)) ≤ 67108864 := by
  by_cases h1 : l.length ≤ 1
  · exact PW_small hb2 hb (by omega)
  · have h2 : l.getD 0 0 ≠ 0 := hd.resolve_left (by omega)
    have h3 := hv_lead hb hr h2
    refine Nat.le_trans (PW_mono hb (m := (l.length + 1) / 2) (n := l.length - 1) (by omega)) (Nat.le_trans (lenV_mono ?_) hf)
    have := PW_nn (v := b) (n := l.length - 1)
    omega
theorem half_fit {b : Nat} {l : List Int} {k : Nat} (hb : 2 ≤ b) (hr : rng b l) (hk : k ≤ l.length) (hf : lenV (hv b l) ≤ 67108864) :
    lenV (hv b (l.take (l.length - k))) ≤ 67108864 ∧ lenV (hv b (l.drop (l.length - k))) ≤ 67108864 ∧ lenV (hv b (l.take (l.length - k)) * PW b k) ≤ 67108864 := by
  have h1 := hv_split (b := b) (k := k) l hk
  have h2 := hv_nonneg (rng_take hr (l.length - k))
  have h3 := hv_nonneg (rng_drop hr (l.length - k))
  have h4 := PW_nn (v := b) (n := k)
  have h5 := PW_pos (v := b) (n := k) hb
  have h6 : hv b (l.take (l.length - k)) * 1 ≤ hv b (l.take (l.length - k)) * PW b k := Int.mul_le_mul_of_nonneg_left (by omega) h2
  exact ⟨Nat.le_trans (lenV_mono (by omega)) hf, Nat.le_trans (lenV_mono (by omega)) hf, Nat.le_trans (lenV_mono (by omega)) hf⟩

def wtxt (v : Int) : ByteArray := if v < 0 then (⟨#[45]⟩ : ByteArray) ++ txt (hdg 10 1 v.natAbs) else txt (hdg 10 1 v.natAbs)
theorem one_size (c : UInt8) (t : ByteArray) : ((⟨#[c]⟩ : ByteArray) ++ t).size = 1 + t.size := by rw [ByteArray.size_append]; rfl
theorem byte0 (c : UInt8) (t : ByteArray) : byteAt ((⟨#[c]⟩ : ByteArray) ++ t) 0 = (c.toNat : Int) := by
  unfold byteAt
  rw [dif_pos (by rw [one_size]; omega)]
  congr 2
theorem dgv_10 {c : Int} (h0 : 0 ≤ c) (h1 : c < 256) (h : dgv c < 10) : 48 ≤ c ∧ c ≤ 57 := by
  unfold dgv at h
  split at h
  · assumption
  · split at h <;> omega

def dgm (b : Nat) (s : ByteArray) : List Int := (dgs s).map fun d => if d < (b : Int) then d else -1

def tab10 : ByteArray := ⟨#[48, 49, 50, 51, 52, 53, 54, 55, 56, 57]⟩

def nwt (a x n : Nat) : Nat := (n * x + a / x ^ n) / (n + 1)
structure RootIs (a k r : Nat) : Prop where
  le : r ^ k ≤ a
  lt : a < (r + 1) ^ k
theorem RootIs.is {a k r x : Nat} (h : RootIs a k r) (h1 : r ≤ x) (h2 : x ^ k ≤ a) : x = r := by
  rcases Nat.lt_or_ge r x with h3 | h3
  · have h4 := Nat.pow_le_pow_left h3 k
    have h5 := h.lt
    have h6 : (r + 1) ^ k ≤ a := Nat.le_trans h4 h2
    omega
  · omega
def twoL (n : Nat) : List Int := List.replicate (n / 64) 0 ++ [((2 ^ (n % 64) : Nat) : Int), 0]
def twoS (n i : Nat) : List Int := if i = 0 then List.replicate (n / 64 + 2) 0 else twoL n

def smallB (K : Nat) (rows : List (List Int)) : Bool := rows.all fun l => decide (lenV (vl l) ≤ K)
theorem rn_nt {x y : Nat} : rn (x : Int) (y : Int) = ((x % y : Nat) : Int) := by
  unfold rn
  rw [Int.natAbs_natCast, Int.natAbs_natCast]
  rfl
theorem gcd_step {x y : Nat} : Nat.gcd y (x % y) = Nat.gcd x y := by
  rw [Nat.gcd_comm y, ← Nat.gcd_rec, Nat.gcd_comm]
theorem CoE.gcd {v w g x : Int} (h : CoE v w g x) : g = ((Nat.gcd v.natAbs w.natAbs : Nat) : Int) := by
  have h1 := (h.gc g).1 (Int.dvd_refl g)
  have h2 : g.natAbs ∣ Nat.gcd v.natAbs w.natAbs := Nat.dvd_gcd (Int.natAbs_dvd_natAbs.2 h1.1) (Int.natAbs_dvd_natAbs.2 h1.2)
  have h3 : ((Nat.gcd v.natAbs w.natAbs : Nat) : Int) ∣ g := (h.gc _).2 ⟨Int.ofNat_dvd_left.2 (Nat.gcd_dvd_left _ _), Int.ofNat_dvd_left.2 (Nat.gcd_dvd_right _ _)⟩
  have h4 := Nat.dvd_antisymm h2 (Int.ofNat_dvd_left.1 h3)
  have := h.g0
  omega

def tz (x : Nat) : Nat := if h : x = 0 ∨ x % 2 = 1 then 0 else tz (x / 2) + 1
termination_by x
decreasing_by omega
def od (x : Nat) : Nat := x / 2 ^ tz x
def fl8 (m : Nat) (s : Int) : Int := if m % 8 = 3 ∨ m % 8 = 5 then -s else s
def fl4 (x m : Nat) (s : Int) : Int := if x % 4 = 3 ∧ m % 4 = 3 then -s else s
def flt (x m : Nat) (s : Int) : Int := if tz x % 2 = 1 then fl8 m s else s
def tzTab : List Int := [0, 1, 56, 2, 57, 49, 28, 3, 61, 58, 42, 50, 38, 29, 17, 4, 62, 47, 59, 36, 45, 43, 51, 22, 53, 39, 33, 30, 24, 18, 12, 5, 63, 55, 48, 27, 60, 41, 37, 16, 46, 35, 44, 21, 52, 32, 23, 11, 54, 26, 40, 15, 34, 20, 31, 10, 25, 14, 19, 9, 13, 8, 7, 6]
abbrev tzCells : List V := ints .u8 tzTab

def dgl (z j : Nat) : Int := ((z / 2 ^ (64 * j) % 2 ^ 64 : Nat) : Int)
def dll (z m : Nat) : List Int := (List.range m).map (dgl z)
def tw (v : Int) : Nat := if v < 0 then (-v - 1).toNat else v.toNat
def andI (v w : Int) : Int :=
  if v < 0 then (if w < 0 then -((tw v ||| tw w : Nat) : Int) - 1 else ((tw w ^^^ (tw w &&& tw v) : Nat) : Int))
  else (if w < 0 then ((tw v ^^^ (tw v &&& tw w) : Nat) : Int) else ((tw v &&& tw w : Nat) : Int))
def orI (v w : Int) : Int :=
  if v < 0 then (if w < 0 then -((tw v &&& tw w : Nat) : Int) - 1 else -((tw v ^^^ (tw v &&& tw w) : Nat) : Int) - 1)
  else (if w < 0 then -((tw w ^^^ (tw w &&& tw v) : Nat) : Int) - 1 else ((tw v ||| tw w : Nat) : Int))
def xoI (v w : Int) : Int := if (decide (v < 0) != decide (w < 0)) = true then -((tw v ^^^ tw w : Nat) : Int) - 1 else ((tw v ^^^ tw w : Nat) : Int)
def bitI (v : Int) (i : Nat) : Int := if v < 0 then 1 - ((tw v / 2 ^ i % 2 : Nat) : Int) else ((tw v / 2 ^ i % 2 : Nat) : Int)

def Rw (l : List Int) (x : Nat) : Prop := u64s l ∧ vl l = (x : Int) ∧ l.length ≤ 1048576
theorem Rw.u {l : List Int} {x : Nat} (h : Rw l x) : u64s l := h.1
theorem Rw.v {l : List Int} {x : Nat} (h : Rw l x) : vl l = (x : Int) := h.2.1
theorem Rw.l {l : List Int} {x : Nat} (h : Rw l x) : l.length ≤ 1048576 := h.2.2
theorem Rw.t {l : List Int} {x : Nat} (h : Rw l x) : trm l = lm (x : Int) := trm_lm h.1 h.2.1
theorem Rw.b {l : List Int} {x : Nat} (h : Rw l x) : lenV (x : Int) ≤ 67108864 := by
  have h1 := lenV_64 (s := false) h.1
  rw [show sv false l = (x : Int) from h.2.1] at h1
  have := h.2.2
  omega
theorem Rw.n {l : List Int} {x : Nat} (h : Rw l x) : lenN l = lenV (x : Int) := lenN_lenV h.1 h.2.1
theorem Rw.of {x : Nat} (h : lenV (x : Int) ≤ 67108864) : Rw (lm (x : Int)) x := ⟨lm_u _, by rw [lm_v, Int.natAbs_natCast], lenV_lm h⟩
theorem Rw.nil : Rw [] 0 := ⟨fun x hx => (by cases hx), rfl, Nat.zero_le _⟩
theorem lenV_nat {x y : Nat} (h : x ≤ y) : lenV (x : Int) ≤ lenV (y : Int) := lenV_mono (by omega)
theorem lenV_zero {x : Nat} : lenV (x : Int) = 0 ↔ x = 0 := by
  unfold lenV
  rw [Int.natAbs_natCast]
  constructor
  · intro h
    rcases Nat.eq_zero_or_pos x with h0 | h0
    · exact h0
    · have := nbits_pos (n := x) (by omega); omega
  · rintro rfl; rfl
theorem qn_nt {x y : Nat} : qn (x : Int) (y : Int) = ((x / y : Nat) : Int) := by
  unfold qn
  rw [Int.natAbs_natCast, Int.natAbs_natCast]
  rfl
theorem lm_len0 {x : Nat} : (lm (x : Int)).length = 0 ↔ x = 0 := by
  constructor
  · intro h
    refine Decidable.byContradiction fun hx => ?_
    exact lm_ne (show (x : Int) ≠ 0 by omega) (List.eq_nil_of_length_eq_zero h)
  · rintro rfl; rw [show ((0 : Nat) : Int) = 0 from rfl, lm_0]; rfl
theorem lm_1n : lm ((1 : Nat) : Int) = [1] := by rw [← fl_lm (v := ((1 : Nat) : Int)) (by decide) (by decide)]; rfl
def rn0 (x y : Nat) : Nat := x / Nat.gcd x y
def rd0 (x y : Nat) : Nat := y / Nat.gcd x y
def sgq (s : Bool) (x : Nat) : Bool := s && decide (x ≠ 0)
theorem gcd_pos' {x y : Nat} (hy : y ≠ 0) : 0 < Nat.gcd x y := Nat.gcd_pos_of_pos_right _ (by omega)
theorem rn0_le {x y : Nat} : rn0 x y ≤ x := Nat.div_le_self _ _
theorem rd0_le {x y : Nat} : rd0 x y ≤ y := Nat.div_le_self _ _
theorem rd0_pos {x y : Nat} (hy : y ≠ 0) : 0 < rd0 x y := Nat.div_pos (Nat.le_of_dvd (by omega) (Nat.gcd_dvd_right _ _)) (gcd_pos' hy)
theorem rn0_mul {x y : Nat} : rn0 x y * Nat.gcd x y = x := Nat.div_mul_cancel (Nat.gcd_dvd_left _ _)
theorem rd0_mul {x y : Nat} : rd0 x y * Nat.gcd x y = y := Nat.div_mul_cancel (Nat.gcd_dvd_right _ _)
theorem rn0_0 {y : Nat} : rn0 0 y = 0 := by unfold rn0; exact Nat.zero_div _
theorem rd0_0 {y : Nat} (hy : y ≠ 0) : rd0 0 y = 1 := by unfold rd0; rw [Nat.gcd_zero_left]; exact Nat.div_self (by omega)
theorem rn0_eq0 {x y : Nat} : rn0 x y = 0 ↔ x = 0 := by
  constructor
  · intro h
    have := @rn0_mul x y
    rw [h, Nat.zero_mul] at this
    exact this.symm
  · rintro rfl; exact rn0_0
theorem rn0_cop {x y : Nat} (hy : y ≠ 0) : Nat.gcd (rn0 x y) (rd0 x y) = 1 := by
  have h := Nat.gcd_mul_right (rn0 x y) (Nat.gcd x y) (rd0 x y)
  rw [rn0_mul, rd0_mul] at h
  have h1 := gcd_pos' (x := x) hy
  have h2 : Nat.gcd (rn0 x y) (rd0 x y) * Nat.gcd x y = 1 * Nat.gcd x y := by omega
  exact Nat.eq_of_mul_eq_mul_right h1 h2
theorem rn0_b {x y L : Nat} (h : lenV (x : Int) ≤ L) : lenV ((rn0 x y : Nat) : Int) ≤ L := Nat.le_trans (lenV_nat rn0_le) h
theorem rd0_b {x y L : Nat} (h : lenV (y : Int) ≤ L) : lenV ((rd0 x y : Nat) : Int) ≤ L := Nat.le_trans (lenV_nat rd0_le) h
theorem gcd_b {x y L : Nat} (hy : y ≠ 0) (h : lenV (y : Int) ≤ L) : lenV ((Nat.gcd x y : Nat) : Int) ≤ L := Nat.le_trans (lenV_nat (Nat.le_of_dvd (by omega) (Nat.gcd_dvd_right _ _))) h

theorem sgq_0 {s : Bool} : sgq s 0 = false := by cases s <;> rfl
theorem sgq_p {s : Bool} {x : Nat} (h : x ≠ 0) : sgq s x = s := by unfold sgq; rw [decide_eq_true h, Bool.and_true]
theorem sgq_i {s : Bool} {x : Nat} : sgq (sgq s x) x = sgq s x := by cases s <;> cases h : decide (x ≠ 0) <;> simp [sgq, h]
theorem sgq_n {s : Bool} {x y : Nat} : sgq s (rn0 x y) = sgq s x := by unfold sgq; congr 1; rw [decide_eq_decide]; exact not_congr rn0_eq0
theorem lm_1w {v : Nat} (h0 : 0 < v) (h : v < 18446744073709551616) : lm ((v : Nat) : Int) = [(v : Int)] := by rw [← fl_lm (by omega) (by omega), if_neg (by omega)]
theorem rw_1 {v : Nat} (h0 : 0 < v) (h : v < 18446744073709551616) : Rw [(v : Int)] v := ⟨fun x hx => (by rw [List.mem_singleton] at hx; omega), (by show (v : Int) + Bs * 0 = _; omega), (by show 1 ≤ _; decide)⟩
def rtV (r : Bool × List Int × List Int) : List V := [.b r.1, .n false .u64 r.2.1, .n false .u64 r.2.2]
def rtsV (rs : List (Bool × List Int × List Int)) : List (List V) := rs.map rtV
def rat0 (rs : List (Bool × List Int × List Int)) (i : Nat) : Bool × List Int × List Int := rs.getD i (false, [], [])
theorem rtsV_len {rs : List (Bool × List Int × List Int)} : (rtsV rs).length = rs.length := by unfold rtsV; simp
theorem rtsV_at {rs : List (Bool × List Int × List Int)} {i : Nat} (h : i < rs.length) : (rtsV rs)[i]? = some [V.b (rat0 rs i).1, V.n false .u64 (rat0 rs i).2.1, V.n false .u64 (rat0 rs i).2.2] := by
  unfold rtsV rat0
  rw [List.getElem?_map, List.getD_eq_getElem?_getD, List.getElem?_eq_getElem h]
  rfl
def lkO (tg : TypeId) (rs : List (Bool × List Int × List Int)) : Out := if rs.all (fun r => decide (vl r.2.2 ≠ 0)) then .ret (.t []) else .pan (gave tg 70 false)
theorem lkO_n {tg : TypeId} {rs : List (Bool × List Int × List Int)} {i : Nat} (hi : i < rs.length) (h : vl (rat0 rs i).2.2 = 0) : lkO tg rs = .pan (gave tg 70 false) := by
  unfold lkO
  rw [if_neg]
  intro h1
  have h2 := List.all_eq_true.1 h1 _ (List.getElem_mem hi)
  unfold rat0 at h
  rw [List.getD_eq_getElem?_getD, List.getElem?_eq_getElem hi] at h
  simp at h2
  exact h2 h
theorem lkO_y {tg : TypeId} {rs : List (Bool × List Int × List Int)} (h : ∀ j < rs.length, vl (rat0 rs j).2.2 ≠ 0) : lkO tg rs = .ret (.t []) := by
  unfold lkO
  rw [if_pos]
  refine List.all_eq_true.2 fun r hr => decide_eq_true ?_
  obtain ⟨j, hj, rfl⟩ := List.getElem_of_mem hr
  have h2 := h j hj
  unfold rat0 at h2
  rwa [List.getD_eq_getElem?_getD, List.getElem?_eq_getElem hj] at h2
def ntx (x : Nat) : ByteArray := txt (hdg 10 1 x)
def rtx1 (s : Bool) (x : Nat) : ByteArray := if s then (⟨#[45]⟩ : ByteArray) ++ ntx x else ntx x
def rtx (s : Bool) (x y : Nat) : ByteArray := if y = 1 then rtx1 s x else rtx1 s x ++ ((⟨#[47]⟩ : ByteArray) ++ ntx y)
theorem ntx_size0 {x L : Nat} (h : lenV (x : Int) ≤ L) : (ntx x).size ≤ L + 1 := by
  unfold ntx
  rw [txt_size, hdg_le]
  have h2 : x < 10 ^ L := Nat.lt_of_lt_of_le (nbits_le.1 h) (Nat.pow_le_pow_left (by decide) _)
  have := digs_len (b := 10) (by decide) L x h2
  omega
theorem ntx_size (x : Nat) (h : lenV (x : Int) ≤ 67108864) : (ntx x).size ≤ 67108865 := ntx_size0 h

theorem low_uniq {a b c d : Nat} (h1 : Nat.gcd a b = 1) (h2 : Nat.gcd c d = 1) (hb : b ≠ 0) (hd : d ≠ 0) (h : a * d = c * b) : a = c ∧ b = d := by
  have e1 : b ∣ d := by
    have hc : Nat.Coprime b a := by rw [Nat.coprime_comm]; exact h1
    exact hc.dvd_of_dvd_mul_left (h ▸ Nat.dvd_mul_left b c)
  have e2 : d ∣ b := by
    have hc : Nat.Coprime d c := by rw [Nat.coprime_comm]; exact h2
    exact hc.dvd_of_dvd_mul_left (h ▸ Nat.dvd_mul_left d a)
  have e := Nat.dvd_antisymm e1 e2
  subst e
  exact ⟨Nat.eq_of_mul_eq_mul_right (Nat.pos_of_ne_zero hb) h, rfl⟩
def nn (z : Int) (Y : Nat) : Nat := rn0 z.natAbs Y
def dd (z : Int) (Y : Nat) : Nat := rd0 z.natAbs Y
theorem low_of {a b : Nat} {z : Int} {Y : Nat} (h1 : Nat.gcd a b = 1) (hb : b ≠ 0) (hY : Y ≠ 0) (h : a * Y = z.natAbs * b) : a = nn z Y ∧ b = dd z Y := by
  refine low_uniq h1 (rn0_cop hY) hb (Nat.pos_iff_ne_zero.1 (rd0_pos hY)) ?_
  have e1 : nn z Y * Nat.gcd z.natAbs Y = z.natAbs := @rn0_mul z.natAbs Y
  have e2 : dd z Y * Nat.gcd z.natAbs Y = Y := @rd0_mul z.natAbs Y
  have hg := gcd_pos' (x := z.natAbs) hY
  refine Nat.eq_of_mul_eq_mul_right hg ?_
  show a * dd z Y * _ = nn z Y * b * _
  rw [Nat.mul_assoc, e2, h, Nat.mul_right_comm, e1]
theorem zs_neg {s : Bool} {x : Nat} : decide (zs s x < 0) = sgq s x := by
  unfold zs sgq
  cases s
  · simp
  · by_cases h : x = 0
    · subst h; rfl
    · rw [if_pos rfl, decide_eq_true h, Bool.true_and]; exact decide_eq_true (by omega)
theorem zs_mul {s : Bool} {x k : Nat} : zs s (x * k) = zs s x * (k : Int) := by
  unfold zs
  cases s <;> simp [Int.neg_mul]
theorem zs_dec (z : Int) : zs (decide (z < 0)) z.natAbs = z := by
  unfold zs
  by_cases h : z < 0
  · rw [if_pos (decide_eq_true h)]; omega
  · rw [if_neg (by rw [decide_eq_false h]; decide)]; omega
def Qe (s : Bool) (x y : Nat) (z : Int) (Y : Nat) : Prop := y ≠ 0 ∧ Y ≠ 0 ∧ zs s x * (Y : Int) = z * (y : Int)
theorem Qe.raw {s : Bool} {x y : Nat} (h : y ≠ 0) : Qe s x y (zs s x) y := ⟨h, h, rfl⟩
theorem Qe.abs {s : Bool} {x y : Nat} {z : Int} {Y : Nat} (h : Qe s x y z Y) : x * Y = z.natAbs * y := by
  have := congrArg Int.natAbs h.2.2
  rwa [Int.natAbs_mul, Int.natAbs_mul, Int.natAbs_natCast, Int.natAbs_natCast, zs_abs] at this
theorem Qe.sgn {s : Bool} {x y : Nat} {z : Int} {Y : Nat} (h : Qe s x y z Y) : sgq s x = decide (z < 0) := by
  rw [← zs_neg, decide_eq_decide]
  have h1 : (0 : Int) < (y : Int) := by have := h.1; omega
  have h2 : (0 : Int) < (Y : Int) := by have := h.2.1; omega
  have h3 := h.2.2
  constructor
  · intro h4
    have : zs s x * (Y : Int) < 0 := Int.mul_neg_of_neg_of_pos h4 h2
    rw [h3] at this
    exact Int.not_le.1 fun h5 => absurd (Int.mul_nonneg h5 (Int.le_of_lt h1)) (by omega)
  · intro h4
    have : z * (y : Int) < 0 := Int.mul_neg_of_neg_of_pos h4 h1
    rw [← h3] at this
    exact Int.not_le.1 fun h5 => absurd (Int.mul_nonneg h5 (Int.le_of_lt h2)) (by omega)
theorem Qe.low {s : Bool} {x y : Nat} {z : Int} {Y : Nat} (h : Qe s x y z Y) : rn0 x y = nn z Y ∧ rd0 x y = dd z Y := by
  refine low_of (rn0_cop h.1) (Nat.pos_iff_ne_zero.1 (rd0_pos h.1)) h.2.1 ?_
  have hg := gcd_pos' (x := x) h.1
  refine Nat.eq_of_mul_eq_mul_right hg ?_
  rw [Nat.mul_right_comm, rn0_mul, Nat.mul_assoc, rd0_mul, h.abs]
theorem Qe.can (z : Int) {Y : Nat} (hY : Y ≠ 0) : Qe (decide (z < 0)) (nn z Y) (dd z Y) z Y := by
  refine ⟨Nat.pos_iff_ne_zero.1 (rd0_pos hY), hY, ?_⟩
  have e1 := @rn0_mul z.natAbs Y
  have e2 := @rd0_mul z.natAbs Y
  have hg := gcd_pos' (x := z.natAbs) hY
  have e3 : (nn z Y : Nat) * Nat.gcd z.natAbs Y = z.natAbs := e1
  have e4 : (dd z Y : Nat) * Nat.gcd z.natAbs Y = Y := e2
  have h1 : zs (decide (z < 0)) (nn z Y) * ((Nat.gcd z.natAbs Y : Nat) : Int) = z := by rw [← zs_mul, e3, zs_dec]
  have h2 : (Y : Int) = (dd z Y : Int) * ((Nat.gcd z.natAbs Y : Nat) : Int) := by exact_mod_cast e4.symm
  rw [h2]
  generalize (Nat.gcd z.natAbs Y : Nat) = G at *
  generalize zs (decide (z < 0)) (nn z Y) = A at *
  generalize (dd z Y : Int) = D at *
  rw [← h1]
  simp only [Int.mul_assoc, Int.mul_comm, Int.mul_left_comm]
theorem low_same {z w : Int} {Y X : Nat} (hY : Y ≠ 0) (hX : X ≠ 0) (h : z * (X : Int) = w * (Y : Int)) : nn z Y = nn w X ∧ dd z Y = dd w X ∧ decide (z < 0) = decide (w < 0) := by
  have q : Qe (decide (z < 0)) z.natAbs Y w X := ⟨hY, hX, by rw [zs_dec, h]⟩
  refine ⟨q.low.1, q.low.2, ?_⟩
  rw [← q.sgn, ← zs_neg, zs_dec]
theorem Qe.add {s t : Bool} {x y x2 y2 : Nat} {z w : Int} {Y X : Nat} (h1 : Qe s x y z Y) (h2 : Qe t x2 y2 w X) : (zs s x * (y2 : Int) + zs t x2 * (y : Int)) * ((Y * X : Nat) : Int) = (z * (X : Int) + w * (Y : Int)) * ((y * y2 : Nat) : Int) := by
  have e1 := h1.2.2
  have e2 := h2.2.2
  rw [Int.natCast_mul, Int.natCast_mul]
  generalize zs s x = A at *
  generalize zs t x2 = B at *
  have : (A * (y2 : Int) + B * (y : Int)) * ((Y : Int) * (X : Int)) = (A * (Y : Int)) * ((y2 : Int) * (X : Int)) + (B * (X : Int)) * ((y : Int) * (Y : Int)) := by
    rw [Int.add_mul]; congr 1 <;> simp only [Int.mul_assoc, Int.mul_comm, Int.mul_left_comm]
  rw [this, e1, e2, Int.add_mul]
  congr 1 <;> simp only [Int.mul_assoc, Int.mul_comm, Int.mul_left_comm]
theorem Qe.mul {s t : Bool} {x y x2 y2 : Nat} {z w : Int} {Y X : Nat} (h1 : Qe s x y z Y) (h2 : Qe t x2 y2 w X) : (zs s x * zs t x2) * ((Y * X : Nat) : Int) = (z * w) * ((y * y2 : Nat) : Int) := by
  have e1 := h1.2.2
  have e2 := h2.2.2
  rw [Int.natCast_mul, Int.natCast_mul]
  generalize zs s x = A at *
  generalize zs t x2 = B at *
  have : A * B * ((Y : Int) * (X : Int)) = (A * (Y : Int)) * (B * (X : Int)) := by simp only [Int.mul_assoc, Int.mul_comm, Int.mul_left_comm]
  rw [this, e1, e2]
  simp only [Int.mul_assoc, Int.mul_comm, Int.mul_left_comm]
theorem sum_low {s t : Bool} {n1 d1 n2 d2 : Nat} (c1 : Nat.gcd n1 d1 = 1) (c2 : Nat.gcd n2 d2 = 1) (h1 : d1 ≠ 0) (h2 : d2 ≠ 0) {S : Int} (hS : S = zs s n1 * ((d2 / Nat.gcd d1 d2 : Nat) : Int) + zs t n2 * ((d1 / Nat.gcd d1 d2 : Nat) : Int)) :
    S.natAbs / Nat.gcd S.natAbs (Nat.gcd d1 d2) = nn (zs s n1 * (d2 : Int) + zs t n2 * (d1 : Int)) (d1 * d2) ∧ d1 / Nat.gcd d1 d2 * (d2 / Nat.gcd S.natAbs (Nat.gcd d1 d2)) = dd (zs s n1 * (d2 : Int) + zs t n2 * (d1 : Int)) (d1 * d2) ∧
    decide (S < 0) = decide (zs s n1 * (d2 : Int) + zs t n2 * (d1 : Int) < 0) ∧ zs s n1 * (d2 : Int) + zs t n2 * (d1 : Int) = S * ((Nat.gcd d1 d2 : Nat) : Int) := by
  have hg : 0 < Nat.gcd d1 d2 := Nat.gcd_pos_of_pos_left _ (Nat.pos_of_ne_zero h1)
  obtain ⟨p, hp⟩ := Nat.gcd_dvd_left d1 d2
  obtain ⟨q, hq⟩ := Nat.gcd_dvd_right d1 d2
  generalize hG : Nat.gcd d1 d2 = g at *
  have ep : d1 / g = p := by rw [hp]; exact Nat.mul_div_cancel_left _ hg
  have eq : d2 / g = q := by rw [hq]; exact Nat.mul_div_cancel_left _ hg
  rw [ep, eq] at hS
  rw [ep]
  have cpq : Nat.gcd p q = 1 := by
    have := Nat.gcd_mul_left g p q
    rw [← hp, ← hq, hG] at this
    exact Nat.eq_of_mul_eq_mul_left hg (by omega)
  have hZ : zs s n1 * (d2 : Int) + zs t n2 * (d1 : Int) = S * (g : Int) := by
    rw [hS, hp, hq, Int.natCast_mul, Int.natCast_mul, Int.add_mul]
    congr 1 <;> simp only [Int.mul_assoc, Int.mul_comm, Int.mul_left_comm]
  have hp0 : p ≠ 0 := fun e => h1 (by rw [hp, e, Nat.mul_zero])
  have hq0 : q ≠ 0 := fun e => h2 (by rw [hq, e, Nat.mul_zero])
  have cSp : Nat.Coprime S.natAbs p := by
    have k1 : Nat.Coprime n1 p := Nat.Coprime.coprime_dvd_right ⟨g, by rw [hp, Nat.mul_comm]⟩ c1
    have k2 : Nat.Coprime (n1 * q) p := k1.mul_left (by rw [Nat.coprime_comm]; exact cpq)
    rw [Nat.coprime_iff_gcd_eq_one] at *
    have h3 : Nat.gcd S.natAbs p ∣ n1 * q := by
      have a1 : ((Nat.gcd S.natAbs p : Nat) : Int) ∣ S := Int.ofNat_dvd_left.2 (Nat.gcd_dvd_left _ _)
      have a2 : ((Nat.gcd S.natAbs p : Nat) : Int) ∣ (p : Int) := Int.ofNat_dvd.2 (Nat.gcd_dvd_right _ _)
      have a3 : ((Nat.gcd S.natAbs p : Nat) : Int) ∣ zs s n1 * (q : Int) := by
        have : zs s n1 * (q : Int) = S - zs t n2 * (p : Int) := by rw [hS]; omega
        rw [this]
        exact Int.dvd_sub a1 (Int.dvd_mul_of_dvd_right a2)
      have := Int.ofNat_dvd_left.1 a3
      rwa [Int.natAbs_mul, zs_abs, Int.natAbs_natCast] at this
    exact Nat.dvd_one.1 (by rw [← k2]; exact Nat.dvd_gcd h3 (Nat.gcd_dvd_right _ _))
  have cSq : Nat.Coprime S.natAbs q := by
    have k1 : Nat.Coprime n2 q := Nat.Coprime.coprime_dvd_right ⟨g, by rw [hq, Nat.mul_comm]⟩ c2
    have k2 : Nat.Coprime (n2 * p) q := k1.mul_left cpq
    rw [Nat.coprime_iff_gcd_eq_one] at *
    have h3 : Nat.gcd S.natAbs q ∣ n2 * p := by
      have a1 : ((Nat.gcd S.natAbs q : Nat) : Int) ∣ S := Int.ofNat_dvd_left.2 (Nat.gcd_dvd_left _ _)
      have a2 : ((Nat.gcd S.natAbs q : Nat) : Int) ∣ (q : Int) := Int.ofNat_dvd.2 (Nat.gcd_dvd_right _ _)
      have a3 : ((Nat.gcd S.natAbs q : Nat) : Int) ∣ zs t n2 * (p : Int) := by
        have : zs t n2 * (p : Int) = S - zs s n1 * (q : Int) := by rw [hS]; omega
        rw [this]
        exact Int.dvd_sub a1 (Int.dvd_mul_of_dvd_right a2)
      have := Int.ofNat_dvd_left.1 a3
      rwa [Int.natAbs_mul, zs_abs, Int.natAbs_natCast] at this
    exact Nat.dvd_one.1 (by rw [← k2]; exact Nat.dvd_gcd h3 (Nat.gcd_dvd_right _ _))
  have hh : 0 < Nat.gcd S.natAbs g := Nat.gcd_pos_of_pos_right _ hg
  obtain ⟨m, hm⟩ := Nat.gcd_dvd_left S.natAbs g
  obtain ⟨r, hr⟩ := Nat.gcd_dvd_right S.natAbs g
  generalize hHd : Nat.gcd S.natAbs g = k at *
  have em : S.natAbs / k = m := by rw [hm]; exact Nat.mul_div_cancel_left _ hh
  have ed : d2 / k = r * q := by rw [hq, hr, Nat.mul_assoc]; exact Nat.mul_div_cancel_left _ hh
  have cmr : Nat.gcd m r = 1 := by
    have := Nat.gcd_mul_left k m r
    rw [← hm, ← hr, hHd] at this
    exact Nat.eq_of_mul_eq_mul_left hh (by omega)
  have hr0 : r ≠ 0 := fun e => by rw [e, Nat.mul_zero] at hr; omega
  rw [em, ed]
  have cm : Nat.gcd m (p * (r * q)) = 1 := by
    have k1 : Nat.Coprime m p := Nat.Coprime.coprime_dvd_left ⟨k, by rw [hm, Nat.mul_comm]⟩ cSp
    have k2 : Nat.Coprime m q := Nat.Coprime.coprime_dvd_left ⟨k, by rw [hm, Nat.mul_comm]⟩ cSq
    exact k1.mul_right (Nat.Coprime.mul_right cmr k2)
  obtain ⟨a1, a2⟩ := low_of (a := m) (b := p * (r * q)) (z := zs s n1 * (d2 : Int) + zs t n2 * (d1 : Int)) (Y := d1 * d2) cm (Nat.mul_ne_zero hp0 (Nat.mul_ne_zero hr0 hq0)) (Nat.mul_ne_zero h1 h2) (by
    rw [hZ, Int.natAbs_mul, Int.natAbs_natCast, hp, hq, hm]
    rw [hr]
    simp only [Nat.mul_assoc, Nat.mul_comm, Nat.mul_left_comm])
  refine ⟨a1, a2, ?_, hZ⟩
  rw [hZ, decide_eq_decide]
  have hgi : (0 : Int) < (g : Int) := by omega
  constructor
  · intro h; exact Int.mul_neg_of_neg_of_pos h hgi
  · intro h; exact Int.not_le.1 fun h5 => absurd (Int.mul_nonneg h5 (Int.le_of_lt hgi)) (by omega)
theorem mul_low {s t : Bool} {n1 d1 n2 d2 : Nat} (c1 : Nat.gcd n1 d1 = 1) (c2 : Nat.gcd n2 d2 = 1) (h1 : d1 ≠ 0) (h2 : d2 ≠ 0) :
    n1 / Nat.gcd n1 d2 * (n2 / Nat.gcd n2 d1) = nn (zs s n1 * zs t n2) (d1 * d2) ∧ d1 / Nat.gcd n2 d1 * (d2 / Nat.gcd n1 d2) = dd (zs s n1 * zs t n2) (d1 * d2) := by
  have hg : 0 < Nat.gcd n1 d2 := Nat.gcd_pos_of_pos_right _ (Nat.pos_of_ne_zero h2)
  have hh : 0 < Nat.gcd n2 d1 := Nat.gcd_pos_of_pos_right _ (Nat.pos_of_ne_zero h1)
  obtain ⟨a, ha⟩ := Nat.gcd_dvd_left n1 d2
  obtain ⟨b, hb⟩ := Nat.gcd_dvd_right n1 d2
  obtain ⟨c, hc⟩ := Nat.gcd_dvd_left n2 d1
  obtain ⟨d, hd⟩ := Nat.gcd_dvd_right n2 d1
  have cab : Nat.gcd a b = 1 := by
    have := Nat.gcd_mul_left (Nat.gcd n1 d2) a b
    rw [← ha, ← hb] at this
    exact Nat.eq_of_mul_eq_mul_left hg (by omega)
  have ccd : Nat.gcd c d = 1 := by
    have := Nat.gcd_mul_left (Nat.gcd n2 d1) c d
    rw [← hc, ← hd] at this
    exact Nat.eq_of_mul_eq_mul_left hh (by omega)
  generalize Nat.gcd n1 d2 = g at *
  generalize Nat.gcd n2 d1 = h at *
  have ea : n1 / g = a := by rw [ha]; exact Nat.mul_div_cancel_left _ hg
  have eb : d2 / g = b := by rw [hb]; exact Nat.mul_div_cancel_left _ hg
  have ec : n2 / h = c := by rw [hc]; exact Nat.mul_div_cancel_left _ hh
  have ed : d1 / h = d := by rw [hd]; exact Nat.mul_div_cancel_left _ hh
  rw [ea, eb, ec, ed]
  have hb0 : b ≠ 0 := fun e => h2 (by rw [hb, e, Nat.mul_zero])
  have hd0 : d ≠ 0 := fun e => h1 (by rw [hd, e, Nat.mul_zero])
  have cad : Nat.Coprime a d := Nat.Coprime.coprime_dvd_left ⟨g, by rw [ha, Nat.mul_comm]⟩ (Nat.Coprime.coprime_dvd_right ⟨h, by rw [hd, Nat.mul_comm]⟩ c1)
  have ccb : Nat.Coprime c b := Nat.Coprime.coprime_dvd_left ⟨h, by rw [hc, Nat.mul_comm]⟩ (Nat.Coprime.coprime_dvd_right ⟨g, by rw [hb, Nat.mul_comm]⟩ c2)
  have k1 : Nat.Coprime a (d * b) := cad.mul_right cab
  have k2 : Nat.Coprime c (d * b) := Nat.Coprime.mul_right ccd ccb
  refine low_of (k1.mul_left k2) (Nat.mul_ne_zero hd0 hb0) (Nat.mul_ne_zero h1 h2) ?_
  rw [Int.natAbs_mul, zs_abs, zs_abs, ha, hc, hb, hd]
  simp only [Nat.mul_assoc, Nat.mul_comm, Nat.mul_left_comm]

theorem lm_abs (v : Int) : lm ((v.natAbs : Nat) : Int) = lm v := by unfold lm; rw [Int.natAbs_natCast]
theorem lm_zs {s : Bool} {n : Nat} : lm (zs s n) = lm (n : Int) := by unfold lm; rw [zs_abs, Int.natAbs_natCast]
theorem lenV_zs {s : Bool} {n : Nat} : lenV (zs s n) = lenV (n : Int) := by unfold lenV; rw [zs_abs, Int.natAbs_natCast]
theorem lenV_abs (v : Int) : lenV ((v.natAbs : Nat) : Int) = lenV v := by unfold lenV; rw [Int.natAbs_natCast]
theorem sv_zs {s : Bool} {n : Nat} : sv s (lm (n : Int)) = zs s n := by unfold sv zs; rw [lm_v, Int.natAbs_natCast]
theorem Rw.sv {s : Bool} {l : List Int} {x : Nat} (h : Rw l x) : sv s l = zs s x := by unfold Vc.sv zs; rw [h.v]
theorem Qe.low' {s : Bool} {x y : Nat} {z : Int} {Y : Nat} (h : Qe s x y z Y) : Qe (sgq s x) (rn0 x y) (rd0 x y) z Y := by
  have h1 := Qe.can z h.2.1
  rw [h.low.1, h.low.2, h.sgn]
  exact h1
theorem Qe.cop {s : Bool} {x y : Nat} {z : Int} {Y : Nat} (h : Qe s x y z Y) : Nat.gcd (rn0 x y) (rd0 x y) = 1 := rn0_cop h.1
theorem Qe.d0 {s : Bool} {x y : Nat} {z : Int} {Y : Nat} (h : Qe s x y z Y) : rd0 x y ≠ 0 := Nat.pos_iff_ne_zero.1 (rd0_pos h.1)
theorem add_all {s t : Bool} {x y x2 y2 : Nat} {z w : Int} {Y X : Nat} (q1 : Qe s x y z Y) (q2 : Qe t x2 y2 w X) {S : Int}
    (hS : S = zs (sgq s x) (rn0 x y) * ((rd0 x2 y2 / Nat.gcd (rd0 x y) (rd0 x2 y2) : Nat) : Int) + zs (sgq t x2) (rn0 x2 y2) * ((rd0 x y / Nat.gcd (rd0 x y) (rd0 x2 y2) : Nat) : Int)) :
    S.natAbs / Nat.gcd S.natAbs (Nat.gcd (rd0 x y) (rd0 x2 y2)) = nn (z * (X : Int) + w * (Y : Int)) (Y * X) ∧ rd0 x y / Nat.gcd (rd0 x y) (rd0 x2 y2) * (rd0 x2 y2 / Nat.gcd S.natAbs (Nat.gcd (rd0 x y) (rd0 x2 y2))) = dd (z * (X : Int) + w * (Y : Int)) (Y * X) ∧
    decide (S < 0) = decide (z * (X : Int) + w * (Y : Int) < 0) ∧ (S = 0 ↔ z * (X : Int) + w * (Y : Int) = 0) := by
  have h := sum_low q1.cop q2.cop q1.d0 q2.d0 hS
  have l1 := q1.low'
  have l2 := q2.low'
  have k := l1.add l2
  have hd := Nat.mul_ne_zero q1.d0 q2.d0
  have hY := Nat.mul_ne_zero q1.2.1 q2.2.1
  have m := low_same hd hY k
  rw [← m.1, ← m.2.1, ← m.2.2]
  refine ⟨h.1, h.2.1, h.2.2.1, ?_⟩
  have hg : ((Nat.gcd (rd0 x y) (rd0 x2 y2) : Nat) : Int) ≠ 0 := by
    have := gcd_pos' (x := rd0 x y) q2.d0
    omega
  have e := h.2.2.2
  generalize zs (sgq s x) (rn0 x y) * ((rd0 x2 y2 : Nat) : Int) + zs (sgq t x2) (rn0 x2 y2) * ((rd0 x y : Nat) : Int) = A at *
  generalize z * (X : Int) + w * (Y : Int) = B at *
  have hd' : ((rd0 x y * rd0 x2 y2 : Nat) : Int) ≠ 0 := by omega
  have hY' : ((Y * X : Nat) : Int) ≠ 0 := by omega
  constructor
  · intro h0
    rw [h0, Int.zero_mul] at e
    rw [e, Int.zero_mul] at k
    rcases Int.mul_eq_zero.1 k.symm with h1 | h1
    · exact h1
    · exact absurd h1 hd'
  · intro h0
    rw [h0, Int.zero_mul] at k
    rcases Int.mul_eq_zero.1 k with h1 | h1
    · rw [h1] at e
      rcases Int.mul_eq_zero.1 e.symm with h2 | h2
      · exact h2
      · exact absurd h2 hg
    · exact absurd h1 hY'
theorem mul_all {s t : Bool} {x y x2 y2 : Nat} {z w : Int} {Y X : Nat} (q1 : Qe s x y z Y) (q2 : Qe t x2 y2 w X) :
    rn0 x y / Nat.gcd (rn0 x y) (rd0 x2 y2) * (rn0 x2 y2 / Nat.gcd (rn0 x2 y2) (rd0 x y)) = nn (z * w) (Y * X) ∧ rd0 x y / Nat.gcd (rn0 x2 y2) (rd0 x y) * (rd0 x2 y2 / Nat.gcd (rn0 x y) (rd0 x2 y2)) = dd (z * w) (Y * X) := by
  have h := mul_low (s := sgq s x) (t := sgq t x2) q1.cop q2.cop q1.d0 q2.d0
  have m := low_same (Nat.mul_ne_zero q1.d0 q2.d0) (Nat.mul_ne_zero q1.2.1 q2.2.1) (q1.low'.mul q2.low')
  rw [← m.1, ← m.2.1]
  exact h
theorem Qe.z0 {s : Bool} {x y : Nat} {z : Int} {Y : Nat} (h : Qe s x y z Y) : x = 0 ↔ z = 0 := by
  have := h.abs
  have h1 := h.1
  have h2 := h.2.1
  constructor
  · intro e
    rw [e, Nat.zero_mul] at this
    rcases Nat.mul_eq_zero.1 this.symm with h3 | h3
    · omega
    · omega
  · intro e
    rw [e] at this
    rw [Int.natAbs_zero, Nat.zero_mul] at this
    rcases Nat.mul_eq_zero.1 this with h3 | h3
    · exact h3
    · omega
theorem mul_sgn {s t : Bool} {x y x2 y2 : Nat} {z w : Int} {Y X : Nat} (q1 : Qe s x y z Y) (q2 : Qe t x2 y2 w X) (h1 : x ≠ 0) (h2 : x2 ≠ 0) : (!(sgq s x == sgq t x2)) = decide (z * w < 0) := by
  rw [q1.sgn, q2.sgn]
  have hz : z ≠ 0 := fun e => h1 (q1.z0.2 e)
  have hw : w ≠ 0 := fun e => h2 (q2.z0.2 e)
  by_cases a : z < 0 <;> by_cases b : w < 0
  · have : 0 < z * w := Int.mul_pos_of_neg_of_neg a b
    rw [decide_eq_true a, decide_eq_true b, decide_eq_false (by omega)]; rfl
  · have : z * w < 0 := Int.mul_neg_of_neg_of_pos a (by omega)
    rw [decide_eq_true a, decide_eq_false b, decide_eq_true this]; rfl
  · have : z * w < 0 := Int.mul_neg_of_pos_of_neg (by omega) b
    rw [decide_eq_false a, decide_eq_true b, decide_eq_true this]; rfl
  · have : 0 < z * w := Int.mul_pos (by omega) (by omega)
    rw [decide_eq_false a, decide_eq_false b, decide_eq_false (by omega)]; rfl
theorem nn_0 {Y : Nat} : nn 0 Y = 0 := rn0_0
theorem dd_0 {Y : Nat} (h : Y ≠ 0) : dd 0 Y = 1 := rd0_0 h
def cN (a b c d : Nat) : Int := cmpI ((a * d : Nat) : Int) ((c * b : Nat) : Int)
theorem cmpI_neg {x y : Int} : cmpI y x = -cmpI x y := by unfold cmpI; (repeat' split) <;> omega
theorem cmpI_add {x y k : Int} : cmpI (x + k) (y + k) = cmpI x y := by unfold cmpI; (repeat' split) <;> omega
theorem cmpI_1 {x y : Int} (h : x < y) : cmpI x y = -1 := by unfold cmpI; rw [if_pos h]
theorem cmpI_2 {x y : Int} (h : y < x) : cmpI x y = 1 := by unfold cmpI; rw [if_neg (by omega), if_pos h]
theorem cN_q {a b c d : Nat} (hb : b ≠ 0) (hd : d ≠ 0) (h : a / b ≠ c / d) : cmpI ((a / b : Nat) : Int) ((c / d : Nat) : Int) = cN a b c d := by
  have key : ∀ a b c d : Nat, b ≠ 0 → d ≠ 0 → a / b < c / d → a * d < c * b := fun a b c d hb hd hlt => by
    have h1 : a < b * (a / b + 1) := by
      have := Nat.lt_mul_div_succ a (Nat.pos_of_ne_zero hb)
      exact this
    have h2 : d * (c / d) ≤ c := Nat.mul_div_le c d
    have h3 : a / b + 1 ≤ c / d := hlt
    calc a * d < b * (a / b + 1) * d := Nat.mul_lt_mul_of_pos_right h1 (Nat.pos_of_ne_zero hd)
      _ ≤ b * (c / d) * d := Nat.mul_le_mul_right _ (Nat.mul_le_mul_left _ h3)
      _ = (d * (c / d)) * b := by rw [Nat.mul_assoc, Nat.mul_comm b, Nat.mul_comm (c / d)]
      _ ≤ c * b := Nat.mul_le_mul_right _ h2
  unfold cN
  rcases Nat.lt_or_gt_of_ne h with h1 | h1
  · rw [cmpI_1 (by omega), cmpI_1 (by have := key a b c d hb hd h1; omega)]
  · rw [cmpI_2 (by omega), cmpI_2 (by have := key c d a b hd hb h1; omega)]
theorem cN_r {a b c d : Nat} (h : a / b = c / d) : cN a b c d = cmpI ((a % b * d : Nat) : Int) ((c % d * b : Nat) : Int) := by
  unfold cN
  have h1 : a * d = a % b * d + b * (a / b) * d := by rw [← Nat.add_mul, Nat.mod_add_div]
  have h2 : c * b = c % d * b + b * (a / b) * d := by
    rw [h, show b * (c / d) * d = d * (c / d) * b by rw [Nat.mul_assoc, Nat.mul_comm b, Nat.mul_comm (c / d)], ← Nat.add_mul, Nat.mod_add_div]
  rw [h1, h2, Int.natCast_add, Int.natCast_add, cmpI_add]
theorem cN_n {a b c d : Nat} (h : a / b = c / d) : cN b (a % b) d (c % d) = -cN a b c d := by
  rw [cN_r h, ← cmpI_neg]
  unfold cN
  rw [Nat.mul_comm b, Nat.mul_comm d]
theorem cN_z {a b c d : Nat} (hb : b ≠ 0) (hd : d ≠ 0) (h : a / b = c / d) : (a % b = 0 → c % d = 0 → cN a b c d = 0) ∧ (a % b = 0 → c % d ≠ 0 → cN a b c d = -1) ∧ (a % b ≠ 0 → c % d = 0 → cN a b c d = 1) := by
  rw [cN_r h]
  refine ⟨fun e1 e2 => ?_, fun e1 e2 => ?_, fun e1 e2 => ?_⟩
  · rw [e1, e2, Nat.zero_mul, Nat.zero_mul]; rfl
  · rw [e1, Nat.zero_mul]
    have := Nat.mul_pos (Nat.pos_of_ne_zero e2) (Nat.pos_of_ne_zero hb)
    exact cmpI_1 (by omega)
  · rw [e2, Nat.zero_mul]
    have := Nat.mul_pos (Nat.pos_of_ne_zero e1) (Nat.pos_of_ne_zero hd)
    exact cmpI_2 (by omega)
theorem zs_m {s : Bool} {n : Nat} (h : zs s n < 0) : zs s n = -(n : Int) := by cases s <;> simp [zs] at h ⊢ <;> omega
theorem zs_p {s : Bool} {n : Nat} (h : 0 < zs s n) : zs s n = (n : Int) := by cases s <;> simp [zs] at h ⊢ <;> omega
theorem cmp_q {s t : Bool} {x y x2 y2 : Nat} (hy : y ≠ 0) (hy2 : y2 ≠ 0) : cmpI (zs s x * (y2 : Int)) (zs t x2 * (y : Int)) = if sgnI (zs s x) ≠ sgnI (zs t x2) then (if sgnI (zs s x) < sgnI (zs t x2) then -1 else 1) else sgnI (zs s x) * cN x y x2 y2 := by
  have p1 : (0 : Int) < (y : Int) := by omega
  have p2 : (0 : Int) < (y2 : Int) := by omega
  have a1 : ∀ (v : Int) (k : Int), 0 < k → (v < 0 ∧ v * k < 0) ∨ (v = 0 ∧ v * k = 0) ∨ (0 < v ∧ 0 < v * k) := fun v k hk => by
    rcases Int.lt_trichotomy v 0 with h | h | h
    · exact .inl ⟨h, Int.mul_neg_of_neg_of_pos h hk⟩
    · exact .inr (.inl ⟨h, by rw [h, Int.zero_mul]⟩)
    · exact .inr (.inr ⟨h, Int.mul_pos h hk⟩)
  have b1 := a1 (zs s x) (y2 : Int) p2
  have b2 := a1 (zs t x2) (y : Int) p1
  have c1 := sgn_cases (x := zs s x)
  have c2 := sgn_cases (x := zs t x2)
  by_cases e : sgnI (zs s x) = sgnI (zs t x2)
  · rw [if_neg (not_not_intro e)]
    unfold cN
    rcases c1 with ⟨h1, h2⟩ | ⟨h1, h2⟩ | ⟨h1, h2⟩
    · have h3 : zs t x2 < 0 := by omega
      have e1 : zs s x = -(x : Int) := zs_m h1
      have e2 : zs t x2 = -(x2 : Int) := zs_m h3
      rw [h2, e1, e2, Int.neg_mul, Int.neg_mul, Int.natCast_mul, Int.natCast_mul]
      generalize (x : Int) * (y2 : Int) = A
      generalize (x2 : Int) * (y : Int) = B
      unfold cmpI
      (repeat' split) <;> omega
    · have h3 : zs t x2 = 0 := by omega
      rw [h2, h1, h3, Int.zero_mul, Int.zero_mul, Int.zero_mul]; rfl
    · have h3 : 0 < zs t x2 := by omega
      have e1 : zs s x = (x : Int) := zs_p h1
      have e2 : zs t x2 = (x2 : Int) := zs_p h3
      rw [h2, e1, e2, Int.one_mul, Int.natCast_mul, Int.natCast_mul]
  · rw [if_pos e]
    by_cases hlt : sgnI (zs s x) < sgnI (zs t x2)
    · rw [if_pos hlt]; exact cmpI_1 (by omega)
    · rw [if_neg hlt]; exact cmpI_2 (by omega)
theorem cmp_v {A B : Int} {p q : Nat} {z w : Int} {Y X : Nat} (hp : p ≠ 0) (hq : q ≠ 0) (hY : Y ≠ 0) (hX : X ≠ 0) (h1 : A * (Y : Int) = z * (p : Int)) (h2 : B * (X : Int) = w * (q : Int)) : cmpI (A * (q : Int)) (B * (p : Int)) = cmpI (z * (X : Int)) (w * (Y : Int)) := by
  have key : ∀ (u v k : Int), 0 < k → cmpI (u * k) (v * k) = cmpI u v := fun u v k hk => by
    rcases Int.lt_trichotomy u v with h | h | h
    · rw [cmpI_1 h, cmpI_1 (Int.mul_lt_mul_of_pos_right h hk)]
    · rw [h, cmpI_0.2 rfl, cmpI_0.2 rfl]
    · rw [cmpI_2 h, cmpI_2 (Int.mul_lt_mul_of_pos_right h hk)]
  have pp : (0 : Int) < ((Y : Int) * (X : Int)) := Int.mul_pos (by omega) (by omega)
  have pq : (0 : Int) < ((p : Int) * (q : Int)) := Int.mul_pos (by omega) (by omega)
  rw [← key _ _ _ pp, ← key (z * (X : Int)) _ _ pq]
  congr 1
  · calc A * (q : Int) * ((Y : Int) * (X : Int)) = (A * (Y : Int)) * ((q : Int) * (X : Int)) := by simp only [Int.mul_assoc, Int.mul_comm, Int.mul_left_comm]
      _ = _ := by rw [h1]; simp only [Int.mul_assoc, Int.mul_comm, Int.mul_left_comm]
  · calc B * (p : Int) * ((Y : Int) * (X : Int)) = (B * (X : Int)) * ((p : Int) * (Y : Int)) := by simp only [Int.mul_assoc, Int.mul_comm, Int.mul_left_comm]
      _ = _ := by rw [h2]; simp only [Int.mul_assoc, Int.mul_comm, Int.mul_left_comm]

theorem nn_b {z : Int} {Y : Nat} : lenV ((nn z Y : Nat) : Int) ≤ lenV z := by rw [← lenV_abs z]; exact lenV_nat rn0_le
theorem dd_b {z : Int} {Y : Nat} : lenV ((dd z Y : Nat) : Int) ≤ lenV (Y : Int) := lenV_nat rd0_le
theorem cN_rng {a b c d : Nat} : -1 ≤ cN a b c d ∧ cN a b c d ≤ 1 := cmpI_rng
theorem Qe.inv {s : Bool} {x y : Nat} {z : Int} {Y : Nat} (h : Qe s x y z Y) (hx : x ≠ 0) : Qe s y x (zs (decide (z < 0)) Y) z.natAbs := by
  have hz : z ≠ 0 := fun e => hx (h.z0.2 e)
  refine ⟨hx, by omega, ?_⟩
  have h1 := h.abs
  have h2 := h.sgn
  rw [sgq_p hx] at h2
  rw [← h2, ← zs_mul, ← zs_mul, Nat.mul_comm Y x, h1, Nat.mul_comm]
structure Qr (s : Bool) (l d : List Int) (x y : Nat) (z : Int) (Y b : Nat) : Prop where
  hx : Rw l x
  hy : Rw d y
  q : Qe s x y z Y
  bx : lenV (x : Int) ≤ b
  bd : lenV (y : Int) ≤ b
  bz : lenV z ≤ b
  bY : lenV (Y : Int) ≤ b
theorem Qr.can {z : Int} {Y b : Nat} (h0 : Y ≠ 0) (h1 : lenV z ≤ b) (h2 : lenV (Y : Int) ≤ b) (hb : b ≤ 67108864) : Qr (decide (z < 0)) (lm ((nn z Y : Nat) : Int)) (lm ((dd z Y : Nat) : Int)) (nn z Y) (dd z Y) z Y b :=
  ⟨Rw.of (Nat.le_trans nn_b (Nat.le_trans h1 hb)), Rw.of (Nat.le_trans dd_b (Nat.le_trans h2 hb)), Qe.can z h0, Nat.le_trans nn_b h1, Nat.le_trans dd_b h2, h1, h2⟩
variable {s t : Bool} {l d l2 d2 : List Int} {x y x2 y2 : Nat} {z w : Int} {Y X b c : Nat}
theorem Qr.add (h1 : Qr s l d x y z Y b) (h2 : Qr t l2 d2 x2 y2 w X c) (hb : b + c + 1 ≤ 67108864) {Z : Int} {W : Nat} (eZ : Z = z * (X : Int) + w * (Y : Int)) (eW : W = Y * X) :
    Qr (decide (Z < 0)) (lm ((nn Z W : Nat) : Int)) (lm ((dd Z W : Nat) : Int)) (nn Z W) (dd Z W) Z W (b + c + 1) := by
  subst eZ eW
  have b1 := h1.bz
  have b2 := h1.bY
  have b3 := h2.bz
  have b4 := h2.bY
  refine Qr.can (Nat.mul_ne_zero h1.q.2.1 h2.q.2.1) ?_ ?_ hb
  · have h8 := lenV_mul z (X : Int)
    have h9 := lenV_mul w (Y : Int)
    have h7 := lenV_add (z * (X : Int)) (w * (Y : Int))
    omega
  · rw [Int.natCast_mul]
    have h8 := lenV_mul (Y : Int) (X : Int)
    omega
theorem Qr.low (h : Qr s l d x y z Y b) (hb : b ≤ 67108864) : Qr (decide (z < 0)) (lm ((nn z Y : Nat) : Int)) (lm ((dd z Y : Nat) : Int)) (nn z Y) (dd z Y) z Y b := Qr.can h.q.2.1 h.bz h.bY hb
def okR (r : Bool × List Int × List Int) : Prop := vl r.2.2 ≠ 0 ∧ lenV (vl r.2.2) ≤ 1048576 ∧ lenV (vl r.2.1) ≤ 1048576
instance (r : Bool × List Int × List Int) : Decidable (okR r) := by unfold okR; exact inferInstance
def smallQ (rs : List (Bool × List Int × List Int)) : Bool := rs.all fun r => decide (okR r)
theorem smallQ_n {rs : List (Bool × List Int × List Int)} {i : Nat} (hi : i < rs.length) (h : ¬ okR (rat0 rs i)) : smallQ rs = false := by
  refine Bool.eq_false_iff.2 fun h1 => h ?_
  have h2 := List.all_eq_true.1 h1 _ (List.getElem_mem hi)
  unfold rat0
  rw [List.getD_eq_getElem?_getD, List.getElem?_eq_getElem hi]
  exact of_decide_eq_true h2
theorem smallQ_y {rs : List (Bool × List Int × List Int)} (h : ∀ j < rs.length, okR (rat0 rs j)) : smallQ rs = true := by
  refine List.all_eq_true.2 fun r hr => decide_eq_true ?_
  obtain ⟨j, hj, rfl⟩ := List.getElem_of_mem hr
  have h2 := h j hj
  unfold rat0 at h2
  rwa [List.getD_eq_getElem?_getD, List.getElem?_eq_getElem hj] at h2
theorem rat0_mem {rs : List (Bool × List Int × List Int)} {i : Nat} (hi : i < rs.length) {p : Bool × List Int × List Int → Prop} (h : ∀ r ∈ rs, p r) : p (rat0 rs i) := by
  unfold rat0
  rw [List.getD_eq_getElem?_getD, List.getElem?_eq_getElem hi]
  exact h _ (List.getElem_mem hi)
end Go.Proofs.YtpldmajdiljoaaaGreat.Vc

namespace Go.Proofs.YtpldmajdiljoaaaGreat.Vc
open Go Go.RowKit
theorem word_s (b : Nat) (hb : 2 ≤ b) (hb2 : b ≤ 36) : Spec Tryz.prog 129 [.i .i64 (b : Int)] (fun o => ∃ n : Nat, o = .ret (.t [.i .u64 ((b ^ n : Nat) : Int), .i .i64 (n : Int)]) ∧ 1 ≤ n ∧ n ≤ 63 ∧ b ^ n ≤ 9223372036854775808) := by
  refine spec_of' [(0, .i .i64 (b : Int))] rfl Tryz.func129 rfl (zlb rfl) fun Γ hN hds hL hR => ?_
  have hd := hdOf 19 hN
  refine zsr <| zas rfl (hd 2 rfl) <| zas rfl (hd 3 rfl) <| jo_nil <| zsr <| zas rfl (hd 4 rfl) <| zas rfl (hd 5 rfl) <| jo_nil <| jc_seq <| jc_block ?_
  refine jc_loopF (G := Nat × Nat) (fun g => g.2 = b ^ g.1 ∧ 2 ^ g.1 ≤ g.2 ∧ g.2 ≤ 9223372036854775808 ∧ g.1 ≤ 63) (fun g => [(4, .i .u64 (g.2 : Int)), (5, .i .i64 (g.1 : Int)), (6, .u), (7, .u), (8, .u), (9, .u), (10, .u), (11, .u), (12, .u), (13, .u), (14, .u), (15, .u), (16, .u)]) (fun _ => _) (fun g => 64 - g.1) (0, 1) ?_ ?_ rfl ?_
  · exact ⟨rfl, Nat.le_refl _, by decide, by decide⟩
  · exact (.cons rfl (.cons rfl (.u (.u (.u (.u (.u (.u (.u (.u (.u (.u (.u .nil)))))))))))))
  · rintro ⟨n, p⟩ ⟨hc1, hc2, hc3, hc4⟩
    dsimp only at hc1 hc2 hc3 hc4
    refine jc_seq <| zsr <| zmv rfl (hd 6 rfl) <| zmv rfl (hd 7 rfl) <| jo_l (ly_conv und3 und82 rfl (r := (b : Int)) (wrap_u64 (by omega) (by omega))) (hd 8 rfl) <| jo_l (ly_quo rfl rfl (by omega) (r := ((9223372036854775808 / b : Nat) : Int)) (by rw [show ((9223372036854775808 : Int).tdiv (b : Int)) = ((9223372036854775808 / b : Nat) : Int) from rfl]; exact wrap_u64 (Int.natCast_nonneg _) (by have := Nat.div_le_self 9223372036854775808 b; generalize 9223372036854775808 / b = q at *; omega))) (hd 9 rfl) <| jo_l (ly_le rfl rfl) (hd 10 rfl) <| jo_nil ?_
    refine jc_if rfl (fun h1 => ?_) (fun h1 => ?_)
    · obtain ⟨hs1, hs2, hs3⟩ := w_step hb hc1 hc2 (by omega : p ≤ 9223372036854775808 / b)
      refine jc_skip <| jc_block <| zsr <| zmv rfl (hd 11 rfl) <| zmv rfl (hd 12 rfl) <| jo_l (ly_conv und3 und82 rfl (r := (b : Int)) (wrap_u64 (by omega) (by omega))) (hd 13 rfl) <| jo_l (ly_mul rfl rfl (r := ((p * b : Nat) : Int)) (by dsimp only; rw [← Int.natCast_mul]; exact wrap_u64 (by omega) (by omega))) (hd 14 rfl) <| zas rfl (hd 4 rfl) <| jo_nil <| jc_region <| zmv rfl (hd 15 rfl) <| jo_l (ly_add rfl rfl (r := ((n + 1 : Nat) : Int)) (by rw [wrap_i64 (by omega) (by omega)]; omega)) (hd 16 rfl) ?_; refine zas rfl (hd 5 rfl) <| jo_nil ?_
      refine ⟨(n + 1, p * b), ?_, ?_, rfl, cov_n 26 rfl rfl ?_⟩
      · exact ⟨hs1, hs2, hs3, w63 hs2 hs3⟩
      · show 64 - (n + 1) < 64 - n
        omega
      · exact (.cons rfl (.cons rfl (.u (.u (.u (.u (.u (.u (.u (.u (.u (.u (.u .nil)))))))))))))
    · have hn1 := w_exit hb hb2 hc1 (by omega : ¬ p ≤ 9223372036854775808 / b)
      refine jc_exit <| zsr <| zmv rfl (hd 17 rfl) <| zmv rfl (hd 18 rfl) <| zas rfl (hd 2 rfl) <| zas rfl (hd 3 rfl) <| jo_nil <| jc_ret ?_
      refine ⟨_, _, (.cons rfl (.cons rfl .nil)), (.t1 .i (.t1 .i .t0)), ?_⟩
      exact ⟨n, by rw [hc1], hn1, hc4, by omega⟩

theorem Through_s (l : List Int) (d : Int) (hl : l.length < 1073741824) (hu : u64s l) (hd0 : 0 < d) (hd1 : d < 18446744073709551616) (hf : lenN l ≤ 67108864) : Spec Tryz.prog 130 [.n false .u64 l, .i .u64 d] (fun o => o = .ret (.t [.n false .u64 (lm (vl l / d)), .i .u64 (vl l % d), .i .i64 0])) := by
  refine spec_of' [(0, .n false .u64 l), (1, .i .u64 d)] rfl Tryz.func130 rfl (zlb rfl) fun Γ hN hds hL hR => ?_
  have hd := hdOf 48 hN
  have hm := trm_len l
  have uT := u64s_trm hu
  have hde := dv_end (d := d) uT hd0
  rw [vl_trm] at hde
  have hv0 := vl_nonneg hu
  have hq : (vl l / d).natAbs ≤ (vl l).natAbs := by have := Int.ediv_nonneg hv0 (show 0 ≤ d by omega); have := Int.ediv_le_self d hv0; omega
  have hfq : lenV (vl l / d) ≤ 67108864 := Nat.le_trans (lenV_mono hq) (by rw [← lenN_lenV hu rfl]; exact hf)
  refine zsr <| zas rfl (hd 4 rfl) <| zas rfl (hd 5 rfl) <| zas rfl (hd 6 rfl) <| jo_nil <| jc_seq <| zsr <| zmv rfl (hd 11 rfl) <| jo_l (ly_ff (ly_eq rfl rfl) (by omega)) (hd 12 rfl) <| jo_nil <| jc_litf rfl ?_; refine jc_skip <| zsr <| zmv rfl (hd 13 rfl) ?_
  refine jo_call Tryz.f85 (trim_s l (by omega)) rfl Tryz.func85 rfl rfl (ovL_cons rfl ovL_nil) (.cons .n .nil) (hd 14 rfl) ?_ (fun ch hp => by simp at hp)
  rintro _ ⟨⟩; refine zas rfl (hd 0 rfl) <| jo_nil <| zsr <| zmv rfl (hd 15 rfl) <| jo_l (ly_lenn sl28 rfl) (hd 16 rfl) <| jo_h (hy_mk (m := (trm l).length) el28 rfl rfl rfl (by show 8 * (trm l).length ≤ _; omega) (by unfold maxLen; omega) rfl) (hd 17 rfl) <| zas rfl (hd 7 rfl) <| jo_nil <| zsr <| zas rfl (hd 8 rfl) <| jo_nil ?_; refine jc_seq <| zsr <| zmv rfl (hd 18 rfl) <| jo_l (ly_lenn sl28 rfl) (hd 19 rfl) <| jo_l (ly_sub rfl rfl (wrap_i64 (by omega) (by omega))) (hd 20 rfl) <| zas rfl (hd 9 rfl) <| jo_nil <| jc_block <| jc_H (H' := [⟨79, 1, 0, true, ints .u64 (List.replicate (trm l).length 0 ++ (dvN (trm l) d ((trm l).length - (trm l).length)).1)⟩]) (by rw [Nat.sub_self]; show _ = [(⟨79, 1, 0, true, ints .u64 (List.replicate (trm l).length 0 ++ [])⟩ : Ob)]; rw [List.append_nil]; rfl) ?_
  refine jc_loopF (G := Nat) (fun k => k ≤ (trm l).length) (fun k => [(8, .i .u64 (dvN (trm l) d ((trm l).length - k)).2), (9, .i .i64 ((k : Int) - 1)), (21, .u), (22, .u), (23, .u), (24, .u), (25, .u), (26, .u), (27, .u), (28, .u), (29, .u), (30, .u), (31, .u), (32, .u), (33, .u), (34, .u), (35, .u), (36, .u), (37, .u)]) (fun k => [⟨79, 1, 0, true, ints .u64 (List.replicate k 0 ++ (dvN (trm l) d ((trm l).length - k)).1)⟩]) (fun k => k) (trm l).length ?_ ?_ rfl ?_
  · exact Nat.le_refl _
  · exact (.cons (by show some (V.i .u64 0) = some (V.i .u64 (dvN (trm l) d ((trm l).length - (trm l).length)).2); rw [Nat.sub_self]; rfl) (.cons rfl (.u (.u (.u (.u (.u (.u (.u (.u (.u (.u (.u (.u (.u (.u (.u (.u (.u .nil)))))))))))))))))))
  · rintro k hc1
    have hr := dvN_r (a := trm l) hd0 ((trm l).length - k)
    have hx := u64s_getD uT (k - 1)
    refine jc_seq <| zsr <| zmv rfl (hd 21 rfl) <| jo_l (ly_ge rfl rfl) (hd 22 rfl) <| jo_nil ?_
    refine jc_if rfl (fun h2 => ?_) (fun h2 => ?_)
    · refine jc_skip <| jc_seq <| jc_block <| jc_region <| zmv rfl (hd 26 rfl) <| zmv rfl (hd 27 rfl) <| zmv rfl (hd 28 rfl) <| zmv rfl (hd 29 rfl) <| zmv rfl (hd 30 rfl) <| jo_l (ly_ian (i := k - 1) sl28 rfl rfl (by omega) (by omega)) (hd 31 rfl) <| jo_l (ly_ldq one82 rfl rfl) (hd 32 rfl) <| zmv rfl (hd 33 rfl) ?_
      refine jo_call Tryz.f105 (Div64_s (dvN (trm l) d ((trm l).length - k)).2 ((trm l).getD (k - 1) 0) d hr.1 hr.2 hx.1 hx.2 hd1) rfl Tryz.func105 rfl rfl (ovL_cons rfl (ovL_cons rfl (ovL_cons rfl ovL_nil))) (.cons .i (.cons .i (.cons .i .nil))) (hd 34 rfl) ?_ (fun ch hp => by simp at hp)
      rintro _ ⟨⟩; refine zmv rfl (hd 25 rfl) <| jo_l (ly_ext rfl rfl) (hd 35 rfl) <| jo_l (ly_ext rfl rfl) (hd 36 rfl) <| jo_l (ly_ia (i := k - 1) sl28 rfl rfl rfl (by omega) (by omega) rfl) (hd 37 rfl) <| jo_st (sy_storei rfl rfl rfl one82 (by simp only [List.length_append, List.length_replicate, dvN_len]; omega)) <| zas rfl (hd 8 rfl) <| jo_nil <| jc_region <| zmv rfl (hd 23 rfl) <| jo_l (ly_sub rfl rfl (wrap_i64 (by omega) (by omega))) (hd 24 rfl) <| zas rfl (hd 9 rfl) <| jo_nil ?_
      refine ⟨k - 1, ?_, ?_, (by show [(⟨79, 1, 0, true, ints .u64 _⟩ : Ob)] = [⟨79, 1, 0, true, ints .u64 _⟩]; rw [dv_row (by omega), dv_step (by omega) hc1]), cov_n 38 rfl rfl ?_⟩
      · omega
      · omega
      · exact (.cons (by show some (V.i .u64 _) = some (V.i .u64 _); rw [dv_step (by omega) hc1]) (.cons (by show some (V.i .i64 _) = some (V.i .i64 _); congr 2; omega) (.u (.u (.u (.u (.u (.u (.u (.u (.u (.u (.u (.u (.u (.u (.u (.u (.u .nil)))))))))))))))))))
    · obtain rfl : k = 0 := by omega
      refine jc_exit <| jc_seq <| jc_frz (k := .u64) (l := List.replicate 0 0 ++ (dvN (trm l) d ((trm l).length - 0)).1) (l' := (dvN (trm l) d (trm l).length).1) 7 rfl rfl (by simp [dvN_len]) (by rw [Nat.sub_zero, List.drop_zero]; show List.take _ (dvN (trm l) d (trm l).length).1 = _; rw [List.take_of_length_le (by rw [dvN_len]; exact Nat.le_refl _)]) hL <| jc_region <| zmv rfl (hd 39 rfl) ?_
      refine jo_call Tryz.f112 (told_ok (dvN (trm l) d (trm l).length).1 (by rw [dvN_len]; omega) (dvN_u uT hd0 _) (by rw [hde.1, lenN_lm]; exact hfq)) rfl Tryz.func112 rfl rfl (ovL_cons rfl ovL_nil) (.cons .n .nil) (hd 40 rfl) ?_ (fun ch hp => by simp at hp)
      rintro _ ⟨⟩; refine zmv rfl (hd 38 rfl) <| jo_l (ly_ext rfl rfl) (hd 41 rfl) <| jo_l (ly_ext rfl rfl) (hd 42 rfl) <| zas rfl (hd 7 rfl) <| zas rfl (hd 10 rfl) <| jo_nil <| jc_seq <| zsr <| zmv rfl (hd 43 rfl) <| jo_l (ly_ff (ly_ne rfl rfl) (by decide)) (hd 44 rfl) <| jo_nil <| jc_litf rfl ?_; refine jc_skip <| zsr <| zmv rfl (hd 46 rfl) <| zmv rfl (hd 47 rfl) <| zas rfl (hd 4 rfl) <| zas rfl (hd 5 rfl) <| zas rfl (hd 6 rfl) <| jo_nil <| jc_ret ?_
      refine ⟨_, _, (.cons rfl (.cons rfl (.cons rfl .nil))), (.t1 .nn (.t1 .i (.t1 .i .t0))), ?_⟩
      rw [Nat.sub_zero, hde.1, hde.2]
end Go.Proofs.YtpldmajdiljoaaaGreat.Vc
