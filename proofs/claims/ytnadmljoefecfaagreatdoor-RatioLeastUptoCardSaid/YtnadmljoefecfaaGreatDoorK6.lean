/- The law RatioLeast of every input of bulk at most 1048576: it returns true, and the input reads as it did. Texts joined: Yi, Yj, Yk, Yl, Ym, Yo, Yp, Yq, Yr, Yz, Pa, Pb, Pc, Pd, Pe, Pf, Pg, Ph, Pi, Pj, Pk, Pl, Pm, Pn, Po, Pp, Pq, Pr, Pt, Pv, Pw, Px, Py, Pz, Qd, Qe. -/
import Derived.Test.YtnadmljoefecfaaGreatDoorK5
set_option linter.unusedVariables false
set_option linter.unusedSimpArgs false
set_option maxHeartbeats 4000000
namespace Go.Proofs.YtnadmljoefecfaaGreatDoor.Vc
open Go Go.RowKit
set_option maxRecDepth 100000 in
theorem Ael (U u v Q : List Int) (j n : Nat) (hU : j + (n + 3) ≤ U.length) (hUl : U.length < 4398046511104) (uU : Av U) (hu : slJ U j (n + 3) = u) (hP : GuP u v n) : SpecM Tryz.prog 129 [.o 0 0 j (n + 3), .n false .u64 v] ([⟨71, 1, 0, true, ints .u64 U⟩, ⟨71, 1, 0, true, ints .u64 Q⟩]) (fun o H' => o = .ret (.i .u64 (vl u / vl v)) ∧ ∃ r, H' = [⟨71, 1, 0, true, ints .u64 (rwJ U j r)⟩, ⟨71, 1, 0, true, ints .u64 Q⟩] ∧ r.length = n + 3 ∧ Av r ∧ vl r = vl u % vl v) := by
  refine Q7 [(0, .o 0 0 j (n + 3)), (1, .n false .u64 v)] rfl (2) rfl Tryz.func129 rfl (Zb rfl) fun Γ hN hds => ?_
  have hd := B2 195 hN
  have hlu := hP.lu
  have hlv := hP.lv
  have hv0 := hP.pos
  have hQ1 := hP.q_lt
  have hQ0 := hP.q_nn
  have hx0 := A2 hP.uu n
  have hx1 := A2 hP.uu (n + 1)
  have hx2 := A2 hP.uu (n + 2)
  have hy0 := A2 hP.uv n
  have hy1 := A2 hP.uv (n + 1)
  have hat2 : ∀ k, k < n + 3 → U.getD (j + k) 0 = u.getD k 0 := fun k hk => by rw [← hu, Agl hk]
  have hat : ∀ k, k < n + 3 → U.getD ((j + k) * 1) 0 = u.getD k 0 := fun k hk => by rw [Nat.mul_one]; exact hat2 k hk
  refine Zs <| Za rfl (hd 4 rfl) <| Ab <| Zs <| Zm rfl (hd 24 rfl) <| Ac (Ar A7 rfl) (hd 25 rfl) <| Za rfl (hd 5 rfl) <| Ab <| Zs <| Za rfl (hd 6 rfl) ?_; refine Za rfl (hd 7 rfl) <| Ab <| Zs <| Za rfl (hd 8 rfl) <| Ab ?_
  refine C9 (G := Int × Int × Bool) (fun g => vl u / vl v ≤ g.1 ∧ 0 ≤ g.1 ∧ g.1 < 18446744073709551616 ∧ (g.2.2 = false → Est u v n g.1 g.2.1 ∧ g.2.1 < 18446744073709551616) ∧ (g.2.2 = true → g.1 ≤ vl u / vl v + 1)) (fun g => [(6, .i .u64 g.1), (7, .i .u64 g.2.1), (8, .b g.2.2), (9, .u), (26, .u), (27, .u), (28, .u), (29, .u), (30, .u), (31, .u), (32, .u), (33, .u), (34, .u), (35, .u), (36, .u), (37, .u), (38, .u), (39, .u), (40, .u), (41, .u), (42, .u), (43, .u), (44, .u), (45, .u), (46, .u), (47, .u), (48, .u), (49, .u), (50, .u), (51, .u), (52, .u), (53, .u), (54, .u), (55, .u), (56, .u), (57, .u), (58, .u), (59, .u), (60, .u), (61, .u), (62, .u), (63, .u), (64, .u), (65, .u), (66, .u), (67, .u), (68, .u), (69, .u)]) ?_ ?_
  · refine Ae <| Bo (n := 10) _ rfl B9 <| Z2 0 [2, 3, 9] (Am (Ay rfl) (hd 26 rfl)) rfl <| Z2 1 [2, 3, 9] (Am (Ay rfl) (hd 27 rfl)) rfl <| Z2 2 [3, 9] (Am (Ck (i := n + 2) A7 rfl rfl rfl (by first | rfl | omega) (by omega) rfl) (hd 28 rfl)) rfl <| Z1 3 (Am (Bk (Ee Bu rfl rfl (by omega)) (show V.i .u64 _ = V.i .u64 (u.getD (n + 2) 0) from congrArg (V.i .u64) (hat (n + 2) (by omega)))) (hd 29 rfl)) rfl <| Z2 4 [7, 8, 9] (Am (Ay rfl) (hd 30 rfl)) rfl <| Z2 5 [6, 7, 8, 9] (Am (Ay rfl) (hd 31 rfl)) rfl <| Z2 6 [7, 8, 9] (Am (Bm rfl rfl (r := ((n + 1 : Nat) : Int)) (by rw [Ak (by omega) (by omega)]; omega)) (hd 32 rfl)) rfl <| Z2 7 [8, 9] (Am (Cc (i := n + 1) A7 rfl rfl (by first | rfl | omega) (by omega)) (hd 33 rfl)) rfl <| Z1 8 (Am (B8 Bu rfl rfl) (hd 34 rfl)) rfl <| Z1 9 (Am (F6 rfl rfl) (hd 35 rfl)) rfl <| Bx (by kernel_rfl) ?_
    refine Bh rfl (fun h1 => ?_) (fun h1 => ?_)
    · refine Zs <| Za rfl (hd 6 rfl) <| Ab <| Zs <| Za rfl (hd 9 rfl) <| Ab <| Ae <| Bo (n := 16) _ rfl B9 <| Z2 0 [3, 4, 10, 11, 12, 13, 14, 15] (Am (Ay rfl) (hd 37 rfl)) rfl <| Z2 1 [2, 3, 4, 10, 11, 12, 13, 14, 15] (Am (Ay rfl) (hd 38 rfl)) rfl <| Z2 2 [3, 4, 10, 11, 12, 13, 14, 15] (Am (Bm rfl rfl (r := ((n + 1 : Nat) : Int)) (by rw [Ak (by omega) (by omega)]; omega)) (hd 39 rfl)) rfl ?_; refine Z2 3 [4, 10, 11, 12, 13, 14, 15] (Am (Ck (i := n + 1) A7 rfl rfl rfl (by first | rfl | omega) (by omega) rfl) (hd 40 rfl)) rfl <| Z2 4 [10, 11, 12, 13, 14, 15] (Am (Bk (Ee Bu rfl rfl (by omega)) (show V.i .u64 _ = V.i .u64 (u.getD (n + 1) 0) from congrArg (V.i .u64) (hat (n + 1) (by omega)))) (hd 41 rfl)) rfl <| Z2 5 [8, 9, 10, 11, 12, 13, 14, 15] (Am (Ay rfl) (hd 42 rfl)) rfl <| Z2 6 [7, 8, 9, 10, 11, 12, 13, 14, 15] (Am (Ay rfl) (hd 43 rfl)) rfl <| Z2 7 [8, 9, 10, 11, 12, 13, 14, 15] (Am (Bm rfl rfl (r := ((n + 1 : Nat) : Int)) (by rw [Ak (by omega) (by omega)]; omega)) (hd 44 rfl)) rfl <| Z2 8 [9, 10, 11, 12, 13, 14, 15] (Am (Cc (i := n + 1) A7 rfl rfl (by first | rfl | omega) (by omega)) (hd 45 rfl)) rfl <| Z2 9 [10, 11, 12, 13, 14, 15] (Am (B8 Bu rfl rfl) (hd 46 rfl)) rfl ?_
      refine Be 10 ?_ rfl (by kernel_rfl)
      refine Df (Eg (e := add64Entry) Tryz.func123 rfl rfl (by kernel_rfl) (by kernel_rfl) rfl rfl rfl (fun w => run_add64 _ _ _ hx1.1 hy1.1 (by decide) (by decide) w) Dp) (hd 47 rfl) <| Z1 11 (Am (Ay rfl) (hd 36 rfl)) rfl <| Z1 12 (Am (Ai rfl rfl) (hd 48 rfl)) rfl <| Z1 13 (Am (Ai rfl rfl) (hd 49 rfl)) rfl <| Z1 14 (Am (Cm rfl) (hd 7 rfl)) rfl <| Z1 15 (Am (Cm rfl) (hd 9 rfl)) rfl <| Bx (by kernel_rfl) <| Af <| Zm rfl (hd 50 rfl) <| Ac (Ec rfl rfl) (hd 51 rfl) <| Za rfl (hd 8 rfl) <| Ab ?_
      refine ⟨(18446744073709551615, (u.getD (n + 1) 0 + v.getD (n + 1) 0 + 0) % 18446744073709551616, decide ((u.getD (n + 1) 0 + v.getD (n + 1) 0 + 0) / 18446744073709551616 ≠ 0)), ?_, rfl, Bj 31 rfl rfl ?_⟩
      · have hE := hP.first_eq (by omega)
        refine ⟨hE.2.1, hE.2.2.1, hE.2.2.2.1, fun h => ?_, fun h => ?_⟩
        · have h2 := of_decide_eq_false h
          have e : (u.getD (n + 1) 0 + v.getD (n + 1) 0 + 0) % 18446744073709551616 = u.getD (n + 1) 0 + v.getD (n + 1) 0 := by omega
          show Est u v n _ ((u.getD (n + 1) 0 + v.getD (n + 1) 0 + 0) % 18446744073709551616) ∧ (u.getD (n + 1) 0 + v.getD (n + 1) 0 + 0) % 18446744073709551616 < _
          rw [e]
          exact ⟨hE, by omega⟩
        · have h2 := of_decide_eq_true h
          exact hP.over hE (by omega)
      · exact (.cons rfl (.cons rfl (.cons rfl (.v9 (.v9 (.v9 (.v9 (.v5 .nil))))))))
    · refine Bo (n := 20) _ rfl B9 <| Z2 0 [2, 3, 14, 15, 16, 17, 18, 19] (Am (Ay rfl) (hd 53 rfl)) rfl <| Z2 1 [2, 3, 14, 15, 16, 17, 18, 19] (Am (Ay rfl) (hd 54 rfl)) rfl <| Z2 2 [3, 14, 15, 16, 17, 18, 19] (Am (Ck (i := n + 2) A7 rfl rfl rfl (by first | rfl | omega) (by omega) rfl) (hd 55 rfl)) rfl <| Z2 3 [14, 15, 16, 17, 18, 19] (Am (Bk (Ee Bu rfl rfl (by omega)) (show V.i .u64 _ = V.i .u64 (u.getD (n + 2) 0) from congrArg (V.i .u64) (hat (n + 2) (by omega)))) (hd 56 rfl)) rfl <| Z2 4 [7, 8, 14, 15, 16, 17, 18, 19] (Am (Ay rfl) (hd 57 rfl)) rfl <| Z2 5 [6, 7, 8, 14, 15, 16, 17, 18, 19] (Am (Ay rfl) (hd 58 rfl)) rfl <| Z2 6 [7, 8, 14, 15, 16, 17, 18, 19] (Am (Bm rfl rfl (r := ((n + 1 : Nat) : Int)) (by rw [Ak (by omega) (by omega)]; omega)) (hd 59 rfl)) rfl <| Z2 7 [8, 14, 15, 16, 17, 18, 19] (Am (Ck (i := n + 1) A7 rfl rfl rfl (by first | rfl | omega) (by omega) rfl) (hd 60 rfl)) rfl <| Z2 8 [14, 15, 16, 17, 18, 19] (Am (Bk (Ee Bu rfl rfl (by omega)) (show V.i .u64 _ = V.i .u64 (u.getD (n + 1) 0) from congrArg (V.i .u64) (hat (n + 1) (by omega)))) (hd 61 rfl)) rfl <| Z2 9 [12, 13, 14, 15, 16, 17, 18, 19] (Am (Ay rfl) (hd 62 rfl)) rfl <| Z2 10 [11, 12, 13, 14, 15, 16, 17, 18, 19] (Am (Ay rfl) (hd 63 rfl)) rfl <| Z2 11 [12, 13, 14, 15, 16, 17, 18, 19] (Am (Bm rfl rfl (r := ((n + 1 : Nat) : Int)) (by rw [Ak (by omega) (by omega)]; omega)) (hd 64 rfl)) rfl ?_; refine Z2 12 [13, 14, 15, 16, 17, 18, 19] (Am (Cc (i := n + 1) A7 rfl rfl (by first | rfl | omega) (by omega)) (hd 65 rfl)) rfl <| Z2 13 [14, 15, 16, 17, 18, 19] (Am (B8 Bu rfl rfl) (hd 66 rfl)) rfl ?_
      refine Be 14 ?_ rfl (by kernel_rfl)
      refine Ax Tryz.f126 (Qy (u.getD (n + 2) 0) (u.getD (n + 1) 0) (v.getD (n + 1) 0) hx2.1 (by omega) hx1.1 hx1.2 hy1.2) rfl Tryz.func126 rfl rfl (Aa rfl (Aa rfl (Aa rfl Ad))) (.cons .i (.cons .i (.cons .i .nil))) (hd 67 rfl) ?_ (fun _ h => by simp at h)
      rintro _ ⟨⟩; refine Z1 15 (Am (Ay rfl) (hd 52 rfl)) rfl <| Z1 16 (Am (Ai rfl rfl) (hd 68 rfl)) rfl <| Z1 17 (Am (Ai rfl rfl) (hd 69 rfl)) rfl <| Z1 18 (Am (Cm rfl) (hd 6 rfl)) rfl <| Z1 19 (Am (Cm rfl) (hd 7 rfl)) rfl <| Bx (by kernel_rfl) ?_
      refine ⟨((u.getD (n + 2) 0 * 18446744073709551616 + u.getD (n + 1) 0) / v.getD (n + 1) 0, (u.getD (n + 2) 0 * 18446744073709551616 + u.getD (n + 1) 0) % v.getD (n + 1) 0, false), ?_, rfl, Bj 30 rfl rfl ?_⟩
      · have hE := hP.first_div (by omega)
        have hm := Int.emod_lt_of_pos (u.getD (n + 2) 0 * 18446744073709551616 + u.getD (n + 1) 0) (show 0 < v.getD (n + 1) 0 by omega)
        exact ⟨hE.2.1, hE.2.2.1, hE.2.2.2.1, fun _ => ⟨hE, by dsimp only; omega⟩, fun h => absurd h (by simp)⟩
      · exact (.cons rfl (.cons rfl (.cons rfl (.v9 (.v9 (.v9 (.v9 (.v5 .nil))))))))
  · rintro ⟨q0, r0, sure⟩ ⟨hc1, hc2, hc3, hc4, hc5⟩
    dsimp only at hc1 hc2 hc3 hc4 hc5
    refine C9 (G := Int) (fun g => vl u / vl v ≤ g ∧ 0 ≤ g ∧ g < 18446744073709551616 ∧ g ≤ vl u / vl v + 1) (fun g => [(6, .i .u64 g), (7, .u), (10, .u), (11, .u), (12, .u), (70, .u), (71, .u), (72, .u), (73, .u), (74, .u), (75, .u), (76, .u), (77, .u), (78, .u), (79, .u), (80, .u), (81, .u), (82, .u), (83, .u), (84, .u), (85, .u), (86, .u), (87, .u), (88, .u), (89, .u), (90, .u), (91, .u), (92, .u), (93, .u), (94, .u), (95, .u), (96, .u), (97, .u), (98, .u), (99, .u), (100, .u), (101, .u), (102, .u), (103, .u), (104, .u), (105, .u), (106, .u), (107, .u), (108, .u), (109, .u), (110, .u), (111, .u), (112, .u)]) ?_ ?_
    · refine At ?_
      refine Ch (G := Int × Int) (fun g => vl u / vl v ≤ g.1 ∧ 0 ≤ g.1 ∧ g.1 < 18446744073709551616 ∧ (sure = false → Est u v n g.1 g.2 ∧ g.2 < 18446744073709551616) ∧ (sure = true → g.1 ≤ vl u / vl v + 1)) (fun g => [(6, .i .u64 g.1), (7, .i .u64 g.2), (10, .u), (11, .u), (12, .u), (70, .u), (71, .u), (72, .u), (73, .u), (74, .u), (75, .u), (76, .u), (77, .u), (78, .u), (79, .u), (80, .u), (81, .u), (82, .u), (83, .u), (84, .u), (85, .u), (86, .u), (87, .u), (88, .u), (89, .u), (90, .u), (91, .u), (92, .u), (93, .u), (94, .u), (95, .u), (96, .u), (97, .u), (98, .u), (99, .u), (100, .u), (101, .u), (102, .u), (103, .u), (104, .u), (105, .u), (106, .u), (107, .u), (108, .u), (109, .u), (110, .u), (111, .u), (112, .u)]) (fun _ => _) (fun g => g.1.toNat) (q0, r0) ?_ ?_ rfl ?_
      · exact ⟨hc1, hc2, hc3, hc4, hc5⟩
      · exact (.cons rfl (.cons rfl (.v9 (.v9 (.v9 (.v9 (.v5 (.u .nil))))))))
      · rintro ⟨q, r⟩ ⟨hd1, hd2, hd3, hd4, hd5⟩
        dsimp only at hd1 hd2 hd3 hd4 hd5
        refine Ae <| Zs <| Zm rfl (hd 70 rfl) <| Ac (Ha rfl) (hd 71 rfl) <| Ab ?_
        refine F7 rfl (fun h2 => ?_) (fun h2 => ?_)
        · have hsf : sure = false := by simpa using h2
          obtain ⟨hE, hr⟩ := hd4 hsf
          obtain ⟨hE1, hE2, hE3, hE4, hE5⟩ := id hE
          refine Aj <| At <| Zs <| Zm rfl (hd 73 rfl) <| Zm rfl (hd 74 rfl) <| Zm rfl (hd 75 rfl) <| Ac (Bm rfl rfl (r := ((n : Nat) : Int)) (by rw [Ak (by omega) (by omega)]; omega)) (hd 76 rfl) <| Ac (Cc (i := n) A7 rfl rfl (by first | rfl | omega) (by omega)) (hd 77 rfl) <| Ac (B8 Bu rfl rfl) (hd 78 rfl) ?_
          refine Ag Tryz.f140 (Qx q (v.getD n 0) hd2 hd3 hy0.1 hy0.2) rfl Tryz.func140 rfl rfl (Aa rfl (Aa rfl Ad)) (.cons .i (.cons .i .nil)) (hd 79 rfl) ?_ (fun _ h => by simp at h)
          rintro _ ⟨⟩; refine Zm rfl (hd 72 rfl) <| Ac (Ai rfl rfl) (hd 80 rfl) <| Ac (Ai rfl rfl) (hd 81 rfl) <| Za rfl (hd 10 rfl) <| Za rfl (hd 11 rfl) <| Ab <| Ae <| Zs <| Zm rfl (hd 82 rfl) <| Zm rfl (hd 83 rfl) <| Ac (Ca rfl rfl) (hd 84 rfl) <| Zm rfl (hd 85 rfl) ?_
          refine Ez 85 rfl (fun h3 => ?_) (fun h3 => ?_)
          · refine Bz 85 rfl rfl rfl (hd 86 rfl) <| Bz 85 rfl rfl rfl (hd 87 rfl) <| Bz 85 rfl rfl rfl (hd 88 rfl) <| Bz 85 rfl rfl rfl (hd 89 rfl) <| Nb 89 rfl rfl (hd 90 rfl) <| Nb 89 rfl rfl (hd 91 rfl) <| Nb 89 rfl rfl (hd 92 rfl) <| Nb 89 rfl rfl (hd 93 rfl) <| Nb 89 rfl rfl (hd 94 rfl) <| Nb 89 rfl rfl (hd 95 rfl) <| Nb 89 rfl rfl (hd 96 rfl) <| Bz 85 rfl rfl rfl (hd 97 rfl) <| Ac (Bt rfl rfl) (hd 98 rfl) ?_; refine Ab <| Cw rfl <| Br ?_
            refine ⟨q, ?_, rfl, Bj 80 rfl rfl ?_⟩
            · exact ⟨hd1, hd2, hd3, hP.last hE (by omega)⟩
            · exact (.cons rfl (.v9 (.v9 (.v9 (.v9 (.v5 (.u (.u .nil))))))))
          · refine Bi 85 rfl rfl (Ay rfl) (hd 86 rfl) <| Bi 85 rfl rfl (Ay rfl) (hd 87 rfl) <| Bi 85 rfl rfl (Cq rfl rfl) (hd 88 rfl) <| Bi 85 rfl rfl (Ay rfl) (hd 89 rfl) ?_
            refine Ez 89 rfl (fun h5 => ?_) (fun h5 => ?_)
            · refine Bi 89 rfl rfl (Ay rfl) (hd 90 rfl) <| Bi 89 rfl rfl (Ay rfl) (hd 91 rfl) <| Bi 89 rfl rfl (Ay rfl) (hd 92 rfl) <| Bi 89 rfl rfl (Bm rfl rfl (r := ((n : Nat) : Int)) (by rw [Ak (by omega) (by omega)]; omega)) (hd 93 rfl) <| Bi 89 rfl rfl (Ck (i := n) A7 rfl rfl rfl (by first | rfl | omega) (by omega) rfl) (hd 94 rfl) <| Bi 89 rfl rfl (Bk (Ee Bu rfl rfl (by omega)) (show V.i .u64 _ = V.i .u64 (u.getD (n) 0) from congrArg (V.i .u64) (hat (n) (by omega)))) (hd 95 rfl) <| Bi 89 rfl rfl (Jq rfl rfl) (hd 96 rfl) <| Bi 85 rfl rfl (Bt rfl rfl) (hd 97 rfl) <| Ac (Bg rfl rfl) (hd 98 rfl) <| Ab ?_
              refine Bh rfl (fun h6 => ?_) (fun h6 => ?_)
              · refine Br ?_
                refine ⟨q, ?_, rfl, Bj 81 rfl rfl ?_⟩
                · exact ⟨hd1, hd2, hd3, hP.last hE (by omega)⟩
                · exact (.cons rfl (.v9 (.v9 (.v9 (.v9 (.v5 (.u (.u .nil))))))))
              · refine Aj <| Ae ?_
                obtain ⟨hN, hq1⟩ := hP.next hE (by omega)
                obtain ⟨hN1, hN2, hN3, hN4, hN5⟩ := id hN
                refine Af <| Zm rfl (hd 99 rfl) <| Ac (Bm rfl rfl (Bf (by first | omega | (dsimp only; omega)) (by first | omega | (dsimp only; omega)))) (hd 100 rfl) <| Za rfl (hd 6 rfl) <| Ab <| Zs <| Za rfl (hd 12 rfl) <| Ab <| Zs <| Zm rfl (hd 102 rfl) <| Zm rfl (hd 103 rfl) ?_; refine Zm rfl (hd 104 rfl) <| Ac (Bm rfl rfl (r := ((n + 1 : Nat) : Int)) (by rw [Ak (by omega) (by omega)]; omega)) (hd 105 rfl) <| Ac (Cc (i := n + 1) A7 rfl rfl (by first | rfl | omega) (by omega)) (hd 106 rfl) <| Ac (B8 Bu rfl rfl) (hd 107 rfl) <| A1 (Eg (e := add64Entry) Tryz.func123 rfl rfl (by kernel_rfl) (by kernel_rfl) rfl rfl rfl (fun w => run_add64 _ _ _ hE5 hy1.1 (by decide) (by decide) w) Dp) (hd 108 rfl) <| Zm rfl (hd 101 rfl) <| Ac (Ai rfl rfl) (hd 109 rfl) <| Ac (Ai rfl rfl) (hd 110 rfl) <| Za rfl (hd 7 rfl) <| Za rfl (hd 12 rfl) <| Ab <| Ae <| Af ?_; refine Zm rfl (hd 111 rfl) <| Ac (Ec rfl rfl) (hd 112 rfl) <| Ab ?_
                refine Bh rfl (fun h7 => ?_) (fun h7 => ?_)
                · refine Br ?_
                  refine ⟨(q - 1), ?_, rfl, Bj 99 rfl rfl ?_⟩
                  · exact ⟨hN2, hN3, hN4, hP.over hN (by omega)⟩
                  · exact (.cons rfl (.v9 (.v9 (.v9 (.v9 (.v5 (.u (.u .nil))))))))
                · refine Aj ?_
                  refine ⟨(q - 1, (r + v.getD (n + 1) 0 + 0) % 18446744073709551616), ?_, ?_, rfl, Bj 99 rfl rfl ?_⟩
                  · have e : (r + v.getD (n + 1) 0 + 0) % 18446744073709551616 = r + v.getD (n + 1) 0 := by omega
                    exact ⟨hN2, hN3, hN4, fun _ => by show Est u v n (q - 1) ((r + v.getD (n + 1) 0 + 0) % 18446744073709551616) ∧ (r + v.getD (n + 1) 0 + 0) % 18446744073709551616 < _; rw [e]; exact ⟨hN, by omega⟩, fun h => absurd (hsf.symm.trans h) (by simp)⟩
                  · show (q - 1).toNat < q.toNat
                    omega
                  · exact (.cons rfl (.cons rfl (.v9 (.v9 (.v9 (.v9 (.v5 (.u .nil))))))))
            · refine Bz 89 rfl rfl rfl (hd 90 rfl) <| Bz 89 rfl rfl rfl (hd 91 rfl) <| Bz 89 rfl rfl rfl (hd 92 rfl) <| Bz 89 rfl rfl rfl (hd 93 rfl) <| Bz 89 rfl rfl rfl (hd 94 rfl) <| Bz 89 rfl rfl rfl (hd 95 rfl) <| Bz 89 rfl rfl rfl (hd 96 rfl) <| Bi 85 rfl rfl (Bg rfl rfl) (hd 97 rfl) <| Ac (Bg rfl rfl) (hd 98 rfl) <| Ab <| A6 rfl <| Aj <| Ae ?_
              obtain ⟨hN, hq1⟩ := hP.next hE (by omega)
              obtain ⟨hN1, hN2, hN3, hN4, hN5⟩ := id hN
              refine Af <| Zm rfl (hd 99 rfl) <| Ac (Bm rfl rfl (Bf (by first | omega | (dsimp only; omega)) (by first | omega | (dsimp only; omega)))) (hd 100 rfl) <| Za rfl (hd 6 rfl) <| Ab <| Zs <| Za rfl (hd 12 rfl) <| Ab <| Zs <| Zm rfl (hd 102 rfl) <| Zm rfl (hd 103 rfl) ?_; refine Zm rfl (hd 104 rfl) <| Ac (Bm rfl rfl (r := ((n + 1 : Nat) : Int)) (by rw [Ak (by omega) (by omega)]; omega)) (hd 105 rfl) <| Ac (Cc (i := n + 1) A7 rfl rfl (by first | rfl | omega) (by omega)) (hd 106 rfl) <| Ac (B8 Bu rfl rfl) (hd 107 rfl) <| A1 (Eg (e := add64Entry) Tryz.func123 rfl rfl (by kernel_rfl) (by kernel_rfl) rfl rfl rfl (fun w => run_add64 _ _ _ hE5 hy1.1 (by decide) (by decide) w) Dp) (hd 108 rfl) <| Zm rfl (hd 101 rfl) <| Ac (Ai rfl rfl) (hd 109 rfl) <| Ac (Ai rfl rfl) (hd 110 rfl) <| Za rfl (hd 7 rfl) <| Za rfl (hd 12 rfl) <| Ab <| Ae <| Af ?_; refine Zm rfl (hd 111 rfl) <| Ac (Ec rfl rfl) (hd 112 rfl) <| Ab ?_
              refine Bh rfl (fun h9 => ?_) (fun h9 => ?_)
              · refine Br ?_
                refine ⟨(q - 1), ?_, rfl, Bj 99 rfl rfl ?_⟩
                · exact ⟨hN2, hN3, hN4, hP.over hN (by omega)⟩
                · exact (.cons rfl (.v9 (.v9 (.v9 (.v9 (.v5 (.u (.u .nil))))))))
              · refine Aj ?_
                refine ⟨(q - 1, (r + v.getD (n + 1) 0 + 0) % 18446744073709551616), ?_, ?_, rfl, Bj 99 rfl rfl ?_⟩
                · have e : (r + v.getD (n + 1) 0 + 0) % 18446744073709551616 = r + v.getD (n + 1) 0 := by omega
                  exact ⟨hN2, hN3, hN4, fun _ => by show Est u v n (q - 1) ((r + v.getD (n + 1) 0 + 0) % 18446744073709551616) ∧ (r + v.getD (n + 1) 0 + 0) % 18446744073709551616 < _; rw [e]; exact ⟨hN, by omega⟩, fun h => absurd (hsf.symm.trans h) (by simp)⟩
                · show (q - 1).toNat < q.toNat
                  omega
                · exact (.cons rfl (.cons rfl (.v9 (.v9 (.v9 (.v9 (.v5 (.u .nil))))))))
        · have hst : sure = true := by simpa using h2
          have hlast := hd5 hst
          refine Br ?_
          refine ⟨q, ?_, rfl, Bj 50 rfl rfl ?_⟩
          · exact ⟨hd1, hd2, hd3, hlast⟩
          · exact (.cons rfl (.v9 (.v9 (.v9 (.v9 (.v5 (.u (.u .nil))))))))
    · rintro q ⟨hq1, hq2, hq3, hq4⟩
      obtain ⟨hgQ, hgl, hgu, hgv⟩ := Abu hP.uu hP.uv (by omega) hv0 hq2 hq3 hq1 hq4
      unfold gsQ at hgQ
      have hmB := Ahh u v q
      have hum := Ahg hP.uu hP.uv hq2 hq3
      have hml0 := M5 u v q
      refine Ae <| Nv (H' := [⟨71, 1, 0, true, ints .u64 (rwJ U j (msN u v q 0).1)⟩, ⟨71, 1, 0, true, ints .u64 Q⟩]) (by show _ = [(⟨71, 1, 0, true, ints .u64 (rwJ U j [])⟩ : Ob), _]; rw [Ags]) <| Af <| Za rfl (hd 13 rfl) <| Za rfl (hd 14 rfl) <| Ab <| Ae <| Zs <| Zm rfl (hd 113 rfl) <| Ac (Ar A7 rfl) (hd 114 rfl) <| Zm rfl (hd 115 rfl) <| Ab ?_; refine At ?_
      refine Ch (G := Nat) (fun i => i ≤ v.length) (fun i => [(13, .i .u64 (msN u v q i).2.1), (14, .i .u64 (msN u v q i).2.2), (115, .i .i64 (i : Int)), (15, .u), (16, .u), (17, .u), (18, .u), (19, .u), (20, .u), (116, .u), (117, .u), (118, .u), (119, .u), (120, .u), (121, .u), (122, .u), (123, .u), (124, .u), (125, .u), (126, .u), (127, .u), (128, .u), (129, .u), (130, .u), (131, .u), (132, .u), (133, .u), (134, .u), (135, .u), (136, .u), (137, .u), (138, .u), (139, .u), (140, .u), (141, .u), (142, .u), (143, .u), (144, .u), (145, .u), (146, .u), (147, .u), (148, .u)]) (fun i => [⟨71, 1, 0, true, ints .u64 (rwJ U j (msN u v q i).1)⟩, ⟨71, 1, 0, true, ints .u64 Q⟩]) (fun i => v.length - i) 0 ?_ ?_ rfl ?_
      · exact Nat.zero_le _
      · exact (.cons rfl (.cons rfl (.cons rfl (.v9 (.v9 (.v9 (.v5 (.u (.u (.u (.u .nil)))))))))))
      · rintro i hi1
        have hml := Gs u v q i
        have hf : (rwJ U j (msN u v q i).1).length = U.length := Kq (by omega)
        have hc := Ad0 (u := u) hP.uv hq2 hq3 i
        have hb := Ad1 u v q i
        have hxi := A2 hP.uu i
        have hyi := A2 hP.uv i
        have hmp := Vd hyi.1 hyi.2 hq2 hq3
        refine Zs <| Ac (Ca rfl rfl) (hd 116 rfl) <| Ab <| Ae ?_
        refine Bh rfl (fun h10 => ?_) (fun h10 => ?_)
        · refine Aj <| Ae <| At <| Zs <| Zm rfl (hd 117 rfl) <| Ac (Cc (i := i) A7 rfl rfl (by first | rfl | omega) (by omega)) (hd 118 rfl) <| Ac (B8 Bu rfl rfl) (hd 119 rfl) <| Za rfl (hd 15 rfl) <| Za rfl (hd 16 rfl) <| Ab <| Ae <| Af ?_; refine Zm rfl (hd 121 rfl) <| Zm rfl (hd 122 rfl) ?_
          refine Ag Tryz.f140 (Qx (v.getD i 0) q hyi.1 hyi.2 hq2 hq3) rfl Tryz.func140 rfl rfl (Aa rfl (Aa rfl Ad)) (.cons .i (.cons .i .nil)) (hd 123 rfl) ?_ (fun _ h => by simp at h)
          rintro _ ⟨⟩; refine Zm rfl (hd 120 rfl) <| Ac (Ai rfl rfl) (hd 124 rfl) <| Ac (Ai rfl rfl) (hd 125 rfl) <| Za rfl (hd 17 rfl) <| Za rfl (hd 18 rfl) <| Ab <| Zs <| Zm rfl (hd 127 rfl) <| Zm rfl (hd 128 rfl) <| A1 (Eg (e := add64Entry) Tryz.func123 rfl rfl (by kernel_rfl) (by kernel_rfl) rfl rfl rfl (fun w => run_add64 _ _ _ (Int.emod_nonneg _ (by decide)) hc.1 (by decide) (by decide) w) Dp) (hd 129 rfl) <| Zm rfl (hd 126 rfl) <| Ac (Bk (Ai rfl rfl) (show V.i .u64 _ = V.i .u64 (msS u v q i (msN u v q i).2.1) from congrArg (V.i .u64) (by unfold msS; rw [Int.add_zero]))) (hd 130 rfl) ?_; refine Ac (Ai rfl rfl) (hd 131 rfl) <| Za rfl (hd 19 rfl) <| Za rfl (hd 20 rfl) <| Ab <| Zs <| Zm rfl (hd 132 rfl) <| Zm rfl (hd 133 rfl) <| Ac (Bd rfl rfl (r := msC v q i (msN u v q i).2.1) (by unfold msC; rw [Int.add_zero]; exact Bf (by omega) (by omega))) (hd 134 rfl) <| Za rfl (hd 13 rfl) <| Ab <| Af <| Zm rfl (hd 136 rfl) ?_; refine Zm rfl (hd 137 rfl) <| Zm rfl (hd 138 rfl) <| Zm rfl (hd 139 rfl) <| Ac (Ck (i := i) A7 rfl rfl rfl (by first | rfl | omega) (by omega) rfl) (hd 140 rfl) <| Ac (Bk (Ee Bu rfl rfl (by omega)) (show V.i .u64 _ = V.i .u64 (u.getD i 0) from congrArg (V.i .u64) ((Rf (by omega) (by omega)).trans (hat2 (i) (by omega))))) (hd 141 rfl) <| Zm rfl (hd 142 rfl) <| Zm rfl (hd 143 rfl) <| A1 (Eg (e := E4) Tryz.func124 rfl rfl (by kernel_rfl) (by kernel_rfl) rfl rfl rfl (fun w => G5 _ _ _ hxi.1 hxi.2 (by unfold msS; omega) (by unfold msS; omega) hb.1 hb.2 w) Dp) (hd 144 rfl) <| Zm rfl (hd 135 rfl) <| Ac (Bk (Ai rfl rfl) (show V.i .u64 _ = V.i .u64 (sbD (u.getD i 0) (msS u v q i (msN u v q i).2.1) (msN u v q i).2.2) from congrArg (V.i .u64) rfl)) (hd 145 rfl) <| Ac (Bk (Ai rfl rfl) (show V.i .u64 _ = V.i .u64 (sbB (u.getD i 0) (msS u v q i (msN u v q i).2.1) (msN u v q i).2.2) from congrArg (V.i .u64) rfl)) (hd 146 rfl) <| Ac (Ck (i := i) A7 rfl rfl rfl (by first | rfl | omega) (by omega) rfl) (hd 147 rfl) <| A3 (Cf rfl rfl rfl Bu (by omega)) ?_; refine Za rfl (hd 14 rfl) <| Ab <| Af <| Ac (Bd rfl rfl (Ak (by omega) (by omega))) (hd 148 rfl) <| Zm rfl (hd 115 rfl) <| Ab ?_
          refine ⟨i + 1, ?_, ?_, (by show [(⟨71, 1, 0, true, ints .u64 _⟩ : Ob), _] = [⟨71, 1, 0, true, ints .u64 _⟩, _]; rw [Ahe (by omega)]), Bj 84 rfl rfl ?_⟩
          · omega
          · omega
          · exact (.cons rfl (.cons rfl (.cons rfl (.v9 (.v9 (.v9 (.v5 (.u (.u (.u (.u .nil)))))))))))
        · obtain rfl : i = v.length := by omega
          refine Br <| Zs <| Zm rfl (hd 150 rfl) <| Zm rfl (hd 151 rfl) <| Zm rfl (hd 152 rfl) <| Zm rfl (hd 153 rfl) <| Ac (Ck (i := v.length) A7 rfl rfl rfl (by first | rfl | omega) (by omega) rfl) (hd 154 rfl) <| Ac (Bk (Ee Bu rfl rfl (by omega)) (show V.i .u64 _ = V.i .u64 (u.getD v.length 0) from congrArg (V.i .u64) ((Rf (by omega) (by omega)).trans (hat2 (v.length) (by omega))))) (hd 155 rfl) <| Zm rfl (hd 156 rfl) <| Zm rfl (hd 157 rfl) <| A1 (Eg (e := E4) Tryz.func124 rfl rfl (by kernel_rfl) (by kernel_rfl) rfl rfl rfl (fun w => G5 _ _ _ hxi.1 hxi.2 hc.1 hc.2 hb.1 hb.2 w) Dp) (hd 158 rfl) <| Zm rfl (hd 149 rfl) ?_; refine Ac (Bk (Ai rfl rfl) (show V.i .u64 _ = V.i .u64 (sbD (u.getD v.length 0) (msN u v q v.length).2.1 (msN u v q v.length).2.2) from congrArg (V.i .u64) rfl)) (hd 159 rfl) <| Ac (Bk (Ai rfl rfl) (show V.i .u64 _ = V.i .u64 (msB u v q) from congrArg (V.i .u64) rfl)) (hd 160 rfl) <| Ac (Ck (i := v.length) A7 rfl rfl rfl (by first | rfl | omega) (by omega) rfl) (hd 161 rfl) <| A3 (Cf rfl rfl rfl Bu (by omega)) <| Za rfl (hd 14 rfl) <| Ab <| Ae <| Ae <| Nv (H' := [⟨71, 1, 0, true, ints .u64 (rwJ U j (msL u v q))⟩, ⟨71, 1, 0, true, ints .u64 Q⟩]) (by show [(⟨71, 1, 0, true, ints .u64 _⟩ : Ob), _] = [⟨71, 1, 0, true, ints .u64 _⟩, _]; rw [Ahi (by omega)]) ?_
          have hW : (rwJ U j (msL u v q)).length = U.length := Kq (by omega)
          refine Af <| Zm rfl (hd 162 rfl) <| Ac (Ec rfl rfl) (hd 163 rfl) <| Ab ?_
          refine Bh rfl (fun h11 => ?_) (fun h11 => ?_)
          · have hb1 : msB u v q = 1 := by omega
            have hq9 : q - 1 = vl u / vl v := by omega
            have hgl2 : gsL u v q = bkL (msL u v q) v := if_neg (by omega)
            rw [hgl2] at hgl hgu hgv
            refine Zs <| Zm rfl (hd 164 rfl) <| Ac (Bm rfl rfl (r := vl u / vl v) (by rw [hq9]; exact Bf (by omega) (by omega))) (hd 165 rfl) <| Za rfl (hd 6 rfl) <| Ab <| Ae <| Nv (H' := [⟨71, 1, 0, true, ints .u64 (rwJ (rwJ U j (msL u v q)) j (adN (msL u v q) v 0).1)⟩, ⟨71, 1, 0, true, ints .u64 Q⟩]) (by show _ = [(⟨71, 1, 0, true, ints .u64 (rwJ (rwJ U j (msL u v q)) j [])⟩ : Ob), _]; rw [Ags]) <| Af <| Za rfl (hd 21 rfl) <| Ab <| Ae <| Ae ?_; refine Af <| Zm rfl (hd 166 rfl) <| Ac (Ar A7 rfl) (hd 167 rfl) <| Zm rfl (hd 168 rfl) <| Ab <| At ?_
            refine Ch (G := Nat) (fun i => i ≤ v.length) (fun i => [(21, .i .u64 (adN (msL u v q) v i).2), (168, .i .i64 (i : Int)), (22, .u), (23, .u), (169, .u), (170, .u), (171, .u), (172, .u), (173, .u), (174, .u), (175, .u), (176, .u), (177, .u), (178, .u), (179, .u), (180, .u), (181, .u), (182, .u), (183, .u), (184, .u), (185, .u), (186, .u)]) (fun i => [⟨71, 1, 0, true, ints .u64 (rwJ (rwJ U j (msL u v q)) j (adN (msL u v q) v i).1)⟩, ⟨71, 1, 0, true, ints .u64 Q⟩]) (fun i => v.length - i) 0 ?_ ?_ rfl ?_
            · exact Nat.zero_le _
            · exact (.cons rfl (.cons rfl (.v9 (.v9 .nil))))
            · rintro i hi1
              have hal := Dc (msL u v q) v i
              have hf2 : (rwJ (rwJ U j (msL u v q)) j (adN (msL u v q) v i).1).length = (rwJ U j (msL u v q)).length := Kq (by omega)
              have hca := Qv hum hP.uv i
              have hxa := A2 hum i
              have hya := A2 hP.uv i
              refine Zs <| Ac (Ca rfl rfl) (hd 169 rfl) <| Ab <| Ae ?_
              refine Bh rfl (fun h12 => ?_) (fun h12 => ?_)
              · refine Aj <| Ae <| At <| Zs <| Zm rfl (hd 170 rfl) <| Ac (Cc (i := i) A7 rfl rfl (by first | rfl | omega) (by omega)) (hd 171 rfl) <| Ac (B8 Bu rfl rfl) (hd 172 rfl) <| Za rfl (hd 22 rfl) <| Za rfl (hd 23 rfl) <| Ab <| Af <| Zm rfl (hd 174 rfl) ?_; refine Zm rfl (hd 175 rfl) <| Zm rfl (hd 176 rfl) <| Zm rfl (hd 177 rfl) <| Ac (Ck (i := i) A7 rfl rfl rfl (by first | rfl | omega) (by omega) rfl) (hd 178 rfl) <| Ac (Bk (Ee Bu rfl rfl (by omega)) (show V.i .u64 _ = V.i .u64 ((msL u v q).getD i 0) from congrArg (V.i .u64) ((Rf (by omega) (by omega)).trans (Ul (by omega) (by omega))))) (hd 179 rfl) <| Zm rfl (hd 180 rfl) <| Zm rfl (hd 181 rfl) <| A1 (Eg (e := add64Entry) Tryz.func123 rfl rfl (by kernel_rfl) (by kernel_rfl) rfl rfl rfl (fun w => run_add64 _ _ _ hxa.1 hya.1 hca.1 hca.2 w) Dp) (hd 182 rfl) <| Zm rfl (hd 173 rfl) <| Ac (Ai rfl rfl) (hd 183 rfl) <| Ac (Ai rfl rfl) (hd 184 rfl) <| Ac (Ck (i := i) A7 rfl rfl rfl (by first | rfl | omega) (by omega) rfl) (hd 185 rfl) <| A3 (Cf rfl rfl rfl Bu (by omega)) ?_; refine Za rfl (hd 21 rfl) <| Ab <| Af <| Ac (Bd rfl rfl (Ak (by omega) (by omega))) (hd 186 rfl) <| Zm rfl (hd 168 rfl) <| Ab ?_
                refine ⟨i + 1, ?_, ?_, (by show [(⟨71, 1, 0, true, ints .u64 _⟩ : Ob), _] = [⟨71, 1, 0, true, ints .u64 _⟩, _]; rw [Aif (by omega)]), Bj 44 rfl rfl ?_⟩
                · omega
                · omega
                · exact (.cons rfl (.cons rfl (.v9 (.v9 .nil))))
              · obtain rfl : i = v.length := by omega
                refine Br <| Af <| Zm rfl (hd 187 rfl) <| Zm rfl (hd 188 rfl) <| Ac (Ck (i := v.length) A7 rfl rfl rfl (by first | rfl | omega) (by omega) rfl) (hd 189 rfl) <| Ac (Bk (Ee Bu rfl rfl (by omega)) (show V.i .u64 _ = V.i .u64 ((msL u v q).getD v.length 0) from congrArg (V.i .u64) ((Rf (by omega) (by omega)).trans (Ul (by omega) (by omega))))) (hd 190 rfl) <| Zm rfl (hd 191 rfl) <| Ac (Bk (Bd rfl rfl rfl) (show V.i .u64 _ = V.i .u64 (((msL u v q).getD v.length 0 + (adN (msL u v q) v v.length).2) % 18446744073709551616) from congrArg (V.i .u64) Dv)) (hd 192 rfl) <| Ac (Ck (i := v.length) A7 rfl rfl rfl (by first | rfl | omega) (by omega) rfl) (hd 193 rfl) <| A3 (Cf rfl rfl rfl Bu (by omega)) <| Ab <| Ae <| Af ?_; refine Zm rfl (hd 194 rfl) <| Za rfl (hd 4 rfl) <| Ab <| An ?_
                refine ⟨_, (.cons rfl .nil), rfl, (.cons Bc (.cons Bc .nil)), ?_⟩
                exact ⟨rfl, bkL (msL u v q) v, by show [(⟨71, 1, 0, true, ints .u64 _⟩ : Ob), _] = [⟨71, 1, 0, true, ints .u64 _⟩, _]; rw [Aia (by omega) (by omega)], by omega, hgu, hgv⟩
          · have hb0 : msB u v q = 0 := by omega
            have hq9 : q = vl u / vl v := by omega
            have hgl2 : gsL u v q = msL u v q := if_pos hb0
            rw [hgl2] at hgl hgu hgv
            refine Aj <| Zs <| Zm rfl (hd 194 rfl) <| Za rfl (hd 4 rfl) <| Ab <| An ?_
            refine ⟨_, (.cons rfl .nil), rfl, (.cons Bc (.cons Bc .nil)), ?_⟩
            rw [← hq9]
            exact ⟨rfl, (msL u v q), rfl, by omega, hgu, hgv⟩

set_option maxRecDepth 100000 in
theorem Zv (a b : List Int) (la : a.length < 4294967296) (lb : b.length < 4294967296) (ua : Av a) (ub : Av b) (ta : tpd a) (tb : tpd b) (hb : b ≠ []) : Spec Tryz.prog 107 [.n false .u64 a, .n false .u64 b] (fun o => o = .ret (.t [.n false .u64 (lm (vl a / vl b)), .n false .u64 (lm (vl a % vl b))])) := by
  refine Aw [(0, .n false .u64 a), (1, .n false .u64 b)] rfl Tryz.func107 rfl (Zb rfl) fun Γ hN hds hL hR => ?_
  have hd := B2 104 hN
  have hcv := Hm ua ub
  have hb0 := Aat ub tb hb
  have hva := A4 ua
  refine Zs <| Za rfl (hd 4 rfl) <| Za rfl (hd 5 rfl) <| Ab <| Ae <| Zs <| Zm rfl (hd 15 rfl) <| Zm rfl (hd 16 rfl) ?_
  refine Ag Tryz.f89 (Fu a b la lb) rfl Tryz.func89 rfl rfl (Aa rfl (Aa rfl Ad)) (.cons .n (.cons .n .nil)) (hd 17 rfl) ?_ (fun _ h => by simp at h)
  rintro _ ⟨⟩; refine Ac (Ca rfl rfl) (hd 18 rfl) <| Ab ?_
  refine Bh rfl (fun h1 => ?_) (fun h1 => ?_)
  · have hlt : vl a < vl b := by rcases hcv with ⟨c, v⟩ | ⟨c, v⟩ | ⟨c, v⟩ <;> omega
    refine Zs <| Zm rfl (hd 19 rfl) <| Za rfl (hd 4 rfl) <| Za rfl (hd 5 rfl) <| Ab <| An ?_
    refine ⟨_, _, (.cons rfl (.cons rfl .nil)), (.t1 (.nil (fr := false) (k := .u64)) (.t1 .nn .t0)), ?_⟩
    rw [Int.ediv_eq_zero_of_lt hva hlt, Int.emod_eq_of_lt hva hlt, Afm, Akb ua ta]
  · have hge : vl b ≤ vl a := by rcases hcv with ⟨c, v⟩ | ⟨c, v⟩ | ⟨c, v⟩ <;> omega
    have hlen := Ahr ua ub tb hb hge
    refine Aj <| Ae <| Zs <| Zm rfl (hd 20 rfl) <| Ac (Ar A7 rfl) (hd 21 rfl) <| Ac (Cq rfl rfl) (hd 22 rfl) <| Ab ?_
    refine Bh rfl (fun h2 => ?_) (fun h2 => ?_)
    · obtain ⟨d, rfl⟩ : ∃ d, b = [d] := List.length_eq_one_iff.1 (by omega)
      have hdb := ub d (List.mem_singleton.2 rfl)
      have hd0 := Ty tb
      have hdp : 0 < d := by omega
      have hvd : vl [d] = d := by simp [vl]
      refine Zs <| Zm rfl (hd 23 rfl) <| Ac (Ar A7 rfl) (hd 24 rfl) <| A1 (Gv (m := a.length) Lg rfl rfl rfl (by show 8 * a.length ≤ _; omega) (by unfold maxLen; omega) rfl) (hd 25 rfl) <| Za rfl (hd 6 rfl) <| Za rfl (hd 7 rfl) <| Ab <| Ae <| Zs <| Zm rfl (hd 26 rfl) <| Ac (Ar A7 rfl) (hd 27 rfl) ?_; refine Ac (Bm rfl rfl (Ak (by omega) (by omega))) (hd 28 rfl) <| Za rfl (hd 8 rfl) <| Ab <| At <| Nv (H' := [⟨71, 1, 0, true, ints .u64 (List.replicate a.length 0 ++ (dvN a d (a.length - a.length)).1)⟩]) (by rw [Nat.sub_self]; show _ = [(⟨71, 1, 0, true, ints .u64 (List.replicate a.length 0 ++ [])⟩ : Ob)]; rw [List.append_nil]; rfl) ?_
      refine Ch (G := Nat) (fun k => k ≤ a.length) (fun k => [(7, .i .u64 (dvN a d (a.length - k)).2), (8, .i .i64 ((k : Int) - 1)), (29, .u), (30, .u), (31, .u), (32, .u), (33, .u), (34, .u), (35, .u), (36, .u), (37, .u), (38, .u), (39, .u), (40, .u), (41, .u), (42, .u), (43, .u), (44, .u), (45, .u), (46, .u), (47, .u)]) (fun k => [⟨71, 1, 0, true, ints .u64 (List.replicate k 0 ++ (dvN a d (a.length - k)).1)⟩]) (fun k => k) a.length ?_ ?_ rfl ?_
      · exact Nat.le_refl _
      · exact (.cons (by show some (V.i .u64 0) = some (V.i .u64 (dvN a d (a.length - a.length)).2); rw [Nat.sub_self]; rfl) (.cons rfl (.v9 (.v5 (.u (.u (.u (.u .nil))))))))
      · rintro k hc1
        have hr := Zq (a := a) hdp (a.length - k)
        have hx := A2 ua (k - 1)
        refine Ae <| Zs <| Zm rfl (hd 29 rfl) <| Ac (F6 rfl rfl) (hd 30 rfl) <| Ab ?_
        refine Bh rfl (fun h3 => ?_) (fun h3 => ?_)
        · refine Aj <| Ae <| At <| Bo (n := 17) _ rfl B9 <| Z1 0 (Am (Ay rfl) (hd 34 rfl)) rfl <| Z1 1 (Am (Ay rfl) (hd 35 rfl)) rfl <| Z2 2 [10, 11, 12, 13, 14, 15, 16] (Am (Ay rfl) (hd 36 rfl)) rfl <| Z2 3 [5, 6, 10, 11, 12, 13, 14, 15, 16] (Am (Ay rfl) (hd 37 rfl)) rfl <| Z2 4 [5, 6, 10, 11, 12, 13, 14, 15, 16] (Am (Ay rfl) (hd 38 rfl)) rfl <| Z2 5 [6, 10, 11, 12, 13, 14, 15, 16] (Am (Cc (i := k - 1) A7 rfl rfl (by omega) (by omega)) (hd 39 rfl)) rfl <| Z2 6 [10, 11, 12, 13, 14, 15, 16] (Am (B8 Bu rfl rfl) (hd 40 rfl)) rfl <| Z2 7 [8, 9, 10, 11, 12, 13, 14, 15, 16] (Am (Ay rfl) (hd 41 rfl)) rfl <| Z2 8 [9, 10, 11, 12, 13, 14, 15, 16] (Am (Cc (i := 0) A7 rfl rfl rfl (by simp)) (hd 42 rfl)) rfl ?_; refine Z2 9 [10, 11, 12, 13, 14, 15, 16] (Am (B8 Bu rfl rfl) (hd 43 rfl)) rfl ?_
          refine Be 10 ?_ rfl (by kernel_rfl)
          refine Ax Tryz.f126 (Qy (dvN a d (a.length - k)).2 (a.getD (k - 1) 0) d hr.1 hr.2 hx.1 hx.2 hdb.2) rfl Tryz.func126 rfl rfl (Aa rfl (Aa rfl (Aa rfl Ad))) (.cons .i (.cons .i (.cons .i .nil))) (hd 44 rfl) ?_ (fun _ h => by simp at h)
          rintro _ ⟨⟩; refine Z1 11 (Am (Ay rfl) (hd 33 rfl)) rfl <| Z1 12 (Am (Ai rfl rfl) (hd 45 rfl)) rfl <| Z1 13 (B3 rfl rfl (hd 46 rfl)) rfl <| Z1 14 (Am (Ck (i := k - 1) A7 rfl rfl rfl (by omega) (by omega) rfl) (hd 47 rfl)) rfl ?_
          refine Be 15 ?_ rfl (by kernel_rfl)
          refine Cl (Cf rfl rfl rfl Bu (by simp only [List.length_append, List.length_replicate, Gw]; omega)) rfl <| Z1 16 (Am (Cm rfl) (hd 7 rfl)) rfl <| Bx (by kernel_rfl) <| Af <| Zm rfl (hd 31 rfl) <| Ac (Bm rfl rfl (Ak (by omega) (by omega))) (hd 32 rfl) <| Za rfl (hd 8 rfl) <| Ab ?_
          refine ⟨k - 1, ?_, ?_, (by show [(⟨71, 1, 0, true, ints .u64 _⟩ : Ob)] = [⟨71, 1, 0, true, ints .u64 _⟩]; rw [V8 (by omega), Ng (by omega) hc1]), Bj 42 rfl rfl ?_⟩
          · omega
          · omega
          · exact (.cons (by show some (V.i .u64 _) = some (V.i .u64 _); rw [Ng (by omega) hc1]) (.cons (by show some (V.i .i64 _) = some (V.i .i64 _); congr 2; omega) (.v9 (.v5 (.u (.u (.u (.u .nil))))))))
        · obtain rfl : k = 0 := by omega
          refine Br <| Zs <| Jl (k := .u64) (l := List.replicate 0 0 ++ (dvN a d (a.length - 0)).1) (l' := (dvN a d a.length).1) 6 rfl rfl (by simp [Gw]) (by rw [Nat.sub_zero, List.drop_zero]; show List.take _ (dvN a d a.length).1 = _; rw [List.take_of_length_le (by rw [Gw]; exact Nat.le_refl _)]) hL <| Zm rfl (hd 48 rfl) ?_
          refine Ag Tryz.f66 (D4 (dvN a d a.length).1 (by rw [Gw]; omega)) rfl Tryz.func66 rfl rfl (Aa rfl Ad) (.cons .n .nil) (hd 49 rfl) ?_ (fun _ h => by simp at h)
          rintro _ ⟨⟩; refine Zm rfl (hd 50 rfl) ?_
          refine Ag Tryz.f35 (Gn (dvN a d (a.length - 0)).2) rfl Tryz.func35 rfl rfl (Aa rfl Ad) (.cons .i .nil) (hd 51 rfl) ?_ (fun _ h => by simp at h)
          rintro _ ⟨⟩; refine Za rfl (hd 4 rfl) <| Za rfl (hd 5 rfl) <| Ab <| An ?_
          refine ⟨_, _, (.cons rfl (.cons rfl .nil)), (.t1 .nn (.t1 .nn .t0)), ?_⟩
          have hde := Abv ua hdp
          rw [Nat.sub_zero, hde.2, Zh (Int.emod_nonneg _ (by omega)) (by have := Int.emod_lt_of_pos (vl a) hdp; omega), hde.1, hvd]
    · have hbl : 0 < b.length := List.length_pos_iff.2 hb
      obtain ⟨n, hn⟩ : ∃ n, b.length = n + 2 := ⟨b.length - 2, by omega⟩
      have htb := tb hb
      rw [hn, show n + 2 - 1 = n + 1 by omega] at htb
      have hbt := A2 ub (n + 1)
      obtain ⟨s, hs⟩ : ∃ s : Nat, 64 - bl 64 (b.getD (n + 1) 0).toNat = s := ⟨_, rfl⟩
      have hz := Abi (show 0 < b.getD (n + 1) 0 by omega) hbt.2
      rw [hs] at hz
      obtain ⟨s64, y0, y1⟩ := hz
      obtain ⟨v, hv⟩ : ∃ v, (upL b s).take b.length = v := ⟨_, rfl⟩
      have hv2 := Af0 s64 ub (by rw [hn]; exact y1) hb
      have uv : Av v := hv ▸ Er (Xq s64 ub) _
      have hlv : v.length = n + 2 := by rw [← hv, List.length_take, Kh]; omega
      rw [hv] at hv2
      have htop := Ahq ub uv tb hn hlv hv2
      have hul := Kh a s
      refine Aj <| Zs <| Zm rfl (hd 52 rfl) <| Zm rfl (hd 53 rfl) <| Ac (Ar A7 rfl) (hd 54 rfl) <| Ac (Bm rfl rfl (r := ((n + 1 : Nat) : Int)) (by rw [Ak (by omega) (by omega)]; omega)) (hd 55 rfl) <| Ac (Cc (i := n + 1) A7 rfl rfl (by first | rfl | omega) (by omega)) (hd 56 rfl) <| Ac (Bk (B8 Bu rfl rfl) (show V.i .u64 _ = V.i .u64 (((b.getD (n + 1) 0).toNat : Int)) from congrArg (V.i .u64) (Int.toNat_of_nonneg hbt.1).symm)) (hd 57 rfl) ?_
      refine Ag Tryz.f127 (Alk (b.getD (n + 1) 0).toNat (by omega)) rfl Tryz.func127 rfl rfl (Aa rfl Ad) (.cons .i .nil) (hd 58 rfl) ?_ (fun _ h => by simp at h)
      rintro _ ⟨⟩; refine Ac (D5 N5 Lm rfl (r := (s : Int)) (by rw [hs]; exact Bf (by omega) (by omega))) (hd 59 rfl) <| Za rfl (hd 9 rfl) <| Ab <| Ae <| Bo (n := 11) _ rfl B9 <| Z2 0 [2, 5, 8, 9, 10] (Am (Ay rfl) (hd 60 rfl)) rfl <| Z2 1 [2, 5, 8, 9, 10] (Am (Ay rfl) (hd 61 rfl)) rfl <| Z2 3 [5, 8, 9, 10] (Am (Ay rfl) (hd 63 rfl)) rfl <| Z2 4 [5, 8, 9, 10] (Am (Ay rfl) (hd 64 rfl)) rfl <| Z2 6 [7, 8, 10] (Am (Ay rfl) (hd 66 rfl)) rfl <| Z1 7 (Am (Ar A7 rfl) (hd 67 rfl)) rfl ?_
      refine Be 2 ?_ rfl (by kernel_rfl)
      refine Eu Tryz.f128 (Alq s a (by omega) s64 ua) (fun o G ⟨_, h⟩ => h ▸ Ao Bc A0) rfl Tryz.func128 rfl rfl (Aa rfl (Aa rfl Ad)) (.cons .n (.cons .i .nil)) (hd 62 rfl) ?_ (fun _ _ h => by simp at h)
      rintro y G ⟨hy, rfl⟩; injection hy with hy; subst hy
      show JA _ _ _ _ _ ((62, .o 0 0 0 (a.length + 1)) :: _) _ _
      refine Be 5 ?_ rfl (by kernel_rfl)
      refine Ax Tryz.f128 (Alp s b (by omega) s64 ub) rfl Tryz.func128 rfl rfl (Aa rfl (Aa rfl Ad)) (.cons .n (.cons .i .nil)) (hd 65 rfl) ?_ (fun _ h => by simp at h)
      rintro _ ⟨⟩; refine Z1 8 (Am (Bk (K3 A7 rfl Gx (Dg rfl rfl) (.inl rfl) (by omega) (by rw [Kh]; omega)) (show V.n _ .u64 _ = V.n _ .u64 v by rw [List.drop_zero, hv])) (hd 68 rfl)) rfl <| Z1 9 (Am (Cm rfl) (hd 10 rfl)) rfl <| Z1 10 (Am (Cm rfl) (hd 11 rfl)) rfl <| Bx (by kernel_rfl) <| Zs <| Zm rfl (hd 69 rfl) <| Ac (Ar A7 rfl) (hd 70 rfl) <| Za rfl (hd 12 rfl) <| Ab <| Zs <| Zm rfl (hd 71 rfl) ?_; refine Ac (Ar A7 rfl) (hd 72 rfl) <| Zm rfl (hd 73 rfl) <| Ac (Bm rfl rfl (r := ((a.length - v.length : Nat) : Int)) (by rw [Ak (by omega) (by omega)]; omega)) (hd 74 rfl) <| Ac (Bd rfl rfl (r := ((a.length - v.length + 1 : Nat) : Int)) (by rw [Ak (by omega) (by omega)]; omega)) (hd 75 rfl) <| A1 (Gv (m := a.length - v.length + 1) Lg rfl rfl rfl (by show 8 * (a.length - v.length + 1) ≤ _; omega) (by unfold maxLen; omega) rfl) (hd 76 rfl) <| Za rfl (hd 13 rfl) <| Ab <| Ae <| Zs <| Zm rfl (hd 77 rfl) <| Ac (Ar A7 rfl) (hd 78 rfl) <| Zm rfl (hd 79 rfl) ?_; refine Ac (Bm rfl rfl (r := ((a.length - v.length : Nat) : Int)) (by rw [Ak (by omega) (by omega)]; omega)) (hd 80 rfl) <| Za rfl (hd 14 rfl) <| Ab <| At <| Nv (H' := [⟨71, 1, 0, true, ints .u64 (upL a s)⟩, ⟨71, 1, 0, true, ints .u64 (List.replicate (a.length - b.length + 1) 0 ++ [])⟩]) (by rw [List.append_nil, hn, ← hlv]; rfl) ?_
      refine Ch (G := Nat × List Int × List Int) (fun g => g.1 ≤ a.length - b.length + 1 ∧ Kn (vl a * 2 ^ s) v (a.length + 1) g.1 g.2.1 g.2.2 ∧ g.2.2.length = a.length - b.length + 1 - g.1) (fun g => [(14, .i .i64 ((g.1 : Int) - 1)), (81, .u), (82, .u), (83, .u), (84, .u), (85, .u), (86, .u), (87, .u), (88, .u), (89, .u), (90, .u), (91, .u), (92, .u), (93, .u), (94, .u), (95, .u), (96, .u)]) (fun g => [⟨71, 1, 0, true, ints .u64 g.2.1⟩, ⟨71, 1, 0, true, ints .u64 (List.replicate g.1 0 ++ g.2.2)⟩]) (fun g => g.1) (a.length - b.length + 1, upL a s, []) ?_ ?_ rfl ?_
      · exact ⟨Nat.le_refl _, Yz s64 ua ub tb hb hv2 hlen, by show 0 = _; omega⟩
      · exact (.cons (by show some (V.i .i64 _) = some (V.i .i64 _); congr 2; omega) (.v9 (.v5 (.u .nil))))
      · rintro ⟨k, U, Qs⟩ ⟨hk, hK, hQl⟩
        dsimp only at hk hK hQl
        refine Ae <| Zs <| Zm rfl (hd 81 rfl) <| Ac (F6 rfl rfl) (hd 82 rfl) <| Ab ?_
        refine Bh rfl (fun h4 => ?_) (fun h4 => ?_)
        · obtain ⟨k, rfl⟩ : ∃ m, k = m + 1 := ⟨k - 1, by omega⟩
          have hG := hK.gup uv hlv htop (by omega)
          have hKl := hK.lu
          refine Aj <| Ae <| At <| Af <| Zm rfl (hd 85 rfl) <| Zm rfl (hd 86 rfl) <| Zm rfl (hd 87 rfl) <| Zm rfl (hd 88 rfl) <| Zm rfl (hd 89 rfl) <| Zm rfl (hd 90 rfl) <| Ac (Bd rfl rfl (r := ((k + v.length : Nat) : Int)) (by rw [Ak (by omega) (by omega)]; omega)) (hd 91 rfl) <| Ac (Bd rfl rfl (r := ((k + v.length + 1 : Nat) : Int)) (by rw [Ak (by omega) (by omega)]; omega)) (hd 92 rfl) <| Ac (Vg (l := k) (h := k + (n + 3)) (r := k) (n := n + 3) A7 rfl rfl (Dg rfl (by omega)) (Dg rfl (by omega)) (by omega) (by omega) (by omega) (by omega)) (hd 93 rfl) ?_; refine Zm rfl (hd 94 rfl) ?_
          refine Gu Tryz.f129 (Ael U (slJ U k (n + 3)) v (List.replicate (k + 1) 0 ++ Qs) k n (by omega) (by omega) hK.uu rfl hG) rfl Tryz.func129 rfl rfl (Aa rfl (Aa rfl Ad)) (.cons (.same rfl) (.cons .n .nil)) (De Fe (De Fe Dz)) (hd 95 rfl) ?_ (fun ch H2 hp => by simp at hp)
          rintro y H2 ⟨hy, r, rfl, hrl, hru, hrv⟩; injection hy with hy; subst hy; refine Ac (Ck (i := k) A7 rfl rfl rfl (by omega) (by omega) rfl) (hd 96 rfl) <| A3 (Cf rfl rfl rfl Bu (by simp only [List.length_append, List.length_replicate]; omega)) <| Ab <| Af <| Zm rfl (hd 83 rfl) <| Ac (Bm rfl rfl (Ak (by omega) (by omega))) (hd 84 rfl) <| Za rfl (hd 14 rfl) <| Ab ?_
          refine ⟨(k, rwJ U k r, vl (slJ U k (n + 3)) / vl v :: Qs), ?_, ?_, (by show [_, (⟨71, 1, 0, true, ints .u64 _⟩ : Ob)] = [_, ⟨71, 1, 0, true, ints .u64 _⟩]; rw [Aet]), Bj 34 rfl rfl ?_⟩
          · exact ⟨by show k ≤ _; omega, hK.next hG (by omega) hrl hru hrv, by show (_ :: Qs).length = _; rw [List.length_cons]; omega⟩
          · show k < k + 1
            omega
          · exact (.cons (by show some (V.i .i64 _) = some (V.i .i64 _); congr 2; omega) (.v9 (.v5 (.u .nil))))
        · obtain rfl : k = 0 := by omega
          have hKl := hK.lu
          obtain ⟨hf1, hf2, hf3⟩ := hK.fin s64 hv2 hb0 ua uv (by omega)
          refine Br <| Ae <| Jm (k := .u64) (l := List.replicate 0 0 ++ Qs) (l' := Qs) 13 rfl rfl (by simp only [List.length_append, List.length_replicate]; omega) (by rw [List.drop_zero]; show List.take _ Qs = _; rw [List.take_of_length_le (by omega)]) hL <| Jm (k := .u64) (l := U) (l' := U) 10 rfl rfl (by omega) (by rw [List.drop_zero, List.take_of_length_le (by omega)]) hL <| Bo (n := 9) _ rfl B9 <| Z2 0 [1, 6, 7, 8] (Am (Ay rfl) (hd 97 rfl)) rfl <| Z2 2 [4, 6, 7, 8] (Am (Ay rfl) (hd 99 rfl)) rfl <| Z2 3 [4, 6, 7, 8] (Am (Ay rfl) (hd 100 rfl)) rfl <| Z2 4 [6, 7, 8] (Am (Bk (K3 A7 rfl Gx (Dg rfl rfl) (.inl rfl) (by omega) (by omega)) (show V.n _ .u64 _ = V.n _ .u64 (U.take v.length) by rw [List.drop_zero])) (hd 101 rfl)) rfl <| Z2 5 [6, 7, 8] (Am (Ay rfl) (hd 102 rfl)) rfl ?_
          refine Be 1 ?_ rfl (by kernel_rfl)
          refine Ax Tryz.f66 (D4 Qs (by omega)) rfl Tryz.func66 rfl rfl (Aa rfl Ad) (.cons .n .nil) (hd 98 rfl) ?_ (fun _ h => by simp at h)
          rintro y hy; injection hy with hy; subst hy
          refine Be 6 ?_ rfl (by kernel_rfl)
          refine Ax Tryz.f130 (Tc s (U.take v.length) (by rw [List.length_take]; omega) s64 (Er hK.uu _)) rfl Tryz.func130 rfl rfl (Aa rfl (Aa rfl Ad)) (.cons .n (.cons .i .nil)) (hd 103 rfl) ?_ (fun _ h => by simp at h)
          rintro _ ⟨⟩; refine Z1 7 (Am (Cm rfl) (hd 4 rfl)) rfl <| Z1 8 (Am (Cm rfl) (hd 5 rfl)) rfl <| Bx (by kernel_rfl) <| An ?_
          refine ⟨_, _, (.cons rfl (.cons rfl .nil)), (.t1 .nn (.t1 .nn .t0)), ?_⟩
          rw [hf1, hf3]

theorem Iy (v : Int) (hl : (lm v).length < 1099511627776) : Spec Tryz.prog 66 [.n false .u64 (lm v)] (fun o => o = .ret (.n true .u64 (lm v))) := by
  have h := D4 (lm v) hl
  rwa [Kl (Aeb v)] at h
theorem Dd (v : Int) (hl : (lm v).length < 1099511627776) : Spec Tryz.prog 30 [.n false .u64 (lm v)] (fun o => o = .ret (.i .i64 (Al v : Int))) := by
  have h := Dl (lm v) hl (Cu v)
  rwa [K7] at h
theorem Pf (v w : Int) (hv : (lm v).length < 4294967296) (hw : (lm w).length < 4294967296) : Spec Tryz.prog 89 [.n false .u64 (lm v), .n false .u64 (lm w)] (fun o => o = .ret (.i .i64 (C1 v.natAbs w.natAbs))) := by
  have h := Fu (lm v) (lm w) hv hw
  rw [Kl (Aeb v), Kl (Aeb w)] at h
  have e : Nw (lm v) (lm w) = C1 v.natAbs w.natAbs := O8 (by decide) _ _
  rwa [e] at h
theorem Lz (s : Bool) (l : List Int) (v : Int) (hl : l.length < 1099511627776) (hu : Av l) (hv : sv s l = v) : Spec Tryz.prog 101 [.a [.b s, .n false .u64 l]] (fun o => o = .ret (.a [.b (decide (v < 0)), .n true .u64 (lm v)])) := by
  have h := Rq s l hl
  have e := Kw hu hv
  rwa [e.1, e.2.1] at h
theorem Hl (v w : Int) (hv : (lm v).length < 4294967296) (hw : (lm w).length < 4294967296) (h0 : w ≠ 0) : Spec Tryz.prog 107 [.n false .u64 (lm v), .n false .u64 (lm w)] (fun o => o = .ret (.t [.n false .u64 (lm (qn v w)), .n false .u64 (lm (rn v w))])) := by
  have h := Zv (lm v) (lm w) hv hw (Cu v) (Cu w) (Aeb v) (Aeb w) (Ow h0)
  rwa [Qa, Qa] at h
theorem Akr (v w : Int) (h0 : 0 ≤ w) (hle : w ≤ v) (hv : Al v ≤ 67108864) : Spec Tryz.prog 105 [.n false .u64 (lm v), .n false .u64 (lm w)] (fun o => o = .ret (.t [.n false .u64 (lm (v - w)), .i .i64 0])) := by
  have hw : Al w ≤ 67108864 := Nat.le_trans (B7 (by omega)) hv
  have hlv := Bv hv
  have hlw := Bv hw
  have ev : vl (lm v) = v := by rw [Qa]; omega
  have ew : vl (lm w) = w := by rw [Qa]; omega
  have hd : vl (Qp (lm v) (lm w)) = v - w := by rw [Ph (Cu v) (Cu w) (by omega), ev, ew]
  have hu : Av (Qp (lm v) (lm w)) := Oc (A8 (Cu v)) (A8 (Cu w)) _
  have e := Fo hu hd
  have hc := Hm (Cu v) (Cu w)
  have h := Ab6 (lm v) (lm w) (by omega) (by omega) (Cu v) (Cu w) (by rcases hc with ⟨c, x⟩ | ⟨c, x⟩ | ⟨c, x⟩ <;> omega) (by rw [e, K7]; exact Nat.le_trans (B7 (by omega)) hv)
  rwa [e] at h
theorem Ai7 (v : Int) (h0 : 0 ≤ v) (hv : Al (v + 1) ≤ 67108864) : Spec Tryz.prog 104 [.n false .u64 (lm v), .n false .u64 [1]] (fun o => o = .ret (.t [.n false .u64 (lm (v + 1)), .i .i64 0])) := by
  have hlv := Bv (Nat.le_trans (B7 (show v.natAbs ≤ (v + 1).natAbs by omega)) hv)
  have ev : vl (lm v) = v := by rw [Qa]; omega
  have u1 : Av [1] := Xu (by decide) (by decide)
  have hd : vl (Lo (lm v) [1]) = v + 1 := by rw [Mj, ev]; rfl
  have hc := Qv (a := (swL (trm (lm v)) (trm [1])).1) (b := (swL (trm (lm v)) (trm [1])).2) (by unfold swL; split; exact A8 u1; exact A8 (Cu v)) (by unfold swL; split; exact A8 (Cu v); exact A8 u1) (swL (trm (lm v)) (trm [1])).1.length
  have hu : Av (Lo (lm v) [1]) := D9 (Qu _) hc.1 (by omega)
  have e := Fo hu hd
  have h := Acb (lm v) [1] (by omega) (by decide) (Cu v) u1 (by rw [e, K7]; exact hv)
  rwa [e] at h
theorem Ai2 (v w : Int) (hv : Al v ≤ 67108864) (hw : Al w ≤ 67108864) (h0 : w ≠ 0) : Spec Tryz.prog 102 [.n false .u64 (lm v), .n false .u64 (lm w)] (fun o => o = .ret (.t [.n false .u64 (lm (qn v w)), .n false .u64 (lm (rn v w)), .i .i64 0])) := by
  refine Aw [(0, .n false .u64 (lm v)), (1, .n false .u64 (lm w))] rfl Tryz.func102 rfl (Zb rfl) fun Γ hN hds hL hR => ?_
  have hd := B2 32 hN
  have hlv := Bv hv
  have hlw := Bv hw
  have hle := B7 (v := qn v w) (w := v) Uy
  have hlr := B7 (v := rn v w) (w := w) (Oe h0).1
  have hlq := Bv (v := qn v w) (by omega)
  have hlR := Bv (v := rn v w) (by omega)
  have hne := Ow h0
  refine Zs <| Za rfl (hd 4 rfl) <| Za rfl (hd 5 rfl) <| Za rfl (hd 6 rfl) <| Ab <| Zs <| Zm rfl (hd 9 rfl) ?_
  refine Ag Tryz.f66 (Iy v (by omega)) rfl Tryz.func66 rfl rfl (Aa rfl Ad) (.cons .n .nil) (hd 10 rfl) ?_ (fun _ h => by simp at h)
  rintro _ ⟨⟩; refine Zm rfl (hd 11 rfl) ?_
  refine Ag Tryz.f66 (Iy w (by omega)) rfl Tryz.func66 rfl rfl (Aa rfl Ad) (.cons .n .nil) (hd 12 rfl) ?_ (fun _ h => by simp at h)
  rintro _ ⟨⟩; refine Za rfl (hd 0 rfl) <| Za rfl (hd 1 rfl) <| Ab <| Ae <| Zs <| Zm rfl (hd 13 rfl) <| Ac (Ar A7 rfl) (hd 14 rfl) <| Ac (B0 (Cq rfl rfl) (fun h => hne (List.eq_nil_of_length_eq_zero (by omega)))) (hd 15 rfl) <| Ab <| A6 rfl <| Aj <| Ae ?_; refine Af <| Zm rfl (hd 17 rfl) <| Zm rfl (hd 18 rfl) ?_
  refine Ag Tryz.f107 (Hl v w (by omega) (by omega) h0) rfl Tryz.func107 rfl rfl (Aa rfl (Aa rfl Ad)) (.cons .n (.cons .n .nil)) (hd 19 rfl) ?_ (fun _ h => by simp at h)
  rintro _ ⟨⟩; refine Zm rfl (hd 16 rfl) <| Ac (Ai rfl rfl) (hd 20 rfl) <| Ac (Ai rfl rfl) (hd 21 rfl) <| Za rfl (hd 7 rfl) <| Za rfl (hd 8 rfl) <| Ab <| Ae <| Zs <| Zm rfl (hd 22 rfl) ?_
  refine Ag Tryz.f30 (Dd (qn v w) (by omega)) rfl Tryz.func30 rfl rfl (Aa rfl Ad) (.cons .n .nil) (hd 23 rfl) ?_ (fun _ h => by simp at h)
  rintro _ ⟨⟩; refine Ac (B0 (Ce rfl rfl) (by omega)) (hd 24 rfl) <| Zm rfl (hd 25 rfl) <| Bi 25 rfl rfl (Ay rfl) (hd 26 rfl) ?_
  refine Ek Tryz.f30 25 rfl rfl (Dd (rn v w) (by omega)) rfl Tryz.func30 rfl rfl (Aa rfl Ad) (.cons .n .nil) (hd 27 rfl) ?_ (fun _ h => by simp at h)
  rintro _ ⟨⟩; refine Bi 25 rfl rfl (B0 (Ce rfl rfl) (by omega)) (hd 28 rfl) <| Ac (Bg rfl rfl) (hd 29 rfl) <| Ab <| A6 rfl <| Aj <| Zs <| Zm rfl (hd 30 rfl) <| Zm rfl (hd 31 rfl) <| Za rfl (hd 4 rfl) <| Za rfl (hd 5 rfl) <| Za rfl (hd 6 rfl) <| Ab ?_; refine An ?_
  refine ⟨_, _, (.cons rfl (.cons rfl (.cons rfl .nil))), (.t1 .n (.t1 .n (.t1 .i .t0))), ?_⟩
  exact rfl

theorem Aar (v w : Int) : Spec Tryz.prog 118 [.n false .u64 (lm (qn v w)), .n false .u64 (lm (rn v w)), .n false .u64 (lm w), .b (ng v w), .b (decide (w < 0)), .b (decide (v < 0))] (fun o => o = .ret (.b (gro 1 v w))) := by
  refine Aw [(0, .n false .u64 (lm (qn v w))), (1, .n false .u64 (lm (rn v w))), (2, .n false .u64 (lm w)), (3, .b (ng v w)), (4, .b (decide (w < 0))), (5, .b (decide (v < 0)))] rfl Tryz.func118 rfl (Zb rfl) fun Γ hN hds hL hR => ?_
  have hd := B2 14 hN
  refine Zs <| Za rfl (hd 12 rfl) <| Ab <| Zs <| Zm rfl (hd 13 rfl) <| Za rfl (hd 12 rfl) <| Ab <| An ?_
  refine ⟨_, _, (.cons rfl .nil), .b, ?_⟩
  exact rfl

theorem Aaq (v w : Int) : Spec Tryz.prog 119 [.n false .u64 (lm (qn v w)), .n false .u64 (lm (rn v w)), .n false .u64 (lm w), .b (ng v w), .b (decide (w < 0)), .b (decide (v < 0))] (fun o => o = .ret (.b (gro 2 v w))) := by
  refine Aw [(0, .n false .u64 (lm (qn v w))), (1, .n false .u64 (lm (rn v w))), (2, .n false .u64 (lm w)), (3, .b (ng v w)), (4, .b (decide (w < 0))), (5, .b (decide (v < 0)))] rfl Tryz.func119 rfl (Zb rfl) fun Γ hN hds hL hR => ?_
  have hd := B2 15 hN
  refine Zs <| Za rfl (hd 12 rfl) <| Ab <| Zs <| Zm rfl (hd 13 rfl) <| Ac (Ha rfl) (hd 14 rfl) <| Za rfl (hd 12 rfl) <| Ab <| An ?_
  refine ⟨_, _, (.cons rfl .nil), .b, ?_⟩
  exact rfl


theorem Xg : Spec Tryz.prog 35 [.i .u64 1] (fun o => o = .ret (.n true .u64 [1])) := Gn 1
theorem Of (s : Bool) (l : List Int) (v : Int) (hl : l.length < 1099511627776) (hu : Av l) (hv : sv s l = v) (h : Al v ≤ 67108864) : SpecM Tryz.prog 106 [.b s, .n false .u64 l, .i .i64 0] [] (fun o G => o = .ret (.t [.a [.b (decide (v < 0)), .o 0 0 0 (lm v).length], .i .i64 0]) ∧ G = [⟨71, 1, 0, true, ints .u64 (lm v)⟩]) :=
  (Yc s l 0 v (.inl ⟨rfl, hu, hl, hv⟩)).mono fun o G ⟨s2, r, e, ho, hG, hR⟩ => by
    rcases hR with ⟨_, h1, h2, h3⟩ | ⟨hb, _⟩
    · subst h1; subst h2; subst h3; exact ⟨ho, hG⟩
    · omega







def xr5 (x : Int) : Int := Gm .xor .u64 x 5
def Aln (l : List Int) : List Int := l.map xr5
def Amg (l : List Int) (i : Nat) : List Int := Aln (l.take i) ++ l.drop i
def cpI (l : List Int) (i : Nat) : List Int := D2 (l.take i) l.length
theorem Akk (l : List Int) : List.replicate l.length (0 : Int) = cpI l 0 := by simp [cpI, D2]
theorem Ae1 {l : List Int} {i : Nat} (h : i ≤ l.length) : (cpI l i).length = l.length := Ff (by rw [List.length_take]; omega)
theorem Ae2 (l : List Int) : cpI l l.length = l := by rw [cpI, List.take_length, Ed rfl]
theorem Ae0 {l : List Int} {i : Nat} (h : i < l.length) : (cpI l i).set ((0 + i) * 1) (l.getD i 0) = cpI l (i + 1) := by
  rw [Nat.zero_add, Nat.mul_one]
  unfold cpI
  have e : (l.take i).length = i := by rw [List.length_take]; omega
  have := Gi (l := l.take i) (n := l.length) (v := l.getD i 0) (by omega)
  rw [e] at this
  rw [this, List.take_add_one, List.getElem?_eq_getElem h, List.getD_eq_getElem?_getD, List.getElem?_eq_getElem h]
  rfl
theorem Iq (a b : Int) : Al (a + b) ≤ max (Al a) (Al b) + 1 := by
  have h := Yw a (-b)
  rw [Int.sub_neg] at h
  have e : Al (-b) = Al b := by unfold Al; rw [Int.natAbs_neg]
  rwa [e] at h


theorem Px {b : Nat} {l l' : List Int} (h : rng b l) (h' : rng b l') : rng b (l ++ l') := fun x hx => by
  rcases List.mem_append.1 hx with h1 | h1
  · exact h x h1
  · exact h' x h1
theorem Ac8 {b : Nat} {x : Int} (h0 : 0 ≤ x) (h1 : x < b) : rng b [x] := fun y hy => by
  rw [List.mem_singleton.1 hy]; exact ⟨h0, h1⟩
theorem Uo {b k : Nat} (hb : 0 < b) : rng b (List.replicate k 0) := fun x hx => by
  rw [(List.mem_replicate.1 hx).2]; omega
theorem Kg (b : Nat) : ∀ l l' : List Int, vb b (l ++ l') = vb b l + (b : Int) ^ l.length * vb b l'
  | [], l' => by simp [vb]
  | x :: l, l' => by
    rw [List.cons_append, vb, vb, Kg b l l', List.length_cons, Int.pow_succ, Int.mul_add, Int.mul_comm ((b : Int) ^ l.length) b, Int.mul_assoc]
    omega
theorem Aau {b : Nat} : ∀ {l l' : List Int}, rng b l → rng b l' → l.length = l'.length → vb b l = vb b l' → l = l'
  | [], [], _, _, _, _ => rfl
  | [], _ :: _, _, _, h, _ => by simp at h
  | _ :: _, [], _, _, h, _ => by simp at h
  | x :: l, y :: l', h1, h2, h3, h4 => by
    have hx := h1 x (List.mem_cons_self ..)
    have hy := h2 y (List.mem_cons_self ..)
    simp only [vb] at h4
    have e : x = y := by
      have e1 : (x + b * vb b l) % b = x := by rw [Int.add_mul_emod_self_left]; exact Int.emod_eq_of_lt hx.1 hx.2
      have e2 : (y + b * vb b l') % b = y := by rw [Int.add_mul_emod_self_left]; exact Int.emod_eq_of_lt hy.1 hy.2
      rw [← e1, ← e2, h4]
    subst e
    have hb : (b : Int) ≠ 0 := by omega
    have e2 : vb b l = vb b l' := Int.eq_of_mul_eq_mul_left hb (by omega)
    rw [Aau (Fh h1) (Fh h2) (by simpa using h3) e2]
theorem Afz {b : Nat} : ∀ {l : List Int}, rng b l → vb b l < (b : Int) ^ l.length
  | [], _ => by simp [vb]
  | x :: l, h => by
    have hx := h x (List.mem_cons_self ..)
    have ih := Afz (Fh h)
    rw [vb, List.length_cons, Int.pow_succ]
    have : (b : Int) * (vb b l + 1) ≤ b * (b : Int) ^ l.length := Int.mul_le_mul_of_nonneg_left (by omega) (by omega)
    rw [Int.mul_comm ((b : Int) ^ l.length)]
    rw [Int.mul_add] at this
    omega
def P4 (b m x : Nat) : List Int := Cb b x ++ List.replicate (m - (Cb b x).length) 0
theorem J3 {b : Nat} (hb : 2 ≤ b) (m x : Nat) : rng b (P4 b m x) := Px (Mw hb x) (Uo (by omega))
theorem P3 {b : Nat} (hb : 2 ≤ b) (m x : Nat) : vb b (P4 b m x) = x := by rw [P4, N4, Mk hb]
theorem U4 {b : Nat} (m x : Nat) : (P4 b m x).length = max m (Cb b x).length := by simp [P4]; omega
theorem J4 {b : Nat} (hb : 2 ≤ b) {m x : Nat} (h : x < b ^ m) : (P4 b m x).length = m := by
  have := F1 hb m x h
  rw [U4]; omega
theorem Adq {b : Nat} (hb : 2 ≤ b) {m x : Nat} {l : List Int} (hr : rng b l) (hl : l.length = m) (hv : vb b l = x) : l = P4 b m x := by
  have h := Afz hr
  rw [hv, hl] at h
  have h' : x < b ^ m := by exact_mod_cast h
  exact Aau hr (J3 hb m x) (by rw [hl, J4 hb h']) (by rw [hv, P3 hb])
theorem Ym {b : Nat} (hb : 2 ≤ b) {n m q r : Nat} (hq : q < b ^ m) (hr : r < b ^ n) : P4 b n r ++ P4 b m q = P4 b (n + m) (q * b ^ n + r) := by
  refine Adq hb (Px (J3 hb _ _) (J3 hb _ _)) (by rw [List.length_append, J4 hb hr, J4 hb hq]) ?_
  rw [Kg, J4 hb hr, P3 hb, P3 hb, Int.natCast_add, Int.natCast_mul, Int.natCast_pow, Int.mul_comm]
  omega
def hdg (b m x : Nat) : List Int := (P4 b m x).reverse
theorem L6 {b : Nat} (m x : Nat) : (hdg b m x).length = max m (Cb b x).length := by rw [hdg, List.length_reverse, U4]
theorem Aek {b : Nat} (hb : 2 ≤ b) {n m q r : Nat} (hq : q < b ^ m) (hr : r < b ^ n) : hdg b m q ++ hdg b n r = hdg b (n + m) (q * b ^ n + r) := by
  unfold hdg
  rw [← Ym hb hq hr, List.reverse_append]
theorem Aej {b : Nat} (hb : 2 ≤ b) (m x : Nat) : rng b (hdg b m x) := fun y hy => J3 hb m x y (List.mem_reverse.1 hy)
theorem Ni {b x : Nat} (hb : 2 ≤ b) (h : x ≠ 0) : Cb b x ≠ [] := fun e => by
  have := Mk hb x
  rw [e] at this
  simp [vb] at this
  omega
theorem Qj {b : Nat} (hb : 2 ≤ b) {m x : Nat} (hx : x ≠ 0) : hdg b m x = List.replicate (m - (Cb b x).length) 0 ++ hdg b 1 x := by
  have h1 : 0 < (Cb b x).length := List.length_pos_iff.2 (Ni hb hx)
  unfold hdg P4
  rw [List.reverse_append, List.reverse_append, show 1 - (Cb b x).length = 0 by omega]
  simp
theorem Y8 {b : Nat} (hb : 2 ≤ b) {x : Nat} (hx : x ≠ 0) : (hdg b 1 x).getD 0 0 ≠ 0 := by
  have h1 : 0 < (Cb b x).length := List.length_pos_iff.2 (Ni hb hx)
  have ht := Mq hb x (Ni hb hx)
  unfold hdg P4
  rw [show 1 - (Cb b x).length = 0 by omega]
  simp only [List.replicate_zero, List.append_nil]
  rw [List.getD_eq_getElem?_getD, List.getElem?_reverse (by omega), Nat.sub_zero, ← List.getD_eq_getElem?_getD]
  exact ht


theorem w63 {n p : Nat} (h : 2 ^ n ≤ p) (hp : p ≤ 9223372036854775808) : n ≤ 63 :=
  (Nat.pow_le_pow_iff_right (by decide : 1 < 2)).1 (Nat.le_trans h (show p ≤ 2 ^ 63 from hp))
theorem Aft {b n p : Nat} (hb : 2 ≤ b) (h1 : p = b ^ n) (h2 : 2 ^ n ≤ p) (h3 : p ≤ 9223372036854775808 / b) : p * b = b ^ (n + 1) ∧ 2 ^ (n + 1) ≤ p * b ∧ p * b ≤ 9223372036854775808 := by
  refine ⟨by rw [h1, Nat.pow_succ], ?_, (Nat.le_div_iff_mul_le (by omega)).1 h3⟩
  rw [Nat.pow_succ]
  exact Nat.mul_le_mul h2 hb
theorem Afu {b n p : Nat} (hb : 2 ≤ b) (hb2 : b ≤ 36) (h1 : p = b ^ n) (h3 : ¬ p ≤ 9223372036854775808 / b) : 1 ≤ n := by
  rcases Nat.eq_zero_or_pos n with h | h
  · subst h
    exact absurd ((Nat.le_div_iff_mul_le (by omega)).2 (by rw [h1, Nat.pow_zero]; omega)) h3
  · exact h
theorem Akg {b : Nat} (acc : List Int) (r : Int) : vb b (acc ++ [r % b]) + (b : Int) ^ (acc.length + 1) * (r / b) = vb b acc + (b : Int) ^ acc.length * r := by
  rw [Kg]
  simp only [vb]
  rw [Int.pow_succ, Int.mul_zero, Int.add_zero, Int.mul_assoc, Int.add_assoc, ← Int.mul_add, Int.emod_add_mul_ediv]
theorem Abx {b n i : Nat} {r : Int} (hb : 2 ≤ b) (hi : i < n) (h0 : 0 ≤ r) (h : r < (b : Int) ^ (n - i)) : 0 ≤ r / b ∧ r / b < (b : Int) ^ (n - (i + 1)) := by
  refine ⟨Int.ediv_nonneg h0 (by omega), Int.ediv_lt_of_lt_mul (by omega) ?_⟩
  rw [← Int.pow_succ]
  rwa [show (n - (i + 1)).succ = n - i by omega]
theorem Ah6 {b n : Nat} {acc acc' : List Int} {v r : Int} (hl : acc'.length = acc.length + n) (h : vb b acc' + (b : Int) ^ acc'.length * r = vb b acc + (b : Int) ^ acc.length * (v % ((b ^ n : Nat) : Int))) (hr : r = 0) : vb b acc' + (b : Int) ^ acc'.length * (v / ((b ^ n : Nat) : Int)) = vb b acc + (b : Int) ^ acc.length * v := by
  subst hr
  rw [Int.mul_zero, Int.add_zero] at h
  rw [h, hl, Int.pow_add, ← Int.natCast_pow b n, Int.mul_assoc, Int.add_assoc, ← Int.mul_add, Int.emod_add_mul_ediv]
theorem Ok : ∀ n, pB n = ((2 ^ (64 * n) : Nat) : Int)
  | 0 => rfl
  | n + 1 => by
    rw [pB, Ok n, show 64 * (n + 1) = 64 * n + 64 by omega, Nat.pow_add, Int.natCast_mul, Int.mul_comm]
    rfl
theorem Ah7 {b L : Nat} (hb : 2 ≤ b) {acc l : List Int} {v : Int} (hr : rng b acc) (hv : 0 < v) (hu : Av l) (hL : l.length ≤ L) (h : vb b acc + (b : Int) ^ acc.length * v = vl l) : acc.length < 64 * L := by
  have h0 := Ib hr
  have hlt := E2 hu
  have e := Ok l.length
  have h1 : ((2 ^ acc.length : Nat) : Int) ≤ (b : Int) ^ acc.length := by
    rw [← Int.natCast_pow]
    exact_mod_cast Nat.pow_le_pow_left hb acc.length
  have h2 : (b : Int) ^ acc.length * 1 ≤ (b : Int) ^ acc.length * v := Int.mul_le_mul_of_nonneg_left (by omega) (by have : (0 : Int) ≤ ((2 ^ acc.length : Nat) : Int) := Int.natCast_nonneg _; omega)
  have h3 : ((2 ^ acc.length : Nat) : Int) < ((2 ^ (64 * l.length) : Nat) : Int) := by omega
  have h4 : acc.length < 64 * l.length := (Nat.pow_lt_pow_iff_right (by decide : 1 < 2)).1 (by exact_mod_cast h3)
  omega
theorem Aby {b n : Nat} {v : Int} (hb : 2 ≤ b) : 0 ≤ v % ((b ^ n : Nat) : Int) ∧ v % ((b ^ n : Nat) : Int) < (b : Int) ^ (n - 0) := by
  have hp : (0 : Int) < ((b ^ n : Nat) : Int) := by exact_mod_cast Nat.pow_pos (by omega)
  refine ⟨Int.emod_nonneg _ (by omega), ?_⟩
  rw [Nat.sub_zero, ← Int.natCast_pow]
  exact Int.emod_lt_of_pos _ hp
theorem Aex {b : Nat} {r : Int} (h0 : 0 ≤ r) {n : Nat} (h : r < (b : Int) ^ (n - n)) : r = 0 := by
  rw [Nat.sub_self, Int.pow_zero] at h
  omega
theorem Aey {v : Int} {b n : Nat} (hv : 0 < v) (hb : 2 ≤ b) (hn : 1 ≤ n) : (v / ((b ^ n : Nat) : Int)).toNat < v.toNat := by
  have hp : 2 ≤ b ^ n := Nat.le_trans (show 2 ≤ b ^ 1 by rw [Nat.pow_one]; exact hb) (Nat.pow_le_pow_right (by omega) hn)
  have h1 : v / ((b ^ n : Nat) : Int) < v := Int.ediv_lt_self_of_pos_of_ne_one hv (by omega)
  omega
theorem X7 {b : Nat} {l : List Int} (h : rng b l) (k : Nat) : rng b (l.take k) := fun x hx => h x (List.mem_of_mem_take hx)
theorem N6 {l : List Int} {k : Nat} (hk : 0 < k) (hl : k ≤ l.length) : l.take k = l.take (k - 1) ++ [l.getD (k - 1) 0] := by
  obtain ⟨j, rfl⟩ : ∃ j, k = j + 1 := ⟨k - 1, by omega⟩
  rw [Nat.add_sub_cancel, List.take_add_one, List.getD_eq_getElem?_getD, List.getElem?_eq_getElem (by omega)]
  rfl
theorem Zy {b k : Nat} {acc : List Int} (hk : 0 < k) (hl : k ≤ acc.length) (h0 : acc.getD (k - 1) 0 = 0) : vb b (acc.take (k - 1)) = vb b (acc.take k) := by
  rw [N6 hk hl, h0]
  exact (N4 b (acc.take (k - 1)) 1).symm
theorem Sf {b k x : Nat} (hb : 2 ≤ b) {acc : List Int} (hl : k ≤ acc.length) (hr : rng b acc) (hv : vb b (acc.take k) = x) (ht : k = 0 ∨ acc.getD (k - 1) 0 ≠ 0) : acc.take k = Cb b x := by
  have h := Nh hb (X7 hr k) (fun hne => by
    rcases ht with h | h
    · subst h; exact absurd rfl hne
    · have hk : 0 < k := by
        rcases Nat.eq_zero_or_pos k with e | e
        · subst e; exact absurd rfl hne
        · exact e
      rw [List.length_take, Nat.min_eq_left hl, List.getD_eq_getElem?_getD, List.getElem?_take, if_pos (by omega), ← List.getD_eq_getElem?_getD]
      exact h)
  rw [← h, hv, Int.toNat_natCast]
theorem Adp {b m k x : Nat} {C : List Int} (h1 : C.take k = Cb b x ++ List.replicate (k - (Cb b x).length) 0) (h2 : (Cb b x).length ≤ k) (h3 : m ≤ k) (h4 : k ≤ max m (Cb b x).length) : C.take k = P4 b m x := by
  rw [h1, P4]
  congr 2
  omega
theorem Yl {D C C' : List Int} {k : Nat} (hD : D.length ≤ k) (h1 : C.take k = D ++ List.replicate (k - D.length) 0) (h2 : C'.take (k + 1) = C.take k ++ [0]) : C'.take (k + 1) = D ++ List.replicate (k + 1 - D.length) 0 := by
  rw [h2, h1, List.append_assoc, show k + 1 - D.length = (k - D.length) + 1 by omega, List.replicate_succ']
theorem Ala {C acc : List Int} {j : Nat} (h : C.take acc.length = acc) (hj : j < acc.length) : C.getD ((0 + j) * 1) 0 = acc.getD j 0 := by
  have e : acc.getD j 0 = (C.take acc.length).getD j 0 := by rw [h]
  rw [e, Nat.zero_add, Nat.mul_one, List.getD_eq_getElem?_getD, List.getD_eq_getElem?_getD, List.getElem?_take, if_pos hj]
theorem Ajq {C acc : List Int} {k : Nat} (h : C.take acc.length = acc) (hk : k ≤ acc.length) : C.take k = acc.take k := by
  have := congrArg (List.take k) h
  rw [List.take_take, Nat.min_eq_left hk] at this
  exact this
def Ri (B : List Int) (i : Nat) : List Int := List.replicate (B.length - i) 0 ++ (B.take i).reverse
theorem Agv (B : List Int) : Ri B 0 = List.replicate B.length 0 := by simp [Ri]
theorem Rh {B : List Int} {i : Nat} (h : i ≤ B.length) : (Ri B i).length = B.length := by simp [Ri]; omega
theorem Yb (B : List Int) : Ri B B.length = B.reverse := by simp [Ri]
theorem Ya {B : List Int} {i : Nat} (h : i < B.length) : (Ri B i).set (B.length - 1 - i) (B.getD i 0) = Ri B (i + 1) := by
  have e : B.take (i + 1) = B.take i ++ [B.getD i 0] := by
    have := N6 (l := B) (k := i + 1) (by omega) (by omega)
    rwa [Nat.add_sub_cancel] at this
  unfold Ri
  obtain ⟨j, hj⟩ : ∃ j, B.length - 1 - i = j := ⟨_, rfl⟩
  rw [hj, show B.length - i = j + 1 by omega, show B.length - (i + 1) = j by omega, e, List.reverse_append, List.replicate_succ', List.append_assoc, List.set_append_right _ _ (by simp)]
  simp

def pwV (b k : Nat) : V := .n true .u64 (lm ((b ^ 2 ^ k : Nat) : Int))
def pwR (b K : Nat) : List (List V) := (List.range K).map fun k => [pwV b k]
theorem Oi {b K : Nat} : (pwR b K).length = K := by simp [pwR]
theorem Uz {b K : Nat} : (pwR b K).flatten ++ [pwV b K] = (pwR b (K + 1)).flatten := by
  unfold pwR
  rw [List.range_succ, List.map_append, List.flatten_append]
  rfl
theorem Ag1 {b : Nat} : [pwV b 0] = (pwR b 1).flatten := rfl
theorem Adl {b j k : Nat} (hb : 2 ≤ b) (h : j ≤ k) : Al ((b ^ 2 ^ j : Nat) : Int) ≤ Al ((b ^ 2 ^ k : Nat) : Int) := by
  refine B7 ?_
  rw [Int.natAbs_natCast, Int.natAbs_natCast]
  exact Nat.pow_le_pow_right (by omega) (Nat.pow_le_pow_right (by decide) h)
theorem Ag4 {b k : Nat} {v : Int} (hv : Al v ≤ 67108864) (h0 : 0 ≤ v) (h : 67108864 < Al ((b ^ 2 ^ k : Nat) : Int)) : v.toNat < b ^ 2 ^ k := by
  rcases Nat.lt_or_ge v.toNat (b ^ 2 ^ k) with h1 | h1
  · exact h1
  · have := B7 (v := ((b ^ 2 ^ k : Nat) : Int)) (w := v) (by rw [Int.natAbs_natCast]; omega)
    omega
theorem Zn {x : Int} {r : List Int} {e : Int} (h : Tj x r e) : r.length ≤ 1048576 := by
  rcases h with ⟨_, h, hh⟩ | ⟨_, h, _⟩
  · rw [h]; exact Bv hh
  · rw [h]; simp
theorem Ah2 {x : Int} {r : List Int} {e : Int} (h : Tj x r e) : Av r := by
  rcases h with ⟨_, h, hh⟩ | ⟨_, h, _⟩
  · rw [h]; exact Cu _
  · rw [h]; exact fun x hx => by simp at hx
theorem Aep {x : Int} {r : List Int} {e : Int} (h : Tj x r e) (he : e ≠ 0) : 67108864 < Al x := by
  rcases h with ⟨h, _⟩ | ⟨_, _, h⟩
  · exact absurd h he
  · exact h
theorem Aeq {x : Int} {r : List Int} {e : Int} (h : Tj x r e) (he : e = 0) : r = lm x ∧ Al x ≤ 67108864 := by
  rcases h with ⟨_, h⟩ | ⟨h, _⟩
  · exact h
  · omega
theorem Aj1 {b K k : Nat} (h : k < K) : (pwR b K)[k]? = some [pwV b k] := by
  unfold pwR
  rw [List.getElem?_map, List.getElem?_range h]; rfl
theorem M4 {b : Nat} : ∀ K, (pwR b K).flatten = (List.range K).map (pwV b)
  | 0 => rfl
  | K + 1 => by rw [← Uz, M4 K, List.range_succ, List.map_append]; rfl
theorem Adm {b K : Nat} : (pwR b K).flatten.length = K := by rw [M4]; simp
theorem Ag2 {b K k : Nat} (h : k < K) : (pwR b K).flatten[k]? = some (pwV b k) := by
  rw [M4, List.getElem?_map, List.getElem?_range h]; rfl
theorem Ajz {b K : Nat} : ∀ r ∈ pwR b K, r.length = 1 := fun r hr => by
  obtain ⟨k, _, rfl⟩ := List.mem_map.1 hr; rfl
theorem Adk {b K : Nat} : ∀ r ∈ pwR b K, r.all Ef = true := fun r hr => by
  obtain ⟨k, _, rfl⟩ := List.mem_map.1 hr; rfl
theorem Aj0 {b K n : Nat} : (pwR b K).flatten.all (idB n) = true := by
  rw [M4, List.all_map, List.all_eq_true]; intro x _; rfl
theorem Aba {b k : Nat} (hb : 2 ≤ b) : 0 < b ^ 2 ^ k := Nat.pow_pos (by omega)
theorem Ag0 {b k : Nat} : b ^ 2 ^ k * b ^ 2 ^ k = b ^ 2 ^ (k + 1) := by
  rw [← Nat.pow_add]; congr 1; rw [Nat.pow_succ]; omega
theorem Agz {b k : Nat} : vl (lm ((b ^ 2 ^ k : Nat) : Int)) * vl (lm ((b ^ 2 ^ k : Nat) : Int)) = ((b ^ 2 ^ (k + 1) : Nat) : Int) := by
  rw [Gb (Int.natCast_nonneg _), ← Int.natCast_mul, Ag0]
theorem Ag3 {b k x L : Nat} (hb : 2 ≤ b) (h : b ^ 2 ^ k ≤ x) (hx : x < 2 ^ L) : 2 ^ k < L := by
  have h1 : 2 ^ 2 ^ k ≤ b ^ 2 ^ k := Nat.pow_le_pow_left hb _
  exact (Nat.pow_lt_pow_iff_right (by decide : 1 < 2)).1 (Nat.lt_of_le_of_lt h1 (Nat.lt_of_le_of_lt h hx))
theorem Yi {b k x : Nat} (hb : 2 ≤ b) (h : b ^ 2 ^ k ≤ x) (hx : x < 2 ^ 67108864) : k ≤ 26 := by
  have h1 := Ag3 hb h hx
  have h2 : 2 ^ k < 2 ^ 26 := h1
  have := (Nat.pow_lt_pow_iff_right (by decide : 1 < 2)).1 h2
  omega
theorem Kk {k n : Nat} (h : k ≤ n) : 2 ^ k ≤ 2 ^ n := Nat.pow_le_pow_right (by decide) h
theorem Abh {l : List Int} (hu : Av l) : ((vl l).toNat : Int) = vl l := Int.toNat_of_nonneg (A4 hu)
theorem Yx {v : Int} {L : Nat} (h0 : 0 ≤ v) (h : Al v ≤ L) : v.toNat < 2 ^ L := by
  have h1 : v.natAbs < 2 ^ L := Ct.1 h
  have : v.toNat = v.natAbs := by omega
  omega
theorem Qo {b : Nat} {l : List Int} (hu : Av l) (hb : 2 ≤ b) : (Cb b (vl l).toNat).length ≤ 64 * l.length := by
  refine F1 hb _ _ ?_
  have h := E2 hu
  have h0 := A4 hu
  rw [Ok] at h
  have h1 : (vl l).toNat < 2 ^ (64 * l.length) := by omega
  exact Nat.lt_of_lt_of_le h1 (Nat.pow_le_pow_left hb _)
theorem Abc {b j x : Nat} (h : x < b ^ 2 ^ (j + 1)) : x / b ^ 2 ^ j < b ^ 2 ^ j := by
  rw [← Ag0] at h
  exact Nat.div_lt_of_lt_mul h
theorem Abb {b j x : Nat} (hb : 2 ≤ b) : x % b ^ 2 ^ j < b ^ 2 ^ j := Nat.mod_lt _ (Aba hb)
theorem Oj {b j x : Nat} (hb : 2 ≤ b) (h : x < b ^ 2 ^ (j + 1)) : hdg b (2 ^ j) (x / b ^ 2 ^ j) ++ hdg b (2 ^ j) (x % b ^ 2 ^ j) = hdg b (2 ^ (j + 1)) x := by
  rw [Aek hb (Abc h) (Abb hb), Nat.div_add_mod' x]
  congr 1; rw [Nat.pow_succ]; omega
theorem Adh {v : Int} {p x : Nat} (h : v = (x : Int)) : (vl (lm (qn v (p : Int)))).toNat = x / p := by
  subst h
  rw [show qn (x : Int) (p : Int) = ((x / p : Nat) : Int) from by unfold qn; simp, Gb (Int.natCast_nonneg _)]; rfl
theorem Ac9 {v : Int} {p x : Nat} (h : v = (x : Int)) : (vl (lm (rn v (p : Int)))).toNat = x % p := by
  subst h
  rw [show rn (x : Int) (p : Int) = ((x % p : Nat) : Int) from by unfold rn; simp, Gb (Int.natCast_nonneg _)]; rfl
theorem Abz {b m x i : Nat} (hb : 2 ≤ b) (hx : x ≠ 0) (hm : (Cb b x).length ≤ m) (hi : i ≤ m - (Cb b x).length) (hend : (hdg b m x).length - 1 ≤ i ∨ (hdg b m x).getD i 0 ≠ 0) : i = m - (Cb b x).length := by
  have h1 : 0 < (Cb b x).length := List.length_pos_iff.2 (Ni hb hx)
  rcases hend with h | h
  · rw [L6] at h; omega
  · rcases Nat.lt_or_ge i (m - (Cb b x).length) with hlt | hge
    · exfalso
      apply h
      rw [Qj hb hx, List.getD_eq_getElem?_getD, List.getElem?_append_left (by simpa using hlt), List.getElem?_replicate, if_pos hlt]
      rfl
    · omega
theorem Se {b m x i : Nat} (hb : 2 ≤ b) (hx : x ≠ 0) (hm : (Cb b x).length ≤ m) (hi : i ≤ m - (Cb b x).length) (h0 : (hdg b m x).getD i 0 = 0) : i + 1 ≤ m - (Cb b x).length := by
  rcases Nat.lt_or_ge i (m - (Cb b x).length) with hlt | hge
  · exact hlt
  · exfalso
    obtain rfl : i = m - (Cb b x).length := by omega
    apply Y8 hb hx
    rw [Qj hb hx, List.getD_eq_getElem?_getD, List.getElem?_append_right (by simp)] at h0
    simpa using h0
theorem Zz {b m x : Nat} (hb : 2 ≤ b) (hx : x ≠ 0) : (hdg b m x).drop (m - (Cb b x).length) = hdg b 1 x := by
  rw [Qj hb hx, List.drop_append_of_le_length (by simp)]
  simp

def Abm : ByteArray := ⟨#[48, 49, 50, 51, 52, 53, 54, 55, 56, 57, 97, 98, 99, 100, 101, 102, 103, 104, 105, 106, 107, 108, 109, 110, 111, 112, 113, 114, 115, 116, 117, 118, 119, 120, 121, 122]⟩
def ltr (x : Int) : Int := Hu Abm x.toNat
def Aj8 (x : Int) : UInt8 := UInt8.ofNat (ltr x).toNat
def txt (l : List Int) : ByteArray := ⟨(l.map Aj8).toArray⟩
theorem Ad6 (x : Int) : 0 ≤ ltr x ∧ ltr x < 256 := O9 _ _
theorem Ad7 (x : Int) : ((Aj8 x).toNat : Int) = ltr x := by
  have h := Ad6 x
  unfold Aj8
  rw [UInt8.toNat_ofNat_of_lt' (by show (ltr x).toNat < 256; omega)]
  omega
theorem Aga (l : List Int) : Gk (txt l) = l.map ltr := by
  unfold Gk txt
  rw [List.toList_toArray, List.map_map]
  exact List.map_congr_left fun x _ => Ad7 x
theorem Xv (l : List Int) : (txt l).size = l.length := by
  have := Mc (txt l)
  rw [Aga, List.length_map] at this
  omega
theorem Xw {l : List Int} {i : Nat} (h : i < l.length) : (l.map ltr).getD i 0 = ltr (l.getD i 0) := by
  rw [List.getD_eq_getElem?_getD, List.getElem?_map, List.getD_eq_getElem?_getD, List.getElem?_eq_getElem h]; rfl
theorem Ajy {b : Nat} (hb : b ≤ 36) {l : List Int} (h : rng b l) : rng 36 l := fun x hx => by have := h x hx; omega

def hv (b : Nat) (l : List Int) : Int := vb b l.reverse
def dgv (c : Int) : Int := if 48 ≤ c ∧ c ≤ 57 then c - 48 else if 97 ≤ c ∧ c ≤ 122 then c - 97 + 10 else 36
def dgs (s : ByteArray) : List Int := (Gk s).map dgv

def Amn (s t : ByteArray) : Int := if s.size < t.size ∨ (s.size = t.size ∧ Op.bytesLess s.toList t.toList = true) then -1 else if s = t then 0 else 1

def PW (v n : Nat) : Int := ((v ^ n : Nat) : Int)
theorem Nf {x : Int} {r : List Int} {e : Int} (h : Tj x r e) (hx : Al x ≤ 67108864) : r = lm x ∧ e = 0 := by
  rcases h with ⟨h, h2, _⟩ | ⟨_, _, h⟩
  · exact ⟨h2, h⟩
  · omega
theorem Aee {x : Int} {k : Nat} (h : 2 ^ k ≤ x.natAbs) : k + 1 ≤ Al x := by
  unfold Al
  rcases Nat.lt_or_ge (Cv x.natAbs) (k + 1) with h1 | h1
  · have := Ct.1 (show Cv x.natAbs ≤ k by omega)
    omega
  · exact h1
def cF (b n : Nat) : V := .n false .u64 (lm (PW b n))

theorem Adf {l : List Int} (hu : Av l) : trm (dig l) = Cb B32 (vl l).toNat := by
  rw [Tw (s := false) hu rfl]
  show Cb 4294967296 (vl l).natAbs = Cb 4294967296 (vl l).toNat
  have := A4 hu
  rw [show (vl l).natAbs = (vl l).toNat by omega]
theorem We {v : Int} (h : 0 ≤ v) : Cb B32 v.toNat = dg v := by
  show Cb 4294967296 v.toNat = Cb 4294967296 v.natAbs
  rw [show v.natAbs = v.toNat by omega]

def Aml (l : List Int) (j : Nat) : List Int := List.replicate j 0 ++ l
def All (m i : Nat) : List Int := List.replicate i 48 ++ List.replicate (m - i) 0
def ptx (s : ByteArray) (k : Nat) : ByteArray := s.extract 0 (s.size - k) ++ ⟨#[46]⟩ ++ s.extract (s.size - k) s.size


def Amh (v : Int) : ByteArray := if v < 0 then (⟨#[45]⟩ : ByteArray) ++ txt (hdg 10 1 v.natAbs) else txt (hdg 10 1 v.natAbs)
theorem Yy {v : Int} : Al (-v) = Al v := by unfold Al; rw [Int.natAbs_neg]

def dgm (b : Nat) (s : ByteArray) : List Int := (dgs s).map fun d => if d < (b : Int) then d else -1

def Alu : ByteArray := ⟨#[48, 49, 50, 51, 52, 53, 54, 55, 56, 57]⟩

def nwt (a x n : Nat) : Nat := (n * x + a / x ^ n) / (n + 1)
structure RootIs (a k r : Nat) : Prop where
  le : r ^ k ≤ a
  lt : a < (r + 1) ^ k
theorem RootIs.is {a k r x : Nat} (h : RootIs a k r) (h1 : r ≤ x) (h2 : x ^ k ≤ a) : x = r := by
  rcases Nat.lt_or_ge r x with h3 | h3
  · have h4 := Nat.pow_le_pow_left h3 k
    have h5 := h.lt
    have h6 : (r + 1) ^ k ≤ a := Nat.le_trans h4 h2
    omega
  · omega
theorem Alz {v : Int} (h0 : 0 ≤ v) (h1 : v < 18446744073709551616) : Gm .or .u64 0 v = v := by
  have h := (P5 (c := 0) (x := v) (s := 0) (by decide) (by decide) (by decide) h0).1
  have e : loS v 0 = v := by unfold loS; rw [Int.pow_zero, Int.mul_one]; omega
  rw [e] at h
  omega
def Als (n : Nat) : List Int := List.replicate (n / 64) 0 ++ [((2 ^ (n % 64) : Nat) : Int), 0]
def Ami (n i : Nat) : List Int := if i = 0 then List.replicate (n / 64 + 2) 0 else Als n

def Ak0 (K : Nat) (rows : List (List Int)) : Bool := rows.all fun l => decide (Al (vl l) ≤ K)
theorem Agu {x y : Nat} : rn (x : Int) (y : Int) = ((x % y : Nat) : Int) := by
  unfold rn
  rw [Int.natAbs_natCast, Int.natAbs_natCast]
  rfl
theorem Ze {x y : Nat} : Nat.gcd y (x % y) = Nat.gcd x y := by
  rw [Nat.gcd_comm y, ← Nat.gcd_rec, Nat.gcd_comm]
theorem CoE.gcd {v w g x : Int} (h : CoE v w g x) : g = ((Nat.gcd v.natAbs w.natAbs : Nat) : Int) := by
  have h1 := (h.gc g).1 (Int.dvd_refl g)
  have h2 : g.natAbs ∣ Nat.gcd v.natAbs w.natAbs := Nat.dvd_gcd (Int.natAbs_dvd_natAbs.2 h1.1) (Int.natAbs_dvd_natAbs.2 h1.2)
  have h3 : ((Nat.gcd v.natAbs w.natAbs : Nat) : Int) ∣ g := (h.gc _).2 ⟨Int.ofNat_dvd_left.2 (Nat.gcd_dvd_left _ _), Int.ofNat_dvd_left.2 (Nat.gcd_dvd_right _ _)⟩
  have h4 := Nat.dvd_antisymm h2 (Int.ofNat_dvd_left.1 h3)
  have := h.g0
  omega

def tz (x : Nat) : Nat := if h : x = 0 ∨ x % 2 = 1 then 0 else tz (x / 2) + 1
termination_by x
decreasing_by omega
theorem Alr : tz 0 = 0 := by rw [tz]; simp
theorem Aax {x : Nat} (h : x % 2 = 1) : tz x = 0 := by rw [tz, dif_pos (.inr h)]
theorem Tt {x : Nat} (h0 : x ≠ 0) (h : x % 2 = 0) : tz x = tz (x / 2) + 1 := by rw [tz, dif_neg (by omega)]
theorem Ki {x : Nat} (h0 : 0 < x) : ∃ j, x = 2 ^ tz x * (2 * j + 1) := by
  induction x using Nat.strongRecOn with
  | _ x ih =>
    rcases Nat.mod_two_eq_zero_or_one x with h | h
    · obtain ⟨j, hj⟩ := ih (x / 2) (by omega) (by omega)
      refine ⟨j, ?_⟩
      rw [Tt (by omega) h, Nat.pow_succ, Nat.mul_comm _ 2, Nat.mul_assoc, ← hj]
      omega
    · exact ⟨x / 2, by rw [Aax h]; omega⟩
theorem Af8 {k j : Nat} : tz (2 ^ k * (2 * j + 1)) = k := by
  induction k with
  | zero => exact Aax (by omega)
  | succ k ih =>
    have hp : 0 < 2 ^ k * (2 * j + 1) := Nat.mul_pos (Nat.pow_pos (by decide)) (by omega)
    have e : 2 ^ (k + 1) * (2 * j + 1) = 2 * (2 ^ k * (2 * j + 1)) := by rw [Nat.pow_succ, Nat.mul_comm _ 2, Nat.mul_assoc]
    rw [e, Tt (by omega) (by omega), show 2 * (2 ^ k * (2 * j + 1)) / 2 = 2 ^ k * (2 * j + 1) by omega, ih]
theorem Ajo {x : Nat} (h0 : 0 < x) : 2 ^ tz x ≤ x := by
  obtain ⟨j, hj⟩ := Ki h0
  have h1 : 2 ^ tz x * 1 ≤ 2 ^ tz x * (2 * j + 1) := Nat.mul_le_mul_left _ (by omega)
  rw [← hj] at h1
  omega
theorem Af6 {x n : Nat} (h0 : 0 < x) (h : x < 2 ^ n) : tz x < n := by
  have h1 := Ajo h0
  rcases Nat.lt_or_ge (tz x) n with h2 | h2
  · exact h2
  · have := Nat.pow_le_pow_right (n := 2) (by decide) h2
    omega
def od (x : Nat) : Nat := x / 2 ^ tz x
def fl8 (m : Nat) (s : Int) : Int := if m % 8 = 3 ∨ m % 8 = 5 then -s else s
def fl4 (x m : Nat) (s : Int) : Int := if x % 4 = 3 ∧ m % 4 = 3 then -s else s
def flt (x m : Nat) (s : Int) : Int := if tz x % 2 = 1 then fl8 m s else s
theorem Ad8 {x : Nat} (h0 : 0 < x) (h : x < 2 ^ 64) : x &&& (2 ^ 64 - x) = 2 ^ tz x := by
  obtain ⟨j, hj⟩ := Ki h0
  apply Nat.eq_of_testBit_eq
  intro i
  have e : 2 ^ 64 - x = 2 ^ 64 - (x - 1 + 1) := by omega
  rw [Nat.testBit_and, e, Nat.testBit_two_pow_sub_succ (by omega), Nat.testBit_two_pow]
  generalize tz x = k at *
  have hp : 0 < 2 ^ k := Nat.pow_pos (by decide)
  rcases Nat.lt_trichotomy i k with h1 | h1 | h1
  · rw [hj, Nat.testBit_two_pow_mul]
    simp [show ¬ k ≤ i by omega, show ¬ k = i by omega]
  · subst h1
    have e1 : x - 1 = 2 ^ i * (2 * j) + (2 ^ i - 1) := by rw [hj, Nat.mul_add, Nat.mul_one]; omega
    rw [e1, Nat.testBit_two_pow_mul_add _ (by omega), if_neg (by omega), Nat.sub_self, hj, Nat.testBit_two_pow_mul]
    have hi : i < 64 := by
      rcases Nat.lt_or_ge i 64 with h2 | h2
      · exact h2
      · have h3 := Nat.pow_le_pow_right (n := 2) (by decide) h2
        have h4 : 2 ^ i * 1 ≤ 2 ^ i * (2 * j + 1) := Nat.mul_le_mul_left _ (by omega)
        omega
    simp [hi]
  · have e1 : x - 1 = 2 ^ k * (2 * j) + (2 ^ k - 1) := by rw [hj, Nat.mul_add, Nat.mul_one]; omega
    rw [e1, Nat.testBit_two_pow_mul_add _ (by omega), if_neg (by omega), hj, Nat.testBit_two_pow_mul]
    have e2 : (2 * j + 1).testBit (i - k) = (2 * j).testBit (i - k) := by
      obtain ⟨m, hm⟩ : ∃ m, i - k = m + 1 := ⟨i - k - 1, by omega⟩
      rw [hm, Nat.testBit_succ, Nat.testBit_succ]
      congr 1
      omega
    simp [show k ≤ i by omega, show ¬ k = i by omega, e2]
    intro h8 _; exact h8
def tzTab : List Int := [0, 1, 56, 2, 57, 49, 28, 3, 61, 58, 42, 50, 38, 29, 17, 4, 62, 47, 59, 36, 45, 43, 51, 22, 53, 39, 33, 30, 24, 18, 12, 5, 63, 55, 48, 27, 60, 41, 37, 16, 46, 35, 44, 21, 52, 32, 23, 11, 54, 26, 40, 15, 34, 20, 31, 10, 25, 14, 19, 9, 13, 8, 7, 6]
theorem Aco : ((List.range 64).all fun k => Nat.blt (2 ^ k * 285870213051353865 % 18446744073709551616 / 288230376151711744) 64 && decide (tzTab.getD (2 ^ k * 285870213051353865 % 18446744073709551616 / 288230376151711744) 0 = Int.ofNat k)) = true := by decide +kernel
theorem Ts (k : Nat) (h : k < 64) : 2 ^ k * 285870213051353865 % 18446744073709551616 / 288230376151711744 < 64 ∧ tzTab.getD (2 ^ k * 285870213051353865 % 18446744073709551616 / 288230376151711744) 0 = (k : Int) := by
  have h1 := List.all_eq_true.1 Aco k (List.mem_range.2 h)
  rw [Bool.and_eq_true] at h1
  exact ⟨Nat.le_of_ble_eq_true h1.1, of_decide_eq_true h1.2⟩
abbrev tzCells : List V := ints .u8 tzTab
theorem Yu {x : Nat} (h0 : 0 < x) (h : x < 18446744073709551616) : x &&& (18446744073709551616 - x) = 2 ^ tz x := Ad8 h0 h
theorem getD_drop' {l : List Int} {k i : Nat} : (l.drop k).getD i 0 = l.getD (k + i) 0 := by
  rw [List.getD_eq_getElem?_getD, List.getD_eq_getElem?_getD, List.getElem?_drop]
theorem Af5 {x : Nat} (h0 : 0 < x) (h : x < 18446744073709551616) : tz x < 64 ∧ 2 ^ tz x < 18446744073709551616 := by
  have h1 : tz x < 64 := Af6 h0 h
  have h2 := Nat.pow_lt_pow_right (a := 2) (by decide) h1
  exact ⟨h1, h2⟩
theorem Vw {l : List Int} {j : Nat} {v : Int} (h1 : j < l.length) (h2 : l.getD j 0 = v) : ((ints .u8 l).drop (j * 1))[0]? = some (V.i .u8 v) := by
  rw [List.getElem?_drop, Nat.mul_one, Nat.add_zero, F8, List.getElem?_eq_getElem h1]
  rw [List.getD_eq_getElem?_getD, List.getElem?_eq_getElem h1] at h2
  rw [← h2]; rfl
theorem Af7 : tzTab.length = 64 := by decide
theorem Acp {k : Nat} (h : k < 64) : (tzCells.drop (2 ^ k * 285870213051353865 % 18446744073709551616 / 288230376151711744 * 1))[0]? = some (.i .u8 (k : Int)) :=
  Vw (by rw [Af7]; exact (Ts k h).1) (Ts k h).2
theorem Ae7 {a b : Nat} (ha : a < 18446744073709551616) (hb : b < 18446744073709551616) : Gm .and .u64 (a : Int) (b : Int) = ((a &&& b : Nat) : Int) := by
  unfold Gm
  simp only [IntKind.bits]
  have e1 : (BitVec.ofInt 64 (a : Int)).toNat = a := by rw [BitVec.toNat_ofInt]; simp; omega
  have e2 : (BitVec.ofInt 64 (b : Int)).toNat = b := by rw [BitVec.toNat_ofInt]; simp; omega
  have e3 : (BitVec.ofInt 64 (a : Int) &&& BitVec.ofInt 64 (b : Int)).toNat = a &&& b := by rw [BitVec.toNat_and, e1, e2]
  show IntKind.u64.wrap (((BitVec.ofInt 64 (a : Int) &&& BitVec.ofInt 64 (b : Int)).toNat : Nat) : Int) = _
  rw [e3]
  have h := Nat.and_le_left (n := a) (m := b)
  exact Bf (by omega) (by omega)
theorem Acn {x r : Nat} (h0 : 0 < x) (h : x < 2 ^ 64) : tz (x + 2 ^ 64 * r) = tz x := by
  obtain ⟨j, hj⟩ := Ki h0
  have hk := Af6 h0 h
  generalize tz x = k at *
  have e : x + 2 ^ 64 * r = 2 ^ k * (2 * (j + 2 ^ (63 - k) * r) + 1) := by
    have e1 : (2 : Nat) ^ 64 = 2 ^ k * (2 * 2 ^ (63 - k)) := by rw [← Nat.pow_succ', ← Nat.pow_add]; congr 1; omega
    rw [hj, e1, Nat.mul_assoc, ← Nat.mul_add]
    congr 1
    rw [Nat.mul_add, Nat.mul_assoc]
    omega
  rw [e, Af8]
theorem Acm {y : Nat} (h0 : 0 < y) : tz (2 ^ 64 * y) = 64 + tz y := by
  obtain ⟨j, hj⟩ := Ki h0
  have e : 2 ^ 64 * y = 2 ^ (64 + tz y) * (2 * j + 1) := by rw [Nat.pow_add, Nat.mul_assoc, ← hj]
  rw [e, Af8]
theorem Q6 : ∀ {l : List Int} {i : Nat}, Av l → i < l.length → (∀ j < i, l.getD j 0 = 0) → l.getD i 0 ≠ 0 → tz (vl l).toNat = 64 * i + tz (l.getD i 0).toNat
  | [], i, _, hi, _, _ => by simp at hi
  | y :: l, 0, hu, _, _, hx => by
    have hy := hu y (List.mem_cons_self ..)
    have hl := A4 fun z hz => hu z (List.mem_cons_of_mem _ hz)
    have hx' : y ≠ 0 := hx
    have e : (vl (y :: l)).toNat = y.toNat + 2 ^ 64 * (vl l).toNat := by
      simp only [vl]
      have hB : Bs = 18446744073709551616 := rfl
      rw [hB]
      omega
    rw [e, Acn (by omega) (by omega)]
    show _ = 64 * 0 + tz y.toNat
    omega
  | y :: l, i + 1, hu, hi, hz, hx => by
    have hy : y = 0 := hz 0 (by omega)
    have hu' : Av l := fun z hzm => hu z (List.mem_cons_of_mem _ hzm)
    have hl := A4 hu'
    have hi' : i < l.length := by simpa using hi
    have hxi : l.getD i 0 ≠ 0 := hx
    have ih := Q6 (l := l) (i := i) hu' hi' (fun j hj => hz (j + 1) (by omega)) hxi
    have hp : 0 < (vl l).toNat := by
      rcases Nat.eq_zero_or_pos (vl l).toNat with h0 | h0
      · have h1 := Agt hu' i
        rw [h0] at h1
        simp at h1
        exact absurd h1 hxi
      · exact h0
    have e : (vl (y :: l)).toNat = 2 ^ 64 * (vl l).toNat := by
      simp only [vl]
      have hB : Bs = 18446744073709551616 := rfl
      rw [hB, hy]
      omega
    rw [e, Acm hp, ih]
    show _ = 64 * (i + 1) + tz (l.getD i 0).toNat
    omega
theorem T1 {l : List Int} (hu : Av l) (hz : ∀ j < l.length, l.getD j 0 = 0) : vl l = 0 := by
  induction l with
  | nil => rfl
  | cons y l ih =>
    have hy : y = 0 := hz 0 (by simp)
    have h := ih (fun z hzm => hu z (List.mem_cons_of_mem _ hzm)) fun j hj => hz (j + 1) (by simpa using hj)
    simp only [vl]
    rw [hy, h]
    rfl
theorem Zt {a : List Int} {s : Nat} (hs : s ≤ 64) (hu : Av a) : vl (dnN a s a.length) = vl a / 2 ^ s := by
  have h1 := Qn (a := a) hs a.length
  rw [Du (Nat.le_refl _), Ds (Nat.le_refl _), Int.zero_emod, Int.mul_zero] at h1
  have hp := H3 s
  have h2 : 0 ≤ a.getD 0 0 % 2 ^ s := Int.emod_nonneg _ (Int.ne_of_gt hp)
  have h3 : a.getD 0 0 % 2 ^ s < 2 ^ s := Int.emod_lt_of_pos _ hp
  have e : vl a = a.getD 0 0 % 2 ^ s + 2 ^ s * vl (dnN a s a.length) := by omega
  rw [e, Int.add_mul_ediv_left _ _ (Int.ne_of_gt hp), Int.ediv_eq_zero_of_lt h2 h3, Int.zero_add]
theorem Zr {l : List Int} {k : Nat} (hu : Av l) (hk : k ≤ l.length) : vl (l.drop k) = vl l / pB k := by
  have ht : Av (l.take k) := fun z hz => hu z (List.mem_of_mem_take hz)
  have e : vl l = vl (l.take k) + pB k * vl (l.drop k) := by
    have h := D8 (l.take k) (l.drop k)
    rw [List.take_append_drop, List.length_take, Nat.min_eq_left hk] at h
    exact h
  have h2 := A4 ht
  have h3 := E2 ht
  rw [List.length_take, Nat.min_eq_left hk] at h3
  have hp := Dh k
  rw [e, Int.add_mul_ediv_left _ _ (Int.ne_of_gt hp), Int.ediv_eq_zero_of_lt h2 h3, Int.zero_add]
theorem Ln {l : List Int} {k : Nat} (hu : Av l) : Av (l.drop k) := fun z hz => hu z (List.mem_of_mem_drop hz)
theorem Ur {x n : Nat} (h : n / 64 ≤ (lm (x : Int)).length) : vl (dnN ((lm (x : Int)).drop (n / 64)) (n % 64) ((lm (x : Int)).drop (n / 64)).length) = ((x / 2 ^ n : Nat) : Int) := by
  rw [Zt (by omega) (Ln (Cu _)), Zr (Cu _) h, Gb (Int.natCast_nonneg _), Ok, ← Abf]
  rw [Int.ediv_ediv_of_nonneg (Int.natCast_nonneg _), ← Int.natCast_mul, ← Nat.pow_add, Nat.div_add_mod]
  rfl

def dgl (z j : Nat) : Int := ((z / 2 ^ (64 * j) % 2 ^ 64 : Nat) : Int)
def dll (z m : Nat) : List Int := (List.range m).map (dgl z)
theorem Aka (x : Nat) : x < 2 ^ (64 * (lm (x : Int)).length) := by
  have h := E2 (Cu (x : Int))
  rw [Gb (Int.natCast_nonneg _), Ok] at h
  exact Int.ofNat_lt.1 h
theorem Vm {z n : Nat} (h : z < 2 ^ n) : Al (z : Int) ≤ n := Ct.2 (by rw [Int.natAbs_natCast]; exact h)
def tw (v : Int) : Nat := if v < 0 then (-v - 1).toNat else v.toNat
def Amq (v w : Int) : Int :=
  if v < 0 then (if w < 0 then -((tw v ||| tw w : Nat) : Int) - 1 else ((tw w ^^^ (tw w &&& tw v) : Nat) : Int))
  else (if w < 0 then ((tw v ^^^ (tw v &&& tw w) : Nat) : Int) else ((tw v &&& tw w : Nat) : Int))
def orI (v w : Int) : Int :=
  if v < 0 then (if w < 0 then -((tw v &&& tw w : Nat) : Int) - 1 else -((tw v ^^^ (tw v &&& tw w) : Nat) : Int) - 1)
  else (if w < 0 then -((tw w ^^^ (tw w &&& tw v) : Nat) : Int) - 1 else ((tw v ||| tw w : Nat) : Int))
def xoI (v w : Int) : Int := if (decide (v < 0) != decide (w < 0)) = true then -((tw v ^^^ tw w : Nat) : Int) - 1 else ((tw v ^^^ tw w : Nat) : Int)
theorem Ajp {x n : Nat} (h : 0 < x) : n ≤ tz x ↔ 2 ^ n ∣ x := by
  obtain ⟨j, hj⟩ := Ki h
  constructor
  · intro h1
    refine Nat.dvd_trans (Nat.pow_dvd_pow 2 h1) ⟨2 * j + 1, hj⟩
  · intro h1
    rcases Nat.lt_or_ge (tz x) n with h2 | h2
    · exfalso
      have h3 : 2 ^ (tz x + 1) ∣ x := Nat.dvd_trans (Nat.pow_dvd_pow 2 h2) h1
      obtain ⟨m, hm⟩ := h3
      have hp : 0 < 2 ^ tz x := Nat.pow_pos (by decide)
      have e : 2 ^ tz x * (2 * m) = 2 ^ tz x * (2 * j + 1) := by rw [← Nat.mul_assoc, ← Nat.pow_succ, ← hm, ← hj]
      have := Nat.eq_of_mul_eq_mul_left hp e
      omega
    · exact h2
def Amp (v : Int) (i : Nat) : Int := if v < 0 then 1 - ((tw v / 2 ^ i % 2 : Nat) : Int) else ((tw v / 2 ^ i % 2 : Nat) : Int)

def Rw (l : List Int) (x : Nat) : Prop := Av l ∧ vl l = (x : Int) ∧ l.length ≤ 1048576
theorem Rw.u {l : List Int} {x : Nat} (h : Rw l x) : Av l := h.1
theorem Rw.v {l : List Int} {x : Nat} (h : Rw l x) : vl l = (x : Int) := h.2.1
theorem Rw.l {l : List Int} {x : Nat} (h : Rw l x) : l.length ≤ 1048576 := h.2.2
theorem Rw.t {l : List Int} {x : Nat} (h : Rw l x) : trm l = lm (x : Int) := Fo h.1 h.2.1
theorem Rw.b {l : List Int} {x : Nat} (h : Rw l x) : Al (x : Int) ≤ 67108864 := by
  have h1 := H5 (s := false) h.1
  rw [show sv false l = (x : Int) from h.2.1] at h1
  have := h.2.2
  omega
theorem Rw.b' {l : List Int} {x : Nat} (h : Rw l x) : Al (x : Int) ≤ 64 * l.length := by
  have h1 := H5 (s := false) h.1
  rwa [show sv false l = (x : Int) from h.2.1] at h1
theorem Rw.n {l : List Int} {x : Nat} (h : Rw l x) : Dn l = Al (x : Int) := Fd h.1 h.2.1
theorem Rw.of {x : Nat} (h : Al (x : Int) ≤ 67108864) : Rw (lm (x : Int)) x := ⟨Cu _, by rw [Qa, Int.natAbs_natCast], Bv h⟩
theorem Rw.nil : Rw [] 0 := ⟨fun x hx => (by cases hx), rfl, Nat.zero_le _⟩
theorem Cn {x y : Nat} (h : x ≤ y) : Al (x : Int) ≤ Al (y : Int) := B7 (by omega)
theorem K6 {x : Nat} : Al (x : Int) = 0 ↔ x = 0 := by
  unfold Al
  rw [Int.natAbs_natCast]
  constructor
  · intro h
    rcases Nat.eq_zero_or_pos x with h0 | h0
    · exact h0
    · have := Eb (n := x) (by omega); omega
  · rintro rfl; rfl
theorem Kx {x y : Nat} : qn (x : Int) (y : Int) = ((x / y : Nat) : Int) := by
  unfold qn
  rw [Int.natAbs_natCast, Int.natAbs_natCast]
  rfl
theorem lm_len0 {x : Nat} : (lm (x : Int)).length = 0 ↔ x = 0 := by
  constructor
  · intro h
    refine Decidable.byContradiction fun hx => ?_
    exact Ow (show (x : Int) ≠ 0 by omega) (List.eq_nil_of_length_eq_zero h)
  · rintro rfl; rw [show ((0 : Nat) : Int) = 0 from rfl, Afm]; rfl
theorem M9 : lm ((1 : Nat) : Int) = [1] := by rw [← Zh (v := ((1 : Nat) : Int)) (by decide) (by decide)]; rfl
def rn0 (x y : Nat) : Nat := x / Nat.gcd x y
def rd0 (x y : Nat) : Nat := y / Nat.gcd x y
def sgq (s : Bool) (x : Nat) : Bool := s && decide (x ≠ 0)
theorem Dk {x y : Nat} (hy : y ≠ 0) : 0 < Nat.gcd x y := Nat.gcd_pos_of_pos_right _ (by omega)
theorem Rg {x y : Nat} : rn0 x y ≤ x := Nat.div_le_self _ _
theorem Rm {x y : Nat} : rd0 x y ≤ y := Nat.div_le_self _ _
theorem G7 {x y : Nat} (hy : y ≠ 0) : 0 < rd0 x y := Nat.div_pos (Nat.le_of_dvd (by omega) (Nat.gcd_dvd_right _ _)) (Dk hy)
theorem Kr {x y : Nat} : rn0 x y * Nat.gcd x y = x := Nat.div_mul_cancel (Nat.gcd_dvd_left _ _)
theorem M2 {x y : Nat} : rd0 x y * Nat.gcd x y = y := Nat.div_mul_cancel (Nat.gcd_dvd_right _ _)
theorem Adb {y : Nat} : rn0 0 y = 0 := by unfold rn0; exact Nat.zero_div _
theorem Agw {y : Nat} (hy : y ≠ 0) : rd0 0 y = 1 := by unfold rd0; rw [Nat.gcd_zero_left]; exact Nat.div_self (by omega)
theorem G6 {x y : Nat} : rn0 x y = 0 ↔ x = 0 := by
  constructor
  · intro h
    have := @Kr x y
    rw [h, Nat.zero_mul] at this
    exact this.symm
  · rintro rfl; exact Adb
theorem Ks {x y : Nat} (hy : y ≠ 0) : Nat.gcd (rn0 x y) (rd0 x y) = 1 := by
  have h := Nat.gcd_mul_right (rn0 x y) (Nat.gcd x y) (rd0 x y)
  rw [Kr, M2] at h
  have h1 := Dk (x := x) hy
  have h2 : Nat.gcd (rn0 x y) (rd0 x y) * Nat.gcd x y = 1 * Nat.gcd x y := by omega
  exact Nat.eq_of_mul_eq_mul_right h1 h2
theorem Py {x y L : Nat} (h : Al (x : Int) ≤ L) : Al ((rn0 x y : Nat) : Int) ≤ L := Nat.le_trans (Cn Rg) h
theorem Kv {x y L : Nat} (h : Al (y : Int) ≤ L) : Al ((rd0 x y : Nat) : Int) ≤ L := Nat.le_trans (Cn Rm) h
theorem Ta {x y L : Nat} (hy : y ≠ 0) (h : Al (y : Int) ≤ L) : Al ((Nat.gcd x y : Nat) : Int) ≤ L := Nat.le_trans (Cn (Nat.le_of_dvd (by omega) (Nat.gcd_dvd_right _ _))) h

theorem sgq_0 {s : Bool} : sgq s 0 = false := by cases s <;> rfl
theorem Sy {s : Bool} {x : Nat} (h : x ≠ 0) : sgq s x = s := by unfold sgq; rw [decide_eq_true h, Bool.and_true]
theorem Ue {s : Bool} {x y : Nat} : (!sgq s x && decide (0 < ((lm ((rn0 x y : Nat) : Int)).length : Int))) = sgq (!s) x := by
  have h := @lm_len0 (rn0 x y)
  have h2 := @G6 x y
  by_cases hx : x = 0
  · subst hx; rw [decide_eq_false (by omega), Bool.and_false]; exact sgq_0.symm
  · rw [Sy hx, Sy hx, decide_eq_true (by omega), Bool.and_true]
theorem Ahp {v : Nat} (h0 : 0 < v) (h : v < 18446744073709551616) : lm ((v : Nat) : Int) = [(v : Int)] := by rw [← Zh (by omega) (by omega), if_neg (by omega)]
theorem X6 {v : Nat} (h0 : 0 < v) (h : v < 18446744073709551616) : Rw [(v : Int)] v := ⟨fun x hx => (by rw [List.mem_singleton] at hx; omega), (by show (v : Int) + Bs * 0 = _; omega), (by show 1 ≤ _; decide)⟩
def rtV (r : Bool × List Int × List Int) : List V := [.b r.1, .n false .u64 r.2.1, .n false .u64 r.2.2]
def Tg (rs : List (Bool × List Int × List Int)) : List (List V) := rs.map rtV
def Di (rs : List (Bool × List Int × List Int)) (i : Nat) : Bool × List Int × List Int := rs.getD i (false, [], [])
theorem Jz {rs : List (Bool × List Int × List Int)} : (Tg rs).length = rs.length := by unfold Tg; simp
theorem Un {rs : List (Bool × List Int × List Int)} {i : Nat} (h : i < rs.length) : (Tg rs)[i]? = some [V.b (Di rs i).1, V.n false .u64 (Di rs i).2.1, V.n false .u64 (Di rs i).2.2] := by
  unfold Tg Di
  rw [List.getElem?_map, List.getD_eq_getElem?_getD, List.getElem?_eq_getElem h]
  rfl
def lkO (tg : TypeId) (rs : List (Bool × List Int × List Int)) : Out := if rs.all (fun r => decide (vl r.2.2 ≠ 0)) then .ret (.t []) else .pan (Aje tg 70 false)
theorem Akd {tg : TypeId} {rs : List (Bool × List Int × List Int)} {i : Nat} (hi : i < rs.length) (h : vl (Di rs i).2.2 = 0) : lkO tg rs = .pan (Aje tg 70 false) := by
  unfold lkO
  rw [if_neg]
  intro h1
  have h2 := List.all_eq_true.1 h1 _ (List.getElem_mem hi)
  unfold Di at h
  rw [List.getD_eq_getElem?_getD, List.getElem?_eq_getElem hi] at h
  simp at h2
  exact h2 h
theorem Akc {tg : TypeId} {rs : List (Bool × List Int × List Int)} (h : ∀ j < rs.length, vl (Di rs j).2.2 ≠ 0) : lkO tg rs = .ret (.t []) := by
  unfold lkO
  rw [if_pos]
  refine List.all_eq_true.2 fun r hr => decide_eq_true ?_
  obtain ⟨j, hj, rfl⟩ := List.getElem_of_mem hr
  have h2 := h j hj
  unfold Di at h2
  rwa [List.getD_eq_getElem?_getD, List.getElem?_eq_getElem hj] at h2
def ntx (x : Nat) : ByteArray := txt (hdg 10 1 x)
def Afl (s : Bool) (x : Nat) : ByteArray := if s then (⟨#[45]⟩ : ByteArray) ++ ntx x else ntx x
def rtx (s : Bool) (x y : Nat) : ByteArray := if y = 1 then Afl s x else Afl s x ++ ((⟨#[47]⟩ : ByteArray) ++ ntx y)
theorem U7 {x L : Nat} (h : Al (x : Int) ≤ L) : (ntx x).size ≤ L + 1 := by
  unfold ntx
  rw [Xv, L6]
  have h2 : x < 10 ^ L := Nat.lt_of_lt_of_le (Ct.1 h) (Nat.pow_le_pow_left (by decide) _)
  have := F1 (b := 10) (by decide) L x h2
  omega
theorem Rp (x : Nat) (h : Al (x : Int) ≤ 67108864) : (ntx x).size ≤ 67108865 := U7 h

theorem Yt {a b c d : Nat} (h1 : Nat.gcd a b = 1) (h2 : Nat.gcd c d = 1) (hb : b ≠ 0) (hd : d ≠ 0) (h : a * d = c * b) : a = c ∧ b = d := by
  have e1 : b ∣ d := by
    have hc : Nat.Coprime b a := by rw [Nat.coprime_comm]; exact h1
    exact hc.dvd_of_dvd_mul_left (h ▸ Nat.dvd_mul_left b c)
  have e2 : d ∣ b := by
    have hc : Nat.Coprime d c := by rw [Nat.coprime_comm]; exact h2
    exact hc.dvd_of_dvd_mul_left (h ▸ Nat.dvd_mul_left d a)
  have e := Nat.dvd_antisymm e1 e2
  subst e
  exact ⟨Nat.eq_of_mul_eq_mul_right (Nat.pos_of_ne_zero hb) h, rfl⟩
def nn (z : Int) (Y : Nat) : Nat := rn0 z.natAbs Y
def dd (z : Int) (Y : Nat) : Nat := rd0 z.natAbs Y
theorem Ru {a b : Nat} {z : Int} {Y : Nat} (h1 : Nat.gcd a b = 1) (hb : b ≠ 0) (hY : Y ≠ 0) (h : a * Y = z.natAbs * b) : a = nn z Y ∧ b = dd z Y := by
  refine Yt h1 (Ks hY) hb (Nat.pos_iff_ne_zero.1 (G7 hY)) ?_
  have e1 : nn z Y * Nat.gcd z.natAbs Y = z.natAbs := @Kr z.natAbs Y
  have e2 : dd z Y * Nat.gcd z.natAbs Y = Y := @M2 z.natAbs Y
  have hg := Dk (x := z.natAbs) hY
  refine Nat.eq_of_mul_eq_mul_right hg ?_
  show a * dd z Y * _ = nn z Y * b * _
  rw [Nat.mul_assoc, e2, h, Nat.mul_right_comm, e1]
theorem Aak {s : Bool} {x : Nat} : decide (zs s x < 0) = sgq s x := by
  unfold zs sgq
  cases s
  · simp
  · by_cases h : x = 0
    · subst h; rfl
    · rw [if_pos rfl, decide_eq_true h, Bool.true_and]; exact decide_eq_true (by omega)
theorem Tk {s : Bool} {x k : Nat} : zs s (x * k) = zs s x * (k : Int) := by
  unfold zs
  cases s <;> simp [Int.neg_mul]
theorem Kc (z : Int) : zs (decide (z < 0)) z.natAbs = z := by
  unfold zs
  by_cases h : z < 0
  · rw [if_pos (decide_eq_true h)]; omega
  · rw [if_neg (by rw [decide_eq_false h]; decide)]; omega
def Qe (s : Bool) (x y : Nat) (z : Int) (Y : Nat) : Prop := y ≠ 0 ∧ Y ≠ 0 ∧ zs s x * (Y : Int) = z * (y : Int)
theorem Qe.raw {s : Bool} {x y : Nat} (h : y ≠ 0) : Qe s x y (zs s x) y := ⟨h, h, rfl⟩
theorem Qe.abs {s : Bool} {x y : Nat} {z : Int} {Y : Nat} (h : Qe s x y z Y) : x * Y = z.natAbs * y := by
  have := congrArg Int.natAbs h.2.2
  rwa [Int.natAbs_mul, Int.natAbs_mul, Int.natAbs_natCast, Int.natAbs_natCast, H7] at this
theorem Qe.sgn {s : Bool} {x y : Nat} {z : Int} {Y : Nat} (h : Qe s x y z Y) : sgq s x = decide (z < 0) := by
  rw [← Aak, decide_eq_decide]
  have h1 : (0 : Int) < (y : Int) := by have := h.1; omega
  have h2 : (0 : Int) < (Y : Int) := by have := h.2.1; omega
  have h3 := h.2.2
  constructor
  · intro h4
    have : zs s x * (Y : Int) < 0 := Int.mul_neg_of_neg_of_pos h4 h2
    rw [h3] at this
    exact Int.not_le.1 fun h5 => absurd (Int.mul_nonneg h5 (Int.le_of_lt h1)) (by omega)
  · intro h4
    have : z * (y : Int) < 0 := Int.mul_neg_of_neg_of_pos h4 h1
    rw [← h3] at this
    exact Int.not_le.1 fun h5 => absurd (Int.mul_nonneg h5 (Int.le_of_lt h2)) (by omega)
theorem Qe.low {s : Bool} {x y : Nat} {z : Int} {Y : Nat} (h : Qe s x y z Y) : rn0 x y = nn z Y ∧ rd0 x y = dd z Y := by
  refine Ru (Ks h.1) (Nat.pos_iff_ne_zero.1 (G7 h.1)) h.2.1 ?_
  have hg := Dk (x := x) h.1
  refine Nat.eq_of_mul_eq_mul_right hg ?_
  rw [Nat.mul_right_comm, Kr, Nat.mul_assoc, M2, h.abs]
theorem Qe.can (z : Int) {Y : Nat} (hY : Y ≠ 0) : Qe (decide (z < 0)) (nn z Y) (dd z Y) z Y := by
  refine ⟨Nat.pos_iff_ne_zero.1 (G7 hY), hY, ?_⟩
  have e1 := @Kr z.natAbs Y
  have e2 := @M2 z.natAbs Y
  have hg := Dk (x := z.natAbs) hY
  have e3 : (nn z Y : Nat) * Nat.gcd z.natAbs Y = z.natAbs := e1
  have e4 : (dd z Y : Nat) * Nat.gcd z.natAbs Y = Y := e2
  have h1 : zs (decide (z < 0)) (nn z Y) * ((Nat.gcd z.natAbs Y : Nat) : Int) = z := by rw [← Tk, e3, Kc]
  have h2 : (Y : Int) = (dd z Y : Int) * ((Nat.gcd z.natAbs Y : Nat) : Int) := by exact_mod_cast e4.symm
  rw [h2]
  generalize (Nat.gcd z.natAbs Y : Nat) = G at *
  generalize zs (decide (z < 0)) (nn z Y) = A at *
  generalize (dd z Y : Int) = D at *
  rw [← h1]
  simp only [Int.mul_assoc, Int.mul_comm, Int.mul_left_comm]
theorem Rt {z w : Int} {Y X : Nat} (hY : Y ≠ 0) (hX : X ≠ 0) (h : z * (X : Int) = w * (Y : Int)) : nn z Y = nn w X ∧ dd z Y = dd w X ∧ decide (z < 0) = decide (w < 0) := by
  have q : Qe (decide (z < 0)) z.natAbs Y w X := ⟨hY, hX, by rw [Kc, h]⟩
  refine ⟨q.low.1, q.low.2, ?_⟩
  rw [← q.sgn, ← Aak, Kc]
theorem Qe.add {s t : Bool} {x y x2 y2 : Nat} {z w : Int} {Y X : Nat} (h1 : Qe s x y z Y) (h2 : Qe t x2 y2 w X) : (zs s x * (y2 : Int) + zs t x2 * (y : Int)) * ((Y * X : Nat) : Int) = (z * (X : Int) + w * (Y : Int)) * ((y * y2 : Nat) : Int) := by
  have e1 := h1.2.2
  have e2 := h2.2.2
  rw [Int.natCast_mul, Int.natCast_mul]
  generalize zs s x = A at *
  generalize zs t x2 = B at *
  have : (A * (y2 : Int) + B * (y : Int)) * ((Y : Int) * (X : Int)) = (A * (Y : Int)) * ((y2 : Int) * (X : Int)) + (B * (X : Int)) * ((y : Int) * (Y : Int)) := by
    rw [Int.add_mul]; congr 1 <;> simp only [Int.mul_assoc, Int.mul_comm, Int.mul_left_comm]
  rw [this, e1, e2, Int.add_mul]
  congr 1 <;> simp only [Int.mul_assoc, Int.mul_comm, Int.mul_left_comm]
theorem Qe.mul {s t : Bool} {x y x2 y2 : Nat} {z w : Int} {Y X : Nat} (h1 : Qe s x y z Y) (h2 : Qe t x2 y2 w X) : (zs s x * zs t x2) * ((Y * X : Nat) : Int) = (z * w) * ((y * y2 : Nat) : Int) := by
  have e1 := h1.2.2
  have e2 := h2.2.2
  rw [Int.natCast_mul, Int.natCast_mul]
  generalize zs s x = A at *
  generalize zs t x2 = B at *
  have : A * B * ((Y : Int) * (X : Int)) = (A * (Y : Int)) * (B * (X : Int)) := by simp only [Int.mul_assoc, Int.mul_comm, Int.mul_left_comm]
  rw [this, e1, e2]
  simp only [Int.mul_assoc, Int.mul_comm, Int.mul_left_comm]
theorem Acs {s t : Bool} {n1 d1 n2 d2 : Nat} (c1 : Nat.gcd n1 d1 = 1) (c2 : Nat.gcd n2 d2 = 1) (h1 : d1 ≠ 0) (h2 : d2 ≠ 0) {S : Int} (hS : S = zs s n1 * ((d2 / Nat.gcd d1 d2 : Nat) : Int) + zs t n2 * ((d1 / Nat.gcd d1 d2 : Nat) : Int)) :
    S.natAbs / Nat.gcd S.natAbs (Nat.gcd d1 d2) = nn (zs s n1 * (d2 : Int) + zs t n2 * (d1 : Int)) (d1 * d2) ∧ d1 / Nat.gcd d1 d2 * (d2 / Nat.gcd S.natAbs (Nat.gcd d1 d2)) = dd (zs s n1 * (d2 : Int) + zs t n2 * (d1 : Int)) (d1 * d2) ∧
    decide (S < 0) = decide (zs s n1 * (d2 : Int) + zs t n2 * (d1 : Int) < 0) ∧ zs s n1 * (d2 : Int) + zs t n2 * (d1 : Int) = S * ((Nat.gcd d1 d2 : Nat) : Int) := by
  have hg : 0 < Nat.gcd d1 d2 := Nat.gcd_pos_of_pos_left _ (Nat.pos_of_ne_zero h1)
  obtain ⟨p, hp⟩ := Nat.gcd_dvd_left d1 d2
  obtain ⟨q, hq⟩ := Nat.gcd_dvd_right d1 d2
  generalize hG : Nat.gcd d1 d2 = g at *
  have ep : d1 / g = p := by rw [hp]; exact Nat.mul_div_cancel_left _ hg
  have eq : d2 / g = q := by rw [hq]; exact Nat.mul_div_cancel_left _ hg
  rw [ep, eq] at hS
  rw [ep]
  have cpq : Nat.gcd p q = 1 := by
    have := Nat.gcd_mul_left g p q
    rw [← hp, ← hq, hG] at this
    exact Nat.eq_of_mul_eq_mul_left hg (by omega)
  have hZ : zs s n1 * (d2 : Int) + zs t n2 * (d1 : Int) = S * (g : Int) := by
    rw [hS, hp, hq, Int.natCast_mul, Int.natCast_mul, Int.add_mul]
    congr 1 <;> simp only [Int.mul_assoc, Int.mul_comm, Int.mul_left_comm]
  have hp0 : p ≠ 0 := fun e => h1 (by rw [hp, e, Nat.mul_zero])
  have hq0 : q ≠ 0 := fun e => h2 (by rw [hq, e, Nat.mul_zero])
  have cSp : Nat.Coprime S.natAbs p := by
    have k1 : Nat.Coprime n1 p := Nat.Coprime.coprime_dvd_right ⟨g, by rw [hp, Nat.mul_comm]⟩ c1
    have k2 : Nat.Coprime (n1 * q) p := k1.mul_left (by rw [Nat.coprime_comm]; exact cpq)
    rw [Nat.coprime_iff_gcd_eq_one] at *
    have h3 : Nat.gcd S.natAbs p ∣ n1 * q := by
      have a1 : ((Nat.gcd S.natAbs p : Nat) : Int) ∣ S := Int.ofNat_dvd_left.2 (Nat.gcd_dvd_left _ _)
      have a2 : ((Nat.gcd S.natAbs p : Nat) : Int) ∣ (p : Int) := Int.ofNat_dvd.2 (Nat.gcd_dvd_right _ _)
      have a3 : ((Nat.gcd S.natAbs p : Nat) : Int) ∣ zs s n1 * (q : Int) := by
        have : zs s n1 * (q : Int) = S - zs t n2 * (p : Int) := by rw [hS]; omega
        rw [this]
        exact Int.dvd_sub a1 (Int.dvd_mul_of_dvd_right a2)
      have := Int.ofNat_dvd_left.1 a3
      rwa [Int.natAbs_mul, H7, Int.natAbs_natCast] at this
    exact Nat.dvd_one.1 (by rw [← k2]; exact Nat.dvd_gcd h3 (Nat.gcd_dvd_right _ _))
  have cSq : Nat.Coprime S.natAbs q := by
    have k1 : Nat.Coprime n2 q := Nat.Coprime.coprime_dvd_right ⟨g, by rw [hq, Nat.mul_comm]⟩ c2
    have k2 : Nat.Coprime (n2 * p) q := k1.mul_left cpq
    rw [Nat.coprime_iff_gcd_eq_one] at *
    have h3 : Nat.gcd S.natAbs q ∣ n2 * p := by
      have a1 : ((Nat.gcd S.natAbs q : Nat) : Int) ∣ S := Int.ofNat_dvd_left.2 (Nat.gcd_dvd_left _ _)
      have a2 : ((Nat.gcd S.natAbs q : Nat) : Int) ∣ (q : Int) := Int.ofNat_dvd.2 (Nat.gcd_dvd_right _ _)
      have a3 : ((Nat.gcd S.natAbs q : Nat) : Int) ∣ zs t n2 * (p : Int) := by
        have : zs t n2 * (p : Int) = S - zs s n1 * (q : Int) := by rw [hS]; omega
        rw [this]
        exact Int.dvd_sub a1 (Int.dvd_mul_of_dvd_right a2)
      have := Int.ofNat_dvd_left.1 a3
      rwa [Int.natAbs_mul, H7, Int.natAbs_natCast] at this
    exact Nat.dvd_one.1 (by rw [← k2]; exact Nat.dvd_gcd h3 (Nat.gcd_dvd_right _ _))
  have hh : 0 < Nat.gcd S.natAbs g := Nat.gcd_pos_of_pos_right _ hg
  obtain ⟨m, hm⟩ := Nat.gcd_dvd_left S.natAbs g
  obtain ⟨r, hr⟩ := Nat.gcd_dvd_right S.natAbs g
  generalize hHd : Nat.gcd S.natAbs g = k at *
  have em : S.natAbs / k = m := by rw [hm]; exact Nat.mul_div_cancel_left _ hh
  have ed : d2 / k = r * q := by rw [hq, hr, Nat.mul_assoc]; exact Nat.mul_div_cancel_left _ hh
  have cmr : Nat.gcd m r = 1 := by
    have := Nat.gcd_mul_left k m r
    rw [← hm, ← hr, hHd] at this
    exact Nat.eq_of_mul_eq_mul_left hh (by omega)
  have hr0 : r ≠ 0 := fun e => by rw [e, Nat.mul_zero] at hr; omega
  rw [em, ed]
  have cm : Nat.gcd m (p * (r * q)) = 1 := by
    have k1 : Nat.Coprime m p := Nat.Coprime.coprime_dvd_left ⟨k, by rw [hm, Nat.mul_comm]⟩ cSp
    have k2 : Nat.Coprime m q := Nat.Coprime.coprime_dvd_left ⟨k, by rw [hm, Nat.mul_comm]⟩ cSq
    exact k1.mul_right (Nat.Coprime.mul_right cmr k2)
  obtain ⟨a1, a2⟩ := Ru (a := m) (b := p * (r * q)) (z := zs s n1 * (d2 : Int) + zs t n2 * (d1 : Int)) (Y := d1 * d2) cm (Nat.mul_ne_zero hp0 (Nat.mul_ne_zero hr0 hq0)) (Nat.mul_ne_zero h1 h2) (by
    rw [hZ, Int.natAbs_mul, Int.natAbs_natCast, hp, hq, hm]
    rw [hr]
    simp only [Nat.mul_assoc, Nat.mul_comm, Nat.mul_left_comm])
  refine ⟨a1, a2, ?_, hZ⟩
  rw [hZ, decide_eq_decide]
  have hgi : (0 : Int) < (g : Int) := by omega
  constructor
  · intro h; exact Int.mul_neg_of_neg_of_pos h hgi
  · intro h; exact Int.not_le.1 fun h5 => absurd (Int.mul_nonneg h5 (Int.le_of_lt hgi)) (by omega)
theorem Adx {s t : Bool} {n1 d1 n2 d2 : Nat} (c1 : Nat.gcd n1 d1 = 1) (c2 : Nat.gcd n2 d2 = 1) (h1 : d1 ≠ 0) (h2 : d2 ≠ 0) :
    n1 / Nat.gcd n1 d2 * (n2 / Nat.gcd n2 d1) = nn (zs s n1 * zs t n2) (d1 * d2) ∧ d1 / Nat.gcd n2 d1 * (d2 / Nat.gcd n1 d2) = dd (zs s n1 * zs t n2) (d1 * d2) := by
  have hg : 0 < Nat.gcd n1 d2 := Nat.gcd_pos_of_pos_right _ (Nat.pos_of_ne_zero h2)
  have hh : 0 < Nat.gcd n2 d1 := Nat.gcd_pos_of_pos_right _ (Nat.pos_of_ne_zero h1)
  obtain ⟨a, ha⟩ := Nat.gcd_dvd_left n1 d2
  obtain ⟨b, hb⟩ := Nat.gcd_dvd_right n1 d2
  obtain ⟨c, hc⟩ := Nat.gcd_dvd_left n2 d1
  obtain ⟨d, hd⟩ := Nat.gcd_dvd_right n2 d1
  have cab : Nat.gcd a b = 1 := by
    have := Nat.gcd_mul_left (Nat.gcd n1 d2) a b
    rw [← ha, ← hb] at this
    exact Nat.eq_of_mul_eq_mul_left hg (by omega)
  have ccd : Nat.gcd c d = 1 := by
    have := Nat.gcd_mul_left (Nat.gcd n2 d1) c d
    rw [← hc, ← hd] at this
    exact Nat.eq_of_mul_eq_mul_left hh (by omega)
  generalize Nat.gcd n1 d2 = g at *
  generalize Nat.gcd n2 d1 = h at *
  have ea : n1 / g = a := by rw [ha]; exact Nat.mul_div_cancel_left _ hg
  have eb : d2 / g = b := by rw [hb]; exact Nat.mul_div_cancel_left _ hg
  have ec : n2 / h = c := by rw [hc]; exact Nat.mul_div_cancel_left _ hh
  have ed : d1 / h = d := by rw [hd]; exact Nat.mul_div_cancel_left _ hh
  rw [ea, eb, ec, ed]
  have hb0 : b ≠ 0 := fun e => h2 (by rw [hb, e, Nat.mul_zero])
  have hd0 : d ≠ 0 := fun e => h1 (by rw [hd, e, Nat.mul_zero])
  have cad : Nat.Coprime a d := Nat.Coprime.coprime_dvd_left ⟨g, by rw [ha, Nat.mul_comm]⟩ (Nat.Coprime.coprime_dvd_right ⟨h, by rw [hd, Nat.mul_comm]⟩ c1)
  have ccb : Nat.Coprime c b := Nat.Coprime.coprime_dvd_left ⟨h, by rw [hc, Nat.mul_comm]⟩ (Nat.Coprime.coprime_dvd_right ⟨g, by rw [hb, Nat.mul_comm]⟩ c2)
  have k1 : Nat.Coprime a (d * b) := cad.mul_right cab
  have k2 : Nat.Coprime c (d * b) := Nat.Coprime.mul_right ccd ccb
  refine Ru (k1.mul_left k2) (Nat.mul_ne_zero hd0 hb0) (Nat.mul_ne_zero h1 h2) ?_
  rw [Int.natAbs_mul, H7, H7, ha, hc, hb, hd]
  simp only [Nat.mul_assoc, Nat.mul_comm, Nat.mul_left_comm]

theorem L3 (v : Int) : lm ((v.natAbs : Nat) : Int) = lm v := by unfold lm; rw [Int.natAbs_natCast]
theorem Yv {s : Bool} {n : Nat} : lm (zs s n) = lm (n : Int) := by unfold lm; rw [H7, Int.natAbs_natCast]
theorem E8 {s : Bool} {n : Nat} : Al (zs s n) = Al (n : Int) := by unfold Al; rw [H7, Int.natAbs_natCast]
theorem Et (v : Int) : Al ((v.natAbs : Nat) : Int) = Al v := by unfold Al; rw [Int.natAbs_natCast]
theorem Lj {s : Bool} {n : Nat} : sv s (lm (n : Int)) = zs s n := by unfold sv zs; rw [Qa, Int.natAbs_natCast]
theorem Rw.sv {s : Bool} {l : List Int} {x : Nat} (h : Rw l x) : sv s l = zs s x := by unfold Vc.sv zs; rw [h.v]
theorem Qe.low' {s : Bool} {x y : Nat} {z : Int} {Y : Nat} (h : Qe s x y z Y) : Qe (sgq s x) (rn0 x y) (rd0 x y) z Y := by
  have h1 := Qe.can z h.2.1
  rw [h.low.1, h.low.2, h.sgn]
  exact h1
theorem Qe.cop {s : Bool} {x y : Nat} {z : Int} {Y : Nat} (h : Qe s x y z Y) : Nat.gcd (rn0 x y) (rd0 x y) = 1 := Ks h.1
theorem Qe.d0 {s : Bool} {x y : Nat} {z : Int} {Y : Nat} (h : Qe s x y z Y) : rd0 x y ≠ 0 := Nat.pos_iff_ne_zero.1 (G7 h.1)
theorem Ae9 {s t : Bool} {x y x2 y2 : Nat} {z w : Int} {Y X : Nat} (q1 : Qe s x y z Y) (q2 : Qe t x2 y2 w X) {S : Int}
    (hS : S = zs (sgq s x) (rn0 x y) * ((rd0 x2 y2 / Nat.gcd (rd0 x y) (rd0 x2 y2) : Nat) : Int) + zs (sgq t x2) (rn0 x2 y2) * ((rd0 x y / Nat.gcd (rd0 x y) (rd0 x2 y2) : Nat) : Int)) :
    S.natAbs / Nat.gcd S.natAbs (Nat.gcd (rd0 x y) (rd0 x2 y2)) = nn (z * (X : Int) + w * (Y : Int)) (Y * X) ∧ rd0 x y / Nat.gcd (rd0 x y) (rd0 x2 y2) * (rd0 x2 y2 / Nat.gcd S.natAbs (Nat.gcd (rd0 x y) (rd0 x2 y2))) = dd (z * (X : Int) + w * (Y : Int)) (Y * X) ∧
    decide (S < 0) = decide (z * (X : Int) + w * (Y : Int) < 0) ∧ (S = 0 ↔ z * (X : Int) + w * (Y : Int) = 0) := by
  have h := Acs q1.cop q2.cop q1.d0 q2.d0 hS
  have l1 := q1.low'
  have l2 := q2.low'
  have k := l1.add l2
  have hd := Nat.mul_ne_zero q1.d0 q2.d0
  have hY := Nat.mul_ne_zero q1.2.1 q2.2.1
  have m := Rt hd hY k
  rw [← m.1, ← m.2.1, ← m.2.2]
  refine ⟨h.1, h.2.1, h.2.2.1, ?_⟩
  have hg : ((Nat.gcd (rd0 x y) (rd0 x2 y2) : Nat) : Int) ≠ 0 := by
    have := Dk (x := rd0 x y) q2.d0
    omega
  have e := h.2.2.2
  generalize zs (sgq s x) (rn0 x y) * ((rd0 x2 y2 : Nat) : Int) + zs (sgq t x2) (rn0 x2 y2) * ((rd0 x y : Nat) : Int) = A at *
  generalize z * (X : Int) + w * (Y : Int) = B at *
  have hd' : ((rd0 x y * rd0 x2 y2 : Nat) : Int) ≠ 0 := by omega
  have hY' : ((Y * X : Nat) : Int) ≠ 0 := by omega
  constructor
  · intro h0
    rw [h0, Int.zero_mul] at e
    rw [e, Int.zero_mul] at k
    rcases Int.mul_eq_zero.1 k.symm with h1 | h1
    · exact h1
    · exact absurd h1 hd'
  · intro h0
    rw [h0, Int.zero_mul] at k
    rcases Int.mul_eq_zero.1 k with h1 | h1
    · rw [h1] at e
      rcases Int.mul_eq_zero.1 e.symm with h2 | h2
      · exact h2
      · exact absurd h2 hg
    · exact absurd h1 hY'
theorem Ady {s t : Bool} {x y x2 y2 : Nat} {z w : Int} {Y X : Nat} (q1 : Qe s x y z Y) (q2 : Qe t x2 y2 w X) :
    rn0 x y / Nat.gcd (rn0 x y) (rd0 x2 y2) * (rn0 x2 y2 / Nat.gcd (rn0 x2 y2) (rd0 x y)) = nn (z * w) (Y * X) ∧ rd0 x y / Nat.gcd (rn0 x2 y2) (rd0 x y) * (rd0 x2 y2 / Nat.gcd (rn0 x y) (rd0 x2 y2)) = dd (z * w) (Y * X) := by
  have h := Adx (s := sgq s x) (t := sgq t x2) q1.cop q2.cop q1.d0 q2.d0
  have m := Rt (Nat.mul_ne_zero q1.d0 q2.d0) (Nat.mul_ne_zero q1.2.1 q2.2.1) (q1.low'.mul q2.low')
  rw [← m.1, ← m.2.1]
  exact h
theorem Qe.z0 {s : Bool} {x y : Nat} {z : Int} {Y : Nat} (h : Qe s x y z Y) : x = 0 ↔ z = 0 := by
  have := h.abs
  have h1 := h.1
  have h2 := h.2.1
  constructor
  · intro e
    rw [e, Nat.zero_mul] at this
    rcases Nat.mul_eq_zero.1 this.symm with h3 | h3
    · omega
    · omega
  · intro e
    rw [e] at this
    rw [Int.natAbs_zero, Nat.zero_mul] at this
    rcases Nat.mul_eq_zero.1 this with h3 | h3
    · exact h3
    · omega
theorem Adw {s t : Bool} {x y x2 y2 : Nat} {z w : Int} {Y X : Nat} (q1 : Qe s x y z Y) (q2 : Qe t x2 y2 w X) (h1 : x ≠ 0) (h2 : x2 ≠ 0) : (!(sgq s x == sgq t x2)) = decide (z * w < 0) := by
  rw [q1.sgn, q2.sgn]
  have hz : z ≠ 0 := fun e => h1 (q1.z0.2 e)
  have hw : w ≠ 0 := fun e => h2 (q2.z0.2 e)
  by_cases a : z < 0 <;> by_cases b : w < 0
  · have : 0 < z * w := Int.mul_pos_of_neg_of_neg a b
    rw [decide_eq_true a, decide_eq_true b, decide_eq_false (by omega)]; rfl
  · have : z * w < 0 := Int.mul_neg_of_neg_of_pos a (by omega)
    rw [decide_eq_true a, decide_eq_false b, decide_eq_true this]; rfl
  · have : z * w < 0 := Int.mul_neg_of_pos_of_neg (by omega) b
    rw [decide_eq_false a, decide_eq_true b, decide_eq_true this]; rfl
  · have : 0 < z * w := Int.mul_pos (by omega) (by omega)
    rw [decide_eq_false a, decide_eq_false b, decide_eq_false (by omega)]; rfl
theorem Aj6 {Y : Nat} : nn 0 Y = 0 := Adb
theorem Akj {Y : Nat} (h : Y ≠ 0) : dd 0 Y = 1 := Agw h
def cN (a b c d : Nat) : Int := C1 ((a * d : Nat) : Int) ((c * b : Nat) : Int)
theorem Z3 {x y : Int} : C1 y x = -C1 x y := by unfold C1; (repeat' split) <;> omega
theorem Z4 {x y k : Int} : C1 (x + k) (y + k) = C1 x y := by unfold C1; (repeat' split) <;> omega
theorem Mb {x y : Int} (h : x < y) : C1 x y = -1 := by unfold C1; rw [if_pos h]
theorem Ma {x y : Int} (h : y < x) : C1 x y = 1 := by unfold C1; rw [if_neg (by omega), if_pos h]
theorem Amb {a b c d : Nat} (hb : b ≠ 0) (hd : d ≠ 0) (h : a / b ≠ c / d) : C1 ((a / b : Nat) : Int) ((c / d : Nat) : Int) = cN a b c d := by
  have key : ∀ a b c d : Nat, b ≠ 0 → d ≠ 0 → a / b < c / d → a * d < c * b := fun a b c d hb hd hlt => by
    have h1 : a < b * (a / b + 1) := by
      have := Nat.lt_mul_div_succ a (Nat.pos_of_ne_zero hb)
      exact this
    have h2 : d * (c / d) ≤ c := Nat.mul_div_le c d
    have h3 : a / b + 1 ≤ c / d := hlt
    calc a * d < b * (a / b + 1) * d := Nat.mul_lt_mul_of_pos_right h1 (Nat.pos_of_ne_zero hd)
      _ ≤ b * (c / d) * d := Nat.mul_le_mul_right _ (Nat.mul_le_mul_left _ h3)
      _ = (d * (c / d)) * b := by rw [Nat.mul_assoc, Nat.mul_comm b, Nat.mul_comm (c / d)]
      _ ≤ c * b := Nat.mul_le_mul_right _ h2
  unfold cN
  rcases Nat.lt_or_gt_of_ne h with h1 | h1
  · rw [Mb (by omega), Mb (by have := key a b c d hb hd h1; omega)]
  · rw [Ma (by omega), Ma (by have := key c d a b hd hb h1; omega)]
theorem Alf {a b c d : Nat} (h : a / b = c / d) : cN a b c d = C1 ((a % b * d : Nat) : Int) ((c % d * b : Nat) : Int) := by
  unfold cN
  have h1 : a * d = a % b * d + b * (a / b) * d := by rw [← Nat.add_mul, Nat.mod_add_div]
  have h2 : c * b = c % d * b + b * (a / b) * d := by
    rw [h, show b * (c / d) * d = d * (c / d) * b by rw [Nat.mul_assoc, Nat.mul_comm b, Nat.mul_comm (c / d)], ← Nat.add_mul, Nat.mod_add_div]
  rw [h1, h2, Int.natCast_add, Int.natCast_add, Z4]
theorem Alg {a b c d : Nat} (h : a / b = c / d) : cN b (a % b) d (c % d) = -cN a b c d := by
  rw [Alf h, ← Z3]
  unfold cN
  rw [Nat.mul_comm b, Nat.mul_comm d]
theorem Ama {a b c d : Nat} (hb : b ≠ 0) (hd : d ≠ 0) (h : a / b = c / d) : (a % b = 0 → c % d = 0 → cN a b c d = 0) ∧ (a % b = 0 → c % d ≠ 0 → cN a b c d = -1) ∧ (a % b ≠ 0 → c % d = 0 → cN a b c d = 1) := by
  rw [Alf h]
  refine ⟨fun e1 e2 => ?_, fun e1 e2 => ?_, fun e1 e2 => ?_⟩
  · rw [e1, e2, Nat.zero_mul, Nat.zero_mul]; rfl
  · rw [e1, Nat.zero_mul]
    have := Nat.mul_pos (Nat.pos_of_ne_zero e2) (Nat.pos_of_ne_zero hb)
    exact Mb (by omega)
  · rw [e2, Nat.zero_mul]
    have := Nat.mul_pos (Nat.pos_of_ne_zero e1) (Nat.pos_of_ne_zero hd)
    exact Ma (by omega)
theorem Aky {s : Bool} {n : Nat} (h : zs s n < 0) : zs s n = -(n : Int) := by cases s <;> simp [zs] at h ⊢ <;> omega
theorem Akx {s : Bool} {n : Nat} (h : 0 < zs s n) : zs s n = (n : Int) := by cases s <;> simp [zs] at h ⊢ <;> omega
theorem Akm {s t : Bool} {x y x2 y2 : Nat} (hy : y ≠ 0) (hy2 : y2 ≠ 0) : C1 (zs s x * (y2 : Int)) (zs t x2 * (y : Int)) = if C8 (zs s x) ≠ C8 (zs t x2) then (if C8 (zs s x) < C8 (zs t x2) then -1 else 1) else C8 (zs s x) * cN x y x2 y2 := by
  have p1 : (0 : Int) < (y : Int) := by omega
  have p2 : (0 : Int) < (y2 : Int) := by omega
  have a1 : ∀ (v : Int) (k : Int), 0 < k → (v < 0 ∧ v * k < 0) ∨ (v = 0 ∧ v * k = 0) ∨ (0 < v ∧ 0 < v * k) := fun v k hk => by
    rcases Int.lt_trichotomy v 0 with h | h | h
    · exact .inl ⟨h, Int.mul_neg_of_neg_of_pos h hk⟩
    · exact .inr (.inl ⟨h, by rw [h, Int.zero_mul]⟩)
    · exact .inr (.inr ⟨h, Int.mul_pos h hk⟩)
  have b1 := a1 (zs s x) (y2 : Int) p2
  have b2 := a1 (zs t x2) (y : Int) p1
  have c1 := N8 (x := zs s x)
  have c2 := N8 (x := zs t x2)
  by_cases e : C8 (zs s x) = C8 (zs t x2)
  · rw [if_neg (not_not_intro e)]
    unfold cN
    rcases c1 with ⟨h1, h2⟩ | ⟨h1, h2⟩ | ⟨h1, h2⟩
    · have h3 : zs t x2 < 0 := by omega
      have e1 : zs s x = -(x : Int) := Aky h1
      have e2 : zs t x2 = -(x2 : Int) := Aky h3
      rw [h2, e1, e2, Int.neg_mul, Int.neg_mul, Int.natCast_mul, Int.natCast_mul]
      generalize (x : Int) * (y2 : Int) = A
      generalize (x2 : Int) * (y : Int) = B
      unfold C1
      (repeat' split) <;> omega
    · have h3 : zs t x2 = 0 := by omega
      rw [h2, h1, h3, Int.zero_mul, Int.zero_mul, Int.zero_mul]; rfl
    · have h3 : 0 < zs t x2 := by omega
      have e1 : zs s x = (x : Int) := Akx h1
      have e2 : zs t x2 = (x2 : Int) := Akx h3
      rw [h2, e1, e2, Int.one_mul, Int.natCast_mul, Int.natCast_mul]
  · rw [if_pos e]
    by_cases hlt : C8 (zs s x) < C8 (zs t x2)
    · rw [if_pos hlt]; exact Mb (by omega)
    · rw [if_neg hlt]; exact Ma (by omega)
theorem Akl {A B : Int} {p q : Nat} {z w : Int} {Y X : Nat} (hp : p ≠ 0) (hq : q ≠ 0) (hY : Y ≠ 0) (hX : X ≠ 0) (h1 : A * (Y : Int) = z * (p : Int)) (h2 : B * (X : Int) = w * (q : Int)) : C1 (A * (q : Int)) (B * (p : Int)) = C1 (z * (X : Int)) (w * (Y : Int)) := by
  have key : ∀ (u v k : Int), 0 < k → C1 (u * k) (v * k) = C1 u v := fun u v k hk => by
    rcases Int.lt_trichotomy u v with h | h | h
    · rw [Mb h, Mb (Int.mul_lt_mul_of_pos_right h hk)]
    · rw [h, Ht.2 rfl, Ht.2 rfl]
    · rw [Ma h, Ma (Int.mul_lt_mul_of_pos_right h hk)]
  have pp : (0 : Int) < ((Y : Int) * (X : Int)) := Int.mul_pos (by omega) (by omega)
  have pq : (0 : Int) < ((p : Int) * (q : Int)) := Int.mul_pos (by omega) (by omega)
  rw [← key _ _ _ pp, ← key (z * (X : Int)) _ _ pq]
  congr 1
  · calc A * (q : Int) * ((Y : Int) * (X : Int)) = (A * (Y : Int)) * ((q : Int) * (X : Int)) := by simp only [Int.mul_assoc, Int.mul_comm, Int.mul_left_comm]
      _ = _ := by rw [h1]; simp only [Int.mul_assoc, Int.mul_comm, Int.mul_left_comm]
  · calc B * (p : Int) * ((Y : Int) * (X : Int)) = (B * (X : Int)) * ((p : Int) * (Y : Int)) := by simp only [Int.mul_assoc, Int.mul_comm, Int.mul_left_comm]
      _ = _ := by rw [h2]; simp only [Int.mul_assoc, Int.mul_comm, Int.mul_left_comm]

theorem Ak7 {z : Int} {Y : Nat} : Al ((nn z Y : Nat) : Int) ≤ Al z := by rw [← Et z]; exact Cn Rg
theorem Ale {z : Int} {Y : Nat} : Al ((dd z Y : Nat) : Int) ≤ Al (Y : Int) := Cn Rm
theorem Ab3 {a b c d : Nat} : -1 ≤ cN a b c d ∧ cN a b c d ≤ 1 := Si
theorem Qe.inv {s : Bool} {x y : Nat} {z : Int} {Y : Nat} (h : Qe s x y z Y) (hx : x ≠ 0) : Qe s y x (zs (decide (z < 0)) Y) z.natAbs := by
  have hz : z ≠ 0 := fun e => hx (h.z0.2 e)
  refine ⟨hx, by omega, ?_⟩
  have h1 := h.abs
  have h2 := h.sgn
  rw [Sy hx] at h2
  rw [← h2, ← Tk, ← Tk, Nat.mul_comm Y x, h1, Nat.mul_comm]
structure Qr (s : Bool) (l d : List Int) (x y : Nat) (z : Int) (Y b : Nat) : Prop where
  hx : Rw l x
  hy : Rw d y
  q : Qe s x y z Y
  bx : Al (x : Int) ≤ b
  bd : Al (y : Int) ≤ b
  bz : Al z ≤ b
  bY : Al (Y : Int) ≤ b
theorem Qr.can {z : Int} {Y b : Nat} (h0 : Y ≠ 0) (h1 : Al z ≤ b) (h2 : Al (Y : Int) ≤ b) (hb : b ≤ 67108864) : Qr (decide (z < 0)) (lm ((nn z Y : Nat) : Int)) (lm ((dd z Y : Nat) : Int)) (nn z Y) (dd z Y) z Y b :=
  ⟨Rw.of (Nat.le_trans Ak7 (Nat.le_trans h1 hb)), Rw.of (Nat.le_trans Ale (Nat.le_trans h2 hb)), Qe.can z h0, Nat.le_trans Ak7 h1, Nat.le_trans Ale h2, h1, h2⟩
variable {s t : Bool} {l d l2 d2 : List Int} {x y x2 y2 : Nat} {z w : Int} {Y X b c : Nat}
theorem Qr.add (h1 : Qr s l d x y z Y b) (h2 : Qr t l2 d2 x2 y2 w X c) (hb : b + c + 1 ≤ 67108864) {Z : Int} {W : Nat} (eZ : Z = z * (X : Int) + w * (Y : Int)) (eW : W = Y * X) :
    Qr (decide (Z < 0)) (lm ((nn Z W : Nat) : Int)) (lm ((dd Z W : Nat) : Int)) (nn Z W) (dd Z W) Z W (b + c + 1) := by
  subst eZ eW
  have b1 := h1.bz
  have b2 := h1.bY
  have b3 := h2.bz
  have b4 := h2.bY
  refine Qr.can (Nat.mul_ne_zero h1.q.2.1 h2.q.2.1) ?_ ?_ hb
  · have h8 := Ej z (X : Int)
    have h9 := Ej w (Y : Int)
    have h7 := Iq (z * (X : Int)) (w * (Y : Int))
    omega
  · rw [Int.natCast_mul]
    have h8 := Ej (Y : Int) (X : Int)
    omega
theorem Qr.mul (h1 : Qr s l d x y z Y b) (h2 : Qr t l2 d2 x2 y2 w X c) (hb : b + c + 1 ≤ 67108864) {Z : Int} {W : Nat} (eZ : Z = z * w) (eW : W = Y * X) :
    Qr (decide (Z < 0)) (lm ((nn Z W : Nat) : Int)) (lm ((dd Z W : Nat) : Int)) (nn Z W) (dd Z W) Z W (b + c + 1) := by
  subst eZ eW
  have b1 := h1.bz
  have b2 := h1.bY
  have b3 := h2.bz
  have b4 := h2.bY
  refine Qr.can (Nat.mul_ne_zero h1.q.2.1 h2.q.2.1) ?_ ?_ hb
  · have h8 := Ej z w
    omega
  · rw [Int.natCast_mul]
    have h8 := Ej (Y : Int) (X : Int)
    omega
theorem Qr.quo (h1 : Qr s l d x y z Y b) (h2 : Qr t l2 d2 x2 y2 w X c) (hb : b + c + 1 ≤ 67108864) (hx2 : x2 ≠ 0) {Z : Int} {W : Nat} (eZ : Z = z * zs (decide (w < 0)) X) (eW : W = Y * w.natAbs) :
    Qr (decide (Z < 0)) (lm ((nn Z W : Nat) : Int)) (lm ((dd Z W : Nat) : Int)) (nn Z W) (dd Z W) Z W (b + c + 1) := by
  subst eZ eW
  have b1 := h1.bz
  have b2 := h1.bY
  have b3 := h2.bz
  have b4 := h2.bY
  have hw : w ≠ 0 := fun e => hx2 (h2.q.z0.2 e)
  refine Qr.can (Nat.mul_ne_zero h1.q.2.1 (by omega)) ?_ ?_ hb
  · have h8 := Ej z (zs (decide (w < 0)) X)
    rw [E8] at h8
    omega
  · rw [Int.natCast_mul]
    have h8 := Ej (Y : Int) ((w.natAbs : Nat) : Int)
    rw [Et] at h8
    omega
theorem Qr.neg (h : Qr s l d x y z Y b) (hb : b ≤ 67108864) : Qr (decide (-z < 0)) (lm ((nn (-z) Y : Nat) : Int)) (lm ((dd (-z) Y : Nat) : Int)) (nn (-z) Y) (dd (-z) Y) (-z) Y b :=
  Qr.can h.q.2.1 (by have := h.bz; rwa [show Al (-z) = Al z by unfold Al; rw [Int.natAbs_neg]]) h.bY hb
theorem Qr.low (h : Qr s l d x y z Y b) (hb : b ≤ 67108864) : Qr (decide (z < 0)) (lm ((nn z Y : Nat) : Int)) (lm ((dd z Y : Nat) : Int)) (nn z Y) (dd z Y) z Y b := Qr.can h.q.2.1 h.bz h.bY hb
def okR (r : Bool × List Int × List Int) : Prop := vl r.2.2 ≠ 0 ∧ Al (vl r.2.2) ≤ 1048576 ∧ Al (vl r.2.1) ≤ 1048576
instance (r : Bool × List Int × List Int) : Decidable (okR r) := by unfold okR; exact inferInstance
def Lq (rs : List (Bool × List Int × List Int)) : Bool := rs.all fun r => decide (okR r)
theorem Jw {rs : List (Bool × List Int × List Int)} {i : Nat} (hi : i < rs.length) (h : ¬ okR (Di rs i)) : Lq rs = false := by
  refine Bool.eq_false_iff.2 fun h1 => h ?_
  have h2 := List.all_eq_true.1 h1 _ (List.getElem_mem hi)
  unfold Di
  rw [List.getD_eq_getElem?_getD, List.getElem?_eq_getElem hi]
  exact of_decide_eq_true h2
theorem Jv {rs : List (Bool × List Int × List Int)} (h : ∀ j < rs.length, okR (Di rs j)) : Lq rs = true := by
  refine List.all_eq_true.2 fun r hr => decide_eq_true ?_
  obtain ⟨j, hj, rfl⟩ := List.getElem_of_mem hr
  have h2 := h j hj
  unfold Di at h2
  rwa [List.getD_eq_getElem?_getD, List.getElem?_eq_getElem hj] at h2
theorem Yh {rs : List (Bool × List Int × List Int)} {i : Nat} (hi : i < rs.length) {p : Bool × List Int × List Int → Prop} (h : ∀ r ∈ rs, p r) : p (Di rs i) := by
  unfold Di
  rw [List.getD_eq_getElem?_getD, List.getElem?_eq_getElem hi]
  exact h _ (List.getElem_mem hi)
end Go.Proofs.YtnadmljoefecfaaGreatDoor.Vc

namespace Go.Proofs.YtnadmljoefecfaaGreatDoor.Vc
open Go Go.RowKit
theorem Afr (b : Nat) (hb : 2 ≤ b) (hb2 : b ≤ 36) : Spec Tryz.prog 141 [.i .i64 (b : Int)] (fun o => ∃ n : Nat, o = .ret (.t [.i .u64 ((b ^ n : Nat) : Int), .i .i64 (n : Int)]) ∧ 1 ≤ n ∧ n ≤ 63 ∧ b ^ n ≤ 9223372036854775808) := by
  refine Aw [(0, .i .i64 (b : Int))] rfl Tryz.func141 rfl (Zb rfl) fun Γ hN hds hL hR => ?_
  have hd := B2 19 hN
  refine Zs <| Za rfl (hd 2 rfl) <| Za rfl (hd 3 rfl) <| Ab <| Zs <| Za rfl (hd 4 rfl) <| Za rfl (hd 5 rfl) <| Ab <| Ae <| At ?_
  refine Ch (G := Nat × Nat) (fun g => g.2 = b ^ g.1 ∧ 2 ^ g.1 ≤ g.2 ∧ g.2 ≤ 9223372036854775808 ∧ g.1 ≤ 63) (fun g => [(4, .i .u64 (g.2 : Int)), (5, .i .i64 (g.1 : Int)), (6, .u), (7, .u), (8, .u), (9, .u), (10, .u), (11, .u), (12, .u), (13, .u), (14, .u), (15, .u), (16, .u)]) (fun _ => _) (fun g => 64 - g.1) (0, 1) ?_ ?_ rfl ?_
  · exact ⟨rfl, Nat.le_refl _, by decide, by decide⟩
  · exact (.cons rfl (.cons rfl (.v9 (.u .nil))))
  · rintro ⟨n, p⟩ ⟨hc1, hc2, hc3, hc4⟩
    dsimp only at hc1 hc2 hc3 hc4
    refine Ae <| Zs <| Zm rfl (hd 6 rfl) <| Zm rfl (hd 7 rfl) <| Ac (D5 N5 Li rfl (r := (b : Int)) (Bf (by omega) (by omega))) (hd 8 rfl) <| Ac (Gc rfl rfl (by omega) (r := ((9223372036854775808 / b : Nat) : Int)) (by rw [show ((9223372036854775808 : Int).tdiv (b : Int)) = ((9223372036854775808 / b : Nat) : Int) from rfl]; exact Bf (Int.natCast_nonneg _) (by have := Nat.div_le_self 9223372036854775808 b; generalize 9223372036854775808 / b = q at *; omega))) (hd 9 rfl) <| Ac (Jq rfl rfl) (hd 10 rfl) <| Ab ?_
    refine Bh rfl (fun h1 => ?_) (fun h1 => ?_)
    · obtain ⟨hs1, hs2, hs3⟩ := Aft hb hc1 hc2 (by omega : p ≤ 9223372036854775808 / b)
      refine Aj <| At <| Zs <| Zm rfl (hd 11 rfl) <| Zm rfl (hd 12 rfl) <| Ac (D5 N5 Li rfl (r := (b : Int)) (Bf (by omega) (by omega))) (hd 13 rfl) <| Ac (Dw rfl rfl (r := ((p * b : Nat) : Int)) (by dsimp only; rw [← Int.natCast_mul]; exact Bf (by omega) (by omega))) (hd 14 rfl) <| Za rfl (hd 4 rfl) <| Ab <| Af <| Zm rfl (hd 15 rfl) <| Ac (Bd rfl rfl (r := ((n + 1 : Nat) : Int)) (by rw [Ak (by omega) (by omega)]; omega)) (hd 16 rfl) ?_; refine Za rfl (hd 5 rfl) <| Ab ?_
      refine ⟨(n + 1, p * b), ?_, ?_, rfl, Bj 26 rfl rfl ?_⟩
      · exact ⟨hs1, hs2, hs3, w63 hs2 hs3⟩
      · show 64 - (n + 1) < 64 - n
        omega
      · exact (.cons rfl (.cons rfl (.v9 (.u .nil))))
    · have hn1 := Afu hb hb2 hc1 (by omega : ¬ p ≤ 9223372036854775808 / b)
      refine Br <| Zs <| Zm rfl (hd 17 rfl) <| Zm rfl (hd 18 rfl) <| Za rfl (hd 2 rfl) <| Za rfl (hd 3 rfl) <| Ab <| An ?_
      refine ⟨_, _, (.cons rfl (.cons rfl .nil)), (.t1 .i (.t1 .i .t0)), ?_⟩
      exact ⟨n, by rw [hc1], hn1, hc4, by omega⟩

theorem W8 (l : List Int) (d : Int) (hl : l.length < 1073741824) (hu : Av l) (hd0 : 0 < d) (hd1 : d < 18446744073709551616) (hf : Dn l ≤ 67108864) : Spec Tryz.prog 142 [.n false .u64 l, .i .u64 d] (fun o => o = .ret (.t [.n false .u64 (lm (vl l / d)), .i .u64 (vl l % d), .i .i64 0])) := by
  refine Aw [(0, .n false .u64 l), (1, .i .u64 d)] rfl Tryz.func142 rfl (Zb rfl) fun Γ hN hds hL hR => ?_
  have hd := B2 48 hN
  have hm := Cy l
  have uT := A8 hu
  have hde := Abv (d := d) uT hd0
  rw [D7] at hde
  have hv0 := A4 hu
  have hq : (vl l / d).natAbs ≤ (vl l).natAbs := by have := Int.ediv_nonneg hv0 (show 0 ≤ d by omega); have := Int.ediv_le_self d hv0; omega
  have hfq : Al (vl l / d) ≤ 67108864 := Nat.le_trans (B7 hq) (by rw [← Fd hu rfl]; exact hf)
  refine Zs <| Za rfl (hd 4 rfl) <| Za rfl (hd 5 rfl) <| Za rfl (hd 6 rfl) <| Ab <| Ae <| Zs <| Zm rfl (hd 11 rfl) <| Ac (B0 (Cq rfl rfl) (by omega)) (hd 12 rfl) <| Ab <| A6 rfl ?_; refine Aj <| Zs <| Zm rfl (hd 13 rfl) ?_
  refine Ag Tryz.f72 (Ey l (by omega)) rfl Tryz.func72 rfl rfl (Aa rfl Ad) (.cons .n .nil) (hd 14 rfl) ?_ (fun _ h => by simp at h)
  rintro _ ⟨⟩; refine Za rfl (hd 0 rfl) <| Ab <| Zs <| Zm rfl (hd 15 rfl) <| Ac (Ar A7 rfl) (hd 16 rfl) <| A1 (Gv (m := (trm l).length) Lg rfl rfl rfl (by show 8 * (trm l).length ≤ _; omega) (by unfold maxLen; omega) rfl) (hd 17 rfl) <| Za rfl (hd 7 rfl) <| Ab <| Zs <| Za rfl (hd 8 rfl) <| Ab ?_; refine Ae <| Zs <| Zm rfl (hd 18 rfl) <| Ac (Ar A7 rfl) (hd 19 rfl) <| Ac (Bm rfl rfl (Ak (by omega) (by omega))) (hd 20 rfl) <| Za rfl (hd 9 rfl) <| Ab <| At <| Nv (H' := [⟨71, 1, 0, true, ints .u64 (List.replicate (trm l).length 0 ++ (dvN (trm l) d ((trm l).length - (trm l).length)).1)⟩]) (by rw [Nat.sub_self]; show _ = [(⟨71, 1, 0, true, ints .u64 (List.replicate (trm l).length 0 ++ [])⟩ : Ob)]; rw [List.append_nil]; rfl) ?_
  refine Ch (G := Nat) (fun k => k ≤ (trm l).length) (fun k => [(8, .i .u64 (dvN (trm l) d ((trm l).length - k)).2), (9, .i .i64 ((k : Int) - 1)), (21, .u), (22, .u), (23, .u), (24, .u), (25, .u), (26, .u), (27, .u), (28, .u), (29, .u), (30, .u), (31, .u), (32, .u), (33, .u), (34, .u), (35, .u), (36, .u), (37, .u)]) (fun k => [⟨71, 1, 0, true, ints .u64 (List.replicate k 0 ++ (dvN (trm l) d ((trm l).length - k)).1)⟩]) (fun k => k) (trm l).length ?_ ?_ rfl ?_
  · exact Nat.le_refl _
  · exact (.cons (by show some (V.i .u64 0) = some (V.i .u64 (dvN (trm l) d ((trm l).length - (trm l).length)).2); rw [Nat.sub_self]; rfl) (.cons rfl (.v9 (.v5 (.u (.u .nil))))))
  · rintro k hc1
    have hr := Zq (a := trm l) hd0 ((trm l).length - k)
    have hx := A2 uT (k - 1)
    refine Ae <| Zs <| Zm rfl (hd 21 rfl) <| Ac (F6 rfl rfl) (hd 22 rfl) <| Ab ?_
    refine Bh rfl (fun h2 => ?_) (fun h2 => ?_)
    · refine Aj <| Ae <| At <| Af <| Zm rfl (hd 26 rfl) <| Zm rfl (hd 27 rfl) <| Zm rfl (hd 28 rfl) <| Zm rfl (hd 29 rfl) <| Zm rfl (hd 30 rfl) <| Ac (Cc (i := k - 1) A7 rfl rfl (by omega) (by omega)) (hd 31 rfl) <| Ac (B8 Bu rfl rfl) (hd 32 rfl) <| Zm rfl (hd 33 rfl) ?_
      refine Ag Tryz.f126 (Qy (dvN (trm l) d ((trm l).length - k)).2 ((trm l).getD (k - 1) 0) d hr.1 hr.2 hx.1 hx.2 hd1) rfl Tryz.func126 rfl rfl (Aa rfl (Aa rfl (Aa rfl Ad))) (.cons .i (.cons .i (.cons .i .nil))) (hd 34 rfl) ?_ (fun _ h => by simp at h)
      rintro _ ⟨⟩; refine Zm rfl (hd 25 rfl) <| Ac (Ai rfl rfl) (hd 35 rfl) <| Ac (Ai rfl rfl) (hd 36 rfl) <| Ac (Ck (i := k - 1) A7 rfl rfl rfl (by omega) (by omega) rfl) (hd 37 rfl) <| A3 (Cf rfl rfl rfl Bu (by simp only [List.length_append, List.length_replicate, Gw]; omega)) <| Za rfl (hd 8 rfl) <| Ab <| Af <| Zm rfl (hd 23 rfl) <| Ac (Bm rfl rfl (Ak (by omega) (by omega))) (hd 24 rfl) <| Za rfl (hd 9 rfl) <| Ab ?_
      refine ⟨k - 1, ?_, ?_, (by show [(⟨71, 1, 0, true, ints .u64 _⟩ : Ob)] = [⟨71, 1, 0, true, ints .u64 _⟩]; rw [V8 (by omega), Ng (by omega) hc1]), Bj 38 rfl rfl ?_⟩
      · omega
      · omega
      · exact (.cons (by show some (V.i .u64 _) = some (V.i .u64 _); rw [Ng (by omega) hc1]) (.cons (by show some (V.i .i64 _) = some (V.i .i64 _); congr 2; omega) (.v9 (.v5 (.u (.u .nil))))))
    · obtain rfl : k = 0 := by omega
      refine Br <| Ae <| Jm (k := .u64) (l := List.replicate 0 0 ++ (dvN (trm l) d ((trm l).length - 0)).1) (l' := (dvN (trm l) d (trm l).length).1) 7 rfl rfl (by simp [Gw]) (by rw [Nat.sub_zero, List.drop_zero]; show List.take _ (dvN (trm l) d (trm l).length).1 = _; rw [List.take_of_length_le (by rw [Gw]; exact Nat.le_refl _)]) hL <| Af <| Zm rfl (hd 39 rfl) ?_
      refine Ag Tryz.f75 (Mr (dvN (trm l) d (trm l).length).1 (by rw [Gw]; omega) (Aeu uT hd0 _) (by rw [hde.1, K7]; exact hfq)) rfl Tryz.func75 rfl rfl (Aa rfl Ad) (.cons .n .nil) (hd 40 rfl) ?_ (fun _ h => by simp at h)
      rintro _ ⟨⟩; refine Zm rfl (hd 38 rfl) <| Ac (Ai rfl rfl) (hd 41 rfl) <| Ac (Ai rfl rfl) (hd 42 rfl) <| Za rfl (hd 7 rfl) <| Za rfl (hd 10 rfl) <| Ab <| Ae <| Zs <| Zm rfl (hd 43 rfl) <| Ac (B0 (Ec rfl rfl) (by decide)) (hd 44 rfl) <| Ab <| A6 rfl ?_; refine Aj <| Zs <| Zm rfl (hd 46 rfl) <| Zm rfl (hd 47 rfl) <| Za rfl (hd 4 rfl) <| Za rfl (hd 5 rfl) <| Za rfl (hd 6 rfl) <| Ab <| An ?_
      refine ⟨_, _, (.cons rfl (.cons rfl (.cons rfl .nil))), (.t1 .nn (.t1 .i (.t1 .i .t0))), ?_⟩
      rw [Nat.sub_zero, hde.1, hde.2]

theorem Nj (l : List Int) (b m : Nat) (hl : l.length ≤ 1048576) (hu : Av l) (hb : 2 ≤ b) (hb2 : b ≤ 36) (hm : m ≤ 1099511627776) : SpecM Tryz.prog 131 [.n false .u64 l, .i .i64 (b : Int), .i .i64 (m : Int)] [] (fun o G => o = .ret (.o 0 0 0 (hdg b m (vl l).toNat).length) ∧ G = [⟨3, 1, 0, true, ints .i64 (hdg b m (vl l).toNat)⟩]) := by
  refine Ei [(0, .n false .u64 l), (1, .i .i64 (b : Int)), (2, .i .i64 (m : Int))] rfl Tryz.func131 rfl (Zb rfl) fun Γ hN hds hL hR => ?_
  have hd := B2 102 hN
  have hlenl := I9 l
  have hv0 := A4 hu
  refine Zs <| Za rfl (hd 6 rfl) <| Ab <| Zs <| Za rfl (hd 7 rfl) <| Ab <| Ae <| Vs (id := 0) 7 3 1 rfl rfl <| Af <| Zm rfl (hd 17 rfl) ?_
  refine Ag Tryz.f141 (Afr b hb hb2) rfl Tryz.func141 rfl rfl (Aa rfl Ad) (.cons .i .nil) (hd 18 rfl) ?_ (fun _ h => by simp at h)
  rintro y ⟨n, hy, hn1, hn2, hn3⟩; injection hy with hy; subst hy; refine Zm rfl (hd 16 rfl) <| Ac (Ai rfl rfl) (hd 19 rfl) <| Ac (Ai rfl rfl) (hd 20 rfl) <| Za rfl (hd 8 rfl) <| Za rfl (hd 9 rfl) <| Ab <| Ae <| At ?_
  refine Fy (G := List Int × Nat × List Int × List Int) 1 (fun g => Av g.1 ∧ g.1.length ≤ 1048576 ∧ rng b g.2.2.1 ∧ vb b g.2.2.1 + (b : Int) ^ g.2.2.1.length * vl g.1 = vl l ∧ g.2.2.1.length ≤ 67108928 ∧ g.2.2.1.length ≤ g.2.2.2.length ∧ g.2.2.2.take g.2.2.1.length = g.2.2.1) (fun g => [(0, .n false .u64 g.1), (7, .o 0 g.2.1 0 g.2.2.1.length), (10, .u), (11, .u), (12, .u), (21, .u), (22, .u), (23, .u), (24, .u), (25, .u), (26, .u), (27, .u), (28, .u), (29, .u), (30, .u), (31, .u), (32, .u), (33, .u), (34, .u), (35, .u), (36, .u), (37, .u), (38, .u), (39, .u), (40, .u), (41, .u), (42, .u), (43, .u), (44, .u), (45, .u), (46, .u), (47, .u), (48, .u), (49, .u), (50, .u), (51, .u), (52, .u), (53, .u), (54, .u), (55, .u), (56, .u), (57, .u)]) (fun g => [⟨3, 1, g.2.1, true, ints .i64 g.2.2.2⟩]) (fun g => (vl g.1).toNat) (l, 0, [], []) ?_ ?_ rfl hR rfl (fun _ _ => rfl) (fun g _ => .cons Bc .nil) ?_
  · exact ⟨hu, hl, (fun x hx => by simp at hx), by simp [vb], Nat.zero_le _, Nat.le_refl _, rfl⟩
  · exact (.cons rfl (.cons rfl (.v9 (.v9 (.v9 (.v9 .nil))))))
  · rintro ⟨A, ver, acc, C⟩ ⟨uA, hA, hr, hI, hal, hC1, hC2⟩
    dsimp only at uA hA hr hI hal hC1 hC2
    have hlA := I9 A
    have hvA := A4 uA
    refine Ae <| Zs <| Zm rfl (hd 21 rfl) ?_
    refine Ag Tryz.f30 (Dl A (by omega) uA) rfl Tryz.func30 rfl rfl (Aa rfl Ad) (.cons .n .nil) (hd 22 rfl) ?_ (fun _ h => by simp at h)
    rintro _ ⟨⟩; refine Ac (Ce rfl rfl) (hd 23 rfl) <| Ab ?_
    refine Bh rfl (fun h1 => ?_) (fun h1 => ?_)
    · have hvp : 0 < vl A := by
        rcases Int.lt_or_le 0 (vl A) with h | h
        · exact h
        · have h2 := (Ir uA).2 (by omega)
          omega
      have hcap := Ah7 (L := 1048576) hb hr hvp hu hl hI
      have hbn : (0 : Int) < ((b ^ n : Nat) : Int) := by exact_mod_cast Nat.pow_pos (by omega)
      have hbn2 : ((b ^ n : Nat) : Int) ≤ 9223372036854775808 := by omega
      have hq0 : 0 ≤ vl A / ((b ^ n : Nat) : Int) := Int.ediv_nonneg hvA (by omega)
      have hrl : vl A % ((b ^ n : Nat) : Int) < 18446744073709551616 := by have := Int.emod_lt_of_pos (vl A) hbn; omega
      have hfA : Al (vl A) ≤ 67108864 := by rw [← Fd uA rfl]; omega
      have hlq : (lm (vl A / ((b ^ n : Nat) : Int))).length ≤ 1048576 := Bv (Nat.le_trans (B7 (w := vl A) (by have := Int.ediv_le_self ((b ^ n : Nat) : Int) hvA; omega)) hfA)
      refine Aj <| At <| Zs <| Zm rfl (hd 25 rfl) <| Zm rfl (hd 26 rfl) ?_
      refine Ag Tryz.f142 (W8 A ((b ^ n : Nat) : Int) (by omega) uA hbn (by omega) (by omega)) rfl Tryz.func142 rfl rfl (Aa rfl (Aa rfl Ad)) (.cons .n (.cons .i .nil)) (hd 27 rfl) ?_ (fun _ h => by simp at h)
      rintro _ ⟨⟩; refine Zm rfl (hd 24 rfl) <| Ac (Ai rfl rfl) (hd 28 rfl) <| Ac (Ai rfl rfl) (hd 29 rfl) <| Ac (Ai rfl rfl) (hd 30 rfl) <| Za rfl (hd 10 rfl) <| Za rfl (hd 11 rfl) <| Za rfl (hd 12 rfl) <| Ab <| Ae <| Zs <| Zm rfl (hd 31 rfl) <| Ac (B0 (Ec rfl rfl) (by decide)) (hd 32 rfl) ?_; refine Ab <| A6 rfl <| Aj <| Ae <| Zs <| Zm rfl (hd 41 rfl) <| Zm rfl (hd 42 rfl) <| Ab <| At ?_
      refine Fy (G := Nat × Nat × List Int × List Int × Int) 1 (fun g => g.1 ≤ n ∧ rng b g.2.2.1 ∧ g.2.2.1.length = acc.length + g.1 ∧ vb b g.2.2.1 + (b : Int) ^ g.2.2.1.length * g.2.2.2.2 = vb b acc + (b : Int) ^ acc.length * (vl A % ((b ^ n : Nat) : Int)) ∧ 0 ≤ g.2.2.2.2 ∧ g.2.2.2.2 < (b : Int) ^ (n - g.1) ∧ g.2.2.1.length ≤ g.2.2.2.1.length ∧ g.2.2.2.1.take g.2.2.1.length = g.2.2.1 ∧ g.2.2.2.2 < 18446744073709551616) (fun g => [(7, .o 0 g.2.1 0 g.2.2.1.length), (11, .i .u64 g.2.2.2.2), (42, .i .i64 (g.1 : Int)), (43, .u), (44, .u), (45, .u), (46, .u), (47, .u), (48, .u), (49, .u), (50, .u), (51, .u), (52, .u), (53, .u), (54, .u), (55, .u), (56, .u)]) (fun g => [⟨3, 1, g.2.1, true, ints .i64 g.2.2.2.1⟩]) (fun g => n - g.1) (0, ver, acc, C, vl A % ((b ^ n : Nat) : Int)) ?_ ?_ rfl hR rfl (fun _ _ => rfl) (fun g _ => .cons Bc .nil) ?_
      · exact ⟨Nat.zero_le _, hr, rfl, rfl, (Aby hb).1, (Aby hb).2, hC1, hC2, hrl⟩
      · exact (.cons rfl (.cons rfl (.cons rfl (.v9 (.u (.u (.u (.u .nil))))))))
      · rintro ⟨i, ver2, acc2, C2, r⟩ ⟨hi, hr2, hal2, hI2, h0, h1r, hD1, hD2, hr64⟩
        dsimp only at hi hr2 hal2 hI2 h0 h1r hD1 hD2 hr64
        refine Zs <| Ac (Ca rfl rfl) (hd 43 rfl) <| Ab <| Ae ?_
        refine Bh rfl (fun h3 => ?_) (fun h3 => ?_)
        · have hilt : i < n := by omega
          refine Aj <| Ae <| At <| Zs <| Zm rfl (hd 44 rfl) <| Zm rfl (hd 45 rfl) <| Zm rfl (hd 46 rfl) <| Ac (D5 N5 Li rfl (r := (b : Int)) (Bf (by omega) (by omega))) (hd 47 rfl) <| Ac (Bk (K4 rfl rfl (by omega) rfl) (show V.i .u64 _ = V.i .u64 (r % (b : Int)) from congrArg (V.i .u64) (Int.tmod_eq_emod_of_nonneg h0))) (hd 48 rfl) <| Ac (D5 Li N5 rfl (r := r % (b : Int)) (Ak (by have := Int.emod_nonneg r (show (b : Int) ≠ 0 by omega); omega) (by have := Int.emod_lt_of_pos r (show (0 : Int) < b by omega); omega))) (hd 49 rfl) <| A1 (Do (id := 1) (xs := [.tmp 49]) Lb rfl (Aa rfl Ad) rfl (Cz rfl) (by decide) rfl) (hd 50 rfl) ?_
          refine Vr (C := C2) (v := (r % (b : Int))) Lb rfl rfl hD1 rfl (Pq (cs := ints .i64 [(r % (b : Int))]) rfl rfl rfl) (by show (_ + 1) * 8 ≤ _; first | omega | (dsimp only; omega)) (by show _ + 1 ≤ 9223372036854775807; first | omega | (dsimp only; omega)) (hd 51 rfl) (fun ver' C' hE1 hE2 => ?_)
          refine Za rfl (hd 7 rfl) <| Ab <| Af <| Zm rfl (hd 52 rfl) <| Zm rfl (hd 53 rfl) <| Ac (D5 N5 Li rfl (r := (b : Int)) (Bf (by omega) (by omega))) (hd 54 rfl) <| Ac (Gc rfl rfl (by omega) (r := r / (b : Int)) (by rw [Int.tdiv_eq_ediv_of_nonneg h0]; exact Bf (Int.ediv_nonneg h0 (by omega)) (by have := Int.ediv_le_self (b : Int) h0; omega))) (hd 55 rfl) <| Za rfl (hd 11 rfl) <| Ab <| Af <| Ac (Bd rfl rfl (r := ((i + 1 : Nat) : Int)) (by rw [Ak (by omega) (by omega)]; omega)) (hd 56 rfl) <| Zm rfl (hd 42 rfl) <| Ab ?_
          refine ⟨(i + 1, ver', acc2 ++ [r % (b : Int)], C', r / (b : Int)), ?_, ?_, rfl, Bj 34 rfl rfl ?_⟩
          · exact ⟨by omega, Px hr2 (Ac8 (Int.emod_nonneg _ (by omega)) (Int.emod_lt_of_pos _ (by omega))), by simp only [List.length_append, List.length_singleton]; omega, by simp only [List.length_append, List.length_singleton]; rw [Akg]; exact hI2, (Abx hb hilt h0 h1r).1, (Abx hb hilt h0 h1r).2, by simp only [List.length_append, List.length_singleton]; exact hE1, by simp only [List.length_append, List.length_singleton]; rw [hE2, hD2], by have := Int.ediv_le_self (b : Int) h0; dsimp only; omega⟩
          · show n - (i + 1) < n - i
            omega
          · exact (.cons (by show some _ = some _; rw [List.length_append]; rfl) (.cons rfl (.cons rfl (.v9 (.u (.u (.u (.u .nil))))))))
        · obtain rfl : n = i := by omega
          have hr0 := Aex h0 h1r
          refine Br <| Af <| Zm rfl (hd 57 rfl) <| Za rfl (hd 0 rfl) <| Ab ?_
          refine ⟨(lm (vl A / ((b ^ n : Nat) : Int)), ver2, acc2, C2), ?_, ?_, rfl, Bj 79 rfl rfl ?_⟩
          · exact ⟨Cu _, hlq, hr2, by dsimp only; rw [Gb hq0, Ah6 hal2 hI2 hr0, hI], by dsimp only; omega, hD1, hD2⟩
          · show (vl (lm _)).toNat < (vl A).toNat
            rw [Gb hq0]
            exact Aey hvp hb hn1
          · exact (.cons rfl (.cons rfl (.v9 (.v9 (.v9 (.v9 .nil))))))
    · have hv00 : vl A = 0 := (Ir uA).1 (by omega)
      have hvacc : vb b acc = vl l := by rw [hv00, Int.mul_zero, Int.add_zero] at hI; exact hI
      refine Br ?_
      refine C9 (G := Nat) (fun k => k ≤ acc.length ∧ acc.take k = (Cb b (vl l).toNat)) (fun k => [(7, .o 0 ver 0 k), (58, .u), (59, .u), (60, .u), (61, .u), (62, .u), (63, .u), (64, .u), (65, .u), (66, .u), (67, .u), (68, .u), (69, .u), (70, .u), (71, .u), (72, .u), (73, .u), (74, .u)]) ?_ ?_
      · refine At ?_
        refine Ch (G := Nat) (fun k => k ≤ acc.length ∧ vb b (acc.take k) = vb b acc) (fun k => [(7, .o 0 ver 0 k), (58, .u), (59, .u), (60, .u), (61, .u), (62, .u), (63, .u), (64, .u), (65, .u), (66, .u), (67, .u), (68, .u), (69, .u), (70, .u), (71, .u), (72, .u), (73, .u), (74, .u)]) (fun _ => _) (fun k => k) acc.length ?_ ?_ rfl ?_
        · exact ⟨Nat.le_refl _, by rw [List.take_length]⟩
        · exact (.cons rfl (.v9 (.v5 (.u (.u .nil)))))
        · rintro k ⟨hk, hkv⟩; refine Ae <| Zs <| Zm rfl (hd 58 rfl) <| Ac (E7 Fc rfl rfl) (hd 59 rfl) <| Ac (Ce rfl rfl) (hd 60 rfl) <| Zm rfl (hd 61 rfl) ?_
          refine Ez 61 rfl (fun h4 => ?_) (fun h4 => ?_)
          · refine Bi 61 rfl rfl (Ay rfl) (hd 62 rfl) <| Bi 61 rfl rfl (Ay rfl) (hd 63 rfl) <| Bi 61 rfl rfl (E7 Fc rfl rfl) (hd 64 rfl) <| Bi 61 rfl rfl (Bm rfl rfl (Ak (by omega) (by omega))) (hd 65 rfl) <| Bi 61 rfl rfl (Ck (i := k - 1) Fc rfl rfl rfl (by omega) (by omega) rfl) (hd 66 rfl) <| Bi 61 rfl rfl (Bk (Ee S2 rfl rfl (by first | omega | (dsimp only; omega))) (show V.i .i64 _ = V.i .i64 (acc.getD (k - 1) 0) by rw [Ala hC2 (by omega)])) (hd 67 rfl) <| Bi 61 rfl rfl (Cq rfl rfl) (hd 68 rfl) <| Ac (Bt rfl rfl) (hd 69 rfl) <| Ab ?_
            refine Bh rfl (fun h5 => ?_) (fun h5 => ?_)
            · have hz0 := h5
              refine Aj <| At <| Af <| Zm rfl (hd 70 rfl) <| Zm rfl (hd 71 rfl) <| Ac (E7 Fc rfl rfl) (hd 72 rfl) <| Ac (Bm rfl rfl (Ak (by omega) (by omega))) (hd 73 rfl) <| Ac (Vg (l := 0) (h := k - 1) (r := 0) (n := k - 1) Fc rfl rfl Gx (Dg rfl (by omega)) (by omega) (by omega) rfl (by omega)) (hd 74 rfl) <| Za rfl (hd 7 rfl) <| Ab ?_
              refine ⟨k - 1, ?_, ?_, rfl, Bj 37 rfl rfl ?_⟩
              · exact ⟨by omega, by rw [Zy (by omega) hk hz0]; exact hkv⟩
              · omega
              · exact (.cons rfl (.v9 (.v5 (.u (.u .nil)))))
            · refine Br ?_
              refine ⟨k, ?_, rfl, Bj 31 rfl rfl ?_⟩
              · exact ⟨hk, Sf hb hk hr (by rw [hkv, hvacc]; exact (Int.toNat_of_nonneg hv0).symm) (by first | (left; omega) | (right; assumption))⟩
              · exact (.cons rfl (.v9 (.v5 (.u (.u .nil)))))
          · refine Bz 61 rfl rfl rfl (hd 62 rfl) <| Bz 61 rfl rfl rfl (hd 63 rfl) <| Bz 61 rfl rfl rfl (hd 64 rfl) <| Bz 61 rfl rfl rfl (hd 65 rfl) <| Bz 61 rfl rfl rfl (hd 66 rfl) <| Bz 61 rfl rfl rfl (hd 67 rfl) <| Bz 61 rfl rfl rfl (hd 68 rfl) <| Ac (Bg rfl rfl) (hd 69 rfl) <| Ab <| A6 rfl <| Br ?_
            refine ⟨k, ?_, rfl, Bj 31 rfl rfl ?_⟩
            · exact ⟨hk, Sf hb hk hr (by rw [hkv, hvacc]; exact (Int.toNat_of_nonneg hv0).symm) (by first | (left; omega) | (right; assumption))⟩
            · exact (.cons rfl (.v9 (.v5 (.u (.u .nil)))))
      · rintro k ⟨hk, hdk⟩
        have hdl : (Cb b (vl l).toNat).length = k := by rw [← hdk, List.length_take]; omega
        have hck : C.take k = (Cb b (vl l).toNat) := by rw [Ajq hC2 hk, hdk]
        refine Ae <| At ?_
        refine Fy (G := Nat × List Int × Nat) 1 (fun g => (Cb b (vl l).toNat).length ≤ g.2.2 ∧ g.2.2 ≤ max m (Cb b (vl l).toNat).length ∧ g.2.2 ≤ g.2.1.length ∧ g.2.1.take g.2.2 = (Cb b (vl l).toNat) ++ List.replicate (g.2.2 - (Cb b (vl l).toNat).length) 0) (fun g => [(7, .o 0 g.1 0 g.2.2), (75, .u), (76, .u), (77, .u), (78, .u), (79, .u), (80, .u), (81, .u)]) (fun g => [⟨3, 1, g.1, true, ints .i64 g.2.1⟩]) (fun g => m - g.2.2) (ver, C, k) ?_ ?_ rfl hR rfl (fun _ _ => rfl) (fun g _ => .cons Bc .nil) ?_
        · exact ⟨by rw [hdl]; exact Nat.le_refl _, by dsimp only; omega, by dsimp only; omega, by dsimp only; rw [hck, hdl, Nat.sub_self]; simp⟩
        · exact (.cons rfl (.v5 (.u (.u .nil))))
        · rintro ⟨ver3, C3, k3⟩ ⟨hp1, hp2, hp3, hp4⟩
          dsimp only at hp1 hp2 hp3 hp4
          refine Ae <| Zs <| Zm rfl (hd 75 rfl) <| Ac (E7 Fc rfl rfl) (hd 76 rfl) <| Zm rfl (hd 77 rfl) <| Ac (Ca rfl rfl) (hd 78 rfl) <| Ab ?_
          refine Bh rfl (fun h7 => ?_) (fun h7 => ?_)
          · dsimp only at h7
            refine Aj <| At <| Af <| Zm rfl (hd 79 rfl) <| A1 (Do (id := 1) (xs := [.const (.int .i64 0)]) Lb rfl (Aa rfl Ad) rfl (Cz rfl) (by decide) rfl) (hd 80 rfl) ?_
            refine Vr (C := C3) (v := 0) Lb rfl rfl hp3 rfl (Pq (cs := ints .i64 [0]) rfl rfl rfl) (by show (_ + 1) * 8 ≤ _; first | omega | (dsimp only; omega)) (by show _ + 1 ≤ 9223372036854775807; first | omega | (dsimp only; omega)) (hd 81 rfl) (fun ver' C' hE1 hE2 => ?_)
            refine Za rfl (hd 7 rfl) <| Ab ?_
            refine ⟨(ver', C', k3 + 1), ?_, ?_, rfl, Bj 16 rfl rfl ?_⟩
            · exact ⟨by dsimp only; omega, by dsimp only; omega, hE1, Yl hp1 hp4 hE2⟩
            · show m - (k3 + 1) < m - k3
              omega
            · exact (.cons rfl (.v5 (.u (.u .nil))))
          · dsimp only at h7 ⊢
            have hB : (C3.take k3).length = k3 := by rw [List.length_take]; omega
            have hpd := Adp hp4 hp1 (by omega) hp2
            refine Br <| Zs <| Zm rfl (hd 82 rfl) <| Ac (E7 Fc rfl rfl) (hd 83 rfl) <| A1 (Gv (m := k3) Lb rfl rfl rfl (by show 8 * k3 ≤ _; omega) (by unfold maxLen; omega) rfl) (hd 84 rfl) <| Za rfl (hd 13 rfl) <| Ab <| Ae <| Zs <| Zm rfl (hd 85 rfl) <| Ac (E7 Fc rfl rfl) (hd 86 rfl) ?_; refine Zm rfl (hd 87 rfl) <| Ab <| At <| Nv (H' := [⟨3, 1, ver3, true, ints .i64 C3⟩, ⟨3, 1, 0, true, ints .i64 (Ri (C3.take k3) 0)⟩]) (by rw [Agv, hB]; rfl) ?_
            refine Ch (G := Nat) (fun i => i ≤ k3) (fun i => [(87, .i .i64 (i : Int)), (14, .u), (15, .u), (88, .u), (89, .u), (90, .u), (91, .u), (92, .u), (93, .u), (94, .u), (95, .u), (96, .u), (97, .u), (98, .u), (99, .u), (100, .u)]) (fun i => [⟨3, 1, ver3, true, ints .i64 C3⟩, ⟨3, 1, 0, true, ints .i64 (Ri (C3.take k3) i)⟩]) (fun i => k3 - i) 0 ?_ ?_ rfl ?_
            · exact Nat.zero_le _
            · exact (.cons rfl (.v9 (.v5 .nil)))
            · rintro i hi9
              have hrl9 := Rh (B := (C3.take k3)) (i := i) (by rw [hB]; exact hi9)
              refine Zs <| Ac (Ca rfl rfl) (hd 88 rfl) <| Ab <| Ae ?_
              refine Bh rfl (fun h8 => ?_) (fun h8 => ?_)
              · refine Aj <| Ae <| At <| Zs <| Zm rfl (hd 89 rfl) <| Ac (Ck (i := i) Fc rfl rfl rfl (by first | rfl | omega) (by omega) rfl) (hd 90 rfl) <| Ac (Bk (Ee S2 rfl rfl (by first | omega | (dsimp only; omega))) (show V.i .i64 _ = V.i .i64 ((C3.take k3).getD i 0) by rw [Ala (acc := (C3.take k3)) (by rw [hB]) (by rw [hB]; omega)])) (hd 91 rfl) <| Za rfl (hd 14 rfl) <| Za rfl (hd 15 rfl) <| Ab ?_
                have hset : (Ri (C3.take k3) i).set ((0 + (k3 - 1 - i)) * 1) ((C3.take k3).getD i 0) = Ri (C3.take k3) (i + 1) := by
                  rw [Nat.zero_add, Nat.mul_one]
                  have h := Ya (B := (C3.take k3)) (i := i) (by rw [hB]; omega)
                  rwa [hB] at h
                refine Af <| Zm rfl (hd 92 rfl) <| Zm rfl (hd 93 rfl) <| Ac (E7 Fc rfl rfl) (hd 94 rfl) <| Ac (Bm rfl rfl (Ak (by omega) (by omega))) (hd 95 rfl) <| Zm rfl (hd 96 rfl) <| Ac (Bm rfl rfl (r := ((k3 - 1 - i : Nat) : Int)) (by rw [Ak (by omega) (by omega)]; omega)) (hd 97 rfl) <| Zm rfl (hd 98 rfl) <| Ac (Ck (i := k3 - 1 - i) Fc rfl rfl rfl (by first | rfl | omega) (by omega) rfl) (hd 99 rfl) <| A3 (Cf rfl rfl rfl S2 (by rw [hrl9, hB]; first | omega | (dsimp only; omega))) <| Ab <| Af <| Ac (Bd rfl rfl (r := ((i + 1 : Nat) : Int)) (by rw [Ak (by omega) (by omega)]; omega)) (hd 100 rfl) ?_; refine Zm rfl (hd 87 rfl) <| Ab ?_
                refine ⟨i + 1, ?_, ?_, (by show [_, (⟨3, 1, 0, true, ints .i64 _⟩ : Ob)] = [_, ⟨3, 1, 0, true, ints .i64 _⟩]; rw [hset]), Bj 32 rfl rfl ?_⟩
                · omega
                · omega
                · exact (.cons rfl (.v9 (.v5 .nil)))
              · obtain rfl : i = k3 := by omega
                have hR : Ri (C3.take i) i = (hdg b m (vl l).toNat) := by
                  have h := Yb (C3.take i)
                  rw [hB] at h
                  rw [h, hpd]; rfl
                have hRl : (hdg b m (vl l).toNat).length = i := by rw [← hR, Rh (by omega), hB]
                refine Br <| Zs <| Zm rfl (hd 101 rfl) <| Za rfl (hd 6 rfl) <| Ab <| An ?_
                refine ⟨[1], _, (.o 0 0 0 i), (.cons rfl .nil), rfl, rfl, (by decide), (by first | exact Ao Bc A0 | exact Ao rfl A0), ?_⟩
                exact ⟨by rw [hRl], by rw [← hR]; rfl⟩
end Go.Proofs.YtnadmljoefecfaaGreatDoor.Vc
