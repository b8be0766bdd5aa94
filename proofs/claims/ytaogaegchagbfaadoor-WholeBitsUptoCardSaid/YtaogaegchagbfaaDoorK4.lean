/- The card of the law WholeBits of surdlaw06: it returns true for every two whole numbers and every place of bulk at most 1048576 where the table of math/bits lies as the program lays it Texts joined: Ob, Wa, Wb, Wc, Wd, We, Wf, Wg, Wh, Wi, Wj, Wk, Wl. -/
import Derived.Test.YtaogaegchagbfaaDoorK3
set_option linter.unusedVariables false
set_option linter.unusedSimpArgs false
/- Contract of surdref01.Own. -/
namespace Go.Proofs.YtaogaegchagbfaaDoor.Vc
open Go Go.RowKit
set_option maxHeartbeats 4000000 in
theorem Own_s (n : Nat) (hn : n < 1000000) (rs : Nat → List Int) (hlen : ∀ j, j < n → (rs j).length < 1099511627776) : SpecM Tryd.prog 22 [.o 0 0 0 n] (rowsJ n (owL0 n rs) (owR rs) []) (fun o _ => o = .ret (.b true)) := by
  refine specM_of [(0, .o 0 0 0 n)] rfl (_) rfl Tryd.func22 rfl (Nat.le_of_ble_eq_true rfl) fun Γ hN hds => ?_
  have hd : ∀ d, Nat.blt d 112 = true → d < Γ.N := fun d h => by rw [hN]; exact Nat.le_of_ble_eq_true h
  refine jc_H (H' := rowsJ n (owL0 n rs) (owF rs 0) []) ow_start ?_; refine jc_seq ?_; refine jc_region ?_; refine jo_l (ly_as rfl) (hd 2 rfl) ?_; refine jo_nil ?_; refine jc_seq ?_; refine jc_seq ?_; refine jc_region ?_; refine jo_l (ly_mv rfl) (hd 13 rfl) ?_; refine jo_l (ly_leno sl81 rfl rfl) (hd 14 rfl) ?_; refine jo_l (ly_mv rfl) (hd 15 rfl) ?_; refine jo_nil ?_; refine jc_block ?_
  refine jc_loopF (G := Nat) (fun i => i ≤ n) (fun i => [(15, .i .i64 (i : Int)), (3, .u), (4, .u), (5, .u), (16, .u), (17, .u), (18, .u), (19, .u), (20, .u), (21, .u), (22, .u), (23, .u), (24, .u), (25, .u), (26, .u), (27, .u), (28, .u), (29, .u), (30, .u), (31, .u), (32, .u), (33, .u)]) (fun i => rowsJ n (owL0 n rs) (owF rs i) []) (fun i => n - i) 0 ?_ ?_ rfl ?_
  · exact Nat.zero_le _
  · exact (.cons rfl (.u (.u (.u (.u (.u (.u (.u (.u (.u (.u (.u (.u (.u (.u (.u (.u (.u (.u (.u (.u (.u .nil))))))))))))))))))))))
  · rintro i hc1; refine jc_seq ?_; refine jc_region ?_; refine jo_l (ly_lt rfl rfl) (hd 16 rfl) ?_; refine jo_nil ?_; refine jc_seq ?_
    refine jc_if rfl (fun h1 => ?_) (fun h1 => ?_)
    · have hi : i < n := by omega
      have hl := hlen i hi
      refine jc_skip ?_; refine jc_seq ?_; refine jc_block ?_; refine jc_seq ?_; refine jc_region ?_; refine jo_l (ly_mv rfl) (hd 17 rfl) ?_; refine jo_l (ly_ia (i := i) sl81 rfl rfl rfl (by first | rfl | omega) (by first | omega | (dsimp only; omega)) rfl) (hd 18 rfl) ?_; refine jo_l (ly_ld one25 rfl rfl (rc_at hi rfl)) (hd 19 rfl) ?_; refine jo_l (ly_as rfl) (hd 3 rfl) ?_; refine jo_l (ly_as rfl) (hd 4 rfl) ?_; refine jo_nil ?_; refine jc_seq ?_; refine jc_H (H' := rowsJ n (owL0 n rs) (upd (owF rs i) i (owK rs i 0)) []) ow_in ?_; refine jc_region ?_; refine jo_l (ly_mv rfl) (hd 20 rfl) ?_; refine jo_l (ly_leno sl25 rfl (rj_upd hi)) (hd 21 rfl) ?_; refine jo_l (ly_mv rfl) (hd 22 rfl) ?_; refine jo_nil ?_; refine jc_block ?_
      refine jc_loopF (G := Nat) (fun k => k ≤ (rs i).length) (fun k => [(22, .i .i64 (k : Int)), (5, .u), (23, .u), (24, .u), (25, .u), (26, .u), (27, .u), (28, .u), (29, .u), (30, .u), (31, .u), (32, .u)]) (fun k => rowsJ n (owL0 n rs) (upd (owF rs i) i (owK rs i k)) []) (fun k => (rs i).length - k) 0 ?_ ?_ rfl ?_
      · exact Nat.zero_le _
      · exact (.cons rfl (.u (.u (.u (.u (.u (.u (.u (.u (.u (.u (.u .nil))))))))))))
      · rintro k hc2; refine jc_seq ?_; refine jc_region ?_; refine jo_l (ly_lt rfl rfl) (hd 23 rfl) ?_; refine jo_nil ?_; refine jc_seq ?_
        refine jc_if rfl (fun h2 => ?_) (fun h2 => ?_)
        · have hk : k < (rs i).length := by omega
          have hkl : k < (List.replicate k (owC i) ++ (rs i).drop k).length := by simp; omega
          refine jc_skip ?_; refine jc_seq ?_; refine jc_block ?_; refine jc_seq ?_; refine jc_region ?_; refine jo_l (ly_mv rfl) (hd 24 rfl) ?_; refine jo_l (ly_as rfl) (hd 5 rfl) ?_; refine jo_nil ?_; refine jc_region ?_; refine jo_l (ly_mv rfl) (hd 25 rfl) ?_; refine jo_l (ly_mv rfl) (hd 26 rfl) ?_; refine jo_l (ly_mv rfl) (hd 27 rfl) ?_; refine jo_l (ly_rem rfl rfl (by decide) rfl) (hd 28 rfl) ?_; refine jo_l (ly_add rfl rfl (r := owC i) (by rw [show ((i : Int).tmod 251) = ((i % 251 : Nat) : Int) from rfl, wrap_i64 (by omega) (by omega)]; unfold owC; omega)) (hd 29 rfl) ?_; refine jo_l (ly_conv und3 und82 rfl (r := owC i) (by unfold owC; rw [wrap_u64 (by omega) (by omega)])) (hd 30 rfl) ?_; refine jo_l (ly_ia (i := k) sl25 rfl (rj_upd hi) rfl rfl (by omega) rfl) (hd 31 rfl) ?_; refine jo_st (sy_storei rfl rfl (rj_upd hi) one82 (by omega)) ?_; refine jo_nil ?_; refine jc_region ?_; refine jo_l (ly_add rfl rfl (wrap_i64 (by first | omega | (dsimp only; omega)) (by first | omega | (dsimp only; omega)))) (hd 32 rfl) ?_; refine jo_l (ly_mv rfl) (hd 22 rfl) ?_; refine jo_nil ?_
          refine ⟨k + 1, ?_, ?_, (ow_step hi (by omega)), cov_n 24 rfl rfl ?_⟩
          · omega
          · omega
          · exact (.cons rfl (.u (.u (.u (.u (.u (.u (.u (.u (.u (.u (.u .nil))))))))))))
        · refine jc_exit ?_; refine jc_region ?_; refine jo_l (ly_add rfl rfl (wrap_i64 (by first | omega | (dsimp only; omega)) (by first | omega | (dsimp only; omega)))) (hd 33 rfl) ?_; refine jo_l (ly_mv rfl) (hd 15 rfl) ?_; refine jo_nil ?_
          refine ⟨i + 1, ?_, ?_, (ow_out (by omega) (by omega)), cov_n 46 rfl rfl ?_⟩
          · omega
          · omega
          · exact (.cons rfl (.u (.u (.u (.u (.u (.u (.u (.u (.u (.u (.u (.u (.u (.u (.u (.u (.u (.u (.u (.u (.u .nil))))))))))))))))))))))
    · refine jc_exit ?_; refine jc_seq ?_; refine jc_seq ?_; refine jc_H (H' := rowsJ n (owL n rs 0) (owG rs 0) []) (ow_two (by omega)) ?_; refine jc_region ?_; refine jo_l (ly_mv rfl) (hd 34 rfl) ?_; refine jo_l (ly_leno sl81 rfl rfl) (hd 35 rfl) ?_; refine jo_l (ly_mv rfl) (hd 36 rfl) ?_; refine jo_nil ?_; refine jc_block ?_
      refine jc_loopF (G := Nat × List Ob) (fun g => g.1 ≤ n) (fun g => [(36, .i .i64 (g.1 : Int)), (6, .u), (7, .u), (8, .u), (37, .u), (38, .u), (39, .u), (40, .u), (41, .u), (42, .u), (43, .u), (44, .u), (45, .u), (46, .u), (47, .u), (48, .u), (49, .u), (50, .u), (51, .u), (52, .u), (53, .u), (54, .u), (55, .u), (56, .u), (57, .u), (58, .u), (59, .u), (60, .u), (61, .u)]) (fun g => rowsJ n (owL n rs g.1) (owG rs g.1) g.2) (fun g => n - g.1) (0, []) ?_ ?_ rfl ?_
      · exact Nat.zero_le _
      · exact (.cons rfl (.u (.u (.u (.u (.u (.u (.u (.u (.u (.u (.u (.u (.u (.u (.u (.u (.u (.u (.u (.u (.u (.u (.u (.u (.u (.u (.u (.u .nil)))))))))))))))))))))))))))))
      · rintro ⟨i, J⟩ hc1
        dsimp only at hc1 ⊢
        refine jc_seq ?_; refine jc_region ?_; refine jo_l (ly_lt rfl rfl) (hd 37 rfl) ?_; refine jo_nil ?_; refine jc_seq ?_
        refine jc_if rfl (fun h3 => ?_) (fun h3 => ?_)
        · have hi : i < n := by omega
          have hl := hlen i hi
          refine jc_skip ?_; refine jc_seq ?_; refine jc_block ?_; refine jc_seq ?_; refine jc_region ?_; refine jo_l (ly_mv rfl) (hd 38 rfl) ?_; refine jo_l (ly_ia (i := i) sl81 rfl rfl rfl (by first | rfl | omega) (by first | omega | (dsimp only; omega)) rfl) (hd 39 rfl) ?_; refine jo_l (ly_ld one25 rfl rfl (ow_load2 hi)) (hd 40 rfl) ?_; refine jo_l (ly_as rfl) (hd 6 rfl) ?_; refine jo_l (ly_as rfl) (hd 7 rfl) ?_; refine jo_nil ?_; refine jc_seq ?_; refine jc_region ?_; refine jo_l (ly_mv rfl) (hd 41 rfl) ?_; refine jo_l (ly_mul rfl rfl (r := ((5 * i : Nat) : Int)) (by rw [wrap_i64 (by omega) (by omega)]; omega)) (hd 42 rfl) ?_; refine jo_l (ly_add rfl rfl (r := ((300 + 5 * i : Nat) : Int)) (by rw [wrap_i64 (by omega) (by omega)]; omega)) (hd 43 rfl) ?_; refine jo_l (ly_conv und3 und82 rfl (r := ((300 + 5 * i : Nat) : Int)) (by rw [wrap_u64 (by omega) (by omega)]; try omega)) (hd 44 rfl) ?_; refine jo_l (ly_as rfl) (hd 8 rfl) ?_; refine jo_nil ?_; refine jc_seq ?_; refine jc_region ?_; refine jo_l (ly_mv rfl) (hd 45 rfl) ?_; refine jo_l (ly_mv rfl) (hd 46 rfl) ?_; refine jo_l (ly_mv rfl) (hd 47 rfl) ?_; refine jo_l (ly_add rfl rfl (r := ((300 + 5 * i + 1 : Nat) : Int)) (by rw [wrap_u64 (by omega) (by omega)]; try omega)) (hd 48 rfl) ?_; refine jo_l (ly_mv rfl) (hd 49 rfl) ?_; refine jo_l (ly_add rfl rfl (r := ((300 + 5 * i + 2 : Nat) : Int)) (by rw [wrap_u64 (by omega) (by omega)]; try omega)) (hd 50 rfl) ?_; refine jo_l (ly_mv rfl) (hd 51 rfl) ?_; refine jo_l (ly_add rfl rfl (r := ((300 + 5 * i + 3 : Nat) : Int)) (by rw [wrap_u64 (by omega) (by omega)]; try omega)) (hd 52 rfl) ?_; refine jo_l (ly_mv rfl) (hd 53 rfl) ?_; refine jo_l (ly_add rfl rfl (r := ((300 + 5 * i + 4 : Nat) : Int)) (by rw [wrap_u64 (by omega) (by omega)]; try omega)) (hd 54 rfl) ?_; refine jo_h (hy_lit (id := n + 1 + J.length) (xs := [.tmp 46, .tmp 48, .tmp 50, .tmp 52, .tmp 54]) el25 rfl (ovL_cons rfl (ovL_cons rfl (ovL_cons rfl (ovL_cons rfl (ovL_cons rfl ovL_nil))))) rfl (all2_of rfl) (by decide) rj_len) (hd 55 rfl) ?_; refine jo_H (H' := rowsJ n (owL n rs i) (owG rs i) (J ++ [⟨76, 1, 0, true, ints .u64 (owB i)⟩])) rj_app ?_; refine jo_app el25 rfl (ow_row2 hi) (by simp [ints]) rfl (src_o rj_last rfl rfl) (by omega) (by unfold maxLen; omega) (hd 56 rfl) ?_; refine jo_H (ow_grow hi) ?_; refine jo_l (ly_as rfl) (hd 7 rfl) ?_; refine jo_nil ?_; refine jc_region ?_; refine jo_l (ly_mv rfl) (hd 57 rfl) ?_; refine jo_l (ly_mv rfl) (hd 58 rfl) ?_; refine jo_l (ly_mv rfl) (hd 59 rfl) ?_; refine jo_l (ly_ia (i := i) sl81 rfl rfl rfl (by first | rfl | omega) (by first | omega | (dsimp only; omega)) rfl) (hd 60 rfl) ?_; refine jo_st (sy_store rfl rfl rfl siz25 rfl (by simp [cellsV, oneO, rj_upd hi, owE]) (by simp [owL]; omega)) ?_; refine jo_nil ?_; refine jc_region ?_; refine jo_l (ly_add rfl rfl (wrap_i64 (by first | omega | (dsimp only; omega)) (by first | omega | (dsimp only; omega)))) (hd 61 rfl) ?_; refine jo_l (ly_mv rfl) (hd 36 rfl) ?_; refine jo_nil ?_
          refine ⟨(i + 1, _), ?_, ?_, (ow_next hi), cov_n 59 rfl rfl ?_⟩
          · show i + 1 ≤ n; omega
          · show n - (i + 1) < n - i; omega
          · exact (.cons rfl (.u (.u (.u (.u (.u (.u (.u (.u (.u (.u (.u (.u (.u (.u (.u (.u (.u (.u (.u (.u (.u (.u (.u (.u (.u (.u (.u (.u .nil)))))))))))))))))))))))))))))
        · refine jc_exit ?_; refine jc_seq ?_; refine jc_seq ?_; refine jc_region ?_; refine jo_l (ly_mv rfl) (hd 62 rfl) ?_; refine jo_l (ly_leno sl81 rfl rfl) (hd 63 rfl) ?_; refine jo_l (ly_mv rfl) (hd 64 rfl) ?_; refine jo_nil ?_; refine jc_block ?_
          refine jc_loopF (G := Nat) (fun q => q ≤ n) (fun q => [(64, .i .i64 (q : Int)), (2, .u), (9, .u), (10, .u), (11, .u), (12, .u), (65, .u), (66, .u), (67, .u), (68, .u), (69, .u), (70, .u), (71, .u), (72, .u), (73, .u), (74, .u), (75, .u), (76, .u), (77, .u), (78, .u), (79, .u), (80, .u), (81, .u), (82, .u), (83, .u), (84, .u), (85, .u), (86, .u), (87, .u), (88, .u), (89, .u), (90, .u), (91, .u), (92, .u), (93, .u), (94, .u), (95, .u), (96, .u), (97, .u), (98, .u), (99, .u), (100, .u), (101, .u), (102, .u), (103, .u), (104, .u), (105, .u), (106, .u), (107, .u), (108, .u), (109, .u), (110, .u), (111, .u)]) (fun q => rowsJ n (owL n rs i) (owG rs i) J) (fun q => n - q) 0 ?_ ?_ rfl ?_
          · exact Nat.zero_le _
          · exact (.cons rfl (.u (.u (.u (.u (.u (.u (.u (.u (.u (.u (.u (.u (.u (.u (.u (.u (.u (.u (.u (.u (.u (.u (.u (.u (.u (.u (.u (.u (.u (.u (.u (.u (.u (.u (.u (.u (.u (.u (.u (.u (.u (.u (.u (.u (.u (.u (.u (.u (.u (.u (.u (.u .nil)))))))))))))))))))))))))))))))))))))))))))))))))))))
          · rintro q hc2; refine jc_seq ?_; refine jc_region ?_; refine jo_l (ly_lt rfl rfl) (hd 65 rfl) ?_; refine jo_nil ?_; refine jc_seq ?_
            refine jc_if rfl (fun h4 => ?_) (fun h4 => ?_)
            · have hi : q < n := by omega
              have hl := hlen q hi
              have hm : ¬ i < n := by omega
              refine jc_skip ?_; refine jc_seq ?_; refine jc_block ?_; refine jc_seq ?_; refine jc_region ?_; refine jo_l (ly_mv rfl) (hd 66 rfl) ?_; refine jo_l (ly_ia (i := q) sl81 rfl rfl rfl (by first | rfl | omega) (by first | omega | (dsimp only; omega)) rfl) (hd 67 rfl) ?_; refine jo_l (ly_ld one25 rfl rfl (ow_load3 hi hm)) (hd 68 rfl) ?_; refine jo_l (ly_as rfl) (hd 9 rfl) ?_; refine jo_l (ly_as rfl) (hd 10 rfl) ?_; refine jo_nil ?_; refine jc_seq ?_; refine jc_region ?_; refine jo_l (ly_mv rfl) (hd 69 rfl) ?_; refine jo_l (ly_leno sl25 rfl (ow_row3 hi hm)) (hd 70 rfl) ?_; refine jo_l (ly_mv rfl) (hd 71 rfl) ?_; refine jo_nil ?_; refine jc_block ?_
              refine jc_loopF (G := Nat) (fun k => k ≤ (rs q).length + 5) (fun k => [(71, .i .i64 (k : Int)), (2, .u), (11, .u), (12, .u), (72, .u), (73, .u), (74, .u), (75, .u), (76, .u), (77, .u), (78, .u), (79, .u), (80, .u), (81, .u), (82, .u), (83, .u), (84, .u), (85, .u), (86, .u), (87, .u), (88, .u), (89, .u), (90, .u), (91, .u), (92, .u), (93, .u), (94, .u), (95, .u), (96, .u), (97, .u), (98, .u), (99, .u), (100, .u), (101, .u), (102, .u), (103, .u), (104, .u), (105, .u), (106, .u), (107, .u), (108, .u), (109, .u), (110, .u)]) (fun k => rowsJ n (owL n rs i) (owG rs i) J) (fun k => (rs q).length + 5 - k) 0 ?_ ?_ rfl ?_
              · exact Nat.zero_le _
              · exact (.cons rfl (.u (.u (.u (.u (.u (.u (.u (.u (.u (.u (.u (.u (.u (.u (.u (.u (.u (.u (.u (.u (.u (.u (.u (.u (.u (.u (.u (.u (.u (.u (.u (.u (.u (.u (.u (.u (.u (.u (.u (.u (.u (.u .nil)))))))))))))))))))))))))))))))))))))))))))
              · rintro k hc3; refine jc_seq ?_; refine jc_region ?_; refine jo_l (ly_lt rfl rfl) (hd 72 rfl) ?_; refine jo_nil ?_; refine jc_seq ?_
                refine jc_if rfl (fun h5 => ?_) (fun h5 => ?_)
                · have hk : k < (rs q).length + 5 := by omega
                  have hkl := ow_len (rs := rs) (i := q)
                  refine jc_skip ?_; refine jc_seq ?_; refine jc_block ?_; refine jc_seq ?_; refine jc_region ?_; refine jo_l (ly_mv rfl) (hd 73 rfl) ?_; refine jo_l (ly_ia (i := k) sl25 rfl (ow_row3 hi hm) rfl rfl (by omega) rfl) (hd 74 rfl) ?_; refine jo_l (ly_is (ly_ldi one82 rfl (ow_row3 hi hm) (by omega)) (congrArg (V.i .u64) (ow_val hk))) (hd 75 rfl) ?_; refine jo_l (ly_as rfl) (hd 11 rfl) ?_; refine jo_l (ly_as rfl) (hd 12 rfl) ?_; refine jo_nil ?_; refine jc_seq ?_; refine jc_region ?_; refine jo_l (ly_mv rfl) (hd 76 rfl) ?_; refine jo_l (ly_mv rfl) (hd 77 rfl) ?_; refine jo_l (ly_leno sl25 rfl (ow_row3 hi hm)) (hd 78 rfl) ?_; refine jo_l (ly_sub rfl rfl (r := (((rs q).length : Nat) : Int)) (by rw [wrap_i64 (by omega) (by omega)]; omega)) (hd 79 rfl) ?_; refine jo_l (ly_lt rfl rfl) (hd 80 rfl) ?_; refine jo_l (ly_mv rfl) (hd 81 rfl) ?_
                  refine jo_ifp 81 rfl (fun h6 => ?_) (fun h6 => ?_)
                  · refine jo_g 81 rfl rfl (ly_mv rfl) (hd 82 rfl) ?_; refine jo_g 81 rfl rfl (ly_mv rfl) (hd 83 rfl) ?_; refine jo_g 81 rfl rfl (ly_rem rfl rfl (by decide) rfl) (hd 84 rfl) ?_; refine jo_g 81 rfl rfl (ly_add rfl rfl (r := owC q) (by rw [show ((q : Int).tmod 251) = ((q % 251 : Nat) : Int) from rfl, wrap_i64 (by omega) (by omega)]; unfold owC; omega)) (hd 85 rfl) ?_; refine jo_g 81 rfl rfl (ly_conv und3 und82 rfl (r := owC q) (by unfold owC; rw [wrap_u64 (by omega) (by omega)])) (hd 86 rfl) ?_; refine jo_g 81 rfl rfl (ly_ff (ly_ne rfl rfl) (fun h => h (if_pos (by omega)))) (hd 87 rfl) ?_; refine jo_l (ly_pick_t rfl rfl) (hd 88 rfl) ?_; refine jo_l (ly_mv rfl) (hd 89 rfl) ?_; refine jo_g 89 rfl rfl (ly_mv rfl) (hd 90 rfl) ?_; refine jo_g 89 rfl rfl (ly_mv rfl) (hd 91 rfl) ?_; refine jo_g 89 rfl rfl (ly_leno sl25 rfl (ow_row3 hi hm)) (hd 92 rfl) ?_; refine jo_g 89 rfl rfl (ly_sub rfl rfl (r := (((rs q).length : Nat) : Int)) (by rw [wrap_i64 (by omega) (by omega)]; omega)) (hd 93 rfl) ?_; refine jo_g 89 rfl rfl (ly_ge rfl rfl) (hd 94 rfl) ?_; refine jo_g 89 rfl rfl (ly_mv rfl) (hd 95 rfl) ?_
                    refine jo_ifp 95 rfl (fun h7 => ?_) (fun h7 => ?_)
                    · refine jo_g 95 rfl rfl (ly_mv rfl) (hd 96 rfl) ?_; refine jo_g 95 rfl rfl (ly_mv rfl) (hd 97 rfl) ?_; refine jo_g 95 rfl rfl (ly_mul rfl rfl (r := ((5 * q : Nat) : Int)) (by rw [wrap_i64 (by omega) (by omega)]; omega)) (hd 98 rfl) ?_; refine jo_g 95 rfl rfl (ly_add rfl rfl (r := ((300 + 5 * q : Nat) : Int)) (by rw [wrap_i64 (by omega) (by omega)]; omega)) (hd 99 rfl) ?_; refine jo_g 95 rfl rfl (ly_mv rfl) (hd 100 rfl) ?_; refine jo_g 95 rfl rfl (ly_add rfl rfl (r := ((300 + 5 * q + k : Nat) : Int)) (by rw [wrap_i64 (by omega) (by omega)]; omega)) (hd 101 rfl) ?_; refine jo_g 95 rfl rfl (ly_mv rfl) (hd 102 rfl) ?_; refine jo_g 95 rfl rfl (ly_leno sl25 rfl (ow_row3 hi hm)) (hd 103 rfl) ?_; refine jo_g 95 rfl rfl (ly_sub rfl rfl (r := ((300 + 5 * q + k - ((rs q).length + 5) : Nat) : Int)) (by rw [wrap_i64 (by omega) (by omega)]; omega)) (hd 104 rfl) ?_; refine jo_g 95 rfl rfl (ly_add rfl rfl (r := ((300 + 5 * q + (k - (rs q).length) : Nat) : Int)) (by rw [wrap_i64 (by omega) (by omega)]; omega)) (hd 105 rfl) ?_; refine jo_g 95 rfl rfl (ly_conv und3 und82 rfl (r := ((300 + 5 * q + (k - (rs q).length) : Nat) : Int)) (by rw [wrap_u64 (by omega) (by omega)]; try omega)) (hd 106 rfl) ?_; refine jo_g 95 rfl rfl (ly_ff (ly_ne rfl rfl) (fun h => h (if_neg (by omega)))) (hd 107 rfl) ?_; refine jo_g 89 rfl rfl (ly_pick_t rfl rfl) (hd 108 rfl) ?_; refine jo_l (ly_pick_f rfl rfl) (hd 109 rfl) ?_; refine jo_nil ?_; refine jc_litf rfl ?_; refine jc_skip ?_; refine jc_region ?_; refine jo_l (ly_add rfl rfl (wrap_i64 (by first | omega | (dsimp only; omega)) (by first | omega | (dsimp only; omega)))) (hd 110 rfl) ?_; refine jo_l (ly_mv rfl) (hd 71 rfl) ?_; refine jo_nil ?_
                      refine ⟨k + 1, ?_, ?_, rfl, cov_n 87 rfl rfl ?_⟩
                      · omega
                      · omega
                      · exact (.cons rfl (.u (.u (.u (.u (.u (.u (.u (.u (.u (.u (.u (.u (.u (.u (.u (.u (.u (.u (.u (.u (.u (.u (.u (.u (.u (.u (.u (.u (.u (.u (.u (.u (.u (.u (.u (.u (.u (.u (.u (.u (.u (.u .nil)))))))))))))))))))))))))))))))))))))))))))
                    · refine jo_s 95 rfl rfl rfl (hd 96 rfl) ?_; refine jo_s 95 rfl rfl rfl (hd 97 rfl) ?_; refine jo_s 95 rfl rfl rfl (hd 98 rfl) ?_; refine jo_s 95 rfl rfl rfl (hd 99 rfl) ?_; refine jo_s 95 rfl rfl rfl (hd 100 rfl) ?_; refine jo_s 95 rfl rfl rfl (hd 101 rfl) ?_; refine jo_s 95 rfl rfl rfl (hd 102 rfl) ?_; refine jo_s 95 rfl rfl rfl (hd 103 rfl) ?_; refine jo_s 95 rfl rfl rfl (hd 104 rfl) ?_; refine jo_s 95 rfl rfl rfl (hd 105 rfl) ?_; refine jo_s 95 rfl rfl rfl (hd 106 rfl) ?_; refine jo_s 95 rfl rfl rfl (hd 107 rfl) ?_; refine jo_g 89 rfl rfl (ly_pick_f rfl rfl) (hd 108 rfl) ?_; refine jo_l (ly_pick_f rfl rfl) (hd 109 rfl) ?_; refine jo_nil ?_; refine jc_litf rfl ?_; refine jc_skip ?_; refine jc_region ?_; refine jo_l (ly_add rfl rfl (wrap_i64 (by first | omega | (dsimp only; omega)) (by first | omega | (dsimp only; omega)))) (hd 110 rfl) ?_; refine jo_l (ly_mv rfl) (hd 71 rfl) ?_; refine jo_nil ?_
                      refine ⟨k + 1, ?_, ?_, rfl, cov_n 87 rfl rfl ?_⟩
                      · omega
                      · omega
                      · exact (.cons rfl (.u (.u (.u (.u (.u (.u (.u (.u (.u (.u (.u (.u (.u (.u (.u (.u (.u (.u (.u (.u (.u (.u (.u (.u (.u (.u (.u (.u (.u (.u (.u (.u (.u (.u (.u (.u (.u (.u (.u (.u (.u (.u .nil)))))))))))))))))))))))))))))))))))))))))))
                  · refine jo_s 81 rfl rfl rfl (hd 82 rfl) ?_; refine jo_s 81 rfl rfl rfl (hd 83 rfl) ?_; refine jo_s 81 rfl rfl rfl (hd 84 rfl) ?_; refine jo_s 81 rfl rfl rfl (hd 85 rfl) ?_; refine jo_s 81 rfl rfl rfl (hd 86 rfl) ?_; refine jo_s 81 rfl rfl rfl (hd 87 rfl) ?_; refine jo_l (ly_pick_f rfl rfl) (hd 88 rfl) ?_; refine jo_l (ly_mv rfl) (hd 89 rfl) ?_; refine jo_g 89 rfl rfl (ly_mv rfl) (hd 90 rfl) ?_; refine jo_g 89 rfl rfl (ly_mv rfl) (hd 91 rfl) ?_; refine jo_g 89 rfl rfl (ly_leno sl25 rfl (ow_row3 hi hm)) (hd 92 rfl) ?_; refine jo_g 89 rfl rfl (ly_sub rfl rfl (r := (((rs q).length : Nat) : Int)) (by rw [wrap_i64 (by omega) (by omega)]; omega)) (hd 93 rfl) ?_; refine jo_g 89 rfl rfl (ly_ge rfl rfl) (hd 94 rfl) ?_; refine jo_g 89 rfl rfl (ly_mv rfl) (hd 95 rfl) ?_
                    refine jo_ifp 95 rfl (fun h10 => ?_) (fun h10 => ?_)
                    · refine jo_g 95 rfl rfl (ly_mv rfl) (hd 96 rfl) ?_; refine jo_g 95 rfl rfl (ly_mv rfl) (hd 97 rfl) ?_; refine jo_g 95 rfl rfl (ly_mul rfl rfl (r := ((5 * q : Nat) : Int)) (by rw [wrap_i64 (by omega) (by omega)]; omega)) (hd 98 rfl) ?_; refine jo_g 95 rfl rfl (ly_add rfl rfl (r := ((300 + 5 * q : Nat) : Int)) (by rw [wrap_i64 (by omega) (by omega)]; omega)) (hd 99 rfl) ?_; refine jo_g 95 rfl rfl (ly_mv rfl) (hd 100 rfl) ?_; refine jo_g 95 rfl rfl (ly_add rfl rfl (r := ((300 + 5 * q + k : Nat) : Int)) (by rw [wrap_i64 (by omega) (by omega)]; omega)) (hd 101 rfl) ?_; refine jo_g 95 rfl rfl (ly_mv rfl) (hd 102 rfl) ?_; refine jo_g 95 rfl rfl (ly_leno sl25 rfl (ow_row3 hi hm)) (hd 103 rfl) ?_; refine jo_g 95 rfl rfl (ly_sub rfl rfl (r := ((300 + 5 * q + k - ((rs q).length + 5) : Nat) : Int)) (by rw [wrap_i64 (by omega) (by omega)]; omega)) (hd 104 rfl) ?_; refine jo_g 95 rfl rfl (ly_add rfl rfl (r := ((300 + 5 * q + (k - (rs q).length) : Nat) : Int)) (by rw [wrap_i64 (by omega) (by omega)]; omega)) (hd 105 rfl) ?_; refine jo_g 95 rfl rfl (ly_conv und3 und82 rfl (r := ((300 + 5 * q + (k - (rs q).length) : Nat) : Int)) (by rw [wrap_u64 (by omega) (by omega)]; try omega)) (hd 106 rfl) ?_; refine jo_g 95 rfl rfl (ly_ff (ly_ne rfl rfl) (fun h => h (if_neg (by omega)))) (hd 107 rfl) ?_; refine jo_g 89 rfl rfl (ly_pick_t rfl rfl) (hd 108 rfl) ?_; refine jo_l (ly_pick_f rfl rfl) (hd 109 rfl) ?_; refine jo_nil ?_; refine jc_litf rfl ?_; refine jc_skip ?_; refine jc_region ?_; refine jo_l (ly_add rfl rfl (wrap_i64 (by first | omega | (dsimp only; omega)) (by first | omega | (dsimp only; omega)))) (hd 110 rfl) ?_; refine jo_l (ly_mv rfl) (hd 71 rfl) ?_; refine jo_nil ?_
                      refine ⟨k + 1, ?_, ?_, rfl, cov_n 87 rfl rfl ?_⟩
                      · omega
                      · omega
                      · exact (.cons rfl (.u (.u (.u (.u (.u (.u (.u (.u (.u (.u (.u (.u (.u (.u (.u (.u (.u (.u (.u (.u (.u (.u (.u (.u (.u (.u (.u (.u (.u (.u (.u (.u (.u (.u (.u (.u (.u (.u (.u (.u (.u (.u .nil)))))))))))))))))))))))))))))))))))))))))))
                    · refine jo_s 95 rfl rfl rfl (hd 96 rfl) ?_; refine jo_s 95 rfl rfl rfl (hd 97 rfl) ?_; refine jo_s 95 rfl rfl rfl (hd 98 rfl) ?_; refine jo_s 95 rfl rfl rfl (hd 99 rfl) ?_; refine jo_s 95 rfl rfl rfl (hd 100 rfl) ?_; refine jo_s 95 rfl rfl rfl (hd 101 rfl) ?_; refine jo_s 95 rfl rfl rfl (hd 102 rfl) ?_; refine jo_s 95 rfl rfl rfl (hd 103 rfl) ?_; refine jo_s 95 rfl rfl rfl (hd 104 rfl) ?_; refine jo_s 95 rfl rfl rfl (hd 105 rfl) ?_; refine jo_s 95 rfl rfl rfl (hd 106 rfl) ?_; refine jo_s 95 rfl rfl rfl (hd 107 rfl) ?_; refine jo_g 89 rfl rfl (ly_pick_f rfl rfl) (hd 108 rfl) ?_; refine jo_l (ly_pick_f rfl rfl) (hd 109 rfl) ?_; refine jo_nil ?_; refine jc_litf rfl ?_; refine jc_skip ?_; refine jc_region ?_; refine jo_l (ly_add rfl rfl (wrap_i64 (by first | omega | (dsimp only; omega)) (by first | omega | (dsimp only; omega)))) (hd 110 rfl) ?_; refine jo_l (ly_mv rfl) (hd 71 rfl) ?_; refine jo_nil ?_
                      refine ⟨k + 1, ?_, ?_, rfl, cov_n 87 rfl rfl ?_⟩
                      · omega
                      · omega
                      · exact (.cons rfl (.u (.u (.u (.u (.u (.u (.u (.u (.u (.u (.u (.u (.u (.u (.u (.u (.u (.u (.u (.u (.u (.u (.u (.u (.u (.u (.u (.u (.u (.u (.u (.u (.u (.u (.u (.u (.u (.u (.u (.u (.u (.u .nil)))))))))))))))))))))))))))))))))))))))))))
                · refine jc_exit ?_; refine jc_region ?_; refine jo_l (ly_add rfl rfl (wrap_i64 (by first | omega | (dsimp only; omega)) (by first | omega | (dsimp only; omega)))) (hd 111 rfl) ?_; refine jo_l (ly_mv rfl) (hd 64 rfl) ?_; refine jo_nil ?_
                  refine ⟨q + 1, ?_, ?_, rfl, cov_n 108 (by kernel_rfl) (by kernel_rfl) ?_⟩
                  · omega
                  · omega
                  · exact (.cons rfl (.u (.u (.u (.u (.u (.u (.u (.u (.u (.u (.u (.u (.u (.u (.u (.u (.u (.u (.u (.u (.u (.u (.u (.u (.u (.u (.u (.u (.u (.u (.u (.u (.u (.u (.u (.u (.u (.u (.u (.u (.u (.u (.u (.u (.u (.u (.u (.u (.u (.u (.u (.u .nil)))))))))))))))))))))))))))))))))))))))))))))))))))))
            · refine jc_exit ?_; refine jc_seq ?_; refine jc_region ?_; refine jo_l (ly_as rfl) (hd 2 rfl) ?_; refine jo_nil ?_; refine jc_ret ?_
              refine ⟨_, (.cons rfl .nil), rfl, (ow_end (m := i)), ?_⟩
              exact rfl
end Go.Proofs.YtaogaegchagbfaaDoor.Vc

/- Contracts of nat.trim, nat.Norm. -/
namespace Go.Proofs.YtaogaegchagbfaaDoor.Vc
open Go Go.RowKit
set_option maxHeartbeats 4000000 in
theorem trim_s (l : List Int) (hl : l.length < 1099511627776) : Spec Tryd.prog 87 [.n false .u64 l] (fun o => o = .ret (.n false .u64 (trm l))) := by
  refine spec_of' [(0, .n false .u64 l)] rfl Tryd.func87 rfl (Nat.le_of_ble_eq_true rfl) fun Γ hN hds hL hR => ?_
  have hd : ∀ d, Nat.blt d 21 = true → d < Γ.N := fun d h => by rw [hN]; exact Nat.le_of_ble_eq_true h
  refine jc_seq ?_; refine jc_region ?_; refine jo_l (ly_as rfl) (hd 2 rfl) ?_; refine jo_nil ?_; refine jc_seq ?_; refine jc_block ?_
  refine jc_loopF (G := Nat) (fun k => k ≤ l.length ∧ tN l k = tN l l.length) (fun k => [(0, .n false .u64 (l.take k)), (3, .u), (4, .u), (5, .u), (6, .u), (7, .u), (8, .u), (9, .u), (10, .u), (11, .u), (12, .u), (13, .u), (14, .u), (15, .u), (16, .u), (17, .u), (18, .u), (19, .u)]) (fun _ => _) (fun k => k) l.length ?_ ?_ rfl ?_
  · exact ⟨Nat.le_refl _, rfl⟩
  · exact (.cons (by rw [List.take_length]; rfl) (.u (.u (.u (.u (.u (.u (.u (.u (.u (.u (.u (.u (.u (.u (.u (.u (.u .nil))))))))))))))))))
  · rintro k ⟨hc1, hc2⟩
    have hm : (l.take k).length = k := by rw [List.length_take]; omega
    refine jc_seq ?_; refine jc_seq ?_; refine jc_region ?_; refine jo_l (ly_mv rfl) (hd 3 rfl) ?_; refine jo_l (ly_lenn sl28 rfl) (hd 4 rfl) ?_; refine jo_l (ly_gt rfl rfl) (hd 5 rfl) ?_; refine jo_l (ly_mv rfl) (hd 6 rfl) ?_
    refine jo_ifp 6 rfl (fun h1 => ?_) (fun h1 => ?_)
    · refine jo_g 6 rfl rfl (ly_mv rfl) (hd 7 rfl) ?_; refine jo_g 6 rfl rfl (ly_mv rfl) (hd 8 rfl) ?_; refine jo_g 6 rfl rfl (ly_lenn sl28 rfl) (hd 9 rfl) ?_; refine jo_g 6 rfl rfl (ly_sub rfl rfl (wrap_i64 (by omega) (by omega))) (hd 10 rfl) ?_; refine jo_g 6 rfl rfl (ly_ian (i := k - 1) sl28 rfl rfl (by first | rfl | omega) (by omega)) (hd 11 rfl) ?_; refine jo_g 6 rfl rfl (ly_ldq one82 rfl rfl) (hd 12 rfl) ?_; refine jo_g 6 rfl rfl (ly_eq rfl rfl) (hd 13 rfl) ?_; refine jo_l (ly_pick_t rfl rfl) (hd 14 rfl) ?_; refine jo_nil ?_
      refine jc_if rfl (fun h2 => ?_) (fun h2 => ?_)
      · refine jc_skip ?_; refine jc_block ?_; refine jc_region ?_; refine jo_l (ly_mv rfl) (hd 15 rfl) ?_; refine jo_l (ly_mv rfl) (hd 16 rfl) ?_; refine jo_l (ly_lenn sl28 rfl) (hd 17 rfl) ?_; refine jo_l (ly_sub rfl rfl (wrap_i64 (by omega) (by omega))) (hd 18 rfl) ?_; refine jo_l (ly_sln sl28 rfl bnd_none (bnd_some' rfl (show ((l.take k).length : Int) - 1 = ((k - 1 : Nat) : Int) by omega)) (.inl rfl) (by omega) (by omega)) (hd 19 rfl) ?_; refine jo_l (ly_as rfl) (hd 0 rfl) ?_; refine jo_nil ?_
        refine ⟨k - 1, ?_, ?_, rfl, cov_n 37 rfl rfl ?_⟩
        · exact ⟨by omega, by rw [← hc2, tN_down (by omega) (by rw [← getD_take (show k - 1 < k by omega)]; assumption)]⟩
        · omega
        · exact (.cons (by show some (V.n false .u64 _) = some (V.n false .u64 _); rw [List.drop_zero, List.take_take, Nat.min_eq_left (by omega)]) (.u (.u (.u (.u (.u (.u (.u (.u (.u (.u (.u (.u (.u (.u (.u (.u (.u .nil))))))))))))))))))
      · refine jc_exit ?_; refine jc_seq ?_; refine jc_region ?_; refine jo_l (ly_mv rfl) (hd 20 rfl) ?_; refine jo_l (ly_as rfl) (hd 2 rfl) ?_; refine jo_nil ?_; refine jc_ret ?_
        refine ⟨_, _, (.cons rfl .nil), .n, ?_⟩
        unfold trm
        rw [← hc2, tN_stop (by omega) (by rw [← getD_take (show k - 1 < k by omega)]; assumption)]
    · refine jo_s 6 rfl rfl rfl (hd 7 rfl) ?_; refine jo_s 6 rfl rfl rfl (hd 8 rfl) ?_; refine jo_s 6 rfl rfl rfl (hd 9 rfl) ?_; refine jo_s 6 rfl rfl rfl (hd 10 rfl) ?_; refine jo_s 6 rfl rfl rfl (hd 11 rfl) ?_; refine jo_s 6 rfl rfl rfl (hd 12 rfl) ?_; refine jo_s 6 rfl rfl rfl (hd 13 rfl) ?_; refine jo_l (ly_pick_f rfl rfl) (hd 14 rfl) ?_; refine jo_nil ?_; refine jc_litf rfl ?_; refine jc_exit ?_; refine jc_seq ?_; refine jc_region ?_; refine jo_l (ly_mv rfl) (hd 20 rfl) ?_; refine jo_l (ly_as rfl) (hd 2 rfl) ?_; refine jo_nil ?_; refine jc_ret ?_
      refine ⟨_, _, (.cons rfl .nil), .n, ?_⟩
      unfold trm
      rw [← hc2, tN_0 (by omega)]

set_option maxHeartbeats 4000000 in
theorem Norm_s (l : List Int) (hl : l.length < 1099511627776) : Spec Tryd.prog 75 [.n false .u64 l] (fun o => o = .ret (.n true .u64 (trm l))) := by
  refine spec_of' [(0, .n false .u64 l)] rfl Tryd.func75 rfl (Nat.le_of_ble_eq_true rfl) fun Γ hN hds hL hR => ?_
  have hd : ∀ d, Nat.blt d 6 = true → d < Γ.N := fun d h => by rw [hN]; exact Nat.le_of_ble_eq_true h
  have hm := trm_len l
  refine jc_seq ?_; refine jc_region ?_; refine jo_l (ly_as rfl) (hd 2 rfl) ?_; refine jo_nil ?_; refine jc_seq ?_; refine jc_region ?_; refine jo_l (ly_mv rfl) (hd 3 rfl) ?_
  refine jo_call Tryd.f87 (trim_s l hl) rfl Tryd.func87 rfl rfl (ovL_cons rfl ovL_nil) (.cons .n .nil) (hd 4 rfl) ?_ (fun ch hp => by simp at hp)
  rintro y hy; injection hy with hy; subst hy; refine jo_h (hy_app0 (id := 0) el28 rfl rfl src_n (by omega) (by unfold maxLen; omega) rfl) (hd 5 rfl) ?_; refine jo_l (ly_as rfl) (hd 2 rfl) ?_; refine jo_nil ?_; refine jc_ret ?_
  refine ⟨_, _, (.cons rfl .nil), (.o rfl (by simp) rfl), ?_⟩
  rw [List.drop_zero, List.take_length]
end Go.Proofs.YtaogaegchagbfaaDoor.Vc

/- Contracts of bits.Len64, nat.From. -/
namespace Go.Proofs.YtaogaegchagbfaaDoor.Vc
open Go Go.RowKit
set_option maxHeartbeats 4000000 in
set_option maxRecDepth 100000 in
theorem Len64_s (x : Nat) (hx : x < 18446744073709551616) : Spec Tryd.prog 93 [.i .u64 (x : Int)] (fun o => o = .ret (.i .i64 (bl 64 x : Int))) := by
  refine spec_of' [(0, .i .u64 (x : Int))] rfl Tryd.func93 rfl (Nat.le_of_ble_eq_true rfl) fun Γ hN hds hL hR => ?_
  have hd : ∀ d, Nat.blt d 25 = true → d < Γ.N := fun d h => by rw [hN]; exact Nat.le_of_ble_eq_true h
  refine jc_seq ?_; refine jc_region ?_; refine jo_l (ly_as rfl) (hd 2 rfl) ?_; refine jo_nil ?_
  refine jc_meetH (G := Nat × Nat) (fun g => bl 64 x = g.2 + bl 64 g.1 ∧ g.1 < 4294967296 ∧ g.2 ≤ 32) (fun g => [(0, .i .u64 (g.1 : Int)), (2, .i .i64 (g.2 : Int)), (3, .u), (4, .u), (5, .u), (6, .u)]) ?_ ?_
  · refine jc_seq ?_; refine jc_region ?_; refine jo_l (ly_mv rfl) (hd 3 rfl) ?_; refine jo_l (ly_ge rfl rfl) (hd 4 rfl) ?_; refine jo_nil ?_
    refine jc_if rfl (fun h1 => ?_) (fun h1 => ?_)
    · refine jc_seq ?_; refine jc_region ?_; refine jo_l (ly_mv rfl) (hd 5 rfl) ?_; refine jo_l (ly_is (ly_shr rfl rfl (by first | omega | (dsimp only; omega)) rfl) (show V.i .u64 _ = V.i .u64 ((x / 4294967296 : Nat) : Int) from congrArg (V.i .u64) (shr_nat (by decide)))) (hd 6 rfl) ?_; refine jo_l (ly_as rfl) (hd 0 rfl) ?_; refine jo_nil ?_; refine jc_region ?_; refine jo_l (ly_as rfl) (hd 2 rfl) ?_; refine jo_nil ?_
      refine ⟨(x / 4294967296, 32), ?_, rfl, cov_n 6 rfl rfl ?_⟩
      · exact ⟨by have h9 := bl64_shift (k := 32) (by decide) (show 2 ^ 32 ≤ x by omega) (by omega); rw [show 2 ^ 32 = 4294967296 by decide] at h9; dsimp only; omega, by dsimp only; omega, by dsimp only; omega⟩
      · exact (.cons rfl (.cons (by show some (V.i .i64 _) = some (V.i .i64 _); rfl) (.u (.u (.u (.u .nil))))))
    · refine jc_skip ?_
      refine ⟨(x, 0), ?_, rfl, cov_n 2 rfl rfl ?_⟩
      · exact ⟨by dsimp only; omega, by dsimp only; omega, by dsimp only; omega⟩
      · exact (.cons rfl (.cons (by show some (V.i .i64 _) = some (V.i .i64 _); rfl) (.u (.u (.u (.u .nil))))))
  · rintro ⟨x1, n1⟩ ⟨he1, hx1, hn1⟩
    dsimp only at he1 hx1 hn1
    refine jc_meetH (G := Nat × Nat) (fun g => bl 64 x = g.2 + bl 64 g.1 ∧ g.1 < 65536 ∧ g.2 ≤ 48) (fun g => [(0, .i .u64 (g.1 : Int)), (2, .i .i64 (g.2 : Int)), (7, .u), (8, .u), (9, .u), (10, .u), (11, .u), (12, .u)]) ?_ ?_
    · refine jc_seq ?_; refine jc_region ?_; refine jo_l (ly_mv rfl) (hd 7 rfl) ?_; refine jo_l (ly_ge rfl rfl) (hd 8 rfl) ?_; refine jo_nil ?_
      refine jc_if rfl (fun h2 => ?_) (fun h2 => ?_)
      · refine jc_seq ?_; refine jc_region ?_; refine jo_l (ly_mv rfl) (hd 9 rfl) ?_; refine jo_l (ly_is (ly_shr rfl rfl (by first | omega | (dsimp only; omega)) rfl) (show V.i .u64 _ = V.i .u64 ((x1 / 65536 : Nat) : Int) from congrArg (V.i .u64) (shr_nat (by decide)))) (hd 10 rfl) ?_; refine jo_l (ly_as rfl) (hd 0 rfl) ?_; refine jo_nil ?_; refine jc_region ?_; refine jo_l (ly_mv rfl) (hd 11 rfl) ?_; refine jo_l (ly_add rfl rfl (r := ((n1 + 16 : Nat) : Int)) (by rw [wrap_i64 (by omega) (by omega)]; omega)) (hd 12 rfl) ?_; refine jo_l (ly_as rfl) (hd 2 rfl) ?_; refine jo_nil ?_
        refine ⟨(x1 / 65536, n1 + 16), ?_, rfl, cov_n 8 rfl rfl ?_⟩
        · exact ⟨by have h9 := bl64_shift (k := 16) (by decide) (show 2 ^ 16 ≤ x1 by omega) (by omega); rw [show 2 ^ 16 = 65536 by decide] at h9; dsimp only; omega, by dsimp only; omega, by dsimp only; omega⟩
        · exact (.cons rfl (.cons (by show some (V.i .i64 _) = some (V.i .i64 _); rfl) (.u (.u (.u (.u (.u (.u .nil))))))))
      · refine jc_skip ?_
        refine ⟨(x1, n1), ?_, rfl, cov_n 2 rfl rfl ?_⟩
        · exact ⟨by dsimp only; omega, by dsimp only; omega, by dsimp only; omega⟩
        · exact (.cons rfl (.cons (by show some (V.i .i64 _) = some (V.i .i64 _); rfl) (.u (.u (.u (.u (.u (.u .nil))))))))
    · rintro ⟨x2, n2⟩ ⟨he2, hx2, hn2⟩
      dsimp only at he2 hx2 hn2
      refine jc_meetH (G := Nat × Nat) (fun g => bl 64 x = g.2 + bl 64 g.1 ∧ g.1 < 256 ∧ g.2 ≤ 56) (fun g => [(0, .i .u64 (g.1 : Int)), (2, .i .i64 (g.2 : Int)), (13, .u), (14, .u), (15, .u), (16, .u), (17, .u), (18, .u)]) ?_ ?_
      · refine jc_seq ?_; refine jc_region ?_; refine jo_l (ly_mv rfl) (hd 13 rfl) ?_; refine jo_l (ly_ge rfl rfl) (hd 14 rfl) ?_; refine jo_nil ?_
        refine jc_if rfl (fun h3 => ?_) (fun h3 => ?_)
        · refine jc_seq ?_; refine jc_region ?_; refine jo_l (ly_mv rfl) (hd 15 rfl) ?_; refine jo_l (ly_is (ly_shr rfl rfl (by first | omega | (dsimp only; omega)) rfl) (show V.i .u64 _ = V.i .u64 ((x2 / 256 : Nat) : Int) from congrArg (V.i .u64) (shr_nat (by decide)))) (hd 16 rfl) ?_; refine jo_l (ly_as rfl) (hd 0 rfl) ?_; refine jo_nil ?_; refine jc_region ?_; refine jo_l (ly_mv rfl) (hd 17 rfl) ?_; refine jo_l (ly_add rfl rfl (r := ((n2 + 8 : Nat) : Int)) (by rw [wrap_i64 (by omega) (by omega)]; omega)) (hd 18 rfl) ?_; refine jo_l (ly_as rfl) (hd 2 rfl) ?_; refine jo_nil ?_
          refine ⟨(x2 / 256, n2 + 8), ?_, rfl, cov_n 8 rfl rfl ?_⟩
          · exact ⟨by have h9 := bl64_shift (k := 8) (by decide) (show 2 ^ 8 ≤ x2 by omega) (by omega); rw [show 2 ^ 8 = 256 by decide] at h9; dsimp only; omega, by dsimp only; omega, by dsimp only; omega⟩
          · exact (.cons rfl (.cons (by show some (V.i .i64 _) = some (V.i .i64 _); rfl) (.u (.u (.u (.u (.u (.u .nil))))))))
        · refine jc_skip ?_
          refine ⟨(x2, n2), ?_, rfl, cov_n 2 rfl rfl ?_⟩
          · exact ⟨by dsimp only; omega, by dsimp only; omega, by dsimp only; omega⟩
          · exact (.cons rfl (.cons (by show some (V.i .i64 _) = some (V.i .i64 _); rfl) (.u (.u (.u (.u (.u (.u .nil))))))))
      · rintro ⟨x3, n3⟩ ⟨he3, hx3, hn3⟩
        dsimp only at he3 hx3 hn3
        refine jc_seq ?_; refine jc_region ?_; refine jo_l (ly_mv rfl) (hd 19 rfl) ?_; refine jo_l (ly_mv rfl) (hd 20 rfl) ?_; refine jo_l (ly_conv und82 und5 rfl (wrap_u8 (by first | omega | (dsimp only; omega)) (by first | omega | (dsimp only; omega)))) (hd 21 rfl) ?_; refine jo_l (ly_ixs (b := lenTab) (i := x3) und9 (by kernel_rfl) rfl rfl (show x3 < 256 by omega)) (hd 22 rfl) ?_
        have h7 := lenTab_at hx3
        have h8 := bl_le 64 x3
        refine jo_l (ly_conv und5 und3 rfl (wrap_i64 (by first | omega | (dsimp only; omega)) (by first | omega | (dsimp only; omega)))) (hd 23 rfl) ?_; refine jo_l (ly_add rfl rfl (wrap_i64 (by first | omega | (dsimp only; omega)) (by first | omega | (dsimp only; omega)))) (hd 24 rfl) ?_; refine jo_l (ly_as rfl) (hd 2 rfl) ?_; refine jo_nil ?_; refine jc_ret ?_
        refine ⟨_, _, (.cons rfl .nil), .i, ?_⟩
        have h7 := lenTab_at hx3
        rw [h7, he3]
        rfl

set_option maxHeartbeats 4000000 in
theorem From_s (v : Int) : Spec Tryd.prog 68 [.i .u64 v] (fun o => o = .ret (.n true .u64 (if v = 0 then [] else [v]))) := by
  refine spec_of' [(0, .i .u64 v)] rfl Tryd.func68 rfl (Nat.le_of_ble_eq_true rfl) fun Γ hN hds hL hR => ?_
  have hd : ∀ d, Nat.blt d 7 = true → d < Γ.N := fun d h => by rw [hN]; exact Nat.le_of_ble_eq_true h
  refine jc_seq ?_; refine jc_region ?_; refine jo_l (ly_as rfl) (hd 2 rfl) ?_; refine jo_nil ?_; refine jc_seq ?_; refine jc_seq ?_; refine jc_region ?_; refine jo_l (ly_mv rfl) (hd 3 rfl) ?_; refine jo_l (ly_eq rfl rfl) (hd 4 rfl) ?_; refine jo_nil ?_
  refine jc_if rfl (fun h1 => ?_) (fun h1 => ?_)
  · refine jc_seq ?_; refine jc_region ?_; refine jo_l (ly_as rfl) (hd 2 rfl) ?_; refine jo_nil ?_; refine jc_ret ?_
    refine ⟨_, _, (.cons rfl .nil), (.nil (fr := true) (k := .u64)), ?_⟩
    rw [if_pos (by assumption)]
  · refine jc_skip ?_; refine jc_seq ?_; refine jc_region ?_; refine jo_l (ly_mv rfl) (hd 5 rfl) ?_; refine jo_h (hy_lit (id := 0) (xs := [.tmp 5]) el28 rfl (ovL_cons rfl ovL_nil) rfl (all2_of rfl) (by decide) rfl) (hd 6 rfl) ?_; refine jo_l (ly_as rfl) (hd 2 rfl) ?_; refine jo_nil ?_; refine jc_ret ?_
    refine ⟨_, _, (.cons rfl .nil), (.o (T := 76) (k := .u64) (l := [v]) rfl (by simp) rfl), ?_⟩
    rw [if_neg (by assumption)]
    rfl
end Go.Proofs.YtaogaegchagbfaaDoor.Vc

/- Contracts of nat.Length, Compare, told. -/
namespace Go.Proofs.YtaogaegchagbfaaDoor.Vc
open Go Go.RowKit
set_option maxHeartbeats 4000000 in
theorem Length_s (l : List Int) (hl : l.length < 1099511627776) (hu : u64s l) : Spec Tryd.prog 71 [.n false .u64 l] (fun o => o = .ret (.i .i64 (lenN l : Int))) := by
  refine spec_of' [(0, .n false .u64 l)] rfl Tryd.func71 rfl (Nat.le_of_ble_eq_true rfl) fun Γ hN hds hL hR => ?_
  have hd : ∀ d, Nat.blt d 20 = true → d < Γ.N := fun d h => by rw [hN]; exact Nat.le_of_ble_eq_true h
  have hm := trm_len l
  refine jc_seq ?_; refine jc_region ?_; refine jo_l (ly_as rfl) (hd 2 rfl) ?_; refine jo_nil ?_; refine jc_seq ?_; refine jc_region ?_; refine jo_l (ly_mv rfl) (hd 3 rfl) ?_
  refine jo_call Tryd.f87 (trim_s l hl) rfl Tryd.func87 rfl rfl (ovL_cons rfl ovL_nil) (.cons .n .nil) (hd 4 rfl) ?_ (fun ch hp => by simp at hp)
  rintro y hy; injection hy with hy; subst hy; refine jo_l (ly_as rfl) (hd 0 rfl) ?_; refine jo_nil ?_; refine jc_seq ?_; refine jc_seq ?_; refine jc_region ?_; refine jo_l (ly_mv rfl) (hd 5 rfl) ?_; refine jo_l (ly_lenn sl28 rfl) (hd 6 rfl) ?_; refine jo_l (ly_eq rfl rfl) (hd 7 rfl) ?_; refine jo_nil ?_
  refine jc_if rfl (fun h1 => ?_) (fun h1 => ?_)
  · refine jc_seq ?_; refine jc_region ?_; refine jo_l (ly_as rfl) (hd 2 rfl) ?_; refine jo_nil ?_; refine jc_ret ?_
    refine ⟨_, _, (.cons rfl .nil), .i, ?_⟩
    unfold lenN
    rw [if_pos (by omega)]
    rfl
  · have htop := u64s_at (u64s_trm hu) (i := (trm l).length - 1) (by omega)
    have hbl := bl_le 64 ((trm l).getD ((trm l).length - 1) 0).toNat
    refine jc_skip ?_; refine jc_seq ?_; refine jc_region ?_; refine jo_l (ly_mv rfl) (hd 8 rfl) ?_; refine jo_l (ly_lenn sl28 rfl) (hd 9 rfl) ?_; refine jo_l (ly_sub rfl rfl (wrap_i64 (by omega) (by omega))) (hd 10 rfl) ?_; refine jo_l (ly_mul rfl rfl (wrap_i64 (by omega) (by omega))) (hd 11 rfl) ?_; refine jo_l (ly_mv rfl) (hd 12 rfl) ?_; refine jo_l (ly_mv rfl) (hd 13 rfl) ?_; refine jo_l (ly_lenn sl28 rfl) (hd 14 rfl) ?_; refine jo_l (ly_sub rfl rfl (wrap_i64 (by omega) (by omega))) (hd 15 rfl) ?_; refine jo_l (ly_ian (i := (trm l).length - 1) sl28 rfl rfl (by first | rfl | omega) (by omega)) (hd 16 rfl) ?_; refine jo_l (ly_is (ly_ldq one82 rfl rfl) (show V.i .u64 ((trm l).getD ((trm l).length - 1) 0) = V.i .u64 (((trm l).getD ((trm l).length - 1) 0).toNat : Int) by rw [Int.toNat_of_nonneg htop.1])) (hd 17 rfl) ?_
    refine jo_call Tryd.f93 (Len64_s ((trm l).getD ((trm l).length - 1) 0).toNat (by omega)) rfl Tryd.func93 rfl rfl (ovL_cons rfl ovL_nil) (.cons .i .nil) (hd 18 rfl) ?_ (fun ch hp => by simp at hp)
    rintro y hy; injection hy with hy; subst hy; refine jo_l (ly_add rfl rfl (wrap_i64 (by omega) (by omega))) (hd 19 rfl) ?_; refine jo_l (ly_as rfl) (hd 2 rfl) ?_; refine jo_nil ?_; refine jc_ret ?_
    refine ⟨_, _, (.cons rfl .nil), .i, ?_⟩
    unfold lenN
    rw [if_neg (by omega)]
    show Out.ret (V.i .i64 _) = Out.ret (V.i .i64 _)
    congr 2
    omega

set_option maxHeartbeats 4000000 in
theorem Compare_s (a b : List Int) (ha : a.length < 4294967296) (hb : b.length < 4294967296) : Spec Tryd.prog 62 [.n false .u64 a, .n false .u64 b] (fun o => o = .ret (.i .i64 (cmpL (trm a) (trm b)))) := by
  refine spec_of' [(0, .n false .u64 a), (1, .n false .u64 b)] rfl Tryd.func62 rfl (Nat.le_of_ble_eq_true rfl) fun Γ hN hds hL hR => ?_
  have hd : ∀ d, Nat.blt d 45 = true → d < Γ.N := fun d h => by rw [hN]; exact Nat.le_of_ble_eq_true h
  have hma := trm_len a
  have hmb := trm_len b
  refine jc_seq ?_; refine jc_region ?_; refine jo_l (ly_as rfl) (hd 4 rfl) ?_; refine jo_nil ?_; refine jc_seq ?_; refine jc_region ?_; refine jo_l (ly_mv rfl) (hd 6 rfl) ?_
  refine jo_call Tryd.f87 (trim_s a (by omega)) rfl Tryd.func87 rfl rfl (ovL_cons rfl ovL_nil) (.cons .n .nil) (hd 7 rfl) ?_ (fun ch hp => by simp at hp)
  rintro y hy; injection hy with hy; subst hy; refine jo_l (ly_mv rfl) (hd 8 rfl) ?_
  refine jo_call Tryd.f87 (trim_s b (by omega)) rfl Tryd.func87 rfl rfl (ovL_cons rfl ovL_nil) (.cons .n .nil) (hd 9 rfl) ?_ (fun ch hp => by simp at hp)
  rintro y hy; injection hy with hy; subst hy; refine jo_l (ly_as rfl) (hd 0 rfl) ?_; refine jo_l (ly_as rfl) (hd 1 rfl) ?_; refine jo_nil ?_; refine jc_seq ?_; refine jc_seq ?_; refine jc_region ?_; refine jo_l (ly_mv rfl) (hd 10 rfl) ?_; refine jo_l (ly_lenn sl28 rfl) (hd 11 rfl) ?_; refine jo_l (ly_mv rfl) (hd 12 rfl) ?_; refine jo_l (ly_lenn sl28 rfl) (hd 13 rfl) ?_; refine jo_l (ly_ne rfl rfl) (hd 14 rfl) ?_; refine jo_nil ?_
  refine jc_if rfl (fun h1 => ?_) (fun h1 => ?_)
  · refine jc_seq ?_; refine jc_seq ?_; refine jc_region ?_; refine jo_l (ly_mv rfl) (hd 15 rfl) ?_; refine jo_l (ly_lenn sl28 rfl) (hd 16 rfl) ?_; refine jo_l (ly_mv rfl) (hd 17 rfl) ?_; refine jo_l (ly_lenn sl28 rfl) (hd 18 rfl) ?_; refine jo_l (ly_lt rfl rfl) (hd 19 rfl) ?_; refine jo_nil ?_
    refine jc_if rfl (fun h2 => ?_) (fun h2 => ?_)
    · refine jc_seq ?_; refine jc_region ?_; refine jo_l (ly_as rfl) (hd 4 rfl) ?_; refine jo_nil ?_; refine jc_ret ?_
      refine ⟨_, _, (.cons rfl .nil), .i, ?_⟩
      unfold cmpL
      rw [if_pos (by omega)]
    · refine jc_skip ?_; refine jc_seq ?_; refine jc_region ?_; refine jo_l (ly_as rfl) (hd 4 rfl) ?_; refine jo_nil ?_; refine jc_ret ?_
      refine ⟨_, _, (.cons rfl .nil), .i, ?_⟩
      unfold cmpL
      rw [if_neg (by omega), if_pos (by omega)]
  · refine jc_skip ?_; refine jc_seq ?_; refine jc_seq ?_; refine jc_region ?_; refine jo_l (ly_mv rfl) (hd 20 rfl) ?_; refine jo_l (ly_lenn sl28 rfl) (hd 21 rfl) ?_; refine jo_l (ly_sub rfl rfl (wrap_i64 (by omega) (by omega))) (hd 22 rfl) ?_; refine jo_l (ly_as rfl) (hd 5 rfl) ?_; refine jo_nil ?_; refine jc_block ?_
    refine jc_loopF (G := Nat) (fun k => k ≤ (trm a).length ∧ cmpN (trm a) (trm b) k = cmpN (trm a) (trm b) (trm a).length) (fun k => [(5, .i .i64 ((k : Int) - 1)), (4, .u), (23, .u), (24, .u), (25, .u), (26, .u), (27, .u), (28, .u), (29, .u), (30, .u), (31, .u), (32, .u), (33, .u), (34, .u), (35, .u), (36, .u), (37, .u), (38, .u), (39, .u), (40, .u), (41, .u), (42, .u), (43, .u), (44, .u)]) (fun _ => _) (fun k => k) (trm a).length ?_ ?_ rfl ?_
    · exact ⟨Nat.le_refl _, rfl⟩
    · exact (.cons rfl (.u (.u (.u (.u (.u (.u (.u (.u (.u (.u (.u (.u (.u (.u (.u (.u (.u (.u (.u (.u (.u (.u (.u .nil))))))))))))))))))))))))
    · rintro k ⟨hc1, hc2⟩; refine jc_seq ?_; refine jc_seq ?_; refine jc_region ?_; refine jo_l (ly_mv rfl) (hd 23 rfl) ?_; refine jo_l (ly_ge rfl rfl) (hd 24 rfl) ?_; refine jo_nil ?_
      refine jc_if rfl (fun h3 => ?_) (fun h3 => ?_)
      · refine jc_skip ?_; refine jc_seq ?_; refine jc_block ?_; refine jc_seq ?_; refine jc_seq ?_; refine jc_draw (n := 9) _ rfl mixed ?_; refine ja_l2 0 [2, 3, 8] (lo_l (ly_mv rfl) (hd 27 rfl)) rfl (by kernel_rfl) (by kernel_rfl) (by kernel_rfl) (by kernel_rfl) (fun _ _ _ _ h => h) ?_; refine ja_l2 1 [2, 3, 8] (lo_l (ly_mv rfl) (hd 28 rfl)) rfl (by kernel_rfl) (by kernel_rfl) (by kernel_rfl) (by kernel_rfl) (fun _ _ _ _ h => h) ?_; refine ja_l2 2 [3, 8] (lo_l (ly_ian (i := k - 1) sl28 rfl rfl (by omega) (by omega)) (hd 29 rfl)) rfl (by kernel_rfl) (by kernel_rfl) (by kernel_rfl) (by kernel_rfl) (fun _ _ _ _ h => h) ?_; refine ja_l 3 (lo_l (ly_ldq one82 rfl rfl) (hd 30 rfl)) rfl (by kernel_rfl) (by kernel_rfl) (by kernel_rfl) (fun _ _ _ _ h => h) ?_; refine ja_l2 4 [6, 7, 8] (lo_l (ly_mv rfl) (hd 31 rfl)) rfl (by kernel_rfl) (by kernel_rfl) (by kernel_rfl) (by kernel_rfl) (fun _ _ _ _ h => h) ?_; refine ja_l2 5 [6, 7, 8] (lo_l (ly_mv rfl) (hd 32 rfl)) rfl (by kernel_rfl) (by kernel_rfl) (by kernel_rfl) (by kernel_rfl) (fun _ _ _ _ h => h) ?_; refine ja_l2 6 [7, 8] (lo_l (ly_ian (i := k - 1) sl28 rfl rfl (by omega) (by omega)) (hd 33 rfl)) rfl (by kernel_rfl) (by kernel_rfl) (by kernel_rfl) (by kernel_rfl) (fun _ _ _ _ h => h) ?_; refine ja_l 7 (lo_l (ly_ldq one82 rfl rfl) (hd 34 rfl)) rfl (by kernel_rfl) (by kernel_rfl) (by kernel_rfl) (fun _ _ _ _ h => h) ?_; refine ja_l 8 (lo_l (ly_lt rfl rfl) (hd 35 rfl)) rfl (by kernel_rfl) (by kernel_rfl) (by kernel_rfl) (fun _ _ _ _ h => h) ?_; refine ja_nil (by kernel_rfl) ?_
        refine jc_if rfl (fun h4 => ?_) (fun h4 => ?_)
        · refine jc_seq ?_; refine jc_region ?_; refine jo_l (ly_as rfl) (hd 4 rfl) ?_; refine jo_nil ?_; refine jc_ret ?_
          refine ⟨_, _, (.cons rfl .nil), .i, ?_⟩
          unfold cmpL
          rw [if_neg (by omega), if_neg (by omega), ← hc2, cmpN_lt (by omega) (by assumption)]
        · refine jc_skip ?_; refine jc_seq ?_; refine jc_draw (n := 9) _ rfl mixed ?_; refine ja_l2 0 [2, 3, 8] (lo_l (ly_mv rfl) (hd 36 rfl)) rfl (by kernel_rfl) (by kernel_rfl) (by kernel_rfl) (by kernel_rfl) (fun _ _ _ _ h => h) ?_; refine ja_l2 1 [2, 3, 8] (lo_l (ly_mv rfl) (hd 37 rfl)) rfl (by kernel_rfl) (by kernel_rfl) (by kernel_rfl) (by kernel_rfl) (fun _ _ _ _ h => h) ?_; refine ja_l2 2 [3, 8] (lo_l (ly_ian (i := k - 1) sl28 rfl rfl (by omega) (by omega)) (hd 38 rfl)) rfl (by kernel_rfl) (by kernel_rfl) (by kernel_rfl) (by kernel_rfl) (fun _ _ _ _ h => h) ?_; refine ja_l 3 (lo_l (ly_ldq one82 rfl rfl) (hd 39 rfl)) rfl (by kernel_rfl) (by kernel_rfl) (by kernel_rfl) (fun _ _ _ _ h => h) ?_; refine ja_l2 4 [6, 7, 8] (lo_l (ly_mv rfl) (hd 40 rfl)) rfl (by kernel_rfl) (by kernel_rfl) (by kernel_rfl) (by kernel_rfl) (fun _ _ _ _ h => h) ?_; refine ja_l2 5 [6, 7, 8] (lo_l (ly_mv rfl) (hd 41 rfl)) rfl (by kernel_rfl) (by kernel_rfl) (by kernel_rfl) (by kernel_rfl) (fun _ _ _ _ h => h) ?_; refine ja_l2 6 [7, 8] (lo_l (ly_ian (i := k - 1) sl28 rfl rfl (by omega) (by omega)) (hd 42 rfl)) rfl (by kernel_rfl) (by kernel_rfl) (by kernel_rfl) (by kernel_rfl) (fun _ _ _ _ h => h) ?_; refine ja_l 7 (lo_l (ly_ldq one82 rfl rfl) (hd 43 rfl)) rfl (by kernel_rfl) (by kernel_rfl) (by kernel_rfl) (fun _ _ _ _ h => h) ?_; refine ja_l 8 (lo_l (ly_gt rfl rfl) (hd 44 rfl)) rfl (by kernel_rfl) (by kernel_rfl) (by kernel_rfl) (fun _ _ _ _ h => h) ?_; refine ja_nil (by kernel_rfl) ?_
          refine jc_if rfl (fun h5 => ?_) (fun h5 => ?_)
          · refine jc_seq ?_; refine jc_region ?_; refine jo_l (ly_as rfl) (hd 4 rfl) ?_; refine jo_nil ?_; refine jc_ret ?_
            refine ⟨_, _, (.cons rfl .nil), .i, ?_⟩
            unfold cmpL
            rw [if_neg (by omega), if_neg (by omega), ← hc2, cmpN_gt (by omega) (by assumption)]
          · refine jc_skip ?_; refine jc_region ?_; refine jo_l (ly_mv rfl) (hd 25 rfl) ?_; refine jo_l (ly_sub rfl rfl (wrap_i64 (by omega) (by omega))) (hd 26 rfl) ?_; refine jo_l (ly_as rfl) (hd 5 rfl) ?_; refine jo_nil ?_
            refine ⟨k - 1, ?_, ?_, rfl, cov_n 47 rfl rfl ?_⟩
            · exact ⟨by omega, by rw [← hc2]; exact cmpN_eq (by omega) (by assumption) (by assumption)⟩
            · omega
            · exact (.cons (by show some (V.i .i64 _) = some (V.i .i64 _); congr 2; omega) (.u (.u (.u (.u (.u (.u (.u (.u (.u (.u (.u (.u (.u (.u (.u (.u (.u (.u (.u (.u (.u (.u (.u .nil))))))))))))))))))))))))
      · refine jc_exit ?_; refine jc_seq ?_; refine jc_region ?_; refine jo_l (ly_as rfl) (hd 4 rfl) ?_; refine jo_nil ?_; refine jc_ret ?_
        refine ⟨_, _, (.cons rfl .nil), .i, ?_⟩
        unfold cmpL
        rw [if_neg (by omega), if_neg (by omega), ← hc2]
        obtain rfl : k = 0 := by omega
        rfl

set_option maxHeartbeats 4000000 in
theorem told_ok (l : List Int) (hl : l.length < 1099511627776) (hu : u64s l) (h : lenN (trm l) ≤ 67108864) : Spec Tryd.prog 89 [.n false .u64 l] (fun o => o = .ret (.t [.n false .u64 (trm l), .i .i64 0])) := by
  refine spec_of' [(0, .n false .u64 l)] rfl Tryd.func89 rfl (Nat.le_of_ble_eq_true rfl) fun Γ hN hds hL hR => ?_
  have hd : ∀ d, Nat.blt d 10 = true → d < Γ.N := fun d h => by rw [hN]; exact Nat.le_of_ble_eq_true h
  have hm := trm_len l
  refine jc_seq ?_; refine jc_region ?_; refine jo_l (ly_as rfl) (hd 2 rfl) ?_; refine jo_l (ly_as rfl) (hd 3 rfl) ?_; refine jo_nil ?_; refine jc_seq ?_; refine jc_region ?_; refine jo_l (ly_mv rfl) (hd 4 rfl) ?_
  refine jo_call Tryd.f87 (trim_s l hl) rfl Tryd.func87 rfl rfl (ovL_cons rfl ovL_nil) (.cons .n .nil) (hd 5 rfl) ?_ (fun ch hp => by simp at hp)
  rintro y hy; injection hy with hy; subst hy; refine jo_l (ly_as rfl) (hd 0 rfl) ?_; refine jo_nil ?_; refine jc_seq ?_; refine jc_seq ?_; refine jc_region ?_; refine jo_l (ly_mv rfl) (hd 6 rfl) ?_
  refine jo_call Tryd.f71 (Length_s (trm l) (by omega) (u64s_trm hu)) rfl Tryd.func71 rfl rfl (ovL_cons rfl ovL_nil) (.cons .n .nil) (hd 7 rfl) ?_ (fun ch hp => by simp at hp)
  rintro y hy; injection hy with hy; subst hy; refine jo_l (ly_ff (ly_gt rfl rfl) (by omega)) (hd 8 rfl) ?_; refine jo_nil ?_; refine jc_litf rfl ?_; refine jc_skip ?_; refine jc_seq ?_; refine jc_region ?_; refine jo_l (ly_mv rfl) (hd 9 rfl) ?_; refine jo_l (ly_as rfl) (hd 2 rfl) ?_; refine jo_l (ly_as rfl) (hd 3 rfl) ?_; refine jo_nil ?_; refine jc_ret ?_
  refine ⟨_, _, (.cons rfl (.cons rfl .nil)), (.t1 .n (.t1 .i .t0)), ?_⟩
  exact rfl

set_option maxHeartbeats 4000000 in
theorem told_big (l : List Int) (hl : l.length < 1099511627776) (hu : u64s l) (h : 67108864 < lenN (trm l)) : Spec Tryd.prog 89 [.n false .u64 l] (fun o => o = .ret (.t [.n false .u64 [], .i .i64 3])) := by
  refine spec_of' [(0, .n false .u64 l)] rfl Tryd.func89 rfl (Nat.le_of_ble_eq_true rfl) fun Γ hN hds hL hR => ?_
  have hd : ∀ d, Nat.blt d 10 = true → d < Γ.N := fun d h => by rw [hN]; exact Nat.le_of_ble_eq_true h
  have hm := trm_len l
  refine jc_seq ?_; refine jc_region ?_; refine jo_l (ly_as rfl) (hd 2 rfl) ?_; refine jo_l (ly_as rfl) (hd 3 rfl) ?_; refine jo_nil ?_; refine jc_seq ?_; refine jc_region ?_; refine jo_l (ly_mv rfl) (hd 4 rfl) ?_
  refine jo_call Tryd.f87 (trim_s l hl) rfl Tryd.func87 rfl rfl (ovL_cons rfl ovL_nil) (.cons .n .nil) (hd 5 rfl) ?_ (fun ch hp => by simp at hp)
  rintro y hy; injection hy with hy; subst hy; refine jo_l (ly_as rfl) (hd 0 rfl) ?_; refine jo_nil ?_; refine jc_seq ?_; refine jc_seq ?_; refine jc_region ?_; refine jo_l (ly_mv rfl) (hd 6 rfl) ?_
  refine jo_call Tryd.f71 (Length_s (trm l) (by omega) (u64s_trm hu)) rfl Tryd.func71 rfl rfl (ovL_cons rfl ovL_nil) (.cons .n .nil) (hd 7 rfl) ?_ (fun ch hp => by simp at hp)
  rintro y hy; injection hy with hy; subst hy; refine jo_l (ly_tt (ly_gt rfl rfl) (by omega)) (hd 8 rfl) ?_; refine jo_nil ?_; refine jc_litt rfl ?_; refine jc_seq ?_; refine jc_region ?_; refine jo_l (ly_as rfl) (hd 2 rfl) ?_; refine jo_l (ly_as rfl) (hd 3 rfl) ?_; refine jo_nil ?_; refine jc_ret ?_
  refine ⟨_, _, (.cons rfl (.cons rfl .nil)), (.t1 (.nil (fr := false) (k := .u64)) (.t1 .i .t0)), ?_⟩
  exact rfl
end Go.Proofs.YtaogaegchagbfaaDoor.Vc

/- Contract of nat.Add. -/
namespace Go.Proofs.YtaogaegchagbfaaDoor.Vc
open Go Go.RowKit
set_option maxHeartbeats 4000000 in
theorem Add_ok (a b : List Int) (ha : a.length < 4294967296) (hb : b.length < 4294967296) (ua : u64s a) (ub : u64s b) (h : lenN (trm (sumL a b)) ≤ 67108864) : Spec Tryd.prog 60 [.n false .u64 a, .n false .u64 b] (fun o => o = .ret (.t [.n false .u64 (trm (sumL a b)), .i .i64 0])) := by
  refine spec_of' [(0, .n false .u64 a), (1, .n false .u64 b)] rfl Tryd.func60 rfl (Nat.le_of_ble_eq_true rfl) fun Γ hN hds hL hR => ?_
  have hd : ∀ d, Nat.blt d 61 = true → d < Γ.N := fun d h => by rw [hN]; exact Nat.le_of_ble_eq_true h
  have hma := trm_len a
  have hmb := trm_len b
  refine jc_seq ?_; refine jc_region ?_; refine jo_l (ly_as rfl) (hd 4 rfl) ?_; refine jo_l (ly_as rfl) (hd 5 rfl) ?_; refine jo_nil ?_; refine jc_seq ?_; refine jc_region ?_; refine jo_l (ly_mv rfl) (hd 10 rfl) ?_
  refine jo_call Tryd.f87 (trim_s a (by omega)) rfl Tryd.func87 rfl rfl (ovL_cons rfl ovL_nil) (.cons .n .nil) (hd 11 rfl) ?_ (fun ch hp => by simp at hp)
  rintro y hy; injection hy with hy; subst hy; refine jo_l (ly_mv rfl) (hd 12 rfl) ?_
  refine jo_call Tryd.f87 (trim_s b (by omega)) rfl Tryd.func87 rfl rfl (ovL_cons rfl ovL_nil) (.cons .n .nil) (hd 13 rfl) ?_ (fun ch hp => by simp at hp)
  rintro y hy; injection hy with hy; subst hy; refine jo_l (ly_as rfl) (hd 0 rfl) ?_; refine jo_l (ly_as rfl) (hd 1 rfl) ?_; refine jo_nil ?_
  refine jc_meetH (G := List Int × List Int) (fun g => swL (trm a) (trm b) = g ∧ g.1.length < 4294967296 ∧ u64s g.1 ∧ u64s g.2) (fun g => [(0, .n false .u64 g.1), (1, .n false .u64 g.2), (14, .u), (15, .u), (16, .u), (17, .u), (18, .u), (19, .u), (20, .u)]) ?_ ?_
  · refine jc_seq ?_; refine jc_region ?_; refine jo_l (ly_mv rfl) (hd 14 rfl) ?_; refine jo_l (ly_lenn sl28 rfl) (hd 15 rfl) ?_; refine jo_l (ly_mv rfl) (hd 16 rfl) ?_; refine jo_l (ly_lenn sl28 rfl) (hd 17 rfl) ?_; refine jo_l (ly_lt rfl rfl) (hd 18 rfl) ?_; refine jo_nil ?_
    refine jc_if rfl (fun h1 => ?_) (fun h1 => ?_)
    · refine jc_region ?_; refine jo_l (ly_mv rfl) (hd 19 rfl) ?_; refine jo_l (ly_mv rfl) (hd 20 rfl) ?_; refine jo_l (ly_as rfl) (hd 0 rfl) ?_; refine jo_l (ly_as rfl) (hd 1 rfl) ?_; refine jo_nil ?_
      refine ⟨(trm b, trm a), ?_, rfl, cov_n 9 rfl rfl ?_⟩
      · exact ⟨by unfold swL; rw [if_pos (by omega)], by show (trm b).length < _; omega, u64s_trm ub, u64s_trm ua⟩
      · exact (.cons rfl (.cons rfl (.u (.u (.u (.u (.u (.u (.u .nil)))))))))
    · refine jc_skip ?_
      refine ⟨(trm a, trm b), ?_, rfl, cov_n 5 rfl rfl ?_⟩
      · exact ⟨by unfold swL; rw [if_neg (by omega)], by show (trm a).length < _; omega, u64s_trm ua, u64s_trm ub⟩
      · exact (.cons rfl (.cons rfl (.u (.u (.u (.u (.u (.u (.u .nil)))))))))
  · rintro ⟨X, Y⟩ ⟨hg, hX, uX, uY⟩
    dsimp only at hg hX uX uY ⊢
    have hS : sumL a b = (adN X Y X.length).1 ++ [(adN X Y X.length).2] := by unfold sumL; rw [hg]
    refine jc_seq ?_; refine jc_region ?_; refine jo_l (ly_mv rfl) (hd 21 rfl) ?_; refine jo_l (ly_lenn sl28 rfl) (hd 22 rfl) ?_; refine jo_l (ly_add rfl rfl (r := ((X.length + 1 : Nat) : Int)) (by rw [wrap_i64 (by omega) (by omega)]; omega)) (hd 23 rfl) ?_; refine jo_h (hy_mk (m := X.length + 1) el28 rfl rfl rfl (by show 8 * (X.length + 1) ≤ _; omega) (by unfold maxLen; omega) rfl) (hd 24 rfl) ?_; refine jo_l (ly_as rfl) (hd 6 rfl) ?_; refine jo_nil ?_; refine jc_seq ?_; refine jc_region ?_; refine jo_l (ly_as rfl) (hd 7 rfl) ?_; refine jo_nil ?_; refine jc_seq ?_; refine jc_seq ?_; refine jc_region ?_; refine jo_l (ly_mv rfl) (hd 25 rfl) ?_; refine jo_l (ly_lenn sl28 rfl) (hd 26 rfl) ?_; refine jo_l (ly_mv rfl) (hd 27 rfl) ?_; refine jo_nil ?_; refine jc_block ?_
    refine jc_loopF (G := Nat) (fun i => i ≤ X.length) (fun i => [(7, .i .u64 (adN X Y i).2), (27, .i .i64 (i : Int)), (8, .u), (9, .u), (28, .u), (29, .u), (30, .u), (31, .u), (32, .u), (33, .u), (34, .u), (35, .u), (36, .u), (37, .u), (38, .u), (39, .u), (40, .u), (41, .u), (42, .u), (43, .u), (44, .u), (45, .u), (46, .u), (47, .u), (48, .u), (49, .u), (50, .u), (51, .u)]) (fun i => [⟨76, 1, 0, true, ints .u64 (fillI (adN X Y i).1 (X.length + 1))⟩]) (fun i => X.length - i) 0 ?_ ?_ rfl ?_
    · exact Nat.zero_le _
    · exact (.cons rfl (.cons rfl (.u (.u (.u (.u (.u (.u (.u (.u (.u (.u (.u (.u (.u (.u (.u (.u (.u (.u (.u (.u (.u (.u (.u (.u (.u (.u .nil))))))))))))))))))))))))))))
    · rintro i hc1
      have hf := fillI_len (l := (adN X Y i).1) (n := X.length + 1) (by rw [adN_len]; omega)
      have hc := adN_c uX uY i
      have hx := u64s_getD uX i
      have hy := u64s_getD uY i
      refine jc_seq ?_; refine jc_region ?_; refine jo_l (ly_lt rfl rfl) (hd 28 rfl) ?_; refine jo_nil ?_; refine jc_seq ?_
      refine jc_if rfl (fun h2 => ?_) (fun h2 => ?_)
      · refine jc_skip ?_; refine jc_seq ?_; refine jc_block ?_; refine jc_seq ?_; refine jc_region ?_; refine jo_l (ly_mv rfl) (hd 29 rfl) ?_; refine jo_l (ly_as rfl) (hd 8 rfl) ?_; refine jo_nil ?_; refine jc_seq ?_; refine jc_region ?_; refine jo_l (ly_as rfl) (hd 9 rfl) ?_; refine jo_nil ?_
        refine jc_meetH (G := Unit) (fun _ => True) (fun _ => [(9, .i .u64 (Y.getD i 0)), (30, .u), (31, .u), (32, .u), (33, .u), (34, .u), (35, .u), (36, .u), (37, .u)]) ?_ ?_
        · refine jc_seq ?_; refine jc_region ?_; refine jo_l (ly_mv rfl) (hd 30 rfl) ?_; refine jo_l (ly_mv rfl) (hd 31 rfl) ?_; refine jo_l (ly_lenn sl28 rfl) (hd 32 rfl) ?_; refine jo_l (ly_lt rfl rfl) (hd 33 rfl) ?_; refine jo_nil ?_
          refine jc_if rfl (fun h3 => ?_) (fun h3 => ?_)
          · refine jc_region ?_; refine jo_l (ly_mv rfl) (hd 34 rfl) ?_; refine jo_l (ly_mv rfl) (hd 35 rfl) ?_; refine jo_l (ly_ian (i := i) sl28 rfl rfl (by first | rfl | omega) (by omega)) (hd 36 rfl) ?_; refine jo_l (ly_ldq one82 rfl rfl) (hd 37 rfl) ?_; refine jo_l (ly_as rfl) (hd 9 rfl) ?_; refine jo_nil ?_
            refine ⟨(), ?_, rfl, cov_n 9 rfl rfl ?_⟩
            · trivial
            · exact (.cons (by first | rfl | (show some (V.i .u64 _) = some (V.i .u64 _); rw [getD_ge (by omega)])) (.u (.u (.u (.u (.u (.u (.u (.u .nil)))))))))
          · refine jc_skip ?_
            refine ⟨(), ?_, rfl, cov_n 4 rfl rfl ?_⟩
            · trivial
            · exact (.cons (by first | rfl | (show some (V.i .u64 _) = some (V.i .u64 _); rw [getD_ge (by omega)])) (.u (.u (.u (.u (.u (.u (.u (.u .nil)))))))))
        · rintro _ _; refine jc_region ?_; refine jo_l (ly_mv rfl) (hd 39 rfl) ?_; refine jo_l (ly_mv rfl) (hd 40 rfl) ?_; refine jo_l (ly_mv rfl) (hd 41 rfl) ?_; refine jo_l (ly_mv rfl) (hd 42 rfl) ?_; refine jo_l (ly_ian (i := i) sl28 rfl rfl (by first | rfl | omega) (by omega)) (hd 43 rfl) ?_; refine jo_l (ly_ldq one82 rfl rfl) (hd 44 rfl) ?_; refine jo_l (ly_mv rfl) (hd 45 rfl) ?_; refine jo_l (ly_mv rfl) (hd 46 rfl) ?_; refine jo_h (hy_ext3 (e := add64Entry) Tryd.func88 rfl rfl (by kernel_rfl) (by kernel_rfl) rfl rfl rfl (fun w => run_add64 _ _ _ hx.1 hy.1 hc.1 hc.2 w) rel_pair) (hd 47 rfl) ?_; refine jo_l (ly_mv rfl) (hd 38 rfl) ?_; refine jo_l (ly_ext rfl rfl) (hd 48 rfl) ?_; refine jo_l (ly_ext rfl rfl) (hd 49 rfl) ?_; refine jo_l (ly_ia (i := i) sl28 rfl rfl rfl (by first | rfl | omega) (by omega) rfl) (hd 50 rfl) ?_; refine jo_st (sy_storei rfl rfl rfl one82 (by omega)) ?_; refine jo_l (ly_as rfl) (hd 7 rfl) ?_; refine jo_nil ?_; refine jc_region ?_; refine jo_l (ly_add rfl rfl (wrap_i64 (by omega) (by omega))) (hd 51 rfl) ?_; refine jo_l (ly_mv rfl) (hd 27 rfl) ?_; refine jo_nil ?_
          refine ⟨i + 1, ?_, ?_, (by show [(⟨76, 1, 0, true, ints .u64 _⟩ : Ob)] = [⟨76, 1, 0, true, ints .u64 _⟩]; rw [fill_ad (by omega)]), cov_n 57 rfl rfl ?_⟩
          · omega
          · omega
          · exact (.cons rfl (.cons rfl (.u (.u (.u (.u (.u (.u (.u (.u (.u (.u (.u (.u (.u (.u (.u (.u (.u (.u (.u (.u (.u (.u (.u (.u (.u (.u .nil))))))))))))))))))))))))))))
      · refine jc_exit ?_; refine jc_seq ?_
        obtain rfl : i = X.length := by omega
        refine jc_region ?_; refine jo_l (ly_mv rfl) (hd 52 rfl) ?_; refine jo_l (ly_mv rfl) (hd 53 rfl) ?_; refine jo_l (ly_lenn sl28 rfl) (hd 54 rfl) ?_; refine jo_l (ly_mv rfl) (hd 55 rfl) ?_; refine jo_l (ly_ia (i := X.length) sl28 rfl rfl rfl (by first | rfl | omega) (by omega) rfl) (hd 56 rfl) ?_; refine jo_st (sy_storei rfl rfl rfl one82 (by omega)) ?_; refine jo_nil ?_; refine jc_seq ?_; refine jc_region ?_; refine jo_frz (k := .u64) (l' := sumL a b) 6 rfl rfl (by rw [fill_last (adN_len _ _ _)]; simp [adN_len]) (by rw [fill_last (adN_len _ _ _), hS, List.drop_zero, List.take_of_length_le (by simp [adN_len])]) hL ?_; refine jo_l (ly_mv rfl) (hd 57 rfl) ?_
        refine jo_call Tryd.f89 (told_ok (sumL a b) (by rw [hS]; simp only [List.length_append, adN_len, List.length_singleton]; omega) (by rw [hS]; exact u64s_app1 (adN_u _) hc.1 (by omega)) h) rfl Tryd.func89 rfl rfl (ovL_cons rfl ovL_nil) (.cons .n .nil) (hd 58 rfl) ?_ (fun ch hp => by simp at hp)
        rintro y hy; injection hy with hy; subst hy; refine jo_l (ly_ext rfl rfl) (hd 59 rfl) ?_; refine jo_l (ly_ext rfl rfl) (hd 60 rfl) ?_; refine jo_l (ly_as rfl) (hd 4 rfl) ?_; refine jo_l (ly_as rfl) (hd 5 rfl) ?_; refine jo_nil ?_; refine jc_ret ?_
        refine ⟨_, _, (.cons rfl (.cons rfl .nil)), (.t1 .n (.t1 .i .t0)), ?_⟩
        exact rfl

set_option maxHeartbeats 4000000 in
theorem Add_big (a b : List Int) (ha : a.length < 4294967296) (hb : b.length < 4294967296) (ua : u64s a) (ub : u64s b) (h : 67108864 < lenN (trm (sumL a b))) : Spec Tryd.prog 60 [.n false .u64 a, .n false .u64 b] (fun o => o = .ret (.t [.n false .u64 [], .i .i64 3])) := by
  refine spec_of' [(0, .n false .u64 a), (1, .n false .u64 b)] rfl Tryd.func60 rfl (Nat.le_of_ble_eq_true rfl) fun Γ hN hds hL hR => ?_
  have hd : ∀ d, Nat.blt d 61 = true → d < Γ.N := fun d h => by rw [hN]; exact Nat.le_of_ble_eq_true h
  have hma := trm_len a
  have hmb := trm_len b
  refine jc_seq ?_; refine jc_region ?_; refine jo_l (ly_as rfl) (hd 4 rfl) ?_; refine jo_l (ly_as rfl) (hd 5 rfl) ?_; refine jo_nil ?_; refine jc_seq ?_; refine jc_region ?_; refine jo_l (ly_mv rfl) (hd 10 rfl) ?_
  refine jo_call Tryd.f87 (trim_s a (by omega)) rfl Tryd.func87 rfl rfl (ovL_cons rfl ovL_nil) (.cons .n .nil) (hd 11 rfl) ?_ (fun ch hp => by simp at hp)
  rintro y hy; injection hy with hy; subst hy; refine jo_l (ly_mv rfl) (hd 12 rfl) ?_
  refine jo_call Tryd.f87 (trim_s b (by omega)) rfl Tryd.func87 rfl rfl (ovL_cons rfl ovL_nil) (.cons .n .nil) (hd 13 rfl) ?_ (fun ch hp => by simp at hp)
  rintro y hy; injection hy with hy; subst hy; refine jo_l (ly_as rfl) (hd 0 rfl) ?_; refine jo_l (ly_as rfl) (hd 1 rfl) ?_; refine jo_nil ?_
  refine jc_meetH (G := List Int × List Int) (fun g => swL (trm a) (trm b) = g ∧ g.1.length < 4294967296 ∧ u64s g.1 ∧ u64s g.2) (fun g => [(0, .n false .u64 g.1), (1, .n false .u64 g.2), (14, .u), (15, .u), (16, .u), (17, .u), (18, .u), (19, .u), (20, .u)]) ?_ ?_
  · refine jc_seq ?_; refine jc_region ?_; refine jo_l (ly_mv rfl) (hd 14 rfl) ?_; refine jo_l (ly_lenn sl28 rfl) (hd 15 rfl) ?_; refine jo_l (ly_mv rfl) (hd 16 rfl) ?_; refine jo_l (ly_lenn sl28 rfl) (hd 17 rfl) ?_; refine jo_l (ly_lt rfl rfl) (hd 18 rfl) ?_; refine jo_nil ?_
    refine jc_if rfl (fun h1 => ?_) (fun h1 => ?_)
    · refine jc_region ?_; refine jo_l (ly_mv rfl) (hd 19 rfl) ?_; refine jo_l (ly_mv rfl) (hd 20 rfl) ?_; refine jo_l (ly_as rfl) (hd 0 rfl) ?_; refine jo_l (ly_as rfl) (hd 1 rfl) ?_; refine jo_nil ?_
      refine ⟨(trm b, trm a), ?_, rfl, cov_n 9 rfl rfl ?_⟩
      · exact ⟨by unfold swL; rw [if_pos (by omega)], by show (trm b).length < _; omega, u64s_trm ub, u64s_trm ua⟩
      · exact (.cons rfl (.cons rfl (.u (.u (.u (.u (.u (.u (.u .nil)))))))))
    · refine jc_skip ?_
      refine ⟨(trm a, trm b), ?_, rfl, cov_n 5 rfl rfl ?_⟩
      · exact ⟨by unfold swL; rw [if_neg (by omega)], by show (trm a).length < _; omega, u64s_trm ua, u64s_trm ub⟩
      · exact (.cons rfl (.cons rfl (.u (.u (.u (.u (.u (.u (.u .nil)))))))))
  · rintro ⟨X, Y⟩ ⟨hg, hX, uX, uY⟩
    dsimp only at hg hX uX uY ⊢
    have hS : sumL a b = (adN X Y X.length).1 ++ [(adN X Y X.length).2] := by unfold sumL; rw [hg]
    refine jc_seq ?_; refine jc_region ?_; refine jo_l (ly_mv rfl) (hd 21 rfl) ?_; refine jo_l (ly_lenn sl28 rfl) (hd 22 rfl) ?_; refine jo_l (ly_add rfl rfl (r := ((X.length + 1 : Nat) : Int)) (by rw [wrap_i64 (by omega) (by omega)]; omega)) (hd 23 rfl) ?_; refine jo_h (hy_mk (m := X.length + 1) el28 rfl rfl rfl (by show 8 * (X.length + 1) ≤ _; omega) (by unfold maxLen; omega) rfl) (hd 24 rfl) ?_; refine jo_l (ly_as rfl) (hd 6 rfl) ?_; refine jo_nil ?_; refine jc_seq ?_; refine jc_region ?_; refine jo_l (ly_as rfl) (hd 7 rfl) ?_; refine jo_nil ?_; refine jc_seq ?_; refine jc_seq ?_; refine jc_region ?_; refine jo_l (ly_mv rfl) (hd 25 rfl) ?_; refine jo_l (ly_lenn sl28 rfl) (hd 26 rfl) ?_; refine jo_l (ly_mv rfl) (hd 27 rfl) ?_; refine jo_nil ?_; refine jc_block ?_
    refine jc_loopF (G := Nat) (fun i => i ≤ X.length) (fun i => [(7, .i .u64 (adN X Y i).2), (27, .i .i64 (i : Int)), (8, .u), (9, .u), (28, .u), (29, .u), (30, .u), (31, .u), (32, .u), (33, .u), (34, .u), (35, .u), (36, .u), (37, .u), (38, .u), (39, .u), (40, .u), (41, .u), (42, .u), (43, .u), (44, .u), (45, .u), (46, .u), (47, .u), (48, .u), (49, .u), (50, .u), (51, .u)]) (fun i => [⟨76, 1, 0, true, ints .u64 (fillI (adN X Y i).1 (X.length + 1))⟩]) (fun i => X.length - i) 0 ?_ ?_ rfl ?_
    · exact Nat.zero_le _
    · exact (.cons rfl (.cons rfl (.u (.u (.u (.u (.u (.u (.u (.u (.u (.u (.u (.u (.u (.u (.u (.u (.u (.u (.u (.u (.u (.u (.u (.u (.u (.u .nil))))))))))))))))))))))))))))
    · rintro i hc1
      have hf := fillI_len (l := (adN X Y i).1) (n := X.length + 1) (by rw [adN_len]; omega)
      have hc := adN_c uX uY i
      have hx := u64s_getD uX i
      have hy := u64s_getD uY i
      refine jc_seq ?_; refine jc_region ?_; refine jo_l (ly_lt rfl rfl) (hd 28 rfl) ?_; refine jo_nil ?_; refine jc_seq ?_
      refine jc_if rfl (fun h2 => ?_) (fun h2 => ?_)
      · refine jc_skip ?_; refine jc_seq ?_; refine jc_block ?_; refine jc_seq ?_; refine jc_region ?_; refine jo_l (ly_mv rfl) (hd 29 rfl) ?_; refine jo_l (ly_as rfl) (hd 8 rfl) ?_; refine jo_nil ?_; refine jc_seq ?_; refine jc_region ?_; refine jo_l (ly_as rfl) (hd 9 rfl) ?_; refine jo_nil ?_
        refine jc_meetH (G := Unit) (fun _ => True) (fun _ => [(9, .i .u64 (Y.getD i 0)), (30, .u), (31, .u), (32, .u), (33, .u), (34, .u), (35, .u), (36, .u), (37, .u)]) ?_ ?_
        · refine jc_seq ?_; refine jc_region ?_; refine jo_l (ly_mv rfl) (hd 30 rfl) ?_; refine jo_l (ly_mv rfl) (hd 31 rfl) ?_; refine jo_l (ly_lenn sl28 rfl) (hd 32 rfl) ?_; refine jo_l (ly_lt rfl rfl) (hd 33 rfl) ?_; refine jo_nil ?_
          refine jc_if rfl (fun h3 => ?_) (fun h3 => ?_)
          · refine jc_region ?_; refine jo_l (ly_mv rfl) (hd 34 rfl) ?_; refine jo_l (ly_mv rfl) (hd 35 rfl) ?_; refine jo_l (ly_ian (i := i) sl28 rfl rfl (by first | rfl | omega) (by omega)) (hd 36 rfl) ?_; refine jo_l (ly_ldq one82 rfl rfl) (hd 37 rfl) ?_; refine jo_l (ly_as rfl) (hd 9 rfl) ?_; refine jo_nil ?_
            refine ⟨(), ?_, rfl, cov_n 9 rfl rfl ?_⟩
            · trivial
            · exact (.cons (by first | rfl | (show some (V.i .u64 _) = some (V.i .u64 _); rw [getD_ge (by omega)])) (.u (.u (.u (.u (.u (.u (.u (.u .nil)))))))))
          · refine jc_skip ?_
            refine ⟨(), ?_, rfl, cov_n 4 rfl rfl ?_⟩
            · trivial
            · exact (.cons (by first | rfl | (show some (V.i .u64 _) = some (V.i .u64 _); rw [getD_ge (by omega)])) (.u (.u (.u (.u (.u (.u (.u (.u .nil)))))))))
        · rintro _ _; refine jc_region ?_; refine jo_l (ly_mv rfl) (hd 39 rfl) ?_; refine jo_l (ly_mv rfl) (hd 40 rfl) ?_; refine jo_l (ly_mv rfl) (hd 41 rfl) ?_; refine jo_l (ly_mv rfl) (hd 42 rfl) ?_; refine jo_l (ly_ian (i := i) sl28 rfl rfl (by first | rfl | omega) (by omega)) (hd 43 rfl) ?_; refine jo_l (ly_ldq one82 rfl rfl) (hd 44 rfl) ?_; refine jo_l (ly_mv rfl) (hd 45 rfl) ?_; refine jo_l (ly_mv rfl) (hd 46 rfl) ?_; refine jo_h (hy_ext3 (e := add64Entry) Tryd.func88 rfl rfl (by kernel_rfl) (by kernel_rfl) rfl rfl rfl (fun w => run_add64 _ _ _ hx.1 hy.1 hc.1 hc.2 w) rel_pair) (hd 47 rfl) ?_; refine jo_l (ly_mv rfl) (hd 38 rfl) ?_; refine jo_l (ly_ext rfl rfl) (hd 48 rfl) ?_; refine jo_l (ly_ext rfl rfl) (hd 49 rfl) ?_; refine jo_l (ly_ia (i := i) sl28 rfl rfl rfl (by first | rfl | omega) (by omega) rfl) (hd 50 rfl) ?_; refine jo_st (sy_storei rfl rfl rfl one82 (by omega)) ?_; refine jo_l (ly_as rfl) (hd 7 rfl) ?_; refine jo_nil ?_; refine jc_region ?_; refine jo_l (ly_add rfl rfl (wrap_i64 (by omega) (by omega))) (hd 51 rfl) ?_; refine jo_l (ly_mv rfl) (hd 27 rfl) ?_; refine jo_nil ?_
          refine ⟨i + 1, ?_, ?_, (by show [(⟨76, 1, 0, true, ints .u64 _⟩ : Ob)] = [⟨76, 1, 0, true, ints .u64 _⟩]; rw [fill_ad (by omega)]), cov_n 57 rfl rfl ?_⟩
          · omega
          · omega
          · exact (.cons rfl (.cons rfl (.u (.u (.u (.u (.u (.u (.u (.u (.u (.u (.u (.u (.u (.u (.u (.u (.u (.u (.u (.u (.u (.u (.u (.u (.u (.u .nil))))))))))))))))))))))))))))
      · refine jc_exit ?_; refine jc_seq ?_
        obtain rfl : i = X.length := by omega
        refine jc_region ?_; refine jo_l (ly_mv rfl) (hd 52 rfl) ?_; refine jo_l (ly_mv rfl) (hd 53 rfl) ?_; refine jo_l (ly_lenn sl28 rfl) (hd 54 rfl) ?_; refine jo_l (ly_mv rfl) (hd 55 rfl) ?_; refine jo_l (ly_ia (i := X.length) sl28 rfl rfl rfl (by first | rfl | omega) (by omega) rfl) (hd 56 rfl) ?_; refine jo_st (sy_storei rfl rfl rfl one82 (by omega)) ?_; refine jo_nil ?_; refine jc_seq ?_; refine jc_region ?_; refine jo_frz (k := .u64) (l' := sumL a b) 6 rfl rfl (by rw [fill_last (adN_len _ _ _)]; simp [adN_len]) (by rw [fill_last (adN_len _ _ _), hS, List.drop_zero, List.take_of_length_le (by simp [adN_len])]) hL ?_; refine jo_l (ly_mv rfl) (hd 57 rfl) ?_
        refine jo_call Tryd.f89 (told_big (sumL a b) (by rw [hS]; simp only [List.length_append, adN_len, List.length_singleton]; omega) (by rw [hS]; exact u64s_app1 (adN_u _) hc.1 (by omega)) h) rfl Tryd.func89 rfl rfl (ovL_cons rfl ovL_nil) (.cons .n .nil) (hd 58 rfl) ?_ (fun ch hp => by simp at hp)
        rintro y hy; injection hy with hy; subst hy; refine jo_l (ly_ext rfl rfl) (hd 59 rfl) ?_; refine jo_l (ly_ext rfl rfl) (hd 60 rfl) ?_; refine jo_l (ly_as rfl) (hd 4 rfl) ?_; refine jo_l (ly_as rfl) (hd 5 rfl) ?_; refine jo_nil ?_; refine jc_ret ?_
        refine ⟨_, _, (.cons rfl (.cons rfl .nil)), (.t1 .n (.t1 .i .t0)), ?_⟩
        exact rfl
end Go.Proofs.YtaogaegchagbfaaDoor.Vc

/- Contract of nat.Sub. -/
namespace Go.Proofs.YtaogaegchagbfaaDoor.Vc
open Go Go.RowKit
set_option maxHeartbeats 4000000 in
theorem Sub_ok (a b : List Int) (ha : a.length < 4294967296) (hb : b.length < 4294967296) (ua : u64s a) (ub : u64s b) (hle : 0 ≤ cmpL (trm a) (trm b)) (h : lenN (trm (difL a b)) ≤ 67108864) : Spec Tryd.prog 63 [.n false .u64 a, .n false .u64 b] (fun o => o = .ret (.t [.n false .u64 (trm (difL a b)), .i .i64 0])) := by
  refine spec_of' [(0, .n false .u64 a), (1, .n false .u64 b)] rfl Tryd.func63 rfl (Nat.le_of_ble_eq_true rfl) fun Γ hN hds hL hR => ?_
  have hd : ∀ d, Nat.blt d 52 = true → d < Γ.N := fun d h => by rw [hN]; exact Nat.le_of_ble_eq_true h
  have hma := trm_len a
  have hmb := trm_len b
  have uX := u64s_trm ua
  have uY := u64s_trm ub
  refine jc_seq ?_; refine jc_region ?_; refine jo_l (ly_as rfl) (hd 4 rfl) ?_; refine jo_l (ly_as rfl) (hd 5 rfl) ?_; refine jo_nil ?_; refine jc_seq ?_; refine jc_seq ?_; refine jc_region ?_; refine jo_l (ly_mv rfl) (hd 10 rfl) ?_; refine jo_l (ly_mv rfl) (hd 11 rfl) ?_
  refine jo_call Tryd.f62 (Compare_s a b (by omega) (by omega)) rfl Tryd.func62 rfl rfl (ovL_cons rfl (ovL_cons rfl ovL_nil)) (.cons .n (.cons .n .nil)) (hd 12 rfl) ?_ (fun ch hp => by simp at hp)
  rintro y hy; injection hy with hy; subst hy; refine jo_l (ly_ff (ly_lt rfl rfl) (by omega)) (hd 13 rfl) ?_; refine jo_nil ?_; refine jc_litf rfl ?_; refine jc_skip ?_; refine jc_seq ?_; refine jc_region ?_; refine jo_l (ly_mv rfl) (hd 14 rfl) ?_
  refine jo_call Tryd.f87 (trim_s a (by omega)) rfl Tryd.func87 rfl rfl (ovL_cons rfl ovL_nil) (.cons .n .nil) (hd 15 rfl) ?_ (fun ch hp => by simp at hp)
  rintro y hy; injection hy with hy; subst hy; refine jo_l (ly_mv rfl) (hd 16 rfl) ?_
  refine jo_call Tryd.f87 (trim_s b (by omega)) rfl Tryd.func87 rfl rfl (ovL_cons rfl ovL_nil) (.cons .n .nil) (hd 17 rfl) ?_ (fun ch hp => by simp at hp)
  rintro y hy; injection hy with hy; subst hy; refine jo_l (ly_as rfl) (hd 0 rfl) ?_; refine jo_l (ly_as rfl) (hd 1 rfl) ?_; refine jo_nil ?_; refine jc_seq ?_; refine jc_region ?_; refine jo_l (ly_mv rfl) (hd 18 rfl) ?_; refine jo_l (ly_lenn sl28 rfl) (hd 19 rfl) ?_; refine jo_h (hy_mk (m := (trm a).length) el28 rfl rfl rfl (by show 8 * (trm a).length ≤ _; omega) (by unfold maxLen; omega) rfl) (hd 20 rfl) ?_; refine jo_l (ly_as rfl) (hd 6 rfl) ?_; refine jo_nil ?_; refine jc_seq ?_; refine jc_region ?_; refine jo_l (ly_as rfl) (hd 7 rfl) ?_; refine jo_nil ?_; refine jc_seq ?_; refine jc_seq ?_; refine jc_region ?_; refine jo_l (ly_mv rfl) (hd 21 rfl) ?_; refine jo_l (ly_lenn sl28 rfl) (hd 22 rfl) ?_; refine jo_l (ly_mv rfl) (hd 23 rfl) ?_; refine jo_nil ?_; refine jc_block ?_
  refine jc_loopF (G := Nat) (fun i => i ≤ (trm a).length) (fun i => [(7, .i .u64 (sbN (trm a) (trm b) i).2), (23, .i .i64 (i : Int)), (8, .u), (9, .u), (24, .u), (25, .u), (26, .u), (27, .u), (28, .u), (29, .u), (30, .u), (31, .u), (32, .u), (33, .u), (34, .u), (35, .u), (36, .u), (37, .u), (38, .u), (39, .u), (40, .u), (41, .u), (42, .u), (43, .u), (44, .u), (45, .u), (46, .u), (47, .u)]) (fun i => [⟨76, 1, 0, true, ints .u64 (fillI (sbN (trm a) (trm b) i).1 (trm a).length)⟩]) (fun i => (trm a).length - i) 0 ?_ ?_ rfl ?_
  · exact Nat.zero_le _
  · exact (.cons rfl (.cons rfl (.u (.u (.u (.u (.u (.u (.u (.u (.u (.u (.u (.u (.u (.u (.u (.u (.u (.u (.u (.u (.u (.u (.u (.u (.u (.u .nil))))))))))))))))))))))))))))
  · rintro i hc1
    have hf := fillI_len (l := (sbN (trm a) (trm b) i).1) (n := (trm a).length) (by rw [sbN_len]; omega)
    have hc := sbN_c (trm a) (trm b) i
    have hx := u64s_getD uX i
    have hy := u64s_getD uY i
    refine jc_seq ?_; refine jc_region ?_; refine jo_l (ly_lt rfl rfl) (hd 24 rfl) ?_; refine jo_nil ?_; refine jc_seq ?_
    refine jc_if rfl (fun h2 => ?_) (fun h2 => ?_)
    · refine jc_skip ?_; refine jc_seq ?_; refine jc_block ?_; refine jc_seq ?_; refine jc_region ?_; refine jo_l (ly_mv rfl) (hd 25 rfl) ?_; refine jo_l (ly_as rfl) (hd 8 rfl) ?_; refine jo_nil ?_; refine jc_seq ?_; refine jc_region ?_; refine jo_l (ly_as rfl) (hd 9 rfl) ?_; refine jo_nil ?_
      refine jc_meetH (G := Unit) (fun _ => True) (fun _ => [(9, .i .u64 ((trm b).getD i 0)), (26, .u), (27, .u), (28, .u), (29, .u), (30, .u), (31, .u), (32, .u), (33, .u)]) ?_ ?_
      · refine jc_seq ?_; refine jc_region ?_; refine jo_l (ly_mv rfl) (hd 26 rfl) ?_; refine jo_l (ly_mv rfl) (hd 27 rfl) ?_; refine jo_l (ly_lenn sl28 rfl) (hd 28 rfl) ?_; refine jo_l (ly_lt rfl rfl) (hd 29 rfl) ?_; refine jo_nil ?_
        refine jc_if rfl (fun h3 => ?_) (fun h3 => ?_)
        · refine jc_region ?_; refine jo_l (ly_mv rfl) (hd 30 rfl) ?_; refine jo_l (ly_mv rfl) (hd 31 rfl) ?_; refine jo_l (ly_ian (i := i) sl28 rfl rfl (by first | rfl | omega) (by omega)) (hd 32 rfl) ?_; refine jo_l (ly_ldq one82 rfl rfl) (hd 33 rfl) ?_; refine jo_l (ly_as rfl) (hd 9 rfl) ?_; refine jo_nil ?_
          refine ⟨(), ?_, rfl, cov_n 9 rfl rfl ?_⟩
          · trivial
          · exact (.cons (by first | rfl | (show some (V.i .u64 _) = some (V.i .u64 _); rw [getD_ge (by omega)])) (.u (.u (.u (.u (.u (.u (.u (.u .nil)))))))))
        · refine jc_skip ?_
          refine ⟨(), ?_, rfl, cov_n 4 rfl rfl ?_⟩
          · trivial
          · exact (.cons (by first | rfl | (show some (V.i .u64 _) = some (V.i .u64 _); rw [getD_ge (by omega)])) (.u (.u (.u (.u (.u (.u (.u (.u .nil)))))))))
      · rintro _ _; refine jc_region ?_; refine jo_l (ly_mv rfl) (hd 35 rfl) ?_; refine jo_l (ly_mv rfl) (hd 36 rfl) ?_; refine jo_l (ly_mv rfl) (hd 37 rfl) ?_; refine jo_l (ly_mv rfl) (hd 38 rfl) ?_; refine jo_l (ly_ian (i := i) sl28 rfl rfl (by first | rfl | omega) (by omega)) (hd 39 rfl) ?_; refine jo_l (ly_ldq one82 rfl rfl) (hd 40 rfl) ?_; refine jo_l (ly_mv rfl) (hd 41 rfl) ?_; refine jo_l (ly_mv rfl) (hd 42 rfl) ?_; refine jo_h (hy_ext3 (e := sub64Entry) Tryd.func91 rfl rfl (by kernel_rfl) (by kernel_rfl) rfl rfl rfl (fun w => run_sub64 _ _ _ hx.1 hx.2 hy.1 hy.2 hc.1 hc.2 w) rel_pair) (hd 43 rfl) ?_; refine jo_l (ly_mv rfl) (hd 34 rfl) ?_; refine jo_l (ly_ext rfl rfl) (hd 44 rfl) ?_; refine jo_l (ly_ext rfl rfl) (hd 45 rfl) ?_; refine jo_l (ly_ia (i := i) sl28 rfl rfl rfl (by first | rfl | omega) (by omega) rfl) (hd 46 rfl) ?_; refine jo_st (sy_storei rfl rfl rfl one82 (by omega)) ?_; refine jo_l (ly_as rfl) (hd 7 rfl) ?_; refine jo_nil ?_; refine jc_region ?_; refine jo_l (ly_add rfl rfl (wrap_i64 (by omega) (by omega))) (hd 47 rfl) ?_; refine jo_l (ly_mv rfl) (hd 23 rfl) ?_; refine jo_nil ?_
        refine ⟨i + 1, ?_, ?_, (by show [(⟨76, 1, 0, true, ints .u64 _⟩ : Ob)] = [⟨76, 1, 0, true, ints .u64 _⟩]; rw [fill_sb (by omega)]), cov_n 57 rfl rfl ?_⟩
        · omega
        · omega
        · exact (.cons rfl (.cons rfl (.u (.u (.u (.u (.u (.u (.u (.u (.u (.u (.u (.u (.u (.u (.u (.u (.u (.u (.u (.u (.u (.u (.u (.u (.u (.u .nil))))))))))))))))))))))))))))
    · refine jc_exit ?_; refine jc_seq ?_
      obtain rfl : i = (trm a).length := by omega
      refine jc_frz (k := .u64) (l' := difL a b) 6 rfl rfl (by rw [fillI_full (sbN_len _ _ _)]; simp [sbN_len]) (by rw [fillI_full (sbN_len _ _ _), List.drop_zero, List.take_of_length_le (by simp [sbN_len])]; rfl) hL ?_; refine jc_region ?_; refine jo_l (ly_mv rfl) (hd 48 rfl) ?_
      refine jo_call Tryd.f89 (told_ok (difL a b) (by unfold difL; rw [sbN_len]; omega) (sbN_u uX uY _) h) rfl Tryd.func89 rfl rfl (ovL_cons rfl ovL_nil) (.cons .n .nil) (hd 49 rfl) ?_ (fun ch hp => by simp at hp)
      rintro y hy; injection hy with hy; subst hy; refine jo_l (ly_ext rfl rfl) (hd 50 rfl) ?_; refine jo_l (ly_ext rfl rfl) (hd 51 rfl) ?_; refine jo_l (ly_as rfl) (hd 4 rfl) ?_; refine jo_l (ly_as rfl) (hd 5 rfl) ?_; refine jo_nil ?_; refine jc_ret ?_
      refine ⟨_, _, (.cons rfl (.cons rfl .nil)), (.t1 .n (.t1 .i .t0)), ?_⟩
      exact rfl

set_option maxHeartbeats 4000000 in
theorem Sub_big (a b : List Int) (ha : a.length < 4294967296) (hb : b.length < 4294967296) (ua : u64s a) (ub : u64s b) (hle : 0 ≤ cmpL (trm a) (trm b)) (h : 67108864 < lenN (trm (difL a b))) : Spec Tryd.prog 63 [.n false .u64 a, .n false .u64 b] (fun o => o = .ret (.t [.n false .u64 [], .i .i64 3])) := by
  refine spec_of' [(0, .n false .u64 a), (1, .n false .u64 b)] rfl Tryd.func63 rfl (Nat.le_of_ble_eq_true rfl) fun Γ hN hds hL hR => ?_
  have hd : ∀ d, Nat.blt d 52 = true → d < Γ.N := fun d h => by rw [hN]; exact Nat.le_of_ble_eq_true h
  have hma := trm_len a
  have hmb := trm_len b
  have uX := u64s_trm ua
  have uY := u64s_trm ub
  refine jc_seq ?_; refine jc_region ?_; refine jo_l (ly_as rfl) (hd 4 rfl) ?_; refine jo_l (ly_as rfl) (hd 5 rfl) ?_; refine jo_nil ?_; refine jc_seq ?_; refine jc_seq ?_; refine jc_region ?_; refine jo_l (ly_mv rfl) (hd 10 rfl) ?_; refine jo_l (ly_mv rfl) (hd 11 rfl) ?_
  refine jo_call Tryd.f62 (Compare_s a b (by omega) (by omega)) rfl Tryd.func62 rfl rfl (ovL_cons rfl (ovL_cons rfl ovL_nil)) (.cons .n (.cons .n .nil)) (hd 12 rfl) ?_ (fun ch hp => by simp at hp)
  rintro y hy; injection hy with hy; subst hy; refine jo_l (ly_ff (ly_lt rfl rfl) (by omega)) (hd 13 rfl) ?_; refine jo_nil ?_; refine jc_litf rfl ?_; refine jc_skip ?_; refine jc_seq ?_; refine jc_region ?_; refine jo_l (ly_mv rfl) (hd 14 rfl) ?_
  refine jo_call Tryd.f87 (trim_s a (by omega)) rfl Tryd.func87 rfl rfl (ovL_cons rfl ovL_nil) (.cons .n .nil) (hd 15 rfl) ?_ (fun ch hp => by simp at hp)
  rintro y hy; injection hy with hy; subst hy; refine jo_l (ly_mv rfl) (hd 16 rfl) ?_
  refine jo_call Tryd.f87 (trim_s b (by omega)) rfl Tryd.func87 rfl rfl (ovL_cons rfl ovL_nil) (.cons .n .nil) (hd 17 rfl) ?_ (fun ch hp => by simp at hp)
  rintro y hy; injection hy with hy; subst hy; refine jo_l (ly_as rfl) (hd 0 rfl) ?_; refine jo_l (ly_as rfl) (hd 1 rfl) ?_; refine jo_nil ?_; refine jc_seq ?_; refine jc_region ?_; refine jo_l (ly_mv rfl) (hd 18 rfl) ?_; refine jo_l (ly_lenn sl28 rfl) (hd 19 rfl) ?_; refine jo_h (hy_mk (m := (trm a).length) el28 rfl rfl rfl (by show 8 * (trm a).length ≤ _; omega) (by unfold maxLen; omega) rfl) (hd 20 rfl) ?_; refine jo_l (ly_as rfl) (hd 6 rfl) ?_; refine jo_nil ?_; refine jc_seq ?_; refine jc_region ?_; refine jo_l (ly_as rfl) (hd 7 rfl) ?_; refine jo_nil ?_; refine jc_seq ?_; refine jc_seq ?_; refine jc_region ?_; refine jo_l (ly_mv rfl) (hd 21 rfl) ?_; refine jo_l (ly_lenn sl28 rfl) (hd 22 rfl) ?_; refine jo_l (ly_mv rfl) (hd 23 rfl) ?_; refine jo_nil ?_; refine jc_block ?_
  refine jc_loopF (G := Nat) (fun i => i ≤ (trm a).length) (fun i => [(7, .i .u64 (sbN (trm a) (trm b) i).2), (23, .i .i64 (i : Int)), (8, .u), (9, .u), (24, .u), (25, .u), (26, .u), (27, .u), (28, .u), (29, .u), (30, .u), (31, .u), (32, .u), (33, .u), (34, .u), (35, .u), (36, .u), (37, .u), (38, .u), (39, .u), (40, .u), (41, .u), (42, .u), (43, .u), (44, .u), (45, .u), (46, .u), (47, .u)]) (fun i => [⟨76, 1, 0, true, ints .u64 (fillI (sbN (trm a) (trm b) i).1 (trm a).length)⟩]) (fun i => (trm a).length - i) 0 ?_ ?_ rfl ?_
  · exact Nat.zero_le _
  · exact (.cons rfl (.cons rfl (.u (.u (.u (.u (.u (.u (.u (.u (.u (.u (.u (.u (.u (.u (.u (.u (.u (.u (.u (.u (.u (.u (.u (.u (.u (.u .nil))))))))))))))))))))))))))))
  · rintro i hc1
    have hf := fillI_len (l := (sbN (trm a) (trm b) i).1) (n := (trm a).length) (by rw [sbN_len]; omega)
    have hc := sbN_c (trm a) (trm b) i
    have hx := u64s_getD uX i
    have hy := u64s_getD uY i
    refine jc_seq ?_; refine jc_region ?_; refine jo_l (ly_lt rfl rfl) (hd 24 rfl) ?_; refine jo_nil ?_; refine jc_seq ?_
    refine jc_if rfl (fun h2 => ?_) (fun h2 => ?_)
    · refine jc_skip ?_; refine jc_seq ?_; refine jc_block ?_; refine jc_seq ?_; refine jc_region ?_; refine jo_l (ly_mv rfl) (hd 25 rfl) ?_; refine jo_l (ly_as rfl) (hd 8 rfl) ?_; refine jo_nil ?_; refine jc_seq ?_; refine jc_region ?_; refine jo_l (ly_as rfl) (hd 9 rfl) ?_; refine jo_nil ?_
      refine jc_meetH (G := Unit) (fun _ => True) (fun _ => [(9, .i .u64 ((trm b).getD i 0)), (26, .u), (27, .u), (28, .u), (29, .u), (30, .u), (31, .u), (32, .u), (33, .u)]) ?_ ?_
      · refine jc_seq ?_; refine jc_region ?_; refine jo_l (ly_mv rfl) (hd 26 rfl) ?_; refine jo_l (ly_mv rfl) (hd 27 rfl) ?_; refine jo_l (ly_lenn sl28 rfl) (hd 28 rfl) ?_; refine jo_l (ly_lt rfl rfl) (hd 29 rfl) ?_; refine jo_nil ?_
        refine jc_if rfl (fun h3 => ?_) (fun h3 => ?_)
        · refine jc_region ?_; refine jo_l (ly_mv rfl) (hd 30 rfl) ?_; refine jo_l (ly_mv rfl) (hd 31 rfl) ?_; refine jo_l (ly_ian (i := i) sl28 rfl rfl (by first | rfl | omega) (by omega)) (hd 32 rfl) ?_; refine jo_l (ly_ldq one82 rfl rfl) (hd 33 rfl) ?_; refine jo_l (ly_as rfl) (hd 9 rfl) ?_; refine jo_nil ?_
          refine ⟨(), ?_, rfl, cov_n 9 rfl rfl ?_⟩
          · trivial
          · exact (.cons (by first | rfl | (show some (V.i .u64 _) = some (V.i .u64 _); rw [getD_ge (by omega)])) (.u (.u (.u (.u (.u (.u (.u (.u .nil)))))))))
        · refine jc_skip ?_
          refine ⟨(), ?_, rfl, cov_n 4 rfl rfl ?_⟩
          · trivial
          · exact (.cons (by first | rfl | (show some (V.i .u64 _) = some (V.i .u64 _); rw [getD_ge (by omega)])) (.u (.u (.u (.u (.u (.u (.u (.u .nil)))))))))
      · rintro _ _; refine jc_region ?_; refine jo_l (ly_mv rfl) (hd 35 rfl) ?_; refine jo_l (ly_mv rfl) (hd 36 rfl) ?_; refine jo_l (ly_mv rfl) (hd 37 rfl) ?_; refine jo_l (ly_mv rfl) (hd 38 rfl) ?_; refine jo_l (ly_ian (i := i) sl28 rfl rfl (by first | rfl | omega) (by omega)) (hd 39 rfl) ?_; refine jo_l (ly_ldq one82 rfl rfl) (hd 40 rfl) ?_; refine jo_l (ly_mv rfl) (hd 41 rfl) ?_; refine jo_l (ly_mv rfl) (hd 42 rfl) ?_; refine jo_h (hy_ext3 (e := sub64Entry) Tryd.func91 rfl rfl (by kernel_rfl) (by kernel_rfl) rfl rfl rfl (fun w => run_sub64 _ _ _ hx.1 hx.2 hy.1 hy.2 hc.1 hc.2 w) rel_pair) (hd 43 rfl) ?_; refine jo_l (ly_mv rfl) (hd 34 rfl) ?_; refine jo_l (ly_ext rfl rfl) (hd 44 rfl) ?_; refine jo_l (ly_ext rfl rfl) (hd 45 rfl) ?_; refine jo_l (ly_ia (i := i) sl28 rfl rfl rfl (by first | rfl | omega) (by omega) rfl) (hd 46 rfl) ?_; refine jo_st (sy_storei rfl rfl rfl one82 (by omega)) ?_; refine jo_l (ly_as rfl) (hd 7 rfl) ?_; refine jo_nil ?_; refine jc_region ?_; refine jo_l (ly_add rfl rfl (wrap_i64 (by omega) (by omega))) (hd 47 rfl) ?_; refine jo_l (ly_mv rfl) (hd 23 rfl) ?_; refine jo_nil ?_
        refine ⟨i + 1, ?_, ?_, (by show [(⟨76, 1, 0, true, ints .u64 _⟩ : Ob)] = [⟨76, 1, 0, true, ints .u64 _⟩]; rw [fill_sb (by omega)]), cov_n 57 rfl rfl ?_⟩
        · omega
        · omega
        · exact (.cons rfl (.cons rfl (.u (.u (.u (.u (.u (.u (.u (.u (.u (.u (.u (.u (.u (.u (.u (.u (.u (.u (.u (.u (.u (.u (.u (.u (.u (.u .nil))))))))))))))))))))))))))))
    · refine jc_exit ?_; refine jc_seq ?_
      obtain rfl : i = (trm a).length := by omega
      refine jc_frz (k := .u64) (l' := difL a b) 6 rfl rfl (by rw [fillI_full (sbN_len _ _ _)]; simp [sbN_len]) (by rw [fillI_full (sbN_len _ _ _), List.drop_zero, List.take_of_length_le (by simp [sbN_len])]; rfl) hL ?_; refine jc_region ?_; refine jo_l (ly_mv rfl) (hd 48 rfl) ?_
      refine jo_call Tryd.f89 (told_big (difL a b) (by unfold difL; rw [sbN_len]; omega) (sbN_u uX uY _) h) rfl Tryd.func89 rfl rfl (ovL_cons rfl ovL_nil) (.cons .n .nil) (hd 49 rfl) ?_ (fun ch hp => by simp at hp)
      rintro y hy; injection hy with hy; subst hy; refine jo_l (ly_ext rfl rfl) (hd 50 rfl) ?_; refine jo_l (ly_ext rfl rfl) (hd 51 rfl) ?_; refine jo_l (ly_as rfl) (hd 4 rfl) ?_; refine jo_l (ly_as rfl) (hd 5 rfl) ?_; refine jo_nil ?_; refine jc_ret ?_
      refine ⟨_, _, (.cons rfl (.cons rfl .nil)), (.t1 .n (.t1 .i .t0)), ?_⟩
      exact rfl

end Go.Proofs.YtaogaegchagbfaaDoor.Vc

/- Contracts of surdref01.norm, Zero, surdref06.make1. -/
namespace Go.Proofs.YtaogaegchagbfaaDoor.Vc
open Go Go.RowKit
set_option maxHeartbeats 4000000 in
theorem rnorm_s (l : List Int) (hl : l.length < 1099511627776) : Spec Tryd.prog 82 [.n false .u64 l] (fun o => o = .ret (.n false .u64 (trm l))) := by
  refine spec_of' [(0, .n false .u64 l)] rfl Tryd.func82 rfl (Nat.le_of_ble_eq_true rfl) fun Γ hN hds hL hR => ?_
  have hd : ∀ d, Nat.blt d 22 = true → d < Γ.N := fun d h => by rw [hN]; exact Nat.le_of_ble_eq_true h
  refine jc_seq ?_; refine jc_region ?_; refine jo_l (ly_as rfl) (hd 2 rfl) ?_; refine jo_nil ?_; refine jc_seq ?_; refine jc_region ?_; refine jo_l (ly_mv rfl) (hd 4 rfl) ?_; refine jo_l (ly_lenn sl33 rfl) (hd 5 rfl) ?_; refine jo_l (ly_as rfl) (hd 3 rfl) ?_; refine jo_nil ?_; refine jc_seq ?_; refine jc_block ?_
  refine jc_loopF (G := Nat) (fun k => k ≤ l.length ∧ tN l k = tN l l.length) (fun k => [(3, .i .i64 (k : Int)), (6, .u), (7, .u), (8, .u), (9, .u), (10, .u), (11, .u), (12, .u), (13, .u), (14, .u), (15, .u), (16, .u), (17, .u)]) (fun _ => _) (fun k => k) l.length ?_ ?_ rfl ?_
  · exact ⟨Nat.le_refl _, rfl⟩
  · exact (.cons rfl (.u (.u (.u (.u (.u (.u (.u (.u (.u (.u (.u (.u .nil)))))))))))))
  · rintro k ⟨hc1, hc2⟩; refine jc_seq ?_; refine jc_seq ?_; refine jc_region ?_; refine jo_l (ly_mv rfl) (hd 6 rfl) ?_; refine jo_l (ly_gt rfl rfl) (hd 7 rfl) ?_; refine jo_l (ly_mv rfl) (hd 8 rfl) ?_
    refine jo_ifp 8 rfl (fun h1 => ?_) (fun h1 => ?_)
    · refine jo_g 8 rfl rfl (ly_mv rfl) (hd 9 rfl) ?_; refine jo_g 8 rfl rfl (ly_mv rfl) (hd 10 rfl) ?_; refine jo_g 8 rfl rfl (ly_sub rfl rfl (wrap_i64 (by omega) (by omega))) (hd 11 rfl) ?_; refine jo_g 8 rfl rfl (ly_ian (i := k - 1) sl33 rfl rfl (by omega) (by omega)) (hd 12 rfl) ?_; refine jo_g 8 rfl rfl (ly_ldq one82 rfl rfl) (hd 13 rfl) ?_; refine jo_g 8 rfl rfl (ly_eq rfl rfl) (hd 14 rfl) ?_; refine jo_l (ly_pick_t rfl rfl) (hd 15 rfl) ?_; refine jo_nil ?_
      refine jc_if rfl (fun h2 => ?_) (fun h2 => ?_)
      · refine jc_skip ?_; refine jc_block ?_; refine jc_region ?_; refine jo_l (ly_mv rfl) (hd 16 rfl) ?_; refine jo_l (ly_sub rfl rfl (wrap_i64 (by omega) (by omega))) (hd 17 rfl) ?_; refine jo_l (ly_as rfl) (hd 3 rfl) ?_; refine jo_nil ?_
        refine ⟨k - 1, ?_, ?_, rfl, cov_n 27 rfl rfl ?_⟩
        · exact ⟨by omega, by rw [← hc2, tN_down (by omega) (by assumption)]⟩
        · omega
        · exact (.cons (by show some (V.i .i64 _) = some (V.i .i64 _); congr 2; omega) (.u (.u (.u (.u (.u (.u (.u (.u (.u (.u (.u (.u .nil)))))))))))))
      · refine jc_exit ?_; refine jc_seq ?_; refine jc_region ?_; refine jo_l (ly_mv rfl) (hd 18 rfl) ?_; refine jo_l (ly_mv rfl) (hd 19 rfl) ?_; refine jo_l (ly_mv rfl) (hd 20 rfl) ?_; refine jo_l (ly_sln sl33 rfl bnd_none (bnd_some' rfl (by first | rfl | omega)) (.inr ⟨k, bnd_some' rfl rfl, Nat.le_refl _, hc1, rfl⟩) (by omega) (by omega)) (hd 21 rfl) ?_; refine jo_l (ly_as rfl) (hd 2 rfl) ?_; refine jo_nil ?_; refine jc_ret ?_
        refine ⟨_, _, (.cons rfl .nil), .n, ?_⟩
        unfold trm
        rw [← hc2, tN_stop (by omega) (by assumption), List.drop_zero]
    · refine jo_s 8 rfl rfl rfl (hd 9 rfl) ?_; refine jo_s 8 rfl rfl rfl (hd 10 rfl) ?_; refine jo_s 8 rfl rfl rfl (hd 11 rfl) ?_; refine jo_s 8 rfl rfl rfl (hd 12 rfl) ?_; refine jo_s 8 rfl rfl rfl (hd 13 rfl) ?_; refine jo_s 8 rfl rfl rfl (hd 14 rfl) ?_; refine jo_l (ly_pick_f rfl rfl) (hd 15 rfl) ?_; refine jo_nil ?_; refine jc_litf rfl ?_; refine jc_exit ?_; refine jc_seq ?_; refine jc_region ?_; refine jo_l (ly_mv rfl) (hd 18 rfl) ?_; refine jo_l (ly_mv rfl) (hd 19 rfl) ?_; refine jo_l (ly_mv rfl) (hd 20 rfl) ?_; refine jo_l (ly_sln sl33 rfl bnd_none (bnd_some' rfl (by first | rfl | omega)) (.inr ⟨k, bnd_some' rfl rfl, Nat.le_refl _, hc1, rfl⟩) (by omega) (by omega)) (hd 21 rfl) ?_; refine jo_l (ly_as rfl) (hd 2 rfl) ?_; refine jo_nil ?_; refine jc_ret ?_
      refine ⟨_, _, (.cons rfl .nil), .n, ?_⟩
      unfold trm
      rw [← hc2, tN_0 (by omega), List.drop_zero]

set_option maxHeartbeats 4000000 in
theorem Zero_s (l : List Int) : Spec Tryd.prog 48 [.n false .u64 l] (fun o => o = .ret (.b (decide ((l.length : Int) = 0)))) := by
  refine spec_of' [(0, .n false .u64 l)] rfl Tryd.func48 rfl (Nat.le_of_ble_eq_true rfl) fun Γ hN hds hL hR => ?_
  have hd : ∀ d, Nat.blt d 6 = true → d < Γ.N := fun d h => by rw [hN]; exact Nat.le_of_ble_eq_true h
  refine jc_seq ?_; refine jc_region ?_; refine jo_l (ly_as rfl) (hd 2 rfl) ?_; refine jo_nil ?_; refine jc_seq ?_; refine jc_region ?_; refine jo_l (ly_mv rfl) (hd 3 rfl) ?_; refine jo_l (ly_lenn sl33 rfl) (hd 4 rfl) ?_; refine jo_l (ly_eq rfl rfl) (hd 5 rfl) ?_; refine jo_l (ly_as rfl) (hd 2 rfl) ?_; refine jo_nil ?_; refine jc_ret ?_
  refine ⟨_, _, (.cons rfl .nil), .b, ?_⟩
  exact rfl

set_option maxHeartbeats 4000000 in
theorem make1_s (s : Bool) (l : List Int) : Spec Tryd.prog 52 [.b s, .n false .u64 l] (fun o => o = .ret (.a [.b (s && decide (l ≠ [])), .n false .u64 l])) := by
  refine spec_of' [(0, .b s), (1, .n false .u64 l)] rfl Tryd.func52 rfl (Nat.le_of_ble_eq_true rfl) fun Γ hN hds hL hR => ?_
  have hd : ∀ d, Nat.blt d 13 = true → d < Γ.N := fun d h => by rw [hN]; exact Nat.le_of_ble_eq_true h
  refine jc_seq ?_; refine jc_region ?_; refine jo_h (hy_alloc (id := 0) zero35 (by decide) rfl (by decide) rfl) (hd 4 rfl) ?_; refine jo_nil ?_; refine jc_seq ?_; refine jc_region ?_; refine jo_l (ly_mv rfl) (hd 5 rfl) ?_; refine jo_l (ly_mv rfl) (hd 6 rfl) ?_
  refine jo_split 6 rfl (fun h1 => ?_) (fun h1 => ?_)
  · refine jo_g 6 rfl rfl (ly_mv rfl) (hd 7 rfl) ?_
    refine jo_callg Tryd.f48 6 rfl rfl (Zero_s l) rfl Tryd.func48 rfl rfl (ovL_cons rfl ovL_nil) (.cons .n .nil) (hd 8 rfl) ?_ (fun ch hp => by simp at hp)
    rintro y hy; injection hy with hy; subst hy; refine jo_g 6 rfl rfl (ly_not rfl) (hd 9 rfl) ?_; refine jo_l (ly_pick_t rfl rfl) (hd 10 rfl) ?_; refine jo_l (ly_mv rfl) (hd 11 rfl) ?_; refine jo_l (ly_build (is := [0, 1]) (xs := [.tmp 10, .tmp 11]) zero35 pls35_0_1 rfl (ovL_cons rfl (ovL_cons rfl ovL_nil)) rfl (by first | (simp [plsOk, cellsV]; done) | (simp [plsOk, cellsV, old]; done)) (all_of rfl) rfl) (hd 12 rfl) ?_; refine jo_st (sy_store rfl rfl rfl siz35 rfl rfl (Nat.le_of_ble_eq_true rfl)) ?_; refine jo_nil ?_; refine jc_ret ?_
    refine ⟨_, _, (.cons (ResV.cell agg35 rfl rfl rfl rfl) .nil), (.a1 .b (.a1 .n .a0)), ?_⟩
    cases l <;> simp_all <;> omega
  · refine jo_s 6 rfl rfl rfl (hd 7 rfl) ?_; refine jo_s 6 rfl rfl rfl (hd 8 rfl) ?_; refine jo_s 6 rfl rfl rfl (hd 9 rfl) ?_; refine jo_l (ly_pick_f rfl rfl) (hd 10 rfl) ?_; refine jo_l (ly_mv rfl) (hd 11 rfl) ?_; refine jo_l (ly_build (is := [0, 1]) (xs := [.tmp 10, .tmp 11]) zero35 pls35_0_1 rfl (ovL_cons rfl (ovL_cons rfl ovL_nil)) rfl (by first | (simp [plsOk, cellsV]; done) | (simp [plsOk, cellsV, old]; done)) (all_of rfl) rfl) (hd 12 rfl) ?_; refine jo_st (sy_store rfl rfl rfl siz35 rfl rfl (Nat.le_of_ble_eq_true rfl)) ?_; refine jo_nil ?_; refine jc_ret ?_
    refine ⟨_, _, (.cons (ResV.cell agg35 rfl rfl rfl rfl) .nil), (.a1 .b (.a1 .n .a0)), ?_⟩
    cases l <;> simp_all <;> omega
end Go.Proofs.YtaogaegchagbfaaDoor.Vc

/- Contracts of surdref01.Of, Int, surdref06.Int. -/
namespace Go.Proofs.YtaogaegchagbfaaDoor.Vc
open Go Go.RowKit
set_option maxHeartbeats 4000000 in
theorem rOf_s (l : List Int) (hl : l.length < 4294967296) (hu : u64s l) : Spec Tryd.prog 56 [.n false .u64 l] (fun o => o = .ret (.n false .u64 (trm (dig l)))) := by
  refine spec_of' [(0, .n false .u64 l)] rfl Tryd.func56 rfl (Nat.le_of_ble_eq_true rfl) fun Γ hN hds hL hR => ?_
  have hd : ∀ d, Nat.blt d 26 = true → d < Γ.N := fun d h => by rw [hN]; exact Nat.le_of_ble_eq_true h
  refine jc_seq ?_; refine jc_region ?_; refine jo_l (ly_as rfl) (hd 2 rfl) ?_; refine jo_nil ?_; refine jc_seq ?_; refine jc_region ?_; refine jo_l (ly_mv rfl) (hd 6 rfl) ?_; refine jo_l (ly_lenn sl25 rfl) (hd 7 rfl) ?_; refine jo_l (ly_mul rfl rfl (wrap_i64 (by omega) (by omega))) (hd 8 rfl) ?_; refine jo_h (hy_mk0 (m := 2 * l.length) el33 rfl rfl (by omega) (by show 8 * (2 * l.length) ≤ _; omega) (by unfold maxLen; omega) rfl) (hd 9 rfl) ?_; refine jo_l (ly_as rfl) (hd 3 rfl) ?_; refine jo_nil ?_; refine jc_seq ?_; refine jc_seq ?_; refine jc_region ?_; refine jo_l (ly_mv rfl) (hd 10 rfl) ?_; refine jo_l (ly_lenn sl25 rfl) (hd 11 rfl) ?_; refine jo_l (ly_mv rfl) (hd 12 rfl) ?_; refine jo_nil ?_; refine jc_block ?_
  refine jc_loopD (G := Nat) 1 (fun g => g ≤ l.length) (fun g => [(3, .o 0 g 0 (2 * g)), (12, .i .i64 (g : Int)), (5, .u), (13, .u), (14, .u), (15, .u), (16, .u), (17, .u), (18, .u), (19, .u), (20, .u), (21, .u), (22, .u), (23, .u)]) (fun g => [⟨76, 1, g, true, ints .u64 (dig (l.take g))⟩]) (fun g => l.length - g) 0 ?_ ?_ rfl hR rfl (fun _ _ => rfl) (fun g _ => .cons ints_id .nil) ?_
  · exact Nat.zero_le _
  · exact (.cons rfl (.cons rfl (.u (.u (.u (.u (.u (.u (.u (.u (.u (.u (.u (.u .nil))))))))))))))
  · rintro i hc1
    have hx := u64s_getD hu i
    refine jc_seq ?_; refine jc_region ?_; refine jo_l (ly_lt rfl rfl) (hd 13 rfl) ?_; refine jo_nil ?_; refine jc_seq ?_
    refine jc_if rfl (fun h1 => ?_) (fun h1 => ?_)
    · refine jc_skip ?_; refine jc_seq ?_; refine jc_block ?_; refine jc_seq ?_; refine jc_region ?_; refine jo_l (ly_ian (i := i) sl25 rfl rfl (by first | rfl | omega) (by omega)) (hd 14 rfl) ?_; refine jo_l (ly_ldq one82 rfl rfl) (hd 15 rfl) ?_; refine jo_l (ly_as rfl) (hd 5 rfl) ?_; refine jo_nil ?_; refine jc_region ?_; refine jo_l (ly_mv rfl) (hd 16 rfl) ?_; refine jo_l (ly_mv rfl) (hd 17 rfl) ?_; refine jo_l (ly_is (ly_rem rfl rfl (by decide) rfl) (show V.i .u64 ((l.getD i 0).tmod 4294967296) = V.i .u64 ((l.getD i 0) % 4294967296) by rw [Int.tmod_eq_emod_of_nonneg hx.1])) (hd 18 rfl) ?_; refine jo_l (ly_mv rfl) (hd 19 rfl) ?_; refine jo_l (ly_quo rfl rfl (by decide) (r := (l.getD i 0) / 4294967296) (by show IntKind.u64.wrap (Int.tdiv (l.getD i 0) 4294967296) = _; rw [Int.tdiv_eq_ediv_of_nonneg hx.1]; exact wrap_u64 (by omega) (by omega))) (hd 20 rfl) ?_; refine jo_h (hy_lit (id := 1) (xs := [.tmp 18, .tmp 20]) el33 rfl (ovL_cons rfl (ovL_cons rfl ovL_nil)) rfl (all2_of rfl) (by decide) rfl) (hd 21 rfl) ?_; refine jo_app el33 rfl rfl (by rw [ints_length, dig_len, List.length_take, Nat.min_eq_left (by omega), Nat.mul_one]) rfl (src_o rfl rfl rfl) (by show (2 * i + 2) * 8 ≤ _; omega) (by unfold maxLen; omega) (hd 22 rfl) ?_; refine jo_l (ly_as rfl) (hd 3 rfl) ?_; refine jo_nil ?_; refine jc_region ?_; refine jo_l (ly_add rfl rfl (wrap_i64 (by omega) (by omega))) (hd 23 rfl) ?_; refine jo_l (ly_mv rfl) (hd 12 rfl) ?_; refine jo_nil ?_
      refine ⟨i + 1, ?_, ?_, (by show [(⟨76, 1, i + 1, true, ints .u64 (dig (l.take i)) ++ ints .u64 [_, _]⟩ : Ob)] = [⟨76, 1, i + 1, true, ints .u64 (dig (l.take (i + 1)))⟩]; rw [ints_append, dig_snoc (by omega)]), cov_n 28 rfl rfl ?_⟩
      · omega
      · omega
      · exact (.cons rfl (.cons rfl (.u (.u (.u (.u (.u (.u (.u (.u (.u (.u (.u (.u .nil))))))))))))))
    · refine jc_exit ?_; refine jc_seq ?_
      obtain rfl : i = l.length := by omega
      refine jc_region ?_; refine jo_frz (k := .u64) (l' := dig l) 3 rfl rfl (by rw [dig_len, List.length_take, Nat.min_self]; omega) (by rw [List.take_length, List.drop_zero, List.take_of_length_le (by rw [dig_len]; exact Nat.le_refl _)]) hL ?_; refine jo_l (ly_mv rfl) (hd 24 rfl) ?_
      refine jo_call Tryd.f82 (rnorm_s (dig l) (by rw [dig_len]; omega)) rfl Tryd.func82 rfl rfl (ovL_cons rfl ovL_nil) (.cons .n .nil) (hd 25 rfl) ?_ (fun ch hp => by simp at hp)
      rintro y hy; injection hy with hy; subst hy; refine jo_l (ly_as rfl) (hd 2 rfl) ?_; refine jo_nil ?_; refine jc_ret ?_
      refine ⟨_, _, (.cons rfl .nil), .n, ?_⟩
      exact rfl

set_option maxHeartbeats 4000000 in
theorem rInt_s (v : Int) (h0 : 0 ≤ v) (h1 : v < 9223372036854775808) : Spec Tryd.prog 47 [.i .i64 v] (fun o => o = .ret (.n false .u64 (trm (dig [v])))) := by
  refine spec_of' [(0, .i .i64 v)] rfl Tryd.func47 rfl (Nat.le_of_ble_eq_true rfl) fun Γ hN hds hL hR => ?_
  have hd : ∀ d, Nat.blt d 7 = true → d < Γ.N := fun d h => by rw [hN]; exact Nat.le_of_ble_eq_true h
  refine jc_seq ?_; refine jc_region ?_; refine jo_l (ly_as rfl) (hd 2 rfl) ?_; refine jo_nil ?_; refine jc_seq ?_; refine jc_region ?_; refine jo_l (ly_mv rfl) (hd 3 rfl) ?_; refine jo_l (ly_conv und3 und82 rfl (wrap_u64 (by omega) (by omega))) (hd 4 rfl) ?_; refine jo_h (hy_lit (id := 0) (xs := [.tmp 4]) el25 rfl (ovL_cons rfl ovL_nil) rfl (all2_of rfl) (by decide) rfl) (hd 5 rfl) ?_; refine jo_frz (k := .u64) (l := [v]) (l' := [v]) 5 rfl rfl (Nat.le_refl _) rfl hL ?_
  refine jo_call Tryd.f56 (rOf_s [v] (by simp) (u64s1 (by omega) (by omega))) rfl Tryd.func56 rfl rfl (ovL_cons rfl ovL_nil) (.cons .n .nil) (hd 6 rfl) ?_ (fun ch hp => by simp at hp)
  rintro y hy; injection hy with hy; subst hy; refine jo_l (ly_as rfl) (hd 2 rfl) ?_; refine jo_nil ?_; refine jc_ret ?_
  refine ⟨_, _, (.cons rfl .nil), .n, ?_⟩
  exact rfl

set_option maxHeartbeats 4000000 in
theorem Int_pos (v : Int) (h0 : 0 ≤ v) (h1 : v < 9223372036854775808) : Spec Tryd.prog 21 [.i .i64 v] (fun o => o = .ret (.a [.b (false && decide (trm (dig [v]) ≠ [])), .n false .u64 (trm (dig [v]))])) := by
  refine spec_of' [(0, .i .i64 v)] rfl Tryd.func21 rfl (Nat.le_of_ble_eq_true rfl) fun Γ hN hds hL hR => ?_
  have hd : ∀ d, Nat.blt d 16 = true → d < Γ.N := fun d h => by rw [hN]; exact Nat.le_of_ble_eq_true h
  refine jc_seq ?_; refine jc_region ?_; refine jo_h (hy_alloc (id := 0) zero35 (by decide) rfl (by decide) rfl) (hd 2 rfl) ?_; refine jo_nil ?_; refine jc_seq ?_; refine jc_seq ?_; refine jc_region ?_; refine jo_l (ly_mv rfl) (hd 3 rfl) ?_; refine jo_l (ly_ff (ly_lt rfl rfl) (by omega)) (hd 4 rfl) ?_; refine jo_nil ?_; refine jc_litf rfl ?_; refine jc_skip ?_; refine jc_seq ?_; refine jc_region ?_; refine jo_l (ly_mv rfl) (hd 13 rfl) ?_
  refine jo_call Tryd.f47 (rInt_s v h0 h1) rfl Tryd.func47 rfl rfl (ovL_cons rfl ovL_nil) (.cons .i .nil) (hd 14 rfl) ?_ (fun ch hp => by simp at hp)
  rintro y hy; injection hy with hy; subst hy
  refine jo_call Tryd.f52 (make1_s false (trm (dig [v]))) rfl Tryd.func52 rfl rfl (ovL_cons rfl (ovL_cons rfl ovL_nil)) (.cons .b (.cons .n .nil)) (hd 15 rfl) ?_ (fun ch hp => by simp at hp)
  rintro y hy; injection hy with hy; subst hy; refine jo_st (sy_store rfl rfl rfl siz35 rfl rfl (Nat.le_of_ble_eq_true rfl)) ?_; refine jo_nil ?_; refine jc_ret ?_
  refine ⟨_, _, (.cons (ResV.cell agg35 rfl rfl rfl rfl) .nil), (.a1 .b (.a1 .n .a0)), ?_⟩
  exact rfl

set_option maxHeartbeats 4000000 in
theorem Int_neg (v : Int) (h0 : v < 0) (h1 : -9223372036854775808 ≤ v) : Spec Tryd.prog 21 [.i .i64 v] (fun o => o = .ret (.a [.b (true && decide (trm (dig [-v]) ≠ [])), .n false .u64 (trm (dig [-v]))])) := by
  refine spec_of' [(0, .i .i64 v)] rfl Tryd.func21 rfl (Nat.le_of_ble_eq_true rfl) fun Γ hN hds hL hR => ?_
  have hd : ∀ d, Nat.blt d 16 = true → d < Γ.N := fun d h => by rw [hN]; exact Nat.le_of_ble_eq_true h
  refine jc_seq ?_; refine jc_region ?_; refine jo_h (hy_alloc (id := 0) zero35 (by decide) rfl (by decide) rfl) (hd 2 rfl) ?_; refine jo_nil ?_; refine jc_seq ?_; refine jc_seq ?_; refine jc_region ?_; refine jo_l (ly_mv rfl) (hd 3 rfl) ?_; refine jo_l (ly_tt (ly_lt rfl rfl) (by omega)) (hd 4 rfl) ?_; refine jo_nil ?_; refine jc_litt rfl ?_; refine jc_seq ?_; refine jc_region ?_; refine jo_l (ly_mv rfl) (hd 5 rfl) ?_; refine jo_l (ly_add rfl rfl (wrap_i64 (by omega) (by omega))) (hd 6 rfl) ?_; refine jo_l (ly_neg rfl (wrap_i64 (by omega) (by omega))) (hd 7 rfl) ?_; refine jo_l (ly_conv und3 und82 rfl (wrap_u64 (by omega) (by omega))) (hd 8 rfl) ?_; refine jo_l (ly_add rfl rfl (r := -v) (by rw [wrap_u64 (by omega) (by omega)]; omega)) (hd 9 rfl) ?_; refine jo_h (hy_lit (id := 1) (xs := [.tmp 9]) el25 rfl (ovL_cons rfl ovL_nil) rfl (all2_of rfl) (by decide) rfl) (hd 10 rfl) ?_; refine jo_frz (k := .u64) (l := [-v]) (l' := [-v]) 10 rfl rfl (Nat.le_refl _) rfl hL ?_
  refine jo_call Tryd.f56 (rOf_s [-v] (by simp) (u64s1 (by omega) (by omega))) rfl Tryd.func56 rfl rfl (ovL_cons rfl ovL_nil) (.cons .n .nil) (hd 11 rfl) ?_ (fun ch hp => by simp at hp)
  rintro y hy; injection hy with hy; subst hy
  refine jo_call Tryd.f52 (make1_s true (trm (dig [-v]))) rfl Tryd.func52 rfl rfl (ovL_cons rfl (ovL_cons rfl ovL_nil)) (.cons .b (.cons .n .nil)) (hd 12 rfl) ?_ (fun ch hp => by simp at hp)
  rintro y hy; injection hy with hy; subst hy; refine jo_st (sy_store rfl rfl rfl siz35 rfl rfl (Nat.le_of_ble_eq_true rfl)) ?_; refine jo_nil ?_; refine jc_ret ?_
  refine ⟨_, _, (.cons (ResV.cell agg35 rfl rfl rfl rfl) .nil), (.a1 .b (.a1 .n .a0)), ?_⟩
  exact rfl
end Go.Proofs.YtaogaegchagbfaaDoor.Vc

/- Contracts of surdref01.Limbs, Is, surdref06.Is. -/
namespace Go.Proofs.YtaogaegchagbfaaDoor.Vc
open Go Go.RowKit
set_option maxHeartbeats 4000000 in
theorem Limbs_s (l : List Int) (hl : l.length < 4294967296) : Spec Tryd.prog 96 [.n false .u64 l] (fun o => o = .ret (.n true .u64 (lims l))) := by
  refine spec_of' [(0, .n false .u64 l)] rfl Tryd.func96 rfl (Nat.le_of_ble_eq_true rfl) fun Γ hN hds hL hR => ?_
  have hd : ∀ d, Nat.blt d 34 = true → d < Γ.N := fun d h => by rw [hN]; exact Nat.le_of_ble_eq_true h
  refine jc_seq ?_; refine jc_region ?_; refine jo_l (ly_as rfl) (hd 2 rfl) ?_; refine jo_nil ?_; refine jc_seq ?_; refine jc_region ?_; refine jo_l (ly_as rfl) (hd 3 rfl) ?_; refine jo_nil ?_; refine jc_seq ?_; refine jc_seq ?_; refine jc_own0 (id := 0) 3 76 1 rfl rfl ?_; refine jc_region ?_; refine jo_l (ly_as rfl) (hd 4 rfl) ?_; refine jo_nil ?_; refine jc_block ?_
  refine jc_loopD (G := Nat × List Int) 1 (fun g => g.1 ≤ l.length + 1 ∧ g.2 ++ lims (l.drop g.1) = lims l ∧ g.2.length ≤ g.1) (fun g => [(3, .o 0 g.2.length 0 g.2.length), (4, .i .i64 (g.1 : Int)), (5, .u), (6, .u), (7, .u), (8, .u), (9, .u), (10, .u), (11, .u), (12, .u), (13, .u), (14, .u), (15, .u), (16, .u), (17, .u), (18, .u), (19, .u), (20, .u), (21, .u), (22, .u), (23, .u), (24, .u), (25, .u), (26, .u), (27, .u), (28, .u), (29, .u), (30, .u), (31, .u), (32, .u)]) (fun g => [⟨76, 1, g.2.length, true, ints .u64 g.2⟩]) (fun g => l.length + 1 - g.1) (0, []) ?_ ?_ rfl hR rfl (fun _ _ => rfl) (fun g _ => .cons ints_id .nil) ?_
  · exact ⟨Nat.zero_le _, rfl, Nat.le_refl _⟩
  · exact (.cons rfl (.cons rfl (.u (.u (.u (.u (.u (.u (.u (.u (.u (.u (.u (.u (.u (.u (.u (.u (.u (.u (.u (.u (.u (.u (.u (.u (.u (.u (.u (.u .nil))))))))))))))))))))))))))))))
  · rintro ⟨j, acc⟩ ⟨hc1, hc2, hc3⟩
    dsimp only at hc1 hc2 hc3
    refine jc_seq ?_; refine jc_seq ?_; refine jc_region ?_; refine jo_l (ly_mv rfl) (hd 6 rfl) ?_; refine jo_l (ly_mv rfl) (hd 7 rfl) ?_; refine jo_l (ly_lenn sl33 rfl) (hd 8 rfl) ?_; refine jo_l (ly_lt rfl rfl) (hd 9 rfl) ?_; refine jo_nil ?_
    refine jc_if rfl (fun h1 => ?_) (fun h1 => ?_)
    · have hjl : j < l.length := by
        have h0 : (j : Int) < (l.length : Int) := by assumption
        omega
      refine jc_skip ?_; refine jc_seq ?_; refine jc_block ?_; refine jc_seq ?_; refine jc_region ?_; refine jo_l (ly_mv rfl) (hd 12 rfl) ?_; refine jo_l (ly_mv rfl) (hd 13 rfl) ?_; refine jo_l (ly_ian (i := j) sl33 rfl rfl (by first | rfl | omega) (by omega)) (hd 14 rfl) ?_; refine jo_l (ly_ldq one82 rfl rfl) (hd 15 rfl) ?_; refine jo_l (ly_as rfl) (hd 5 rfl) ?_; refine jo_nil ?_
      refine jc_meetH (G := Int) (fun v => lims (l.drop j) = v :: lims (l.drop (j + 2))) (fun v => [(5, .i .u64 v), (16, .u), (17, .u), (18, .u), (19, .u), (20, .u), (21, .u), (22, .u), (23, .u), (24, .u), (25, .u), (26, .u), (27, .u), (28, .u)]) ?_ ?_
      · refine jc_seq ?_; refine jc_region ?_; refine jo_l (ly_mv rfl) (hd 16 rfl) ?_; refine jo_l (ly_add rfl rfl (r := ((j + 1 : Nat) : Int)) (by rw [wrap_i64 (by omega) (by omega)]; omega)) (hd 17 rfl) ?_; refine jo_l (ly_mv rfl) (hd 18 rfl) ?_; refine jo_l (ly_lenn sl33 rfl) (hd 19 rfl) ?_; refine jo_l (ly_lt rfl rfl) (hd 20 rfl) ?_; refine jo_nil ?_
        refine jc_if rfl (fun h2 => ?_) (fun h2 => ?_)
        · refine jc_region ?_; refine jo_l (ly_mv rfl) (hd 21 rfl) ?_; refine jo_l (ly_mv rfl) (hd 22 rfl) ?_; refine jo_l (ly_mv rfl) (hd 23 rfl) ?_; refine jo_l (ly_add rfl rfl (r := ((j + 1 : Nat) : Int)) (by rw [wrap_i64 (by omega) (by omega)]; omega)) (hd 24 rfl) ?_; refine jo_l (ly_ian (i := j + 1) sl33 rfl rfl (by first | rfl | omega) (by omega)) (hd 25 rfl) ?_; refine jo_l (ly_ldq one82 rfl rfl) (hd 26 rfl) ?_; refine jo_l (ly_mul rfl rfl rfl) (hd 27 rfl) ?_; refine jo_l (ly_add rfl rfl rfl) (hd 28 rfl) ?_; refine jo_l (ly_as rfl) (hd 5 rfl) ?_; refine jo_nil ?_
          refine ⟨IntKind.u64.wrap (l.getD j 0 + IntKind.u64.wrap (l.getD (j + 1) 0 * 4294967296)), ?_, rfl, cov_n 14 rfl rfl ?_⟩
          · exact lims2 (by omega)
          · exact (.cons rfl (.u (.u (.u (.u (.u (.u (.u (.u (.u (.u (.u (.u (.u .nil))))))))))))))
        · refine jc_skip ?_
          refine ⟨l.getD j 0, ?_, rfl, cov_n 5 rfl rfl ?_⟩
          · exact lims1 hjl (by omega)
          · exact (.cons rfl (.u (.u (.u (.u (.u (.u (.u (.u (.u (.u (.u (.u (.u .nil))))))))))))))
      · rintro v hv; refine jc_region ?_; refine jo_l (ly_mv rfl) (hd 29 rfl) ?_; refine jo_l (ly_mv rfl) (hd 30 rfl) ?_; refine jo_h (hy_lit (id := 1) (xs := [.tmp 30]) el25 rfl (ovL_cons rfl ovL_nil) rfl (all2_of rfl) (by decide) rfl) (hd 31 rfl) ?_; refine jo_app el25 rfl rfl (by rw [ints_length, Nat.mul_one]) rfl (src_o rfl rfl rfl) (by show (acc.length + 1) * 8 ≤ _; omega) (by show acc.length + 1 ≤ 9223372036854775807; omega) (hd 32 rfl) ?_; refine jo_l (ly_as rfl) (hd 3 rfl) ?_; refine jo_nil ?_; refine jc_region ?_; refine jo_l (ly_mv rfl) (hd 10 rfl) ?_; refine jo_l (ly_add rfl rfl (r := ((j + 2 : Nat) : Int)) (by rw [wrap_i64 (by omega) (by omega)]; omega)) (hd 11 rfl) ?_; refine jo_l (ly_as rfl) (hd 4 rfl) ?_; refine jo_nil ?_
        refine ⟨(j + 2, acc ++ [v]), ?_, ?_, (by show [(⟨76, 1, acc.length + 1, true, ints .u64 acc ++ ints .u64 [v]⟩ : Ob)] = [⟨76, 1, (acc ++ [v]).length, true, ints .u64 (acc ++ [v])⟩]; rw [ints_append, List.length_append]; rfl), cov_n 61 rfl rfl ?_⟩
        · exact ⟨by omega, by rw [List.append_assoc, List.singleton_append, ← hv]; exact hc2, by rw [List.length_append, List.length_singleton]; omega⟩
        · show l.length + 1 - (j + 2) < l.length + 1 - j
          omega
        · exact (.cons (by show some _ = some _; rw [List.length_append]; rfl) (.cons rfl (.u (.u (.u (.u (.u (.u (.u (.u (.u (.u (.u (.u (.u (.u (.u (.u (.u (.u (.u (.u (.u (.u (.u (.u (.u (.u (.u (.u .nil))))))))))))))))))))))))))))))
    · have hjl : l.length ≤ j := by
        have h0 : ¬ (j : Int) < (l.length : Int) := by assumption
        omega
      refine jc_exit ?_; refine jc_seq ?_; refine jc_region ?_; refine jo_l (ly_mv rfl) (hd 33 rfl) ?_; refine jo_l (ly_as rfl) (hd 2 rfl) ?_; refine jo_nil ?_; refine jc_ret ?_
      refine ⟨_, _, (.cons rfl .nil), (.o rfl (by simp) rfl), ?_⟩
      rw [List.drop_zero, List.take_length, ← hc2, List.drop_eq_nil_of_le hjl]
      simp only [lims, List.append_nil]

set_option maxHeartbeats 4000000 in
theorem Is_s (l : List Int) (hl : l.length < 4294967296) : Spec Tryd.prog 83 [.n false .u64 l, .n false .u64 (lims l)] (fun o => o = .ret (.b true)) := by
  refine spec_of' [(0, .n false .u64 l), (1, .n false .u64 (lims l))] rfl Tryd.func83 rfl (Nat.le_of_ble_eq_true rfl) fun Γ hN hds hL hR => ?_
  have hd : ∀ d, Nat.blt d 29 = true → d < Γ.N := fun d h => by rw [hN]; exact Nat.le_of_ble_eq_true h
  have hm := lims_len l
  refine jc_seq ?_; refine jc_region ?_; refine jo_l (ly_as rfl) (hd 4 rfl) ?_; refine jo_nil ?_; refine jc_seq ?_; refine jc_region ?_; refine jo_l (ly_mv rfl) (hd 7 rfl) ?_
  refine jo_call Tryd.f96 (Limbs_s l hl) rfl Tryd.func96 rfl rfl (ovL_cons rfl ovL_nil) (.cons .n .nil) (hd 8 rfl) ?_ (fun ch hp => by simp at hp)
  rintro y hy; injection hy with hy; subst hy; refine jo_l (ly_as rfl) (hd 5 rfl) ?_; refine jo_nil ?_; refine jc_seq ?_; refine jc_seq ?_; refine jc_region ?_; refine jo_l (ly_mv rfl) (hd 9 rfl) ?_; refine jo_l (ly_lenn sl25 rfl) (hd 10 rfl) ?_; refine jo_l (ly_mv rfl) (hd 11 rfl) ?_; refine jo_l (ly_lenn sl25 rfl) (hd 12 rfl) ?_; refine jo_l (ly_ff (ly_ne rfl rfl) (by simp)) (hd 13 rfl) ?_; refine jo_nil ?_; refine jc_litf rfl ?_; refine jc_skip ?_; refine jc_seq ?_; refine jc_seq ?_; refine jc_region ?_; refine jo_l (ly_mv rfl) (hd 14 rfl) ?_; refine jo_l (ly_lenn sl25 rfl) (hd 15 rfl) ?_; refine jo_l (ly_mv rfl) (hd 16 rfl) ?_; refine jo_nil ?_; refine jc_block ?_
  refine jc_loopF (G := Nat) (fun i => i ≤ (lims l).length) (fun i => [(16, .i .i64 (i : Int)), (4, .u), (6, .u), (17, .u), (18, .u), (19, .u), (20, .u), (21, .u), (22, .u), (23, .u), (24, .u), (25, .u), (26, .u), (27, .u), (28, .u)]) (fun _ => _) (fun i => (lims l).length - i) 0 ?_ ?_ rfl ?_
  · exact Nat.zero_le _
  · exact (.cons rfl (.u (.u (.u (.u (.u (.u (.u (.u (.u (.u (.u (.u (.u (.u .nil)))))))))))))))
  · rintro i hc1; refine jc_seq ?_; refine jc_region ?_; refine jo_l (ly_lt rfl rfl) (hd 17 rfl) ?_; refine jo_nil ?_; refine jc_seq ?_
    refine jc_if rfl (fun h2 => ?_) (fun h2 => ?_)
    · refine jc_skip ?_; refine jc_seq ?_; refine jc_block ?_; refine jc_seq ?_; refine jc_region ?_; refine jo_l (ly_mv rfl) (hd 18 rfl) ?_; refine jo_l (ly_as rfl) (hd 6 rfl) ?_; refine jo_nil ?_; refine jc_seq ?_; refine jc_draw (n := 9) _ rfl mixed ?_; refine ja_l2 0 [2, 3, 8] (lo_l (ly_mv rfl) (hd 19 rfl)) rfl (by kernel_rfl) (by kernel_rfl) (by kernel_rfl) (by kernel_rfl) (fun _ _ _ _ h => h) ?_; refine ja_l2 1 [2, 3, 8] (lo_l (ly_mv rfl) (hd 20 rfl)) rfl (by kernel_rfl) (by kernel_rfl) (by kernel_rfl) (by kernel_rfl) (fun _ _ _ _ h => h) ?_; refine ja_l2 2 [3, 8] (lo_l (ly_ian (i := i) sl25 rfl rfl (by first | rfl | omega) (by omega)) (hd 21 rfl)) rfl (by kernel_rfl) (by kernel_rfl) (by kernel_rfl) (by kernel_rfl) (fun _ _ _ _ h => h) ?_; refine ja_l 3 (lo_l (ly_ldq one82 rfl rfl) (hd 22 rfl)) rfl (by kernel_rfl) (by kernel_rfl) (by kernel_rfl) (fun _ _ _ _ h => h) ?_; refine ja_l2 4 [6, 7, 8] (lo_l (ly_mv rfl) (hd 23 rfl)) rfl (by kernel_rfl) (by kernel_rfl) (by kernel_rfl) (by kernel_rfl) (fun _ _ _ _ h => h) ?_; refine ja_l2 5 [6, 7, 8] (lo_l (ly_mv rfl) (hd 24 rfl)) rfl (by kernel_rfl) (by kernel_rfl) (by kernel_rfl) (by kernel_rfl) (fun _ _ _ _ h => h) ?_; refine ja_l2 6 [7, 8] (lo_l (ly_ian (i := i) sl25 rfl rfl (by first | rfl | omega) (by omega)) (hd 25 rfl)) rfl (by kernel_rfl) (by kernel_rfl) (by kernel_rfl) (by kernel_rfl) (fun _ _ _ _ h => h) ?_; refine ja_l 7 (lo_l (ly_ldq one82 rfl rfl) (hd 26 rfl)) rfl (by kernel_rfl) (by kernel_rfl) (by kernel_rfl) (fun _ _ _ _ h => h) ?_; refine ja_l 8 (lo_l (ly_ff (ly_ne rfl rfl) (by simp)) (hd 27 rfl)) rfl (by kernel_rfl) (by kernel_rfl) (by kernel_rfl) (fun _ _ _ _ h => h) ?_; refine ja_nil (by kernel_rfl) ?_; refine jc_litf rfl ?_; refine jc_skip ?_; refine jc_region ?_; refine jo_l (ly_add rfl rfl (wrap_i64 (by omega) (by omega))) (hd 28 rfl) ?_; refine jo_l (ly_mv rfl) (hd 16 rfl) ?_; refine jo_nil ?_
      refine ⟨i + 1, ?_, ?_, rfl, cov_n 29 rfl rfl ?_⟩
      · omega
      · omega
      · exact (.cons rfl (.u (.u (.u (.u (.u (.u (.u (.u (.u (.u (.u (.u (.u (.u .nil)))))))))))))))
    · refine jc_exit ?_; refine jc_seq ?_; refine jc_region ?_; refine jo_l (ly_as rfl) (hd 4 rfl) ?_; refine jo_nil ?_; refine jc_ret ?_
      refine ⟨_, _, (.cons rfl .nil), .b, ?_⟩
      exact rfl

set_option maxHeartbeats 4000000 in
theorem ZIs_s (s : Bool) (l : List Int) (hl : l.length < 4294967296) : Spec Tryd.prog 50 [.a [.b s, .n false .u64 l], .b s, .n false .u64 (lims l)] (fun o => o = .ret (.b true)) := by
  refine spec_of' [(0, .a [.b s, .n false .u64 l]), (1, .b s), (2, .n false .u64 (lims l))] rfl Tryd.func50 rfl (Nat.le_of_ble_eq_true rfl) fun Γ hN hds hL hR => ?_
  have hd : ∀ d, Nat.blt d 17 = true → d < Γ.N := fun d h => by rw [hN]; exact Nat.le_of_ble_eq_true h
  refine jc_seq ?_; refine jc_region ?_; refine jo_h (hy_box (id := 0) (n := 2) rfl rfl rfl (by decide) rfl) (hd 3 rfl) ?_; refine jo_l (ly_as rfl) (hd 6 rfl) ?_; refine jo_nil ?_; refine jc_seq ?_; refine jc_region ?_; refine jo_l (ly_fa fld35_0 rfl rfl rfl) (hd 7 rfl) ?_; refine jo_l (ly_ld one4 rfl rfl rfl) (hd 8 rfl) ?_; refine jo_l (ly_mv rfl) (hd 9 rfl) ?_; refine jo_l (ly_is (ly_eqb und4 rfl rfl) (show V.b (s == s) = V.b true by simp)) (hd 10 rfl) ?_; refine jo_l (ly_mv rfl) (hd 11 rfl) ?_; refine jo_g 11 rfl rfl (ly_fa fld35_1 rfl rfl rfl) (hd 12 rfl) ?_; refine jo_g 11 rfl rfl (ly_ld one33 rfl rfl rfl) (hd 13 rfl) ?_; refine jo_g 11 rfl rfl (ly_mv rfl) (hd 14 rfl) ?_
  refine jo_callg Tryd.f83 11 rfl rfl (Is_s l hl) rfl Tryd.func83 rfl rfl (ovL_cons rfl (ovL_cons rfl ovL_nil)) (.cons .n (.cons .n .nil)) (hd 15 rfl) ?_ (fun ch hp => by simp at hp)
  rintro y hy; injection hy with hy; subst hy; refine jo_l (ly_pick_t rfl rfl) (hd 16 rfl) ?_; refine jo_l (ly_as rfl) (hd 6 rfl) ?_; refine jo_nil ?_; refine jc_ret ?_
  refine ⟨_, _, (.cons rfl .nil), .b, ?_⟩
  exact rfl
end Go.Proofs.YtaogaegchagbfaaDoor.Vc

/- Contracts of bits.Div64, div.divide for one limb each. -/
namespace Go.Proofs.YtaogaegchagbfaaDoor.Vc
open Go Go.RowKit
set_option maxHeartbeats 4000000 in
theorem Div64_0 (x d : Int) (hx0 : 0 ≤ x) (hx : x < 18446744073709551616) (hd0 : 0 < d) (hdm : d < 18446744073709551616) : Spec Tryd.prog 99 [.i .u64 0, .i .u64 x, .i .u64 d] (fun o => o = .ret (.t [.i .u64 (x / d), .i .u64 (x % d)])) := by
  refine spec_of' [(0, .i .u64 0), (1, .i .u64 x), (2, .i .u64 d)] rfl Tryd.func99 rfl (Nat.le_of_ble_eq_true rfl) fun Γ hN hds hL hR => ?_
  have hd : ∀ d, Nat.blt d 135 = true → d < Γ.N := fun d h => by rw [hN]; exact Nat.le_of_ble_eq_true h
  refine jc_seq ?_; refine jc_region ?_; refine jo_l (ly_as rfl) (hd 6 rfl) ?_; refine jo_l (ly_as rfl) (hd 7 rfl) ?_; refine jo_nil ?_; refine jc_seq ?_; refine jc_seq ?_; refine jc_region ?_; refine jo_l (ly_mv rfl) (hd 19 rfl) ?_; refine jo_l (ly_ff (ly_eq rfl rfl) (by omega)) (hd 20 rfl) ?_; refine jo_nil ?_; refine jc_litf rfl ?_; refine jc_skip ?_; refine jc_seq ?_; refine jc_seq ?_; refine jc_region ?_; refine jo_l (ly_mv rfl) (hd 22 rfl) ?_; refine jo_l (ly_mv rfl) (hd 23 rfl) ?_; refine jo_l (ly_ff (ly_le rfl rfl) (by omega)) (hd 24 rfl) ?_; refine jo_nil ?_; refine jc_litf rfl ?_; refine jc_skip ?_; refine jc_seq ?_; refine jc_seq ?_; refine jc_region ?_; refine jo_l (ly_mv rfl) (hd 26 rfl) ?_; refine jo_l (ly_tt (ly_eq rfl rfl) rfl) (hd 27 rfl) ?_; refine jo_nil ?_; refine jc_litt rfl ?_; refine jc_seq ?_; refine jc_draw (n := 8) _ rfl mixed ?_; refine ja_l 0 (lo_l (ly_mv rfl) (hd 28 rfl)) rfl (by kernel_rfl) (by kernel_rfl) (by kernel_rfl) (fun _ _ _ _ h => h) ?_; refine ja_l 1 (lo_l (ly_mv rfl) (hd 29 rfl)) rfl (by kernel_rfl) (by kernel_rfl) (by kernel_rfl) (fun _ _ _ _ h => h) ?_; refine ja_l 2 (lo_l (ly_quo rfl rfl (by omega) (r := x / d) (by show IntKind.u64.wrap (Int.tdiv x d) = _; rw [Int.tdiv_eq_ediv_of_nonneg hx0]; exact wrap_u64 (Int.ediv_nonneg hx0 (by omega)) (Int.lt_of_le_of_lt (Int.ediv_le_self d hx0) hx))) (hd 30 rfl)) rfl (by kernel_rfl) (by kernel_rfl) (by kernel_rfl) (fun _ _ _ _ h => h) ?_; refine ja_l 3 (lo_l (ly_mv rfl) (hd 31 rfl)) rfl (by kernel_rfl) (by kernel_rfl) (by kernel_rfl) (fun _ _ _ _ h => h) ?_; refine ja_l 4 (lo_l (ly_mv rfl) (hd 32 rfl)) rfl (by kernel_rfl) (by kernel_rfl) (by kernel_rfl) (fun _ _ _ _ h => h) ?_; refine ja_l 5 (lo_l (ly_is (ly_rem rfl rfl (by omega) rfl) (show V.i .u64 (x.tmod d) = V.i .u64 (x % d) by rw [Int.tmod_eq_emod_of_nonneg hx0])) (hd 33 rfl)) rfl (by kernel_rfl) (by kernel_rfl) (by kernel_rfl) (fun _ _ _ _ h => h) ?_; refine ja_l 6 (lo_l (ly_as rfl) (hd 6 rfl)) rfl (by kernel_rfl) (by kernel_rfl) (by kernel_rfl) (fun _ _ _ _ h => h) ?_; refine ja_l 7 (lo_l (ly_as rfl) (hd 7 rfl)) rfl (by kernel_rfl) (by kernel_rfl) (by kernel_rfl) (fun _ _ _ _ h => h) ?_; refine ja_nil (by kernel_rfl) ?_; refine jc_ret ?_
  refine ⟨_, _, (.cons rfl (.cons rfl .nil)), (.t1 .i (.t1 .i .t0)), ?_⟩
  exact rfl

set_option maxHeartbeats 4000000 in
theorem divide_1 (x d : Int) (hx0 : 0 ≤ x) (hx : x < 18446744073709551616) (hd0 : 0 < d) (hdm : d < 18446744073709551616) (hle : d ≤ x) : Spec Tryd.prog 92 [.n false .u64 [x], .n false .u64 [d]] (fun o => o = .ret (.t [.n true .u64 (trm [x / d]), .n true .u64 (if x % d = 0 then [] else [x % d])])) := by
  refine spec_of' [(0, .n false .u64 [x]), (1, .n false .u64 [d])] rfl Tryd.func92 rfl (Nat.le_of_ble_eq_true rfl) fun Γ hN hds hL hR => ?_
  have hd : ∀ d, Nat.blt d 104 = true → d < Γ.N := fun d h => by rw [hN]; exact Nat.le_of_ble_eq_true h
  have hcm : ¬ cmpL (trm [x]) (trm [d]) < 0 := by rw [trm1 (by omega), trm1 (by omega)]; exact cmp1 hle
  refine jc_seq ?_; refine jc_region ?_; refine jo_l (ly_as rfl) (hd 4 rfl) ?_; refine jo_l (ly_as rfl) (hd 5 rfl) ?_; refine jo_nil ?_; refine jc_seq ?_; refine jc_seq ?_; refine jc_region ?_; refine jo_l (ly_mv rfl) (hd 15 rfl) ?_; refine jo_l (ly_mv rfl) (hd 16 rfl) ?_
  refine jo_call Tryd.f62 (Compare_s [x] [d] (by simp) (by simp)) rfl Tryd.func62 rfl rfl (ovL_cons rfl (ovL_cons rfl ovL_nil)) (.cons .n (.cons .n .nil)) (hd 17 rfl) ?_ (fun ch hp => by simp at hp)
  rintro y hy; injection hy with hy; subst hy; refine jo_l (ly_ff (ly_lt rfl rfl) hcm) (hd 18 rfl) ?_; refine jo_nil ?_; refine jc_litf rfl ?_; refine jc_skip ?_; refine jc_seq ?_; refine jc_seq ?_; refine jc_region ?_; refine jo_l (ly_mv rfl) (hd 20 rfl) ?_; refine jo_l (ly_lenn sl28 rfl) (hd 21 rfl) ?_; refine jo_l (ly_tt (ly_eq rfl rfl) rfl) (hd 22 rfl) ?_; refine jo_nil ?_; refine jc_litt rfl ?_; refine jc_seq ?_; refine jc_region ?_; refine jo_l (ly_mv rfl) (hd 23 rfl) ?_; refine jo_l (ly_lenn sl28 rfl) (hd 24 rfl) ?_; refine jo_h (hy_mk (m := 1) el28 rfl rfl rfl (by decide) (by decide) rfl) (hd 25 rfl) ?_; refine jo_l (ly_as rfl) (hd 6 rfl) ?_; refine jo_l (ly_as rfl) (hd 7 rfl) ?_; refine jo_nil ?_; refine jc_seq ?_; refine jc_seq ?_; refine jc_region ?_; refine jo_l (ly_mv rfl) (hd 26 rfl) ?_; refine jo_l (ly_lenn sl28 rfl) (hd 27 rfl) ?_; refine jo_l (ly_sub rfl rfl (r := 0) rfl) (hd 28 rfl) ?_; refine jo_l (ly_as rfl) (hd 8 rfl) ?_; refine jo_nil ?_; refine jc_block ?_
  refine jc_loopF (G := Nat) (fun g => g ≤ 1) (fun g => [(7, .i .u64 (if g = 1 then 0 else x % d)), (8, .i .i64 ((g : Int) - 1)), (29, .u), (30, .u), (31, .u), (32, .u), (33, .u), (34, .u), (35, .u), (36, .u), (37, .u), (38, .u), (39, .u), (40, .u), (41, .u), (42, .u), (43, .u), (44, .u), (45, .u), (46, .u), (47, .u)]) (fun g => [⟨76, 1, 0, true, ints .u64 [if g = 1 then 0 else x / d]⟩]) (fun g => g) 1 ?_ ?_ rfl ?_
  · exact Nat.le_refl _
  · exact (.cons rfl (.cons rfl (.u (.u (.u (.u (.u (.u (.u (.u (.u (.u (.u (.u (.u (.u (.u (.u (.u (.u (.u .nil)))))))))))))))))))))
  · rintro k hc1; refine jc_seq ?_; refine jc_seq ?_; refine jc_region ?_; refine jo_l (ly_mv rfl) (hd 29 rfl) ?_; refine jo_l (ly_ge rfl rfl) (hd 30 rfl) ?_; refine jo_nil ?_
    refine jc_if rfl (fun h3 => ?_) (fun h3 => ?_)
    · obtain rfl : k = 1 := by omega
      refine jc_skip ?_; refine jc_seq ?_; refine jc_block ?_; refine jc_draw (n := 17) _ rfl mixed ?_; refine ja_l 0 (lo_l (ly_mv rfl) (hd 34 rfl)) rfl (by kernel_rfl) (by kernel_rfl) (by kernel_rfl) (fun _ _ _ _ h => h) ?_; refine ja_l 1 (lo_l (ly_mv rfl) (hd 35 rfl)) rfl (by kernel_rfl) (by kernel_rfl) (by kernel_rfl) (fun _ _ _ _ h => h) ?_; refine ja_l2 2 [10, 11, 12, 13, 14, 15, 16] (lo_l (ly_mv rfl) (hd 36 rfl)) rfl (by kernel_rfl) (by kernel_rfl) (by kernel_rfl) (by kernel_rfl) (fun _ _ _ _ h => h) ?_; refine ja_l2 3 [5, 6, 10, 11, 12, 13, 14, 15, 16] (lo_l (ly_mv rfl) (hd 37 rfl)) rfl (by kernel_rfl) (by kernel_rfl) (by kernel_rfl) (by kernel_rfl) (fun _ _ _ _ h => h) ?_; refine ja_l2 4 [5, 6, 10, 11, 12, 13, 14, 15, 16] (lo_l (ly_mv rfl) (hd 38 rfl)) rfl (by kernel_rfl) (by kernel_rfl) (by kernel_rfl) (by kernel_rfl) (fun _ _ _ _ h => h) ?_; refine ja_l2 5 [6, 10, 11, 12, 13, 14, 15, 16] (lo_l (ly_ian (i := 0) sl28 rfl rfl rfl (by simp)) (hd 39 rfl)) rfl (by kernel_rfl) (by kernel_rfl) (by kernel_rfl) (by kernel_rfl) (fun _ _ _ _ h => h) ?_; refine ja_l2 6 [10, 11, 12, 13, 14, 15, 16] (lo_l (ly_ldq one82 rfl rfl) (hd 40 rfl)) rfl (by kernel_rfl) (by kernel_rfl) (by kernel_rfl) (by kernel_rfl) (fun _ _ _ _ h => h) ?_; refine ja_l2 7 [8, 9, 10, 11, 12, 13, 14, 15, 16] (lo_l (ly_mv rfl) (hd 41 rfl)) rfl (by kernel_rfl) (by kernel_rfl) (by kernel_rfl) (by kernel_rfl) (fun _ _ _ _ h => h) ?_; refine ja_l2 8 [9, 10, 11, 12, 13, 14, 15, 16] (lo_l (ly_ian (i := 0) sl28 rfl rfl rfl (by simp)) (hd 42 rfl)) rfl (by kernel_rfl) (by kernel_rfl) (by kernel_rfl) (by kernel_rfl) (fun _ _ _ _ h => h) ?_; refine ja_l2 9 [10, 11, 12, 13, 14, 15, 16] (lo_l (ly_ldq one82 rfl rfl) (hd 43 rfl)) rfl (by kernel_rfl) (by kernel_rfl) (by kernel_rfl) (by kernel_rfl) (fun _ _ _ _ h => h) ?_
      refine ja_1 10 ?_ rfl (by kernel_rfl)
      refine js_call Tryd.f99 (Div64_0 x d hx0 hx hd0 hdm) rfl Tryd.func99 rfl rfl (ovL_cons rfl (ovL_cons rfl (ovL_cons rfl ovL_nil))) (.cons .i (.cons .i (.cons .i .nil))) (hd 44 rfl) ?_ (fun ch hp => by simp at hp)
      rintro y hy; injection hy with hy; subst hy; refine ja_l 11 (lo_l (ly_mv rfl) (hd 33 rfl)) rfl (by kernel_rfl) (by kernel_rfl) (by kernel_rfl) (fun _ _ _ _ h => h) ?_; refine ja_l 12 (lo_l (ly_ext rfl rfl) (hd 45 rfl)) rfl (by kernel_rfl) (by kernel_rfl) (by kernel_rfl) (fun _ _ _ _ h => h) ?_; refine ja_l 13 (lo_ext rfl rfl (hd 46 rfl)) rfl (by kernel_rfl) (by kernel_rfl) (by kernel_rfl) (fun _ _ _ _ h => h) ?_; refine ja_l 14 (lo_l (ly_ia (i := 0) sl28 rfl rfl rfl rfl (Nat.le_refl 1) rfl) (hd 47 rfl)) rfl (by kernel_rfl) (by kernel_rfl) (by kernel_rfl) (fun _ _ _ _ h => h) ?_
      refine ja_1 15 ?_ rfl (by kernel_rfl)
      refine js_st (sy_storei rfl rfl rfl one82 (Nat.le_refl 1)) rfl ?_; refine ja_l 16 (lo_l (ly_as rfl) (hd 7 rfl)) rfl (by kernel_rfl) (by kernel_rfl) (by kernel_rfl) (fun _ _ _ _ h => h) ?_; refine ja_nil (by kernel_rfl) ?_; refine jc_region ?_; refine jo_l (ly_mv rfl) (hd 31 rfl) ?_; refine jo_l (ly_sub rfl rfl (wrap_i64 (by omega) (by omega))) (hd 32 rfl) ?_; refine jo_l (ly_as rfl) (hd 8 rfl) ?_; refine jo_nil ?_
      refine ⟨0, ?_, ?_, rfl, cov_n 42 rfl rfl ?_⟩
      · exact Nat.zero_le _
      · exact Nat.zero_lt_succ _
      · exact (.cons rfl (.cons rfl (.u (.u (.u (.u (.u (.u (.u (.u (.u (.u (.u (.u (.u (.u (.u (.u (.u (.u (.u .nil)))))))))))))))))))))
    · obtain rfl : k = 0 := by omega
      refine jc_exit ?_; refine jc_seq ?_; refine jc_region ?_; refine jo_frz (k := .u64) (l := [x / d]) (l' := [x / d]) 6 rfl rfl (Nat.le_refl _) rfl hL ?_; refine jo_l (ly_mv rfl) (hd 48 rfl) ?_
      refine jo_call Tryd.f75 (Norm_s [x / d] (by simp)) rfl Tryd.func75 rfl rfl (ovL_cons rfl ovL_nil) (.cons .n .nil) (hd 49 rfl) ?_ (fun ch hp => by simp at hp)
      rintro y hy; injection hy with hy; subst hy; refine jo_l (ly_mv rfl) (hd 50 rfl) ?_
      refine jo_call Tryd.f68 (From_s (x % d)) rfl Tryd.func68 rfl rfl (ovL_cons rfl ovL_nil) (.cons .i .nil) (hd 51 rfl) ?_ (fun ch hp => by simp at hp)
      rintro y hy; injection hy with hy; subst hy; refine jo_l (ly_as rfl) (hd 4 rfl) ?_; refine jo_l (ly_as rfl) (hd 5 rfl) ?_; refine jo_nil ?_; refine jc_ret ?_
      refine ⟨_, _, (.cons rfl (.cons rfl .nil)), (.t1 .n (.t1 .n .t0)), ?_⟩
      exact rfl
end Go.Proofs.YtaogaegchagbfaaDoor.Vc

/- Contracts of div.Both for one limb each; whole.norm, fits, result, Of. -/
namespace Go.Proofs.YtaogaegchagbfaaDoor.Vc
open Go Go.RowKit
set_option maxHeartbeats 4000000 in
theorem Both_1 (x d : Int) (hx0 : 0 ≤ x) (hx : x < 18446744073709551616) (hd0 : 0 < d) (hdm : d < 18446744073709551616) (hle : d ≤ x) : Spec Tryd.prog 97 [.n false .u64 [x], .n false .u64 [d]] (fun o => o = .ret (.t [.n true .u64 (trm [x / d]), .n true .u64 (if x % d = 0 then [] else [x % d]), .i .i64 0])) := by
  refine spec_of' [(0, .n false .u64 [x]), (1, .n false .u64 [d])] rfl Tryd.func97 rfl (Nat.le_of_ble_eq_true rfl) fun Γ hN hds hL hR => ?_
  have hd : ∀ d, Nat.blt d 32 = true → d < Γ.N := fun d h => by rw [hN]; exact Nat.le_of_ble_eq_true h
  have ex : trm [x] = [x] := trm1 (by omega)
  have ed : trm [d] = [d] := trm1 (by omega)
  have rx : Spec Tryd.prog 75 [.n false .u64 [x]] (fun o => o = .ret (.n true .u64 [x])) := by have h := Norm_s [x] (by simp); rwa [ex] at h
  have rd : Spec Tryd.prog 75 [.n false .u64 [d]] (fun o => o = .ret (.n true .u64 [d])) := by have h := Norm_s [d] (by simp); rwa [ed] at h
  have hq := u64s1 (v := x / d) (Int.ediv_nonneg hx0 (by omega)) (Int.lt_of_le_of_lt (Int.ediv_le_self d hx0) hx)
  have hm1 := trm_len [x / d]
  have hr0 : 0 ≤ x % d := Int.emod_nonneg x (by omega)
  have hr1 : x % d < d := Int.emod_lt_of_pos x hd0
  have hL1 := lenN_le (trm [x / d])
  have hL2 := lenN_le (if x % d = 0 then [] else [x % d])
  have hrl : (if x % d = 0 then [] else [x % d] : List Int).length ≤ 1 := by split <;> simp
  have hru : u64s (if x % d = 0 then [] else [x % d]) := by
    split
    · intro y hy; cases hy
    · exact u64s1 hr0 (by omega)
  simp only [List.length_singleton] at hm1
  refine jc_seq ?_; refine jc_region ?_; refine jo_l (ly_as rfl) (hd 4 rfl) ?_; refine jo_l (ly_as rfl) (hd 5 rfl) ?_; refine jo_l (ly_as rfl) (hd 6 rfl) ?_; refine jo_nil ?_; refine jc_seq ?_; refine jc_region ?_; refine jo_l (ly_mv rfl) (hd 9 rfl) ?_
  refine jo_call Tryd.f75 (rx) rfl Tryd.func75 rfl rfl (ovL_cons rfl ovL_nil) (.cons .n .nil) (hd 10 rfl) ?_ (fun ch hp => by simp at hp)
  rintro y hy; injection hy with hy; subst hy; refine jo_l (ly_mv rfl) (hd 11 rfl) ?_
  refine jo_call Tryd.f75 (rd) rfl Tryd.func75 rfl rfl (ovL_cons rfl ovL_nil) (.cons .n .nil) (hd 12 rfl) ?_ (fun ch hp => by simp at hp)
  rintro y hy; injection hy with hy; subst hy; refine jo_l (ly_as rfl) (hd 0 rfl) ?_; refine jo_l (ly_as rfl) (hd 1 rfl) ?_; refine jo_nil ?_; refine jc_seq ?_; refine jc_seq ?_; refine jc_region ?_; refine jo_l (ly_mv rfl) (hd 13 rfl) ?_; refine jo_l (ly_lenn sl28 rfl) (hd 14 rfl) ?_; refine jo_l (ly_ff (ly_eq rfl rfl) (by simp)) (hd 15 rfl) ?_; refine jo_nil ?_; refine jc_litf rfl ?_; refine jc_skip ?_; refine jc_seq ?_; refine jc_region ?_; refine jo_l (ly_mv rfl) (hd 17 rfl) ?_; refine jo_l (ly_mv rfl) (hd 18 rfl) ?_
  refine jo_call Tryd.f92 (divide_1 x d hx0 hx hd0 hdm hle) rfl Tryd.func92 rfl rfl (ovL_cons rfl (ovL_cons rfl ovL_nil)) (.cons .n (.cons .n .nil)) (hd 19 rfl) ?_ (fun ch hp => by simp at hp)
  rintro y hy; injection hy with hy; subst hy; refine jo_l (ly_mv rfl) (hd 16 rfl) ?_; refine jo_l (ly_ext rfl rfl) (hd 20 rfl) ?_; refine jo_l (ly_ext rfl rfl) (hd 21 rfl) ?_; refine jo_l (ly_as rfl) (hd 7 rfl) ?_; refine jo_l (ly_as rfl) (hd 8 rfl) ?_; refine jo_nil ?_; refine jc_seq ?_; refine jc_seq ?_; refine jc_region ?_; refine jo_l (ly_mv rfl) (hd 22 rfl) ?_
  refine jo_call Tryd.f71 (Length_s (trm [x / d]) (by omega) (u64s_trm hq)) rfl Tryd.func71 rfl rfl (ovL_cons rfl ovL_nil) (.cons .n .nil) (hd 23 rfl) ?_ (fun ch hp => by simp at hp)
  rintro y hy; injection hy with hy; subst hy; refine jo_l (ly_ff (ly_gt rfl rfl) (by omega)) (hd 24 rfl) ?_; refine jo_l (ly_mv rfl) (hd 25 rfl) ?_; refine jo_g 25 rfl rfl (ly_mv rfl) (hd 26 rfl) ?_
  refine jo_callg Tryd.f71 25 rfl rfl (Length_s _ (by omega) hru) rfl Tryd.func71 rfl rfl (ovL_cons rfl ovL_nil) (.cons .n .nil) (hd 27 rfl) ?_ (fun ch hp => by simp at hp)
  rintro y hy; injection hy with hy; subst hy; refine jo_g 25 rfl rfl (ly_ff (ly_gt rfl rfl) (by omega)) (hd 28 rfl) ?_; refine jo_l (ly_pick_f rfl rfl) (hd 29 rfl) ?_; refine jo_nil ?_; refine jc_litf rfl ?_; refine jc_skip ?_; refine jc_seq ?_; refine jc_region ?_; refine jo_l (ly_mv rfl) (hd 30 rfl) ?_; refine jo_l (ly_mv rfl) (hd 31 rfl) ?_; refine jo_l (ly_as rfl) (hd 4 rfl) ?_; refine jo_l (ly_as rfl) (hd 5 rfl) ?_; refine jo_l (ly_as rfl) (hd 6 rfl) ?_; refine jo_nil ?_; refine jc_ret ?_
  refine ⟨_, _, (.cons rfl (.cons rfl (.cons rfl .nil))), (.t1 .n (.t1 .n (.t1 .i .t0))), ?_⟩
  exact rfl

set_option maxHeartbeats 4000000 in
theorem norm_s (s : Bool) (l : List Int) (hl : l.length < 1099511627776) : Spec Tryd.prog 59 [.a [.b s, .n false .u64 l]] (fun o => o = .ret (.a [.b (s && decide (0 < ((trm l).length : Int))), .n true .u64 (trm l)])) := by
  refine spec_of' [(0, .a [.b s, .n false .u64 l])] rfl Tryd.func59 rfl (Nat.le_of_ble_eq_true rfl) fun Γ hN hds hL hR => ?_
  have hd : ∀ d, Nat.blt d 16 = true → d < Γ.N := fun d h => by rw [hN]; exact Nat.le_of_ble_eq_true h
  refine jc_seq ?_; refine jc_region ?_; refine jo_h (hy_box (id := 0) (n := 2) rfl rfl rfl (by decide) rfl) (hd 1 rfl) ?_; refine jo_h (hy_alloc (id := 1) zero30 (by decide) rfl (by decide) rfl) (hd 2 rfl) ?_; refine jo_nil ?_; refine jc_seq ?_; refine jc_region ?_; refine jo_l (ly_fa fld30_1 rfl rfl rfl) (hd 4 rfl) ?_; refine jo_l (ly_ld one28 rfl rfl rfl) (hd 5 rfl) ?_
  refine jo_call Tryd.f75 (Norm_s l hl) rfl Tryd.func75 rfl rfl (ovL_cons rfl ovL_nil) (.cons .n .nil) (hd 6 rfl) ?_ (fun ch hp => by simp at hp)
  rintro y hy; injection hy with hy; subst hy; refine jo_l (ly_as rfl) (hd 3 rfl) ?_; refine jo_nil ?_; refine jc_seq ?_; refine jc_region ?_; refine jo_l (ly_fa fld30_0 rfl rfl rfl) (hd 7 rfl) ?_; refine jo_l (ly_ld one4 rfl rfl rfl) (hd 8 rfl) ?_; refine jo_l (ly_mv rfl) (hd 9 rfl) ?_
  refine jo_split 9 rfl (fun h1 => ?_) (fun h1 => ?_)
  · refine jo_g 9 rfl rfl (ly_mv rfl) (hd 10 rfl) ?_; refine jo_g 9 rfl rfl (ly_lenn sl28 rfl) (hd 11 rfl) ?_; refine jo_g 9 rfl rfl (ly_gt rfl rfl) (hd 12 rfl) ?_; refine jo_l (ly_pick_t rfl rfl) (hd 13 rfl) ?_; refine jo_l (ly_mv rfl) (hd 14 rfl) ?_; refine jo_l (ly_build (is := [0, 1]) (xs := [.tmp 13, .tmp 14]) zero30 pls30_0_1 rfl (ovL_cons rfl (ovL_cons rfl ovL_nil)) rfl (by first | (simp [plsOk, cellsV]; done) | (simp [plsOk, cellsV, old]; done)) (all_of rfl) rfl) (hd 15 rfl) ?_; refine jo_st (sy_store rfl rfl rfl siz30 rfl rfl (Nat.le_of_ble_eq_true rfl)) ?_; refine jo_nil ?_; refine jc_ret ?_
    refine ⟨_, _, (.cons (ResV.cell agg30 rfl rfl rfl rfl) .nil), (.a1 .b (.a1 .n .a0)), ?_⟩
    simp_all
  · refine jo_s 9 rfl rfl rfl (hd 10 rfl) ?_; refine jo_s 9 rfl rfl rfl (hd 11 rfl) ?_; refine jo_s 9 rfl rfl rfl (hd 12 rfl) ?_; refine jo_l (ly_pick_f rfl rfl) (hd 13 rfl) ?_; refine jo_l (ly_mv rfl) (hd 14 rfl) ?_; refine jo_l (ly_build (is := [0, 1]) (xs := [.tmp 13, .tmp 14]) zero30 pls30_0_1 rfl (ovL_cons rfl (ovL_cons rfl ovL_nil)) rfl (by first | (simp [plsOk, cellsV]; done) | (simp [plsOk, cellsV, old]; done)) (all_of rfl) rfl) (hd 15 rfl) ?_; refine jo_st (sy_store rfl rfl rfl siz30 rfl rfl (Nat.le_of_ble_eq_true rfl)) ?_; refine jo_nil ?_; refine jc_ret ?_
    refine ⟨_, _, (.cons (ResV.cell agg30 rfl rfl rfl rfl) .nil), (.a1 .b (.a1 .n .a0)), ?_⟩
    simp_all

set_option maxHeartbeats 4000000 in
theorem fits_ok (s : Bool) (l : List Int) (hl : l.length < 1099511627776) (hu : u64s l) (h : lenN l ≤ 67108864) : Spec Tryd.prog 90 [.a [.b s, .n false .u64 l]] (fun o => o = .ret (.t [.a [.b (s && decide (0 < ((trm l).length : Int))), .n true .u64 (trm l)], .i .i64 0])) := by
  refine spec_of' [(0, .a [.b s, .n false .u64 l])] rfl Tryd.func90 rfl (Nat.le_of_ble_eq_true rfl) fun Γ hN hds hL hR => ?_
  have hd : ∀ d, Nat.blt d 11 = true → d < Γ.N := fun d h => by rw [hN]; exact Nat.le_of_ble_eq_true h
  refine jc_seq ?_; refine jc_region ?_; refine jo_h (hy_box (id := 0) (n := 2) rfl rfl rfl (by decide) rfl) (hd 1 rfl) ?_; refine jo_h (hy_alloc (id := 1) zero30 (by decide) rfl (by decide) rfl) (hd 2 rfl) ?_; refine jo_l (ly_as rfl) (hd 3 rfl) ?_; refine jo_nil ?_; refine jc_seq ?_; refine jc_seq ?_; refine jc_region ?_; refine jo_l (ly_fa fld30_1 rfl rfl rfl) (hd 4 rfl) ?_; refine jo_l (ly_ld one28 rfl rfl rfl) (hd 5 rfl) ?_
  refine jo_call Tryd.f71 (Length_s l hl hu) rfl Tryd.func71 rfl rfl (ovL_cons rfl ovL_nil) (.cons .n .nil) (hd 6 rfl) ?_ (fun ch hp => by simp at hp)
  rintro y hy; injection hy with hy; subst hy; refine jo_l (ly_ff (ly_gt rfl rfl) (by omega)) (hd 7 rfl) ?_; refine jo_nil ?_; refine jc_litf rfl ?_; refine jc_skip ?_; refine jc_seq ?_; refine jc_region ?_; refine jo_l (ly_lda agg30 rfl rfl rfl rfl) (hd 9 rfl) ?_
  refine jo_call Tryd.f59 (norm_s s l hl) rfl Tryd.func59 rfl rfl (ovL_cons rfl ovL_nil) (.cons (.a1 .b (.a1 .n .a0)) .nil) (hd 10 rfl) ?_ (fun ch hp => by simp at hp)
  rintro y hy; injection hy with hy; subst hy; refine jo_st (sy_store rfl rfl rfl siz30 rfl rfl (Nat.le_of_ble_eq_true rfl)) ?_; refine jo_l (ly_as rfl) (hd 3 rfl) ?_; refine jo_nil ?_; refine jc_ret ?_
  refine ⟨_, _, (.cons (ResV.cell agg30 rfl rfl rfl rfl) (.cons rfl .nil)), (.t1 (.a1 .b (.a1 .n .a0)) (.t1 .i .t0)), ?_⟩
  exact rfl

set_option maxHeartbeats 4000000 in
theorem result_ok (s : Bool) (l : List Int) (hl : l.length < 1099511627776) (hu : u64s l) (h : lenN l ≤ 67108864) : Spec Tryd.prog 61 [.b s, .n false .u64 l, .i .i64 0] (fun o => o = .ret (.t [.a [.b (s && decide (0 < ((trm l).length : Int))), .n true .u64 (trm l)], .i .i64 0])) := by
  refine spec_of' [(0, .b s), (1, .n false .u64 l), (2, .i .i64 0)] rfl Tryd.func61 rfl (Nat.le_of_ble_eq_true rfl) fun Γ hN hds hL hR => ?_
  have hd : ∀ d, Nat.blt d 18 = true → d < Γ.N := fun d h => by rw [hN]; exact Nat.le_of_ble_eq_true h
  refine jc_seq ?_; refine jc_region ?_; refine jo_h (hy_alloc (id := 0) zero30 (by decide) rfl (by decide) rfl) (hd 6 rfl) ?_; refine jo_l (ly_as rfl) (hd 7 rfl) ?_; refine jo_nil ?_; refine jc_seq ?_; refine jc_seq ?_; refine jc_region ?_; refine jo_l (ly_mv rfl) (hd 8 rfl) ?_; refine jo_l (ly_ff (ly_ne rfl rfl) (by simp)) (hd 9 rfl) ?_; refine jo_nil ?_; refine jc_litf rfl ?_; refine jc_skip ?_; refine jc_seq ?_; refine jc_region ?_; refine jo_l (ly_mv rfl) (hd 12 rfl) ?_; refine jo_l (ly_mv rfl) (hd 13 rfl) ?_; refine jo_l (ly_build (is := [0, 1]) (xs := [.tmp 12, .tmp 13]) zero30 pls30_0_1 rfl (ovL_cons rfl (ovL_cons rfl ovL_nil)) rfl (by first | (simp [plsOk, cellsV]; done) | (simp [plsOk, cellsV, old]; done)) (all_of rfl) rfl) (hd 14 rfl) ?_
  refine jo_call Tryd.f90 (fits_ok s l hl hu h) rfl Tryd.func90 rfl rfl (ovL_cons rfl ovL_nil) (.cons (.a1 .b (.a1 .n .a0)) .nil) (hd 15 rfl) ?_ (fun ch hp => by simp at hp)
  rintro y hy; injection hy with hy; subst hy; refine jo_l (ly_ext rfl rfl) (hd 16 rfl) ?_; refine jo_l (ly_ext rfl rfl) (hd 17 rfl) ?_; refine jo_st (sy_store rfl rfl rfl siz30 rfl rfl (Nat.le_of_ble_eq_true rfl)) ?_; refine jo_l (ly_as rfl) (hd 7 rfl) ?_; refine jo_nil ?_; refine jc_ret ?_
  refine ⟨_, _, (.cons (ResV.cell agg30 rfl rfl rfl rfl) (.cons rfl .nil)), (.t1 (.a1 .b (.a1 .n .a0)) (.t1 .i .t0)), ?_⟩
  exact rfl

set_option maxHeartbeats 4000000 in
theorem Of_neg (v : Int) (h0 : v < 0) (h1 : -9223372036854775808 ≤ v) : Spec Tryd.prog 58 [.i .i64 v] (fun o => o = .ret (.a [.b true, .n true .u64 [-v]])) := by
  refine spec_of' [(0, .i .i64 v)] rfl Tryd.func58 rfl (Nat.le_of_ble_eq_true rfl) fun Γ hN hds hL hR => ?_
  have hd : ∀ d, Nat.blt d 14 = true → d < Γ.N := fun d h => by rw [hN]; exact Nat.le_of_ble_eq_true h
  have rF : Spec Tryd.prog 68 [.i .u64 (-v)] (fun o => o = .ret (.n true .u64 [-v])) := by have h := From_s (-v); rwa [if_neg (by omega)] at h
  refine jc_seq ?_; refine jc_region ?_; refine jo_h (hy_alloc (id := 0) zero30 (by decide) rfl (by decide) rfl) (hd 2 rfl) ?_; refine jo_nil ?_; refine jc_seq ?_; refine jc_seq ?_; refine jc_region ?_; refine jo_l (ly_mv rfl) (hd 3 rfl) ?_; refine jo_l (ly_tt (ly_lt rfl rfl) (by omega)) (hd 4 rfl) ?_; refine jo_nil ?_; refine jc_litt rfl ?_; refine jc_seq ?_; refine jc_region ?_; refine jo_l (ly_mv rfl) (hd 5 rfl) ?_; refine jo_l (ly_conv und3 und82 rfl (r := v + 18446744073709551616) (wrap_u64' (by omega) (by omega) (by omega))) (hd 6 rfl) ?_; refine jo_l (ly_neg rfl (r := -v) (wrap_u64' (by omega) (by omega) (by omega))) (hd 7 rfl) ?_
  refine jo_call Tryd.f68 (rF) rfl Tryd.func68 rfl rfl (ovL_cons rfl ovL_nil) (.cons .i .nil) (hd 8 rfl) ?_ (fun ch hp => by simp at hp)
  rintro y hy; injection hy with hy; subst hy; refine jo_l (ly_build (is := [0, 1]) (xs := [.const (.bool true), .tmp 8]) zero30 pls30_0_1 rfl (ovL_cons rfl (ovL_cons rfl ovL_nil)) rfl (by first | (simp [plsOk, cellsV]; done) | (simp [plsOk, cellsV, old]; done)) (all_of rfl) rfl) (hd 9 rfl) ?_; refine jo_st (sy_store rfl rfl rfl siz30 rfl rfl (Nat.le_of_ble_eq_true rfl)) ?_; refine jo_nil ?_; refine jc_ret ?_
  refine ⟨_, _, (.cons (ResV.cell agg30 rfl rfl rfl rfl) .nil), (.a1 .b (.a1 .n .a0)), ?_⟩
  exact rfl

set_option maxHeartbeats 4000000 in
theorem Of_pos (v : Int) (h0 : 0 < v) (h1 : v < 9223372036854775808) : Spec Tryd.prog 58 [.i .i64 v] (fun o => o = .ret (.a [.b false, .n true .u64 [v]])) := by
  refine spec_of' [(0, .i .i64 v)] rfl Tryd.func58 rfl (Nat.le_of_ble_eq_true rfl) fun Γ hN hds hL hR => ?_
  have hd : ∀ d, Nat.blt d 14 = true → d < Γ.N := fun d h => by rw [hN]; exact Nat.le_of_ble_eq_true h
  have rF : Spec Tryd.prog 68 [.i .u64 v] (fun o => o = .ret (.n true .u64 [v])) := by have h := From_s v; rwa [if_neg (by omega)] at h
  refine jc_seq ?_; refine jc_region ?_; refine jo_h (hy_alloc (id := 0) zero30 (by decide) rfl (by decide) rfl) (hd 2 rfl) ?_; refine jo_nil ?_; refine jc_seq ?_; refine jc_seq ?_; refine jc_region ?_; refine jo_l (ly_mv rfl) (hd 3 rfl) ?_; refine jo_l (ly_ff (ly_lt rfl rfl) (by omega)) (hd 4 rfl) ?_; refine jo_nil ?_; refine jc_litf rfl ?_; refine jc_skip ?_; refine jc_seq ?_; refine jc_region ?_; refine jo_l (ly_mv rfl) (hd 10 rfl) ?_; refine jo_l (ly_conv und3 und82 rfl (wrap_u64 (by omega) (by omega))) (hd 11 rfl) ?_
  refine jo_call Tryd.f68 (rF) rfl Tryd.func68 rfl rfl (ovL_cons rfl ovL_nil) (.cons .i .nil) (hd 12 rfl) ?_ (fun ch hp => by simp at hp)
  rintro y hy; injection hy with hy; subst hy; refine jo_l (ly_build (is := [1]) (xs := [.tmp 12]) zero30 pls30_1 rfl (ovL_cons rfl ovL_nil) rfl (by first | (simp [plsOk, cellsV]; done) | (simp [plsOk, cellsV, old]; done)) (all_of rfl) rfl) (hd 13 rfl) ?_; refine jo_st (sy_store rfl rfl rfl siz30 rfl rfl (Nat.le_of_ble_eq_true rfl)) ?_; refine jo_nil ?_; refine jc_ret ?_
  refine ⟨_, _, (.cons (ResV.cell agg30 rfl rfl rfl rfl) .nil), (.a1 .b (.a1 .n .a0)), ?_⟩
  exact rfl
end Go.Proofs.YtaogaegchagbfaaDoor.Vc

/- The contracts of the example (awake) and of surdlaw06.WholeNames. -/
namespace Go.Proofs.YtaogaegchagbfaaDoor.Vc
open Go Go.RowKit
set_option maxHeartbeats 4000000 in
theorem num_s (n : Int) : Spec Tryd.prog 14 [.i .i64 n] (fun o => o = .ret (.i .i64 n)) := by
  refine spec_of' [(0, .i .i64 n)] rfl Tryd.func14 rfl (Nat.le_of_ble_eq_true rfl) fun Γ hN hds hL hR => ?_
  have hd : ∀ d, Nat.blt d 4 = true → d < Γ.N := fun d h => by rw [hN]; exact Nat.le_of_ble_eq_true h
  refine jc_seq ?_; refine jc_region ?_; refine jo_l (ly_as rfl) (hd 2 rfl) ?_; refine jo_nil ?_; refine jc_seq ?_; refine jc_region ?_; refine jo_l (ly_mv rfl) (hd 3 rfl) ?_; refine jo_l (ly_as rfl) (hd 2 rfl) ?_; refine jo_nil ?_; refine jc_ret ?_
  refine ⟨_, _, (.cons rfl .nil), .i, ?_⟩
  exact rfl

set_option maxHeartbeats 4000000 in
theorem down_s (q r b : List Int) (s t u : Bool) : Spec Tryd.prog 107 [.n false .u64 q, .n false .u64 r, .n false .u64 b, .b s, .b t, .b u] (fun o => o = .ret (.b s)) := by
  refine spec_of' [(0, .n false .u64 q), (1, .n false .u64 r), (2, .n false .u64 b), (3, .b s), (4, .b t), (5, .b u)] rfl Tryd.func107 rfl (Nat.le_of_ble_eq_true rfl) fun Γ hN hds hL hR => ?_
  have hd : ∀ d, Nat.blt d 14 = true → d < Γ.N := fun d h => by rw [hN]; exact Nat.le_of_ble_eq_true h
  refine jc_seq ?_; refine jc_region ?_; refine jo_l (ly_as rfl) (hd 12 rfl) ?_; refine jo_nil ?_; refine jc_seq ?_; refine jc_region ?_; refine jo_l (ly_mv rfl) (hd 13 rfl) ?_; refine jo_l (ly_as rfl) (hd 12 rfl) ?_; refine jo_nil ?_; refine jc_ret ?_
  refine ⟨_, _, (.cons rfl .nil), .b, ?_⟩
  exact rfl

set_option maxHeartbeats 4000000 in
set_option maxRecDepth 100000 in
theorem ways_s  : Spec Tryd.prog 98 [] (fun o => o = .ret (.a [.f 106 [], .f 107 [], .f 108 [], .f 109 [], .f 110 []])) := by
  refine spec_of' [] rfl Tryd.func98 rfl (Nat.le_of_ble_eq_true rfl) fun Γ hN hds hL hR => ?_
  have hd : ∀ d, Nat.blt d 2 = true → d < Γ.N := fun d h => by rw [hN]; exact Nat.le_of_ble_eq_true h
  refine jc_seq ?_; refine jc_region ?_; refine jo_h (hy_alloc (id := 0) zero102 (by decide) rfl (by decide) rfl) (hd 0 rfl) ?_; refine jo_nil ?_; refine jc_seq ?_; refine jc_region ?_; refine jo_l (ly_const (v := .agg #[.func (.func 106) #[] #[], .func (.func 107) #[] #[], .func (.func 108) #[] #[], .func (.func 109) #[] #[], .func (.func 110) #[] #[]]) (y := .a [.f 106 [], .f 107 [], .f 108 [], .f 109 [], .f 110 []]) (fun _ _ _ _ => ⟨[.func (.func 106) #[] #[], .func (.func 107) #[] #[], .func (.func 108) #[] #[], .func (.func 109) #[] #[], .func (.func 110) #[] #[]], rfl, _, _, rfl, ⟨[], rfl, rfl⟩, _, _, rfl, ⟨[], rfl, rfl⟩, _, _, rfl, ⟨[], rfl, rfl⟩, _, _, rfl, ⟨[], rfl, rfl⟩, _, _, rfl, ⟨[], rfl, rfl⟩, rfl⟩) (by intro a dst type pos after g w2; kernel_rfl)) (hd 1 rfl) ?_; refine jo_st (sy_store rfl rfl rfl siz102 rfl rfl (Nat.le_of_ble_eq_true rfl)) ?_; refine jo_nil ?_; refine jc_ret ?_
  refine ⟨_, _, (.cons (ResV.cell agg102 rfl rfl rfl rfl) .nil), (.a1 .f (.a1 .f (.a1 .f (.a1 .f (.a1 .f .a0))))), ?_⟩
  exact rfl

set_option maxHeartbeats 4000000 in
theorem divide_ex  : Spec Tryd.prog 86 [.a [.b true, .n false .u64 [7]], .a [.b false, .n false .u64 [2]], .i .i64 1] (fun o => o = .ret (.t [.a [.b true, .n true .u64 [4]], .a [.b false, .n true .u64 [1]], .i .i64 0])) := by
  refine spec_of' [(0, .a [.b true, .n false .u64 [7]]), (1, .a [.b false, .n false .u64 [2]]), (2, .i .i64 1)] rfl Tryd.func86 rfl (Nat.le_of_ble_eq_true rfl) fun Γ hN hds hL hR => ?_
  have hd : ∀ d, Nat.blt d 103 = true → d < Γ.N := fun d h => by rw [hN]; exact Nat.le_of_ble_eq_true h
  have rA : Spec Tryd.prog 59 [.a [.b true, .n false .u64 [7]]] (fun o => o = .ret (.a [.b true, .n true .u64 [7]])) := norm_s true [7] (by decide)
  have rB : Spec Tryd.prog 59 [.a [.b false, .n false .u64 [2]]] (fun o => o = .ret (.a [.b false, .n true .u64 [2]])) := norm_s false [2] (by decide)
  have rD : Spec Tryd.prog 97 [.n false .u64 [7], .n false .u64 [2]] (fun o => o = .ret (.t [.n true .u64 [3], .n true .u64 [1], .i .i64 0])) := Both_1 7 2 (by decide) (by decide) (by decide) (by decide) (by decide)
  have rL : Spec Tryd.prog 71 [.n false .u64 [1]] (fun o => o = .ret (.i .i64 1)) := by have h := Length_s [1] (by decide) (u64s1 (v := 1) (by decide) (by decide)); rw [show lenN [1] = 1 by decide] at h; exact h
  have rF1 : Spec Tryd.prog 68 [.i .u64 1] (fun o => o = .ret (.n true .u64 [1])) := From_s 1
  have rS : Spec Tryd.prog 60 [.n false .u64 [3], .n false .u64 [1]] (fun o => o = .ret (.t [.n false .u64 [4], .i .i64 0])) := by have h := Add_ok [3] [1] (by decide) (by decide) (u64s1 (v := 3) (by decide) (by decide)) (u64s1 (v := 1) (by decide) (by decide)) (by decide); rw [show trm (sumL [3] [1]) = [4] by decide] at h; exact h
  have rM : Spec Tryd.prog 63 [.n false .u64 [2], .n false .u64 [1]] (fun o => o = .ret (.t [.n false .u64 [1], .i .i64 0])) := by have h := Sub_ok [2] [1] (by decide) (by decide) (u64s1 (v := 2) (by decide) (by decide)) (u64s1 (v := 1) (by decide) (by decide)) (by decide) (by decide); rw [show trm (difL [2] [1]) = [1] by decide] at h; exact h
  have rR4 : Spec Tryd.prog 61 [.b true, .n false .u64 [4], .i .i64 0] (fun o => o = .ret (.t [.a [.b true, .n true .u64 [4]], .i .i64 0])) := result_ok true [4] (by decide) (u64s1 (v := 4) (by decide) (by decide)) (by decide)
  have rR1 : Spec Tryd.prog 61 [.b false, .n false .u64 [1], .i .i64 0] (fun o => o = .ret (.t [.a [.b false, .n true .u64 [1]], .i .i64 0])) := result_ok false [1] (by decide) (u64s1 (v := 1) (by decide) (by decide)) (by decide)
  refine jc_seq ?_; refine jc_region ?_; refine jo_h (hy_box (id := 0) (n := 2) rfl rfl rfl (by decide) rfl) (hd 3 rfl) ?_; refine jo_h (hy_box (id := 1) (n := 2) rfl rfl rfl (by decide) rfl) (hd 4 rfl) ?_; refine jo_h (hy_alloc (id := 2) zero30 (by decide) rfl (by decide) rfl) (hd 6 rfl) ?_; refine jo_h (hy_alloc (id := 3) zero30 (by decide) rfl (by decide) rfl) (hd 7 rfl) ?_; refine jo_l (ly_as rfl) (hd 8 rfl) ?_; refine jo_nil ?_; refine jc_seq ?_; refine jc_draw (n := 6) _ rfl mixed ?_; refine ja_l2 0 [1, 3, 4, 5] (lo_l (ly_lda agg30 rfl rfl rfl rfl) (hd 16 rfl)) rfl (by kernel_rfl) (by kernel_rfl) (by kernel_rfl) (by kernel_rfl) (fun _ _ _ _ h => h) ?_; refine ja_l2 2 [3, 4, 5] (lo_l (ly_lda agg30 rfl rfl rfl rfl) (hd 18 rfl)) rfl (by kernel_rfl) (by kernel_rfl) (by kernel_rfl) (by kernel_rfl) (fun _ _ _ _ h => h) ?_
  refine ja_1 1 ?_ rfl (by kernel_rfl)
  refine js_call Tryd.f59 (rA) rfl Tryd.func59 rfl rfl (ovL_cons rfl ovL_nil) (.cons (.a1 .b (.a1 .n .a0)) .nil) (hd 17 rfl) ?_ (fun ch hp => by simp at hp)
  rintro y hy; injection hy with hy; subst hy
  refine ja_1 3 ?_ rfl (by kernel_rfl)
  refine js_call Tryd.f59 (rB) rfl Tryd.func59 rfl rfl (ovL_cons rfl ovL_nil) (.cons (.a1 .b (.a1 .n .a0)) .nil) (hd 19 rfl) ?_ (fun ch hp => by simp at hp)
  rintro y hy; injection hy with hy; subst hy
  refine ja_1 4 ?_ rfl (by kernel_rfl)
  refine js_st (sy_store rfl rfl rfl siz30 rfl rfl (Nat.le_of_ble_eq_true rfl)) rfl ?_
  refine ja_1 5 ?_ rfl (by kernel_rfl)
  refine js_st (sy_store rfl rfl rfl siz30 rfl rfl (Nat.le_of_ble_eq_true rfl)) rfl ?_; refine ja_nil (by kernel_rfl) ?_; refine jc_seq ?_; refine jc_region ?_; refine jo_l (ly_fa fld30_1 rfl rfl rfl) (hd 21 rfl) ?_; refine jo_l (ly_ld one28 rfl rfl rfl) (hd 22 rfl) ?_; refine jo_l (ly_fa fld30_1 rfl rfl rfl) (hd 23 rfl) ?_; refine jo_l (ly_ld one28 rfl rfl rfl) (hd 24 rfl) ?_
  refine jo_call Tryd.f97 (rD) rfl Tryd.func97 rfl rfl (ovL_cons rfl (ovL_cons rfl ovL_nil)) (.cons .n (.cons .n .nil)) (hd 25 rfl) ?_ (fun ch hp => by simp at hp)
  rintro y hy; injection hy with hy; subst hy; refine jo_l (ly_mv rfl) (hd 20 rfl) ?_; refine jo_l (ly_ext rfl rfl) (hd 26 rfl) ?_; refine jo_l (ly_ext rfl rfl) (hd 27 rfl) ?_; refine jo_l (ly_ext rfl rfl) (hd 28 rfl) ?_; refine jo_l (ly_as rfl) (hd 9 rfl) ?_; refine jo_l (ly_as rfl) (hd 10 rfl) ?_; refine jo_l (ly_as rfl) (hd 11 rfl) ?_; refine jo_nil ?_; refine jc_seq ?_; refine jc_seq ?_; refine jc_region ?_; refine jo_l (ly_mv rfl) (hd 29 rfl) ?_; refine jo_l (ly_ff (ly_ne rfl rfl) (by simp)) (hd 30 rfl) ?_; refine jo_nil ?_; refine jc_litf rfl ?_; refine jc_skip ?_; refine jc_seq ?_; refine jc_draw (n := 9) _ rfl mixed ?_; refine ja_l2 0 [1, 4, 7, 8] (lo_l (ly_fa fld30_0 rfl rfl rfl) (hd 34 rfl)) rfl (by kernel_rfl) (by kernel_rfl) (by kernel_rfl) (by kernel_rfl) (fun _ _ _ _ h => h) ?_; refine ja_l 1 (lo_l (ly_ld one4 rfl rfl rfl) (hd 35 rfl)) rfl (by kernel_rfl) (by kernel_rfl) (by kernel_rfl) (fun _ _ _ _ h => h) ?_; refine ja_l2 2 [3, 4, 7, 8] (lo_l (ly_fa fld30_0 rfl rfl rfl) (hd 36 rfl)) rfl (by kernel_rfl) (by kernel_rfl) (by kernel_rfl) (by kernel_rfl) (fun _ _ _ _ h => h) ?_; refine ja_l 3 (lo_l (ly_ld one4 rfl rfl rfl) (hd 37 rfl)) rfl (by kernel_rfl) (by kernel_rfl) (by kernel_rfl) (fun _ _ _ _ h => h) ?_; refine ja_l 4 (lo_l (ly_is (ly_neb und4 rfl rfl) (show V.b (!(true == false)) = V.b true from rfl)) (hd 38 rfl)) rfl (by kernel_rfl) (by kernel_rfl) (by kernel_rfl) (fun _ _ _ _ h => h) ?_; refine ja_l 5 (lo_l (ly_fa fld30_0 rfl rfl rfl) (hd 39 rfl)) rfl (by kernel_rfl) (by kernel_rfl) (by kernel_rfl) (fun _ _ _ _ h => h) ?_; refine ja_l 6 (lo_l (ly_ld one4 rfl rfl rfl) (hd 40 rfl)) rfl (by kernel_rfl) (by kernel_rfl) (by kernel_rfl) (fun _ _ _ _ h => h) ?_; refine ja_l 7 (lo_l (ly_as rfl) (hd 12 rfl)) rfl (by kernel_rfl) (by kernel_rfl) (by kernel_rfl) (fun _ _ _ _ h => h) ?_; refine ja_l 8 (lo_l (ly_as rfl) (hd 13 rfl)) rfl (by kernel_rfl) (by kernel_rfl) (by kernel_rfl) (fun _ _ _ _ h => h) ?_; refine ja_nil (by kernel_rfl) ?_; refine jc_seq ?_; refine jc_seq ?_; refine jc_draw (n := 18) _ rfl mixed ?_; refine ja_l2 0 [1, 2, 3, 4, 5, 6, 7, 8, 9, 10, 11, 12, 13, 14, 15, 16, 17] (lo_l (ly_mv rfl) (hd 41 rfl)) rfl (by kernel_rfl) (by kernel_rfl) (by kernel_rfl) (by kernel_rfl) (fun _ _ _ _ h => h) ?_
  refine ja_1 1 ?_ rfl (by kernel_rfl)
  refine js_call Tryd.f71 (rL) rfl Tryd.func71 rfl rfl (ovL_cons rfl ovL_nil) (.cons .n .nil) (hd 42 rfl) ?_ (fun ch hp => by simp at hp)
  rintro y hy; injection hy with hy; subst hy; refine ja_l2 2 [3, 4, 5, 6, 7, 8, 9, 10, 11, 12, 13, 14, 15, 16, 17] (lo_l (ly_tt (ly_gt rfl rfl) (by decide)) (hd 43 rfl)) rfl (by kernel_rfl) (by kernel_rfl) (by kernel_rfl) (by kernel_rfl) (fun _ _ _ _ h => h) ?_; refine ja_l 3 (lo_l (ly_mv rfl) (hd 44 rfl)) rfl (by kernel_rfl) (by kernel_rfl) (by kernel_rfl) (fun _ _ _ _ h => h) ?_; refine ja_l2 5 [6, 16, 17] (lo_g 44 rfl rfl (ly_mv rfl) (hd 46 rfl)) rfl (by kernel_rfl) (by kernel_rfl) (by kernel_rfl) (by kernel_rfl) (fun _ _ _ _ h => h) ?_; refine ja_l2 7 [16, 17] (lo_g 44 rfl rfl (ly_mv rfl) (hd 48 rfl)) rfl (by kernel_rfl) (by kernel_rfl) (by kernel_rfl) (by kernel_rfl) (fun _ _ _ _ h => h) ?_; refine ja_l2 8 [16, 17] (lo_g 44 rfl rfl (ly_mv rfl) (hd 49 rfl)) rfl (by kernel_rfl) (by kernel_rfl) (by kernel_rfl) (by kernel_rfl) (fun _ _ _ _ h => h) ?_; refine ja_l2 9 [10, 16, 17] (lo_g 44 rfl rfl (ly_fa fld30_1 rfl rfl rfl) (hd 50 rfl)) rfl (by kernel_rfl) (by kernel_rfl) (by kernel_rfl) (by kernel_rfl) (fun _ _ _ _ h => h) ?_; refine ja_l2 10 [16, 17] (lo_g 44 rfl rfl (ly_ld one28 rfl rfl rfl) (hd 51 rfl)) rfl (by kernel_rfl) (by kernel_rfl) (by kernel_rfl) (by kernel_rfl) (fun _ _ _ _ h => h) ?_; refine ja_l2 11 [16, 17] (lo_g 44 rfl rfl (ly_mv rfl) (hd 52 rfl)) rfl (by kernel_rfl) (by kernel_rfl) (by kernel_rfl) (by kernel_rfl) (fun _ _ _ _ h => h) ?_; refine ja_l2 12 [13, 16, 17] (lo_g 44 rfl rfl (ly_fa fld30_0 rfl rfl rfl) (hd 53 rfl)) rfl (by kernel_rfl) (by kernel_rfl) (by kernel_rfl) (by kernel_rfl) (fun _ _ _ _ h => h) ?_; refine ja_l2 13 [16, 17] (lo_g 44 rfl rfl (ly_ld one4 rfl rfl rfl) (hd 54 rfl)) rfl (by kernel_rfl) (by kernel_rfl) (by kernel_rfl) (by kernel_rfl) (fun _ _ _ _ h => h) ?_; refine ja_l2 14 [15, 16, 17] (lo_g 44 rfl rfl (ly_fa fld30_0 rfl rfl rfl) (hd 55 rfl)) rfl (by kernel_rfl) (by kernel_rfl) (by kernel_rfl) (by kernel_rfl) (fun _ _ _ _ h => h) ?_; refine ja_l2 15 [16, 17] (lo_g 44 rfl rfl (ly_ld one4 rfl rfl rfl) (hd 56 rfl)) rfl (by kernel_rfl) (by kernel_rfl) (by kernel_rfl) (by kernel_rfl) (fun _ _ _ _ h => h) ?_
  refine ja_1 4 ?_ rfl (by kernel_rfl)
  refine js_callg Tryd.f98 44 rfl rfl (ways_s) rfl Tryd.func98 rfl rfl ovL_nil .nil (hd 45 rfl) ?_ (fun ch hp => by simp at hp)
  rintro y hy; injection hy with hy; subst hy; refine ja_l2 6 [16, 17] (lo_g 44 rfl rfl (ly_ixa (i := 1) undA102 one101 rfl rfl rfl (by decide) rfl) (hd 47 rfl)) rfl (by kernel_rfl) (by kernel_rfl) (by kernel_rfl) (by kernel_rfl) (fun _ _ _ _ h => h) ?_
  refine ja_1 16 ?_ rfl (by kernel_rfl)
  refine js_callg Tryd.f107 44 rfl rfl (down_s [3] [1] [2] true false true) rfl Tryd.func107 rfl rfl (ovL_cons rfl (ovL_cons rfl (ovL_cons rfl (ovL_cons rfl (ovL_cons rfl (ovL_cons rfl ovL_nil)))))) (.cons .n (.cons .n (.cons .n (.cons .b (.cons .b (.cons .b .nil)))))) (hd 57 rfl) ?_ (fun ch hp => by simp at hp)
  rintro y hy; injection hy with hy; subst hy; refine ja_l 17 (lo_l (ly_pick_t rfl rfl) (hd 58 rfl)) rfl (by kernel_rfl) (by kernel_rfl) (by kernel_rfl) (fun _ _ _ _ h => h) ?_; refine ja_nil (by kernel_rfl) ?_; refine jc_litt rfl ?_; refine jc_seq ?_; refine jc_seq ?_; refine jc_region ?_; refine jo_l (ly_mv rfl) (hd 60 rfl) ?_
  refine jo_call Tryd.f68 (rF1) rfl Tryd.func68 rfl rfl (ovL_cons rfl ovL_nil) (.cons .i .nil) (hd 61 rfl) ?_ (fun ch hp => by simp at hp)
  rintro y hy; injection hy with hy; subst hy
  refine jo_call Tryd.f60 (rS) rfl Tryd.func60 rfl rfl (ovL_cons rfl (ovL_cons rfl ovL_nil)) (.cons .n (.cons .n .nil)) (hd 62 rfl) ?_ (fun ch hp => by simp at hp)
  rintro y hy; injection hy with hy; subst hy; refine jo_l (ly_mv rfl) (hd 59 rfl) ?_; refine jo_l (ly_ext rfl rfl) (hd 63 rfl) ?_; refine jo_l (ly_ext rfl rfl) (hd 64 rfl) ?_; refine jo_l (ly_as rfl) (hd 9 rfl) ?_; refine jo_l (ly_as rfl) (hd 11 rfl) ?_; refine jo_nil ?_; refine jc_seq ?_; refine jc_region ?_; refine jo_l (ly_mv rfl) (hd 65 rfl) ?_; refine jo_l (ly_ff (ly_ne rfl rfl) (by simp)) (hd 66 rfl) ?_; refine jo_nil ?_; refine jc_litf rfl ?_; refine jc_skip ?_; refine jc_seq ?_; refine jc_region ?_; refine jo_l (ly_fa fld30_1 rfl rfl rfl) (hd 71 rfl) ?_; refine jo_l (ly_ld one28 rfl rfl rfl) (hd 72 rfl) ?_; refine jo_l (ly_mv rfl) (hd 73 rfl) ?_
  refine jo_call Tryd.f63 (rM) rfl Tryd.func63 rfl rfl (ovL_cons rfl (ovL_cons rfl ovL_nil)) (.cons .n (.cons .n .nil)) (hd 74 rfl) ?_ (fun ch hp => by simp at hp)
  rintro y hy; injection hy with hy; subst hy; refine jo_l (ly_mv rfl) (hd 70 rfl) ?_; refine jo_l (ly_ext rfl rfl) (hd 75 rfl) ?_; refine jo_l (ly_ext rfl rfl) (hd 76 rfl) ?_; refine jo_l (ly_as rfl) (hd 10 rfl) ?_; refine jo_nil ?_; refine jc_region ?_; refine jo_l (ly_mv rfl) (hd 77 rfl) ?_; refine jo_l (ly_not rfl) (hd 78 rfl) ?_; refine jo_l (ly_as rfl) (hd 13 rfl) ?_; refine jo_nil ?_; refine jc_seq ?_; refine jc_region ?_; refine jo_l (ly_mv rfl) (hd 80 rfl) ?_; refine jo_l (ly_mv rfl) (hd 81 rfl) ?_
  refine jo_call Tryd.f61 (rR4) rfl Tryd.func61 rfl rfl (ovL_cons rfl (ovL_cons rfl (ovL_cons rfl ovL_nil))) (.cons .b (.cons .n (.cons .i .nil))) (hd 82 rfl) ?_ (fun ch hp => by simp at hp)
  rintro y hy; injection hy with hy; subst hy; refine jo_l (ly_mv rfl) (hd 79 rfl) ?_; refine jo_l (ly_ext rfl rfl) (hd 83 rfl) ?_; refine jo_l (ly_ext rfl rfl) (hd 84 rfl) ?_; refine jo_h (hy_alloc (id := 4) zero30 (by decide) rfl (by decide) rfl) (hd 14 rfl) ?_; refine jo_st (sy_store rfl rfl rfl siz30 rfl rfl (Nat.le_of_ble_eq_true rfl)) ?_; refine jo_l (ly_as rfl) (hd 11 rfl) ?_; refine jo_nil ?_; refine jc_seq ?_; refine jc_seq ?_; refine jc_region ?_; refine jo_l (ly_mv rfl) (hd 85 rfl) ?_; refine jo_l (ly_ff (ly_ne rfl rfl) (by simp)) (hd 86 rfl) ?_; refine jo_nil ?_; refine jc_litf rfl ?_; refine jc_skip ?_; refine jc_seq ?_; refine jc_region ?_; refine jo_l (ly_mv rfl) (hd 91 rfl) ?_; refine jo_l (ly_mv rfl) (hd 92 rfl) ?_
  refine jo_call Tryd.f61 (rR1) rfl Tryd.func61 rfl rfl (ovL_cons rfl (ovL_cons rfl (ovL_cons rfl ovL_nil))) (.cons .b (.cons .n (.cons .i .nil))) (hd 93 rfl) ?_ (fun ch hp => by simp at hp)
  rintro y hy; injection hy with hy; subst hy; refine jo_l (ly_mv rfl) (hd 90 rfl) ?_; refine jo_l (ly_ext rfl rfl) (hd 94 rfl) ?_; refine jo_l (ly_ext rfl rfl) (hd 95 rfl) ?_; refine jo_h (hy_alloc (id := 5) zero30 (by decide) rfl (by decide) rfl) (hd 15 rfl) ?_; refine jo_st (sy_store rfl rfl rfl siz30 rfl rfl (Nat.le_of_ble_eq_true rfl)) ?_; refine jo_l (ly_as rfl) (hd 11 rfl) ?_; refine jo_nil ?_; refine jc_seq ?_; refine jc_seq ?_; refine jc_region ?_; refine jo_l (ly_mv rfl) (hd 96 rfl) ?_; refine jo_l (ly_ff (ly_ne rfl rfl) (by simp)) (hd 97 rfl) ?_; refine jo_nil ?_; refine jc_litf rfl ?_; refine jc_skip ?_; refine jc_seq ?_; refine jc_draw (n := 5) _ rfl mixed ?_; refine ja_l 0 (lo_l (ly_lda agg30 rfl rfl rfl rfl) (hd 101 rfl)) rfl (by kernel_rfl) (by kernel_rfl) (by kernel_rfl) (fun _ _ _ _ h => h) ?_
  refine ja_2 1 2 ?_ ?_ rfl rfl (by kernel_rfl)
  · refine js_l (ly_lda agg30 rfl rfl rfl rfl) (hd 102 rfl) ?_
    refine ja_1 2 ?_ rfl (by kernel_rfl)
    refine js_st (sy_store rfl rfl rfl siz30 rfl rfl (Nat.le_of_ble_eq_true rfl)) rfl ?_
    refine ja_1 3 ?_ rfl (by kernel_rfl)
    refine js_st (sy_store rfl rfl rfl siz30 rfl rfl (Nat.le_of_ble_eq_true rfl)) rfl ?_; refine ja_l 4 (lo_l (ly_as rfl) (hd 8 rfl)) rfl (by kernel_rfl) (by kernel_rfl) (by kernel_rfl) (fun _ _ _ _ h => h) ?_; refine ja_nil (by kernel_rfl) ?_; refine jc_ret ?_
    refine ⟨_, _, (.cons (ResV.cell agg30 rfl rfl rfl rfl) (.cons (ResV.cell agg30 rfl rfl rfl rfl) (.cons rfl .nil))), (.t1 (.a1 .b (.a1 .n .a0)) (.t1 (.a1 .b (.a1 .n .a0)) (.t1 .i .t0))), ?_⟩
    exact rfl
  · refine js_st (sy_store rfl rfl rfl siz30 rfl rfl (Nat.le_of_ble_eq_true rfl)) rfl ?_; refine ja_l 1 (lo_l (ly_lda agg30 rfl rfl rfl rfl) (hd 102 rfl)) rfl (by kernel_rfl) (by kernel_rfl) (by kernel_rfl) (fun _ _ _ _ h => h) ?_
    refine ja_1 3 ?_ rfl (by kernel_rfl)
    refine js_st (sy_store rfl rfl rfl siz30 rfl rfl (Nat.le_of_ble_eq_true rfl)) rfl ?_; refine ja_l 4 (lo_l (ly_as rfl) (hd 8 rfl)) rfl (by kernel_rfl) (by kernel_rfl) (by kernel_rfl) (fun _ _ _ _ h => h) ?_; refine ja_nil (by kernel_rfl) ?_; refine jc_ret ?_
    refine ⟨_, _, (.cons (ResV.cell agg30 rfl rfl rfl rfl) (.cons (ResV.cell agg30 rfl rfl rfl rfl) (.cons rfl .nil))), (.t1 (.a1 .b (.a1 .n .a0)) (.t1 (.a1 .b (.a1 .n .a0)) (.t1 .i .t0))), ?_⟩
    exact rfl

set_option maxHeartbeats 4000000 in
theorem Floor_ex  : Spec Tryd.prog 57 [.a [.b true, .n false .u64 [7]], .a [.b false, .n false .u64 [2]]] (fun o => o = .ret (.t [.a [.b true, .n true .u64 [4]], .a [.b false, .n true .u64 [1]], .i .i64 0])) := by
  refine spec_of' [(0, .a [.b true, .n false .u64 [7]]), (1, .a [.b false, .n false .u64 [2]])] rfl Tryd.func57 rfl (Nat.le_of_ble_eq_true rfl) fun Γ hN hds hL hR => ?_
  have hd : ∀ d, Nat.blt d 13 = true → d < Γ.N := fun d h => by rw [hN]; exact Nat.le_of_ble_eq_true h
  refine jc_seq ?_; refine jc_region ?_; refine jo_h (hy_box (id := 0) (n := 2) rfl rfl rfl (by decide) rfl) (hd 2 rfl) ?_; refine jo_h (hy_box (id := 1) (n := 2) rfl rfl rfl (by decide) rfl) (hd 3 rfl) ?_; refine jo_h (hy_alloc (id := 2) zero30 (by decide) rfl (by decide) rfl) (hd 4 rfl) ?_; refine jo_h (hy_alloc (id := 3) zero30 (by decide) rfl (by decide) rfl) (hd 5 rfl) ?_; refine jo_l (ly_as rfl) (hd 6 rfl) ?_; refine jo_nil ?_; refine jc_seq ?_; refine jc_region ?_; refine jo_l (ly_lda agg30 rfl rfl rfl rfl) (hd 7 rfl) ?_; refine jo_l (ly_lda agg30 rfl rfl rfl rfl) (hd 8 rfl) ?_
  refine jo_call Tryd.f86 (divide_ex) rfl Tryd.func86 rfl rfl (ovL_cons rfl (ovL_cons rfl (ovL_cons rfl ovL_nil))) (.cons (.a1 .b (.a1 .n .a0)) (.cons (.a1 .b (.a1 .n .a0)) (.cons .i .nil))) (hd 9 rfl) ?_ (fun ch hp => by simp at hp)
  rintro y hy; injection hy with hy; subst hy; refine jo_l (ly_ext rfl rfl) (hd 10 rfl) ?_; refine jo_l (ly_ext rfl rfl) (hd 11 rfl) ?_; refine jo_l (ly_ext rfl rfl) (hd 12 rfl) ?_; refine jo_st (sy_store rfl rfl rfl siz30 rfl rfl (Nat.le_of_ble_eq_true rfl)) ?_; refine jo_st (sy_store rfl rfl rfl siz30 rfl rfl (Nat.le_of_ble_eq_true rfl)) ?_; refine jo_l (ly_as rfl) (hd 6 rfl) ?_; refine jo_nil ?_; refine jc_ret ?_
  refine ⟨_, _, (.cons (ResV.cell agg30 rfl rfl rfl rfl) (.cons (ResV.cell agg30 rfl rfl rfl rfl) (.cons rfl .nil))), (.t1 (.a1 .b (.a1 .n .a0)) (.t1 (.a1 .b (.a1 .n .a0)) (.t1 .i .t0))), ?_⟩
  exact rfl

set_option maxHeartbeats 4000000 in
theorem awake_s  : Spec Tryd.prog 24 [] (fun o => o = .ret (.b true)) := by
  refine spec_of' [] rfl Tryd.func24 rfl (Nat.le_of_ble_eq_true rfl) fun Γ hN hds hL hR => ?_
  have hd : ∀ d, Nat.blt d 30 = true → d < Γ.N := fun d h => by rw [hN]; exact Nat.le_of_ble_eq_true h
  have r7 : Spec Tryd.prog 58 [.i .i64 (-7)] (fun o => o = .ret (.a [.b true, .n true .u64 [7]])) := Of_neg (-7) (by decide) (by decide)
  have r2 : Spec Tryd.prog 58 [.i .i64 2] (fun o => o = .ret (.a [.b false, .n true .u64 [2]])) := Of_pos 2 (by decide) (by decide)
  have rI4 : Spec Tryd.prog 21 [.i .i64 (-4)] (fun o => o = .ret (.a [.b true, .n false .u64 [4]])) := Int_neg (-4) (by decide) (by decide)
  have rI1 : Spec Tryd.prog 21 [.i .i64 1] (fun o => o = .ret (.a [.b false, .n false .u64 [1]])) := Int_pos 1 (by decide) (by decide)
  have rZ4 : Spec Tryd.prog 50 [.a [.b true, .n false .u64 [4]], .b true, .n false .u64 [4]] (fun o => o = .ret (.b true)) := ZIs_s true [4] (by decide)
  have rZ1 : Spec Tryd.prog 50 [.a [.b false, .n false .u64 [1]], .b false, .n false .u64 [1]] (fun o => o = .ret (.b true)) := ZIs_s false [1] (by decide)
  refine jc_seq ?_; refine jc_region ?_; refine jo_l (ly_as rfl) (hd 0 rfl) ?_; refine jo_nil ?_; refine jc_seq ?_; refine jc_region ?_
  refine jo_call Tryd.f58 (r7) rfl Tryd.func58 rfl rfl (ovL_cons rfl ovL_nil) (.cons .i .nil) (hd 5 rfl) ?_ (fun ch hp => by simp at hp)
  rintro y hy; injection hy with hy; subst hy
  refine jo_call Tryd.f58 (r2) rfl Tryd.func58 rfl rfl (ovL_cons rfl ovL_nil) (.cons .i .nil) (hd 6 rfl) ?_ (fun ch hp => by simp at hp)
  rintro y hy; injection hy with hy; subst hy
  refine jo_call Tryd.f57 (Floor_ex) rfl Tryd.func57 rfl rfl (ovL_cons rfl (ovL_cons rfl ovL_nil)) (.cons (.a1 .b (.a1 .n .a0)) (.cons (.a1 .b (.a1 .n .a0)) .nil)) (hd 7 rfl) ?_ (fun ch hp => by simp at hp)
  rintro y hy; injection hy with hy; subst hy; refine jo_l (ly_mv rfl) (hd 4 rfl) ?_; refine jo_l (ly_ext rfl rfl) (hd 8 rfl) ?_; refine jo_l (ly_ext rfl rfl) (hd 9 rfl) ?_; refine jo_l (ly_ext rfl rfl) (hd 10 rfl) ?_; refine jo_h (hy_alloc (id := 0) zero30 (by decide) rfl (by decide) rfl) (hd 1 rfl) ?_; refine jo_h (hy_alloc (id := 1) zero30 (by decide) rfl (by decide) rfl) (hd 2 rfl) ?_; refine jo_st (sy_store rfl rfl rfl siz30 rfl rfl (Nat.le_of_ble_eq_true rfl)) ?_; refine jo_st (sy_store rfl rfl rfl siz30 rfl rfl (Nat.le_of_ble_eq_true rfl)) ?_; refine jo_l (ly_as rfl) (hd 3 rfl) ?_; refine jo_nil ?_; refine jc_seq ?_; refine jc_draw (n := 20) _ rfl mixed ?_; refine ja_l2 0 [1, 2, 3, 4, 5, 6, 7, 8, 9, 10, 11, 12, 13, 14, 15, 16, 17, 18, 19] (lo_l (ly_mv rfl) (hd 11 rfl)) rfl (by kernel_rfl) (by kernel_rfl) (by kernel_rfl) (by kernel_rfl) (fun _ _ _ _ h => h) ?_
  refine ja_1 1 ?_ rfl (by kernel_rfl)
  refine js_call Tryd.f14 (num_s 0) rfl Tryd.func14 rfl rfl (ovL_cons rfl ovL_nil) (.cons .i .nil) (hd 12 rfl) ?_ (fun ch hp => by simp at hp)
  rintro y hy; injection hy with hy; subst hy; refine ja_l2 2 [3, 4, 5, 6, 7, 8, 9, 10, 11, 12, 13, 14, 15, 16, 17, 18, 19] (lo_l (ly_tt (ly_eq rfl rfl) rfl) (hd 13 rfl)) rfl (by kernel_rfl) (by kernel_rfl) (by kernel_rfl) (by kernel_rfl) (fun _ _ _ _ h => h) ?_; refine ja_l2 3 [4, 5, 6, 7, 8, 9, 10, 11, 12, 13, 14, 15, 16, 17, 18, 19] (lo_l (ly_mv rfl) (hd 14 rfl)) rfl (by kernel_rfl) (by kernel_rfl) (by kernel_rfl) (by kernel_rfl) (fun _ _ _ _ h => h) ?_; refine ja_l2 5 [6, 9, 10, 11, 12, 13, 14, 15, 16, 17, 18, 19] (lo_g 14 rfl rfl (ly_fa fld30_0 rfl rfl rfl) (hd 16 rfl)) rfl (by kernel_rfl) (by kernel_rfl) (by kernel_rfl) (by kernel_rfl) (fun _ _ _ _ h => h) ?_; refine ja_l2 6 [9, 10, 11, 12, 13, 14, 15, 16, 17, 18, 19] (lo_g 14 rfl rfl (ly_ld one4 rfl rfl rfl) (hd 17 rfl)) rfl (by kernel_rfl) (by kernel_rfl) (by kernel_rfl) (by kernel_rfl) (fun _ _ _ _ h => h) ?_; refine ja_l2 7 [8, 9, 10, 11, 12, 13, 14, 15, 16, 17, 18, 19] (lo_g 14 rfl rfl (ly_fa fld30_1 rfl rfl rfl) (hd 18 rfl)) rfl (by kernel_rfl) (by kernel_rfl) (by kernel_rfl) (by kernel_rfl) (fun _ _ _ _ h => h) ?_; refine ja_l2 8 [9, 10, 11, 12, 13, 14, 15, 16, 17, 18, 19] (lo_g 14 rfl rfl (ly_ld one28 rfl rfl rfl) (hd 19 rfl)) rfl (by kernel_rfl) (by kernel_rfl) (by kernel_rfl) (by kernel_rfl) (fun _ _ _ _ h => h) ?_
  refine ja_1 4 ?_ rfl (by kernel_rfl)
  refine js_callg Tryd.f21 14 rfl rfl (rI4) rfl Tryd.func21 rfl rfl (ovL_cons rfl ovL_nil) (.cons .i .nil) (hd 15 rfl) ?_ (fun ch hp => by simp at hp)
  rintro y hy; injection hy with hy; subst hy
  refine ja_1 9 ?_ rfl (by kernel_rfl)
  refine js_callg Tryd.f50 14 rfl rfl (rZ4) rfl Tryd.func50 rfl rfl (ovL_cons rfl (ovL_cons rfl (ovL_cons rfl ovL_nil))) (.cons (.a1 .b (.a1 .n .a0)) (.cons .b (.cons .n .nil))) (hd 20 rfl) ?_ (fun ch hp => by simp at hp)
  rintro y hy; injection hy with hy; subst hy; refine ja_l2 10 [11, 12, 13, 14, 15, 16, 17, 18, 19] (lo_l (ly_pick_t rfl rfl) (hd 21 rfl)) rfl (by kernel_rfl) (by kernel_rfl) (by kernel_rfl) (by kernel_rfl) (fun _ _ _ _ h => h) ?_; refine ja_l 11 (lo_l (ly_mv rfl) (hd 22 rfl)) rfl (by kernel_rfl) (by kernel_rfl) (by kernel_rfl) (fun _ _ _ _ h => h) ?_; refine ja_l2 13 [14, 17, 18, 19] (lo_g 22 rfl rfl (ly_fa fld30_0 rfl rfl rfl) (hd 24 rfl)) rfl (by kernel_rfl) (by kernel_rfl) (by kernel_rfl) (by kernel_rfl) (fun _ _ _ _ h => h) ?_; refine ja_l2 14 [17, 18, 19] (lo_g 22 rfl rfl (ly_ld one4 rfl rfl rfl) (hd 25 rfl)) rfl (by kernel_rfl) (by kernel_rfl) (by kernel_rfl) (by kernel_rfl) (fun _ _ _ _ h => h) ?_; refine ja_l2 15 [16, 17, 18, 19] (lo_g 22 rfl rfl (ly_fa fld30_1 rfl rfl rfl) (hd 26 rfl)) rfl (by kernel_rfl) (by kernel_rfl) (by kernel_rfl) (by kernel_rfl) (fun _ _ _ _ h => h) ?_; refine ja_l2 16 [17, 18, 19] (lo_g 22 rfl rfl (ly_ld one28 rfl rfl rfl) (hd 27 rfl)) rfl (by kernel_rfl) (by kernel_rfl) (by kernel_rfl) (by kernel_rfl) (fun _ _ _ _ h => h) ?_
  refine ja_1 12 ?_ rfl (by kernel_rfl)
  refine js_callg Tryd.f21 22 rfl rfl (rI1) rfl Tryd.func21 rfl rfl (ovL_cons rfl ovL_nil) (.cons .i .nil) (hd 23 rfl) ?_ (fun ch hp => by simp at hp)
  rintro y hy; injection hy with hy; subst hy
  refine ja_1 17 ?_ rfl (by kernel_rfl)
  refine js_callg Tryd.f50 22 rfl rfl (rZ1) rfl Tryd.func50 rfl rfl (ovL_cons rfl (ovL_cons rfl (ovL_cons rfl ovL_nil))) (.cons (.a1 .b (.a1 .n .a0)) (.cons .b (.cons .n .nil))) (hd 28 rfl) ?_ (fun ch hp => by simp at hp)
  rintro y hy; injection hy with hy; subst hy; refine ja_l 18 (lo_l (ly_pick_t rfl rfl) (hd 29 rfl)) rfl (by kernel_rfl) (by kernel_rfl) (by kernel_rfl) (fun _ _ _ _ h => h) ?_; refine ja_l 19 (lo_l (ly_as rfl) (hd 0 rfl)) rfl (by kernel_rfl) (by kernel_rfl) (by kernel_rfl) (fun _ _ _ _ h => h) ?_; refine ja_nil (by kernel_rfl) ?_; refine jc_ret ?_
  refine ⟨_, _, (.cons rfl .nil), .b, ?_⟩
  exact rfl
end Go.Proofs.YtaogaegchagbfaaDoor.Vc

/- Contract of bits.Mul64. -/
namespace Go.Proofs.YtaogaegchagbfaaDoor.Vc
open Go Go.RowKit
end Go.Proofs.YtaogaegchagbfaaDoor.Vc
