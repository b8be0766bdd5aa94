/- lex.Value says what every number says, and nothing else is one Texts joined: Ob, Wa, Wb, Wc, Wd, We, Wf, Wg, Wh, Wi, Wj, Wk, Wl, Wm, Wn, Wo, Wp, Wq, Wr, Ws, Wt, Wv, Wx, Wy, Wz, Ya, Yb, Yc, Ye. -/
import Derived.Test.YtpldmajdiljoaaaK4
set_option linter.unusedVariables false
set_option linter.unusedSimpArgs false
set_option maxHeartbeats 4000000
namespace Go.Proofs.Ytpldmajdiljoaaa.Vc
open Go Go.RowKit
theorem Own_s (n : Nat) (hn : n < 1000000) (rs : Nat → List Int) (hlen : ∀ j, j < n → (rs j).length < 1099511627776) : SpecM Try.prog 40 [.o 0 0 0 n] (rowsJ n (owL0 n rs) (owR rs) []) (fun o _ => o = .ret (.b true)) := by
  refine specM_of [(0, .o 0 0 0 n)] rfl (_) rfl Try.func40 rfl (zlb rfl) fun Γ hN hds => ?_
  have hd := hdOf 112 hN
  refine jc_H (H' := rowsJ n (owL0 n rs) (owF rs 0) []) ow_start <| zsr <| zas rfl (hd 2 rfl) <| jo_nil <| jc_seq <| zsr <| zmv rfl (hd 13 rfl) <| jo_l (ly_leno sl81 rfl rfl) (hd 14 rfl) <| zmv rfl (hd 15 rfl) <| jo_nil <| jc_block ?_
  refine jc_loopF (G := Nat) (fun i => i ≤ n) (fun i => [(15, .i .i64 (i : Int)), (3, .u), (4, .u), (5, .u), (16, .u), (17, .u), (18, .u), (19, .u), (20, .u), (21, .u), (22, .u), (23, .u), (24, .u), (25, .u), (26, .u), (27, .u), (28, .u), (29, .u), (30, .u), (31, .u), (32, .u), (33, .u)]) (fun i => rowsJ n (owL0 n rs) (owF rs i) []) (fun i => n - i) 0 ?_ ?_ rfl ?_
  · exact Nat.zero_le _
  · exact (.cons rfl (.u (.u (.u (.u (.u (.u (.u (.u (.u (.u (.u (.u (.u (.u (.u (.u (.u (.u (.u (.u (.u .nil))))))))))))))))))))))
  · rintro i hc1; refine zsr <| jo_l (ly_lt rfl rfl) (hd 16 rfl) <| jo_nil <| jc_seq ?_
    refine jc_if rfl (fun h1 => ?_) (fun h1 => ?_)
    · have hi : i < n := by omega
      have hl := hlen i hi
      refine jc_skip <| jc_seq <| jc_block <| zsr <| zmv rfl (hd 17 rfl) <| jo_l (ly_ia (i := i) sl81 rfl rfl rfl (by first | rfl | omega) (by first | omega | (dsimp only; omega)) rfl) (hd 18 rfl) <| jo_l (ly_ld one25 rfl rfl (rc_at hi rfl)) (hd 19 rfl) <| zas rfl (hd 3 rfl) <| zas rfl (hd 4 rfl) <| jo_nil <| jc_seq <| jc_H (H' := rowsJ n (owL0 n rs) (upd (owF rs i) i (owK rs i 0)) []) ow_in ?_; refine jc_region <| zmv rfl (hd 20 rfl) <| jo_l (ly_leno sl25 rfl (rj_upd hi)) (hd 21 rfl) <| zmv rfl (hd 22 rfl) <| jo_nil <| jc_block ?_
      refine jc_loopF (G := Nat) (fun k => k ≤ (rs i).length) (fun k => [(22, .i .i64 (k : Int)), (5, .u), (23, .u), (24, .u), (25, .u), (26, .u), (27, .u), (28, .u), (29, .u), (30, .u), (31, .u), (32, .u)]) (fun k => rowsJ n (owL0 n rs) (upd (owF rs i) i (owK rs i k)) []) (fun k => (rs i).length - k) 0 ?_ ?_ rfl ?_
      · exact Nat.zero_le _
      · exact (.cons rfl (.u (.u (.u (.u (.u (.u (.u (.u (.u (.u (.u .nil))))))))))))
      · rintro k hc2; refine zsr <| jo_l (ly_lt rfl rfl) (hd 23 rfl) <| jo_nil <| jc_seq ?_
        refine jc_if rfl (fun h2 => ?_) (fun h2 => ?_)
        · have hk : k < (rs i).length := by omega
          have hkl : k < (List.replicate k (owC i) ++ (rs i).drop k).length := by simp; omega
          refine jc_skip <| jc_seq <| jc_block <| zsr <| zmv rfl (hd 24 rfl) <| zas rfl (hd 5 rfl) <| jo_nil <| jc_region <| zmv rfl (hd 25 rfl) <| zmv rfl (hd 26 rfl) <| zmv rfl (hd 27 rfl) <| jo_l (ly_rem rfl rfl (by decide) rfl) (hd 28 rfl) ?_; refine jo_l (ly_add rfl rfl (r := owC i) (by rw [show ((i : Int).tmod 251) = ((i % 251 : Nat) : Int) from rfl, wrap_i64 (by omega) (by omega)]; unfold owC; omega)) (hd 29 rfl) <| jo_l (ly_conv und3 und82 rfl (r := owC i) (by unfold owC; rw [wrap_u64 (by omega) (by omega)])) (hd 30 rfl) <| jo_l (ly_ia (i := k) sl25 rfl (rj_upd hi) rfl rfl (by omega) rfl) (hd 31 rfl) <| jo_st (sy_storei rfl rfl (rj_upd hi) one82 (by omega)) <| jo_nil <| jc_region <| jo_l (ly_add rfl rfl (wrap_i64 (by first | omega | (dsimp only; omega)) (by first | omega | (dsimp only; omega)))) (hd 32 rfl) <| zmv rfl (hd 22 rfl) <| jo_nil ?_
          refine ⟨k + 1, ?_, ?_, (ow_step hi (by omega)), cov_n 24 rfl rfl ?_⟩
          · omega
          · omega
          · exact (.cons rfl (.u (.u (.u (.u (.u (.u (.u (.u (.u (.u (.u .nil))))))))))))
        · refine jc_exit <| jc_region <| jo_l (ly_add rfl rfl (wrap_i64 (by first | omega | (dsimp only; omega)) (by first | omega | (dsimp only; omega)))) (hd 33 rfl) <| zmv rfl (hd 15 rfl) <| jo_nil ?_
          refine ⟨i + 1, ?_, ?_, (ow_out (by omega) (by omega)), cov_n 46 rfl rfl ?_⟩
          · omega
          · omega
          · exact (.cons rfl (.u (.u (.u (.u (.u (.u (.u (.u (.u (.u (.u (.u (.u (.u (.u (.u (.u (.u (.u (.u (.u .nil))))))))))))))))))))))
    · refine jc_exit <| jc_seq <| jc_seq <| jc_H (H' := rowsJ n (owL n rs 0) (owG rs 0) []) (ow_two (by omega)) <| jc_region <| zmv rfl (hd 34 rfl) <| jo_l (ly_leno sl81 rfl rfl) (hd 35 rfl) <| zmv rfl (hd 36 rfl) <| jo_nil <| jc_block ?_
      refine jc_loopF (G := Nat × List Ob) (fun g => g.1 ≤ n) (fun g => [(36, .i .i64 (g.1 : Int)), (6, .u), (7, .u), (8, .u), (37, .u), (38, .u), (39, .u), (40, .u), (41, .u), (42, .u), (43, .u), (44, .u), (45, .u), (46, .u), (47, .u), (48, .u), (49, .u), (50, .u), (51, .u), (52, .u), (53, .u), (54, .u), (55, .u), (56, .u), (57, .u), (58, .u), (59, .u), (60, .u), (61, .u)]) (fun g => rowsJ n (owL n rs g.1) (owG rs g.1) g.2) (fun g => n - g.1) (0, []) ?_ ?_ rfl ?_
      · exact Nat.zero_le _
      · exact (.cons rfl (.u (.u (.u (.u (.u (.u (.u (.u (.u (.u (.u (.u (.u (.u (.u (.u (.u (.u (.u (.u (.u (.u (.u (.u (.u (.u (.u (.u .nil)))))))))))))))))))))))))))))
      · rintro ⟨i, J⟩ hc1
        dsimp only at hc1 ⊢
        refine zsr <| jo_l (ly_lt rfl rfl) (hd 37 rfl) <| jo_nil <| jc_seq ?_
        refine jc_if rfl (fun h3 => ?_) (fun h3 => ?_)
        · have hi : i < n := by omega
          have hl := hlen i hi
          refine jc_skip <| jc_seq <| jc_block <| zsr <| zmv rfl (hd 38 rfl) <| jo_l (ly_ia (i := i) sl81 rfl rfl rfl (by first | rfl | omega) (by first | omega | (dsimp only; omega)) rfl) (hd 39 rfl) <| jo_l (ly_ld one25 rfl rfl (ow_load2 hi)) (hd 40 rfl) <| zas rfl (hd 6 rfl) <| zas rfl (hd 7 rfl) <| jo_nil <| jc_seq <| jc_region ?_; refine zmv rfl (hd 41 rfl) <| jo_l (ly_mul rfl rfl (r := ((5 * i : Nat) : Int)) (by rw [wrap_i64 (by omega) (by omega)]; omega)) (hd 42 rfl) <| jo_l (ly_add rfl rfl (r := ((300 + 5 * i : Nat) : Int)) (by rw [wrap_i64 (by omega) (by omega)]; omega)) (hd 43 rfl) <| jo_l (ly_conv und3 und82 rfl (r := ((300 + 5 * i : Nat) : Int)) (by rw [wrap_u64 (by omega) (by omega)]; try omega)) (hd 44 rfl) <| zas rfl (hd 8 rfl) <| jo_nil <| zsr <| zmv rfl (hd 45 rfl) <| zmv rfl (hd 46 rfl) <| zmv rfl (hd 47 rfl) <| jo_l (ly_add rfl rfl (r := ((300 + 5 * i + 1 : Nat) : Int)) (by rw [wrap_u64 (by omega) (by omega)]; try omega)) (hd 48 rfl) <| zmv rfl (hd 49 rfl) ?_; refine jo_l (ly_add rfl rfl (r := ((300 + 5 * i + 2 : Nat) : Int)) (by rw [wrap_u64 (by omega) (by omega)]; try omega)) (hd 50 rfl) <| zmv rfl (hd 51 rfl) <| jo_l (ly_add rfl rfl (r := ((300 + 5 * i + 3 : Nat) : Int)) (by rw [wrap_u64 (by omega) (by omega)]; try omega)) (hd 52 rfl) <| zmv rfl (hd 53 rfl) <| jo_l (ly_add rfl rfl (r := ((300 + 5 * i + 4 : Nat) : Int)) (by rw [wrap_u64 (by omega) (by omega)]; try omega)) (hd 54 rfl) <| jo_h (hy_lit (id := n + 1 + J.length) (xs := [.tmp 46, .tmp 48, .tmp 50, .tmp 52, .tmp 54]) el25 rfl (ovL_cons rfl (ovL_cons rfl (ovL_cons rfl (ovL_cons rfl (ovL_cons rfl ovL_nil))))) rfl (all2_of rfl) (by decide) rj_len) (hd 55 rfl) <| jo_H (H' := rowsJ n (owL n rs i) (owG rs i) (J ++ [⟨67, 1, 0, true, ints .u64 (owB i)⟩])) rj_app <| jo_app el25 rfl (ow_row2 hi) (by simp [ints]) rfl (src_o rj_last rfl rfl) (by omega) (by unfold maxLen; omega) (hd 56 rfl) <| jo_H (ow_grow hi) <| zas rfl (hd 7 rfl) <| jo_nil <| jc_region <| zmv rfl (hd 57 rfl) ?_; refine zmv rfl (hd 58 rfl) <| zmv rfl (hd 59 rfl) <| jo_l (ly_ia (i := i) sl81 rfl rfl rfl (by first | rfl | omega) (by first | omega | (dsimp only; omega)) rfl) (hd 60 rfl) <| jo_st (sy_store rfl rfl rfl siz25 rfl (by simp [cellsV, oneO, rj_upd hi, owE]) (by simp [owL]; omega)) <| jo_nil <| jc_region <| jo_l (ly_add rfl rfl (wrap_i64 (by first | omega | (dsimp only; omega)) (by first | omega | (dsimp only; omega)))) (hd 61 rfl) <| zmv rfl (hd 36 rfl) <| jo_nil ?_
          refine ⟨(i + 1, _), ?_, ?_, (ow_next hi), cov_n 59 rfl rfl ?_⟩
          · show i + 1 ≤ n; omega
          · show n - (i + 1) < n - i; omega
          · exact (.cons rfl (.u (.u (.u (.u (.u (.u (.u (.u (.u (.u (.u (.u (.u (.u (.u (.u (.u (.u (.u (.u (.u (.u (.u (.u (.u (.u (.u (.u .nil)))))))))))))))))))))))))))))
        · refine jc_exit <| jc_seq <| zsr <| zmv rfl (hd 62 rfl) <| jo_l (ly_leno sl81 rfl rfl) (hd 63 rfl) <| zmv rfl (hd 64 rfl) <| jo_nil <| jc_block ?_
          refine jc_loopF (G := Nat) (fun q => q ≤ n) (fun q => [(64, .i .i64 (q : Int)), (2, .u), (9, .u), (10, .u), (11, .u), (12, .u), (65, .u), (66, .u), (67, .u), (68, .u), (69, .u), (70, .u), (71, .u), (72, .u), (73, .u), (74, .u), (75, .u), (76, .u), (77, .u), (78, .u), (79, .u), (80, .u), (81, .u), (82, .u), (83, .u), (84, .u), (85, .u), (86, .u), (87, .u), (88, .u), (89, .u), (90, .u), (91, .u), (92, .u), (93, .u), (94, .u), (95, .u), (96, .u), (97, .u), (98, .u), (99, .u), (100, .u), (101, .u), (102, .u), (103, .u), (104, .u), (105, .u), (106, .u), (107, .u), (108, .u), (109, .u), (110, .u), (111, .u)]) (fun q => rowsJ n (owL n rs i) (owG rs i) J) (fun q => n - q) 0 ?_ ?_ rfl ?_
          · exact Nat.zero_le _
          · exact (.cons rfl (.u (.u (.u (.u (.u (.u (.u (.u (.u (.u (.u (.u (.u (.u (.u (.u (.u (.u (.u (.u (.u (.u (.u (.u (.u (.u (.u (.u (.u (.u (.u (.u (.u (.u (.u (.u (.u (.u (.u (.u (.u (.u (.u (.u (.u (.u (.u (.u (.u (.u (.u (.u .nil)))))))))))))))))))))))))))))))))))))))))))))))))))))
          · rintro q hc2; refine zsr <| jo_l (ly_lt rfl rfl) (hd 65 rfl) <| jo_nil <| jc_seq ?_
            refine jc_if rfl (fun h4 => ?_) (fun h4 => ?_)
            · have hi : q < n := by omega
              have hl := hlen q hi
              have hm : ¬ i < n := by omega
              refine jc_skip <| jc_seq <| jc_block <| zsr <| zmv rfl (hd 66 rfl) <| jo_l (ly_ia (i := q) sl81 rfl rfl rfl (by first | rfl | omega) (by first | omega | (dsimp only; omega)) rfl) (hd 67 rfl) <| jo_l (ly_ld one25 rfl rfl (ow_load3 hi hm)) (hd 68 rfl) <| zas rfl (hd 9 rfl) <| zas rfl (hd 10 rfl) <| jo_nil <| jc_seq <| jc_region ?_; refine zmv rfl (hd 69 rfl) <| jo_l (ly_leno sl25 rfl (ow_row3 hi hm)) (hd 70 rfl) <| zmv rfl (hd 71 rfl) <| jo_nil <| jc_block ?_
              refine jc_loopF (G := Nat) (fun k => k ≤ (rs q).length + 5) (fun k => [(71, .i .i64 (k : Int)), (2, .u), (11, .u), (12, .u), (72, .u), (73, .u), (74, .u), (75, .u), (76, .u), (77, .u), (78, .u), (79, .u), (80, .u), (81, .u), (82, .u), (83, .u), (84, .u), (85, .u), (86, .u), (87, .u), (88, .u), (89, .u), (90, .u), (91, .u), (92, .u), (93, .u), (94, .u), (95, .u), (96, .u), (97, .u), (98, .u), (99, .u), (100, .u), (101, .u), (102, .u), (103, .u), (104, .u), (105, .u), (106, .u), (107, .u), (108, .u), (109, .u), (110, .u)]) (fun k => rowsJ n (owL n rs i) (owG rs i) J) (fun k => (rs q).length + 5 - k) 0 ?_ ?_ rfl ?_
              · exact Nat.zero_le _
              · exact (.cons rfl (.u (.u (.u (.u (.u (.u (.u (.u (.u (.u (.u (.u (.u (.u (.u (.u (.u (.u (.u (.u (.u (.u (.u (.u (.u (.u (.u (.u (.u (.u (.u (.u (.u (.u (.u (.u (.u (.u (.u (.u (.u (.u .nil)))))))))))))))))))))))))))))))))))))))))))
              · rintro k hc3; refine zsr <| jo_l (ly_lt rfl rfl) (hd 72 rfl) <| jo_nil <| jc_seq ?_
                refine jc_if rfl (fun h5 => ?_) (fun h5 => ?_)
                · have hk : k < (rs q).length + 5 := by omega
                  have hkl := ow_len (rs := rs) (i := q)
                  refine jc_skip <| jc_seq <| jc_block <| zsr <| zmv rfl (hd 73 rfl) <| jo_l (ly_ia (i := k) sl25 rfl (ow_row3 hi hm) rfl rfl (by omega) rfl) (hd 74 rfl) <| jo_l (ly_is (ly_ldi one82 rfl (ow_row3 hi hm) (by omega)) (congrArg (V.i .u64) (ow_val hk))) (hd 75 rfl) <| zas rfl (hd 11 rfl) <| zas rfl (hd 12 rfl) <| jo_nil <| jc_seq <| jc_region ?_; refine zmv rfl (hd 76 rfl) <| zmv rfl (hd 77 rfl) <| jo_l (ly_leno sl25 rfl (ow_row3 hi hm)) (hd 78 rfl) <| jo_l (ly_sub rfl rfl (r := (((rs q).length : Nat) : Int)) (by rw [wrap_i64 (by omega) (by omega)]; omega)) (hd 79 rfl) <| jo_l (ly_lt rfl rfl) (hd 80 rfl) <| zmv rfl (hd 81 rfl) ?_
                  refine jo_ifp 81 rfl (fun h6 => ?_) (fun h6 => ?_)
                  · refine jo_g 81 rfl rfl (ly_mv rfl) (hd 82 rfl) <| jo_g 81 rfl rfl (ly_mv rfl) (hd 83 rfl) <| jo_g 81 rfl rfl (ly_rem rfl rfl (by decide) rfl) (hd 84 rfl) <| jo_g 81 rfl rfl (ly_add rfl rfl (r := owC q) (by rw [show ((q : Int).tmod 251) = ((q % 251 : Nat) : Int) from rfl, wrap_i64 (by omega) (by omega)]; unfold owC; omega)) (hd 85 rfl) <| jo_g 81 rfl rfl (ly_conv und3 und82 rfl (r := owC q) (by unfold owC; rw [wrap_u64 (by omega) (by omega)])) (hd 86 rfl) <| jo_g 81 rfl rfl (ly_ff (ly_ne rfl rfl) (fun h => h (if_pos (by omega)))) (hd 87 rfl) <| jo_l (ly_pick_t rfl rfl) (hd 88 rfl) <| zmv rfl (hd 89 rfl) <| jo_g 89 rfl rfl (ly_mv rfl) (hd 90 rfl) <| jo_g 89 rfl rfl (ly_mv rfl) (hd 91 rfl) <| jo_g 89 rfl rfl (ly_leno sl25 rfl (ow_row3 hi hm)) (hd 92 rfl) <| jo_g 89 rfl rfl (ly_sub rfl rfl (r := (((rs q).length : Nat) : Int)) (by rw [wrap_i64 (by omega) (by omega)]; omega)) (hd 93 rfl) <| jo_g 89 rfl rfl (ly_ge rfl rfl) (hd 94 rfl) ?_; refine jo_g 89 rfl rfl (ly_mv rfl) (hd 95 rfl) ?_
                    refine jo_ifp 95 rfl (fun h7 => ?_) (fun h7 => ?_)
                    · refine jo_g 95 rfl rfl (ly_mv rfl) (hd 96 rfl) <| jo_g 95 rfl rfl (ly_mv rfl) (hd 97 rfl) <| jo_g 95 rfl rfl (ly_mul rfl rfl (r := ((5 * q : Nat) : Int)) (by rw [wrap_i64 (by omega) (by omega)]; omega)) (hd 98 rfl) <| jo_g 95 rfl rfl (ly_add rfl rfl (r := ((300 + 5 * q : Nat) : Int)) (by rw [wrap_i64 (by omega) (by omega)]; omega)) (hd 99 rfl) <| jo_g 95 rfl rfl (ly_mv rfl) (hd 100 rfl) <| jo_g 95 rfl rfl (ly_add rfl rfl (r := ((300 + 5 * q + k : Nat) : Int)) (by rw [wrap_i64 (by omega) (by omega)]; omega)) (hd 101 rfl) <| jo_g 95 rfl rfl (ly_mv rfl) (hd 102 rfl) <| jo_g 95 rfl rfl (ly_leno sl25 rfl (ow_row3 hi hm)) (hd 103 rfl) <| jo_g 95 rfl rfl (ly_sub rfl rfl (r := ((300 + 5 * q + k - ((rs q).length + 5) : Nat) : Int)) (by rw [wrap_i64 (by omega) (by omega)]; omega)) (hd 104 rfl) <| jo_g 95 rfl rfl (ly_add rfl rfl (r := ((300 + 5 * q + (k - (rs q).length) : Nat) : Int)) (by rw [wrap_i64 (by omega) (by omega)]; omega)) (hd 105 rfl) <| jo_g 95 rfl rfl (ly_conv und3 und82 rfl (r := ((300 + 5 * q + (k - (rs q).length) : Nat) : Int)) (by rw [wrap_u64 (by omega) (by omega)]; try omega)) (hd 106 rfl) <| jo_g 95 rfl rfl (ly_ff (ly_ne rfl rfl) (fun h => h (if_neg (by omega)))) (hd 107 rfl) <| jo_g 89 rfl rfl (ly_pick_t rfl rfl) (hd 108 rfl) ?_; refine jo_l (ly_pick_f rfl rfl) (hd 109 rfl) <| jo_nil <| jc_litf rfl <| jc_skip <| jc_region <| jo_l (ly_add rfl rfl (wrap_i64 (by first | omega | (dsimp only; omega)) (by first | omega | (dsimp only; omega)))) (hd 110 rfl) <| zmv rfl (hd 71 rfl) <| jo_nil ?_
                      refine ⟨k + 1, ?_, ?_, rfl, cov_n 87 rfl rfl ?_⟩
                      · omega
                      · omega
                      · exact (.cons rfl (.u (.u (.u (.u (.u (.u (.u (.u (.u (.u (.u (.u (.u (.u (.u (.u (.u (.u (.u (.u (.u (.u (.u (.u (.u (.u (.u (.u (.u (.u (.u (.u (.u (.u (.u (.u (.u (.u (.u (.u (.u (.u .nil)))))))))))))))))))))))))))))))))))))))))))
                    · refine jo_s 95 rfl rfl rfl (hd 96 rfl) <| jo_s 95 rfl rfl rfl (hd 97 rfl) <| jo_s 95 rfl rfl rfl (hd 98 rfl) <| jo_s 95 rfl rfl rfl (hd 99 rfl) <| jo_s 95 rfl rfl rfl (hd 100 rfl) <| jo_s 95 rfl rfl rfl (hd 101 rfl) <| jo_s 95 rfl rfl rfl (hd 102 rfl) <| jo_s 95 rfl rfl rfl (hd 103 rfl) <| jo_s 95 rfl rfl rfl (hd 104 rfl) <| jo_s 95 rfl rfl rfl (hd 105 rfl) <| jo_s 95 rfl rfl rfl (hd 106 rfl) <| jo_s 95 rfl rfl rfl (hd 107 rfl) <| jo_g 89 rfl rfl (ly_pick_f rfl rfl) (hd 108 rfl) ?_; refine jo_l (ly_pick_f rfl rfl) (hd 109 rfl) <| jo_nil <| jc_litf rfl <| jc_skip <| jc_region <| jo_l (ly_add rfl rfl (wrap_i64 (by first | omega | (dsimp only; omega)) (by first | omega | (dsimp only; omega)))) (hd 110 rfl) <| zmv rfl (hd 71 rfl) <| jo_nil ?_
                      refine ⟨k + 1, ?_, ?_, rfl, cov_n 87 rfl rfl ?_⟩
                      · omega
                      · omega
                      · exact (.cons rfl (.u (.u (.u (.u (.u (.u (.u (.u (.u (.u (.u (.u (.u (.u (.u (.u (.u (.u (.u (.u (.u (.u (.u (.u (.u (.u (.u (.u (.u (.u (.u (.u (.u (.u (.u (.u (.u (.u (.u (.u (.u (.u .nil)))))))))))))))))))))))))))))))))))))))))))
                  · refine jo_s 81 rfl rfl rfl (hd 82 rfl) <| jo_s 81 rfl rfl rfl (hd 83 rfl) <| jo_s 81 rfl rfl rfl (hd 84 rfl) <| jo_s 81 rfl rfl rfl (hd 85 rfl) <| jo_s 81 rfl rfl rfl (hd 86 rfl) <| jo_s 81 rfl rfl rfl (hd 87 rfl) <| jo_l (ly_pick_f rfl rfl) (hd 88 rfl) <| zmv rfl (hd 89 rfl) <| jo_g 89 rfl rfl (ly_mv rfl) (hd 90 rfl) <| jo_g 89 rfl rfl (ly_mv rfl) (hd 91 rfl) <| jo_g 89 rfl rfl (ly_leno sl25 rfl (ow_row3 hi hm)) (hd 92 rfl) <| jo_g 89 rfl rfl (ly_sub rfl rfl (r := (((rs q).length : Nat) : Int)) (by rw [wrap_i64 (by omega) (by omega)]; omega)) (hd 93 rfl) <| jo_g 89 rfl rfl (ly_ge rfl rfl) (hd 94 rfl) ?_; refine jo_g 89 rfl rfl (ly_mv rfl) (hd 95 rfl) ?_
                    refine jo_ifp 95 rfl (fun h10 => ?_) (fun h10 => ?_)
                    · refine jo_g 95 rfl rfl (ly_mv rfl) (hd 96 rfl) <| jo_g 95 rfl rfl (ly_mv rfl) (hd 97 rfl) <| jo_g 95 rfl rfl (ly_mul rfl rfl (r := ((5 * q : Nat) : Int)) (by rw [wrap_i64 (by omega) (by omega)]; omega)) (hd 98 rfl) <| jo_g 95 rfl rfl (ly_add rfl rfl (r := ((300 + 5 * q : Nat) : Int)) (by rw [wrap_i64 (by omega) (by omega)]; omega)) (hd 99 rfl) <| jo_g 95 rfl rfl (ly_mv rfl) (hd 100 rfl) <| jo_g 95 rfl rfl (ly_add rfl rfl (r := ((300 + 5 * q + k : Nat) : Int)) (by rw [wrap_i64 (by omega) (by omega)]; omega)) (hd 101 rfl) <| jo_g 95 rfl rfl (ly_mv rfl) (hd 102 rfl) <| jo_g 95 rfl rfl (ly_leno sl25 rfl (ow_row3 hi hm)) (hd 103 rfl) <| jo_g 95 rfl rfl (ly_sub rfl rfl (r := ((300 + 5 * q + k - ((rs q).length + 5) : Nat) : Int)) (by rw [wrap_i64 (by omega) (by omega)]; omega)) (hd 104 rfl) <| jo_g 95 rfl rfl (ly_add rfl rfl (r := ((300 + 5 * q + (k - (rs q).length) : Nat) : Int)) (by rw [wrap_i64 (by omega) (by omega)]; omega)) (hd 105 rfl) <| jo_g 95 rfl rfl (ly_conv und3 und82 rfl (r := ((300 + 5 * q + (k - (rs q).length) : Nat) : Int)) (by rw [wrap_u64 (by omega) (by omega)]; try omega)) (hd 106 rfl) <| jo_g 95 rfl rfl (ly_ff (ly_ne rfl rfl) (fun h => h (if_neg (by omega)))) (hd 107 rfl) <| jo_g 89 rfl rfl (ly_pick_t rfl rfl) (hd 108 rfl) ?_; refine jo_l (ly_pick_f rfl rfl) (hd 109 rfl) <| jo_nil <| jc_litf rfl <| jc_skip <| jc_region <| jo_l (ly_add rfl rfl (wrap_i64 (by first | omega | (dsimp only; omega)) (by first | omega | (dsimp only; omega)))) (hd 110 rfl) <| zmv rfl (hd 71 rfl) <| jo_nil ?_
                      refine ⟨k + 1, ?_, ?_, rfl, cov_n 87 rfl rfl ?_⟩
                      · omega
                      · omega
                      · exact (.cons rfl (.u (.u (.u (.u (.u (.u (.u (.u (.u (.u (.u (.u (.u (.u (.u (.u (.u (.u (.u (.u (.u (.u (.u (.u (.u (.u (.u (.u (.u (.u (.u (.u (.u (.u (.u (.u (.u (.u (.u (.u (.u (.u .nil)))))))))))))))))))))))))))))))))))))))))))
                    · refine jo_s 95 rfl rfl rfl (hd 96 rfl) <| jo_s 95 rfl rfl rfl (hd 97 rfl) <| jo_s 95 rfl rfl rfl (hd 98 rfl) <| jo_s 95 rfl rfl rfl (hd 99 rfl) <| jo_s 95 rfl rfl rfl (hd 100 rfl) <| jo_s 95 rfl rfl rfl (hd 101 rfl) <| jo_s 95 rfl rfl rfl (hd 102 rfl) <| jo_s 95 rfl rfl rfl (hd 103 rfl) <| jo_s 95 rfl rfl rfl (hd 104 rfl) <| jo_s 95 rfl rfl rfl (hd 105 rfl) <| jo_s 95 rfl rfl rfl (hd 106 rfl) <| jo_s 95 rfl rfl rfl (hd 107 rfl) <| jo_g 89 rfl rfl (ly_pick_f rfl rfl) (hd 108 rfl) ?_; refine jo_l (ly_pick_f rfl rfl) (hd 109 rfl) <| jo_nil <| jc_litf rfl <| jc_skip <| jc_region <| jo_l (ly_add rfl rfl (wrap_i64 (by first | omega | (dsimp only; omega)) (by first | omega | (dsimp only; omega)))) (hd 110 rfl) <| zmv rfl (hd 71 rfl) <| jo_nil ?_
                      refine ⟨k + 1, ?_, ?_, rfl, cov_n 87 rfl rfl ?_⟩
                      · omega
                      · omega
                      · exact (.cons rfl (.u (.u (.u (.u (.u (.u (.u (.u (.u (.u (.u (.u (.u (.u (.u (.u (.u (.u (.u (.u (.u (.u (.u (.u (.u (.u (.u (.u (.u (.u (.u (.u (.u (.u (.u (.u (.u (.u (.u (.u (.u (.u .nil)))))))))))))))))))))))))))))))))))))))))))
                · refine jc_exit <| jc_region <| jo_l (ly_add rfl rfl (wrap_i64 (by first | omega | (dsimp only; omega)) (by first | omega | (dsimp only; omega)))) (hd 111 rfl) <| zmv rfl (hd 64 rfl) <| jo_nil ?_
                  refine ⟨q + 1, ?_, ?_, rfl, cov_n 108 (by kernel_rfl) (by kernel_rfl) ?_⟩
                  · omega
                  · omega
                  · exact (.cons rfl (.u (.u (.u (.u (.u (.u (.u (.u (.u (.u (.u (.u (.u (.u (.u (.u (.u (.u (.u (.u (.u (.u (.u (.u (.u (.u (.u (.u (.u (.u (.u (.u (.u (.u (.u (.u (.u (.u (.u (.u (.u (.u (.u (.u (.u (.u (.u (.u (.u (.u (.u (.u .nil)))))))))))))))))))))))))))))))))))))))))))))))))))))
            · refine jc_exit <| zsr <| zas rfl (hd 2 rfl) <| jo_nil <| jc_ret ?_
              refine ⟨_, (.cons rfl .nil), rfl, (ow_end (m := i)), ?_⟩
              exact rfl

theorem trim_s (l : List Int) (hl : l.length < 1099511627776) : Spec Try.prog 105 [.n false .u64 l] (fun o => o = .ret (.n false .u64 (trm l))) := by
  refine spec_of' [(0, .n false .u64 l)] rfl Try.func105 rfl (zlb rfl) fun Γ hN hds hL hR => ?_
  have hd := hdOf 21 hN
  refine zsr <| zas rfl (hd 2 rfl) <| jo_nil <| jc_seq <| jc_block ?_
  refine jc_loopF (G := Nat) (fun k => k ≤ l.length ∧ tN l k = tN l l.length) (fun k => [(0, .n false .u64 (l.take k)), (3, .u), (4, .u), (5, .u), (6, .u), (7, .u), (8, .u), (9, .u), (10, .u), (11, .u), (12, .u), (13, .u), (14, .u), (15, .u), (16, .u), (17, .u), (18, .u), (19, .u)]) (fun _ => _) (fun k => k) l.length ?_ ?_ rfl ?_
  · exact ⟨Nat.le_refl _, rfl⟩
  · exact (.cons (by rw [List.take_length]; rfl) (.u (.u (.u (.u (.u (.u (.u (.u (.u (.u (.u (.u (.u (.u (.u (.u (.u .nil))))))))))))))))))
  · rintro k ⟨hc1, hc2⟩
    have hm : (l.take k).length = k := by rw [List.length_take]; omega
    refine jc_seq <| zsr <| zmv rfl (hd 3 rfl) <| jo_l (ly_lenn sl28 rfl) (hd 4 rfl) <| jo_l (ly_gt rfl rfl) (hd 5 rfl) <| zmv rfl (hd 6 rfl) ?_
    refine jo_ifp 6 rfl (fun h1 => ?_) (fun h1 => ?_)
    · refine jo_g 6 rfl rfl (ly_mv rfl) (hd 7 rfl) <| jo_g 6 rfl rfl (ly_mv rfl) (hd 8 rfl) <| jo_g 6 rfl rfl (ly_lenn sl28 rfl) (hd 9 rfl) <| jo_g 6 rfl rfl (ly_sub rfl rfl (wrap_i64 (by omega) (by omega))) (hd 10 rfl) <| jo_g 6 rfl rfl (ly_ian (i := k - 1) sl28 rfl rfl (by first | rfl | omega) (by omega)) (hd 11 rfl) <| jo_g 6 rfl rfl (ly_ldq one82 rfl rfl) (hd 12 rfl) <| jo_g 6 rfl rfl (ly_eq rfl rfl) (hd 13 rfl) <| jo_l (ly_pick_t rfl rfl) (hd 14 rfl) <| jo_nil ?_
      refine jc_if rfl (fun h2 => ?_) (fun h2 => ?_)
      · refine jc_skip <| jc_block <| jc_region <| zmv rfl (hd 15 rfl) <| zmv rfl (hd 16 rfl) <| jo_l (ly_lenn sl28 rfl) (hd 17 rfl) <| jo_l (ly_sub rfl rfl (wrap_i64 (by omega) (by omega))) (hd 18 rfl) <| jo_l (ly_sln sl28 rfl bnd_none (bnd_some' rfl (show ((l.take k).length : Int) - 1 = ((k - 1 : Nat) : Int) by omega)) (.inl rfl) (by omega) (by omega)) (hd 19 rfl) <| zas rfl (hd 0 rfl) <| jo_nil ?_
        refine ⟨k - 1, ?_, ?_, rfl, cov_n 37 rfl rfl ?_⟩
        · exact ⟨by omega, by rw [← hc2, tN_down (by omega) (by rw [← getD_take (show k - 1 < k by omega)]; assumption)]⟩
        · omega
        · exact (.cons (by show some (V.n false .u64 _) = some (V.n false .u64 _); rw [List.drop_zero, List.take_take, Nat.min_eq_left (by omega)]) (.u (.u (.u (.u (.u (.u (.u (.u (.u (.u (.u (.u (.u (.u (.u (.u (.u .nil))))))))))))))))))
      · refine jc_exit <| zsr <| zmv rfl (hd 20 rfl) <| zas rfl (hd 2 rfl) <| jo_nil <| jc_ret ?_
        refine ⟨_, _, (.cons rfl .nil), .n, ?_⟩
        unfold trm
        rw [← hc2, tN_stop (by omega) (by rw [← getD_take (show k - 1 < k by omega)]; assumption)]
    · refine jo_s 6 rfl rfl rfl (hd 7 rfl) <| jo_s 6 rfl rfl rfl (hd 8 rfl) <| jo_s 6 rfl rfl rfl (hd 9 rfl) <| jo_s 6 rfl rfl rfl (hd 10 rfl) <| jo_s 6 rfl rfl rfl (hd 11 rfl) <| jo_s 6 rfl rfl rfl (hd 12 rfl) <| jo_s 6 rfl rfl rfl (hd 13 rfl) <| jo_l (ly_pick_f rfl rfl) (hd 14 rfl) <| jo_nil <| jc_litf rfl <| jc_exit <| jc_seq <| jc_region ?_; refine zmv rfl (hd 20 rfl) <| zas rfl (hd 2 rfl) <| jo_nil <| jc_ret ?_
      refine ⟨_, _, (.cons rfl .nil), .n, ?_⟩
      unfold trm
      rw [← hc2, tN_0 (by omega)]

theorem Norm_s (l : List Int) (hl : l.length < 1099511627776) : Spec Try.prog 71 [.n false .u64 l] (fun o => o = .ret (.n true .u64 (trm l))) := by
  refine spec_of' [(0, .n false .u64 l)] rfl Try.func71 rfl (zlb rfl) fun Γ hN hds hL hR => ?_
  have hd := hdOf 6 hN
  have hm := trm_len l
  refine zsr <| zas rfl (hd 2 rfl) <| jo_nil <| zsr <| zmv rfl (hd 3 rfl) ?_
  refine jo_call Try.f105 (trim_s l hl) rfl Try.func105 rfl rfl (ovL_cons rfl ovL_nil) (.cons .n .nil) (hd 4 rfl) ?_ (fun ch hp => by simp at hp)
  rintro _ ⟨⟩; refine jo_h (hy_app0 (id := 0) el28 rfl rfl src_n (by omega) (by unfold maxLen; omega) rfl) (hd 5 rfl) <| zas rfl (hd 2 rfl) <| jo_nil <| jc_ret ?_
  refine ⟨_, _, (.cons rfl .nil), (.o rfl (by simp) rfl), ?_⟩
  rw [List.drop_zero, List.take_length]

set_option maxRecDepth 100000 in
theorem Len64_s (x : Nat) (hx : x < 18446744073709551616) : Spec Try.prog 106 [.i .u64 (x : Int)] (fun o => o = .ret (.i .i64 (bl 64 x : Int))) := by
  refine spec_of' [(0, .i .u64 (x : Int))] rfl Try.func106 rfl (zlb rfl) fun Γ hN hds hL hR => ?_
  have hd := hdOf 25 hN
  refine zsr <| zas rfl (hd 2 rfl) <| jo_nil ?_
  refine jc_meetH (G := Nat × Nat) (fun g => bl 64 x = g.2 + bl 64 g.1 ∧ g.1 < 4294967296 ∧ g.2 ≤ 32) (fun g => [(0, .i .u64 (g.1 : Int)), (2, .i .i64 (g.2 : Int)), (3, .u), (4, .u), (5, .u), (6, .u)]) ?_ ?_
  · refine zsr <| zmv rfl (hd 3 rfl) <| jo_l (ly_ge rfl rfl) (hd 4 rfl) <| jo_nil ?_
    refine jc_if rfl (fun h1 => ?_) (fun h1 => ?_)
    · refine zsr <| zmv rfl (hd 5 rfl) <| jo_l (ly_is (ly_shr rfl rfl (by first | omega | (dsimp only; omega)) rfl) (show V.i .u64 _ = V.i .u64 ((x / 4294967296 : Nat) : Int) from congrArg (V.i .u64) (shr_nat (by decide)))) (hd 6 rfl) <| zas rfl (hd 0 rfl) <| jo_nil <| jc_region <| zas rfl (hd 2 rfl) <| jo_nil ?_
      refine ⟨(x / 4294967296, 32), ?_, rfl, cov_n 6 rfl rfl ?_⟩
      · exact ⟨by have h9 := bl64_shift (k := 32) (by decide) (show 2 ^ 32 ≤ x by omega) (by omega); rw [show 2 ^ 32 = 4294967296 by decide] at h9; dsimp only; omega, by dsimp only; omega, by dsimp only; omega⟩
      · exact (.cons rfl (.cons (by show some (V.i .i64 _) = some (V.i .i64 _); rfl) (.u (.u (.u (.u .nil))))))
    · refine jc_skip ?_
      refine ⟨(x, 0), ?_, rfl, cov_n 2 rfl rfl ?_⟩
      · exact ⟨by dsimp only; omega, by dsimp only; omega, by dsimp only; omega⟩
      · exact (.cons rfl (.cons (by show some (V.i .i64 _) = some (V.i .i64 _); rfl) (.u (.u (.u (.u .nil))))))
  · rintro ⟨x1, n1⟩ ⟨he1, hx1, hn1⟩
    dsimp only at he1 hx1 hn1
    refine jc_meetH (G := Nat × Nat) (fun g => bl 64 x = g.2 + bl 64 g.1 ∧ g.1 < 65536 ∧ g.2 ≤ 48) (fun g => [(0, .i .u64 (g.1 : Int)), (2, .i .i64 (g.2 : Int)), (7, .u), (8, .u), (9, .u), (10, .u), (11, .u), (12, .u)]) ?_ ?_
    · refine zsr <| zmv rfl (hd 7 rfl) <| jo_l (ly_ge rfl rfl) (hd 8 rfl) <| jo_nil ?_
      refine jc_if rfl (fun h2 => ?_) (fun h2 => ?_)
      · refine zsr <| zmv rfl (hd 9 rfl) <| jo_l (ly_is (ly_shr rfl rfl (by first | omega | (dsimp only; omega)) rfl) (show V.i .u64 _ = V.i .u64 ((x1 / 65536 : Nat) : Int) from congrArg (V.i .u64) (shr_nat (by decide)))) (hd 10 rfl) <| zas rfl (hd 0 rfl) <| jo_nil <| jc_region <| zmv rfl (hd 11 rfl) <| jo_l (ly_add rfl rfl (r := ((n1 + 16 : Nat) : Int)) (by rw [wrap_i64 (by omega) (by omega)]; omega)) (hd 12 rfl) <| zas rfl (hd 2 rfl) <| jo_nil ?_
        refine ⟨(x1 / 65536, n1 + 16), ?_, rfl, cov_n 8 rfl rfl ?_⟩
        · exact ⟨by have h9 := bl64_shift (k := 16) (by decide) (show 2 ^ 16 ≤ x1 by omega) (by omega); rw [show 2 ^ 16 = 65536 by decide] at h9; dsimp only; omega, by dsimp only; omega, by dsimp only; omega⟩
        · exact (.cons rfl (.cons (by show some (V.i .i64 _) = some (V.i .i64 _); rfl) (.u (.u (.u (.u (.u (.u .nil))))))))
      · refine jc_skip ?_
        refine ⟨(x1, n1), ?_, rfl, cov_n 2 rfl rfl ?_⟩
        · exact ⟨by dsimp only; omega, by dsimp only; omega, by dsimp only; omega⟩
        · exact (.cons rfl (.cons (by show some (V.i .i64 _) = some (V.i .i64 _); rfl) (.u (.u (.u (.u (.u (.u .nil))))))))
    · rintro ⟨x2, n2⟩ ⟨he2, hx2, hn2⟩
      dsimp only at he2 hx2 hn2
      refine jc_meetH (G := Nat × Nat) (fun g => bl 64 x = g.2 + bl 64 g.1 ∧ g.1 < 256 ∧ g.2 ≤ 56) (fun g => [(0, .i .u64 (g.1 : Int)), (2, .i .i64 (g.2 : Int)), (13, .u), (14, .u), (15, .u), (16, .u), (17, .u), (18, .u)]) ?_ ?_
      · refine zsr <| zmv rfl (hd 13 rfl) <| jo_l (ly_ge rfl rfl) (hd 14 rfl) <| jo_nil ?_
        refine jc_if rfl (fun h3 => ?_) (fun h3 => ?_)
        · refine zsr <| zmv rfl (hd 15 rfl) <| jo_l (ly_is (ly_shr rfl rfl (by first | omega | (dsimp only; omega)) rfl) (show V.i .u64 _ = V.i .u64 ((x2 / 256 : Nat) : Int) from congrArg (V.i .u64) (shr_nat (by decide)))) (hd 16 rfl) <| zas rfl (hd 0 rfl) <| jo_nil <| jc_region <| zmv rfl (hd 17 rfl) <| jo_l (ly_add rfl rfl (r := ((n2 + 8 : Nat) : Int)) (by rw [wrap_i64 (by omega) (by omega)]; omega)) (hd 18 rfl) <| zas rfl (hd 2 rfl) <| jo_nil ?_
          refine ⟨(x2 / 256, n2 + 8), ?_, rfl, cov_n 8 rfl rfl ?_⟩
          · exact ⟨by have h9 := bl64_shift (k := 8) (by decide) (show 2 ^ 8 ≤ x2 by omega) (by omega); rw [show 2 ^ 8 = 256 by decide] at h9; dsimp only; omega, by dsimp only; omega, by dsimp only; omega⟩
          · exact (.cons rfl (.cons (by show some (V.i .i64 _) = some (V.i .i64 _); rfl) (.u (.u (.u (.u (.u (.u .nil))))))))
        · refine jc_skip ?_
          refine ⟨(x2, n2), ?_, rfl, cov_n 2 rfl rfl ?_⟩
          · exact ⟨by dsimp only; omega, by dsimp only; omega, by dsimp only; omega⟩
          · exact (.cons rfl (.cons (by show some (V.i .i64 _) = some (V.i .i64 _); rfl) (.u (.u (.u (.u (.u (.u .nil))))))))
      · rintro ⟨x3, n3⟩ ⟨he3, hx3, hn3⟩
        dsimp only at he3 hx3 hn3
        refine zsr <| zmv rfl (hd 19 rfl) <| zmv rfl (hd 20 rfl) <| jo_l (ly_conv und82 und5 rfl (wrap_u8 (by first | omega | (dsimp only; omega)) (by first | omega | (dsimp only; omega)))) (hd 21 rfl) <| jo_l (ly_ixs (b := lenTab) (i := x3) und9 (by kernel_rfl) rfl rfl (show x3 < 256 by omega)) (hd 22 rfl) ?_
        have h7 := lenTab_at hx3
        have h8 := bl_le 64 x3
        refine jo_l (ly_conv und5 und3 rfl (wrap_i64 (by first | omega | (dsimp only; omega)) (by first | omega | (dsimp only; omega)))) (hd 23 rfl) <| jo_l (ly_add rfl rfl (wrap_i64 (by first | omega | (dsimp only; omega)) (by first | omega | (dsimp only; omega)))) (hd 24 rfl) <| zas rfl (hd 2 rfl) <| jo_nil <| jc_ret ?_
        refine ⟨_, _, (.cons rfl .nil), .i, ?_⟩
        have h7 := lenTab_at hx3
        rw [h7, he3]
        rfl

theorem From_s (v : Int) : Spec Try.prog 58 [.i .u64 v] (fun o => o = .ret (.n true .u64 (if v = 0 then [] else [v]))) := by
  refine spec_of' [(0, .i .u64 v)] rfl Try.func58 rfl (zlb rfl) fun Γ hN hds hL hR => ?_
  have hd := hdOf 7 hN
  refine zsr <| zas rfl (hd 2 rfl) <| jo_nil <| jc_seq <| zsr <| zmv rfl (hd 3 rfl) <| jo_l (ly_eq rfl rfl) (hd 4 rfl) <| jo_nil ?_
  refine jc_if rfl (fun h1 => ?_) (fun h1 => ?_)
  · refine zsr <| zas rfl (hd 2 rfl) <| jo_nil <| jc_ret ?_
    refine ⟨_, _, (.cons rfl .nil), (.nil (fr := true) (k := .u64)), ?_⟩
    rw [if_pos (by assumption)]
  · refine jc_skip <| zsr <| zmv rfl (hd 5 rfl) <| jo_h (hy_lit (id := 0) (xs := [.tmp 5]) el28 rfl (ovL_cons rfl ovL_nil) rfl (all2_of rfl) (by decide) rfl) (hd 6 rfl) <| zas rfl (hd 2 rfl) <| jo_nil <| jc_ret ?_
    refine ⟨_, _, (.cons rfl .nil), (.o (T := 67) (k := .u64) (l := [v]) rfl (by simp) rfl), ?_⟩
    rw [if_neg (by assumption)]
    rfl

theorem Length_s (l : List Int) (hl : l.length < 1099511627776) (hu : u64s l) : Spec Try.prog 66 [.n false .u64 l] (fun o => o = .ret (.i .i64 (lenN l : Int))) := by
  refine spec_of' [(0, .n false .u64 l)] rfl Try.func66 rfl (zlb rfl) fun Γ hN hds hL hR => ?_
  have hd := hdOf 20 hN
  have hm := trm_len l
  refine zsr <| zas rfl (hd 2 rfl) <| jo_nil <| zsr <| zmv rfl (hd 3 rfl) ?_
  refine jo_call Try.f105 (trim_s l hl) rfl Try.func105 rfl rfl (ovL_cons rfl ovL_nil) (.cons .n .nil) (hd 4 rfl) ?_ (fun ch hp => by simp at hp)
  rintro _ ⟨⟩; refine zas rfl (hd 0 rfl) <| jo_nil <| jc_seq <| zsr <| zmv rfl (hd 5 rfl) <| jo_l (ly_lenn sl28 rfl) (hd 6 rfl) <| jo_l (ly_eq rfl rfl) (hd 7 rfl) <| jo_nil ?_
  refine jc_if rfl (fun h1 => ?_) (fun h1 => ?_)
  · refine zsr <| zas rfl (hd 2 rfl) <| jo_nil <| jc_ret ?_
    refine ⟨_, _, (.cons rfl .nil), .i, ?_⟩
    unfold lenN
    rw [if_pos (by omega)]
    rfl
  · have htop := u64s_at (u64s_trm hu) (i := (trm l).length - 1) (by omega)
    have hbl := bl_le 64 ((trm l).getD ((trm l).length - 1) 0).toNat
    refine jc_skip <| zsr <| zmv rfl (hd 8 rfl) <| jo_l (ly_lenn sl28 rfl) (hd 9 rfl) <| jo_l (ly_sub rfl rfl (wrap_i64 (by omega) (by omega))) (hd 10 rfl) <| jo_l (ly_mul rfl rfl (wrap_i64 (by omega) (by omega))) (hd 11 rfl) <| zmv rfl (hd 12 rfl) <| zmv rfl (hd 13 rfl) <| jo_l (ly_lenn sl28 rfl) (hd 14 rfl) <| jo_l (ly_sub rfl rfl (wrap_i64 (by omega) (by omega))) (hd 15 rfl) <| jo_l (ly_ian (i := (trm l).length - 1) sl28 rfl rfl (by first | rfl | omega) (by omega)) (hd 16 rfl) <| jo_l (ly_is (ly_ldq one82 rfl rfl) (show V.i .u64 ((trm l).getD ((trm l).length - 1) 0) = V.i .u64 (((trm l).getD ((trm l).length - 1) 0).toNat : Int) by rw [Int.toNat_of_nonneg htop.1])) (hd 17 rfl) ?_
    refine jo_call Try.f106 (Len64_s ((trm l).getD ((trm l).length - 1) 0).toNat (by omega)) rfl Try.func106 rfl rfl (ovL_cons rfl ovL_nil) (.cons .i .nil) (hd 18 rfl) ?_ (fun ch hp => by simp at hp)
    rintro _ ⟨⟩; refine jo_l (ly_add rfl rfl (wrap_i64 (by omega) (by omega))) (hd 19 rfl) <| zas rfl (hd 2 rfl) <| jo_nil <| jc_ret ?_
    refine ⟨_, _, (.cons rfl .nil), .i, ?_⟩
    unfold lenN
    rw [if_neg (by omega)]
    show Out.ret (V.i .i64 _) = Out.ret (V.i .i64 _)
    congr 2
    omega

theorem Compare_s (a b : List Int) (ha : a.length < 4294967296) (hb : b.length < 4294967296) : Spec Try.prog 86 [.n false .u64 a, .n false .u64 b] (fun o => o = .ret (.i .i64 (cmpL (trm a) (trm b)))) := by
  refine spec_of' [(0, .n false .u64 a), (1, .n false .u64 b)] rfl Try.func86 rfl (zlb rfl) fun Γ hN hds hL hR => ?_
  have hd := hdOf 45 hN
  have hma := trm_len a
  have hmb := trm_len b
  refine zsr <| zas rfl (hd 4 rfl) <| jo_nil <| zsr <| zmv rfl (hd 6 rfl) ?_
  refine jo_call Try.f105 (trim_s a (by omega)) rfl Try.func105 rfl rfl (ovL_cons rfl ovL_nil) (.cons .n .nil) (hd 7 rfl) ?_ (fun ch hp => by simp at hp)
  rintro _ ⟨⟩; refine zmv rfl (hd 8 rfl) ?_
  refine jo_call Try.f105 (trim_s b (by omega)) rfl Try.func105 rfl rfl (ovL_cons rfl ovL_nil) (.cons .n .nil) (hd 9 rfl) ?_ (fun ch hp => by simp at hp)
  rintro _ ⟨⟩; refine zas rfl (hd 0 rfl) <| zas rfl (hd 1 rfl) <| jo_nil <| jc_seq <| zsr <| zmv rfl (hd 10 rfl) <| jo_l (ly_lenn sl28 rfl) (hd 11 rfl) <| zmv rfl (hd 12 rfl) <| jo_l (ly_lenn sl28 rfl) (hd 13 rfl) <| jo_l (ly_ne rfl rfl) (hd 14 rfl) <| jo_nil ?_
  refine jc_if rfl (fun h1 => ?_) (fun h1 => ?_)
  · refine jc_seq <| zsr <| zmv rfl (hd 15 rfl) <| jo_l (ly_lenn sl28 rfl) (hd 16 rfl) <| zmv rfl (hd 17 rfl) <| jo_l (ly_lenn sl28 rfl) (hd 18 rfl) <| jo_l (ly_lt rfl rfl) (hd 19 rfl) <| jo_nil ?_
    refine jc_if rfl (fun h2 => ?_) (fun h2 => ?_)
    · refine zsr <| zas rfl (hd 4 rfl) <| jo_nil <| jc_ret ?_
      refine ⟨_, _, (.cons rfl .nil), .i, ?_⟩
      unfold cmpL
      rw [if_pos (by omega)]
    · refine jc_skip <| zsr <| zas rfl (hd 4 rfl) <| jo_nil <| jc_ret ?_
      refine ⟨_, _, (.cons rfl .nil), .i, ?_⟩
      unfold cmpL
      rw [if_neg (by omega), if_pos (by omega)]
  · refine jc_skip <| jc_seq <| zsr <| zmv rfl (hd 20 rfl) <| jo_l (ly_lenn sl28 rfl) (hd 21 rfl) <| jo_l (ly_sub rfl rfl (wrap_i64 (by omega) (by omega))) (hd 22 rfl) <| zas rfl (hd 5 rfl) <| jo_nil <| jc_block ?_
    refine jc_loopF (G := Nat) (fun k => k ≤ (trm a).length ∧ cmpN (trm a) (trm b) k = cmpN (trm a) (trm b) (trm a).length) (fun k => [(5, .i .i64 ((k : Int) - 1)), (4, .u), (23, .u), (24, .u), (25, .u), (26, .u), (27, .u), (28, .u), (29, .u), (30, .u), (31, .u), (32, .u), (33, .u), (34, .u), (35, .u), (36, .u), (37, .u), (38, .u), (39, .u), (40, .u), (41, .u), (42, .u), (43, .u), (44, .u)]) (fun _ => _) (fun k => k) (trm a).length ?_ ?_ rfl ?_
    · exact ⟨Nat.le_refl _, rfl⟩
    · exact (.cons rfl (.u (.u (.u (.u (.u (.u (.u (.u (.u (.u (.u (.u (.u (.u (.u (.u (.u (.u (.u (.u (.u (.u (.u .nil))))))))))))))))))))))))
    · rintro k ⟨hc1, hc2⟩; refine jc_seq <| zsr <| zmv rfl (hd 23 rfl) <| jo_l (ly_ge rfl rfl) (hd 24 rfl) <| jo_nil ?_
      refine jc_if rfl (fun h3 => ?_) (fun h3 => ?_)
      · refine jc_skip <| jc_seq <| jc_block <| jc_seq <| jc_seq <| jc_draw (n := 9) _ rfl mixed <| zal2 0 [2, 3, 8] (lo_l (ly_mv rfl) (hd 27 rfl)) rfl <| zal2 1 [2, 3, 8] (lo_l (ly_mv rfl) (hd 28 rfl)) rfl <| zal2 2 [3, 8] (lo_l (ly_ian (i := k - 1) sl28 rfl rfl (by omega) (by omega)) (hd 29 rfl)) rfl <| zal 3 (lo_l (ly_ldq one82 rfl rfl) (hd 30 rfl)) rfl <| zal2 4 [6, 7, 8] (lo_l (ly_mv rfl) (hd 31 rfl)) rfl <| zal2 5 [6, 7, 8] (lo_l (ly_mv rfl) (hd 32 rfl)) rfl <| zal2 6 [7, 8] (lo_l (ly_ian (i := k - 1) sl28 rfl rfl (by omega) (by omega)) (hd 33 rfl)) rfl ?_; refine zal 7 (lo_l (ly_ldq one82 rfl rfl) (hd 34 rfl)) rfl <| zal 8 (lo_l (ly_lt rfl rfl) (hd 35 rfl)) rfl <| ja_nil (by kernel_rfl) ?_
        refine jc_if rfl (fun h4 => ?_) (fun h4 => ?_)
        · refine zsr <| zas rfl (hd 4 rfl) <| jo_nil <| jc_ret ?_
          refine ⟨_, _, (.cons rfl .nil), .i, ?_⟩
          unfold cmpL
          rw [if_neg (by omega), if_neg (by omega), ← hc2, cmpN_lt (by omega) (by assumption)]
        · refine jc_skip <| jc_seq <| jc_draw (n := 9) _ rfl mixed <| zal2 0 [2, 3, 8] (lo_l (ly_mv rfl) (hd 36 rfl)) rfl <| zal2 1 [2, 3, 8] (lo_l (ly_mv rfl) (hd 37 rfl)) rfl <| zal2 2 [3, 8] (lo_l (ly_ian (i := k - 1) sl28 rfl rfl (by omega) (by omega)) (hd 38 rfl)) rfl <| zal 3 (lo_l (ly_ldq one82 rfl rfl) (hd 39 rfl)) rfl <| zal2 4 [6, 7, 8] (lo_l (ly_mv rfl) (hd 40 rfl)) rfl <| zal2 5 [6, 7, 8] (lo_l (ly_mv rfl) (hd 41 rfl)) rfl <| zal2 6 [7, 8] (lo_l (ly_ian (i := k - 1) sl28 rfl rfl (by omega) (by omega)) (hd 42 rfl)) rfl <| zal 7 (lo_l (ly_ldq one82 rfl rfl) (hd 43 rfl)) rfl <| zal 8 (lo_l (ly_gt rfl rfl) (hd 44 rfl)) rfl <| ja_nil (by kernel_rfl) ?_
          refine jc_if rfl (fun h5 => ?_) (fun h5 => ?_)
          · refine zsr <| zas rfl (hd 4 rfl) <| jo_nil <| jc_ret ?_
            refine ⟨_, _, (.cons rfl .nil), .i, ?_⟩
            unfold cmpL
            rw [if_neg (by omega), if_neg (by omega), ← hc2, cmpN_gt (by omega) (by assumption)]
          · refine jc_skip <| jc_region <| zmv rfl (hd 25 rfl) <| jo_l (ly_sub rfl rfl (wrap_i64 (by omega) (by omega))) (hd 26 rfl) <| zas rfl (hd 5 rfl) <| jo_nil ?_
            refine ⟨k - 1, ?_, ?_, rfl, cov_n 47 rfl rfl ?_⟩
            · exact ⟨by omega, by rw [← hc2]; exact cmpN_eq (by omega) (by assumption) (by assumption)⟩
            · omega
            · exact (.cons (by show some (V.i .i64 _) = some (V.i .i64 _); congr 2; omega) (.u (.u (.u (.u (.u (.u (.u (.u (.u (.u (.u (.u (.u (.u (.u (.u (.u (.u (.u (.u (.u (.u (.u .nil))))))))))))))))))))))))
      · refine jc_exit <| zsr <| zas rfl (hd 4 rfl) <| jo_nil <| jc_ret ?_
        refine ⟨_, _, (.cons rfl .nil), .i, ?_⟩
        unfold cmpL
        rw [if_neg (by omega), if_neg (by omega), ← hc2]
        obtain rfl : k = 0 := by omega
        rfl

theorem told_ok (l : List Int) (hl : l.length < 1099511627776) (hu : u64s l) (h : lenN (trm l) ≤ 67108864) : Spec Try.prog 129 [.n false .u64 l] (fun o => o = .ret (.t [.n false .u64 (trm l), .i .i64 0])) := by
  refine spec_of' [(0, .n false .u64 l)] rfl Try.func129 rfl (zlb rfl) fun Γ hN hds hL hR => ?_
  have hd := hdOf 10 hN
  have hm := trm_len l
  refine zsr <| zas rfl (hd 2 rfl) <| zas rfl (hd 3 rfl) <| jo_nil <| zsr <| zmv rfl (hd 4 rfl) ?_
  refine jo_call Try.f105 (trim_s l hl) rfl Try.func105 rfl rfl (ovL_cons rfl ovL_nil) (.cons .n .nil) (hd 5 rfl) ?_ (fun ch hp => by simp at hp)
  rintro _ ⟨⟩; refine zas rfl (hd 0 rfl) <| jo_nil <| jc_seq <| zsr <| zmv rfl (hd 6 rfl) ?_
  refine jo_call Try.f66 (Length_s (trm l) (by omega) (u64s_trm hu)) rfl Try.func66 rfl rfl (ovL_cons rfl ovL_nil) (.cons .n .nil) (hd 7 rfl) ?_ (fun ch hp => by simp at hp)
  rintro _ ⟨⟩; refine jo_l (ly_ff (ly_gt rfl rfl) (by omega)) (hd 8 rfl) <| jo_nil <| jc_litf rfl <| jc_skip <| zsr <| zmv rfl (hd 9 rfl) <| zas rfl (hd 2 rfl) <| zas rfl (hd 3 rfl) <| jo_nil <| jc_ret ?_
  refine ⟨_, _, (.cons rfl (.cons rfl .nil)), (.t1 .n (.t1 .i .t0)), ?_⟩
  exact rfl


theorem Add_ok (a b : List Int) (ha : a.length < 4294967296) (hb : b.length < 4294967296) (ua : u64s a) (ub : u64s b) (h : lenN (trm (sumL a b)) ≤ 67108864) : Spec Try.prog 103 [.n false .u64 a, .n false .u64 b] (fun o => o = .ret (.t [.n false .u64 (trm (sumL a b)), .i .i64 0])) := by
  refine spec_of' [(0, .n false .u64 a), (1, .n false .u64 b)] rfl Try.func103 rfl (zlb rfl) fun Γ hN hds hL hR => ?_
  have hd := hdOf 61 hN
  have hma := trm_len a
  have hmb := trm_len b
  refine zsr <| zas rfl (hd 4 rfl) <| zas rfl (hd 5 rfl) <| jo_nil <| zsr <| zmv rfl (hd 10 rfl) ?_
  refine jo_call Try.f105 (trim_s a (by omega)) rfl Try.func105 rfl rfl (ovL_cons rfl ovL_nil) (.cons .n .nil) (hd 11 rfl) ?_ (fun ch hp => by simp at hp)
  rintro _ ⟨⟩; refine zmv rfl (hd 12 rfl) ?_
  refine jo_call Try.f105 (trim_s b (by omega)) rfl Try.func105 rfl rfl (ovL_cons rfl ovL_nil) (.cons .n .nil) (hd 13 rfl) ?_ (fun ch hp => by simp at hp)
  rintro _ ⟨⟩; refine zas rfl (hd 0 rfl) <| zas rfl (hd 1 rfl) <| jo_nil ?_
  refine jc_meetH (G := List Int × List Int) (fun g => swL (trm a) (trm b) = g ∧ g.1.length < 4294967296 ∧ u64s g.1 ∧ u64s g.2) (fun g => [(0, .n false .u64 g.1), (1, .n false .u64 g.2), (14, .u), (15, .u), (16, .u), (17, .u), (18, .u), (19, .u), (20, .u)]) ?_ ?_
  · refine zsr <| zmv rfl (hd 14 rfl) <| jo_l (ly_lenn sl28 rfl) (hd 15 rfl) <| zmv rfl (hd 16 rfl) <| jo_l (ly_lenn sl28 rfl) (hd 17 rfl) <| jo_l (ly_lt rfl rfl) (hd 18 rfl) <| jo_nil ?_
    refine jc_if rfl (fun h1 => ?_) (fun h1 => ?_)
    · refine jc_region <| zmv rfl (hd 19 rfl) <| zmv rfl (hd 20 rfl) <| zas rfl (hd 0 rfl) <| zas rfl (hd 1 rfl) <| jo_nil ?_
      refine ⟨(trm b, trm a), ?_, rfl, cov_n 9 rfl rfl ?_⟩
      · exact ⟨by unfold swL; rw [if_pos (by omega)], by show (trm b).length < _; omega, u64s_trm ub, u64s_trm ua⟩
      · exact (.cons rfl (.cons rfl (.u (.u (.u (.u (.u (.u (.u .nil)))))))))
    · refine jc_skip ?_
      refine ⟨(trm a, trm b), ?_, rfl, cov_n 5 rfl rfl ?_⟩
      · exact ⟨by unfold swL; rw [if_neg (by omega)], by show (trm a).length < _; omega, u64s_trm ua, u64s_trm ub⟩
      · exact (.cons rfl (.cons rfl (.u (.u (.u (.u (.u (.u (.u .nil)))))))))
  · rintro ⟨X, Y⟩ ⟨hg, hX, uX, uY⟩
    dsimp only at hg hX uX uY ⊢
    have hS : sumL a b = (adN X Y X.length).1 ++ [(adN X Y X.length).2] := by unfold sumL; rw [hg]
    refine zsr <| zmv rfl (hd 21 rfl) <| jo_l (ly_lenn sl28 rfl) (hd 22 rfl) <| jo_l (ly_add rfl rfl (r := ((X.length + 1 : Nat) : Int)) (by rw [wrap_i64 (by omega) (by omega)]; omega)) (hd 23 rfl) <| jo_h (hy_mk (m := X.length + 1) el28 rfl rfl rfl (by show 8 * (X.length + 1) ≤ _; omega) (by unfold maxLen; omega) rfl) (hd 24 rfl) <| zas rfl (hd 6 rfl) <| jo_nil <| zsr <| zas rfl (hd 7 rfl) <| jo_nil <| jc_seq ?_; refine zsr <| zmv rfl (hd 25 rfl) <| jo_l (ly_lenn sl28 rfl) (hd 26 rfl) <| zmv rfl (hd 27 rfl) <| jo_nil <| jc_block ?_
    refine jc_loopF (G := Nat) (fun i => i ≤ X.length) (fun i => [(7, .i .u64 (adN X Y i).2), (27, .i .i64 (i : Int)), (8, .u), (9, .u), (28, .u), (29, .u), (30, .u), (31, .u), (32, .u), (33, .u), (34, .u), (35, .u), (36, .u), (37, .u), (38, .u), (39, .u), (40, .u), (41, .u), (42, .u), (43, .u), (44, .u), (45, .u), (46, .u), (47, .u), (48, .u), (49, .u), (50, .u), (51, .u)]) (fun i => [⟨67, 1, 0, true, ints .u64 (fillI (adN X Y i).1 (X.length + 1))⟩]) (fun i => X.length - i) 0 ?_ ?_ rfl ?_
    · exact Nat.zero_le _
    · exact (.cons rfl (.cons rfl (.u (.u (.u (.u (.u (.u (.u (.u (.u (.u (.u (.u (.u (.u (.u (.u (.u (.u (.u (.u (.u (.u (.u (.u (.u (.u .nil))))))))))))))))))))))))))))
    · rintro i hc1
      have hf := fillI_len (l := (adN X Y i).1) (n := X.length + 1) (by rw [adN_len]; omega)
      have hc := adN_c uX uY i
      have hx := u64s_getD uX i
      have hy := u64s_getD uY i
      refine zsr <| jo_l (ly_lt rfl rfl) (hd 28 rfl) <| jo_nil <| jc_seq ?_
      refine jc_if rfl (fun h2 => ?_) (fun h2 => ?_)
      · refine jc_skip <| jc_seq <| jc_block <| zsr <| zmv rfl (hd 29 rfl) <| zas rfl (hd 8 rfl) <| jo_nil <| zsr <| zas rfl (hd 9 rfl) <| jo_nil ?_
        refine jc_meetH (G := Unit) (fun _ => True) (fun _ => [(9, .i .u64 (Y.getD i 0)), (30, .u), (31, .u), (32, .u), (33, .u), (34, .u), (35, .u), (36, .u), (37, .u)]) ?_ ?_
        · refine zsr <| zmv rfl (hd 30 rfl) <| zmv rfl (hd 31 rfl) <| jo_l (ly_lenn sl28 rfl) (hd 32 rfl) <| jo_l (ly_lt rfl rfl) (hd 33 rfl) <| jo_nil ?_
          refine jc_if rfl (fun h3 => ?_) (fun h3 => ?_)
          · refine jc_region <| zmv rfl (hd 34 rfl) <| zmv rfl (hd 35 rfl) <| jo_l (ly_ian (i := i) sl28 rfl rfl (by first | rfl | omega) (by omega)) (hd 36 rfl) <| jo_l (ly_ldq one82 rfl rfl) (hd 37 rfl) <| zas rfl (hd 9 rfl) <| jo_nil ?_
            refine ⟨(), ?_, rfl, cov_n 9 rfl rfl ?_⟩
            · trivial
            · exact (.cons (by first | rfl | (show some (V.i .u64 _) = some (V.i .u64 _); rw [getD_ge (by omega)])) (.u (.u (.u (.u (.u (.u (.u (.u .nil)))))))))
          · refine jc_skip ?_
            refine ⟨(), ?_, rfl, cov_n 4 rfl rfl ?_⟩
            · trivial
            · exact (.cons (by first | rfl | (show some (V.i .u64 _) = some (V.i .u64 _); rw [getD_ge (by omega)])) (.u (.u (.u (.u (.u (.u (.u (.u .nil)))))))))
        · rintro _ _; refine jc_region <| zmv rfl (hd 39 rfl) <| zmv rfl (hd 40 rfl) <| zmv rfl (hd 41 rfl) <| zmv rfl (hd 42 rfl) <| jo_l (ly_ian (i := i) sl28 rfl rfl (by first | rfl | omega) (by omega)) (hd 43 rfl) <| jo_l (ly_ldq one82 rfl rfl) (hd 44 rfl) <| zmv rfl (hd 45 rfl) <| zmv rfl (hd 46 rfl) <| jo_h (hy_ext3 (e := add64Entry) Try.func128 rfl rfl (by kernel_rfl) (by kernel_rfl) rfl rfl rfl (fun w => run_add64 _ _ _ hx.1 hy.1 hc.1 hc.2 w) rel_pair) (hd 47 rfl) <| zmv rfl (hd 38 rfl) <| jo_l (ly_ext rfl rfl) (hd 48 rfl) <| jo_l (ly_ext rfl rfl) (hd 49 rfl) ?_; refine jo_l (ly_ia (i := i) sl28 rfl rfl rfl (by first | rfl | omega) (by omega) rfl) (hd 50 rfl) <| jo_st (sy_storei rfl rfl rfl one82 (by omega)) <| zas rfl (hd 7 rfl) <| jo_nil <| jc_region <| jo_l (ly_add rfl rfl (wrap_i64 (by omega) (by omega))) (hd 51 rfl) <| zmv rfl (hd 27 rfl) <| jo_nil ?_
          refine ⟨i + 1, ?_, ?_, (by show [(⟨67, 1, 0, true, ints .u64 _⟩ : Ob)] = [⟨67, 1, 0, true, ints .u64 _⟩]; rw [fill_ad (by omega)]), cov_n 57 rfl rfl ?_⟩
          · omega
          · omega
          · exact (.cons rfl (.cons rfl (.u (.u (.u (.u (.u (.u (.u (.u (.u (.u (.u (.u (.u (.u (.u (.u (.u (.u (.u (.u (.u (.u (.u (.u (.u (.u .nil))))))))))))))))))))))))))))
      · refine jc_exit <| jc_seq ?_
        obtain rfl : i = X.length := by omega
        refine jc_region <| zmv rfl (hd 52 rfl) <| zmv rfl (hd 53 rfl) <| jo_l (ly_lenn sl28 rfl) (hd 54 rfl) <| zmv rfl (hd 55 rfl) <| jo_l (ly_ia (i := X.length) sl28 rfl rfl rfl (by first | rfl | omega) (by omega) rfl) (hd 56 rfl) <| jo_st (sy_storei rfl rfl rfl one82 (by omega)) <| jo_nil <| zsr <| jo_frz (k := .u64) (l' := sumL a b) 6 rfl rfl (by rw [fill_last (adN_len _ _ _)]; simp [adN_len]) (by rw [fill_last (adN_len _ _ _), hS, List.drop_zero, List.take_of_length_le (by simp [adN_len])]) hL <| zmv rfl (hd 57 rfl) ?_
        refine jo_call Try.f129 (told_ok (sumL a b) (by rw [hS]; simp only [List.length_append, adN_len, List.length_singleton]; omega) (by rw [hS]; exact u64s_app1 (adN_u _) hc.1 (by omega)) h) rfl Try.func129 rfl rfl (ovL_cons rfl ovL_nil) (.cons .n .nil) (hd 58 rfl) ?_ (fun ch hp => by simp at hp)
        rintro _ ⟨⟩; refine jo_l (ly_ext rfl rfl) (hd 59 rfl) <| jo_l (ly_ext rfl rfl) (hd 60 rfl) <| zas rfl (hd 4 rfl) <| zas rfl (hd 5 rfl) <| jo_nil <| jc_ret ?_
        refine ⟨_, _, (.cons rfl (.cons rfl .nil)), (.t1 .n (.t1 .i .t0)), ?_⟩
        exact rfl



theorem rnorm_s (l : List Int) (hl : l.length < 1099511627776) : Spec Try.prog 95 [.n false .u64 l] (fun o => o = .ret (.n false .u64 (trm l))) := by
  refine spec_of' [(0, .n false .u64 l)] rfl Try.func95 rfl (zlb rfl) fun Γ hN hds hL hR => ?_
  have hd := hdOf 22 hN
  refine zsr <| zas rfl (hd 2 rfl) <| jo_nil <| zsr <| zmv rfl (hd 4 rfl) <| jo_l (ly_lenn sl33 rfl) (hd 5 rfl) <| zas rfl (hd 3 rfl) <| jo_nil <| jc_seq <| jc_block ?_
  refine jc_loopF (G := Nat) (fun k => k ≤ l.length ∧ tN l k = tN l l.length) (fun k => [(3, .i .i64 (k : Int)), (6, .u), (7, .u), (8, .u), (9, .u), (10, .u), (11, .u), (12, .u), (13, .u), (14, .u), (15, .u), (16, .u), (17, .u)]) (fun _ => _) (fun k => k) l.length ?_ ?_ rfl ?_
  · exact ⟨Nat.le_refl _, rfl⟩
  · exact (.cons rfl (.u (.u (.u (.u (.u (.u (.u (.u (.u (.u (.u (.u .nil)))))))))))))
  · rintro k ⟨hc1, hc2⟩; refine jc_seq <| zsr <| zmv rfl (hd 6 rfl) <| jo_l (ly_gt rfl rfl) (hd 7 rfl) <| zmv rfl (hd 8 rfl) ?_
    refine jo_ifp 8 rfl (fun h1 => ?_) (fun h1 => ?_)
    · refine jo_g 8 rfl rfl (ly_mv rfl) (hd 9 rfl) <| jo_g 8 rfl rfl (ly_mv rfl) (hd 10 rfl) <| jo_g 8 rfl rfl (ly_sub rfl rfl (wrap_i64 (by omega) (by omega))) (hd 11 rfl) <| jo_g 8 rfl rfl (ly_ian (i := k - 1) sl33 rfl rfl (by omega) (by omega)) (hd 12 rfl) <| jo_g 8 rfl rfl (ly_ldq one82 rfl rfl) (hd 13 rfl) <| jo_g 8 rfl rfl (ly_eq rfl rfl) (hd 14 rfl) <| jo_l (ly_pick_t rfl rfl) (hd 15 rfl) <| jo_nil ?_
      refine jc_if rfl (fun h2 => ?_) (fun h2 => ?_)
      · refine jc_skip <| jc_block <| jc_region <| zmv rfl (hd 16 rfl) <| jo_l (ly_sub rfl rfl (wrap_i64 (by omega) (by omega))) (hd 17 rfl) <| zas rfl (hd 3 rfl) <| jo_nil ?_
        refine ⟨k - 1, ?_, ?_, rfl, cov_n 27 rfl rfl ?_⟩
        · exact ⟨by omega, by rw [← hc2, tN_down (by omega) (by assumption)]⟩
        · omega
        · exact (.cons (by show some (V.i .i64 _) = some (V.i .i64 _); congr 2; omega) (.u (.u (.u (.u (.u (.u (.u (.u (.u (.u (.u (.u .nil)))))))))))))
      · refine jc_exit <| zsr <| zmv rfl (hd 18 rfl) <| zmv rfl (hd 19 rfl) <| zmv rfl (hd 20 rfl) <| jo_l (ly_sln sl33 rfl bnd_none (bnd_some' rfl (by first | rfl | omega)) (.inr ⟨k, bnd_some' rfl rfl, Nat.le_refl _, hc1, rfl⟩) (by omega) (by omega)) (hd 21 rfl) <| zas rfl (hd 2 rfl) <| jo_nil <| jc_ret ?_
        refine ⟨_, _, (.cons rfl .nil), .n, ?_⟩
        unfold trm
        rw [← hc2, tN_stop (by omega) (by assumption), List.drop_zero]
    · refine jo_s 8 rfl rfl rfl (hd 9 rfl) <| jo_s 8 rfl rfl rfl (hd 10 rfl) <| jo_s 8 rfl rfl rfl (hd 11 rfl) <| jo_s 8 rfl rfl rfl (hd 12 rfl) <| jo_s 8 rfl rfl rfl (hd 13 rfl) <| jo_s 8 rfl rfl rfl (hd 14 rfl) <| jo_l (ly_pick_f rfl rfl) (hd 15 rfl) <| jo_nil <| jc_litf rfl <| jc_exit <| zsr <| zmv rfl (hd 18 rfl) ?_; refine zmv rfl (hd 19 rfl) <| zmv rfl (hd 20 rfl) <| jo_l (ly_sln sl33 rfl bnd_none (bnd_some' rfl (by first | rfl | omega)) (.inr ⟨k, bnd_some' rfl rfl, Nat.le_refl _, hc1, rfl⟩) (by omega) (by omega)) (hd 21 rfl) <| zas rfl (hd 2 rfl) <| jo_nil <| jc_ret ?_
      refine ⟨_, _, (.cons rfl .nil), .n, ?_⟩
      unfold trm
      rw [← hc2, tN_0 (by omega), List.drop_zero]

theorem Zero_s (l : List Int) : Spec Try.prog 21 [.n false .u64 l] (fun o => o = .ret (.b (decide ((l.length : Int) = 0)))) := by
  refine spec_of' [(0, .n false .u64 l)] rfl Try.func21 rfl (zlb rfl) fun Γ hN hds hL hR => ?_
  have hd := hdOf 6 hN
  refine zsr <| zas rfl (hd 2 rfl) <| jo_nil <| zsr <| zmv rfl (hd 3 rfl) <| jo_l (ly_lenn sl33 rfl) (hd 4 rfl) <| jo_l (ly_eq rfl rfl) (hd 5 rfl) <| zas rfl (hd 2 rfl) <| jo_nil <| jc_ret ?_
  refine ⟨_, _, (.cons rfl .nil), .b, ?_⟩
  exact rfl

theorem rOf_s (l : List Int) (hl : l.length < 4294967296) (hu : u64s l) : Spec Try.prog 41 [.n false .u64 l] (fun o => o = .ret (.n false .u64 (trm (dig l)))) := by
  refine spec_of' [(0, .n false .u64 l)] rfl Try.func41 rfl (zlb rfl) fun Γ hN hds hL hR => ?_
  have hd := hdOf 26 hN
  refine zsr <| zas rfl (hd 2 rfl) <| jo_nil <| zsr <| zmv rfl (hd 6 rfl) <| jo_l (ly_lenn sl25 rfl) (hd 7 rfl) <| jo_l (ly_mul rfl rfl (wrap_i64 (by omega) (by omega))) (hd 8 rfl) <| jo_h (hy_mk0 (m := 2 * l.length) el33 rfl rfl (by omega) (by show 8 * (2 * l.length) ≤ _; omega) (by unfold maxLen; omega) rfl) (hd 9 rfl) <| zas rfl (hd 3 rfl) <| jo_nil <| jc_seq ?_; refine zsr <| zmv rfl (hd 10 rfl) <| jo_l (ly_lenn sl25 rfl) (hd 11 rfl) <| zmv rfl (hd 12 rfl) <| jo_nil <| jc_block ?_
  refine jc_loopD (G := Nat) 1 (fun g => g ≤ l.length) (fun g => [(3, .o 0 g 0 (2 * g)), (12, .i .i64 (g : Int)), (5, .u), (13, .u), (14, .u), (15, .u), (16, .u), (17, .u), (18, .u), (19, .u), (20, .u), (21, .u), (22, .u), (23, .u)]) (fun g => [⟨67, 1, g, true, ints .u64 (dig (l.take g))⟩]) (fun g => l.length - g) 0 ?_ ?_ rfl hR rfl (fun _ _ => rfl) (fun g _ => .cons ints_id .nil) ?_
  · exact Nat.zero_le _
  · exact (.cons rfl (.cons rfl (.u (.u (.u (.u (.u (.u (.u (.u (.u (.u (.u (.u .nil))))))))))))))
  · rintro i hc1
    have hx := u64s_getD hu i
    refine zsr <| jo_l (ly_lt rfl rfl) (hd 13 rfl) <| jo_nil <| jc_seq ?_
    refine jc_if rfl (fun h1 => ?_) (fun h1 => ?_)
    · refine jc_skip <| jc_seq <| jc_block <| zsr <| jo_l (ly_ian (i := i) sl25 rfl rfl (by first | rfl | omega) (by omega)) (hd 14 rfl) <| jo_l (ly_ldq one82 rfl rfl) (hd 15 rfl) <| zas rfl (hd 5 rfl) <| jo_nil <| jc_region <| zmv rfl (hd 16 rfl) <| zmv rfl (hd 17 rfl) <| jo_l (ly_is (ly_rem rfl rfl (by decide) rfl) (show V.i .u64 ((l.getD i 0).tmod 4294967296) = V.i .u64 ((l.getD i 0) % 4294967296) by rw [Int.tmod_eq_emod_of_nonneg hx.1])) (hd 18 rfl) ?_; refine zmv rfl (hd 19 rfl) <| jo_l (ly_quo rfl rfl (by decide) (r := (l.getD i 0) / 4294967296) (by show IntKind.u64.wrap (Int.tdiv (l.getD i 0) 4294967296) = _; rw [Int.tdiv_eq_ediv_of_nonneg hx.1]; exact wrap_u64 (by omega) (by omega))) (hd 20 rfl) <| jo_h (hy_lit (id := 1) (xs := [.tmp 18, .tmp 20]) el33 rfl (ovL_cons rfl (ovL_cons rfl ovL_nil)) rfl (all2_of rfl) (by decide) rfl) (hd 21 rfl) <| jo_app el33 rfl rfl (by rw [ints_length, dig_len, List.length_take, Nat.min_eq_left (by omega), Nat.mul_one]) rfl (src_o rfl rfl rfl) (by show (2 * i + 2) * 8 ≤ _; omega) (by unfold maxLen; omega) (hd 22 rfl) <| zas rfl (hd 3 rfl) <| jo_nil <| jc_region <| jo_l (ly_add rfl rfl (wrap_i64 (by omega) (by omega))) (hd 23 rfl) <| zmv rfl (hd 12 rfl) <| jo_nil ?_
      refine ⟨i + 1, ?_, ?_, (by show [(⟨67, 1, i + 1, true, ints .u64 (dig (l.take i)) ++ ints .u64 [_, _]⟩ : Ob)] = [⟨67, 1, i + 1, true, ints .u64 (dig (l.take (i + 1)))⟩]; rw [ints_append, dig_snoc (by omega)]), cov_n 28 rfl rfl ?_⟩
      · omega
      · omega
      · exact (.cons rfl (.cons rfl (.u (.u (.u (.u (.u (.u (.u (.u (.u (.u (.u (.u .nil))))))))))))))
    · refine jc_exit <| jc_seq ?_
      obtain rfl : i = l.length := by omega
      refine jc_region <| jo_frz (k := .u64) (l' := dig l) 3 rfl rfl (by rw [dig_len, List.length_take, Nat.min_self]; omega) (by rw [List.take_length, List.drop_zero, List.take_of_length_le (by rw [dig_len]; exact Nat.le_refl _)]) hL <| zmv rfl (hd 24 rfl) ?_
      refine jo_call Try.f95 (rnorm_s (dig l) (by rw [dig_len]; omega)) rfl Try.func95 rfl rfl (ovL_cons rfl ovL_nil) (.cons .n .nil) (hd 25 rfl) ?_ (fun ch hp => by simp at hp)
      rintro _ ⟨⟩; refine zas rfl (hd 2 rfl) <| jo_nil <| jc_ret ?_
      refine ⟨_, _, (.cons rfl .nil), .n, ?_⟩
      exact rfl

theorem rInt_s (v : Int) (h0 : 0 ≤ v) (h1 : v < 9223372036854775808) : Spec Try.prog 54 [.i .i64 v] (fun o => o = .ret (.n false .u64 (trm (dig [v])))) := by
  refine spec_of' [(0, .i .i64 v)] rfl Try.func54 rfl (zlb rfl) fun Γ hN hds hL hR => ?_
  have hd := hdOf 7 hN
  refine zsr <| zas rfl (hd 2 rfl) <| jo_nil <| zsr <| zmv rfl (hd 3 rfl) <| jo_l (ly_conv und3 und82 rfl (wrap_u64 (by omega) (by omega))) (hd 4 rfl) <| jo_h (hy_lit (id := 0) (xs := [.tmp 4]) el25 rfl (ovL_cons rfl ovL_nil) rfl (all2_of rfl) (by decide) rfl) (hd 5 rfl) <| jo_frz (k := .u64) (l := [v]) (l' := [v]) 5 rfl rfl (Nat.le_refl _) rfl hL ?_
  refine jo_call Try.f41 (rOf_s [v] (by simp) (u64s1 (by omega) (by omega))) rfl Try.func41 rfl rfl (ovL_cons rfl ovL_nil) (.cons .n .nil) (hd 6 rfl) ?_ (fun ch hp => by simp at hp)
  rintro _ ⟨⟩; refine zas rfl (hd 2 rfl) <| jo_nil <| jc_ret ?_
  refine ⟨_, _, (.cons rfl .nil), .n, ?_⟩
  exact rfl

theorem Limbs_s (l : List Int) (hl : l.length < 4294967296) : Spec Try.prog 94 [.n false .u64 l] (fun o => o = .ret (.n true .u64 (lims l))) := by
  refine spec_of' [(0, .n false .u64 l)] rfl Try.func94 rfl (zlb rfl) fun Γ hN hds hL hR => ?_
  have hd := hdOf 34 hN
  refine zsr <| zas rfl (hd 2 rfl) <| jo_nil <| zsr <| zas rfl (hd 3 rfl) <| jo_nil <| jc_seq <| jc_seq <| jc_own0 (id := 0) 3 67 1 rfl rfl <| jc_region <| zas rfl (hd 4 rfl) ?_; refine jo_nil <| jc_block ?_
  refine jc_loopD (G := Nat × List Int) 1 (fun g => g.1 ≤ l.length + 1 ∧ g.2 ++ lims (l.drop g.1) = lims l ∧ g.2.length ≤ g.1) (fun g => [(3, .o 0 g.2.length 0 g.2.length), (4, .i .i64 (g.1 : Int)), (5, .u), (6, .u), (7, .u), (8, .u), (9, .u), (10, .u), (11, .u), (12, .u), (13, .u), (14, .u), (15, .u), (16, .u), (17, .u), (18, .u), (19, .u), (20, .u), (21, .u), (22, .u), (23, .u), (24, .u), (25, .u), (26, .u), (27, .u), (28, .u), (29, .u), (30, .u), (31, .u), (32, .u)]) (fun g => [⟨67, 1, g.2.length, true, ints .u64 g.2⟩]) (fun g => l.length + 1 - g.1) (0, []) ?_ ?_ rfl hR rfl (fun _ _ => rfl) (fun g _ => .cons ints_id .nil) ?_
  · exact ⟨Nat.zero_le _, rfl, Nat.le_refl _⟩
  · exact (.cons rfl (.cons rfl (.u (.u (.u (.u (.u (.u (.u (.u (.u (.u (.u (.u (.u (.u (.u (.u (.u (.u (.u (.u (.u (.u (.u (.u (.u (.u (.u (.u .nil))))))))))))))))))))))))))))))
  · rintro ⟨j, acc⟩ ⟨hc1, hc2, hc3⟩
    dsimp only at hc1 hc2 hc3
    refine jc_seq <| zsr <| zmv rfl (hd 6 rfl) <| zmv rfl (hd 7 rfl) <| jo_l (ly_lenn sl33 rfl) (hd 8 rfl) <| jo_l (ly_lt rfl rfl) (hd 9 rfl) <| jo_nil ?_
    refine jc_if rfl (fun h1 => ?_) (fun h1 => ?_)
    · have hjl : j < l.length := by
        have h0 : (j : Int) < (l.length : Int) := by assumption
        omega
      refine jc_skip <| jc_seq <| jc_block <| zsr <| zmv rfl (hd 12 rfl) <| zmv rfl (hd 13 rfl) <| jo_l (ly_ian (i := j) sl33 rfl rfl (by first | rfl | omega) (by omega)) (hd 14 rfl) <| jo_l (ly_ldq one82 rfl rfl) (hd 15 rfl) <| zas rfl (hd 5 rfl) <| jo_nil ?_
      refine jc_meetH (G := Int) (fun v => lims (l.drop j) = v :: lims (l.drop (j + 2))) (fun v => [(5, .i .u64 v), (16, .u), (17, .u), (18, .u), (19, .u), (20, .u), (21, .u), (22, .u), (23, .u), (24, .u), (25, .u), (26, .u), (27, .u), (28, .u)]) ?_ ?_
      · refine zsr <| zmv rfl (hd 16 rfl) <| jo_l (ly_add rfl rfl (r := ((j + 1 : Nat) : Int)) (by rw [wrap_i64 (by omega) (by omega)]; omega)) (hd 17 rfl) <| zmv rfl (hd 18 rfl) <| jo_l (ly_lenn sl33 rfl) (hd 19 rfl) <| jo_l (ly_lt rfl rfl) (hd 20 rfl) <| jo_nil ?_
        refine jc_if rfl (fun h2 => ?_) (fun h2 => ?_)
        · refine jc_region <| zmv rfl (hd 21 rfl) <| zmv rfl (hd 22 rfl) <| zmv rfl (hd 23 rfl) <| jo_l (ly_add rfl rfl (r := ((j + 1 : Nat) : Int)) (by rw [wrap_i64 (by omega) (by omega)]; omega)) (hd 24 rfl) <| jo_l (ly_ian (i := j + 1) sl33 rfl rfl (by first | rfl | omega) (by omega)) (hd 25 rfl) <| jo_l (ly_ldq one82 rfl rfl) (hd 26 rfl) <| jo_l (ly_mul rfl rfl rfl) (hd 27 rfl) <| jo_l (ly_add rfl rfl rfl) (hd 28 rfl) <| zas rfl (hd 5 rfl) <| jo_nil ?_
          refine ⟨IntKind.u64.wrap (l.getD j 0 + IntKind.u64.wrap (l.getD (j + 1) 0 * 4294967296)), ?_, rfl, cov_n 14 rfl rfl ?_⟩
          · exact lims2 (by omega)
          · exact (.cons rfl (.u (.u (.u (.u (.u (.u (.u (.u (.u (.u (.u (.u (.u .nil))))))))))))))
        · refine jc_skip ?_
          refine ⟨l.getD j 0, ?_, rfl, cov_n 5 rfl rfl ?_⟩
          · exact lims1 hjl (by omega)
          · exact (.cons rfl (.u (.u (.u (.u (.u (.u (.u (.u (.u (.u (.u (.u (.u .nil))))))))))))))
      · rintro v hv; refine jc_region <| zmv rfl (hd 29 rfl) <| zmv rfl (hd 30 rfl) <| jo_h (hy_lit (id := 1) (xs := [.tmp 30]) el25 rfl (ovL_cons rfl ovL_nil) rfl (all2_of rfl) (by decide) rfl) (hd 31 rfl) <| jo_app el25 rfl rfl (by rw [ints_length, Nat.mul_one]) rfl (src_o rfl rfl rfl) (by show (acc.length + 1) * 8 ≤ _; omega) (by show acc.length + 1 ≤ 9223372036854775807; omega) (hd 32 rfl) <| zas rfl (hd 3 rfl) <| jo_nil <| jc_region <| zmv rfl (hd 10 rfl) <| jo_l (ly_add rfl rfl (r := ((j + 2 : Nat) : Int)) (by rw [wrap_i64 (by omega) (by omega)]; omega)) (hd 11 rfl) <| zas rfl (hd 4 rfl) <| jo_nil ?_
        refine ⟨(j + 2, acc ++ [v]), ?_, ?_, (by show [(⟨67, 1, acc.length + 1, true, ints .u64 acc ++ ints .u64 [v]⟩ : Ob)] = [⟨67, 1, (acc ++ [v]).length, true, ints .u64 (acc ++ [v])⟩]; rw [ints_append, List.length_append]; rfl), cov_n 61 rfl rfl ?_⟩
        · exact ⟨by omega, by rw [List.append_assoc, List.singleton_append, ← hv]; exact hc2, by rw [List.length_append, List.length_singleton]; omega⟩
        · show l.length + 1 - (j + 2) < l.length + 1 - j
          omega
        · exact (.cons (by show some _ = some _; rw [List.length_append]; rfl) (.cons rfl (.u (.u (.u (.u (.u (.u (.u (.u (.u (.u (.u (.u (.u (.u (.u (.u (.u (.u (.u (.u (.u (.u (.u (.u (.u (.u (.u (.u .nil))))))))))))))))))))))))))))))
    · have hjl : l.length ≤ j := by
        have h0 : ¬ (j : Int) < (l.length : Int) := by assumption
        omega
      refine jc_exit <| zsr <| zmv rfl (hd 33 rfl) <| zas rfl (hd 2 rfl) <| jo_nil <| jc_ret ?_
      refine ⟨_, _, (.cons rfl .nil), (.o rfl (by simp) rfl), ?_⟩
      rw [List.drop_zero, List.take_length, ← hc2, List.drop_eq_nil_of_le hjl]
      simp only [lims, List.append_nil]

theorem Is_s (l : List Int) (hl : l.length < 4294967296) : Spec Try.prog 39 [.n false .u64 l, .n false .u64 (lims l)] (fun o => o = .ret (.b true)) := by
  refine spec_of' [(0, .n false .u64 l), (1, .n false .u64 (lims l))] rfl Try.func39 rfl (zlb rfl) fun Γ hN hds hL hR => ?_
  have hd := hdOf 29 hN
  have hm := lims_len l
  refine zsr <| zas rfl (hd 4 rfl) <| jo_nil <| zsr <| zmv rfl (hd 7 rfl) ?_
  refine jo_call Try.f94 (Limbs_s l hl) rfl Try.func94 rfl rfl (ovL_cons rfl ovL_nil) (.cons .n .nil) (hd 8 rfl) ?_ (fun ch hp => by simp at hp)
  rintro _ ⟨⟩; refine zas rfl (hd 5 rfl) <| jo_nil <| jc_seq <| zsr <| zmv rfl (hd 9 rfl) <| jo_l (ly_lenn sl25 rfl) (hd 10 rfl) <| zmv rfl (hd 11 rfl) <| jo_l (ly_lenn sl25 rfl) (hd 12 rfl) <| jo_l (ly_ff (ly_ne rfl rfl) (by simp)) (hd 13 rfl) <| jo_nil <| jc_litf rfl <| jc_skip ?_; refine jc_seq <| zsr <| zmv rfl (hd 14 rfl) <| jo_l (ly_lenn sl25 rfl) (hd 15 rfl) <| zmv rfl (hd 16 rfl) <| jo_nil <| jc_block ?_
  refine jc_loopF (G := Nat) (fun i => i ≤ (lims l).length) (fun i => [(16, .i .i64 (i : Int)), (4, .u), (6, .u), (17, .u), (18, .u), (19, .u), (20, .u), (21, .u), (22, .u), (23, .u), (24, .u), (25, .u), (26, .u), (27, .u), (28, .u)]) (fun _ => _) (fun i => (lims l).length - i) 0 ?_ ?_ rfl ?_
  · exact Nat.zero_le _
  · exact (.cons rfl (.u (.u (.u (.u (.u (.u (.u (.u (.u (.u (.u (.u (.u (.u .nil)))))))))))))))
  · rintro i hc1; refine zsr <| jo_l (ly_lt rfl rfl) (hd 17 rfl) <| jo_nil <| jc_seq ?_
    refine jc_if rfl (fun h2 => ?_) (fun h2 => ?_)
    · refine jc_skip <| jc_seq <| jc_block <| zsr <| zmv rfl (hd 18 rfl) <| zas rfl (hd 6 rfl) <| jo_nil <| jc_seq <| jc_draw (n := 9) _ rfl mixed <| zal2 0 [2, 3, 8] (lo_l (ly_mv rfl) (hd 19 rfl)) rfl <| zal2 1 [2, 3, 8] (lo_l (ly_mv rfl) (hd 20 rfl)) rfl <| zal2 2 [3, 8] (lo_l (ly_ian (i := i) sl25 rfl rfl (by first | rfl | omega) (by omega)) (hd 21 rfl)) rfl ?_; refine zal 3 (lo_l (ly_ldq one82 rfl rfl) (hd 22 rfl)) rfl <| zal2 4 [6, 7, 8] (lo_l (ly_mv rfl) (hd 23 rfl)) rfl <| zal2 5 [6, 7, 8] (lo_l (ly_mv rfl) (hd 24 rfl)) rfl <| zal2 6 [7, 8] (lo_l (ly_ian (i := i) sl25 rfl rfl (by first | rfl | omega) (by omega)) (hd 25 rfl)) rfl <| zal 7 (lo_l (ly_ldq one82 rfl rfl) (hd 26 rfl)) rfl <| zal 8 (lo_l (ly_ff (ly_ne rfl rfl) (by simp)) (hd 27 rfl)) rfl <| ja_nil (by kernel_rfl) <| jc_litf rfl <| jc_skip <| jc_region <| jo_l (ly_add rfl rfl (wrap_i64 (by omega) (by omega))) (hd 28 rfl) <| zmv rfl (hd 16 rfl) <| jo_nil ?_
      refine ⟨i + 1, ?_, ?_, rfl, cov_n 29 rfl rfl ?_⟩
      · omega
      · omega
      · exact (.cons rfl (.u (.u (.u (.u (.u (.u (.u (.u (.u (.u (.u (.u (.u (.u .nil)))))))))))))))
    · refine jc_exit <| zsr <| zas rfl (hd 4 rfl) <| jo_nil <| jc_ret ?_
      refine ⟨_, _, (.cons rfl .nil), .b, ?_⟩
      exact rfl




theorem Mul64_s (x y : Int) (hx0 : 0 ≤ x) (hx : x < 18446744073709551616) (hy0 : 0 ≤ y) (hy : y < 18446744073709551616) : Spec Try.prog 143 [.i .u64 x, .i .u64 y] (fun o => o = .ret (.t [.i .u64 (x * y / 18446744073709551616), .i .u64 (x * y % 18446744073709551616)])) := by
  refine spec_of' [(0, .i .u64 x), (1, .i .u64 y)] rfl Try.func143 rfl (zlb rfl) fun Γ hN hds hL hR => ?_
  have hd := hdOf 51 hN
  have hM := mul64_val hx0 hx hy0 hy
  dsimp only at hM
  obtain ⟨b00, b10, b01, b11, hhi⟩ := hM
  refine zsr <| zas rfl (hd 4 rfl) <| zas rfl (hd 5 rfl) <| jo_nil <| zsr <| zmv rfl (hd 14 rfl) <| jo_l (ly_is (ly_bit (by simp) rfl rfl rfl) (show V.i .u64 (bitop .and .u64 (x) 4294967295) = V.i .u64 (x % 4294967296) by rw [and32 hx0 hx])) (hd 15 rfl) <| zas rfl (hd 6 rfl) <| jo_nil <| jc_seq <| jc_region ?_; refine zmv rfl (hd 16 rfl) <| jo_l (ly_is (ly_shr rfl rfl (by omega) rfl) (show V.i .u64 _ = V.i .u64 (x / 4294967296) from congrArg _ (shr32 hx0))) (hd 17 rfl) <| zas rfl (hd 7 rfl) <| jo_nil <| zsr <| zmv rfl (hd 18 rfl) <| jo_l (ly_is (ly_bit (by simp) rfl rfl rfl) (show V.i .u64 (bitop .and .u64 (y) 4294967295) = V.i .u64 (y % 4294967296) by rw [and32 hy0 hy])) (hd 19 rfl) <| zas rfl (hd 8 rfl) <| jo_nil <| zsr <| zmv rfl (hd 20 rfl) ?_; refine jo_l (ly_is (ly_shr rfl rfl (by omega) rfl) (show V.i .u64 _ = V.i .u64 (y / 4294967296) from congrArg _ (shr32 hy0))) (hd 21 rfl) <| zas rfl (hd 9 rfl) <| jo_nil <| zsr <| zmv rfl (hd 22 rfl) <| zmv rfl (hd 23 rfl) <| jo_l (ly_mul rfl rfl (wrap_u64 (by omega) (by omega))) (hd 24 rfl) <| zas rfl (hd 10 rfl) <| jo_nil <| zsr <| zmv rfl (hd 25 rfl) ?_; refine zmv rfl (hd 26 rfl) <| jo_l (ly_mul rfl rfl (wrap_u64 (by omega) (by omega))) (hd 27 rfl) <| zmv rfl (hd 28 rfl) <| jo_l (ly_is (ly_shr rfl rfl (by omega) rfl) (show V.i .u64 _ = V.i .u64 (x % 4294967296 * (y % 4294967296) / 4294967296) from congrArg _ (shr32 b00.1))) (hd 29 rfl) <| jo_l (ly_add rfl rfl (wrap_u64 (by omega) (by omega))) (hd 30 rfl) <| zas rfl (hd 11 rfl) <| jo_nil <| zsr <| zmv rfl (hd 31 rfl) <| jo_l (ly_is (ly_bit (by simp) rfl rfl rfl) (show V.i .u64 (bitop .and .u64 ((x / 4294967296 * (y % 4294967296) + x % 4294967296 * (y % 4294967296) / 4294967296)) 4294967295) = V.i .u64 ((x / 4294967296 * (y % 4294967296) + x % 4294967296 * (y % 4294967296) / 4294967296) % 4294967296) by rw [and32 (by omega) (by omega)])) (hd 32 rfl) <| zas rfl (hd 12 rfl) <| jo_nil ?_; refine zsr <| zmv rfl (hd 33 rfl) <| jo_l (ly_is (ly_shr rfl rfl (by omega) rfl) (show V.i .u64 _ = V.i .u64 ((x / 4294967296 * (y % 4294967296) + x % 4294967296 * (y % 4294967296) / 4294967296) / 4294967296) from congrArg _ (shr32 (by omega)))) (hd 34 rfl) <| zas rfl (hd 13 rfl) <| jo_nil <| zsr <| zmv rfl (hd 35 rfl) <| zmv rfl (hd 36 rfl) <| zmv rfl (hd 37 rfl) <| jo_l (ly_mul rfl rfl (wrap_u64 (by omega) (by omega))) (hd 38 rfl) <| jo_l (ly_add rfl rfl (wrap_u64 (by omega) (by omega))) (hd 39 rfl) ?_; refine zas rfl (hd 12 rfl) <| jo_nil <| zsr <| zmv rfl (hd 40 rfl) <| zmv rfl (hd 41 rfl) <| jo_l (ly_mul rfl rfl (wrap_u64 (by omega) (by omega))) (hd 42 rfl) <| zmv rfl (hd 43 rfl) <| jo_l (ly_add rfl rfl (wrap_u64 (by omega) (by omega))) (hd 44 rfl) <| zmv rfl (hd 45 rfl) <| jo_l (ly_is (ly_shr rfl rfl (by omega) rfl) (show V.i .u64 _ = V.i .u64 (((x / 4294967296 * (y % 4294967296) + x % 4294967296 * (y % 4294967296) / 4294967296) % 4294967296 + x % 4294967296 * (y / 4294967296)) / 4294967296) from congrArg _ (shr32 (by omega)))) (hd 46 rfl) <| jo_l (ly_add rfl rfl (wrap_u64 (by omega) (by omega))) (hd 47 rfl) ?_
  refine zas rfl (hd 4 rfl) <| jo_nil <| zsr <| zmv rfl (hd 48 rfl) <| zmv rfl (hd 49 rfl) <| jo_l (ly_mul rfl rfl (r := x * y % 18446744073709551616) u64_wrap_mod) (hd 50 rfl) <| zas rfl (hd 5 rfl) <| jo_nil <| jc_ret ?_
  refine ⟨_, _, (.cons rfl (.cons rfl .nil)), (.t1 .i (.t1 .i .t0)), ?_⟩
  rw [hhi]

theorem school_s (a b : List Int) (hla : a.length < 1099511627776) (hlb : b.length < 1099511627776) (ua : u64s a) (ub : u64s b) : Spec Try.prog 133 [.n false .u64 a, .n false .u64 b] (fun o => ∃ r, o = .ret (.n true .u64 r) ∧ u64s r ∧ r.length = a.length + b.length ∧ vl r = vl a * vl b) := by
  refine spec_of' [(0, .n false .u64 a), (1, .n false .u64 b)] rfl Try.func133 rfl (zlb rfl) fun Γ hN hds hL hR => ?_
  have hd := hdOf 78 hN
  refine zsr <| zas rfl (hd 4 rfl) <| jo_nil <| zsr <| zmv rfl (hd 14 rfl) <| jo_l (ly_lenn sl28 rfl) (hd 15 rfl) <| zmv rfl (hd 16 rfl) <| jo_l (ly_lenn sl28 rfl) (hd 17 rfl) <| jo_l (ly_add rfl rfl (r := ((a.length + b.length : Nat) : Int)) (by rw [wrap_i64 (by omega) (by omega)]; omega)) (hd 18 rfl) <| jo_h (hy_mk (m := a.length + b.length) el28 rfl rfl rfl (by show 8 * (a.length + b.length) ≤ _; omega) (by unfold maxLen; omega) rfl) (hd 19 rfl) <| zas rfl (hd 5 rfl) ?_; refine jo_nil <| jc_seq <| zsr <| zmv rfl (hd 20 rfl) <| jo_l (ly_lenn sl28 rfl) (hd 21 rfl) <| zmv rfl (hd 22 rfl) <| jo_nil <| jc_block ?_
  refine jc_loopF (G := Nat × List Int) (fun g => g.1 ≤ a.length ∧ g.2.length = a.length + b.length ∧ u64s g.2 ∧ vl g.2 = vk a g.1 * vl b ∧ ∀ j, g.1 + b.length ≤ j → g.2.getD j 0 = 0) (fun g => [(22, .i .i64 (g.1 : Int)), (6, .u), (7, .u), (8, .u), (9, .u), (10, .u), (11, .u), (12, .u), (13, .u), (23, .u), (24, .u), (25, .u), (26, .u), (27, .u), (28, .u), (29, .u), (30, .u), (31, .u), (32, .u), (33, .u), (34, .u), (35, .u), (36, .u), (37, .u), (38, .u), (39, .u), (40, .u), (41, .u), (42, .u), (43, .u), (44, .u), (45, .u), (46, .u), (47, .u), (48, .u), (49, .u), (50, .u), (51, .u), (52, .u), (53, .u), (54, .u), (55, .u), (56, .u), (57, .u), (58, .u), (59, .u), (60, .u), (61, .u), (62, .u), (63, .u), (64, .u), (65, .u), (66, .u), (67, .u), (68, .u), (69, .u), (70, .u), (71, .u), (72, .u), (73, .u), (74, .u), (75, .u), (76, .u)]) (fun g => [⟨67, 1, 0, true, ints .u64 g.2⟩]) (fun g => a.length - g.1) (0, List.replicate (a.length + b.length) 0) ?_ ?_ rfl ?_
  · exact ⟨Nat.zero_le _, List.length_replicate, u64s_zeros _, by rw [vl_zeros, vk_0, Int.zero_mul], fun j _ => getD_zeros _ j⟩
  · exact (.cons rfl (.u (.u (.u (.u (.u (.u (.u (.u (.u (.u (.u (.u (.u (.u (.u (.u (.u (.u (.u (.u (.u (.u (.u (.u (.u (.u (.u (.u (.u (.u (.u (.u (.u (.u (.u (.u (.u (.u (.u (.u (.u (.u (.u (.u (.u (.u (.u (.u (.u (.u (.u (.u (.u (.u (.u (.u (.u (.u (.u (.u (.u (.u .nil)))))))))))))))))))))))))))))))))))))))))))))))))))))))))))))))
  · rintro ⟨i, r⟩ ⟨hc1, hc2, hc3, hc4, hc5⟩
    dsimp only at hc1 hc2 hc3 hc4 hc5
    have hX := u64s_getD ua i
    refine zsr <| jo_l (ly_lt rfl rfl) (hd 23 rfl) <| jo_nil <| jc_seq ?_
    refine jc_if rfl (fun h1 => ?_) (fun h1 => ?_)
    · refine jc_skip <| jc_seq <| jc_block <| zsr <| zmv rfl (hd 24 rfl) <| jo_l (ly_ian (i := i) sl28 rfl rfl (by first | rfl | omega) (by omega)) (hd 25 rfl) <| jo_l (ly_ldq one82 rfl rfl) (hd 26 rfl) <| zas rfl (hd 6 rfl) <| zas rfl (hd 7 rfl) <| jo_nil <| jc_seq <| jc_region ?_; refine zas rfl (hd 8 rfl) <| jo_nil <| jc_seq <| zsr <| zmv rfl (hd 27 rfl) <| jo_l (ly_lenn sl28 rfl) (hd 28 rfl) <| zmv rfl (hd 29 rfl) <| jo_nil <| jc_block ?_
      refine jc_loopF (G := Nat × List Int × Int) (fun g => g.1 ≤ b.length ∧ g.2.1.length = a.length + b.length ∧ u64s g.2.1 ∧ (0 ≤ g.2.2 ∧ g.2.2 < 18446744073709551616) ∧ vl g.2.1 + g.2.2 * pB (i + g.1) = vl r + a.getD i 0 * pB i * vk b g.1 ∧ ∀ j, i + b.length ≤ j → g.2.1.getD j 0 = 0) (fun g => [(8, .i .u64 g.2.2), (29, .i .i64 (g.1 : Int)), (9, .u), (10, .u), (11, .u), (12, .u), (13, .u), (30, .u), (31, .u), (32, .u), (33, .u), (34, .u), (35, .u), (36, .u), (37, .u), (38, .u), (39, .u), (40, .u), (41, .u), (42, .u), (43, .u), (44, .u), (45, .u), (46, .u), (47, .u), (48, .u), (49, .u), (50, .u), (51, .u), (52, .u), (53, .u), (54, .u), (55, .u), (56, .u), (57, .u), (58, .u), (59, .u), (60, .u), (61, .u), (62, .u), (63, .u), (64, .u), (65, .u), (66, .u), (67, .u), (68, .u)]) (fun g => [⟨67, 1, 0, true, ints .u64 g.2.1⟩]) (fun g => b.length - g.1) (0, r, 0) ?_ ?_ rfl ?_
      · exact ⟨Nat.zero_le _, hc2, hc3, ⟨Int.le_refl 0, by show (0 : Int) < _; decide⟩, by show vl r + 0 * _ = _ + _ * vk b 0; rw [vk_0, Int.mul_zero, Int.zero_mul], hc5⟩
      · exact (.cons rfl (.cons rfl (.u (.u (.u (.u (.u (.u (.u (.u (.u (.u (.u (.u (.u (.u (.u (.u (.u (.u (.u (.u (.u (.u (.u (.u (.u (.u (.u (.u (.u (.u (.u (.u (.u (.u (.u (.u (.u (.u (.u (.u (.u (.u (.u (.u .nil))))))))))))))))))))))))))))))))))))))))))))))
      · rintro ⟨k, q, c⟩ ⟨hd1, hd2, hd3, hd4, hd5, hd6⟩
        dsimp only at hd1 hd2 hd3 hd4 hd5 hd6
        have hY := u64s_getD ub k
        have hT := u64s_getD hd3 (i + k)
        have hP := mul_bd (m := 18446744073709551615) hX.1 hY.1 (by omega) (by omega)
        have hP2 : a.getD i 0 * b.getD k 0 ≤ 340282366920938463426481119284349108225 := by have := hP.2; simpa using this
        have hst := school_step (P := a.getD i 0 * b.getD k 0) (c := c) (t := q.getD (i + k) 0) hP.1 hP2 hd4.1 hd4.2 hT.1 hT.2
        obtain ⟨hs1, hs2, hs3, hs4, hs5⟩ := hst
        refine zsr <| jo_l (ly_lt rfl rfl) (hd 30 rfl) <| jo_nil <| jc_seq ?_
        refine jc_if rfl (fun h2 => ?_) (fun h2 => ?_)
        · refine jc_skip <| jc_seq <| jc_block <| zsr <| zmv rfl (hd 31 rfl) <| jo_l (ly_ian (i := k) sl28 rfl rfl (by first | rfl | omega) (by omega)) (hd 32 rfl) <| jo_l (ly_ldq one82 rfl rfl) (hd 33 rfl) <| zas rfl (hd 9 rfl) <| zas rfl (hd 10 rfl) <| jo_nil <| jc_seq <| jc_region ?_; refine zmv rfl (hd 35 rfl) <| zmv rfl (hd 36 rfl) ?_
          refine jo_call Try.f143 (Mul64_s (a.getD i 0) (b.getD k 0) hX.1 hX.2 hY.1 hY.2) rfl Try.func143 rfl rfl (ovL_cons rfl (ovL_cons rfl ovL_nil)) (.cons .i (.cons .i .nil)) (hd 37 rfl) ?_ (fun ch hp => by simp at hp)
          rintro _ ⟨⟩; refine zmv rfl (hd 34 rfl) <| jo_l (ly_ext rfl rfl) (hd 38 rfl) <| jo_l (ly_ext rfl rfl) (hd 39 rfl) <| zas rfl (hd 11 rfl) <| zas rfl (hd 12 rfl) <| jo_nil <| zsr <| zas rfl (hd 13 rfl) <| jo_nil <| zsr <| zmv rfl (hd 41 rfl) ?_; refine zmv rfl (hd 42 rfl) <| jo_h (hy_ext3 (e := add64Entry) Try.func128 rfl rfl (by kernel_rfl) (by kernel_rfl) rfl rfl rfl (fun w => run_add64 _ _ _ (by omega) hd4.1 (by decide) (by decide) w) rel_pair) (hd 43 rfl) <| zmv rfl (hd 40 rfl) <| jo_l (ly_ext rfl rfl) (hd 44 rfl) <| jo_l (ly_ext rfl rfl) (hd 45 rfl) <| zas rfl (hd 12 rfl) <| zas rfl (hd 13 rfl) <| jo_nil <| zsr <| zmv rfl (hd 46 rfl) <| zmv rfl (hd 47 rfl) <| jo_l (ly_add rfl rfl (wrap_u64 (by omega) (by omega))) (hd 48 rfl) ?_; refine zas rfl (hd 11 rfl) <| jo_nil <| zsr <| zmv rfl (hd 50 rfl) <| zmv rfl (hd 51 rfl) <| zmv rfl (hd 52 rfl) <| jo_l (ly_add rfl rfl (r := ((i + k : Nat) : Int)) (by rw [wrap_i64 (by omega) (by omega)]; omega)) (hd 53 rfl) <| zmv rfl (hd 54 rfl) <| zmv rfl (hd 55 rfl) <| zmv rfl (hd 56 rfl) <| jo_l (ly_add rfl rfl (r := ((i + k : Nat) : Int)) (by rw [wrap_i64 (by omega) (by omega)]; omega)) (hd 57 rfl) <| jo_l (ly_ia (i := i + k) sl28 rfl rfl rfl (by first | rfl | omega) (by omega) rfl) (hd 58 rfl) ?_; refine jo_l (ly_is (ly_ldi one82 rfl rfl (by dsimp only; omega)) (show V.i .u64 (q.getD ((0 + (i + k)) * 1) 0) = V.i .u64 (q.getD (i + k) 0) by rw [Nat.zero_add, Nat.mul_one])) (hd 59 rfl) <| zmv rfl (hd 60 rfl) <| jo_h (hy_ext3 (e := add64Entry) Try.func128 rfl rfl (by kernel_rfl) (by kernel_rfl) rfl rfl rfl (fun w => run_add64 _ _ _ hT.1 (by omega) (by decide) (by decide) w) rel_pair) (hd 61 rfl) <| zmv rfl (hd 49 rfl) <| jo_l (ly_ext rfl rfl) (hd 62 rfl) <| jo_l (ly_ext rfl rfl) (hd 63 rfl) <| jo_l (ly_ia (i := i + k) sl28 rfl rfl rfl (by first | rfl | omega) (by omega) rfl) (hd 64 rfl) <| jo_st (sy_storei rfl rfl rfl one82 (by dsimp only; omega)) <| zas rfl (hd 13 rfl) <| jo_nil <| jc_region <| zmv rfl (hd 65 rfl) <| zmv rfl (hd 66 rfl) ?_; refine jo_l (ly_add rfl rfl (wrap_u64 (by omega) (by omega))) (hd 67 rfl) <| zas rfl (hd 8 rfl) <| jo_nil <| jc_region <| jo_l (ly_add rfl rfl (wrap_i64 (by omega) (by omega))) (hd 68 rfl) <| zmv rfl (hd 29 rfl) <| jo_nil ?_
          refine ⟨(k + 1, q.set ((0 + (i + k)) * 1) ((q.getD (i + k) 0 + (a.getD i 0 * b.getD k 0 % 18446744073709551616 + c + 0) % 18446744073709551616 + 0) % 18446744073709551616), a.getD i 0 * b.getD k 0 / 18446744073709551616 + (a.getD i 0 * b.getD k 0 % 18446744073709551616 + c + 0) / 18446744073709551616 + (q.getD (i + k) 0 + (a.getD i 0 * b.getD k 0 % 18446744073709551616 + c + 0) % 18446744073709551616 + 0) / 18446744073709551616), ?_, ?_, rfl, cov_n 96 rfl rfl ?_⟩
          · refine ⟨by omega, by rw [List.length_set]; exact hd2, u64s_set hd3 (by omega) (by omega), ⟨hs3, hs4⟩, ?_, fun j hj => ?_⟩
            · exact school_in (by omega) (by rw [Nat.zero_add, Nat.mul_one]) rfl hd5 hs5
            · rw [Nat.zero_add, Nat.mul_one, getD_set (by omega)]; exact hd6 j hj
          · show b.length - (k + 1) < b.length - k
            omega
          · exact (.cons rfl (.cons rfl (.u (.u (.u (.u (.u (.u (.u (.u (.u (.u (.u (.u (.u (.u (.u (.u (.u (.u (.u (.u (.u (.u (.u (.u (.u (.u (.u (.u (.u (.u (.u (.u (.u (.u (.u (.u (.u (.u (.u (.u (.u (.u (.u (.u .nil))))))))))))))))))))))))))))))))))))))))))))))
        · obtain rfl : k = b.length := by omega
          refine jc_exit <| jc_region <| zmv rfl (hd 69 rfl) <| zmv rfl (hd 70 rfl) <| zmv rfl (hd 71 rfl) <| jo_l (ly_lenn sl28 rfl) (hd 72 rfl) <| jo_l (ly_add rfl rfl (r := ((i + b.length : Nat) : Int)) (by rw [wrap_i64 (by omega) (by omega)]; omega)) (hd 73 rfl) <| zmv rfl (hd 74 rfl) <| jo_l (ly_ia (i := i + b.length) sl28 rfl rfl rfl (by first | rfl | omega) (by omega) rfl) (hd 75 rfl) <| jo_st (sy_storei rfl rfl rfl one82 (by dsimp only; omega)) <| jo_nil <| jc_region <| jo_l (ly_add rfl rfl (wrap_i64 (by omega) (by omega))) (hd 76 rfl) ?_; refine zmv rfl (hd 22 rfl) <| jo_nil ?_
          refine ⟨(i + 1, q.set ((0 + (i + b.length)) * 1) c), ?_, ?_, rfl, cov_n 129 (by kernel_rfl) (by kernel_rfl) ?_⟩
          · exact ⟨by omega, by rw [List.length_set]; exact hd2, u64s_set hd3 hd4.1 hd4.2, school_row (by omega) (hd6 _ (Nat.le_refl _)) (by rw [Nat.zero_add, Nat.mul_one]) (by rw [hd5, hc4]), fun j hj => by rw [Nat.zero_add, Nat.mul_one, getD_set (by omega)]; exact hd6 j (by omega)⟩
          · show a.length - (i + 1) < a.length - i
            omega
          · exact (.cons rfl (.u (.u (.u (.u (.u (.u (.u (.u (.u (.u (.u (.u (.u (.u (.u (.u (.u (.u (.u (.u (.u (.u (.u (.u (.u (.u (.u (.u (.u (.u (.u (.u (.u (.u (.u (.u (.u (.u (.u (.u (.u (.u (.u (.u (.u (.u (.u (.u (.u (.u (.u (.u (.u (.u (.u (.u (.u (.u (.u (.u (.u (.u .nil)))))))))))))))))))))))))))))))))))))))))))))))))))))))))))))))
    · refine jc_exit <| zsr <| zmv rfl (hd 77 rfl) <| zas rfl (hd 4 rfl) <| jo_nil <| jc_ret ?_
      refine ⟨_, _, (.cons rfl .nil), (.o (l := r) rfl (by omega) rfl), ?_⟩
      rw [List.drop_zero, List.take_of_length_le (by omega)]
      exact ⟨r, rfl, hc3, hc2, by rw [hc4, vk_all (by omega)]⟩

theorem addAt_s (r b : List Int) (n at_ : Nat) (hr : r.length = n) (hn : n < 4398046511104) (hat : at_ < 4398046511104) (hlb : b.length < 4398046511104) (ur : u64s r) (ub : u64s b) (hfit : vl r + pB at_ * vl b < pB n) : SpecM Try.prog 134 [.o 0 0 0 n, .n false .u64 b, .i .i64 (at_ : Int)] ([⟨67, 1, 0, true, ints .u64 r⟩]) (fun o H' => o = .ret (.t []) ∧ ∃ r2, H' = [⟨67, 1, 0, true, ints .u64 r2⟩] ∧ r2.length = n ∧ u64s r2 ∧ vl r2 = vl r + pB at_ * vl b) := by
  refine specM_of [(0, .o 0 0 0 n), (1, .n false .u64 b), (2, .i .i64 (at_ : Int))] rfl (1) rfl Try.func134 rfl (zlb rfl) fun Γ hN hds => ?_
  have hd := hdOf 53 hN
  refine zsr <| zas rfl (hd 6 rfl) <| jo_nil <| zsr <| zmv rfl (hd 9 rfl) <| zas rfl (hd 7 rfl) <| jo_nil <| jc_block ?_
  refine jc_loopF (G := Nat × List Int × Int) (fun g => at_ ≤ g.1 ∧ g.1 ≤ n + at_ ∧ g.2.1.length = n ∧ u64s g.2.1 ∧ vl g.2.1 + g.2.2 * pB g.1 = vl r + pB at_ * vk b (g.1 - at_) ∧ 0 ≤ g.2.2 ∧ g.2.2 ≤ 1) (fun g => [(6, .i .u64 g.2.2), (7, .i .i64 (g.1 : Int)), (8, .u), (10, .u), (11, .u), (12, .u), (13, .u), (14, .u), (15, .u), (16, .u), (17, .u), (18, .u), (19, .u), (20, .u), (21, .u), (22, .u), (23, .u), (24, .u), (25, .u), (26, .u), (27, .u), (28, .u), (29, .u), (30, .u), (31, .u), (32, .u), (33, .u), (34, .u), (35, .u), (36, .u), (37, .u), (38, .u), (39, .u), (40, .u), (41, .u), (42, .u), (43, .u), (44, .u), (45, .u), (46, .u), (47, .u), (48, .u), (49, .u), (50, .u), (51, .u), (52, .u)]) (fun g => [⟨67, 1, 0, true, ints .u64 g.2.1⟩]) (fun g => n - g.1) (at_, r, 0) ?_ ?_ rfl ?_
  · exact ⟨Nat.le_refl _, by show at_ ≤ n + at_; omega, hr, ur, by show vl r + 0 * _ = _ + _ * vk b (at_ - at_); rw [Nat.sub_self, vk_0, Int.mul_zero, Int.zero_mul], Int.le_refl 0, (by decide : (0 : Int) ≤ 1)⟩
  · exact (.cons rfl (.cons rfl (.u (.u (.u (.u (.u (.u (.u (.u (.u (.u (.u (.u (.u (.u (.u (.u (.u (.u (.u (.u (.u (.u (.u (.u (.u (.u (.u (.u (.u (.u (.u (.u (.u (.u (.u (.u (.u (.u (.u (.u (.u (.u (.u (.u .nil))))))))))))))))))))))))))))))))))))))))))))))
  · rintro ⟨i, q, c⟩ ⟨hc1, hc0, hc3, hc4, hc5, hc6, hc7⟩
    dsimp only at hc1 hc0 hc3 hc4 hc5 hc6 hc7
    have hT := u64s_getD hc4 i
    have hY := u64s_getD ub (i - at_)
    refine jc_seq <| zsr <| zmv rfl (hd 10 rfl) <| zmv rfl (hd 11 rfl) <| jo_l (ly_leno sl28 rfl rfl) (hd 12 rfl) <| jo_l (ly_lt rfl rfl) (hd 13 rfl) <| zmv rfl (hd 14 rfl) ?_
    refine jo_ifp 14 rfl (fun h1 => ?_) (fun h1 => ?_)
    · refine jo_g 14 rfl rfl (ly_mv rfl) (hd 15 rfl) <| jo_g 14 rfl rfl (ly_mv rfl) (hd 16 rfl) <| jo_g 14 rfl rfl (ly_sub rfl rfl (r := ((i - at_ : Nat) : Int)) (by rw [wrap_i64 (by omega) (by omega)]; omega)) (hd 17 rfl) <| jo_g 14 rfl rfl (ly_mv rfl) (hd 18 rfl) <| jo_g 14 rfl rfl (ly_lenn sl28 rfl) (hd 19 rfl) <| jo_g 14 rfl rfl (ly_lt rfl rfl) (hd 20 rfl) <| jo_g 14 rfl rfl (ly_mv rfl) (hd 21 rfl) ?_
      refine jo_ifp 21 rfl (fun h2 => ?_) (fun h2 => ?_)
      · refine jo_s 21 rfl rfl rfl (hd 22 rfl) <| jo_s 21 rfl rfl rfl (hd 23 rfl) <| jo_g 14 rfl rfl (ly_pick_t rfl rfl) (hd 24 rfl) <| jo_l (ly_pick_t rfl rfl) (hd 25 rfl) <| jo_nil <| jc_litt rfl <| jc_skip <| jc_seq <| jc_block <| zsr <| zas rfl (hd 8 rfl) <| jo_nil ?_
        refine jc_meetH (G := Unit) (fun _ => True) (fun _ => [(8, .i .u64 (b.getD (i - at_) 0)), (28, .u), (29, .u), (30, .u), (31, .u), (32, .u), (33, .u), (34, .u), (35, .u), (36, .u), (37, .u), (38, .u), (39, .u)]) ?_ ?_
        · refine zsr <| zmv rfl (hd 28 rfl) <| zmv rfl (hd 29 rfl) <| jo_l (ly_sub rfl rfl (r := ((i - at_ : Nat) : Int)) (by rw [wrap_i64 (by omega) (by omega)]; omega)) (hd 30 rfl) <| zmv rfl (hd 31 rfl) <| jo_l (ly_lenn sl28 rfl) (hd 32 rfl) <| jo_l (ly_lt rfl rfl) (hd 33 rfl) <| jo_nil ?_
          refine jc_if rfl (fun h4 => ?_) (fun h4 => ?_)
          · refine jc_region <| zmv rfl (hd 34 rfl) <| zmv rfl (hd 35 rfl) <| zmv rfl (hd 36 rfl) <| jo_l (ly_sub rfl rfl (r := ((i - at_ : Nat) : Int)) (by rw [wrap_i64 (by omega) (by omega)]; omega)) (hd 37 rfl) <| jo_l (ly_ian (i := i - at_) sl28 rfl rfl (by first | rfl | omega) (by first | omega | (dsimp only; omega))) (hd 38 rfl) <| jo_l (ly_ldq one82 rfl rfl) (hd 39 rfl) <| zas rfl (hd 8 rfl) <| jo_nil ?_
            refine ⟨(), ?_, rfl, cov_n 13 rfl rfl ?_⟩
            · trivial
            · exact (.cons (by first | rfl | (show some (V.i .u64 _) = some (V.i .u64 _); rw [getD_ge (by omega)])) (.u (.u (.u (.u (.u (.u (.u (.u (.u (.u (.u (.u .nil)))))))))))))
          · refine jc_skip ?_
            refine ⟨(), ?_, rfl, cov_n 6 rfl rfl ?_⟩
            · trivial
            · exact (.cons (by first | rfl | (show some (V.i .u64 _) = some (V.i .u64 _); rw [getD_ge (by omega)])) (.u (.u (.u (.u (.u (.u (.u (.u (.u (.u (.u (.u .nil)))))))))))))
        · rintro _ _; refine jc_region <| zmv rfl (hd 41 rfl) <| zmv rfl (hd 42 rfl) <| zmv rfl (hd 43 rfl) <| zmv rfl (hd 44 rfl) <| jo_l (ly_ia (i := i) sl28 rfl rfl rfl (by first | rfl | omega) (by first | omega | (dsimp only; omega)) rfl) (hd 45 rfl) <| jo_l (ly_is (ly_ldi one82 rfl rfl (by first | omega | (dsimp only; omega))) (show V.i .u64 (q.getD ((0 + i) * 1) 0) = V.i .u64 (q.getD i 0) by rw [Nat.zero_add, Nat.mul_one])) (hd 46 rfl) <| zmv rfl (hd 47 rfl) <| zmv rfl (hd 48 rfl) <| jo_h (hy_ext3 (e := add64Entry) Try.func128 rfl rfl (by kernel_rfl) (by kernel_rfl) rfl rfl rfl (fun w => run_add64 _ _ _ hT.1 hY.1 hc6 hc7 w) rel_pair) (hd 49 rfl) <| zmv rfl (hd 40 rfl) <| jo_l (ly_ext rfl rfl) (hd 50 rfl) <| jo_l (ly_ext rfl rfl) (hd 51 rfl) ?_; refine jo_l (ly_ia (i := i) sl28 rfl rfl rfl (by first | rfl | omega) (by first | omega | (dsimp only; omega)) rfl) (hd 52 rfl) <| jo_st (sy_storei rfl rfl rfl one82 (by first | omega | (dsimp only; omega))) <| zas rfl (hd 6 rfl) <| jo_nil <| jc_region <| zmv rfl (hd 26 rfl) <| jo_l (ly_add rfl rfl (wrap_i64 (by first | omega | (dsimp only; omega)) (by first | omega | (dsimp only; omega)))) (hd 27 rfl) <| zas rfl (hd 7 rfl) <| jo_nil ?_
          refine ⟨(i + 1, q.set ((0 + i) * 1) ((q.getD i 0 + b.getD (i - at_) 0 + c) % 18446744073709551616), (q.getD i 0 + b.getD (i - at_) 0 + c) / 18446744073709551616), ?_, ?_, rfl, cov_n 95 rfl rfl ?_⟩
          · exact ⟨by omega, by omega, by rw [List.length_set]; exact hc3, u64s_set hc4 (by omega) (by omega), add_in (by omega) hc1 (by rw [Nat.zero_add, Nat.mul_one]) hc5 (by dsimp only; omega), by show 0 ≤ (q.getD i 0 + b.getD (i - at_) 0 + c) / 18446744073709551616; omega, by show (q.getD i 0 + b.getD (i - at_) 0 + c) / 18446744073709551616 ≤ 1; omega⟩
          · show n - (i + 1) < n - i
            omega
          · exact (.cons rfl (.cons rfl (.u (.u (.u (.u (.u (.u (.u (.u (.u (.u (.u (.u (.u (.u (.u (.u (.u (.u (.u (.u (.u (.u (.u (.u (.u (.u (.u (.u (.u (.u (.u (.u (.u (.u (.u (.u (.u (.u (.u (.u (.u (.u (.u (.u .nil))))))))))))))))))))))))))))))))))))))))))))))
      · refine jo_g 21 rfl rfl (ly_mv rfl) (hd 22 rfl) <| jo_g 21 rfl rfl (ly_gt rfl rfl) (hd 23 rfl) <| jo_g 14 rfl rfl (ly_pick_f rfl rfl) (hd 24 rfl) <| jo_l (ly_pick_t rfl rfl) (hd 25 rfl) <| jo_nil ?_
        refine jc_if rfl (fun h5 => ?_) (fun h5 => ?_)
        · refine jc_skip <| jc_seq <| jc_block <| zsr <| zas rfl (hd 8 rfl) <| jo_nil ?_
          refine jc_meetH (G := Unit) (fun _ => True) (fun _ => [(8, .i .u64 (b.getD (i - at_) 0)), (28, .u), (29, .u), (30, .u), (31, .u), (32, .u), (33, .u), (34, .u), (35, .u), (36, .u), (37, .u), (38, .u), (39, .u)]) ?_ ?_
          · refine zsr <| zmv rfl (hd 28 rfl) <| zmv rfl (hd 29 rfl) <| jo_l (ly_sub rfl rfl (r := ((i - at_ : Nat) : Int)) (by rw [wrap_i64 (by omega) (by omega)]; omega)) (hd 30 rfl) <| zmv rfl (hd 31 rfl) <| jo_l (ly_lenn sl28 rfl) (hd 32 rfl) <| jo_l (ly_lt rfl rfl) (hd 33 rfl) <| jo_nil ?_
            refine jc_if rfl (fun h6 => ?_) (fun h6 => ?_)
            · refine jc_region <| zmv rfl (hd 34 rfl) <| zmv rfl (hd 35 rfl) <| zmv rfl (hd 36 rfl) <| jo_l (ly_sub rfl rfl (r := ((i - at_ : Nat) : Int)) (by rw [wrap_i64 (by omega) (by omega)]; omega)) (hd 37 rfl) <| jo_l (ly_ian (i := i - at_) sl28 rfl rfl (by first | rfl | omega) (by first | omega | (dsimp only; omega))) (hd 38 rfl) <| jo_l (ly_ldq one82 rfl rfl) (hd 39 rfl) <| zas rfl (hd 8 rfl) <| jo_nil ?_
              refine ⟨(), ?_, rfl, cov_n 13 rfl rfl ?_⟩
              · trivial
              · exact (.cons (by first | rfl | (show some (V.i .u64 _) = some (V.i .u64 _); rw [getD_ge (by omega)])) (.u (.u (.u (.u (.u (.u (.u (.u (.u (.u (.u (.u .nil)))))))))))))
            · refine jc_skip ?_
              refine ⟨(), ?_, rfl, cov_n 6 rfl rfl ?_⟩
              · trivial
              · exact (.cons (by first | rfl | (show some (V.i .u64 _) = some (V.i .u64 _); rw [getD_ge (by omega)])) (.u (.u (.u (.u (.u (.u (.u (.u (.u (.u (.u (.u .nil)))))))))))))
          · rintro _ _; refine jc_region <| zmv rfl (hd 41 rfl) <| zmv rfl (hd 42 rfl) <| zmv rfl (hd 43 rfl) <| zmv rfl (hd 44 rfl) <| jo_l (ly_ia (i := i) sl28 rfl rfl rfl (by first | rfl | omega) (by first | omega | (dsimp only; omega)) rfl) (hd 45 rfl) <| jo_l (ly_is (ly_ldi one82 rfl rfl (by first | omega | (dsimp only; omega))) (show V.i .u64 (q.getD ((0 + i) * 1) 0) = V.i .u64 (q.getD i 0) by rw [Nat.zero_add, Nat.mul_one])) (hd 46 rfl) <| zmv rfl (hd 47 rfl) <| zmv rfl (hd 48 rfl) <| jo_h (hy_ext3 (e := add64Entry) Try.func128 rfl rfl (by kernel_rfl) (by kernel_rfl) rfl rfl rfl (fun w => run_add64 _ _ _ hT.1 hY.1 hc6 hc7 w) rel_pair) (hd 49 rfl) <| zmv rfl (hd 40 rfl) <| jo_l (ly_ext rfl rfl) (hd 50 rfl) <| jo_l (ly_ext rfl rfl) (hd 51 rfl) ?_; refine jo_l (ly_ia (i := i) sl28 rfl rfl rfl (by first | rfl | omega) (by first | omega | (dsimp only; omega)) rfl) (hd 52 rfl) <| jo_st (sy_storei rfl rfl rfl one82 (by first | omega | (dsimp only; omega))) <| zas rfl (hd 6 rfl) <| jo_nil <| jc_region <| zmv rfl (hd 26 rfl) <| jo_l (ly_add rfl rfl (wrap_i64 (by first | omega | (dsimp only; omega)) (by first | omega | (dsimp only; omega)))) (hd 27 rfl) <| zas rfl (hd 7 rfl) <| jo_nil ?_
            refine ⟨(i + 1, q.set ((0 + i) * 1) ((q.getD i 0 + b.getD (i - at_) 0 + c) % 18446744073709551616), (q.getD i 0 + b.getD (i - at_) 0 + c) / 18446744073709551616), ?_, ?_, rfl, cov_n 95 rfl rfl ?_⟩
            · exact ⟨by omega, by omega, by rw [List.length_set]; exact hc3, u64s_set hc4 (by omega) (by omega), add_in (by omega) hc1 (by rw [Nat.zero_add, Nat.mul_one]) hc5 (by dsimp only; omega), by show 0 ≤ (q.getD i 0 + b.getD (i - at_) 0 + c) / 18446744073709551616; omega, by show (q.getD i 0 + b.getD (i - at_) 0 + c) / 18446744073709551616 ≤ 1; omega⟩
            · show n - (i + 1) < n - i
              omega
            · exact (.cons rfl (.cons rfl (.u (.u (.u (.u (.u (.u (.u (.u (.u (.u (.u (.u (.u (.u (.u (.u (.u (.u (.u (.u (.u (.u (.u (.u (.u (.u (.u (.u (.u (.u (.u (.u (.u (.u (.u (.u (.u (.u (.u (.u (.u (.u (.u (.u .nil))))))))))))))))))))))))))))))))))))))))))))))
        · refine jc_exit ?_
          refine ⟨_, .nil, rfl, (.cons ints_id .nil), ?_⟩
          exact ⟨rfl, q, rfl, hc3, hc4, add_end hc4 ur ub hc6 hc1 hfit (by dsimp only at *; first | (left; omega) | (right; omega)) hc5⟩
    · refine jo_s 14 rfl rfl rfl (hd 15 rfl) <| jo_s 14 rfl rfl rfl (hd 16 rfl) <| jo_s 14 rfl rfl rfl (hd 17 rfl) <| jo_s 14 rfl rfl rfl (hd 18 rfl) <| jo_s 14 rfl rfl rfl (hd 19 rfl) <| jo_s 14 rfl rfl rfl (hd 20 rfl) <| jo_s 14 rfl rfl rfl (hd 21 rfl) <| jo_s' 21 rfl rfl (hd 22 rfl) <| jo_s' 21 rfl rfl (hd 23 rfl) <| jo_s 14 rfl rfl rfl (hd 24 rfl) <| jo_l (ly_pick_f rfl rfl) (hd 25 rfl) <| jo_nil <| jc_litf rfl ?_; refine jc_exit ?_
      refine ⟨_, .nil, rfl, (.cons ints_id .nil), ?_⟩
      exact ⟨rfl, q, rfl, hc3, hc4, add_end hc4 ur ub hc6 hc1 hfit (by dsimp only at *; first | (left; omega) | (right; omega)) hc5⟩

theorem sum_s (a b : List Int) (hla : a.length < 1099511627776) (hlb : b.length < 1099511627776) (ua : u64s a) (ub : u64s b) : Spec Try.prog 137 [.n false .u64 a, .n false .u64 b] (fun o => ∃ r, o = .ret (.n true .u64 r) ∧ u64s r ∧ r.length = max a.length b.length + 1 ∧ vl r = vl a + vl b) := by
  refine spec_of' [(0, .n false .u64 a), (1, .n false .u64 b)] rfl Try.func137 rfl (zlb rfl) fun Γ hN hds hL hR => ?_
  have hd := hdOf 20 hN
  have hl0 : (a ++ (List.replicate (max a.length b.length + 1) 0).drop a.length).length = max a.length b.length + 1 := by simp; omega
  have hv0 : vl (a ++ (List.replicate (max a.length b.length + 1) (0 : Int)).drop a.length) = vl a := by rw [vl_app, List.drop_replicate, vl_zeros, Int.mul_zero, Int.add_zero]
  have hfa := vl_lt ua
  have hfb := vl_lt ub
  have hpa := pB_mono (show a.length ≤ max a.length b.length by omega)
  have hpb := pB_mono (show b.length ≤ max a.length b.length by omega)
  have hpp := pB_pos (max a.length b.length)
  refine zsr <| zas rfl (hd 4 rfl) <| jo_nil <| zsr <| zmv rfl (hd 6 rfl) <| jo_l (ly_lenn sl28 rfl) (hd 7 rfl) <| zmv rfl (hd 8 rfl) <| jo_l (ly_lenn sl28 rfl) (hd 9 rfl) <| jo_l (ly_max rfl rfl) (hd 10 rfl) <| jo_l (ly_add rfl rfl (r := ((max a.length b.length + 1 : Nat) : Int)) (by rw [wrap_i64 (by omega) (by omega)]; omega)) (hd 11 rfl) <| jo_h (hy_mk (m := max a.length b.length + 1) el28 rfl rfl rfl (by show 8 * (max a.length b.length + 1) ≤ _; omega) (by unfold maxLen; omega) rfl) (hd 12 rfl) ?_; refine zas rfl (hd 5 rfl) <| jo_nil <| zsr <| zmv rfl (hd 13 rfl) <| zmv rfl (hd 14 rfl) <| jo_copy undS28 siz82m rfl rfl List.length_replicate rfl (by omega) (hd 15 rfl) <| jo_nil <| zsr <| zmv rfl (hd 16 rfl) <| zmv rfl (hd 17 rfl) ?_
  refine jo_callM Try.f134 (addAt_s (a ++ (List.replicate (max a.length b.length + 1) 0).drop a.length) b (max a.length b.length + 1) 0 hl0 (by omega) (by omega) (by omega) (u64s_app ua (u64s_drop (u64s_zeros _) _)) ub (by rw [hv0]; simp only [pB, Int.one_mul]; have : Bs = 18446744073709551616 := rfl; rw [this]; omega)) rfl Try.func134 rfl rfl (ovL_cons rfl (ovL_cons rfl (ovL_cons rfl ovL_nil))) (.cons (.same rfl) (.cons .n (.cons (.same rfl) .nil))) (freshless_cons ints_noFr freshless_nil) (hd 18 rfl) ?_ (fun ch H2 hp => by simp at hp)
  rintro y H2 ⟨hy, r2, rfl, hl2, hu2, hv2⟩; injection hy with hy; subst hy; refine jo_nil <| zsr <| zmv rfl (hd 19 rfl) <| zas rfl (hd 4 rfl) <| jo_nil <| jc_ret ?_
  refine ⟨_, _, (.cons rfl .nil), (.o (l := r2) rfl (by omega) rfl), ?_⟩
  rw [List.drop_zero, List.take_of_length_le (by omega)]
  exact ⟨r2, rfl, hu2, hl2, by rw [hv2, hv0]; simp only [pB, Int.one_mul]⟩

theorem less_s (a b : List Int) (hla : a.length < 1099511627776) (hlb : b.length < 1099511627776) (ua : u64s a) (ub : u64s b) (hle : vl b ≤ vl a) : Spec Try.prog 136 [.n false .u64 a, .n false .u64 b] (fun o => ∃ r, o = .ret (.n true .u64 r) ∧ u64s r ∧ r.length = a.length ∧ vl r = vl a - vl b) := by
  refine spec_of' [(0, .n false .u64 a), (1, .n false .u64 b)] rfl Try.func136 rfl (zlb rfl) fun Γ hN hds hL hR => ?_
  have hd := hdOf 43 hN
  refine zsr <| zas rfl (hd 4 rfl) <| jo_nil <| zsr <| zmv rfl (hd 9 rfl) <| jo_l (ly_lenn sl28 rfl) (hd 10 rfl) <| jo_h (hy_mk (m := a.length) el28 rfl rfl rfl (by show 8 * a.length ≤ _; omega) (by unfold maxLen; omega) rfl) (hd 11 rfl) <| zas rfl (hd 5 rfl) <| jo_nil <| jc_seq <| jc_region ?_; refine zmv rfl (hd 12 rfl) <| zmv rfl (hd 13 rfl) <| jo_copy undS28 siz82m rfl rfl List.length_replicate rfl (Nat.le_refl _) (hd 14 rfl) <| jo_nil <| zsr <| zas rfl (hd 6 rfl) <| jo_nil <| jc_seq <| jc_seq <| jc_H (H' := [⟨67, 1, 0, true, ints .u64 ((sbN a b 0).1 ++ a.drop 0)⟩]) (by show [(⟨67, 1, 0, true, ints .u64 (a ++ (List.replicate a.length 0).drop a.length)⟩ : Ob)] = _; rw [List.drop_eq_nil_of_le (by simp), List.append_nil]; rfl) <| jc_region <| zmv rfl (hd 15 rfl) ?_; refine jo_l (ly_leno sl28 rfl rfl) (hd 16 rfl) <| zmv rfl (hd 17 rfl) <| jo_nil <| jc_block ?_
  refine jc_loopF (G := Nat) (fun i => i ≤ a.length) (fun i => [(6, .i .u64 (sbN a b i).2), (17, .i .i64 (i : Int)), (7, .u), (8, .u), (18, .u), (19, .u), (20, .u), (21, .u), (22, .u), (23, .u), (24, .u), (25, .u), (26, .u), (27, .u), (28, .u), (29, .u), (30, .u), (31, .u), (32, .u), (33, .u), (34, .u), (35, .u), (36, .u), (37, .u), (38, .u), (39, .u), (40, .u), (41, .u)]) (fun i => [⟨67, 1, 0, true, ints .u64 ((sbN a b i).1 ++ a.drop i)⟩]) (fun i => a.length - i) 0 ?_ ?_ rfl ?_
  · exact Nat.zero_le _
  · exact (.cons rfl (.cons rfl (.u (.u (.u (.u (.u (.u (.u (.u (.u (.u (.u (.u (.u (.u (.u (.u (.u (.u (.u (.u (.u (.u (.u (.u (.u (.u .nil))))))))))))))))))))))))))))
  · rintro i hc1
    have hf := sub_len (b := b) hc1
    have hc := sbN_c a b i
    have hx := u64s_getD ua i
    have hy := u64s_getD ub i
    refine zsr <| jo_l (ly_lt rfl rfl) (hd 18 rfl) <| jo_nil <| jc_seq ?_
    refine jc_if rfl (fun h1 => ?_) (fun h1 => ?_)
    · refine jc_skip <| jc_seq <| jc_block <| zsr <| zmv rfl (hd 19 rfl) <| zas rfl (hd 7 rfl) <| jo_nil <| zsr <| zas rfl (hd 8 rfl) <| jo_nil ?_
      refine jc_meetH (G := Unit) (fun _ => True) (fun _ => [(8, .i .u64 (b.getD i 0)), (20, .u), (21, .u), (22, .u), (23, .u), (24, .u), (25, .u), (26, .u), (27, .u)]) ?_ ?_
      · refine zsr <| zmv rfl (hd 20 rfl) <| zmv rfl (hd 21 rfl) <| jo_l (ly_lenn sl28 rfl) (hd 22 rfl) <| jo_l (ly_lt rfl rfl) (hd 23 rfl) <| jo_nil ?_
        refine jc_if rfl (fun h2 => ?_) (fun h2 => ?_)
        · refine jc_region <| zmv rfl (hd 24 rfl) <| zmv rfl (hd 25 rfl) <| jo_l (ly_ian (i := i) sl28 rfl rfl (by first | rfl | omega) (by omega)) (hd 26 rfl) <| jo_l (ly_ldq one82 rfl rfl) (hd 27 rfl) <| zas rfl (hd 8 rfl) <| jo_nil ?_
          refine ⟨(), ?_, rfl, cov_n 9 rfl rfl ?_⟩
          · trivial
          · exact (.cons (by first | rfl | (show some (V.i .u64 _) = some (V.i .u64 _); rw [getD_ge (by omega)])) (.u (.u (.u (.u (.u (.u (.u (.u .nil)))))))))
        · refine jc_skip ?_
          refine ⟨(), ?_, rfl, cov_n 4 rfl rfl ?_⟩
          · trivial
          · exact (.cons (by first | rfl | (show some (V.i .u64 _) = some (V.i .u64 _); rw [getD_ge (by omega)])) (.u (.u (.u (.u (.u (.u (.u (.u .nil)))))))))
      · rintro _ _; refine jc_region <| zmv rfl (hd 29 rfl) <| zmv rfl (hd 30 rfl) <| zmv rfl (hd 31 rfl) <| zmv rfl (hd 32 rfl) <| jo_l (ly_ia (i := i) sl28 rfl rfl rfl (by first | rfl | omega) (by omega) rfl) (hd 33 rfl) <| jo_l (ly_is (ly_ldi one82 rfl rfl (by omega)) (show V.i .u64 (((sbN a b i).1 ++ a.drop i).getD ((0 + i) * 1) 0) = V.i .u64 (a.getD i 0) by rw [Nat.zero_add, Nat.mul_one, sub_at (by omega)])) (hd 34 rfl) <| zmv rfl (hd 35 rfl) <| zmv rfl (hd 36 rfl) <| jo_h (hy_ext3 (e := sub64Entry) Try.func130 rfl rfl (by kernel_rfl) (by kernel_rfl) rfl rfl rfl (fun w => run_sub64 _ _ _ hx.1 hx.2 hy.1 hy.2 hc.1 hc.2 w) rel_pair) (hd 37 rfl) <| zmv rfl (hd 28 rfl) <| jo_l (ly_ext rfl rfl) (hd 38 rfl) <| jo_l (ly_ext rfl rfl) (hd 39 rfl) ?_; refine jo_l (ly_ia (i := i) sl28 rfl rfl rfl (by first | rfl | omega) (by omega) rfl) (hd 40 rfl) <| jo_st (sy_storei rfl rfl rfl one82 (by omega)) <| zas rfl (hd 6 rfl) <| jo_nil <| jc_region <| jo_l (ly_add rfl rfl (wrap_i64 (by omega) (by omega))) (hd 41 rfl) <| zmv rfl (hd 17 rfl) <| jo_nil ?_
        refine ⟨i + 1, ?_, ?_, (by show [(⟨67, 1, 0, true, ints .u64 _⟩ : Ob)] = [⟨67, 1, 0, true, ints .u64 _⟩]; rw [sub_fill (by omega)]), cov_n 57 rfl rfl ?_⟩
        · omega
        · omega
        · exact (.cons rfl (.cons rfl (.u (.u (.u (.u (.u (.u (.u (.u (.u (.u (.u (.u (.u (.u (.u (.u (.u (.u (.u (.u (.u (.u (.u (.u (.u (.u .nil))))))))))))))))))))))))))))
    · obtain rfl : i = a.length := by omega
      refine jc_exit <| zsr <| zmv rfl (hd 42 rfl) <| zas rfl (hd 4 rfl) <| jo_nil <| jc_ret ?_
      refine ⟨_, _, (.cons rfl .nil), (.o (l := (sbN a b a.length).1 ++ a.drop a.length) rfl (by omega) rfl), ?_⟩
      rw [List.drop_zero, List.take_of_length_le (by omega), List.drop_eq_nil_of_le (Nat.le_refl _), List.append_nil]
      exact ⟨_, rfl, sbN_u ua ub _, sbN_len a b _, vl_sub ua ub hle⟩

theorem part_s (l : List Int) (f t : Nat) (hl : l.length < 4398046511104) (hft : f ≤ t) (hf : t < 4398046511104) (ul : u64s l) : Spec Try.prog 135 [.n false .u64 l, .i .i64 (f : Int), .i .i64 (t : Int)] (fun o => ∃ r, o = .ret (.n false .u64 r) ∧ u64s r ∧ r.length ≤ min t l.length - min f l.length ∧ vl r = vl ((l.take t).drop f)) := by
  refine spec_of' [(0, .n false .u64 l), (1, .i .i64 (f : Int)), (2, .i .i64 (t : Int))] rfl Try.func135 rfl (zlb rfl) fun Γ hN hds hL hR => ?_
  have hd := hdOf 32 hN
  refine zsr <| zas rfl (hd 6 rfl) <| jo_nil <| zsr <| zmv rfl (hd 7 rfl) <| zmv rfl (hd 8 rfl) <| jo_l (ly_lenn sl28 rfl) (hd 9 rfl) <| jo_l (ly_is (ly_min rfl rfl) (show V.i .i64 (min (f : Int) (l.length : Int)) = V.i .i64 ((min f l.length : Nat) : Int) by congr 1; omega)) (hd 10 rfl) <| zmv rfl (hd 11 rfl) <| zmv rfl (hd 12 rfl) <| jo_l (ly_lenn sl28 rfl) (hd 13 rfl) ?_; refine jo_l (ly_is (ly_min rfl rfl) (show V.i .i64 (min (t : Int) (l.length : Int)) = V.i .i64 ((min t l.length : Nat) : Int) by congr 1; omega)) (hd 14 rfl) <| zas rfl (hd 1 rfl) <| zas rfl (hd 2 rfl) <| jo_nil <| jc_seq <| jc_block ?_
  refine jc_loopF (G := Nat) (fun k => min f l.length ≤ k ∧ k ≤ min t l.length ∧ vl ((l.take k).drop (min f l.length)) = vl ((l.take t).drop f)) (fun k => [(2, .i .i64 (k : Int)), (15, .u), (16, .u), (17, .u), (18, .u), (19, .u), (20, .u), (21, .u), (22, .u), (23, .u), (24, .u), (25, .u), (26, .u), (27, .u)]) (fun _ => _) (fun k => k) (min t l.length) ?_ ?_ rfl ?_
  · exact ⟨by omega, Nat.le_refl _, by rw [part_all hft]⟩
  · exact (.cons rfl (.u (.u (.u (.u (.u (.u (.u (.u (.u (.u (.u (.u (.u .nil))))))))))))))
  · rintro k ⟨hc1, hc2, hc3⟩; refine jc_seq <| zsr <| zmv rfl (hd 15 rfl) <| zmv rfl (hd 16 rfl) <| jo_l (ly_gt rfl rfl) (hd 17 rfl) <| zmv rfl (hd 18 rfl) ?_
    refine jo_ifp 18 rfl (fun h1 => ?_) (fun h1 => ?_)
    · refine jo_g 18 rfl rfl (ly_mv rfl) (hd 19 rfl) <| jo_g 18 rfl rfl (ly_mv rfl) (hd 20 rfl) <| jo_g 18 rfl rfl (ly_sub rfl rfl (wrap_i64 (by omega) (by omega))) (hd 21 rfl) <| jo_g 18 rfl rfl (ly_ian (i := k - 1) sl28 rfl rfl (by omega) (by omega)) (hd 22 rfl) <| jo_g 18 rfl rfl (ly_ldq one82 rfl rfl) (hd 23 rfl) <| jo_g 18 rfl rfl (ly_eq rfl rfl) (hd 24 rfl) <| jo_l (ly_pick_t rfl rfl) (hd 25 rfl) <| jo_nil ?_
      refine jc_if rfl (fun h2 => ?_) (fun h2 => ?_)
      · refine jc_skip <| jc_block <| jc_region <| zmv rfl (hd 26 rfl) <| jo_l (ly_sub rfl rfl (wrap_i64 (by omega) (by omega))) (hd 27 rfl) <| zas rfl (hd 2 rfl) <| jo_nil ?_
        refine ⟨k - 1, ?_, ?_, rfl, cov_n 29 rfl rfl ?_⟩
        · exact ⟨by omega, by omega, by rw [part_step (by omega) (by omega) (by assumption)]; exact hc3⟩
        · omega
        · exact (.cons (by show some (V.i .i64 _) = some (V.i .i64 _); congr 2; omega) (.u (.u (.u (.u (.u (.u (.u (.u (.u (.u (.u (.u (.u .nil))))))))))))))
      · refine jc_exit <| zsr <| zmv rfl (hd 28 rfl) <| zmv rfl (hd 29 rfl) <| zmv rfl (hd 30 rfl) <| jo_l (ly_sln sl28 rfl (bnd_some' rfl rfl) (bnd_some' rfl rfl) (.inl rfl) (by omega) (by omega)) (hd 31 rfl) <| zas rfl (hd 6 rfl) <| jo_nil <| jc_ret ?_
        refine ⟨_, _, (.cons rfl .nil), .n, ?_⟩
        exact ⟨_, rfl, u64s_drop (u64s_take ul _) _, by rw [List.length_drop, List.length_take]; omega, hc3⟩
    · refine jo_s 18 rfl rfl rfl (hd 19 rfl) <| jo_s 18 rfl rfl rfl (hd 20 rfl) <| jo_s 18 rfl rfl rfl (hd 21 rfl) <| jo_s 18 rfl rfl rfl (hd 22 rfl) <| jo_s 18 rfl rfl rfl (hd 23 rfl) <| jo_s 18 rfl rfl rfl (hd 24 rfl) <| jo_l (ly_pick_f rfl rfl) (hd 25 rfl) <| jo_nil <| jc_litf rfl <| jc_exit <| zsr <| zmv rfl (hd 28 rfl) ?_; refine zmv rfl (hd 29 rfl) <| zmv rfl (hd 30 rfl) <| jo_l (ly_sln sl28 rfl (bnd_some' rfl rfl) (bnd_some' rfl rfl) (.inl rfl) (by omega) (by omega)) (hd 31 rfl) <| zas rfl (hd 6 rfl) <| jo_nil <| jc_ret ?_
      refine ⟨_, _, (.cons rfl .nil), .n, ?_⟩
      exact ⟨_, rfl, u64s_drop (u64s_take ul _) _, by rw [List.length_drop, List.length_take]; omega, hc3⟩

theorem halved_ih (cut : Nat) (hc4 : 4 ≤ cut) (hcm : cut < 1099511627776) (a b : List Int) (hla : a.length < 549755813888) (hlb : b.length < 549755813888) (ua : u64s a) (ub : u64s b) (ih : ∀ a' b' : List Int, a'.length + b'.length < a.length + b.length → a'.length < 549755813888 → b'.length < 549755813888 → u64s a' → u64s b' → Spec Try.prog 109 [.n false .u64 a', .n false .u64 b', .i .i64 (cut : Int)] (fun o => ∃ r, o = .ret (.n true .u64 r) ∧ u64s r ∧ r.length ≤ a'.length + b'.length + 1 ∧ vl r = vl a' * vl b')) : Spec Try.prog 109 [.n false .u64 a, .n false .u64 b, .i .i64 (cut : Int)] (fun o => ∃ r, o = .ret (.n true .u64 r) ∧ u64s r ∧ r.length ≤ a.length + b.length + 1 ∧ vl r = vl a * vl b) := by
  refine spec_of' [(0, .n false .u64 a), (1, .n false .u64 b), (2, .i .i64 (cut : Int))] rfl Try.func109 rfl (zlb rfl) fun Γ hN hds hL hR => ?_
  have hd := hdOf 124 hN
  refine zsr <| zas rfl (hd 6 rfl) <| jo_nil ?_
  refine jc_meetH (G := List Int × List Int) (fun g => g.2.length ≤ g.1.length ∧ g.1.length + g.2.length = a.length + b.length ∧ u64s g.1 ∧ u64s g.2 ∧ vl g.1 * vl g.2 = vl a * vl b ∧ g.1.length < 549755813888 ∧ g.2.length < 549755813888) (fun g => [(0, .n false .u64 g.1), (1, .n false .u64 g.2), (17, .u), (18, .u), (19, .u), (20, .u), (21, .u), (22, .u), (23, .u)]) ?_ ?_
  · refine zsr <| zmv rfl (hd 17 rfl) <| jo_l (ly_lenn sl28 rfl) (hd 18 rfl) <| zmv rfl (hd 19 rfl) <| jo_l (ly_lenn sl28 rfl) (hd 20 rfl) <| jo_l (ly_lt rfl rfl) (hd 21 rfl) <| jo_nil ?_
    refine jc_if rfl (fun h1 => ?_) (fun h1 => ?_)
    · refine jc_region <| zmv rfl (hd 22 rfl) <| zmv rfl (hd 23 rfl) <| zas rfl (hd 0 rfl) <| zas rfl (hd 1 rfl) <| jo_nil ?_
      refine ⟨(b, a), ?_, rfl, cov_n 9 rfl rfl ?_⟩
      · exact ⟨by show a.length ≤ b.length; omega, by show b.length + a.length = _; omega, ub, ua, by show vl b * vl a = _; rw [Int.mul_comm], hlb, hla⟩
      · exact (.cons rfl (.cons rfl (.u (.u (.u (.u (.u (.u (.u .nil)))))))))
    · refine jc_skip ?_
      refine ⟨(a, b), ?_, rfl, cov_n 5 rfl rfl ?_⟩
      · exact ⟨by show b.length ≤ a.length; omega, rfl, ua, ub, rfl, hla, hlb⟩
      · exact (.cons rfl (.cons rfl (.u (.u (.u (.u (.u (.u (.u .nil)))))))))
  · rintro ⟨X, Y⟩ ⟨hm1, hm2, uX, uY, hm3, hX, hY⟩
    dsimp only at hm1 hm2 uX uY hm3 hX hY ⊢
    have hXY := vl_mul_lt uX uY
    have hXY2 := pB_mono (show X.length + Y.length ≤ X.length + Y.length + 1 by omega)
    have x0 := vl_nonneg uX
    have y0 := vl_nonneg uY
    refine jc_seq <| zsr <| zmv rfl (hd 24 rfl) <| jo_l (ly_lenn sl28 rfl) (hd 25 rfl) <| zmv rfl (hd 26 rfl) <| jo_l (ly_lt rfl rfl) (hd 27 rfl) <| jo_nil ?_
    refine jc_if rfl (fun h2 => ?_) (fun h2 => ?_)
    · refine zsr <| zmv rfl (hd 28 rfl) <| zmv rfl (hd 29 rfl) ?_
      refine jo_call Try.f133 (school_s X Y (by omega) (by omega) uX uY) rfl Try.func133 rfl rfl (ovL_cons rfl (ovL_cons rfl ovL_nil)) (.cons .n (.cons .n .nil)) (hd 30 rfl) ?_ (fun ch hp => by simp at hp)
      rintro y ⟨rs, hy, urs, lrs, vrs⟩; injection hy with hy; subst hy; refine zas rfl (hd 6 rfl) <| jo_nil <| jc_ret ?_
      refine ⟨_, _, (.cons rfl .nil), .n, ?_⟩
      exact ⟨rs, rfl, urs, by omega, by rw [vrs, hm3]⟩
    · refine jc_skip <| jc_seq ?_
      obtain ⟨k, hk⟩ : ∃ k, (X.length + 1) / 2 = k := ⟨_, rfl⟩
      have pk := pB_pos k
      refine jc_region <| zmv rfl (hd 31 rfl) <| jo_l (ly_lenn sl28 rfl) (hd 32 rfl) <| jo_l (ly_add rfl rfl (r := ((X.length + 1 : Nat) : Int)) (by rw [wrap_i64 (by omega) (by omega)]; omega)) (hd 33 rfl) <| jo_l (ly_quo rfl rfl (by decide) (r := (k : Int)) (by show IntKind.i64.wrap (Int.tdiv ((X.length + 1 : Nat) : Int) 2) = _; rw [half_k (by omega), hk])) (hd 34 rfl) <| zas rfl (hd 7 rfl) <| jo_nil <| jc_seq <| zsr <| zmv rfl (hd 35 rfl) <| jo_l (ly_lenn sl28 rfl) (hd 36 rfl) <| zmv rfl (hd 37 rfl) ?_; refine jo_l (ly_le rfl rfl) (hd 38 rfl) <| jo_nil ?_
      refine jc_if rfl (fun h3 => ?_) (fun h3 => ?_)
      · refine zsr <| zmv rfl (hd 39 rfl) <| jo_l (ly_lenn sl28 rfl) (hd 40 rfl) <| zmv rfl (hd 41 rfl) <| jo_l (ly_lenn sl28 rfl) (hd 42 rfl) <| jo_l (ly_add rfl rfl (r := ((X.length + Y.length : Nat) : Int)) (by rw [wrap_i64 (by omega) (by omega)]; omega)) (hd 43 rfl) <| jo_l (ly_add rfl rfl (r := ((X.length + Y.length + 1) : Nat)) (by rw [wrap_i64 (by omega) (by omega)]; omega)) (hd 44 rfl) <| jo_h (hy_mk (m := (X.length + Y.length + 1)) el28 rfl rfl rfl (by show 8 * (X.length + Y.length + 1) ≤ _; omega) (by unfold maxLen; omega) rfl) (hd 45 rfl) <| zas rfl (hd 8 rfl) <| jo_nil <| jc_seq <| jc_region ?_; refine zmv rfl (hd 46 rfl) <| zmv rfl (hd 47 rfl) <| zmv rfl (hd 48 rfl) ?_
        refine jo_call Try.f135 (part_s X 0 k (by omega) (by omega) (by omega) uX) rfl Try.func135 rfl rfl (ovL_cons rfl (ovL_cons rfl (ovL_cons rfl ovL_nil))) (.cons .n (.cons .i (.cons .i .nil))) (hd 49 rfl) ?_ (fun ch hp => by simp at hp)
        rintro y ⟨al, hy, ual, lal, val⟩; injection hy with hy; subst hy; refine zmv rfl (hd 50 rfl) <| zmv rfl (hd 51 rfl) ?_
        refine jo_call Try.f109 (ih al Y (by omega) (by omega) (by omega) ual uY) rfl Try.func109 rfl rfl (ovL_cons rfl (ovL_cons rfl (ovL_cons rfl ovL_nil))) (.cons .n (.cons .n (.cons .i .nil))) (hd 52 rfl) ?_ (fun ch hp => by simp at hp)
        rintro y ⟨p1, hy, up1, lp1, vp1⟩; injection hy with hy; subst hy
        have a0 := vl_nonneg ual
        refine jo_callM Try.f134 (addAt_s (List.replicate (X.length + Y.length + 1) 0) p1 (X.length + Y.length + 1) 0 List.length_replicate (by omega) (by omega) (by omega) (u64s_zeros _) up1 (by
            have h1 := split_val (l := X) k
            rw [← val] at h1
            have h2 := vl_nonneg (u64s_drop (u64s_take uX X.length) k)
            have h3 := Int.mul_nonneg (Int.le_of_lt pk) h2
            have h4 := Int.mul_le_mul_of_nonneg_right (show vl al ≤ vl X by omega) y0
            rw [vl_zeros, vp1]; simp only [pB, Int.one_mul, Int.zero_add] at *; omega)) rfl Try.func134 rfl rfl (ovL_cons rfl (ovL_cons rfl (ovL_cons rfl ovL_nil))) (.cons (.same rfl) (.cons .n (.cons (.same rfl) .nil))) (freshless_cons ints_noFr freshless_nil) (hd 53 rfl) ?_ (fun ch H2 hp => by simp at hp)
        rintro y H2 ⟨hy, r1, rfl, lr1, ur1, vr1⟩; injection hy with hy; subst hy; refine jo_nil <| zsr <| zmv rfl (hd 54 rfl) <| zmv rfl (hd 55 rfl) <| zmv rfl (hd 56 rfl) <| zmv rfl (hd 57 rfl) <| jo_l (ly_lenn sl28 rfl) (hd 58 rfl) ?_
        refine jo_call Try.f135 (part_s X k X.length (by omega) (by omega) (by omega) uX) rfl Try.func135 rfl rfl (ovL_cons rfl (ovL_cons rfl (ovL_cons rfl ovL_nil))) (.cons .n (.cons .i (.cons .i .nil))) (hd 59 rfl) ?_ (fun ch hp => by simp at hp)
        rintro y ⟨ah, hy, uah, lah, vah⟩; injection hy with hy; subst hy; refine zmv rfl (hd 60 rfl) <| zmv rfl (hd 61 rfl) ?_
        refine jo_call Try.f109 (ih ah Y (by omega) (by omega) (by omega) uah uY) rfl Try.func109 rfl rfl (ovL_cons rfl (ovL_cons rfl (ovL_cons rfl ovL_nil))) (.cons .n (.cons .n (.cons .i .nil))) (hd 62 rfl) ?_ (fun ch hp => by simp at hp)
        rintro y ⟨p2, hy, up2, lp2, vp2⟩; injection hy with hy; subst hy
        have hv : vl r1 + pB k * vl p2 = vl X * vl Y := by
          have h1 := split_val (l := X) k
          rw [← val, ← vah] at h1
          rw [vr1, vp1, vp2, vl_zeros, ← h1, Int.add_mul, Int.mul_assoc (pB k)]
          simp only [pB, Int.one_mul, Int.zero_add]
        refine zmv rfl (hd 63 rfl) ?_
        refine jo_callM Try.f134 (addAt_s r1 p2 (X.length + Y.length + 1) k lr1 (by omega) (by omega) (by omega) ur1 up2 (by rw [hv]; omega)) rfl Try.func134 rfl rfl (ovL_cons rfl (ovL_cons rfl (ovL_cons rfl ovL_nil))) (.cons (.same rfl) (.cons .n (.cons (.same rfl) .nil))) (freshless_cons ints_noFr freshless_nil) (hd 64 rfl) ?_ (fun ch H2 hp => by simp at hp)
        rintro y H2 ⟨hy, rf, rfl, lrf, urf, vrf⟩; injection hy with hy; subst hy; refine jo_nil <| zsr <| zmv rfl (hd 65 rfl) <| zas rfl (hd 6 rfl) <| jo_nil <| jc_ret ?_
        refine ⟨_, _, (.cons rfl .nil), (.o (l := rf) rfl (by omega) rfl), ?_⟩
        rw [List.drop_zero, List.take_of_length_le (by omega)]
        exact ⟨rf, rfl, urf, by omega, by rw [vrf, hv, hm3]⟩
      · refine jc_skip <| zsr <| zmv rfl (hd 66 rfl) <| zmv rfl (hd 67 rfl) ?_
        refine jo_call Try.f135 (part_s X 0 k (by omega) (by omega) (by omega) uX) rfl Try.func135 rfl rfl (ovL_cons rfl (ovL_cons rfl (ovL_cons rfl ovL_nil))) (.cons .n (.cons .i (.cons .i .nil))) (hd 68 rfl) ?_ (fun ch hp => by simp at hp)
        rintro y ⟨al, hy, ual, lal, val⟩; injection hy with hy; subst hy; refine zmv rfl (hd 69 rfl) <| zmv rfl (hd 70 rfl) <| zmv rfl (hd 71 rfl) <| jo_l (ly_lenn sl28 rfl) (hd 72 rfl) ?_
        refine jo_call Try.f135 (part_s X k X.length (by omega) (by omega) (by omega) uX) rfl Try.func135 rfl rfl (ovL_cons rfl (ovL_cons rfl (ovL_cons rfl ovL_nil))) (.cons .n (.cons .i (.cons .i .nil))) (hd 73 rfl) ?_ (fun ch hp => by simp at hp)
        rintro y ⟨ah, hy, uah, lah, vah⟩; injection hy with hy; subst hy; refine zmv rfl (hd 74 rfl) <| zmv rfl (hd 75 rfl) ?_
        refine jo_call Try.f135 (part_s Y 0 k (by omega) (by omega) (by omega) uY) rfl Try.func135 rfl rfl (ovL_cons rfl (ovL_cons rfl (ovL_cons rfl ovL_nil))) (.cons .n (.cons .i (.cons .i .nil))) (hd 76 rfl) ?_ (fun ch hp => by simp at hp)
        rintro y ⟨bl, hy, ubl, lbl, vbl⟩; injection hy with hy; subst hy; refine zmv rfl (hd 77 rfl) <| zmv rfl (hd 78 rfl) <| zmv rfl (hd 79 rfl) <| jo_l (ly_lenn sl28 rfl) (hd 80 rfl) ?_
        refine jo_call Try.f135 (part_s Y k Y.length (by omega) (by omega) (by omega) uY) rfl Try.func135 rfl rfl (ovL_cons rfl (ovL_cons rfl (ovL_cons rfl ovL_nil))) (.cons .n (.cons .i (.cons .i .nil))) (hd 81 rfl) ?_ (fun ch hp => by simp at hp)
        rintro y ⟨bh, hy, ubh, lbh, vbh⟩; injection hy with hy; subst hy; refine zas rfl (hd 9 rfl) <| zas rfl (hd 10 rfl) <| zas rfl (hd 11 rfl) <| zas rfl (hd 12 rfl) <| jo_nil <| zsr <| zmv rfl (hd 82 rfl) <| zmv rfl (hd 83 rfl) <| zmv rfl (hd 84 rfl) ?_
        refine jo_call Try.f109 (ih al bl (by omega) (by omega) (by omega) ual ubl) rfl Try.func109 rfl rfl (ovL_cons rfl (ovL_cons rfl (ovL_cons rfl ovL_nil))) (.cons .n (.cons .n (.cons .i .nil))) (hd 85 rfl) ?_ (fun ch hp => by simp at hp)
        rintro y ⟨lo, hy, ulo, llo, vlo⟩; injection hy with hy; subst hy; refine zmv rfl (hd 86 rfl) <| zmv rfl (hd 87 rfl) <| zmv rfl (hd 88 rfl) ?_
        refine jo_call Try.f109 (ih ah bh (by omega) (by omega) (by omega) uah ubh) rfl Try.func109 rfl rfl (ovL_cons rfl (ovL_cons rfl (ovL_cons rfl ovL_nil))) (.cons .n (.cons .n (.cons .i .nil))) (hd 89 rfl) ?_ (fun ch hp => by simp at hp)
        rintro y ⟨hi, hy, uhi, lhi, vhi⟩; injection hy with hy; subst hy; refine zas rfl (hd 13 rfl) <| zas rfl (hd 14 rfl) <| jo_nil <| zsr <| zmv rfl (hd 90 rfl) <| zmv rfl (hd 91 rfl) ?_
        refine jo_call Try.f137 (sum_s al ah (by omega) (by omega) ual uah) rfl Try.func137 rfl rfl (ovL_cons rfl (ovL_cons rfl ovL_nil)) (.cons .n (.cons .n .nil)) (hd 92 rfl) ?_ (fun ch hp => by simp at hp)
        rintro y ⟨s1, hy, us1, ls1, vs1⟩; injection hy with hy; subst hy
        have ts1 := trm_len s1
        refine jo_call Try.f71 (Norm_s s1 (by omega)) rfl Try.func71 rfl rfl (ovL_cons rfl ovL_nil) (.cons .n .nil) (hd 93 rfl) ?_ (fun ch hp => by simp at hp)
        rintro _ ⟨⟩; refine zmv rfl (hd 94 rfl) <| zmv rfl (hd 95 rfl) ?_
        refine jo_call Try.f137 (sum_s bl bh (by omega) (by omega) ubl ubh) rfl Try.func137 rfl rfl (ovL_cons rfl (ovL_cons rfl ovL_nil)) (.cons .n (.cons .n .nil)) (hd 96 rfl) ?_ (fun ch hp => by simp at hp)
        rintro y ⟨s2, hy, us2, ls2, vs2⟩; injection hy with hy; subst hy
        have ts2 := trm_len s2
        refine jo_call Try.f71 (Norm_s s2 (by omega)) rfl Try.func71 rfl rfl (ovL_cons rfl ovL_nil) (.cons .n .nil) (hd 97 rfl) ?_ (fun ch hp => by simp at hp)
        rintro _ ⟨⟩; refine zmv rfl (hd 98 rfl) ?_
        refine jo_call Try.f109 (ih (trm s1) (trm s2) (by omega) (by omega) (by omega) (u64s_trm us1) (u64s_trm us2)) rfl Try.func109 rfl rfl (ovL_cons rfl (ovL_cons rfl (ovL_cons rfl ovL_nil))) (.cons .n (.cons .n (.cons .i .nil))) (hd 99 rfl) ?_ (fun ch hp => by simp at hp)
        rintro y ⟨m0, hy, um0, lm0, vm0⟩; injection hy with hy; subst hy
        rw [vl_trm, vl_trm, vs1, vs2] at vm0
        have hle := kara_le (vl_nonneg ual) (vl_nonneg uah) (vl_nonneg ubl) (vl_nonneg ubh)
        rw [← vm0, ← vlo, ← vhi] at hle
        refine zmv rfl (hd 100 rfl) ?_
        refine jo_call Try.f136 (less_s m0 lo (by omega) (by omega) um0 ulo hle.1) rfl Try.func136 rfl rfl (ovL_cons rfl (ovL_cons rfl ovL_nil)) (.cons .n (.cons .n .nil)) (hd 101 rfl) ?_ (fun ch hp => by simp at hp)
        rintro y ⟨m1, hy, um1, lm1, vm1⟩; injection hy with hy; subst hy; refine zmv rfl (hd 102 rfl) ?_
        refine jo_call Try.f136 (less_s m1 hi (by omega) (by omega) um1 uhi (by rw [vm1]; exact hle.2)) rfl Try.func136 rfl rfl (ovL_cons rfl (ovL_cons rfl ovL_nil)) (.cons .n (.cons .n .nil)) (hd 103 rfl) ?_ (fun ch hp => by simp at hp)
        rintro y ⟨m2, hy, um2, lm2, vm2⟩; injection hy with hy; subst hy
        have hA : vl al + pB k * vl ah = vl X := by rw [val, vah]; exact split_val k
        have hB : vl bl + pB k * vl bh = vl Y := by rw [vbl, vbh]; exact split_val k
        have hmd : vl m2 = (vl al + vl ah) * (vl bl + vl bh) - vl lo - vl hi := by rw [vm2, vm1, vm0]
        have hkr := kara hA hB vlo vhi hmd
        have g1 := Int.mul_nonneg (Int.le_of_lt pk) (vl_nonneg um2)
        have g2 := Int.mul_nonneg (Int.mul_nonneg (Int.le_of_lt pk) (Int.le_of_lt pk)) (vl_nonneg uhi)
        refine zas rfl (hd 15 rfl) <| jo_nil <| zsr <| zmv rfl (hd 104 rfl) <| jo_l (ly_lenn sl28 rfl) (hd 105 rfl) <| zmv rfl (hd 106 rfl) <| jo_l (ly_lenn sl28 rfl) (hd 107 rfl) <| jo_l (ly_add rfl rfl (r := ((X.length + Y.length : Nat) : Int)) (by rw [wrap_i64 (by omega) (by omega)]; omega)) (hd 108 rfl) <| jo_l (ly_add rfl rfl (r := ((X.length + Y.length + 1) : Nat)) (by rw [wrap_i64 (by omega) (by omega)]; omega)) (hd 109 rfl) <| jo_h (hy_mk (m := (X.length + Y.length + 1)) el28 rfl rfl rfl (by show 8 * (X.length + Y.length + 1) ≤ _; omega) (by unfold maxLen; omega) rfl) (hd 110 rfl) <| zas rfl (hd 16 rfl) <| jo_nil ?_; refine zsr <| zmv rfl (hd 111 rfl) <| zmv rfl (hd 112 rfl) ?_
        refine jo_callM Try.f134 (addAt_s (List.replicate (X.length + Y.length + 1) 0) lo (X.length + Y.length + 1) 0 List.length_replicate (by omega) (by omega) (by omega) (u64s_zeros _) ulo (by rw [vl_zeros]; simp only [pB, Int.one_mul, Int.zero_add] at *; omega)) rfl Try.func134 rfl rfl (ovL_cons rfl (ovL_cons rfl (ovL_cons rfl ovL_nil))) (.cons (.same rfl) (.cons .n (.cons (.same rfl) .nil))) (freshless_cons ints_noFr freshless_nil) (hd 113 rfl) ?_ (fun ch H2 hp => by simp at hp)
        rintro y H2 ⟨hy, r1, rfl, lr1, ur1, vr1⟩; injection hy with hy; subst hy
        have e1 : vl r1 = vl lo := by rw [vr1, vl_zeros]; simp only [pB, Int.one_mul, Int.zero_add]
        refine jo_nil <| zsr <| zmv rfl (hd 114 rfl) <| zmv rfl (hd 115 rfl) <| zmv rfl (hd 116 rfl) ?_
        refine jo_callM Try.f134 (addAt_s r1 m2 (X.length + Y.length + 1) k lr1 (by omega) (by omega) (by omega) ur1 um2 (by rw [e1]; omega)) rfl Try.func134 rfl rfl (ovL_cons rfl (ovL_cons rfl (ovL_cons rfl ovL_nil))) (.cons (.same rfl) (.cons .n (.cons (.same rfl) .nil))) (freshless_cons ints_noFr freshless_nil) (hd 117 rfl) ?_ (fun ch H2 hp => by simp at hp)
        rintro y H2 ⟨hy, r2, rfl, lr2, ur2, vr2⟩; injection hy with hy; subst hy; refine jo_nil <| zsr <| zmv rfl (hd 118 rfl) <| zmv rfl (hd 119 rfl) <| zmv rfl (hd 120 rfl) <| jo_l (ly_mul rfl rfl (r := ((2 * k : Nat) : Int)) (by rw [wrap_i64 (by omega) (by omega)]; omega)) (hd 121 rfl) ?_
        refine jo_callM Try.f134 (addAt_s r2 hi (X.length + Y.length + 1) (2 * k) lr2 (by omega) (by omega) (by omega) ur2 uhi (by rw [vr2, e1, show 2 * k = k + k by omega, pB_add]; omega)) rfl Try.func134 rfl rfl (ovL_cons rfl (ovL_cons rfl (ovL_cons rfl ovL_nil))) (.cons (.same rfl) (.cons .n (.cons (.same rfl) .nil))) (freshless_cons ints_noFr freshless_nil) (hd 122 rfl) ?_ (fun ch H2 hp => by simp at hp)
        rintro y H2 ⟨hy, rf, rfl, lrf, urf, vrf⟩; injection hy with hy; subst hy; refine jo_nil <| zsr <| zmv rfl (hd 123 rfl) <| zas rfl (hd 6 rfl) <| jo_nil <| jc_ret ?_
        refine ⟨_, _, (.cons rfl .nil), (.o (l := rf) rfl (by omega) rfl), ?_⟩
        rw [List.drop_zero, List.take_of_length_le (by omega)]
        exact ⟨rf, rfl, urf, by omega, by rw [vrf, vr2, e1, show 2 * k = k + k by omega, pB_add, hkr, hm3]⟩

theorem halved_s (cut : Nat) (hc4 : 4 ≤ cut) (hcm : cut < 1099511627776) (a b : List Int) (hla : a.length < 549755813888) (hlb : b.length < 549755813888) (ua : u64s a) (ub : u64s b) : Spec Try.prog 109 [.n false .u64 a, .n false .u64 b, .i .i64 (cut : Int)] (fun o => ∃ r, o = .ret (.n true .u64 r) ∧ u64s r ∧ r.length ≤ a.length + b.length + 1 ∧ vl r = vl a * vl b) := by
  induction hn : a.length + b.length using Nat.strongRecOn generalizing a b with
  | _ n ih =>
    subst hn
    exact halved_ih cut hc4 hcm a b hla hlb ua ub fun a' b' h h1 h2 h3 h4 => ih _ (by omega) a' b' h1 h2 h3 h4 rfl

theorem way_s (a b : List Int) (hla : a.length < 4294967296) (hlb : b.length < 4294967296) (ua : u64s a) (ub : u64s b) : Spec Try.prog 108 [.n false .u64 a, .n false .u64 b] (fun o => ∃ r, o = .ret (.n true .u64 r) ∧ u64s r ∧ r.length ≤ a.length + b.length + 1 ∧ vl r = vl a * vl b) := by
  refine spec_of' [(0, .n false .u64 a), (1, .n false .u64 b)] rfl Try.func108 rfl (zlb rfl) fun Γ hN hds hL hR => ?_
  have hd := hdOf 8 hN
  refine zsr <| zas rfl (hd 4 rfl) <| jo_nil <| zsr <| zmv rfl (hd 5 rfl) <| zmv rfl (hd 6 rfl) ?_
  refine jo_call Try.f109 (halved_s 40 (by decide) (by decide) a b (by omega) (by omega) ua ub) rfl Try.func109 rfl rfl (ovL_cons rfl (ovL_cons rfl (ovL_cons rfl ovL_nil))) (.cons .n (.cons .n (.cons .i .nil))) (hd 7 rfl) ?_ (fun ch hp => by simp at hp)
  rintro y ⟨rs, hy, us, ls, vs⟩; injection hy with hy; subst hy; refine zas rfl (hd 4 rfl) <| jo_nil <| jc_ret ?_
  refine ⟨_, _, (.cons rfl .nil), .n, ?_⟩
  exact ⟨rs, rfl, us, ls, vs⟩






theorem Len_s (v : Int) (hl : (dg v).length < 1099511627776) : Spec Try.prog 33 [.n false .u64 (dg v)] (fun o => o = .ret (.i .i64 (lenV v : Int))) := by
  refine spec_of' [(0, .n false .u64 (dg v))] rfl Try.func33 rfl (zlb rfl) fun Γ hN hds hL hR => ?_
  have hd := hdOf 25 hN
  have hB := lenV_le v
  have hT := dg_top v ((dg v).length - 1)
  have hE := lenD_eq v
  have hN := dg_nil (v := v)
  refine zsr <| zas rfl (hd 2 rfl) <| jo_nil <| jc_seq <| zsr <| zmv rfl (hd 5 rfl) <| jo_l (ly_lenn sl33 rfl) (hd 6 rfl) <| jo_l (ly_eq rfl rfl) (hd 7 rfl) <| jo_nil ?_
  refine jc_if rfl (fun h1 => ?_) (fun h1 => ?_)
  · have h0 : dg v = [] := List.eq_nil_of_length_eq_zero (by omega)
    refine zsr <| zas rfl (hd 2 rfl) <| jo_nil <| jc_ret ?_
    refine ⟨_, _, (.cons rfl .nil), .i, ?_⟩
    rw [hN.1 h0]
    rfl
  · have h0 : dg v ≠ [] := fun e => by rw [e] at h1; exact h1 rfl
    have hE := hE h0
    refine jc_skip <| zsr <| zmv rfl (hd 8 rfl) <| jo_l (ly_lenn sl33 rfl) (hd 9 rfl) <| jo_l (ly_sub rfl rfl (wrap_i64 (by first | omega | (dsimp only; omega)) (by first | omega | (dsimp only; omega)))) (hd 10 rfl) <| jo_l (ly_mul rfl rfl (r := ((32 * ((dg v).length - 1) : Nat) : Int)) (by have := List.length_pos_iff.2 h0; rw [wrap_i64 (by omega) (by omega)]; omega)) (hd 11 rfl) <| zas rfl (hd 3 rfl) <| jo_nil <| jc_seq <| zsr <| zmv rfl (hd 12 rfl) ?_; refine zmv rfl (hd 13 rfl) <| jo_l (ly_lenn sl33 rfl) (hd 14 rfl) <| jo_l (ly_sub rfl rfl (wrap_i64 (by first | omega | (dsimp only; omega)) (by first | omega | (dsimp only; omega)))) (hd 15 rfl) <| jo_l (ly_ian (i := (dg v).length - 1) sl33 rfl rfl (by have := List.length_pos_iff.2 h0; omega) (by have := List.length_pos_iff.2 h0; omega)) (hd 16 rfl) <| jo_l (ly_ldq one82 rfl rfl) (hd 17 rfl) <| zas rfl (hd 4 rfl) <| jo_nil <| jc_block ?_
    refine jc_loopF (G := Nat × Nat) (fun g => g.2 + nbits g.1 = lenV v ∧ g.1 < 4294967296) (fun g => [(3, .i .i64 (g.2 : Int)), (4, .i .u64 (g.1 : Int)), (18, .u), (19, .u), (20, .u), (21, .u), (22, .u), (23, .u)]) (fun _ => _) (fun g => g.1) (((dg v).getD ((dg v).length - 1) 0).toNat, 32 * ((dg v).length - 1)) ?_ ?_ rfl ?_
    · exact ⟨hE, by dsimp only; omega⟩
    · exact (.cons rfl (.cons (by show some (V.i .u64 _) = some (V.i .u64 _); congr 2; dsimp only; omega) (.u (.u (.u (.u (.u (.u .nil))))))))
    · rintro ⟨m, c⟩ ⟨hc1, hc2⟩
      dsimp only at hc1 hc2 ⊢
      refine jc_seq <| zsr <| zmv rfl (hd 18 rfl) <| jo_l (ly_gt rfl rfl) (hd 19 rfl) <| jo_nil ?_
      refine jc_if rfl (fun h2 => ?_) (fun h2 => ?_)
      · refine jc_skip <| jc_seq <| jc_block <| jc_region <| zmv rfl (hd 22 rfl) <| jo_l (ly_add rfl rfl (wrap_i64 (by first | omega | (dsimp only; omega)) (by first | omega | (dsimp only; omega)))) (hd 23 rfl) <| zas rfl (hd 3 rfl) <| jo_nil <| jc_region <| zmv rfl (hd 20 rfl) <| jo_l (ly_quo rfl rfl (by first | omega | (dsimp only; omega)) (r := ((m / 2 : Nat) : Int)) (by rw [show ((m : Int).tdiv 2) = ((m / 2 : Nat) : Int) from rfl, wrap_u64 (by omega) (by omega)])) (hd 21 rfl) <| zas rfl (hd 4 rfl) <| jo_nil ?_
        refine ⟨(m / 2, c + 1), ?_, ?_, rfl, cov_n 16 rfl rfl ?_⟩
        · exact ⟨by have := nbits_half (m := m) (by omega); dsimp only; omega, by dsimp only; omega⟩
        · show m / 2 < m; omega
        · exact (.cons rfl (.cons rfl (.u (.u (.u (.u (.u (.u .nil))))))))
      · refine jc_exit <| zsr <| zmv rfl (hd 24 rfl) <| zas rfl (hd 2 rfl) <| jo_nil <| jc_ret ?_
        refine ⟨_, _, (.cons rfl .nil), .i, ?_⟩
        have hm : m = 0 := by omega
        subst hm
        rw [nbits_0] at hc1
        rw [← hc1]
        rfl

theorem great_e (a b : List Int) (ha : a.length < 1099511627776) (hb : b.length < 1099511627776) (ua : u64s a) (ub : u64s b) : Spec Try.prog 131 [.n false .u64 a, .n false .u64 b] (fun o => ∃ x : Bool, o = .ret (.b x) ∧ (x = true → 0 < lenN a ∧ 0 < lenN b ∧ 67108864 < lenN a + lenN b - 1)) := by
  refine spec_of' [(0, .n false .u64 a), (1, .n false .u64 b)] rfl Try.func131 rfl (zlb rfl) fun Γ hN hds hL hR => ?_
  have hd := hdOf 24 hN
  have h1 := lenN_le a
  have h2 := lenN_le b
  refine zsr <| zas rfl (hd 4 rfl) <| jo_nil <| zsr <| zmv rfl (hd 7 rfl) ?_
  refine jo_call Try.f66 (Length_s a ha ua) rfl Try.func66 rfl rfl (ovL_cons rfl ovL_nil) (.cons .n .nil) (hd 8 rfl) ?_ (fun ch hp => by simp at hp)
  rintro _ ⟨⟩; refine zmv rfl (hd 9 rfl) ?_
  refine jo_call Try.f66 (Length_s b hb ub) rfl Try.func66 rfl rfl (ovL_cons rfl ovL_nil) (.cons .n .nil) (hd 10 rfl) ?_ (fun ch hp => by simp at hp)
  rintro _ ⟨⟩; refine zas rfl (hd 5 rfl) <| zas rfl (hd 6 rfl) <| jo_nil <| zsr <| zmv rfl (hd 11 rfl) <| jo_l (ly_gt rfl rfl) (hd 12 rfl) <| zmv rfl (hd 13 rfl) ?_
  refine jo_ifp 13 rfl (fun h1 => ?_) (fun h1 => ?_)
  · refine jo_g 13 rfl rfl (ly_mv rfl) (hd 14 rfl) <| jo_g 13 rfl rfl (ly_gt rfl rfl) (hd 15 rfl) <| jo_l (ly_pick_t rfl rfl) (hd 16 rfl) <| zmv rfl (hd 17 rfl) ?_
    refine jo_ifp 17 rfl (fun h2 => ?_) (fun h2 => ?_)
    · refine jo_g 17 rfl rfl (ly_mv rfl) (hd 18 rfl) <| jo_g 17 rfl rfl (ly_mv rfl) (hd 19 rfl) <| jo_g 17 rfl rfl (ly_add rfl rfl (wrap_i64 (by omega) (by omega))) (hd 20 rfl) <| jo_g 17 rfl rfl (ly_sub rfl rfl (wrap_i64 (by omega) (by omega))) (hd 21 rfl) <| jo_g 17 rfl rfl (ly_gt rfl rfl) (hd 22 rfl) <| jo_l (ly_pick_t rfl rfl) (hd 23 rfl) <| zas rfl (hd 4 rfl) <| jo_nil <| jc_ret ?_
      refine ⟨_, _, (.cons rfl .nil), .b, ?_⟩
      exact ⟨_, rfl, fun h => by first | (cases h; done) | (simp at h; done) | (have h := of_decide_eq_true h; exact ⟨by omega, by omega, by omega⟩)⟩
    · refine jo_s 17 rfl rfl rfl (hd 18 rfl) <| jo_s 17 rfl rfl rfl (hd 19 rfl) <| jo_s 17 rfl rfl rfl (hd 20 rfl) <| jo_s 17 rfl rfl rfl (hd 21 rfl) <| jo_s 17 rfl rfl rfl (hd 22 rfl) <| jo_l (ly_pick_f rfl rfl) (hd 23 rfl) <| zas rfl (hd 4 rfl) <| jo_nil <| jc_ret ?_
      refine ⟨_, _, (.cons rfl .nil), .b, ?_⟩
      exact ⟨_, rfl, fun h => by first | (cases h; done) | (simp at h; done) | (have h := of_decide_eq_true h; exact ⟨by omega, by omega, by omega⟩)⟩
  · refine jo_s 13 rfl rfl rfl (hd 14 rfl) <| jo_s 13 rfl rfl rfl (hd 15 rfl) <| jo_l (ly_pick_f rfl rfl) (hd 16 rfl) <| zmv rfl (hd 17 rfl) <| jo_s 17 rfl rfl rfl (hd 18 rfl) <| jo_s 17 rfl rfl rfl (hd 19 rfl) <| jo_s 17 rfl rfl rfl (hd 20 rfl) <| jo_s 17 rfl rfl rfl (hd 21 rfl) <| jo_s 17 rfl rfl rfl (hd 22 rfl) <| jo_l (ly_pick_f rfl rfl) (hd 23 rfl) <| zas rfl (hd 4 rfl) <| jo_nil <| jc_ret ?_
    refine ⟨_, _, (.cons rfl .nil), .b, ?_⟩
    exact ⟨_, rfl, fun h => by first | (cases h; done) | (simp at h; done) | (have h := of_decide_eq_true h; exact ⟨by omega, by omega, by omega⟩)⟩


theorem Norm_n (l : List Int) (hl : l.length < 1099511627776) : SpecM Try.prog 71 [.n false .u64 l] [] (fun o G => o = .ret (.o 0 0 0 (trm l).length) ∧ G = [⟨67, 1, 0, true, ints .u64 (trm l)⟩]) := by
  refine specS_of [(0, .n false .u64 l)] rfl Try.func71 rfl (zlb rfl) fun Γ hN hds hL hR => ?_
  have hd := hdOf 6 hN
  have hm := trm_len l
  refine zsr <| zas rfl (hd 2 rfl) <| jo_nil <| zsr <| zmv rfl (hd 3 rfl) ?_
  refine jo_call Try.f105 (trim_s l hl) rfl Try.func105 rfl rfl (ovL_cons rfl ovL_nil) (.cons .n .nil) (hd 4 rfl) ?_ (fun ch hp => by simp at hp)
  rintro _ ⟨⟩; refine jo_h (hy_app0 (id := 0) el28 rfl rfl src_n (by omega) (by unfold maxLen; omega) rfl) (hd 5 rfl) <| zas rfl (hd 2 rfl) <| jo_nil <| jc_ret ?_
  refine ⟨[0], _, (.o 0 0 0 (trm l).length), (.cons rfl .nil), rfl, rfl, (by decide), (by first | exact idless_cons ints_id idless_nil | exact idless_cons rfl idless_nil), ?_⟩
  exact ⟨rfl, rfl⟩


theorem at_s (x i d : Nat) (hx : (digs B32 x).length < 1099511627776) (hi : x / B32 ^ i % B32 = d) : Spec Try.prog 115 [.n false .u64 (digs B32 x), .i .i64 (i : Int)] (fun o => o = .ret (.i .u64 (d : Int))) := by
  refine spec_of' [(0, .n false .u64 (digs B32 x)), (1, .i .i64 (i : Int))] rfl Try.func115 rfl (zlb rfl) fun Γ hN hds hL hR => ?_
  have hd := hdOf 13 hN
  have hv := digs_at (b := B32) (by decide) i x
  have ht := rng_getD (b := B32) (by decide) (rng_digs (by decide) x) i
  refine zsr <| zas rfl (hd 4 rfl) <| jo_nil <| jc_seq <| zsr <| zmv rfl (hd 5 rfl) <| zmv rfl (hd 6 rfl) <| jo_l (ly_lenn sl33 rfl) (hd 7 rfl) <| jo_l (ly_lt rfl rfl) (hd 8 rfl) <| jo_nil ?_
  refine jc_if rfl (fun h1 => ?_) (fun h1 => ?_)
  · refine zsr <| zmv rfl (hd 9 rfl) <| zmv rfl (hd 10 rfl) <| jo_l (ly_ian (i := i) sl33 rfl rfl (by first | rfl | omega) (by omega)) (hd 11 rfl) <| jo_l (ly_ldq one82 rfl rfl) (hd 12 rfl) <| zas rfl (hd 4 rfl) <| jo_nil <| jc_ret ?_
    refine ⟨_, _, (.cons rfl .nil), .i, ?_⟩
    rw [hv, hi]
  · refine jc_skip <| zsr <| zas rfl (hd 4 rfl) <| jo_nil <| jc_ret ?_
    refine ⟨_, _, (.cons rfl .nil), .i, ?_⟩
    rw [← hi]
    have h0 : (digs B32 x).getD i 0 = 0 := getD_ge (by omega)
    rw [h0] at hv
    rw [← hv]

theorem rCmp_s (x y : Nat) (hx : (digs B32 x).length < 1099511627776) (hy : (digs B32 y).length < 1099511627776) : Spec Try.prog 88 [.n false .u64 (digs B32 x), .n false .u64 (digs B32 y)] (fun o => o = .ret (.i .i64 (cmpI x y))) := by
  refine spec_of' [(0, .n false .u64 (digs B32 x)), (1, .n false .u64 (digs B32 y))] rfl Try.func88 rfl (zlb rfl) fun Γ hN hds hL hR => ?_
  have hd := hdOf 41 hN
  have hcm := cmpL_digs (b := B32) (by decide) x y
  unfold cmpL at hcm
  refine zsr <| zas rfl (hd 4 rfl) <| jo_nil <| jc_seq <| zsr <| zmv rfl (hd 6 rfl) <| jo_l (ly_lenn sl33 rfl) (hd 7 rfl) <| zmv rfl (hd 8 rfl) <| jo_l (ly_lenn sl33 rfl) (hd 9 rfl) <| jo_l (ly_ne rfl rfl) (hd 10 rfl) <| jo_nil ?_
  refine jc_if rfl (fun h1 => ?_) (fun h1 => ?_)
  · refine jc_seq <| zsr <| zmv rfl (hd 11 rfl) <| jo_l (ly_lenn sl33 rfl) (hd 12 rfl) <| zmv rfl (hd 13 rfl) <| jo_l (ly_lenn sl33 rfl) (hd 14 rfl) <| jo_l (ly_lt rfl rfl) (hd 15 rfl) <| jo_nil ?_
    refine jc_if rfl (fun h2 => ?_) (fun h2 => ?_)
    · refine zsr <| zas rfl (hd 4 rfl) <| jo_nil <| jc_ret ?_
      refine ⟨_, _, (.cons rfl .nil), .i, ?_⟩
      rw [← hcm, if_pos (by omega)]
    · refine jc_skip <| zsr <| zas rfl (hd 4 rfl) <| jo_nil <| jc_ret ?_
      refine ⟨_, _, (.cons rfl .nil), .i, ?_⟩
      rw [← hcm, if_neg (by omega), if_pos (by omega)]
  · refine jc_skip <| jc_seq <| zsr <| zmv rfl (hd 16 rfl) <| jo_l (ly_lenn sl33 rfl) (hd 17 rfl) <| jo_l (ly_sub rfl rfl (wrap_i64 (by omega) (by omega))) (hd 18 rfl) <| zas rfl (hd 5 rfl) <| jo_nil <| jc_block ?_
    refine jc_loopF (G := Nat) (fun k => k ≤ (digs B32 x).length ∧ cmpN (digs B32 x) (digs B32 y) k = cmpN (digs B32 x) (digs B32 y) (digs B32 x).length) (fun k => [(5, .i .i64 ((k : Int) - 1)), (4, .u), (19, .u), (20, .u), (21, .u), (22, .u), (23, .u), (24, .u), (25, .u), (26, .u), (27, .u), (28, .u), (29, .u), (30, .u), (31, .u), (32, .u), (33, .u), (34, .u), (35, .u), (36, .u), (37, .u), (38, .u), (39, .u), (40, .u)]) (fun _ => _) (fun k => k) (digs B32 x).length ?_ ?_ rfl ?_
    · exact ⟨Nat.le_refl _, rfl⟩
    · exact (.cons rfl (.u (.u (.u (.u (.u (.u (.u (.u (.u (.u (.u (.u (.u (.u (.u (.u (.u (.u (.u (.u (.u (.u (.u .nil))))))))))))))))))))))))
    · rintro k ⟨hc1, hc2⟩; refine jc_seq <| zsr <| zmv rfl (hd 19 rfl) <| jo_l (ly_ge rfl rfl) (hd 20 rfl) <| jo_nil ?_
      refine jc_if rfl (fun h3 => ?_) (fun h3 => ?_)
      · refine jc_skip <| jc_seq <| jc_block <| jc_seq <| jc_seq <| jc_draw (n := 9) _ rfl mixed <| zal2 0 [2, 3, 8] (lo_l (ly_mv rfl) (hd 23 rfl)) rfl <| zal2 1 [2, 3, 8] (lo_l (ly_mv rfl) (hd 24 rfl)) rfl <| zal2 2 [3, 8] (lo_l (ly_ian (i := k - 1) sl33 rfl rfl (by omega) (by omega)) (hd 25 rfl)) rfl <| zal 3 (lo_l (ly_ldq one82 rfl rfl) (hd 26 rfl)) rfl <| zal2 4 [6, 7, 8] (lo_l (ly_mv rfl) (hd 27 rfl)) rfl <| zal2 5 [6, 7, 8] (lo_l (ly_mv rfl) (hd 28 rfl)) rfl <| zal2 6 [7, 8] (lo_l (ly_ian (i := k - 1) sl33 rfl rfl (by omega) (by omega)) (hd 29 rfl)) rfl ?_; refine zal 7 (lo_l (ly_ldq one82 rfl rfl) (hd 30 rfl)) rfl <| zal 8 (lo_l (ly_lt rfl rfl) (hd 31 rfl)) rfl <| ja_nil (by kernel_rfl) ?_
        refine jc_if rfl (fun h4 => ?_) (fun h4 => ?_)
        · refine zsr <| zas rfl (hd 4 rfl) <| jo_nil <| jc_ret ?_
          refine ⟨_, _, (.cons rfl .nil), .i, ?_⟩
          rw [← hcm, if_neg (by omega), if_neg (by omega), ← hc2, cmpN_lt (by omega) (by assumption)]
        · refine jc_skip <| jc_seq <| jc_draw (n := 9) _ rfl mixed <| zal2 0 [2, 3, 8] (lo_l (ly_mv rfl) (hd 32 rfl)) rfl <| zal2 1 [2, 3, 8] (lo_l (ly_mv rfl) (hd 33 rfl)) rfl <| zal2 2 [3, 8] (lo_l (ly_ian (i := k - 1) sl33 rfl rfl (by omega) (by omega)) (hd 34 rfl)) rfl <| zal 3 (lo_l (ly_ldq one82 rfl rfl) (hd 35 rfl)) rfl <| zal2 4 [6, 7, 8] (lo_l (ly_mv rfl) (hd 36 rfl)) rfl <| zal2 5 [6, 7, 8] (lo_l (ly_mv rfl) (hd 37 rfl)) rfl <| zal2 6 [7, 8] (lo_l (ly_ian (i := k - 1) sl33 rfl rfl (by omega) (by omega)) (hd 38 rfl)) rfl <| zal 7 (lo_l (ly_ldq one82 rfl rfl) (hd 39 rfl)) rfl <| zal 8 (lo_l (ly_gt rfl rfl) (hd 40 rfl)) rfl <| ja_nil (by kernel_rfl) ?_
          refine jc_if rfl (fun h5 => ?_) (fun h5 => ?_)
          · refine zsr <| zas rfl (hd 4 rfl) <| jo_nil <| jc_ret ?_
            refine ⟨_, _, (.cons rfl .nil), .i, ?_⟩
            rw [← hcm, if_neg (by omega), if_neg (by omega), ← hc2, cmpN_gt (by omega) (by assumption)]
          · refine jc_skip <| jc_region <| zmv rfl (hd 21 rfl) <| jo_l (ly_sub rfl rfl (wrap_i64 (by omega) (by omega))) (hd 22 rfl) <| zas rfl (hd 5 rfl) <| jo_nil ?_
            refine ⟨k - 1, ?_, ?_, rfl, cov_n 47 rfl rfl ?_⟩
            · exact ⟨by omega, by rw [← hc2]; exact cmpN_eq (by omega) (by assumption) (by assumption)⟩
            · omega
            · exact (.cons (by show some (V.i .i64 _) = some (V.i .i64 _); congr 2; omega) (.u (.u (.u (.u (.u (.u (.u (.u (.u (.u (.u (.u (.u (.u (.u (.u (.u (.u (.u (.u (.u (.u (.u .nil))))))))))))))))))))))))
      · refine jc_exit <| zsr <| zas rfl (hd 4 rfl) <| jo_nil <| jc_ret ?_
        refine ⟨_, _, (.cons rfl .nil), .i, ?_⟩
        rw [← hcm, if_neg (by omega), if_neg (by omega), ← hc2]
        obtain rfl : k = 0 := by omega
        rfl

theorem rAdd_s (x y : Nat) (hx : (digs B32 x).length < 549755813888) (hy : (digs B32 y).length < 549755813888) : Spec Try.prog 80 [.n false .u64 (digs B32 x), .n false .u64 (digs B32 y)] (fun o => o = .ret (.n false .u64 (digs B32 (x + y)))) := by
  refine spec_of' [(0, .n false .u64 (digs B32 x)), (1, .n false .u64 (digs B32 y))] rfl Try.func80 rfl (zlb rfl) fun Γ hN hds hL hR => ?_
  have hd := hdOf 44 hN
  refine zsr <| zas rfl (hd 4 rfl) <| jo_nil <| zsr <| zmv rfl (hd 10 rfl) <| jo_l (ly_lenn sl33 rfl) (hd 11 rfl) <| zas rfl (hd 5 rfl) <| jo_nil ?_
  refine jc_meetH (G := Nat) (fun n => n = max (digs B32 x).length (digs B32 y).length) (fun n => [(5, .i .i64 (n : Int)), (12, .u), (13, .u), (14, .u), (15, .u), (16, .u), (17, .u)]) ?_ ?_
  · refine zsr <| zmv rfl (hd 12 rfl) <| jo_l (ly_lenn sl33 rfl) (hd 13 rfl) <| zmv rfl (hd 14 rfl) <| jo_l (ly_gt rfl rfl) (hd 15 rfl) <| jo_nil ?_
    refine jc_if rfl (fun h1 => ?_) (fun h1 => ?_)
    · refine jc_region <| zmv rfl (hd 16 rfl) <| jo_l (ly_lenn sl33 rfl) (hd 17 rfl) <| zas rfl (hd 5 rfl) <| jo_nil ?_
      refine ⟨(digs B32 y).length, ?_, rfl, cov_n 7 rfl rfl ?_⟩
      · omega
      · exact (.cons rfl (.u (.u (.u (.u (.u (.u .nil)))))))
    · refine jc_skip ?_
      refine ⟨(digs B32 x).length, ?_, rfl, cov_n 4 rfl rfl ?_⟩
      · omega
      · exact (.cons rfl (.u (.u (.u (.u (.u (.u .nil)))))))
  · rintro n hn; refine zsr <| zmv rfl (hd 18 rfl) <| jo_l (ly_add rfl rfl (r := ((n + 1 : Nat) : Int)) (by rw [wrap_i64 (by omega) (by omega)]; omega)) (hd 19 rfl) <| jo_h (hy_mk (m := n + 1) el33 rfl rfl rfl (by show 8 * (n + 1) ≤ _; omega) (by unfold maxLen; omega) rfl) (hd 20 rfl) <| zas rfl (hd 6 rfl) <| jo_nil <| jc_seq <| jc_H (H' := [⟨67, 1, 0, true, ints .u64 (fillI (dvl (x + y) 0) (n + 1))⟩]) (by rw [← dvl_start]; rfl) <| jc_region <| zas rfl (hd 7 rfl) <| jo_nil <| jc_seq ?_; refine zsr <| zas rfl (hd 8 rfl) <| jo_nil <| jc_block ?_
    refine jc_loopF (G := Nat) (fun i => i ≤ n + 1) (fun i => [(7, .i .u64 (cry x y i : Int)), (8, .i .i64 (i : Int)), (9, .u), (21, .u), (22, .u), (23, .u), (24, .u), (25, .u), (26, .u), (27, .u), (28, .u), (29, .u), (30, .u), (31, .u), (32, .u), (33, .u), (34, .u), (35, .u), (36, .u), (37, .u), (38, .u), (39, .u), (40, .u), (41, .u)]) (fun i => [⟨67, 1, 0, true, ints .u64 (fillI (dvl (x + y) i) (n + 1))⟩]) (fun i => n + 1 - i) 0 ?_ ?_ rfl ?_
    · exact Nat.zero_le _
    · exact (.cons (by show some (V.i .u64 _) = some (V.i .u64 _); rw [cry_0]; rfl) (.cons rfl (.u (.u (.u (.u (.u (.u (.u (.u (.u (.u (.u (.u (.u (.u (.u (.u (.u (.u (.u (.u (.u (.u .nil))))))))))))))))))))))))
    · rintro i hc1
      have hfl := fill_len (z := x + y) hc1
      have hcl := cry_le x y i
      have had := add_digit x y i
      obtain ⟨dx, hdx⟩ : ∃ q, x / B32 ^ i % B32 = q := ⟨_, rfl⟩
      obtain ⟨dy, hdy⟩ : ∃ q, y / B32 ^ i % B32 = q := ⟨_, rfl⟩
      have hb1 : x / B32 ^ i % B32 < 4294967296 := Nat.mod_lt _ (by decide)
      have hb2 : y / B32 ^ i % B32 < 4294967296 := Nat.mod_lt _ (by decide)
      rw [hdx] at hb1
      rw [hdy] at hb2
      rw [hdx, hdy] at had
      have hv1 : (dx + dy + cry x y i) % 4294967296 = (x + y) / B32 ^ i % B32 := had.1
      have hv2 : (dx + dy + cry x y i) / 4294967296 = cry x y (i + 1) := had.2
      refine jc_seq <| zsr <| zmv rfl (hd 21 rfl) <| zmv rfl (hd 22 rfl) <| jo_l (ly_le rfl rfl) (hd 23 rfl) <| jo_nil ?_
      refine jc_if rfl (fun h2 => ?_) (fun h2 => ?_)
      · refine jc_skip <| jc_seq <| jc_block <| zsr <| zmv rfl (hd 26 rfl) <| zmv rfl (hd 27 rfl) ?_
        refine jo_call Try.f115 (at_s x i dx (by omega) hdx) rfl Try.func115 rfl rfl (ovL_cons rfl (ovL_cons rfl ovL_nil)) (.cons .n (.cons .i .nil)) (hd 28 rfl) ?_ (fun ch hp => by simp at hp)
        rintro _ ⟨⟩; refine zmv rfl (hd 29 rfl) <| zmv rfl (hd 30 rfl) ?_
        refine jo_call Try.f115 (at_s y i dy (by omega) hdy) rfl Try.func115 rfl rfl (ovL_cons rfl (ovL_cons rfl ovL_nil)) (.cons .n (.cons .i .nil)) (hd 31 rfl) ?_ (fun ch hp => by simp at hp)
        rintro _ ⟨⟩; refine jo_l (ly_add rfl rfl (r := ((dx + dy : Nat) : Int)) (by rw [wrap_u64 (by omega) (by omega)]; omega)) (hd 32 rfl) <| zmv rfl (hd 33 rfl) <| jo_l (ly_add rfl rfl (r := ((dx + dy + cry x y i : Nat) : Int)) (by rw [wrap_u64 (by omega) (by omega)]; omega)) (hd 34 rfl) <| zas rfl (hd 9 rfl) <| jo_nil <| zsr <| zmv rfl (hd 35 rfl) <| zmv rfl (hd 36 rfl) <| zmv rfl (hd 37 rfl) <| jo_l (ly_is (ly_rem rfl rfl (by decide) rfl) (show V.i .u64 (((dx + dy + cry x y i : Nat) : Int).tmod 4294967296) = V.i .u64 (dgt (x + y) i) by rw [show (((dx + dy + cry x y i : Nat) : Int).tmod 4294967296) = (((dx + dy + cry x y i) % 4294967296 : Nat) : Int) from rfl, hv1]; rfl)) (hd 38 rfl) <| jo_l (ly_ia (i := i) sl33 rfl rfl rfl (by first | rfl | omega) (by first | omega | (dsimp only; omega)) rfl) (hd 39 rfl) <| jo_st (sy_storei rfl rfl rfl one82 (by first | omega | (dsimp only; omega))) ?_; refine jo_nil <| jc_region <| zmv rfl (hd 40 rfl) <| jo_l (ly_quo rfl rfl (by decide) (r := ((cry x y (i + 1) : Nat) : Int)) (by rw [show (((dx + dy + cry x y i : Nat) : Int).tdiv 4294967296) = (((dx + dy + cry x y i) / 4294967296 : Nat) : Int) from rfl, hv2]; have := cry_le x y (i + 1); rw [wrap_u64 (by omega) (by omega)])) (hd 41 rfl) <| zas rfl (hd 7 rfl) <| jo_nil <| jc_region <| zmv rfl (hd 24 rfl) <| jo_l (ly_add rfl rfl (wrap_i64 (by first | omega | (dsimp only; omega)) (by first | omega | (dsimp only; omega)))) (hd 25 rfl) <| zas rfl (hd 8 rfl) <| jo_nil ?_
        refine ⟨i + 1, ?_, ?_, (by show [(⟨67, 1, 0, true, ints .u64 _⟩ : Ob)] = [⟨67, 1, 0, true, ints .u64 _⟩]; rw [fill_dvl (by omega)]), cov_n 48 rfl rfl ?_⟩
        · omega
        · omega
        · exact (.cons rfl (.cons rfl (.u (.u (.u (.u (.u (.u (.u (.u (.u (.u (.u (.u (.u (.u (.u (.u (.u (.u (.u (.u (.u (.u .nil))))))))))))))))))))))))
      · refine jc_exit <| jc_seq ?_
        obtain rfl : i = n + 1 := by omega
        refine jc_frz (k := .u64) (l' := dvl (x + y) (n + 1)) 6 rfl rfl (by rw [fill_all, dvl_len]; omega) (by rw [fill_all, List.drop_zero, List.take_of_length_le (by rw [dvl_len]; omega)]) hL <| jc_region <| zmv rfl (hd 42 rfl) ?_
        refine jo_call Try.f95 (rnorm_s (dvl (x + y) (n + 1)) (by rw [dvl_len]; omega)) rfl Try.func95 rfl rfl (ovL_cons rfl ovL_nil) (.cons .n .nil) (hd 43 rfl) ?_ (fun ch hp => by simp at hp)
        rintro _ ⟨⟩; refine zas rfl (hd 4 rfl) <| jo_nil <| jc_ret ?_
        refine ⟨_, _, (.cons rfl .nil), .n, ?_⟩
        rw [trm_dvl (sum_lt (by omega) (by omega))]

theorem rSub_s (x y : Nat) (hle : y ≤ x) (hx : (digs B32 x).length < 1099511627776) (hy : (digs B32 y).length < 1099511627776) : Spec Try.prog 99 [.n false .u64 (digs B32 x), .n false .u64 (digs B32 y)] (fun o => o = .ret (.n false .u64 (digs B32 (x - y)))) := by
  refine spec_of' [(0, .n false .u64 (digs B32 x)), (1, .n false .u64 (digs B32 y))] rfl Try.func99 rfl (zlb rfl) fun Γ hN hds hL hR => ?_
  have hd := hdOf 39 hN
  refine zsr <| zas rfl (hd 4 rfl) <| jo_nil <| zsr <| zmv rfl (hd 9 rfl) <| jo_l (ly_lenn sl33 rfl) (hd 10 rfl) <| jo_h (hy_mk (m := (digs B32 x).length) el33 rfl rfl rfl (by show 8 * (digs B32 x).length ≤ _; omega) (by unfold maxLen; omega) rfl) (hd 11 rfl) <| zas rfl (hd 5 rfl) <| jo_nil <| jc_seq <| jc_H (H' := [⟨67, 1, 0, true, ints .u64 (fillI (dvl (x - y) 0) (digs B32 x).length)⟩]) (by rw [← dvl_start]; rfl) ?_; refine jc_region <| zas rfl (hd 6 rfl) <| jo_nil <| jc_seq <| zsr <| zmv rfl (hd 12 rfl) <| jo_l (ly_lenn sl33 rfl) (hd 13 rfl) <| zmv rfl (hd 14 rfl) <| jo_nil <| jc_block ?_
  refine jc_loopF (G := Nat) (fun i => i ≤ (digs B32 x).length) (fun i => [(6, .i .u64 (brw x y i : Int)), (14, .i .i64 (i : Int)), (7, .u), (8, .u), (15, .u), (16, .u), (17, .u), (18, .u), (19, .u), (20, .u), (21, .u), (22, .u), (23, .u), (24, .u), (25, .u), (26, .u), (27, .u), (28, .u), (29, .u), (30, .u), (31, .u), (32, .u), (33, .u), (34, .u), (35, .u), (36, .u)]) (fun i => [⟨67, 1, 0, true, ints .u64 (fillI (dvl (x - y) i) ((digs B32 x).length))⟩]) (fun i => (digs B32 x).length - i) 0 ?_ ?_ rfl ?_
  · exact Nat.zero_le _
  · exact (.cons (by show some (V.i .u64 _) = some (V.i .u64 _); rw [brw_0]; rfl) (.cons rfl (.u (.u (.u (.u (.u (.u (.u (.u (.u (.u (.u (.u (.u (.u (.u (.u (.u (.u (.u (.u (.u (.u (.u (.u .nil))))))))))))))))))))))))))
  · rintro i hc1
    have hfl := fill_len (z := x - y) hc1
    have hcl := brw_le x y i
    have had := sub_digit hle i
    have hvx := digs_at (b := B32) (by decide) i x
    obtain ⟨dx, hdx⟩ : ∃ q, x / B32 ^ i % B32 = q := ⟨_, rfl⟩
    obtain ⟨dy, hdy⟩ : ∃ q, y / B32 ^ i % B32 = q := ⟨_, rfl⟩
    have hb1 : x / B32 ^ i % B32 < 4294967296 := Nat.mod_lt _ (by decide)
    have hb2 : y / B32 ^ i % B32 < 4294967296 := Nat.mod_lt _ (by decide)
    rw [hdx] at hb1
    rw [hdy] at hb2
    rw [hdx, hdy] at had
    rw [hdx] at hvx
    have hv1 : (dx + 4294967296 - dy - brw x y i) % 4294967296 = (x - y) / B32 ^ i % B32 := had.1
    have hv2 : 1 - (dx + 4294967296 - dy - brw x y i) / 4294967296 = brw x y (i + 1) := had.2
    refine zsr <| jo_l (ly_lt rfl rfl) (hd 15 rfl) <| jo_nil <| jc_seq ?_
    refine jc_if rfl (fun h1 => ?_) (fun h1 => ?_)
    · refine jc_skip <| jc_seq <| jc_block <| zsr <| zmv rfl (hd 16 rfl) <| zas rfl (hd 7 rfl) <| jo_nil <| jc_seq <| jc_draw (n := 12) _ rfl mixed <| zal2 0 [2, 3, 4, 8, 10, 11] (lo_l (ly_mv rfl) (hd 17 rfl)) rfl <| zal2 1 [2, 3, 4, 8, 10, 11] (lo_l (ly_mv rfl) (hd 18 rfl)) rfl <| zal2 2 [3, 4, 8, 10, 11] (lo_l (ly_ian (i := i) sl33 rfl rfl (by first | rfl | omega) (by omega)) (hd 19 rfl)) rfl ?_; refine zal2 3 [4, 8, 10, 11] (lo_l (ly_is (ly_ldq one82 rfl rfl) (by exact congrArg (V.i .u64) hvx)) (hd 20 rfl)) rfl <| zal2 4 [8, 10, 11] (lo_l (ly_add rfl rfl (r := ((dx + 4294967296 : Nat) : Int)) (by rw [wrap_u64 (by omega) (by omega)]; omega)) (hd 21 rfl)) rfl <| zal2 5 [7, 8, 10, 11] (lo_l (ly_mv rfl) (hd 22 rfl)) rfl <| zal2 6 [7, 8, 10, 11] (lo_l (ly_mv rfl) (hd 23 rfl)) rfl <| zal 9 (lo_l (ly_mv rfl) (hd 26 rfl)) rfl ?_
      refine ja_1 7 ?_ rfl (by kernel_rfl)
      refine js_call Try.f115 (at_s y i dy hy hdy) rfl Try.func115 rfl rfl (ovL_cons rfl (ovL_cons rfl ovL_nil)) (.cons .n (.cons .i .nil)) (hd 24 rfl) ?_ (fun ch hp => by simp at hp)
      rintro _ ⟨⟩; refine zal 8 (lo_l (ly_sub rfl rfl (r := ((dx + 4294967296 - dy : Nat) : Int)) (by rw [wrap_u64 (by omega) (by omega)]; omega)) (hd 25 rfl)) rfl <| zal 10 (lo_l (ly_sub rfl rfl (r := ((dx + 4294967296 - dy - brw x y i : Nat) : Int)) (by rw [wrap_u64 (by omega) (by omega)]; omega)) (hd 27 rfl)) rfl <| zal 11 (lo_l (ly_as rfl) (hd 8 rfl)) rfl <| ja_nil (by kernel_rfl) <| zsr <| zmv rfl (hd 28 rfl) <| zmv rfl (hd 29 rfl) <| zmv rfl (hd 30 rfl) <| jo_l (ly_is (ly_rem rfl rfl (by decide) rfl) (show V.i .u64 (((dx + 4294967296 - dy - brw x y i : Nat) : Int).tmod 4294967296) = V.i .u64 (dgt (x - y) i) by rw [show (((dx + 4294967296 - dy - brw x y i : Nat) : Int).tmod 4294967296) = (((dx + 4294967296 - dy - brw x y i) % 4294967296 : Nat) : Int) from rfl, hv1]; rfl)) (hd 31 rfl) <| jo_l (ly_ia (i := i) sl33 rfl rfl rfl (by first | rfl | omega) (by first | omega | (dsimp only; omega)) rfl) (hd 32 rfl) <| jo_st (sy_storei rfl rfl rfl one82 (by first | omega | (dsimp only; omega))) <| jo_nil ?_; refine jc_region <| zmv rfl (hd 33 rfl) <| jo_l (ly_quo rfl rfl (by decide) (r := (((dx + 4294967296 - dy - brw x y i) / 4294967296 : Nat) : Int)) (by rw [show (((dx + 4294967296 - dy - brw x y i : Nat) : Int).tdiv 4294967296) = (((dx + 4294967296 - dy - brw x y i) / 4294967296 : Nat) : Int) from rfl, wrap_u64 (by omega) (by omega)])) (hd 34 rfl) <| jo_l (ly_sub rfl rfl (r := ((brw x y (i + 1) : Nat) : Int)) (by rw [← hv2]; rw [wrap_u64 (by omega) (by omega)]; omega)) (hd 35 rfl) <| zas rfl (hd 6 rfl) <| jo_nil <| jc_region <| jo_l (ly_add rfl rfl (wrap_i64 (by first | omega | (dsimp only; omega)) (by first | omega | (dsimp only; omega)))) (hd 36 rfl) <| zmv rfl (hd 14 rfl) <| jo_nil ?_
      refine ⟨i + 1, ?_, ?_, (by show [(⟨67, 1, 0, true, ints .u64 _⟩ : Ob)] = [⟨67, 1, 0, true, ints .u64 _⟩]; rw [fill_dvl (by omega)]), cov_n 52 rfl rfl ?_⟩
      · omega
      · omega
      · exact (.cons rfl (.cons rfl (.u (.u (.u (.u (.u (.u (.u (.u (.u (.u (.u (.u (.u (.u (.u (.u (.u (.u (.u (.u (.u (.u (.u (.u .nil))))))))))))))))))))))))))
    · refine jc_exit <| jc_seq ?_
      obtain rfl : i = (digs B32 x).length := by omega
      refine jc_frz (k := .u64) (l' := dvl (x - y) (digs B32 x).length) 5 rfl rfl (by rw [fill_all, dvl_len]; omega) (by rw [fill_all, List.drop_zero, List.take_of_length_le (by rw [dvl_len]; omega)]) hL <| jc_region <| zmv rfl (hd 37 rfl) ?_
      refine jo_call Try.f95 (rnorm_s (dvl (x - y) (digs B32 x).length) (by rw [dvl_len]; omega)) rfl Try.func95 rfl rfl (ovL_cons rfl ovL_nil) (.cons .n .nil) (hd 38 rfl) ?_ (fun ch hp => by simp at hp)
      rintro _ ⟨⟩; refine zas rfl (hd 4 rfl) <| jo_nil <| jc_ret ?_
      refine ⟨_, _, (.cons rfl .nil), .n, ?_⟩
      rw [trm_dvl dif_lt]

theorem rMul_r (a b : List Int) (hla : a.length < 549755813888) (hlb : b.length < 549755813888) (ra : rng B32 a) (rb : rng B32 b) : Spec Try.prog 81 [.n false .u64 a, .n false .u64 b] (fun o => ∃ r, o = .ret (.n false .u64 (trm r)) ∧ rng B32 r ∧ vb B32 r = vb B32 a * vb B32 b) := by
  refine spec_of' [(0, .n false .u64 a), (1, .n false .u64 b)] rfl Try.func81 rfl (zlb rfl) fun Γ hN hds hL hR => ?_
  have hd := hdOf 65 hN
  have hB : B32 = 4294967296 := rfl
  refine zsr <| zas rfl (hd 4 rfl) <| jo_nil <| zsr <| zmv rfl (hd 12 rfl) <| jo_l (ly_lenn sl33 rfl) (hd 13 rfl) <| zmv rfl (hd 14 rfl) <| jo_l (ly_lenn sl33 rfl) (hd 15 rfl) <| jo_l (ly_add rfl rfl (r := ((a.length + b.length : Nat) : Int)) (by rw [wrap_i64 (by omega) (by omega)]; omega)) (hd 16 rfl) <| jo_l (ly_add rfl rfl (r := ((a.length + b.length + 1 : Nat) : Int)) (by rw [wrap_i64 (by omega) (by omega)]; omega)) (hd 17 rfl) <| jo_h (hy_mk (m := a.length + b.length + 1) el33 rfl rfl rfl (by show 8 * (a.length + b.length + 1) ≤ _; omega) (by unfold maxLen; omega) rfl) (hd 18 rfl) ?_; refine zas rfl (hd 5 rfl) <| jo_nil <| jc_seq <| zsr <| zmv rfl (hd 19 rfl) <| jo_l (ly_lenn sl33 rfl) (hd 20 rfl) <| zmv rfl (hd 21 rfl) <| jo_nil <| jc_block ?_
  refine jc_loopF (G := Nat × List Int) (fun g => g.1 ≤ a.length ∧ g.2.length = a.length + b.length + 1 ∧ rng B32 g.2 ∧ D.vl g.2 = D.vk a g.1 * D.vl b ∧ ∀ j, g.1 + b.length ≤ j → g.2.getD j 0 = 0) (fun g => [(21, .i .i64 (g.1 : Int)), (6, .u), (7, .u), (8, .u), (9, .u), (10, .u), (11, .u), (22, .u), (23, .u), (24, .u), (25, .u), (26, .u), (27, .u), (28, .u), (29, .u), (30, .u), (31, .u), (32, .u), (33, .u), (34, .u), (35, .u), (36, .u), (37, .u), (38, .u), (39, .u), (40, .u), (41, .u), (42, .u), (43, .u), (44, .u), (45, .u), (46, .u), (47, .u), (48, .u), (49, .u), (50, .u), (51, .u), (52, .u), (53, .u), (54, .u), (55, .u), (56, .u), (57, .u), (58, .u), (59, .u), (60, .u), (61, .u), (62, .u)]) (fun g => [⟨67, 1, 0, true, ints .u64 g.2⟩]) (fun g => a.length - g.1) (0, List.replicate (a.length + b.length + 1) 0) ?_ ?_ rfl ?_
  · exact ⟨Nat.zero_le _, List.length_replicate, fun x hx => by rw [List.eq_of_mem_replicate hx]; exact ⟨Int.le_refl 0, by decide⟩, by show D.vl (List.replicate (a.length + b.length + 1) 0) = D.vk a 0 * _; rw [D.vk_0, Int.zero_mul, ← vb_D]; have h9 := vb_app 4294967296 [] (a.length + b.length + 1); rw [List.nil_append] at h9; exact h9, fun j _ => getD_zeros _ j⟩
  · exact (.cons rfl (.u (.u (.u (.u (.u (.u (.u (.u (.u (.u (.u (.u (.u (.u (.u (.u (.u (.u (.u (.u (.u (.u (.u (.u (.u (.u (.u (.u (.u (.u (.u (.u (.u (.u (.u (.u (.u (.u (.u (.u (.u (.u (.u (.u (.u (.u (.u .nil))))))))))))))))))))))))))))))))))))))))))))))))
  · rintro ⟨i, r⟩ ⟨hc1, hc2, hc3, hc4, hc5⟩
    dsimp only at hc1 hc2 hc3 hc4 hc5 ⊢
    have hX : 0 ≤ a.getD i 0 ∧ a.getD i 0 < 4294967296 := rng_getD (by decide) ra i
    refine zsr <| jo_l (ly_lt rfl rfl) (hd 22 rfl) <| jo_nil <| jc_seq ?_
    refine jc_if rfl (fun h1 => ?_) (fun h1 => ?_)
    · refine jc_skip <| jc_seq <| jc_block <| zsr <| zmv rfl (hd 23 rfl) <| jo_l (ly_ian (i := i) sl33 rfl rfl (by first | rfl | omega) (by first | omega | (dsimp only; omega))) (hd 24 rfl) <| jo_l (ly_ldq one82 rfl rfl) (hd 25 rfl) <| zas rfl (hd 6 rfl) <| zas rfl (hd 7 rfl) <| jo_nil <| jc_seq <| jc_region ?_; refine zas rfl (hd 8 rfl) <| jo_nil <| jc_seq <| zsr <| zmv rfl (hd 26 rfl) <| jo_l (ly_lenn sl33 rfl) (hd 27 rfl) <| zmv rfl (hd 28 rfl) <| jo_nil <| jc_block ?_
      refine jc_loopF (G := Nat × List Int × Int) (fun g => g.1 ≤ b.length ∧ g.2.1.length = a.length + b.length + 1 ∧ rng B32 g.2.1 ∧ (0 ≤ g.2.2 ∧ g.2.2 < 4294967296) ∧ D.vl g.2.1 + g.2.2 * D.pB (i + g.1) = D.vl r + a.getD i 0 * D.pB i * D.vk b g.1 ∧ ∀ j, i + b.length ≤ j → g.2.1.getD j 0 = 0) (fun g => [(8, .i .u64 g.2.2), (28, .i .i64 (g.1 : Int)), (9, .u), (10, .u), (11, .u), (29, .u), (30, .u), (31, .u), (32, .u), (33, .u), (34, .u), (35, .u), (36, .u), (37, .u), (38, .u), (39, .u), (40, .u), (41, .u), (42, .u), (43, .u), (44, .u), (45, .u), (46, .u), (47, .u), (48, .u), (49, .u), (50, .u), (51, .u), (52, .u), (53, .u), (54, .u)]) (fun g => [⟨67, 1, 0, true, ints .u64 g.2.1⟩]) (fun g => b.length - g.1) (0, r, 0) ?_ ?_ rfl ?_
      · exact ⟨Nat.zero_le _, hc2, hc3, ⟨Int.le_refl 0, by show (0 : Int) < _; decide⟩, by show D.vl r + 0 * _ = _ + _ * D.vk b 0; rw [D.vk_0, Int.mul_zero, Int.zero_mul], hc5⟩
      · exact (.cons rfl (.cons rfl (.u (.u (.u (.u (.u (.u (.u (.u (.u (.u (.u (.u (.u (.u (.u (.u (.u (.u (.u (.u (.u (.u (.u (.u (.u (.u (.u (.u (.u .nil)))))))))))))))))))))))))))))))
      · rintro ⟨k, q, c⟩ ⟨hd1, hd2, hd3, hd4, hd5, hd6⟩
        dsimp only at hd1 hd2 hd3 hd4 hd5 hd6
        have hY : 0 ≤ b.getD k 0 ∧ b.getD k 0 < 4294967296 := rng_getD (by decide) rb k
        have hT : 0 ≤ q.getD (i + k) 0 ∧ q.getD (i + k) 0 < 4294967296 := rng_getD (by decide) hd3 (i + k)
        have hP := mul_bd (m := 4294967295) hX.1 hY.1 (by omega) (by omega)
        have hP2 : (a.getD i 0 * b.getD k 0) ≤ 18446744065119617025 := by have := hP.2; simpa using this
        have hP1 := hP.1
        refine zsr <| jo_l (ly_lt rfl rfl) (hd 29 rfl) <| jo_nil <| jc_seq ?_
        refine jc_if rfl (fun h2 => ?_) (fun h2 => ?_)
        · refine jc_skip <| jc_seq <| jc_block <| zsr <| zmv rfl (hd 30 rfl) <| jo_l (ly_ian (i := k) sl33 rfl rfl (by first | rfl | omega) (by first | omega | (dsimp only; omega))) (hd 31 rfl) <| jo_l (ly_ldq one82 rfl rfl) (hd 32 rfl) <| zas rfl (hd 9 rfl) <| zas rfl (hd 10 rfl) <| jo_nil <| jc_seq <| jc_region ?_; refine zmv rfl (hd 33 rfl) <| zmv rfl (hd 34 rfl) <| jo_l (ly_mul rfl rfl (r := (a.getD i 0 * b.getD k 0)) (by rw [wrap_u64 (by omega) (by omega)])) (hd 35 rfl) <| zmv rfl (hd 36 rfl) <| zmv rfl (hd 37 rfl) <| zmv rfl (hd 38 rfl) <| jo_l (ly_add rfl rfl (r := ((i + k : Nat) : Int)) (by rw [wrap_i64 (by omega) (by omega)]; omega)) (hd 39 rfl) <| jo_l (ly_ia (i := i + k) sl33 rfl rfl rfl (by first | rfl | omega) (by first | omega | (dsimp only; omega)) rfl) (hd 40 rfl) <| jo_l (ly_is (ly_ldi one82 rfl rfl (by dsimp only; omega)) (show V.i .u64 (q.getD ((0 + (i + k)) * 1) 0) = V.i .u64 (q.getD (i + k) 0) by rw [Nat.zero_add, Nat.mul_one])) (hd 41 rfl) <| jo_l (ly_add rfl rfl (r := (a.getD i 0 * b.getD k 0) + q.getD (i + k) 0) (by rw [wrap_u64 (by omega) (by omega)])) (hd 42 rfl) <| zmv rfl (hd 43 rfl) <| jo_l (ly_add rfl rfl (r := ((a.getD i 0 * b.getD k 0) + q.getD (i + k) 0 + c)) (by rw [wrap_u64 (by dsimp only; omega) (by dsimp only; omega)])) (hd 44 rfl) <| zas rfl (hd 11 rfl) ?_; refine jo_nil <| zsr <| zmv rfl (hd 45 rfl) <| zmv rfl (hd 46 rfl) <| zmv rfl (hd 47 rfl) <| jo_l (ly_add rfl rfl (r := ((i + k : Nat) : Int)) (by rw [wrap_i64 (by omega) (by omega)]; omega)) (hd 48 rfl) <| zmv rfl (hd 49 rfl) <| jo_l (ly_is (ly_rem rfl rfl (by decide) rfl) (congrArg (V.i .u64) (Int.tmod_eq_emod_of_nonneg (by omega)))) (hd 50 rfl) <| jo_l (ly_ia (i := i + k) sl33 rfl rfl rfl (by first | rfl | omega) (by first | omega | (dsimp only; omega)) rfl) (hd 51 rfl) <| jo_st (sy_storei rfl rfl rfl one82 (by dsimp only; omega)) <| jo_nil <| jc_region ?_; refine zmv rfl (hd 52 rfl) <| jo_l (ly_quo rfl rfl (by decide) (r := ((a.getD i 0 * b.getD k 0) + q.getD (i + k) 0 + c) / 4294967296) (by rw [Int.tdiv_eq_ediv_of_nonneg (by omega), wrap_u64 (by omega) (by omega)])) (hd 53 rfl) <| zas rfl (hd 8 rfl) <| jo_nil <| jc_region <| jo_l (ly_add rfl rfl (wrap_i64 (by first | omega | (dsimp only; omega)) (by first | omega | (dsimp only; omega)))) (hd 54 rfl) <| zmv rfl (hd 28 rfl) <| jo_nil ?_
          refine ⟨(k + 1, q.set ((0 + (i + k)) * 1) (((a.getD i 0 * b.getD k 0) + q.getD (i + k) 0 + c) % 4294967296), ((a.getD i 0 * b.getD k 0) + q.getD (i + k) 0 + c) / 4294967296), ?_, ?_, rfl, cov_n 62 rfl rfl ?_⟩
          · refine ⟨by show k + 1 ≤ b.length; omega, by rw [List.length_set]; exact hd2, rng_set hd3 (by omega) (by show _ < ((4294967296 : Nat) : Int); omega), ⟨by show 0 ≤ ((a.getD i 0 * b.getD k 0) + q.getD (i + k) 0 + c) / 4294967296; omega, by show ((a.getD i 0 * b.getD k 0) + q.getD (i + k) 0 + c) / 4294967296 < 4294967296; omega⟩, ?_, fun j hj => ?_⟩
            · exact D.school_in (by omega) (by rw [Nat.zero_add, Nat.mul_one]) rfl hd5 (by show ((a.getD i 0 * b.getD k 0) + q.getD (i + k) 0 + c) % 4294967296 + 4294967296 * (((a.getD i 0 * b.getD k 0) + q.getD (i + k) 0 + c) / 4294967296) = q.getD (i + k) 0 + (a.getD i 0 * b.getD k 0) + c; omega)
            · rw [Nat.zero_add, Nat.mul_one, getD_set (by omega)]; exact hd6 j hj
          · show b.length - (k + 1) < b.length - k
            omega
          · exact (.cons rfl (.cons rfl (.u (.u (.u (.u (.u (.u (.u (.u (.u (.u (.u (.u (.u (.u (.u (.u (.u (.u (.u (.u (.u (.u (.u (.u (.u (.u (.u (.u (.u .nil)))))))))))))))))))))))))))))))
        · obtain rfl : k = b.length := by omega
          refine jc_exit <| jc_region <| zmv rfl (hd 55 rfl) <| zmv rfl (hd 56 rfl) <| zmv rfl (hd 57 rfl) <| jo_l (ly_lenn sl33 rfl) (hd 58 rfl) <| jo_l (ly_add rfl rfl (r := ((i + b.length : Nat) : Int)) (by rw [wrap_i64 (by omega) (by omega)]; omega)) (hd 59 rfl) <| zmv rfl (hd 60 rfl) <| jo_l (ly_ia (i := i + b.length) sl33 rfl rfl rfl (by first | rfl | omega) (by first | omega | (dsimp only; omega)) rfl) (hd 61 rfl) <| jo_st (sy_storei rfl rfl rfl one82 (by dsimp only; omega)) <| jo_nil <| jc_region <| jo_l (ly_add rfl rfl (wrap_i64 (by first | omega | (dsimp only; omega)) (by first | omega | (dsimp only; omega)))) (hd 62 rfl) ?_; refine zmv rfl (hd 21 rfl) <| jo_nil ?_
          refine ⟨(i + 1, q.set ((0 + (i + b.length)) * 1) c), ?_, ?_, rfl, cov_n 99 rfl rfl ?_⟩
          · exact ⟨by show i + 1 ≤ a.length; omega, by rw [List.length_set]; exact hd2, rng_set hd3 hd4.1 hd4.2, D.school_row (by omega) (hd6 _ (Nat.le_refl _)) (by rw [Nat.zero_add, Nat.mul_one]) (by rw [hd5, hc4]), fun j hj => by rw [Nat.zero_add, Nat.mul_one, getD_set (by omega)]; exact hd6 j (by omega)⟩
          · show a.length - (i + 1) < a.length - i
            omega
          · exact (.cons rfl (.u (.u (.u (.u (.u (.u (.u (.u (.u (.u (.u (.u (.u (.u (.u (.u (.u (.u (.u (.u (.u (.u (.u (.u (.u (.u (.u (.u (.u (.u (.u (.u (.u (.u (.u (.u (.u (.u (.u (.u (.u (.u (.u (.u (.u (.u (.u .nil))))))))))))))))))))))))))))))))))))))))))))))))
    · refine jc_exit <| jc_seq ?_
      obtain rfl : i = a.length := by omega
      refine jc_frz (k := .u64) (l' := r) 5 rfl rfl (by omega) (by rw [List.drop_zero, List.take_of_length_le (by omega)]) hL <| jc_region <| zmv rfl (hd 63 rfl) ?_
      refine jo_call Try.f95 (rnorm_s r (by omega)) rfl Try.func95 rfl rfl (ovL_cons rfl ovL_nil) (.cons .n .nil) (hd 64 rfl) ?_ (fun ch hp => by simp at hp)
      rintro _ ⟨⟩; refine zas rfl (hd 4 rfl) <| jo_nil <| jc_ret ?_
      refine ⟨_, _, (.cons rfl .nil), .n, ?_⟩
      exact ⟨r, rfl, hc3, by rw [vb_D, vb_D, vb_D, hc4, D.vk_all (Nat.le_refl _)]⟩

theorem rMul_s (x y : Nat) (hx : (digs B32 x).length < 549755813888) (hy : (digs B32 y).length < 549755813888) : Spec Try.prog 81 [.n false .u64 (digs B32 x), .n false .u64 (digs B32 y)] (fun o => o = .ret (.n false .u64 (digs B32 (x * y)))) :=
  (rMul_r _ _ hx hy (rng_digs (by decide) x) (rng_digs (by decide) y)).mono fun o ⟨r, ho, h1, h2⟩ => by
    rw [ho, trm_digs (b := B32) (n := x * y) (by decide) h1 (by rw [h2, vb_digs (by decide), vb_digs (by decide), Int.natCast_mul])]



theorem From_n (v : Int) : SpecM Try.prog 58 [.i .u64 v] [] (fun o G => o = .ret (.o 0 0 0 (fl v).length) ∧ G = [⟨67, 1, 0, true, ints .u64 (fl v)⟩]) := by
  refine specS_of [(0, .i .u64 v)] rfl Try.func58 rfl (zlb rfl) fun Γ hN hds hL hR => ?_
  have hd := hdOf 7 hN
  refine zsr <| zas rfl (hd 2 rfl) <| jo_nil <| jc_seq <| zsr <| zmv rfl (hd 3 rfl) <| jo_l (ly_eq rfl rfl) (hd 4 rfl) <| jo_nil ?_
  refine jc_if rfl (fun h1 => ?_) (fun h1 => ?_)
  · refine zsr <| zas rfl (hd 2 rfl) <| jo_nil <| jc_own0 2 67 1 rfl rfl <| jc_ret ?_
    refine ⟨[0], _, (.o 0 0 0 0), (.cons rfl .nil), rfl, rfl, (by decide), (by first | exact idless_cons ints_id idless_nil | exact idless_cons rfl idless_nil), ?_⟩
    unfold fl
    rw [if_pos (by assumption)]
    exact ⟨rfl, rfl⟩
  · refine jc_skip <| zsr <| zmv rfl (hd 5 rfl) <| jo_h (hy_lit (id := 0) (xs := [.tmp 5]) el28 rfl (ovL_cons rfl ovL_nil) rfl (all2_of rfl) (by decide) rfl) (hd 6 rfl) <| zas rfl (hd 2 rfl) <| jo_nil <| jc_ret ?_
    refine ⟨[0], _, (.o 0 0 0 1), (.cons rfl .nil), rfl, rfl, (by decide), (by first | exact idless_cons ints_id idless_nil | exact idless_cons rfl idless_nil), ?_⟩
    unfold fl
    rw [if_neg (by assumption)]
    exact ⟨rfl, rfl⟩

end Go.Proofs.Ytpldmajdiljoaaa.Vc
