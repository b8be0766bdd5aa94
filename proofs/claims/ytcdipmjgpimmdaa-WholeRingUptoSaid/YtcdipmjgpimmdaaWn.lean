/- Contract of mul.addAt. -/
import Derived.Test.YtcdipmjgpimmdaaWm
set_option linter.unusedVariables false
set_option linter.unusedSimpArgs false
namespace Go.Proofs.Ytcdipmjgpimmdaa.Vc
open Go Go.RowKit
set_option maxHeartbeats 4000000 in
theorem addAt_s (r b : List Int) (n at_ : Nat) (hr : r.length = n) (hn : n < 4398046511104) (hat : at_ < 4398046511104) (hlb : b.length < 4398046511104) (ur : u64s r) (ub : u64s b) (hfit : vl r + pB at_ * vl b < pB n) : SpecM Try.prog 103 [.o 0 0 0 n, .n false .u64 b, .i .i64 (at_ : Int)] ([⟨82, 1, 0, true, ints .u64 r⟩]) (fun o H' => o = .ret (.t []) ∧ ∃ r2, H' = [⟨82, 1, 0, true, ints .u64 r2⟩] ∧ r2.length = n ∧ u64s r2 ∧ vl r2 = vl r + pB at_ * vl b) := by
  refine specM_of [(0, .o 0 0 0 n), (1, .n false .u64 b), (2, .i .i64 (at_ : Int))] rfl (1) rfl Try.func103 rfl (Nat.le_of_ble_eq_true rfl) fun Γ hN hds => ?_
  have hd : ∀ d, Nat.blt d 53 = true → d < Γ.N := fun d h => by rw [hN]; exact Nat.le_of_ble_eq_true h
  refine jc_seq ?_
  refine jc_region ?_
  refine jo_l (ly_as rfl) (hd 6 rfl) ?_
  refine jo_nil ?_
  refine jc_seq ?_
  refine jc_region ?_
  refine jo_l (ly_mv rfl) (hd 9 rfl) ?_
  refine jo_l (ly_as rfl) (hd 7 rfl) ?_
  refine jo_nil ?_
  refine jc_block ?_
  refine jc_loopF (G := Nat × List Int × Int) (fun g => at_ ≤ g.1 ∧ g.1 ≤ n + at_ ∧ g.2.1.length = n ∧ u64s g.2.1 ∧ vl g.2.1 + g.2.2 * pB g.1 = vl r + pB at_ * vk b (g.1 - at_) ∧ 0 ≤ g.2.2 ∧ g.2.2 ≤ 1) (fun g => [(6, .i .u64 g.2.2), (7, .i .i64 (g.1 : Int)), (8, .u), (10, .u), (11, .u), (12, .u), (13, .u), (14, .u), (15, .u), (16, .u), (17, .u), (18, .u), (19, .u), (20, .u), (21, .u), (22, .u), (23, .u), (24, .u), (25, .u), (26, .u), (27, .u), (28, .u), (29, .u), (30, .u), (31, .u), (32, .u), (33, .u), (34, .u), (35, .u), (36, .u), (37, .u), (38, .u), (39, .u), (40, .u), (41, .u), (42, .u), (43, .u), (44, .u), (45, .u), (46, .u), (47, .u), (48, .u), (49, .u), (50, .u), (51, .u), (52, .u)]) (fun g => [⟨82, 1, 0, true, ints .u64 g.2.1⟩]) (fun g => n - g.1) (at_, r, 0) ?_ ?_ rfl ?_
  · exact ⟨Nat.le_refl _, by show at_ ≤ n + at_; omega, hr, ur, by show vl r + 0 * _ = _ + _ * vk b (at_ - at_); rw [Nat.sub_self, vk_0, Int.mul_zero, Int.zero_mul], Int.le_refl 0, (by decide : (0 : Int) ≤ 1)⟩
  · exact (.cons rfl (.cons rfl (.u (.u (.u (.u (.u (.u (.u (.u (.u (.u (.u (.u (.u (.u (.u (.u (.u (.u (.u (.u (.u (.u (.u (.u (.u (.u (.u (.u (.u (.u (.u (.u (.u (.u (.u (.u (.u (.u (.u (.u (.u (.u (.u (.u .nil))))))))))))))))))))))))))))))))))))))))))))))
  · rintro ⟨i, q, c⟩ ⟨hc1, hc0, hc3, hc4, hc5, hc6, hc7⟩
    dsimp only at hc1 hc0 hc3 hc4 hc5 hc6 hc7
    have hT := u64s_getD hc4 i
    have hY := u64s_getD ub (i - at_)
    refine jc_seq ?_
    refine jc_seq ?_
    refine jc_region ?_
    refine jo_l (ly_mv rfl) (hd 10 rfl) ?_
    refine jo_l (ly_mv rfl) (hd 11 rfl) ?_
    refine jo_l (ly_leno sl28 rfl rfl) (hd 12 rfl) ?_
    refine jo_l (ly_lt rfl rfl) (hd 13 rfl) ?_
    refine jo_l (ly_mv rfl) (hd 14 rfl) ?_
    refine jo_ifp 14 rfl (fun h1 => ?_) (fun h1 => ?_)
    · refine jo_g 14 rfl rfl (ly_mv rfl) (hd 15 rfl) ?_
      refine jo_g 14 rfl rfl (ly_mv rfl) (hd 16 rfl) ?_
      refine jo_g 14 rfl rfl (ly_sub rfl rfl (r := ((i - at_ : Nat) : Int)) (by rw [wrap_i64 (by omega) (by omega)]; omega)) (hd 17 rfl) ?_
      refine jo_g 14 rfl rfl (ly_mv rfl) (hd 18 rfl) ?_
      refine jo_g 14 rfl rfl (ly_lenn sl28 rfl) (hd 19 rfl) ?_
      refine jo_g 14 rfl rfl (ly_lt rfl rfl) (hd 20 rfl) ?_
      refine jo_g 14 rfl rfl (ly_mv rfl) (hd 21 rfl) ?_
      refine jo_ifp 21 rfl (fun h2 => ?_) (fun h2 => ?_)
      · refine jo_s 21 rfl rfl rfl (hd 22 rfl) ?_
        refine jo_s 21 rfl rfl rfl (hd 23 rfl) ?_
        refine jo_g 14 rfl rfl (ly_pick_t rfl rfl) (hd 24 rfl) ?_
        refine jo_l (ly_pick_t rfl rfl) (hd 25 rfl) ?_
        refine jo_nil ?_
        refine jc_litt rfl ?_
        refine jc_skip ?_
        refine jc_seq ?_
        refine jc_block ?_
        refine jc_seq ?_
        refine jc_region ?_
        refine jo_l (ly_as rfl) (hd 8 rfl) ?_
        refine jo_nil ?_
        refine jc_meetH (G := Unit) (fun _ => True) (fun _ => [(8, .i .u64 (b.getD (i - at_) 0)), (28, .u), (29, .u), (30, .u), (31, .u), (32, .u), (33, .u), (34, .u), (35, .u), (36, .u), (37, .u), (38, .u), (39, .u)]) ?_ ?_
        · refine jc_seq ?_
          refine jc_region ?_
          refine jo_l (ly_mv rfl) (hd 28 rfl) ?_
          refine jo_l (ly_mv rfl) (hd 29 rfl) ?_
          refine jo_l (ly_sub rfl rfl (r := ((i - at_ : Nat) : Int)) (by rw [wrap_i64 (by omega) (by omega)]; omega)) (hd 30 rfl) ?_
          refine jo_l (ly_mv rfl) (hd 31 rfl) ?_
          refine jo_l (ly_lenn sl28 rfl) (hd 32 rfl) ?_
          refine jo_l (ly_lt rfl rfl) (hd 33 rfl) ?_
          refine jo_nil ?_
          refine jc_if rfl (fun h4 => ?_) (fun h4 => ?_)
          · refine jc_region ?_
            refine jo_l (ly_mv rfl) (hd 34 rfl) ?_
            refine jo_l (ly_mv rfl) (hd 35 rfl) ?_
            refine jo_l (ly_mv rfl) (hd 36 rfl) ?_
            refine jo_l (ly_sub rfl rfl (r := ((i - at_ : Nat) : Int)) (by rw [wrap_i64 (by omega) (by omega)]; omega)) (hd 37 rfl) ?_
            refine jo_l (ly_ian (i := i - at_) sl28 rfl rfl (by first | rfl | omega) (by first | omega | (dsimp only; omega))) (hd 38 rfl) ?_
            refine jo_l (ly_ldq one82 rfl rfl) (hd 39 rfl) ?_
            refine jo_l (ly_as rfl) (hd 8 rfl) ?_
            refine jo_nil ?_
            refine ⟨(), ?_, rfl, cov_n 13 rfl rfl ?_⟩
            · trivial
            · exact (.cons (by first | rfl | (show some (V.i .u64 _) = some (V.i .u64 _); rw [getD_ge (by omega)])) (.u (.u (.u (.u (.u (.u (.u (.u (.u (.u (.u (.u .nil)))))))))))))
          · refine jc_skip ?_
            refine ⟨(), ?_, rfl, cov_n 6 rfl rfl ?_⟩
            · trivial
            · exact (.cons (by first | rfl | (show some (V.i .u64 _) = some (V.i .u64 _); rw [getD_ge (by omega)])) (.u (.u (.u (.u (.u (.u (.u (.u (.u (.u (.u (.u .nil)))))))))))))
        · rintro _ _
          refine jc_region ?_
          refine jo_l (ly_mv rfl) (hd 41 rfl) ?_
          refine jo_l (ly_mv rfl) (hd 42 rfl) ?_
          refine jo_l (ly_mv rfl) (hd 43 rfl) ?_
          refine jo_l (ly_mv rfl) (hd 44 rfl) ?_
          refine jo_l (ly_ia (i := i) sl28 rfl rfl rfl (by first | rfl | omega) (by first | omega | (dsimp only; omega)) rfl) (hd 45 rfl) ?_
          refine jo_l (ly_is (ly_ldi one82 rfl rfl (by first | omega | (dsimp only; omega))) (show V.i .u64 (q.getD ((0 + i) * 1) 0) = V.i .u64 (q.getD i 0) by rw [Nat.zero_add, Nat.mul_one])) (hd 46 rfl) ?_
          refine jo_l (ly_mv rfl) (hd 47 rfl) ?_
          refine jo_l (ly_mv rfl) (hd 48 rfl) ?_
          refine jo_h (hy_ext3 (e := add64Entry) Try.func87 rfl rfl (by kernel_rfl) (by kernel_rfl) rfl rfl rfl (fun w => run_add64 _ _ _ hT.1 hY.1 hc6 hc7 w) rel_pair) (hd 49 rfl) ?_
          refine jo_l (ly_mv rfl) (hd 40 rfl) ?_
          refine jo_l (ly_ext rfl rfl) (hd 50 rfl) ?_
          refine jo_l (ly_ext rfl rfl) (hd 51 rfl) ?_
          refine jo_l (ly_ia (i := i) sl28 rfl rfl rfl (by first | rfl | omega) (by first | omega | (dsimp only; omega)) rfl) (hd 52 rfl) ?_
          refine jo_st (sy_storei rfl rfl rfl one82 (by first | omega | (dsimp only; omega))) ?_
          refine jo_l (ly_as rfl) (hd 6 rfl) ?_
          refine jo_nil ?_
          refine jc_region ?_
          refine jo_l (ly_mv rfl) (hd 26 rfl) ?_
          refine jo_l (ly_add rfl rfl (wrap_i64 (by first | omega | (dsimp only; omega)) (by first | omega | (dsimp only; omega)))) (hd 27 rfl) ?_
          refine jo_l (ly_as rfl) (hd 7 rfl) ?_
          refine jo_nil ?_
          refine ⟨(i + 1, q.set ((0 + i) * 1) ((q.getD i 0 + b.getD (i - at_) 0 + c) % 18446744073709551616), (q.getD i 0 + b.getD (i - at_) 0 + c) / 18446744073709551616), ?_, ?_, rfl, cov_n 95 rfl rfl ?_⟩
          · exact ⟨by omega, by omega, by rw [List.length_set]; exact hc3, u64s_set hc4 (by omega) (by omega), add_in (by omega) hc1 (by rw [Nat.zero_add, Nat.mul_one]) hc5 (by dsimp only; omega), by show 0 ≤ (q.getD i 0 + b.getD (i - at_) 0 + c) / 18446744073709551616; omega, by show (q.getD i 0 + b.getD (i - at_) 0 + c) / 18446744073709551616 ≤ 1; omega⟩
          · show n - (i + 1) < n - i
            omega
          · exact (.cons rfl (.cons rfl (.u (.u (.u (.u (.u (.u (.u (.u (.u (.u (.u (.u (.u (.u (.u (.u (.u (.u (.u (.u (.u (.u (.u (.u (.u (.u (.u (.u (.u (.u (.u (.u (.u (.u (.u (.u (.u (.u (.u (.u (.u (.u (.u (.u .nil))))))))))))))))))))))))))))))))))))))))))))))
      · refine jo_g 21 rfl rfl (ly_mv rfl) (hd 22 rfl) ?_
        refine jo_g 21 rfl rfl (ly_gt rfl rfl) (hd 23 rfl) ?_
        refine jo_g 14 rfl rfl (ly_pick_f rfl rfl) (hd 24 rfl) ?_
        refine jo_l (ly_pick_t rfl rfl) (hd 25 rfl) ?_
        refine jo_nil ?_
        refine jc_if rfl (fun h5 => ?_) (fun h5 => ?_)
        · refine jc_skip ?_
          refine jc_seq ?_
          refine jc_block ?_
          refine jc_seq ?_
          refine jc_region ?_
          refine jo_l (ly_as rfl) (hd 8 rfl) ?_
          refine jo_nil ?_
          refine jc_meetH (G := Unit) (fun _ => True) (fun _ => [(8, .i .u64 (b.getD (i - at_) 0)), (28, .u), (29, .u), (30, .u), (31, .u), (32, .u), (33, .u), (34, .u), (35, .u), (36, .u), (37, .u), (38, .u), (39, .u)]) ?_ ?_
          · refine jc_seq ?_
            refine jc_region ?_
            refine jo_l (ly_mv rfl) (hd 28 rfl) ?_
            refine jo_l (ly_mv rfl) (hd 29 rfl) ?_
            refine jo_l (ly_sub rfl rfl (r := ((i - at_ : Nat) : Int)) (by rw [wrap_i64 (by omega) (by omega)]; omega)) (hd 30 rfl) ?_
            refine jo_l (ly_mv rfl) (hd 31 rfl) ?_
            refine jo_l (ly_lenn sl28 rfl) (hd 32 rfl) ?_
            refine jo_l (ly_lt rfl rfl) (hd 33 rfl) ?_
            refine jo_nil ?_
            refine jc_if rfl (fun h6 => ?_) (fun h6 => ?_)
            · refine jc_region ?_
              refine jo_l (ly_mv rfl) (hd 34 rfl) ?_
              refine jo_l (ly_mv rfl) (hd 35 rfl) ?_
              refine jo_l (ly_mv rfl) (hd 36 rfl) ?_
              refine jo_l (ly_sub rfl rfl (r := ((i - at_ : Nat) : Int)) (by rw [wrap_i64 (by omega) (by omega)]; omega)) (hd 37 rfl) ?_
              refine jo_l (ly_ian (i := i - at_) sl28 rfl rfl (by first | rfl | omega) (by first | omega | (dsimp only; omega))) (hd 38 rfl) ?_
              refine jo_l (ly_ldq one82 rfl rfl) (hd 39 rfl) ?_
              refine jo_l (ly_as rfl) (hd 8 rfl) ?_
              refine jo_nil ?_
              refine ⟨(), ?_, rfl, cov_n 13 rfl rfl ?_⟩
              · trivial
              · exact (.cons (by first | rfl | (show some (V.i .u64 _) = some (V.i .u64 _); rw [getD_ge (by omega)])) (.u (.u (.u (.u (.u (.u (.u (.u (.u (.u (.u (.u .nil)))))))))))))
            · refine jc_skip ?_
              refine ⟨(), ?_, rfl, cov_n 6 rfl rfl ?_⟩
              · trivial
              · exact (.cons (by first | rfl | (show some (V.i .u64 _) = some (V.i .u64 _); rw [getD_ge (by omega)])) (.u (.u (.u (.u (.u (.u (.u (.u (.u (.u (.u (.u .nil)))))))))))))
          · rintro _ _
            refine jc_region ?_
            refine jo_l (ly_mv rfl) (hd 41 rfl) ?_
            refine jo_l (ly_mv rfl) (hd 42 rfl) ?_
            refine jo_l (ly_mv rfl) (hd 43 rfl) ?_
            refine jo_l (ly_mv rfl) (hd 44 rfl) ?_
            refine jo_l (ly_ia (i := i) sl28 rfl rfl rfl (by first | rfl | omega) (by first | omega | (dsimp only; omega)) rfl) (hd 45 rfl) ?_
            refine jo_l (ly_is (ly_ldi one82 rfl rfl (by first | omega | (dsimp only; omega))) (show V.i .u64 (q.getD ((0 + i) * 1) 0) = V.i .u64 (q.getD i 0) by rw [Nat.zero_add, Nat.mul_one])) (hd 46 rfl) ?_
            refine jo_l (ly_mv rfl) (hd 47 rfl) ?_
            refine jo_l (ly_mv rfl) (hd 48 rfl) ?_
            refine jo_h (hy_ext3 (e := add64Entry) Try.func87 rfl rfl (by kernel_rfl) (by kernel_rfl) rfl rfl rfl (fun w => run_add64 _ _ _ hT.1 hY.1 hc6 hc7 w) rel_pair) (hd 49 rfl) ?_
            refine jo_l (ly_mv rfl) (hd 40 rfl) ?_
            refine jo_l (ly_ext rfl rfl) (hd 50 rfl) ?_
            refine jo_l (ly_ext rfl rfl) (hd 51 rfl) ?_
            refine jo_l (ly_ia (i := i) sl28 rfl rfl rfl (by first | rfl | omega) (by first | omega | (dsimp only; omega)) rfl) (hd 52 rfl) ?_
            refine jo_st (sy_storei rfl rfl rfl one82 (by first | omega | (dsimp only; omega))) ?_
            refine jo_l (ly_as rfl) (hd 6 rfl) ?_
            refine jo_nil ?_
            refine jc_region ?_
            refine jo_l (ly_mv rfl) (hd 26 rfl) ?_
            refine jo_l (ly_add rfl rfl (wrap_i64 (by first | omega | (dsimp only; omega)) (by first | omega | (dsimp only; omega)))) (hd 27 rfl) ?_
            refine jo_l (ly_as rfl) (hd 7 rfl) ?_
            refine jo_nil ?_
            refine ⟨(i + 1, q.set ((0 + i) * 1) ((q.getD i 0 + b.getD (i - at_) 0 + c) % 18446744073709551616), (q.getD i 0 + b.getD (i - at_) 0 + c) / 18446744073709551616), ?_, ?_, rfl, cov_n 95 rfl rfl ?_⟩
            · exact ⟨by omega, by omega, by rw [List.length_set]; exact hc3, u64s_set hc4 (by omega) (by omega), add_in (by omega) hc1 (by rw [Nat.zero_add, Nat.mul_one]) hc5 (by dsimp only; omega), by show 0 ≤ (q.getD i 0 + b.getD (i - at_) 0 + c) / 18446744073709551616; omega, by show (q.getD i 0 + b.getD (i - at_) 0 + c) / 18446744073709551616 ≤ 1; omega⟩
            · show n - (i + 1) < n - i
              omega
            · exact (.cons rfl (.cons rfl (.u (.u (.u (.u (.u (.u (.u (.u (.u (.u (.u (.u (.u (.u (.u (.u (.u (.u (.u (.u (.u (.u (.u (.u (.u (.u (.u (.u (.u (.u (.u (.u (.u (.u (.u (.u (.u (.u (.u (.u (.u (.u (.u (.u .nil))))))))))))))))))))))))))))))))))))))))))))))
        · refine jc_exit ?_
          refine ⟨_, .nil, rfl, (.cons ints_id .nil), ?_⟩
          exact ⟨rfl, q, rfl, hc3, hc4, add_end hc4 ur ub hc6 hc1 hfit (by dsimp only at *; first | (left; omega) | (right; omega)) hc5⟩
    · refine jo_s 14 rfl rfl rfl (hd 15 rfl) ?_
      refine jo_s 14 rfl rfl rfl (hd 16 rfl) ?_
      refine jo_s 14 rfl rfl rfl (hd 17 rfl) ?_
      refine jo_s 14 rfl rfl rfl (hd 18 rfl) ?_
      refine jo_s 14 rfl rfl rfl (hd 19 rfl) ?_
      refine jo_s 14 rfl rfl rfl (hd 20 rfl) ?_
      refine jo_s 14 rfl rfl rfl (hd 21 rfl) ?_
      refine jo_s' 21 rfl rfl (hd 22 rfl) ?_
      refine jo_s' 21 rfl rfl (hd 23 rfl) ?_
      refine jo_s 14 rfl rfl rfl (hd 24 rfl) ?_
      refine jo_l (ly_pick_f rfl rfl) (hd 25 rfl) ?_
      refine jo_nil ?_
      refine jc_litf rfl ?_
      refine jc_exit ?_
      refine ⟨_, .nil, rfl, (.cons ints_id .nil), ?_⟩
      exact ⟨rfl, q, rfl, hc3, hc4, add_end hc4 ur ub hc6 hc1 hfit (by dsimp only at *; first | (left; omega) | (right; omega)) hc5⟩
end Go.Proofs.Ytcdipmjgpimmdaa.Vc
