/- Contract of mul.school. -/
import Derived.Test.YtcdipmjgpimmdaaWl
set_option linter.unusedVariables false
set_option linter.unusedSimpArgs false
namespace Go.Proofs.Ytcdipmjgpimmdaa.Vc
open Go Go.RowKit
set_option maxHeartbeats 4000000 in
theorem school_s (a b : List Int) (hla : a.length < 1099511627776) (hlb : b.length < 1099511627776) (ua : u64s a) (ub : u64s b) : Spec Try.prog 102 [.n false .u64 a, .n false .u64 b] (fun o => ∃ r, o = .ret (.n true .u64 r) ∧ u64s r ∧ r.length = a.length + b.length ∧ vl r = vl a * vl b) := by
  refine spec_of' [(0, .n false .u64 a), (1, .n false .u64 b)] rfl Try.func102 rfl (Nat.le_of_ble_eq_true rfl) fun Γ hN hds hL hR => ?_
  have hd : ∀ d, Nat.blt d 78 = true → d < Γ.N := fun d h => by rw [hN]; exact Nat.le_of_ble_eq_true h
  refine jc_seq ?_
  refine jc_region ?_
  refine jo_l (ly_as rfl) (hd 4 rfl) ?_
  refine jo_nil ?_
  refine jc_seq ?_
  refine jc_region ?_
  refine jo_l (ly_mv rfl) (hd 14 rfl) ?_
  refine jo_l (ly_lenn sl28 rfl) (hd 15 rfl) ?_
  refine jo_l (ly_mv rfl) (hd 16 rfl) ?_
  refine jo_l (ly_lenn sl28 rfl) (hd 17 rfl) ?_
  refine jo_l (ly_add rfl rfl (r := ((a.length + b.length : Nat) : Int)) (by rw [wrap_i64 (by omega) (by omega)]; omega)) (hd 18 rfl) ?_
  refine jo_h (hy_mk (m := a.length + b.length) el28 rfl rfl rfl (by show 8 * (a.length + b.length) ≤ _; omega) (by unfold maxLen; omega) rfl) (hd 19 rfl) ?_
  refine jo_l (ly_as rfl) (hd 5 rfl) ?_
  refine jo_nil ?_
  refine jc_seq ?_
  refine jc_seq ?_
  refine jc_region ?_
  refine jo_l (ly_mv rfl) (hd 20 rfl) ?_
  refine jo_l (ly_lenn sl28 rfl) (hd 21 rfl) ?_
  refine jo_l (ly_mv rfl) (hd 22 rfl) ?_
  refine jo_nil ?_
  refine jc_block ?_
  refine jc_loopF (G := Nat × List Int) (fun g => g.1 ≤ a.length ∧ g.2.length = a.length + b.length ∧ u64s g.2 ∧ vl g.2 = vk a g.1 * vl b ∧ ∀ j, g.1 + b.length ≤ j → g.2.getD j 0 = 0) (fun g => [(22, .i .i64 (g.1 : Int)), (6, .u), (7, .u), (8, .u), (9, .u), (10, .u), (11, .u), (12, .u), (13, .u), (23, .u), (24, .u), (25, .u), (26, .u), (27, .u), (28, .u), (29, .u), (30, .u), (31, .u), (32, .u), (33, .u), (34, .u), (35, .u), (36, .u), (37, .u), (38, .u), (39, .u), (40, .u), (41, .u), (42, .u), (43, .u), (44, .u), (45, .u), (46, .u), (47, .u), (48, .u), (49, .u), (50, .u), (51, .u), (52, .u), (53, .u), (54, .u), (55, .u), (56, .u), (57, .u), (58, .u), (59, .u), (60, .u), (61, .u), (62, .u), (63, .u), (64, .u), (65, .u), (66, .u), (67, .u), (68, .u), (69, .u), (70, .u), (71, .u), (72, .u), (73, .u), (74, .u), (75, .u), (76, .u)]) (fun g => [⟨82, 1, 0, true, ints .u64 g.2⟩]) (fun g => a.length - g.1) (0, List.replicate (a.length + b.length) 0) ?_ ?_ rfl ?_
  · exact ⟨Nat.zero_le _, List.length_replicate, u64s_zeros _, by rw [vl_zeros, vk_0, Int.zero_mul], fun j _ => getD_zeros _ j⟩
  · exact (.cons rfl (.u (.u (.u (.u (.u (.u (.u (.u (.u (.u (.u (.u (.u (.u (.u (.u (.u (.u (.u (.u (.u (.u (.u (.u (.u (.u (.u (.u (.u (.u (.u (.u (.u (.u (.u (.u (.u (.u (.u (.u (.u (.u (.u (.u (.u (.u (.u (.u (.u (.u (.u (.u (.u (.u (.u (.u (.u (.u (.u (.u (.u (.u .nil)))))))))))))))))))))))))))))))))))))))))))))))))))))))))))))))
  · rintro ⟨i, r⟩ ⟨hc1, hc2, hc3, hc4, hc5⟩
    dsimp only at hc1 hc2 hc3 hc4 hc5
    have hX := u64s_getD ua i
    refine jc_seq ?_
    refine jc_region ?_
    refine jo_l (ly_lt rfl rfl) (hd 23 rfl) ?_
    refine jo_nil ?_
    refine jc_seq ?_
    refine jc_if rfl (fun h1 => ?_) (fun h1 => ?_)
    · refine jc_skip ?_
      refine jc_seq ?_
      refine jc_block ?_
      refine jc_seq ?_
      refine jc_region ?_
      refine jo_l (ly_mv rfl) (hd 24 rfl) ?_
      refine jo_l (ly_ian (i := i) sl28 rfl rfl (by first | rfl | omega) (by omega)) (hd 25 rfl) ?_
      refine jo_l (ly_ldq one82 rfl rfl) (hd 26 rfl) ?_
      refine jo_l (ly_as rfl) (hd 6 rfl) ?_
      refine jo_l (ly_as rfl) (hd 7 rfl) ?_
      refine jo_nil ?_
      refine jc_seq ?_
      refine jc_region ?_
      refine jo_l (ly_as rfl) (hd 8 rfl) ?_
      refine jo_nil ?_
      refine jc_seq ?_
      refine jc_seq ?_
      refine jc_region ?_
      refine jo_l (ly_mv rfl) (hd 27 rfl) ?_
      refine jo_l (ly_lenn sl28 rfl) (hd 28 rfl) ?_
      refine jo_l (ly_mv rfl) (hd 29 rfl) ?_
      refine jo_nil ?_
      refine jc_block ?_
      refine jc_loopF (G := Nat × List Int × Int) (fun g => g.1 ≤ b.length ∧ g.2.1.length = a.length + b.length ∧ u64s g.2.1 ∧ (0 ≤ g.2.2 ∧ g.2.2 < 18446744073709551616) ∧ vl g.2.1 + g.2.2 * pB (i + g.1) = vl r + a.getD i 0 * pB i * vk b g.1 ∧ ∀ j, i + b.length ≤ j → g.2.1.getD j 0 = 0) (fun g => [(8, .i .u64 g.2.2), (29, .i .i64 (g.1 : Int)), (9, .u), (10, .u), (11, .u), (12, .u), (13, .u), (30, .u), (31, .u), (32, .u), (33, .u), (34, .u), (35, .u), (36, .u), (37, .u), (38, .u), (39, .u), (40, .u), (41, .u), (42, .u), (43, .u), (44, .u), (45, .u), (46, .u), (47, .u), (48, .u), (49, .u), (50, .u), (51, .u), (52, .u), (53, .u), (54, .u), (55, .u), (56, .u), (57, .u), (58, .u), (59, .u), (60, .u), (61, .u), (62, .u), (63, .u), (64, .u), (65, .u), (66, .u), (67, .u), (68, .u)]) (fun g => [⟨82, 1, 0, true, ints .u64 g.2.1⟩]) (fun g => b.length - g.1) (0, r, 0) ?_ ?_ rfl ?_
      · exact ⟨Nat.zero_le _, hc2, hc3, ⟨Int.le_refl 0, by show (0 : Int) < _; decide⟩, by show vl r + 0 * _ = _ + _ * vk b 0; rw [vk_0, Int.mul_zero, Int.zero_mul], hc5⟩
      · exact (.cons rfl (.cons rfl (.u (.u (.u (.u (.u (.u (.u (.u (.u (.u (.u (.u (.u (.u (.u (.u (.u (.u (.u (.u (.u (.u (.u (.u (.u (.u (.u (.u (.u (.u (.u (.u (.u (.u (.u (.u (.u (.u (.u (.u (.u (.u (.u (.u .nil))))))))))))))))))))))))))))))))))))))))))))))
      · rintro ⟨k, q, c⟩ ⟨hd1, hd2, hd3, hd4, hd5, hd6⟩
        dsimp only at hd1 hd2 hd3 hd4 hd5 hd6
        have hY := u64s_getD ub k
        have hT := u64s_getD hd3 (i + k)
        have hP := mul_bd (m := 18446744073709551615) hX.1 hY.1 (by omega) (by omega)
        have hP2 : a.getD i 0 * b.getD k 0 ≤ 340282366920938463426481119284349108225 := by have := hP.2; simpa using this
        have hst := school_step (P := a.getD i 0 * b.getD k 0) (c := c) (t := q.getD (i + k) 0) hP.1 hP2 hd4.1 hd4.2 hT.1 hT.2
        obtain ⟨hs1, hs2, hs3, hs4, hs5⟩ := hst
        refine jc_seq ?_
        refine jc_region ?_
        refine jo_l (ly_lt rfl rfl) (hd 30 rfl) ?_
        refine jo_nil ?_
        refine jc_seq ?_
        refine jc_if rfl (fun h2 => ?_) (fun h2 => ?_)
        · refine jc_skip ?_
          refine jc_seq ?_
          refine jc_block ?_
          refine jc_seq ?_
          refine jc_region ?_
          refine jo_l (ly_mv rfl) (hd 31 rfl) ?_
          refine jo_l (ly_ian (i := k) sl28 rfl rfl (by first | rfl | omega) (by omega)) (hd 32 rfl) ?_
          refine jo_l (ly_ldq one82 rfl rfl) (hd 33 rfl) ?_
          refine jo_l (ly_as rfl) (hd 9 rfl) ?_
          refine jo_l (ly_as rfl) (hd 10 rfl) ?_
          refine jo_nil ?_
          refine jc_seq ?_
          refine jc_region ?_
          refine jo_l (ly_mv rfl) (hd 35 rfl) ?_
          refine jo_l (ly_mv rfl) (hd 36 rfl) ?_
          refine jo_call Try.f112 (Mul64_s (a.getD i 0) (b.getD k 0) hX.1 hX.2 hY.1 hY.2) rfl Try.func112 rfl rfl (ovL_cons rfl (ovL_cons rfl ovL_nil)) (.cons .i (.cons .i .nil)) (hd 37 rfl) ?_ (fun ch hp => by simp at hp)
          rintro y hy; injection hy with hy; subst hy
          refine jo_l (ly_mv rfl) (hd 34 rfl) ?_
          refine jo_l (ly_ext rfl rfl) (hd 38 rfl) ?_
          refine jo_l (ly_ext rfl rfl) (hd 39 rfl) ?_
          refine jo_l (ly_as rfl) (hd 11 rfl) ?_
          refine jo_l (ly_as rfl) (hd 12 rfl) ?_
          refine jo_nil ?_
          refine jc_seq ?_
          refine jc_region ?_
          refine jo_l (ly_as rfl) (hd 13 rfl) ?_
          refine jo_nil ?_
          refine jc_seq ?_
          refine jc_region ?_
          refine jo_l (ly_mv rfl) (hd 41 rfl) ?_
          refine jo_l (ly_mv rfl) (hd 42 rfl) ?_
          refine jo_h (hy_ext3 (e := add64Entry) Try.func87 rfl rfl (by kernel_rfl) (by kernel_rfl) rfl rfl rfl (fun w => run_add64 _ _ _ (by omega) hd4.1 (by decide) (by decide) w) rel_pair) (hd 43 rfl) ?_
          refine jo_l (ly_mv rfl) (hd 40 rfl) ?_
          refine jo_l (ly_ext rfl rfl) (hd 44 rfl) ?_
          refine jo_l (ly_ext rfl rfl) (hd 45 rfl) ?_
          refine jo_l (ly_as rfl) (hd 12 rfl) ?_
          refine jo_l (ly_as rfl) (hd 13 rfl) ?_
          refine jo_nil ?_
          refine jc_seq ?_
          refine jc_region ?_
          refine jo_l (ly_mv rfl) (hd 46 rfl) ?_
          refine jo_l (ly_mv rfl) (hd 47 rfl) ?_
          refine jo_l (ly_add rfl rfl (wrap_u64 (by omega) (by omega))) (hd 48 rfl) ?_
          refine jo_l (ly_as rfl) (hd 11 rfl) ?_
          refine jo_nil ?_
          refine jc_seq ?_
          refine jc_region ?_
          refine jo_l (ly_mv rfl) (hd 50 rfl) ?_
          refine jo_l (ly_mv rfl) (hd 51 rfl) ?_
          refine jo_l (ly_mv rfl) (hd 52 rfl) ?_
          refine jo_l (ly_add rfl rfl (r := ((i + k : Nat) : Int)) (by rw [wrap_i64 (by omega) (by omega)]; omega)) (hd 53 rfl) ?_
          refine jo_l (ly_mv rfl) (hd 54 rfl) ?_
          refine jo_l (ly_mv rfl) (hd 55 rfl) ?_
          refine jo_l (ly_mv rfl) (hd 56 rfl) ?_
          refine jo_l (ly_add rfl rfl (r := ((i + k : Nat) : Int)) (by rw [wrap_i64 (by omega) (by omega)]; omega)) (hd 57 rfl) ?_
          refine jo_l (ly_ia (i := i + k) sl28 rfl rfl rfl (by first | rfl | omega) (by omega) rfl) (hd 58 rfl) ?_
          refine jo_l (ly_is (ly_ldi one82 rfl rfl (by dsimp only; omega)) (show V.i .u64 (q.getD ((0 + (i + k)) * 1) 0) = V.i .u64 (q.getD (i + k) 0) by rw [Nat.zero_add, Nat.mul_one])) (hd 59 rfl) ?_
          refine jo_l (ly_mv rfl) (hd 60 rfl) ?_
          refine jo_h (hy_ext3 (e := add64Entry) Try.func87 rfl rfl (by kernel_rfl) (by kernel_rfl) rfl rfl rfl (fun w => run_add64 _ _ _ hT.1 (by omega) (by decide) (by decide) w) rel_pair) (hd 61 rfl) ?_
          refine jo_l (ly_mv rfl) (hd 49 rfl) ?_
          refine jo_l (ly_ext rfl rfl) (hd 62 rfl) ?_
          refine jo_l (ly_ext rfl rfl) (hd 63 rfl) ?_
          refine jo_l (ly_ia (i := i + k) sl28 rfl rfl rfl (by first | rfl | omega) (by omega) rfl) (hd 64 rfl) ?_
          refine jo_st (sy_storei rfl rfl rfl one82 (by dsimp only; omega)) ?_
          refine jo_l (ly_as rfl) (hd 13 rfl) ?_
          refine jo_nil ?_
          refine jc_region ?_
          refine jo_l (ly_mv rfl) (hd 65 rfl) ?_
          refine jo_l (ly_mv rfl) (hd 66 rfl) ?_
          refine jo_l (ly_add rfl rfl (wrap_u64 (by omega) (by omega))) (hd 67 rfl) ?_
          refine jo_l (ly_as rfl) (hd 8 rfl) ?_
          refine jo_nil ?_
          refine jc_region ?_
          refine jo_l (ly_add rfl rfl (wrap_i64 (by omega) (by omega))) (hd 68 rfl) ?_
          refine jo_l (ly_mv rfl) (hd 29 rfl) ?_
          refine jo_nil ?_
          refine ⟨(k + 1, q.set ((0 + (i + k)) * 1) ((q.getD (i + k) 0 + (a.getD i 0 * b.getD k 0 % 18446744073709551616 + c + 0) % 18446744073709551616 + 0) % 18446744073709551616), a.getD i 0 * b.getD k 0 / 18446744073709551616 + (a.getD i 0 * b.getD k 0 % 18446744073709551616 + c + 0) / 18446744073709551616 + (q.getD (i + k) 0 + (a.getD i 0 * b.getD k 0 % 18446744073709551616 + c + 0) % 18446744073709551616 + 0) / 18446744073709551616), ?_, ?_, rfl, cov_n 96 rfl rfl ?_⟩
          · refine ⟨by omega, by rw [List.length_set]; exact hd2, u64s_set hd3 (by omega) (by omega), ⟨hs3, hs4⟩, ?_, fun j hj => ?_⟩
            · exact school_in (by omega) (by rw [Nat.zero_add, Nat.mul_one]) rfl hd5 hs5
            · rw [Nat.zero_add, Nat.mul_one, getD_set (by omega)]; exact hd6 j hj
          · show b.length - (k + 1) < b.length - k
            omega
          · exact (.cons rfl (.cons rfl (.u (.u (.u (.u (.u (.u (.u (.u (.u (.u (.u (.u (.u (.u (.u (.u (.u (.u (.u (.u (.u (.u (.u (.u (.u (.u (.u (.u (.u (.u (.u (.u (.u (.u (.u (.u (.u (.u (.u (.u (.u (.u (.u (.u .nil))))))))))))))))))))))))))))))))))))))))))))))
        · obtain rfl : k = b.length := by omega
          refine jc_exit ?_
          refine jc_region ?_
          refine jo_l (ly_mv rfl) (hd 69 rfl) ?_
          refine jo_l (ly_mv rfl) (hd 70 rfl) ?_
          refine jo_l (ly_mv rfl) (hd 71 rfl) ?_
          refine jo_l (ly_lenn sl28 rfl) (hd 72 rfl) ?_
          refine jo_l (ly_add rfl rfl (r := ((i + b.length : Nat) : Int)) (by rw [wrap_i64 (by omega) (by omega)]; omega)) (hd 73 rfl) ?_
          refine jo_l (ly_mv rfl) (hd 74 rfl) ?_
          refine jo_l (ly_ia (i := i + b.length) sl28 rfl rfl rfl (by first | rfl | omega) (by omega) rfl) (hd 75 rfl) ?_
          refine jo_st (sy_storei rfl rfl rfl one82 (by dsimp only; omega)) ?_
          refine jo_nil ?_
          refine jc_region ?_
          refine jo_l (ly_add rfl rfl (wrap_i64 (by omega) (by omega))) (hd 76 rfl) ?_
          refine jo_l (ly_mv rfl) (hd 22 rfl) ?_
          refine jo_nil ?_
          refine ⟨(i + 1, q.set ((0 + (i + b.length)) * 1) c), ?_, ?_, rfl, cov_n 129 (by kernel_rfl) (by kernel_rfl) ?_⟩
          · exact ⟨by omega, by rw [List.length_set]; exact hd2, u64s_set hd3 hd4.1 hd4.2, school_row (by omega) (hd6 _ (Nat.le_refl _)) (by rw [Nat.zero_add, Nat.mul_one]) (by rw [hd5, hc4]), fun j hj => by rw [Nat.zero_add, Nat.mul_one, getD_set (by omega)]; exact hd6 j (by omega)⟩
          · show a.length - (i + 1) < a.length - i
            omega
          · exact (.cons rfl (.u (.u (.u (.u (.u (.u (.u (.u (.u (.u (.u (.u (.u (.u (.u (.u (.u (.u (.u (.u (.u (.u (.u (.u (.u (.u (.u (.u (.u (.u (.u (.u (.u (.u (.u (.u (.u (.u (.u (.u (.u (.u (.u (.u (.u (.u (.u (.u (.u (.u (.u (.u (.u (.u (.u (.u (.u (.u (.u (.u (.u (.u .nil)))))))))))))))))))))))))))))))))))))))))))))))))))))))))))))))
    · refine jc_exit ?_
      refine jc_seq ?_
      refine jc_region ?_
      refine jo_l (ly_mv rfl) (hd 77 rfl) ?_
      refine jo_l (ly_as rfl) (hd 4 rfl) ?_
      refine jo_nil ?_
      refine jc_ret ?_
      refine ⟨_, _, (.cons rfl .nil), (.o (l := r) rfl (by omega) rfl), ?_⟩
      rw [List.drop_zero, List.take_of_length_le (by omega)]
      exact ⟨r, rfl, hc3, hc2, by rw [hc4, vk_all (by omega)]⟩
end Go.Proofs.Ytcdipmjgpimmdaa.Vc
