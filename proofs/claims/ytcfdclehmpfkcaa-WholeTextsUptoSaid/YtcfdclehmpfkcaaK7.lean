/- Printing a whole number, and reading a text as one, answer as the reference does; what is handed out is the caller's own. Texts joined: Yh, Yi, Yj, Yk, Yl, Ym, Yo, Yp, Yq, Yr, Yz, Pa, Pb, Pc, Pd, Pe, Pf, Pg, Ph, Pi, Pj, Pk, Pl, Pm. -/
import Derived.Test.YtcfdclehmpfkcaaK6
set_option linter.unusedVariables false
set_option linter.unusedSimpArgs false
/- Contracts of div.up, down. -/
namespace Go.Proofs.Ytcfdclehmpfkcaa.Vc
open Go Go.RowKit
set_option maxHeartbeats 4000000 in
theorem up_s (s : Nat) (a : List Int) (hl : a.length < 1099511627776) (hs : s < 64) (ua : u64s a) : Spec Try.prog 131 [.n false .u64 a, .i .u64 (s : Int)] (fun o => o = .ret (.n true .u64 (upL a s))) := by
  refine spec_of' [(0, .n false .u64 a), (1, .i .u64 (s : Int))] rfl Try.func131 rfl (Nat.le_of_ble_eq_true rfl) fun Γ hN hds hL hR => ?_
  have hd : ∀ d, Nat.blt d 39 = true → d < Γ.N := fun d h => by rw [hN]; exact Nat.le_of_ble_eq_true h
  refine jc_seq ?_; refine jc_region ?_; refine jo_l (ly_as rfl) (hd 4 rfl) ?_; refine jo_nil ?_; refine jc_seq ?_; refine jc_region ?_; refine jo_l (ly_mv rfl) (hd 8 rfl) ?_; refine jo_l (ly_lenn sl28 rfl) (hd 9 rfl) ?_; refine jo_l (ly_add rfl rfl (r := ((a.length + 1 : Nat) : Int)) (by rw [wrap_i64 (by omega) (by omega)]; omega)) (hd 10 rfl) ?_; refine jo_h (hy_mk (m := a.length + 1) el28 rfl rfl rfl (by show 8 * (a.length + 1) ≤ _; omega) (by unfold maxLen; omega) rfl) (hd 11 rfl) ?_; refine jo_l (ly_as rfl) (hd 5 rfl) ?_; refine jo_nil ?_; refine jc_seq ?_; refine jc_seq ?_; refine jc_H (H' := [⟨90, 1, 0, true, ints .u64 (upR a s 0)⟩]) (by rw [← upR_0]; rfl) ?_; refine jc_region ?_; refine jo_l (ly_mv rfl) (hd 12 rfl) ?_; refine jo_l (ly_lenn sl28 rfl) (hd 13 rfl) ?_; refine jo_l (ly_mv rfl) (hd 14 rfl) ?_; refine jo_nil ?_; refine jc_block ?_
  refine jc_loopF (G := Nat) (fun i => i ≤ a.length) (fun i => [(14, .i .i64 (i : Int)), (6, .u), (7, .u), (15, .u), (16, .u), (17, .u), (18, .u), (19, .u), (20, .u), (21, .u), (22, .u), (23, .u), (24, .u), (25, .u), (26, .u), (27, .u), (28, .u), (29, .u), (30, .u), (31, .u), (32, .u), (33, .u), (34, .u), (35, .u), (36, .u), (37, .u)]) (fun i => [⟨90, 1, 0, true, ints .u64 (upR a s i)⟩]) (fun i => a.length - i) 0 ?_ ?_ rfl ?_
  · exact Nat.zero_le _
  · exact (.cons rfl (.u (.u (.u (.u (.u (.u (.u (.u (.u (.u (.u (.u (.u (.u (.u (.u (.u (.u (.u (.u (.u (.u (.u (.u (.u .nil))))))))))))))))))))))))))
  · rintro i hc1
    have hf := upR_len (s := s) hc1
    have hc := upN_c (Nat.le_of_lt hs) ua i
    have hx := u64s_getD ua i
    refine jc_seq ?_; refine jc_region ?_; refine jo_l (ly_lt rfl rfl) (hd 15 rfl) ?_; refine jo_nil ?_; refine jc_seq ?_
    refine jc_if rfl (fun h1 => ?_) (fun h1 => ?_)
    · refine jc_skip ?_; refine jc_seq ?_; refine jc_block ?_; refine jc_seq ?_; refine jc_region ?_; refine jo_l (ly_mv rfl) (hd 16 rfl) ?_; refine jo_l (ly_ian (i := i) sl28 rfl rfl (by first | rfl | omega) (by omega)) (hd 17 rfl) ?_; refine jo_l (ly_ldq one82 rfl rfl) (hd 18 rfl) ?_; refine jo_l (ly_as rfl) (hd 6 rfl) ?_; refine jo_l (ly_as rfl) (hd 7 rfl) ?_; refine jo_nil ?_; refine jc_seq ?_; refine jc_region ?_; refine jo_l (ly_mv rfl) (hd 19 rfl) ?_; refine jo_l (ly_mv rfl) (hd 20 rfl) ?_; refine jo_l (ly_ia (i := i) sl28 rfl rfl rfl (by first | rfl | omega) (by omega) rfl) (hd 21 rfl) ?_; refine jo_l (ly_is (ly_ldi one82 rfl rfl (by omega)) (show V.i .u64 _ = V.i .u64 ((upN a s i).2) from congrArg (V.i .u64) upR_get)) (hd 22 rfl) ?_; refine jo_l (ly_mv rfl) (hd 23 rfl) ?_; refine jo_l (ly_mv rfl) (hd 24 rfl) ?_; refine jo_l (ly_is (ly_shl rfl rfl (by omega) rfl) (show V.i .u64 _ = V.i .u64 (loS (a.getD i 0) s) from congrArg (V.i .u64) (shl_sym (by omega)))) (hd 25 rfl) ?_; refine jo_l (ly_is (ly_bit (by simp) rfl rfl rfl) (show V.i .u64 _ = V.i .u64 ((upN a s i).2 + loS (a.getD i 0) s) from congrArg (V.i .u64) (or_lo (by omega) hc.1 hc.2 hx.1).1)) (hd 26 rfl) ?_; refine jo_l (ly_ia (i := i) sl28 rfl rfl rfl (by first | rfl | omega) (by omega) rfl) (hd 27 rfl) ?_; refine jo_st (sy_storei rfl rfl rfl one82 (by omega)) ?_; refine jo_nil ?_; refine jc_region ?_; refine jo_l (ly_mv rfl) (hd 28 rfl) ?_; refine jo_l (ly_mv rfl) (hd 29 rfl) ?_; refine jo_l (ly_add rfl rfl (wrap_i64 (by omega) (by omega))) (hd 30 rfl) ?_; refine jo_l (ly_mv rfl) (hd 31 rfl) ?_; refine jo_l (ly_is (ly_shr rfl rfl (by omega) rfl) (show V.i .u64 _ = V.i .u64 (a.getD i 0 / 2) from congrArg (V.i .u64) (shr1 hx.1))) (hd 32 rfl) ?_; refine jo_l (ly_mv rfl) (hd 33 rfl) ?_; refine jo_l (ly_sub rfl rfl (r := ((63 - s : Nat) : Int)) (by rw [wrap_u64 (by omega) (by omega)]; omega)) (hd 34 rfl) ?_; refine jo_l (ly_is (ly_shr rfl rfl (by omega) rfl) (show V.i .u64 _ = V.i .u64 (hiS (a.getD i 0) s) from congrArg (V.i .u64) ((shr_sym (by omega)).trans (shr_two hs)))) (hd 35 rfl) ?_; refine jo_l (ly_ia (i := i + 1) sl28 rfl rfl rfl (by first | rfl | omega) (by omega) rfl) (hd 36 rfl) ?_; refine jo_st (sy_storei rfl rfl rfl one82 (by simp only [List.length_set]; omega)) ?_; refine jo_nil ?_; refine jc_region ?_; refine jo_l (ly_add rfl rfl (wrap_i64 (by omega) (by omega))) (hd 37 rfl) ?_; refine jo_l (ly_mv rfl) (hd 14 rfl) ?_; refine jo_nil ?_
      refine ⟨i + 1, ?_, ?_, (by show [(⟨90, 1, 0, true, ints .u64 _⟩ : Ob)] = [⟨90, 1, 0, true, ints .u64 _⟩]; rw [upR_set (by omega)]), cov_n 52 rfl rfl ?_⟩
      · omega
      · omega
      · exact (.cons rfl (.u (.u (.u (.u (.u (.u (.u (.u (.u (.u (.u (.u (.u (.u (.u (.u (.u (.u (.u (.u (.u (.u (.u (.u (.u .nil))))))))))))))))))))))))))
    · obtain rfl : i = a.length := by omega
      rw [upR_end] at hf ⊢
      refine jc_exit ?_; refine jc_seq ?_; refine jc_region ?_; refine jo_l (ly_mv rfl) (hd 38 rfl) ?_; refine jo_l (ly_as rfl) (hd 4 rfl) ?_; refine jo_nil ?_; refine jc_ret ?_
      refine ⟨_, _, (.cons rfl .nil), (.o (l := upL a s) rfl (by omega) rfl), ?_⟩
      rw [List.drop_zero, List.take_of_length_le (by omega)]

set_option maxHeartbeats 4000000 in
theorem up_n (s : Nat) (a : List Int) (hl : a.length < 1099511627776) (hs : s < 64) (ua : u64s a) : SpecM Try.prog 131 [.n false .u64 a, .i .u64 (s : Int)] [] (fun o G => o = .ret (.o 0 0 0 (a.length + 1)) ∧ G = [⟨90, 1, 0, true, ints .u64 (upL a s)⟩]) := by
  refine specS_of [(0, .n false .u64 a), (1, .i .u64 (s : Int))] rfl Try.func131 rfl (Nat.le_of_ble_eq_true rfl) fun Γ hN hds hL hR => ?_
  have hd : ∀ d, Nat.blt d 39 = true → d < Γ.N := fun d h => by rw [hN]; exact Nat.le_of_ble_eq_true h
  refine jc_seq ?_; refine jc_region ?_; refine jo_l (ly_as rfl) (hd 4 rfl) ?_; refine jo_nil ?_; refine jc_seq ?_; refine jc_region ?_; refine jo_l (ly_mv rfl) (hd 8 rfl) ?_; refine jo_l (ly_lenn sl28 rfl) (hd 9 rfl) ?_; refine jo_l (ly_add rfl rfl (r := ((a.length + 1 : Nat) : Int)) (by rw [wrap_i64 (by omega) (by omega)]; omega)) (hd 10 rfl) ?_; refine jo_h (hy_mk (m := a.length + 1) el28 rfl rfl rfl (by show 8 * (a.length + 1) ≤ _; omega) (by unfold maxLen; omega) rfl) (hd 11 rfl) ?_; refine jo_l (ly_as rfl) (hd 5 rfl) ?_; refine jo_nil ?_; refine jc_seq ?_; refine jc_seq ?_; refine jc_H (H' := [⟨90, 1, 0, true, ints .u64 (upR a s 0)⟩]) (by rw [← upR_0]; rfl) ?_; refine jc_region ?_; refine jo_l (ly_mv rfl) (hd 12 rfl) ?_; refine jo_l (ly_lenn sl28 rfl) (hd 13 rfl) ?_; refine jo_l (ly_mv rfl) (hd 14 rfl) ?_; refine jo_nil ?_; refine jc_block ?_
  refine jc_loopF (G := Nat) (fun i => i ≤ a.length) (fun i => [(14, .i .i64 (i : Int)), (6, .u), (7, .u), (15, .u), (16, .u), (17, .u), (18, .u), (19, .u), (20, .u), (21, .u), (22, .u), (23, .u), (24, .u), (25, .u), (26, .u), (27, .u), (28, .u), (29, .u), (30, .u), (31, .u), (32, .u), (33, .u), (34, .u), (35, .u), (36, .u), (37, .u)]) (fun i => [⟨90, 1, 0, true, ints .u64 (upR a s i)⟩]) (fun i => a.length - i) 0 ?_ ?_ rfl ?_
  · exact Nat.zero_le _
  · exact (.cons rfl (.u (.u (.u (.u (.u (.u (.u (.u (.u (.u (.u (.u (.u (.u (.u (.u (.u (.u (.u (.u (.u (.u (.u (.u (.u .nil))))))))))))))))))))))))))
  · rintro i hc1
    have hf := upR_len (s := s) hc1
    have hc := upN_c (Nat.le_of_lt hs) ua i
    have hx := u64s_getD ua i
    refine jc_seq ?_; refine jc_region ?_; refine jo_l (ly_lt rfl rfl) (hd 15 rfl) ?_; refine jo_nil ?_; refine jc_seq ?_
    refine jc_if rfl (fun h1 => ?_) (fun h1 => ?_)
    · refine jc_skip ?_; refine jc_seq ?_; refine jc_block ?_; refine jc_seq ?_; refine jc_region ?_; refine jo_l (ly_mv rfl) (hd 16 rfl) ?_; refine jo_l (ly_ian (i := i) sl28 rfl rfl (by first | rfl | omega) (by omega)) (hd 17 rfl) ?_; refine jo_l (ly_ldq one82 rfl rfl) (hd 18 rfl) ?_; refine jo_l (ly_as rfl) (hd 6 rfl) ?_; refine jo_l (ly_as rfl) (hd 7 rfl) ?_; refine jo_nil ?_; refine jc_seq ?_; refine jc_region ?_; refine jo_l (ly_mv rfl) (hd 19 rfl) ?_; refine jo_l (ly_mv rfl) (hd 20 rfl) ?_; refine jo_l (ly_ia (i := i) sl28 rfl rfl rfl (by first | rfl | omega) (by omega) rfl) (hd 21 rfl) ?_; refine jo_l (ly_is (ly_ldi one82 rfl rfl (by omega)) (show V.i .u64 _ = V.i .u64 ((upN a s i).2) from congrArg (V.i .u64) upR_get)) (hd 22 rfl) ?_; refine jo_l (ly_mv rfl) (hd 23 rfl) ?_; refine jo_l (ly_mv rfl) (hd 24 rfl) ?_; refine jo_l (ly_is (ly_shl rfl rfl (by omega) rfl) (show V.i .u64 _ = V.i .u64 (loS (a.getD i 0) s) from congrArg (V.i .u64) (shl_sym (by omega)))) (hd 25 rfl) ?_; refine jo_l (ly_is (ly_bit (by simp) rfl rfl rfl) (show V.i .u64 _ = V.i .u64 ((upN a s i).2 + loS (a.getD i 0) s) from congrArg (V.i .u64) (or_lo (by omega) hc.1 hc.2 hx.1).1)) (hd 26 rfl) ?_; refine jo_l (ly_ia (i := i) sl28 rfl rfl rfl (by first | rfl | omega) (by omega) rfl) (hd 27 rfl) ?_; refine jo_st (sy_storei rfl rfl rfl one82 (by omega)) ?_; refine jo_nil ?_; refine jc_region ?_; refine jo_l (ly_mv rfl) (hd 28 rfl) ?_; refine jo_l (ly_mv rfl) (hd 29 rfl) ?_; refine jo_l (ly_add rfl rfl (wrap_i64 (by omega) (by omega))) (hd 30 rfl) ?_; refine jo_l (ly_mv rfl) (hd 31 rfl) ?_; refine jo_l (ly_is (ly_shr rfl rfl (by omega) rfl) (show V.i .u64 _ = V.i .u64 (a.getD i 0 / 2) from congrArg (V.i .u64) (shr1 hx.1))) (hd 32 rfl) ?_; refine jo_l (ly_mv rfl) (hd 33 rfl) ?_; refine jo_l (ly_sub rfl rfl (r := ((63 - s : Nat) : Int)) (by rw [wrap_u64 (by omega) (by omega)]; omega)) (hd 34 rfl) ?_; refine jo_l (ly_is (ly_shr rfl rfl (by omega) rfl) (show V.i .u64 _ = V.i .u64 (hiS (a.getD i 0) s) from congrArg (V.i .u64) ((shr_sym (by omega)).trans (shr_two hs)))) (hd 35 rfl) ?_; refine jo_l (ly_ia (i := i + 1) sl28 rfl rfl rfl (by first | rfl | omega) (by omega) rfl) (hd 36 rfl) ?_; refine jo_st (sy_storei rfl rfl rfl one82 (by simp only [List.length_set]; omega)) ?_; refine jo_nil ?_; refine jc_region ?_; refine jo_l (ly_add rfl rfl (wrap_i64 (by omega) (by omega))) (hd 37 rfl) ?_; refine jo_l (ly_mv rfl) (hd 14 rfl) ?_; refine jo_nil ?_
      refine ⟨i + 1, ?_, ?_, (by show [(⟨90, 1, 0, true, ints .u64 _⟩ : Ob)] = [⟨90, 1, 0, true, ints .u64 _⟩]; rw [upR_set (by omega)]), cov_n 52 rfl rfl ?_⟩
      · omega
      · omega
      · exact (.cons rfl (.u (.u (.u (.u (.u (.u (.u (.u (.u (.u (.u (.u (.u (.u (.u (.u (.u (.u (.u (.u (.u (.u (.u (.u (.u .nil))))))))))))))))))))))))))
    · obtain rfl : i = a.length := by omega
      rw [upR_end] at hf ⊢
      refine jc_exit ?_; refine jc_seq ?_; refine jc_region ?_; refine jo_l (ly_mv rfl) (hd 38 rfl) ?_; refine jo_l (ly_as rfl) (hd 4 rfl) ?_; refine jo_nil ?_; refine jc_ret ?_
      refine ⟨[0], _, (.o 0 0 0 (a.length + 1)), (.cons rfl .nil), rfl, rfl, (by decide), (by first | exact idless_cons ints_id idless_nil | exact idless_cons rfl idless_nil), ?_⟩
      exact ⟨rfl, rfl⟩

set_option maxHeartbeats 4000000 in
theorem div_down_s (s : Nat) (a : List Int) (hl : a.length < 1099511627776) (hs : s < 64) (ua : u64s a) : Spec Try.prog 133 [.n false .u64 a, .i .u64 (s : Int)] (fun o => o = .ret (.n true .u64 (trm (dnN a s a.length)))) := by
  refine spec_of' [(0, .n false .u64 a), (1, .i .u64 (s : Int))] rfl Try.func133 rfl (Nat.le_of_ble_eq_true rfl) fun Γ hN hds hL hR => ?_
  have hd : ∀ d, Nat.blt d 47 = true → d < Γ.N := fun d h => by rw [hN]; exact Nat.le_of_ble_eq_true h
  refine jc_seq ?_; refine jc_region ?_; refine jo_l (ly_as rfl) (hd 4 rfl) ?_; refine jo_nil ?_; refine jc_seq ?_; refine jc_region ?_; refine jo_l (ly_mv rfl) (hd 8 rfl) ?_; refine jo_l (ly_lenn sl28 rfl) (hd 9 rfl) ?_; refine jo_h (hy_mk (m := a.length) el28 rfl rfl rfl (by show 8 * a.length ≤ _; omega) (by unfold maxLen; omega) rfl) (hd 10 rfl) ?_; refine jo_l (ly_as rfl) (hd 5 rfl) ?_; refine jo_nil ?_; refine jc_seq ?_; refine jc_seq ?_; refine jc_region ?_; refine jo_l (ly_mv rfl) (hd 11 rfl) ?_; refine jo_l (ly_lenn sl28 rfl) (hd 12 rfl) ?_; refine jo_l (ly_mv rfl) (hd 13 rfl) ?_; refine jo_nil ?_; refine jc_block ?_
  refine jc_loopF (G := Nat) (fun i => i ≤ a.length) (fun i => [(13, .i .i64 (i : Int)), (6, .u), (7, .u), (14, .u), (15, .u), (16, .u), (17, .u), (18, .u), (19, .u), (20, .u), (21, .u), (22, .u), (23, .u), (24, .u), (25, .u), (26, .u), (27, .u), (28, .u), (29, .u), (30, .u), (31, .u), (32, .u), (33, .u), (34, .u), (35, .u), (36, .u), (37, .u), (38, .u), (39, .u), (40, .u), (41, .u), (42, .u), (43, .u), (44, .u)]) (fun i => [⟨90, 1, 0, true, ints .u64 (fillI (dnN a s i) a.length)⟩]) (fun i => a.length - i) 0 ?_ ?_ rfl ?_
  · exact Nat.zero_le _
  · exact (.cons rfl (.u (.u (.u (.u (.u (.u (.u (.u (.u (.u (.u (.u (.u (.u (.u (.u (.u (.u (.u (.u (.u (.u (.u (.u (.u (.u (.u (.u (.u (.u (.u (.u (.u .nil))))))))))))))))))))))))))))))))))
  · rintro i hc1
    have hf : (fillI (dnN a s i) a.length).length = a.length := fillI_len (by rw [dnN_len]; exact hc1)
    have hx := u64s_getD ua i
    have hy := u64s_getD ua (i + 1)
    refine jc_seq ?_; refine jc_region ?_; refine jo_l (ly_lt rfl rfl) (hd 14 rfl) ?_; refine jo_nil ?_; refine jc_seq ?_
    refine jc_if rfl (fun h1 => ?_) (fun h1 => ?_)
    · refine jc_skip ?_
      refine jc_meet (G := Unit) (fun _ => True) (fun _ => [(6, .u), (7, .u), (15, .u), (16, .u), (17, .u), (18, .u), (19, .u), (20, .u), (21, .u), (22, .u), (23, .u), (24, .u), (25, .u), (26, .u), (27, .u), (28, .u), (29, .u), (30, .u), (31, .u), (32, .u), (33, .u), (34, .u), (35, .u), (36, .u), (37, .u), (38, .u), (39, .u), (40, .u), (41, .u), (42, .u), (43, .u)]) (fun _ => [⟨90, 1, 0, true, ints .u64 (fillI (dnN a s (i + 1)) a.length)⟩]) ?_ ?_
      · refine jc_block ?_; refine jc_seq ?_; refine jc_region ?_; refine jo_l (ly_mv rfl) (hd 15 rfl) ?_; refine jo_l (ly_ian (i := i) sl28 rfl rfl (by first | rfl | omega) (by omega)) (hd 16 rfl) ?_; refine jo_l (ly_ldq one82 rfl rfl) (hd 17 rfl) ?_; refine jo_l (ly_as rfl) (hd 6 rfl) ?_; refine jo_l (ly_as rfl) (hd 7 rfl) ?_; refine jo_nil ?_; refine jc_seq ?_; refine jc_region ?_; refine jo_l (ly_mv rfl) (hd 18 rfl) ?_; refine jo_l (ly_mv rfl) (hd 19 rfl) ?_; refine jo_l (ly_mv rfl) (hd 20 rfl) ?_; refine jo_l (ly_mv rfl) (hd 21 rfl) ?_; refine jo_l (ly_is (ly_shr rfl rfl (by omega) rfl) (show V.i .u64 _ = V.i .u64 (a.getD i 0 / 2 ^ s) from congrArg (V.i .u64) (shr_sym (by omega)))) (hd 22 rfl) ?_; refine jo_l (ly_ia (i := i) sl28 rfl rfl rfl (by first | rfl | omega) (by omega) rfl) (hd 23 rfl) ?_; refine jo_st (sy_storei rfl rfl rfl one82 (by omega)) ?_; refine jo_nil ?_; refine jc_seq ?_; refine jc_region ?_; refine jo_l (ly_mv rfl) (hd 24 rfl) ?_; refine jo_l (ly_add rfl rfl (wrap_i64 (by omega) (by omega))) (hd 25 rfl) ?_; refine jo_l (ly_mv rfl) (hd 26 rfl) ?_; refine jo_l (ly_lenn sl28 rfl) (hd 27 rfl) ?_; refine jo_l (ly_lt rfl rfl) (hd 28 rfl) ?_; refine jo_nil ?_
        refine jc_if rfl (fun h2 => ?_) (fun h2 => ?_)
        · refine jc_draw (n := 16) _ rfl mixed ?_; refine ja_l2 0 [2, 3, 13, 14, 15] (lo_l (ly_mv rfl) (hd 29 rfl)) rfl (by kernel_rfl) (by kernel_rfl) (by kernel_rfl) (by kernel_rfl) (fun _ _ _ _ h => h) ?_; refine ja_l2 1 [2, 3, 13, 14, 15] (lo_l (ly_mv rfl) (hd 30 rfl)) rfl (by kernel_rfl) (by kernel_rfl) (by kernel_rfl) (by kernel_rfl) (fun _ _ _ _ h => h) ?_; refine ja_l2 2 [3, 13, 14, 15] (lo_l (ly_ia (i := i) sl28 rfl rfl rfl (by first | rfl | omega) (by omega) rfl) (hd 31 rfl)) rfl (by kernel_rfl) (by kernel_rfl) (by kernel_rfl) (by kernel_rfl) (fun _ _ _ _ h => h) ?_; refine ja_l 3 (lo_l (ly_is (ly_ldi one82 rfl rfl (by simp only [List.length_set]; omega)) (show V.i .u64 _ = V.i .u64 (a.getD i 0 / 2 ^ s) from congrArg (V.i .u64) (dnR_get (by omega)))) (hd 32 rfl)) rfl (by kernel_rfl) (by kernel_rfl) (by kernel_rfl) (fun _ _ _ _ h => h) ?_; refine ja_l2 4 [7, 8, 9, 12, 13, 14, 15] (lo_l (ly_mv rfl) (hd 33 rfl)) rfl (by kernel_rfl) (by kernel_rfl) (by kernel_rfl) (by kernel_rfl) (fun _ _ _ _ h => h) ?_; refine ja_l2 5 [6, 7, 8, 9, 12, 13, 14, 15] (lo_l (ly_mv rfl) (hd 34 rfl)) rfl (by kernel_rfl) (by kernel_rfl) (by kernel_rfl) (by kernel_rfl) (fun _ _ _ _ h => h) ?_; refine ja_l2 6 [7, 8, 9, 12, 13, 14, 15] (lo_l (ly_add rfl rfl (r := ((i + 1 : Nat) : Int)) (by rw [wrap_i64 (by omega) (by omega)]; omega)) (hd 35 rfl)) rfl (by kernel_rfl) (by kernel_rfl) (by kernel_rfl) (by kernel_rfl) (fun _ _ _ _ h => h) ?_; refine ja_l2 7 [8, 9, 12, 13, 14, 15] (lo_l (ly_ian (i := i + 1) sl28 rfl rfl (by first | rfl | omega) (by omega)) (hd 36 rfl)) rfl (by kernel_rfl) (by kernel_rfl) (by kernel_rfl) (by kernel_rfl) (fun _ _ _ _ h => h) ?_; refine ja_l2 8 [9, 12, 13, 14, 15] (lo_l (ly_ldq one82 rfl rfl) (hd 37 rfl)) rfl (by kernel_rfl) (by kernel_rfl) (by kernel_rfl) (by kernel_rfl) (fun _ _ _ _ h => h) ?_; refine ja_l2 9 [12, 13, 14, 15] (lo_l (ly_is (ly_shl rfl rfl (by omega) rfl) (show V.i .u64 _ = V.i .u64 (a.getD (i + 1) 0 * 2 % 18446744073709551616) from congrArg (V.i .u64) shl1)) (hd 38 rfl)) rfl (by kernel_rfl) (by kernel_rfl) (by kernel_rfl) (by kernel_rfl) (fun _ _ _ _ h => h) ?_; refine ja_l2 10 [11, 12, 13, 14, 15] (lo_l (ly_mv rfl) (hd 39 rfl)) rfl (by kernel_rfl) (by kernel_rfl) (by kernel_rfl) (by kernel_rfl) (fun _ _ _ _ h => h) ?_; refine ja_l2 11 [12, 13, 14, 15] (lo_l (ly_sub rfl rfl (r := ((63 - s : Nat) : Int)) (by rw [wrap_u64 (by omega) (by omega)]; omega)) (hd 40 rfl)) rfl (by kernel_rfl) (by kernel_rfl) (by kernel_rfl) (by kernel_rfl) (fun _ _ _ _ h => h) ?_; refine ja_l 12 (lo_l (ly_is (ly_shl rfl rfl (by omega) rfl) (show V.i .u64 _ = V.i .u64 (loS (a.getD (i + 1) 0) (64 - s)) from congrArg (V.i .u64) ((shl_sym (by omega)).trans (shl_two hs)))) (hd 41 rfl)) rfl (by kernel_rfl) (by kernel_rfl) (by kernel_rfl) (fun _ _ _ _ h => h) ?_; refine ja_l 13 (lo_l (ly_is (ly_bit (by simp) rfl rfl rfl) (show V.i .u64 _ = V.i .u64 (dnD a s i) from congrArg (V.i .u64) (dn_or (Nat.le_of_lt hs) hx.1 hx.2 hy.1).1)) (hd 42 rfl)) rfl (by kernel_rfl) (by kernel_rfl) (by kernel_rfl) (fun _ _ _ _ h => h) ?_; refine ja_l 14 (lo_l (ly_ia (i := i) sl28 rfl rfl rfl (by first | rfl | omega) (by omega) rfl) (hd 43 rfl)) rfl (by kernel_rfl) (by kernel_rfl) (by kernel_rfl) (fun _ _ _ _ h => h) ?_
          refine ja_1 15 ?_ rfl (by kernel_rfl)
          refine js_st (sy_storei rfl rfl rfl one82 (by simp only [List.length_set]; omega)) rfl ?_; refine ja_nil (by kernel_rfl) ?_
          refine ⟨(), ?_, (by show [(⟨90, 1, 0, true, ints .u64 _⟩ : Ob)] = [⟨90, 1, 0, true, ints .u64 _⟩]; first | rw [← dnD_last (show a.length ≤ i + 1 by omega), dnR_set (by omega)] | rw [List.set_set, dnR_set (by omega)]), cov_n 31 rfl rfl ?_⟩
          · trivial
          · exact (.u (.u (.u (.u (.u (.u (.u (.u (.u (.u (.u (.u (.u (.u (.u (.u (.u (.u (.u (.u (.u (.u (.u (.u (.u (.u (.u (.u (.u (.u (.u .nil)))))))))))))))))))))))))))))))
        · refine jc_skip ?_
          refine ⟨(), ?_, (by show [(⟨90, 1, 0, true, ints .u64 _⟩ : Ob)] = [⟨90, 1, 0, true, ints .u64 _⟩]; first | rw [← dnD_last (show a.length ≤ i + 1 by omega), dnR_set (by omega)] | rw [List.set_set, dnR_set (by omega)]), cov_n 16 rfl rfl ?_⟩
          · trivial
          · exact (.u (.u (.u (.u (.u (.u (.u (.u (.u (.u (.u (.u (.u (.u (.u (.u (.u (.u (.u (.u (.u (.u (.u (.u (.u (.u (.u (.u (.u (.u (.u .nil)))))))))))))))))))))))))))))))
      · rintro _ _; refine jc_region ?_; refine jo_l (ly_add rfl rfl (wrap_i64 (by omega) (by omega))) (hd 44 rfl) ?_; refine jo_l (ly_mv rfl) (hd 13 rfl) ?_; refine jo_nil ?_
        refine ⟨i + 1, ?_, ?_, rfl, cov_n 68 rfl rfl ?_⟩
        · omega
        · omega
        · exact (.cons rfl (.u (.u (.u (.u (.u (.u (.u (.u (.u (.u (.u (.u (.u (.u (.u (.u (.u (.u (.u (.u (.u (.u (.u (.u (.u (.u (.u (.u (.u (.u (.u (.u (.u .nil))))))))))))))))))))))))))))))))))
    · obtain rfl : i = a.length := by omega
      refine jc_exit ?_; refine jc_seq ?_; refine jc_region ?_; refine jo_frz (k := .u64) (l := fillI (dnN a s a.length) a.length) (l' := dnN a s a.length) 5 rfl rfl (by omega) (by rw [List.drop_zero, List.take_of_length_le (by omega), fillI_full (dnN_len _ _ _)]) hL ?_; refine jo_l (ly_mv rfl) (hd 45 rfl) ?_
      refine jo_call Try.f99 (Norm_s (dnN a s a.length) (by rw [dnN_len]; omega)) rfl Try.func99 rfl rfl (ovL_cons rfl ovL_nil) (.cons .n .nil) (hd 46 rfl) ?_ (fun ch hp => by simp at hp)
      rintro y hy; injection hy with hy; subst hy; refine jo_l (ly_as rfl) (hd 4 rfl) ?_; refine jo_nil ?_; refine jc_ret ?_
      refine ⟨_, _, (.cons rfl .nil), .n, ?_⟩
      exact rfl
end Go.Proofs.Ytcfdclehmpfkcaa.Vc

/- Contract of div.guess. -/
namespace Go.Proofs.Ytcfdclehmpfkcaa.Vc
open Go Go.RowKit
set_option maxHeartbeats 4000000 in
set_option maxRecDepth 100000 in
theorem guess_s (U u v Q : List Int) (j n : Nat) (hU : j + (n + 3) ≤ U.length) (hUl : U.length < 4398046511104) (uU : u64s U) (hu : slJ U j (n + 3) = u) (hP : GuP u v n) : SpecM Try.prog 132 [.o 0 0 j (n + 3), .n false .u64 v] ([⟨90, 1, 0, true, ints .u64 U⟩, ⟨90, 1, 0, true, ints .u64 Q⟩]) (fun o H' => o = .ret (.i .u64 (vl u / vl v)) ∧ ∃ r, H' = [⟨90, 1, 0, true, ints .u64 (rwJ U j r)⟩, ⟨90, 1, 0, true, ints .u64 Q⟩] ∧ r.length = n + 3 ∧ u64s r ∧ vl r = vl u % vl v) := by
  refine specM_of [(0, .o 0 0 j (n + 3)), (1, .n false .u64 v)] rfl (2) rfl Try.func132 rfl (Nat.le_of_ble_eq_true rfl) fun Γ hN hds => ?_
  have hd : ∀ d, Nat.blt d 195 = true → d < Γ.N := fun d h => by rw [hN]; exact Nat.le_of_ble_eq_true h
  have hlu := hP.lu
  have hlv := hP.lv
  have hv0 := hP.pos
  have hQ1 := hP.q_lt
  have hQ0 := hP.q_nn
  have hx0 := u64s_getD hP.uu n
  have hx1 := u64s_getD hP.uu (n + 1)
  have hx2 := u64s_getD hP.uu (n + 2)
  have hy0 := u64s_getD hP.uv n
  have hy1 := u64s_getD hP.uv (n + 1)
  have hat2 : ∀ k, k < n + 3 → U.getD (j + k) 0 = u.getD k 0 := fun k hk => by rw [← hu, slJ_at hk]
  have hat : ∀ k, k < n + 3 → U.getD ((j + k) * 1) 0 = u.getD k 0 := fun k hk => by rw [Nat.mul_one]; exact hat2 k hk
  refine jc_seq ?_; refine jc_region ?_; refine jo_l (ly_as rfl) (hd 4 rfl) ?_; refine jo_nil ?_; refine jc_seq ?_; refine jc_region ?_; refine jo_l (ly_mv rfl) (hd 24 rfl) ?_; refine jo_l (ly_lenn sl28 rfl) (hd 25 rfl) ?_; refine jo_l (ly_as rfl) (hd 5 rfl) ?_; refine jo_nil ?_; refine jc_seq ?_; refine jc_region ?_; refine jo_l (ly_as rfl) (hd 6 rfl) ?_; refine jo_l (ly_as rfl) (hd 7 rfl) ?_; refine jo_nil ?_; refine jc_seq ?_; refine jc_region ?_; refine jo_l (ly_as rfl) (hd 8 rfl) ?_; refine jo_nil ?_
  refine jc_meetH (G := Int × Int × Bool) (fun g => vl u / vl v ≤ g.1 ∧ 0 ≤ g.1 ∧ g.1 < 18446744073709551616 ∧ (g.2.2 = false → Est u v n g.1 g.2.1 ∧ g.2.1 < 18446744073709551616) ∧ (g.2.2 = true → g.1 ≤ vl u / vl v + 1)) (fun g => [(6, .i .u64 g.1), (7, .i .u64 g.2.1), (8, .b g.2.2), (9, .u), (26, .u), (27, .u), (28, .u), (29, .u), (30, .u), (31, .u), (32, .u), (33, .u), (34, .u), (35, .u), (36, .u), (37, .u), (38, .u), (39, .u), (40, .u), (41, .u), (42, .u), (43, .u), (44, .u), (45, .u), (46, .u), (47, .u), (48, .u), (49, .u), (50, .u), (51, .u), (52, .u), (53, .u), (54, .u), (55, .u), (56, .u), (57, .u), (58, .u), (59, .u), (60, .u), (61, .u), (62, .u), (63, .u), (64, .u), (65, .u), (66, .u), (67, .u), (68, .u), (69, .u)]) ?_ ?_
  · refine jc_seq ?_; refine jc_draw (n := 10) _ rfl mixed ?_; refine ja_l2 0 [2, 3, 9] (lo_l (ly_mv rfl) (hd 26 rfl)) rfl (by kernel_rfl) (by kernel_rfl) (by kernel_rfl) (by kernel_rfl) (fun _ _ _ _ h => h) ?_; refine ja_l2 1 [2, 3, 9] (lo_l (ly_mv rfl) (hd 27 rfl)) rfl (by kernel_rfl) (by kernel_rfl) (by kernel_rfl) (by kernel_rfl) (fun _ _ _ _ h => h) ?_; refine ja_l2 2 [3, 9] (lo_l (ly_ia (i := n + 2) sl28 rfl rfl rfl (by first | rfl | omega) (by omega) rfl) (hd 28 rfl)) rfl (by kernel_rfl) (by kernel_rfl) (by kernel_rfl) (by kernel_rfl) (fun _ _ _ _ h => h) ?_; refine ja_l 3 (lo_l (ly_is (ly_ldi one82 rfl rfl (by omega)) (show V.i .u64 _ = V.i .u64 (u.getD (n + 2) 0) from congrArg (V.i .u64) (hat (n + 2) (by omega)))) (hd 29 rfl)) rfl (by kernel_rfl) (by kernel_rfl) (by kernel_rfl) (fun _ _ _ _ h => h) ?_; refine ja_l2 4 [7, 8, 9] (lo_l (ly_mv rfl) (hd 30 rfl)) rfl (by kernel_rfl) (by kernel_rfl) (by kernel_rfl) (by kernel_rfl) (fun _ _ _ _ h => h) ?_; refine ja_l2 5 [6, 7, 8, 9] (lo_l (ly_mv rfl) (hd 31 rfl)) rfl (by kernel_rfl) (by kernel_rfl) (by kernel_rfl) (by kernel_rfl) (fun _ _ _ _ h => h) ?_; refine ja_l2 6 [7, 8, 9] (lo_l (ly_sub rfl rfl (r := ((n + 1 : Nat) : Int)) (by rw [wrap_i64 (by omega) (by omega)]; omega)) (hd 32 rfl)) rfl (by kernel_rfl) (by kernel_rfl) (by kernel_rfl) (by kernel_rfl) (fun _ _ _ _ h => h) ?_; refine ja_l2 7 [8, 9] (lo_l (ly_ian (i := n + 1) sl28 rfl rfl (by first | rfl | omega) (by omega)) (hd 33 rfl)) rfl (by kernel_rfl) (by kernel_rfl) (by kernel_rfl) (by kernel_rfl) (fun _ _ _ _ h => h) ?_; refine ja_l 8 (lo_l (ly_ldq one82 rfl rfl) (hd 34 rfl)) rfl (by kernel_rfl) (by kernel_rfl) (by kernel_rfl) (fun _ _ _ _ h => h) ?_; refine ja_l 9 (lo_l (ly_ge rfl rfl) (hd 35 rfl)) rfl (by kernel_rfl) (by kernel_rfl) (by kernel_rfl) (fun _ _ _ _ h => h) ?_; refine ja_nil (by kernel_rfl) ?_
    refine jc_if rfl (fun h1 => ?_) (fun h1 => ?_)
    · refine jc_seq ?_; refine jc_region ?_; refine jo_l (ly_as rfl) (hd 6 rfl) ?_; refine jo_nil ?_; refine jc_seq ?_; refine jc_region ?_; refine jo_l (ly_as rfl) (hd 9 rfl) ?_; refine jo_nil ?_; refine jc_seq ?_; refine jc_draw (n := 16) _ rfl mixed ?_; refine ja_l2 0 [3, 4, 10, 11, 12, 13, 14, 15] (lo_l (ly_mv rfl) (hd 37 rfl)) rfl (by kernel_rfl) (by kernel_rfl) (by kernel_rfl) (by kernel_rfl) (fun _ _ _ _ h => h) ?_; refine ja_l2 1 [2, 3, 4, 10, 11, 12, 13, 14, 15] (lo_l (ly_mv rfl) (hd 38 rfl)) rfl (by kernel_rfl) (by kernel_rfl) (by kernel_rfl) (by kernel_rfl) (fun _ _ _ _ h => h) ?_; refine ja_l2 2 [3, 4, 10, 11, 12, 13, 14, 15] (lo_l (ly_sub rfl rfl (r := ((n + 1 : Nat) : Int)) (by rw [wrap_i64 (by omega) (by omega)]; omega)) (hd 39 rfl)) rfl (by kernel_rfl) (by kernel_rfl) (by kernel_rfl) (by kernel_rfl) (fun _ _ _ _ h => h) ?_; refine ja_l2 3 [4, 10, 11, 12, 13, 14, 15] (lo_l (ly_ia (i := n + 1) sl28 rfl rfl rfl (by first | rfl | omega) (by omega) rfl) (hd 40 rfl)) rfl (by kernel_rfl) (by kernel_rfl) (by kernel_rfl) (by kernel_rfl) (fun _ _ _ _ h => h) ?_; refine ja_l2 4 [10, 11, 12, 13, 14, 15] (lo_l (ly_is (ly_ldi one82 rfl rfl (by omega)) (show V.i .u64 _ = V.i .u64 (u.getD (n + 1) 0) from congrArg (V.i .u64) (hat (n + 1) (by omega)))) (hd 41 rfl)) rfl (by kernel_rfl) (by kernel_rfl) (by kernel_rfl) (by kernel_rfl) (fun _ _ _ _ h => h) ?_; refine ja_l2 5 [8, 9, 10, 11, 12, 13, 14, 15] (lo_l (ly_mv rfl) (hd 42 rfl)) rfl (by kernel_rfl) (by kernel_rfl) (by kernel_rfl) (by kernel_rfl) (fun _ _ _ _ h => h) ?_; refine ja_l2 6 [7, 8, 9, 10, 11, 12, 13, 14, 15] (lo_l (ly_mv rfl) (hd 43 rfl)) rfl (by kernel_rfl) (by kernel_rfl) (by kernel_rfl) (by kernel_rfl) (fun _ _ _ _ h => h) ?_; refine ja_l2 7 [8, 9, 10, 11, 12, 13, 14, 15] (lo_l (ly_sub rfl rfl (r := ((n + 1 : Nat) : Int)) (by rw [wrap_i64 (by omega) (by omega)]; omega)) (hd 44 rfl)) rfl (by kernel_rfl) (by kernel_rfl) (by kernel_rfl) (by kernel_rfl) (fun _ _ _ _ h => h) ?_; refine ja_l2 8 [9, 10, 11, 12, 13, 14, 15] (lo_l (ly_ian (i := n + 1) sl28 rfl rfl (by first | rfl | omega) (by omega)) (hd 45 rfl)) rfl (by kernel_rfl) (by kernel_rfl) (by kernel_rfl) (by kernel_rfl) (fun _ _ _ _ h => h) ?_; refine ja_l2 9 [10, 11, 12, 13, 14, 15] (lo_l (ly_ldq one82 rfl rfl) (hd 46 rfl)) rfl (by kernel_rfl) (by kernel_rfl) (by kernel_rfl) (by kernel_rfl) (fun _ _ _ _ h => h) ?_
      refine ja_1 10 ?_ rfl (by kernel_rfl)
      refine js_h (hy_ext3 (e := add64Entry) Try.func126 rfl rfl (by kernel_rfl) (by kernel_rfl) rfl rfl rfl (fun w => run_add64 _ _ _ hx1.1 hy1.1 (by decide) (by decide) w) rel_pair) (hd 47 rfl) ?_; refine ja_l 11 (lo_l (ly_mv rfl) (hd 36 rfl)) rfl (by kernel_rfl) (by kernel_rfl) (by kernel_rfl) (fun _ _ _ _ h => h) ?_; refine ja_l 12 (lo_l (ly_ext rfl rfl) (hd 48 rfl)) rfl (by kernel_rfl) (by kernel_rfl) (by kernel_rfl) (fun _ _ _ _ h => h) ?_; refine ja_l 13 (lo_l (ly_ext rfl rfl) (hd 49 rfl)) rfl (by kernel_rfl) (by kernel_rfl) (by kernel_rfl) (fun _ _ _ _ h => h) ?_; refine ja_l 14 (lo_l (ly_as rfl) (hd 7 rfl)) rfl (by kernel_rfl) (by kernel_rfl) (by kernel_rfl) (fun _ _ _ _ h => h) ?_; refine ja_l 15 (lo_l (ly_as rfl) (hd 9 rfl)) rfl (by kernel_rfl) (by kernel_rfl) (by kernel_rfl) (fun _ _ _ _ h => h) ?_; refine ja_nil (by kernel_rfl) ?_; refine jc_region ?_; refine jo_l (ly_mv rfl) (hd 50 rfl) ?_; refine jo_l (ly_ne rfl rfl) (hd 51 rfl) ?_; refine jo_l (ly_as rfl) (hd 8 rfl) ?_; refine jo_nil ?_
      refine ⟨(18446744073709551615, (u.getD (n + 1) 0 + v.getD (n + 1) 0 + 0) % 18446744073709551616, decide ((u.getD (n + 1) 0 + v.getD (n + 1) 0 + 0) / 18446744073709551616 ≠ 0)), ?_, rfl, cov_n 31 rfl rfl ?_⟩
      · have hE := hP.first_eq (by omega)
        refine ⟨hE.2.1, hE.2.2.1, hE.2.2.2.1, fun h => ?_, fun h => ?_⟩
        · have h2 := of_decide_eq_false h
          have e : (u.getD (n + 1) 0 + v.getD (n + 1) 0 + 0) % 18446744073709551616 = u.getD (n + 1) 0 + v.getD (n + 1) 0 := by omega
          show Est u v n _ ((u.getD (n + 1) 0 + v.getD (n + 1) 0 + 0) % 18446744073709551616) ∧ (u.getD (n + 1) 0 + v.getD (n + 1) 0 + 0) % 18446744073709551616 < _
          rw [e]
          exact ⟨hE, by omega⟩
        · have h2 := of_decide_eq_true h
          exact hP.over hE (by omega)
      · exact (.cons rfl (.cons rfl (.cons rfl (.u (.u (.u (.u (.u (.u (.u (.u (.u (.u (.u (.u (.u (.u (.u (.u (.u (.u (.u (.u (.u (.u (.u (.u (.u (.u (.u (.u (.u (.u (.u (.u (.u (.u (.u (.u (.u (.u (.u (.u (.u (.u (.u (.u (.u .nil))))))))))))))))))))))))))))))))))))))))))))))))
    · refine jc_draw (n := 20) _ rfl mixed ?_; refine ja_l2 0 [2, 3, 14, 15, 16, 17, 18, 19] (lo_l (ly_mv rfl) (hd 53 rfl)) rfl (by kernel_rfl) (by kernel_rfl) (by kernel_rfl) (by kernel_rfl) (fun _ _ _ _ h => h) ?_; refine ja_l2 1 [2, 3, 14, 15, 16, 17, 18, 19] (lo_l (ly_mv rfl) (hd 54 rfl)) rfl (by kernel_rfl) (by kernel_rfl) (by kernel_rfl) (by kernel_rfl) (fun _ _ _ _ h => h) ?_; refine ja_l2 2 [3, 14, 15, 16, 17, 18, 19] (lo_l (ly_ia (i := n + 2) sl28 rfl rfl rfl (by first | rfl | omega) (by omega) rfl) (hd 55 rfl)) rfl (by kernel_rfl) (by kernel_rfl) (by kernel_rfl) (by kernel_rfl) (fun _ _ _ _ h => h) ?_; refine ja_l2 3 [14, 15, 16, 17, 18, 19] (lo_l (ly_is (ly_ldi one82 rfl rfl (by omega)) (show V.i .u64 _ = V.i .u64 (u.getD (n + 2) 0) from congrArg (V.i .u64) (hat (n + 2) (by omega)))) (hd 56 rfl)) rfl (by kernel_rfl) (by kernel_rfl) (by kernel_rfl) (by kernel_rfl) (fun _ _ _ _ h => h) ?_; refine ja_l2 4 [7, 8, 14, 15, 16, 17, 18, 19] (lo_l (ly_mv rfl) (hd 57 rfl)) rfl (by kernel_rfl) (by kernel_rfl) (by kernel_rfl) (by kernel_rfl) (fun _ _ _ _ h => h) ?_; refine ja_l2 5 [6, 7, 8, 14, 15, 16, 17, 18, 19] (lo_l (ly_mv rfl) (hd 58 rfl)) rfl (by kernel_rfl) (by kernel_rfl) (by kernel_rfl) (by kernel_rfl) (fun _ _ _ _ h => h) ?_; refine ja_l2 6 [7, 8, 14, 15, 16, 17, 18, 19] (lo_l (ly_sub rfl rfl (r := ((n + 1 : Nat) : Int)) (by rw [wrap_i64 (by omega) (by omega)]; omega)) (hd 59 rfl)) rfl (by kernel_rfl) (by kernel_rfl) (by kernel_rfl) (by kernel_rfl) (fun _ _ _ _ h => h) ?_; refine ja_l2 7 [8, 14, 15, 16, 17, 18, 19] (lo_l (ly_ia (i := n + 1) sl28 rfl rfl rfl (by first | rfl | omega) (by omega) rfl) (hd 60 rfl)) rfl (by kernel_rfl) (by kernel_rfl) (by kernel_rfl) (by kernel_rfl) (fun _ _ _ _ h => h) ?_; refine ja_l2 8 [14, 15, 16, 17, 18, 19] (lo_l (ly_is (ly_ldi one82 rfl rfl (by omega)) (show V.i .u64 _ = V.i .u64 (u.getD (n + 1) 0) from congrArg (V.i .u64) (hat (n + 1) (by omega)))) (hd 61 rfl)) rfl (by kernel_rfl) (by kernel_rfl) (by kernel_rfl) (by kernel_rfl) (fun _ _ _ _ h => h) ?_; refine ja_l2 9 [12, 13, 14, 15, 16, 17, 18, 19] (lo_l (ly_mv rfl) (hd 62 rfl)) rfl (by kernel_rfl) (by kernel_rfl) (by kernel_rfl) (by kernel_rfl) (fun _ _ _ _ h => h) ?_; refine ja_l2 10 [11, 12, 13, 14, 15, 16, 17, 18, 19] (lo_l (ly_mv rfl) (hd 63 rfl)) rfl (by kernel_rfl) (by kernel_rfl) (by kernel_rfl) (by kernel_rfl) (fun _ _ _ _ h => h) ?_; refine ja_l2 11 [12, 13, 14, 15, 16, 17, 18, 19] (lo_l (ly_sub rfl rfl (r := ((n + 1 : Nat) : Int)) (by rw [wrap_i64 (by omega) (by omega)]; omega)) (hd 64 rfl)) rfl (by kernel_rfl) (by kernel_rfl) (by kernel_rfl) (by kernel_rfl) (fun _ _ _ _ h => h) ?_; refine ja_l2 12 [13, 14, 15, 16, 17, 18, 19] (lo_l (ly_ian (i := n + 1) sl28 rfl rfl (by first | rfl | omega) (by omega)) (hd 65 rfl)) rfl (by kernel_rfl) (by kernel_rfl) (by kernel_rfl) (by kernel_rfl) (fun _ _ _ _ h => h) ?_; refine ja_l2 13 [14, 15, 16, 17, 18, 19] (lo_l (ly_ldq one82 rfl rfl) (hd 66 rfl)) rfl (by kernel_rfl) (by kernel_rfl) (by kernel_rfl) (by kernel_rfl) (fun _ _ _ _ h => h) ?_
      refine ja_1 14 ?_ rfl (by kernel_rfl)
      refine js_call Try.f129 (Div64_s (u.getD (n + 2) 0) (u.getD (n + 1) 0) (v.getD (n + 1) 0) hx2.1 (by omega) hx1.1 hx1.2 hy1.2) rfl Try.func129 rfl rfl (ovL_cons rfl (ovL_cons rfl (ovL_cons rfl ovL_nil))) (.cons .i (.cons .i (.cons .i .nil))) (hd 67 rfl) ?_ (fun ch hp => by simp at hp)
      rintro y hy; injection hy with hy; subst hy; refine ja_l 15 (lo_l (ly_mv rfl) (hd 52 rfl)) rfl (by kernel_rfl) (by kernel_rfl) (by kernel_rfl) (fun _ _ _ _ h => h) ?_; refine ja_l 16 (lo_l (ly_ext rfl rfl) (hd 68 rfl)) rfl (by kernel_rfl) (by kernel_rfl) (by kernel_rfl) (fun _ _ _ _ h => h) ?_; refine ja_l 17 (lo_l (ly_ext rfl rfl) (hd 69 rfl)) rfl (by kernel_rfl) (by kernel_rfl) (by kernel_rfl) (fun _ _ _ _ h => h) ?_; refine ja_l 18 (lo_l (ly_as rfl) (hd 6 rfl)) rfl (by kernel_rfl) (by kernel_rfl) (by kernel_rfl) (fun _ _ _ _ h => h) ?_; refine ja_l 19 (lo_l (ly_as rfl) (hd 7 rfl)) rfl (by kernel_rfl) (by kernel_rfl) (by kernel_rfl) (fun _ _ _ _ h => h) ?_; refine ja_nil (by kernel_rfl) ?_
      refine ⟨((u.getD (n + 2) 0 * 18446744073709551616 + u.getD (n + 1) 0) / v.getD (n + 1) 0, (u.getD (n + 2) 0 * 18446744073709551616 + u.getD (n + 1) 0) % v.getD (n + 1) 0, false), ?_, rfl, cov_n 30 rfl rfl ?_⟩
      · have hE := hP.first_div (by omega)
        have hm := Int.emod_lt_of_pos (u.getD (n + 2) 0 * 18446744073709551616 + u.getD (n + 1) 0) (show 0 < v.getD (n + 1) 0 by omega)
        exact ⟨hE.2.1, hE.2.2.1, hE.2.2.2.1, fun _ => ⟨hE, by dsimp only; omega⟩, fun h => absurd h (by simp)⟩
      · exact (.cons rfl (.cons rfl (.cons rfl (.u (.u (.u (.u (.u (.u (.u (.u (.u (.u (.u (.u (.u (.u (.u (.u (.u (.u (.u (.u (.u (.u (.u (.u (.u (.u (.u (.u (.u (.u (.u (.u (.u (.u (.u (.u (.u (.u (.u (.u (.u (.u (.u (.u (.u .nil))))))))))))))))))))))))))))))))))))))))))))))))
  · rintro ⟨q0, r0, sure⟩ ⟨hc1, hc2, hc3, hc4, hc5⟩
    dsimp only at hc1 hc2 hc3 hc4 hc5
    refine jc_meetH (G := Int) (fun g => vl u / vl v ≤ g ∧ 0 ≤ g ∧ g < 18446744073709551616 ∧ g ≤ vl u / vl v + 1) (fun g => [(6, .i .u64 g), (7, .u), (10, .u), (11, .u), (12, .u), (70, .u), (71, .u), (72, .u), (73, .u), (74, .u), (75, .u), (76, .u), (77, .u), (78, .u), (79, .u), (80, .u), (81, .u), (82, .u), (83, .u), (84, .u), (85, .u), (86, .u), (87, .u), (88, .u), (89, .u), (90, .u), (91, .u), (92, .u), (93, .u), (94, .u), (95, .u), (96, .u), (97, .u), (98, .u), (99, .u), (100, .u), (101, .u), (102, .u), (103, .u), (104, .u), (105, .u), (106, .u), (107, .u), (108, .u), (109, .u), (110, .u), (111, .u), (112, .u)]) ?_ ?_
    · refine jc_block ?_
      refine jc_loopF (G := Int × Int) (fun g => vl u / vl v ≤ g.1 ∧ 0 ≤ g.1 ∧ g.1 < 18446744073709551616 ∧ (sure = false → Est u v n g.1 g.2 ∧ g.2 < 18446744073709551616) ∧ (sure = true → g.1 ≤ vl u / vl v + 1)) (fun g => [(6, .i .u64 g.1), (7, .i .u64 g.2), (10, .u), (11, .u), (12, .u), (70, .u), (71, .u), (72, .u), (73, .u), (74, .u), (75, .u), (76, .u), (77, .u), (78, .u), (79, .u), (80, .u), (81, .u), (82, .u), (83, .u), (84, .u), (85, .u), (86, .u), (87, .u), (88, .u), (89, .u), (90, .u), (91, .u), (92, .u), (93, .u), (94, .u), (95, .u), (96, .u), (97, .u), (98, .u), (99, .u), (100, .u), (101, .u), (102, .u), (103, .u), (104, .u), (105, .u), (106, .u), (107, .u), (108, .u), (109, .u), (110, .u), (111, .u), (112, .u)]) (fun _ => _) (fun g => g.1.toNat) (q0, r0) ?_ ?_ rfl ?_
      · exact ⟨hc1, hc2, hc3, hc4, hc5⟩
      · exact (.cons rfl (.cons rfl (.u (.u (.u (.u (.u (.u (.u (.u (.u (.u (.u (.u (.u (.u (.u (.u (.u (.u (.u (.u (.u (.u (.u (.u (.u (.u (.u (.u (.u (.u (.u (.u (.u (.u (.u (.u (.u (.u (.u (.u (.u (.u (.u (.u (.u (.u .nil))))))))))))))))))))))))))))))))))))))))))))))))
      · rintro ⟨q, r⟩ ⟨hd1, hd2, hd3, hd4, hd5⟩
        dsimp only at hd1 hd2 hd3 hd4 hd5
        refine jc_seq ?_; refine jc_seq ?_; refine jc_region ?_; refine jo_l (ly_mv rfl) (hd 70 rfl) ?_; refine jo_l (ly_not rfl) (hd 71 rfl) ?_; refine jo_nil ?_
        refine jc_cond rfl (fun h2 => ?_) (fun h2 => ?_)
        · have hsf : sure = false := by simpa using h2
          obtain ⟨hE, hr⟩ := hd4 hsf
          obtain ⟨hE1, hE2, hE3, hE4, hE5⟩ := id hE
          refine jc_skip ?_; refine jc_block ?_; refine jc_seq ?_; refine jc_region ?_; refine jo_l (ly_mv rfl) (hd 73 rfl) ?_; refine jo_l (ly_mv rfl) (hd 74 rfl) ?_; refine jo_l (ly_mv rfl) (hd 75 rfl) ?_; refine jo_l (ly_sub rfl rfl (r := ((n : Nat) : Int)) (by rw [wrap_i64 (by omega) (by omega)]; omega)) (hd 76 rfl) ?_; refine jo_l (ly_ian (i := n) sl28 rfl rfl (by first | rfl | omega) (by omega)) (hd 77 rfl) ?_; refine jo_l (ly_ldq one82 rfl rfl) (hd 78 rfl) ?_
          refine jo_call Try.f136 (Mul64_s q (v.getD n 0) hd2 hd3 hy0.1 hy0.2) rfl Try.func136 rfl rfl (ovL_cons rfl (ovL_cons rfl ovL_nil)) (.cons .i (.cons .i .nil)) (hd 79 rfl) ?_ (fun ch hp => by simp at hp)
          rintro y hy; injection hy with hy; subst hy; refine jo_l (ly_mv rfl) (hd 72 rfl) ?_; refine jo_l (ly_ext rfl rfl) (hd 80 rfl) ?_; refine jo_l (ly_ext rfl rfl) (hd 81 rfl) ?_; refine jo_l (ly_as rfl) (hd 10 rfl) ?_; refine jo_l (ly_as rfl) (hd 11 rfl) ?_; refine jo_nil ?_; refine jc_seq ?_; refine jc_seq ?_; refine jc_region ?_; refine jo_l (ly_mv rfl) (hd 82 rfl) ?_; refine jo_l (ly_mv rfl) (hd 83 rfl) ?_; refine jo_l (ly_lt rfl rfl) (hd 84 rfl) ?_; refine jo_l (ly_mv rfl) (hd 85 rfl) ?_
          refine jo_ifp 85 rfl (fun h3 => ?_) (fun h3 => ?_)
          · refine jo_s 85 rfl rfl rfl (hd 86 rfl) ?_; refine jo_s 85 rfl rfl rfl (hd 87 rfl) ?_; refine jo_s 85 rfl rfl rfl (hd 88 rfl) ?_; refine jo_s 85 rfl rfl rfl (hd 89 rfl) ?_; refine jo_s' 89 rfl rfl (hd 90 rfl) ?_; refine jo_s' 89 rfl rfl (hd 91 rfl) ?_; refine jo_s' 89 rfl rfl (hd 92 rfl) ?_; refine jo_s' 89 rfl rfl (hd 93 rfl) ?_; refine jo_s' 89 rfl rfl (hd 94 rfl) ?_; refine jo_s' 89 rfl rfl (hd 95 rfl) ?_; refine jo_s' 89 rfl rfl (hd 96 rfl) ?_; refine jo_s 85 rfl rfl rfl (hd 97 rfl) ?_; refine jo_l (ly_pick_t rfl rfl) (hd 98 rfl) ?_; refine jo_nil ?_; refine jc_litt rfl ?_; refine jc_exit ?_
            refine ⟨q, ?_, rfl, cov_n 80 rfl rfl ?_⟩
            · exact ⟨hd1, hd2, hd3, hP.last hE (by omega)⟩
            · exact (.cons rfl (.u (.u (.u (.u (.u (.u (.u (.u (.u (.u (.u (.u (.u (.u (.u (.u (.u (.u (.u (.u (.u (.u (.u (.u (.u (.u (.u (.u (.u (.u (.u (.u (.u (.u (.u (.u (.u (.u (.u (.u (.u (.u (.u (.u (.u (.u (.u .nil))))))))))))))))))))))))))))))))))))))))))))))))
          · refine jo_g 85 rfl rfl (ly_mv rfl) (hd 86 rfl) ?_; refine jo_g 85 rfl rfl (ly_mv rfl) (hd 87 rfl) ?_; refine jo_g 85 rfl rfl (ly_eq rfl rfl) (hd 88 rfl) ?_; refine jo_g 85 rfl rfl (ly_mv rfl) (hd 89 rfl) ?_
            refine jo_ifp 89 rfl (fun h5 => ?_) (fun h5 => ?_)
            · refine jo_g 89 rfl rfl (ly_mv rfl) (hd 90 rfl) ?_; refine jo_g 89 rfl rfl (ly_mv rfl) (hd 91 rfl) ?_; refine jo_g 89 rfl rfl (ly_mv rfl) (hd 92 rfl) ?_; refine jo_g 89 rfl rfl (ly_sub rfl rfl (r := ((n : Nat) : Int)) (by rw [wrap_i64 (by omega) (by omega)]; omega)) (hd 93 rfl) ?_; refine jo_g 89 rfl rfl (ly_ia (i := n) sl28 rfl rfl rfl (by first | rfl | omega) (by omega) rfl) (hd 94 rfl) ?_; refine jo_g 89 rfl rfl (ly_is (ly_ldi one82 rfl rfl (by omega)) (show V.i .u64 _ = V.i .u64 (u.getD (n) 0) from congrArg (V.i .u64) (hat (n) (by omega)))) (hd 95 rfl) ?_; refine jo_g 89 rfl rfl (ly_le rfl rfl) (hd 96 rfl) ?_; refine jo_g 85 rfl rfl (ly_pick_t rfl rfl) (hd 97 rfl) ?_; refine jo_l (ly_pick_f rfl rfl) (hd 98 rfl) ?_; refine jo_nil ?_
              refine jc_if rfl (fun h6 => ?_) (fun h6 => ?_)
              · refine jc_exit ?_
                refine ⟨q, ?_, rfl, cov_n 81 rfl rfl ?_⟩
                · exact ⟨hd1, hd2, hd3, hP.last hE (by omega)⟩
                · exact (.cons rfl (.u (.u (.u (.u (.u (.u (.u (.u (.u (.u (.u (.u (.u (.u (.u (.u (.u (.u (.u (.u (.u (.u (.u (.u (.u (.u (.u (.u (.u (.u (.u (.u (.u (.u (.u (.u (.u (.u (.u (.u (.u (.u (.u (.u (.u (.u (.u .nil))))))))))))))))))))))))))))))))))))))))))))))))
              · refine jc_skip ?_; refine jc_seq ?_
                obtain ⟨hN, hq1⟩ := hP.next hE (by omega)
                obtain ⟨hN1, hN2, hN3, hN4, hN5⟩ := id hN
                refine jc_region ?_; refine jo_l (ly_mv rfl) (hd 99 rfl) ?_; refine jo_l (ly_sub rfl rfl (wrap_u64 (by first | omega | (dsimp only; omega)) (by first | omega | (dsimp only; omega)))) (hd 100 rfl) ?_; refine jo_l (ly_as rfl) (hd 6 rfl) ?_; refine jo_nil ?_; refine jc_seq ?_; refine jc_region ?_; refine jo_l (ly_as rfl) (hd 12 rfl) ?_; refine jo_nil ?_; refine jc_seq ?_; refine jc_region ?_; refine jo_l (ly_mv rfl) (hd 102 rfl) ?_; refine jo_l (ly_mv rfl) (hd 103 rfl) ?_; refine jo_l (ly_mv rfl) (hd 104 rfl) ?_; refine jo_l (ly_sub rfl rfl (r := ((n + 1 : Nat) : Int)) (by rw [wrap_i64 (by omega) (by omega)]; omega)) (hd 105 rfl) ?_; refine jo_l (ly_ian (i := n + 1) sl28 rfl rfl (by first | rfl | omega) (by omega)) (hd 106 rfl) ?_; refine jo_l (ly_ldq one82 rfl rfl) (hd 107 rfl) ?_; refine jo_h (hy_ext3 (e := add64Entry) Try.func126 rfl rfl (by kernel_rfl) (by kernel_rfl) rfl rfl rfl (fun w => run_add64 _ _ _ hE5 hy1.1 (by decide) (by decide) w) rel_pair) (hd 108 rfl) ?_; refine jo_l (ly_mv rfl) (hd 101 rfl) ?_; refine jo_l (ly_ext rfl rfl) (hd 109 rfl) ?_; refine jo_l (ly_ext rfl rfl) (hd 110 rfl) ?_; refine jo_l (ly_as rfl) (hd 7 rfl) ?_; refine jo_l (ly_as rfl) (hd 12 rfl) ?_; refine jo_nil ?_; refine jc_seq ?_; refine jc_region ?_; refine jo_l (ly_mv rfl) (hd 111 rfl) ?_; refine jo_l (ly_ne rfl rfl) (hd 112 rfl) ?_; refine jo_nil ?_
                refine jc_if rfl (fun h7 => ?_) (fun h7 => ?_)
                · refine jc_exit ?_
                  refine ⟨(q - 1), ?_, rfl, cov_n 99 rfl rfl ?_⟩
                  · exact ⟨hN2, hN3, hN4, hP.over hN (by omega)⟩
                  · exact (.cons rfl (.u (.u (.u (.u (.u (.u (.u (.u (.u (.u (.u (.u (.u (.u (.u (.u (.u (.u (.u (.u (.u (.u (.u (.u (.u (.u (.u (.u (.u (.u (.u (.u (.u (.u (.u (.u (.u (.u (.u (.u (.u (.u (.u (.u (.u (.u (.u .nil))))))))))))))))))))))))))))))))))))))))))))))))
                · refine jc_skip ?_
                  refine ⟨(q - 1, (r + v.getD (n + 1) 0 + 0) % 18446744073709551616), ?_, ?_, rfl, cov_n 99 rfl rfl ?_⟩
                  · have e : (r + v.getD (n + 1) 0 + 0) % 18446744073709551616 = r + v.getD (n + 1) 0 := by omega
                    exact ⟨hN2, hN3, hN4, fun _ => by show Est u v n (q - 1) ((r + v.getD (n + 1) 0 + 0) % 18446744073709551616) ∧ (r + v.getD (n + 1) 0 + 0) % 18446744073709551616 < _; rw [e]; exact ⟨hN, by omega⟩, fun h => absurd (hsf.symm.trans h) (by simp)⟩
                  · show (q - 1).toNat < q.toNat
                    omega
                  · exact (.cons rfl (.cons rfl (.u (.u (.u (.u (.u (.u (.u (.u (.u (.u (.u (.u (.u (.u (.u (.u (.u (.u (.u (.u (.u (.u (.u (.u (.u (.u (.u (.u (.u (.u (.u (.u (.u (.u (.u (.u (.u (.u (.u (.u (.u (.u (.u (.u (.u (.u .nil))))))))))))))))))))))))))))))))))))))))))))))))
            · refine jo_s 89 rfl rfl rfl (hd 90 rfl) ?_; refine jo_s 89 rfl rfl rfl (hd 91 rfl) ?_; refine jo_s 89 rfl rfl rfl (hd 92 rfl) ?_; refine jo_s 89 rfl rfl rfl (hd 93 rfl) ?_; refine jo_s 89 rfl rfl rfl (hd 94 rfl) ?_; refine jo_s 89 rfl rfl rfl (hd 95 rfl) ?_; refine jo_s 89 rfl rfl rfl (hd 96 rfl) ?_; refine jo_g 85 rfl rfl (ly_pick_f rfl rfl) (hd 97 rfl) ?_; refine jo_l (ly_pick_f rfl rfl) (hd 98 rfl) ?_; refine jo_nil ?_; refine jc_litf rfl ?_; refine jc_skip ?_; refine jc_seq ?_
              obtain ⟨hN, hq1⟩ := hP.next hE (by omega)
              obtain ⟨hN1, hN2, hN3, hN4, hN5⟩ := id hN
              refine jc_region ?_; refine jo_l (ly_mv rfl) (hd 99 rfl) ?_; refine jo_l (ly_sub rfl rfl (wrap_u64 (by first | omega | (dsimp only; omega)) (by first | omega | (dsimp only; omega)))) (hd 100 rfl) ?_; refine jo_l (ly_as rfl) (hd 6 rfl) ?_; refine jo_nil ?_; refine jc_seq ?_; refine jc_region ?_; refine jo_l (ly_as rfl) (hd 12 rfl) ?_; refine jo_nil ?_; refine jc_seq ?_; refine jc_region ?_; refine jo_l (ly_mv rfl) (hd 102 rfl) ?_; refine jo_l (ly_mv rfl) (hd 103 rfl) ?_; refine jo_l (ly_mv rfl) (hd 104 rfl) ?_; refine jo_l (ly_sub rfl rfl (r := ((n + 1 : Nat) : Int)) (by rw [wrap_i64 (by omega) (by omega)]; omega)) (hd 105 rfl) ?_; refine jo_l (ly_ian (i := n + 1) sl28 rfl rfl (by first | rfl | omega) (by omega)) (hd 106 rfl) ?_; refine jo_l (ly_ldq one82 rfl rfl) (hd 107 rfl) ?_; refine jo_h (hy_ext3 (e := add64Entry) Try.func126 rfl rfl (by kernel_rfl) (by kernel_rfl) rfl rfl rfl (fun w => run_add64 _ _ _ hE5 hy1.1 (by decide) (by decide) w) rel_pair) (hd 108 rfl) ?_; refine jo_l (ly_mv rfl) (hd 101 rfl) ?_; refine jo_l (ly_ext rfl rfl) (hd 109 rfl) ?_; refine jo_l (ly_ext rfl rfl) (hd 110 rfl) ?_; refine jo_l (ly_as rfl) (hd 7 rfl) ?_; refine jo_l (ly_as rfl) (hd 12 rfl) ?_; refine jo_nil ?_; refine jc_seq ?_; refine jc_region ?_; refine jo_l (ly_mv rfl) (hd 111 rfl) ?_; refine jo_l (ly_ne rfl rfl) (hd 112 rfl) ?_; refine jo_nil ?_
              refine jc_if rfl (fun h9 => ?_) (fun h9 => ?_)
              · refine jc_exit ?_
                refine ⟨(q - 1), ?_, rfl, cov_n 99 rfl rfl ?_⟩
                · exact ⟨hN2, hN3, hN4, hP.over hN (by omega)⟩
                · exact (.cons rfl (.u (.u (.u (.u (.u (.u (.u (.u (.u (.u (.u (.u (.u (.u (.u (.u (.u (.u (.u (.u (.u (.u (.u (.u (.u (.u (.u (.u (.u (.u (.u (.u (.u (.u (.u (.u (.u (.u (.u (.u (.u (.u (.u (.u (.u (.u (.u .nil))))))))))))))))))))))))))))))))))))))))))))))))
              · refine jc_skip ?_
                refine ⟨(q - 1, (r + v.getD (n + 1) 0 + 0) % 18446744073709551616), ?_, ?_, rfl, cov_n 99 rfl rfl ?_⟩
                · have e : (r + v.getD (n + 1) 0 + 0) % 18446744073709551616 = r + v.getD (n + 1) 0 := by omega
                  exact ⟨hN2, hN3, hN4, fun _ => by show Est u v n (q - 1) ((r + v.getD (n + 1) 0 + 0) % 18446744073709551616) ∧ (r + v.getD (n + 1) 0 + 0) % 18446744073709551616 < _; rw [e]; exact ⟨hN, by omega⟩, fun h => absurd (hsf.symm.trans h) (by simp)⟩
                · show (q - 1).toNat < q.toNat
                  omega
                · exact (.cons rfl (.cons rfl (.u (.u (.u (.u (.u (.u (.u (.u (.u (.u (.u (.u (.u (.u (.u (.u (.u (.u (.u (.u (.u (.u (.u (.u (.u (.u (.u (.u (.u (.u (.u (.u (.u (.u (.u (.u (.u (.u (.u (.u (.u (.u (.u (.u (.u (.u .nil))))))))))))))))))))))))))))))))))))))))))))))))
        · have hst : sure = true := by simpa using h2
          have hlast := hd5 hst
          refine jc_exit ?_
          refine ⟨q, ?_, rfl, cov_n 50 rfl rfl ?_⟩
          · exact ⟨hd1, hd2, hd3, hlast⟩
          · exact (.cons rfl (.u (.u (.u (.u (.u (.u (.u (.u (.u (.u (.u (.u (.u (.u (.u (.u (.u (.u (.u (.u (.u (.u (.u (.u (.u (.u (.u (.u (.u (.u (.u (.u (.u (.u (.u (.u (.u (.u (.u (.u (.u (.u (.u (.u (.u (.u (.u .nil))))))))))))))))))))))))))))))))))))))))))))))))
    · rintro q ⟨hq1, hq2, hq3, hq4⟩
      obtain ⟨hgQ, hgl, hgu, hgv⟩ := gs_end hP.uu hP.uv (by omega) hv0 hq2 hq3 hq1 hq4
      unfold gsQ at hgQ
      have hmB := msB_bd u v q
      have hum := msL_u hP.uu hP.uv hq2 hq3
      have hml0 := msL_len u v q
      refine jc_seq ?_; refine jc_H (H' := [⟨90, 1, 0, true, ints .u64 (rwJ U j (msN u v q 0).1)⟩, ⟨90, 1, 0, true, ints .u64 Q⟩]) (by show _ = [(⟨90, 1, 0, true, ints .u64 (rwJ U j [])⟩ : Ob), _]; rw [rwJ_0]) ?_; refine jc_region ?_; refine jo_l (ly_as rfl) (hd 13 rfl) ?_; refine jo_l (ly_as rfl) (hd 14 rfl) ?_; refine jo_nil ?_; refine jc_seq ?_; refine jc_seq ?_; refine jc_region ?_; refine jo_l (ly_mv rfl) (hd 113 rfl) ?_; refine jo_l (ly_lenn sl28 rfl) (hd 114 rfl) ?_; refine jo_l (ly_mv rfl) (hd 115 rfl) ?_; refine jo_nil ?_; refine jc_block ?_
      refine jc_loopF (G := Nat) (fun i => i ≤ v.length) (fun i => [(13, .i .u64 (msN u v q i).2.1), (14, .i .u64 (msN u v q i).2.2), (115, .i .i64 (i : Int)), (15, .u), (16, .u), (17, .u), (18, .u), (19, .u), (20, .u), (116, .u), (117, .u), (118, .u), (119, .u), (120, .u), (121, .u), (122, .u), (123, .u), (124, .u), (125, .u), (126, .u), (127, .u), (128, .u), (129, .u), (130, .u), (131, .u), (132, .u), (133, .u), (134, .u), (135, .u), (136, .u), (137, .u), (138, .u), (139, .u), (140, .u), (141, .u), (142, .u), (143, .u), (144, .u), (145, .u), (146, .u), (147, .u), (148, .u)]) (fun i => [⟨90, 1, 0, true, ints .u64 (rwJ U j (msN u v q i).1)⟩, ⟨90, 1, 0, true, ints .u64 Q⟩]) (fun i => v.length - i) 0 ?_ ?_ rfl ?_
      · exact Nat.zero_le _
      · exact (.cons rfl (.cons rfl (.cons rfl (.u (.u (.u (.u (.u (.u (.u (.u (.u (.u (.u (.u (.u (.u (.u (.u (.u (.u (.u (.u (.u (.u (.u (.u (.u (.u (.u (.u (.u (.u (.u (.u (.u (.u (.u (.u (.u (.u (.u .nil))))))))))))))))))))))))))))))))))))))))))
      · rintro i hi1
        have hml := msN_len u v q i
        have hf : (rwJ U j (msN u v q i).1).length = U.length := rwJ_len (by omega)
        have hc := msN_c (u := u) hP.uv hq2 hq3 i
        have hb := msN_b u v q i
        have hxi := u64s_getD hP.uu i
        have hyi := u64s_getD hP.uv i
        have hmp := mul_lt hyi.1 hyi.2 hq2 hq3
        refine jc_seq ?_; refine jc_region ?_; refine jo_l (ly_lt rfl rfl) (hd 116 rfl) ?_; refine jo_nil ?_; refine jc_seq ?_
        refine jc_if rfl (fun h10 => ?_) (fun h10 => ?_)
        · refine jc_skip ?_; refine jc_seq ?_; refine jc_block ?_; refine jc_seq ?_; refine jc_region ?_; refine jo_l (ly_mv rfl) (hd 117 rfl) ?_; refine jo_l (ly_ian (i := i) sl28 rfl rfl (by first | rfl | omega) (by omega)) (hd 118 rfl) ?_; refine jo_l (ly_ldq one82 rfl rfl) (hd 119 rfl) ?_; refine jo_l (ly_as rfl) (hd 15 rfl) ?_; refine jo_l (ly_as rfl) (hd 16 rfl) ?_; refine jo_nil ?_; refine jc_seq ?_; refine jc_region ?_; refine jo_l (ly_mv rfl) (hd 121 rfl) ?_; refine jo_l (ly_mv rfl) (hd 122 rfl) ?_
          refine jo_call Try.f136 (Mul64_s (v.getD i 0) q hyi.1 hyi.2 hq2 hq3) rfl Try.func136 rfl rfl (ovL_cons rfl (ovL_cons rfl ovL_nil)) (.cons .i (.cons .i .nil)) (hd 123 rfl) ?_ (fun ch hp => by simp at hp)
          rintro y hy; injection hy with hy; subst hy; refine jo_l (ly_mv rfl) (hd 120 rfl) ?_; refine jo_l (ly_ext rfl rfl) (hd 124 rfl) ?_; refine jo_l (ly_ext rfl rfl) (hd 125 rfl) ?_; refine jo_l (ly_as rfl) (hd 17 rfl) ?_; refine jo_l (ly_as rfl) (hd 18 rfl) ?_; refine jo_nil ?_; refine jc_seq ?_; refine jc_region ?_; refine jo_l (ly_mv rfl) (hd 127 rfl) ?_; refine jo_l (ly_mv rfl) (hd 128 rfl) ?_; refine jo_h (hy_ext3 (e := add64Entry) Try.func126 rfl rfl (by kernel_rfl) (by kernel_rfl) rfl rfl rfl (fun w => run_add64 _ _ _ (Int.emod_nonneg _ (by decide)) hc.1 (by decide) (by decide) w) rel_pair) (hd 129 rfl) ?_; refine jo_l (ly_mv rfl) (hd 126 rfl) ?_; refine jo_l (ly_is (ly_ext rfl rfl) (show V.i .u64 _ = V.i .u64 (msS u v q i (msN u v q i).2.1) from congrArg (V.i .u64) (by unfold msS; rw [Int.add_zero]))) (hd 130 rfl) ?_; refine jo_l (ly_ext rfl rfl) (hd 131 rfl) ?_; refine jo_l (ly_as rfl) (hd 19 rfl) ?_; refine jo_l (ly_as rfl) (hd 20 rfl) ?_; refine jo_nil ?_; refine jc_seq ?_; refine jc_region ?_; refine jo_l (ly_mv rfl) (hd 132 rfl) ?_; refine jo_l (ly_mv rfl) (hd 133 rfl) ?_; refine jo_l (ly_add rfl rfl (r := msC v q i (msN u v q i).2.1) (by unfold msC; rw [Int.add_zero]; exact wrap_u64 (by omega) (by omega))) (hd 134 rfl) ?_; refine jo_l (ly_as rfl) (hd 13 rfl) ?_; refine jo_nil ?_; refine jc_region ?_; refine jo_l (ly_mv rfl) (hd 136 rfl) ?_; refine jo_l (ly_mv rfl) (hd 137 rfl) ?_; refine jo_l (ly_mv rfl) (hd 138 rfl) ?_; refine jo_l (ly_mv rfl) (hd 139 rfl) ?_; refine jo_l (ly_ia (i := i) sl28 rfl rfl rfl (by first | rfl | omega) (by omega) rfl) (hd 140 rfl) ?_; refine jo_l (ly_is (ly_ldi one82 rfl rfl (by omega)) (show V.i .u64 _ = V.i .u64 (u.getD i 0) from congrArg (V.i .u64) ((rwJ_at (by omega) (by omega)).trans (hat2 (i) (by omega))))) (hd 141 rfl) ?_; refine jo_l (ly_mv rfl) (hd 142 rfl) ?_; refine jo_l (ly_mv rfl) (hd 143 rfl) ?_; refine jo_h (hy_ext3 (e := sub64Entry) Try.func128 rfl rfl (by kernel_rfl) (by kernel_rfl) rfl rfl rfl (fun w => run_sub64 _ _ _ hxi.1 hxi.2 (by unfold msS; omega) (by unfold msS; omega) hb.1 hb.2 w) rel_pair) (hd 144 rfl) ?_; refine jo_l (ly_mv rfl) (hd 135 rfl) ?_; refine jo_l (ly_is (ly_ext rfl rfl) (show V.i .u64 _ = V.i .u64 (sbD (u.getD i 0) (msS u v q i (msN u v q i).2.1) (msN u v q i).2.2) from congrArg (V.i .u64) rfl)) (hd 145 rfl) ?_; refine jo_l (ly_is (ly_ext rfl rfl) (show V.i .u64 _ = V.i .u64 (sbB (u.getD i 0) (msS u v q i (msN u v q i).2.1) (msN u v q i).2.2) from congrArg (V.i .u64) rfl)) (hd 146 rfl) ?_; refine jo_l (ly_ia (i := i) sl28 rfl rfl rfl (by first | rfl | omega) (by omega) rfl) (hd 147 rfl) ?_; refine jo_st (sy_storei rfl rfl rfl one82 (by omega)) ?_; refine jo_l (ly_as rfl) (hd 14 rfl) ?_; refine jo_nil ?_; refine jc_region ?_; refine jo_l (ly_add rfl rfl (wrap_i64 (by omega) (by omega))) (hd 148 rfl) ?_; refine jo_l (ly_mv rfl) (hd 115 rfl) ?_; refine jo_nil ?_
          refine ⟨i + 1, ?_, ?_, (by show [(⟨90, 1, 0, true, ints .u64 _⟩ : Ob), _] = [⟨90, 1, 0, true, ints .u64 _⟩, _]; rw [ms_set (by omega)]), cov_n 84 rfl rfl ?_⟩
          · omega
          · omega
          · exact (.cons rfl (.cons rfl (.cons rfl (.u (.u (.u (.u (.u (.u (.u (.u (.u (.u (.u (.u (.u (.u (.u (.u (.u (.u (.u (.u (.u (.u (.u (.u (.u (.u (.u (.u (.u (.u (.u (.u (.u (.u (.u (.u (.u (.u (.u .nil))))))))))))))))))))))))))))))))))))))))))
        · obtain rfl : i = v.length := by omega
          refine jc_exit ?_; refine jc_seq ?_; refine jc_region ?_; refine jo_l (ly_mv rfl) (hd 150 rfl) ?_; refine jo_l (ly_mv rfl) (hd 151 rfl) ?_; refine jo_l (ly_mv rfl) (hd 152 rfl) ?_; refine jo_l (ly_mv rfl) (hd 153 rfl) ?_; refine jo_l (ly_ia (i := v.length) sl28 rfl rfl rfl (by first | rfl | omega) (by omega) rfl) (hd 154 rfl) ?_; refine jo_l (ly_is (ly_ldi one82 rfl rfl (by omega)) (show V.i .u64 _ = V.i .u64 (u.getD v.length 0) from congrArg (V.i .u64) ((rwJ_at (by omega) (by omega)).trans (hat2 (v.length) (by omega))))) (hd 155 rfl) ?_; refine jo_l (ly_mv rfl) (hd 156 rfl) ?_; refine jo_l (ly_mv rfl) (hd 157 rfl) ?_; refine jo_h (hy_ext3 (e := sub64Entry) Try.func128 rfl rfl (by kernel_rfl) (by kernel_rfl) rfl rfl rfl (fun w => run_sub64 _ _ _ hxi.1 hxi.2 hc.1 hc.2 hb.1 hb.2 w) rel_pair) (hd 158 rfl) ?_; refine jo_l (ly_mv rfl) (hd 149 rfl) ?_; refine jo_l (ly_is (ly_ext rfl rfl) (show V.i .u64 _ = V.i .u64 (sbD (u.getD v.length 0) (msN u v q v.length).2.1 (msN u v q v.length).2.2) from congrArg (V.i .u64) rfl)) (hd 159 rfl) ?_; refine jo_l (ly_is (ly_ext rfl rfl) (show V.i .u64 _ = V.i .u64 (msB u v q) from congrArg (V.i .u64) rfl)) (hd 160 rfl) ?_; refine jo_l (ly_ia (i := v.length) sl28 rfl rfl rfl (by first | rfl | omega) (by omega) rfl) (hd 161 rfl) ?_; refine jo_st (sy_storei rfl rfl rfl one82 (by omega)) ?_; refine jo_l (ly_as rfl) (hd 14 rfl) ?_; refine jo_nil ?_; refine jc_seq ?_; refine jc_seq ?_; refine jc_H (H' := [⟨90, 1, 0, true, ints .u64 (rwJ U j (msL u v q))⟩, ⟨90, 1, 0, true, ints .u64 Q⟩]) (by show [(⟨90, 1, 0, true, ints .u64 _⟩ : Ob), _] = [⟨90, 1, 0, true, ints .u64 _⟩, _]; rw [ml_row (by omega)]) ?_
          have hW : (rwJ U j (msL u v q)).length = U.length := rwJ_len (by omega)
          refine jc_region ?_; refine jo_l (ly_mv rfl) (hd 162 rfl) ?_; refine jo_l (ly_ne rfl rfl) (hd 163 rfl) ?_; refine jo_nil ?_
          refine jc_if rfl (fun h11 => ?_) (fun h11 => ?_)
          · have hb1 : msB u v q = 1 := by omega
            have hq9 : q - 1 = vl u / vl v := by omega
            have hgl2 : gsL u v q = bkL (msL u v q) v := if_neg (by omega)
            rw [hgl2] at hgl hgu hgv
            refine jc_seq ?_; refine jc_region ?_; refine jo_l (ly_mv rfl) (hd 164 rfl) ?_; refine jo_l (ly_sub rfl rfl (r := vl u / vl v) (by rw [hq9]; exact wrap_u64 (by omega) (by omega))) (hd 165 rfl) ?_; refine jo_l (ly_as rfl) (hd 6 rfl) ?_; refine jo_nil ?_; refine jc_seq ?_; refine jc_H (H' := [⟨90, 1, 0, true, ints .u64 (rwJ (rwJ U j (msL u v q)) j (adN (msL u v q) v 0).1)⟩, ⟨90, 1, 0, true, ints .u64 Q⟩]) (by show _ = [(⟨90, 1, 0, true, ints .u64 (rwJ (rwJ U j (msL u v q)) j [])⟩ : Ob), _]; rw [rwJ_0]) ?_; refine jc_region ?_; refine jo_l (ly_as rfl) (hd 21 rfl) ?_; refine jo_nil ?_; refine jc_seq ?_; refine jc_seq ?_; refine jc_region ?_; refine jo_l (ly_mv rfl) (hd 166 rfl) ?_; refine jo_l (ly_lenn sl28 rfl) (hd 167 rfl) ?_; refine jo_l (ly_mv rfl) (hd 168 rfl) ?_; refine jo_nil ?_; refine jc_block ?_
            refine jc_loopF (G := Nat) (fun i => i ≤ v.length) (fun i => [(21, .i .u64 (adN (msL u v q) v i).2), (168, .i .i64 (i : Int)), (22, .u), (23, .u), (169, .u), (170, .u), (171, .u), (172, .u), (173, .u), (174, .u), (175, .u), (176, .u), (177, .u), (178, .u), (179, .u), (180, .u), (181, .u), (182, .u), (183, .u), (184, .u), (185, .u), (186, .u)]) (fun i => [⟨90, 1, 0, true, ints .u64 (rwJ (rwJ U j (msL u v q)) j (adN (msL u v q) v i).1)⟩, ⟨90, 1, 0, true, ints .u64 Q⟩]) (fun i => v.length - i) 0 ?_ ?_ rfl ?_
            · exact Nat.zero_le _
            · exact (.cons rfl (.cons rfl (.u (.u (.u (.u (.u (.u (.u (.u (.u (.u (.u (.u (.u (.u (.u (.u (.u (.u (.u (.u .nil))))))))))))))))))))))
            · rintro i hi1
              have hal := adN_len (msL u v q) v i
              have hf2 : (rwJ (rwJ U j (msL u v q)) j (adN (msL u v q) v i).1).length = (rwJ U j (msL u v q)).length := rwJ_len (by omega)
              have hca := adN_c hum hP.uv i
              have hxa := u64s_getD hum i
              have hya := u64s_getD hP.uv i
              refine jc_seq ?_; refine jc_region ?_; refine jo_l (ly_lt rfl rfl) (hd 169 rfl) ?_; refine jo_nil ?_; refine jc_seq ?_
              refine jc_if rfl (fun h12 => ?_) (fun h12 => ?_)
              · refine jc_skip ?_; refine jc_seq ?_; refine jc_block ?_; refine jc_seq ?_; refine jc_region ?_; refine jo_l (ly_mv rfl) (hd 170 rfl) ?_; refine jo_l (ly_ian (i := i) sl28 rfl rfl (by first | rfl | omega) (by omega)) (hd 171 rfl) ?_; refine jo_l (ly_ldq one82 rfl rfl) (hd 172 rfl) ?_; refine jo_l (ly_as rfl) (hd 22 rfl) ?_; refine jo_l (ly_as rfl) (hd 23 rfl) ?_; refine jo_nil ?_; refine jc_region ?_; refine jo_l (ly_mv rfl) (hd 174 rfl) ?_; refine jo_l (ly_mv rfl) (hd 175 rfl) ?_; refine jo_l (ly_mv rfl) (hd 176 rfl) ?_; refine jo_l (ly_mv rfl) (hd 177 rfl) ?_; refine jo_l (ly_ia (i := i) sl28 rfl rfl rfl (by first | rfl | omega) (by omega) rfl) (hd 178 rfl) ?_; refine jo_l (ly_is (ly_ldi one82 rfl rfl (by omega)) (show V.i .u64 _ = V.i .u64 ((msL u v q).getD i 0) from congrArg (V.i .u64) ((rwJ_at (by omega) (by omega)).trans (rwJ_in' (by omega) (by omega))))) (hd 179 rfl) ?_; refine jo_l (ly_mv rfl) (hd 180 rfl) ?_; refine jo_l (ly_mv rfl) (hd 181 rfl) ?_; refine jo_h (hy_ext3 (e := add64Entry) Try.func126 rfl rfl (by kernel_rfl) (by kernel_rfl) rfl rfl rfl (fun w => run_add64 _ _ _ hxa.1 hya.1 hca.1 hca.2 w) rel_pair) (hd 182 rfl) ?_; refine jo_l (ly_mv rfl) (hd 173 rfl) ?_; refine jo_l (ly_ext rfl rfl) (hd 183 rfl) ?_; refine jo_l (ly_ext rfl rfl) (hd 184 rfl) ?_; refine jo_l (ly_ia (i := i) sl28 rfl rfl rfl (by first | rfl | omega) (by omega) rfl) (hd 185 rfl) ?_; refine jo_st (sy_storei rfl rfl rfl one82 (by omega)) ?_; refine jo_l (ly_as rfl) (hd 21 rfl) ?_; refine jo_nil ?_; refine jc_region ?_; refine jo_l (ly_add rfl rfl (wrap_i64 (by omega) (by omega))) (hd 186 rfl) ?_; refine jo_l (ly_mv rfl) (hd 168 rfl) ?_; refine jo_nil ?_
                refine ⟨i + 1, ?_, ?_, (by show [(⟨90, 1, 0, true, ints .u64 _⟩ : Ob), _] = [⟨90, 1, 0, true, ints .u64 _⟩, _]; rw [ad_set (by omega)]), cov_n 44 rfl rfl ?_⟩
                · omega
                · omega
                · exact (.cons rfl (.cons rfl (.u (.u (.u (.u (.u (.u (.u (.u (.u (.u (.u (.u (.u (.u (.u (.u (.u (.u (.u (.u .nil))))))))))))))))))))))
              · obtain rfl : i = v.length := by omega
                refine jc_exit ?_; refine jc_region ?_; refine jo_l (ly_mv rfl) (hd 187 rfl) ?_; refine jo_l (ly_mv rfl) (hd 188 rfl) ?_; refine jo_l (ly_ia (i := v.length) sl28 rfl rfl rfl (by first | rfl | omega) (by omega) rfl) (hd 189 rfl) ?_; refine jo_l (ly_is (ly_ldi one82 rfl rfl (by omega)) (show V.i .u64 _ = V.i .u64 ((msL u v q).getD v.length 0) from congrArg (V.i .u64) ((rwJ_at (by omega) (by omega)).trans (rwJ_in' (by omega) (by omega))))) (hd 190 rfl) ?_; refine jo_l (ly_mv rfl) (hd 191 rfl) ?_; refine jo_l (ly_is (ly_add rfl rfl rfl) (show V.i .u64 _ = V.i .u64 (((msL u v q).getD v.length 0 + (adN (msL u v q) v v.length).2) % 18446744073709551616) from congrArg (V.i .u64) u64_wrap_mod)) (hd 192 rfl) ?_; refine jo_l (ly_ia (i := v.length) sl28 rfl rfl rfl (by first | rfl | omega) (by omega) rfl) (hd 193 rfl) ?_; refine jo_st (sy_storei rfl rfl rfl one82 (by omega)) ?_; refine jo_nil ?_; refine jc_seq ?_; refine jc_region ?_; refine jo_l (ly_mv rfl) (hd 194 rfl) ?_; refine jo_l (ly_as rfl) (hd 4 rfl) ?_; refine jo_nil ?_; refine jc_ret ?_
                refine ⟨_, (.cons rfl .nil), rfl, (.cons ints_id (.cons ints_id .nil)), ?_⟩
                exact ⟨rfl, bkL (msL u v q) v, by show [(⟨90, 1, 0, true, ints .u64 _⟩ : Ob), _] = [⟨90, 1, 0, true, ints .u64 _⟩, _]; rw [bk_row (by omega) (by omega)], by omega, hgu, hgv⟩
          · have hb0 : msB u v q = 0 := by omega
            have hq9 : q = vl u / vl v := by omega
            have hgl2 : gsL u v q = msL u v q := if_pos hb0
            rw [hgl2] at hgl hgu hgv
            refine jc_skip ?_; refine jc_seq ?_; refine jc_region ?_; refine jo_l (ly_mv rfl) (hd 194 rfl) ?_; refine jo_l (ly_as rfl) (hd 4 rfl) ?_; refine jo_nil ?_; refine jc_ret ?_
            refine ⟨_, (.cons rfl .nil), rfl, (.cons ints_id (.cons ints_id .nil)), ?_⟩
            rw [← hq9]
            exact ⟨rfl, (msL u v q), rfl, by omega, hgu, hgv⟩
end Go.Proofs.Ytcfdclehmpfkcaa.Vc

/- Contract of div.divide. -/
namespace Go.Proofs.Ytcfdclehmpfkcaa.Vc
open Go Go.RowKit
set_option maxHeartbeats 4000000 in
set_option maxRecDepth 100000 in
theorem divide_s (a b : List Int) (la : a.length < 4294967296) (lb : b.length < 4294967296) (ua : u64s a) (ub : u64s b) (ta : tpd a) (tb : tpd b) (hb : b ≠ []) : Spec Try.prog 100 [.n false .u64 a, .n false .u64 b] (fun o => o = .ret (.t [.n false .u64 (lm (vl a / vl b)), .n false .u64 (lm (vl a % vl b))])) := by
  refine spec_of' [(0, .n false .u64 a), (1, .n false .u64 b)] rfl Try.func100 rfl (Nat.le_of_ble_eq_true rfl) fun Γ hN hds hL hR => ?_
  have hd : ∀ d, Nat.blt d 104 = true → d < Γ.N := fun d h => by rw [hN]; exact Nat.le_of_ble_eq_true h
  have hcv := cmpL_val ua ub
  have hb0 := vl_pos ub tb hb
  have hva := vl_nonneg ua
  refine jc_seq ?_; refine jc_region ?_; refine jo_l (ly_as rfl) (hd 4 rfl) ?_; refine jo_l (ly_as rfl) (hd 5 rfl) ?_; refine jo_nil ?_; refine jc_seq ?_; refine jc_seq ?_; refine jc_region ?_; refine jo_l (ly_mv rfl) (hd 15 rfl) ?_; refine jo_l (ly_mv rfl) (hd 16 rfl) ?_
  refine jo_call Try.f22 (Compare_s a b la lb) rfl Try.func22 rfl rfl (ovL_cons rfl (ovL_cons rfl ovL_nil)) (.cons .n (.cons .n .nil)) (hd 17 rfl) ?_ (fun ch hp => by simp at hp)
  rintro y hy; injection hy with hy; subst hy; refine jo_l (ly_lt rfl rfl) (hd 18 rfl) ?_; refine jo_nil ?_
  refine jc_if rfl (fun h1 => ?_) (fun h1 => ?_)
  · have hlt : vl a < vl b := by rcases hcv with ⟨c, v⟩ | ⟨c, v⟩ | ⟨c, v⟩ <;> omega
    refine jc_seq ?_; refine jc_region ?_; refine jo_l (ly_mv rfl) (hd 19 rfl) ?_; refine jo_l (ly_as rfl) (hd 4 rfl) ?_; refine jo_l (ly_as rfl) (hd 5 rfl) ?_; refine jo_nil ?_; refine jc_ret ?_
    refine ⟨_, _, (.cons rfl (.cons rfl .nil)), (.t1 (.nil (fr := false) (k := .u64)) (.t1 .nn .t0)), ?_⟩
    rw [Int.ediv_eq_zero_of_lt hva hlt, Int.emod_eq_of_lt hva hlt, lm_0, lm_id ua ta]
  · have hge : vl b ≤ vl a := by rcases hcv with ⟨c, v⟩ | ⟨c, v⟩ | ⟨c, v⟩ <;> omega
    have hlen := kn_len ua ub tb hb hge
    refine jc_skip ?_; refine jc_seq ?_; refine jc_seq ?_; refine jc_region ?_; refine jo_l (ly_mv rfl) (hd 20 rfl) ?_; refine jo_l (ly_lenn sl28 rfl) (hd 21 rfl) ?_; refine jo_l (ly_eq rfl rfl) (hd 22 rfl) ?_; refine jo_nil ?_
    refine jc_if rfl (fun h2 => ?_) (fun h2 => ?_)
    · obtain ⟨d, rfl⟩ : ∃ d, b = [d] := List.length_eq_one_iff.1 (by omega)
      have hdb := ub d (List.mem_singleton.2 rfl)
      have hd0 := tpd_one tb
      have hdp : 0 < d := by omega
      have hvd : vl [d] = d := by simp [vl]
      refine jc_seq ?_; refine jc_region ?_; refine jo_l (ly_mv rfl) (hd 23 rfl) ?_; refine jo_l (ly_lenn sl28 rfl) (hd 24 rfl) ?_; refine jo_h (hy_mk (m := a.length) el28 rfl rfl rfl (by show 8 * a.length ≤ _; omega) (by unfold maxLen; omega) rfl) (hd 25 rfl) ?_; refine jo_l (ly_as rfl) (hd 6 rfl) ?_; refine jo_l (ly_as rfl) (hd 7 rfl) ?_; refine jo_nil ?_; refine jc_seq ?_; refine jc_seq ?_; refine jc_region ?_; refine jo_l (ly_mv rfl) (hd 26 rfl) ?_; refine jo_l (ly_lenn sl28 rfl) (hd 27 rfl) ?_; refine jo_l (ly_sub rfl rfl (wrap_i64 (by omega) (by omega))) (hd 28 rfl) ?_; refine jo_l (ly_as rfl) (hd 8 rfl) ?_; refine jo_nil ?_; refine jc_block ?_; refine jc_H (H' := [⟨90, 1, 0, true, ints .u64 (List.replicate a.length 0 ++ (dvN a d (a.length - a.length)).1)⟩]) (by rw [Nat.sub_self]; show _ = [(⟨90, 1, 0, true, ints .u64 (List.replicate a.length 0 ++ [])⟩ : Ob)]; rw [List.append_nil]; rfl) ?_
      refine jc_loopF (G := Nat) (fun k => k ≤ a.length) (fun k => [(7, .i .u64 (dvN a d (a.length - k)).2), (8, .i .i64 ((k : Int) - 1)), (29, .u), (30, .u), (31, .u), (32, .u), (33, .u), (34, .u), (35, .u), (36, .u), (37, .u), (38, .u), (39, .u), (40, .u), (41, .u), (42, .u), (43, .u), (44, .u), (45, .u), (46, .u), (47, .u)]) (fun k => [⟨90, 1, 0, true, ints .u64 (List.replicate k 0 ++ (dvN a d (a.length - k)).1)⟩]) (fun k => k) a.length ?_ ?_ rfl ?_
      · exact Nat.le_refl _
      · exact (.cons (by show some (V.i .u64 0) = some (V.i .u64 (dvN a d (a.length - a.length)).2); rw [Nat.sub_self]; rfl) (.cons rfl (.u (.u (.u (.u (.u (.u (.u (.u (.u (.u (.u (.u (.u (.u (.u (.u (.u (.u (.u .nil)))))))))))))))))))))
      · rintro k hc1
        have hr := dvN_r (a := a) hdp (a.length - k)
        have hx := u64s_getD ua (k - 1)
        refine jc_seq ?_; refine jc_seq ?_; refine jc_region ?_; refine jo_l (ly_mv rfl) (hd 29 rfl) ?_; refine jo_l (ly_ge rfl rfl) (hd 30 rfl) ?_; refine jo_nil ?_
        refine jc_if rfl (fun h3 => ?_) (fun h3 => ?_)
        · refine jc_skip ?_; refine jc_seq ?_; refine jc_block ?_; refine jc_draw (n := 17) _ rfl mixed ?_; refine ja_l 0 (lo_l (ly_mv rfl) (hd 34 rfl)) rfl (by kernel_rfl) (by kernel_rfl) (by kernel_rfl) (fun _ _ _ _ h => h) ?_; refine ja_l 1 (lo_l (ly_mv rfl) (hd 35 rfl)) rfl (by kernel_rfl) (by kernel_rfl) (by kernel_rfl) (fun _ _ _ _ h => h) ?_; refine ja_l2 2 [10, 11, 12, 13, 14, 15, 16] (lo_l (ly_mv rfl) (hd 36 rfl)) rfl (by kernel_rfl) (by kernel_rfl) (by kernel_rfl) (by kernel_rfl) (fun _ _ _ _ h => h) ?_; refine ja_l2 3 [5, 6, 10, 11, 12, 13, 14, 15, 16] (lo_l (ly_mv rfl) (hd 37 rfl)) rfl (by kernel_rfl) (by kernel_rfl) (by kernel_rfl) (by kernel_rfl) (fun _ _ _ _ h => h) ?_; refine ja_l2 4 [5, 6, 10, 11, 12, 13, 14, 15, 16] (lo_l (ly_mv rfl) (hd 38 rfl)) rfl (by kernel_rfl) (by kernel_rfl) (by kernel_rfl) (by kernel_rfl) (fun _ _ _ _ h => h) ?_; refine ja_l2 5 [6, 10, 11, 12, 13, 14, 15, 16] (lo_l (ly_ian (i := k - 1) sl28 rfl rfl (by omega) (by omega)) (hd 39 rfl)) rfl (by kernel_rfl) (by kernel_rfl) (by kernel_rfl) (by kernel_rfl) (fun _ _ _ _ h => h) ?_; refine ja_l2 6 [10, 11, 12, 13, 14, 15, 16] (lo_l (ly_ldq one82 rfl rfl) (hd 40 rfl)) rfl (by kernel_rfl) (by kernel_rfl) (by kernel_rfl) (by kernel_rfl) (fun _ _ _ _ h => h) ?_; refine ja_l2 7 [8, 9, 10, 11, 12, 13, 14, 15, 16] (lo_l (ly_mv rfl) (hd 41 rfl)) rfl (by kernel_rfl) (by kernel_rfl) (by kernel_rfl) (by kernel_rfl) (fun _ _ _ _ h => h) ?_; refine ja_l2 8 [9, 10, 11, 12, 13, 14, 15, 16] (lo_l (ly_ian (i := 0) sl28 rfl rfl rfl (by simp)) (hd 42 rfl)) rfl (by kernel_rfl) (by kernel_rfl) (by kernel_rfl) (by kernel_rfl) (fun _ _ _ _ h => h) ?_; refine ja_l2 9 [10, 11, 12, 13, 14, 15, 16] (lo_l (ly_ldq one82 rfl rfl) (hd 43 rfl)) rfl (by kernel_rfl) (by kernel_rfl) (by kernel_rfl) (by kernel_rfl) (fun _ _ _ _ h => h) ?_
          refine ja_1 10 ?_ rfl (by kernel_rfl)
          refine js_call Try.f129 (Div64_s (dvN a d (a.length - k)).2 (a.getD (k - 1) 0) d hr.1 hr.2 hx.1 hx.2 hdb.2) rfl Try.func129 rfl rfl (ovL_cons rfl (ovL_cons rfl (ovL_cons rfl ovL_nil))) (.cons .i (.cons .i (.cons .i .nil))) (hd 44 rfl) ?_ (fun ch hp => by simp at hp)
          rintro y hy; injection hy with hy; subst hy; refine ja_l 11 (lo_l (ly_mv rfl) (hd 33 rfl)) rfl (by kernel_rfl) (by kernel_rfl) (by kernel_rfl) (fun _ _ _ _ h => h) ?_; refine ja_l 12 (lo_l (ly_ext rfl rfl) (hd 45 rfl)) rfl (by kernel_rfl) (by kernel_rfl) (by kernel_rfl) (fun _ _ _ _ h => h) ?_; refine ja_l 13 (lo_ext rfl rfl (hd 46 rfl)) rfl (by kernel_rfl) (by kernel_rfl) (by kernel_rfl) (fun _ _ _ _ h => h) ?_; refine ja_l 14 (lo_l (ly_ia (i := k - 1) sl28 rfl rfl rfl (by omega) (by omega) rfl) (hd 47 rfl)) rfl (by kernel_rfl) (by kernel_rfl) (by kernel_rfl) (fun _ _ _ _ h => h) ?_
          refine ja_1 15 ?_ rfl (by kernel_rfl)
          refine js_st (sy_storei rfl rfl rfl one82 (by simp only [List.length_append, List.length_replicate, dvN_len]; omega)) rfl ?_; refine ja_l 16 (lo_l (ly_as rfl) (hd 7 rfl)) rfl (by kernel_rfl) (by kernel_rfl) (by kernel_rfl) (fun _ _ _ _ h => h) ?_; refine ja_nil (by kernel_rfl) ?_; refine jc_region ?_; refine jo_l (ly_mv rfl) (hd 31 rfl) ?_; refine jo_l (ly_sub rfl rfl (wrap_i64 (by omega) (by omega))) (hd 32 rfl) ?_; refine jo_l (ly_as rfl) (hd 8 rfl) ?_; refine jo_nil ?_
          refine ⟨k - 1, ?_, ?_, (by show [(⟨90, 1, 0, true, ints .u64 _⟩ : Ob)] = [⟨90, 1, 0, true, ints .u64 _⟩]; rw [dv_row (by omega), dv_step (by omega) hc1]), cov_n 42 rfl rfl ?_⟩
          · omega
          · omega
          · exact (.cons (by show some (V.i .u64 _) = some (V.i .u64 _); rw [dv_step (by omega) hc1]) (.cons (by show some (V.i .i64 _) = some (V.i .i64 _); congr 2; omega) (.u (.u (.u (.u (.u (.u (.u (.u (.u (.u (.u (.u (.u (.u (.u (.u (.u (.u (.u .nil)))))))))))))))))))))
        · obtain rfl : k = 0 := by omega
          refine jc_exit ?_; refine jc_seq ?_; refine jc_region ?_; refine jo_frz (k := .u64) (l := List.replicate 0 0 ++ (dvN a d (a.length - 0)).1) (l' := (dvN a d a.length).1) 6 rfl rfl (by simp [dvN_len]) (by rw [Nat.sub_zero, List.drop_zero]; show List.take _ (dvN a d a.length).1 = _; rw [List.take_of_length_le (by rw [dvN_len]; exact Nat.le_refl _)]) hL ?_; refine jo_l (ly_mv rfl) (hd 48 rfl) ?_
          refine jo_call Try.f99 (Norm_s (dvN a d a.length).1 (by rw [dvN_len]; omega)) rfl Try.func99 rfl rfl (ovL_cons rfl ovL_nil) (.cons .n .nil) (hd 49 rfl) ?_ (fun ch hp => by simp at hp)
          rintro y hy; injection hy with hy; subst hy; refine jo_l (ly_mv rfl) (hd 50 rfl) ?_
          refine jo_call Try.f113 (From_s (dvN a d (a.length - 0)).2) rfl Try.func113 rfl rfl (ovL_cons rfl ovL_nil) (.cons .i .nil) (hd 51 rfl) ?_ (fun ch hp => by simp at hp)
          rintro y hy; injection hy with hy; subst hy; refine jo_l (ly_as rfl) (hd 4 rfl) ?_; refine jo_l (ly_as rfl) (hd 5 rfl) ?_; refine jo_nil ?_; refine jc_ret ?_
          refine ⟨_, _, (.cons rfl (.cons rfl .nil)), (.t1 .nn (.t1 .nn .t0)), ?_⟩
          have hde := dv_end ua hdp
          rw [Nat.sub_zero, hde.2, fl_lm (Int.emod_nonneg _ (by omega)) (by have := Int.emod_lt_of_pos (vl a) hdp; omega), hde.1, hvd]
    · have hbl : 0 < b.length := List.length_pos_iff.2 hb
      obtain ⟨n, hn⟩ : ∃ n, b.length = n + 2 := ⟨b.length - 2, by omega⟩
      have htb := tb hb
      rw [hn, show n + 2 - 1 = n + 1 by omega] at htb
      have hbt := u64s_getD ub (n + 1)
      obtain ⟨s, hs⟩ : ∃ s : Nat, 64 - bl 64 (b.getD (n + 1) 0).toNat = s := ⟨_, rfl⟩
      have hz := lz_int (show 0 < b.getD (n + 1) 0 by omega) hbt.2
      rw [hs] at hz
      obtain ⟨s64, y0, y1⟩ := hz
      obtain ⟨v, hv⟩ : ∃ v, (upL b s).take b.length = v := ⟨_, rfl⟩
      have hv2 := up_cut s64 ub (by rw [hn]; exact y1) hb
      have uv : u64s v := hv ▸ u64s_take (upL_u s64 ub) _
      have hlv : v.length = n + 2 := by rw [← hv, List.length_take, upL_len]; omega
      rw [hv] at hv2
      have htop := kn_top ub uv tb hn hlv hv2
      have hul := upL_len a s
      refine jc_skip ?_; refine jc_seq ?_; refine jc_region ?_; refine jo_l (ly_mv rfl) (hd 52 rfl) ?_; refine jo_l (ly_mv rfl) (hd 53 rfl) ?_; refine jo_l (ly_lenn sl28 rfl) (hd 54 rfl) ?_; refine jo_l (ly_sub rfl rfl (r := ((n + 1 : Nat) : Int)) (by rw [wrap_i64 (by omega) (by omega)]; omega)) (hd 55 rfl) ?_; refine jo_l (ly_ian (i := n + 1) sl28 rfl rfl (by first | rfl | omega) (by omega)) (hd 56 rfl) ?_; refine jo_l (ly_is (ly_ldq one82 rfl rfl) (show V.i .u64 _ = V.i .u64 (((b.getD (n + 1) 0).toNat : Int)) from congrArg (V.i .u64) (Int.toNat_of_nonneg hbt.1).symm)) (hd 57 rfl) ?_
      refine jo_call Try.f130 (Lz_s (b.getD (n + 1) 0).toNat (by omega)) rfl Try.func130 rfl rfl (ovL_cons rfl ovL_nil) (.cons .i .nil) (hd 58 rfl) ?_ (fun ch hp => by simp at hp)
      rintro y hy; injection hy with hy; subst hy; refine jo_l (ly_conv und3 und116 rfl (r := (s : Int)) (by rw [hs]; exact wrap_u64 (by omega) (by omega))) (hd 59 rfl) ?_; refine jo_l (ly_as rfl) (hd 9 rfl) ?_; refine jo_nil ?_; refine jc_seq ?_; refine jc_draw (n := 11) _ rfl mixed ?_; refine ja_l2 0 [2, 5, 8, 9, 10] (lo_l (ly_mv rfl) (hd 60 rfl)) rfl (by kernel_rfl) (by kernel_rfl) (by kernel_rfl) (by kernel_rfl) (fun _ _ _ _ h => h) ?_; refine ja_l2 1 [2, 5, 8, 9, 10] (lo_l (ly_mv rfl) (hd 61 rfl)) rfl (by kernel_rfl) (by kernel_rfl) (by kernel_rfl) (by kernel_rfl) (fun _ _ _ _ h => h) ?_; refine ja_l2 3 [5, 8, 9, 10] (lo_l (ly_mv rfl) (hd 63 rfl)) rfl (by kernel_rfl) (by kernel_rfl) (by kernel_rfl) (by kernel_rfl) (fun _ _ _ _ h => h) ?_; refine ja_l2 4 [5, 8, 9, 10] (lo_l (ly_mv rfl) (hd 64 rfl)) rfl (by kernel_rfl) (by kernel_rfl) (by kernel_rfl) (by kernel_rfl) (fun _ _ _ _ h => h) ?_; refine ja_l2 6 [7, 8, 10] (lo_l (ly_mv rfl) (hd 66 rfl)) rfl (by kernel_rfl) (by kernel_rfl) (by kernel_rfl) (by kernel_rfl) (fun _ _ _ _ h => h) ?_; refine ja_l 7 (lo_l (ly_lenn sl28 rfl) (hd 67 rfl)) rfl (by kernel_rfl) (by kernel_rfl) (by kernel_rfl) (fun _ _ _ _ h => h) ?_
      refine ja_1 2 ?_ rfl (by kernel_rfl)
      refine js_callN Try.f131 (up_n s a (by omega) s64 ua) (fun o G ⟨_, h⟩ => h ▸ idless_cons ints_id idless_nil) rfl Try.func131 rfl rfl (ovL_cons rfl (ovL_cons rfl ovL_nil)) (.cons .n (.cons .i .nil)) (hd 62 rfl) ?_ (fun ch G hp => by simp at hp)
      rintro y G ⟨hy, rfl⟩; injection hy with hy; subst hy
      show JA _ _ _ _ _ ((62, .o 0 0 0 (a.length + 1)) :: _) _ _
      refine ja_1 5 ?_ rfl (by kernel_rfl)
      refine js_call Try.f131 (up_s s b (by omega) s64 ub) rfl Try.func131 rfl rfl (ovL_cons rfl (ovL_cons rfl ovL_nil)) (.cons .n (.cons .i .nil)) (hd 65 rfl) ?_ (fun ch hp => by simp at hp)
      rintro y hy; injection hy with hy; subst hy; refine ja_l 8 (lo_l (ly_is (ly_sln sl28 rfl bnd_none (bnd_some' rfl rfl) (.inl rfl) (by omega) (by rw [upL_len]; omega)) (show V.n _ .u64 _ = V.n _ .u64 v by rw [List.drop_zero, hv])) (hd 68 rfl)) rfl (by kernel_rfl) (by kernel_rfl) (by kernel_rfl) (fun _ _ _ _ h => h) ?_; refine ja_l 9 (lo_l (ly_as rfl) (hd 10 rfl)) rfl (by kernel_rfl) (by kernel_rfl) (by kernel_rfl) (fun _ _ _ _ h => h) ?_; refine ja_l 10 (lo_l (ly_as rfl) (hd 11 rfl)) rfl (by kernel_rfl) (by kernel_rfl) (by kernel_rfl) (fun _ _ _ _ h => h) ?_; refine ja_nil (by kernel_rfl) ?_; refine jc_seq ?_; refine jc_region ?_; refine jo_l (ly_mv rfl) (hd 69 rfl) ?_; refine jo_l (ly_lenn sl28 rfl) (hd 70 rfl) ?_; refine jo_l (ly_as rfl) (hd 12 rfl) ?_; refine jo_nil ?_; refine jc_seq ?_; refine jc_region ?_; refine jo_l (ly_mv rfl) (hd 71 rfl) ?_; refine jo_l (ly_lenn sl28 rfl) (hd 72 rfl) ?_; refine jo_l (ly_mv rfl) (hd 73 rfl) ?_; refine jo_l (ly_sub rfl rfl (r := ((a.length - v.length : Nat) : Int)) (by rw [wrap_i64 (by omega) (by omega)]; omega)) (hd 74 rfl) ?_; refine jo_l (ly_add rfl rfl (r := ((a.length - v.length + 1 : Nat) : Int)) (by rw [wrap_i64 (by omega) (by omega)]; omega)) (hd 75 rfl) ?_; refine jo_h (hy_mk (m := a.length - v.length + 1) el28 rfl rfl rfl (by show 8 * (a.length - v.length + 1) ≤ _; omega) (by unfold maxLen; omega) rfl) (hd 76 rfl) ?_; refine jo_l (ly_as rfl) (hd 13 rfl) ?_; refine jo_nil ?_; refine jc_seq ?_; refine jc_seq ?_; refine jc_region ?_; refine jo_l (ly_mv rfl) (hd 77 rfl) ?_; refine jo_l (ly_lenn sl28 rfl) (hd 78 rfl) ?_; refine jo_l (ly_mv rfl) (hd 79 rfl) ?_; refine jo_l (ly_sub rfl rfl (r := ((a.length - v.length : Nat) : Int)) (by rw [wrap_i64 (by omega) (by omega)]; omega)) (hd 80 rfl) ?_; refine jo_l (ly_as rfl) (hd 14 rfl) ?_; refine jo_nil ?_; refine jc_block ?_; refine jc_H (H' := [⟨90, 1, 0, true, ints .u64 (upL a s)⟩, ⟨90, 1, 0, true, ints .u64 (List.replicate (a.length - b.length + 1) 0 ++ [])⟩]) (by rw [List.append_nil, hn, ← hlv]; rfl) ?_
      refine jc_loopF (G := Nat × List Int × List Int) (fun g => g.1 ≤ a.length - b.length + 1 ∧ Kn (vl a * 2 ^ s) v (a.length + 1) g.1 g.2.1 g.2.2 ∧ g.2.2.length = a.length - b.length + 1 - g.1) (fun g => [(14, .i .i64 ((g.1 : Int) - 1)), (81, .u), (82, .u), (83, .u), (84, .u), (85, .u), (86, .u), (87, .u), (88, .u), (89, .u), (90, .u), (91, .u), (92, .u), (93, .u), (94, .u), (95, .u), (96, .u)]) (fun g => [⟨90, 1, 0, true, ints .u64 g.2.1⟩, ⟨90, 1, 0, true, ints .u64 (List.replicate g.1 0 ++ g.2.2)⟩]) (fun g => g.1) (a.length - b.length + 1, upL a s, []) ?_ ?_ rfl ?_
      · exact ⟨Nat.le_refl _, kn_start s64 ua ub tb hb hv2 hlen, by show 0 = _; omega⟩
      · exact (.cons (by show some (V.i .i64 _) = some (V.i .i64 _); congr 2; omega) (.u (.u (.u (.u (.u (.u (.u (.u (.u (.u (.u (.u (.u (.u (.u (.u .nil)))))))))))))))))
      · rintro ⟨k, U, Qs⟩ ⟨hk, hK, hQl⟩
        dsimp only at hk hK hQl
        refine jc_seq ?_; refine jc_seq ?_; refine jc_region ?_; refine jo_l (ly_mv rfl) (hd 81 rfl) ?_; refine jo_l (ly_ge rfl rfl) (hd 82 rfl) ?_; refine jo_nil ?_
        refine jc_if rfl (fun h4 => ?_) (fun h4 => ?_)
        · obtain ⟨k, rfl⟩ : ∃ m, k = m + 1 := ⟨k - 1, by omega⟩
          have hG := hK.gup uv hlv htop (by omega)
          have hKl := hK.lu
          refine jc_skip ?_; refine jc_seq ?_; refine jc_block ?_; refine jc_region ?_; refine jo_l (ly_mv rfl) (hd 85 rfl) ?_; refine jo_l (ly_mv rfl) (hd 86 rfl) ?_; refine jo_l (ly_mv rfl) (hd 87 rfl) ?_; refine jo_l (ly_mv rfl) (hd 88 rfl) ?_; refine jo_l (ly_mv rfl) (hd 89 rfl) ?_; refine jo_l (ly_mv rfl) (hd 90 rfl) ?_; refine jo_l (ly_add rfl rfl (r := ((k + v.length : Nat) : Int)) (by rw [wrap_i64 (by omega) (by omega)]; omega)) (hd 91 rfl) ?_; refine jo_l (ly_add rfl rfl (r := ((k + v.length + 1 : Nat) : Int)) (by rw [wrap_i64 (by omega) (by omega)]; omega)) (hd 92 rfl) ?_; refine jo_l (ly_slo (l := k) (h := k + (n + 3)) (r := k) (n := n + 3) sl28 rfl rfl (bnd_some' rfl (by omega)) (bnd_some' rfl (by omega)) (by omega) (by omega) (by omega) (by omega)) (hd 93 rfl) ?_; refine jo_l (ly_mv rfl) (hd 94 rfl) ?_
          refine jo_callM Try.f132 (guess_s U (slJ U k (n + 3)) v (List.replicate (k + 1) 0 ++ Qs) k n (by omega) (by omega) hK.uu rfl hG) rfl Try.func132 rfl rfl (ovL_cons rfl (ovL_cons rfl ovL_nil)) (.cons (.same rfl) (.cons .n .nil)) (freshless_cons ints_noFr (freshless_cons ints_noFr freshless_nil)) (hd 95 rfl) ?_ (fun ch H2 hp => by simp at hp)
          rintro y H2 ⟨hy, r, rfl, hrl, hru, hrv⟩; injection hy with hy; subst hy; refine jo_l (ly_ia (i := k) sl28 rfl rfl rfl (by omega) (by omega) rfl) (hd 96 rfl) ?_; refine jo_st (sy_storei rfl rfl rfl one82 (by simp only [List.length_append, List.length_replicate]; omega)) ?_; refine jo_nil ?_; refine jc_region ?_; refine jo_l (ly_mv rfl) (hd 83 rfl) ?_; refine jo_l (ly_sub rfl rfl (wrap_i64 (by omega) (by omega))) (hd 84 rfl) ?_; refine jo_l (ly_as rfl) (hd 14 rfl) ?_; refine jo_nil ?_
          refine ⟨(k, rwJ U k r, vl (slJ U k (n + 3)) / vl v :: Qs), ?_, ?_, (by show [_, (⟨90, 1, 0, true, ints .u64 _⟩ : Ob)] = [_, ⟨90, 1, 0, true, ints .u64 _⟩]; rw [dv_row']), cov_n 34 rfl rfl ?_⟩
          · exact ⟨by show k ≤ _; omega, hK.next hG (by omega) hrl hru hrv, by show (_ :: Qs).length = _; rw [List.length_cons]; omega⟩
          · show k < k + 1
            omega
          · exact (.cons (by show some (V.i .i64 _) = some (V.i .i64 _); congr 2; omega) (.u (.u (.u (.u (.u (.u (.u (.u (.u (.u (.u (.u (.u (.u (.u (.u .nil)))))))))))))))))
        · obtain rfl : k = 0 := by omega
          have hKl := hK.lu
          obtain ⟨hf1, hf2, hf3⟩ := hK.fin s64 hv2 hb0 ua uv (by omega)
          refine jc_exit ?_; refine jc_seq ?_; refine jc_frz (k := .u64) (l := List.replicate 0 0 ++ Qs) (l' := Qs) 13 rfl rfl (by simp only [List.length_append, List.length_replicate]; omega) (by rw [List.drop_zero]; show List.take _ Qs = _; rw [List.take_of_length_le (by omega)]) hL ?_; refine jc_frz (k := .u64) (l := U) (l' := U) 10 rfl rfl (by omega) (by rw [List.drop_zero, List.take_of_length_le (by omega)]) hL ?_; refine jc_draw (n := 9) _ rfl mixed ?_; refine ja_l2 0 [1, 6, 7, 8] (lo_l (ly_mv rfl) (hd 97 rfl)) rfl (by kernel_rfl) (by kernel_rfl) (by kernel_rfl) (by kernel_rfl) (fun _ _ _ _ h => h) ?_; refine ja_l2 2 [4, 6, 7, 8] (lo_l (ly_mv rfl) (hd 99 rfl)) rfl (by kernel_rfl) (by kernel_rfl) (by kernel_rfl) (by kernel_rfl) (fun _ _ _ _ h => h) ?_; refine ja_l2 3 [4, 6, 7, 8] (lo_l (ly_mv rfl) (hd 100 rfl)) rfl (by kernel_rfl) (by kernel_rfl) (by kernel_rfl) (by kernel_rfl) (fun _ _ _ _ h => h) ?_; refine ja_l2 4 [6, 7, 8] (lo_l (ly_is (ly_sln sl28 rfl bnd_none (bnd_some' rfl rfl) (.inl rfl) (by omega) (by omega)) (show V.n _ .u64 _ = V.n _ .u64 (U.take v.length) by rw [List.drop_zero])) (hd 101 rfl)) rfl (by kernel_rfl) (by kernel_rfl) (by kernel_rfl) (by kernel_rfl) (fun _ _ _ _ h => h) ?_; refine ja_l2 5 [6, 7, 8] (lo_l (ly_mv rfl) (hd 102 rfl)) rfl (by kernel_rfl) (by kernel_rfl) (by kernel_rfl) (by kernel_rfl) (fun _ _ _ _ h => h) ?_
          refine ja_1 1 ?_ rfl (by kernel_rfl)
          refine js_call Try.f99 (Norm_s Qs (by omega)) rfl Try.func99 rfl rfl (ovL_cons rfl ovL_nil) (.cons .n .nil) (hd 98 rfl) ?_ (fun ch hp => by simp at hp)
          rintro y hy; injection hy with hy; subst hy
          refine ja_1 6 ?_ rfl (by kernel_rfl)
          refine js_call Try.f133 (div_down_s s (U.take v.length) (by rw [List.length_take]; omega) s64 (u64s_take hK.uu _)) rfl Try.func133 rfl rfl (ovL_cons rfl (ovL_cons rfl ovL_nil)) (.cons .n (.cons .i .nil)) (hd 103 rfl) ?_ (fun ch hp => by simp at hp)
          rintro y hy; injection hy with hy; subst hy; refine ja_l 7 (lo_l (ly_as rfl) (hd 4 rfl)) rfl (by kernel_rfl) (by kernel_rfl) (by kernel_rfl) (fun _ _ _ _ h => h) ?_; refine ja_l 8 (lo_l (ly_as rfl) (hd 5 rfl)) rfl (by kernel_rfl) (by kernel_rfl) (by kernel_rfl) (fun _ _ _ _ h => h) ?_; refine ja_nil (by kernel_rfl) ?_; refine jc_ret ?_
          refine ⟨_, _, (.cons rfl (.cons rfl .nil)), (.t1 .nn (.t1 .nn .t0)), ?_⟩
          rw [hf1, hf3]
end Go.Proofs.Ytcfdclehmpfkcaa.Vc

/- Contracts by values: nat.Norm, Length, Compare, Add of 1, Sub, Bit of 0, div.Both; the ways of whole.divide. -/
namespace Go.Proofs.Ytcfdclehmpfkcaa.Vc
open Go Go.RowKit
theorem Norm_v (v : Int) (hl : (lm v).length < 1099511627776) : Spec Try.prog 99 [.n false .u64 (lm v)] (fun o => o = .ret (.n true .u64 (lm v))) := by
  have h := Norm_s (lm v) hl
  rwa [trm_id (lm_t v)] at h
theorem Length_v (v : Int) (hl : (lm v).length < 1099511627776) : Spec Try.prog 33 [.n false .u64 (lm v)] (fun o => o = .ret (.i .i64 (lenV v : Int))) := by
  have h := Length_s (lm v) hl (lm_u v)
  rwa [lenN_lm] at h
theorem divide_v (v w : Int) (hv : (lm v).length < 4294967296) (hw : (lm w).length < 4294967296) (h0 : w ≠ 0) : Spec Try.prog 100 [.n false .u64 (lm v), .n false .u64 (lm w)] (fun o => o = .ret (.t [.n false .u64 (lm (qn v w)), .n false .u64 (lm (rn v w))])) := by
  have h := divide_s (lm v) (lm w) hv hw (lm_u v) (lm_u w) (lm_t v) (lm_t w) (lm_ne h0)
  rwa [lm_v, lm_v] at h
end Go.Proofs.Ytcfdclehmpfkcaa.Vc

/- Contracts of nat.From of 1, whole.result, by values. -/
namespace Go.Proofs.Ytcfdclehmpfkcaa.Vc
open Go Go.RowKit
theorem result_nv (s : Bool) (l : List Int) (v : Int) (hl : l.length < 1099511627776) (hu : u64s l) (hv : sv s l = v) (h : lenV v ≤ 67108864) : SpecM Try.prog 82 [.b s, .n false .u64 l, .i .i64 0] [] (fun o G => o = .ret (.t [.a [.b (decide (v < 0)), .o 0 0 0 (lm v).length], .i .i64 0]) ∧ G = [⟨90, 1, 0, true, ints .u64 (lm v)⟩]) :=
  (result_n s l 0 v (.inl ⟨rfl, hu, hl, hv⟩)).mono fun o G ⟨s2, r, e, ho, hG, hR⟩ => by
    rcases hR with ⟨_, h1, h2, h3⟩ | ⟨hb, _⟩
    · subst h1; subst h2; subst h3; exact ⟨ho, hG⟩
    · omega
end Go.Proofs.Ytcfdclehmpfkcaa.Vc

/- Contracts of whole.divide, Quo, Floor, Ceil, Near, Euclid. -/
namespace Go.Proofs.Ytcfdclehmpfkcaa.Vc
open Go Go.RowKit
end Go.Proofs.Ytcfdclehmpfkcaa.Vc

/- Contracts of surdref01.Shl, Div. -/
namespace Go.Proofs.Ytcfdclehmpfkcaa.Vc
open Go Go.RowKit
set_option maxHeartbeats 4000000 in
theorem Shl_s (x n : Nat) (hx : (digs B32 x).length < 549755813888) (hn : n < 4294967296) : Spec Try.prog 120 [.n false .u64 (digs B32 x), .i .i64 (n : Int)] (fun o => o = .ret (.n false .u64 (digs B32 (x * 2 ^ n)))) := by
  refine spec_of' [(0, .n false .u64 (digs B32 x)), (1, .i .i64 (n : Int))] rfl Try.func120 rfl (Nat.le_of_ble_eq_true rfl) fun Γ hN hds hL hR => ?_
  have hd : ∀ d, Nat.blt d 55 = true → d < Γ.N := fun d h => by rw [hN]; exact Nat.le_of_ble_eq_true h
  have hr := rng_digs (b := B32) (by decide) x
  have hs : n % 32 < 32 := by omega
  refine jc_seq ?_; refine jc_region ?_; refine jo_l (ly_as rfl) (hd 4 rfl) ?_; refine jo_nil ?_; refine jc_seq ?_; refine jc_seq ?_; refine jc_region ?_; refine jo_l (ly_mv rfl) (hd 9 rfl) ?_; refine jo_l (ly_lenn sl33 rfl) (hd 10 rfl) ?_; refine jo_l (ly_eq rfl rfl) (hd 11 rfl) ?_; refine jo_nil ?_
  refine jc_if rfl (fun h1 => ?_) (fun h1 => ?_)
  · refine jc_seq ?_; refine jc_region ?_; refine jo_l (ly_as rfl) (hd 4 rfl) ?_; refine jo_nil ?_; refine jc_ret ?_
    refine ⟨_, _, (.cons rfl .nil), (.nil (fr := false) (k := .u64)), ?_⟩
    have hz : (digs B32 x) = [] := List.eq_nil_of_length_eq_zero (by omega)
    rw [digs_nil.1 hz, Nat.zero_mul, digs_0]
  · refine jc_skip ?_; refine jc_seq ?_; refine jc_region ?_; refine jo_l (ly_mv rfl) (hd 12 rfl) ?_; refine jo_l (ly_lenn sl33 rfl) (hd 13 rfl) ?_; refine jo_l (ly_mv rfl) (hd 14 rfl) ?_; refine jo_l (ly_quo rfl rfl (by omega) (r := ((n / 32 : Nat) : Int)) (quo32 (by omega))) (hd 15 rfl) ?_; refine jo_l (ly_add rfl rfl (r := (((digs B32 x).length + n / 32 : Nat) : Int)) (by rw [wrap_i64 (by omega) (by omega)]; omega)) (hd 16 rfl) ?_; refine jo_l (ly_add rfl rfl (r := (((digs B32 x).length + n / 32 + 1 : Nat) : Int)) (by rw [wrap_i64 (by omega) (by omega)]; omega)) (hd 17 rfl) ?_; refine jo_h (hy_mk (m := (digs B32 x).length + n / 32 + 1) el33 rfl rfl rfl (by show 8 * ((digs B32 x).length + n / 32 + 1) ≤ _; omega) (by unfold maxLen; omega) rfl) (hd 18 rfl) ?_; refine jo_l (ly_as rfl) (hd 5 rfl) ?_; refine jo_nil ?_; refine jc_seq ?_; refine jc_region ?_; refine jo_l (ly_mv rfl) (hd 19 rfl) ?_; refine jo_l (ly_is (ly_rem rfl rfl (by omega) rfl) (show V.i .i64 _ = V.i .i64 (((n % 32 : Nat) : Int)) from congrArg (V.i .i64) rem32)) (hd 20 rfl) ?_; refine jo_l (ly_as rfl) (hd 6 rfl) ?_; refine jo_nil ?_; refine jc_seq ?_; refine jc_seq ?_; refine jc_region ?_; refine jo_l (ly_mv rfl) (hd 21 rfl) ?_; refine jo_l (ly_lenn sl33 rfl) (hd 22 rfl) ?_; refine jo_l (ly_mv rfl) (hd 23 rfl) ?_; refine jo_nil ?_; refine jc_block ?_; refine jc_H (H' := [⟨90, 1, 0, true, ints .u64 (shR (digs B32 x) (n % 32) (n / 32) 0)⟩]) (by rw [← shR_0]; rfl) ?_
    refine jc_loopF (G := Nat) (fun i => i ≤ (digs B32 x).length) (fun i => [(23, .i .i64 (i : Int)), (7, .u), (8, .u), (24, .u), (25, .u), (26, .u), (27, .u), (28, .u), (29, .u), (30, .u), (31, .u), (32, .u), (33, .u), (34, .u), (35, .u), (36, .u), (37, .u), (38, .u), (39, .u), (40, .u), (41, .u), (42, .u), (43, .u), (44, .u), (45, .u), (46, .u), (47, .u), (48, .u), (49, .u), (50, .u), (51, .u), (52, .u)]) (fun i => [⟨90, 1, 0, true, ints .u64 (shR (digs B32 x) (n % 32) (n / 32) i)⟩]) (fun i => (digs B32 x).length - i) 0 ?_ ?_ rfl ?_
    · exact Nat.zero_le _
    · exact (.cons rfl (.u (.u (.u (.u (.u (.u (.u (.u (.u (.u (.u (.u (.u (.u (.u (.u (.u (.u (.u (.u (.u (.u (.u (.u (.u (.u (.u (.u (.u (.u (.u .nil))))))))))))))))))))))))))))))))
    · rintro i hc1
      have hf := shR_len (s := (n % 32)) (w := (n / 32)) hc1
      have hc := sh32_c hs hr i
      have hx := rng_getD (by decide) hr i
      have hp := sh_prod hs hr i
      have hel := sh_el (x := (digs B32 x).getD i 0) hs hc.1 hc.2
      refine jc_seq ?_; refine jc_region ?_; refine jo_l (ly_lt rfl rfl) (hd 24 rfl) ?_; refine jo_nil ?_; refine jc_seq ?_
      refine jc_if rfl (fun h2 => ?_) (fun h2 => ?_)
      · refine jc_skip ?_; refine jc_seq ?_; refine jc_block ?_; refine jc_seq ?_; refine jc_region ?_; refine jo_l (ly_mv rfl) (hd 25 rfl) ?_; refine jo_l (ly_ian (i := i) sl33 rfl rfl (by first | rfl | omega) (by omega)) (hd 26 rfl) ?_; refine jo_l (ly_ldq one82 rfl rfl) (hd 27 rfl) ?_; refine jo_l (ly_as rfl) (hd 7 rfl) ?_; refine jo_l (ly_as rfl) (hd 8 rfl) ?_; refine jo_nil ?_; refine jc_seq ?_; refine jc_draw (n := 14) _ rfl mixed ?_; refine ja_l2 0 [5, 6, 11, 12, 13] (lo_l (ly_mv rfl) (hd 28 rfl)) rfl (by kernel_rfl) (by kernel_rfl) (by kernel_rfl) (by kernel_rfl) (fun _ _ _ _ h => h) ?_; refine ja_l2 1 [4, 5, 6, 11, 12, 13] (lo_l (ly_mv rfl) (hd 29 rfl)) rfl (by kernel_rfl) (by kernel_rfl) (by kernel_rfl) (by kernel_rfl) (fun _ _ _ _ h => h) ?_; refine ja_l2 2 [3, 4, 5, 6, 11, 12, 13] (lo_l (ly_mv rfl) (hd 30 rfl)) rfl (by kernel_rfl) (by kernel_rfl) (by kernel_rfl) (by kernel_rfl) (fun _ _ _ _ h => h) ?_; refine ja_l2 3 [4, 5, 6, 11, 12, 13] (lo_l (ly_quo rfl rfl (by omega) (r := ((n / 32 : Nat) : Int)) (quo32 (by omega))) (hd 31 rfl)) rfl (by kernel_rfl) (by kernel_rfl) (by kernel_rfl) (by kernel_rfl) (fun _ _ _ _ h => h) ?_; refine ja_l2 4 [5, 6, 11, 12, 13] (lo_l (ly_add rfl rfl (r := ((i + n / 32 : Nat) : Int)) (by rw [wrap_i64 (by omega) (by omega)]; omega)) (hd 32 rfl)) rfl (by kernel_rfl) (by kernel_rfl) (by kernel_rfl) (by kernel_rfl) (fun _ _ _ _ h => h) ?_; refine ja_l2 5 [6, 11, 12, 13] (lo_l (ly_ia (i := i + n / 32) sl33 rfl rfl rfl (by first | rfl | omega) (by omega) rfl) (hd 33 rfl)) rfl (by kernel_rfl) (by kernel_rfl) (by kernel_rfl) (by kernel_rfl) (fun _ _ _ _ h => h) ?_; refine ja_l 6 (lo_l (ly_is (ly_ldi one82 rfl rfl (by omega)) (show V.i .u64 _ = V.i .u64 ((sh32 (digs B32 x) (n % 32) i).2) from congrArg (V.i .u64) shR_get)) (hd 34 rfl)) rfl (by kernel_rfl) (by kernel_rfl) (by kernel_rfl) (fun _ _ _ _ h => h) ?_; refine ja_l2 7 [9, 10, 11, 12, 13] (lo_l (ly_mv rfl) (hd 35 rfl)) rfl (by kernel_rfl) (by kernel_rfl) (by kernel_rfl) (by kernel_rfl) (fun _ _ _ _ h => h) ?_; refine ja_l2 8 [9, 10, 11, 12, 13] (lo_l (ly_mv rfl) (hd 36 rfl)) rfl (by kernel_rfl) (by kernel_rfl) (by kernel_rfl) (by kernel_rfl) (fun _ _ _ _ h => h) ?_; refine ja_l2 9 [10, 11, 12, 13] (lo_l (ly_is (ly_shl rfl rfl (by omega) rfl) (show V.i .u64 _ = V.i .u64 (((digs B32 x).getD i 0 * 2 ^ (n % 32))) from congrArg (V.i .u64) (shl_u64 hs hx.1 hx.2))) (hd 37 rfl)) rfl (by kernel_rfl) (by kernel_rfl) (by kernel_rfl) (by kernel_rfl) (fun _ _ _ _ h => h) ?_; refine ja_l 10 (lo_l (ly_is (ly_rem rfl rfl (by decide) rfl) (show V.i .u64 _ = V.i .u64 (((digs B32 x).getD i 0 * 2 ^ (n % 32)) % 4294967296) from congrArg (V.i .u64) (Int.tmod_eq_emod_of_nonneg hp.1))) (hd 38 rfl)) rfl (by kernel_rfl) (by kernel_rfl) (by kernel_rfl) (fun _ _ _ _ h => h) ?_; refine ja_l 11 (lo_l (ly_add rfl rfl (wrap_u64 hel.1 (Int.lt_trans hel.2 (by decide)))) (hd 39 rfl)) rfl (by kernel_rfl) (by kernel_rfl) (by kernel_rfl) (fun _ _ _ _ h => h) ?_; refine ja_l 12 (lo_l (ly_ia (i := i + n / 32) sl33 rfl rfl rfl (by first | rfl | omega) (by omega) rfl) (hd 40 rfl)) rfl (by kernel_rfl) (by kernel_rfl) (by kernel_rfl) (fun _ _ _ _ h => h) ?_
        refine ja_1 13 ?_ rfl (by kernel_rfl)
        refine js_st (sy_storei rfl rfl rfl one82 (by omega)) rfl ?_; refine ja_nil (by kernel_rfl) ?_; refine jc_region ?_; refine jo_l (ly_mv rfl) (hd 41 rfl) ?_; refine jo_l (ly_mv rfl) (hd 42 rfl) ?_; refine jo_l (ly_mv rfl) (hd 43 rfl) ?_; refine jo_l (ly_quo rfl rfl (by omega) (r := ((n / 32 : Nat) : Int)) (quo32 (by omega))) (hd 44 rfl) ?_; refine jo_l (ly_add rfl rfl (r := ((i + n / 32 : Nat) : Int)) (by rw [wrap_i64 (by omega) (by omega)]; omega)) (hd 45 rfl) ?_; refine jo_l (ly_add rfl rfl (r := ((i + n / 32 + 1 : Nat) : Int)) (by rw [wrap_i64 (by omega) (by omega)]; omega)) (hd 46 rfl) ?_; refine jo_l (ly_mv rfl) (hd 47 rfl) ?_; refine jo_l (ly_mv rfl) (hd 48 rfl) ?_; refine jo_l (ly_is (ly_shl rfl rfl (by omega) rfl) (show V.i .u64 _ = V.i .u64 (((digs B32 x).getD i 0 * 2 ^ (n % 32))) from congrArg (V.i .u64) (shl_u64 hs hx.1 hx.2))) (hd 49 rfl) ?_; refine jo_l (ly_quo rfl rfl (by decide) (r := ((digs B32 x).getD i 0 * 2 ^ (n % 32)) / 4294967296) (quo_u64 hp.1 (by omega) (by decide))) (hd 50 rfl) ?_; refine jo_l (ly_ia (i := i + n / 32 + 1) sl33 rfl rfl rfl (by first | rfl | omega) (by omega) rfl) (hd 51 rfl) ?_; refine jo_st (sy_storei rfl rfl rfl one82 (by simp only [List.length_set]; omega)) ?_; refine jo_nil ?_; refine jc_region ?_; refine jo_l (ly_add rfl rfl (wrap_i64 (by omega) (by omega))) (hd 52 rfl) ?_; refine jo_l (ly_mv rfl) (hd 23 rfl) ?_; refine jo_nil ?_
        refine ⟨i + 1, ?_, ?_, (by show [(⟨90, 1, 0, true, ints .u64 _⟩ : Ob)] = [⟨90, 1, 0, true, ints .u64 _⟩]; rw [shR_set (by omega)]), cov_n 64 rfl rfl ?_⟩
        · omega
        · omega
        · exact (.cons rfl (.u (.u (.u (.u (.u (.u (.u (.u (.u (.u (.u (.u (.u (.u (.u (.u (.u (.u (.u (.u (.u (.u (.u (.u (.u (.u (.u (.u (.u (.u (.u .nil))))))))))))))))))))))))))))))))
      · obtain rfl : i = (digs B32 x).length := by omega
        refine jc_exit ?_; refine jc_seq ?_; refine jc_region ?_; refine jo_frz (k := .u64) (l := shR (digs B32 x) (n % 32) (n / 32) (digs B32 x).length) (l' := shR (digs B32 x) (n % 32) (n / 32) (digs B32 x).length) 5 rfl rfl (by omega) (by rw [List.drop_zero, List.take_of_length_le (by omega)]) hL ?_; refine jo_l (ly_mv rfl) (hd 53 rfl) ?_
        refine jo_call Try.f75 (rnorm_s (shR (digs B32 x) (n % 32) (n / 32) (digs B32 x).length) (by omega)) rfl Try.func75 rfl rfl (ovL_cons rfl ovL_nil) (.cons .n .nil) (hd 54 rfl) ?_ (fun ch hp => by simp at hp)
        rintro y hy; injection hy with hy; subst hy; refine jo_l (ly_as rfl) (hd 4 rfl) ?_; refine jo_nil ?_; refine jc_ret ?_
        refine ⟨_, _, (.cons rfl .nil), .n, ?_⟩
        rw [shR_end]

set_option maxHeartbeats 4000000 in
theorem rDiv_s (x y : Nat) (hx : (digs B32 x).length < 4294967296) (hy : (digs B32 y).length < 4294967296) (h0 : 0 < y) : Spec Try.prog 77 [.n false .u64 (digs B32 x), .n false .u64 (digs B32 y)] (fun o => o = .ret (.t [.n false .u64 (digs B32 (x / y)), .n false .u64 (digs B32 (x % y))])) := by
  refine spec_of' [(0, .n false .u64 (digs B32 x)), (1, .n false .u64 (digs B32 y))] rfl Try.func77 rfl (Nat.le_of_ble_eq_true rfl) fun Γ hN hds hL hR => ?_
  have hd : ∀ d, Nat.blt d 60 = true → d < Γ.N := fun d h => by rw [hN]; exact Nat.le_of_ble_eq_true h
  refine jc_seq ?_; refine jc_region ?_; refine jo_l (ly_as rfl) (hd 4 rfl) ?_; refine jo_l (ly_as rfl) (hd 5 rfl) ?_; refine jo_nil ?_; refine jc_seq ?_; refine jc_region ?_; refine jo_l (ly_as rfl) (hd 6 rfl) ?_; refine jo_nil ?_; refine jc_seq ?_; refine jc_region ?_; refine jo_l (ly_mv rfl) (hd 12 rfl) ?_; refine jo_l (ly_lenn sl33 rfl) (hd 13 rfl) ?_; refine jo_h (hy_mk (m := (digs B32 x).length) el33 rfl rfl rfl (by show 8 * (digs B32 x).length ≤ _; omega) (by unfold maxLen; omega) rfl) (hd 14 rfl) ?_; refine jo_l (ly_as rfl) (hd 7 rfl) ?_; refine jo_nil ?_; refine jc_seq ?_; refine jc_seq ?_; refine jc_nilN (k := .u64) 6 rfl ?_; refine jc_region ?_; refine jo_l (ly_mv rfl) (hd 15 rfl) ?_; refine jo_l (ly_lenn sl33 rfl) (hd 16 rfl) ?_; refine jo_l (ly_sub rfl rfl (wrap_i64 (by omega) (by omega))) (hd 17 rfl) ?_; refine jo_l (ly_as rfl) (hd 8 rfl) ?_; refine jo_nil ?_; refine jc_block ?_; refine jc_H (H' := [⟨90, 1, 0, true, ints .u64 (List.replicate (digs B32 x).length 0 ++ [])⟩]) (by rw [List.append_nil]; rfl) ?_
  refine jc_loopD (G := Nat × List Int) 1 (fun g => g.1 ≤ (digs B32 x).length ∧ Qd x y g.1 g.2) (fun g => [(6, .n false .u64 (digs B32 (x / B32 ^ g.1 % y))), (8, .i .i64 ((g.1 : Int) - 1)), (9, .u), (10, .u), (11, .u), (18, .u), (19, .u), (20, .u), (21, .u), (22, .u), (23, .u), (24, .u), (25, .u), (26, .u), (27, .u), (28, .u), (29, .u), (30, .u), (31, .u), (32, .u), (33, .u), (34, .u), (35, .u), (36, .u), (37, .u), (38, .u), (39, .u), (40, .u), (41, .u), (42, .u), (43, .u), (44, .u), (45, .u), (46, .u), (47, .u), (48, .u), (49, .u), (50, .u), (51, .u), (52, .u), (53, .u), (54, .u), (55, .u), (56, .u)]) (fun g => [⟨90, 1, 0, true, ints .u64 (List.replicate g.1 0 ++ g.2)⟩]) (fun g => g.1) ((digs B32 x).length, []) ?_ ?_ rfl hR rfl (fun _ _ => rfl) (fun g _ => .cons ints_id .nil) ?_
  · exact ⟨Nat.le_refl _, qd_0⟩
  · exact (.cons (by show some (V.n false .u64 []) = some (V.n false .u64 (digs B32 (x / B32 ^ (digs B32 x).length % y))); rw [top_0, Nat.zero_mod, digs_0]) (.cons rfl (.u (.u (.u (.u (.u (.u (.u (.u (.u (.u (.u (.u (.u (.u (.u (.u (.u (.u (.u (.u (.u (.u (.u (.u (.u (.u (.u (.u (.u (.u (.u (.u (.u (.u (.u (.u (.u (.u (.u (.u (.u (.u .nil))))))))))))))))))))))))))))))))))))))))))))
  · rintro ⟨k, Q⟩ ⟨hk, hQ⟩
    dsimp only at hk hQ
    obtain ⟨R, hR0⟩ : ∃ R, x / B32 ^ k % y * B32 + x / B32 ^ (k - 1) % B32 = R := ⟨_, rfl⟩
    have hRb := dv_R (x := x) (k := k) h0
    rw [hR0] at hRb
    have hlR := len_yB hRb
    have hlA := len_le (Nat.le_of_lt (Nat.mod_lt (x / B32 ^ k) h0))
    have hAB : x / B32 ^ k % y * 2 ^ 32 < y * B32 := Nat.mul_lt_mul_of_pos_right (Nat.mod_lt (x / B32 ^ k) h0) (by decide)
    have hlAB := len_yB hAB
    have hdB := Nat.mod_lt (x / B32 ^ (k - 1)) (show 0 < B32 by decide)
    have hlD : (digs B32 (x / B32 ^ (k - 1) % B32)).length ≤ 1 := digs_len (by decide) 1 _ (by rw [Nat.pow_one]; exact hdB)
    have hNm : Spec Try.prog 75 [.n false .u64 [((x / B32 ^ (k - 1) % B32 : Nat) : Int)]] (fun o => o = .ret (.n false .u64 (digs B32 (x / B32 ^ (k - 1) % B32)))) := by have h := rnorm_s [((x / B32 ^ (k - 1) % B32 : Nat) : Int)] (by simp); rwa [trm_1 hdB] at h
    have hAdd : Spec Try.prog 73 [.n false .u64 (digs B32 (x / B32 ^ k % y * 2 ^ 32)), .n false .u64 (digs B32 (x / B32 ^ (k - 1) % B32))] (fun o => o = .ret (.n false .u64 (digs B32 R))) := by have h := rAdd_s (x / B32 ^ k % y * 2 ^ 32) (x / B32 ^ (k - 1) % B32) (by omega) (by omega); rw [show x / B32 ^ k % y * 2 ^ 32 + x / B32 ^ (k - 1) % B32 = R from hR0] at h; exact h
    refine jc_seq ?_; refine jc_seq ?_; refine jc_region ?_; refine jo_l (ly_mv rfl) (hd 18 rfl) ?_; refine jo_l (ly_ge rfl rfl) (hd 19 rfl) ?_; refine jo_nil ?_
    refine jc_if rfl (fun h1 => ?_) (fun h1 => ?_)
    · refine jc_skip ?_; refine jc_seq ?_; refine jc_block ?_; refine jc_seq ?_; refine jc_draw (n := 10) _ rfl mixed ?_; refine ja_l2 0 [1, 7, 8, 9] (lo_l (ly_mv rfl) (hd 22 rfl)) rfl (by kernel_rfl) (by kernel_rfl) (by kernel_rfl) (by kernel_rfl) (fun _ _ _ _ h => h) ?_; refine ja_l2 2 [4, 5, 6, 7, 8, 9] (lo_l (ly_mv rfl) (hd 24 rfl)) rfl (by kernel_rfl) (by kernel_rfl) (by kernel_rfl) (by kernel_rfl) (fun _ _ _ _ h => h) ?_; refine ja_l2 3 [4, 5, 6, 7, 8, 9] (lo_l (ly_mv rfl) (hd 25 rfl)) rfl (by kernel_rfl) (by kernel_rfl) (by kernel_rfl) (by kernel_rfl) (fun _ _ _ _ h => h) ?_; refine ja_l2 4 [5, 6, 7, 8, 9] (lo_l (ly_ian (i := k - 1) sl33 rfl rfl (by omega) (by omega)) (hd 26 rfl)) rfl (by kernel_rfl) (by kernel_rfl) (by kernel_rfl) (by kernel_rfl) (fun _ _ _ _ h => h) ?_; refine ja_l2 5 [6, 7, 8, 9] (lo_l (ly_is (ly_ldq one82 rfl rfl) (by show V.i .u64 _ = V.i .u64 (((x / B32 ^ (k - 1) % B32 : Nat) : Int)); exact congrArg (V.i .u64) (digs_at (by decide) (k - 1) x))) (hd 27 rfl)) rfl (by kernel_rfl) (by kernel_rfl) (by kernel_rfl) (by kernel_rfl) (fun _ _ _ _ h => h) ?_
      refine ja_2 1 6 ?_ ?_ rfl rfl (by kernel_rfl)
      · refine js_call Try.f120 (Shl_s (x / B32 ^ k % y) 32 (by omega) (by decide)) rfl Try.func120 rfl rfl (ovL_cons rfl (ovL_cons rfl ovL_nil)) (.cons .n (.cons .i .nil)) (hd 23 rfl) ?_ (fun ch hp => by simp at hp)
        rintro y hy; injection hy with hy; subst hy
        refine ja_1 6 ?_ rfl (by kernel_rfl)
        refine js_h (hy_lit (id := 1) (xs := [.tmp 27]) el33 rfl (ovL_cons rfl ovL_nil) rfl (all2_of rfl) (by decide) rfl) (hd 28 rfl) ?_; refine ja_frz (k := .u64) (l := [((x / B32 ^ (k - 1) % B32 : Nat) : Int)]) (l' := [((x / B32 ^ (k - 1) % B32 : Nat) : Int)]) 28 rfl rfl (Nat.le_refl _) rfl hL ?_
        refine ja_1 7 ?_ rfl (by kernel_rfl)
        refine js_call Try.f75 (hNm) rfl Try.func75 rfl rfl (ovL_cons rfl ovL_nil) (.cons .n .nil) (hd 29 rfl) ?_ (fun ch hp => by simp at hp)
        rintro y hy; injection hy with hy; subst hy
        refine ja_1 8 ?_ rfl (by kernel_rfl)
        refine js_call Try.f73 (hAdd) rfl Try.func73 rfl rfl (ovL_cons rfl (ovL_cons rfl ovL_nil)) (.cons .n (.cons .n .nil)) (hd 30 rfl) ?_ (fun ch hp => by simp at hp)
        rintro y hy; injection hy with hy; subst hy; refine ja_l 9 (lo_l (ly_as rfl) (hd 6 rfl)) rfl (by kernel_rfl) (by kernel_rfl) (by kernel_rfl) (fun _ _ _ _ h => h) ?_; refine ja_nil (by kernel_rfl) ?_; refine jc_seq ?_; refine jc_region ?_; refine jo_l (ly_as rfl) (hd 9 rfl) ?_; refine jo_nil ?_
        refine jc_meetH (G := Unit) (fun _ => True) (fun _ => [(6, .n false .u64 (digs B32 (R % y))), (9, .i .u64 ((R / y : Nat) : Int)), (10, .u), (11, .u), (31, .u), (32, .u), (33, .u), (34, .u), (35, .u), (36, .u), (37, .u), (38, .u), (39, .u), (40, .u), (41, .u), (42, .u), (43, .u), (44, .u), (45, .u), (46, .u), (47, .u), (48, .u), (49, .u), (50, .u), (51, .u), (52, .u)]) ?_ ?_
        · refine jc_seq ?_; refine jc_region ?_; refine jo_l (ly_mv rfl) (hd 31 rfl) ?_; refine jo_l (ly_mv rfl) (hd 32 rfl) ?_
          refine jo_call Try.f121 (rCmp_s R y (by omega) (by omega)) rfl Try.func121 rfl rfl (ovL_cons rfl (ovL_cons rfl ovL_nil)) (.cons .n (.cons .n .nil)) (hd 33 rfl) ?_ (fun ch hp => by simp at hp)
          rintro y hy; injection hy with hy; subst hy; refine jo_l (ly_ge rfl rfl) (hd 34 rfl) ?_; refine jo_nil ?_
          refine jc_if rfl (fun h2 => ?_) (fun h2 => ?_)
          · refine jc_seq ?_; refine jc_region ?_; refine jo_l (ly_as rfl) (hd 10 rfl) ?_; refine jo_nil ?_; refine jc_block ?_
            refine jc_loopF (G := Nat × Nat) (fun g => Hlv R y g.1 g.2) (fun g => [(6, .n false .u64 (digs B32 (R - y * g.2))), (9, .i .u64 (g.2 : Int)), (10, .i .i64 ((g.1 : Int) - 1)), (11, .u), (35, .u), (36, .u), (37, .u), (38, .u), (39, .u), (40, .u), (41, .u), (42, .u), (43, .u), (44, .u), (45, .u), (46, .u), (47, .u), (48, .u), (49, .u), (50, .u), (51, .u), (52, .u)]) (fun _ => _) (fun g => g.1) (32, 0) ?_ ?_ rfl ?_
            · exact hlv_0 hRb
            · exact (.cons (by show some (V.n false .u64 (digs B32 R)) = some (V.n false .u64 (digs B32 (R - y * 0))); rw [Nat.mul_zero, Nat.sub_zero]) (.cons rfl (.cons rfl (.u (.u (.u (.u (.u (.u (.u (.u (.u (.u (.u (.u (.u (.u (.u (.u (.u (.u (.u .nil))))))))))))))))))))))
            · rintro ⟨t, q⟩ hH
              dsimp only at hH
              have hlq := hlv_len (t := t) (q := q) hRb
              refine jc_seq ?_; refine jc_seq ?_; refine jc_region ?_; refine jo_l (ly_mv rfl) (hd 35 rfl) ?_; refine jo_l (ly_ge rfl rfl) (hd 36 rfl) ?_; refine jo_nil ?_
              refine jc_if rfl (fun h3 => ?_) (fun h3 => ?_)
              · obtain ⟨s, rfl⟩ : ∃ s, t = s + 1 := ⟨t - 1, by omega⟩
                have hs : s < 32 := by have := hH.1; omega
                have hls := len_ys (y := y) h0 hs
                refine jc_skip ?_
                refine jc_meetH (G := Nat) (fun g => Hlv R y s g) (fun g => [(6, .n false .u64 (digs B32 (R - y * g))), (9, .i .u64 (g : Int)), (11, .u), (39, .u), (40, .u), (41, .u), (42, .u), (43, .u), (44, .u), (45, .u), (46, .u), (47, .u), (48, .u), (49, .u), (50, .u), (51, .u), (52, .u)]) ?_ ?_
                · refine jc_block ?_; refine jc_seq ?_; refine jc_region ?_; refine jo_l (ly_mv rfl) (hd 39 rfl) ?_; refine jo_l (ly_is (ly_mv rfl) (show V.i .i64 _ = V.i .i64 (s : Int) by congr 1; omega)) (hd 40 rfl) ?_
                  refine jo_call Try.f120 (Shl_s y s (by omega) (by omega)) rfl Try.func120 rfl rfl (ovL_cons rfl (ovL_cons rfl ovL_nil)) (.cons .n (.cons .i .nil)) (hd 41 rfl) ?_ (fun ch hp => by simp at hp)
                  rintro y hy; injection hy with hy; subst hy; refine jo_l (ly_as rfl) (hd 11 rfl) ?_; refine jo_nil ?_; refine jc_seq ?_; refine jc_region ?_; refine jo_l (ly_mv rfl) (hd 42 rfl) ?_; refine jo_l (ly_mv rfl) (hd 43 rfl) ?_
                  refine jo_call Try.f121 (rCmp_s (R - y * q) (y * 2 ^ s) (by omega) (by omega)) rfl Try.func121 rfl rfl (ovL_cons rfl (ovL_cons rfl ovL_nil)) (.cons .n (.cons .n .nil)) (hd 44 rfl) ?_ (fun ch hp => by simp at hp)
                  rintro y hy; injection hy with hy; subst hy; refine jo_l (ly_ge rfl rfl) (hd 45 rfl) ?_; refine jo_nil ?_
                  refine jc_if rfl (fun h4 => ?_) (fun h4 => ?_)
                  · have hle := cmp_le h4
                    obtain ⟨hy1, hy2⟩ := hlv_yes hH hle
                    have hqb := hy1.2.2.2
                    refine jc_seq ?_; refine jc_region ?_; refine jo_l (ly_mv rfl) (hd 46 rfl) ?_; refine jo_l (ly_mv rfl) (hd 47 rfl) ?_
                    refine jo_call Try.f122 (rSub_s (R - y * q) (y * 2 ^ s) hle (by omega) (by omega)) rfl Try.func122 rfl rfl (ovL_cons rfl (ovL_cons rfl ovL_nil)) (.cons .n (.cons .n .nil)) (hd 48 rfl) ?_ (fun ch hp => by simp at hp)
                    rintro y hy; injection hy with hy; subst hy; refine jo_l (ly_as rfl) (hd 6 rfl) ?_; refine jo_nil ?_; refine jc_region ?_; refine jo_l (ly_mv rfl) (hd 49 rfl) ?_; refine jo_l (ly_is (ly_mv rfl) (show V.i .i64 _ = V.i .i64 (s : Int) by congr 1; omega)) (hd 50 rfl) ?_; refine jo_l (ly_is (ly_shl rfl rfl (by omega) rfl) (show V.i .u64 _ = V.i .u64 (((2 ^ s : Nat) : Int)) from congrArg (V.i .u64) (bit_shl hs))) (hd 51 rfl) ?_; refine jo_l (ly_add rfl rfl (r := ((q + 2 ^ s : Nat) : Int)) (by generalize 2 ^ s = u at *; rw [wrap_u64 (by omega) (by omega)]; omega)) (hd 52 rfl) ?_; refine jo_l (ly_as rfl) (hd 9 rfl) ?_; refine jo_nil ?_
                    refine ⟨(q + 2 ^ s), ?_, rfl, cov_n 17 rfl rfl ?_⟩
                    · exact hy1
                    · exact (.cons (by show some (V.n false .u64 _) = some (V.n false .u64 _); rw [hy2]) (.cons rfl (.u (.u (.u (.u (.u (.u (.u (.u (.u (.u (.u (.u (.u (.u (.u .nil)))))))))))))))))
                  · have hno := hlv_no hH (fun hle => h4 (cmp_ge hle))
                    refine jc_skip ?_
                    refine ⟨q, ?_, rfl, cov_n 8 rfl rfl ?_⟩
                    · exact hno
                    · exact (.cons rfl (.cons rfl (.u (.u (.u (.u (.u (.u (.u (.u (.u (.u (.u (.u (.u (.u (.u .nil)))))))))))))))))
                · rintro q' hH'; refine jc_region ?_; refine jo_l (ly_mv rfl) (hd 37 rfl) ?_; refine jo_l (ly_sub rfl rfl (wrap_i64 (by omega) (by omega))) (hd 38 rfl) ?_; refine jo_l (ly_as rfl) (hd 10 rfl) ?_; refine jo_nil ?_
                  refine ⟨(s, q'), ?_, ?_, rfl, cov_n 44 rfl rfl ?_⟩
                  · exact hH'
                  · show s < s + 1
                    omega
                  · exact (.cons rfl (.cons rfl (.cons (by show some (V.i .i64 _) = some (V.i .i64 _); congr 2; omega) (.u (.u (.u (.u (.u (.u (.u (.u (.u (.u (.u (.u (.u (.u (.u (.u (.u (.u (.u .nil))))))))))))))))))))))
              · obtain rfl : t = 0 := by omega
                obtain ⟨he1, he2⟩ := hlv_end hH
                refine jc_exit ?_
                refine ⟨(), ?_, rfl, cov_n 29 rfl rfl ?_⟩
                · trivial
                · exact (.cons (by show some (V.n false .u64 _) = some (V.n false .u64 _); rw [he2]) (.cons (by show some (V.i .u64 _) = some (V.i .u64 _); rw [he1]) (.u (.u (.u (.u (.u (.u (.u (.u (.u (.u (.u (.u (.u (.u (.u (.u (.u (.u (.u (.u (.u (.u (.u (.u .nil))))))))))))))))))))))))))
          · have hlt := cmp_lt' h2
            refine jc_skip ?_
            refine ⟨(), ?_, rfl, cov_n 4 rfl rfl ?_⟩
            · trivial
            · exact (.cons (by show some (V.n false .u64 _) = some (V.n false .u64 _); rw [Nat.mod_eq_of_lt hlt]) (.cons (by show some (V.i .u64 _) = some (V.i .u64 _); rw [Nat.div_eq_of_lt hlt]; rfl) (.u (.u (.u (.u (.u (.u (.u (.u (.u (.u (.u (.u (.u (.u (.u (.u (.u (.u (.u (.u (.u (.u (.u (.u .nil))))))))))))))))))))))))))
        · rintro _ _; refine jc_region ?_; refine jo_l (ly_mv rfl) (hd 53 rfl) ?_; refine jo_l (ly_mv rfl) (hd 54 rfl) ?_; refine jo_l (ly_mv rfl) (hd 55 rfl) ?_; refine jo_l (ly_ia (i := k - 1) sl33 rfl rfl rfl (by omega) (by omega) rfl) (hd 56 rfl) ?_; refine jo_st (sy_storei rfl rfl rfl one82 (by simp only [List.length_append, List.length_replicate]; omega)) ?_; refine jo_nil ?_; refine jc_region ?_; refine jo_l (ly_mv rfl) (hd 20 rfl) ?_; refine jo_l (ly_sub rfl rfl (wrap_i64 (by omega) (by omega))) (hd 21 rfl) ?_; refine jo_l (ly_as rfl) (hd 8 rfl) ?_; refine jo_nil ?_
          refine ⟨(k - 1, ((R / y : Nat) : Int) :: Q), ?_, ?_, (by show [(⟨90, 1, 0, true, ints .u64 _⟩ : Ob)] = [⟨90, 1, 0, true, ints .u64 _⟩]; rw [dv_row (by omega)]), cov_n 91 rfl rfl ?_⟩
          · exact ⟨by show k - 1 ≤ _; omega, by rw [← hR0]; exact hQ.next h0 (by omega) hk⟩
          · show k - 1 < k
            omega
          · exact (.cons (by show some (V.n false .u64 _) = some (V.n false .u64 _); rw [(dv_digit h0 (by omega)).2, hR0]) (.cons (by show some (V.i .i64 _) = some (V.i .i64 _); congr 2; omega) (.u (.u (.u (.u (.u (.u (.u (.u (.u (.u (.u (.u (.u (.u (.u (.u (.u (.u (.u (.u (.u (.u (.u (.u (.u (.u (.u (.u (.u (.u (.u (.u (.u (.u (.u (.u (.u (.u (.u (.u (.u (.u .nil))))))))))))))))))))))))))))))))))))))))))))
      · refine js_h (hy_lit (id := 1) (xs := [.tmp 27]) el33 rfl (ovL_cons rfl ovL_nil) rfl (all2_of rfl) (by decide) rfl) (hd 28 rfl) ?_; refine ja_frz (k := .u64) (l := [((x / B32 ^ (k - 1) % B32 : Nat) : Int)]) (l' := [((x / B32 ^ (k - 1) % B32 : Nat) : Int)]) 28 rfl rfl (Nat.le_refl _) rfl hL ?_
        refine ja_1 1 ?_ rfl (by kernel_rfl)
        refine js_call Try.f120 (Shl_s (x / B32 ^ k % y) 32 (by omega) (by decide)) rfl Try.func120 rfl rfl (ovL_cons rfl (ovL_cons rfl ovL_nil)) (.cons .n (.cons .i .nil)) (hd 23 rfl) ?_ (fun ch hp => by simp at hp)
        rintro y hy; injection hy with hy; subst hy
        refine ja_1 7 ?_ rfl (by kernel_rfl)
        refine js_call Try.f75 (hNm) rfl Try.func75 rfl rfl (ovL_cons rfl ovL_nil) (.cons .n .nil) (hd 29 rfl) ?_ (fun ch hp => by simp at hp)
        rintro y hy; injection hy with hy; subst hy
        refine ja_1 8 ?_ rfl (by kernel_rfl)
        refine js_call Try.f73 (hAdd) rfl Try.func73 rfl rfl (ovL_cons rfl (ovL_cons rfl ovL_nil)) (.cons .n (.cons .n .nil)) (hd 30 rfl) ?_ (fun ch hp => by simp at hp)
        rintro y hy; injection hy with hy; subst hy; refine ja_l 9 (lo_l (ly_as rfl) (hd 6 rfl)) rfl (by kernel_rfl) (by kernel_rfl) (by kernel_rfl) (fun _ _ _ _ h => h) ?_; refine ja_nil (by kernel_rfl) ?_; refine jc_seq ?_; refine jc_region ?_; refine jo_l (ly_as rfl) (hd 9 rfl) ?_; refine jo_nil ?_
        refine jc_meetH (G := Unit) (fun _ => True) (fun _ => [(6, .n false .u64 (digs B32 (R % y))), (9, .i .u64 ((R / y : Nat) : Int)), (10, .u), (11, .u), (31, .u), (32, .u), (33, .u), (34, .u), (35, .u), (36, .u), (37, .u), (38, .u), (39, .u), (40, .u), (41, .u), (42, .u), (43, .u), (44, .u), (45, .u), (46, .u), (47, .u), (48, .u), (49, .u), (50, .u), (51, .u), (52, .u)]) ?_ ?_
        · refine jc_seq ?_; refine jc_region ?_; refine jo_l (ly_mv rfl) (hd 31 rfl) ?_; refine jo_l (ly_mv rfl) (hd 32 rfl) ?_
          refine jo_call Try.f121 (rCmp_s R y (by omega) (by omega)) rfl Try.func121 rfl rfl (ovL_cons rfl (ovL_cons rfl ovL_nil)) (.cons .n (.cons .n .nil)) (hd 33 rfl) ?_ (fun ch hp => by simp at hp)
          rintro y hy; injection hy with hy; subst hy; refine jo_l (ly_ge rfl rfl) (hd 34 rfl) ?_; refine jo_nil ?_
          refine jc_if rfl (fun h5 => ?_) (fun h5 => ?_)
          · refine jc_seq ?_; refine jc_region ?_; refine jo_l (ly_as rfl) (hd 10 rfl) ?_; refine jo_nil ?_; refine jc_block ?_
            refine jc_loopF (G := Nat × Nat) (fun g => Hlv R y g.1 g.2) (fun g => [(6, .n false .u64 (digs B32 (R - y * g.2))), (9, .i .u64 (g.2 : Int)), (10, .i .i64 ((g.1 : Int) - 1)), (11, .u), (35, .u), (36, .u), (37, .u), (38, .u), (39, .u), (40, .u), (41, .u), (42, .u), (43, .u), (44, .u), (45, .u), (46, .u), (47, .u), (48, .u), (49, .u), (50, .u), (51, .u), (52, .u)]) (fun _ => _) (fun g => g.1) (32, 0) ?_ ?_ rfl ?_
            · exact hlv_0 hRb
            · exact (.cons (by show some (V.n false .u64 (digs B32 R)) = some (V.n false .u64 (digs B32 (R - y * 0))); rw [Nat.mul_zero, Nat.sub_zero]) (.cons rfl (.cons rfl (.u (.u (.u (.u (.u (.u (.u (.u (.u (.u (.u (.u (.u (.u (.u (.u (.u (.u (.u .nil))))))))))))))))))))))
            · rintro ⟨t, q⟩ hH
              dsimp only at hH
              have hlq := hlv_len (t := t) (q := q) hRb
              refine jc_seq ?_; refine jc_seq ?_; refine jc_region ?_; refine jo_l (ly_mv rfl) (hd 35 rfl) ?_; refine jo_l (ly_ge rfl rfl) (hd 36 rfl) ?_; refine jo_nil ?_
              refine jc_if rfl (fun h6 => ?_) (fun h6 => ?_)
              · obtain ⟨s, rfl⟩ : ∃ s, t = s + 1 := ⟨t - 1, by omega⟩
                have hs : s < 32 := by have := hH.1; omega
                have hls := len_ys (y := y) h0 hs
                refine jc_skip ?_
                refine jc_meetH (G := Nat) (fun g => Hlv R y s g) (fun g => [(6, .n false .u64 (digs B32 (R - y * g))), (9, .i .u64 (g : Int)), (11, .u), (39, .u), (40, .u), (41, .u), (42, .u), (43, .u), (44, .u), (45, .u), (46, .u), (47, .u), (48, .u), (49, .u), (50, .u), (51, .u), (52, .u)]) ?_ ?_
                · refine jc_block ?_; refine jc_seq ?_; refine jc_region ?_; refine jo_l (ly_mv rfl) (hd 39 rfl) ?_; refine jo_l (ly_is (ly_mv rfl) (show V.i .i64 _ = V.i .i64 (s : Int) by congr 1; omega)) (hd 40 rfl) ?_
                  refine jo_call Try.f120 (Shl_s y s (by omega) (by omega)) rfl Try.func120 rfl rfl (ovL_cons rfl (ovL_cons rfl ovL_nil)) (.cons .n (.cons .i .nil)) (hd 41 rfl) ?_ (fun ch hp => by simp at hp)
                  rintro y hy; injection hy with hy; subst hy; refine jo_l (ly_as rfl) (hd 11 rfl) ?_; refine jo_nil ?_; refine jc_seq ?_; refine jc_region ?_; refine jo_l (ly_mv rfl) (hd 42 rfl) ?_; refine jo_l (ly_mv rfl) (hd 43 rfl) ?_
                  refine jo_call Try.f121 (rCmp_s (R - y * q) (y * 2 ^ s) (by omega) (by omega)) rfl Try.func121 rfl rfl (ovL_cons rfl (ovL_cons rfl ovL_nil)) (.cons .n (.cons .n .nil)) (hd 44 rfl) ?_ (fun ch hp => by simp at hp)
                  rintro y hy; injection hy with hy; subst hy; refine jo_l (ly_ge rfl rfl) (hd 45 rfl) ?_; refine jo_nil ?_
                  refine jc_if rfl (fun h7 => ?_) (fun h7 => ?_)
                  · have hle := cmp_le h7
                    obtain ⟨hy1, hy2⟩ := hlv_yes hH hle
                    have hqb := hy1.2.2.2
                    refine jc_seq ?_; refine jc_region ?_; refine jo_l (ly_mv rfl) (hd 46 rfl) ?_; refine jo_l (ly_mv rfl) (hd 47 rfl) ?_
                    refine jo_call Try.f122 (rSub_s (R - y * q) (y * 2 ^ s) hle (by omega) (by omega)) rfl Try.func122 rfl rfl (ovL_cons rfl (ovL_cons rfl ovL_nil)) (.cons .n (.cons .n .nil)) (hd 48 rfl) ?_ (fun ch hp => by simp at hp)
                    rintro y hy; injection hy with hy; subst hy; refine jo_l (ly_as rfl) (hd 6 rfl) ?_; refine jo_nil ?_; refine jc_region ?_; refine jo_l (ly_mv rfl) (hd 49 rfl) ?_; refine jo_l (ly_is (ly_mv rfl) (show V.i .i64 _ = V.i .i64 (s : Int) by congr 1; omega)) (hd 50 rfl) ?_; refine jo_l (ly_is (ly_shl rfl rfl (by omega) rfl) (show V.i .u64 _ = V.i .u64 (((2 ^ s : Nat) : Int)) from congrArg (V.i .u64) (bit_shl hs))) (hd 51 rfl) ?_; refine jo_l (ly_add rfl rfl (r := ((q + 2 ^ s : Nat) : Int)) (by generalize 2 ^ s = u at *; rw [wrap_u64 (by omega) (by omega)]; omega)) (hd 52 rfl) ?_; refine jo_l (ly_as rfl) (hd 9 rfl) ?_; refine jo_nil ?_
                    refine ⟨(q + 2 ^ s), ?_, rfl, cov_n 17 rfl rfl ?_⟩
                    · exact hy1
                    · exact (.cons (by show some (V.n false .u64 _) = some (V.n false .u64 _); rw [hy2]) (.cons rfl (.u (.u (.u (.u (.u (.u (.u (.u (.u (.u (.u (.u (.u (.u (.u .nil)))))))))))))))))
                  · have hno := hlv_no hH (fun hle => h7 (cmp_ge hle))
                    refine jc_skip ?_
                    refine ⟨q, ?_, rfl, cov_n 8 rfl rfl ?_⟩
                    · exact hno
                    · exact (.cons rfl (.cons rfl (.u (.u (.u (.u (.u (.u (.u (.u (.u (.u (.u (.u (.u (.u (.u .nil)))))))))))))))))
                · rintro q' hH'; refine jc_region ?_; refine jo_l (ly_mv rfl) (hd 37 rfl) ?_; refine jo_l (ly_sub rfl rfl (wrap_i64 (by omega) (by omega))) (hd 38 rfl) ?_; refine jo_l (ly_as rfl) (hd 10 rfl) ?_; refine jo_nil ?_
                  refine ⟨(s, q'), ?_, ?_, rfl, cov_n 44 rfl rfl ?_⟩
                  · exact hH'
                  · show s < s + 1
                    omega
                  · exact (.cons rfl (.cons rfl (.cons (by show some (V.i .i64 _) = some (V.i .i64 _); congr 2; omega) (.u (.u (.u (.u (.u (.u (.u (.u (.u (.u (.u (.u (.u (.u (.u (.u (.u (.u (.u .nil))))))))))))))))))))))
              · obtain rfl : t = 0 := by omega
                obtain ⟨he1, he2⟩ := hlv_end hH
                refine jc_exit ?_
                refine ⟨(), ?_, rfl, cov_n 29 rfl rfl ?_⟩
                · trivial
                · exact (.cons (by show some (V.n false .u64 _) = some (V.n false .u64 _); rw [he2]) (.cons (by show some (V.i .u64 _) = some (V.i .u64 _); rw [he1]) (.u (.u (.u (.u (.u (.u (.u (.u (.u (.u (.u (.u (.u (.u (.u (.u (.u (.u (.u (.u (.u (.u (.u (.u .nil))))))))))))))))))))))))))
          · have hlt := cmp_lt' h5
            refine jc_skip ?_
            refine ⟨(), ?_, rfl, cov_n 4 rfl rfl ?_⟩
            · trivial
            · exact (.cons (by show some (V.n false .u64 _) = some (V.n false .u64 _); rw [Nat.mod_eq_of_lt hlt]) (.cons (by show some (V.i .u64 _) = some (V.i .u64 _); rw [Nat.div_eq_of_lt hlt]; rfl) (.u (.u (.u (.u (.u (.u (.u (.u (.u (.u (.u (.u (.u (.u (.u (.u (.u (.u (.u (.u (.u (.u (.u (.u .nil))))))))))))))))))))))))))
        · rintro _ _; refine jc_region ?_; refine jo_l (ly_mv rfl) (hd 53 rfl) ?_; refine jo_l (ly_mv rfl) (hd 54 rfl) ?_; refine jo_l (ly_mv rfl) (hd 55 rfl) ?_; refine jo_l (ly_ia (i := k - 1) sl33 rfl rfl rfl (by omega) (by omega) rfl) (hd 56 rfl) ?_; refine jo_st (sy_storei rfl rfl rfl one82 (by simp only [List.length_append, List.length_replicate]; omega)) ?_; refine jo_nil ?_; refine jc_region ?_; refine jo_l (ly_mv rfl) (hd 20 rfl) ?_; refine jo_l (ly_sub rfl rfl (wrap_i64 (by omega) (by omega))) (hd 21 rfl) ?_; refine jo_l (ly_as rfl) (hd 8 rfl) ?_; refine jo_nil ?_
          refine ⟨(k - 1, ((R / y : Nat) : Int) :: Q), ?_, ?_, (by show [(⟨90, 1, 0, true, ints .u64 _⟩ : Ob)] = [⟨90, 1, 0, true, ints .u64 _⟩]; rw [dv_row (by omega)]), cov_n 91 rfl rfl ?_⟩
          · exact ⟨by show k - 1 ≤ _; omega, by rw [← hR0]; exact hQ.next h0 (by omega) hk⟩
          · show k - 1 < k
            omega
          · exact (.cons (by show some (V.n false .u64 _) = some (V.n false .u64 _); rw [(dv_digit h0 (by omega)).2, hR0]) (.cons (by show some (V.i .i64 _) = some (V.i .i64 _); congr 2; omega) (.u (.u (.u (.u (.u (.u (.u (.u (.u (.u (.u (.u (.u (.u (.u (.u (.u (.u (.u (.u (.u (.u (.u (.u (.u (.u (.u (.u (.u (.u (.u (.u (.u (.u (.u (.u (.u (.u (.u (.u (.u (.u .nil))))))))))))))))))))))))))))))))))))))))))))
    · obtain rfl : k = 0 := by omega
      refine jc_exit ?_; refine jc_seq ?_; refine jc_region ?_; refine jo_frz (k := .u64) (l := List.replicate 0 0 ++ Q) (l' := Q) 7 rfl rfl (by have := hQ.l; simp only [List.length_append, List.length_replicate]; omega) (by have := hQ.l; rw [List.drop_zero]; show List.take _ Q = _; rw [List.take_of_length_le (by omega)]) hL ?_; refine jo_l (ly_mv rfl) (hd 57 rfl) ?_
      refine jo_call Try.f75 (rnorm_s Q (by have := hQ.l; omega)) rfl Try.func75 rfl rfl (ovL_cons rfl ovL_nil) (.cons .n .nil) (hd 58 rfl) ?_ (fun ch hp => by simp at hp)
      rintro y hy; injection hy with hy; subst hy; refine jo_l (ly_mv rfl) (hd 59 rfl) ?_; refine jo_l (ly_as rfl) (hd 4 rfl) ?_; refine jo_l (ly_as rfl) (hd 5 rfl) ?_; refine jo_nil ?_; refine jc_ret ?_
      refine ⟨_, _, (.cons rfl (.cons rfl .nil)), (.t1 .n (.t1 .n .t0)), ?_⟩
      rw [hQ.fin, Nat.pow_zero, Nat.div_one]
end Go.Proofs.Ytcfdclehmpfkcaa.Vc

/- Contracts of surdref06.Floor, Ceil, Quo, Euclid, Near. -/
namespace Go.Proofs.Ytcfdclehmpfkcaa.Vc
open Go Go.RowKit
end Go.Proofs.Ytcfdclehmpfkcaa.Vc

/- Contracts of surdlaw06.pair, rest. -/
namespace Go.Proofs.Ytcfdclehmpfkcaa.Vc
open Go Go.RowKit
end Go.Proofs.Ytcfdclehmpfkcaa.Vc

/- Contract of surdlaw06.WholeRests. -/
namespace Go.Proofs.Ytcfdclehmpfkcaa.Vc
open Go Go.RowKit
end Go.Proofs.Ytcfdclehmpfkcaa.Vc

/- Two numbers with a sign, and more, that are handed in. -/
namespace Go.Proofs.Ytcfdclehmpfkcaa.Vc
open Go Go.RowKit
end Go.Proofs.Ytcfdclehmpfkcaa.Vc

/- What WholeOwn needs, in plain Lean: a row written over by xor, sizes of sums and products, numbers by their answers. -/
namespace Go.Proofs.Ytcfdclehmpfkcaa.Vc
open Go Go.RowKit
def xr5 (x : Int) : Int := bitop .xor .u64 x 5
def xorL (l : List Int) : List Int := l.map xr5
/-- The first i are written over. -/
def xorI (l : List Int) (i : Nat) : List Int := xorL (l.take i) ++ l.drop i
/-- A copy, the first i taken over. -/
def cpI (l : List Int) (i : Nat) : List Int := fillI (l.take i) l.length
theorem cpI_0 (l : List Int) : List.replicate l.length (0 : Int) = cpI l 0 := by simp [cpI, fillI]
theorem cpI_len {l : List Int} {i : Nat} (h : i ≤ l.length) : (cpI l i).length = l.length := fillI_len (by rw [List.length_take]; omega)
theorem cpI_all (l : List Int) : cpI l l.length = l := by rw [cpI, List.take_length, fillI_full rfl]
theorem cpI_set {l : List Int} {i : Nat} (h : i < l.length) : (cpI l i).set ((0 + i) * 1) (l.getD i 0) = cpI l (i + 1) := by
  rw [Nat.zero_add, Nat.mul_one]
  unfold cpI
  have e : (l.take i).length = i := by rw [List.length_take]; omega
  have := fillI_set (l := l.take i) (n := l.length) (v := l.getD i 0) (by omega)
  rw [e] at this
  rw [this, List.take_add_one, List.getElem?_eq_getElem h, List.getD_eq_getElem?_getD, List.getElem?_eq_getElem h]
  rfl
end Go.Proofs.Ytcfdclehmpfkcaa.Vc

/- Digits in any base, padded, the highest first; in plain Lean. -/
namespace Go.Proofs.Ytcfdclehmpfkcaa.Vc
open Go Go.RowKit

theorem rng_app {b : Nat} {l l' : List Int} (h : rng b l) (h' : rng b l') : rng b (l ++ l') := fun x hx => by
  rcases List.mem_append.1 hx with h1 | h1
  · exact h x h1
  · exact h' x h1
theorem rng_one {b : Nat} {x : Int} (h0 : 0 ≤ x) (h1 : x < b) : rng b [x] := fun y hy => by
  rw [List.mem_singleton.1 hy]; exact ⟨h0, h1⟩
theorem rng_zeros {b k : Nat} (hb : 0 < b) : rng b (List.replicate k 0) := fun x hx => by
  rw [(List.mem_replicate.1 hx).2]; omega
theorem vb_append (b : Nat) : ∀ l l' : List Int, vb b (l ++ l') = vb b l + (b : Int) ^ l.length * vb b l'
  | [], l' => by simp [vb]
  | x :: l, l' => by
    rw [List.cons_append, vb, vb, vb_append b l l', List.length_cons, Int.pow_succ, Int.mul_add, Int.mul_comm ((b : Int) ^ l.length) b, Int.mul_assoc]
    omega
theorem vb_inj {b : Nat} : ∀ {l l' : List Int}, rng b l → rng b l' → l.length = l'.length → vb b l = vb b l' → l = l'
  | [], [], _, _, _, _ => rfl
  | [], _ :: _, _, _, h, _ => by simp at h
  | _ :: _, [], _, _, h, _ => by simp at h
  | x :: l, y :: l', h1, h2, h3, h4 => by
    have hx := h1 x (List.mem_cons_self ..)
    have hy := h2 y (List.mem_cons_self ..)
    simp only [vb] at h4
    have e : x = y := by
      have e1 : (x + b * vb b l) % b = x := by rw [Int.add_mul_emod_self_left]; exact Int.emod_eq_of_lt hx.1 hx.2
      have e2 : (y + b * vb b l') % b = y := by rw [Int.add_mul_emod_self_left]; exact Int.emod_eq_of_lt hy.1 hy.2
      rw [← e1, ← e2, h4]
    subst e
    have hb : (b : Int) ≠ 0 := by omega
    have e2 : vb b l = vb b l' := Int.eq_of_mul_eq_mul_left hb (by omega)
    rw [vb_inj (rng_tail h1) (rng_tail h2) (by simpa using h3) e2]
theorem vb_lt {b : Nat} : ∀ {l : List Int}, rng b l → vb b l < (b : Int) ^ l.length
  | [], _ => by simp [vb]
  | x :: l, h => by
    have hx := h x (List.mem_cons_self ..)
    have ih := vb_lt (rng_tail h)
    rw [vb, List.length_cons, Int.pow_succ]
    have : (b : Int) * (vb b l + 1) ≤ b * (b : Int) ^ l.length := Int.mul_le_mul_of_nonneg_left (by omega) (by omega)
    rw [Int.mul_comm ((b : Int) ^ l.length)]
    rw [Int.mul_add] at this
    omega
/-- The digits, the lowest first, at least m. -/
def padD (b m x : Nat) : List Int := digs b x ++ List.replicate (m - (digs b x).length) 0
theorem padD_rng {b : Nat} (hb : 2 ≤ b) (m x : Nat) : rng b (padD b m x) := rng_app (rng_digs hb x) (rng_zeros (by omega))
theorem padD_vb {b : Nat} (hb : 2 ≤ b) (m x : Nat) : vb b (padD b m x) = x := by rw [padD, vb_app, vb_digs hb]
theorem padD_le {b : Nat} (m x : Nat) : (padD b m x).length = max m (digs b x).length := by simp [padD]; omega
theorem padD_len {b : Nat} (hb : 2 ≤ b) {m x : Nat} (h : x < b ^ m) : (padD b m x).length = m := by
  have := digs_len hb m x h
  rw [padD_le]; omega
theorem padD_eq {b : Nat} (hb : 2 ≤ b) {m x : Nat} {l : List Int} (hr : rng b l) (hl : l.length = m) (hv : vb b l = x) : l = padD b m x := by
  have h := vb_lt hr
  rw [hv, hl] at h
  have h' : x < b ^ m := by exact_mod_cast h
  exact vb_inj hr (padD_rng hb m x) (by rw [hl, padD_len hb h']) (by rw [hv, padD_vb hb])
theorem padD_app {b : Nat} (hb : 2 ≤ b) {n m q r : Nat} (hq : q < b ^ m) (hr : r < b ^ n) : padD b n r ++ padD b m q = padD b (n + m) (q * b ^ n + r) := by
  refine padD_eq hb (rng_app (padD_rng hb _ _) (padD_rng hb _ _)) (by rw [List.length_append, padD_len hb hr, padD_len hb hq]) ?_
  rw [vb_append, padD_len hb hr, padD_vb hb, padD_vb hb, Int.natCast_add, Int.natCast_mul, Int.natCast_pow, Int.mul_comm]
  omega
/-- The same, the highest first. -/
def hdg (b m x : Nat) : List Int := (padD b m x).reverse
theorem hdg_le {b : Nat} (m x : Nat) : (hdg b m x).length = max m (digs b x).length := by rw [hdg, List.length_reverse, padD_le]
theorem hdg_app {b : Nat} (hb : 2 ≤ b) {n m q r : Nat} (hq : q < b ^ m) (hr : r < b ^ n) : hdg b m q ++ hdg b n r = hdg b (n + m) (q * b ^ n + r) := by
  unfold hdg
  rw [← padD_app hb hq hr, List.reverse_append]
theorem hdg_rng {b : Nat} (hb : 2 ≤ b) (m x : Nat) : rng b (hdg b m x) := fun y hy => padD_rng hb m x y (List.mem_reverse.1 hy)
theorem digs_ne {b x : Nat} (hb : 2 ≤ b) (h : x ≠ 0) : digs b x ≠ [] := fun e => by
  have := vb_digs hb x
  rw [e] at this
  simp [vb] at this
  omega
/-- With noughts at the front. -/
theorem hdg_cut {b : Nat} (hb : 2 ≤ b) {m x : Nat} (hx : x ≠ 0) : hdg b m x = List.replicate (m - (digs b x).length) 0 ++ hdg b 1 x := by
  have h1 : 0 < (digs b x).length := List.length_pos_iff.2 (digs_ne hb hx)
  unfold hdg padD
  rw [List.reverse_append, List.reverse_append, show 1 - (digs b x).length = 0 by omega]
  simp
/-- The highest digit is no nought. -/
theorem hdg_head {b : Nat} (hb : 2 ≤ b) {x : Nat} (hx : x ≠ 0) : (hdg b 1 x).getD 0 0 ≠ 0 := by
  have h1 : 0 < (digs b x).length := List.length_pos_iff.2 (digs_ne hb hx)
  have ht := tpd_digs hb x (digs_ne hb hx)
  unfold hdg padD
  rw [show 1 - (digs b x).length = 0 by omega]
  simp only [List.replicate_zero, List.append_nil]
  rw [List.getD_eq_getElem?_getD, List.getElem?_reverse (by omega), Nat.sub_zero, ← List.getD_eq_getElem?_getD]
  exact ht
end Go.Proofs.Ytcfdclehmpfkcaa.Vc

/- Powers modulo, bit by bit, in plain Lean. -/
namespace Go.Proofs.Ytcfdclehmpfkcaa.Vc
open Go Go.RowKit
theorem pm_half {x k : Nat} (hk : 0 < k) : x / 2 ^ k = x / 2 ^ (k - 1) / 2 := by
  obtain ⟨j, rfl⟩ : ∃ j, k = j + 1 := ⟨k - 1, by omega⟩
  rw [Nat.add_sub_cancel, Nat.pow_succ, Nat.div_div_eq_div_mul]
theorem pm_bit1 {x k : Nat} (hk : 0 < k) (h : ((x / 2 ^ (k - 1) % 2 : Nat) : Int) = 1) : 2 * (x / 2 ^ k) + 1 = x / 2 ^ (k - 1) := by
  rw [pm_half hk]; omega
theorem pm_bit0 {x k : Nat} (hk : 0 < k) (h : ¬ ((x / 2 ^ (k - 1) % 2 : Nat) : Int) = 1) : 2 * (x / 2 ^ k) = x / 2 ^ (k - 1) := by
  rw [pm_half hk]; omega
end Go.Proofs.Ytcfdclehmpfkcaa.Vc

/- Digits in any base, told one by one: the loops' steps, in plain Lean. -/
namespace Go.Proofs.Ytcfdclehmpfkcaa.Vc
open Go Go.RowKit
theorem w63 {n p : Nat} (h : 2 ^ n ≤ p) (hp : p ≤ 9223372036854775808) : n ≤ 63 :=
  (Nat.pow_le_pow_iff_right (by decide : 1 < 2)).1 (Nat.le_trans h (show p ≤ 2 ^ 63 from hp))
theorem w_step {b n p : Nat} (hb : 2 ≤ b) (h1 : p = b ^ n) (h2 : 2 ^ n ≤ p) (h3 : p ≤ 9223372036854775808 / b) : p * b = b ^ (n + 1) ∧ 2 ^ (n + 1) ≤ p * b ∧ p * b ≤ 9223372036854775808 := by
  refine ⟨by rw [h1, Nat.pow_succ], ?_, (Nat.le_div_iff_mul_le (by omega)).1 h3⟩
  rw [Nat.pow_succ]
  exact Nat.mul_le_mul h2 hb
theorem w_exit {b n p : Nat} (hb : 2 ≤ b) (hb2 : b ≤ 36) (h1 : p = b ^ n) (h3 : ¬ p ≤ 9223372036854775808 / b) : 1 ≤ n := by
  rcases Nat.eq_zero_or_pos n with h | h
  · subst h
    exact absurd ((Nat.le_div_iff_mul_le (by omega)).2 (by rw [h1, Nat.pow_zero]; omega)) h3
  · exact h
theorem dg_in {b : Nat} (acc : List Int) (r : Int) : vb b (acc ++ [r % b]) + (b : Int) ^ (acc.length + 1) * (r / b) = vb b acc + (b : Int) ^ acc.length * r := by
  rw [vb_append]
  simp only [vb]
  rw [Int.pow_succ, Int.mul_zero, Int.add_zero, Int.mul_assoc, Int.add_assoc, ← Int.mul_add, Int.emod_add_mul_ediv]
theorem dgr_lt {b n i : Nat} {r : Int} (hb : 2 ≤ b) (hi : i < n) (h0 : 0 ≤ r) (h : r < (b : Int) ^ (n - i)) : 0 ≤ r / b ∧ r / b < (b : Int) ^ (n - (i + 1)) := by
  refine ⟨Int.ediv_nonneg h0 (by omega), Int.ediv_lt_of_lt_mul (by omega) ?_⟩
  rw [← Int.pow_succ]
  rwa [show (n - (i + 1)).succ = n - i by omega]
/-- A limb's worth of digits is taken off. -/
theorem dg_out {b n : Nat} {acc acc' : List Int} {v r : Int} (hl : acc'.length = acc.length + n) (h : vb b acc' + (b : Int) ^ acc'.length * r = vb b acc + (b : Int) ^ acc.length * (v % ((b ^ n : Nat) : Int))) (hr : r = 0) : vb b acc' + (b : Int) ^ acc'.length * (v / ((b ^ n : Nat) : Int)) = vb b acc + (b : Int) ^ acc.length * v := by
  subst hr
  rw [Int.mul_zero, Int.add_zero] at h
  rw [h, hl, Int.pow_add, ← Int.natCast_pow b n, Int.mul_assoc, Int.add_assoc, ← Int.mul_add, Int.emod_add_mul_ediv]
theorem pB_pow : ∀ n, pB n = ((2 ^ (64 * n) : Nat) : Int)
  | 0 => rfl
  | n + 1 => by
    rw [pB, pB_pow n, show 64 * (n + 1) = 64 * n + 64 by omega, Nat.pow_add, Int.natCast_mul, Int.mul_comm]
    rfl
theorem dg_cap {b L : Nat} (hb : 2 ≤ b) {acc l : List Int} {v : Int} (hr : rng b acc) (hv : 0 < v) (hu : u64s l) (hL : l.length ≤ L) (h : vb b acc + (b : Int) ^ acc.length * v = vl l) : acc.length < 64 * L := by
  have h0 := vb_nonneg hr
  have hlt := vl_lt hu
  have e := pB_pow l.length
  have h1 : ((2 ^ acc.length : Nat) : Int) ≤ (b : Int) ^ acc.length := by
    rw [← Int.natCast_pow]
    exact_mod_cast Nat.pow_le_pow_left hb acc.length
  have h2 : (b : Int) ^ acc.length * 1 ≤ (b : Int) ^ acc.length * v := Int.mul_le_mul_of_nonneg_left (by omega) (by have : (0 : Int) ≤ ((2 ^ acc.length : Nat) : Int) := Int.natCast_nonneg _; omega)
  have h3 : ((2 ^ acc.length : Nat) : Int) < ((2 ^ (64 * l.length) : Nat) : Int) := by omega
  have h4 : acc.length < 64 * l.length := (Nat.pow_lt_pow_iff_right (by decide : 1 < 2)).1 (by exact_mod_cast h3)
  omega
theorem dg_rlt {b n : Nat} {v : Int} (hb : 2 ≤ b) : 0 ≤ v % ((b ^ n : Nat) : Int) ∧ v % ((b ^ n : Nat) : Int) < (b : Int) ^ (n - 0) := by
  have hp : (0 : Int) < ((b ^ n : Nat) : Int) := by exact_mod_cast Nat.pow_pos (by omega)
  refine ⟨Int.emod_nonneg _ (by omega), ?_⟩
  rw [Nat.sub_zero, ← Int.natCast_pow]
  exact Int.emod_lt_of_pos _ hp
theorem dg_zero {b : Nat} {r : Int} (h0 : 0 ≤ r) {n : Nat} (h : r < (b : Int) ^ (n - n)) : r = 0 := by
  rw [Nat.sub_self, Int.pow_zero] at h
  omega
theorem dg_less {v : Int} {b n : Nat} (hv : 0 < v) (hb : 2 ≤ b) (hn : 1 ≤ n) : (v / ((b ^ n : Nat) : Int)).toNat < v.toNat := by
  have hp : 2 ≤ b ^ n := Nat.le_trans (show 2 ≤ b ^ 1 by rw [Nat.pow_one]; exact hb) (Nat.pow_le_pow_right (by omega) hn)
  have h1 : v / ((b ^ n : Nat) : Int) < v := Int.ediv_lt_self_of_pos_of_ne_one hv (by omega)
  omega
theorem rng_take {b : Nat} {l : List Int} (h : rng b l) (k : Nat) : rng b (l.take k) := fun x hx => h x (List.mem_of_mem_take hx)
theorem take_pred {l : List Int} {k : Nat} (hk : 0 < k) (hl : k ≤ l.length) : l.take k = l.take (k - 1) ++ [l.getD (k - 1) 0] := by
  obtain ⟨j, rfl⟩ : ∃ j, k = j + 1 := ⟨k - 1, by omega⟩
  rw [Nat.add_sub_cancel, List.take_add_one, List.getD_eq_getElem?_getD, List.getElem?_eq_getElem (by omega)]
  rfl
theorem cut_step {b k : Nat} {acc : List Int} (hk : 0 < k) (hl : k ≤ acc.length) (h0 : acc.getD (k - 1) 0 = 0) : vb b (acc.take (k - 1)) = vb b (acc.take k) := by
  rw [take_pred hk hl, h0]
  exact (vb_app b (acc.take (k - 1)) 1).symm
theorem cut_digs {b k x : Nat} (hb : 2 ≤ b) {acc : List Int} (hl : k ≤ acc.length) (hr : rng b acc) (hv : vb b (acc.take k) = x) (ht : k = 0 ∨ acc.getD (k - 1) 0 ≠ 0) : acc.take k = digs b x := by
  have h := digs_of hb (rng_take hr k) (fun hne => by
    rcases ht with h | h
    · subst h; exact absurd rfl hne
    · have hk : 0 < k := by
        rcases Nat.eq_zero_or_pos k with e | e
        · subst e; exact absurd rfl hne
        · exact e
      rw [List.length_take, Nat.min_eq_left hl, List.getD_eq_getElem?_getD, List.getElem?_take, if_pos (by omega), ← List.getD_eq_getElem?_getD]
      exact h)
  rw [← h, hv, Int.toNat_natCast]
theorem pad_end {b m k x : Nat} {C : List Int} (h1 : C.take k = digs b x ++ List.replicate (k - (digs b x).length) 0) (h2 : (digs b x).length ≤ k) (h3 : m ≤ k) (h4 : k ≤ max m (digs b x).length) : C.take k = padD b m x := by
  rw [h1, padD]
  congr 2
  omega
theorem pad_step {D C C' : List Int} {k : Nat} (hD : D.length ≤ k) (h1 : C.take k = D ++ List.replicate (k - D.length) 0) (h2 : C'.take (k + 1) = C.take k ++ [0]) : C'.take (k + 1) = D ++ List.replicate (k + 1 - D.length) 0 := by
  rw [h2, h1, List.append_assoc, show k + 1 - D.length = (k - D.length) + 1 by omega, List.replicate_succ']
theorem getT {C acc : List Int} {j : Nat} (h : C.take acc.length = acc) (hj : j < acc.length) : C.getD ((0 + j) * 1) 0 = acc.getD j 0 := by
  have e : acc.getD j 0 = (C.take acc.length).getD j 0 := by rw [h]
  rw [e, Nat.zero_add, Nat.mul_one, List.getD_eq_getElem?_getD, List.getD_eq_getElem?_getD, List.getElem?_take, if_pos hj]
theorem takeT {C acc : List Int} {k : Nat} (h : C.take acc.length = acc) (hk : k ≤ acc.length) : C.take k = acc.take k := by
  have := congrArg (List.take k) h
  rw [List.take_take, Nat.min_eq_left hk] at this
  exact this
/-- Filled from the end. -/
def revI (B : List Int) (i : Nat) : List Int := List.replicate (B.length - i) 0 ++ (B.take i).reverse
theorem revI_0 (B : List Int) : revI B 0 = List.replicate B.length 0 := by simp [revI]
theorem revI_len {B : List Int} {i : Nat} (h : i ≤ B.length) : (revI B i).length = B.length := by simp [revI]; omega
theorem revI_all (B : List Int) : revI B B.length = B.reverse := by simp [revI]
theorem revI_set {B : List Int} {i : Nat} (h : i < B.length) : (revI B i).set (B.length - 1 - i) (B.getD i 0) = revI B (i + 1) := by
  have e : B.take (i + 1) = B.take i ++ [B.getD i 0] := by
    have := take_pred (l := B) (k := i + 1) (by omega) (by omega)
    rwa [Nat.add_sub_cancel] at this
  unfold revI
  obtain ⟨j, hj⟩ : ∃ j, B.length - 1 - i = j := ⟨_, rfl⟩
  rw [hj, show B.length - i = j + 1 by omega, show B.length - (i + 1) = j by omega, e, List.reverse_append, List.replicate_succ', List.append_assoc, List.set_append_right _ _ (by simp)]
  simp
end Go.Proofs.Ytcfdclehmpfkcaa.Vc

/- The powers by which great numbers are parted; what the parts' digits make. -/
namespace Go.Proofs.Ytcfdclehmpfkcaa.Vc
open Go Go.RowKit
def pwV (b k : Nat) : V := .n true .u64 (lm ((b ^ 2 ^ k : Nat) : Int))
def pwR (b K : Nat) : List (List V) := (List.range K).map fun k => [pwV b k]
theorem pw_length {b K : Nat} : (pwR b K).length = K := by simp [pwR]
theorem pw_snoc {b K : Nat} : (pwR b K).flatten ++ [pwV b K] = (pwR b (K + 1)).flatten := by
  unfold pwR
  rw [List.range_succ, List.map_append, List.flatten_append]
  rfl
theorem pw_one {b : Nat} : [pwV b 0] = (pwR b 1).flatten := rfl
theorem pw_mono {b j k : Nat} (hb : 2 ≤ b) (h : j ≤ k) : lenV ((b ^ 2 ^ j : Nat) : Int) ≤ lenV ((b ^ 2 ^ k : Nat) : Int) := by
  refine lenV_mono ?_
  rw [Int.natAbs_natCast, Int.natAbs_natCast]
  exact Nat.pow_le_pow_right (by omega) (Nat.pow_le_pow_right (by decide) h)
theorem pw_big {b k : Nat} {v : Int} (hv : lenV v ≤ 67108864) (h0 : 0 ≤ v) (h : 67108864 < lenV ((b ^ 2 ^ k : Nat) : Int)) : v.toNat < b ^ 2 ^ k := by
  rcases Nat.lt_or_ge v.toNat (b ^ 2 ^ k) with h1 | h1
  · exact h1
  · have := lenV_mono (v := ((b ^ 2 ^ k : Nat) : Int)) (w := v) (by rw [Int.natAbs_natCast]; omega)
    omega
theorem errL_len {x : Int} {r : List Int} {e : Int} (h : ErrL x r e) : r.length ≤ 1048576 := by
  rcases h with ⟨_, h, hh⟩ | ⟨_, h, _⟩
  · rw [h]; exact lenV_lm hh
  · rw [h]; simp
theorem errL_u {x : Int} {r : List Int} {e : Int} (h : ErrL x r e) : u64s r := by
  rcases h with ⟨_, h, hh⟩ | ⟨_, h, _⟩
  · rw [h]; exact lm_u _
  · rw [h]; exact fun x hx => by simp at hx
theorem errL_ne {x : Int} {r : List Int} {e : Int} (h : ErrL x r e) (he : e ≠ 0) : 67108864 < lenV x := by
  rcases h with ⟨h, _⟩ | ⟨_, _, h⟩
  · exact absurd h he
  · exact h
theorem errL_eq {x : Int} {r : List Int} {e : Int} (h : ErrL x r e) (he : e = 0) : r = lm x ∧ lenV x ≤ 67108864 := by
  rcases h with ⟨_, h⟩ | ⟨h, _⟩
  · exact h
  · omega
theorem pw_at {b K k : Nat} (h : k < K) : (pwR b K)[k]? = some [pwV b k] := by
  unfold pwR
  rw [List.getElem?_map, List.getElem?_range h]; rfl
theorem pw_flat {b : Nat} : ∀ K, (pwR b K).flatten = (List.range K).map (pwV b)
  | 0 => rfl
  | K + 1 => by rw [← pw_snoc, pw_flat K, List.range_succ, List.map_append]; rfl
theorem pw_flen {b K : Nat} : (pwR b K).flatten.length = K := by rw [pw_flat]; simp
theorem pw_fat {b K k : Nat} (h : k < K) : (pwR b K).flatten[k]? = some (pwV b k) := by
  rw [pw_flat, List.getElem?_map, List.getElem?_range h]; rfl
theorem pw_sz {b K : Nat} : ∀ r ∈ pwR b K, r.length = 1 := fun r hr => by
  obtain ⟨k, _, rfl⟩ := List.mem_map.1 hr; rfl
theorem pw_pure {b K : Nat} : ∀ r ∈ pwR b K, r.all pureV = true := fun r hr => by
  obtain ⟨k, _, rfl⟩ := List.mem_map.1 hr; rfl
theorem pw_id {b K n : Nat} : (pwR b K).flatten.all (idB n) = true := by
  rw [pw_flat, List.all_map, List.all_eq_true]; intro x _; rfl
theorem pw_pos {b k : Nat} (hb : 2 ≤ b) : 0 < b ^ 2 ^ k := Nat.pow_pos (by omega)
theorem pw_sq {b k : Nat} : b ^ 2 ^ k * b ^ 2 ^ k = b ^ 2 ^ (k + 1) := by
  rw [← Nat.pow_add]; congr 1; rw [Nat.pow_succ]; omega
theorem pw_sqI {b k : Nat} : vl (lm ((b ^ 2 ^ k : Nat) : Int)) * vl (lm ((b ^ 2 ^ k : Nat) : Int)) = ((b ^ 2 ^ (k + 1) : Nat) : Int) := by
  rw [vl_lm (Int.natCast_nonneg _), ← Int.natCast_mul, pw_sq]
/-- So many powers are no greater than a number: few they are. -/
theorem pw_cap {b k x L : Nat} (hb : 2 ≤ b) (h : b ^ 2 ^ k ≤ x) (hx : x < 2 ^ L) : 2 ^ k < L := by
  have h1 : 2 ^ 2 ^ k ≤ b ^ 2 ^ k := Nat.pow_le_pow_left hb _
  exact (Nat.pow_lt_pow_iff_right (by decide : 1 < 2)).1 (Nat.lt_of_le_of_lt h1 (Nat.lt_of_le_of_lt h hx))
theorem pw_cap26 {b k x : Nat} (hb : 2 ≤ b) (h : b ^ 2 ^ k ≤ x) (hx : x < 2 ^ 67108864) : k ≤ 26 := by
  have h1 := pw_cap hb h hx
  have h2 : 2 ^ k < 2 ^ 26 := h1
  have := (Nat.pow_lt_pow_iff_right (by decide : 1 < 2)).1 h2
  omega
theorem two_cap {k n : Nat} (h : k ≤ n) : 2 ^ k ≤ 2 ^ n := Nat.pow_le_pow_right (by decide) h
theorem nat_of {l : List Int} (hu : u64s l) : ((vl l).toNat : Int) = vl l := Int.toNat_of_nonneg (vl_nonneg hu)
theorem lenV_pow {v : Int} {L : Nat} (h0 : 0 ≤ v) (h : lenV v ≤ L) : v.toNat < 2 ^ L := by
  have h1 : v.natAbs < 2 ^ L := nbits_le.1 h
  have : v.toNat = v.natAbs := by omega
  omega
theorem digs_le_len {b : Nat} {l : List Int} (hu : u64s l) (hb : 2 ≤ b) : (digs b (vl l).toNat).length ≤ 64 * l.length := by
  refine digs_len hb _ _ ?_
  have h := vl_lt hu
  have h0 := vl_nonneg hu
  rw [pB_pow] at h
  have h1 : (vl l).toNat < 2 ^ (64 * l.length) := by omega
  exact Nat.lt_of_lt_of_le h1 (Nat.pow_le_pow_left hb _)
theorem part_q {b j x : Nat} (h : x < b ^ 2 ^ (j + 1)) : x / b ^ 2 ^ j < b ^ 2 ^ j := by
  rw [← pw_sq] at h
  exact Nat.div_lt_of_lt_mul h
theorem part_r {b j x : Nat} (hb : 2 ≤ b) : x % b ^ 2 ^ j < b ^ 2 ^ j := Nat.mod_lt _ (pw_pos hb)
theorem part_join {b j x : Nat} (hb : 2 ≤ b) (h : x < b ^ 2 ^ (j + 1)) : hdg b (2 ^ j) (x / b ^ 2 ^ j) ++ hdg b (2 ^ j) (x % b ^ 2 ^ j) = hdg b (2 ^ (j + 1)) x := by
  rw [hdg_app hb (part_q h) (part_r hb), Nat.div_add_mod' x]
  congr 1; rw [Nat.pow_succ]; omega
theorem qn_nat2 {v : Int} {p x : Nat} (h : v = (x : Int)) : (vl (lm (qn v (p : Int)))).toNat = x / p := by
  subst h
  rw [show qn (x : Int) (p : Int) = ((x / p : Nat) : Int) from by unfold qn; simp, vl_lm (Int.natCast_nonneg _)]; rfl
theorem rn_nat2 {v : Int} {p x : Nat} (h : v = (x : Int)) : (vl (lm (rn v (p : Int)))).toNat = x % p := by
  subst h
  rw [show rn (x : Int) (p : Int) = ((x % p : Nat) : Int) from by unfold rn; simp, vl_lm (Int.natCast_nonneg _)]; rfl
/-- Where the noughts at the front end. -/
theorem cut_at {b m x i : Nat} (hb : 2 ≤ b) (hx : x ≠ 0) (hm : (digs b x).length ≤ m) (hi : i ≤ m - (digs b x).length) (hend : (hdg b m x).length - 1 ≤ i ∨ (hdg b m x).getD i 0 ≠ 0) : i = m - (digs b x).length := by
  have h1 : 0 < (digs b x).length := List.length_pos_iff.2 (digs_ne hb hx)
  rcases hend with h | h
  · rw [hdg_le] at h; omega
  · rcases Nat.lt_or_ge i (m - (digs b x).length) with hlt | hge
    · exfalso
      apply h
      rw [hdg_cut hb hx, List.getD_eq_getElem?_getD, List.getElem?_append_left (by simpa using hlt), List.getElem?_replicate, if_pos hlt]
      rfl
    · omega
theorem cut_next {b m x i : Nat} (hb : 2 ≤ b) (hx : x ≠ 0) (hm : (digs b x).length ≤ m) (hi : i ≤ m - (digs b x).length) (h0 : (hdg b m x).getD i 0 = 0) : i + 1 ≤ m - (digs b x).length := by
  rcases Nat.lt_or_ge i (m - (digs b x).length) with hlt | hge
  · exact hlt
  · exfalso
    obtain rfl : i = m - (digs b x).length := by omega
    apply hdg_head hb hx
    rw [hdg_cut hb hx, List.getD_eq_getElem?_getD, List.getElem?_append_right (by simp)] at h0
    simpa using h0
theorem cut_drop {b m x : Nat} (hb : 2 ≤ b) (hx : x ≠ 0) : (hdg b m x).drop (m - (digs b x).length) = hdg b 1 x := by
  rw [hdg_cut hb hx, List.drop_append_of_le_length (by simp)]
  simp
end Go.Proofs.Ytcfdclehmpfkcaa.Vc

/- The letters of digits; texts of digits: which stands later; in plain Lean. -/
namespace Go.Proofs.Ytcfdclehmpfkcaa.Vc
open Go Go.RowKit
def ltrTab : ByteArray := ⟨#[48, 49, 50, 51, 52, 53, 54, 55, 56, 57, 97, 98, 99, 100, 101, 102, 103, 104, 105, 106, 107, 108, 109, 110, 111, 112, 113, 114, 115, 116, 117, 118, 119, 120, 121, 122]⟩
def ltr (x : Int) : Int := byteAt ltrTab x.toNat
def ltrB (x : Int) : UInt8 := UInt8.ofNat (ltr x).toNat
def txt (l : List Int) : ByteArray := ⟨(l.map ltrB).toArray⟩
theorem ltr_rng (x : Int) : 0 ≤ ltr x ∧ ltr x < 256 := byteAt_range _ _
theorem ltrB_to (x : Int) : ((ltrB x).toNat : Int) = ltr x := by
  have h := ltr_rng x
  unfold ltrB
  rw [UInt8.toNat_ofNat_of_lt' (by show (ltr x).toNat < 256; omega)]
  omega
theorem txt_I (l : List Int) : bytesI (txt l) = l.map ltr := by
  unfold bytesI txt
  rw [List.toList_toArray, List.map_map]
  exact List.map_congr_left fun x _ => ltrB_to x
theorem txt_size (l : List Int) : (txt l).size = l.length := by
  have := bytesI_len (txt l)
  rw [txt_I, List.length_map] at this
  omega
theorem txt_getD {l : List Int} {i : Nat} (h : i < l.length) : (l.map ltr).getD i 0 = ltr (l.getD i 0) := by
  rw [List.getD_eq_getElem?_getD, List.getElem?_map, List.getD_eq_getElem?_getD, List.getElem?_eq_getElem h]; rfl
theorem rng36 {b : Nat} (hb : b ≤ 36) {l : List Int} (h : rng b l) : rng 36 l := fun x hx => by have := h x hx; omega
end Go.Proofs.Ytcfdclehmpfkcaa.Vc

/- What digits and texts say, in plain Lean. -/
namespace Go.Proofs.Ytcfdclehmpfkcaa.Vc
open Go Go.RowKit
/-- The number that digits say, the highest first. -/
def hv (b : Nat) (l : List Int) : Int := vb b l.reverse
theorem hv_nil {b : Nat} : hv b [] = 0 := rfl
theorem hv_snoc {b : Nat} {l : List Int} {d : Int} : hv b (l ++ [d]) = hv b l * b + d := by
  unfold hv
  rw [List.reverse_append]
  show d + (b : Int) * vb b l.reverse = _
  rw [Int.mul_comm, Int.add_comm]
theorem hv_app {b : Nat} (l m : List Int) : hv b (l ++ m) = hv b l * (b : Int) ^ m.length + hv b m := by
  unfold hv
  rw [List.reverse_append, vb_append, List.length_reverse, Int.add_comm, Int.mul_comm]
theorem hv_step {b i : Nat} {l : List Int} (h : i < l.length) : hv b (l.take (i + 1)) = hv b (l.take i) * b + l.getD i 0 := by
  have := take_pred (l := l) (k := i + 1) (by omega) (by omega)
  rw [Nat.add_sub_cancel] at this
  rw [this, hv_snoc]
theorem rng_rev {b : Nat} {l : List Int} (h : rng b l) : rng b l.reverse := fun x hx => h x (List.mem_reverse.1 hx)
theorem hv_nonneg {b : Nat} {l : List Int} (h : rng b l) : 0 ≤ hv b l := vb_nonneg (rng_rev h)
theorem hv_lt {b : Nat} {l : List Int} (h : rng b l) : hv b l < (b : Int) ^ l.length := by
  have := vb_lt (rng_rev h)
  rwa [List.length_reverse] at this
theorem hv_12 {b : Nat} {l : List Int} (hb : b ≤ 36) (hb0 : 2 ≤ b) (h : rng b l) (hl : l.length ≤ 12) : hv b l < 4738381338321616896 := by
  have h1 := hv_lt h
  have h2 : b ^ l.length ≤ 36 ^ 12 := Nat.le_trans (Nat.pow_le_pow_left hb _) (Nat.pow_le_pow_right (by decide) hl)
  have h3 : (b : Int) ^ l.length = ((b ^ l.length : Nat) : Int) := by simp
  rw [h3] at h1
  have h4 : (36 : Nat) ^ 12 = 4738381338321616896 := by decide
  omega
theorem hv_drop1 {b : Nat} {l : List Int} (h0 : l.getD 0 0 = 0) : hv b (l.drop 1) = hv b l := by
  cases l with
  | nil => rfl
  | cons x l =>
    have : x = 0 := h0
    subst this
    unfold hv
    rw [List.reverse_cons]
    exact (vb_app b l.reverse 1).symm
theorem hv_dropI {b i : Nat} {l : List Int} (h0 : (l.drop i).getD 0 0 = 0) (h : hv b (l.drop i) = hv b l) : hv b (l.drop (i + 1)) = hv b l := by
  rw [← h, ← hv_drop1 (l := l.drop i) h0, List.drop_drop]
theorem rng_drop {b : Nat} {l : List Int} (h : rng b l) (k : Nat) : rng b (l.drop k) := fun x hx => h x (List.mem_of_mem_drop hx)
/-- A byte as a digit; 36: none. -/
def dgv (c : Int) : Int := if 48 ≤ c ∧ c ≤ 57 then c - 48 else if 97 ≤ c ∧ c ≤ 122 then c - 97 + 10 else 36
theorem dgv_rng {c : Int} (h0 : 0 ≤ c) (h1 : c < 256) : 0 ≤ dgv c ∧ dgv c ≤ 36 := by
  unfold dgv; split <;> (try split) <;> omega
def dgs (s : ByteArray) : List Int := (bytesI s).map dgv
theorem dgs_len (s : ByteArray) : (dgs s).length = s.size := by simp [dgs, bytesI_len]
theorem bytesI_getD {s : ByteArray} {i : Nat} (h : i < s.size) : (bytesI s).getD i 0 = byteAt s i := by
  unfold bytesI byteAt
  rw [dif_pos h, List.getD_eq_getElem?_getD, List.getElem?_map, Array.getElem?_toList, Array.getElem?_eq_getElem (by simpa using h)]
  rfl
theorem dgs_getD {s : ByteArray} {i : Nat} (h : i < s.size) : (dgs s).getD i 0 = dgv (byteAt s i) := by
  unfold dgs
  rw [List.getD_eq_getElem?_getD, List.getElem?_map]
  have h1 := bytesI_getD h
  rw [List.getD_eq_getElem?_getD] at h1
  have h2 : i < (bytesI s).length := by rw [bytesI_len]; exact h
  rw [List.getElem?_eq_getElem h2] at h1 ⊢
  rw [← h1]; rfl
theorem dgv_ltr {x : Int} (h0 : 0 ≤ x) (h1 : x < 36) : dgv (ltr x) = x := by
  obtain ⟨a, rfl⟩ : ∃ a : Nat, x = a := ⟨x.toNat, by omega⟩
  have key : ∀ a : Fin 36, dgv (ltr (a.val : Int)) = (a.val : Int) := by decide +kernel
  exact key ⟨a, by omega⟩
theorem dgs_txt {l : List Int} (h : rng 36 l) : dgs (txt l) = l := by
  unfold dgs
  rw [txt_I, List.map_map]
  conv => rhs; rw [← List.map_id l]
  exact List.map_congr_left fun x hx => dgv_ltr (h x hx).1 (h x hx).2
end Go.Proofs.Ytcfdclehmpfkcaa.Vc

/- The order of numbers and the order of their texts, in plain Lean. -/
namespace Go.Proofs.Ytcfdclehmpfkcaa.Vc
open Go Go.RowKit
theorem hv_cons {b : Nat} {x : Int} {l : List Int} : hv b (x :: l) = x * (b : Int) ^ l.length + hv b l := by
  have := hv_app (b := b) [x] l
  rw [List.singleton_append] at this
  rw [this]
  congr 1
  unfold hv; simp [vb]
def ordW (s t : ByteArray) : Int := if s.size < t.size ∨ (s.size = t.size ∧ Op.bytesLess s.toList t.toList = true) then -1 else if s = t then 0 else 1
end Go.Proofs.Ytcfdclehmpfkcaa.Vc

/- Powers, and numbers of many digits, in plain Lean. -/
namespace Go.Proofs.Ytcfdclehmpfkcaa.Vc
open Go Go.RowKit
theorem and1i {n : Nat} (h1 : n < 9223372036854775808) : bitop .and .i64 (n : Int) 1 = ((n % 2 : Nat) : Int) := by
  unfold bitop
  simp only [IntKind.bits]
  have e1 : (BitVec.ofInt 64 (n : Int)).toNat = n := by
    rw [BitVec.toNat_ofInt]; simp; omega
  have e2 : (BitVec.ofInt 64 1).toNat = 1 := by decide
  have e3 : (BitVec.ofInt 64 (n : Int) &&& BitVec.ofInt 64 1).toNat = n % 2 := by
    rw [BitVec.toNat_and, e1, e2]
    simp
  show IntKind.i64.wrap (((BitVec.ofInt 64 (n : Int) &&& BitVec.ofInt 64 1).toNat : Nat) : Int) = _
  rw [e3, wrap_i64 (by omega) (by omega)]
def PW (v n : Nat) : Int := ((v ^ n : Nat) : Int)
theorem PW_0 {v : Nat} : PW v 0 = 1 := rfl
theorem PW_1 {v : Nat} : PW v 1 = v := by unfold PW; rw [Nat.pow_one]
theorem PW_nn {v n : Nat} : 0 ≤ PW v n := Int.natCast_nonneg _
theorem PW_pos {v n : Nat} (hv : 2 ≤ v) : PW v n ≠ 0 := by
  have := Nat.pow_pos (n := n) (show 0 < v by omega)
  unfold PW; omega
theorem PW_add {v m n : Nat} : PW v m * PW v n = PW v (m + n) := by
  unfold PW; rw [← Int.natCast_mul, Nat.pow_add]
theorem PW_sq {v m : Nat} : vl (lm (PW v m)) * vl (lm (PW v m)) = PW v (2 * m) := by
  rw [vl_lm PW_nn, PW_add]; congr 1; omega
theorem PW_s {v m : Nat} : vl (lm (PW v m)) * vl (lm (v : Int)) = PW v (m + 1) := by
  rw [vl_lm PW_nn, vl_lm (Int.natCast_nonneg _), ← PW_1 (v := v), PW_add]
theorem PW_mono {v m n : Nat} (hv : 2 ≤ v) (h : m ≤ n) : lenV (PW v m) ≤ lenV (PW v n) := by
  refine lenV_mono ?_
  unfold PW
  rw [Int.natAbs_natCast, Int.natAbs_natCast]
  exact Nat.pow_le_pow_right (by omega) h
theorem errL_fit {x : Int} {r : List Int} {e : Int} (h : ErrL x r e) (hx : lenV x ≤ 67108864) : r = lm x ∧ e = 0 := by
  rcases h with ⟨h, h2, _⟩ | ⟨_, _, h⟩
  · exact ⟨h2, h⟩
  · omega
theorem lenV_ge {x : Int} {k : Nat} (h : 2 ^ k ≤ x.natAbs) : k + 1 ≤ lenV x := by
  unfold lenV
  rcases Nat.lt_or_ge (nbits x.natAbs) (k + 1) with h1 | h1
  · have := nbits_le.1 (show nbits x.natAbs ≤ k by omega)
    omega
  · exact h1
theorem lenV_pw {x : Int} (h : x ≠ 0) : 2 ^ (lenV x - 1) ≤ x.natAbs := by
  rcases Nat.lt_or_ge x.natAbs (2 ^ (lenV x - 1)) with h1 | h1
  · have h2 := nbits_le.2 h1
    have h3 : nbits x.natAbs = lenV x := rfl
    have h4 : 0 < lenV x := nbits_pos (by omega)
    omega
  · exact h1
theorem lenV_2 {v : Nat} (hv : 2 ≤ v) : 2 ≤ lenV (v : Int) := lenV_ge (k := 1) (by rw [Int.natAbs_natCast]; exact hv)
theorem PW_len {v n : Nat} (hv : 2 ≤ v) : (lenV (v : Int) - 1) * n + 1 ≤ lenV (PW v n) := by
  refine lenV_ge ?_
  have h := lenV_pw (x := (v : Int)) (by omega)
  rw [Int.natAbs_natCast] at h
  unfold PW
  rw [Int.natAbs_natCast, Nat.pow_mul]
  exact Nat.pow_le_pow_left h n
theorem PW_n {v n : Nat} (hv : 2 ≤ v) : n + 1 ≤ lenV (PW v n) := by
  have h1 := PW_len (n := n) hv
  have h2 := lenV_2 hv
  have h3 : 1 * n ≤ (lenV (v : Int) - 1) * n := Nat.mul_le_mul_right n (by omega)
  omega
/-- Numbers of few digits have few bits. -/
theorem lenV_digK {b n K : Nat} {x : Int} (hb : b ≤ 36) (hb0 : 2 ≤ b) (h0 : 0 ≤ x) (hx : x ≤ PW b n) (hK : 6 * n < K) : lenV x ≤ K := by
  refine nbits_le.2 ?_
  have h1 : b ^ n ≤ 2 ^ (6 * n) := by
    rw [Nat.pow_mul]
    exact Nat.pow_le_pow_left (by omega) n
  have h4 : x.natAbs ≤ b ^ n := by unfold PW at hx; omega
  exact Nat.lt_of_le_of_lt (Nat.le_trans h4 h1) (Nat.pow_lt_pow_right (by decide) hK)
theorem lenV_dig {b n : Nat} {x : Int} (hb : b ≤ 36) (hb0 : 2 ≤ b) (h0 : 0 ≤ x) (hx : x ≤ PW b n) (hn : n ≤ 2097152) : lenV x ≤ 16777216 := lenV_digK hb hb0 h0 hx (by omega)
theorem PW_fit {b n : Nat} (hb : b ≤ 36) (hb0 : 2 ≤ b) (hn : n ≤ 2097152) : lenV (PW b n) ≤ 16777216 := lenV_dig hb hb0 PW_nn (Int.le_refl _) hn
theorem hv_fit {b : Nat} {l : List Int} (hb : b ≤ 36) (hb0 : 2 ≤ b) (hr : rng b l) (hl : l.length ≤ 2097152) : lenV (hv b l) ≤ 16777216 := by
  refine lenV_dig (n := l.length) hb hb0 (hv_nonneg hr) ?_ hl
  have h := hv_lt hr
  rw [show (b : Int) ^ l.length = PW b l.length by unfold PW; simp] at h
  omega
theorem hv_split {b k : Nat} (l : List Int) (hk : k ≤ l.length) : hv b l = hv b (l.take (l.length - k)) * PW b k + hv b (l.drop (l.length - k)) := by
  have h := hv_app (b := b) (l.take (l.length - k)) (l.drop (l.length - k))
  rw [List.take_append_drop, List.length_drop, show l.length - (l.length - k) = k by omega] at h
  rw [h, show (b : Int) ^ k = PW b k by unfold PW; simp]
/-- What the map of powers keeps. -/
def cF (b n : Nat) : V := .n false .u64 (lm (PW b n))
end Go.Proofs.Ytcfdclehmpfkcaa.Vc

/- Digits one by one, texts letter by letter, in plain Lean. -/
namespace Go.Proofs.Ytcfdclehmpfkcaa.Vc
open Go Go.RowKit
theorem dgk_end {b x k : Nat} (hb : 2 ≤ b) (h : x / b ^ k = 0) : (digs b x).length ≤ k := by
  have hp : 0 < b ^ k := Nat.pow_pos (by omega)
  exact digs_len hb k x ((Nat.div_eq_zero_iff_lt hp).1 h)
theorem dgk_pos {b x k : Nat} (hb : 2 ≤ b) (h : x / b ^ k ≠ 0) : k < (digs b x).length := by
  rcases Nat.lt_or_ge k (digs b x).length with h1 | h1
  · exact h1
  · refine absurd ?_ h
    have h2 := vb_lt (rng_digs hb x)
    rw [vb_digs hb] at h2
    have h3 : x < b ^ (digs b x).length := by exact_mod_cast h2
    exact Nat.div_eq_of_lt (Nat.lt_of_lt_of_le h3 (Nat.pow_le_pow_right (by omega) h1))
theorem digs_one {r : Nat} (h0 : r ≠ 0) (h : r < B32) : digs B32 r = [(r : Int)] := by rw [digs_pos (by decide) h0, Nat.mod_eq_of_lt h, Nat.div_eq_of_lt h, digs_0]
theorem hdg_rev {b x : Nat} (hb : 2 ≤ b) (hx : x ≠ 0) : hdg b 1 x = (digs b x).reverse := by
  have h := List.length_pos_iff.2 (digs_ne hb hx)
  rw [hdg, padD, show 1 - (digs b x).length = 0 by omega]
  simp
theorem rOf_v {l : List Int} (hu : u64s l) : trm (dig l) = digs B32 (vl l).toNat := by
  rw [trm_dig (s := false) hu rfl]
  show digs 4294967296 (vl l).natAbs = digs 4294967296 (vl l).toNat
  have := vl_nonneg hu
  rw [show (vl l).natAbs = (vl l).toNat by omega]
theorem rInt_v {v : Nat} (h : v < 18446744073709551616) : trm (dig [(v : Int)]) = digs B32 v := by
  rw [rOf_v (fun x hx => by simp at hx; subst hx; omega), show (vl [(v : Int)]).toNat = v by simp [vl]]
theorem digs_dg {v : Int} (h : 0 ≤ v) : digs B32 v.toNat = dg v := by
  show digs 4294967296 v.toNat = digs 4294967296 v.natAbs
  rw [show v.natAbs = v.toNat by omega]
theorem digs_le_32 {b x n : Nat} (hb : 2 ≤ b) (h : x < 2 ^ n) : (digs b x).length ≤ n := digs_len hb n x (Nat.lt_of_lt_of_le h (Nat.pow_le_pow_left hb n))
end Go.Proofs.Ytcfdclehmpfkcaa.Vc

/- Noughts ahead of digits, places behind a point, in plain Lean. -/
namespace Go.Proofs.Ytcfdclehmpfkcaa.Vc
open Go Go.RowKit
def padZ (l : List Int) (j : Nat) : List Int := List.replicate j 0 ++ l
def zfill (m i : Nat) : List Int := List.replicate i 48 ++ List.replicate (m - i) 0
/-- What stands ahead of the point, and behind it. -/
def ptx (s : ByteArray) (k : Nat) : ByteArray := s.extract 0 (s.size - k) ++ ⟨#[46]⟩ ++ s.extract (s.size - k) s.size
end Go.Proofs.Ytcfdclehmpfkcaa.Vc

/- Digits whose number fits, in plain Lean. -/
namespace Go.Proofs.Ytcfdclehmpfkcaa.Vc
open Go Go.RowKit
theorem hv_lead {b : Nat} {l : List Int} (hb : 2 ≤ b) (hr : rng b l) (h0 : l.getD 0 0 ≠ 0) : PW b (l.length - 1) ≤ hv b l := by
  cases l with
  | nil => exact absurd rfl h0
  | cons x l =>
    rw [hv_cons]
    have hx := hr x (List.mem_cons_self ..)
    have h1 : x ≠ 0 := h0
    have h2 := hv_nonneg (b := b) (l := l) fun y hy => hr y (List.mem_cons_of_mem _ hy)
    have h3 : (0 : Int) < (b : Int) ^ l.length := Int.pow_pos (by omega)
    have h4 : 1 * (b : Int) ^ l.length ≤ x * (b : Int) ^ l.length := Int.mul_le_mul_of_nonneg_right (by omega) (by omega)
    show PW b l.length ≤ _
    unfold PW
    rw [Int.natCast_pow]
    omega
theorem PW_small {b n : Nat} (hb : b ≤ 36) (hb0 : 2 ≤ b) (hn : n ≤ 2097152) : lenV (PW b n) ≤ 67108864 := Nat.le_trans (PW_fit hb hb0 hn) (by decide)
theorem lead_len {b : Nat} {l : List Int} (hb : 2 ≤ b) (hr : rng b l) (hf : lenV (hv b l) ≤ 67108864) (hd : l.length = 0 ∨ l.getD 0 0 ≠ 0) : l.length ≤ 67108864 := by
  rcases hd with h | h
  · omega
  · have h1 := hv_lead hb hr h
    have h2 := PW_n (n := l.length - 1) hb
    have h3 : lenV (PW b (l.length - 1)) ≤ lenV (hv b l) := lenV_mono (by have := PW_nn (v := b) (n := l.length - 1); omega)
    omega
theorem lead_fit {b : Nat} {l : List Int} (hb : 2 ≤ b) (hb2 : b ≤ 36) (hr : rng b l) (hf : lenV (hv b l) ≤ 67108864) (hd : l.length = 0 ∨ l.getD 0 0 ≠ 0) : lenV (PW b ((l.length + 1) / 2)) ≤ 67108864 := by
  by_cases h1 : l.length ≤ 1
  · exact PW_small hb2 hb (by omega)
  · have h2 : l.getD 0 0 ≠ 0 := hd.resolve_left (by omega)
    have h3 := hv_lead hb hr h2
    refine Nat.le_trans (PW_mono hb (m := (l.length + 1) / 2) (n := l.length - 1) (by omega)) (Nat.le_trans (lenV_mono ?_) hf)
    have := PW_nn (v := b) (n := l.length - 1)
    omega
theorem half_fit {b : Nat} {l : List Int} {k : Nat} (hb : 2 ≤ b) (hr : rng b l) (hk : k ≤ l.length) (hf : lenV (hv b l) ≤ 67108864) :
    lenV (hv b (l.take (l.length - k))) ≤ 67108864 ∧ lenV (hv b (l.drop (l.length - k))) ≤ 67108864 ∧ lenV (hv b (l.take (l.length - k)) * PW b k) ≤ 67108864 := by
  have h1 := hv_split (b := b) (k := k) l hk
  have h2 := hv_nonneg (rng_take hr (l.length - k))
  have h3 := hv_nonneg (rng_drop hr (l.length - k))
  have h4 := PW_nn (v := b) (n := k)
  have h5 := PW_pos (v := b) (n := k) hb
  have h6 : hv b (l.take (l.length - k)) * 1 ≤ hv b (l.take (l.length - k)) * PW b k := Int.mul_le_mul_of_nonneg_left (by omega) h2
  exact ⟨Nat.le_trans (lenV_mono (by omega)) hf, Nat.le_trans (lenV_mono (by omega)) hf, Nat.le_trans (lenV_mono (by omega)) hf⟩
theorem rng_getD' {b i : Nat} {l : List Int} (hr : rng b l) (h : i < l.length) : 0 < b := by
  have := hr _ (List.getElem_mem h)
  omega
theorem digs_lenV {x : Int} (h0 : 0 ≤ x) : (digs B32 x.toNat).length ≤ lenV x := by
  have h := nbits_le.1 (Nat.le_refl (lenV x))
  exact digs_le_32 (by decide) (Nat.lt_of_le_of_lt (by omega) h)
theorem hv_nat {b i : Nat} {l : List Int} (hr : rng b l) (h : i < l.length) : (hv b (l.take (i + 1))).toNat = (hv b (l.take i)).toNat * b + (l.getD i 0).toNat := by
  have h1 := hv_step (b := b) h
  have h2 := hv_nonneg (rng_take hr i)
  have hb : 0 < b := rng_getD' hr h
  have h3 := (rng_getD hb hr i).1
  rw [h1]
  obtain ⟨x, hx⟩ := Int.eq_ofNat_of_zero_le h2
  obtain ⟨y, hy⟩ := Int.eq_ofNat_of_zero_le h3
  rw [hx, hy]
  rw [← Int.natCast_mul, ← Int.natCast_add]
  rfl
end Go.Proofs.Ytcfdclehmpfkcaa.Vc

/- Decimal texts of whole numbers, in plain Lean. -/
namespace Go.Proofs.Ytcfdclehmpfkcaa.Vc
open Go Go.RowKit
def wtxt (v : Int) : ByteArray := if v < 0 then (⟨#[45]⟩ : ByteArray) ++ txt (hdg 10 1 v.natAbs) else txt (hdg 10 1 v.natAbs)
theorem ext1 (c : UInt8) (t : ByteArray) : ((⟨#[c]⟩ : ByteArray) ++ t).extract 1 ((⟨#[c]⟩ : ByteArray) ++ t).size = t := by
  apply ByteArray.ext
  rw [ByteArray.data_extract, ByteArray.data_append, ByteArray.size_append]
  have h : (⟨#[c]⟩ : ByteArray).size = 1 := rfl
  rw [h]
  apply Array.ext'
  rw [Array.toList_extract, Array.toList_append, List.extract_eq_take_drop]
  have h2 : t.size = t.data.toList.length := rfl
  rw [Nat.add_sub_cancel_left]
  show List.take t.size t.data.toList = t.data.toList
  rw [h2, List.take_length]
theorem one_size (c : UInt8) (t : ByteArray) : ((⟨#[c]⟩ : ByteArray) ++ t).size = 1 + t.size := by rw [ByteArray.size_append]; rfl
theorem byte0 (c : UInt8) (t : ByteArray) : byteAt ((⟨#[c]⟩ : ByteArray) ++ t) 0 = (c.toNat : Int) := by
  unfold byteAt
  rw [dif_pos (by rw [one_size]; omega)]
  congr 2
theorem first_is {s : ByteArray} {c : UInt8} (h : s.size ≠ 0) (hc : byteAt s 0 = (c.toNat : Int)) : s = (⟨#[c]⟩ : ByteArray) ++ s.extract 1 s.size := by
  unfold byteAt at hc
  rw [dif_pos (by omega)] at hc
  have hc' : s[0]'(by omega) = c := by
    apply UInt8.toNat_inj.1
    omega
  obtain ⟨⟨l⟩⟩ := s
  cases l with
  | nil => exact absurd rfl h
  | cons x l =>
    have hx : x = c := hc'
    subst hx
    apply ByteArray.ext
    rw [ByteArray.data_append, ByteArray.data_extract]
    apply Array.ext'
    rw [Array.toList_append, Array.toList_extract, List.extract_eq_take_drop]
    have : ByteArray.size ⟨⟨x :: l⟩⟩ = l.length + 1 := rfl
    rw [this, Nat.add_sub_cancel]
    show x :: l = x :: List.take l.length l
    rw [List.take_length]
theorem dgv_10 {c : Int} (h0 : 0 ≤ c) (h1 : c < 256) (h : dgv c < 10) : 48 ≤ c ∧ c ≤ 57 := by
  unfold dgv at h
  split at h
  · assumption
  · split at h <;> omega
theorem dgv_of10 {c : Int} (h0 : 48 ≤ c) (h : c ≤ 57) : dgv c = c - 48 := by unfold dgv; rw [if_pos ⟨h0, h⟩]
theorem ltr_dgv {c : Int} (h0 : 48 ≤ c) (h : c ≤ 57) : ltr (dgv c) = c := by
  rw [dgv_of10 h0 h]
  obtain ⟨a, rfl⟩ : ∃ a : Nat, c = (a : Int) + 48 := ⟨(c - 48).toNat, by omega⟩
  have key : ∀ a : Fin 10, ltr ((a.val : Int) + 48 - 48) = (a.val : Int) + 48 := by decide +kernel
  exact key ⟨a, by omega⟩
theorem txt_dgs {t : ByteArray} (h : ∀ i, i < t.size → dgv (byteAt t i) < 10) : txt (dgs t) = t := by
  apply ByteArray.ext
  apply Array.ext'
  show (dgs t).map ltrB = t.data.toList
  unfold dgs bytesI
  rw [List.map_map, List.map_map]
  conv => rhs; rw [← List.map_id t.data.toList]
  refine List.map_congr_left fun x hx => ?_
  obtain ⟨i, hi, rfl⟩ := List.getElem_of_mem hx
  have hi' : i < t.size := hi
  have hb : byteAt t i = ((t.data.toList[i]).toNat : Int) := by
    unfold byteAt
    rw [dif_pos hi']
    rfl
  have h1 := h i hi'
  have h2 := byteAt_range t i
  have h3 := dgv_10 h2.1 h2.2 h1
  show ltrB (dgv ((t.data.toList[i]).toNat : Int)) = t.data.toList[i]
  apply UInt8.toNat_inj.1
  have h4 := ltrB_to (dgv ((t.data.toList[i]).toNat : Int))
  rw [← hb, ltr_dgv h3.1 h3.2, hb] at h4
  rw [← hb] at h4 ⊢
  omega
theorem digits_or (t : ByteArray) : (txt (dgs t) = t ∧ rng 10 (dgs t)) ∨ ∃ k, k < t.size ∧ (∀ i, i < k → dgv (byteAt t i) < 10) ∧ ¬ dgv (byteAt t k) < 10 := by
  by_cases h : ∀ i, i < t.size → dgv (byteAt t i) < 10
  · refine .inl ⟨txt_dgs h, fun x hx => ?_⟩
    obtain ⟨i, hi, rfl⟩ := List.getElem_of_mem hx
    rw [dgs_len] at hi
    have h1 := dgs_getD hi
    rw [List.getD_eq_getElem?_getD, List.getElem?_eq_getElem (by rw [dgs_len]; exact hi)] at h1
    have h1' : (dgs t)[i] = dgv (byteAt t i) := h1
    rw [h1']
    have h2 := byteAt_range t i
    exact ⟨(dgv_rng h2.1 h2.2).1, h i hi⟩
  · right
    have hex : ∃ k, k < t.size ∧ ¬ dgv (byteAt t k) < 10 := by
      refine Classical.byContradiction fun hn => h fun i hi => ?_
      refine Classical.byContradiction fun h1 => hn ⟨i, hi, h1⟩
    obtain ⟨k, ⟨h1, h2⟩, h3⟩ := least hex
    exact ⟨k, h1, fun i hi => Classical.byContradiction fun h4 => by have := h3 i ⟨by omega, h4⟩; omega, h2⟩
theorem wtxt_is {s : Bool} {l : List Int} {t : ByteArray} (hu : u64s l) (h : (sgnI (sv s l) < 0 ∧ t = (⟨#[45]⟩ : ByteArray) ++ txt (hdg 10 1 (vl l).toNat)) ∨ (¬ sgnI (sv s l) < 0 ∧ t = txt (hdg 10 1 (vl l).toNat))) : some (V.s t) = some (V.s (wtxt (sv s l))) := by
  have hvn := vl_nonneg hu
  have hna : (sv s l).natAbs = (vl l).toNat := by unfold sv; split <;> omega
  unfold wtxt
  rw [hna]
  rcases h with ⟨h1, h2⟩ | ⟨h1, h2⟩
  · rw [if_pos (by unfold sgnI at h1; split at h1 <;> (try split at h1) <;> omega), h2]
  · rw [if_neg (by unfold sgnI at h1; split at h1 <;> (try split at h1) <;> omega), h2]
theorem lenV_neg {v : Int} : lenV (-v) = lenV v := by unfold lenV; rw [Int.natAbs_neg]
end Go.Proofs.Ytcfdclehmpfkcaa.Vc
