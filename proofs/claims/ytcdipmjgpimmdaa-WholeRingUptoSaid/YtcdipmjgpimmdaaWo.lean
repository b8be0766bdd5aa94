/- Contracts of mul.sum, less, part. -/
import Derived.Test.YtcdipmjgpimmdaaWn
set_option linter.unusedVariables false
set_option linter.unusedSimpArgs false
namespace Go.Proofs.Ytcdipmjgpimmdaa.Vc
open Go Go.RowKit
set_option maxHeartbeats 4000000 in
theorem sum_s (a b : List Int) (hla : a.length < 1099511627776) (hlb : b.length < 1099511627776) (ua : u64s a) (ub : u64s b) : Spec Try.prog 106 [.n false .u64 a, .n false .u64 b] (fun o => ∃ r, o = .ret (.n true .u64 r) ∧ u64s r ∧ r.length = max a.length b.length + 1 ∧ vl r = vl a + vl b) := by
  refine spec_of' [(0, .n false .u64 a), (1, .n false .u64 b)] rfl Try.func106 rfl (Nat.le_of_ble_eq_true rfl) fun Γ hN hds hL hR => ?_
  have hd : ∀ d, Nat.blt d 20 = true → d < Γ.N := fun d h => by rw [hN]; exact Nat.le_of_ble_eq_true h
  have hl0 : (a ++ (List.replicate (max a.length b.length + 1) 0).drop a.length).length = max a.length b.length + 1 := by simp; omega
  have hv0 : vl (a ++ (List.replicate (max a.length b.length + 1) (0 : Int)).drop a.length) = vl a := by rw [vl_app, List.drop_replicate, vl_zeros, Int.mul_zero, Int.add_zero]
  have hfa := vl_lt ua
  have hfb := vl_lt ub
  have hpa := pB_mono (show a.length ≤ max a.length b.length by omega)
  have hpb := pB_mono (show b.length ≤ max a.length b.length by omega)
  have hpp := pB_pos (max a.length b.length)
  refine jc_seq ?_
  refine jc_region ?_
  refine jo_l (ly_as rfl) (hd 4 rfl) ?_
  refine jo_nil ?_
  refine jc_seq ?_
  refine jc_region ?_
  refine jo_l (ly_mv rfl) (hd 6 rfl) ?_
  refine jo_l (ly_lenn sl28 rfl) (hd 7 rfl) ?_
  refine jo_l (ly_mv rfl) (hd 8 rfl) ?_
  refine jo_l (ly_lenn sl28 rfl) (hd 9 rfl) ?_
  refine jo_l (ly_max rfl rfl) (hd 10 rfl) ?_
  refine jo_l (ly_add rfl rfl (r := ((max a.length b.length + 1 : Nat) : Int)) (by rw [wrap_i64 (by omega) (by omega)]; omega)) (hd 11 rfl) ?_
  refine jo_h (hy_mk (m := max a.length b.length + 1) el28 rfl rfl rfl (by show 8 * (max a.length b.length + 1) ≤ _; omega) (by unfold maxLen; omega) rfl) (hd 12 rfl) ?_
  refine jo_l (ly_as rfl) (hd 5 rfl) ?_
  refine jo_nil ?_
  refine jc_seq ?_
  refine jc_region ?_
  refine jo_l (ly_mv rfl) (hd 13 rfl) ?_
  refine jo_l (ly_mv rfl) (hd 14 rfl) ?_
  refine jo_copy undS28 siz82m rfl rfl List.length_replicate rfl (by omega) (hd 15 rfl) ?_
  refine jo_nil ?_
  refine jc_seq ?_
  refine jc_region ?_
  refine jo_l (ly_mv rfl) (hd 16 rfl) ?_
  refine jo_l (ly_mv rfl) (hd 17 rfl) ?_
  refine jo_callM Try.f103 (addAt_s (a ++ (List.replicate (max a.length b.length + 1) 0).drop a.length) b (max a.length b.length + 1) 0 hl0 (by omega) (by omega) (by omega) (u64s_app ua (u64s_drop (u64s_zeros _) _)) ub (by rw [hv0]; simp only [pB, Int.one_mul]; have : Bs = 18446744073709551616 := rfl; rw [this]; omega)) rfl Try.func103 rfl rfl (ovL_cons rfl (ovL_cons rfl (ovL_cons rfl ovL_nil))) (.cons (.same rfl) (.cons .n (.cons (.same rfl) .nil))) (freshless_cons ints_noFr freshless_nil) (hd 18 rfl) ?_ (fun ch H2 hp => by simp at hp)
  rintro y H2 ⟨hy, r2, rfl, hl2, hu2, hv2⟩
  injection hy with hy
  subst hy
  refine jo_nil ?_
  refine jc_seq ?_
  refine jc_region ?_
  refine jo_l (ly_mv rfl) (hd 19 rfl) ?_
  refine jo_l (ly_as rfl) (hd 4 rfl) ?_
  refine jo_nil ?_
  refine jc_ret ?_
  refine ⟨_, _, (.cons rfl .nil), (.o (l := r2) rfl (by omega) rfl), ?_⟩
  rw [List.drop_zero, List.take_of_length_le (by omega)]
  exact ⟨r2, rfl, hu2, hl2, by rw [hv2, hv0]; simp only [pB, Int.one_mul]⟩

set_option maxHeartbeats 4000000 in
theorem less_s (a b : List Int) (hla : a.length < 1099511627776) (hlb : b.length < 1099511627776) (ua : u64s a) (ub : u64s b) (hle : vl b ≤ vl a) : Spec Try.prog 105 [.n false .u64 a, .n false .u64 b] (fun o => ∃ r, o = .ret (.n true .u64 r) ∧ u64s r ∧ r.length = a.length ∧ vl r = vl a - vl b) := by
  refine spec_of' [(0, .n false .u64 a), (1, .n false .u64 b)] rfl Try.func105 rfl (Nat.le_of_ble_eq_true rfl) fun Γ hN hds hL hR => ?_
  have hd : ∀ d, Nat.blt d 43 = true → d < Γ.N := fun d h => by rw [hN]; exact Nat.le_of_ble_eq_true h
  refine jc_seq ?_
  refine jc_region ?_
  refine jo_l (ly_as rfl) (hd 4 rfl) ?_
  refine jo_nil ?_
  refine jc_seq ?_
  refine jc_region ?_
  refine jo_l (ly_mv rfl) (hd 9 rfl) ?_
  refine jo_l (ly_lenn sl28 rfl) (hd 10 rfl) ?_
  refine jo_h (hy_mk (m := a.length) el28 rfl rfl rfl (by show 8 * a.length ≤ _; omega) (by unfold maxLen; omega) rfl) (hd 11 rfl) ?_
  refine jo_l (ly_as rfl) (hd 5 rfl) ?_
  refine jo_nil ?_
  refine jc_seq ?_
  refine jc_region ?_
  refine jo_l (ly_mv rfl) (hd 12 rfl) ?_
  refine jo_l (ly_mv rfl) (hd 13 rfl) ?_
  refine jo_copy undS28 siz82m rfl rfl List.length_replicate rfl (Nat.le_refl _) (hd 14 rfl) ?_
  refine jo_nil ?_
  refine jc_seq ?_
  refine jc_region ?_
  refine jo_l (ly_as rfl) (hd 6 rfl) ?_
  refine jo_nil ?_
  refine jc_seq ?_
  refine jc_seq ?_
  refine jc_H (H' := [⟨82, 1, 0, true, ints .u64 ((sbN a b 0).1 ++ a.drop 0)⟩]) (by show [(⟨82, 1, 0, true, ints .u64 (a ++ (List.replicate a.length 0).drop a.length)⟩ : Ob)] = _; rw [List.drop_eq_nil_of_le (by simp), List.append_nil]; rfl) ?_
  refine jc_region ?_
  refine jo_l (ly_mv rfl) (hd 15 rfl) ?_
  refine jo_l (ly_leno sl28 rfl rfl) (hd 16 rfl) ?_
  refine jo_l (ly_mv rfl) (hd 17 rfl) ?_
  refine jo_nil ?_
  refine jc_block ?_
  refine jc_loopF (G := Nat) (fun i => i ≤ a.length) (fun i => [(6, .i .u64 (sbN a b i).2), (17, .i .i64 (i : Int)), (7, .u), (8, .u), (18, .u), (19, .u), (20, .u), (21, .u), (22, .u), (23, .u), (24, .u), (25, .u), (26, .u), (27, .u), (28, .u), (29, .u), (30, .u), (31, .u), (32, .u), (33, .u), (34, .u), (35, .u), (36, .u), (37, .u), (38, .u), (39, .u), (40, .u), (41, .u)]) (fun i => [⟨82, 1, 0, true, ints .u64 ((sbN a b i).1 ++ a.drop i)⟩]) (fun i => a.length - i) 0 ?_ ?_ rfl ?_
  · exact Nat.zero_le _
  · exact (.cons rfl (.cons rfl (.u (.u (.u (.u (.u (.u (.u (.u (.u (.u (.u (.u (.u (.u (.u (.u (.u (.u (.u (.u (.u (.u (.u (.u (.u (.u .nil))))))))))))))))))))))))))))
  · rintro i hc1
    have hf := sub_len (b := b) hc1
    have hc := sbN_c a b i
    have hx := u64s_getD ua i
    have hy := u64s_getD ub i
    refine jc_seq ?_
    refine jc_region ?_
    refine jo_l (ly_lt rfl rfl) (hd 18 rfl) ?_
    refine jo_nil ?_
    refine jc_seq ?_
    refine jc_if rfl (fun h1 => ?_) (fun h1 => ?_)
    · refine jc_skip ?_
      refine jc_seq ?_
      refine jc_block ?_
      refine jc_seq ?_
      refine jc_region ?_
      refine jo_l (ly_mv rfl) (hd 19 rfl) ?_
      refine jo_l (ly_as rfl) (hd 7 rfl) ?_
      refine jo_nil ?_
      refine jc_seq ?_
      refine jc_region ?_
      refine jo_l (ly_as rfl) (hd 8 rfl) ?_
      refine jo_nil ?_
      refine jc_meetH (G := Unit) (fun _ => True) (fun _ => [(8, .i .u64 (b.getD i 0)), (20, .u), (21, .u), (22, .u), (23, .u), (24, .u), (25, .u), (26, .u), (27, .u)]) ?_ ?_
      · refine jc_seq ?_
        refine jc_region ?_
        refine jo_l (ly_mv rfl) (hd 20 rfl) ?_
        refine jo_l (ly_mv rfl) (hd 21 rfl) ?_
        refine jo_l (ly_lenn sl28 rfl) (hd 22 rfl) ?_
        refine jo_l (ly_lt rfl rfl) (hd 23 rfl) ?_
        refine jo_nil ?_
        refine jc_if rfl (fun h2 => ?_) (fun h2 => ?_)
        · refine jc_region ?_
          refine jo_l (ly_mv rfl) (hd 24 rfl) ?_
          refine jo_l (ly_mv rfl) (hd 25 rfl) ?_
          refine jo_l (ly_ian (i := i) sl28 rfl rfl (by first | rfl | omega) (by omega)) (hd 26 rfl) ?_
          refine jo_l (ly_ldq one82 rfl rfl) (hd 27 rfl) ?_
          refine jo_l (ly_as rfl) (hd 8 rfl) ?_
          refine jo_nil ?_
          refine ⟨(), ?_, rfl, cov_n 9 rfl rfl ?_⟩
          · trivial
          · exact (.cons (by first | rfl | (show some (V.i .u64 _) = some (V.i .u64 _); rw [getD_ge (by omega)])) (.u (.u (.u (.u (.u (.u (.u (.u .nil)))))))))
        · refine jc_skip ?_
          refine ⟨(), ?_, rfl, cov_n 4 rfl rfl ?_⟩
          · trivial
          · exact (.cons (by first | rfl | (show some (V.i .u64 _) = some (V.i .u64 _); rw [getD_ge (by omega)])) (.u (.u (.u (.u (.u (.u (.u (.u .nil)))))))))
      · rintro _ _
        refine jc_region ?_
        refine jo_l (ly_mv rfl) (hd 29 rfl) ?_
        refine jo_l (ly_mv rfl) (hd 30 rfl) ?_
        refine jo_l (ly_mv rfl) (hd 31 rfl) ?_
        refine jo_l (ly_mv rfl) (hd 32 rfl) ?_
        refine jo_l (ly_ia (i := i) sl28 rfl rfl rfl (by first | rfl | omega) (by omega) rfl) (hd 33 rfl) ?_
        refine jo_l (ly_is (ly_ldi one82 rfl rfl (by omega)) (show V.i .u64 (((sbN a b i).1 ++ a.drop i).getD ((0 + i) * 1) 0) = V.i .u64 (a.getD i 0) by rw [Nat.zero_add, Nat.mul_one, sub_at (by omega)])) (hd 34 rfl) ?_
        refine jo_l (ly_mv rfl) (hd 35 rfl) ?_
        refine jo_l (ly_mv rfl) (hd 36 rfl) ?_
        refine jo_h (hy_ext3 (e := sub64Entry) Try.func89 rfl rfl (by kernel_rfl) (by kernel_rfl) rfl rfl rfl (fun w => run_sub64 _ _ _ hx.1 hx.2 hy.1 hy.2 hc.1 hc.2 w) rel_pair) (hd 37 rfl) ?_
        refine jo_l (ly_mv rfl) (hd 28 rfl) ?_
        refine jo_l (ly_ext rfl rfl) (hd 38 rfl) ?_
        refine jo_l (ly_ext rfl rfl) (hd 39 rfl) ?_
        refine jo_l (ly_ia (i := i) sl28 rfl rfl rfl (by first | rfl | omega) (by omega) rfl) (hd 40 rfl) ?_
        refine jo_st (sy_storei rfl rfl rfl one82 (by omega)) ?_
        refine jo_l (ly_as rfl) (hd 6 rfl) ?_
        refine jo_nil ?_
        refine jc_region ?_
        refine jo_l (ly_add rfl rfl (wrap_i64 (by omega) (by omega))) (hd 41 rfl) ?_
        refine jo_l (ly_mv rfl) (hd 17 rfl) ?_
        refine jo_nil ?_
        refine ⟨i + 1, ?_, ?_, (by show [(⟨82, 1, 0, true, ints .u64 _⟩ : Ob)] = [⟨82, 1, 0, true, ints .u64 _⟩]; rw [sub_fill (by omega)]), cov_n 57 rfl rfl ?_⟩
        · omega
        · omega
        · exact (.cons rfl (.cons rfl (.u (.u (.u (.u (.u (.u (.u (.u (.u (.u (.u (.u (.u (.u (.u (.u (.u (.u (.u (.u (.u (.u (.u (.u (.u (.u .nil))))))))))))))))))))))))))))
    · obtain rfl : i = a.length := by omega
      refine jc_exit ?_
      refine jc_seq ?_
      refine jc_region ?_
      refine jo_l (ly_mv rfl) (hd 42 rfl) ?_
      refine jo_l (ly_as rfl) (hd 4 rfl) ?_
      refine jo_nil ?_
      refine jc_ret ?_
      refine ⟨_, _, (.cons rfl .nil), (.o (l := (sbN a b a.length).1 ++ a.drop a.length) rfl (by omega) rfl), ?_⟩
      rw [List.drop_zero, List.take_of_length_le (by omega), List.drop_eq_nil_of_le (Nat.le_refl _), List.append_nil]
      exact ⟨_, rfl, sbN_u ua ub _, sbN_len a b _, vl_sub ua ub hle⟩

set_option maxHeartbeats 4000000 in
theorem part_s (l : List Int) (f t : Nat) (hl : l.length < 4398046511104) (hft : f ≤ t) (hf : t < 4398046511104) (ul : u64s l) : Spec Try.prog 104 [.n false .u64 l, .i .i64 (f : Int), .i .i64 (t : Int)] (fun o => ∃ r, o = .ret (.n false .u64 r) ∧ u64s r ∧ r.length ≤ min t l.length - min f l.length ∧ vl r = vl ((l.take t).drop f)) := by
  refine spec_of' [(0, .n false .u64 l), (1, .i .i64 (f : Int)), (2, .i .i64 (t : Int))] rfl Try.func104 rfl (Nat.le_of_ble_eq_true rfl) fun Γ hN hds hL hR => ?_
  have hd : ∀ d, Nat.blt d 32 = true → d < Γ.N := fun d h => by rw [hN]; exact Nat.le_of_ble_eq_true h
  refine jc_seq ?_
  refine jc_region ?_
  refine jo_l (ly_as rfl) (hd 6 rfl) ?_
  refine jo_nil ?_
  refine jc_seq ?_
  refine jc_region ?_
  refine jo_l (ly_mv rfl) (hd 7 rfl) ?_
  refine jo_l (ly_mv rfl) (hd 8 rfl) ?_
  refine jo_l (ly_lenn sl28 rfl) (hd 9 rfl) ?_
  refine jo_l (ly_is (ly_min rfl rfl) (show V.i .i64 (min (f : Int) (l.length : Int)) = V.i .i64 ((min f l.length : Nat) : Int) by congr 1; omega)) (hd 10 rfl) ?_
  refine jo_l (ly_mv rfl) (hd 11 rfl) ?_
  refine jo_l (ly_mv rfl) (hd 12 rfl) ?_
  refine jo_l (ly_lenn sl28 rfl) (hd 13 rfl) ?_
  refine jo_l (ly_is (ly_min rfl rfl) (show V.i .i64 (min (t : Int) (l.length : Int)) = V.i .i64 ((min t l.length : Nat) : Int) by congr 1; omega)) (hd 14 rfl) ?_
  refine jo_l (ly_as rfl) (hd 1 rfl) ?_
  refine jo_l (ly_as rfl) (hd 2 rfl) ?_
  refine jo_nil ?_
  refine jc_seq ?_
  refine jc_block ?_
  refine jc_loopF (G := Nat) (fun k => min f l.length ≤ k ∧ k ≤ min t l.length ∧ vl ((l.take k).drop (min f l.length)) = vl ((l.take t).drop f)) (fun k => [(2, .i .i64 (k : Int)), (15, .u), (16, .u), (17, .u), (18, .u), (19, .u), (20, .u), (21, .u), (22, .u), (23, .u), (24, .u), (25, .u), (26, .u), (27, .u)]) (fun _ => _) (fun k => k) (min t l.length) ?_ ?_ rfl ?_
  · exact ⟨by omega, Nat.le_refl _, by rw [part_all hft]⟩
  · exact (.cons rfl (.u (.u (.u (.u (.u (.u (.u (.u (.u (.u (.u (.u (.u .nil))))))))))))))
  · rintro k ⟨hc1, hc2, hc3⟩
    refine jc_seq ?_
    refine jc_seq ?_
    refine jc_region ?_
    refine jo_l (ly_mv rfl) (hd 15 rfl) ?_
    refine jo_l (ly_mv rfl) (hd 16 rfl) ?_
    refine jo_l (ly_gt rfl rfl) (hd 17 rfl) ?_
    refine jo_l (ly_mv rfl) (hd 18 rfl) ?_
    refine jo_ifp 18 rfl (fun h1 => ?_) (fun h1 => ?_)
    · refine jo_g 18 rfl rfl (ly_mv rfl) (hd 19 rfl) ?_
      refine jo_g 18 rfl rfl (ly_mv rfl) (hd 20 rfl) ?_
      refine jo_g 18 rfl rfl (ly_sub rfl rfl (wrap_i64 (by omega) (by omega))) (hd 21 rfl) ?_
      refine jo_g 18 rfl rfl (ly_ian (i := k - 1) sl28 rfl rfl (by omega) (by omega)) (hd 22 rfl) ?_
      refine jo_g 18 rfl rfl (ly_ldq one82 rfl rfl) (hd 23 rfl) ?_
      refine jo_g 18 rfl rfl (ly_eq rfl rfl) (hd 24 rfl) ?_
      refine jo_l (ly_pick_t rfl rfl) (hd 25 rfl) ?_
      refine jo_nil ?_
      refine jc_if rfl (fun h2 => ?_) (fun h2 => ?_)
      · refine jc_skip ?_
        refine jc_block ?_
        refine jc_region ?_
        refine jo_l (ly_mv rfl) (hd 26 rfl) ?_
        refine jo_l (ly_sub rfl rfl (wrap_i64 (by omega) (by omega))) (hd 27 rfl) ?_
        refine jo_l (ly_as rfl) (hd 2 rfl) ?_
        refine jo_nil ?_
        refine ⟨k - 1, ?_, ?_, rfl, cov_n 29 rfl rfl ?_⟩
        · exact ⟨by omega, by omega, by rw [part_step (by omega) (by omega) (by assumption)]; exact hc3⟩
        · omega
        · exact (.cons (by show some (V.i .i64 _) = some (V.i .i64 _); congr 2; omega) (.u (.u (.u (.u (.u (.u (.u (.u (.u (.u (.u (.u (.u .nil))))))))))))))
      · refine jc_exit ?_
        refine jc_seq ?_
        refine jc_region ?_
        refine jo_l (ly_mv rfl) (hd 28 rfl) ?_
        refine jo_l (ly_mv rfl) (hd 29 rfl) ?_
        refine jo_l (ly_mv rfl) (hd 30 rfl) ?_
        refine jo_l (ly_sln sl28 rfl (bnd_some' rfl rfl) (bnd_some' rfl rfl) (.inl rfl) (by omega) (by omega)) (hd 31 rfl) ?_
        refine jo_l (ly_as rfl) (hd 6 rfl) ?_
        refine jo_nil ?_
        refine jc_ret ?_
        refine ⟨_, _, (.cons rfl .nil), .n, ?_⟩
        exact ⟨_, rfl, u64s_drop (u64s_take ul _) _, by rw [List.length_drop, List.length_take]; omega, hc3⟩
    · refine jo_s 18 rfl rfl rfl (hd 19 rfl) ?_
      refine jo_s 18 rfl rfl rfl (hd 20 rfl) ?_
      refine jo_s 18 rfl rfl rfl (hd 21 rfl) ?_
      refine jo_s 18 rfl rfl rfl (hd 22 rfl) ?_
      refine jo_s 18 rfl rfl rfl (hd 23 rfl) ?_
      refine jo_s 18 rfl rfl rfl (hd 24 rfl) ?_
      refine jo_l (ly_pick_f rfl rfl) (hd 25 rfl) ?_
      refine jo_nil ?_
      refine jc_litf rfl ?_
      refine jc_exit ?_
      refine jc_seq ?_
      refine jc_region ?_
      refine jo_l (ly_mv rfl) (hd 28 rfl) ?_
      refine jo_l (ly_mv rfl) (hd 29 rfl) ?_
      refine jo_l (ly_mv rfl) (hd 30 rfl) ?_
      refine jo_l (ly_sln sl28 rfl (bnd_some' rfl rfl) (bnd_some' rfl rfl) (.inl rfl) (by omega) (by omega)) (hd 31 rfl) ?_
      refine jo_l (ly_as rfl) (hd 6 rfl) ?_
      refine jo_nil ?_
      refine jc_ret ?_
      refine ⟨_, _, (.cons rfl .nil), .n, ?_⟩
      exact ⟨_, rfl, u64s_drop (u64s_take ul _) _, by rw [List.length_drop, List.length_take]; omega, hc3⟩
end Go.Proofs.Ytcdipmjgpimmdaa.Vc
