/- All five divisions of whole numbers answer as the document says, of every input of bulk at most 1048576 Texts joined: Yo, Yp, Yq, Ys, Yt. -/
import Derived.Test.YtcdipmjgpimmdaaK7
/- Contracts of surdref01.Shl, Div. -/
set_option linter.unusedVariables false
set_option linter.unusedSimpArgs false
namespace Go.Proofs.Ytcdipmjgpimmdaa.Vc
open Go Go.RowKit
set_option maxHeartbeats 4000000 in
theorem Shl_s (x n : Nat) (hx : (digs B32 x).length < 549755813888) (hn : n < 4294967296) : Spec Try.prog 60 [.n false .u64 (digs B32 x), .i .i64 (n : Int)] (fun o => o = .ret (.n false .u64 (digs B32 (x * 2 ^ n)))) := by
  refine spec_of' [(0, .n false .u64 (digs B32 x)), (1, .i .i64 (n : Int))] rfl Try.func60 rfl (Nat.le_of_ble_eq_true rfl) fun Γ hN hds hL hR => ?_
  have hd : ∀ d, Nat.blt d 55 = true → d < Γ.N := fun d h => by rw [hN]; exact Nat.le_of_ble_eq_true h
  have hr := rng_digs (b := B32) (by decide) x
  have hs : n % 32 < 32 := by omega
  refine jc_seq ?_
  refine jc_region ?_
  refine jo_l (ly_as rfl) (hd 4 rfl) ?_
  refine jo_nil ?_
  refine jc_seq ?_
  refine jc_seq ?_
  refine jc_region ?_
  refine jo_l (ly_mv rfl) (hd 9 rfl) ?_
  refine jo_l (ly_lenn sl33 rfl) (hd 10 rfl) ?_
  refine jo_l (ly_eq rfl rfl) (hd 11 rfl) ?_
  refine jo_nil ?_
  refine jc_if rfl (fun h1 => ?_) (fun h1 => ?_)
  · refine jc_seq ?_
    refine jc_region ?_
    refine jo_l (ly_as rfl) (hd 4 rfl) ?_
    refine jo_nil ?_
    refine jc_ret ?_
    refine ⟨_, _, (.cons rfl .nil), (.nil (fr := false) (k := .u64)), ?_⟩
    have hz : (digs B32 x) = [] := List.eq_nil_of_length_eq_zero (by omega)
    rw [digs_nil.1 hz, Nat.zero_mul, digs_0]
  · refine jc_skip ?_
    refine jc_seq ?_
    refine jc_region ?_
    refine jo_l (ly_mv rfl) (hd 12 rfl) ?_
    refine jo_l (ly_lenn sl33 rfl) (hd 13 rfl) ?_
    refine jo_l (ly_mv rfl) (hd 14 rfl) ?_
    refine jo_l (ly_quo rfl rfl (by omega) (r := ((n / 32 : Nat) : Int)) (quo32 (by omega))) (hd 15 rfl) ?_
    refine jo_l (ly_add rfl rfl (r := (((digs B32 x).length + n / 32 : Nat) : Int)) (by rw [wrap_i64 (by omega) (by omega)]; omega)) (hd 16 rfl) ?_
    refine jo_l (ly_add rfl rfl (r := (((digs B32 x).length + n / 32 + 1 : Nat) : Int)) (by rw [wrap_i64 (by omega) (by omega)]; omega)) (hd 17 rfl) ?_
    refine jo_h (hy_mk (m := (digs B32 x).length + n / 32 + 1) el33 rfl rfl rfl (by show 8 * ((digs B32 x).length + n / 32 + 1) ≤ _; omega) (by unfold maxLen; omega) rfl) (hd 18 rfl) ?_
    refine jo_l (ly_as rfl) (hd 5 rfl) ?_
    refine jo_nil ?_
    refine jc_seq ?_
    refine jc_region ?_
    refine jo_l (ly_mv rfl) (hd 19 rfl) ?_
    refine jo_l (ly_is (ly_rem rfl rfl (by omega) rfl) (show V.i .i64 _ = V.i .i64 (((n % 32 : Nat) : Int)) from congrArg (V.i .i64) rem32)) (hd 20 rfl) ?_
    refine jo_l (ly_as rfl) (hd 6 rfl) ?_
    refine jo_nil ?_
    refine jc_seq ?_
    refine jc_seq ?_
    refine jc_region ?_
    refine jo_l (ly_mv rfl) (hd 21 rfl) ?_
    refine jo_l (ly_lenn sl33 rfl) (hd 22 rfl) ?_
    refine jo_l (ly_mv rfl) (hd 23 rfl) ?_
    refine jo_nil ?_
    refine jc_block ?_
    refine jc_H (H' := [⟨82, 1, 0, true, ints .u64 (shR (digs B32 x) (n % 32) (n / 32) 0)⟩]) (by rw [← shR_0]; rfl) ?_
    refine jc_loopF (G := Nat) (fun i => i ≤ (digs B32 x).length) (fun i => [(23, .i .i64 (i : Int)), (7, .u), (8, .u), (24, .u), (25, .u), (26, .u), (27, .u), (28, .u), (29, .u), (30, .u), (31, .u), (32, .u), (33, .u), (34, .u), (35, .u), (36, .u), (37, .u), (38, .u), (39, .u), (40, .u), (41, .u), (42, .u), (43, .u), (44, .u), (45, .u), (46, .u), (47, .u), (48, .u), (49, .u), (50, .u), (51, .u), (52, .u)]) (fun i => [⟨82, 1, 0, true, ints .u64 (shR (digs B32 x) (n % 32) (n / 32) i)⟩]) (fun i => (digs B32 x).length - i) 0 ?_ ?_ rfl ?_
    · exact Nat.zero_le _
    · exact (.cons rfl (.u (.u (.u (.u (.u (.u (.u (.u (.u (.u (.u (.u (.u (.u (.u (.u (.u (.u (.u (.u (.u (.u (.u (.u (.u (.u (.u (.u (.u (.u (.u .nil))))))))))))))))))))))))))))))))
    · rintro i hc1
      have hf := shR_len (s := (n % 32)) (w := (n / 32)) hc1
      have hc := sh32_c hs hr i
      have hx := rng_getD (by decide) hr i
      have hp := sh_prod hs hr i
      have hel := sh_el (x := (digs B32 x).getD i 0) hs hc.1 hc.2
      refine jc_seq ?_
      refine jc_region ?_
      refine jo_l (ly_lt rfl rfl) (hd 24 rfl) ?_
      refine jo_nil ?_
      refine jc_seq ?_
      refine jc_if rfl (fun h2 => ?_) (fun h2 => ?_)
      · refine jc_skip ?_
        refine jc_seq ?_
        refine jc_block ?_
        refine jc_seq ?_
        refine jc_region ?_
        refine jo_l (ly_mv rfl) (hd 25 rfl) ?_
        refine jo_l (ly_ian (i := i) sl33 rfl rfl (by first | rfl | omega) (by omega)) (hd 26 rfl) ?_
        refine jo_l (ly_ldq one82 rfl rfl) (hd 27 rfl) ?_
        refine jo_l (ly_as rfl) (hd 7 rfl) ?_
        refine jo_l (ly_as rfl) (hd 8 rfl) ?_
        refine jo_nil ?_
        refine jc_seq ?_
        refine jc_draw (n := 14) _ rfl mixed ?_
        refine ja_l2 0 [5, 6, 11, 12, 13] (lo_l (ly_mv rfl) (hd 28 rfl)) rfl (by kernel_rfl) (by kernel_rfl) (by kernel_rfl) (by kernel_rfl) (fun _ _ _ _ h => h) ?_
        refine ja_l2 1 [4, 5, 6, 11, 12, 13] (lo_l (ly_mv rfl) (hd 29 rfl)) rfl (by kernel_rfl) (by kernel_rfl) (by kernel_rfl) (by kernel_rfl) (fun _ _ _ _ h => h) ?_
        refine ja_l2 2 [3, 4, 5, 6, 11, 12, 13] (lo_l (ly_mv rfl) (hd 30 rfl)) rfl (by kernel_rfl) (by kernel_rfl) (by kernel_rfl) (by kernel_rfl) (fun _ _ _ _ h => h) ?_
        refine ja_l2 3 [4, 5, 6, 11, 12, 13] (lo_l (ly_quo rfl rfl (by omega) (r := ((n / 32 : Nat) : Int)) (quo32 (by omega))) (hd 31 rfl)) rfl (by kernel_rfl) (by kernel_rfl) (by kernel_rfl) (by kernel_rfl) (fun _ _ _ _ h => h) ?_
        refine ja_l2 4 [5, 6, 11, 12, 13] (lo_l (ly_add rfl rfl (r := ((i + n / 32 : Nat) : Int)) (by rw [wrap_i64 (by omega) (by omega)]; omega)) (hd 32 rfl)) rfl (by kernel_rfl) (by kernel_rfl) (by kernel_rfl) (by kernel_rfl) (fun _ _ _ _ h => h) ?_
        refine ja_l2 5 [6, 11, 12, 13] (lo_l (ly_ia (i := i + n / 32) sl33 rfl rfl rfl (by first | rfl | omega) (by omega) rfl) (hd 33 rfl)) rfl (by kernel_rfl) (by kernel_rfl) (by kernel_rfl) (by kernel_rfl) (fun _ _ _ _ h => h) ?_
        refine ja_l 6 (lo_l (ly_is (ly_ldi one82 rfl rfl (by omega)) (show V.i .u64 _ = V.i .u64 ((sh32 (digs B32 x) (n % 32) i).2) from congrArg (V.i .u64) shR_get)) (hd 34 rfl)) rfl (by kernel_rfl) (by kernel_rfl) (by kernel_rfl) (fun _ _ _ _ h => h) ?_
        refine ja_l2 7 [9, 10, 11, 12, 13] (lo_l (ly_mv rfl) (hd 35 rfl)) rfl (by kernel_rfl) (by kernel_rfl) (by kernel_rfl) (by kernel_rfl) (fun _ _ _ _ h => h) ?_
        refine ja_l2 8 [9, 10, 11, 12, 13] (lo_l (ly_mv rfl) (hd 36 rfl)) rfl (by kernel_rfl) (by kernel_rfl) (by kernel_rfl) (by kernel_rfl) (fun _ _ _ _ h => h) ?_
        refine ja_l2 9 [10, 11, 12, 13] (lo_l (ly_is (ly_shl rfl rfl (by omega) rfl) (show V.i .u64 _ = V.i .u64 (((digs B32 x).getD i 0 * 2 ^ (n % 32))) from congrArg (V.i .u64) (shl_u64 hs hx.1 hx.2))) (hd 37 rfl)) rfl (by kernel_rfl) (by kernel_rfl) (by kernel_rfl) (by kernel_rfl) (fun _ _ _ _ h => h) ?_
        refine ja_l 10 (lo_l (ly_is (ly_rem rfl rfl (by decide) rfl) (show V.i .u64 _ = V.i .u64 (((digs B32 x).getD i 0 * 2 ^ (n % 32)) % 4294967296) from congrArg (V.i .u64) (Int.tmod_eq_emod_of_nonneg hp.1))) (hd 38 rfl)) rfl (by kernel_rfl) (by kernel_rfl) (by kernel_rfl) (fun _ _ _ _ h => h) ?_
        refine ja_l 11 (lo_l (ly_add rfl rfl (wrap_u64 hel.1 (Int.lt_trans hel.2 (by decide)))) (hd 39 rfl)) rfl (by kernel_rfl) (by kernel_rfl) (by kernel_rfl) (fun _ _ _ _ h => h) ?_
        refine ja_l 12 (lo_l (ly_ia (i := i + n / 32) sl33 rfl rfl rfl (by first | rfl | omega) (by omega) rfl) (hd 40 rfl)) rfl (by kernel_rfl) (by kernel_rfl) (by kernel_rfl) (fun _ _ _ _ h => h) ?_
        refine ja_1 13 ?_ rfl (by kernel_rfl)
        refine js_st (sy_storei rfl rfl rfl one82 (by omega)) rfl ?_
        refine ja_nil (by kernel_rfl) ?_
        refine jc_region ?_
        refine jo_l (ly_mv rfl) (hd 41 rfl) ?_
        refine jo_l (ly_mv rfl) (hd 42 rfl) ?_
        refine jo_l (ly_mv rfl) (hd 43 rfl) ?_
        refine jo_l (ly_quo rfl rfl (by omega) (r := ((n / 32 : Nat) : Int)) (quo32 (by omega))) (hd 44 rfl) ?_
        refine jo_l (ly_add rfl rfl (r := ((i + n / 32 : Nat) : Int)) (by rw [wrap_i64 (by omega) (by omega)]; omega)) (hd 45 rfl) ?_
        refine jo_l (ly_add rfl rfl (r := ((i + n / 32 + 1 : Nat) : Int)) (by rw [wrap_i64 (by omega) (by omega)]; omega)) (hd 46 rfl) ?_
        refine jo_l (ly_mv rfl) (hd 47 rfl) ?_
        refine jo_l (ly_mv rfl) (hd 48 rfl) ?_
        refine jo_l (ly_is (ly_shl rfl rfl (by omega) rfl) (show V.i .u64 _ = V.i .u64 (((digs B32 x).getD i 0 * 2 ^ (n % 32))) from congrArg (V.i .u64) (shl_u64 hs hx.1 hx.2))) (hd 49 rfl) ?_
        refine jo_l (ly_quo rfl rfl (by decide) (r := ((digs B32 x).getD i 0 * 2 ^ (n % 32)) / 4294967296) (quo_u64 hp.1 (by omega) (by decide))) (hd 50 rfl) ?_
        refine jo_l (ly_ia (i := i + n / 32 + 1) sl33 rfl rfl rfl (by first | rfl | omega) (by omega) rfl) (hd 51 rfl) ?_
        refine jo_st (sy_storei rfl rfl rfl one82 (by simp only [List.length_set]; omega)) ?_
        refine jo_nil ?_
        refine jc_region ?_
        refine jo_l (ly_add rfl rfl (wrap_i64 (by omega) (by omega))) (hd 52 rfl) ?_
        refine jo_l (ly_mv rfl) (hd 23 rfl) ?_
        refine jo_nil ?_
        refine ⟨i + 1, ?_, ?_, (by show [(⟨82, 1, 0, true, ints .u64 _⟩ : Ob)] = [⟨82, 1, 0, true, ints .u64 _⟩]; rw [shR_set (by omega)]), cov_n 64 rfl rfl ?_⟩
        · omega
        · omega
        · exact (.cons rfl (.u (.u (.u (.u (.u (.u (.u (.u (.u (.u (.u (.u (.u (.u (.u (.u (.u (.u (.u (.u (.u (.u (.u (.u (.u (.u (.u (.u (.u (.u (.u .nil))))))))))))))))))))))))))))))))
      · obtain rfl : i = (digs B32 x).length := by omega
        refine jc_exit ?_
        refine jc_seq ?_
        refine jc_region ?_
        refine jo_frz (k := .u64) (l := shR (digs B32 x) (n % 32) (n / 32) (digs B32 x).length) (l' := shR (digs B32 x) (n % 32) (n / 32) (digs B32 x).length) 5 rfl rfl (by omega) (by rw [List.drop_zero, List.take_of_length_le (by omega)]) hL ?_
        refine jo_l (ly_mv rfl) (hd 53 rfl) ?_
        refine jo_call Try.f80 (rnorm_s (shR (digs B32 x) (n % 32) (n / 32) (digs B32 x).length) (by omega)) rfl Try.func80 rfl rfl (ovL_cons rfl ovL_nil) (.cons .n .nil) (hd 54 rfl) ?_ (fun ch hp => by simp at hp)
        rintro y hy; injection hy with hy; subst hy
        refine jo_l (ly_as rfl) (hd 4 rfl) ?_
        refine jo_nil ?_
        refine jc_ret ?_
        refine ⟨_, _, (.cons rfl .nil), .n, ?_⟩
        rw [shR_end]

set_option maxHeartbeats 4000000 in
theorem rDiv_s (x y : Nat) (hx : (digs B32 x).length < 4294967296) (hy : (digs B32 y).length < 4294967296) (h0 : 0 < y) : Spec Try.prog 57 [.n false .u64 (digs B32 x), .n false .u64 (digs B32 y)] (fun o => o = .ret (.t [.n false .u64 (digs B32 (x / y)), .n false .u64 (digs B32 (x % y))])) := by
  refine spec_of' [(0, .n false .u64 (digs B32 x)), (1, .n false .u64 (digs B32 y))] rfl Try.func57 rfl (Nat.le_of_ble_eq_true rfl) fun Γ hN hds hL hR => ?_
  have hd : ∀ d, Nat.blt d 60 = true → d < Γ.N := fun d h => by rw [hN]; exact Nat.le_of_ble_eq_true h
  refine jc_seq ?_
  refine jc_region ?_
  refine jo_l (ly_as rfl) (hd 4 rfl) ?_
  refine jo_l (ly_as rfl) (hd 5 rfl) ?_
  refine jo_nil ?_
  refine jc_seq ?_
  refine jc_region ?_
  refine jo_l (ly_as rfl) (hd 6 rfl) ?_
  refine jo_nil ?_
  refine jc_seq ?_
  refine jc_region ?_
  refine jo_l (ly_mv rfl) (hd 12 rfl) ?_
  refine jo_l (ly_lenn sl33 rfl) (hd 13 rfl) ?_
  refine jo_h (hy_mk (m := (digs B32 x).length) el33 rfl rfl rfl (by show 8 * (digs B32 x).length ≤ _; omega) (by unfold maxLen; omega) rfl) (hd 14 rfl) ?_
  refine jo_l (ly_as rfl) (hd 7 rfl) ?_
  refine jo_nil ?_
  refine jc_seq ?_
  refine jc_seq ?_
  refine jc_nilN (k := .u64) 6 rfl ?_
  refine jc_region ?_
  refine jo_l (ly_mv rfl) (hd 15 rfl) ?_
  refine jo_l (ly_lenn sl33 rfl) (hd 16 rfl) ?_
  refine jo_l (ly_sub rfl rfl (wrap_i64 (by omega) (by omega))) (hd 17 rfl) ?_
  refine jo_l (ly_as rfl) (hd 8 rfl) ?_
  refine jo_nil ?_
  refine jc_block ?_
  refine jc_H (H' := [⟨82, 1, 0, true, ints .u64 (List.replicate (digs B32 x).length 0 ++ [])⟩]) (by rw [List.append_nil]; rfl) ?_
  refine jc_loopD (G := Nat × List Int) 1 (fun g => g.1 ≤ (digs B32 x).length ∧ Qd x y g.1 g.2) (fun g => [(6, .n false .u64 (digs B32 (x / B32 ^ g.1 % y))), (8, .i .i64 ((g.1 : Int) - 1)), (9, .u), (10, .u), (11, .u), (18, .u), (19, .u), (20, .u), (21, .u), (22, .u), (23, .u), (24, .u), (25, .u), (26, .u), (27, .u), (28, .u), (29, .u), (30, .u), (31, .u), (32, .u), (33, .u), (34, .u), (35, .u), (36, .u), (37, .u), (38, .u), (39, .u), (40, .u), (41, .u), (42, .u), (43, .u), (44, .u), (45, .u), (46, .u), (47, .u), (48, .u), (49, .u), (50, .u), (51, .u), (52, .u), (53, .u), (54, .u), (55, .u), (56, .u)]) (fun g => [⟨82, 1, 0, true, ints .u64 (List.replicate g.1 0 ++ g.2)⟩]) (fun g => g.1) ((digs B32 x).length, []) ?_ ?_ rfl hR rfl (fun _ _ => rfl) (fun g _ => .cons ints_id .nil) ?_
  · exact ⟨Nat.le_refl _, qd_0⟩
  · exact (.cons (by show some (V.n false .u64 []) = some (V.n false .u64 (digs B32 (x / B32 ^ (digs B32 x).length % y))); rw [top_0, Nat.zero_mod, digs_0]) (.cons rfl (.u (.u (.u (.u (.u (.u (.u (.u (.u (.u (.u (.u (.u (.u (.u (.u (.u (.u (.u (.u (.u (.u (.u (.u (.u (.u (.u (.u (.u (.u (.u (.u (.u (.u (.u (.u (.u (.u (.u (.u (.u (.u .nil))))))))))))))))))))))))))))))))))))))))))))
  · rintro ⟨k, Q⟩ ⟨hk, hQ⟩
    dsimp only at hk hQ
    obtain ⟨R, hR0⟩ : ∃ R, x / B32 ^ k % y * B32 + x / B32 ^ (k - 1) % B32 = R := ⟨_, rfl⟩
    have hRb := dv_R (x := x) (k := k) h0
    rw [hR0] at hRb
    have hlR := len_yB hRb
    have hlA := len_le (Nat.le_of_lt (Nat.mod_lt (x / B32 ^ k) h0))
    have hAB : x / B32 ^ k % y * 2 ^ 32 < y * B32 := Nat.mul_lt_mul_of_pos_right (Nat.mod_lt (x / B32 ^ k) h0) (by decide)
    have hlAB := len_yB hAB
    have hdB := Nat.mod_lt (x / B32 ^ (k - 1)) (show 0 < B32 by decide)
    have hlD : (digs B32 (x / B32 ^ (k - 1) % B32)).length ≤ 1 := digs_len (by decide) 1 _ (by rw [Nat.pow_one]; exact hdB)
    have hNm : Spec Try.prog 80 [.n false .u64 [((x / B32 ^ (k - 1) % B32 : Nat) : Int)]] (fun o => o = .ret (.n false .u64 (digs B32 (x / B32 ^ (k - 1) % B32)))) := by have h := rnorm_s [((x / B32 ^ (k - 1) % B32 : Nat) : Int)] (by simp); rwa [trm_1 hdB] at h
    have hAdd : Spec Try.prog 64 [.n false .u64 (digs B32 (x / B32 ^ k % y * 2 ^ 32)), .n false .u64 (digs B32 (x / B32 ^ (k - 1) % B32))] (fun o => o = .ret (.n false .u64 (digs B32 R))) := by have h := rAdd_s (x / B32 ^ k % y * 2 ^ 32) (x / B32 ^ (k - 1) % B32) (by omega) (by omega); rw [show x / B32 ^ k % y * 2 ^ 32 + x / B32 ^ (k - 1) % B32 = R from hR0] at h; exact h
    refine jc_seq ?_
    refine jc_seq ?_
    refine jc_region ?_
    refine jo_l (ly_mv rfl) (hd 18 rfl) ?_
    refine jo_l (ly_ge rfl rfl) (hd 19 rfl) ?_
    refine jo_nil ?_
    refine jc_if rfl (fun h1 => ?_) (fun h1 => ?_)
    · refine jc_skip ?_
      refine jc_seq ?_
      refine jc_block ?_
      refine jc_seq ?_
      refine jc_draw (n := 10) _ rfl mixed ?_
      refine ja_l2 0 [1, 7, 8, 9] (lo_l (ly_mv rfl) (hd 22 rfl)) rfl (by kernel_rfl) (by kernel_rfl) (by kernel_rfl) (by kernel_rfl) (fun _ _ _ _ h => h) ?_
      refine ja_l2 2 [4, 5, 6, 7, 8, 9] (lo_l (ly_mv rfl) (hd 24 rfl)) rfl (by kernel_rfl) (by kernel_rfl) (by kernel_rfl) (by kernel_rfl) (fun _ _ _ _ h => h) ?_
      refine ja_l2 3 [4, 5, 6, 7, 8, 9] (lo_l (ly_mv rfl) (hd 25 rfl)) rfl (by kernel_rfl) (by kernel_rfl) (by kernel_rfl) (by kernel_rfl) (fun _ _ _ _ h => h) ?_
      refine ja_l2 4 [5, 6, 7, 8, 9] (lo_l (ly_ian (i := k - 1) sl33 rfl rfl (by omega) (by omega)) (hd 26 rfl)) rfl (by kernel_rfl) (by kernel_rfl) (by kernel_rfl) (by kernel_rfl) (fun _ _ _ _ h => h) ?_
      refine ja_l2 5 [6, 7, 8, 9] (lo_l (ly_is (ly_ldq one82 rfl rfl) (by show V.i .u64 _ = V.i .u64 (((x / B32 ^ (k - 1) % B32 : Nat) : Int)); exact congrArg (V.i .u64) (digs_at (by decide) (k - 1) x))) (hd 27 rfl)) rfl (by kernel_rfl) (by kernel_rfl) (by kernel_rfl) (by kernel_rfl) (fun _ _ _ _ h => h) ?_
      refine ja_2 1 6 ?_ ?_ rfl rfl (by kernel_rfl)
      · refine js_call Try.f60 (Shl_s (x / B32 ^ k % y) 32 (by omega) (by decide)) rfl Try.func60 rfl rfl (ovL_cons rfl (ovL_cons rfl ovL_nil)) (.cons .n (.cons .i .nil)) (hd 23 rfl) ?_ (fun ch hp => by simp at hp)
        rintro y hy; injection hy with hy; subst hy
        refine ja_1 6 ?_ rfl (by kernel_rfl)
        refine js_h (hy_lit (id := 1) (xs := [.tmp 27]) el33 rfl (ovL_cons rfl ovL_nil) rfl (all2_of rfl) (by decide) rfl) (hd 28 rfl) ?_
        refine ja_frz (k := .u64) (l := [((x / B32 ^ (k - 1) % B32 : Nat) : Int)]) (l' := [((x / B32 ^ (k - 1) % B32 : Nat) : Int)]) 28 rfl rfl (Nat.le_refl _) rfl hL ?_
        refine ja_1 7 ?_ rfl (by kernel_rfl)
        refine js_call Try.f80 (hNm) rfl Try.func80 rfl rfl (ovL_cons rfl ovL_nil) (.cons .n .nil) (hd 29 rfl) ?_ (fun ch hp => by simp at hp)
        rintro y hy; injection hy with hy; subst hy
        refine ja_1 8 ?_ rfl (by kernel_rfl)
        refine js_call Try.f64 (hAdd) rfl Try.func64 rfl rfl (ovL_cons rfl (ovL_cons rfl ovL_nil)) (.cons .n (.cons .n .nil)) (hd 30 rfl) ?_ (fun ch hp => by simp at hp)
        rintro y hy; injection hy with hy; subst hy
        refine ja_l 9 (lo_l (ly_as rfl) (hd 6 rfl)) rfl (by kernel_rfl) (by kernel_rfl) (by kernel_rfl) (fun _ _ _ _ h => h) ?_
        refine ja_nil (by kernel_rfl) ?_
        refine jc_seq ?_
        refine jc_region ?_
        refine jo_l (ly_as rfl) (hd 9 rfl) ?_
        refine jo_nil ?_
        refine jc_meetH (G := Unit) (fun _ => True) (fun _ => [(6, .n false .u64 (digs B32 (R % y))), (9, .i .u64 ((R / y : Nat) : Int)), (10, .u), (11, .u), (31, .u), (32, .u), (33, .u), (34, .u), (35, .u), (36, .u), (37, .u), (38, .u), (39, .u), (40, .u), (41, .u), (42, .u), (43, .u), (44, .u), (45, .u), (46, .u), (47, .u), (48, .u), (49, .u), (50, .u), (51, .u), (52, .u)]) ?_ ?_
        · refine jc_seq ?_
          refine jc_region ?_
          refine jo_l (ly_mv rfl) (hd 31 rfl) ?_
          refine jo_l (ly_mv rfl) (hd 32 rfl) ?_
          refine jo_call Try.f59 (rCmp_s R y (by omega) (by omega)) rfl Try.func59 rfl rfl (ovL_cons rfl (ovL_cons rfl ovL_nil)) (.cons .n (.cons .n .nil)) (hd 33 rfl) ?_ (fun ch hp => by simp at hp)
          rintro y hy; injection hy with hy; subst hy
          refine jo_l (ly_ge rfl rfl) (hd 34 rfl) ?_
          refine jo_nil ?_
          refine jc_if rfl (fun h2 => ?_) (fun h2 => ?_)
          · refine jc_seq ?_
            refine jc_region ?_
            refine jo_l (ly_as rfl) (hd 10 rfl) ?_
            refine jo_nil ?_
            refine jc_block ?_
            refine jc_loopF (G := Nat × Nat) (fun g => Hlv R y g.1 g.2) (fun g => [(6, .n false .u64 (digs B32 (R - y * g.2))), (9, .i .u64 (g.2 : Int)), (10, .i .i64 ((g.1 : Int) - 1)), (11, .u), (35, .u), (36, .u), (37, .u), (38, .u), (39, .u), (40, .u), (41, .u), (42, .u), (43, .u), (44, .u), (45, .u), (46, .u), (47, .u), (48, .u), (49, .u), (50, .u), (51, .u), (52, .u)]) (fun _ => _) (fun g => g.1) (32, 0) ?_ ?_ rfl ?_
            · exact hlv_0 hRb
            · exact (.cons (by show some (V.n false .u64 (digs B32 R)) = some (V.n false .u64 (digs B32 (R - y * 0))); rw [Nat.mul_zero, Nat.sub_zero]) (.cons rfl (.cons rfl (.u (.u (.u (.u (.u (.u (.u (.u (.u (.u (.u (.u (.u (.u (.u (.u (.u (.u (.u .nil))))))))))))))))))))))
            · rintro ⟨t, q⟩ hH
              dsimp only at hH
              have hlq := hlv_len (t := t) (q := q) hRb
              refine jc_seq ?_
              refine jc_seq ?_
              refine jc_region ?_
              refine jo_l (ly_mv rfl) (hd 35 rfl) ?_
              refine jo_l (ly_ge rfl rfl) (hd 36 rfl) ?_
              refine jo_nil ?_
              refine jc_if rfl (fun h3 => ?_) (fun h3 => ?_)
              · obtain ⟨s, rfl⟩ : ∃ s, t = s + 1 := ⟨t - 1, by omega⟩
                have hs : s < 32 := by have := hH.1; omega
                have hls := len_ys (y := y) h0 hs
                refine jc_skip ?_
                refine jc_meetH (G := Nat) (fun g => Hlv R y s g) (fun g => [(6, .n false .u64 (digs B32 (R - y * g))), (9, .i .u64 (g : Int)), (11, .u), (39, .u), (40, .u), (41, .u), (42, .u), (43, .u), (44, .u), (45, .u), (46, .u), (47, .u), (48, .u), (49, .u), (50, .u), (51, .u), (52, .u)]) ?_ ?_
                · refine jc_block ?_
                  refine jc_seq ?_
                  refine jc_region ?_
                  refine jo_l (ly_mv rfl) (hd 39 rfl) ?_
                  refine jo_l (ly_is (ly_mv rfl) (show V.i .i64 _ = V.i .i64 (s : Int) by congr 1; omega)) (hd 40 rfl) ?_
                  refine jo_call Try.f60 (Shl_s y s (by omega) (by omega)) rfl Try.func60 rfl rfl (ovL_cons rfl (ovL_cons rfl ovL_nil)) (.cons .n (.cons .i .nil)) (hd 41 rfl) ?_ (fun ch hp => by simp at hp)
                  rintro y hy; injection hy with hy; subst hy
                  refine jo_l (ly_as rfl) (hd 11 rfl) ?_
                  refine jo_nil ?_
                  refine jc_seq ?_
                  refine jc_region ?_
                  refine jo_l (ly_mv rfl) (hd 42 rfl) ?_
                  refine jo_l (ly_mv rfl) (hd 43 rfl) ?_
                  refine jo_call Try.f59 (rCmp_s (R - y * q) (y * 2 ^ s) (by omega) (by omega)) rfl Try.func59 rfl rfl (ovL_cons rfl (ovL_cons rfl ovL_nil)) (.cons .n (.cons .n .nil)) (hd 44 rfl) ?_ (fun ch hp => by simp at hp)
                  rintro y hy; injection hy with hy; subst hy
                  refine jo_l (ly_ge rfl rfl) (hd 45 rfl) ?_
                  refine jo_nil ?_
                  refine jc_if rfl (fun h4 => ?_) (fun h4 => ?_)
                  · have hle := cmp_le h4
                    obtain ⟨hy1, hy2⟩ := hlv_yes hH hle
                    have hqb := hy1.2.2.2
                    refine jc_seq ?_
                    refine jc_region ?_
                    refine jo_l (ly_mv rfl) (hd 46 rfl) ?_
                    refine jo_l (ly_mv rfl) (hd 47 rfl) ?_
                    refine jo_call Try.f65 (rSub_s (R - y * q) (y * 2 ^ s) hle (by omega) (by omega)) rfl Try.func65 rfl rfl (ovL_cons rfl (ovL_cons rfl ovL_nil)) (.cons .n (.cons .n .nil)) (hd 48 rfl) ?_ (fun ch hp => by simp at hp)
                    rintro y hy; injection hy with hy; subst hy
                    refine jo_l (ly_as rfl) (hd 6 rfl) ?_
                    refine jo_nil ?_
                    refine jc_region ?_
                    refine jo_l (ly_mv rfl) (hd 49 rfl) ?_
                    refine jo_l (ly_is (ly_mv rfl) (show V.i .i64 _ = V.i .i64 (s : Int) by congr 1; omega)) (hd 50 rfl) ?_
                    refine jo_l (ly_is (ly_shl rfl rfl (by omega) rfl) (show V.i .u64 _ = V.i .u64 (((2 ^ s : Nat) : Int)) from congrArg (V.i .u64) (bit_shl hs))) (hd 51 rfl) ?_
                    refine jo_l (ly_add rfl rfl (r := ((q + 2 ^ s : Nat) : Int)) (by generalize 2 ^ s = u at *; rw [wrap_u64 (by omega) (by omega)]; omega)) (hd 52 rfl) ?_
                    refine jo_l (ly_as rfl) (hd 9 rfl) ?_
                    refine jo_nil ?_
                    refine ⟨(q + 2 ^ s), ?_, rfl, cov_n 17 rfl rfl ?_⟩
                    · exact hy1
                    · exact (.cons (by show some (V.n false .u64 _) = some (V.n false .u64 _); rw [hy2]) (.cons rfl (.u (.u (.u (.u (.u (.u (.u (.u (.u (.u (.u (.u (.u (.u (.u .nil)))))))))))))))))
                  · have hno := hlv_no hH (fun hle => h4 (cmp_ge hle))
                    refine jc_skip ?_
                    refine ⟨q, ?_, rfl, cov_n 8 rfl rfl ?_⟩
                    · exact hno
                    · exact (.cons rfl (.cons rfl (.u (.u (.u (.u (.u (.u (.u (.u (.u (.u (.u (.u (.u (.u (.u .nil)))))))))))))))))
                · rintro q' hH'
                  refine jc_region ?_
                  refine jo_l (ly_mv rfl) (hd 37 rfl) ?_
                  refine jo_l (ly_sub rfl rfl (wrap_i64 (by omega) (by omega))) (hd 38 rfl) ?_
                  refine jo_l (ly_as rfl) (hd 10 rfl) ?_
                  refine jo_nil ?_
                  refine ⟨(s, q'), ?_, ?_, rfl, cov_n 44 rfl rfl ?_⟩
                  · exact hH'
                  · show s < s + 1
                    omega
                  · exact (.cons rfl (.cons rfl (.cons (by show some (V.i .i64 _) = some (V.i .i64 _); congr 2; omega) (.u (.u (.u (.u (.u (.u (.u (.u (.u (.u (.u (.u (.u (.u (.u (.u (.u (.u (.u .nil))))))))))))))))))))))
              · obtain rfl : t = 0 := by omega
                obtain ⟨he1, he2⟩ := hlv_end hH
                refine jc_exit ?_
                refine ⟨(), ?_, rfl, cov_n 29 rfl rfl ?_⟩
                · trivial
                · exact (.cons (by show some (V.n false .u64 _) = some (V.n false .u64 _); rw [he2]) (.cons (by show some (V.i .u64 _) = some (V.i .u64 _); rw [he1]) (.u (.u (.u (.u (.u (.u (.u (.u (.u (.u (.u (.u (.u (.u (.u (.u (.u (.u (.u (.u (.u (.u (.u (.u .nil))))))))))))))))))))))))))
          · have hlt := cmp_lt' h2
            refine jc_skip ?_
            refine ⟨(), ?_, rfl, cov_n 4 rfl rfl ?_⟩
            · trivial
            · exact (.cons (by show some (V.n false .u64 _) = some (V.n false .u64 _); rw [Nat.mod_eq_of_lt hlt]) (.cons (by show some (V.i .u64 _) = some (V.i .u64 _); rw [Nat.div_eq_of_lt hlt]; rfl) (.u (.u (.u (.u (.u (.u (.u (.u (.u (.u (.u (.u (.u (.u (.u (.u (.u (.u (.u (.u (.u (.u (.u (.u .nil))))))))))))))))))))))))))
        · rintro _ _
          refine jc_region ?_
          refine jo_l (ly_mv rfl) (hd 53 rfl) ?_
          refine jo_l (ly_mv rfl) (hd 54 rfl) ?_
          refine jo_l (ly_mv rfl) (hd 55 rfl) ?_
          refine jo_l (ly_ia (i := k - 1) sl33 rfl rfl rfl (by omega) (by omega) rfl) (hd 56 rfl) ?_
          refine jo_st (sy_storei rfl rfl rfl one82 (by simp only [List.length_append, List.length_replicate]; omega)) ?_
          refine jo_nil ?_
          refine jc_region ?_
          refine jo_l (ly_mv rfl) (hd 20 rfl) ?_
          refine jo_l (ly_sub rfl rfl (wrap_i64 (by omega) (by omega))) (hd 21 rfl) ?_
          refine jo_l (ly_as rfl) (hd 8 rfl) ?_
          refine jo_nil ?_
          refine ⟨(k - 1, ((R / y : Nat) : Int) :: Q), ?_, ?_, (by show [(⟨82, 1, 0, true, ints .u64 _⟩ : Ob)] = [⟨82, 1, 0, true, ints .u64 _⟩]; rw [dv_row (by omega)]), cov_n 91 rfl rfl ?_⟩
          · exact ⟨by show k - 1 ≤ _; omega, by rw [← hR0]; exact hQ.next h0 (by omega) hk⟩
          · show k - 1 < k
            omega
          · exact (.cons (by show some (V.n false .u64 _) = some (V.n false .u64 _); rw [(dv_digit h0 (by omega)).2, hR0]) (.cons (by show some (V.i .i64 _) = some (V.i .i64 _); congr 2; omega) (.u (.u (.u (.u (.u (.u (.u (.u (.u (.u (.u (.u (.u (.u (.u (.u (.u (.u (.u (.u (.u (.u (.u (.u (.u (.u (.u (.u (.u (.u (.u (.u (.u (.u (.u (.u (.u (.u (.u (.u (.u (.u .nil))))))))))))))))))))))))))))))))))))))))))))
      · refine js_h (hy_lit (id := 1) (xs := [.tmp 27]) el33 rfl (ovL_cons rfl ovL_nil) rfl (all2_of rfl) (by decide) rfl) (hd 28 rfl) ?_
        refine ja_frz (k := .u64) (l := [((x / B32 ^ (k - 1) % B32 : Nat) : Int)]) (l' := [((x / B32 ^ (k - 1) % B32 : Nat) : Int)]) 28 rfl rfl (Nat.le_refl _) rfl hL ?_
        refine ja_1 1 ?_ rfl (by kernel_rfl)
        refine js_call Try.f60 (Shl_s (x / B32 ^ k % y) 32 (by omega) (by decide)) rfl Try.func60 rfl rfl (ovL_cons rfl (ovL_cons rfl ovL_nil)) (.cons .n (.cons .i .nil)) (hd 23 rfl) ?_ (fun ch hp => by simp at hp)
        rintro y hy; injection hy with hy; subst hy
        refine ja_1 7 ?_ rfl (by kernel_rfl)
        refine js_call Try.f80 (hNm) rfl Try.func80 rfl rfl (ovL_cons rfl ovL_nil) (.cons .n .nil) (hd 29 rfl) ?_ (fun ch hp => by simp at hp)
        rintro y hy; injection hy with hy; subst hy
        refine ja_1 8 ?_ rfl (by kernel_rfl)
        refine js_call Try.f64 (hAdd) rfl Try.func64 rfl rfl (ovL_cons rfl (ovL_cons rfl ovL_nil)) (.cons .n (.cons .n .nil)) (hd 30 rfl) ?_ (fun ch hp => by simp at hp)
        rintro y hy; injection hy with hy; subst hy
        refine ja_l 9 (lo_l (ly_as rfl) (hd 6 rfl)) rfl (by kernel_rfl) (by kernel_rfl) (by kernel_rfl) (fun _ _ _ _ h => h) ?_
        refine ja_nil (by kernel_rfl) ?_
        refine jc_seq ?_
        refine jc_region ?_
        refine jo_l (ly_as rfl) (hd 9 rfl) ?_
        refine jo_nil ?_
        refine jc_meetH (G := Unit) (fun _ => True) (fun _ => [(6, .n false .u64 (digs B32 (R % y))), (9, .i .u64 ((R / y : Nat) : Int)), (10, .u), (11, .u), (31, .u), (32, .u), (33, .u), (34, .u), (35, .u), (36, .u), (37, .u), (38, .u), (39, .u), (40, .u), (41, .u), (42, .u), (43, .u), (44, .u), (45, .u), (46, .u), (47, .u), (48, .u), (49, .u), (50, .u), (51, .u), (52, .u)]) ?_ ?_
        · refine jc_seq ?_
          refine jc_region ?_
          refine jo_l (ly_mv rfl) (hd 31 rfl) ?_
          refine jo_l (ly_mv rfl) (hd 32 rfl) ?_
          refine jo_call Try.f59 (rCmp_s R y (by omega) (by omega)) rfl Try.func59 rfl rfl (ovL_cons rfl (ovL_cons rfl ovL_nil)) (.cons .n (.cons .n .nil)) (hd 33 rfl) ?_ (fun ch hp => by simp at hp)
          rintro y hy; injection hy with hy; subst hy
          refine jo_l (ly_ge rfl rfl) (hd 34 rfl) ?_
          refine jo_nil ?_
          refine jc_if rfl (fun h5 => ?_) (fun h5 => ?_)
          · refine jc_seq ?_
            refine jc_region ?_
            refine jo_l (ly_as rfl) (hd 10 rfl) ?_
            refine jo_nil ?_
            refine jc_block ?_
            refine jc_loopF (G := Nat × Nat) (fun g => Hlv R y g.1 g.2) (fun g => [(6, .n false .u64 (digs B32 (R - y * g.2))), (9, .i .u64 (g.2 : Int)), (10, .i .i64 ((g.1 : Int) - 1)), (11, .u), (35, .u), (36, .u), (37, .u), (38, .u), (39, .u), (40, .u), (41, .u), (42, .u), (43, .u), (44, .u), (45, .u), (46, .u), (47, .u), (48, .u), (49, .u), (50, .u), (51, .u), (52, .u)]) (fun _ => _) (fun g => g.1) (32, 0) ?_ ?_ rfl ?_
            · exact hlv_0 hRb
            · exact (.cons (by show some (V.n false .u64 (digs B32 R)) = some (V.n false .u64 (digs B32 (R - y * 0))); rw [Nat.mul_zero, Nat.sub_zero]) (.cons rfl (.cons rfl (.u (.u (.u (.u (.u (.u (.u (.u (.u (.u (.u (.u (.u (.u (.u (.u (.u (.u (.u .nil))))))))))))))))))))))
            · rintro ⟨t, q⟩ hH
              dsimp only at hH
              have hlq := hlv_len (t := t) (q := q) hRb
              refine jc_seq ?_
              refine jc_seq ?_
              refine jc_region ?_
              refine jo_l (ly_mv rfl) (hd 35 rfl) ?_
              refine jo_l (ly_ge rfl rfl) (hd 36 rfl) ?_
              refine jo_nil ?_
              refine jc_if rfl (fun h6 => ?_) (fun h6 => ?_)
              · obtain ⟨s, rfl⟩ : ∃ s, t = s + 1 := ⟨t - 1, by omega⟩
                have hs : s < 32 := by have := hH.1; omega
                have hls := len_ys (y := y) h0 hs
                refine jc_skip ?_
                refine jc_meetH (G := Nat) (fun g => Hlv R y s g) (fun g => [(6, .n false .u64 (digs B32 (R - y * g))), (9, .i .u64 (g : Int)), (11, .u), (39, .u), (40, .u), (41, .u), (42, .u), (43, .u), (44, .u), (45, .u), (46, .u), (47, .u), (48, .u), (49, .u), (50, .u), (51, .u), (52, .u)]) ?_ ?_
                · refine jc_block ?_
                  refine jc_seq ?_
                  refine jc_region ?_
                  refine jo_l (ly_mv rfl) (hd 39 rfl) ?_
                  refine jo_l (ly_is (ly_mv rfl) (show V.i .i64 _ = V.i .i64 (s : Int) by congr 1; omega)) (hd 40 rfl) ?_
                  refine jo_call Try.f60 (Shl_s y s (by omega) (by omega)) rfl Try.func60 rfl rfl (ovL_cons rfl (ovL_cons rfl ovL_nil)) (.cons .n (.cons .i .nil)) (hd 41 rfl) ?_ (fun ch hp => by simp at hp)
                  rintro y hy; injection hy with hy; subst hy
                  refine jo_l (ly_as rfl) (hd 11 rfl) ?_
                  refine jo_nil ?_
                  refine jc_seq ?_
                  refine jc_region ?_
                  refine jo_l (ly_mv rfl) (hd 42 rfl) ?_
                  refine jo_l (ly_mv rfl) (hd 43 rfl) ?_
                  refine jo_call Try.f59 (rCmp_s (R - y * q) (y * 2 ^ s) (by omega) (by omega)) rfl Try.func59 rfl rfl (ovL_cons rfl (ovL_cons rfl ovL_nil)) (.cons .n (.cons .n .nil)) (hd 44 rfl) ?_ (fun ch hp => by simp at hp)
                  rintro y hy; injection hy with hy; subst hy
                  refine jo_l (ly_ge rfl rfl) (hd 45 rfl) ?_
                  refine jo_nil ?_
                  refine jc_if rfl (fun h7 => ?_) (fun h7 => ?_)
                  · have hle := cmp_le h7
                    obtain ⟨hy1, hy2⟩ := hlv_yes hH hle
                    have hqb := hy1.2.2.2
                    refine jc_seq ?_
                    refine jc_region ?_
                    refine jo_l (ly_mv rfl) (hd 46 rfl) ?_
                    refine jo_l (ly_mv rfl) (hd 47 rfl) ?_
                    refine jo_call Try.f65 (rSub_s (R - y * q) (y * 2 ^ s) hle (by omega) (by omega)) rfl Try.func65 rfl rfl (ovL_cons rfl (ovL_cons rfl ovL_nil)) (.cons .n (.cons .n .nil)) (hd 48 rfl) ?_ (fun ch hp => by simp at hp)
                    rintro y hy; injection hy with hy; subst hy
                    refine jo_l (ly_as rfl) (hd 6 rfl) ?_
                    refine jo_nil ?_
                    refine jc_region ?_
                    refine jo_l (ly_mv rfl) (hd 49 rfl) ?_
                    refine jo_l (ly_is (ly_mv rfl) (show V.i .i64 _ = V.i .i64 (s : Int) by congr 1; omega)) (hd 50 rfl) ?_
                    refine jo_l (ly_is (ly_shl rfl rfl (by omega) rfl) (show V.i .u64 _ = V.i .u64 (((2 ^ s : Nat) : Int)) from congrArg (V.i .u64) (bit_shl hs))) (hd 51 rfl) ?_
                    refine jo_l (ly_add rfl rfl (r := ((q + 2 ^ s : Nat) : Int)) (by generalize 2 ^ s = u at *; rw [wrap_u64 (by omega) (by omega)]; omega)) (hd 52 rfl) ?_
                    refine jo_l (ly_as rfl) (hd 9 rfl) ?_
                    refine jo_nil ?_
                    refine ⟨(q + 2 ^ s), ?_, rfl, cov_n 17 rfl rfl ?_⟩
                    · exact hy1
                    · exact (.cons (by show some (V.n false .u64 _) = some (V.n false .u64 _); rw [hy2]) (.cons rfl (.u (.u (.u (.u (.u (.u (.u (.u (.u (.u (.u (.u (.u (.u (.u .nil)))))))))))))))))
                  · have hno := hlv_no hH (fun hle => h7 (cmp_ge hle))
                    refine jc_skip ?_
                    refine ⟨q, ?_, rfl, cov_n 8 rfl rfl ?_⟩
                    · exact hno
                    · exact (.cons rfl (.cons rfl (.u (.u (.u (.u (.u (.u (.u (.u (.u (.u (.u (.u (.u (.u (.u .nil)))))))))))))))))
                · rintro q' hH'
                  refine jc_region ?_
                  refine jo_l (ly_mv rfl) (hd 37 rfl) ?_
                  refine jo_l (ly_sub rfl rfl (wrap_i64 (by omega) (by omega))) (hd 38 rfl) ?_
                  refine jo_l (ly_as rfl) (hd 10 rfl) ?_
                  refine jo_nil ?_
                  refine ⟨(s, q'), ?_, ?_, rfl, cov_n 44 rfl rfl ?_⟩
                  · exact hH'
                  · show s < s + 1
                    omega
                  · exact (.cons rfl (.cons rfl (.cons (by show some (V.i .i64 _) = some (V.i .i64 _); congr 2; omega) (.u (.u (.u (.u (.u (.u (.u (.u (.u (.u (.u (.u (.u (.u (.u (.u (.u (.u (.u .nil))))))))))))))))))))))
              · obtain rfl : t = 0 := by omega
                obtain ⟨he1, he2⟩ := hlv_end hH
                refine jc_exit ?_
                refine ⟨(), ?_, rfl, cov_n 29 rfl rfl ?_⟩
                · trivial
                · exact (.cons (by show some (V.n false .u64 _) = some (V.n false .u64 _); rw [he2]) (.cons (by show some (V.i .u64 _) = some (V.i .u64 _); rw [he1]) (.u (.u (.u (.u (.u (.u (.u (.u (.u (.u (.u (.u (.u (.u (.u (.u (.u (.u (.u (.u (.u (.u (.u (.u .nil))))))))))))))))))))))))))
          · have hlt := cmp_lt' h5
            refine jc_skip ?_
            refine ⟨(), ?_, rfl, cov_n 4 rfl rfl ?_⟩
            · trivial
            · exact (.cons (by show some (V.n false .u64 _) = some (V.n false .u64 _); rw [Nat.mod_eq_of_lt hlt]) (.cons (by show some (V.i .u64 _) = some (V.i .u64 _); rw [Nat.div_eq_of_lt hlt]; rfl) (.u (.u (.u (.u (.u (.u (.u (.u (.u (.u (.u (.u (.u (.u (.u (.u (.u (.u (.u (.u (.u (.u (.u (.u .nil))))))))))))))))))))))))))
        · rintro _ _
          refine jc_region ?_
          refine jo_l (ly_mv rfl) (hd 53 rfl) ?_
          refine jo_l (ly_mv rfl) (hd 54 rfl) ?_
          refine jo_l (ly_mv rfl) (hd 55 rfl) ?_
          refine jo_l (ly_ia (i := k - 1) sl33 rfl rfl rfl (by omega) (by omega) rfl) (hd 56 rfl) ?_
          refine jo_st (sy_storei rfl rfl rfl one82 (by simp only [List.length_append, List.length_replicate]; omega)) ?_
          refine jo_nil ?_
          refine jc_region ?_
          refine jo_l (ly_mv rfl) (hd 20 rfl) ?_
          refine jo_l (ly_sub rfl rfl (wrap_i64 (by omega) (by omega))) (hd 21 rfl) ?_
          refine jo_l (ly_as rfl) (hd 8 rfl) ?_
          refine jo_nil ?_
          refine ⟨(k - 1, ((R / y : Nat) : Int) :: Q), ?_, ?_, (by show [(⟨82, 1, 0, true, ints .u64 _⟩ : Ob)] = [⟨82, 1, 0, true, ints .u64 _⟩]; rw [dv_row (by omega)]), cov_n 91 rfl rfl ?_⟩
          · exact ⟨by show k - 1 ≤ _; omega, by rw [← hR0]; exact hQ.next h0 (by omega) hk⟩
          · show k - 1 < k
            omega
          · exact (.cons (by show some (V.n false .u64 _) = some (V.n false .u64 _); rw [(dv_digit h0 (by omega)).2, hR0]) (.cons (by show some (V.i .i64 _) = some (V.i .i64 _); congr 2; omega) (.u (.u (.u (.u (.u (.u (.u (.u (.u (.u (.u (.u (.u (.u (.u (.u (.u (.u (.u (.u (.u (.u (.u (.u (.u (.u (.u (.u (.u (.u (.u (.u (.u (.u (.u (.u (.u (.u (.u (.u (.u (.u .nil))))))))))))))))))))))))))))))))))))))))))))
    · obtain rfl : k = 0 := by omega
      refine jc_exit ?_
      refine jc_seq ?_
      refine jc_region ?_
      refine jo_frz (k := .u64) (l := List.replicate 0 0 ++ Q) (l' := Q) 7 rfl rfl (by have := hQ.l; simp only [List.length_append, List.length_replicate]; omega) (by have := hQ.l; rw [List.drop_zero]; show List.take _ Q = _; rw [List.take_of_length_le (by omega)]) hL ?_
      refine jo_l (ly_mv rfl) (hd 57 rfl) ?_
      refine jo_call Try.f80 (rnorm_s Q (by have := hQ.l; omega)) rfl Try.func80 rfl rfl (ovL_cons rfl ovL_nil) (.cons .n .nil) (hd 58 rfl) ?_ (fun ch hp => by simp at hp)
      rintro y hy; injection hy with hy; subst hy
      refine jo_l (ly_mv rfl) (hd 59 rfl) ?_
      refine jo_l (ly_as rfl) (hd 4 rfl) ?_
      refine jo_l (ly_as rfl) (hd 5 rfl) ?_
      refine jo_nil ?_
      refine jc_ret ?_
      refine ⟨_, _, (.cons rfl (.cons rfl .nil)), (.t1 .n (.t1 .n .t0)), ?_⟩
      rw [hQ.fin, Nat.pow_zero, Nat.div_one]
end Go.Proofs.Ytcdipmjgpimmdaa.Vc

/- Contracts of surdref06.Floor, Ceil, Quo, Euclid, Near. -/
set_option linter.unusedVariables false
set_option linter.unusedSimpArgs false
namespace Go.Proofs.Ytcdipmjgpimmdaa.Vc
open Go Go.RowKit
set_option maxHeartbeats 4000000 in
theorem rFloor_s (v w : Int) (hv : (dg v).length < 4294967296) (hw : (dg w).length < 4294967296) (h0 : w ≠ 0) : Spec Try.prog 15 [.a [.b (decide (v < 0)), .n false .u64 (dg v)], .a [.b (decide (w < 0)), .n false .u64 (dg w)]] (fun o => o = .ret (.t [.a [.b (decide ((flo v w) < 0)), .n false .u64 (dg (flo v w))], .a [.b (decide ((v - (flo v w) * w) < 0)), .n false .u64 (dg (v - (flo v w) * w))]])) := by
  refine spec_of' [(0, .a [.b (decide (v < 0)), .n false .u64 (dg v)]), (1, .a [.b (decide (w < 0)), .n false .u64 (dg w)])] rfl Try.func15 rfl (Nat.le_of_ble_eq_true rfl) fun Γ hN hds hL hR => ?_
  have hd : ∀ d, Nat.blt d 43 = true → d < Γ.N := fun d h => by rw [hN]; exact Nat.le_of_ble_eq_true h
  have hX1 : (dg (zs (ng v w) (v.natAbs / w.natAbs))).length ≤ (dg v).length := dg_mono (by rw [zs_abs]; exact Nat.div_le_self _ _)
  have hX2 := dg_sub_len (zs (ng v w) (v.natAbs / w.natAbs)) 1
  have h1 := dg_1
  have hX3 := dg_mul_len (zs (ng v w) (v.natAbs / w.natAbs)) w
  have hX4 := dg_mul_len ((zs (ng v w) (v.natAbs / w.natAbs)) - 1) w
  refine jc_seq ?_
  refine jc_region ?_
  refine jo_h (hy_box (id := 0) (n := 2) rfl rfl rfl (by decide) rfl) (hd 2 rfl) ?_
  refine jo_h (hy_box (id := 1) (n := 2) rfl rfl rfl (by decide) rfl) (hd 3 rfl) ?_
  refine jo_h (hy_alloc (id := 2) zero35 (by decide) rfl (by decide) rfl) (hd 4 rfl) ?_
  refine jo_h (hy_alloc (id := 3) zero35 (by decide) rfl (by decide) rfl) (hd 5 rfl) ?_
  refine jo_nil ?_
  refine jc_seq ?_
  refine jc_region ?_
  refine jo_l (ly_fa fld35_1 rfl rfl rfl) (hd 10 rfl) ?_
  refine jo_l (ly_ld one33 rfl rfl rfl) (hd 11 rfl) ?_
  refine jo_l (ly_fa fld35_1 rfl rfl rfl) (hd 12 rfl) ?_
  refine jo_l (ly_ld one33 rfl rfl rfl) (hd 13 rfl) ?_
  refine jo_call Try.f57 (rDiv_s v.natAbs w.natAbs hv hw (by omega)) rfl Try.func57 rfl rfl (ovL_cons rfl (ovL_cons rfl ovL_nil)) (.cons .n (.cons .n .nil)) (hd 14 rfl) ?_ (fun ch hp => by simp at hp)
  rintro y hy; injection hy with hy; subst hy
  refine jo_l (ly_mv rfl) (hd 9 rfl) ?_
  refine jo_l (ly_ext rfl rfl) (hd 15 rfl) ?_
  refine jo_l (ly_ext rfl rfl) (hd 16 rfl) ?_
  refine jo_l (ly_as rfl) (hd 6 rfl) ?_
  refine jo_l (ly_as rfl) (hd 7 rfl) ?_
  refine jo_nil ?_
  refine jc_seq ?_
  refine jc_region ?_
  refine jo_l (ly_fa fld35_0 rfl rfl rfl) (hd 17 rfl) ?_
  refine jo_l (ly_ld one4 rfl rfl rfl) (hd 18 rfl) ?_
  refine jo_l (ly_fa fld35_0 rfl rfl rfl) (hd 19 rfl) ?_
  refine jo_l (ly_ld one4 rfl rfl rfl) (hd 20 rfl) ?_
  refine jo_l (ly_is (ly_neb und4 rfl rfl) (show V.b _ = V.b (ng v w) from rfl)) (hd 21 rfl) ?_
  refine jo_l (ly_mv rfl) (hd 22 rfl) ?_
  refine jo_call Try.f58 (make1_z (ng v w) (v.natAbs / w.natAbs)) rfl Try.func58 rfl rfl (ovL_cons rfl (ovL_cons rfl ovL_nil)) (.cons .b (.cons .n .nil)) (hd 23 rfl) ?_ (fun ch hp => by simp at hp)
  rintro y hy; injection hy with hy; subst hy
  refine jo_h (hy_alloc (id := 4) zero35 (by decide) rfl (by decide) rfl) (hd 8 rfl) ?_
  refine jo_st (sy_store rfl rfl rfl siz35 rfl rfl (Nat.le_of_ble_eq_true rfl)) ?_
  refine jo_nil ?_
  refine jc_seq ?_
  refine jc_seq ?_
  refine jc_region ?_
  refine jo_l (ly_mv rfl) (hd 24 rfl) ?_
  refine jo_call Try.f56 (Zero_s (digs B32 (v.natAbs % w.natAbs))) rfl Try.func56 rfl rfl (ovL_cons rfl ovL_nil) (.cons .n .nil) (hd 25 rfl) ?_ (fun ch hp => by simp at hp)
  rintro y hy; injection hy with hy; subst hy
  refine jo_l (ly_not rfl) (hd 26 rfl) ?_
  refine jo_l (ly_mv rfl) (hd 27 rfl) ?_
  refine jo_split 27 rfl (fun h1 => ?_) (fun h1 => ?_)
  · have hr0 : ¬ v.natAbs % w.natAbs = 0 := fun h => by rw [decide_eq_true (digs_len0.2 h)] at h1; exact absurd h1 (by decide)
    refine jo_g 27 rfl rfl (ly_fa fld35_0 rfl rfl rfl) (hd 28 rfl) ?_
    refine jo_g 27 rfl rfl (ly_ld one4 rfl rfl rfl) (hd 29 rfl) ?_
    refine jo_g 27 rfl rfl (ly_fa fld35_0 rfl rfl rfl) (hd 30 rfl) ?_
    refine jo_g 27 rfl rfl (ly_ld one4 rfl rfl rfl) (hd 31 rfl) ?_
    refine jo_g 27 rfl rfl (ly_is (ly_neb und4 rfl rfl) (show V.b _ = V.b (ng v w) from rfl)) (hd 32 rfl) ?_
    refine jo_l (ly_pick_t rfl rfl) (hd 33 rfl) ?_
    refine jo_nil ?_
    refine jc_cond rfl (fun h2 => ?_) (fun h2 => ?_)
    · have hf : (zs (ng v w) (v.natAbs / w.natAbs)) - 1 = flo v w := flo_2 h2 hr0
      refine jc_draw (n := 4) _ rfl mixed ?_
      refine ja_l 0 (lo_l (ly_lda agg35 rfl rfl rfl rfl) (hd 34 rfl)) rfl (by kernel_rfl) (by kernel_rfl) (by kernel_rfl) (fun _ _ _ _ h => h) ?_
      refine ja_1 1 ?_ rfl (by kernel_rfl)
      refine js_call Try.f38 (ZInt_s 1 (by unfold inI; omega)) rfl Try.func38 rfl rfl (ovL_cons rfl ovL_nil) (.cons .i .nil) (hd 35 rfl) ?_ (fun ch hp => by simp at hp)
      rintro y hy; injection hy with hy; subst hy
      refine ja_1 2 ?_ rfl (by kernel_rfl)
      refine js_call Try.f37 (ZSub_s _ 1 (by omega) (by omega)) rfl Try.func37 rfl rfl (ovL_cons rfl (ovL_cons rfl ovL_nil)) (.cons (.a1 .b (.a1 .n .a0)) (.cons (.a1 .b (.a1 .n .a0)) .nil)) (hd 36 rfl) ?_ (fun ch hp => by simp at hp)
      rintro y hy; injection hy with hy; subst hy
      refine ja_1 3 ?_ rfl (by kernel_rfl)
      refine js_st (sy_store rfl rfl rfl siz35 rfl rfl (Nat.le_of_ble_eq_true rfl)) rfl ?_
      refine ja_nil (by kernel_rfl) ?_
      refine jc_seq ?_
      refine jc_draw (n := 8) _ rfl mixed ?_
      refine ja_l 0 (lo_l (ly_lda agg35 rfl rfl rfl rfl) (hd 37 rfl)) rfl (by kernel_rfl) (by kernel_rfl) (by kernel_rfl) (fun _ _ _ _ h => h) ?_
      refine ja_l2 1 [5, 6, 7] (lo_l (ly_lda agg35 rfl rfl rfl rfl) (hd 38 rfl)) rfl (by kernel_rfl) (by kernel_rfl) (by kernel_rfl) (by kernel_rfl) (fun _ _ _ _ h => h) ?_
      refine ja_l2 2 [4, 5, 6, 7] (lo_l (ly_lda agg35 rfl rfl rfl rfl) (hd 39 rfl)) rfl (by kernel_rfl) (by kernel_rfl) (by kernel_rfl) (by kernel_rfl) (fun _ _ _ _ h => h) ?_
      refine ja_l2 3 [4, 5, 6, 7] (lo_l (ly_lda agg35 rfl rfl rfl rfl) (hd 40 rfl)) rfl (by kernel_rfl) (by kernel_rfl) (by kernel_rfl) (by kernel_rfl) (fun _ _ _ _ h => h) ?_
      refine ja_1 4 ?_ rfl (by kernel_rfl)
      refine js_call Try.f53 (ZMul_s _ w (by omega) (by omega)) rfl Try.func53 rfl rfl (ovL_cons rfl (ovL_cons rfl ovL_nil)) (.cons (.a1 .b (.a1 .n .a0)) (.cons (.a1 .b (.a1 .n .a0)) .nil)) (hd 41 rfl) ?_ (fun ch hp => by simp at hp)
      rintro y hy; injection hy with hy; subst hy
      refine ja_1 5 ?_ rfl (by kernel_rfl)
      refine js_call Try.f37 (ZSub_s v _ (by omega) (by omega)) rfl Try.func37 rfl rfl (ovL_cons rfl (ovL_cons rfl ovL_nil)) (.cons (.a1 .b (.a1 .n .a0)) (.cons (.a1 .b (.a1 .n .a0)) .nil)) (hd 42 rfl) ?_ (fun ch hp => by simp at hp)
      rintro y hy; injection hy with hy; subst hy
      refine ja_1 6 ?_ rfl (by kernel_rfl)
      refine js_st (sy_store rfl rfl rfl siz35 rfl rfl (Nat.le_of_ble_eq_true rfl)) rfl ?_
      refine ja_1 7 ?_ rfl (by kernel_rfl)
      refine js_st (sy_store rfl rfl rfl siz35 rfl rfl (Nat.le_of_ble_eq_true rfl)) rfl ?_
      refine ja_nil (by kernel_rfl) ?_
      refine jc_ret ?_
      refine ⟨_, _, (.cons (ResV.cell agg35 rfl rfl rfl rfl) (.cons (ResV.cell agg35 rfl rfl rfl rfl) .nil)), (.t1 (.a1 .b (.a1 .n .a0)) (.t1 (.a1 .b (.a1 .n .a0)) .t0)), ?_⟩
      rw [hf]
    · have hf : (zs (ng v w) (v.natAbs / w.natAbs)) = flo v w := flo_1 (.inl h2)
      refine jc_skip ?_
      refine jc_seq ?_
      refine jc_draw (n := 8) _ rfl mixed ?_
      refine ja_l 0 (lo_l (ly_lda agg35 rfl rfl rfl rfl) (hd 37 rfl)) rfl (by kernel_rfl) (by kernel_rfl) (by kernel_rfl) (fun _ _ _ _ h => h) ?_
      refine ja_l2 1 [5, 6, 7] (lo_l (ly_lda agg35 rfl rfl rfl rfl) (hd 38 rfl)) rfl (by kernel_rfl) (by kernel_rfl) (by kernel_rfl) (by kernel_rfl) (fun _ _ _ _ h => h) ?_
      refine ja_l2 2 [4, 5, 6, 7] (lo_l (ly_lda agg35 rfl rfl rfl rfl) (hd 39 rfl)) rfl (by kernel_rfl) (by kernel_rfl) (by kernel_rfl) (by kernel_rfl) (fun _ _ _ _ h => h) ?_
      refine ja_l2 3 [4, 5, 6, 7] (lo_l (ly_lda agg35 rfl rfl rfl rfl) (hd 40 rfl)) rfl (by kernel_rfl) (by kernel_rfl) (by kernel_rfl) (by kernel_rfl) (fun _ _ _ _ h => h) ?_
      refine ja_1 4 ?_ rfl (by kernel_rfl)
      refine js_call Try.f53 (ZMul_s _ w (by omega) (by omega)) rfl Try.func53 rfl rfl (ovL_cons rfl (ovL_cons rfl ovL_nil)) (.cons (.a1 .b (.a1 .n .a0)) (.cons (.a1 .b (.a1 .n .a0)) .nil)) (hd 41 rfl) ?_ (fun ch hp => by simp at hp)
      rintro y hy; injection hy with hy; subst hy
      refine ja_1 5 ?_ rfl (by kernel_rfl)
      refine js_call Try.f37 (ZSub_s v _ (by omega) (by omega)) rfl Try.func37 rfl rfl (ovL_cons rfl (ovL_cons rfl ovL_nil)) (.cons (.a1 .b (.a1 .n .a0)) (.cons (.a1 .b (.a1 .n .a0)) .nil)) (hd 42 rfl) ?_ (fun ch hp => by simp at hp)
      rintro y hy; injection hy with hy; subst hy
      refine ja_1 6 ?_ rfl (by kernel_rfl)
      refine js_st (sy_store rfl rfl rfl siz35 rfl rfl (Nat.le_of_ble_eq_true rfl)) rfl ?_
      refine ja_1 7 ?_ rfl (by kernel_rfl)
      refine js_st (sy_store rfl rfl rfl siz35 rfl rfl (Nat.le_of_ble_eq_true rfl)) rfl ?_
      refine ja_nil (by kernel_rfl) ?_
      refine jc_ret ?_
      refine ⟨_, _, (.cons (ResV.cell agg35 rfl rfl rfl rfl) (.cons (ResV.cell agg35 rfl rfl rfl rfl) .nil)), (.t1 (.a1 .b (.a1 .n .a0)) (.t1 (.a1 .b (.a1 .n .a0)) .t0)), ?_⟩
      rw [hf]
  · have hr0 : v.natAbs % w.natAbs = 0 := digs_len0.1 (Decidable.byContradiction fun hn => by rw [decide_eq_false hn] at h1; exact absurd h1 (by decide))
    refine jo_s 27 rfl rfl rfl (hd 28 rfl) ?_
    refine jo_s 27 rfl rfl rfl (hd 29 rfl) ?_
    refine jo_s 27 rfl rfl rfl (hd 30 rfl) ?_
    refine jo_s 27 rfl rfl rfl (hd 31 rfl) ?_
    refine jo_s 27 rfl rfl rfl (hd 32 rfl) ?_
    refine jo_l (ly_pick_f rfl rfl) (hd 33 rfl) ?_
    refine jo_nil ?_
    refine jc_litf rfl ?_
    refine jc_skip ?_
    refine jc_seq ?_
    refine jc_draw (n := 8) _ rfl mixed ?_
    refine ja_l 0 (lo_l (ly_lda agg35 rfl rfl rfl rfl) (hd 37 rfl)) rfl (by kernel_rfl) (by kernel_rfl) (by kernel_rfl) (fun _ _ _ _ h => h) ?_
    refine ja_l2 1 [5, 6, 7] (lo_l (ly_lda agg35 rfl rfl rfl rfl) (hd 38 rfl)) rfl (by kernel_rfl) (by kernel_rfl) (by kernel_rfl) (by kernel_rfl) (fun _ _ _ _ h => h) ?_
    refine ja_l2 2 [4, 5, 6, 7] (lo_l (ly_lda agg35 rfl rfl rfl rfl) (hd 39 rfl)) rfl (by kernel_rfl) (by kernel_rfl) (by kernel_rfl) (by kernel_rfl) (fun _ _ _ _ h => h) ?_
    refine ja_l2 3 [4, 5, 6, 7] (lo_l (ly_lda agg35 rfl rfl rfl rfl) (hd 40 rfl)) rfl (by kernel_rfl) (by kernel_rfl) (by kernel_rfl) (by kernel_rfl) (fun _ _ _ _ h => h) ?_
    refine ja_1 4 ?_ rfl (by kernel_rfl)
    refine js_call Try.f53 (ZMul_s _ w (by omega) (by omega)) rfl Try.func53 rfl rfl (ovL_cons rfl (ovL_cons rfl ovL_nil)) (.cons (.a1 .b (.a1 .n .a0)) (.cons (.a1 .b (.a1 .n .a0)) .nil)) (hd 41 rfl) ?_ (fun ch hp => by simp at hp)
    rintro y hy; injection hy with hy; subst hy
    refine ja_1 5 ?_ rfl (by kernel_rfl)
    refine js_call Try.f37 (ZSub_s v _ (by omega) (by omega)) rfl Try.func37 rfl rfl (ovL_cons rfl (ovL_cons rfl ovL_nil)) (.cons (.a1 .b (.a1 .n .a0)) (.cons (.a1 .b (.a1 .n .a0)) .nil)) (hd 42 rfl) ?_ (fun ch hp => by simp at hp)
    rintro y hy; injection hy with hy; subst hy
    refine ja_1 6 ?_ rfl (by kernel_rfl)
    refine js_st (sy_store rfl rfl rfl siz35 rfl rfl (Nat.le_of_ble_eq_true rfl)) rfl ?_
    refine ja_1 7 ?_ rfl (by kernel_rfl)
    refine js_st (sy_store rfl rfl rfl siz35 rfl rfl (Nat.le_of_ble_eq_true rfl)) rfl ?_
    refine ja_nil (by kernel_rfl) ?_
    refine jc_ret ?_
    refine ⟨_, _, (.cons (ResV.cell agg35 rfl rfl rfl rfl) (.cons (ResV.cell agg35 rfl rfl rfl rfl) .nil)), (.t1 (.a1 .b (.a1 .n .a0)) (.t1 (.a1 .b (.a1 .n .a0)) .t0)), ?_⟩
    rw [flo_1 (.inr hr0)]

set_option maxHeartbeats 4000000 in
theorem rCeil_s (v w : Int) (hv : (dg v).length < 4294967296) (hw : (dg w).length < 4294967296) (h0 : w ≠ 0) : Spec Try.prog 16 [.a [.b (decide (v < 0)), .n false .u64 (dg v)], .a [.b (decide (w < 0)), .n false .u64 (dg w)]] (fun o => o = .ret (.t [.a [.b (decide ((cei v w) < 0)), .n false .u64 (dg (cei v w))], .a [.b (decide ((v - (cei v w) * w) < 0)), .n false .u64 (dg (v - (cei v w) * w))]])) := by
  refine spec_of' [(0, .a [.b (decide (v < 0)), .n false .u64 (dg v)]), (1, .a [.b (decide (w < 0)), .n false .u64 (dg w)])] rfl Try.func16 rfl (Nat.le_of_ble_eq_true rfl) fun Γ hN hds hL hR => ?_
  have hd : ∀ d, Nat.blt d 28 = true → d < Γ.N := fun d h => by rw [hN]; exact Nat.le_of_ble_eq_true h
  have h1 := dg_1
  have hF : (dg (flo v w)).length ≤ (dg v).length := dg_mono (wq_abs (k := 1) (v := v) h0).1
  have hR : (dg (v - flo v w * w)).length ≤ (dg w).length := dg_mono (wq_abs (k := 1) (v := v) h0).2
  have hF1 := dg_add_len (flo v w) 1
  have hM := dg_mul_len (flo v w) w
  have hM1 := dg_mul_len (flo v w + 1) w
  refine jc_seq ?_
  refine jc_region ?_
  refine jo_h (hy_box (id := 0) (n := 2) rfl rfl rfl (by decide) rfl) (hd 2 rfl) ?_
  refine jo_h (hy_box (id := 1) (n := 2) rfl rfl rfl (by decide) rfl) (hd 3 rfl) ?_
  refine jo_h (hy_alloc (id := 2) zero35 (by decide) rfl (by decide) rfl) (hd 4 rfl) ?_
  refine jo_h (hy_alloc (id := 3) zero35 (by decide) rfl (by decide) rfl) (hd 5 rfl) ?_
  refine jo_nil ?_
  refine jc_seq ?_
  refine jc_region ?_
  refine jo_l (ly_lda agg35 rfl rfl rfl rfl) (hd 9 rfl) ?_
  refine jo_l (ly_lda agg35 rfl rfl rfl rfl) (hd 10 rfl) ?_
  refine jo_call Try.f15 (rFloor_s v w hv hw h0) rfl Try.func15 rfl rfl (ovL_cons rfl (ovL_cons rfl ovL_nil)) (.cons (.a1 .b (.a1 .n .a0)) (.cons (.a1 .b (.a1 .n .a0)) .nil)) (hd 11 rfl) ?_ (fun ch hp => by simp at hp)
  rintro y hy; injection hy with hy; subst hy
  refine jo_l (ly_mv rfl) (hd 8 rfl) ?_
  refine jo_l (ly_ext rfl rfl) (hd 12 rfl) ?_
  refine jo_l (ly_ext rfl rfl) (hd 13 rfl) ?_
  refine jo_h (hy_alloc (id := 4) zero35 (by decide) rfl (by decide) rfl) (hd 6 rfl) ?_
  refine jo_h (hy_alloc (id := 5) zero35 (by decide) rfl (by decide) rfl) (hd 7 rfl) ?_
  refine jo_st (sy_store rfl rfl rfl siz35 rfl rfl (Nat.le_of_ble_eq_true rfl)) ?_
  refine jo_st (sy_store rfl rfl rfl siz35 rfl rfl (Nat.le_of_ble_eq_true rfl)) ?_
  refine jo_nil ?_
  refine jc_seq ?_
  refine jc_seq ?_
  refine jc_region ?_
  refine jo_l (ly_lda agg35 rfl rfl rfl rfl) (hd 14 rfl) ?_
  refine jo_call Try.f13 (ZSign_s (v - flo v w * w)) rfl Try.func13 rfl rfl (ovL_cons rfl ovL_nil) (.cons (.a1 .b (.a1 .n .a0)) .nil) (hd 15 rfl) ?_ (fun ch hp => by simp at hp)
  rintro y hy; injection hy with hy; subst hy
  refine jo_l (ly_eq rfl rfl) (hd 16 rfl) ?_
  refine jo_nil ?_
  refine jc_if rfl (fun h1 => ?_) (fun h1 => ?_)
  · have hc : cei v w = flo v w := if_pos (sgnI_0.1 h1)
    refine jc_seq ?_
    refine jc_draw (n := 4) _ rfl mixed ?_
    refine ja_l 0 (lo_l (ly_lda agg35 rfl rfl rfl rfl) (hd 17 rfl)) rfl (by kernel_rfl) (by kernel_rfl) (by kernel_rfl) (fun _ _ _ _ h => h) ?_
    refine ja_2 1 2 ?_ ?_ rfl rfl (by kernel_rfl)
    · refine js_l (ly_lda agg35 rfl rfl rfl rfl) (hd 18 rfl) ?_
      refine ja_1 2 ?_ rfl (by kernel_rfl)
      refine js_st (sy_store rfl rfl rfl siz35 rfl rfl (Nat.le_of_ble_eq_true rfl)) rfl ?_
      refine ja_1 3 ?_ rfl (by kernel_rfl)
      refine js_st (sy_store rfl rfl rfl siz35 rfl rfl (Nat.le_of_ble_eq_true rfl)) rfl ?_
      refine ja_nil (by kernel_rfl) ?_
      refine jc_ret ?_
      refine ⟨_, _, (.cons (ResV.cell agg35 rfl rfl rfl rfl) (.cons (ResV.cell agg35 rfl rfl rfl rfl) .nil)), (.t1 (.a1 .b (.a1 .n .a0)) (.t1 (.a1 .b (.a1 .n .a0)) .t0)), ?_⟩
      rw [hc]
    · refine js_st (sy_store rfl rfl rfl siz35 rfl rfl (Nat.le_of_ble_eq_true rfl)) rfl ?_
      refine ja_l 1 (lo_l (ly_lda agg35 rfl rfl rfl rfl) (hd 18 rfl)) rfl (by kernel_rfl) (by kernel_rfl) (by kernel_rfl) (fun _ _ _ _ h => h) ?_
      refine ja_1 3 ?_ rfl (by kernel_rfl)
      refine js_st (sy_store rfl rfl rfl siz35 rfl rfl (Nat.le_of_ble_eq_true rfl)) rfl ?_
      refine ja_nil (by kernel_rfl) ?_
      refine jc_ret ?_
      refine ⟨_, _, (.cons (ResV.cell agg35 rfl rfl rfl rfl) (.cons (ResV.cell agg35 rfl rfl rfl rfl) .nil)), (.t1 (.a1 .b (.a1 .n .a0)) (.t1 (.a1 .b (.a1 .n .a0)) .t0)), ?_⟩
      rw [hc]
  · have hc : cei v w = flo v w + 1 := if_neg (fun h => h1 (sgnI_0.2 h))
    refine jc_skip ?_
    refine jc_seq ?_
    refine jc_draw (n := 4) _ rfl mixed ?_
    refine ja_l 0 (lo_l (ly_lda agg35 rfl rfl rfl rfl) (hd 19 rfl)) rfl (by kernel_rfl) (by kernel_rfl) (by kernel_rfl) (fun _ _ _ _ h => h) ?_
    refine ja_1 1 ?_ rfl (by kernel_rfl)
    refine js_call Try.f38 (ZInt_s 1 (by unfold inI; omega)) rfl Try.func38 rfl rfl (ovL_cons rfl ovL_nil) (.cons .i .nil) (hd 20 rfl) ?_ (fun ch hp => by simp at hp)
    rintro y hy; injection hy with hy; subst hy
    refine ja_1 2 ?_ rfl (by kernel_rfl)
    refine js_call Try.f35 (ZAdd_s (flo v w) 1 (by omega) (by omega)) rfl Try.func35 rfl rfl (ovL_cons rfl (ovL_cons rfl ovL_nil)) (.cons (.a1 .b (.a1 .n .a0)) (.cons (.a1 .b (.a1 .n .a0)) .nil)) (hd 21 rfl) ?_ (fun ch hp => by simp at hp)
    rintro y hy; injection hy with hy; subst hy
    refine ja_1 3 ?_ rfl (by kernel_rfl)
    refine js_st (sy_store rfl rfl rfl siz35 rfl rfl (Nat.le_of_ble_eq_true rfl)) rfl ?_
    refine ja_nil (by kernel_rfl) ?_
    refine jc_seq ?_
    refine jc_draw (n := 8) _ rfl mixed ?_
    refine ja_l 0 (lo_l (ly_lda agg35 rfl rfl rfl rfl) (hd 22 rfl)) rfl (by kernel_rfl) (by kernel_rfl) (by kernel_rfl) (fun _ _ _ _ h => h) ?_
    refine ja_l2 1 [5, 6, 7] (lo_l (ly_lda agg35 rfl rfl rfl rfl) (hd 23 rfl)) rfl (by kernel_rfl) (by kernel_rfl) (by kernel_rfl) (by kernel_rfl) (fun _ _ _ _ h => h) ?_
    refine ja_l2 2 [4, 5, 6, 7] (lo_l (ly_lda agg35 rfl rfl rfl rfl) (hd 24 rfl)) rfl (by kernel_rfl) (by kernel_rfl) (by kernel_rfl) (by kernel_rfl) (fun _ _ _ _ h => h) ?_
    refine ja_l2 3 [4, 5, 6, 7] (lo_l (ly_lda agg35 rfl rfl rfl rfl) (hd 25 rfl)) rfl (by kernel_rfl) (by kernel_rfl) (by kernel_rfl) (by kernel_rfl) (fun _ _ _ _ h => h) ?_
    refine ja_1 4 ?_ rfl (by kernel_rfl)
    refine js_call Try.f53 (ZMul_s (flo v w + 1) w (by omega) (by omega)) rfl Try.func53 rfl rfl (ovL_cons rfl (ovL_cons rfl ovL_nil)) (.cons (.a1 .b (.a1 .n .a0)) (.cons (.a1 .b (.a1 .n .a0)) .nil)) (hd 26 rfl) ?_ (fun ch hp => by simp at hp)
    rintro y hy; injection hy with hy; subst hy
    refine ja_1 5 ?_ rfl (by kernel_rfl)
    refine js_call Try.f37 (ZSub_s v ((flo v w + 1) * w) (by omega) (by omega)) rfl Try.func37 rfl rfl (ovL_cons rfl (ovL_cons rfl ovL_nil)) (.cons (.a1 .b (.a1 .n .a0)) (.cons (.a1 .b (.a1 .n .a0)) .nil)) (hd 27 rfl) ?_ (fun ch hp => by simp at hp)
    rintro y hy; injection hy with hy; subst hy
    refine ja_1 6 ?_ rfl (by kernel_rfl)
    refine js_st (sy_store rfl rfl rfl siz35 rfl rfl (Nat.le_of_ble_eq_true rfl)) rfl ?_
    refine ja_1 7 ?_ rfl (by kernel_rfl)
    refine js_st (sy_store rfl rfl rfl siz35 rfl rfl (Nat.le_of_ble_eq_true rfl)) rfl ?_
    refine ja_nil (by kernel_rfl) ?_
    refine jc_ret ?_
    refine ⟨_, _, (.cons (ResV.cell agg35 rfl rfl rfl rfl) (.cons (ResV.cell agg35 rfl rfl rfl rfl) .nil)), (.t1 (.a1 .b (.a1 .n .a0)) (.t1 (.a1 .b (.a1 .n .a0)) .t0)), ?_⟩
    rw [hc]

set_option maxHeartbeats 4000000 in
theorem rQuo_s (v w : Int) (hv : (dg v).length < 4294967296) (hw : (dg w).length < 4294967296) (h0 : w ≠ 0) : Spec Try.prog 14 [.a [.b (decide (v < 0)), .n false .u64 (dg v)], .a [.b (decide (w < 0)), .n false .u64 (dg w)]] (fun o => o = .ret (.t [.a [.b (decide ((wq 0 v w) < 0)), .n false .u64 (dg (wq 0 v w))], .a [.b (decide ((v - (wq 0 v w) * w) < 0)), .n false .u64 (dg (v - (wq 0 v w) * w))]])) := by
  refine spec_of' [(0, .a [.b (decide (v < 0)), .n false .u64 (dg v)]), (1, .a [.b (decide (w < 0)), .n false .u64 (dg w)])] rfl Try.func14 rfl (Nat.le_of_ble_eq_true rfl) fun Γ hN hds hL hR => ?_
  have hd : ∀ d, Nat.blt d 21 = true → d < Γ.N := fun d h => by rw [hN]; exact Nat.le_of_ble_eq_true h
  refine jc_seq ?_
  refine jc_region ?_
  refine jo_h (hy_box (id := 0) (n := 2) rfl rfl rfl (by decide) rfl) (hd 2 rfl) ?_
  refine jo_h (hy_box (id := 1) (n := 2) rfl rfl rfl (by decide) rfl) (hd 3 rfl) ?_
  refine jo_h (hy_alloc (id := 2) zero35 (by decide) rfl (by decide) rfl) (hd 4 rfl) ?_
  refine jo_h (hy_alloc (id := 3) zero35 (by decide) rfl (by decide) rfl) (hd 5 rfl) ?_
  refine jo_nil ?_
  refine jc_seq ?_
  refine jc_seq ?_
  refine jc_region ?_
  refine jo_l (ly_fa fld35_0 rfl rfl rfl) (hd 6 rfl) ?_
  refine jo_l (ly_ld one4 rfl rfl rfl) (hd 7 rfl) ?_
  refine jo_l (ly_fa fld35_0 rfl rfl rfl) (hd 8 rfl) ?_
  refine jo_l (ly_ld one4 rfl rfl rfl) (hd 9 rfl) ?_
  refine jo_l (ly_eqb und4 rfl rfl) (hd 10 rfl) ?_
  refine jo_nil ?_
  refine jc_cond rfl (fun h1 => ?_) (fun h1 => ?_)
  · have hc : wq 0 v w = flo v w := by unfold wq ng; rw [h1]; rfl
    refine jc_seq ?_
    refine jc_region ?_
    refine jo_l (ly_lda agg35 rfl rfl rfl rfl) (hd 11 rfl) ?_
    refine jo_l (ly_lda agg35 rfl rfl rfl rfl) (hd 12 rfl) ?_
    refine jo_call Try.f15 (rFloor_s v w hv hw h0) rfl Try.func15 rfl rfl (ovL_cons rfl (ovL_cons rfl ovL_nil)) (.cons (.a1 .b (.a1 .n .a0)) (.cons (.a1 .b (.a1 .n .a0)) .nil)) (hd 13 rfl) ?_ (fun ch hp => by simp at hp)
    rintro y hy; injection hy with hy; subst hy
    refine jo_l (ly_ext rfl rfl) (hd 14 rfl) ?_
    refine jo_l (ly_ext rfl rfl) (hd 15 rfl) ?_
    refine jo_st (sy_store rfl rfl rfl siz35 rfl rfl (Nat.le_of_ble_eq_true rfl)) ?_
    refine jo_st (sy_store rfl rfl rfl siz35 rfl rfl (Nat.le_of_ble_eq_true rfl)) ?_
    refine jo_nil ?_
    refine jc_ret ?_
    refine ⟨_, _, (.cons (ResV.cell agg35 rfl rfl rfl rfl) (.cons (ResV.cell agg35 rfl rfl rfl rfl) .nil)), (.t1 (.a1 .b (.a1 .n .a0)) (.t1 (.a1 .b (.a1 .n .a0)) .t0)), ?_⟩
    rw [hc]
  · have hc : wq 0 v w = cei v w := by unfold wq ng; rw [h1]; rfl
    refine jc_skip ?_
    refine jc_seq ?_
    refine jc_region ?_
    refine jo_l (ly_lda agg35 rfl rfl rfl rfl) (hd 16 rfl) ?_
    refine jo_l (ly_lda agg35 rfl rfl rfl rfl) (hd 17 rfl) ?_
    refine jo_call Try.f16 (rCeil_s v w hv hw h0) rfl Try.func16 rfl rfl (ovL_cons rfl (ovL_cons rfl ovL_nil)) (.cons (.a1 .b (.a1 .n .a0)) (.cons (.a1 .b (.a1 .n .a0)) .nil)) (hd 18 rfl) ?_ (fun ch hp => by simp at hp)
    rintro y hy; injection hy with hy; subst hy
    refine jo_l (ly_ext rfl rfl) (hd 19 rfl) ?_
    refine jo_l (ly_ext rfl rfl) (hd 20 rfl) ?_
    refine jo_st (sy_store rfl rfl rfl siz35 rfl rfl (Nat.le_of_ble_eq_true rfl)) ?_
    refine jo_st (sy_store rfl rfl rfl siz35 rfl rfl (Nat.le_of_ble_eq_true rfl)) ?_
    refine jo_nil ?_
    refine jc_ret ?_
    refine ⟨_, _, (.cons (ResV.cell agg35 rfl rfl rfl rfl) (.cons (ResV.cell agg35 rfl rfl rfl rfl) .nil)), (.t1 (.a1 .b (.a1 .n .a0)) (.t1 (.a1 .b (.a1 .n .a0)) .t0)), ?_⟩
    rw [hc]

set_option maxHeartbeats 4000000 in
theorem rEuclid_s (v w : Int) (hv : (dg v).length < 4294967296) (hw : (dg w).length < 4294967296) (h0 : w ≠ 0) : Spec Try.prog 18 [.a [.b (decide (v < 0)), .n false .u64 (dg v)], .a [.b (decide (w < 0)), .n false .u64 (dg w)]] (fun o => o = .ret (.t [.a [.b (decide ((wq 4 v w) < 0)), .n false .u64 (dg (wq 4 v w))], .a [.b (decide ((v - (wq 4 v w) * w) < 0)), .n false .u64 (dg (v - (wq 4 v w) * w))]])) := by
  refine spec_of' [(0, .a [.b (decide (v < 0)), .n false .u64 (dg v)]), (1, .a [.b (decide (w < 0)), .n false .u64 (dg w)])] rfl Try.func18 rfl (Nat.le_of_ble_eq_true rfl) fun Γ hN hds hL hR => ?_
  have hd : ∀ d, Nat.blt d 18 = true → d < Γ.N := fun d h => by rw [hN]; exact Nat.le_of_ble_eq_true h
  refine jc_seq ?_
  refine jc_region ?_
  refine jo_h (hy_box (id := 0) (n := 2) rfl rfl rfl (by decide) rfl) (hd 2 rfl) ?_
  refine jo_h (hy_box (id := 1) (n := 2) rfl rfl rfl (by decide) rfl) (hd 3 rfl) ?_
  refine jo_h (hy_alloc (id := 2) zero35 (by decide) rfl (by decide) rfl) (hd 4 rfl) ?_
  refine jo_h (hy_alloc (id := 3) zero35 (by decide) rfl (by decide) rfl) (hd 5 rfl) ?_
  refine jo_nil ?_
  refine jc_seq ?_
  refine jc_seq ?_
  refine jc_region ?_
  refine jo_l (ly_fa fld35_0 rfl rfl rfl) (hd 6 rfl) ?_
  refine jo_l (ly_ld one4 rfl rfl rfl) (hd 7 rfl) ?_
  refine jo_nil ?_
  refine jc_if rfl (fun h1 => ?_) (fun h1 => ?_)
  · have hc : wq 4 v w = cei v w := if_pos h1
    refine jc_seq ?_
    refine jc_region ?_
    refine jo_l (ly_lda agg35 rfl rfl rfl rfl) (hd 8 rfl) ?_
    refine jo_l (ly_lda agg35 rfl rfl rfl rfl) (hd 9 rfl) ?_
    refine jo_call Try.f16 (rCeil_s v w hv hw h0) rfl Try.func16 rfl rfl (ovL_cons rfl (ovL_cons rfl ovL_nil)) (.cons (.a1 .b (.a1 .n .a0)) (.cons (.a1 .b (.a1 .n .a0)) .nil)) (hd 10 rfl) ?_ (fun ch hp => by simp at hp)
    rintro y hy; injection hy with hy; subst hy
    refine jo_l (ly_ext rfl rfl) (hd 11 rfl) ?_
    refine jo_l (ly_ext rfl rfl) (hd 12 rfl) ?_
    refine jo_st (sy_store rfl rfl rfl siz35 rfl rfl (Nat.le_of_ble_eq_true rfl)) ?_
    refine jo_st (sy_store rfl rfl rfl siz35 rfl rfl (Nat.le_of_ble_eq_true rfl)) ?_
    refine jo_nil ?_
    refine jc_ret ?_
    refine ⟨_, _, (.cons (ResV.cell agg35 rfl rfl rfl rfl) (.cons (ResV.cell agg35 rfl rfl rfl rfl) .nil)), (.t1 (.a1 .b (.a1 .n .a0)) (.t1 (.a1 .b (.a1 .n .a0)) .t0)), ?_⟩
    rw [hc]
  · have hc : wq 4 v w = flo v w := if_neg h1
    refine jc_skip ?_
    refine jc_seq ?_
    refine jc_region ?_
    refine jo_l (ly_lda agg35 rfl rfl rfl rfl) (hd 13 rfl) ?_
    refine jo_l (ly_lda agg35 rfl rfl rfl rfl) (hd 14 rfl) ?_
    refine jo_call Try.f15 (rFloor_s v w hv hw h0) rfl Try.func15 rfl rfl (ovL_cons rfl (ovL_cons rfl ovL_nil)) (.cons (.a1 .b (.a1 .n .a0)) (.cons (.a1 .b (.a1 .n .a0)) .nil)) (hd 15 rfl) ?_ (fun ch hp => by simp at hp)
    rintro y hy; injection hy with hy; subst hy
    refine jo_l (ly_ext rfl rfl) (hd 16 rfl) ?_
    refine jo_l (ly_ext rfl rfl) (hd 17 rfl) ?_
    refine jo_st (sy_store rfl rfl rfl siz35 rfl rfl (Nat.le_of_ble_eq_true rfl)) ?_
    refine jo_st (sy_store rfl rfl rfl siz35 rfl rfl (Nat.le_of_ble_eq_true rfl)) ?_
    refine jo_nil ?_
    refine jc_ret ?_
    refine ⟨_, _, (.cons (ResV.cell agg35 rfl rfl rfl rfl) (.cons (ResV.cell agg35 rfl rfl rfl rfl) .nil)), (.t1 (.a1 .b (.a1 .n .a0)) (.t1 (.a1 .b (.a1 .n .a0)) .t0)), ?_⟩
    rw [hc]

set_option maxHeartbeats 4000000 in
theorem rNear_s (v w : Int) (hv : (dg v).length < 4294967296) (hw : (dg w).length < 4294967296) (h0 : w ≠ 0) : Spec Try.prog 17 [.a [.b (decide (v < 0)), .n false .u64 (dg v)], .a [.b (decide (w < 0)), .n false .u64 (dg w)]] (fun o => o = .ret (.t [.a [.b (decide ((nea v w) < 0)), .n false .u64 (dg (nea v w))], .a [.b (decide ((v - (nea v w) * w) < 0)), .n false .u64 (dg (v - (nea v w) * w))]])) := by
  refine spec_of' [(0, .a [.b (decide (v < 0)), .n false .u64 (dg v)]), (1, .a [.b (decide (w < 0)), .n false .u64 (dg w)])] rfl Try.func17 rfl (Nat.le_of_ble_eq_true rfl) fun Γ hN hds hL hR => ?_
  have hd : ∀ d, Nat.blt d 42 = true → d < Γ.N := fun d h => by rw [hN]; exact Nat.le_of_ble_eq_true h
  have h1 := dg_1
  have hF : (dg (flo v w)).length ≤ (dg v).length := dg_mono (wq_abs (k := 1) (v := v) h0).1
  have hR : (dg (v - flo v w * w)).length ≤ (dg w).length := dg_mono (wq_abs (k := 1) (v := v) h0).2
  have hF1 := dg_add_len (flo v w) 1
  have hM := dg_mul_len (flo v w) w
  have hM1 := dg_mul_len (flo v w + 1) w
  have hS : (digs B32 (((v - flo v w * w)).natAbs * 2 ^ 1)).length ≤ (dg w).length + 1 := len_yB (by (have : (v - flo v w * w).natAbs ≤ w.natAbs := (wq_abs (k := 1) (v := v) h0).2; show _ * 2 < _ * 4294967296; omega))
  refine jc_seq ?_
  refine jc_region ?_
  refine jo_h (hy_box (id := 0) (n := 2) rfl rfl rfl (by decide) rfl) (hd 2 rfl) ?_
  refine jo_h (hy_box (id := 1) (n := 2) rfl rfl rfl (by decide) rfl) (hd 3 rfl) ?_
  refine jo_h (hy_alloc (id := 2) zero35 (by decide) rfl (by decide) rfl) (hd 4 rfl) ?_
  refine jo_h (hy_alloc (id := 3) zero35 (by decide) rfl (by decide) rfl) (hd 5 rfl) ?_
  refine jo_nil ?_
  refine jc_seq ?_
  refine jc_region ?_
  refine jo_l (ly_lda agg35 rfl rfl rfl rfl) (hd 10 rfl) ?_
  refine jo_l (ly_lda agg35 rfl rfl rfl rfl) (hd 11 rfl) ?_
  refine jo_call Try.f15 (rFloor_s v w hv hw h0) rfl Try.func15 rfl rfl (ovL_cons rfl (ovL_cons rfl ovL_nil)) (.cons (.a1 .b (.a1 .n .a0)) (.cons (.a1 .b (.a1 .n .a0)) .nil)) (hd 12 rfl) ?_ (fun ch hp => by simp at hp)
  rintro y hy; injection hy with hy; subst hy
  refine jo_l (ly_mv rfl) (hd 9 rfl) ?_
  refine jo_l (ly_ext rfl rfl) (hd 13 rfl) ?_
  refine jo_l (ly_ext rfl rfl) (hd 14 rfl) ?_
  refine jo_h (hy_alloc (id := 4) zero35 (by decide) rfl (by decide) rfl) (hd 6 rfl) ?_
  refine jo_h (hy_alloc (id := 5) zero35 (by decide) rfl (by decide) rfl) (hd 7 rfl) ?_
  refine jo_st (sy_store rfl rfl rfl siz35 rfl rfl (Nat.le_of_ble_eq_true rfl)) ?_
  refine jo_st (sy_store rfl rfl rfl siz35 rfl rfl (Nat.le_of_ble_eq_true rfl)) ?_
  refine jo_nil ?_
  refine jc_seq ?_
  refine jc_draw (n := 7) _ rfl mixed ?_
  refine ja_l2 0 [1, 2, 5, 6] (lo_l (ly_fa fld35_1 rfl rfl rfl) (hd 15 rfl)) rfl (by kernel_rfl) (by kernel_rfl) (by kernel_rfl) (by kernel_rfl) (fun _ _ _ _ h => h) ?_
  refine ja_l2 1 [2, 5, 6] (lo_l (ly_ld one33 rfl rfl rfl) (hd 16 rfl)) rfl (by kernel_rfl) (by kernel_rfl) (by kernel_rfl) (by kernel_rfl) (fun _ _ _ _ h => h) ?_
  refine ja_l2 3 [4, 5, 6] (lo_l (ly_fa fld35_1 rfl rfl rfl) (hd 18 rfl)) rfl (by kernel_rfl) (by kernel_rfl) (by kernel_rfl) (by kernel_rfl) (fun _ _ _ _ h => h) ?_
  refine ja_l 4 (lo_l (ly_ld one33 rfl rfl rfl) (hd 19 rfl)) rfl (by kernel_rfl) (by kernel_rfl) (by kernel_rfl) (fun _ _ _ _ h => h) ?_
  refine ja_1 2 ?_ rfl (by kernel_rfl)
  refine js_call Try.f60 (Shl_s ((v - flo v w * w)).natAbs 1 (by show (dg (v - flo v w * w)).length < _; omega) (by decide)) rfl Try.func60 rfl rfl (ovL_cons rfl (ovL_cons rfl ovL_nil)) (.cons .n (.cons .i .nil)) (hd 17 rfl) ?_ (fun ch hp => by simp at hp)
  rintro y hy; injection hy with hy; subst hy
  refine ja_1 5 ?_ rfl (by kernel_rfl)
  refine js_call Try.f59 (rCmp_s (((v - flo v w * w)).natAbs * 2 ^ 1) w.natAbs (by omega) (by show (dg w).length < _; omega)) rfl Try.func59 rfl rfl (ovL_cons rfl (ovL_cons rfl ovL_nil)) (.cons .n (.cons .n .nil)) (hd 20 rfl) ?_ (fun ch hp => by simp at hp)
  rintro y hy; injection hy with hy; subst hy
  refine ja_l 6 (lo_l (ly_as rfl) (hd 8 rfl)) rfl (by kernel_rfl) (by kernel_rfl) (by kernel_rfl) (fun _ _ _ _ h => h) ?_
  refine ja_nil (by kernel_rfl) ?_
  refine jc_seq ?_
  refine jc_seq ?_
  refine jc_region ?_
  refine jo_l (ly_mv rfl) (hd 21 rfl) ?_
  refine jo_l (ly_gt rfl rfl) (hd 22 rfl) ?_
  refine jo_l (ly_mv rfl) (hd 23 rfl) ?_
  refine jo_ifp 23 rfl (fun h1 => ?_) (fun h1 => ?_)
  · have hc := nea_yes h1
    refine jo_s 23 rfl rfl rfl (hd 24 rfl) ?_
    refine jo_s 23 rfl rfl rfl (hd 25 rfl) ?_
    refine jo_s 23 rfl rfl rfl (hd 26 rfl) ?_
    refine jo_s' 26 rfl rfl (hd 27 rfl) ?_
    refine jo_s' 26 rfl rfl (hd 28 rfl) ?_
    refine jo_s' 26 rfl rfl (hd 29 rfl) ?_
    refine jo_s' 26 rfl rfl (hd 30 rfl) ?_
    refine jo_s 23 rfl rfl rfl (hd 31 rfl) ?_
    refine jo_l (ly_pick_t rfl rfl) (hd 32 rfl) ?_
    refine jo_nil ?_
    refine jc_litt rfl ?_
    refine jc_draw (n := 4) _ rfl mixed ?_
    refine ja_l 0 (lo_l (ly_lda agg35 rfl rfl rfl rfl) (hd 33 rfl)) rfl (by kernel_rfl) (by kernel_rfl) (by kernel_rfl) (fun _ _ _ _ h => h) ?_
    refine ja_1 1 ?_ rfl (by kernel_rfl)
    refine js_call Try.f38 (ZInt_s 1 (by unfold inI; omega)) rfl Try.func38 rfl rfl (ovL_cons rfl ovL_nil) (.cons .i .nil) (hd 34 rfl) ?_ (fun ch hp => by simp at hp)
    rintro y hy; injection hy with hy; subst hy
    refine ja_1 2 ?_ rfl (by kernel_rfl)
    refine js_call Try.f35 (ZAdd_s (flo v w) 1 (by omega) (by omega)) rfl Try.func35 rfl rfl (ovL_cons rfl (ovL_cons rfl ovL_nil)) (.cons (.a1 .b (.a1 .n .a0)) (.cons (.a1 .b (.a1 .n .a0)) .nil)) (hd 35 rfl) ?_ (fun ch hp => by simp at hp)
    rintro y hy; injection hy with hy; subst hy
    refine ja_1 3 ?_ rfl (by kernel_rfl)
    refine js_st (sy_store rfl rfl rfl siz35 rfl rfl (Nat.le_of_ble_eq_true rfl)) rfl ?_
    refine ja_nil (by kernel_rfl) ?_
    refine jc_seq ?_
    refine jc_draw (n := 8) _ rfl mixed ?_
    refine ja_l 0 (lo_l (ly_lda agg35 rfl rfl rfl rfl) (hd 36 rfl)) rfl (by kernel_rfl) (by kernel_rfl) (by kernel_rfl) (fun _ _ _ _ h => h) ?_
    refine ja_l2 1 [5, 6, 7] (lo_l (ly_lda agg35 rfl rfl rfl rfl) (hd 37 rfl)) rfl (by kernel_rfl) (by kernel_rfl) (by kernel_rfl) (by kernel_rfl) (fun _ _ _ _ h => h) ?_
    refine ja_l2 2 [4, 5, 6, 7] (lo_l (ly_lda agg35 rfl rfl rfl rfl) (hd 38 rfl)) rfl (by kernel_rfl) (by kernel_rfl) (by kernel_rfl) (by kernel_rfl) (fun _ _ _ _ h => h) ?_
    refine ja_l2 3 [4, 5, 6, 7] (lo_l (ly_lda agg35 rfl rfl rfl rfl) (hd 39 rfl)) rfl (by kernel_rfl) (by kernel_rfl) (by kernel_rfl) (by kernel_rfl) (fun _ _ _ _ h => h) ?_
    refine ja_1 4 ?_ rfl (by kernel_rfl)
    refine js_call Try.f53 (ZMul_s _ w (by omega) (by omega)) rfl Try.func53 rfl rfl (ovL_cons rfl (ovL_cons rfl ovL_nil)) (.cons (.a1 .b (.a1 .n .a0)) (.cons (.a1 .b (.a1 .n .a0)) .nil)) (hd 40 rfl) ?_ (fun ch hp => by simp at hp)
    rintro y hy; injection hy with hy; subst hy
    refine ja_1 5 ?_ rfl (by kernel_rfl)
    refine js_call Try.f37 (ZSub_s v _ (by omega) (by omega)) rfl Try.func37 rfl rfl (ovL_cons rfl (ovL_cons rfl ovL_nil)) (.cons (.a1 .b (.a1 .n .a0)) (.cons (.a1 .b (.a1 .n .a0)) .nil)) (hd 41 rfl) ?_ (fun ch hp => by simp at hp)
    rintro y hy; injection hy with hy; subst hy
    refine ja_1 6 ?_ rfl (by kernel_rfl)
    refine js_st (sy_store rfl rfl rfl siz35 rfl rfl (Nat.le_of_ble_eq_true rfl)) rfl ?_
    refine ja_1 7 ?_ rfl (by kernel_rfl)
    refine js_st (sy_store rfl rfl rfl siz35 rfl rfl (Nat.le_of_ble_eq_true rfl)) rfl ?_
    refine ja_nil (by kernel_rfl) ?_
    refine jc_ret ?_
    refine ⟨_, _, (.cons (ResV.cell agg35 rfl rfl rfl rfl) (.cons (ResV.cell agg35 rfl rfl rfl rfl) .nil)), (.t1 (.a1 .b (.a1 .n .a0)) (.t1 (.a1 .b (.a1 .n .a0)) .t0)), ?_⟩
    first | rw [nea_yes (by assumption)] | rw [nea_tie (by assumption), if_pos (by assumption)] | rw [nea_tie (by assumption), if_neg (by assumption)] | rw [nea_no (by assumption) (by assumption)]
  · refine jo_g 23 rfl rfl (ly_mv rfl) (hd 24 rfl) ?_
    refine jo_g 23 rfl rfl (ly_eq rfl rfl) (hd 25 rfl) ?_
    refine jo_g 23 rfl rfl (ly_mv rfl) (hd 26 rfl) ?_
    refine jo_ifp 26 rfl (fun h3 => ?_) (fun h3 => ?_)
    · refine jo_g 26 rfl rfl (ly_fa fld35_1 rfl rfl rfl) (hd 27 rfl) ?_
      refine jo_g 26 rfl rfl (ly_ld one33 rfl rfl rfl) (hd 28 rfl) ?_
      refine jo_callg Try.f61 26 rfl rfl (Bit_s (flo v w).natAbs 0 (by show (dg (flo v w)).length < _; omega) (by decide)) rfl Try.func61 rfl rfl (ovL_cons rfl (ovL_cons rfl ovL_nil)) (.cons .n (.cons .i .nil)) (hd 29 rfl) ?_ (fun ch hp => by simp at hp)
      rintro y hy; injection hy with hy; subst hy
      refine jo_g 26 rfl rfl (ly_eq rfl rfl) (hd 30 rfl) ?_
      refine jo_g 23 rfl rfl (ly_pick_t rfl rfl) (hd 31 rfl) ?_
      refine jo_l (ly_pick_f rfl rfl) (hd 32 rfl) ?_
      refine jo_nil ?_
      refine jc_if rfl (fun h4 => ?_) (fun h4 => ?_)
      · refine jc_draw (n := 4) _ rfl mixed ?_
        refine ja_l 0 (lo_l (ly_lda agg35 rfl rfl rfl rfl) (hd 33 rfl)) rfl (by kernel_rfl) (by kernel_rfl) (by kernel_rfl) (fun _ _ _ _ h => h) ?_
        refine ja_1 1 ?_ rfl (by kernel_rfl)
        refine js_call Try.f38 (ZInt_s 1 (by unfold inI; omega)) rfl Try.func38 rfl rfl (ovL_cons rfl ovL_nil) (.cons .i .nil) (hd 34 rfl) ?_ (fun ch hp => by simp at hp)
        rintro y hy; injection hy with hy; subst hy
        refine ja_1 2 ?_ rfl (by kernel_rfl)
        refine js_call Try.f35 (ZAdd_s (flo v w) 1 (by omega) (by omega)) rfl Try.func35 rfl rfl (ovL_cons rfl (ovL_cons rfl ovL_nil)) (.cons (.a1 .b (.a1 .n .a0)) (.cons (.a1 .b (.a1 .n .a0)) .nil)) (hd 35 rfl) ?_ (fun ch hp => by simp at hp)
        rintro y hy; injection hy with hy; subst hy
        refine ja_1 3 ?_ rfl (by kernel_rfl)
        refine js_st (sy_store rfl rfl rfl siz35 rfl rfl (Nat.le_of_ble_eq_true rfl)) rfl ?_
        refine ja_nil (by kernel_rfl) ?_
        refine jc_seq ?_
        refine jc_draw (n := 8) _ rfl mixed ?_
        refine ja_l 0 (lo_l (ly_lda agg35 rfl rfl rfl rfl) (hd 36 rfl)) rfl (by kernel_rfl) (by kernel_rfl) (by kernel_rfl) (fun _ _ _ _ h => h) ?_
        refine ja_l2 1 [5, 6, 7] (lo_l (ly_lda agg35 rfl rfl rfl rfl) (hd 37 rfl)) rfl (by kernel_rfl) (by kernel_rfl) (by kernel_rfl) (by kernel_rfl) (fun _ _ _ _ h => h) ?_
        refine ja_l2 2 [4, 5, 6, 7] (lo_l (ly_lda agg35 rfl rfl rfl rfl) (hd 38 rfl)) rfl (by kernel_rfl) (by kernel_rfl) (by kernel_rfl) (by kernel_rfl) (fun _ _ _ _ h => h) ?_
        refine ja_l2 3 [4, 5, 6, 7] (lo_l (ly_lda agg35 rfl rfl rfl rfl) (hd 39 rfl)) rfl (by kernel_rfl) (by kernel_rfl) (by kernel_rfl) (by kernel_rfl) (fun _ _ _ _ h => h) ?_
        refine ja_1 4 ?_ rfl (by kernel_rfl)
        refine js_call Try.f53 (ZMul_s _ w (by omega) (by omega)) rfl Try.func53 rfl rfl (ovL_cons rfl (ovL_cons rfl ovL_nil)) (.cons (.a1 .b (.a1 .n .a0)) (.cons (.a1 .b (.a1 .n .a0)) .nil)) (hd 40 rfl) ?_ (fun ch hp => by simp at hp)
        rintro y hy; injection hy with hy; subst hy
        refine ja_1 5 ?_ rfl (by kernel_rfl)
        refine js_call Try.f37 (ZSub_s v _ (by omega) (by omega)) rfl Try.func37 rfl rfl (ovL_cons rfl (ovL_cons rfl ovL_nil)) (.cons (.a1 .b (.a1 .n .a0)) (.cons (.a1 .b (.a1 .n .a0)) .nil)) (hd 41 rfl) ?_ (fun ch hp => by simp at hp)
        rintro y hy; injection hy with hy; subst hy
        refine ja_1 6 ?_ rfl (by kernel_rfl)
        refine js_st (sy_store rfl rfl rfl siz35 rfl rfl (Nat.le_of_ble_eq_true rfl)) rfl ?_
        refine ja_1 7 ?_ rfl (by kernel_rfl)
        refine js_st (sy_store rfl rfl rfl siz35 rfl rfl (Nat.le_of_ble_eq_true rfl)) rfl ?_
        refine ja_nil (by kernel_rfl) ?_
        refine jc_ret ?_
        refine ⟨_, _, (.cons (ResV.cell agg35 rfl rfl rfl rfl) (.cons (ResV.cell agg35 rfl rfl rfl rfl) .nil)), (.t1 (.a1 .b (.a1 .n .a0)) (.t1 (.a1 .b (.a1 .n .a0)) .t0)), ?_⟩
        first | rw [nea_yes (by assumption)] | rw [nea_tie (by assumption), if_pos (by assumption)] | rw [nea_tie (by assumption), if_neg (by assumption)] | rw [nea_no (by assumption) (by assumption)]
      · refine jc_skip ?_
        refine jc_seq ?_
        refine jc_draw (n := 8) _ rfl mixed ?_
        refine ja_l 0 (lo_l (ly_lda agg35 rfl rfl rfl rfl) (hd 36 rfl)) rfl (by kernel_rfl) (by kernel_rfl) (by kernel_rfl) (fun _ _ _ _ h => h) ?_
        refine ja_l2 1 [5, 6, 7] (lo_l (ly_lda agg35 rfl rfl rfl rfl) (hd 37 rfl)) rfl (by kernel_rfl) (by kernel_rfl) (by kernel_rfl) (by kernel_rfl) (fun _ _ _ _ h => h) ?_
        refine ja_l2 2 [4, 5, 6, 7] (lo_l (ly_lda agg35 rfl rfl rfl rfl) (hd 38 rfl)) rfl (by kernel_rfl) (by kernel_rfl) (by kernel_rfl) (by kernel_rfl) (fun _ _ _ _ h => h) ?_
        refine ja_l2 3 [4, 5, 6, 7] (lo_l (ly_lda agg35 rfl rfl rfl rfl) (hd 39 rfl)) rfl (by kernel_rfl) (by kernel_rfl) (by kernel_rfl) (by kernel_rfl) (fun _ _ _ _ h => h) ?_
        refine ja_1 4 ?_ rfl (by kernel_rfl)
        refine js_call Try.f53 (ZMul_s _ w (by omega) (by omega)) rfl Try.func53 rfl rfl (ovL_cons rfl (ovL_cons rfl ovL_nil)) (.cons (.a1 .b (.a1 .n .a0)) (.cons (.a1 .b (.a1 .n .a0)) .nil)) (hd 40 rfl) ?_ (fun ch hp => by simp at hp)
        rintro y hy; injection hy with hy; subst hy
        refine ja_1 5 ?_ rfl (by kernel_rfl)
        refine js_call Try.f37 (ZSub_s v _ (by omega) (by omega)) rfl Try.func37 rfl rfl (ovL_cons rfl (ovL_cons rfl ovL_nil)) (.cons (.a1 .b (.a1 .n .a0)) (.cons (.a1 .b (.a1 .n .a0)) .nil)) (hd 41 rfl) ?_ (fun ch hp => by simp at hp)
        rintro y hy; injection hy with hy; subst hy
        refine ja_1 6 ?_ rfl (by kernel_rfl)
        refine js_st (sy_store rfl rfl rfl siz35 rfl rfl (Nat.le_of_ble_eq_true rfl)) rfl ?_
        refine ja_1 7 ?_ rfl (by kernel_rfl)
        refine js_st (sy_store rfl rfl rfl siz35 rfl rfl (Nat.le_of_ble_eq_true rfl)) rfl ?_
        refine ja_nil (by kernel_rfl) ?_
        refine jc_ret ?_
        refine ⟨_, _, (.cons (ResV.cell agg35 rfl rfl rfl rfl) (.cons (ResV.cell agg35 rfl rfl rfl rfl) .nil)), (.t1 (.a1 .b (.a1 .n .a0)) (.t1 (.a1 .b (.a1 .n .a0)) .t0)), ?_⟩
        first | rw [nea_yes (by assumption)] | rw [nea_tie (by assumption), if_pos (by assumption)] | rw [nea_tie (by assumption), if_neg (by assumption)] | rw [nea_no (by assumption) (by assumption)]
    · refine jo_s 26 rfl rfl rfl (hd 27 rfl) ?_
      refine jo_s 26 rfl rfl rfl (hd 28 rfl) ?_
      refine jo_s 26 rfl rfl rfl (hd 29 rfl) ?_
      refine jo_s 26 rfl rfl rfl (hd 30 rfl) ?_
      refine jo_g 23 rfl rfl (ly_pick_f rfl rfl) (hd 31 rfl) ?_
      refine jo_l (ly_pick_f rfl rfl) (hd 32 rfl) ?_
      refine jo_nil ?_
      refine jc_litf rfl ?_
      refine jc_skip ?_
      refine jc_seq ?_
      refine jc_draw (n := 8) _ rfl mixed ?_
      refine ja_l 0 (lo_l (ly_lda agg35 rfl rfl rfl rfl) (hd 36 rfl)) rfl (by kernel_rfl) (by kernel_rfl) (by kernel_rfl) (fun _ _ _ _ h => h) ?_
      refine ja_l2 1 [5, 6, 7] (lo_l (ly_lda agg35 rfl rfl rfl rfl) (hd 37 rfl)) rfl (by kernel_rfl) (by kernel_rfl) (by kernel_rfl) (by kernel_rfl) (fun _ _ _ _ h => h) ?_
      refine ja_l2 2 [4, 5, 6, 7] (lo_l (ly_lda agg35 rfl rfl rfl rfl) (hd 38 rfl)) rfl (by kernel_rfl) (by kernel_rfl) (by kernel_rfl) (by kernel_rfl) (fun _ _ _ _ h => h) ?_
      refine ja_l2 3 [4, 5, 6, 7] (lo_l (ly_lda agg35 rfl rfl rfl rfl) (hd 39 rfl)) rfl (by kernel_rfl) (by kernel_rfl) (by kernel_rfl) (by kernel_rfl) (fun _ _ _ _ h => h) ?_
      refine ja_1 4 ?_ rfl (by kernel_rfl)
      refine js_call Try.f53 (ZMul_s _ w (by omega) (by omega)) rfl Try.func53 rfl rfl (ovL_cons rfl (ovL_cons rfl ovL_nil)) (.cons (.a1 .b (.a1 .n .a0)) (.cons (.a1 .b (.a1 .n .a0)) .nil)) (hd 40 rfl) ?_ (fun ch hp => by simp at hp)
      rintro y hy; injection hy with hy; subst hy
      refine ja_1 5 ?_ rfl (by kernel_rfl)
      refine js_call Try.f37 (ZSub_s v _ (by omega) (by omega)) rfl Try.func37 rfl rfl (ovL_cons rfl (ovL_cons rfl ovL_nil)) (.cons (.a1 .b (.a1 .n .a0)) (.cons (.a1 .b (.a1 .n .a0)) .nil)) (hd 41 rfl) ?_ (fun ch hp => by simp at hp)
      rintro y hy; injection hy with hy; subst hy
      refine ja_1 6 ?_ rfl (by kernel_rfl)
      refine js_st (sy_store rfl rfl rfl siz35 rfl rfl (Nat.le_of_ble_eq_true rfl)) rfl ?_
      refine ja_1 7 ?_ rfl (by kernel_rfl)
      refine js_st (sy_store rfl rfl rfl siz35 rfl rfl (Nat.le_of_ble_eq_true rfl)) rfl ?_
      refine ja_nil (by kernel_rfl) ?_
      refine jc_ret ?_
      refine ⟨_, _, (.cons (ResV.cell agg35 rfl rfl rfl rfl) (.cons (ResV.cell agg35 rfl rfl rfl rfl) .nil)), (.t1 (.a1 .b (.a1 .n .a0)) (.t1 (.a1 .b (.a1 .n .a0)) .t0)), ?_⟩
      first | rw [nea_yes (by assumption)] | rw [nea_tie (by assumption), if_pos (by assumption)] | rw [nea_tie (by assumption), if_neg (by assumption)] | rw [nea_no (by assumption) (by assumption)]
end Go.Proofs.Ytcdipmjgpimmdaa.Vc

/- Contracts of surdlaw06.pair, rest. -/
set_option linter.unusedVariables false
set_option linter.unusedSimpArgs false
namespace Go.Proofs.Ytcdipmjgpimmdaa.Vc
open Go Go.RowKit
set_option maxHeartbeats 4000000 in
theorem pair_ok (x y : Int) (hx : lenV x ≤ 67108864) (hy : lenV y ≤ 67108864) : Spec Try.prog 24 [.a [.b (decide (x < 0)), .n false .u64 (lm x)], .a [.b (decide (y < 0)), .n false .u64 (lm y)], .i .i64 0, .a [.b (decide (x < 0)), .n false .u64 (dg x)], .a [.b (decide (y < 0)), .n false .u64 (dg y)], .i .i64 0] (fun o => o = .ret (.b true)) := by
  refine spec_of' [(0, .a [.b (decide (x < 0)), .n false .u64 (lm x)]), (1, .a [.b (decide (y < 0)), .n false .u64 (lm y)]), (2, .i .i64 0), (3, .a [.b (decide (x < 0)), .n false .u64 (dg x)]), (4, .a [.b (decide (y < 0)), .n false .u64 (dg y)]), (5, .i .i64 0)] rfl Try.func24 rfl (Nat.le_of_ble_eq_true rfl) fun Γ hN hds hL hR => ?_
  have hd : ∀ d, Nat.blt d 51 = true → d < Γ.N := fun d h => by rw [hN]; exact Nat.le_of_ble_eq_true h
  have hl1 := lenV_dg hx
  have hl2 := lenV_dg hy
  refine jc_seq ?_
  refine jc_region ?_
  refine jo_h (hy_box (id := 0) (n := 2) rfl rfl rfl (by decide) rfl) (hd 6 rfl) ?_
  refine jo_h (hy_box (id := 1) (n := 2) rfl rfl rfl (by decide) rfl) (hd 7 rfl) ?_
  refine jo_h (hy_box (id := 2) (n := 2) rfl rfl rfl (by decide) rfl) (hd 9 rfl) ?_
  refine jo_h (hy_box (id := 3) (n := 2) rfl rfl rfl (by decide) rfl) (hd 10 rfl) ?_
  refine jo_l (ly_as rfl) (hd 12 rfl) ?_
  refine jo_nil ?_
  refine jc_seq ?_
  refine jc_seq ?_
  refine jc_region ?_
  refine jo_l (ly_mv rfl) (hd 13 rfl) ?_
  refine jo_l (ly_tt (ly_eq rfl rfl) rfl) (hd 14 rfl) ?_
  refine jo_l (ly_mv rfl) (hd 15 rfl) ?_
  refine jo_g 15 rfl rfl (ly_fa fld35_1 rfl rfl rfl) (hd 16 rfl) ?_
  refine jo_g 15 rfl rfl (ly_ld one33 rfl rfl rfl) (hd 17 rfl) ?_
  refine jo_callg Try.f29 15 rfl rfl (Len_s x (by omega)) rfl Try.func29 rfl rfl (ovL_cons rfl ovL_nil) (.cons .n .nil) (hd 18 rfl) ?_ (fun ch hp => by simp at hp)
  rintro y hy; injection hy with hy; subst hy
  refine jo_g 15 rfl rfl (ly_ff (ly_gt rfl rfl) (by omega)) (hd 19 rfl) ?_
  refine jo_g 15 rfl rfl (ly_mv rfl) (hd 20 rfl) ?_
  refine jo_g 20 rfl rfl (ly_fa fld35_1 rfl rfl rfl) (hd 21 rfl) ?_
  refine jo_g 20 rfl rfl (ly_ld one33 rfl rfl rfl) (hd 22 rfl) ?_
  refine jo_callg Try.f29 20 rfl rfl (Len_s y (by omega)) rfl Try.func29 rfl rfl (ovL_cons rfl ovL_nil) (.cons .n .nil) (hd 23 rfl) ?_ (fun ch hp => by simp at hp)
  rintro y hy; injection hy with hy; subst hy
  refine jo_g 20 rfl rfl (ly_ff (ly_gt rfl rfl) (by omega)) (hd 24 rfl) ?_
  refine jo_g 15 rfl rfl (ly_pick_f rfl rfl) (hd 25 rfl) ?_
  refine jo_l (ly_pick_t rfl rfl) (hd 26 rfl) ?_
  refine jo_nil ?_
  refine jc_litf rfl ?_
  refine jc_skip ?_
  refine jc_seq ?_
  refine jc_seq ?_
  refine jc_region ?_
  refine jo_l (ly_mv rfl) (hd 27 rfl) ?_
  refine jo_l (ly_ff (ly_ne rfl rfl) (fun h => h rfl)) (hd 28 rfl) ?_
  refine jo_nil ?_
  refine jc_litf rfl ?_
  refine jc_skip ?_
  refine jc_seq ?_
  refine jc_region ?_
  refine jo_l (ly_lda agg30 rfl rfl rfl rfl) (hd 41 rfl) ?_
  refine jo_l (ly_mv rfl) (hd 42 rfl) ?_
  refine jo_l (ly_lda agg35 rfl rfl rfl rfl) (hd 43 rfl) ?_
  refine jo_call Try.f47 (alike_ok x hx) rfl Try.func47 rfl rfl (ovL_cons rfl (ovL_cons rfl (ovL_cons rfl (ovL_cons rfl ovL_nil)))) (.cons (.a1 .b (.a1 .n .a0)) (.cons .i (.cons (.a1 .b (.a1 .n .a0)) (.cons .i .nil)))) (hd 44 rfl) ?_ (fun ch hp => by simp at hp)
  rintro y hy; injection hy with hy; subst hy
  refine jo_l (ly_mv rfl) (hd 45 rfl) ?_
  refine jo_g 45 rfl rfl (ly_lda agg30 rfl rfl rfl rfl) (hd 46 rfl) ?_
  refine jo_g 45 rfl rfl (ly_mv rfl) (hd 47 rfl) ?_
  refine jo_g 45 rfl rfl (ly_lda agg35 rfl rfl rfl rfl) (hd 48 rfl) ?_
  refine jo_callg Try.f47 45 rfl rfl (alike_ok y hy) rfl Try.func47 rfl rfl (ovL_cons rfl (ovL_cons rfl (ovL_cons rfl (ovL_cons rfl ovL_nil)))) (.cons (.a1 .b (.a1 .n .a0)) (.cons .i (.cons (.a1 .b (.a1 .n .a0)) (.cons .i .nil)))) (hd 49 rfl) ?_ (fun ch hp => by simp at hp)
  rintro y hy; injection hy with hy; subst hy
  refine jo_l (ly_pick_t rfl rfl) (hd 50 rfl) ?_
  refine jo_l (ly_as rfl) (hd 12 rfl) ?_
  refine jo_nil ?_
  refine jc_ret ?_
  refine ⟨_, _, (.cons rfl .nil), .b, ?_⟩
  exact rfl

theorem alike_zz (f : Int) (h : f ≠ 0) : Spec Try.prog 47 [.a [.b false, .n false .u64 []], .i .i64 f, .a [.b false, .n false .u64 []], .i .i64 f] (fun o => o = .ret (.b true)) := by
  have h := alike_err 0 f h
  rw [dg_0] at h
  exact h

set_option maxHeartbeats 4000000 in
theorem pair_z  : Spec Try.prog 24 [.a [.b false, .n false .u64 []], .a [.b false, .n false .u64 []], .i .i64 30, .a [.b false, .n false .u64 []], .a [.b false, .n false .u64 []], .i .i64 30] (fun o => o = .ret (.b true)) := by
  refine spec_of' [(0, .a [.b false, .n false .u64 []]), (1, .a [.b false, .n false .u64 []]), (2, .i .i64 30), (3, .a [.b false, .n false .u64 []]), (4, .a [.b false, .n false .u64 []]), (5, .i .i64 30)] rfl Try.func24 rfl (Nat.le_of_ble_eq_true rfl) fun Γ hN hds hL hR => ?_
  have hd : ∀ d, Nat.blt d 51 = true → d < Γ.N := fun d h => by rw [hN]; exact Nat.le_of_ble_eq_true h
  refine jc_seq ?_
  refine jc_region ?_
  refine jo_h (hy_box (id := 0) (n := 2) rfl rfl rfl (by decide) rfl) (hd 6 rfl) ?_
  refine jo_h (hy_box (id := 1) (n := 2) rfl rfl rfl (by decide) rfl) (hd 7 rfl) ?_
  refine jo_h (hy_box (id := 2) (n := 2) rfl rfl rfl (by decide) rfl) (hd 9 rfl) ?_
  refine jo_h (hy_box (id := 3) (n := 2) rfl rfl rfl (by decide) rfl) (hd 10 rfl) ?_
  refine jo_l (ly_as rfl) (hd 12 rfl) ?_
  refine jo_nil ?_
  refine jc_seq ?_
  refine jc_seq ?_
  refine jc_region ?_
  refine jo_l (ly_mv rfl) (hd 13 rfl) ?_
  refine jo_l (ly_ff (ly_eq rfl rfl) (by decide)) (hd 14 rfl) ?_
  refine jo_l (ly_mv rfl) (hd 15 rfl) ?_
  refine jo_s 15 rfl rfl rfl (hd 16 rfl) ?_
  refine jo_s 15 rfl rfl rfl (hd 17 rfl) ?_
  refine jo_s 15 rfl rfl rfl (hd 18 rfl) ?_
  refine jo_s 15 rfl rfl rfl (hd 19 rfl) ?_
  refine jo_s 15 rfl rfl rfl (hd 20 rfl) ?_
  refine jo_s' 20 rfl rfl (hd 21 rfl) ?_
  refine jo_s' 20 rfl rfl (hd 22 rfl) ?_
  refine jo_s' 20 rfl rfl (hd 23 rfl) ?_
  refine jo_s' 20 rfl rfl (hd 24 rfl) ?_
  refine jo_s 15 rfl rfl rfl (hd 25 rfl) ?_
  refine jo_l (ly_pick_f rfl rfl) (hd 26 rfl) ?_
  refine jo_nil ?_
  refine jc_litf rfl ?_
  refine jc_skip ?_
  refine jc_seq ?_
  refine jc_seq ?_
  refine jc_region ?_
  refine jo_l (ly_mv rfl) (hd 27 rfl) ?_
  refine jo_l (ly_tt (ly_ne rfl rfl) (by decide)) (hd 28 rfl) ?_
  refine jo_nil ?_
  refine jc_litt rfl ?_
  refine jc_seq ?_
  refine jc_region ?_
  refine jo_l (ly_lda agg30 rfl rfl rfl rfl) (hd 29 rfl) ?_
  refine jo_l (ly_mv rfl) (hd 30 rfl) ?_
  refine jo_l (ly_lda agg35 rfl rfl rfl rfl) (hd 31 rfl) ?_
  refine jo_l (ly_mv rfl) (hd 32 rfl) ?_
  refine jo_call Try.f47 (alike_zz 30 (by decide)) rfl Try.func47 rfl rfl (ovL_cons rfl (ovL_cons rfl (ovL_cons rfl (ovL_cons rfl ovL_nil)))) (.cons (.a1 .b (.a1 .n .a0)) (.cons .i (.cons (.a1 .b (.a1 .n .a0)) (.cons .i .nil)))) (hd 33 rfl) ?_ (fun ch hp => by simp at hp)
  rintro y hy; injection hy with hy; subst hy
  refine jo_l (ly_mv rfl) (hd 34 rfl) ?_
  refine jo_g 34 rfl rfl (ly_lda agg30 rfl rfl rfl rfl) (hd 35 rfl) ?_
  refine jo_g 34 rfl rfl (ly_mv rfl) (hd 36 rfl) ?_
  refine jo_g 34 rfl rfl (ly_lda agg35 rfl rfl rfl rfl) (hd 37 rfl) ?_
  refine jo_g 34 rfl rfl (ly_mv rfl) (hd 38 rfl) ?_
  refine jo_callg Try.f47 34 rfl rfl (alike_zz 30 (by decide)) rfl Try.func47 rfl rfl (ovL_cons rfl (ovL_cons rfl (ovL_cons rfl (ovL_cons rfl ovL_nil)))) (.cons (.a1 .b (.a1 .n .a0)) (.cons .i (.cons (.a1 .b (.a1 .n .a0)) (.cons .i .nil)))) (hd 39 rfl) ?_ (fun ch hp => by simp at hp)
  rintro y hy; injection hy with hy; subst hy
  refine jo_l (ly_pick_t rfl rfl) (hd 40 rfl) ?_
  refine jo_l (ly_as rfl) (hd 12 rfl) ?_
  refine jo_nil ?_
  refine jc_ret ?_
  refine ⟨_, _, (.cons rfl .nil), .b, ?_⟩
  exact rfl

end Go.Proofs.Ytcdipmjgpimmdaa.Vc

/- Contracts of the references' Floor, Ceil, Near by their way. -/
set_option linter.unusedVariables false
set_option linter.unusedSimpArgs false
namespace Go.Proofs.Ytcdipmjgpimmdaa.Vc
open Go Go.RowKit
theorem rFloor_w (v w : Int) (hv : (dg v).length < 4294967296) (hw : (dg w).length < 4294967296) (h0 : w ≠ 0) : Spec Try.prog 15 [.a [.b (decide (v < 0)), .n false .u64 (dg v)], .a [.b (decide (w < 0)), .n false .u64 (dg w)]] (fun o => o = .ret (.t [.a [.b (decide ((wq 1 v w) < 0)), .n false .u64 (dg (wq 1 v w))], .a [.b (decide ((v - (wq 1 v w) * w) < 0)), .n false .u64 (dg (v - (wq 1 v w) * w))]])) := rFloor_s v w hv hw h0

theorem rCeil_w (v w : Int) (hv : (dg v).length < 4294967296) (hw : (dg w).length < 4294967296) (h0 : w ≠ 0) : Spec Try.prog 16 [.a [.b (decide (v < 0)), .n false .u64 (dg v)], .a [.b (decide (w < 0)), .n false .u64 (dg w)]] (fun o => o = .ret (.t [.a [.b (decide ((wq 2 v w) < 0)), .n false .u64 (dg (wq 2 v w))], .a [.b (decide ((v - (wq 2 v w) * w) < 0)), .n false .u64 (dg (v - (wq 2 v w) * w))]])) := rCeil_s v w hv hw h0

theorem rNear_w (v w : Int) (hv : (dg v).length < 4294967296) (hw : (dg w).length < 4294967296) (h0 : w ≠ 0) : Spec Try.prog 17 [.a [.b (decide (v < 0)), .n false .u64 (dg v)], .a [.b (decide (w < 0)), .n false .u64 (dg w)]] (fun o => o = .ret (.t [.a [.b (decide ((wq 3 v w) < 0)), .n false .u64 (dg (wq 3 v w))], .a [.b (decide ((v - (wq 3 v w) * w) < 0)), .n false .u64 (dg (v - (wq 3 v w) * w))]])) := rNear_s v w hv hw h0

theorem lenV_sv {s : Bool} {l : List Int} (u : u64s l) (h : l.length ≤ 1048576) : lenV (sv s l) ≤ 67108864 := by
  rw [← (raw_res (s := s) u rfl).2.2]
  have := lenN_le l
  omega
end Go.Proofs.Ytcdipmjgpimmdaa.Vc

/- The contract of surdlaw06.WholeQuos, not divided by 0. -/
set_option linter.unusedVariables false
set_option linter.unusedSimpArgs false
namespace Go.Proofs.Ytcdipmjgpimmdaa.Vc
open Go Go.RowKit
set_option maxHeartbeats 20000000 in
set_option maxRecDepth 100000 in
theorem WholeQuos_n (sa sb : Bool) (a b : List Int) (ha : a.length ≤ 1048576) (hb : b.length ≤ 1048576) (ua : u64s a) (ub : u64s b) (h0 : (sv sb b) ≠ 0) : Spec Try.prog 4 [.a [.b sa, .n false .u64 a], .a [.b sb, .n false .u64 b]] (fun o => o = .ret (.b true)) := by
  refine spec_of' [(0, .a [.b sa, .n false .u64 a]), (1, .a [.b sb, .n false .u64 b])] rfl Try.func4 rfl (Nat.le_of_ble_eq_true rfl) fun Γ hN hds hL hR => ?_
  have hd : ∀ d, Nat.blt d 214 = true → d < Γ.N := fun d h => by rw [hN]; exact Nat.le_of_ble_eq_true h
  have da := dg_lenN (s := sa) ua rfl
  have db := dg_lenN (s := sb) ub rfl
  have hlv := lenV_sv (s := sa) ua (by omega)
  have hlw := lenV_sv (s := sb) ub (by omega)
  have lQ0 := lenV_lm (Nat.le_trans (wq_len (k := 0) (v := (sv sa a)) h0).1 hlv)
  have lR0 := lenV_lm (Nat.le_trans (wq_len (k := 0) (v := (sv sa a)) h0).2 hlw)
  have lQ1 := lenV_lm (Nat.le_trans (wq_len (k := 1) (v := (sv sa a)) h0).1 hlv)
  have lR1 := lenV_lm (Nat.le_trans (wq_len (k := 1) (v := (sv sa a)) h0).2 hlw)
  have lQ2 := lenV_lm (Nat.le_trans (wq_len (k := 2) (v := (sv sa a)) h0).1 hlv)
  have lR2 := lenV_lm (Nat.le_trans (wq_len (k := 2) (v := (sv sa a)) h0).2 hlw)
  have lQ3 := lenV_lm (Nat.le_trans (wq_len (k := 3) (v := (sv sa a)) h0).1 hlv)
  have lR3 := lenV_lm (Nat.le_trans (wq_len (k := 3) (v := (sv sa a)) h0).2 hlw)
  have lQ4 := lenV_lm (Nat.le_trans (wq_len (k := 4) (v := (sv sa a)) h0).1 hlv)
  have lR4 := lenV_lm (Nat.le_trans (wq_len (k := 4) (v := (sv sa a)) h0).2 hlw)
  refine jc_seq ?_
  refine jc_region ?_
  refine jo_h (hy_box (id := 0) (n := 2) rfl rfl rfl (by decide) rfl) (hd 2 rfl) ?_
  refine jo_h (hy_box (id := 1) (n := 2) rfl rfl rfl (by decide) rfl) (hd 3 rfl) ?_
  refine jo_l (ly_as rfl) (hd 4 rfl) ?_
  refine jo_nil ?_
  refine jc_seq ?_
  refine jc_region ?_
  refine jo_l (ly_lda agg27 rfl rfl rfl rfl) (hd 29 rfl) ?_
  refine jo_call Try.f11 (lent_s sa a (by omega)) rfl Try.func11 rfl rfl (ovL_cons rfl ovL_nil) (.cons (.a1 .b (.a1 .n .a0)) .nil) (hd 30 rfl) ?_ (fun ch hp => by simp at hp)
  rintro y hy; injection hy with hy; subst hy
  refine jo_l (ly_mv rfl) (hd 28 rfl) ?_
  refine jo_l (ly_ext rfl rfl) (hd 31 rfl) ?_
  refine jo_l (ly_ext rfl rfl) (hd 32 rfl) ?_
  refine jo_h (hy_alloc (id := 2) zero30 (by decide) rfl (by decide) rfl) (hd 6 rfl) ?_
  refine jo_l (ly_as rfl) (hd 5 rfl) ?_
  refine jo_st (sy_store rfl rfl rfl siz30 rfl rfl (Nat.le_of_ble_eq_true rfl)) ?_
  refine jo_nil ?_
  refine jc_seq ?_
  refine jc_region ?_
  refine jo_l (ly_lda agg27 rfl rfl rfl rfl) (hd 34 rfl) ?_
  refine jo_call Try.f11 (lent_s sb b (by omega)) rfl Try.func11 rfl rfl (ovL_cons rfl ovL_nil) (.cons (.a1 .b (.a1 .n .a0)) .nil) (hd 35 rfl) ?_ (fun ch hp => by simp at hp)
  rintro y hy; injection hy with hy; subst hy
  refine jo_l (ly_mv rfl) (hd 33 rfl) ?_
  refine jo_l (ly_ext rfl rfl) (hd 36 rfl) ?_
  refine jo_l (ly_ext rfl rfl) (hd 37 rfl) ?_
  refine jo_h (hy_alloc (id := 3) zero30 (by decide) rfl (by decide) rfl) (hd 8 rfl) ?_
  refine jo_l (ly_as rfl) (hd 7 rfl) ?_
  refine jo_st (sy_store rfl rfl rfl siz30 rfl rfl (Nat.le_of_ble_eq_true rfl)) ?_
  refine jo_nil ?_
  refine jc_seq ?_
  refine jc_H (H' := [⟨27, 2, 0, true, [.b sa, .n false .u64 a]⟩, ⟨27, 2, 0, true, [.b sb, .n false .u64 b]⟩, ⟨30, 2, 0, true, [.b sa, .n true .u64 a]⟩, ⟨30, 2, 0, true, [.b sb, .n true .u64 b]⟩]) rfl ?_
  refine jc_hold 2 _ ?_
  refine jc_draw (n := 8) _ rfl mixed ?_
  refine ja_gen (fun _ _ _ _ h => h) fun ops1 Q1 F0 hpan ho hq hF => ?_
  have S3_11111111 : JA Try.prog ops1 0 #[true, true, true, true, true, true, true, true] Γ ([(9, .p 4 1 0), (10, .p 5 1 0), (38, .a [.b sa, .n false .u64 a]), (39, .a [.b (decide ((sv sa a) < 0)), .n false .u64 (dg (sv sa a))]), (40, .a [.b sb, .n false .u64 b]), (41, .a [.b (decide ((sv sb b) < 0)), .n false .u64 (dg (sv sb b))])] ++ F0) [⟨27, 2, 0, true, [.b sa, .n false .u64 a]⟩, ⟨27, 2, 0, true, [.b sb, .n false .u64 b]⟩, ⟨30, 2, 0, true, [.b sa, .n true .u64 a]⟩, ⟨30, 2, 0, true, [.b sb, .n true .u64 b]⟩, ⟨35, 2, 1, true, [.b (decide ((sv sa a) < 0)), .n false .u64 (dg (sv sa a))]⟩, ⟨35, 2, 1, true, [.b (decide ((sv sb b) < 0)), .n false .u64 (dg (sv sb b))]⟩] Q1 := by
    subst ho; subst hq; subst hF
    refine ja_nil (by kernel_rfl) ?_
    refine jc_seq ?_
    refine jc_region ?_
    refine jo_l (ly_as rfl) (hd 11 rfl) ?_
    refine jo_nil ?_
    refine jc_seq ?_
    refine jc_seq ?_
    refine jc_H (H' := [⟨27, 2, 0, true, [.b sa, .n false .u64 a]⟩, ⟨27, 2, 0, true, [.b sb, .n false .u64 b]⟩, ⟨30, 2, 0, true, [.b sa, .n true .u64 a]⟩, ⟨30, 2, 0, true, [.b sb, .n true .u64 b]⟩, ⟨35, 2, 1, true, [.b (decide ((sv sa a) < 0)), .n false .u64 (dg (sv sa a))]⟩, ⟨35, 2, 1, true, [.b (decide ((sv sb b) < 0)), .n false .u64 (dg (sv sb b))]⟩]) rfl ?_
    refine jc_region ?_
    refine jo_l (ly_lda agg35 rfl rfl rfl rfl) (hd 42 rfl) ?_
    refine jo_call Try.f13 (ZSign_s (sv sb b)) rfl Try.func13 rfl rfl (ovL_cons rfl ovL_nil) (.cons (.a1 .b (.a1 .n .a0)) .nil) (hd 43 rfl) ?_ (fun ch hp => by simp at hp)
    rintro y hy; injection hy with hy; subst hy
    refine jo_l (ly_ff (ly_eq rfl rfl) (fun h => h0 (sgnI_0.1 h))) (hd 44 rfl) ?_
    refine jo_nil ?_
    refine jc_litf rfl ?_
    refine jc_skip ?_
    refine jc_seq ?_
    refine jc_region ?_
    refine jo_h (hy_alloc (id := 6) zero38 (by decide) rfl (by decide) rfl) (hd 12 rfl) ?_
    refine jo_nil ?_
    refine jc_seq ?_
    refine jc_seq ?_
    refine jc_region ?_
    refine jo_l (ly_mv rfl) (hd 45 rfl) ?_
    refine jo_l (ly_tt (ly_eq rfl rfl) rfl) (hd 46 rfl) ?_
    refine jo_nil ?_
    refine jc_litt rfl ?_
    refine jc_seq ?_
    refine jc_region ?_
    refine jo_l (ly_lda agg35 rfl rfl rfl rfl) (hd 48 rfl) ?_
    refine jo_l (ly_lda agg35 rfl rfl rfl rfl) (hd 49 rfl) ?_
    refine jo_call Try.f14 (rQuo_s (sv sa a) (sv sb b) (by omega) (by omega) h0) rfl Try.func14 rfl rfl (ovL_cons rfl (ovL_cons rfl ovL_nil)) (.cons (.a1 .b (.a1 .n .a0)) (.cons (.a1 .b (.a1 .n .a0)) .nil)) (hd 50 rfl) ?_ (fun ch hp => by simp at hp)
    rintro y hy; injection hy with hy; subst hy
    refine jo_l (ly_mv rfl) (hd 47 rfl) ?_
    refine jo_l (ly_ext rfl rfl) (hd 51 rfl) ?_
    refine jo_l (ly_ext rfl rfl) (hd 52 rfl) ?_
    refine jo_l (ly_iar (i := 0) ar38 rfl rfl rfl rfl (by omega) rfl) (hd 53 rfl) ?_
    refine jo_st (sy_store rfl rfl rfl siz35 rfl rfl (Nat.le_of_ble_eq_true rfl)) ?_
    refine jo_l (ly_iar (i := 1) ar38 rfl rfl rfl rfl (by omega) rfl) (hd 54 rfl) ?_
    refine jo_st (sy_store rfl rfl rfl siz35 rfl rfl (Nat.le_of_ble_eq_true rfl)) ?_
    refine jo_nil ?_
    refine jc_seq ?_
    refine jc_region ?_
    refine jo_l (ly_lda agg35 rfl rfl rfl rfl) (hd 56 rfl) ?_
    refine jo_l (ly_lda agg35 rfl rfl rfl rfl) (hd 57 rfl) ?_
    refine jo_call Try.f15 (rFloor_w (sv sa a) (sv sb b) (by omega) (by omega) h0) rfl Try.func15 rfl rfl (ovL_cons rfl (ovL_cons rfl ovL_nil)) (.cons (.a1 .b (.a1 .n .a0)) (.cons (.a1 .b (.a1 .n .a0)) .nil)) (hd 58 rfl) ?_ (fun ch hp => by simp at hp)
    rintro y hy; injection hy with hy; subst hy
    refine jo_l (ly_mv rfl) (hd 55 rfl) ?_
    refine jo_l (ly_ext rfl rfl) (hd 59 rfl) ?_
    refine jo_l (ly_ext rfl rfl) (hd 60 rfl) ?_
    refine jo_l (ly_iar (i := 2) ar38 rfl rfl rfl rfl (by omega) rfl) (hd 61 rfl) ?_
    refine jo_st (sy_store rfl rfl rfl siz35 rfl rfl (Nat.le_of_ble_eq_true rfl)) ?_
    refine jo_l (ly_iar (i := 3) ar38 rfl rfl rfl rfl (by omega) rfl) (hd 62 rfl) ?_
    refine jo_st (sy_store rfl rfl rfl siz35 rfl rfl (Nat.le_of_ble_eq_true rfl)) ?_
    refine jo_nil ?_
    refine jc_seq ?_
    refine jc_region ?_
    refine jo_l (ly_lda agg35 rfl rfl rfl rfl) (hd 64 rfl) ?_
    refine jo_l (ly_lda agg35 rfl rfl rfl rfl) (hd 65 rfl) ?_
    refine jo_call Try.f16 (rCeil_w (sv sa a) (sv sb b) (by omega) (by omega) h0) rfl Try.func16 rfl rfl (ovL_cons rfl (ovL_cons rfl ovL_nil)) (.cons (.a1 .b (.a1 .n .a0)) (.cons (.a1 .b (.a1 .n .a0)) .nil)) (hd 66 rfl) ?_ (fun ch hp => by simp at hp)
    rintro y hy; injection hy with hy; subst hy
    refine jo_l (ly_mv rfl) (hd 63 rfl) ?_
    refine jo_l (ly_ext rfl rfl) (hd 67 rfl) ?_
    refine jo_l (ly_ext rfl rfl) (hd 68 rfl) ?_
    refine jo_l (ly_iar (i := 4) ar38 rfl rfl rfl rfl (by omega) rfl) (hd 69 rfl) ?_
    refine jo_st (sy_store rfl rfl rfl siz35 rfl rfl (Nat.le_of_ble_eq_true rfl)) ?_
    refine jo_l (ly_iar (i := 5) ar38 rfl rfl rfl rfl (by omega) rfl) (hd 70 rfl) ?_
    refine jo_st (sy_store rfl rfl rfl siz35 rfl rfl (Nat.le_of_ble_eq_true rfl)) ?_
    refine jo_nil ?_
    refine jc_seq ?_
    refine jc_region ?_
    refine jo_l (ly_lda agg35 rfl rfl rfl rfl) (hd 72 rfl) ?_
    refine jo_l (ly_lda agg35 rfl rfl rfl rfl) (hd 73 rfl) ?_
    refine jo_call Try.f17 (rNear_w (sv sa a) (sv sb b) (by omega) (by omega) h0) rfl Try.func17 rfl rfl (ovL_cons rfl (ovL_cons rfl ovL_nil)) (.cons (.a1 .b (.a1 .n .a0)) (.cons (.a1 .b (.a1 .n .a0)) .nil)) (hd 74 rfl) ?_ (fun ch hp => by simp at hp)
    rintro y hy; injection hy with hy; subst hy
    refine jo_l (ly_mv rfl) (hd 71 rfl) ?_
    refine jo_l (ly_ext rfl rfl) (hd 75 rfl) ?_
    refine jo_l (ly_ext rfl rfl) (hd 76 rfl) ?_
    refine jo_l (ly_iar (i := 6) ar38 rfl rfl rfl rfl (by omega) rfl) (hd 77 rfl) ?_
    refine jo_st (sy_store rfl rfl rfl siz35 rfl rfl (Nat.le_of_ble_eq_true rfl)) ?_
    refine jo_l (ly_iar (i := 7) ar38 rfl rfl rfl rfl (by omega) rfl) (hd 78 rfl) ?_
    refine jo_st (sy_store rfl rfl rfl siz35 rfl rfl (Nat.le_of_ble_eq_true rfl)) ?_
    refine jo_nil ?_
    refine jc_region ?_
    refine jo_l (ly_lda agg35 rfl rfl rfl rfl) (hd 80 rfl) ?_
    refine jo_l (ly_lda agg35 rfl rfl rfl rfl) (hd 81 rfl) ?_
    refine jo_call Try.f18 (rEuclid_s (sv sa a) (sv sb b) (by omega) (by omega) h0) rfl Try.func18 rfl rfl (ovL_cons rfl (ovL_cons rfl ovL_nil)) (.cons (.a1 .b (.a1 .n .a0)) (.cons (.a1 .b (.a1 .n .a0)) .nil)) (hd 82 rfl) ?_ (fun ch hp => by simp at hp)
    rintro y hy; injection hy with hy; subst hy
    refine jo_l (ly_mv rfl) (hd 79 rfl) ?_
    refine jo_l (ly_ext rfl rfl) (hd 83 rfl) ?_
    refine jo_l (ly_ext rfl rfl) (hd 84 rfl) ?_
    refine jo_l (ly_iar (i := 8) ar38 rfl rfl rfl rfl (by omega) rfl) (hd 85 rfl) ?_
    refine jo_st (sy_store rfl rfl rfl siz35 rfl rfl (Nat.le_of_ble_eq_true rfl)) ?_
    refine jo_l (ly_iar (i := 9) ar38 rfl rfl rfl rfl (by omega) rfl) (hd 86 rfl) ?_
    refine jo_st (sy_store rfl rfl rfl siz35 rfl rfl (Nat.le_of_ble_eq_true rfl)) ?_
    refine jo_nil ?_
    refine jc_seq ?_
    refine jc_H (H' := [⟨27, 2, 0, true, [.b sa, .n false .u64 a]⟩, ⟨27, 2, 0, true, [.b sb, .n false .u64 b]⟩, ⟨30, 2, 0, true, [.b sa, .n true .u64 a]⟩, ⟨30, 2, 0, true, [.b sb, .n true .u64 b]⟩, ⟨35, 2, 1, true, [.b (decide ((sv sa a) < 0)), .n false .u64 (dg (sv sa a))]⟩, ⟨35, 2, 1, true, [.b (decide ((sv sb b) < 0)), .n false .u64 (dg (sv sb b))]⟩, ⟨38, 20, 0, true, [.b (decide ((wq 0 (sv sa a) (sv sb b)) < 0)), .n false .u64 (dg (wq 0 (sv sa a) (sv sb b))), .b (decide (((sv sa a) - wq 0 (sv sa a) (sv sb b) * (sv sb b)) < 0)), .n false .u64 (dg ((sv sa a) - wq 0 (sv sa a) (sv sb b) * (sv sb b))), .b (decide ((wq 1 (sv sa a) (sv sb b)) < 0)), .n false .u64 (dg (wq 1 (sv sa a) (sv sb b))), .b (decide (((sv sa a) - wq 1 (sv sa a) (sv sb b) * (sv sb b)) < 0)), .n false .u64 (dg ((sv sa a) - wq 1 (sv sa a) (sv sb b) * (sv sb b))), .b (decide ((wq 2 (sv sa a) (sv sb b)) < 0)), .n false .u64 (dg (wq 2 (sv sa a) (sv sb b))), .b (decide (((sv sa a) - wq 2 (sv sa a) (sv sb b) * (sv sb b)) < 0)), .n false .u64 (dg ((sv sa a) - wq 2 (sv sa a) (sv sb b) * (sv sb b))), .b (decide ((wq 3 (sv sa a) (sv sb b)) < 0)), .n false .u64 (dg (wq 3 (sv sa a) (sv sb b))), .b (decide (((sv sa a) - wq 3 (sv sa a) (sv sb b) * (sv sb b)) < 0)), .n false .u64 (dg ((sv sa a) - wq 3 (sv sa a) (sv sb b) * (sv sb b))), .b (decide ((wq 4 (sv sa a) (sv sb b)) < 0)), .n false .u64 (dg (wq 4 (sv sa a) (sv sb b))), .b (decide (((sv sa a) - wq 4 (sv sa a) (sv sb b) * (sv sb b)) < 0)), .n false .u64 (dg ((sv sa a) - wq 4 (sv sa a) (sv sb b) * (sv sb b)))]⟩]) rfl ?_
    refine jc_region ?_
    refine jo_l (ly_lda agg30 rfl rfl rfl rfl) (hd 88 rfl) ?_
    refine jo_l (ly_lda agg30 rfl rfl rfl rfl) (hd 89 rfl) ?_
    refine jo_callN Try.f19 (Quo_n sa sb a b (sv sa a) (sv sb b) (by omega) (by omega) ua ub rfl rfl hlv hlw h0) (fun o G ⟨_, h⟩ => h ▸ idless_cons ints_id (idless_cons ints_id idless_nil)) rfl Try.func19 rfl rfl (ovL_cons rfl (ovL_cons rfl ovL_nil)) (.cons (.a1 .b (.a1 .n .a0)) (.cons (.a1 .b (.a1 .n .a0)) .nil)) (hd 90 rfl) ?_ (fun ch G hp => by simp at hp)
    rintro y G ⟨hy, rfl⟩
    injection hy with hy
    subst hy
    show JO _ _ _ _ ((90, .t [.a [.b (decide ((wq 0 (sv sa a) (sv sb b)) < 0)), .o 7 0 0 (lm (wq 0 (sv sa a) (sv sb b))).length], .a [.b (decide (((sv sa a) - wq 0 (sv sa a) (sv sb b) * (sv sb b)) < 0)), .o 8 0 0 (lm ((sv sa a) - wq 0 (sv sa a) (sv sb b) * (sv sb b))).length], .i .i64 0]) :: _) _ _
    refine jo_l (ly_mv rfl) (hd 87 rfl) ?_
    refine jo_l (ly_ext rfl rfl) (hd 91 rfl) ?_
    refine jo_l (ly_ext rfl rfl) (hd 92 rfl) ?_
    refine jo_l (ly_ext rfl rfl) (hd 93 rfl) ?_
    refine jo_h (hy_alloc (id := 9) zero30 (by decide) rfl (by decide) rfl) (hd 13 rfl) ?_
    refine jo_h (hy_alloc (id := 10) zero30 (by decide) rfl (by decide) rfl) (hd 14 rfl) ?_
    refine jo_st (sy_store rfl rfl rfl siz30 rfl rfl (Nat.le_of_ble_eq_true rfl)) ?_
    refine jo_st (sy_store rfl rfl rfl siz30 rfl rfl (Nat.le_of_ble_eq_true rfl)) ?_
    refine jo_l (ly_as rfl) (hd 15 rfl) ?_
    refine jo_nil ?_
    refine jc_seq ?_
    refine jc_H (H' := [⟨27, 2, 0, true, [.b sa, .n false .u64 a]⟩, ⟨27, 2, 0, true, [.b sb, .n false .u64 b]⟩, ⟨30, 2, 0, true, [.b sa, .n true .u64 a]⟩, ⟨30, 2, 0, true, [.b sb, .n true .u64 b]⟩, ⟨35, 2, 1, true, [.b (decide ((sv sa a) < 0)), .n false .u64 (dg (sv sa a))]⟩, ⟨35, 2, 1, true, [.b (decide ((sv sb b) < 0)), .n false .u64 (dg (sv sb b))]⟩, ⟨38, 20, 0, true, [.b (decide ((wq 0 (sv sa a) (sv sb b)) < 0)), .n false .u64 (dg (wq 0 (sv sa a) (sv sb b))), .b (decide (((sv sa a) - wq 0 (sv sa a) (sv sb b) * (sv sb b)) < 0)), .n false .u64 (dg ((sv sa a) - wq 0 (sv sa a) (sv sb b) * (sv sb b))), .b (decide ((wq 1 (sv sa a) (sv sb b)) < 0)), .n false .u64 (dg (wq 1 (sv sa a) (sv sb b))), .b (decide (((sv sa a) - wq 1 (sv sa a) (sv sb b) * (sv sb b)) < 0)), .n false .u64 (dg ((sv sa a) - wq 1 (sv sa a) (sv sb b) * (sv sb b))), .b (decide ((wq 2 (sv sa a) (sv sb b)) < 0)), .n false .u64 (dg (wq 2 (sv sa a) (sv sb b))), .b (decide (((sv sa a) - wq 2 (sv sa a) (sv sb b) * (sv sb b)) < 0)), .n false .u64 (dg ((sv sa a) - wq 2 (sv sa a) (sv sb b) * (sv sb b))), .b (decide ((wq 3 (sv sa a) (sv sb b)) < 0)), .n false .u64 (dg (wq 3 (sv sa a) (sv sb b))), .b (decide (((sv sa a) - wq 3 (sv sa a) (sv sb b) * (sv sb b)) < 0)), .n false .u64 (dg ((sv sa a) - wq 3 (sv sa a) (sv sb b) * (sv sb b))), .b (decide ((wq 4 (sv sa a) (sv sb b)) < 0)), .n false .u64 (dg (wq 4 (sv sa a) (sv sb b))), .b (decide (((sv sa a) - wq 4 (sv sa a) (sv sb b) * (sv sb b)) < 0)), .n false .u64 (dg ((sv sa a) - wq 4 (sv sa a) (sv sb b) * (sv sb b)))]⟩, ⟨82, 1, 0, true, ints .u64 (lm (wq 0 (sv sa a) (sv sb b)))⟩, ⟨82, 1, 0, true, ints .u64 (lm ((sv sa a) - wq 0 (sv sa a) (sv sb b) * (sv sb b)))⟩, ⟨30, 2, 0, true, [.b (decide ((wq 0 (sv sa a) (sv sb b)) < 0)), .o 7 0 0 (lm (wq 0 (sv sa a) (sv sb b))).length]⟩, ⟨30, 2, 0, true, [.b (decide (((sv sa a) - wq 0 (sv sa a) (sv sb b) * (sv sb b)) < 0)), .o 8 0 0 (lm ((sv sa a) - wq 0 (sv sa a) (sv sb b) * (sv sb b))).length]⟩]) rfl ?_
    refine jc_region ?_
    refine jo_l (ly_lda agg30 rfl rfl rfl rfl) (hd 95 rfl) ?_
    refine jo_l (ly_lda agg30 rfl rfl rfl rfl) (hd 96 rfl) ?_
    refine jo_callN Try.f20 (Floor_n sa sb a b (sv sa a) (sv sb b) (by omega) (by omega) ua ub rfl rfl hlv hlw h0) (fun o G ⟨_, h⟩ => h ▸ idless_cons ints_id (idless_cons ints_id idless_nil)) rfl Try.func20 rfl rfl (ovL_cons rfl (ovL_cons rfl ovL_nil)) (.cons (.a1 .b (.a1 .n .a0)) (.cons (.a1 .b (.a1 .n .a0)) .nil)) (hd 97 rfl) ?_ (fun ch G hp => by simp at hp)
    rintro y G ⟨hy, rfl⟩
    injection hy with hy
    subst hy
    show JO _ _ _ _ ((97, .t [.a [.b (decide ((wq 1 (sv sa a) (sv sb b)) < 0)), .o 11 0 0 (lm (wq 1 (sv sa a) (sv sb b))).length], .a [.b (decide (((sv sa a) - wq 1 (sv sa a) (sv sb b) * (sv sb b)) < 0)), .o 12 0 0 (lm ((sv sa a) - wq 1 (sv sa a) (sv sb b) * (sv sb b))).length], .i .i64 0]) :: _) _ _
    refine jo_l (ly_mv rfl) (hd 94 rfl) ?_
    refine jo_l (ly_ext rfl rfl) (hd 98 rfl) ?_
    refine jo_l (ly_ext rfl rfl) (hd 99 rfl) ?_
    refine jo_l (ly_ext rfl rfl) (hd 100 rfl) ?_
    refine jo_h (hy_alloc (id := 13) zero30 (by decide) rfl (by decide) rfl) (hd 16 rfl) ?_
    refine jo_h (hy_alloc (id := 14) zero30 (by decide) rfl (by decide) rfl) (hd 17 rfl) ?_
    refine jo_st (sy_store rfl rfl rfl siz30 rfl rfl (Nat.le_of_ble_eq_true rfl)) ?_
    refine jo_st (sy_store rfl rfl rfl siz30 rfl rfl (Nat.le_of_ble_eq_true rfl)) ?_
    refine jo_l (ly_as rfl) (hd 18 rfl) ?_
    refine jo_nil ?_
    refine jc_seq ?_
    refine jc_H (H' := [⟨27, 2, 0, true, [.b sa, .n false .u64 a]⟩, ⟨27, 2, 0, true, [.b sb, .n false .u64 b]⟩, ⟨30, 2, 0, true, [.b sa, .n true .u64 a]⟩, ⟨30, 2, 0, true, [.b sb, .n true .u64 b]⟩, ⟨35, 2, 1, true, [.b (decide ((sv sa a) < 0)), .n false .u64 (dg (sv sa a))]⟩, ⟨35, 2, 1, true, [.b (decide ((sv sb b) < 0)), .n false .u64 (dg (sv sb b))]⟩, ⟨38, 20, 0, true, [.b (decide ((wq 0 (sv sa a) (sv sb b)) < 0)), .n false .u64 (dg (wq 0 (sv sa a) (sv sb b))), .b (decide (((sv sa a) - wq 0 (sv sa a) (sv sb b) * (sv sb b)) < 0)), .n false .u64 (dg ((sv sa a) - wq 0 (sv sa a) (sv sb b) * (sv sb b))), .b (decide ((wq 1 (sv sa a) (sv sb b)) < 0)), .n false .u64 (dg (wq 1 (sv sa a) (sv sb b))), .b (decide (((sv sa a) - wq 1 (sv sa a) (sv sb b) * (sv sb b)) < 0)), .n false .u64 (dg ((sv sa a) - wq 1 (sv sa a) (sv sb b) * (sv sb b))), .b (decide ((wq 2 (sv sa a) (sv sb b)) < 0)), .n false .u64 (dg (wq 2 (sv sa a) (sv sb b))), .b (decide (((sv sa a) - wq 2 (sv sa a) (sv sb b) * (sv sb b)) < 0)), .n false .u64 (dg ((sv sa a) - wq 2 (sv sa a) (sv sb b) * (sv sb b))), .b (decide ((wq 3 (sv sa a) (sv sb b)) < 0)), .n false .u64 (dg (wq 3 (sv sa a) (sv sb b))), .b (decide (((sv sa a) - wq 3 (sv sa a) (sv sb b) * (sv sb b)) < 0)), .n false .u64 (dg ((sv sa a) - wq 3 (sv sa a) (sv sb b) * (sv sb b))), .b (decide ((wq 4 (sv sa a) (sv sb b)) < 0)), .n false .u64 (dg (wq 4 (sv sa a) (sv sb b))), .b (decide (((sv sa a) - wq 4 (sv sa a) (sv sb b) * (sv sb b)) < 0)), .n false .u64 (dg ((sv sa a) - wq 4 (sv sa a) (sv sb b) * (sv sb b)))]⟩, ⟨82, 1, 0, true, ints .u64 (lm (wq 0 (sv sa a) (sv sb b)))⟩, ⟨82, 1, 0, true, ints .u64 (lm ((sv sa a) - wq 0 (sv sa a) (sv sb b) * (sv sb b)))⟩, ⟨30, 2, 0, true, [.b (decide ((wq 0 (sv sa a) (sv sb b)) < 0)), .o 7 0 0 (lm (wq 0 (sv sa a) (sv sb b))).length]⟩, ⟨30, 2, 0, true, [.b (decide (((sv sa a) - wq 0 (sv sa a) (sv sb b) * (sv sb b)) < 0)), .o 8 0 0 (lm ((sv sa a) - wq 0 (sv sa a) (sv sb b) * (sv sb b))).length]⟩, ⟨82, 1, 0, true, ints .u64 (lm (wq 1 (sv sa a) (sv sb b)))⟩, ⟨82, 1, 0, true, ints .u64 (lm ((sv sa a) - wq 1 (sv sa a) (sv sb b) * (sv sb b)))⟩, ⟨30, 2, 0, true, [.b (decide ((wq 1 (sv sa a) (sv sb b)) < 0)), .o 11 0 0 (lm (wq 1 (sv sa a) (sv sb b))).length]⟩, ⟨30, 2, 0, true, [.b (decide (((sv sa a) - wq 1 (sv sa a) (sv sb b) * (sv sb b)) < 0)), .o 12 0 0 (lm ((sv sa a) - wq 1 (sv sa a) (sv sb b) * (sv sb b))).length]⟩]) rfl ?_
    refine jc_region ?_
    refine jo_l (ly_lda agg30 rfl rfl rfl rfl) (hd 102 rfl) ?_
    refine jo_l (ly_lda agg30 rfl rfl rfl rfl) (hd 103 rfl) ?_
    refine jo_callN Try.f21 (Ceil_n sa sb a b (sv sa a) (sv sb b) (by omega) (by omega) ua ub rfl rfl hlv hlw h0) (fun o G ⟨_, h⟩ => h ▸ idless_cons ints_id (idless_cons ints_id idless_nil)) rfl Try.func21 rfl rfl (ovL_cons rfl (ovL_cons rfl ovL_nil)) (.cons (.a1 .b (.a1 .n .a0)) (.cons (.a1 .b (.a1 .n .a0)) .nil)) (hd 104 rfl) ?_ (fun ch G hp => by simp at hp)
    rintro y G ⟨hy, rfl⟩
    injection hy with hy
    subst hy
    show JO _ _ _ _ ((104, .t [.a [.b (decide ((wq 2 (sv sa a) (sv sb b)) < 0)), .o 15 0 0 (lm (wq 2 (sv sa a) (sv sb b))).length], .a [.b (decide (((sv sa a) - wq 2 (sv sa a) (sv sb b) * (sv sb b)) < 0)), .o 16 0 0 (lm ((sv sa a) - wq 2 (sv sa a) (sv sb b) * (sv sb b))).length], .i .i64 0]) :: _) _ _
    refine jo_l (ly_mv rfl) (hd 101 rfl) ?_
    refine jo_l (ly_ext rfl rfl) (hd 105 rfl) ?_
    refine jo_l (ly_ext rfl rfl) (hd 106 rfl) ?_
    refine jo_l (ly_ext rfl rfl) (hd 107 rfl) ?_
    refine jo_h (hy_alloc (id := 17) zero30 (by decide) rfl (by decide) rfl) (hd 19 rfl) ?_
    refine jo_h (hy_alloc (id := 18) zero30 (by decide) rfl (by decide) rfl) (hd 20 rfl) ?_
    refine jo_st (sy_store rfl rfl rfl siz30 rfl rfl (Nat.le_of_ble_eq_true rfl)) ?_
    refine jo_st (sy_store rfl rfl rfl siz30 rfl rfl (Nat.le_of_ble_eq_true rfl)) ?_
    refine jo_l (ly_as rfl) (hd 21 rfl) ?_
    refine jo_nil ?_
    refine jc_seq ?_
    refine jc_H (H' := [⟨27, 2, 0, true, [.b sa, .n false .u64 a]⟩, ⟨27, 2, 0, true, [.b sb, .n false .u64 b]⟩, ⟨30, 2, 0, true, [.b sa, .n true .u64 a]⟩, ⟨30, 2, 0, true, [.b sb, .n true .u64 b]⟩, ⟨35, 2, 1, true, [.b (decide ((sv sa a) < 0)), .n false .u64 (dg (sv sa a))]⟩, ⟨35, 2, 1, true, [.b (decide ((sv sb b) < 0)), .n false .u64 (dg (sv sb b))]⟩, ⟨38, 20, 0, true, [.b (decide ((wq 0 (sv sa a) (sv sb b)) < 0)), .n false .u64 (dg (wq 0 (sv sa a) (sv sb b))), .b (decide (((sv sa a) - wq 0 (sv sa a) (sv sb b) * (sv sb b)) < 0)), .n false .u64 (dg ((sv sa a) - wq 0 (sv sa a) (sv sb b) * (sv sb b))), .b (decide ((wq 1 (sv sa a) (sv sb b)) < 0)), .n false .u64 (dg (wq 1 (sv sa a) (sv sb b))), .b (decide (((sv sa a) - wq 1 (sv sa a) (sv sb b) * (sv sb b)) < 0)), .n false .u64 (dg ((sv sa a) - wq 1 (sv sa a) (sv sb b) * (sv sb b))), .b (decide ((wq 2 (sv sa a) (sv sb b)) < 0)), .n false .u64 (dg (wq 2 (sv sa a) (sv sb b))), .b (decide (((sv sa a) - wq 2 (sv sa a) (sv sb b) * (sv sb b)) < 0)), .n false .u64 (dg ((sv sa a) - wq 2 (sv sa a) (sv sb b) * (sv sb b))), .b (decide ((wq 3 (sv sa a) (sv sb b)) < 0)), .n false .u64 (dg (wq 3 (sv sa a) (sv sb b))), .b (decide (((sv sa a) - wq 3 (sv sa a) (sv sb b) * (sv sb b)) < 0)), .n false .u64 (dg ((sv sa a) - wq 3 (sv sa a) (sv sb b) * (sv sb b))), .b (decide ((wq 4 (sv sa a) (sv sb b)) < 0)), .n false .u64 (dg (wq 4 (sv sa a) (sv sb b))), .b (decide (((sv sa a) - wq 4 (sv sa a) (sv sb b) * (sv sb b)) < 0)), .n false .u64 (dg ((sv sa a) - wq 4 (sv sa a) (sv sb b) * (sv sb b)))]⟩, ⟨82, 1, 0, true, ints .u64 (lm (wq 0 (sv sa a) (sv sb b)))⟩, ⟨82, 1, 0, true, ints .u64 (lm ((sv sa a) - wq 0 (sv sa a) (sv sb b) * (sv sb b)))⟩, ⟨30, 2, 0, true, [.b (decide ((wq 0 (sv sa a) (sv sb b)) < 0)), .o 7 0 0 (lm (wq 0 (sv sa a) (sv sb b))).length]⟩, ⟨30, 2, 0, true, [.b (decide (((sv sa a) - wq 0 (sv sa a) (sv sb b) * (sv sb b)) < 0)), .o 8 0 0 (lm ((sv sa a) - wq 0 (sv sa a) (sv sb b) * (sv sb b))).length]⟩, ⟨82, 1, 0, true, ints .u64 (lm (wq 1 (sv sa a) (sv sb b)))⟩, ⟨82, 1, 0, true, ints .u64 (lm ((sv sa a) - wq 1 (sv sa a) (sv sb b) * (sv sb b)))⟩, ⟨30, 2, 0, true, [.b (decide ((wq 1 (sv sa a) (sv sb b)) < 0)), .o 11 0 0 (lm (wq 1 (sv sa a) (sv sb b))).length]⟩, ⟨30, 2, 0, true, [.b (decide (((sv sa a) - wq 1 (sv sa a) (sv sb b) * (sv sb b)) < 0)), .o 12 0 0 (lm ((sv sa a) - wq 1 (sv sa a) (sv sb b) * (sv sb b))).length]⟩, ⟨82, 1, 0, true, ints .u64 (lm (wq 2 (sv sa a) (sv sb b)))⟩, ⟨82, 1, 0, true, ints .u64 (lm ((sv sa a) - wq 2 (sv sa a) (sv sb b) * (sv sb b)))⟩, ⟨30, 2, 0, true, [.b (decide ((wq 2 (sv sa a) (sv sb b)) < 0)), .o 15 0 0 (lm (wq 2 (sv sa a) (sv sb b))).length]⟩, ⟨30, 2, 0, true, [.b (decide (((sv sa a) - wq 2 (sv sa a) (sv sb b) * (sv sb b)) < 0)), .o 16 0 0 (lm ((sv sa a) - wq 2 (sv sa a) (sv sb b) * (sv sb b))).length]⟩]) rfl ?_
    refine jc_region ?_
    refine jo_l (ly_lda agg30 rfl rfl rfl rfl) (hd 109 rfl) ?_
    refine jo_l (ly_lda agg30 rfl rfl rfl rfl) (hd 110 rfl) ?_
    refine jo_callN Try.f22 (Near_n sa sb a b (sv sa a) (sv sb b) (by omega) (by omega) ua ub rfl rfl hlv hlw h0) (fun o G ⟨_, h⟩ => h ▸ idless_cons ints_id (idless_cons ints_id idless_nil)) rfl Try.func22 rfl rfl (ovL_cons rfl (ovL_cons rfl ovL_nil)) (.cons (.a1 .b (.a1 .n .a0)) (.cons (.a1 .b (.a1 .n .a0)) .nil)) (hd 111 rfl) ?_ (fun ch G hp => by simp at hp)
    rintro y G ⟨hy, rfl⟩
    injection hy with hy
    subst hy
    show JO _ _ _ _ ((111, .t [.a [.b (decide ((wq 3 (sv sa a) (sv sb b)) < 0)), .o 19 0 0 (lm (wq 3 (sv sa a) (sv sb b))).length], .a [.b (decide (((sv sa a) - wq 3 (sv sa a) (sv sb b) * (sv sb b)) < 0)), .o 20 0 0 (lm ((sv sa a) - wq 3 (sv sa a) (sv sb b) * (sv sb b))).length], .i .i64 0]) :: _) _ _
    refine jo_l (ly_mv rfl) (hd 108 rfl) ?_
    refine jo_l (ly_ext rfl rfl) (hd 112 rfl) ?_
    refine jo_l (ly_ext rfl rfl) (hd 113 rfl) ?_
    refine jo_l (ly_ext rfl rfl) (hd 114 rfl) ?_
    refine jo_h (hy_alloc (id := 21) zero30 (by decide) rfl (by decide) rfl) (hd 22 rfl) ?_
    refine jo_h (hy_alloc (id := 22) zero30 (by decide) rfl (by decide) rfl) (hd 23 rfl) ?_
    refine jo_st (sy_store rfl rfl rfl siz30 rfl rfl (Nat.le_of_ble_eq_true rfl)) ?_
    refine jo_st (sy_store rfl rfl rfl siz30 rfl rfl (Nat.le_of_ble_eq_true rfl)) ?_
    refine jo_l (ly_as rfl) (hd 24 rfl) ?_
    refine jo_nil ?_
    refine jc_seq ?_
    refine jc_H (H' := [⟨27, 2, 0, true, [.b sa, .n false .u64 a]⟩, ⟨27, 2, 0, true, [.b sb, .n false .u64 b]⟩, ⟨30, 2, 0, true, [.b sa, .n true .u64 a]⟩, ⟨30, 2, 0, true, [.b sb, .n true .u64 b]⟩, ⟨35, 2, 1, true, [.b (decide ((sv sa a) < 0)), .n false .u64 (dg (sv sa a))]⟩, ⟨35, 2, 1, true, [.b (decide ((sv sb b) < 0)), .n false .u64 (dg (sv sb b))]⟩, ⟨38, 20, 0, true, [.b (decide ((wq 0 (sv sa a) (sv sb b)) < 0)), .n false .u64 (dg (wq 0 (sv sa a) (sv sb b))), .b (decide (((sv sa a) - wq 0 (sv sa a) (sv sb b) * (sv sb b)) < 0)), .n false .u64 (dg ((sv sa a) - wq 0 (sv sa a) (sv sb b) * (sv sb b))), .b (decide ((wq 1 (sv sa a) (sv sb b)) < 0)), .n false .u64 (dg (wq 1 (sv sa a) (sv sb b))), .b (decide (((sv sa a) - wq 1 (sv sa a) (sv sb b) * (sv sb b)) < 0)), .n false .u64 (dg ((sv sa a) - wq 1 (sv sa a) (sv sb b) * (sv sb b))), .b (decide ((wq 2 (sv sa a) (sv sb b)) < 0)), .n false .u64 (dg (wq 2 (sv sa a) (sv sb b))), .b (decide (((sv sa a) - wq 2 (sv sa a) (sv sb b) * (sv sb b)) < 0)), .n false .u64 (dg ((sv sa a) - wq 2 (sv sa a) (sv sb b) * (sv sb b))), .b (decide ((wq 3 (sv sa a) (sv sb b)) < 0)), .n false .u64 (dg (wq 3 (sv sa a) (sv sb b))), .b (decide (((sv sa a) - wq 3 (sv sa a) (sv sb b) * (sv sb b)) < 0)), .n false .u64 (dg ((sv sa a) - wq 3 (sv sa a) (sv sb b) * (sv sb b))), .b (decide ((wq 4 (sv sa a) (sv sb b)) < 0)), .n false .u64 (dg (wq 4 (sv sa a) (sv sb b))), .b (decide (((sv sa a) - wq 4 (sv sa a) (sv sb b) * (sv sb b)) < 0)), .n false .u64 (dg ((sv sa a) - wq 4 (sv sa a) (sv sb b) * (sv sb b)))]⟩, ⟨82, 1, 0, true, ints .u64 (lm (wq 0 (sv sa a) (sv sb b)))⟩, ⟨82, 1, 0, true, ints .u64 (lm ((sv sa a) - wq 0 (sv sa a) (sv sb b) * (sv sb b)))⟩, ⟨30, 2, 0, true, [.b (decide ((wq 0 (sv sa a) (sv sb b)) < 0)), .o 7 0 0 (lm (wq 0 (sv sa a) (sv sb b))).length]⟩, ⟨30, 2, 0, true, [.b (decide (((sv sa a) - wq 0 (sv sa a) (sv sb b) * (sv sb b)) < 0)), .o 8 0 0 (lm ((sv sa a) - wq 0 (sv sa a) (sv sb b) * (sv sb b))).length]⟩, ⟨82, 1, 0, true, ints .u64 (lm (wq 1 (sv sa a) (sv sb b)))⟩, ⟨82, 1, 0, true, ints .u64 (lm ((sv sa a) - wq 1 (sv sa a) (sv sb b) * (sv sb b)))⟩, ⟨30, 2, 0, true, [.b (decide ((wq 1 (sv sa a) (sv sb b)) < 0)), .o 11 0 0 (lm (wq 1 (sv sa a) (sv sb b))).length]⟩, ⟨30, 2, 0, true, [.b (decide (((sv sa a) - wq 1 (sv sa a) (sv sb b) * (sv sb b)) < 0)), .o 12 0 0 (lm ((sv sa a) - wq 1 (sv sa a) (sv sb b) * (sv sb b))).length]⟩, ⟨82, 1, 0, true, ints .u64 (lm (wq 2 (sv sa a) (sv sb b)))⟩, ⟨82, 1, 0, true, ints .u64 (lm ((sv sa a) - wq 2 (sv sa a) (sv sb b) * (sv sb b)))⟩, ⟨30, 2, 0, true, [.b (decide ((wq 2 (sv sa a) (sv sb b)) < 0)), .o 15 0 0 (lm (wq 2 (sv sa a) (sv sb b))).length]⟩, ⟨30, 2, 0, true, [.b (decide (((sv sa a) - wq 2 (sv sa a) (sv sb b) * (sv sb b)) < 0)), .o 16 0 0 (lm ((sv sa a) - wq 2 (sv sa a) (sv sb b) * (sv sb b))).length]⟩, ⟨82, 1, 0, true, ints .u64 (lm (wq 3 (sv sa a) (sv sb b)))⟩, ⟨82, 1, 0, true, ints .u64 (lm ((sv sa a) - wq 3 (sv sa a) (sv sb b) * (sv sb b)))⟩, ⟨30, 2, 0, true, [.b (decide ((wq 3 (sv sa a) (sv sb b)) < 0)), .o 19 0 0 (lm (wq 3 (sv sa a) (sv sb b))).length]⟩, ⟨30, 2, 0, true, [.b (decide (((sv sa a) - wq 3 (sv sa a) (sv sb b) * (sv sb b)) < 0)), .o 20 0 0 (lm ((sv sa a) - wq 3 (sv sa a) (sv sb b) * (sv sb b))).length]⟩]) rfl ?_
    refine jc_region ?_
    refine jo_l (ly_lda agg30 rfl rfl rfl rfl) (hd 116 rfl) ?_
    refine jo_l (ly_lda agg30 rfl rfl rfl rfl) (hd 117 rfl) ?_
    refine jo_callN Try.f23 (Euclid_n sa sb a b (sv sa a) (sv sb b) (by omega) (by omega) ua ub rfl rfl hlv hlw h0) (fun o G ⟨_, h⟩ => h ▸ idless_cons ints_id (idless_cons ints_id idless_nil)) rfl Try.func23 rfl rfl (ovL_cons rfl (ovL_cons rfl ovL_nil)) (.cons (.a1 .b (.a1 .n .a0)) (.cons (.a1 .b (.a1 .n .a0)) .nil)) (hd 118 rfl) ?_ (fun ch G hp => by simp at hp)
    rintro y G ⟨hy, rfl⟩
    injection hy with hy
    subst hy
    show JO _ _ _ _ ((118, .t [.a [.b (decide ((wq 4 (sv sa a) (sv sb b)) < 0)), .o 23 0 0 (lm (wq 4 (sv sa a) (sv sb b))).length], .a [.b (decide (((sv sa a) - wq 4 (sv sa a) (sv sb b) * (sv sb b)) < 0)), .o 24 0 0 (lm ((sv sa a) - wq 4 (sv sa a) (sv sb b) * (sv sb b))).length], .i .i64 0]) :: _) _ _
    refine jo_l (ly_mv rfl) (hd 115 rfl) ?_
    refine jo_l (ly_ext rfl rfl) (hd 119 rfl) ?_
    refine jo_l (ly_ext rfl rfl) (hd 120 rfl) ?_
    refine jo_l (ly_ext rfl rfl) (hd 121 rfl) ?_
    refine jo_h (hy_alloc (id := 25) zero30 (by decide) rfl (by decide) rfl) (hd 25 rfl) ?_
    refine jo_h (hy_alloc (id := 26) zero30 (by decide) rfl (by decide) rfl) (hd 26 rfl) ?_
    refine jo_st (sy_store rfl rfl rfl siz30 rfl rfl (Nat.le_of_ble_eq_true rfl)) ?_
    refine jo_st (sy_store rfl rfl rfl siz30 rfl rfl (Nat.le_of_ble_eq_true rfl)) ?_
    refine jo_l (ly_as rfl) (hd 27 rfl) ?_
    refine jo_nil ?_
    refine jc_seq ?_
    refine jc_H (H' := [⟨27, 2, 0, true, [.b sa, .n false .u64 a]⟩, ⟨27, 2, 0, true, [.b sb, .n false .u64 b]⟩, ⟨30, 2, 0, true, [.b sa, .n true .u64 a]⟩, ⟨30, 2, 0, true, [.b sb, .n true .u64 b]⟩, ⟨35, 2, 1, true, [.b (decide ((sv sa a) < 0)), .n false .u64 (dg (sv sa a))]⟩, ⟨35, 2, 1, true, [.b (decide ((sv sb b) < 0)), .n false .u64 (dg (sv sb b))]⟩, ⟨38, 20, 0, true, [.b (decide ((wq 0 (sv sa a) (sv sb b)) < 0)), .n false .u64 (dg (wq 0 (sv sa a) (sv sb b))), .b (decide (((sv sa a) - wq 0 (sv sa a) (sv sb b) * (sv sb b)) < 0)), .n false .u64 (dg ((sv sa a) - wq 0 (sv sa a) (sv sb b) * (sv sb b))), .b (decide ((wq 1 (sv sa a) (sv sb b)) < 0)), .n false .u64 (dg (wq 1 (sv sa a) (sv sb b))), .b (decide (((sv sa a) - wq 1 (sv sa a) (sv sb b) * (sv sb b)) < 0)), .n false .u64 (dg ((sv sa a) - wq 1 (sv sa a) (sv sb b) * (sv sb b))), .b (decide ((wq 2 (sv sa a) (sv sb b)) < 0)), .n false .u64 (dg (wq 2 (sv sa a) (sv sb b))), .b (decide (((sv sa a) - wq 2 (sv sa a) (sv sb b) * (sv sb b)) < 0)), .n false .u64 (dg ((sv sa a) - wq 2 (sv sa a) (sv sb b) * (sv sb b))), .b (decide ((wq 3 (sv sa a) (sv sb b)) < 0)), .n false .u64 (dg (wq 3 (sv sa a) (sv sb b))), .b (decide (((sv sa a) - wq 3 (sv sa a) (sv sb b) * (sv sb b)) < 0)), .n false .u64 (dg ((sv sa a) - wq 3 (sv sa a) (sv sb b) * (sv sb b))), .b (decide ((wq 4 (sv sa a) (sv sb b)) < 0)), .n false .u64 (dg (wq 4 (sv sa a) (sv sb b))), .b (decide (((sv sa a) - wq 4 (sv sa a) (sv sb b) * (sv sb b)) < 0)), .n false .u64 (dg ((sv sa a) - wq 4 (sv sa a) (sv sb b) * (sv sb b)))]⟩, ⟨82, 1, 0, true, ints .u64 (lm (wq 0 (sv sa a) (sv sb b)))⟩, ⟨82, 1, 0, true, ints .u64 (lm ((sv sa a) - wq 0 (sv sa a) (sv sb b) * (sv sb b)))⟩, ⟨30, 2, 0, true, [.b (decide ((wq 0 (sv sa a) (sv sb b)) < 0)), .o 7 0 0 (lm (wq 0 (sv sa a) (sv sb b))).length]⟩, ⟨30, 2, 0, true, [.b (decide (((sv sa a) - wq 0 (sv sa a) (sv sb b) * (sv sb b)) < 0)), .o 8 0 0 (lm ((sv sa a) - wq 0 (sv sa a) (sv sb b) * (sv sb b))).length]⟩, ⟨82, 1, 0, true, ints .u64 (lm (wq 1 (sv sa a) (sv sb b)))⟩, ⟨82, 1, 0, true, ints .u64 (lm ((sv sa a) - wq 1 (sv sa a) (sv sb b) * (sv sb b)))⟩, ⟨30, 2, 0, true, [.b (decide ((wq 1 (sv sa a) (sv sb b)) < 0)), .o 11 0 0 (lm (wq 1 (sv sa a) (sv sb b))).length]⟩, ⟨30, 2, 0, true, [.b (decide (((sv sa a) - wq 1 (sv sa a) (sv sb b) * (sv sb b)) < 0)), .o 12 0 0 (lm ((sv sa a) - wq 1 (sv sa a) (sv sb b) * (sv sb b))).length]⟩, ⟨82, 1, 0, true, ints .u64 (lm (wq 2 (sv sa a) (sv sb b)))⟩, ⟨82, 1, 0, true, ints .u64 (lm ((sv sa a) - wq 2 (sv sa a) (sv sb b) * (sv sb b)))⟩, ⟨30, 2, 0, true, [.b (decide ((wq 2 (sv sa a) (sv sb b)) < 0)), .o 15 0 0 (lm (wq 2 (sv sa a) (sv sb b))).length]⟩, ⟨30, 2, 0, true, [.b (decide (((sv sa a) - wq 2 (sv sa a) (sv sb b) * (sv sb b)) < 0)), .o 16 0 0 (lm ((sv sa a) - wq 2 (sv sa a) (sv sb b) * (sv sb b))).length]⟩, ⟨82, 1, 0, true, ints .u64 (lm (wq 3 (sv sa a) (sv sb b)))⟩, ⟨82, 1, 0, true, ints .u64 (lm ((sv sa a) - wq 3 (sv sa a) (sv sb b) * (sv sb b)))⟩, ⟨30, 2, 0, true, [.b (decide ((wq 3 (sv sa a) (sv sb b)) < 0)), .o 19 0 0 (lm (wq 3 (sv sa a) (sv sb b))).length]⟩, ⟨30, 2, 0, true, [.b (decide (((sv sa a) - wq 3 (sv sa a) (sv sb b) * (sv sb b)) < 0)), .o 20 0 0 (lm ((sv sa a) - wq 3 (sv sa a) (sv sb b) * (sv sb b))).length]⟩, ⟨82, 1, 0, true, ints .u64 (lm (wq 4 (sv sa a) (sv sb b)))⟩, ⟨82, 1, 0, true, ints .u64 (lm ((sv sa a) - wq 4 (sv sa a) (sv sb b) * (sv sb b)))⟩, ⟨30, 2, 0, true, [.b (decide ((wq 4 (sv sa a) (sv sb b)) < 0)), .o 23 0 0 (lm (wq 4 (sv sa a) (sv sb b))).length]⟩, ⟨30, 2, 0, true, [.b (decide (((sv sa a) - wq 4 (sv sa a) (sv sb b) * (sv sb b)) < 0)), .o 24 0 0 (lm ((sv sa a) - wq 4 (sv sa a) (sv sb b) * (sv sb b))).length]⟩]) rfl ?_
    refine jc_regionb rfl ?_
    refine jo_l (ly_lda agg30 rfl rfl rfl rfl) (hd 122 rfl) ?_
    refine jo_l (ly_lda agg30 rfl rfl rfl rfl) (hd 123 rfl) ?_
    refine jo_l (ly_mv rfl) (hd 124 rfl) ?_
    refine jo_l (ly_iar (i := 0) ar38 rfl rfl rfl rfl (by omega) rfl) (hd 125 rfl) ?_
    refine jo_l (ly_lda agg35 rfl rfl rfl rfl) (hd 126 rfl) ?_
    refine jo_l (ly_iar (i := 1) ar38 rfl rfl rfl rfl (by omega) rfl) (hd 127 rfl) ?_
    refine jo_l (ly_lda agg35 rfl rfl rfl rfl) (hd 128 rfl) ?_
    refine jo_l (ly_mv rfl) (hd 129 rfl) ?_
    refine jo_callL Try.f24 (pair_ok (wq 0 (sv sa a) (sv sb b)) ((sv sa a) - wq 0 (sv sa a) (sv sb b) * (sv sb b)) (Nat.le_trans (wq_len h0).1 hlv) (Nat.le_trans (wq_len h0).2 hlw)) rfl Try.func24 rfl rfl (ovL_cons rfl (ovL_cons rfl (ovL_cons rfl (ovL_cons rfl (ovL_cons rfl (ovL_cons rfl ovL_nil)))))) (.a1 (.a1 .b (.a1 (.o rfl (by simp) (by rw [List.drop_zero, List.take_length])) .a0)) (.a1 (.a1 .b (.a1 (.o rfl (by simp) (by rw [List.drop_zero, List.take_length])) .a0)) (.a1 .i (.a1 (.a1 .b (.a1 .n .a0)) (.a1 (.a1 .b (.a1 .n .a0)) (.a1 .i .a0)))))) (.cons (.a1 .b (.a1 .n .a0)) (.cons (.a1 .b (.a1 .n .a0)) (.cons .i (.cons (.a1 .b (.a1 .n .a0)) (.cons (.a1 .b (.a1 .n .a0)) (.cons .i .nil)))))) hL (fun y hy => by injection hy with hy; subst hy; rfl) (hd 130 rfl) ?_ (fun ch hp => by simp at hp)
    rintro y hy; injection hy with hy; subst hy
    refine jo_l (ly_mv rfl) (hd 131 rfl) ?_
    refine jo_g 131 rfl rfl (ly_lda agg30 rfl rfl rfl rfl) (hd 132 rfl) ?_
    refine jo_g 131 rfl rfl (ly_lda agg30 rfl rfl rfl rfl) (hd 133 rfl) ?_
    as_aux_lemma =>
      refine jo_g 131 rfl rfl (ly_mv rfl) (hd 134 rfl) ?_
      refine jo_g 131 rfl rfl (ly_iar (i := 2) ar38 rfl rfl rfl rfl (by omega) rfl) (hd 135 rfl) ?_
      refine jo_g 131 rfl rfl (ly_lda agg35 rfl rfl rfl rfl) (hd 136 rfl) ?_
      refine jo_g 131 rfl rfl (ly_iar (i := 3) ar38 rfl rfl rfl rfl (by omega) rfl) (hd 137 rfl) ?_
      refine jo_g 131 rfl rfl (ly_lda agg35 rfl rfl rfl rfl) (hd 138 rfl) ?_
      refine jo_g 131 rfl rfl (ly_mv rfl) (hd 139 rfl) ?_
      refine jo_callLg Try.f24 131 rfl rfl (pair_ok (wq 1 (sv sa a) (sv sb b)) ((sv sa a) - wq 1 (sv sa a) (sv sb b) * (sv sb b)) (Nat.le_trans (wq_len h0).1 hlv) (Nat.le_trans (wq_len h0).2 hlw)) rfl Try.func24 rfl rfl (ovL_cons rfl (ovL_cons rfl (ovL_cons rfl (ovL_cons rfl (ovL_cons rfl (ovL_cons rfl ovL_nil)))))) (.a1 (.a1 .b (.a1 (.o rfl (by simp) (by rw [List.drop_zero, List.take_length])) .a0)) (.a1 (.a1 .b (.a1 (.o rfl (by simp) (by rw [List.drop_zero, List.take_length])) .a0)) (.a1 .i (.a1 (.a1 .b (.a1 .n .a0)) (.a1 (.a1 .b (.a1 .n .a0)) (.a1 .i .a0)))))) (.cons (.a1 .b (.a1 .n .a0)) (.cons (.a1 .b (.a1 .n .a0)) (.cons .i (.cons (.a1 .b (.a1 .n .a0)) (.cons (.a1 .b (.a1 .n .a0)) (.cons .i .nil)))))) hL (fun y hy => by injection hy with hy; subst hy; rfl) (hd 140 rfl) ?_ (fun ch hp => by simp at hp)
      rintro y hy; injection hy with hy; subst hy
      refine jo_l (ly_pick_t rfl rfl) (hd 141 rfl) ?_
      refine jo_l (ly_mv rfl) (hd 142 rfl) ?_
      refine jo_g 142 rfl rfl (ly_lda agg30 rfl rfl rfl rfl) (hd 143 rfl) ?_
      refine jo_g 142 rfl rfl (ly_lda agg30 rfl rfl rfl rfl) (hd 144 rfl) ?_
      refine jo_g 142 rfl rfl (ly_mv rfl) (hd 145 rfl) ?_
      as_aux_lemma =>
        refine jo_g 142 rfl rfl (ly_iar (i := 4) ar38 rfl rfl rfl rfl (by omega) rfl) (hd 146 rfl) ?_
        refine jo_g 142 rfl rfl (ly_lda agg35 rfl rfl rfl rfl) (hd 147 rfl) ?_
        refine jo_g 142 rfl rfl (ly_iar (i := 5) ar38 rfl rfl rfl rfl (by omega) rfl) (hd 148 rfl) ?_
        refine jo_g 142 rfl rfl (ly_lda agg35 rfl rfl rfl rfl) (hd 149 rfl) ?_
        refine jo_g 142 rfl rfl (ly_mv rfl) (hd 150 rfl) ?_
        refine jo_callLg Try.f24 142 rfl rfl (pair_ok (wq 2 (sv sa a) (sv sb b)) ((sv sa a) - wq 2 (sv sa a) (sv sb b) * (sv sb b)) (Nat.le_trans (wq_len h0).1 hlv) (Nat.le_trans (wq_len h0).2 hlw)) rfl Try.func24 rfl rfl (ovL_cons rfl (ovL_cons rfl (ovL_cons rfl (ovL_cons rfl (ovL_cons rfl (ovL_cons rfl ovL_nil)))))) (.a1 (.a1 .b (.a1 (.o rfl (by simp) (by rw [List.drop_zero, List.take_length])) .a0)) (.a1 (.a1 .b (.a1 (.o rfl (by simp) (by rw [List.drop_zero, List.take_length])) .a0)) (.a1 .i (.a1 (.a1 .b (.a1 .n .a0)) (.a1 (.a1 .b (.a1 .n .a0)) (.a1 .i .a0)))))) (.cons (.a1 .b (.a1 .n .a0)) (.cons (.a1 .b (.a1 .n .a0)) (.cons .i (.cons (.a1 .b (.a1 .n .a0)) (.cons (.a1 .b (.a1 .n .a0)) (.cons .i .nil)))))) hL (fun y hy => by injection hy with hy; subst hy; rfl) (hd 151 rfl) ?_ (fun ch hp => by simp at hp)
        rintro y hy; injection hy with hy; subst hy
        refine jo_l (ly_pick_t rfl rfl) (hd 152 rfl) ?_
        refine jo_l (ly_mv rfl) (hd 153 rfl) ?_
        refine jo_g 153 rfl rfl (ly_lda agg30 rfl rfl rfl rfl) (hd 154 rfl) ?_
        refine jo_g 153 rfl rfl (ly_lda agg30 rfl rfl rfl rfl) (hd 155 rfl) ?_
        refine jo_g 153 rfl rfl (ly_mv rfl) (hd 156 rfl) ?_
        refine jo_g 153 rfl rfl (ly_iar (i := 6) ar38 rfl rfl rfl rfl (by omega) rfl) (hd 157 rfl) ?_
        as_aux_lemma =>
          refine jo_g 153 rfl rfl (ly_lda agg35 rfl rfl rfl rfl) (hd 158 rfl) ?_
          refine jo_g 153 rfl rfl (ly_iar (i := 7) ar38 rfl rfl rfl rfl (by omega) rfl) (hd 159 rfl) ?_
          refine jo_g 153 rfl rfl (ly_lda agg35 rfl rfl rfl rfl) (hd 160 rfl) ?_
          refine jo_g 153 rfl rfl (ly_mv rfl) (hd 161 rfl) ?_
          refine jo_callLg Try.f24 153 rfl rfl (pair_ok (wq 3 (sv sa a) (sv sb b)) ((sv sa a) - wq 3 (sv sa a) (sv sb b) * (sv sb b)) (Nat.le_trans (wq_len h0).1 hlv) (Nat.le_trans (wq_len h0).2 hlw)) rfl Try.func24 rfl rfl (ovL_cons rfl (ovL_cons rfl (ovL_cons rfl (ovL_cons rfl (ovL_cons rfl (ovL_cons rfl ovL_nil)))))) (.a1 (.a1 .b (.a1 (.o rfl (by simp) (by rw [List.drop_zero, List.take_length])) .a0)) (.a1 (.a1 .b (.a1 (.o rfl (by simp) (by rw [List.drop_zero, List.take_length])) .a0)) (.a1 .i (.a1 (.a1 .b (.a1 .n .a0)) (.a1 (.a1 .b (.a1 .n .a0)) (.a1 .i .a0)))))) (.cons (.a1 .b (.a1 .n .a0)) (.cons (.a1 .b (.a1 .n .a0)) (.cons .i (.cons (.a1 .b (.a1 .n .a0)) (.cons (.a1 .b (.a1 .n .a0)) (.cons .i .nil)))))) hL (fun y hy => by injection hy with hy; subst hy; rfl) (hd 162 rfl) ?_ (fun ch hp => by simp at hp)
          rintro y hy; injection hy with hy; subst hy
          refine jo_l (ly_pick_t rfl rfl) (hd 163 rfl) ?_
          refine jo_l (ly_mv rfl) (hd 164 rfl) ?_
          refine jo_g 164 rfl rfl (ly_lda agg30 rfl rfl rfl rfl) (hd 165 rfl) ?_
          refine jo_g 164 rfl rfl (ly_lda agg30 rfl rfl rfl rfl) (hd 166 rfl) ?_
          refine jo_g 164 rfl rfl (ly_mv rfl) (hd 167 rfl) ?_
          refine jo_g 164 rfl rfl (ly_iar (i := 8) ar38 rfl rfl rfl rfl (by omega) rfl) (hd 168 rfl) ?_
          refine jo_g 164 rfl rfl (ly_lda agg35 rfl rfl rfl rfl) (hd 169 rfl) ?_
          as_aux_lemma =>
            refine jo_g 164 rfl rfl (ly_iar (i := 9) ar38 rfl rfl rfl rfl (by omega) rfl) (hd 170 rfl) ?_
            refine jo_g 164 rfl rfl (ly_lda agg35 rfl rfl rfl rfl) (hd 171 rfl) ?_
            refine jo_g 164 rfl rfl (ly_mv rfl) (hd 172 rfl) ?_
            refine jo_callLg Try.f24 164 rfl rfl (pair_ok (wq 4 (sv sa a) (sv sb b)) ((sv sa a) - wq 4 (sv sa a) (sv sb b) * (sv sb b)) (Nat.le_trans (wq_len h0).1 hlv) (Nat.le_trans (wq_len h0).2 hlw)) rfl Try.func24 rfl rfl (ovL_cons rfl (ovL_cons rfl (ovL_cons rfl (ovL_cons rfl (ovL_cons rfl (ovL_cons rfl ovL_nil)))))) (.a1 (.a1 .b (.a1 (.o rfl (by simp) (by rw [List.drop_zero, List.take_length])) .a0)) (.a1 (.a1 .b (.a1 (.o rfl (by simp) (by rw [List.drop_zero, List.take_length])) .a0)) (.a1 .i (.a1 (.a1 .b (.a1 .n .a0)) (.a1 (.a1 .b (.a1 .n .a0)) (.a1 .i .a0)))))) (.cons (.a1 .b (.a1 .n .a0)) (.cons (.a1 .b (.a1 .n .a0)) (.cons .i (.cons (.a1 .b (.a1 .n .a0)) (.cons (.a1 .b (.a1 .n .a0)) (.cons .i .nil)))))) hL (fun y hy => by injection hy with hy; subst hy; rfl) (hd 173 rfl) ?_ (fun ch hp => by simp at hp)
            rintro y hy; injection hy with hy; subst hy
            refine jo_l (ly_pick_t rfl rfl) (hd 174 rfl) ?_
            refine jo_l (ly_mv rfl) (hd 175 rfl) ?_
            refine jo_g 175 rfl rfl (ly_fa fld30_1 rfl rfl rfl) (hd 176 rfl) ?_
            refine jo_g 175 rfl rfl (ly_ld one28 rfl rfl rfl) (hd 177 rfl) ?_
            refine jo_g 175 rfl rfl (ly_fa fld30_1 rfl rfl rfl) (hd 178 rfl) ?_
            refine jo_g 175 rfl rfl (ly_ld one28 rfl rfl rfl) (hd 179 rfl) ?_
            refine jo_g 175 rfl rfl (ly_fa fld30_1 rfl rfl rfl) (hd 180 rfl) ?_
            refine jo_g 175 rfl rfl (ly_ld one28 rfl rfl rfl) (hd 181 rfl) ?_
            as_aux_lemma =>
              refine jo_g 175 rfl rfl (ly_fa fld30_1 rfl rfl rfl) (hd 182 rfl) ?_
              refine jo_g 175 rfl rfl (ly_ld one28 rfl rfl rfl) (hd 183 rfl) ?_
              refine jo_g 175 rfl rfl (ly_fa fld30_1 rfl rfl rfl) (hd 184 rfl) ?_
              refine jo_g 175 rfl rfl (ly_ld one28 rfl rfl rfl) (hd 185 rfl) ?_
              refine jo_g 175 rfl rfl (ly_fa fld30_1 rfl rfl rfl) (hd 186 rfl) ?_
              refine jo_g 175 rfl rfl (ly_ld one28 rfl rfl rfl) (hd 187 rfl) ?_
              refine jo_g 175 rfl rfl (ly_fa fld30_1 rfl rfl rfl) (hd 188 rfl) ?_
              refine jo_g 175 rfl rfl (ly_ld one28 rfl rfl rfl) (hd 189 rfl) ?_
              refine jo_g 175 rfl rfl (ly_fa fld30_1 rfl rfl rfl) (hd 190 rfl) ?_
              refine jo_g 175 rfl rfl (ly_ld one28 rfl rfl rfl) (hd 191 rfl) ?_
              refine jo_g 175 rfl rfl (ly_fa fld30_1 rfl rfl rfl) (hd 192 rfl) ?_
              refine jo_g 175 rfl rfl (ly_ld one28 rfl rfl rfl) (hd 193 rfl) ?_
              as_aux_lemma =>
                refine jo_g 175 rfl rfl (ly_fa fld30_1 rfl rfl rfl) (hd 194 rfl) ?_
                refine jo_g 175 rfl rfl (ly_ld one28 rfl rfl rfl) (hd 195 rfl) ?_
                refine jo_hg 175 rfl rfl (hy_lit (id := 27) (xs := [.tmp 177, .tmp 179, .tmp 181, .tmp 183, .tmp 185, .tmp 187, .tmp 189, .tmp 191, .tmp 193, .tmp 195]) el81 rfl (ovL_cons rfl (ovL_cons rfl (ovL_cons rfl (ovL_cons rfl (ovL_cons rfl (ovL_cons rfl (ovL_cons rfl (ovL_cons rfl (ovL_cons rfl (ovL_cons rfl ovL_nil)))))))))) rfl (all2_of rfl) (by decide) rfl) (hd 196 rfl) ?_
                refine jo_callGg Try.f25 175 rfl rfl (sel := [27, 7, 8, 11, 12, 15, 16, 19, 20, 23, 24]) (Own_s 10 (by decide) (rsOf [(lm (wq 0 (sv sa a) (sv sb b))), (lm ((sv sa a) - wq 0 (sv sa a) (sv sb b) * (sv sb b))), (lm (wq 1 (sv sa a) (sv sb b))), (lm ((sv sa a) - wq 1 (sv sa a) (sv sb b) * (sv sb b))), (lm (wq 2 (sv sa a) (sv sb b))), (lm ((sv sa a) - wq 2 (sv sa a) (sv sb b) * (sv sb b))), (lm (wq 3 (sv sa a) (sv sb b))), (lm ((sv sa a) - wq 3 (sv sa a) (sv sb b) * (sv sb b))), (lm (wq 4 (sv sa a) (sv sb b))), (lm ((sv sa a) - wq 4 (sv sa a) (sv sb b) * (sv sb b)))]) (fun j _ => rsOf_len (by simp <;> omega) (by decide) j)) rfl Try.func25 rfl rfl (ovL_cons rfl ovL_nil) rfl rfl (.cons rfl rfl (.cons rfl (renL_ints _ _ _) (.cons rfl (renL_ints _ _ _) (.cons rfl (renL_ints _ _ _) (.cons rfl (renL_ints _ _ _) (.cons rfl (renL_ints _ _ _) (.cons rfl (renL_ints _ _ _) (.cons rfl (renL_ints _ _ _) (.cons rfl (renL_ints _ _ _) (.cons rfl (renL_ints _ _ _) (.cons rfl (renL_ints _ _ _) .nil))))))))))) (by decide) ow_ids ow_fresh (fun y G h => by cases h; rfl) (hd 197 rfl) ?_ (fun ch G hp => by cases hp)
                rintro y G hy; injection hy with hy; subst hy
                refine jo_l (ly_pick_t rfl rfl) (hd 198 rfl) ?_
                refine jo_l (ly_mv rfl) (hd 199 rfl) ?_
                refine jo_g 199 rfl rfl (ly_mv rfl) (hd 200 rfl) ?_
                refine jo_g 199 rfl rfl (ly_fa fld27_1 rfl rfl rfl) (hd 201 rfl) ?_
                refine jo_g 199 rfl rfl (ly_ld one25 rfl rfl rfl) (hd 202 rfl) ?_
                refine jo_callg Try.f26 199 rfl rfl (Kept_s a (by omega)) rfl Try.func26 rfl rfl (ovL_cons rfl (ovL_cons rfl ovL_nil)) (.cons .n (.cons .n .nil)) (hd 203 rfl) ?_ (fun ch hp => by simp at hp)
                rintro y hy; injection hy with hy; subst hy
                refine jo_l (ly_pick_t rfl rfl) (hd 204 rfl) ?_
                refine jo_l (ly_mv rfl) (hd 205 rfl) ?_
                as_aux_lemma =>
                  refine jo_g 205 rfl rfl (ly_mv rfl) (hd 206 rfl) ?_
                  refine jo_g 205 rfl rfl (ly_fa fld27_1 rfl rfl rfl) (hd 207 rfl) ?_
                  refine jo_g 205 rfl rfl (ly_ld one25 rfl rfl rfl) (hd 208 rfl) ?_
                  refine jo_callg Try.f26 205 rfl rfl (Kept_s b (by omega)) rfl Try.func26 rfl rfl (ovL_cons rfl (ovL_cons rfl ovL_nil)) (.cons .n (.cons .n .nil)) (hd 209 rfl) ?_ (fun ch hp => by simp at hp)
                  rintro y hy; injection hy with hy; subst hy
                  refine jo_l (ly_pick_t rfl rfl) (hd 210 rfl) ?_
                  refine jo_l (ly_mv rfl) (hd 211 rfl) ?_
                  refine jo_callg Try.f10 211 rfl rfl (awake_s) rfl Try.func10 rfl rfl ovL_nil .nil (hd 212 rfl) ?_ (fun ch hp => by simp at hp)
                  rintro y hy; injection hy with hy; subst hy
                  refine jo_l (ly_pick_t rfl rfl) (hd 213 rfl) ?_
                  refine jo_l (ly_as rfl) (hd 4 rfl) ?_
                  refine jo_nil ?_
                  refine jc_ret ?_
                  refine ⟨_, _, (.cons rfl .nil), .b, ?_⟩
                  exact rfl
  have S3_11111110 : JA Try.prog ops1 1 #[true, true, true, true, true, true, true, false] Γ ([(9, .p 4 1 0), (10, .p 5 1 0), (38, .a [.b sa, .n false .u64 a]), (39, .a [.b (decide ((sv sa a) < 0)), .n false .u64 (dg (sv sa a))]), (40, .a [.b sb, .n false .u64 b]), (41, .a [.b (decide ((sv sb b) < 0)), .n false .u64 (dg (sv sb b))])] ++ F0) [⟨27, 2, 0, true, [.b sa, .n false .u64 a]⟩, ⟨27, 2, 0, true, [.b sb, .n false .u64 b]⟩, ⟨30, 2, 0, true, [.b sa, .n true .u64 a]⟩, ⟨30, 2, 0, true, [.b sb, .n true .u64 b]⟩, ⟨35, 2, 1, true, [.b (decide ((sv sa a) < 0)), .n false .u64 (dg (sv sa a))]⟩, ⟨35, 2, 1, true, [.b false, .c (.slice none 0 0)]⟩] Q1 := by
    subst ho; subst hF
    refine ja_1 7 ?_ rfl (by kernel_rfl)
    refine js_st (sy_store rfl rfl rfl siz35 rfl rfl (Nat.le_of_ble_eq_true rfl)) rfl ?_
    refine ja_to (m := [(9, .p 4 1 0), (10, .p 5 1 0), (38, .a [.b sa, .n false .u64 a]), (39, .a [.b (decide ((sv sa a) < 0)), .n false .u64 (dg (sv sa a))]), (40, .a [.b sb, .n false .u64 b]), (41, .a [.b (decide ((sv sb b) < 0)), .n false .u64 (dg (sv sb b))])]) (by decide) rfl (cov_n 6 rfl rfl (.cons rfl (.cons rfl (.cons rfl (.cons rfl (.cons rfl (.cons rfl .nil))))))) S3_11111111
  have S3_11111100 : JA Try.prog ops1 2 #[true, true, true, true, true, true, false, false] Γ ([(9, .p 4 1 0), (10, .p 5 1 0), (38, .a [.b sa, .n false .u64 a]), (39, .a [.b (decide ((sv sa a) < 0)), .n false .u64 (dg (sv sa a))]), (40, .a [.b sb, .n false .u64 b]), (41, .a [.b (decide ((sv sb b) < 0)), .n false .u64 (dg (sv sb b))])] ++ F0) [⟨27, 2, 0, true, [.b sa, .n false .u64 a]⟩, ⟨27, 2, 0, true, [.b sb, .n false .u64 b]⟩, ⟨30, 2, 0, true, [.b sa, .n true .u64 a]⟩, ⟨30, 2, 0, true, [.b sb, .n true .u64 b]⟩, ⟨35, 2, 1, true, [.b false, .c (.slice none 0 0)]⟩, ⟨35, 2, 1, true, [.b false, .c (.slice none 0 0)]⟩] Q1 := by
    subst ho; subst hF
    refine ja_1 6 ?_ rfl (by kernel_rfl)
    refine js_st (sy_store rfl rfl rfl siz35 rfl rfl (Nat.le_of_ble_eq_true rfl)) rfl ?_
    refine ja_to (m := [(9, .p 4 1 0), (10, .p 5 1 0), (38, .a [.b sa, .n false .u64 a]), (39, .a [.b (decide ((sv sa a) < 0)), .n false .u64 (dg (sv sa a))]), (40, .a [.b sb, .n false .u64 b]), (41, .a [.b (decide ((sv sb b) < 0)), .n false .u64 (dg (sv sb b))])]) (by decide) rfl (cov_n 6 rfl rfl (.cons rfl (.cons rfl (.cons rfl (.cons rfl (.cons rfl (.cons rfl .nil))))))) S3_11111110
  have S3_11111000 : JA Try.prog ops1 3 #[true, true, true, true, true, false, false, false] Γ ([(9, .p 4 1 0), (38, .a [.b sa, .n false .u64 a]), (39, .a [.b (decide ((sv sa a) < 0)), .n false .u64 (dg (sv sa a))]), (40, .a [.b sb, .n false .u64 b]), (41, .a [.b (decide ((sv sb b) < 0)), .n false .u64 (dg (sv sb b))])] ++ F0) [⟨27, 2, 0, true, [.b sa, .n false .u64 a]⟩, ⟨27, 2, 0, true, [.b sb, .n false .u64 b]⟩, ⟨30, 2, 0, true, [.b sa, .n true .u64 a]⟩, ⟨30, 2, 0, true, [.b sb, .n true .u64 b]⟩, ⟨35, 2, 1, true, [.b false, .c (.slice none 0 0)]⟩, ⟨0, 1, 0, true, []⟩] Q1 := by
    subst ho; subst hF
    refine ja_1 5 ?_ rfl (by kernel_rfl)
    refine js_h (hy_allocAt (id := 5) zero35 (by decide) rfl (by decide) rfl) (hd 10 rfl) ?_
    refine ja_to (m := [(9, .p 4 1 0), (10, .p 5 1 0), (38, .a [.b sa, .n false .u64 a]), (39, .a [.b (decide ((sv sa a) < 0)), .n false .u64 (dg (sv sa a))]), (40, .a [.b sb, .n false .u64 b]), (41, .a [.b (decide ((sv sb b) < 0)), .n false .u64 (dg (sv sb b))])]) (by decide) rfl (cov_n 6 rfl rfl (.cons rfl (.cons rfl (.cons rfl (.cons rfl (.cons rfl (.cons rfl .nil))))))) S3_11111100
  have S3_11110100 : JA Try.prog ops1 3 #[true, true, true, true, false, true, false, false] Γ ([(10, .p 5 1 0), (38, .a [.b sa, .n false .u64 a]), (39, .a [.b (decide ((sv sa a) < 0)), .n false .u64 (dg (sv sa a))]), (40, .a [.b sb, .n false .u64 b]), (41, .a [.b (decide ((sv sb b) < 0)), .n false .u64 (dg (sv sb b))])] ++ F0) [⟨27, 2, 0, true, [.b sa, .n false .u64 a]⟩, ⟨27, 2, 0, true, [.b sb, .n false .u64 b]⟩, ⟨30, 2, 0, true, [.b sa, .n true .u64 a]⟩, ⟨30, 2, 0, true, [.b sb, .n true .u64 b]⟩, ⟨0, 1, 0, true, []⟩, ⟨35, 2, 1, true, [.b false, .c (.slice none 0 0)]⟩] Q1 := by
    subst ho; subst hF
    refine ja_1 4 ?_ rfl (by kernel_rfl)
    refine js_h (hy_allocAt (id := 4) zero35 (by decide) rfl (by decide) rfl) (hd 9 rfl) ?_
    refine ja_to (m := [(9, .p 4 1 0), (10, .p 5 1 0), (38, .a [.b sa, .n false .u64 a]), (39, .a [.b (decide ((sv sa a) < 0)), .n false .u64 (dg (sv sa a))]), (40, .a [.b sb, .n false .u64 b]), (41, .a [.b (decide ((sv sb b) < 0)), .n false .u64 (dg (sv sb b))])]) (by decide) rfl (cov_n 6 rfl rfl (.cons rfl (.cons rfl (.cons rfl (.cons rfl (.cons rfl (.cons rfl .nil))))))) S3_11111100
  have S3_11110000 : JA Try.prog ops1 4 #[true, true, true, true, false, false, false, false] Γ ([(38, .a [.b sa, .n false .u64 a]), (39, .a [.b (decide ((sv sa a) < 0)), .n false .u64 (dg (sv sa a))]), (40, .a [.b sb, .n false .u64 b]), (41, .a [.b (decide ((sv sb b) < 0)), .n false .u64 (dg (sv sb b))])] ++ F0) [⟨27, 2, 0, true, [.b sa, .n false .u64 a]⟩, ⟨27, 2, 0, true, [.b sb, .n false .u64 b]⟩, ⟨30, 2, 0, true, [.b sa, .n true .u64 a]⟩, ⟨30, 2, 0, true, [.b sb, .n true .u64 b]⟩, ⟨0, 1, 0, true, []⟩, ⟨0, 1, 0, true, []⟩] Q1 := by
    subst ho; subst hF
    refine ja_2 4 5 ?_ ?_ rfl rfl (by kernel_rfl)
    · refine js_h (hy_allocAt (id := 4) zero35 (by decide) rfl (by decide) rfl) (hd 9 rfl) ?_
      refine ja_to (m := [(9, .p 4 1 0), (38, .a [.b sa, .n false .u64 a]), (39, .a [.b (decide ((sv sa a) < 0)), .n false .u64 (dg (sv sa a))]), (40, .a [.b sb, .n false .u64 b]), (41, .a [.b (decide ((sv sb b) < 0)), .n false .u64 (dg (sv sb b))])]) (by decide) rfl (cov_n 5 rfl rfl (.cons rfl (.cons rfl (.cons rfl (.cons rfl (.cons rfl .nil)))))) S3_11111000
    · refine js_h (hy_allocAt (id := 5) zero35 (by decide) rfl (by decide) rfl) (hd 10 rfl) ?_
      refine ja_to (m := [(10, .p 5 1 0), (38, .a [.b sa, .n false .u64 a]), (39, .a [.b (decide ((sv sa a) < 0)), .n false .u64 (dg (sv sa a))]), (40, .a [.b sb, .n false .u64 b]), (41, .a [.b (decide ((sv sb b) < 0)), .n false .u64 (dg (sv sb b))])]) (by decide) rfl (cov_n 5 rfl rfl (.cons rfl (.cons rfl (.cons rfl (.cons rfl (.cons rfl .nil)))))) S3_11110100
  have S3_11101100 : JA Try.prog ops1 3 #[true, true, true, false, true, true, false, false] Γ ([(9, .p 4 1 0), (10, .p 5 1 0), (38, .a [.b sa, .n false .u64 a]), (39, .a [.b (decide ((sv sa a) < 0)), .n false .u64 (dg (sv sa a))]), (40, .a [.b sb, .n false .u64 b])] ++ F0) [⟨27, 2, 0, true, [.b sa, .n false .u64 a]⟩, ⟨27, 2, 0, true, [.b sb, .n false .u64 b]⟩, ⟨30, 2, 0, true, [.b sa, .n true .u64 a]⟩, ⟨30, 2, 0, true, [.b sb, .n true .u64 b]⟩, ⟨35, 2, 1, true, [.b false, .c (.slice none 0 0)]⟩, ⟨35, 2, 1, true, [.b false, .c (.slice none 0 0)]⟩] Q1 := by
    subst ho; subst hF
    refine ja_1 3 ?_ rfl (by kernel_rfl)
    refine js_call Try.f12 (of_s sb b (by omega) ub) rfl Try.func12 rfl rfl (ovL_cons rfl ovL_nil) (.cons (.a1 .b (.a1 .n .a0)) .nil) (hd 41 rfl) ?_ (fun ch hp => by simp at hp)
    rintro y hy; injection hy with hy; subst hy
    refine ja_to (m := [(9, .p 4 1 0), (10, .p 5 1 0), (38, .a [.b sa, .n false .u64 a]), (39, .a [.b (decide ((sv sa a) < 0)), .n false .u64 (dg (sv sa a))]), (40, .a [.b sb, .n false .u64 b]), (41, .a [.b (decide ((sv sb b) < 0)), .n false .u64 (dg (sv sb b))])]) (by decide) rfl (cov_n 6 rfl rfl (.cons rfl (.cons rfl (.cons rfl (.cons rfl (.cons rfl (.cons rfl .nil))))))) S3_11111100
  have S3_11101000 : JA Try.prog ops1 4 #[true, true, true, false, true, false, false, false] Γ ([(9, .p 4 1 0), (38, .a [.b sa, .n false .u64 a]), (39, .a [.b (decide ((sv sa a) < 0)), .n false .u64 (dg (sv sa a))]), (40, .a [.b sb, .n false .u64 b])] ++ F0) [⟨27, 2, 0, true, [.b sa, .n false .u64 a]⟩, ⟨27, 2, 0, true, [.b sb, .n false .u64 b]⟩, ⟨30, 2, 0, true, [.b sa, .n true .u64 a]⟩, ⟨30, 2, 0, true, [.b sb, .n true .u64 b]⟩, ⟨35, 2, 1, true, [.b false, .c (.slice none 0 0)]⟩, ⟨0, 1, 0, true, []⟩] Q1 := by
    subst ho; subst hF
    refine ja_2 3 5 ?_ ?_ rfl rfl (by kernel_rfl)
    · refine js_call Try.f12 (of_s sb b (by omega) ub) rfl Try.func12 rfl rfl (ovL_cons rfl ovL_nil) (.cons (.a1 .b (.a1 .n .a0)) .nil) (hd 41 rfl) ?_ (fun ch hp => by simp at hp)
      rintro y hy; injection hy with hy; subst hy
      refine ja_to (m := [(9, .p 4 1 0), (38, .a [.b sa, .n false .u64 a]), (39, .a [.b (decide ((sv sa a) < 0)), .n false .u64 (dg (sv sa a))]), (40, .a [.b sb, .n false .u64 b]), (41, .a [.b (decide ((sv sb b) < 0)), .n false .u64 (dg (sv sb b))])]) (by decide) rfl (cov_n 5 rfl rfl (.cons rfl (.cons rfl (.cons rfl (.cons rfl (.cons rfl .nil)))))) S3_11111000
    · refine js_h (hy_allocAt (id := 5) zero35 (by decide) rfl (by decide) rfl) (hd 10 rfl) ?_
      refine ja_to (m := [(9, .p 4 1 0), (10, .p 5 1 0), (38, .a [.b sa, .n false .u64 a]), (39, .a [.b (decide ((sv sa a) < 0)), .n false .u64 (dg (sv sa a))]), (40, .a [.b sb, .n false .u64 b])]) (by decide) rfl (cov_n 5 rfl rfl (.cons rfl (.cons rfl (.cons rfl (.cons rfl (.cons rfl .nil)))))) S3_11101100
  have S3_11100100 : JA Try.prog ops1 4 #[true, true, true, false, false, true, false, false] Γ ([(10, .p 5 1 0), (38, .a [.b sa, .n false .u64 a]), (39, .a [.b (decide ((sv sa a) < 0)), .n false .u64 (dg (sv sa a))]), (40, .a [.b sb, .n false .u64 b])] ++ F0) [⟨27, 2, 0, true, [.b sa, .n false .u64 a]⟩, ⟨27, 2, 0, true, [.b sb, .n false .u64 b]⟩, ⟨30, 2, 0, true, [.b sa, .n true .u64 a]⟩, ⟨30, 2, 0, true, [.b sb, .n true .u64 b]⟩, ⟨0, 1, 0, true, []⟩, ⟨35, 2, 1, true, [.b false, .c (.slice none 0 0)]⟩] Q1 := by
    subst ho; subst hF
    refine ja_2 3 4 ?_ ?_ rfl rfl (by kernel_rfl)
    · refine js_call Try.f12 (of_s sb b (by omega) ub) rfl Try.func12 rfl rfl (ovL_cons rfl ovL_nil) (.cons (.a1 .b (.a1 .n .a0)) .nil) (hd 41 rfl) ?_ (fun ch hp => by simp at hp)
      rintro y hy; injection hy with hy; subst hy
      refine ja_to (m := [(10, .p 5 1 0), (38, .a [.b sa, .n false .u64 a]), (39, .a [.b (decide ((sv sa a) < 0)), .n false .u64 (dg (sv sa a))]), (40, .a [.b sb, .n false .u64 b]), (41, .a [.b (decide ((sv sb b) < 0)), .n false .u64 (dg (sv sb b))])]) (by decide) rfl (cov_n 5 rfl rfl (.cons rfl (.cons rfl (.cons rfl (.cons rfl (.cons rfl .nil)))))) S3_11110100
    · refine js_h (hy_allocAt (id := 4) zero35 (by decide) rfl (by decide) rfl) (hd 9 rfl) ?_
      refine ja_to (m := [(9, .p 4 1 0), (10, .p 5 1 0), (38, .a [.b sa, .n false .u64 a]), (39, .a [.b (decide ((sv sa a) < 0)), .n false .u64 (dg (sv sa a))]), (40, .a [.b sb, .n false .u64 b])]) (by decide) rfl (cov_n 5 rfl rfl (.cons rfl (.cons rfl (.cons rfl (.cons rfl (.cons rfl .nil)))))) S3_11101100
  have S3_11100000 : JA Try.prog ops1 5 #[true, true, true, false, false, false, false, false] Γ ([(38, .a [.b sa, .n false .u64 a]), (39, .a [.b (decide ((sv sa a) < 0)), .n false .u64 (dg (sv sa a))]), (40, .a [.b sb, .n false .u64 b])] ++ F0) [⟨27, 2, 0, true, [.b sa, .n false .u64 a]⟩, ⟨27, 2, 0, true, [.b sb, .n false .u64 b]⟩, ⟨30, 2, 0, true, [.b sa, .n true .u64 a]⟩, ⟨30, 2, 0, true, [.b sb, .n true .u64 b]⟩, ⟨0, 1, 0, true, []⟩, ⟨0, 1, 0, true, []⟩] Q1 := by
    subst ho; subst hF
    refine ja_3 3 4 5 ?_ ?_ ?_ rfl rfl rfl (by kernel_rfl)
    · refine js_call Try.f12 (of_s sb b (by omega) ub) rfl Try.func12 rfl rfl (ovL_cons rfl ovL_nil) (.cons (.a1 .b (.a1 .n .a0)) .nil) (hd 41 rfl) ?_ (fun ch hp => by simp at hp)
      rintro y hy; injection hy with hy; subst hy
      refine ja_to (m := [(38, .a [.b sa, .n false .u64 a]), (39, .a [.b (decide ((sv sa a) < 0)), .n false .u64 (dg (sv sa a))]), (40, .a [.b sb, .n false .u64 b]), (41, .a [.b (decide ((sv sb b) < 0)), .n false .u64 (dg (sv sb b))])]) (by decide) rfl (cov_n 4 rfl rfl (.cons rfl (.cons rfl (.cons rfl (.cons rfl .nil))))) S3_11110000
    · refine js_h (hy_allocAt (id := 4) zero35 (by decide) rfl (by decide) rfl) (hd 9 rfl) ?_
      refine ja_to (m := [(9, .p 4 1 0), (38, .a [.b sa, .n false .u64 a]), (39, .a [.b (decide ((sv sa a) < 0)), .n false .u64 (dg (sv sa a))]), (40, .a [.b sb, .n false .u64 b])]) (by decide) rfl (cov_n 4 rfl rfl (.cons rfl (.cons rfl (.cons rfl (.cons rfl .nil))))) S3_11101000
    · refine js_h (hy_allocAt (id := 5) zero35 (by decide) rfl (by decide) rfl) (hd 10 rfl) ?_
      refine ja_to (m := [(10, .p 5 1 0), (38, .a [.b sa, .n false .u64 a]), (39, .a [.b (decide ((sv sa a) < 0)), .n false .u64 (dg (sv sa a))]), (40, .a [.b sb, .n false .u64 b])]) (by decide) rfl (cov_n 4 rfl rfl (.cons rfl (.cons rfl (.cons rfl (.cons rfl .nil))))) S3_11100100
  have S3_10101100 : JA Try.prog ops1 4 #[true, false, true, false, true, true, false, false] Γ ([(9, .p 4 1 0), (10, .p 5 1 0), (38, .a [.b sa, .n false .u64 a]), (40, .a [.b sb, .n false .u64 b])] ++ F0) [⟨27, 2, 0, true, [.b sa, .n false .u64 a]⟩, ⟨27, 2, 0, true, [.b sb, .n false .u64 b]⟩, ⟨30, 2, 0, true, [.b sa, .n true .u64 a]⟩, ⟨30, 2, 0, true, [.b sb, .n true .u64 b]⟩, ⟨35, 2, 1, true, [.b false, .c (.slice none 0 0)]⟩, ⟨35, 2, 1, true, [.b false, .c (.slice none 0 0)]⟩] Q1 := by
    subst ho; subst hF
    refine ja_1 1 ?_ rfl (by kernel_rfl)
    refine js_call Try.f12 (of_s sa a (by omega) ua) rfl Try.func12 rfl rfl (ovL_cons rfl ovL_nil) (.cons (.a1 .b (.a1 .n .a0)) .nil) (hd 39 rfl) ?_ (fun ch hp => by simp at hp)
    rintro y hy; injection hy with hy; subst hy
    refine ja_to (m := [(9, .p 4 1 0), (10, .p 5 1 0), (38, .a [.b sa, .n false .u64 a]), (39, .a [.b (decide ((sv sa a) < 0)), .n false .u64 (dg (sv sa a))]), (40, .a [.b sb, .n false .u64 b])]) (by decide) rfl (cov_n 5 rfl rfl (.cons rfl (.cons rfl (.cons rfl (.cons rfl (.cons rfl .nil)))))) S3_11101100
  have S3_10101000 : JA Try.prog ops1 5 #[true, false, true, false, true, false, false, false] Γ ([(9, .p 4 1 0), (38, .a [.b sa, .n false .u64 a]), (40, .a [.b sb, .n false .u64 b])] ++ F0) [⟨27, 2, 0, true, [.b sa, .n false .u64 a]⟩, ⟨27, 2, 0, true, [.b sb, .n false .u64 b]⟩, ⟨30, 2, 0, true, [.b sa, .n true .u64 a]⟩, ⟨30, 2, 0, true, [.b sb, .n true .u64 b]⟩, ⟨35, 2, 1, true, [.b false, .c (.slice none 0 0)]⟩, ⟨0, 1, 0, true, []⟩] Q1 := by
    subst ho; subst hF
    refine ja_2 1 5 ?_ ?_ rfl rfl (by kernel_rfl)
    · refine js_call Try.f12 (of_s sa a (by omega) ua) rfl Try.func12 rfl rfl (ovL_cons rfl ovL_nil) (.cons (.a1 .b (.a1 .n .a0)) .nil) (hd 39 rfl) ?_ (fun ch hp => by simp at hp)
      rintro y hy; injection hy with hy; subst hy
      refine ja_to (m := [(9, .p 4 1 0), (38, .a [.b sa, .n false .u64 a]), (39, .a [.b (decide ((sv sa a) < 0)), .n false .u64 (dg (sv sa a))]), (40, .a [.b sb, .n false .u64 b])]) (by decide) rfl (cov_n 4 rfl rfl (.cons rfl (.cons rfl (.cons rfl (.cons rfl .nil))))) S3_11101000
    · refine js_h (hy_allocAt (id := 5) zero35 (by decide) rfl (by decide) rfl) (hd 10 rfl) ?_
      refine ja_to (m := [(9, .p 4 1 0), (10, .p 5 1 0), (38, .a [.b sa, .n false .u64 a]), (40, .a [.b sb, .n false .u64 b])]) (by decide) rfl (cov_n 4 rfl rfl (.cons rfl (.cons rfl (.cons rfl (.cons rfl .nil))))) S3_10101100
  have S3_10100100 : JA Try.prog ops1 5 #[true, false, true, false, false, true, false, false] Γ ([(10, .p 5 1 0), (38, .a [.b sa, .n false .u64 a]), (40, .a [.b sb, .n false .u64 b])] ++ F0) [⟨27, 2, 0, true, [.b sa, .n false .u64 a]⟩, ⟨27, 2, 0, true, [.b sb, .n false .u64 b]⟩, ⟨30, 2, 0, true, [.b sa, .n true .u64 a]⟩, ⟨30, 2, 0, true, [.b sb, .n true .u64 b]⟩, ⟨0, 1, 0, true, []⟩, ⟨35, 2, 1, true, [.b false, .c (.slice none 0 0)]⟩] Q1 := by
    subst ho; subst hF
    refine ja_2 1 4 ?_ ?_ rfl rfl (by kernel_rfl)
    · refine js_call Try.f12 (of_s sa a (by omega) ua) rfl Try.func12 rfl rfl (ovL_cons rfl ovL_nil) (.cons (.a1 .b (.a1 .n .a0)) .nil) (hd 39 rfl) ?_ (fun ch hp => by simp at hp)
      rintro y hy; injection hy with hy; subst hy
      refine ja_to (m := [(10, .p 5 1 0), (38, .a [.b sa, .n false .u64 a]), (39, .a [.b (decide ((sv sa a) < 0)), .n false .u64 (dg (sv sa a))]), (40, .a [.b sb, .n false .u64 b])]) (by decide) rfl (cov_n 4 rfl rfl (.cons rfl (.cons rfl (.cons rfl (.cons rfl .nil))))) S3_11100100
    · refine js_h (hy_allocAt (id := 4) zero35 (by decide) rfl (by decide) rfl) (hd 9 rfl) ?_
      refine ja_to (m := [(9, .p 4 1 0), (10, .p 5 1 0), (38, .a [.b sa, .n false .u64 a]), (40, .a [.b sb, .n false .u64 b])]) (by decide) rfl (cov_n 4 rfl rfl (.cons rfl (.cons rfl (.cons rfl (.cons rfl .nil))))) S3_10101100
  have S3_10100000 : JA Try.prog ops1 6 #[true, false, true, false, false, false, false, false] Γ ([(38, .a [.b sa, .n false .u64 a]), (40, .a [.b sb, .n false .u64 b])] ++ F0) [⟨27, 2, 0, true, [.b sa, .n false .u64 a]⟩, ⟨27, 2, 0, true, [.b sb, .n false .u64 b]⟩, ⟨30, 2, 0, true, [.b sa, .n true .u64 a]⟩, ⟨30, 2, 0, true, [.b sb, .n true .u64 b]⟩, ⟨0, 1, 0, true, []⟩, ⟨0, 1, 0, true, []⟩] Q1 := by
    subst ho; subst hF
    refine ja_3 1 4 5 ?_ ?_ ?_ rfl rfl rfl (by kernel_rfl)
    · refine js_call Try.f12 (of_s sa a (by omega) ua) rfl Try.func12 rfl rfl (ovL_cons rfl ovL_nil) (.cons (.a1 .b (.a1 .n .a0)) .nil) (hd 39 rfl) ?_ (fun ch hp => by simp at hp)
      rintro y hy; injection hy with hy; subst hy
      refine ja_to (m := [(38, .a [.b sa, .n false .u64 a]), (39, .a [.b (decide ((sv sa a) < 0)), .n false .u64 (dg (sv sa a))]), (40, .a [.b sb, .n false .u64 b])]) (by decide) rfl (cov_n 3 rfl rfl (.cons rfl (.cons rfl (.cons rfl .nil)))) S3_11100000
    · refine js_h (hy_allocAt (id := 4) zero35 (by decide) rfl (by decide) rfl) (hd 9 rfl) ?_
      refine ja_to (m := [(9, .p 4 1 0), (38, .a [.b sa, .n false .u64 a]), (40, .a [.b sb, .n false .u64 b])]) (by decide) rfl (cov_n 3 rfl rfl (.cons rfl (.cons rfl (.cons rfl .nil)))) S3_10101000
    · refine js_h (hy_allocAt (id := 5) zero35 (by decide) rfl (by decide) rfl) (hd 10 rfl) ?_
      refine ja_to (m := [(10, .p 5 1 0), (38, .a [.b sa, .n false .u64 a]), (40, .a [.b sb, .n false .u64 b])]) (by decide) rfl (cov_n 3 rfl rfl (.cons rfl (.cons rfl (.cons rfl .nil)))) S3_10100100
  have S3_10000000 : JA Try.prog ops1 7 #[true, false, false, false, false, false, false, false] Γ ([(38, .a [.b sa, .n false .u64 a])] ++ F0) [⟨27, 2, 0, true, [.b sa, .n false .u64 a]⟩, ⟨27, 2, 0, true, [.b sb, .n false .u64 b]⟩, ⟨30, 2, 0, true, [.b sa, .n true .u64 a]⟩, ⟨30, 2, 0, true, [.b sb, .n true .u64 b]⟩, ⟨0, 1, 0, true, []⟩, ⟨0, 1, 0, true, []⟩] Q1 := by
    subst ho; subst hF
    refine ja_l2 2 [3, 6, 7] (lo_l (ly_lda agg27 rfl rfl rfl rfl) (hd 40 rfl)) rfl (by kernel_rfl) (by kernel_rfl) (by kernel_rfl) (by kernel_rfl) hpan ?_
    refine ja_to (m := [(38, .a [.b sa, .n false .u64 a]), (40, .a [.b sb, .n false .u64 b])]) (by decide) rfl (cov_n 2 rfl rfl (.cons rfl (.cons rfl .nil))) S3_10100000
  have S3_00000000 : JA Try.prog ops1 8 #[false, false, false, false, false, false, false, false] Γ ([] ++ F0) [⟨27, 2, 0, true, [.b sa, .n false .u64 a]⟩, ⟨27, 2, 0, true, [.b sb, .n false .u64 b]⟩, ⟨30, 2, 0, true, [.b sa, .n true .u64 a]⟩, ⟨30, 2, 0, true, [.b sb, .n true .u64 b]⟩, ⟨0, 1, 0, true, []⟩, ⟨0, 1, 0, true, []⟩] Q1 := by
    subst ho; subst hF
    refine ja_l2 0 [1, 3, 6, 7] (lo_l (ly_lda agg27 rfl rfl rfl rfl) (hd 38 rfl)) rfl (by kernel_rfl) (by kernel_rfl) (by kernel_rfl) (by kernel_rfl) hpan ?_
    refine ja_to (m := [(38, .a [.b sa, .n false .u64 a])]) (by decide) rfl (cov_n 1 rfl rfl (.cons rfl .nil)) S3_10000000
  subst ho; subst hF
  exact ja_to (m := []) (by decide) rfl (cov_n 0 rfl rfl .nil) S3_00000000
end Go.Proofs.Ytcdipmjgpimmdaa.Vc
