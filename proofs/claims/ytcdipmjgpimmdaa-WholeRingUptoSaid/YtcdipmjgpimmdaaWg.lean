/- Contracts of surdref01.Of, Int, surdref06.Int. -/
import Derived.Test.YtcdipmjgpimmdaaWf
set_option linter.unusedVariables false
set_option linter.unusedSimpArgs false
namespace Go.Proofs.Ytcdipmjgpimmdaa.Vc
open Go Go.RowKit
set_option maxHeartbeats 4000000 in
theorem rOf_s (l : List Int) (hl : l.length < 4294967296) (hu : u64s l) : Spec Try.prog 63 [.n false .u64 l] (fun o => o = .ret (.n false .u64 (trm (dig l)))) := by
  refine spec_of' [(0, .n false .u64 l)] rfl Try.func63 rfl (Nat.le_of_ble_eq_true rfl) fun Γ hN hds hL hR => ?_
  have hd : ∀ d, Nat.blt d 26 = true → d < Γ.N := fun d h => by rw [hN]; exact Nat.le_of_ble_eq_true h
  refine jc_seq ?_
  refine jc_region ?_
  refine jo_l (ly_as rfl) (hd 2 rfl) ?_
  refine jo_nil ?_
  refine jc_seq ?_
  refine jc_region ?_
  refine jo_l (ly_mv rfl) (hd 6 rfl) ?_
  refine jo_l (ly_lenn sl25 rfl) (hd 7 rfl) ?_
  refine jo_l (ly_mul rfl rfl (wrap_i64 (by omega) (by omega))) (hd 8 rfl) ?_
  refine jo_h (hy_mk0 (m := 2 * l.length) el33 rfl rfl (by omega) (by show 8 * (2 * l.length) ≤ _; omega) (by unfold maxLen; omega) rfl) (hd 9 rfl) ?_
  refine jo_l (ly_as rfl) (hd 3 rfl) ?_
  refine jo_nil ?_
  refine jc_seq ?_
  refine jc_seq ?_
  refine jc_region ?_
  refine jo_l (ly_mv rfl) (hd 10 rfl) ?_
  refine jo_l (ly_lenn sl25 rfl) (hd 11 rfl) ?_
  refine jo_l (ly_mv rfl) (hd 12 rfl) ?_
  refine jo_nil ?_
  refine jc_block ?_
  refine jc_loopD (G := Nat) 1 (fun g => g ≤ l.length) (fun g => [(3, .o 0 g 0 (2 * g)), (12, .i .i64 (g : Int)), (5, .u), (13, .u), (14, .u), (15, .u), (16, .u), (17, .u), (18, .u), (19, .u), (20, .u), (21, .u), (22, .u), (23, .u)]) (fun g => [⟨82, 1, g, true, ints .u64 (dig (l.take g))⟩]) (fun g => l.length - g) 0 ?_ ?_ rfl hR rfl (fun _ _ => rfl) (fun g _ => .cons ints_id .nil) ?_
  · exact Nat.zero_le _
  · exact (.cons rfl (.cons rfl (.u (.u (.u (.u (.u (.u (.u (.u (.u (.u (.u (.u .nil))))))))))))))
  · rintro i hc1
    have hx := u64s_getD hu i
    refine jc_seq ?_
    refine jc_region ?_
    refine jo_l (ly_lt rfl rfl) (hd 13 rfl) ?_
    refine jo_nil ?_
    refine jc_seq ?_
    refine jc_if rfl (fun h1 => ?_) (fun h1 => ?_)
    · refine jc_skip ?_
      refine jc_seq ?_
      refine jc_block ?_
      refine jc_seq ?_
      refine jc_region ?_
      refine jo_l (ly_ian (i := i) sl25 rfl rfl (by first | rfl | omega) (by omega)) (hd 14 rfl) ?_
      refine jo_l (ly_ldq one82 rfl rfl) (hd 15 rfl) ?_
      refine jo_l (ly_as rfl) (hd 5 rfl) ?_
      refine jo_nil ?_
      refine jc_region ?_
      refine jo_l (ly_mv rfl) (hd 16 rfl) ?_
      refine jo_l (ly_mv rfl) (hd 17 rfl) ?_
      refine jo_l (ly_is (ly_rem rfl rfl (by decide) rfl) (show V.i .u64 ((l.getD i 0).tmod 4294967296) = V.i .u64 ((l.getD i 0) % 4294967296) by rw [Int.tmod_eq_emod_of_nonneg hx.1])) (hd 18 rfl) ?_
      refine jo_l (ly_mv rfl) (hd 19 rfl) ?_
      refine jo_l (ly_quo rfl rfl (by decide) (r := (l.getD i 0) / 4294967296) (by show IntKind.u64.wrap (Int.tdiv (l.getD i 0) 4294967296) = _; rw [Int.tdiv_eq_ediv_of_nonneg hx.1]; exact wrap_u64 (by omega) (by omega))) (hd 20 rfl) ?_
      refine jo_h (hy_lit (id := 1) (xs := [.tmp 18, .tmp 20]) el33 rfl (ovL_cons rfl (ovL_cons rfl ovL_nil)) rfl (all2_of rfl) (by decide) rfl) (hd 21 rfl) ?_
      refine jo_app el33 rfl rfl (by rw [ints_length, dig_len, List.length_take, Nat.min_eq_left (by omega), Nat.mul_one]) rfl (src_o rfl rfl rfl) (by show (2 * i + 2) * 8 ≤ _; omega) (by unfold maxLen; omega) (hd 22 rfl) ?_
      refine jo_l (ly_as rfl) (hd 3 rfl) ?_
      refine jo_nil ?_
      refine jc_region ?_
      refine jo_l (ly_add rfl rfl (wrap_i64 (by omega) (by omega))) (hd 23 rfl) ?_
      refine jo_l (ly_mv rfl) (hd 12 rfl) ?_
      refine jo_nil ?_
      refine ⟨i + 1, ?_, ?_, (by show [(⟨82, 1, i + 1, true, ints .u64 (dig (l.take i)) ++ ints .u64 [_, _]⟩ : Ob)] = [⟨82, 1, i + 1, true, ints .u64 (dig (l.take (i + 1)))⟩]; rw [ints_append, dig_snoc (by omega)]), cov_n 28 rfl rfl ?_⟩
      · omega
      · omega
      · exact (.cons rfl (.cons rfl (.u (.u (.u (.u (.u (.u (.u (.u (.u (.u (.u (.u .nil))))))))))))))
    · refine jc_exit ?_
      refine jc_seq ?_
      obtain rfl : i = l.length := by omega
      refine jc_region ?_
      refine jo_frz (k := .u64) (l' := dig l) 3 rfl rfl (by rw [dig_len, List.length_take, Nat.min_self]; omega) (by rw [List.take_length, List.drop_zero, List.take_of_length_le (by rw [dig_len]; exact Nat.le_refl _)]) hL ?_
      refine jo_l (ly_mv rfl) (hd 24 rfl) ?_
      refine jo_call Try.f80 (rnorm_s (dig l) (by rw [dig_len]; omega)) rfl Try.func80 rfl rfl (ovL_cons rfl ovL_nil) (.cons .n .nil) (hd 25 rfl) ?_ (fun ch hp => by simp at hp)
      rintro y hy; injection hy with hy; subst hy
      refine jo_l (ly_as rfl) (hd 2 rfl) ?_
      refine jo_nil ?_
      refine jc_ret ?_
      refine ⟨_, _, (.cons rfl .nil), .n, ?_⟩
      exact rfl

set_option maxHeartbeats 4000000 in
theorem rInt_s (v : Int) (h0 : 0 ≤ v) (h1 : v < 9223372036854775808) : Spec Try.prog 67 [.i .i64 v] (fun o => o = .ret (.n false .u64 (trm (dig [v])))) := by
  refine spec_of' [(0, .i .i64 v)] rfl Try.func67 rfl (Nat.le_of_ble_eq_true rfl) fun Γ hN hds hL hR => ?_
  have hd : ∀ d, Nat.blt d 7 = true → d < Γ.N := fun d h => by rw [hN]; exact Nat.le_of_ble_eq_true h
  refine jc_seq ?_
  refine jc_region ?_
  refine jo_l (ly_as rfl) (hd 2 rfl) ?_
  refine jo_nil ?_
  refine jc_seq ?_
  refine jc_region ?_
  refine jo_l (ly_mv rfl) (hd 3 rfl) ?_
  refine jo_l (ly_conv und3 und82 rfl (wrap_u64 (by omega) (by omega))) (hd 4 rfl) ?_
  refine jo_h (hy_lit (id := 0) (xs := [.tmp 4]) el25 rfl (ovL_cons rfl ovL_nil) rfl (all2_of rfl) (by decide) rfl) (hd 5 rfl) ?_
  refine jo_frz (k := .u64) (l := [v]) (l' := [v]) 5 rfl rfl (Nat.le_refl _) rfl hL ?_
  refine jo_call Try.f63 (rOf_s [v] (by simp) (u64s1 (by omega) (by omega))) rfl Try.func63 rfl rfl (ovL_cons rfl ovL_nil) (.cons .n .nil) (hd 6 rfl) ?_ (fun ch hp => by simp at hp)
  rintro y hy; injection hy with hy; subst hy
  refine jo_l (ly_as rfl) (hd 2 rfl) ?_
  refine jo_nil ?_
  refine jc_ret ?_
  refine ⟨_, _, (.cons rfl .nil), .n, ?_⟩
  exact rfl

set_option maxHeartbeats 4000000 in
theorem Int_pos (v : Int) (h0 : 0 ≤ v) (h1 : v < 9223372036854775808) : Spec Try.prog 38 [.i .i64 v] (fun o => o = .ret (.a [.b (false && decide (trm (dig [v]) ≠ [])), .n false .u64 (trm (dig [v]))])) := by
  refine spec_of' [(0, .i .i64 v)] rfl Try.func38 rfl (Nat.le_of_ble_eq_true rfl) fun Γ hN hds hL hR => ?_
  have hd : ∀ d, Nat.blt d 16 = true → d < Γ.N := fun d h => by rw [hN]; exact Nat.le_of_ble_eq_true h
  refine jc_seq ?_
  refine jc_region ?_
  refine jo_h (hy_alloc (id := 0) zero35 (by decide) rfl (by decide) rfl) (hd 2 rfl) ?_
  refine jo_nil ?_
  refine jc_seq ?_
  refine jc_seq ?_
  refine jc_region ?_
  refine jo_l (ly_mv rfl) (hd 3 rfl) ?_
  refine jo_l (ly_ff (ly_lt rfl rfl) (by omega)) (hd 4 rfl) ?_
  refine jo_nil ?_
  refine jc_litf rfl ?_
  refine jc_skip ?_
  refine jc_seq ?_
  refine jc_region ?_
  refine jo_l (ly_mv rfl) (hd 13 rfl) ?_
  refine jo_call Try.f67 (rInt_s v h0 h1) rfl Try.func67 rfl rfl (ovL_cons rfl ovL_nil) (.cons .i .nil) (hd 14 rfl) ?_ (fun ch hp => by simp at hp)
  rintro y hy; injection hy with hy; subst hy
  refine jo_call Try.f58 (make1_s false (trm (dig [v]))) rfl Try.func58 rfl rfl (ovL_cons rfl (ovL_cons rfl ovL_nil)) (.cons .b (.cons .n .nil)) (hd 15 rfl) ?_ (fun ch hp => by simp at hp)
  rintro y hy; injection hy with hy; subst hy
  refine jo_st (sy_store rfl rfl rfl siz35 rfl rfl (Nat.le_of_ble_eq_true rfl)) ?_
  refine jo_nil ?_
  refine jc_ret ?_
  refine ⟨_, _, (.cons (ResV.cell agg35 rfl rfl rfl rfl) .nil), (.a1 .b (.a1 .n .a0)), ?_⟩
  exact rfl

set_option maxHeartbeats 4000000 in
theorem Int_neg (v : Int) (h0 : v < 0) (h1 : -9223372036854775808 ≤ v) : Spec Try.prog 38 [.i .i64 v] (fun o => o = .ret (.a [.b (true && decide (trm (dig [-v]) ≠ [])), .n false .u64 (trm (dig [-v]))])) := by
  refine spec_of' [(0, .i .i64 v)] rfl Try.func38 rfl (Nat.le_of_ble_eq_true rfl) fun Γ hN hds hL hR => ?_
  have hd : ∀ d, Nat.blt d 16 = true → d < Γ.N := fun d h => by rw [hN]; exact Nat.le_of_ble_eq_true h
  refine jc_seq ?_
  refine jc_region ?_
  refine jo_h (hy_alloc (id := 0) zero35 (by decide) rfl (by decide) rfl) (hd 2 rfl) ?_
  refine jo_nil ?_
  refine jc_seq ?_
  refine jc_seq ?_
  refine jc_region ?_
  refine jo_l (ly_mv rfl) (hd 3 rfl) ?_
  refine jo_l (ly_tt (ly_lt rfl rfl) (by omega)) (hd 4 rfl) ?_
  refine jo_nil ?_
  refine jc_litt rfl ?_
  refine jc_seq ?_
  refine jc_region ?_
  refine jo_l (ly_mv rfl) (hd 5 rfl) ?_
  refine jo_l (ly_add rfl rfl (wrap_i64 (by omega) (by omega))) (hd 6 rfl) ?_
  refine jo_l (ly_neg rfl (wrap_i64 (by omega) (by omega))) (hd 7 rfl) ?_
  refine jo_l (ly_conv und3 und82 rfl (wrap_u64 (by omega) (by omega))) (hd 8 rfl) ?_
  refine jo_l (ly_add rfl rfl (r := -v) (by rw [wrap_u64 (by omega) (by omega)]; omega)) (hd 9 rfl) ?_
  refine jo_h (hy_lit (id := 1) (xs := [.tmp 9]) el25 rfl (ovL_cons rfl ovL_nil) rfl (all2_of rfl) (by decide) rfl) (hd 10 rfl) ?_
  refine jo_frz (k := .u64) (l := [-v]) (l' := [-v]) 10 rfl rfl (Nat.le_refl _) rfl hL ?_
  refine jo_call Try.f63 (rOf_s [-v] (by simp) (u64s1 (by omega) (by omega))) rfl Try.func63 rfl rfl (ovL_cons rfl ovL_nil) (.cons .n .nil) (hd 11 rfl) ?_ (fun ch hp => by simp at hp)
  rintro y hy; injection hy with hy; subst hy
  refine jo_call Try.f58 (make1_s true (trm (dig [-v]))) rfl Try.func58 rfl rfl (ovL_cons rfl (ovL_cons rfl ovL_nil)) (.cons .b (.cons .n .nil)) (hd 12 rfl) ?_ (fun ch hp => by simp at hp)
  rintro y hy; injection hy with hy; subst hy
  refine jo_st (sy_store rfl rfl rfl siz35 rfl rfl (Nat.le_of_ble_eq_true rfl)) ?_
  refine jo_nil ?_
  refine jc_ret ?_
  refine ⟨_, _, (.cons (ResV.cell agg35 rfl rfl rfl rfl) .nil), (.a1 .b (.a1 .n .a0)), ?_⟩
  exact rfl
end Go.Proofs.Ytcdipmjgpimmdaa.Vc
