/- Contract of nat.Add. -/
import Derived.Test.YtcdipmjgpimmdaaWc
set_option linter.unusedVariables false
set_option linter.unusedSimpArgs false
namespace Go.Proofs.Ytcdipmjgpimmdaa.Vc
open Go Go.RowKit
set_option maxHeartbeats 4000000 in
theorem Add_ok (a b : List Int) (ha : a.length < 4294967296) (hb : b.length < 4294967296) (ua : u64s a) (ub : u64s b) (h : lenN (trm (sumL a b)) ≤ 67108864) : Spec Try.prog 74 [.n false .u64 a, .n false .u64 b] (fun o => o = .ret (.t [.n false .u64 (trm (sumL a b)), .i .i64 0])) := by
  refine spec_of' [(0, .n false .u64 a), (1, .n false .u64 b)] rfl Try.func74 rfl (Nat.le_of_ble_eq_true rfl) fun Γ hN hds hL hR => ?_
  have hd : ∀ d, Nat.blt d 61 = true → d < Γ.N := fun d h => by rw [hN]; exact Nat.le_of_ble_eq_true h
  have hma := trm_len a
  have hmb := trm_len b
  refine jc_seq ?_
  refine jc_region ?_
  refine jo_l (ly_as rfl) (hd 4 rfl) ?_
  refine jo_l (ly_as rfl) (hd 5 rfl) ?_
  refine jo_nil ?_
  refine jc_seq ?_
  refine jc_region ?_
  refine jo_l (ly_mv rfl) (hd 10 rfl) ?_
  refine jo_call Try.f84 (trim_s a (by omega)) rfl Try.func84 rfl rfl (ovL_cons rfl ovL_nil) (.cons .n .nil) (hd 11 rfl) ?_ (fun ch hp => by simp at hp)
  rintro y hy; injection hy with hy; subst hy
  refine jo_l (ly_mv rfl) (hd 12 rfl) ?_
  refine jo_call Try.f84 (trim_s b (by omega)) rfl Try.func84 rfl rfl (ovL_cons rfl ovL_nil) (.cons .n .nil) (hd 13 rfl) ?_ (fun ch hp => by simp at hp)
  rintro y hy; injection hy with hy; subst hy
  refine jo_l (ly_as rfl) (hd 0 rfl) ?_
  refine jo_l (ly_as rfl) (hd 1 rfl) ?_
  refine jo_nil ?_
  refine jc_meetH (G := List Int × List Int) (fun g => swL (trm a) (trm b) = g ∧ g.1.length < 4294967296 ∧ u64s g.1 ∧ u64s g.2) (fun g => [(0, .n false .u64 g.1), (1, .n false .u64 g.2), (14, .u), (15, .u), (16, .u), (17, .u), (18, .u), (19, .u), (20, .u)]) ?_ ?_
  · refine jc_seq ?_
    refine jc_region ?_
    refine jo_l (ly_mv rfl) (hd 14 rfl) ?_
    refine jo_l (ly_lenn sl28 rfl) (hd 15 rfl) ?_
    refine jo_l (ly_mv rfl) (hd 16 rfl) ?_
    refine jo_l (ly_lenn sl28 rfl) (hd 17 rfl) ?_
    refine jo_l (ly_lt rfl rfl) (hd 18 rfl) ?_
    refine jo_nil ?_
    refine jc_if rfl (fun h1 => ?_) (fun h1 => ?_)
    · refine jc_region ?_
      refine jo_l (ly_mv rfl) (hd 19 rfl) ?_
      refine jo_l (ly_mv rfl) (hd 20 rfl) ?_
      refine jo_l (ly_as rfl) (hd 0 rfl) ?_
      refine jo_l (ly_as rfl) (hd 1 rfl) ?_
      refine jo_nil ?_
      refine ⟨(trm b, trm a), ?_, rfl, cov_n 9 rfl rfl ?_⟩
      · exact ⟨by unfold swL; rw [if_pos (by omega)], by show (trm b).length < _; omega, u64s_trm ub, u64s_trm ua⟩
      · exact (.cons rfl (.cons rfl (.u (.u (.u (.u (.u (.u (.u .nil)))))))))
    · refine jc_skip ?_
      refine ⟨(trm a, trm b), ?_, rfl, cov_n 5 rfl rfl ?_⟩
      · exact ⟨by unfold swL; rw [if_neg (by omega)], by show (trm a).length < _; omega, u64s_trm ua, u64s_trm ub⟩
      · exact (.cons rfl (.cons rfl (.u (.u (.u (.u (.u (.u (.u .nil)))))))))
  · rintro ⟨X, Y⟩ ⟨hg, hX, uX, uY⟩
    dsimp only at hg hX uX uY ⊢
    have hS : sumL a b = (adN X Y X.length).1 ++ [(adN X Y X.length).2] := by unfold sumL; rw [hg]
    refine jc_seq ?_
    refine jc_region ?_
    refine jo_l (ly_mv rfl) (hd 21 rfl) ?_
    refine jo_l (ly_lenn sl28 rfl) (hd 22 rfl) ?_
    refine jo_l (ly_add rfl rfl (r := ((X.length + 1 : Nat) : Int)) (by rw [wrap_i64 (by omega) (by omega)]; omega)) (hd 23 rfl) ?_
    refine jo_h (hy_mk (m := X.length + 1) el28 rfl rfl rfl (by show 8 * (X.length + 1) ≤ _; omega) (by unfold maxLen; omega) rfl) (hd 24 rfl) ?_
    refine jo_l (ly_as rfl) (hd 6 rfl) ?_
    refine jo_nil ?_
    refine jc_seq ?_
    refine jc_region ?_
    refine jo_l (ly_as rfl) (hd 7 rfl) ?_
    refine jo_nil ?_
    refine jc_seq ?_
    refine jc_seq ?_
    refine jc_region ?_
    refine jo_l (ly_mv rfl) (hd 25 rfl) ?_
    refine jo_l (ly_lenn sl28 rfl) (hd 26 rfl) ?_
    refine jo_l (ly_mv rfl) (hd 27 rfl) ?_
    refine jo_nil ?_
    refine jc_block ?_
    refine jc_loopF (G := Nat) (fun i => i ≤ X.length) (fun i => [(7, .i .u64 (adN X Y i).2), (27, .i .i64 (i : Int)), (8, .u), (9, .u), (28, .u), (29, .u), (30, .u), (31, .u), (32, .u), (33, .u), (34, .u), (35, .u), (36, .u), (37, .u), (38, .u), (39, .u), (40, .u), (41, .u), (42, .u), (43, .u), (44, .u), (45, .u), (46, .u), (47, .u), (48, .u), (49, .u), (50, .u), (51, .u)]) (fun i => [⟨82, 1, 0, true, ints .u64 (fillI (adN X Y i).1 (X.length + 1))⟩]) (fun i => X.length - i) 0 ?_ ?_ rfl ?_
    · exact Nat.zero_le _
    · exact (.cons rfl (.cons rfl (.u (.u (.u (.u (.u (.u (.u (.u (.u (.u (.u (.u (.u (.u (.u (.u (.u (.u (.u (.u (.u (.u (.u (.u (.u (.u .nil))))))))))))))))))))))))))))
    · rintro i hc1
      have hf := fillI_len (l := (adN X Y i).1) (n := X.length + 1) (by rw [adN_len]; omega)
      have hc := adN_c uX uY i
      have hx := u64s_getD uX i
      have hy := u64s_getD uY i
      refine jc_seq ?_
      refine jc_region ?_
      refine jo_l (ly_lt rfl rfl) (hd 28 rfl) ?_
      refine jo_nil ?_
      refine jc_seq ?_
      refine jc_if rfl (fun h2 => ?_) (fun h2 => ?_)
      · refine jc_skip ?_
        refine jc_seq ?_
        refine jc_block ?_
        refine jc_seq ?_
        refine jc_region ?_
        refine jo_l (ly_mv rfl) (hd 29 rfl) ?_
        refine jo_l (ly_as rfl) (hd 8 rfl) ?_
        refine jo_nil ?_
        refine jc_seq ?_
        refine jc_region ?_
        refine jo_l (ly_as rfl) (hd 9 rfl) ?_
        refine jo_nil ?_
        refine jc_meetH (G := Unit) (fun _ => True) (fun _ => [(9, .i .u64 (Y.getD i 0)), (30, .u), (31, .u), (32, .u), (33, .u), (34, .u), (35, .u), (36, .u), (37, .u)]) ?_ ?_
        · refine jc_seq ?_
          refine jc_region ?_
          refine jo_l (ly_mv rfl) (hd 30 rfl) ?_
          refine jo_l (ly_mv rfl) (hd 31 rfl) ?_
          refine jo_l (ly_lenn sl28 rfl) (hd 32 rfl) ?_
          refine jo_l (ly_lt rfl rfl) (hd 33 rfl) ?_
          refine jo_nil ?_
          refine jc_if rfl (fun h3 => ?_) (fun h3 => ?_)
          · refine jc_region ?_
            refine jo_l (ly_mv rfl) (hd 34 rfl) ?_
            refine jo_l (ly_mv rfl) (hd 35 rfl) ?_
            refine jo_l (ly_ian (i := i) sl28 rfl rfl (by first | rfl | omega) (by omega)) (hd 36 rfl) ?_
            refine jo_l (ly_ldq one82 rfl rfl) (hd 37 rfl) ?_
            refine jo_l (ly_as rfl) (hd 9 rfl) ?_
            refine jo_nil ?_
            refine ⟨(), ?_, rfl, cov_n 9 rfl rfl ?_⟩
            · trivial
            · exact (.cons (by first | rfl | (show some (V.i .u64 _) = some (V.i .u64 _); rw [getD_ge (by omega)])) (.u (.u (.u (.u (.u (.u (.u (.u .nil)))))))))
          · refine jc_skip ?_
            refine ⟨(), ?_, rfl, cov_n 4 rfl rfl ?_⟩
            · trivial
            · exact (.cons (by first | rfl | (show some (V.i .u64 _) = some (V.i .u64 _); rw [getD_ge (by omega)])) (.u (.u (.u (.u (.u (.u (.u (.u .nil)))))))))
        · rintro _ _
          refine jc_region ?_
          refine jo_l (ly_mv rfl) (hd 39 rfl) ?_
          refine jo_l (ly_mv rfl) (hd 40 rfl) ?_
          refine jo_l (ly_mv rfl) (hd 41 rfl) ?_
          refine jo_l (ly_mv rfl) (hd 42 rfl) ?_
          refine jo_l (ly_ian (i := i) sl28 rfl rfl (by first | rfl | omega) (by omega)) (hd 43 rfl) ?_
          refine jo_l (ly_ldq one82 rfl rfl) (hd 44 rfl) ?_
          refine jo_l (ly_mv rfl) (hd 45 rfl) ?_
          refine jo_l (ly_mv rfl) (hd 46 rfl) ?_
          refine jo_h (hy_ext3 (e := add64Entry) Try.func87 rfl rfl (by kernel_rfl) (by kernel_rfl) rfl rfl rfl (fun w => run_add64 _ _ _ hx.1 hy.1 hc.1 hc.2 w) rel_pair) (hd 47 rfl) ?_
          refine jo_l (ly_mv rfl) (hd 38 rfl) ?_
          refine jo_l (ly_ext rfl rfl) (hd 48 rfl) ?_
          refine jo_l (ly_ext rfl rfl) (hd 49 rfl) ?_
          refine jo_l (ly_ia (i := i) sl28 rfl rfl rfl (by first | rfl | omega) (by omega) rfl) (hd 50 rfl) ?_
          refine jo_st (sy_storei rfl rfl rfl one82 (by omega)) ?_
          refine jo_l (ly_as rfl) (hd 7 rfl) ?_
          refine jo_nil ?_
          refine jc_region ?_
          refine jo_l (ly_add rfl rfl (wrap_i64 (by omega) (by omega))) (hd 51 rfl) ?_
          refine jo_l (ly_mv rfl) (hd 27 rfl) ?_
          refine jo_nil ?_
          refine ⟨i + 1, ?_, ?_, (by show [(⟨82, 1, 0, true, ints .u64 _⟩ : Ob)] = [⟨82, 1, 0, true, ints .u64 _⟩]; rw [fill_ad (by omega)]), cov_n 57 rfl rfl ?_⟩
          · omega
          · omega
          · exact (.cons rfl (.cons rfl (.u (.u (.u (.u (.u (.u (.u (.u (.u (.u (.u (.u (.u (.u (.u (.u (.u (.u (.u (.u (.u (.u (.u (.u (.u (.u .nil))))))))))))))))))))))))))))
      · refine jc_exit ?_
        refine jc_seq ?_
        obtain rfl : i = X.length := by omega
        refine jc_region ?_
        refine jo_l (ly_mv rfl) (hd 52 rfl) ?_
        refine jo_l (ly_mv rfl) (hd 53 rfl) ?_
        refine jo_l (ly_lenn sl28 rfl) (hd 54 rfl) ?_
        refine jo_l (ly_mv rfl) (hd 55 rfl) ?_
        refine jo_l (ly_ia (i := X.length) sl28 rfl rfl rfl (by first | rfl | omega) (by omega) rfl) (hd 56 rfl) ?_
        refine jo_st (sy_storei rfl rfl rfl one82 (by omega)) ?_
        refine jo_nil ?_
        refine jc_seq ?_
        refine jc_region ?_
        refine jo_frz (k := .u64) (l' := sumL a b) 6 rfl rfl (by rw [fill_last (adN_len _ _ _)]; simp [adN_len]) (by rw [fill_last (adN_len _ _ _), hS, List.drop_zero, List.take_of_length_le (by simp [adN_len])]) hL ?_
        refine jo_l (ly_mv rfl) (hd 57 rfl) ?_
        refine jo_call Try.f88 (told_ok (sumL a b) (by rw [hS]; simp only [List.length_append, adN_len, List.length_singleton]; omega) (by rw [hS]; exact u64s_app1 (adN_u _) hc.1 (by omega)) h) rfl Try.func88 rfl rfl (ovL_cons rfl ovL_nil) (.cons .n .nil) (hd 58 rfl) ?_ (fun ch hp => by simp at hp)
        rintro y hy; injection hy with hy; subst hy
        refine jo_l (ly_ext rfl rfl) (hd 59 rfl) ?_
        refine jo_l (ly_ext rfl rfl) (hd 60 rfl) ?_
        refine jo_l (ly_as rfl) (hd 4 rfl) ?_
        refine jo_l (ly_as rfl) (hd 5 rfl) ?_
        refine jo_nil ?_
        refine jc_ret ?_
        refine ⟨_, _, (.cons rfl (.cons rfl .nil)), (.t1 .n (.t1 .i .t0)), ?_⟩
        exact rfl

set_option maxHeartbeats 4000000 in
theorem Add_big (a b : List Int) (ha : a.length < 4294967296) (hb : b.length < 4294967296) (ua : u64s a) (ub : u64s b) (h : 67108864 < lenN (trm (sumL a b))) : Spec Try.prog 74 [.n false .u64 a, .n false .u64 b] (fun o => o = .ret (.t [.n false .u64 [], .i .i64 3])) := by
  refine spec_of' [(0, .n false .u64 a), (1, .n false .u64 b)] rfl Try.func74 rfl (Nat.le_of_ble_eq_true rfl) fun Γ hN hds hL hR => ?_
  have hd : ∀ d, Nat.blt d 61 = true → d < Γ.N := fun d h => by rw [hN]; exact Nat.le_of_ble_eq_true h
  have hma := trm_len a
  have hmb := trm_len b
  refine jc_seq ?_
  refine jc_region ?_
  refine jo_l (ly_as rfl) (hd 4 rfl) ?_
  refine jo_l (ly_as rfl) (hd 5 rfl) ?_
  refine jo_nil ?_
  refine jc_seq ?_
  refine jc_region ?_
  refine jo_l (ly_mv rfl) (hd 10 rfl) ?_
  refine jo_call Try.f84 (trim_s a (by omega)) rfl Try.func84 rfl rfl (ovL_cons rfl ovL_nil) (.cons .n .nil) (hd 11 rfl) ?_ (fun ch hp => by simp at hp)
  rintro y hy; injection hy with hy; subst hy
  refine jo_l (ly_mv rfl) (hd 12 rfl) ?_
  refine jo_call Try.f84 (trim_s b (by omega)) rfl Try.func84 rfl rfl (ovL_cons rfl ovL_nil) (.cons .n .nil) (hd 13 rfl) ?_ (fun ch hp => by simp at hp)
  rintro y hy; injection hy with hy; subst hy
  refine jo_l (ly_as rfl) (hd 0 rfl) ?_
  refine jo_l (ly_as rfl) (hd 1 rfl) ?_
  refine jo_nil ?_
  refine jc_meetH (G := List Int × List Int) (fun g => swL (trm a) (trm b) = g ∧ g.1.length < 4294967296 ∧ u64s g.1 ∧ u64s g.2) (fun g => [(0, .n false .u64 g.1), (1, .n false .u64 g.2), (14, .u), (15, .u), (16, .u), (17, .u), (18, .u), (19, .u), (20, .u)]) ?_ ?_
  · refine jc_seq ?_
    refine jc_region ?_
    refine jo_l (ly_mv rfl) (hd 14 rfl) ?_
    refine jo_l (ly_lenn sl28 rfl) (hd 15 rfl) ?_
    refine jo_l (ly_mv rfl) (hd 16 rfl) ?_
    refine jo_l (ly_lenn sl28 rfl) (hd 17 rfl) ?_
    refine jo_l (ly_lt rfl rfl) (hd 18 rfl) ?_
    refine jo_nil ?_
    refine jc_if rfl (fun h1 => ?_) (fun h1 => ?_)
    · refine jc_region ?_
      refine jo_l (ly_mv rfl) (hd 19 rfl) ?_
      refine jo_l (ly_mv rfl) (hd 20 rfl) ?_
      refine jo_l (ly_as rfl) (hd 0 rfl) ?_
      refine jo_l (ly_as rfl) (hd 1 rfl) ?_
      refine jo_nil ?_
      refine ⟨(trm b, trm a), ?_, rfl, cov_n 9 rfl rfl ?_⟩
      · exact ⟨by unfold swL; rw [if_pos (by omega)], by show (trm b).length < _; omega, u64s_trm ub, u64s_trm ua⟩
      · exact (.cons rfl (.cons rfl (.u (.u (.u (.u (.u (.u (.u .nil)))))))))
    · refine jc_skip ?_
      refine ⟨(trm a, trm b), ?_, rfl, cov_n 5 rfl rfl ?_⟩
      · exact ⟨by unfold swL; rw [if_neg (by omega)], by show (trm a).length < _; omega, u64s_trm ua, u64s_trm ub⟩
      · exact (.cons rfl (.cons rfl (.u (.u (.u (.u (.u (.u (.u .nil)))))))))
  · rintro ⟨X, Y⟩ ⟨hg, hX, uX, uY⟩
    dsimp only at hg hX uX uY ⊢
    have hS : sumL a b = (adN X Y X.length).1 ++ [(adN X Y X.length).2] := by unfold sumL; rw [hg]
    refine jc_seq ?_
    refine jc_region ?_
    refine jo_l (ly_mv rfl) (hd 21 rfl) ?_
    refine jo_l (ly_lenn sl28 rfl) (hd 22 rfl) ?_
    refine jo_l (ly_add rfl rfl (r := ((X.length + 1 : Nat) : Int)) (by rw [wrap_i64 (by omega) (by omega)]; omega)) (hd 23 rfl) ?_
    refine jo_h (hy_mk (m := X.length + 1) el28 rfl rfl rfl (by show 8 * (X.length + 1) ≤ _; omega) (by unfold maxLen; omega) rfl) (hd 24 rfl) ?_
    refine jo_l (ly_as rfl) (hd 6 rfl) ?_
    refine jo_nil ?_
    refine jc_seq ?_
    refine jc_region ?_
    refine jo_l (ly_as rfl) (hd 7 rfl) ?_
    refine jo_nil ?_
    refine jc_seq ?_
    refine jc_seq ?_
    refine jc_region ?_
    refine jo_l (ly_mv rfl) (hd 25 rfl) ?_
    refine jo_l (ly_lenn sl28 rfl) (hd 26 rfl) ?_
    refine jo_l (ly_mv rfl) (hd 27 rfl) ?_
    refine jo_nil ?_
    refine jc_block ?_
    refine jc_loopF (G := Nat) (fun i => i ≤ X.length) (fun i => [(7, .i .u64 (adN X Y i).2), (27, .i .i64 (i : Int)), (8, .u), (9, .u), (28, .u), (29, .u), (30, .u), (31, .u), (32, .u), (33, .u), (34, .u), (35, .u), (36, .u), (37, .u), (38, .u), (39, .u), (40, .u), (41, .u), (42, .u), (43, .u), (44, .u), (45, .u), (46, .u), (47, .u), (48, .u), (49, .u), (50, .u), (51, .u)]) (fun i => [⟨82, 1, 0, true, ints .u64 (fillI (adN X Y i).1 (X.length + 1))⟩]) (fun i => X.length - i) 0 ?_ ?_ rfl ?_
    · exact Nat.zero_le _
    · exact (.cons rfl (.cons rfl (.u (.u (.u (.u (.u (.u (.u (.u (.u (.u (.u (.u (.u (.u (.u (.u (.u (.u (.u (.u (.u (.u (.u (.u (.u (.u .nil))))))))))))))))))))))))))))
    · rintro i hc1
      have hf := fillI_len (l := (adN X Y i).1) (n := X.length + 1) (by rw [adN_len]; omega)
      have hc := adN_c uX uY i
      have hx := u64s_getD uX i
      have hy := u64s_getD uY i
      refine jc_seq ?_
      refine jc_region ?_
      refine jo_l (ly_lt rfl rfl) (hd 28 rfl) ?_
      refine jo_nil ?_
      refine jc_seq ?_
      refine jc_if rfl (fun h2 => ?_) (fun h2 => ?_)
      · refine jc_skip ?_
        refine jc_seq ?_
        refine jc_block ?_
        refine jc_seq ?_
        refine jc_region ?_
        refine jo_l (ly_mv rfl) (hd 29 rfl) ?_
        refine jo_l (ly_as rfl) (hd 8 rfl) ?_
        refine jo_nil ?_
        refine jc_seq ?_
        refine jc_region ?_
        refine jo_l (ly_as rfl) (hd 9 rfl) ?_
        refine jo_nil ?_
        refine jc_meetH (G := Unit) (fun _ => True) (fun _ => [(9, .i .u64 (Y.getD i 0)), (30, .u), (31, .u), (32, .u), (33, .u), (34, .u), (35, .u), (36, .u), (37, .u)]) ?_ ?_
        · refine jc_seq ?_
          refine jc_region ?_
          refine jo_l (ly_mv rfl) (hd 30 rfl) ?_
          refine jo_l (ly_mv rfl) (hd 31 rfl) ?_
          refine jo_l (ly_lenn sl28 rfl) (hd 32 rfl) ?_
          refine jo_l (ly_lt rfl rfl) (hd 33 rfl) ?_
          refine jo_nil ?_
          refine jc_if rfl (fun h3 => ?_) (fun h3 => ?_)
          · refine jc_region ?_
            refine jo_l (ly_mv rfl) (hd 34 rfl) ?_
            refine jo_l (ly_mv rfl) (hd 35 rfl) ?_
            refine jo_l (ly_ian (i := i) sl28 rfl rfl (by first | rfl | omega) (by omega)) (hd 36 rfl) ?_
            refine jo_l (ly_ldq one82 rfl rfl) (hd 37 rfl) ?_
            refine jo_l (ly_as rfl) (hd 9 rfl) ?_
            refine jo_nil ?_
            refine ⟨(), ?_, rfl, cov_n 9 rfl rfl ?_⟩
            · trivial
            · exact (.cons (by first | rfl | (show some (V.i .u64 _) = some (V.i .u64 _); rw [getD_ge (by omega)])) (.u (.u (.u (.u (.u (.u (.u (.u .nil)))))))))
          · refine jc_skip ?_
            refine ⟨(), ?_, rfl, cov_n 4 rfl rfl ?_⟩
            · trivial
            · exact (.cons (by first | rfl | (show some (V.i .u64 _) = some (V.i .u64 _); rw [getD_ge (by omega)])) (.u (.u (.u (.u (.u (.u (.u (.u .nil)))))))))
        · rintro _ _
          refine jc_region ?_
          refine jo_l (ly_mv rfl) (hd 39 rfl) ?_
          refine jo_l (ly_mv rfl) (hd 40 rfl) ?_
          refine jo_l (ly_mv rfl) (hd 41 rfl) ?_
          refine jo_l (ly_mv rfl) (hd 42 rfl) ?_
          refine jo_l (ly_ian (i := i) sl28 rfl rfl (by first | rfl | omega) (by omega)) (hd 43 rfl) ?_
          refine jo_l (ly_ldq one82 rfl rfl) (hd 44 rfl) ?_
          refine jo_l (ly_mv rfl) (hd 45 rfl) ?_
          refine jo_l (ly_mv rfl) (hd 46 rfl) ?_
          refine jo_h (hy_ext3 (e := add64Entry) Try.func87 rfl rfl (by kernel_rfl) (by kernel_rfl) rfl rfl rfl (fun w => run_add64 _ _ _ hx.1 hy.1 hc.1 hc.2 w) rel_pair) (hd 47 rfl) ?_
          refine jo_l (ly_mv rfl) (hd 38 rfl) ?_
          refine jo_l (ly_ext rfl rfl) (hd 48 rfl) ?_
          refine jo_l (ly_ext rfl rfl) (hd 49 rfl) ?_
          refine jo_l (ly_ia (i := i) sl28 rfl rfl rfl (by first | rfl | omega) (by omega) rfl) (hd 50 rfl) ?_
          refine jo_st (sy_storei rfl rfl rfl one82 (by omega)) ?_
          refine jo_l (ly_as rfl) (hd 7 rfl) ?_
          refine jo_nil ?_
          refine jc_region ?_
          refine jo_l (ly_add rfl rfl (wrap_i64 (by omega) (by omega))) (hd 51 rfl) ?_
          refine jo_l (ly_mv rfl) (hd 27 rfl) ?_
          refine jo_nil ?_
          refine ⟨i + 1, ?_, ?_, (by show [(⟨82, 1, 0, true, ints .u64 _⟩ : Ob)] = [⟨82, 1, 0, true, ints .u64 _⟩]; rw [fill_ad (by omega)]), cov_n 57 rfl rfl ?_⟩
          · omega
          · omega
          · exact (.cons rfl (.cons rfl (.u (.u (.u (.u (.u (.u (.u (.u (.u (.u (.u (.u (.u (.u (.u (.u (.u (.u (.u (.u (.u (.u (.u (.u (.u (.u .nil))))))))))))))))))))))))))))
      · refine jc_exit ?_
        refine jc_seq ?_
        obtain rfl : i = X.length := by omega
        refine jc_region ?_
        refine jo_l (ly_mv rfl) (hd 52 rfl) ?_
        refine jo_l (ly_mv rfl) (hd 53 rfl) ?_
        refine jo_l (ly_lenn sl28 rfl) (hd 54 rfl) ?_
        refine jo_l (ly_mv rfl) (hd 55 rfl) ?_
        refine jo_l (ly_ia (i := X.length) sl28 rfl rfl rfl (by first | rfl | omega) (by omega) rfl) (hd 56 rfl) ?_
        refine jo_st (sy_storei rfl rfl rfl one82 (by omega)) ?_
        refine jo_nil ?_
        refine jc_seq ?_
        refine jc_region ?_
        refine jo_frz (k := .u64) (l' := sumL a b) 6 rfl rfl (by rw [fill_last (adN_len _ _ _)]; simp [adN_len]) (by rw [fill_last (adN_len _ _ _), hS, List.drop_zero, List.take_of_length_le (by simp [adN_len])]) hL ?_
        refine jo_l (ly_mv rfl) (hd 57 rfl) ?_
        refine jo_call Try.f88 (told_big (sumL a b) (by rw [hS]; simp only [List.length_append, adN_len, List.length_singleton]; omega) (by rw [hS]; exact u64s_app1 (adN_u _) hc.1 (by omega)) h) rfl Try.func88 rfl rfl (ovL_cons rfl ovL_nil) (.cons .n .nil) (hd 58 rfl) ?_ (fun ch hp => by simp at hp)
        rintro y hy; injection hy with hy; subst hy
        refine jo_l (ly_ext rfl rfl) (hd 59 rfl) ?_
        refine jo_l (ly_ext rfl rfl) (hd 60 rfl) ?_
        refine jo_l (ly_as rfl) (hd 4 rfl) ?_
        refine jo_l (ly_as rfl) (hd 5 rfl) ?_
        refine jo_nil ?_
        refine jc_ret ?_
        refine ⟨_, _, (.cons rfl (.cons rfl .nil)), (.t1 .n (.t1 .i .t0)), ?_⟩
        exact rfl
end Go.Proofs.Ytcdipmjgpimmdaa.Vc
