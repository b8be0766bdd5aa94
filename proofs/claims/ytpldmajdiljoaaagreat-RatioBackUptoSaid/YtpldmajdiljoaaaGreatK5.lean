/- surdlaw07.RatioBack answers true for every rational of bulk at most 1048576, and leaves its input as it was: Parse undoes Print, Unchain undoes Chain Texts joined: Wd, We, Wf, Wg, Wh, Wi, Wj, Wk, Wl, Wm, Wn, Wo, Wp, Wq, Wr, Ws, Wt, Wv, Wx, Wy, Wz, Ya, Yb, Ye, Yg, Yh. -/
import Derived.Test.YtpldmajdiljoaaaGreatK4
set_option linter.unusedVariables false
set_option linter.unusedSimpArgs false
set_option maxHeartbeats 4000000
namespace Go.Proofs.YtpldmajdiljoaaaGreat.Vc
open Go Go.RowKit
theorem Add_ok (a b : List Int) (ha : a.length < 4294967296) (hb : b.length < 4294967296) (ua : u64s a) (ub : u64s b) (h : lenN (trm (sumL a b)) ≤ 67108864) : Spec Tryz.prog 83 [.n false .u64 a, .n false .u64 b] (fun o => o = .ret (.t [.n false .u64 (trm (sumL a b)), .i .i64 0])) := by
  refine spec_of' [(0, .n false .u64 a), (1, .n false .u64 b)] rfl Tryz.func83 rfl (zlb rfl) fun Γ hN hds hL hR => ?_
  have hd := hdOf 61 hN
  have hma := trm_len a
  have hmb := trm_len b
  refine zsr <| zas rfl (hd 4 rfl) <| zas rfl (hd 5 rfl) <| jo_nil <| zsr <| zmv rfl (hd 10 rfl) ?_
  refine jo_call Tryz.f85 (trim_s a (by omega)) rfl Tryz.func85 rfl rfl (ovL_cons rfl ovL_nil) (.cons .n .nil) (hd 11 rfl) ?_ (fun ch hp => by simp at hp)
  rintro _ ⟨⟩; refine zmv rfl (hd 12 rfl) ?_
  refine jo_call Tryz.f85 (trim_s b (by omega)) rfl Tryz.func85 rfl rfl (ovL_cons rfl ovL_nil) (.cons .n .nil) (hd 13 rfl) ?_ (fun ch hp => by simp at hp)
  rintro _ ⟨⟩; refine zas rfl (hd 0 rfl) <| zas rfl (hd 1 rfl) <| jo_nil ?_
  refine jc_meetH (G := List Int × List Int) (fun g => swL (trm a) (trm b) = g ∧ g.1.length < 4294967296 ∧ u64s g.1 ∧ u64s g.2) (fun g => [(0, .n false .u64 g.1), (1, .n false .u64 g.2), (14, .u), (15, .u), (16, .u), (17, .u), (18, .u), (19, .u), (20, .u)]) ?_ ?_
  · refine zsr <| zmv rfl (hd 14 rfl) <| jo_l (ly_lenn sl28 rfl) (hd 15 rfl) <| zmv rfl (hd 16 rfl) <| jo_l (ly_lenn sl28 rfl) (hd 17 rfl) <| jo_l (ly_lt rfl rfl) (hd 18 rfl) <| jo_nil ?_
    refine jc_if rfl (fun h1 => ?_) (fun h1 => ?_)
    · refine jc_region <| zmv rfl (hd 19 rfl) <| zmv rfl (hd 20 rfl) <| zas rfl (hd 0 rfl) <| zas rfl (hd 1 rfl) <| jo_nil ?_
      refine ⟨(trm b, trm a), ?_, rfl, cov_n 9 rfl rfl ?_⟩
      · exact ⟨by unfold swL; rw [if_pos (by omega)], by show (trm b).length < _; omega, u64s_trm ub, u64s_trm ua⟩
      · exact (.cons rfl (.cons rfl (.u (.u (.u (.u (.u (.u (.u .nil)))))))))
    · refine jc_skip ?_
      refine ⟨(trm a, trm b), ?_, rfl, cov_n 5 rfl rfl ?_⟩
      · exact ⟨by unfold swL; rw [if_neg (by omega)], by show (trm a).length < _; omega, u64s_trm ua, u64s_trm ub⟩
      · exact (.cons rfl (.cons rfl (.u (.u (.u (.u (.u (.u (.u .nil)))))))))
  · rintro ⟨X, Y⟩ ⟨hg, hX, uX, uY⟩
    dsimp only at hg hX uX uY ⊢
    have hS : sumL a b = (adN X Y X.length).1 ++ [(adN X Y X.length).2] := by unfold sumL; rw [hg]
    refine zsr <| zmv rfl (hd 21 rfl) <| jo_l (ly_lenn sl28 rfl) (hd 22 rfl) <| jo_l (ly_add rfl rfl (r := ((X.length + 1 : Nat) : Int)) (by rw [wrap_i64 (by omega) (by omega)]; omega)) (hd 23 rfl) <| jo_h (hy_mk (m := X.length + 1) el28 rfl rfl rfl (by show 8 * (X.length + 1) ≤ _; omega) (by unfold maxLen; omega) rfl) (hd 24 rfl) <| zas rfl (hd 6 rfl) <| jo_nil <| zsr <| zas rfl (hd 7 rfl) <| jo_nil <| jc_seq ?_; refine zsr <| zmv rfl (hd 25 rfl) <| jo_l (ly_lenn sl28 rfl) (hd 26 rfl) <| zmv rfl (hd 27 rfl) <| jo_nil <| jc_block ?_
    refine jc_loopF (G := Nat) (fun i => i ≤ X.length) (fun i => [(7, .i .u64 (adN X Y i).2), (27, .i .i64 (i : Int)), (8, .u), (9, .u), (28, .u), (29, .u), (30, .u), (31, .u), (32, .u), (33, .u), (34, .u), (35, .u), (36, .u), (37, .u), (38, .u), (39, .u), (40, .u), (41, .u), (42, .u), (43, .u), (44, .u), (45, .u), (46, .u), (47, .u), (48, .u), (49, .u), (50, .u), (51, .u)]) (fun i => [⟨79, 1, 0, true, ints .u64 (fillI (adN X Y i).1 (X.length + 1))⟩]) (fun i => X.length - i) 0 ?_ ?_ rfl ?_
    · exact Nat.zero_le _
    · exact (.cons rfl (.cons rfl (.u (.u (.u (.u (.u (.u (.u (.u (.u (.u (.u (.u (.u (.u (.u (.u (.u (.u (.u (.u (.u (.u (.u (.u (.u (.u .nil))))))))))))))))))))))))))))
    · rintro i hc1
      have hf := fillI_len (l := (adN X Y i).1) (n := X.length + 1) (by rw [adN_len]; omega)
      have hc := adN_c uX uY i
      have hx := u64s_getD uX i
      have hy := u64s_getD uY i
      refine zsr <| jo_l (ly_lt rfl rfl) (hd 28 rfl) <| jo_nil <| jc_seq ?_
      refine jc_if rfl (fun h2 => ?_) (fun h2 => ?_)
      · refine jc_skip <| jc_seq <| jc_block <| zsr <| zmv rfl (hd 29 rfl) <| zas rfl (hd 8 rfl) <| jo_nil <| zsr <| zas rfl (hd 9 rfl) <| jo_nil ?_
        refine jc_meetH (G := Unit) (fun _ => True) (fun _ => [(9, .i .u64 (Y.getD i 0)), (30, .u), (31, .u), (32, .u), (33, .u), (34, .u), (35, .u), (36, .u), (37, .u)]) ?_ ?_
        · refine zsr <| zmv rfl (hd 30 rfl) <| zmv rfl (hd 31 rfl) <| jo_l (ly_lenn sl28 rfl) (hd 32 rfl) <| jo_l (ly_lt rfl rfl) (hd 33 rfl) <| jo_nil ?_
          refine jc_if rfl (fun h3 => ?_) (fun h3 => ?_)
          · refine jc_region <| zmv rfl (hd 34 rfl) <| zmv rfl (hd 35 rfl) <| jo_l (ly_ian (i := i) sl28 rfl rfl (by first | rfl | omega) (by omega)) (hd 36 rfl) <| jo_l (ly_ldq one82 rfl rfl) (hd 37 rfl) <| zas rfl (hd 9 rfl) <| jo_nil ?_
            refine ⟨(), ?_, rfl, cov_n 9 rfl rfl ?_⟩
            · trivial
            · exact (.cons (by first | rfl | (show some (V.i .u64 _) = some (V.i .u64 _); rw [getD_ge (by omega)])) (.u (.u (.u (.u (.u (.u (.u (.u .nil)))))))))
          · refine jc_skip ?_
            refine ⟨(), ?_, rfl, cov_n 4 rfl rfl ?_⟩
            · trivial
            · exact (.cons (by first | rfl | (show some (V.i .u64 _) = some (V.i .u64 _); rw [getD_ge (by omega)])) (.u (.u (.u (.u (.u (.u (.u (.u .nil)))))))))
        · rintro _ _; refine jc_region <| zmv rfl (hd 39 rfl) <| zmv rfl (hd 40 rfl) <| zmv rfl (hd 41 rfl) <| zmv rfl (hd 42 rfl) <| jo_l (ly_ian (i := i) sl28 rfl rfl (by first | rfl | omega) (by omega)) (hd 43 rfl) <| jo_l (ly_ldq one82 rfl rfl) (hd 44 rfl) <| zmv rfl (hd 45 rfl) <| zmv rfl (hd 46 rfl) <| jo_h (hy_ext3 (e := add64Entry) Tryz.func111 rfl rfl (by kernel_rfl) (by kernel_rfl) rfl rfl rfl (fun w => run_add64 _ _ _ hx.1 hy.1 hc.1 hc.2 w) rel_pair) (hd 47 rfl) <| zmv rfl (hd 38 rfl) <| jo_l (ly_ext rfl rfl) (hd 48 rfl) <| jo_l (ly_ext rfl rfl) (hd 49 rfl) ?_; refine jo_l (ly_ia (i := i) sl28 rfl rfl rfl (by first | rfl | omega) (by omega) rfl) (hd 50 rfl) <| jo_st (sy_storei rfl rfl rfl one82 (by omega)) <| zas rfl (hd 7 rfl) <| jo_nil <| jc_region <| jo_l (ly_add rfl rfl (wrap_i64 (by omega) (by omega))) (hd 51 rfl) <| zmv rfl (hd 27 rfl) <| jo_nil ?_
          refine ⟨i + 1, ?_, ?_, (by show [(⟨79, 1, 0, true, ints .u64 _⟩ : Ob)] = [⟨79, 1, 0, true, ints .u64 _⟩]; rw [fill_ad (by omega)]), cov_n 57 rfl rfl ?_⟩
          · omega
          · omega
          · exact (.cons rfl (.cons rfl (.u (.u (.u (.u (.u (.u (.u (.u (.u (.u (.u (.u (.u (.u (.u (.u (.u (.u (.u (.u (.u (.u (.u (.u (.u (.u .nil))))))))))))))))))))))))))))
      · refine jc_exit <| jc_seq ?_
        obtain rfl : i = X.length := by omega
        refine jc_region <| zmv rfl (hd 52 rfl) <| zmv rfl (hd 53 rfl) <| jo_l (ly_lenn sl28 rfl) (hd 54 rfl) <| zmv rfl (hd 55 rfl) <| jo_l (ly_ia (i := X.length) sl28 rfl rfl rfl (by first | rfl | omega) (by omega) rfl) (hd 56 rfl) <| jo_st (sy_storei rfl rfl rfl one82 (by omega)) <| jo_nil <| zsr <| jo_frz (k := .u64) (l' := sumL a b) 6 rfl rfl (by rw [fill_last (adN_len _ _ _)]; simp [adN_len]) (by rw [fill_last (adN_len _ _ _), hS, List.drop_zero, List.take_of_length_le (by simp [adN_len])]) hL <| zmv rfl (hd 57 rfl) ?_
        refine jo_call Tryz.f112 (told_ok (sumL a b) (by rw [hS]; simp only [List.length_append, adN_len, List.length_singleton]; omega) (by rw [hS]; exact u64s_app1 (adN_u _) hc.1 (by omega)) h) rfl Tryz.func112 rfl rfl (ovL_cons rfl ovL_nil) (.cons .n .nil) (hd 58 rfl) ?_ (fun ch hp => by simp at hp)
        rintro _ ⟨⟩; refine jo_l (ly_ext rfl rfl) (hd 59 rfl) <| jo_l (ly_ext rfl rfl) (hd 60 rfl) <| zas rfl (hd 4 rfl) <| zas rfl (hd 5 rfl) <| jo_nil <| jc_ret ?_
        refine ⟨_, _, (.cons rfl (.cons rfl .nil)), (.t1 .n (.t1 .i .t0)), ?_⟩
        exact rfl

theorem Add_big (a b : List Int) (ha : a.length < 4294967296) (hb : b.length < 4294967296) (ua : u64s a) (ub : u64s b) (h : 67108864 < lenN (trm (sumL a b))) : Spec Tryz.prog 83 [.n false .u64 a, .n false .u64 b] (fun o => o = .ret (.t [.n false .u64 [], .i .i64 3])) := by
  refine spec_of' [(0, .n false .u64 a), (1, .n false .u64 b)] rfl Tryz.func83 rfl (zlb rfl) fun Γ hN hds hL hR => ?_
  have hd := hdOf 61 hN
  have hma := trm_len a
  have hmb := trm_len b
  refine zsr <| zas rfl (hd 4 rfl) <| zas rfl (hd 5 rfl) <| jo_nil <| zsr <| zmv rfl (hd 10 rfl) ?_
  refine jo_call Tryz.f85 (trim_s a (by omega)) rfl Tryz.func85 rfl rfl (ovL_cons rfl ovL_nil) (.cons .n .nil) (hd 11 rfl) ?_ (fun ch hp => by simp at hp)
  rintro _ ⟨⟩; refine zmv rfl (hd 12 rfl) ?_
  refine jo_call Tryz.f85 (trim_s b (by omega)) rfl Tryz.func85 rfl rfl (ovL_cons rfl ovL_nil) (.cons .n .nil) (hd 13 rfl) ?_ (fun ch hp => by simp at hp)
  rintro _ ⟨⟩; refine zas rfl (hd 0 rfl) <| zas rfl (hd 1 rfl) <| jo_nil ?_
  refine jc_meetH (G := List Int × List Int) (fun g => swL (trm a) (trm b) = g ∧ g.1.length < 4294967296 ∧ u64s g.1 ∧ u64s g.2) (fun g => [(0, .n false .u64 g.1), (1, .n false .u64 g.2), (14, .u), (15, .u), (16, .u), (17, .u), (18, .u), (19, .u), (20, .u)]) ?_ ?_
  · refine zsr <| zmv rfl (hd 14 rfl) <| jo_l (ly_lenn sl28 rfl) (hd 15 rfl) <| zmv rfl (hd 16 rfl) <| jo_l (ly_lenn sl28 rfl) (hd 17 rfl) <| jo_l (ly_lt rfl rfl) (hd 18 rfl) <| jo_nil ?_
    refine jc_if rfl (fun h1 => ?_) (fun h1 => ?_)
    · refine jc_region <| zmv rfl (hd 19 rfl) <| zmv rfl (hd 20 rfl) <| zas rfl (hd 0 rfl) <| zas rfl (hd 1 rfl) <| jo_nil ?_
      refine ⟨(trm b, trm a), ?_, rfl, cov_n 9 rfl rfl ?_⟩
      · exact ⟨by unfold swL; rw [if_pos (by omega)], by show (trm b).length < _; omega, u64s_trm ub, u64s_trm ua⟩
      · exact (.cons rfl (.cons rfl (.u (.u (.u (.u (.u (.u (.u .nil)))))))))
    · refine jc_skip ?_
      refine ⟨(trm a, trm b), ?_, rfl, cov_n 5 rfl rfl ?_⟩
      · exact ⟨by unfold swL; rw [if_neg (by omega)], by show (trm a).length < _; omega, u64s_trm ua, u64s_trm ub⟩
      · exact (.cons rfl (.cons rfl (.u (.u (.u (.u (.u (.u (.u .nil)))))))))
  · rintro ⟨X, Y⟩ ⟨hg, hX, uX, uY⟩
    dsimp only at hg hX uX uY ⊢
    have hS : sumL a b = (adN X Y X.length).1 ++ [(adN X Y X.length).2] := by unfold sumL; rw [hg]
    refine zsr <| zmv rfl (hd 21 rfl) <| jo_l (ly_lenn sl28 rfl) (hd 22 rfl) <| jo_l (ly_add rfl rfl (r := ((X.length + 1 : Nat) : Int)) (by rw [wrap_i64 (by omega) (by omega)]; omega)) (hd 23 rfl) <| jo_h (hy_mk (m := X.length + 1) el28 rfl rfl rfl (by show 8 * (X.length + 1) ≤ _; omega) (by unfold maxLen; omega) rfl) (hd 24 rfl) <| zas rfl (hd 6 rfl) <| jo_nil <| zsr <| zas rfl (hd 7 rfl) <| jo_nil <| jc_seq ?_; refine zsr <| zmv rfl (hd 25 rfl) <| jo_l (ly_lenn sl28 rfl) (hd 26 rfl) <| zmv rfl (hd 27 rfl) <| jo_nil <| jc_block ?_
    refine jc_loopF (G := Nat) (fun i => i ≤ X.length) (fun i => [(7, .i .u64 (adN X Y i).2), (27, .i .i64 (i : Int)), (8, .u), (9, .u), (28, .u), (29, .u), (30, .u), (31, .u), (32, .u), (33, .u), (34, .u), (35, .u), (36, .u), (37, .u), (38, .u), (39, .u), (40, .u), (41, .u), (42, .u), (43, .u), (44, .u), (45, .u), (46, .u), (47, .u), (48, .u), (49, .u), (50, .u), (51, .u)]) (fun i => [⟨79, 1, 0, true, ints .u64 (fillI (adN X Y i).1 (X.length + 1))⟩]) (fun i => X.length - i) 0 ?_ ?_ rfl ?_
    · exact Nat.zero_le _
    · exact (.cons rfl (.cons rfl (.u (.u (.u (.u (.u (.u (.u (.u (.u (.u (.u (.u (.u (.u (.u (.u (.u (.u (.u (.u (.u (.u (.u (.u (.u (.u .nil))))))))))))))))))))))))))))
    · rintro i hc1
      have hf := fillI_len (l := (adN X Y i).1) (n := X.length + 1) (by rw [adN_len]; omega)
      have hc := adN_c uX uY i
      have hx := u64s_getD uX i
      have hy := u64s_getD uY i
      refine zsr <| jo_l (ly_lt rfl rfl) (hd 28 rfl) <| jo_nil <| jc_seq ?_
      refine jc_if rfl (fun h2 => ?_) (fun h2 => ?_)
      · refine jc_skip <| jc_seq <| jc_block <| zsr <| zmv rfl (hd 29 rfl) <| zas rfl (hd 8 rfl) <| jo_nil <| zsr <| zas rfl (hd 9 rfl) <| jo_nil ?_
        refine jc_meetH (G := Unit) (fun _ => True) (fun _ => [(9, .i .u64 (Y.getD i 0)), (30, .u), (31, .u), (32, .u), (33, .u), (34, .u), (35, .u), (36, .u), (37, .u)]) ?_ ?_
        · refine zsr <| zmv rfl (hd 30 rfl) <| zmv rfl (hd 31 rfl) <| jo_l (ly_lenn sl28 rfl) (hd 32 rfl) <| jo_l (ly_lt rfl rfl) (hd 33 rfl) <| jo_nil ?_
          refine jc_if rfl (fun h3 => ?_) (fun h3 => ?_)
          · refine jc_region <| zmv rfl (hd 34 rfl) <| zmv rfl (hd 35 rfl) <| jo_l (ly_ian (i := i) sl28 rfl rfl (by first | rfl | omega) (by omega)) (hd 36 rfl) <| jo_l (ly_ldq one82 rfl rfl) (hd 37 rfl) <| zas rfl (hd 9 rfl) <| jo_nil ?_
            refine ⟨(), ?_, rfl, cov_n 9 rfl rfl ?_⟩
            · trivial
            · exact (.cons (by first | rfl | (show some (V.i .u64 _) = some (V.i .u64 _); rw [getD_ge (by omega)])) (.u (.u (.u (.u (.u (.u (.u (.u .nil)))))))))
          · refine jc_skip ?_
            refine ⟨(), ?_, rfl, cov_n 4 rfl rfl ?_⟩
            · trivial
            · exact (.cons (by first | rfl | (show some (V.i .u64 _) = some (V.i .u64 _); rw [getD_ge (by omega)])) (.u (.u (.u (.u (.u (.u (.u (.u .nil)))))))))
        · rintro _ _; refine jc_region <| zmv rfl (hd 39 rfl) <| zmv rfl (hd 40 rfl) <| zmv rfl (hd 41 rfl) <| zmv rfl (hd 42 rfl) <| jo_l (ly_ian (i := i) sl28 rfl rfl (by first | rfl | omega) (by omega)) (hd 43 rfl) <| jo_l (ly_ldq one82 rfl rfl) (hd 44 rfl) <| zmv rfl (hd 45 rfl) <| zmv rfl (hd 46 rfl) <| jo_h (hy_ext3 (e := add64Entry) Tryz.func111 rfl rfl (by kernel_rfl) (by kernel_rfl) rfl rfl rfl (fun w => run_add64 _ _ _ hx.1 hy.1 hc.1 hc.2 w) rel_pair) (hd 47 rfl) <| zmv rfl (hd 38 rfl) <| jo_l (ly_ext rfl rfl) (hd 48 rfl) <| jo_l (ly_ext rfl rfl) (hd 49 rfl) ?_; refine jo_l (ly_ia (i := i) sl28 rfl rfl rfl (by first | rfl | omega) (by omega) rfl) (hd 50 rfl) <| jo_st (sy_storei rfl rfl rfl one82 (by omega)) <| zas rfl (hd 7 rfl) <| jo_nil <| jc_region <| jo_l (ly_add rfl rfl (wrap_i64 (by omega) (by omega))) (hd 51 rfl) <| zmv rfl (hd 27 rfl) <| jo_nil ?_
          refine ⟨i + 1, ?_, ?_, (by show [(⟨79, 1, 0, true, ints .u64 _⟩ : Ob)] = [⟨79, 1, 0, true, ints .u64 _⟩]; rw [fill_ad (by omega)]), cov_n 57 rfl rfl ?_⟩
          · omega
          · omega
          · exact (.cons rfl (.cons rfl (.u (.u (.u (.u (.u (.u (.u (.u (.u (.u (.u (.u (.u (.u (.u (.u (.u (.u (.u (.u (.u (.u (.u (.u (.u (.u .nil))))))))))))))))))))))))))))
      · refine jc_exit <| jc_seq ?_
        obtain rfl : i = X.length := by omega
        refine jc_region <| zmv rfl (hd 52 rfl) <| zmv rfl (hd 53 rfl) <| jo_l (ly_lenn sl28 rfl) (hd 54 rfl) <| zmv rfl (hd 55 rfl) <| jo_l (ly_ia (i := X.length) sl28 rfl rfl rfl (by first | rfl | omega) (by omega) rfl) (hd 56 rfl) <| jo_st (sy_storei rfl rfl rfl one82 (by omega)) <| jo_nil <| zsr <| jo_frz (k := .u64) (l' := sumL a b) 6 rfl rfl (by rw [fill_last (adN_len _ _ _)]; simp [adN_len]) (by rw [fill_last (adN_len _ _ _), hS, List.drop_zero, List.take_of_length_le (by simp [adN_len])]) hL <| zmv rfl (hd 57 rfl) ?_
        refine jo_call Tryz.f112 (told_big (sumL a b) (by rw [hS]; simp only [List.length_append, adN_len, List.length_singleton]; omega) (by rw [hS]; exact u64s_app1 (adN_u _) hc.1 (by omega)) h) rfl Tryz.func112 rfl rfl (ovL_cons rfl ovL_nil) (.cons .n .nil) (hd 58 rfl) ?_ (fun ch hp => by simp at hp)
        rintro _ ⟨⟩; refine jo_l (ly_ext rfl rfl) (hd 59 rfl) <| jo_l (ly_ext rfl rfl) (hd 60 rfl) <| zas rfl (hd 4 rfl) <| zas rfl (hd 5 rfl) <| jo_nil <| jc_ret ?_
        refine ⟨_, _, (.cons rfl (.cons rfl .nil)), (.t1 .n (.t1 .i .t0)), ?_⟩
        exact rfl

theorem Sub_ok (a b : List Int) (ha : a.length < 4294967296) (hb : b.length < 4294967296) (ua : u64s a) (ub : u64s b) (hle : 0 ≤ cmpL (trm a) (trm b)) (h : lenN (trm (difL a b)) ≤ 67108864) : Spec Tryz.prog 84 [.n false .u64 a, .n false .u64 b] (fun o => o = .ret (.t [.n false .u64 (trm (difL a b)), .i .i64 0])) := by
  refine spec_of' [(0, .n false .u64 a), (1, .n false .u64 b)] rfl Tryz.func84 rfl (zlb rfl) fun Γ hN hds hL hR => ?_
  have hd := hdOf 52 hN
  have hma := trm_len a
  have hmb := trm_len b
  have uX := u64s_trm ua
  have uY := u64s_trm ub
  refine zsr <| zas rfl (hd 4 rfl) <| zas rfl (hd 5 rfl) <| jo_nil <| jc_seq <| zsr <| zmv rfl (hd 10 rfl) <| zmv rfl (hd 11 rfl) ?_
  refine jo_call Tryz.f67 (Compare_s a b (by omega) (by omega)) rfl Tryz.func67 rfl rfl (ovL_cons rfl (ovL_cons rfl ovL_nil)) (.cons .n (.cons .n .nil)) (hd 12 rfl) ?_ (fun ch hp => by simp at hp)
  rintro _ ⟨⟩; refine jo_l (ly_ff (ly_lt rfl rfl) (by omega)) (hd 13 rfl) <| jo_nil <| jc_litf rfl <| jc_skip <| zsr <| zmv rfl (hd 14 rfl) ?_
  refine jo_call Tryz.f85 (trim_s a (by omega)) rfl Tryz.func85 rfl rfl (ovL_cons rfl ovL_nil) (.cons .n .nil) (hd 15 rfl) ?_ (fun ch hp => by simp at hp)
  rintro _ ⟨⟩; refine zmv rfl (hd 16 rfl) ?_
  refine jo_call Tryz.f85 (trim_s b (by omega)) rfl Tryz.func85 rfl rfl (ovL_cons rfl ovL_nil) (.cons .n .nil) (hd 17 rfl) ?_ (fun ch hp => by simp at hp)
  rintro _ ⟨⟩; refine zas rfl (hd 0 rfl) <| zas rfl (hd 1 rfl) <| jo_nil <| zsr <| zmv rfl (hd 18 rfl) <| jo_l (ly_lenn sl28 rfl) (hd 19 rfl) <| jo_h (hy_mk (m := (trm a).length) el28 rfl rfl rfl (by show 8 * (trm a).length ≤ _; omega) (by unfold maxLen; omega) rfl) (hd 20 rfl) <| zas rfl (hd 6 rfl) <| jo_nil <| zsr <| zas rfl (hd 7 rfl) ?_; refine jo_nil <| jc_seq <| zsr <| zmv rfl (hd 21 rfl) <| jo_l (ly_lenn sl28 rfl) (hd 22 rfl) <| zmv rfl (hd 23 rfl) <| jo_nil <| jc_block ?_
  refine jc_loopF (G := Nat) (fun i => i ≤ (trm a).length) (fun i => [(7, .i .u64 (sbN (trm a) (trm b) i).2), (23, .i .i64 (i : Int)), (8, .u), (9, .u), (24, .u), (25, .u), (26, .u), (27, .u), (28, .u), (29, .u), (30, .u), (31, .u), (32, .u), (33, .u), (34, .u), (35, .u), (36, .u), (37, .u), (38, .u), (39, .u), (40, .u), (41, .u), (42, .u), (43, .u), (44, .u), (45, .u), (46, .u), (47, .u)]) (fun i => [⟨79, 1, 0, true, ints .u64 (fillI (sbN (trm a) (trm b) i).1 (trm a).length)⟩]) (fun i => (trm a).length - i) 0 ?_ ?_ rfl ?_
  · exact Nat.zero_le _
  · exact (.cons rfl (.cons rfl (.u (.u (.u (.u (.u (.u (.u (.u (.u (.u (.u (.u (.u (.u (.u (.u (.u (.u (.u (.u (.u (.u (.u (.u (.u (.u .nil))))))))))))))))))))))))))))
  · rintro i hc1
    have hf := fillI_len (l := (sbN (trm a) (trm b) i).1) (n := (trm a).length) (by rw [sbN_len]; omega)
    have hc := sbN_c (trm a) (trm b) i
    have hx := u64s_getD uX i
    have hy := u64s_getD uY i
    refine zsr <| jo_l (ly_lt rfl rfl) (hd 24 rfl) <| jo_nil <| jc_seq ?_
    refine jc_if rfl (fun h2 => ?_) (fun h2 => ?_)
    · refine jc_skip <| jc_seq <| jc_block <| zsr <| zmv rfl (hd 25 rfl) <| zas rfl (hd 8 rfl) <| jo_nil <| zsr <| zas rfl (hd 9 rfl) <| jo_nil ?_
      refine jc_meetH (G := Unit) (fun _ => True) (fun _ => [(9, .i .u64 ((trm b).getD i 0)), (26, .u), (27, .u), (28, .u), (29, .u), (30, .u), (31, .u), (32, .u), (33, .u)]) ?_ ?_
      · refine zsr <| zmv rfl (hd 26 rfl) <| zmv rfl (hd 27 rfl) <| jo_l (ly_lenn sl28 rfl) (hd 28 rfl) <| jo_l (ly_lt rfl rfl) (hd 29 rfl) <| jo_nil ?_
        refine jc_if rfl (fun h3 => ?_) (fun h3 => ?_)
        · refine jc_region <| zmv rfl (hd 30 rfl) <| zmv rfl (hd 31 rfl) <| jo_l (ly_ian (i := i) sl28 rfl rfl (by first | rfl | omega) (by omega)) (hd 32 rfl) <| jo_l (ly_ldq one82 rfl rfl) (hd 33 rfl) <| zas rfl (hd 9 rfl) <| jo_nil ?_
          refine ⟨(), ?_, rfl, cov_n 9 rfl rfl ?_⟩
          · trivial
          · exact (.cons (by first | rfl | (show some (V.i .u64 _) = some (V.i .u64 _); rw [getD_ge (by omega)])) (.u (.u (.u (.u (.u (.u (.u (.u .nil)))))))))
        · refine jc_skip ?_
          refine ⟨(), ?_, rfl, cov_n 4 rfl rfl ?_⟩
          · trivial
          · exact (.cons (by first | rfl | (show some (V.i .u64 _) = some (V.i .u64 _); rw [getD_ge (by omega)])) (.u (.u (.u (.u (.u (.u (.u (.u .nil)))))))))
      · rintro _ _; refine jc_region <| zmv rfl (hd 35 rfl) <| zmv rfl (hd 36 rfl) <| zmv rfl (hd 37 rfl) <| zmv rfl (hd 38 rfl) <| jo_l (ly_ian (i := i) sl28 rfl rfl (by first | rfl | omega) (by omega)) (hd 39 rfl) <| jo_l (ly_ldq one82 rfl rfl) (hd 40 rfl) <| zmv rfl (hd 41 rfl) <| zmv rfl (hd 42 rfl) <| jo_h (hy_ext3 (e := sub64Entry) Tryz.func113 rfl rfl (by kernel_rfl) (by kernel_rfl) rfl rfl rfl (fun w => run_sub64 _ _ _ hx.1 hx.2 hy.1 hy.2 hc.1 hc.2 w) rel_pair) (hd 43 rfl) <| zmv rfl (hd 34 rfl) <| jo_l (ly_ext rfl rfl) (hd 44 rfl) <| jo_l (ly_ext rfl rfl) (hd 45 rfl) ?_; refine jo_l (ly_ia (i := i) sl28 rfl rfl rfl (by first | rfl | omega) (by omega) rfl) (hd 46 rfl) <| jo_st (sy_storei rfl rfl rfl one82 (by omega)) <| zas rfl (hd 7 rfl) <| jo_nil <| jc_region <| jo_l (ly_add rfl rfl (wrap_i64 (by omega) (by omega))) (hd 47 rfl) <| zmv rfl (hd 23 rfl) <| jo_nil ?_
        refine ⟨i + 1, ?_, ?_, (by show [(⟨79, 1, 0, true, ints .u64 _⟩ : Ob)] = [⟨79, 1, 0, true, ints .u64 _⟩]; rw [fill_sb (by omega)]), cov_n 57 rfl rfl ?_⟩
        · omega
        · omega
        · exact (.cons rfl (.cons rfl (.u (.u (.u (.u (.u (.u (.u (.u (.u (.u (.u (.u (.u (.u (.u (.u (.u (.u (.u (.u (.u (.u (.u (.u (.u (.u .nil))))))))))))))))))))))))))))
    · refine jc_exit <| jc_seq ?_
      obtain rfl : i = (trm a).length := by omega
      refine jc_frz (k := .u64) (l' := difL a b) 6 rfl rfl (by rw [fillI_full (sbN_len _ _ _)]; simp [sbN_len]) (by rw [fillI_full (sbN_len _ _ _), List.drop_zero, List.take_of_length_le (by simp [sbN_len])]; rfl) hL <| jc_region <| zmv rfl (hd 48 rfl) ?_
      refine jo_call Tryz.f112 (told_ok (difL a b) (by unfold difL; rw [sbN_len]; omega) (sbN_u uX uY _) h) rfl Tryz.func112 rfl rfl (ovL_cons rfl ovL_nil) (.cons .n .nil) (hd 49 rfl) ?_ (fun ch hp => by simp at hp)
      rintro _ ⟨⟩; refine jo_l (ly_ext rfl rfl) (hd 50 rfl) <| jo_l (ly_ext rfl rfl) (hd 51 rfl) <| zas rfl (hd 4 rfl) <| zas rfl (hd 5 rfl) <| jo_nil <| jc_ret ?_
      refine ⟨_, _, (.cons rfl (.cons rfl .nil)), (.t1 .n (.t1 .i .t0)), ?_⟩
      exact rfl

theorem Sub_big (a b : List Int) (ha : a.length < 4294967296) (hb : b.length < 4294967296) (ua : u64s a) (ub : u64s b) (hle : 0 ≤ cmpL (trm a) (trm b)) (h : 67108864 < lenN (trm (difL a b))) : Spec Tryz.prog 84 [.n false .u64 a, .n false .u64 b] (fun o => o = .ret (.t [.n false .u64 [], .i .i64 3])) := by
  refine spec_of' [(0, .n false .u64 a), (1, .n false .u64 b)] rfl Tryz.func84 rfl (zlb rfl) fun Γ hN hds hL hR => ?_
  have hd := hdOf 52 hN
  have hma := trm_len a
  have hmb := trm_len b
  have uX := u64s_trm ua
  have uY := u64s_trm ub
  refine zsr <| zas rfl (hd 4 rfl) <| zas rfl (hd 5 rfl) <| jo_nil <| jc_seq <| zsr <| zmv rfl (hd 10 rfl) <| zmv rfl (hd 11 rfl) ?_
  refine jo_call Tryz.f67 (Compare_s a b (by omega) (by omega)) rfl Tryz.func67 rfl rfl (ovL_cons rfl (ovL_cons rfl ovL_nil)) (.cons .n (.cons .n .nil)) (hd 12 rfl) ?_ (fun ch hp => by simp at hp)
  rintro _ ⟨⟩; refine jo_l (ly_ff (ly_lt rfl rfl) (by omega)) (hd 13 rfl) <| jo_nil <| jc_litf rfl <| jc_skip <| zsr <| zmv rfl (hd 14 rfl) ?_
  refine jo_call Tryz.f85 (trim_s a (by omega)) rfl Tryz.func85 rfl rfl (ovL_cons rfl ovL_nil) (.cons .n .nil) (hd 15 rfl) ?_ (fun ch hp => by simp at hp)
  rintro _ ⟨⟩; refine zmv rfl (hd 16 rfl) ?_
  refine jo_call Tryz.f85 (trim_s b (by omega)) rfl Tryz.func85 rfl rfl (ovL_cons rfl ovL_nil) (.cons .n .nil) (hd 17 rfl) ?_ (fun ch hp => by simp at hp)
  rintro _ ⟨⟩; refine zas rfl (hd 0 rfl) <| zas rfl (hd 1 rfl) <| jo_nil <| zsr <| zmv rfl (hd 18 rfl) <| jo_l (ly_lenn sl28 rfl) (hd 19 rfl) <| jo_h (hy_mk (m := (trm a).length) el28 rfl rfl rfl (by show 8 * (trm a).length ≤ _; omega) (by unfold maxLen; omega) rfl) (hd 20 rfl) <| zas rfl (hd 6 rfl) <| jo_nil <| zsr <| zas rfl (hd 7 rfl) ?_; refine jo_nil <| jc_seq <| zsr <| zmv rfl (hd 21 rfl) <| jo_l (ly_lenn sl28 rfl) (hd 22 rfl) <| zmv rfl (hd 23 rfl) <| jo_nil <| jc_block ?_
  refine jc_loopF (G := Nat) (fun i => i ≤ (trm a).length) (fun i => [(7, .i .u64 (sbN (trm a) (trm b) i).2), (23, .i .i64 (i : Int)), (8, .u), (9, .u), (24, .u), (25, .u), (26, .u), (27, .u), (28, .u), (29, .u), (30, .u), (31, .u), (32, .u), (33, .u), (34, .u), (35, .u), (36, .u), (37, .u), (38, .u), (39, .u), (40, .u), (41, .u), (42, .u), (43, .u), (44, .u), (45, .u), (46, .u), (47, .u)]) (fun i => [⟨79, 1, 0, true, ints .u64 (fillI (sbN (trm a) (trm b) i).1 (trm a).length)⟩]) (fun i => (trm a).length - i) 0 ?_ ?_ rfl ?_
  · exact Nat.zero_le _
  · exact (.cons rfl (.cons rfl (.u (.u (.u (.u (.u (.u (.u (.u (.u (.u (.u (.u (.u (.u (.u (.u (.u (.u (.u (.u (.u (.u (.u (.u (.u (.u .nil))))))))))))))))))))))))))))
  · rintro i hc1
    have hf := fillI_len (l := (sbN (trm a) (trm b) i).1) (n := (trm a).length) (by rw [sbN_len]; omega)
    have hc := sbN_c (trm a) (trm b) i
    have hx := u64s_getD uX i
    have hy := u64s_getD uY i
    refine zsr <| jo_l (ly_lt rfl rfl) (hd 24 rfl) <| jo_nil <| jc_seq ?_
    refine jc_if rfl (fun h2 => ?_) (fun h2 => ?_)
    · refine jc_skip <| jc_seq <| jc_block <| zsr <| zmv rfl (hd 25 rfl) <| zas rfl (hd 8 rfl) <| jo_nil <| zsr <| zas rfl (hd 9 rfl) <| jo_nil ?_
      refine jc_meetH (G := Unit) (fun _ => True) (fun _ => [(9, .i .u64 ((trm b).getD i 0)), (26, .u), (27, .u), (28, .u), (29, .u), (30, .u), (31, .u), (32, .u), (33, .u)]) ?_ ?_
      · refine zsr <| zmv rfl (hd 26 rfl) <| zmv rfl (hd 27 rfl) <| jo_l (ly_lenn sl28 rfl) (hd 28 rfl) <| jo_l (ly_lt rfl rfl) (hd 29 rfl) <| jo_nil ?_
        refine jc_if rfl (fun h3 => ?_) (fun h3 => ?_)
        · refine jc_region <| zmv rfl (hd 30 rfl) <| zmv rfl (hd 31 rfl) <| jo_l (ly_ian (i := i) sl28 rfl rfl (by first | rfl | omega) (by omega)) (hd 32 rfl) <| jo_l (ly_ldq one82 rfl rfl) (hd 33 rfl) <| zas rfl (hd 9 rfl) <| jo_nil ?_
          refine ⟨(), ?_, rfl, cov_n 9 rfl rfl ?_⟩
          · trivial
          · exact (.cons (by first | rfl | (show some (V.i .u64 _) = some (V.i .u64 _); rw [getD_ge (by omega)])) (.u (.u (.u (.u (.u (.u (.u (.u .nil)))))))))
        · refine jc_skip ?_
          refine ⟨(), ?_, rfl, cov_n 4 rfl rfl ?_⟩
          · trivial
          · exact (.cons (by first | rfl | (show some (V.i .u64 _) = some (V.i .u64 _); rw [getD_ge (by omega)])) (.u (.u (.u (.u (.u (.u (.u (.u .nil)))))))))
      · rintro _ _; refine jc_region <| zmv rfl (hd 35 rfl) <| zmv rfl (hd 36 rfl) <| zmv rfl (hd 37 rfl) <| zmv rfl (hd 38 rfl) <| jo_l (ly_ian (i := i) sl28 rfl rfl (by first | rfl | omega) (by omega)) (hd 39 rfl) <| jo_l (ly_ldq one82 rfl rfl) (hd 40 rfl) <| zmv rfl (hd 41 rfl) <| zmv rfl (hd 42 rfl) <| jo_h (hy_ext3 (e := sub64Entry) Tryz.func113 rfl rfl (by kernel_rfl) (by kernel_rfl) rfl rfl rfl (fun w => run_sub64 _ _ _ hx.1 hx.2 hy.1 hy.2 hc.1 hc.2 w) rel_pair) (hd 43 rfl) <| zmv rfl (hd 34 rfl) <| jo_l (ly_ext rfl rfl) (hd 44 rfl) <| jo_l (ly_ext rfl rfl) (hd 45 rfl) ?_; refine jo_l (ly_ia (i := i) sl28 rfl rfl rfl (by first | rfl | omega) (by omega) rfl) (hd 46 rfl) <| jo_st (sy_storei rfl rfl rfl one82 (by omega)) <| zas rfl (hd 7 rfl) <| jo_nil <| jc_region <| jo_l (ly_add rfl rfl (wrap_i64 (by omega) (by omega))) (hd 47 rfl) <| zmv rfl (hd 23 rfl) <| jo_nil ?_
        refine ⟨i + 1, ?_, ?_, (by show [(⟨79, 1, 0, true, ints .u64 _⟩ : Ob)] = [⟨79, 1, 0, true, ints .u64 _⟩]; rw [fill_sb (by omega)]), cov_n 57 rfl rfl ?_⟩
        · omega
        · omega
        · exact (.cons rfl (.cons rfl (.u (.u (.u (.u (.u (.u (.u (.u (.u (.u (.u (.u (.u (.u (.u (.u (.u (.u (.u (.u (.u (.u (.u (.u (.u (.u .nil))))))))))))))))))))))))))))
    · refine jc_exit <| jc_seq ?_
      obtain rfl : i = (trm a).length := by omega
      refine jc_frz (k := .u64) (l' := difL a b) 6 rfl rfl (by rw [fillI_full (sbN_len _ _ _)]; simp [sbN_len]) (by rw [fillI_full (sbN_len _ _ _), List.drop_zero, List.take_of_length_le (by simp [sbN_len])]; rfl) hL <| jc_region <| zmv rfl (hd 48 rfl) ?_
      refine jo_call Tryz.f112 (told_big (difL a b) (by unfold difL; rw [sbN_len]; omega) (sbN_u uX uY _) h) rfl Tryz.func112 rfl rfl (ovL_cons rfl ovL_nil) (.cons .n .nil) (hd 49 rfl) ?_ (fun ch hp => by simp at hp)
      rintro _ ⟨⟩; refine jo_l (ly_ext rfl rfl) (hd 50 rfl) <| jo_l (ly_ext rfl rfl) (hd 51 rfl) <| zas rfl (hd 4 rfl) <| zas rfl (hd 5 rfl) <| jo_nil <| jc_ret ?_
      refine ⟨_, _, (.cons rfl (.cons rfl .nil)), (.t1 .n (.t1 .i .t0)), ?_⟩
      exact rfl


theorem rnorm_s (l : List Int) (hl : l.length < 1099511627776) : Spec Tryz.prog 78 [.n false .u64 l] (fun o => o = .ret (.n false .u64 (trm l))) := by
  refine spec_of' [(0, .n false .u64 l)] rfl Tryz.func78 rfl (zlb rfl) fun Γ hN hds hL hR => ?_
  have hd := hdOf 22 hN
  refine zsr <| zas rfl (hd 2 rfl) <| jo_nil <| zsr <| zmv rfl (hd 4 rfl) <| jo_l (ly_lenn sl33 rfl) (hd 5 rfl) <| zas rfl (hd 3 rfl) <| jo_nil <| jc_seq <| jc_block ?_
  refine jc_loopF (G := Nat) (fun k => k ≤ l.length ∧ tN l k = tN l l.length) (fun k => [(3, .i .i64 (k : Int)), (6, .u), (7, .u), (8, .u), (9, .u), (10, .u), (11, .u), (12, .u), (13, .u), (14, .u), (15, .u), (16, .u), (17, .u)]) (fun _ => _) (fun k => k) l.length ?_ ?_ rfl ?_
  · exact ⟨Nat.le_refl _, rfl⟩
  · exact (.cons rfl (.u (.u (.u (.u (.u (.u (.u (.u (.u (.u (.u (.u .nil)))))))))))))
  · rintro k ⟨hc1, hc2⟩; refine jc_seq <| zsr <| zmv rfl (hd 6 rfl) <| jo_l (ly_gt rfl rfl) (hd 7 rfl) <| zmv rfl (hd 8 rfl) ?_
    refine jo_ifp 8 rfl (fun h1 => ?_) (fun h1 => ?_)
    · refine jo_g 8 rfl rfl (ly_mv rfl) (hd 9 rfl) <| jo_g 8 rfl rfl (ly_mv rfl) (hd 10 rfl) <| jo_g 8 rfl rfl (ly_sub rfl rfl (wrap_i64 (by omega) (by omega))) (hd 11 rfl) <| jo_g 8 rfl rfl (ly_ian (i := k - 1) sl33 rfl rfl (by omega) (by omega)) (hd 12 rfl) <| jo_g 8 rfl rfl (ly_ldq one82 rfl rfl) (hd 13 rfl) <| jo_g 8 rfl rfl (ly_eq rfl rfl) (hd 14 rfl) <| jo_l (ly_pick_t rfl rfl) (hd 15 rfl) <| jo_nil ?_
      refine jc_if rfl (fun h2 => ?_) (fun h2 => ?_)
      · refine jc_skip <| jc_block <| jc_region <| zmv rfl (hd 16 rfl) <| jo_l (ly_sub rfl rfl (wrap_i64 (by omega) (by omega))) (hd 17 rfl) <| zas rfl (hd 3 rfl) <| jo_nil ?_
        refine ⟨k - 1, ?_, ?_, rfl, cov_n 27 rfl rfl ?_⟩
        · exact ⟨by omega, by rw [← hc2, tN_down (by omega) (by assumption)]⟩
        · omega
        · exact (.cons (by show some (V.i .i64 _) = some (V.i .i64 _); congr 2; omega) (.u (.u (.u (.u (.u (.u (.u (.u (.u (.u (.u (.u .nil)))))))))))))
      · refine jc_exit <| zsr <| zmv rfl (hd 18 rfl) <| zmv rfl (hd 19 rfl) <| zmv rfl (hd 20 rfl) <| jo_l (ly_sln sl33 rfl bnd_none (bnd_some' rfl (by first | rfl | omega)) (.inr ⟨k, bnd_some' rfl rfl, Nat.le_refl _, hc1, rfl⟩) (by omega) (by omega)) (hd 21 rfl) <| zas rfl (hd 2 rfl) <| jo_nil <| jc_ret ?_
        refine ⟨_, _, (.cons rfl .nil), .n, ?_⟩
        unfold trm
        rw [← hc2, tN_stop (by omega) (by assumption), List.drop_zero]
    · refine jo_s 8 rfl rfl rfl (hd 9 rfl) <| jo_s 8 rfl rfl rfl (hd 10 rfl) <| jo_s 8 rfl rfl rfl (hd 11 rfl) <| jo_s 8 rfl rfl rfl (hd 12 rfl) <| jo_s 8 rfl rfl rfl (hd 13 rfl) <| jo_s 8 rfl rfl rfl (hd 14 rfl) <| jo_l (ly_pick_f rfl rfl) (hd 15 rfl) <| jo_nil <| jc_litf rfl <| jc_exit <| zsr <| zmv rfl (hd 18 rfl) ?_; refine zmv rfl (hd 19 rfl) <| zmv rfl (hd 20 rfl) <| jo_l (ly_sln sl33 rfl bnd_none (bnd_some' rfl (by first | rfl | omega)) (.inr ⟨k, bnd_some' rfl rfl, Nat.le_refl _, hc1, rfl⟩) (by omega) (by omega)) (hd 21 rfl) <| zas rfl (hd 2 rfl) <| jo_nil <| jc_ret ?_
      refine ⟨_, _, (.cons rfl .nil), .n, ?_⟩
      unfold trm
      rw [← hc2, tN_0 (by omega), List.drop_zero]

theorem Zero_s (l : List Int) : Spec Tryz.prog 26 [.n false .u64 l] (fun o => o = .ret (.b (decide ((l.length : Int) = 0)))) := by
  refine spec_of' [(0, .n false .u64 l)] rfl Tryz.func26 rfl (zlb rfl) fun Γ hN hds hL hR => ?_
  have hd := hdOf 6 hN
  refine zsr <| zas rfl (hd 2 rfl) <| jo_nil <| zsr <| zmv rfl (hd 3 rfl) <| jo_l (ly_lenn sl33 rfl) (hd 4 rfl) <| jo_l (ly_eq rfl rfl) (hd 5 rfl) <| zas rfl (hd 2 rfl) <| jo_nil <| jc_ret ?_
  refine ⟨_, _, (.cons rfl .nil), .b, ?_⟩
  exact rfl

theorem rOf_s (l : List Int) (hl : l.length < 4294967296) (hu : u64s l) : Spec Tryz.prog 25 [.n false .u64 l] (fun o => o = .ret (.n false .u64 (trm (dig l)))) := by
  refine spec_of' [(0, .n false .u64 l)] rfl Tryz.func25 rfl (zlb rfl) fun Γ hN hds hL hR => ?_
  have hd := hdOf 26 hN
  refine zsr <| zas rfl (hd 2 rfl) <| jo_nil <| zsr <| zmv rfl (hd 6 rfl) <| jo_l (ly_lenn sl25 rfl) (hd 7 rfl) <| jo_l (ly_mul rfl rfl (wrap_i64 (by omega) (by omega))) (hd 8 rfl) <| jo_h (hy_mk0 (m := 2 * l.length) el33 rfl rfl (by omega) (by show 8 * (2 * l.length) ≤ _; omega) (by unfold maxLen; omega) rfl) (hd 9 rfl) <| zas rfl (hd 3 rfl) <| jo_nil <| jc_seq ?_; refine zsr <| zmv rfl (hd 10 rfl) <| jo_l (ly_lenn sl25 rfl) (hd 11 rfl) <| zmv rfl (hd 12 rfl) <| jo_nil <| jc_block ?_
  refine jc_loopD (G := Nat) 1 (fun g => g ≤ l.length) (fun g => [(3, .o 0 g 0 (2 * g)), (12, .i .i64 (g : Int)), (5, .u), (13, .u), (14, .u), (15, .u), (16, .u), (17, .u), (18, .u), (19, .u), (20, .u), (21, .u), (22, .u), (23, .u)]) (fun g => [⟨79, 1, g, true, ints .u64 (dig (l.take g))⟩]) (fun g => l.length - g) 0 ?_ ?_ rfl hR rfl (fun _ _ => rfl) (fun g _ => .cons ints_id .nil) ?_
  · exact Nat.zero_le _
  · exact (.cons rfl (.cons rfl (.u (.u (.u (.u (.u (.u (.u (.u (.u (.u (.u (.u .nil))))))))))))))
  · rintro i hc1
    have hx := u64s_getD hu i
    refine zsr <| jo_l (ly_lt rfl rfl) (hd 13 rfl) <| jo_nil <| jc_seq ?_
    refine jc_if rfl (fun h1 => ?_) (fun h1 => ?_)
    · refine jc_skip <| jc_seq <| jc_block <| zsr <| jo_l (ly_ian (i := i) sl25 rfl rfl (by first | rfl | omega) (by omega)) (hd 14 rfl) <| jo_l (ly_ldq one82 rfl rfl) (hd 15 rfl) <| zas rfl (hd 5 rfl) <| jo_nil <| jc_region <| zmv rfl (hd 16 rfl) <| zmv rfl (hd 17 rfl) <| jo_l (ly_is (ly_rem rfl rfl (by decide) rfl) (show V.i .u64 ((l.getD i 0).tmod 4294967296) = V.i .u64 ((l.getD i 0) % 4294967296) by rw [Int.tmod_eq_emod_of_nonneg hx.1])) (hd 18 rfl) ?_; refine zmv rfl (hd 19 rfl) <| jo_l (ly_quo rfl rfl (by decide) (r := (l.getD i 0) / 4294967296) (by show IntKind.u64.wrap (Int.tdiv (l.getD i 0) 4294967296) = _; rw [Int.tdiv_eq_ediv_of_nonneg hx.1]; exact wrap_u64 (by omega) (by omega))) (hd 20 rfl) <| jo_h (hy_lit (id := 1) (xs := [.tmp 18, .tmp 20]) el33 rfl (ovL_cons rfl (ovL_cons rfl ovL_nil)) rfl (all2_of rfl) (by decide) rfl) (hd 21 rfl) <| jo_app el33 rfl rfl (by rw [ints_length, dig_len, List.length_take, Nat.min_eq_left (by omega), Nat.mul_one]) rfl (src_o rfl rfl rfl) (by show (2 * i + 2) * 8 ≤ _; omega) (by unfold maxLen; omega) (hd 22 rfl) <| zas rfl (hd 3 rfl) <| jo_nil <| jc_region <| jo_l (ly_add rfl rfl (wrap_i64 (by omega) (by omega))) (hd 23 rfl) <| zmv rfl (hd 12 rfl) <| jo_nil ?_
      refine ⟨i + 1, ?_, ?_, (by show [(⟨79, 1, i + 1, true, ints .u64 (dig (l.take i)) ++ ints .u64 [_, _]⟩ : Ob)] = [⟨79, 1, i + 1, true, ints .u64 (dig (l.take (i + 1)))⟩]; rw [ints_append, dig_snoc (by omega)]), cov_n 28 rfl rfl ?_⟩
      · omega
      · omega
      · exact (.cons rfl (.cons rfl (.u (.u (.u (.u (.u (.u (.u (.u (.u (.u (.u (.u .nil))))))))))))))
    · refine jc_exit <| jc_seq ?_
      obtain rfl : i = l.length := by omega
      refine jc_region <| jo_frz (k := .u64) (l' := dig l) 3 rfl rfl (by rw [dig_len, List.length_take, Nat.min_self]; omega) (by rw [List.take_length, List.drop_zero, List.take_of_length_le (by rw [dig_len]; exact Nat.le_refl _)]) hL <| zmv rfl (hd 24 rfl) ?_
      refine jo_call Tryz.f78 (rnorm_s (dig l) (by rw [dig_len]; omega)) rfl Tryz.func78 rfl rfl (ovL_cons rfl ovL_nil) (.cons .n .nil) (hd 25 rfl) ?_ (fun ch hp => by simp at hp)
      rintro _ ⟨⟩; refine zas rfl (hd 2 rfl) <| jo_nil <| jc_ret ?_
      refine ⟨_, _, (.cons rfl .nil), .n, ?_⟩
      exact rfl




theorem norm_s (s : Bool) (l : List Int) (hl : l.length < 1099511627776) : Spec Tryz.prog 82 [.a [.b s, .n false .u64 l]] (fun o => o = .ret (.a [.b (s && decide (0 < ((trm l).length : Int))), .n true .u64 (trm l)])) := by
  refine spec_of' [(0, .a [.b s, .n false .u64 l])] rfl Tryz.func82 rfl (zlb rfl) fun Γ hN hds hL hR => ?_
  have hd := hdOf 16 hN
  refine zsr <| jo_h (hy_box (id := 0) (n := 2) rfl rfl rfl (by decide) rfl) (hd 1 rfl) <| jo_h (hy_alloc (id := 1) zero30 (by decide) rfl (by decide) rfl) (hd 2 rfl) <| jo_nil <| zsr <| jo_l (ly_fa fld30_1 rfl rfl rfl) (hd 4 rfl) <| jo_l (ly_ld one28 rfl rfl rfl) (hd 5 rfl) ?_
  refine jo_call Tryz.f51 (Norm_s l hl) rfl Tryz.func51 rfl rfl (ovL_cons rfl ovL_nil) (.cons .n .nil) (hd 6 rfl) ?_ (fun ch hp => by simp at hp)
  rintro _ ⟨⟩; refine zas rfl (hd 3 rfl) <| jo_nil <| zsr <| jo_l (ly_fa fld30_0 rfl rfl rfl) (hd 7 rfl) <| jo_l (ly_ld one4 rfl rfl rfl) (hd 8 rfl) <| zmv rfl (hd 9 rfl) ?_
  refine jo_split 9 rfl (fun h1 => ?_) (fun h1 => ?_)
  · refine jo_g 9 rfl rfl (ly_mv rfl) (hd 10 rfl) <| jo_g 9 rfl rfl (ly_lenn sl28 rfl) (hd 11 rfl) <| jo_g 9 rfl rfl (ly_gt rfl rfl) (hd 12 rfl) <| jo_l (ly_pick_t rfl rfl) (hd 13 rfl) <| zmv rfl (hd 14 rfl) <| jo_l (ly_build (is := [0, 1]) (xs := [.tmp 13, .tmp 14]) zero30 pls30_0_1 rfl (ovL_cons rfl (ovL_cons rfl ovL_nil)) rfl (by first | (simp [plsOk, cellsV]; done) | (simp [plsOk, cellsV, old]; done)) (all_of rfl) rfl) (hd 15 rfl) <| jo_st (sy_store rfl rfl rfl siz30 rfl rfl (zlb rfl)) <| jo_nil <| jc_ret ?_
    refine ⟨_, _, (.cons (ResV.cell agg30 rfl rfl rfl rfl) .nil), (.a1 .b (.a1 .n .a0)), ?_⟩
    simp_all
  · refine jo_s 9 rfl rfl rfl (hd 10 rfl) <| jo_s 9 rfl rfl rfl (hd 11 rfl) <| jo_s 9 rfl rfl rfl (hd 12 rfl) <| jo_l (ly_pick_f rfl rfl) (hd 13 rfl) <| zmv rfl (hd 14 rfl) <| jo_l (ly_build (is := [0, 1]) (xs := [.tmp 13, .tmp 14]) zero30 pls30_0_1 rfl (ovL_cons rfl (ovL_cons rfl ovL_nil)) rfl (by first | (simp [plsOk, cellsV]; done) | (simp [plsOk, cellsV, old]; done)) (all_of rfl) rfl) (hd 15 rfl) <| jo_st (sy_store rfl rfl rfl siz30 rfl rfl (zlb rfl)) <| jo_nil <| jc_ret ?_
    refine ⟨_, _, (.cons (ResV.cell agg30 rfl rfl rfl rfl) .nil), (.a1 .b (.a1 .n .a0)), ?_⟩
    simp_all

theorem fits_ok (s : Bool) (l : List Int) (hl : l.length < 1099511627776) (hu : u64s l) (h : lenN l ≤ 67108864) : Spec Tryz.prog 110 [.a [.b s, .n false .u64 l]] (fun o => o = .ret (.t [.a [.b (s && decide (0 < ((trm l).length : Int))), .n true .u64 (trm l)], .i .i64 0])) := by
  refine spec_of' [(0, .a [.b s, .n false .u64 l])] rfl Tryz.func110 rfl (zlb rfl) fun Γ hN hds hL hR => ?_
  have hd := hdOf 11 hN
  refine zsr <| jo_h (hy_box (id := 0) (n := 2) rfl rfl rfl (by decide) rfl) (hd 1 rfl) <| jo_h (hy_alloc (id := 1) zero30 (by decide) rfl (by decide) rfl) (hd 2 rfl) <| zas rfl (hd 3 rfl) <| jo_nil <| jc_seq <| zsr <| jo_l (ly_fa fld30_1 rfl rfl rfl) (hd 4 rfl) <| jo_l (ly_ld one28 rfl rfl rfl) (hd 5 rfl) ?_
  refine jo_call Tryz.f39 (Length_s l hl hu) rfl Tryz.func39 rfl rfl (ovL_cons rfl ovL_nil) (.cons .n .nil) (hd 6 rfl) ?_ (fun ch hp => by simp at hp)
  rintro _ ⟨⟩; refine jo_l (ly_ff (ly_gt rfl rfl) (by omega)) (hd 7 rfl) <| jo_nil <| jc_litf rfl <| jc_skip <| zsr <| jo_l (ly_lda agg30 rfl rfl rfl rfl) (hd 9 rfl) ?_
  refine jo_call Tryz.f82 (norm_s s l hl) rfl Tryz.func82 rfl rfl (ovL_cons rfl ovL_nil) (.cons (.a1 .b (.a1 .n .a0)) .nil) (hd 10 rfl) ?_ (fun ch hp => by simp at hp)
  rintro _ ⟨⟩; refine jo_st (sy_store rfl rfl rfl siz30 rfl rfl (zlb rfl)) <| zas rfl (hd 3 rfl) <| jo_nil <| jc_ret ?_
  refine ⟨_, _, (.cons (ResV.cell agg30 rfl rfl rfl rfl) (.cons rfl .nil)), (.t1 (.a1 .b (.a1 .n .a0)) (.t1 .i .t0)), ?_⟩
  exact rfl

theorem result_ok (s : Bool) (l : List Int) (hl : l.length < 1099511627776) (hu : u64s l) (h : lenN l ≤ 67108864) : Spec Tryz.prog 81 [.b s, .n false .u64 l, .i .i64 0] (fun o => o = .ret (.t [.a [.b (s && decide (0 < ((trm l).length : Int))), .n true .u64 (trm l)], .i .i64 0])) := by
  refine spec_of' [(0, .b s), (1, .n false .u64 l), (2, .i .i64 0)] rfl Tryz.func81 rfl (zlb rfl) fun Γ hN hds hL hR => ?_
  have hd := hdOf 18 hN
  refine zsr <| jo_h (hy_alloc (id := 0) zero30 (by decide) rfl (by decide) rfl) (hd 6 rfl) <| zas rfl (hd 7 rfl) <| jo_nil <| jc_seq <| zsr <| zmv rfl (hd 8 rfl) <| jo_l (ly_ff (ly_ne rfl rfl) (by simp)) (hd 9 rfl) <| jo_nil <| jc_litf rfl <| jc_skip ?_; refine zsr <| zmv rfl (hd 12 rfl) <| zmv rfl (hd 13 rfl) <| jo_l (ly_build (is := [0, 1]) (xs := [.tmp 12, .tmp 13]) zero30 pls30_0_1 rfl (ovL_cons rfl (ovL_cons rfl ovL_nil)) rfl (by first | (simp [plsOk, cellsV]; done) | (simp [plsOk, cellsV, old]; done)) (all_of rfl) rfl) (hd 14 rfl) ?_
  refine jo_call Tryz.f110 (fits_ok s l hl hu h) rfl Tryz.func110 rfl rfl (ovL_cons rfl ovL_nil) (.cons (.a1 .b (.a1 .n .a0)) .nil) (hd 15 rfl) ?_ (fun ch hp => by simp at hp)
  rintro _ ⟨⟩; refine jo_l (ly_ext rfl rfl) (hd 16 rfl) <| jo_l (ly_ext rfl rfl) (hd 17 rfl) <| jo_st (sy_store rfl rfl rfl siz30 rfl rfl (zlb rfl)) <| zas rfl (hd 7 rfl) <| jo_nil <| jc_ret ?_
  refine ⟨_, _, (.cons (ResV.cell agg30 rfl rfl rfl rfl) (.cons rfl .nil)), (.t1 (.a1 .b (.a1 .n .a0)) (.t1 .i .t0)), ?_⟩
  exact rfl

theorem Of_neg (v : Int) (h0 : v < 0) (h1 : -9223372036854775808 ≤ v) : Spec Tryz.prog 87 [.i .i64 v] (fun o => o = .ret (.a [.b true, .n true .u64 [-v]])) := by
  refine spec_of' [(0, .i .i64 v)] rfl Tryz.func87 rfl (zlb rfl) fun Γ hN hds hL hR => ?_
  have hd := hdOf 14 hN
  have rF : Spec Tryz.prog 68 [.i .u64 (-v)] (fun o => o = .ret (.n true .u64 [-v])) := by have h := From_s (-v); rwa [if_neg (by omega)] at h
  refine zsr <| jo_h (hy_alloc (id := 0) zero30 (by decide) rfl (by decide) rfl) (hd 2 rfl) <| jo_nil <| jc_seq <| zsr <| zmv rfl (hd 3 rfl) <| jo_l (ly_tt (ly_lt rfl rfl) (by omega)) (hd 4 rfl) <| jo_nil <| jc_litt rfl <| jc_seq <| jc_region ?_; refine zmv rfl (hd 5 rfl) <| jo_l (ly_conv und3 und82 rfl (r := v + 18446744073709551616) (wrap_u64' (by omega) (by omega) (by omega))) (hd 6 rfl) <| jo_l (ly_neg rfl (r := -v) (wrap_u64' (by omega) (by omega) (by omega))) (hd 7 rfl) ?_
  refine jo_call Tryz.f68 (rF) rfl Tryz.func68 rfl rfl (ovL_cons rfl ovL_nil) (.cons .i .nil) (hd 8 rfl) ?_ (fun ch hp => by simp at hp)
  rintro _ ⟨⟩; refine jo_l (ly_build (is := [0, 1]) (xs := [.const (.bool true), .tmp 8]) zero30 pls30_0_1 rfl (ovL_cons rfl (ovL_cons rfl ovL_nil)) rfl (by first | (simp [plsOk, cellsV]; done) | (simp [plsOk, cellsV, old]; done)) (all_of rfl) rfl) (hd 9 rfl) <| jo_st (sy_store rfl rfl rfl siz30 rfl rfl (zlb rfl)) <| jo_nil <| jc_ret ?_
  refine ⟨_, _, (.cons (ResV.cell agg30 rfl rfl rfl rfl) .nil), (.a1 .b (.a1 .n .a0)), ?_⟩
  exact rfl

theorem Of_pos (v : Int) (h0 : 0 < v) (h1 : v < 9223372036854775808) : Spec Tryz.prog 87 [.i .i64 v] (fun o => o = .ret (.a [.b false, .n true .u64 [v]])) := by
  refine spec_of' [(0, .i .i64 v)] rfl Tryz.func87 rfl (zlb rfl) fun Γ hN hds hL hR => ?_
  have hd := hdOf 14 hN
  have rF : Spec Tryz.prog 68 [.i .u64 v] (fun o => o = .ret (.n true .u64 [v])) := by have h := From_s v; rwa [if_neg (by omega)] at h
  refine zsr <| jo_h (hy_alloc (id := 0) zero30 (by decide) rfl (by decide) rfl) (hd 2 rfl) <| jo_nil <| jc_seq <| zsr <| zmv rfl (hd 3 rfl) <| jo_l (ly_ff (ly_lt rfl rfl) (by omega)) (hd 4 rfl) <| jo_nil <| jc_litf rfl <| jc_skip <| jc_seq ?_; refine jc_region <| zmv rfl (hd 10 rfl) <| jo_l (ly_conv und3 und82 rfl (wrap_u64 (by omega) (by omega))) (hd 11 rfl) ?_
  refine jo_call Tryz.f68 (rF) rfl Tryz.func68 rfl rfl (ovL_cons rfl ovL_nil) (.cons .i .nil) (hd 12 rfl) ?_ (fun ch hp => by simp at hp)
  rintro _ ⟨⟩; refine jo_l (ly_build (is := [1]) (xs := [.tmp 12]) zero30 pls30_1 rfl (ovL_cons rfl ovL_nil) rfl (by first | (simp [plsOk, cellsV]; done) | (simp [plsOk, cellsV, old]; done)) (all_of rfl) rfl) (hd 13 rfl) <| jo_st (sy_store rfl rfl rfl siz30 rfl rfl (zlb rfl)) <| jo_nil <| jc_ret ?_
  refine ⟨_, _, (.cons (ResV.cell agg30 rfl rfl rfl rfl) .nil), (.a1 .b (.a1 .n .a0)), ?_⟩
  exact rfl

set_option maxRecDepth 100000 in
theorem ways_s  : Spec Tryz.prog 127 [] (fun o => o = .ret (.a [.f 131 [], .f 132 [], .f 133 [], .f 134 [], .f 136 []])) := by
  refine spec_of' [] rfl Tryz.func127 rfl (zlb rfl) fun Γ hN hds hL hR => ?_
  have hd := hdOf 2 hN
  refine zsr <| jo_h (hy_alloc (id := 0) zero102 (by decide) rfl (by decide) rfl) (hd 0 rfl) <| jo_nil <| zsr <| jo_l (ly_const (v := .agg #[.func (.func 131) #[] #[], .func (.func 132) #[] #[], .func (.func 133) #[] #[], .func (.func 134) #[] #[], .func (.func 136) #[] #[]]) (y := .a [.f 131 [], .f 132 [], .f 133 [], .f 134 [], .f 136 []]) (fun _ _ _ _ => ⟨[.func (.func 131) #[] #[], .func (.func 132) #[] #[], .func (.func 133) #[] #[], .func (.func 134) #[] #[], .func (.func 136) #[] #[]], rfl, _, _, rfl, ⟨[], rfl, rfl⟩, _, _, rfl, ⟨[], rfl, rfl⟩, _, _, rfl, ⟨[], rfl, rfl⟩, _, _, rfl, ⟨[], rfl, rfl⟩, _, _, rfl, ⟨[], rfl, rfl⟩, rfl⟩) (by intro a dst type pos after g w2; kernel_rfl)) (hd 1 rfl) <| jo_st (sy_store rfl rfl rfl siz102 rfl rfl (zlb rfl)) <| jo_nil <| jc_ret ?_
  refine ⟨_, _, (.cons (ResV.cell agg102 rfl rfl rfl rfl) .nil), (.a1 .f (.a1 .f (.a1 .f (.a1 .f (.a1 .f .a0))))), ?_⟩
  exact rfl


theorem Mul64_s (x y : Int) (hx0 : 0 ≤ x) (hx : x < 18446744073709551616) (hy0 : 0 ≤ y) (hy : y < 18446744073709551616) : Spec Tryz.prog 128 [.i .u64 x, .i .u64 y] (fun o => o = .ret (.t [.i .u64 (x * y / 18446744073709551616), .i .u64 (x * y % 18446744073709551616)])) := by
  refine spec_of' [(0, .i .u64 x), (1, .i .u64 y)] rfl Tryz.func128 rfl (zlb rfl) fun Γ hN hds hL hR => ?_
  have hd := hdOf 51 hN
  have hM := mul64_val hx0 hx hy0 hy
  dsimp only at hM
  obtain ⟨b00, b10, b01, b11, hhi⟩ := hM
  refine zsr <| zas rfl (hd 4 rfl) <| zas rfl (hd 5 rfl) <| jo_nil <| zsr <| zmv rfl (hd 14 rfl) <| jo_l (ly_is (ly_bit (by simp) rfl rfl rfl) (show V.i .u64 (bitop .and .u64 (x) 4294967295) = V.i .u64 (x % 4294967296) by rw [and32 hx0 hx])) (hd 15 rfl) <| zas rfl (hd 6 rfl) <| jo_nil <| jc_seq <| jc_region ?_; refine zmv rfl (hd 16 rfl) <| jo_l (ly_is (ly_shr rfl rfl (by omega) rfl) (show V.i .u64 _ = V.i .u64 (x / 4294967296) from congrArg _ (shr32 hx0))) (hd 17 rfl) <| zas rfl (hd 7 rfl) <| jo_nil <| zsr <| zmv rfl (hd 18 rfl) <| jo_l (ly_is (ly_bit (by simp) rfl rfl rfl) (show V.i .u64 (bitop .and .u64 (y) 4294967295) = V.i .u64 (y % 4294967296) by rw [and32 hy0 hy])) (hd 19 rfl) <| zas rfl (hd 8 rfl) <| jo_nil <| zsr <| zmv rfl (hd 20 rfl) ?_; refine jo_l (ly_is (ly_shr rfl rfl (by omega) rfl) (show V.i .u64 _ = V.i .u64 (y / 4294967296) from congrArg _ (shr32 hy0))) (hd 21 rfl) <| zas rfl (hd 9 rfl) <| jo_nil <| zsr <| zmv rfl (hd 22 rfl) <| zmv rfl (hd 23 rfl) <| jo_l (ly_mul rfl rfl (wrap_u64 (by omega) (by omega))) (hd 24 rfl) <| zas rfl (hd 10 rfl) <| jo_nil <| zsr <| zmv rfl (hd 25 rfl) ?_; refine zmv rfl (hd 26 rfl) <| jo_l (ly_mul rfl rfl (wrap_u64 (by omega) (by omega))) (hd 27 rfl) <| zmv rfl (hd 28 rfl) <| jo_l (ly_is (ly_shr rfl rfl (by omega) rfl) (show V.i .u64 _ = V.i .u64 (x % 4294967296 * (y % 4294967296) / 4294967296) from congrArg _ (shr32 b00.1))) (hd 29 rfl) <| jo_l (ly_add rfl rfl (wrap_u64 (by omega) (by omega))) (hd 30 rfl) <| zas rfl (hd 11 rfl) <| jo_nil <| zsr <| zmv rfl (hd 31 rfl) <| jo_l (ly_is (ly_bit (by simp) rfl rfl rfl) (show V.i .u64 (bitop .and .u64 ((x / 4294967296 * (y % 4294967296) + x % 4294967296 * (y % 4294967296) / 4294967296)) 4294967295) = V.i .u64 ((x / 4294967296 * (y % 4294967296) + x % 4294967296 * (y % 4294967296) / 4294967296) % 4294967296) by rw [and32 (by omega) (by omega)])) (hd 32 rfl) <| zas rfl (hd 12 rfl) <| jo_nil ?_; refine zsr <| zmv rfl (hd 33 rfl) <| jo_l (ly_is (ly_shr rfl rfl (by omega) rfl) (show V.i .u64 _ = V.i .u64 ((x / 4294967296 * (y % 4294967296) + x % 4294967296 * (y % 4294967296) / 4294967296) / 4294967296) from congrArg _ (shr32 (by omega)))) (hd 34 rfl) <| zas rfl (hd 13 rfl) <| jo_nil <| zsr <| zmv rfl (hd 35 rfl) <| zmv rfl (hd 36 rfl) <| zmv rfl (hd 37 rfl) <| jo_l (ly_mul rfl rfl (wrap_u64 (by omega) (by omega))) (hd 38 rfl) <| jo_l (ly_add rfl rfl (wrap_u64 (by omega) (by omega))) (hd 39 rfl) ?_; refine zas rfl (hd 12 rfl) <| jo_nil <| zsr <| zmv rfl (hd 40 rfl) <| zmv rfl (hd 41 rfl) <| jo_l (ly_mul rfl rfl (wrap_u64 (by omega) (by omega))) (hd 42 rfl) <| zmv rfl (hd 43 rfl) <| jo_l (ly_add rfl rfl (wrap_u64 (by omega) (by omega))) (hd 44 rfl) <| zmv rfl (hd 45 rfl) <| jo_l (ly_is (ly_shr rfl rfl (by omega) rfl) (show V.i .u64 _ = V.i .u64 (((x / 4294967296 * (y % 4294967296) + x % 4294967296 * (y % 4294967296) / 4294967296) % 4294967296 + x % 4294967296 * (y / 4294967296)) / 4294967296) from congrArg _ (shr32 (by omega)))) (hd 46 rfl) <| jo_l (ly_add rfl rfl (wrap_u64 (by omega) (by omega))) (hd 47 rfl) ?_
  refine zas rfl (hd 4 rfl) <| jo_nil <| zsr <| zmv rfl (hd 48 rfl) <| zmv rfl (hd 49 rfl) <| jo_l (ly_mul rfl rfl (r := x * y % 18446744073709551616) u64_wrap_mod) (hd 50 rfl) <| zas rfl (hd 5 rfl) <| jo_nil <| jc_ret ?_
  refine ⟨_, _, (.cons rfl (.cons rfl .nil)), (.t1 .i (.t1 .i .t0)), ?_⟩
  rw [hhi]

theorem school_s (a b : List Int) (hla : a.length < 1099511627776) (hlb : b.length < 1099511627776) (ua : u64s a) (ub : u64s b) : Spec Tryz.prog 116 [.n false .u64 a, .n false .u64 b] (fun o => ∃ r, o = .ret (.n true .u64 r) ∧ u64s r ∧ r.length = a.length + b.length ∧ vl r = vl a * vl b) := by
  refine spec_of' [(0, .n false .u64 a), (1, .n false .u64 b)] rfl Tryz.func116 rfl (zlb rfl) fun Γ hN hds hL hR => ?_
  have hd := hdOf 78 hN
  refine zsr <| zas rfl (hd 4 rfl) <| jo_nil <| zsr <| zmv rfl (hd 14 rfl) <| jo_l (ly_lenn sl28 rfl) (hd 15 rfl) <| zmv rfl (hd 16 rfl) <| jo_l (ly_lenn sl28 rfl) (hd 17 rfl) <| jo_l (ly_add rfl rfl (r := ((a.length + b.length : Nat) : Int)) (by rw [wrap_i64 (by omega) (by omega)]; omega)) (hd 18 rfl) <| jo_h (hy_mk (m := a.length + b.length) el28 rfl rfl rfl (by show 8 * (a.length + b.length) ≤ _; omega) (by unfold maxLen; omega) rfl) (hd 19 rfl) <| zas rfl (hd 5 rfl) ?_; refine jo_nil <| jc_seq <| zsr <| zmv rfl (hd 20 rfl) <| jo_l (ly_lenn sl28 rfl) (hd 21 rfl) <| zmv rfl (hd 22 rfl) <| jo_nil <| jc_block ?_
  refine jc_loopF (G := Nat × List Int) (fun g => g.1 ≤ a.length ∧ g.2.length = a.length + b.length ∧ u64s g.2 ∧ vl g.2 = vk a g.1 * vl b ∧ ∀ j, g.1 + b.length ≤ j → g.2.getD j 0 = 0) (fun g => [(22, .i .i64 (g.1 : Int)), (6, .u), (7, .u), (8, .u), (9, .u), (10, .u), (11, .u), (12, .u), (13, .u), (23, .u), (24, .u), (25, .u), (26, .u), (27, .u), (28, .u), (29, .u), (30, .u), (31, .u), (32, .u), (33, .u), (34, .u), (35, .u), (36, .u), (37, .u), (38, .u), (39, .u), (40, .u), (41, .u), (42, .u), (43, .u), (44, .u), (45, .u), (46, .u), (47, .u), (48, .u), (49, .u), (50, .u), (51, .u), (52, .u), (53, .u), (54, .u), (55, .u), (56, .u), (57, .u), (58, .u), (59, .u), (60, .u), (61, .u), (62, .u), (63, .u), (64, .u), (65, .u), (66, .u), (67, .u), (68, .u), (69, .u), (70, .u), (71, .u), (72, .u), (73, .u), (74, .u), (75, .u), (76, .u)]) (fun g => [⟨79, 1, 0, true, ints .u64 g.2⟩]) (fun g => a.length - g.1) (0, List.replicate (a.length + b.length) 0) ?_ ?_ rfl ?_
  · exact ⟨Nat.zero_le _, List.length_replicate, u64s_zeros _, by rw [vl_zeros, vk_0, Int.zero_mul], fun j _ => getD_zeros _ j⟩
  · exact (.cons rfl (.u (.u (.u (.u (.u (.u (.u (.u (.u (.u (.u (.u (.u (.u (.u (.u (.u (.u (.u (.u (.u (.u (.u (.u (.u (.u (.u (.u (.u (.u (.u (.u (.u (.u (.u (.u (.u (.u (.u (.u (.u (.u (.u (.u (.u (.u (.u (.u (.u (.u (.u (.u (.u (.u (.u (.u (.u (.u (.u (.u (.u (.u .nil)))))))))))))))))))))))))))))))))))))))))))))))))))))))))))))))
  · rintro ⟨i, r⟩ ⟨hc1, hc2, hc3, hc4, hc5⟩
    dsimp only at hc1 hc2 hc3 hc4 hc5
    have hX := u64s_getD ua i
    refine zsr <| jo_l (ly_lt rfl rfl) (hd 23 rfl) <| jo_nil <| jc_seq ?_
    refine jc_if rfl (fun h1 => ?_) (fun h1 => ?_)
    · refine jc_skip <| jc_seq <| jc_block <| zsr <| zmv rfl (hd 24 rfl) <| jo_l (ly_ian (i := i) sl28 rfl rfl (by first | rfl | omega) (by omega)) (hd 25 rfl) <| jo_l (ly_ldq one82 rfl rfl) (hd 26 rfl) <| zas rfl (hd 6 rfl) <| zas rfl (hd 7 rfl) <| jo_nil <| jc_seq <| jc_region ?_; refine zas rfl (hd 8 rfl) <| jo_nil <| jc_seq <| zsr <| zmv rfl (hd 27 rfl) <| jo_l (ly_lenn sl28 rfl) (hd 28 rfl) <| zmv rfl (hd 29 rfl) <| jo_nil <| jc_block ?_
      refine jc_loopF (G := Nat × List Int × Int) (fun g => g.1 ≤ b.length ∧ g.2.1.length = a.length + b.length ∧ u64s g.2.1 ∧ (0 ≤ g.2.2 ∧ g.2.2 < 18446744073709551616) ∧ vl g.2.1 + g.2.2 * pB (i + g.1) = vl r + a.getD i 0 * pB i * vk b g.1 ∧ ∀ j, i + b.length ≤ j → g.2.1.getD j 0 = 0) (fun g => [(8, .i .u64 g.2.2), (29, .i .i64 (g.1 : Int)), (9, .u), (10, .u), (11, .u), (12, .u), (13, .u), (30, .u), (31, .u), (32, .u), (33, .u), (34, .u), (35, .u), (36, .u), (37, .u), (38, .u), (39, .u), (40, .u), (41, .u), (42, .u), (43, .u), (44, .u), (45, .u), (46, .u), (47, .u), (48, .u), (49, .u), (50, .u), (51, .u), (52, .u), (53, .u), (54, .u), (55, .u), (56, .u), (57, .u), (58, .u), (59, .u), (60, .u), (61, .u), (62, .u), (63, .u), (64, .u), (65, .u), (66, .u), (67, .u), (68, .u)]) (fun g => [⟨79, 1, 0, true, ints .u64 g.2.1⟩]) (fun g => b.length - g.1) (0, r, 0) ?_ ?_ rfl ?_
      · exact ⟨Nat.zero_le _, hc2, hc3, ⟨Int.le_refl 0, by show (0 : Int) < _; decide⟩, by show vl r + 0 * _ = _ + _ * vk b 0; rw [vk_0, Int.mul_zero, Int.zero_mul], hc5⟩
      · exact (.cons rfl (.cons rfl (.u (.u (.u (.u (.u (.u (.u (.u (.u (.u (.u (.u (.u (.u (.u (.u (.u (.u (.u (.u (.u (.u (.u (.u (.u (.u (.u (.u (.u (.u (.u (.u (.u (.u (.u (.u (.u (.u (.u (.u (.u (.u (.u (.u .nil))))))))))))))))))))))))))))))))))))))))))))))
      · rintro ⟨k, q, c⟩ ⟨hd1, hd2, hd3, hd4, hd5, hd6⟩
        dsimp only at hd1 hd2 hd3 hd4 hd5 hd6
        have hY := u64s_getD ub k
        have hT := u64s_getD hd3 (i + k)
        have hP := mul_bd (m := 18446744073709551615) hX.1 hY.1 (by omega) (by omega)
        have hP2 : a.getD i 0 * b.getD k 0 ≤ 340282366920938463426481119284349108225 := by have := hP.2; simpa using this
        have hst := school_step (P := a.getD i 0 * b.getD k 0) (c := c) (t := q.getD (i + k) 0) hP.1 hP2 hd4.1 hd4.2 hT.1 hT.2
        obtain ⟨hs1, hs2, hs3, hs4, hs5⟩ := hst
        refine zsr <| jo_l (ly_lt rfl rfl) (hd 30 rfl) <| jo_nil <| jc_seq ?_
        refine jc_if rfl (fun h2 => ?_) (fun h2 => ?_)
        · refine jc_skip <| jc_seq <| jc_block <| zsr <| zmv rfl (hd 31 rfl) <| jo_l (ly_ian (i := k) sl28 rfl rfl (by first | rfl | omega) (by omega)) (hd 32 rfl) <| jo_l (ly_ldq one82 rfl rfl) (hd 33 rfl) <| zas rfl (hd 9 rfl) <| zas rfl (hd 10 rfl) <| jo_nil <| jc_seq <| jc_region ?_; refine zmv rfl (hd 35 rfl) <| zmv rfl (hd 36 rfl) ?_
          refine jo_call Tryz.f128 (Mul64_s (a.getD i 0) (b.getD k 0) hX.1 hX.2 hY.1 hY.2) rfl Tryz.func128 rfl rfl (ovL_cons rfl (ovL_cons rfl ovL_nil)) (.cons .i (.cons .i .nil)) (hd 37 rfl) ?_ (fun ch hp => by simp at hp)
          rintro _ ⟨⟩; refine zmv rfl (hd 34 rfl) <| jo_l (ly_ext rfl rfl) (hd 38 rfl) <| jo_l (ly_ext rfl rfl) (hd 39 rfl) <| zas rfl (hd 11 rfl) <| zas rfl (hd 12 rfl) <| jo_nil <| zsr <| zas rfl (hd 13 rfl) <| jo_nil <| zsr <| zmv rfl (hd 41 rfl) ?_; refine zmv rfl (hd 42 rfl) <| jo_h (hy_ext3 (e := add64Entry) Tryz.func111 rfl rfl (by kernel_rfl) (by kernel_rfl) rfl rfl rfl (fun w => run_add64 _ _ _ (by omega) hd4.1 (by decide) (by decide) w) rel_pair) (hd 43 rfl) <| zmv rfl (hd 40 rfl) <| jo_l (ly_ext rfl rfl) (hd 44 rfl) <| jo_l (ly_ext rfl rfl) (hd 45 rfl) <| zas rfl (hd 12 rfl) <| zas rfl (hd 13 rfl) <| jo_nil <| zsr <| zmv rfl (hd 46 rfl) <| zmv rfl (hd 47 rfl) <| jo_l (ly_add rfl rfl (wrap_u64 (by omega) (by omega))) (hd 48 rfl) ?_; refine zas rfl (hd 11 rfl) <| jo_nil <| zsr <| zmv rfl (hd 50 rfl) <| zmv rfl (hd 51 rfl) <| zmv rfl (hd 52 rfl) <| jo_l (ly_add rfl rfl (r := ((i + k : Nat) : Int)) (by rw [wrap_i64 (by omega) (by omega)]; omega)) (hd 53 rfl) <| zmv rfl (hd 54 rfl) <| zmv rfl (hd 55 rfl) <| zmv rfl (hd 56 rfl) <| jo_l (ly_add rfl rfl (r := ((i + k : Nat) : Int)) (by rw [wrap_i64 (by omega) (by omega)]; omega)) (hd 57 rfl) <| jo_l (ly_ia (i := i + k) sl28 rfl rfl rfl (by first | rfl | omega) (by omega) rfl) (hd 58 rfl) ?_; refine jo_l (ly_is (ly_ldi one82 rfl rfl (by dsimp only; omega)) (show V.i .u64 (q.getD ((0 + (i + k)) * 1) 0) = V.i .u64 (q.getD (i + k) 0) by rw [Nat.zero_add, Nat.mul_one])) (hd 59 rfl) <| zmv rfl (hd 60 rfl) <| jo_h (hy_ext3 (e := add64Entry) Tryz.func111 rfl rfl (by kernel_rfl) (by kernel_rfl) rfl rfl rfl (fun w => run_add64 _ _ _ hT.1 (by omega) (by decide) (by decide) w) rel_pair) (hd 61 rfl) <| zmv rfl (hd 49 rfl) <| jo_l (ly_ext rfl rfl) (hd 62 rfl) <| jo_l (ly_ext rfl rfl) (hd 63 rfl) <| jo_l (ly_ia (i := i + k) sl28 rfl rfl rfl (by first | rfl | omega) (by omega) rfl) (hd 64 rfl) <| jo_st (sy_storei rfl rfl rfl one82 (by dsimp only; omega)) <| zas rfl (hd 13 rfl) <| jo_nil <| jc_region <| zmv rfl (hd 65 rfl) <| zmv rfl (hd 66 rfl) ?_; refine jo_l (ly_add rfl rfl (wrap_u64 (by omega) (by omega))) (hd 67 rfl) <| zas rfl (hd 8 rfl) <| jo_nil <| jc_region <| jo_l (ly_add rfl rfl (wrap_i64 (by omega) (by omega))) (hd 68 rfl) <| zmv rfl (hd 29 rfl) <| jo_nil ?_
          refine ⟨(k + 1, q.set ((0 + (i + k)) * 1) ((q.getD (i + k) 0 + (a.getD i 0 * b.getD k 0 % 18446744073709551616 + c + 0) % 18446744073709551616 + 0) % 18446744073709551616), a.getD i 0 * b.getD k 0 / 18446744073709551616 + (a.getD i 0 * b.getD k 0 % 18446744073709551616 + c + 0) / 18446744073709551616 + (q.getD (i + k) 0 + (a.getD i 0 * b.getD k 0 % 18446744073709551616 + c + 0) % 18446744073709551616 + 0) / 18446744073709551616), ?_, ?_, rfl, cov_n 96 rfl rfl ?_⟩
          · refine ⟨by omega, by rw [List.length_set]; exact hd2, u64s_set hd3 (by omega) (by omega), ⟨hs3, hs4⟩, ?_, fun j hj => ?_⟩
            · exact school_in (by omega) (by rw [Nat.zero_add, Nat.mul_one]) rfl hd5 hs5
            · rw [Nat.zero_add, Nat.mul_one, getD_set (by omega)]; exact hd6 j hj
          · show b.length - (k + 1) < b.length - k
            omega
          · exact (.cons rfl (.cons rfl (.u (.u (.u (.u (.u (.u (.u (.u (.u (.u (.u (.u (.u (.u (.u (.u (.u (.u (.u (.u (.u (.u (.u (.u (.u (.u (.u (.u (.u (.u (.u (.u (.u (.u (.u (.u (.u (.u (.u (.u (.u (.u (.u (.u .nil))))))))))))))))))))))))))))))))))))))))))))))
        · obtain rfl : k = b.length := by omega
          refine jc_exit <| jc_region <| zmv rfl (hd 69 rfl) <| zmv rfl (hd 70 rfl) <| zmv rfl (hd 71 rfl) <| jo_l (ly_lenn sl28 rfl) (hd 72 rfl) <| jo_l (ly_add rfl rfl (r := ((i + b.length : Nat) : Int)) (by rw [wrap_i64 (by omega) (by omega)]; omega)) (hd 73 rfl) <| zmv rfl (hd 74 rfl) <| jo_l (ly_ia (i := i + b.length) sl28 rfl rfl rfl (by first | rfl | omega) (by omega) rfl) (hd 75 rfl) <| jo_st (sy_storei rfl rfl rfl one82 (by dsimp only; omega)) <| jo_nil <| jc_region <| jo_l (ly_add rfl rfl (wrap_i64 (by omega) (by omega))) (hd 76 rfl) ?_; refine zmv rfl (hd 22 rfl) <| jo_nil ?_
          refine ⟨(i + 1, q.set ((0 + (i + b.length)) * 1) c), ?_, ?_, rfl, cov_n 129 (by kernel_rfl) (by kernel_rfl) ?_⟩
          · exact ⟨by omega, by rw [List.length_set]; exact hd2, u64s_set hd3 hd4.1 hd4.2, school_row (by omega) (hd6 _ (Nat.le_refl _)) (by rw [Nat.zero_add, Nat.mul_one]) (by rw [hd5, hc4]), fun j hj => by rw [Nat.zero_add, Nat.mul_one, getD_set (by omega)]; exact hd6 j (by omega)⟩
          · show a.length - (i + 1) < a.length - i
            omega
          · exact (.cons rfl (.u (.u (.u (.u (.u (.u (.u (.u (.u (.u (.u (.u (.u (.u (.u (.u (.u (.u (.u (.u (.u (.u (.u (.u (.u (.u (.u (.u (.u (.u (.u (.u (.u (.u (.u (.u (.u (.u (.u (.u (.u (.u (.u (.u (.u (.u (.u (.u (.u (.u (.u (.u (.u (.u (.u (.u (.u (.u (.u (.u (.u (.u .nil)))))))))))))))))))))))))))))))))))))))))))))))))))))))))))))))
    · refine jc_exit <| zsr <| zmv rfl (hd 77 rfl) <| zas rfl (hd 4 rfl) <| jo_nil <| jc_ret ?_
      refine ⟨_, _, (.cons rfl .nil), (.o (l := r) rfl (by omega) rfl), ?_⟩
      rw [List.drop_zero, List.take_of_length_le (by omega)]
      exact ⟨r, rfl, hc3, hc2, by rw [hc4, vk_all (by omega)]⟩

theorem addAt_s (r b : List Int) (n at_ : Nat) (hr : r.length = n) (hn : n < 4398046511104) (hat : at_ < 4398046511104) (hlb : b.length < 4398046511104) (ur : u64s r) (ub : u64s b) (hfit : vl r + pB at_ * vl b < pB n) : SpecM Tryz.prog 117 [.o 0 0 0 n, .n false .u64 b, .i .i64 (at_ : Int)] ([⟨79, 1, 0, true, ints .u64 r⟩]) (fun o H' => o = .ret (.t []) ∧ ∃ r2, H' = [⟨79, 1, 0, true, ints .u64 r2⟩] ∧ r2.length = n ∧ u64s r2 ∧ vl r2 = vl r + pB at_ * vl b) := by
  refine specM_of [(0, .o 0 0 0 n), (1, .n false .u64 b), (2, .i .i64 (at_ : Int))] rfl (1) rfl Tryz.func117 rfl (zlb rfl) fun Γ hN hds => ?_
  have hd := hdOf 53 hN
  refine zsr <| zas rfl (hd 6 rfl) <| jo_nil <| zsr <| zmv rfl (hd 9 rfl) <| zas rfl (hd 7 rfl) <| jo_nil <| jc_block ?_
  refine jc_loopF (G := Nat × List Int × Int) (fun g => at_ ≤ g.1 ∧ g.1 ≤ n + at_ ∧ g.2.1.length = n ∧ u64s g.2.1 ∧ vl g.2.1 + g.2.2 * pB g.1 = vl r + pB at_ * vk b (g.1 - at_) ∧ 0 ≤ g.2.2 ∧ g.2.2 ≤ 1) (fun g => [(6, .i .u64 g.2.2), (7, .i .i64 (g.1 : Int)), (8, .u), (10, .u), (11, .u), (12, .u), (13, .u), (14, .u), (15, .u), (16, .u), (17, .u), (18, .u), (19, .u), (20, .u), (21, .u), (22, .u), (23, .u), (24, .u), (25, .u), (26, .u), (27, .u), (28, .u), (29, .u), (30, .u), (31, .u), (32, .u), (33, .u), (34, .u), (35, .u), (36, .u), (37, .u), (38, .u), (39, .u), (40, .u), (41, .u), (42, .u), (43, .u), (44, .u), (45, .u), (46, .u), (47, .u), (48, .u), (49, .u), (50, .u), (51, .u), (52, .u)]) (fun g => [⟨79, 1, 0, true, ints .u64 g.2.1⟩]) (fun g => n - g.1) (at_, r, 0) ?_ ?_ rfl ?_
  · exact ⟨Nat.le_refl _, by show at_ ≤ n + at_; omega, hr, ur, by show vl r + 0 * _ = _ + _ * vk b (at_ - at_); rw [Nat.sub_self, vk_0, Int.mul_zero, Int.zero_mul], Int.le_refl 0, (by decide : (0 : Int) ≤ 1)⟩
  · exact (.cons rfl (.cons rfl (.u (.u (.u (.u (.u (.u (.u (.u (.u (.u (.u (.u (.u (.u (.u (.u (.u (.u (.u (.u (.u (.u (.u (.u (.u (.u (.u (.u (.u (.u (.u (.u (.u (.u (.u (.u (.u (.u (.u (.u (.u (.u (.u (.u .nil))))))))))))))))))))))))))))))))))))))))))))))
  · rintro ⟨i, q, c⟩ ⟨hc1, hc0, hc3, hc4, hc5, hc6, hc7⟩
    dsimp only at hc1 hc0 hc3 hc4 hc5 hc6 hc7
    have hT := u64s_getD hc4 i
    have hY := u64s_getD ub (i - at_)
    refine jc_seq <| zsr <| zmv rfl (hd 10 rfl) <| zmv rfl (hd 11 rfl) <| jo_l (ly_leno sl28 rfl rfl) (hd 12 rfl) <| jo_l (ly_lt rfl rfl) (hd 13 rfl) <| zmv rfl (hd 14 rfl) ?_
    refine jo_ifp 14 rfl (fun h1 => ?_) (fun h1 => ?_)
    · refine jo_g 14 rfl rfl (ly_mv rfl) (hd 15 rfl) <| jo_g 14 rfl rfl (ly_mv rfl) (hd 16 rfl) <| jo_g 14 rfl rfl (ly_sub rfl rfl (r := ((i - at_ : Nat) : Int)) (by rw [wrap_i64 (by omega) (by omega)]; omega)) (hd 17 rfl) <| jo_g 14 rfl rfl (ly_mv rfl) (hd 18 rfl) <| jo_g 14 rfl rfl (ly_lenn sl28 rfl) (hd 19 rfl) <| jo_g 14 rfl rfl (ly_lt rfl rfl) (hd 20 rfl) <| jo_g 14 rfl rfl (ly_mv rfl) (hd 21 rfl) ?_
      refine jo_ifp 21 rfl (fun h2 => ?_) (fun h2 => ?_)
      · refine jo_s 21 rfl rfl rfl (hd 22 rfl) <| jo_s 21 rfl rfl rfl (hd 23 rfl) <| jo_g 14 rfl rfl (ly_pick_t rfl rfl) (hd 24 rfl) <| jo_l (ly_pick_t rfl rfl) (hd 25 rfl) <| jo_nil <| jc_litt rfl <| jc_skip <| jc_seq <| jc_block <| zsr <| zas rfl (hd 8 rfl) <| jo_nil ?_
        refine jc_meetH (G := Unit) (fun _ => True) (fun _ => [(8, .i .u64 (b.getD (i - at_) 0)), (28, .u), (29, .u), (30, .u), (31, .u), (32, .u), (33, .u), (34, .u), (35, .u), (36, .u), (37, .u), (38, .u), (39, .u)]) ?_ ?_
        · refine zsr <| zmv rfl (hd 28 rfl) <| zmv rfl (hd 29 rfl) <| jo_l (ly_sub rfl rfl (r := ((i - at_ : Nat) : Int)) (by rw [wrap_i64 (by omega) (by omega)]; omega)) (hd 30 rfl) <| zmv rfl (hd 31 rfl) <| jo_l (ly_lenn sl28 rfl) (hd 32 rfl) <| jo_l (ly_lt rfl rfl) (hd 33 rfl) <| jo_nil ?_
          refine jc_if rfl (fun h4 => ?_) (fun h4 => ?_)
          · refine jc_region <| zmv rfl (hd 34 rfl) <| zmv rfl (hd 35 rfl) <| zmv rfl (hd 36 rfl) <| jo_l (ly_sub rfl rfl (r := ((i - at_ : Nat) : Int)) (by rw [wrap_i64 (by omega) (by omega)]; omega)) (hd 37 rfl) <| jo_l (ly_ian (i := i - at_) sl28 rfl rfl (by first | rfl | omega) (by first | omega | (dsimp only; omega))) (hd 38 rfl) <| jo_l (ly_ldq one82 rfl rfl) (hd 39 rfl) <| zas rfl (hd 8 rfl) <| jo_nil ?_
            refine ⟨(), ?_, rfl, cov_n 13 rfl rfl ?_⟩
            · trivial
            · exact (.cons (by first | rfl | (show some (V.i .u64 _) = some (V.i .u64 _); rw [getD_ge (by omega)])) (.u (.u (.u (.u (.u (.u (.u (.u (.u (.u (.u (.u .nil)))))))))))))
          · refine jc_skip ?_
            refine ⟨(), ?_, rfl, cov_n 6 rfl rfl ?_⟩
            · trivial
            · exact (.cons (by first | rfl | (show some (V.i .u64 _) = some (V.i .u64 _); rw [getD_ge (by omega)])) (.u (.u (.u (.u (.u (.u (.u (.u (.u (.u (.u (.u .nil)))))))))))))
        · rintro _ _; refine jc_region <| zmv rfl (hd 41 rfl) <| zmv rfl (hd 42 rfl) <| zmv rfl (hd 43 rfl) <| zmv rfl (hd 44 rfl) <| jo_l (ly_ia (i := i) sl28 rfl rfl rfl (by first | rfl | omega) (by first | omega | (dsimp only; omega)) rfl) (hd 45 rfl) <| jo_l (ly_is (ly_ldi one82 rfl rfl (by first | omega | (dsimp only; omega))) (show V.i .u64 (q.getD ((0 + i) * 1) 0) = V.i .u64 (q.getD i 0) by rw [Nat.zero_add, Nat.mul_one])) (hd 46 rfl) <| zmv rfl (hd 47 rfl) <| zmv rfl (hd 48 rfl) <| jo_h (hy_ext3 (e := add64Entry) Tryz.func111 rfl rfl (by kernel_rfl) (by kernel_rfl) rfl rfl rfl (fun w => run_add64 _ _ _ hT.1 hY.1 hc6 hc7 w) rel_pair) (hd 49 rfl) <| zmv rfl (hd 40 rfl) <| jo_l (ly_ext rfl rfl) (hd 50 rfl) <| jo_l (ly_ext rfl rfl) (hd 51 rfl) ?_; refine jo_l (ly_ia (i := i) sl28 rfl rfl rfl (by first | rfl | omega) (by first | omega | (dsimp only; omega)) rfl) (hd 52 rfl) <| jo_st (sy_storei rfl rfl rfl one82 (by first | omega | (dsimp only; omega))) <| zas rfl (hd 6 rfl) <| jo_nil <| jc_region <| zmv rfl (hd 26 rfl) <| jo_l (ly_add rfl rfl (wrap_i64 (by first | omega | (dsimp only; omega)) (by first | omega | (dsimp only; omega)))) (hd 27 rfl) <| zas rfl (hd 7 rfl) <| jo_nil ?_
          refine ⟨(i + 1, q.set ((0 + i) * 1) ((q.getD i 0 + b.getD (i - at_) 0 + c) % 18446744073709551616), (q.getD i 0 + b.getD (i - at_) 0 + c) / 18446744073709551616), ?_, ?_, rfl, cov_n 95 rfl rfl ?_⟩
          · exact ⟨by omega, by omega, by rw [List.length_set]; exact hc3, u64s_set hc4 (by omega) (by omega), add_in (by omega) hc1 (by rw [Nat.zero_add, Nat.mul_one]) hc5 (by dsimp only; omega), by show 0 ≤ (q.getD i 0 + b.getD (i - at_) 0 + c) / 18446744073709551616; omega, by show (q.getD i 0 + b.getD (i - at_) 0 + c) / 18446744073709551616 ≤ 1; omega⟩
          · show n - (i + 1) < n - i
            omega
          · exact (.cons rfl (.cons rfl (.u (.u (.u (.u (.u (.u (.u (.u (.u (.u (.u (.u (.u (.u (.u (.u (.u (.u (.u (.u (.u (.u (.u (.u (.u (.u (.u (.u (.u (.u (.u (.u (.u (.u (.u (.u (.u (.u (.u (.u (.u (.u (.u (.u .nil))))))))))))))))))))))))))))))))))))))))))))))
      · refine jo_g 21 rfl rfl (ly_mv rfl) (hd 22 rfl) <| jo_g 21 rfl rfl (ly_gt rfl rfl) (hd 23 rfl) <| jo_g 14 rfl rfl (ly_pick_f rfl rfl) (hd 24 rfl) <| jo_l (ly_pick_t rfl rfl) (hd 25 rfl) <| jo_nil ?_
        refine jc_if rfl (fun h5 => ?_) (fun h5 => ?_)
        · refine jc_skip <| jc_seq <| jc_block <| zsr <| zas rfl (hd 8 rfl) <| jo_nil ?_
          refine jc_meetH (G := Unit) (fun _ => True) (fun _ => [(8, .i .u64 (b.getD (i - at_) 0)), (28, .u), (29, .u), (30, .u), (31, .u), (32, .u), (33, .u), (34, .u), (35, .u), (36, .u), (37, .u), (38, .u), (39, .u)]) ?_ ?_
          · refine zsr <| zmv rfl (hd 28 rfl) <| zmv rfl (hd 29 rfl) <| jo_l (ly_sub rfl rfl (r := ((i - at_ : Nat) : Int)) (by rw [wrap_i64 (by omega) (by omega)]; omega)) (hd 30 rfl) <| zmv rfl (hd 31 rfl) <| jo_l (ly_lenn sl28 rfl) (hd 32 rfl) <| jo_l (ly_lt rfl rfl) (hd 33 rfl) <| jo_nil ?_
            refine jc_if rfl (fun h6 => ?_) (fun h6 => ?_)
            · refine jc_region <| zmv rfl (hd 34 rfl) <| zmv rfl (hd 35 rfl) <| zmv rfl (hd 36 rfl) <| jo_l (ly_sub rfl rfl (r := ((i - at_ : Nat) : Int)) (by rw [wrap_i64 (by omega) (by omega)]; omega)) (hd 37 rfl) <| jo_l (ly_ian (i := i - at_) sl28 rfl rfl (by first | rfl | omega) (by first | omega | (dsimp only; omega))) (hd 38 rfl) <| jo_l (ly_ldq one82 rfl rfl) (hd 39 rfl) <| zas rfl (hd 8 rfl) <| jo_nil ?_
              refine ⟨(), ?_, rfl, cov_n 13 rfl rfl ?_⟩
              · trivial
              · exact (.cons (by first | rfl | (show some (V.i .u64 _) = some (V.i .u64 _); rw [getD_ge (by omega)])) (.u (.u (.u (.u (.u (.u (.u (.u (.u (.u (.u (.u .nil)))))))))))))
            · refine jc_skip ?_
              refine ⟨(), ?_, rfl, cov_n 6 rfl rfl ?_⟩
              · trivial
              · exact (.cons (by first | rfl | (show some (V.i .u64 _) = some (V.i .u64 _); rw [getD_ge (by omega)])) (.u (.u (.u (.u (.u (.u (.u (.u (.u (.u (.u (.u .nil)))))))))))))
          · rintro _ _; refine jc_region <| zmv rfl (hd 41 rfl) <| zmv rfl (hd 42 rfl) <| zmv rfl (hd 43 rfl) <| zmv rfl (hd 44 rfl) <| jo_l (ly_ia (i := i) sl28 rfl rfl rfl (by first | rfl | omega) (by first | omega | (dsimp only; omega)) rfl) (hd 45 rfl) <| jo_l (ly_is (ly_ldi one82 rfl rfl (by first | omega | (dsimp only; omega))) (show V.i .u64 (q.getD ((0 + i) * 1) 0) = V.i .u64 (q.getD i 0) by rw [Nat.zero_add, Nat.mul_one])) (hd 46 rfl) <| zmv rfl (hd 47 rfl) <| zmv rfl (hd 48 rfl) <| jo_h (hy_ext3 (e := add64Entry) Tryz.func111 rfl rfl (by kernel_rfl) (by kernel_rfl) rfl rfl rfl (fun w => run_add64 _ _ _ hT.1 hY.1 hc6 hc7 w) rel_pair) (hd 49 rfl) <| zmv rfl (hd 40 rfl) <| jo_l (ly_ext rfl rfl) (hd 50 rfl) <| jo_l (ly_ext rfl rfl) (hd 51 rfl) ?_; refine jo_l (ly_ia (i := i) sl28 rfl rfl rfl (by first | rfl | omega) (by first | omega | (dsimp only; omega)) rfl) (hd 52 rfl) <| jo_st (sy_storei rfl rfl rfl one82 (by first | omega | (dsimp only; omega))) <| zas rfl (hd 6 rfl) <| jo_nil <| jc_region <| zmv rfl (hd 26 rfl) <| jo_l (ly_add rfl rfl (wrap_i64 (by first | omega | (dsimp only; omega)) (by first | omega | (dsimp only; omega)))) (hd 27 rfl) <| zas rfl (hd 7 rfl) <| jo_nil ?_
            refine ⟨(i + 1, q.set ((0 + i) * 1) ((q.getD i 0 + b.getD (i - at_) 0 + c) % 18446744073709551616), (q.getD i 0 + b.getD (i - at_) 0 + c) / 18446744073709551616), ?_, ?_, rfl, cov_n 95 rfl rfl ?_⟩
            · exact ⟨by omega, by omega, by rw [List.length_set]; exact hc3, u64s_set hc4 (by omega) (by omega), add_in (by omega) hc1 (by rw [Nat.zero_add, Nat.mul_one]) hc5 (by dsimp only; omega), by show 0 ≤ (q.getD i 0 + b.getD (i - at_) 0 + c) / 18446744073709551616; omega, by show (q.getD i 0 + b.getD (i - at_) 0 + c) / 18446744073709551616 ≤ 1; omega⟩
            · show n - (i + 1) < n - i
              omega
            · exact (.cons rfl (.cons rfl (.u (.u (.u (.u (.u (.u (.u (.u (.u (.u (.u (.u (.u (.u (.u (.u (.u (.u (.u (.u (.u (.u (.u (.u (.u (.u (.u (.u (.u (.u (.u (.u (.u (.u (.u (.u (.u (.u (.u (.u (.u (.u (.u (.u .nil))))))))))))))))))))))))))))))))))))))))))))))
        · refine jc_exit ?_
          refine ⟨_, .nil, rfl, (.cons ints_id .nil), ?_⟩
          exact ⟨rfl, q, rfl, hc3, hc4, add_end hc4 ur ub hc6 hc1 hfit (by dsimp only at *; first | (left; omega) | (right; omega)) hc5⟩
    · refine jo_s 14 rfl rfl rfl (hd 15 rfl) <| jo_s 14 rfl rfl rfl (hd 16 rfl) <| jo_s 14 rfl rfl rfl (hd 17 rfl) <| jo_s 14 rfl rfl rfl (hd 18 rfl) <| jo_s 14 rfl rfl rfl (hd 19 rfl) <| jo_s 14 rfl rfl rfl (hd 20 rfl) <| jo_s 14 rfl rfl rfl (hd 21 rfl) <| jo_s' 21 rfl rfl (hd 22 rfl) <| jo_s' 21 rfl rfl (hd 23 rfl) <| jo_s 14 rfl rfl rfl (hd 24 rfl) <| jo_l (ly_pick_f rfl rfl) (hd 25 rfl) <| jo_nil <| jc_litf rfl ?_; refine jc_exit ?_
      refine ⟨_, .nil, rfl, (.cons ints_id .nil), ?_⟩
      exact ⟨rfl, q, rfl, hc3, hc4, add_end hc4 ur ub hc6 hc1 hfit (by dsimp only at *; first | (left; omega) | (right; omega)) hc5⟩

theorem sum_s (a b : List Int) (hla : a.length < 1099511627776) (hlb : b.length < 1099511627776) (ua : u64s a) (ub : u64s b) : Spec Tryz.prog 120 [.n false .u64 a, .n false .u64 b] (fun o => ∃ r, o = .ret (.n true .u64 r) ∧ u64s r ∧ r.length = max a.length b.length + 1 ∧ vl r = vl a + vl b) := by
  refine spec_of' [(0, .n false .u64 a), (1, .n false .u64 b)] rfl Tryz.func120 rfl (zlb rfl) fun Γ hN hds hL hR => ?_
  have hd := hdOf 20 hN
  have hl0 : (a ++ (List.replicate (max a.length b.length + 1) 0).drop a.length).length = max a.length b.length + 1 := by simp; omega
  have hv0 : vl (a ++ (List.replicate (max a.length b.length + 1) (0 : Int)).drop a.length) = vl a := by rw [vl_app, List.drop_replicate, vl_zeros, Int.mul_zero, Int.add_zero]
  have hfa := vl_lt ua
  have hfb := vl_lt ub
  have hpa := pB_mono (show a.length ≤ max a.length b.length by omega)
  have hpb := pB_mono (show b.length ≤ max a.length b.length by omega)
  have hpp := pB_pos (max a.length b.length)
  refine zsr <| zas rfl (hd 4 rfl) <| jo_nil <| zsr <| zmv rfl (hd 6 rfl) <| jo_l (ly_lenn sl28 rfl) (hd 7 rfl) <| zmv rfl (hd 8 rfl) <| jo_l (ly_lenn sl28 rfl) (hd 9 rfl) <| jo_l (ly_max rfl rfl) (hd 10 rfl) <| jo_l (ly_add rfl rfl (r := ((max a.length b.length + 1 : Nat) : Int)) (by rw [wrap_i64 (by omega) (by omega)]; omega)) (hd 11 rfl) <| jo_h (hy_mk (m := max a.length b.length + 1) el28 rfl rfl rfl (by show 8 * (max a.length b.length + 1) ≤ _; omega) (by unfold maxLen; omega) rfl) (hd 12 rfl) ?_; refine zas rfl (hd 5 rfl) <| jo_nil <| zsr <| zmv rfl (hd 13 rfl) <| zmv rfl (hd 14 rfl) <| jo_copy undS28 siz82m rfl rfl List.length_replicate rfl (by omega) (hd 15 rfl) <| jo_nil <| zsr <| zmv rfl (hd 16 rfl) <| zmv rfl (hd 17 rfl) ?_
  refine jo_callM Tryz.f117 (addAt_s (a ++ (List.replicate (max a.length b.length + 1) 0).drop a.length) b (max a.length b.length + 1) 0 hl0 (by omega) (by omega) (by omega) (u64s_app ua (u64s_drop (u64s_zeros _) _)) ub (by rw [hv0]; simp only [pB, Int.one_mul]; have : Bs = 18446744073709551616 := rfl; rw [this]; omega)) rfl Tryz.func117 rfl rfl (ovL_cons rfl (ovL_cons rfl (ovL_cons rfl ovL_nil))) (.cons (.same rfl) (.cons .n (.cons (.same rfl) .nil))) (freshless_cons ints_noFr freshless_nil) (hd 18 rfl) ?_ (fun ch H2 hp => by simp at hp)
  rintro y H2 ⟨hy, r2, rfl, hl2, hu2, hv2⟩; injection hy with hy; subst hy; refine jo_nil <| zsr <| zmv rfl (hd 19 rfl) <| zas rfl (hd 4 rfl) <| jo_nil <| jc_ret ?_
  refine ⟨_, _, (.cons rfl .nil), (.o (l := r2) rfl (by omega) rfl), ?_⟩
  rw [List.drop_zero, List.take_of_length_le (by omega)]
  exact ⟨r2, rfl, hu2, hl2, by rw [hv2, hv0]; simp only [pB, Int.one_mul]⟩

theorem less_s (a b : List Int) (hla : a.length < 1099511627776) (hlb : b.length < 1099511627776) (ua : u64s a) (ub : u64s b) (hle : vl b ≤ vl a) : Spec Tryz.prog 119 [.n false .u64 a, .n false .u64 b] (fun o => ∃ r, o = .ret (.n true .u64 r) ∧ u64s r ∧ r.length = a.length ∧ vl r = vl a - vl b) := by
  refine spec_of' [(0, .n false .u64 a), (1, .n false .u64 b)] rfl Tryz.func119 rfl (zlb rfl) fun Γ hN hds hL hR => ?_
  have hd := hdOf 43 hN
  refine zsr <| zas rfl (hd 4 rfl) <| jo_nil <| zsr <| zmv rfl (hd 9 rfl) <| jo_l (ly_lenn sl28 rfl) (hd 10 rfl) <| jo_h (hy_mk (m := a.length) el28 rfl rfl rfl (by show 8 * a.length ≤ _; omega) (by unfold maxLen; omega) rfl) (hd 11 rfl) <| zas rfl (hd 5 rfl) <| jo_nil <| jc_seq <| jc_region ?_; refine zmv rfl (hd 12 rfl) <| zmv rfl (hd 13 rfl) <| jo_copy undS28 siz82m rfl rfl List.length_replicate rfl (Nat.le_refl _) (hd 14 rfl) <| jo_nil <| zsr <| zas rfl (hd 6 rfl) <| jo_nil <| jc_seq <| jc_seq <| jc_H (H' := [⟨79, 1, 0, true, ints .u64 ((sbN a b 0).1 ++ a.drop 0)⟩]) (by show [(⟨79, 1, 0, true, ints .u64 (a ++ (List.replicate a.length 0).drop a.length)⟩ : Ob)] = _; rw [List.drop_eq_nil_of_le (by simp), List.append_nil]; rfl) <| jc_region <| zmv rfl (hd 15 rfl) ?_; refine jo_l (ly_leno sl28 rfl rfl) (hd 16 rfl) <| zmv rfl (hd 17 rfl) <| jo_nil <| jc_block ?_
  refine jc_loopF (G := Nat) (fun i => i ≤ a.length) (fun i => [(6, .i .u64 (sbN a b i).2), (17, .i .i64 (i : Int)), (7, .u), (8, .u), (18, .u), (19, .u), (20, .u), (21, .u), (22, .u), (23, .u), (24, .u), (25, .u), (26, .u), (27, .u), (28, .u), (29, .u), (30, .u), (31, .u), (32, .u), (33, .u), (34, .u), (35, .u), (36, .u), (37, .u), (38, .u), (39, .u), (40, .u), (41, .u)]) (fun i => [⟨79, 1, 0, true, ints .u64 ((sbN a b i).1 ++ a.drop i)⟩]) (fun i => a.length - i) 0 ?_ ?_ rfl ?_
  · exact Nat.zero_le _
  · exact (.cons rfl (.cons rfl (.u (.u (.u (.u (.u (.u (.u (.u (.u (.u (.u (.u (.u (.u (.u (.u (.u (.u (.u (.u (.u (.u (.u (.u (.u (.u .nil))))))))))))))))))))))))))))
  · rintro i hc1
    have hf := sub_len (b := b) hc1
    have hc := sbN_c a b i
    have hx := u64s_getD ua i
    have hy := u64s_getD ub i
    refine zsr <| jo_l (ly_lt rfl rfl) (hd 18 rfl) <| jo_nil <| jc_seq ?_
    refine jc_if rfl (fun h1 => ?_) (fun h1 => ?_)
    · refine jc_skip <| jc_seq <| jc_block <| zsr <| zmv rfl (hd 19 rfl) <| zas rfl (hd 7 rfl) <| jo_nil <| zsr <| zas rfl (hd 8 rfl) <| jo_nil ?_
      refine jc_meetH (G := Unit) (fun _ => True) (fun _ => [(8, .i .u64 (b.getD i 0)), (20, .u), (21, .u), (22, .u), (23, .u), (24, .u), (25, .u), (26, .u), (27, .u)]) ?_ ?_
      · refine zsr <| zmv rfl (hd 20 rfl) <| zmv rfl (hd 21 rfl) <| jo_l (ly_lenn sl28 rfl) (hd 22 rfl) <| jo_l (ly_lt rfl rfl) (hd 23 rfl) <| jo_nil ?_
        refine jc_if rfl (fun h2 => ?_) (fun h2 => ?_)
        · refine jc_region <| zmv rfl (hd 24 rfl) <| zmv rfl (hd 25 rfl) <| jo_l (ly_ian (i := i) sl28 rfl rfl (by first | rfl | omega) (by omega)) (hd 26 rfl) <| jo_l (ly_ldq one82 rfl rfl) (hd 27 rfl) <| zas rfl (hd 8 rfl) <| jo_nil ?_
          refine ⟨(), ?_, rfl, cov_n 9 rfl rfl ?_⟩
          · trivial
          · exact (.cons (by first | rfl | (show some (V.i .u64 _) = some (V.i .u64 _); rw [getD_ge (by omega)])) (.u (.u (.u (.u (.u (.u (.u (.u .nil)))))))))
        · refine jc_skip ?_
          refine ⟨(), ?_, rfl, cov_n 4 rfl rfl ?_⟩
          · trivial
          · exact (.cons (by first | rfl | (show some (V.i .u64 _) = some (V.i .u64 _); rw [getD_ge (by omega)])) (.u (.u (.u (.u (.u (.u (.u (.u .nil)))))))))
      · rintro _ _; refine jc_region <| zmv rfl (hd 29 rfl) <| zmv rfl (hd 30 rfl) <| zmv rfl (hd 31 rfl) <| zmv rfl (hd 32 rfl) <| jo_l (ly_ia (i := i) sl28 rfl rfl rfl (by first | rfl | omega) (by omega) rfl) (hd 33 rfl) <| jo_l (ly_is (ly_ldi one82 rfl rfl (by omega)) (show V.i .u64 (((sbN a b i).1 ++ a.drop i).getD ((0 + i) * 1) 0) = V.i .u64 (a.getD i 0) by rw [Nat.zero_add, Nat.mul_one, sub_at (by omega)])) (hd 34 rfl) <| zmv rfl (hd 35 rfl) <| zmv rfl (hd 36 rfl) <| jo_h (hy_ext3 (e := sub64Entry) Tryz.func113 rfl rfl (by kernel_rfl) (by kernel_rfl) rfl rfl rfl (fun w => run_sub64 _ _ _ hx.1 hx.2 hy.1 hy.2 hc.1 hc.2 w) rel_pair) (hd 37 rfl) <| zmv rfl (hd 28 rfl) <| jo_l (ly_ext rfl rfl) (hd 38 rfl) <| jo_l (ly_ext rfl rfl) (hd 39 rfl) ?_; refine jo_l (ly_ia (i := i) sl28 rfl rfl rfl (by first | rfl | omega) (by omega) rfl) (hd 40 rfl) <| jo_st (sy_storei rfl rfl rfl one82 (by omega)) <| zas rfl (hd 6 rfl) <| jo_nil <| jc_region <| jo_l (ly_add rfl rfl (wrap_i64 (by omega) (by omega))) (hd 41 rfl) <| zmv rfl (hd 17 rfl) <| jo_nil ?_
        refine ⟨i + 1, ?_, ?_, (by show [(⟨79, 1, 0, true, ints .u64 _⟩ : Ob)] = [⟨79, 1, 0, true, ints .u64 _⟩]; rw [sub_fill (by omega)]), cov_n 57 rfl rfl ?_⟩
        · omega
        · omega
        · exact (.cons rfl (.cons rfl (.u (.u (.u (.u (.u (.u (.u (.u (.u (.u (.u (.u (.u (.u (.u (.u (.u (.u (.u (.u (.u (.u (.u (.u (.u (.u .nil))))))))))))))))))))))))))))
    · obtain rfl : i = a.length := by omega
      refine jc_exit <| zsr <| zmv rfl (hd 42 rfl) <| zas rfl (hd 4 rfl) <| jo_nil <| jc_ret ?_
      refine ⟨_, _, (.cons rfl .nil), (.o (l := (sbN a b a.length).1 ++ a.drop a.length) rfl (by omega) rfl), ?_⟩
      rw [List.drop_zero, List.take_of_length_le (by omega), List.drop_eq_nil_of_le (Nat.le_refl _), List.append_nil]
      exact ⟨_, rfl, sbN_u ua ub _, sbN_len a b _, vl_sub ua ub hle⟩

theorem part_s (l : List Int) (f t : Nat) (hl : l.length < 4398046511104) (hft : f ≤ t) (hf : t < 4398046511104) (ul : u64s l) : Spec Tryz.prog 118 [.n false .u64 l, .i .i64 (f : Int), .i .i64 (t : Int)] (fun o => ∃ r, o = .ret (.n false .u64 r) ∧ u64s r ∧ r.length ≤ min t l.length - min f l.length ∧ vl r = vl ((l.take t).drop f)) := by
  refine spec_of' [(0, .n false .u64 l), (1, .i .i64 (f : Int)), (2, .i .i64 (t : Int))] rfl Tryz.func118 rfl (zlb rfl) fun Γ hN hds hL hR => ?_
  have hd := hdOf 32 hN
  refine zsr <| zas rfl (hd 6 rfl) <| jo_nil <| zsr <| zmv rfl (hd 7 rfl) <| zmv rfl (hd 8 rfl) <| jo_l (ly_lenn sl28 rfl) (hd 9 rfl) <| jo_l (ly_is (ly_min rfl rfl) (show V.i .i64 (min (f : Int) (l.length : Int)) = V.i .i64 ((min f l.length : Nat) : Int) by congr 1; omega)) (hd 10 rfl) <| zmv rfl (hd 11 rfl) <| zmv rfl (hd 12 rfl) <| jo_l (ly_lenn sl28 rfl) (hd 13 rfl) ?_; refine jo_l (ly_is (ly_min rfl rfl) (show V.i .i64 (min (t : Int) (l.length : Int)) = V.i .i64 ((min t l.length : Nat) : Int) by congr 1; omega)) (hd 14 rfl) <| zas rfl (hd 1 rfl) <| zas rfl (hd 2 rfl) <| jo_nil <| jc_seq <| jc_block ?_
  refine jc_loopF (G := Nat) (fun k => min f l.length ≤ k ∧ k ≤ min t l.length ∧ vl ((l.take k).drop (min f l.length)) = vl ((l.take t).drop f)) (fun k => [(2, .i .i64 (k : Int)), (15, .u), (16, .u), (17, .u), (18, .u), (19, .u), (20, .u), (21, .u), (22, .u), (23, .u), (24, .u), (25, .u), (26, .u), (27, .u)]) (fun _ => _) (fun k => k) (min t l.length) ?_ ?_ rfl ?_
  · exact ⟨by omega, Nat.le_refl _, by rw [part_all hft]⟩
  · exact (.cons rfl (.u (.u (.u (.u (.u (.u (.u (.u (.u (.u (.u (.u (.u .nil))))))))))))))
  · rintro k ⟨hc1, hc2, hc3⟩; refine jc_seq <| zsr <| zmv rfl (hd 15 rfl) <| zmv rfl (hd 16 rfl) <| jo_l (ly_gt rfl rfl) (hd 17 rfl) <| zmv rfl (hd 18 rfl) ?_
    refine jo_ifp 18 rfl (fun h1 => ?_) (fun h1 => ?_)
    · refine jo_g 18 rfl rfl (ly_mv rfl) (hd 19 rfl) <| jo_g 18 rfl rfl (ly_mv rfl) (hd 20 rfl) <| jo_g 18 rfl rfl (ly_sub rfl rfl (wrap_i64 (by omega) (by omega))) (hd 21 rfl) <| jo_g 18 rfl rfl (ly_ian (i := k - 1) sl28 rfl rfl (by omega) (by omega)) (hd 22 rfl) <| jo_g 18 rfl rfl (ly_ldq one82 rfl rfl) (hd 23 rfl) <| jo_g 18 rfl rfl (ly_eq rfl rfl) (hd 24 rfl) <| jo_l (ly_pick_t rfl rfl) (hd 25 rfl) <| jo_nil ?_
      refine jc_if rfl (fun h2 => ?_) (fun h2 => ?_)
      · refine jc_skip <| jc_block <| jc_region <| zmv rfl (hd 26 rfl) <| jo_l (ly_sub rfl rfl (wrap_i64 (by omega) (by omega))) (hd 27 rfl) <| zas rfl (hd 2 rfl) <| jo_nil ?_
        refine ⟨k - 1, ?_, ?_, rfl, cov_n 29 rfl rfl ?_⟩
        · exact ⟨by omega, by omega, by rw [part_step (by omega) (by omega) (by assumption)]; exact hc3⟩
        · omega
        · exact (.cons (by show some (V.i .i64 _) = some (V.i .i64 _); congr 2; omega) (.u (.u (.u (.u (.u (.u (.u (.u (.u (.u (.u (.u (.u .nil))))))))))))))
      · refine jc_exit <| zsr <| zmv rfl (hd 28 rfl) <| zmv rfl (hd 29 rfl) <| zmv rfl (hd 30 rfl) <| jo_l (ly_sln sl28 rfl (bnd_some' rfl rfl) (bnd_some' rfl rfl) (.inl rfl) (by omega) (by omega)) (hd 31 rfl) <| zas rfl (hd 6 rfl) <| jo_nil <| jc_ret ?_
        refine ⟨_, _, (.cons rfl .nil), .n, ?_⟩
        exact ⟨_, rfl, u64s_drop (u64s_take ul _) _, by rw [List.length_drop, List.length_take]; omega, hc3⟩
    · refine jo_s 18 rfl rfl rfl (hd 19 rfl) <| jo_s 18 rfl rfl rfl (hd 20 rfl) <| jo_s 18 rfl rfl rfl (hd 21 rfl) <| jo_s 18 rfl rfl rfl (hd 22 rfl) <| jo_s 18 rfl rfl rfl (hd 23 rfl) <| jo_s 18 rfl rfl rfl (hd 24 rfl) <| jo_l (ly_pick_f rfl rfl) (hd 25 rfl) <| jo_nil <| jc_litf rfl <| jc_exit <| zsr <| zmv rfl (hd 28 rfl) ?_; refine zmv rfl (hd 29 rfl) <| zmv rfl (hd 30 rfl) <| jo_l (ly_sln sl28 rfl (bnd_some' rfl rfl) (bnd_some' rfl rfl) (.inl rfl) (by omega) (by omega)) (hd 31 rfl) <| zas rfl (hd 6 rfl) <| jo_nil <| jc_ret ?_
      refine ⟨_, _, (.cons rfl .nil), .n, ?_⟩
      exact ⟨_, rfl, u64s_drop (u64s_take ul _) _, by rw [List.length_drop, List.length_take]; omega, hc3⟩

theorem halved_ih (cut : Nat) (hc4 : 4 ≤ cut) (hcm : cut < 1099511627776) (a b : List Int) (hla : a.length < 549755813888) (hlb : b.length < 549755813888) (ua : u64s a) (ub : u64s b) (ih : ∀ a' b' : List Int, a'.length + b'.length < a.length + b.length → a'.length < 549755813888 → b'.length < 549755813888 → u64s a' → u64s b' → Spec Tryz.prog 90 [.n false .u64 a', .n false .u64 b', .i .i64 (cut : Int)] (fun o => ∃ r, o = .ret (.n true .u64 r) ∧ u64s r ∧ r.length ≤ a'.length + b'.length + 1 ∧ vl r = vl a' * vl b')) : Spec Tryz.prog 90 [.n false .u64 a, .n false .u64 b, .i .i64 (cut : Int)] (fun o => ∃ r, o = .ret (.n true .u64 r) ∧ u64s r ∧ r.length ≤ a.length + b.length + 1 ∧ vl r = vl a * vl b) := by
  refine spec_of' [(0, .n false .u64 a), (1, .n false .u64 b), (2, .i .i64 (cut : Int))] rfl Tryz.func90 rfl (zlb rfl) fun Γ hN hds hL hR => ?_
  have hd := hdOf 124 hN
  refine zsr <| zas rfl (hd 6 rfl) <| jo_nil ?_
  refine jc_meetH (G := List Int × List Int) (fun g => g.2.length ≤ g.1.length ∧ g.1.length + g.2.length = a.length + b.length ∧ u64s g.1 ∧ u64s g.2 ∧ vl g.1 * vl g.2 = vl a * vl b ∧ g.1.length < 549755813888 ∧ g.2.length < 549755813888) (fun g => [(0, .n false .u64 g.1), (1, .n false .u64 g.2), (17, .u), (18, .u), (19, .u), (20, .u), (21, .u), (22, .u), (23, .u)]) ?_ ?_
  · refine zsr <| zmv rfl (hd 17 rfl) <| jo_l (ly_lenn sl28 rfl) (hd 18 rfl) <| zmv rfl (hd 19 rfl) <| jo_l (ly_lenn sl28 rfl) (hd 20 rfl) <| jo_l (ly_lt rfl rfl) (hd 21 rfl) <| jo_nil ?_
    refine jc_if rfl (fun h1 => ?_) (fun h1 => ?_)
    · refine jc_region <| zmv rfl (hd 22 rfl) <| zmv rfl (hd 23 rfl) <| zas rfl (hd 0 rfl) <| zas rfl (hd 1 rfl) <| jo_nil ?_
      refine ⟨(b, a), ?_, rfl, cov_n 9 rfl rfl ?_⟩
      · exact ⟨by show a.length ≤ b.length; omega, by show b.length + a.length = _; omega, ub, ua, by show vl b * vl a = _; rw [Int.mul_comm], hlb, hla⟩
      · exact (.cons rfl (.cons rfl (.u (.u (.u (.u (.u (.u (.u .nil)))))))))
    · refine jc_skip ?_
      refine ⟨(a, b), ?_, rfl, cov_n 5 rfl rfl ?_⟩
      · exact ⟨by show b.length ≤ a.length; omega, rfl, ua, ub, rfl, hla, hlb⟩
      · exact (.cons rfl (.cons rfl (.u (.u (.u (.u (.u (.u (.u .nil)))))))))
  · rintro ⟨X, Y⟩ ⟨hm1, hm2, uX, uY, hm3, hX, hY⟩
    dsimp only at hm1 hm2 uX uY hm3 hX hY ⊢
    have hXY := vl_mul_lt uX uY
    have hXY2 := pB_mono (show X.length + Y.length ≤ X.length + Y.length + 1 by omega)
    have x0 := vl_nonneg uX
    have y0 := vl_nonneg uY
    refine jc_seq <| zsr <| zmv rfl (hd 24 rfl) <| jo_l (ly_lenn sl28 rfl) (hd 25 rfl) <| zmv rfl (hd 26 rfl) <| jo_l (ly_lt rfl rfl) (hd 27 rfl) <| jo_nil ?_
    refine jc_if rfl (fun h2 => ?_) (fun h2 => ?_)
    · refine zsr <| zmv rfl (hd 28 rfl) <| zmv rfl (hd 29 rfl) ?_
      refine jo_call Tryz.f116 (school_s X Y (by omega) (by omega) uX uY) rfl Tryz.func116 rfl rfl (ovL_cons rfl (ovL_cons rfl ovL_nil)) (.cons .n (.cons .n .nil)) (hd 30 rfl) ?_ (fun ch hp => by simp at hp)
      rintro y ⟨rs, hy, urs, lrs, vrs⟩; injection hy with hy; subst hy; refine zas rfl (hd 6 rfl) <| jo_nil <| jc_ret ?_
      refine ⟨_, _, (.cons rfl .nil), .n, ?_⟩
      exact ⟨rs, rfl, urs, by omega, by rw [vrs, hm3]⟩
    · refine jc_skip <| jc_seq ?_
      obtain ⟨k, hk⟩ : ∃ k, (X.length + 1) / 2 = k := ⟨_, rfl⟩
      have pk := pB_pos k
      refine jc_region <| zmv rfl (hd 31 rfl) <| jo_l (ly_lenn sl28 rfl) (hd 32 rfl) <| jo_l (ly_add rfl rfl (r := ((X.length + 1 : Nat) : Int)) (by rw [wrap_i64 (by omega) (by omega)]; omega)) (hd 33 rfl) <| jo_l (ly_quo rfl rfl (by decide) (r := (k : Int)) (by show IntKind.i64.wrap (Int.tdiv ((X.length + 1 : Nat) : Int) 2) = _; rw [half_k (by omega), hk])) (hd 34 rfl) <| zas rfl (hd 7 rfl) <| jo_nil <| jc_seq <| zsr <| zmv rfl (hd 35 rfl) <| jo_l (ly_lenn sl28 rfl) (hd 36 rfl) <| zmv rfl (hd 37 rfl) ?_; refine jo_l (ly_le rfl rfl) (hd 38 rfl) <| jo_nil ?_
      refine jc_if rfl (fun h3 => ?_) (fun h3 => ?_)
      · refine zsr <| zmv rfl (hd 39 rfl) <| jo_l (ly_lenn sl28 rfl) (hd 40 rfl) <| zmv rfl (hd 41 rfl) <| jo_l (ly_lenn sl28 rfl) (hd 42 rfl) <| jo_l (ly_add rfl rfl (r := ((X.length + Y.length : Nat) : Int)) (by rw [wrap_i64 (by omega) (by omega)]; omega)) (hd 43 rfl) <| jo_l (ly_add rfl rfl (r := ((X.length + Y.length + 1) : Nat)) (by rw [wrap_i64 (by omega) (by omega)]; omega)) (hd 44 rfl) <| jo_h (hy_mk (m := (X.length + Y.length + 1)) el28 rfl rfl rfl (by show 8 * (X.length + Y.length + 1) ≤ _; omega) (by unfold maxLen; omega) rfl) (hd 45 rfl) <| zas rfl (hd 8 rfl) <| jo_nil <| jc_seq <| jc_region ?_; refine zmv rfl (hd 46 rfl) <| zmv rfl (hd 47 rfl) <| zmv rfl (hd 48 rfl) ?_
        refine jo_call Tryz.f118 (part_s X 0 k (by omega) (by omega) (by omega) uX) rfl Tryz.func118 rfl rfl (ovL_cons rfl (ovL_cons rfl (ovL_cons rfl ovL_nil))) (.cons .n (.cons .i (.cons .i .nil))) (hd 49 rfl) ?_ (fun ch hp => by simp at hp)
        rintro y ⟨al, hy, ual, lal, val⟩; injection hy with hy; subst hy; refine zmv rfl (hd 50 rfl) <| zmv rfl (hd 51 rfl) ?_
        refine jo_call Tryz.f90 (ih al Y (by omega) (by omega) (by omega) ual uY) rfl Tryz.func90 rfl rfl (ovL_cons rfl (ovL_cons rfl (ovL_cons rfl ovL_nil))) (.cons .n (.cons .n (.cons .i .nil))) (hd 52 rfl) ?_ (fun ch hp => by simp at hp)
        rintro y ⟨p1, hy, up1, lp1, vp1⟩; injection hy with hy; subst hy
        have a0 := vl_nonneg ual
        refine jo_callM Tryz.f117 (addAt_s (List.replicate (X.length + Y.length + 1) 0) p1 (X.length + Y.length + 1) 0 List.length_replicate (by omega) (by omega) (by omega) (u64s_zeros _) up1 (by
            have h1 := split_val (l := X) k
            rw [← val] at h1
            have h2 := vl_nonneg (u64s_drop (u64s_take uX X.length) k)
            have h3 := Int.mul_nonneg (Int.le_of_lt pk) h2
            have h4 := Int.mul_le_mul_of_nonneg_right (show vl al ≤ vl X by omega) y0
            rw [vl_zeros, vp1]; simp only [pB, Int.one_mul, Int.zero_add] at *; omega)) rfl Tryz.func117 rfl rfl (ovL_cons rfl (ovL_cons rfl (ovL_cons rfl ovL_nil))) (.cons (.same rfl) (.cons .n (.cons (.same rfl) .nil))) (freshless_cons ints_noFr freshless_nil) (hd 53 rfl) ?_ (fun ch H2 hp => by simp at hp)
        rintro y H2 ⟨hy, r1, rfl, lr1, ur1, vr1⟩; injection hy with hy; subst hy; refine jo_nil <| zsr <| zmv rfl (hd 54 rfl) <| zmv rfl (hd 55 rfl) <| zmv rfl (hd 56 rfl) <| zmv rfl (hd 57 rfl) <| jo_l (ly_lenn sl28 rfl) (hd 58 rfl) ?_
        refine jo_call Tryz.f118 (part_s X k X.length (by omega) (by omega) (by omega) uX) rfl Tryz.func118 rfl rfl (ovL_cons rfl (ovL_cons rfl (ovL_cons rfl ovL_nil))) (.cons .n (.cons .i (.cons .i .nil))) (hd 59 rfl) ?_ (fun ch hp => by simp at hp)
        rintro y ⟨ah, hy, uah, lah, vah⟩; injection hy with hy; subst hy; refine zmv rfl (hd 60 rfl) <| zmv rfl (hd 61 rfl) ?_
        refine jo_call Tryz.f90 (ih ah Y (by omega) (by omega) (by omega) uah uY) rfl Tryz.func90 rfl rfl (ovL_cons rfl (ovL_cons rfl (ovL_cons rfl ovL_nil))) (.cons .n (.cons .n (.cons .i .nil))) (hd 62 rfl) ?_ (fun ch hp => by simp at hp)
        rintro y ⟨p2, hy, up2, lp2, vp2⟩; injection hy with hy; subst hy
        have hv : vl r1 + pB k * vl p2 = vl X * vl Y := by
          have h1 := split_val (l := X) k
          rw [← val, ← vah] at h1
          rw [vr1, vp1, vp2, vl_zeros, ← h1, Int.add_mul, Int.mul_assoc (pB k)]
          simp only [pB, Int.one_mul, Int.zero_add]
        refine zmv rfl (hd 63 rfl) ?_
        refine jo_callM Tryz.f117 (addAt_s r1 p2 (X.length + Y.length + 1) k lr1 (by omega) (by omega) (by omega) ur1 up2 (by rw [hv]; omega)) rfl Tryz.func117 rfl rfl (ovL_cons rfl (ovL_cons rfl (ovL_cons rfl ovL_nil))) (.cons (.same rfl) (.cons .n (.cons (.same rfl) .nil))) (freshless_cons ints_noFr freshless_nil) (hd 64 rfl) ?_ (fun ch H2 hp => by simp at hp)
        rintro y H2 ⟨hy, rf, rfl, lrf, urf, vrf⟩; injection hy with hy; subst hy; refine jo_nil <| zsr <| zmv rfl (hd 65 rfl) <| zas rfl (hd 6 rfl) <| jo_nil <| jc_ret ?_
        refine ⟨_, _, (.cons rfl .nil), (.o (l := rf) rfl (by omega) rfl), ?_⟩
        rw [List.drop_zero, List.take_of_length_le (by omega)]
        exact ⟨rf, rfl, urf, by omega, by rw [vrf, hv, hm3]⟩
      · refine jc_skip <| zsr <| zmv rfl (hd 66 rfl) <| zmv rfl (hd 67 rfl) ?_
        refine jo_call Tryz.f118 (part_s X 0 k (by omega) (by omega) (by omega) uX) rfl Tryz.func118 rfl rfl (ovL_cons rfl (ovL_cons rfl (ovL_cons rfl ovL_nil))) (.cons .n (.cons .i (.cons .i .nil))) (hd 68 rfl) ?_ (fun ch hp => by simp at hp)
        rintro y ⟨al, hy, ual, lal, val⟩; injection hy with hy; subst hy; refine zmv rfl (hd 69 rfl) <| zmv rfl (hd 70 rfl) <| zmv rfl (hd 71 rfl) <| jo_l (ly_lenn sl28 rfl) (hd 72 rfl) ?_
        refine jo_call Tryz.f118 (part_s X k X.length (by omega) (by omega) (by omega) uX) rfl Tryz.func118 rfl rfl (ovL_cons rfl (ovL_cons rfl (ovL_cons rfl ovL_nil))) (.cons .n (.cons .i (.cons .i .nil))) (hd 73 rfl) ?_ (fun ch hp => by simp at hp)
        rintro y ⟨ah, hy, uah, lah, vah⟩; injection hy with hy; subst hy; refine zmv rfl (hd 74 rfl) <| zmv rfl (hd 75 rfl) ?_
        refine jo_call Tryz.f118 (part_s Y 0 k (by omega) (by omega) (by omega) uY) rfl Tryz.func118 rfl rfl (ovL_cons rfl (ovL_cons rfl (ovL_cons rfl ovL_nil))) (.cons .n (.cons .i (.cons .i .nil))) (hd 76 rfl) ?_ (fun ch hp => by simp at hp)
        rintro y ⟨bl, hy, ubl, lbl, vbl⟩; injection hy with hy; subst hy; refine zmv rfl (hd 77 rfl) <| zmv rfl (hd 78 rfl) <| zmv rfl (hd 79 rfl) <| jo_l (ly_lenn sl28 rfl) (hd 80 rfl) ?_
        refine jo_call Tryz.f118 (part_s Y k Y.length (by omega) (by omega) (by omega) uY) rfl Tryz.func118 rfl rfl (ovL_cons rfl (ovL_cons rfl (ovL_cons rfl ovL_nil))) (.cons .n (.cons .i (.cons .i .nil))) (hd 81 rfl) ?_ (fun ch hp => by simp at hp)
        rintro y ⟨bh, hy, ubh, lbh, vbh⟩; injection hy with hy; subst hy; refine zas rfl (hd 9 rfl) <| zas rfl (hd 10 rfl) <| zas rfl (hd 11 rfl) <| zas rfl (hd 12 rfl) <| jo_nil <| zsr <| zmv rfl (hd 82 rfl) <| zmv rfl (hd 83 rfl) <| zmv rfl (hd 84 rfl) ?_
        refine jo_call Tryz.f90 (ih al bl (by omega) (by omega) (by omega) ual ubl) rfl Tryz.func90 rfl rfl (ovL_cons rfl (ovL_cons rfl (ovL_cons rfl ovL_nil))) (.cons .n (.cons .n (.cons .i .nil))) (hd 85 rfl) ?_ (fun ch hp => by simp at hp)
        rintro y ⟨lo, hy, ulo, llo, vlo⟩; injection hy with hy; subst hy; refine zmv rfl (hd 86 rfl) <| zmv rfl (hd 87 rfl) <| zmv rfl (hd 88 rfl) ?_
        refine jo_call Tryz.f90 (ih ah bh (by omega) (by omega) (by omega) uah ubh) rfl Tryz.func90 rfl rfl (ovL_cons rfl (ovL_cons rfl (ovL_cons rfl ovL_nil))) (.cons .n (.cons .n (.cons .i .nil))) (hd 89 rfl) ?_ (fun ch hp => by simp at hp)
        rintro y ⟨hi, hy, uhi, lhi, vhi⟩; injection hy with hy; subst hy; refine zas rfl (hd 13 rfl) <| zas rfl (hd 14 rfl) <| jo_nil <| zsr <| zmv rfl (hd 90 rfl) <| zmv rfl (hd 91 rfl) ?_
        refine jo_call Tryz.f120 (sum_s al ah (by omega) (by omega) ual uah) rfl Tryz.func120 rfl rfl (ovL_cons rfl (ovL_cons rfl ovL_nil)) (.cons .n (.cons .n .nil)) (hd 92 rfl) ?_ (fun ch hp => by simp at hp)
        rintro y ⟨s1, hy, us1, ls1, vs1⟩; injection hy with hy; subst hy
        have ts1 := trm_len s1
        refine jo_call Tryz.f51 (Norm_s s1 (by omega)) rfl Tryz.func51 rfl rfl (ovL_cons rfl ovL_nil) (.cons .n .nil) (hd 93 rfl) ?_ (fun ch hp => by simp at hp)
        rintro _ ⟨⟩; refine zmv rfl (hd 94 rfl) <| zmv rfl (hd 95 rfl) ?_
        refine jo_call Tryz.f120 (sum_s bl bh (by omega) (by omega) ubl ubh) rfl Tryz.func120 rfl rfl (ovL_cons rfl (ovL_cons rfl ovL_nil)) (.cons .n (.cons .n .nil)) (hd 96 rfl) ?_ (fun ch hp => by simp at hp)
        rintro y ⟨s2, hy, us2, ls2, vs2⟩; injection hy with hy; subst hy
        have ts2 := trm_len s2
        refine jo_call Tryz.f51 (Norm_s s2 (by omega)) rfl Tryz.func51 rfl rfl (ovL_cons rfl ovL_nil) (.cons .n .nil) (hd 97 rfl) ?_ (fun ch hp => by simp at hp)
        rintro _ ⟨⟩; refine zmv rfl (hd 98 rfl) ?_
        refine jo_call Tryz.f90 (ih (trm s1) (trm s2) (by omega) (by omega) (by omega) (u64s_trm us1) (u64s_trm us2)) rfl Tryz.func90 rfl rfl (ovL_cons rfl (ovL_cons rfl (ovL_cons rfl ovL_nil))) (.cons .n (.cons .n (.cons .i .nil))) (hd 99 rfl) ?_ (fun ch hp => by simp at hp)
        rintro y ⟨m0, hy, um0, lm0, vm0⟩; injection hy with hy; subst hy
        rw [vl_trm, vl_trm, vs1, vs2] at vm0
        have hle := kara_le (vl_nonneg ual) (vl_nonneg uah) (vl_nonneg ubl) (vl_nonneg ubh)
        rw [← vm0, ← vlo, ← vhi] at hle
        refine zmv rfl (hd 100 rfl) ?_
        refine jo_call Tryz.f119 (less_s m0 lo (by omega) (by omega) um0 ulo hle.1) rfl Tryz.func119 rfl rfl (ovL_cons rfl (ovL_cons rfl ovL_nil)) (.cons .n (.cons .n .nil)) (hd 101 rfl) ?_ (fun ch hp => by simp at hp)
        rintro y ⟨m1, hy, um1, lm1, vm1⟩; injection hy with hy; subst hy; refine zmv rfl (hd 102 rfl) ?_
        refine jo_call Tryz.f119 (less_s m1 hi (by omega) (by omega) um1 uhi (by rw [vm1]; exact hle.2)) rfl Tryz.func119 rfl rfl (ovL_cons rfl (ovL_cons rfl ovL_nil)) (.cons .n (.cons .n .nil)) (hd 103 rfl) ?_ (fun ch hp => by simp at hp)
        rintro y ⟨m2, hy, um2, lm2, vm2⟩; injection hy with hy; subst hy
        have hA : vl al + pB k * vl ah = vl X := by rw [val, vah]; exact split_val k
        have hB : vl bl + pB k * vl bh = vl Y := by rw [vbl, vbh]; exact split_val k
        have hmd : vl m2 = (vl al + vl ah) * (vl bl + vl bh) - vl lo - vl hi := by rw [vm2, vm1, vm0]
        have hkr := kara hA hB vlo vhi hmd
        have g1 := Int.mul_nonneg (Int.le_of_lt pk) (vl_nonneg um2)
        have g2 := Int.mul_nonneg (Int.mul_nonneg (Int.le_of_lt pk) (Int.le_of_lt pk)) (vl_nonneg uhi)
        refine zas rfl (hd 15 rfl) <| jo_nil <| zsr <| zmv rfl (hd 104 rfl) <| jo_l (ly_lenn sl28 rfl) (hd 105 rfl) <| zmv rfl (hd 106 rfl) <| jo_l (ly_lenn sl28 rfl) (hd 107 rfl) <| jo_l (ly_add rfl rfl (r := ((X.length + Y.length : Nat) : Int)) (by rw [wrap_i64 (by omega) (by omega)]; omega)) (hd 108 rfl) <| jo_l (ly_add rfl rfl (r := ((X.length + Y.length + 1) : Nat)) (by rw [wrap_i64 (by omega) (by omega)]; omega)) (hd 109 rfl) <| jo_h (hy_mk (m := (X.length + Y.length + 1)) el28 rfl rfl rfl (by show 8 * (X.length + Y.length + 1) ≤ _; omega) (by unfold maxLen; omega) rfl) (hd 110 rfl) <| zas rfl (hd 16 rfl) <| jo_nil ?_; refine zsr <| zmv rfl (hd 111 rfl) <| zmv rfl (hd 112 rfl) ?_
        refine jo_callM Tryz.f117 (addAt_s (List.replicate (X.length + Y.length + 1) 0) lo (X.length + Y.length + 1) 0 List.length_replicate (by omega) (by omega) (by omega) (u64s_zeros _) ulo (by rw [vl_zeros]; simp only [pB, Int.one_mul, Int.zero_add] at *; omega)) rfl Tryz.func117 rfl rfl (ovL_cons rfl (ovL_cons rfl (ovL_cons rfl ovL_nil))) (.cons (.same rfl) (.cons .n (.cons (.same rfl) .nil))) (freshless_cons ints_noFr freshless_nil) (hd 113 rfl) ?_ (fun ch H2 hp => by simp at hp)
        rintro y H2 ⟨hy, r1, rfl, lr1, ur1, vr1⟩; injection hy with hy; subst hy
        have e1 : vl r1 = vl lo := by rw [vr1, vl_zeros]; simp only [pB, Int.one_mul, Int.zero_add]
        refine jo_nil <| zsr <| zmv rfl (hd 114 rfl) <| zmv rfl (hd 115 rfl) <| zmv rfl (hd 116 rfl) ?_
        refine jo_callM Tryz.f117 (addAt_s r1 m2 (X.length + Y.length + 1) k lr1 (by omega) (by omega) (by omega) ur1 um2 (by rw [e1]; omega)) rfl Tryz.func117 rfl rfl (ovL_cons rfl (ovL_cons rfl (ovL_cons rfl ovL_nil))) (.cons (.same rfl) (.cons .n (.cons (.same rfl) .nil))) (freshless_cons ints_noFr freshless_nil) (hd 117 rfl) ?_ (fun ch H2 hp => by simp at hp)
        rintro y H2 ⟨hy, r2, rfl, lr2, ur2, vr2⟩; injection hy with hy; subst hy; refine jo_nil <| zsr <| zmv rfl (hd 118 rfl) <| zmv rfl (hd 119 rfl) <| zmv rfl (hd 120 rfl) <| jo_l (ly_mul rfl rfl (r := ((2 * k : Nat) : Int)) (by rw [wrap_i64 (by omega) (by omega)]; omega)) (hd 121 rfl) ?_
        refine jo_callM Tryz.f117 (addAt_s r2 hi (X.length + Y.length + 1) (2 * k) lr2 (by omega) (by omega) (by omega) ur2 uhi (by rw [vr2, e1, show 2 * k = k + k by omega, pB_add]; omega)) rfl Tryz.func117 rfl rfl (ovL_cons rfl (ovL_cons rfl (ovL_cons rfl ovL_nil))) (.cons (.same rfl) (.cons .n (.cons (.same rfl) .nil))) (freshless_cons ints_noFr freshless_nil) (hd 122 rfl) ?_ (fun ch H2 hp => by simp at hp)
        rintro y H2 ⟨hy, rf, rfl, lrf, urf, vrf⟩; injection hy with hy; subst hy; refine jo_nil <| zsr <| zmv rfl (hd 123 rfl) <| zas rfl (hd 6 rfl) <| jo_nil <| jc_ret ?_
        refine ⟨_, _, (.cons rfl .nil), (.o (l := rf) rfl (by omega) rfl), ?_⟩
        rw [List.drop_zero, List.take_of_length_le (by omega)]
        exact ⟨rf, rfl, urf, by omega, by rw [vrf, vr2, e1, show 2 * k = k + k by omega, pB_add, hkr, hm3]⟩

theorem halved_s (cut : Nat) (hc4 : 4 ≤ cut) (hcm : cut < 1099511627776) (a b : List Int) (hla : a.length < 549755813888) (hlb : b.length < 549755813888) (ua : u64s a) (ub : u64s b) : Spec Tryz.prog 90 [.n false .u64 a, .n false .u64 b, .i .i64 (cut : Int)] (fun o => ∃ r, o = .ret (.n true .u64 r) ∧ u64s r ∧ r.length ≤ a.length + b.length + 1 ∧ vl r = vl a * vl b) := by
  induction hn : a.length + b.length using Nat.strongRecOn generalizing a b with
  | _ n ih =>
    subst hn
    exact halved_ih cut hc4 hcm a b hla hlb ua ub fun a' b' h h1 h2 h3 h4 => ih _ (by omega) a' b' h1 h2 h3 h4 rfl

theorem way_s (a b : List Int) (hla : a.length < 4294967296) (hlb : b.length < 4294967296) (ua : u64s a) (ub : u64s b) : Spec Tryz.prog 89 [.n false .u64 a, .n false .u64 b] (fun o => ∃ r, o = .ret (.n true .u64 r) ∧ u64s r ∧ r.length ≤ a.length + b.length + 1 ∧ vl r = vl a * vl b) := by
  refine spec_of' [(0, .n false .u64 a), (1, .n false .u64 b)] rfl Tryz.func89 rfl (zlb rfl) fun Γ hN hds hL hR => ?_
  have hd := hdOf 8 hN
  refine zsr <| zas rfl (hd 4 rfl) <| jo_nil <| zsr <| zmv rfl (hd 5 rfl) <| zmv rfl (hd 6 rfl) ?_
  refine jo_call Tryz.f90 (halved_s 40 (by decide) (by decide) a b (by omega) (by omega) ua ub) rfl Tryz.func90 rfl rfl (ovL_cons rfl (ovL_cons rfl (ovL_cons rfl ovL_nil))) (.cons .n (.cons .n (.cons .i .nil))) (hd 7 rfl) ?_ (fun ch hp => by simp at hp)
  rintro y ⟨rs, hy, us, ls, vs⟩; injection hy with hy; subst hy; refine zas rfl (hd 4 rfl) <| jo_nil <| jc_ret ?_
  refine ⟨_, _, (.cons rfl .nil), .n, ?_⟩
  exact ⟨rs, rfl, us, ls, vs⟩




theorem WSign_s (s : Bool) (a : List Int) (hla : a.length < 4294967296) (ua : u64s a) : Spec Tryz.prog 76 [.a [.b s, .n false .u64 a]] (fun o => o = .ret (.i .i64 (sgnI (sv s a)))) := by
  refine spec_of' [(0, .a [.b s, .n false .u64 a])] rfl Tryz.func76 rfl (zlb rfl) fun Γ hN hds hL hR => ?_
  have hd := hdOf 11 hN
  refine zsr <| jo_h (hy_box (id := 0) (n := 2) rfl rfl rfl (by decide) rfl) (hd 1 rfl) <| zas rfl (hd 2 rfl) <| jo_nil <| jc_seq <| jc_block <| zsr <| jo_l (ly_fa fld30_1 rfl rfl rfl) (hd 4 rfl) <| jo_l (ly_ld one28 rfl rfl rfl) (hd 5 rfl) ?_
  refine jo_call Tryz.f39 (Length_s a (by omega) ua) rfl Tryz.func39 rfl rfl (ovL_cons rfl ovL_nil) (.cons .n .nil) (hd 6 rfl) ?_ (fun ch hp => by simp at hp)
  rintro _ ⟨⟩; refine jo_l (ly_eq rfl rfl) (hd 7 rfl) <| zas rfl (hd 3 rfl) <| jo_nil ?_
  refine jc_if rfl (fun h1 => ?_) (fun h1 => ?_)
  · refine zsr <| zas rfl (hd 2 rfl) <| jo_nil <| jc_ret ?_
    refine ⟨_, _, (.cons rfl .nil), .i, ?_⟩
    rw [sgn_sv ua, if_pos (by omega)]
  · refine zsr <| jo_l (ly_fa fld30_0 rfl rfl rfl) (hd 9 rfl) <| jo_l (ly_ld one4 rfl rfl rfl) (hd 10 rfl) <| zas rfl (hd 8 rfl) <| jo_nil ?_
    refine jc_cond rfl (fun h2 => ?_) (fun h2 => ?_)
    · refine zsr <| zas rfl (hd 2 rfl) <| jo_nil <| jc_ret ?_
      refine ⟨_, _, (.cons rfl .nil), .i, ?_⟩
      rw [sgn_sv ua, if_neg (by omega), if_pos (by assumption)]
    · refine jc_skip <| zsr <| zas rfl (hd 2 rfl) <| jo_nil <| jc_ret ?_
      refine ⟨_, _, (.cons rfl .nil), .i, ?_⟩
      rw [sgn_sv ua, if_neg (by omega), if_neg (by simp_all)]


theorem Len_s (v : Int) (hl : (dg v).length < 1099511627776) : Spec Tryz.prog 27 [.n false .u64 (dg v)] (fun o => o = .ret (.i .i64 (lenV v : Int))) := by
  refine spec_of' [(0, .n false .u64 (dg v))] rfl Tryz.func27 rfl (zlb rfl) fun Γ hN hds hL hR => ?_
  have hd := hdOf 25 hN
  have hB := lenV_le v
  have hT := dg_top v ((dg v).length - 1)
  have hE := lenD_eq v
  have hN := dg_nil (v := v)
  refine zsr <| zas rfl (hd 2 rfl) <| jo_nil <| jc_seq <| zsr <| zmv rfl (hd 5 rfl) <| jo_l (ly_lenn sl33 rfl) (hd 6 rfl) <| jo_l (ly_eq rfl rfl) (hd 7 rfl) <| jo_nil ?_
  refine jc_if rfl (fun h1 => ?_) (fun h1 => ?_)
  · have h0 : dg v = [] := List.eq_nil_of_length_eq_zero (by omega)
    refine zsr <| zas rfl (hd 2 rfl) <| jo_nil <| jc_ret ?_
    refine ⟨_, _, (.cons rfl .nil), .i, ?_⟩
    rw [hN.1 h0]
    rfl
  · have h0 : dg v ≠ [] := fun e => by rw [e] at h1; exact h1 rfl
    have hE := hE h0
    refine jc_skip <| zsr <| zmv rfl (hd 8 rfl) <| jo_l (ly_lenn sl33 rfl) (hd 9 rfl) <| jo_l (ly_sub rfl rfl (wrap_i64 (by first | omega | (dsimp only; omega)) (by first | omega | (dsimp only; omega)))) (hd 10 rfl) <| jo_l (ly_mul rfl rfl (r := ((32 * ((dg v).length - 1) : Nat) : Int)) (by have := List.length_pos_iff.2 h0; rw [wrap_i64 (by omega) (by omega)]; omega)) (hd 11 rfl) <| zas rfl (hd 3 rfl) <| jo_nil <| jc_seq <| zsr <| zmv rfl (hd 12 rfl) ?_; refine zmv rfl (hd 13 rfl) <| jo_l (ly_lenn sl33 rfl) (hd 14 rfl) <| jo_l (ly_sub rfl rfl (wrap_i64 (by first | omega | (dsimp only; omega)) (by first | omega | (dsimp only; omega)))) (hd 15 rfl) <| jo_l (ly_ian (i := (dg v).length - 1) sl33 rfl rfl (by have := List.length_pos_iff.2 h0; omega) (by have := List.length_pos_iff.2 h0; omega)) (hd 16 rfl) <| jo_l (ly_ldq one82 rfl rfl) (hd 17 rfl) <| zas rfl (hd 4 rfl) <| jo_nil <| jc_block ?_
    refine jc_loopF (G := Nat × Nat) (fun g => g.2 + nbits g.1 = lenV v ∧ g.1 < 4294967296) (fun g => [(3, .i .i64 (g.2 : Int)), (4, .i .u64 (g.1 : Int)), (18, .u), (19, .u), (20, .u), (21, .u), (22, .u), (23, .u)]) (fun _ => _) (fun g => g.1) (((dg v).getD ((dg v).length - 1) 0).toNat, 32 * ((dg v).length - 1)) ?_ ?_ rfl ?_
    · exact ⟨hE, by dsimp only; omega⟩
    · exact (.cons rfl (.cons (by show some (V.i .u64 _) = some (V.i .u64 _); congr 2; dsimp only; omega) (.u (.u (.u (.u (.u (.u .nil))))))))
    · rintro ⟨m, c⟩ ⟨hc1, hc2⟩
      dsimp only at hc1 hc2 ⊢
      refine jc_seq <| zsr <| zmv rfl (hd 18 rfl) <| jo_l (ly_gt rfl rfl) (hd 19 rfl) <| jo_nil ?_
      refine jc_if rfl (fun h2 => ?_) (fun h2 => ?_)
      · refine jc_skip <| jc_seq <| jc_block <| jc_region <| zmv rfl (hd 22 rfl) <| jo_l (ly_add rfl rfl (wrap_i64 (by first | omega | (dsimp only; omega)) (by first | omega | (dsimp only; omega)))) (hd 23 rfl) <| zas rfl (hd 3 rfl) <| jo_nil <| jc_region <| zmv rfl (hd 20 rfl) <| jo_l (ly_quo rfl rfl (by first | omega | (dsimp only; omega)) (r := ((m / 2 : Nat) : Int)) (by rw [show ((m : Int).tdiv 2) = ((m / 2 : Nat) : Int) from rfl, wrap_u64 (by omega) (by omega)])) (hd 21 rfl) <| zas rfl (hd 4 rfl) <| jo_nil ?_
        refine ⟨(m / 2, c + 1), ?_, ?_, rfl, cov_n 16 rfl rfl ?_⟩
        · exact ⟨by have := nbits_half (m := m) (by omega); dsimp only; omega, by dsimp only; omega⟩
        · show m / 2 < m; omega
        · exact (.cons rfl (.cons rfl (.u (.u (.u (.u (.u (.u .nil))))))))
      · refine jc_exit <| zsr <| zmv rfl (hd 24 rfl) <| zas rfl (hd 2 rfl) <| jo_nil <| jc_ret ?_
        refine ⟨_, _, (.cons rfl .nil), .i, ?_⟩
        have hm : m = 0 := by omega
        subst hm
        rw [nbits_0] at hc1
        rw [← hc1]
        rfl

theorem mfits_e (l : List Int) (hl : l.length < 1099511627776) (hu : u64s l) : Spec Tryz.prog 115 [.n false .u64 l] (fun o => ∃ (r : List Int) (e : Int), o = .ret (.t [.n true .u64 r, .i .i64 e]) ∧ ErrN (vl l) r e) := by
  refine spec_of' [(0, .n false .u64 l)] rfl Tryz.func115 rfl (zlb rfl) fun Γ hN hds hL hR => ?_
  have hd := hdOf 10 hN
  have hm := trm_len l
  refine zsr <| zas rfl (hd 2 rfl) <| zas rfl (hd 3 rfl) <| jo_nil <| zsr <| zmv rfl (hd 4 rfl) ?_
  refine jo_call Tryz.f51 (Norm_s l hl) rfl Tryz.func51 rfl rfl (ovL_cons rfl ovL_nil) (.cons .n .nil) (hd 5 rfl) ?_ (fun ch hp => by simp at hp)
  rintro _ ⟨⟩; refine zas rfl (hd 0 rfl) <| jo_nil <| jc_seq <| zsr <| zmv rfl (hd 6 rfl) ?_
  refine jo_call Tryz.f39 (Length_s (trm l) (by omega) (u64s_trm hu)) rfl Tryz.func39 rfl rfl (ovL_cons rfl ovL_nil) (.cons .n .nil) (hd 7 rfl) ?_ (fun ch hp => by simp at hp)
  rintro _ ⟨⟩; refine jo_l (ly_gt rfl rfl) (hd 8 rfl) <| jo_nil ?_
  refine jc_if rfl (fun h1 => ?_) (fun h1 => ?_)
  · refine zsr <| zas rfl (hd 2 rfl) <| zas rfl (hd 3 rfl) <| jo_nil <| jc_ret ?_
    refine ⟨_, _, (.cons rfl (.cons rfl .nil)), (.t1 (.nil (fr := true) (k := .u64)) (.t1 .i .t0)), ?_⟩
    exact ⟨[], 3, rfl, errN_big hu rfl (by rw [lenN_trm] at *; omega)⟩
  · refine jc_skip <| zsr <| zmv rfl (hd 9 rfl) <| zas rfl (hd 2 rfl) <| zas rfl (hd 3 rfl) <| jo_nil <| jc_ret ?_
    refine ⟨_, _, (.cons rfl (.cons rfl .nil)), (.t1 .n (.t1 .i .t0)), ?_⟩
    exact ⟨_, 0, rfl, errN_ok hu rfl (by rw [lenN_trm] at *; omega)⟩

theorem great_e (a b : List Int) (ha : a.length < 1099511627776) (hb : b.length < 1099511627776) (ua : u64s a) (ub : u64s b) : Spec Tryz.prog 114 [.n false .u64 a, .n false .u64 b] (fun o => ∃ x : Bool, o = .ret (.b x) ∧ (x = true → 0 < lenN a ∧ 0 < lenN b ∧ 67108864 < lenN a + lenN b - 1)) := by
  refine spec_of' [(0, .n false .u64 a), (1, .n false .u64 b)] rfl Tryz.func114 rfl (zlb rfl) fun Γ hN hds hL hR => ?_
  have hd := hdOf 24 hN
  have h1 := lenN_le a
  have h2 := lenN_le b
  refine zsr <| zas rfl (hd 4 rfl) <| jo_nil <| zsr <| zmv rfl (hd 7 rfl) ?_
  refine jo_call Tryz.f39 (Length_s a ha ua) rfl Tryz.func39 rfl rfl (ovL_cons rfl ovL_nil) (.cons .n .nil) (hd 8 rfl) ?_ (fun ch hp => by simp at hp)
  rintro _ ⟨⟩; refine zmv rfl (hd 9 rfl) ?_
  refine jo_call Tryz.f39 (Length_s b hb ub) rfl Tryz.func39 rfl rfl (ovL_cons rfl ovL_nil) (.cons .n .nil) (hd 10 rfl) ?_ (fun ch hp => by simp at hp)
  rintro _ ⟨⟩; refine zas rfl (hd 5 rfl) <| zas rfl (hd 6 rfl) <| jo_nil <| zsr <| zmv rfl (hd 11 rfl) <| jo_l (ly_gt rfl rfl) (hd 12 rfl) <| zmv rfl (hd 13 rfl) ?_
  refine jo_ifp 13 rfl (fun h1 => ?_) (fun h1 => ?_)
  · refine jo_g 13 rfl rfl (ly_mv rfl) (hd 14 rfl) <| jo_g 13 rfl rfl (ly_gt rfl rfl) (hd 15 rfl) <| jo_l (ly_pick_t rfl rfl) (hd 16 rfl) <| zmv rfl (hd 17 rfl) ?_
    refine jo_ifp 17 rfl (fun h2 => ?_) (fun h2 => ?_)
    · refine jo_g 17 rfl rfl (ly_mv rfl) (hd 18 rfl) <| jo_g 17 rfl rfl (ly_mv rfl) (hd 19 rfl) <| jo_g 17 rfl rfl (ly_add rfl rfl (wrap_i64 (by omega) (by omega))) (hd 20 rfl) <| jo_g 17 rfl rfl (ly_sub rfl rfl (wrap_i64 (by omega) (by omega))) (hd 21 rfl) <| jo_g 17 rfl rfl (ly_gt rfl rfl) (hd 22 rfl) <| jo_l (ly_pick_t rfl rfl) (hd 23 rfl) <| zas rfl (hd 4 rfl) <| jo_nil <| jc_ret ?_
      refine ⟨_, _, (.cons rfl .nil), .b, ?_⟩
      exact ⟨_, rfl, fun h => by first | (cases h; done) | (simp at h; done) | (have h := of_decide_eq_true h; exact ⟨by omega, by omega, by omega⟩)⟩
    · refine jo_s 17 rfl rfl rfl (hd 18 rfl) <| jo_s 17 rfl rfl rfl (hd 19 rfl) <| jo_s 17 rfl rfl rfl (hd 20 rfl) <| jo_s 17 rfl rfl rfl (hd 21 rfl) <| jo_s 17 rfl rfl rfl (hd 22 rfl) <| jo_l (ly_pick_f rfl rfl) (hd 23 rfl) <| zas rfl (hd 4 rfl) <| jo_nil <| jc_ret ?_
      refine ⟨_, _, (.cons rfl .nil), .b, ?_⟩
      exact ⟨_, rfl, fun h => by first | (cases h; done) | (simp at h; done) | (have h := of_decide_eq_true h; exact ⟨by omega, by omega, by omega⟩)⟩
  · refine jo_s 13 rfl rfl rfl (hd 14 rfl) <| jo_s 13 rfl rfl rfl (hd 15 rfl) <| jo_l (ly_pick_f rfl rfl) (hd 16 rfl) <| zmv rfl (hd 17 rfl) <| jo_s 17 rfl rfl rfl (hd 18 rfl) <| jo_s 17 rfl rfl rfl (hd 19 rfl) <| jo_s 17 rfl rfl rfl (hd 20 rfl) <| jo_s 17 rfl rfl rfl (hd 21 rfl) <| jo_s 17 rfl rfl rfl (hd 22 rfl) <| jo_l (ly_pick_f rfl rfl) (hd 23 rfl) <| zas rfl (hd 4 rfl) <| jo_nil <| jc_ret ?_
    refine ⟨_, _, (.cons rfl .nil), .b, ?_⟩
    exact ⟨_, rfl, fun h => by first | (cases h; done) | (simp at h; done) | (have h := of_decide_eq_true h; exact ⟨by omega, by omega, by omega⟩)⟩

theorem product_e (a b : List Int) (hla : a.length < 4294967296) (hlb : b.length < 4294967296) (ua : u64s a) (ub : u64s b) : Spec Tryz.prog 88 [.n false .u64 a, .n false .u64 b, .f 89 []] (fun o => ∃ (r : List Int) (e : Int), o = .ret (.t [.n true .u64 r, .i .i64 e]) ∧ ErrN (vl a * vl b) r e) := by
  refine spec_of' [(0, .n false .u64 a), (1, .n false .u64 b), (2, .f 89 [])] rfl Tryz.func88 rfl (zlb rfl) fun Γ hN hds hL hR => ?_
  have hd := hdOf 22 hN
  have hma := trm_len a
  have hmb := trm_len b
  refine zsr <| zas rfl (hd 6 rfl) <| zas rfl (hd 7 rfl) <| jo_nil <| zsr <| zmv rfl (hd 8 rfl) ?_
  refine jo_call Tryz.f51 (Norm_s a (by omega)) rfl Tryz.func51 rfl rfl (ovL_cons rfl ovL_nil) (.cons .n .nil) (hd 9 rfl) ?_ (fun ch hp => by simp at hp)
  rintro _ ⟨⟩; refine zmv rfl (hd 10 rfl) ?_
  refine jo_call Tryz.f51 (Norm_s b (by omega)) rfl Tryz.func51 rfl rfl (ovL_cons rfl ovL_nil) (.cons .n .nil) (hd 11 rfl) ?_ (fun ch hp => by simp at hp)
  rintro _ ⟨⟩; refine zas rfl (hd 0 rfl) <| zas rfl (hd 1 rfl) <| jo_nil <| jc_seq <| zsr <| zmv rfl (hd 12 rfl) <| zmv rfl (hd 13 rfl) ?_
  refine jo_call Tryz.f114 (great_e (trm a) (trm b) (by omega) (by omega) (u64s_trm ua) (u64s_trm ub)) rfl Tryz.func114 rfl rfl (ovL_cons rfl (ovL_cons rfl ovL_nil)) (.cons .n (.cons .n .nil)) (hd 14 rfl) ?_ (fun ch hp => by simp at hp)
  rintro y ⟨x, hy, hx⟩; injection hy with hy; subst hy; refine jo_nil ?_
  refine jc_cond rfl (fun h1 => ?_) (fun h1 => ?_)
  · refine zsr <| zas rfl (hd 6 rfl) <| zas rfl (hd 7 rfl) <| jo_nil <| jc_ret ?_
    refine ⟨_, _, (.cons rfl (.cons rfl .nil)), (.t1 (.nil (fr := true) (k := .u64)) (.t1 .i .t0)), ?_⟩
    refine ⟨[], 3, rfl, ?_⟩
    obtain ⟨g1, g2, g3⟩ := hx (by assumption)
    have := errN_great (r := []) (u64s_trm ua) (u64s_trm ub) g1 g2 g3
    rwa [vl_trm, vl_trm] at this
  · refine jc_skip <| zsr <| zmv rfl (hd 15 rfl) <| zmv rfl (hd 16 rfl) <| zmv rfl (hd 17 rfl) ?_
    refine jo_call Tryz.f89 (way_s (trm a) (trm b) (by omega) (by omega) (u64s_trm ua) (u64s_trm ub)) rfl Tryz.func89 rfl rfl (ovL_cons rfl (ovL_cons rfl ovL_nil)) (.cons .n (.cons .n .nil)) (hd 18 rfl) ?_ (fun ch hp => by simp at hp)
    rintro y ⟨rs, hy, us, ls, vs⟩; injection hy with hy; subst hy
    refine jo_call Tryz.f115 (mfits_e rs (by omega) us) rfl Tryz.func115 rfl rfl (ovL_cons rfl ovL_nil) (.cons .n .nil) (hd 19 rfl) ?_ (fun ch hp => by simp at hp)
    rintro y ⟨rf, ef, hy, hf⟩; injection hy with hy; subst hy; refine jo_l (ly_ext rfl rfl) (hd 20 rfl) <| jo_l (ly_ext rfl rfl) (hd 21 rfl) <| zas rfl (hd 6 rfl) <| zas rfl (hd 7 rfl) <| jo_nil <| jc_ret ?_
    refine ⟨_, _, (.cons rfl (.cons rfl .nil)), (.t1 .n (.t1 .i .t0)), ?_⟩
    exact ⟨rf, ef, rfl, by rwa [vs, vl_trm, vl_trm] at hf⟩

theorem MulN_e (a b : List Int) (hla : a.length < 4294967296) (hlb : b.length < 4294967296) (ua : u64s a) (ub : u64s b) : Spec Tryz.prog 41 [.n false .u64 a, .n false .u64 b] (fun o => ∃ (r : List Int) (e : Int), o = .ret (.t [.n true .u64 r, .i .i64 e]) ∧ ErrN (vl a * vl b) r e) := by
  refine spec_of' [(0, .n false .u64 a), (1, .n false .u64 b)] rfl Tryz.func41 rfl (zlb rfl) fun Γ hN hds hL hR => ?_
  have hd := hdOf 11 hN
  refine zsr <| zas rfl (hd 4 rfl) <| zas rfl (hd 5 rfl) <| jo_nil <| zsr <| zmv rfl (hd 6 rfl) <| zmv rfl (hd 7 rfl) ?_
  refine jo_call Tryz.f88 (product_e a b hla hlb ua ub) rfl Tryz.func88 rfl rfl (ovL_cons rfl (ovL_cons rfl (ovL_cons rfl ovL_nil))) (.cons .n (.cons .n (.cons .f .nil))) (hd 8 rfl) ?_ (fun ch hp => by simp at hp)
  rintro y ⟨rp, ep, hy, hp⟩; injection hy with hy; subst hy; refine jo_l (ly_ext rfl rfl) (hd 9 rfl) <| jo_l (ly_ext rfl rfl) (hd 10 rfl) <| zas rfl (hd 4 rfl) <| zas rfl (hd 5 rfl) <| jo_nil <| jc_ret ?_
  refine ⟨_, _, (.cons rfl (.cons rfl .nil)), (.t1 .n (.t1 .i .t0)), ?_⟩
  exact ⟨rp, ep, rfl, hp⟩

theorem AddN_e (a b : List Int) (hla : a.length < 4294967296) (hlb : b.length < 4294967296) (ua : u64s a) (ub : u64s b) : Spec Tryz.prog 83 [.n false .u64 a, .n false .u64 b] (fun o => ∃ (r : List Int) (e : Int), o = .ret (.t [.n false .u64 r, .i .i64 e]) ∧ ErrN (vl a + vl b) r e) := by
  have hu : u64s (sumL a b) := by
    unfold sumL
    have hc := adN_c (a := (swL (trm a) (trm b)).1) (b := (swL (trm a) (trm b)).2) (by unfold swL; split <;> exact u64s_trm (by assumption)) (by unfold swL; split <;> exact u64s_trm (by assumption)) (swL (trm a) (trm b)).1.length
    exact u64s_app1 (adN_u _) hc.1 (by omega)
  by_cases h : lenN (trm (sumL a b)) ≤ 67108864
  · exact (Add_ok a b hla hlb ua ub h).mono fun o ho => ⟨_, 0, ho, errN_ok hu (vl_sumL a b) (by rwa [lenN_trm] at h)⟩
  · exact (Add_big a b hla hlb ua ub (by omega)).mono fun o ho => ⟨_, 3, ho, errN_big hu (vl_sumL a b) (by rw [lenN_trm] at h; omega)⟩
theorem SubN_e (a b : List Int) (hla : a.length < 4294967296) (hlb : b.length < 4294967296) (ua : u64s a) (ub : u64s b) (hle : vl b ≤ vl a) : Spec Tryz.prog 84 [.n false .u64 a, .n false .u64 b] (fun o => ∃ (r : List Int) (e : Int), o = .ret (.t [.n false .u64 r, .i .i64 e]) ∧ ErrN (vl a - vl b) r e) := by
  have hc : 0 ≤ cmpL (trm a) (trm b) := by rcases cmpL_val ua ub with ⟨c, v⟩ | ⟨c, v⟩ | ⟨c, v⟩ <;> omega
  have hu : u64s (difL a b) := sbN_u (u64s_trm ua) (u64s_trm ub) _
  by_cases h : lenN (trm (difL a b)) ≤ 67108864
  · exact (Sub_ok a b hla hlb ua ub hc h).mono fun o ho => ⟨_, 0, ho, errN_ok hu (vl_difL ua ub hle) (by rwa [lenN_trm] at h)⟩
  · exact (Sub_big a b hla hlb ua ub hc (by omega)).mono fun o ho => ⟨_, 3, ho, errN_big hu (vl_difL ua ub hle) (by rw [lenN_trm] at h; omega)⟩





theorem Lz_s (x : Nat) (hx : x < 18446744073709551616) : Spec Tryz.prog 106 [.i .u64 (x : Int)] (fun o => o = .ret (.i .i64 ((64 - bl 64 x : Nat) : Int))) := by
  refine spec_of' [(0, .i .u64 (x : Int))] rfl Tryz.func106 rfl (zlb rfl) fun Γ hN hds hL hR => ?_
  have hd := hdOf 6 hN
  have hb := bl_le 64 x
  refine zsr <| zas rfl (hd 2 rfl) <| jo_nil <| zsr <| zmv rfl (hd 3 rfl) ?_
  refine jo_call Tryz.f86 (Len64_s x hx) rfl Tryz.func86 rfl rfl (ovL_cons rfl ovL_nil) (.cons .i .nil) (hd 4 rfl) ?_ (fun ch hp => by simp at hp)
  rintro _ ⟨⟩; refine jo_l (ly_sub rfl rfl (r := ((64 - bl 64 x : Nat) : Int)) (by rw [wrap_i64 (by omega) (by omega)]; omega)) (hd 5 rfl) <| zas rfl (hd 2 rfl) <| jo_nil <| jc_ret ?_
  refine ⟨_, _, (.cons rfl .nil), .i, ?_⟩
  exact rfl

theorem Div64_s (hi lo y : Int) (hh0 : 0 ≤ hi) (hhy : hi < y) (hl0 : 0 ≤ lo) (hl1 : lo < 18446744073709551616) (hy1 : y < 18446744073709551616) : Spec Tryz.prog 105 [.i .u64 hi, .i .u64 lo, .i .u64 y] (fun o => o = .ret (.t [.i .u64 ((hi * 18446744073709551616 + lo) / y), .i .u64 ((hi * 18446744073709551616 + lo) % y)])) := by
  refine spec_of' [(0, .i .u64 hi), (1, .i .u64 lo), (2, .i .u64 y)] rfl Tryz.func105 rfl (zlb rfl) fun Γ hN hds hL hR => ?_
  have hd := hdOf 135 hN
  obtain ⟨s, hs⟩ : ∃ s : Nat, 64 - bl 64 y.toNat = s := ⟨_, rfl⟩
  have hz := lz_int (show 0 < y by omega) hy1
  rw [hs] at hz
  obtain ⟨s64, y0, y1⟩ := hz
  have hD := div_both s64 hh0 hhy hl0 hl1 y0 y1
  dsimp only at hD
  obtain ⟨Y, hY⟩ : ∃ Y, y * 2 ^ s = Y := ⟨_, rfl⟩
  obtain ⟨U, hU⟩ : ∃ U, hi * 2 ^ s + hiS lo s = U := ⟨_, rfl⟩
  obtain ⟨L, hLo⟩ : ∃ L, loS lo s = L := ⟨_, rfl⟩
  have hLb := @loS_bd lo s
  rw [hLo] at hLb
  rw [hY] at y0 y1
  rw [hY, hU, hLo] at hD
  obtain ⟨N1, hN1⟩ : ∃ N, U * 4294967296 + L / 4294967296 = N := ⟨_, rfl⟩
  rw [hN1] at hD
  obtain ⟨R1, hR1⟩ : ∃ N, N1 % Y = N := ⟨_, rfl⟩
  rw [hR1] at hD
  obtain ⟨N2, hN2⟩ : ∃ N, R1 * 4294967296 + L % 4294967296 = N := ⟨_, rfl⟩
  rw [hN2] at hD
  obtain ⟨hP1, hP2, hE1, hE2⟩ := hD
  have hU0 := hP1.u0
  have hU1 := hP1.lt
  have hp2 := p2pos s
  have hhs : 0 ≤ hi * 2 ^ s := Int.mul_nonneg hh0 (Int.le_of_lt hp2)
  have hhb := hiS_bd (s := s) (Nat.le_of_lt s64) hl0 hl1
  have hq1l := hP1.q_lt
  have hq1n := hP1.q_nn
  have hq2l := hP2.q_lt
  have hq2n := hP2.q_nn
  have hfi1 := hP1.first
  have hfi2 := hP2.first
  have hr20 := hP2.u0
  have hr21 := hP2.lt
  have hrr := hP2.rest_lt
  refine zsr <| zas rfl (hd 6 rfl) <| zas rfl (hd 7 rfl) <| jo_nil <| jc_seq <| zsr <| zmv rfl (hd 19 rfl) <| jo_l (ly_ff (ly_eq rfl rfl) (by omega)) (hd 20 rfl) <| jo_nil <| jc_litf rfl <| jc_skip ?_; refine jc_seq <| zsr <| zmv rfl (hd 22 rfl) <| zmv rfl (hd 23 rfl) <| jo_l (ly_ff (ly_le rfl rfl) (by omega)) (hd 24 rfl) <| jo_nil <| jc_litf rfl <| jc_skip <| jc_seq <| zsr <| zmv rfl (hd 26 rfl) ?_; refine jo_l (ly_eq rfl rfl) (hd 27 rfl) <| jo_nil ?_
  refine jc_if rfl (fun h3 => ?_) (fun h3 => ?_)
  · obtain rfl : hi = 0 := h3
    refine jc_seq <| jc_draw (n := 8) _ rfl mixed <| zal 0 (lo_l (ly_mv rfl) (hd 28 rfl)) rfl <| zal 1 (lo_l (ly_mv rfl) (hd 29 rfl)) rfl <| zal 2 (lo_l (ly_quo rfl rfl (by omega) (r := lo / y) (quo_u64 hl0 hl1 (by omega))) (hd 30 rfl)) rfl <| zal 3 (lo_l (ly_mv rfl) (hd 31 rfl)) rfl <| zal 4 (lo_l (ly_mv rfl) (hd 32 rfl)) rfl <| zal 5 (lo_l (ly_is (ly_rem rfl rfl (by omega) rfl) (show V.i .u64 _ = V.i .u64 (lo % y) from congrArg (V.i .u64) (Int.tmod_eq_emod_of_nonneg hl0))) (hd 33 rfl)) rfl <| zal 6 (lo_l (ly_as rfl) (hd 6 rfl)) rfl <| zal 7 (lo_l (ly_as rfl) (hd 7 rfl)) rfl <| ja_nil (by kernel_rfl) <| jc_ret ?_
    refine ⟨_, _, (.cons rfl (.cons rfl .nil)), (.t1 .i (.t1 .i .t0)), ?_⟩
    rw [Int.zero_mul, Int.zero_add]
  · refine jc_skip <| zsr <| jo_l (ly_is (ly_mv rfl) (show V.i .u64 _ = V.i .u64 ((y.toNat : Int)) from congrArg (V.i .u64) (Int.toNat_of_nonneg (by omega)).symm)) (hd 34 rfl) ?_
    refine jo_call Tryz.f106 (Lz_s y.toNat (by omega)) rfl Tryz.func106 rfl rfl (ovL_cons rfl ovL_nil) (.cons .i .nil) (hd 35 rfl) ?_ (fun ch hp => by simp at hp)
    rintro _ ⟨⟩; refine jo_l (ly_conv und3 und116 rfl (r := (s : Int)) (by rw [hs]; exact wrap_u64 (by omega) (by omega))) (hd 36 rfl) <| zas rfl (hd 8 rfl) <| jo_nil <| zsr <| zmv rfl (hd 37 rfl) <| zmv rfl (hd 38 rfl) <| jo_l (ly_is (ly_shl rfl rfl (by omega) rfl) (show V.i .u64 _ = V.i .u64 (Y) from congrArg (V.i .u64) (shl_fit (by omega) hY (by omega) (by omega)))) (hd 39 rfl) <| zas rfl (hd 2 rfl) <| jo_nil <| zsr <| zmv rfl (hd 40 rfl) ?_; refine jo_l (ly_is (ly_shr rfl rfl (by omega) rfl) (show V.i .u64 _ = V.i .u64 (Y / 4294967296) from congrArg (V.i .u64) (shr32 (by omega)))) (hd 41 rfl) <| zas rfl (hd 9 rfl) <| jo_nil <| zsr <| zmv rfl (hd 42 rfl) <| jo_l (ly_is (ly_bit (by simp) rfl rfl rfl) (show V.i .u64 _ = V.i .u64 (Y % 4294967296) from congrArg (V.i .u64) (and32 (by omega) (by omega)))) (hd 43 rfl) <| zas rfl (hd 10 rfl) <| jo_nil <| zsr <| zmv rfl (hd 44 rfl) <| zmv rfl (hd 45 rfl) ?_; refine jo_l (ly_is (ly_shl rfl rfl (by omega) rfl) (show V.i .u64 _ = V.i .u64 (loS hi s) from congrArg (V.i .u64) (shl_sym (by omega)))) (hd 46 rfl) <| zmv rfl (hd 47 rfl) <| zmv rfl (hd 48 rfl) <| jo_l (ly_sub rfl rfl (r := ((64 - s : Nat) : Int)) (by rw [wrap_u64 (by omega) (by omega)]; omega)) (hd 49 rfl) <| jo_l (ly_is (ly_shr rfl rfl (by omega) rfl) (show V.i .u64 _ = V.i .u64 (lo / 2 ^ (64 - s)) from congrArg (V.i .u64) (shr_sym (by omega)))) (hd 50 rfl) <| jo_l (ly_is (ly_bit (by simp) rfl rfl rfl) (show V.i .u64 _ = V.i .u64 (U) from congrArg (V.i .u64) ((or_hi (by omega) hhs (by omega) hl0 hl1 hh0).trans hU))) (hd 51 rfl) <| zas rfl (hd 11 rfl) <| jo_nil <| zsr <| zmv rfl (hd 52 rfl) <| zmv rfl (hd 53 rfl) <| jo_l (ly_is (ly_shl rfl rfl (by omega) rfl) (show V.i .u64 _ = V.i .u64 (L) from congrArg (V.i .u64) ((shl_sym (by omega)).trans hLo))) (hd 54 rfl) ?_; refine zas rfl (hd 12 rfl) <| jo_nil <| zsr <| zmv rfl (hd 55 rfl) <| jo_l (ly_is (ly_shr rfl rfl (by omega) rfl) (show V.i .u64 _ = V.i .u64 (L / 4294967296) from congrArg (V.i .u64) (shr32 (by omega)))) (hd 56 rfl) <| zas rfl (hd 13 rfl) <| jo_nil <| zsr <| zmv rfl (hd 57 rfl) <| jo_l (ly_is (ly_bit (by simp) rfl rfl rfl) (show V.i .u64 _ = V.i .u64 (L % 4294967296) from congrArg (V.i .u64) (and32 (by omega) (by omega)))) (hd 58 rfl) <| zas rfl (hd 14 rfl) ?_; refine jo_nil <| zsr <| zmv rfl (hd 59 rfl) <| zmv rfl (hd 60 rfl) <| jo_l (ly_quo rfl rfl (by omega) (r := U / (Y / 4294967296)) (quo_u64 (by omega) (by omega) (by omega))) (hd 61 rfl) <| zas rfl (hd 15 rfl) <| jo_nil <| zsr <| zmv rfl (hd 62 rfl) <| zmv rfl (hd 63 rfl) <| zmv rfl (hd 64 rfl) ?_; refine jo_l (ly_mul rfl rfl rfl) (hd 65 rfl) <| jo_l (ly_is (ly_sub rfl rfl rfl) (show V.i .u64 _ = V.i .u64 (U - U / (Y / 4294967296) * (Y / 4294967296)) from congrArg (V.i .u64) (sub_fit hfi1.1.2.2.2 (by omega)))) (hd 66 rfl) <| zas rfl (hd 16 rfl) <| jo_nil ?_
    refine jc_meetH (G := Unit) (fun _ => True) (fun _ => [(15, .i .u64 (N1 / Y)), (16, .u), (67, .u), (68, .u), (69, .u), (70, .u), (71, .u), (72, .u), (73, .u), (74, .u), (75, .u), (76, .u), (77, .u), (78, .u), (79, .u), (80, .u), (81, .u), (82, .u), (83, .u), (84, .u), (85, .u)]) ?_ ?_
    · refine jc_block ?_
      refine jc_loopF (G := Int × Int) (fun g => Hf N1 Y U g.1 g.2 ∧ 0 ≤ g.1 ∧ g.2 < 4294967296) (fun g => [(15, .i .u64 g.1), (16, .i .u64 g.2), (67, .u), (68, .u), (69, .u), (70, .u), (71, .u), (72, .u), (73, .u), (74, .u), (75, .u), (76, .u), (77, .u), (78, .u), (79, .u), (80, .u), (81, .u), (82, .u), (83, .u), (84, .u), (85, .u)]) (fun _ => _) (fun g => g.1.toNat) (U / (Y / 4294967296), U - U / (Y / 4294967296) * (Y / 4294967296)) ?_ ?_ rfl ?_
      · exact ⟨hP1.first.1, hP1.first.2.1, hP1.first.2.2⟩
      · exact (.cons rfl (.cons rfl (.u (.u (.u (.u (.u (.u (.u (.u (.u (.u (.u (.u (.u (.u (.u (.u (.u (.u (.u .nil)))))))))))))))))))))
      · rintro ⟨q, r⟩ ⟨hf, hq0, hr1⟩
        dsimp only at hf hq0 hr1
        have hf4 := hf
        obtain ⟨he, hQ, hq1, hr0⟩ := hf4
        have hmb := mul_bd (m := 4294967295) hq0 (show 0 ≤ Y % 4294967296 by omega)
        refine jc_seq <| zsr <| zmv rfl (hd 67 rfl) <| jo_l (ly_ge rfl rfl) (hd 68 rfl) <| zmv rfl (hd 69 rfl) ?_
        refine jo_ifp 69 rfl (fun h4 => ?_) (fun h4 => ?_)
        · refine jo_s 69 rfl rfl rfl (hd 70 rfl) <| jo_s 69 rfl rfl rfl (hd 71 rfl) <| jo_s 69 rfl rfl rfl (hd 72 rfl) <| jo_s 69 rfl rfl rfl (hd 73 rfl) <| jo_s 69 rfl rfl rfl (hd 74 rfl) <| jo_s 69 rfl rfl rfl (hd 75 rfl) <| jo_s 69 rfl rfl rfl (hd 76 rfl) <| jo_s 69 rfl rfl rfl (hd 77 rfl) <| jo_l (ly_pick_t rfl rfl) (hd 78 rfl) <| jo_nil <| jc_litt rfl <| jc_skip <| jc_block ?_; refine jc_seq ?_
          obtain ⟨hn1, hn2, hn3⟩ := hP1.next hf (by first | (left; omega) | (right; omega))
          refine jc_region <| zmv rfl (hd 79 rfl) <| jo_l (ly_sub rfl rfl (wrap_u64 (by first | omega | (dsimp only; omega)) (by first | omega | (dsimp only; omega)))) (hd 80 rfl) <| zas rfl (hd 15 rfl) <| jo_nil <| zsr <| zmv rfl (hd 81 rfl) <| zmv rfl (hd 82 rfl) <| jo_l (ly_add rfl rfl (wrap_u64 (by first | omega | (dsimp only; omega)) (by first | omega | (dsimp only; omega)))) (hd 83 rfl) <| zas rfl (hd 16 rfl) <| jo_nil <| jc_seq ?_; refine jc_region <| zmv rfl (hd 84 rfl) <| jo_l (ly_ge rfl rfl) (hd 85 rfl) <| jo_nil ?_
          refine jc_if rfl (fun h6 => ?_) (fun h6 => ?_)
          · refine jc_exit ?_
            refine ⟨(), ?_, rfl, cov_n 43 rfl rfl ?_⟩
            · trivial
            · exact (.cons (by show some (V.i .u64 _) = some (V.i .u64 _); congr 2; first | exact hP1.over hn1 (by omega) (by omega) (by omega) | exact hP1.last hf (by omega)) (.u (.u (.u (.u (.u (.u (.u (.u (.u (.u (.u (.u (.u (.u (.u (.u (.u (.u (.u (.u .nil)))))))))))))))))))))
          · refine jc_skip ?_
            refine ⟨(q - 1, r + Y / 4294967296), ?_, ?_, rfl, cov_n 43 rfl rfl ?_⟩
            · exact ⟨hn1, by show 0 ≤ q - 1; omega, by show r + Y / 4294967296 < 4294967296; omega⟩
            · show (q - 1).toNat < q.toNat
              omega
            · exact (.cons rfl (.cons rfl (.u (.u (.u (.u (.u (.u (.u (.u (.u (.u (.u (.u (.u (.u (.u (.u (.u (.u (.u .nil)))))))))))))))))))))
        · refine jo_g 69 rfl rfl (ly_mv rfl) (hd 70 rfl) <| jo_g 69 rfl rfl (ly_mv rfl) (hd 71 rfl) <| jo_g 69 rfl rfl (ly_mul rfl rfl (wrap_u64 (by have := hmb (by omega) (by omega); dsimp only; omega) (by have := hmb (by omega) (by omega); dsimp only; omega))) (hd 72 rfl) <| jo_g 69 rfl rfl (ly_mv rfl) (hd 73 rfl) <| jo_g 69 rfl rfl (ly_mul rfl rfl (wrap_u64 (by first | omega | (dsimp only; omega)) (by first | omega | (dsimp only; omega)))) (hd 74 rfl) <| jo_g 69 rfl rfl (ly_mv rfl) (hd 75 rfl) <| jo_g 69 rfl rfl (ly_add rfl rfl (wrap_u64 (by first | omega | (dsimp only; omega)) (by first | omega | (dsimp only; omega)))) (hd 76 rfl) <| jo_g 69 rfl rfl (ly_gt rfl rfl) (hd 77 rfl) <| jo_l (ly_pick_f rfl rfl) (hd 78 rfl) <| jo_nil ?_
          refine jc_if rfl (fun h7 => ?_) (fun h7 => ?_)
          · refine jc_skip <| jc_block <| jc_seq ?_
            obtain ⟨hn1, hn2, hn3⟩ := hP1.next hf (by first | (left; omega) | (right; omega))
            refine jc_region <| zmv rfl (hd 79 rfl) <| jo_l (ly_sub rfl rfl (wrap_u64 (by first | omega | (dsimp only; omega)) (by first | omega | (dsimp only; omega)))) (hd 80 rfl) <| zas rfl (hd 15 rfl) <| jo_nil <| zsr <| zmv rfl (hd 81 rfl) <| zmv rfl (hd 82 rfl) <| jo_l (ly_add rfl rfl (wrap_u64 (by first | omega | (dsimp only; omega)) (by first | omega | (dsimp only; omega)))) (hd 83 rfl) <| zas rfl (hd 16 rfl) <| jo_nil <| jc_seq ?_; refine jc_region <| zmv rfl (hd 84 rfl) <| jo_l (ly_ge rfl rfl) (hd 85 rfl) <| jo_nil ?_
            refine jc_if rfl (fun h8 => ?_) (fun h8 => ?_)
            · refine jc_exit ?_
              refine ⟨(), ?_, rfl, cov_n 43 rfl rfl ?_⟩
              · trivial
              · exact (.cons (by show some (V.i .u64 _) = some (V.i .u64 _); congr 2; first | exact hP1.over hn1 (by omega) (by omega) (by omega) | exact hP1.last hf (by omega)) (.u (.u (.u (.u (.u (.u (.u (.u (.u (.u (.u (.u (.u (.u (.u (.u (.u (.u (.u (.u .nil)))))))))))))))))))))
            · refine jc_skip ?_
              refine ⟨(q - 1, r + Y / 4294967296), ?_, ?_, rfl, cov_n 43 rfl rfl ?_⟩
              · exact ⟨hn1, by show 0 ≤ q - 1; omega, by show r + Y / 4294967296 < 4294967296; omega⟩
              · show (q - 1).toNat < q.toNat
                omega
              · exact (.cons rfl (.cons rfl (.u (.u (.u (.u (.u (.u (.u (.u (.u (.u (.u (.u (.u (.u (.u (.u (.u (.u (.u .nil)))))))))))))))))))))
          · refine jc_exit ?_
            refine ⟨(), ?_, rfl, cov_n 34 rfl rfl ?_⟩
            · trivial
            · exact (.cons (by show some (V.i .u64 _) = some (V.i .u64 _); congr 2; first | exact hP1.over hn1 (by omega) (by omega) (by omega) | exact hP1.last hf (by omega)) (.u (.u (.u (.u (.u (.u (.u (.u (.u (.u (.u (.u (.u (.u (.u (.u (.u (.u (.u (.u .nil)))))))))))))))))))))
    · rintro _ _; refine zsr <| zmv rfl (hd 86 rfl) <| jo_l (ly_mul rfl rfl rfl) (hd 87 rfl) <| zmv rfl (hd 88 rfl) <| jo_l (ly_add rfl rfl rfl) (hd 89 rfl) <| zmv rfl (hd 90 rfl) <| zmv rfl (hd 91 rfl) <| jo_l (ly_mul rfl rfl rfl) (hd 92 rfl) <| jo_l (ly_is (ly_sub rfl rfl rfl) (show V.i .u64 _ = V.i .u64 (R1) from congrArg (V.i .u64) (hP1.rest.trans hR1))) (hd 93 rfl) <| zas rfl (hd 17 rfl) <| jo_nil <| jc_seq ?_; refine jc_region <| zmv rfl (hd 94 rfl) <| zmv rfl (hd 95 rfl) <| jo_l (ly_quo rfl rfl (by omega) (r := R1 / (Y / 4294967296)) (quo_u64 (by omega) (by omega) (by omega))) (hd 96 rfl) <| zas rfl (hd 18 rfl) <| jo_nil <| zsr <| zmv rfl (hd 97 rfl) <| zmv rfl (hd 98 rfl) <| zmv rfl (hd 99 rfl) <| jo_l (ly_mul rfl rfl rfl) (hd 100 rfl) <| jo_l (ly_is (ly_sub rfl rfl rfl) (show V.i .u64 _ = V.i .u64 (R1 - R1 / (Y / 4294967296) * (Y / 4294967296)) from congrArg (V.i .u64) (sub_fit hfi2.1.2.2.2 (by omega)))) (hd 101 rfl) ?_; refine zas rfl (hd 16 rfl) <| jo_nil ?_
      refine jc_meetH (G := Unit) (fun _ => True) (fun _ => [(18, .i .u64 (N2 / Y)), (16, .u), (102, .u), (103, .u), (104, .u), (105, .u), (106, .u), (107, .u), (108, .u), (109, .u), (110, .u), (111, .u), (112, .u), (113, .u), (114, .u), (115, .u), (116, .u), (117, .u), (118, .u), (119, .u), (120, .u)]) ?_ ?_
      · refine jc_block ?_
        refine jc_loopF (G := Int × Int) (fun g => Hf N2 Y R1 g.1 g.2 ∧ 0 ≤ g.1 ∧ g.2 < 4294967296) (fun g => [(18, .i .u64 g.1), (16, .i .u64 g.2), (102, .u), (103, .u), (104, .u), (105, .u), (106, .u), (107, .u), (108, .u), (109, .u), (110, .u), (111, .u), (112, .u), (113, .u), (114, .u), (115, .u), (116, .u), (117, .u), (118, .u), (119, .u), (120, .u)]) (fun _ => _) (fun g => g.1.toNat) (R1 / (Y / 4294967296), R1 - R1 / (Y / 4294967296) * (Y / 4294967296)) ?_ ?_ rfl ?_
        · exact ⟨hP2.first.1, hP2.first.2.1, hP2.first.2.2⟩
        · exact (.cons rfl (.cons rfl (.u (.u (.u (.u (.u (.u (.u (.u (.u (.u (.u (.u (.u (.u (.u (.u (.u (.u (.u .nil)))))))))))))))))))))
        · rintro ⟨q, r⟩ ⟨hf, hq0, hr1⟩
          dsimp only at hf hq0 hr1
          have hf4 := hf
          obtain ⟨he, hQ, hq1, hr0⟩ := hf4
          have hmb := mul_bd (m := 4294967295) hq0 (show 0 ≤ Y % 4294967296 by omega)
          refine jc_seq <| zsr <| zmv rfl (hd 102 rfl) <| jo_l (ly_ge rfl rfl) (hd 103 rfl) <| zmv rfl (hd 104 rfl) ?_
          refine jo_ifp 104 rfl (fun h9 => ?_) (fun h9 => ?_)
          · refine jo_s 104 rfl rfl rfl (hd 105 rfl) <| jo_s 104 rfl rfl rfl (hd 106 rfl) <| jo_s 104 rfl rfl rfl (hd 107 rfl) <| jo_s 104 rfl rfl rfl (hd 108 rfl) <| jo_s 104 rfl rfl rfl (hd 109 rfl) <| jo_s 104 rfl rfl rfl (hd 110 rfl) <| jo_s 104 rfl rfl rfl (hd 111 rfl) <| jo_s 104 rfl rfl rfl (hd 112 rfl) <| jo_l (ly_pick_t rfl rfl) (hd 113 rfl) <| jo_nil <| jc_litt rfl <| jc_skip <| jc_block ?_; refine jc_seq ?_
            obtain ⟨hn1, hn2, hn3⟩ := hP2.next hf (by first | (left; omega) | (right; omega))
            refine jc_region <| zmv rfl (hd 114 rfl) <| jo_l (ly_sub rfl rfl (wrap_u64 (by first | omega | (dsimp only; omega)) (by first | omega | (dsimp only; omega)))) (hd 115 rfl) <| zas rfl (hd 18 rfl) <| jo_nil <| zsr <| zmv rfl (hd 116 rfl) <| zmv rfl (hd 117 rfl) <| jo_l (ly_add rfl rfl (wrap_u64 (by first | omega | (dsimp only; omega)) (by first | omega | (dsimp only; omega)))) (hd 118 rfl) <| zas rfl (hd 16 rfl) <| jo_nil <| jc_seq ?_; refine jc_region <| zmv rfl (hd 119 rfl) <| jo_l (ly_ge rfl rfl) (hd 120 rfl) <| jo_nil ?_
            refine jc_if rfl (fun h11 => ?_) (fun h11 => ?_)
            · refine jc_exit ?_
              refine ⟨(), ?_, rfl, cov_n 43 rfl rfl ?_⟩
              · trivial
              · exact (.cons (by show some (V.i .u64 _) = some (V.i .u64 _); congr 2; first | exact hP2.over hn1 (by omega) (by omega) (by omega) | exact hP2.last hf (by omega)) (.u (.u (.u (.u (.u (.u (.u (.u (.u (.u (.u (.u (.u (.u (.u (.u (.u (.u (.u (.u .nil)))))))))))))))))))))
            · refine jc_skip ?_
              refine ⟨(q - 1, r + Y / 4294967296), ?_, ?_, rfl, cov_n 43 rfl rfl ?_⟩
              · exact ⟨hn1, by show 0 ≤ q - 1; omega, by show r + Y / 4294967296 < 4294967296; omega⟩
              · show (q - 1).toNat < q.toNat
                omega
              · exact (.cons rfl (.cons rfl (.u (.u (.u (.u (.u (.u (.u (.u (.u (.u (.u (.u (.u (.u (.u (.u (.u (.u (.u .nil)))))))))))))))))))))
          · refine jo_g 104 rfl rfl (ly_mv rfl) (hd 105 rfl) <| jo_g 104 rfl rfl (ly_mv rfl) (hd 106 rfl) <| jo_g 104 rfl rfl (ly_mul rfl rfl (wrap_u64 (by have := hmb (by omega) (by omega); dsimp only; omega) (by have := hmb (by omega) (by omega); dsimp only; omega))) (hd 107 rfl) <| jo_g 104 rfl rfl (ly_mv rfl) (hd 108 rfl) <| jo_g 104 rfl rfl (ly_mul rfl rfl (wrap_u64 (by first | omega | (dsimp only; omega)) (by first | omega | (dsimp only; omega)))) (hd 109 rfl) <| jo_g 104 rfl rfl (ly_mv rfl) (hd 110 rfl) <| jo_g 104 rfl rfl (ly_add rfl rfl (wrap_u64 (by first | omega | (dsimp only; omega)) (by first | omega | (dsimp only; omega)))) (hd 111 rfl) <| jo_g 104 rfl rfl (ly_gt rfl rfl) (hd 112 rfl) <| jo_l (ly_pick_f rfl rfl) (hd 113 rfl) <| jo_nil ?_
            refine jc_if rfl (fun h12 => ?_) (fun h12 => ?_)
            · refine jc_skip <| jc_block <| jc_seq ?_
              obtain ⟨hn1, hn2, hn3⟩ := hP2.next hf (by first | (left; omega) | (right; omega))
              refine jc_region <| zmv rfl (hd 114 rfl) <| jo_l (ly_sub rfl rfl (wrap_u64 (by first | omega | (dsimp only; omega)) (by first | omega | (dsimp only; omega)))) (hd 115 rfl) <| zas rfl (hd 18 rfl) <| jo_nil <| zsr <| zmv rfl (hd 116 rfl) <| zmv rfl (hd 117 rfl) <| jo_l (ly_add rfl rfl (wrap_u64 (by first | omega | (dsimp only; omega)) (by first | omega | (dsimp only; omega)))) (hd 118 rfl) <| zas rfl (hd 16 rfl) <| jo_nil <| jc_seq ?_; refine jc_region <| zmv rfl (hd 119 rfl) <| jo_l (ly_ge rfl rfl) (hd 120 rfl) <| jo_nil ?_
              refine jc_if rfl (fun h13 => ?_) (fun h13 => ?_)
              · refine jc_exit ?_
                refine ⟨(), ?_, rfl, cov_n 43 rfl rfl ?_⟩
                · trivial
                · exact (.cons (by show some (V.i .u64 _) = some (V.i .u64 _); congr 2; first | exact hP2.over hn1 (by omega) (by omega) (by omega) | exact hP2.last hf (by omega)) (.u (.u (.u (.u (.u (.u (.u (.u (.u (.u (.u (.u (.u (.u (.u (.u (.u (.u (.u (.u .nil)))))))))))))))))))))
              · refine jc_skip ?_
                refine ⟨(q - 1, r + Y / 4294967296), ?_, ?_, rfl, cov_n 43 rfl rfl ?_⟩
                · exact ⟨hn1, by show 0 ≤ q - 1; omega, by show r + Y / 4294967296 < 4294967296; omega⟩
                · show (q - 1).toNat < q.toNat
                  omega
                · exact (.cons rfl (.cons rfl (.u (.u (.u (.u (.u (.u (.u (.u (.u (.u (.u (.u (.u (.u (.u (.u (.u (.u (.u .nil)))))))))))))))))))))
            · refine jc_exit ?_
              refine ⟨(), ?_, rfl, cov_n 34 rfl rfl ?_⟩
              · trivial
              · exact (.cons (by show some (V.i .u64 _) = some (V.i .u64 _); congr 2; first | exact hP2.over hn1 (by omega) (by omega) (by omega) | exact hP2.last hf (by omega)) (.u (.u (.u (.u (.u (.u (.u (.u (.u (.u (.u (.u (.u (.u (.u (.u (.u (.u (.u (.u .nil)))))))))))))))))))))
      · rintro _ _; refine zsr <| zmv rfl (hd 121 rfl) <| jo_l (ly_mul rfl rfl (wrap_u64 (by first | omega | (dsimp only; omega)) (by first | omega | (dsimp only; omega)))) (hd 122 rfl) <| zmv rfl (hd 123 rfl) <| jo_l (ly_add rfl rfl (r := (hi * 18446744073709551616 + lo) / y) (by rw [wrap_u64 (by omega) (by omega)]; exact hE1)) (hd 124 rfl) <| zmv rfl (hd 125 rfl) <| jo_l (ly_mul rfl rfl rfl) (hd 126 rfl) <| zmv rfl (hd 127 rfl) <| jo_l (ly_add rfl rfl rfl) (hd 128 rfl) <| zmv rfl (hd 129 rfl) <| zmv rfl (hd 130 rfl) <| jo_l (ly_mul rfl rfl rfl) (hd 131 rfl) ?_; refine jo_l (ly_is (ly_sub rfl rfl rfl) (show V.i .u64 _ = V.i .u64 (N2 % Y) from congrArg (V.i .u64) hP2.rest)) (hd 132 rfl) <| zmv rfl (hd 133 rfl) <| jo_l (ly_is (ly_shr rfl rfl (by omega) rfl) (show V.i .u64 _ = V.i .u64 ((hi * 18446744073709551616 + lo) % y) from congrArg (V.i .u64) ((shr_sym (by omega)).trans hE2))) (hd 134 rfl) <| zas rfl (hd 6 rfl) <| zas rfl (hd 7 rfl) <| jo_nil <| jc_ret ?_
        refine ⟨_, _, (.cons rfl (.cons rfl .nil)), (.t1 .i (.t1 .i .t0)), ?_⟩
        rfl

theorem up_s (s : Nat) (a : List Int) (hl : a.length < 1099511627776) (hs : s < 64) (ua : u64s a) : Spec Tryz.prog 107 [.n false .u64 a, .i .u64 (s : Int)] (fun o => o = .ret (.n true .u64 (upL a s))) := by
  refine spec_of' [(0, .n false .u64 a), (1, .i .u64 (s : Int))] rfl Tryz.func107 rfl (zlb rfl) fun Γ hN hds hL hR => ?_
  have hd := hdOf 39 hN
  refine zsr <| zas rfl (hd 4 rfl) <| jo_nil <| zsr <| zmv rfl (hd 8 rfl) <| jo_l (ly_lenn sl28 rfl) (hd 9 rfl) <| jo_l (ly_add rfl rfl (r := ((a.length + 1 : Nat) : Int)) (by rw [wrap_i64 (by omega) (by omega)]; omega)) (hd 10 rfl) <| jo_h (hy_mk (m := a.length + 1) el28 rfl rfl rfl (by show 8 * (a.length + 1) ≤ _; omega) (by unfold maxLen; omega) rfl) (hd 11 rfl) <| zas rfl (hd 5 rfl) <| jo_nil <| jc_seq ?_; refine jc_seq <| jc_H (H' := [⟨79, 1, 0, true, ints .u64 (upR a s 0)⟩]) (by rw [← upR_0]; rfl) <| jc_region <| zmv rfl (hd 12 rfl) <| jo_l (ly_lenn sl28 rfl) (hd 13 rfl) <| zmv rfl (hd 14 rfl) <| jo_nil <| jc_block ?_
  refine jc_loopF (G := Nat) (fun i => i ≤ a.length) (fun i => [(14, .i .i64 (i : Int)), (6, .u), (7, .u), (15, .u), (16, .u), (17, .u), (18, .u), (19, .u), (20, .u), (21, .u), (22, .u), (23, .u), (24, .u), (25, .u), (26, .u), (27, .u), (28, .u), (29, .u), (30, .u), (31, .u), (32, .u), (33, .u), (34, .u), (35, .u), (36, .u), (37, .u)]) (fun i => [⟨79, 1, 0, true, ints .u64 (upR a s i)⟩]) (fun i => a.length - i) 0 ?_ ?_ rfl ?_
  · exact Nat.zero_le _
  · exact (.cons rfl (.u (.u (.u (.u (.u (.u (.u (.u (.u (.u (.u (.u (.u (.u (.u (.u (.u (.u (.u (.u (.u (.u (.u (.u (.u .nil))))))))))))))))))))))))))
  · rintro i hc1
    have hf := upR_len (s := s) hc1
    have hc := upN_c (Nat.le_of_lt hs) ua i
    have hx := u64s_getD ua i
    refine zsr <| jo_l (ly_lt rfl rfl) (hd 15 rfl) <| jo_nil <| jc_seq ?_
    refine jc_if rfl (fun h1 => ?_) (fun h1 => ?_)
    · refine jc_skip <| jc_seq <| jc_block <| zsr <| zmv rfl (hd 16 rfl) <| jo_l (ly_ian (i := i) sl28 rfl rfl (by first | rfl | omega) (by omega)) (hd 17 rfl) <| jo_l (ly_ldq one82 rfl rfl) (hd 18 rfl) <| zas rfl (hd 6 rfl) <| zas rfl (hd 7 rfl) <| jo_nil <| jc_seq <| jc_region ?_; refine zmv rfl (hd 19 rfl) <| zmv rfl (hd 20 rfl) <| jo_l (ly_ia (i := i) sl28 rfl rfl rfl (by first | rfl | omega) (by omega) rfl) (hd 21 rfl) <| jo_l (ly_is (ly_ldi one82 rfl rfl (by omega)) (show V.i .u64 _ = V.i .u64 ((upN a s i).2) from congrArg (V.i .u64) upR_get)) (hd 22 rfl) <| zmv rfl (hd 23 rfl) <| zmv rfl (hd 24 rfl) <| jo_l (ly_is (ly_shl rfl rfl (by omega) rfl) (show V.i .u64 _ = V.i .u64 (loS (a.getD i 0) s) from congrArg (V.i .u64) (shl_sym (by omega)))) (hd 25 rfl) <| jo_l (ly_is (ly_bit (by simp) rfl rfl rfl) (show V.i .u64 _ = V.i .u64 ((upN a s i).2 + loS (a.getD i 0) s) from congrArg (V.i .u64) (or_lo (by omega) hc.1 hc.2 hx.1).1)) (hd 26 rfl) <| jo_l (ly_ia (i := i) sl28 rfl rfl rfl (by first | rfl | omega) (by omega) rfl) (hd 27 rfl) <| jo_st (sy_storei rfl rfl rfl one82 (by omega)) <| jo_nil <| jc_region <| zmv rfl (hd 28 rfl) ?_; refine zmv rfl (hd 29 rfl) <| jo_l (ly_add rfl rfl (wrap_i64 (by omega) (by omega))) (hd 30 rfl) <| zmv rfl (hd 31 rfl) <| jo_l (ly_is (ly_shr rfl rfl (by omega) rfl) (show V.i .u64 _ = V.i .u64 (a.getD i 0 / 2) from congrArg (V.i .u64) (shr1 hx.1))) (hd 32 rfl) <| zmv rfl (hd 33 rfl) <| jo_l (ly_sub rfl rfl (r := ((63 - s : Nat) : Int)) (by rw [wrap_u64 (by omega) (by omega)]; omega)) (hd 34 rfl) <| jo_l (ly_is (ly_shr rfl rfl (by omega) rfl) (show V.i .u64 _ = V.i .u64 (hiS (a.getD i 0) s) from congrArg (V.i .u64) ((shr_sym (by omega)).trans (shr_two hs)))) (hd 35 rfl) <| jo_l (ly_ia (i := i + 1) sl28 rfl rfl rfl (by first | rfl | omega) (by omega) rfl) (hd 36 rfl) <| jo_st (sy_storei rfl rfl rfl one82 (by simp only [List.length_set]; omega)) <| jo_nil <| jc_region <| jo_l (ly_add rfl rfl (wrap_i64 (by omega) (by omega))) (hd 37 rfl) <| zmv rfl (hd 14 rfl) ?_; refine jo_nil ?_
      refine ⟨i + 1, ?_, ?_, (by show [(⟨79, 1, 0, true, ints .u64 _⟩ : Ob)] = [⟨79, 1, 0, true, ints .u64 _⟩]; rw [upR_set (by omega)]), cov_n 52 rfl rfl ?_⟩
      · omega
      · omega
      · exact (.cons rfl (.u (.u (.u (.u (.u (.u (.u (.u (.u (.u (.u (.u (.u (.u (.u (.u (.u (.u (.u (.u (.u (.u (.u (.u (.u .nil))))))))))))))))))))))))))
    · obtain rfl : i = a.length := by omega
      rw [upR_end] at hf ⊢
      refine jc_exit <| zsr <| zmv rfl (hd 38 rfl) <| zas rfl (hd 4 rfl) <| jo_nil <| jc_ret ?_
      refine ⟨_, _, (.cons rfl .nil), (.o (l := upL a s) rfl (by omega) rfl), ?_⟩
      rw [List.drop_zero, List.take_of_length_le (by omega)]

theorem up_n (s : Nat) (a : List Int) (hl : a.length < 1099511627776) (hs : s < 64) (ua : u64s a) : SpecM Tryz.prog 107 [.n false .u64 a, .i .u64 (s : Int)] [] (fun o G => o = .ret (.o 0 0 0 (a.length + 1)) ∧ G = [⟨79, 1, 0, true, ints .u64 (upL a s)⟩]) := by
  refine specS_of [(0, .n false .u64 a), (1, .i .u64 (s : Int))] rfl Tryz.func107 rfl (zlb rfl) fun Γ hN hds hL hR => ?_
  have hd := hdOf 39 hN
  refine zsr <| zas rfl (hd 4 rfl) <| jo_nil <| zsr <| zmv rfl (hd 8 rfl) <| jo_l (ly_lenn sl28 rfl) (hd 9 rfl) <| jo_l (ly_add rfl rfl (r := ((a.length + 1 : Nat) : Int)) (by rw [wrap_i64 (by omega) (by omega)]; omega)) (hd 10 rfl) <| jo_h (hy_mk (m := a.length + 1) el28 rfl rfl rfl (by show 8 * (a.length + 1) ≤ _; omega) (by unfold maxLen; omega) rfl) (hd 11 rfl) <| zas rfl (hd 5 rfl) <| jo_nil <| jc_seq ?_; refine jc_seq <| jc_H (H' := [⟨79, 1, 0, true, ints .u64 (upR a s 0)⟩]) (by rw [← upR_0]; rfl) <| jc_region <| zmv rfl (hd 12 rfl) <| jo_l (ly_lenn sl28 rfl) (hd 13 rfl) <| zmv rfl (hd 14 rfl) <| jo_nil <| jc_block ?_
  refine jc_loopF (G := Nat) (fun i => i ≤ a.length) (fun i => [(14, .i .i64 (i : Int)), (6, .u), (7, .u), (15, .u), (16, .u), (17, .u), (18, .u), (19, .u), (20, .u), (21, .u), (22, .u), (23, .u), (24, .u), (25, .u), (26, .u), (27, .u), (28, .u), (29, .u), (30, .u), (31, .u), (32, .u), (33, .u), (34, .u), (35, .u), (36, .u), (37, .u)]) (fun i => [⟨79, 1, 0, true, ints .u64 (upR a s i)⟩]) (fun i => a.length - i) 0 ?_ ?_ rfl ?_
  · exact Nat.zero_le _
  · exact (.cons rfl (.u (.u (.u (.u (.u (.u (.u (.u (.u (.u (.u (.u (.u (.u (.u (.u (.u (.u (.u (.u (.u (.u (.u (.u (.u .nil))))))))))))))))))))))))))
  · rintro i hc1
    have hf := upR_len (s := s) hc1
    have hc := upN_c (Nat.le_of_lt hs) ua i
    have hx := u64s_getD ua i
    refine zsr <| jo_l (ly_lt rfl rfl) (hd 15 rfl) <| jo_nil <| jc_seq ?_
    refine jc_if rfl (fun h1 => ?_) (fun h1 => ?_)
    · refine jc_skip <| jc_seq <| jc_block <| zsr <| zmv rfl (hd 16 rfl) <| jo_l (ly_ian (i := i) sl28 rfl rfl (by first | rfl | omega) (by omega)) (hd 17 rfl) <| jo_l (ly_ldq one82 rfl rfl) (hd 18 rfl) <| zas rfl (hd 6 rfl) <| zas rfl (hd 7 rfl) <| jo_nil <| jc_seq <| jc_region ?_; refine zmv rfl (hd 19 rfl) <| zmv rfl (hd 20 rfl) <| jo_l (ly_ia (i := i) sl28 rfl rfl rfl (by first | rfl | omega) (by omega) rfl) (hd 21 rfl) <| jo_l (ly_is (ly_ldi one82 rfl rfl (by omega)) (show V.i .u64 _ = V.i .u64 ((upN a s i).2) from congrArg (V.i .u64) upR_get)) (hd 22 rfl) <| zmv rfl (hd 23 rfl) <| zmv rfl (hd 24 rfl) <| jo_l (ly_is (ly_shl rfl rfl (by omega) rfl) (show V.i .u64 _ = V.i .u64 (loS (a.getD i 0) s) from congrArg (V.i .u64) (shl_sym (by omega)))) (hd 25 rfl) <| jo_l (ly_is (ly_bit (by simp) rfl rfl rfl) (show V.i .u64 _ = V.i .u64 ((upN a s i).2 + loS (a.getD i 0) s) from congrArg (V.i .u64) (or_lo (by omega) hc.1 hc.2 hx.1).1)) (hd 26 rfl) <| jo_l (ly_ia (i := i) sl28 rfl rfl rfl (by first | rfl | omega) (by omega) rfl) (hd 27 rfl) <| jo_st (sy_storei rfl rfl rfl one82 (by omega)) <| jo_nil <| jc_region <| zmv rfl (hd 28 rfl) ?_; refine zmv rfl (hd 29 rfl) <| jo_l (ly_add rfl rfl (wrap_i64 (by omega) (by omega))) (hd 30 rfl) <| zmv rfl (hd 31 rfl) <| jo_l (ly_is (ly_shr rfl rfl (by omega) rfl) (show V.i .u64 _ = V.i .u64 (a.getD i 0 / 2) from congrArg (V.i .u64) (shr1 hx.1))) (hd 32 rfl) <| zmv rfl (hd 33 rfl) <| jo_l (ly_sub rfl rfl (r := ((63 - s : Nat) : Int)) (by rw [wrap_u64 (by omega) (by omega)]; omega)) (hd 34 rfl) <| jo_l (ly_is (ly_shr rfl rfl (by omega) rfl) (show V.i .u64 _ = V.i .u64 (hiS (a.getD i 0) s) from congrArg (V.i .u64) ((shr_sym (by omega)).trans (shr_two hs)))) (hd 35 rfl) <| jo_l (ly_ia (i := i + 1) sl28 rfl rfl rfl (by first | rfl | omega) (by omega) rfl) (hd 36 rfl) <| jo_st (sy_storei rfl rfl rfl one82 (by simp only [List.length_set]; omega)) <| jo_nil <| jc_region <| jo_l (ly_add rfl rfl (wrap_i64 (by omega) (by omega))) (hd 37 rfl) <| zmv rfl (hd 14 rfl) ?_; refine jo_nil ?_
      refine ⟨i + 1, ?_, ?_, (by show [(⟨79, 1, 0, true, ints .u64 _⟩ : Ob)] = [⟨79, 1, 0, true, ints .u64 _⟩]; rw [upR_set (by omega)]), cov_n 52 rfl rfl ?_⟩
      · omega
      · omega
      · exact (.cons rfl (.u (.u (.u (.u (.u (.u (.u (.u (.u (.u (.u (.u (.u (.u (.u (.u (.u (.u (.u (.u (.u (.u (.u (.u (.u .nil))))))))))))))))))))))))))
    · obtain rfl : i = a.length := by omega
      rw [upR_end] at hf ⊢
      refine jc_exit <| zsr <| zmv rfl (hd 38 rfl) <| zas rfl (hd 4 rfl) <| jo_nil <| jc_ret ?_
      refine ⟨[0], _, (.o 0 0 0 (a.length + 1)), (.cons rfl .nil), rfl, rfl, (by decide), (by first | exact idless_cons ints_id idless_nil | exact idless_cons rfl idless_nil), ?_⟩
      exact ⟨rfl, rfl⟩

theorem div_down_s (s : Nat) (a : List Int) (hl : a.length < 1099511627776) (hs : s < 64) (ua : u64s a) : Spec Tryz.prog 109 [.n false .u64 a, .i .u64 (s : Int)] (fun o => o = .ret (.n true .u64 (trm (dnN a s a.length)))) := by
  refine spec_of' [(0, .n false .u64 a), (1, .i .u64 (s : Int))] rfl Tryz.func109 rfl (zlb rfl) fun Γ hN hds hL hR => ?_
  have hd := hdOf 47 hN
  refine zsr <| zas rfl (hd 4 rfl) <| jo_nil <| zsr <| zmv rfl (hd 8 rfl) <| jo_l (ly_lenn sl28 rfl) (hd 9 rfl) <| jo_h (hy_mk (m := a.length) el28 rfl rfl rfl (by show 8 * a.length ≤ _; omega) (by unfold maxLen; omega) rfl) (hd 10 rfl) <| zas rfl (hd 5 rfl) <| jo_nil <| jc_seq <| jc_seq ?_; refine jc_region <| zmv rfl (hd 11 rfl) <| jo_l (ly_lenn sl28 rfl) (hd 12 rfl) <| zmv rfl (hd 13 rfl) <| jo_nil <| jc_block ?_
  refine jc_loopF (G := Nat) (fun i => i ≤ a.length) (fun i => [(13, .i .i64 (i : Int)), (6, .u), (7, .u), (14, .u), (15, .u), (16, .u), (17, .u), (18, .u), (19, .u), (20, .u), (21, .u), (22, .u), (23, .u), (24, .u), (25, .u), (26, .u), (27, .u), (28, .u), (29, .u), (30, .u), (31, .u), (32, .u), (33, .u), (34, .u), (35, .u), (36, .u), (37, .u), (38, .u), (39, .u), (40, .u), (41, .u), (42, .u), (43, .u), (44, .u)]) (fun i => [⟨79, 1, 0, true, ints .u64 (fillI (dnN a s i) a.length)⟩]) (fun i => a.length - i) 0 ?_ ?_ rfl ?_
  · exact Nat.zero_le _
  · exact (.cons rfl (.u (.u (.u (.u (.u (.u (.u (.u (.u (.u (.u (.u (.u (.u (.u (.u (.u (.u (.u (.u (.u (.u (.u (.u (.u (.u (.u (.u (.u (.u (.u (.u (.u .nil))))))))))))))))))))))))))))))))))
  · rintro i hc1
    have hf : (fillI (dnN a s i) a.length).length = a.length := fillI_len (by rw [dnN_len]; exact hc1)
    have hx := u64s_getD ua i
    have hy := u64s_getD ua (i + 1)
    refine zsr <| jo_l (ly_lt rfl rfl) (hd 14 rfl) <| jo_nil <| jc_seq ?_
    refine jc_if rfl (fun h1 => ?_) (fun h1 => ?_)
    · refine jc_skip ?_
      refine jc_meet (G := Unit) (fun _ => True) (fun _ => [(6, .u), (7, .u), (15, .u), (16, .u), (17, .u), (18, .u), (19, .u), (20, .u), (21, .u), (22, .u), (23, .u), (24, .u), (25, .u), (26, .u), (27, .u), (28, .u), (29, .u), (30, .u), (31, .u), (32, .u), (33, .u), (34, .u), (35, .u), (36, .u), (37, .u), (38, .u), (39, .u), (40, .u), (41, .u), (42, .u), (43, .u)]) (fun _ => [⟨79, 1, 0, true, ints .u64 (fillI (dnN a s (i + 1)) a.length)⟩]) ?_ ?_
      · refine jc_block <| zsr <| zmv rfl (hd 15 rfl) <| jo_l (ly_ian (i := i) sl28 rfl rfl (by first | rfl | omega) (by omega)) (hd 16 rfl) <| jo_l (ly_ldq one82 rfl rfl) (hd 17 rfl) <| zas rfl (hd 6 rfl) <| zas rfl (hd 7 rfl) <| jo_nil <| zsr <| zmv rfl (hd 18 rfl) <| zmv rfl (hd 19 rfl) ?_; refine zmv rfl (hd 20 rfl) <| zmv rfl (hd 21 rfl) <| jo_l (ly_is (ly_shr rfl rfl (by omega) rfl) (show V.i .u64 _ = V.i .u64 (a.getD i 0 / 2 ^ s) from congrArg (V.i .u64) (shr_sym (by omega)))) (hd 22 rfl) <| jo_l (ly_ia (i := i) sl28 rfl rfl rfl (by first | rfl | omega) (by omega) rfl) (hd 23 rfl) <| jo_st (sy_storei rfl rfl rfl one82 (by omega)) <| jo_nil <| zsr <| zmv rfl (hd 24 rfl) <| jo_l (ly_add rfl rfl (wrap_i64 (by omega) (by omega))) (hd 25 rfl) <| zmv rfl (hd 26 rfl) <| jo_l (ly_lenn sl28 rfl) (hd 27 rfl) <| jo_l (ly_lt rfl rfl) (hd 28 rfl) ?_; refine jo_nil ?_
        refine jc_if rfl (fun h2 => ?_) (fun h2 => ?_)
        · refine jc_draw (n := 16) _ rfl mixed <| zal2 0 [2, 3, 13, 14, 15] (lo_l (ly_mv rfl) (hd 29 rfl)) rfl <| zal2 1 [2, 3, 13, 14, 15] (lo_l (ly_mv rfl) (hd 30 rfl)) rfl <| zal2 2 [3, 13, 14, 15] (lo_l (ly_ia (i := i) sl28 rfl rfl rfl (by first | rfl | omega) (by omega) rfl) (hd 31 rfl)) rfl <| zal 3 (lo_l (ly_is (ly_ldi one82 rfl rfl (by simp only [List.length_set]; omega)) (show V.i .u64 _ = V.i .u64 (a.getD i 0 / 2 ^ s) from congrArg (V.i .u64) (dnR_get (by omega)))) (hd 32 rfl)) rfl <| zal2 4 [7, 8, 9, 12, 13, 14, 15] (lo_l (ly_mv rfl) (hd 33 rfl)) rfl <| zal2 5 [6, 7, 8, 9, 12, 13, 14, 15] (lo_l (ly_mv rfl) (hd 34 rfl)) rfl <| zal2 6 [7, 8, 9, 12, 13, 14, 15] (lo_l (ly_add rfl rfl (r := ((i + 1 : Nat) : Int)) (by rw [wrap_i64 (by omega) (by omega)]; omega)) (hd 35 rfl)) rfl <| zal2 7 [8, 9, 12, 13, 14, 15] (lo_l (ly_ian (i := i + 1) sl28 rfl rfl (by first | rfl | omega) (by omega)) (hd 36 rfl)) rfl <| zal2 8 [9, 12, 13, 14, 15] (lo_l (ly_ldq one82 rfl rfl) (hd 37 rfl)) rfl <| zal2 9 [12, 13, 14, 15] (lo_l (ly_is (ly_shl rfl rfl (by omega) rfl) (show V.i .u64 _ = V.i .u64 (a.getD (i + 1) 0 * 2 % 18446744073709551616) from congrArg (V.i .u64) shl1)) (hd 38 rfl)) rfl <| zal2 10 [11, 12, 13, 14, 15] (lo_l (ly_mv rfl) (hd 39 rfl)) rfl <| zal2 11 [12, 13, 14, 15] (lo_l (ly_sub rfl rfl (r := ((63 - s : Nat) : Int)) (by rw [wrap_u64 (by omega) (by omega)]; omega)) (hd 40 rfl)) rfl ?_; refine zal 12 (lo_l (ly_is (ly_shl rfl rfl (by omega) rfl) (show V.i .u64 _ = V.i .u64 (loS (a.getD (i + 1) 0) (64 - s)) from congrArg (V.i .u64) ((shl_sym (by omega)).trans (shl_two hs)))) (hd 41 rfl)) rfl <| zal 13 (lo_l (ly_is (ly_bit (by simp) rfl rfl rfl) (show V.i .u64 _ = V.i .u64 (dnD a s i) from congrArg (V.i .u64) (dn_or (Nat.le_of_lt hs) hx.1 hx.2 hy.1).1)) (hd 42 rfl)) rfl <| zal 14 (lo_l (ly_ia (i := i) sl28 rfl rfl rfl (by first | rfl | omega) (by omega) rfl) (hd 43 rfl)) rfl ?_
          refine ja_1 15 ?_ rfl (by kernel_rfl)
          refine js_st (sy_storei rfl rfl rfl one82 (by simp only [List.length_set]; omega)) rfl <| ja_nil (by kernel_rfl) ?_
          refine ⟨(), ?_, (by show [(⟨79, 1, 0, true, ints .u64 _⟩ : Ob)] = [⟨79, 1, 0, true, ints .u64 _⟩]; first | rw [← dnD_last (show a.length ≤ i + 1 by omega), dnR_set (by omega)] | rw [List.set_set, dnR_set (by omega)]), cov_n 31 rfl rfl ?_⟩
          · trivial
          · exact (.u (.u (.u (.u (.u (.u (.u (.u (.u (.u (.u (.u (.u (.u (.u (.u (.u (.u (.u (.u (.u (.u (.u (.u (.u (.u (.u (.u (.u (.u (.u .nil)))))))))))))))))))))))))))))))
        · refine jc_skip ?_
          refine ⟨(), ?_, (by show [(⟨79, 1, 0, true, ints .u64 _⟩ : Ob)] = [⟨79, 1, 0, true, ints .u64 _⟩]; first | rw [← dnD_last (show a.length ≤ i + 1 by omega), dnR_set (by omega)] | rw [List.set_set, dnR_set (by omega)]), cov_n 16 rfl rfl ?_⟩
          · trivial
          · exact (.u (.u (.u (.u (.u (.u (.u (.u (.u (.u (.u (.u (.u (.u (.u (.u (.u (.u (.u (.u (.u (.u (.u (.u (.u (.u (.u (.u (.u (.u (.u .nil)))))))))))))))))))))))))))))))
      · rintro _ _; refine jc_region <| jo_l (ly_add rfl rfl (wrap_i64 (by omega) (by omega))) (hd 44 rfl) <| zmv rfl (hd 13 rfl) <| jo_nil ?_
        refine ⟨i + 1, ?_, ?_, rfl, cov_n 68 rfl rfl ?_⟩
        · omega
        · omega
        · exact (.cons rfl (.u (.u (.u (.u (.u (.u (.u (.u (.u (.u (.u (.u (.u (.u (.u (.u (.u (.u (.u (.u (.u (.u (.u (.u (.u (.u (.u (.u (.u (.u (.u (.u (.u .nil))))))))))))))))))))))))))))))))))
    · obtain rfl : i = a.length := by omega
      refine jc_exit <| zsr <| jo_frz (k := .u64) (l := fillI (dnN a s a.length) a.length) (l' := dnN a s a.length) 5 rfl rfl (by omega) (by rw [List.drop_zero, List.take_of_length_le (by omega), fillI_full (dnN_len _ _ _)]) hL <| zmv rfl (hd 45 rfl) ?_
      refine jo_call Tryz.f51 (Norm_s (dnN a s a.length) (by rw [dnN_len]; omega)) rfl Tryz.func51 rfl rfl (ovL_cons rfl ovL_nil) (.cons .n .nil) (hd 46 rfl) ?_ (fun ch hp => by simp at hp)
      rintro _ ⟨⟩; refine zas rfl (hd 4 rfl) <| jo_nil <| jc_ret ?_
      refine ⟨_, _, (.cons rfl .nil), .n, ?_⟩
      exact rfl
end Go.Proofs.YtpldmajdiljoaaaGreat.Vc
