/- The contract of surdlaw14.LexPlains. -/
import Derived.Test.YtnpbpiommpgikaaXf
import Derived.Test.YtnpbpiommpgikaaWh
set_option linter.unusedVariables false
set_option linter.unusedSimpArgs false
namespace Go.Proofs.Ytnpbpiommpgikaa.Vc
open Go Go.RowKit
theorem LexPlains_ok {s : ByteArray} {l : List Tok} (hs : s.size ≤ 1048576) (h : lexGo s 0 = (l, none)) : Spec Try.prog 11 [.s s] (fun o => o = .ret (.b true)) := by
  refine spec_of' [(0, .s s)] rfl Try.func11 rfl (Nat.le_of_ble_eq_true rfl) fun Γ hN hds hL hR => ?_
  have hd : ∀ d, Nat.blt d 89 = true → d < Γ.N := fun d h => by rw [hN]; exact Nat.le_of_ble_eq_true h
  obtain ⟨m, hm, he, hjm, hz, hll⟩ := jnT_lex h
  have hk := kinds_lex (Nat.zero_le _) h
  refine jc_seq ?_
  refine jc_region ?_
  refine jo_l (ly_as rfl) (hd 2 rfl) ?_
  refine jo_nil ?_
  refine jc_seq ?_
  refine jc_region ?_
  refine jo_l (ly_mv rfl) (hd 17 rfl) ?_
  refine jo_call Try.f26 (Plain_ok (by omega) h (by omega)) rfl Try.func26 rfl rfl (ovL_cons rfl ovL_nil) (.cons .s .nil) (hd 18 rfl) ?_ (fun ch hp => by simp at hp)
  rintro y hy; injection hy with hy; subst hy
  refine jo_l (ly_mv rfl) (hd 16 rfl) ?_
  refine jo_l (ly_ext rfl rfl) (hd 19 rfl) ?_
  refine jo_l (ly_ext rfl rfl) (hd 20 rfl) ?_
  refine jo_l (ly_ext rfl rfl) (hd 21 rfl) ?_
  refine jo_l (ly_as rfl) (hd 3 rfl) ?_
  refine jo_l (ly_as rfl) (hd 4 rfl) ?_
  refine jo_l (ly_as rfl) (hd 5 rfl) ?_
  refine jo_nil ?_
  refine jc_seq ?_
  refine jc_region ?_
  refine jo_l (ly_mv rfl) (hd 23 rfl) ?_
  refine jo_call Try.f27 (Count_ok (by omega) h) rfl Try.func27 rfl rfl (ovL_cons rfl ovL_nil) (.cons .s .nil) (hd 24 rfl) ?_ (fun ch hp => by simp at hp)
  rintro y hy; injection hy with hy; subst hy
  refine jo_l (ly_mv rfl) (hd 22 rfl) ?_
  refine jo_l (ly_ext rfl rfl) (hd 25 rfl) ?_
  refine jo_l (ly_ext rfl rfl) (hd 26 rfl) ?_
  refine jo_l (ly_ext rfl rfl) (hd 27 rfl) ?_
  refine jo_h (hy_alloc (id := 0) zero57 (by decide) rfl (by decide) rfl) (hd 6 rfl) ?_
  refine jo_st (sy_store rfl rfl rfl siz57 rfl rfl (Nat.le_of_ble_eq_true rfl)) ?_
  refine jo_l (ly_as rfl) (hd 7 rfl) ?_
  refine jo_l (ly_as rfl) (hd 8 rfl) ?_
  refine jo_nil ?_
  refine jc_seq ?_
  refine jc_region ?_
  refine jo_l (ly_mv rfl) (hd 29 rfl) ?_
  refine jo_call Try.f20 (rLex_ok (by omega) h) rfl Try.func20 rfl rfl (ovL_cons rfl ovL_nil) (.cons .s .nil) (hd 30 rfl) ?_ (fun ch hp => by simp at hp)
  rintro y hy; injection hy with hy; subst hy
  refine jo_l (ly_mv rfl) (hd 28 rfl) ?_
  refine jo_l (ly_ext rfl rfl) (hd 31 rfl) ?_
  refine jo_l (ly_ext rfl rfl) (hd 32 rfl) ?_
  refine jo_l (ly_ext rfl rfl) (hd 33 rfl) ?_
  refine jo_l (ly_as rfl) (hd 9 rfl) ?_
  refine jo_l (ly_as rfl) (hd 10 rfl) ?_
  refine jo_l (ly_as rfl) (hd 11 rfl) ?_
  refine jo_nil ?_
  refine jc_seq ?_
  refine jc_seq ?_
  refine jc_region ?_
  refine jo_l (ly_mv rfl) (hd 34 rfl) ?_
  refine jo_call Try.f12 (num_s _) rfl Try.func12 rfl rfl (ovL_cons rfl ovL_nil) (.cons .i .nil) (hd 35 rfl) ?_ (fun ch hp => by simp at hp)
  rintro y hy; injection hy with hy; subst hy
  refine jo_l (ly_mv rfl) (hd 36 rfl) ?_
  refine jo_l (ly_ff (ly_ne rfl rfl) (by decide)) (hd 37 rfl) ?_
  refine jo_l (ly_mv rfl) (hd 38 rfl) ?_
  refine jo_g 38 rfl rfl (ly_mv rfl) (hd 39 rfl) ?_
  refine jo_callg Try.f12 38 rfl rfl (num_s _) rfl Try.func12 rfl rfl (ovL_cons rfl ovL_nil) (.cons .i .nil) (hd 40 rfl) ?_ (fun ch hp => by simp at hp)
  rintro y hy; injection hy with hy; subst hy
  refine jo_g 38 rfl rfl (ly_mv rfl) (hd 41 rfl) ?_
  refine jo_g 38 rfl rfl (ly_ff (ly_ne rfl rfl) (by decide)) (hd 42 rfl) ?_
  refine jo_l (ly_pick_f rfl rfl) (hd 43 rfl) ?_
  refine jo_l (ly_mv rfl) (hd 44 rfl) ?_
  refine jo_g 44 rfl rfl (ly_mv rfl) (hd 45 rfl) ?_
  refine jo_g 44 rfl rfl (ly_mv rfl) (hd 46 rfl) ?_
  refine jo_g 44 rfl rfl (ly_ff (ly_ne rfl rfl) (by decide)) (hd 47 rfl) ?_
  refine jo_l (ly_pick_f rfl rfl) (hd 48 rfl) ?_
  refine jo_l (ly_mv rfl) (hd 49 rfl) ?_
  refine jo_g 49 rfl rfl (ly_mv rfl) (hd 50 rfl) ?_
  refine jo_g 49 rfl rfl (ly_mv rfl) (hd 51 rfl) ?_
  refine jo_g 49 rfl rfl (ly_ff (ly_ne rfl rfl) (by decide)) (hd 52 rfl) ?_
  refine jo_l (ly_pick_f rfl rfl) (hd 53 rfl) ?_
  refine jo_nil ?_
  refine jc_litf rfl ?_
  refine jc_skip ?_
  refine jc_seq ?_
  refine jc_seq ?_
  refine jc_region ?_
  refine jo_l (ly_mv rfl) (hd 54 rfl) ?_
  refine jo_l (ly_ff (ly_ne rfl rfl) (by decide)) (hd 55 rfl) ?_
  refine jo_nil ?_
  refine jc_litf rfl ?_
  refine jc_skip ?_
  refine jc_seq ?_
  refine jc_region ?_
  refine jo_l (ly_mv rfl) (hd 67 rfl) ?_
  refine jo_call Try.f28 (rCount_s false l hk (by omega)) rfl Try.func28 rfl rfl (ovL_cons rfl ovL_nil) (.cons .l .nil) (hd 68 rfl) ?_ (fun ch hp => by simp at hp)
  rintro y hy; injection hy with hy; subst hy
  refine jo_l (ly_mv rfl) (hd 66 rfl) ?_
  refine jo_l (ly_ext rfl rfl) (hd 69 rfl) ?_
  refine jo_l (ly_ext rfl rfl) (hd 70 rfl) ?_
  refine jo_l (ly_ext rfl rfl) (hd 71 rfl) ?_
  refine jo_l (ly_ext rfl rfl) (hd 72 rfl) ?_
  refine jo_l (ly_as rfl) (hd 12 rfl) ?_
  refine jo_l (ly_as rfl) (hd 13 rfl) ?_
  refine jo_l (ly_as rfl) (hd 14 rfl) ?_
  refine jo_l (ly_as rfl) (hd 15 rfl) ?_
  refine jo_nil ?_
  refine jc_seq ?_
  refine jc_region ?_
  refine jo_l (ly_mv rfl) (hd 73 rfl) ?_
  refine jo_l (ly_mv rfl) (hd 74 rfl) ?_
  refine jo_call Try.f25 (rJoin_t false l (by omega) (by omega)) rfl Try.func25 rfl rfl (ovL_cons rfl ovL_nil) (.cons .l .nil) (hd 75 rfl) ?_ (fun ch hp => by simp at hp)
  rintro y hy; injection hy with hy; subst hy
  refine jo_l (ly_tt (ly_eqS rfl rfl) rfl) (hd 76 rfl) ?_
  refine jo_l (ly_mv rfl) (hd 77 rfl) ?_
  refine jo_g 77 rfl rfl (ly_lda agg57 rfl rfl rfl rfl) (hd 78 rfl) ?_
  refine jo_g 77 rfl rfl (ly_mv rfl) (hd 79 rfl) ?_
  refine jo_g 77 rfl rfl (ly_mv rfl) (hd 80 rfl) ?_
  refine jo_g 77 rfl rfl (ly_mv rfl) (hd 81 rfl) ?_
  refine jo_g 77 rfl rfl (ly_mv rfl) (hd 82 rfl) ?_
  refine jo_g 77 rfl rfl (ly_build (is := [0, 1, 2, 3]) (xs := [.tmp 79, .tmp 80, .tmp 81, .tmp 82]) zero57 pls57_0_1_2_3 rfl (ovL_cons rfl (ovL_cons rfl (ovL_cons rfl (ovL_cons rfl ovL_nil)))) rfl (by simp [plsOk, cellsV]) (all_of rfl) rfl) (hd 83 rfl) ?_
  refine jo_g 77 rfl rfl (ly_eqaT undF57 stood57 eqg57 flat57 rfl rfl rfl rfl rfl) (hd 84 rfl) ?_
  refine jo_l (ly_pick_t rfl rfl) (hd 85 rfl) ?_
  refine jo_l (ly_mv rfl) (hd 86 rfl) ?_
  refine jo_callg Try.f13 86 rfl rfl (awake_s) rfl Try.func13 rfl rfl ovL_nil .nil (hd 87 rfl) ?_ (fun ch hp => by simp at hp)
  rintro y hy; injection hy with hy; subst hy
  refine jo_l (ly_pick_t rfl rfl) (hd 88 rfl) ?_
  refine jo_l (ly_as rfl) (hd 2 rfl) ?_
  refine jo_nil ?_
  refine jc_ret ?_
  refine ⟨_, _, (.cons rfl .nil), .b, ?_⟩
  exact rfl

theorem LexPlains_bad {s : ByteArray} {l : List Tok} {p : Nat} (hs : s.size ≤ 1048576) (h : lexGo s 0 = (l, some p)) : Spec Try.prog 11 [.s s] (fun o => o = .ret (.b true)) := by
  refine spec_of' [(0, .s s)] rfl Try.func11 rfl (Nat.le_of_ble_eq_true rfl) fun Γ hN hds hL hR => ?_
  have hd : ∀ d, Nat.blt d 89 = true → d < Γ.N := fun d h => by rw [hN]; exact Nat.le_of_ble_eq_true h
  refine jc_seq ?_
  refine jc_region ?_
  refine jo_l (ly_as rfl) (hd 2 rfl) ?_
  refine jo_nil ?_
  refine jc_seq ?_
  refine jc_region ?_
  refine jo_l (ly_mv rfl) (hd 17 rfl) ?_
  refine jo_call Try.f26 (Plain_bad (by omega) h) rfl Try.func26 rfl rfl (ovL_cons rfl ovL_nil) (.cons .s .nil) (hd 18 rfl) ?_ (fun ch hp => by simp at hp)
  rintro y hy; injection hy with hy; subst hy
  refine jo_l (ly_mv rfl) (hd 16 rfl) ?_
  refine jo_l (ly_ext rfl rfl) (hd 19 rfl) ?_
  refine jo_l (ly_ext rfl rfl) (hd 20 rfl) ?_
  refine jo_l (ly_ext rfl rfl) (hd 21 rfl) ?_
  refine jo_l (ly_as rfl) (hd 3 rfl) ?_
  refine jo_l (ly_as rfl) (hd 4 rfl) ?_
  refine jo_l (ly_as rfl) (hd 5 rfl) ?_
  refine jo_nil ?_
  refine jc_seq ?_
  refine jc_region ?_
  refine jo_l (ly_mv rfl) (hd 23 rfl) ?_
  refine jo_call Try.f27 (Count_bad (by omega) h) rfl Try.func27 rfl rfl (ovL_cons rfl ovL_nil) (.cons .s .nil) (hd 24 rfl) ?_ (fun ch hp => by simp at hp)
  rintro y hy; injection hy with hy; subst hy
  refine jo_l (ly_mv rfl) (hd 22 rfl) ?_
  refine jo_l (ly_ext rfl rfl) (hd 25 rfl) ?_
  refine jo_l (ly_ext rfl rfl) (hd 26 rfl) ?_
  refine jo_l (ly_ext rfl rfl) (hd 27 rfl) ?_
  refine jo_h (hy_alloc (id := 0) zero57 (by decide) rfl (by decide) rfl) (hd 6 rfl) ?_
  refine jo_st (sy_store rfl rfl rfl siz57 rfl rfl (Nat.le_of_ble_eq_true rfl)) ?_
  refine jo_l (ly_as rfl) (hd 7 rfl) ?_
  refine jo_l (ly_as rfl) (hd 8 rfl) ?_
  refine jo_nil ?_
  refine jc_seq ?_
  refine jc_region ?_
  refine jo_l (ly_mv rfl) (hd 29 rfl) ?_
  refine jo_call Try.f20 (rLex_bad (by omega) h) rfl Try.func20 rfl rfl (ovL_cons rfl ovL_nil) (.cons .s .nil) (hd 30 rfl) ?_ (fun ch hp => by simp at hp)
  rintro y hy; injection hy with hy; subst hy
  refine jo_l (ly_mv rfl) (hd 28 rfl) ?_
  refine jo_l (ly_ext rfl rfl) (hd 31 rfl) ?_
  refine jo_l (ly_ext rfl rfl) (hd 32 rfl) ?_
  refine jo_l (ly_ext rfl rfl) (hd 33 rfl) ?_
  refine jo_l (ly_as rfl) (hd 9 rfl) ?_
  refine jo_l (ly_as rfl) (hd 10 rfl) ?_
  refine jo_l (ly_as rfl) (hd 11 rfl) ?_
  refine jo_nil ?_
  refine jc_seq ?_
  refine jc_seq ?_
  refine jc_region ?_
  refine jo_l (ly_mv rfl) (hd 34 rfl) ?_
  refine jo_call Try.f12 (num_s _) rfl Try.func12 rfl rfl (ovL_cons rfl ovL_nil) (.cons .i .nil) (hd 35 rfl) ?_ (fun ch hp => by simp at hp)
  rintro y hy; injection hy with hy; subst hy
  refine jo_l (ly_mv rfl) (hd 36 rfl) ?_
  refine jo_l (ly_ff (ly_ne rfl rfl) (by decide)) (hd 37 rfl) ?_
  refine jo_l (ly_mv rfl) (hd 38 rfl) ?_
  refine jo_g 38 rfl rfl (ly_mv rfl) (hd 39 rfl) ?_
  refine jo_callg Try.f12 38 rfl rfl (num_s _) rfl Try.func12 rfl rfl (ovL_cons rfl ovL_nil) (.cons .i .nil) (hd 40 rfl) ?_ (fun ch hp => by simp at hp)
  rintro y hy; injection hy with hy; subst hy
  refine jo_g 38 rfl rfl (ly_mv rfl) (hd 41 rfl) ?_
  refine jo_g 38 rfl rfl (ly_ff (ly_ne rfl rfl) (by decide)) (hd 42 rfl) ?_
  refine jo_l (ly_pick_f rfl rfl) (hd 43 rfl) ?_
  refine jo_l (ly_mv rfl) (hd 44 rfl) ?_
  refine jo_g 44 rfl rfl (ly_mv rfl) (hd 45 rfl) ?_
  refine jo_g 44 rfl rfl (ly_mv rfl) (hd 46 rfl) ?_
  refine jo_g 44 rfl rfl (ly_ff (ly_ne rfl rfl) (by simp)) (hd 47 rfl) ?_
  refine jo_l (ly_pick_f rfl rfl) (hd 48 rfl) ?_
  refine jo_l (ly_mv rfl) (hd 49 rfl) ?_
  refine jo_g 49 rfl rfl (ly_mv rfl) (hd 50 rfl) ?_
  refine jo_g 49 rfl rfl (ly_mv rfl) (hd 51 rfl) ?_
  refine jo_g 49 rfl rfl (ly_ff (ly_ne rfl rfl) (by simp)) (hd 52 rfl) ?_
  refine jo_l (ly_pick_f rfl rfl) (hd 53 rfl) ?_
  refine jo_nil ?_
  refine jc_litf rfl ?_
  refine jc_skip ?_
  refine jc_seq ?_
  refine jc_seq ?_
  refine jc_region ?_
  refine jo_l (ly_mv rfl) (hd 54 rfl) ?_
  refine jo_l (ly_tt (ly_ne rfl rfl) (by decide)) (hd 55 rfl) ?_
  refine jo_nil ?_
  refine jc_litt rfl ?_
  refine jc_seq ?_
  refine jc_region ?_
  refine jo_l (ly_mv rfl) (hd 56 rfl) ?_
  refine jo_l (ly_tt (ly_eqS rfl rfl) rfl) (hd 57 rfl) ?_
  refine jo_l (ly_mv rfl) (hd 58 rfl) ?_
  refine jo_g 58 rfl rfl (ly_lda agg57 rfl rfl rfl rfl) (hd 59 rfl) ?_
  refine jo_g 58 rfl rfl (ly_build (is := []) (xs := []) (pls := []) zero57 pls57_ rfl ovL_nil rfl trivial (all_of rfl) rfl) (hd 60 rfl) ?_
  refine jo_g 58 rfl rfl (ly_eqaT undF57 stood57 eqg57 flat57 rfl rfl rfl rfl rfl) (hd 61 rfl) ?_
  refine jo_l (ly_pick_t rfl rfl) (hd 62 rfl) ?_
  refine jo_l (ly_mv rfl) (hd 63 rfl) ?_
  refine jo_callg Try.f13 63 rfl rfl (awake_s) rfl Try.func13 rfl rfl ovL_nil .nil (hd 64 rfl) ?_ (fun ch hp => by simp at hp)
  rintro y hy; injection hy with hy; subst hy
  refine jo_l (ly_pick_t rfl rfl) (hd 65 rfl) ?_
  refine jo_l (ly_as rfl) (hd 2 rfl) ?_
  refine jo_nil ?_
  refine jc_ret ?_
  refine ⟨_, _, (.cons rfl .nil), .b, ?_⟩
  exact rfl

theorem LexPlains_s (s : ByteArray) (hs : s.size ≤ 1048576) : Spec Try.prog 11 [.s s] (fun o => o = .ret (.b true)) := by
  rcases h : lexGo s 0 with ⟨l, r⟩
  cases r with
  | none => exact LexPlains_ok hs h
  | some p => exact LexPlains_bad hs h
end Go.Proofs.Ytnpbpiommpgikaa.Vc
