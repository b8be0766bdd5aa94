/- The contracts of surdlaw14.awake, LexNames. -/
import Derived.Test.YtnpbpiommpgikaaWe
set_option linter.unusedVariables false
set_option linter.unusedSimpArgs false
namespace Go.Proofs.Ytnpbpiommpgikaa.Vc
open Go Go.RowKit
theorem awake_s  : Spec Try.prog 13 [] (fun o => o = .ret (.b true)) := by
  refine spec_of' [] rfl Try.func13 rfl (Nat.le_of_ble_eq_true rfl) fun Γ hN hds hL hR => ?_
  have hd : ∀ d, Nat.blt d 42 = true → d < Γ.N := fun d h => by rw [hN]; exact Nat.le_of_ble_eq_true h
  have rL : Spec Try.prog 14 [.s s2pi] (fun o => o = .ret (.t [rowsV l2pi, .i .i64 0, .i .i64 0])) := by
    have h := Lex_s s2pi (by decide)
    unfold LexV at h
    rw [lex_2pi] at h
    exact h
  refine jc_seq ?_
  refine jc_region ?_
  refine jo_l (ly_as rfl) (hd 0 rfl) ?_
  refine jo_nil ?_
  refine jc_seq ?_
  refine jc_region ?_
  refine jo_call Try.f14 (rL) rfl Try.func14 rfl rfl (ovL_cons rfl ovL_nil) (.cons .s .nil) (hd 5 rfl) ?_ (fun ch hp => by simp at hp)
  rintro y hy; injection hy with hy; subst hy
  refine jo_l (ly_mv rfl) (hd 4 rfl) ?_
  refine jo_l (ly_ext rfl rfl) (hd 6 rfl) ?_
  refine jo_l (ly_ext rfl rfl) (hd 7 rfl) ?_
  refine jo_l (ly_ext rfl rfl) (hd 8 rfl) ?_
  refine jo_l (ly_as rfl) (hd 1 rfl) ?_
  refine jo_l (ly_as rfl) (hd 2 rfl) ?_
  refine jo_l (ly_as rfl) (hd 3 rfl) ?_
  refine jo_nil ?_
  refine jc_seq ?_
  refine jc_region ?_
  refine jo_l (ly_mv rfl) (hd 9 rfl) ?_
  refine jo_call Try.f12 (num_s 0) rfl Try.func12 rfl rfl (ovL_cons rfl ovL_nil) (.cons .i .nil) (hd 10 rfl) ?_ (fun ch hp => by simp at hp)
  rintro y hy; injection hy with hy; subst hy
  refine jo_l (ly_tt (ly_eq rfl rfl) rfl) (hd 11 rfl) ?_
  refine jo_l (ly_mv rfl) (hd 12 rfl) ?_
  refine jo_g 12 rfl rfl (ly_mv rfl) (hd 13 rfl) ?_
  refine jo_g 12 rfl rfl (ly_tt (ly_eq rfl rfl) rfl) (hd 14 rfl) ?_
  refine jo_l (ly_pick_t rfl rfl) (hd 15 rfl) ?_
  refine jo_l (ly_mv rfl) (hd 16 rfl) ?_
  refine jo_g 16 rfl rfl (ly_mv rfl) (hd 17 rfl) ?_
  refine jo_g 16 rfl rfl (ly_lenl sl25 rfl) (hd 18 rfl) ?_
  refine jo_g 16 rfl rfl (ly_tt (ly_eq rfl rfl) rfl) (hd 19 rfl) ?_
  refine jo_l (ly_pick_t rfl rfl) (hd 20 rfl) ?_
  refine jo_l (ly_mv rfl) (hd 21 rfl) ?_
  refine jo_g 21 rfl rfl (ly_mv rfl) (hd 22 rfl) ?_
  refine jo_g 21 rfl rfl (ly_ial (i := 2) (row := _) sl25 rfl rfl rfl rfl) (hd 23 rfl) ?_
  refine jo_g 21 rfl rfl (ly_faq fld30_1 rfl rfl) (hd 24 rfl) ?_
  refine jo_g 21 rfl rfl (ly_ldq one9 rfl rfl) (hd 25 rfl) ?_
  refine jo_g 21 rfl rfl (ly_tt (ly_eqS rfl rfl) rfl) (hd 26 rfl) ?_
  refine jo_l (ly_pick_t rfl rfl) (hd 27 rfl) ?_
  refine jo_l (ly_mv rfl) (hd 28 rfl) ?_
  refine jo_g 28 rfl rfl (ly_mv rfl) (hd 29 rfl) ?_
  refine jo_g 28 rfl rfl (ly_ial (i := 2) (row := _) sl25 rfl rfl rfl rfl) (hd 30 rfl) ?_
  refine jo_g 28 rfl rfl (ly_faq fld30_2 rfl rfl) (hd 31 rfl) ?_
  refine jo_g 28 rfl rfl (ly_ldq one3 rfl rfl) (hd 32 rfl) ?_
  refine jo_g 28 rfl rfl (ly_tt (ly_eq rfl rfl) rfl) (hd 33 rfl) ?_
  refine jo_l (ly_pick_t rfl rfl) (hd 34 rfl) ?_
  refine jo_l (ly_mv rfl) (hd 35 rfl) ?_
  refine jo_g 35 rfl rfl (ly_mv rfl) (hd 36 rfl) ?_
  refine jo_g 35 rfl rfl (ly_ial (i := 1) (row := _) sl25 rfl rfl rfl rfl) (hd 37 rfl) ?_
  refine jo_g 35 rfl rfl (ly_faq fld30_0 rfl rfl) (hd 38 rfl) ?_
  refine jo_g 35 rfl rfl (ly_ldq one28 rfl rfl) (hd 39 rfl) ?_
  refine jo_g 35 rfl rfl (ly_tt (ly_eq rfl rfl) rfl) (hd 40 rfl) ?_
  refine jo_l (ly_pick_t rfl rfl) (hd 41 rfl) ?_
  refine jo_l (ly_as rfl) (hd 0 rfl) ?_
  refine jo_nil ?_
  refine jc_ret ?_
  refine ⟨_, _, (.cons rfl .nil), .b, ?_⟩
  exact rfl

theorem LexNames_s  : Spec Try.prog 3 [] (fun o => o = .ret (.b true)) := by
  refine spec_of' [] rfl Try.func3 rfl (Nat.le_of_ble_eq_true rfl) fun Γ hN hds hL hR => ?_
  have hd : ∀ d, Nat.blt d 18 = true → d < Γ.N := fun d h => by rw [hN]; exact Nat.le_of_ble_eq_true h
  refine jc_seq ?_
  refine jc_region ?_
  refine jo_l (ly_as rfl) (hd 0 rfl) ?_
  refine jo_nil ?_
  refine jc_seq ?_
  refine jc_region ?_
  refine jo_call Try.f12 (num_s 140) rfl Try.func12 rfl rfl (ovL_cons rfl ovL_nil) (.cons .i .nil) (hd 1 rfl) ?_ (fun ch hp => by simp at hp)
  rintro y hy; injection hy with hy; subst hy
  refine jo_l (ly_tt (ly_eq rfl rfl) rfl) (hd 2 rfl) ?_
  refine jo_l (ly_mv rfl) (hd 3 rfl) ?_
  refine jo_callg Try.f12 3 rfl rfl (num_s 141) rfl Try.func12 rfl rfl (ovL_cons rfl ovL_nil) (.cons .i .nil) (hd 4 rfl) ?_ (fun ch hp => by simp at hp)
  rintro y hy; injection hy with hy; subst hy
  refine jo_g 3 rfl rfl (ly_tt (ly_eq rfl rfl) rfl) (hd 5 rfl) ?_
  refine jo_l (ly_pick_t rfl rfl) (hd 6 rfl) ?_
  refine jo_l (ly_mv rfl) (hd 7 rfl) ?_
  refine jo_l (ly_pick_t rfl rfl) (hd 8 rfl) ?_
  refine jo_l (ly_mv rfl) (hd 9 rfl) ?_
  refine jo_l (ly_pick_t rfl rfl) (hd 10 rfl) ?_
  refine jo_l (ly_mv rfl) (hd 11 rfl) ?_
  refine jo_l (ly_pick_t rfl rfl) (hd 12 rfl) ?_
  refine jo_l (ly_mv rfl) (hd 13 rfl) ?_
  refine jo_l (ly_pick_t rfl rfl) (hd 14 rfl) ?_
  refine jo_l (ly_mv rfl) (hd 15 rfl) ?_
  refine jo_callg Try.f13 15 rfl rfl (awake_s) rfl Try.func13 rfl rfl ovL_nil .nil (hd 16 rfl) ?_ (fun ch hp => by simp at hp)
  rintro y hy; injection hy with hy; subst hy
  refine jo_l (ly_pick_t rfl rfl) (hd 17 rfl) ?_
  refine jo_l (ly_as rfl) (hd 0 rfl) ?_
  refine jo_nil ?_
  refine jc_ret ?_
  refine ⟨_, _, (.cons rfl .nil), .b, ?_⟩
  exact rfl
end Go.Proofs.Ytnpbpiommpgikaa.Vc
