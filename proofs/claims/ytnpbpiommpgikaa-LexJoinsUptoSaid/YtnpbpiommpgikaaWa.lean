/- Contracts of the smallest functions: what a byte is. -/
import Derived.Test.YtnpbpiommpgikaaTy
set_option linter.unusedVariables false
set_option linter.unusedSimpArgs false
namespace Go.Proofs.Ytnpbpiommpgikaa.Vc
open Go Go.RowKit
theorem num_s (n : Int) : Spec Try.prog 12 [.i .i64 n] (fun o => o = .ret (.i .i64 n)) := by
  refine spec_of' [(0, .i .i64 n)] rfl Try.func12 rfl (Nat.le_of_ble_eq_true rfl) fun Γ hN hds hL hR => ?_
  have hd : ∀ d, Nat.blt d 4 = true → d < Γ.N := fun d h => by rw [hN]; exact Nat.le_of_ble_eq_true h
  refine jc_seq ?_
  refine jc_region ?_
  refine jo_l (ly_as rfl) (hd 2 rfl) ?_
  refine jo_nil ?_
  refine jc_seq ?_
  refine jc_region ?_
  refine jo_l (ly_mv rfl) (hd 3 rfl) ?_
  refine jo_l (ly_as rfl) (hd 2 rfl) ?_
  refine jo_nil ?_
  refine jc_ret ?_
  refine ⟨_, _, (.cons rfl .nil), .i, ?_⟩
  exact rfl

theorem digit_s (b : Int) : Spec Try.prog 32 [.i .u8 b] (fun o => o = .ret (.b (decide (48 ≤ b ∧ b ≤ 57)))) := by
  refine spec_of' [(0, .i .u8 b)] rfl Try.func32 rfl (Nat.le_of_ble_eq_true rfl) fun Γ hN hds hL hR => ?_
  have hd : ∀ d, Nat.blt d 9 = true → d < Γ.N := fun d h => by rw [hN]; exact Nat.le_of_ble_eq_true h
  refine jc_seq ?_
  refine jc_region ?_
  refine jo_l (ly_as rfl) (hd 2 rfl) ?_
  refine jo_nil ?_
  refine jc_seq ?_
  refine jc_region ?_
  refine jo_l (ly_mv rfl) (hd 3 rfl) ?_
  refine jo_l (ly_ge rfl rfl) (hd 4 rfl) ?_
  refine jo_l (ly_mv rfl) (hd 5 rfl) ?_
  refine jo_ifp 5 rfl (fun h1 => ?_) (fun h1 => ?_)
  · refine jo_g 5 rfl rfl (ly_mv rfl) (hd 6 rfl) ?_
    refine jo_g 5 rfl rfl (ly_le rfl rfl) (hd 7 rfl) ?_
    refine jo_l (ly_pick_t rfl rfl) (hd 8 rfl) ?_
    refine jo_l (ly_as rfl) (hd 2 rfl) ?_
    refine jo_nil ?_
    refine jc_ret ?_
    refine ⟨_, _, (.cons rfl .nil), .b, ?_⟩
    first | (simp_all; done) | (simp_all; omega)
  · refine jo_s 5 rfl rfl rfl (hd 6 rfl) ?_
    refine jo_s 5 rfl rfl rfl (hd 7 rfl) ?_
    refine jo_l (ly_pick_f rfl rfl) (hd 8 rfl) ?_
    refine jo_l (ly_as rfl) (hd 2 rfl) ?_
    refine jo_nil ?_
    refine jc_ret ?_
    refine ⟨_, _, (.cons rfl .nil), .b, ?_⟩
    first | (simp_all; done) | (simp_all; omega)

theorem letter_s (b : Int) : Spec Try.prog 34 [.i .u8 b] (fun o => o = .ret (.b (decide (97 ≤ b ∧ b ≤ 122)))) := by
  refine spec_of' [(0, .i .u8 b)] rfl Try.func34 rfl (Nat.le_of_ble_eq_true rfl) fun Γ hN hds hL hR => ?_
  have hd : ∀ d, Nat.blt d 9 = true → d < Γ.N := fun d h => by rw [hN]; exact Nat.le_of_ble_eq_true h
  refine jc_seq ?_
  refine jc_region ?_
  refine jo_l (ly_as rfl) (hd 2 rfl) ?_
  refine jo_nil ?_
  refine jc_seq ?_
  refine jc_region ?_
  refine jo_l (ly_mv rfl) (hd 3 rfl) ?_
  refine jo_l (ly_ge rfl rfl) (hd 4 rfl) ?_
  refine jo_l (ly_mv rfl) (hd 5 rfl) ?_
  refine jo_ifp 5 rfl (fun h1 => ?_) (fun h1 => ?_)
  · refine jo_g 5 rfl rfl (ly_mv rfl) (hd 6 rfl) ?_
    refine jo_g 5 rfl rfl (ly_le rfl rfl) (hd 7 rfl) ?_
    refine jo_l (ly_pick_t rfl rfl) (hd 8 rfl) ?_
    refine jo_l (ly_as rfl) (hd 2 rfl) ?_
    refine jo_nil ?_
    refine jc_ret ?_
    refine ⟨_, _, (.cons rfl .nil), .b, ?_⟩
    first | (simp_all; done) | (simp_all; omega)
  · refine jo_s 5 rfl rfl rfl (hd 6 rfl) ?_
    refine jo_s 5 rfl rfl rfl (hd 7 rfl) ?_
    refine jo_l (ly_pick_f rfl rfl) (hd 8 rfl) ?_
    refine jo_l (ly_as rfl) (hd 2 rfl) ?_
    refine jo_nil ?_
    refine jc_ret ?_
    refine ⟨_, _, (.cons rfl .nil), .b, ?_⟩
    first | (simp_all; done) | (simp_all; omega)

theorem rblank_s (b : Int) : Spec Try.prog 31 [.i .u8 b] (fun o => o = .ret (.b (decide (b = 9 ∨ b = 10 ∨ b = 13 ∨ b = 32)))) := by
  refine spec_of' [(0, .i .u8 b)] rfl Try.func31 rfl (Nat.le_of_ble_eq_true rfl) fun Γ hN hds hL hR => ?_
  have hd : ∀ d, Nat.blt d 17 = true → d < Γ.N := fun d h => by rw [hN]; exact Nat.le_of_ble_eq_true h
  refine jc_seq ?_
  refine jc_region ?_
  refine jo_l (ly_as rfl) (hd 2 rfl) ?_
  refine jo_nil ?_
  refine jc_seq ?_
  refine jc_region ?_
  refine jo_l (ly_mv rfl) (hd 3 rfl) ?_
  refine jo_l (ly_eq rfl rfl) (hd 4 rfl) ?_
  refine jo_l (ly_mv rfl) (hd 5 rfl) ?_
  refine jo_ifp 5 rfl (fun h1 => ?_) (fun h1 => ?_)
  · refine jo_s 5 rfl rfl rfl (hd 6 rfl) ?_
    refine jo_s 5 rfl rfl rfl (hd 7 rfl) ?_
    refine jo_l (ly_pick_t rfl rfl) (hd 8 rfl) ?_
    refine jo_l (ly_mv rfl) (hd 9 rfl) ?_
    refine jo_s 9 rfl rfl rfl (hd 10 rfl) ?_
    refine jo_s 9 rfl rfl rfl (hd 11 rfl) ?_
    refine jo_l (ly_pick_t rfl rfl) (hd 12 rfl) ?_
    refine jo_l (ly_mv rfl) (hd 13 rfl) ?_
    refine jo_s 13 rfl rfl rfl (hd 14 rfl) ?_
    refine jo_s 13 rfl rfl rfl (hd 15 rfl) ?_
    refine jo_l (ly_pick_t rfl rfl) (hd 16 rfl) ?_
    refine jo_l (ly_as rfl) (hd 2 rfl) ?_
    refine jo_nil ?_
    refine jc_ret ?_
    refine ⟨_, _, (.cons rfl .nil), .b, ?_⟩
    first | (simp_all; done) | (simp_all; omega)
  · refine jo_g 5 rfl rfl (ly_mv rfl) (hd 6 rfl) ?_
    refine jo_g 5 rfl rfl (ly_eq rfl rfl) (hd 7 rfl) ?_
    refine jo_l (ly_pick_f rfl rfl) (hd 8 rfl) ?_
    refine jo_l (ly_mv rfl) (hd 9 rfl) ?_
    refine jo_ifp 9 rfl (fun h2 => ?_) (fun h2 => ?_)
    · refine jo_s 9 rfl rfl rfl (hd 10 rfl) ?_
      refine jo_s 9 rfl rfl rfl (hd 11 rfl) ?_
      refine jo_l (ly_pick_t rfl rfl) (hd 12 rfl) ?_
      refine jo_l (ly_mv rfl) (hd 13 rfl) ?_
      refine jo_s 13 rfl rfl rfl (hd 14 rfl) ?_
      refine jo_s 13 rfl rfl rfl (hd 15 rfl) ?_
      refine jo_l (ly_pick_t rfl rfl) (hd 16 rfl) ?_
      refine jo_l (ly_as rfl) (hd 2 rfl) ?_
      refine jo_nil ?_
      refine jc_ret ?_
      refine ⟨_, _, (.cons rfl .nil), .b, ?_⟩
      first | (simp_all; done) | (simp_all; omega)
    · refine jo_g 9 rfl rfl (ly_mv rfl) (hd 10 rfl) ?_
      refine jo_g 9 rfl rfl (ly_eq rfl rfl) (hd 11 rfl) ?_
      refine jo_l (ly_pick_f rfl rfl) (hd 12 rfl) ?_
      refine jo_l (ly_mv rfl) (hd 13 rfl) ?_
      refine jo_ifp 13 rfl (fun h3 => ?_) (fun h3 => ?_)
      · refine jo_s 13 rfl rfl rfl (hd 14 rfl) ?_
        refine jo_s 13 rfl rfl rfl (hd 15 rfl) ?_
        refine jo_l (ly_pick_t rfl rfl) (hd 16 rfl) ?_
        refine jo_l (ly_as rfl) (hd 2 rfl) ?_
        refine jo_nil ?_
        refine jc_ret ?_
        refine ⟨_, _, (.cons rfl .nil), .b, ?_⟩
        first | (simp_all; done) | (simp_all; omega)
      · refine jo_g 13 rfl rfl (ly_mv rfl) (hd 14 rfl) ?_
        refine jo_g 13 rfl rfl (ly_eq rfl rfl) (hd 15 rfl) ?_
        refine jo_l (ly_pick_f rfl rfl) (hd 16 rfl) ?_
        refine jo_l (ly_as rfl) (hd 2 rfl) ?_
        refine jo_nil ?_
        refine jc_ret ?_
        refine ⟨_, _, (.cons rfl .nil), .b, ?_⟩
        first | (simp_all; done) | (simp_all; omega)

theorem blank_s (b : Int) : Spec Try.prog 15 [.i .u8 b] (fun o => o = .ret (.b (decide (b = 9 ∨ b = 10 ∨ b = 13 ∨ b = 32)))) := by
  refine spec_of' [(0, .i .u8 b)] rfl Try.func15 rfl (Nat.le_of_ble_eq_true rfl) fun Γ hN hds hL hR => ?_
  have hd : ∀ d, Nat.blt d 17 = true → d < Γ.N := fun d h => by rw [hN]; exact Nat.le_of_ble_eq_true h
  refine jc_seq ?_
  refine jc_region ?_
  refine jo_l (ly_as rfl) (hd 2 rfl) ?_
  refine jo_nil ?_
  refine jc_seq ?_
  refine jc_region ?_
  refine jo_l (ly_mv rfl) (hd 3 rfl) ?_
  refine jo_l (ly_eq rfl rfl) (hd 4 rfl) ?_
  refine jo_l (ly_mv rfl) (hd 5 rfl) ?_
  refine jo_ifp 5 rfl (fun h1 => ?_) (fun h1 => ?_)
  · refine jo_s 5 rfl rfl rfl (hd 6 rfl) ?_
    refine jo_s 5 rfl rfl rfl (hd 7 rfl) ?_
    refine jo_l (ly_pick_t rfl rfl) (hd 8 rfl) ?_
    refine jo_l (ly_mv rfl) (hd 9 rfl) ?_
    refine jo_s 9 rfl rfl rfl (hd 10 rfl) ?_
    refine jo_s 9 rfl rfl rfl (hd 11 rfl) ?_
    refine jo_l (ly_pick_t rfl rfl) (hd 12 rfl) ?_
    refine jo_l (ly_mv rfl) (hd 13 rfl) ?_
    refine jo_s 13 rfl rfl rfl (hd 14 rfl) ?_
    refine jo_s 13 rfl rfl rfl (hd 15 rfl) ?_
    refine jo_l (ly_pick_t rfl rfl) (hd 16 rfl) ?_
    refine jo_l (ly_as rfl) (hd 2 rfl) ?_
    refine jo_nil ?_
    refine jc_ret ?_
    refine ⟨_, _, (.cons rfl .nil), .b, ?_⟩
    first | (simp_all; done) | (simp_all; omega)
  · refine jo_g 5 rfl rfl (ly_mv rfl) (hd 6 rfl) ?_
    refine jo_g 5 rfl rfl (ly_eq rfl rfl) (hd 7 rfl) ?_
    refine jo_l (ly_pick_f rfl rfl) (hd 8 rfl) ?_
    refine jo_l (ly_mv rfl) (hd 9 rfl) ?_
    refine jo_ifp 9 rfl (fun h2 => ?_) (fun h2 => ?_)
    · refine jo_s 9 rfl rfl rfl (hd 10 rfl) ?_
      refine jo_s 9 rfl rfl rfl (hd 11 rfl) ?_
      refine jo_l (ly_pick_t rfl rfl) (hd 12 rfl) ?_
      refine jo_l (ly_mv rfl) (hd 13 rfl) ?_
      refine jo_s 13 rfl rfl rfl (hd 14 rfl) ?_
      refine jo_s 13 rfl rfl rfl (hd 15 rfl) ?_
      refine jo_l (ly_pick_t rfl rfl) (hd 16 rfl) ?_
      refine jo_l (ly_as rfl) (hd 2 rfl) ?_
      refine jo_nil ?_
      refine jc_ret ?_
      refine ⟨_, _, (.cons rfl .nil), .b, ?_⟩
      first | (simp_all; done) | (simp_all; omega)
    · refine jo_g 9 rfl rfl (ly_mv rfl) (hd 10 rfl) ?_
      refine jo_g 9 rfl rfl (ly_eq rfl rfl) (hd 11 rfl) ?_
      refine jo_l (ly_pick_f rfl rfl) (hd 12 rfl) ?_
      refine jo_l (ly_mv rfl) (hd 13 rfl) ?_
      refine jo_ifp 13 rfl (fun h3 => ?_) (fun h3 => ?_)
      · refine jo_s 13 rfl rfl rfl (hd 14 rfl) ?_
        refine jo_s 13 rfl rfl rfl (hd 15 rfl) ?_
        refine jo_l (ly_pick_t rfl rfl) (hd 16 rfl) ?_
        refine jo_l (ly_as rfl) (hd 2 rfl) ?_
        refine jo_nil ?_
        refine jc_ret ?_
        refine ⟨_, _, (.cons rfl .nil), .b, ?_⟩
        first | (simp_all; done) | (simp_all; omega)
      · refine jo_g 13 rfl rfl (ly_mv rfl) (hd 14 rfl) ?_
        refine jo_g 13 rfl rfl (ly_eq rfl rfl) (hd 15 rfl) ?_
        refine jo_l (ly_pick_f rfl rfl) (hd 16 rfl) ?_
        refine jo_l (ly_as rfl) (hd 2 rfl) ?_
        refine jo_nil ?_
        refine jc_ret ?_
        refine ⟨_, _, (.cons rfl .nil), .b, ?_⟩
        first | (simp_all; done) | (simp_all; omega)

theorem sign_s (b : Int) : Spec Try.prog 35 [.i .u8 b] (fun o => o = .ret (.b (decide (b = 40 ∨ b = 41 ∨ b = 44 ∨ b = 43 ∨ b = 45 ∨ b = 42 ∨ b = 47)))) := by
  refine spec_of' [(0, .i .u8 b)] rfl Try.func35 rfl (Nat.le_of_ble_eq_true rfl) fun Γ hN hds hL hR => ?_
  have hd : ∀ d, Nat.blt d 29 = true → d < Γ.N := fun d h => by rw [hN]; exact Nat.le_of_ble_eq_true h
  refine jc_seq ?_
  refine jc_region ?_
  refine jo_l (ly_as rfl) (hd 2 rfl) ?_
  refine jo_nil ?_
  refine jc_seq ?_
  refine jc_region ?_
  refine jo_l (ly_mv rfl) (hd 3 rfl) ?_
  refine jo_l (ly_eq rfl rfl) (hd 4 rfl) ?_
  refine jo_l (ly_mv rfl) (hd 5 rfl) ?_
  refine jo_ifp 5 rfl (fun h1 => ?_) (fun h1 => ?_)
  · refine jo_s 5 rfl rfl rfl (hd 6 rfl) ?_
    refine jo_s 5 rfl rfl rfl (hd 7 rfl) ?_
    refine jo_l (ly_pick_t rfl rfl) (hd 8 rfl) ?_
    refine jo_l (ly_mv rfl) (hd 9 rfl) ?_
    refine jo_s 9 rfl rfl rfl (hd 10 rfl) ?_
    refine jo_s 9 rfl rfl rfl (hd 11 rfl) ?_
    refine jo_l (ly_pick_t rfl rfl) (hd 12 rfl) ?_
    refine jo_l (ly_mv rfl) (hd 13 rfl) ?_
    refine jo_s 13 rfl rfl rfl (hd 14 rfl) ?_
    refine jo_s 13 rfl rfl rfl (hd 15 rfl) ?_
    refine jo_l (ly_pick_t rfl rfl) (hd 16 rfl) ?_
    refine jo_l (ly_mv rfl) (hd 17 rfl) ?_
    refine jo_s 17 rfl rfl rfl (hd 18 rfl) ?_
    refine jo_s 17 rfl rfl rfl (hd 19 rfl) ?_
    refine jo_l (ly_pick_t rfl rfl) (hd 20 rfl) ?_
    refine jo_l (ly_mv rfl) (hd 21 rfl) ?_
    refine jo_s 21 rfl rfl rfl (hd 22 rfl) ?_
    refine jo_s 21 rfl rfl rfl (hd 23 rfl) ?_
    refine jo_l (ly_pick_t rfl rfl) (hd 24 rfl) ?_
    refine jo_l (ly_mv rfl) (hd 25 rfl) ?_
    refine jo_s 25 rfl rfl rfl (hd 26 rfl) ?_
    refine jo_s 25 rfl rfl rfl (hd 27 rfl) ?_
    refine jo_l (ly_pick_t rfl rfl) (hd 28 rfl) ?_
    refine jo_l (ly_as rfl) (hd 2 rfl) ?_
    refine jo_nil ?_
    refine jc_ret ?_
    refine ⟨_, _, (.cons rfl .nil), .b, ?_⟩
    first | (simp_all; done) | (simp_all; omega)
  · refine jo_g 5 rfl rfl (ly_mv rfl) (hd 6 rfl) ?_
    refine jo_g 5 rfl rfl (ly_eq rfl rfl) (hd 7 rfl) ?_
    refine jo_l (ly_pick_f rfl rfl) (hd 8 rfl) ?_
    refine jo_l (ly_mv rfl) (hd 9 rfl) ?_
    refine jo_ifp 9 rfl (fun h2 => ?_) (fun h2 => ?_)
    · refine jo_s 9 rfl rfl rfl (hd 10 rfl) ?_
      refine jo_s 9 rfl rfl rfl (hd 11 rfl) ?_
      refine jo_l (ly_pick_t rfl rfl) (hd 12 rfl) ?_
      refine jo_l (ly_mv rfl) (hd 13 rfl) ?_
      refine jo_s 13 rfl rfl rfl (hd 14 rfl) ?_
      refine jo_s 13 rfl rfl rfl (hd 15 rfl) ?_
      refine jo_l (ly_pick_t rfl rfl) (hd 16 rfl) ?_
      refine jo_l (ly_mv rfl) (hd 17 rfl) ?_
      refine jo_s 17 rfl rfl rfl (hd 18 rfl) ?_
      refine jo_s 17 rfl rfl rfl (hd 19 rfl) ?_
      refine jo_l (ly_pick_t rfl rfl) (hd 20 rfl) ?_
      refine jo_l (ly_mv rfl) (hd 21 rfl) ?_
      refine jo_s 21 rfl rfl rfl (hd 22 rfl) ?_
      refine jo_s 21 rfl rfl rfl (hd 23 rfl) ?_
      refine jo_l (ly_pick_t rfl rfl) (hd 24 rfl) ?_
      refine jo_l (ly_mv rfl) (hd 25 rfl) ?_
      refine jo_s 25 rfl rfl rfl (hd 26 rfl) ?_
      refine jo_s 25 rfl rfl rfl (hd 27 rfl) ?_
      refine jo_l (ly_pick_t rfl rfl) (hd 28 rfl) ?_
      refine jo_l (ly_as rfl) (hd 2 rfl) ?_
      refine jo_nil ?_
      refine jc_ret ?_
      refine ⟨_, _, (.cons rfl .nil), .b, ?_⟩
      first | (simp_all; done) | (simp_all; omega)
    · refine jo_g 9 rfl rfl (ly_mv rfl) (hd 10 rfl) ?_
      refine jo_g 9 rfl rfl (ly_eq rfl rfl) (hd 11 rfl) ?_
      refine jo_l (ly_pick_f rfl rfl) (hd 12 rfl) ?_
      refine jo_l (ly_mv rfl) (hd 13 rfl) ?_
      refine jo_ifp 13 rfl (fun h3 => ?_) (fun h3 => ?_)
      · refine jo_s 13 rfl rfl rfl (hd 14 rfl) ?_
        refine jo_s 13 rfl rfl rfl (hd 15 rfl) ?_
        refine jo_l (ly_pick_t rfl rfl) (hd 16 rfl) ?_
        refine jo_l (ly_mv rfl) (hd 17 rfl) ?_
        refine jo_s 17 rfl rfl rfl (hd 18 rfl) ?_
        refine jo_s 17 rfl rfl rfl (hd 19 rfl) ?_
        refine jo_l (ly_pick_t rfl rfl) (hd 20 rfl) ?_
        refine jo_l (ly_mv rfl) (hd 21 rfl) ?_
        refine jo_s 21 rfl rfl rfl (hd 22 rfl) ?_
        refine jo_s 21 rfl rfl rfl (hd 23 rfl) ?_
        refine jo_l (ly_pick_t rfl rfl) (hd 24 rfl) ?_
        refine jo_l (ly_mv rfl) (hd 25 rfl) ?_
        refine jo_s 25 rfl rfl rfl (hd 26 rfl) ?_
        refine jo_s 25 rfl rfl rfl (hd 27 rfl) ?_
        refine jo_l (ly_pick_t rfl rfl) (hd 28 rfl) ?_
        refine jo_l (ly_as rfl) (hd 2 rfl) ?_
        refine jo_nil ?_
        refine jc_ret ?_
        refine ⟨_, _, (.cons rfl .nil), .b, ?_⟩
        first | (simp_all; done) | (simp_all; omega)
      · refine jo_g 13 rfl rfl (ly_mv rfl) (hd 14 rfl) ?_
        refine jo_g 13 rfl rfl (ly_eq rfl rfl) (hd 15 rfl) ?_
        refine jo_l (ly_pick_f rfl rfl) (hd 16 rfl) ?_
        refine jo_l (ly_mv rfl) (hd 17 rfl) ?_
        refine jo_ifp 17 rfl (fun h4 => ?_) (fun h4 => ?_)
        · refine jo_s 17 rfl rfl rfl (hd 18 rfl) ?_
          refine jo_s 17 rfl rfl rfl (hd 19 rfl) ?_
          refine jo_l (ly_pick_t rfl rfl) (hd 20 rfl) ?_
          refine jo_l (ly_mv rfl) (hd 21 rfl) ?_
          refine jo_s 21 rfl rfl rfl (hd 22 rfl) ?_
          refine jo_s 21 rfl rfl rfl (hd 23 rfl) ?_
          refine jo_l (ly_pick_t rfl rfl) (hd 24 rfl) ?_
          refine jo_l (ly_mv rfl) (hd 25 rfl) ?_
          refine jo_s 25 rfl rfl rfl (hd 26 rfl) ?_
          refine jo_s 25 rfl rfl rfl (hd 27 rfl) ?_
          refine jo_l (ly_pick_t rfl rfl) (hd 28 rfl) ?_
          refine jo_l (ly_as rfl) (hd 2 rfl) ?_
          refine jo_nil ?_
          refine jc_ret ?_
          refine ⟨_, _, (.cons rfl .nil), .b, ?_⟩
          first | (simp_all; done) | (simp_all; omega)
        · refine jo_g 17 rfl rfl (ly_mv rfl) (hd 18 rfl) ?_
          refine jo_g 17 rfl rfl (ly_eq rfl rfl) (hd 19 rfl) ?_
          refine jo_l (ly_pick_f rfl rfl) (hd 20 rfl) ?_
          refine jo_l (ly_mv rfl) (hd 21 rfl) ?_
          refine jo_ifp 21 rfl (fun h5 => ?_) (fun h5 => ?_)
          · refine jo_s 21 rfl rfl rfl (hd 22 rfl) ?_
            refine jo_s 21 rfl rfl rfl (hd 23 rfl) ?_
            refine jo_l (ly_pick_t rfl rfl) (hd 24 rfl) ?_
            refine jo_l (ly_mv rfl) (hd 25 rfl) ?_
            refine jo_s 25 rfl rfl rfl (hd 26 rfl) ?_
            refine jo_s 25 rfl rfl rfl (hd 27 rfl) ?_
            refine jo_l (ly_pick_t rfl rfl) (hd 28 rfl) ?_
            refine jo_l (ly_as rfl) (hd 2 rfl) ?_
            refine jo_nil ?_
            refine jc_ret ?_
            refine ⟨_, _, (.cons rfl .nil), .b, ?_⟩
            first | (simp_all; done) | (simp_all; omega)
          · refine jo_g 21 rfl rfl (ly_mv rfl) (hd 22 rfl) ?_
            refine jo_g 21 rfl rfl (ly_eq rfl rfl) (hd 23 rfl) ?_
            refine jo_l (ly_pick_f rfl rfl) (hd 24 rfl) ?_
            refine jo_l (ly_mv rfl) (hd 25 rfl) ?_
            refine jo_ifp 25 rfl (fun h6 => ?_) (fun h6 => ?_)
            · refine jo_s 25 rfl rfl rfl (hd 26 rfl) ?_
              refine jo_s 25 rfl rfl rfl (hd 27 rfl) ?_
              refine jo_l (ly_pick_t rfl rfl) (hd 28 rfl) ?_
              refine jo_l (ly_as rfl) (hd 2 rfl) ?_
              refine jo_nil ?_
              refine jc_ret ?_
              refine ⟨_, _, (.cons rfl .nil), .b, ?_⟩
              first | (simp_all; done) | (simp_all; omega)
            · refine jo_g 25 rfl rfl (ly_mv rfl) (hd 26 rfl) ?_
              refine jo_g 25 rfl rfl (ly_eq rfl rfl) (hd 27 rfl) ?_
              refine jo_l (ly_pick_f rfl rfl) (hd 28 rfl) ?_
              refine jo_l (ly_as rfl) (hd 2 rfl) ?_
              refine jo_nil ?_
              refine jc_ret ?_
              refine ⟨_, _, (.cons rfl .nil), .b, ?_⟩
              first | (simp_all; done) | (simp_all; omega)
end Go.Proofs.Ytnpbpiommpgikaa.Vc
