/- The contract of the document's Next. -/
import Derived.Test.YtnpbpiommpgikaaWd
set_option linter.unusedVariables false
set_option linter.unusedSimpArgs false
namespace Go.Proofs.Ytnpbpiommpgikaa.Vc
open Go Go.RowKit
theorem rrun2 (s : ByteArray) (j : Nat) (hj : j ≤ s.size) (hs : s.size < 4294967296) : Spec Try.prog 33 [.s s, .i .i64 (j : Int), .b false] (fun o => o = .ret (.i .i64 (runN s 2 j : Int))) := by
  refine spec_of' [(0, .s s), (1, .i .i64 (j : Int)), (2, .b false)] rfl Try.func33 rfl (Nat.le_of_ble_eq_true rfl) fun Γ hN hds hL hR => ?_
  have hd : ∀ d, Nat.blt d 33 = true → d < Γ.N := fun d h => by rw [hN]; exact Nat.le_of_ble_eq_true h
  refine jc_seq ?_
  refine jc_region ?_
  refine jo_l (ly_as rfl) (hd 6 rfl) ?_
  refine jo_nil ?_
  refine jc_seq ?_
  refine jc_block ?_
  refine jc_loopF (G := Nat) (fun k => j ≤ k ∧ k ≤ s.size ∧ runN s 2 k = runN s 2 j) (fun k => [(1, .i .i64 (k : Int)), (7, .u), (8, .u), (9, .u), (10, .u), (11, .u), (12, .u), (13, .u), (14, .u), (15, .u), (16, .u), (17, .u), (18, .u), (19, .u), (20, .u), (21, .u), (22, .u), (23, .u), (24, .u), (25, .u), (26, .u), (27, .u), (28, .u), (29, .u), (30, .u), (31, .u)]) (fun _ => _) (fun k => s.size - k) j ?_ ?_ rfl ?_
  · exact ⟨Nat.le_refl _, hj, rfl⟩
  · exact (.cons rfl (.u (.u (.u (.u (.u (.u (.u (.u (.u (.u (.u (.u (.u (.u (.u (.u (.u (.u (.u (.u (.u (.u (.u (.u (.u .nil))))))))))))))))))))))))))
  · rintro k ⟨hc1, hc2, hc3⟩
    refine jc_seq ?_
    refine jc_seq ?_
    refine jc_region ?_
    refine jo_l (ly_mv rfl) (hd 7 rfl) ?_
    refine jo_l (ly_mv rfl) (hd 8 rfl) ?_
    refine jo_l (ly_lens und9 rfl) (hd 9 rfl) ?_
    refine jo_l (ly_lt rfl rfl) (hd 10 rfl) ?_
    refine jo_l (ly_mv rfl) (hd 11 rfl) ?_
    refine jo_ifp 11 rfl (fun h1 => ?_) (fun h1 => ?_)
    · refine jo_g 11 rfl rfl (ly_mv rfl) (hd 12 rfl) ?_
      refine jo_g 11 rfl rfl (ly_not rfl) (hd 13 rfl) ?_
      refine jo_g 11 rfl rfl (ly_mv rfl) (hd 14 rfl) ?_
      refine jo_g 14 rfl rfl (ly_mv rfl) (hd 15 rfl) ?_
      refine jo_g 14 rfl rfl (ly_mv rfl) (hd 16 rfl) ?_
      refine jo_g 14 rfl rfl (ly_ixs (i := k) und9 rfl rfl (by first | rfl | omega) (by omega)) (hd 17 rfl) ?_
      refine jo_callg Try.f32 14 rfl rfl (digit_s _) rfl Try.func32 rfl rfl (ovL_cons rfl ovL_nil) (.cons .i .nil) (hd 18 rfl) ?_ (fun ch hp => by simp at hp)
      rintro y hy; injection hy with hy; subst hy
      refine jo_g 11 rfl rfl (ly_pick_t rfl rfl) (hd 19 rfl) ?_
      refine jo_g 11 rfl rfl (ly_mv rfl) (hd 20 rfl) ?_
      refine jo_ifp 20 rfl (fun h2 => ?_) (fun h2 => ?_)
      · refine jo_s 20 rfl rfl rfl (hd 21 rfl) ?_
        refine jo_s 20 rfl rfl rfl (hd 22 rfl) ?_
        refine jo_s' 22 rfl rfl (hd 23 rfl) ?_
        refine jo_s' 22 rfl rfl (hd 24 rfl) ?_
        refine jo_s' 22 rfl rfl (hd 25 rfl) ?_
        refine jo_s' 22 rfl rfl (hd 26 rfl) ?_
        refine jo_s 20 rfl rfl rfl (hd 27 rfl) ?_
        refine jo_g 11 rfl rfl (ly_pick_t rfl rfl) (hd 28 rfl) ?_
        refine jo_l (ly_pick_t rfl rfl) (hd 29 rfl) ?_
        refine jo_nil ?_
        refine jc_litt rfl ?_
        refine jc_skip ?_
        refine jc_block ?_
        refine jc_region ?_
        refine jo_l (ly_mv rfl) (hd 30 rfl) ?_
        refine jo_l (ly_add rfl rfl (wrap_i64 (by omega) (by omega))) (hd 31 rfl) ?_
        refine jo_l (ly_as rfl) (hd 1 rfl) ?_
        refine jo_nil ?_
        refine ⟨k + 1, ?_, ?_, rfl, cov_n 54 rfl rfl ?_⟩
        · exact ⟨by omega, by omega, by rw [← hc3, ← runN_step (by omega) (cls2.1 (by assumption))]⟩
        · omega
        · exact (.cons rfl (.u (.u (.u (.u (.u (.u (.u (.u (.u (.u (.u (.u (.u (.u (.u (.u (.u (.u (.u (.u (.u (.u (.u (.u (.u .nil))))))))))))))))))))))))))
      · refine jo_g 20 rfl rfl (ly_mv rfl) (hd 21 rfl) ?_
        refine jo_g 20 rfl rfl (ly_mv rfl) (hd 22 rfl) ?_
        refine jo_s 22 rfl rfl rfl (hd 23 rfl) ?_
        refine jo_s 22 rfl rfl rfl (hd 24 rfl) ?_
        refine jo_s 22 rfl rfl rfl (hd 25 rfl) ?_
        refine jo_s 22 rfl rfl rfl (hd 26 rfl) ?_
        refine jo_g 20 rfl rfl (ly_pick_f rfl rfl) (hd 27 rfl) ?_
        refine jo_g 11 rfl rfl (ly_pick_f rfl rfl) (hd 28 rfl) ?_
        refine jo_l (ly_pick_t rfl rfl) (hd 29 rfl) ?_
        refine jo_nil ?_
        refine jc_litf rfl ?_
        refine jc_exit ?_
        refine jc_seq ?_
        refine jc_region ?_
        refine jo_l (ly_mv rfl) (hd 32 rfl) ?_
        refine jo_l (ly_as rfl) (hd 6 rfl) ?_
        refine jo_nil ?_
        refine jc_ret ?_
        refine ⟨_, _, (.cons rfl .nil), .i, ?_⟩
        rw [← hc3, runN_end (by rintro ⟨a, b⟩; have := cls2.2 b; first | omega | (simp_all; done))]
    · refine jo_s 11 rfl rfl rfl (hd 12 rfl) ?_
      refine jo_s 11 rfl rfl rfl (hd 13 rfl) ?_
      refine jo_s 11 rfl rfl rfl (hd 14 rfl) ?_
      refine jo_s' 14 rfl rfl (hd 15 rfl) ?_
      refine jo_s' 14 rfl rfl (hd 16 rfl) ?_
      refine jo_s' 14 rfl rfl (hd 17 rfl) ?_
      refine jo_s' 14 rfl rfl (hd 18 rfl) ?_
      refine jo_s 11 rfl rfl rfl (hd 19 rfl) ?_
      refine jo_s 11 rfl rfl rfl (hd 20 rfl) ?_
      refine jo_s' 20 rfl rfl (hd 21 rfl) ?_
      refine jo_s' 20 rfl rfl (hd 22 rfl) ?_
      refine jo_s' 22 rfl rfl (hd 23 rfl) ?_
      refine jo_s' 22 rfl rfl (hd 24 rfl) ?_
      refine jo_s' 22 rfl rfl (hd 25 rfl) ?_
      refine jo_s' 22 rfl rfl (hd 26 rfl) ?_
      refine jo_s' 20 rfl rfl (hd 27 rfl) ?_
      refine jo_s 11 rfl rfl rfl (hd 28 rfl) ?_
      refine jo_l (ly_pick_f rfl rfl) (hd 29 rfl) ?_
      refine jo_nil ?_
      refine jc_litf rfl ?_
      refine jc_exit ?_
      refine jc_seq ?_
      refine jc_region ?_
      refine jo_l (ly_mv rfl) (hd 32 rfl) ?_
      refine jo_l (ly_as rfl) (hd 6 rfl) ?_
      refine jo_nil ?_
      refine jc_ret ?_
      refine ⟨_, _, (.cons rfl .nil), .i, ?_⟩
      rw [← hc3, runN_end (by rintro ⟨a, b⟩; have := cls2.2 b; first | omega | (simp_all; done))]

theorem rrun3 (s : ByteArray) (j : Nat) (hj : j ≤ s.size) (hs : s.size < 4294967296) : Spec Try.prog 33 [.s s, .i .i64 (j : Int), .b true] (fun o => o = .ret (.i .i64 (runN s 3 j : Int))) := by
  refine spec_of' [(0, .s s), (1, .i .i64 (j : Int)), (2, .b true)] rfl Try.func33 rfl (Nat.le_of_ble_eq_true rfl) fun Γ hN hds hL hR => ?_
  have hd : ∀ d, Nat.blt d 33 = true → d < Γ.N := fun d h => by rw [hN]; exact Nat.le_of_ble_eq_true h
  refine jc_seq ?_
  refine jc_region ?_
  refine jo_l (ly_as rfl) (hd 6 rfl) ?_
  refine jo_nil ?_
  refine jc_seq ?_
  refine jc_block ?_
  refine jc_loopF (G := Nat) (fun k => j ≤ k ∧ k ≤ s.size ∧ runN s 3 k = runN s 3 j) (fun k => [(1, .i .i64 (k : Int)), (7, .u), (8, .u), (9, .u), (10, .u), (11, .u), (12, .u), (13, .u), (14, .u), (15, .u), (16, .u), (17, .u), (18, .u), (19, .u), (20, .u), (21, .u), (22, .u), (23, .u), (24, .u), (25, .u), (26, .u), (27, .u), (28, .u), (29, .u), (30, .u), (31, .u)]) (fun _ => _) (fun k => s.size - k) j ?_ ?_ rfl ?_
  · exact ⟨Nat.le_refl _, hj, rfl⟩
  · exact (.cons rfl (.u (.u (.u (.u (.u (.u (.u (.u (.u (.u (.u (.u (.u (.u (.u (.u (.u (.u (.u (.u (.u (.u (.u (.u (.u .nil))))))))))))))))))))))))))
  · rintro k ⟨hc1, hc2, hc3⟩
    refine jc_seq ?_
    refine jc_seq ?_
    refine jc_region ?_
    refine jo_l (ly_mv rfl) (hd 7 rfl) ?_
    refine jo_l (ly_mv rfl) (hd 8 rfl) ?_
    refine jo_l (ly_lens und9 rfl) (hd 9 rfl) ?_
    refine jo_l (ly_lt rfl rfl) (hd 10 rfl) ?_
    refine jo_l (ly_mv rfl) (hd 11 rfl) ?_
    refine jo_ifp 11 rfl (fun h1 => ?_) (fun h1 => ?_)
    · refine jo_g 11 rfl rfl (ly_mv rfl) (hd 12 rfl) ?_
      refine jo_g 11 rfl rfl (ly_not rfl) (hd 13 rfl) ?_
      refine jo_g 11 rfl rfl (ly_mv rfl) (hd 14 rfl) ?_
      refine jo_s 14 rfl rfl rfl (hd 15 rfl) ?_
      refine jo_s 14 rfl rfl rfl (hd 16 rfl) ?_
      refine jo_s 14 rfl rfl rfl (hd 17 rfl) ?_
      refine jo_s 14 rfl rfl rfl (hd 18 rfl) ?_
      refine jo_g 11 rfl rfl (ly_pick_f rfl rfl) (hd 19 rfl) ?_
      refine jo_g 11 rfl rfl (ly_mv rfl) (hd 20 rfl) ?_
      refine jo_g 20 rfl rfl (ly_mv rfl) (hd 21 rfl) ?_
      refine jo_g 20 rfl rfl (ly_mv rfl) (hd 22 rfl) ?_
      refine jo_g 22 rfl rfl (ly_mv rfl) (hd 23 rfl) ?_
      refine jo_g 22 rfl rfl (ly_mv rfl) (hd 24 rfl) ?_
      refine jo_g 22 rfl rfl (ly_ixs (i := k) und9 rfl rfl (by first | rfl | omega) (by omega)) (hd 25 rfl) ?_
      refine jo_callg Try.f34 22 rfl rfl (letter_s _) rfl Try.func34 rfl rfl (ovL_cons rfl ovL_nil) (.cons .i .nil) (hd 26 rfl) ?_ (fun ch hp => by simp at hp)
      rintro y hy; injection hy with hy; subst hy
      refine jo_g 20 rfl rfl (ly_pick_t rfl rfl) (hd 27 rfl) ?_
      refine jo_g 11 rfl rfl (ly_pick_f rfl rfl) (hd 28 rfl) ?_
      refine jo_l (ly_pick_t rfl rfl) (hd 29 rfl) ?_
      refine jo_nil ?_
      refine jc_if rfl (fun h2 => ?_) (fun h2 => ?_)
      · refine jc_skip ?_
        refine jc_block ?_
        refine jc_region ?_
        refine jo_l (ly_mv rfl) (hd 30 rfl) ?_
        refine jo_l (ly_add rfl rfl (wrap_i64 (by omega) (by omega))) (hd 31 rfl) ?_
        refine jo_l (ly_as rfl) (hd 1 rfl) ?_
        refine jo_nil ?_
        refine ⟨k + 1, ?_, ?_, rfl, cov_n 53 rfl rfl ?_⟩
        · exact ⟨by omega, by omega, by rw [← hc3, ← runN_step (by omega) (cls3.1 (by assumption))]⟩
        · omega
        · exact (.cons rfl (.u (.u (.u (.u (.u (.u (.u (.u (.u (.u (.u (.u (.u (.u (.u (.u (.u (.u (.u (.u (.u (.u (.u (.u (.u .nil))))))))))))))))))))))))))
      · refine jc_exit ?_
        refine jc_seq ?_
        refine jc_region ?_
        refine jo_l (ly_mv rfl) (hd 32 rfl) ?_
        refine jo_l (ly_as rfl) (hd 6 rfl) ?_
        refine jo_nil ?_
        refine jc_ret ?_
        refine ⟨_, _, (.cons rfl .nil), .i, ?_⟩
        rw [← hc3, runN_end (by rintro ⟨a, b⟩; have := cls3.2 b; first | omega | (simp_all; done))]
    · refine jo_s 11 rfl rfl rfl (hd 12 rfl) ?_
      refine jo_s 11 rfl rfl rfl (hd 13 rfl) ?_
      refine jo_s 11 rfl rfl rfl (hd 14 rfl) ?_
      refine jo_s' 14 rfl rfl (hd 15 rfl) ?_
      refine jo_s' 14 rfl rfl (hd 16 rfl) ?_
      refine jo_s' 14 rfl rfl (hd 17 rfl) ?_
      refine jo_s' 14 rfl rfl (hd 18 rfl) ?_
      refine jo_s 11 rfl rfl rfl (hd 19 rfl) ?_
      refine jo_s 11 rfl rfl rfl (hd 20 rfl) ?_
      refine jo_s' 20 rfl rfl (hd 21 rfl) ?_
      refine jo_s' 20 rfl rfl (hd 22 rfl) ?_
      refine jo_s' 22 rfl rfl (hd 23 rfl) ?_
      refine jo_s' 22 rfl rfl (hd 24 rfl) ?_
      refine jo_s' 22 rfl rfl (hd 25 rfl) ?_
      refine jo_s' 22 rfl rfl (hd 26 rfl) ?_
      refine jo_s' 20 rfl rfl (hd 27 rfl) ?_
      refine jo_s 11 rfl rfl rfl (hd 28 rfl) ?_
      refine jo_l (ly_pick_f rfl rfl) (hd 29 rfl) ?_
      refine jo_nil ?_
      refine jc_litf rfl ?_
      refine jc_exit ?_
      refine jc_seq ?_
      refine jc_region ?_
      refine jo_l (ly_mv rfl) (hd 32 rfl) ?_
      refine jo_l (ly_as rfl) (hd 6 rfl) ?_
      refine jo_nil ?_
      refine jc_ret ?_
      refine ⟨_, _, (.cons rfl .nil), .i, ?_⟩
      rw [← hc3, runN_end (by rintro ⟨a, b⟩; have := cls3.2 b; first | omega | (simp_all; done))]

theorem refNext_s (s : ByteArray) (p : Nat) (hp : p ≤ s.size) (hs : s.size < 4294967296) : Spec Try.prog 19 [.s s, .i .i64 (p : Int)] (fun o => o = .ret (refV (nx s p))) := by
  refine spec_of' [(0, .s s), (1, .i .i64 (p : Int))] rfl Try.func19 rfl (Nat.le_of_ble_eq_true rfl) fun Γ hN hds hL hR => ?_
  have hd : ∀ d, Nat.blt d 93 = true → d < Γ.N := fun d h => by rw [hN]; exact Nat.le_of_ble_eq_true h
  obtain ⟨j, hj⟩ : ∃ j, runN s 1 p = j := ⟨_, rfl⟩
  have hjge := runN_ge s 1 p
  have hjle := runN_le s 1 p hp
  rw [hj] at hjge hjle
  have g3 := runN_ge s 3 j
  have l3 := runN_le s 3 j hjle
  have g2 := runN_ge s 2 j
  have l2 := runN_le s 2 j hjle
  refine jc_seq ?_
  refine jc_region ?_
  refine jo_h (hy_alloc (id := 0) zero40 (by decide) rfl (by decide) rfl) (hd 4 rfl) ?_
  refine jo_l (ly_as rfl) (hd 5 rfl) ?_
  refine jo_l (ly_as rfl) (hd 6 rfl) ?_
  refine jo_nil ?_
  refine jc_seq ?_
  refine jc_region ?_
  refine jo_l (ly_mv rfl) (hd 11 rfl) ?_
  refine jo_l (ly_as rfl) (hd 7 rfl) ?_
  refine jo_nil ?_
  refine jc_meetH (G := Unit) (fun _ => True) (fun _ => [(7, .i .i64 (j : Int)), (12, .u), (13, .u), (14, .u), (15, .u), (16, .u), (17, .u), (18, .u), (19, .u), (20, .u), (21, .u), (22, .u), (23, .u)]) ?_ ?_
  · refine jc_block ?_
    refine jc_loopF (G := Nat) (fun k => p ≤ k ∧ k ≤ s.size ∧ runN s 1 k = j) (fun k => [(7, .i .i64 (k : Int)), (12, .u), (13, .u), (14, .u), (15, .u), (16, .u), (17, .u), (18, .u), (19, .u), (20, .u), (21, .u), (22, .u), (23, .u)]) (fun _ => _) (fun k => s.size - k) p ?_ ?_ rfl ?_
    · exact ⟨Nat.le_refl _, hp, hj⟩
    · exact (.cons rfl (.u (.u (.u (.u (.u (.u (.u (.u (.u (.u (.u (.u .nil)))))))))))))
    · rintro k ⟨hc1, hc2, hc3⟩
      refine jc_seq ?_
      refine jc_seq ?_
      refine jc_region ?_
      refine jo_l (ly_mv rfl) (hd 12 rfl) ?_
      refine jo_l (ly_mv rfl) (hd 13 rfl) ?_
      refine jo_l (ly_lens und9 rfl) (hd 14 rfl) ?_
      refine jo_l (ly_lt rfl rfl) (hd 15 rfl) ?_
      refine jo_l (ly_mv rfl) (hd 16 rfl) ?_
      refine jo_ifp 16 rfl (fun h1 => ?_) (fun h1 => ?_)
      · refine jo_g 16 rfl rfl (ly_mv rfl) (hd 17 rfl) ?_
        refine jo_g 16 rfl rfl (ly_mv rfl) (hd 18 rfl) ?_
        refine jo_g 16 rfl rfl (ly_ixs (i := k) und9 rfl rfl (by first | rfl | omega) (by omega)) (hd 19 rfl) ?_
        refine jo_callg Try.f31 16 rfl rfl (rblank_s _) rfl Try.func31 rfl rfl (ovL_cons rfl ovL_nil) (.cons .i .nil) (hd 20 rfl) ?_ (fun ch hp => by simp at hp)
        rintro y hy; injection hy with hy; subst hy
        refine jo_l (ly_pick_t rfl rfl) (hd 21 rfl) ?_
        refine jo_nil ?_
        refine jc_if rfl (fun h2 => ?_) (fun h2 => ?_)
        · refine jc_skip ?_
          refine jc_block ?_
          refine jc_region ?_
          refine jo_l (ly_mv rfl) (hd 22 rfl) ?_
          refine jo_l (ly_add rfl rfl (wrap_i64 (by omega) (by omega))) (hd 23 rfl) ?_
          refine jo_l (ly_as rfl) (hd 7 rfl) ?_
          refine jo_nil ?_
          refine ⟨k + 1, ?_, ?_, rfl, cov_n 27 rfl rfl ?_⟩
          · exact ⟨by omega, by omega, by rw [← hc3, ← runN_step (by omega) (cls1.1 (by assumption))]⟩
          · omega
          · exact (.cons rfl (.u (.u (.u (.u (.u (.u (.u (.u (.u (.u (.u (.u .nil)))))))))))))
        · refine jc_exit ?_
          refine ⟨(), ?_, rfl, cov_n 24 rfl rfl ?_⟩
          · trivial
          · exact (.cons (by show some _ = some _; rw [show k = j from by rw [← hc3, runN_end (by rintro ⟨a, b⟩; have := cls1.2 b; first | omega | (simp_all; done))]]) (.u (.u (.u (.u (.u (.u (.u (.u (.u (.u (.u (.u .nil)))))))))))))
      · refine jo_s 16 rfl rfl rfl (hd 17 rfl) ?_
        refine jo_s 16 rfl rfl rfl (hd 18 rfl) ?_
        refine jo_s 16 rfl rfl rfl (hd 19 rfl) ?_
        refine jo_s 16 rfl rfl rfl (hd 20 rfl) ?_
        refine jo_l (ly_pick_f rfl rfl) (hd 21 rfl) ?_
        refine jo_nil ?_
        refine jc_litf rfl ?_
        refine jc_exit ?_
        refine ⟨(), ?_, rfl, cov_n 24 rfl rfl ?_⟩
        · trivial
        · exact (.cons (by show some _ = some _; rw [show k = j from by rw [← hc3, runN_end (by rintro ⟨a, b⟩; have := cls1.2 b; first | omega | (simp_all; done))]]) (.u (.u (.u (.u (.u (.u (.u (.u (.u (.u (.u (.u .nil)))))))))))))
  · rintro _ _
    refine jc_seq ?_
    refine jc_seq ?_
    refine jc_region ?_
    refine jo_l (ly_mv rfl) (hd 24 rfl) ?_
    refine jo_l (ly_mv rfl) (hd 25 rfl) ?_
    refine jo_l (ly_lens und9 rfl) (hd 26 rfl) ?_
    refine jo_l (ly_eq rfl rfl) (hd 27 rfl) ?_
    refine jo_nil ?_
    refine jc_if rfl (fun h4 => ?_) (fun h4 => ?_)
    · refine jc_seq ?_
      refine jc_region ?_
      refine jo_l (ly_mv rfl) (hd 28 rfl) ?_
      refine jo_l (ly_build (is := [0, 1, 2]) (xs := [.const (.int .i64 3), _, .tmp 28]) zero40 pls40_0_1_2 rfl (ovL_cons rfl (ovL_cons rfl (ovL_cons rfl ovL_nil))) rfl (by first | (simp [plsOk, cellsV]; done) | (simp [plsOk, cellsV, old]; done)) (all_of rfl) rfl) (hd 29 rfl) ?_
      refine jo_l (ly_mv rfl) (hd 30 rfl) ?_
      refine jo_st (sy_store rfl rfl rfl siz40 rfl rfl (Nat.le_of_ble_eq_true rfl)) ?_
      refine jo_l (ly_as rfl) (hd 5 rfl) ?_
      refine jo_l (ly_as rfl) (hd 6 rfl) ?_
      refine jo_nil ?_
      refine jc_ret ?_
      refine ⟨_, _, (.cons (ResV.cell agg40 rfl rfl rfl rfl) (.cons rfl (.cons rfl .nil))), (.t1 (.a1 .i (.a1 .s (.a1 .i .a0))) (.t1 .i (.t1 .i .t0))), ?_⟩
      rw [nx_end hj (by omega)]
      rfl
    · refine jc_skip ?_
      refine jc_seq ?_
      refine jc_region ?_
      refine jo_l (ly_mv rfl) (hd 31 rfl) ?_
      refine jo_l (ly_mv rfl) (hd 32 rfl) ?_
      refine jo_l (ly_ixs (i := j) und9 rfl rfl (by first | rfl | omega) (by omega)) (hd 33 rfl) ?_
      refine jo_l (ly_as rfl) (hd 8 rfl) ?_
      refine jo_nil ?_
      refine jc_seq ?_
      refine jc_seq ?_
      refine jc_region ?_
      refine jo_l (ly_mv rfl) (hd 34 rfl) ?_
      refine jo_call Try.f32 (digit_s _) rfl Try.func32 rfl rfl (ovL_cons rfl ovL_nil) (.cons .i .nil) (hd 35 rfl) ?_ (fun ch hp => by simp at hp)
      rintro y hy; injection hy with hy; subst hy
      refine jo_nil ?_
      refine jc_if rfl (fun h5 => ?_) (fun h5 => ?_)
      · refine jc_seq ?_
        refine jc_region ?_
        refine jo_l (ly_mv rfl) (hd 36 rfl) ?_
        refine jo_l (ly_mv rfl) (hd 37 rfl) ?_
        refine jo_call Try.f33 (rrun2 s j (by omega) hs) rfl Try.func33 rfl rfl (ovL_cons rfl (ovL_cons rfl (ovL_cons rfl ovL_nil))) (.cons .s (.cons .i (.cons .b .nil))) (hd 38 rfl) ?_ (fun ch hp => by simp at hp)
        rintro y hy; injection hy with hy; subst hy
        refine jo_l (ly_as rfl) (hd 9 rfl) ?_
        refine jo_nil ?_
        refine jc_seq ?_
        refine jc_seq ?_
        refine jc_region ?_
        refine jo_l (ly_mv rfl) (hd 39 rfl) ?_
        refine jo_l (ly_add rfl rfl (r := ((runN s 2 j + 1 : Nat) : Int)) (by rw [wrap_i64 (by omega) (by omega)]; omega)) (hd 40 rfl) ?_
        refine jo_l (ly_mv rfl) (hd 41 rfl) ?_
        refine jo_l (ly_lens und9 rfl) (hd 42 rfl) ?_
        refine jo_l (ly_lt rfl rfl) (hd 43 rfl) ?_
        refine jo_l (ly_mv rfl) (hd 44 rfl) ?_
        refine jo_ifp 44 rfl (fun h6 => ?_) (fun h6 => ?_)
        · refine jo_g 44 rfl rfl (ly_mv rfl) (hd 45 rfl) ?_
          refine jo_g 44 rfl rfl (ly_mv rfl) (hd 46 rfl) ?_
          refine jo_g 44 rfl rfl (ly_ixs (i := runN s 2 j) und9 rfl rfl (by first | rfl | omega) (by omega)) (hd 47 rfl) ?_
          refine jo_g 44 rfl rfl (ly_eq rfl rfl) (hd 48 rfl) ?_
          refine jo_l (ly_pick_t rfl rfl) (hd 49 rfl) ?_
          refine jo_l (ly_mv rfl) (hd 50 rfl) ?_
          refine jo_ifp 50 rfl (fun h7 => ?_) (fun h7 => ?_)
          · refine jo_g 50 rfl rfl (ly_mv rfl) (hd 51 rfl) ?_
            refine jo_g 50 rfl rfl (ly_mv rfl) (hd 52 rfl) ?_
            refine jo_g 50 rfl rfl (ly_add rfl rfl (r := ((runN s 2 j + 1 : Nat) : Int)) (by rw [wrap_i64 (by omega) (by omega)]; omega)) (hd 53 rfl) ?_
            refine jo_g 50 rfl rfl (ly_ixs (i := (runN s 2 j + 1)) und9 rfl rfl (by first | rfl | omega) (by omega)) (hd 54 rfl) ?_
            refine jo_callg Try.f32 50 rfl rfl (digit_s _) rfl Try.func32 rfl rfl (ovL_cons rfl ovL_nil) (.cons .i .nil) (hd 55 rfl) ?_ (fun ch hp => by simp at hp)
            rintro y hy; injection hy with hy; subst hy
            refine jo_l (ly_pick_t rfl rfl) (hd 56 rfl) ?_
            refine jo_nil ?_
            refine jc_if rfl (fun h8 => ?_) (fun h8 => ?_)
            · have g4 := runN_ge s 2 (runN s 2 j + 1)
              have l4 := runN_le s 2 (runN s 2 j + 1) (by omega)
              refine jc_region ?_
              refine jo_l (ly_mv rfl) (hd 57 rfl) ?_
              refine jo_l (ly_mv rfl) (hd 58 rfl) ?_
              refine jo_l (ly_add rfl rfl (r := ((runN s 2 j + 1 : Nat) : Int)) (by rw [wrap_i64 (by omega) (by omega)]; omega)) (hd 59 rfl) ?_
              refine jo_call Try.f33 (rrun2 s (runN s 2 j + 1) (by omega) hs) rfl Try.func33 rfl rfl (ovL_cons rfl (ovL_cons rfl (ovL_cons rfl ovL_nil))) (.cons .s (.cons .i (.cons .b .nil))) (hd 60 rfl) ?_ (fun ch hp => by simp at hp)
              rintro y hy; injection hy with hy; subst hy
              refine jo_l (ly_as rfl) (hd 9 rfl) ?_
              refine jo_nil ?_
              refine jc_seq ?_
              refine jc_region ?_
              refine jo_l (ly_mv rfl) (hd 61 rfl) ?_
              refine jo_l (ly_mv rfl) (hd 62 rfl) ?_
              refine jo_l (ly_mv rfl) (hd 63 rfl) ?_
              refine jo_l (ly_sls und9 rfl (bnd_some' rfl (by first | rfl | omega)) (bnd_some' rfl (by first | rfl | omega)) (by omega) (by omega)) (hd 64 rfl) ?_
              refine jo_l (ly_mv rfl) (hd 65 rfl) ?_
              refine jo_l (ly_build (is := [0, 1, 2]) (xs := [.const (.int .i64 0), .tmp 64, .tmp 65]) zero40 pls40_0_1_2 rfl (ovL_cons rfl (ovL_cons rfl (ovL_cons rfl ovL_nil))) rfl (by first | (simp [plsOk, cellsV]; done) | (simp [plsOk, cellsV, old]; done)) (all_of rfl) rfl) (hd 66 rfl) ?_
              refine jo_l (ly_mv rfl) (hd 67 rfl) ?_
              refine jo_st (sy_store rfl rfl rfl siz40 rfl rfl (Nat.le_of_ble_eq_true rfl)) ?_
              refine jo_l (ly_as rfl) (hd 5 rfl) ?_
              refine jo_l (ly_as rfl) (hd 6 rfl) ?_
              refine jo_nil ?_
              refine jc_ret ?_
              refine ⟨_, _, (.cons (ResV.cell agg40 rfl rfl rfl rfl) (.cons rfl (.cons rfl .nil))), (.t1 (.a1 .i (.a1 .s (.a1 .i .a0))) (.t1 .i (.t1 .i .t0))), ?_⟩
              rw [nx_num hj (by omega) (cls2.1 (by assumption)) (numEnd_dot (by omega) (by assumption) (cls2.1 (by assumption)))]
              rfl
            · refine jc_skip ?_
              refine jc_seq ?_
              refine jc_region ?_
              refine jo_l (ly_mv rfl) (hd 61 rfl) ?_
              refine jo_l (ly_mv rfl) (hd 62 rfl) ?_
              refine jo_l (ly_mv rfl) (hd 63 rfl) ?_
              refine jo_l (ly_sls und9 rfl (bnd_some' rfl (by first | rfl | omega)) (bnd_some' rfl (by first | rfl | omega)) (by omega) (by omega)) (hd 64 rfl) ?_
              refine jo_l (ly_mv rfl) (hd 65 rfl) ?_
              refine jo_l (ly_build (is := [0, 1, 2]) (xs := [.const (.int .i64 0), .tmp 64, .tmp 65]) zero40 pls40_0_1_2 rfl (ovL_cons rfl (ovL_cons rfl (ovL_cons rfl ovL_nil))) rfl (by first | (simp [plsOk, cellsV]; done) | (simp [plsOk, cellsV, old]; done)) (all_of rfl) rfl) (hd 66 rfl) ?_
              refine jo_l (ly_mv rfl) (hd 67 rfl) ?_
              refine jo_st (sy_store rfl rfl rfl siz40 rfl rfl (Nat.le_of_ble_eq_true rfl)) ?_
              refine jo_l (ly_as rfl) (hd 5 rfl) ?_
              refine jo_l (ly_as rfl) (hd 6 rfl) ?_
              refine jo_nil ?_
              refine jc_ret ?_
              refine ⟨_, _, (.cons (ResV.cell agg40 rfl rfl rfl rfl) (.cons rfl (.cons rfl .nil))), (.t1 (.a1 .i (.a1 .s (.a1 .i .a0))) (.t1 .i (.t1 .i .t0))), ?_⟩
              rw [nx_num hj (by omega) (cls2.1 (by assumption)) (numEnd_no (by rintro ⟨a, b, c⟩; have c2 := cls2.2 c; first | omega | (simp_all; done)))]
              rfl
          · refine jo_s 50 rfl rfl rfl (hd 51 rfl) ?_
            refine jo_s 50 rfl rfl rfl (hd 52 rfl) ?_
            refine jo_s 50 rfl rfl rfl (hd 53 rfl) ?_
            refine jo_s 50 rfl rfl rfl (hd 54 rfl) ?_
            refine jo_s 50 rfl rfl rfl (hd 55 rfl) ?_
            refine jo_l (ly_pick_f rfl rfl) (hd 56 rfl) ?_
            refine jo_nil ?_
            refine jc_litf rfl ?_
            refine jc_skip ?_
            refine jc_seq ?_
            refine jc_region ?_
            refine jo_l (ly_mv rfl) (hd 61 rfl) ?_
            refine jo_l (ly_mv rfl) (hd 62 rfl) ?_
            refine jo_l (ly_mv rfl) (hd 63 rfl) ?_
            refine jo_l (ly_sls und9 rfl (bnd_some' rfl (by first | rfl | omega)) (bnd_some' rfl (by first | rfl | omega)) (by omega) (by omega)) (hd 64 rfl) ?_
            refine jo_l (ly_mv rfl) (hd 65 rfl) ?_
            refine jo_l (ly_build (is := [0, 1, 2]) (xs := [.const (.int .i64 0), .tmp 64, .tmp 65]) zero40 pls40_0_1_2 rfl (ovL_cons rfl (ovL_cons rfl (ovL_cons rfl ovL_nil))) rfl (by first | (simp [plsOk, cellsV]; done) | (simp [plsOk, cellsV, old]; done)) (all_of rfl) rfl) (hd 66 rfl) ?_
            refine jo_l (ly_mv rfl) (hd 67 rfl) ?_
            refine jo_st (sy_store rfl rfl rfl siz40 rfl rfl (Nat.le_of_ble_eq_true rfl)) ?_
            refine jo_l (ly_as rfl) (hd 5 rfl) ?_
            refine jo_l (ly_as rfl) (hd 6 rfl) ?_
            refine jo_nil ?_
            refine jc_ret ?_
            refine ⟨_, _, (.cons (ResV.cell agg40 rfl rfl rfl rfl) (.cons rfl (.cons rfl .nil))), (.t1 (.a1 .i (.a1 .s (.a1 .i .a0))) (.t1 .i (.t1 .i .t0))), ?_⟩
            rw [nx_num hj (by omega) (cls2.1 (by assumption)) (numEnd_no (by rintro ⟨a, b, c⟩; have c2 := cls2.2 c; first | omega | (simp_all; done)))]
            rfl
        · refine jo_s 44 rfl rfl rfl (hd 45 rfl) ?_
          refine jo_s 44 rfl rfl rfl (hd 46 rfl) ?_
          refine jo_s 44 rfl rfl rfl (hd 47 rfl) ?_
          refine jo_s 44 rfl rfl rfl (hd 48 rfl) ?_
          refine jo_l (ly_pick_f rfl rfl) (hd 49 rfl) ?_
          refine jo_l (ly_mv rfl) (hd 50 rfl) ?_
          refine jo_s 50 rfl rfl rfl (hd 51 rfl) ?_
          refine jo_s 50 rfl rfl rfl (hd 52 rfl) ?_
          refine jo_s 50 rfl rfl rfl (hd 53 rfl) ?_
          refine jo_s 50 rfl rfl rfl (hd 54 rfl) ?_
          refine jo_s 50 rfl rfl rfl (hd 55 rfl) ?_
          refine jo_l (ly_pick_f rfl rfl) (hd 56 rfl) ?_
          refine jo_nil ?_
          refine jc_litf rfl ?_
          refine jc_skip ?_
          refine jc_seq ?_
          refine jc_region ?_
          refine jo_l (ly_mv rfl) (hd 61 rfl) ?_
          refine jo_l (ly_mv rfl) (hd 62 rfl) ?_
          refine jo_l (ly_mv rfl) (hd 63 rfl) ?_
          refine jo_l (ly_sls und9 rfl (bnd_some' rfl (by first | rfl | omega)) (bnd_some' rfl (by first | rfl | omega)) (by omega) (by omega)) (hd 64 rfl) ?_
          refine jo_l (ly_mv rfl) (hd 65 rfl) ?_
          refine jo_l (ly_build (is := [0, 1, 2]) (xs := [.const (.int .i64 0), .tmp 64, .tmp 65]) zero40 pls40_0_1_2 rfl (ovL_cons rfl (ovL_cons rfl (ovL_cons rfl ovL_nil))) rfl (by first | (simp [plsOk, cellsV]; done) | (simp [plsOk, cellsV, old]; done)) (all_of rfl) rfl) (hd 66 rfl) ?_
          refine jo_l (ly_mv rfl) (hd 67 rfl) ?_
          refine jo_st (sy_store rfl rfl rfl siz40 rfl rfl (Nat.le_of_ble_eq_true rfl)) ?_
          refine jo_l (ly_as rfl) (hd 5 rfl) ?_
          refine jo_l (ly_as rfl) (hd 6 rfl) ?_
          refine jo_nil ?_
          refine jc_ret ?_
          refine ⟨_, _, (.cons (ResV.cell agg40 rfl rfl rfl rfl) (.cons rfl (.cons rfl .nil))), (.t1 (.a1 .i (.a1 .s (.a1 .i .a0))) (.t1 .i (.t1 .i .t0))), ?_⟩
          rw [nx_num hj (by omega) (cls2.1 (by assumption)) (numEnd_no (by rintro ⟨a, b, c⟩; have c2 := cls2.2 c; first | omega | (simp_all; done)))]
          rfl
      · refine jc_skip ?_
        refine jc_seq ?_
        refine jc_seq ?_
        refine jc_region ?_
        refine jo_l (ly_mv rfl) (hd 68 rfl) ?_
        refine jo_call Try.f34 (letter_s _) rfl Try.func34 rfl rfl (ovL_cons rfl ovL_nil) (.cons .i .nil) (hd 69 rfl) ?_ (fun ch hp => by simp at hp)
        rintro y hy; injection hy with hy; subst hy
        refine jo_nil ?_
        refine jc_if rfl (fun h11 => ?_) (fun h11 => ?_)
        · refine jc_seq ?_
          refine jc_region ?_
          refine jo_l (ly_mv rfl) (hd 70 rfl) ?_
          refine jo_l (ly_mv rfl) (hd 71 rfl) ?_
          refine jo_call Try.f33 (rrun3 s j (by omega) hs) rfl Try.func33 rfl rfl (ovL_cons rfl (ovL_cons rfl (ovL_cons rfl ovL_nil))) (.cons .s (.cons .i (.cons .b .nil))) (hd 72 rfl) ?_ (fun ch hp => by simp at hp)
          rintro y hy; injection hy with hy; subst hy
          refine jo_l (ly_as rfl) (hd 10 rfl) ?_
          refine jo_nil ?_
          refine jc_seq ?_
          refine jc_region ?_
          refine jo_l (ly_mv rfl) (hd 73 rfl) ?_
          refine jo_l (ly_mv rfl) (hd 74 rfl) ?_
          refine jo_l (ly_mv rfl) (hd 75 rfl) ?_
          refine jo_l (ly_sls und9 rfl (bnd_some' rfl (by first | rfl | omega)) (bnd_some' rfl (by first | rfl | omega)) (by omega) (by omega)) (hd 76 rfl) ?_
          refine jo_l (ly_mv rfl) (hd 77 rfl) ?_
          refine jo_l (ly_build (is := [0, 1, 2]) (xs := [.const (.int .i64 1), .tmp 76, .tmp 77]) zero40 pls40_0_1_2 rfl (ovL_cons rfl (ovL_cons rfl (ovL_cons rfl ovL_nil))) rfl (by first | (simp [plsOk, cellsV]; done) | (simp [plsOk, cellsV, old]; done)) (all_of rfl) rfl) (hd 78 rfl) ?_
          refine jo_l (ly_mv rfl) (hd 79 rfl) ?_
          refine jo_st (sy_store rfl rfl rfl siz40 rfl rfl (Nat.le_of_ble_eq_true rfl)) ?_
          refine jo_l (ly_as rfl) (hd 5 rfl) ?_
          refine jo_l (ly_as rfl) (hd 6 rfl) ?_
          refine jo_nil ?_
          refine jc_ret ?_
          refine ⟨_, _, (.cons (ResV.cell agg40 rfl rfl rfl rfl) (.cons rfl (.cons rfl .nil))), (.t1 (.a1 .i (.a1 .s (.a1 .i .a0))) (.t1 .i (.t1 .i .t0))), ?_⟩
          rw [nx_word hj (by omega) (cls3.1 (by assumption))]
          rfl
        · refine jc_skip ?_
          refine jc_seq ?_
          refine jc_seq ?_
          refine jc_region ?_
          refine jo_l (ly_mv rfl) (hd 80 rfl) ?_
          refine jo_call Try.f35 (sign_s _) rfl Try.func35 rfl rfl (ovL_cons rfl ovL_nil) (.cons .i .nil) (hd 81 rfl) ?_ (fun ch hp => by simp at hp)
          rintro y hy; injection hy with hy; subst hy
          refine jo_nil ?_
          refine jc_if rfl (fun h12 => ?_) (fun h12 => ?_)
          · refine jc_seq ?_
            refine jc_region ?_
            refine jo_l (ly_mv rfl) (hd 82 rfl) ?_
            refine jo_l (ly_mv rfl) (hd 83 rfl) ?_
            refine jo_l (ly_mv rfl) (hd 84 rfl) ?_
            refine jo_l (ly_add rfl rfl (r := ((j + 1 : Nat) : Int)) (by rw [wrap_i64 (by omega) (by omega)]; omega)) (hd 85 rfl) ?_
            refine jo_l (ly_sls und9 rfl (bnd_some' rfl (by first | rfl | omega)) (bnd_some' rfl (by first | rfl | omega)) (by omega) (by omega)) (hd 86 rfl) ?_
            refine jo_l (ly_mv rfl) (hd 87 rfl) ?_
            refine jo_l (ly_build (is := [0, 1, 2]) (xs := [.const (.int .i64 2), .tmp 86, .tmp 87]) zero40 pls40_0_1_2 rfl (ovL_cons rfl (ovL_cons rfl (ovL_cons rfl ovL_nil))) rfl (by first | (simp [plsOk, cellsV]; done) | (simp [plsOk, cellsV, old]; done)) (all_of rfl) rfl) (hd 88 rfl) ?_
            refine jo_l (ly_mv rfl) (hd 89 rfl) ?_
            refine jo_l (ly_add rfl rfl (r := ((j + 1 : Nat) : Int)) (by rw [wrap_i64 (by omega) (by omega)]; omega)) (hd 90 rfl) ?_
            refine jo_st (sy_store rfl rfl rfl siz40 rfl rfl (Nat.le_of_ble_eq_true rfl)) ?_
            refine jo_l (ly_as rfl) (hd 5 rfl) ?_
            refine jo_l (ly_as rfl) (hd 6 rfl) ?_
            refine jo_nil ?_
            refine jc_ret ?_
            refine ⟨_, _, (.cons (ResV.cell agg40 rfl rfl rfl rfl) (.cons rfl (.cons rfl .nil))), (.t1 (.a1 .i (.a1 .s (.a1 .i .a0))) (.t1 .i (.t1 .i .t0))), ?_⟩
            rw [nx_sign hj (by omega) (cls4.1 (by assumption))]
            rfl
          · refine jc_skip ?_
            refine jc_seq ?_
            refine jc_region ?_
            refine jo_l (ly_build (is := []) (xs := []) (pls := []) zero40 pls40_ rfl ovL_nil rfl trivial (all_of rfl) rfl) (hd 91 rfl) ?_
            refine jo_l (ly_mv rfl) (hd 92 rfl) ?_
            refine jo_st (sy_store rfl rfl rfl siz40 rfl rfl (Nat.le_of_ble_eq_true rfl)) ?_
            refine jo_l (ly_as rfl) (hd 5 rfl) ?_
            refine jo_l (ly_as rfl) (hd 6 rfl) ?_
            refine jo_nil ?_
            refine jc_ret ?_
            refine ⟨_, _, (.cons (ResV.cell agg40 rfl rfl rfl rfl) (.cons rfl (.cons rfl .nil))), (.t1 (.a1 .i (.a1 .s (.a1 .i .a0))) (.t1 .i (.t1 .i .t0))), ?_⟩
            rw [nx_bad hj (by omega) (fun h => by have := cls4.2 h; contradiction) (fun h => by have := cls3.2 h; contradiction) (fun h => by have := cls2.2 h; contradiction)]
            rfl
end Go.Proofs.Ytnpbpiommpgikaa.Vc
