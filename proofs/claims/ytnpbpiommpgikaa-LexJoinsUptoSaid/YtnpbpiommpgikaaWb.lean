/- The contract of lex.run. -/
import Derived.Test.YtnpbpiommpgikaaWa
import Derived.Test.YtnpbpiommpgikaaMa
set_option linter.unusedVariables false
set_option linter.unusedSimpArgs false
namespace Go.Proofs.Ytnpbpiommpgikaa.Vc
open Go Go.RowKit
theorem run_s (s : ByteArray) (j : Nat) (c : Int) (hj : j ≤ s.size) (hs : s.size < 4611686018427387904) : Spec Try.prog 42 [.q tbl, .s s, .i .i64 (j : Int), .i .i64 c] (fun o => o = .ret (.i .i64 (runN s c j : Int))) := by
  refine spec_of' [(0, .q tbl), (1, .s s), (2, .i .i64 (j : Int)), (3, .i .i64 c)] rfl Try.func42 rfl (Nat.le_of_ble_eq_true rfl) fun Γ hN hds hL hR => ?_
  have hd : ∀ d, Nat.blt d 27 = true → d < Γ.N := fun d h => by rw [hN]; exact Nat.le_of_ble_eq_true h
  refine jc_seq ?_
  refine jc_region ?_
  refine jo_l (ly_as rfl) (hd 8 rfl) ?_
  refine jo_nil ?_
  refine jc_seq ?_
  refine jc_block ?_
  refine jc_loopF (G := Nat) (fun k => j ≤ k ∧ k ≤ s.size ∧ runN s c k = runN s c j) (fun k => [(2, .i .i64 (k : Int)), (9, .u), (10, .u), (11, .u), (12, .u), (13, .u), (14, .u), (15, .u), (16, .u), (17, .u), (18, .u), (19, .u), (20, .u), (21, .u), (22, .u), (23, .u), (24, .u), (25, .u)]) (fun _ => _) (fun k => s.size - k) j ?_ ?_ rfl ?_
  · exact ⟨Nat.le_refl _, hj, rfl⟩
  · exact (.cons rfl (.u (.u (.u (.u (.u (.u (.u (.u (.u (.u (.u (.u (.u (.u (.u (.u (.u .nil))))))))))))))))))
  · rintro k ⟨hc1, hc2, hc3⟩
    refine jc_seq ?_
    refine jc_seq ?_
    refine jc_draw (n := 15) _ rfl mixed ?_
    refine ja_l 0 (lo_l (ly_mv rfl) (hd 9 rfl)) rfl (by kernel_rfl) (by kernel_rfl) (by kernel_rfl) (fun _ _ _ _ h => h) ?_
    refine ja_l 1 (lo_l (ly_mv rfl) (hd 10 rfl)) rfl (by kernel_rfl) (by kernel_rfl) (by kernel_rfl) (fun _ _ _ _ h => h) ?_
    refine ja_l 2 (lo_l (ly_lens und9 rfl) (hd 11 rfl)) rfl (by kernel_rfl) (by kernel_rfl) (by kernel_rfl) (fun _ _ _ _ h => h) ?_
    refine ja_l 3 (lo_l (ly_lt rfl rfl) (hd 12 rfl)) rfl (by kernel_rfl) (by kernel_rfl) (by kernel_rfl) (fun _ _ _ _ h => h) ?_
    refine ja_l 4 (lo_l (ly_mv rfl) (hd 13 rfl)) rfl (by kernel_rfl) (by kernel_rfl) (by kernel_rfl) (fun _ _ _ _ h => h) ?_
    refine ja_ifp 13 rfl (fun h1 => ?_) (fun h1 => ?_)
    · refine ja_l 5 (lo_g 13 rfl rfl (ly_mv rfl) (hd 14 rfl)) rfl (by kernel_rfl) (by kernel_rfl) (by kernel_rfl) (fun _ _ _ _ h => h) ?_
      refine ja_l 6 (lo_g 13 rfl rfl (ly_mv rfl) (hd 15 rfl)) rfl (by kernel_rfl) (by kernel_rfl) (by kernel_rfl) (fun _ _ _ _ h => h) ?_
      refine ja_l 7 (lo_g 13 rfl rfl (ly_mv rfl) (hd 16 rfl)) rfl (by kernel_rfl) (by kernel_rfl) (by kernel_rfl) (fun _ _ _ _ h => h) ?_
      refine ja_l 8 (lo_g 13 rfl rfl (ly_ixs (i := k) und9 rfl rfl (by first | rfl | omega) (by omega)) (hd 17 rfl)) rfl (by kernel_rfl) (by kernel_rfl) (by kernel_rfl) (fun _ _ _ _ h => h) ?_
      refine ja_l 9 (lo_g 13 rfl rfl (ly_nilq rfl) (hd 18 rfl)) rfl (by kernel_rfl) (by kernel_rfl) (by kernel_rfl) (fun _ _ _ _ h => h) ?_
      refine ja_l 10 (lo_g 13 rfl rfl (ly_iaq (i := (byteAt s k).toNat) ar63 rfl rfl (by have := byteAt_range s k; omega) (by have := byteAt_range s k; omega) rfl) (hd 19 rfl)) rfl (by kernel_rfl) (by kernel_rfl) (by kernel_rfl) (fun _ _ _ _ h => h) ?_
      refine ja_l 11 (lo_g 13 rfl rfl (ly_ldqz one62 rfl (tbl_at (byteAt_range s k).1 (byteAt_range s k).2) rfl) (hd 20 rfl)) rfl (by kernel_rfl) (by kernel_rfl) (by kernel_rfl) (fun _ _ _ _ h => h) ?_
      refine ja_l 12 (lo_g 13 rfl rfl (ly_mv rfl) (hd 21 rfl)) rfl (by kernel_rfl) (by kernel_rfl) (by kernel_rfl) (fun _ _ _ _ h => h) ?_
      refine ja_l 13 (lo_g 13 rfl rfl (ly_eq rfl rfl) (hd 22 rfl)) rfl (by kernel_rfl) (by kernel_rfl) (by kernel_rfl) (fun _ _ _ _ h => h) ?_
      refine ja_l 14 (lo_l (ly_pick_t rfl rfl) (hd 23 rfl)) rfl (by kernel_rfl) (by kernel_rfl) (by kernel_rfl) (fun _ _ _ _ h => h) ?_
      refine ja_nil (by kernel_rfl) ?_
      refine jc_if rfl (fun h2 => ?_) (fun h2 => ?_)
      · refine jc_skip ?_
        refine jc_block ?_
        refine jc_region ?_
        refine jo_l (ly_mv rfl) (hd 24 rfl) ?_
        refine jo_l (ly_add rfl rfl (wrap_i64 (by omega) (by omega))) (hd 25 rfl) ?_
        refine jo_l (ly_as rfl) (hd 2 rfl) ?_
        refine jo_nil ?_
        refine ⟨k + 1, ?_, ?_, rfl, cov_n 37 rfl rfl ?_⟩
        · exact ⟨by omega, by omega, by rw [← hc3, ← runN_step (by omega) ‹_›]⟩
        · omega
        · exact (.cons rfl (.u (.u (.u (.u (.u (.u (.u (.u (.u (.u (.u (.u (.u (.u (.u (.u (.u .nil))))))))))))))))))
      · refine jc_exit ?_
        refine jc_seq ?_
        refine jc_region ?_
        refine jo_l (ly_mv rfl) (hd 26 rfl) ?_
        refine jo_l (ly_as rfl) (hd 8 rfl) ?_
        refine jo_nil ?_
        refine jc_ret ?_
        refine ⟨_, _, (.cons rfl .nil), .i, ?_⟩
        rw [← hc3, runN_end (by rintro ⟨a, b⟩; first | omega | (simp_all; done))]
    · refine ja_l 5 (lo_s 13 rfl rfl rfl (hd 14 rfl)) rfl (by kernel_rfl) (by kernel_rfl) (by kernel_rfl) (fun _ _ _ _ h => h) ?_
      refine ja_l 6 (lo_s 13 rfl rfl rfl (hd 15 rfl)) rfl (by kernel_rfl) (by kernel_rfl) (by kernel_rfl) (fun _ _ _ _ h => h) ?_
      refine ja_l 7 (lo_s 13 rfl rfl rfl (hd 16 rfl)) rfl (by kernel_rfl) (by kernel_rfl) (by kernel_rfl) (fun _ _ _ _ h => h) ?_
      refine ja_l 8 (lo_s 13 rfl rfl rfl (hd 17 rfl)) rfl (by kernel_rfl) (by kernel_rfl) (by kernel_rfl) (fun _ _ _ _ h => h) ?_
      refine ja_l 9 (lo_s 13 rfl rfl rfl (hd 18 rfl)) rfl (by kernel_rfl) (by kernel_rfl) (by kernel_rfl) (fun _ _ _ _ h => h) ?_
      refine ja_l 10 (lo_s 13 rfl rfl rfl (hd 19 rfl)) rfl (by kernel_rfl) (by kernel_rfl) (by kernel_rfl) (fun _ _ _ _ h => h) ?_
      refine ja_l 11 (lo_s 13 rfl rfl rfl (hd 20 rfl)) rfl (by kernel_rfl) (by kernel_rfl) (by kernel_rfl) (fun _ _ _ _ h => h) ?_
      refine ja_l 12 (lo_s 13 rfl rfl rfl (hd 21 rfl)) rfl (by kernel_rfl) (by kernel_rfl) (by kernel_rfl) (fun _ _ _ _ h => h) ?_
      refine ja_l 13 (lo_s 13 rfl rfl rfl (hd 22 rfl)) rfl (by kernel_rfl) (by kernel_rfl) (by kernel_rfl) (fun _ _ _ _ h => h) ?_
      refine ja_l 14 (lo_l (ly_pick_f rfl rfl) (hd 23 rfl)) rfl (by kernel_rfl) (by kernel_rfl) (by kernel_rfl) (fun _ _ _ _ h => h) ?_
      refine ja_nil (by kernel_rfl) ?_
      refine jc_litf rfl ?_
      refine jc_exit ?_
      refine jc_seq ?_
      refine jc_region ?_
      refine jo_l (ly_mv rfl) (hd 26 rfl) ?_
      refine jo_l (ly_as rfl) (hd 8 rfl) ?_
      refine jo_nil ?_
      refine jc_ret ?_
      refine ⟨_, _, (.cons rfl .nil), .i, ?_⟩
      rw [← hc3, runN_end (by rintro ⟨a, b⟩; first | omega | (simp_all; done))]
end Go.Proofs.Ytnpbpiommpgikaa.Vc
