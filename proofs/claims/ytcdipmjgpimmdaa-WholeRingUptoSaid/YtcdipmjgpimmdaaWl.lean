/- Contract of bits.Mul64. -/
import Derived.Test.YtcdipmjgpimmdaaWk
import Derived.Test.YtcdipmjgpimmdaaNd
set_option linter.unusedVariables false
set_option linter.unusedSimpArgs false
namespace Go.Proofs.Ytcdipmjgpimmdaa.Vc
open Go Go.RowKit
set_option maxHeartbeats 4000000 in
theorem Mul64_s (x y : Int) (hx0 : 0 ≤ x) (hx : x < 18446744073709551616) (hy0 : 0 ≤ y) (hy : y < 18446744073709551616) : Spec Try.prog 112 [.i .u64 x, .i .u64 y] (fun o => o = .ret (.t [.i .u64 (x * y / 18446744073709551616), .i .u64 (x * y % 18446744073709551616)])) := by
  refine spec_of' [(0, .i .u64 x), (1, .i .u64 y)] rfl Try.func112 rfl (Nat.le_of_ble_eq_true rfl) fun Γ hN hds hL hR => ?_
  have hd : ∀ d, Nat.blt d 51 = true → d < Γ.N := fun d h => by rw [hN]; exact Nat.le_of_ble_eq_true h
  have hM := mul64_val hx0 hx hy0 hy
  dsimp only at hM
  obtain ⟨b00, b10, b01, b11, hhi⟩ := hM
  refine jc_seq ?_
  refine jc_region ?_
  refine jo_l (ly_as rfl) (hd 4 rfl) ?_
  refine jo_l (ly_as rfl) (hd 5 rfl) ?_
  refine jo_nil ?_
  refine jc_seq ?_
  refine jc_region ?_
  refine jo_l (ly_mv rfl) (hd 14 rfl) ?_
  refine jo_l (ly_is (ly_bit (by simp) rfl rfl rfl) (show V.i .u64 (bitop .and .u64 (x) 4294967295) = V.i .u64 (x % 4294967296) by rw [and32 hx0 hx])) (hd 15 rfl) ?_
  refine jo_l (ly_as rfl) (hd 6 rfl) ?_
  refine jo_nil ?_
  refine jc_seq ?_
  refine jc_region ?_
  refine jo_l (ly_mv rfl) (hd 16 rfl) ?_
  refine jo_l (ly_is (ly_shr rfl rfl (by omega) rfl) (show V.i .u64 _ = V.i .u64 (x / 4294967296) from congrArg _ (shr32 hx0))) (hd 17 rfl) ?_
  refine jo_l (ly_as rfl) (hd 7 rfl) ?_
  refine jo_nil ?_
  refine jc_seq ?_
  refine jc_region ?_
  refine jo_l (ly_mv rfl) (hd 18 rfl) ?_
  refine jo_l (ly_is (ly_bit (by simp) rfl rfl rfl) (show V.i .u64 (bitop .and .u64 (y) 4294967295) = V.i .u64 (y % 4294967296) by rw [and32 hy0 hy])) (hd 19 rfl) ?_
  refine jo_l (ly_as rfl) (hd 8 rfl) ?_
  refine jo_nil ?_
  refine jc_seq ?_
  refine jc_region ?_
  refine jo_l (ly_mv rfl) (hd 20 rfl) ?_
  refine jo_l (ly_is (ly_shr rfl rfl (by omega) rfl) (show V.i .u64 _ = V.i .u64 (y / 4294967296) from congrArg _ (shr32 hy0))) (hd 21 rfl) ?_
  refine jo_l (ly_as rfl) (hd 9 rfl) ?_
  refine jo_nil ?_
  refine jc_seq ?_
  refine jc_region ?_
  refine jo_l (ly_mv rfl) (hd 22 rfl) ?_
  refine jo_l (ly_mv rfl) (hd 23 rfl) ?_
  refine jo_l (ly_mul rfl rfl (wrap_u64 (by omega) (by omega))) (hd 24 rfl) ?_
  refine jo_l (ly_as rfl) (hd 10 rfl) ?_
  refine jo_nil ?_
  refine jc_seq ?_
  refine jc_region ?_
  refine jo_l (ly_mv rfl) (hd 25 rfl) ?_
  refine jo_l (ly_mv rfl) (hd 26 rfl) ?_
  refine jo_l (ly_mul rfl rfl (wrap_u64 (by omega) (by omega))) (hd 27 rfl) ?_
  refine jo_l (ly_mv rfl) (hd 28 rfl) ?_
  refine jo_l (ly_is (ly_shr rfl rfl (by omega) rfl) (show V.i .u64 _ = V.i .u64 (x % 4294967296 * (y % 4294967296) / 4294967296) from congrArg _ (shr32 b00.1))) (hd 29 rfl) ?_
  refine jo_l (ly_add rfl rfl (wrap_u64 (by omega) (by omega))) (hd 30 rfl) ?_
  refine jo_l (ly_as rfl) (hd 11 rfl) ?_
  refine jo_nil ?_
  refine jc_seq ?_
  refine jc_region ?_
  refine jo_l (ly_mv rfl) (hd 31 rfl) ?_
  refine jo_l (ly_is (ly_bit (by simp) rfl rfl rfl) (show V.i .u64 (bitop .and .u64 ((x / 4294967296 * (y % 4294967296) + x % 4294967296 * (y % 4294967296) / 4294967296)) 4294967295) = V.i .u64 ((x / 4294967296 * (y % 4294967296) + x % 4294967296 * (y % 4294967296) / 4294967296) % 4294967296) by rw [and32 (by omega) (by omega)])) (hd 32 rfl) ?_
  refine jo_l (ly_as rfl) (hd 12 rfl) ?_
  refine jo_nil ?_
  refine jc_seq ?_
  refine jc_region ?_
  refine jo_l (ly_mv rfl) (hd 33 rfl) ?_
  refine jo_l (ly_is (ly_shr rfl rfl (by omega) rfl) (show V.i .u64 _ = V.i .u64 ((x / 4294967296 * (y % 4294967296) + x % 4294967296 * (y % 4294967296) / 4294967296) / 4294967296) from congrArg _ (shr32 (by omega)))) (hd 34 rfl) ?_
  refine jo_l (ly_as rfl) (hd 13 rfl) ?_
  refine jo_nil ?_
  refine jc_seq ?_
  refine jc_region ?_
  refine jo_l (ly_mv rfl) (hd 35 rfl) ?_
  refine jo_l (ly_mv rfl) (hd 36 rfl) ?_
  refine jo_l (ly_mv rfl) (hd 37 rfl) ?_
  refine jo_l (ly_mul rfl rfl (wrap_u64 (by omega) (by omega))) (hd 38 rfl) ?_
  refine jo_l (ly_add rfl rfl (wrap_u64 (by omega) (by omega))) (hd 39 rfl) ?_
  refine jo_l (ly_as rfl) (hd 12 rfl) ?_
  refine jo_nil ?_
  refine jc_seq ?_
  refine jc_region ?_
  refine jo_l (ly_mv rfl) (hd 40 rfl) ?_
  refine jo_l (ly_mv rfl) (hd 41 rfl) ?_
  refine jo_l (ly_mul rfl rfl (wrap_u64 (by omega) (by omega))) (hd 42 rfl) ?_
  refine jo_l (ly_mv rfl) (hd 43 rfl) ?_
  refine jo_l (ly_add rfl rfl (wrap_u64 (by omega) (by omega))) (hd 44 rfl) ?_
  refine jo_l (ly_mv rfl) (hd 45 rfl) ?_
  refine jo_l (ly_is (ly_shr rfl rfl (by omega) rfl) (show V.i .u64 _ = V.i .u64 (((x / 4294967296 * (y % 4294967296) + x % 4294967296 * (y % 4294967296) / 4294967296) % 4294967296 + x % 4294967296 * (y / 4294967296)) / 4294967296) from congrArg _ (shr32 (by omega)))) (hd 46 rfl) ?_
  refine jo_l (ly_add rfl rfl (wrap_u64 (by omega) (by omega))) (hd 47 rfl) ?_
  refine jo_l (ly_as rfl) (hd 4 rfl) ?_
  refine jo_nil ?_
  refine jc_seq ?_
  refine jc_region ?_
  refine jo_l (ly_mv rfl) (hd 48 rfl) ?_
  refine jo_l (ly_mv rfl) (hd 49 rfl) ?_
  refine jo_l (ly_mul rfl rfl (r := x * y % 18446744073709551616) u64_wrap_mod) (hd 50 rfl) ?_
  refine jo_l (ly_as rfl) (hd 5 rfl) ?_
  refine jo_nil ?_
  refine jc_ret ?_
  refine ⟨_, _, (.cons rfl (.cons rfl .nil)), (.t1 .i (.t1 .i .t0)), ?_⟩
  rw [hhi]
end Go.Proofs.Ytcdipmjgpimmdaa.Vc
