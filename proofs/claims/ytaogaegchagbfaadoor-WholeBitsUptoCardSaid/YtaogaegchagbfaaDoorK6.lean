/- The card of the law WholeBits of surdlaw06: it returns true for every two whole numbers and every place of bulk at most 1048576 where the table of math/bits lies as the program lays it Texts joined: Ub, Uc, Ud, Ue, Uf, Ug, Zf, Uh, Zg, Ui, Uj, Uk, Ul, Um, Un. -/
import Derived.Test.YtaogaegchagbfaaDoorK5
set_option linter.unusedVariables false
set_option linter.unusedSimpArgs false
/- Contracts of TrailingZeros64, nat.Tail, Right, div.Rest. -/
namespace Go.Proofs.YtaogaegchagbfaaDoor.Vc
open Go Go.RowKit
set_option maxHeartbeats 4000000 in
theorem tz64_s (x : Nat) (h0 : 0 < x) (hx : x < 18446744073709551616) : SpecT Tryd.prog 80 0 tzCells [.i .u64 (x : Int)] (fun o => o = .ret (.i .i64 ((tz x : Nat) : Int))) := by
  refine specT_of [(0, .i .u64 (x : Int))] rfl Tryd.func80 rfl (Nat.le_of_ble_eq_true rfl) fun Γ hTb hN hds hL hR => ?_
  have hd : ∀ d, Nat.blt d 14 = true → d < Γ.N := fun d h => by rw [hN]; exact Nat.le_of_ble_eq_true h
  obtain ⟨hk, hp2⟩ := tz_p2 h0 hx
  have hj := (tz_tab _ hk).1
  refine jc_seq ?_; refine jc_region ?_; refine jo_l (ly_as rfl) (hd 2 rfl) ?_; refine jo_nil ?_; refine jc_seq ?_; refine jc_seq ?_; refine jc_region ?_; refine jo_l (ly_mv rfl) (hd 3 rfl) ?_; refine jo_l (ly_ff (ly_eq rfl rfl) (by omega)) (hd 4 rfl) ?_; refine jo_nil ?_; refine jc_litf rfl ?_; refine jc_skip ?_; refine jc_seq ?_; refine jc_region ?_; refine jo_l (ly_mv rfl) (hd 5 rfl) ?_; refine jo_l (ly_mv rfl) (hd 6 rfl) ?_; refine jo_l (ly_neg rfl (r := ((18446744073709551616 - x : Nat) : Int)) (by rw [u64_wrap_mod]; omega)) (hd 7 rfl) ?_; refine jo_l (ly_is (ly_bit (by simp) rfl rfl rfl) (by show V.i .u64 _ = V.i .u64 (((2 ^ tz x : Nat) : Int)); exact congrArg (V.i .u64) (by rw [and_nat hx (by omega), low_one' h0 hx]))) (hd 8 rfl) ?_; refine jo_l (ly_mul rfl rfl (r := ((2 ^ tz x * 285870213051353865 % 18446744073709551616) : Nat)) (by rw [u64_wrap_mod]; rfl)) (hd 9 rfl) ?_; refine jo_l (ly_is (ly_shr rfl rfl (by decide) rfl) (by show V.i .u64 _ = V.i .u64 ((((2 ^ tz x * 285870213051353865 % 18446744073709551616 / 288230376151711744) : Nat) : Int)); exact congrArg (V.i .u64) (shr_nat (k := 288230376151711744) (by decide)))) (hd 10 rfl) ?_; refine jo_l (ly_iatab (sz := 1) (i := (2 ^ tz x * 285870213051353865 % 18446744073709551616 / 288230376151711744)) hL hTb ar1109 rfl rfl hj rfl) (hd 11 rfl) ?_; refine jo_l (ly_ldqz one5 rfl (tz_cell hk) rfl) (hd 12 rfl) ?_; refine jo_l (ly_conv und5 und3 rfl (r := ((tz x : Nat) : Int)) (wrap_i64 (by omega) (by omega))) (hd 13 rfl) ?_; refine jo_l (ly_as rfl) (hd 2 rfl) ?_; refine jo_nil ?_; refine jc_ret ?_
  refine ⟨_, _, (.cons rfl .nil), .i, ?_⟩
  exact rfl

set_option maxHeartbeats 4000000 in
theorem nTail_s (l : List Int) (hl : l.length < 4294967296) (hu : u64s l) : SpecT Tryd.prog 45 0 tzCells [.n false .u64 l] (fun o => o = .ret (.i .i64 ((tz (vl l).toNat : Nat) : Int))) := by
  refine specT_of [(0, .n false .u64 l)] rfl Tryd.func45 rfl (Nat.le_of_ble_eq_true rfl) fun Γ hTb hN hds hL hR => ?_
  have hd : ∀ d, Nat.blt d 20 = true → d < Γ.N := fun d h => by rw [hN]; exact Nat.le_of_ble_eq_true h
  refine jc_seq ?_; refine jc_region ?_; refine jo_l (ly_as rfl) (hd 2 rfl) ?_; refine jo_nil ?_; refine jc_seq ?_; refine jc_seq ?_; refine jc_region ?_; refine jo_l (ly_mv rfl) (hd 5 rfl) ?_; refine jo_l (ly_lenn sl28 rfl) (hd 6 rfl) ?_; refine jo_l (ly_mv rfl) (hd 7 rfl) ?_; refine jo_nil ?_; refine jc_block ?_
  refine jc_loopF (G := Nat) (fun i => i ≤ l.length ∧ ∀ j < i, l.getD j 0 = 0) (fun i => [(7, .i .i64 (i : Int)), (2, .u), (3, .u), (4, .u), (8, .u), (9, .u), (10, .u), (11, .u), (12, .u), (13, .u), (14, .u), (15, .u), (16, .u), (17, .u), (18, .u), (19, .u)]) (fun _ => _) (fun i => l.length - i) 0 ?_ ?_ rfl ?_
  · exact ⟨Nat.zero_le _, fun j h => absurd h (Nat.not_lt_zero _)⟩
  · exact (.cons rfl (.u (.u (.u (.u (.u (.u (.u (.u (.u (.u (.u (.u (.u (.u (.u .nil))))))))))))))))
  · rintro i ⟨hi, hj⟩
    have hxi := u64s_getD hu i
    refine jc_seq ?_; refine jc_region ?_; refine jo_l (ly_lt rfl rfl) (hd 8 rfl) ?_; refine jo_nil ?_; refine jc_seq ?_
    refine jc_if rfl (fun h1 => ?_) (fun h1 => ?_)
    · refine jc_skip ?_; refine jc_seq ?_; refine jc_block ?_; refine jc_seq ?_; refine jc_region ?_; refine jo_l (ly_mv rfl) (hd 9 rfl) ?_; refine jo_l (ly_ian (i := i) sl28 rfl rfl (by first | rfl | omega) (by omega)) (hd 10 rfl) ?_; refine jo_l (ly_ldq one82 rfl rfl) (hd 11 rfl) ?_; refine jo_l (ly_as rfl) (hd 3 rfl) ?_; refine jo_l (ly_as rfl) (hd 4 rfl) ?_; refine jo_nil ?_; refine jc_seq ?_; refine jc_region ?_; refine jo_l (ly_mv rfl) (hd 12 rfl) ?_; refine jo_l (ly_ne rfl rfl) (hd 13 rfl) ?_; refine jo_nil ?_
      refine jc_if rfl (fun h2 => ?_) (fun h2 => ?_)
      · have hx0 : l.getD i 0 ≠ 0 := h2
        have hil : i < l.length := by omega
        have hkk := tz_p2 (x := (l.getD i 0).toNat) (by omega) (by omega)
        have hTz : SpecT Tryd.prog 80 0 tzCells [.i .u64 (l.getD i 0)] (fun o => o = .ret (.i .i64 ((tz (l.getD i 0).toNat : Nat) : Int))) := by have h := tz64_s (l.getD i 0).toNat (by omega) (by omega); rwa [Int.toNat_of_nonneg (by omega)] at h
        refine jc_seq ?_; refine jc_region ?_; refine jo_l (ly_mv rfl) (hd 14 rfl) ?_; refine jo_l (ly_mul rfl rfl (r := ((64 * i : Nat) : Int)) (by rw [wrap_i64 (by omega) (by omega)]; omega)) (hd 15 rfl) ?_; refine jo_l (ly_mv rfl) (hd 16 rfl) ?_
        refine jo_callT Tryd.f80 (hTz) hL hTb rfl Tryd.func80 rfl rfl (ovL_cons rfl ovL_nil) (.cons .i .nil) (hd 17 rfl) ?_ (fun ch hp => by simp at hp)
        rintro y hy; injection hy with hy; subst hy; refine jo_l (ly_add rfl rfl (r := ((64 * i + tz (l.getD i 0).toNat : Nat) : Int)) (by rw [wrap_i64 (by omega) (by omega)]; omega)) (hd 18 rfl) ?_; refine jo_l (ly_as rfl) (hd 2 rfl) ?_; refine jo_nil ?_; refine jc_ret ?_
        refine ⟨_, _, (.cons rfl .nil), .i, ?_⟩
        rw [tail_val hu hil hj hx0]
      · have hx0 : l.getD i 0 = 0 := Decidable.not_not.1 h2
        refine jc_skip ?_; refine jc_region ?_; refine jo_l (ly_add rfl rfl (r := ((i + 1 : Nat) : Int)) (by rw [wrap_i64 (by omega) (by omega)]; omega)) (hd 19 rfl) ?_; refine jo_l (ly_mv rfl) (hd 7 rfl) ?_; refine jo_nil ?_
        refine ⟨i + 1, ?_, ?_, rfl, cov_n 26 rfl rfl ?_⟩
        · exact ⟨by omega, fun j hjj => by rcases Nat.lt_or_ge j i with h9 | h9; exact hj j h9; rw [show j = i by omega]; exact hx0⟩
        · omega
        · exact (.cons rfl (.u (.u (.u (.u (.u (.u (.u (.u (.u (.u (.u (.u (.u (.u (.u .nil))))))))))))))))
    · obtain rfl : i = l.length := by omega
      refine jc_exit ?_; refine jc_seq ?_; refine jc_region ?_; refine jo_l (ly_as rfl) (hd 2 rfl) ?_; refine jo_nil ?_; refine jc_ret ?_
      refine ⟨_, _, (.cons rfl .nil), .i, ?_⟩
      rw [tail_none hu hj, show (Int.toNat 0) = 0 from rfl, tz_0]; rfl

end Go.Proofs.YtaogaegchagbfaaDoor.Vc

/- Contracts of the references' Shr, Low. -/
namespace Go.Proofs.YtaogaegchagbfaaDoor.Vc
open Go Go.RowKit
end Go.Proofs.YtaogaegchagbfaaDoor.Vc

/- Contract of surdref06.Jacobi. -/
namespace Go.Proofs.YtaogaegchagbfaaDoor.Vc
open Go Go.RowKit
end Go.Proofs.YtaogaegchagbfaaDoor.Vc

/- Contract of whole.Jacobi. -/
namespace Go.Proofs.YtaogaegchagbfaaDoor.Vc
open Go Go.RowKit
end Go.Proofs.YtaogaegchagbfaaDoor.Vc

/- The contract of surdlaw06.WholeSymbols. -/
namespace Go.Proofs.YtaogaegchagbfaaDoor.Vc
open Go Go.RowKit
end Go.Proofs.YtaogaegchagbfaaDoor.Vc

/- Contracts of nat.And, Or, Xor. -/
namespace Go.Proofs.YtaogaegchagbfaaDoor.Vc
open Go Go.RowKit
set_option maxHeartbeats 4000000 in
theorem and1_s (x y : Int) : Spec Tryd.prog 78 [.i .u64 x, .i .u64 y] (fun o => o = .ret (.i .u64 (bitop .and .u64 x y))) := by
  refine spec_of' [(0, .i .u64 x), (1, .i .u64 y)] rfl Tryd.func78 rfl (Nat.le_of_ble_eq_true rfl) fun Γ hN hds hL hR => ?_
  have hd : ∀ d, Nat.blt d 8 = true → d < Γ.N := fun d h => by rw [hN]; exact Nat.le_of_ble_eq_true h
  refine jc_seq ?_; refine jc_region ?_; refine jo_l (ly_as rfl) (hd 4 rfl) ?_; refine jo_nil ?_; refine jc_seq ?_; refine jc_region ?_; refine jo_l (ly_mv rfl) (hd 5 rfl) ?_; refine jo_l (ly_mv rfl) (hd 6 rfl) ?_; refine jo_l (ly_bit (by simp) rfl rfl rfl) (hd 7 rfl) ?_; refine jo_l (ly_as rfl) (hd 4 rfl) ?_; refine jo_nil ?_; refine jc_ret ?_
  refine ⟨_, _, (.cons rfl .nil), .i, ?_⟩
  exact rfl

set_option maxHeartbeats 4000000 in
theorem both_and (x y : Nat) (hx : lenV (x : Int) ≤ 67108864) (hy : lenV (y : Int) ≤ 67108864) : Spec Tryd.prog 76 [.n false .u64 (lm (x : Int)), .n false .u64 (lm (y : Int)), .f 78 []] (fun o => o = .ret (.n false .u64 (lm (((x &&& y) : Nat) : Int)))) := by
  refine spec_of' [(0, .n false .u64 (lm (x : Int))), (1, .n false .u64 (lm (y : Int))), (2, .f 78 [])] rfl Tryd.func76 rfl (Nat.le_of_ble_eq_true rfl) fun Γ hN hds hL hR => ?_
  have hd : ∀ d, Nat.blt d 48 = true → d < Γ.N := fun d h => by rw [hN]; exact Nat.le_of_ble_eq_true h
  have hlx := lenV_lm hx
  have hly := lenV_lm hy
  have hz : (x &&& y) < 2 ^ (64 * (max (lm (x : Int)).length (lm (y : Int)).length)) := Nat.and_lt_two_pow _ (lm_lt2 (Nat.le_max_right _ _))
  refine jc_seq ?_; refine jc_region ?_; refine jo_l (ly_as rfl) (hd 6 rfl) ?_; refine jo_nil ?_; refine jc_seq ?_; refine jc_region ?_; refine jo_l (ly_mv rfl) (hd 11 rfl) ?_; refine jo_l (ly_lenn sl28 rfl) (hd 12 rfl) ?_; refine jo_l (ly_mv rfl) (hd 13 rfl) ?_; refine jo_l (ly_lenn sl28 rfl) (hd 14 rfl) ?_; refine jo_l (ly_is (ly_max rfl rfl) (show V.i .i64 _ = V.i .i64 (((max (lm (x : Int)).length (lm (y : Int)).length) : Nat) : Int) by congr 1; omega)) (hd 15 rfl) ?_; refine jo_h (hy_mk (m := (max (lm (x : Int)).length (lm (y : Int)).length)) el28 rfl rfl rfl (by show 8 * (max (lm (x : Int)).length (lm (y : Int)).length) ≤ _; omega) (by unfold maxLen; omega) rfl) (hd 16 rfl) ?_; refine jo_l (ly_as rfl) (hd 7 rfl) ?_; refine jo_nil ?_; refine jc_seq ?_; refine jc_seq ?_; refine jc_H (H' := [⟨76, 1, 0, true, ints .u64 (fillI (dll (x &&& y) 0) (max (lm (x : Int)).length (lm (y : Int)).length))⟩]) (by show [(⟨76, 1, 0, true, ints .u64 _⟩ : Ob)] = [⟨76, 1, 0, true, ints .u64 _⟩]; rw [dll_0]) ?_; refine jc_region ?_; refine jo_l (ly_mv rfl) (hd 17 rfl) ?_; refine jo_l (ly_leno sl28 rfl rfl) (hd 18 rfl) ?_; refine jo_l (ly_mv rfl) (hd 19 rfl) ?_; refine jo_nil ?_; refine jc_block ?_
  refine jc_loopF (G := Nat) (fun i => i ≤ (max (lm (x : Int)).length (lm (y : Int)).length)) (fun i => [(19, .i .i64 (i : Int)), (8, .u), (9, .u), (10, .u), (20, .u), (21, .u), (22, .u), (23, .u), (24, .u), (25, .u), (26, .u), (27, .u), (28, .u), (29, .u), (30, .u), (31, .u), (32, .u), (33, .u), (34, .u), (35, .u), (36, .u), (37, .u), (38, .u), (39, .u), (40, .u), (41, .u), (42, .u), (43, .u), (44, .u), (45, .u)]) (fun i => [⟨76, 1, 0, true, ints .u64 (fillI (dll (x &&& y) i) (max (lm (x : Int)).length (lm (y : Int)).length))⟩]) (fun i => (max (lm (x : Int)).length (lm (y : Int)).length) - i) 0 ?_ ?_ rfl ?_
  · exact Nat.zero_le _
  · exact (.cons rfl (.u (.u (.u (.u (.u (.u (.u (.u (.u (.u (.u (.u (.u (.u (.u (.u (.u (.u (.u (.u (.u (.u (.u (.u (.u (.u (.u (.u (.u .nil))))))))))))))))))))))))))))))
  · rintro i hc1
    have hfl := dll_fl (z := (x &&& y)) hc1
    have hop : bitop .and .u64 ((lm (x : Int)).getD i 0) ((lm (y : Int)).getD i 0) = dgl (x &&& y) i := by rw [lm_at, lm_at, dgl_and]
    have hOp := and1_s ((lm (x : Int)).getD i 0) ((lm (y : Int)).getD i 0)
    rw [hop] at hOp
    refine jc_seq ?_; refine jc_region ?_; refine jo_l (ly_lt rfl rfl) (hd 20 rfl) ?_; refine jo_nil ?_; refine jc_seq ?_
    refine jc_if rfl (fun h1 => ?_) (fun h1 => ?_)
    · refine jc_skip ?_; refine jc_seq ?_; refine jc_block ?_; refine jc_seq ?_; refine jc_region ?_; refine jo_l (ly_mv rfl) (hd 21 rfl) ?_; refine jo_l (ly_as rfl) (hd 8 rfl) ?_; refine jo_nil ?_; refine jc_seq ?_; refine jc_region ?_; refine jo_l (ly_as rfl) (hd 9 rfl) ?_; refine jo_l (ly_as rfl) (hd 10 rfl) ?_; refine jo_nil ?_
      refine jc_meetH (G := Unit) (fun _ => True) (fun _ => [(9, .i .u64 ((lm (x : Int)).getD i 0)), (22, .u), (23, .u), (24, .u), (25, .u), (26, .u), (27, .u), (28, .u), (29, .u)]) ?_ ?_
      · refine jc_seq ?_; refine jc_region ?_; refine jo_l (ly_mv rfl) (hd 22 rfl) ?_; refine jo_l (ly_mv rfl) (hd 23 rfl) ?_; refine jo_l (ly_lenn sl28 rfl) (hd 24 rfl) ?_; refine jo_l (ly_lt rfl rfl) (hd 25 rfl) ?_; refine jo_nil ?_
        refine jc_if rfl (fun h2 => ?_) (fun h2 => ?_)
        · refine jc_region ?_; refine jo_l (ly_mv rfl) (hd 26 rfl) ?_; refine jo_l (ly_mv rfl) (hd 27 rfl) ?_; refine jo_l (ly_ian (i := i) sl28 rfl rfl (by first | rfl | omega) (by omega)) (hd 28 rfl) ?_; refine jo_l (ly_ldq one82 rfl rfl) (hd 29 rfl) ?_; refine jo_l (ly_as rfl) (hd 9 rfl) ?_; refine jo_nil ?_
          refine ⟨(), ?_, rfl, cov_n 9 rfl rfl ?_⟩
          · trivial
          · exact (.cons (by first | rfl | (show some (V.i .u64 _) = some (V.i .u64 _); rw [getD_ge (by omega)])) (.u (.u (.u (.u (.u (.u (.u (.u .nil)))))))))
        · refine jc_skip ?_
          refine ⟨(), ?_, rfl, cov_n 4 rfl rfl ?_⟩
          · trivial
          · exact (.cons (by first | rfl | (show some (V.i .u64 _) = some (V.i .u64 _); rw [getD_ge (by omega)])) (.u (.u (.u (.u (.u (.u (.u (.u .nil)))))))))
      · rintro _ _
        refine jc_meetH (G := Unit) (fun _ => True) (fun _ => [(10, .i .u64 ((lm (y : Int)).getD i 0)), (30, .u), (31, .u), (32, .u), (33, .u), (34, .u), (35, .u), (36, .u), (37, .u)]) ?_ ?_
        · refine jc_seq ?_; refine jc_region ?_; refine jo_l (ly_mv rfl) (hd 30 rfl) ?_; refine jo_l (ly_mv rfl) (hd 31 rfl) ?_; refine jo_l (ly_lenn sl28 rfl) (hd 32 rfl) ?_; refine jo_l (ly_lt rfl rfl) (hd 33 rfl) ?_; refine jo_nil ?_
          refine jc_if rfl (fun h3 => ?_) (fun h3 => ?_)
          · refine jc_region ?_; refine jo_l (ly_mv rfl) (hd 34 rfl) ?_; refine jo_l (ly_mv rfl) (hd 35 rfl) ?_; refine jo_l (ly_ian (i := i) sl28 rfl rfl (by first | rfl | omega) (by omega)) (hd 36 rfl) ?_; refine jo_l (ly_ldq one82 rfl rfl) (hd 37 rfl) ?_; refine jo_l (ly_as rfl) (hd 10 rfl) ?_; refine jo_nil ?_
            refine ⟨(), ?_, rfl, cov_n 9 rfl rfl ?_⟩
            · trivial
            · exact (.cons (by first | rfl | (show some (V.i .u64 _) = some (V.i .u64 _); rw [getD_ge (by omega)])) (.u (.u (.u (.u (.u (.u (.u (.u .nil)))))))))
          · refine jc_skip ?_
            refine ⟨(), ?_, rfl, cov_n 4 rfl rfl ?_⟩
            · trivial
            · exact (.cons (by first | rfl | (show some (V.i .u64 _) = some (V.i .u64 _); rw [getD_ge (by omega)])) (.u (.u (.u (.u (.u (.u (.u (.u .nil)))))))))
        · rintro _ _; refine jc_region ?_; refine jo_l (ly_mv rfl) (hd 38 rfl) ?_; refine jo_l (ly_mv rfl) (hd 39 rfl) ?_; refine jo_l (ly_mv rfl) (hd 40 rfl) ?_; refine jo_l (ly_mv rfl) (hd 41 rfl) ?_; refine jo_l (ly_mv rfl) (hd 42 rfl) ?_
          refine jo_call Tryd.f78 (hOp) rfl Tryd.func78 rfl rfl (ovL_cons rfl (ovL_cons rfl ovL_nil)) (.cons .i (.cons .i .nil)) (hd 43 rfl) ?_ (fun ch hp => by simp at hp)
          rintro y hy; injection hy with hy; subst hy; refine jo_l (ly_ia (i := i) sl28 rfl rfl rfl (by first | rfl | omega) (by omega) rfl) (hd 44 rfl) ?_; refine jo_st (sy_storei rfl rfl rfl one82 (by omega)) ?_; refine jo_nil ?_; refine jc_region ?_; refine jo_l (ly_add rfl rfl (r := ((i + 1 : Nat) : Int)) (by rw [wrap_i64 (by omega) (by omega)]; omega)) (hd 45 rfl) ?_; refine jo_l (ly_mv rfl) (hd 19 rfl) ?_; refine jo_nil ?_
          refine ⟨i + 1, ?_, ?_, (by show [(⟨76, 1, 0, true, ints .u64 _⟩ : Ob)] = [⟨76, 1, 0, true, ints .u64 _⟩]; rw [fill_dll (by omega)]), cov_n 62 rfl rfl ?_⟩
          · omega
          · omega
          · exact (.cons rfl (.u (.u (.u (.u (.u (.u (.u (.u (.u (.u (.u (.u (.u (.u (.u (.u (.u (.u (.u (.u (.u (.u (.u (.u (.u (.u (.u (.u (.u .nil))))))))))))))))))))))))))))))
    · obtain rfl : i = (max (lm (x : Int)).length (lm (y : Int)).length) := by omega
      refine jc_exit ?_; refine jc_seq ?_; refine jc_frz (k := .u64) (l := fillI (dll (x &&& y) (max (lm (x : Int)).length (lm (y : Int)).length)) (max (lm (x : Int)).length (lm (y : Int)).length)) (l' := dll (x &&& y) (max (lm (x : Int)).length (lm (y : Int)).length)) 7 rfl rfl (by rw [dll_all, dll_len]; omega) (by rw [dll_all, List.drop_zero, List.take_of_length_le (by rw [dll_len]; omega)]) hL ?_; refine jc_region ?_; refine jo_l (ly_mv rfl) (hd 46 rfl) ?_
      refine jo_call Tryd.f87 (trim_s (dll (x &&& y) (max (lm (x : Int)).length (lm (y : Int)).length)) (by rw [dll_len]; omega)) rfl Tryd.func87 rfl rfl (ovL_cons rfl ovL_nil) (.cons .n .nil) (hd 47 rfl) ?_ (fun ch hp => by simp at hp)
      rintro y hy; injection hy with hy; subst hy; refine jo_l (ly_as rfl) (hd 6 rfl) ?_; refine jo_nil ?_; refine jc_ret ?_
      refine ⟨_, _, (.cons rfl .nil), .n, ?_⟩
      rw [dll_trm hz]

set_option maxHeartbeats 4000000 in
theorem nAnd_v (x y : Nat) (hx : lenV (x : Int) ≤ 67108864) (hy : lenV (y : Int) ≤ 67108864) : Spec Tryd.prog 40 [.n false .u64 (lm (x : Int)), .n false .u64 (lm (y : Int))] (fun o => o = .ret (.n false .u64 (lm (((x &&& y) : Nat) : Int)))) := by
  refine spec_of' [(0, .n false .u64 (lm (x : Int))), (1, .n false .u64 (lm (y : Int)))] rfl Tryd.func40 rfl (Nat.le_of_ble_eq_true rfl) fun Γ hN hds hL hR => ?_
  have hd : ∀ d, Nat.blt d 8 = true → d < Γ.N := fun d h => by rw [hN]; exact Nat.le_of_ble_eq_true h
  refine jc_seq ?_; refine jc_region ?_; refine jo_l (ly_as rfl) (hd 4 rfl) ?_; refine jo_nil ?_; refine jc_seq ?_; refine jc_region ?_; refine jo_l (ly_mv rfl) (hd 5 rfl) ?_; refine jo_l (ly_mv rfl) (hd 6 rfl) ?_
  refine jo_call Tryd.f76 (both_and x y hx hy) rfl Tryd.func76 rfl rfl (ovL_cons rfl (ovL_cons rfl (ovL_cons rfl ovL_nil))) (.cons .n (.cons .n (.cons .f .nil))) (hd 7 rfl) ?_ (fun ch hp => by simp at hp)
  rintro y hy; injection hy with hy; subst hy; refine jo_l (ly_as rfl) (hd 4 rfl) ?_; refine jo_nil ?_; refine jc_ret ?_
  refine ⟨_, _, (.cons rfl .nil), .n, ?_⟩
  exact rfl

set_option maxHeartbeats 4000000 in
theorem or1_s (x y : Int) : Spec Tryd.prog 77 [.i .u64 x, .i .u64 y] (fun o => o = .ret (.i .u64 (bitop .or .u64 x y))) := by
  refine spec_of' [(0, .i .u64 x), (1, .i .u64 y)] rfl Tryd.func77 rfl (Nat.le_of_ble_eq_true rfl) fun Γ hN hds hL hR => ?_
  have hd : ∀ d, Nat.blt d 8 = true → d < Γ.N := fun d h => by rw [hN]; exact Nat.le_of_ble_eq_true h
  refine jc_seq ?_; refine jc_region ?_; refine jo_l (ly_as rfl) (hd 4 rfl) ?_; refine jo_nil ?_; refine jc_seq ?_; refine jc_region ?_; refine jo_l (ly_mv rfl) (hd 5 rfl) ?_; refine jo_l (ly_mv rfl) (hd 6 rfl) ?_; refine jo_l (ly_bit (by simp) rfl rfl rfl) (hd 7 rfl) ?_; refine jo_l (ly_as rfl) (hd 4 rfl) ?_; refine jo_nil ?_; refine jc_ret ?_
  refine ⟨_, _, (.cons rfl .nil), .i, ?_⟩
  exact rfl

set_option maxHeartbeats 4000000 in
theorem both_or (x y : Nat) (hx : lenV (x : Int) ≤ 67108864) (hy : lenV (y : Int) ≤ 67108864) : Spec Tryd.prog 76 [.n false .u64 (lm (x : Int)), .n false .u64 (lm (y : Int)), .f 77 []] (fun o => o = .ret (.n false .u64 (lm (((x ||| y) : Nat) : Int)))) := by
  refine spec_of' [(0, .n false .u64 (lm (x : Int))), (1, .n false .u64 (lm (y : Int))), (2, .f 77 [])] rfl Tryd.func76 rfl (Nat.le_of_ble_eq_true rfl) fun Γ hN hds hL hR => ?_
  have hd : ∀ d, Nat.blt d 48 = true → d < Γ.N := fun d h => by rw [hN]; exact Nat.le_of_ble_eq_true h
  have hlx := lenV_lm hx
  have hly := lenV_lm hy
  have hz : (x ||| y) < 2 ^ (64 * (max (lm (x : Int)).length (lm (y : Int)).length)) := Nat.or_lt_two_pow (lm_lt2 (Nat.le_max_left _ _)) (lm_lt2 (Nat.le_max_right _ _))
  refine jc_seq ?_; refine jc_region ?_; refine jo_l (ly_as rfl) (hd 6 rfl) ?_; refine jo_nil ?_; refine jc_seq ?_; refine jc_region ?_; refine jo_l (ly_mv rfl) (hd 11 rfl) ?_; refine jo_l (ly_lenn sl28 rfl) (hd 12 rfl) ?_; refine jo_l (ly_mv rfl) (hd 13 rfl) ?_; refine jo_l (ly_lenn sl28 rfl) (hd 14 rfl) ?_; refine jo_l (ly_is (ly_max rfl rfl) (show V.i .i64 _ = V.i .i64 (((max (lm (x : Int)).length (lm (y : Int)).length) : Nat) : Int) by congr 1; omega)) (hd 15 rfl) ?_; refine jo_h (hy_mk (m := (max (lm (x : Int)).length (lm (y : Int)).length)) el28 rfl rfl rfl (by show 8 * (max (lm (x : Int)).length (lm (y : Int)).length) ≤ _; omega) (by unfold maxLen; omega) rfl) (hd 16 rfl) ?_; refine jo_l (ly_as rfl) (hd 7 rfl) ?_; refine jo_nil ?_; refine jc_seq ?_; refine jc_seq ?_; refine jc_H (H' := [⟨76, 1, 0, true, ints .u64 (fillI (dll (x ||| y) 0) (max (lm (x : Int)).length (lm (y : Int)).length))⟩]) (by show [(⟨76, 1, 0, true, ints .u64 _⟩ : Ob)] = [⟨76, 1, 0, true, ints .u64 _⟩]; rw [dll_0]) ?_; refine jc_region ?_; refine jo_l (ly_mv rfl) (hd 17 rfl) ?_; refine jo_l (ly_leno sl28 rfl rfl) (hd 18 rfl) ?_; refine jo_l (ly_mv rfl) (hd 19 rfl) ?_; refine jo_nil ?_; refine jc_block ?_
  refine jc_loopF (G := Nat) (fun i => i ≤ (max (lm (x : Int)).length (lm (y : Int)).length)) (fun i => [(19, .i .i64 (i : Int)), (8, .u), (9, .u), (10, .u), (20, .u), (21, .u), (22, .u), (23, .u), (24, .u), (25, .u), (26, .u), (27, .u), (28, .u), (29, .u), (30, .u), (31, .u), (32, .u), (33, .u), (34, .u), (35, .u), (36, .u), (37, .u), (38, .u), (39, .u), (40, .u), (41, .u), (42, .u), (43, .u), (44, .u), (45, .u)]) (fun i => [⟨76, 1, 0, true, ints .u64 (fillI (dll (x ||| y) i) (max (lm (x : Int)).length (lm (y : Int)).length))⟩]) (fun i => (max (lm (x : Int)).length (lm (y : Int)).length) - i) 0 ?_ ?_ rfl ?_
  · exact Nat.zero_le _
  · exact (.cons rfl (.u (.u (.u (.u (.u (.u (.u (.u (.u (.u (.u (.u (.u (.u (.u (.u (.u (.u (.u (.u (.u (.u (.u (.u (.u (.u (.u (.u (.u .nil))))))))))))))))))))))))))))))
  · rintro i hc1
    have hfl := dll_fl (z := (x ||| y)) hc1
    have hop : bitop .or .u64 ((lm (x : Int)).getD i 0) ((lm (y : Int)).getD i 0) = dgl (x ||| y) i := by rw [lm_at, lm_at, dgl_or]
    have hOp := or1_s ((lm (x : Int)).getD i 0) ((lm (y : Int)).getD i 0)
    rw [hop] at hOp
    refine jc_seq ?_; refine jc_region ?_; refine jo_l (ly_lt rfl rfl) (hd 20 rfl) ?_; refine jo_nil ?_; refine jc_seq ?_
    refine jc_if rfl (fun h1 => ?_) (fun h1 => ?_)
    · refine jc_skip ?_; refine jc_seq ?_; refine jc_block ?_; refine jc_seq ?_; refine jc_region ?_; refine jo_l (ly_mv rfl) (hd 21 rfl) ?_; refine jo_l (ly_as rfl) (hd 8 rfl) ?_; refine jo_nil ?_; refine jc_seq ?_; refine jc_region ?_; refine jo_l (ly_as rfl) (hd 9 rfl) ?_; refine jo_l (ly_as rfl) (hd 10 rfl) ?_; refine jo_nil ?_
      refine jc_meetH (G := Unit) (fun _ => True) (fun _ => [(9, .i .u64 ((lm (x : Int)).getD i 0)), (22, .u), (23, .u), (24, .u), (25, .u), (26, .u), (27, .u), (28, .u), (29, .u)]) ?_ ?_
      · refine jc_seq ?_; refine jc_region ?_; refine jo_l (ly_mv rfl) (hd 22 rfl) ?_; refine jo_l (ly_mv rfl) (hd 23 rfl) ?_; refine jo_l (ly_lenn sl28 rfl) (hd 24 rfl) ?_; refine jo_l (ly_lt rfl rfl) (hd 25 rfl) ?_; refine jo_nil ?_
        refine jc_if rfl (fun h2 => ?_) (fun h2 => ?_)
        · refine jc_region ?_; refine jo_l (ly_mv rfl) (hd 26 rfl) ?_; refine jo_l (ly_mv rfl) (hd 27 rfl) ?_; refine jo_l (ly_ian (i := i) sl28 rfl rfl (by first | rfl | omega) (by omega)) (hd 28 rfl) ?_; refine jo_l (ly_ldq one82 rfl rfl) (hd 29 rfl) ?_; refine jo_l (ly_as rfl) (hd 9 rfl) ?_; refine jo_nil ?_
          refine ⟨(), ?_, rfl, cov_n 9 rfl rfl ?_⟩
          · trivial
          · exact (.cons (by first | rfl | (show some (V.i .u64 _) = some (V.i .u64 _); rw [getD_ge (by omega)])) (.u (.u (.u (.u (.u (.u (.u (.u .nil)))))))))
        · refine jc_skip ?_
          refine ⟨(), ?_, rfl, cov_n 4 rfl rfl ?_⟩
          · trivial
          · exact (.cons (by first | rfl | (show some (V.i .u64 _) = some (V.i .u64 _); rw [getD_ge (by omega)])) (.u (.u (.u (.u (.u (.u (.u (.u .nil)))))))))
      · rintro _ _
        refine jc_meetH (G := Unit) (fun _ => True) (fun _ => [(10, .i .u64 ((lm (y : Int)).getD i 0)), (30, .u), (31, .u), (32, .u), (33, .u), (34, .u), (35, .u), (36, .u), (37, .u)]) ?_ ?_
        · refine jc_seq ?_; refine jc_region ?_; refine jo_l (ly_mv rfl) (hd 30 rfl) ?_; refine jo_l (ly_mv rfl) (hd 31 rfl) ?_; refine jo_l (ly_lenn sl28 rfl) (hd 32 rfl) ?_; refine jo_l (ly_lt rfl rfl) (hd 33 rfl) ?_; refine jo_nil ?_
          refine jc_if rfl (fun h3 => ?_) (fun h3 => ?_)
          · refine jc_region ?_; refine jo_l (ly_mv rfl) (hd 34 rfl) ?_; refine jo_l (ly_mv rfl) (hd 35 rfl) ?_; refine jo_l (ly_ian (i := i) sl28 rfl rfl (by first | rfl | omega) (by omega)) (hd 36 rfl) ?_; refine jo_l (ly_ldq one82 rfl rfl) (hd 37 rfl) ?_; refine jo_l (ly_as rfl) (hd 10 rfl) ?_; refine jo_nil ?_
            refine ⟨(), ?_, rfl, cov_n 9 rfl rfl ?_⟩
            · trivial
            · exact (.cons (by first | rfl | (show some (V.i .u64 _) = some (V.i .u64 _); rw [getD_ge (by omega)])) (.u (.u (.u (.u (.u (.u (.u (.u .nil)))))))))
          · refine jc_skip ?_
            refine ⟨(), ?_, rfl, cov_n 4 rfl rfl ?_⟩
            · trivial
            · exact (.cons (by first | rfl | (show some (V.i .u64 _) = some (V.i .u64 _); rw [getD_ge (by omega)])) (.u (.u (.u (.u (.u (.u (.u (.u .nil)))))))))
        · rintro _ _; refine jc_region ?_; refine jo_l (ly_mv rfl) (hd 38 rfl) ?_; refine jo_l (ly_mv rfl) (hd 39 rfl) ?_; refine jo_l (ly_mv rfl) (hd 40 rfl) ?_; refine jo_l (ly_mv rfl) (hd 41 rfl) ?_; refine jo_l (ly_mv rfl) (hd 42 rfl) ?_
          refine jo_call Tryd.f77 (hOp) rfl Tryd.func77 rfl rfl (ovL_cons rfl (ovL_cons rfl ovL_nil)) (.cons .i (.cons .i .nil)) (hd 43 rfl) ?_ (fun ch hp => by simp at hp)
          rintro y hy; injection hy with hy; subst hy; refine jo_l (ly_ia (i := i) sl28 rfl rfl rfl (by first | rfl | omega) (by omega) rfl) (hd 44 rfl) ?_; refine jo_st (sy_storei rfl rfl rfl one82 (by omega)) ?_; refine jo_nil ?_; refine jc_region ?_; refine jo_l (ly_add rfl rfl (r := ((i + 1 : Nat) : Int)) (by rw [wrap_i64 (by omega) (by omega)]; omega)) (hd 45 rfl) ?_; refine jo_l (ly_mv rfl) (hd 19 rfl) ?_; refine jo_nil ?_
          refine ⟨i + 1, ?_, ?_, (by show [(⟨76, 1, 0, true, ints .u64 _⟩ : Ob)] = [⟨76, 1, 0, true, ints .u64 _⟩]; rw [fill_dll (by omega)]), cov_n 62 rfl rfl ?_⟩
          · omega
          · omega
          · exact (.cons rfl (.u (.u (.u (.u (.u (.u (.u (.u (.u (.u (.u (.u (.u (.u (.u (.u (.u (.u (.u (.u (.u (.u (.u (.u (.u (.u (.u (.u (.u .nil))))))))))))))))))))))))))))))
    · obtain rfl : i = (max (lm (x : Int)).length (lm (y : Int)).length) := by omega
      refine jc_exit ?_; refine jc_seq ?_; refine jc_frz (k := .u64) (l := fillI (dll (x ||| y) (max (lm (x : Int)).length (lm (y : Int)).length)) (max (lm (x : Int)).length (lm (y : Int)).length)) (l' := dll (x ||| y) (max (lm (x : Int)).length (lm (y : Int)).length)) 7 rfl rfl (by rw [dll_all, dll_len]; omega) (by rw [dll_all, List.drop_zero, List.take_of_length_le (by rw [dll_len]; omega)]) hL ?_; refine jc_region ?_; refine jo_l (ly_mv rfl) (hd 46 rfl) ?_
      refine jo_call Tryd.f87 (trim_s (dll (x ||| y) (max (lm (x : Int)).length (lm (y : Int)).length)) (by rw [dll_len]; omega)) rfl Tryd.func87 rfl rfl (ovL_cons rfl ovL_nil) (.cons .n .nil) (hd 47 rfl) ?_ (fun ch hp => by simp at hp)
      rintro y hy; injection hy with hy; subst hy; refine jo_l (ly_as rfl) (hd 6 rfl) ?_; refine jo_nil ?_; refine jc_ret ?_
      refine ⟨_, _, (.cons rfl .nil), .n, ?_⟩
      rw [dll_trm hz]

set_option maxHeartbeats 4000000 in
theorem nOr_v (x y : Nat) (hx : lenV (x : Int) ≤ 67108864) (hy : lenV (y : Int) ≤ 67108864) : Spec Tryd.prog 38 [.n false .u64 (lm (x : Int)), .n false .u64 (lm (y : Int))] (fun o => o = .ret (.n false .u64 (lm (((x ||| y) : Nat) : Int)))) := by
  refine spec_of' [(0, .n false .u64 (lm (x : Int))), (1, .n false .u64 (lm (y : Int)))] rfl Tryd.func38 rfl (Nat.le_of_ble_eq_true rfl) fun Γ hN hds hL hR => ?_
  have hd : ∀ d, Nat.blt d 8 = true → d < Γ.N := fun d h => by rw [hN]; exact Nat.le_of_ble_eq_true h
  refine jc_seq ?_; refine jc_region ?_; refine jo_l (ly_as rfl) (hd 4 rfl) ?_; refine jo_nil ?_; refine jc_seq ?_; refine jc_region ?_; refine jo_l (ly_mv rfl) (hd 5 rfl) ?_; refine jo_l (ly_mv rfl) (hd 6 rfl) ?_
  refine jo_call Tryd.f76 (both_or x y hx hy) rfl Tryd.func76 rfl rfl (ovL_cons rfl (ovL_cons rfl (ovL_cons rfl ovL_nil))) (.cons .n (.cons .n (.cons .f .nil))) (hd 7 rfl) ?_ (fun ch hp => by simp at hp)
  rintro y hy; injection hy with hy; subst hy; refine jo_l (ly_as rfl) (hd 4 rfl) ?_; refine jo_nil ?_; refine jc_ret ?_
  refine ⟨_, _, (.cons rfl .nil), .n, ?_⟩
  exact rfl

set_option maxHeartbeats 4000000 in
theorem xor1_s (x y : Int) : Spec Tryd.prog 79 [.i .u64 x, .i .u64 y] (fun o => o = .ret (.i .u64 (bitop .xor .u64 x y))) := by
  refine spec_of' [(0, .i .u64 x), (1, .i .u64 y)] rfl Tryd.func79 rfl (Nat.le_of_ble_eq_true rfl) fun Γ hN hds hL hR => ?_
  have hd : ∀ d, Nat.blt d 8 = true → d < Γ.N := fun d h => by rw [hN]; exact Nat.le_of_ble_eq_true h
  refine jc_seq ?_; refine jc_region ?_; refine jo_l (ly_as rfl) (hd 4 rfl) ?_; refine jo_nil ?_; refine jc_seq ?_; refine jc_region ?_; refine jo_l (ly_mv rfl) (hd 5 rfl) ?_; refine jo_l (ly_mv rfl) (hd 6 rfl) ?_; refine jo_l (ly_bit (by simp) rfl rfl rfl) (hd 7 rfl) ?_; refine jo_l (ly_as rfl) (hd 4 rfl) ?_; refine jo_nil ?_; refine jc_ret ?_
  refine ⟨_, _, (.cons rfl .nil), .i, ?_⟩
  exact rfl

set_option maxHeartbeats 4000000 in
theorem both_xor (x y : Nat) (hx : lenV (x : Int) ≤ 67108864) (hy : lenV (y : Int) ≤ 67108864) : Spec Tryd.prog 76 [.n false .u64 (lm (x : Int)), .n false .u64 (lm (y : Int)), .f 79 []] (fun o => o = .ret (.n false .u64 (lm (((x ^^^ y) : Nat) : Int)))) := by
  refine spec_of' [(0, .n false .u64 (lm (x : Int))), (1, .n false .u64 (lm (y : Int))), (2, .f 79 [])] rfl Tryd.func76 rfl (Nat.le_of_ble_eq_true rfl) fun Γ hN hds hL hR => ?_
  have hd : ∀ d, Nat.blt d 48 = true → d < Γ.N := fun d h => by rw [hN]; exact Nat.le_of_ble_eq_true h
  have hlx := lenV_lm hx
  have hly := lenV_lm hy
  have hz : (x ^^^ y) < 2 ^ (64 * (max (lm (x : Int)).length (lm (y : Int)).length)) := Nat.xor_lt_two_pow (lm_lt2 (Nat.le_max_left _ _)) (lm_lt2 (Nat.le_max_right _ _))
  refine jc_seq ?_; refine jc_region ?_; refine jo_l (ly_as rfl) (hd 6 rfl) ?_; refine jo_nil ?_; refine jc_seq ?_; refine jc_region ?_; refine jo_l (ly_mv rfl) (hd 11 rfl) ?_; refine jo_l (ly_lenn sl28 rfl) (hd 12 rfl) ?_; refine jo_l (ly_mv rfl) (hd 13 rfl) ?_; refine jo_l (ly_lenn sl28 rfl) (hd 14 rfl) ?_; refine jo_l (ly_is (ly_max rfl rfl) (show V.i .i64 _ = V.i .i64 (((max (lm (x : Int)).length (lm (y : Int)).length) : Nat) : Int) by congr 1; omega)) (hd 15 rfl) ?_; refine jo_h (hy_mk (m := (max (lm (x : Int)).length (lm (y : Int)).length)) el28 rfl rfl rfl (by show 8 * (max (lm (x : Int)).length (lm (y : Int)).length) ≤ _; omega) (by unfold maxLen; omega) rfl) (hd 16 rfl) ?_; refine jo_l (ly_as rfl) (hd 7 rfl) ?_; refine jo_nil ?_; refine jc_seq ?_; refine jc_seq ?_; refine jc_H (H' := [⟨76, 1, 0, true, ints .u64 (fillI (dll (x ^^^ y) 0) (max (lm (x : Int)).length (lm (y : Int)).length))⟩]) (by show [(⟨76, 1, 0, true, ints .u64 _⟩ : Ob)] = [⟨76, 1, 0, true, ints .u64 _⟩]; rw [dll_0]) ?_; refine jc_region ?_; refine jo_l (ly_mv rfl) (hd 17 rfl) ?_; refine jo_l (ly_leno sl28 rfl rfl) (hd 18 rfl) ?_; refine jo_l (ly_mv rfl) (hd 19 rfl) ?_; refine jo_nil ?_; refine jc_block ?_
  refine jc_loopF (G := Nat) (fun i => i ≤ (max (lm (x : Int)).length (lm (y : Int)).length)) (fun i => [(19, .i .i64 (i : Int)), (8, .u), (9, .u), (10, .u), (20, .u), (21, .u), (22, .u), (23, .u), (24, .u), (25, .u), (26, .u), (27, .u), (28, .u), (29, .u), (30, .u), (31, .u), (32, .u), (33, .u), (34, .u), (35, .u), (36, .u), (37, .u), (38, .u), (39, .u), (40, .u), (41, .u), (42, .u), (43, .u), (44, .u), (45, .u)]) (fun i => [⟨76, 1, 0, true, ints .u64 (fillI (dll (x ^^^ y) i) (max (lm (x : Int)).length (lm (y : Int)).length))⟩]) (fun i => (max (lm (x : Int)).length (lm (y : Int)).length) - i) 0 ?_ ?_ rfl ?_
  · exact Nat.zero_le _
  · exact (.cons rfl (.u (.u (.u (.u (.u (.u (.u (.u (.u (.u (.u (.u (.u (.u (.u (.u (.u (.u (.u (.u (.u (.u (.u (.u (.u (.u (.u (.u (.u .nil))))))))))))))))))))))))))))))
  · rintro i hc1
    have hfl := dll_fl (z := (x ^^^ y)) hc1
    have hop : bitop .xor .u64 ((lm (x : Int)).getD i 0) ((lm (y : Int)).getD i 0) = dgl (x ^^^ y) i := by rw [lm_at, lm_at, dgl_xor]
    have hOp := xor1_s ((lm (x : Int)).getD i 0) ((lm (y : Int)).getD i 0)
    rw [hop] at hOp
    refine jc_seq ?_; refine jc_region ?_; refine jo_l (ly_lt rfl rfl) (hd 20 rfl) ?_; refine jo_nil ?_; refine jc_seq ?_
    refine jc_if rfl (fun h1 => ?_) (fun h1 => ?_)
    · refine jc_skip ?_; refine jc_seq ?_; refine jc_block ?_; refine jc_seq ?_; refine jc_region ?_; refine jo_l (ly_mv rfl) (hd 21 rfl) ?_; refine jo_l (ly_as rfl) (hd 8 rfl) ?_; refine jo_nil ?_; refine jc_seq ?_; refine jc_region ?_; refine jo_l (ly_as rfl) (hd 9 rfl) ?_; refine jo_l (ly_as rfl) (hd 10 rfl) ?_; refine jo_nil ?_
      refine jc_meetH (G := Unit) (fun _ => True) (fun _ => [(9, .i .u64 ((lm (x : Int)).getD i 0)), (22, .u), (23, .u), (24, .u), (25, .u), (26, .u), (27, .u), (28, .u), (29, .u)]) ?_ ?_
      · refine jc_seq ?_; refine jc_region ?_; refine jo_l (ly_mv rfl) (hd 22 rfl) ?_; refine jo_l (ly_mv rfl) (hd 23 rfl) ?_; refine jo_l (ly_lenn sl28 rfl) (hd 24 rfl) ?_; refine jo_l (ly_lt rfl rfl) (hd 25 rfl) ?_; refine jo_nil ?_
        refine jc_if rfl (fun h2 => ?_) (fun h2 => ?_)
        · refine jc_region ?_; refine jo_l (ly_mv rfl) (hd 26 rfl) ?_; refine jo_l (ly_mv rfl) (hd 27 rfl) ?_; refine jo_l (ly_ian (i := i) sl28 rfl rfl (by first | rfl | omega) (by omega)) (hd 28 rfl) ?_; refine jo_l (ly_ldq one82 rfl rfl) (hd 29 rfl) ?_; refine jo_l (ly_as rfl) (hd 9 rfl) ?_; refine jo_nil ?_
          refine ⟨(), ?_, rfl, cov_n 9 rfl rfl ?_⟩
          · trivial
          · exact (.cons (by first | rfl | (show some (V.i .u64 _) = some (V.i .u64 _); rw [getD_ge (by omega)])) (.u (.u (.u (.u (.u (.u (.u (.u .nil)))))))))
        · refine jc_skip ?_
          refine ⟨(), ?_, rfl, cov_n 4 rfl rfl ?_⟩
          · trivial
          · exact (.cons (by first | rfl | (show some (V.i .u64 _) = some (V.i .u64 _); rw [getD_ge (by omega)])) (.u (.u (.u (.u (.u (.u (.u (.u .nil)))))))))
      · rintro _ _
        refine jc_meetH (G := Unit) (fun _ => True) (fun _ => [(10, .i .u64 ((lm (y : Int)).getD i 0)), (30, .u), (31, .u), (32, .u), (33, .u), (34, .u), (35, .u), (36, .u), (37, .u)]) ?_ ?_
        · refine jc_seq ?_; refine jc_region ?_; refine jo_l (ly_mv rfl) (hd 30 rfl) ?_; refine jo_l (ly_mv rfl) (hd 31 rfl) ?_; refine jo_l (ly_lenn sl28 rfl) (hd 32 rfl) ?_; refine jo_l (ly_lt rfl rfl) (hd 33 rfl) ?_; refine jo_nil ?_
          refine jc_if rfl (fun h3 => ?_) (fun h3 => ?_)
          · refine jc_region ?_; refine jo_l (ly_mv rfl) (hd 34 rfl) ?_; refine jo_l (ly_mv rfl) (hd 35 rfl) ?_; refine jo_l (ly_ian (i := i) sl28 rfl rfl (by first | rfl | omega) (by omega)) (hd 36 rfl) ?_; refine jo_l (ly_ldq one82 rfl rfl) (hd 37 rfl) ?_; refine jo_l (ly_as rfl) (hd 10 rfl) ?_; refine jo_nil ?_
            refine ⟨(), ?_, rfl, cov_n 9 rfl rfl ?_⟩
            · trivial
            · exact (.cons (by first | rfl | (show some (V.i .u64 _) = some (V.i .u64 _); rw [getD_ge (by omega)])) (.u (.u (.u (.u (.u (.u (.u (.u .nil)))))))))
          · refine jc_skip ?_
            refine ⟨(), ?_, rfl, cov_n 4 rfl rfl ?_⟩
            · trivial
            · exact (.cons (by first | rfl | (show some (V.i .u64 _) = some (V.i .u64 _); rw [getD_ge (by omega)])) (.u (.u (.u (.u (.u (.u (.u (.u .nil)))))))))
        · rintro _ _; refine jc_region ?_; refine jo_l (ly_mv rfl) (hd 38 rfl) ?_; refine jo_l (ly_mv rfl) (hd 39 rfl) ?_; refine jo_l (ly_mv rfl) (hd 40 rfl) ?_; refine jo_l (ly_mv rfl) (hd 41 rfl) ?_; refine jo_l (ly_mv rfl) (hd 42 rfl) ?_
          refine jo_call Tryd.f79 (hOp) rfl Tryd.func79 rfl rfl (ovL_cons rfl (ovL_cons rfl ovL_nil)) (.cons .i (.cons .i .nil)) (hd 43 rfl) ?_ (fun ch hp => by simp at hp)
          rintro y hy; injection hy with hy; subst hy; refine jo_l (ly_ia (i := i) sl28 rfl rfl rfl (by first | rfl | omega) (by omega) rfl) (hd 44 rfl) ?_; refine jo_st (sy_storei rfl rfl rfl one82 (by omega)) ?_; refine jo_nil ?_; refine jc_region ?_; refine jo_l (ly_add rfl rfl (r := ((i + 1 : Nat) : Int)) (by rw [wrap_i64 (by omega) (by omega)]; omega)) (hd 45 rfl) ?_; refine jo_l (ly_mv rfl) (hd 19 rfl) ?_; refine jo_nil ?_
          refine ⟨i + 1, ?_, ?_, (by show [(⟨76, 1, 0, true, ints .u64 _⟩ : Ob)] = [⟨76, 1, 0, true, ints .u64 _⟩]; rw [fill_dll (by omega)]), cov_n 62 rfl rfl ?_⟩
          · omega
          · omega
          · exact (.cons rfl (.u (.u (.u (.u (.u (.u (.u (.u (.u (.u (.u (.u (.u (.u (.u (.u (.u (.u (.u (.u (.u (.u (.u (.u (.u (.u (.u (.u (.u .nil))))))))))))))))))))))))))))))
    · obtain rfl : i = (max (lm (x : Int)).length (lm (y : Int)).length) := by omega
      refine jc_exit ?_; refine jc_seq ?_; refine jc_frz (k := .u64) (l := fillI (dll (x ^^^ y) (max (lm (x : Int)).length (lm (y : Int)).length)) (max (lm (x : Int)).length (lm (y : Int)).length)) (l' := dll (x ^^^ y) (max (lm (x : Int)).length (lm (y : Int)).length)) 7 rfl rfl (by rw [dll_all, dll_len]; omega) (by rw [dll_all, List.drop_zero, List.take_of_length_le (by rw [dll_len]; omega)]) hL ?_; refine jc_region ?_; refine jo_l (ly_mv rfl) (hd 46 rfl) ?_
      refine jo_call Tryd.f87 (trim_s (dll (x ^^^ y) (max (lm (x : Int)).length (lm (y : Int)).length)) (by rw [dll_len]; omega)) rfl Tryd.func87 rfl rfl (ovL_cons rfl ovL_nil) (.cons .n .nil) (hd 47 rfl) ?_ (fun ch hp => by simp at hp)
      rintro y hy; injection hy with hy; subst hy; refine jo_l (ly_as rfl) (hd 6 rfl) ?_; refine jo_nil ?_; refine jc_ret ?_
      refine ⟨_, _, (.cons rfl .nil), .n, ?_⟩
      rw [dll_trm hz]

set_option maxHeartbeats 4000000 in
theorem nXor_v (x y : Nat) (hx : lenV (x : Int) ≤ 67108864) (hy : lenV (y : Int) ≤ 67108864) : Spec Tryd.prog 41 [.n false .u64 (lm (x : Int)), .n false .u64 (lm (y : Int))] (fun o => o = .ret (.n false .u64 (lm (((x ^^^ y) : Nat) : Int)))) := by
  refine spec_of' [(0, .n false .u64 (lm (x : Int))), (1, .n false .u64 (lm (y : Int)))] rfl Tryd.func41 rfl (Nat.le_of_ble_eq_true rfl) fun Γ hN hds hL hR => ?_
  have hd : ∀ d, Nat.blt d 8 = true → d < Γ.N := fun d h => by rw [hN]; exact Nat.le_of_ble_eq_true h
  refine jc_seq ?_; refine jc_region ?_; refine jo_l (ly_as rfl) (hd 4 rfl) ?_; refine jo_nil ?_; refine jc_seq ?_; refine jc_region ?_; refine jo_l (ly_mv rfl) (hd 5 rfl) ?_; refine jo_l (ly_mv rfl) (hd 6 rfl) ?_
  refine jo_call Tryd.f76 (both_xor x y hx hy) rfl Tryd.func76 rfl rfl (ovL_cons rfl (ovL_cons rfl (ovL_cons rfl ovL_nil))) (.cons .n (.cons .n (.cons .f .nil))) (hd 7 rfl) ?_ (fun ch hp => by simp at hp)
  rintro y hy; injection hy with hy; subst hy; refine jo_l (ly_as rfl) (hd 4 rfl) ?_; refine jo_nil ?_; refine jc_ret ?_
  refine ⟨_, _, (.cons rfl .nil), .n, ?_⟩
  exact rfl

set_option maxHeartbeats 4000000 in
theorem without_v (x y : Nat) (hx : lenV (x : Int) ≤ 67108864) (hy : lenV (y : Int) ≤ 67108864) : Spec Tryd.prog 39 [.n false .u64 (lm (x : Int)), .n false .u64 (lm (y : Int))] (fun o => o = .ret (.n false .u64 (lm ((x ^^^ (x &&& y) : Nat) : Int)))) := by
  refine spec_of' [(0, .n false .u64 (lm (x : Int))), (1, .n false .u64 (lm (y : Int)))] rfl Tryd.func39 rfl (Nat.le_of_ble_eq_true rfl) fun Γ hN hds hL hR => ?_
  have hd : ∀ d, Nat.blt d 10 = true → d < Γ.N := fun d h => by rw [hN]; exact Nat.le_of_ble_eq_true h
  have hxy : lenV ((x &&& y : Nat) : Int) ≤ 67108864 := Nat.le_trans (lenV_mono (by have := Nat.and_le_left (n := x) (m := y); omega)) hx
  refine jc_seq ?_; refine jc_region ?_; refine jo_l (ly_as rfl) (hd 4 rfl) ?_; refine jo_nil ?_; refine jc_seq ?_; refine jc_region ?_; refine jo_l (ly_mv rfl) (hd 5 rfl) ?_; refine jo_l (ly_mv rfl) (hd 6 rfl) ?_; refine jo_l (ly_mv rfl) (hd 7 rfl) ?_
  refine jo_call Tryd.f40 (nAnd_v x y hx hy) rfl Tryd.func40 rfl rfl (ovL_cons rfl (ovL_cons rfl ovL_nil)) (.cons .n (.cons .n .nil)) (hd 8 rfl) ?_ (fun ch hp => by simp at hp)
  rintro y hy; injection hy with hy; subst hy
  refine jo_call Tryd.f41 (nXor_v x (x &&& y) hx hxy) rfl Tryd.func41 rfl rfl (ovL_cons rfl (ovL_cons rfl ovL_nil)) (.cons .n (.cons .n .nil)) (hd 9 rfl) ?_ (fun ch hp => by simp at hp)
  rintro y hy; injection hy with hy; subst hy; refine jo_l (ly_as rfl) (hd 4 rfl) ?_; refine jo_nil ?_; refine jc_ret ?_
  refine ⟨_, _, (.cons rfl .nil), .n, ?_⟩
  exact rfl
end Go.Proofs.YtaogaegchagbfaaDoor.Vc

/- Contracts of whole.Mul, Sub, Add by values, answers frozen. -/
namespace Go.Proofs.YtaogaegchagbfaaDoor.Vc
open Go Go.RowKit
end Go.Proofs.YtaogaegchagbfaaDoor.Vc

/- Contracts of whole.twos, back. -/
namespace Go.Proofs.YtaogaegchagbfaaDoor.Vc
open Go Go.RowKit
set_option maxHeartbeats 4000000 in
theorem twos_p (s : Bool) (a : List Int) (v : Int) (la : a.length < 4294967296) (ua : u64s a) (ev : sv s a = v) (hv : lenV v ≤ 67108860) (h0 : 0 ≤ v) : Spec Tryd.prog 36 [.a [.b s, .n false .u64 a]] (fun o => o = .ret (.t [.n false .u64 (lm ((tw v : Nat) : Int)), .b false])) := by
  refine spec_of' [(0, .a [.b s, .n false .u64 a])] rfl Tryd.func36 rfl (Nat.le_of_ble_eq_true rfl) fun Γ hN hds hL hR => ?_
  have hd : ∀ d, Nat.blt d 20 = true → d < Γ.N := fun d h => by rw [hN]; exact Nat.le_of_ble_eq_true h
  have hSg := WSign_s s a la ua
  rw [ev] at hSg
  have hNo : Spec Tryd.prog 75 [.n false .u64 a] (fun o => o = .ret (.n false .u64 (lm ((tw v : Nat) : Int)))) := by have h := Norm_s a (by omega); rw [(raw_res ua ev).2.1] at h; rw [tw_p h0, Int.toNat_of_nonneg h0]; exact h.nn
  refine jc_seq ?_; refine jc_region ?_; refine jo_h (hy_box (id := 0) (n := 2) rfl rfl rfl (by decide) rfl) (hd 1 rfl) ?_; refine jo_l (ly_as rfl) (hd 2 rfl) ?_; refine jo_l (ly_as rfl) (hd 3 rfl) ?_; refine jo_nil ?_; refine jc_seq ?_; refine jc_seq ?_; refine jc_region ?_; refine jo_l (ly_lda agg30 rfl rfl rfl rfl) (hd 6 rfl) ?_
  refine jo_call Tryd.f44 (hSg) rfl Tryd.func44 rfl rfl (ovL_cons rfl ovL_nil) (.cons (.a1 .b (.a1 .n .a0)) .nil) (hd 7 rfl) ?_ (fun ch hp => by simp at hp)
  rintro y hy; injection hy with hy; subst hy; refine jo_l (ly_tt (ly_ge rfl rfl) (by unfold sgnI; (repeat' split) <;> omega)) (hd 8 rfl) ?_; refine jo_nil ?_; refine jc_litt rfl ?_; refine jc_seq ?_; refine jc_region ?_; refine jo_l (ly_fa fld30_1 rfl rfl rfl) (hd 9 rfl) ?_; refine jo_l (ly_ld one28 rfl rfl rfl) (hd 10 rfl) ?_
  refine jo_call Tryd.f75 (hNo) rfl Tryd.func75 rfl rfl (ovL_cons rfl ovL_nil) (.cons .n .nil) (hd 11 rfl) ?_ (fun ch hp => by simp at hp)
  rintro y hy; injection hy with hy; subst hy; refine jo_l (ly_as rfl) (hd 2 rfl) ?_; refine jo_l (ly_as rfl) (hd 3 rfl) ?_; refine jo_nil ?_; refine jc_ret ?_
  refine ⟨_, _, (.cons rfl (.cons rfl .nil)), (.t1 .n (.t1 .b .t0)), ?_⟩
  exact rfl

set_option maxHeartbeats 4000000 in
theorem twos_n (s : Bool) (a : List Int) (v : Int) (la : a.length < 4294967296) (ua : u64s a) (ev : sv s a = v) (hv : lenV v ≤ 67108860) (h0 : v < 0) : Spec Tryd.prog 36 [.a [.b s, .n false .u64 a]] (fun o => o = .ret (.t [.n false .u64 (lm ((tw v : Nat) : Int)), .b true])) := by
  refine spec_of' [(0, .a [.b s, .n false .u64 a])] rfl Tryd.func36 rfl (Nat.le_of_ble_eq_true rfl) fun Γ hN hds hL hR => ?_
  have hd : ∀ d, Nat.blt d 20 = true → d < Γ.N := fun d h => by rw [hN]; exact Nat.le_of_ble_eq_true h
  have hSg := WSign_s s a la ua
  rw [ev] at hSg
  have hva : vl a = -v := by have h8 := vl_nonneg ua; unfold sv at ev; split at ev <;> omega
  have hSb : Spec Tryd.prog 63 [.n false .u64 a, .n false .u64 [1]] (fun o => o = .ret (.t [.n false .u64 (lm ((tw v : Nat) : Int)), .i .i64 0])) := by
    have u1 : u64s [1] := u64s1 (by decide) (by decide)
    have hd : vl (difL a [1]) = ((tw v : Nat) : Int) := by rw [vl_difL ua u1 (by show 1 + Bs * 0 ≤ _; omega), tw_n h0, hva]; show -v - (1 + Bs * 0) = _; omega
    have hu : u64s (difL a [1]) := sbN_u (u64s_trm ua) (u64s_trm u1) _
    have e := trm_lm hu hd
    have hc := cmpL_val ua u1
    have h1v : vl [1] = 1 := rfl
    have hlz : lenV ((tw v : Nat) : Int) ≤ 67108864 := Nat.le_trans (lenV_mono (w := v) (by rw [tw_n h0]; omega)) (by omega)
    have h := Sub_ok a [1] (by omega) (by decide) ua u1 (by rcases hc with ⟨c, x⟩ | ⟨c, x⟩ | ⟨c, x⟩ <;> omega) (by rw [e, lenN_lm]; exact hlz)
    rwa [e] at h
  have hF1 : Spec Tryd.prog 68 [.i .u64 1] (fun o => o = .ret (.n true .u64 [1])) := by have h := From_s 1; rwa [if_neg (by decide)] at h
  refine jc_seq ?_; refine jc_region ?_; refine jo_h (hy_box (id := 0) (n := 2) rfl rfl rfl (by decide) rfl) (hd 1 rfl) ?_; refine jo_l (ly_as rfl) (hd 2 rfl) ?_; refine jo_l (ly_as rfl) (hd 3 rfl) ?_; refine jo_nil ?_; refine jc_seq ?_; refine jc_seq ?_; refine jc_region ?_; refine jo_l (ly_lda agg30 rfl rfl rfl rfl) (hd 6 rfl) ?_
  refine jo_call Tryd.f44 (hSg) rfl Tryd.func44 rfl rfl (ovL_cons rfl ovL_nil) (.cons (.a1 .b (.a1 .n .a0)) .nil) (hd 7 rfl) ?_ (fun ch hp => by simp at hp)
  rintro y hy; injection hy with hy; subst hy; refine jo_l (ly_ff (ly_ge rfl rfl) (by unfold sgnI; (repeat' split) <;> omega)) (hd 8 rfl) ?_; refine jo_nil ?_; refine jc_litf rfl ?_; refine jc_skip ?_; refine jc_seq ?_; refine jc_draw (n := 9) _ rfl mixed ?_; refine ja_l2 0 [1, 3, 4, 5, 6, 7, 8] (lo_l (ly_fa fld30_1 rfl rfl rfl) (hd 13 rfl)) rfl (by kernel_rfl) (by kernel_rfl) (by kernel_rfl) (by kernel_rfl) (fun _ _ _ _ h => h) ?_; refine ja_l2 1 [3, 4, 5, 6, 7, 8] (lo_l (ly_ld one28 rfl rfl rfl) (hd 14 rfl)) rfl (by kernel_rfl) (by kernel_rfl) (by kernel_rfl) (by kernel_rfl) (fun _ _ _ _ h => h) ?_
  refine ja_1 2 ?_ rfl (by kernel_rfl)
  refine js_call Tryd.f68 (hF1) rfl Tryd.func68 rfl rfl (ovL_cons rfl ovL_nil) (.cons .i .nil) (hd 15 rfl) ?_ (fun ch hp => by simp at hp)
  rintro y hy; injection hy with hy; subst hy
  refine ja_1 3 ?_ rfl (by kernel_rfl)
  refine js_call Tryd.f63 (hSb) rfl Tryd.func63 rfl rfl (ovL_cons rfl (ovL_cons rfl ovL_nil)) (.cons .n (.cons .n .nil)) (hd 16 rfl) ?_ (fun ch hp => by simp at hp)
  rintro y hy; injection hy with hy; subst hy; refine ja_l 4 (lo_l (ly_mv rfl) (hd 12 rfl)) rfl (by kernel_rfl) (by kernel_rfl) (by kernel_rfl) (fun _ _ _ _ h => h) ?_; refine ja_l 5 (lo_l (ly_ext rfl rfl) (hd 17 rfl)) rfl (by kernel_rfl) (by kernel_rfl) (by kernel_rfl) (fun _ _ _ _ h => h) ?_; refine ja_l 6 (lo_l (ly_ext rfl rfl) (hd 18 rfl)) rfl (by kernel_rfl) (by kernel_rfl) (by kernel_rfl) (fun _ _ _ _ h => h) ?_; refine ja_l 7 (lo_l (ly_as rfl) (hd 4 rfl)) rfl (by kernel_rfl) (by kernel_rfl) (by kernel_rfl) (fun _ _ _ _ h => h) ?_; refine ja_l 8 (lo_l (ly_as rfl) (hd 5 rfl)) rfl (by kernel_rfl) (by kernel_rfl) (by kernel_rfl) (fun _ _ _ _ h => h) ?_; refine ja_nil (by kernel_rfl) ?_; refine jc_seq ?_; refine jc_region ?_; refine jo_l (ly_mv rfl) (hd 19 rfl) ?_; refine jo_l (ly_as rfl) (hd 2 rfl) ?_; refine jo_l (ly_as rfl) (hd 3 rfl) ?_; refine jo_nil ?_; refine jc_ret ?_
  refine ⟨_, _, (.cons rfl (.cons rfl .nil)), (.t1 .n (.t1 .b .t0)), ?_⟩
  exact rfl

end Go.Proofs.YtaogaegchagbfaaDoor.Vc

/- Contracts of whole.Of, flip, Sign by values. -/
namespace Go.Proofs.YtaogaegchagbfaaDoor.Vc
open Go Go.RowKit
set_option maxHeartbeats 4000000 in
theorem Of_0  : Spec Tryd.prog 58 [.i .i64 0] (fun o => o = .ret (.a [.b false, .n true .u64 []])) := by
  refine spec_of' [(0, .i .i64 0)] rfl Tryd.func58 rfl (Nat.le_of_ble_eq_true rfl) fun Γ hN hds hL hR => ?_
  have hd : ∀ d, Nat.blt d 14 = true → d < Γ.N := fun d h => by rw [hN]; exact Nat.le_of_ble_eq_true h
  have rF : Spec Tryd.prog 68 [.i .u64 0] (fun o => o = .ret (.n true .u64 [])) := by have h := From_s 0; rwa [if_pos rfl] at h
  refine jc_seq ?_; refine jc_region ?_; refine jo_h (hy_alloc (id := 0) zero30 (by decide) rfl (by decide) rfl) (hd 2 rfl) ?_; refine jo_nil ?_; refine jc_seq ?_; refine jc_seq ?_; refine jc_region ?_; refine jo_l (ly_mv rfl) (hd 3 rfl) ?_; refine jo_l (ly_ff (ly_lt rfl rfl) (by decide)) (hd 4 rfl) ?_; refine jo_nil ?_; refine jc_litf rfl ?_; refine jc_skip ?_; refine jc_seq ?_; refine jc_region ?_; refine jo_l (ly_mv rfl) (hd 10 rfl) ?_; refine jo_l (ly_conv und3 und82 rfl (r := 0) rfl) (hd 11 rfl) ?_
  refine jo_call Tryd.f68 (rF) rfl Tryd.func68 rfl rfl (ovL_cons rfl ovL_nil) (.cons .i .nil) (hd 12 rfl) ?_ (fun ch hp => by simp at hp)
  rintro y hy; injection hy with hy; subst hy; refine jo_l (ly_build (is := [1]) (xs := [.tmp 12]) zero30 pls30_1 rfl (ovL_cons rfl ovL_nil) rfl (by first | (simp [plsOk, cellsV]; done) | (simp [plsOk, cellsV, old]; done)) (all_of rfl) rfl) (hd 13 rfl) ?_; refine jo_st (sy_store rfl rfl rfl siz30 rfl rfl (Nat.le_of_ble_eq_true rfl)) ?_; refine jo_nil ?_; refine jc_ret ?_
  refine ⟨_, _, (.cons (ResV.cell agg30 rfl rfl rfl rfl) .nil), (.a1 .b (.a1 .n .a0)), ?_⟩
  exact rfl

theorem Of_v (v : Int) (h : inI v) : Spec Tryd.prog 58 [.i .i64 v] (fun o => o = .ret (.a [.b (decide (v < 0)), .n true .u64 (lm v)])) := by
  have e := of_lm h
  obtain ⟨h1, h2⟩ := h
  rw [e]
  unfold fl
  rcases Int.lt_trichotomy v 0 with hv | hv | hv
  · rw [decide_eq_true hv, if_neg (by omega), show ((v.natAbs : Nat) : Int) = -v by omega]
    exact Of_neg v hv h1
  · subst hv
    exact Of_0
  · rw [decide_eq_false (by omega), if_neg (by omega), show ((v.natAbs : Nat) : Int) = v by omega]
    exact Of_pos v hv h2
end Go.Proofs.YtaogaegchagbfaaDoor.Vc

/- Contracts of whole.And, Or, Xor, Not, Bit. -/
namespace Go.Proofs.YtaogaegchagbfaaDoor.Vc
open Go Go.RowKit
theorem tw_len (v : Int) : lenV ((tw v : Nat) : Int) ≤ lenV v := lenV_mono (by unfold tw; split <;> omega)
theorem op_len {x y L : Nat} (hx : lenV (x : Int) ≤ L) (hy : lenV (y : Int) ≤ L) : lenV ((x &&& y : Nat) : Int) ≤ L ∧ lenV ((x ||| y : Nat) : Int) ≤ L ∧ lenV ((x ^^^ y : Nat) : Int) ≤ L ∧ lenV ((x ^^^ (x &&& y) : Nat) : Int) ≤ L := by
  have h1 : x < 2 ^ L := Nat.lt_of_lt_of_le (lt_lenV x) (Nat.pow_le_pow_right (by decide) hx)
  have h2 : y < 2 ^ L := Nat.lt_of_lt_of_le (lt_lenV y) (Nat.pow_le_pow_right (by decide) hy)
  exact ⟨lenV_pow2 (Nat.and_lt_two_pow _ h2), lenV_pow2 (Nat.or_lt_two_pow h1 h2), lenV_pow2 (Nat.xor_lt_two_pow h1 h2), lenV_pow2 (Nat.xor_lt_two_pow h1 (Nat.and_lt_two_pow _ h2))⟩

set_option maxHeartbeats 4000000 in
theorem wBit_p (sa : Bool) (a : List Int) (v : Int) (la : a.length < 4294967296) (ua : u64s a) (ev : sv sa a = v) (hv : lenV v ≤ 67108860) (i : Nat) (hi : i < 9223372036854775808) (h0 : 0 ≤ v) : Spec Tryd.prog 12 [.a [.b sa, .n false .u64 a], .i .i64 (i : Int)] (fun o => o = .ret (.t [.i .i64 (bitI v i), .i .i64 0])) := by
  refine spec_of' [(0, .a [.b sa, .n false .u64 a]), (1, .i .i64 (i : Int))] rfl Tryd.func12 rfl (Nat.le_of_ble_eq_true rfl) fun Γ hN hds hL hR => ?_
  have hd : ∀ d, Nat.blt d 23 = true → d < Γ.N := fun d h => by rw [hN]; exact Nat.le_of_ble_eq_true h
  have hA := twos_p sa a v la ua ev hv h0
  have hlx := lenV_lm (v := ((tw v : Nat) : Int)) (by have := tw_len v; omega)
  have hBi : Spec Tryd.prog 43 [.n false .u64 (lm ((tw v : Nat) : Int)), .i .i64 (i : Int)] (fun o => o = .ret (.i .i64 ((tw v / 2 ^ i % 2 : Nat) : Int))) := by have h := Bit_r (lm ((tw v : Nat) : Int)) i (by omega) (lm_u _) hi; rwa [vl_lm (Int.natCast_nonneg _), Int.toNat_natCast] at h
  have hm2 := Nat.mod_lt (tw v / 2 ^ i) (show 0 < 2 by decide)
  refine jc_seq ?_; refine jc_region ?_; refine jo_h (hy_box (id := 0) (n := 2) rfl rfl rfl (by decide) rfl) (hd 2 rfl) ?_; refine jo_l (ly_as rfl) (hd 4 rfl) ?_; refine jo_l (ly_as rfl) (hd 5 rfl) ?_; refine jo_nil ?_; refine jc_seq ?_; refine jc_seq ?_; refine jc_region ?_; refine jo_l (ly_mv rfl) (hd 9 rfl) ?_; refine jo_l (ly_ff (ly_lt rfl rfl) (by omega)) (hd 10 rfl) ?_; refine jo_nil ?_; refine jc_litf rfl ?_; refine jc_skip ?_; refine jc_seq ?_; refine jc_region ?_; refine jo_l (ly_lda agg30 rfl rfl rfl rfl) (hd 12 rfl) ?_
  refine jo_call Tryd.f36 (hA) rfl Tryd.func36 rfl rfl (ovL_cons rfl ovL_nil) (.cons (.a1 .b (.a1 .n .a0)) .nil) (hd 13 rfl) ?_ (fun ch hp => by simp at hp)
  rintro y hy; injection hy with hy; subst hy; refine jo_l (ly_mv rfl) (hd 11 rfl) ?_; refine jo_l (ly_ext rfl rfl) (hd 14 rfl) ?_; refine jo_l (ly_ext rfl rfl) (hd 15 rfl) ?_; refine jo_l (ly_as rfl) (hd 6 rfl) ?_; refine jo_l (ly_as rfl) (hd 7 rfl) ?_; refine jo_nil ?_; refine jc_seq ?_; refine jc_region ?_; refine jo_l (ly_mv rfl) (hd 16 rfl) ?_; refine jo_l (ly_mv rfl) (hd 17 rfl) ?_
  refine jo_call Tryd.f43 (hBi) rfl Tryd.func43 rfl rfl (ovL_cons rfl (ovL_cons rfl ovL_nil)) (.cons .n (.cons .i .nil)) (hd 18 rfl) ?_ (fun ch hp => by simp at hp)
  rintro y hy; injection hy with hy; subst hy; refine jo_l (ly_as rfl) (hd 8 rfl) ?_; refine jo_nil ?_; refine jc_seq ?_; refine jc_seq ?_; refine jc_region ?_; refine jo_l (ly_mv rfl) (hd 19 rfl) ?_; refine jo_nil ?_; refine jc_litf rfl ?_; refine jc_skip ?_; refine jc_seq ?_; refine jc_region ?_; refine jo_l (ly_mv rfl) (hd 22 rfl) ?_; refine jo_l (ly_as rfl) (hd 4 rfl) ?_; refine jo_l (ly_as rfl) (hd 5 rfl) ?_; refine jo_nil ?_; refine jc_ret ?_
  refine ⟨_, _, (.cons rfl (.cons rfl .nil)), (.t1 .i (.t1 .i .t0)), ?_⟩
  unfold bitI; rw [if_neg (by omega)]

set_option maxHeartbeats 4000000 in
theorem wBit_n (sa : Bool) (a : List Int) (v : Int) (la : a.length < 4294967296) (ua : u64s a) (ev : sv sa a = v) (hv : lenV v ≤ 67108860) (i : Nat) (hi : i < 9223372036854775808) (h0 : v < 0) : Spec Tryd.prog 12 [.a [.b sa, .n false .u64 a], .i .i64 (i : Int)] (fun o => o = .ret (.t [.i .i64 (bitI v i), .i .i64 0])) := by
  refine spec_of' [(0, .a [.b sa, .n false .u64 a]), (1, .i .i64 (i : Int))] rfl Tryd.func12 rfl (Nat.le_of_ble_eq_true rfl) fun Γ hN hds hL hR => ?_
  have hd : ∀ d, Nat.blt d 23 = true → d < Γ.N := fun d h => by rw [hN]; exact Nat.le_of_ble_eq_true h
  have hA := twos_n sa a v la ua ev hv h0
  have hlx := lenV_lm (v := ((tw v : Nat) : Int)) (by have := tw_len v; omega)
  have hBi : Spec Tryd.prog 43 [.n false .u64 (lm ((tw v : Nat) : Int)), .i .i64 (i : Int)] (fun o => o = .ret (.i .i64 ((tw v / 2 ^ i % 2 : Nat) : Int))) := by have h := Bit_r (lm ((tw v : Nat) : Int)) i (by omega) (lm_u _) hi; rwa [vl_lm (Int.natCast_nonneg _), Int.toNat_natCast] at h
  have hm2 := Nat.mod_lt (tw v / 2 ^ i) (show 0 < 2 by decide)
  refine jc_seq ?_; refine jc_region ?_; refine jo_h (hy_box (id := 0) (n := 2) rfl rfl rfl (by decide) rfl) (hd 2 rfl) ?_; refine jo_l (ly_as rfl) (hd 4 rfl) ?_; refine jo_l (ly_as rfl) (hd 5 rfl) ?_; refine jo_nil ?_; refine jc_seq ?_; refine jc_seq ?_; refine jc_region ?_; refine jo_l (ly_mv rfl) (hd 9 rfl) ?_; refine jo_l (ly_ff (ly_lt rfl rfl) (by omega)) (hd 10 rfl) ?_; refine jo_nil ?_; refine jc_litf rfl ?_; refine jc_skip ?_; refine jc_seq ?_; refine jc_region ?_; refine jo_l (ly_lda agg30 rfl rfl rfl rfl) (hd 12 rfl) ?_
  refine jo_call Tryd.f36 (hA) rfl Tryd.func36 rfl rfl (ovL_cons rfl ovL_nil) (.cons (.a1 .b (.a1 .n .a0)) .nil) (hd 13 rfl) ?_ (fun ch hp => by simp at hp)
  rintro y hy; injection hy with hy; subst hy; refine jo_l (ly_mv rfl) (hd 11 rfl) ?_; refine jo_l (ly_ext rfl rfl) (hd 14 rfl) ?_; refine jo_l (ly_ext rfl rfl) (hd 15 rfl) ?_; refine jo_l (ly_as rfl) (hd 6 rfl) ?_; refine jo_l (ly_as rfl) (hd 7 rfl) ?_; refine jo_nil ?_; refine jc_seq ?_; refine jc_region ?_; refine jo_l (ly_mv rfl) (hd 16 rfl) ?_; refine jo_l (ly_mv rfl) (hd 17 rfl) ?_
  refine jo_call Tryd.f43 (hBi) rfl Tryd.func43 rfl rfl (ovL_cons rfl (ovL_cons rfl ovL_nil)) (.cons .n (.cons .i .nil)) (hd 18 rfl) ?_ (fun ch hp => by simp at hp)
  rintro y hy; injection hy with hy; subst hy; refine jo_l (ly_as rfl) (hd 8 rfl) ?_; refine jo_nil ?_; refine jc_seq ?_; refine jc_seq ?_; refine jc_region ?_; refine jo_l (ly_mv rfl) (hd 19 rfl) ?_; refine jo_nil ?_; refine jc_litt rfl ?_; refine jc_region ?_; refine jo_l (ly_mv rfl) (hd 20 rfl) ?_; refine jo_l (ly_sub rfl rfl (r := 1 - ((tw v / 2 ^ i % 2 : Nat) : Int)) (wrap_i64 (by omega) (by omega))) (hd 21 rfl) ?_; refine jo_l (ly_as rfl) (hd 8 rfl) ?_; refine jo_nil ?_; refine jc_seq ?_; refine jc_region ?_; refine jo_l (ly_mv rfl) (hd 22 rfl) ?_; refine jo_l (ly_as rfl) (hd 4 rfl) ?_; refine jo_l (ly_as rfl) (hd 5 rfl) ?_; refine jo_nil ?_; refine jc_ret ?_
  refine ⟨_, _, (.cons rfl (.cons rfl .nil)), (.t1 .i (.t1 .i .t0)), ?_⟩
  unfold bitI; rw [if_pos (by omega)]

theorem wBit_v (sa : Bool) (a : List Int) (v : Int) (la : a.length < 4294967296) (ua : u64s a) (ev : sv sa a = v) (hv : lenV v ≤ 67108860) (i : Nat) (hi : i < 9223372036854775808) : Spec Tryd.prog 12 [.a [.b sa, .n false .u64 a], .i .i64 (i : Int)] (fun o => o = .ret (.t [.i .i64 (bitI v i), .i .i64 0])) := by
  by_cases h0 : v < 0
  · exact wBit_n sa a v la ua ev hv i hi h0
  · exact wBit_p sa a v la ua ev hv i hi (by omega)
end Go.Proofs.YtaogaegchagbfaaDoor.Vc

/- Contract of nat.Left by nothing. -/
namespace Go.Proofs.YtaogaegchagbfaaDoor.Vc
open Go Go.RowKit
end Go.Proofs.YtaogaegchagbfaaDoor.Vc

/- Contract of whole.Shift downwards. -/
namespace Go.Proofs.YtaogaegchagbfaaDoor.Vc
open Go Go.RowKit
end Go.Proofs.YtaogaegchagbfaaDoor.Vc

/- The contract of surdlaw06.WholeMasks. -/
namespace Go.Proofs.YtaogaegchagbfaaDoor.Vc
open Go Go.RowKit
theorem lenV_not (z : Nat) : lenV (-((z : Nat) : Int) - 1) ≤ lenV ((z : Nat) : Int) + 1 := by
  have h1 := lenV_sub (-((z : Nat) : Int)) 1
  have h2 : lenV (-((z : Nat) : Int)) = lenV ((z : Nat) : Int) := by unfold lenV; rw [Int.natAbs_neg]
  have h3 : lenV 1 = 1 := by decide +kernel
  rcases Nat.eq_zero_or_pos z with h0 | h0
  · subst h0; decide +kernel
  · have h4 := @lenV_0 ((z : Nat) : Int)
    omega
theorem andI_len {v w : Int} {L : Nat} (hv : lenV v ≤ L) (hw : lenV w ≤ L) : lenV (andI v w) ≤ L + 1 := by
  have a := op_len (Nat.le_trans (tw_len v) hv) (Nat.le_trans (tw_len w) hw)
  have b := op_len (Nat.le_trans (tw_len w) hw) (Nat.le_trans (tw_len v) hv)
  have n1 := lenV_not (tw v ||| tw w)
  unfold andI
  split <;> split <;> omega
theorem orI_len {v w : Int} {L : Nat} (hv : lenV v ≤ L) (hw : lenV w ≤ L) : lenV (orI v w) ≤ L + 1 := by
  have a := op_len (Nat.le_trans (tw_len v) hv) (Nat.le_trans (tw_len w) hw)
  have b := op_len (Nat.le_trans (tw_len w) hw) (Nat.le_trans (tw_len v) hv)
  have n1 := lenV_not (tw v &&& tw w)
  have n2 := lenV_not (tw v ^^^ (tw v &&& tw w))
  have n3 := lenV_not (tw w ^^^ (tw w &&& tw v))
  unfold orI
  split <;> split <;> omega
theorem xoI_len {v w : Int} {L : Nat} (hv : lenV v ≤ L) (hw : lenV w ≤ L) : lenV (xoI v w) ≤ L + 1 := by
  have a := op_len (Nat.le_trans (tw_len v) hv) (Nat.le_trans (tw_len w) hw)
  have n1 := lenV_not (tw v ^^^ tw w)
  unfold xoI
  split <;> omega
end Go.Proofs.YtaogaegchagbfaaDoor.Vc

/- Contracts of whole.And, Or, Xor, Not with own rows. -/
namespace Go.Proofs.YtaogaegchagbfaaDoor.Vc
open Go Go.RowKit
set_option maxHeartbeats 4000000 in
theorem back_fn (k : Nat) (hk : lenV (k : Int) ≤ 67108864) : SpecM Tryd.prog 37 [.n false .u64 (lm (k : Int)), .b false] [] (fun o G => o = .ret (.t [.a [.b (decide (((k : Nat) : Int) < 0)), .o 0 0 0 (lm ((k : Nat) : Int)).length], .i .i64 0]) ∧ G = [⟨76, 1, 0, true, ints .u64 (lm ((k : Nat) : Int))⟩]) := by
  refine specS_of [(0, .n false .u64 (lm (k : Int))), (1, .b false)] rfl Tryd.func37 rfl (Nat.le_of_ble_eq_true rfl) fun Γ hN hds hL hR => ?_
  have hd : ∀ d, Nat.blt d 25 = true → d < Γ.N := fun d h => by rw [hN]; exact Nat.le_of_ble_eq_true h
  have hlk := lenV_lm hk
  refine jc_seq ?_; refine jc_region ?_; refine jo_h (hy_alloc (id := 0) zero30 (by decide) rfl (by decide) rfl) (hd 4 rfl) ?_; refine jo_l (ly_as rfl) (hd 5 rfl) ?_; refine jo_nil ?_; refine jc_seq ?_; refine jc_seq ?_; refine jc_region ?_; refine jo_l (ly_mv rfl) (hd 8 rfl) ?_; refine jo_l (ly_not rfl) (hd 9 rfl) ?_; refine jo_nil ?_; refine jc_litt rfl ?_; refine jc_seq ?_; refine jc_region ?_; refine jo_l (ly_mv rfl) (hd 10 rfl) ?_
  refine jo_callN Tryd.f61 (result_nv false (lm (k : Int)) (k : Int) (by omega) (lm_u _) (show vl (lm (k : Int)) = _ from vl_lm (Int.natCast_nonneg _)) hk) (fun o G ⟨_, h⟩ => h ▸ idless_cons ints_id idless_nil) rfl Tryd.func61 rfl rfl (ovL_cons rfl (ovL_cons rfl (ovL_cons rfl ovL_nil))) (.cons .b (.cons .n (.cons .i .nil))) (hd 11 rfl) ?_ (fun ch G hp => by simp at hp)
  rintro y G ⟨hy, rfl⟩; injection hy with hy; subst hy
  show JO _ _ _ _ ((11, .t [.a [.b (decide (((k : Nat) : Int) < 0)), .o 1 0 0 (lm ((k : Nat) : Int)).length], .i .i64 0]) :: _) _ _
  refine jo_l (ly_ext rfl rfl) (hd 12 rfl) ?_; refine jo_l (ly_ext rfl rfl) (hd 13 rfl) ?_; refine jo_st (sy_store rfl rfl rfl siz30 rfl rfl (Nat.le_of_ble_eq_true rfl)) ?_; refine jo_l (ly_as rfl) (hd 5 rfl) ?_; refine jo_nil ?_; refine jc_ret ?_
  refine ⟨[1], _, (.t [.a [.b (decide (((k : Nat) : Int) < 0)), .o 0 0 0 (lm ((k : Nat) : Int)).length], .i .i64 0]), (.cons (ResV.cell agg30 rfl rfl rfl rfl) (.cons rfl .nil)), rfl, rfl, (by decide), (by first | exact idless_cons ints_id idless_nil | exact idless_cons rfl idless_nil), ?_⟩
  exact ⟨rfl, rfl⟩

set_option maxHeartbeats 4000000 in
theorem back_tn (k : Nat) (hk : lenV (k : Int) ≤ 67108863) : SpecM Tryd.prog 37 [.n false .u64 (lm (k : Int)), .b true] [] (fun o G => o = .ret (.t [.a [.b (decide ((-((k : Nat) : Int) - 1) < 0)), .o 0 0 0 (lm (-((k : Nat) : Int) - 1)).length], .i .i64 0]) ∧ G = [⟨76, 1, 0, true, ints .u64 (lm (-((k : Nat) : Int) - 1))⟩]) := by
  refine specS_of [(0, .n false .u64 (lm (k : Int))), (1, .b true)] rfl Tryd.func37 rfl (Nat.le_of_ble_eq_true rfl) fun Γ hN hds hL hR => ?_
  have hd : ∀ d, Nat.blt d 25 = true → d < Γ.N := fun d h => by rw [hN]; exact Nat.le_of_ble_eq_true h
  have hl1 : lenV 1 = 1 := by decide +kernel
  have hs1 := lenV_add (k : Int) 1
  have hka : lenV ((k : Int) + 1) ≤ 67108864 := by omega
  have hlk := lenV_lm hka
  have hAd := Add1_v (k : Int) (by omega) hka
  have hF1 : Spec Tryd.prog 68 [.i .u64 1] (fun o => o = .ret (.n true .u64 [1])) := by have h := From_s 1; rwa [if_neg (by decide)] at h
  have hnl : lenV (-((k : Nat) : Int) - 1) ≤ 67108864 := by have := lenV_not k; omega
  refine jc_seq ?_; refine jc_region ?_; refine jo_h (hy_alloc (id := 0) zero30 (by decide) rfl (by decide) rfl) (hd 4 rfl) ?_; refine jo_l (ly_as rfl) (hd 5 rfl) ?_; refine jo_nil ?_; refine jc_seq ?_; refine jc_seq ?_; refine jc_region ?_; refine jo_l (ly_mv rfl) (hd 8 rfl) ?_; refine jo_l (ly_not rfl) (hd 9 rfl) ?_; refine jo_nil ?_; refine jc_litf rfl ?_; refine jc_skip ?_; refine jc_seq ?_; refine jc_region ?_; refine jo_l (ly_mv rfl) (hd 15 rfl) ?_
  refine jo_call Tryd.f68 (hF1) rfl Tryd.func68 rfl rfl (ovL_cons rfl ovL_nil) (.cons .i .nil) (hd 16 rfl) ?_ (fun ch hp => by simp at hp)
  rintro y hy; injection hy with hy; subst hy
  refine jo_call Tryd.f60 (hAd) rfl Tryd.func60 rfl rfl (ovL_cons rfl (ovL_cons rfl ovL_nil)) (.cons .n (.cons .n .nil)) (hd 17 rfl) ?_ (fun ch hp => by simp at hp)
  rintro y hy; injection hy with hy; subst hy; refine jo_l (ly_mv rfl) (hd 14 rfl) ?_; refine jo_l (ly_ext rfl rfl) (hd 18 rfl) ?_; refine jo_l (ly_ext rfl rfl) (hd 19 rfl) ?_; refine jo_l (ly_as rfl) (hd 6 rfl) ?_; refine jo_l (ly_as rfl) (hd 7 rfl) ?_; refine jo_nil ?_; refine jc_seq ?_; refine jc_region ?_; refine jo_l (ly_mv rfl) (hd 20 rfl) ?_; refine jo_l (ly_mv rfl) (hd 21 rfl) ?_
  refine jo_callN Tryd.f61 (result_nv true (lm ((k : Int) + 1)) (-((k : Nat) : Int) - 1) (by omega) (lm_u _) (by show -(vl (lm ((k : Int) + 1))) = _; rw [vl_lm (by omega)]; omega) hnl) (fun o G ⟨_, h⟩ => h ▸ idless_cons ints_id idless_nil) rfl Tryd.func61 rfl rfl (ovL_cons rfl (ovL_cons rfl (ovL_cons rfl ovL_nil))) (.cons .b (.cons .n (.cons .i .nil))) (hd 22 rfl) ?_ (fun ch G hp => by simp at hp)
  rintro y G ⟨hy, rfl⟩; injection hy with hy; subst hy
  show JO _ _ _ _ ((22, .t [.a [.b (decide ((-((k : Nat) : Int) - 1) < 0)), .o 1 0 0 (lm (-((k : Nat) : Int) - 1)).length], .i .i64 0]) :: _) _ _
  refine jo_l (ly_ext rfl rfl) (hd 23 rfl) ?_; refine jo_l (ly_ext rfl rfl) (hd 24 rfl) ?_; refine jo_st (sy_store rfl rfl rfl siz30 rfl rfl (Nat.le_of_ble_eq_true rfl)) ?_; refine jo_l (ly_as rfl) (hd 5 rfl) ?_; refine jo_nil ?_; refine jc_ret ?_
  refine ⟨[1], _, (.t [.a [.b (decide ((-((k : Nat) : Int) - 1) < 0)), .o 0 0 0 (lm (-((k : Nat) : Int) - 1)).length], .i .i64 0]), (.cons (ResV.cell agg30 rfl rfl rfl rfl) (.cons rfl .nil)), rfl, rfl, (by decide), (by first | exact idless_cons ints_id idless_nil | exact idless_cons rfl idless_nil), ?_⟩
  exact ⟨rfl, rfl⟩

set_option maxHeartbeats 4000000 in
theorem wAnd_n00 (sa sb : Bool) (a b : List Int) (v w : Int) (la : a.length < 4294967296) (lb : b.length < 4294967296) (ua : u64s a) (ub : u64s b) (ev : sv sa a = v) (ew : sv sb b = w) (hv : lenV v ≤ 67108860) (hw : lenV w ≤ 67108860) (hs : 0 ≤ v) (ht : 0 ≤ w) : SpecM Tryd.prog 8 [.a [.b sa, .n false .u64 a], .a [.b sb, .n false .u64 b]] [] (fun o G => o = .ret (.t [.a [.b (decide ((andI v w) < 0)), .o 0 0 0 (lm (andI v w)).length], .i .i64 0]) ∧ G = [⟨76, 1, 0, true, ints .u64 (lm (andI v w))⟩]) := by
  refine specS_of [(0, .a [.b sa, .n false .u64 a]), (1, .a [.b sb, .n false .u64 b])] rfl Tryd.func8 rfl (Nat.le_of_ble_eq_true rfl) fun Γ hN hds hL hR => ?_
  have hd : ∀ d, Nat.blt d 53 = true → d < Γ.N := fun d h => by rw [hN]; exact Nat.le_of_ble_eq_true h
  have hlx := Nat.le_trans (tw_len v) hv
  have hly := Nat.le_trans (tw_len w) hw
  have hl := op_len (L := 67108860) (x := (tw v)) (y := (tw w)) (by omega) (by omega)
  have hA := twos_p sa a v la ua ev hv (by omega)
  have hB := twos_p sb b w lb ub ew hw (by omega)
  have hZ := nAnd_v (tw v) (tw w) (by omega) (by omega)
  have hlz := hl.1
  have hBk : SpecM Tryd.prog 37 [.n false .u64 (lm ((((tw v) &&& (tw w)) : Nat) : Int)), .b false] [] (fun o G => o = .ret (.t [.a [.b (decide ((andI v w) < 0)), .o 0 0 0 (lm (andI v w)).length], .i .i64 0]) ∧ G = [⟨76, 1, 0, true, ints .u64 (lm (andI v w))⟩]) := by have h := back_fn ((tw v) &&& (tw w)) (by omega); rw [show (andI v w) = ((((tw v) &&& (tw w)) : Nat) : Int) from by unfold andI; rw [if_neg (by omega), if_neg (by omega)]]; exact h
  refine jc_seq ?_; refine jc_region ?_; refine jo_h (hy_box (id := 0) (n := 2) rfl rfl rfl (by decide) rfl) (hd 2 rfl) ?_; refine jo_h (hy_box (id := 1) (n := 2) rfl rfl rfl (by decide) rfl) (hd 3 rfl) ?_; refine jo_h (hy_alloc (id := 2) zero30 (by decide) rfl (by decide) rfl) (hd 4 rfl) ?_; refine jo_l (ly_as rfl) (hd 5 rfl) ?_; refine jo_nil ?_; refine jc_seq ?_; refine jc_region ?_; refine jo_l (ly_lda agg30 rfl rfl rfl rfl) (hd 11 rfl) ?_
  refine jo_call Tryd.f36 (hA) rfl Tryd.func36 rfl rfl (ovL_cons rfl ovL_nil) (.cons (.a1 .b (.a1 .n .a0)) .nil) (hd 12 rfl) ?_ (fun ch hp => by simp at hp)
  rintro y hy; injection hy with hy; subst hy; refine jo_l (ly_mv rfl) (hd 10 rfl) ?_; refine jo_l (ly_ext rfl rfl) (hd 13 rfl) ?_; refine jo_l (ly_ext rfl rfl) (hd 14 rfl) ?_; refine jo_l (ly_as rfl) (hd 6 rfl) ?_; refine jo_l (ly_as rfl) (hd 7 rfl) ?_; refine jo_nil ?_; refine jc_seq ?_; refine jc_region ?_; refine jo_l (ly_lda agg30 rfl rfl rfl rfl) (hd 16 rfl) ?_
  refine jo_call Tryd.f36 (hB) rfl Tryd.func36 rfl rfl (ovL_cons rfl ovL_nil) (.cons (.a1 .b (.a1 .n .a0)) .nil) (hd 17 rfl) ?_ (fun ch hp => by simp at hp)
  rintro y hy; injection hy with hy; subst hy; refine jo_l (ly_mv rfl) (hd 15 rfl) ?_; refine jo_l (ly_ext rfl rfl) (hd 18 rfl) ?_; refine jo_l (ly_ext rfl rfl) (hd 19 rfl) ?_; refine jo_l (ly_as rfl) (hd 8 rfl) ?_; refine jo_l (ly_as rfl) (hd 9 rfl) ?_; refine jo_nil ?_; refine jc_seq ?_; refine jc_block ?_; refine jc_seq ?_; refine jc_region ?_; refine jo_l (ly_mv rfl) (hd 21 rfl) ?_; refine jo_l (ly_mv rfl) (hd 22 rfl) ?_; refine jo_s 22 rfl rfl rfl (hd 23 rfl) ?_; refine jo_l (ly_pick_f rfl rfl) (hd 24 rfl) ?_; refine jo_l (ly_as rfl) (hd 20 rfl) ?_; refine jo_nil ?_; refine jc_litf rfl ?_; refine jc_seq ?_; refine jc_region ?_; refine jo_l (ly_mv rfl) (hd 32 rfl) ?_; refine jo_l (ly_as rfl) (hd 31 rfl) ?_; refine jo_nil ?_; refine jc_litf rfl ?_; refine jc_seq ?_; refine jc_region ?_; refine jo_l (ly_mv rfl) (hd 40 rfl) ?_; refine jo_l (ly_as rfl) (hd 39 rfl) ?_; refine jo_nil ?_; refine jc_litf rfl ?_; refine jc_skip ?_; refine jc_seq ?_; refine jc_region ?_; refine jo_l (ly_mv rfl) (hd 47 rfl) ?_; refine jo_l (ly_mv rfl) (hd 48 rfl) ?_
  refine jo_call Tryd.f40 (hZ) rfl Tryd.func40 rfl rfl (ovL_cons rfl (ovL_cons rfl ovL_nil)) (.cons .n (.cons .n .nil)) (hd 49 rfl) ?_ (fun ch hp => by simp at hp)
  rintro y hy; injection hy with hy; subst hy
  refine jo_callN Tryd.f37 (hBk) (fun o G ⟨_, h⟩ => h ▸ idless_cons ints_id idless_nil) rfl Tryd.func37 rfl rfl (ovL_cons rfl (ovL_cons rfl ovL_nil)) (.cons .n (.cons .b .nil)) (hd 50 rfl) ?_ (fun ch G hp => by simp at hp)
  rintro y G ⟨hy, rfl⟩; injection hy with hy; subst hy
  show JO _ _ _ _ ((50, .t [.a [.b (decide ((andI v w) < 0)), .o 3 0 0 (lm (andI v w)).length], .i .i64 0]) :: _) _ _
  refine jo_l (ly_ext rfl rfl) (hd 51 rfl) ?_; refine jo_l (ly_ext rfl rfl) (hd 52 rfl) ?_; refine jo_st (sy_store rfl rfl rfl siz30 rfl rfl (Nat.le_of_ble_eq_true rfl)) ?_; refine jo_l (ly_as rfl) (hd 5 rfl) ?_; refine jo_nil ?_; refine jc_ret ?_
  refine ⟨[3], _, (.t [.a [.b (decide ((andI v w) < 0)), .o 0 0 0 (lm (andI v w)).length], .i .i64 0]), (.cons (ResV.cell agg30 rfl rfl rfl rfl) (.cons rfl .nil)), rfl, rfl, (by decide), (by first | exact idless_cons ints_id idless_nil | exact idless_cons rfl idless_nil), ?_⟩
  exact ⟨rfl, rfl⟩

set_option maxHeartbeats 4000000 in
theorem wAnd_n01 (sa sb : Bool) (a b : List Int) (v w : Int) (la : a.length < 4294967296) (lb : b.length < 4294967296) (ua : u64s a) (ub : u64s b) (ev : sv sa a = v) (ew : sv sb b = w) (hv : lenV v ≤ 67108860) (hw : lenV w ≤ 67108860) (hs : 0 ≤ v) (ht : w < 0) : SpecM Tryd.prog 8 [.a [.b sa, .n false .u64 a], .a [.b sb, .n false .u64 b]] [] (fun o G => o = .ret (.t [.a [.b (decide ((andI v w) < 0)), .o 0 0 0 (lm (andI v w)).length], .i .i64 0]) ∧ G = [⟨76, 1, 0, true, ints .u64 (lm (andI v w))⟩]) := by
  refine specS_of [(0, .a [.b sa, .n false .u64 a]), (1, .a [.b sb, .n false .u64 b])] rfl Tryd.func8 rfl (Nat.le_of_ble_eq_true rfl) fun Γ hN hds hL hR => ?_
  have hd : ∀ d, Nat.blt d 53 = true → d < Γ.N := fun d h => by rw [hN]; exact Nat.le_of_ble_eq_true h
  have hlx := Nat.le_trans (tw_len v) hv
  have hly := Nat.le_trans (tw_len w) hw
  have hl := op_len (L := 67108860) (x := (tw v)) (y := (tw w)) (by omega) (by omega)
  have hA := twos_p sa a v la ua ev hv (by omega)
  have hB := twos_n sb b w lb ub ew hw (by omega)
  have hZ := without_v (tw v) (tw w) (by omega) (by omega)
  have hlz := hl.2.2.2
  have hBk : SpecM Tryd.prog 37 [.n false .u64 (lm ((((tw v) ^^^ ((tw v) &&& (tw w))) : Nat) : Int)), .b false] [] (fun o G => o = .ret (.t [.a [.b (decide ((andI v w) < 0)), .o 0 0 0 (lm (andI v w)).length], .i .i64 0]) ∧ G = [⟨76, 1, 0, true, ints .u64 (lm (andI v w))⟩]) := by have h := back_fn ((tw v) ^^^ ((tw v) &&& (tw w))) (by omega); rw [show (andI v w) = ((((tw v) ^^^ ((tw v) &&& (tw w))) : Nat) : Int) from by unfold andI; rw [if_neg (by omega), if_pos (by omega)]]; exact h
  refine jc_seq ?_; refine jc_region ?_; refine jo_h (hy_box (id := 0) (n := 2) rfl rfl rfl (by decide) rfl) (hd 2 rfl) ?_; refine jo_h (hy_box (id := 1) (n := 2) rfl rfl rfl (by decide) rfl) (hd 3 rfl) ?_; refine jo_h (hy_alloc (id := 2) zero30 (by decide) rfl (by decide) rfl) (hd 4 rfl) ?_; refine jo_l (ly_as rfl) (hd 5 rfl) ?_; refine jo_nil ?_; refine jc_seq ?_; refine jc_region ?_; refine jo_l (ly_lda agg30 rfl rfl rfl rfl) (hd 11 rfl) ?_
  refine jo_call Tryd.f36 (hA) rfl Tryd.func36 rfl rfl (ovL_cons rfl ovL_nil) (.cons (.a1 .b (.a1 .n .a0)) .nil) (hd 12 rfl) ?_ (fun ch hp => by simp at hp)
  rintro y hy; injection hy with hy; subst hy; refine jo_l (ly_mv rfl) (hd 10 rfl) ?_; refine jo_l (ly_ext rfl rfl) (hd 13 rfl) ?_; refine jo_l (ly_ext rfl rfl) (hd 14 rfl) ?_; refine jo_l (ly_as rfl) (hd 6 rfl) ?_; refine jo_l (ly_as rfl) (hd 7 rfl) ?_; refine jo_nil ?_; refine jc_seq ?_; refine jc_region ?_; refine jo_l (ly_lda agg30 rfl rfl rfl rfl) (hd 16 rfl) ?_
  refine jo_call Tryd.f36 (hB) rfl Tryd.func36 rfl rfl (ovL_cons rfl ovL_nil) (.cons (.a1 .b (.a1 .n .a0)) .nil) (hd 17 rfl) ?_ (fun ch hp => by simp at hp)
  rintro y hy; injection hy with hy; subst hy; refine jo_l (ly_mv rfl) (hd 15 rfl) ?_; refine jo_l (ly_ext rfl rfl) (hd 18 rfl) ?_; refine jo_l (ly_ext rfl rfl) (hd 19 rfl) ?_; refine jo_l (ly_as rfl) (hd 8 rfl) ?_; refine jo_l (ly_as rfl) (hd 9 rfl) ?_; refine jo_nil ?_; refine jc_seq ?_; refine jc_block ?_; refine jc_seq ?_; refine jc_region ?_; refine jo_l (ly_mv rfl) (hd 21 rfl) ?_; refine jo_l (ly_mv rfl) (hd 22 rfl) ?_; refine jo_s 22 rfl rfl rfl (hd 23 rfl) ?_; refine jo_l (ly_pick_f rfl rfl) (hd 24 rfl) ?_; refine jo_l (ly_as rfl) (hd 20 rfl) ?_; refine jo_nil ?_; refine jc_litf rfl ?_; refine jc_seq ?_; refine jc_region ?_; refine jo_l (ly_mv rfl) (hd 32 rfl) ?_; refine jo_l (ly_as rfl) (hd 31 rfl) ?_; refine jo_nil ?_; refine jc_litf rfl ?_; refine jc_seq ?_; refine jc_region ?_; refine jo_l (ly_mv rfl) (hd 40 rfl) ?_; refine jo_l (ly_as rfl) (hd 39 rfl) ?_; refine jo_nil ?_; refine jc_litt rfl ?_; refine jc_seq ?_; refine jc_region ?_; refine jo_l (ly_mv rfl) (hd 41 rfl) ?_; refine jo_l (ly_mv rfl) (hd 42 rfl) ?_
  refine jo_call Tryd.f39 (hZ) rfl Tryd.func39 rfl rfl (ovL_cons rfl (ovL_cons rfl ovL_nil)) (.cons .n (.cons .n .nil)) (hd 43 rfl) ?_ (fun ch hp => by simp at hp)
  rintro y hy; injection hy with hy; subst hy
  refine jo_callN Tryd.f37 (hBk) (fun o G ⟨_, h⟩ => h ▸ idless_cons ints_id idless_nil) rfl Tryd.func37 rfl rfl (ovL_cons rfl (ovL_cons rfl ovL_nil)) (.cons .n (.cons .b .nil)) (hd 44 rfl) ?_ (fun ch G hp => by simp at hp)
  rintro y G ⟨hy, rfl⟩; injection hy with hy; subst hy
  show JO _ _ _ _ ((44, .t [.a [.b (decide ((andI v w) < 0)), .o 3 0 0 (lm (andI v w)).length], .i .i64 0]) :: _) _ _
  refine jo_l (ly_ext rfl rfl) (hd 45 rfl) ?_; refine jo_l (ly_ext rfl rfl) (hd 46 rfl) ?_; refine jo_st (sy_store rfl rfl rfl siz30 rfl rfl (Nat.le_of_ble_eq_true rfl)) ?_; refine jo_l (ly_as rfl) (hd 5 rfl) ?_; refine jo_nil ?_; refine jc_ret ?_
  refine ⟨[3], _, (.t [.a [.b (decide ((andI v w) < 0)), .o 0 0 0 (lm (andI v w)).length], .i .i64 0]), (.cons (ResV.cell agg30 rfl rfl rfl rfl) (.cons rfl .nil)), rfl, rfl, (by decide), (by first | exact idless_cons ints_id idless_nil | exact idless_cons rfl idless_nil), ?_⟩
  exact ⟨rfl, rfl⟩

set_option maxHeartbeats 4000000 in
theorem wAnd_n10 (sa sb : Bool) (a b : List Int) (v w : Int) (la : a.length < 4294967296) (lb : b.length < 4294967296) (ua : u64s a) (ub : u64s b) (ev : sv sa a = v) (ew : sv sb b = w) (hv : lenV v ≤ 67108860) (hw : lenV w ≤ 67108860) (hs : v < 0) (ht : 0 ≤ w) : SpecM Tryd.prog 8 [.a [.b sa, .n false .u64 a], .a [.b sb, .n false .u64 b]] [] (fun o G => o = .ret (.t [.a [.b (decide ((andI v w) < 0)), .o 0 0 0 (lm (andI v w)).length], .i .i64 0]) ∧ G = [⟨76, 1, 0, true, ints .u64 (lm (andI v w))⟩]) := by
  refine specS_of [(0, .a [.b sa, .n false .u64 a]), (1, .a [.b sb, .n false .u64 b])] rfl Tryd.func8 rfl (Nat.le_of_ble_eq_true rfl) fun Γ hN hds hL hR => ?_
  have hd : ∀ d, Nat.blt d 53 = true → d < Γ.N := fun d h => by rw [hN]; exact Nat.le_of_ble_eq_true h
  have hlx := Nat.le_trans (tw_len v) hv
  have hly := Nat.le_trans (tw_len w) hw
  have hl := op_len (L := 67108860) (x := (tw w)) (y := (tw v)) (by omega) (by omega)
  have hA := twos_n sa a v la ua ev hv (by omega)
  have hB := twos_p sb b w lb ub ew hw (by omega)
  have hZ := without_v (tw w) (tw v) (by omega) (by omega)
  have hlz := hl.2.2.2
  have hBk : SpecM Tryd.prog 37 [.n false .u64 (lm ((((tw w) ^^^ ((tw w) &&& (tw v))) : Nat) : Int)), .b false] [] (fun o G => o = .ret (.t [.a [.b (decide ((andI v w) < 0)), .o 0 0 0 (lm (andI v w)).length], .i .i64 0]) ∧ G = [⟨76, 1, 0, true, ints .u64 (lm (andI v w))⟩]) := by have h := back_fn ((tw w) ^^^ ((tw w) &&& (tw v))) (by omega); rw [show (andI v w) = ((((tw w) ^^^ ((tw w) &&& (tw v))) : Nat) : Int) from by unfold andI; rw [if_pos (by omega), if_neg (by omega)]]; exact h
  refine jc_seq ?_; refine jc_region ?_; refine jo_h (hy_box (id := 0) (n := 2) rfl rfl rfl (by decide) rfl) (hd 2 rfl) ?_; refine jo_h (hy_box (id := 1) (n := 2) rfl rfl rfl (by decide) rfl) (hd 3 rfl) ?_; refine jo_h (hy_alloc (id := 2) zero30 (by decide) rfl (by decide) rfl) (hd 4 rfl) ?_; refine jo_l (ly_as rfl) (hd 5 rfl) ?_; refine jo_nil ?_; refine jc_seq ?_; refine jc_region ?_; refine jo_l (ly_lda agg30 rfl rfl rfl rfl) (hd 11 rfl) ?_
  refine jo_call Tryd.f36 (hA) rfl Tryd.func36 rfl rfl (ovL_cons rfl ovL_nil) (.cons (.a1 .b (.a1 .n .a0)) .nil) (hd 12 rfl) ?_ (fun ch hp => by simp at hp)
  rintro y hy; injection hy with hy; subst hy; refine jo_l (ly_mv rfl) (hd 10 rfl) ?_; refine jo_l (ly_ext rfl rfl) (hd 13 rfl) ?_; refine jo_l (ly_ext rfl rfl) (hd 14 rfl) ?_; refine jo_l (ly_as rfl) (hd 6 rfl) ?_; refine jo_l (ly_as rfl) (hd 7 rfl) ?_; refine jo_nil ?_; refine jc_seq ?_; refine jc_region ?_; refine jo_l (ly_lda agg30 rfl rfl rfl rfl) (hd 16 rfl) ?_
  refine jo_call Tryd.f36 (hB) rfl Tryd.func36 rfl rfl (ovL_cons rfl ovL_nil) (.cons (.a1 .b (.a1 .n .a0)) .nil) (hd 17 rfl) ?_ (fun ch hp => by simp at hp)
  rintro y hy; injection hy with hy; subst hy; refine jo_l (ly_mv rfl) (hd 15 rfl) ?_; refine jo_l (ly_ext rfl rfl) (hd 18 rfl) ?_; refine jo_l (ly_ext rfl rfl) (hd 19 rfl) ?_; refine jo_l (ly_as rfl) (hd 8 rfl) ?_; refine jo_l (ly_as rfl) (hd 9 rfl) ?_; refine jo_nil ?_; refine jc_seq ?_; refine jc_block ?_; refine jc_seq ?_; refine jc_region ?_; refine jo_l (ly_mv rfl) (hd 21 rfl) ?_; refine jo_l (ly_mv rfl) (hd 22 rfl) ?_; refine jo_g 22 rfl rfl (ly_mv rfl) (hd 23 rfl) ?_; refine jo_l (ly_pick_t rfl rfl) (hd 24 rfl) ?_; refine jo_l (ly_as rfl) (hd 20 rfl) ?_; refine jo_nil ?_; refine jc_litf rfl ?_; refine jc_seq ?_; refine jc_region ?_; refine jo_l (ly_mv rfl) (hd 32 rfl) ?_; refine jo_l (ly_as rfl) (hd 31 rfl) ?_; refine jo_nil ?_; refine jc_litt rfl ?_; refine jc_seq ?_; refine jc_region ?_; refine jo_l (ly_mv rfl) (hd 33 rfl) ?_; refine jo_l (ly_mv rfl) (hd 34 rfl) ?_
  refine jo_call Tryd.f39 (hZ) rfl Tryd.func39 rfl rfl (ovL_cons rfl (ovL_cons rfl ovL_nil)) (.cons .n (.cons .n .nil)) (hd 35 rfl) ?_ (fun ch hp => by simp at hp)
  rintro y hy; injection hy with hy; subst hy
  refine jo_callN Tryd.f37 (hBk) (fun o G ⟨_, h⟩ => h ▸ idless_cons ints_id idless_nil) rfl Tryd.func37 rfl rfl (ovL_cons rfl (ovL_cons rfl ovL_nil)) (.cons .n (.cons .b .nil)) (hd 36 rfl) ?_ (fun ch G hp => by simp at hp)
  rintro y G ⟨hy, rfl⟩; injection hy with hy; subst hy
  show JO _ _ _ _ ((36, .t [.a [.b (decide ((andI v w) < 0)), .o 3 0 0 (lm (andI v w)).length], .i .i64 0]) :: _) _ _
  refine jo_l (ly_ext rfl rfl) (hd 37 rfl) ?_; refine jo_l (ly_ext rfl rfl) (hd 38 rfl) ?_; refine jo_st (sy_store rfl rfl rfl siz30 rfl rfl (Nat.le_of_ble_eq_true rfl)) ?_; refine jo_l (ly_as rfl) (hd 5 rfl) ?_; refine jo_nil ?_; refine jc_ret ?_
  refine ⟨[3], _, (.t [.a [.b (decide ((andI v w) < 0)), .o 0 0 0 (lm (andI v w)).length], .i .i64 0]), (.cons (ResV.cell agg30 rfl rfl rfl rfl) (.cons rfl .nil)), rfl, rfl, (by decide), (by first | exact idless_cons ints_id idless_nil | exact idless_cons rfl idless_nil), ?_⟩
  exact ⟨rfl, rfl⟩

set_option maxHeartbeats 4000000 in
theorem wAnd_n11 (sa sb : Bool) (a b : List Int) (v w : Int) (la : a.length < 4294967296) (lb : b.length < 4294967296) (ua : u64s a) (ub : u64s b) (ev : sv sa a = v) (ew : sv sb b = w) (hv : lenV v ≤ 67108860) (hw : lenV w ≤ 67108860) (hs : v < 0) (ht : w < 0) : SpecM Tryd.prog 8 [.a [.b sa, .n false .u64 a], .a [.b sb, .n false .u64 b]] [] (fun o G => o = .ret (.t [.a [.b (decide ((andI v w) < 0)), .o 0 0 0 (lm (andI v w)).length], .i .i64 0]) ∧ G = [⟨76, 1, 0, true, ints .u64 (lm (andI v w))⟩]) := by
  refine specS_of [(0, .a [.b sa, .n false .u64 a]), (1, .a [.b sb, .n false .u64 b])] rfl Tryd.func8 rfl (Nat.le_of_ble_eq_true rfl) fun Γ hN hds hL hR => ?_
  have hd : ∀ d, Nat.blt d 53 = true → d < Γ.N := fun d h => by rw [hN]; exact Nat.le_of_ble_eq_true h
  have hlx := Nat.le_trans (tw_len v) hv
  have hly := Nat.le_trans (tw_len w) hw
  have hl := op_len (L := 67108860) (x := (tw v)) (y := (tw w)) (by omega) (by omega)
  have hA := twos_n sa a v la ua ev hv (by omega)
  have hB := twos_n sb b w lb ub ew hw (by omega)
  have hZ := nOr_v (tw v) (tw w) (by omega) (by omega)
  have hlz := hl.2.1
  have hBk : SpecM Tryd.prog 37 [.n false .u64 (lm ((((tw v) ||| (tw w)) : Nat) : Int)), .b true] [] (fun o G => o = .ret (.t [.a [.b (decide ((andI v w) < 0)), .o 0 0 0 (lm (andI v w)).length], .i .i64 0]) ∧ G = [⟨76, 1, 0, true, ints .u64 (lm (andI v w))⟩]) := by have h := back_tn ((tw v) ||| (tw w)) (by omega); rw [show (andI v w) = (-((((tw v) ||| (tw w)) : Nat) : Int) - 1) from by unfold andI; rw [if_pos (by omega), if_pos (by omega)]]; exact h
  refine jc_seq ?_; refine jc_region ?_; refine jo_h (hy_box (id := 0) (n := 2) rfl rfl rfl (by decide) rfl) (hd 2 rfl) ?_; refine jo_h (hy_box (id := 1) (n := 2) rfl rfl rfl (by decide) rfl) (hd 3 rfl) ?_; refine jo_h (hy_alloc (id := 2) zero30 (by decide) rfl (by decide) rfl) (hd 4 rfl) ?_; refine jo_l (ly_as rfl) (hd 5 rfl) ?_; refine jo_nil ?_; refine jc_seq ?_; refine jc_region ?_; refine jo_l (ly_lda agg30 rfl rfl rfl rfl) (hd 11 rfl) ?_
  refine jo_call Tryd.f36 (hA) rfl Tryd.func36 rfl rfl (ovL_cons rfl ovL_nil) (.cons (.a1 .b (.a1 .n .a0)) .nil) (hd 12 rfl) ?_ (fun ch hp => by simp at hp)
  rintro y hy; injection hy with hy; subst hy; refine jo_l (ly_mv rfl) (hd 10 rfl) ?_; refine jo_l (ly_ext rfl rfl) (hd 13 rfl) ?_; refine jo_l (ly_ext rfl rfl) (hd 14 rfl) ?_; refine jo_l (ly_as rfl) (hd 6 rfl) ?_; refine jo_l (ly_as rfl) (hd 7 rfl) ?_; refine jo_nil ?_; refine jc_seq ?_; refine jc_region ?_; refine jo_l (ly_lda agg30 rfl rfl rfl rfl) (hd 16 rfl) ?_
  refine jo_call Tryd.f36 (hB) rfl Tryd.func36 rfl rfl (ovL_cons rfl ovL_nil) (.cons (.a1 .b (.a1 .n .a0)) .nil) (hd 17 rfl) ?_ (fun ch hp => by simp at hp)
  rintro y hy; injection hy with hy; subst hy; refine jo_l (ly_mv rfl) (hd 15 rfl) ?_; refine jo_l (ly_ext rfl rfl) (hd 18 rfl) ?_; refine jo_l (ly_ext rfl rfl) (hd 19 rfl) ?_; refine jo_l (ly_as rfl) (hd 8 rfl) ?_; refine jo_l (ly_as rfl) (hd 9 rfl) ?_; refine jo_nil ?_; refine jc_seq ?_; refine jc_block ?_; refine jc_seq ?_; refine jc_region ?_; refine jo_l (ly_mv rfl) (hd 21 rfl) ?_; refine jo_l (ly_mv rfl) (hd 22 rfl) ?_; refine jo_g 22 rfl rfl (ly_mv rfl) (hd 23 rfl) ?_; refine jo_l (ly_pick_t rfl rfl) (hd 24 rfl) ?_; refine jo_l (ly_as rfl) (hd 20 rfl) ?_; refine jo_nil ?_; refine jc_litt rfl ?_; refine jc_seq ?_; refine jc_region ?_; refine jo_l (ly_mv rfl) (hd 25 rfl) ?_; refine jo_l (ly_mv rfl) (hd 26 rfl) ?_
  refine jo_call Tryd.f38 (hZ) rfl Tryd.func38 rfl rfl (ovL_cons rfl (ovL_cons rfl ovL_nil)) (.cons .n (.cons .n .nil)) (hd 27 rfl) ?_ (fun ch hp => by simp at hp)
  rintro y hy; injection hy with hy; subst hy
  refine jo_callN Tryd.f37 (hBk) (fun o G ⟨_, h⟩ => h ▸ idless_cons ints_id idless_nil) rfl Tryd.func37 rfl rfl (ovL_cons rfl (ovL_cons rfl ovL_nil)) (.cons .n (.cons .b .nil)) (hd 28 rfl) ?_ (fun ch G hp => by simp at hp)
  rintro y G ⟨hy, rfl⟩; injection hy with hy; subst hy
  show JO _ _ _ _ ((28, .t [.a [.b (decide ((andI v w) < 0)), .o 3 0 0 (lm (andI v w)).length], .i .i64 0]) :: _) _ _
  refine jo_l (ly_ext rfl rfl) (hd 29 rfl) ?_; refine jo_l (ly_ext rfl rfl) (hd 30 rfl) ?_; refine jo_st (sy_store rfl rfl rfl siz30 rfl rfl (Nat.le_of_ble_eq_true rfl)) ?_; refine jo_l (ly_as rfl) (hd 5 rfl) ?_; refine jo_nil ?_; refine jc_ret ?_
  refine ⟨[3], _, (.t [.a [.b (decide ((andI v w) < 0)), .o 0 0 0 (lm (andI v w)).length], .i .i64 0]), (.cons (ResV.cell agg30 rfl rfl rfl rfl) (.cons rfl .nil)), rfl, rfl, (by decide), (by first | exact idless_cons ints_id idless_nil | exact idless_cons rfl idless_nil), ?_⟩
  exact ⟨rfl, rfl⟩

theorem wAnd_nv (sa sb : Bool) (a b : List Int) (v w : Int) (la : a.length < 4294967296) (lb : b.length < 4294967296) (ua : u64s a) (ub : u64s b) (ev : sv sa a = v) (ew : sv sb b = w) (hv : lenV v ≤ 67108860) (hw : lenV w ≤ 67108860) : SpecM Tryd.prog 8 [.a [.b sa, .n false .u64 a], .a [.b sb, .n false .u64 b]] [] (fun o G => o = .ret (.t [.a [.b (decide ((andI v w) < 0)), .o 0 0 0 (lm (andI v w)).length], .i .i64 0]) ∧ G = [⟨76, 1, 0, true, ints .u64 (lm (andI v w))⟩]) := by
  by_cases hs : v < 0 <;> by_cases ht : w < 0
  · exact wAnd_n11 sa sb a b v w la lb ua ub ev ew hv hw hs ht
  · exact wAnd_n10 sa sb a b v w la lb ua ub ev ew hv hw hs (by omega)
  · exact wAnd_n01 sa sb a b v w la lb ua ub ev ew hv hw (by omega) ht
  · exact wAnd_n00 sa sb a b v w la lb ua ub ev ew hv hw (by omega) (by omega)

set_option maxHeartbeats 4000000 in
theorem wOr_n00 (sa sb : Bool) (a b : List Int) (v w : Int) (la : a.length < 4294967296) (lb : b.length < 4294967296) (ua : u64s a) (ub : u64s b) (ev : sv sa a = v) (ew : sv sb b = w) (hv : lenV v ≤ 67108860) (hw : lenV w ≤ 67108860) (hs : 0 ≤ v) (ht : 0 ≤ w) : SpecM Tryd.prog 9 [.a [.b sa, .n false .u64 a], .a [.b sb, .n false .u64 b]] [] (fun o G => o = .ret (.t [.a [.b (decide ((orI v w) < 0)), .o 0 0 0 (lm (orI v w)).length], .i .i64 0]) ∧ G = [⟨76, 1, 0, true, ints .u64 (lm (orI v w))⟩]) := by
  refine specS_of [(0, .a [.b sa, .n false .u64 a]), (1, .a [.b sb, .n false .u64 b])] rfl Tryd.func9 rfl (Nat.le_of_ble_eq_true rfl) fun Γ hN hds hL hR => ?_
  have hd : ∀ d, Nat.blt d 53 = true → d < Γ.N := fun d h => by rw [hN]; exact Nat.le_of_ble_eq_true h
  have hlx := Nat.le_trans (tw_len v) hv
  have hly := Nat.le_trans (tw_len w) hw
  have hl := op_len (L := 67108860) (x := (tw v)) (y := (tw w)) (by omega) (by omega)
  have hA := twos_p sa a v la ua ev hv (by omega)
  have hB := twos_p sb b w lb ub ew hw (by omega)
  have hZ := nOr_v (tw v) (tw w) (by omega) (by omega)
  have hlz := hl.2.1
  have hBk : SpecM Tryd.prog 37 [.n false .u64 (lm ((((tw v) ||| (tw w)) : Nat) : Int)), .b false] [] (fun o G => o = .ret (.t [.a [.b (decide ((orI v w) < 0)), .o 0 0 0 (lm (orI v w)).length], .i .i64 0]) ∧ G = [⟨76, 1, 0, true, ints .u64 (lm (orI v w))⟩]) := by have h := back_fn ((tw v) ||| (tw w)) (by omega); rw [show (orI v w) = ((((tw v) ||| (tw w)) : Nat) : Int) from by unfold orI; rw [if_neg (by omega), if_neg (by omega)]]; exact h
  refine jc_seq ?_; refine jc_region ?_; refine jo_h (hy_box (id := 0) (n := 2) rfl rfl rfl (by decide) rfl) (hd 2 rfl) ?_; refine jo_h (hy_box (id := 1) (n := 2) rfl rfl rfl (by decide) rfl) (hd 3 rfl) ?_; refine jo_h (hy_alloc (id := 2) zero30 (by decide) rfl (by decide) rfl) (hd 4 rfl) ?_; refine jo_l (ly_as rfl) (hd 5 rfl) ?_; refine jo_nil ?_; refine jc_seq ?_; refine jc_region ?_; refine jo_l (ly_lda agg30 rfl rfl rfl rfl) (hd 11 rfl) ?_
  refine jo_call Tryd.f36 (hA) rfl Tryd.func36 rfl rfl (ovL_cons rfl ovL_nil) (.cons (.a1 .b (.a1 .n .a0)) .nil) (hd 12 rfl) ?_ (fun ch hp => by simp at hp)
  rintro y hy; injection hy with hy; subst hy; refine jo_l (ly_mv rfl) (hd 10 rfl) ?_; refine jo_l (ly_ext rfl rfl) (hd 13 rfl) ?_; refine jo_l (ly_ext rfl rfl) (hd 14 rfl) ?_; refine jo_l (ly_as rfl) (hd 6 rfl) ?_; refine jo_l (ly_as rfl) (hd 7 rfl) ?_; refine jo_nil ?_; refine jc_seq ?_; refine jc_region ?_; refine jo_l (ly_lda agg30 rfl rfl rfl rfl) (hd 16 rfl) ?_
  refine jo_call Tryd.f36 (hB) rfl Tryd.func36 rfl rfl (ovL_cons rfl ovL_nil) (.cons (.a1 .b (.a1 .n .a0)) .nil) (hd 17 rfl) ?_ (fun ch hp => by simp at hp)
  rintro y hy; injection hy with hy; subst hy; refine jo_l (ly_mv rfl) (hd 15 rfl) ?_; refine jo_l (ly_ext rfl rfl) (hd 18 rfl) ?_; refine jo_l (ly_ext rfl rfl) (hd 19 rfl) ?_; refine jo_l (ly_as rfl) (hd 8 rfl) ?_; refine jo_l (ly_as rfl) (hd 9 rfl) ?_; refine jo_nil ?_; refine jc_seq ?_; refine jc_block ?_; refine jc_seq ?_; refine jc_region ?_; refine jo_l (ly_mv rfl) (hd 21 rfl) ?_; refine jo_l (ly_mv rfl) (hd 22 rfl) ?_; refine jo_s 22 rfl rfl rfl (hd 23 rfl) ?_; refine jo_l (ly_pick_f rfl rfl) (hd 24 rfl) ?_; refine jo_l (ly_as rfl) (hd 20 rfl) ?_; refine jo_nil ?_; refine jc_litf rfl ?_; refine jc_seq ?_; refine jc_region ?_; refine jo_l (ly_mv rfl) (hd 32 rfl) ?_; refine jo_l (ly_as rfl) (hd 31 rfl) ?_; refine jo_nil ?_; refine jc_litf rfl ?_; refine jc_seq ?_; refine jc_region ?_; refine jo_l (ly_mv rfl) (hd 40 rfl) ?_; refine jo_l (ly_as rfl) (hd 39 rfl) ?_; refine jo_nil ?_; refine jc_litf rfl ?_; refine jc_skip ?_; refine jc_seq ?_; refine jc_region ?_; refine jo_l (ly_mv rfl) (hd 47 rfl) ?_; refine jo_l (ly_mv rfl) (hd 48 rfl) ?_
  refine jo_call Tryd.f38 (hZ) rfl Tryd.func38 rfl rfl (ovL_cons rfl (ovL_cons rfl ovL_nil)) (.cons .n (.cons .n .nil)) (hd 49 rfl) ?_ (fun ch hp => by simp at hp)
  rintro y hy; injection hy with hy; subst hy
  refine jo_callN Tryd.f37 (hBk) (fun o G ⟨_, h⟩ => h ▸ idless_cons ints_id idless_nil) rfl Tryd.func37 rfl rfl (ovL_cons rfl (ovL_cons rfl ovL_nil)) (.cons .n (.cons .b .nil)) (hd 50 rfl) ?_ (fun ch G hp => by simp at hp)
  rintro y G ⟨hy, rfl⟩; injection hy with hy; subst hy
  show JO _ _ _ _ ((50, .t [.a [.b (decide ((orI v w) < 0)), .o 3 0 0 (lm (orI v w)).length], .i .i64 0]) :: _) _ _
  refine jo_l (ly_ext rfl rfl) (hd 51 rfl) ?_; refine jo_l (ly_ext rfl rfl) (hd 52 rfl) ?_; refine jo_st (sy_store rfl rfl rfl siz30 rfl rfl (Nat.le_of_ble_eq_true rfl)) ?_; refine jo_l (ly_as rfl) (hd 5 rfl) ?_; refine jo_nil ?_; refine jc_ret ?_
  refine ⟨[3], _, (.t [.a [.b (decide ((orI v w) < 0)), .o 0 0 0 (lm (orI v w)).length], .i .i64 0]), (.cons (ResV.cell agg30 rfl rfl rfl rfl) (.cons rfl .nil)), rfl, rfl, (by decide), (by first | exact idless_cons ints_id idless_nil | exact idless_cons rfl idless_nil), ?_⟩
  exact ⟨rfl, rfl⟩

set_option maxHeartbeats 4000000 in
theorem wOr_n01 (sa sb : Bool) (a b : List Int) (v w : Int) (la : a.length < 4294967296) (lb : b.length < 4294967296) (ua : u64s a) (ub : u64s b) (ev : sv sa a = v) (ew : sv sb b = w) (hv : lenV v ≤ 67108860) (hw : lenV w ≤ 67108860) (hs : 0 ≤ v) (ht : w < 0) : SpecM Tryd.prog 9 [.a [.b sa, .n false .u64 a], .a [.b sb, .n false .u64 b]] [] (fun o G => o = .ret (.t [.a [.b (decide ((orI v w) < 0)), .o 0 0 0 (lm (orI v w)).length], .i .i64 0]) ∧ G = [⟨76, 1, 0, true, ints .u64 (lm (orI v w))⟩]) := by
  refine specS_of [(0, .a [.b sa, .n false .u64 a]), (1, .a [.b sb, .n false .u64 b])] rfl Tryd.func9 rfl (Nat.le_of_ble_eq_true rfl) fun Γ hN hds hL hR => ?_
  have hd : ∀ d, Nat.blt d 53 = true → d < Γ.N := fun d h => by rw [hN]; exact Nat.le_of_ble_eq_true h
  have hlx := Nat.le_trans (tw_len v) hv
  have hly := Nat.le_trans (tw_len w) hw
  have hl := op_len (L := 67108860) (x := (tw w)) (y := (tw v)) (by omega) (by omega)
  have hA := twos_p sa a v la ua ev hv (by omega)
  have hB := twos_n sb b w lb ub ew hw (by omega)
  have hZ := without_v (tw w) (tw v) (by omega) (by omega)
  have hlz := hl.2.2.2
  have hBk : SpecM Tryd.prog 37 [.n false .u64 (lm ((((tw w) ^^^ ((tw w) &&& (tw v))) : Nat) : Int)), .b true] [] (fun o G => o = .ret (.t [.a [.b (decide ((orI v w) < 0)), .o 0 0 0 (lm (orI v w)).length], .i .i64 0]) ∧ G = [⟨76, 1, 0, true, ints .u64 (lm (orI v w))⟩]) := by have h := back_tn ((tw w) ^^^ ((tw w) &&& (tw v))) (by omega); rw [show (orI v w) = (-((((tw w) ^^^ ((tw w) &&& (tw v))) : Nat) : Int) - 1) from by unfold orI; rw [if_neg (by omega), if_pos (by omega)]]; exact h
  refine jc_seq ?_; refine jc_region ?_; refine jo_h (hy_box (id := 0) (n := 2) rfl rfl rfl (by decide) rfl) (hd 2 rfl) ?_; refine jo_h (hy_box (id := 1) (n := 2) rfl rfl rfl (by decide) rfl) (hd 3 rfl) ?_; refine jo_h (hy_alloc (id := 2) zero30 (by decide) rfl (by decide) rfl) (hd 4 rfl) ?_; refine jo_l (ly_as rfl) (hd 5 rfl) ?_; refine jo_nil ?_; refine jc_seq ?_; refine jc_region ?_; refine jo_l (ly_lda agg30 rfl rfl rfl rfl) (hd 11 rfl) ?_
  refine jo_call Tryd.f36 (hA) rfl Tryd.func36 rfl rfl (ovL_cons rfl ovL_nil) (.cons (.a1 .b (.a1 .n .a0)) .nil) (hd 12 rfl) ?_ (fun ch hp => by simp at hp)
  rintro y hy; injection hy with hy; subst hy; refine jo_l (ly_mv rfl) (hd 10 rfl) ?_; refine jo_l (ly_ext rfl rfl) (hd 13 rfl) ?_; refine jo_l (ly_ext rfl rfl) (hd 14 rfl) ?_; refine jo_l (ly_as rfl) (hd 6 rfl) ?_; refine jo_l (ly_as rfl) (hd 7 rfl) ?_; refine jo_nil ?_; refine jc_seq ?_; refine jc_region ?_; refine jo_l (ly_lda agg30 rfl rfl rfl rfl) (hd 16 rfl) ?_
  refine jo_call Tryd.f36 (hB) rfl Tryd.func36 rfl rfl (ovL_cons rfl ovL_nil) (.cons (.a1 .b (.a1 .n .a0)) .nil) (hd 17 rfl) ?_ (fun ch hp => by simp at hp)
  rintro y hy; injection hy with hy; subst hy; refine jo_l (ly_mv rfl) (hd 15 rfl) ?_; refine jo_l (ly_ext rfl rfl) (hd 18 rfl) ?_; refine jo_l (ly_ext rfl rfl) (hd 19 rfl) ?_; refine jo_l (ly_as rfl) (hd 8 rfl) ?_; refine jo_l (ly_as rfl) (hd 9 rfl) ?_; refine jo_nil ?_; refine jc_seq ?_; refine jc_block ?_; refine jc_seq ?_; refine jc_region ?_; refine jo_l (ly_mv rfl) (hd 21 rfl) ?_; refine jo_l (ly_mv rfl) (hd 22 rfl) ?_; refine jo_s 22 rfl rfl rfl (hd 23 rfl) ?_; refine jo_l (ly_pick_f rfl rfl) (hd 24 rfl) ?_; refine jo_l (ly_as rfl) (hd 20 rfl) ?_; refine jo_nil ?_; refine jc_litf rfl ?_; refine jc_seq ?_; refine jc_region ?_; refine jo_l (ly_mv rfl) (hd 32 rfl) ?_; refine jo_l (ly_as rfl) (hd 31 rfl) ?_; refine jo_nil ?_; refine jc_litf rfl ?_; refine jc_seq ?_; refine jc_region ?_; refine jo_l (ly_mv rfl) (hd 40 rfl) ?_; refine jo_l (ly_as rfl) (hd 39 rfl) ?_; refine jo_nil ?_; refine jc_litt rfl ?_; refine jc_seq ?_; refine jc_region ?_; refine jo_l (ly_mv rfl) (hd 41 rfl) ?_; refine jo_l (ly_mv rfl) (hd 42 rfl) ?_
  refine jo_call Tryd.f39 (hZ) rfl Tryd.func39 rfl rfl (ovL_cons rfl (ovL_cons rfl ovL_nil)) (.cons .n (.cons .n .nil)) (hd 43 rfl) ?_ (fun ch hp => by simp at hp)
  rintro y hy; injection hy with hy; subst hy
  refine jo_callN Tryd.f37 (hBk) (fun o G ⟨_, h⟩ => h ▸ idless_cons ints_id idless_nil) rfl Tryd.func37 rfl rfl (ovL_cons rfl (ovL_cons rfl ovL_nil)) (.cons .n (.cons .b .nil)) (hd 44 rfl) ?_ (fun ch G hp => by simp at hp)
  rintro y G ⟨hy, rfl⟩; injection hy with hy; subst hy
  show JO _ _ _ _ ((44, .t [.a [.b (decide ((orI v w) < 0)), .o 3 0 0 (lm (orI v w)).length], .i .i64 0]) :: _) _ _
  refine jo_l (ly_ext rfl rfl) (hd 45 rfl) ?_; refine jo_l (ly_ext rfl rfl) (hd 46 rfl) ?_; refine jo_st (sy_store rfl rfl rfl siz30 rfl rfl (Nat.le_of_ble_eq_true rfl)) ?_; refine jo_l (ly_as rfl) (hd 5 rfl) ?_; refine jo_nil ?_; refine jc_ret ?_
  refine ⟨[3], _, (.t [.a [.b (decide ((orI v w) < 0)), .o 0 0 0 (lm (orI v w)).length], .i .i64 0]), (.cons (ResV.cell agg30 rfl rfl rfl rfl) (.cons rfl .nil)), rfl, rfl, (by decide), (by first | exact idless_cons ints_id idless_nil | exact idless_cons rfl idless_nil), ?_⟩
  exact ⟨rfl, rfl⟩

set_option maxHeartbeats 4000000 in
theorem wOr_n10 (sa sb : Bool) (a b : List Int) (v w : Int) (la : a.length < 4294967296) (lb : b.length < 4294967296) (ua : u64s a) (ub : u64s b) (ev : sv sa a = v) (ew : sv sb b = w) (hv : lenV v ≤ 67108860) (hw : lenV w ≤ 67108860) (hs : v < 0) (ht : 0 ≤ w) : SpecM Tryd.prog 9 [.a [.b sa, .n false .u64 a], .a [.b sb, .n false .u64 b]] [] (fun o G => o = .ret (.t [.a [.b (decide ((orI v w) < 0)), .o 0 0 0 (lm (orI v w)).length], .i .i64 0]) ∧ G = [⟨76, 1, 0, true, ints .u64 (lm (orI v w))⟩]) := by
  refine specS_of [(0, .a [.b sa, .n false .u64 a]), (1, .a [.b sb, .n false .u64 b])] rfl Tryd.func9 rfl (Nat.le_of_ble_eq_true rfl) fun Γ hN hds hL hR => ?_
  have hd : ∀ d, Nat.blt d 53 = true → d < Γ.N := fun d h => by rw [hN]; exact Nat.le_of_ble_eq_true h
  have hlx := Nat.le_trans (tw_len v) hv
  have hly := Nat.le_trans (tw_len w) hw
  have hl := op_len (L := 67108860) (x := (tw v)) (y := (tw w)) (by omega) (by omega)
  have hA := twos_n sa a v la ua ev hv (by omega)
  have hB := twos_p sb b w lb ub ew hw (by omega)
  have hZ := without_v (tw v) (tw w) (by omega) (by omega)
  have hlz := hl.2.2.2
  have hBk : SpecM Tryd.prog 37 [.n false .u64 (lm ((((tw v) ^^^ ((tw v) &&& (tw w))) : Nat) : Int)), .b true] [] (fun o G => o = .ret (.t [.a [.b (decide ((orI v w) < 0)), .o 0 0 0 (lm (orI v w)).length], .i .i64 0]) ∧ G = [⟨76, 1, 0, true, ints .u64 (lm (orI v w))⟩]) := by have h := back_tn ((tw v) ^^^ ((tw v) &&& (tw w))) (by omega); rw [show (orI v w) = (-((((tw v) ^^^ ((tw v) &&& (tw w))) : Nat) : Int) - 1) from by unfold orI; rw [if_pos (by omega), if_neg (by omega)]]; exact h
  refine jc_seq ?_; refine jc_region ?_; refine jo_h (hy_box (id := 0) (n := 2) rfl rfl rfl (by decide) rfl) (hd 2 rfl) ?_; refine jo_h (hy_box (id := 1) (n := 2) rfl rfl rfl (by decide) rfl) (hd 3 rfl) ?_; refine jo_h (hy_alloc (id := 2) zero30 (by decide) rfl (by decide) rfl) (hd 4 rfl) ?_; refine jo_l (ly_as rfl) (hd 5 rfl) ?_; refine jo_nil ?_; refine jc_seq ?_; refine jc_region ?_; refine jo_l (ly_lda agg30 rfl rfl rfl rfl) (hd 11 rfl) ?_
  refine jo_call Tryd.f36 (hA) rfl Tryd.func36 rfl rfl (ovL_cons rfl ovL_nil) (.cons (.a1 .b (.a1 .n .a0)) .nil) (hd 12 rfl) ?_ (fun ch hp => by simp at hp)
  rintro y hy; injection hy with hy; subst hy; refine jo_l (ly_mv rfl) (hd 10 rfl) ?_; refine jo_l (ly_ext rfl rfl) (hd 13 rfl) ?_; refine jo_l (ly_ext rfl rfl) (hd 14 rfl) ?_; refine jo_l (ly_as rfl) (hd 6 rfl) ?_; refine jo_l (ly_as rfl) (hd 7 rfl) ?_; refine jo_nil ?_; refine jc_seq ?_; refine jc_region ?_; refine jo_l (ly_lda agg30 rfl rfl rfl rfl) (hd 16 rfl) ?_
  refine jo_call Tryd.f36 (hB) rfl Tryd.func36 rfl rfl (ovL_cons rfl ovL_nil) (.cons (.a1 .b (.a1 .n .a0)) .nil) (hd 17 rfl) ?_ (fun ch hp => by simp at hp)
  rintro y hy; injection hy with hy; subst hy; refine jo_l (ly_mv rfl) (hd 15 rfl) ?_; refine jo_l (ly_ext rfl rfl) (hd 18 rfl) ?_; refine jo_l (ly_ext rfl rfl) (hd 19 rfl) ?_; refine jo_l (ly_as rfl) (hd 8 rfl) ?_; refine jo_l (ly_as rfl) (hd 9 rfl) ?_; refine jo_nil ?_; refine jc_seq ?_; refine jc_block ?_; refine jc_seq ?_; refine jc_region ?_; refine jo_l (ly_mv rfl) (hd 21 rfl) ?_; refine jo_l (ly_mv rfl) (hd 22 rfl) ?_; refine jo_g 22 rfl rfl (ly_mv rfl) (hd 23 rfl) ?_; refine jo_l (ly_pick_t rfl rfl) (hd 24 rfl) ?_; refine jo_l (ly_as rfl) (hd 20 rfl) ?_; refine jo_nil ?_; refine jc_litf rfl ?_; refine jc_seq ?_; refine jc_region ?_; refine jo_l (ly_mv rfl) (hd 32 rfl) ?_; refine jo_l (ly_as rfl) (hd 31 rfl) ?_; refine jo_nil ?_; refine jc_litt rfl ?_; refine jc_seq ?_; refine jc_region ?_; refine jo_l (ly_mv rfl) (hd 33 rfl) ?_; refine jo_l (ly_mv rfl) (hd 34 rfl) ?_
  refine jo_call Tryd.f39 (hZ) rfl Tryd.func39 rfl rfl (ovL_cons rfl (ovL_cons rfl ovL_nil)) (.cons .n (.cons .n .nil)) (hd 35 rfl) ?_ (fun ch hp => by simp at hp)
  rintro y hy; injection hy with hy; subst hy
  refine jo_callN Tryd.f37 (hBk) (fun o G ⟨_, h⟩ => h ▸ idless_cons ints_id idless_nil) rfl Tryd.func37 rfl rfl (ovL_cons rfl (ovL_cons rfl ovL_nil)) (.cons .n (.cons .b .nil)) (hd 36 rfl) ?_ (fun ch G hp => by simp at hp)
  rintro y G ⟨hy, rfl⟩; injection hy with hy; subst hy
  show JO _ _ _ _ ((36, .t [.a [.b (decide ((orI v w) < 0)), .o 3 0 0 (lm (orI v w)).length], .i .i64 0]) :: _) _ _
  refine jo_l (ly_ext rfl rfl) (hd 37 rfl) ?_; refine jo_l (ly_ext rfl rfl) (hd 38 rfl) ?_; refine jo_st (sy_store rfl rfl rfl siz30 rfl rfl (Nat.le_of_ble_eq_true rfl)) ?_; refine jo_l (ly_as rfl) (hd 5 rfl) ?_; refine jo_nil ?_; refine jc_ret ?_
  refine ⟨[3], _, (.t [.a [.b (decide ((orI v w) < 0)), .o 0 0 0 (lm (orI v w)).length], .i .i64 0]), (.cons (ResV.cell agg30 rfl rfl rfl rfl) (.cons rfl .nil)), rfl, rfl, (by decide), (by first | exact idless_cons ints_id idless_nil | exact idless_cons rfl idless_nil), ?_⟩
  exact ⟨rfl, rfl⟩

set_option maxHeartbeats 4000000 in
theorem wOr_n11 (sa sb : Bool) (a b : List Int) (v w : Int) (la : a.length < 4294967296) (lb : b.length < 4294967296) (ua : u64s a) (ub : u64s b) (ev : sv sa a = v) (ew : sv sb b = w) (hv : lenV v ≤ 67108860) (hw : lenV w ≤ 67108860) (hs : v < 0) (ht : w < 0) : SpecM Tryd.prog 9 [.a [.b sa, .n false .u64 a], .a [.b sb, .n false .u64 b]] [] (fun o G => o = .ret (.t [.a [.b (decide ((orI v w) < 0)), .o 0 0 0 (lm (orI v w)).length], .i .i64 0]) ∧ G = [⟨76, 1, 0, true, ints .u64 (lm (orI v w))⟩]) := by
  refine specS_of [(0, .a [.b sa, .n false .u64 a]), (1, .a [.b sb, .n false .u64 b])] rfl Tryd.func9 rfl (Nat.le_of_ble_eq_true rfl) fun Γ hN hds hL hR => ?_
  have hd : ∀ d, Nat.blt d 53 = true → d < Γ.N := fun d h => by rw [hN]; exact Nat.le_of_ble_eq_true h
  have hlx := Nat.le_trans (tw_len v) hv
  have hly := Nat.le_trans (tw_len w) hw
  have hl := op_len (L := 67108860) (x := (tw v)) (y := (tw w)) (by omega) (by omega)
  have hA := twos_n sa a v la ua ev hv (by omega)
  have hB := twos_n sb b w lb ub ew hw (by omega)
  have hZ := nAnd_v (tw v) (tw w) (by omega) (by omega)
  have hlz := hl.1
  have hBk : SpecM Tryd.prog 37 [.n false .u64 (lm ((((tw v) &&& (tw w)) : Nat) : Int)), .b true] [] (fun o G => o = .ret (.t [.a [.b (decide ((orI v w) < 0)), .o 0 0 0 (lm (orI v w)).length], .i .i64 0]) ∧ G = [⟨76, 1, 0, true, ints .u64 (lm (orI v w))⟩]) := by have h := back_tn ((tw v) &&& (tw w)) (by omega); rw [show (orI v w) = (-((((tw v) &&& (tw w)) : Nat) : Int) - 1) from by unfold orI; rw [if_pos (by omega), if_pos (by omega)]]; exact h
  refine jc_seq ?_; refine jc_region ?_; refine jo_h (hy_box (id := 0) (n := 2) rfl rfl rfl (by decide) rfl) (hd 2 rfl) ?_; refine jo_h (hy_box (id := 1) (n := 2) rfl rfl rfl (by decide) rfl) (hd 3 rfl) ?_; refine jo_h (hy_alloc (id := 2) zero30 (by decide) rfl (by decide) rfl) (hd 4 rfl) ?_; refine jo_l (ly_as rfl) (hd 5 rfl) ?_; refine jo_nil ?_; refine jc_seq ?_; refine jc_region ?_; refine jo_l (ly_lda agg30 rfl rfl rfl rfl) (hd 11 rfl) ?_
  refine jo_call Tryd.f36 (hA) rfl Tryd.func36 rfl rfl (ovL_cons rfl ovL_nil) (.cons (.a1 .b (.a1 .n .a0)) .nil) (hd 12 rfl) ?_ (fun ch hp => by simp at hp)
  rintro y hy; injection hy with hy; subst hy; refine jo_l (ly_mv rfl) (hd 10 rfl) ?_; refine jo_l (ly_ext rfl rfl) (hd 13 rfl) ?_; refine jo_l (ly_ext rfl rfl) (hd 14 rfl) ?_; refine jo_l (ly_as rfl) (hd 6 rfl) ?_; refine jo_l (ly_as rfl) (hd 7 rfl) ?_; refine jo_nil ?_; refine jc_seq ?_; refine jc_region ?_; refine jo_l (ly_lda agg30 rfl rfl rfl rfl) (hd 16 rfl) ?_
  refine jo_call Tryd.f36 (hB) rfl Tryd.func36 rfl rfl (ovL_cons rfl ovL_nil) (.cons (.a1 .b (.a1 .n .a0)) .nil) (hd 17 rfl) ?_ (fun ch hp => by simp at hp)
  rintro y hy; injection hy with hy; subst hy; refine jo_l (ly_mv rfl) (hd 15 rfl) ?_; refine jo_l (ly_ext rfl rfl) (hd 18 rfl) ?_; refine jo_l (ly_ext rfl rfl) (hd 19 rfl) ?_; refine jo_l (ly_as rfl) (hd 8 rfl) ?_; refine jo_l (ly_as rfl) (hd 9 rfl) ?_; refine jo_nil ?_; refine jc_seq ?_; refine jc_block ?_; refine jc_seq ?_; refine jc_region ?_; refine jo_l (ly_mv rfl) (hd 21 rfl) ?_; refine jo_l (ly_mv rfl) (hd 22 rfl) ?_; refine jo_g 22 rfl rfl (ly_mv rfl) (hd 23 rfl) ?_; refine jo_l (ly_pick_t rfl rfl) (hd 24 rfl) ?_; refine jo_l (ly_as rfl) (hd 20 rfl) ?_; refine jo_nil ?_; refine jc_litt rfl ?_; refine jc_seq ?_; refine jc_region ?_; refine jo_l (ly_mv rfl) (hd 25 rfl) ?_; refine jo_l (ly_mv rfl) (hd 26 rfl) ?_
  refine jo_call Tryd.f40 (hZ) rfl Tryd.func40 rfl rfl (ovL_cons rfl (ovL_cons rfl ovL_nil)) (.cons .n (.cons .n .nil)) (hd 27 rfl) ?_ (fun ch hp => by simp at hp)
  rintro y hy; injection hy with hy; subst hy
  refine jo_callN Tryd.f37 (hBk) (fun o G ⟨_, h⟩ => h ▸ idless_cons ints_id idless_nil) rfl Tryd.func37 rfl rfl (ovL_cons rfl (ovL_cons rfl ovL_nil)) (.cons .n (.cons .b .nil)) (hd 28 rfl) ?_ (fun ch G hp => by simp at hp)
  rintro y G ⟨hy, rfl⟩; injection hy with hy; subst hy
  show JO _ _ _ _ ((28, .t [.a [.b (decide ((orI v w) < 0)), .o 3 0 0 (lm (orI v w)).length], .i .i64 0]) :: _) _ _
  refine jo_l (ly_ext rfl rfl) (hd 29 rfl) ?_; refine jo_l (ly_ext rfl rfl) (hd 30 rfl) ?_; refine jo_st (sy_store rfl rfl rfl siz30 rfl rfl (Nat.le_of_ble_eq_true rfl)) ?_; refine jo_l (ly_as rfl) (hd 5 rfl) ?_; refine jo_nil ?_; refine jc_ret ?_
  refine ⟨[3], _, (.t [.a [.b (decide ((orI v w) < 0)), .o 0 0 0 (lm (orI v w)).length], .i .i64 0]), (.cons (ResV.cell agg30 rfl rfl rfl rfl) (.cons rfl .nil)), rfl, rfl, (by decide), (by first | exact idless_cons ints_id idless_nil | exact idless_cons rfl idless_nil), ?_⟩
  exact ⟨rfl, rfl⟩

theorem wOr_nv (sa sb : Bool) (a b : List Int) (v w : Int) (la : a.length < 4294967296) (lb : b.length < 4294967296) (ua : u64s a) (ub : u64s b) (ev : sv sa a = v) (ew : sv sb b = w) (hv : lenV v ≤ 67108860) (hw : lenV w ≤ 67108860) : SpecM Tryd.prog 9 [.a [.b sa, .n false .u64 a], .a [.b sb, .n false .u64 b]] [] (fun o G => o = .ret (.t [.a [.b (decide ((orI v w) < 0)), .o 0 0 0 (lm (orI v w)).length], .i .i64 0]) ∧ G = [⟨76, 1, 0, true, ints .u64 (lm (orI v w))⟩]) := by
  by_cases hs : v < 0 <;> by_cases ht : w < 0
  · exact wOr_n11 sa sb a b v w la lb ua ub ev ew hv hw hs ht
  · exact wOr_n10 sa sb a b v w la lb ua ub ev ew hv hw hs (by omega)
  · exact wOr_n01 sa sb a b v w la lb ua ub ev ew hv hw (by omega) ht
  · exact wOr_n00 sa sb a b v w la lb ua ub ev ew hv hw (by omega) (by omega)

set_option maxHeartbeats 4000000 in
theorem wXor_n00 (sa sb : Bool) (a b : List Int) (v w : Int) (la : a.length < 4294967296) (lb : b.length < 4294967296) (ua : u64s a) (ub : u64s b) (ev : sv sa a = v) (ew : sv sb b = w) (hv : lenV v ≤ 67108860) (hw : lenV w ≤ 67108860) (hs : 0 ≤ v) (ht : 0 ≤ w) : SpecM Tryd.prog 10 [.a [.b sa, .n false .u64 a], .a [.b sb, .n false .u64 b]] [] (fun o G => o = .ret (.t [.a [.b (decide ((xoI v w) < 0)), .o 0 0 0 (lm (xoI v w)).length], .i .i64 0]) ∧ G = [⟨76, 1, 0, true, ints .u64 (lm (xoI v w))⟩]) := by
  refine specS_of [(0, .a [.b sa, .n false .u64 a]), (1, .a [.b sb, .n false .u64 b])] rfl Tryd.func10 rfl (Nat.le_of_ble_eq_true rfl) fun Γ hN hds hL hR => ?_
  have hd : ∀ d, Nat.blt d 29 = true → d < Γ.N := fun d h => by rw [hN]; exact Nat.le_of_ble_eq_true h
  have hlx := Nat.le_trans (tw_len v) hv
  have hly := Nat.le_trans (tw_len w) hw
  have hl := op_len (L := 67108860) (x := (tw v)) (y := (tw w)) (by omega) (by omega)
  have hA := twos_p sa a v la ua ev hv (by omega)
  have hB := twos_p sb b w lb ub ew hw (by omega)
  have hZ := nXor_v (tw v) (tw w) (by omega) (by omega)
  have hlz := hl.2.2.1
  have hBk : SpecM Tryd.prog 37 [.n false .u64 (lm ((((tw v) ^^^ (tw w)) : Nat) : Int)), .b false] [] (fun o G => o = .ret (.t [.a [.b (decide ((xoI v w) < 0)), .o 0 0 0 (lm (xoI v w)).length], .i .i64 0]) ∧ G = [⟨76, 1, 0, true, ints .u64 (lm (xoI v w))⟩]) := by have h := back_fn ((tw v) ^^^ (tw w)) (by omega); rw [show (xoI v w) = ((((tw v) ^^^ (tw w)) : Nat) : Int) from by unfold xoI; rw [decide_eq_false (by omega), decide_eq_false (by omega)]; rfl]; exact h
  refine jc_seq ?_; refine jc_region ?_; refine jo_h (hy_box (id := 0) (n := 2) rfl rfl rfl (by decide) rfl) (hd 2 rfl) ?_; refine jo_h (hy_box (id := 1) (n := 2) rfl rfl rfl (by decide) rfl) (hd 3 rfl) ?_; refine jo_h (hy_alloc (id := 2) zero30 (by decide) rfl (by decide) rfl) (hd 4 rfl) ?_; refine jo_l (ly_as rfl) (hd 5 rfl) ?_; refine jo_nil ?_; refine jc_seq ?_; refine jc_region ?_; refine jo_l (ly_lda agg30 rfl rfl rfl rfl) (hd 11 rfl) ?_
  refine jo_call Tryd.f36 (hA) rfl Tryd.func36 rfl rfl (ovL_cons rfl ovL_nil) (.cons (.a1 .b (.a1 .n .a0)) .nil) (hd 12 rfl) ?_ (fun ch hp => by simp at hp)
  rintro y hy; injection hy with hy; subst hy; refine jo_l (ly_mv rfl) (hd 10 rfl) ?_; refine jo_l (ly_ext rfl rfl) (hd 13 rfl) ?_; refine jo_l (ly_ext rfl rfl) (hd 14 rfl) ?_; refine jo_l (ly_as rfl) (hd 6 rfl) ?_; refine jo_l (ly_as rfl) (hd 7 rfl) ?_; refine jo_nil ?_; refine jc_seq ?_; refine jc_region ?_; refine jo_l (ly_lda agg30 rfl rfl rfl rfl) (hd 16 rfl) ?_
  refine jo_call Tryd.f36 (hB) rfl Tryd.func36 rfl rfl (ovL_cons rfl ovL_nil) (.cons (.a1 .b (.a1 .n .a0)) .nil) (hd 17 rfl) ?_ (fun ch hp => by simp at hp)
  rintro y hy; injection hy with hy; subst hy; refine jo_l (ly_mv rfl) (hd 15 rfl) ?_; refine jo_l (ly_ext rfl rfl) (hd 18 rfl) ?_; refine jo_l (ly_ext rfl rfl) (hd 19 rfl) ?_; refine jo_l (ly_as rfl) (hd 8 rfl) ?_; refine jo_l (ly_as rfl) (hd 9 rfl) ?_; refine jo_nil ?_; refine jc_seq ?_; refine jc_region ?_; refine jo_l (ly_mv rfl) (hd 20 rfl) ?_; refine jo_l (ly_mv rfl) (hd 21 rfl) ?_
  refine jo_call Tryd.f41 (hZ) rfl Tryd.func41 rfl rfl (ovL_cons rfl (ovL_cons rfl ovL_nil)) (.cons .n (.cons .n .nil)) (hd 22 rfl) ?_ (fun ch hp => by simp at hp)
  rintro y hy; injection hy with hy; subst hy; refine jo_l (ly_mv rfl) (hd 23 rfl) ?_; refine jo_l (ly_mv rfl) (hd 24 rfl) ?_; refine jo_l (ly_neb und4 rfl rfl) (hd 25 rfl) ?_
  refine jo_callN Tryd.f37 (hBk) (fun o G ⟨_, h⟩ => h ▸ idless_cons ints_id idless_nil) rfl Tryd.func37 rfl rfl (ovL_cons rfl (ovL_cons rfl ovL_nil)) (.cons .n (.cons .b .nil)) (hd 26 rfl) ?_ (fun ch G hp => by simp at hp)
  rintro y G ⟨hy, rfl⟩; injection hy with hy; subst hy
  show JO _ _ _ _ ((26, .t [.a [.b (decide ((xoI v w) < 0)), .o 3 0 0 (lm (xoI v w)).length], .i .i64 0]) :: _) _ _
  refine jo_l (ly_ext rfl rfl) (hd 27 rfl) ?_; refine jo_l (ly_ext rfl rfl) (hd 28 rfl) ?_; refine jo_st (sy_store rfl rfl rfl siz30 rfl rfl (Nat.le_of_ble_eq_true rfl)) ?_; refine jo_l (ly_as rfl) (hd 5 rfl) ?_; refine jo_nil ?_; refine jc_ret ?_
  refine ⟨[3], _, (.t [.a [.b (decide ((xoI v w) < 0)), .o 0 0 0 (lm (xoI v w)).length], .i .i64 0]), (.cons (ResV.cell agg30 rfl rfl rfl rfl) (.cons rfl .nil)), rfl, rfl, (by decide), (by first | exact idless_cons ints_id idless_nil | exact idless_cons rfl idless_nil), ?_⟩
  exact ⟨rfl, rfl⟩

set_option maxHeartbeats 4000000 in
theorem wXor_n01 (sa sb : Bool) (a b : List Int) (v w : Int) (la : a.length < 4294967296) (lb : b.length < 4294967296) (ua : u64s a) (ub : u64s b) (ev : sv sa a = v) (ew : sv sb b = w) (hv : lenV v ≤ 67108860) (hw : lenV w ≤ 67108860) (hs : 0 ≤ v) (ht : w < 0) : SpecM Tryd.prog 10 [.a [.b sa, .n false .u64 a], .a [.b sb, .n false .u64 b]] [] (fun o G => o = .ret (.t [.a [.b (decide ((xoI v w) < 0)), .o 0 0 0 (lm (xoI v w)).length], .i .i64 0]) ∧ G = [⟨76, 1, 0, true, ints .u64 (lm (xoI v w))⟩]) := by
  refine specS_of [(0, .a [.b sa, .n false .u64 a]), (1, .a [.b sb, .n false .u64 b])] rfl Tryd.func10 rfl (Nat.le_of_ble_eq_true rfl) fun Γ hN hds hL hR => ?_
  have hd : ∀ d, Nat.blt d 29 = true → d < Γ.N := fun d h => by rw [hN]; exact Nat.le_of_ble_eq_true h
  have hlx := Nat.le_trans (tw_len v) hv
  have hly := Nat.le_trans (tw_len w) hw
  have hl := op_len (L := 67108860) (x := (tw v)) (y := (tw w)) (by omega) (by omega)
  have hA := twos_p sa a v la ua ev hv (by omega)
  have hB := twos_n sb b w lb ub ew hw (by omega)
  have hZ := nXor_v (tw v) (tw w) (by omega) (by omega)
  have hlz := hl.2.2.1
  have hBk : SpecM Tryd.prog 37 [.n false .u64 (lm ((((tw v) ^^^ (tw w)) : Nat) : Int)), .b true] [] (fun o G => o = .ret (.t [.a [.b (decide ((xoI v w) < 0)), .o 0 0 0 (lm (xoI v w)).length], .i .i64 0]) ∧ G = [⟨76, 1, 0, true, ints .u64 (lm (xoI v w))⟩]) := by have h := back_tn ((tw v) ^^^ (tw w)) (by omega); rw [show (xoI v w) = (-((((tw v) ^^^ (tw w)) : Nat) : Int) - 1) from by unfold xoI; rw [decide_eq_false (by omega), decide_eq_true (by omega)]; rfl]; exact h
  refine jc_seq ?_; refine jc_region ?_; refine jo_h (hy_box (id := 0) (n := 2) rfl rfl rfl (by decide) rfl) (hd 2 rfl) ?_; refine jo_h (hy_box (id := 1) (n := 2) rfl rfl rfl (by decide) rfl) (hd 3 rfl) ?_; refine jo_h (hy_alloc (id := 2) zero30 (by decide) rfl (by decide) rfl) (hd 4 rfl) ?_; refine jo_l (ly_as rfl) (hd 5 rfl) ?_; refine jo_nil ?_; refine jc_seq ?_; refine jc_region ?_; refine jo_l (ly_lda agg30 rfl rfl rfl rfl) (hd 11 rfl) ?_
  refine jo_call Tryd.f36 (hA) rfl Tryd.func36 rfl rfl (ovL_cons rfl ovL_nil) (.cons (.a1 .b (.a1 .n .a0)) .nil) (hd 12 rfl) ?_ (fun ch hp => by simp at hp)
  rintro y hy; injection hy with hy; subst hy; refine jo_l (ly_mv rfl) (hd 10 rfl) ?_; refine jo_l (ly_ext rfl rfl) (hd 13 rfl) ?_; refine jo_l (ly_ext rfl rfl) (hd 14 rfl) ?_; refine jo_l (ly_as rfl) (hd 6 rfl) ?_; refine jo_l (ly_as rfl) (hd 7 rfl) ?_; refine jo_nil ?_; refine jc_seq ?_; refine jc_region ?_; refine jo_l (ly_lda agg30 rfl rfl rfl rfl) (hd 16 rfl) ?_
  refine jo_call Tryd.f36 (hB) rfl Tryd.func36 rfl rfl (ovL_cons rfl ovL_nil) (.cons (.a1 .b (.a1 .n .a0)) .nil) (hd 17 rfl) ?_ (fun ch hp => by simp at hp)
  rintro y hy; injection hy with hy; subst hy; refine jo_l (ly_mv rfl) (hd 15 rfl) ?_; refine jo_l (ly_ext rfl rfl) (hd 18 rfl) ?_; refine jo_l (ly_ext rfl rfl) (hd 19 rfl) ?_; refine jo_l (ly_as rfl) (hd 8 rfl) ?_; refine jo_l (ly_as rfl) (hd 9 rfl) ?_; refine jo_nil ?_; refine jc_seq ?_; refine jc_region ?_; refine jo_l (ly_mv rfl) (hd 20 rfl) ?_; refine jo_l (ly_mv rfl) (hd 21 rfl) ?_
  refine jo_call Tryd.f41 (hZ) rfl Tryd.func41 rfl rfl (ovL_cons rfl (ovL_cons rfl ovL_nil)) (.cons .n (.cons .n .nil)) (hd 22 rfl) ?_ (fun ch hp => by simp at hp)
  rintro y hy; injection hy with hy; subst hy; refine jo_l (ly_mv rfl) (hd 23 rfl) ?_; refine jo_l (ly_mv rfl) (hd 24 rfl) ?_; refine jo_l (ly_neb und4 rfl rfl) (hd 25 rfl) ?_
  refine jo_callN Tryd.f37 (hBk) (fun o G ⟨_, h⟩ => h ▸ idless_cons ints_id idless_nil) rfl Tryd.func37 rfl rfl (ovL_cons rfl (ovL_cons rfl ovL_nil)) (.cons .n (.cons .b .nil)) (hd 26 rfl) ?_ (fun ch G hp => by simp at hp)
  rintro y G ⟨hy, rfl⟩; injection hy with hy; subst hy
  show JO _ _ _ _ ((26, .t [.a [.b (decide ((xoI v w) < 0)), .o 3 0 0 (lm (xoI v w)).length], .i .i64 0]) :: _) _ _
  refine jo_l (ly_ext rfl rfl) (hd 27 rfl) ?_; refine jo_l (ly_ext rfl rfl) (hd 28 rfl) ?_; refine jo_st (sy_store rfl rfl rfl siz30 rfl rfl (Nat.le_of_ble_eq_true rfl)) ?_; refine jo_l (ly_as rfl) (hd 5 rfl) ?_; refine jo_nil ?_; refine jc_ret ?_
  refine ⟨[3], _, (.t [.a [.b (decide ((xoI v w) < 0)), .o 0 0 0 (lm (xoI v w)).length], .i .i64 0]), (.cons (ResV.cell agg30 rfl rfl rfl rfl) (.cons rfl .nil)), rfl, rfl, (by decide), (by first | exact idless_cons ints_id idless_nil | exact idless_cons rfl idless_nil), ?_⟩
  exact ⟨rfl, rfl⟩

set_option maxHeartbeats 4000000 in
theorem wXor_n10 (sa sb : Bool) (a b : List Int) (v w : Int) (la : a.length < 4294967296) (lb : b.length < 4294967296) (ua : u64s a) (ub : u64s b) (ev : sv sa a = v) (ew : sv sb b = w) (hv : lenV v ≤ 67108860) (hw : lenV w ≤ 67108860) (hs : v < 0) (ht : 0 ≤ w) : SpecM Tryd.prog 10 [.a [.b sa, .n false .u64 a], .a [.b sb, .n false .u64 b]] [] (fun o G => o = .ret (.t [.a [.b (decide ((xoI v w) < 0)), .o 0 0 0 (lm (xoI v w)).length], .i .i64 0]) ∧ G = [⟨76, 1, 0, true, ints .u64 (lm (xoI v w))⟩]) := by
  refine specS_of [(0, .a [.b sa, .n false .u64 a]), (1, .a [.b sb, .n false .u64 b])] rfl Tryd.func10 rfl (Nat.le_of_ble_eq_true rfl) fun Γ hN hds hL hR => ?_
  have hd : ∀ d, Nat.blt d 29 = true → d < Γ.N := fun d h => by rw [hN]; exact Nat.le_of_ble_eq_true h
  have hlx := Nat.le_trans (tw_len v) hv
  have hly := Nat.le_trans (tw_len w) hw
  have hl := op_len (L := 67108860) (x := (tw v)) (y := (tw w)) (by omega) (by omega)
  have hA := twos_n sa a v la ua ev hv (by omega)
  have hB := twos_p sb b w lb ub ew hw (by omega)
  have hZ := nXor_v (tw v) (tw w) (by omega) (by omega)
  have hlz := hl.2.2.1
  have hBk : SpecM Tryd.prog 37 [.n false .u64 (lm ((((tw v) ^^^ (tw w)) : Nat) : Int)), .b true] [] (fun o G => o = .ret (.t [.a [.b (decide ((xoI v w) < 0)), .o 0 0 0 (lm (xoI v w)).length], .i .i64 0]) ∧ G = [⟨76, 1, 0, true, ints .u64 (lm (xoI v w))⟩]) := by have h := back_tn ((tw v) ^^^ (tw w)) (by omega); rw [show (xoI v w) = (-((((tw v) ^^^ (tw w)) : Nat) : Int) - 1) from by unfold xoI; rw [decide_eq_true (by omega), decide_eq_false (by omega)]; rfl]; exact h
  refine jc_seq ?_; refine jc_region ?_; refine jo_h (hy_box (id := 0) (n := 2) rfl rfl rfl (by decide) rfl) (hd 2 rfl) ?_; refine jo_h (hy_box (id := 1) (n := 2) rfl rfl rfl (by decide) rfl) (hd 3 rfl) ?_; refine jo_h (hy_alloc (id := 2) zero30 (by decide) rfl (by decide) rfl) (hd 4 rfl) ?_; refine jo_l (ly_as rfl) (hd 5 rfl) ?_; refine jo_nil ?_; refine jc_seq ?_; refine jc_region ?_; refine jo_l (ly_lda agg30 rfl rfl rfl rfl) (hd 11 rfl) ?_
  refine jo_call Tryd.f36 (hA) rfl Tryd.func36 rfl rfl (ovL_cons rfl ovL_nil) (.cons (.a1 .b (.a1 .n .a0)) .nil) (hd 12 rfl) ?_ (fun ch hp => by simp at hp)
  rintro y hy; injection hy with hy; subst hy; refine jo_l (ly_mv rfl) (hd 10 rfl) ?_; refine jo_l (ly_ext rfl rfl) (hd 13 rfl) ?_; refine jo_l (ly_ext rfl rfl) (hd 14 rfl) ?_; refine jo_l (ly_as rfl) (hd 6 rfl) ?_; refine jo_l (ly_as rfl) (hd 7 rfl) ?_; refine jo_nil ?_; refine jc_seq ?_; refine jc_region ?_; refine jo_l (ly_lda agg30 rfl rfl rfl rfl) (hd 16 rfl) ?_
  refine jo_call Tryd.f36 (hB) rfl Tryd.func36 rfl rfl (ovL_cons rfl ovL_nil) (.cons (.a1 .b (.a1 .n .a0)) .nil) (hd 17 rfl) ?_ (fun ch hp => by simp at hp)
  rintro y hy; injection hy with hy; subst hy; refine jo_l (ly_mv rfl) (hd 15 rfl) ?_; refine jo_l (ly_ext rfl rfl) (hd 18 rfl) ?_; refine jo_l (ly_ext rfl rfl) (hd 19 rfl) ?_; refine jo_l (ly_as rfl) (hd 8 rfl) ?_; refine jo_l (ly_as rfl) (hd 9 rfl) ?_; refine jo_nil ?_; refine jc_seq ?_; refine jc_region ?_; refine jo_l (ly_mv rfl) (hd 20 rfl) ?_; refine jo_l (ly_mv rfl) (hd 21 rfl) ?_
  refine jo_call Tryd.f41 (hZ) rfl Tryd.func41 rfl rfl (ovL_cons rfl (ovL_cons rfl ovL_nil)) (.cons .n (.cons .n .nil)) (hd 22 rfl) ?_ (fun ch hp => by simp at hp)
  rintro y hy; injection hy with hy; subst hy; refine jo_l (ly_mv rfl) (hd 23 rfl) ?_; refine jo_l (ly_mv rfl) (hd 24 rfl) ?_; refine jo_l (ly_neb und4 rfl rfl) (hd 25 rfl) ?_
  refine jo_callN Tryd.f37 (hBk) (fun o G ⟨_, h⟩ => h ▸ idless_cons ints_id idless_nil) rfl Tryd.func37 rfl rfl (ovL_cons rfl (ovL_cons rfl ovL_nil)) (.cons .n (.cons .b .nil)) (hd 26 rfl) ?_ (fun ch G hp => by simp at hp)
  rintro y G ⟨hy, rfl⟩; injection hy with hy; subst hy
  show JO _ _ _ _ ((26, .t [.a [.b (decide ((xoI v w) < 0)), .o 3 0 0 (lm (xoI v w)).length], .i .i64 0]) :: _) _ _
  refine jo_l (ly_ext rfl rfl) (hd 27 rfl) ?_; refine jo_l (ly_ext rfl rfl) (hd 28 rfl) ?_; refine jo_st (sy_store rfl rfl rfl siz30 rfl rfl (Nat.le_of_ble_eq_true rfl)) ?_; refine jo_l (ly_as rfl) (hd 5 rfl) ?_; refine jo_nil ?_; refine jc_ret ?_
  refine ⟨[3], _, (.t [.a [.b (decide ((xoI v w) < 0)), .o 0 0 0 (lm (xoI v w)).length], .i .i64 0]), (.cons (ResV.cell agg30 rfl rfl rfl rfl) (.cons rfl .nil)), rfl, rfl, (by decide), (by first | exact idless_cons ints_id idless_nil | exact idless_cons rfl idless_nil), ?_⟩
  exact ⟨rfl, rfl⟩

set_option maxHeartbeats 4000000 in
theorem wXor_n11 (sa sb : Bool) (a b : List Int) (v w : Int) (la : a.length < 4294967296) (lb : b.length < 4294967296) (ua : u64s a) (ub : u64s b) (ev : sv sa a = v) (ew : sv sb b = w) (hv : lenV v ≤ 67108860) (hw : lenV w ≤ 67108860) (hs : v < 0) (ht : w < 0) : SpecM Tryd.prog 10 [.a [.b sa, .n false .u64 a], .a [.b sb, .n false .u64 b]] [] (fun o G => o = .ret (.t [.a [.b (decide ((xoI v w) < 0)), .o 0 0 0 (lm (xoI v w)).length], .i .i64 0]) ∧ G = [⟨76, 1, 0, true, ints .u64 (lm (xoI v w))⟩]) := by
  refine specS_of [(0, .a [.b sa, .n false .u64 a]), (1, .a [.b sb, .n false .u64 b])] rfl Tryd.func10 rfl (Nat.le_of_ble_eq_true rfl) fun Γ hN hds hL hR => ?_
  have hd : ∀ d, Nat.blt d 29 = true → d < Γ.N := fun d h => by rw [hN]; exact Nat.le_of_ble_eq_true h
  have hlx := Nat.le_trans (tw_len v) hv
  have hly := Nat.le_trans (tw_len w) hw
  have hl := op_len (L := 67108860) (x := (tw v)) (y := (tw w)) (by omega) (by omega)
  have hA := twos_n sa a v la ua ev hv (by omega)
  have hB := twos_n sb b w lb ub ew hw (by omega)
  have hZ := nXor_v (tw v) (tw w) (by omega) (by omega)
  have hlz := hl.2.2.1
  have hBk : SpecM Tryd.prog 37 [.n false .u64 (lm ((((tw v) ^^^ (tw w)) : Nat) : Int)), .b false] [] (fun o G => o = .ret (.t [.a [.b (decide ((xoI v w) < 0)), .o 0 0 0 (lm (xoI v w)).length], .i .i64 0]) ∧ G = [⟨76, 1, 0, true, ints .u64 (lm (xoI v w))⟩]) := by have h := back_fn ((tw v) ^^^ (tw w)) (by omega); rw [show (xoI v w) = ((((tw v) ^^^ (tw w)) : Nat) : Int) from by unfold xoI; rw [decide_eq_true (by omega), decide_eq_true (by omega)]; rfl]; exact h
  refine jc_seq ?_; refine jc_region ?_; refine jo_h (hy_box (id := 0) (n := 2) rfl rfl rfl (by decide) rfl) (hd 2 rfl) ?_; refine jo_h (hy_box (id := 1) (n := 2) rfl rfl rfl (by decide) rfl) (hd 3 rfl) ?_; refine jo_h (hy_alloc (id := 2) zero30 (by decide) rfl (by decide) rfl) (hd 4 rfl) ?_; refine jo_l (ly_as rfl) (hd 5 rfl) ?_; refine jo_nil ?_; refine jc_seq ?_; refine jc_region ?_; refine jo_l (ly_lda agg30 rfl rfl rfl rfl) (hd 11 rfl) ?_
  refine jo_call Tryd.f36 (hA) rfl Tryd.func36 rfl rfl (ovL_cons rfl ovL_nil) (.cons (.a1 .b (.a1 .n .a0)) .nil) (hd 12 rfl) ?_ (fun ch hp => by simp at hp)
  rintro y hy; injection hy with hy; subst hy; refine jo_l (ly_mv rfl) (hd 10 rfl) ?_; refine jo_l (ly_ext rfl rfl) (hd 13 rfl) ?_; refine jo_l (ly_ext rfl rfl) (hd 14 rfl) ?_; refine jo_l (ly_as rfl) (hd 6 rfl) ?_; refine jo_l (ly_as rfl) (hd 7 rfl) ?_; refine jo_nil ?_; refine jc_seq ?_; refine jc_region ?_; refine jo_l (ly_lda agg30 rfl rfl rfl rfl) (hd 16 rfl) ?_
  refine jo_call Tryd.f36 (hB) rfl Tryd.func36 rfl rfl (ovL_cons rfl ovL_nil) (.cons (.a1 .b (.a1 .n .a0)) .nil) (hd 17 rfl) ?_ (fun ch hp => by simp at hp)
  rintro y hy; injection hy with hy; subst hy; refine jo_l (ly_mv rfl) (hd 15 rfl) ?_; refine jo_l (ly_ext rfl rfl) (hd 18 rfl) ?_; refine jo_l (ly_ext rfl rfl) (hd 19 rfl) ?_; refine jo_l (ly_as rfl) (hd 8 rfl) ?_; refine jo_l (ly_as rfl) (hd 9 rfl) ?_; refine jo_nil ?_; refine jc_seq ?_; refine jc_region ?_; refine jo_l (ly_mv rfl) (hd 20 rfl) ?_; refine jo_l (ly_mv rfl) (hd 21 rfl) ?_
  refine jo_call Tryd.f41 (hZ) rfl Tryd.func41 rfl rfl (ovL_cons rfl (ovL_cons rfl ovL_nil)) (.cons .n (.cons .n .nil)) (hd 22 rfl) ?_ (fun ch hp => by simp at hp)
  rintro y hy; injection hy with hy; subst hy; refine jo_l (ly_mv rfl) (hd 23 rfl) ?_; refine jo_l (ly_mv rfl) (hd 24 rfl) ?_; refine jo_l (ly_neb und4 rfl rfl) (hd 25 rfl) ?_
  refine jo_callN Tryd.f37 (hBk) (fun o G ⟨_, h⟩ => h ▸ idless_cons ints_id idless_nil) rfl Tryd.func37 rfl rfl (ovL_cons rfl (ovL_cons rfl ovL_nil)) (.cons .n (.cons .b .nil)) (hd 26 rfl) ?_ (fun ch G hp => by simp at hp)
  rintro y G ⟨hy, rfl⟩; injection hy with hy; subst hy
  show JO _ _ _ _ ((26, .t [.a [.b (decide ((xoI v w) < 0)), .o 3 0 0 (lm (xoI v w)).length], .i .i64 0]) :: _) _ _
  refine jo_l (ly_ext rfl rfl) (hd 27 rfl) ?_; refine jo_l (ly_ext rfl rfl) (hd 28 rfl) ?_; refine jo_st (sy_store rfl rfl rfl siz30 rfl rfl (Nat.le_of_ble_eq_true rfl)) ?_; refine jo_l (ly_as rfl) (hd 5 rfl) ?_; refine jo_nil ?_; refine jc_ret ?_
  refine ⟨[3], _, (.t [.a [.b (decide ((xoI v w) < 0)), .o 0 0 0 (lm (xoI v w)).length], .i .i64 0]), (.cons (ResV.cell agg30 rfl rfl rfl rfl) (.cons rfl .nil)), rfl, rfl, (by decide), (by first | exact idless_cons ints_id idless_nil | exact idless_cons rfl idless_nil), ?_⟩
  exact ⟨rfl, rfl⟩

theorem wXor_nv (sa sb : Bool) (a b : List Int) (v w : Int) (la : a.length < 4294967296) (lb : b.length < 4294967296) (ua : u64s a) (ub : u64s b) (ev : sv sa a = v) (ew : sv sb b = w) (hv : lenV v ≤ 67108860) (hw : lenV w ≤ 67108860) : SpecM Tryd.prog 10 [.a [.b sa, .n false .u64 a], .a [.b sb, .n false .u64 b]] [] (fun o G => o = .ret (.t [.a [.b (decide ((xoI v w) < 0)), .o 0 0 0 (lm (xoI v w)).length], .i .i64 0]) ∧ G = [⟨76, 1, 0, true, ints .u64 (lm (xoI v w))⟩]) := by
  by_cases hs : v < 0 <;> by_cases ht : w < 0
  · exact wXor_n11 sa sb a b v w la lb ua ub ev ew hv hw hs ht
  · exact wXor_n10 sa sb a b v w la lb ua ub ev ew hv hw hs (by omega)
  · exact wXor_n01 sa sb a b v w la lb ua ub ev ew hv hw (by omega) ht
  · exact wXor_n00 sa sb a b v w la lb ua ub ev ew hv hw (by omega) (by omega)

theorem WSub_rnv (s t : Bool) (a b : List Int) (v x : Int) (hla : a.length < 4294967296) (hlb : b.length < 4294967296) (ua : u64s a) (ub : u64s b) (hv : sv s a = v) (hx : sv t b = x) (hf : lenV (v - x) ≤ 67108864) : SpecM Tryd.prog 28 [.a [.b s, .n false .u64 a], .a [.b t, .n false .u64 b]] [] (fun o G => o = .ret (.t [.a [.b (decide ((v - x) < 0)), .o 0 0 0 (lm (v - x)).length], .i .i64 0]) ∧ G = [⟨76, 1, 0, true, ints .u64 (lm (v - x))⟩]) :=
  (WSub_n s t a b hla hlb ua ub).mono fun o G ⟨s2, r, e, ho, hG, hR⟩ => by
    rw [hv, hx] at hR
    rcases hR with ⟨_, h1, h2, h3⟩ | ⟨h, _⟩
    · subst h1; subst h2; subst h3; exact ⟨ho, hG⟩
    · omega

set_option maxHeartbeats 4000000 in
theorem inverted_n (sa : Bool) (a : List Int) (v : Int) (la : a.length < 4294967296) (ua : u64s a) (ev : sv sa a = v) (hv : lenV v ≤ 67108860) : SpecM Tryd.prog 42 [.a [.b sa, .n false .u64 a]] [] (fun o G => o = .ret (.t [.a [.b (decide ((-1 - v) < 0)), .o 0 0 0 (lm (-1 - v)).length], .i .i64 0]) ∧ G = [⟨76, 1, 0, true, ints .u64 (lm (-1 - v))⟩]) := by
  refine specS_of [(0, .a [.b sa, .n false .u64 a])] rfl Tryd.func42 rfl (Nat.le_of_ble_eq_true rfl) fun Γ hN hds hL hR => ?_
  have hd : ∀ d, Nat.blt d 9 = true → d < Γ.N := fun d h => by rw [hN]; exact Nat.le_of_ble_eq_true h
  have hl1 : lenV (-1) = 1 := by decide +kernel
  have hs1 := lenV_sub (-1) v
  have h0v := @lenV_0 v
  have hOf := Of_v (-1) (by unfold inI; omega)
  have hSu := WSub_rnv (decide ((-1 : Int) < 0)) sa (lm (-1)) a (-1) v (by have := lenV_lm (v := -1) (by omega); omega) la (lm_u _) ua (sv_lm _) ev (by omega)
  refine jc_seq ?_; refine jc_region ?_; refine jo_h (hy_box (id := 0) (n := 2) rfl rfl rfl (by decide) rfl) (hd 1 rfl) ?_; refine jo_h (hy_alloc (id := 1) zero30 (by decide) rfl (by decide) rfl) (hd 2 rfl) ?_; refine jo_l (ly_as rfl) (hd 3 rfl) ?_; refine jo_nil ?_; refine jc_seq ?_; refine jc_draw (n := 7) _ rfl mixed ?_; refine ja_l2 1 [2, 3, 4, 5, 6] (lo_l (ly_lda agg30 rfl rfl rfl rfl) (hd 5 rfl)) rfl (by kernel_rfl) (by kernel_rfl) (by kernel_rfl) (by kernel_rfl) (fun _ _ _ _ h => h) ?_
  refine ja_1 0 ?_ rfl (by kernel_rfl)
  refine js_call Tryd.f58 (hOf) rfl Tryd.func58 rfl rfl (ovL_cons rfl ovL_nil) (.cons .i .nil) (hd 4 rfl) ?_ (fun ch hp => by simp at hp)
  rintro y hy; injection hy with hy; subst hy
  refine ja_1 2 ?_ rfl (by kernel_rfl)
  refine js_callN Tryd.f28 (hSu) (fun o G ⟨_, h⟩ => h ▸ idless_cons ints_id idless_nil) rfl Tryd.func28 rfl rfl (ovL_cons rfl (ovL_cons rfl ovL_nil)) (.cons (.a1 .b (.a1 .n .a0)) (.cons (.a1 .b (.a1 .n .a0)) .nil)) (hd 6 rfl) ?_ (fun ch G hp => by simp at hp)
  rintro y G ⟨hy, rfl⟩; injection hy with hy; subst hy
  show JA _ _ _ _ _ ((6, .t [.a [.b (decide ((-1 - v) < 0)), .o 2 0 0 (lm (-1 - v)).length], .i .i64 0]) :: _) _ _
  refine ja_l 3 (lo_l (ly_ext rfl rfl) (hd 7 rfl)) rfl (by kernel_rfl) (by kernel_rfl) (by kernel_rfl) (fun _ _ _ _ h => h) ?_; refine ja_l 4 (lo_l (ly_ext rfl rfl) (hd 8 rfl)) rfl (by kernel_rfl) (by kernel_rfl) (by kernel_rfl) (fun _ _ _ _ h => h) ?_
  refine ja_1 5 ?_ rfl (by kernel_rfl)
  refine js_st (sy_store rfl rfl rfl siz30 rfl rfl (Nat.le_of_ble_eq_true rfl)) rfl ?_; refine ja_l 6 (lo_l (ly_as rfl) (hd 3 rfl)) rfl (by kernel_rfl) (by kernel_rfl) (by kernel_rfl) (fun _ _ _ _ h => h) ?_; refine ja_nil (by kernel_rfl) ?_; refine jc_ret ?_
  refine ⟨[2], _, (.t [.a [.b (decide ((-1 - v) < 0)), .o 0 0 0 (lm (-1 - v)).length], .i .i64 0]), (.cons (ResV.cell agg30 rfl rfl rfl rfl) (.cons rfl .nil)), rfl, rfl, (by decide), (by first | exact idless_cons ints_id idless_nil | exact idless_cons rfl idless_nil), ?_⟩
  exact ⟨rfl, rfl⟩

set_option maxHeartbeats 4000000 in
theorem wNot_n (sa : Bool) (a : List Int) (v : Int) (la : a.length < 4294967296) (ua : u64s a) (ev : sv sa a = v) (hv : lenV v ≤ 67108860) : SpecM Tryd.prog 11 [.a [.b sa, .n false .u64 a]] [] (fun o G => o = .ret (.t [.a [.b (decide ((-1 - v) < 0)), .o 0 0 0 (lm (-1 - v)).length], .i .i64 0]) ∧ G = [⟨76, 1, 0, true, ints .u64 (lm (-1 - v))⟩]) := by
  refine specS_of [(0, .a [.b sa, .n false .u64 a])] rfl Tryd.func11 rfl (Nat.le_of_ble_eq_true rfl) fun Γ hN hds hL hR => ?_
  have hd : ∀ d, Nat.blt d 8 = true → d < Γ.N := fun d h => by rw [hN]; exact Nat.le_of_ble_eq_true h
  refine jc_seq ?_; refine jc_region ?_; refine jo_h (hy_box (id := 0) (n := 2) rfl rfl rfl (by decide) rfl) (hd 1 rfl) ?_; refine jo_h (hy_alloc (id := 1) zero30 (by decide) rfl (by decide) rfl) (hd 2 rfl) ?_; refine jo_l (ly_as rfl) (hd 3 rfl) ?_; refine jo_nil ?_; refine jc_seq ?_; refine jc_region ?_; refine jo_l (ly_lda agg30 rfl rfl rfl rfl) (hd 4 rfl) ?_
  refine jo_callN Tryd.f42 (inverted_n sa a v la ua ev hv) (fun o G ⟨_, h⟩ => h ▸ idless_cons ints_id idless_nil) rfl Tryd.func42 rfl rfl (ovL_cons rfl ovL_nil) (.cons (.a1 .b (.a1 .n .a0)) .nil) (hd 5 rfl) ?_ (fun ch G hp => by simp at hp)
  rintro y G ⟨hy, rfl⟩; injection hy with hy; subst hy
  show JO _ _ _ _ ((5, .t [.a [.b (decide ((-1 - v) < 0)), .o 2 0 0 (lm (-1 - v)).length], .i .i64 0]) :: _) _ _
  refine jo_l (ly_ext rfl rfl) (hd 6 rfl) ?_; refine jo_l (ly_ext rfl rfl) (hd 7 rfl) ?_; refine jo_st (sy_store rfl rfl rfl siz30 rfl rfl (Nat.le_of_ble_eq_true rfl)) ?_; refine jo_l (ly_as rfl) (hd 3 rfl) ?_; refine jo_nil ?_; refine jc_ret ?_
  refine ⟨[2], _, (.t [.a [.b (decide ((-1 - v) < 0)), .o 0 0 0 (lm (-1 - v)).length], .i .i64 0]), (.cons (ResV.cell agg30 rfl rfl rfl rfl) (.cons rfl .nil)), rfl, rfl, (by decide), (by first | exact idless_cons ints_id idless_nil | exact idless_cons rfl idless_nil), ?_⟩
  exact ⟨rfl, rfl⟩
end Go.Proofs.YtaogaegchagbfaaDoor.Vc

/- Contracts of surdref06.sign, Bit. -/
namespace Go.Proofs.YtaogaegchagbfaaDoor.Vc
open Go Go.RowKit
set_option maxHeartbeats 4000000 in
theorem zsign_s (v : Int) : Spec Tryd.prog 51 [.a [.b (decide (v < 0)), .n false .u64 (dg v)]] (fun o => o = .ret (.i .i64 ((sgN v : Nat) : Int))) := by
  refine spec_of' [(0, .a [.b (decide (v < 0)), .n false .u64 (dg v)])] rfl Tryd.func51 rfl (Nat.le_of_ble_eq_true rfl) fun Γ hN hds hL hR => ?_
  have hd : ∀ d, Nat.blt d 5 = true → d < Γ.N := fun d h => by rw [hN]; exact Nat.le_of_ble_eq_true h
  refine jc_seq ?_; refine jc_region ?_; refine jo_h (hy_box (id := 0) (n := 2) rfl rfl rfl (by decide) rfl) (hd 1 rfl) ?_; refine jo_l (ly_as rfl) (hd 2 rfl) ?_; refine jo_nil ?_; refine jc_seq ?_; refine jc_seq ?_; refine jc_region ?_; refine jo_l (ly_fa fld35_0 rfl rfl rfl) (hd 3 rfl) ?_; refine jo_l (ly_ld one4 rfl rfl rfl) (hd 4 rfl) ?_; refine jo_nil ?_
  refine jc_if rfl (fun h1 => ?_) (fun h1 => ?_)
  · refine jc_seq ?_; refine jc_region ?_; refine jo_l (ly_as rfl) (hd 2 rfl) ?_; refine jo_nil ?_; refine jc_ret ?_
    refine ⟨_, _, (.cons rfl .nil), .i, ?_⟩
    have h9 : v < 0 := by first | exact @h1 | exact of_decide_eq_true @h1
    unfold sgN; rw [if_pos h9]; rfl
  · refine jc_skip ?_; refine jc_seq ?_; refine jc_region ?_; refine jo_l (ly_as rfl) (hd 2 rfl) ?_; refine jo_nil ?_; refine jc_ret ?_
    refine ⟨_, _, (.cons rfl .nil), .i, ?_⟩
    have h9 : ¬ v < 0 := by first | exact @h1 | exact of_decide_eq_false @h1
    unfold sgN; rw [if_neg h9]; rfl

theorem rInt_1 : Spec Tryd.prog 47 [.i .i64 1] (fun o => o = .ret (.n false .u64 (digs B32 1))) := by
  have h := rInt_s 1 (by decide) (by decide)
  rwa [show trm (dig [(1 : Int)]) = digs B32 1 from rInt_v (v := 1) (by decide)] at h
theorem dg_tw {v : Int} (h : 0 ≤ v) : dg v = digs B32 (tw v) := by rw [tw_p h, digs_dg h]
theorem dg_tw1 {v : Int} (h : v < 0) : dg v = digs B32 (tw v + 1) := by
  rw [tw_n h]
  show digs B32 v.natAbs = _
  congr 1
  omega

set_option maxHeartbeats 4000000 in
theorem zBit_p (v : Int) (i : Nat) (hl : (dg v).length < 4294967296) (hi : i < 9223372036854775808) (h0 : 0 ≤ v) : Spec Tryd.prog 15 [.a [.b (decide (v < 0)), .n false .u64 (dg v)], .i .i64 (i : Int)] (fun o => o = .ret (.i .i64 ((bitN v i : Nat) : Int))) := by
  refine spec_of' [(0, .a [.b (decide (v < 0)), .n false .u64 (dg v)]), (1, .i .i64 (i : Int))] rfl Tryd.func15 rfl (Nat.le_of_ble_eq_true rfl) fun Γ hN hds hL hR => ?_
  have hd : ∀ d, Nat.blt d 19 = true → d < Γ.N := fun d h => by rw [hN]; exact Nat.le_of_ble_eq_true h
  have hdt := dg_tw h0
  have hBi : Spec Tryd.prog 32 [.n false .u64 (dg v), .i .i64 (i : Int)] (fun o => o = .ret (.i .i64 ((bitN v i : Nat) : Int))) := by have h := Bit_s (tw v) i (by rw [← hdt]; exact Nat.lt_trans hl (by decide)) hi; rw [show bitN v i = tw v / 2 ^ i % 2 from by unfold bitN; rw [if_neg (by omega)], hdt]; exact h
  refine jc_seq ?_; refine jc_region ?_; refine jo_h (hy_box (id := 0) (n := 2) rfl rfl rfl (by decide) rfl) (hd 2 rfl) ?_; refine jo_l (ly_as rfl) (hd 4 rfl) ?_; refine jo_nil ?_; refine jc_seq ?_; refine jc_seq ?_; refine jc_region ?_; refine jo_l (ly_fa fld35_0 rfl rfl rfl) (hd 5 rfl) ?_; refine jo_l (ly_ff (ly_ld one4 rfl rfl rfl) (by omega)) (hd 6 rfl) ?_; refine jo_l (ly_not rfl) (hd 7 rfl) ?_; refine jo_nil ?_; refine jc_litt rfl ?_; refine jc_seq ?_; refine jc_region ?_; refine jo_l (ly_fa fld35_1 rfl rfl rfl) (hd 8 rfl) ?_; refine jo_l (ly_ld one33 rfl rfl rfl) (hd 9 rfl) ?_; refine jo_l (ly_mv rfl) (hd 10 rfl) ?_
  refine jo_call Tryd.f32 (hBi) rfl Tryd.func32 rfl rfl (ovL_cons rfl (ovL_cons rfl ovL_nil)) (.cons .n (.cons .i .nil)) (hd 11 rfl) ?_ (fun ch hp => by simp at hp)
  rintro y hy; injection hy with hy; subst hy; refine jo_l (ly_as rfl) (hd 4 rfl) ?_; refine jo_nil ?_; refine jc_ret ?_
  refine ⟨_, _, (.cons rfl .nil), .i, ?_⟩
  exact rfl

set_option maxHeartbeats 4000000 in
theorem zBit_n (v : Int) (i : Nat) (hl : (dg v).length < 4294967296) (hi : i < 9223372036854775808) (h0 : v < 0) : Spec Tryd.prog 15 [.a [.b (decide (v < 0)), .n false .u64 (dg v)], .i .i64 (i : Int)] (fun o => o = .ret (.i .i64 ((bitN v i : Nat) : Int))) := by
  refine spec_of' [(0, .a [.b (decide (v < 0)), .n false .u64 (dg v)]), (1, .i .i64 (i : Int))] rfl Tryd.func15 rfl (Nat.le_of_ble_eq_true rfl) fun Γ hN hds hL hR => ?_
  have hd : ∀ d, Nat.blt d 19 = true → d < Γ.N := fun d h => by rw [hN]; exact Nat.le_of_ble_eq_true h
  have hdt := dg_tw1 h0
  have hm2 := Nat.mod_lt (tw v / 2 ^ i) (show 0 < 2 by decide)
  have hl1 : (digs B32 (tw v + 1)).length < 1099511627776 := by rw [← hdt]; exact Nat.lt_trans hl (by decide)
  have hl0 : (digs B32 (tw v)).length < 1099511627776 := Nat.lt_of_le_of_lt (digs_mono (b := B32) (by decide) _ _ (Nat.le_succ _)) hl1
  have hSb : Spec Tryd.prog 46 [.n false .u64 (dg v), .n false .u64 (digs B32 1)] (fun o => o = .ret (.n false .u64 (digs B32 (tw v)))) := by have h := rSub_s (tw v + 1) 1 (by omega) hl1 (by decide +kernel); rw [hdt]; rwa [Nat.add_sub_cancel] at h
  refine jc_seq ?_; refine jc_region ?_; refine jo_h (hy_box (id := 0) (n := 2) rfl rfl rfl (by decide) rfl) (hd 2 rfl) ?_; refine jo_l (ly_as rfl) (hd 4 rfl) ?_; refine jo_nil ?_; refine jc_seq ?_; refine jc_seq ?_; refine jc_region ?_; refine jo_l (ly_fa fld35_0 rfl rfl rfl) (hd 5 rfl) ?_; refine jo_l (ly_tt (ly_ld one4 rfl rfl rfl) (by omega)) (hd 6 rfl) ?_; refine jo_l (ly_not rfl) (hd 7 rfl) ?_; refine jo_nil ?_; refine jc_litf rfl ?_; refine jc_skip ?_; refine jc_seq ?_; refine jc_draw (n := 8) _ rfl mixed ?_; refine ja_l2 0 [1, 3, 5, 6, 7] (lo_l (ly_fa fld35_1 rfl rfl rfl) (hd 12 rfl)) rfl (by kernel_rfl) (by kernel_rfl) (by kernel_rfl) (by kernel_rfl) (fun _ _ _ _ h => h) ?_; refine ja_l2 1 [3, 5, 6, 7] (lo_l (ly_ld one33 rfl rfl rfl) (hd 13 rfl)) rfl (by kernel_rfl) (by kernel_rfl) (by kernel_rfl) (by kernel_rfl) (fun _ _ _ _ h => h) ?_; refine ja_l2 4 [5, 6, 7] (lo_l (ly_mv rfl) (hd 16 rfl)) rfl (by kernel_rfl) (by kernel_rfl) (by kernel_rfl) (by kernel_rfl) (fun _ _ _ _ h => h) ?_
  refine ja_1 2 ?_ rfl (by kernel_rfl)
  refine js_call Tryd.f47 (rInt_1) rfl Tryd.func47 rfl rfl (ovL_cons rfl ovL_nil) (.cons .i .nil) (hd 14 rfl) ?_ (fun ch hp => by simp at hp)
  rintro y hy; injection hy with hy; subst hy
  refine ja_1 3 ?_ rfl (by kernel_rfl)
  refine js_call Tryd.f46 (hSb) rfl Tryd.func46 rfl rfl (ovL_cons rfl (ovL_cons rfl ovL_nil)) (.cons .n (.cons .n .nil)) (hd 15 rfl) ?_ (fun ch hp => by simp at hp)
  rintro y hy; injection hy with hy; subst hy
  refine ja_1 5 ?_ rfl (by kernel_rfl)
  refine js_call Tryd.f32 (Bit_s (tw v) i hl0 hi) rfl Tryd.func32 rfl rfl (ovL_cons rfl (ovL_cons rfl ovL_nil)) (.cons .n (.cons .i .nil)) (hd 17 rfl) ?_ (fun ch hp => by simp at hp)
  rintro y hy; injection hy with hy; subst hy; refine ja_l 6 (lo_l (ly_sub rfl rfl (r := 1 - ((tw v / 2 ^ i % 2 : Nat) : Int)) (wrap_i64 (by omega) (by omega))) (hd 18 rfl)) rfl (by kernel_rfl) (by kernel_rfl) (by kernel_rfl) (fun _ _ _ _ h => h) ?_; refine ja_l 7 (lo_l (ly_as rfl) (hd 4 rfl)) rfl (by kernel_rfl) (by kernel_rfl) (by kernel_rfl) (fun _ _ _ _ h => h) ?_; refine ja_nil (by kernel_rfl) ?_; refine jc_ret ?_
  refine ⟨_, _, (.cons rfl .nil), .i, ?_⟩
  rw [show ((bitN v i : Nat) : Int) = 1 - ((tw v / 2 ^ i % 2 : Nat) : Int) from by unfold bitN; rw [if_pos h0]; omega]

theorem zBit_s (v : Int) (i : Nat) (hl : (dg v).length < 4294967296) (hi : i < 9223372036854775808) : Spec Tryd.prog 15 [.a [.b (decide (v < 0)), .n false .u64 (dg v)], .i .i64 (i : Int)] (fun o => o = .ret (.i .i64 ((bitN v i : Nat) : Int))) := by
  by_cases h0 : v < 0
  · exact zBit_n v i hl hi h0
  · exact zBit_p v i hl hi (by omega)
end Go.Proofs.YtaogaegchagbfaaDoor.Vc
