/- The card of the law WholeSymbols of surdlaw06: it returns true for every two whole numbers of bulk at most 1048576 where the table of math/bits lies as the program lays it Texts joined: Pr, Za, Ub, Uc, Ud, Ue, Uf, RSymbols. -/
import Derived.Test.YtaogaegchagbfaaDoorK6
import Derived.Test.YtaogaegchagbfaaDoorRows
import Derived.Test.YtaogaegchagbfaaDoorCards
import Derived.Test.YtaogaegchagbfaaDoorTie
import Derived.WalkKit
import Derived.Deep.DeepHandedRow
import Derived.Lib.LaidTab
import Derived.ProofKit
import Derived.OpenShut
import Derived.Carry
import Derived.JoinedCond
set_option linter.unusedVariables false
set_option linter.unusedSimpArgs false
/- Noughts at the end, Jacobi's symbol by its steps, in plain Lean. -/
namespace Go.Proofs.YtaogaegchagbfaaDoor.Vc
open Go Go.RowKit
def tz (x : Nat) : Nat := if h : x = 0 ∨ x % 2 = 1 then 0 else tz (x / 2) + 1
termination_by x
decreasing_by omega
theorem tz_0 : tz 0 = 0 := by rw [tz]; simp
theorem tz_odd {x : Nat} (h : x % 2 = 1) : tz x = 0 := by rw [tz, dif_pos (.inr h)]
theorem tz_even {x : Nat} (h0 : x ≠ 0) (h : x % 2 = 0) : tz x = tz (x / 2) + 1 := by rw [tz, dif_neg (by omega)]
theorem tz_spec {x : Nat} (h0 : 0 < x) : ∃ j, x = 2 ^ tz x * (2 * j + 1) := by
  induction x using Nat.strongRecOn with
  | _ x ih =>
    rcases Nat.mod_two_eq_zero_or_one x with h | h
    · obtain ⟨j, hj⟩ := ih (x / 2) (by omega) (by omega)
      refine ⟨j, ?_⟩
      rw [tz_even (by omega) h, Nat.pow_succ, Nat.mul_comm _ 2, Nat.mul_assoc, ← hj]
      omega
    · exact ⟨x / 2, by rw [tz_odd h]; omega⟩
theorem tz_is {k j : Nat} : tz (2 ^ k * (2 * j + 1)) = k := by
  induction k with
  | zero => exact tz_odd (by omega)
  | succ k ih =>
    have hp : 0 < 2 ^ k * (2 * j + 1) := Nat.mul_pos (Nat.pow_pos (by decide)) (by omega)
    have e : 2 ^ (k + 1) * (2 * j + 1) = 2 * (2 ^ k * (2 * j + 1)) := by rw [Nat.pow_succ, Nat.mul_comm _ 2, Nat.mul_assoc]
    rw [e, tz_even (by omega) (by omega), show 2 * (2 ^ k * (2 * j + 1)) / 2 = 2 ^ k * (2 * j + 1) by omega, ih]
theorem tz_le {x : Nat} (h0 : 0 < x) : 2 ^ tz x ≤ x := by
  obtain ⟨j, hj⟩ := tz_spec h0
  have h1 : 2 ^ tz x * 1 ≤ 2 ^ tz x * (2 * j + 1) := Nat.mul_le_mul_left _ (by omega)
  rw [← hj] at h1
  omega
theorem tz_lt {x n : Nat} (h0 : 0 < x) (h : x < 2 ^ n) : tz x < n := by
  have h1 := tz_le h0
  rcases Nat.lt_or_ge (tz x) n with h2 | h2
  · exact h2
  · have := Nat.pow_le_pow_right (n := 2) (by decide) h2
    omega
/-- What is left behind the noughts at the end. -/
def od (x : Nat) : Nat := x / 2 ^ tz x
theorem od_mod {x : Nat} (h0 : 0 < x) : od x % 2 = 1 := by
  obtain ⟨j, hj⟩ := tz_spec h0
  unfold od
  have hp : 0 < 2 ^ tz x := Nat.pow_pos (by decide)
  have e : x / 2 ^ tz x = 2 * j + 1 := by
    generalize 2 ^ tz x = p at *
    rw [hj, Nat.mul_div_cancel_left _ hp]
  omega
theorem od_le {x : Nat} : od x ≤ x := Nat.div_le_self _ _
theorem od_odd {x : Nat} (h : x % 2 = 1) : od x = x := by unfold od; rw [tz_odd h, Nat.pow_zero, Nat.div_one]
theorem od_even {x : Nat} (h0 : x ≠ 0) (h : x % 2 = 0) : od x = od (x / 2) := by
  unfold od
  rw [tz_even h0 h, Nat.pow_succ, Nat.mul_comm, Nat.div_div_eq_div_mul]
def fl8 (m : Nat) (s : Int) : Int := if m % 8 = 3 ∨ m % 8 = 5 then -s else s
def fl4 (x m : Nat) (s : Int) : Int := if x % 4 = 3 ∧ m % 4 = 3 then -s else s
def flt (x m : Nat) (s : Int) : Int := if tz x % 2 = 1 then fl8 m s else s
/-- The symbol, by reciprocity. -/
def jf (x m : Nat) (s : Int) : Int := if h : x = 0 then (if m = 1 then s else 0) else jf (m % od x) (od x) (fl4 (od x) m (flt x m s))
termination_by x
decreasing_by
  have h1 := od_mod (x := x) (by omega)
  have h2 := @od_le x
  have h3 := Nat.mod_lt m (show 0 < od x by omega)
  omega
theorem jf_0 {m : Nat} {s : Int} : jf 0 m s = if m = 1 then s else 0 := by rw [jf]; simp
theorem jf_step {x m : Nat} {s : Int} (h : x ≠ 0) : jf x m s = jf (m % od x) (od x) (fl4 (od x) m (flt x m s)) := by rw [jf, dif_neg h]
theorem fl8_2 {m : Nat} {s : Int} : fl8 m (fl8 m s) = s := by unfold fl8; split <;> omega
theorem jf_odd {x m : Nat} {s : Int} (h : x % 2 = 1) : jf x m s = jf (m % x) x (fl4 x m s) := by
  rw [jf_step (by omega), od_odd h]
  unfold flt
  rw [tz_odd h, if_neg (by decide)]
theorem jf_even {x m : Nat} {s : Int} (h0 : x ≠ 0) (h : x % 2 = 0) : jf x m s = jf (x / 2) m (fl8 m s) := by
  rw [jf_step h0, jf_step (x := x / 2) (by omega), od_even h0 h]
  congr 1
  unfold flt
  rw [tz_even h0 h]
  rcases Nat.mod_two_eq_zero_or_one (tz (x / 2)) with h1 | h1
  · rw [if_pos (by omega), if_neg (by omega)]
  · rw [if_neg (by omega), if_pos h1, fl8_2]
theorem fl8_r {m : Nat} {s : Int} (h : s = 1 ∨ s = -1) : fl8 m s = 1 ∨ fl8 m s = -1 := by unfold fl8; split <;> omega
theorem fl4_r {x m : Nat} {s : Int} (h : s = 1 ∨ s = -1) : fl4 x m s = 1 ∨ fl4 x m s = -1 := by unfold fl4; split <;> omega
theorem flt_r {x m : Nat} {s : Int} (h : s = 1 ∨ s = -1) : flt x m s = 1 ∨ flt x m s = -1 := by
  unfold flt; split
  · exact fl8_r h
  · exact h
/-- The lowest 1 of a word. -/
theorem low_one {x : Nat} (h0 : 0 < x) (h : x < 2 ^ 64) : x &&& (2 ^ 64 - x) = 2 ^ tz x := by
  obtain ⟨j, hj⟩ := tz_spec h0
  apply Nat.eq_of_testBit_eq
  intro i
  have e : 2 ^ 64 - x = 2 ^ 64 - (x - 1 + 1) := by omega
  rw [Nat.testBit_and, e, Nat.testBit_two_pow_sub_succ (by omega), Nat.testBit_two_pow]
  generalize tz x = k at *
  have hp : 0 < 2 ^ k := Nat.pow_pos (by decide)
  rcases Nat.lt_trichotomy i k with h1 | h1 | h1
  · rw [hj, Nat.testBit_two_pow_mul]
    simp [show ¬ k ≤ i by omega, show ¬ k = i by omega]
  · subst h1
    have e1 : x - 1 = 2 ^ i * (2 * j) + (2 ^ i - 1) := by rw [hj, Nat.mul_add, Nat.mul_one]; omega
    rw [e1, Nat.testBit_two_pow_mul_add _ (by omega), if_neg (by omega), Nat.sub_self, hj, Nat.testBit_two_pow_mul]
    have hi : i < 64 := by
      rcases Nat.lt_or_ge i 64 with h2 | h2
      · exact h2
      · have h3 := Nat.pow_le_pow_right (n := 2) (by decide) h2
        have h4 : 2 ^ i * 1 ≤ 2 ^ i * (2 * j + 1) := Nat.mul_le_mul_left _ (by omega)
        omega
    simp [hi]
  · have e1 : x - 1 = 2 ^ k * (2 * j) + (2 ^ k - 1) := by rw [hj, Nat.mul_add, Nat.mul_one]; omega
    rw [e1, Nat.testBit_two_pow_mul_add _ (by omega), if_neg (by omega), hj, Nat.testBit_two_pow_mul]
    have e2 : (2 * j + 1).testBit (i - k) = (2 * j).testBit (i - k) := by
      obtain ⟨m, hm⟩ : ∃ m, i - k = m + 1 := ⟨i - k - 1, by omega⟩
      rw [hm, Nat.testBit_succ, Nat.testBit_succ]
      congr 1
      omega
    simp [show k ≤ i by omega, show ¬ k = i by omega, e2]
    intro h8 _; exact h8
def tzTab : List Int := [0, 1, 56, 2, 57, 49, 28, 3, 61, 58, 42, 50, 38, 29, 17, 4, 62, 47, 59, 36, 45, 43, 51, 22, 53, 39, 33, 30, 24, 18, 12, 5, 63, 55, 48, 27, 60, 41, 37, 16, 46, 35, 44, 21, 52, 32, 23, 11, 54, 26, 40, 15, 34, 20, 31, 10, 25, 14, 19, 9, 13, 8, 7, 6]
theorem tz_tabB : ((List.range 64).all fun k => Nat.blt (2 ^ k * 285870213051353865 % 18446744073709551616 / 288230376151711744) 64 && decide (tzTab.getD (2 ^ k * 285870213051353865 % 18446744073709551616 / 288230376151711744) 0 = Int.ofNat k)) = true := by decide +kernel
theorem tz_tab (k : Nat) (h : k < 64) : 2 ^ k * 285870213051353865 % 18446744073709551616 / 288230376151711744 < 64 ∧ tzTab.getD (2 ^ k * 285870213051353865 % 18446744073709551616 / 288230376151711744) 0 = (k : Int) := by
  have h1 := List.all_eq_true.1 tz_tabB k (List.mem_range.2 h)
  rw [Bool.and_eq_true] at h1
  exact ⟨Nat.le_of_ble_eq_true h1.1, of_decide_eq_true h1.2⟩
abbrev tzCells : List V := ints .u8 tzTab
theorem low_one' {x : Nat} (h0 : 0 < x) (h : x < 18446744073709551616) : x &&& (18446744073709551616 - x) = 2 ^ tz x := low_one h0 h
theorem getD_drop' {l : List Int} {k i : Nat} : (l.drop k).getD i 0 = l.getD (k + i) 0 := by
  rw [List.getD_eq_getElem?_getD, List.getD_eq_getElem?_getD, List.getElem?_drop]
theorem tz_p2 {x : Nat} (h0 : 0 < x) (h : x < 18446744073709551616) : tz x < 64 ∧ 2 ^ tz x < 18446744073709551616 := by
  have h1 : tz x < 64 := tz_lt h0 h
  have h2 := Nat.pow_lt_pow_right (a := 2) (by decide) h1
  exact ⟨h1, h2⟩
theorem ints_cell {l : List Int} {j : Nat} {v : Int} (h1 : j < l.length) (h2 : l.getD j 0 = v) : ((ints .u8 l).drop (j * 1))[0]? = some (V.i .u8 v) := by
  rw [List.getElem?_drop, Nat.mul_one, Nat.add_zero, ints_at, List.getElem?_eq_getElem h1]
  rw [List.getD_eq_getElem?_getD, List.getElem?_eq_getElem h1] at h2
  rw [← h2]; rfl
theorem tz_len : tzTab.length = 64 := by decide
theorem tz_cell {k : Nat} (h : k < 64) : (tzCells.drop (2 ^ k * 285870213051353865 % 18446744073709551616 / 288230376151711744 * 1))[0]? = some (.i .u8 (k : Int)) :=
  ints_cell (by rw [tz_len]; exact (tz_tab k h).1) (tz_tab k h).2
theorem and_nat {a b : Nat} (ha : a < 18446744073709551616) (hb : b < 18446744073709551616) : bitop .and .u64 (a : Int) (b : Int) = ((a &&& b : Nat) : Int) := by
  unfold bitop
  simp only [IntKind.bits]
  have e1 : (BitVec.ofInt 64 (a : Int)).toNat = a := by rw [BitVec.toNat_ofInt]; simp; omega
  have e2 : (BitVec.ofInt 64 (b : Int)).toNat = b := by rw [BitVec.toNat_ofInt]; simp; omega
  have e3 : (BitVec.ofInt 64 (a : Int) &&& BitVec.ofInt 64 (b : Int)).toNat = a &&& b := by rw [BitVec.toNat_and, e1, e2]
  show IntKind.u64.wrap (((BitVec.ofInt 64 (a : Int) &&& BitVec.ofInt 64 (b : Int)).toNat : Nat) : Int) = _
  rw [e3]
  have h := Nat.and_le_left (n := a) (m := b)
  exact wrap_u64 (by omega) (by omega)
theorem and_7 {a : Nat} (ha : a < 18446744073709551616) : bitop .and .u64 (a : Int) 7 = ((a % 8 : Nat) : Int) := by
  have h := and_nat (b := 7) ha (by decide)
  rw [show a &&& 7 = a % 8 from Nat.and_two_pow_sub_one_eq_mod a 3] at h
  exact h
theorem and_3 {a : Nat} (ha : a < 18446744073709551616) : bitop .and .u64 (a : Int) 3 = ((a % 4 : Nat) : Int) := by
  have h := and_nat (b := 3) ha (by decide)
  rw [show a &&& 3 = a % 4 from Nat.and_two_pow_sub_one_eq_mod a 2] at h
  exact h
theorem lm_low {x : Nat} : (lm (x : Int)).getD 0 0 = ((x % 18446744073709551616 : Nat) : Int) := by
  have h := row_at (lm_u (x : Int)) 0
  rw [vl_lm (Int.natCast_nonneg _), Nat.pow_zero, Nat.div_one] at h
  exact h
/-- The noughts at the end, limb by limb. -/
theorem tz_word {x r : Nat} (h0 : 0 < x) (h : x < 2 ^ 64) : tz (x + 2 ^ 64 * r) = tz x := by
  obtain ⟨j, hj⟩ := tz_spec h0
  have hk := tz_lt h0 h
  generalize tz x = k at *
  have e : x + 2 ^ 64 * r = 2 ^ k * (2 * (j + 2 ^ (63 - k) * r) + 1) := by
    have e1 : (2 : Nat) ^ 64 = 2 ^ k * (2 * 2 ^ (63 - k)) := by rw [← Nat.pow_succ', ← Nat.pow_add]; congr 1; omega
    rw [hj, e1, Nat.mul_assoc, ← Nat.mul_add]
    congr 1
    rw [Nat.mul_add, Nat.mul_assoc]
    omega
  rw [e, tz_is]
theorem tz_zero {y : Nat} (h0 : 0 < y) : tz (2 ^ 64 * y) = 64 + tz y := by
  obtain ⟨j, hj⟩ := tz_spec h0
  have e : 2 ^ 64 * y = 2 ^ (64 + tz y) * (2 * j + 1) := by rw [Nat.pow_add, Nat.mul_assoc, ← hj]
  rw [e, tz_is]
theorem tail_val : ∀ {l : List Int} {i : Nat}, u64s l → i < l.length → (∀ j < i, l.getD j 0 = 0) → l.getD i 0 ≠ 0 → tz (vl l).toNat = 64 * i + tz (l.getD i 0).toNat
  | [], i, _, hi, _, _ => by simp at hi
  | y :: l, 0, hu, _, _, hx => by
    have hy := hu y (List.mem_cons_self ..)
    have hl := vl_nonneg fun z hz => hu z (List.mem_cons_of_mem _ hz)
    have hx' : y ≠ 0 := hx
    have e : (vl (y :: l)).toNat = y.toNat + 2 ^ 64 * (vl l).toNat := by
      simp only [vl]
      have hB : Bs = 18446744073709551616 := rfl
      rw [hB]
      omega
    rw [e, tz_word (by omega) (by omega)]
    show _ = 64 * 0 + tz y.toNat
    omega
  | y :: l, i + 1, hu, hi, hz, hx => by
    have hy : y = 0 := hz 0 (by omega)
    have hu' : u64s l := fun z hzm => hu z (List.mem_cons_of_mem _ hzm)
    have hl := vl_nonneg hu'
    have hi' : i < l.length := by simpa using hi
    have hxi : l.getD i 0 ≠ 0 := hx
    have ih := tail_val (l := l) (i := i) hu' hi' (fun j hj => hz (j + 1) (by omega)) hxi
    have hp : 0 < (vl l).toNat := by
      rcases Nat.eq_zero_or_pos (vl l).toNat with h0 | h0
      · have h1 := row_at hu' i
        rw [h0] at h1
        simp at h1
        exact absurd h1 hxi
      · exact h0
    have e : (vl (y :: l)).toNat = 2 ^ 64 * (vl l).toNat := by
      simp only [vl]
      have hB : Bs = 18446744073709551616 := rfl
      rw [hB, hy]
      omega
    rw [e, tz_zero hp, ih]
    show _ = 64 * (i + 1) + tz (l.getD i 0).toNat
    omega
theorem tail_none {l : List Int} (hu : u64s l) (hz : ∀ j < l.length, l.getD j 0 = 0) : vl l = 0 := by
  induction l with
  | nil => rfl
  | cons y l ih =>
    have hy : y = 0 := hz 0 (by simp)
    have h := ih (fun z hzm => hu z (List.mem_cons_of_mem _ hzm)) fun j hj => hz (j + 1) (by simpa using hj)
    simp only [vl]
    rw [hy, h]
    rfl
/-- Shifted to the right, whatever falls off. -/
theorem dn_floor {a : List Int} {s : Nat} (hs : s ≤ 64) (hu : u64s a) : vl (dnN a s a.length) = vl a / 2 ^ s := by
  have h1 := dnN_val (a := a) hs a.length
  rw [vk_all (Nat.le_refl _), getD_ge (Nat.le_refl _), Int.zero_emod, Int.mul_zero] at h1
  have hp := p2pos s
  have h2 : 0 ≤ a.getD 0 0 % 2 ^ s := Int.emod_nonneg _ (Int.ne_of_gt hp)
  have h3 : a.getD 0 0 % 2 ^ s < 2 ^ s := Int.emod_lt_of_pos _ hp
  have e : vl a = a.getD 0 0 % 2 ^ s + 2 ^ s * vl (dnN a s a.length) := by omega
  rw [e, Int.add_mul_ediv_left _ _ (Int.ne_of_gt hp), Int.ediv_eq_zero_of_lt h2 h3, Int.zero_add]
theorem drop_val {l : List Int} {k : Nat} (hu : u64s l) (hk : k ≤ l.length) : vl (l.drop k) = vl l / pB k := by
  have ht : u64s (l.take k) := fun z hz => hu z (List.mem_of_mem_take hz)
  have e : vl l = vl (l.take k) + pB k * vl (l.drop k) := by
    have h := vl_app (l.take k) (l.drop k)
    rw [List.take_append_drop, List.length_take, Nat.min_eq_left hk] at h
    exact h
  have h2 := vl_nonneg ht
  have h3 := vl_lt ht
  rw [List.length_take, Nat.min_eq_left hk] at h3
  have hp := pB_pos k
  rw [e, Int.add_mul_ediv_left _ _ (Int.ne_of_gt hp), Int.ediv_eq_zero_of_lt h2 h3, Int.zero_add]
theorem u64s_drop' {l : List Int} {k : Nat} (hu : u64s l) : u64s (l.drop k) := fun z hz => hu z (List.mem_of_mem_drop hz)
theorem right_val {x n : Nat} (h : n / 64 ≤ (lm (x : Int)).length) : vl (dnN ((lm (x : Int)).drop (n / 64)) (n % 64) ((lm (x : Int)).drop (n / 64)).length) = ((x / 2 ^ n : Nat) : Int) := by
  rw [dn_floor (by omega) (u64s_drop' (lm_u _)), drop_val (lm_u _) h, vl_lm (Int.natCast_nonneg _), pB_pow, ← p2cast]
  rw [Int.ediv_ediv_of_nonneg (Int.natCast_nonneg _), ← Int.natCast_mul, ← Nat.pow_add, Nat.div_add_mod]
  rfl
/-- Shifted to the right in digits of 32 bits. -/
theorem shr_digit {x n i s : Nat} (hs : n % 32 = s) : ((x / B32 ^ (i + n / 32) % B32 : Nat) + (x / B32 ^ (i + n / 32 + 1) % B32) * 4294967296) / 2 ^ s % 4294967296 = x / 2 ^ n / B32 ^ i % B32 := by
  have e1 : x / 2 ^ n / B32 ^ i = x / B32 ^ (i + n / 32) / 2 ^ s := by
    rw [Nat.div_div_eq_div_mul, Nat.div_div_eq_div_mul]
    congr 1
    rw [show B32 = 2 ^ 32 from rfl, ← Nat.pow_mul, ← Nat.pow_mul, ← Nat.pow_add, ← Nat.pow_add]
    congr 1
    omega
  rw [e1, Nat.pow_succ, ← Nat.div_div_eq_div_mul]
  generalize x / B32 ^ (i + n / 32) = y
  have hs' : s < 32 := by omega
  have e2 : y % B32 + y / B32 % B32 * 4294967296 = y % 2 ^ 64 := by
    have hB : B32 = 4294967296 := rfl
    rw [hB]
    omega
  rw [e2]
  have e3 : y = y % 2 ^ 64 + 2 ^ s * (2 ^ (32 - s) * 4294967296 * (y / 2 ^ 64)) := by
    have h1 : 2 ^ s * (2 ^ (32 - s) * 4294967296 * (y / 2 ^ 64)) = 2 ^ 64 * (y / 2 ^ 64) := by
      rw [← Nat.mul_assoc, ← Nat.mul_assoc, ← Nat.pow_add, show s + (32 - s) = 32 by omega]
    omega
  have e4 : y / 2 ^ s = y % 2 ^ 64 / 2 ^ s + 2 ^ (32 - s) * 4294967296 * (y / 2 ^ 64) := by
    conv => lhs; rw [e3]
    rw [Nat.add_mul_div_left _ _ (Nat.pow_pos (by decide))]
  rw [e4, show 2 ^ (32 - s) * 4294967296 * (y / 2 ^ 64) = 4294967296 * (2 ^ (32 - s) * (y / 2 ^ 64)) by rw [Nat.mul_comm (2 ^ (32 - s)), Nat.mul_assoc], Nat.add_mul_mod_self_left]
theorem shr_out {x n : Nat} (h : (digs B32 x).length ≤ n / 32) : x / 2 ^ n = 0 := by
  refine Nat.div_eq_of_lt (Nat.lt_of_lt_of_le (lt_digs (b := B32) (by decide) x) ?_)
  generalize (digs B32 x).length = L at *
  rw [show B32 = 2 ^ 32 from rfl, ← Nat.pow_mul]
  exact Nat.pow_le_pow_right (by decide) (by omega)
theorem shr_lt {x n : Nat} (h : n / 32 ≤ (digs B32 x).length) : x / 2 ^ n < B32 ^ ((digs B32 x).length - n / 32) := by
  have h1 := lt_digs (b := B32) (by decide) x
  rw [Nat.div_lt_iff_lt_mul (Nat.pow_pos (by decide))]
  have h2 : ∀ L, n / 32 ≤ L → B32 ^ (L - n / 32) * 2 ^ n = B32 ^ L * 2 ^ (n % 32) := fun L hL => by
    rw [show B32 = 2 ^ 32 from rfl, ← Nat.pow_mul, ← Nat.pow_mul, ← Nat.pow_add, ← Nat.pow_add]
    congr 1
    omega
  rw [h2 _ h]
  have h3 : B32 ^ (digs B32 x).length * 1 ≤ B32 ^ (digs B32 x).length * 2 ^ (n % 32) := Nat.mul_le_mul_left _ (Nat.pow_pos (by decide))
  omega
end Go.Proofs.YtaogaegchagbfaaDoor.Vc

/- Contracts of mul.Mul told exactly, nat.Bit, div.limb, plus. -/
namespace Go.Proofs.YtaogaegchagbfaaDoor.Vc
open Go Go.RowKit
set_option maxHeartbeats 4000000 in
theorem Bit_r (l : List Int) (i : Nat) (hl : l.length < 1099511627776) (hu : u64s l) (hi : i < 1099511627776) : Spec Tryd.prog 43 [.n false .u64 l, .i .i64 (i : Int)] (fun o => o = .ret (.i .i64 (((vl l).toNat / 2 ^ i % 2 : Nat) : Int))) := by
  refine spec_of' [(0, .n false .u64 l), (1, .i .i64 (i : Int))] rfl Tryd.func43 rfl (Nat.le_of_ble_eq_true rfl) fun Γ hN hds hL hR => ?_
  have hd : ∀ d, Nat.blt d 25 = true → d < Γ.N := fun d h => by rw [hN]; exact Nat.le_of_ble_eq_true h
  have hm1 : ((vl l).toNat / 18446744073709551616 ^ (i / 64) % 18446744073709551616) < 18446744073709551616 := Nat.mod_lt _ (by decide)
  have hm2 : ((vl l).toNat / 18446744073709551616 ^ (i / 64) % 18446744073709551616) / 2 ^ (i % 64) ≤ ((vl l).toNat / 18446744073709551616 ^ (i / 64) % 18446744073709551616) := Nat.div_le_self _ _
  refine jc_seq ?_; refine jc_region ?_; refine jo_l (ly_as rfl) (hd 4 rfl) ?_; refine jo_nil ?_; refine jc_seq ?_; refine jc_seq ?_; refine jc_region ?_; refine jo_l (ly_mv rfl) (hd 5 rfl) ?_; refine jo_l (ly_ff (ly_lt rfl rfl) (by omega)) (hd 6 rfl) ?_; refine jo_l (ly_mv rfl) (hd 7 rfl) ?_; refine jo_g 7 rfl rfl (ly_mv rfl) (hd 8 rfl) ?_; refine jo_g 7 rfl rfl (ly_quo rfl rfl (by decide) (r := ((i / 64 : Nat) : Int)) (by rw [show ((i : Int).tdiv 64) = ((i / 64 : Nat) : Int) from rfl, wrap_i64 (by omega) (by omega)])) (hd 9 rfl) ?_; refine jo_g 7 rfl rfl (ly_mv rfl) (hd 10 rfl) ?_; refine jo_g 7 rfl rfl (ly_lenn sl28 rfl) (hd 11 rfl) ?_; refine jo_g 7 rfl rfl (ly_ge rfl rfl) (hd 12 rfl) ?_; refine jo_l (ly_pick_f rfl rfl) (hd 13 rfl) ?_; refine jo_nil ?_
  refine jc_if rfl (fun h1 => ?_) (fun h1 => ?_)
  · refine jc_seq ?_; refine jc_region ?_; refine jo_l (ly_as rfl) (hd 4 rfl) ?_; refine jo_nil ?_; refine jc_ret ?_
    refine ⟨_, _, (.cons rfl .nil), .i, ?_⟩
    rw [row_out hu (by omega)]
    rfl
  · refine jc_skip ?_; refine jc_seq ?_; refine jc_region ?_; refine jo_l (ly_mv rfl) (hd 14 rfl) ?_; refine jo_l (ly_mv rfl) (hd 15 rfl) ?_; refine jo_l (ly_quo rfl rfl (by decide) (r := ((i / 64 : Nat) : Int)) (by rw [show ((i : Int).tdiv 64) = ((i / 64 : Nat) : Int) from rfl, wrap_i64 (by omega) (by omega)])) (hd 16 rfl) ?_; refine jo_l (ly_ian (i := i / 64) sl28 rfl rfl (by first | rfl | omega) (by omega)) (hd 17 rfl) ?_; refine jo_l (ly_is (ly_ldq one82 rfl rfl) (by exact congrArg (V.i .u64) (row_at hu (i / 64)))) (hd 18 rfl) ?_; refine jo_l (ly_mv rfl) (hd 19 rfl) ?_; refine jo_l (ly_is (ly_rem rfl rfl (by decide) rfl) (show V.i .i64 ((i : Int).tmod 64) = V.i .i64 ((i % 64 : Nat) : Int) from rfl)) (hd 20 rfl) ?_; refine jo_l (ly_conv und3 und116 rfl (r := ((i % 64 : Nat) : Int)) (wrap_u64 (by omega) (by omega))) (hd 21 rfl) ?_; refine jo_l (ly_is (ly_shr rfl rfl (by omega) rfl) (by exact congrArg (V.i .u64) (shr_nat (k := 2 ^ (i % 64)) (by rw [Int.toNat_natCast, Nat.min_eq_left (by have h : IntKind.u64.bits = 64 := rfl; omega)])))) (hd 22 rfl) ?_; refine jo_l (ly_is (ly_bit (by simp) rfl rfl rfl) (by exact congrArg (V.i .u64) (and1 (by omega)))) (hd 23 rfl) ?_; refine jo_l (ly_conv und82 und3 rfl (r := ((((vl l).toNat / 18446744073709551616 ^ (i / 64) % 18446744073709551616) / 2 ^ (i % 64) % 2 : Nat) : Int)) (wrap_i64 (by omega) (by omega))) (hd 24 rfl) ?_; refine jo_l (ly_as rfl) (hd 4 rfl) ?_; refine jo_nil ?_; refine jc_ret ?_
    refine ⟨_, _, (.cons rfl .nil), .i, ?_⟩
    rw [bit_row]
end Go.Proofs.YtaogaegchagbfaaDoor.Vc

/- Contracts of TrailingZeros64, nat.Tail, Right, div.Rest. -/
namespace Go.Proofs.YtaogaegchagbfaaDoor.Vc
open Go Go.RowKit
set_option maxHeartbeats 4000000 in
theorem tz64_s (x : Nat) (h0 : 0 < x) (hx : x < 18446744073709551616) : SpecT Tryd.prog 80 0 tzCells [.i .u64 (x : Int)] (fun o => o = .ret (.i .i64 ((tz x : Nat) : Int))) := by
  refine specT_of [(0, .i .u64 (x : Int))] rfl Tryd.func80 rfl (Nat.le_of_ble_eq_true rfl) fun Γ hTb hN hds hL hR => ?_
  have hd : ∀ d, Nat.blt d 14 = true → d < Γ.N := fun d h => by rw [hN]; exact Nat.le_of_ble_eq_true h
  obtain ⟨hk, hp2⟩ := tz_p2 h0 hx
  have hj := (tz_tab _ hk).1
  refine jc_seq ?_; refine jc_region ?_; refine jo_l (ly_as rfl) (hd 2 rfl) ?_; refine jo_nil ?_; refine jc_seq ?_; refine jc_seq ?_; refine jc_region ?_; refine jo_l (ly_mv rfl) (hd 3 rfl) ?_; refine jo_l (ly_ff (ly_eq rfl rfl) (by omega)) (hd 4 rfl) ?_; refine jo_nil ?_; refine jc_litf rfl ?_; refine jc_skip ?_; refine jc_seq ?_; refine jc_region ?_; refine jo_l (ly_mv rfl) (hd 5 rfl) ?_; refine jo_l (ly_mv rfl) (hd 6 rfl) ?_; refine jo_l (ly_neg rfl (r := ((18446744073709551616 - x : Nat) : Int)) (by rw [u64_wrap_mod]; omega)) (hd 7 rfl) ?_; refine jo_l (ly_is (ly_bit (by simp) rfl rfl rfl) (by show V.i .u64 _ = V.i .u64 (((2 ^ tz x : Nat) : Int)); exact congrArg (V.i .u64) (by rw [and_nat hx (by omega), low_one' h0 hx]))) (hd 8 rfl) ?_; refine jo_l (ly_mul rfl rfl (r := ((2 ^ tz x * 285870213051353865 % 18446744073709551616) : Nat)) (by rw [u64_wrap_mod]; rfl)) (hd 9 rfl) ?_; refine jo_l (ly_is (ly_shr rfl rfl (by decide) rfl) (by show V.i .u64 _ = V.i .u64 ((((2 ^ tz x * 285870213051353865 % 18446744073709551616 / 288230376151711744) : Nat) : Int)); exact congrArg (V.i .u64) (shr_nat (k := 288230376151711744) (by decide)))) (hd 10 rfl) ?_; refine jo_l (ly_iatab (sz := 1) (i := (2 ^ tz x * 285870213051353865 % 18446744073709551616 / 288230376151711744)) hL hTb ar1109 rfl rfl hj rfl) (hd 11 rfl) ?_; refine jo_l (ly_ldqz one5 rfl (tz_cell hk) rfl) (hd 12 rfl) ?_; refine jo_l (ly_conv und5 und3 rfl (r := ((tz x : Nat) : Int)) (wrap_i64 (by omega) (by omega))) (hd 13 rfl) ?_; refine jo_l (ly_as rfl) (hd 2 rfl) ?_; refine jo_nil ?_; refine jc_ret ?_
  refine ⟨_, _, (.cons rfl .nil), .i, ?_⟩
  exact rfl

set_option maxHeartbeats 4000000 in
theorem nTail_s (l : List Int) (hl : l.length < 4294967296) (hu : u64s l) : SpecT Tryd.prog 45 0 tzCells [.n false .u64 l] (fun o => o = .ret (.i .i64 ((tz (vl l).toNat : Nat) : Int))) := by
  refine specT_of [(0, .n false .u64 l)] rfl Tryd.func45 rfl (Nat.le_of_ble_eq_true rfl) fun Γ hTb hN hds hL hR => ?_
  have hd : ∀ d, Nat.blt d 20 = true → d < Γ.N := fun d h => by rw [hN]; exact Nat.le_of_ble_eq_true h
  refine jc_seq ?_; refine jc_region ?_; refine jo_l (ly_as rfl) (hd 2 rfl) ?_; refine jo_nil ?_; refine jc_seq ?_; refine jc_seq ?_; refine jc_region ?_; refine jo_l (ly_mv rfl) (hd 5 rfl) ?_; refine jo_l (ly_lenn sl28 rfl) (hd 6 rfl) ?_; refine jo_l (ly_mv rfl) (hd 7 rfl) ?_; refine jo_nil ?_; refine jc_block ?_
  refine jc_loopF (G := Nat) (fun i => i ≤ l.length ∧ ∀ j < i, l.getD j 0 = 0) (fun i => [(7, .i .i64 (i : Int)), (2, .u), (3, .u), (4, .u), (8, .u), (9, .u), (10, .u), (11, .u), (12, .u), (13, .u), (14, .u), (15, .u), (16, .u), (17, .u), (18, .u), (19, .u)]) (fun _ => _) (fun i => l.length - i) 0 ?_ ?_ rfl ?_
  · exact ⟨Nat.zero_le _, fun j h => absurd h (Nat.not_lt_zero _)⟩
  · exact (.cons rfl (.u (.u (.u (.u (.u (.u (.u (.u (.u (.u (.u (.u (.u (.u (.u .nil))))))))))))))))
  · rintro i ⟨hi, hj⟩
    have hxi := u64s_getD hu i
    refine jc_seq ?_; refine jc_region ?_; refine jo_l (ly_lt rfl rfl) (hd 8 rfl) ?_; refine jo_nil ?_; refine jc_seq ?_
    refine jc_if rfl (fun h1 => ?_) (fun h1 => ?_)
    · refine jc_skip ?_; refine jc_seq ?_; refine jc_block ?_; refine jc_seq ?_; refine jc_region ?_; refine jo_l (ly_mv rfl) (hd 9 rfl) ?_; refine jo_l (ly_ian (i := i) sl28 rfl rfl (by first | rfl | omega) (by omega)) (hd 10 rfl) ?_; refine jo_l (ly_ldq one82 rfl rfl) (hd 11 rfl) ?_; refine jo_l (ly_as rfl) (hd 3 rfl) ?_; refine jo_l (ly_as rfl) (hd 4 rfl) ?_; refine jo_nil ?_; refine jc_seq ?_; refine jc_region ?_; refine jo_l (ly_mv rfl) (hd 12 rfl) ?_; refine jo_l (ly_ne rfl rfl) (hd 13 rfl) ?_; refine jo_nil ?_
      refine jc_if rfl (fun h2 => ?_) (fun h2 => ?_)
      · have hx0 : l.getD i 0 ≠ 0 := h2
        have hil : i < l.length := by omega
        have hkk := tz_p2 (x := (l.getD i 0).toNat) (by omega) (by omega)
        have hTz : SpecT Tryd.prog 80 0 tzCells [.i .u64 (l.getD i 0)] (fun o => o = .ret (.i .i64 ((tz (l.getD i 0).toNat : Nat) : Int))) := by have h := tz64_s (l.getD i 0).toNat (by omega) (by omega); rwa [Int.toNat_of_nonneg (by omega)] at h
        refine jc_seq ?_; refine jc_region ?_; refine jo_l (ly_mv rfl) (hd 14 rfl) ?_; refine jo_l (ly_mul rfl rfl (r := ((64 * i : Nat) : Int)) (by rw [wrap_i64 (by omega) (by omega)]; omega)) (hd 15 rfl) ?_; refine jo_l (ly_mv rfl) (hd 16 rfl) ?_
        refine jo_callT Tryd.f80 (hTz) hL hTb rfl Tryd.func80 rfl rfl (ovL_cons rfl ovL_nil) (.cons .i .nil) (hd 17 rfl) ?_ (fun ch hp => by simp at hp)
        rintro y hy; injection hy with hy; subst hy; refine jo_l (ly_add rfl rfl (r := ((64 * i + tz (l.getD i 0).toNat : Nat) : Int)) (by rw [wrap_i64 (by omega) (by omega)]; omega)) (hd 18 rfl) ?_; refine jo_l (ly_as rfl) (hd 2 rfl) ?_; refine jo_nil ?_; refine jc_ret ?_
        refine ⟨_, _, (.cons rfl .nil), .i, ?_⟩
        rw [tail_val hu hil hj hx0]
      · have hx0 : l.getD i 0 = 0 := Decidable.not_not.1 h2
        refine jc_skip ?_; refine jc_region ?_; refine jo_l (ly_add rfl rfl (r := ((i + 1 : Nat) : Int)) (by rw [wrap_i64 (by omega) (by omega)]; omega)) (hd 19 rfl) ?_; refine jo_l (ly_mv rfl) (hd 7 rfl) ?_; refine jo_nil ?_
        refine ⟨i + 1, ?_, ?_, rfl, cov_n 26 rfl rfl ?_⟩
        · exact ⟨by omega, fun j hjj => by rcases Nat.lt_or_ge j i with h9 | h9; exact hj j h9; rw [show j = i by omega]; exact hx0⟩
        · omega
        · exact (.cons rfl (.u (.u (.u (.u (.u (.u (.u (.u (.u (.u (.u (.u (.u (.u (.u .nil))))))))))))))))
    · obtain rfl : i = l.length := by omega
      refine jc_exit ?_; refine jc_seq ?_; refine jc_region ?_; refine jo_l (ly_as rfl) (hd 2 rfl) ?_; refine jo_nil ?_; refine jc_ret ?_
      refine ⟨_, _, (.cons rfl .nil), .i, ?_⟩
      rw [tail_none hu hj, show (Int.toNat 0) = 0 from rfl, tz_0]; rfl

set_option maxHeartbeats 4000000 in
theorem Right_v (x n : Nat) (hx : lenV (x : Int) ≤ 67108864) (hn : n / 64 < (lm (x : Int)).length) : Spec Tryd.prog 67 [.n false .u64 (lm (x : Int)), .i .i64 (n : Int)] (fun o => o = .ret (.t [.n false .u64 (lm ((x / 2 ^ n : Nat) : Int)), .i .i64 0])) := by
  refine spec_of' [(0, .n false .u64 (lm (x : Int))), (1, .i .i64 (n : Int))] rfl Tryd.func67 rfl (Nat.le_of_ble_eq_true rfl) fun Γ hN hds hL hR => ?_
  have hd : ∀ d, Nat.blt d 77 = true → d < Γ.N := fun d h => by rw [hN]; exact Nat.le_of_ble_eq_true h
  have hlx := lenV_lm hx
  have uB : u64s ((lm (x : Int)).drop (n / 64)) := u64s_drop' (lm_u _)
  have hBl : ((lm (x : Int)).drop (n / 64)).length = (lm (x : Int)).length - n / 64 := List.length_drop
  have hs : n % 64 < 64 := Nat.mod_lt _ (by decide)
  have hTr : Spec Tryd.prog 87 [.n false .u64 (lm (x : Int))] (fun o => o = .ret (.n false .u64 (lm (x : Int)))) := by have h := trim_s (lm (x : Int)) (by omega); rwa [trm_id (lm_t _)] at h
  have hrv := right_val (x := x) (n := n) (by omega)
  have hlq : lenV ((x / 2 ^ n : Nat) : Int) ≤ 67108864 := Nat.le_trans (lenV_mono (by rw [Int.natAbs_natCast, Int.natAbs_natCast]; exact Nat.div_le_self _ _)) hx
  refine jc_seq ?_; refine jc_region ?_; refine jo_l (ly_as rfl) (hd 4 rfl) ?_; refine jo_l (ly_as rfl) (hd 5 rfl) ?_; refine jo_nil ?_; refine jc_seq ?_; refine jc_seq ?_; refine jc_region ?_; refine jo_l (ly_mv rfl) (hd 10 rfl) ?_; refine jo_l (ly_ff (ly_lt rfl rfl) (by omega)) (hd 11 rfl) ?_; refine jo_l (ly_mv rfl) (hd 12 rfl) ?_; refine jo_g 12 rfl rfl (ly_mv rfl) (hd 13 rfl) ?_; refine jo_g 12 rfl rfl (ly_ff (ly_gt rfl rfl) (by omega)) (hd 14 rfl) ?_; refine jo_l (ly_pick_f rfl rfl) (hd 15 rfl) ?_; refine jo_nil ?_; refine jc_litf rfl ?_; refine jc_skip ?_; refine jc_seq ?_; refine jc_region ?_; refine jo_l (ly_mv rfl) (hd 16 rfl) ?_
  refine jo_call Tryd.f87 (hTr) rfl Tryd.func87 rfl rfl (ovL_cons rfl ovL_nil) (.cons .n .nil) (hd 17 rfl) ?_ (fun ch hp => by simp at hp)
  rintro y hy; injection hy with hy; subst hy; refine jo_l (ly_as rfl) (hd 0 rfl) ?_; refine jo_nil ?_; refine jc_seq ?_; refine jc_region ?_; refine jo_l (ly_mv rfl) (hd 18 rfl) ?_; refine jo_l (ly_quo rfl rfl (by decide) (r := ((n / 64 : Nat) : Int)) (by rw [show ((n : Int).tdiv 64) = ((n / 64 : Nat) : Int) from rfl, wrap_i64 (by omega) (by omega)])) (hd 19 rfl) ?_; refine jo_l (ly_mv rfl) (hd 20 rfl) ?_; refine jo_l (ly_is (ly_rem rfl rfl (by decide) rfl) (show V.i .i64 ((n : Int).tmod 64) = V.i .i64 ((n % 64 : Nat) : Int) from rfl)) (hd 21 rfl) ?_; refine jo_l (ly_conv und3 und116 rfl (r := ((n % 64 : Nat) : Int)) (wrap_u64 (by omega) (by omega))) (hd 22 rfl) ?_; refine jo_l (ly_as rfl) (hd 6 rfl) ?_; refine jo_l (ly_as rfl) (hd 7 rfl) ?_; refine jo_nil ?_; refine jc_seq ?_; refine jc_seq ?_; refine jc_region ?_; refine jo_l (ly_mv rfl) (hd 23 rfl) ?_; refine jo_l (ly_mv rfl) (hd 24 rfl) ?_; refine jo_l (ly_lenn sl28 rfl) (hd 25 rfl) ?_; refine jo_l (ly_ff (ly_ge rfl rfl) (by omega)) (hd 26 rfl) ?_; refine jo_nil ?_; refine jc_litf rfl ?_; refine jc_skip ?_; refine jc_seq ?_; refine jc_region ?_; refine jo_l (ly_mv rfl) (hd 27 rfl) ?_; refine jo_l (ly_lenn sl28 rfl) (hd 28 rfl) ?_; refine jo_l (ly_mv rfl) (hd 29 rfl) ?_; refine jo_l (ly_sub rfl rfl (r := ((((lm (x : Int)).drop (n / 64)).length : Nat) : Int)) (by rw [wrap_i64 (by omega) (by omega)]; omega)) (hd 30 rfl) ?_; refine jo_h (hy_mk (m := ((lm (x : Int)).drop (n / 64)).length) el28 rfl rfl rfl (by show 8 * ((lm (x : Int)).drop (n / 64)).length ≤ _; omega) (by unfold maxLen; omega) rfl) (hd 31 rfl) ?_; refine jo_l (ly_as rfl) (hd 8 rfl) ?_; refine jo_nil ?_; refine jc_seq ?_; refine jc_seq ?_; refine jc_region ?_; refine jo_l (ly_mv rfl) (hd 32 rfl) ?_; refine jo_l (ly_leno sl28 rfl rfl) (hd 33 rfl) ?_; refine jo_l (ly_mv rfl) (hd 34 rfl) ?_; refine jo_nil ?_; refine jc_block ?_
  refine jc_loopF (G := Nat) (fun i => i ≤ ((lm (x : Int)).drop (n / 64)).length) (fun i => [(34, .i .i64 (i : Int)), (9, .u), (35, .u), (36, .u), (37, .u), (38, .u), (39, .u), (40, .u), (41, .u), (42, .u), (43, .u), (44, .u), (45, .u), (46, .u), (47, .u), (48, .u), (49, .u), (50, .u), (51, .u), (52, .u), (53, .u), (54, .u), (55, .u), (56, .u), (57, .u), (58, .u), (59, .u), (60, .u), (61, .u), (62, .u), (63, .u), (64, .u), (65, .u), (66, .u), (67, .u), (68, .u), (69, .u), (70, .u), (71, .u), (72, .u)]) (fun i => [⟨76, 1, 0, true, ints .u64 (fillI (dnN ((lm (x : Int)).drop (n / 64)) (n % 64) i) ((lm (x : Int)).drop (n / 64)).length)⟩]) (fun i => ((lm (x : Int)).drop (n / 64)).length - i) 0 ?_ ?_ rfl ?_
  · exact Nat.zero_le _
  · exact (.cons rfl (.u (.u (.u (.u (.u (.u (.u (.u (.u (.u (.u (.u (.u (.u (.u (.u (.u (.u (.u (.u (.u (.u (.u (.u (.u (.u (.u (.u (.u (.u (.u (.u (.u (.u (.u (.u (.u (.u (.u .nil))))))))))))))))))))))))))))))))))))))))
  · rintro i hc1
    have hf : (fillI (dnN ((lm (x : Int)).drop (n / 64)) (n % 64) i) ((lm (x : Int)).drop (n / 64)).length).length = ((lm (x : Int)).drop (n / 64)).length := fillI_len (by rw [dnN_len]; exact hc1)
    have hx0 := u64s_getD uB i
    have hy0 := u64s_getD uB (i + 1)
    refine jc_seq ?_; refine jc_region ?_; refine jo_l (ly_lt rfl rfl) (hd 35 rfl) ?_; refine jo_nil ?_; refine jc_seq ?_
    refine jc_if rfl (fun h3 => ?_) (fun h3 => ?_)
    · refine jc_skip ?_
      refine jc_meet (G := Unit) (fun _ => True) (fun _ => [(9, .u), (36, .u), (37, .u), (38, .u), (39, .u), (40, .u), (41, .u), (42, .u), (43, .u), (44, .u), (45, .u), (46, .u), (47, .u), (48, .u), (49, .u), (50, .u), (51, .u), (52, .u), (53, .u), (54, .u), (55, .u), (56, .u), (57, .u), (58, .u), (59, .u), (60, .u), (61, .u), (62, .u), (63, .u), (64, .u), (65, .u), (66, .u), (67, .u), (68, .u), (69, .u), (70, .u), (71, .u)]) (fun _ => [⟨76, 1, 0, true, ints .u64 (fillI (dnN ((lm (x : Int)).drop (n / 64)) (n % 64) (i + 1)) ((lm (x : Int)).drop (n / 64)).length)⟩]) ?_ ?_
      · refine jc_block ?_; refine jc_seq ?_; refine jc_region ?_; refine jo_l (ly_mv rfl) (hd 36 rfl) ?_; refine jo_l (ly_as rfl) (hd 9 rfl) ?_; refine jo_nil ?_; refine jc_seq ?_; refine jc_region ?_; refine jo_l (ly_mv rfl) (hd 37 rfl) ?_; refine jo_l (ly_mv rfl) (hd 38 rfl) ?_; refine jo_l (ly_mv rfl) (hd 39 rfl) ?_; refine jo_l (ly_mv rfl) (hd 40 rfl) ?_; refine jo_l (ly_mv rfl) (hd 41 rfl) ?_; refine jo_l (ly_add rfl rfl (r := ((n / 64 + i : Nat) : Int)) (by rw [wrap_i64 (by omega) (by omega)]; omega)) (hd 42 rfl) ?_; refine jo_l (ly_ian (i := n / 64 + i) sl28 rfl rfl (by first | rfl | omega) (by omega)) (hd 43 rfl) ?_; refine jo_l (ly_is (ly_ldq one82 rfl rfl) (by show V.i .u64 _ = V.i .u64 (((lm (x : Int)).drop (n / 64)).getD i 0); exact congrArg (V.i .u64) getD_drop'.symm)) (hd 44 rfl) ?_; refine jo_l (ly_mv rfl) (hd 45 rfl) ?_; refine jo_l (ly_is (ly_shr rfl rfl (by omega) rfl) (show V.i .u64 _ = V.i .u64 (((lm (x : Int)).drop (n / 64)).getD i 0 / 2 ^ (n % 64)) from congrArg (V.i .u64) (shr_sym (by omega)))) (hd 46 rfl) ?_; refine jo_l (ly_ia (i := i) sl28 rfl rfl rfl (by first | rfl | omega) (by omega) rfl) (hd 47 rfl) ?_; refine jo_st (sy_storei rfl rfl rfl one82 (by omega)) ?_; refine jo_nil ?_; refine jc_seq ?_; refine jc_region ?_; refine jo_l (ly_mv rfl) (hd 48 rfl) ?_; refine jo_l (ly_mv rfl) (hd 49 rfl) ?_; refine jo_l (ly_add rfl rfl (r := ((n / 64 + i : Nat) : Int)) (by rw [wrap_i64 (by omega) (by omega)]; omega)) (hd 50 rfl) ?_; refine jo_l (ly_add rfl rfl (r := ((n / 64 + i + 1 : Nat) : Int)) (by rw [wrap_i64 (by omega) (by omega)]; omega)) (hd 51 rfl) ?_; refine jo_l (ly_mv rfl) (hd 52 rfl) ?_; refine jo_l (ly_lenn sl28 rfl) (hd 53 rfl) ?_; refine jo_l (ly_lt rfl rfl) (hd 54 rfl) ?_; refine jo_nil ?_
        refine jc_if rfl (fun h4 => ?_) (fun h4 => ?_)
        · refine jc_draw (n := 18) _ rfl mixed ?_; refine ja_l2 0 [2, 3, 15, 16, 17] (lo_l (ly_mv rfl) (hd 55 rfl)) rfl (by kernel_rfl) (by kernel_rfl) (by kernel_rfl) (by kernel_rfl) (fun _ _ _ _ h => h) ?_; refine ja_l2 1 [2, 3, 15, 16, 17] (lo_l (ly_mv rfl) (hd 56 rfl)) rfl (by kernel_rfl) (by kernel_rfl) (by kernel_rfl) (by kernel_rfl) (fun _ _ _ _ h => h) ?_; refine ja_l2 2 [3, 15, 16, 17] (lo_l (ly_ia (i := i) sl28 rfl rfl rfl (by first | rfl | omega) (by omega) rfl) (hd 57 rfl)) rfl (by kernel_rfl) (by kernel_rfl) (by kernel_rfl) (by kernel_rfl) (fun _ _ _ _ h => h) ?_; refine ja_l 3 (lo_l (ly_is (ly_ldi one82 rfl rfl (by simp only [List.length_set]; omega)) (show V.i .u64 _ = V.i .u64 (((lm (x : Int)).drop (n / 64)).getD i 0 / 2 ^ (n % 64)) from congrArg (V.i .u64) (dnR_get (by omega)))) (hd 58 rfl)) rfl (by kernel_rfl) (by kernel_rfl) (by kernel_rfl) (fun _ _ _ _ h => h) ?_; refine ja_l2 4 [9, 10, 11, 14, 15, 16, 17] (lo_l (ly_mv rfl) (hd 59 rfl)) rfl (by kernel_rfl) (by kernel_rfl) (by kernel_rfl) (by kernel_rfl) (fun _ _ _ _ h => h) ?_; refine ja_l2 5 [7, 8, 9, 10, 11, 14, 15, 16, 17] (lo_l (ly_mv rfl) (hd 60 rfl)) rfl (by kernel_rfl) (by kernel_rfl) (by kernel_rfl) (by kernel_rfl) (fun _ _ _ _ h => h) ?_; refine ja_l2 6 [7, 8, 9, 10, 11, 14, 15, 16, 17] (lo_l (ly_mv rfl) (hd 61 rfl)) rfl (by kernel_rfl) (by kernel_rfl) (by kernel_rfl) (by kernel_rfl) (fun _ _ _ _ h => h) ?_; refine ja_l2 7 [8, 9, 10, 11, 14, 15, 16, 17] (lo_l (ly_add rfl rfl (r := ((n / 64 + i : Nat) : Int)) (by rw [wrap_i64 (by omega) (by omega)]; omega)) (hd 62 rfl)) rfl (by kernel_rfl) (by kernel_rfl) (by kernel_rfl) (by kernel_rfl) (fun _ _ _ _ h => h) ?_; refine ja_l2 8 [9, 10, 11, 14, 15, 16, 17] (lo_l (ly_add rfl rfl (r := ((n / 64 + i + 1 : Nat) : Int)) (by rw [wrap_i64 (by omega) (by omega)]; omega)) (hd 63 rfl)) rfl (by kernel_rfl) (by kernel_rfl) (by kernel_rfl) (by kernel_rfl) (fun _ _ _ _ h => h) ?_; refine ja_l2 9 [10, 11, 14, 15, 16, 17] (lo_l (ly_ian (i := n / 64 + i + 1) sl28 rfl rfl (by first | rfl | omega) (by omega)) (hd 64 rfl)) rfl (by kernel_rfl) (by kernel_rfl) (by kernel_rfl) (by kernel_rfl) (fun _ _ _ _ h => h) ?_; refine ja_l2 10 [11, 14, 15, 16, 17] (lo_l (ly_is (ly_ldq one82 rfl rfl) (by show V.i .u64 _ = V.i .u64 (((lm (x : Int)).drop (n / 64)).getD (i + 1) 0); exact congrArg (V.i .u64) (by rw [getD_drop']; rfl))) (hd 65 rfl)) rfl (by kernel_rfl) (by kernel_rfl) (by kernel_rfl) (by kernel_rfl) (fun _ _ _ _ h => h) ?_; refine ja_l2 11 [14, 15, 16, 17] (lo_l (ly_is (ly_shl rfl rfl (by omega) rfl) (show V.i .u64 _ = V.i .u64 (((lm (x : Int)).drop (n / 64)).getD (i + 1) 0 * 2 % 18446744073709551616) from congrArg (V.i .u64) shl1)) (hd 66 rfl)) rfl (by kernel_rfl) (by kernel_rfl) (by kernel_rfl) (by kernel_rfl) (fun _ _ _ _ h => h) ?_; refine ja_l2 12 [13, 14, 15, 16, 17] (lo_l (ly_mv rfl) (hd 67 rfl)) rfl (by kernel_rfl) (by kernel_rfl) (by kernel_rfl) (by kernel_rfl) (fun _ _ _ _ h => h) ?_; refine ja_l2 13 [14, 15, 16, 17] (lo_l (ly_sub rfl rfl (r := ((63 - n % 64 : Nat) : Int)) (by rw [wrap_u64 (by omega) (by omega)]; omega)) (hd 68 rfl)) rfl (by kernel_rfl) (by kernel_rfl) (by kernel_rfl) (by kernel_rfl) (fun _ _ _ _ h => h) ?_; refine ja_l 14 (lo_l (ly_is (ly_shl rfl rfl (by omega) rfl) (show V.i .u64 _ = V.i .u64 (loS (((lm (x : Int)).drop (n / 64)).getD (i + 1) 0) (64 - n % 64)) from congrArg (V.i .u64) ((shl_sym (by omega)).trans (shl_two hs)))) (hd 69 rfl)) rfl (by kernel_rfl) (by kernel_rfl) (by kernel_rfl) (fun _ _ _ _ h => h) ?_; refine ja_l 15 (lo_l (ly_is (ly_bit (by simp) rfl rfl rfl) (show V.i .u64 _ = V.i .u64 (dnD ((lm (x : Int)).drop (n / 64)) (n % 64) i) from congrArg (V.i .u64) (dn_or (Nat.le_of_lt hs) hx0.1 hx0.2 hy0.1).1)) (hd 70 rfl)) rfl (by kernel_rfl) (by kernel_rfl) (by kernel_rfl) (fun _ _ _ _ h => h) ?_; refine ja_l 16 (lo_l (ly_ia (i := i) sl28 rfl rfl rfl (by first | rfl | omega) (by omega) rfl) (hd 71 rfl)) rfl (by kernel_rfl) (by kernel_rfl) (by kernel_rfl) (fun _ _ _ _ h => h) ?_
          refine ja_1 17 ?_ rfl (by kernel_rfl)
          refine js_st (sy_storei rfl rfl rfl one82 (by simp only [List.length_set]; omega)) rfl ?_; refine ja_nil (by kernel_rfl) ?_
          refine ⟨(), ?_, (by show [(⟨76, 1, 0, true, ints .u64 _⟩ : Ob)] = [⟨76, 1, 0, true, ints .u64 _⟩]; first | rw [← dnD_last (show ((lm (x : Int)).drop (n / 64)).length ≤ i + 1 by omega), dnR_set (by omega)] | rw [List.set_set, dnR_set (by omega)]), cov_n 37 rfl rfl ?_⟩
          · trivial
          · exact (.u (.u (.u (.u (.u (.u (.u (.u (.u (.u (.u (.u (.u (.u (.u (.u (.u (.u (.u (.u (.u (.u (.u (.u (.u (.u (.u (.u (.u (.u (.u (.u (.u (.u (.u (.u (.u .nil)))))))))))))))))))))))))))))))))))))
        · refine jc_skip ?_
          refine ⟨(), ?_, (by show [(⟨76, 1, 0, true, ints .u64 _⟩ : Ob)] = [⟨76, 1, 0, true, ints .u64 _⟩]; first | rw [← dnD_last (show ((lm (x : Int)).drop (n / 64)).length ≤ i + 1 by omega), dnR_set (by omega)] | rw [List.set_set, dnR_set (by omega)]), cov_n 20 rfl rfl ?_⟩
          · trivial
          · exact (.u (.u (.u (.u (.u (.u (.u (.u (.u (.u (.u (.u (.u (.u (.u (.u (.u (.u (.u (.u (.u (.u (.u (.u (.u (.u (.u (.u (.u (.u (.u (.u (.u (.u (.u (.u (.u .nil)))))))))))))))))))))))))))))))))))))
      · rintro _ _; refine jc_region ?_; refine jo_l (ly_add rfl rfl (r := ((i + 1 : Nat) : Int)) (by rw [wrap_i64 (by omega) (by omega)]; omega)) (hd 72 rfl) ?_; refine jo_l (ly_mv rfl) (hd 34 rfl) ?_; refine jo_nil ?_
        refine ⟨i + 1, ?_, ?_, rfl, cov_n 80 rfl rfl ?_⟩
        · omega
        · omega
        · exact (.cons rfl (.u (.u (.u (.u (.u (.u (.u (.u (.u (.u (.u (.u (.u (.u (.u (.u (.u (.u (.u (.u (.u (.u (.u (.u (.u (.u (.u (.u (.u (.u (.u (.u (.u (.u (.u (.u (.u (.u (.u .nil))))))))))))))))))))))))))))))))))))))))
    · obtain rfl : i = ((lm (x : Int)).drop (n / 64)).length := by omega
      refine jc_exit ?_; refine jc_seq ?_; refine jc_frz (k := .u64) (l := fillI (dnN ((lm (x : Int)).drop (n / 64)) (n % 64) ((lm (x : Int)).drop (n / 64)).length) ((lm (x : Int)).drop (n / 64)).length) (l' := dnN ((lm (x : Int)).drop (n / 64)) (n % 64) ((lm (x : Int)).drop (n / 64)).length) 8 rfl rfl (by omega) (by rw [List.drop_zero, List.take_of_length_le (by omega), fillI_full (dnN_len _ _ _)]) hL ?_; refine jc_region ?_; refine jo_l (ly_mv rfl) (hd 73 rfl) ?_
      refine jo_call Tryd.f89 (told_ok (dnN ((lm (x : Int)).drop (n / 64)) (n % 64) ((lm (x : Int)).drop (n / 64)).length) (by rw [dnN_len]; omega) (dnN_u (Nat.le_of_lt hs) uB _) (by rw [lenN_trm, lenN_lenV (dnN_u (Nat.le_of_lt hs) uB _) hrv]; exact hlq)) rfl Tryd.func89 rfl rfl (ovL_cons rfl ovL_nil) (.cons .n .nil) (hd 74 rfl) ?_ (fun ch hp => by simp at hp)
      rintro y hy; injection hy with hy; subst hy; refine jo_l (ly_ext rfl rfl) (hd 75 rfl) ?_; refine jo_l (ly_ext rfl rfl) (hd 76 rfl) ?_; refine jo_l (ly_as rfl) (hd 4 rfl) ?_; refine jo_l (ly_as rfl) (hd 5 rfl) ?_; refine jo_nil ?_; refine jc_ret ?_
      refine ⟨_, _, (.cons rfl (.cons rfl .nil)), (.t1 .n (.t1 .i .t0)), ?_⟩
      rw [trm_lm (dnN_u (Nat.le_of_lt hs) uB _) hrv]

set_option maxHeartbeats 4000000 in
theorem Rest_v (x y : Nat) (hx : lenV (x : Int) ≤ 67108864) (hy : lenV (y : Int) ≤ 67108864) (h0 : y ≠ 0) : Spec Tryd.prog 70 [.n false .u64 (lm (x : Int)), .n false .u64 (lm (y : Int))] (fun o => o = .ret (.t [.n false .u64 (lm ((x % y : Nat) : Int)), .i .i64 0])) := by
  refine spec_of' [(0, .n false .u64 (lm (x : Int))), (1, .n false .u64 (lm (y : Int)))] rfl Tryd.func70 rfl (Nat.le_of_ble_eq_true rfl) fun Γ hN hds hL hR => ?_
  have hd : ∀ d, Nat.blt d 25 = true → d < Γ.N := fun d h => by rw [hN]; exact Nat.le_of_ble_eq_true h
  have hlx := lenV_lm hx
  have hly := lenV_lm hy
  have hne := List.length_pos_iff.2 (lm_ne (show (y : Int) ≠ 0 by omega))
  have hlr : lenV ((x % y : Nat) : Int) ≤ lenV (x : Int) := lenV_mono (by have := Nat.mod_le x y; omega)
  have hlR := lenV_lm (v := ((x % y : Nat) : Int)) (by omega)
  have hDv : Spec Tryd.prog 92 [.n false .u64 (lm (x : Int)), .n false .u64 (lm (y : Int))] (fun o => o = .ret (.t [.n false .u64 (lm (qn (x : Int) (y : Int))), .n false .u64 (lm ((x % y : Nat) : Int))])) := by have h := divide_v (x : Int) (y : Int) (by omega) (by omega) (by omega); rwa [show rn (x : Int) (y : Int) = ((x % y : Nat) : Int) from by unfold rn; rw [Int.natAbs_natCast, Int.natAbs_natCast]; rfl] at h
  refine jc_seq ?_; refine jc_region ?_; refine jo_l (ly_as rfl) (hd 4 rfl) ?_; refine jo_l (ly_as rfl) (hd 5 rfl) ?_; refine jo_nil ?_; refine jc_seq ?_; refine jc_region ?_; refine jo_l (ly_mv rfl) (hd 8 rfl) ?_
  refine jo_call Tryd.f75 (Norm_v (x : Int) (by omega)) rfl Tryd.func75 rfl rfl (ovL_cons rfl ovL_nil) (.cons .n .nil) (hd 9 rfl) ?_ (fun ch hp => by simp at hp)
  rintro y hy; injection hy with hy; subst hy; refine jo_l (ly_mv rfl) (hd 10 rfl) ?_
  refine jo_call Tryd.f75 (Norm_v (y : Int) (by omega)) rfl Tryd.func75 rfl rfl (ovL_cons rfl ovL_nil) (.cons .n .nil) (hd 11 rfl) ?_ (fun ch hp => by simp at hp)
  rintro y hy; injection hy with hy; subst hy; refine jo_l (ly_as rfl) (hd 0 rfl) ?_; refine jo_l (ly_as rfl) (hd 1 rfl) ?_; refine jo_nil ?_; refine jc_seq ?_; refine jc_seq ?_; refine jc_region ?_; refine jo_l (ly_mv rfl) (hd 12 rfl) ?_; refine jo_l (ly_lenn sl28 rfl) (hd 13 rfl) ?_; refine jo_l (ly_ff (ly_eq rfl rfl) (by omega)) (hd 14 rfl) ?_; refine jo_nil ?_; refine jc_litf rfl ?_; refine jc_skip ?_; refine jc_seq ?_; refine jc_region ?_; refine jo_l (ly_mv rfl) (hd 16 rfl) ?_; refine jo_l (ly_mv rfl) (hd 17 rfl) ?_
  refine jo_call Tryd.f92 (hDv) rfl Tryd.func92 rfl rfl (ovL_cons rfl (ovL_cons rfl ovL_nil)) (.cons .n (.cons .n .nil)) (hd 18 rfl) ?_ (fun ch hp => by simp at hp)
  rintro y hy; injection hy with hy; subst hy; refine jo_l (ly_mv rfl) (hd 15 rfl) ?_; refine jo_l (ly_ext rfl rfl) (hd 19 rfl) ?_; refine jo_l (ly_ext rfl rfl) (hd 20 rfl) ?_; refine jo_l (ly_as rfl) (hd 6 rfl) ?_; refine jo_l (ly_as rfl) (hd 7 rfl) ?_; refine jo_nil ?_; refine jc_seq ?_; refine jc_seq ?_; refine jc_region ?_; refine jo_l (ly_mv rfl) (hd 21 rfl) ?_
  refine jo_call Tryd.f71 (Length_v ((x % y : Nat) : Int) (by omega)) rfl Tryd.func71 rfl rfl (ovL_cons rfl ovL_nil) (.cons .n .nil) (hd 22 rfl) ?_ (fun ch hp => by simp at hp)
  rintro y hy; injection hy with hy; subst hy; refine jo_l (ly_ff (ly_gt rfl rfl) (by omega)) (hd 23 rfl) ?_; refine jo_nil ?_; refine jc_litf rfl ?_; refine jc_skip ?_; refine jc_seq ?_; refine jc_region ?_; refine jo_l (ly_mv rfl) (hd 24 rfl) ?_; refine jo_l (ly_as rfl) (hd 4 rfl) ?_; refine jo_l (ly_as rfl) (hd 5 rfl) ?_; refine jo_nil ?_; refine jc_ret ?_
  refine ⟨_, _, (.cons rfl (.cons rfl .nil)), (.t1 .n (.t1 .i .t0)), ?_⟩
  exact rfl
end Go.Proofs.YtaogaegchagbfaaDoor.Vc

/- Contracts of the references' Shr, Low. -/
namespace Go.Proofs.YtaogaegchagbfaaDoor.Vc
open Go Go.RowKit
set_option maxHeartbeats 4000000 in
theorem Shr_s (x n : Nat) (hx : (digs B32 x).length < 4294967296) (hn : n < 4294967296) : Spec Tryd.prog 73 [.n false .u64 (digs B32 x), .i .i64 (n : Int)] (fun o => o = .ret (.n false .u64 (digs B32 (x / 2 ^ n)))) := by
  refine spec_of' [(0, .n false .u64 (digs B32 x)), (1, .i .i64 (n : Int))] rfl Tryd.func73 rfl (Nat.le_of_ble_eq_true rfl) fun Γ hN hds hL hR => ?_
  have hd : ∀ d, Nat.blt d 53 = true → d < Γ.N := fun d h => by rw [hN]; exact Nat.le_of_ble_eq_true h
  have hs : n % 32 < 32 := Nat.mod_lt _ (by decide)
  refine jc_seq ?_; refine jc_region ?_; refine jo_l (ly_as rfl) (hd 4 rfl) ?_; refine jo_nil ?_; refine jc_seq ?_; refine jc_seq ?_; refine jc_region ?_; refine jo_l (ly_mv rfl) (hd 9 rfl) ?_; refine jo_l (ly_quo rfl rfl (by decide) (r := ((n / 32 : Nat) : Int)) (quo32 (by omega))) (hd 10 rfl) ?_; refine jo_l (ly_mv rfl) (hd 11 rfl) ?_; refine jo_l (ly_lenn sl33 rfl) (hd 12 rfl) ?_; refine jo_l (ly_ge rfl rfl) (hd 13 rfl) ?_; refine jo_nil ?_
  refine jc_if rfl (fun h1 => ?_) (fun h1 => ?_)
  · refine jc_seq ?_; refine jc_region ?_; refine jo_l (ly_as rfl) (hd 4 rfl) ?_; refine jo_nil ?_; refine jc_ret ?_
    refine ⟨_, _, (.cons rfl .nil), (.nil (fr := false) (k := .u64)), ?_⟩
    rw [shr_out (by omega), digs_0]
  · refine jc_skip ?_; refine jc_seq ?_; refine jc_region ?_; refine jo_l (ly_mv rfl) (hd 14 rfl) ?_; refine jo_l (ly_lenn sl33 rfl) (hd 15 rfl) ?_; refine jo_l (ly_mv rfl) (hd 16 rfl) ?_; refine jo_l (ly_quo rfl rfl (by decide) (r := ((n / 32 : Nat) : Int)) (quo32 (by omega))) (hd 17 rfl) ?_; refine jo_l (ly_sub rfl rfl (r := ((((digs B32 x).length - n / 32) : Nat) : Int)) (by rw [wrap_i64 (by omega) (by omega)]; omega)) (hd 18 rfl) ?_; refine jo_h (hy_mk (m := ((digs B32 x).length - n / 32)) el33 rfl rfl rfl (by show 8 * ((digs B32 x).length - n / 32) ≤ _; omega) (by unfold maxLen; omega) rfl) (hd 19 rfl) ?_; refine jo_l (ly_as rfl) (hd 5 rfl) ?_; refine jo_nil ?_; refine jc_seq ?_; refine jc_region ?_; refine jo_l (ly_mv rfl) (hd 20 rfl) ?_; refine jo_l (ly_is (ly_rem rfl rfl (by decide) rfl) (show V.i .i64 _ = V.i .i64 (((n % 32 : Nat) : Int)) from congrArg (V.i .i64) rem32)) (hd 21 rfl) ?_; refine jo_l (ly_as rfl) (hd 6 rfl) ?_; refine jo_nil ?_; refine jc_seq ?_; refine jc_seq ?_; refine jc_H (H' := [⟨76, 1, 0, true, ints .u64 (fillI (dvl (x / 2 ^ n) 0) ((digs B32 x).length - n / 32))⟩]) (by rw [← dvl_start]; rfl) ?_; refine jc_region ?_; refine jo_l (ly_mv rfl) (hd 22 rfl) ?_; refine jo_l (ly_leno sl33 rfl rfl) (hd 23 rfl) ?_; refine jo_l (ly_mv rfl) (hd 24 rfl) ?_; refine jo_nil ?_; refine jc_block ?_
    refine jc_loopF (G := Nat) (fun i => i ≤ ((digs B32 x).length - n / 32)) (fun i => [(24, .i .i64 (i : Int)), (7, .u), (8, .u), (25, .u), (26, .u), (27, .u), (28, .u), (29, .u), (30, .u), (31, .u), (32, .u), (33, .u), (34, .u), (35, .u), (36, .u), (37, .u), (38, .u), (39, .u), (40, .u), (41, .u), (42, .u), (43, .u), (44, .u), (45, .u), (46, .u), (47, .u), (48, .u), (49, .u), (50, .u)]) (fun i => [⟨76, 1, 0, true, ints .u64 (fillI (dvl (x / 2 ^ n) i) ((digs B32 x).length - n / 32))⟩]) (fun i => ((digs B32 x).length - n / 32) - i) 0 ?_ ?_ rfl ?_
    · exact Nat.zero_le _
    · exact (.cons rfl (.u (.u (.u (.u (.u (.u (.u (.u (.u (.u (.u (.u (.u (.u (.u (.u (.u (.u (.u (.u (.u (.u (.u (.u (.u (.u (.u (.u .nil)))))))))))))))))))))))))))))
    · rintro i hc1
      have hfl := fill_len (z := x / 2 ^ n) hc1
      have hdg := shr_digit (x := x) (n := n) (i := i) rfl
      have hd1 := Nat.mod_lt (x / B32 ^ (i + n / 32)) (show 0 < B32 by decide)
      have hd2 := Nat.mod_lt (x / B32 ^ (i + n / 32 + 1)) (show 0 < B32 by decide)
      have hB9 : B32 = 4294967296 := rfl
      refine jc_seq ?_; refine jc_region ?_; refine jo_l (ly_lt rfl rfl) (hd 25 rfl) ?_; refine jo_nil ?_; refine jc_seq ?_
      refine jc_if rfl (fun h2 => ?_) (fun h2 => ?_)
      · refine jc_skip ?_; refine jc_seq ?_; refine jc_block ?_; refine jc_seq ?_; refine jc_region ?_; refine jo_l (ly_mv rfl) (hd 26 rfl) ?_; refine jo_l (ly_as rfl) (hd 7 rfl) ?_; refine jo_nil ?_; refine jc_seq ?_; refine jc_draw (n := 17) _ rfl mixed ?_; refine ja_l2 0 [5, 6, 15, 16] (lo_l (ly_mv rfl) (hd 27 rfl)) rfl (by kernel_rfl) (by kernel_rfl) (by kernel_rfl) (by kernel_rfl) (fun _ _ _ _ h => h) ?_; refine ja_l2 1 [4, 5, 6, 15, 16] (lo_l (ly_mv rfl) (hd 28 rfl)) rfl (by kernel_rfl) (by kernel_rfl) (by kernel_rfl) (by kernel_rfl) (fun _ _ _ _ h => h) ?_; refine ja_l2 2 [3, 4, 5, 6, 15, 16] (lo_l (ly_mv rfl) (hd 29 rfl)) rfl (by kernel_rfl) (by kernel_rfl) (by kernel_rfl) (by kernel_rfl) (fun _ _ _ _ h => h) ?_; refine ja_l2 3 [4, 5, 6, 15, 16] (lo_l (ly_quo rfl rfl (by decide) (r := ((n / 32 : Nat) : Int)) (quo32 (by omega))) (hd 30 rfl)) rfl (by kernel_rfl) (by kernel_rfl) (by kernel_rfl) (by kernel_rfl) (fun _ _ _ _ h => h) ?_; refine ja_l2 4 [5, 6, 15, 16] (lo_l (ly_add rfl rfl (r := ((i + n / 32 : Nat) : Int)) (by rw [wrap_i64 (by omega) (by omega)]; omega)) (hd 31 rfl)) rfl (by kernel_rfl) (by kernel_rfl) (by kernel_rfl) (by kernel_rfl) (fun _ _ _ _ h => h) ?_; refine ja_l2 5 [6, 15, 16] (lo_l (ly_ian (i := i + n / 32) sl33 rfl rfl (by first | rfl | omega) (by omega)) (hd 32 rfl)) rfl (by kernel_rfl) (by kernel_rfl) (by kernel_rfl) (by kernel_rfl) (fun _ _ _ _ h => h) ?_; refine ja_l 6 (lo_l (ly_is (ly_ldq one82 rfl rfl) (by show V.i .u64 _ = V.i .u64 ((((x / B32 ^ (i + n / 32) % B32) : Nat) : Int)); exact congrArg (V.i .u64) (digs_at (by decide) (i + n / 32) x))) (hd 33 rfl)) rfl (by kernel_rfl) (by kernel_rfl) (by kernel_rfl) (fun _ _ _ _ h => h) ?_; refine ja_l2 7 [13, 14, 15, 16] (lo_l (ly_mv rfl) (hd 34 rfl)) rfl (by kernel_rfl) (by kernel_rfl) (by kernel_rfl) (by kernel_rfl) (fun _ _ _ _ h => h) ?_; refine ja_l2 8 [11, 12, 13, 14, 15, 16] (lo_l (ly_mv rfl) (hd 35 rfl)) rfl (by kernel_rfl) (by kernel_rfl) (by kernel_rfl) (by kernel_rfl) (fun _ _ _ _ h => h) ?_; refine ja_l2 9 [10, 11, 12, 13, 14, 15, 16] (lo_l (ly_mv rfl) (hd 36 rfl)) rfl (by kernel_rfl) (by kernel_rfl) (by kernel_rfl) (by kernel_rfl) (fun _ _ _ _ h => h) ?_; refine ja_l2 10 [11, 12, 13, 14, 15, 16] (lo_l (ly_quo rfl rfl (by decide) (r := ((n / 32 : Nat) : Int)) (quo32 (by omega))) (hd 37 rfl)) rfl (by kernel_rfl) (by kernel_rfl) (by kernel_rfl) (by kernel_rfl) (fun _ _ _ _ h => h) ?_; refine ja_l2 11 [12, 13, 14, 15, 16] (lo_l (ly_add rfl rfl (r := ((i + n / 32 : Nat) : Int)) (by rw [wrap_i64 (by omega) (by omega)]; omega)) (hd 38 rfl)) rfl (by kernel_rfl) (by kernel_rfl) (by kernel_rfl) (by kernel_rfl) (fun _ _ _ _ h => h) ?_; refine ja_l2 12 [13, 14, 15, 16] (lo_l (ly_add rfl rfl (r := ((i + n / 32 + 1 : Nat) : Int)) (by rw [wrap_i64 (by omega) (by omega)]; omega)) (hd 39 rfl)) rfl (by kernel_rfl) (by kernel_rfl) (by kernel_rfl) (by kernel_rfl) (fun _ _ _ _ h => h) ?_
        refine ja_1 13 ?_ rfl (by kernel_rfl)
        refine js_call Tryd.f81 (at_s x (i + n / 32 + 1) (x / B32 ^ (i + n / 32 + 1) % B32) (by omega) rfl) rfl Tryd.func81 rfl rfl (ovL_cons rfl (ovL_cons rfl ovL_nil)) (.cons .n (.cons .i .nil)) (hd 40 rfl) ?_ (fun ch hp => by simp at hp)
        rintro y hy; injection hy with hy; subst hy; refine ja_l 14 (lo_l (ly_mul rfl rfl (r := ((((x / B32 ^ (i + n / 32 + 1) % B32)) * 4294967296 : Nat) : Int)) (wrap_u64 (by omega) (by omega))) (hd 41 rfl)) rfl (by kernel_rfl) (by kernel_rfl) (by kernel_rfl) (fun _ _ _ _ h => h) ?_; refine ja_l 15 (lo_l (ly_add rfl rfl (r := ((((x / B32 ^ (i + n / 32) % B32) + (x / B32 ^ (i + n / 32 + 1) % B32) * 4294967296) : Nat) : Int)) (wrap_u64 (by omega) (by omega))) (hd 42 rfl)) rfl (by kernel_rfl) (by kernel_rfl) (by kernel_rfl) (fun _ _ _ _ h => h) ?_; refine ja_l 16 (lo_l (ly_as rfl) (hd 8 rfl)) rfl (by kernel_rfl) (by kernel_rfl) (by kernel_rfl) (fun _ _ _ _ h => h) ?_; refine ja_nil (by kernel_rfl) ?_; refine jc_region ?_; refine jo_l (ly_mv rfl) (hd 43 rfl) ?_; refine jo_l (ly_mv rfl) (hd 44 rfl) ?_; refine jo_l (ly_mv rfl) (hd 45 rfl) ?_; refine jo_l (ly_mv rfl) (hd 46 rfl) ?_; refine jo_l (ly_is (ly_shr rfl rfl (by omega) rfl) (by show V.i .u64 _ = V.i .u64 (((((x / B32 ^ (i + n / 32) % B32) + (x / B32 ^ (i + n / 32 + 1) % B32) * 4294967296) / 2 ^ (n % 32) : Nat) : Int)); exact congrArg (V.i .u64) (shr_nat (k := 2 ^ (n % 32)) (by rw [Int.toNat_natCast, Nat.min_eq_left (by have h : IntKind.u64.bits = 64 := rfl; omega)])))) (hd 47 rfl) ?_; refine jo_l (ly_is (ly_rem rfl rfl (by decide) rfl) (by show V.i .u64 _ = V.i .u64 (dgt (x / 2 ^ n) i); exact congrArg (V.i .u64) (by unfold dgt; rw [← hdg]; rfl))) (hd 48 rfl) ?_; refine jo_l (ly_ia (i := i) sl33 rfl rfl rfl (by first | rfl | omega) (by omega) rfl) (hd 49 rfl) ?_; refine jo_st (sy_storei rfl rfl rfl one82 (by omega)) ?_; refine jo_nil ?_; refine jc_region ?_; refine jo_l (ly_add rfl rfl (r := ((i + 1 : Nat) : Int)) (by rw [wrap_i64 (by omega) (by omega)]; omega)) (hd 50 rfl) ?_; refine jo_l (ly_mv rfl) (hd 24 rfl) ?_; refine jo_nil ?_
        refine ⟨i + 1, ?_, ?_, (by show [(⟨76, 1, 0, true, ints .u64 _⟩ : Ob)] = [⟨76, 1, 0, true, ints .u64 _⟩]; rw [fill_dvl (by omega)]), cov_n 58 rfl rfl ?_⟩
        · omega
        · omega
        · exact (.cons rfl (.u (.u (.u (.u (.u (.u (.u (.u (.u (.u (.u (.u (.u (.u (.u (.u (.u (.u (.u (.u (.u (.u (.u (.u (.u (.u (.u (.u .nil)))))))))))))))))))))))))))))
      · obtain rfl : i = ((digs B32 x).length - n / 32) := by omega
        refine jc_exit ?_; refine jc_seq ?_; refine jc_frz (k := .u64) (l := fillI (dvl (x / 2 ^ n) ((digs B32 x).length - n / 32)) ((digs B32 x).length - n / 32)) (l' := dvl (x / 2 ^ n) ((digs B32 x).length - n / 32)) 5 rfl rfl (by rw [fill_all, dvl_len]; omega) (by rw [fill_all, List.drop_zero, List.take_of_length_le (by rw [dvl_len]; omega)]) hL ?_; refine jc_region ?_; refine jo_l (ly_mv rfl) (hd 51 rfl) ?_
        refine jo_call Tryd.f82 (rnorm_s (dvl (x / 2 ^ n) ((digs B32 x).length - n / 32)) (by rw [dvl_len]; omega)) rfl Tryd.func82 rfl rfl (ovL_cons rfl ovL_nil) (.cons .n .nil) (hd 52 rfl) ?_ (fun ch hp => by simp at hp)
        rintro y hy; injection hy with hy; subst hy; refine jo_l (ly_as rfl) (hd 4 rfl) ?_; refine jo_nil ?_; refine jc_ret ?_
        refine ⟨_, _, (.cons rfl .nil), .n, ?_⟩
        rw [trm_dvl (shr_lt (by omega))]

set_option maxHeartbeats 4000000 in
theorem Low_s (x n : Nat) (hx : (digs B32 x).length < 4294967296) (hn : n < 4294967296) : Spec Tryd.prog 74 [.n false .u64 (digs B32 x), .i .i64 (n : Int)] (fun o => o = .ret (.n false .u64 (digs B32 (x % 2 ^ n)))) := by
  refine spec_of' [(0, .n false .u64 (digs B32 x)), (1, .i .i64 (n : Int))] rfl Tryd.func74 rfl (Nat.le_of_ble_eq_true rfl) fun Γ hN hds hL hR => ?_
  have hd : ∀ d, Nat.blt d 17 = true → d < Γ.N := fun d h => by rw [hN]; exact Nat.le_of_ble_eq_true h
  have hle := Nat.div_mul_le_self x (2 ^ n)
  have hq := digs_mono (b := B32) (by decide) _ _ (Nat.div_le_self x (2 ^ n))
  have hsb : x - x / 2 ^ n * 2 ^ n = x % 2 ^ n := by have := Nat.div_add_mod x (2 ^ n); rw [Nat.mul_comm] at this; omega
  have hqs := digs_mono (b := B32) (by decide) _ _ hle
  have hLn : Spec Tryd.prog 49 [.n false .u64 (digs B32 x)] (fun o => o = .ret (.i .i64 (lenV (x : Int) : Int))) := by have h := Len_s (x : Int) (by rw [← digs_dg (Int.natCast_nonneg _)]; exact Nat.lt_trans hx (by decide)); rwa [← digs_dg (Int.natCast_nonneg _), Int.toNat_natCast] at h
  refine jc_seq ?_; refine jc_region ?_; refine jo_l (ly_as rfl) (hd 4 rfl) ?_; refine jo_nil ?_; refine jc_seq ?_; refine jc_seq ?_; refine jc_region ?_; refine jo_l (ly_mv rfl) (hd 5 rfl) ?_; refine jo_l (ly_mv rfl) (hd 6 rfl) ?_
  refine jo_call Tryd.f49 (hLn) rfl Tryd.func49 rfl rfl (ovL_cons rfl ovL_nil) (.cons .n .nil) (hd 7 rfl) ?_ (fun ch hp => by simp at hp)
  rintro y hy; injection hy with hy; subst hy; refine jo_l (ly_ge rfl rfl) (hd 8 rfl) ?_; refine jo_nil ?_
  refine jc_if rfl (fun h1 => ?_) (fun h1 => ?_)
  · refine jc_seq ?_; refine jc_region ?_; refine jo_l (ly_mv rfl) (hd 9 rfl) ?_; refine jo_l (ly_as rfl) (hd 4 rfl) ?_; refine jo_nil ?_; refine jc_ret ?_
    refine ⟨_, _, (.cons rfl .nil), .n, ?_⟩
    rw [Nat.mod_eq_of_lt (by have h8 := nbits_le.1 (Nat.le_refl (lenV (x : Int))); rw [Int.natAbs_natCast] at h8; exact Nat.lt_of_lt_of_le h8 (Nat.pow_le_pow_right (by decide) (by omega)))]
  · refine jc_skip ?_; refine jc_seq ?_; refine jc_region ?_; refine jo_l (ly_mv rfl) (hd 10 rfl) ?_; refine jo_l (ly_mv rfl) (hd 11 rfl) ?_; refine jo_l (ly_mv rfl) (hd 12 rfl) ?_
    refine jo_call Tryd.f73 (Shr_s x n hx hn) rfl Tryd.func73 rfl rfl (ovL_cons rfl (ovL_cons rfl ovL_nil)) (.cons .n (.cons .i .nil)) (hd 13 rfl) ?_ (fun ch hp => by simp at hp)
    rintro y hy; injection hy with hy; subst hy; refine jo_l (ly_mv rfl) (hd 14 rfl) ?_
    refine jo_call Tryd.f53 (Shl_s (x / 2 ^ n) n (by omega) hn) rfl Tryd.func53 rfl rfl (ovL_cons rfl (ovL_cons rfl ovL_nil)) (.cons .n (.cons .i .nil)) (hd 15 rfl) ?_ (fun ch hp => by simp at hp)
    rintro y hy; injection hy with hy; subst hy
    refine jo_call Tryd.f46 (rSub_s x (x / 2 ^ n * 2 ^ n) hle (by omega) (by omega)) rfl Tryd.func46 rfl rfl (ovL_cons rfl (ovL_cons rfl ovL_nil)) (.cons .n (.cons .n .nil)) (hd 16 rfl) ?_ (fun ch hp => by simp at hp)
    rintro y hy; injection hy with hy; subst hy; refine jo_l (ly_as rfl) (hd 4 rfl) ?_; refine jo_nil ?_; refine jc_ret ?_
    refine ⟨_, _, (.cons rfl .nil), .n, ?_⟩
    rw [hsb]
end Go.Proofs.YtaogaegchagbfaaDoor.Vc

/- Contract of surdref06.Jacobi. -/
namespace Go.Proofs.YtaogaegchagbfaaDoor.Vc
open Go Go.RowKit
theorem dec_nat (x : Nat) : decide ((x : Int) < 0) = false := decide_eq_false (by omega)
theorem rEuc_n (x m : Nat) (hx : (digs B32 x).length < 4294967296) (hm : (digs B32 m).length < 4294967296) (h0 : m ≠ 0) : Spec Tryd.prog 72 [.a [.b false, .n false .u64 (digs B32 x)], .a [.b false, .n false .u64 (digs B32 m)]] (fun o => o = .ret (.t [.a [.b (decide ((wq 4 (x : Int) (m : Int)) < 0)), .n false .u64 (dg (wq 4 (x : Int) (m : Int)))], .a [.b false, .n false .u64 (digs B32 (x % m))]])) := by
  have h := rEuclid_s (x : Int) (m : Int) hx hm (by omega)
  rw [euc (by omega), show (x : Int) % (m : Int) = ((x % m : Nat) : Int) from rfl, dec_nat, dec_nat, dec_nat] at h
  exact h
theorem ZSign_n (x : Nat) : Spec Tryd.prog 16 [.a [.b false, .n false .u64 (digs B32 x)]] (fun o => o = .ret (.i .i64 (sgnI (x : Int)))) := by
  have h := ZSign_s (x : Int)
  rw [dec_nat] at h
  exact h

set_option maxHeartbeats 4000000 in
theorem rJacobi_s (v : Int) (d : Nat) (hvl : (dg v).length < 4294967296) (hdl : (digs B32 d).length < 4294967296) (hd2 : d % 2 = 1) : Spec Tryd.prog 33 [.a [.b (decide (v < 0)), .n false .u64 (dg v)], .a [.b false, .n false .u64 (digs B32 d)]] (fun o => o = .ret (.i .i64 (jf (v % (d : Int)).toNat d 1))) := by
  refine spec_of' [(0, .a [.b (decide (v < 0)), .n false .u64 (dg v)]), (1, .a [.b false, .n false .u64 (digs B32 d)])] rfl Tryd.func33 rfl (Nat.le_of_ble_eq_true rfl) fun Γ hN hds hL hR => ?_
  have hd : ∀ d, Nat.blt d 64 = true → d < Γ.N := fun d h => by rw [hN]; exact Nat.le_of_ble_eq_true h
  have hdl9 : (dg (d : Int)).length < 4294967296 := hdl
  have hE0 : Spec Tryd.prog 72 [.a [.b (decide (v < 0)), .n false .u64 (dg v)], .a [.b false, .n false .u64 (digs B32 d)]] (fun o => o = .ret (.t [.a [.b (decide ((wq 4 v (d : Int)) < 0)), .n false .u64 (dg (wq 4 v (d : Int)))], .a [.b false, .n false .u64 (digs B32 (v % (d : Int)).toNat)]])) := by
    have h := rEuclid_s v (d : Int) (by omega) hdl9 (by omega)
    have h9 := Int.emod_nonneg v (show (d : Int) ≠ 0 by omega)
    rw [euc (by omega), dec_nat, show v % (d : Int) = (((v % (d : Int)).toNat : Nat) : Int) from (Int.toNat_of_nonneg h9).symm, dec_nat] at h
    exact h
  have hr0 : (v % (d : Int)).toNat ≤ d := by have h8 := Int.emod_lt_of_pos v (show (0 : Int) < (d : Int) by omega); omega
  have hr9 := digs_mono (b := B32) (by decide) _ _ hr0
  refine jc_seq ?_; refine jc_region ?_; refine jo_h (hy_box (id := 0) (n := 2) rfl rfl rfl (by decide) rfl) (hd 2 rfl) ?_; refine jo_h (hy_box (id := 1) (n := 2) rfl rfl rfl (by decide) rfl) (hd 3 rfl) ?_; refine jo_l (ly_as rfl) (hd 4 rfl) ?_; refine jo_nil ?_; refine jc_seq ?_; refine jc_region ?_; refine jo_l (ly_as rfl) (hd 5 rfl) ?_; refine jo_nil ?_; refine jc_seq ?_; refine jc_region ?_; refine jo_l (ly_lda agg35 rfl rfl rfl rfl) (hd 8 rfl) ?_; refine jo_l (ly_lda agg35 rfl rfl rfl rfl) (hd 9 rfl) ?_
  refine jo_call Tryd.f72 (hE0) rfl Tryd.func72 rfl rfl (ovL_cons rfl (ovL_cons rfl ovL_nil)) (.cons (.a1 .b (.a1 .n .a0)) (.cons (.a1 .b (.a1 .n .a0)) .nil)) (hd 10 rfl) ?_ (fun ch hp => by simp at hp)
  rintro y hy; injection hy with hy; subst hy; refine jo_l (ly_mv rfl) (hd 7 rfl) ?_; refine jo_l (ly_ext rfl rfl) (hd 11 rfl) ?_; refine jo_l (ly_ext rfl rfl) (hd 12 rfl) ?_; refine jo_st (sy_store rfl rfl rfl siz35 rfl rfl (Nat.le_of_ble_eq_true rfl)) ?_; refine jo_nil ?_; refine jc_seq ?_; refine jc_block ?_
  refine jc_loopF (G := Nat × Nat × Int) (fun g => jf g.1 g.2.1 g.2.2 = (jf (v % (d : Int)).toNat d 1) ∧ (g.2.2 = 1 ∨ g.2.2 = -1) ∧ g.2.1 % 2 = 1 ∧ (digs B32 g.1).length < 4294967296 ∧ (digs B32 g.2.1).length < 4294967296) (fun g => [(5, .i .i64 g.2.2), (6, .u), (13, .u), (14, .u), (15, .u), (16, .u), (17, .u), (18, .u), (19, .u), (20, .u), (21, .u), (22, .u), (23, .u), (24, .u), (25, .u), (26, .u), (27, .u), (28, .u), (29, .u), (30, .u), (31, .u), (32, .u), (33, .u), (34, .u), (35, .u), (36, .u), (37, .u), (38, .u), (39, .u), (40, .u), (41, .u), (42, .u), (43, .u), (44, .u), (45, .u), (46, .u), (47, .u), (48, .u), (49, .u), (50, .u), (51, .u), (52, .u), (53, .u), (54, .u), (55, .u), (56, .u), (57, .u), (58, .u)]) (fun g => [⟨32, 2, 0, true, [.b false, .n false .u64 (digs B32 g.1)]⟩, ⟨32, 2, 0, true, [.b false, .n false .u64 (digs B32 g.2.1)]⟩]) (fun g => g.1) ((v % (d : Int)).toNat, d, 1) ?_ ?_ rfl ?_
  · exact ⟨rfl, .inl rfl, hd2, Nat.lt_of_le_of_lt hr9 hdl, hdl⟩
  · exact (.cons rfl (.u (.u (.u (.u (.u (.u (.u (.u (.u (.u (.u (.u (.u (.u (.u (.u (.u (.u (.u (.u (.u (.u (.u (.u (.u (.u (.u (.u (.u (.u (.u (.u (.u (.u (.u (.u (.u (.u (.u (.u (.u (.u (.u (.u (.u (.u (.u .nil))))))))))))))))))))))))))))))))))))))))))))))))
  · rintro ⟨x, m, sg⟩ ⟨hc1, hc2, hc3, hc4, hc5⟩
    dsimp only at hc1 hc2 hc3 hc4 hc5 ⊢
    refine jc_seq ?_; refine jc_seq ?_; refine jc_region ?_; refine jo_l (ly_lda agg35 rfl rfl rfl rfl) (hd 13 rfl) ?_
    refine jo_call Tryd.f16 (ZSign_n x) rfl Tryd.func16 rfl rfl (ovL_cons rfl ovL_nil) (.cons (.a1 .b (.a1 .n .a0)) .nil) (hd 14 rfl) ?_ (fun ch hp => by simp at hp)
    rintro y hy; injection hy with hy; subst hy; refine jo_l (ly_ne rfl rfl) (hd 15 rfl) ?_; refine jo_nil ?_
    refine jc_if rfl (fun h1 => ?_) (fun h1 => ?_)
    · have hx0 : x ≠ 0 := fun e => by subst e; exact h1 rfl
      refine jc_skip ?_; refine jc_block ?_; refine jc_seq ?_; refine jc_block ?_
      refine jc_loopF (G := Nat × Int) (fun g => jf g.1 m g.2 = (jf (v % (d : Int)).toNat d 1) ∧ (g.2 = 1 ∨ g.2 = -1) ∧ 0 < g.1 ∧ g.1 ≤ x ∧ (digs B32 g.1).length < 4294967296) (fun g => [(5, .i .i64 g.2), (6, .u), (16, .u), (17, .u), (18, .u), (19, .u), (20, .u), (21, .u), (22, .u), (23, .u), (24, .u), (25, .u), (26, .u), (27, .u), (28, .u), (29, .u), (30, .u), (31, .u), (32, .u), (33, .u), (34, .u), (35, .u), (36, .u), (37, .u), (38, .u)]) (fun g => [⟨32, 2, 0, true, [.b false, .n false .u64 (digs B32 g.1)]⟩, ⟨32, 2, 0, true, [.b false, .n false .u64 (digs B32 m)]⟩]) (fun g => g.1) (x, sg) ?_ ?_ rfl ?_
      · exact ⟨hc1, hc2, by omega, Nat.le_refl _, hc4⟩
      · exact (.cons rfl (.u (.u (.u (.u (.u (.u (.u (.u (.u (.u (.u (.u (.u (.u (.u (.u (.u (.u (.u (.u (.u (.u (.u (.u .nil)))))))))))))))))))))))))
      · rintro ⟨y, u⟩ ⟨hd1, hd2x, hd3, hd4, hd5⟩
        dsimp only at hd1 hd2x hd3 hd4 hd5 ⊢
        refine jc_seq ?_; refine jc_seq ?_; refine jc_region ?_; refine jo_l (ly_fa fld35_1 rfl rfl rfl) (hd 16 rfl) ?_; refine jo_l (ly_ld one33 rfl rfl rfl) (hd 17 rfl) ?_
        refine jo_call Tryd.f32 (Bit_s y 0 (by omega) (by decide)) rfl Tryd.func32 rfl rfl (ovL_cons rfl (ovL_cons rfl ovL_nil)) (.cons .n (.cons .i .nil)) (hd 18 rfl) ?_ (fun ch hp => by simp at hp)
        rintro y hy; injection hy with hy; subst hy; refine jo_l (ly_eq rfl rfl) (hd 19 rfl) ?_; refine jo_nil ?_
        refine jc_if rfl (fun h2 => ?_) (fun h2 => ?_)
        · have hye : y % 2 = 0 := by have h9 : ((y / 2 ^ 0 % 2 : Nat) : Int) = 0 := h2; rw [Nat.pow_zero, Nat.div_one] at h9; omega
          have hSh := Shr_s y 1 hd5 (by decide)
          rw [Nat.pow_one] at hSh
          have hLo := Low_s m 3 hc5 (by decide)
          have hm8 := Nat.mod_lt m (show 0 < 8 by decide)
          have hl8 : (digs B32 (m % 2 ^ 3)).length < 1099511627776 := Nat.lt_of_le_of_lt (digs_mono (b := B32) (by decide) _ _ (Nat.mod_le m _)) (by omega)
          refine jc_skip ?_; refine jc_block ?_; refine jc_seq ?_; refine jc_region ?_; refine jo_l (ly_fa fld35_1 rfl rfl rfl) (hd 20 rfl) ?_; refine jo_l (ly_ld one33 rfl rfl rfl) (hd 21 rfl) ?_
          refine jo_call Tryd.f73 (hSh) rfl Tryd.func73 rfl rfl (ovL_cons rfl (ovL_cons rfl ovL_nil)) (.cons .n (.cons .i .nil)) (hd 22 rfl) ?_ (fun ch hp => by simp at hp)
          rintro y hy; injection hy with hy; subst hy; refine jo_l (ly_build (is := [1]) (xs := [.tmp 22]) zero35 pls35_1 rfl (ovL_cons rfl ovL_nil) rfl (by first | (simp [plsOk, cellsV]; done) | (simp [plsOk, cellsV, old]; done)) (all_of rfl) rfl) (hd 23 rfl) ?_; refine jo_st (sy_store rfl rfl rfl siz35 rfl rfl (Nat.le_of_ble_eq_true rfl)) ?_; refine jo_nil ?_; refine jc_seq ?_; refine jc_region ?_; refine jo_l (ly_fa fld35_1 rfl rfl rfl) (hd 24 rfl) ?_; refine jo_l (ly_ld one33 rfl rfl rfl) (hd 25 rfl) ?_
          refine jo_call Tryd.f74 (hLo) rfl Tryd.func74 rfl rfl (ovL_cons rfl (ovL_cons rfl ovL_nil)) (.cons .n (.cons .i .nil)) (hd 26 rfl) ?_ (fun ch hp => by simp at hp)
          rintro y hy; injection hy with hy; subst hy; refine jo_l (ly_as rfl) (hd 6 rfl) ?_; refine jo_nil ?_; refine jc_seq ?_; refine jc_region ?_; refine jo_l (ly_mv rfl) (hd 27 rfl) ?_
          refine jo_call Tryd.f32 (Bit_s (m % 2 ^ 3) 0 hl8 (by decide)) rfl Tryd.func32 rfl rfl (ovL_cons rfl (ovL_cons rfl ovL_nil)) (.cons .n (.cons .i .nil)) (hd 28 rfl) ?_ (fun ch hp => by simp at hp)
          rintro y hy; injection hy with hy; subst hy; refine jo_l (ly_tt (ly_eq rfl rfl) (by show ((m % 2 ^ 3 / 2 ^ 0 % 2 : Nat) : Int) = 1; rw [Nat.pow_zero, Nat.div_one, show (2 : Nat) ^ 3 = 8 from rfl]; omega)) (hd 29 rfl) ?_; refine jo_l (ly_mv rfl) (hd 30 rfl) ?_; refine jo_g 30 rfl rfl (ly_mv rfl) (hd 31 rfl) ?_
          refine jo_callg Tryd.f32 30 rfl rfl (Bit_s (m % 2 ^ 3) 1 hl8 (by decide)) rfl Tryd.func32 rfl rfl (ovL_cons rfl (ovL_cons rfl ovL_nil)) (.cons .n (.cons .i .nil)) (hd 32 rfl) ?_ (fun ch hp => by simp at hp)
          rintro y hy; injection hy with hy; subst hy; refine jo_g 30 rfl rfl (ly_mv rfl) (hd 33 rfl) ?_
          refine jo_callg Tryd.f32 30 rfl rfl (Bit_s (m % 2 ^ 3) 2 hl8 (by decide)) rfl Tryd.func32 rfl rfl (ovL_cons rfl (ovL_cons rfl ovL_nil)) (.cons .n (.cons .i .nil)) (hd 34 rfl) ?_ (fun ch hp => by simp at hp)
          rintro y hy; injection hy with hy; subst hy; refine jo_g 30 rfl rfl (ly_ne rfl rfl) (hd 35 rfl) ?_; refine jo_l (ly_pick_t rfl rfl) (hd 36 rfl) ?_; refine jo_nil ?_
          refine jc_if rfl (fun h3 => ?_) (fun h3 => ?_)
          · have h8 : fl8 m u = -u := by have h9 : ¬ ((m % 2 ^ 3 / 2 ^ 1 % 2 : Nat) : Int) = ((m % 2 ^ 3 / 2 ^ 2 % 2 : Nat) : Int) := h3; rw [show (2 : Nat) ^ 3 = 8 from rfl, show (2 : Nat) ^ 1 = 2 from rfl, show (2 : Nat) ^ 2 = 4 from rfl] at h9; unfold fl8; rw [if_pos (by omega)]
            refine jc_region ?_; refine jo_l (ly_mv rfl) (hd 37 rfl) ?_; refine jo_l (ly_neg rfl (r := -u) (by rw [wrap_i64 (by omega) (by omega)]; omega)) (hd 38 rfl) ?_; refine jo_l (ly_as rfl) (hd 5 rfl) ?_; refine jo_nil ?_
            refine ⟨(y / 2, fl8 m u), ?_, ?_, rfl, cov_n 50 rfl rfl ?_⟩
            · exact ⟨by rw [← hd1]; exact (jf_even (by omega) hye).symm, fl8_r hd2x, by omega, by omega, Nat.lt_of_le_of_lt (digs_mono (b := B32) (by decide) _ _ (Nat.div_le_self y 2)) hd5⟩
            · show y / 2 < y
              omega
            · exact (.cons (by show some (V.i _ _) = some (V.i _ _); rw [h8]) (.u (.u (.u (.u (.u (.u (.u (.u (.u (.u (.u (.u (.u (.u (.u (.u (.u (.u (.u (.u (.u (.u (.u (.u .nil)))))))))))))))))))))))))
          · have h8 : fl8 m u = u := by have h9 : ((m % 2 ^ 3 / 2 ^ 1 % 2 : Nat) : Int) = ((m % 2 ^ 3 / 2 ^ 2 % 2 : Nat) : Int) := Decidable.not_not.1 h3; rw [show (2 : Nat) ^ 3 = 8 from rfl, show (2 : Nat) ^ 1 = 2 from rfl, show (2 : Nat) ^ 2 = 4 from rfl] at h9; unfold fl8; rw [if_neg (by omega)]
            refine jc_skip ?_
            refine ⟨(y / 2, fl8 m u), ?_, ?_, rfl, cov_n 47 rfl rfl ?_⟩
            · exact ⟨by rw [← hd1]; exact (jf_even (by omega) hye).symm, fl8_r hd2x, by omega, by omega, Nat.lt_of_le_of_lt (digs_mono (b := B32) (by decide) _ _ (Nat.div_le_self y 2)) hd5⟩
            · show y / 2 < y
              omega
            · exact (.cons (by show some (V.i _ _) = some (V.i _ _); rw [h8]) (.u (.u (.u (.u (.u (.u (.u (.u (.u (.u (.u (.u (.u (.u (.u (.u (.u (.u (.u (.u (.u (.u (.u (.u .nil)))))))))))))))))))))))))
        · have hyo : y % 2 = 1 := by have h9 : ¬ ((y / 2 ^ 0 % 2 : Nat) : Int) = 0 := h2; rw [Nat.pow_zero, Nat.div_one] at h9; omega
          refine jc_exit ?_; refine jc_seq ?_; refine jc_seq ?_; refine jc_region ?_; refine jo_l (ly_fa fld35_1 rfl rfl rfl) (hd 39 rfl) ?_; refine jo_l (ly_ld one33 rfl rfl rfl) (hd 40 rfl) ?_
          refine jo_call Tryd.f32 (Bit_s y 1 (by omega) (by decide)) rfl Tryd.func32 rfl rfl (ovL_cons rfl (ovL_cons rfl ovL_nil)) (.cons .n (.cons .i .nil)) (hd 41 rfl) ?_ (fun ch hp => by simp at hp)
          rintro y hy; injection hy with hy; subst hy; refine jo_l (ly_eq rfl rfl) (hd 42 rfl) ?_; refine jo_l (ly_mv rfl) (hd 43 rfl) ?_
          refine jo_ifp 43 rfl (fun h4 => ?_) (fun h4 => ?_)
          · have hy4 : y % 4 = 3 := by have h9 : ((y / 2 ^ 1 % 2 : Nat) : Int) = 1 := h4; rw [Nat.pow_one] at h9; omega
            refine jo_g 43 rfl rfl (ly_fa fld35_1 rfl rfl rfl) (hd 44 rfl) ?_; refine jo_g 43 rfl rfl (ly_ld one33 rfl rfl rfl) (hd 45 rfl) ?_
            refine jo_callg Tryd.f32 43 rfl rfl (Bit_s m 1 (by omega) (by decide)) rfl Tryd.func32 rfl rfl (ovL_cons rfl (ovL_cons rfl ovL_nil)) (.cons .n (.cons .i .nil)) (hd 46 rfl) ?_ (fun ch hp => by simp at hp)
            rintro y hy; injection hy with hy; subst hy; refine jo_g 43 rfl rfl (ly_eq rfl rfl) (hd 47 rfl) ?_; refine jo_l (ly_pick_t rfl rfl) (hd 48 rfl) ?_; refine jo_nil ?_
            refine jc_if rfl (fun h5 => ?_) (fun h5 => ?_)
            · have h4 : fl4 y m u = -u := by have h9 : ((m / 2 ^ 1 % 2 : Nat) : Int) = 1 := h5; rw [Nat.pow_one] at h9; unfold fl4; rw [if_pos (by omega)]
              refine jc_region ?_; refine jo_l (ly_mv rfl) (hd 49 rfl) ?_; refine jo_l (ly_neg rfl (r := -u) (by rw [wrap_i64 (by omega) (by omega)]; omega)) (hd 50 rfl) ?_; refine jo_l (ly_as rfl) (hd 5 rfl) ?_; refine jo_nil ?_; refine jc_seq ?_; refine jc_region ?_; refine jo_l (ly_lda agg35 rfl rfl rfl rfl) (hd 51 rfl) ?_; refine jo_l (ly_lda agg35 rfl rfl rfl rfl) (hd 52 rfl) ?_; refine jo_st (sy_store rfl rfl rfl siz35 rfl rfl (Nat.le_of_ble_eq_true rfl)) ?_; refine jo_st (sy_store rfl rfl rfl siz35 rfl rfl (Nat.le_of_ble_eq_true rfl)) ?_; refine jo_nil ?_; refine jc_region ?_; refine jo_l (ly_lda agg35 rfl rfl rfl rfl) (hd 54 rfl) ?_; refine jo_l (ly_lda agg35 rfl rfl rfl rfl) (hd 55 rfl) ?_
              refine jo_call Tryd.f72 (rEuc_n m y (by omega) (by omega) (by omega)) rfl Tryd.func72 rfl rfl (ovL_cons rfl (ovL_cons rfl ovL_nil)) (.cons (.a1 .b (.a1 .n .a0)) (.cons (.a1 .b (.a1 .n .a0)) .nil)) (hd 56 rfl) ?_ (fun ch hp => by simp at hp)
              rintro y hy; injection hy with hy; subst hy; refine jo_l (ly_mv rfl) (hd 53 rfl) ?_; refine jo_l (ly_ext rfl rfl) (hd 57 rfl) ?_; refine jo_l (ly_ext rfl rfl) (hd 58 rfl) ?_; refine jo_st (sy_store rfl rfl rfl siz35 rfl rfl (Nat.le_of_ble_eq_true rfl)) ?_; refine jo_nil ?_
              refine ⟨(m % y, y, fl4 y m u), ?_, ?_, rfl, cov_n 102 (by kernel_rfl) (by kernel_rfl) ?_⟩
              · exact ⟨by rw [← hd1]; exact (jf_odd hyo).symm, fl4_r hd2x, hyo, Nat.lt_of_le_of_lt (digs_mono (b := B32) (by decide) _ _ (Nat.le_of_lt (Nat.mod_lt m hd3))) hd5, hd5⟩
              · exact Nat.lt_of_lt_of_le (Nat.mod_lt m hd3) hd4
              · exact (.cons (by show some (V.i _ _) = some (V.i _ _); rw [h4]) (.u (.u (.u (.u (.u (.u (.u (.u (.u (.u (.u (.u (.u (.u (.u (.u (.u (.u (.u (.u (.u (.u (.u (.u (.u (.u (.u (.u (.u (.u (.u (.u (.u (.u (.u (.u (.u (.u (.u (.u (.u (.u (.u (.u (.u (.u (.u .nil))))))))))))))))))))))))))))))))))))))))))))))))
            · have h4 : fl4 y m u = u := by have h9 : ¬ ((m / 2 ^ 1 % 2 : Nat) : Int) = 1 := h5; rw [Nat.pow_one] at h9; unfold fl4; rw [if_neg (by omega)]
              refine jc_skip ?_; refine jc_seq ?_; refine jc_region ?_; refine jo_l (ly_lda agg35 rfl rfl rfl rfl) (hd 51 rfl) ?_; refine jo_l (ly_lda agg35 rfl rfl rfl rfl) (hd 52 rfl) ?_; refine jo_st (sy_store rfl rfl rfl siz35 rfl rfl (Nat.le_of_ble_eq_true rfl)) ?_; refine jo_st (sy_store rfl rfl rfl siz35 rfl rfl (Nat.le_of_ble_eq_true rfl)) ?_; refine jo_nil ?_; refine jc_region ?_; refine jo_l (ly_lda agg35 rfl rfl rfl rfl) (hd 54 rfl) ?_; refine jo_l (ly_lda agg35 rfl rfl rfl rfl) (hd 55 rfl) ?_
              refine jo_call Tryd.f72 (rEuc_n m y (by omega) (by omega) (by omega)) rfl Tryd.func72 rfl rfl (ovL_cons rfl (ovL_cons rfl ovL_nil)) (.cons (.a1 .b (.a1 .n .a0)) (.cons (.a1 .b (.a1 .n .a0)) .nil)) (hd 56 rfl) ?_ (fun ch hp => by simp at hp)
              rintro y hy; injection hy with hy; subst hy; refine jo_l (ly_mv rfl) (hd 53 rfl) ?_; refine jo_l (ly_ext rfl rfl) (hd 57 rfl) ?_; refine jo_l (ly_ext rfl rfl) (hd 58 rfl) ?_; refine jo_st (sy_store rfl rfl rfl siz35 rfl rfl (Nat.le_of_ble_eq_true rfl)) ?_; refine jo_nil ?_
              refine ⟨(m % y, y, fl4 y m u), ?_, ?_, rfl, cov_n 99 rfl rfl ?_⟩
              · exact ⟨by rw [← hd1]; exact (jf_odd hyo).symm, fl4_r hd2x, hyo, Nat.lt_of_le_of_lt (digs_mono (b := B32) (by decide) _ _ (Nat.le_of_lt (Nat.mod_lt m hd3))) hd5, hd5⟩
              · exact Nat.lt_of_lt_of_le (Nat.mod_lt m hd3) hd4
              · exact (.cons (by show some (V.i _ _) = some (V.i _ _); rw [h4]) (.u (.u (.u (.u (.u (.u (.u (.u (.u (.u (.u (.u (.u (.u (.u (.u (.u (.u (.u (.u (.u (.u (.u (.u (.u (.u (.u (.u (.u (.u (.u (.u (.u (.u (.u (.u (.u (.u (.u (.u (.u (.u (.u (.u (.u (.u (.u .nil))))))))))))))))))))))))))))))))))))))))))))))))
          · have h4 : fl4 y m u = u := by have h9 : ¬ ((y / 2 ^ 1 % 2 : Nat) : Int) = 1 := h4; rw [Nat.pow_one] at h9; unfold fl4; rw [if_neg (by omega)]
            refine jo_s 43 rfl rfl rfl (hd 44 rfl) ?_; refine jo_s 43 rfl rfl rfl (hd 45 rfl) ?_; refine jo_s 43 rfl rfl rfl (hd 46 rfl) ?_; refine jo_s 43 rfl rfl rfl (hd 47 rfl) ?_; refine jo_l (ly_pick_f rfl rfl) (hd 48 rfl) ?_; refine jo_nil ?_; refine jc_litf rfl ?_; refine jc_skip ?_; refine jc_seq ?_; refine jc_region ?_; refine jo_l (ly_lda agg35 rfl rfl rfl rfl) (hd 51 rfl) ?_; refine jo_l (ly_lda agg35 rfl rfl rfl rfl) (hd 52 rfl) ?_; refine jo_st (sy_store rfl rfl rfl siz35 rfl rfl (Nat.le_of_ble_eq_true rfl)) ?_; refine jo_st (sy_store rfl rfl rfl siz35 rfl rfl (Nat.le_of_ble_eq_true rfl)) ?_; refine jo_nil ?_; refine jc_region ?_; refine jo_l (ly_lda agg35 rfl rfl rfl rfl) (hd 54 rfl) ?_; refine jo_l (ly_lda agg35 rfl rfl rfl rfl) (hd 55 rfl) ?_
            refine jo_call Tryd.f72 (rEuc_n m y (by omega) (by omega) (by omega)) rfl Tryd.func72 rfl rfl (ovL_cons rfl (ovL_cons rfl ovL_nil)) (.cons (.a1 .b (.a1 .n .a0)) (.cons (.a1 .b (.a1 .n .a0)) .nil)) (hd 56 rfl) ?_ (fun ch hp => by simp at hp)
            rintro y hy; injection hy with hy; subst hy; refine jo_l (ly_mv rfl) (hd 53 rfl) ?_; refine jo_l (ly_ext rfl rfl) (hd 57 rfl) ?_; refine jo_l (ly_ext rfl rfl) (hd 58 rfl) ?_; refine jo_st (sy_store rfl rfl rfl siz35 rfl rfl (Nat.le_of_ble_eq_true rfl)) ?_; refine jo_nil ?_
            refine ⟨(m % y, y, fl4 y m u), ?_, ?_, rfl, cov_n 99 rfl rfl ?_⟩
            · exact ⟨by rw [← hd1]; exact (jf_odd hyo).symm, fl4_r hd2x, hyo, Nat.lt_of_le_of_lt (digs_mono (b := B32) (by decide) _ _ (Nat.le_of_lt (Nat.mod_lt m hd3))) hd5, hd5⟩
            · exact Nat.lt_of_lt_of_le (Nat.mod_lt m hd3) hd4
            · exact (.cons (by show some (V.i _ _) = some (V.i _ _); rw [h4]) (.u (.u (.u (.u (.u (.u (.u (.u (.u (.u (.u (.u (.u (.u (.u (.u (.u (.u (.u (.u (.u (.u (.u (.u (.u (.u (.u (.u (.u (.u (.u (.u (.u (.u (.u (.u (.u (.u (.u (.u (.u (.u (.u (.u (.u (.u (.u .nil))))))))))))))))))))))))))))))))))))))))))))))))
    · have hx0 : x = 0 := by have h9 := sgnI_0.1 (Decidable.not_not.1 h1); omega
      subst hx0
      rw [jf_0] at hc1
      refine jc_exit ?_; refine jc_seq ?_; refine jc_seq ?_; refine jc_region ?_; refine jo_l (ly_fa fld35_1 rfl rfl rfl) (hd 59 rfl) ?_; refine jo_l (ly_ld one33 rfl rfl rfl) (hd 60 rfl) ?_
      refine jo_call Tryd.f49 (Len_s (m : Int) (by show (digs B32 m).length < _; omega)) rfl Tryd.func49 rfl rfl (ovL_cons rfl ovL_nil) (.cons .n .nil) (hd 61 rfl) ?_ (fun ch hp => by simp at hp)
      rintro y hy; injection hy with hy; subst hy; refine jo_l (ly_ne rfl rfl) (hd 62 rfl) ?_; refine jo_nil ?_
      refine jc_if rfl (fun h7 => ?_) (fun h7 => ?_)
      · have hm1 : m ≠ 1 := fun e => h7 (by subst e; decide +kernel)
        rw [if_neg hm1] at hc1
        refine jc_seq ?_; refine jc_region ?_; refine jo_l (ly_as rfl) (hd 4 rfl) ?_; refine jo_nil ?_; refine jc_ret ?_
        refine ⟨_, _, (.cons rfl .nil), .i, ?_⟩
        rw [hc1]
      · have hm1 : m = 1 := by have h9 := (lenV_1 (g := (m : Int)) (by omega) (by omega)); have h7 : ((lenV (m : Int) : Nat) : Int) = 1 := Decidable.not_not.1 h7; omega
        rw [if_pos hm1] at hc1
        refine jc_skip ?_; refine jc_seq ?_; refine jc_region ?_; refine jo_l (ly_mv rfl) (hd 63 rfl) ?_; refine jo_l (ly_as rfl) (hd 4 rfl) ?_; refine jo_nil ?_; refine jc_ret ?_
        refine ⟨_, _, (.cons rfl .nil), .i, ?_⟩
        rw [hc1]
end Go.Proofs.YtaogaegchagbfaaDoor.Vc

/- Contract of whole.Jacobi. -/
namespace Go.Proofs.YtaogaegchagbfaaDoor.Vc
open Go Go.RowKit
set_option maxHeartbeats 4000000 in
theorem Jacobi_y (sa sb : Bool) (a b : List Int) (v w : Int) (la : a.length < 4294967296) (lb : b.length < 4294967296) (ua : u64s a) (ub : u64s b) (ev : sv sa a = v) (ew : sv sb b = w) (hv : lenV v ≤ 67108864) (hw : lenV w ≤ 67108864) (h0 : 0 < w) (h2 : w.natAbs % 2 = 1) : SpecT Tryd.prog 31 0 tzCells [.a [.b sa, .n false .u64 a], .a [.b sb, .n false .u64 b]] (fun o => o = .ret (.t [.i .i64 (jf (v % w).toNat w.toNat 1), .i .i64 0])) := by
  refine specT_of [(0, .a [.b sa, .n false .u64 a]), (1, .a [.b sb, .n false .u64 b])] rfl Tryd.func31 rfl (Nat.le_of_ble_eq_true rfl) fun Γ hTb hN hds hL hR => ?_
  have hd : ∀ d, Nat.blt d 97 = true → d < Γ.N := fun d h => by rw [hN]; exact Nat.le_of_ble_eq_true h
  have hlv := lenV_lm hv
  have hlw := lenV_lm hw
  have htb := raw_res ub ew
  have hNo : Spec Tryd.prog 59 [.a [.b sb, .n false .u64 b]] (fun o => o = .ret (.a [.b (decide (w < 0)), .n true .u64 (lm w)])) := by have h := norm_s sb b (by omega); rw [htb.1, htb.2.1] at h; exact h
  have hBt : Spec Tryd.prog 43 [.n false .u64 (lm w), .i .i64 0] (fun o => o = .ret (.i .i64 ((w.natAbs % 2 : Nat) : Int))) := by have h := Bit_r (lm w) 0 (by omega) (lm_u w) (by decide); rw [lm_v, Nat.pow_zero, Nat.div_one, Int.toNat_natCast] at h; exact h
  have hw1 : 0 < w := by omega
  have hrn := Int.emod_nonneg v (show w ≠ 0 by omega)
  have hrl := Int.emod_lt_of_pos v hw1
  have hre : v % w = (((v % w).toNat : Nat) : Int) := (Int.toNat_of_nonneg hrn).symm
  have hwe : w = ((w.toNat : Nat) : Int) := (Int.toNat_of_nonneg (by omega)).symm
  have hlr : lenV (((v % w).toNat : Nat) : Int) ≤ 67108864 := Nat.le_trans (lenV_mono (w := w) (by omega)) hw
  have hEu : Spec Tryd.prog 69 [.a [.b sa, .n false .u64 a], .a [.b (decide (w < 0)), .n false .u64 (lm w)]] (fun o => o = .ret (.t [.a [.b (decide ((wq 4 v w) < 0)), .n true .u64 (lm (wq 4 v w))], .a [.b (decide (v % w < 0)), .n true .u64 (lm (((v % w).toNat : Nat) : Int))], .i .i64 0])) := by have h := Euclid_z sa (decide (w < 0)) a (lm w) v w (by omega) (by omega) ua (lm_u w) ev (sv_lm w) hv hw (by omega); rwa [euc (by omega), show lm (v % w) = (lm (((v % w).toNat : Nat) : Int)) from congrArg lm hre] at h
  refine jc_seq ?_; refine jc_region ?_; refine jo_h (hy_box (id := 0) (n := 2) rfl rfl rfl (by decide) rfl) (hd 2 rfl) ?_; refine jo_h (hy_box (id := 1) (n := 2) rfl rfl rfl (by decide) rfl) (hd 3 rfl) ?_; refine jo_l (ly_as rfl) (hd 4 rfl) ?_; refine jo_l (ly_as rfl) (hd 5 rfl) ?_; refine jo_nil ?_; refine jc_seq ?_; refine jc_region ?_; refine jo_l (ly_lda agg30 rfl rfl rfl rfl) (hd 14 rfl) ?_
  refine jo_call Tryd.f59 (hNo) rfl Tryd.func59 rfl rfl (ovL_cons rfl ovL_nil) (.cons (.a1 .b (.a1 .n .a0)) .nil) (hd 15 rfl) ?_ (fun ch hp => by simp at hp)
  rintro y hy; injection hy with hy; subst hy; refine jo_st (sy_store rfl rfl rfl siz30 rfl rfl (Nat.le_of_ble_eq_true rfl)) ?_; refine jo_nil ?_; refine jc_seq ?_; refine jc_seq ?_; refine jc_H (H' := [⟨27, 2, 0, true, [.b sa, .n false .u64 a]⟩, ⟨27, 2, 0, true, [.b (decide (w < 0)), .n true .u64 (lm w)]⟩]) rfl ?_; refine jc_region ?_; refine jo_l (ly_fa fld30_0 rfl rfl rfl) (hd 16 rfl) ?_; refine jo_l (ly_ff (ly_ld one4 rfl rfl rfl) (by omega)) (hd 17 rfl) ?_; refine jo_l (ly_mv rfl) (hd 18 rfl) ?_; refine jo_g 18 rfl rfl (ly_fa fld30_1 rfl rfl rfl) (hd 19 rfl) ?_; refine jo_g 18 rfl rfl (ly_ld one28 rfl rfl rfl) (hd 20 rfl) ?_
  refine jo_callg Tryd.f43 18 rfl rfl (hBt) rfl Tryd.func43 rfl rfl (ovL_cons rfl (ovL_cons rfl ovL_nil)) (.cons .n (.cons .i .nil)) (hd 21 rfl) ?_ (fun ch hp => by simp at hp)
  rintro y hy; injection hy with hy; subst hy; refine jo_g 18 rfl rfl (ly_ff (ly_eq rfl rfl) (by omega)) (hd 22 rfl) ?_; refine jo_l (ly_pick_f rfl rfl) (hd 23 rfl) ?_; refine jo_nil ?_; refine jc_litf rfl ?_; refine jc_skip ?_; refine jc_seq ?_; refine jc_region ?_; refine jo_l (ly_lda agg30 rfl rfl rfl rfl) (hd 25 rfl) ?_; refine jo_l (ly_lda agg30 rfl rfl rfl rfl) (hd 26 rfl) ?_
  refine jo_call Tryd.f69 (hEu) rfl Tryd.func69 rfl rfl (ovL_cons rfl (ovL_cons rfl ovL_nil)) (.cons (.a1 .b (.a1 .n .a0)) (.cons (.a1 .b (.a1 .n .a0)) .nil)) (hd 27 rfl) ?_ (fun ch hp => by simp at hp)
  rintro y hy; injection hy with hy; subst hy; refine jo_l (ly_mv rfl) (hd 24 rfl) ?_; refine jo_l (ly_ext rfl rfl) (hd 28 rfl) ?_; refine jo_l (ly_ext rfl rfl) (hd 29 rfl) ?_; refine jo_l (ly_ext rfl rfl) (hd 30 rfl) ?_; refine jo_h (hy_alloc (id := 2) zero30 (by decide) rfl (by decide) rfl) (hd 6 rfl) ?_; refine jo_h (hy_alloc (id := 3) zero30 (by decide) rfl (by decide) rfl) (hd 7 rfl) ?_; refine jo_st (sy_store rfl rfl rfl siz30 rfl rfl (Nat.le_of_ble_eq_true rfl)) ?_; refine jo_st (sy_store rfl rfl rfl siz30 rfl rfl (Nat.le_of_ble_eq_true rfl)) ?_; refine jo_l (ly_as rfl) (hd 8 rfl) ?_; refine jo_nil ?_; refine jc_seq ?_; refine jc_seq ?_; refine jc_region ?_; refine jo_l (ly_mv rfl) (hd 31 rfl) ?_; refine jo_l (ly_ff (ly_ne rfl rfl) (by decide)) (hd 32 rfl) ?_; refine jo_nil ?_; refine jc_litf rfl ?_; refine jc_skip ?_; refine jc_seq ?_; refine jc_H (H' := [⟨27, 2, 0, true, [.b sa, .n false .u64 a]⟩, ⟨27, 2, 0, true, [.b (decide (w < 0)), .n true .u64 (lm w)]⟩, ⟨27, 2, 0, true, [.b (decide ((wq 4 v w) < 0)), .n true .u64 (lm (wq 4 v w))]⟩, ⟨27, 2, 0, true, [.b (decide (v % w < 0)), .n true .u64 (lm (((v % w).toNat : Nat) : Int))]⟩]) rfl ?_; refine jc_draw (n := 6) _ rfl mixed ?_; refine ja_l 0 (lo_l (ly_fa fld30_1 rfl rfl rfl) (hd 34 rfl)) rfl (by kernel_rfl) (by kernel_rfl) (by kernel_rfl) (fun _ _ _ _ h => h) ?_; refine ja_l 1 (lo_l (ly_ld one28 rfl rfl rfl) (hd 35 rfl)) rfl (by kernel_rfl) (by kernel_rfl) (by kernel_rfl) (fun _ _ _ _ h => h) ?_; refine ja_l 2 (lo_l (ly_fa fld30_1 rfl rfl rfl) (hd 36 rfl)) rfl (by kernel_rfl) (by kernel_rfl) (by kernel_rfl) (fun _ _ _ _ h => h) ?_; refine ja_l 3 (lo_l (ly_ld one28 rfl rfl rfl) (hd 37 rfl)) rfl (by kernel_rfl) (by kernel_rfl) (by kernel_rfl) (fun _ _ _ _ h => h) ?_; refine ja_l 4 (lo_l (ly_as rfl) (hd 9 rfl)) rfl (by kernel_rfl) (by kernel_rfl) (by kernel_rfl) (fun _ _ _ _ h => h) ?_; refine ja_l 5 (lo_l (ly_as rfl) (hd 10 rfl)) rfl (by kernel_rfl) (by kernel_rfl) (by kernel_rfl) (fun _ _ _ _ h => h) ?_; refine ja_nil (by kernel_rfl) ?_; refine jc_seq ?_; refine jc_weakn 9 rfl ?_; refine jc_weakn 10 rfl ?_; refine jc_region ?_; refine jo_l (ly_as rfl) (hd 11 rfl) ?_; refine jo_nil ?_; refine jc_seq ?_; refine jc_block ?_
  refine jc_loopF (G := Nat × Nat × Int) (fun g => jf g.1 g.2.1 g.2.2 = (jf (v % w).toNat w.toNat 1) ∧ (g.2.2 = 1 ∨ g.2.2 = -1) ∧ g.2.1 % 2 = 1 ∧ lenV (g.1 : Int) ≤ 67108864 ∧ lenV (g.2.1 : Int) ≤ 67108864) (fun g => [(8, .i .i64 0), (9, .n false .u64 (lm (g.1 : Int))), (10, .n false .u64 (lm (g.2.1 : Int))), (11, .i .i64 g.2.2), (4, .u), (5, .u), (12, .u), (13, .u), (38, .u), (39, .u), (40, .u), (41, .u), (42, .u), (43, .u), (44, .u), (45, .u), (46, .u), (47, .u), (48, .u), (49, .u), (50, .u), (51, .u), (52, .u), (53, .u), (54, .u), (55, .u), (56, .u), (57, .u), (58, .u), (59, .u), (60, .u), (61, .u), (62, .u), (63, .u), (64, .u), (65, .u), (66, .u), (67, .u), (68, .u), (69, .u), (70, .u), (71, .u), (72, .u), (73, .u), (74, .u), (75, .u), (76, .u), (77, .u), (78, .u), (79, .u), (80, .u), (81, .u), (82, .u), (83, .u), (84, .u), (85, .u), (86, .u), (87, .u), (88, .u), (89, .u), (90, .u), (91, .u), (92, .u)]) (fun g => [⟨27, 2, 0, true, [.b sa, .n false .u64 a]⟩, ⟨27, 2, 0, true, [.b (decide (w < 0)), .n true .u64 (lm w)]⟩, ⟨27, 2, 0, true, [.b (decide ((wq 4 v w) < 0)), .n true .u64 (lm (wq 4 v w))]⟩, ⟨27, 2, 0, true, [.b (decide (v % w < 0)), .n true .u64 (lm (((v % w).toNat : Nat) : Int))]⟩]) (fun g => g.1) ((v % w).toNat, w.toNat, 1) ?_ ?_ rfl ?_
  · exact ⟨rfl, .inl rfl, by dsimp only; omega, hlr, by rw [← hwe]; exact hw⟩
  · exact (.cons rfl (.cons rfl (.cons (by show some (V.n _ _ _) = some (V.n _ _ _); rw [← hwe]) (.cons rfl (.u (.u (.u (.u (.u (.u (.u (.u (.u (.u (.u (.u (.u (.u (.u (.u (.u (.u (.u (.u (.u (.u (.u (.u (.u (.u (.u (.u (.u (.u (.u (.u (.u (.u (.u (.u (.u (.u (.u (.u (.u (.u (.u (.u (.u (.u (.u (.u (.u (.u (.u (.u (.u (.u (.u (.u (.u (.u (.u .nil)))))))))))))))))))))))))))))))))))))))))))))))))))))))))))))))
  · rintro ⟨x, m, sg⟩ ⟨hc1, hc2, hc3, hc4, hc5⟩
    dsimp only at hc1 hc2 hc3 hc4 hc5 ⊢
    have hmx := lenV_lm hc4
    have hmm := lenV_lm hc5
    have hmp := List.length_pos_iff.2 (lm_ne (show (m : Int) ≠ 0 by omega))
    refine jc_seq ?_; refine jc_seq ?_; refine jc_region ?_; refine jo_l (ly_mv rfl) (hd 38 rfl) ?_; refine jo_l (ly_lenn sl28 rfl) (hd 39 rfl) ?_; refine jo_l (ly_gt rfl rfl) (hd 40 rfl) ?_; refine jo_nil ?_
    refine jc_if rfl (fun h3 => ?_) (fun h3 => ?_)
    · have hx0 : x ≠ 0 := fun e => by subst e; have h9 : (0 : Int) < ((lm ((0 : Nat) : Int)).length : Int) := h3; rw [show ((0 : Nat) : Int) = 0 from rfl, lm_0] at h9; simp at h9
      have hod1 := od_mod (x := x) (by omega)
      have hodl := @od_le x
      have hlod : lenV ((od x : Nat) : Int) ≤ 67108864 := Nat.le_trans (lenV_mono (by omega)) hc4
      have hmo := lenV_lm hlod
      have hop := List.length_pos_iff.2 (lm_ne (show ((od x : Nat) : Int) ≠ 0 by omega))
      have hxl : tz x < lenV (x : Int) := tz_lt (by omega) (by have h9 := nbits_le.1 (Nat.le_refl (lenV (x : Int))); rwa [Int.natAbs_natCast] at h9)
      have hl64 : lenV (x : Int) ≤ 64 * (lm (x : Int)).length := by have h9 := lenV_64 (s := false) (lm_u (x : Int)); rwa [show sv false (lm (x : Int)) = (x : Int) from vl_lm (Int.natCast_nonneg _)] at h9
      have hTl : SpecT Tryd.prog 45 0 tzCells [.n false .u64 (lm (x : Int))] (fun o => o = .ret (.i .i64 ((tz x : Nat) : Int))) := by have h := nTail_s (lm (x : Int)) (by omega) (lm_u _); rwa [vl_lm (Int.natCast_nonneg _), Int.toNat_natCast] at h
      have hRt : Spec Tryd.prog 67 [.n false .u64 (lm (x : Int)), .i .i64 ((tz x : Nat) : Int)] (fun o => o = .ret (.t [.n false .u64 (lm ((od x : Nat) : Int)), .i .i64 0])) := Right_v x (tz x) hc4 (by omega)
      refine jc_skip ?_; refine jc_block ?_
      refine jc_meetH (G := Unit) (fun _ => True) (fun _ => [(9, .n false .u64 (lm ((od x : Nat) : Int))), (11, .i .i64 (flt x m sg)), (12, .u), (13, .u), (41, .u), (42, .u), (43, .u), (44, .u), (45, .u), (46, .u), (47, .u), (48, .u), (49, .u), (50, .u), (51, .u), (52, .u), (53, .u), (54, .u), (55, .u), (56, .u), (57, .u), (58, .u), (59, .u), (60, .u), (61, .u), (62, .u), (63, .u), (64, .u), (65, .u), (66, .u), (67, .u)]) ?_ ?_
      · refine jc_seq ?_; refine jc_region ?_; refine jo_l (ly_mv rfl) (hd 41 rfl) ?_
        refine jo_callT Tryd.f45 (hTl) hL hTb rfl Tryd.func45 rfl rfl (ovL_cons rfl ovL_nil) (.cons .n .nil) (hd 42 rfl) ?_ (fun ch hp => by simp at hp)
        rintro y hy; injection hy with hy; subst hy; refine jo_l (ly_as rfl) (hd 12 rfl) ?_; refine jo_nil ?_; refine jc_seq ?_; refine jc_region ?_; refine jo_l (ly_mv rfl) (hd 43 rfl) ?_; refine jo_l (ly_gt rfl rfl) (hd 44 rfl) ?_; refine jo_nil ?_
        refine jc_if rfl (fun h4 => ?_) (fun h4 => ?_)
        · refine jc_seq ?_; refine jc_region ?_; refine jo_l (ly_mv rfl) (hd 46 rfl) ?_; refine jo_l (ly_mv rfl) (hd 47 rfl) ?_
          refine jo_call Tryd.f67 (hRt) rfl Tryd.func67 rfl rfl (ovL_cons rfl (ovL_cons rfl ovL_nil)) (.cons .n (.cons .i .nil)) (hd 48 rfl) ?_ (fun ch hp => by simp at hp)
          rintro y hy; injection hy with hy; subst hy; refine jo_l (ly_mv rfl) (hd 45 rfl) ?_; refine jo_l (ly_ext rfl rfl) (hd 49 rfl) ?_; refine jo_l (ly_ext rfl rfl) (hd 50 rfl) ?_; refine jo_l (ly_as rfl) (hd 9 rfl) ?_; refine jo_nil ?_; refine jc_seq ?_; refine jc_region ?_; refine jo_l (ly_mv rfl) (hd 51 rfl) ?_; refine jo_l (ly_ian (i := 0) sl28 rfl rfl rfl (by omega)) (hd 52 rfl) ?_; refine jo_l (ly_is (ly_ldq one82 rfl rfl) (by show V.i .u64 _ = V.i .u64 (((m % 18446744073709551616 : Nat) : Int)); exact congrArg (V.i .u64) lm_low)) (hd 53 rfl) ?_; refine jo_l (ly_is (ly_bit (by simp) rfl rfl rfl) (by show V.i .u64 _ = V.i .u64 (((m % 8 : Nat) : Int)); exact congrArg (V.i .u64) ((and_7 (Nat.mod_lt _ (by decide))).trans (by omega)))) (hd 54 rfl) ?_; refine jo_l (ly_as rfl) (hd 13 rfl) ?_; refine jo_nil ?_; refine jc_seq ?_; refine jc_region ?_; refine jo_l (ly_mv rfl) (hd 55 rfl) ?_; refine jo_l (ly_is (ly_rem rfl rfl (by decide) rfl) (show V.i .i64 (((tz x : Nat) : Int).tmod 2) = V.i .i64 ((tz x % 2 : Nat) : Int) from rfl)) (hd 56 rfl) ?_; refine jo_l (ly_eq rfl rfl) (hd 57 rfl) ?_; refine jo_l (ly_mv rfl) (hd 58 rfl) ?_
          refine jo_ifp 58 rfl (fun h5 => ?_) (fun h5 => ?_)
          · have hto : tz x % 2 = 1 := by have h9 : ((tz x % 2 : Nat) : Int) = 1 := h5; omega
            refine jo_g 58 rfl rfl (ly_mv rfl) (hd 59 rfl) ?_; refine jo_g 58 rfl rfl (ly_eq rfl rfl) (hd 60 rfl) ?_; refine jo_g 58 rfl rfl (ly_mv rfl) (hd 61 rfl) ?_
            refine jo_ifp 61 rfl (fun h6 => ?_) (fun h6 => ?_)
            · have hfl : flt x m sg = -sg := by have h9 : ((m % 8 : Nat) : Int) = 3 := h6; unfold flt fl8; rw [if_pos hto, if_pos (by omega)]
              refine jo_s 61 rfl rfl rfl (hd 62 rfl) ?_; refine jo_s 61 rfl rfl rfl (hd 63 rfl) ?_; refine jo_g 58 rfl rfl (ly_pick_t rfl rfl) (hd 64 rfl) ?_; refine jo_l (ly_pick_t rfl rfl) (hd 65 rfl) ?_; refine jo_nil ?_; refine jc_litt rfl ?_; refine jc_region ?_; refine jo_l (ly_mv rfl) (hd 66 rfl) ?_; refine jo_l (ly_neg rfl (r := -sg) (by rw [wrap_i64 (by omega) (by omega)]; omega)) (hd 67 rfl) ?_; refine jo_l (ly_as rfl) (hd 11 rfl) ?_; refine jo_nil ?_
              refine ⟨(), ?_, rfl, cov_n 33 rfl rfl ?_⟩
              · trivial
              · exact (.cons (by show some (V.n _ _ _) = some (V.n _ _ _); first | rfl | rw [hox]) (.cons (by show some (V.i _ _) = some (V.i _ _); rw [hfl]) (.u (.u (.u (.u (.u (.u (.u (.u (.u (.u (.u (.u (.u (.u (.u (.u (.u (.u (.u (.u (.u (.u (.u (.u (.u (.u (.u (.u (.u .nil)))))))))))))))))))))))))))))))
            · have h83 : ¬ m % 8 = 3 := by have h9 : ¬ ((m % 8 : Nat) : Int) = 3 := h6; omega
              refine jo_g 61 rfl rfl (ly_mv rfl) (hd 62 rfl) ?_; refine jo_g 61 rfl rfl (ly_eq rfl rfl) (hd 63 rfl) ?_; refine jo_g 58 rfl rfl (ly_pick_f rfl rfl) (hd 64 rfl) ?_; refine jo_l (ly_pick_t rfl rfl) (hd 65 rfl) ?_; refine jo_nil ?_
              refine jc_if rfl (fun h8 => ?_) (fun h8 => ?_)
              · have hfl : flt x m sg = -sg := by have h9 : ((m % 8 : Nat) : Int) = 5 := h8; unfold flt fl8; rw [if_pos hto, if_pos (by omega)]
                refine jc_region ?_; refine jo_l (ly_mv rfl) (hd 66 rfl) ?_; refine jo_l (ly_neg rfl (r := -sg) (by rw [wrap_i64 (by omega) (by omega)]; omega)) (hd 67 rfl) ?_; refine jo_l (ly_as rfl) (hd 11 rfl) ?_; refine jo_nil ?_
                refine ⟨(), ?_, rfl, cov_n 33 rfl rfl ?_⟩
                · trivial
                · exact (.cons (by show some (V.n _ _ _) = some (V.n _ _ _); first | rfl | rw [hox]) (.cons (by show some (V.i _ _) = some (V.i _ _); rw [hfl]) (.u (.u (.u (.u (.u (.u (.u (.u (.u (.u (.u (.u (.u (.u (.u (.u (.u (.u (.u (.u (.u (.u (.u (.u (.u (.u (.u (.u (.u .nil)))))))))))))))))))))))))))))))
              · have hfl : flt x m sg = sg := by have h9 : ¬ ((m % 8 : Nat) : Int) = 5 := h8; unfold flt fl8; rw [if_pos hto, if_neg (by omega)]
                refine jc_skip ?_
                refine ⟨(), ?_, rfl, cov_n 30 rfl rfl ?_⟩
                · trivial
                · exact (.cons (by show some (V.n _ _ _) = some (V.n _ _ _); first | rfl | rw [hox]) (.cons (by show some (V.i _ _) = some (V.i _ _); rw [hfl]) (.u (.u (.u (.u (.u (.u (.u (.u (.u (.u (.u (.u (.u (.u (.u (.u (.u (.u (.u (.u (.u (.u (.u (.u (.u (.u (.u (.u (.u .nil)))))))))))))))))))))))))))))))
          · have hfl : flt x m sg = sg := by have h9 : ¬ ((tz x % 2 : Nat) : Int) = 1 := h5; unfold flt; rw [if_neg (by omega)]
            refine jo_s 58 rfl rfl rfl (hd 59 rfl) ?_; refine jo_s 58 rfl rfl rfl (hd 60 rfl) ?_; refine jo_s 58 rfl rfl rfl (hd 61 rfl) ?_; refine jo_s' 61 rfl rfl (hd 62 rfl) ?_; refine jo_s' 61 rfl rfl (hd 63 rfl) ?_; refine jo_s 58 rfl rfl rfl (hd 64 rfl) ?_; refine jo_l (ly_pick_f rfl rfl) (hd 65 rfl) ?_; refine jo_nil ?_; refine jc_litf rfl ?_; refine jc_skip ?_
            refine ⟨(), ?_, rfl, cov_n 29 rfl rfl ?_⟩
            · trivial
            · exact (.cons (by show some (V.n _ _ _) = some (V.n _ _ _); first | rfl | rw [hox]) (.cons (by show some (V.i _ _) = some (V.i _ _); rw [hfl]) (.u (.u (.u (.u (.u (.u (.u (.u (.u (.u (.u (.u (.u (.u (.u (.u (.u (.u (.u (.u (.u (.u (.u (.u (.u (.u (.u (.u (.u .nil)))))))))))))))))))))))))))))))
        · have htz : tz x = 0 := by omega
          have hox : od x = x := by unfold od; rw [htz, Nat.pow_zero, Nat.div_one]
          have hfl : flt x m sg = sg := by unfold flt; rw [if_neg (by omega)]
          refine jc_skip ?_
          refine ⟨(), ?_, rfl, cov_n 5 rfl rfl ?_⟩
          · trivial
          · exact (.cons (by show some (V.n _ _ _) = some (V.n _ _ _); first | rfl | rw [hox]) (.cons (by show some (V.i _ _) = some (V.i _ _); rw [hfl]) (.u (.u (.u (.u (.u (.u (.u (.u (.u (.u (.u (.u (.u (.u (.u (.u (.u (.u (.u (.u (.u (.u (.u (.u (.u (.u (.u (.u (.u .nil)))))))))))))))))))))))))))))))
      · rintro _ _; refine jc_seq ?_; refine jc_seq ?_
        have hf1 := flt_r (x := x) (m := m) hc2
        refine jc_region ?_; refine jo_l (ly_mv rfl) (hd 68 rfl) ?_; refine jo_l (ly_ian (i := 0) sl28 rfl rfl rfl (by omega)) (hd 69 rfl) ?_; refine jo_l (ly_is (ly_ldq one82 rfl rfl) (by show V.i .u64 _ = V.i .u64 (((od x % 18446744073709551616 : Nat) : Int)); exact congrArg (V.i .u64) lm_low)) (hd 70 rfl) ?_; refine jo_l (ly_is (ly_bit (by simp) rfl rfl rfl) (by show V.i .u64 _ = V.i .u64 (((od x % 4 : Nat) : Int)); exact congrArg (V.i .u64) ((and_3 (Nat.mod_lt _ (by decide))).trans (by omega)))) (hd 71 rfl) ?_; refine jo_l (ly_eq rfl rfl) (hd 72 rfl) ?_; refine jo_l (ly_mv rfl) (hd 73 rfl) ?_
        refine jo_ifp 73 rfl (fun h10 => ?_) (fun h10 => ?_)
        · have hx4 : od x % 4 = 3 := by have h9 : ((od x % 4 : Nat) : Int) = 3 := h10; omega
          refine jo_g 73 rfl rfl (ly_mv rfl) (hd 74 rfl) ?_; refine jo_g 73 rfl rfl (ly_ian (i := 0) sl28 rfl rfl rfl (by omega)) (hd 75 rfl) ?_; refine jo_g 73 rfl rfl (ly_is (ly_ldq one82 rfl rfl) (by show V.i .u64 _ = V.i .u64 (((m % 18446744073709551616 : Nat) : Int)); exact congrArg (V.i .u64) lm_low)) (hd 76 rfl) ?_; refine jo_g 73 rfl rfl (ly_is (ly_bit (by simp) rfl rfl rfl) (by show V.i .u64 _ = V.i .u64 (((m % 4 : Nat) : Int)); exact congrArg (V.i .u64) ((and_3 (Nat.mod_lt _ (by decide))).trans (by omega)))) (hd 77 rfl) ?_; refine jo_g 73 rfl rfl (ly_eq rfl rfl) (hd 78 rfl) ?_; refine jo_l (ly_pick_t rfl rfl) (hd 79 rfl) ?_; refine jo_nil ?_
          refine jc_if rfl (fun h11 => ?_) (fun h11 => ?_)
          · have h4 : fl4 (od x) m (flt x m sg) = -(flt x m sg) := by have h9 : ((m % 4 : Nat) : Int) = 3 := h11; unfold fl4; rw [if_pos (by omega)]
            refine jc_region ?_; refine jo_l (ly_mv rfl) (hd 80 rfl) ?_; refine jo_l (ly_neg rfl (r := -(flt x m sg)) (by rw [wrap_i64 (by omega) (by omega)]; omega)) (hd 81 rfl) ?_; refine jo_l (ly_as rfl) (hd 11 rfl) ?_; refine jo_nil ?_; refine jc_seq ?_; refine jc_region ?_; refine jo_l (ly_mv rfl) (hd 82 rfl) ?_; refine jo_l (ly_mv rfl) (hd 83 rfl) ?_; refine jo_l (ly_as rfl) (hd 9 rfl) ?_; refine jo_l (ly_as rfl) (hd 10 rfl) ?_; refine jo_nil ?_; refine jc_seq ?_; refine jc_region ?_; refine jo_l (ly_mv rfl) (hd 85 rfl) ?_; refine jo_l (ly_mv rfl) (hd 86 rfl) ?_
            refine jo_call Tryd.f70 (Rest_v m (od x) hc5 hlod (by omega)) rfl Tryd.func70 rfl rfl (ovL_cons rfl (ovL_cons rfl ovL_nil)) (.cons .n (.cons .n .nil)) (hd 87 rfl) ?_ (fun ch hp => by simp at hp)
            rintro y hy; injection hy with hy; subst hy; refine jo_l (ly_mv rfl) (hd 84 rfl) ?_; refine jo_l (ly_ext rfl rfl) (hd 88 rfl) ?_; refine jo_l (ly_ext rfl rfl) (hd 89 rfl) ?_; refine jo_l (ly_as rfl) (hd 9 rfl) ?_; refine jo_l (ly_as rfl) (hd 8 rfl) ?_; refine jo_nil ?_; refine jc_seq ?_; refine jc_region ?_; refine jo_l (ly_mv rfl) (hd 90 rfl) ?_; refine jo_l (ly_ff (ly_ne rfl rfl) (by decide)) (hd 91 rfl) ?_; refine jo_nil ?_; refine jc_litf rfl ?_; refine jc_skip ?_
            refine ⟨(m % od x, od x, fl4 (od x) m (flt x m sg)), ?_, ?_, rfl, cov_n 127 (by kernel_rfl) (by kernel_rfl) ?_⟩
            · exact ⟨by rw [← hc1]; exact (jf_step hx0).symm, fl4_r (flt_r hc2), hod1, Nat.le_trans (lenV_mono (by have := Nat.mod_le m (od x); omega)) hc5, hlod⟩
            · exact Nat.lt_of_lt_of_le (Nat.mod_lt m (by omega)) od_le
            · exact (.cons rfl (.cons rfl (.cons rfl (.cons (by show some (V.i _ _) = some (V.i _ _); rw [h4]) (.u (.u (.u (.u (.u (.u (.u (.u (.u (.u (.u (.u (.u (.u (.u (.u (.u (.u (.u (.u (.u (.u (.u (.u (.u (.u (.u (.u (.u (.u (.u (.u (.u (.u (.u (.u (.u (.u (.u (.u (.u (.u (.u (.u (.u (.u (.u (.u (.u (.u (.u (.u (.u (.u (.u (.u (.u (.u (.u .nil)))))))))))))))))))))))))))))))))))))))))))))))))))))))))))))))
          · have h4 : fl4 (od x) m (flt x m sg) = flt x m sg := by have h9 : ¬ ((m % 4 : Nat) : Int) = 3 := h11; unfold fl4; rw [if_neg (by omega)]
            refine jc_skip ?_; refine jc_seq ?_; refine jc_region ?_; refine jo_l (ly_mv rfl) (hd 82 rfl) ?_; refine jo_l (ly_mv rfl) (hd 83 rfl) ?_; refine jo_l (ly_as rfl) (hd 9 rfl) ?_; refine jo_l (ly_as rfl) (hd 10 rfl) ?_; refine jo_nil ?_; refine jc_seq ?_; refine jc_region ?_; refine jo_l (ly_mv rfl) (hd 85 rfl) ?_; refine jo_l (ly_mv rfl) (hd 86 rfl) ?_
            refine jo_call Tryd.f70 (Rest_v m (od x) hc5 hlod (by omega)) rfl Tryd.func70 rfl rfl (ovL_cons rfl (ovL_cons rfl ovL_nil)) (.cons .n (.cons .n .nil)) (hd 87 rfl) ?_ (fun ch hp => by simp at hp)
            rintro y hy; injection hy with hy; subst hy; refine jo_l (ly_mv rfl) (hd 84 rfl) ?_; refine jo_l (ly_ext rfl rfl) (hd 88 rfl) ?_; refine jo_l (ly_ext rfl rfl) (hd 89 rfl) ?_; refine jo_l (ly_as rfl) (hd 9 rfl) ?_; refine jo_l (ly_as rfl) (hd 8 rfl) ?_; refine jo_nil ?_; refine jc_seq ?_; refine jc_region ?_; refine jo_l (ly_mv rfl) (hd 90 rfl) ?_; refine jo_l (ly_ff (ly_ne rfl rfl) (by decide)) (hd 91 rfl) ?_; refine jo_nil ?_; refine jc_litf rfl ?_; refine jc_skip ?_
            refine ⟨(m % od x, od x, fl4 (od x) m (flt x m sg)), ?_, ?_, rfl, cov_n 124 (by kernel_rfl) (by kernel_rfl) ?_⟩
            · exact ⟨by rw [← hc1]; exact (jf_step hx0).symm, fl4_r (flt_r hc2), hod1, Nat.le_trans (lenV_mono (by have := Nat.mod_le m (od x); omega)) hc5, hlod⟩
            · exact Nat.lt_of_lt_of_le (Nat.mod_lt m (by omega)) od_le
            · exact (.cons rfl (.cons rfl (.cons rfl (.cons (by show some (V.i _ _) = some (V.i _ _); rw [h4]) (.u (.u (.u (.u (.u (.u (.u (.u (.u (.u (.u (.u (.u (.u (.u (.u (.u (.u (.u (.u (.u (.u (.u (.u (.u (.u (.u (.u (.u (.u (.u (.u (.u (.u (.u (.u (.u (.u (.u (.u (.u (.u (.u (.u (.u (.u (.u (.u (.u (.u (.u (.u (.u (.u (.u (.u (.u (.u (.u .nil)))))))))))))))))))))))))))))))))))))))))))))))))))))))))))))))
        · have h4 : fl4 (od x) m (flt x m sg) = flt x m sg := by have h9 : ¬ ((od x % 4 : Nat) : Int) = 3 := h10; unfold fl4; rw [if_neg (by omega)]
          refine jo_s 73 rfl rfl rfl (hd 74 rfl) ?_; refine jo_s 73 rfl rfl rfl (hd 75 rfl) ?_; refine jo_s 73 rfl rfl rfl (hd 76 rfl) ?_; refine jo_s 73 rfl rfl rfl (hd 77 rfl) ?_; refine jo_s 73 rfl rfl rfl (hd 78 rfl) ?_; refine jo_l (ly_pick_f rfl rfl) (hd 79 rfl) ?_; refine jo_nil ?_; refine jc_litf rfl ?_; refine jc_skip ?_; refine jc_seq ?_; refine jc_region ?_; refine jo_l (ly_mv rfl) (hd 82 rfl) ?_; refine jo_l (ly_mv rfl) (hd 83 rfl) ?_; refine jo_l (ly_as rfl) (hd 9 rfl) ?_; refine jo_l (ly_as rfl) (hd 10 rfl) ?_; refine jo_nil ?_; refine jc_seq ?_; refine jc_region ?_; refine jo_l (ly_mv rfl) (hd 85 rfl) ?_; refine jo_l (ly_mv rfl) (hd 86 rfl) ?_
          refine jo_call Tryd.f70 (Rest_v m (od x) hc5 hlod (by omega)) rfl Tryd.func70 rfl rfl (ovL_cons rfl (ovL_cons rfl ovL_nil)) (.cons .n (.cons .n .nil)) (hd 87 rfl) ?_ (fun ch hp => by simp at hp)
          rintro y hy; injection hy with hy; subst hy; refine jo_l (ly_mv rfl) (hd 84 rfl) ?_; refine jo_l (ly_ext rfl rfl) (hd 88 rfl) ?_; refine jo_l (ly_ext rfl rfl) (hd 89 rfl) ?_; refine jo_l (ly_as rfl) (hd 9 rfl) ?_; refine jo_l (ly_as rfl) (hd 8 rfl) ?_; refine jo_nil ?_; refine jc_seq ?_; refine jc_region ?_; refine jo_l (ly_mv rfl) (hd 90 rfl) ?_; refine jo_l (ly_ff (ly_ne rfl rfl) (by decide)) (hd 91 rfl) ?_; refine jo_nil ?_; refine jc_litf rfl ?_; refine jc_skip ?_
          refine ⟨(m % od x, od x, fl4 (od x) m (flt x m sg)), ?_, ?_, rfl, cov_n 124 (by kernel_rfl) (by kernel_rfl) ?_⟩
          · exact ⟨by rw [← hc1]; exact (jf_step hx0).symm, fl4_r (flt_r hc2), hod1, Nat.le_trans (lenV_mono (by have := Nat.mod_le m (od x); omega)) hc5, hlod⟩
          · exact Nat.lt_of_lt_of_le (Nat.mod_lt m (by omega)) od_le
          · exact (.cons rfl (.cons rfl (.cons rfl (.cons (by show some (V.i _ _) = some (V.i _ _); rw [h4]) (.u (.u (.u (.u (.u (.u (.u (.u (.u (.u (.u (.u (.u (.u (.u (.u (.u (.u (.u (.u (.u (.u (.u (.u (.u (.u (.u (.u (.u (.u (.u (.u (.u (.u (.u (.u (.u (.u (.u (.u (.u (.u (.u (.u (.u (.u (.u (.u (.u (.u (.u (.u (.u (.u (.u (.u (.u (.u (.u .nil)))))))))))))))))))))))))))))))))))))))))))))))))))))))))))))))
    · have hx0 : x = 0 := Decidable.byContradiction fun hc => h3 (by have h9 := List.length_pos_iff.2 (lm_ne (show (x : Int) ≠ 0 by omega)); show (0 : Int) < ((lm (x : Int)).length : Int); omega)
      subst hx0
      rw [jf_0] at hc1
      refine jc_exit ?_; refine jc_seq ?_; refine jc_seq ?_; refine jc_region ?_; refine jo_l (ly_mv rfl) (hd 93 rfl) ?_
      refine jo_call Tryd.f71 (Length_v (m : Int) (by omega)) rfl Tryd.func71 rfl rfl (ovL_cons rfl ovL_nil) (.cons .n .nil) (hd 94 rfl) ?_ (fun ch hp => by simp at hp)
      rintro y hy; injection hy with hy; subst hy; refine jo_l (ly_ne rfl rfl) (hd 95 rfl) ?_; refine jo_nil ?_
      refine jc_if rfl (fun h16 => ?_) (fun h16 => ?_)
      · have hm1 : m ≠ 1 := fun e => h16 (by subst e; decide +kernel)
        rw [if_neg hm1] at hc1
        refine jc_seq ?_; refine jc_region ?_; refine jo_l (ly_as rfl) (hd 4 rfl) ?_; refine jo_l (ly_as rfl) (hd 5 rfl) ?_; refine jo_nil ?_; refine jc_ret ?_
        refine ⟨_, _, (.cons rfl (.cons rfl .nil)), (.t1 .i (.t1 .i .t0)), ?_⟩
        rw [hc1]
      · have hm1 : m = 1 := by have h9 := (lenV_1 (g := (m : Int)) (by omega) (by omega)); have h7 : ((lenV (m : Int) : Nat) : Int) = 1 := Decidable.not_not.1 h16; omega
        rw [if_pos hm1] at hc1
        refine jc_skip ?_; refine jc_seq ?_; refine jc_region ?_; refine jo_l (ly_mv rfl) (hd 96 rfl) ?_; refine jo_l (ly_as rfl) (hd 4 rfl) ?_; refine jo_l (ly_as rfl) (hd 5 rfl) ?_; refine jo_nil ?_; refine jc_ret ?_
        refine ⟨_, _, (.cons rfl (.cons rfl .nil)), (.t1 .i (.t1 .i .t0)), ?_⟩
        rw [hc1]

set_option maxHeartbeats 4000000 in
theorem Jacobi_n (sa sb : Bool) (a b : List Int) (v w : Int) (la : a.length < 4294967296) (lb : b.length < 4294967296) (ua : u64s a) (ub : u64s b) (ev : sv sa a = v) (ew : sv sb b = w) (hv : lenV v ≤ 67108864) (hw : lenV w ≤ 67108864) (h0 : w < 0) : Spec Tryd.prog 31 [.a [.b sa, .n false .u64 a], .a [.b sb, .n false .u64 b]] (fun o => o = .ret (.t [.i .i64 0, .i .i64 1])) := by
  refine spec_of' [(0, .a [.b sa, .n false .u64 a]), (1, .a [.b sb, .n false .u64 b])] rfl Tryd.func31 rfl (Nat.le_of_ble_eq_true rfl) fun Γ hN hds hL hR => ?_
  have hd : ∀ d, Nat.blt d 97 = true → d < Γ.N := fun d h => by rw [hN]; exact Nat.le_of_ble_eq_true h
  have hlv := lenV_lm hv
  have hlw := lenV_lm hw
  have htb := raw_res ub ew
  have hNo : Spec Tryd.prog 59 [.a [.b sb, .n false .u64 b]] (fun o => o = .ret (.a [.b (decide (w < 0)), .n true .u64 (lm w)])) := by have h := norm_s sb b (by omega); rw [htb.1, htb.2.1] at h; exact h
  have hBt : Spec Tryd.prog 43 [.n false .u64 (lm w), .i .i64 0] (fun o => o = .ret (.i .i64 ((w.natAbs % 2 : Nat) : Int))) := by have h := Bit_r (lm w) 0 (by omega) (lm_u w) (by decide); rw [lm_v, Nat.pow_zero, Nat.div_one, Int.toNat_natCast] at h; exact h
  refine jc_seq ?_; refine jc_region ?_; refine jo_h (hy_box (id := 0) (n := 2) rfl rfl rfl (by decide) rfl) (hd 2 rfl) ?_; refine jo_h (hy_box (id := 1) (n := 2) rfl rfl rfl (by decide) rfl) (hd 3 rfl) ?_; refine jo_l (ly_as rfl) (hd 4 rfl) ?_; refine jo_l (ly_as rfl) (hd 5 rfl) ?_; refine jo_nil ?_; refine jc_seq ?_; refine jc_region ?_; refine jo_l (ly_lda agg30 rfl rfl rfl rfl) (hd 14 rfl) ?_
  refine jo_call Tryd.f59 (hNo) rfl Tryd.func59 rfl rfl (ovL_cons rfl ovL_nil) (.cons (.a1 .b (.a1 .n .a0)) .nil) (hd 15 rfl) ?_ (fun ch hp => by simp at hp)
  rintro y hy; injection hy with hy; subst hy; refine jo_st (sy_store rfl rfl rfl siz30 rfl rfl (Nat.le_of_ble_eq_true rfl)) ?_; refine jo_nil ?_; refine jc_seq ?_; refine jc_seq ?_; refine jc_region ?_; refine jo_l (ly_fa fld30_0 rfl rfl rfl) (hd 16 rfl) ?_; refine jo_l (ly_tt (ly_ld one4 rfl rfl rfl) (by omega)) (hd 17 rfl) ?_; refine jo_l (ly_mv rfl) (hd 18 rfl) ?_; refine jo_s 18 rfl rfl rfl (hd 19 rfl) ?_; refine jo_s 18 rfl rfl rfl (hd 20 rfl) ?_; refine jo_s 18 rfl rfl rfl (hd 21 rfl) ?_; refine jo_s 18 rfl rfl rfl (hd 22 rfl) ?_; refine jo_l (ly_pick_t rfl rfl) (hd 23 rfl) ?_; refine jo_nil ?_; refine jc_litt rfl ?_; refine jc_seq ?_; refine jc_region ?_; refine jo_l (ly_as rfl) (hd 4 rfl) ?_; refine jo_l (ly_as rfl) (hd 5 rfl) ?_; refine jo_nil ?_; refine jc_ret ?_
  refine ⟨_, _, (.cons rfl (.cons rfl .nil)), (.t1 .i (.t1 .i .t0)), ?_⟩
  exact rfl

set_option maxHeartbeats 4000000 in
theorem Jacobi_e (sa sb : Bool) (a b : List Int) (v w : Int) (la : a.length < 4294967296) (lb : b.length < 4294967296) (ua : u64s a) (ub : u64s b) (ev : sv sa a = v) (ew : sv sb b = w) (hv : lenV v ≤ 67108864) (hw : lenV w ≤ 67108864) (h0 : 0 ≤ w) (h2 : w.natAbs % 2 = 0) : Spec Tryd.prog 31 [.a [.b sa, .n false .u64 a], .a [.b sb, .n false .u64 b]] (fun o => o = .ret (.t [.i .i64 0, .i .i64 1])) := by
  refine spec_of' [(0, .a [.b sa, .n false .u64 a]), (1, .a [.b sb, .n false .u64 b])] rfl Tryd.func31 rfl (Nat.le_of_ble_eq_true rfl) fun Γ hN hds hL hR => ?_
  have hd : ∀ d, Nat.blt d 97 = true → d < Γ.N := fun d h => by rw [hN]; exact Nat.le_of_ble_eq_true h
  have hlv := lenV_lm hv
  have hlw := lenV_lm hw
  have htb := raw_res ub ew
  have hNo : Spec Tryd.prog 59 [.a [.b sb, .n false .u64 b]] (fun o => o = .ret (.a [.b (decide (w < 0)), .n true .u64 (lm w)])) := by have h := norm_s sb b (by omega); rw [htb.1, htb.2.1] at h; exact h
  have hBt : Spec Tryd.prog 43 [.n false .u64 (lm w), .i .i64 0] (fun o => o = .ret (.i .i64 ((w.natAbs % 2 : Nat) : Int))) := by have h := Bit_r (lm w) 0 (by omega) (lm_u w) (by decide); rw [lm_v, Nat.pow_zero, Nat.div_one, Int.toNat_natCast] at h; exact h
  refine jc_seq ?_; refine jc_region ?_; refine jo_h (hy_box (id := 0) (n := 2) rfl rfl rfl (by decide) rfl) (hd 2 rfl) ?_; refine jo_h (hy_box (id := 1) (n := 2) rfl rfl rfl (by decide) rfl) (hd 3 rfl) ?_; refine jo_l (ly_as rfl) (hd 4 rfl) ?_; refine jo_l (ly_as rfl) (hd 5 rfl) ?_; refine jo_nil ?_; refine jc_seq ?_; refine jc_region ?_; refine jo_l (ly_lda agg30 rfl rfl rfl rfl) (hd 14 rfl) ?_
  refine jo_call Tryd.f59 (hNo) rfl Tryd.func59 rfl rfl (ovL_cons rfl ovL_nil) (.cons (.a1 .b (.a1 .n .a0)) .nil) (hd 15 rfl) ?_ (fun ch hp => by simp at hp)
  rintro y hy; injection hy with hy; subst hy; refine jo_st (sy_store rfl rfl rfl siz30 rfl rfl (Nat.le_of_ble_eq_true rfl)) ?_; refine jo_nil ?_; refine jc_seq ?_; refine jc_seq ?_; refine jc_region ?_; refine jo_l (ly_fa fld30_0 rfl rfl rfl) (hd 16 rfl) ?_; refine jo_l (ly_ff (ly_ld one4 rfl rfl rfl) (by omega)) (hd 17 rfl) ?_; refine jo_l (ly_mv rfl) (hd 18 rfl) ?_; refine jo_g 18 rfl rfl (ly_fa fld30_1 rfl rfl rfl) (hd 19 rfl) ?_; refine jo_g 18 rfl rfl (ly_ld one28 rfl rfl rfl) (hd 20 rfl) ?_
  refine jo_callg Tryd.f43 18 rfl rfl (hBt) rfl Tryd.func43 rfl rfl (ovL_cons rfl (ovL_cons rfl ovL_nil)) (.cons .n (.cons .i .nil)) (hd 21 rfl) ?_ (fun ch hp => by simp at hp)
  rintro y hy; injection hy with hy; subst hy; refine jo_g 18 rfl rfl (ly_tt (ly_eq rfl rfl) (by omega)) (hd 22 rfl) ?_; refine jo_l (ly_pick_f rfl rfl) (hd 23 rfl) ?_; refine jo_nil ?_; refine jc_litt rfl ?_; refine jc_seq ?_; refine jc_region ?_; refine jo_l (ly_as rfl) (hd 4 rfl) ?_; refine jo_l (ly_as rfl) (hd 5 rfl) ?_; refine jo_nil ?_; refine jc_ret ?_
  refine ⟨_, _, (.cons rfl (.cons rfl .nil)), (.t1 .i (.t1 .i .t0)), ?_⟩
  exact rfl
end Go.Proofs.YtaogaegchagbfaaDoor.Vc

/- The contract of surdlaw06.WholeSymbols. -/
namespace Go.Proofs.YtaogaegchagbfaaDoor.Vc
open Go Go.RowKit
set_option maxHeartbeats 20000000 in
set_option maxRecDepth 100000 in
theorem WholeSymbols_n (sa sb : Bool) (a b : List Int) (hab : a.length + b.length ≤ 1048572) (ua : u64s a) (ub : u64s b) (h0 : (sv sb b) < 0) : SpecT Tryd.prog 5 0 tzCells [.a [.b sa, .n false .u64 a], .a [.b sb, .n false .u64 b]] (fun o => o = .ret (.b true)) := by
  refine specT_of [(0, .a [.b sa, .n false .u64 a]), (1, .a [.b sb, .n false .u64 b])] rfl Tryd.func5 rfl (Nat.le_of_ble_eq_true rfl) fun Γ hTb hN hds hL hR => ?_
  have hd : ∀ d, Nat.blt d 74 = true → d < Γ.N := fun d h => by rw [hN]; exact Nat.le_of_ble_eq_true h
  have hlv : lenV (sv sa a) ≤ 67108864 := by have := lenV_64 (s := sa) ua; omega
  have hlw : lenV (sv sb b) ≤ 67108864 := by have := lenV_64 (s := sb) ub; omega
  have hda := dg_lenN (s := sa) ua rfl
  have hdb := dg_lenN (s := sb) ub rfl
  have hla : a.length ≤ 1048572 := by omega
  have hlb : b.length ≤ 1048572 := by omega
  have hBb : Spec Tryd.prog 32 [.n false .u64 (dg (sv sb b)), .i .i64 0] (fun o => o = .ret (.i .i64 ((((sv sb b)).natAbs % 2 : Nat) : Int))) := by have h := Bit_s ((sv sb b)).natAbs 0 (show (dg (sv sb b)).length < _ by omega) (by decide); rw [Nat.pow_zero, Nat.div_one] at h; exact h
  have hJa := Jacobi_n sa sb a b (sv sa a) (sv sb b) (by omega) (by omega) ua ub rfl rfl hlv hlw h0
  refine jc_seq ?_; refine jc_region ?_; refine jo_h (hy_box (id := 0) (n := 2) rfl rfl rfl (by decide) rfl) (hd 2 rfl) ?_; refine jo_h (hy_box (id := 1) (n := 2) rfl rfl rfl (by decide) rfl) (hd 3 rfl) ?_; refine jo_l (ly_as rfl) (hd 4 rfl) ?_; refine jo_nil ?_; refine jc_seq ?_; refine jc_H (H' := [⟨24, 2, 0, true, [.b sa, .n false .u64 a]⟩, ⟨24, 2, 0, true, [.b sb, .n false .u64 b]⟩]) rfl ?_; refine jc_region ?_; refine jo_l (ly_lda agg27 rfl rfl rfl rfl) (hd 13 rfl) ?_
  refine jo_call Tryd.f6 (lent_s sa a (by omega)) rfl Tryd.func6 rfl rfl (ovL_cons rfl ovL_nil) (.cons (.a1 .b (.a1 .n .a0)) .nil) (hd 14 rfl) ?_ (fun ch hp => by simp at hp)
  rintro y hy; injection hy with hy; subst hy; refine jo_l (ly_mv rfl) (hd 12 rfl) ?_; refine jo_l (ly_ext rfl rfl) (hd 15 rfl) ?_; refine jo_l (ly_ext rfl rfl) (hd 16 rfl) ?_; refine jo_h (hy_alloc (id := 2) zero30 (by decide) rfl (by decide) rfl) (hd 6 rfl) ?_; refine jo_l (ly_as rfl) (hd 5 rfl) ?_; refine jo_st (sy_store rfl rfl rfl siz30 rfl rfl (Nat.le_of_ble_eq_true rfl)) ?_; refine jo_nil ?_; refine jc_seq ?_; refine jc_H (H' := [⟨24, 2, 0, true, [.b sa, .n false .u64 a]⟩, ⟨24, 2, 0, true, [.b sb, .n false .u64 b]⟩, ⟨27, 2, 0, true, [.b sa, .n true .u64 a]⟩]) rfl ?_; refine jc_region ?_; refine jo_l (ly_lda agg27 rfl rfl rfl rfl) (hd 18 rfl) ?_
  refine jo_call Tryd.f6 (lent_s sb b (by omega)) rfl Tryd.func6 rfl rfl (ovL_cons rfl ovL_nil) (.cons (.a1 .b (.a1 .n .a0)) .nil) (hd 19 rfl) ?_ (fun ch hp => by simp at hp)
  rintro y hy; injection hy with hy; subst hy; refine jo_l (ly_mv rfl) (hd 17 rfl) ?_; refine jo_l (ly_ext rfl rfl) (hd 20 rfl) ?_; refine jo_l (ly_ext rfl rfl) (hd 21 rfl) ?_; refine jo_h (hy_alloc (id := 3) zero30 (by decide) rfl (by decide) rfl) (hd 8 rfl) ?_; refine jo_l (ly_as rfl) (hd 7 rfl) ?_; refine jo_st (sy_store rfl rfl rfl siz30 rfl rfl (Nat.le_of_ble_eq_true rfl)) ?_; refine jo_nil ?_; refine jc_seq ?_; refine jc_H (H' := [⟨24, 2, 0, true, [.b sa, .n false .u64 a]⟩, ⟨24, 2, 0, true, [.b sb, .n false .u64 b]⟩, ⟨27, 2, 0, true, [.b sa, .n true .u64 a]⟩, ⟨27, 2, 0, true, [.b sb, .n true .u64 b]⟩]) rfl ?_; refine jc_region ?_; refine jo_l (ly_lda agg30 rfl rfl rfl rfl) (hd 23 rfl) ?_; refine jo_l (ly_lda agg30 rfl rfl rfl rfl) (hd 24 rfl) ?_
  refine jo_call Tryd.f31 (hJa) rfl Tryd.func31 rfl rfl (ovL_cons rfl (ovL_cons rfl ovL_nil)) (.cons (.a1 .b (.a1 .n .a0)) (.cons (.a1 .b (.a1 .n .a0)) .nil)) (hd 25 rfl) ?_ (fun ch hp => by simp at hp)
  rintro y hy; injection hy with hy; subst hy; refine jo_l (ly_mv rfl) (hd 22 rfl) ?_; refine jo_l (ly_ext rfl rfl) (hd 26 rfl) ?_; refine jo_l (ly_ext rfl rfl) (hd 27 rfl) ?_; refine jo_l (ly_as rfl) (hd 9 rfl) ?_; refine jo_l (ly_as rfl) (hd 10 rfl) ?_; refine jo_nil ?_; refine jc_seq ?_; refine jc_H (H' := [⟨24, 2, 0, true, [.b sa, .n false .u64 a]⟩, ⟨24, 2, 0, true, [.b sb, .n false .u64 b]⟩, ⟨27, 2, 0, true, [.b sa, .n true .u64 a]⟩, ⟨27, 2, 0, true, [.b sb, .n true .u64 b]⟩]) rfl ?_; refine jc_region ?_; refine jo_l (ly_lda agg27 rfl rfl rfl rfl) (hd 28 rfl) ?_
  refine jo_call Tryd.f7 (of_s sb b (by omega) ub) rfl Tryd.func7 rfl rfl (ovL_cons rfl ovL_nil) (.cons (.a1 .b (.a1 .n .a0)) .nil) (hd 29 rfl) ?_ (fun ch hp => by simp at hp)
  rintro y hy; injection hy with hy; subst hy; refine jo_h (hy_alloc (id := 4) zero35 (by decide) rfl (by decide) rfl) (hd 11 rfl) ?_; refine jo_st (sy_store rfl rfl rfl siz35 rfl rfl (Nat.le_of_ble_eq_true rfl)) ?_; refine jo_nil ?_; refine jc_seq ?_; refine jc_seq ?_; refine jc_H (H' := [⟨24, 2, 0, true, [.b sa, .n false .u64 a]⟩, ⟨24, 2, 0, true, [.b sb, .n false .u64 b]⟩, ⟨27, 2, 0, true, [.b sa, .n true .u64 a]⟩, ⟨27, 2, 0, true, [.b sb, .n true .u64 b]⟩, ⟨32, 2, 0, true, [.b (decide ((sv sb b) < 0)), .n false .u64 (dg (sv sb b))]⟩]) rfl ?_; refine jc_region ?_; refine jo_l (ly_fa fld35_0 rfl rfl rfl) (hd 30 rfl) ?_; refine jo_l (ly_tt (ly_ld one4 rfl rfl rfl) (by omega)) (hd 31 rfl) ?_; refine jo_l (ly_mv rfl) (hd 32 rfl) ?_; refine jo_s 32 rfl rfl rfl (hd 33 rfl) ?_; refine jo_s 32 rfl rfl rfl (hd 34 rfl) ?_; refine jo_s 32 rfl rfl rfl (hd 35 rfl) ?_; refine jo_s 32 rfl rfl rfl (hd 36 rfl) ?_; refine jo_l (ly_pick_t rfl rfl) (hd 37 rfl) ?_; refine jo_nil ?_; refine jc_litt rfl ?_; refine jc_seq ?_; refine jc_H (H' := [⟨24, 2, 0, true, [.b sa, .n false .u64 a]⟩, ⟨24, 2, 0, true, [.b sb, .n false .u64 b]⟩, ⟨27, 2, 0, true, [.b sa, .n true .u64 a]⟩, ⟨27, 2, 0, true, [.b sb, .n true .u64 b]⟩, ⟨32, 2, 0, true, [.b (decide ((sv sb b) < 0)), .n false .u64 (dg (sv sb b))]⟩]) rfl ?_; refine jc_region ?_; refine jo_l (ly_mv rfl) (hd 38 rfl) ?_
  refine jo_call Tryd.f14 (num_s 1) rfl Tryd.func14 rfl rfl (ovL_cons rfl ovL_nil) (.cons .i .nil) (hd 39 rfl) ?_ (fun ch hp => by simp at hp)
  rintro y hy; injection hy with hy; subst hy; refine jo_l (ly_tt (ly_eq rfl rfl) rfl) (hd 40 rfl) ?_; refine jo_l (ly_mv rfl) (hd 41 rfl) ?_; refine jo_g 41 rfl rfl (ly_mv rfl) (hd 42 rfl) ?_; refine jo_g 41 rfl rfl (ly_tt (ly_eq rfl rfl) rfl) (hd 43 rfl) ?_; refine jo_l (ly_pick_t rfl rfl) (hd 44 rfl) ?_; refine jo_l (ly_mv rfl) (hd 45 rfl) ?_
  refine jo_callg Tryd.f24 45 rfl rfl (awake_s) rfl Tryd.func24 rfl rfl ovL_nil .nil (hd 46 rfl) ?_ (fun ch hp => by simp at hp)
  rintro y hy; injection hy with hy; subst hy; refine jo_l (ly_pick_t rfl rfl) (hd 47 rfl) ?_; refine jo_l (ly_as rfl) (hd 4 rfl) ?_; refine jo_nil ?_; refine jc_ret ?_
  refine ⟨_, _, (.cons rfl .nil), .b, ?_⟩
  exact rfl

set_option maxHeartbeats 20000000 in
set_option maxRecDepth 100000 in
theorem WholeSymbols_e (sa sb : Bool) (a b : List Int) (hab : a.length + b.length ≤ 1048572) (ua : u64s a) (ub : u64s b) (h0 : 0 ≤ (sv sb b)) (h2 : ((sv sb b)).natAbs % 2 = 0) : SpecT Tryd.prog 5 0 tzCells [.a [.b sa, .n false .u64 a], .a [.b sb, .n false .u64 b]] (fun o => o = .ret (.b true)) := by
  refine specT_of [(0, .a [.b sa, .n false .u64 a]), (1, .a [.b sb, .n false .u64 b])] rfl Tryd.func5 rfl (Nat.le_of_ble_eq_true rfl) fun Γ hTb hN hds hL hR => ?_
  have hd : ∀ d, Nat.blt d 74 = true → d < Γ.N := fun d h => by rw [hN]; exact Nat.le_of_ble_eq_true h
  have hlv : lenV (sv sa a) ≤ 67108864 := by have := lenV_64 (s := sa) ua; omega
  have hlw : lenV (sv sb b) ≤ 67108864 := by have := lenV_64 (s := sb) ub; omega
  have hda := dg_lenN (s := sa) ua rfl
  have hdb := dg_lenN (s := sb) ub rfl
  have hla : a.length ≤ 1048572 := by omega
  have hlb : b.length ≤ 1048572 := by omega
  have hBb : Spec Tryd.prog 32 [.n false .u64 (dg (sv sb b)), .i .i64 0] (fun o => o = .ret (.i .i64 ((((sv sb b)).natAbs % 2 : Nat) : Int))) := by have h := Bit_s ((sv sb b)).natAbs 0 (show (dg (sv sb b)).length < _ by omega) (by decide); rw [Nat.pow_zero, Nat.div_one] at h; exact h
  have hJa := Jacobi_e sa sb a b (sv sa a) (sv sb b) (by omega) (by omega) ua ub rfl rfl hlv hlw h0 h2
  refine jc_seq ?_; refine jc_region ?_; refine jo_h (hy_box (id := 0) (n := 2) rfl rfl rfl (by decide) rfl) (hd 2 rfl) ?_; refine jo_h (hy_box (id := 1) (n := 2) rfl rfl rfl (by decide) rfl) (hd 3 rfl) ?_; refine jo_l (ly_as rfl) (hd 4 rfl) ?_; refine jo_nil ?_; refine jc_seq ?_; refine jc_H (H' := [⟨24, 2, 0, true, [.b sa, .n false .u64 a]⟩, ⟨24, 2, 0, true, [.b sb, .n false .u64 b]⟩]) rfl ?_; refine jc_region ?_; refine jo_l (ly_lda agg27 rfl rfl rfl rfl) (hd 13 rfl) ?_
  refine jo_call Tryd.f6 (lent_s sa a (by omega)) rfl Tryd.func6 rfl rfl (ovL_cons rfl ovL_nil) (.cons (.a1 .b (.a1 .n .a0)) .nil) (hd 14 rfl) ?_ (fun ch hp => by simp at hp)
  rintro y hy; injection hy with hy; subst hy; refine jo_l (ly_mv rfl) (hd 12 rfl) ?_; refine jo_l (ly_ext rfl rfl) (hd 15 rfl) ?_; refine jo_l (ly_ext rfl rfl) (hd 16 rfl) ?_; refine jo_h (hy_alloc (id := 2) zero30 (by decide) rfl (by decide) rfl) (hd 6 rfl) ?_; refine jo_l (ly_as rfl) (hd 5 rfl) ?_; refine jo_st (sy_store rfl rfl rfl siz30 rfl rfl (Nat.le_of_ble_eq_true rfl)) ?_; refine jo_nil ?_; refine jc_seq ?_; refine jc_H (H' := [⟨24, 2, 0, true, [.b sa, .n false .u64 a]⟩, ⟨24, 2, 0, true, [.b sb, .n false .u64 b]⟩, ⟨27, 2, 0, true, [.b sa, .n true .u64 a]⟩]) rfl ?_; refine jc_region ?_; refine jo_l (ly_lda agg27 rfl rfl rfl rfl) (hd 18 rfl) ?_
  refine jo_call Tryd.f6 (lent_s sb b (by omega)) rfl Tryd.func6 rfl rfl (ovL_cons rfl ovL_nil) (.cons (.a1 .b (.a1 .n .a0)) .nil) (hd 19 rfl) ?_ (fun ch hp => by simp at hp)
  rintro y hy; injection hy with hy; subst hy; refine jo_l (ly_mv rfl) (hd 17 rfl) ?_; refine jo_l (ly_ext rfl rfl) (hd 20 rfl) ?_; refine jo_l (ly_ext rfl rfl) (hd 21 rfl) ?_; refine jo_h (hy_alloc (id := 3) zero30 (by decide) rfl (by decide) rfl) (hd 8 rfl) ?_; refine jo_l (ly_as rfl) (hd 7 rfl) ?_; refine jo_st (sy_store rfl rfl rfl siz30 rfl rfl (Nat.le_of_ble_eq_true rfl)) ?_; refine jo_nil ?_; refine jc_seq ?_; refine jc_H (H' := [⟨24, 2, 0, true, [.b sa, .n false .u64 a]⟩, ⟨24, 2, 0, true, [.b sb, .n false .u64 b]⟩, ⟨27, 2, 0, true, [.b sa, .n true .u64 a]⟩, ⟨27, 2, 0, true, [.b sb, .n true .u64 b]⟩]) rfl ?_; refine jc_region ?_; refine jo_l (ly_lda agg30 rfl rfl rfl rfl) (hd 23 rfl) ?_; refine jo_l (ly_lda agg30 rfl rfl rfl rfl) (hd 24 rfl) ?_
  refine jo_call Tryd.f31 (hJa) rfl Tryd.func31 rfl rfl (ovL_cons rfl (ovL_cons rfl ovL_nil)) (.cons (.a1 .b (.a1 .n .a0)) (.cons (.a1 .b (.a1 .n .a0)) .nil)) (hd 25 rfl) ?_ (fun ch hp => by simp at hp)
  rintro y hy; injection hy with hy; subst hy; refine jo_l (ly_mv rfl) (hd 22 rfl) ?_; refine jo_l (ly_ext rfl rfl) (hd 26 rfl) ?_; refine jo_l (ly_ext rfl rfl) (hd 27 rfl) ?_; refine jo_l (ly_as rfl) (hd 9 rfl) ?_; refine jo_l (ly_as rfl) (hd 10 rfl) ?_; refine jo_nil ?_; refine jc_seq ?_; refine jc_H (H' := [⟨24, 2, 0, true, [.b sa, .n false .u64 a]⟩, ⟨24, 2, 0, true, [.b sb, .n false .u64 b]⟩, ⟨27, 2, 0, true, [.b sa, .n true .u64 a]⟩, ⟨27, 2, 0, true, [.b sb, .n true .u64 b]⟩]) rfl ?_; refine jc_region ?_; refine jo_l (ly_lda agg27 rfl rfl rfl rfl) (hd 28 rfl) ?_
  refine jo_call Tryd.f7 (of_s sb b (by omega) ub) rfl Tryd.func7 rfl rfl (ovL_cons rfl ovL_nil) (.cons (.a1 .b (.a1 .n .a0)) .nil) (hd 29 rfl) ?_ (fun ch hp => by simp at hp)
  rintro y hy; injection hy with hy; subst hy; refine jo_h (hy_alloc (id := 4) zero35 (by decide) rfl (by decide) rfl) (hd 11 rfl) ?_; refine jo_st (sy_store rfl rfl rfl siz35 rfl rfl (Nat.le_of_ble_eq_true rfl)) ?_; refine jo_nil ?_; refine jc_seq ?_; refine jc_seq ?_; refine jc_H (H' := [⟨24, 2, 0, true, [.b sa, .n false .u64 a]⟩, ⟨24, 2, 0, true, [.b sb, .n false .u64 b]⟩, ⟨27, 2, 0, true, [.b sa, .n true .u64 a]⟩, ⟨27, 2, 0, true, [.b sb, .n true .u64 b]⟩, ⟨32, 2, 0, true, [.b (decide ((sv sb b) < 0)), .n false .u64 (dg (sv sb b))]⟩]) rfl ?_; refine jc_region ?_; refine jo_l (ly_fa fld35_0 rfl rfl rfl) (hd 30 rfl) ?_; refine jo_l (ly_ff (ly_ld one4 rfl rfl rfl) (by omega)) (hd 31 rfl) ?_; refine jo_l (ly_mv rfl) (hd 32 rfl) ?_; refine jo_g 32 rfl rfl (ly_fa fld35_1 rfl rfl rfl) (hd 33 rfl) ?_; refine jo_g 32 rfl rfl (ly_ld one33 rfl rfl rfl) (hd 34 rfl) ?_
  refine jo_callg Tryd.f32 32 rfl rfl (hBb) rfl Tryd.func32 rfl rfl (ovL_cons rfl (ovL_cons rfl ovL_nil)) (.cons .n (.cons .i .nil)) (hd 35 rfl) ?_ (fun ch hp => by simp at hp)
  rintro y hy; injection hy with hy; subst hy; refine jo_g 32 rfl rfl (ly_tt (ly_eq rfl rfl) (by omega)) (hd 36 rfl) ?_; refine jo_l (ly_pick_f rfl rfl) (hd 37 rfl) ?_; refine jo_nil ?_; refine jc_litt rfl ?_; refine jc_seq ?_; refine jc_H (H' := [⟨24, 2, 0, true, [.b sa, .n false .u64 a]⟩, ⟨24, 2, 0, true, [.b sb, .n false .u64 b]⟩, ⟨27, 2, 0, true, [.b sa, .n true .u64 a]⟩, ⟨27, 2, 0, true, [.b sb, .n true .u64 b]⟩, ⟨32, 2, 0, true, [.b (decide ((sv sb b) < 0)), .n false .u64 (dg (sv sb b))]⟩]) rfl ?_; refine jc_region ?_; refine jo_l (ly_mv rfl) (hd 38 rfl) ?_
  refine jo_call Tryd.f14 (num_s 1) rfl Tryd.func14 rfl rfl (ovL_cons rfl ovL_nil) (.cons .i .nil) (hd 39 rfl) ?_ (fun ch hp => by simp at hp)
  rintro y hy; injection hy with hy; subst hy; refine jo_l (ly_tt (ly_eq rfl rfl) rfl) (hd 40 rfl) ?_; refine jo_l (ly_mv rfl) (hd 41 rfl) ?_; refine jo_g 41 rfl rfl (ly_mv rfl) (hd 42 rfl) ?_; refine jo_g 41 rfl rfl (ly_tt (ly_eq rfl rfl) rfl) (hd 43 rfl) ?_; refine jo_l (ly_pick_t rfl rfl) (hd 44 rfl) ?_; refine jo_l (ly_mv rfl) (hd 45 rfl) ?_
  refine jo_callg Tryd.f24 45 rfl rfl (awake_s) rfl Tryd.func24 rfl rfl ovL_nil .nil (hd 46 rfl) ?_ (fun ch hp => by simp at hp)
  rintro y hy; injection hy with hy; subst hy; refine jo_l (ly_pick_t rfl rfl) (hd 47 rfl) ?_; refine jo_l (ly_as rfl) (hd 4 rfl) ?_; refine jo_nil ?_; refine jc_ret ?_
  refine ⟨_, _, (.cons rfl .nil), .b, ?_⟩
  exact rfl

set_option maxHeartbeats 20000000 in
set_option maxRecDepth 100000 in
theorem WholeSymbols_y (sa sb : Bool) (a b : List Int) (hab : a.length + b.length ≤ 1048572) (ua : u64s a) (ub : u64s b) (h0 : 0 ≤ (sv sb b)) (h2 : ((sv sb b)).natAbs % 2 = 1) : SpecT Tryd.prog 5 0 tzCells [.a [.b sa, .n false .u64 a], .a [.b sb, .n false .u64 b]] (fun o => o = .ret (.b true)) := by
  refine specT_of [(0, .a [.b sa, .n false .u64 a]), (1, .a [.b sb, .n false .u64 b])] rfl Tryd.func5 rfl (Nat.le_of_ble_eq_true rfl) fun Γ hTb hN hds hL hR => ?_
  have hd : ∀ d, Nat.blt d 74 = true → d < Γ.N := fun d h => by rw [hN]; exact Nat.le_of_ble_eq_true h
  have hlv : lenV (sv sa a) ≤ 67108864 := by have := lenV_64 (s := sa) ua; omega
  have hlw : lenV (sv sb b) ≤ 67108864 := by have := lenV_64 (s := sb) ub; omega
  have hda := dg_lenN (s := sa) ua rfl
  have hdb := dg_lenN (s := sb) ub rfl
  have hla : a.length ≤ 1048572 := by omega
  have hlb : b.length ≤ 1048572 := by omega
  have hBb : Spec Tryd.prog 32 [.n false .u64 (dg (sv sb b)), .i .i64 0] (fun o => o = .ret (.i .i64 ((((sv sb b)).natAbs % 2 : Nat) : Int))) := by have h := Bit_s ((sv sb b)).natAbs 0 (show (dg (sv sb b)).length < _ by omega) (by decide); rw [Nat.pow_zero, Nat.div_one] at h; exact h
  have hRJ : Spec Tryd.prog 33 [.a [.b (decide ((sv sa a) < 0)), .n false .u64 (dg (sv sa a))], .a [.b (decide ((sv sb b) < 0)), .n false .u64 (dg (sv sb b))]] (fun o => o = .ret (.i .i64 (jf ((sv sa a) % (sv sb b)).toNat ((sv sb b)).toNat 1))) := by
    have h := rJacobi_s (sv sa a) ((sv sb b)).toNat (by omega) (by rw [digs_dg (by omega)]; omega) (by omega)
    rw [digs_dg (by omega), Int.toNat_of_nonneg (by omega)] at h
    rw [decide_eq_false (show ¬ (sv sb b) < 0 by omega)]
    exact h
  have hJa := Jacobi_y sa sb a b (sv sa a) (sv sb b) (by omega) (by omega) ua ub rfl rfl hlv hlw (by omega) h2
  refine jc_seq ?_; refine jc_region ?_; refine jo_h (hy_box (id := 0) (n := 2) rfl rfl rfl (by decide) rfl) (hd 2 rfl) ?_; refine jo_h (hy_box (id := 1) (n := 2) rfl rfl rfl (by decide) rfl) (hd 3 rfl) ?_; refine jo_l (ly_as rfl) (hd 4 rfl) ?_; refine jo_nil ?_; refine jc_seq ?_; refine jc_H (H' := [⟨24, 2, 0, true, [.b sa, .n false .u64 a]⟩, ⟨24, 2, 0, true, [.b sb, .n false .u64 b]⟩]) rfl ?_; refine jc_region ?_; refine jo_l (ly_lda agg27 rfl rfl rfl rfl) (hd 13 rfl) ?_
  refine jo_call Tryd.f6 (lent_s sa a (by omega)) rfl Tryd.func6 rfl rfl (ovL_cons rfl ovL_nil) (.cons (.a1 .b (.a1 .n .a0)) .nil) (hd 14 rfl) ?_ (fun ch hp => by simp at hp)
  rintro y hy; injection hy with hy; subst hy; refine jo_l (ly_mv rfl) (hd 12 rfl) ?_; refine jo_l (ly_ext rfl rfl) (hd 15 rfl) ?_; refine jo_l (ly_ext rfl rfl) (hd 16 rfl) ?_; refine jo_h (hy_alloc (id := 2) zero30 (by decide) rfl (by decide) rfl) (hd 6 rfl) ?_; refine jo_l (ly_as rfl) (hd 5 rfl) ?_; refine jo_st (sy_store rfl rfl rfl siz30 rfl rfl (Nat.le_of_ble_eq_true rfl)) ?_; refine jo_nil ?_; refine jc_seq ?_; refine jc_H (H' := [⟨24, 2, 0, true, [.b sa, .n false .u64 a]⟩, ⟨24, 2, 0, true, [.b sb, .n false .u64 b]⟩, ⟨27, 2, 0, true, [.b sa, .n true .u64 a]⟩]) rfl ?_; refine jc_region ?_; refine jo_l (ly_lda agg27 rfl rfl rfl rfl) (hd 18 rfl) ?_
  refine jo_call Tryd.f6 (lent_s sb b (by omega)) rfl Tryd.func6 rfl rfl (ovL_cons rfl ovL_nil) (.cons (.a1 .b (.a1 .n .a0)) .nil) (hd 19 rfl) ?_ (fun ch hp => by simp at hp)
  rintro y hy; injection hy with hy; subst hy; refine jo_l (ly_mv rfl) (hd 17 rfl) ?_; refine jo_l (ly_ext rfl rfl) (hd 20 rfl) ?_; refine jo_l (ly_ext rfl rfl) (hd 21 rfl) ?_; refine jo_h (hy_alloc (id := 3) zero30 (by decide) rfl (by decide) rfl) (hd 8 rfl) ?_; refine jo_l (ly_as rfl) (hd 7 rfl) ?_; refine jo_st (sy_store rfl rfl rfl siz30 rfl rfl (Nat.le_of_ble_eq_true rfl)) ?_; refine jo_nil ?_; refine jc_seq ?_; refine jc_H (H' := [⟨24, 2, 0, true, [.b sa, .n false .u64 a]⟩, ⟨24, 2, 0, true, [.b sb, .n false .u64 b]⟩, ⟨27, 2, 0, true, [.b sa, .n true .u64 a]⟩, ⟨27, 2, 0, true, [.b sb, .n true .u64 b]⟩]) rfl ?_; refine jc_region ?_; refine jo_l (ly_lda agg30 rfl rfl rfl rfl) (hd 23 rfl) ?_; refine jo_l (ly_lda agg30 rfl rfl rfl rfl) (hd 24 rfl) ?_
  refine jo_callT Tryd.f31 (hJa) hL hTb rfl Tryd.func31 rfl rfl (ovL_cons rfl (ovL_cons rfl ovL_nil)) (.cons (.a1 .b (.a1 .n .a0)) (.cons (.a1 .b (.a1 .n .a0)) .nil)) (hd 25 rfl) ?_ (fun ch hp => by simp at hp)
  rintro y hy; injection hy with hy; subst hy; refine jo_l (ly_mv rfl) (hd 22 rfl) ?_; refine jo_l (ly_ext rfl rfl) (hd 26 rfl) ?_; refine jo_l (ly_ext rfl rfl) (hd 27 rfl) ?_; refine jo_l (ly_as rfl) (hd 9 rfl) ?_; refine jo_l (ly_as rfl) (hd 10 rfl) ?_; refine jo_nil ?_; refine jc_seq ?_; refine jc_H (H' := [⟨24, 2, 0, true, [.b sa, .n false .u64 a]⟩, ⟨24, 2, 0, true, [.b sb, .n false .u64 b]⟩, ⟨27, 2, 0, true, [.b sa, .n true .u64 a]⟩, ⟨27, 2, 0, true, [.b sb, .n true .u64 b]⟩]) rfl ?_; refine jc_region ?_; refine jo_l (ly_lda agg27 rfl rfl rfl rfl) (hd 28 rfl) ?_
  refine jo_call Tryd.f7 (of_s sb b (by omega) ub) rfl Tryd.func7 rfl rfl (ovL_cons rfl ovL_nil) (.cons (.a1 .b (.a1 .n .a0)) .nil) (hd 29 rfl) ?_ (fun ch hp => by simp at hp)
  rintro y hy; injection hy with hy; subst hy; refine jo_h (hy_alloc (id := 4) zero35 (by decide) rfl (by decide) rfl) (hd 11 rfl) ?_; refine jo_st (sy_store rfl rfl rfl siz35 rfl rfl (Nat.le_of_ble_eq_true rfl)) ?_; refine jo_nil ?_; refine jc_seq ?_; refine jc_seq ?_; refine jc_H (H' := [⟨24, 2, 0, true, [.b sa, .n false .u64 a]⟩, ⟨24, 2, 0, true, [.b sb, .n false .u64 b]⟩, ⟨27, 2, 0, true, [.b sa, .n true .u64 a]⟩, ⟨27, 2, 0, true, [.b sb, .n true .u64 b]⟩, ⟨32, 2, 0, true, [.b (decide ((sv sb b) < 0)), .n false .u64 (dg (sv sb b))]⟩]) rfl ?_; refine jc_region ?_; refine jo_l (ly_fa fld35_0 rfl rfl rfl) (hd 30 rfl) ?_; refine jo_l (ly_ff (ly_ld one4 rfl rfl rfl) (by omega)) (hd 31 rfl) ?_; refine jo_l (ly_mv rfl) (hd 32 rfl) ?_; refine jo_g 32 rfl rfl (ly_fa fld35_1 rfl rfl rfl) (hd 33 rfl) ?_; refine jo_g 32 rfl rfl (ly_ld one33 rfl rfl rfl) (hd 34 rfl) ?_
  refine jo_callg Tryd.f32 32 rfl rfl (hBb) rfl Tryd.func32 rfl rfl (ovL_cons rfl (ovL_cons rfl ovL_nil)) (.cons .n (.cons .i .nil)) (hd 35 rfl) ?_ (fun ch hp => by simp at hp)
  rintro y hy; injection hy with hy; subst hy; refine jo_g 32 rfl rfl (ly_ff (ly_eq rfl rfl) (by omega)) (hd 36 rfl) ?_; refine jo_l (ly_pick_f rfl rfl) (hd 37 rfl) ?_; refine jo_nil ?_; refine jc_litf rfl ?_; refine jc_skip ?_; refine jc_seq ?_; refine jc_H (H' := [⟨24, 2, 0, true, [.b sa, .n false .u64 a]⟩, ⟨24, 2, 0, true, [.b sb, .n false .u64 b]⟩, ⟨27, 2, 0, true, [.b sa, .n true .u64 a]⟩, ⟨27, 2, 0, true, [.b sb, .n true .u64 b]⟩, ⟨32, 2, 0, true, [.b (decide ((sv sb b) < 0)), .n false .u64 (dg (sv sb b))]⟩]) rfl ?_; refine jc_draw (n := 27) _ rfl mixed ?_; refine ja_l2 0 [1, 2, 3, 4, 5, 6, 7, 8, 9, 10, 11, 12, 13, 14, 15, 16, 17, 18, 19, 20, 21, 22, 23, 24, 25, 26] (lo_l (ly_mv rfl) (hd 48 rfl)) rfl (by kernel_rfl) (by kernel_rfl) (by kernel_rfl) (by kernel_rfl) (fun _ _ _ _ h => h) ?_
  refine ja_1 1 ?_ rfl (by kernel_rfl)
  refine js_call Tryd.f14 (num_s 0) rfl Tryd.func14 rfl rfl (ovL_cons rfl ovL_nil) (.cons .i .nil) (hd 49 rfl) ?_ (fun ch hp => by simp at hp)
  rintro y hy; injection hy with hy; subst hy; refine ja_l2 2 [3, 4, 5, 6, 7, 8, 9, 10, 11, 12, 13, 14, 15, 16, 17, 18, 19, 20, 21, 22, 23, 24, 25, 26] (lo_l (ly_tt (ly_eq rfl rfl) rfl) (hd 50 rfl)) rfl (by kernel_rfl) (by kernel_rfl) (by kernel_rfl) (by kernel_rfl) (fun _ _ _ _ h => h) ?_; refine ja_l2 3 [4, 5, 6, 7, 8, 9, 10, 11, 12, 13, 14, 15, 16, 17, 18, 19, 20, 21, 22, 23, 24, 25, 26] (lo_l (ly_mv rfl) (hd 51 rfl)) rfl (by kernel_rfl) (by kernel_rfl) (by kernel_rfl) (by kernel_rfl) (fun _ _ _ _ h => h) ?_; refine ja_l2 4 [9, 10, 11, 12, 13, 14, 15, 16, 17, 18, 19, 20, 21, 22, 23, 24, 25, 26] (lo_g 51 rfl rfl (ly_mv rfl) (hd 52 rfl)) rfl (by kernel_rfl) (by kernel_rfl) (by kernel_rfl) (by kernel_rfl) (fun _ _ _ _ h => h) ?_; refine ja_l2 5 [6, 8, 9, 10, 11, 12, 13, 14, 15, 16, 17, 18, 19, 20, 21, 22, 23, 24, 25, 26] (lo_g 51 rfl rfl (ly_lda agg27 rfl rfl rfl rfl) (hd 53 rfl)) rfl (by kernel_rfl) (by kernel_rfl) (by kernel_rfl) (by kernel_rfl) (fun _ _ _ _ h => h) ?_; refine ja_l2 7 [8, 9, 10, 11, 12, 13, 14, 15, 16, 17, 18, 19, 20, 21, 22, 23, 24, 25, 26] (lo_g 51 rfl rfl (ly_lda agg35 rfl rfl rfl rfl) (hd 55 rfl)) rfl (by kernel_rfl) (by kernel_rfl) (by kernel_rfl) (by kernel_rfl) (fun _ _ _ _ h => h) ?_
  refine ja_1 6 ?_ rfl (by kernel_rfl)
  refine js_callg Tryd.f7 51 rfl rfl (of_s sa a (by omega) ua) rfl Tryd.func7 rfl rfl (ovL_cons rfl ovL_nil) (.cons (.a1 .b (.a1 .n .a0)) .nil) (hd 54 rfl) ?_ (fun ch hp => by simp at hp)
  rintro y hy; injection hy with hy; subst hy
  refine ja_1 8 ?_ rfl (by kernel_rfl)
  refine js_callg Tryd.f33 51 rfl rfl (hRJ) rfl Tryd.func33 rfl rfl (ovL_cons rfl (ovL_cons rfl ovL_nil)) (.cons (.a1 .b (.a1 .n .a0)) (.cons (.a1 .b (.a1 .n .a0)) .nil)) (hd 56 rfl) ?_ (fun ch hp => by simp at hp)
  rintro y hy; injection hy with hy; subst hy; refine ja_l2 9 [10, 11, 12, 13, 14, 15, 16, 17, 18, 19, 20, 21, 22, 23, 24, 25, 26] (lo_g 51 rfl rfl (ly_tt (ly_eq rfl rfl) rfl) (hd 57 rfl)) rfl (by kernel_rfl) (by kernel_rfl) (by kernel_rfl) (by kernel_rfl) (fun _ _ _ _ h => h) ?_; refine ja_l2 10 [11, 12, 13, 14, 15, 16, 17, 18, 19, 20, 21, 22, 23, 24, 25, 26] (lo_l (ly_pick_t rfl rfl) (hd 58 rfl)) rfl (by kernel_rfl) (by kernel_rfl) (by kernel_rfl) (by kernel_rfl) (fun _ _ _ _ h => h) ?_; refine ja_l2 11 [12, 13, 14, 15, 16, 17, 18, 19, 20, 21, 22, 23, 24, 25, 26] (lo_l (ly_mv rfl) (hd 59 rfl)) rfl (by kernel_rfl) (by kernel_rfl) (by kernel_rfl) (by kernel_rfl) (fun _ _ _ _ h => h) ?_
  as_aux_lemma =>
    refine ja_l2 12 [15, 16, 17, 18, 19, 20, 21, 22, 23, 24, 25, 26] (lo_g 59 rfl rfl (ly_mv rfl) (hd 60 rfl)) rfl (by kernel_rfl) (by kernel_rfl) (by kernel_rfl) (by kernel_rfl) (fun _ _ _ _ h => h) ?_; refine ja_l2 13 [14, 15, 16, 17, 18, 19, 20, 21, 22, 23, 24, 25, 26] (lo_g 59 rfl rfl (ly_fa fld27_1 rfl rfl rfl) (hd 61 rfl)) rfl (by kernel_rfl) (by kernel_rfl) (by kernel_rfl) (by kernel_rfl) (fun _ _ _ _ h => h) ?_; refine ja_l2 14 [15, 16, 17, 18, 19, 20, 21, 22, 23, 24, 25, 26] (lo_g 59 rfl rfl (ly_ld one25 rfl rfl rfl) (hd 62 rfl)) rfl (by kernel_rfl) (by kernel_rfl) (by kernel_rfl) (by kernel_rfl) (fun _ _ _ _ h => h) ?_
    refine ja_1 15 ?_ rfl (by kernel_rfl)
    refine js_callg Tryd.f23 59 rfl rfl (Kept_s a (by omega)) rfl Tryd.func23 rfl rfl (ovL_cons rfl (ovL_cons rfl ovL_nil)) (.cons .n (.cons .n .nil)) (hd 63 rfl) ?_ (fun ch hp => by simp at hp)
    rintro y hy; injection hy with hy; subst hy; refine ja_l2 16 [17, 18, 19, 20, 21, 22, 23, 24, 25, 26] (lo_l (ly_pick_t rfl rfl) (hd 64 rfl)) rfl (by kernel_rfl) (by kernel_rfl) (by kernel_rfl) (by kernel_rfl) (fun _ _ _ _ h => h) ?_; refine ja_l2 17 [18, 19, 20, 21, 22, 23, 24, 25, 26] (lo_l (ly_mv rfl) (hd 65 rfl)) rfl (by kernel_rfl) (by kernel_rfl) (by kernel_rfl) (by kernel_rfl) (fun _ _ _ _ h => h) ?_; refine ja_l2 18 [21, 22, 23, 24, 25, 26] (lo_g 65 rfl rfl (ly_mv rfl) (hd 66 rfl)) rfl (by kernel_rfl) (by kernel_rfl) (by kernel_rfl) (by kernel_rfl) (fun _ _ _ _ h => h) ?_; refine ja_l2 19 [20, 21, 22, 23, 24, 25, 26] (lo_g 65 rfl rfl (ly_fa fld27_1 rfl rfl rfl) (hd 67 rfl)) rfl (by kernel_rfl) (by kernel_rfl) (by kernel_rfl) (by kernel_rfl) (fun _ _ _ _ h => h) ?_; refine ja_l2 20 [21, 22, 23, 24, 25, 26] (lo_g 65 rfl rfl (ly_ld one25 rfl rfl rfl) (hd 68 rfl)) rfl (by kernel_rfl) (by kernel_rfl) (by kernel_rfl) (by kernel_rfl) (fun _ _ _ _ h => h) ?_
    refine ja_1 21 ?_ rfl (by kernel_rfl)
    refine js_callg Tryd.f23 65 rfl rfl (Kept_s b (by omega)) rfl Tryd.func23 rfl rfl (ovL_cons rfl (ovL_cons rfl ovL_nil)) (.cons .n (.cons .n .nil)) (hd 69 rfl) ?_ (fun ch hp => by simp at hp)
    rintro y hy; injection hy with hy; subst hy; refine ja_l2 22 [23, 24, 25, 26] (lo_l (ly_pick_t rfl rfl) (hd 70 rfl)) rfl (by kernel_rfl) (by kernel_rfl) (by kernel_rfl) (by kernel_rfl) (fun _ _ _ _ h => h) ?_; refine ja_l 23 (lo_l (ly_mv rfl) (hd 71 rfl)) rfl (by kernel_rfl) (by kernel_rfl) (by kernel_rfl) (fun _ _ _ _ h => h) ?_
    as_aux_lemma =>
      refine ja_1 24 ?_ rfl (by kernel_rfl)
      refine js_callg Tryd.f24 71 rfl rfl (awake_s) rfl Tryd.func24 rfl rfl ovL_nil .nil (hd 72 rfl) ?_ (fun ch hp => by simp at hp)
      rintro y hy; injection hy with hy; subst hy; refine ja_l 25 (lo_l (ly_pick_t rfl rfl) (hd 73 rfl)) rfl (by kernel_rfl) (by kernel_rfl) (by kernel_rfl) (fun _ _ _ _ h => h) ?_; refine ja_l 26 (lo_l (ly_as rfl) (hd 4 rfl)) rfl (by kernel_rfl) (by kernel_rfl) (by kernel_rfl) (fun _ _ _ _ h => h) ?_; refine ja_nil (by kernel_rfl) ?_; refine jc_ret ?_
      refine ⟨_, _, (.cons rfl .nil), .b, ?_⟩
      exact rfl

theorem WholeSymbols_s (sa sb : Bool) (a b : List Int) (hab : a.length + b.length ≤ 1048572) (ua : u64s a) (ub : u64s b) : SpecT Tryd.prog 5 0 tzCells [.a [.b sa, .n false .u64 a], .a [.b sb, .n false .u64 b]] (fun o => o = .ret (.b true)) := by
  by_cases h0 : (sv sb b) < 0
  · exact WholeSymbols_n sa sb a b hab ua ub h0
  · rcases Nat.mod_two_eq_zero_or_one ((sv sb b)).natAbs with h2 | h2
    · exact WholeSymbols_e sa sb a b hab ua ub (by omega) h2
    · exact WholeSymbols_y sa sb a b hab ua ub (by omega) h2
end Go.Proofs.YtaogaegchagbfaaDoor.Vc

/- The law WholeSymbols of every input of bulk at most 1048576: it returns true, and the input reads as it did. -/
namespace Go.Proofs.YtaogaegchagbfaaDoor.wholeSymbols
open Go Go.ChangeShapes Go.WideShapes Go.ChangeAt Go.RowKit
open Go.ChangeMaps (open_string shut_string)

theorem own : ownKnob Tryd.prog.godebug = none := by kernel_rfl
theorem laidOut : laidOutB Tryd.prog = true := by kernel_rfl
theorem gTab : Tryd.prog.globalNamed "math/bits.deBruijn64tab" = some 0 := by kernel_rfl
theorem gTabType : (Tryd.prog.globals[0]?).map (·.type) = some 109 := by kernel_rfl
theorem cellsT : Tryd.prog.cellsOf 109 = 64 := by kernel_rfl
theorem cellsE : Tryd.prog.cellsOf 5 = 1 := by kernel_rfl
theorem table {W : World} (h : laidMetH Tryd.prog Rows.wholeSymbolsUptoRow.laid W) : Lib.TabIs Tryd.prog W "math/bits.deBruijn64tab" .u8 Vc.tzTab :=
  Lib.tabIs_of_head (rest := []) gTab gTabType Tryd.underlying109 Tryd.underlying5 cellsE cellsT h
theorem tabR {W : World} (h : laidMetH Tryd.prog Rows.wholeSymbolsUptoRow.laid W) : Vc.TabR 0 (Vc.ints .u8 Vc.tzTab) W (fun _ => False) :=
  Vc.tabR_of (by decide) fun i hi => (table h).cell gTab i hi
noncomputable def laidWorld (os : Os) : World :=
  { World.holding Tryd.prog os ⟨#[], #[], []⟩ with heap := (World.holding Tryd.prog os ⟨#[], #[], []⟩).heap.modify 0 fun
      | .cells _ t frozen => .cells #[.int .u8 0, .int .u8 1, .int .u8 56, .int .u8 2, .int .u8 57, .int .u8 49, .int .u8 28, .int .u8 3, .int .u8 61, .int .u8 58, .int .u8 42, .int .u8 50, .int .u8 38, .int .u8 29, .int .u8 17, .int .u8 4, .int .u8 62, .int .u8 47, .int .u8 59, .int .u8 36, .int .u8 45, .int .u8 43, .int .u8 51, .int .u8 22, .int .u8 53, .int .u8 39, .int .u8 33, .int .u8 30, .int .u8 24, .int .u8 18, .int .u8 12, .int .u8 5, .int .u8 63, .int .u8 55, .int .u8 48, .int .u8 27, .int .u8 60, .int .u8 41, .int .u8 37, .int .u8 16, .int .u8 46, .int .u8 35, .int .u8 44, .int .u8 21, .int .u8 52, .int .u8 32, .int .u8 23, .int .u8 11, .int .u8 54, .int .u8 26, .int .u8 40, .int .u8 15, .int .u8 34, .int .u8 20, .int .u8 31, .int .u8 10, .int .u8 25, .int .u8 14, .int .u8 19, .int .u8 9, .int .u8 13, .int .u8 8, .int .u8 7, .int .u8 6] t frozen
      | o => o }
theorem laid_met (os : Os) : laidMet Tryd.prog Rows.wholeSymbolsUptoRow.laid ((laidWorld os).forCall (fun _ _ => 0) ⟨#[], #[.agg #[.bool false, .slice none 0 0], .agg #[.bool false, .slice none 0 0]], []⟩).memory :=
  laidMet_of_run' 8 (by kernel_rfl) (by kernel_rfl)
theorem reads (os : Os) {H : Type} (enc : TypeId × Value → H) : ∃ places, DataW.whole enc Tryd.prog ((laidWorld os).forCall (fun _ _ => 0) ⟨#[], #[.agg #[.bool false, .slice none 0 0], .agg #[.bool false, .slice none 0 0]], []⟩).memory Tryd.f5.params.toList Rows.wholeSymbolsSpec.vars false (#[.agg #[.bool false, .slice none 0 0], .agg #[.bool false, .slice none 0 0]] : Array Value).toList 8 = some ([.agg [.lit (.bool false), .nil], .agg [.lit (.bool false), .nil]], [], places) :=
  ⟨[], by kernel_rfl⟩
set_option maxRecDepth 100000 in
theorem lifted (os : Os) (started : os.Started) (H : Type) (enc : TypeId × Value → H) (F : Stop.Interp) :
    ReturnsInHanded {} Tryd.checked os 5 .any ((Rows.OpenSpec.upto Rows.wholeSymbolsSpec).preRow enc Tryd.prog Tryd.f5 Rows.wholeSymbolsUptoRow.domain false Rows.wholeSymbolsUptoRow.laid) (((Rows.OpenSpec.upto Rows.wholeSymbolsSpec).at F).post enc Tryd.prog Tryd.f5 false true false false) := by
  obtain ⟨places, hx⟩ := reads os enc
  refine returnsInHanded_of_row (C := Tryd.checked) (s := Rows.OpenSpec.upto Rows.wholeSymbolsSpec) own started (by kernel_rfl) Tryd.func5
    (witness_row_at (enc := enc) (C := Tryd.checked) false (laidWorld os) #[.agg #[.bool false, .slice none 0 0], .agg #[.bool false, .slice none 0 0]] rfl (by kernel_rfl) (by kernel_rfl) (by kernel_rfl)
      (OpenSpec.preRow_of_cond 8 hx (by kernel_rfl) (fun k hk => by cases hk; kernel_rfl) (by kernel_rfl) (laid_met os))) ?_
  intro W base args ds gs before hval0 hW _ hcond _ hL _ _
  have hk := hcond _ rfl
  have hval : ∀ (j : Nat) t v, Tryd.f5.params[j]? = some t → args[j]? = some v → Value.okWide Tryd.prog W .any base t v := hval0
  have hW' := hW
  obtain ⟨p, q, hA0, hV, rfl, hfz, hnd⟩ := hW
  have hA : DataW.TrodAll enc Tryd.prog W 0 (fun _ => true) true Tryd.f5.params.toList args.toList ds p := hA0
  rw [Tryd.params5] at hA hval
  obtain ⟨v0, vs0, d0, ds0, p0, q0, hargs, rfl, rfl, h0, r0⟩ := trodAll_cons hA
  obtain ⟨v1, vs1, d1, ds1, p1, q1, rfl, rfl, rfl, h1, r1⟩ := trodAll_cons r0
  obtain ⟨rfl, rfl, rfl⟩ := trodAll_nil r1
  obtain rfl : args = #[v0, v1] := by cases args; simp_all
  obtain ⟨rfl, rfl⟩ := trodVars_none hV
  have hk0 := h0
  obtain ⟨s0, l0, rel0, hb0, ul0⟩ := Vc.openW (hval 0 24 v0 rfl rfl) h0
  have hk1 := h1
  obtain ⟨s1, l1, rel1, hb1, ul1⟩ := Vc.openW (hval 1 24 v1 rfl rfl) h1
  clear hA0 hval0
  simp only [List.append_nil] at hW' hk
  refine (Vc.specT_calls (tabR hL) (vals := [v0, v1]) (Vc.WholeSymbols_s s0 s1 l0 l1 (Vc.short2b hk hb0 hb1) ul0 ul1) W (⟨_, _, rfl, rel0, ⟨_, _, rfl, rel1, rfl⟩⟩)).mono fun e W' ⟨he, hb⟩ => ?_; subst he
  have hlt : ∀ x ∈ p0 ++ p1, x.block < W.heap.size := fun x hx => by simpa using hW'.lt x (by simpa using hx)
  exact ⟨_, rfl, Vc.post_of_below (pa := (p0 ++ (p1 ++ []))) (pv := []) hW' (fun _ _ _ => (trodAll_cons_mk (shut_bool Tryd.underlying4 _) trodAll_mk0)) (fun sp hsp => (trodAll_cons_mk (Go.WideElems.Trod_stays laidOut (by kernel_rfl) (of_decide_eq_true (by kernel_rfl)) hk0 (fun x hx => hb.same (hlt x (by simp [hx]))) (fun x hx => hsp x (by simp [hx]))) (trodAll_cons_mk (Go.WideElems.Trod_stays laidOut (by kernel_rfl) (of_decide_eq_true (by kernel_rfl)) hk1 (fun x hx => hb.same (hlt x (by simp [hx]))) (fun x hx => hsp x (by simp [hx]))) trodAll_mk0))) (fun _ _ => rfl) (by simp) hb⟩

theorem said : Rows.wholeSymbolsUptoRow.holds Tryd.pinned (Rows.OpenSpec.upto Rows.wholeSymbolsSpec) :=
  OpenClaim.holds_of_cond 5 Tryd.f5 rfl rfl rfl rfl rfl rfl rfl ⟨rfl, rfl, rfl, rfl, rfl⟩ rfl rfl rfl rfl rfl (by kernel_rfl) Tryd.func5 (by kernel_rfl)
    (of_decide_eq_true (by kernel_rfl)) (by unfold Func.isWrapper; first | (rw [if_pos (by decide +kernel)]; kernel_rfl) | (rw [if_neg (by decide +kernel)]; exact ⟨rfl, rfl⟩))
    (fun os started H enc _ F => by rw [OpenClaim.pre_eq_preRow]; exact lifted os started H enc F)
theorem plain (f : FuncId) (fn : Func) (hf : Tryd.pinned.checked.prog.funcNamed Rows.wholeSymbolsUptoRow.func = some f) (hfn : Tryd.pinned.checked.prog.funcs[f]? = some fn) :
    false = Tryd.pinned.checked.prog.looks [] ∧ ∀ (j : Nat) t, fn.params[j]? = some t → Tryd.pinned.checked.prog.wantsStandIn t = false := by
  obtain rfl : f = 5 := Option.some.inj ((show Tryd.prog.funcNamed Rows.wholeSymbolsUptoRow.func = some 5 by kernel_rfl).symm.trans hf) |>.symm
  obtain rfl : fn = Tryd.f5 := (Option.some.inj (Tryd.func5.symm.trans hfn)).symm
  refine ⟨by kernel_rfl, fun j t ht => ?_⟩
  rw [Tryd.params5] at ht
  have hm := Array.mem_of_getElem? ht
  simp only [List.mem_toArray, List.mem_cons, List.mem_nil_iff, or_false] at hm
  rcases hm with h9 | h9
  · subst h9
    exact (show Tryd.prog.wantsStandIn 24 = false by kernel_rfl)
  · subst h9
    exact (show Tryd.prog.wantsStandIn 24 = false by kernel_rfl)
theorem proved : Rows.WholeSymbolsUptoCardSaid :=
  Claim7.holds_tied_plain_at .later [] _ _ _ _ said (fun _ h => by cases h) (by kernel_rfl) (fun _ h => by cases h) wholeSymbolsUpto_row_tie rfl ⟨rfl, rfl⟩ (by kernel_rfl) rfl plain (by kernel_rfl)
end Go.Proofs.YtaogaegchagbfaaDoor.wholeSymbols
