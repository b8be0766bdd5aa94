/- Sums at a place, differences in place, parts of a number, Karatsuba's way: plain Lean. -/
import Derived.Test.YtcdipmjgpimmdaaNc
set_option linter.unusedVariables false
set_option linter.unusedSimpArgs false
namespace Go.Proofs.Ytcdipmjgpimmdaa.Vc
open Go Go.RowKit

theorem u64s_zeros (n : Nat) : u64s (List.replicate n 0) := fun x hx => by rw [List.eq_of_mem_replicate hx]; exact ⟨by decide, by decide⟩
theorem getD_zeros (n j : Nat) : (List.replicate n (0 : Int)).getD j 0 = 0 := by
  rw [List.getD_eq_getElem?_getD, List.getElem?_replicate]; split <;> rfl
theorem u64s_app {a b : List Int} (ha : u64s a) (hb : u64s b) : u64s (a ++ b) := fun x hx => by
  rcases List.mem_append.1 hx with hx | hx
  · exact ha x hx
  · exact hb x hx
theorem u64s_drop {a : List Int} (ha : u64s a) (k : Nat) : u64s (a.drop k) := fun x hx => ha x (List.mem_of_mem_drop hx)
theorem u64s_take {a : List Int} (ha : u64s a) (k : Nat) : u64s (a.take k) := fun x hx => ha x (List.mem_of_mem_take hx)
/-- One step of a sum at a place. -/
theorem add_in {q q2 b : List Int} {i at_ : Nat} {c c2 s V : Int} (hj : i < q.length) (hi : at_ ≤ i) (hq2 : q2 = q.set i s)
    (hv : vl q + c * pB i = V + pB at_ * vk b (i - at_)) (hs : s + 18446744073709551616 * c2 = q.getD i 0 + b.getD (i - at_) 0 + c) : vl q2 + c2 * pB (i + 1) = V + pB at_ * vk b (i + 1 - at_) := by
  subst hq2
  rw [vl_set _ _ _ hj, show i + 1 - at_ = (i - at_) + 1 by omega, vk_succ]
  simp only [pB]
  have hB : Bs = 18446744073709551616 := rfl
  have e1 : c2 * (Bs * pB i) = pB i * (18446744073709551616 * c2) := by rw [hB, ← Int.mul_assoc, Int.mul_comm (c2 * 18446744073709551616), Int.mul_comm c2]
  have e2 : pB at_ * (vk b (i - at_) + pB (i - at_) * b.getD (i - at_) 0) = pB at_ * vk b (i - at_) + pB i * b.getD (i - at_) 0 := by
    rw [Int.mul_add, ← Int.mul_assoc, ← pB_add, show at_ + (i - at_) = i by omega]
  have e3 : pB i * (s - q.getD i 0) + pB i * (18446744073709551616 * c2) = pB i * b.getD (i - at_) 0 + pB i * c := by
    rw [← Int.mul_add, ← Int.mul_add]; congr 1; omega
  have e4 : c * pB i = pB i * c := Int.mul_comm _ _
  rw [e1, e2]
  omega
theorem add_end {q r b : List Int} {i at_ n : Nat} {c : Int} (hq : u64s q) (hr : u64s r) (hb : u64s b) (hc0 : 0 ≤ c) (hi : at_ ≤ i) (hfit : vl r + pB at_ * vl b < pB n) (h : n ≤ i ∨ (b.length ≤ i - at_ ∧ c ≤ 0))
    (hv : vl q + c * pB i = vl r + pB at_ * vk b (i - at_)) : vl q = vl r + pB at_ * vl b := by
  have hr0 := vl_nonneg hr
  have hq0 := vl_nonneg hq
  rcases h with h | ⟨h1, h2⟩
  · have e := no_rest hb (at_ := at_) (k := i - at_) (n := n) (by omega) (by omega)
    rw [e] at hv
    have hp := pB_mono h
    rcases Int.lt_or_le 0 c with hc | hc
    · have := Int.mul_le_mul_of_nonneg_right (show 1 ≤ c by omega) (Int.le_of_lt (pB_pos i))
      omega
    · have : c = 0 := by omega
      rw [this, Int.zero_mul, Int.add_zero] at hv; exact hv
  · have : c = 0 := by omega
    rw [this, Int.zero_mul, Int.add_zero, vk_all h1] at hv; exact hv
/-- A difference in place. -/
theorem sub_at {a b : List Int} {i : Nat} (h : i < a.length) : ((sbN a b i).1 ++ a.drop i).getD i 0 = a.getD i 0 := by
  rw [List.getD_eq_getElem?_getD, List.getElem?_append_right (by rw [sbN_len]; exact Nat.le_refl _), sbN_len, Nat.sub_self, List.getElem?_drop, Nat.add_zero, ← List.getD_eq_getElem?_getD]
theorem sub_len {a b : List Int} {i : Nat} (h : i ≤ a.length) : ((sbN a b i).1 ++ a.drop i).length = a.length := by rw [List.length_append, sbN_len, List.length_drop]; omega
theorem sub_fill {a b : List Int} {i : Nat} (h : i < a.length) : ((sbN a b i).1 ++ a.drop i).set ((0 + i) * 1) (if a.getD i 0 < b.getD i 0 + (sbN a b i).2 then a.getD i 0 - b.getD i 0 - (sbN a b i).2 + 18446744073709551616 else a.getD i 0 - b.getD i 0 - (sbN a b i).2) = (sbN a b (i + 1)).1 ++ a.drop (i + 1) := by
  rw [Nat.zero_add, Nat.mul_one, List.set_append_right _ _ (by rw [sbN_len]; exact Nat.le_refl _), sbN_len, Nat.sub_self, drop_cons' h, List.set_cons_zero]
  simp only [sbN]
  rw [List.append_assoc]; rfl
theorem vl_sub {a b : List Int} (ha : u64s a) (hb : u64s b) (h : vl b ≤ vl a) : vl (sbN a b a.length).1 = vl a - vl b := by
  have hv := sbN_val a b a.length
  have hlt := vl_lt ha
  have e := no_rest hb (at_ := 0) (k := a.length) (n := a.length) (by omega) (by simp only [pB, Int.one_mul]; omega)
  rw [vk_all (Nat.le_refl _), e] at hv
  have hc := sbN_c a b a.length
  have hs := vl_lt (sbN_u ha hb a.length)
  rw [sbN_len] at hs
  rcases (show (sbN a b a.length).2 = 0 ∨ (sbN a b a.length).2 = 1 by omega) with h0 | h0
  · rw [h0, Int.mul_zero] at hv; omega
  · rw [h0, Int.mul_one] at hv; omega
/-- A nought at a part's top. -/
theorem part_step {l : List Int} {F k : Nat} (hF : F < k) (hk : k ≤ l.length) (h : l.getD (k - 1) 0 = 0) : vl ((l.take (k - 1)).drop F) = vl ((l.take k).drop F) := by
  obtain ⟨j, rfl⟩ : ∃ j, k = j + 1 := ⟨k - 1, by omega⟩
  rw [Nat.add_sub_cancel] at h ⊢
  have e : l.take (j + 1) = l.take j ++ [l.getD j 0] := by
    rw [List.take_succ_eq_append_getElem (by omega), List.getD_eq_getElem?_getD, List.getElem?_eq_getElem (by omega)]; rfl
  rw [e, h, List.drop_append, vl_app]
  have : F - (l.take j).length = 0 := by rw [List.length_take]; omega
  rw [this]
  simp [vl]
theorem min_take {l : List Int} {t : Nat} : l.take (min t l.length) = l.take t := by
  rcases Nat.le_total t l.length with h | h
  · rw [Nat.min_eq_left h]
  · rw [Nat.min_eq_right h, List.take_length, List.take_of_length_le h]
theorem part_all {l : List Int} {f t : Nat} (h : f ≤ t) : (l.take (min t l.length)).drop (min f l.length) = (l.take t).drop f := by
  rw [min_take]
  rcases Nat.le_total f l.length with h1 | h1
  · rw [Nat.min_eq_left h1]
  · rw [Nat.min_eq_right h1, List.drop_eq_nil_of_le (by rw [List.length_take]; omega), List.drop_eq_nil_of_le (by rw [List.length_take]; omega)]
theorem split_val {l : List Int} (k : Nat) : vl ((l.take k).drop 0) + pB k * vl ((l.take l.length).drop k) = vl l := by
  rw [List.drop_zero, List.take_length]
  by_cases h : k ≤ l.length
  · have := vl_app (l.take k) (l.drop k)
    rw [List.take_append_drop, List.length_take, Nat.min_eq_left h] at this
    exact this.symm
  · rw [List.take_of_length_le (by omega), List.drop_eq_nil_of_le (by omega)]; simp [vl]
/-- Karatsuba's identity. -/
theorem kara {al ah bl bh K A B lo hi mid : Int} (hA : al + K * ah = A) (hB : bl + K * bh = B) (hlo : lo = al * bl) (hhi : hi = ah * bh) (hmid : mid = (al + ah) * (bl + bh) - lo - hi) : lo + K * mid + (K * K) * hi = A * B := by
  subst hA; subst hB; subst hlo; subst hhi; subst hmid
  have e1 : (al + ah) * (bl + bh) = al * bl + al * bh + (ah * bl + ah * bh) := by rw [Int.add_mul, Int.mul_add, Int.mul_add]
  have e2 : (al + K * ah) * (bl + K * bh) = al * bl + K * (al * bh) + (K * (ah * bl) + K * K * (ah * bh)) := by
    rw [Int.add_mul, Int.mul_add, Int.mul_add]
    congr 1
    · congr 1; rw [Int.mul_left_comm]
    · congr 1
      · rw [Int.mul_assoc]
      · rw [Int.mul_assoc, Int.mul_left_comm ah, ← Int.mul_assoc]
  rw [e1, e2]
  have e3 : K * (al * bl + al * bh + (ah * bl + ah * bh) - al * bl - ah * bh) = K * (al * bh) + K * (ah * bl) := by
    rw [← Int.mul_add K]; congr 1; omega
  rw [e3]
  omega
theorem kara_le {al ah bl bh : Int} (h1 : 0 ≤ al) (h2 : 0 ≤ ah) (h3 : 0 ≤ bl) (h4 : 0 ≤ bh) : al * bl ≤ (al + ah) * (bl + bh) ∧ ah * bh ≤ (al + ah) * (bl + bh) - al * bl := by
  have e1 : (al + ah) * (bl + bh) = al * bl + al * bh + (ah * bl + ah * bh) := by rw [Int.add_mul, Int.mul_add, Int.mul_add]
  have a1 := Int.mul_nonneg h1 h4
  have a2 := Int.mul_nonneg h2 h3
  have a3 := Int.mul_nonneg h2 h4
  omega
theorem vl_mul_lt {a b : List Int} (ha : u64s a) (hb : u64s b) : vl a * vl b < pB (a.length + b.length) := by
  have h1 := vl_lt ha
  have h2 := vl_lt hb
  have h3 := vl_nonneg ha
  have h4 := vl_nonneg hb
  rw [pB_add]
  rcases Int.lt_or_le 0 (vl b) with h | h
  · have := Int.mul_lt_mul_of_pos_right h1 h
    have := Int.mul_le_mul_of_nonneg_left (Int.le_of_lt h2) (Int.le_of_lt (pB_pos a.length))
    omega
  · have : vl b = 0 := by omega
    rw [this, Int.mul_zero]; exact Int.mul_pos (pB_pos _) (pB_pos _)
theorem half_k {n : Nat} (h : n < 4611686018427387904) : IntKind.i64.wrap (Int.tdiv (n : Int) 2) = ((n / 2 : Nat) : Int) := by
  rw [Int.tdiv_eq_ediv_of_nonneg (by omega), wrap_i64 (by omega) (by omega)]; omega
end Go.Proofs.Ytcdipmjgpimmdaa.Vc
