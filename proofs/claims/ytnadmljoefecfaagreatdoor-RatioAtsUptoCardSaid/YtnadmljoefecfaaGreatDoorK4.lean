/- The law RatioAts of every input of bulk at most 1048576: it returns true, and the input reads as it did. Texts joined: Nc, Nd, Ne, Nf, Ng, Nh, Ni, Nj, Ty, Tz, Tx, Tq, Tr, Tw, Oa, Nk, Nl, Nm, Nn, No, Np, Nq. -/
import Derived.Test.YtnadmljoefecfaaGreatDoorK3
import Derived.Test.YtnadmljoefecfaaGreatDoorRows
set_option linter.unusedVariables false
set_option linter.unusedSimpArgs false
set_option maxHeartbeats 4000000
namespace Go.Proofs.YtnadmljoefecfaaGreatDoor.Vc
open Go Go.RowKit

theorem P2 {x : Int} (h : 0 ≤ x) : x.fdiv (2 ^ min (32 : Int).toNat 64) = x / 4294967296 := by
  obtain ⟨n, rfl⟩ := Int.eq_ofNat_of_zero_le h
  exact Hh (k := 4294967296) (by decide)
theorem W9 {x : Int} (h0 : 0 ≤ x) (h1 : x < 18446744073709551616) : F7 .and .u64 x 4294967295 = x % 4294967296 := by
  obtain ⟨n, rfl⟩ := Int.eq_ofNat_of_zero_le h0
  unfold F7
  simp only [IntKind.bits]
  have e1 : (BitVec.ofInt 64 (n : Int)).toNat = n := by
    rw [BitVec.toNat_ofInt]; simp; omega
  have e2 : (BitVec.ofInt 64 4294967295).toNat = 4294967295 := by decide
  have e3 : (BitVec.ofInt 64 (n : Int) &&& BitVec.ofInt 64 4294967295).toNat = n % 4294967296 := by
    rw [BitVec.toNat_and, e1, e2]
    have := Nat.and_two_pow_sub_one_eq_mod n 32
    simpa using this
  show IntKind.u64.wrap (((BitVec.ofInt 64 (n : Int) &&& BitVec.ofInt 64 4294967295).toNat : Nat) : Int) = _
  rw [e3, A0 (by omega) (by omega)]
  omega
theorem Jz {a b m : Int} (ha : 0 ≤ a) (hb : 0 ≤ b) (ham : a ≤ m) (hbm : b ≤ m) : 0 ≤ a * b ∧ a * b ≤ m * m := by
  refine ⟨Int.mul_nonneg ha hb, ?_⟩
  exact Int.mul_le_mul ham hbm hb (by omega)
theorem Vd (x y : Int) : x * y = (x / 4294967296) * (y / 4294967296) * 18446744073709551616 + ((x / 4294967296) * (y % 4294967296) + (x % 4294967296) * (y / 4294967296)) * 4294967296 + (x % 4294967296) * (y % 4294967296) := by
  have hx := Int.emod_add_mul_ediv x 4294967296
  have hy := Int.emod_add_mul_ediv y 4294967296
  generalize x / 4294967296 = x1 at *
  generalize x % 4294967296 = x0 at *
  generalize y / 4294967296 = y1 at *
  generalize y % 4294967296 = y0 at *
  rw [← hx, ← hy, Int.add_mul, Int.mul_add, Int.mul_add]
  have e1 : x0 * (4294967296 * y1) = 4294967296 * (x0 * y1) := by rw [Int.mul_left_comm]
  have e2 : 4294967296 * x1 * y0 = 4294967296 * (x1 * y0) := Int.mul_assoc _ _ _
  have e3 : 4294967296 * x1 * (4294967296 * y1) = 18446744073709551616 * (x1 * y1) := by
    rw [Int.mul_assoc, Int.mul_left_comm x1, ← Int.mul_assoc 4294967296 4294967296]; rfl
  rw [e1, e2, e3]
  omega
theorem Vf {x y : Int} (hx0 : 0 ≤ x) (hx : x < 18446744073709551616) (hy0 : 0 ≤ y) (hy : y < 18446744073709551616) :
    let p00 := x % 4294967296 * (y % 4294967296)
    let p10 := x / 4294967296 * (y % 4294967296)
    let p01 := x % 4294967296 * (y / 4294967296)
    let p11 := x / 4294967296 * (y / 4294967296)
    let t := p10 + p00 / 4294967296
    let u := t % 4294967296 + p01
    (0 ≤ p00 ∧ p00 ≤ 18446744065119617025) ∧ (0 ≤ p10 ∧ p10 ≤ 18446744065119617025) ∧ (0 ≤ p01 ∧ p01 ≤ 18446744065119617025) ∧ (0 ≤ p11 ∧ p11 ≤ 18446744065119617025) ∧ p11 + t / 4294967296 + u / 4294967296 = x * y / 18446744073709551616 := by
  intro p00 p10 p01 p11 t u
  have b00 := Jz (a := x % 4294967296) (b := y % 4294967296) (m := 4294967295) (by omega) (by omega) (by omega) (by omega)
  have b10 := Jz (a := x / 4294967296) (b := y % 4294967296) (m := 4294967295) (by omega) (by omega) (by omega) (by omega)
  have b01 := Jz (a := x % 4294967296) (b := y / 4294967296) (m := 4294967295) (by omega) (by omega) (by omega) (by omega)
  have b11 := Jz (a := x / 4294967296) (b := y / 4294967296) (m := 4294967295) (by omega) (by omega) (by omega) (by omega)
  have hp := Vd x y
  have em : (4294967295 : Int) * 4294967295 = 18446744065119617025 := by decide
  rw [em] at b00 b10 b01 b11
  refine ⟨b00, b10, b01, b11, ?_⟩
  show x / 4294967296 * (y / 4294967296) + (x / 4294967296 * (y % 4294967296) + x % 4294967296 * (y % 4294967296) / 4294967296) / 4294967296 + ((x / 4294967296 * (y % 4294967296) + x % 4294967296 * (y % 4294967296) / 4294967296) % 4294967296 + x % 4294967296 * (y / 4294967296)) / 4294967296 = x * y / 18446744073709551616
  generalize x / 4294967296 * (y / 4294967296) = q11 at *
  generalize x / 4294967296 * (y % 4294967296) = q10 at *
  generalize x % 4294967296 * (y / 4294967296) = q01 at *
  generalize x % 4294967296 * (y % 4294967296) = q00 at *
  rw [hp]
  omega
theorem Dr {m : Int} : IntKind.u64.wrap m = m % 18446744073709551616 := by
  simp only [IntKind.wrap, IntKind.bits, IntKind.signed] <;> simp
theorem Jw : ∀ (l : List Int) (j : Nat) (v : Int), j < l.length → vl (l.set j v) = vl l + pB j * (v - l.getD j 0)
  | [], j, v, h => by simp at h
  | x :: l, 0, v, _ => by
    have e : (x :: l).getD 0 0 = x := rfl
    simp only [List.set_cons_zero, vl, pB, e]; omega
  | x :: l, j + 1, v, h => by
    have ih := Jw l j v (by simpa using h)
    have e : (x :: l).getD (j + 1) 0 = l.getD j 0 := rfl
    simp only [List.set_cons_succ, vl, pB, e]
    rw [ih, Int.mul_add, Int.mul_assoc]; omega
theorem Sb {l : List Int} {j k : Nat} {v : Int} (hne : k ≠ j) : (l.set j v).getD k 0 = l.getD k 0 := by
  rw [List.getD_eq_getElem?_getD, List.getD_eq_getElem?_getD, List.getElem?_set_ne (Ne.symm hne)]
theorem J8 {l : List Int} {j : Nat} {v : Int} (h : Az l) (h0 : 0 ≤ v) (h1 : v < 18446744073709551616) : Az (l.set j v) := fun x hx => by
  rcases List.mem_or_eq_of_mem_set hx with hx | hx
  · exact h x hx
  · subst hx; exact ⟨h0, h1⟩
theorem P4 {P c t : Int} (hP0 : 0 ≤ P) (hP : P ≤ 340282366920938463426481119284349108225) (hc0 : 0 ≤ c) (hc : c < 18446744073709551616) (ht0 : 0 ≤ t) (ht : t < 18446744073709551616) :
    0 ≤ P / 18446744073709551616 + (P % 18446744073709551616 + c + 0) / 18446744073709551616 ∧ P / 18446744073709551616 + (P % 18446744073709551616 + c + 0) / 18446744073709551616 < 18446744073709551616 ∧
    0 ≤ P / 18446744073709551616 + (P % 18446744073709551616 + c + 0) / 18446744073709551616 + (t + (P % 18446744073709551616 + c + 0) % 18446744073709551616 + 0) / 18446744073709551616 ∧
    P / 18446744073709551616 + (P % 18446744073709551616 + c + 0) / 18446744073709551616 + (t + (P % 18446744073709551616 + c + 0) % 18446744073709551616 + 0) / 18446744073709551616 < 18446744073709551616 ∧
    (t + (P % 18446744073709551616 + c + 0) % 18446744073709551616 + 0) % 18446744073709551616 + 18446744073709551616 * (P / 18446744073709551616 + (P % 18446744073709551616 + c + 0) / 18446744073709551616 + (t + (P % 18446744073709551616 + c + 0) % 18446744073709551616 + 0) / 18446744073709551616) = t + P + c := by
  omega
theorem Tl {b : List Int} (hb : Az b) (k : Nat) : ∃ r, 0 ≤ r ∧ vl b = vk b k + pB k * r := by
  refine ⟨vl (b.drop k), Bf fun x hx => hb x (List.mem_of_mem_drop hx), ?_⟩
  by_cases h : k ≤ b.length
  · have := D5 (b.take k) (b.drop k)
    rw [List.take_append_drop, List.length_take, Nat.min_eq_left h] at this
    exact this
  · rw [List.drop_eq_nil_of_le (by omega), Dq (by omega)]; simp [vl]
theorem It {b : List Int} (hb : Az b) (k : Nat) : 0 ≤ vk b k := Bf fun x hx => hb x (List.mem_of_mem_take hx)
theorem Va {b : List Int} (hb : Az b) {at_ k n : Nat} (hn : n ≤ at_ + k) (h : pB at_ * vl b < pB n) : vk b k = vl b := by
  obtain ⟨r, h0, h1⟩ := Tl hb k
  rcases Int.lt_or_le 0 r with hr | hr
  · exfalso
    have h2 := Int.mul_le_mul_of_nonneg_left (show 1 ≤ r by omega) (Int.le_of_lt (Dd k))
    have h3 := It hb k
    have h4 := Int.mul_le_mul_of_nonneg_left (show pB k ≤ vl b by omega) (Int.le_of_lt (Dd at_))
    rw [← Gb] at h4
    have h5 := Fz hn
    omega
  · have : r = 0 := by omega
    rw [this, Int.mul_zero, Int.add_zero] at h1
    exact h1.symm
theorem Oe {o o2 b : List Int} {i k : Nat} {c c2 x t s : Int} (hj : i + k < o.length) (ho2 : o2 = o.set (i + k) s) (ht : o.getD (i + k) 0 = t) {V : Int}
    (hv : vl o + c * pB (i + k) = V + x * pB i * vk b k) (hs : s + 18446744073709551616 * c2 = t + x * b.getD k 0 + c) : vl o2 + c2 * pB (i + (k + 1)) = V + x * pB i * vk b (k + 1) := by
  subst ho2
  rw [Jw _ _ _ hj, ht, Cu, show i + (k + 1) = (i + k) + 1 by omega]
  simp only [pB]
  have hB : Bs = 18446744073709551616 := rfl
  have e1 : c2 * (Bs * pB (i + k)) = pB (i + k) * (18446744073709551616 * c2) := by rw [hB, ← Int.mul_assoc, Int.mul_comm (c2 * 18446744073709551616), Int.mul_comm c2]
  have e2 : x * pB i * (vk b k + pB k * b.getD k 0) = x * pB i * vk b k + pB (i + k) * (x * b.getD k 0) := by
    rw [Int.mul_add, Gb]
    congr 1
    rw [Int.mul_assoc, Int.mul_left_comm (pB i * pB k), Int.mul_assoc (pB i)]
  have e3 : pB (i + k) * (s - t) + pB (i + k) * (18446744073709551616 * c2) = pB (i + k) * (x * b.getD k 0) + pB (i + k) * c := by
    rw [← Int.mul_add, ← Int.mul_add]; congr 1; omega
  rw [e1, e2]
  have e4 : c * pB (i + k) = pB (i + k) * c := Int.mul_comm _ _
  omega
theorem Lx {o o2 a b : List Int} {i : Nat} {c : Int} (hj : i + b.length < o.length) (h0 : o.getD (i + b.length) 0 = 0) (ho2 : o2 = o.set (i + b.length) c)
    (hv : vl o + c * pB (i + b.length) = vk a i * vl b + a.getD i 0 * pB i * vk b b.length) : vl o2 = vk a (i + 1) * vl b := by
  subst ho2
  rw [Jw _ _ _ hj, h0, Cu, Int.add_mul]
  rw [Dq (Nat.le_refl _)] at hv
  have e : pB i * a.getD i 0 * vl b = a.getD i 0 * pB i * vl b := by rw [Int.mul_comm (pB i)]
  have e4 : c * pB (i + b.length) = pB (i + b.length) * c := Int.mul_comm _ _
  rw [e, Int.sub_zero]
  omega


theorem Hw (n : Nat) : Az (List.replicate n 0) := fun x hx => by rw [List.eq_of_mem_replicate hx]; exact ⟨by decide, by decide⟩
theorem S4 (n j : Nat) : (List.replicate n (0 : Int)).getD j 0 = 0 := by
  rw [List.getD_eq_getElem?_getD, List.getElem?_replicate]; split <;> rfl
theorem Mk {a b : List Int} (ha : Az a) (hb : Az b) : Az (a ++ b) := fun x hx => by
  rcases List.mem_append.1 hx with hx | hx
  · exact ha x hx
  · exact hb x hx
theorem Fe {a : List Int} (ha : Az a) (k : Nat) : Az (a.drop k) := fun x hx => ha x (List.mem_of_mem_drop hx)
theorem Ep {a : List Int} (ha : Az a) (k : Nat) : Az (a.take k) := fun x hx => ha x (List.mem_of_mem_take hx)
theorem Acd {q q2 b : List Int} {i at_ : Nat} {c c2 s V : Int} (hj : i < q.length) (hi : at_ ≤ i) (hq2 : q2 = q.set i s)
    (hv : vl q + c * pB i = V + pB at_ * vk b (i - at_)) (hs : s + 18446744073709551616 * c2 = q.getD i 0 + b.getD (i - at_) 0 + c) : vl q2 + c2 * pB (i + 1) = V + pB at_ * vk b (i + 1 - at_) := by
  subst hq2
  rw [Jw _ _ _ hj, show i + 1 - at_ = (i - at_) + 1 by omega, Cu]
  simp only [pB]
  have hB : Bs = 18446744073709551616 := rfl
  have e1 : c2 * (Bs * pB i) = pB i * (18446744073709551616 * c2) := by rw [hB, ← Int.mul_assoc, Int.mul_comm (c2 * 18446744073709551616), Int.mul_comm c2]
  have e2 : pB at_ * (vk b (i - at_) + pB (i - at_) * b.getD (i - at_) 0) = pB at_ * vk b (i - at_) + pB i * b.getD (i - at_) 0 := by
    rw [Int.mul_add, ← Int.mul_assoc, ← Gb, show at_ + (i - at_) = i by omega]
  have e3 : pB i * (s - q.getD i 0) + pB i * (18446744073709551616 * c2) = pB i * b.getD (i - at_) 0 + pB i * c := by
    rw [← Int.mul_add, ← Int.mul_add]; congr 1; omega
  have e4 : c * pB i = pB i * c := Int.mul_comm _ _
  rw [e1, e2]
  omega
theorem Xb {q r b : List Int} {i at_ n : Nat} {c : Int} (hq : Az q) (hr : Az r) (hb : Az b) (hc0 : 0 ≤ c) (hi : at_ ≤ i) (hfit : vl r + pB at_ * vl b < pB n) (h : n ≤ i ∨ (b.length ≤ i - at_ ∧ c ≤ 0))
    (hv : vl q + c * pB i = vl r + pB at_ * vk b (i - at_)) : vl q = vl r + pB at_ * vl b := by
  have hr0 := Bf hr
  have hq0 := Bf hq
  rcases h with h | ⟨h1, h2⟩
  · have e := Va hb (at_ := at_) (k := i - at_) (n := n) (by omega) (by omega)
    rw [e] at hv
    have hp := Fz h
    rcases Int.lt_or_le 0 c with hc | hc
    · have := Int.mul_le_mul_of_nonneg_right (show 1 ≤ c by omega) (Int.le_of_lt (Dd i))
      omega
    · have : c = 0 := by omega
      rw [this, Int.zero_mul, Int.add_zero] at hv; exact hv
  · have : c = 0 := by omega
    rw [this, Int.zero_mul, Int.add_zero, Dq h1] at hv; exact hv
theorem Ag4 {a b : List Int} {i : Nat} (h : i < a.length) : ((sbN a b i).1 ++ a.drop i).getD i 0 = a.getD i 0 := by
  rw [List.getD_eq_getElem?_getD, List.getElem?_append_right (by rw [D0]; exact Nat.le_refl _), D0, Nat.sub_self, List.getElem?_drop, Nat.add_zero, ← List.getD_eq_getElem?_getD]
theorem Ac2 {a b : List Int} {i : Nat} (h : i ≤ a.length) : ((sbN a b i).1 ++ a.drop i).length = a.length := by rw [List.length_append, D0, List.length_drop]; omega
theorem X6 {a b : List Int} {i : Nat} (h : i < a.length) : ((sbN a b i).1 ++ a.drop i).set ((0 + i) * 1) (if a.getD i 0 < b.getD i 0 + (sbN a b i).2 then a.getD i 0 - b.getD i 0 - (sbN a b i).2 + 18446744073709551616 else a.getD i 0 - b.getD i 0 - (sbN a b i).2) = (sbN a b (i + 1)).1 ++ a.drop (i + 1) := by
  rw [Nat.zero_add, Nat.mul_one, List.set_append_right _ _ (by rw [D0]; exact Nat.le_refl _), D0, Nat.sub_self, Gp h, List.set_cons_zero]
  simp only [sbN]
  rw [List.append_assoc]; rfl
theorem Agj {a b : List Int} (ha : Az a) (hb : Az b) (h : vl b ≤ vl a) : vl (sbN a b a.length).1 = vl a - vl b := by
  have hv := P5 a b a.length
  have hlt := E4 ha
  have e := Va hb (at_ := 0) (k := a.length) (n := a.length) (by omega) (by simp only [pB, Int.one_mul]; omega)
  rw [Dq (Nat.le_refl _), e] at hv
  have hc := Ug a b a.length
  have hs := E4 (Sy ha hb a.length)
  rw [D0] at hs
  rcases (show (sbN a b a.length).2 = 0 ∨ (sbN a b a.length).2 = 1 by omega) with h0 | h0
  · rw [h0, Int.mul_zero] at hv; omega
  · rw [h0, Int.mul_one] at hv; omega
theorem U5 {l : List Int} {F k : Nat} (hF : F < k) (hk : k ≤ l.length) (h : l.getD (k - 1) 0 = 0) : vl ((l.take (k - 1)).drop F) = vl ((l.take k).drop F) := by
  obtain ⟨j, rfl⟩ : ∃ j, k = j + 1 := ⟨k - 1, by omega⟩
  rw [Nat.add_sub_cancel] at h ⊢
  have e : l.take (j + 1) = l.take j ++ [l.getD j 0] := by
    rw [List.take_succ_eq_append_getElem (by omega), List.getD_eq_getElem?_getD, List.getElem?_eq_getElem (by omega)]; rfl
  rw [e, h, List.drop_append, D5]
  have : F - (l.take j).length = 0 := by rw [List.length_take]; omega
  rw [this]
  simp [vl]
theorem Y6 {l : List Int} {t : Nat} : l.take (min t l.length) = l.take t := by
  rcases Nat.le_total t l.length with h | h
  · rw [Nat.min_eq_left h]
  · rw [Nat.min_eq_right h, List.take_length, List.take_of_length_le h]
theorem Yv {l : List Int} {f t : Nat} (h : f ≤ t) : (l.take (min t l.length)).drop (min f l.length) = (l.take t).drop f := by
  rw [Y6]
  rcases Nat.le_total f l.length with h1 | h1
  · rw [Nat.min_eq_left h1]
  · rw [Nat.min_eq_right h1, List.drop_eq_nil_of_le (by rw [List.length_take]; omega), List.drop_eq_nil_of_le (by rw [List.length_take]; omega)]
theorem Ix {l : List Int} (k : Nat) : vl ((l.take k).drop 0) + pB k * vl ((l.take l.length).drop k) = vl l := by
  rw [List.drop_zero, List.take_length]
  by_cases h : k ≤ l.length
  · have := D5 (l.take k) (l.drop k)
    rw [List.take_append_drop, List.length_take, Nat.min_eq_left h] at this
    exact this.symm
  · rw [List.take_of_length_le (by omega), List.drop_eq_nil_of_le (by omega)]; simp [vl]
theorem kara {al ah bl bh K A B lo hi mid : Int} (hA : al + K * ah = A) (hB : bl + K * bh = B) (hlo : lo = al * bl) (hhi : hi = ah * bh) (hmid : mid = (al + ah) * (bl + bh) - lo - hi) : lo + K * mid + (K * K) * hi = A * B := by
  subst hA; subst hB; subst hlo; subst hhi; subst hmid
  have e1 : (al + ah) * (bl + bh) = al * bl + al * bh + (ah * bl + ah * bh) := by rw [Int.add_mul, Int.mul_add, Int.mul_add]
  have e2 : (al + K * ah) * (bl + K * bh) = al * bl + K * (al * bh) + (K * (ah * bl) + K * K * (ah * bh)) := by
    rw [Int.add_mul, Int.mul_add, Int.mul_add]
    congr 1
    · congr 1; rw [Int.mul_left_comm]
    · congr 1
      · rw [Int.mul_assoc]
      · rw [Int.mul_assoc, Int.mul_left_comm ah, ← Int.mul_assoc]
  rw [e1, e2]
  have e3 : K * (al * bl + al * bh + (ah * bl + ah * bh) - al * bl - ah * bh) = K * (al * bh) + K * (ah * bl) := by
    rw [← Int.mul_add K]; congr 1; omega
  rw [e3]
  omega
theorem Ae3 {al ah bl bh : Int} (h1 : 0 ≤ al) (h2 : 0 ≤ ah) (h3 : 0 ≤ bl) (h4 : 0 ≤ bh) : al * bl ≤ (al + ah) * (bl + bh) ∧ ah * bh ≤ (al + ah) * (bl + bh) - al * bl := by
  have e1 : (al + ah) * (bl + bh) = al * bl + al * bh + (ah * bl + ah * bh) := by rw [Int.add_mul, Int.mul_add, Int.mul_add]
  have a1 := Int.mul_nonneg h1 h4
  have a2 := Int.mul_nonneg h2 h3
  have a3 := Int.mul_nonneg h2 h4
  omega
theorem Tm {a b : List Int} (ha : Az a) (hb : Az b) : vl a * vl b < pB (a.length + b.length) := by
  have h1 := E4 ha
  have h2 := E4 hb
  have h3 := Bf ha
  have h4 := Bf hb
  rw [Gb]
  rcases Int.lt_or_le 0 (vl b) with h | h
  · have := Int.mul_lt_mul_of_pos_right h1 h
    have := Int.mul_le_mul_of_nonneg_left (Int.le_of_lt h2) (Int.le_of_lt (Dd a.length))
    omega
  · have : vl b = 0 := by omega
    rw [this, Int.mul_zero]; exact Int.mul_pos (Dd _) (Dd _)
theorem half_k {n : Nat} (h : n < 4611686018427387904) : IntKind.i64.wrap (Int.tdiv (n : Int) 2) = ((n / 2 : Nat) : Int) := by
  rw [Int.tdiv_eq_ediv_of_nonneg (by omega), Ag (by omega) (by omega)]; omega


def sv (s : Bool) (l : List Int) : Int := if s = true then -(vl l) else vl l
def good (l : List Int) : Prop := Az l ∧ l.length ≤ 1048576
theorem Acc {f n : Nat} (hf : 0 < f) (h : 0 < n) : 0 < bl f n := by
  obtain ⟨g, rfl⟩ : ∃ g, f = g + 1 := ⟨f - 1, by omega⟩
  simp only [bl]
  rw [if_neg (by omega)]; omega
theorem len_bd {l : List Int} (hu : Az l) (h : Hb l ≤ 67108864) : (trm l).length ≤ 1048576 := by
  unfold Hb at h
  split at h
  · omega
  · rename_i h0
    have ht := Gu l (by intro e; rw [e] at h0; exact h0 rfl)
    have hb := A2 (Bz hu) ((trm l).length - 1)
    have := Acc (f := 64) (n := ((trm l).getD ((trm l).length - 1) 0).toNat) (by decide) (by omega)
    omega
theorem Acy (l : List Int) : trm (trm l) = trm l := Ku (Gu l)
theorem M9 (l : List Int) : Hb (trm l) = Hb l := by unfold Hb; rw [Acy]
theorem Aal {l : List Int} (hu : Az l) (ht : tpd l) (h : l ≠ []) : 0 < vl l := by
  have h1 := Su hu ht h
  have h2 := Dd (l.length - 1)
  omega
theorem Rd {l : List Int} (hu : Az l) : (trm l).length = 0 ↔ vl l = 0 := by
  constructor
  · intro h
    rw [← Fd, List.eq_nil_of_length_eq_zero h]; rfl
  · intro h
    rcases Nat.eq_zero_or_pos (trm l).length with h0 | h0
    · exact h0
    · have := Aal (Bz hu) (Gu l) (by intro e; rw [e] at h0; simp at h0)
      rw [Fd] at this; omega
theorem Ld {l : List Int} (hu : Az l) : Hb l = 0 ↔ vl l = 0 := by
  rw [← Rd hu]
  unfold Hb
  constructor
  · intro h
    split at h
    · assumption
    · rename_i h0
      have ht := Gu l (by intro e; rw [e] at h0; exact absurd rfl h0)
      have hb := A2 (Bz hu) ((trm l).length - 1)
      have := Acc (f := 64) (n := ((trm l).getD ((trm l).length - 1) 0).toNat) (by decide) (by omega)
      omega
  · intro h; rw [if_pos h]
def Aa4 (x : Int) : Int := if x = 0 then 0 else if x < 0 then -1 else 1
def Ht (x y : Int) : Int := if x < y then -1 else if y < x then 1 else 0
theorem Mb {x y : Int} : Ht x y = 0 ↔ x = y := by unfold Ht; (repeat' split) <;> constructor <;> intro h <;> omega
theorem Aa3 {x : Int} : Aa4 x = 0 ↔ x = 0 := by unfold Aa4; (repeat' split) <;> constructor <;> intro h <;> omega


def Aj (b n : Nat) : List Int := if h : n = 0 ∨ b < 2 then [] else ((n % b : Nat) : Int) :: Aj b (n / b)
termination_by n
decreasing_by exact Nat.div_lt_self (by omega) (by omega)
theorem Ct {b : Nat} : Aj b 0 = [] := by rw [Aj, dif_pos (.inl rfl)]
theorem C1 {b n : Nat} (hb : 2 ≤ b) (hn : n ≠ 0) : Aj b n = ((n % b : Nat) : Int) :: Aj b (n / b) := by rw [Aj, dif_neg (by omega)]
def vb (b : Nat) : List Int → Int
  | [] => 0
  | x :: l => x + (b : Int) * vb b l
def rng (b : Nat) (l : List Int) : Prop := ∀ x ∈ l, 0 ≤ x ∧ x < (b : Int)
theorem Fq {b : Nat} {x : Int} {l : List Int} (h : rng b (x :: l)) : rng b l := fun y hy => h y (List.mem_cons_of_mem _ hy)
theorem Tn : ∀ l, vb 18446744073709551616 l = vl l
  | [] => rfl
  | x :: l => by simp only [vb, vl, Tn l]; rfl
theorem Iu {b : Nat} : ∀ {l : List Int}, rng b l → 0 ≤ vb b l
  | [], _ => Int.le_refl _
  | x :: l, h => by
    have h1 := (h x (List.mem_cons_self ..)).1
    have h2 := Int.mul_nonneg (Int.natCast_nonneg b) (Iu (Fq h))
    simp only [vb]; omega
theorem Ml {x : Int} {l : List Int} (h : tpd (x :: l)) : tpd l := fun hne => by
  have := h (by simp)
  have hp : 0 < l.length := List.length_pos_iff.2 hne
  rw [List.length_cons, Nat.add_sub_cancel] at this
  obtain ⟨k, hk⟩ : ∃ k, l.length = k + 1 := ⟨l.length - 1, by omega⟩
  rw [hk] at this ⊢
  simpa using this
theorem Ty {x : Int} (h : tpd [x]) : x ≠ 0 := by simpa using h (by simp)
theorem Nn {b : Nat} (hb : 2 ≤ b) : ∀ {l : List Int}, rng b l → tpd l → Aj b (vb b l).toNat = l
  | [], _, _ => Ct
  | x :: t, h, ht => by
    have ih := Nn hb (Fq h) (Ml ht)
    have h1 := h x (List.mem_cons_self ..)
    have h2 := Iu (Fq h)
    obtain ⟨m, hm⟩ : ∃ m : Nat, vb b t = m := ⟨(vb b t).toNat, by omega⟩
    obtain ⟨y, hy⟩ : ∃ y : Nat, x = y := ⟨x.toNat, by omega⟩
    subst hy
    have e : (vb b ((y : Int) :: t)).toNat = y + b * m := by
      simp only [vb]; rw [hm, ← Int.natCast_mul]; omega
    have hyb : y < b := by omega
    rw [e]
    rw [hm] at ih
    rw [show ((m : Int)).toNat = m from rfl] at ih
    have hne : y + b * m ≠ 0 := by
      intro h0
      have hy0 : y = 0 := by omega
      have hm0 : b * m = 0 := by omega
      have hm1 : m = 0 := by
        rcases Nat.mul_eq_zero.1 hm0 with h | h
        · omega
        · exact h
      subst hm1
      rw [Ct] at ih
      subst ih
      exact Ty ht (by rw [hy0]; rfl)
    rw [C1 hb hne, Nat.add_mul_mod_self_left, Nat.mod_eq_of_lt hyb, Nat.add_mul_div_left _ _ (by omega), Nat.div_eq_of_lt hyb, Nat.zero_add, ih]
theorem Jj {b : Nat} (hb : 2 ≤ b) (n : Nat) : vb b (Aj b n) = n := by
  induction n using Nat.strongRecOn with
  | _ n ih =>
    by_cases h : n = 0
    · subst h; rw [Ct]; rfl
    · rw [C1 hb h]
      simp only [vb]
      rw [ih (n / b) (Nat.div_lt_self (by omega) (by omega)), ← Int.natCast_mul, ← Int.natCast_add, Nat.mod_add_div]
theorem Hy {b : Nat} (hb : 2 ≤ b) (n : Nat) : rng b (Aj b n) := by
  induction n using Nat.strongRecOn with
  | _ n ih =>
    by_cases h : n = 0
    · subst h; rw [Ct]; intro x hx; simp at hx
    · rw [C1 hb h]
      intro x hx
      rcases List.mem_cons.1 hx with rfl | hx
      · have := Nat.mod_lt n (show 0 < b by omega); omega
      · exact ih (n / b) (Nat.div_lt_self (by omega) (by omega)) x hx
theorem Mm {b : Nat} (hb : 2 ≤ b) (n : Nat) : tpd (Aj b n) := by
  induction n using Nat.strongRecOn with
  | _ n ih =>
    by_cases h : n = 0
    · subst h; rw [Ct]; intro hx; simp at hx
    · rw [C1 hb h]
      intro _
      rw [List.length_cons, Nat.add_sub_cancel]
      by_cases h1 : n / b = 0
      · rw [h1, Ct]
        have : n < b := by
          rcases Nat.lt_or_ge n b with h2 | h2
          · exact h2
          · have := Nat.div_pos h2 (by omega); omega
        simp [Nat.mod_eq_of_lt this, h]
      · have h2 := ih (n / b) (Nat.div_lt_self (by omega) (by omega))
        have hne : Aj b (n / b) ≠ [] := by rw [C1 hb h1]; simp
        have h3 := h2 hne
        have hp : 0 < (Aj b (n / b)).length := List.length_pos_iff.2 hne
        obtain ⟨k, hk⟩ : ∃ k, (Aj b (n / b)).length = k + 1 := ⟨(Aj b (n / b)).length - 1, by omega⟩
        rw [hk] at h3 ⊢
        simpa using h3
theorem cano {b : Nat} (hb : 2 ≤ b) {l : List Int} {n : Nat} (hr : rng b l) (ht : tpd l) (hv : vb b l = n) : l = Aj b n := by
  have := Nn hb hr ht
  rw [hv] at this
  exact this.symm
def Cp (n : Nat) : Nat := if n = 0 then 0 else n.log2 + 1
theorem Cn {n k : Nat} : Cp n ≤ k ↔ n < 2 ^ k := by
  unfold Cp
  split
  · rename_i h; subst h; exact ⟨fun _ => Nat.two_pow_pos k, fun _ => Nat.zero_le _⟩
  · rename_i h
    rw [← Nat.log2_lt h]
    omega
theorem Qi : Cp 0 = 0 := rfl
theorem Dy {n : Nat} (h : n ≠ 0) : 0 < Cp n := by unfold Cp; rw [if_neg h]; omega
theorem S0 {m n : Nat} (h : m ≤ n) : Cp m ≤ Cp n := Cn.2 (Nat.lt_of_le_of_lt h (Cn.1 (Nat.le_refl _)))
theorem K9 {w x m : Nat} (hx : x < 2 ^ w) (hm : m ≠ 0) : Cp (x + 2 ^ w * m) = w + Cp m := by
  refine Nat.le_antisymm (Cn.2 ?_) ?_
  · have h1 : m < 2 ^ Cp m := Cn.1 (Nat.le_refl _)
    rw [Nat.pow_add]
    have h2 : 2 ^ w * (m + 1) ≤ 2 ^ w * 2 ^ Cp m := Nat.mul_le_mul_left _ h1
    rw [Nat.mul_add, Nat.mul_one] at h2
    omega
  · rcases Nat.lt_or_ge (Cp (x + 2 ^ w * m)) (w + Cp m) with h | h
    · exfalso
      have hp := Dy hm
      have h1 : x + 2 ^ w * m < 2 ^ (w + (Cp m - 1)) := Cn.1 (by omega)
      rw [Nat.pow_add] at h1
      have h2 : 2 ^ w * m < 2 ^ w * 2 ^ (Cp m - 1) := by omega
      have h3 := Cn.2 (Nat.lt_of_mul_lt_mul_left h2)
      omega
    · exact h
theorem Nt : ∀ f n, n < 2 ^ f → bl f n = Cp n
  | 0, n, h => by
    have : n = 0 := by simpa using h
    subst this; rfl
  | f + 1, n, h => by
    simp only [bl]
    split
    · rename_i h0; rw [h0]; rfl
    · rename_i h0
      rw [Nt f (n / 2) (by rw [Nat.pow_succ] at h; omega)]
      by_cases h1 : n / 2 = 0
      · have : n = 1 := by omega
        subst this; rfl
      · have := K9 (w := 1) (x := n % 2) (m := n / 2) (by have := Nat.mod_lt n (show 0 < 2 by decide); simpa using this) h1
        rw [Nat.pow_one, Nat.mod_add_div] at this
        rw [this]
theorem Vb {x y : Nat} (hx : x ≠ 0) (hy : y ≠ 0) : Cp x + Cp y ≤ Cp (x * y) + 1 := by
  have h1 := Dy hx
  have h2 := Dy hy
  have h3 : 2 ^ (Cp x - 1) ≤ x := by
    rcases Nat.lt_or_ge x (2 ^ (Cp x - 1)) with h | h
    · have := Cn.2 h; omega
    · exact h
  have h4 : 2 ^ (Cp y - 1) ≤ y := by
    rcases Nat.lt_or_ge y (2 ^ (Cp y - 1)) with h | h
    · have := Cn.2 h; omega
    · exact h
  rcases Nat.lt_or_ge (Cp (x * y) + 1) (Cp x + Cp y) with h | h
  · exfalso
    have h5 : x * y < 2 ^ ((Cp x - 1) + (Cp y - 1)) := Cn.1 (by omega)
    rw [Nat.pow_add] at h5
    have := Nat.mul_le_mul h3 h4
    omega
  · exact h
theorem M8 {w : Nat} (hw : 1 ≤ w) : ∀ {l : List Int}, rng (2 ^ w) l → tpd l → l ≠ [] → w * (l.length - 1) + Cp (l.getD (l.length - 1) 0).toNat = Cp (vb (2 ^ w) l).toNat
  | [], _, _, h => absurd rfl h
  | [x], _, _, _ => by simp [vb]
  | x :: y :: t, h, ht, _ => by
    have ih := M8 hw (Fq h) (Ml ht) (by simp)
    have h1 := h x (List.mem_cons_self ..)
    have h2 := Iu (Fq h)
    have hb2 : 2 ≤ 2 ^ w := by
      have := Nat.pow_le_pow_right (show 0 < 2 by decide) hw
      simpa using this
    have hc := Nn hb2 (Fq h) (Ml ht)
    obtain ⟨m, hm⟩ : ∃ m : Nat, vb (2 ^ w) (y :: t) = m := ⟨(vb (2 ^ w) (y :: t)).toNat, by omega⟩
    obtain ⟨q, hq⟩ : ∃ q : Nat, x = q := ⟨x.toNat, by omega⟩
    rw [hm] at ih hc
    rw [show ((m : Int)).toNat = m from rfl] at ih hc
    have hm0 : m ≠ 0 := by intro e; rw [e, Ct] at hc; simp at hc
    have e : (vb (2 ^ w) (x :: y :: t)).toNat = q + 2 ^ w * m := by
      show (x + ((2 ^ w : Nat) : Int) * vb (2 ^ w) (y :: t)).toNat = _
      rw [hm, hq, ← Int.natCast_mul]; omega
    rw [e, K9 (by omega) hm0, ← ih]
    simp only [List.length_cons, Nat.add_sub_cancel, List.getD_cons_succ]
    rw [Nat.mul_add, Nat.mul_one]
    omega
theorem Pv {l : List Int} (h : Az l) : rng 18446744073709551616 l := h
theorem Tx (l : List Int) : ∃ k, l = trm l ++ List.replicate k 0 := by
  have : ∀ k, k ≤ l.length → l.take k = l.take (tN l k) ++ List.replicate (k - tN l k) 0 := by
    intro k
    induction k with
    | zero => intro _; simp [tN]
    | succ k ih =>
      intro hk
      have h1 := ih (by omega)
      have hle := Ac0 l k
      simp only [tN]
      split
      · rename_i h0
        rw [List.take_succ_eq_append_getElem (by omega), h1, List.append_assoc, show k + 1 - tN l k = (k - tN l k) + 1 by omega, List.replicate_succ']
        congr 2
        rw [List.getD_eq_getElem?_getD, List.getElem?_eq_getElem (by omega)] at h0
        rw [← h0]; rfl
      · simp
  have h := this l.length (Nat.le_refl _)
  rw [List.take_length] at h
  exact ⟨_, h⟩
theorem N6 (b : Nat) : ∀ (l : List Int) (k : Nat), vb b (l ++ List.replicate k 0) = vb b l
  | [], 0 => rfl
  | [], k + 1 => by
    rw [List.nil_append, List.replicate_succ]
    simp only [vb]
    have := N6 b [] k
    rw [List.nil_append] at this
    rw [this]; simp [vb]
  | x :: l, k => by simp only [List.cons_append, vb, N6 b l k]
theorem Agl (b : Nat) (l : List Int) : vb b (trm l) = vb b l := by
  obtain ⟨k, hk⟩ := Tx l
  have := N6 b (trm l) k
  rw [← hk] at this
  exact this.symm
theorem Um {b : Nat} {l : List Int} (h : rng b l) : rng b (trm l) := fun x hx => h x (List.mem_of_mem_take hx)
theorem Gt {b : Nat} (hb : 2 ≤ b) {l : List Int} {n : Nat} (h : rng b l) (hv : vb b l = n) : trm l = Aj b n := cano hb (Um h) (Gu l) (by rw [Agl, hv])
def lm (v : Int) : List Int := Aj 18446744073709551616 v.natAbs
def dg (v : Int) : List Int := Aj 4294967296 v.natAbs
def Aq (v : Int) : Nat := Cp v.natAbs
theorem Dc (v : Int) : Az (lm v) := Hy (by decide) _
theorem Aev (v : Int) : tpd (lm v) := Mm (by decide) _
theorem S2 (v : Int) : vl (lm v) = v.natAbs := by rw [← Tn]; exact Jj (by decide) _
theorem dg_r (v : Int) : rng 4294967296 (dg v) := Hy (by decide) _
theorem dg_t (v : Int) : tpd (dg v) := Mm (by decide) _
theorem dg_v (v : Int) : vb 4294967296 (dg v) = v.natAbs := Jj (by decide) _
theorem Gm {l : List Int} (h : Az l) : Hb l = Cp (vl l).toNat := by
  rw [← Fd]
  unfold Hb
  split
  · rename_i h0; rw [List.eq_nil_of_length_eq_zero h0]; rfl
  · rename_i h0
    have h1 := M8 (w := 64) (by decide) (Um (Pv h)) (Gu l) (fun e => h0 (by rw [e]; rfl))
    rw [show (2 ^ 64 : Nat) = 18446744073709551616 by decide, Tn] at h1
    rw [← h1, Nt 64]
    have := A2 (Bz h) ((trm l).length - 1)
    omega
theorem Wq : ∀ {l : List Int}, Az l → rng 4294967296 (dig l)
  | [], _ => fun x hx => by simp [dig] at hx
  | y :: l, h => fun x hx => by
    have h1 := h y (List.mem_cons_self ..)
    have h2 := Wq (l := l) fun z hz => h z (List.mem_cons_of_mem _ hz)
    have e : dig (y :: l) = y % 4294967296 :: y / 4294967296 :: dig l := rfl
    rw [e] at hx
    rcases List.mem_cons.1 hx with rfl | hx
    · show 0 ≤ y % 4294967296 ∧ y % 4294967296 < ((4294967296 : Nat) : Int); omega
    · rcases List.mem_cons.1 hx with rfl | hx
      · show 0 ≤ y / 4294967296 ∧ y / 4294967296 < ((4294967296 : Nat) : Int); omega
      · exact h2 x hx
theorem Aap : ∀ l : List Int, vb 4294967296 (dig l) = vl l
  | [] => rfl
  | y :: l => by
    have e : dig (y :: l) = y % 4294967296 :: y / 4294967296 :: dig l := rfl
    rw [e]
    simp only [vb, vl]
    rw [Aap l]
    have : Bs = 18446744073709551616 := rfl
    rw [this]
    omega
theorem Aax {s : Bool} {l : List Int} (h : Az l) : ((sv s l).natAbs : Int) = vl l := by
  have := Bf h
  unfold sv; split <;> omega
theorem K5 {s : Bool} {l : List Int} {v : Int} (h : Az l) (hv : sv s l = v) : (s && decide (0 < ((trm l).length : Int))) = decide (v < 0) ∧ trm l = lm v ∧ Hb l = Aq v := by
  have ha := Aax (s := s) h
  rw [hv] at ha
  refine ⟨?_, ?_, ?_⟩
  · have h0 := Bf h
    have hz := Rd h
    unfold sv at hv
    cases s
    · simp at hv ⊢; omega
    · simp only [Bool.true_and, if_true] at hv ⊢
      rw [decide_eq_decide]
      constructor
      · intro h1
        have : vl l ≠ 0 := fun e => by have := hz.2 e; omega
        omega
      · intro h1
        have : (trm l).length ≠ 0 := fun e => by have := hz.1 e; omega
        omega
  · exact Gt (by decide) (Pv h) (by rw [Tn, ← ha])
  · rw [Gm h]; unfold Aq; congr 1; omega
theorem Acz {s : Bool} {l : List Int} {v : Int} (h : Az l) (hv : sv s l = v) : trm (dig l) = dg v :=
  Gt (by decide) (Wq h) (by have ha := Aax (s := s) h; rw [Aap, ← ha, hv])
theorem Vr (n : Nat) : L8 (Aj 4294967296 n) = Aj 18446744073709551616 n := by
  induction n using Nat.strongRecOn with
  | _ n ih =>
    by_cases h : n = 0
    · subst h; rw [Ct, Ct]; rfl
    · rw [C1 (by decide) h, C1 (b := 18446744073709551616) (by decide) h]
      by_cases h1 : n / 4294967296 = 0
      · rw [h1, Ct, show n / 18446744073709551616 = 0 by omega, Ct]
        show [((n % 4294967296 : Nat) : Int)] = _
        rw [show n % 4294967296 = n % 18446744073709551616 by omega]
      · rw [C1 (by decide) h1]
        show IntKind.u64.wrap (((n % 4294967296 : Nat) : Int) + IntKind.u64.wrap (((n / 4294967296 % 4294967296 : Nat) : Int) * 4294967296)) :: L8 (Aj 4294967296 (n / 4294967296 / 4294967296)) = _
        rw [Nat.div_div_eq_div_mul, show 4294967296 * 4294967296 = 18446744073709551616 by decide, ih _ (Nat.div_lt_self (by omega) (by decide)), A0 (m := ((n / 4294967296 % 4294967296 : Nat) : Int) * 4294967296) (by omega) (by omega), A0 (by omega) (by omega)]
        congr 1
        omega
theorem Na (v : Int) (h : dg v ≠ []) : 32 * ((dg v).length - 1) + Cp ((dg v).getD ((dg v).length - 1) 0).toNat = Aq v := by
  have := M8 (w := 32) (by decide) (dg_r v) (dg_t v) h
  rw [show (2 ^ 32 : Nat) = 4294967296 by decide, dg_v] at this
  exact this
theorem Ab5 {v : Int} : dg v = [] ↔ v = 0 := by
  constructor
  · intro h; have := dg_v v; rw [h] at this; simp only [vb] at this; omega
  · rintro rfl; exact Ct
theorem E0 {b : Nat} (hb : 2 ≤ b) : ∀ (k n : Nat), n < b ^ k → (Aj b n).length ≤ k
  | 0, n, h => by
    have : n = 0 := by simpa using h
    subst this; rw [Ct]; exact Nat.le_refl _
  | k + 1, n, h => by
    by_cases h0 : n = 0
    · subst h0; rw [Ct]; exact Nat.zero_le _
    · rw [C1 hb h0, List.length_cons]
      have := E0 hb k (n / b) (Nat.div_lt_of_lt_mul (by rw [Nat.mul_comm, ← Nat.pow_succ]; exact h))
      omega


def wrapP (l : List Int) : List Int := 10855845 :: 10855845 :: (l ++ [10855845, 10855845])
def lendA (n i : Nat) : List Int := Ci (List.replicate i 10855845) n
def lendB (l : List Int) (i : Nat) : List Int := 10855845 :: 10855845 :: (l.take i ++ List.replicate (l.length + 2 - i) 10855845)
theorem S1 {m : Nat} (h : m ≠ 0) : Cp m = 1 + Cp (m / 2) := by
  by_cases h1 : m / 2 = 0
  · have : m = 1 := by omega
    subst this; rfl
  · have := K9 (w := 1) (x := m % 2) (m := m / 2) (by have := Nat.mod_lt m (show 0 < 2 by decide); simpa using this) h1
    rw [Nat.pow_one, Nat.mod_add_div] at this
    exact this
theorem Si (v : Int) (i : Nat) : 0 ≤ (dg v).getD i 0 ∧ (dg v).getD i 0 < 4294967296 := by
  by_cases hi : i < (dg v).length
  · rw [List.getD_eq_getElem?_getD, List.getElem?_eq_getElem hi]; exact dg_r v _ (List.getElem_mem hi)
  · rw [List.getD_eq_getElem?_getD, List.getElem?_eq_none (by omega)]; exact ⟨by decide, by decide⟩
theorem Ae0 (v : Int) : Aq v ≤ 32 * (dg v).length := by
  by_cases h : dg v = []
  · rw [Ab5.1 h]; exact Nat.zero_le _
  · have h1 := Na v h
    have h2 := Si v ((dg v).length - 1)
    have h3 : Cp ((dg v).getD ((dg v).length - 1) 0).toNat ≤ 32 := Cn.2 (by rw [show (2 ^ 32 : Nat) = 4294967296 by decide]; omega)
    have : 0 < (dg v).length := List.length_pos_iff.2 h
    omega
def Res (v : Int) (s : Bool) (r : List Int) (e : Int) : Prop := (Aq v ≤ 67108864 ∧ s = decide (v < 0) ∧ r = lm v ∧ e = 0) ∨ (67108864 < Aq v ∧ s = false ∧ r = [] ∧ e = 3)
theorem Ae2 {v : Int} (h : Aq v ≤ 67108864) : (dg v).length ≤ 2097152 := by
  by_cases h0 : dg v = []
  · rw [h0]; exact Nat.zero_le _
  · have h1 := Na v h0
    have := dg_t v h0
    have h2 := Si v ((dg v).length - 1)
    have := Dy (n := ((dg v).getD ((dg v).length - 1) 0).toNat) (by omega)
    omega
theorem Bv {v : Int} (h : Aq v ≤ 67108864) : (lm v).length ≤ 1048576 := by
  have h1 := (K5 (s := decide (v < 0)) (v := v) (Dc v) (by unfold sv; rw [S2]; by_cases h : v < 0 <;> simp [h] <;> omega)).2
  have := len_bd (Dc v) (by rw [h1.2]; exact h)
  rwa [h1.1] at this
theorem Res.len {v : Int} {s : Bool} {r : List Int} {e : Int} (h : Res v s r e) : r.length ≤ 1048576 := by
  rcases h with ⟨h1, _, rfl, _⟩ | ⟨_, _, rfl, _⟩
  · exact Bv h1
  · exact Nat.zero_le _


def ErrN (x : Int) (r : List Int) (e : Int) : Prop := (e = 0 ∧ good r ∧ vl r = x) ∨ (e = 3 ∧ 67108864 < Aq x)
def ResN (v : Int) (s : Bool) (l : List Int) (e : Int) : Prop := (e = 0 ∧ Az l ∧ l.length < 1099511627776 ∧ sv s l = v) ∨ (e = 3 ∧ 67108864 < Aq v)
theorem F3 {l : List Int} {x : Int} (u : Az l) (hv : vl l = x) : Hb l = Aq x := by
  have := Bf u
  rw [Gm u, hv]; unfold Aq; congr 1; omega
theorem S6 {a b r : List Int} (ua : Az a) (ub : Az b) (h1 : 0 < Hb a) (h2 : 0 < Hb b) (h3 : 67108864 < Hb a + Hb b - 1) : ErrN (vl a * vl b) r 3 := by
  refine .inr ⟨rfl, ?_⟩
  have ha := Bf ua
  have hb := Bf ub
  have ea := Gm ua
  have eb := Gm ub
  obtain ⟨x, hx⟩ : ∃ x : Nat, vl a = x := ⟨(vl a).toNat, by omega⟩
  obtain ⟨y, hy⟩ : ∃ y : Nat, vl b = y := ⟨(vl b).toNat, by omega⟩
  rw [hx] at ea
  rw [hy] at eb
  rw [show ((x : Int)).toNat = x from rfl] at ea
  rw [show ((y : Int)).toNat = y from rfl] at eb
  have hx0 : x ≠ 0 := fun e => by rw [e, Qi] at ea; omega
  have hy0 : y ≠ 0 := fun e => by rw [e, Qi] at eb; omega
  have := Vb hx0 hy0
  rw [hx, hy, ← Int.natCast_mul]
  unfold Aq
  rw [Int.natAbs_natCast]
  omega
theorem Aho {s : Bool} {l : List Int} {v : Int} (u : Az l) (hv : sv s l = v) (h : Hb l ≤ 67108864) : Res v (s && decide (0 < ((trm l).length : Int))) (trm l) 0 := by
  obtain ⟨h1, h2, h3⟩ := K5 u hv
  exact .inl ⟨by rwa [← h3], h1, h2, rfl⟩
theorem Adp {s : Bool} {l : List Int} {v : Int} (u : Az l) (hv : sv s l = v) (h : 67108864 < Hb l) : Res v false [] 3 := by
  obtain ⟨h1, h2, h3⟩ := K5 u hv
  exact .inr ⟨by rwa [← h3], rfl, rfl, rfl⟩

namespace D
def r32 (l : List Int) : Prop := ∀ x ∈ l, 0 ≤ x ∧ x < 4294967296
def Bs : Int := 4294967296
def vl : List Int → Int
  | [] => 0
  | x :: l => x + Bs * vl l
def pB : Nat → Int
  | 0 => 1
  | k + 1 => Bs * pB k
theorem Dd : ∀ k, 0 < pB k
  | 0 => by decide
  | k + 1 => by simp only [pB]; exact Int.mul_pos (by decide) (Dd k)
theorem Gb : ∀ a b, pB (a + b) = pB a * pB b
  | 0, b => by simp [pB]
  | a + 1, b => by rw [show a + 1 + b = (a + b) + 1 by omega]; simp only [pB]; rw [Gb a b, Int.mul_assoc]
theorem D5 : ∀ a b : List Int, vl (a ++ b) = vl a + pB a.length * vl b
  | [], b => by simp [vl, pB]
  | x :: a, b => by
    simp only [List.cons_append, vl, List.length_cons, pB]
    rw [D5 a b, Int.mul_add, Int.mul_assoc, Int.add_assoc]
theorem Bf : ∀ {l : List Int}, r32 l → 0 ≤ vl l
  | [], _ => Int.le_refl _
  | x :: l, h => by
    have h1 := (h x (List.mem_cons_self ..)).1
    have h2 := Bf (l := l) fun y hy => h y (List.mem_cons_of_mem _ hy)
    simp only [vl]
    have := Int.mul_nonneg (show (0 : Int) ≤ Bs by decide) h2
    omega
theorem E4 : ∀ {l : List Int}, r32 l → vl l < pB l.length
  | [], _ => by decide
  | x :: l, h => by
    have h1 := (h x (List.mem_cons_self ..)).2
    have h2 := E4 (l := l) fun y hy => h y (List.mem_cons_of_mem _ hy)
    simp only [vl, List.length_cons, pB]
    have h3 : vl l + 1 ≤ pB l.length := h2
    have h4 := Int.mul_le_mul_of_nonneg_left h3 (show (0 : Int) ≤ Bs by decide)
    rw [Int.mul_add, Int.mul_one] at h4
    have h5 : x < Bs := h1
    omega
def vk (l : List Int) (k : Nat) : Int := vl (l.take k)
theorem Tf (l : List Int) : vk l 0 = 0 := by unfold vk; simp [vl]
theorem Dq {l : List Int} {k : Nat} (h : l.length ≤ k) : vk l k = vl l := by unfold vk; rw [List.take_of_length_le h]
theorem Cu (l : List Int) (k : Nat) : vk l (k + 1) = vk l k + pB k * l.getD k 0 := by
  unfold vk
  by_cases h : k < l.length
  · rw [List.take_succ_eq_append_getElem h, D5, List.length_take, Nat.min_eq_left (by omega), List.getD_eq_getElem?_getD, List.getElem?_eq_getElem h]
    simp [vl]
  · rw [List.take_of_length_le (by omega), List.take_of_length_le (by omega), Dw (by omega)]
    simp
theorem Jw : ∀ (l : List Int) (j : Nat) (v : Int), j < l.length → vl (l.set j v) = vl l + pB j * (v - l.getD j 0)
  | [], j, v, h => by simp at h
  | x :: l, 0, v, _ => by
    have e : (x :: l).getD 0 0 = x := rfl
    simp only [List.set_cons_zero, vl, pB, e]; omega
  | x :: l, j + 1, v, h => by
    have ih := Jw l j v (by simpa using h)
    have e : (x :: l).getD (j + 1) 0 = l.getD j 0 := rfl
    simp only [List.set_cons_succ, vl, pB, e]
    rw [ih, Int.mul_add, Int.mul_assoc]; omega
theorem Oe {o o2 b : List Int} {i k : Nat} {c c2 x t s : Int} (hj : i + k < o.length) (ho2 : o2 = o.set (i + k) s) (ht : o.getD (i + k) 0 = t) {V : Int}
    (hv : vl o + c * pB (i + k) = V + x * pB i * vk b k) (hs : s + 4294967296 * c2 = t + x * b.getD k 0 + c) : vl o2 + c2 * pB (i + (k + 1)) = V + x * pB i * vk b (k + 1) := by
  subst ho2
  rw [Jw _ _ _ hj, ht, Cu, show i + (k + 1) = (i + k) + 1 by omega]
  simp only [pB]
  have hB : Bs = 4294967296 := rfl
  have e1 : c2 * (Bs * pB (i + k)) = pB (i + k) * (4294967296 * c2) := by rw [hB, ← Int.mul_assoc, Int.mul_comm (c2 * 4294967296), Int.mul_comm c2]
  have e2 : x * pB i * (vk b k + pB k * b.getD k 0) = x * pB i * vk b k + pB (i + k) * (x * b.getD k 0) := by
    rw [Int.mul_add, Gb]
    congr 1
    rw [Int.mul_assoc, Int.mul_left_comm (pB i * pB k), Int.mul_assoc (pB i)]
  have e3 : pB (i + k) * (s - t) + pB (i + k) * (4294967296 * c2) = pB (i + k) * (x * b.getD k 0) + pB (i + k) * c := by
    rw [← Int.mul_add, ← Int.mul_add]; congr 1; omega
  rw [e1, e2]
  have e4 : c * pB (i + k) = pB (i + k) * c := Int.mul_comm _ _
  omega
theorem Lx {o o2 a b : List Int} {i : Nat} {c : Int} (hj : i + b.length < o.length) (h0 : o.getD (i + b.length) 0 = 0) (ho2 : o2 = o.set (i + b.length) c)
    (hv : vl o + c * pB (i + b.length) = vk a i * vl b + a.getD i 0 * pB i * vk b b.length) : vl o2 = vk a (i + 1) * vl b := by
  subst ho2
  rw [Jw _ _ _ hj, h0, Cu, Int.add_mul]
  rw [Dq (Nat.le_refl _)] at hv
  have e : pB i * a.getD i 0 * vl b = a.getD i 0 * pB i * vl b := by rw [Int.mul_comm (pB i)]
  have e4 : c * pB (i + b.length) = pB (i + b.length) * c := Int.mul_comm _ _
  rw [e, Int.sub_zero]
  omega
end D
theorem I1 {b : Nat} (hb : 0 < b) {l : List Int} (h : rng b l) (i : Nat) : 0 ≤ l.getD i 0 ∧ l.getD i 0 < (b : Int) := by
  by_cases hi : i < l.length
  · rw [List.getD_eq_getElem?_getD, List.getElem?_eq_getElem hi]; exact h _ (List.getElem_mem hi)
  · rw [List.getD_eq_getElem?_getD, List.getElem?_eq_none (by omega)]; exact ⟨Int.le_refl _, by show (0 : Int) < b; omega⟩
theorem Hs {b : Nat} (hb : 2 ≤ b) : ∀ (i n : Nat), (Aj b n).getD i 0 = ((n / b ^ i % b : Nat) : Int)
  | 0, n => by
    by_cases h : n = 0
    · subst h; rw [Ct]; simp
    · rw [C1 hb h]; simp
  | i + 1, n => by
    by_cases h : n = 0
    · subst h; rw [Ct]; simp
    · rw [C1 hb h, List.getD_cons_succ, Hs hb i (n / b), Nat.div_div_eq_div_mul, Nat.pow_succ, Nat.mul_comm b]
theorem Gh {b : Nat} (hb : 2 ≤ b) (n : Nat) : n < b ^ (Aj b n).length := by
  induction n using Nat.strongRecOn with
  | _ n ih =>
    by_cases h : n = 0
    · subst h; rw [Ct]; simp
    · rw [C1 hb h, List.length_cons, Nat.pow_succ, Nat.mul_comm]
      have h1 := ih (n / b) (Nat.div_lt_self (by omega) (by omega))
      have h2 : b * (n / b + 1) ≤ b * b ^ (Aj b (n / b)).length := Nat.mul_le_mul_left _ h1
      have h3 := Nat.mod_lt n (show 0 < b by omega)
      have h4 := Nat.mod_add_div n b
      rw [Nat.mul_add, Nat.mul_one] at h2
      omega
abbrev B32 : Nat := 4294967296
def dgt (z j : Nat) : Int := ((z / B32 ^ j % B32 : Nat) : Int)
def dvl (z m : Nat) : List Int := (List.range m).map (dgt z)
theorem Ez (z m : Nat) : (dvl z m).length = m := by simp [dvl]
theorem Sh (z m : Nat) : dvl z (m + 1) = dvl z m ++ [dgt z m] := by simp [dvl, List.range_succ]
theorem Km (b : Nat) : ∀ (l : List Int) (x : Int), vb b (l ++ [x]) = vb b l + ((b ^ l.length : Nat) : Int) * x
  | [], x => by simp [vb]
  | y :: l, x => by
    simp only [List.cons_append, vb, Km b l x, List.length_cons]
    rw [Int.mul_add, Nat.pow_succ, Int.natCast_mul, Int.mul_comm ((b ^ l.length : Nat) : Int) (b : Int), Int.mul_assoc, Int.add_assoc]
theorem Aao (z : Nat) : ∀ m, vb B32 (dvl z m) = ((z % B32 ^ m : Nat) : Int)
  | 0 => by simp [dvl, vb, Nat.mod_one]
  | m + 1 => by
    rw [Sh, Km, Aao z m, Ez, Nat.mod_pow_succ]
    unfold dgt
    rw [Int.natCast_add, Int.natCast_mul]
theorem Afn (z j : Nat) : 0 ≤ dgt z j ∧ dgt z j < 4294967296 := by
  unfold dgt
  have := Nat.mod_lt (z / B32 ^ j) (show 0 < B32 by decide)
  have h : B32 = 4294967296 := rfl
  omega
theorem Afi (z m : Nat) : rng B32 (dvl z m) := fun x hx => by
  obtain ⟨j, _, rfl⟩ := List.mem_map.1 hx
  exact Afn z j
theorem Pw {z m : Nat} (h : z < B32 ^ m) : trm (dvl z m) = Aj B32 z := Gt (by decide) (Afi z m) (by rw [Aao, Nat.mod_eq_of_lt h])
theorem Ng {z i n : Nat} (h : i < n) : (Ci (dvl z i) n).set ((0 + i) * 1) (dgt z i) = Ci (dvl z (i + 1)) n := by
  have := Fk (l := dvl z i) (n := n) (v := dgt z i) (by rw [Ez]; exact h)
  rw [Ez] at this
  rw [Nat.zero_add, Nat.mul_one, this, ← Sh]
def cry (x y i : Nat) : Nat := (x % B32 ^ i + y % B32 ^ i) / B32 ^ i
theorem Ab7 (x y i : Nat) : cry x y i ≤ 1 := by
  unfold cry
  have h := Nat.pow_pos (n := i) (show 0 < B32 by decide)
  have h1 := Nat.mod_lt x h
  have h2 := Nat.mod_lt y h
  have : (x % B32 ^ i + y % B32 ^ i) / B32 ^ i < 2 := Nat.div_lt_of_lt_mul (by omega)
  omega
theorem Xc (x y i : Nat) : (x / B32 ^ i % B32 + y / B32 ^ i % B32 + cry x y i) % B32 = (x + y) / B32 ^ i % B32 ∧ (x / B32 ^ i % B32 + y / B32 ^ i % B32 + cry x y i) / B32 = cry x y (i + 1) := by
  have h := Nat.pow_pos (n := i) (show 0 < B32 by decide)
  constructor
  · have e : (x + y) / B32 ^ i = cry x y i + (x / B32 ^ i + y / B32 ^ i) := by
      have h1 := Nat.mod_add_div x (B32 ^ i)
      have h2 := Nat.mod_add_div y (B32 ^ i)
      unfold cry
      rw [← Nat.add_mul_div_left _ _ h, Nat.mul_add]
      congr 1
      omega
    rw [e, Nat.add_comm (cry x y i), Nat.add_mod, Nat.add_mod (x / B32 ^ i + y / B32 ^ i), Nat.add_mod (x / B32 ^ i) (y / B32 ^ i)]
  · unfold cry
    rw [Nat.mod_pow_succ, Nat.mod_pow_succ, Nat.pow_succ, ← Nat.div_div_eq_div_mul]
    congr 1
    rw [show x % B32 ^ i + B32 ^ i * (x / B32 ^ i % B32) + (y % B32 ^ i + B32 ^ i * (y / B32 ^ i % B32)) = (x % B32 ^ i + y % B32 ^ i) + B32 ^ i * (x / B32 ^ i % B32 + y / B32 ^ i % B32) by rw [Nat.mul_add]; omega, Nat.add_mul_div_left _ _ h]
    omega
def brw (x y i : Nat) : Nat := if x % B32 ^ i < y % B32 ^ i then 1 else 0
theorem Acb (x y i : Nat) : brw x y i ≤ 1 := by unfold brw; split <;> omega
theorem T5 {x y : Nat} (hle : y ≤ x) (i : Nat) : (x / B32 ^ i % B32 + B32 - y / B32 ^ i % B32 - brw x y i) % B32 = (x - y) / B32 ^ i % B32 ∧ 1 - (x / B32 ^ i % B32 + B32 - y / B32 ^ i % B32 - brw x y i) / B32 = brw x y (i + 1) := by
  have h := Nat.pow_pos (n := i) (show 0 < B32 by decide)
  have hb := Acb x y i
  have m1 := Nat.mod_lt (x / B32 ^ i) (show 0 < B32 by decide)
  have m2 := Nat.mod_lt (y / B32 ^ i) (show 0 < B32 by decide)
  have B : B32 = 4294967296 := rfl
  constructor
  · have e : (x - y) / B32 ^ i = x / B32 ^ i - y / B32 ^ i - brw x y i ∧ y / B32 ^ i + brw x y i ≤ x / B32 ^ i := by
      have h1 := Nat.mod_add_div x (B32 ^ i)
      have h2 := Nat.mod_add_div y (B32 ^ i)
      have h3 := Nat.mod_lt x h
      have h4 := Nat.mod_lt y h
      generalize hX : x / B32 ^ i = X at *
      generalize hY : y / B32 ^ i = Y at *
      have hYX : Y ≤ X := by rw [← hX, ← hY]; exact Nat.div_le_div_right hle
      unfold brw
      clear hX hY m1 m2
      generalize x % B32 ^ i = p at *
      generalize y % B32 ^ i = q at *
      generalize B32 ^ i = P at *
      by_cases hc : p < q
      · rw [if_pos hc]
        have hlt : Y < X := by
          rcases Nat.lt_or_ge Y X with h5 | h5
          · exact h5
          · have : X = Y := by omega
            subst this; omega
        refine ⟨?_, by omega⟩
        have e2 : x - y = (p + P - q) + P * (X - Y - 1) := by
          obtain ⟨d, rfl⟩ : ∃ d, X = Y + 1 + d := ⟨X - Y - 1, by omega⟩
          rw [show Y + 1 + d - Y - 1 = d by omega]
          rw [Nat.mul_add, Nat.mul_add, Nat.mul_one] at h1
          omega
        rw [e2, Nat.add_mul_div_left _ _ h, Nat.div_eq_of_lt (by omega)]
        omega
      · rw [if_neg hc]
        refine ⟨?_, by omega⟩
        have e2 : x - y = (p - q) + P * (X - Y) := by
          obtain ⟨d, rfl⟩ : ∃ d, X = Y + d := ⟨X - Y, by omega⟩
          rw [show Y + d - Y = d by omega]
          rw [Nat.mul_add] at h1
          omega
        rw [e2, Nat.add_mul_div_left _ _ h, Nat.div_eq_of_lt (by omega)]
        omega
    obtain ⟨e1, e2⟩ := e
    rw [e1]
    generalize x / B32 ^ i = X at *
    generalize y / B32 ^ i = Y at *
    generalize brw x y i = c at *
    show (X % 4294967296 + 4294967296 - Y % 4294967296 - c) % 4294967296 = (X - Y - c) % 4294967296
    omega
  · have e1 := Nat.mod_pow_succ (x := x) (b := B32) (k := i)
    have e2 := Nat.mod_pow_succ (x := y) (b := B32) (k := i)
    have h3 := Nat.mod_lt x h
    have h4 := Nat.mod_lt y h
    have hA : x % B32 ^ (i + 1) < y % B32 ^ (i + 1) ↔ x / B32 ^ i % B32 < y / B32 ^ i % B32 + brw x y i := by
      rw [e1, e2]
      have hbr : brw x y i = if x % B32 ^ i < y % B32 ^ i then 1 else 0 := rfl
      generalize x / B32 ^ i % B32 = dx at *
      generalize y / B32 ^ i % B32 = dy at *
      generalize brw x y i = c at *
      generalize x % B32 ^ i = p at *
      generalize y % B32 ^ i = q at *
      generalize B32 ^ i = P at *
      rcases Nat.lt_trichotomy dx dy with hd | hd | hd
      · have h5 : P * (dx + 1) ≤ P * dy := Nat.mul_le_mul_left _ hd
        rw [Nat.mul_add, Nat.mul_one] at h5
        constructor
        · intro _; omega
        · intro _; omega
      · subst hd
        by_cases hc : p < q
        · rw [if_pos hc] at hbr; constructor
          · intro _; omega
          · intro _; omega
        · rw [if_neg hc] at hbr; constructor
          · intro _; omega
          · intro _; omega
      · have h5 : P * (dy + 1) ≤ P * dx := Nat.mul_le_mul_left _ hd
        rw [Nat.mul_add, Nat.mul_one] at h5
        constructor
        · intro _; omega
        · intro _; omega
    have hgo : brw x y (i + 1) = if x / B32 ^ i % B32 < y / B32 ^ i % B32 + brw x y i then 1 else 0 := by
      by_cases h : x / B32 ^ i % B32 < y / B32 ^ i % B32 + brw x y i
      · rw [if_pos h]; exact if_pos (hA.2 h)
      · rw [if_neg h]; exact if_neg (fun h' => h (hA.1 h'))
    rw [hgo]
    generalize x / B32 ^ i % B32 = dx at *
    generalize y / B32 ^ i % B32 = dy at *
    generalize brw x y i = c at *
    have m1' : dx < 4294967296 := m1
    have m2' : dy < 4294967296 := m2
    show 1 - (dx + 4294967296 - dy - c) / 4294967296 = _
    split <;> omega
theorem Pf {x y : Int} {a b : List Int} : ∀ k, J2 (x :: a) (y :: b) (k + 1) = if J2 a b k = 0 then (if x < y then -1 else if y < x then 1 else 0) else J2 a b k
  | 0 => by simp [J2]
  | k + 1 => by
    have ih := Pf (x := x) (y := y) (a := a) (b := b) k
    have e1 : J2 (x :: a) (y :: b) (k + 1 + 1) = if a.getD k 0 < b.getD k 0 then -1 else if b.getD k 0 < a.getD k 0 then 1 else J2 (x :: a) (y :: b) (k + 1) := rfl
    have e2 : J2 a b (k + 1) = if a.getD k 0 < b.getD k 0 then -1 else if b.getD k 0 < a.getD k 0 then 1 else J2 a b k := rfl
    rw [e1, e2, ih]
    by_cases h1 : a.getD k 0 < b.getD k 0
    · rw [if_pos h1, if_pos h1, if_neg (by decide)]
    · rw [if_neg h1, if_neg h1]
      by_cases h2 : b.getD k 0 < a.getD k 0
      · rw [if_pos h2, if_pos h2, if_neg (by decide)]
      · rw [if_neg h2, if_neg h2]
theorem Hr {b : Nat} (hb : 2 ≤ b) (x : Nat) : ∀ y, x ≤ y → (Aj b x).length ≤ (Aj b y).length := by
  induction x using Nat.strongRecOn with
  | _ x ih =>
    intro y hxy
    by_cases h : x = 0
    · subst h; rw [Ct]; exact Nat.zero_le _
    · rw [C1 hb h, C1 hb (by omega : y ≠ 0), List.length_cons, List.length_cons]
      have := ih (x / b) (Nat.div_lt_self (by omega) (by omega)) (y / b) (Nat.div_le_div_right hxy)
      omega
theorem Ww {b : Nat} (hb : 2 ≤ b) (x : Nat) : ∀ y, (Aj b x).length = (Aj b y).length → J2 (Aj b x) (Aj b y) (Aj b x).length = Ht x y := by
  induction x using Nat.strongRecOn with
  | _ x ih =>
    intro y hl
    by_cases h : x = 0
    · subst h
      rw [Ct] at hl ⊢
      have hy : y = 0 := by
        rcases Nat.eq_zero_or_pos y with h | h
        · exact h
        · rw [C1 hb (by omega)] at hl; simp at hl
      subst hy; rfl
    · have hy : y ≠ 0 := by
        intro e; subst e
        rw [Ct, C1 hb h] at hl; simp at hl
      rw [C1 hb h, C1 hb hy] at hl ⊢
      have hl' : (Aj b (x / b)).length = (Aj b (y / b)).length := by simpa using hl
      rw [List.length_cons, Pf, ih (x / b) (Nat.div_lt_self (by omega) (by omega)) (y / b) hl']
      have e1 := Nat.mod_add_div x b
      have e2 := Nat.mod_add_div y b
      have m1 := Nat.mod_lt x (show 0 < b by omega)
      have m2 := Nat.mod_lt y (show 0 < b by omega)
      generalize x / b = X at *
      generalize y / b = Y at *
      rcases Nat.lt_trichotomy X Y with hd | hd | hd
      · have h5 : b * (X + 1) ≤ b * Y := Nat.mul_le_mul_left _ hd
        rw [Nat.mul_add, Nat.mul_one] at h5
        have c1 : Ht X Y = -1 := if_pos (by omega)
        have c2 : Ht x y = -1 := if_pos (by omega)
        rw [c1, c2]; rfl
      · subst hd
        have c1 : Ht X X = 0 := Mb.2 rfl
        rw [c1, if_pos rfl]
        rcases Nat.lt_trichotomy (x % b) (y % b) with g1 | g1 | g1
        · have q1 : ((x % b : Nat) : Int) < ((y % b : Nat) : Int) := Int.ofNat_lt.2 g1
          have c2 : Ht x y = -1 := if_pos (by omega)
          rw [if_pos q1, c2]
        · have c2 : Ht x y = 0 := Mb.2 (by omega)
          rw [g1, if_neg (Int.lt_irrefl _), if_neg (Int.lt_irrefl _), c2]
        · have q1 : ((y % b : Nat) : Int) < ((x % b : Nat) : Int) := Int.ofNat_lt.2 g1
          have c2 : Ht x y = 1 := by
            have n1 : ¬ ((x : Nat) : Int) < y := by omega
            have n2 : ((y : Nat) : Int) < x := by omega
            unfold Ht; rw [if_neg n1, if_pos n2]
          rw [if_neg (Int.lt_asymm q1), if_pos q1, c2]
      · have h5 : b * (Y + 1) ≤ b * X := Nat.mul_le_mul_left _ hd
        rw [Nat.mul_add, Nat.mul_one] at h5
        have c1 : Ht X Y = 1 := by unfold Ht; rw [if_neg (by omega), if_pos (by omega)]
        have c2 : Ht x y = 1 := by unfold Ht; rw [if_neg (by omega), if_pos (by omega)]
        rw [c1, c2]; rfl
theorem cry_0 (x y : Nat) : cry x y 0 = 0 := by unfold cry; rw [Nat.pow_zero, Nat.mod_one, Nat.mod_one]
theorem brw_0 (x y : Nat) : brw x y 0 = 0 := by unfold brw; rw [Nat.pow_zero, Nat.mod_one, Nat.mod_one]; rfl
theorem Lk {z n : Nat} : List.replicate n (0 : Int) = Ci (dvl z 0) n := by simp [Ci, dvl]
theorem Nf {z i n : Nat} (h : i ≤ n) : (Ci (dvl z i) n).length = n := Ey (by rw [Ez]; exact h)
theorem H6 {z n : Nat} : Ci (dvl z n) n = dvl z n := Ed (Ez z n)
theorem Ag3 {x y n : Nat} (hx : (Aj B32 x).length ≤ n) (hy : (Aj B32 y).length ≤ n) : x + y < B32 ^ (n + 1) := by
  have h1 := Nat.lt_of_lt_of_le (Gh (b := B32) (by decide) x) (Nat.pow_le_pow_right (by decide) hx)
  have h2 := Nat.lt_of_lt_of_le (Gh (b := B32) (by decide) y) (Nat.pow_le_pow_right (by decide) hy)
  rw [Nat.pow_succ]
  have : 2 * B32 ^ n ≤ B32 ^ n * B32 := by rw [Nat.mul_comm]; exact Nat.mul_le_mul_left _ (by decide)
  omega
theorem dif_lt {x y : Nat} : x - y < B32 ^ (Aj B32 x).length := Nat.lt_of_le_of_lt (Nat.sub_le x y) (Gh (by decide) x)
theorem Pg {b : Nat} (hb : 2 ≤ b) (x y : Nat) : Qy (Aj b x) (Aj b y) = Ht x y := by
  unfold Qy
  by_cases h1 : (Aj b x).length < (Aj b y).length
  · rw [if_pos h1]
    have : x < y := by
      rcases Nat.lt_or_ge x y with h | h
      · exact h
      · have := Hr hb y x h; omega
    exact (if_pos (by omega)).symm
  · rw [if_neg h1]
    by_cases h2 : (Aj b y).length < (Aj b x).length
    · rw [if_pos h2]
      have : y < x := by
        rcases Nat.lt_or_ge y x with h | h
        · exact h
        · have := Hr hb x y h; omega
      unfold Ht; rw [if_neg (by omega), if_pos (by omega)]
    · rw [if_neg h2]
      exact Ww hb x y (by omega)

def zs (s : Bool) (n : Nat) : Int := if s = true then -(n : Int) else n
theorem Nz {s : Bool} {n : Nat} : (zs s n).natAbs = n := by unfold zs; split <;> omega
theorem No {n : Nat} : Aj B32 n = [] ↔ n = 0 := by
  constructor
  · intro h
    rcases Nat.eq_zero_or_pos n with h0 | h0
    · exact h0
    · rw [C1 (by decide) (by omega)] at h; simp at h
  · rintro rfl; exact Ct
theorem Ab9 {x y : Nat} (hc : 0 ≤ Ht (x : Int) y) : y ≤ x := by
  rcases Nat.lt_or_ge x y with h1 | h1
  · have : Ht (x : Int) y = -1 := if_pos (by omega)
    omega
  · exact h1

theorem Cg : Tryz.prog.follows .mixedOrders = true := by kernel_rfl
theorem Bc : slB Tryz.prog 23 71 1 = true := by kernel_rfl
theorem Bj : Iq Tryz.prog 71 = true := by kernel_rfl
theorem Tq : Tryz.prog.underlying 23 = some (.slice 71) := by kernel_rfl
theorem Lr : elP Tryz.prog 23 71 1 8 (.int .u64 0) := J1 Tq (by kernel_rfl) rfl (by decide)
theorem und9 : Tryz.prog.underlying 9 = some .string := by kernel_rfl
theorem G9 : Tryz.prog.underlying 71 = some (.int .u64) := by kernel_rfl
theorem und5 : Tryz.prog.underlying 5 = some (.int .u8) := by kernel_rfl
theorem Jx : Tryz.prog.underlying 3 = some (.int .i64) := by kernel_rfl
theorem Cz : slB Tryz.prog 32 71 1 = true := by kernel_rfl
theorem Oc : slB Tryz.prog 22 71 1 = true := by kernel_rfl
theorem Agr : Tryz.prog.underlying 32 = some (.slice 71) := by kernel_rfl
theorem Xl : elP Tryz.prog 32 71 1 8 (.int .u64 0) := J1 Agr (by kernel_rfl) rfl (by decide)
theorem Ags : Tryz.prog.underlying 22 = some (.slice 71) := by kernel_rfl
theorem el25 : elP Tryz.prog 22 71 1 8 (.int .u64 0) := J1 Ags (by kernel_rfl) rfl (by decide)
theorem A7 : ((Tryz.prog.info? 25).bind (·.zero)).map (·.cells.toList) = some [(.bool false), (.slice none 0 0)] := by kernel_rfl
theorem Cw : Sf Tryz.prog 25 1 1 1 = true := by kernel_rfl
theorem D8 : Iq Tryz.prog 23 = true := by kernel_rfl
theorem Dm : Sf Tryz.prog 25 0 0 1 = true := by kernel_rfl
theorem Ir : Iq Tryz.prog 4 = true := by kernel_rfl
theorem C9 : Qa Tryz.prog 25 [0, 1] [(0, 1), (1, 1)] = true := by kernel_rfl
theorem B8 : (Tryz.prog.info? 25).any (·.size == 2) = true := by kernel_rfl
theorem B0 : Pp Tryz.prog 25 2 = true := by kernel_rfl
theorem Jl : Qa Tryz.prog 25 [1] [(1, 1)] = true := by kernel_rfl
theorem Aci : ((Tryz.prog.info? 130).bind (·.zero)).map (·.cells.toList) = some [.nilFunc, .nilFunc, .nilFunc, .nilFunc, .nilFunc] := by kernel_rfl
theorem Aha : (Tryz.prog.info? 130).any (·.size == 5) = true := by kernel_rfl
theorem agg102 : Pp Tryz.prog 130 5 = true := by kernel_rfl
theorem und4 : Tryz.prog.underlying 4 = some .bool := by kernel_rfl
theorem Tr : Tryz.prog.underlying 130 = some (.array 5 129) := by kernel_rfl
theorem Abk : Iq Tryz.prog 129 = true := by kernel_rfl
theorem Aa0 : (Tryz.prog.info? 71).map (·.size) = some 1 := by kernel_rfl
theorem Gl : Qa Tryz.prog 25 [] [] = true := by kernel_rfl

theorem Ac5 : slB Tryz.prog 78 22 1 = true := by kernel_rfl
theorem Aef : Iq Tryz.prog 22 = true := by kernel_rfl
theorem siz25 : (Tryz.prog.info? 22).any (·.size == 1) = true := by kernel_rfl

theorem Kq : Tryz.prog.underlying 106 = some (.int .u64) := by kernel_rfl



theorem Xy : Tryz.prog.underlying 138 = some (.slice 3) := by kernel_rfl
theorem Lj : elP Tryz.prog 138 3 1 8 (.int .i64 0) := J1 Xy (by kernel_rfl) rfl (by decide)
theorem Ff : slB Tryz.prog 138 3 1 = true := by kernel_rfl
theorem Y2 : Iq Tryz.prog 3 = true := by kernel_rfl
theorem K8 : Iq Tryz.prog 147 = true := by kernel_rfl
theorem Rg : slB Tryz.prog 147 23 1 = true := by kernel_rfl
theorem Qh : Iq Tryz.prog 139 = true := by kernel_rfl
theorem Xx : Tryz.prog.underlying 147 = some (.slice 23) := by kernel_rfl
theorem Wj : elP Tryz.prog 147 23 1 24 (.slice none 0 0) := J1 Xx (by kernel_rfl) rfl (by decide)
theorem Xm : ((Tryz.prog.info? 147).bind (·.zero)).map (·.cells.toList) = some [(.slice none 0 0)] := by kernel_rfl
theorem Ua : (Tryz.prog.info? 147).any (·.size == 1) = true := by kernel_rfl
theorem Xn : ((Tryz.prog.info? 139).bind (·.zero)).map (·.cells.toList) = some [.nilFunc] := by kernel_rfl
theorem Ac7 : (Tryz.prog.info? 139).any (·.size == 1) = true := by kernel_rfl
theorem Rc : Tryz.prog.underlying 136 = some (.slice 5) := by kernel_rfl
theorem el1136 : elP Tryz.prog 136 5 1 1 (.int .u8 0) := J1 Rc (by kernel_rfl) rfl (by decide)
theorem Ag9 : slB Tryz.prog 136 5 1 = true := by kernel_rfl
theorem one5 : Iq Tryz.prog 5 = true := by kernel_rfl
theorem ar1133 : arB Tryz.prog 133 5 64 1 = true := by kernel_rfl
theorem Ds : ((Tryz.prog.info? 27).bind (·.zero)).map (·.cells.toList) = some [(.bool false), (.slice none 0 0), (.slice none 0 0)] := by kernel_rfl
theorem Lu : Tryz.prog.underlying 20 = some (.interface #[]) := by kernel_rfl
theorem B6 : Pp Tryz.prog 27 3 = true := by kernel_rfl
theorem Er : (Tryz.prog.info? 27).any (·.size == 3) = true := by kernel_rfl
theorem M3 : Aig Tryz.prog 100 = true := by kernel_rfl
theorem J6 : ((Tryz.prog.info? 100).bind (·.zero)).map (·.cells.toList) = some [(.int .i64 0)] := by kernel_rfl
theorem P0 : (Tryz.prog.info? 100).any (·.size == 1) = true := by kernel_rfl
theorem Hm : Sf Tryz.prog 100 0 0 1 = true := by kernel_rfl
theorem E6 : Iq Tryz.prog 28 = true := by kernel_rfl
theorem Th : Iq Tryz.prog 9 = true := by kernel_rfl
theorem X8 : (Tryz.prog.info? 9).any (·.size == 1) = true := by kernel_rfl
theorem Fj : Sf Tryz.prog 27 0 0 2 = true := by kernel_rfl
theorem Ex : Sf Tryz.prog 27 1 2 1 = true := by kernel_rfl
theorem U2 : Qa Tryz.prog 100 [0] [(0, 1)] = true := by kernel_rfl
theorem Il : Qa Tryz.prog 27 [0, 1] [(0, 2), (2, 1)] = true := by kernel_rfl
theorem Aaz : slB Tryz.prog 94 27 3 = true := by kernel_rfl
theorem Gk : ((Tryz.prog.info? 28).bind (·.zero)).map (·.cells.toList) = some [(.int .i64 0)] := by kernel_rfl
theorem Ig : (Tryz.prog.info? 28).any (·.size == 1) = true := by kernel_rfl
theorem zero9 : ((Tryz.prog.info? 9).bind (·.zero)).map (·.cells.toList) = some [(.string .empty)] := by kernel_rfl
theorem Xz : Tryz.prog.underlying 94 = some (.slice 27) := by kernel_rfl
theorem G8 : elP Tryz.prog 94 27 3 56 (.agg #[(.bool false), (.slice none 0 0), (.slice none 0 0)]) := J1 Xz (by kernel_rfl) rfl (by decide)
theorem Yu : Qa Tryz.prog 27 [] [] = true := by kernel_rfl
theorem Agq : Tryz.prog.underlying 78 = some (.slice 22) := by kernel_rfl
theorem el81 : elP Tryz.prog 78 22 1 24 (.slice none 0 0) := J1 Agq (by kernel_rfl) rfl (by decide)
theorem Dh : ((Tryz.prog.info? 34).bind (·.zero)).map (·.cells.toList) = some [(.bool false), (.slice none 0 0), (.slice none 0 0)] := by kernel_rfl
theorem U3 : Qa Tryz.prog 34 [2] [(2, 1)] = true := by kernel_rfl
theorem Fw : (Tryz.prog.info? 34).any (·.size == 3) = true := by kernel_rfl
theorem Dp : Pp Tryz.prog 34 3 = true := by kernel_rfl
theorem Gw : Qa Tryz.prog 34 [0, 1, 2] [(0, 1), (1, 1), (2, 1)] = true := by kernel_rfl
theorem Yt : Qa Tryz.prog 34 [] [] = true := by kernel_rfl
theorem Wd : Sf Tryz.prog 38 0 0 1 = true := by kernel_rfl
theorem Li : Sf Tryz.prog 38 1 1 1 = true := by kernel_rfl
theorem Eo : Iq Tryz.prog 32 = true := by kernel_rfl
theorem Da : Sf Tryz.prog 34 1 1 1 = true := by kernel_rfl
theorem Dz : Sf Tryz.prog 34 2 2 1 = true := by kernel_rfl
theorem Ew : Sf Tryz.prog 34 0 0 1 = true := by kernel_rfl
theorem C0 : ((Tryz.prog.info? 38).bind (·.zero)).map (·.cells.toList) = some [(.bool false), (.slice none 0 0)] := by kernel_rfl
theorem Ek : Qa Tryz.prog 38 [0, 1] [(0, 1), (1, 1)] = true := by kernel_rfl

theorem D6 : (Tryz.prog.info? 38).any (·.size == 2) = true := by kernel_rfl
theorem Ef : Pp Tryz.prog 38 2 = true := by kernel_rfl
theorem Ys : Qa Tryz.prog 38 [] [] = true := by kernel_rfl
theorem Is : ((Tryz.prog.info? 63).bind (·.zero)).map (·.cells.toList) = some [.nilFunc, .nilFunc, .nilFunc] := by kernel_rfl
theorem Kw : (Tryz.prog.info? 63).any (·.size == 3) = true := by kernel_rfl
theorem Ac6 : (Tryz.prog.info? 23).any (·.size == 1) = true := by kernel_rfl
theorem Aee : Iq Tryz.prog 62 = true := by kernel_rfl
theorem W7 : arB Tryz.prog 63 62 3 1 = true := by kernel_rfl

theorem jo_H {P : Program} {Γ : Ctx} {F : Fr} {H H' : List Ob} {Q : Exit → Fr → List Ob → Prop} {ops : Array Oper} {rest : List Oper} (h : H = H') (j : JO P ops rest Γ F H' Q) : JO P ops rest Γ F H Q := h ▸ j
def Cl (n : Nat) (L : Ob) (f : Nat → Ob) (J : List Ob) : List Ob := L :: ((List.range n).map f ++ J)
def upd (f : Nat → Ob) (i : Nat) (o : Ob) : Nat → Ob := fun j => if j = i then o else f j
section
variable {n : Nat} {L : Ob} {f : Nat → Ob} {J : List Ob}
theorem Ahl {i : Nat} (h : i < n) : (Cl n L f J)[i + 1]? = some (f i) := by
  unfold Cl
  rw [List.getElem?_cons_succ, List.getElem?_append_left (by simpa using h), List.getElem?_map, List.getElem?_range h]
  rfl
theorem Rp {i : Nat} {o : Ob} (h : i < n) : (Cl n L (upd f i o) J)[i + 1]? = some o := by rw [Ahl h]; simp [upd]
theorem Ahk {i : Nat} {o : Ob} (h : i < n) (e : f i = o) : (Cl n L f J)[i + 1]? = some o := by rw [Ahl h, e]
theorem Aa9 {i : Nat} {o : Ob} (h : i < n) : (Cl n L f J).set (i + 1) o = Cl n L (upd f i o) J := by
  unfold Cl
  rw [List.set_cons_succ, List.set_append_left _ _ (by simpa using h)]
  congr 2
  refine List.ext_getElem? fun k => ?_
  rw [List.getElem?_set]
  simp only [List.length_map, List.length_range, List.getElem?_map]
  by_cases e : i = k
  · subst e
    rw [if_pos rfl, if_pos h, List.getElem?_range h]
    simp [upd]
  · rw [if_neg e]
    by_cases hk : k < n
    · rw [List.getElem?_range hk]
      simp [upd, Ne.symm e]
    · rw [List.getElem?_eq_none (by simpa using hk)]
      rfl
theorem Adn {i : Nat} {o p : Ob} : upd (upd f i o) i p = upd f i p := by
  funext j
  unfold upd
  by_cases e : j = i <;> simp [e]
theorem Ahm {K : List Ob} : Cl n L f J ++ K = Cl n L f (J ++ K) := by simp [Cl]
theorem Uo : (Cl n L f J).length = n + 1 + J.length := by simp [Cl]; omega
theorem Ado {o : Ob} : (Cl n L f (J ++ [o]))[n + 1 + J.length]? = some o := by
  unfold Cl
  rw [show n + 1 + J.length = (n + J.length) + 1 by omega, List.getElem?_cons_succ, List.getElem?_append_right (by simp)]
  simp
theorem Aba (hL : ∀ y ∈ L.cs, idB (n + 1) y = true) (hf : ∀ j, j < n → ∀ y ∈ (f j).cs, idB (n + 1) y = true) : ObsId (n + 1) ((Cl n L f J).take (n + 1)) := by
  unfold Cl
  rw [List.take_succ_cons, List.take_append_of_le_length (by simp), List.take_of_length_le (by simp)]
  intro o ho hl y hy
  rcases List.mem_cons.1 ho with rfl | ho
  · exact hL y hy
  · obtain ⟨j, hj, rfl⟩ := List.mem_map.1 ho
    exact hf j (List.mem_range.1 hj) y hy
theorem Adu {g : Nat → V} {i : Nat} (h : i < n) {y : V} (e : g i = y) : ((List.range n).map g)[(0 + i) * 1]? = some y := by
  rw [Nat.zero_add, Nat.mul_one, List.getElem?_map, List.getElem?_range h, ← e]
  rfl
theorem Rj {g : Nat → V} {i : Nat} {y : V} : ∀ (l : List Nat) (k : Nat), (∀ j, j < l.length → l[j]? = some (k + j)) → k ≤ i → De (l.map g) (i - k) [y] = l.map (fun j => if j = i then y else g j)
  | [], _, _, _ => by cases i <;> rfl
  | x :: l, k, h, hk => by
    have hx : x = k := by have := h 0 (by simp); simpa using this
    have hl : ∀ j, j < l.length → l[j]? = some (k + 1 + j) := fun j hj => by
      have := h (j + 1) (by simp; omega)
      simp only [List.getElem?_cons_succ] at this
      rw [this]; congr 1; omega
    subst hx
    by_cases e : x = i
    · subst e
      rw [Nat.sub_self]
      have hid : l.map (fun j => if j = x then y else g j) = l.map g := List.map_congr_left fun j hj => by
        obtain ⟨q, hq⟩ := List.getElem?_of_mem hj
        have hlt : q < l.length := (List.getElem?_eq_some_iff.1 hq).1
        have := hl q hlt
        rw [hq] at this
        injection this with this
        rw [if_neg (by omega)]
      rw [List.map_cons, List.map_cons, hid, if_pos rfl]
      show y :: De (l.map g) 0 [] = y :: l.map g
      cases l <;> rfl
    · obtain ⟨q, hq⟩ : ∃ q, i - x = q + 1 := ⟨i - x - 1, by omega⟩
      rw [List.map_cons, List.map_cons, hq, if_neg e]
      show g x :: De (l.map g) q [y] = g x :: _
      have := Rj (g := g) (i := i) (y := y) l (x + 1) hl (by omega)
      rw [show i - (x + 1) = q by omega] at this
      rw [this]
theorem Sx {g : Nat → V} {i : Nat} {y : V} : De ((List.range n).map g) ((0 + i) * 1) [y] = (List.range n).map (fun j => if j = i then y else g j) := by
  have := Rj (g := g) (i := i) (y := y) (List.range n) 0 (fun j hj => by rw [List.getElem?_range (by simpa using hj), Nat.zero_add]) (Nat.zero_le _)
  rw [Nat.sub_zero] at this
  rw [Nat.zero_add, Nat.mul_one, this]
end
def owC (j : Nat) : Int := ((j % 251 + 1 : Nat) : Int)
def owB (j : Nat) : List Int := [((300 + 5 * j : Nat) : Int), ((300 + 5 * j + 1 : Nat) : Int), ((300 + 5 * j + 2 : Nat) : Int), ((300 + 5 * j + 3 : Nat) : Int), ((300 + 5 * j + 4 : Nat) : Int)]
def owL (n : Nat) (rs : Nat → List Int) (i : Nat) : Ob := ⟨22, 1, 0, true, (List.range n).map fun j => if j < i then .o (j + 1) 1 0 ((rs j).length + 5) else .o (j + 1) 0 0 (rs j).length⟩
def M2 (n : Nat) (rs : Nat → List Int) : Ob := ⟨22, 1, 0, true, (List.range n).map fun j => .o (j + 1) 0 0 (rs j).length⟩
def owR (rs : Nat → List Int) (j : Nat) : Ob := ⟨71, 1, 0, true, ints .u64 (rs j)⟩
def owF (rs : Nat → List Int) (i j : Nat) : Ob := ⟨71, 1, 0, true, ints .u64 (if j < i then List.replicate (rs j).length (owC j) else rs j)⟩
def owK (rs : Nat → List Int) (i k : Nat) : Ob := ⟨71, 1, 0, true, ints .u64 (List.replicate k (owC i) ++ (rs i).drop k)⟩
def owE (rs : Nat → List Int) (j : Nat) : Ob := ⟨71, 1, 1, true, ints .u64 (List.replicate (rs j).length (owC j) ++ owB j)⟩
def owG (rs : Nat → List Int) (i j : Nat) : Ob := if j < i then owE rs j else ⟨71, 1, 0, true, ints .u64 (List.replicate (rs j).length (owC j))⟩
section
variable {n : Nat} {rs : Nat → List Int} {J : List Ob}
theorem Yy : Cl n (M2 n rs) (owR rs) J = Cl n (M2 n rs) (owF rs 0) J := rfl
theorem ow_in {i : Nat} : Cl n (M2 n rs) (owF rs i) J = Cl n (M2 n rs) (upd (owF rs i) i (owK rs i 0)) J := by
  congr 1
  funext j
  unfold upd
  by_cases e : j = i
  · subst e; simp [owF, owK]
  · rw [if_neg e]
theorem Ad9 {i k : Nat} (hi : i < n) (hk : k < (rs i).length) : (Cl n (M2 n rs) (upd (owF rs i) i (owK rs i k)) J).set (i + 1) ⟨71, 1, 0, true, ints .u64 ((List.replicate k (owC i) ++ (rs i).drop k).set ((0 + k) * 1) (owC i))⟩ = Cl n (M2 n rs) (upd (owF rs i) i (owK rs i (k + 1))) J := by
  rw [Aa9 hi, Adn]
  congr 3
  show ints .u64 _ = ints .u64 _
  congr 1
  rw [Nat.zero_add, Nat.mul_one, List.set_append_right _ _ (by simp), List.length_replicate, Nat.sub_self, List.drop_eq_getElem_cons hk, List.set_cons_zero, List.replicate_succ', List.append_assoc]
  rfl
theorem Ah8 {i k : Nat} (hk : ¬ k < (rs i).length) (hk2 : k ≤ (rs i).length) : Cl n (M2 n rs) (upd (owF rs i) i (owK rs i k)) J = Cl n (M2 n rs) (owF rs (i + 1)) J := by
  have e : k = (rs i).length := by omega
  subst e
  congr 1
  funext j
  unfold upd
  by_cases e : j = i
  · subst e
    rw [if_pos rfl]
    unfold owK owF
    rw [List.drop_length, List.append_nil, if_pos (Nat.lt_succ_self j)]
  · rw [if_neg e]
    unfold owF
    by_cases h : j < i
    · rw [if_pos h, if_pos (by omega)]
    · rw [if_neg h, if_neg (by omega)]
theorem Ah7 {i : Nat} (hi : ¬ i < n) : Cl n (M2 n rs) (owF rs i) J = Cl n (owL n rs 0) (owG rs 0) J := by
  unfold Cl
  congr 2
  · refine List.map_congr_left fun j hj => ?_
    have := List.mem_range.1 hj
    unfold owF owG
    rw [if_pos (by omega), if_neg (Nat.not_lt_zero j)]
theorem Y0 {i : Nat} (hi : i < n) : (owL n rs i).cs[(0 + i) * 1]? = some (.o (i + 1) 0 0 (rs i).length) := Adu hi (if_neg (Nat.lt_irrefl i))
theorem Aea {i : Nat} (hi : i < n) : (Cl n (owL n rs i) (owG rs i) J)[i + 1]? = some ⟨71, 1, 0, true, ints .u64 (List.replicate (rs i).length (owC i))⟩ := Ahk hi (if_neg (Nat.lt_irrefl i))
theorem Aec {i : Nat} (hi : i < n) : (Cl n (owL n rs i) (owG rs i) J).set (i + 1) ⟨71, 1, 0 + 1, true, ints .u64 (List.replicate (rs i).length (owC i)) ++ ints .u64 (owB i)⟩ = Cl n (owL n rs i) (upd (owG rs i) i (owE rs i)) J := by
  rw [Aa9 hi]
  congr 3
  simp [ints]
theorem Aeb {i : Nat} (hi : i < n) : Cl n ⟨22, 1, 0, true, De (owL n rs i).cs ((0 + i) * 1) [.o (i + 1) 1 0 ((rs i).length + 5)]⟩ (upd (owG rs i) i (owE rs i)) J = Cl n (owL n rs (i + 1)) (owG rs (i + 1)) J := by
  congr 1
  · unfold owL
    rw [Sx]
    congr 1
    refine List.map_congr_left fun j _ => ?_
    by_cases e : j = i
    · subst e; rw [if_pos rfl, if_pos (Nat.lt_succ_self j)]
    · rw [if_neg e]
      by_cases h : j < i
      · rw [if_pos h, if_pos (by omega)]
      · rw [if_neg h, if_neg (by omega)]
  · funext j
    unfold upd owG
    by_cases e : j = i
    · subst e; rw [if_pos rfl, if_pos (Nat.lt_succ_self j)]
    · rw [if_neg e]
      by_cases h : j < i
      · rw [if_pos h, if_pos (by omega)]
      · rw [if_neg h, if_neg (by omega)]
theorem Yz {i m : Nat} (hi : i < n) (hm : ¬ m < n) : (owL n rs m).cs[(0 + i) * 1]? = some (.o (i + 1) 1 0 ((rs i).length + 5)) := Adu hi (if_pos (by omega))
theorem Hj {i m : Nat} (hi : i < n) (hm : ¬ m < n) : (Cl n (owL n rs m) (owG rs m) J)[i + 1]? = some (owE rs i) := Ahk hi (if_pos (by omega))
theorem Ah6 {i k : Nat} (hk : k < (rs i).length + 5) : (List.replicate (rs i).length (owC i) ++ owB i).getD ((0 + k) * 1) 0 = if k < (rs i).length then owC i else ((300 + 5 * i + (k - (rs i).length) : Nat) : Int) := by
  rw [Nat.zero_add, Nat.mul_one]
  by_cases h : k < (rs i).length
  · rw [if_pos h, List.getD_eq_getElem?_getD, List.getElem?_append_left (by simpa using h), List.getElem?_replicate, if_pos h]
    rfl
  · rw [if_neg h, List.getD_eq_getElem?_getD, List.getElem?_append_right (by simp; omega), List.length_replicate]
    obtain ⟨q, hq⟩ : ∃ q, k - (rs i).length = q := ⟨_, rfl⟩
    rw [hq]
    match q, (show q < 5 by omega) with
    | 0, _ => rfl
    | 1, _ => rfl
    | 2, _ => rfl
    | 3, _ => rfl
    | 4, _ => rfl
theorem Ah9 {i : Nat} : (List.replicate (rs i).length (owC i) ++ owB i).length = (rs i).length + 5 := by simp [owB]
theorem Aia {m : Nat} : ObsId (Cl n (M2 n rs) (owR rs) []).length ((Cl n (owL n rs m) (owG rs m) J).take (Cl n (M2 n rs) (owR rs) []).length) := by
  rw [Uo]
  refine Aba (fun y hy => ?_) fun j _ y hy => ?_
  · obtain ⟨j, hj, rfl⟩ := List.mem_map.1 hy
    have := List.mem_range.1 hj
    by_cases h : j < m
    · rw [if_pos h]; simp [idB]; omega
    · rw [if_neg h]; simp [idB]; omega
  · unfold owG owE at hy
    by_cases h : j < m
    · rw [if_pos h] at hy; exact List.all_eq_true.1 A8 y hy
    · rw [if_neg h] at hy; exact List.all_eq_true.1 A8 y hy
end

section
variable {n : Nat} {rs : Nat → List Int}
theorem Abj : ObsId (n + 1) (Cl n (M2 n rs) (owR rs) []) := by
  have h := Aba (n := n) (L := M2 n rs) (f := owR rs) (J := []) (fun y hy => by
    obtain ⟨j, hj, rfl⟩ := List.mem_map.1 hy
    have := List.mem_range.1 hj
    simp [idB]; omega) fun j _ y hy => List.all_eq_true.1 A8 y hy
  rwa [List.take_of_length_le (by rw [Uo]; simp)] at h
theorem R3 : Eu (Cl n (M2 n rs) (owR rs) []) := by
  unfold Cl
  rw [List.append_nil]
  intro o ho hl y hy
  rcases List.mem_cons.1 ho with rfl | ho
  · obtain ⟨j, hj, rfl⟩ := List.mem_map.1 hy
    rfl
  · obtain ⟨j, hj, rfl⟩ := List.mem_map.1 ho
    exact List.all_eq_true.1 Et y hy
end
def rsOf (l : List (List Int)) (j : Nat) : List Int := l.getD j []
theorem Rn {l : List (List Int)} {m : Nat} (h : ∀ r ∈ l, r.length < m) (h0 : 0 < m) (j : Nat) : (rsOf l j).length < m := by
  unfold rsOf
  rw [List.getD_eq_getElem?_getD]
  cases hj : l[j]? with
  | none => exact h0
  | some r => exact h r (List.mem_of_getElem? hj)

theorem and1 {n : Nat} (h1 : n < 18446744073709551616) : F7 .and .u64 (n : Int) 1 = ((n % 2 : Nat) : Int) := by
  unfold F7
  simp only [IntKind.bits]
  have e1 : (BitVec.ofInt 64 (n : Int)).toNat = n := by
    rw [BitVec.toNat_ofInt]; simp; omega
  have e2 : (BitVec.ofInt 64 1).toNat = 1 := by decide
  have e3 : (BitVec.ofInt 64 (n : Int) &&& BitVec.ofInt 64 1).toNat = n % 2 := by
    rw [BitVec.toNat_and, e1, e2]
    simp
  show IntKind.u64.wrap (((BitVec.ofInt 64 (n : Int) &&& BitVec.ofInt 64 1).toNat : Nat) : Int) = _
  rw [e3, A0 (by omega) (by omega)]
theorem Nv (k : Nat) : B32 ^ k = 2 ^ (32 * k) := by
  rw [Nat.pow_mul]
theorem W5 (x i : Nat) : x / B32 ^ (i / 32) % B32 / 2 ^ (i % 32) % 2 = x / 2 ^ i % 2 := by
  have hr : i % 32 < 32 := Nat.mod_lt _ (by decide)
  have e : B32 = 2 ^ (i % 32) * 2 ^ (32 - i % 32) := by
    rw [← Nat.pow_add, show i % 32 + (32 - i % 32) = 32 by omega]
  have h0 : ∀ y : Nat, y % B32 / 2 ^ (i % 32) = y / 2 ^ (i % 32) % 2 ^ (32 - i % 32) := fun y => by rw [e, Nat.mod_mul_right_div_self]
  have h1 := h0 (x / B32 ^ (i / 32))
  rw [h1, Nat.mod_mod_of_dvd _ (by
    obtain ⟨k, hk⟩ : ∃ k, 32 - i % 32 = k + 1 := ⟨31 - i % 32, by omega⟩
    rw [hk, Nat.pow_succ]
    exact Nat.dvd_mul_left 2 _), Nat.div_div_eq_div_mul, Nv, ← Nat.pow_add, Nat.div_add_mod]
theorem Afw {x i : Nat} (h : (Aj B32 x).length ≤ i / 32) : x / 2 ^ i % 2 = 0 := by
  have h1 := Gh (b := B32) (by decide) x
  have h2 : B32 ^ (Aj B32 x).length ≤ 2 ^ i := by
    rw [Nv]; exact Nat.pow_le_pow_right (by decide) (by omega)
  rw [Nat.div_eq_of_lt (by omega)]
theorem bit_lt {x n : Nat} (hx : x ≠ 0) (h : 2 ^ n ∣ x) : n < 32 * (Aj B32 x).length := by
  have h1 := Gh (b := B32) (by decide) x
  rw [Nv] at h1
  have h2 := Nat.le_of_dvd (by omega) h
  exact (Nat.pow_lt_pow_iff_right (by decide)).1 (Nat.lt_of_le_of_lt h2 h1)
theorem Afx {x n : Nat} (h : 2 ^ n ∣ x) (hb : x / 2 ^ n % 2 = 0) : 2 ^ (n + 1) ∣ x := by
  obtain ⟨q, rfl⟩ := h
  rw [Nat.mul_div_cancel_left _ (Nat.two_pow_pos n)] at hb
  obtain ⟨r, rfl⟩ : ∃ r, q = 2 * r := ⟨q / 2, by omega⟩
  exact ⟨r, by rw [Nat.pow_succ, Nat.mul_assoc]⟩
def Tz (x t : Nat) : Prop := 2 ^ t ∣ x ∧ x / 2 ^ t % 2 = 1
def inI (v : Int) : Prop := -9223372036854775808 ≤ v ∧ v < 9223372036854775808
instance (v : Int) : Decidable (inI v) := by unfold inI; infer_instance
def fl (v : Int) : List Int := if v = 0 then [] else [v]
theorem R5 {v : Int} (h : v.natAbs < 18446744073709551616) : lm v = fl ((v.natAbs : Nat) : Int) := by
  unfold lm fl
  by_cases h0 : v.natAbs = 0
  · rw [h0, Ct]; rfl
  · rw [C1 (by decide) h0, Nat.mod_eq_of_lt h, Nat.div_eq_of_lt h, Ct, if_neg (by omega)]


theorem Fs (s : Nat) : (0 : Int) < 2 ^ s := Int.pow_pos (by decide)
theorem Jm {s : Nat} (h : s ≤ 64) : (2 : Int) ^ (64 - s) * 2 ^ s = 18446744073709551616 := by
  rw [← Int.pow_add, show 64 - s + s = 64 by omega]; rfl
theorem Abi {s : Nat} (h : s < 64) : (2 : Int) * 2 ^ (63 - s) = 2 ^ (64 - s) := by
  rw [show 64 - s = (63 - s) + 1 by omega, Int.pow_succ, Int.mul_comm]
theorem p2le {s : Nat} (h : s < 64) : (2 : Int) ^ s ≤ 9223372036854775808 := by
  have h1 : (2 : Nat) ^ s ≤ 2 ^ 63 := Nat.pow_le_pow_right (by decide) (by omega)
  have h2 : ((2 ^ s : Nat) : Int) ≤ ((2 ^ 63 : Nat) : Int) := Int.ofNat_le.2 h1
  rw [Int.natCast_pow] at h2
  simpa using h2
theorem Aa1 {s : Nat} (h : s ≤ 64) : min ((s : Int)).toNat 64 = s := by omega
theorem Ih {x : Int} {s : Nat} (h : s ≤ 64) : x.fdiv (2 ^ min ((s : Int)).toNat 64) = x / 2 ^ s := by
  rw [Aa1 h]; exact Int.fdiv_eq_ediv_of_nonneg _ (Int.le_of_lt (Fs s))
theorem Gv {x : Int} {s : Nat} (h : s ≤ 64) : IntKind.u64.wrap (x * 2 ^ min ((s : Int)).toNat 64) = x * 2 ^ s % 18446744073709551616 := by
  rw [Aa1 h]; exact Dr
def loS (x : Int) (s : Nat) : Int := x * 2 ^ s % 18446744073709551616
def hiS (x : Int) (s : Nat) : Int := x / 2 ^ (64 - s)
theorem Vn {x : Int} {s : Nat} (h : s ≤ 64) : loS x s = 2 ^ s * (x % 2 ^ (64 - s)) := by
  unfold loS
  rw [← Jm h, Int.mul_comm x, Int.mul_comm (2 ^ (64 - s)) (2 ^ s), Int.mul_emod_mul_of_pos _ _ (Fs s)]
theorem lohi {x : Int} {s : Nat} (h : s ≤ 64) : x * 2 ^ s = 18446744073709551616 * hiS x s + loS x s := by
  rw [Vn h, ← Jm h]
  unfold hiS
  have e := Int.emod_add_mul_ediv x (2 ^ (64 - s))
  generalize hk : x / 2 ^ (64 - s) = k at e ⊢
  generalize hr : x % 2 ^ (64 - s) = r at e ⊢
  rw [← e, Int.add_mul, Int.mul_comm r]
  rw [Int.mul_right_comm]
  omega
theorem Lh {x : Int} {s : Nat} (h : s ≤ 64) (h0 : 0 ≤ x) (h1 : x < 18446744073709551616) : 0 ≤ hiS x s ∧ hiS x s < 2 ^ s := by
  unfold hiS
  refine ⟨Int.ediv_nonneg h0 (Int.le_of_lt (Fs _)), ?_⟩
  refine Int.ediv_lt_of_lt_mul (Fs _) ?_
  rw [Int.mul_comm, Jm h]; exact h1
theorem L7 {x : Int} {s : Nat} : 0 ≤ loS x s ∧ loS x s < 18446744073709551616 := by unfold loS; omega
theorem P1 {x : Int} {s : Nat} (h : s < 64) : x / 2 / 2 ^ (63 - s) = hiS x s := by
  unfold hiS; rw [Int.ediv_ediv_of_nonneg (by decide), Abi h]
theorem Uc {x : Int} {s : Nat} (h : s < 64) : x * 2 % 18446744073709551616 * 2 ^ (63 - s) % 18446744073709551616 = loS x (64 - s) := by
  unfold loS
  rw [Int.mul_emod, Int.emod_emod, ← Int.mul_emod, Int.mul_assoc, Abi h]
theorem Aib {x y : Int} {k : Nat} (hx0 : 0 ≤ x) (hx : x < 2 ^ k) (hy0 : 0 ≤ y) (hy : 2 ^ k * y < 18446744073709551616) (hk : k ≤ 64) : F7 .or .u64 x (2 ^ k * y) = x + 2 ^ k * y := by
  obtain ⟨m, rfl⟩ := Int.eq_ofNat_of_zero_le hx0
  obtain ⟨n, rfl⟩ := Int.eq_ofNat_of_zero_le hy0
  have hp : ((2 ^ k : Nat) : Int) = (2 : Int) ^ k := by rw [Int.natCast_pow]; rfl
  rw [← hp] at hx hy ⊢
  rw [← Int.natCast_mul] at hy ⊢
  have hm : m < 2 ^ k := Int.ofNat_lt.1 hx
  have hn : 2 ^ k * n < 18446744073709551616 := by omega
  have hm2 : m < 18446744073709551616 := Nat.lt_of_lt_of_le hm (Nat.pow_le_pow_right (by decide) hk)
  unfold F7
  simp only [IntKind.bits]
  have e1 : (BitVec.ofInt 64 (m : Int)).toNat = m := by rw [BitVec.toNat_ofInt]; simp; omega
  have e2 : (BitVec.ofInt 64 ((2 ^ k * n : Nat) : Int)).toNat = 2 ^ k * n := by
    generalize 2 ^ k * n = t at hn
    rw [BitVec.toNat_ofInt]; simp; omega
  have e3 : (BitVec.ofInt 64 (m : Int) ||| BitVec.ofInt 64 ((2 ^ k * n : Nat) : Int)).toNat = m + 2 ^ k * n := by
    rw [BitVec.toNat_or, e1, e2, Nat.or_comm, ← Nat.two_pow_add_eq_or_of_lt hm, Nat.add_comm]
  show IntKind.u64.wrap (((BitVec.ofInt 64 (m : Int) ||| BitVec.ofInt 64 ((2 ^ k * n : Nat) : Int)).toNat : Nat) : Int) = _
  rw [e3]
  have hs : m + 2 ^ k * n < 18446744073709551616 := by
    have := (BitVec.ofInt 64 (m : Int) ||| BitVec.ofInt 64 ((2 ^ k * n : Nat) : Int)).isLt
    rw [e3] at this; simpa using this
  generalize 2 ^ k * n = t at hs ⊢
  rw [A0 (by omega) (by omega)]
  omega
theorem Qg {c x : Int} {s : Nat} (h : s ≤ 64) (hc0 : 0 ≤ c) (hc : c < 2 ^ s) (hx0 : 0 ≤ x) : F7 .or .u64 c (loS x s) = c + loS x s ∧ c + loS x s < 18446744073709551616 := by
  have hb := @L7 x s
  rw [Vn h] at hb ⊢
  have hx : 0 ≤ x % 2 ^ (64 - s) := Int.emod_nonneg _ (Int.ne_of_gt (Fs _))
  have hx2 : x % 2 ^ (64 - s) < 2 ^ (64 - s) := Int.emod_lt_of_pos _ (Fs _)
  refine ⟨Aib hc0 hc hx hb.2 h, ?_⟩
  have e := Jm h
  have h3 : 2 ^ s * (x % 2 ^ (64 - s)) ≤ 2 ^ s * (2 ^ (64 - s) - 1) := Int.mul_le_mul_of_nonneg_left (by omega) (Int.le_of_lt (Fs s))
  rw [Int.mul_sub, Int.mul_comm (2 ^ s) (2 ^ (64 - s)), e] at h3
  omega
def upN (a : List Int) (s : Nat) : Nat → List Int × Int
  | 0 => ([], 0)
  | i + 1 => ((upN a s i).1 ++ [(upN a s i).2 + loS (a.getD i 0) s], hiS (a.getD i 0) s)
theorem E5 (a : List Int) (s : Nat) : ∀ i, (upN a s i).1.length = i
  | 0 => rfl
  | i + 1 => by simp [upN, E5 a s i]
theorem Tp {a : List Int} {s : Nat} (hs : s ≤ 64) (ha : Az a) : ∀ i, 0 ≤ (upN a s i).2 ∧ (upN a s i).2 < 2 ^ s
  | 0 => ⟨Int.le_refl 0, Fs s⟩
  | i + 1 => Lh hs (A2 ha i).1 (A2 ha i).2
theorem Agp {a : List Int} {s : Nat} (hs : s ≤ 64) (ha : Az a) : ∀ i, Az (upN a s i).1
  | 0 => fun x hx => by simp [upN] at hx
  | i + 1 => by
    have hc := Tp hs ha i
    have hl := @L7 (a.getD i 0) s
    exact Eg (Agp hs ha i) (by omega) (Qg hs hc.1 hc.2 (A2 ha i).1).2
theorem To {a : List Int} {s : Nat} (hs : s ≤ 64) : ∀ i, vl (upN a s i).1 + pB i * (upN a s i).2 = vk a i * 2 ^ s
  | 0 => by rw [Tf]; simp [upN, vl]
  | i + 1 => by
    have h := To (a := a) hs i
    have e := lohi (x := a.getD i 0) hs
    rw [Cu, Int.add_mul, ← h]
    simp only [upN]
    rw [D5, E5, Int.mul_assoc (pB i) (a.getD i 0), e]
    simp only [vl, pB]
    have hB : Bs = 18446744073709551616 := rfl
    rw [hB]
    generalize (upN a s i).2 = c
    generalize loS (a.getD i 0) s = lo
    generalize hiS (a.getD i 0) s = hi
    generalize pB i = p
    have e1 : p * (18446744073709551616 * hi + lo) = 18446744073709551616 * p * hi + p * lo := by rw [Int.mul_add, ← Int.mul_assoc, Int.mul_comm p]
    have e2 : p * (c + lo + 18446744073709551616 * 0) = p * c + p * lo := by rw [Int.mul_zero, Int.add_zero, Int.mul_add]
    rw [e1, e2]
    omega
def upL (a : List Int) (s : Nat) : List Int := (upN a s a.length).1 ++ [(upN a s a.length).2]
theorem Kp (a : List Int) (s : Nat) : (upL a s).length = a.length + 1 := by simp [upL, E5]
theorem Xw {a : List Int} {s : Nat} (hs : s < 64) (ha : Az a) : Az (upL a s) := by
  have hc := Tp (Nat.le_of_lt hs) ha a.length
  have := p2le hs
  exact Eg (Agp (Nat.le_of_lt hs) ha _) hc.1 (by omega)
theorem Mj {a : List Int} {s : Nat} (hs : s ≤ 64) : vl (upL a s) = vl a * 2 ^ s := by
  unfold upL
  rw [D5, E5]
  have h := To (a := a) hs a.length
  rw [Dq (Nat.le_refl _)] at h
  rw [← h]; simp [vl]
theorem Ri {l : List Int} {c v : Int} {n : Nat} : (Ci (l ++ [c]) n).set ((0 + l.length) * 1) v = Ci (l ++ [v]) n := by
  rw [Nat.zero_add, Nat.mul_one]
  unfold Ci
  rw [List.append_assoc, List.append_assoc, List.set_append_right _ _ (Nat.le_refl _), Nat.sub_self]
  simp
theorem Sa {l : List Int} {c : Int} {n : Nat} : (Ci (l ++ [c]) n).getD ((0 + l.length) * 1) 0 = c := by
  rw [Nat.zero_add, Nat.mul_one]
  unfold Ci
  rw [List.append_assoc, List.getD_eq_getElem?_getD, List.getElem?_append_right (Nat.le_refl _), Nat.sub_self]
  simp
def upR (a : List Int) (s i : Nat) : List Int := Ci ((upN a s i).1 ++ [(upN a s i).2]) (a.length + 1)
theorem Ps {a : List Int} {s i : Nat} (h : i ≤ a.length) : (upR a s i).length = a.length + 1 := Ey (by simp [E5]; omega)
theorem Acr {a : List Int} {s : Nat} : List.replicate (a.length + 1) (0 : Int) = upR a s 0 := by
  unfold upR Ci; simp [upN, List.replicate_succ]
theorem Pt {a : List Int} {s i : Nat} : (upR a s i).getD ((0 + i) * 1) 0 = (upN a s i).2 := by
  have h := @Sa (upN a s i).1 (upN a s i).2 (a.length + 1)
  rw [E5] at h; exact h
theorem Pr {a : List Int} {s i : Nat} (h : i < a.length) : ((upR a s i).set ((0 + i) * 1) ((upN a s i).2 + loS (a.getD i 0) s)).set ((0 + (i + 1)) * 1) (hiS (a.getD i 0) s) = upR a s (i + 1) := by
  have h1 := @Ri (upN a s i).1 (upN a s i).2 ((upN a s i).2 + loS (a.getD i 0) s) (a.length + 1)
  rw [E5] at h1
  unfold upR
  rw [h1]
  have hl : (upN a s (i + 1)).1.length = i + 1 := E5 a s (i + 1)
  have h2 := @Fk (upN a s (i + 1)).1 (a.length + 1) (hiS (a.getD i 0) s) (by omega)
  rw [hl] at h2
  rw [Nat.zero_add, Nat.mul_one]
  exact h2
theorem Mi {a : List Int} {s : Nat} : upR a s a.length = upL a s := Ed (by simp [E5])
def dnD (a : List Int) (s i : Nat) : Int := a.getD i 0 / 2 ^ s + loS (a.getD (i + 1) 0) (64 - s)
def dnN (a : List Int) (s : Nat) : Nat → List Int
  | 0 => []
  | i + 1 => dnN a s i ++ [dnD a s i]
theorem Gj (a : List Int) (s : Nat) : ∀ i, (dnN a s i).length = i
  | 0 => rfl
  | i + 1 => by simp [dnN, Gj a s i]
theorem Ag7 {x : Int} {s : Nat} (h : s ≤ 64) (h0 : 0 ≤ x) (h1 : x < 18446744073709551616) : 0 ≤ x / 2 ^ s ∧ x / 2 ^ s < 2 ^ (64 - s) := by
  have := Lh (x := x) (s := 64 - s) (by omega) h0 h1
  unfold hiS at this
  rwa [show 64 - (64 - s) = s by omega] at this
theorem Afl {x y : Int} {s : Nat} (h : s ≤ 64) (h0 : 0 ≤ x) (h1 : x < 18446744073709551616) (hy : 0 ≤ y) : F7 .or .u64 (x / 2 ^ s) (loS y (64 - s)) = x / 2 ^ s + loS y (64 - s) ∧ x / 2 ^ s + loS y (64 - s) < 18446744073709551616 := by
  have hb := Ag7 h h0 h1
  exact Qg (by omega) hb.1 hb.2 hy
theorem Ab2 {a : List Int} {s i : Nat} (h : s ≤ 64) (ha : Az a) : 0 ≤ dnD a s i ∧ dnD a s i < 18446744073709551616 := by
  have hx := A2 ha i
  have hb := Ag7 h hx.1 hx.2
  have hl := @L7 (a.getD (i + 1) 0) (64 - s)
  exact ⟨by unfold dnD; omega, (Afl h hx.1 hx.2 (A2 ha (i + 1)).1).2⟩
theorem Wm {a : List Int} {s : Nat} (hs : s ≤ 64) (ha : Az a) : ∀ i, Az (dnN a s i)
  | 0 => fun x hx => by simp [dnN] at hx
  | i + 1 => Eg (Wm hs ha i) (Ab2 hs ha).1 (Ab2 hs ha).2
theorem Afm {a : List Int} {s i : Nat} (hs : s ≤ 64) : 2 ^ s * dnD a s i = a.getD i 0 - a.getD i 0 % 2 ^ s + 18446744073709551616 * (a.getD (i + 1) 0 % 2 ^ s) := by
  unfold dnD
  rw [Vn (show 64 - s ≤ 64 by omega), show 64 - (64 - s) = s by omega]
  have e := Int.emod_add_mul_ediv (a.getD i 0) (2 ^ s)
  rw [Int.mul_add, ← Int.mul_assoc, Int.mul_comm (2 ^ s) (2 ^ (64 - s)), Jm hs]
  omega
theorem Qv {a : List Int} {s : Nat} (hs : s ≤ 64) : ∀ i, 2 ^ s * vl (dnN a s i) = vk a i - a.getD 0 0 % 2 ^ s + pB i * (a.getD i 0 % 2 ^ s)
  | 0 => by rw [Tf]; simp [dnN, vl, pB]; omega
  | i + 1 => by
    have h := Qv (a := a) hs i
    have e := Afm (a := a) (i := i) hs
    rw [Cu]
    simp only [dnN]
    rw [D5, Gj, Int.mul_add, h, Int.mul_left_comm]
    have : vl [dnD a s i] = dnD a s i := by simp [vl]
    rw [this, e, Int.mul_add, Int.mul_sub]
    simp only [pB]
    have hB : Bs = 18446744073709551616 := rfl
    rw [hB, ← Int.mul_assoc (pB i), Int.mul_comm (pB i) 18446744073709551616]
    omega
theorem Aet {a : List Int} {s : Nat} (hs : s ≤ 64) {x : Int} (h : vl a = 2 ^ s * x) : a.getD 0 0 % 2 ^ s = 0 := by
  cases a with
  | nil => simp
  | cons y l =>
    simp only [vl] at h
    show y % 2 ^ s = 0
    have hB : Bs = 2 ^ s * 2 ^ (64 - s) := by rw [Int.mul_comm, Jm hs]; rfl
    rw [hB, Int.mul_assoc] at h
    have : y = 2 ^ s * (x - 2 ^ (64 - s) * vl l) := by rw [Int.mul_sub]; omega
    rw [this, Int.mul_emod_right]
theorem dn_end {a : List Int} {s : Nat} (hs : s ≤ 64) {x : Int} (h : vl a = 2 ^ s * x) : vl (dnN a s a.length) = x := by
  have h1 := Qv (a := a) hs a.length
  rw [Aet hs h, Dq (Nat.le_refl _), Dw (Nat.le_refl _), Int.zero_emod, Int.mul_zero, h] at h1
  exact Int.eq_of_mul_eq_mul_left (Int.ne_of_gt (Fs s)) (by omega)


def rwJ (U : List Int) (j : Nat) (l : List Int) : List Int := U.take j ++ (l ++ U.drop (j + l.length))
theorem Ahh {U : List Int} {j : Nat} : rwJ U j [] = U := by unfold rwJ; simp
theorem Ky {U : List Int} {j : Nat} {l : List Int} (h : j + l.length ≤ U.length) : (rwJ U j l).length = U.length := by
  unfold rwJ; simp only [List.length_append, List.length_take, List.length_drop]; omega
theorem Rl {U : List Int} {j k : Nat} {l : List Int} (h : l.length ≤ k) (hU : j + l.length ≤ U.length) : (rwJ U j l).getD ((j + k) * 1) 0 = U.getD (j + k) 0 := by
  unfold rwJ
  rw [Nat.mul_one, List.getD_eq_getElem?_getD, List.getElem?_append_right (by rw [List.length_take]; omega), List.length_take, Nat.min_eq_left (by omega), List.getElem?_append_right (by omega), List.getElem?_drop, List.getD_eq_getElem?_getD]
  congr 2; omega
theorem Ahg {U : List Int} {j k : Nat} {l : List Int} (h : k < l.length) (hU : j + l.length ≤ U.length) : (rwJ U j l).getD ((j + k) * 1) 0 = l.getD k 0 := by
  unfold rwJ
  rw [Nat.mul_one, List.getD_eq_getElem?_getD, List.getElem?_append_right (by rw [List.length_take]; omega), List.length_take, Nat.min_eq_left (by omega), List.getElem?_append_left (by omega), List.getD_eq_getElem?_getD]
  congr 2; omega
theorem Mr {U : List Int} {j : Nat} {l : List Int} {v : Int} (hU : j + l.length < U.length) : (rwJ U j l).set ((j + l.length) * 1) v = rwJ U j (l ++ [v]) := by
  unfold rwJ
  rw [Nat.mul_one, List.set_append_right _ _ (by rw [List.length_take]; omega), List.length_take, Nat.min_eq_left (by omega), List.set_append_right _ _ (by omega),
    show j + l.length - j - l.length = 0 by omega, List.drop_eq_getElem_cons hU, List.set_cons_zero, List.length_append, List.length_singleton, List.append_assoc]
  rfl
theorem Adh {U : List Int} {j : Nat} {l m : List Int} (h : m.length ≤ l.length) (hU : j + l.length ≤ U.length) : rwJ (rwJ U j l) j m = rwJ U j (m ++ l.drop m.length) := by
  unfold rwJ
  have hl : (U.take j).length = j := by rw [List.length_take]; omega
  rw [List.take_append_of_le_length (by omega), List.take_of_length_le (l := U.take j) (by omega), List.drop_append, hl, List.drop_of_length_le (l := U.take j) (by omega), List.nil_append,
    show j + m.length - j = m.length by omega, List.drop_append_of_le_length h]
  simp only [List.append_assoc, List.length_append, List.length_drop]
  rw [show m.length + (l.length - m.length) = l.length by omega]
def slJ (U : List Int) (j n : Nat) : List Int := (U.drop j).take n
theorem T9 {U : List Int} {j n : Nat} (h : j + n ≤ U.length) : (slJ U j n).length = n := by unfold slJ; rw [List.length_take, List.length_drop]; omega
theorem Ag8 {U : List Int} {j n k : Nat} (h : k < n) : (slJ U j n).getD k 0 = U.getD (j + k) 0 := by
  unfold slJ
  rw [I9 h, List.getD_eq_getElem?_getD, List.getElem?_drop, List.getD_eq_getElem?_getD]
theorem slJ_u {U : List Int} {j n : Nat} (h : Az U) : Az (slJ U j n) := Ep (Fe h _) _
theorem rwJ_u {U : List Int} {j : Nat} {l : List Int} (h : Az U) (hl : Az l) : Az (rwJ U j l) := Mk (Ep h _) (Mk hl (Fe h _))
theorem T8 (U : List Int) {j n : Nat} (h : j + n ≤ U.length) : vl U = vk U j + pB j * (vl (slJ U j n) + pB n * vl (U.drop (j + n))) := by
  have e1 : U = U.take j ++ ((U.drop j).take n ++ (U.drop j).drop n) := by rw [List.take_append_drop, List.take_append_drop]
  have hl1 : (U.take j).length = j := by rw [List.length_take]; omega
  have hl2 : ((U.drop j).take n).length = n := T9 h
  rw [List.drop_drop] at e1
  calc vl U = vl (U.take j ++ ((U.drop j).take n ++ U.drop (j + n))) := by rw [← e1]
    _ = _ := by rw [D5, D5, hl1, hl2]; rfl
theorem Adg {U : List Int} {j : Nat} {l : List Int} (h : j + l.length ≤ U.length) : vl (rwJ U j l) = vk U j + pB j * (vl l + pB l.length * vl (U.drop (j + l.length))) := by
  unfold rwJ
  have hl1 : (U.take j).length = j := by rw [List.length_take]; omega
  rw [D5, D5, hl1]; rfl
def msS (u v : List Int) (q : Int) (i : Nat) (c : Int) : Int := (v.getD i 0 * q % 18446744073709551616 + c) % 18446744073709551616
def msC (v : List Int) (q : Int) (i : Nat) (c : Int) : Int := v.getD i 0 * q / 18446744073709551616 + (v.getD i 0 * q % 18446744073709551616 + c) / 18446744073709551616
def sbD (u s b : Int) : Int := if u < s + b then u - s - b + 18446744073709551616 else u - s - b
def sbB (u s b : Int) : Int := if u < s + b then 1 else 0
theorem Ahf (u s b : Int) : sbD u s b = u - s - b + 18446744073709551616 * sbB u s b := by unfold sbD sbB; split <;> omega
theorem Uh (u s b : Int) : 0 ≤ sbB u s b ∧ sbB u s b ≤ 1 := by unfold sbB; split <;> omega
theorem Aa6 {u s b : Int} (hu0 : 0 ≤ u) (hu : u < 18446744073709551616) (hs0 : 0 ≤ s) (hs : s < 18446744073709551616) (hb0 : 0 ≤ b) (hb : b ≤ 1) : 0 ≤ sbD u s b ∧ sbD u s b < 18446744073709551616 := by unfold sbD; split <;> omega
def msN (u v : List Int) (q : Int) : Nat → List Int × Int × Int
  | 0 => ([], 0, 0)
  | i + 1 => ((msN u v q i).1 ++ [sbD (u.getD i 0) (msS u v q i (msN u v q i).2.1) (msN u v q i).2.2], msC v q i (msN u v q i).2.1, sbB (u.getD i 0) (msS u v q i (msN u v q i).2.1) (msN u v q i).2.2)
theorem Gx (u v : List Int) (q : Int) : ∀ i, (msN u v q i).1.length = i
  | 0 => rfl
  | i + 1 => by simp [msN, Gx u v q i]
theorem Ve {x y : Int} (hx0 : 0 ≤ x) (hx : x < 18446744073709551616) (hy0 : 0 ≤ y) (hy : y < 18446744073709551616) : 0 ≤ x * y ∧ x * y ≤ 340282366920938463426481119284349108225 := by
  have := Jz (m := 18446744073709551615) hx0 hy0 (by omega) (by omega)
  exact this
theorem Aej {u v : List Int} {q : Int} (hv : Az v) (hq0 : 0 ≤ q) (hq : q < 18446744073709551616) : ∀ i, 0 ≤ (msN u v q i).2.1 ∧ (msN u v q i).2.1 < 18446744073709551616
  | 0 => by simp [msN]
  | i + 1 => by
    have h := Aej (u := u) hv hq0 hq i
    have hx := A2 hv i
    have hp := Ve hx.1 hx.2 hq0 hq
    show 0 ≤ msC v q i (msN u v q i).2.1 ∧ msC v q i (msN u v q i).2.1 < _
    unfold msC
    generalize v.getD i 0 * q = P at hp ⊢
    generalize (msN u v q i).2.1 = c at h ⊢
    omega
theorem Aek (u v : List Int) (q : Int) : ∀ i, 0 ≤ (msN u v q i).2.2 ∧ (msN u v q i).2.2 ≤ 1
  | 0 => by simp [msN]
  | i + 1 => Uh _ _ _
theorem Aii {u v : List Int} {q : Int} (hu : Az u) (hv : Az v) (hq0 : 0 ≤ q) (hq : q < 18446744073709551616) : ∀ i, Az (msN u v q i).1
  | 0 => fun x hx => by simp [msN] at hx
  | i + 1 => by
    have hx := A2 hu i
    have hb := Aek u v q i
    have h := Aa6 hx.1 hx.2 (s := msS u v q i (msN u v q i).2.1) (b := (msN u v q i).2.2) (by unfold msS; omega) (by unfold msS; omega) hb.1 hb.2
    exact Eg (Aii hu hv hq0 hq i) h.1 h.2
theorem Vg (u v : List Int) (q : Int) : ∀ i, vl (msN u v q i).1 = vk u i - q * vk v i + pB i * ((msN u v q i).2.1 + (msN u v q i).2.2)
  | 0 => by rw [Tf, Tf]; simp [msN, vl]
  | i + 1 => by
    have h := Vg u v q i
    rw [Cu, Cu]
    simp only [msN]
    rw [D5, Gx, h, Ahf]
    have e1 : vl [u.getD i 0 - msS u v q i (msN u v q i).2.1 - (msN u v q i).2.2 + 18446744073709551616 * sbB (u.getD i 0) (msS u v q i (msN u v q i).2.1) (msN u v q i).2.2] = u.getD i 0 - msS u v q i (msN u v q i).2.1 - (msN u v q i).2.2 + 18446744073709551616 * sbB (u.getD i 0) (msS u v q i (msN u v q i).2.1) (msN u v q i).2.2 := by simp [vl]
    rw [e1]
    generalize sbB (u.getD i 0) (msS u v q i (msN u v q i).2.1) (msN u v q i).2.2 = b2
    have e2 : msS u v q i (msN u v q i).2.1 + 18446744073709551616 * msC v q i (msN u v q i).2.1 = v.getD i 0 * q + (msN u v q i).2.1 := by
      unfold msS msC
      generalize v.getD i 0 * q = P
      generalize (msN u v q i).2.1 = c
      omega
    generalize hs : msS u v q i (msN u v q i).2.1 = s at e2 ⊢
    generalize hc : msC v q i (msN u v q i).2.1 = c2 at e2 ⊢
    generalize (msN u v q i).2.1 = c at e2 ⊢
    generalize (msN u v q i).2.2 = b
    obtain rfl : s = v.getD i 0 * q + c - 18446744073709551616 * c2 := by omega
    simp only [pB]
    have hB : Bs = 18446744073709551616 := rfl
    rw [hB]
    generalize u.getD i 0 = x
    generalize v.getD i 0 = y
    have e3 : q * (vk v i + pB i * y) = q * vk v i + pB i * (y * q) := by rw [Int.mul_add, Int.mul_left_comm, Int.mul_comm q y]
    rw [e3]
    generalize pB i = p
    generalize y * q = z
    generalize q * vk v i = t
    have e4 : p * (x - (z + c - 18446744073709551616 * c2) - b + 18446744073709551616 * b2) = p * x - p * z - p * c - p * b + 18446744073709551616 * (p * (c2 + b2)) := by
      simp only [Int.mul_add, Int.mul_sub, Int.mul_left_comm p 18446744073709551616]
      omega
    rw [e4, Int.mul_add p c b, Int.mul_assoc]
    generalize p * (c2 + b2) = w
    generalize p * x = g1
    generalize p * z = g2
    generalize p * c = g3
    generalize p * b = g4
    omega
def msL (u v : List Int) (q : Int) : List Int := (msN u v q v.length).1 ++ [sbD (u.getD v.length 0) (msN u v q v.length).2.1 (msN u v q v.length).2.2]
def msB (u v : List Int) (q : Int) : Int := sbB (u.getD v.length 0) (msN u v q v.length).2.1 (msN u v q v.length).2.2
theorem M4 (u v : List Int) (q : Int) : (msL u v q).length = v.length + 1 := by simp [msL, Gx]
theorem Aij {u v : List Int} {q : Int} (hu : Az u) (hv : Az v) (hq0 : 0 ≤ q) (hq : q < 18446744073709551616) : Az (msL u v q) := by
  have hc := Aej (u := u) hv hq0 hq v.length
  have hb := Aek u v q v.length
  have hx := A2 hu v.length
  have h := Aa6 hx.1 hx.2 hc.1 hc.2 hb.1 hb.2
  exact Eg (Aii hu hv hq0 hq _) h.1 h.2
theorem Ael {u v : List Int} {q : Int} (hl : u.length = v.length + 1) : vl (msL u v q) = vl u - q * vl v + pB (v.length + 1) * msB u v q := by
  unfold msL msB
  have h := Vg u v q v.length
  have hu : vl u = vk u v.length + pB v.length * u.getD v.length 0 := by rw [← Cu, Dq (by omega)]
  rw [D5, Gx, h, Ahf, hu, Dq (Nat.le_refl v.length)]
  generalize sbB (u.getD v.length 0) (msN u v q v.length).2.1 (msN u v q v.length).2.2 = b2
  generalize (msN u v q v.length).2.1 = c
  generalize (msN u v q v.length).2.2 = b
  generalize u.getD v.length 0 = x
  have e1 : vl [x - c - b + 18446744073709551616 * b2] = x - c - b + 18446744073709551616 * b2 := by simp [vl]
  rw [e1]
  simp only [pB]
  have hB : Bs = 18446744073709551616 := rfl
  rw [hB]
  generalize pB v.length = p
  have e4 : p * (x - c - b + 18446744073709551616 * b2) = p * x - p * c - p * b + 18446744073709551616 * (p * b2) := by
    simp only [Int.mul_add, Int.mul_sub, Int.mul_left_comm p 18446744073709551616]
  rw [e4, Int.mul_add, Int.mul_assoc]
  generalize p * b2 = w
  generalize p * x = g1
  generalize p * c = g3
  generalize p * b = g4
  omega
def bkL (l v : List Int) : List Int := (adN l v v.length).1 ++ [(l.getD v.length 0 + (adN l v v.length).2) % 18446744073709551616]
theorem Nu (l v : List Int) : (bkL l v).length = v.length + 1 := by simp [bkL, C7]
theorem bkL_u {l v : List Int} : Az (bkL l v) := Eg (Ta _) (by omega) (by omega)
theorem Afv {l v : List Int} (hl : l.length = v.length + 1) : ∃ e, vl (bkL l v) = vl l + vl v - pB (v.length + 1) * e := by
  refine ⟨(l.getD v.length 0 + (adN l v v.length).2) / 18446744073709551616, ?_⟩
  unfold bkL
  have h := Qz l v v.length
  have hu : vl l = vk l v.length + pB v.length * l.getD v.length 0 := by rw [← Cu, Dq (by omega)]
  rw [Dq (Nat.le_refl v.length)] at h
  rw [D5, C7, hu]
  generalize l.getD v.length 0 = x
  generalize (adN l v v.length).2 = c at h ⊢
  have e1 : vl [(x + c) % 18446744073709551616] = x + c - 18446744073709551616 * ((x + c) / 18446744073709551616) := by simp only [vl]; omega
  rw [e1]
  simp only [pB]
  have hB : Bs = 18446744073709551616 := rfl
  rw [hB]
  generalize (x + c) / 18446744073709551616 = e
  generalize pB v.length = p at h ⊢
  have e4 : p * (x + c - 18446744073709551616 * e) = p * x + p * c - 18446744073709551616 * (p * e) := by
    simp only [Int.mul_add, Int.mul_sub, Int.mul_left_comm p 18446744073709551616]
  rw [e4, Int.mul_assoc]
  generalize p * e = w
  omega
def gsQ (u v : List Int) (q : Int) : Int := q - msB u v q
def gsL (u v : List Int) (q : Int) : List Int := if msB u v q = 0 then msL u v q else bkL (msL u v q) v
theorem Abz {u v : List Int} {q : Int} (hu : Az u) (hv : Az v) (hl : u.length = v.length + 1) (hv0 : 0 < vl v) (hq0 : 0 ≤ q) (hq : q < 18446744073709551616)
    (h1 : vl u / vl v ≤ q) (h2 : q ≤ vl u / vl v + 1) :
    gsQ u v q = vl u / vl v ∧ (gsL u v q).length = v.length + 1 ∧ Az (gsL u v q) ∧ vl (gsL u v q) = vl u % vl v := by
  have hm := Ael (u := u) (v := v) (q := q) hl
  have um := Aij (u := u) (v := v) (q := q) hu hv hq0 hq
  have b0 := Bf um
  have b1 := E4 um
  rw [M4] at b1
  have hbb := Uh (u.getD v.length 0) (msN u v q v.length).2.1 (msN u v q v.length).2.2
  have ed := Int.emod_add_mul_ediv (vl u) (vl v)
  have r0 := Int.emod_nonneg (vl u) (Int.ne_of_gt hv0)
  have r1 := Int.emod_lt_of_pos (vl u) hv0
  have up := Bf hu
  have ul := E4 hu
  have vu := Bf hv
  have vlt := E4 hv
  have hpm := Fz (show v.length ≤ v.length + 1 by omega)
  rw [hl] at ul
  unfold gsQ gsL
  by_cases hb : msB u v q = 0
  · rw [if_pos hb, hb]
    rw [hb, Int.mul_zero] at hm
    have hq1 : q = vl u / vl v := by
      rcases Int.lt_or_le (vl u / vl v) q with hlt | hle
      · exfalso
        have hq2 : q = vl u / vl v + 1 := by omega
        have hqv : q * vl v = vl v * (vl u / vl v) + vl v := by rw [hq2, Int.add_mul, Int.one_mul, Int.mul_comm (vl u / vl v)]
        omega
      · omega
    have hqv : q * vl v = vl v * (vl u / vl v) := by rw [← hq1, Int.mul_comm]
    exact ⟨by omega, M4 _ _ _, um, by omega⟩
  · have hb1 : msB u v q = 1 := by unfold msB at hb ⊢; omega
    rw [if_neg hb, hb1]
    rw [hb1, Int.mul_one] at hm
    have hq1 : q = vl u / vl v + 1 := by
      rcases Int.lt_or_le (vl u / vl v) q with hlt | hle
      · omega
      · exfalso
        have hq2 : q = vl u / vl v := by omega
        have hqv : q * vl v = vl v * (vl u / vl v) := by rw [hq2, Int.mul_comm]
        omega
    obtain ⟨e, he⟩ := Afv (l := msL u v q) (v := v) (M4 _ _ _)
    have ub : Az (bkL (msL u v q) v) := bkL_u
    have c0 := Bf ub
    have c1 := E4 ub
    rw [Nu] at c1
    have hqv : q * vl v = vl v * (vl u / vl v) + vl v := by rw [hq1, Int.add_mul, Int.one_mul, Int.mul_comm (vl u / vl v)]
    have he1 : e = 1 := by
      have hpp := Dd (v.length + 1)
      rcases Int.lt_trichotomy e 1 with h | h | h
      · exfalso
        have : pB (v.length + 1) * e ≤ pB (v.length + 1) * 0 := Int.mul_le_mul_of_nonneg_left (by omega) (by omega)
        omega
      · exact h
      · exfalso
        have : pB (v.length + 1) * 2 ≤ pB (v.length + 1) * e := Int.mul_le_mul_of_nonneg_left (by omega) (by omega)
        omega
    rw [he1, Int.mul_one] at he
    exact ⟨by omega, Nu _ _, ub, by omega⟩


theorem Wh {P V U q r v1 v2 u0 u1 u2 lv lu : Int} (hP : 0 < P) (hV : V = lv + P * (v2 + 18446744073709551616 * v1)) (hU : U = lu + P * (u2 + 18446744073709551616 * u1 + 340282366920938463463374607431768211456 * u0))
    (h1 : 0 ≤ lv) (h2 : lu < P) (h3 : 0 ≤ v2) (h4 : u2 < 18446744073709551616) (hq : 0 ≤ q) (he : q * v1 + r = u0 * 18446744073709551616 + u1) (hr : r < v1) : U < (q + 1) * V := by
  have f1 : 0 ≤ P * (q * v1 + v1 - u0 * 18446744073709551616 - u1 - 1) := Int.mul_nonneg (by omega) (by omega)
  have f4 : 0 ≤ P * v2 := Int.mul_nonneg (by omega) h3
  have f2 : 0 ≤ (q + 1) * (V - P * (18446744073709551616 * v1)) := Int.mul_nonneg (by omega) (by rw [hV, Int.mul_add]; omega)
  have f3 : 0 ≤ P * (18446744073709551615 - u2) := Int.mul_nonneg (by omega) (by omega)
  have e1 : P * (q * v1 + v1 - u0 * 18446744073709551616 - u1 - 1) = P * (q * v1) + P * v1 - 18446744073709551616 * (P * u0) - P * u1 - P := by
    rw [Int.mul_comm u0]; simp only [Int.mul_add, Int.mul_sub, Int.mul_left_comm P 18446744073709551616, Int.mul_one]
  have e2 : (q + 1) * (V - P * (18446744073709551616 * v1)) = q * V + V - 18446744073709551616 * (P * (q * v1)) - 18446744073709551616 * (P * v1) := by
    rw [Int.mul_left_comm P 18446744073709551616, Int.mul_sub, Int.add_mul, Int.add_mul, Int.mul_left_comm q 18446744073709551616, Int.mul_left_comm q P]; omega
  have e3 : P * (18446744073709551615 - u2) = 18446744073709551615 * P - P * u2 := by rw [Int.mul_sub, Int.mul_comm P]
  have e4 : P * (u2 + 18446744073709551616 * u1 + 340282366920938463463374607431768211456 * u0) = P * u2 + 18446744073709551616 * (P * u1) + 340282366920938463463374607431768211456 * (P * u0) := by
    simp only [Int.mul_add, Int.mul_left_comm P 18446744073709551616, Int.mul_left_comm P 340282366920938463463374607431768211456]
  rw [e1] at f1; rw [e2] at f2; rw [e3] at f3; rw [e4] at hU
  rw [Int.add_mul, Int.one_mul]
  omega
theorem Zr {P V U q r v1 v2 u0 u1 u2 lv lu : Int} (hP : 0 < P) (hV : V = lv + P * (v2 + 18446744073709551616 * v1)) (hU : U = lu + P * (u2 + 18446744073709551616 * u1 + 340282366920938463463374607431768211456 * u0))
    (h1 : 0 ≤ lv) (h2 : lu < P) (hq : 0 ≤ q) (he : q * v1 + r = u0 * 18446744073709551616 + u1) (hc : r * 18446744073709551616 + u2 < q * v2) : U < q * V := by
  have f1 : 0 ≤ P * (q * v2 - r * 18446744073709551616 - u2 - 1) := Int.mul_nonneg (by omega) (by omega)
  have f2 : 0 ≤ q * lv := Int.mul_nonneg hq h1
  have f3 : P * (q * v1 + r) = P * (u0 * 18446744073709551616 + u1) := by rw [he]
  have e1 : P * (q * v2 - r * 18446744073709551616 - u2 - 1) = P * (q * v2) - 18446744073709551616 * (P * r) - P * u2 - P := by
    rw [Int.mul_comm r]; simp only [Int.mul_add, Int.mul_sub, Int.mul_left_comm P 18446744073709551616, Int.mul_one]
  have e3 : P * (u0 * 18446744073709551616 + u1) = 18446744073709551616 * (P * u0) + P * u1 := by rw [Int.mul_comm u0, Int.mul_add, Int.mul_left_comm P]
  have e4 : P * (u2 + 18446744073709551616 * u1 + 340282366920938463463374607431768211456 * u0) = P * u2 + 18446744073709551616 * (P * u1) + 340282366920938463463374607431768211456 * (P * u0) := by
    simp only [Int.mul_add, Int.mul_left_comm P 18446744073709551616, Int.mul_left_comm P 340282366920938463463374607431768211456]
  have e5 : q * V = q * lv + P * (q * v2) + 18446744073709551616 * (P * (q * v1)) := by
    rw [hV, Int.mul_add, Int.mul_add P, Int.mul_add q, Int.mul_left_comm q P, Int.mul_left_comm P 18446744073709551616, Int.mul_left_comm q 18446744073709551616, Int.mul_left_comm q P v1]; omega
  rw [e1] at f1; rw [Int.mul_add, e3] at f3; rw [e4] at hU; rw [e5]
  omega
theorem Zs {P V U q r v1 v2 u0 u1 u2 lv lu : Int} (hP : 0 < P) (hV : V = lv + P * (v2 + 18446744073709551616 * v1)) (hU : U = lu + P * (u2 + 18446744073709551616 * u1 + 340282366920938463463374607431768211456 * u0))
    (h1 : 0 ≤ lv) (h2 : lv < P) (h3 : 0 ≤ lu) (h4 : 0 ≤ v2) (hv : 1 ≤ v1) (hq : 0 ≤ q) (hq1 : q < 18446744073709551616) (he : q * v1 + r = u0 * 18446744073709551616 + u1) (hc : q * v2 ≤ r * 18446744073709551616 + u2) : (q - 1) * V ≤ U := by
  have f1 : 0 ≤ P * (r * 18446744073709551616 + u2 - q * v2) := Int.mul_nonneg (by omega) (by omega)
  have f2 : q * lv ≤ 18446744073709551615 * P := Int.mul_le_mul (by omega) (by omega) h1 (by omega)
  have f3 : P * (q * v1 + r) = P * (u0 * 18446744073709551616 + u1) := by rw [he]
  have f4 : 0 ≤ P * (v1 - 1) := Int.mul_nonneg (by omega) (by omega)
  have f5 : 0 ≤ P * v2 := Int.mul_nonneg (by omega) h4
  have e1 : P * (r * 18446744073709551616 + u2 - q * v2) = 18446744073709551616 * (P * r) + P * u2 - P * (q * v2) := by
    rw [Int.mul_comm r]; simp only [Int.mul_add, Int.mul_sub, Int.mul_left_comm P 18446744073709551616]
  have e3 : P * (u0 * 18446744073709551616 + u1) = 18446744073709551616 * (P * u0) + P * u1 := by rw [Int.mul_comm u0, Int.mul_add, Int.mul_left_comm P]
  have e4 : P * (u2 + 18446744073709551616 * u1 + 340282366920938463463374607431768211456 * u0) = P * u2 + 18446744073709551616 * (P * u1) + 340282366920938463463374607431768211456 * (P * u0) := by
    simp only [Int.mul_add, Int.mul_left_comm P 18446744073709551616, Int.mul_left_comm P 340282366920938463463374607431768211456]
  have e5 : q * V = q * lv + P * (q * v2) + 18446744073709551616 * (P * (q * v1)) := by
    rw [hV, Int.mul_add, Int.mul_add P, Int.mul_add q, Int.mul_left_comm q P, Int.mul_left_comm P 18446744073709551616, Int.mul_left_comm q 18446744073709551616, Int.mul_left_comm q P v1]; omega
  have e6 : P * (v2 + 18446744073709551616 * v1) = P * v2 + 18446744073709551616 * (P * v1) := by rw [Int.mul_add, Int.mul_left_comm P]
  rw [e1] at f1; rw [Int.mul_add, e3] at f3; rw [e4] at hU; rw [Int.mul_sub, Int.mul_one] at f4
  rw [Int.sub_mul, Int.one_mul, e5]
  rw [e6] at hV
  omega
theorem Afc {P V U v1 v2 u0 u1 u2 lv lu : Int} (hP : 0 < P) (hV : V = lv + P * (v2 + 18446744073709551616 * v1)) (hU : U = lu + P * (u2 + 18446744073709551616 * u1 + 340282366920938463463374607431768211456 * u0))
    (h2 : lv < P) (h3 : 0 ≤ lu) (h4 : 0 ≤ u2) (h5 : 0 ≤ u1) (h6 : v2 < 18446744073709551616) (hlt : U < V * 18446744073709551616) : u0 ≤ v1 := by
  rcases Int.lt_or_le v1 u0 with h | h
  · exfalso
    have f1 : 0 ≤ P * (u0 - v1 - 1) := Int.mul_nonneg (by omega) (by omega)
    have f2 : 0 ≤ P * u2 := Int.mul_nonneg (by omega) h4
    have f3 : 0 ≤ P * u1 := Int.mul_nonneg (by omega) h5
    have f4 : 0 ≤ P * (18446744073709551615 - v2) := Int.mul_nonneg (by omega) (by omega)
    have e4 : P * (u2 + 18446744073709551616 * u1 + 340282366920938463463374607431768211456 * u0) = P * u2 + 18446744073709551616 * (P * u1) + 340282366920938463463374607431768211456 * (P * u0) := by
      simp only [Int.mul_add, Int.mul_left_comm P 18446744073709551616, Int.mul_left_comm P 340282366920938463463374607431768211456]
    have e6 : P * (v2 + 18446744073709551616 * v1) = P * v2 + 18446744073709551616 * (P * v1) := by rw [Int.mul_add, Int.mul_left_comm P]
    rw [e4] at hU; rw [e6] at hV
    simp only [Int.mul_sub, Int.mul_one] at f1 f4
    rw [Int.mul_comm P] at f4
    omega
  · exact h
theorem Ks {v : List Int} {n : Nat} (hn : v.length = n + 2) : vl v = vk v n + pB n * (v.getD n 0 + 18446744073709551616 * v.getD (n + 1) 0) := by
  have h1 : vl v = vk v (n + 2) := (Dq (by omega)).symm
  rw [h1, Cu, Cu]
  simp only [pB]
  have hB : Bs = 18446744073709551616 := rfl
  rw [hB, Int.mul_add, Int.mul_left_comm (pB n) 18446744073709551616, ← Int.mul_assoc 18446744073709551616]
  omega
theorem Iv {u : List Int} {n : Nat} (hn : u.length = n + 3) : vl u = vk u n + pB n * (u.getD n 0 + 18446744073709551616 * u.getD (n + 1) 0 + 340282366920938463463374607431768211456 * u.getD (n + 2) 0) := by
  have h1 : vl u = vk u (n + 3) := (Dq (by omega)).symm
  rw [h1, Cu, Cu, Cu]
  simp only [pB]
  have hB : Bs = 18446744073709551616 := rfl
  rw [hB, Int.mul_add, Int.mul_add, Int.mul_left_comm (pB n) 18446744073709551616, Int.mul_left_comm (pB n) 340282366920938463463374607431768211456]
  simp only [Int.mul_assoc]
  omega
theorem Kl {v : List Int} (hv : Az v) {n : Nat} (h : n ≤ v.length) : 0 ≤ vk v n ∧ vk v n < pB n := by
  refine ⟨It hv n, ?_⟩
  have := E4 (Ep hv n)
  rwa [List.length_take, Nat.min_eq_left h] at this
def Est (u v : List Int) (n : Nat) (q r : Int) : Prop :=
  q * v.getD (n + 1) 0 + r = u.getD (n + 2) 0 * 18446744073709551616 + u.getD (n + 1) 0 ∧ vl u / vl v ≤ q ∧ 0 ≤ q ∧ q < 18446744073709551616 ∧ 0 ≤ r
structure GuP (u v : List Int) (n : Nat) : Prop where
  uu : Az u
  uv : Az v
  lu : u.length = n + 3
  lv : v.length = n + 2
  lt : vl u < vl v * 18446744073709551616
  top : 1 ≤ v.getD (n + 1) 0
theorem GuP.pos {u v : List Int} {n : Nat} (h : GuP u v n) : 0 < vl v := by
  have h1 := Ks h.lv
  have b := Kl h.uv (n := n) (by rw [h.lv]; omega)
  have x := A2 h.uv n
  have hp := Dd n
  have t := h.top
  have : 0 < pB n * (v.getD n 0 + 18446744073709551616 * v.getD (n + 1) 0) := Int.mul_pos hp (by omega)
  omega
theorem GuP.q_lt {u v : List Int} {n : Nat} (h : GuP u v n) : vl u / vl v < 18446744073709551616 := Int.ediv_lt_of_lt_mul h.pos (by rw [Int.mul_comm]; exact h.lt)
theorem GuP.q_nn {u v : List Int} {n : Nat} (h : GuP u v n) : 0 ≤ vl u / vl v := Int.ediv_nonneg (Bf h.uu) (Int.le_of_lt h.pos)
theorem GuP.u_top {u v : List Int} {n : Nat} (h : GuP u v n) : u.getD (n + 2) 0 ≤ v.getD (n + 1) 0 := by
  have bv := Kl h.uv (n := n) (by rw [h.lv]; omega)
  have bu := Kl h.uu (n := n) (by rw [h.lu]; omega)
  exact Afc (Dd n) (Ks h.lv) (Iv h.lu) bv.2 bu.1 (A2 h.uu n).1 (A2 h.uu (n + 1)).1 (A2 h.uv n).2 h.lt
theorem GuP.first_eq {u v : List Int} {n : Nat} (h : GuP u v n) (hc : v.getD (n + 1) 0 ≤ u.getD (n + 2) 0) : Est u v n 18446744073709551615 (u.getD (n + 1) 0 + v.getD (n + 1) 0) := by
  have t := h.u_top
  have := h.q_lt
  have x := A2 h.uu (n + 1)
  have y := A2 h.uv (n + 1)
  exact ⟨by omega, by omega, by omega, by omega, by omega⟩
theorem GuP.first_div {u v : List Int} {n : Nat} (h : GuP u v n) (hc : u.getD (n + 2) 0 < v.getD (n + 1) 0) :
    Est u v n ((u.getD (n + 2) 0 * 18446744073709551616 + u.getD (n + 1) 0) / v.getD (n + 1) 0) ((u.getD (n + 2) 0 * 18446744073709551616 + u.getD (n + 1) 0) % v.getD (n + 1) 0) := by
  have bv := Kl h.uv (n := n) (by rw [h.lv]; omega)
  have bu := Kl h.uu (n := n) (by rw [h.lu]; omega)
  have x := A2 h.uu (n + 1)
  have x2 := A2 h.uu (n + 2)
  have t := h.top
  have e := Int.emod_add_mul_ediv (u.getD (n + 2) 0 * 18446744073709551616 + u.getD (n + 1) 0) (v.getD (n + 1) 0)
  have r1 := Int.emod_lt_of_pos (u.getD (n + 2) 0 * 18446744073709551616 + u.getD (n + 1) 0) (show 0 < v.getD (n + 1) 0 by omega)
  have r0 := Int.emod_nonneg (u.getD (n + 2) 0 * 18446744073709551616 + u.getD (n + 1) 0) (show v.getD (n + 1) 0 ≠ 0 by omega)
  have q0 : 0 ≤ (u.getD (n + 2) 0 * 18446744073709551616 + u.getD (n + 1) 0) / v.getD (n + 1) 0 := Int.ediv_nonneg (by omega) (by omega)
  have q1 : (u.getD (n + 2) 0 * 18446744073709551616 + u.getD (n + 1) 0) / v.getD (n + 1) 0 < 18446744073709551616 := Int.ediv_lt_of_lt_mul (by omega) (by omega)
  generalize (u.getD (n + 2) 0 * 18446744073709551616 + u.getD (n + 1) 0) / v.getD (n + 1) 0 = q at *
  generalize hr : (u.getD (n + 2) 0 * 18446744073709551616 + u.getD (n + 1) 0) % v.getD (n + 1) 0 = r at *
  rw [Int.mul_comm] at e
  have hh := Wh (Dd n) (Ks h.lv) (Iv h.lu) bv.1 bu.2 (A2 h.uv n).1 (A2 h.uu n).2 q0 (by omega) r1
  refine ⟨by omega, ?_, q0, q1, r0⟩
  exact Int.le_of_lt_add_one (Int.ediv_lt_of_lt_mul h.pos hh)
theorem GuP.next {u v : List Int} {n : Nat} {q r : Int} (h : GuP u v n) (he : Est u v n q r) (hc : r * 18446744073709551616 + u.getD n 0 < q * v.getD n 0) : Est u v n (q - 1) (r + v.getD (n + 1) 0) ∧ 1 ≤ q := by
  obtain ⟨e1, e2, e3, e4, e5⟩ := he
  have bv := Kl h.uv (n := n) (by rw [h.lv]; omega)
  have bu := Kl h.uu (n := n) (by rw [h.lu]; omega)
  have y := A2 h.uv (n + 1)
  have hh := Zr (Dd n) (Ks h.lv) (Iv h.lu) bv.1 bu.2 e3 e1 hc
  have := Int.ediv_lt_of_lt_mul h.pos hh
  have := h.q_nn
  refine ⟨⟨by rw [Int.sub_mul]; omega, by omega, by omega, by omega, by omega⟩, by omega⟩
theorem GuP.last {u v : List Int} {n : Nat} {q r : Int} (h : GuP u v n) (he : Est u v n q r) (hc : q * v.getD n 0 ≤ r * 18446744073709551616 + u.getD n 0) : q ≤ vl u / vl v + 1 := by
  obtain ⟨e1, e2, e3, e4, e5⟩ := he
  have bv := Kl h.uv (n := n) (by rw [h.lv]; omega)
  have bu := Kl h.uu (n := n) (by rw [h.lu]; omega)
  have hh := Zs (Dd n) (Ks h.lv) (Iv h.lu) bv.1 bv.2 bu.1 (A2 h.uv n).1 h.top e3 e4 e1 hc
  have := (Int.le_ediv_iff_mul_le h.pos).2 hh
  omega
theorem GuP.over {u v : List Int} {n : Nat} {q r : Int} (h : GuP u v n) (he : Est u v n q r) (hc : 18446744073709551616 ≤ r) : q ≤ vl u / vl v + 1 := by
  refine h.last he ?_
  obtain ⟨e1, e2, e3, e4, e5⟩ := he
  have x := A2 h.uv n
  have y := A2 h.uu n
  have := Ve e3 e4 x.1 x.2
  omega
theorem GuP.fin {u v : List Int} {n : Nat} {q r : Int} (h : GuP u v n) (he : Est u v n q r) (hc : q ≤ vl u / vl v + 1) : gsQ u v q = vl u / vl v ∧ (gsL u v q).length = n + 3 ∧ Az (gsL u v q) ∧ vl (gsL u v q) = vl u % vl v := by
  obtain ⟨e1, e2, e3, e4, e5⟩ := he
  have := Abz h.uu h.uv (by rw [h.lu, h.lv]) h.pos e3 e4 e2 hc
  rw [h.lv] at this
  exact this
def Hf (N y u q r : Int) : Prop := q * (y / 4294967296) + r = u ∧ N / y ≤ q ∧ q ≤ 4294967297 ∧ 0 ≤ r
structure HfP (N y u w : Int) : Prop where
  en : N = u * 4294967296 + w
  w0 : 0 ≤ w
  w1 : w < 4294967296
  u0 : 0 ≤ u
  lt : u < y
  y0 : 9223372036854775808 ≤ y
  y1 : y < 18446744073709551616
theorem HfP.q_lt {N y u w : Int} (h : HfP N y u w) : N / y < 4294967296 := Int.ediv_lt_of_lt_mul (by have := h.y0; omega) (by have := h.en; have := h.lt; have := h.w1; omega)
theorem HfP.q_nn {N y u w : Int} (h : HfP N y u w) : 0 ≤ N / y := Int.ediv_nonneg (by have := h.en; have := h.w0; have := h.u0; omega) (by have := h.y0; omega)
theorem HfP.first {N y u w : Int} (h : HfP N y u w) : Hf N y u (u / (y / 4294967296)) (u - u / (y / 4294967296) * (y / 4294967296)) ∧ 0 ≤ u / (y / 4294967296) ∧ u - u / (y / 4294967296) * (y / 4294967296) < 4294967296 := by
  obtain ⟨he, w0, w1, u0, hlt, y0, y1⟩ := h
  unfold Hf
  have hy : y = y / 4294967296 * 4294967296 + y % 4294967296 := by omega
  have hb : 0 ≤ y % 4294967296 ∧ y % 4294967296 < 4294967296 := by omega
  have ha : 2147483648 ≤ y / 4294967296 ∧ y / 4294967296 < 4294967296 := by omega
  generalize y / 4294967296 = a at *
  generalize y % 4294967296 = b at *
  have e := Int.emod_add_mul_ediv u a
  have r1 := Int.emod_lt_of_pos u (show 0 < a by omega)
  have r0 := Int.emod_nonneg u (show a ≠ 0 by omega)
  have q0 : 0 ≤ u / a := Int.ediv_nonneg u0 (by omega)
  generalize u / a = q at *
  generalize u % a = r at *
  rw [Int.mul_comm] at e
  refine ⟨⟨by omega, ?_, ?_, by omega⟩, q0, by omega⟩
  · refine Int.le_of_lt_add_one (Int.ediv_lt_of_lt_mul (by omega) ?_)
    have f1 : (q + 1) * y = 4294967296 * (q * a) + 4294967296 * a + (q + 1) * b := by
      rw [hy, Int.mul_add, Int.add_mul q 1 (a * 4294967296), ← Int.mul_assoc]; omega
    have f2 : 0 ≤ (q + 1) * b := Int.mul_nonneg (by omega) hb.1
    omega
  · rcases Int.lt_or_le 4294967297 q with h | h
    · exfalso
      have f : 4294967298 * a ≤ q * a := Int.mul_le_mul_of_nonneg_right (by omega) (by omega)
      omega
    · exact h
theorem HfP.next {N y u w q r : Int} (h : HfP N y u w) (hf : Hf N y u q r) (hc : 4294967296 ≤ q ∨ 4294967296 * r + w < q * (y % 4294967296)) : Hf N y u (q - 1) (r + y / 4294967296) ∧ 1 ≤ q ∧ q - 1 ≤ 4294967296 := by
  obtain ⟨e1, e2, e3, e4⟩ := hf
  have hq := h.q_lt
  have hn := h.q_nn
  obtain ⟨he, w0, w1, u0, hlt, y0, y1⟩ := h
  have hlt2 : N / y < q := by
    rcases hc with hc | hc
    · omega
    · refine Int.ediv_lt_of_lt_mul (by omega) ?_
      have hy : q * y = q * (y / 4294967296 * 4294967296 + y % 4294967296) := by congr 1; omega
      rw [hy, Int.mul_add, ← Int.mul_assoc]
      omega
  exact ⟨⟨by rw [Int.sub_mul]; omega, by omega, by omega, by omega⟩, by omega, by omega⟩
theorem HfP.last {N y u w q r : Int} (h : HfP N y u w) (hf : Hf N y u q r) (hc : q * (y % 4294967296) ≤ 4294967296 * r + w) : q = N / y := by
  obtain ⟨e1, e2, e3, e4⟩ := hf
  obtain ⟨he, w0, w1, u0, hlt, y0, y1⟩ := h
  have : q ≤ N / y := by
    refine (Int.le_ediv_iff_mul_le (by omega)).2 ?_
    have hy : q * y = q * (y / 4294967296 * 4294967296 + y % 4294967296) := by congr 1; omega
    rw [hy, Int.mul_add, ← Int.mul_assoc]
    omega
  omega
theorem HfP.over {N y u w q r : Int} (h : HfP N y u w) (hf : Hf N y u q r) (hq : 0 ≤ q) (hq1 : q ≤ 4294967296) (hc : 4294967296 ≤ r) : q = N / y := by
  refine h.last hf ?_
  obtain ⟨he, w0, w1, u0, hlt, y0, y1⟩ := h
  have f : q * (y % 4294967296) ≤ 4294967296 * 4294967295 := Int.mul_le_mul hq1 (by omega) (by omega) (by omega)
  omega
theorem HfP.rest {N y u w : Int} (h : HfP N y u w) : IntKind.u64.wrap (IntKind.u64.wrap (IntKind.u64.wrap (u * 4294967296) + w) - IntKind.u64.wrap (N / y * y)) = N % y := by
  have e := Int.emod_add_mul_ediv N y
  have r1 := Int.emod_lt_of_pos N (show 0 < y by have := h.y0; omega)
  have r0 := Int.emod_nonneg N (show y ≠ 0 by have := h.y0; omega)
  have := h.y1
  have := h.en
  simp only [Dr]
  rw [Int.mul_comm] at e
  generalize N / y * y = z at *
  generalize N % y = r at *
  omega
theorem HfP.rest_lt {N y u w : Int} (h : HfP N y u w) : 0 ≤ N % y ∧ N % y < y :=
  ⟨Int.emod_nonneg N (by have := h.y0; omega), Int.emod_lt_of_pos N (by have := h.y0; omega)⟩
theorem Y1 {k : IntKind} {x y : Int} : F7 .or k x y = F7 .or k y x := by
  unfold F7; simp only [BitVec.or_comm]
theorem Zz {hi lo y : Int} {s : Nat} (hs : s < 64) (h0 : 0 ≤ hi) (hlt : hi < y) (l0 : 0 ≤ lo) (l1 : lo < 18446744073709551616)
    (y0 : 9223372036854775808 ≤ y * 2 ^ s) (y1 : y * 2 ^ s < 18446744073709551616) :
    let Y := y * 2 ^ s
    let U := hi * 2 ^ s + hiS lo s
    let w1 := loS lo s / 4294967296
    let w0 := loS lo s % 4294967296
    let N1 := U * 4294967296 + w1
    let N2 := N1 % Y * 4294967296 + w0
    HfP N1 Y U w1 ∧ HfP N2 Y (N1 % Y) w0 ∧ N1 / Y * 4294967296 + N2 / Y = (hi * 18446744073709551616 + lo) / y ∧ N2 % Y / 2 ^ s = (hi * 18446744073709551616 + lo) % y := by
  intro Y U w1 w0 N1 N2
  have hb := Lh (s := s) (Nat.le_of_lt hs) l0 l1
  have lb := @L7 lo s
  have hp := Fs s
  have hU0 : 0 ≤ U := by
    have : 0 ≤ hi * 2 ^ s := Int.mul_nonneg h0 (by omega)
    show 0 ≤ hi * 2 ^ s + hiS lo s
    omega
  have hU1 : U < Y := by
    have h1 : (hi + 1) * 2 ^ s ≤ y * 2 ^ s := Int.mul_le_mul_of_nonneg_right (by omega) (by omega)
    rw [Int.add_mul, Int.one_mul] at h1
    show hi * 2 ^ s + hiS lo s < y * 2 ^ s
    omega
  have hP1 : HfP N1 Y U w1 := ⟨rfl, by show 0 ≤ loS lo s / 4294967296; omega, by show loS lo s / 4294967296 < 4294967296; omega, hU0, hU1, y0, y1⟩
  have hr := hP1.rest_lt
  have hP2 : HfP N2 Y (N1 % Y) w0 := ⟨rfl, by show 0 ≤ loS lo s % 4294967296; omega, by show loS lo s % 4294967296 < 4294967296; omega, hr.1, hr.2, y0, y1⟩
  refine ⟨hP1, hP2, ?_⟩
  have hr2 := hP2.rest_lt
  have e1 := Int.emod_add_mul_ediv N1 Y
  have e2 := Int.emod_add_mul_ediv N2 Y
  -- the whole: (hi B + lo) 2^s = Y (Q1 2^32 + Q0) + R0
  have eA : (hi * 18446744073709551616 + lo) * 2 ^ s = U * 18446744073709551616 + loS lo s := by
    have := lohi (x := lo) (s := s) (Nat.le_of_lt hs)
    rw [Int.add_mul, this]
    show hi * 18446744073709551616 * 2 ^ s + _ = (hi * 2 ^ s + hiS lo s) * 18446744073709551616 + _
    rw [Int.mul_right_comm]; omega
  have eB : N1 = U * 4294967296 + loS lo s / 4294967296 := rfl
  have eC : N2 = N1 % Y * 4294967296 + loS lo s % 4294967296 := rfl
  generalize hq1 : N1 / Y = Q1 at *
  generalize hq0 : N2 / Y = Q0 at *
  generalize hr1 : N1 % Y = R1 at *
  generalize hr0 : N2 % Y = R0 at *
  have eD : (hi * 18446744073709551616 + lo) * 2 ^ s = Y * (Q1 * 4294967296 + Q0) + R0 := by
    rw [eA, Int.mul_add, ← Int.mul_assoc]
    generalize Y * Q1 = z1 at *
    generalize Y * Q0 = z0 at *
    omega
  have eE : Y * (Q1 * 4294967296 + Q0) = y * (Q1 * 4294967296 + Q0) * 2 ^ s := by
    show y * 2 ^ s * _ = _
    rw [Int.mul_right_comm]
  rw [eE] at eD
  have hR : R0 = ((hi * 18446744073709551616 + lo) - y * (Q1 * 4294967296 + Q0)) * 2 ^ s := by rw [Int.sub_mul]; omega
  generalize hA : hi * 18446744073709551616 + lo = A at *
  generalize hQ : Q1 * 4294967296 + Q0 = Q at *
  generalize hT : A - y * Q = T at *
  have hT0 : 0 ≤ T := by
    rcases Int.lt_or_le T 0 with h | h
    · exfalso
      have := Int.mul_neg_of_neg_of_pos h hp
      omega
    · exact h
  have hT1 : T < y := by
    rcases Int.lt_or_le T y with h | h
    · exact h
    · exfalso
      have h1 : y * 2 ^ s ≤ T * 2 ^ s := Int.mul_le_mul_of_nonneg_right h (by omega)
      have h2 : R0 < y * 2 ^ s := hr2.2
      omega
  have hA2 : A = T + y * Q := by omega
  refine ⟨?_, ?_⟩
  · rw [hA2, Int.add_mul_ediv_left _ _ (by omega), Int.ediv_eq_zero_of_lt hT0 hT1]; omega
  · rw [hR, Int.mul_ediv_cancel _ (by omega), hA2, Int.add_mul_emod_self_left, Int.emod_eq_of_lt hT0 hT1]


theorem Mz {x d : Int} (h0 : 0 ≤ x) (h1 : x < 18446744073709551616) (hd : 0 < d) : IntKind.u64.wrap (Int.tdiv x d) = x / d := by
  rw [Int.tdiv_eq_ediv_of_nonneg h0]
  exact A0 (Int.ediv_nonneg h0 (by omega)) (Int.lt_of_le_of_lt (Int.ediv_le_self d h0) h1)
theorem T4 {x z : Int} (h0 : 0 ≤ x - z) (h1 : x - z < 18446744073709551616) : IntKind.u64.wrap (x - IntKind.u64.wrap z) = x - z := by
  simp only [Dr]; omega
theorem Ac9 {x Y : Int} {s : Nat} (h : s ≤ 64) (hY : x * 2 ^ s = Y) (h0 : 0 ≤ Y) (h1 : Y < 18446744073709551616) : IntKind.u64.wrap (x * 2 ^ min ((s : Int)).toNat 64) = Y := by
  rw [Gv h, hY]; omega
theorem or_hi {hi lo : Int} {s : Nat} (h : s ≤ 64) (h0 : 0 ≤ hi * 2 ^ s) (h1 : hi * 2 ^ s < 18446744073709551616) (l0 : 0 ≤ lo) (l1 : lo < 18446744073709551616) (hh : 0 ≤ hi) :
    F7 .or .u64 (loS hi s) (lo / 2 ^ (64 - s)) = hi * 2 ^ s + hiS lo s := by
  have hb := Lh h l0 l1
  have e := (Qg h hb.1 hb.2 hh).1
  show F7 .or .u64 (loS hi s) (hiS lo s) = _
  rw [Y1, e]
  have : loS hi s = hi * 2 ^ s := by unfold loS; omega
  rw [this]; omega
theorem shr1 {x : Int} (h : 0 ≤ x) : x.fdiv (2 ^ min (1 : Int).toNat 64) = x / 2 := by
  obtain ⟨n, rfl⟩ := Int.eq_ofNat_of_zero_le h
  exact Hh (k := 2) (by decide)
theorem shl1 {x : Int} : IntKind.u64.wrap (x * 2 ^ min (1 : Int).toNat 64) = x * 2 % 18446744073709551616 := Dr
theorem Wl {l : List Int} {i : Nat} {v : Int} (h : i < l.length) : (l.set ((0 + i) * 1) v).getD ((0 + i) * 1) 0 = v := by
  rw [Nat.zero_add, Nat.mul_one, List.getD_eq_getElem?_getD, List.getElem?_set_self h]; rfl
theorem Hn {a : List Int} {s i n : Nat} (h : i < n) : (Ci (dnN a s i) n).set ((0 + i) * 1) (dnD a s i) = Ci (dnN a s (i + 1)) n := by
  have e := @Fk (dnN a s i) n (dnD a s i) (by rw [Gj]; exact h)
  rw [Gj] at e
  rw [Nat.zero_add, Nat.mul_one]; exact e
theorem Kh {a : List Int} {s i : Nat} (h : a.length ≤ i + 1) : dnD a s i = a.getD i 0 / 2 ^ s := by
  unfold dnD loS; rw [Dw h]; simp
theorem Aik (u v : List Int) (q : Int) : 0 ≤ msB u v q ∧ msB u v q ≤ 1 := Uh _ _ _
theorem Aih {U u v : List Int} {q : Int} {j i : Nat} (h : j + i < U.length) : (rwJ U j (msN u v q i).1).set ((j + i) * 1) (sbD (u.getD i 0) (msS u v q i (msN u v q i).2.1) (msN u v q i).2.2) = rwJ U j (msN u v q (i + 1)).1 := by
  have e := @Mr U j (msN u v q i).1 (sbD (u.getD i 0) (msS u v q i (msN u v q i).2.1) (msN u v q i).2.2) (by rw [Gx]; exact h)
  rw [Gx] at e; exact e
theorem Ail {U u v : List Int} {q : Int} {j : Nat} (h : j + v.length < U.length) : (rwJ U j (msN u v q v.length).1).set ((j + v.length) * 1) (sbD (u.getD v.length 0) (msN u v q v.length).2.1 (msN u v q v.length).2.2) = rwJ U j (msL u v q) := by
  have e := @Mr U j (msN u v q v.length).1 (sbD (u.getD v.length 0) (msN u v q v.length).2.1 (msN u v q v.length).2.2) (by rw [Gx]; exact h)
  rw [Gx] at e; exact e
theorem ad_set {W l v : List Int} {j i : Nat} (h : j + i < W.length) : (rwJ W j (adN l v i).1).set ((j + i) * 1) ((l.getD i 0 + v.getD i 0 + (adN l v i).2) % 18446744073709551616) = rwJ W j (adN l v (i + 1)).1 := by
  have e := @Mr W j (adN l v i).1 ((l.getD i 0 + v.getD i 0 + (adN l v i).2) % 18446744073709551616) (by rw [C7]; exact h)
  rw [C7] at e; exact e
theorem bk_row {U l v : List Int} {j : Nat} (hl : l.length = v.length + 1) (h : j + l.length ≤ U.length) : (rwJ (rwJ U j l) j (adN l v v.length).1).set ((j + v.length) * 1) ((l.getD v.length 0 + (adN l v v.length).2) % 18446744073709551616) = rwJ U j (bkL l v) := by
  have e := @Mr (rwJ U j l) j (adN l v v.length).1 ((l.getD v.length 0 + (adN l v v.length).2) % 18446744073709551616) (by rw [C7, Ky h]; omega)
  rw [C7] at e
  rw [e]
  show rwJ (rwJ U j l) j (bkL l v) = _
  rw [Adh (by rw [Nu]; omega) h, Nu, List.drop_of_length_le (by omega), List.append_nil]
theorem Uj {U : List Int} {j k : Nat} {l : List Int} (h : k < l.length) (hU : j + l.length ≤ U.length) : (rwJ U j l).getD (j + k) 0 = l.getD k 0 := by
  have e := Ahg h hU; rwa [Nat.mul_one] at e
theorem R2 (s : Nat) : ((2 ^ s : Nat) : Int) = (2 : Int) ^ s := by rw [Int.natCast_pow]; rfl
theorem Abm {y : Int} (h0 : 0 < y) (h1 : y < 18446744073709551616) : 64 - bl 64 y.toNat < 64 ∧ 9223372036854775808 ≤ y * 2 ^ (64 - bl 64 y.toNat) ∧ y * 2 ^ (64 - bl 64 y.toNat) < 18446744073709551616 := by
  obtain ⟨n, rfl⟩ := Int.eq_ofNat_of_zero_le (Int.le_of_lt h0)
  rw [Int.toNat_natCast, Nt 64 n (by omega)]
  have hn : n ≠ 0 := by omega
  have hp := Dy hn
  have h64 : Cp n ≤ 64 := Cn.2 (by omega)
  have hlt : n < 2 ^ Cp n := Cn.1 (Nat.le_refl _)
  have hge : 2 ^ (Cp n - 1) ≤ n := by
    rcases Nat.lt_or_ge n (2 ^ (Cp n - 1)) with h | h
    · have := Cn.2 h; omega
    · exact h
  generalize Cp n = b at *
  have e1 : 2 ^ b * 2 ^ (64 - b) = 18446744073709551616 := by rw [← Nat.pow_add, show b + (64 - b) = 64 by omega]
  have e2 : 2 ^ (b - 1) * 2 ^ (64 - b) = 9223372036854775808 := by rw [← Nat.pow_add, show b - 1 + (64 - b) = 63 by omega]
  have f1 : n * 2 ^ (64 - b) < 2 ^ b * 2 ^ (64 - b) := Nat.mul_lt_mul_of_pos_right hlt (Nat.two_pow_pos _)
  have f2 : 2 ^ (b - 1) * 2 ^ (64 - b) ≤ n * 2 ^ (64 - b) := Nat.mul_le_mul_right _ hge
  rw [← R2, ← Int.natCast_mul]
  omega
theorem Fv {l : List Int} {v : Int} (hu : Az l) (hv : vl l = v) : trm l = lm v := by
  have h0 := Bf hu
  exact Gt (by decide) (Pv hu) (by rw [Tn, hv]; omega)
theorem lm_id {l : List Int} (hu : Az l) (ht : tpd l) : lm (vl l) = l := by rw [← Fv hu rfl, Ku ht]
def dvN (a : List Int) (d : Int) : Nat → List Int × Int
  | 0 => ([], 0)
  | j + 1 => (((dvN a d j).2 * 18446744073709551616 + a.getD (a.length - 1 - j) 0) / d :: (dvN a d j).1, ((dvN a d j).2 * 18446744073709551616 + a.getD (a.length - 1 - j) 0) % d)
theorem G4 (a : List Int) (d : Int) : ∀ j, (dvN a d j).1.length = j
  | 0 => rfl
  | j + 1 => by simp [dvN, G4 a d j]
theorem Zv {a : List Int} {d : Int} (hd : 0 < d) : ∀ j, 0 ≤ (dvN a d j).2 ∧ (dvN a d j).2 < d
  | 0 => ⟨Int.le_refl 0, hd⟩
  | j + 1 => ⟨Int.emod_nonneg _ (by omega), Int.emod_lt_of_pos _ hd⟩
theorem Afk {a : List Int} {d : Int} (ha : Az a) (hd : 0 < d) : ∀ j, Az (dvN a d j).1
  | 0 => fun x hx => by simp [dvN] at hx
  | j + 1 => by
    have hr := Zv (a := a) hd j
    have hx := A2 ha (a.length - 1 - j)
    have ih := Afk (d := d) ha hd j
    intro y hy
    simp only [dvN, List.mem_cons] at hy
    rcases hy with rfl | hy
    · exact ⟨Int.ediv_nonneg (by omega) (by omega), Int.ediv_lt_of_lt_mul hd (by
        generalize (dvN a d j).2 = r at *
        generalize a.getD (a.length - 1 - j) 0 = x at *
        omega)⟩
    · exact ih y hy
theorem Wk {a : List Int} {d : Int} : ∀ j, j ≤ a.length → vl (a.drop (a.length - j)) = d * vl (dvN a d j).1 + (dvN a d j).2
  | 0, _ => by rw [Nat.sub_zero, List.drop_length]; simp [dvN, vl]
  | j + 1, h => by
    have ih := Wk (a := a) (d := d) j (by omega)
    rw [Gp (l := a) (i := a.length - (j + 1)) (by omega), show a.length - (j + 1) + 1 = a.length - j by omega, show a.length - (j + 1) = a.length - 1 - j by omega]
    simp only [vl, dvN]
    rw [ih]
    have e := Int.emod_add_mul_ediv ((dvN a d j).2 * 18446744073709551616 + a.getD (a.length - 1 - j) 0) d
    have hB : Bs = 18446744073709551616 := rfl
    rw [hB, Int.mul_add 18446744073709551616, Int.mul_left_comm 18446744073709551616 d, Int.mul_add d]
    omega
theorem Pb {k : Nat} {Q : List Int} {v : Int} (hk : 0 < k) : (List.replicate k 0 ++ Q).set ((0 + (k - 1)) * 1) v = List.replicate (k - 1) 0 ++ v :: Q := by
  rw [Nat.zero_add, Nat.mul_one]
  obtain ⟨k, rfl⟩ : ∃ m, k = m + 1 := ⟨k - 1, by omega⟩
  rw [Nat.add_sub_cancel, List.replicate_succ', List.append_assoc, List.set_append_right _ _ (by simp)]
  simp
theorem Afj {k : Nat} {Q : List Int} {v : Int} : (List.replicate (k + 1) 0 ++ Q).set ((0 + k) * 1) v = List.replicate k 0 ++ v :: Q := Pb (k := k + 1) (Nat.succ_pos k)
theorem Nh {a : List Int} {d : Int} {k : Nat} (h0 : 0 < k) (hk : k ≤ a.length) : dvN a d (a.length - (k - 1)) = (((dvN a d (a.length - k)).2 * 18446744073709551616 + a.getD (k - 1) 0) / d :: (dvN a d (a.length - k)).1, ((dvN a d (a.length - k)).2 * 18446744073709551616 + a.getD (k - 1) 0) % d) := by
  rw [show a.length - (k - 1) = (a.length - k) + 1 by omega]
  simp only [dvN]
  rw [show a.length - 1 - (a.length - k) = k - 1 by omega]
theorem kn_len {a b : List Int} (ua : Az a) (ub : Az b) (tb : tpd b) (hb : b ≠ []) (h : vl b ≤ vl a) : b.length ≤ a.length := by
  rcases Nat.lt_or_ge a.length b.length with hl | hl
  · exfalso
    have h1 := E4 ua
    have h2 := Su ub tb hb
    have h3 := Fz (show a.length ≤ b.length - 1 by omega)
    omega
  · exact hl
theorem Le (v : Int) : Hb (lm v) = Aq v := by
  rw [Gm (Dc v), S2, Int.toNat_natCast]; rfl
theorem Aey : lm 0 = [] := Ct
theorem Ab1 {a : List Int} {d : Int} (ha : Az a) (hd : 0 < d) : trm (dvN a d a.length).1 = lm (vl a / d) ∧ (dvN a d a.length).2 = vl a % d := by
  have h := Wk (a := a) (d := d) a.length (Nat.le_refl _)
  have hr := Zv (a := a) hd a.length
  rw [Nat.sub_self, List.drop_zero] at h
  refine ⟨Fv (Afk ha hd _) ?_, ?_⟩
  · rw [h, Int.add_comm, Int.add_mul_ediv_left _ _ (by omega), Int.ediv_eq_zero_of_lt hr.1 hr.2]; omega
  · rw [h, Int.add_comm, Int.add_mul_emod_self_left, Int.emod_eq_of_lt hr.1 hr.2]
theorem Zq {v : Int} (h0 : 0 ≤ v) (h1 : v < 18446744073709551616) : (if v = 0 then [] else [v]) = lm v := by
  rw [R5 (by omega), show ((v.natAbs : Nat) : Int) = v by omega]; rfl
structure Kn (X : Int) (v : List Int) (N : Nat) (k : Nat) (U Q : List Int) : Prop where
  lu : U.length = N
  uu : Az U
  uq : Az Q
  val : X = vl v * (pB k * vl Q) + vl U
  lt : vl U < vl v * pB k
theorem Kn.gup {X : Int} {v U Q : List Int} {N k n : Nat} (h : Kn X v N (k + 1) U Q) (uv : Az v) (lv : v.length = n + 2) (top : 1 ≤ v.getD (n + 1) 0) (hk : k + (n + 3) ≤ N) : GuP (slJ U k (n + 3)) v n := by
  have hs := T8 U (j := k) (n := n + 3) (by rw [h.lu]; exact hk)
  have u1 := slJ_u (j := k) (n := n + 3) h.uu
  have c0 := It h.uu k
  have r0 := Bf (Fe h.uu (k + (n + 3)))
  have hp := Dd k
  refine ⟨u1, uv, T9 (by rw [h.lu]; exact hk), lv, ?_, top⟩
  have hlt := h.lt
  have e : vl v * pB (k + 1) = pB k * (vl v * 18446744073709551616) := by
    simp only [pB]
    have hB : Bs = 18446744073709551616 := rfl
    rw [hB, Int.mul_left_comm, Int.mul_left_comm (pB k), ← Int.mul_assoc 18446744073709551616, Int.mul_comm 18446744073709551616, Int.mul_assoc, Int.mul_comm (pB k)]
  rw [e, hs] at hlt
  have f : 0 ≤ pB k * (pB (n + 3) * vl (U.drop (k + (n + 3)))) := Int.mul_nonneg (Int.le_of_lt hp) (Int.mul_nonneg (Int.le_of_lt (Dd _)) r0)
  rw [Int.mul_add] at hlt
  exact Int.lt_of_mul_lt_mul_left (show pB k * vl (slJ U k (n + 3)) < pB k * (vl v * 18446744073709551616) by omega) (Int.le_of_lt hp)
theorem Kn.next {X : Int} {v U Q r : List Int} {N k n : Nat} (h : Kn X v N (k + 1) U Q) (hg : GuP (slJ U k (n + 3)) v n) (hk : k + (n + 3) ≤ N) (lr : r.length = n + 3) (ur : Az r) (vr : vl r = vl (slJ U k (n + 3)) % vl v) :
    Kn X v N k (rwJ U k r) (vl (slJ U k (n + 3)) / vl v :: Q) := by
  have hs := T8 U (j := k) (n := n + 3) (by rw [h.lu]; exact hk)
  have hr := Adg (U := U) (j := k) (l := r) (by rw [h.lu, lr]; exact hk)
  rw [lr] at hr
  have hp := Dd k
  have hv := hg.pos
  have e := Int.emod_add_mul_ediv (vl (slJ U k (n + 3))) (vl v)
  have m1 := Int.emod_lt_of_pos (vl (slJ U k (n + 3))) hv
  have q0 := hg.q_nn
  have q1 := hg.q_lt
  have c := Kl h.uu (n := k) (by rw [h.lu]; omega)
  have r0 := Bf (Fe h.uu (k + (n + 3)))
  have u0 := Bf hg.uu
  have vlt := E4 hg.uv
  rw [hg.lv] at vlt
  have hB : Bs = 18446744073709551616 := rfl
  have hrest : vl (U.drop (k + (n + 3))) = 0 := by
    rcases Int.lt_or_le 0 (vl (U.drop (k + (n + 3)))) with hl | hl
    · exfalso
      have hlt := h.lt
      rw [hs] at hlt
      have f1 : pB k * (pB (n + 3) * 1) ≤ pB k * (pB (n + 3) * vl (U.drop (k + (n + 3)))) := Int.mul_le_mul_of_nonneg_left (Int.mul_le_mul_of_nonneg_left (by omega) (Int.le_of_lt (Dd _))) (Int.le_of_lt hp)
      have f2 : 0 ≤ pB k * vl (slJ U k (n + 3)) := Int.mul_nonneg (Int.le_of_lt hp) u0
      have f3 : vl v * pB (k + 1) ≤ pB (n + 2) * pB (k + 1) := Int.mul_le_mul_of_nonneg_right (by omega) (Int.le_of_lt (Dd _))
      have f4 : pB (n + 2) * pB (k + 1) = pB k * (pB (n + 3) * 1) := by rw [Int.mul_one, ← Gb, ← Gb]; congr 1; omega
      rw [Int.mul_add] at hlt
      omega
    · omega
  rw [hrest, Int.mul_zero, Int.add_zero] at hs hr
  generalize hA : vl (slJ U k (n + 3)) / vl v = A at *
  generalize hM : vl (slJ U k (n + 3)) % vl v = M at *
  generalize hS : vl (slJ U k (n + 3)) = S at *
  refine ⟨by rw [Ky (by rw [h.lu, lr]; exact hk), h.lu], rwJ_u h.uu ur, ?_, ?_, ?_⟩
  · intro y hy
    rw [List.mem_cons] at hy
    rcases hy with rfl | hy
    · exact ⟨q0, q1⟩
    · exact h.uq y hy
  · rw [h.val, hr, hs, vr]
    simp only [vl, pB]
    rw [hB, ← e, Int.mul_add (pB k) A, Int.mul_add (vl v), Int.mul_add (pB k) M, Int.mul_left_comm (pB k) (vl v), Int.mul_left_comm (pB k) 18446744073709551616, ← Int.mul_assoc 18446744073709551616]
    omega
  · rw [hr, vr, Int.mul_comm (vl v)]
    have f : pB k * M ≤ pB k * (vl v - 1) := Int.mul_le_mul_of_nonneg_left (by omega) (Int.le_of_lt hp)
    rw [Int.mul_sub, Int.mul_one] at f
    omega
theorem Ze {a b v : List Int} {s : Nat} (hs : s < 64) (ua : Az a) (ub : Az b) (tb : tpd b) (hb : b ≠ []) (hv : vl v = vl b * 2 ^ s) (hl : b.length ≤ a.length) : Kn (vl a * 2 ^ s) v (a.length + 1) (a.length - b.length + 1) (upL a s) [] := by
  refine ⟨Kp a s, Xw hs ua, fun x hx => by simp at hx, ?_, ?_⟩
  · rw [Mj (Nat.le_of_lt hs)]; simp [vl]
  · rw [Mj (Nat.le_of_lt hs), hv, Int.mul_right_comm]
    have h1 := Su ub tb hb
    have h2 := E4 ua
    have hbl : 0 < b.length := List.length_pos_iff.2 hb
    have e : pB (b.length - 1) * pB (a.length - b.length + 1) = pB a.length := by rw [← Gb]; congr 1; omega
    have h3 : pB (b.length - 1) * pB (a.length - b.length + 1) ≤ vl b * pB (a.length - b.length + 1) := Int.mul_le_mul_of_nonneg_right h1 (Int.le_of_lt (Dd _))
    exact Int.mul_lt_mul_of_pos_right (by omega) (Fs s)
theorem kn_top {b v : List Int} {s n : Nat} (ub : Az b) (uv : Az v) (tb : tpd b) (hb : b.length = n + 2) (hlv : v.length = n + 2) (hv : vl v = vl b * 2 ^ s) : 1 ≤ v.getD (n + 1) 0 := by
  have h1 := Su ub tb (fun h => by rw [h] at hb; simp at hb)
  have x := A2 uv (n + 1)
  have h2 : vl v = vk v (n + 1) + pB (n + 1) * v.getD (n + 1) 0 := by rw [← Cu, Dq (by omega)]
  have c := Kl uv (n := n + 1) (by omega)
  rcases Int.lt_or_le 0 (v.getD (n + 1) 0) with h | h
  · omega
  · exfalso
    have h0 : v.getD (n + 1) 0 = 0 := by omega
    rw [h0, Int.mul_zero] at h2
    rw [hb] at h1
    have h3 : vl b * 1 ≤ vl b * 2 ^ s := Int.mul_le_mul_of_nonneg_left (by have := Fs s; omega) (Bf ub)
    have : n + 2 - 1 = n + 1 := by omega
    rw [this] at h1
    omega
theorem Agn {b : List Int} {s : Nat} (hs : s < 64) (ub : Az b) (h : b.getD (b.length - 1) 0 * 2 ^ s < 18446744073709551616) (hb : b ≠ []) : vl ((upL b s).take b.length) = vl b * 2 ^ s := by
  have e := Mj (a := b) (Nat.le_of_lt hs)
  have u := Xw hs ub
  have h2 : vl (upL b s) = vk (upL b s) (b.length + 1) := (Dq (by rw [Kp]; exact Nat.le_refl _)).symm
  rw [Cu] at h2
  have hz : (upL b s).getD b.length 0 = 0 := by
    unfold upL
    rw [List.getD_eq_getElem?_getD, List.getElem?_append_right (by rw [E5]; exact Nat.le_refl _), E5, Nat.sub_self]
    show (upN b s b.length).2 = 0
    obtain ⟨m, hm⟩ : ∃ m, b.length = m + 1 := ⟨b.length - 1, by have := List.length_pos_iff.2 hb; omega⟩
    rw [hm] at h ⊢
    rw [Nat.add_sub_cancel] at h
    show hiS (b.getD m 0) s = 0
    have hh := lohi (x := b.getD m 0) (Nat.le_of_lt hs)
    have lb := @L7 (b.getD m 0) s
    have hb' := Lh (Nat.le_of_lt hs) (A2 ub m).1 (A2 ub m).2
    omega
  rw [hz, Int.mul_zero, Int.add_zero] at h2
  show vk (upL b s) b.length = _
  rw [← h2, e]
theorem Kn.fin {a b v U Q : List Int} {N s : Nat} (h : Kn (vl a * 2 ^ s) v N 0 U Q) (hs : s < 64) (hv : vl v = vl b * 2 ^ s) (hb : 0 < vl b) (ua : Az a) (uv : Az v) (hl : v.length ≤ N) :
    trm Q = lm (vl a / vl b) ∧ vl (U.take v.length) = 2 ^ s * (vl a % vl b) ∧ trm (dnN (U.take v.length) s (U.take v.length).length) = lm (vl a % vl b) := by
  have hval := h.val
  have hlt := h.lt
  have u0 := Bf h.uu
  have hp := Fs s
  simp only [pB, Int.one_mul, Int.mul_one] at hval hlt
  rw [hv] at hval hlt
  have eU : vl U = (vl a - vl b * vl Q) * 2 ^ s := by
    rw [Int.sub_mul]
    have : vl b * 2 ^ s * vl Q = vl b * vl Q * 2 ^ s := Int.mul_right_comm _ _ _
    omega
  generalize hT : vl a - vl b * vl Q = T at *
  have hT0 : 0 ≤ T := by
    rcases Int.lt_or_le T 0 with h | h
    · exfalso
      have := Int.mul_neg_of_neg_of_pos h hp
      omega
    · exact h
  have hT1 : T < vl b := by
    rcases Int.lt_or_le T (vl b) with h | h
    · exact h
    · exfalso
      have h1 : vl b * 2 ^ s ≤ T * 2 ^ s := Int.mul_le_mul_of_nonneg_right h (by omega)
      omega
  have hA : vl a = T + vl b * vl Q := by omega
  have e1 : vl a / vl b = vl Q := by rw [hA, Int.add_mul_ediv_left _ _ (by omega), Int.ediv_eq_zero_of_lt hT0 hT1]; omega
  have e2 : vl a % vl b = T := by rw [hA, Int.add_mul_emod_self_left, Int.emod_eq_of_lt hT0 hT1]
  have e3 : vl (U.take v.length) = 2 ^ s * T := by
    obtain ⟨r, r0, hr⟩ := Tl h.uu v.length
    have vlt := E4 uv
    rw [hv] at vlt
    have c0 := It h.uu v.length
    show vk U v.length = _
    have hr1 : r = 0 := by
      rcases Int.lt_or_le 0 r with h | h
      · exfalso
        have : pB v.length * 1 ≤ pB v.length * r := Int.mul_le_mul_of_nonneg_left (by omega) (Int.le_of_lt (Dd _))
        omega
      · omega
    rw [hr1, Int.mul_zero, Int.add_zero] at hr
    rw [← hr, eU, Int.mul_comm]
  refine ⟨Fv h.uq e1.symm, by rw [e2]; exact e3, ?_⟩
  rw [e2]
  exact Fv (Wm (Nat.le_of_lt hs) (Ep h.uu _) _) (dn_end (Nat.le_of_lt hs) e3)


def qn (v w : Int) : Int := (v.natAbs : Int) / w.natAbs
def rn (v w : Int) : Int := (v.natAbs : Int) % w.natAbs
def ng (v w : Int) : Bool := !(decide (v < 0) == decide (w < 0))
def sgd (s : Bool) (m : Int) : Int := if s = true then -m else m
theorem E9 {v w : Int} (hw : w ≠ 0) : (v.natAbs : Int) = rn v w + w.natAbs * qn v w ∧ 0 ≤ rn v w ∧ rn v w < w.natAbs ∧ 0 ≤ qn v w := by
  have h0 : (0 : Int) < w.natAbs := by omega
  have e := Int.emod_add_mul_ediv (v.natAbs : Int) w.natAbs
  exact ⟨e.symm, Int.emod_nonneg _ (by omega), Int.emod_lt_of_pos _ h0, Int.ediv_nonneg (by omega) (by omega)⟩
def gro (k : Nat) (v w : Int) : Bool :=
  match k with
  | 0 => false
  | 1 => ng v w
  | 2 => !ng v w
  | 3 => decide ((w.natAbs : Int) < 2 * rn v w ∨ (2 * rn v w = w.natAbs ∧ qn v w % 2 = 1))
  | _ => decide (v < 0)
def flo (v w : Int) : Int := if ng v w = true then (if rn v w = 0 then -(qn v w) else -(qn v w) - 1) else qn v w
def cei (v w : Int) : Int := if v - flo v w * w = 0 then flo v w else flo v w + 1
def nea (v w : Int) : Int := if (w.natAbs : Int) < 2 * (v - flo v w * w).natAbs ∨ (2 * ((v - flo v w * w).natAbs : Int) = w.natAbs ∧ (flo v w).natAbs % 2 = 1) then flo v w + 1 else flo v w
def wq (k : Nat) (v w : Int) : Int :=
  match k with
  | 0 => if ng v w = true then cei v w else flo v w
  | 1 => flo v w
  | 2 => cei v w
  | 3 => nea v w
  | _ => if w < 0 then cei v w else flo v w
def frs (v w : Int) : Int := sgd (decide (w < 0)) (if ng v w = true ∧ rn v w ≠ 0 then w.natAbs - rn v w else rn v w)
theorem Aei {m w : Int} : m * w = if w < 0 then -(w.natAbs * m) else w.natAbs * m := by
  split
  · rw [show (w.natAbs : Int) = -w by omega, Int.neg_mul, Int.neg_neg, Int.mul_comm]
  · rw [show (w.natAbs : Int) = w by omega, Int.mul_comm]
theorem Nd {v w : Int} (hw : w ≠ 0) : v - flo v w * w = frs v w := by
  obtain ⟨hx, h0, h1, h2⟩ := E9 (v := v) hw
  rw [Aei]
  have e1 : (w.natAbs : Int) * -(qn v w) = -(w.natAbs * qn v w) := Int.mul_neg _ _
  have e2 : (w.natAbs : Int) * (-(qn v w) - 1) = -(w.natAbs * qn v w) - w.natAbs := by rw [Int.mul_sub, Int.mul_one, e1]
  unfold frs flo sgd
  generalize hp : (w.natAbs : Int) * qn v w = p at *
  unfold ng
  by_cases hv : v < 0 <;> by_cases hww : w < 0 <;> by_cases hr : rn v w = 0 <;> simp [hv, hww, hr, e1, e2, hp] <;> omega
theorem Ou {v w : Int} (hw : w ≠ 0) : v - (flo v w + 1) * w = frs v w - w := by
  rw [← Nd hw, Int.add_mul]; omega
theorem Lt {k : Nat} {v w : Int} (hw : w ≠ 0) (h : rn v w = 0 ∨ gro k v w = false) : sgd (ng v w) (qn v w) = wq k v w ∧ sgd (decide (v < 0)) (rn v w) = v - wq k v w * w := by
  obtain ⟨hx, h0, h1, h2⟩ := E9 (v := v) hw
  have f1 := Nd (v := v) hw
  have f2 := Ou (v := v) hw
  have key : (wq k v w = flo v w ∧ (ng v w = true → rn v w = 0)) ∨ (wq k v w = flo v w + 1 ∧ ng v w = true ∧ rn v w ≠ 0) := by
    unfold wq cei nea
    rw [f1]
    unfold frs
    match k with
    | 0 => by_cases hn : ng v w = true <;> by_cases hr : rn v w = 0 <;> by_cases hs : w < 0 <;> simp [hn, hr, hs, sgd] <;> omega
    | 1 => simp only [gro] at h; simp only [true_and]; exact .inl fun hn => h.resolve_right (by rw [hn]; simp)
    | 2 => simp only [gro] at h; by_cases hn : ng v w = true <;> by_cases hr : rn v w = 0 <;> by_cases hs : w < 0 <;> simp [hn, hr, hs, sgd] at h ⊢ <;> omega
    | 3 =>
      simp only [gro] at h
      have hflo : flo v w = if ng v w = true then (if rn v w = 0 then -(qn v w) else -(qn v w) - 1) else qn v w := rfl
      by_cases hn : ng v w = true <;> by_cases hr : rn v w = 0 <;> by_cases hs : w < 0 <;> simp [hn, hr, hs, sgd] at h hflo ⊢ <;> (try rw [hflo]) <;> omega
    | n + 4 =>
      simp only [gro] at h
      by_cases hv : v < 0 <;> by_cases hr : rn v w = 0 <;> by_cases hs : w < 0 <;> simp [ng, hv, hr, hs, sgd] at h ⊢ <;> omega
  rcases key with ⟨e, hk⟩ | ⟨e, hk1, hk2⟩
  · rw [e, f1]
    unfold flo frs sgd at *
    by_cases hn : ng v w = true
    · have hr := hk hn
      simp [hn, hr]
    · have hs : decide (v < 0) = decide (w < 0) := by unfold ng at hn; by_cases hv : v < 0 <;> by_cases hww : w < 0 <;> simp [hv, hww] at hn ⊢
      simp [hn, hs]
  · rw [e, f2]
    have hs : decide (v < 0) = !decide (w < 0) := by unfold ng at hk1; by_cases hv : v < 0 <;> by_cases hww : w < 0 <;> simp [hv, hww] at hk1 ⊢
    unfold flo frs sgd
    rw [hs]
    by_cases hww : w < 0 <;> simp [hk1, hk2, hww] <;> omega
theorem Ji {k : Nat} {v w : Int} (hw : w ≠ 0) (hr : rn v w ≠ 0) (h : gro k v w = true) : sgd (ng v w) (qn v w + 1) = wq k v w ∧ sgd (!decide (v < 0)) (w.natAbs - rn v w) = v - wq k v w * w := by
  obtain ⟨hx, h0, h1, h2⟩ := E9 (v := v) hw
  have f1 := Nd (v := v) hw
  have f2 := Ou (v := v) hw
  have key : (wq k v w = flo v w ∧ ng v w = true) ∨ (wq k v w = flo v w + 1 ∧ ng v w = false) := by
    unfold wq cei nea
    rw [f1]
    unfold frs
    match k with
    | 0 => simp [gro] at h
    | 1 => simp only [gro] at h; simp [h]
    | 2 => simp only [gro] at h; by_cases hn : ng v w = true <;> by_cases hs : w < 0 <;> simp [hn, hr, hs, sgd] at h ⊢ <;> omega
    | 3 =>
      simp only [gro] at h
      have hflo : flo v w = if ng v w = true then (if rn v w = 0 then -(qn v w) else -(qn v w) - 1) else qn v w := rfl
      by_cases hn : ng v w = true <;> by_cases hs : w < 0 <;> simp [hn, hr, hs, sgd] at h hflo ⊢ <;> (try rw [hflo]) <;> omega
    | n + 4 =>
      simp only [gro] at h
      by_cases hv : v < 0 <;> by_cases hs : w < 0 <;> simp [ng, hv, hr, hs, sgd] at h ⊢ <;> omega
  rcases key with ⟨e, hk⟩ | ⟨e, hk⟩
  · rw [e, f1]
    have hs : decide (v < 0) = !decide (w < 0) := by unfold ng at hk; by_cases hv : v < 0 <;> by_cases hww : w < 0 <;> simp [hv, hww] at hk ⊢
    unfold flo frs sgd
    rw [hs]
    by_cases hww : w < 0 <;> simp [hk, hr, hww] <;> omega
  · rw [e, f2]
    have hs : decide (v < 0) = decide (w < 0) := by unfold ng at hk; by_cases hv : v < 0 <;> by_cases hww : w < 0 <;> simp [hv, hww] at hk ⊢
    unfold flo frs sgd
    rw [hs]
    by_cases hww : w < 0 <;> simp [hk, hr, hww] <;> omega
theorem Cc {v w : Int} (h : v.natAbs ≤ w.natAbs) : Aq v ≤ Aq w := S0 h
theorem Yq {v w : Int} : (qn v w).natAbs ≤ v.natAbs := by
  have h : qn v w ≤ v.natAbs := Int.ediv_le_self _ (by omega)
  have h0 : 0 ≤ qn v w := Int.ediv_nonneg (by omega) (by omega)
  omega
theorem Aht {v w : Int} (hw : w ≠ 0) (hr : rn v w ≠ 0) : (qn v w + 1).natAbs ≤ v.natAbs := by
  obtain ⟨hx, h0, h1, h2⟩ := E9 (v := v) hw
  have : 2 * qn v w ≤ w.natAbs * qn v w := Int.mul_le_mul_of_nonneg_right (by omega) h2
  omega
theorem Ms {v w : Int} (hw : w ≠ 0) : (rn v w).natAbs ≤ w.natAbs ∧ ((w.natAbs : Int) - rn v w).natAbs ≤ w.natAbs := by
  obtain ⟨hx, h0, h1, h2⟩ := E9 (v := v) hw
  omega
theorem Fx {s : Bool} {m : Int} : (sgd s m).natAbs = m.natAbs := by unfold sgd; split <;> omega
theorem Aaw {s : Bool} {m : Int} (h : 0 ≤ m) : sv s (lm m) = sgd s m := by unfold sv sgd; rw [S2]; split <;> omega
theorem Qn {v : Int} (h : v ≠ 0) : lm v ≠ [] := fun e => by
  have h1 := S2 v
  rw [e] at h1
  simp [vl] at h1
  omega
theorem Vv {v : Int} : Aq v = 0 ↔ v = 0 := by
  constructor
  · intro h
    rcases Int.lt_trichotomy v 0 with h1 | h1 | h1
    · have := Dy (n := v.natAbs) (by omega); unfold Aq at h; omega
    · exact h1
    · have := Dy (n := v.natAbs) (by omega); unfold Aq at h; omega
  · rintro rfl; rfl
theorem Q8 {k : Nat} {v w : Int} (hw : w ≠ 0) : Aq (wq k v w) ≤ Aq v ∧ Aq (v - wq k v w * w) ≤ Aq w := by
  by_cases hr : rn v w ≠ 0 ∧ gro k v w = true
  · have h := Ji hw hr.1 hr.2
    rw [← h.2, ← h.1]
    exact ⟨Cc (by rw [Fx]; exact Aht hw hr.1), Cc (by rw [Fx]; exact (Ms hw).2)⟩
  · have h := Lt (k := k) hw (by
      by_cases h1 : rn v w = 0
      · exact .inl h1
      · refine .inr ?_
        cases hg : gro k v w
        · rfl
        · exact absurd ⟨h1, hg⟩ hr)
    rw [← h.2, ← h.1]
    exact ⟨Cc (by rw [Fx]; exact Yq), Cc (by rw [Fx]; exact (Ms hw).1)⟩
end Go.Proofs.YtnadmljoefecfaaGreatDoor.Vc
