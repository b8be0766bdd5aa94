/- Made, negated, sized and compared whole numbers answer as the document says, of every input of bulk at most 1048576 Texts joined: Ni, Nj, Ty, Tz, Oa, Nk, Nl, Ob, Wa, Wb, Wc, Wd, We, Wf, Wg. -/
import Derived.Test.YtcdipmjgpimmdaaK3
import Derived.Test.YtcdipmjgpimmdaaRows
/- The document's naturals: digits of 32 bits. Plain Lean. -/
set_option linter.unusedVariables false
set_option linter.unusedSimpArgs false
namespace Go.Proofs.Ytcdipmjgpimmdaa.Vc
open Go Go.RowKit
namespace D
def r32 (l : List Int) : Prop := ∀ x ∈ l, 0 ≤ x ∧ x < 4294967296
def Bs : Int := 4294967296
def vl : List Int → Int
  | [] => 0
  | x :: l => x + Bs * vl l
def pB : Nat → Int
  | 0 => 1
  | k + 1 => Bs * pB k
theorem pB_pos : ∀ k, 0 < pB k
  | 0 => by decide
  | k + 1 => by simp only [pB]; exact Int.mul_pos (by decide) (pB_pos k)
theorem pB_add : ∀ a b, pB (a + b) = pB a * pB b
  | 0, b => by simp [pB]
  | a + 1, b => by rw [show a + 1 + b = (a + b) + 1 by omega]; simp only [pB]; rw [pB_add a b, Int.mul_assoc]
theorem vl_app : ∀ a b : List Int, vl (a ++ b) = vl a + pB a.length * vl b
  | [], b => by simp [vl, pB]
  | x :: a, b => by
    simp only [List.cons_append, vl, List.length_cons, pB]
    rw [vl_app a b, Int.mul_add, Int.mul_assoc, Int.add_assoc]
theorem vl_nonneg : ∀ {l : List Int}, r32 l → 0 ≤ vl l
  | [], _ => Int.le_refl _
  | x :: l, h => by
    have h1 := (h x (List.mem_cons_self ..)).1
    have h2 := vl_nonneg (l := l) fun y hy => h y (List.mem_cons_of_mem _ hy)
    simp only [vl]
    have := Int.mul_nonneg (show (0 : Int) ≤ Bs by decide) h2
    omega
theorem vl_lt : ∀ {l : List Int}, r32 l → vl l < pB l.length
  | [], _ => by decide
  | x :: l, h => by
    have h1 := (h x (List.mem_cons_self ..)).2
    have h2 := vl_lt (l := l) fun y hy => h y (List.mem_cons_of_mem _ hy)
    simp only [vl, List.length_cons, pB]
    have h3 : vl l + 1 ≤ pB l.length := h2
    have h4 := Int.mul_le_mul_of_nonneg_left h3 (show (0 : Int) ≤ Bs by decide)
    rw [Int.mul_add, Int.mul_one] at h4
    have h5 : x < Bs := h1
    omega
def vk (l : List Int) (k : Nat) : Int := vl (l.take k)
theorem vk_0 (l : List Int) : vk l 0 = 0 := by unfold vk; simp [vl]
theorem vk_all {l : List Int} {k : Nat} (h : l.length ≤ k) : vk l k = vl l := by unfold vk; rw [List.take_of_length_le h]
theorem vk_succ (l : List Int) (k : Nat) : vk l (k + 1) = vk l k + pB k * l.getD k 0 := by
  unfold vk
  by_cases h : k < l.length
  · rw [List.take_succ_eq_append_getElem h, vl_app, List.length_take, Nat.min_eq_left (by omega), List.getD_eq_getElem?_getD, List.getElem?_eq_getElem h]
    simp [vl]
  · rw [List.take_of_length_le (by omega), List.take_of_length_le (by omega), getD_ge (by omega)]
    simp
theorem vl_set : ∀ (l : List Int) (j : Nat) (v : Int), j < l.length → vl (l.set j v) = vl l + pB j * (v - l.getD j 0)
  | [], j, v, h => by simp at h
  | x :: l, 0, v, _ => by
    have e : (x :: l).getD 0 0 = x := rfl
    simp only [List.set_cons_zero, vl, pB, e]; omega
  | x :: l, j + 1, v, h => by
    have ih := vl_set l j v (by simpa using h)
    have e : (x :: l).getD (j + 1) 0 = l.getD j 0 := rfl
    simp only [List.set_cons_succ, vl, pB, e]
    rw [ih, Int.mul_add, Int.mul_assoc]; omega
theorem school_in {o o2 b : List Int} {i k : Nat} {c c2 x t s : Int} (hj : i + k < o.length) (ho2 : o2 = o.set (i + k) s) (ht : o.getD (i + k) 0 = t) {V : Int}
    (hv : vl o + c * pB (i + k) = V + x * pB i * vk b k) (hs : s + 4294967296 * c2 = t + x * b.getD k 0 + c) : vl o2 + c2 * pB (i + (k + 1)) = V + x * pB i * vk b (k + 1) := by
  subst ho2
  rw [vl_set _ _ _ hj, ht, vk_succ, show i + (k + 1) = (i + k) + 1 by omega]
  simp only [pB]
  have hB : Bs = 4294967296 := rfl
  have e1 : c2 * (Bs * pB (i + k)) = pB (i + k) * (4294967296 * c2) := by rw [hB, ← Int.mul_assoc, Int.mul_comm (c2 * 4294967296), Int.mul_comm c2]
  have e2 : x * pB i * (vk b k + pB k * b.getD k 0) = x * pB i * vk b k + pB (i + k) * (x * b.getD k 0) := by
    rw [Int.mul_add, pB_add]
    congr 1
    rw [Int.mul_assoc, Int.mul_left_comm (pB i * pB k), Int.mul_assoc (pB i)]
  have e3 : pB (i + k) * (s - t) + pB (i + k) * (4294967296 * c2) = pB (i + k) * (x * b.getD k 0) + pB (i + k) * c := by
    rw [← Int.mul_add, ← Int.mul_add]; congr 1; omega
  rw [e1, e2]
  have e4 : c * pB (i + k) = pB (i + k) * c := Int.mul_comm _ _
  omega
theorem school_row {o o2 a b : List Int} {i : Nat} {c : Int} (hj : i + b.length < o.length) (h0 : o.getD (i + b.length) 0 = 0) (ho2 : o2 = o.set (i + b.length) c)
    (hv : vl o + c * pB (i + b.length) = vk a i * vl b + a.getD i 0 * pB i * vk b b.length) : vl o2 = vk a (i + 1) * vl b := by
  subst ho2
  rw [vl_set _ _ _ hj, h0, vk_succ, Int.add_mul]
  rw [vk_all (Nat.le_refl _)] at hv
  have e : pB i * a.getD i 0 * vl b = a.getD i 0 * pB i * vl b := by rw [Int.mul_comm (pB i)]
  have e4 : c * pB (i + b.length) = pB (i + b.length) * c := Int.mul_comm _ _
  rw [e, Int.sub_zero]
  omega
end D
theorem vb_D : ∀ l, vb 4294967296 l = D.vl l
  | [] => rfl
  | x :: l => by simp only [vb, D.vl, vb_D l]; rfl
theorem rng_getD {b : Nat} (hb : 0 < b) {l : List Int} (h : rng b l) (i : Nat) : 0 ≤ l.getD i 0 ∧ l.getD i 0 < (b : Int) := by
  by_cases hi : i < l.length
  · rw [List.getD_eq_getElem?_getD, List.getElem?_eq_getElem hi]; exact h _ (List.getElem_mem hi)
  · rw [List.getD_eq_getElem?_getD, List.getElem?_eq_none (by omega)]; exact ⟨Int.le_refl _, by show (0 : Int) < b; omega⟩
theorem rng_set {b : Nat} {l : List Int} {j : Nat} {v : Int} (h : rng b l) (h0 : 0 ≤ v) (h1 : v < (b : Int)) : rng b (l.set j v) := fun x hx => by
  rcases List.mem_or_eq_of_mem_set hx with hx | hx
  · exact h x hx
  · subst hx; exact ⟨h0, h1⟩
theorem digs_at {b : Nat} (hb : 2 ≤ b) : ∀ (i n : Nat), (digs b n).getD i 0 = ((n / b ^ i % b : Nat) : Int)
  | 0, n => by
    by_cases h : n = 0
    · subst h; rw [digs_0]; simp
    · rw [digs_pos hb h]; simp
  | i + 1, n => by
    by_cases h : n = 0
    · subst h; rw [digs_0]; simp
    · rw [digs_pos hb h, List.getD_cons_succ, digs_at hb i (n / b), Nat.div_div_eq_div_mul, Nat.pow_succ, Nat.mul_comm b]
theorem lt_digs {b : Nat} (hb : 2 ≤ b) (n : Nat) : n < b ^ (digs b n).length := by
  induction n using Nat.strongRecOn with
  | _ n ih =>
    by_cases h : n = 0
    · subst h; rw [digs_0]; simp
    · rw [digs_pos hb h, List.length_cons, Nat.pow_succ, Nat.mul_comm]
      have h1 := ih (n / b) (Nat.div_lt_self (by omega) (by omega))
      have h2 : b * (n / b + 1) ≤ b * b ^ (digs b (n / b)).length := Nat.mul_le_mul_left _ h1
      have h3 := Nat.mod_lt n (show 0 < b by omega)
      have h4 := Nat.mod_add_div n b
      rw [Nat.mul_add, Nat.mul_one] at h2
      omega
abbrev B32 : Nat := 4294967296
def dgt (z j : Nat) : Int := ((z / B32 ^ j % B32 : Nat) : Int)
def dvl (z m : Nat) : List Int := (List.range m).map (dgt z)
theorem dvl_len (z m : Nat) : (dvl z m).length = m := by simp [dvl]
theorem dvl_succ (z m : Nat) : dvl z (m + 1) = dvl z m ++ [dgt z m] := by simp [dvl, List.range_succ]
theorem vb_snoc (b : Nat) : ∀ (l : List Int) (x : Int), vb b (l ++ [x]) = vb b l + ((b ^ l.length : Nat) : Int) * x
  | [], x => by simp [vb]
  | y :: l, x => by
    simp only [List.cons_append, vb, vb_snoc b l x, List.length_cons]
    rw [Int.mul_add, Nat.pow_succ, Int.natCast_mul, Int.mul_comm ((b ^ l.length : Nat) : Int) (b : Int), Int.mul_assoc, Int.add_assoc]
theorem vb_dvl (z : Nat) : ∀ m, vb B32 (dvl z m) = ((z % B32 ^ m : Nat) : Int)
  | 0 => by simp [dvl, vb, Nat.mod_one]
  | m + 1 => by
    rw [dvl_succ, vb_snoc, vb_dvl z m, dvl_len, Nat.mod_pow_succ]
    unfold dgt
    rw [Int.natCast_add, Int.natCast_mul]
theorem dgt_rng (z j : Nat) : 0 ≤ dgt z j ∧ dgt z j < 4294967296 := by
  unfold dgt
  have := Nat.mod_lt (z / B32 ^ j) (show 0 < B32 by decide)
  have h : B32 = 4294967296 := rfl
  omega
theorem dvl_rng (z m : Nat) : rng B32 (dvl z m) := fun x hx => by
  obtain ⟨j, _, rfl⟩ := List.mem_map.1 hx
  exact dgt_rng z j
theorem trm_dvl {z m : Nat} (h : z < B32 ^ m) : trm (dvl z m) = digs B32 z := trm_digs (by decide) (dvl_rng z m) (by rw [vb_dvl, Nat.mod_eq_of_lt h])
theorem fill_dvl {z i n : Nat} (h : i < n) : (fillI (dvl z i) n).set ((0 + i) * 1) (dgt z i) = fillI (dvl z (i + 1)) n := by
  have := fillI_set (l := dvl z i) (n := n) (v := dgt z i) (by rw [dvl_len]; exact h)
  rw [dvl_len] at this
  rw [Nat.zero_add, Nat.mul_one, this, ← dvl_succ]
/-- The carry into a digit of a sum. -/
def cry (x y i : Nat) : Nat := (x % B32 ^ i + y % B32 ^ i) / B32 ^ i
theorem cry_le (x y i : Nat) : cry x y i ≤ 1 := by
  unfold cry
  have h := Nat.pow_pos (n := i) (show 0 < B32 by decide)
  have h1 := Nat.mod_lt x h
  have h2 := Nat.mod_lt y h
  have : (x % B32 ^ i + y % B32 ^ i) / B32 ^ i < 2 := Nat.div_lt_of_lt_mul (by omega)
  omega
theorem add_digit (x y i : Nat) : (x / B32 ^ i % B32 + y / B32 ^ i % B32 + cry x y i) % B32 = (x + y) / B32 ^ i % B32 ∧ (x / B32 ^ i % B32 + y / B32 ^ i % B32 + cry x y i) / B32 = cry x y (i + 1) := by
  have h := Nat.pow_pos (n := i) (show 0 < B32 by decide)
  constructor
  · have e : (x + y) / B32 ^ i = cry x y i + (x / B32 ^ i + y / B32 ^ i) := by
      have h1 := Nat.mod_add_div x (B32 ^ i)
      have h2 := Nat.mod_add_div y (B32 ^ i)
      unfold cry
      rw [← Nat.add_mul_div_left _ _ h, Nat.mul_add]
      congr 1
      omega
    rw [e, Nat.add_comm (cry x y i), Nat.add_mod, Nat.add_mod (x / B32 ^ i + y / B32 ^ i), Nat.add_mod (x / B32 ^ i) (y / B32 ^ i)]
  · unfold cry
    rw [Nat.mod_pow_succ, Nat.mod_pow_succ, Nat.pow_succ, ← Nat.div_div_eq_div_mul]
    congr 1
    rw [show x % B32 ^ i + B32 ^ i * (x / B32 ^ i % B32) + (y % B32 ^ i + B32 ^ i * (y / B32 ^ i % B32)) = (x % B32 ^ i + y % B32 ^ i) + B32 ^ i * (x / B32 ^ i % B32 + y / B32 ^ i % B32) by rw [Nat.mul_add]; omega, Nat.add_mul_div_left _ _ h]
    omega
/-- The borrow into a digit of a difference. -/
def brw (x y i : Nat) : Nat := if x % B32 ^ i < y % B32 ^ i then 1 else 0
theorem brw_le (x y i : Nat) : brw x y i ≤ 1 := by unfold brw; split <;> omega
theorem sub_digit {x y : Nat} (hle : y ≤ x) (i : Nat) : (x / B32 ^ i % B32 + B32 - y / B32 ^ i % B32 - brw x y i) % B32 = (x - y) / B32 ^ i % B32 ∧ 1 - (x / B32 ^ i % B32 + B32 - y / B32 ^ i % B32 - brw x y i) / B32 = brw x y (i + 1) := by
  have h := Nat.pow_pos (n := i) (show 0 < B32 by decide)
  have hb := brw_le x y i
  have m1 := Nat.mod_lt (x / B32 ^ i) (show 0 < B32 by decide)
  have m2 := Nat.mod_lt (y / B32 ^ i) (show 0 < B32 by decide)
  have B : B32 = 4294967296 := rfl
  constructor
  · have e : (x - y) / B32 ^ i = x / B32 ^ i - y / B32 ^ i - brw x y i ∧ y / B32 ^ i + brw x y i ≤ x / B32 ^ i := by
      have h1 := Nat.mod_add_div x (B32 ^ i)
      have h2 := Nat.mod_add_div y (B32 ^ i)
      have h3 := Nat.mod_lt x h
      have h4 := Nat.mod_lt y h
      generalize hX : x / B32 ^ i = X at *
      generalize hY : y / B32 ^ i = Y at *
      have hYX : Y ≤ X := by rw [← hX, ← hY]; exact Nat.div_le_div_right hle
      unfold brw
      clear hX hY m1 m2
      generalize x % B32 ^ i = p at *
      generalize y % B32 ^ i = q at *
      generalize B32 ^ i = P at *
      by_cases hc : p < q
      · rw [if_pos hc]
        have hlt : Y < X := by
          rcases Nat.lt_or_ge Y X with h5 | h5
          · exact h5
          · have : X = Y := by omega
            subst this; omega
        refine ⟨?_, by omega⟩
        have e2 : x - y = (p + P - q) + P * (X - Y - 1) := by
          obtain ⟨d, rfl⟩ : ∃ d, X = Y + 1 + d := ⟨X - Y - 1, by omega⟩
          rw [show Y + 1 + d - Y - 1 = d by omega]
          rw [Nat.mul_add, Nat.mul_add, Nat.mul_one] at h1
          omega
        rw [e2, Nat.add_mul_div_left _ _ h, Nat.div_eq_of_lt (by omega)]
        omega
      · rw [if_neg hc]
        refine ⟨?_, by omega⟩
        have e2 : x - y = (p - q) + P * (X - Y) := by
          obtain ⟨d, rfl⟩ : ∃ d, X = Y + d := ⟨X - Y, by omega⟩
          rw [show Y + d - Y = d by omega]
          rw [Nat.mul_add] at h1
          omega
        rw [e2, Nat.add_mul_div_left _ _ h, Nat.div_eq_of_lt (by omega)]
        omega
    obtain ⟨e1, e2⟩ := e
    rw [e1]
    generalize x / B32 ^ i = X at *
    generalize y / B32 ^ i = Y at *
    generalize brw x y i = c at *
    show (X % 4294967296 + 4294967296 - Y % 4294967296 - c) % 4294967296 = (X - Y - c) % 4294967296
    omega
  · have e1 := Nat.mod_pow_succ (x := x) (b := B32) (k := i)
    have e2 := Nat.mod_pow_succ (x := y) (b := B32) (k := i)
    have h3 := Nat.mod_lt x h
    have h4 := Nat.mod_lt y h
    have hA : x % B32 ^ (i + 1) < y % B32 ^ (i + 1) ↔ x / B32 ^ i % B32 < y / B32 ^ i % B32 + brw x y i := by
      rw [e1, e2]
      have hbr : brw x y i = if x % B32 ^ i < y % B32 ^ i then 1 else 0 := rfl
      generalize x / B32 ^ i % B32 = dx at *
      generalize y / B32 ^ i % B32 = dy at *
      generalize brw x y i = c at *
      generalize x % B32 ^ i = p at *
      generalize y % B32 ^ i = q at *
      generalize B32 ^ i = P at *
      rcases Nat.lt_trichotomy dx dy with hd | hd | hd
      · have h5 : P * (dx + 1) ≤ P * dy := Nat.mul_le_mul_left _ hd
        rw [Nat.mul_add, Nat.mul_one] at h5
        constructor
        · intro _; omega
        · intro _; omega
      · subst hd
        by_cases hc : p < q
        · rw [if_pos hc] at hbr; constructor
          · intro _; omega
          · intro _; omega
        · rw [if_neg hc] at hbr; constructor
          · intro _; omega
          · intro _; omega
      · have h5 : P * (dy + 1) ≤ P * dx := Nat.mul_le_mul_left _ hd
        rw [Nat.mul_add, Nat.mul_one] at h5
        constructor
        · intro _; omega
        · intro _; omega
    have hgo : brw x y (i + 1) = if x / B32 ^ i % B32 < y / B32 ^ i % B32 + brw x y i then 1 else 0 := by
      by_cases h : x / B32 ^ i % B32 < y / B32 ^ i % B32 + brw x y i
      · rw [if_pos h]; exact if_pos (hA.2 h)
      · rw [if_neg h]; exact if_neg (fun h' => h (hA.1 h'))
    rw [hgo]
    generalize x / B32 ^ i % B32 = dx at *
    generalize y / B32 ^ i % B32 = dy at *
    generalize brw x y i = c at *
    have m1' : dx < 4294967296 := m1
    have m2' : dy < 4294967296 := m2
    show 1 - (dx + 4294967296 - dy - c) / 4294967296 = _
    split <;> omega
theorem cmpN_cons {x y : Int} {a b : List Int} : ∀ k, cmpN (x :: a) (y :: b) (k + 1) = if cmpN a b k = 0 then (if x < y then -1 else if y < x then 1 else 0) else cmpN a b k
  | 0 => by simp [cmpN]
  | k + 1 => by
    have ih := cmpN_cons (x := x) (y := y) (a := a) (b := b) k
    have e1 : cmpN (x :: a) (y :: b) (k + 1 + 1) = if a.getD k 0 < b.getD k 0 then -1 else if b.getD k 0 < a.getD k 0 then 1 else cmpN (x :: a) (y :: b) (k + 1) := rfl
    have e2 : cmpN a b (k + 1) = if a.getD k 0 < b.getD k 0 then -1 else if b.getD k 0 < a.getD k 0 then 1 else cmpN a b k := rfl
    rw [e1, e2, ih]
    by_cases h1 : a.getD k 0 < b.getD k 0
    · rw [if_pos h1, if_pos h1, if_neg (by decide)]
    · rw [if_neg h1, if_neg h1]
      by_cases h2 : b.getD k 0 < a.getD k 0
      · rw [if_pos h2, if_pos h2, if_neg (by decide)]
      · rw [if_neg h2, if_neg h2]
theorem digs_mono {b : Nat} (hb : 2 ≤ b) (x : Nat) : ∀ y, x ≤ y → (digs b x).length ≤ (digs b y).length := by
  induction x using Nat.strongRecOn with
  | _ x ih =>
    intro y hxy
    by_cases h : x = 0
    · subst h; rw [digs_0]; exact Nat.zero_le _
    · rw [digs_pos hb h, digs_pos hb (by omega : y ≠ 0), List.length_cons, List.length_cons]
      have := ih (x / b) (Nat.div_lt_self (by omega) (by omega)) (y / b) (Nat.div_le_div_right hxy)
      omega
theorem cmpN_digs {b : Nat} (hb : 2 ≤ b) (x : Nat) : ∀ y, (digs b x).length = (digs b y).length → cmpN (digs b x) (digs b y) (digs b x).length = cmpI x y := by
  induction x using Nat.strongRecOn with
  | _ x ih =>
    intro y hl
    by_cases h : x = 0
    · subst h
      rw [digs_0] at hl ⊢
      have hy : y = 0 := by
        rcases Nat.eq_zero_or_pos y with h | h
        · exact h
        · rw [digs_pos hb (by omega)] at hl; simp at hl
      subst hy; rfl
    · have hy : y ≠ 0 := by
        intro e; subst e
        rw [digs_0, digs_pos hb h] at hl; simp at hl
      rw [digs_pos hb h, digs_pos hb hy] at hl ⊢
      have hl' : (digs b (x / b)).length = (digs b (y / b)).length := by simpa using hl
      rw [List.length_cons, cmpN_cons, ih (x / b) (Nat.div_lt_self (by omega) (by omega)) (y / b) hl']
      have e1 := Nat.mod_add_div x b
      have e2 := Nat.mod_add_div y b
      have m1 := Nat.mod_lt x (show 0 < b by omega)
      have m2 := Nat.mod_lt y (show 0 < b by omega)
      generalize x / b = X at *
      generalize y / b = Y at *
      rcases Nat.lt_trichotomy X Y with hd | hd | hd
      · have h5 : b * (X + 1) ≤ b * Y := Nat.mul_le_mul_left _ hd
        rw [Nat.mul_add, Nat.mul_one] at h5
        have c1 : cmpI X Y = -1 := if_pos (by omega)
        have c2 : cmpI x y = -1 := if_pos (by omega)
        rw [c1, c2]; rfl
      · subst hd
        have c1 : cmpI X X = 0 := cmpI_0.2 rfl
        rw [c1, if_pos rfl]
        rcases Nat.lt_trichotomy (x % b) (y % b) with g1 | g1 | g1
        · have q1 : ((x % b : Nat) : Int) < ((y % b : Nat) : Int) := Int.ofNat_lt.2 g1
          have c2 : cmpI x y = -1 := if_pos (by omega)
          rw [if_pos q1, c2]
        · have c2 : cmpI x y = 0 := cmpI_0.2 (by omega)
          rw [g1, if_neg (Int.lt_irrefl _), if_neg (Int.lt_irrefl _), c2]
        · have q1 : ((y % b : Nat) : Int) < ((x % b : Nat) : Int) := Int.ofNat_lt.2 g1
          have c2 : cmpI x y = 1 := by
            have n1 : ¬ ((x : Nat) : Int) < y := by omega
            have n2 : ((y : Nat) : Int) < x := by omega
            unfold cmpI; rw [if_neg n1, if_pos n2]
          rw [if_neg (Int.lt_asymm q1), if_pos q1, c2]
      · have h5 : b * (Y + 1) ≤ b * X := Nat.mul_le_mul_left _ hd
        rw [Nat.mul_add, Nat.mul_one] at h5
        have c1 : cmpI X Y = 1 := by unfold cmpI; rw [if_neg (by omega), if_pos (by omega)]
        have c2 : cmpI x y = 1 := by unfold cmpI; rw [if_neg (by omega), if_pos (by omega)]
        rw [c1, c2]; rfl
theorem cry_0 (x y : Nat) : cry x y 0 = 0 := by unfold cry; rw [Nat.pow_zero, Nat.mod_one, Nat.mod_one]
theorem brw_0 (x y : Nat) : brw x y 0 = 0 := by unfold brw; rw [Nat.pow_zero, Nat.mod_one, Nat.mod_one]; rfl
theorem dvl_start {z n : Nat} : List.replicate n (0 : Int) = fillI (dvl z 0) n := by simp [fillI, dvl]
theorem fill_len {z i n : Nat} (h : i ≤ n) : (fillI (dvl z i) n).length = n := fillI_len (by rw [dvl_len]; exact h)
theorem fill_all {z n : Nat} : fillI (dvl z n) n = dvl z n := fillI_full (dvl_len z n)
theorem dvl_u (z m : Nat) : u64s (dvl z m) := fun x hx => by have h : 0 ≤ x ∧ x < 4294967296 := dvl_rng z m x hx; omega
theorem sum_lt {x y n : Nat} (hx : (digs B32 x).length ≤ n) (hy : (digs B32 y).length ≤ n) : x + y < B32 ^ (n + 1) := by
  have h1 := Nat.lt_of_lt_of_le (lt_digs (b := B32) (by decide) x) (Nat.pow_le_pow_right (by decide) hx)
  have h2 := Nat.lt_of_lt_of_le (lt_digs (b := B32) (by decide) y) (Nat.pow_le_pow_right (by decide) hy)
  rw [Nat.pow_succ]
  have : 2 * B32 ^ n ≤ B32 ^ n * B32 := by rw [Nat.mul_comm]; exact Nat.mul_le_mul_left _ (by decide)
  omega
theorem dif_lt {x y : Nat} : x - y < B32 ^ (digs B32 x).length := Nat.lt_of_le_of_lt (Nat.sub_le x y) (lt_digs (by decide) x)
/-- Comparing canonical lists compares the numbers. -/
theorem cmpL_digs {b : Nat} (hb : 2 ≤ b) (x y : Nat) : cmpL (digs b x) (digs b y) = cmpI x y := by
  unfold cmpL
  by_cases h1 : (digs b x).length < (digs b y).length
  · rw [if_pos h1]
    have : x < y := by
      rcases Nat.lt_or_ge x y with h | h
      · exact h
      · have := digs_mono hb y x h; omega
    exact (if_pos (by omega)).symm
  · rw [if_neg h1]
    by_cases h2 : (digs b y).length < (digs b x).length
    · rw [if_pos h2]
      have : y < x := by
        rcases Nat.lt_or_ge y x with h | h
        · exact h
        · have := digs_mono hb x y h; omega
      unfold cmpI; rw [if_neg (by omega), if_pos (by omega)]
    · rw [if_neg h2]
      exact cmpN_digs hb x y (by omega)
end Go.Proofs.Ytcdipmjgpimmdaa.Vc

/- The document's numbers with a sign. Plain Lean. -/
set_option linter.unusedVariables false
set_option linter.unusedSimpArgs false
namespace Go.Proofs.Ytcdipmjgpimmdaa.Vc
open Go Go.RowKit
def zs (s : Bool) (n : Nat) : Int := if s = true then -(n : Int) else n
theorem zs_abs {s : Bool} {n : Nat} : (zs s n).natAbs = n := by unfold zs; split <;> omega
theorem dg_zs {s : Bool} {n : Nat} : dg (zs s n) = digs B32 n := by unfold dg; rw [zs_abs]
theorem digs_nil {n : Nat} : digs B32 n = [] ↔ n = 0 := by
  constructor
  · intro h
    rcases Nat.eq_zero_or_pos n with h0 | h0
    · exact h0
    · rw [digs_pos (by decide) (by omega)] at h; simp at h
  · rintro rfl; exact digs_0
theorem mk_zs {s : Bool} {n : Nat} : (s && decide (digs B32 n ≠ [])) = decide (zs s n < 0) := by
  have h := digs_nil (n := n)
  unfold zs
  by_cases h0 : n = 0
  · subst h0
    rw [h.2 rfl]; simp
  · have h1 : digs B32 n ≠ [] := fun e => h0 (h.1 e)
    rw [decide_eq_true h1, Bool.and_true]
    cases s <;> simp <;> omega
theorem zadd_same {x y : Int} (h : (decide (x < 0) == decide (y < 0)) = true) : zs (decide (x < 0)) (x.natAbs + y.natAbs) = x + y := by
  have h : decide (x < 0) = decide (y < 0) := by simpa using h
  unfold zs
  by_cases hx : x < 0
  · have hy : y < 0 := of_decide_eq_true (h ▸ decide_eq_true hx)
    rw [if_pos (decide_eq_true hx)]; omega
  · have hy : ¬ y < 0 := of_decide_eq_false (h ▸ decide_eq_false hx)
    rw [if_neg (by rw [decide_eq_false hx]; decide)]; omega
theorem zadd_ge {x y : Int} (h : (decide (x < 0) == decide (y < 0)) = false) (hc : 0 ≤ cmpI (x.natAbs : Int) y.natAbs) : zs (decide (x < 0)) (x.natAbs - y.natAbs) = x + y := by
  have h : ¬ decide (x < 0) = decide (y < 0) := by simpa using h
  have hle : y.natAbs ≤ x.natAbs := by
    rcases Nat.lt_or_ge x.natAbs y.natAbs with h1 | h1
    · have : cmpI (x.natAbs : Int) y.natAbs = -1 := if_pos (by omega)
      omega
    · exact h1
  unfold zs
  by_cases hx : x < 0
  · have hy : ¬ y < 0 := fun hy => h (by rw [decide_eq_true hx, decide_eq_true hy])
    rw [if_pos (decide_eq_true hx)]; omega
  · have hy : y < 0 := Classical.byContradiction fun hy => h (by rw [decide_eq_false hx, decide_eq_false hy])
    rw [if_neg (by rw [decide_eq_false hx]; decide)]; omega
theorem zadd_lt {x y : Int} (h : (decide (x < 0) == decide (y < 0)) = false) (hc : ¬ 0 ≤ cmpI (x.natAbs : Int) y.natAbs) : zs (decide (y < 0)) (y.natAbs - x.natAbs) = x + y := by
  have h : ¬ decide (x < 0) = decide (y < 0) := by simpa using h
  have hle : x.natAbs < y.natAbs := by
    rcases Nat.lt_or_ge x.natAbs y.natAbs with h1 | h1
    · exact h1
    · exfalso; apply hc; unfold cmpI; rw [if_neg (by omega)]; split <;> decide
  unfold zs
  by_cases hx : x < 0
  · have hy : ¬ y < 0 := fun hy => h (by rw [decide_eq_true hx, decide_eq_true hy])
    rw [if_neg (by rw [decide_eq_false hy]; decide)]; omega
  · have hy : y < 0 := Classical.byContradiction fun hy => h (by rw [decide_eq_false hx, decide_eq_false hy])
    rw [if_pos (decide_eq_true hy)]; omega
theorem cmp_le {x y : Nat} (hc : 0 ≤ cmpI (x : Int) y) : y ≤ x := by
  rcases Nat.lt_or_ge x y with h1 | h1
  · have : cmpI (x : Int) y = -1 := if_pos (by omega)
    omega
  · exact h1
theorem cmp_gt {x y : Nat} (hc : ¬ 0 ≤ cmpI (x : Int) y) : x ≤ y := by
  rcases Nat.lt_or_ge x y with h1 | h1
  · omega
  · exfalso; apply hc; unfold cmpI; rw [if_neg (by omega)]; split <;> decide
theorem zneg {x : Int} : zs (!decide (x < 0)) x.natAbs = -x := by
  unfold zs
  by_cases hx : x < 0
  · rw [decide_eq_true hx]; simp; omega
  · rw [decide_eq_false hx]; simp; omega
theorem zmul {x y : Int} : zs (!(decide (x < 0) == decide (y < 0))) (x.natAbs * y.natAbs) = x * y := by
  have e := Int.natAbs_mul x y
  rw [← e]
  unfold zs
  by_cases hx : x < 0
  · by_cases hy : y < 0
    · rw [decide_eq_true hx, decide_eq_true hy]
      have := Int.mul_pos_of_neg_of_neg hx hy
      simp; omega
    · rw [decide_eq_true hx, decide_eq_false hy]
      have := Int.mul_nonpos_of_nonpos_of_nonneg (Int.le_of_lt hx) (show 0 ≤ y by omega)
      simp; omega
  · by_cases hy : y < 0
    · rw [decide_eq_false hx, decide_eq_true hy]
      have := Int.mul_nonpos_of_nonneg_of_nonpos (show 0 ≤ x by omega) (Int.le_of_lt hy)
      simp; omega
    · rw [decide_eq_false hx, decide_eq_false hy]
      have := Int.mul_nonneg (show 0 ≤ x by omega) (show 0 ≤ y by omega)
      simp; omega
theorem abs_neg {v : Int} : decide (((v.natAbs : Nat) : Int) < 0) = false := decide_eq_false (by omega)
theorem dg_abs {v : Int} : dg ((v.natAbs : Nat) : Int) = dg v := by unfold dg; rw [Int.natAbs_natCast]
theorem cmp_abs_pos {x y : Int} (hx : ¬ x < 0) (hy : ¬ y < 0) : cmpI (x.natAbs : Int) y.natAbs = cmpI x y := by
  rw [show (x.natAbs : Int) = x by omega, show (y.natAbs : Int) = y by omega]
theorem cmp_abs_neg {x y : Int} (hx : x < 0) (hy : y < 0) : -(cmpI (x.natAbs : Int) y.natAbs) = cmpI x y := by
  rw [show (x.natAbs : Int) = -x by omega, show (y.natAbs : Int) = -y by omega]
  unfold cmpI
  rcases Int.lt_trichotomy x y with h | h | h
  · have a1 : ¬ -x < -y := by omega
    have a2 : -y < -x := by omega
    rw [if_neg a1, if_pos a2, if_pos h]
  · subst h; simp
  · have a1 : -x < -y := by omega
    have a2 : ¬ x < y := by omega
    rw [if_pos a1, if_neg a2, if_pos h]; rfl
theorem sgn_cases {x : Int} : (x < 0 ∧ sgnI x = -1) ∨ (x = 0 ∧ sgnI x = 0) ∨ (0 < x ∧ sgnI x = 1) := by
  unfold sgnI
  rcases Int.lt_trichotomy x 0 with h | h | h
  · exact .inl ⟨h, by rw [if_neg (by omega), if_pos h]⟩
  · exact .inr (.inl ⟨h, by rw [if_pos h]⟩)
  · exact .inr (.inr ⟨h, by rw [if_neg (by omega), if_neg (by omega)]⟩)
theorem dg_lenv {v : Int} : ((dg v).length : Int) = 0 ↔ v = 0 := by
  constructor
  · intro h; exact dg_nil.1 (List.eq_nil_of_length_eq_zero (by omega))
  · intro h; rw [dg_nil.2 h]; rfl
end Go.Proofs.Ytcdipmjgpimmdaa.Vc

/- What is fixed about the types: sizes, parts, zeros. -/
namespace Go.Proofs.Ytcdipmjgpimmdaa.Vc
open Go Go.RowKit
theorem mixed : Try.prog.follows .mixedOrders = true := by kernel_rfl
theorem sl28 : slB Try.prog 28 82 1 = true := by kernel_rfl
theorem one82 : oneB Try.prog 82 = true := by kernel_rfl
theorem undS28 : Try.prog.underlying 28 = some (.slice 82) := by kernel_rfl
theorem el28 : elP Try.prog 28 82 1 8 (.int .u64 0) := elP_of undS28 (by kernel_rfl) rfl (by decide)
theorem und9 : Try.prog.underlying 9 = some .string := by kernel_rfl
theorem und82 : Try.prog.underlying 82 = some (.int .u64) := by kernel_rfl
theorem und5 : Try.prog.underlying 5 = some (.int .u8) := by kernel_rfl
theorem und3 : Try.prog.underlying 3 = some (.int .i64) := by kernel_rfl
theorem sl33 : slB Try.prog 33 82 1 = true := by kernel_rfl
theorem zero35 : ((Try.prog.info? 35).bind (·.zero)).map (·.cells.toList) = some [(.bool false), (.slice none 0 0)] := by kernel_rfl
theorem pls35_0_1 : plsB Try.prog 35 [0, 1] [(0, 1), (1, 1)] = true := by kernel_rfl
theorem siz35 : (Try.prog.info? 35).any (·.size == 2) = true := by kernel_rfl
theorem agg35 : aggB Try.prog 35 2 = true := by kernel_rfl
theorem sl25 : slB Try.prog 25 82 1 = true := by kernel_rfl
theorem undS33 : Try.prog.underlying 33 = some (.slice 82) := by kernel_rfl
theorem el33 : elP Try.prog 33 82 1 8 (.int .u64 0) := elP_of undS33 (by kernel_rfl) rfl (by decide)
theorem undS25 : Try.prog.underlying 25 = some (.slice 82) := by kernel_rfl
theorem el25 : elP Try.prog 25 82 1 8 (.int .u64 0) := elP_of undS25 (by kernel_rfl) rfl (by decide)
theorem fld35_0 : fldB Try.prog 35 0 0 1 = true := by kernel_rfl
theorem one4 : oneB Try.prog 4 = true := by kernel_rfl
theorem und4 : Try.prog.underlying 4 = some .bool := by kernel_rfl
theorem fld35_1 : fldB Try.prog 35 1 1 1 = true := by kernel_rfl
theorem one33 : oneB Try.prog 33 = true := by kernel_rfl
theorem zero30 : ((Try.prog.info? 30).bind (·.zero)).map (·.cells.toList) = some [(.bool false), (.slice none 0 0)] := by kernel_rfl
theorem fld30_1 : fldB Try.prog 30 1 1 1 = true := by kernel_rfl
theorem one28 : oneB Try.prog 28 = true := by kernel_rfl
theorem fld30_0 : fldB Try.prog 30 0 0 1 = true := by kernel_rfl
theorem pls30_0_1 : plsB Try.prog 30 [0, 1] [(0, 1), (1, 1)] = true := by kernel_rfl
theorem siz30 : (Try.prog.info? 30).any (·.size == 2) = true := by kernel_rfl
theorem agg30 : aggB Try.prog 30 2 = true := by kernel_rfl
theorem pls30_1 : plsB Try.prog 30 [1] [(1, 1)] = true := by kernel_rfl
theorem zero102 : ((Try.prog.info? 102).bind (·.zero)).map (·.cells.toList) = some [.nilFunc, .nilFunc, .nilFunc, .nilFunc, .nilFunc] := by kernel_rfl
theorem siz102 : (Try.prog.info? 102).any (·.size == 5) = true := by kernel_rfl
theorem agg102 : aggB Try.prog 102 5 = true := by kernel_rfl
theorem undA102 : Try.prog.underlying 102 = some (.array 5 101) := by kernel_rfl
theorem one101 : oneB Try.prog 101 = true := by kernel_rfl
theorem siz82m : (Try.prog.info? 82).map (·.size) = some 1 := by kernel_rfl
theorem pls30_ : plsB Try.prog 30 [] [] = true := by kernel_rfl
theorem sl83 : slB Try.prog 83 23 1 = true := by kernel_rfl
theorem one23 : oneB Try.prog 23 = true := by kernel_rfl
theorem fld27_0 : fldB Try.prog 27 0 0 1 = true := by kernel_rfl
theorem fld27_1 : fldB Try.prog 27 1 1 1 = true := by kernel_rfl
theorem one25 : oneB Try.prog 25 = true := by kernel_rfl
theorem undS83 : Try.prog.underlying 83 = some (.slice 23) := by kernel_rfl
theorem el83 : elP Try.prog 83 23 1 8 (.int .i64 0) := elP_of undS83 (by kernel_rfl) rfl (by decide)
theorem agg27 : aggB Try.prog 27 2 = true := by kernel_rfl
end Go.Proofs.Ytcdipmjgpimmdaa.Vc

/- More that is fixed about the types. -/
namespace Go.Proofs.Ytcdipmjgpimmdaa.Vc
open Go Go.RowKit
theorem sl81 : slB Try.prog 81 25 1 = true := by kernel_rfl
theorem siz25 : (Try.prog.info? 25).any (·.size == 1) = true := by kernel_rfl
theorem undS81 : Try.prog.underlying 81 = some (.slice 25) := by kernel_rfl
theorem el81 : elP Try.prog 81 25 1 24 (.slice none 0 0) := elP_of undS81 (by kernel_rfl) rfl (by decide)
end Go.Proofs.Ytcdipmjgpimmdaa.Vc

/- Rows that are written over, and grow: how the objects look on the way. -/
set_option linter.unusedVariables false
set_option linter.unusedSimpArgs false
namespace Go.Proofs.Ytcdipmjgpimmdaa.Vc
open Go Go.RowKit
theorem jo_H {P : Program} {Γ : Ctx} {F : Fr} {H H' : List Ob} {Q : Exit → Fr → List Ob → Prop} {ops : Array Oper} {rest : List Oper} (h : H = H') (j : JO P ops rest Γ F H' Q) : JO P ops rest Γ F H Q := h ▸ j
def rowsJ (n : Nat) (L : Ob) (f : Nat → Ob) (J : List Ob) : List Ob := L :: ((List.range n).map f ++ J)
def upd (f : Nat → Ob) (i : Nat) (o : Ob) : Nat → Ob := fun j => if j = i then o else f j
section
variable {n : Nat} {L : Ob} {f : Nat → Ob} {J : List Ob}
theorem rj_at {i : Nat} (h : i < n) : (rowsJ n L f J)[i + 1]? = some (f i) := by
  unfold rowsJ
  rw [List.getElem?_cons_succ, List.getElem?_append_left (by simpa using h), List.getElem?_map, List.getElem?_range h]
  rfl
theorem rj_upd {i : Nat} {o : Ob} (h : i < n) : (rowsJ n L (upd f i o) J)[i + 1]? = some o := by rw [rj_at h]; simp [upd]
theorem rj_of {i : Nat} {o : Ob} (h : i < n) (e : f i = o) : (rowsJ n L f J)[i + 1]? = some o := by rw [rj_at h, e]
theorem rj_set {i : Nat} {o : Ob} (h : i < n) : (rowsJ n L f J).set (i + 1) o = rowsJ n L (upd f i o) J := by
  unfold rowsJ
  rw [List.set_cons_succ, List.set_append_left _ _ (by simpa using h)]
  congr 2
  refine List.ext_getElem? fun k => ?_
  rw [List.getElem?_set]
  simp only [List.length_map, List.length_range, List.getElem?_map]
  by_cases e : i = k
  · subst e
    rw [if_pos rfl, if_pos h, List.getElem?_range h]
    simp [upd]
  · rw [if_neg e]
    by_cases hk : k < n
    · rw [List.getElem?_range hk]
      simp [upd, Ne.symm e]
    · rw [List.getElem?_eq_none (by simpa using hk)]
      rfl
theorem rj_upd2 {i : Nat} {o p : Ob} : upd (upd f i o) i p = upd f i p := by
  funext j
  unfold upd
  by_cases e : j = i <;> simp [e]
theorem rj_app {K : List Ob} : rowsJ n L f J ++ K = rowsJ n L f (J ++ K) := by simp [rowsJ]
theorem rj_len : (rowsJ n L f J).length = n + 1 + J.length := by simp [rowsJ]; omega
theorem rj_last {o : Ob} : (rowsJ n L f (J ++ [o]))[n + 1 + J.length]? = some o := by
  unfold rowsJ
  rw [show n + 1 + J.length = (n + J.length) + 1 by omega, List.getElem?_cons_succ, List.getElem?_append_right (by simp)]
  simp
theorem rj_obs (hL : ∀ y ∈ L.cs, idB (n + 1) y = true) (hf : ∀ j, j < n → ∀ y ∈ (f j).cs, idB (n + 1) y = true) : ObsId (n + 1) ((rowsJ n L f J).take (n + 1)) := by
  unfold rowsJ
  rw [List.take_succ_cons, List.take_append_of_le_length (by simp), List.take_of_length_le (by simp)]
  intro o ho hl y hy
  rcases List.mem_cons.1 ho with rfl | ho
  · exact hL y hy
  · obtain ⟨j, hj, rfl⟩ := List.mem_map.1 ho
    exact hf j (List.mem_range.1 hj) y hy
theorem rc_at {g : Nat → V} {i : Nat} (h : i < n) {y : V} (e : g i = y) : ((List.range n).map g)[(0 + i) * 1]? = some y := by
  rw [Nat.zero_add, Nat.mul_one, List.getElem?_map, List.getElem?_range h, ← e]
  rfl
theorem setV_map {g : Nat → V} {i : Nat} {y : V} : ∀ (l : List Nat) (k : Nat), (∀ j, j < l.length → l[j]? = some (k + j)) → k ≤ i → setV (l.map g) (i - k) [y] = l.map (fun j => if j = i then y else g j)
  | [], _, _, _ => by cases i <;> rfl
  | x :: l, k, h, hk => by
    have hx : x = k := by have := h 0 (by simp); simpa using this
    have hl : ∀ j, j < l.length → l[j]? = some (k + 1 + j) := fun j hj => by
      have := h (j + 1) (by simp; omega)
      simp only [List.getElem?_cons_succ] at this
      rw [this]; congr 1; omega
    subst hx
    by_cases e : x = i
    · subst e
      rw [Nat.sub_self]
      have hid : l.map (fun j => if j = x then y else g j) = l.map g := List.map_congr_left fun j hj => by
        obtain ⟨q, hq⟩ := List.getElem?_of_mem hj
        have hlt : q < l.length := (List.getElem?_eq_some_iff.1 hq).1
        have := hl q hlt
        rw [hq] at this
        injection this with this
        rw [if_neg (by omega)]
      rw [List.map_cons, List.map_cons, hid, if_pos rfl]
      show y :: setV (l.map g) 0 [] = y :: l.map g
      cases l <;> rfl
    · obtain ⟨q, hq⟩ : ∃ q, i - x = q + 1 := ⟨i - x - 1, by omega⟩
      rw [List.map_cons, List.map_cons, hq, if_neg e]
      show g x :: setV (l.map g) q [y] = g x :: _
      have := setV_map (g := g) (i := i) (y := y) l (x + 1) hl (by omega)
      rw [show i - (x + 1) = q by omega] at this
      rw [this]
theorem setV_range {g : Nat → V} {i : Nat} {y : V} : setV ((List.range n).map g) ((0 + i) * 1) [y] = (List.range n).map (fun j => if j = i then y else g j) := by
  have := setV_map (g := g) (i := i) (y := y) (List.range n) 0 (fun j hj => by rw [List.getElem?_range (by simpa using hj), Nat.zero_add]) (Nat.zero_le _)
  rw [Nat.sub_zero] at this
  rw [Nat.zero_add, Nat.mul_one, this]
end
def owC (j : Nat) : Int := ((j % 251 + 1 : Nat) : Int)
def owB (j : Nat) : List Int := [((300 + 5 * j : Nat) : Int), ((300 + 5 * j + 1 : Nat) : Int), ((300 + 5 * j + 2 : Nat) : Int), ((300 + 5 * j + 3 : Nat) : Int), ((300 + 5 * j + 4 : Nat) : Int)]
def owL (n : Nat) (rs : Nat → List Int) (i : Nat) : Ob := ⟨25, 1, 0, true, (List.range n).map fun j => if j < i then .o (j + 1) 1 0 ((rs j).length + 5) else .o (j + 1) 0 0 (rs j).length⟩
def owL0 (n : Nat) (rs : Nat → List Int) : Ob := ⟨25, 1, 0, true, (List.range n).map fun j => .o (j + 1) 0 0 (rs j).length⟩
def owR (rs : Nat → List Int) (j : Nat) : Ob := ⟨82, 1, 0, true, ints .u64 (rs j)⟩
def owF (rs : Nat → List Int) (i j : Nat) : Ob := ⟨82, 1, 0, true, ints .u64 (if j < i then List.replicate (rs j).length (owC j) else rs j)⟩
def owK (rs : Nat → List Int) (i k : Nat) : Ob := ⟨82, 1, 0, true, ints .u64 (List.replicate k (owC i) ++ (rs i).drop k)⟩
def owE (rs : Nat → List Int) (j : Nat) : Ob := ⟨82, 1, 1, true, ints .u64 (List.replicate (rs j).length (owC j) ++ owB j)⟩
def owG (rs : Nat → List Int) (i j : Nat) : Ob := if j < i then owE rs j else ⟨82, 1, 0, true, ints .u64 (List.replicate (rs j).length (owC j))⟩
section
variable {n : Nat} {rs : Nat → List Int} {J : List Ob}
theorem ow_start : rowsJ n (owL0 n rs) (owR rs) J = rowsJ n (owL0 n rs) (owF rs 0) J := rfl
theorem ow_in {i : Nat} : rowsJ n (owL0 n rs) (owF rs i) J = rowsJ n (owL0 n rs) (upd (owF rs i) i (owK rs i 0)) J := by
  congr 1
  funext j
  unfold upd
  by_cases e : j = i
  · subst e; simp [owF, owK]
  · rw [if_neg e]
theorem ow_step {i k : Nat} (hi : i < n) (hk : k < (rs i).length) : (rowsJ n (owL0 n rs) (upd (owF rs i) i (owK rs i k)) J).set (i + 1) ⟨82, 1, 0, true, ints .u64 ((List.replicate k (owC i) ++ (rs i).drop k).set ((0 + k) * 1) (owC i))⟩ = rowsJ n (owL0 n rs) (upd (owF rs i) i (owK rs i (k + 1))) J := by
  rw [rj_set hi, rj_upd2]
  congr 3
  show ints .u64 _ = ints .u64 _
  congr 1
  rw [Nat.zero_add, Nat.mul_one, List.set_append_right _ _ (by simp), List.length_replicate, Nat.sub_self, List.drop_eq_getElem_cons hk, List.set_cons_zero, List.replicate_succ', List.append_assoc]
  rfl
theorem ow_out {i k : Nat} (hk : ¬ k < (rs i).length) (hk2 : k ≤ (rs i).length) : rowsJ n (owL0 n rs) (upd (owF rs i) i (owK rs i k)) J = rowsJ n (owL0 n rs) (owF rs (i + 1)) J := by
  have e : k = (rs i).length := by omega
  subst e
  congr 1
  funext j
  unfold upd
  by_cases e : j = i
  · subst e
    rw [if_pos rfl]
    unfold owK owF
    rw [List.drop_length, List.append_nil, if_pos (Nat.lt_succ_self j)]
  · rw [if_neg e]
    unfold owF
    by_cases h : j < i
    · rw [if_pos h, if_pos (by omega)]
    · rw [if_neg h, if_neg (by omega)]
theorem ow_two {i : Nat} (hi : ¬ i < n) : rowsJ n (owL0 n rs) (owF rs i) J = rowsJ n (owL n rs 0) (owG rs 0) J := by
  unfold rowsJ
  congr 2
  · refine List.map_congr_left fun j hj => ?_
    have := List.mem_range.1 hj
    unfold owF owG
    rw [if_pos (by omega), if_neg (Nat.not_lt_zero j)]
theorem ow_load2 {i : Nat} (hi : i < n) : (owL n rs i).cs[(0 + i) * 1]? = some (.o (i + 1) 0 0 (rs i).length) := rc_at hi (if_neg (Nat.lt_irrefl i))
theorem ow_row2 {i : Nat} (hi : i < n) : (rowsJ n (owL n rs i) (owG rs i) J)[i + 1]? = some ⟨82, 1, 0, true, ints .u64 (List.replicate (rs i).length (owC i))⟩ := rj_of hi (if_neg (Nat.lt_irrefl i))
theorem ow_grow {i : Nat} (hi : i < n) : (rowsJ n (owL n rs i) (owG rs i) J).set (i + 1) ⟨82, 1, 0 + 1, true, ints .u64 (List.replicate (rs i).length (owC i)) ++ ints .u64 (owB i)⟩ = rowsJ n (owL n rs i) (upd (owG rs i) i (owE rs i)) J := by
  rw [rj_set hi]
  congr 3
  simp [ints]
theorem ow_next {i : Nat} (hi : i < n) : rowsJ n ⟨25, 1, 0, true, setV (owL n rs i).cs ((0 + i) * 1) [.o (i + 1) 1 0 ((rs i).length + 5)]⟩ (upd (owG rs i) i (owE rs i)) J = rowsJ n (owL n rs (i + 1)) (owG rs (i + 1)) J := by
  congr 1
  · unfold owL
    rw [setV_range]
    congr 1
    refine List.map_congr_left fun j _ => ?_
    by_cases e : j = i
    · subst e; rw [if_pos rfl, if_pos (Nat.lt_succ_self j)]
    · rw [if_neg e]
      by_cases h : j < i
      · rw [if_pos h, if_pos (by omega)]
      · rw [if_neg h, if_neg (by omega)]
  · funext j
    unfold upd owG
    by_cases e : j = i
    · subst e; rw [if_pos rfl, if_pos (Nat.lt_succ_self j)]
    · rw [if_neg e]
      by_cases h : j < i
      · rw [if_pos h, if_pos (by omega)]
      · rw [if_neg h, if_neg (by omega)]
theorem ow_load3 {i m : Nat} (hi : i < n) (hm : ¬ m < n) : (owL n rs m).cs[(0 + i) * 1]? = some (.o (i + 1) 1 0 ((rs i).length + 5)) := rc_at hi (if_pos (by omega))
theorem ow_row3 {i m : Nat} (hi : i < n) (hm : ¬ m < n) : (rowsJ n (owL n rs m) (owG rs m) J)[i + 1]? = some (owE rs i) := rj_of hi (if_pos (by omega))
theorem ow_val {i k : Nat} (hk : k < (rs i).length + 5) : (List.replicate (rs i).length (owC i) ++ owB i).getD ((0 + k) * 1) 0 = if k < (rs i).length then owC i else ((300 + 5 * i + (k - (rs i).length) : Nat) : Int) := by
  rw [Nat.zero_add, Nat.mul_one]
  by_cases h : k < (rs i).length
  · rw [if_pos h, List.getD_eq_getElem?_getD, List.getElem?_append_left (by simpa using h), List.getElem?_replicate, if_pos h]
    rfl
  · rw [if_neg h, List.getD_eq_getElem?_getD, List.getElem?_append_right (by simp; omega), List.length_replicate]
    obtain ⟨q, hq⟩ : ∃ q, k - (rs i).length = q := ⟨_, rfl⟩
    rw [hq]
    match q, (show q < 5 by omega) with
    | 0, _ => rfl
    | 1, _ => rfl
    | 2, _ => rfl
    | 3, _ => rfl
    | 4, _ => rfl
theorem ow_len {i : Nat} : (List.replicate (rs i).length (owC i) ++ owB i).length = (rs i).length + 5 := by simp [owB]
theorem ow_end {m : Nat} : ObsId (rowsJ n (owL0 n rs) (owR rs) []).length ((rowsJ n (owL n rs m) (owG rs m) J).take (rowsJ n (owL0 n rs) (owR rs) []).length) := by
  rw [rj_len]
  refine rj_obs (fun y hy => ?_) fun j _ y hy => ?_
  · obtain ⟨j, hj, rfl⟩ := List.mem_map.1 hy
    have := List.mem_range.1 hj
    by_cases h : j < m
    · rw [if_pos h]; simp [idB]; omega
    · rw [if_neg h]; simp [idB]; omega
  · unfold owG owE at hy
    by_cases h : j < m
    · rw [if_pos h] at hy; exact List.all_eq_true.1 ints_id y hy
    · rw [if_neg h] at hy; exact List.all_eq_true.1 ints_id y hy
end
end Go.Proofs.Ytcdipmjgpimmdaa.Vc

/- How long the document's numbers are; rows for Own. Plain Lean. -/
set_option linter.unusedVariables false
set_option linter.unusedSimpArgs false
namespace Go.Proofs.Ytcdipmjgpimmdaa.Vc
open Go Go.RowKit
theorem dg_le {v : Int} {k : Nat} (h : v.natAbs < B32 ^ k) : (dg v).length ≤ k := digs_len (by decide) k _ h
theorem dg_lt (v : Int) : v.natAbs < B32 ^ (dg v).length := lt_digs (by decide) _
theorem dg_add_len (x y : Int) : (dg (x + y)).length ≤ max (dg x).length (dg y).length + 1 := by
  refine dg_le (Nat.lt_of_le_of_lt (Int.natAbs_add_le x y) (sum_lt ?_ ?_))
  · exact Nat.le_max_left _ _
  · exact Nat.le_max_right _ _
theorem dg_neg (x : Int) : dg (-x) = dg x := by unfold dg; rw [Int.natAbs_neg]
theorem dg_sub_len (x y : Int) : (dg (x - y)).length ≤ max (dg x).length (dg y).length + 1 := by
  have := dg_add_len x (-y)
  rwa [dg_neg, ← Int.sub_eq_add_neg] at this
theorem dg_mul_len (x y : Int) : (dg (x * y)).length ≤ (dg x).length + (dg y).length := by
  refine dg_le ?_
  rw [Int.natAbs_mul, Nat.pow_add]
  have h1 := dg_lt x
  have h2 := dg_lt y
  exact Nat.mul_lt_mul_of_lt_of_le h1 (Nat.le_of_lt h2) (by omega)
section
variable {n : Nat} {rs : Nat → List Int}
theorem ow_ids : ObsId (n + 1) (rowsJ n (owL0 n rs) (owR rs) []) := by
  have h := rj_obs (n := n) (L := owL0 n rs) (f := owR rs) (J := []) (fun y hy => by
    obtain ⟨j, hj, rfl⟩ := List.mem_map.1 hy
    have := List.mem_range.1 hj
    simp [idB]; omega) fun j _ y hy => List.all_eq_true.1 ints_id y hy
  rwa [List.take_of_length_le (by rw [rj_len]; simp)] at h
theorem ow_fresh : freshless (rowsJ n (owL0 n rs) (owR rs) []) := by
  unfold rowsJ
  rw [List.append_nil]
  intro o ho hl y hy
  rcases List.mem_cons.1 ho with rfl | ho
  · obtain ⟨j, hj, rfl⟩ := List.mem_map.1 hy
    rfl
  · obtain ⟨j, hj, rfl⟩ := List.mem_map.1 ho
    exact List.all_eq_true.1 ints_noFr y hy
end
def rsOf (l : List (List Int)) (j : Nat) : List Int := l.getD j []
theorem rsOf_len {l : List (List Int)} {m : Nat} (h : ∀ r ∈ l, r.length < m) (h0 : 0 < m) (j : Nat) : (rsOf l j).length < m := by
  unfold rsOf
  rw [List.getD_eq_getElem?_getD]
  cases hj : l[j]? with
  | none => exact h0
  | some r => exact h r (List.mem_of_getElem? hj)
end Go.Proofs.Ytcdipmjgpimmdaa.Vc

/- Bits of the document's numbers; ints. Plain Lean. -/
set_option linter.unusedVariables false
set_option linter.unusedSimpArgs false
namespace Go.Proofs.Ytcdipmjgpimmdaa.Vc
open Go Go.RowKit
theorem and1 {n : Nat} (h1 : n < 18446744073709551616) : bitop .and .u64 (n : Int) 1 = ((n % 2 : Nat) : Int) := by
  unfold bitop
  simp only [IntKind.bits]
  have e1 : (BitVec.ofInt 64 (n : Int)).toNat = n := by
    rw [BitVec.toNat_ofInt]; simp; omega
  have e2 : (BitVec.ofInt 64 1).toNat = 1 := by decide
  have e3 : (BitVec.ofInt 64 (n : Int) &&& BitVec.ofInt 64 1).toNat = n % 2 := by
    rw [BitVec.toNat_and, e1, e2]
    simp
  show IntKind.u64.wrap (((BitVec.ofInt 64 (n : Int) &&& BitVec.ofInt 64 1).toNat : Nat) : Int) = _
  rw [e3, wrap_u64 (by omega) (by omega)]
theorem b32_pow (k : Nat) : B32 ^ k = 2 ^ (32 * k) := by
  rw [Nat.pow_mul]
theorem bit_digit (x i : Nat) : x / B32 ^ (i / 32) % B32 / 2 ^ (i % 32) % 2 = x / 2 ^ i % 2 := by
  have hr : i % 32 < 32 := Nat.mod_lt _ (by decide)
  have e : B32 = 2 ^ (i % 32) * 2 ^ (32 - i % 32) := by
    rw [← Nat.pow_add, show i % 32 + (32 - i % 32) = 32 by omega]
  have h0 : ∀ y : Nat, y % B32 / 2 ^ (i % 32) = y / 2 ^ (i % 32) % 2 ^ (32 - i % 32) := fun y => by rw [e, Nat.mod_mul_right_div_self]
  have h1 := h0 (x / B32 ^ (i / 32))
  rw [h1, Nat.mod_mod_of_dvd _ (by
    obtain ⟨k, hk⟩ : ∃ k, 32 - i % 32 = k + 1 := ⟨31 - i % 32, by omega⟩
    rw [hk, Nat.pow_succ]
    exact Nat.dvd_mul_left 2 _), Nat.div_div_eq_div_mul, b32_pow, ← Nat.pow_add, Nat.div_add_mod]
theorem bit_out {x i : Nat} (h : (digs B32 x).length ≤ i / 32) : x / 2 ^ i % 2 = 0 := by
  have h1 := lt_digs (b := B32) (by decide) x
  have h2 : B32 ^ (digs B32 x).length ≤ 2 ^ i := by
    rw [b32_pow]; exact Nat.pow_le_pow_right (by decide) (by omega)
  rw [Nat.div_eq_of_lt (by omega)]
theorem bit_lt {x n : Nat} (hx : x ≠ 0) (h : 2 ^ n ∣ x) : n < 32 * (digs B32 x).length := by
  have h1 := lt_digs (b := B32) (by decide) x
  rw [b32_pow] at h1
  have h2 := Nat.le_of_dvd (by omega) h
  exact (Nat.pow_lt_pow_iff_right (by decide)).1 (Nat.lt_of_le_of_lt h2 h1)
theorem bit_dvd {x n : Nat} (h : 2 ^ n ∣ x) (hb : x / 2 ^ n % 2 = 0) : 2 ^ (n + 1) ∣ x := by
  obtain ⟨q, rfl⟩ := h
  rw [Nat.mul_div_cancel_left _ (Nat.two_pow_pos n)] at hb
  obtain ⟨r, rfl⟩ : ∃ r, q = 2 * r := ⟨q / 2, by omega⟩
  exact ⟨r, by rw [Nat.pow_succ, Nat.mul_assoc]⟩
/-- The noughts at the end. -/
def Tz (x t : Nat) : Prop := 2 ^ t ∣ x ∧ x / 2 ^ t % 2 = 1
def inI (v : Int) : Prop := -9223372036854775808 ≤ v ∧ v < 9223372036854775808
instance (v : Int) : Decidable (inI v) := by unfold inI; infer_instance
theorem len63 {v : Int} : lenV v < 64 ↔ v.natAbs < 9223372036854775808 := by
  unfold lenV
  rw [show (nbits v.natAbs < 64 ↔ nbits v.natAbs ≤ 63) by omega, nbits_le]
theorem len64 {v : Int} : lenV v ≤ 64 ↔ v.natAbs < 18446744073709551616 := by
  unfold lenV
  rw [nbits_le]
theorem tz63 {x t : Nat} (h : Tz x t) (h1 : 9223372036854775808 ≤ x) (h2 : x < 18446744073709551616) : t = 63 ↔ x = 9223372036854775808 := by
  obtain ⟨⟨q, rfl⟩, hb⟩ := h
  rw [Nat.mul_div_cancel_left _ (Nat.two_pow_pos t)] at hb
  constructor
  · rintro rfl
    rw [show (2 ^ 63 : Nat) = 9223372036854775808 by decide] at *
    omega
  · intro he
    have hq : 2 ^ t ≤ 2 ^ 63 := by
      rw [show (2 ^ 63 : Nat) = 9223372036854775808 by decide, ← he]
      exact Nat.le_mul_of_pos_right _ (by omega)
    have ht : t ≤ 63 := (Nat.pow_le_pow_iff_right (by decide)).1 hq
    rcases Nat.lt_or_ge t 63 with h | h
    · exfalso
      obtain ⟨k, hk⟩ : ∃ k, 63 = t + (k + 1) := ⟨62 - t, by omega⟩
      have e : (9223372036854775808 : Nat) = 2 ^ t * (2 * 2 ^ k) := by
        rw [show (9223372036854775808 : Nat) = 2 ^ 63 by decide, hk, Nat.pow_add, Nat.pow_succ, Nat.mul_comm 2]
      rw [e] at he
      have := Nat.eq_of_mul_eq_mul_left (Nat.two_pow_pos t) he
      omega
    · omega
def fl (v : Int) : List Int := if v = 0 then [] else [v]
theorem lm_small {v : Int} (h : v.natAbs < 18446744073709551616) : lm v = fl ((v.natAbs : Nat) : Int) := by
  unfold lm fl
  by_cases h0 : v.natAbs = 0
  · rw [h0, digs_0]; rfl
  · rw [digs_pos (by decide) h0, Nat.mod_eq_of_lt h, Nat.div_eq_of_lt h, digs_0, if_neg (by omega)]
theorem lm_i64 {v : Int} (h : v.natAbs < 18446744073709551616) : (lm v).length ≤ 1 := by
  rw [lm_small h]; unfold fl; split <;> simp
theorem sv_lm (v : Int) : sv (decide (v < 0)) (lm v) = v := by
  unfold sv; rw [lm_v]; by_cases h : v < 0 <;> simp [h] <;> omega
theorem small0 {l : List Int} (h : ((trm l).length : Int) = 0) : vl l = 0 := by
  rw [← vl_trm, List.eq_nil_of_length_eq_zero (show (trm l).length = 0 by omega)]; rfl
theorem small1 {l : List Int} (h : ((trm l).length : Int) = 1) : (trm l).getD 0 0 = vl l := by
  rw [← vl_trm]
  match hm : trm l, (show (trm l).length = 1 by omega) with
  | [x], _ => simp [vl]
theorem small2 {l : List Int} (hu : u64s l) (h0 : ¬ ((trm l).length : Int) = 0) (h1 : ¬ ((trm l).length : Int) = 1) : 18446744073709551616 ≤ vl l := by
  have h := vl_ge (u64s_trm hu) (tpd_trm l) (fun e => h0 (by rw [e]; rfl))
  have h2 := pB_mono (show 1 ≤ (trm l).length - 1 by omega)
  rw [vl_trm] at h
  have : pB 1 = 18446744073709551616 := by decide
  omega
theorem i64_wrap_big {m r : Int} (h1 : -9223372036854775808 ≤ r) (h2 : r < 0) (h : m = r + 18446744073709551616) : IntKind.i64.wrap m = r := by
  subst h
  simp only [IntKind.wrap, IntKind.bits, IntKind.signed] <;> simp <;> omega
theorem sv_in {s : Bool} {l : List Int} {v : Int} (hu : u64s l) (hv : sv s l = v) : (s = true → v = -(vl l)) ∧ (s = false → v = vl l) ∧ 0 ≤ vl l := by
  refine ⟨fun h => ?_, fun h => ?_, vl_nonneg hu⟩
  · subst h; rw [← hv]; rfl
  · subst h; rw [← hv]; rfl
end Go.Proofs.Ytcdipmjgpimmdaa.Vc

/- Contract of surdref01.Own. -/
set_option linter.unusedVariables false
set_option linter.unusedSimpArgs false
namespace Go.Proofs.Ytcdipmjgpimmdaa.Vc
open Go Go.RowKit
set_option maxHeartbeats 4000000 in
theorem Own_s (n : Nat) (hn : n < 1000000) (rs : Nat → List Int) (hlen : ∀ j, j < n → (rs j).length < 1099511627776) : SpecM Try.prog 25 [.o 0 0 0 n] (rowsJ n (owL0 n rs) (owR rs) []) (fun o _ => o = .ret (.b true)) := by
  refine specM_of [(0, .o 0 0 0 n)] rfl (_) rfl Try.func25 rfl (Nat.le_of_ble_eq_true rfl) fun Γ hN hds => ?_
  have hd : ∀ d, Nat.blt d 112 = true → d < Γ.N := fun d h => by rw [hN]; exact Nat.le_of_ble_eq_true h
  refine jc_H (H' := rowsJ n (owL0 n rs) (owF rs 0) []) ow_start ?_
  refine jc_seq ?_
  refine jc_region ?_
  refine jo_l (ly_as rfl) (hd 2 rfl) ?_
  refine jo_nil ?_
  refine jc_seq ?_
  refine jc_seq ?_
  refine jc_region ?_
  refine jo_l (ly_mv rfl) (hd 13 rfl) ?_
  refine jo_l (ly_leno sl81 rfl rfl) (hd 14 rfl) ?_
  refine jo_l (ly_mv rfl) (hd 15 rfl) ?_
  refine jo_nil ?_
  refine jc_block ?_
  refine jc_loopF (G := Nat) (fun i => i ≤ n) (fun i => [(15, .i .i64 (i : Int)), (3, .u), (4, .u), (5, .u), (16, .u), (17, .u), (18, .u), (19, .u), (20, .u), (21, .u), (22, .u), (23, .u), (24, .u), (25, .u), (26, .u), (27, .u), (28, .u), (29, .u), (30, .u), (31, .u), (32, .u), (33, .u)]) (fun i => rowsJ n (owL0 n rs) (owF rs i) []) (fun i => n - i) 0 ?_ ?_ rfl ?_
  · exact Nat.zero_le _
  · exact (.cons rfl (.u (.u (.u (.u (.u (.u (.u (.u (.u (.u (.u (.u (.u (.u (.u (.u (.u (.u (.u (.u (.u .nil))))))))))))))))))))))
  · rintro i hc1
    refine jc_seq ?_
    refine jc_region ?_
    refine jo_l (ly_lt rfl rfl) (hd 16 rfl) ?_
    refine jo_nil ?_
    refine jc_seq ?_
    refine jc_if rfl (fun h1 => ?_) (fun h1 => ?_)
    · have hi : i < n := by omega
      have hl := hlen i hi
      refine jc_skip ?_
      refine jc_seq ?_
      refine jc_block ?_
      refine jc_seq ?_
      refine jc_region ?_
      refine jo_l (ly_mv rfl) (hd 17 rfl) ?_
      refine jo_l (ly_ia (i := i) sl81 rfl rfl rfl (by first | rfl | omega) (by first | omega | (dsimp only; omega)) rfl) (hd 18 rfl) ?_
      refine jo_l (ly_ld one25 rfl rfl (rc_at hi rfl)) (hd 19 rfl) ?_
      refine jo_l (ly_as rfl) (hd 3 rfl) ?_
      refine jo_l (ly_as rfl) (hd 4 rfl) ?_
      refine jo_nil ?_
      refine jc_seq ?_
      refine jc_H (H' := rowsJ n (owL0 n rs) (upd (owF rs i) i (owK rs i 0)) []) ow_in ?_
      refine jc_region ?_
      refine jo_l (ly_mv rfl) (hd 20 rfl) ?_
      refine jo_l (ly_leno sl25 rfl (rj_upd hi)) (hd 21 rfl) ?_
      refine jo_l (ly_mv rfl) (hd 22 rfl) ?_
      refine jo_nil ?_
      refine jc_block ?_
      refine jc_loopF (G := Nat) (fun k => k ≤ (rs i).length) (fun k => [(22, .i .i64 (k : Int)), (5, .u), (23, .u), (24, .u), (25, .u), (26, .u), (27, .u), (28, .u), (29, .u), (30, .u), (31, .u), (32, .u)]) (fun k => rowsJ n (owL0 n rs) (upd (owF rs i) i (owK rs i k)) []) (fun k => (rs i).length - k) 0 ?_ ?_ rfl ?_
      · exact Nat.zero_le _
      · exact (.cons rfl (.u (.u (.u (.u (.u (.u (.u (.u (.u (.u (.u .nil))))))))))))
      · rintro k hc2
        refine jc_seq ?_
        refine jc_region ?_
        refine jo_l (ly_lt rfl rfl) (hd 23 rfl) ?_
        refine jo_nil ?_
        refine jc_seq ?_
        refine jc_if rfl (fun h2 => ?_) (fun h2 => ?_)
        · have hk : k < (rs i).length := by omega
          have hkl : k < (List.replicate k (owC i) ++ (rs i).drop k).length := by simp; omega
          refine jc_skip ?_
          refine jc_seq ?_
          refine jc_block ?_
          refine jc_seq ?_
          refine jc_region ?_
          refine jo_l (ly_mv rfl) (hd 24 rfl) ?_
          refine jo_l (ly_as rfl) (hd 5 rfl) ?_
          refine jo_nil ?_
          refine jc_region ?_
          refine jo_l (ly_mv rfl) (hd 25 rfl) ?_
          refine jo_l (ly_mv rfl) (hd 26 rfl) ?_
          refine jo_l (ly_mv rfl) (hd 27 rfl) ?_
          refine jo_l (ly_rem rfl rfl (by decide) rfl) (hd 28 rfl) ?_
          refine jo_l (ly_add rfl rfl (r := owC i) (by rw [show ((i : Int).tmod 251) = ((i % 251 : Nat) : Int) from rfl, wrap_i64 (by omega) (by omega)]; unfold owC; omega)) (hd 29 rfl) ?_
          refine jo_l (ly_conv und3 und82 rfl (r := owC i) (by unfold owC; rw [wrap_u64 (by omega) (by omega)])) (hd 30 rfl) ?_
          refine jo_l (ly_ia (i := k) sl25 rfl (rj_upd hi) rfl rfl (by omega) rfl) (hd 31 rfl) ?_
          refine jo_st (sy_storei rfl rfl (rj_upd hi) one82 (by omega)) ?_
          refine jo_nil ?_
          refine jc_region ?_
          refine jo_l (ly_add rfl rfl (wrap_i64 (by first | omega | (dsimp only; omega)) (by first | omega | (dsimp only; omega)))) (hd 32 rfl) ?_
          refine jo_l (ly_mv rfl) (hd 22 rfl) ?_
          refine jo_nil ?_
          refine ⟨k + 1, ?_, ?_, (ow_step hi (by omega)), cov_n 24 rfl rfl ?_⟩
          · omega
          · omega
          · exact (.cons rfl (.u (.u (.u (.u (.u (.u (.u (.u (.u (.u (.u .nil))))))))))))
        · refine jc_exit ?_
          refine jc_region ?_
          refine jo_l (ly_add rfl rfl (wrap_i64 (by first | omega | (dsimp only; omega)) (by first | omega | (dsimp only; omega)))) (hd 33 rfl) ?_
          refine jo_l (ly_mv rfl) (hd 15 rfl) ?_
          refine jo_nil ?_
          refine ⟨i + 1, ?_, ?_, (ow_out (by omega) (by omega)), cov_n 46 rfl rfl ?_⟩
          · omega
          · omega
          · exact (.cons rfl (.u (.u (.u (.u (.u (.u (.u (.u (.u (.u (.u (.u (.u (.u (.u (.u (.u (.u (.u (.u (.u .nil))))))))))))))))))))))
    · refine jc_exit ?_
      refine jc_seq ?_
      refine jc_seq ?_
      refine jc_H (H' := rowsJ n (owL n rs 0) (owG rs 0) []) (ow_two (by omega)) ?_
      refine jc_region ?_
      refine jo_l (ly_mv rfl) (hd 34 rfl) ?_
      refine jo_l (ly_leno sl81 rfl rfl) (hd 35 rfl) ?_
      refine jo_l (ly_mv rfl) (hd 36 rfl) ?_
      refine jo_nil ?_
      refine jc_block ?_
      refine jc_loopF (G := Nat × List Ob) (fun g => g.1 ≤ n) (fun g => [(36, .i .i64 (g.1 : Int)), (6, .u), (7, .u), (8, .u), (37, .u), (38, .u), (39, .u), (40, .u), (41, .u), (42, .u), (43, .u), (44, .u), (45, .u), (46, .u), (47, .u), (48, .u), (49, .u), (50, .u), (51, .u), (52, .u), (53, .u), (54, .u), (55, .u), (56, .u), (57, .u), (58, .u), (59, .u), (60, .u), (61, .u)]) (fun g => rowsJ n (owL n rs g.1) (owG rs g.1) g.2) (fun g => n - g.1) (0, []) ?_ ?_ rfl ?_
      · exact Nat.zero_le _
      · exact (.cons rfl (.u (.u (.u (.u (.u (.u (.u (.u (.u (.u (.u (.u (.u (.u (.u (.u (.u (.u (.u (.u (.u (.u (.u (.u (.u (.u (.u (.u .nil)))))))))))))))))))))))))))))
      · rintro ⟨i, J⟩ hc1
        dsimp only at hc1 ⊢
        refine jc_seq ?_
        refine jc_region ?_
        refine jo_l (ly_lt rfl rfl) (hd 37 rfl) ?_
        refine jo_nil ?_
        refine jc_seq ?_
        refine jc_if rfl (fun h3 => ?_) (fun h3 => ?_)
        · have hi : i < n := by omega
          have hl := hlen i hi
          refine jc_skip ?_
          refine jc_seq ?_
          refine jc_block ?_
          refine jc_seq ?_
          refine jc_region ?_
          refine jo_l (ly_mv rfl) (hd 38 rfl) ?_
          refine jo_l (ly_ia (i := i) sl81 rfl rfl rfl (by first | rfl | omega) (by first | omega | (dsimp only; omega)) rfl) (hd 39 rfl) ?_
          refine jo_l (ly_ld one25 rfl rfl (ow_load2 hi)) (hd 40 rfl) ?_
          refine jo_l (ly_as rfl) (hd 6 rfl) ?_
          refine jo_l (ly_as rfl) (hd 7 rfl) ?_
          refine jo_nil ?_
          refine jc_seq ?_
          refine jc_region ?_
          refine jo_l (ly_mv rfl) (hd 41 rfl) ?_
          refine jo_l (ly_mul rfl rfl (r := ((5 * i : Nat) : Int)) (by rw [wrap_i64 (by omega) (by omega)]; omega)) (hd 42 rfl) ?_
          refine jo_l (ly_add rfl rfl (r := ((300 + 5 * i : Nat) : Int)) (by rw [wrap_i64 (by omega) (by omega)]; omega)) (hd 43 rfl) ?_
          refine jo_l (ly_conv und3 und82 rfl (r := ((300 + 5 * i : Nat) : Int)) (by rw [wrap_u64 (by omega) (by omega)]; try omega)) (hd 44 rfl) ?_
          refine jo_l (ly_as rfl) (hd 8 rfl) ?_
          refine jo_nil ?_
          refine jc_seq ?_
          refine jc_region ?_
          refine jo_l (ly_mv rfl) (hd 45 rfl) ?_
          refine jo_l (ly_mv rfl) (hd 46 rfl) ?_
          refine jo_l (ly_mv rfl) (hd 47 rfl) ?_
          refine jo_l (ly_add rfl rfl (r := ((300 + 5 * i + 1 : Nat) : Int)) (by rw [wrap_u64 (by omega) (by omega)]; try omega)) (hd 48 rfl) ?_
          refine jo_l (ly_mv rfl) (hd 49 rfl) ?_
          refine jo_l (ly_add rfl rfl (r := ((300 + 5 * i + 2 : Nat) : Int)) (by rw [wrap_u64 (by omega) (by omega)]; try omega)) (hd 50 rfl) ?_
          refine jo_l (ly_mv rfl) (hd 51 rfl) ?_
          refine jo_l (ly_add rfl rfl (r := ((300 + 5 * i + 3 : Nat) : Int)) (by rw [wrap_u64 (by omega) (by omega)]; try omega)) (hd 52 rfl) ?_
          refine jo_l (ly_mv rfl) (hd 53 rfl) ?_
          refine jo_l (ly_add rfl rfl (r := ((300 + 5 * i + 4 : Nat) : Int)) (by rw [wrap_u64 (by omega) (by omega)]; try omega)) (hd 54 rfl) ?_
          refine jo_h (hy_lit (id := n + 1 + J.length) (xs := [.tmp 46, .tmp 48, .tmp 50, .tmp 52, .tmp 54]) el25 rfl (ovL_cons rfl (ovL_cons rfl (ovL_cons rfl (ovL_cons rfl (ovL_cons rfl ovL_nil))))) rfl (all2_of rfl) (by decide) rj_len) (hd 55 rfl) ?_
          refine jo_H (H' := rowsJ n (owL n rs i) (owG rs i) (J ++ [⟨82, 1, 0, true, ints .u64 (owB i)⟩])) rj_app ?_
          refine jo_app el25 rfl (ow_row2 hi) (by simp [ints]) rfl (src_o rj_last rfl rfl) (by omega) (by unfold maxLen; omega) (hd 56 rfl) ?_
          refine jo_H (ow_grow hi) ?_
          refine jo_l (ly_as rfl) (hd 7 rfl) ?_
          refine jo_nil ?_
          refine jc_region ?_
          refine jo_l (ly_mv rfl) (hd 57 rfl) ?_
          refine jo_l (ly_mv rfl) (hd 58 rfl) ?_
          refine jo_l (ly_mv rfl) (hd 59 rfl) ?_
          refine jo_l (ly_ia (i := i) sl81 rfl rfl rfl (by first | rfl | omega) (by first | omega | (dsimp only; omega)) rfl) (hd 60 rfl) ?_
          refine jo_st (sy_store rfl rfl rfl siz25 rfl (by simp [cellsV, oneO, rj_upd hi, owE]) (by simp [owL]; omega)) ?_
          refine jo_nil ?_
          refine jc_region ?_
          refine jo_l (ly_add rfl rfl (wrap_i64 (by first | omega | (dsimp only; omega)) (by first | omega | (dsimp only; omega)))) (hd 61 rfl) ?_
          refine jo_l (ly_mv rfl) (hd 36 rfl) ?_
          refine jo_nil ?_
          refine ⟨(i + 1, _), ?_, ?_, (ow_next hi), cov_n 59 rfl rfl ?_⟩
          · show i + 1 ≤ n; omega
          · show n - (i + 1) < n - i; omega
          · exact (.cons rfl (.u (.u (.u (.u (.u (.u (.u (.u (.u (.u (.u (.u (.u (.u (.u (.u (.u (.u (.u (.u (.u (.u (.u (.u (.u (.u (.u (.u .nil)))))))))))))))))))))))))))))
        · refine jc_exit ?_
          refine jc_seq ?_
          refine jc_seq ?_
          refine jc_region ?_
          refine jo_l (ly_mv rfl) (hd 62 rfl) ?_
          refine jo_l (ly_leno sl81 rfl rfl) (hd 63 rfl) ?_
          refine jo_l (ly_mv rfl) (hd 64 rfl) ?_
          refine jo_nil ?_
          refine jc_block ?_
          refine jc_loopF (G := Nat) (fun q => q ≤ n) (fun q => [(64, .i .i64 (q : Int)), (2, .u), (9, .u), (10, .u), (11, .u), (12, .u), (65, .u), (66, .u), (67, .u), (68, .u), (69, .u), (70, .u), (71, .u), (72, .u), (73, .u), (74, .u), (75, .u), (76, .u), (77, .u), (78, .u), (79, .u), (80, .u), (81, .u), (82, .u), (83, .u), (84, .u), (85, .u), (86, .u), (87, .u), (88, .u), (89, .u), (90, .u), (91, .u), (92, .u), (93, .u), (94, .u), (95, .u), (96, .u), (97, .u), (98, .u), (99, .u), (100, .u), (101, .u), (102, .u), (103, .u), (104, .u), (105, .u), (106, .u), (107, .u), (108, .u), (109, .u), (110, .u), (111, .u)]) (fun q => rowsJ n (owL n rs i) (owG rs i) J) (fun q => n - q) 0 ?_ ?_ rfl ?_
          · exact Nat.zero_le _
          · exact (.cons rfl (.u (.u (.u (.u (.u (.u (.u (.u (.u (.u (.u (.u (.u (.u (.u (.u (.u (.u (.u (.u (.u (.u (.u (.u (.u (.u (.u (.u (.u (.u (.u (.u (.u (.u (.u (.u (.u (.u (.u (.u (.u (.u (.u (.u (.u (.u (.u (.u (.u (.u (.u (.u .nil)))))))))))))))))))))))))))))))))))))))))))))))))))))
          · rintro q hc2
            refine jc_seq ?_
            refine jc_region ?_
            refine jo_l (ly_lt rfl rfl) (hd 65 rfl) ?_
            refine jo_nil ?_
            refine jc_seq ?_
            refine jc_if rfl (fun h4 => ?_) (fun h4 => ?_)
            · have hi : q < n := by omega
              have hl := hlen q hi
              have hm : ¬ i < n := by omega
              refine jc_skip ?_
              refine jc_seq ?_
              refine jc_block ?_
              refine jc_seq ?_
              refine jc_region ?_
              refine jo_l (ly_mv rfl) (hd 66 rfl) ?_
              refine jo_l (ly_ia (i := q) sl81 rfl rfl rfl (by first | rfl | omega) (by first | omega | (dsimp only; omega)) rfl) (hd 67 rfl) ?_
              refine jo_l (ly_ld one25 rfl rfl (ow_load3 hi hm)) (hd 68 rfl) ?_
              refine jo_l (ly_as rfl) (hd 9 rfl) ?_
              refine jo_l (ly_as rfl) (hd 10 rfl) ?_
              refine jo_nil ?_
              refine jc_seq ?_
              refine jc_region ?_
              refine jo_l (ly_mv rfl) (hd 69 rfl) ?_
              refine jo_l (ly_leno sl25 rfl (ow_row3 hi hm)) (hd 70 rfl) ?_
              refine jo_l (ly_mv rfl) (hd 71 rfl) ?_
              refine jo_nil ?_
              refine jc_block ?_
              refine jc_loopF (G := Nat) (fun k => k ≤ (rs q).length + 5) (fun k => [(71, .i .i64 (k : Int)), (2, .u), (11, .u), (12, .u), (72, .u), (73, .u), (74, .u), (75, .u), (76, .u), (77, .u), (78, .u), (79, .u), (80, .u), (81, .u), (82, .u), (83, .u), (84, .u), (85, .u), (86, .u), (87, .u), (88, .u), (89, .u), (90, .u), (91, .u), (92, .u), (93, .u), (94, .u), (95, .u), (96, .u), (97, .u), (98, .u), (99, .u), (100, .u), (101, .u), (102, .u), (103, .u), (104, .u), (105, .u), (106, .u), (107, .u), (108, .u), (109, .u), (110, .u)]) (fun k => rowsJ n (owL n rs i) (owG rs i) J) (fun k => (rs q).length + 5 - k) 0 ?_ ?_ rfl ?_
              · exact Nat.zero_le _
              · exact (.cons rfl (.u (.u (.u (.u (.u (.u (.u (.u (.u (.u (.u (.u (.u (.u (.u (.u (.u (.u (.u (.u (.u (.u (.u (.u (.u (.u (.u (.u (.u (.u (.u (.u (.u (.u (.u (.u (.u (.u (.u (.u (.u (.u .nil)))))))))))))))))))))))))))))))))))))))))))
              · rintro k hc3
                refine jc_seq ?_
                refine jc_region ?_
                refine jo_l (ly_lt rfl rfl) (hd 72 rfl) ?_
                refine jo_nil ?_
                refine jc_seq ?_
                refine jc_if rfl (fun h5 => ?_) (fun h5 => ?_)
                · have hk : k < (rs q).length + 5 := by omega
                  have hkl := ow_len (rs := rs) (i := q)
                  refine jc_skip ?_
                  refine jc_seq ?_
                  refine jc_block ?_
                  refine jc_seq ?_
                  refine jc_region ?_
                  refine jo_l (ly_mv rfl) (hd 73 rfl) ?_
                  refine jo_l (ly_ia (i := k) sl25 rfl (ow_row3 hi hm) rfl rfl (by omega) rfl) (hd 74 rfl) ?_
                  refine jo_l (ly_is (ly_ldi one82 rfl (ow_row3 hi hm) (by omega)) (congrArg (V.i .u64) (ow_val hk))) (hd 75 rfl) ?_
                  refine jo_l (ly_as rfl) (hd 11 rfl) ?_
                  refine jo_l (ly_as rfl) (hd 12 rfl) ?_
                  refine jo_nil ?_
                  refine jc_seq ?_
                  refine jc_region ?_
                  refine jo_l (ly_mv rfl) (hd 76 rfl) ?_
                  refine jo_l (ly_mv rfl) (hd 77 rfl) ?_
                  refine jo_l (ly_leno sl25 rfl (ow_row3 hi hm)) (hd 78 rfl) ?_
                  refine jo_l (ly_sub rfl rfl (r := (((rs q).length : Nat) : Int)) (by rw [wrap_i64 (by omega) (by omega)]; omega)) (hd 79 rfl) ?_
                  refine jo_l (ly_lt rfl rfl) (hd 80 rfl) ?_
                  refine jo_l (ly_mv rfl) (hd 81 rfl) ?_
                  refine jo_ifp 81 rfl (fun h6 => ?_) (fun h6 => ?_)
                  · refine jo_g 81 rfl rfl (ly_mv rfl) (hd 82 rfl) ?_
                    refine jo_g 81 rfl rfl (ly_mv rfl) (hd 83 rfl) ?_
                    refine jo_g 81 rfl rfl (ly_rem rfl rfl (by decide) rfl) (hd 84 rfl) ?_
                    refine jo_g 81 rfl rfl (ly_add rfl rfl (r := owC q) (by rw [show ((q : Int).tmod 251) = ((q % 251 : Nat) : Int) from rfl, wrap_i64 (by omega) (by omega)]; unfold owC; omega)) (hd 85 rfl) ?_
                    refine jo_g 81 rfl rfl (ly_conv und3 und82 rfl (r := owC q) (by unfold owC; rw [wrap_u64 (by omega) (by omega)])) (hd 86 rfl) ?_
                    refine jo_g 81 rfl rfl (ly_ff (ly_ne rfl rfl) (fun h => h (if_pos (by omega)))) (hd 87 rfl) ?_
                    refine jo_l (ly_pick_t rfl rfl) (hd 88 rfl) ?_
                    refine jo_l (ly_mv rfl) (hd 89 rfl) ?_
                    refine jo_g 89 rfl rfl (ly_mv rfl) (hd 90 rfl) ?_
                    refine jo_g 89 rfl rfl (ly_mv rfl) (hd 91 rfl) ?_
                    refine jo_g 89 rfl rfl (ly_leno sl25 rfl (ow_row3 hi hm)) (hd 92 rfl) ?_
                    refine jo_g 89 rfl rfl (ly_sub rfl rfl (r := (((rs q).length : Nat) : Int)) (by rw [wrap_i64 (by omega) (by omega)]; omega)) (hd 93 rfl) ?_
                    refine jo_g 89 rfl rfl (ly_ge rfl rfl) (hd 94 rfl) ?_
                    refine jo_g 89 rfl rfl (ly_mv rfl) (hd 95 rfl) ?_
                    refine jo_ifp 95 rfl (fun h7 => ?_) (fun h7 => ?_)
                    · refine jo_g 95 rfl rfl (ly_mv rfl) (hd 96 rfl) ?_
                      refine jo_g 95 rfl rfl (ly_mv rfl) (hd 97 rfl) ?_
                      refine jo_g 95 rfl rfl (ly_mul rfl rfl (r := ((5 * q : Nat) : Int)) (by rw [wrap_i64 (by omega) (by omega)]; omega)) (hd 98 rfl) ?_
                      refine jo_g 95 rfl rfl (ly_add rfl rfl (r := ((300 + 5 * q : Nat) : Int)) (by rw [wrap_i64 (by omega) (by omega)]; omega)) (hd 99 rfl) ?_
                      refine jo_g 95 rfl rfl (ly_mv rfl) (hd 100 rfl) ?_
                      refine jo_g 95 rfl rfl (ly_add rfl rfl (r := ((300 + 5 * q + k : Nat) : Int)) (by rw [wrap_i64 (by omega) (by omega)]; omega)) (hd 101 rfl) ?_
                      refine jo_g 95 rfl rfl (ly_mv rfl) (hd 102 rfl) ?_
                      refine jo_g 95 rfl rfl (ly_leno sl25 rfl (ow_row3 hi hm)) (hd 103 rfl) ?_
                      refine jo_g 95 rfl rfl (ly_sub rfl rfl (r := ((300 + 5 * q + k - ((rs q).length + 5) : Nat) : Int)) (by rw [wrap_i64 (by omega) (by omega)]; omega)) (hd 104 rfl) ?_
                      refine jo_g 95 rfl rfl (ly_add rfl rfl (r := ((300 + 5 * q + (k - (rs q).length) : Nat) : Int)) (by rw [wrap_i64 (by omega) (by omega)]; omega)) (hd 105 rfl) ?_
                      refine jo_g 95 rfl rfl (ly_conv und3 und82 rfl (r := ((300 + 5 * q + (k - (rs q).length) : Nat) : Int)) (by rw [wrap_u64 (by omega) (by omega)]; try omega)) (hd 106 rfl) ?_
                      refine jo_g 95 rfl rfl (ly_ff (ly_ne rfl rfl) (fun h => h (if_neg (by omega)))) (hd 107 rfl) ?_
                      refine jo_g 89 rfl rfl (ly_pick_t rfl rfl) (hd 108 rfl) ?_
                      refine jo_l (ly_pick_f rfl rfl) (hd 109 rfl) ?_
                      refine jo_nil ?_
                      refine jc_litf rfl ?_
                      refine jc_skip ?_
                      refine jc_region ?_
                      refine jo_l (ly_add rfl rfl (wrap_i64 (by first | omega | (dsimp only; omega)) (by first | omega | (dsimp only; omega)))) (hd 110 rfl) ?_
                      refine jo_l (ly_mv rfl) (hd 71 rfl) ?_
                      refine jo_nil ?_
                      refine ⟨k + 1, ?_, ?_, rfl, cov_n 87 rfl rfl ?_⟩
                      · omega
                      · omega
                      · exact (.cons rfl (.u (.u (.u (.u (.u (.u (.u (.u (.u (.u (.u (.u (.u (.u (.u (.u (.u (.u (.u (.u (.u (.u (.u (.u (.u (.u (.u (.u (.u (.u (.u (.u (.u (.u (.u (.u (.u (.u (.u (.u (.u (.u .nil)))))))))))))))))))))))))))))))))))))))))))
                    · refine jo_s 95 rfl rfl rfl (hd 96 rfl) ?_
                      refine jo_s 95 rfl rfl rfl (hd 97 rfl) ?_
                      refine jo_s 95 rfl rfl rfl (hd 98 rfl) ?_
                      refine jo_s 95 rfl rfl rfl (hd 99 rfl) ?_
                      refine jo_s 95 rfl rfl rfl (hd 100 rfl) ?_
                      refine jo_s 95 rfl rfl rfl (hd 101 rfl) ?_
                      refine jo_s 95 rfl rfl rfl (hd 102 rfl) ?_
                      refine jo_s 95 rfl rfl rfl (hd 103 rfl) ?_
                      refine jo_s 95 rfl rfl rfl (hd 104 rfl) ?_
                      refine jo_s 95 rfl rfl rfl (hd 105 rfl) ?_
                      refine jo_s 95 rfl rfl rfl (hd 106 rfl) ?_
                      refine jo_s 95 rfl rfl rfl (hd 107 rfl) ?_
                      refine jo_g 89 rfl rfl (ly_pick_f rfl rfl) (hd 108 rfl) ?_
                      refine jo_l (ly_pick_f rfl rfl) (hd 109 rfl) ?_
                      refine jo_nil ?_
                      refine jc_litf rfl ?_
                      refine jc_skip ?_
                      refine jc_region ?_
                      refine jo_l (ly_add rfl rfl (wrap_i64 (by first | omega | (dsimp only; omega)) (by first | omega | (dsimp only; omega)))) (hd 110 rfl) ?_
                      refine jo_l (ly_mv rfl) (hd 71 rfl) ?_
                      refine jo_nil ?_
                      refine ⟨k + 1, ?_, ?_, rfl, cov_n 87 rfl rfl ?_⟩
                      · omega
                      · omega
                      · exact (.cons rfl (.u (.u (.u (.u (.u (.u (.u (.u (.u (.u (.u (.u (.u (.u (.u (.u (.u (.u (.u (.u (.u (.u (.u (.u (.u (.u (.u (.u (.u (.u (.u (.u (.u (.u (.u (.u (.u (.u (.u (.u (.u (.u .nil)))))))))))))))))))))))))))))))))))))))))))
                  · refine jo_s 81 rfl rfl rfl (hd 82 rfl) ?_
                    refine jo_s 81 rfl rfl rfl (hd 83 rfl) ?_
                    refine jo_s 81 rfl rfl rfl (hd 84 rfl) ?_
                    refine jo_s 81 rfl rfl rfl (hd 85 rfl) ?_
                    refine jo_s 81 rfl rfl rfl (hd 86 rfl) ?_
                    refine jo_s 81 rfl rfl rfl (hd 87 rfl) ?_
                    refine jo_l (ly_pick_f rfl rfl) (hd 88 rfl) ?_
                    refine jo_l (ly_mv rfl) (hd 89 rfl) ?_
                    refine jo_g 89 rfl rfl (ly_mv rfl) (hd 90 rfl) ?_
                    refine jo_g 89 rfl rfl (ly_mv rfl) (hd 91 rfl) ?_
                    refine jo_g 89 rfl rfl (ly_leno sl25 rfl (ow_row3 hi hm)) (hd 92 rfl) ?_
                    refine jo_g 89 rfl rfl (ly_sub rfl rfl (r := (((rs q).length : Nat) : Int)) (by rw [wrap_i64 (by omega) (by omega)]; omega)) (hd 93 rfl) ?_
                    refine jo_g 89 rfl rfl (ly_ge rfl rfl) (hd 94 rfl) ?_
                    refine jo_g 89 rfl rfl (ly_mv rfl) (hd 95 rfl) ?_
                    refine jo_ifp 95 rfl (fun h10 => ?_) (fun h10 => ?_)
                    · refine jo_g 95 rfl rfl (ly_mv rfl) (hd 96 rfl) ?_
                      refine jo_g 95 rfl rfl (ly_mv rfl) (hd 97 rfl) ?_
                      refine jo_g 95 rfl rfl (ly_mul rfl rfl (r := ((5 * q : Nat) : Int)) (by rw [wrap_i64 (by omega) (by omega)]; omega)) (hd 98 rfl) ?_
                      refine jo_g 95 rfl rfl (ly_add rfl rfl (r := ((300 + 5 * q : Nat) : Int)) (by rw [wrap_i64 (by omega) (by omega)]; omega)) (hd 99 rfl) ?_
                      refine jo_g 95 rfl rfl (ly_mv rfl) (hd 100 rfl) ?_
                      refine jo_g 95 rfl rfl (ly_add rfl rfl (r := ((300 + 5 * q + k : Nat) : Int)) (by rw [wrap_i64 (by omega) (by omega)]; omega)) (hd 101 rfl) ?_
                      refine jo_g 95 rfl rfl (ly_mv rfl) (hd 102 rfl) ?_
                      refine jo_g 95 rfl rfl (ly_leno sl25 rfl (ow_row3 hi hm)) (hd 103 rfl) ?_
                      refine jo_g 95 rfl rfl (ly_sub rfl rfl (r := ((300 + 5 * q + k - ((rs q).length + 5) : Nat) : Int)) (by rw [wrap_i64 (by omega) (by omega)]; omega)) (hd 104 rfl) ?_
                      refine jo_g 95 rfl rfl (ly_add rfl rfl (r := ((300 + 5 * q + (k - (rs q).length) : Nat) : Int)) (by rw [wrap_i64 (by omega) (by omega)]; omega)) (hd 105 rfl) ?_
                      refine jo_g 95 rfl rfl (ly_conv und3 und82 rfl (r := ((300 + 5 * q + (k - (rs q).length) : Nat) : Int)) (by rw [wrap_u64 (by omega) (by omega)]; try omega)) (hd 106 rfl) ?_
                      refine jo_g 95 rfl rfl (ly_ff (ly_ne rfl rfl) (fun h => h (if_neg (by omega)))) (hd 107 rfl) ?_
                      refine jo_g 89 rfl rfl (ly_pick_t rfl rfl) (hd 108 rfl) ?_
                      refine jo_l (ly_pick_f rfl rfl) (hd 109 rfl) ?_
                      refine jo_nil ?_
                      refine jc_litf rfl ?_
                      refine jc_skip ?_
                      refine jc_region ?_
                      refine jo_l (ly_add rfl rfl (wrap_i64 (by first | omega | (dsimp only; omega)) (by first | omega | (dsimp only; omega)))) (hd 110 rfl) ?_
                      refine jo_l (ly_mv rfl) (hd 71 rfl) ?_
                      refine jo_nil ?_
                      refine ⟨k + 1, ?_, ?_, rfl, cov_n 87 rfl rfl ?_⟩
                      · omega
                      · omega
                      · exact (.cons rfl (.u (.u (.u (.u (.u (.u (.u (.u (.u (.u (.u (.u (.u (.u (.u (.u (.u (.u (.u (.u (.u (.u (.u (.u (.u (.u (.u (.u (.u (.u (.u (.u (.u (.u (.u (.u (.u (.u (.u (.u (.u (.u .nil)))))))))))))))))))))))))))))))))))))))))))
                    · refine jo_s 95 rfl rfl rfl (hd 96 rfl) ?_
                      refine jo_s 95 rfl rfl rfl (hd 97 rfl) ?_
                      refine jo_s 95 rfl rfl rfl (hd 98 rfl) ?_
                      refine jo_s 95 rfl rfl rfl (hd 99 rfl) ?_
                      refine jo_s 95 rfl rfl rfl (hd 100 rfl) ?_
                      refine jo_s 95 rfl rfl rfl (hd 101 rfl) ?_
                      refine jo_s 95 rfl rfl rfl (hd 102 rfl) ?_
                      refine jo_s 95 rfl rfl rfl (hd 103 rfl) ?_
                      refine jo_s 95 rfl rfl rfl (hd 104 rfl) ?_
                      refine jo_s 95 rfl rfl rfl (hd 105 rfl) ?_
                      refine jo_s 95 rfl rfl rfl (hd 106 rfl) ?_
                      refine jo_s 95 rfl rfl rfl (hd 107 rfl) ?_
                      refine jo_g 89 rfl rfl (ly_pick_f rfl rfl) (hd 108 rfl) ?_
                      refine jo_l (ly_pick_f rfl rfl) (hd 109 rfl) ?_
                      refine jo_nil ?_
                      refine jc_litf rfl ?_
                      refine jc_skip ?_
                      refine jc_region ?_
                      refine jo_l (ly_add rfl rfl (wrap_i64 (by first | omega | (dsimp only; omega)) (by first | omega | (dsimp only; omega)))) (hd 110 rfl) ?_
                      refine jo_l (ly_mv rfl) (hd 71 rfl) ?_
                      refine jo_nil ?_
                      refine ⟨k + 1, ?_, ?_, rfl, cov_n 87 rfl rfl ?_⟩
                      · omega
                      · omega
                      · exact (.cons rfl (.u (.u (.u (.u (.u (.u (.u (.u (.u (.u (.u (.u (.u (.u (.u (.u (.u (.u (.u (.u (.u (.u (.u (.u (.u (.u (.u (.u (.u (.u (.u (.u (.u (.u (.u (.u (.u (.u (.u (.u (.u (.u .nil)))))))))))))))))))))))))))))))))))))))))))
                · refine jc_exit ?_
                  refine jc_region ?_
                  refine jo_l (ly_add rfl rfl (wrap_i64 (by first | omega | (dsimp only; omega)) (by first | omega | (dsimp only; omega)))) (hd 111 rfl) ?_
                  refine jo_l (ly_mv rfl) (hd 64 rfl) ?_
                  refine jo_nil ?_
                  refine ⟨q + 1, ?_, ?_, rfl, cov_n 108 (by kernel_rfl) (by kernel_rfl) ?_⟩
                  · omega
                  · omega
                  · exact (.cons rfl (.u (.u (.u (.u (.u (.u (.u (.u (.u (.u (.u (.u (.u (.u (.u (.u (.u (.u (.u (.u (.u (.u (.u (.u (.u (.u (.u (.u (.u (.u (.u (.u (.u (.u (.u (.u (.u (.u (.u (.u (.u (.u (.u (.u (.u (.u (.u (.u (.u (.u (.u (.u .nil)))))))))))))))))))))))))))))))))))))))))))))))))))))
            · refine jc_exit ?_
              refine jc_seq ?_
              refine jc_region ?_
              refine jo_l (ly_as rfl) (hd 2 rfl) ?_
              refine jo_nil ?_
              refine jc_ret ?_
              refine ⟨_, (.cons rfl .nil), rfl, (ow_end (m := i)), ?_⟩
              exact rfl
end Go.Proofs.Ytcdipmjgpimmdaa.Vc

/- Contracts of nat.trim, nat.Norm. -/
set_option linter.unusedVariables false
set_option linter.unusedSimpArgs false
namespace Go.Proofs.Ytcdipmjgpimmdaa.Vc
open Go Go.RowKit
set_option maxHeartbeats 4000000 in
theorem trim_s (l : List Int) (hl : l.length < 1099511627776) : Spec Try.prog 84 [.n false .u64 l] (fun o => o = .ret (.n false .u64 (trm l))) := by
  refine spec_of' [(0, .n false .u64 l)] rfl Try.func84 rfl (Nat.le_of_ble_eq_true rfl) fun Γ hN hds hL hR => ?_
  have hd : ∀ d, Nat.blt d 21 = true → d < Γ.N := fun d h => by rw [hN]; exact Nat.le_of_ble_eq_true h
  refine jc_seq ?_
  refine jc_region ?_
  refine jo_l (ly_as rfl) (hd 2 rfl) ?_
  refine jo_nil ?_
  refine jc_seq ?_
  refine jc_block ?_
  refine jc_loopF (G := Nat) (fun k => k ≤ l.length ∧ tN l k = tN l l.length) (fun k => [(0, .n false .u64 (l.take k)), (3, .u), (4, .u), (5, .u), (6, .u), (7, .u), (8, .u), (9, .u), (10, .u), (11, .u), (12, .u), (13, .u), (14, .u), (15, .u), (16, .u), (17, .u), (18, .u), (19, .u)]) (fun _ => _) (fun k => k) l.length ?_ ?_ rfl ?_
  · exact ⟨Nat.le_refl _, rfl⟩
  · exact (.cons (by rw [List.take_length]; rfl) (.u (.u (.u (.u (.u (.u (.u (.u (.u (.u (.u (.u (.u (.u (.u (.u (.u .nil))))))))))))))))))
  · rintro k ⟨hc1, hc2⟩
    have hm : (l.take k).length = k := by rw [List.length_take]; omega
    refine jc_seq ?_
    refine jc_seq ?_
    refine jc_region ?_
    refine jo_l (ly_mv rfl) (hd 3 rfl) ?_
    refine jo_l (ly_lenn sl28 rfl) (hd 4 rfl) ?_
    refine jo_l (ly_gt rfl rfl) (hd 5 rfl) ?_
    refine jo_l (ly_mv rfl) (hd 6 rfl) ?_
    refine jo_ifp 6 rfl (fun h1 => ?_) (fun h1 => ?_)
    · refine jo_g 6 rfl rfl (ly_mv rfl) (hd 7 rfl) ?_
      refine jo_g 6 rfl rfl (ly_mv rfl) (hd 8 rfl) ?_
      refine jo_g 6 rfl rfl (ly_lenn sl28 rfl) (hd 9 rfl) ?_
      refine jo_g 6 rfl rfl (ly_sub rfl rfl (wrap_i64 (by omega) (by omega))) (hd 10 rfl) ?_
      refine jo_g 6 rfl rfl (ly_ian (i := k - 1) sl28 rfl rfl (by first | rfl | omega) (by omega)) (hd 11 rfl) ?_
      refine jo_g 6 rfl rfl (ly_ldq one82 rfl rfl) (hd 12 rfl) ?_
      refine jo_g 6 rfl rfl (ly_eq rfl rfl) (hd 13 rfl) ?_
      refine jo_l (ly_pick_t rfl rfl) (hd 14 rfl) ?_
      refine jo_nil ?_
      refine jc_if rfl (fun h2 => ?_) (fun h2 => ?_)
      · refine jc_skip ?_
        refine jc_block ?_
        refine jc_region ?_
        refine jo_l (ly_mv rfl) (hd 15 rfl) ?_
        refine jo_l (ly_mv rfl) (hd 16 rfl) ?_
        refine jo_l (ly_lenn sl28 rfl) (hd 17 rfl) ?_
        refine jo_l (ly_sub rfl rfl (wrap_i64 (by omega) (by omega))) (hd 18 rfl) ?_
        refine jo_l (ly_sln sl28 rfl bnd_none (bnd_some' rfl (show ((l.take k).length : Int) - 1 = ((k - 1 : Nat) : Int) by omega)) (.inl rfl) (by omega) (by omega)) (hd 19 rfl) ?_
        refine jo_l (ly_as rfl) (hd 0 rfl) ?_
        refine jo_nil ?_
        refine ⟨k - 1, ?_, ?_, rfl, cov_n 37 rfl rfl ?_⟩
        · exact ⟨by omega, by rw [← hc2, tN_down (by omega) (by rw [← getD_take (show k - 1 < k by omega)]; assumption)]⟩
        · omega
        · exact (.cons (by show some (V.n false .u64 _) = some (V.n false .u64 _); rw [List.drop_zero, List.take_take, Nat.min_eq_left (by omega)]) (.u (.u (.u (.u (.u (.u (.u (.u (.u (.u (.u (.u (.u (.u (.u (.u (.u .nil))))))))))))))))))
      · refine jc_exit ?_
        refine jc_seq ?_
        refine jc_region ?_
        refine jo_l (ly_mv rfl) (hd 20 rfl) ?_
        refine jo_l (ly_as rfl) (hd 2 rfl) ?_
        refine jo_nil ?_
        refine jc_ret ?_
        refine ⟨_, _, (.cons rfl .nil), .n, ?_⟩
        unfold trm
        rw [← hc2, tN_stop (by omega) (by rw [← getD_take (show k - 1 < k by omega)]; assumption)]
    · refine jo_s 6 rfl rfl rfl (hd 7 rfl) ?_
      refine jo_s 6 rfl rfl rfl (hd 8 rfl) ?_
      refine jo_s 6 rfl rfl rfl (hd 9 rfl) ?_
      refine jo_s 6 rfl rfl rfl (hd 10 rfl) ?_
      refine jo_s 6 rfl rfl rfl (hd 11 rfl) ?_
      refine jo_s 6 rfl rfl rfl (hd 12 rfl) ?_
      refine jo_s 6 rfl rfl rfl (hd 13 rfl) ?_
      refine jo_l (ly_pick_f rfl rfl) (hd 14 rfl) ?_
      refine jo_nil ?_
      refine jc_litf rfl ?_
      refine jc_exit ?_
      refine jc_seq ?_
      refine jc_region ?_
      refine jo_l (ly_mv rfl) (hd 20 rfl) ?_
      refine jo_l (ly_as rfl) (hd 2 rfl) ?_
      refine jo_nil ?_
      refine jc_ret ?_
      refine ⟨_, _, (.cons rfl .nil), .n, ?_⟩
      unfold trm
      rw [← hc2, tN_0 (by omega)]

set_option maxHeartbeats 4000000 in
theorem Norm_s (l : List Int) (hl : l.length < 1099511627776) : Spec Try.prog 86 [.n false .u64 l] (fun o => o = .ret (.n true .u64 (trm l))) := by
  refine spec_of' [(0, .n false .u64 l)] rfl Try.func86 rfl (Nat.le_of_ble_eq_true rfl) fun Γ hN hds hL hR => ?_
  have hd : ∀ d, Nat.blt d 6 = true → d < Γ.N := fun d h => by rw [hN]; exact Nat.le_of_ble_eq_true h
  have hm := trm_len l
  refine jc_seq ?_
  refine jc_region ?_
  refine jo_l (ly_as rfl) (hd 2 rfl) ?_
  refine jo_nil ?_
  refine jc_seq ?_
  refine jc_region ?_
  refine jo_l (ly_mv rfl) (hd 3 rfl) ?_
  refine jo_call Try.f84 (trim_s l hl) rfl Try.func84 rfl rfl (ovL_cons rfl ovL_nil) (.cons .n .nil) (hd 4 rfl) ?_ (fun ch hp => by simp at hp)
  rintro y hy; injection hy with hy; subst hy
  refine jo_h (hy_app0 (id := 0) el28 rfl rfl src_n (by omega) (by unfold maxLen; omega) rfl) (hd 5 rfl) ?_
  refine jo_l (ly_as rfl) (hd 2 rfl) ?_
  refine jo_nil ?_
  refine jc_ret ?_
  refine ⟨_, _, (.cons rfl .nil), (.o rfl (by simp) rfl), ?_⟩
  rw [List.drop_zero, List.take_length]
end Go.Proofs.Ytcdipmjgpimmdaa.Vc

/- Contracts of bits.Len64, nat.From. -/
set_option linter.unusedVariables false
set_option linter.unusedSimpArgs false
namespace Go.Proofs.Ytcdipmjgpimmdaa.Vc
open Go Go.RowKit
set_option maxHeartbeats 4000000 in
set_option maxRecDepth 100000 in
theorem Len64_s (x : Nat) (hx : x < 18446744073709551616) : Spec Try.prog 85 [.i .u64 (x : Int)] (fun o => o = .ret (.i .i64 (bl 64 x : Int))) := by
  refine spec_of' [(0, .i .u64 (x : Int))] rfl Try.func85 rfl (Nat.le_of_ble_eq_true rfl) fun Γ hN hds hL hR => ?_
  have hd : ∀ d, Nat.blt d 25 = true → d < Γ.N := fun d h => by rw [hN]; exact Nat.le_of_ble_eq_true h
  refine jc_seq ?_
  refine jc_region ?_
  refine jo_l (ly_as rfl) (hd 2 rfl) ?_
  refine jo_nil ?_
  refine jc_meetH (G := Nat × Nat) (fun g => bl 64 x = g.2 + bl 64 g.1 ∧ g.1 < 4294967296 ∧ g.2 ≤ 32) (fun g => [(0, .i .u64 (g.1 : Int)), (2, .i .i64 (g.2 : Int)), (3, .u), (4, .u), (5, .u), (6, .u)]) ?_ ?_
  · refine jc_seq ?_
    refine jc_region ?_
    refine jo_l (ly_mv rfl) (hd 3 rfl) ?_
    refine jo_l (ly_ge rfl rfl) (hd 4 rfl) ?_
    refine jo_nil ?_
    refine jc_if rfl (fun h1 => ?_) (fun h1 => ?_)
    · refine jc_seq ?_
      refine jc_region ?_
      refine jo_l (ly_mv rfl) (hd 5 rfl) ?_
      refine jo_l (ly_is (ly_shr rfl rfl (by first | omega | (dsimp only; omega)) rfl) (show V.i .u64 _ = V.i .u64 ((x / 4294967296 : Nat) : Int) from congrArg (V.i .u64) (shr_nat (by decide)))) (hd 6 rfl) ?_
      refine jo_l (ly_as rfl) (hd 0 rfl) ?_
      refine jo_nil ?_
      refine jc_region ?_
      refine jo_l (ly_as rfl) (hd 2 rfl) ?_
      refine jo_nil ?_
      refine ⟨(x / 4294967296, 32), ?_, rfl, cov_n 6 rfl rfl ?_⟩
      · exact ⟨by have h9 := bl64_shift (k := 32) (by decide) (show 2 ^ 32 ≤ x by omega) (by omega); rw [show 2 ^ 32 = 4294967296 by decide] at h9; dsimp only; omega, by dsimp only; omega, by dsimp only; omega⟩
      · exact (.cons rfl (.cons (by show some (V.i .i64 _) = some (V.i .i64 _); rfl) (.u (.u (.u (.u .nil))))))
    · refine jc_skip ?_
      refine ⟨(x, 0), ?_, rfl, cov_n 2 rfl rfl ?_⟩
      · exact ⟨by dsimp only; omega, by dsimp only; omega, by dsimp only; omega⟩
      · exact (.cons rfl (.cons (by show some (V.i .i64 _) = some (V.i .i64 _); rfl) (.u (.u (.u (.u .nil))))))
  · rintro ⟨x1, n1⟩ ⟨he1, hx1, hn1⟩
    dsimp only at he1 hx1 hn1
    refine jc_meetH (G := Nat × Nat) (fun g => bl 64 x = g.2 + bl 64 g.1 ∧ g.1 < 65536 ∧ g.2 ≤ 48) (fun g => [(0, .i .u64 (g.1 : Int)), (2, .i .i64 (g.2 : Int)), (7, .u), (8, .u), (9, .u), (10, .u), (11, .u), (12, .u)]) ?_ ?_
    · refine jc_seq ?_
      refine jc_region ?_
      refine jo_l (ly_mv rfl) (hd 7 rfl) ?_
      refine jo_l (ly_ge rfl rfl) (hd 8 rfl) ?_
      refine jo_nil ?_
      refine jc_if rfl (fun h2 => ?_) (fun h2 => ?_)
      · refine jc_seq ?_
        refine jc_region ?_
        refine jo_l (ly_mv rfl) (hd 9 rfl) ?_
        refine jo_l (ly_is (ly_shr rfl rfl (by first | omega | (dsimp only; omega)) rfl) (show V.i .u64 _ = V.i .u64 ((x1 / 65536 : Nat) : Int) from congrArg (V.i .u64) (shr_nat (by decide)))) (hd 10 rfl) ?_
        refine jo_l (ly_as rfl) (hd 0 rfl) ?_
        refine jo_nil ?_
        refine jc_region ?_
        refine jo_l (ly_mv rfl) (hd 11 rfl) ?_
        refine jo_l (ly_add rfl rfl (r := ((n1 + 16 : Nat) : Int)) (by rw [wrap_i64 (by omega) (by omega)]; omega)) (hd 12 rfl) ?_
        refine jo_l (ly_as rfl) (hd 2 rfl) ?_
        refine jo_nil ?_
        refine ⟨(x1 / 65536, n1 + 16), ?_, rfl, cov_n 8 rfl rfl ?_⟩
        · exact ⟨by have h9 := bl64_shift (k := 16) (by decide) (show 2 ^ 16 ≤ x1 by omega) (by omega); rw [show 2 ^ 16 = 65536 by decide] at h9; dsimp only; omega, by dsimp only; omega, by dsimp only; omega⟩
        · exact (.cons rfl (.cons (by show some (V.i .i64 _) = some (V.i .i64 _); rfl) (.u (.u (.u (.u (.u (.u .nil))))))))
      · refine jc_skip ?_
        refine ⟨(x1, n1), ?_, rfl, cov_n 2 rfl rfl ?_⟩
        · exact ⟨by dsimp only; omega, by dsimp only; omega, by dsimp only; omega⟩
        · exact (.cons rfl (.cons (by show some (V.i .i64 _) = some (V.i .i64 _); rfl) (.u (.u (.u (.u (.u (.u .nil))))))))
    · rintro ⟨x2, n2⟩ ⟨he2, hx2, hn2⟩
      dsimp only at he2 hx2 hn2
      refine jc_meetH (G := Nat × Nat) (fun g => bl 64 x = g.2 + bl 64 g.1 ∧ g.1 < 256 ∧ g.2 ≤ 56) (fun g => [(0, .i .u64 (g.1 : Int)), (2, .i .i64 (g.2 : Int)), (13, .u), (14, .u), (15, .u), (16, .u), (17, .u), (18, .u)]) ?_ ?_
      · refine jc_seq ?_
        refine jc_region ?_
        refine jo_l (ly_mv rfl) (hd 13 rfl) ?_
        refine jo_l (ly_ge rfl rfl) (hd 14 rfl) ?_
        refine jo_nil ?_
        refine jc_if rfl (fun h3 => ?_) (fun h3 => ?_)
        · refine jc_seq ?_
          refine jc_region ?_
          refine jo_l (ly_mv rfl) (hd 15 rfl) ?_
          refine jo_l (ly_is (ly_shr rfl rfl (by first | omega | (dsimp only; omega)) rfl) (show V.i .u64 _ = V.i .u64 ((x2 / 256 : Nat) : Int) from congrArg (V.i .u64) (shr_nat (by decide)))) (hd 16 rfl) ?_
          refine jo_l (ly_as rfl) (hd 0 rfl) ?_
          refine jo_nil ?_
          refine jc_region ?_
          refine jo_l (ly_mv rfl) (hd 17 rfl) ?_
          refine jo_l (ly_add rfl rfl (r := ((n2 + 8 : Nat) : Int)) (by rw [wrap_i64 (by omega) (by omega)]; omega)) (hd 18 rfl) ?_
          refine jo_l (ly_as rfl) (hd 2 rfl) ?_
          refine jo_nil ?_
          refine ⟨(x2 / 256, n2 + 8), ?_, rfl, cov_n 8 rfl rfl ?_⟩
          · exact ⟨by have h9 := bl64_shift (k := 8) (by decide) (show 2 ^ 8 ≤ x2 by omega) (by omega); rw [show 2 ^ 8 = 256 by decide] at h9; dsimp only; omega, by dsimp only; omega, by dsimp only; omega⟩
          · exact (.cons rfl (.cons (by show some (V.i .i64 _) = some (V.i .i64 _); rfl) (.u (.u (.u (.u (.u (.u .nil))))))))
        · refine jc_skip ?_
          refine ⟨(x2, n2), ?_, rfl, cov_n 2 rfl rfl ?_⟩
          · exact ⟨by dsimp only; omega, by dsimp only; omega, by dsimp only; omega⟩
          · exact (.cons rfl (.cons (by show some (V.i .i64 _) = some (V.i .i64 _); rfl) (.u (.u (.u (.u (.u (.u .nil))))))))
      · rintro ⟨x3, n3⟩ ⟨he3, hx3, hn3⟩
        dsimp only at he3 hx3 hn3
        refine jc_seq ?_
        refine jc_region ?_
        refine jo_l (ly_mv rfl) (hd 19 rfl) ?_
        refine jo_l (ly_mv rfl) (hd 20 rfl) ?_
        refine jo_l (ly_conv und82 und5 rfl (wrap_u8 (by first | omega | (dsimp only; omega)) (by first | omega | (dsimp only; omega)))) (hd 21 rfl) ?_
        refine jo_l (ly_ixs (b := lenTab) (i := x3) und9 (by kernel_rfl) rfl rfl (show x3 < 256 by omega)) (hd 22 rfl) ?_
        have h7 := lenTab_at hx3
        have h8 := bl_le 64 x3
        refine jo_l (ly_conv und5 und3 rfl (wrap_i64 (by first | omega | (dsimp only; omega)) (by first | omega | (dsimp only; omega)))) (hd 23 rfl) ?_
        refine jo_l (ly_add rfl rfl (wrap_i64 (by first | omega | (dsimp only; omega)) (by first | omega | (dsimp only; omega)))) (hd 24 rfl) ?_
        refine jo_l (ly_as rfl) (hd 2 rfl) ?_
        refine jo_nil ?_
        refine jc_ret ?_
        refine ⟨_, _, (.cons rfl .nil), .i, ?_⟩
        have h7 := lenTab_at hx3
        rw [h7, he3]
        rfl

set_option maxHeartbeats 4000000 in
theorem From_s (v : Int) : Spec Try.prog 70 [.i .u64 v] (fun o => o = .ret (.n true .u64 (if v = 0 then [] else [v]))) := by
  refine spec_of' [(0, .i .u64 v)] rfl Try.func70 rfl (Nat.le_of_ble_eq_true rfl) fun Γ hN hds hL hR => ?_
  have hd : ∀ d, Nat.blt d 7 = true → d < Γ.N := fun d h => by rw [hN]; exact Nat.le_of_ble_eq_true h
  refine jc_seq ?_
  refine jc_region ?_
  refine jo_l (ly_as rfl) (hd 2 rfl) ?_
  refine jo_nil ?_
  refine jc_seq ?_
  refine jc_seq ?_
  refine jc_region ?_
  refine jo_l (ly_mv rfl) (hd 3 rfl) ?_
  refine jo_l (ly_eq rfl rfl) (hd 4 rfl) ?_
  refine jo_nil ?_
  refine jc_if rfl (fun h1 => ?_) (fun h1 => ?_)
  · refine jc_seq ?_
    refine jc_region ?_
    refine jo_l (ly_as rfl) (hd 2 rfl) ?_
    refine jo_nil ?_
    refine jc_ret ?_
    refine ⟨_, _, (.cons rfl .nil), (.nil (fr := true) (k := .u64)), ?_⟩
    rw [if_pos (by assumption)]
  · refine jc_skip ?_
    refine jc_seq ?_
    refine jc_region ?_
    refine jo_l (ly_mv rfl) (hd 5 rfl) ?_
    refine jo_h (hy_lit (id := 0) (xs := [.tmp 5]) el28 rfl (ovL_cons rfl ovL_nil) rfl (all2_of rfl) (by decide) rfl) (hd 6 rfl) ?_
    refine jo_l (ly_as rfl) (hd 2 rfl) ?_
    refine jo_nil ?_
    refine jc_ret ?_
    refine ⟨_, _, (.cons rfl .nil), (.o (T := 82) (k := .u64) (l := [v]) rfl (by simp) rfl), ?_⟩
    rw [if_neg (by assumption)]
    rfl
end Go.Proofs.Ytcdipmjgpimmdaa.Vc

/- Contracts of nat.Length, Compare, told. -/
set_option linter.unusedVariables false
set_option linter.unusedSimpArgs false
namespace Go.Proofs.Ytcdipmjgpimmdaa.Vc
open Go Go.RowKit
set_option maxHeartbeats 4000000 in
theorem Length_s (l : List Int) (hl : l.length < 1099511627776) (hu : u64s l) : Spec Try.prog 66 [.n false .u64 l] (fun o => o = .ret (.i .i64 (lenN l : Int))) := by
  refine spec_of' [(0, .n false .u64 l)] rfl Try.func66 rfl (Nat.le_of_ble_eq_true rfl) fun Γ hN hds hL hR => ?_
  have hd : ∀ d, Nat.blt d 20 = true → d < Γ.N := fun d h => by rw [hN]; exact Nat.le_of_ble_eq_true h
  have hm := trm_len l
  refine jc_seq ?_
  refine jc_region ?_
  refine jo_l (ly_as rfl) (hd 2 rfl) ?_
  refine jo_nil ?_
  refine jc_seq ?_
  refine jc_region ?_
  refine jo_l (ly_mv rfl) (hd 3 rfl) ?_
  refine jo_call Try.f84 (trim_s l hl) rfl Try.func84 rfl rfl (ovL_cons rfl ovL_nil) (.cons .n .nil) (hd 4 rfl) ?_ (fun ch hp => by simp at hp)
  rintro y hy; injection hy with hy; subst hy
  refine jo_l (ly_as rfl) (hd 0 rfl) ?_
  refine jo_nil ?_
  refine jc_seq ?_
  refine jc_seq ?_
  refine jc_region ?_
  refine jo_l (ly_mv rfl) (hd 5 rfl) ?_
  refine jo_l (ly_lenn sl28 rfl) (hd 6 rfl) ?_
  refine jo_l (ly_eq rfl rfl) (hd 7 rfl) ?_
  refine jo_nil ?_
  refine jc_if rfl (fun h1 => ?_) (fun h1 => ?_)
  · refine jc_seq ?_
    refine jc_region ?_
    refine jo_l (ly_as rfl) (hd 2 rfl) ?_
    refine jo_nil ?_
    refine jc_ret ?_
    refine ⟨_, _, (.cons rfl .nil), .i, ?_⟩
    unfold lenN
    rw [if_pos (by omega)]
    rfl
  · have htop := u64s_at (u64s_trm hu) (i := (trm l).length - 1) (by omega)
    have hbl := bl_le 64 ((trm l).getD ((trm l).length - 1) 0).toNat
    refine jc_skip ?_
    refine jc_seq ?_
    refine jc_region ?_
    refine jo_l (ly_mv rfl) (hd 8 rfl) ?_
    refine jo_l (ly_lenn sl28 rfl) (hd 9 rfl) ?_
    refine jo_l (ly_sub rfl rfl (wrap_i64 (by omega) (by omega))) (hd 10 rfl) ?_
    refine jo_l (ly_mul rfl rfl (wrap_i64 (by omega) (by omega))) (hd 11 rfl) ?_
    refine jo_l (ly_mv rfl) (hd 12 rfl) ?_
    refine jo_l (ly_mv rfl) (hd 13 rfl) ?_
    refine jo_l (ly_lenn sl28 rfl) (hd 14 rfl) ?_
    refine jo_l (ly_sub rfl rfl (wrap_i64 (by omega) (by omega))) (hd 15 rfl) ?_
    refine jo_l (ly_ian (i := (trm l).length - 1) sl28 rfl rfl (by first | rfl | omega) (by omega)) (hd 16 rfl) ?_
    refine jo_l (ly_is (ly_ldq one82 rfl rfl) (show V.i .u64 ((trm l).getD ((trm l).length - 1) 0) = V.i .u64 (((trm l).getD ((trm l).length - 1) 0).toNat : Int) by rw [Int.toNat_of_nonneg htop.1])) (hd 17 rfl) ?_
    refine jo_call Try.f85 (Len64_s ((trm l).getD ((trm l).length - 1) 0).toNat (by omega)) rfl Try.func85 rfl rfl (ovL_cons rfl ovL_nil) (.cons .i .nil) (hd 18 rfl) ?_ (fun ch hp => by simp at hp)
    rintro y hy; injection hy with hy; subst hy
    refine jo_l (ly_add rfl rfl (wrap_i64 (by omega) (by omega))) (hd 19 rfl) ?_
    refine jo_l (ly_as rfl) (hd 2 rfl) ?_
    refine jo_nil ?_
    refine jc_ret ?_
    refine ⟨_, _, (.cons rfl .nil), .i, ?_⟩
    unfold lenN
    rw [if_neg (by omega)]
    show Out.ret (V.i .i64 _) = Out.ret (V.i .i64 _)
    congr 2
    omega

set_option maxHeartbeats 4000000 in
theorem Compare_s (a b : List Int) (ha : a.length < 4294967296) (hb : b.length < 4294967296) : Spec Try.prog 72 [.n false .u64 a, .n false .u64 b] (fun o => o = .ret (.i .i64 (cmpL (trm a) (trm b)))) := by
  refine spec_of' [(0, .n false .u64 a), (1, .n false .u64 b)] rfl Try.func72 rfl (Nat.le_of_ble_eq_true rfl) fun Γ hN hds hL hR => ?_
  have hd : ∀ d, Nat.blt d 45 = true → d < Γ.N := fun d h => by rw [hN]; exact Nat.le_of_ble_eq_true h
  have hma := trm_len a
  have hmb := trm_len b
  refine jc_seq ?_
  refine jc_region ?_
  refine jo_l (ly_as rfl) (hd 4 rfl) ?_
  refine jo_nil ?_
  refine jc_seq ?_
  refine jc_region ?_
  refine jo_l (ly_mv rfl) (hd 6 rfl) ?_
  refine jo_call Try.f84 (trim_s a (by omega)) rfl Try.func84 rfl rfl (ovL_cons rfl ovL_nil) (.cons .n .nil) (hd 7 rfl) ?_ (fun ch hp => by simp at hp)
  rintro y hy; injection hy with hy; subst hy
  refine jo_l (ly_mv rfl) (hd 8 rfl) ?_
  refine jo_call Try.f84 (trim_s b (by omega)) rfl Try.func84 rfl rfl (ovL_cons rfl ovL_nil) (.cons .n .nil) (hd 9 rfl) ?_ (fun ch hp => by simp at hp)
  rintro y hy; injection hy with hy; subst hy
  refine jo_l (ly_as rfl) (hd 0 rfl) ?_
  refine jo_l (ly_as rfl) (hd 1 rfl) ?_
  refine jo_nil ?_
  refine jc_seq ?_
  refine jc_seq ?_
  refine jc_region ?_
  refine jo_l (ly_mv rfl) (hd 10 rfl) ?_
  refine jo_l (ly_lenn sl28 rfl) (hd 11 rfl) ?_
  refine jo_l (ly_mv rfl) (hd 12 rfl) ?_
  refine jo_l (ly_lenn sl28 rfl) (hd 13 rfl) ?_
  refine jo_l (ly_ne rfl rfl) (hd 14 rfl) ?_
  refine jo_nil ?_
  refine jc_if rfl (fun h1 => ?_) (fun h1 => ?_)
  · refine jc_seq ?_
    refine jc_seq ?_
    refine jc_region ?_
    refine jo_l (ly_mv rfl) (hd 15 rfl) ?_
    refine jo_l (ly_lenn sl28 rfl) (hd 16 rfl) ?_
    refine jo_l (ly_mv rfl) (hd 17 rfl) ?_
    refine jo_l (ly_lenn sl28 rfl) (hd 18 rfl) ?_
    refine jo_l (ly_lt rfl rfl) (hd 19 rfl) ?_
    refine jo_nil ?_
    refine jc_if rfl (fun h2 => ?_) (fun h2 => ?_)
    · refine jc_seq ?_
      refine jc_region ?_
      refine jo_l (ly_as rfl) (hd 4 rfl) ?_
      refine jo_nil ?_
      refine jc_ret ?_
      refine ⟨_, _, (.cons rfl .nil), .i, ?_⟩
      unfold cmpL
      rw [if_pos (by omega)]
    · refine jc_skip ?_
      refine jc_seq ?_
      refine jc_region ?_
      refine jo_l (ly_as rfl) (hd 4 rfl) ?_
      refine jo_nil ?_
      refine jc_ret ?_
      refine ⟨_, _, (.cons rfl .nil), .i, ?_⟩
      unfold cmpL
      rw [if_neg (by omega), if_pos (by omega)]
  · refine jc_skip ?_
    refine jc_seq ?_
    refine jc_seq ?_
    refine jc_region ?_
    refine jo_l (ly_mv rfl) (hd 20 rfl) ?_
    refine jo_l (ly_lenn sl28 rfl) (hd 21 rfl) ?_
    refine jo_l (ly_sub rfl rfl (wrap_i64 (by omega) (by omega))) (hd 22 rfl) ?_
    refine jo_l (ly_as rfl) (hd 5 rfl) ?_
    refine jo_nil ?_
    refine jc_block ?_
    refine jc_loopF (G := Nat) (fun k => k ≤ (trm a).length ∧ cmpN (trm a) (trm b) k = cmpN (trm a) (trm b) (trm a).length) (fun k => [(5, .i .i64 ((k : Int) - 1)), (4, .u), (23, .u), (24, .u), (25, .u), (26, .u), (27, .u), (28, .u), (29, .u), (30, .u), (31, .u), (32, .u), (33, .u), (34, .u), (35, .u), (36, .u), (37, .u), (38, .u), (39, .u), (40, .u), (41, .u), (42, .u), (43, .u), (44, .u)]) (fun _ => _) (fun k => k) (trm a).length ?_ ?_ rfl ?_
    · exact ⟨Nat.le_refl _, rfl⟩
    · exact (.cons rfl (.u (.u (.u (.u (.u (.u (.u (.u (.u (.u (.u (.u (.u (.u (.u (.u (.u (.u (.u (.u (.u (.u (.u .nil))))))))))))))))))))))))
    · rintro k ⟨hc1, hc2⟩
      refine jc_seq ?_
      refine jc_seq ?_
      refine jc_region ?_
      refine jo_l (ly_mv rfl) (hd 23 rfl) ?_
      refine jo_l (ly_ge rfl rfl) (hd 24 rfl) ?_
      refine jo_nil ?_
      refine jc_if rfl (fun h3 => ?_) (fun h3 => ?_)
      · refine jc_skip ?_
        refine jc_seq ?_
        refine jc_block ?_
        refine jc_seq ?_
        refine jc_seq ?_
        refine jc_draw (n := 9) _ rfl mixed ?_
        refine ja_l2 0 [2, 3, 8] (lo_l (ly_mv rfl) (hd 27 rfl)) rfl (by kernel_rfl) (by kernel_rfl) (by kernel_rfl) (by kernel_rfl) (fun _ _ _ _ h => h) ?_
        refine ja_l2 1 [2, 3, 8] (lo_l (ly_mv rfl) (hd 28 rfl)) rfl (by kernel_rfl) (by kernel_rfl) (by kernel_rfl) (by kernel_rfl) (fun _ _ _ _ h => h) ?_
        refine ja_l2 2 [3, 8] (lo_l (ly_ian (i := k - 1) sl28 rfl rfl (by omega) (by omega)) (hd 29 rfl)) rfl (by kernel_rfl) (by kernel_rfl) (by kernel_rfl) (by kernel_rfl) (fun _ _ _ _ h => h) ?_
        refine ja_l 3 (lo_l (ly_ldq one82 rfl rfl) (hd 30 rfl)) rfl (by kernel_rfl) (by kernel_rfl) (by kernel_rfl) (fun _ _ _ _ h => h) ?_
        refine ja_l2 4 [6, 7, 8] (lo_l (ly_mv rfl) (hd 31 rfl)) rfl (by kernel_rfl) (by kernel_rfl) (by kernel_rfl) (by kernel_rfl) (fun _ _ _ _ h => h) ?_
        refine ja_l2 5 [6, 7, 8] (lo_l (ly_mv rfl) (hd 32 rfl)) rfl (by kernel_rfl) (by kernel_rfl) (by kernel_rfl) (by kernel_rfl) (fun _ _ _ _ h => h) ?_
        refine ja_l2 6 [7, 8] (lo_l (ly_ian (i := k - 1) sl28 rfl rfl (by omega) (by omega)) (hd 33 rfl)) rfl (by kernel_rfl) (by kernel_rfl) (by kernel_rfl) (by kernel_rfl) (fun _ _ _ _ h => h) ?_
        refine ja_l 7 (lo_l (ly_ldq one82 rfl rfl) (hd 34 rfl)) rfl (by kernel_rfl) (by kernel_rfl) (by kernel_rfl) (fun _ _ _ _ h => h) ?_
        refine ja_l 8 (lo_l (ly_lt rfl rfl) (hd 35 rfl)) rfl (by kernel_rfl) (by kernel_rfl) (by kernel_rfl) (fun _ _ _ _ h => h) ?_
        refine ja_nil (by kernel_rfl) ?_
        refine jc_if rfl (fun h4 => ?_) (fun h4 => ?_)
        · refine jc_seq ?_
          refine jc_region ?_
          refine jo_l (ly_as rfl) (hd 4 rfl) ?_
          refine jo_nil ?_
          refine jc_ret ?_
          refine ⟨_, _, (.cons rfl .nil), .i, ?_⟩
          unfold cmpL
          rw [if_neg (by omega), if_neg (by omega), ← hc2, cmpN_lt (by omega) (by assumption)]
        · refine jc_skip ?_
          refine jc_seq ?_
          refine jc_draw (n := 9) _ rfl mixed ?_
          refine ja_l2 0 [2, 3, 8] (lo_l (ly_mv rfl) (hd 36 rfl)) rfl (by kernel_rfl) (by kernel_rfl) (by kernel_rfl) (by kernel_rfl) (fun _ _ _ _ h => h) ?_
          refine ja_l2 1 [2, 3, 8] (lo_l (ly_mv rfl) (hd 37 rfl)) rfl (by kernel_rfl) (by kernel_rfl) (by kernel_rfl) (by kernel_rfl) (fun _ _ _ _ h => h) ?_
          refine ja_l2 2 [3, 8] (lo_l (ly_ian (i := k - 1) sl28 rfl rfl (by omega) (by omega)) (hd 38 rfl)) rfl (by kernel_rfl) (by kernel_rfl) (by kernel_rfl) (by kernel_rfl) (fun _ _ _ _ h => h) ?_
          refine ja_l 3 (lo_l (ly_ldq one82 rfl rfl) (hd 39 rfl)) rfl (by kernel_rfl) (by kernel_rfl) (by kernel_rfl) (fun _ _ _ _ h => h) ?_
          refine ja_l2 4 [6, 7, 8] (lo_l (ly_mv rfl) (hd 40 rfl)) rfl (by kernel_rfl) (by kernel_rfl) (by kernel_rfl) (by kernel_rfl) (fun _ _ _ _ h => h) ?_
          refine ja_l2 5 [6, 7, 8] (lo_l (ly_mv rfl) (hd 41 rfl)) rfl (by kernel_rfl) (by kernel_rfl) (by kernel_rfl) (by kernel_rfl) (fun _ _ _ _ h => h) ?_
          refine ja_l2 6 [7, 8] (lo_l (ly_ian (i := k - 1) sl28 rfl rfl (by omega) (by omega)) (hd 42 rfl)) rfl (by kernel_rfl) (by kernel_rfl) (by kernel_rfl) (by kernel_rfl) (fun _ _ _ _ h => h) ?_
          refine ja_l 7 (lo_l (ly_ldq one82 rfl rfl) (hd 43 rfl)) rfl (by kernel_rfl) (by kernel_rfl) (by kernel_rfl) (fun _ _ _ _ h => h) ?_
          refine ja_l 8 (lo_l (ly_gt rfl rfl) (hd 44 rfl)) rfl (by kernel_rfl) (by kernel_rfl) (by kernel_rfl) (fun _ _ _ _ h => h) ?_
          refine ja_nil (by kernel_rfl) ?_
          refine jc_if rfl (fun h5 => ?_) (fun h5 => ?_)
          · refine jc_seq ?_
            refine jc_region ?_
            refine jo_l (ly_as rfl) (hd 4 rfl) ?_
            refine jo_nil ?_
            refine jc_ret ?_
            refine ⟨_, _, (.cons rfl .nil), .i, ?_⟩
            unfold cmpL
            rw [if_neg (by omega), if_neg (by omega), ← hc2, cmpN_gt (by omega) (by assumption)]
          · refine jc_skip ?_
            refine jc_region ?_
            refine jo_l (ly_mv rfl) (hd 25 rfl) ?_
            refine jo_l (ly_sub rfl rfl (wrap_i64 (by omega) (by omega))) (hd 26 rfl) ?_
            refine jo_l (ly_as rfl) (hd 5 rfl) ?_
            refine jo_nil ?_
            refine ⟨k - 1, ?_, ?_, rfl, cov_n 47 rfl rfl ?_⟩
            · exact ⟨by omega, by rw [← hc2]; exact cmpN_eq (by omega) (by assumption) (by assumption)⟩
            · omega
            · exact (.cons (by show some (V.i .i64 _) = some (V.i .i64 _); congr 2; omega) (.u (.u (.u (.u (.u (.u (.u (.u (.u (.u (.u (.u (.u (.u (.u (.u (.u (.u (.u (.u (.u (.u (.u .nil))))))))))))))))))))))))
      · refine jc_exit ?_
        refine jc_seq ?_
        refine jc_region ?_
        refine jo_l (ly_as rfl) (hd 4 rfl) ?_
        refine jo_nil ?_
        refine jc_ret ?_
        refine ⟨_, _, (.cons rfl .nil), .i, ?_⟩
        unfold cmpL
        rw [if_neg (by omega), if_neg (by omega), ← hc2]
        obtain rfl : k = 0 := by omega
        rfl

set_option maxHeartbeats 4000000 in
theorem told_ok (l : List Int) (hl : l.length < 1099511627776) (hu : u64s l) (h : lenN (trm l) ≤ 67108864) : Spec Try.prog 88 [.n false .u64 l] (fun o => o = .ret (.t [.n false .u64 (trm l), .i .i64 0])) := by
  refine spec_of' [(0, .n false .u64 l)] rfl Try.func88 rfl (Nat.le_of_ble_eq_true rfl) fun Γ hN hds hL hR => ?_
  have hd : ∀ d, Nat.blt d 10 = true → d < Γ.N := fun d h => by rw [hN]; exact Nat.le_of_ble_eq_true h
  have hm := trm_len l
  refine jc_seq ?_
  refine jc_region ?_
  refine jo_l (ly_as rfl) (hd 2 rfl) ?_
  refine jo_l (ly_as rfl) (hd 3 rfl) ?_
  refine jo_nil ?_
  refine jc_seq ?_
  refine jc_region ?_
  refine jo_l (ly_mv rfl) (hd 4 rfl) ?_
  refine jo_call Try.f84 (trim_s l hl) rfl Try.func84 rfl rfl (ovL_cons rfl ovL_nil) (.cons .n .nil) (hd 5 rfl) ?_ (fun ch hp => by simp at hp)
  rintro y hy; injection hy with hy; subst hy
  refine jo_l (ly_as rfl) (hd 0 rfl) ?_
  refine jo_nil ?_
  refine jc_seq ?_
  refine jc_seq ?_
  refine jc_region ?_
  refine jo_l (ly_mv rfl) (hd 6 rfl) ?_
  refine jo_call Try.f66 (Length_s (trm l) (by omega) (u64s_trm hu)) rfl Try.func66 rfl rfl (ovL_cons rfl ovL_nil) (.cons .n .nil) (hd 7 rfl) ?_ (fun ch hp => by simp at hp)
  rintro y hy; injection hy with hy; subst hy
  refine jo_l (ly_ff (ly_gt rfl rfl) (by omega)) (hd 8 rfl) ?_
  refine jo_nil ?_
  refine jc_litf rfl ?_
  refine jc_skip ?_
  refine jc_seq ?_
  refine jc_region ?_
  refine jo_l (ly_mv rfl) (hd 9 rfl) ?_
  refine jo_l (ly_as rfl) (hd 2 rfl) ?_
  refine jo_l (ly_as rfl) (hd 3 rfl) ?_
  refine jo_nil ?_
  refine jc_ret ?_
  refine ⟨_, _, (.cons rfl (.cons rfl .nil)), (.t1 .n (.t1 .i .t0)), ?_⟩
  exact rfl

set_option maxHeartbeats 4000000 in
theorem told_big (l : List Int) (hl : l.length < 1099511627776) (hu : u64s l) (h : 67108864 < lenN (trm l)) : Spec Try.prog 88 [.n false .u64 l] (fun o => o = .ret (.t [.n false .u64 [], .i .i64 3])) := by
  refine spec_of' [(0, .n false .u64 l)] rfl Try.func88 rfl (Nat.le_of_ble_eq_true rfl) fun Γ hN hds hL hR => ?_
  have hd : ∀ d, Nat.blt d 10 = true → d < Γ.N := fun d h => by rw [hN]; exact Nat.le_of_ble_eq_true h
  have hm := trm_len l
  refine jc_seq ?_
  refine jc_region ?_
  refine jo_l (ly_as rfl) (hd 2 rfl) ?_
  refine jo_l (ly_as rfl) (hd 3 rfl) ?_
  refine jo_nil ?_
  refine jc_seq ?_
  refine jc_region ?_
  refine jo_l (ly_mv rfl) (hd 4 rfl) ?_
  refine jo_call Try.f84 (trim_s l hl) rfl Try.func84 rfl rfl (ovL_cons rfl ovL_nil) (.cons .n .nil) (hd 5 rfl) ?_ (fun ch hp => by simp at hp)
  rintro y hy; injection hy with hy; subst hy
  refine jo_l (ly_as rfl) (hd 0 rfl) ?_
  refine jo_nil ?_
  refine jc_seq ?_
  refine jc_seq ?_
  refine jc_region ?_
  refine jo_l (ly_mv rfl) (hd 6 rfl) ?_
  refine jo_call Try.f66 (Length_s (trm l) (by omega) (u64s_trm hu)) rfl Try.func66 rfl rfl (ovL_cons rfl ovL_nil) (.cons .n .nil) (hd 7 rfl) ?_ (fun ch hp => by simp at hp)
  rintro y hy; injection hy with hy; subst hy
  refine jo_l (ly_tt (ly_gt rfl rfl) (by omega)) (hd 8 rfl) ?_
  refine jo_nil ?_
  refine jc_litt rfl ?_
  refine jc_seq ?_
  refine jc_region ?_
  refine jo_l (ly_as rfl) (hd 2 rfl) ?_
  refine jo_l (ly_as rfl) (hd 3 rfl) ?_
  refine jo_nil ?_
  refine jc_ret ?_
  refine ⟨_, _, (.cons rfl (.cons rfl .nil)), (.t1 (.nil (fr := false) (k := .u64)) (.t1 .i .t0)), ?_⟩
  exact rfl
end Go.Proofs.Ytcdipmjgpimmdaa.Vc

/- Contract of nat.Add. -/
set_option linter.unusedVariables false
set_option linter.unusedSimpArgs false
namespace Go.Proofs.Ytcdipmjgpimmdaa.Vc
open Go Go.RowKit
set_option maxHeartbeats 4000000 in
theorem Add_ok (a b : List Int) (ha : a.length < 4294967296) (hb : b.length < 4294967296) (ua : u64s a) (ub : u64s b) (h : lenN (trm (sumL a b)) ≤ 67108864) : Spec Try.prog 74 [.n false .u64 a, .n false .u64 b] (fun o => o = .ret (.t [.n false .u64 (trm (sumL a b)), .i .i64 0])) := by
  refine spec_of' [(0, .n false .u64 a), (1, .n false .u64 b)] rfl Try.func74 rfl (Nat.le_of_ble_eq_true rfl) fun Γ hN hds hL hR => ?_
  have hd : ∀ d, Nat.blt d 61 = true → d < Γ.N := fun d h => by rw [hN]; exact Nat.le_of_ble_eq_true h
  have hma := trm_len a
  have hmb := trm_len b
  refine jc_seq ?_
  refine jc_region ?_
  refine jo_l (ly_as rfl) (hd 4 rfl) ?_
  refine jo_l (ly_as rfl) (hd 5 rfl) ?_
  refine jo_nil ?_
  refine jc_seq ?_
  refine jc_region ?_
  refine jo_l (ly_mv rfl) (hd 10 rfl) ?_
  refine jo_call Try.f84 (trim_s a (by omega)) rfl Try.func84 rfl rfl (ovL_cons rfl ovL_nil) (.cons .n .nil) (hd 11 rfl) ?_ (fun ch hp => by simp at hp)
  rintro y hy; injection hy with hy; subst hy
  refine jo_l (ly_mv rfl) (hd 12 rfl) ?_
  refine jo_call Try.f84 (trim_s b (by omega)) rfl Try.func84 rfl rfl (ovL_cons rfl ovL_nil) (.cons .n .nil) (hd 13 rfl) ?_ (fun ch hp => by simp at hp)
  rintro y hy; injection hy with hy; subst hy
  refine jo_l (ly_as rfl) (hd 0 rfl) ?_
  refine jo_l (ly_as rfl) (hd 1 rfl) ?_
  refine jo_nil ?_
  refine jc_meetH (G := List Int × List Int) (fun g => swL (trm a) (trm b) = g ∧ g.1.length < 4294967296 ∧ u64s g.1 ∧ u64s g.2) (fun g => [(0, .n false .u64 g.1), (1, .n false .u64 g.2), (14, .u), (15, .u), (16, .u), (17, .u), (18, .u), (19, .u), (20, .u)]) ?_ ?_
  · refine jc_seq ?_
    refine jc_region ?_
    refine jo_l (ly_mv rfl) (hd 14 rfl) ?_
    refine jo_l (ly_lenn sl28 rfl) (hd 15 rfl) ?_
    refine jo_l (ly_mv rfl) (hd 16 rfl) ?_
    refine jo_l (ly_lenn sl28 rfl) (hd 17 rfl) ?_
    refine jo_l (ly_lt rfl rfl) (hd 18 rfl) ?_
    refine jo_nil ?_
    refine jc_if rfl (fun h1 => ?_) (fun h1 => ?_)
    · refine jc_region ?_
      refine jo_l (ly_mv rfl) (hd 19 rfl) ?_
      refine jo_l (ly_mv rfl) (hd 20 rfl) ?_
      refine jo_l (ly_as rfl) (hd 0 rfl) ?_
      refine jo_l (ly_as rfl) (hd 1 rfl) ?_
      refine jo_nil ?_
      refine ⟨(trm b, trm a), ?_, rfl, cov_n 9 rfl rfl ?_⟩
      · exact ⟨by unfold swL; rw [if_pos (by omega)], by show (trm b).length < _; omega, u64s_trm ub, u64s_trm ua⟩
      · exact (.cons rfl (.cons rfl (.u (.u (.u (.u (.u (.u (.u .nil)))))))))
    · refine jc_skip ?_
      refine ⟨(trm a, trm b), ?_, rfl, cov_n 5 rfl rfl ?_⟩
      · exact ⟨by unfold swL; rw [if_neg (by omega)], by show (trm a).length < _; omega, u64s_trm ua, u64s_trm ub⟩
      · exact (.cons rfl (.cons rfl (.u (.u (.u (.u (.u (.u (.u .nil)))))))))
  · rintro ⟨X, Y⟩ ⟨hg, hX, uX, uY⟩
    dsimp only at hg hX uX uY ⊢
    have hS : sumL a b = (adN X Y X.length).1 ++ [(adN X Y X.length).2] := by unfold sumL; rw [hg]
    refine jc_seq ?_
    refine jc_region ?_
    refine jo_l (ly_mv rfl) (hd 21 rfl) ?_
    refine jo_l (ly_lenn sl28 rfl) (hd 22 rfl) ?_
    refine jo_l (ly_add rfl rfl (r := ((X.length + 1 : Nat) : Int)) (by rw [wrap_i64 (by omega) (by omega)]; omega)) (hd 23 rfl) ?_
    refine jo_h (hy_mk (m := X.length + 1) el28 rfl rfl rfl (by show 8 * (X.length + 1) ≤ _; omega) (by unfold maxLen; omega) rfl) (hd 24 rfl) ?_
    refine jo_l (ly_as rfl) (hd 6 rfl) ?_
    refine jo_nil ?_
    refine jc_seq ?_
    refine jc_region ?_
    refine jo_l (ly_as rfl) (hd 7 rfl) ?_
    refine jo_nil ?_
    refine jc_seq ?_
    refine jc_seq ?_
    refine jc_region ?_
    refine jo_l (ly_mv rfl) (hd 25 rfl) ?_
    refine jo_l (ly_lenn sl28 rfl) (hd 26 rfl) ?_
    refine jo_l (ly_mv rfl) (hd 27 rfl) ?_
    refine jo_nil ?_
    refine jc_block ?_
    refine jc_loopF (G := Nat) (fun i => i ≤ X.length) (fun i => [(7, .i .u64 (adN X Y i).2), (27, .i .i64 (i : Int)), (8, .u), (9, .u), (28, .u), (29, .u), (30, .u), (31, .u), (32, .u), (33, .u), (34, .u), (35, .u), (36, .u), (37, .u), (38, .u), (39, .u), (40, .u), (41, .u), (42, .u), (43, .u), (44, .u), (45, .u), (46, .u), (47, .u), (48, .u), (49, .u), (50, .u), (51, .u)]) (fun i => [⟨82, 1, 0, true, ints .u64 (fillI (adN X Y i).1 (X.length + 1))⟩]) (fun i => X.length - i) 0 ?_ ?_ rfl ?_
    · exact Nat.zero_le _
    · exact (.cons rfl (.cons rfl (.u (.u (.u (.u (.u (.u (.u (.u (.u (.u (.u (.u (.u (.u (.u (.u (.u (.u (.u (.u (.u (.u (.u (.u (.u (.u .nil))))))))))))))))))))))))))))
    · rintro i hc1
      have hf := fillI_len (l := (adN X Y i).1) (n := X.length + 1) (by rw [adN_len]; omega)
      have hc := adN_c uX uY i
      have hx := u64s_getD uX i
      have hy := u64s_getD uY i
      refine jc_seq ?_
      refine jc_region ?_
      refine jo_l (ly_lt rfl rfl) (hd 28 rfl) ?_
      refine jo_nil ?_
      refine jc_seq ?_
      refine jc_if rfl (fun h2 => ?_) (fun h2 => ?_)
      · refine jc_skip ?_
        refine jc_seq ?_
        refine jc_block ?_
        refine jc_seq ?_
        refine jc_region ?_
        refine jo_l (ly_mv rfl) (hd 29 rfl) ?_
        refine jo_l (ly_as rfl) (hd 8 rfl) ?_
        refine jo_nil ?_
        refine jc_seq ?_
        refine jc_region ?_
        refine jo_l (ly_as rfl) (hd 9 rfl) ?_
        refine jo_nil ?_
        refine jc_meetH (G := Unit) (fun _ => True) (fun _ => [(9, .i .u64 (Y.getD i 0)), (30, .u), (31, .u), (32, .u), (33, .u), (34, .u), (35, .u), (36, .u), (37, .u)]) ?_ ?_
        · refine jc_seq ?_
          refine jc_region ?_
          refine jo_l (ly_mv rfl) (hd 30 rfl) ?_
          refine jo_l (ly_mv rfl) (hd 31 rfl) ?_
          refine jo_l (ly_lenn sl28 rfl) (hd 32 rfl) ?_
          refine jo_l (ly_lt rfl rfl) (hd 33 rfl) ?_
          refine jo_nil ?_
          refine jc_if rfl (fun h3 => ?_) (fun h3 => ?_)
          · refine jc_region ?_
            refine jo_l (ly_mv rfl) (hd 34 rfl) ?_
            refine jo_l (ly_mv rfl) (hd 35 rfl) ?_
            refine jo_l (ly_ian (i := i) sl28 rfl rfl (by first | rfl | omega) (by omega)) (hd 36 rfl) ?_
            refine jo_l (ly_ldq one82 rfl rfl) (hd 37 rfl) ?_
            refine jo_l (ly_as rfl) (hd 9 rfl) ?_
            refine jo_nil ?_
            refine ⟨(), ?_, rfl, cov_n 9 rfl rfl ?_⟩
            · trivial
            · exact (.cons (by first | rfl | (show some (V.i .u64 _) = some (V.i .u64 _); rw [getD_ge (by omega)])) (.u (.u (.u (.u (.u (.u (.u (.u .nil)))))))))
          · refine jc_skip ?_
            refine ⟨(), ?_, rfl, cov_n 4 rfl rfl ?_⟩
            · trivial
            · exact (.cons (by first | rfl | (show some (V.i .u64 _) = some (V.i .u64 _); rw [getD_ge (by omega)])) (.u (.u (.u (.u (.u (.u (.u (.u .nil)))))))))
        · rintro _ _
          refine jc_region ?_
          refine jo_l (ly_mv rfl) (hd 39 rfl) ?_
          refine jo_l (ly_mv rfl) (hd 40 rfl) ?_
          refine jo_l (ly_mv rfl) (hd 41 rfl) ?_
          refine jo_l (ly_mv rfl) (hd 42 rfl) ?_
          refine jo_l (ly_ian (i := i) sl28 rfl rfl (by first | rfl | omega) (by omega)) (hd 43 rfl) ?_
          refine jo_l (ly_ldq one82 rfl rfl) (hd 44 rfl) ?_
          refine jo_l (ly_mv rfl) (hd 45 rfl) ?_
          refine jo_l (ly_mv rfl) (hd 46 rfl) ?_
          refine jo_h (hy_ext3 (e := add64Entry) Try.func87 rfl rfl (by kernel_rfl) (by kernel_rfl) rfl rfl rfl (fun w => run_add64 _ _ _ hx.1 hy.1 hc.1 hc.2 w) rel_pair) (hd 47 rfl) ?_
          refine jo_l (ly_mv rfl) (hd 38 rfl) ?_
          refine jo_l (ly_ext rfl rfl) (hd 48 rfl) ?_
          refine jo_l (ly_ext rfl rfl) (hd 49 rfl) ?_
          refine jo_l (ly_ia (i := i) sl28 rfl rfl rfl (by first | rfl | omega) (by omega) rfl) (hd 50 rfl) ?_
          refine jo_st (sy_storei rfl rfl rfl one82 (by omega)) ?_
          refine jo_l (ly_as rfl) (hd 7 rfl) ?_
          refine jo_nil ?_
          refine jc_region ?_
          refine jo_l (ly_add rfl rfl (wrap_i64 (by omega) (by omega))) (hd 51 rfl) ?_
          refine jo_l (ly_mv rfl) (hd 27 rfl) ?_
          refine jo_nil ?_
          refine ⟨i + 1, ?_, ?_, (by show [(⟨82, 1, 0, true, ints .u64 _⟩ : Ob)] = [⟨82, 1, 0, true, ints .u64 _⟩]; rw [fill_ad (by omega)]), cov_n 57 rfl rfl ?_⟩
          · omega
          · omega
          · exact (.cons rfl (.cons rfl (.u (.u (.u (.u (.u (.u (.u (.u (.u (.u (.u (.u (.u (.u (.u (.u (.u (.u (.u (.u (.u (.u (.u (.u (.u (.u .nil))))))))))))))))))))))))))))
      · refine jc_exit ?_
        refine jc_seq ?_
        obtain rfl : i = X.length := by omega
        refine jc_region ?_
        refine jo_l (ly_mv rfl) (hd 52 rfl) ?_
        refine jo_l (ly_mv rfl) (hd 53 rfl) ?_
        refine jo_l (ly_lenn sl28 rfl) (hd 54 rfl) ?_
        refine jo_l (ly_mv rfl) (hd 55 rfl) ?_
        refine jo_l (ly_ia (i := X.length) sl28 rfl rfl rfl (by first | rfl | omega) (by omega) rfl) (hd 56 rfl) ?_
        refine jo_st (sy_storei rfl rfl rfl one82 (by omega)) ?_
        refine jo_nil ?_
        refine jc_seq ?_
        refine jc_region ?_
        refine jo_frz (k := .u64) (l' := sumL a b) 6 rfl rfl (by rw [fill_last (adN_len _ _ _)]; simp [adN_len]) (by rw [fill_last (adN_len _ _ _), hS, List.drop_zero, List.take_of_length_le (by simp [adN_len])]) hL ?_
        refine jo_l (ly_mv rfl) (hd 57 rfl) ?_
        refine jo_call Try.f88 (told_ok (sumL a b) (by rw [hS]; simp only [List.length_append, adN_len, List.length_singleton]; omega) (by rw [hS]; exact u64s_app1 (adN_u _) hc.1 (by omega)) h) rfl Try.func88 rfl rfl (ovL_cons rfl ovL_nil) (.cons .n .nil) (hd 58 rfl) ?_ (fun ch hp => by simp at hp)
        rintro y hy; injection hy with hy; subst hy
        refine jo_l (ly_ext rfl rfl) (hd 59 rfl) ?_
        refine jo_l (ly_ext rfl rfl) (hd 60 rfl) ?_
        refine jo_l (ly_as rfl) (hd 4 rfl) ?_
        refine jo_l (ly_as rfl) (hd 5 rfl) ?_
        refine jo_nil ?_
        refine jc_ret ?_
        refine ⟨_, _, (.cons rfl (.cons rfl .nil)), (.t1 .n (.t1 .i .t0)), ?_⟩
        exact rfl

set_option maxHeartbeats 4000000 in
theorem Add_big (a b : List Int) (ha : a.length < 4294967296) (hb : b.length < 4294967296) (ua : u64s a) (ub : u64s b) (h : 67108864 < lenN (trm (sumL a b))) : Spec Try.prog 74 [.n false .u64 a, .n false .u64 b] (fun o => o = .ret (.t [.n false .u64 [], .i .i64 3])) := by
  refine spec_of' [(0, .n false .u64 a), (1, .n false .u64 b)] rfl Try.func74 rfl (Nat.le_of_ble_eq_true rfl) fun Γ hN hds hL hR => ?_
  have hd : ∀ d, Nat.blt d 61 = true → d < Γ.N := fun d h => by rw [hN]; exact Nat.le_of_ble_eq_true h
  have hma := trm_len a
  have hmb := trm_len b
  refine jc_seq ?_
  refine jc_region ?_
  refine jo_l (ly_as rfl) (hd 4 rfl) ?_
  refine jo_l (ly_as rfl) (hd 5 rfl) ?_
  refine jo_nil ?_
  refine jc_seq ?_
  refine jc_region ?_
  refine jo_l (ly_mv rfl) (hd 10 rfl) ?_
  refine jo_call Try.f84 (trim_s a (by omega)) rfl Try.func84 rfl rfl (ovL_cons rfl ovL_nil) (.cons .n .nil) (hd 11 rfl) ?_ (fun ch hp => by simp at hp)
  rintro y hy; injection hy with hy; subst hy
  refine jo_l (ly_mv rfl) (hd 12 rfl) ?_
  refine jo_call Try.f84 (trim_s b (by omega)) rfl Try.func84 rfl rfl (ovL_cons rfl ovL_nil) (.cons .n .nil) (hd 13 rfl) ?_ (fun ch hp => by simp at hp)
  rintro y hy; injection hy with hy; subst hy
  refine jo_l (ly_as rfl) (hd 0 rfl) ?_
  refine jo_l (ly_as rfl) (hd 1 rfl) ?_
  refine jo_nil ?_
  refine jc_meetH (G := List Int × List Int) (fun g => swL (trm a) (trm b) = g ∧ g.1.length < 4294967296 ∧ u64s g.1 ∧ u64s g.2) (fun g => [(0, .n false .u64 g.1), (1, .n false .u64 g.2), (14, .u), (15, .u), (16, .u), (17, .u), (18, .u), (19, .u), (20, .u)]) ?_ ?_
  · refine jc_seq ?_
    refine jc_region ?_
    refine jo_l (ly_mv rfl) (hd 14 rfl) ?_
    refine jo_l (ly_lenn sl28 rfl) (hd 15 rfl) ?_
    refine jo_l (ly_mv rfl) (hd 16 rfl) ?_
    refine jo_l (ly_lenn sl28 rfl) (hd 17 rfl) ?_
    refine jo_l (ly_lt rfl rfl) (hd 18 rfl) ?_
    refine jo_nil ?_
    refine jc_if rfl (fun h1 => ?_) (fun h1 => ?_)
    · refine jc_region ?_
      refine jo_l (ly_mv rfl) (hd 19 rfl) ?_
      refine jo_l (ly_mv rfl) (hd 20 rfl) ?_
      refine jo_l (ly_as rfl) (hd 0 rfl) ?_
      refine jo_l (ly_as rfl) (hd 1 rfl) ?_
      refine jo_nil ?_
      refine ⟨(trm b, trm a), ?_, rfl, cov_n 9 rfl rfl ?_⟩
      · exact ⟨by unfold swL; rw [if_pos (by omega)], by show (trm b).length < _; omega, u64s_trm ub, u64s_trm ua⟩
      · exact (.cons rfl (.cons rfl (.u (.u (.u (.u (.u (.u (.u .nil)))))))))
    · refine jc_skip ?_
      refine ⟨(trm a, trm b), ?_, rfl, cov_n 5 rfl rfl ?_⟩
      · exact ⟨by unfold swL; rw [if_neg (by omega)], by show (trm a).length < _; omega, u64s_trm ua, u64s_trm ub⟩
      · exact (.cons rfl (.cons rfl (.u (.u (.u (.u (.u (.u (.u .nil)))))))))
  · rintro ⟨X, Y⟩ ⟨hg, hX, uX, uY⟩
    dsimp only at hg hX uX uY ⊢
    have hS : sumL a b = (adN X Y X.length).1 ++ [(adN X Y X.length).2] := by unfold sumL; rw [hg]
    refine jc_seq ?_
    refine jc_region ?_
    refine jo_l (ly_mv rfl) (hd 21 rfl) ?_
    refine jo_l (ly_lenn sl28 rfl) (hd 22 rfl) ?_
    refine jo_l (ly_add rfl rfl (r := ((X.length + 1 : Nat) : Int)) (by rw [wrap_i64 (by omega) (by omega)]; omega)) (hd 23 rfl) ?_
    refine jo_h (hy_mk (m := X.length + 1) el28 rfl rfl rfl (by show 8 * (X.length + 1) ≤ _; omega) (by unfold maxLen; omega) rfl) (hd 24 rfl) ?_
    refine jo_l (ly_as rfl) (hd 6 rfl) ?_
    refine jo_nil ?_
    refine jc_seq ?_
    refine jc_region ?_
    refine jo_l (ly_as rfl) (hd 7 rfl) ?_
    refine jo_nil ?_
    refine jc_seq ?_
    refine jc_seq ?_
    refine jc_region ?_
    refine jo_l (ly_mv rfl) (hd 25 rfl) ?_
    refine jo_l (ly_lenn sl28 rfl) (hd 26 rfl) ?_
    refine jo_l (ly_mv rfl) (hd 27 rfl) ?_
    refine jo_nil ?_
    refine jc_block ?_
    refine jc_loopF (G := Nat) (fun i => i ≤ X.length) (fun i => [(7, .i .u64 (adN X Y i).2), (27, .i .i64 (i : Int)), (8, .u), (9, .u), (28, .u), (29, .u), (30, .u), (31, .u), (32, .u), (33, .u), (34, .u), (35, .u), (36, .u), (37, .u), (38, .u), (39, .u), (40, .u), (41, .u), (42, .u), (43, .u), (44, .u), (45, .u), (46, .u), (47, .u), (48, .u), (49, .u), (50, .u), (51, .u)]) (fun i => [⟨82, 1, 0, true, ints .u64 (fillI (adN X Y i).1 (X.length + 1))⟩]) (fun i => X.length - i) 0 ?_ ?_ rfl ?_
    · exact Nat.zero_le _
    · exact (.cons rfl (.cons rfl (.u (.u (.u (.u (.u (.u (.u (.u (.u (.u (.u (.u (.u (.u (.u (.u (.u (.u (.u (.u (.u (.u (.u (.u (.u (.u .nil))))))))))))))))))))))))))))
    · rintro i hc1
      have hf := fillI_len (l := (adN X Y i).1) (n := X.length + 1) (by rw [adN_len]; omega)
      have hc := adN_c uX uY i
      have hx := u64s_getD uX i
      have hy := u64s_getD uY i
      refine jc_seq ?_
      refine jc_region ?_
      refine jo_l (ly_lt rfl rfl) (hd 28 rfl) ?_
      refine jo_nil ?_
      refine jc_seq ?_
      refine jc_if rfl (fun h2 => ?_) (fun h2 => ?_)
      · refine jc_skip ?_
        refine jc_seq ?_
        refine jc_block ?_
        refine jc_seq ?_
        refine jc_region ?_
        refine jo_l (ly_mv rfl) (hd 29 rfl) ?_
        refine jo_l (ly_as rfl) (hd 8 rfl) ?_
        refine jo_nil ?_
        refine jc_seq ?_
        refine jc_region ?_
        refine jo_l (ly_as rfl) (hd 9 rfl) ?_
        refine jo_nil ?_
        refine jc_meetH (G := Unit) (fun _ => True) (fun _ => [(9, .i .u64 (Y.getD i 0)), (30, .u), (31, .u), (32, .u), (33, .u), (34, .u), (35, .u), (36, .u), (37, .u)]) ?_ ?_
        · refine jc_seq ?_
          refine jc_region ?_
          refine jo_l (ly_mv rfl) (hd 30 rfl) ?_
          refine jo_l (ly_mv rfl) (hd 31 rfl) ?_
          refine jo_l (ly_lenn sl28 rfl) (hd 32 rfl) ?_
          refine jo_l (ly_lt rfl rfl) (hd 33 rfl) ?_
          refine jo_nil ?_
          refine jc_if rfl (fun h3 => ?_) (fun h3 => ?_)
          · refine jc_region ?_
            refine jo_l (ly_mv rfl) (hd 34 rfl) ?_
            refine jo_l (ly_mv rfl) (hd 35 rfl) ?_
            refine jo_l (ly_ian (i := i) sl28 rfl rfl (by first | rfl | omega) (by omega)) (hd 36 rfl) ?_
            refine jo_l (ly_ldq one82 rfl rfl) (hd 37 rfl) ?_
            refine jo_l (ly_as rfl) (hd 9 rfl) ?_
            refine jo_nil ?_
            refine ⟨(), ?_, rfl, cov_n 9 rfl rfl ?_⟩
            · trivial
            · exact (.cons (by first | rfl | (show some (V.i .u64 _) = some (V.i .u64 _); rw [getD_ge (by omega)])) (.u (.u (.u (.u (.u (.u (.u (.u .nil)))))))))
          · refine jc_skip ?_
            refine ⟨(), ?_, rfl, cov_n 4 rfl rfl ?_⟩
            · trivial
            · exact (.cons (by first | rfl | (show some (V.i .u64 _) = some (V.i .u64 _); rw [getD_ge (by omega)])) (.u (.u (.u (.u (.u (.u (.u (.u .nil)))))))))
        · rintro _ _
          refine jc_region ?_
          refine jo_l (ly_mv rfl) (hd 39 rfl) ?_
          refine jo_l (ly_mv rfl) (hd 40 rfl) ?_
          refine jo_l (ly_mv rfl) (hd 41 rfl) ?_
          refine jo_l (ly_mv rfl) (hd 42 rfl) ?_
          refine jo_l (ly_ian (i := i) sl28 rfl rfl (by first | rfl | omega) (by omega)) (hd 43 rfl) ?_
          refine jo_l (ly_ldq one82 rfl rfl) (hd 44 rfl) ?_
          refine jo_l (ly_mv rfl) (hd 45 rfl) ?_
          refine jo_l (ly_mv rfl) (hd 46 rfl) ?_
          refine jo_h (hy_ext3 (e := add64Entry) Try.func87 rfl rfl (by kernel_rfl) (by kernel_rfl) rfl rfl rfl (fun w => run_add64 _ _ _ hx.1 hy.1 hc.1 hc.2 w) rel_pair) (hd 47 rfl) ?_
          refine jo_l (ly_mv rfl) (hd 38 rfl) ?_
          refine jo_l (ly_ext rfl rfl) (hd 48 rfl) ?_
          refine jo_l (ly_ext rfl rfl) (hd 49 rfl) ?_
          refine jo_l (ly_ia (i := i) sl28 rfl rfl rfl (by first | rfl | omega) (by omega) rfl) (hd 50 rfl) ?_
          refine jo_st (sy_storei rfl rfl rfl one82 (by omega)) ?_
          refine jo_l (ly_as rfl) (hd 7 rfl) ?_
          refine jo_nil ?_
          refine jc_region ?_
          refine jo_l (ly_add rfl rfl (wrap_i64 (by omega) (by omega))) (hd 51 rfl) ?_
          refine jo_l (ly_mv rfl) (hd 27 rfl) ?_
          refine jo_nil ?_
          refine ⟨i + 1, ?_, ?_, (by show [(⟨82, 1, 0, true, ints .u64 _⟩ : Ob)] = [⟨82, 1, 0, true, ints .u64 _⟩]; rw [fill_ad (by omega)]), cov_n 57 rfl rfl ?_⟩
          · omega
          · omega
          · exact (.cons rfl (.cons rfl (.u (.u (.u (.u (.u (.u (.u (.u (.u (.u (.u (.u (.u (.u (.u (.u (.u (.u (.u (.u (.u (.u (.u (.u (.u (.u .nil))))))))))))))))))))))))))))
      · refine jc_exit ?_
        refine jc_seq ?_
        obtain rfl : i = X.length := by omega
        refine jc_region ?_
        refine jo_l (ly_mv rfl) (hd 52 rfl) ?_
        refine jo_l (ly_mv rfl) (hd 53 rfl) ?_
        refine jo_l (ly_lenn sl28 rfl) (hd 54 rfl) ?_
        refine jo_l (ly_mv rfl) (hd 55 rfl) ?_
        refine jo_l (ly_ia (i := X.length) sl28 rfl rfl rfl (by first | rfl | omega) (by omega) rfl) (hd 56 rfl) ?_
        refine jo_st (sy_storei rfl rfl rfl one82 (by omega)) ?_
        refine jo_nil ?_
        refine jc_seq ?_
        refine jc_region ?_
        refine jo_frz (k := .u64) (l' := sumL a b) 6 rfl rfl (by rw [fill_last (adN_len _ _ _)]; simp [adN_len]) (by rw [fill_last (adN_len _ _ _), hS, List.drop_zero, List.take_of_length_le (by simp [adN_len])]) hL ?_
        refine jo_l (ly_mv rfl) (hd 57 rfl) ?_
        refine jo_call Try.f88 (told_big (sumL a b) (by rw [hS]; simp only [List.length_append, adN_len, List.length_singleton]; omega) (by rw [hS]; exact u64s_app1 (adN_u _) hc.1 (by omega)) h) rfl Try.func88 rfl rfl (ovL_cons rfl ovL_nil) (.cons .n .nil) (hd 58 rfl) ?_ (fun ch hp => by simp at hp)
        rintro y hy; injection hy with hy; subst hy
        refine jo_l (ly_ext rfl rfl) (hd 59 rfl) ?_
        refine jo_l (ly_ext rfl rfl) (hd 60 rfl) ?_
        refine jo_l (ly_as rfl) (hd 4 rfl) ?_
        refine jo_l (ly_as rfl) (hd 5 rfl) ?_
        refine jo_nil ?_
        refine jc_ret ?_
        refine ⟨_, _, (.cons rfl (.cons rfl .nil)), (.t1 .n (.t1 .i .t0)), ?_⟩
        exact rfl
end Go.Proofs.Ytcdipmjgpimmdaa.Vc

/- Contract of nat.Sub. -/
set_option linter.unusedVariables false
set_option linter.unusedSimpArgs false
namespace Go.Proofs.Ytcdipmjgpimmdaa.Vc
open Go Go.RowKit
set_option maxHeartbeats 4000000 in
theorem Sub_ok (a b : List Int) (ha : a.length < 4294967296) (hb : b.length < 4294967296) (ua : u64s a) (ub : u64s b) (hle : 0 ≤ cmpL (trm a) (trm b)) (h : lenN (trm (difL a b)) ≤ 67108864) : Spec Try.prog 76 [.n false .u64 a, .n false .u64 b] (fun o => o = .ret (.t [.n false .u64 (trm (difL a b)), .i .i64 0])) := by
  refine spec_of' [(0, .n false .u64 a), (1, .n false .u64 b)] rfl Try.func76 rfl (Nat.le_of_ble_eq_true rfl) fun Γ hN hds hL hR => ?_
  have hd : ∀ d, Nat.blt d 52 = true → d < Γ.N := fun d h => by rw [hN]; exact Nat.le_of_ble_eq_true h
  have hma := trm_len a
  have hmb := trm_len b
  have uX := u64s_trm ua
  have uY := u64s_trm ub
  refine jc_seq ?_
  refine jc_region ?_
  refine jo_l (ly_as rfl) (hd 4 rfl) ?_
  refine jo_l (ly_as rfl) (hd 5 rfl) ?_
  refine jo_nil ?_
  refine jc_seq ?_
  refine jc_seq ?_
  refine jc_region ?_
  refine jo_l (ly_mv rfl) (hd 10 rfl) ?_
  refine jo_l (ly_mv rfl) (hd 11 rfl) ?_
  refine jo_call Try.f72 (Compare_s a b (by omega) (by omega)) rfl Try.func72 rfl rfl (ovL_cons rfl (ovL_cons rfl ovL_nil)) (.cons .n (.cons .n .nil)) (hd 12 rfl) ?_ (fun ch hp => by simp at hp)
  rintro y hy; injection hy with hy; subst hy
  refine jo_l (ly_ff (ly_lt rfl rfl) (by omega)) (hd 13 rfl) ?_
  refine jo_nil ?_
  refine jc_litf rfl ?_
  refine jc_skip ?_
  refine jc_seq ?_
  refine jc_region ?_
  refine jo_l (ly_mv rfl) (hd 14 rfl) ?_
  refine jo_call Try.f84 (trim_s a (by omega)) rfl Try.func84 rfl rfl (ovL_cons rfl ovL_nil) (.cons .n .nil) (hd 15 rfl) ?_ (fun ch hp => by simp at hp)
  rintro y hy; injection hy with hy; subst hy
  refine jo_l (ly_mv rfl) (hd 16 rfl) ?_
  refine jo_call Try.f84 (trim_s b (by omega)) rfl Try.func84 rfl rfl (ovL_cons rfl ovL_nil) (.cons .n .nil) (hd 17 rfl) ?_ (fun ch hp => by simp at hp)
  rintro y hy; injection hy with hy; subst hy
  refine jo_l (ly_as rfl) (hd 0 rfl) ?_
  refine jo_l (ly_as rfl) (hd 1 rfl) ?_
  refine jo_nil ?_
  refine jc_seq ?_
  refine jc_region ?_
  refine jo_l (ly_mv rfl) (hd 18 rfl) ?_
  refine jo_l (ly_lenn sl28 rfl) (hd 19 rfl) ?_
  refine jo_h (hy_mk (m := (trm a).length) el28 rfl rfl rfl (by show 8 * (trm a).length ≤ _; omega) (by unfold maxLen; omega) rfl) (hd 20 rfl) ?_
  refine jo_l (ly_as rfl) (hd 6 rfl) ?_
  refine jo_nil ?_
  refine jc_seq ?_
  refine jc_region ?_
  refine jo_l (ly_as rfl) (hd 7 rfl) ?_
  refine jo_nil ?_
  refine jc_seq ?_
  refine jc_seq ?_
  refine jc_region ?_
  refine jo_l (ly_mv rfl) (hd 21 rfl) ?_
  refine jo_l (ly_lenn sl28 rfl) (hd 22 rfl) ?_
  refine jo_l (ly_mv rfl) (hd 23 rfl) ?_
  refine jo_nil ?_
  refine jc_block ?_
  refine jc_loopF (G := Nat) (fun i => i ≤ (trm a).length) (fun i => [(7, .i .u64 (sbN (trm a) (trm b) i).2), (23, .i .i64 (i : Int)), (8, .u), (9, .u), (24, .u), (25, .u), (26, .u), (27, .u), (28, .u), (29, .u), (30, .u), (31, .u), (32, .u), (33, .u), (34, .u), (35, .u), (36, .u), (37, .u), (38, .u), (39, .u), (40, .u), (41, .u), (42, .u), (43, .u), (44, .u), (45, .u), (46, .u), (47, .u)]) (fun i => [⟨82, 1, 0, true, ints .u64 (fillI (sbN (trm a) (trm b) i).1 (trm a).length)⟩]) (fun i => (trm a).length - i) 0 ?_ ?_ rfl ?_
  · exact Nat.zero_le _
  · exact (.cons rfl (.cons rfl (.u (.u (.u (.u (.u (.u (.u (.u (.u (.u (.u (.u (.u (.u (.u (.u (.u (.u (.u (.u (.u (.u (.u (.u (.u (.u .nil))))))))))))))))))))))))))))
  · rintro i hc1
    have hf := fillI_len (l := (sbN (trm a) (trm b) i).1) (n := (trm a).length) (by rw [sbN_len]; omega)
    have hc := sbN_c (trm a) (trm b) i
    have hx := u64s_getD uX i
    have hy := u64s_getD uY i
    refine jc_seq ?_
    refine jc_region ?_
    refine jo_l (ly_lt rfl rfl) (hd 24 rfl) ?_
    refine jo_nil ?_
    refine jc_seq ?_
    refine jc_if rfl (fun h2 => ?_) (fun h2 => ?_)
    · refine jc_skip ?_
      refine jc_seq ?_
      refine jc_block ?_
      refine jc_seq ?_
      refine jc_region ?_
      refine jo_l (ly_mv rfl) (hd 25 rfl) ?_
      refine jo_l (ly_as rfl) (hd 8 rfl) ?_
      refine jo_nil ?_
      refine jc_seq ?_
      refine jc_region ?_
      refine jo_l (ly_as rfl) (hd 9 rfl) ?_
      refine jo_nil ?_
      refine jc_meetH (G := Unit) (fun _ => True) (fun _ => [(9, .i .u64 ((trm b).getD i 0)), (26, .u), (27, .u), (28, .u), (29, .u), (30, .u), (31, .u), (32, .u), (33, .u)]) ?_ ?_
      · refine jc_seq ?_
        refine jc_region ?_
        refine jo_l (ly_mv rfl) (hd 26 rfl) ?_
        refine jo_l (ly_mv rfl) (hd 27 rfl) ?_
        refine jo_l (ly_lenn sl28 rfl) (hd 28 rfl) ?_
        refine jo_l (ly_lt rfl rfl) (hd 29 rfl) ?_
        refine jo_nil ?_
        refine jc_if rfl (fun h3 => ?_) (fun h3 => ?_)
        · refine jc_region ?_
          refine jo_l (ly_mv rfl) (hd 30 rfl) ?_
          refine jo_l (ly_mv rfl) (hd 31 rfl) ?_
          refine jo_l (ly_ian (i := i) sl28 rfl rfl (by first | rfl | omega) (by omega)) (hd 32 rfl) ?_
          refine jo_l (ly_ldq one82 rfl rfl) (hd 33 rfl) ?_
          refine jo_l (ly_as rfl) (hd 9 rfl) ?_
          refine jo_nil ?_
          refine ⟨(), ?_, rfl, cov_n 9 rfl rfl ?_⟩
          · trivial
          · exact (.cons (by first | rfl | (show some (V.i .u64 _) = some (V.i .u64 _); rw [getD_ge (by omega)])) (.u (.u (.u (.u (.u (.u (.u (.u .nil)))))))))
        · refine jc_skip ?_
          refine ⟨(), ?_, rfl, cov_n 4 rfl rfl ?_⟩
          · trivial
          · exact (.cons (by first | rfl | (show some (V.i .u64 _) = some (V.i .u64 _); rw [getD_ge (by omega)])) (.u (.u (.u (.u (.u (.u (.u (.u .nil)))))))))
      · rintro _ _
        refine jc_region ?_
        refine jo_l (ly_mv rfl) (hd 35 rfl) ?_
        refine jo_l (ly_mv rfl) (hd 36 rfl) ?_
        refine jo_l (ly_mv rfl) (hd 37 rfl) ?_
        refine jo_l (ly_mv rfl) (hd 38 rfl) ?_
        refine jo_l (ly_ian (i := i) sl28 rfl rfl (by first | rfl | omega) (by omega)) (hd 39 rfl) ?_
        refine jo_l (ly_ldq one82 rfl rfl) (hd 40 rfl) ?_
        refine jo_l (ly_mv rfl) (hd 41 rfl) ?_
        refine jo_l (ly_mv rfl) (hd 42 rfl) ?_
        refine jo_h (hy_ext3 (e := sub64Entry) Try.func89 rfl rfl (by kernel_rfl) (by kernel_rfl) rfl rfl rfl (fun w => run_sub64 _ _ _ hx.1 hx.2 hy.1 hy.2 hc.1 hc.2 w) rel_pair) (hd 43 rfl) ?_
        refine jo_l (ly_mv rfl) (hd 34 rfl) ?_
        refine jo_l (ly_ext rfl rfl) (hd 44 rfl) ?_
        refine jo_l (ly_ext rfl rfl) (hd 45 rfl) ?_
        refine jo_l (ly_ia (i := i) sl28 rfl rfl rfl (by first | rfl | omega) (by omega) rfl) (hd 46 rfl) ?_
        refine jo_st (sy_storei rfl rfl rfl one82 (by omega)) ?_
        refine jo_l (ly_as rfl) (hd 7 rfl) ?_
        refine jo_nil ?_
        refine jc_region ?_
        refine jo_l (ly_add rfl rfl (wrap_i64 (by omega) (by omega))) (hd 47 rfl) ?_
        refine jo_l (ly_mv rfl) (hd 23 rfl) ?_
        refine jo_nil ?_
        refine ⟨i + 1, ?_, ?_, (by show [(⟨82, 1, 0, true, ints .u64 _⟩ : Ob)] = [⟨82, 1, 0, true, ints .u64 _⟩]; rw [fill_sb (by omega)]), cov_n 57 rfl rfl ?_⟩
        · omega
        · omega
        · exact (.cons rfl (.cons rfl (.u (.u (.u (.u (.u (.u (.u (.u (.u (.u (.u (.u (.u (.u (.u (.u (.u (.u (.u (.u (.u (.u (.u (.u (.u (.u .nil))))))))))))))))))))))))))))
    · refine jc_exit ?_
      refine jc_seq ?_
      obtain rfl : i = (trm a).length := by omega
      refine jc_frz (k := .u64) (l' := difL a b) 6 rfl rfl (by rw [fillI_full (sbN_len _ _ _)]; simp [sbN_len]) (by rw [fillI_full (sbN_len _ _ _), List.drop_zero, List.take_of_length_le (by simp [sbN_len])]; rfl) hL ?_
      refine jc_region ?_
      refine jo_l (ly_mv rfl) (hd 48 rfl) ?_
      refine jo_call Try.f88 (told_ok (difL a b) (by unfold difL; rw [sbN_len]; omega) (sbN_u uX uY _) h) rfl Try.func88 rfl rfl (ovL_cons rfl ovL_nil) (.cons .n .nil) (hd 49 rfl) ?_ (fun ch hp => by simp at hp)
      rintro y hy; injection hy with hy; subst hy
      refine jo_l (ly_ext rfl rfl) (hd 50 rfl) ?_
      refine jo_l (ly_ext rfl rfl) (hd 51 rfl) ?_
      refine jo_l (ly_as rfl) (hd 4 rfl) ?_
      refine jo_l (ly_as rfl) (hd 5 rfl) ?_
      refine jo_nil ?_
      refine jc_ret ?_
      refine ⟨_, _, (.cons rfl (.cons rfl .nil)), (.t1 .n (.t1 .i .t0)), ?_⟩
      exact rfl

set_option maxHeartbeats 4000000 in
theorem Sub_big (a b : List Int) (ha : a.length < 4294967296) (hb : b.length < 4294967296) (ua : u64s a) (ub : u64s b) (hle : 0 ≤ cmpL (trm a) (trm b)) (h : 67108864 < lenN (trm (difL a b))) : Spec Try.prog 76 [.n false .u64 a, .n false .u64 b] (fun o => o = .ret (.t [.n false .u64 [], .i .i64 3])) := by
  refine spec_of' [(0, .n false .u64 a), (1, .n false .u64 b)] rfl Try.func76 rfl (Nat.le_of_ble_eq_true rfl) fun Γ hN hds hL hR => ?_
  have hd : ∀ d, Nat.blt d 52 = true → d < Γ.N := fun d h => by rw [hN]; exact Nat.le_of_ble_eq_true h
  have hma := trm_len a
  have hmb := trm_len b
  have uX := u64s_trm ua
  have uY := u64s_trm ub
  refine jc_seq ?_
  refine jc_region ?_
  refine jo_l (ly_as rfl) (hd 4 rfl) ?_
  refine jo_l (ly_as rfl) (hd 5 rfl) ?_
  refine jo_nil ?_
  refine jc_seq ?_
  refine jc_seq ?_
  refine jc_region ?_
  refine jo_l (ly_mv rfl) (hd 10 rfl) ?_
  refine jo_l (ly_mv rfl) (hd 11 rfl) ?_
  refine jo_call Try.f72 (Compare_s a b (by omega) (by omega)) rfl Try.func72 rfl rfl (ovL_cons rfl (ovL_cons rfl ovL_nil)) (.cons .n (.cons .n .nil)) (hd 12 rfl) ?_ (fun ch hp => by simp at hp)
  rintro y hy; injection hy with hy; subst hy
  refine jo_l (ly_ff (ly_lt rfl rfl) (by omega)) (hd 13 rfl) ?_
  refine jo_nil ?_
  refine jc_litf rfl ?_
  refine jc_skip ?_
  refine jc_seq ?_
  refine jc_region ?_
  refine jo_l (ly_mv rfl) (hd 14 rfl) ?_
  refine jo_call Try.f84 (trim_s a (by omega)) rfl Try.func84 rfl rfl (ovL_cons rfl ovL_nil) (.cons .n .nil) (hd 15 rfl) ?_ (fun ch hp => by simp at hp)
  rintro y hy; injection hy with hy; subst hy
  refine jo_l (ly_mv rfl) (hd 16 rfl) ?_
  refine jo_call Try.f84 (trim_s b (by omega)) rfl Try.func84 rfl rfl (ovL_cons rfl ovL_nil) (.cons .n .nil) (hd 17 rfl) ?_ (fun ch hp => by simp at hp)
  rintro y hy; injection hy with hy; subst hy
  refine jo_l (ly_as rfl) (hd 0 rfl) ?_
  refine jo_l (ly_as rfl) (hd 1 rfl) ?_
  refine jo_nil ?_
  refine jc_seq ?_
  refine jc_region ?_
  refine jo_l (ly_mv rfl) (hd 18 rfl) ?_
  refine jo_l (ly_lenn sl28 rfl) (hd 19 rfl) ?_
  refine jo_h (hy_mk (m := (trm a).length) el28 rfl rfl rfl (by show 8 * (trm a).length ≤ _; omega) (by unfold maxLen; omega) rfl) (hd 20 rfl) ?_
  refine jo_l (ly_as rfl) (hd 6 rfl) ?_
  refine jo_nil ?_
  refine jc_seq ?_
  refine jc_region ?_
  refine jo_l (ly_as rfl) (hd 7 rfl) ?_
  refine jo_nil ?_
  refine jc_seq ?_
  refine jc_seq ?_
  refine jc_region ?_
  refine jo_l (ly_mv rfl) (hd 21 rfl) ?_
  refine jo_l (ly_lenn sl28 rfl) (hd 22 rfl) ?_
  refine jo_l (ly_mv rfl) (hd 23 rfl) ?_
  refine jo_nil ?_
  refine jc_block ?_
  refine jc_loopF (G := Nat) (fun i => i ≤ (trm a).length) (fun i => [(7, .i .u64 (sbN (trm a) (trm b) i).2), (23, .i .i64 (i : Int)), (8, .u), (9, .u), (24, .u), (25, .u), (26, .u), (27, .u), (28, .u), (29, .u), (30, .u), (31, .u), (32, .u), (33, .u), (34, .u), (35, .u), (36, .u), (37, .u), (38, .u), (39, .u), (40, .u), (41, .u), (42, .u), (43, .u), (44, .u), (45, .u), (46, .u), (47, .u)]) (fun i => [⟨82, 1, 0, true, ints .u64 (fillI (sbN (trm a) (trm b) i).1 (trm a).length)⟩]) (fun i => (trm a).length - i) 0 ?_ ?_ rfl ?_
  · exact Nat.zero_le _
  · exact (.cons rfl (.cons rfl (.u (.u (.u (.u (.u (.u (.u (.u (.u (.u (.u (.u (.u (.u (.u (.u (.u (.u (.u (.u (.u (.u (.u (.u (.u (.u .nil))))))))))))))))))))))))))))
  · rintro i hc1
    have hf := fillI_len (l := (sbN (trm a) (trm b) i).1) (n := (trm a).length) (by rw [sbN_len]; omega)
    have hc := sbN_c (trm a) (trm b) i
    have hx := u64s_getD uX i
    have hy := u64s_getD uY i
    refine jc_seq ?_
    refine jc_region ?_
    refine jo_l (ly_lt rfl rfl) (hd 24 rfl) ?_
    refine jo_nil ?_
    refine jc_seq ?_
    refine jc_if rfl (fun h2 => ?_) (fun h2 => ?_)
    · refine jc_skip ?_
      refine jc_seq ?_
      refine jc_block ?_
      refine jc_seq ?_
      refine jc_region ?_
      refine jo_l (ly_mv rfl) (hd 25 rfl) ?_
      refine jo_l (ly_as rfl) (hd 8 rfl) ?_
      refine jo_nil ?_
      refine jc_seq ?_
      refine jc_region ?_
      refine jo_l (ly_as rfl) (hd 9 rfl) ?_
      refine jo_nil ?_
      refine jc_meetH (G := Unit) (fun _ => True) (fun _ => [(9, .i .u64 ((trm b).getD i 0)), (26, .u), (27, .u), (28, .u), (29, .u), (30, .u), (31, .u), (32, .u), (33, .u)]) ?_ ?_
      · refine jc_seq ?_
        refine jc_region ?_
        refine jo_l (ly_mv rfl) (hd 26 rfl) ?_
        refine jo_l (ly_mv rfl) (hd 27 rfl) ?_
        refine jo_l (ly_lenn sl28 rfl) (hd 28 rfl) ?_
        refine jo_l (ly_lt rfl rfl) (hd 29 rfl) ?_
        refine jo_nil ?_
        refine jc_if rfl (fun h3 => ?_) (fun h3 => ?_)
        · refine jc_region ?_
          refine jo_l (ly_mv rfl) (hd 30 rfl) ?_
          refine jo_l (ly_mv rfl) (hd 31 rfl) ?_
          refine jo_l (ly_ian (i := i) sl28 rfl rfl (by first | rfl | omega) (by omega)) (hd 32 rfl) ?_
          refine jo_l (ly_ldq one82 rfl rfl) (hd 33 rfl) ?_
          refine jo_l (ly_as rfl) (hd 9 rfl) ?_
          refine jo_nil ?_
          refine ⟨(), ?_, rfl, cov_n 9 rfl rfl ?_⟩
          · trivial
          · exact (.cons (by first | rfl | (show some (V.i .u64 _) = some (V.i .u64 _); rw [getD_ge (by omega)])) (.u (.u (.u (.u (.u (.u (.u (.u .nil)))))))))
        · refine jc_skip ?_
          refine ⟨(), ?_, rfl, cov_n 4 rfl rfl ?_⟩
          · trivial
          · exact (.cons (by first | rfl | (show some (V.i .u64 _) = some (V.i .u64 _); rw [getD_ge (by omega)])) (.u (.u (.u (.u (.u (.u (.u (.u .nil)))))))))
      · rintro _ _
        refine jc_region ?_
        refine jo_l (ly_mv rfl) (hd 35 rfl) ?_
        refine jo_l (ly_mv rfl) (hd 36 rfl) ?_
        refine jo_l (ly_mv rfl) (hd 37 rfl) ?_
        refine jo_l (ly_mv rfl) (hd 38 rfl) ?_
        refine jo_l (ly_ian (i := i) sl28 rfl rfl (by first | rfl | omega) (by omega)) (hd 39 rfl) ?_
        refine jo_l (ly_ldq one82 rfl rfl) (hd 40 rfl) ?_
        refine jo_l (ly_mv rfl) (hd 41 rfl) ?_
        refine jo_l (ly_mv rfl) (hd 42 rfl) ?_
        refine jo_h (hy_ext3 (e := sub64Entry) Try.func89 rfl rfl (by kernel_rfl) (by kernel_rfl) rfl rfl rfl (fun w => run_sub64 _ _ _ hx.1 hx.2 hy.1 hy.2 hc.1 hc.2 w) rel_pair) (hd 43 rfl) ?_
        refine jo_l (ly_mv rfl) (hd 34 rfl) ?_
        refine jo_l (ly_ext rfl rfl) (hd 44 rfl) ?_
        refine jo_l (ly_ext rfl rfl) (hd 45 rfl) ?_
        refine jo_l (ly_ia (i := i) sl28 rfl rfl rfl (by first | rfl | omega) (by omega) rfl) (hd 46 rfl) ?_
        refine jo_st (sy_storei rfl rfl rfl one82 (by omega)) ?_
        refine jo_l (ly_as rfl) (hd 7 rfl) ?_
        refine jo_nil ?_
        refine jc_region ?_
        refine jo_l (ly_add rfl rfl (wrap_i64 (by omega) (by omega))) (hd 47 rfl) ?_
        refine jo_l (ly_mv rfl) (hd 23 rfl) ?_
        refine jo_nil ?_
        refine ⟨i + 1, ?_, ?_, (by show [(⟨82, 1, 0, true, ints .u64 _⟩ : Ob)] = [⟨82, 1, 0, true, ints .u64 _⟩]; rw [fill_sb (by omega)]), cov_n 57 rfl rfl ?_⟩
        · omega
        · omega
        · exact (.cons rfl (.cons rfl (.u (.u (.u (.u (.u (.u (.u (.u (.u (.u (.u (.u (.u (.u (.u (.u (.u (.u (.u (.u (.u (.u (.u (.u (.u (.u .nil))))))))))))))))))))))))))))
    · refine jc_exit ?_
      refine jc_seq ?_
      obtain rfl : i = (trm a).length := by omega
      refine jc_frz (k := .u64) (l' := difL a b) 6 rfl rfl (by rw [fillI_full (sbN_len _ _ _)]; simp [sbN_len]) (by rw [fillI_full (sbN_len _ _ _), List.drop_zero, List.take_of_length_le (by simp [sbN_len])]; rfl) hL ?_
      refine jc_region ?_
      refine jo_l (ly_mv rfl) (hd 48 rfl) ?_
      refine jo_call Try.f88 (told_big (difL a b) (by unfold difL; rw [sbN_len]; omega) (sbN_u uX uY _) h) rfl Try.func88 rfl rfl (ovL_cons rfl ovL_nil) (.cons .n .nil) (hd 49 rfl) ?_ (fun ch hp => by simp at hp)
      rintro y hy; injection hy with hy; subst hy
      refine jo_l (ly_ext rfl rfl) (hd 50 rfl) ?_
      refine jo_l (ly_ext rfl rfl) (hd 51 rfl) ?_
      refine jo_l (ly_as rfl) (hd 4 rfl) ?_
      refine jo_l (ly_as rfl) (hd 5 rfl) ?_
      refine jo_nil ?_
      refine jc_ret ?_
      refine ⟨_, _, (.cons rfl (.cons rfl .nil)), (.t1 .n (.t1 .i .t0)), ?_⟩
      exact rfl

set_option maxHeartbeats 4000000 in
theorem Sub_less (a b : List Int) (ha : a.length < 4294967296) (hb : b.length < 4294967296) (hlt : cmpL (trm a) (trm b) < 0) : Spec Try.prog 76 [.n false .u64 a, .n false .u64 b] (fun o => o = .ret (.t [.n false .u64 [], .i .i64 10])) := by
  refine spec_of' [(0, .n false .u64 a), (1, .n false .u64 b)] rfl Try.func76 rfl (Nat.le_of_ble_eq_true rfl) fun Γ hN hds hL hR => ?_
  have hd : ∀ d, Nat.blt d 52 = true → d < Γ.N := fun d h => by rw [hN]; exact Nat.le_of_ble_eq_true h
  refine jc_seq ?_
  refine jc_region ?_
  refine jo_l (ly_as rfl) (hd 4 rfl) ?_
  refine jo_l (ly_as rfl) (hd 5 rfl) ?_
  refine jo_nil ?_
  refine jc_seq ?_
  refine jc_seq ?_
  refine jc_region ?_
  refine jo_l (ly_mv rfl) (hd 10 rfl) ?_
  refine jo_l (ly_mv rfl) (hd 11 rfl) ?_
  refine jo_call Try.f72 (Compare_s a b (by omega) (by omega)) rfl Try.func72 rfl rfl (ovL_cons rfl (ovL_cons rfl ovL_nil)) (.cons .n (.cons .n .nil)) (hd 12 rfl) ?_ (fun ch hp => by simp at hp)
  rintro y hy; injection hy with hy; subst hy
  refine jo_l (ly_tt (ly_lt rfl rfl) (by omega)) (hd 13 rfl) ?_
  refine jo_nil ?_
  refine jc_litt rfl ?_
  refine jc_seq ?_
  refine jc_region ?_
  refine jo_l (ly_as rfl) (hd 4 rfl) ?_
  refine jo_l (ly_as rfl) (hd 5 rfl) ?_
  refine jo_nil ?_
  refine jc_ret ?_
  refine ⟨_, _, (.cons rfl (.cons rfl .nil)), (.t1 (.nil (fr := false) (k := .u64)) (.t1 .i .t0)), ?_⟩
  exact rfl
end Go.Proofs.Ytcdipmjgpimmdaa.Vc

/- Contracts of surdref01.norm, Zero, surdref06.make1. -/
set_option linter.unusedVariables false
set_option linter.unusedSimpArgs false
namespace Go.Proofs.Ytcdipmjgpimmdaa.Vc
open Go Go.RowKit
set_option maxHeartbeats 4000000 in
theorem rnorm_s (l : List Int) (hl : l.length < 1099511627776) : Spec Try.prog 80 [.n false .u64 l] (fun o => o = .ret (.n false .u64 (trm l))) := by
  refine spec_of' [(0, .n false .u64 l)] rfl Try.func80 rfl (Nat.le_of_ble_eq_true rfl) fun Γ hN hds hL hR => ?_
  have hd : ∀ d, Nat.blt d 22 = true → d < Γ.N := fun d h => by rw [hN]; exact Nat.le_of_ble_eq_true h
  refine jc_seq ?_
  refine jc_region ?_
  refine jo_l (ly_as rfl) (hd 2 rfl) ?_
  refine jo_nil ?_
  refine jc_seq ?_
  refine jc_region ?_
  refine jo_l (ly_mv rfl) (hd 4 rfl) ?_
  refine jo_l (ly_lenn sl33 rfl) (hd 5 rfl) ?_
  refine jo_l (ly_as rfl) (hd 3 rfl) ?_
  refine jo_nil ?_
  refine jc_seq ?_
  refine jc_block ?_
  refine jc_loopF (G := Nat) (fun k => k ≤ l.length ∧ tN l k = tN l l.length) (fun k => [(3, .i .i64 (k : Int)), (6, .u), (7, .u), (8, .u), (9, .u), (10, .u), (11, .u), (12, .u), (13, .u), (14, .u), (15, .u), (16, .u), (17, .u)]) (fun _ => _) (fun k => k) l.length ?_ ?_ rfl ?_
  · exact ⟨Nat.le_refl _, rfl⟩
  · exact (.cons rfl (.u (.u (.u (.u (.u (.u (.u (.u (.u (.u (.u (.u .nil)))))))))))))
  · rintro k ⟨hc1, hc2⟩
    refine jc_seq ?_
    refine jc_seq ?_
    refine jc_region ?_
    refine jo_l (ly_mv rfl) (hd 6 rfl) ?_
    refine jo_l (ly_gt rfl rfl) (hd 7 rfl) ?_
    refine jo_l (ly_mv rfl) (hd 8 rfl) ?_
    refine jo_ifp 8 rfl (fun h1 => ?_) (fun h1 => ?_)
    · refine jo_g 8 rfl rfl (ly_mv rfl) (hd 9 rfl) ?_
      refine jo_g 8 rfl rfl (ly_mv rfl) (hd 10 rfl) ?_
      refine jo_g 8 rfl rfl (ly_sub rfl rfl (wrap_i64 (by omega) (by omega))) (hd 11 rfl) ?_
      refine jo_g 8 rfl rfl (ly_ian (i := k - 1) sl33 rfl rfl (by omega) (by omega)) (hd 12 rfl) ?_
      refine jo_g 8 rfl rfl (ly_ldq one82 rfl rfl) (hd 13 rfl) ?_
      refine jo_g 8 rfl rfl (ly_eq rfl rfl) (hd 14 rfl) ?_
      refine jo_l (ly_pick_t rfl rfl) (hd 15 rfl) ?_
      refine jo_nil ?_
      refine jc_if rfl (fun h2 => ?_) (fun h2 => ?_)
      · refine jc_skip ?_
        refine jc_block ?_
        refine jc_region ?_
        refine jo_l (ly_mv rfl) (hd 16 rfl) ?_
        refine jo_l (ly_sub rfl rfl (wrap_i64 (by omega) (by omega))) (hd 17 rfl) ?_
        refine jo_l (ly_as rfl) (hd 3 rfl) ?_
        refine jo_nil ?_
        refine ⟨k - 1, ?_, ?_, rfl, cov_n 27 rfl rfl ?_⟩
        · exact ⟨by omega, by rw [← hc2, tN_down (by omega) (by assumption)]⟩
        · omega
        · exact (.cons (by show some (V.i .i64 _) = some (V.i .i64 _); congr 2; omega) (.u (.u (.u (.u (.u (.u (.u (.u (.u (.u (.u (.u .nil)))))))))))))
      · refine jc_exit ?_
        refine jc_seq ?_
        refine jc_region ?_
        refine jo_l (ly_mv rfl) (hd 18 rfl) ?_
        refine jo_l (ly_mv rfl) (hd 19 rfl) ?_
        refine jo_l (ly_mv rfl) (hd 20 rfl) ?_
        refine jo_l (ly_sln sl33 rfl bnd_none (bnd_some' rfl (by first | rfl | omega)) (.inr ⟨k, bnd_some' rfl rfl, Nat.le_refl _, hc1, rfl⟩) (by omega) (by omega)) (hd 21 rfl) ?_
        refine jo_l (ly_as rfl) (hd 2 rfl) ?_
        refine jo_nil ?_
        refine jc_ret ?_
        refine ⟨_, _, (.cons rfl .nil), .n, ?_⟩
        unfold trm
        rw [← hc2, tN_stop (by omega) (by assumption), List.drop_zero]
    · refine jo_s 8 rfl rfl rfl (hd 9 rfl) ?_
      refine jo_s 8 rfl rfl rfl (hd 10 rfl) ?_
      refine jo_s 8 rfl rfl rfl (hd 11 rfl) ?_
      refine jo_s 8 rfl rfl rfl (hd 12 rfl) ?_
      refine jo_s 8 rfl rfl rfl (hd 13 rfl) ?_
      refine jo_s 8 rfl rfl rfl (hd 14 rfl) ?_
      refine jo_l (ly_pick_f rfl rfl) (hd 15 rfl) ?_
      refine jo_nil ?_
      refine jc_litf rfl ?_
      refine jc_exit ?_
      refine jc_seq ?_
      refine jc_region ?_
      refine jo_l (ly_mv rfl) (hd 18 rfl) ?_
      refine jo_l (ly_mv rfl) (hd 19 rfl) ?_
      refine jo_l (ly_mv rfl) (hd 20 rfl) ?_
      refine jo_l (ly_sln sl33 rfl bnd_none (bnd_some' rfl (by first | rfl | omega)) (.inr ⟨k, bnd_some' rfl rfl, Nat.le_refl _, hc1, rfl⟩) (by omega) (by omega)) (hd 21 rfl) ?_
      refine jo_l (ly_as rfl) (hd 2 rfl) ?_
      refine jo_nil ?_
      refine jc_ret ?_
      refine ⟨_, _, (.cons rfl .nil), .n, ?_⟩
      unfold trm
      rw [← hc2, tN_0 (by omega), List.drop_zero]

set_option maxHeartbeats 4000000 in
theorem Zero_s (l : List Int) : Spec Try.prog 56 [.n false .u64 l] (fun o => o = .ret (.b (decide ((l.length : Int) = 0)))) := by
  refine spec_of' [(0, .n false .u64 l)] rfl Try.func56 rfl (Nat.le_of_ble_eq_true rfl) fun Γ hN hds hL hR => ?_
  have hd : ∀ d, Nat.blt d 6 = true → d < Γ.N := fun d h => by rw [hN]; exact Nat.le_of_ble_eq_true h
  refine jc_seq ?_
  refine jc_region ?_
  refine jo_l (ly_as rfl) (hd 2 rfl) ?_
  refine jo_nil ?_
  refine jc_seq ?_
  refine jc_region ?_
  refine jo_l (ly_mv rfl) (hd 3 rfl) ?_
  refine jo_l (ly_lenn sl33 rfl) (hd 4 rfl) ?_
  refine jo_l (ly_eq rfl rfl) (hd 5 rfl) ?_
  refine jo_l (ly_as rfl) (hd 2 rfl) ?_
  refine jo_nil ?_
  refine jc_ret ?_
  refine ⟨_, _, (.cons rfl .nil), .b, ?_⟩
  exact rfl

set_option maxHeartbeats 4000000 in
theorem make1_s (s : Bool) (l : List Int) : Spec Try.prog 58 [.b s, .n false .u64 l] (fun o => o = .ret (.a [.b (s && decide (l ≠ [])), .n false .u64 l])) := by
  refine spec_of' [(0, .b s), (1, .n false .u64 l)] rfl Try.func58 rfl (Nat.le_of_ble_eq_true rfl) fun Γ hN hds hL hR => ?_
  have hd : ∀ d, Nat.blt d 13 = true → d < Γ.N := fun d h => by rw [hN]; exact Nat.le_of_ble_eq_true h
  refine jc_seq ?_
  refine jc_region ?_
  refine jo_h (hy_alloc (id := 0) zero35 (by decide) rfl (by decide) rfl) (hd 4 rfl) ?_
  refine jo_nil ?_
  refine jc_seq ?_
  refine jc_region ?_
  refine jo_l (ly_mv rfl) (hd 5 rfl) ?_
  refine jo_l (ly_mv rfl) (hd 6 rfl) ?_
  refine jo_split 6 rfl (fun h1 => ?_) (fun h1 => ?_)
  · refine jo_g 6 rfl rfl (ly_mv rfl) (hd 7 rfl) ?_
    refine jo_callg Try.f56 6 rfl rfl (Zero_s l) rfl Try.func56 rfl rfl (ovL_cons rfl ovL_nil) (.cons .n .nil) (hd 8 rfl) ?_ (fun ch hp => by simp at hp)
    rintro y hy; injection hy with hy; subst hy
    refine jo_g 6 rfl rfl (ly_not rfl) (hd 9 rfl) ?_
    refine jo_l (ly_pick_t rfl rfl) (hd 10 rfl) ?_
    refine jo_l (ly_mv rfl) (hd 11 rfl) ?_
    refine jo_l (ly_build (is := [0, 1]) (xs := [.tmp 10, .tmp 11]) zero35 pls35_0_1 rfl (ovL_cons rfl (ovL_cons rfl ovL_nil)) rfl (by first | (simp [plsOk, cellsV]; done) | (simp [plsOk, cellsV, old]; done)) (all_of rfl) rfl) (hd 12 rfl) ?_
    refine jo_st (sy_store rfl rfl rfl siz35 rfl rfl (Nat.le_of_ble_eq_true rfl)) ?_
    refine jo_nil ?_
    refine jc_ret ?_
    refine ⟨_, _, (.cons (ResV.cell agg35 rfl rfl rfl rfl) .nil), (.a1 .b (.a1 .n .a0)), ?_⟩
    cases l <;> simp_all <;> omega
  · refine jo_s 6 rfl rfl rfl (hd 7 rfl) ?_
    refine jo_s 6 rfl rfl rfl (hd 8 rfl) ?_
    refine jo_s 6 rfl rfl rfl (hd 9 rfl) ?_
    refine jo_l (ly_pick_f rfl rfl) (hd 10 rfl) ?_
    refine jo_l (ly_mv rfl) (hd 11 rfl) ?_
    refine jo_l (ly_build (is := [0, 1]) (xs := [.tmp 10, .tmp 11]) zero35 pls35_0_1 rfl (ovL_cons rfl (ovL_cons rfl ovL_nil)) rfl (by first | (simp [plsOk, cellsV]; done) | (simp [plsOk, cellsV, old]; done)) (all_of rfl) rfl) (hd 12 rfl) ?_
    refine jo_st (sy_store rfl rfl rfl siz35 rfl rfl (Nat.le_of_ble_eq_true rfl)) ?_
    refine jo_nil ?_
    refine jc_ret ?_
    refine ⟨_, _, (.cons (ResV.cell agg35 rfl rfl rfl rfl) .nil), (.a1 .b (.a1 .n .a0)), ?_⟩
    cases l <;> simp_all <;> omega
end Go.Proofs.Ytcdipmjgpimmdaa.Vc

/- Contracts of surdref01.Of, Int, surdref06.Int. -/
set_option linter.unusedVariables false
set_option linter.unusedSimpArgs false
namespace Go.Proofs.Ytcdipmjgpimmdaa.Vc
open Go Go.RowKit
set_option maxHeartbeats 4000000 in
theorem rOf_s (l : List Int) (hl : l.length < 4294967296) (hu : u64s l) : Spec Try.prog 63 [.n false .u64 l] (fun o => o = .ret (.n false .u64 (trm (dig l)))) := by
  refine spec_of' [(0, .n false .u64 l)] rfl Try.func63 rfl (Nat.le_of_ble_eq_true rfl) fun Γ hN hds hL hR => ?_
  have hd : ∀ d, Nat.blt d 26 = true → d < Γ.N := fun d h => by rw [hN]; exact Nat.le_of_ble_eq_true h
  refine jc_seq ?_
  refine jc_region ?_
  refine jo_l (ly_as rfl) (hd 2 rfl) ?_
  refine jo_nil ?_
  refine jc_seq ?_
  refine jc_region ?_
  refine jo_l (ly_mv rfl) (hd 6 rfl) ?_
  refine jo_l (ly_lenn sl25 rfl) (hd 7 rfl) ?_
  refine jo_l (ly_mul rfl rfl (wrap_i64 (by omega) (by omega))) (hd 8 rfl) ?_
  refine jo_h (hy_mk0 (m := 2 * l.length) el33 rfl rfl (by omega) (by show 8 * (2 * l.length) ≤ _; omega) (by unfold maxLen; omega) rfl) (hd 9 rfl) ?_
  refine jo_l (ly_as rfl) (hd 3 rfl) ?_
  refine jo_nil ?_
  refine jc_seq ?_
  refine jc_seq ?_
  refine jc_region ?_
  refine jo_l (ly_mv rfl) (hd 10 rfl) ?_
  refine jo_l (ly_lenn sl25 rfl) (hd 11 rfl) ?_
  refine jo_l (ly_mv rfl) (hd 12 rfl) ?_
  refine jo_nil ?_
  refine jc_block ?_
  refine jc_loopD (G := Nat) 1 (fun g => g ≤ l.length) (fun g => [(3, .o 0 g 0 (2 * g)), (12, .i .i64 (g : Int)), (5, .u), (13, .u), (14, .u), (15, .u), (16, .u), (17, .u), (18, .u), (19, .u), (20, .u), (21, .u), (22, .u), (23, .u)]) (fun g => [⟨82, 1, g, true, ints .u64 (dig (l.take g))⟩]) (fun g => l.length - g) 0 ?_ ?_ rfl hR rfl (fun _ _ => rfl) (fun g _ => .cons ints_id .nil) ?_
  · exact Nat.zero_le _
  · exact (.cons rfl (.cons rfl (.u (.u (.u (.u (.u (.u (.u (.u (.u (.u (.u (.u .nil))))))))))))))
  · rintro i hc1
    have hx := u64s_getD hu i
    refine jc_seq ?_
    refine jc_region ?_
    refine jo_l (ly_lt rfl rfl) (hd 13 rfl) ?_
    refine jo_nil ?_
    refine jc_seq ?_
    refine jc_if rfl (fun h1 => ?_) (fun h1 => ?_)
    · refine jc_skip ?_
      refine jc_seq ?_
      refine jc_block ?_
      refine jc_seq ?_
      refine jc_region ?_
      refine jo_l (ly_ian (i := i) sl25 rfl rfl (by first | rfl | omega) (by omega)) (hd 14 rfl) ?_
      refine jo_l (ly_ldq one82 rfl rfl) (hd 15 rfl) ?_
      refine jo_l (ly_as rfl) (hd 5 rfl) ?_
      refine jo_nil ?_
      refine jc_region ?_
      refine jo_l (ly_mv rfl) (hd 16 rfl) ?_
      refine jo_l (ly_mv rfl) (hd 17 rfl) ?_
      refine jo_l (ly_is (ly_rem rfl rfl (by decide) rfl) (show V.i .u64 ((l.getD i 0).tmod 4294967296) = V.i .u64 ((l.getD i 0) % 4294967296) by rw [Int.tmod_eq_emod_of_nonneg hx.1])) (hd 18 rfl) ?_
      refine jo_l (ly_mv rfl) (hd 19 rfl) ?_
      refine jo_l (ly_quo rfl rfl (by decide) (r := (l.getD i 0) / 4294967296) (by show IntKind.u64.wrap (Int.tdiv (l.getD i 0) 4294967296) = _; rw [Int.tdiv_eq_ediv_of_nonneg hx.1]; exact wrap_u64 (by omega) (by omega))) (hd 20 rfl) ?_
      refine jo_h (hy_lit (id := 1) (xs := [.tmp 18, .tmp 20]) el33 rfl (ovL_cons rfl (ovL_cons rfl ovL_nil)) rfl (all2_of rfl) (by decide) rfl) (hd 21 rfl) ?_
      refine jo_app el33 rfl rfl (by rw [ints_length, dig_len, List.length_take, Nat.min_eq_left (by omega), Nat.mul_one]) rfl (src_o rfl rfl rfl) (by show (2 * i + 2) * 8 ≤ _; omega) (by unfold maxLen; omega) (hd 22 rfl) ?_
      refine jo_l (ly_as rfl) (hd 3 rfl) ?_
      refine jo_nil ?_
      refine jc_region ?_
      refine jo_l (ly_add rfl rfl (wrap_i64 (by omega) (by omega))) (hd 23 rfl) ?_
      refine jo_l (ly_mv rfl) (hd 12 rfl) ?_
      refine jo_nil ?_
      refine ⟨i + 1, ?_, ?_, (by show [(⟨82, 1, i + 1, true, ints .u64 (dig (l.take i)) ++ ints .u64 [_, _]⟩ : Ob)] = [⟨82, 1, i + 1, true, ints .u64 (dig (l.take (i + 1)))⟩]; rw [ints_append, dig_snoc (by omega)]), cov_n 28 rfl rfl ?_⟩
      · omega
      · omega
      · exact (.cons rfl (.cons rfl (.u (.u (.u (.u (.u (.u (.u (.u (.u (.u (.u (.u .nil))))))))))))))
    · refine jc_exit ?_
      refine jc_seq ?_
      obtain rfl : i = l.length := by omega
      refine jc_region ?_
      refine jo_frz (k := .u64) (l' := dig l) 3 rfl rfl (by rw [dig_len, List.length_take, Nat.min_self]; omega) (by rw [List.take_length, List.drop_zero, List.take_of_length_le (by rw [dig_len]; exact Nat.le_refl _)]) hL ?_
      refine jo_l (ly_mv rfl) (hd 24 rfl) ?_
      refine jo_call Try.f80 (rnorm_s (dig l) (by rw [dig_len]; omega)) rfl Try.func80 rfl rfl (ovL_cons rfl ovL_nil) (.cons .n .nil) (hd 25 rfl) ?_ (fun ch hp => by simp at hp)
      rintro y hy; injection hy with hy; subst hy
      refine jo_l (ly_as rfl) (hd 2 rfl) ?_
      refine jo_nil ?_
      refine jc_ret ?_
      refine ⟨_, _, (.cons rfl .nil), .n, ?_⟩
      exact rfl

set_option maxHeartbeats 4000000 in
theorem rInt_s (v : Int) (h0 : 0 ≤ v) (h1 : v < 9223372036854775808) : Spec Try.prog 67 [.i .i64 v] (fun o => o = .ret (.n false .u64 (trm (dig [v])))) := by
  refine spec_of' [(0, .i .i64 v)] rfl Try.func67 rfl (Nat.le_of_ble_eq_true rfl) fun Γ hN hds hL hR => ?_
  have hd : ∀ d, Nat.blt d 7 = true → d < Γ.N := fun d h => by rw [hN]; exact Nat.le_of_ble_eq_true h
  refine jc_seq ?_
  refine jc_region ?_
  refine jo_l (ly_as rfl) (hd 2 rfl) ?_
  refine jo_nil ?_
  refine jc_seq ?_
  refine jc_region ?_
  refine jo_l (ly_mv rfl) (hd 3 rfl) ?_
  refine jo_l (ly_conv und3 und82 rfl (wrap_u64 (by omega) (by omega))) (hd 4 rfl) ?_
  refine jo_h (hy_lit (id := 0) (xs := [.tmp 4]) el25 rfl (ovL_cons rfl ovL_nil) rfl (all2_of rfl) (by decide) rfl) (hd 5 rfl) ?_
  refine jo_frz (k := .u64) (l := [v]) (l' := [v]) 5 rfl rfl (Nat.le_refl _) rfl hL ?_
  refine jo_call Try.f63 (rOf_s [v] (by simp) (u64s1 (by omega) (by omega))) rfl Try.func63 rfl rfl (ovL_cons rfl ovL_nil) (.cons .n .nil) (hd 6 rfl) ?_ (fun ch hp => by simp at hp)
  rintro y hy; injection hy with hy; subst hy
  refine jo_l (ly_as rfl) (hd 2 rfl) ?_
  refine jo_nil ?_
  refine jc_ret ?_
  refine ⟨_, _, (.cons rfl .nil), .n, ?_⟩
  exact rfl

set_option maxHeartbeats 4000000 in
theorem Int_pos (v : Int) (h0 : 0 ≤ v) (h1 : v < 9223372036854775808) : Spec Try.prog 38 [.i .i64 v] (fun o => o = .ret (.a [.b (false && decide (trm (dig [v]) ≠ [])), .n false .u64 (trm (dig [v]))])) := by
  refine spec_of' [(0, .i .i64 v)] rfl Try.func38 rfl (Nat.le_of_ble_eq_true rfl) fun Γ hN hds hL hR => ?_
  have hd : ∀ d, Nat.blt d 16 = true → d < Γ.N := fun d h => by rw [hN]; exact Nat.le_of_ble_eq_true h
  refine jc_seq ?_
  refine jc_region ?_
  refine jo_h (hy_alloc (id := 0) zero35 (by decide) rfl (by decide) rfl) (hd 2 rfl) ?_
  refine jo_nil ?_
  refine jc_seq ?_
  refine jc_seq ?_
  refine jc_region ?_
  refine jo_l (ly_mv rfl) (hd 3 rfl) ?_
  refine jo_l (ly_ff (ly_lt rfl rfl) (by omega)) (hd 4 rfl) ?_
  refine jo_nil ?_
  refine jc_litf rfl ?_
  refine jc_skip ?_
  refine jc_seq ?_
  refine jc_region ?_
  refine jo_l (ly_mv rfl) (hd 13 rfl) ?_
  refine jo_call Try.f67 (rInt_s v h0 h1) rfl Try.func67 rfl rfl (ovL_cons rfl ovL_nil) (.cons .i .nil) (hd 14 rfl) ?_ (fun ch hp => by simp at hp)
  rintro y hy; injection hy with hy; subst hy
  refine jo_call Try.f58 (make1_s false (trm (dig [v]))) rfl Try.func58 rfl rfl (ovL_cons rfl (ovL_cons rfl ovL_nil)) (.cons .b (.cons .n .nil)) (hd 15 rfl) ?_ (fun ch hp => by simp at hp)
  rintro y hy; injection hy with hy; subst hy
  refine jo_st (sy_store rfl rfl rfl siz35 rfl rfl (Nat.le_of_ble_eq_true rfl)) ?_
  refine jo_nil ?_
  refine jc_ret ?_
  refine ⟨_, _, (.cons (ResV.cell agg35 rfl rfl rfl rfl) .nil), (.a1 .b (.a1 .n .a0)), ?_⟩
  exact rfl

set_option maxHeartbeats 4000000 in
theorem Int_neg (v : Int) (h0 : v < 0) (h1 : -9223372036854775808 ≤ v) : Spec Try.prog 38 [.i .i64 v] (fun o => o = .ret (.a [.b (true && decide (trm (dig [-v]) ≠ [])), .n false .u64 (trm (dig [-v]))])) := by
  refine spec_of' [(0, .i .i64 v)] rfl Try.func38 rfl (Nat.le_of_ble_eq_true rfl) fun Γ hN hds hL hR => ?_
  have hd : ∀ d, Nat.blt d 16 = true → d < Γ.N := fun d h => by rw [hN]; exact Nat.le_of_ble_eq_true h
  refine jc_seq ?_
  refine jc_region ?_
  refine jo_h (hy_alloc (id := 0) zero35 (by decide) rfl (by decide) rfl) (hd 2 rfl) ?_
  refine jo_nil ?_
  refine jc_seq ?_
  refine jc_seq ?_
  refine jc_region ?_
  refine jo_l (ly_mv rfl) (hd 3 rfl) ?_
  refine jo_l (ly_tt (ly_lt rfl rfl) (by omega)) (hd 4 rfl) ?_
  refine jo_nil ?_
  refine jc_litt rfl ?_
  refine jc_seq ?_
  refine jc_region ?_
  refine jo_l (ly_mv rfl) (hd 5 rfl) ?_
  refine jo_l (ly_add rfl rfl (wrap_i64 (by omega) (by omega))) (hd 6 rfl) ?_
  refine jo_l (ly_neg rfl (wrap_i64 (by omega) (by omega))) (hd 7 rfl) ?_
  refine jo_l (ly_conv und3 und82 rfl (wrap_u64 (by omega) (by omega))) (hd 8 rfl) ?_
  refine jo_l (ly_add rfl rfl (r := -v) (by rw [wrap_u64 (by omega) (by omega)]; omega)) (hd 9 rfl) ?_
  refine jo_h (hy_lit (id := 1) (xs := [.tmp 9]) el25 rfl (ovL_cons rfl ovL_nil) rfl (all2_of rfl) (by decide) rfl) (hd 10 rfl) ?_
  refine jo_frz (k := .u64) (l := [-v]) (l' := [-v]) 10 rfl rfl (Nat.le_refl _) rfl hL ?_
  refine jo_call Try.f63 (rOf_s [-v] (by simp) (u64s1 (by omega) (by omega))) rfl Try.func63 rfl rfl (ovL_cons rfl ovL_nil) (.cons .n .nil) (hd 11 rfl) ?_ (fun ch hp => by simp at hp)
  rintro y hy; injection hy with hy; subst hy
  refine jo_call Try.f58 (make1_s true (trm (dig [-v]))) rfl Try.func58 rfl rfl (ovL_cons rfl (ovL_cons rfl ovL_nil)) (.cons .b (.cons .n .nil)) (hd 12 rfl) ?_ (fun ch hp => by simp at hp)
  rintro y hy; injection hy with hy; subst hy
  refine jo_st (sy_store rfl rfl rfl siz35 rfl rfl (Nat.le_of_ble_eq_true rfl)) ?_
  refine jo_nil ?_
  refine jc_ret ?_
  refine ⟨_, _, (.cons (ResV.cell agg35 rfl rfl rfl rfl) .nil), (.a1 .b (.a1 .n .a0)), ?_⟩
  exact rfl
end Go.Proofs.Ytcdipmjgpimmdaa.Vc
