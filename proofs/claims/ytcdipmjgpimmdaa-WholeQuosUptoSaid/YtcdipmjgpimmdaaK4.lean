/- All five divisions of whole numbers answer as the document says, of every input of bulk at most 1048576 Texts joined: Nr, Ns, Nt, Ob, Wa, Wb, Wc, Wd, We, Wf, Wg, Wh, Wi, Wj. -/
import Derived.Test.YtcdipmjgpimmdaaK3
/- The references' shift to the left and division, digit by digit, in plain Lean. -/
set_option linter.unusedVariables false
set_option linter.unusedSimpArgs false
namespace Go.Proofs.Ytcdipmjgpimmdaa.Vc
open Go Go.RowKit

theorem take_snoc {l : List Int} {i : Nat} (h : i < l.length) : l.take (i + 1) = l.take i ++ [l.getD i 0] := by
  rw [List.take_add_one, List.getD_eq_getElem?_getD, List.getElem?_eq_getElem h]; rfl
theorem vb_rep (b : Nat) (l : List Int) : ∀ w, vb b (List.replicate w 0 ++ l) = ((b ^ w : Nat) : Int) * vb b l
  | 0 => by simp
  | w + 1 => by
    rw [List.replicate_succ, List.cons_append]
    show (0 : Int) + (b : Int) * vb b (List.replicate w 0 ++ l) = _
    rw [vb_rep b l w, Nat.pow_succ, Int.natCast_mul, Int.zero_add, ← Int.mul_assoc, Int.mul_comm (b : Int)]
theorem rng_rep {b : Nat} (hb : 0 < b) {l : List Int} (h : rng b l) (w : Nat) : rng b (List.replicate w 0 ++ l) := fun x hx => by
  rcases List.mem_append.1 hx with hx | hx
  · rw [List.eq_of_mem_replicate hx]; omega
  · exact h x hx
theorem rng_snoc {b : Nat} {l : List Int} {x : Int} (h : rng b l) (h0 : 0 ≤ x) (h1 : x < (b : Int)) : rng b (l ++ [x]) := fun y hy => by
  rcases List.mem_append.1 hy with hy | hy
  · exact h y hy
  · rw [List.mem_singleton] at hy; subst hy; exact ⟨h0, h1⟩
theorem rng_cons {b : Nat} {l : List Int} {x : Int} (h : rng b l) (h0 : 0 ≤ x) (h1 : x < (b : Int)) : rng b (x :: l) := fun y hy => by
  rcases List.mem_cons.1 hy with rfl | hy
  · exact ⟨h0, h1⟩
  · exact h y hy
/-! ### The shift -/
theorem p32split {s : Nat} (h : s ≤ 32) : (2 : Int) ^ (32 - s) * 2 ^ s = 4294967296 := by
  rw [← Int.pow_add, show 32 - s + s = 32 by omega]; rfl
theorem p32le {s : Nat} (h : s < 32) : (2 : Int) ^ s ≤ 2147483648 := by
  have h1 : (2 : Nat) ^ s ≤ 2 ^ 31 := Nat.pow_le_pow_right (by decide) (by omega)
  have h2 : ((2 ^ s : Nat) : Int) ≤ ((2 ^ 31 : Nat) : Int) := Int.ofNat_le.2 h1
  rw [Int.natCast_pow] at h2
  simpa using h2
def sh32 (l : List Int) (s : Nat) : Nat → List Int × Int
  | 0 => ([], 0)
  | i + 1 => ((sh32 l s i).1 ++ [(sh32 l s i).2 + l.getD i 0 * 2 ^ s % 4294967296], l.getD i 0 * 2 ^ s / 4294967296)
theorem sh32_len (l : List Int) (s : Nat) : ∀ i, (sh32 l s i).1.length = i
  | 0 => rfl
  | i + 1 => by simp [sh32, sh32_len l s i]
theorem sh_prod {l : List Int} {s : Nat} (hs : s < 32) (hl : rng 4294967296 l) (i : Nat) : 0 ≤ l.getD i 0 * 2 ^ s ∧ l.getD i 0 * 2 ^ s ≤ 4294967295 * 2147483648 := by
  have hx := rng_getD (by decide) hl i
  exact ⟨Int.mul_nonneg hx.1 (Int.le_of_lt (p2pos s)), Int.mul_le_mul (by omega) (p32le hs) (Int.le_of_lt (p2pos s)) (by decide)⟩
theorem sh32_c {l : List Int} {s : Nat} (hs : s < 32) (hl : rng 4294967296 l) : ∀ i, 0 ≤ (sh32 l s i).2 ∧ (sh32 l s i).2 < 2 ^ s
  | 0 => ⟨Int.le_refl 0, p2pos s⟩
  | i + 1 => by
    have hx := rng_getD (by decide) hl i
    have hp := sh_prod hs hl i
    refine ⟨Int.ediv_nonneg hp.1 (by decide), Int.ediv_lt_of_lt_mul (by decide) ?_⟩
    rw [Int.mul_comm (2 ^ s)]
    exact Int.mul_lt_mul_of_pos_right hx.2 (p2pos s)
theorem sh_lo {x : Int} {s : Nat} (hs : s ≤ 32) : x * 2 ^ s % 4294967296 = 2 ^ s * (x % 2 ^ (32 - s)) := by
  rw [← p32split hs, Int.mul_comm x, Int.mul_comm (2 ^ (32 - s)) (2 ^ s), Int.mul_emod_mul_of_pos _ _ (p2pos s)]
theorem sh_el {c x : Int} {s : Nat} (hs : s < 32) (hc0 : 0 ≤ c) (hc : c < 2 ^ s) : 0 ≤ c + x * 2 ^ s % 4294967296 ∧ c + x * 2 ^ s % 4294967296 < 4294967296 := by
  have e := p32split (Nat.le_of_lt hs)
  have hx2 : x % 2 ^ (32 - s) < 2 ^ (32 - s) := Int.emod_lt_of_pos _ (p2pos _)
  have h3 : 2 ^ s * (x % 2 ^ (32 - s)) ≤ 2 ^ s * (2 ^ (32 - s) - 1) := Int.mul_le_mul_of_nonneg_left (by omega) (Int.le_of_lt (p2pos s))
  rw [Int.mul_sub, Int.mul_comm (2 ^ s) (2 ^ (32 - s)), e] at h3
  have h4 := Int.emod_nonneg (x * 2 ^ s) (show (4294967296 : Int) ≠ 0 by decide)
  rw [← sh_lo (Nat.le_of_lt hs)] at h3
  omega
theorem sh32_r {l : List Int} {s : Nat} (hs : s < 32) (hl : rng 4294967296 l) : ∀ i, rng 4294967296 (sh32 l s i).1
  | 0 => fun x hx => by simp [sh32] at hx
  | i + 1 => by
    have hc := sh32_c hs hl i
    have h := sh_el (x := l.getD i 0) hs hc.1 hc.2
    exact rng_snoc (sh32_r hs hl i) h.1 h.2
theorem sh32_val {l : List Int} {s : Nat} : ∀ i, i ≤ l.length → vb 4294967296 (sh32 l s i).1 + ((4294967296 ^ i : Nat) : Int) * (sh32 l s i).2 = vb 4294967296 (l.take i) * 2 ^ s
  | 0, _ => by simp [sh32, vb]
  | i + 1, h => by
    have ih := sh32_val (s := s) i (by omega : i ≤ l.length)
    rw [take_snoc (by omega), vb_snoc, List.length_take, Nat.min_eq_left (by omega), Int.add_mul, ← ih]
    simp only [sh32]
    rw [vb_snoc, sh32_len, Int.mul_assoc _ (l.getD i 0)]
    generalize l.getD i 0 * 2 ^ s = x
    generalize (sh32 l s i).2 = c
    rw [Nat.pow_succ, Int.natCast_mul, show ((4294967296 : Nat) : Int) = 4294967296 from rfl]
    generalize ((4294967296 ^ i : Nat) : Int) = p
    have e : x = x % 4294967296 + 4294967296 * (x / 4294967296) := by omega
    have e1 : p * x = p * (x % 4294967296) + p * (4294967296 * (x / 4294967296)) := by rw [← Int.mul_add, ← e]
    rw [e1, Int.mul_add, Int.mul_assoc p]
    omega
/-- The row that the shift fills. -/
def shR (l : List Int) (s w i : Nat) : List Int := List.replicate w 0 ++ fillI ((sh32 l s i).1 ++ [(sh32 l s i).2]) (l.length + 1)
theorem shR_len {l : List Int} {s w i : Nat} (h : i ≤ l.length) : (shR l s w i).length = w + (l.length + 1) := by
  unfold shR
  rw [List.length_append, List.length_replicate, fillI_len (by simp [sh32_len]; omega)]
theorem shR_0 {l : List Int} {s w : Nat} : List.replicate (l.length + w + 1) (0 : Int) = shR l s w 0 := by
  unfold shR fillI
  simp only [sh32, List.nil_append, List.length_singleton]
  rw [show l.length + w + 1 = w + (1 + (l.length + 1 - 1)) by omega, ← List.replicate_append_replicate, ← List.replicate_append_replicate]
  rfl
theorem rep_set {w i : Nat} {l : List Int} {v : Int} : (List.replicate w 0 ++ l).set ((0 + (i + w)) * 1) v = List.replicate w 0 ++ l.set ((0 + i) * 1) v := by
  rw [Nat.mul_one, Nat.mul_one, Nat.zero_add, Nat.zero_add, List.set_append_right _ _ (by simp), List.length_replicate, Nat.add_sub_cancel]
theorem rep_get {w i : Nat} {l : List Int} : (List.replicate w 0 ++ l).getD ((0 + (i + w)) * 1) 0 = l.getD ((0 + i) * 1) 0 := by
  rw [Nat.mul_one, Nat.mul_one, Nat.zero_add, Nat.zero_add, List.getD_eq_getElem?_getD, List.getElem?_append_right (by simp), List.length_replicate, Nat.add_sub_cancel, List.getD_eq_getElem?_getD]
theorem shR_get {l : List Int} {s w i : Nat} : (shR l s w i).getD ((0 + (i + w)) * 1) 0 = (sh32 l s i).2 := by
  unfold shR
  rw [rep_get]
  have h := @get_mid2 (sh32 l s i).1 (sh32 l s i).2 (l.length + 1)
  rw [sh32_len] at h; exact h
theorem shR_set {l : List Int} {s w i : Nat} (h : i < l.length) : ((shR l s w i).set ((0 + (i + w)) * 1) ((sh32 l s i).2 + l.getD i 0 * 2 ^ s % 4294967296)).set ((0 + (i + w + 1)) * 1) (l.getD i 0 * 2 ^ s / 4294967296) = shR l s w (i + 1) := by
  have h1 := @set_mid2 (sh32 l s i).1 (sh32 l s i).2 ((sh32 l s i).2 + l.getD i 0 * 2 ^ s % 4294967296) (l.length + 1)
  rw [sh32_len] at h1
  unfold shR
  rw [rep_set, h1, show i + w + 1 = (i + 1) + w by omega, rep_set]
  congr 1
  have hl : (sh32 l s (i + 1)).1.length = i + 1 := sh32_len l s (i + 1)
  have h2 := @fillI_set (sh32 l s (i + 1)).1 (l.length + 1) (l.getD i 0 * 2 ^ s / 4294967296) (by omega)
  rw [hl] at h2
  rw [Nat.zero_add, Nat.mul_one]
  exact h2
theorem shR_end {x n : Nat} : trm (shR (digs B32 x) (n % 32) (n / 32) (digs B32 x).length) = digs B32 (x * 2 ^ n) := by
  have hr := rng_digs (b := B32) (by decide) x
  have hs : n % 32 < 32 := by omega
  have hc := sh32_c hs hr (digs B32 x).length
  have hp := p32le hs
  have hv := sh32_val (l := digs B32 x) (s := n % 32) (digs B32 x).length (Nat.le_refl _)
  rw [List.take_of_length_le (Nat.le_refl _), vb_digs (b := B32) (by decide)] at hv
  have e : shR (digs B32 x) (n % 32) (n / 32) (digs B32 x).length = List.replicate (n / 32) 0 ++ ((sh32 (digs B32 x) (n % 32) (digs B32 x).length).1 ++ [(sh32 (digs B32 x) (n % 32) (digs B32 x).length).2]) := by
    unfold shR
    rw [fillI_full (by simp [sh32_len])]
  rw [e]
  refine trm_digs (by decide) (rng_rep (by decide) (rng_snoc (sh32_r hs hr _) hc.1 (by show _ < (4294967296 : Int); omega)) _) ?_
  rw [vb_rep, vb_snoc, sh32_len, hv, b32_pow]
  rw [← p2cast, ← Int.natCast_mul, ← Int.natCast_mul]
  congr 1
  rw [Nat.mul_left_comm, ← Nat.pow_add]
  congr 2
  omega
theorem shl_u64 {x : Int} {s : Nat} (hs : s < 32) (h0 : 0 ≤ x) (h1 : x < 4294967296) : IntKind.u64.wrap (x * 2 ^ min ((s : Int)).toNat 64) = x * 2 ^ s := by
  rw [shl_sym (by omega)]
  have h2 : x * 2 ^ s ≤ 4294967295 * 2147483648 := Int.mul_le_mul (by omega) (p32le hs) (Int.le_of_lt (p2pos s)) (by decide)
  have h3 : 0 ≤ x * 2 ^ s := Int.mul_nonneg h0 (Int.le_of_lt (p2pos s))
  omega
/-! ### The division -/
theorem len_yB {z y : Nat} (h : z < y * B32) : (digs B32 z).length ≤ (digs B32 y).length + 1 := by
  refine digs_len (by decide) _ _ (Nat.lt_trans h ?_)
  rw [Nat.pow_succ]
  exact Nat.mul_lt_mul_of_pos_right (lt_digs (by decide) y) (by decide)
theorem len_le {z y : Nat} (h : z ≤ y) : (digs B32 z).length ≤ (digs B32 y).length := digs_mono (by decide) z y h
theorem top_0 {x : Nat} : x / B32 ^ (digs B32 x).length = 0 := Nat.div_eq_of_lt (lt_digs (by decide) x)
theorem dv_digit {x y k : Nat} (hy : 0 < y) (hk : 0 < k) :
    x / B32 ^ (k - 1) / y = B32 * (x / B32 ^ k / y) + (x / B32 ^ k % y * B32 + x / B32 ^ (k - 1) % B32) / y ∧ x / B32 ^ (k - 1) % y = (x / B32 ^ k % y * B32 + x / B32 ^ (k - 1) % B32) % y := by
  obtain ⟨k, rfl⟩ : ∃ m, k = m + 1 := ⟨k - 1, by omega⟩
  rw [Nat.add_sub_cancel]
  have e : x / B32 ^ (k + 1) = x / B32 ^ k / B32 := by rw [Nat.pow_succ, Nat.div_div_eq_div_mul]
  rw [e]
  generalize x / B32 ^ k = X
  have e1 := Nat.mod_add_div X B32
  have e2 := Nat.mod_add_div (X / B32) y
  generalize hd : X % B32 = d at *
  generalize hX : X / B32 = Z at *
  generalize hq : Z / y = q at *
  generalize hr : Z % y = r at *
  have e3 : X = (r * B32 + d) + y * (B32 * q) := by
    have e4 : X = d + B32 * (r + y * q) := by rw [e2]; exact e1.symm
    rw [e4, Nat.mul_add, Nat.mul_left_comm B32 y q, Nat.mul_comm B32 r]
    omega
  rw [e3]
  refine ⟨?_, ?_⟩
  · rw [Nat.add_mul_div_left _ _ hy]; omega
  · rw [Nat.add_mul_mod_self_left]
theorem dv_R {x y k : Nat} (hy : 0 < y) : x / B32 ^ k % y * B32 + x / B32 ^ (k - 1) % B32 < y * B32 := by
  have h1 := Nat.mod_lt (x / B32 ^ k) hy
  have h2 := Nat.mod_lt (x / B32 ^ (k - 1)) (show 0 < B32 by decide)
  generalize x / B32 ^ k % y = r at *
  generalize x / B32 ^ (k - 1) % B32 = d at *
  show r * 4294967296 + d < y * 4294967296
  have : d < 4294967296 := h2
  omega
/-- Bit by bit: t bits of the digit are still to be found. -/
def Hlv (R y t q : Nat) : Prop := t ≤ 32 ∧ y * q ≤ R ∧ R - y * q < y * 2 ^ t ∧ q + 2 ^ t ≤ 4294967296
theorem hlv_0 {R y : Nat} (h : R < y * B32) : Hlv R y 32 0 := ⟨Nat.le_refl _, by rw [Nat.mul_zero]; omega, by rw [Nat.mul_zero]; exact h, by decide⟩
theorem hlv_yes {R y s q : Nat} (h : Hlv R y (s + 1) q) (hc : y * 2 ^ s ≤ R - y * q) : Hlv R y s (q + 2 ^ s) ∧ R - y * q - y * 2 ^ s = R - y * (q + 2 ^ s) := by
  obtain ⟨h1, h2, h3, h4⟩ := h
  rw [Nat.pow_succ, ← Nat.mul_assoc] at h3
  rw [Nat.pow_succ] at h4
  have e : y * (q + 2 ^ s) = y * q + y * 2 ^ s := Nat.mul_add _ _ _
  unfold Hlv
  rw [e]
  generalize y * 2 ^ s = p at *
  generalize y * q = z at *
  generalize 2 ^ s = u at *
  omega
theorem hlv_no {R y s q : Nat} (h : Hlv R y (s + 1) q) (hc : ¬ y * 2 ^ s ≤ R - y * q) : Hlv R y s q := by
  obtain ⟨h1, h2, h3, h4⟩ := h
  rw [Nat.pow_succ] at h4
  exact ⟨by omega, h2, by omega, by omega⟩
theorem hlv_end {R y q : Nat} (h : Hlv R y 0 q) : q = R / y ∧ R - y * q = R % y := by
  obtain ⟨h1, h2, h3, h4⟩ := h
  rw [Nat.pow_zero, Nat.mul_one] at h3
  have hy : 0 < y := by omega
  have e : R = (R - y * q) + y * q := by omega
  refine ⟨?_, ?_⟩
  · conv => rhs; rw [e, Nat.add_mul_div_left _ _ hy, Nat.div_eq_of_lt h3, Nat.zero_add]
  · conv => rhs; rw [e, Nat.add_mul_mod_self_left, Nat.mod_eq_of_lt h3]
theorem hlv_len {R y t q : Nat} (h : R < y * B32) : (digs B32 (R - y * q)).length ≤ (digs B32 y).length + 1 := len_yB (Nat.lt_of_le_of_lt (Nat.sub_le _ _) h)
theorem bit_shl {s : Nat} (hs : s < 32) : IntKind.u64.wrap (1 * 2 ^ min ((s : Int)).toNat 64) = ((2 ^ s : Nat) : Int) := by
  rw [shl_u64 hs (by decide) (by decide), Int.one_mul, p2cast]
theorem pow_s {s : Nat} (hs : s < 32) : 2 ^ s ≤ 2147483648 := Nat.pow_le_pow_right (n := 2) (by decide) (show s ≤ 31 by omega)
theorem len_ys {y s : Nat} (hy : 0 < y) (hs : s < 32) : (digs B32 (y * 2 ^ s)).length ≤ (digs B32 y).length + 1 :=
  len_yB (Nat.mul_lt_mul_of_pos_left (Nat.lt_of_le_of_lt (pow_s hs) (by decide)) hy)
theorem trm_1 {d : Nat} (h : d < B32) : trm [(d : Int)] = digs B32 d := trm_digs (by decide) (fun x hx => by rw [List.mem_singleton] at hx; subst hx; exact ⟨by omega, by exact_mod_cast h⟩) (by simp [vb])
theorem cmp_ge {x y : Nat} (h : y ≤ x) : 0 ≤ cmpI (x : Int) y := by unfold cmpI; (repeat' split) <;> omega
theorem cmp_lt' {x y : Nat} (h : ¬ 0 ≤ cmpI (x : Int) y) : x < y := Nat.lt_of_not_le fun hle => h (cmp_ge hle)
theorem quo32 {n : Nat} (h : n < 4611686018427387904) : IntKind.i64.wrap (Int.tdiv (n : Int) 32) = ((n / 32 : Nat) : Int) := by
  rw [Int.tdiv_eq_ediv_of_nonneg (by omega), wrap_i64 (by omega) (by omega)]; omega
theorem rem32 {n : Nat} : Int.tmod (n : Int) 32 = ((n % 32 : Nat) : Int) := by
  rw [Int.tmod_eq_emod_of_nonneg (by omega)]; omega
/-- The quotient's digits so far. -/
structure Qd (x y k : Nat) (Q : List Int) : Prop where
  r : rng B32 Q
  v : vb B32 Q = ((x / B32 ^ k / y : Nat) : Int)
  l : Q.length = (digs B32 x).length - k
theorem qd_0 {x y : Nat} : Qd x y (digs B32 x).length [] := ⟨fun z hz => by simp at hz, by rw [top_0, Nat.zero_div]; rfl, by simp⟩
theorem Qd.next {x y k : Nat} {Q : List Int} (h : Qd x y k Q) (hy : 0 < y) (hk : 0 < k) (hkl : k ≤ (digs B32 x).length) : Qd x y (k - 1) (((x / B32 ^ k % y * B32 + x / B32 ^ (k - 1) % B32) / y : Nat) :: Q) := by
  have hd := dv_digit (x := x) hy hk
  have hR := dv_R (x := x) (k := k) hy
  refine ⟨rng_cons h.r (Int.natCast_nonneg _) (Int.ofNat_lt.2 (Nat.div_lt_of_lt_mul hR)), ?_, by rw [List.length_cons, h.l]; omega⟩
  show ((((x / B32 ^ k % y * B32 + x / B32 ^ (k - 1) % B32) / y : Nat) : Int)) + (B32 : Int) * vb B32 Q = _
  rw [h.v, hd.1, Int.natCast_add, Int.natCast_mul, Int.add_comm]
theorem Qd.fin {x y : Nat} {Q : List Int} (h : Qd x y 0 Q) : trm Q = digs B32 (x / y) := trm_digs (by decide) h.r (by rw [h.v, Nat.pow_zero, Nat.div_one])
end Go.Proofs.Ytcdipmjgpimmdaa.Vc

/- The references' five quotients, in plain Lean. -/
set_option linter.unusedVariables false
set_option linter.unusedSimpArgs false
namespace Go.Proofs.Ytcdipmjgpimmdaa.Vc
open Go Go.RowKit

theorem wq_abs {k : Nat} {v w : Int} (hw : w ≠ 0) : (wq k v w).natAbs ≤ v.natAbs ∧ (v - wq k v w * w).natAbs ≤ w.natAbs := by
  by_cases hr : rn v w ≠ 0 ∧ gro k v w = true
  · have h := way_yes hw hr.1 hr.2
    rw [← h.2, ← h.1, sgd_abs, sgd_abs]
    exact ⟨qn1_le hw hr.1, (rn_le hw).2⟩
  · have h := way_no (k := k) hw (by
      by_cases h1 : rn v w = 0
      · exact .inl h1
      · refine .inr ?_
        cases hg : gro k v w
        · rfl
        · exact absurd ⟨h1, hg⟩ hr)
    rw [← h.2, ← h.1, sgd_abs, sgd_abs]
    exact ⟨qn_le, (rn_le hw).1⟩
theorem dg_mono {v w : Int} (h : v.natAbs ≤ w.natAbs) : (dg v).length ≤ (dg w).length := len_le h
theorem dg_1 : (dg 1).length = 1 := by
  have h : lm 1 = [1] := by rw [← fl_lm (by decide) (by decide)]; rfl
  have e : dg 1 = digs B32 1 := rfl
  rw [e, digs_pos (by decide) (by decide)]
  have : 1 / B32 = 0 := rfl
  rw [this, digs_0]; rfl
theorem zfl {v w : Int} : zs (ng v w) (v.natAbs / w.natAbs) = sgd (ng v w) (qn v w) := by
  unfold zs sgd qn
  rw [← Int.natCast_ediv]
theorem rn_nat {v w : Int} : rn v w = ((v.natAbs % w.natAbs : Nat) : Int) := by unfold rn; rw [← Int.natCast_emod]
theorem flo_1 {v w : Int} (h : ng v w = false ∨ v.natAbs % w.natAbs = 0) : zs (ng v w) (v.natAbs / w.natAbs) = flo v w := by
  rw [zfl]
  unfold flo sgd
  rw [rn_nat]
  rcases h with h | h
  · rw [h]; simp
  · rw [h]; simp
theorem flo_2 {v w : Int} (h1 : ng v w = true) (h2 : ¬ v.natAbs % w.natAbs = 0) : zs (ng v w) (v.natAbs / w.natAbs) - 1 = flo v w := by
  rw [zfl]
  unfold flo sgd
  rw [rn_nat, h1, if_pos rfl, if_pos rfl, if_neg (by omega)]
theorem digs_len0 {n : Nat} : ((digs B32 n).length : Int) = 0 ↔ n = 0 := by
  rw [← digs_nil (n := n), ← List.length_eq_zero_iff]; omega
theorem nea_abs {v w : Int} : (((v - flo v w * w).natAbs * 2 ^ 1 : Nat) : Int) = 2 * ((v - flo v w * w).natAbs : Int) := by
  rw [Nat.pow_one]; omega
theorem nea_yes {v w : Int} (h : 0 < cmpI (((v - flo v w * w).natAbs * 2 ^ 1 : Nat) : Int) (w.natAbs : Int)) : nea v w = flo v w + 1 := by
  rw [nea_abs] at h
  unfold nea
  rw [if_pos]
  left
  unfold cmpI at h
  (repeat' split at h) <;> omega
theorem nea_tie {v w : Int} (h : cmpI (((v - flo v w * w).natAbs * 2 ^ 1 : Nat) : Int) (w.natAbs : Int) = 0) : nea v w = if (((flo v w).natAbs / 2 ^ 0 % 2 : Nat) : Int) = 1 then flo v w + 1 else flo v w := by
  rw [nea_abs, cmpI_0] at h
  unfold nea
  rw [Nat.pow_zero, Nat.div_one]
  by_cases hb : (flo v w).natAbs % 2 = 1
  · rw [if_pos (.inr ⟨h, hb⟩), if_pos (by omega)]
  · rw [if_neg (by rintro (h1 | ⟨_, h1⟩) <;> omega), if_neg (by omega)]
theorem nea_no {v w : Int} (h : ¬ 0 < cmpI (((v - flo v w * w).natAbs * 2 ^ 1 : Nat) : Int) (w.natAbs : Int)) (h2 : ¬ cmpI (((v - flo v w * w).natAbs * 2 ^ 1 : Nat) : Int) (w.natAbs : Int) = 0) : nea v w = flo v w := by
  rw [nea_abs] at h h2
  unfold nea
  rw [if_neg]
  unfold cmpI at h h2
  rintro (h1 | ⟨h1, _⟩)
  · rw [if_neg (by omega), if_pos (by omega)] at h; omega
  · rw [if_neg (by omega), if_neg (by omega)] at h2; omega
theorem dg_0 : dg 0 = [] := digs_0
end Go.Proofs.Ytcdipmjgpimmdaa.Vc

/- Where the rests of the five divisions lie, in plain Lean. -/
set_option linter.unusedVariables false
set_option linter.unusedSimpArgs false
namespace Go.Proofs.Ytcdipmjgpimmdaa.Vc
open Go Go.RowKit

end Go.Proofs.Ytcdipmjgpimmdaa.Vc

/- Contract of surdref01.Own. -/
set_option linter.unusedVariables false
set_option linter.unusedSimpArgs false
namespace Go.Proofs.Ytcdipmjgpimmdaa.Vc
open Go Go.RowKit
set_option maxHeartbeats 4000000 in
theorem Own_s (n : Nat) (hn : n < 1000000) (rs : Nat → List Int) (hlen : ∀ j, j < n → (rs j).length < 1099511627776) : SpecM Try.prog 25 [.o 0 0 0 n] (rowsJ n (owL0 n rs) (owR rs) []) (fun o _ => o = .ret (.b true)) := by
  refine specM_of [(0, .o 0 0 0 n)] rfl (_) rfl Try.func25 rfl (Nat.le_of_ble_eq_true rfl) fun Γ hN hds => ?_
  have hd : ∀ d, Nat.blt d 112 = true → d < Γ.N := fun d h => by rw [hN]; exact Nat.le_of_ble_eq_true h
  refine jc_H (H' := rowsJ n (owL0 n rs) (owF rs 0) []) ow_start ?_
  refine jc_seq ?_
  refine jc_region ?_
  refine jo_l (ly_as rfl) (hd 2 rfl) ?_
  refine jo_nil ?_
  refine jc_seq ?_
  refine jc_seq ?_
  refine jc_region ?_
  refine jo_l (ly_mv rfl) (hd 13 rfl) ?_
  refine jo_l (ly_leno sl81 rfl rfl) (hd 14 rfl) ?_
  refine jo_l (ly_mv rfl) (hd 15 rfl) ?_
  refine jo_nil ?_
  refine jc_block ?_
  refine jc_loopF (G := Nat) (fun i => i ≤ n) (fun i => [(15, .i .i64 (i : Int)), (3, .u), (4, .u), (5, .u), (16, .u), (17, .u), (18, .u), (19, .u), (20, .u), (21, .u), (22, .u), (23, .u), (24, .u), (25, .u), (26, .u), (27, .u), (28, .u), (29, .u), (30, .u), (31, .u), (32, .u), (33, .u)]) (fun i => rowsJ n (owL0 n rs) (owF rs i) []) (fun i => n - i) 0 ?_ ?_ rfl ?_
  · exact Nat.zero_le _
  · exact (.cons rfl (.u (.u (.u (.u (.u (.u (.u (.u (.u (.u (.u (.u (.u (.u (.u (.u (.u (.u (.u (.u (.u .nil))))))))))))))))))))))
  · rintro i hc1
    refine jc_seq ?_
    refine jc_region ?_
    refine jo_l (ly_lt rfl rfl) (hd 16 rfl) ?_
    refine jo_nil ?_
    refine jc_seq ?_
    refine jc_if rfl (fun h1 => ?_) (fun h1 => ?_)
    · have hi : i < n := by omega
      have hl := hlen i hi
      refine jc_skip ?_
      refine jc_seq ?_
      refine jc_block ?_
      refine jc_seq ?_
      refine jc_region ?_
      refine jo_l (ly_mv rfl) (hd 17 rfl) ?_
      refine jo_l (ly_ia (i := i) sl81 rfl rfl rfl (by first | rfl | omega) (by first | omega | (dsimp only; omega)) rfl) (hd 18 rfl) ?_
      refine jo_l (ly_ld one25 rfl rfl (rc_at hi rfl)) (hd 19 rfl) ?_
      refine jo_l (ly_as rfl) (hd 3 rfl) ?_
      refine jo_l (ly_as rfl) (hd 4 rfl) ?_
      refine jo_nil ?_
      refine jc_seq ?_
      refine jc_H (H' := rowsJ n (owL0 n rs) (upd (owF rs i) i (owK rs i 0)) []) ow_in ?_
      refine jc_region ?_
      refine jo_l (ly_mv rfl) (hd 20 rfl) ?_
      refine jo_l (ly_leno sl25 rfl (rj_upd hi)) (hd 21 rfl) ?_
      refine jo_l (ly_mv rfl) (hd 22 rfl) ?_
      refine jo_nil ?_
      refine jc_block ?_
      refine jc_loopF (G := Nat) (fun k => k ≤ (rs i).length) (fun k => [(22, .i .i64 (k : Int)), (5, .u), (23, .u), (24, .u), (25, .u), (26, .u), (27, .u), (28, .u), (29, .u), (30, .u), (31, .u), (32, .u)]) (fun k => rowsJ n (owL0 n rs) (upd (owF rs i) i (owK rs i k)) []) (fun k => (rs i).length - k) 0 ?_ ?_ rfl ?_
      · exact Nat.zero_le _
      · exact (.cons rfl (.u (.u (.u (.u (.u (.u (.u (.u (.u (.u (.u .nil))))))))))))
      · rintro k hc2
        refine jc_seq ?_
        refine jc_region ?_
        refine jo_l (ly_lt rfl rfl) (hd 23 rfl) ?_
        refine jo_nil ?_
        refine jc_seq ?_
        refine jc_if rfl (fun h2 => ?_) (fun h2 => ?_)
        · have hk : k < (rs i).length := by omega
          have hkl : k < (List.replicate k (owC i) ++ (rs i).drop k).length := by simp; omega
          refine jc_skip ?_
          refine jc_seq ?_
          refine jc_block ?_
          refine jc_seq ?_
          refine jc_region ?_
          refine jo_l (ly_mv rfl) (hd 24 rfl) ?_
          refine jo_l (ly_as rfl) (hd 5 rfl) ?_
          refine jo_nil ?_
          refine jc_region ?_
          refine jo_l (ly_mv rfl) (hd 25 rfl) ?_
          refine jo_l (ly_mv rfl) (hd 26 rfl) ?_
          refine jo_l (ly_mv rfl) (hd 27 rfl) ?_
          refine jo_l (ly_rem rfl rfl (by decide) rfl) (hd 28 rfl) ?_
          refine jo_l (ly_add rfl rfl (r := owC i) (by rw [show ((i : Int).tmod 251) = ((i % 251 : Nat) : Int) from rfl, wrap_i64 (by omega) (by omega)]; unfold owC; omega)) (hd 29 rfl) ?_
          refine jo_l (ly_conv und3 und82 rfl (r := owC i) (by unfold owC; rw [wrap_u64 (by omega) (by omega)])) (hd 30 rfl) ?_
          refine jo_l (ly_ia (i := k) sl25 rfl (rj_upd hi) rfl rfl (by omega) rfl) (hd 31 rfl) ?_
          refine jo_st (sy_storei rfl rfl (rj_upd hi) one82 (by omega)) ?_
          refine jo_nil ?_
          refine jc_region ?_
          refine jo_l (ly_add rfl rfl (wrap_i64 (by first | omega | (dsimp only; omega)) (by first | omega | (dsimp only; omega)))) (hd 32 rfl) ?_
          refine jo_l (ly_mv rfl) (hd 22 rfl) ?_
          refine jo_nil ?_
          refine ⟨k + 1, ?_, ?_, (ow_step hi (by omega)), cov_n 24 rfl rfl ?_⟩
          · omega
          · omega
          · exact (.cons rfl (.u (.u (.u (.u (.u (.u (.u (.u (.u (.u (.u .nil))))))))))))
        · refine jc_exit ?_
          refine jc_region ?_
          refine jo_l (ly_add rfl rfl (wrap_i64 (by first | omega | (dsimp only; omega)) (by first | omega | (dsimp only; omega)))) (hd 33 rfl) ?_
          refine jo_l (ly_mv rfl) (hd 15 rfl) ?_
          refine jo_nil ?_
          refine ⟨i + 1, ?_, ?_, (ow_out (by omega) (by omega)), cov_n 46 rfl rfl ?_⟩
          · omega
          · omega
          · exact (.cons rfl (.u (.u (.u (.u (.u (.u (.u (.u (.u (.u (.u (.u (.u (.u (.u (.u (.u (.u (.u (.u (.u .nil))))))))))))))))))))))
    · refine jc_exit ?_
      refine jc_seq ?_
      refine jc_seq ?_
      refine jc_H (H' := rowsJ n (owL n rs 0) (owG rs 0) []) (ow_two (by omega)) ?_
      refine jc_region ?_
      refine jo_l (ly_mv rfl) (hd 34 rfl) ?_
      refine jo_l (ly_leno sl81 rfl rfl) (hd 35 rfl) ?_
      refine jo_l (ly_mv rfl) (hd 36 rfl) ?_
      refine jo_nil ?_
      refine jc_block ?_
      refine jc_loopF (G := Nat × List Ob) (fun g => g.1 ≤ n) (fun g => [(36, .i .i64 (g.1 : Int)), (6, .u), (7, .u), (8, .u), (37, .u), (38, .u), (39, .u), (40, .u), (41, .u), (42, .u), (43, .u), (44, .u), (45, .u), (46, .u), (47, .u), (48, .u), (49, .u), (50, .u), (51, .u), (52, .u), (53, .u), (54, .u), (55, .u), (56, .u), (57, .u), (58, .u), (59, .u), (60, .u), (61, .u)]) (fun g => rowsJ n (owL n rs g.1) (owG rs g.1) g.2) (fun g => n - g.1) (0, []) ?_ ?_ rfl ?_
      · exact Nat.zero_le _
      · exact (.cons rfl (.u (.u (.u (.u (.u (.u (.u (.u (.u (.u (.u (.u (.u (.u (.u (.u (.u (.u (.u (.u (.u (.u (.u (.u (.u (.u (.u (.u .nil)))))))))))))))))))))))))))))
      · rintro ⟨i, J⟩ hc1
        dsimp only at hc1 ⊢
        refine jc_seq ?_
        refine jc_region ?_
        refine jo_l (ly_lt rfl rfl) (hd 37 rfl) ?_
        refine jo_nil ?_
        refine jc_seq ?_
        refine jc_if rfl (fun h3 => ?_) (fun h3 => ?_)
        · have hi : i < n := by omega
          have hl := hlen i hi
          refine jc_skip ?_
          refine jc_seq ?_
          refine jc_block ?_
          refine jc_seq ?_
          refine jc_region ?_
          refine jo_l (ly_mv rfl) (hd 38 rfl) ?_
          refine jo_l (ly_ia (i := i) sl81 rfl rfl rfl (by first | rfl | omega) (by first | omega | (dsimp only; omega)) rfl) (hd 39 rfl) ?_
          refine jo_l (ly_ld one25 rfl rfl (ow_load2 hi)) (hd 40 rfl) ?_
          refine jo_l (ly_as rfl) (hd 6 rfl) ?_
          refine jo_l (ly_as rfl) (hd 7 rfl) ?_
          refine jo_nil ?_
          refine jc_seq ?_
          refine jc_region ?_
          refine jo_l (ly_mv rfl) (hd 41 rfl) ?_
          refine jo_l (ly_mul rfl rfl (r := ((5 * i : Nat) : Int)) (by rw [wrap_i64 (by omega) (by omega)]; omega)) (hd 42 rfl) ?_
          refine jo_l (ly_add rfl rfl (r := ((300 + 5 * i : Nat) : Int)) (by rw [wrap_i64 (by omega) (by omega)]; omega)) (hd 43 rfl) ?_
          refine jo_l (ly_conv und3 und82 rfl (r := ((300 + 5 * i : Nat) : Int)) (by rw [wrap_u64 (by omega) (by omega)]; try omega)) (hd 44 rfl) ?_
          refine jo_l (ly_as rfl) (hd 8 rfl) ?_
          refine jo_nil ?_
          refine jc_seq ?_
          refine jc_region ?_
          refine jo_l (ly_mv rfl) (hd 45 rfl) ?_
          refine jo_l (ly_mv rfl) (hd 46 rfl) ?_
          refine jo_l (ly_mv rfl) (hd 47 rfl) ?_
          refine jo_l (ly_add rfl rfl (r := ((300 + 5 * i + 1 : Nat) : Int)) (by rw [wrap_u64 (by omega) (by omega)]; try omega)) (hd 48 rfl) ?_
          refine jo_l (ly_mv rfl) (hd 49 rfl) ?_
          refine jo_l (ly_add rfl rfl (r := ((300 + 5 * i + 2 : Nat) : Int)) (by rw [wrap_u64 (by omega) (by omega)]; try omega)) (hd 50 rfl) ?_
          refine jo_l (ly_mv rfl) (hd 51 rfl) ?_
          refine jo_l (ly_add rfl rfl (r := ((300 + 5 * i + 3 : Nat) : Int)) (by rw [wrap_u64 (by omega) (by omega)]; try omega)) (hd 52 rfl) ?_
          refine jo_l (ly_mv rfl) (hd 53 rfl) ?_
          refine jo_l (ly_add rfl rfl (r := ((300 + 5 * i + 4 : Nat) : Int)) (by rw [wrap_u64 (by omega) (by omega)]; try omega)) (hd 54 rfl) ?_
          refine jo_h (hy_lit (id := n + 1 + J.length) (xs := [.tmp 46, .tmp 48, .tmp 50, .tmp 52, .tmp 54]) el25 rfl (ovL_cons rfl (ovL_cons rfl (ovL_cons rfl (ovL_cons rfl (ovL_cons rfl ovL_nil))))) rfl (all2_of rfl) (by decide) rj_len) (hd 55 rfl) ?_
          refine jo_H (H' := rowsJ n (owL n rs i) (owG rs i) (J ++ [⟨82, 1, 0, true, ints .u64 (owB i)⟩])) rj_app ?_
          refine jo_app el25 rfl (ow_row2 hi) (by simp [ints]) rfl (src_o rj_last rfl rfl) (by omega) (by unfold maxLen; omega) (hd 56 rfl) ?_
          refine jo_H (ow_grow hi) ?_
          refine jo_l (ly_as rfl) (hd 7 rfl) ?_
          refine jo_nil ?_
          refine jc_region ?_
          refine jo_l (ly_mv rfl) (hd 57 rfl) ?_
          refine jo_l (ly_mv rfl) (hd 58 rfl) ?_
          refine jo_l (ly_mv rfl) (hd 59 rfl) ?_
          refine jo_l (ly_ia (i := i) sl81 rfl rfl rfl (by first | rfl | omega) (by first | omega | (dsimp only; omega)) rfl) (hd 60 rfl) ?_
          refine jo_st (sy_store rfl rfl rfl siz25 rfl (by simp [cellsV, oneO, rj_upd hi, owE]) (by simp [owL]; omega)) ?_
          refine jo_nil ?_
          refine jc_region ?_
          refine jo_l (ly_add rfl rfl (wrap_i64 (by first | omega | (dsimp only; omega)) (by first | omega | (dsimp only; omega)))) (hd 61 rfl) ?_
          refine jo_l (ly_mv rfl) (hd 36 rfl) ?_
          refine jo_nil ?_
          refine ⟨(i + 1, _), ?_, ?_, (ow_next hi), cov_n 59 rfl rfl ?_⟩
          · show i + 1 ≤ n; omega
          · show n - (i + 1) < n - i; omega
          · exact (.cons rfl (.u (.u (.u (.u (.u (.u (.u (.u (.u (.u (.u (.u (.u (.u (.u (.u (.u (.u (.u (.u (.u (.u (.u (.u (.u (.u (.u (.u .nil)))))))))))))))))))))))))))))
        · refine jc_exit ?_
          refine jc_seq ?_
          refine jc_seq ?_
          refine jc_region ?_
          refine jo_l (ly_mv rfl) (hd 62 rfl) ?_
          refine jo_l (ly_leno sl81 rfl rfl) (hd 63 rfl) ?_
          refine jo_l (ly_mv rfl) (hd 64 rfl) ?_
          refine jo_nil ?_
          refine jc_block ?_
          refine jc_loopF (G := Nat) (fun q => q ≤ n) (fun q => [(64, .i .i64 (q : Int)), (2, .u), (9, .u), (10, .u), (11, .u), (12, .u), (65, .u), (66, .u), (67, .u), (68, .u), (69, .u), (70, .u), (71, .u), (72, .u), (73, .u), (74, .u), (75, .u), (76, .u), (77, .u), (78, .u), (79, .u), (80, .u), (81, .u), (82, .u), (83, .u), (84, .u), (85, .u), (86, .u), (87, .u), (88, .u), (89, .u), (90, .u), (91, .u), (92, .u), (93, .u), (94, .u), (95, .u), (96, .u), (97, .u), (98, .u), (99, .u), (100, .u), (101, .u), (102, .u), (103, .u), (104, .u), (105, .u), (106, .u), (107, .u), (108, .u), (109, .u), (110, .u), (111, .u)]) (fun q => rowsJ n (owL n rs i) (owG rs i) J) (fun q => n - q) 0 ?_ ?_ rfl ?_
          · exact Nat.zero_le _
          · exact (.cons rfl (.u (.u (.u (.u (.u (.u (.u (.u (.u (.u (.u (.u (.u (.u (.u (.u (.u (.u (.u (.u (.u (.u (.u (.u (.u (.u (.u (.u (.u (.u (.u (.u (.u (.u (.u (.u (.u (.u (.u (.u (.u (.u (.u (.u (.u (.u (.u (.u (.u (.u (.u (.u .nil)))))))))))))))))))))))))))))))))))))))))))))))))))))
          · rintro q hc2
            refine jc_seq ?_
            refine jc_region ?_
            refine jo_l (ly_lt rfl rfl) (hd 65 rfl) ?_
            refine jo_nil ?_
            refine jc_seq ?_
            refine jc_if rfl (fun h4 => ?_) (fun h4 => ?_)
            · have hi : q < n := by omega
              have hl := hlen q hi
              have hm : ¬ i < n := by omega
              refine jc_skip ?_
              refine jc_seq ?_
              refine jc_block ?_
              refine jc_seq ?_
              refine jc_region ?_
              refine jo_l (ly_mv rfl) (hd 66 rfl) ?_
              refine jo_l (ly_ia (i := q) sl81 rfl rfl rfl (by first | rfl | omega) (by first | omega | (dsimp only; omega)) rfl) (hd 67 rfl) ?_
              refine jo_l (ly_ld one25 rfl rfl (ow_load3 hi hm)) (hd 68 rfl) ?_
              refine jo_l (ly_as rfl) (hd 9 rfl) ?_
              refine jo_l (ly_as rfl) (hd 10 rfl) ?_
              refine jo_nil ?_
              refine jc_seq ?_
              refine jc_region ?_
              refine jo_l (ly_mv rfl) (hd 69 rfl) ?_
              refine jo_l (ly_leno sl25 rfl (ow_row3 hi hm)) (hd 70 rfl) ?_
              refine jo_l (ly_mv rfl) (hd 71 rfl) ?_
              refine jo_nil ?_
              refine jc_block ?_
              refine jc_loopF (G := Nat) (fun k => k ≤ (rs q).length + 5) (fun k => [(71, .i .i64 (k : Int)), (2, .u), (11, .u), (12, .u), (72, .u), (73, .u), (74, .u), (75, .u), (76, .u), (77, .u), (78, .u), (79, .u), (80, .u), (81, .u), (82, .u), (83, .u), (84, .u), (85, .u), (86, .u), (87, .u), (88, .u), (89, .u), (90, .u), (91, .u), (92, .u), (93, .u), (94, .u), (95, .u), (96, .u), (97, .u), (98, .u), (99, .u), (100, .u), (101, .u), (102, .u), (103, .u), (104, .u), (105, .u), (106, .u), (107, .u), (108, .u), (109, .u), (110, .u)]) (fun k => rowsJ n (owL n rs i) (owG rs i) J) (fun k => (rs q).length + 5 - k) 0 ?_ ?_ rfl ?_
              · exact Nat.zero_le _
              · exact (.cons rfl (.u (.u (.u (.u (.u (.u (.u (.u (.u (.u (.u (.u (.u (.u (.u (.u (.u (.u (.u (.u (.u (.u (.u (.u (.u (.u (.u (.u (.u (.u (.u (.u (.u (.u (.u (.u (.u (.u (.u (.u (.u (.u .nil)))))))))))))))))))))))))))))))))))))))))))
              · rintro k hc3
                refine jc_seq ?_
                refine jc_region ?_
                refine jo_l (ly_lt rfl rfl) (hd 72 rfl) ?_
                refine jo_nil ?_
                refine jc_seq ?_
                refine jc_if rfl (fun h5 => ?_) (fun h5 => ?_)
                · have hk : k < (rs q).length + 5 := by omega
                  have hkl := ow_len (rs := rs) (i := q)
                  refine jc_skip ?_
                  refine jc_seq ?_
                  refine jc_block ?_
                  refine jc_seq ?_
                  refine jc_region ?_
                  refine jo_l (ly_mv rfl) (hd 73 rfl) ?_
                  refine jo_l (ly_ia (i := k) sl25 rfl (ow_row3 hi hm) rfl rfl (by omega) rfl) (hd 74 rfl) ?_
                  refine jo_l (ly_is (ly_ldi one82 rfl (ow_row3 hi hm) (by omega)) (congrArg (V.i .u64) (ow_val hk))) (hd 75 rfl) ?_
                  refine jo_l (ly_as rfl) (hd 11 rfl) ?_
                  refine jo_l (ly_as rfl) (hd 12 rfl) ?_
                  refine jo_nil ?_
                  refine jc_seq ?_
                  refine jc_region ?_
                  refine jo_l (ly_mv rfl) (hd 76 rfl) ?_
                  refine jo_l (ly_mv rfl) (hd 77 rfl) ?_
                  refine jo_l (ly_leno sl25 rfl (ow_row3 hi hm)) (hd 78 rfl) ?_
                  refine jo_l (ly_sub rfl rfl (r := (((rs q).length : Nat) : Int)) (by rw [wrap_i64 (by omega) (by omega)]; omega)) (hd 79 rfl) ?_
                  refine jo_l (ly_lt rfl rfl) (hd 80 rfl) ?_
                  refine jo_l (ly_mv rfl) (hd 81 rfl) ?_
                  refine jo_ifp 81 rfl (fun h6 => ?_) (fun h6 => ?_)
                  · refine jo_g 81 rfl rfl (ly_mv rfl) (hd 82 rfl) ?_
                    refine jo_g 81 rfl rfl (ly_mv rfl) (hd 83 rfl) ?_
                    refine jo_g 81 rfl rfl (ly_rem rfl rfl (by decide) rfl) (hd 84 rfl) ?_
                    refine jo_g 81 rfl rfl (ly_add rfl rfl (r := owC q) (by rw [show ((q : Int).tmod 251) = ((q % 251 : Nat) : Int) from rfl, wrap_i64 (by omega) (by omega)]; unfold owC; omega)) (hd 85 rfl) ?_
                    refine jo_g 81 rfl rfl (ly_conv und3 und82 rfl (r := owC q) (by unfold owC; rw [wrap_u64 (by omega) (by omega)])) (hd 86 rfl) ?_
                    refine jo_g 81 rfl rfl (ly_ff (ly_ne rfl rfl) (fun h => h (if_pos (by omega)))) (hd 87 rfl) ?_
                    refine jo_l (ly_pick_t rfl rfl) (hd 88 rfl) ?_
                    refine jo_l (ly_mv rfl) (hd 89 rfl) ?_
                    refine jo_g 89 rfl rfl (ly_mv rfl) (hd 90 rfl) ?_
                    refine jo_g 89 rfl rfl (ly_mv rfl) (hd 91 rfl) ?_
                    refine jo_g 89 rfl rfl (ly_leno sl25 rfl (ow_row3 hi hm)) (hd 92 rfl) ?_
                    refine jo_g 89 rfl rfl (ly_sub rfl rfl (r := (((rs q).length : Nat) : Int)) (by rw [wrap_i64 (by omega) (by omega)]; omega)) (hd 93 rfl) ?_
                    refine jo_g 89 rfl rfl (ly_ge rfl rfl) (hd 94 rfl) ?_
                    refine jo_g 89 rfl rfl (ly_mv rfl) (hd 95 rfl) ?_
                    refine jo_ifp 95 rfl (fun h7 => ?_) (fun h7 => ?_)
                    · refine jo_g 95 rfl rfl (ly_mv rfl) (hd 96 rfl) ?_
                      refine jo_g 95 rfl rfl (ly_mv rfl) (hd 97 rfl) ?_
                      refine jo_g 95 rfl rfl (ly_mul rfl rfl (r := ((5 * q : Nat) : Int)) (by rw [wrap_i64 (by omega) (by omega)]; omega)) (hd 98 rfl) ?_
                      refine jo_g 95 rfl rfl (ly_add rfl rfl (r := ((300 + 5 * q : Nat) : Int)) (by rw [wrap_i64 (by omega) (by omega)]; omega)) (hd 99 rfl) ?_
                      refine jo_g 95 rfl rfl (ly_mv rfl) (hd 100 rfl) ?_
                      refine jo_g 95 rfl rfl (ly_add rfl rfl (r := ((300 + 5 * q + k : Nat) : Int)) (by rw [wrap_i64 (by omega) (by omega)]; omega)) (hd 101 rfl) ?_
                      refine jo_g 95 rfl rfl (ly_mv rfl) (hd 102 rfl) ?_
                      refine jo_g 95 rfl rfl (ly_leno sl25 rfl (ow_row3 hi hm)) (hd 103 rfl) ?_
                      refine jo_g 95 rfl rfl (ly_sub rfl rfl (r := ((300 + 5 * q + k - ((rs q).length + 5) : Nat) : Int)) (by rw [wrap_i64 (by omega) (by omega)]; omega)) (hd 104 rfl) ?_
                      refine jo_g 95 rfl rfl (ly_add rfl rfl (r := ((300 + 5 * q + (k - (rs q).length) : Nat) : Int)) (by rw [wrap_i64 (by omega) (by omega)]; omega)) (hd 105 rfl) ?_
                      refine jo_g 95 rfl rfl (ly_conv und3 und82 rfl (r := ((300 + 5 * q + (k - (rs q).length) : Nat) : Int)) (by rw [wrap_u64 (by omega) (by omega)]; try omega)) (hd 106 rfl) ?_
                      refine jo_g 95 rfl rfl (ly_ff (ly_ne rfl rfl) (fun h => h (if_neg (by omega)))) (hd 107 rfl) ?_
                      refine jo_g 89 rfl rfl (ly_pick_t rfl rfl) (hd 108 rfl) ?_
                      refine jo_l (ly_pick_f rfl rfl) (hd 109 rfl) ?_
                      refine jo_nil ?_
                      refine jc_litf rfl ?_
                      refine jc_skip ?_
                      refine jc_region ?_
                      refine jo_l (ly_add rfl rfl (wrap_i64 (by first | omega | (dsimp only; omega)) (by first | omega | (dsimp only; omega)))) (hd 110 rfl) ?_
                      refine jo_l (ly_mv rfl) (hd 71 rfl) ?_
                      refine jo_nil ?_
                      refine ⟨k + 1, ?_, ?_, rfl, cov_n 87 rfl rfl ?_⟩
                      · omega
                      · omega
                      · exact (.cons rfl (.u (.u (.u (.u (.u (.u (.u (.u (.u (.u (.u (.u (.u (.u (.u (.u (.u (.u (.u (.u (.u (.u (.u (.u (.u (.u (.u (.u (.u (.u (.u (.u (.u (.u (.u (.u (.u (.u (.u (.u (.u (.u .nil)))))))))))))))))))))))))))))))))))))))))))
                    · refine jo_s 95 rfl rfl rfl (hd 96 rfl) ?_
                      refine jo_s 95 rfl rfl rfl (hd 97 rfl) ?_
                      refine jo_s 95 rfl rfl rfl (hd 98 rfl) ?_
                      refine jo_s 95 rfl rfl rfl (hd 99 rfl) ?_
                      refine jo_s 95 rfl rfl rfl (hd 100 rfl) ?_
                      refine jo_s 95 rfl rfl rfl (hd 101 rfl) ?_
                      refine jo_s 95 rfl rfl rfl (hd 102 rfl) ?_
                      refine jo_s 95 rfl rfl rfl (hd 103 rfl) ?_
                      refine jo_s 95 rfl rfl rfl (hd 104 rfl) ?_
                      refine jo_s 95 rfl rfl rfl (hd 105 rfl) ?_
                      refine jo_s 95 rfl rfl rfl (hd 106 rfl) ?_
                      refine jo_s 95 rfl rfl rfl (hd 107 rfl) ?_
                      refine jo_g 89 rfl rfl (ly_pick_f rfl rfl) (hd 108 rfl) ?_
                      refine jo_l (ly_pick_f rfl rfl) (hd 109 rfl) ?_
                      refine jo_nil ?_
                      refine jc_litf rfl ?_
                      refine jc_skip ?_
                      refine jc_region ?_
                      refine jo_l (ly_add rfl rfl (wrap_i64 (by first | omega | (dsimp only; omega)) (by first | omega | (dsimp only; omega)))) (hd 110 rfl) ?_
                      refine jo_l (ly_mv rfl) (hd 71 rfl) ?_
                      refine jo_nil ?_
                      refine ⟨k + 1, ?_, ?_, rfl, cov_n 87 rfl rfl ?_⟩
                      · omega
                      · omega
                      · exact (.cons rfl (.u (.u (.u (.u (.u (.u (.u (.u (.u (.u (.u (.u (.u (.u (.u (.u (.u (.u (.u (.u (.u (.u (.u (.u (.u (.u (.u (.u (.u (.u (.u (.u (.u (.u (.u (.u (.u (.u (.u (.u (.u (.u .nil)))))))))))))))))))))))))))))))))))))))))))
                  · refine jo_s 81 rfl rfl rfl (hd 82 rfl) ?_
                    refine jo_s 81 rfl rfl rfl (hd 83 rfl) ?_
                    refine jo_s 81 rfl rfl rfl (hd 84 rfl) ?_
                    refine jo_s 81 rfl rfl rfl (hd 85 rfl) ?_
                    refine jo_s 81 rfl rfl rfl (hd 86 rfl) ?_
                    refine jo_s 81 rfl rfl rfl (hd 87 rfl) ?_
                    refine jo_l (ly_pick_f rfl rfl) (hd 88 rfl) ?_
                    refine jo_l (ly_mv rfl) (hd 89 rfl) ?_
                    refine jo_g 89 rfl rfl (ly_mv rfl) (hd 90 rfl) ?_
                    refine jo_g 89 rfl rfl (ly_mv rfl) (hd 91 rfl) ?_
                    refine jo_g 89 rfl rfl (ly_leno sl25 rfl (ow_row3 hi hm)) (hd 92 rfl) ?_
                    refine jo_g 89 rfl rfl (ly_sub rfl rfl (r := (((rs q).length : Nat) : Int)) (by rw [wrap_i64 (by omega) (by omega)]; omega)) (hd 93 rfl) ?_
                    refine jo_g 89 rfl rfl (ly_ge rfl rfl) (hd 94 rfl) ?_
                    refine jo_g 89 rfl rfl (ly_mv rfl) (hd 95 rfl) ?_
                    refine jo_ifp 95 rfl (fun h10 => ?_) (fun h10 => ?_)
                    · refine jo_g 95 rfl rfl (ly_mv rfl) (hd 96 rfl) ?_
                      refine jo_g 95 rfl rfl (ly_mv rfl) (hd 97 rfl) ?_
                      refine jo_g 95 rfl rfl (ly_mul rfl rfl (r := ((5 * q : Nat) : Int)) (by rw [wrap_i64 (by omega) (by omega)]; omega)) (hd 98 rfl) ?_
                      refine jo_g 95 rfl rfl (ly_add rfl rfl (r := ((300 + 5 * q : Nat) : Int)) (by rw [wrap_i64 (by omega) (by omega)]; omega)) (hd 99 rfl) ?_
                      refine jo_g 95 rfl rfl (ly_mv rfl) (hd 100 rfl) ?_
                      refine jo_g 95 rfl rfl (ly_add rfl rfl (r := ((300 + 5 * q + k : Nat) : Int)) (by rw [wrap_i64 (by omega) (by omega)]; omega)) (hd 101 rfl) ?_
                      refine jo_g 95 rfl rfl (ly_mv rfl) (hd 102 rfl) ?_
                      refine jo_g 95 rfl rfl (ly_leno sl25 rfl (ow_row3 hi hm)) (hd 103 rfl) ?_
                      refine jo_g 95 rfl rfl (ly_sub rfl rfl (r := ((300 + 5 * q + k - ((rs q).length + 5) : Nat) : Int)) (by rw [wrap_i64 (by omega) (by omega)]; omega)) (hd 104 rfl) ?_
                      refine jo_g 95 rfl rfl (ly_add rfl rfl (r := ((300 + 5 * q + (k - (rs q).length) : Nat) : Int)) (by rw [wrap_i64 (by omega) (by omega)]; omega)) (hd 105 rfl) ?_
                      refine jo_g 95 rfl rfl (ly_conv und3 und82 rfl (r := ((300 + 5 * q + (k - (rs q).length) : Nat) : Int)) (by rw [wrap_u64 (by omega) (by omega)]; try omega)) (hd 106 rfl) ?_
                      refine jo_g 95 rfl rfl (ly_ff (ly_ne rfl rfl) (fun h => h (if_neg (by omega)))) (hd 107 rfl) ?_
                      refine jo_g 89 rfl rfl (ly_pick_t rfl rfl) (hd 108 rfl) ?_
                      refine jo_l (ly_pick_f rfl rfl) (hd 109 rfl) ?_
                      refine jo_nil ?_
                      refine jc_litf rfl ?_
                      refine jc_skip ?_
                      refine jc_region ?_
                      refine jo_l (ly_add rfl rfl (wrap_i64 (by first | omega | (dsimp only; omega)) (by first | omega | (dsimp only; omega)))) (hd 110 rfl) ?_
                      refine jo_l (ly_mv rfl) (hd 71 rfl) ?_
                      refine jo_nil ?_
                      refine ⟨k + 1, ?_, ?_, rfl, cov_n 87 rfl rfl ?_⟩
                      · omega
                      · omega
                      · exact (.cons rfl (.u (.u (.u (.u (.u (.u (.u (.u (.u (.u (.u (.u (.u (.u (.u (.u (.u (.u (.u (.u (.u (.u (.u (.u (.u (.u (.u (.u (.u (.u (.u (.u (.u (.u (.u (.u (.u (.u (.u (.u (.u (.u .nil)))))))))))))))))))))))))))))))))))))))))))
                    · refine jo_s 95 rfl rfl rfl (hd 96 rfl) ?_
                      refine jo_s 95 rfl rfl rfl (hd 97 rfl) ?_
                      refine jo_s 95 rfl rfl rfl (hd 98 rfl) ?_
                      refine jo_s 95 rfl rfl rfl (hd 99 rfl) ?_
                      refine jo_s 95 rfl rfl rfl (hd 100 rfl) ?_
                      refine jo_s 95 rfl rfl rfl (hd 101 rfl) ?_
                      refine jo_s 95 rfl rfl rfl (hd 102 rfl) ?_
                      refine jo_s 95 rfl rfl rfl (hd 103 rfl) ?_
                      refine jo_s 95 rfl rfl rfl (hd 104 rfl) ?_
                      refine jo_s 95 rfl rfl rfl (hd 105 rfl) ?_
                      refine jo_s 95 rfl rfl rfl (hd 106 rfl) ?_
                      refine jo_s 95 rfl rfl rfl (hd 107 rfl) ?_
                      refine jo_g 89 rfl rfl (ly_pick_f rfl rfl) (hd 108 rfl) ?_
                      refine jo_l (ly_pick_f rfl rfl) (hd 109 rfl) ?_
                      refine jo_nil ?_
                      refine jc_litf rfl ?_
                      refine jc_skip ?_
                      refine jc_region ?_
                      refine jo_l (ly_add rfl rfl (wrap_i64 (by first | omega | (dsimp only; omega)) (by first | omega | (dsimp only; omega)))) (hd 110 rfl) ?_
                      refine jo_l (ly_mv rfl) (hd 71 rfl) ?_
                      refine jo_nil ?_
                      refine ⟨k + 1, ?_, ?_, rfl, cov_n 87 rfl rfl ?_⟩
                      · omega
                      · omega
                      · exact (.cons rfl (.u (.u (.u (.u (.u (.u (.u (.u (.u (.u (.u (.u (.u (.u (.u (.u (.u (.u (.u (.u (.u (.u (.u (.u (.u (.u (.u (.u (.u (.u (.u (.u (.u (.u (.u (.u (.u (.u (.u (.u (.u (.u .nil)))))))))))))))))))))))))))))))))))))))))))
                · refine jc_exit ?_
                  refine jc_region ?_
                  refine jo_l (ly_add rfl rfl (wrap_i64 (by first | omega | (dsimp only; omega)) (by first | omega | (dsimp only; omega)))) (hd 111 rfl) ?_
                  refine jo_l (ly_mv rfl) (hd 64 rfl) ?_
                  refine jo_nil ?_
                  refine ⟨q + 1, ?_, ?_, rfl, cov_n 108 (by kernel_rfl) (by kernel_rfl) ?_⟩
                  · omega
                  · omega
                  · exact (.cons rfl (.u (.u (.u (.u (.u (.u (.u (.u (.u (.u (.u (.u (.u (.u (.u (.u (.u (.u (.u (.u (.u (.u (.u (.u (.u (.u (.u (.u (.u (.u (.u (.u (.u (.u (.u (.u (.u (.u (.u (.u (.u (.u (.u (.u (.u (.u (.u (.u (.u (.u (.u (.u .nil)))))))))))))))))))))))))))))))))))))))))))))))))))))
            · refine jc_exit ?_
              refine jc_seq ?_
              refine jc_region ?_
              refine jo_l (ly_as rfl) (hd 2 rfl) ?_
              refine jo_nil ?_
              refine jc_ret ?_
              refine ⟨_, (.cons rfl .nil), rfl, (ow_end (m := i)), ?_⟩
              exact rfl
end Go.Proofs.Ytcdipmjgpimmdaa.Vc

/- Contracts of nat.trim, nat.Norm. -/
set_option linter.unusedVariables false
set_option linter.unusedSimpArgs false
namespace Go.Proofs.Ytcdipmjgpimmdaa.Vc
open Go Go.RowKit
set_option maxHeartbeats 4000000 in
theorem trim_s (l : List Int) (hl : l.length < 1099511627776) : Spec Try.prog 84 [.n false .u64 l] (fun o => o = .ret (.n false .u64 (trm l))) := by
  refine spec_of' [(0, .n false .u64 l)] rfl Try.func84 rfl (Nat.le_of_ble_eq_true rfl) fun Γ hN hds hL hR => ?_
  have hd : ∀ d, Nat.blt d 21 = true → d < Γ.N := fun d h => by rw [hN]; exact Nat.le_of_ble_eq_true h
  refine jc_seq ?_
  refine jc_region ?_
  refine jo_l (ly_as rfl) (hd 2 rfl) ?_
  refine jo_nil ?_
  refine jc_seq ?_
  refine jc_block ?_
  refine jc_loopF (G := Nat) (fun k => k ≤ l.length ∧ tN l k = tN l l.length) (fun k => [(0, .n false .u64 (l.take k)), (3, .u), (4, .u), (5, .u), (6, .u), (7, .u), (8, .u), (9, .u), (10, .u), (11, .u), (12, .u), (13, .u), (14, .u), (15, .u), (16, .u), (17, .u), (18, .u), (19, .u)]) (fun _ => _) (fun k => k) l.length ?_ ?_ rfl ?_
  · exact ⟨Nat.le_refl _, rfl⟩
  · exact (.cons (by rw [List.take_length]; rfl) (.u (.u (.u (.u (.u (.u (.u (.u (.u (.u (.u (.u (.u (.u (.u (.u (.u .nil))))))))))))))))))
  · rintro k ⟨hc1, hc2⟩
    have hm : (l.take k).length = k := by rw [List.length_take]; omega
    refine jc_seq ?_
    refine jc_seq ?_
    refine jc_region ?_
    refine jo_l (ly_mv rfl) (hd 3 rfl) ?_
    refine jo_l (ly_lenn sl28 rfl) (hd 4 rfl) ?_
    refine jo_l (ly_gt rfl rfl) (hd 5 rfl) ?_
    refine jo_l (ly_mv rfl) (hd 6 rfl) ?_
    refine jo_ifp 6 rfl (fun h1 => ?_) (fun h1 => ?_)
    · refine jo_g 6 rfl rfl (ly_mv rfl) (hd 7 rfl) ?_
      refine jo_g 6 rfl rfl (ly_mv rfl) (hd 8 rfl) ?_
      refine jo_g 6 rfl rfl (ly_lenn sl28 rfl) (hd 9 rfl) ?_
      refine jo_g 6 rfl rfl (ly_sub rfl rfl (wrap_i64 (by omega) (by omega))) (hd 10 rfl) ?_
      refine jo_g 6 rfl rfl (ly_ian (i := k - 1) sl28 rfl rfl (by first | rfl | omega) (by omega)) (hd 11 rfl) ?_
      refine jo_g 6 rfl rfl (ly_ldq one82 rfl rfl) (hd 12 rfl) ?_
      refine jo_g 6 rfl rfl (ly_eq rfl rfl) (hd 13 rfl) ?_
      refine jo_l (ly_pick_t rfl rfl) (hd 14 rfl) ?_
      refine jo_nil ?_
      refine jc_if rfl (fun h2 => ?_) (fun h2 => ?_)
      · refine jc_skip ?_
        refine jc_block ?_
        refine jc_region ?_
        refine jo_l (ly_mv rfl) (hd 15 rfl) ?_
        refine jo_l (ly_mv rfl) (hd 16 rfl) ?_
        refine jo_l (ly_lenn sl28 rfl) (hd 17 rfl) ?_
        refine jo_l (ly_sub rfl rfl (wrap_i64 (by omega) (by omega))) (hd 18 rfl) ?_
        refine jo_l (ly_sln sl28 rfl bnd_none (bnd_some' rfl (show ((l.take k).length : Int) - 1 = ((k - 1 : Nat) : Int) by omega)) (.inl rfl) (by omega) (by omega)) (hd 19 rfl) ?_
        refine jo_l (ly_as rfl) (hd 0 rfl) ?_
        refine jo_nil ?_
        refine ⟨k - 1, ?_, ?_, rfl, cov_n 37 rfl rfl ?_⟩
        · exact ⟨by omega, by rw [← hc2, tN_down (by omega) (by rw [← getD_take (show k - 1 < k by omega)]; assumption)]⟩
        · omega
        · exact (.cons (by show some (V.n false .u64 _) = some (V.n false .u64 _); rw [List.drop_zero, List.take_take, Nat.min_eq_left (by omega)]) (.u (.u (.u (.u (.u (.u (.u (.u (.u (.u (.u (.u (.u (.u (.u (.u (.u .nil))))))))))))))))))
      · refine jc_exit ?_
        refine jc_seq ?_
        refine jc_region ?_
        refine jo_l (ly_mv rfl) (hd 20 rfl) ?_
        refine jo_l (ly_as rfl) (hd 2 rfl) ?_
        refine jo_nil ?_
        refine jc_ret ?_
        refine ⟨_, _, (.cons rfl .nil), .n, ?_⟩
        unfold trm
        rw [← hc2, tN_stop (by omega) (by rw [← getD_take (show k - 1 < k by omega)]; assumption)]
    · refine jo_s 6 rfl rfl rfl (hd 7 rfl) ?_
      refine jo_s 6 rfl rfl rfl (hd 8 rfl) ?_
      refine jo_s 6 rfl rfl rfl (hd 9 rfl) ?_
      refine jo_s 6 rfl rfl rfl (hd 10 rfl) ?_
      refine jo_s 6 rfl rfl rfl (hd 11 rfl) ?_
      refine jo_s 6 rfl rfl rfl (hd 12 rfl) ?_
      refine jo_s 6 rfl rfl rfl (hd 13 rfl) ?_
      refine jo_l (ly_pick_f rfl rfl) (hd 14 rfl) ?_
      refine jo_nil ?_
      refine jc_litf rfl ?_
      refine jc_exit ?_
      refine jc_seq ?_
      refine jc_region ?_
      refine jo_l (ly_mv rfl) (hd 20 rfl) ?_
      refine jo_l (ly_as rfl) (hd 2 rfl) ?_
      refine jo_nil ?_
      refine jc_ret ?_
      refine ⟨_, _, (.cons rfl .nil), .n, ?_⟩
      unfold trm
      rw [← hc2, tN_0 (by omega)]

set_option maxHeartbeats 4000000 in
theorem Norm_s (l : List Int) (hl : l.length < 1099511627776) : Spec Try.prog 86 [.n false .u64 l] (fun o => o = .ret (.n true .u64 (trm l))) := by
  refine spec_of' [(0, .n false .u64 l)] rfl Try.func86 rfl (Nat.le_of_ble_eq_true rfl) fun Γ hN hds hL hR => ?_
  have hd : ∀ d, Nat.blt d 6 = true → d < Γ.N := fun d h => by rw [hN]; exact Nat.le_of_ble_eq_true h
  have hm := trm_len l
  refine jc_seq ?_
  refine jc_region ?_
  refine jo_l (ly_as rfl) (hd 2 rfl) ?_
  refine jo_nil ?_
  refine jc_seq ?_
  refine jc_region ?_
  refine jo_l (ly_mv rfl) (hd 3 rfl) ?_
  refine jo_call Try.f84 (trim_s l hl) rfl Try.func84 rfl rfl (ovL_cons rfl ovL_nil) (.cons .n .nil) (hd 4 rfl) ?_ (fun ch hp => by simp at hp)
  rintro y hy; injection hy with hy; subst hy
  refine jo_h (hy_app0 (id := 0) el28 rfl rfl src_n (by omega) (by unfold maxLen; omega) rfl) (hd 5 rfl) ?_
  refine jo_l (ly_as rfl) (hd 2 rfl) ?_
  refine jo_nil ?_
  refine jc_ret ?_
  refine ⟨_, _, (.cons rfl .nil), (.o rfl (by simp) rfl), ?_⟩
  rw [List.drop_zero, List.take_length]
end Go.Proofs.Ytcdipmjgpimmdaa.Vc

/- Contracts of bits.Len64, nat.From. -/
set_option linter.unusedVariables false
set_option linter.unusedSimpArgs false
namespace Go.Proofs.Ytcdipmjgpimmdaa.Vc
open Go Go.RowKit
set_option maxHeartbeats 4000000 in
set_option maxRecDepth 100000 in
theorem Len64_s (x : Nat) (hx : x < 18446744073709551616) : Spec Try.prog 85 [.i .u64 (x : Int)] (fun o => o = .ret (.i .i64 (bl 64 x : Int))) := by
  refine spec_of' [(0, .i .u64 (x : Int))] rfl Try.func85 rfl (Nat.le_of_ble_eq_true rfl) fun Γ hN hds hL hR => ?_
  have hd : ∀ d, Nat.blt d 25 = true → d < Γ.N := fun d h => by rw [hN]; exact Nat.le_of_ble_eq_true h
  refine jc_seq ?_
  refine jc_region ?_
  refine jo_l (ly_as rfl) (hd 2 rfl) ?_
  refine jo_nil ?_
  refine jc_meetH (G := Nat × Nat) (fun g => bl 64 x = g.2 + bl 64 g.1 ∧ g.1 < 4294967296 ∧ g.2 ≤ 32) (fun g => [(0, .i .u64 (g.1 : Int)), (2, .i .i64 (g.2 : Int)), (3, .u), (4, .u), (5, .u), (6, .u)]) ?_ ?_
  · refine jc_seq ?_
    refine jc_region ?_
    refine jo_l (ly_mv rfl) (hd 3 rfl) ?_
    refine jo_l (ly_ge rfl rfl) (hd 4 rfl) ?_
    refine jo_nil ?_
    refine jc_if rfl (fun h1 => ?_) (fun h1 => ?_)
    · refine jc_seq ?_
      refine jc_region ?_
      refine jo_l (ly_mv rfl) (hd 5 rfl) ?_
      refine jo_l (ly_is (ly_shr rfl rfl (by first | omega | (dsimp only; omega)) rfl) (show V.i .u64 _ = V.i .u64 ((x / 4294967296 : Nat) : Int) from congrArg (V.i .u64) (shr_nat (by decide)))) (hd 6 rfl) ?_
      refine jo_l (ly_as rfl) (hd 0 rfl) ?_
      refine jo_nil ?_
      refine jc_region ?_
      refine jo_l (ly_as rfl) (hd 2 rfl) ?_
      refine jo_nil ?_
      refine ⟨(x / 4294967296, 32), ?_, rfl, cov_n 6 rfl rfl ?_⟩
      · exact ⟨by have h9 := bl64_shift (k := 32) (by decide) (show 2 ^ 32 ≤ x by omega) (by omega); rw [show 2 ^ 32 = 4294967296 by decide] at h9; dsimp only; omega, by dsimp only; omega, by dsimp only; omega⟩
      · exact (.cons rfl (.cons (by show some (V.i .i64 _) = some (V.i .i64 _); rfl) (.u (.u (.u (.u .nil))))))
    · refine jc_skip ?_
      refine ⟨(x, 0), ?_, rfl, cov_n 2 rfl rfl ?_⟩
      · exact ⟨by dsimp only; omega, by dsimp only; omega, by dsimp only; omega⟩
      · exact (.cons rfl (.cons (by show some (V.i .i64 _) = some (V.i .i64 _); rfl) (.u (.u (.u (.u .nil))))))
  · rintro ⟨x1, n1⟩ ⟨he1, hx1, hn1⟩
    dsimp only at he1 hx1 hn1
    refine jc_meetH (G := Nat × Nat) (fun g => bl 64 x = g.2 + bl 64 g.1 ∧ g.1 < 65536 ∧ g.2 ≤ 48) (fun g => [(0, .i .u64 (g.1 : Int)), (2, .i .i64 (g.2 : Int)), (7, .u), (8, .u), (9, .u), (10, .u), (11, .u), (12, .u)]) ?_ ?_
    · refine jc_seq ?_
      refine jc_region ?_
      refine jo_l (ly_mv rfl) (hd 7 rfl) ?_
      refine jo_l (ly_ge rfl rfl) (hd 8 rfl) ?_
      refine jo_nil ?_
      refine jc_if rfl (fun h2 => ?_) (fun h2 => ?_)
      · refine jc_seq ?_
        refine jc_region ?_
        refine jo_l (ly_mv rfl) (hd 9 rfl) ?_
        refine jo_l (ly_is (ly_shr rfl rfl (by first | omega | (dsimp only; omega)) rfl) (show V.i .u64 _ = V.i .u64 ((x1 / 65536 : Nat) : Int) from congrArg (V.i .u64) (shr_nat (by decide)))) (hd 10 rfl) ?_
        refine jo_l (ly_as rfl) (hd 0 rfl) ?_
        refine jo_nil ?_
        refine jc_region ?_
        refine jo_l (ly_mv rfl) (hd 11 rfl) ?_
        refine jo_l (ly_add rfl rfl (r := ((n1 + 16 : Nat) : Int)) (by rw [wrap_i64 (by omega) (by omega)]; omega)) (hd 12 rfl) ?_
        refine jo_l (ly_as rfl) (hd 2 rfl) ?_
        refine jo_nil ?_
        refine ⟨(x1 / 65536, n1 + 16), ?_, rfl, cov_n 8 rfl rfl ?_⟩
        · exact ⟨by have h9 := bl64_shift (k := 16) (by decide) (show 2 ^ 16 ≤ x1 by omega) (by omega); rw [show 2 ^ 16 = 65536 by decide] at h9; dsimp only; omega, by dsimp only; omega, by dsimp only; omega⟩
        · exact (.cons rfl (.cons (by show some (V.i .i64 _) = some (V.i .i64 _); rfl) (.u (.u (.u (.u (.u (.u .nil))))))))
      · refine jc_skip ?_
        refine ⟨(x1, n1), ?_, rfl, cov_n 2 rfl rfl ?_⟩
        · exact ⟨by dsimp only; omega, by dsimp only; omega, by dsimp only; omega⟩
        · exact (.cons rfl (.cons (by show some (V.i .i64 _) = some (V.i .i64 _); rfl) (.u (.u (.u (.u (.u (.u .nil))))))))
    · rintro ⟨x2, n2⟩ ⟨he2, hx2, hn2⟩
      dsimp only at he2 hx2 hn2
      refine jc_meetH (G := Nat × Nat) (fun g => bl 64 x = g.2 + bl 64 g.1 ∧ g.1 < 256 ∧ g.2 ≤ 56) (fun g => [(0, .i .u64 (g.1 : Int)), (2, .i .i64 (g.2 : Int)), (13, .u), (14, .u), (15, .u), (16, .u), (17, .u), (18, .u)]) ?_ ?_
      · refine jc_seq ?_
        refine jc_region ?_
        refine jo_l (ly_mv rfl) (hd 13 rfl) ?_
        refine jo_l (ly_ge rfl rfl) (hd 14 rfl) ?_
        refine jo_nil ?_
        refine jc_if rfl (fun h3 => ?_) (fun h3 => ?_)
        · refine jc_seq ?_
          refine jc_region ?_
          refine jo_l (ly_mv rfl) (hd 15 rfl) ?_
          refine jo_l (ly_is (ly_shr rfl rfl (by first | omega | (dsimp only; omega)) rfl) (show V.i .u64 _ = V.i .u64 ((x2 / 256 : Nat) : Int) from congrArg (V.i .u64) (shr_nat (by decide)))) (hd 16 rfl) ?_
          refine jo_l (ly_as rfl) (hd 0 rfl) ?_
          refine jo_nil ?_
          refine jc_region ?_
          refine jo_l (ly_mv rfl) (hd 17 rfl) ?_
          refine jo_l (ly_add rfl rfl (r := ((n2 + 8 : Nat) : Int)) (by rw [wrap_i64 (by omega) (by omega)]; omega)) (hd 18 rfl) ?_
          refine jo_l (ly_as rfl) (hd 2 rfl) ?_
          refine jo_nil ?_
          refine ⟨(x2 / 256, n2 + 8), ?_, rfl, cov_n 8 rfl rfl ?_⟩
          · exact ⟨by have h9 := bl64_shift (k := 8) (by decide) (show 2 ^ 8 ≤ x2 by omega) (by omega); rw [show 2 ^ 8 = 256 by decide] at h9; dsimp only; omega, by dsimp only; omega, by dsimp only; omega⟩
          · exact (.cons rfl (.cons (by show some (V.i .i64 _) = some (V.i .i64 _); rfl) (.u (.u (.u (.u (.u (.u .nil))))))))
        · refine jc_skip ?_
          refine ⟨(x2, n2), ?_, rfl, cov_n 2 rfl rfl ?_⟩
          · exact ⟨by dsimp only; omega, by dsimp only; omega, by dsimp only; omega⟩
          · exact (.cons rfl (.cons (by show some (V.i .i64 _) = some (V.i .i64 _); rfl) (.u (.u (.u (.u (.u (.u .nil))))))))
      · rintro ⟨x3, n3⟩ ⟨he3, hx3, hn3⟩
        dsimp only at he3 hx3 hn3
        refine jc_seq ?_
        refine jc_region ?_
        refine jo_l (ly_mv rfl) (hd 19 rfl) ?_
        refine jo_l (ly_mv rfl) (hd 20 rfl) ?_
        refine jo_l (ly_conv und82 und5 rfl (wrap_u8 (by first | omega | (dsimp only; omega)) (by first | omega | (dsimp only; omega)))) (hd 21 rfl) ?_
        refine jo_l (ly_ixs (b := lenTab) (i := x3) und9 (by kernel_rfl) rfl rfl (show x3 < 256 by omega)) (hd 22 rfl) ?_
        have h7 := lenTab_at hx3
        have h8 := bl_le 64 x3
        refine jo_l (ly_conv und5 und3 rfl (wrap_i64 (by first | omega | (dsimp only; omega)) (by first | omega | (dsimp only; omega)))) (hd 23 rfl) ?_
        refine jo_l (ly_add rfl rfl (wrap_i64 (by first | omega | (dsimp only; omega)) (by first | omega | (dsimp only; omega)))) (hd 24 rfl) ?_
        refine jo_l (ly_as rfl) (hd 2 rfl) ?_
        refine jo_nil ?_
        refine jc_ret ?_
        refine ⟨_, _, (.cons rfl .nil), .i, ?_⟩
        have h7 := lenTab_at hx3
        rw [h7, he3]
        rfl

set_option maxHeartbeats 4000000 in
theorem From_s (v : Int) : Spec Try.prog 70 [.i .u64 v] (fun o => o = .ret (.n true .u64 (if v = 0 then [] else [v]))) := by
  refine spec_of' [(0, .i .u64 v)] rfl Try.func70 rfl (Nat.le_of_ble_eq_true rfl) fun Γ hN hds hL hR => ?_
  have hd : ∀ d, Nat.blt d 7 = true → d < Γ.N := fun d h => by rw [hN]; exact Nat.le_of_ble_eq_true h
  refine jc_seq ?_
  refine jc_region ?_
  refine jo_l (ly_as rfl) (hd 2 rfl) ?_
  refine jo_nil ?_
  refine jc_seq ?_
  refine jc_seq ?_
  refine jc_region ?_
  refine jo_l (ly_mv rfl) (hd 3 rfl) ?_
  refine jo_l (ly_eq rfl rfl) (hd 4 rfl) ?_
  refine jo_nil ?_
  refine jc_if rfl (fun h1 => ?_) (fun h1 => ?_)
  · refine jc_seq ?_
    refine jc_region ?_
    refine jo_l (ly_as rfl) (hd 2 rfl) ?_
    refine jo_nil ?_
    refine jc_ret ?_
    refine ⟨_, _, (.cons rfl .nil), (.nil (fr := true) (k := .u64)), ?_⟩
    rw [if_pos (by assumption)]
  · refine jc_skip ?_
    refine jc_seq ?_
    refine jc_region ?_
    refine jo_l (ly_mv rfl) (hd 5 rfl) ?_
    refine jo_h (hy_lit (id := 0) (xs := [.tmp 5]) el28 rfl (ovL_cons rfl ovL_nil) rfl (all2_of rfl) (by decide) rfl) (hd 6 rfl) ?_
    refine jo_l (ly_as rfl) (hd 2 rfl) ?_
    refine jo_nil ?_
    refine jc_ret ?_
    refine ⟨_, _, (.cons rfl .nil), (.o (T := 82) (k := .u64) (l := [v]) rfl (by simp) rfl), ?_⟩
    rw [if_neg (by assumption)]
    rfl
end Go.Proofs.Ytcdipmjgpimmdaa.Vc

/- Contracts of nat.Length, Compare, told. -/
set_option linter.unusedVariables false
set_option linter.unusedSimpArgs false
namespace Go.Proofs.Ytcdipmjgpimmdaa.Vc
open Go Go.RowKit
set_option maxHeartbeats 4000000 in
theorem Length_s (l : List Int) (hl : l.length < 1099511627776) (hu : u64s l) : Spec Try.prog 66 [.n false .u64 l] (fun o => o = .ret (.i .i64 (lenN l : Int))) := by
  refine spec_of' [(0, .n false .u64 l)] rfl Try.func66 rfl (Nat.le_of_ble_eq_true rfl) fun Γ hN hds hL hR => ?_
  have hd : ∀ d, Nat.blt d 20 = true → d < Γ.N := fun d h => by rw [hN]; exact Nat.le_of_ble_eq_true h
  have hm := trm_len l
  refine jc_seq ?_
  refine jc_region ?_
  refine jo_l (ly_as rfl) (hd 2 rfl) ?_
  refine jo_nil ?_
  refine jc_seq ?_
  refine jc_region ?_
  refine jo_l (ly_mv rfl) (hd 3 rfl) ?_
  refine jo_call Try.f84 (trim_s l hl) rfl Try.func84 rfl rfl (ovL_cons rfl ovL_nil) (.cons .n .nil) (hd 4 rfl) ?_ (fun ch hp => by simp at hp)
  rintro y hy; injection hy with hy; subst hy
  refine jo_l (ly_as rfl) (hd 0 rfl) ?_
  refine jo_nil ?_
  refine jc_seq ?_
  refine jc_seq ?_
  refine jc_region ?_
  refine jo_l (ly_mv rfl) (hd 5 rfl) ?_
  refine jo_l (ly_lenn sl28 rfl) (hd 6 rfl) ?_
  refine jo_l (ly_eq rfl rfl) (hd 7 rfl) ?_
  refine jo_nil ?_
  refine jc_if rfl (fun h1 => ?_) (fun h1 => ?_)
  · refine jc_seq ?_
    refine jc_region ?_
    refine jo_l (ly_as rfl) (hd 2 rfl) ?_
    refine jo_nil ?_
    refine jc_ret ?_
    refine ⟨_, _, (.cons rfl .nil), .i, ?_⟩
    unfold lenN
    rw [if_pos (by omega)]
    rfl
  · have htop := u64s_at (u64s_trm hu) (i := (trm l).length - 1) (by omega)
    have hbl := bl_le 64 ((trm l).getD ((trm l).length - 1) 0).toNat
    refine jc_skip ?_
    refine jc_seq ?_
    refine jc_region ?_
    refine jo_l (ly_mv rfl) (hd 8 rfl) ?_
    refine jo_l (ly_lenn sl28 rfl) (hd 9 rfl) ?_
    refine jo_l (ly_sub rfl rfl (wrap_i64 (by omega) (by omega))) (hd 10 rfl) ?_
    refine jo_l (ly_mul rfl rfl (wrap_i64 (by omega) (by omega))) (hd 11 rfl) ?_
    refine jo_l (ly_mv rfl) (hd 12 rfl) ?_
    refine jo_l (ly_mv rfl) (hd 13 rfl) ?_
    refine jo_l (ly_lenn sl28 rfl) (hd 14 rfl) ?_
    refine jo_l (ly_sub rfl rfl (wrap_i64 (by omega) (by omega))) (hd 15 rfl) ?_
    refine jo_l (ly_ian (i := (trm l).length - 1) sl28 rfl rfl (by first | rfl | omega) (by omega)) (hd 16 rfl) ?_
    refine jo_l (ly_is (ly_ldq one82 rfl rfl) (show V.i .u64 ((trm l).getD ((trm l).length - 1) 0) = V.i .u64 (((trm l).getD ((trm l).length - 1) 0).toNat : Int) by rw [Int.toNat_of_nonneg htop.1])) (hd 17 rfl) ?_
    refine jo_call Try.f85 (Len64_s ((trm l).getD ((trm l).length - 1) 0).toNat (by omega)) rfl Try.func85 rfl rfl (ovL_cons rfl ovL_nil) (.cons .i .nil) (hd 18 rfl) ?_ (fun ch hp => by simp at hp)
    rintro y hy; injection hy with hy; subst hy
    refine jo_l (ly_add rfl rfl (wrap_i64 (by omega) (by omega))) (hd 19 rfl) ?_
    refine jo_l (ly_as rfl) (hd 2 rfl) ?_
    refine jo_nil ?_
    refine jc_ret ?_
    refine ⟨_, _, (.cons rfl .nil), .i, ?_⟩
    unfold lenN
    rw [if_neg (by omega)]
    show Out.ret (V.i .i64 _) = Out.ret (V.i .i64 _)
    congr 2
    omega

set_option maxHeartbeats 4000000 in
theorem Compare_s (a b : List Int) (ha : a.length < 4294967296) (hb : b.length < 4294967296) : Spec Try.prog 72 [.n false .u64 a, .n false .u64 b] (fun o => o = .ret (.i .i64 (cmpL (trm a) (trm b)))) := by
  refine spec_of' [(0, .n false .u64 a), (1, .n false .u64 b)] rfl Try.func72 rfl (Nat.le_of_ble_eq_true rfl) fun Γ hN hds hL hR => ?_
  have hd : ∀ d, Nat.blt d 45 = true → d < Γ.N := fun d h => by rw [hN]; exact Nat.le_of_ble_eq_true h
  have hma := trm_len a
  have hmb := trm_len b
  refine jc_seq ?_
  refine jc_region ?_
  refine jo_l (ly_as rfl) (hd 4 rfl) ?_
  refine jo_nil ?_
  refine jc_seq ?_
  refine jc_region ?_
  refine jo_l (ly_mv rfl) (hd 6 rfl) ?_
  refine jo_call Try.f84 (trim_s a (by omega)) rfl Try.func84 rfl rfl (ovL_cons rfl ovL_nil) (.cons .n .nil) (hd 7 rfl) ?_ (fun ch hp => by simp at hp)
  rintro y hy; injection hy with hy; subst hy
  refine jo_l (ly_mv rfl) (hd 8 rfl) ?_
  refine jo_call Try.f84 (trim_s b (by omega)) rfl Try.func84 rfl rfl (ovL_cons rfl ovL_nil) (.cons .n .nil) (hd 9 rfl) ?_ (fun ch hp => by simp at hp)
  rintro y hy; injection hy with hy; subst hy
  refine jo_l (ly_as rfl) (hd 0 rfl) ?_
  refine jo_l (ly_as rfl) (hd 1 rfl) ?_
  refine jo_nil ?_
  refine jc_seq ?_
  refine jc_seq ?_
  refine jc_region ?_
  refine jo_l (ly_mv rfl) (hd 10 rfl) ?_
  refine jo_l (ly_lenn sl28 rfl) (hd 11 rfl) ?_
  refine jo_l (ly_mv rfl) (hd 12 rfl) ?_
  refine jo_l (ly_lenn sl28 rfl) (hd 13 rfl) ?_
  refine jo_l (ly_ne rfl rfl) (hd 14 rfl) ?_
  refine jo_nil ?_
  refine jc_if rfl (fun h1 => ?_) (fun h1 => ?_)
  · refine jc_seq ?_
    refine jc_seq ?_
    refine jc_region ?_
    refine jo_l (ly_mv rfl) (hd 15 rfl) ?_
    refine jo_l (ly_lenn sl28 rfl) (hd 16 rfl) ?_
    refine jo_l (ly_mv rfl) (hd 17 rfl) ?_
    refine jo_l (ly_lenn sl28 rfl) (hd 18 rfl) ?_
    refine jo_l (ly_lt rfl rfl) (hd 19 rfl) ?_
    refine jo_nil ?_
    refine jc_if rfl (fun h2 => ?_) (fun h2 => ?_)
    · refine jc_seq ?_
      refine jc_region ?_
      refine jo_l (ly_as rfl) (hd 4 rfl) ?_
      refine jo_nil ?_
      refine jc_ret ?_
      refine ⟨_, _, (.cons rfl .nil), .i, ?_⟩
      unfold cmpL
      rw [if_pos (by omega)]
    · refine jc_skip ?_
      refine jc_seq ?_
      refine jc_region ?_
      refine jo_l (ly_as rfl) (hd 4 rfl) ?_
      refine jo_nil ?_
      refine jc_ret ?_
      refine ⟨_, _, (.cons rfl .nil), .i, ?_⟩
      unfold cmpL
      rw [if_neg (by omega), if_pos (by omega)]
  · refine jc_skip ?_
    refine jc_seq ?_
    refine jc_seq ?_
    refine jc_region ?_
    refine jo_l (ly_mv rfl) (hd 20 rfl) ?_
    refine jo_l (ly_lenn sl28 rfl) (hd 21 rfl) ?_
    refine jo_l (ly_sub rfl rfl (wrap_i64 (by omega) (by omega))) (hd 22 rfl) ?_
    refine jo_l (ly_as rfl) (hd 5 rfl) ?_
    refine jo_nil ?_
    refine jc_block ?_
    refine jc_loopF (G := Nat) (fun k => k ≤ (trm a).length ∧ cmpN (trm a) (trm b) k = cmpN (trm a) (trm b) (trm a).length) (fun k => [(5, .i .i64 ((k : Int) - 1)), (4, .u), (23, .u), (24, .u), (25, .u), (26, .u), (27, .u), (28, .u), (29, .u), (30, .u), (31, .u), (32, .u), (33, .u), (34, .u), (35, .u), (36, .u), (37, .u), (38, .u), (39, .u), (40, .u), (41, .u), (42, .u), (43, .u), (44, .u)]) (fun _ => _) (fun k => k) (trm a).length ?_ ?_ rfl ?_
    · exact ⟨Nat.le_refl _, rfl⟩
    · exact (.cons rfl (.u (.u (.u (.u (.u (.u (.u (.u (.u (.u (.u (.u (.u (.u (.u (.u (.u (.u (.u (.u (.u (.u (.u .nil))))))))))))))))))))))))
    · rintro k ⟨hc1, hc2⟩
      refine jc_seq ?_
      refine jc_seq ?_
      refine jc_region ?_
      refine jo_l (ly_mv rfl) (hd 23 rfl) ?_
      refine jo_l (ly_ge rfl rfl) (hd 24 rfl) ?_
      refine jo_nil ?_
      refine jc_if rfl (fun h3 => ?_) (fun h3 => ?_)
      · refine jc_skip ?_
        refine jc_seq ?_
        refine jc_block ?_
        refine jc_seq ?_
        refine jc_seq ?_
        refine jc_draw (n := 9) _ rfl mixed ?_
        refine ja_l2 0 [2, 3, 8] (lo_l (ly_mv rfl) (hd 27 rfl)) rfl (by kernel_rfl) (by kernel_rfl) (by kernel_rfl) (by kernel_rfl) (fun _ _ _ _ h => h) ?_
        refine ja_l2 1 [2, 3, 8] (lo_l (ly_mv rfl) (hd 28 rfl)) rfl (by kernel_rfl) (by kernel_rfl) (by kernel_rfl) (by kernel_rfl) (fun _ _ _ _ h => h) ?_
        refine ja_l2 2 [3, 8] (lo_l (ly_ian (i := k - 1) sl28 rfl rfl (by omega) (by omega)) (hd 29 rfl)) rfl (by kernel_rfl) (by kernel_rfl) (by kernel_rfl) (by kernel_rfl) (fun _ _ _ _ h => h) ?_
        refine ja_l 3 (lo_l (ly_ldq one82 rfl rfl) (hd 30 rfl)) rfl (by kernel_rfl) (by kernel_rfl) (by kernel_rfl) (fun _ _ _ _ h => h) ?_
        refine ja_l2 4 [6, 7, 8] (lo_l (ly_mv rfl) (hd 31 rfl)) rfl (by kernel_rfl) (by kernel_rfl) (by kernel_rfl) (by kernel_rfl) (fun _ _ _ _ h => h) ?_
        refine ja_l2 5 [6, 7, 8] (lo_l (ly_mv rfl) (hd 32 rfl)) rfl (by kernel_rfl) (by kernel_rfl) (by kernel_rfl) (by kernel_rfl) (fun _ _ _ _ h => h) ?_
        refine ja_l2 6 [7, 8] (lo_l (ly_ian (i := k - 1) sl28 rfl rfl (by omega) (by omega)) (hd 33 rfl)) rfl (by kernel_rfl) (by kernel_rfl) (by kernel_rfl) (by kernel_rfl) (fun _ _ _ _ h => h) ?_
        refine ja_l 7 (lo_l (ly_ldq one82 rfl rfl) (hd 34 rfl)) rfl (by kernel_rfl) (by kernel_rfl) (by kernel_rfl) (fun _ _ _ _ h => h) ?_
        refine ja_l 8 (lo_l (ly_lt rfl rfl) (hd 35 rfl)) rfl (by kernel_rfl) (by kernel_rfl) (by kernel_rfl) (fun _ _ _ _ h => h) ?_
        refine ja_nil (by kernel_rfl) ?_
        refine jc_if rfl (fun h4 => ?_) (fun h4 => ?_)
        · refine jc_seq ?_
          refine jc_region ?_
          refine jo_l (ly_as rfl) (hd 4 rfl) ?_
          refine jo_nil ?_
          refine jc_ret ?_
          refine ⟨_, _, (.cons rfl .nil), .i, ?_⟩
          unfold cmpL
          rw [if_neg (by omega), if_neg (by omega), ← hc2, cmpN_lt (by omega) (by assumption)]
        · refine jc_skip ?_
          refine jc_seq ?_
          refine jc_draw (n := 9) _ rfl mixed ?_
          refine ja_l2 0 [2, 3, 8] (lo_l (ly_mv rfl) (hd 36 rfl)) rfl (by kernel_rfl) (by kernel_rfl) (by kernel_rfl) (by kernel_rfl) (fun _ _ _ _ h => h) ?_
          refine ja_l2 1 [2, 3, 8] (lo_l (ly_mv rfl) (hd 37 rfl)) rfl (by kernel_rfl) (by kernel_rfl) (by kernel_rfl) (by kernel_rfl) (fun _ _ _ _ h => h) ?_
          refine ja_l2 2 [3, 8] (lo_l (ly_ian (i := k - 1) sl28 rfl rfl (by omega) (by omega)) (hd 38 rfl)) rfl (by kernel_rfl) (by kernel_rfl) (by kernel_rfl) (by kernel_rfl) (fun _ _ _ _ h => h) ?_
          refine ja_l 3 (lo_l (ly_ldq one82 rfl rfl) (hd 39 rfl)) rfl (by kernel_rfl) (by kernel_rfl) (by kernel_rfl) (fun _ _ _ _ h => h) ?_
          refine ja_l2 4 [6, 7, 8] (lo_l (ly_mv rfl) (hd 40 rfl)) rfl (by kernel_rfl) (by kernel_rfl) (by kernel_rfl) (by kernel_rfl) (fun _ _ _ _ h => h) ?_
          refine ja_l2 5 [6, 7, 8] (lo_l (ly_mv rfl) (hd 41 rfl)) rfl (by kernel_rfl) (by kernel_rfl) (by kernel_rfl) (by kernel_rfl) (fun _ _ _ _ h => h) ?_
          refine ja_l2 6 [7, 8] (lo_l (ly_ian (i := k - 1) sl28 rfl rfl (by omega) (by omega)) (hd 42 rfl)) rfl (by kernel_rfl) (by kernel_rfl) (by kernel_rfl) (by kernel_rfl) (fun _ _ _ _ h => h) ?_
          refine ja_l 7 (lo_l (ly_ldq one82 rfl rfl) (hd 43 rfl)) rfl (by kernel_rfl) (by kernel_rfl) (by kernel_rfl) (fun _ _ _ _ h => h) ?_
          refine ja_l 8 (lo_l (ly_gt rfl rfl) (hd 44 rfl)) rfl (by kernel_rfl) (by kernel_rfl) (by kernel_rfl) (fun _ _ _ _ h => h) ?_
          refine ja_nil (by kernel_rfl) ?_
          refine jc_if rfl (fun h5 => ?_) (fun h5 => ?_)
          · refine jc_seq ?_
            refine jc_region ?_
            refine jo_l (ly_as rfl) (hd 4 rfl) ?_
            refine jo_nil ?_
            refine jc_ret ?_
            refine ⟨_, _, (.cons rfl .nil), .i, ?_⟩
            unfold cmpL
            rw [if_neg (by omega), if_neg (by omega), ← hc2, cmpN_gt (by omega) (by assumption)]
          · refine jc_skip ?_
            refine jc_region ?_
            refine jo_l (ly_mv rfl) (hd 25 rfl) ?_
            refine jo_l (ly_sub rfl rfl (wrap_i64 (by omega) (by omega))) (hd 26 rfl) ?_
            refine jo_l (ly_as rfl) (hd 5 rfl) ?_
            refine jo_nil ?_
            refine ⟨k - 1, ?_, ?_, rfl, cov_n 47 rfl rfl ?_⟩
            · exact ⟨by omega, by rw [← hc2]; exact cmpN_eq (by omega) (by assumption) (by assumption)⟩
            · omega
            · exact (.cons (by show some (V.i .i64 _) = some (V.i .i64 _); congr 2; omega) (.u (.u (.u (.u (.u (.u (.u (.u (.u (.u (.u (.u (.u (.u (.u (.u (.u (.u (.u (.u (.u (.u (.u .nil))))))))))))))))))))))))
      · refine jc_exit ?_
        refine jc_seq ?_
        refine jc_region ?_
        refine jo_l (ly_as rfl) (hd 4 rfl) ?_
        refine jo_nil ?_
        refine jc_ret ?_
        refine ⟨_, _, (.cons rfl .nil), .i, ?_⟩
        unfold cmpL
        rw [if_neg (by omega), if_neg (by omega), ← hc2]
        obtain rfl : k = 0 := by omega
        rfl

set_option maxHeartbeats 4000000 in
theorem told_ok (l : List Int) (hl : l.length < 1099511627776) (hu : u64s l) (h : lenN (trm l) ≤ 67108864) : Spec Try.prog 88 [.n false .u64 l] (fun o => o = .ret (.t [.n false .u64 (trm l), .i .i64 0])) := by
  refine spec_of' [(0, .n false .u64 l)] rfl Try.func88 rfl (Nat.le_of_ble_eq_true rfl) fun Γ hN hds hL hR => ?_
  have hd : ∀ d, Nat.blt d 10 = true → d < Γ.N := fun d h => by rw [hN]; exact Nat.le_of_ble_eq_true h
  have hm := trm_len l
  refine jc_seq ?_
  refine jc_region ?_
  refine jo_l (ly_as rfl) (hd 2 rfl) ?_
  refine jo_l (ly_as rfl) (hd 3 rfl) ?_
  refine jo_nil ?_
  refine jc_seq ?_
  refine jc_region ?_
  refine jo_l (ly_mv rfl) (hd 4 rfl) ?_
  refine jo_call Try.f84 (trim_s l hl) rfl Try.func84 rfl rfl (ovL_cons rfl ovL_nil) (.cons .n .nil) (hd 5 rfl) ?_ (fun ch hp => by simp at hp)
  rintro y hy; injection hy with hy; subst hy
  refine jo_l (ly_as rfl) (hd 0 rfl) ?_
  refine jo_nil ?_
  refine jc_seq ?_
  refine jc_seq ?_
  refine jc_region ?_
  refine jo_l (ly_mv rfl) (hd 6 rfl) ?_
  refine jo_call Try.f66 (Length_s (trm l) (by omega) (u64s_trm hu)) rfl Try.func66 rfl rfl (ovL_cons rfl ovL_nil) (.cons .n .nil) (hd 7 rfl) ?_ (fun ch hp => by simp at hp)
  rintro y hy; injection hy with hy; subst hy
  refine jo_l (ly_ff (ly_gt rfl rfl) (by omega)) (hd 8 rfl) ?_
  refine jo_nil ?_
  refine jc_litf rfl ?_
  refine jc_skip ?_
  refine jc_seq ?_
  refine jc_region ?_
  refine jo_l (ly_mv rfl) (hd 9 rfl) ?_
  refine jo_l (ly_as rfl) (hd 2 rfl) ?_
  refine jo_l (ly_as rfl) (hd 3 rfl) ?_
  refine jo_nil ?_
  refine jc_ret ?_
  refine ⟨_, _, (.cons rfl (.cons rfl .nil)), (.t1 .n (.t1 .i .t0)), ?_⟩
  exact rfl

end Go.Proofs.Ytcdipmjgpimmdaa.Vc

/- Contract of nat.Add. -/
set_option linter.unusedVariables false
set_option linter.unusedSimpArgs false
namespace Go.Proofs.Ytcdipmjgpimmdaa.Vc
open Go Go.RowKit
set_option maxHeartbeats 4000000 in
theorem Add_ok (a b : List Int) (ha : a.length < 4294967296) (hb : b.length < 4294967296) (ua : u64s a) (ub : u64s b) (h : lenN (trm (sumL a b)) ≤ 67108864) : Spec Try.prog 74 [.n false .u64 a, .n false .u64 b] (fun o => o = .ret (.t [.n false .u64 (trm (sumL a b)), .i .i64 0])) := by
  refine spec_of' [(0, .n false .u64 a), (1, .n false .u64 b)] rfl Try.func74 rfl (Nat.le_of_ble_eq_true rfl) fun Γ hN hds hL hR => ?_
  have hd : ∀ d, Nat.blt d 61 = true → d < Γ.N := fun d h => by rw [hN]; exact Nat.le_of_ble_eq_true h
  have hma := trm_len a
  have hmb := trm_len b
  refine jc_seq ?_
  refine jc_region ?_
  refine jo_l (ly_as rfl) (hd 4 rfl) ?_
  refine jo_l (ly_as rfl) (hd 5 rfl) ?_
  refine jo_nil ?_
  refine jc_seq ?_
  refine jc_region ?_
  refine jo_l (ly_mv rfl) (hd 10 rfl) ?_
  refine jo_call Try.f84 (trim_s a (by omega)) rfl Try.func84 rfl rfl (ovL_cons rfl ovL_nil) (.cons .n .nil) (hd 11 rfl) ?_ (fun ch hp => by simp at hp)
  rintro y hy; injection hy with hy; subst hy
  refine jo_l (ly_mv rfl) (hd 12 rfl) ?_
  refine jo_call Try.f84 (trim_s b (by omega)) rfl Try.func84 rfl rfl (ovL_cons rfl ovL_nil) (.cons .n .nil) (hd 13 rfl) ?_ (fun ch hp => by simp at hp)
  rintro y hy; injection hy with hy; subst hy
  refine jo_l (ly_as rfl) (hd 0 rfl) ?_
  refine jo_l (ly_as rfl) (hd 1 rfl) ?_
  refine jo_nil ?_
  refine jc_meetH (G := List Int × List Int) (fun g => swL (trm a) (trm b) = g ∧ g.1.length < 4294967296 ∧ u64s g.1 ∧ u64s g.2) (fun g => [(0, .n false .u64 g.1), (1, .n false .u64 g.2), (14, .u), (15, .u), (16, .u), (17, .u), (18, .u), (19, .u), (20, .u)]) ?_ ?_
  · refine jc_seq ?_
    refine jc_region ?_
    refine jo_l (ly_mv rfl) (hd 14 rfl) ?_
    refine jo_l (ly_lenn sl28 rfl) (hd 15 rfl) ?_
    refine jo_l (ly_mv rfl) (hd 16 rfl) ?_
    refine jo_l (ly_lenn sl28 rfl) (hd 17 rfl) ?_
    refine jo_l (ly_lt rfl rfl) (hd 18 rfl) ?_
    refine jo_nil ?_
    refine jc_if rfl (fun h1 => ?_) (fun h1 => ?_)
    · refine jc_region ?_
      refine jo_l (ly_mv rfl) (hd 19 rfl) ?_
      refine jo_l (ly_mv rfl) (hd 20 rfl) ?_
      refine jo_l (ly_as rfl) (hd 0 rfl) ?_
      refine jo_l (ly_as rfl) (hd 1 rfl) ?_
      refine jo_nil ?_
      refine ⟨(trm b, trm a), ?_, rfl, cov_n 9 rfl rfl ?_⟩
      · exact ⟨by unfold swL; rw [if_pos (by omega)], by show (trm b).length < _; omega, u64s_trm ub, u64s_trm ua⟩
      · exact (.cons rfl (.cons rfl (.u (.u (.u (.u (.u (.u (.u .nil)))))))))
    · refine jc_skip ?_
      refine ⟨(trm a, trm b), ?_, rfl, cov_n 5 rfl rfl ?_⟩
      · exact ⟨by unfold swL; rw [if_neg (by omega)], by show (trm a).length < _; omega, u64s_trm ua, u64s_trm ub⟩
      · exact (.cons rfl (.cons rfl (.u (.u (.u (.u (.u (.u (.u .nil)))))))))
  · rintro ⟨X, Y⟩ ⟨hg, hX, uX, uY⟩
    dsimp only at hg hX uX uY ⊢
    have hS : sumL a b = (adN X Y X.length).1 ++ [(adN X Y X.length).2] := by unfold sumL; rw [hg]
    refine jc_seq ?_
    refine jc_region ?_
    refine jo_l (ly_mv rfl) (hd 21 rfl) ?_
    refine jo_l (ly_lenn sl28 rfl) (hd 22 rfl) ?_
    refine jo_l (ly_add rfl rfl (r := ((X.length + 1 : Nat) : Int)) (by rw [wrap_i64 (by omega) (by omega)]; omega)) (hd 23 rfl) ?_
    refine jo_h (hy_mk (m := X.length + 1) el28 rfl rfl rfl (by show 8 * (X.length + 1) ≤ _; omega) (by unfold maxLen; omega) rfl) (hd 24 rfl) ?_
    refine jo_l (ly_as rfl) (hd 6 rfl) ?_
    refine jo_nil ?_
    refine jc_seq ?_
    refine jc_region ?_
    refine jo_l (ly_as rfl) (hd 7 rfl) ?_
    refine jo_nil ?_
    refine jc_seq ?_
    refine jc_seq ?_
    refine jc_region ?_
    refine jo_l (ly_mv rfl) (hd 25 rfl) ?_
    refine jo_l (ly_lenn sl28 rfl) (hd 26 rfl) ?_
    refine jo_l (ly_mv rfl) (hd 27 rfl) ?_
    refine jo_nil ?_
    refine jc_block ?_
    refine jc_loopF (G := Nat) (fun i => i ≤ X.length) (fun i => [(7, .i .u64 (adN X Y i).2), (27, .i .i64 (i : Int)), (8, .u), (9, .u), (28, .u), (29, .u), (30, .u), (31, .u), (32, .u), (33, .u), (34, .u), (35, .u), (36, .u), (37, .u), (38, .u), (39, .u), (40, .u), (41, .u), (42, .u), (43, .u), (44, .u), (45, .u), (46, .u), (47, .u), (48, .u), (49, .u), (50, .u), (51, .u)]) (fun i => [⟨82, 1, 0, true, ints .u64 (fillI (adN X Y i).1 (X.length + 1))⟩]) (fun i => X.length - i) 0 ?_ ?_ rfl ?_
    · exact Nat.zero_le _
    · exact (.cons rfl (.cons rfl (.u (.u (.u (.u (.u (.u (.u (.u (.u (.u (.u (.u (.u (.u (.u (.u (.u (.u (.u (.u (.u (.u (.u (.u (.u (.u .nil))))))))))))))))))))))))))))
    · rintro i hc1
      have hf := fillI_len (l := (adN X Y i).1) (n := X.length + 1) (by rw [adN_len]; omega)
      have hc := adN_c uX uY i
      have hx := u64s_getD uX i
      have hy := u64s_getD uY i
      refine jc_seq ?_
      refine jc_region ?_
      refine jo_l (ly_lt rfl rfl) (hd 28 rfl) ?_
      refine jo_nil ?_
      refine jc_seq ?_
      refine jc_if rfl (fun h2 => ?_) (fun h2 => ?_)
      · refine jc_skip ?_
        refine jc_seq ?_
        refine jc_block ?_
        refine jc_seq ?_
        refine jc_region ?_
        refine jo_l (ly_mv rfl) (hd 29 rfl) ?_
        refine jo_l (ly_as rfl) (hd 8 rfl) ?_
        refine jo_nil ?_
        refine jc_seq ?_
        refine jc_region ?_
        refine jo_l (ly_as rfl) (hd 9 rfl) ?_
        refine jo_nil ?_
        refine jc_meetH (G := Unit) (fun _ => True) (fun _ => [(9, .i .u64 (Y.getD i 0)), (30, .u), (31, .u), (32, .u), (33, .u), (34, .u), (35, .u), (36, .u), (37, .u)]) ?_ ?_
        · refine jc_seq ?_
          refine jc_region ?_
          refine jo_l (ly_mv rfl) (hd 30 rfl) ?_
          refine jo_l (ly_mv rfl) (hd 31 rfl) ?_
          refine jo_l (ly_lenn sl28 rfl) (hd 32 rfl) ?_
          refine jo_l (ly_lt rfl rfl) (hd 33 rfl) ?_
          refine jo_nil ?_
          refine jc_if rfl (fun h3 => ?_) (fun h3 => ?_)
          · refine jc_region ?_
            refine jo_l (ly_mv rfl) (hd 34 rfl) ?_
            refine jo_l (ly_mv rfl) (hd 35 rfl) ?_
            refine jo_l (ly_ian (i := i) sl28 rfl rfl (by first | rfl | omega) (by omega)) (hd 36 rfl) ?_
            refine jo_l (ly_ldq one82 rfl rfl) (hd 37 rfl) ?_
            refine jo_l (ly_as rfl) (hd 9 rfl) ?_
            refine jo_nil ?_
            refine ⟨(), ?_, rfl, cov_n 9 rfl rfl ?_⟩
            · trivial
            · exact (.cons (by first | rfl | (show some (V.i .u64 _) = some (V.i .u64 _); rw [getD_ge (by omega)])) (.u (.u (.u (.u (.u (.u (.u (.u .nil)))))))))
          · refine jc_skip ?_
            refine ⟨(), ?_, rfl, cov_n 4 rfl rfl ?_⟩
            · trivial
            · exact (.cons (by first | rfl | (show some (V.i .u64 _) = some (V.i .u64 _); rw [getD_ge (by omega)])) (.u (.u (.u (.u (.u (.u (.u (.u .nil)))))))))
        · rintro _ _
          refine jc_region ?_
          refine jo_l (ly_mv rfl) (hd 39 rfl) ?_
          refine jo_l (ly_mv rfl) (hd 40 rfl) ?_
          refine jo_l (ly_mv rfl) (hd 41 rfl) ?_
          refine jo_l (ly_mv rfl) (hd 42 rfl) ?_
          refine jo_l (ly_ian (i := i) sl28 rfl rfl (by first | rfl | omega) (by omega)) (hd 43 rfl) ?_
          refine jo_l (ly_ldq one82 rfl rfl) (hd 44 rfl) ?_
          refine jo_l (ly_mv rfl) (hd 45 rfl) ?_
          refine jo_l (ly_mv rfl) (hd 46 rfl) ?_
          refine jo_h (hy_ext3 (e := add64Entry) Try.func87 rfl rfl (by kernel_rfl) (by kernel_rfl) rfl rfl rfl (fun w => run_add64 _ _ _ hx.1 hy.1 hc.1 hc.2 w) rel_pair) (hd 47 rfl) ?_
          refine jo_l (ly_mv rfl) (hd 38 rfl) ?_
          refine jo_l (ly_ext rfl rfl) (hd 48 rfl) ?_
          refine jo_l (ly_ext rfl rfl) (hd 49 rfl) ?_
          refine jo_l (ly_ia (i := i) sl28 rfl rfl rfl (by first | rfl | omega) (by omega) rfl) (hd 50 rfl) ?_
          refine jo_st (sy_storei rfl rfl rfl one82 (by omega)) ?_
          refine jo_l (ly_as rfl) (hd 7 rfl) ?_
          refine jo_nil ?_
          refine jc_region ?_
          refine jo_l (ly_add rfl rfl (wrap_i64 (by omega) (by omega))) (hd 51 rfl) ?_
          refine jo_l (ly_mv rfl) (hd 27 rfl) ?_
          refine jo_nil ?_
          refine ⟨i + 1, ?_, ?_, (by show [(⟨82, 1, 0, true, ints .u64 _⟩ : Ob)] = [⟨82, 1, 0, true, ints .u64 _⟩]; rw [fill_ad (by omega)]), cov_n 57 rfl rfl ?_⟩
          · omega
          · omega
          · exact (.cons rfl (.cons rfl (.u (.u (.u (.u (.u (.u (.u (.u (.u (.u (.u (.u (.u (.u (.u (.u (.u (.u (.u (.u (.u (.u (.u (.u (.u (.u .nil))))))))))))))))))))))))))))
      · refine jc_exit ?_
        refine jc_seq ?_
        obtain rfl : i = X.length := by omega
        refine jc_region ?_
        refine jo_l (ly_mv rfl) (hd 52 rfl) ?_
        refine jo_l (ly_mv rfl) (hd 53 rfl) ?_
        refine jo_l (ly_lenn sl28 rfl) (hd 54 rfl) ?_
        refine jo_l (ly_mv rfl) (hd 55 rfl) ?_
        refine jo_l (ly_ia (i := X.length) sl28 rfl rfl rfl (by first | rfl | omega) (by omega) rfl) (hd 56 rfl) ?_
        refine jo_st (sy_storei rfl rfl rfl one82 (by omega)) ?_
        refine jo_nil ?_
        refine jc_seq ?_
        refine jc_region ?_
        refine jo_frz (k := .u64) (l' := sumL a b) 6 rfl rfl (by rw [fill_last (adN_len _ _ _)]; simp [adN_len]) (by rw [fill_last (adN_len _ _ _), hS, List.drop_zero, List.take_of_length_le (by simp [adN_len])]) hL ?_
        refine jo_l (ly_mv rfl) (hd 57 rfl) ?_
        refine jo_call Try.f88 (told_ok (sumL a b) (by rw [hS]; simp only [List.length_append, adN_len, List.length_singleton]; omega) (by rw [hS]; exact u64s_app1 (adN_u _) hc.1 (by omega)) h) rfl Try.func88 rfl rfl (ovL_cons rfl ovL_nil) (.cons .n .nil) (hd 58 rfl) ?_ (fun ch hp => by simp at hp)
        rintro y hy; injection hy with hy; subst hy
        refine jo_l (ly_ext rfl rfl) (hd 59 rfl) ?_
        refine jo_l (ly_ext rfl rfl) (hd 60 rfl) ?_
        refine jo_l (ly_as rfl) (hd 4 rfl) ?_
        refine jo_l (ly_as rfl) (hd 5 rfl) ?_
        refine jo_nil ?_
        refine jc_ret ?_
        refine ⟨_, _, (.cons rfl (.cons rfl .nil)), (.t1 .n (.t1 .i .t0)), ?_⟩
        exact rfl

end Go.Proofs.Ytcdipmjgpimmdaa.Vc

/- Contract of nat.Sub. -/
set_option linter.unusedVariables false
set_option linter.unusedSimpArgs false
namespace Go.Proofs.Ytcdipmjgpimmdaa.Vc
open Go Go.RowKit
set_option maxHeartbeats 4000000 in
theorem Sub_ok (a b : List Int) (ha : a.length < 4294967296) (hb : b.length < 4294967296) (ua : u64s a) (ub : u64s b) (hle : 0 ≤ cmpL (trm a) (trm b)) (h : lenN (trm (difL a b)) ≤ 67108864) : Spec Try.prog 76 [.n false .u64 a, .n false .u64 b] (fun o => o = .ret (.t [.n false .u64 (trm (difL a b)), .i .i64 0])) := by
  refine spec_of' [(0, .n false .u64 a), (1, .n false .u64 b)] rfl Try.func76 rfl (Nat.le_of_ble_eq_true rfl) fun Γ hN hds hL hR => ?_
  have hd : ∀ d, Nat.blt d 52 = true → d < Γ.N := fun d h => by rw [hN]; exact Nat.le_of_ble_eq_true h
  have hma := trm_len a
  have hmb := trm_len b
  have uX := u64s_trm ua
  have uY := u64s_trm ub
  refine jc_seq ?_
  refine jc_region ?_
  refine jo_l (ly_as rfl) (hd 4 rfl) ?_
  refine jo_l (ly_as rfl) (hd 5 rfl) ?_
  refine jo_nil ?_
  refine jc_seq ?_
  refine jc_seq ?_
  refine jc_region ?_
  refine jo_l (ly_mv rfl) (hd 10 rfl) ?_
  refine jo_l (ly_mv rfl) (hd 11 rfl) ?_
  refine jo_call Try.f72 (Compare_s a b (by omega) (by omega)) rfl Try.func72 rfl rfl (ovL_cons rfl (ovL_cons rfl ovL_nil)) (.cons .n (.cons .n .nil)) (hd 12 rfl) ?_ (fun ch hp => by simp at hp)
  rintro y hy; injection hy with hy; subst hy
  refine jo_l (ly_ff (ly_lt rfl rfl) (by omega)) (hd 13 rfl) ?_
  refine jo_nil ?_
  refine jc_litf rfl ?_
  refine jc_skip ?_
  refine jc_seq ?_
  refine jc_region ?_
  refine jo_l (ly_mv rfl) (hd 14 rfl) ?_
  refine jo_call Try.f84 (trim_s a (by omega)) rfl Try.func84 rfl rfl (ovL_cons rfl ovL_nil) (.cons .n .nil) (hd 15 rfl) ?_ (fun ch hp => by simp at hp)
  rintro y hy; injection hy with hy; subst hy
  refine jo_l (ly_mv rfl) (hd 16 rfl) ?_
  refine jo_call Try.f84 (trim_s b (by omega)) rfl Try.func84 rfl rfl (ovL_cons rfl ovL_nil) (.cons .n .nil) (hd 17 rfl) ?_ (fun ch hp => by simp at hp)
  rintro y hy; injection hy with hy; subst hy
  refine jo_l (ly_as rfl) (hd 0 rfl) ?_
  refine jo_l (ly_as rfl) (hd 1 rfl) ?_
  refine jo_nil ?_
  refine jc_seq ?_
  refine jc_region ?_
  refine jo_l (ly_mv rfl) (hd 18 rfl) ?_
  refine jo_l (ly_lenn sl28 rfl) (hd 19 rfl) ?_
  refine jo_h (hy_mk (m := (trm a).length) el28 rfl rfl rfl (by show 8 * (trm a).length ≤ _; omega) (by unfold maxLen; omega) rfl) (hd 20 rfl) ?_
  refine jo_l (ly_as rfl) (hd 6 rfl) ?_
  refine jo_nil ?_
  refine jc_seq ?_
  refine jc_region ?_
  refine jo_l (ly_as rfl) (hd 7 rfl) ?_
  refine jo_nil ?_
  refine jc_seq ?_
  refine jc_seq ?_
  refine jc_region ?_
  refine jo_l (ly_mv rfl) (hd 21 rfl) ?_
  refine jo_l (ly_lenn sl28 rfl) (hd 22 rfl) ?_
  refine jo_l (ly_mv rfl) (hd 23 rfl) ?_
  refine jo_nil ?_
  refine jc_block ?_
  refine jc_loopF (G := Nat) (fun i => i ≤ (trm a).length) (fun i => [(7, .i .u64 (sbN (trm a) (trm b) i).2), (23, .i .i64 (i : Int)), (8, .u), (9, .u), (24, .u), (25, .u), (26, .u), (27, .u), (28, .u), (29, .u), (30, .u), (31, .u), (32, .u), (33, .u), (34, .u), (35, .u), (36, .u), (37, .u), (38, .u), (39, .u), (40, .u), (41, .u), (42, .u), (43, .u), (44, .u), (45, .u), (46, .u), (47, .u)]) (fun i => [⟨82, 1, 0, true, ints .u64 (fillI (sbN (trm a) (trm b) i).1 (trm a).length)⟩]) (fun i => (trm a).length - i) 0 ?_ ?_ rfl ?_
  · exact Nat.zero_le _
  · exact (.cons rfl (.cons rfl (.u (.u (.u (.u (.u (.u (.u (.u (.u (.u (.u (.u (.u (.u (.u (.u (.u (.u (.u (.u (.u (.u (.u (.u (.u (.u .nil))))))))))))))))))))))))))))
  · rintro i hc1
    have hf := fillI_len (l := (sbN (trm a) (trm b) i).1) (n := (trm a).length) (by rw [sbN_len]; omega)
    have hc := sbN_c (trm a) (trm b) i
    have hx := u64s_getD uX i
    have hy := u64s_getD uY i
    refine jc_seq ?_
    refine jc_region ?_
    refine jo_l (ly_lt rfl rfl) (hd 24 rfl) ?_
    refine jo_nil ?_
    refine jc_seq ?_
    refine jc_if rfl (fun h2 => ?_) (fun h2 => ?_)
    · refine jc_skip ?_
      refine jc_seq ?_
      refine jc_block ?_
      refine jc_seq ?_
      refine jc_region ?_
      refine jo_l (ly_mv rfl) (hd 25 rfl) ?_
      refine jo_l (ly_as rfl) (hd 8 rfl) ?_
      refine jo_nil ?_
      refine jc_seq ?_
      refine jc_region ?_
      refine jo_l (ly_as rfl) (hd 9 rfl) ?_
      refine jo_nil ?_
      refine jc_meetH (G := Unit) (fun _ => True) (fun _ => [(9, .i .u64 ((trm b).getD i 0)), (26, .u), (27, .u), (28, .u), (29, .u), (30, .u), (31, .u), (32, .u), (33, .u)]) ?_ ?_
      · refine jc_seq ?_
        refine jc_region ?_
        refine jo_l (ly_mv rfl) (hd 26 rfl) ?_
        refine jo_l (ly_mv rfl) (hd 27 rfl) ?_
        refine jo_l (ly_lenn sl28 rfl) (hd 28 rfl) ?_
        refine jo_l (ly_lt rfl rfl) (hd 29 rfl) ?_
        refine jo_nil ?_
        refine jc_if rfl (fun h3 => ?_) (fun h3 => ?_)
        · refine jc_region ?_
          refine jo_l (ly_mv rfl) (hd 30 rfl) ?_
          refine jo_l (ly_mv rfl) (hd 31 rfl) ?_
          refine jo_l (ly_ian (i := i) sl28 rfl rfl (by first | rfl | omega) (by omega)) (hd 32 rfl) ?_
          refine jo_l (ly_ldq one82 rfl rfl) (hd 33 rfl) ?_
          refine jo_l (ly_as rfl) (hd 9 rfl) ?_
          refine jo_nil ?_
          refine ⟨(), ?_, rfl, cov_n 9 rfl rfl ?_⟩
          · trivial
          · exact (.cons (by first | rfl | (show some (V.i .u64 _) = some (V.i .u64 _); rw [getD_ge (by omega)])) (.u (.u (.u (.u (.u (.u (.u (.u .nil)))))))))
        · refine jc_skip ?_
          refine ⟨(), ?_, rfl, cov_n 4 rfl rfl ?_⟩
          · trivial
          · exact (.cons (by first | rfl | (show some (V.i .u64 _) = some (V.i .u64 _); rw [getD_ge (by omega)])) (.u (.u (.u (.u (.u (.u (.u (.u .nil)))))))))
      · rintro _ _
        refine jc_region ?_
        refine jo_l (ly_mv rfl) (hd 35 rfl) ?_
        refine jo_l (ly_mv rfl) (hd 36 rfl) ?_
        refine jo_l (ly_mv rfl) (hd 37 rfl) ?_
        refine jo_l (ly_mv rfl) (hd 38 rfl) ?_
        refine jo_l (ly_ian (i := i) sl28 rfl rfl (by first | rfl | omega) (by omega)) (hd 39 rfl) ?_
        refine jo_l (ly_ldq one82 rfl rfl) (hd 40 rfl) ?_
        refine jo_l (ly_mv rfl) (hd 41 rfl) ?_
        refine jo_l (ly_mv rfl) (hd 42 rfl) ?_
        refine jo_h (hy_ext3 (e := sub64Entry) Try.func89 rfl rfl (by kernel_rfl) (by kernel_rfl) rfl rfl rfl (fun w => run_sub64 _ _ _ hx.1 hx.2 hy.1 hy.2 hc.1 hc.2 w) rel_pair) (hd 43 rfl) ?_
        refine jo_l (ly_mv rfl) (hd 34 rfl) ?_
        refine jo_l (ly_ext rfl rfl) (hd 44 rfl) ?_
        refine jo_l (ly_ext rfl rfl) (hd 45 rfl) ?_
        refine jo_l (ly_ia (i := i) sl28 rfl rfl rfl (by first | rfl | omega) (by omega) rfl) (hd 46 rfl) ?_
        refine jo_st (sy_storei rfl rfl rfl one82 (by omega)) ?_
        refine jo_l (ly_as rfl) (hd 7 rfl) ?_
        refine jo_nil ?_
        refine jc_region ?_
        refine jo_l (ly_add rfl rfl (wrap_i64 (by omega) (by omega))) (hd 47 rfl) ?_
        refine jo_l (ly_mv rfl) (hd 23 rfl) ?_
        refine jo_nil ?_
        refine ⟨i + 1, ?_, ?_, (by show [(⟨82, 1, 0, true, ints .u64 _⟩ : Ob)] = [⟨82, 1, 0, true, ints .u64 _⟩]; rw [fill_sb (by omega)]), cov_n 57 rfl rfl ?_⟩
        · omega
        · omega
        · exact (.cons rfl (.cons rfl (.u (.u (.u (.u (.u (.u (.u (.u (.u (.u (.u (.u (.u (.u (.u (.u (.u (.u (.u (.u (.u (.u (.u (.u (.u (.u .nil))))))))))))))))))))))))))))
    · refine jc_exit ?_
      refine jc_seq ?_
      obtain rfl : i = (trm a).length := by omega
      refine jc_frz (k := .u64) (l' := difL a b) 6 rfl rfl (by rw [fillI_full (sbN_len _ _ _)]; simp [sbN_len]) (by rw [fillI_full (sbN_len _ _ _), List.drop_zero, List.take_of_length_le (by simp [sbN_len])]; rfl) hL ?_
      refine jc_region ?_
      refine jo_l (ly_mv rfl) (hd 48 rfl) ?_
      refine jo_call Try.f88 (told_ok (difL a b) (by unfold difL; rw [sbN_len]; omega) (sbN_u uX uY _) h) rfl Try.func88 rfl rfl (ovL_cons rfl ovL_nil) (.cons .n .nil) (hd 49 rfl) ?_ (fun ch hp => by simp at hp)
      rintro y hy; injection hy with hy; subst hy
      refine jo_l (ly_ext rfl rfl) (hd 50 rfl) ?_
      refine jo_l (ly_ext rfl rfl) (hd 51 rfl) ?_
      refine jo_l (ly_as rfl) (hd 4 rfl) ?_
      refine jo_l (ly_as rfl) (hd 5 rfl) ?_
      refine jo_nil ?_
      refine jc_ret ?_
      refine ⟨_, _, (.cons rfl (.cons rfl .nil)), (.t1 .n (.t1 .i .t0)), ?_⟩
      exact rfl

end Go.Proofs.Ytcdipmjgpimmdaa.Vc

/- Contracts of surdref01.norm, Zero, surdref06.make1. -/
set_option linter.unusedVariables false
set_option linter.unusedSimpArgs false
namespace Go.Proofs.Ytcdipmjgpimmdaa.Vc
open Go Go.RowKit
set_option maxHeartbeats 4000000 in
theorem rnorm_s (l : List Int) (hl : l.length < 1099511627776) : Spec Try.prog 80 [.n false .u64 l] (fun o => o = .ret (.n false .u64 (trm l))) := by
  refine spec_of' [(0, .n false .u64 l)] rfl Try.func80 rfl (Nat.le_of_ble_eq_true rfl) fun Γ hN hds hL hR => ?_
  have hd : ∀ d, Nat.blt d 22 = true → d < Γ.N := fun d h => by rw [hN]; exact Nat.le_of_ble_eq_true h
  refine jc_seq ?_
  refine jc_region ?_
  refine jo_l (ly_as rfl) (hd 2 rfl) ?_
  refine jo_nil ?_
  refine jc_seq ?_
  refine jc_region ?_
  refine jo_l (ly_mv rfl) (hd 4 rfl) ?_
  refine jo_l (ly_lenn sl33 rfl) (hd 5 rfl) ?_
  refine jo_l (ly_as rfl) (hd 3 rfl) ?_
  refine jo_nil ?_
  refine jc_seq ?_
  refine jc_block ?_
  refine jc_loopF (G := Nat) (fun k => k ≤ l.length ∧ tN l k = tN l l.length) (fun k => [(3, .i .i64 (k : Int)), (6, .u), (7, .u), (8, .u), (9, .u), (10, .u), (11, .u), (12, .u), (13, .u), (14, .u), (15, .u), (16, .u), (17, .u)]) (fun _ => _) (fun k => k) l.length ?_ ?_ rfl ?_
  · exact ⟨Nat.le_refl _, rfl⟩
  · exact (.cons rfl (.u (.u (.u (.u (.u (.u (.u (.u (.u (.u (.u (.u .nil)))))))))))))
  · rintro k ⟨hc1, hc2⟩
    refine jc_seq ?_
    refine jc_seq ?_
    refine jc_region ?_
    refine jo_l (ly_mv rfl) (hd 6 rfl) ?_
    refine jo_l (ly_gt rfl rfl) (hd 7 rfl) ?_
    refine jo_l (ly_mv rfl) (hd 8 rfl) ?_
    refine jo_ifp 8 rfl (fun h1 => ?_) (fun h1 => ?_)
    · refine jo_g 8 rfl rfl (ly_mv rfl) (hd 9 rfl) ?_
      refine jo_g 8 rfl rfl (ly_mv rfl) (hd 10 rfl) ?_
      refine jo_g 8 rfl rfl (ly_sub rfl rfl (wrap_i64 (by omega) (by omega))) (hd 11 rfl) ?_
      refine jo_g 8 rfl rfl (ly_ian (i := k - 1) sl33 rfl rfl (by omega) (by omega)) (hd 12 rfl) ?_
      refine jo_g 8 rfl rfl (ly_ldq one82 rfl rfl) (hd 13 rfl) ?_
      refine jo_g 8 rfl rfl (ly_eq rfl rfl) (hd 14 rfl) ?_
      refine jo_l (ly_pick_t rfl rfl) (hd 15 rfl) ?_
      refine jo_nil ?_
      refine jc_if rfl (fun h2 => ?_) (fun h2 => ?_)
      · refine jc_skip ?_
        refine jc_block ?_
        refine jc_region ?_
        refine jo_l (ly_mv rfl) (hd 16 rfl) ?_
        refine jo_l (ly_sub rfl rfl (wrap_i64 (by omega) (by omega))) (hd 17 rfl) ?_
        refine jo_l (ly_as rfl) (hd 3 rfl) ?_
        refine jo_nil ?_
        refine ⟨k - 1, ?_, ?_, rfl, cov_n 27 rfl rfl ?_⟩
        · exact ⟨by omega, by rw [← hc2, tN_down (by omega) (by assumption)]⟩
        · omega
        · exact (.cons (by show some (V.i .i64 _) = some (V.i .i64 _); congr 2; omega) (.u (.u (.u (.u (.u (.u (.u (.u (.u (.u (.u (.u .nil)))))))))))))
      · refine jc_exit ?_
        refine jc_seq ?_
        refine jc_region ?_
        refine jo_l (ly_mv rfl) (hd 18 rfl) ?_
        refine jo_l (ly_mv rfl) (hd 19 rfl) ?_
        refine jo_l (ly_mv rfl) (hd 20 rfl) ?_
        refine jo_l (ly_sln sl33 rfl bnd_none (bnd_some' rfl (by first | rfl | omega)) (.inr ⟨k, bnd_some' rfl rfl, Nat.le_refl _, hc1, rfl⟩) (by omega) (by omega)) (hd 21 rfl) ?_
        refine jo_l (ly_as rfl) (hd 2 rfl) ?_
        refine jo_nil ?_
        refine jc_ret ?_
        refine ⟨_, _, (.cons rfl .nil), .n, ?_⟩
        unfold trm
        rw [← hc2, tN_stop (by omega) (by assumption), List.drop_zero]
    · refine jo_s 8 rfl rfl rfl (hd 9 rfl) ?_
      refine jo_s 8 rfl rfl rfl (hd 10 rfl) ?_
      refine jo_s 8 rfl rfl rfl (hd 11 rfl) ?_
      refine jo_s 8 rfl rfl rfl (hd 12 rfl) ?_
      refine jo_s 8 rfl rfl rfl (hd 13 rfl) ?_
      refine jo_s 8 rfl rfl rfl (hd 14 rfl) ?_
      refine jo_l (ly_pick_f rfl rfl) (hd 15 rfl) ?_
      refine jo_nil ?_
      refine jc_litf rfl ?_
      refine jc_exit ?_
      refine jc_seq ?_
      refine jc_region ?_
      refine jo_l (ly_mv rfl) (hd 18 rfl) ?_
      refine jo_l (ly_mv rfl) (hd 19 rfl) ?_
      refine jo_l (ly_mv rfl) (hd 20 rfl) ?_
      refine jo_l (ly_sln sl33 rfl bnd_none (bnd_some' rfl (by first | rfl | omega)) (.inr ⟨k, bnd_some' rfl rfl, Nat.le_refl _, hc1, rfl⟩) (by omega) (by omega)) (hd 21 rfl) ?_
      refine jo_l (ly_as rfl) (hd 2 rfl) ?_
      refine jo_nil ?_
      refine jc_ret ?_
      refine ⟨_, _, (.cons rfl .nil), .n, ?_⟩
      unfold trm
      rw [← hc2, tN_0 (by omega), List.drop_zero]

set_option maxHeartbeats 4000000 in
theorem Zero_s (l : List Int) : Spec Try.prog 56 [.n false .u64 l] (fun o => o = .ret (.b (decide ((l.length : Int) = 0)))) := by
  refine spec_of' [(0, .n false .u64 l)] rfl Try.func56 rfl (Nat.le_of_ble_eq_true rfl) fun Γ hN hds hL hR => ?_
  have hd : ∀ d, Nat.blt d 6 = true → d < Γ.N := fun d h => by rw [hN]; exact Nat.le_of_ble_eq_true h
  refine jc_seq ?_
  refine jc_region ?_
  refine jo_l (ly_as rfl) (hd 2 rfl) ?_
  refine jo_nil ?_
  refine jc_seq ?_
  refine jc_region ?_
  refine jo_l (ly_mv rfl) (hd 3 rfl) ?_
  refine jo_l (ly_lenn sl33 rfl) (hd 4 rfl) ?_
  refine jo_l (ly_eq rfl rfl) (hd 5 rfl) ?_
  refine jo_l (ly_as rfl) (hd 2 rfl) ?_
  refine jo_nil ?_
  refine jc_ret ?_
  refine ⟨_, _, (.cons rfl .nil), .b, ?_⟩
  exact rfl

set_option maxHeartbeats 4000000 in
theorem make1_s (s : Bool) (l : List Int) : Spec Try.prog 58 [.b s, .n false .u64 l] (fun o => o = .ret (.a [.b (s && decide (l ≠ [])), .n false .u64 l])) := by
  refine spec_of' [(0, .b s), (1, .n false .u64 l)] rfl Try.func58 rfl (Nat.le_of_ble_eq_true rfl) fun Γ hN hds hL hR => ?_
  have hd : ∀ d, Nat.blt d 13 = true → d < Γ.N := fun d h => by rw [hN]; exact Nat.le_of_ble_eq_true h
  refine jc_seq ?_
  refine jc_region ?_
  refine jo_h (hy_alloc (id := 0) zero35 (by decide) rfl (by decide) rfl) (hd 4 rfl) ?_
  refine jo_nil ?_
  refine jc_seq ?_
  refine jc_region ?_
  refine jo_l (ly_mv rfl) (hd 5 rfl) ?_
  refine jo_l (ly_mv rfl) (hd 6 rfl) ?_
  refine jo_split 6 rfl (fun h1 => ?_) (fun h1 => ?_)
  · refine jo_g 6 rfl rfl (ly_mv rfl) (hd 7 rfl) ?_
    refine jo_callg Try.f56 6 rfl rfl (Zero_s l) rfl Try.func56 rfl rfl (ovL_cons rfl ovL_nil) (.cons .n .nil) (hd 8 rfl) ?_ (fun ch hp => by simp at hp)
    rintro y hy; injection hy with hy; subst hy
    refine jo_g 6 rfl rfl (ly_not rfl) (hd 9 rfl) ?_
    refine jo_l (ly_pick_t rfl rfl) (hd 10 rfl) ?_
    refine jo_l (ly_mv rfl) (hd 11 rfl) ?_
    refine jo_l (ly_build (is := [0, 1]) (xs := [.tmp 10, .tmp 11]) zero35 pls35_0_1 rfl (ovL_cons rfl (ovL_cons rfl ovL_nil)) rfl (by first | (simp [plsOk, cellsV]; done) | (simp [plsOk, cellsV, old]; done)) (all_of rfl) rfl) (hd 12 rfl) ?_
    refine jo_st (sy_store rfl rfl rfl siz35 rfl rfl (Nat.le_of_ble_eq_true rfl)) ?_
    refine jo_nil ?_
    refine jc_ret ?_
    refine ⟨_, _, (.cons (ResV.cell agg35 rfl rfl rfl rfl) .nil), (.a1 .b (.a1 .n .a0)), ?_⟩
    cases l <;> simp_all <;> omega
  · refine jo_s 6 rfl rfl rfl (hd 7 rfl) ?_
    refine jo_s 6 rfl rfl rfl (hd 8 rfl) ?_
    refine jo_s 6 rfl rfl rfl (hd 9 rfl) ?_
    refine jo_l (ly_pick_f rfl rfl) (hd 10 rfl) ?_
    refine jo_l (ly_mv rfl) (hd 11 rfl) ?_
    refine jo_l (ly_build (is := [0, 1]) (xs := [.tmp 10, .tmp 11]) zero35 pls35_0_1 rfl (ovL_cons rfl (ovL_cons rfl ovL_nil)) rfl (by first | (simp [plsOk, cellsV]; done) | (simp [plsOk, cellsV, old]; done)) (all_of rfl) rfl) (hd 12 rfl) ?_
    refine jo_st (sy_store rfl rfl rfl siz35 rfl rfl (Nat.le_of_ble_eq_true rfl)) ?_
    refine jo_nil ?_
    refine jc_ret ?_
    refine ⟨_, _, (.cons (ResV.cell agg35 rfl rfl rfl rfl) .nil), (.a1 .b (.a1 .n .a0)), ?_⟩
    cases l <;> simp_all <;> omega
end Go.Proofs.Ytcdipmjgpimmdaa.Vc

/- Contracts of surdref01.Of, Int, surdref06.Int. -/
set_option linter.unusedVariables false
set_option linter.unusedSimpArgs false
namespace Go.Proofs.Ytcdipmjgpimmdaa.Vc
open Go Go.RowKit
set_option maxHeartbeats 4000000 in
theorem rOf_s (l : List Int) (hl : l.length < 4294967296) (hu : u64s l) : Spec Try.prog 63 [.n false .u64 l] (fun o => o = .ret (.n false .u64 (trm (dig l)))) := by
  refine spec_of' [(0, .n false .u64 l)] rfl Try.func63 rfl (Nat.le_of_ble_eq_true rfl) fun Γ hN hds hL hR => ?_
  have hd : ∀ d, Nat.blt d 26 = true → d < Γ.N := fun d h => by rw [hN]; exact Nat.le_of_ble_eq_true h
  refine jc_seq ?_
  refine jc_region ?_
  refine jo_l (ly_as rfl) (hd 2 rfl) ?_
  refine jo_nil ?_
  refine jc_seq ?_
  refine jc_region ?_
  refine jo_l (ly_mv rfl) (hd 6 rfl) ?_
  refine jo_l (ly_lenn sl25 rfl) (hd 7 rfl) ?_
  refine jo_l (ly_mul rfl rfl (wrap_i64 (by omega) (by omega))) (hd 8 rfl) ?_
  refine jo_h (hy_mk0 (m := 2 * l.length) el33 rfl rfl (by omega) (by show 8 * (2 * l.length) ≤ _; omega) (by unfold maxLen; omega) rfl) (hd 9 rfl) ?_
  refine jo_l (ly_as rfl) (hd 3 rfl) ?_
  refine jo_nil ?_
  refine jc_seq ?_
  refine jc_seq ?_
  refine jc_region ?_
  refine jo_l (ly_mv rfl) (hd 10 rfl) ?_
  refine jo_l (ly_lenn sl25 rfl) (hd 11 rfl) ?_
  refine jo_l (ly_mv rfl) (hd 12 rfl) ?_
  refine jo_nil ?_
  refine jc_block ?_
  refine jc_loopD (G := Nat) 1 (fun g => g ≤ l.length) (fun g => [(3, .o 0 g 0 (2 * g)), (12, .i .i64 (g : Int)), (5, .u), (13, .u), (14, .u), (15, .u), (16, .u), (17, .u), (18, .u), (19, .u), (20, .u), (21, .u), (22, .u), (23, .u)]) (fun g => [⟨82, 1, g, true, ints .u64 (dig (l.take g))⟩]) (fun g => l.length - g) 0 ?_ ?_ rfl hR rfl (fun _ _ => rfl) (fun g _ => .cons ints_id .nil) ?_
  · exact Nat.zero_le _
  · exact (.cons rfl (.cons rfl (.u (.u (.u (.u (.u (.u (.u (.u (.u (.u (.u (.u .nil))))))))))))))
  · rintro i hc1
    have hx := u64s_getD hu i
    refine jc_seq ?_
    refine jc_region ?_
    refine jo_l (ly_lt rfl rfl) (hd 13 rfl) ?_
    refine jo_nil ?_
    refine jc_seq ?_
    refine jc_if rfl (fun h1 => ?_) (fun h1 => ?_)
    · refine jc_skip ?_
      refine jc_seq ?_
      refine jc_block ?_
      refine jc_seq ?_
      refine jc_region ?_
      refine jo_l (ly_ian (i := i) sl25 rfl rfl (by first | rfl | omega) (by omega)) (hd 14 rfl) ?_
      refine jo_l (ly_ldq one82 rfl rfl) (hd 15 rfl) ?_
      refine jo_l (ly_as rfl) (hd 5 rfl) ?_
      refine jo_nil ?_
      refine jc_region ?_
      refine jo_l (ly_mv rfl) (hd 16 rfl) ?_
      refine jo_l (ly_mv rfl) (hd 17 rfl) ?_
      refine jo_l (ly_is (ly_rem rfl rfl (by decide) rfl) (show V.i .u64 ((l.getD i 0).tmod 4294967296) = V.i .u64 ((l.getD i 0) % 4294967296) by rw [Int.tmod_eq_emod_of_nonneg hx.1])) (hd 18 rfl) ?_
      refine jo_l (ly_mv rfl) (hd 19 rfl) ?_
      refine jo_l (ly_quo rfl rfl (by decide) (r := (l.getD i 0) / 4294967296) (by show IntKind.u64.wrap (Int.tdiv (l.getD i 0) 4294967296) = _; rw [Int.tdiv_eq_ediv_of_nonneg hx.1]; exact wrap_u64 (by omega) (by omega))) (hd 20 rfl) ?_
      refine jo_h (hy_lit (id := 1) (xs := [.tmp 18, .tmp 20]) el33 rfl (ovL_cons rfl (ovL_cons rfl ovL_nil)) rfl (all2_of rfl) (by decide) rfl) (hd 21 rfl) ?_
      refine jo_app el33 rfl rfl (by rw [ints_length, dig_len, List.length_take, Nat.min_eq_left (by omega), Nat.mul_one]) rfl (src_o rfl rfl rfl) (by show (2 * i + 2) * 8 ≤ _; omega) (by unfold maxLen; omega) (hd 22 rfl) ?_
      refine jo_l (ly_as rfl) (hd 3 rfl) ?_
      refine jo_nil ?_
      refine jc_region ?_
      refine jo_l (ly_add rfl rfl (wrap_i64 (by omega) (by omega))) (hd 23 rfl) ?_
      refine jo_l (ly_mv rfl) (hd 12 rfl) ?_
      refine jo_nil ?_
      refine ⟨i + 1, ?_, ?_, (by show [(⟨82, 1, i + 1, true, ints .u64 (dig (l.take i)) ++ ints .u64 [_, _]⟩ : Ob)] = [⟨82, 1, i + 1, true, ints .u64 (dig (l.take (i + 1)))⟩]; rw [ints_append, dig_snoc (by omega)]), cov_n 28 rfl rfl ?_⟩
      · omega
      · omega
      · exact (.cons rfl (.cons rfl (.u (.u (.u (.u (.u (.u (.u (.u (.u (.u (.u (.u .nil))))))))))))))
    · refine jc_exit ?_
      refine jc_seq ?_
      obtain rfl : i = l.length := by omega
      refine jc_region ?_
      refine jo_frz (k := .u64) (l' := dig l) 3 rfl rfl (by rw [dig_len, List.length_take, Nat.min_self]; omega) (by rw [List.take_length, List.drop_zero, List.take_of_length_le (by rw [dig_len]; exact Nat.le_refl _)]) hL ?_
      refine jo_l (ly_mv rfl) (hd 24 rfl) ?_
      refine jo_call Try.f80 (rnorm_s (dig l) (by rw [dig_len]; omega)) rfl Try.func80 rfl rfl (ovL_cons rfl ovL_nil) (.cons .n .nil) (hd 25 rfl) ?_ (fun ch hp => by simp at hp)
      rintro y hy; injection hy with hy; subst hy
      refine jo_l (ly_as rfl) (hd 2 rfl) ?_
      refine jo_nil ?_
      refine jc_ret ?_
      refine ⟨_, _, (.cons rfl .nil), .n, ?_⟩
      exact rfl

set_option maxHeartbeats 4000000 in
theorem rInt_s (v : Int) (h0 : 0 ≤ v) (h1 : v < 9223372036854775808) : Spec Try.prog 67 [.i .i64 v] (fun o => o = .ret (.n false .u64 (trm (dig [v])))) := by
  refine spec_of' [(0, .i .i64 v)] rfl Try.func67 rfl (Nat.le_of_ble_eq_true rfl) fun Γ hN hds hL hR => ?_
  have hd : ∀ d, Nat.blt d 7 = true → d < Γ.N := fun d h => by rw [hN]; exact Nat.le_of_ble_eq_true h
  refine jc_seq ?_
  refine jc_region ?_
  refine jo_l (ly_as rfl) (hd 2 rfl) ?_
  refine jo_nil ?_
  refine jc_seq ?_
  refine jc_region ?_
  refine jo_l (ly_mv rfl) (hd 3 rfl) ?_
  refine jo_l (ly_conv und3 und82 rfl (wrap_u64 (by omega) (by omega))) (hd 4 rfl) ?_
  refine jo_h (hy_lit (id := 0) (xs := [.tmp 4]) el25 rfl (ovL_cons rfl ovL_nil) rfl (all2_of rfl) (by decide) rfl) (hd 5 rfl) ?_
  refine jo_frz (k := .u64) (l := [v]) (l' := [v]) 5 rfl rfl (Nat.le_refl _) rfl hL ?_
  refine jo_call Try.f63 (rOf_s [v] (by simp) (u64s1 (by omega) (by omega))) rfl Try.func63 rfl rfl (ovL_cons rfl ovL_nil) (.cons .n .nil) (hd 6 rfl) ?_ (fun ch hp => by simp at hp)
  rintro y hy; injection hy with hy; subst hy
  refine jo_l (ly_as rfl) (hd 2 rfl) ?_
  refine jo_nil ?_
  refine jc_ret ?_
  refine ⟨_, _, (.cons rfl .nil), .n, ?_⟩
  exact rfl

set_option maxHeartbeats 4000000 in
theorem Int_pos (v : Int) (h0 : 0 ≤ v) (h1 : v < 9223372036854775808) : Spec Try.prog 38 [.i .i64 v] (fun o => o = .ret (.a [.b (false && decide (trm (dig [v]) ≠ [])), .n false .u64 (trm (dig [v]))])) := by
  refine spec_of' [(0, .i .i64 v)] rfl Try.func38 rfl (Nat.le_of_ble_eq_true rfl) fun Γ hN hds hL hR => ?_
  have hd : ∀ d, Nat.blt d 16 = true → d < Γ.N := fun d h => by rw [hN]; exact Nat.le_of_ble_eq_true h
  refine jc_seq ?_
  refine jc_region ?_
  refine jo_h (hy_alloc (id := 0) zero35 (by decide) rfl (by decide) rfl) (hd 2 rfl) ?_
  refine jo_nil ?_
  refine jc_seq ?_
  refine jc_seq ?_
  refine jc_region ?_
  refine jo_l (ly_mv rfl) (hd 3 rfl) ?_
  refine jo_l (ly_ff (ly_lt rfl rfl) (by omega)) (hd 4 rfl) ?_
  refine jo_nil ?_
  refine jc_litf rfl ?_
  refine jc_skip ?_
  refine jc_seq ?_
  refine jc_region ?_
  refine jo_l (ly_mv rfl) (hd 13 rfl) ?_
  refine jo_call Try.f67 (rInt_s v h0 h1) rfl Try.func67 rfl rfl (ovL_cons rfl ovL_nil) (.cons .i .nil) (hd 14 rfl) ?_ (fun ch hp => by simp at hp)
  rintro y hy; injection hy with hy; subst hy
  refine jo_call Try.f58 (make1_s false (trm (dig [v]))) rfl Try.func58 rfl rfl (ovL_cons rfl (ovL_cons rfl ovL_nil)) (.cons .b (.cons .n .nil)) (hd 15 rfl) ?_ (fun ch hp => by simp at hp)
  rintro y hy; injection hy with hy; subst hy
  refine jo_st (sy_store rfl rfl rfl siz35 rfl rfl (Nat.le_of_ble_eq_true rfl)) ?_
  refine jo_nil ?_
  refine jc_ret ?_
  refine ⟨_, _, (.cons (ResV.cell agg35 rfl rfl rfl rfl) .nil), (.a1 .b (.a1 .n .a0)), ?_⟩
  exact rfl

set_option maxHeartbeats 4000000 in
theorem Int_neg (v : Int) (h0 : v < 0) (h1 : -9223372036854775808 ≤ v) : Spec Try.prog 38 [.i .i64 v] (fun o => o = .ret (.a [.b (true && decide (trm (dig [-v]) ≠ [])), .n false .u64 (trm (dig [-v]))])) := by
  refine spec_of' [(0, .i .i64 v)] rfl Try.func38 rfl (Nat.le_of_ble_eq_true rfl) fun Γ hN hds hL hR => ?_
  have hd : ∀ d, Nat.blt d 16 = true → d < Γ.N := fun d h => by rw [hN]; exact Nat.le_of_ble_eq_true h
  refine jc_seq ?_
  refine jc_region ?_
  refine jo_h (hy_alloc (id := 0) zero35 (by decide) rfl (by decide) rfl) (hd 2 rfl) ?_
  refine jo_nil ?_
  refine jc_seq ?_
  refine jc_seq ?_
  refine jc_region ?_
  refine jo_l (ly_mv rfl) (hd 3 rfl) ?_
  refine jo_l (ly_tt (ly_lt rfl rfl) (by omega)) (hd 4 rfl) ?_
  refine jo_nil ?_
  refine jc_litt rfl ?_
  refine jc_seq ?_
  refine jc_region ?_
  refine jo_l (ly_mv rfl) (hd 5 rfl) ?_
  refine jo_l (ly_add rfl rfl (wrap_i64 (by omega) (by omega))) (hd 6 rfl) ?_
  refine jo_l (ly_neg rfl (wrap_i64 (by omega) (by omega))) (hd 7 rfl) ?_
  refine jo_l (ly_conv und3 und82 rfl (wrap_u64 (by omega) (by omega))) (hd 8 rfl) ?_
  refine jo_l (ly_add rfl rfl (r := -v) (by rw [wrap_u64 (by omega) (by omega)]; omega)) (hd 9 rfl) ?_
  refine jo_h (hy_lit (id := 1) (xs := [.tmp 9]) el25 rfl (ovL_cons rfl ovL_nil) rfl (all2_of rfl) (by decide) rfl) (hd 10 rfl) ?_
  refine jo_frz (k := .u64) (l := [-v]) (l' := [-v]) 10 rfl rfl (Nat.le_refl _) rfl hL ?_
  refine jo_call Try.f63 (rOf_s [-v] (by simp) (u64s1 (by omega) (by omega))) rfl Try.func63 rfl rfl (ovL_cons rfl ovL_nil) (.cons .n .nil) (hd 11 rfl) ?_ (fun ch hp => by simp at hp)
  rintro y hy; injection hy with hy; subst hy
  refine jo_call Try.f58 (make1_s true (trm (dig [-v]))) rfl Try.func58 rfl rfl (ovL_cons rfl (ovL_cons rfl ovL_nil)) (.cons .b (.cons .n .nil)) (hd 12 rfl) ?_ (fun ch hp => by simp at hp)
  rintro y hy; injection hy with hy; subst hy
  refine jo_st (sy_store rfl rfl rfl siz35 rfl rfl (Nat.le_of_ble_eq_true rfl)) ?_
  refine jo_nil ?_
  refine jc_ret ?_
  refine ⟨_, _, (.cons (ResV.cell agg35 rfl rfl rfl rfl) .nil), (.a1 .b (.a1 .n .a0)), ?_⟩
  exact rfl
end Go.Proofs.Ytcdipmjgpimmdaa.Vc

/- Contracts of surdref01.Limbs, Is, surdref06.Is. -/
set_option linter.unusedVariables false
set_option linter.unusedSimpArgs false
namespace Go.Proofs.Ytcdipmjgpimmdaa.Vc
open Go Go.RowKit
set_option maxHeartbeats 4000000 in
theorem Limbs_s (l : List Int) (hl : l.length < 4294967296) : Spec Try.prog 46 [.n false .u64 l] (fun o => o = .ret (.n true .u64 (lims l))) := by
  refine spec_of' [(0, .n false .u64 l)] rfl Try.func46 rfl (Nat.le_of_ble_eq_true rfl) fun Γ hN hds hL hR => ?_
  have hd : ∀ d, Nat.blt d 34 = true → d < Γ.N := fun d h => by rw [hN]; exact Nat.le_of_ble_eq_true h
  refine jc_seq ?_
  refine jc_region ?_
  refine jo_l (ly_as rfl) (hd 2 rfl) ?_
  refine jo_nil ?_
  refine jc_seq ?_
  refine jc_region ?_
  refine jo_l (ly_as rfl) (hd 3 rfl) ?_
  refine jo_nil ?_
  refine jc_seq ?_
  refine jc_seq ?_
  refine jc_own0 (id := 0) 3 82 1 rfl rfl ?_
  refine jc_region ?_
  refine jo_l (ly_as rfl) (hd 4 rfl) ?_
  refine jo_nil ?_
  refine jc_block ?_
  refine jc_loopD (G := Nat × List Int) 1 (fun g => g.1 ≤ l.length + 1 ∧ g.2 ++ lims (l.drop g.1) = lims l ∧ g.2.length ≤ g.1) (fun g => [(3, .o 0 g.2.length 0 g.2.length), (4, .i .i64 (g.1 : Int)), (5, .u), (6, .u), (7, .u), (8, .u), (9, .u), (10, .u), (11, .u), (12, .u), (13, .u), (14, .u), (15, .u), (16, .u), (17, .u), (18, .u), (19, .u), (20, .u), (21, .u), (22, .u), (23, .u), (24, .u), (25, .u), (26, .u), (27, .u), (28, .u), (29, .u), (30, .u), (31, .u), (32, .u)]) (fun g => [⟨82, 1, g.2.length, true, ints .u64 g.2⟩]) (fun g => l.length + 1 - g.1) (0, []) ?_ ?_ rfl hR rfl (fun _ _ => rfl) (fun g _ => .cons ints_id .nil) ?_
  · exact ⟨Nat.zero_le _, rfl, Nat.le_refl _⟩
  · exact (.cons rfl (.cons rfl (.u (.u (.u (.u (.u (.u (.u (.u (.u (.u (.u (.u (.u (.u (.u (.u (.u (.u (.u (.u (.u (.u (.u (.u (.u (.u (.u (.u .nil))))))))))))))))))))))))))))))
  · rintro ⟨j, acc⟩ ⟨hc1, hc2, hc3⟩
    dsimp only at hc1 hc2 hc3
    refine jc_seq ?_
    refine jc_seq ?_
    refine jc_region ?_
    refine jo_l (ly_mv rfl) (hd 6 rfl) ?_
    refine jo_l (ly_mv rfl) (hd 7 rfl) ?_
    refine jo_l (ly_lenn sl33 rfl) (hd 8 rfl) ?_
    refine jo_l (ly_lt rfl rfl) (hd 9 rfl) ?_
    refine jo_nil ?_
    refine jc_if rfl (fun h1 => ?_) (fun h1 => ?_)
    · have hjl : j < l.length := by
        have h0 : (j : Int) < (l.length : Int) := by assumption
        omega
      refine jc_skip ?_
      refine jc_seq ?_
      refine jc_block ?_
      refine jc_seq ?_
      refine jc_region ?_
      refine jo_l (ly_mv rfl) (hd 12 rfl) ?_
      refine jo_l (ly_mv rfl) (hd 13 rfl) ?_
      refine jo_l (ly_ian (i := j) sl33 rfl rfl (by first | rfl | omega) (by omega)) (hd 14 rfl) ?_
      refine jo_l (ly_ldq one82 rfl rfl) (hd 15 rfl) ?_
      refine jo_l (ly_as rfl) (hd 5 rfl) ?_
      refine jo_nil ?_
      refine jc_meetH (G := Int) (fun v => lims (l.drop j) = v :: lims (l.drop (j + 2))) (fun v => [(5, .i .u64 v), (16, .u), (17, .u), (18, .u), (19, .u), (20, .u), (21, .u), (22, .u), (23, .u), (24, .u), (25, .u), (26, .u), (27, .u), (28, .u)]) ?_ ?_
      · refine jc_seq ?_
        refine jc_region ?_
        refine jo_l (ly_mv rfl) (hd 16 rfl) ?_
        refine jo_l (ly_add rfl rfl (r := ((j + 1 : Nat) : Int)) (by rw [wrap_i64 (by omega) (by omega)]; omega)) (hd 17 rfl) ?_
        refine jo_l (ly_mv rfl) (hd 18 rfl) ?_
        refine jo_l (ly_lenn sl33 rfl) (hd 19 rfl) ?_
        refine jo_l (ly_lt rfl rfl) (hd 20 rfl) ?_
        refine jo_nil ?_
        refine jc_if rfl (fun h2 => ?_) (fun h2 => ?_)
        · refine jc_region ?_
          refine jo_l (ly_mv rfl) (hd 21 rfl) ?_
          refine jo_l (ly_mv rfl) (hd 22 rfl) ?_
          refine jo_l (ly_mv rfl) (hd 23 rfl) ?_
          refine jo_l (ly_add rfl rfl (r := ((j + 1 : Nat) : Int)) (by rw [wrap_i64 (by omega) (by omega)]; omega)) (hd 24 rfl) ?_
          refine jo_l (ly_ian (i := j + 1) sl33 rfl rfl (by first | rfl | omega) (by omega)) (hd 25 rfl) ?_
          refine jo_l (ly_ldq one82 rfl rfl) (hd 26 rfl) ?_
          refine jo_l (ly_mul rfl rfl rfl) (hd 27 rfl) ?_
          refine jo_l (ly_add rfl rfl rfl) (hd 28 rfl) ?_
          refine jo_l (ly_as rfl) (hd 5 rfl) ?_
          refine jo_nil ?_
          refine ⟨IntKind.u64.wrap (l.getD j 0 + IntKind.u64.wrap (l.getD (j + 1) 0 * 4294967296)), ?_, rfl, cov_n 14 rfl rfl ?_⟩
          · exact lims2 (by omega)
          · exact (.cons rfl (.u (.u (.u (.u (.u (.u (.u (.u (.u (.u (.u (.u (.u .nil))))))))))))))
        · refine jc_skip ?_
          refine ⟨l.getD j 0, ?_, rfl, cov_n 5 rfl rfl ?_⟩
          · exact lims1 hjl (by omega)
          · exact (.cons rfl (.u (.u (.u (.u (.u (.u (.u (.u (.u (.u (.u (.u (.u .nil))))))))))))))
      · rintro v hv
        refine jc_region ?_
        refine jo_l (ly_mv rfl) (hd 29 rfl) ?_
        refine jo_l (ly_mv rfl) (hd 30 rfl) ?_
        refine jo_h (hy_lit (id := 1) (xs := [.tmp 30]) el25 rfl (ovL_cons rfl ovL_nil) rfl (all2_of rfl) (by decide) rfl) (hd 31 rfl) ?_
        refine jo_app el25 rfl rfl (by rw [ints_length, Nat.mul_one]) rfl (src_o rfl rfl rfl) (by show (acc.length + 1) * 8 ≤ _; omega) (by show acc.length + 1 ≤ 9223372036854775807; omega) (hd 32 rfl) ?_
        refine jo_l (ly_as rfl) (hd 3 rfl) ?_
        refine jo_nil ?_
        refine jc_region ?_
        refine jo_l (ly_mv rfl) (hd 10 rfl) ?_
        refine jo_l (ly_add rfl rfl (r := ((j + 2 : Nat) : Int)) (by rw [wrap_i64 (by omega) (by omega)]; omega)) (hd 11 rfl) ?_
        refine jo_l (ly_as rfl) (hd 4 rfl) ?_
        refine jo_nil ?_
        refine ⟨(j + 2, acc ++ [v]), ?_, ?_, (by show [(⟨82, 1, acc.length + 1, true, ints .u64 acc ++ ints .u64 [v]⟩ : Ob)] = [⟨82, 1, (acc ++ [v]).length, true, ints .u64 (acc ++ [v])⟩]; rw [ints_append, List.length_append]; rfl), cov_n 61 rfl rfl ?_⟩
        · exact ⟨by omega, by rw [List.append_assoc, List.singleton_append, ← hv]; exact hc2, by rw [List.length_append, List.length_singleton]; omega⟩
        · show l.length + 1 - (j + 2) < l.length + 1 - j
          omega
        · exact (.cons (by show some _ = some _; rw [List.length_append]; rfl) (.cons rfl (.u (.u (.u (.u (.u (.u (.u (.u (.u (.u (.u (.u (.u (.u (.u (.u (.u (.u (.u (.u (.u (.u (.u (.u (.u (.u (.u (.u .nil))))))))))))))))))))))))))))))
    · have hjl : l.length ≤ j := by
        have h0 : ¬ (j : Int) < (l.length : Int) := by assumption
        omega
      refine jc_exit ?_
      refine jc_seq ?_
      refine jc_region ?_
      refine jo_l (ly_mv rfl) (hd 33 rfl) ?_
      refine jo_l (ly_as rfl) (hd 2 rfl) ?_
      refine jo_nil ?_
      refine jc_ret ?_
      refine ⟨_, _, (.cons rfl .nil), (.o rfl (by simp) rfl), ?_⟩
      rw [List.drop_zero, List.take_length, ← hc2, List.drop_eq_nil_of_le hjl]
      simp only [lims, List.append_nil]

set_option maxHeartbeats 4000000 in
theorem Is_s (l : List Int) (hl : l.length < 4294967296) : Spec Try.prog 71 [.n false .u64 l, .n false .u64 (lims l)] (fun o => o = .ret (.b true)) := by
  refine spec_of' [(0, .n false .u64 l), (1, .n false .u64 (lims l))] rfl Try.func71 rfl (Nat.le_of_ble_eq_true rfl) fun Γ hN hds hL hR => ?_
  have hd : ∀ d, Nat.blt d 29 = true → d < Γ.N := fun d h => by rw [hN]; exact Nat.le_of_ble_eq_true h
  have hm := lims_len l
  refine jc_seq ?_
  refine jc_region ?_
  refine jo_l (ly_as rfl) (hd 4 rfl) ?_
  refine jo_nil ?_
  refine jc_seq ?_
  refine jc_region ?_
  refine jo_l (ly_mv rfl) (hd 7 rfl) ?_
  refine jo_call Try.f46 (Limbs_s l hl) rfl Try.func46 rfl rfl (ovL_cons rfl ovL_nil) (.cons .n .nil) (hd 8 rfl) ?_ (fun ch hp => by simp at hp)
  rintro y hy; injection hy with hy; subst hy
  refine jo_l (ly_as rfl) (hd 5 rfl) ?_
  refine jo_nil ?_
  refine jc_seq ?_
  refine jc_seq ?_
  refine jc_region ?_
  refine jo_l (ly_mv rfl) (hd 9 rfl) ?_
  refine jo_l (ly_lenn sl25 rfl) (hd 10 rfl) ?_
  refine jo_l (ly_mv rfl) (hd 11 rfl) ?_
  refine jo_l (ly_lenn sl25 rfl) (hd 12 rfl) ?_
  refine jo_l (ly_ff (ly_ne rfl rfl) (by simp)) (hd 13 rfl) ?_
  refine jo_nil ?_
  refine jc_litf rfl ?_
  refine jc_skip ?_
  refine jc_seq ?_
  refine jc_seq ?_
  refine jc_region ?_
  refine jo_l (ly_mv rfl) (hd 14 rfl) ?_
  refine jo_l (ly_lenn sl25 rfl) (hd 15 rfl) ?_
  refine jo_l (ly_mv rfl) (hd 16 rfl) ?_
  refine jo_nil ?_
  refine jc_block ?_
  refine jc_loopF (G := Nat) (fun i => i ≤ (lims l).length) (fun i => [(16, .i .i64 (i : Int)), (4, .u), (6, .u), (17, .u), (18, .u), (19, .u), (20, .u), (21, .u), (22, .u), (23, .u), (24, .u), (25, .u), (26, .u), (27, .u), (28, .u)]) (fun _ => _) (fun i => (lims l).length - i) 0 ?_ ?_ rfl ?_
  · exact Nat.zero_le _
  · exact (.cons rfl (.u (.u (.u (.u (.u (.u (.u (.u (.u (.u (.u (.u (.u (.u .nil)))))))))))))))
  · rintro i hc1
    refine jc_seq ?_
    refine jc_region ?_
    refine jo_l (ly_lt rfl rfl) (hd 17 rfl) ?_
    refine jo_nil ?_
    refine jc_seq ?_
    refine jc_if rfl (fun h2 => ?_) (fun h2 => ?_)
    · refine jc_skip ?_
      refine jc_seq ?_
      refine jc_block ?_
      refine jc_seq ?_
      refine jc_region ?_
      refine jo_l (ly_mv rfl) (hd 18 rfl) ?_
      refine jo_l (ly_as rfl) (hd 6 rfl) ?_
      refine jo_nil ?_
      refine jc_seq ?_
      refine jc_draw (n := 9) _ rfl mixed ?_
      refine ja_l2 0 [2, 3, 8] (lo_l (ly_mv rfl) (hd 19 rfl)) rfl (by kernel_rfl) (by kernel_rfl) (by kernel_rfl) (by kernel_rfl) (fun _ _ _ _ h => h) ?_
      refine ja_l2 1 [2, 3, 8] (lo_l (ly_mv rfl) (hd 20 rfl)) rfl (by kernel_rfl) (by kernel_rfl) (by kernel_rfl) (by kernel_rfl) (fun _ _ _ _ h => h) ?_
      refine ja_l2 2 [3, 8] (lo_l (ly_ian (i := i) sl25 rfl rfl (by first | rfl | omega) (by omega)) (hd 21 rfl)) rfl (by kernel_rfl) (by kernel_rfl) (by kernel_rfl) (by kernel_rfl) (fun _ _ _ _ h => h) ?_
      refine ja_l 3 (lo_l (ly_ldq one82 rfl rfl) (hd 22 rfl)) rfl (by kernel_rfl) (by kernel_rfl) (by kernel_rfl) (fun _ _ _ _ h => h) ?_
      refine ja_l2 4 [6, 7, 8] (lo_l (ly_mv rfl) (hd 23 rfl)) rfl (by kernel_rfl) (by kernel_rfl) (by kernel_rfl) (by kernel_rfl) (fun _ _ _ _ h => h) ?_
      refine ja_l2 5 [6, 7, 8] (lo_l (ly_mv rfl) (hd 24 rfl)) rfl (by kernel_rfl) (by kernel_rfl) (by kernel_rfl) (by kernel_rfl) (fun _ _ _ _ h => h) ?_
      refine ja_l2 6 [7, 8] (lo_l (ly_ian (i := i) sl25 rfl rfl (by first | rfl | omega) (by omega)) (hd 25 rfl)) rfl (by kernel_rfl) (by kernel_rfl) (by kernel_rfl) (by kernel_rfl) (fun _ _ _ _ h => h) ?_
      refine ja_l 7 (lo_l (ly_ldq one82 rfl rfl) (hd 26 rfl)) rfl (by kernel_rfl) (by kernel_rfl) (by kernel_rfl) (fun _ _ _ _ h => h) ?_
      refine ja_l 8 (lo_l (ly_ff (ly_ne rfl rfl) (by simp)) (hd 27 rfl)) rfl (by kernel_rfl) (by kernel_rfl) (by kernel_rfl) (fun _ _ _ _ h => h) ?_
      refine ja_nil (by kernel_rfl) ?_
      refine jc_litf rfl ?_
      refine jc_skip ?_
      refine jc_region ?_
      refine jo_l (ly_add rfl rfl (wrap_i64 (by omega) (by omega))) (hd 28 rfl) ?_
      refine jo_l (ly_mv rfl) (hd 16 rfl) ?_
      refine jo_nil ?_
      refine ⟨i + 1, ?_, ?_, rfl, cov_n 29 rfl rfl ?_⟩
      · omega
      · omega
      · exact (.cons rfl (.u (.u (.u (.u (.u (.u (.u (.u (.u (.u (.u (.u (.u (.u .nil)))))))))))))))
    · refine jc_exit ?_
      refine jc_seq ?_
      refine jc_region ?_
      refine jo_l (ly_as rfl) (hd 4 rfl) ?_
      refine jo_nil ?_
      refine jc_ret ?_
      refine ⟨_, _, (.cons rfl .nil), .b, ?_⟩
      exact rfl

set_option maxHeartbeats 4000000 in
theorem ZIs_s (s : Bool) (l : List Int) (hl : l.length < 4294967296) : Spec Try.prog 45 [.a [.b s, .n false .u64 l], .b s, .n false .u64 (lims l)] (fun o => o = .ret (.b true)) := by
  refine spec_of' [(0, .a [.b s, .n false .u64 l]), (1, .b s), (2, .n false .u64 (lims l))] rfl Try.func45 rfl (Nat.le_of_ble_eq_true rfl) fun Γ hN hds hL hR => ?_
  have hd : ∀ d, Nat.blt d 17 = true → d < Γ.N := fun d h => by rw [hN]; exact Nat.le_of_ble_eq_true h
  refine jc_seq ?_
  refine jc_region ?_
  refine jo_h (hy_box (id := 0) (n := 2) rfl rfl rfl (by decide) rfl) (hd 3 rfl) ?_
  refine jo_l (ly_as rfl) (hd 6 rfl) ?_
  refine jo_nil ?_
  refine jc_seq ?_
  refine jc_region ?_
  refine jo_l (ly_fa fld35_0 rfl rfl rfl) (hd 7 rfl) ?_
  refine jo_l (ly_ld one4 rfl rfl rfl) (hd 8 rfl) ?_
  refine jo_l (ly_mv rfl) (hd 9 rfl) ?_
  refine jo_l (ly_is (ly_eqb und4 rfl rfl) (show V.b (s == s) = V.b true by simp)) (hd 10 rfl) ?_
  refine jo_l (ly_mv rfl) (hd 11 rfl) ?_
  refine jo_g 11 rfl rfl (ly_fa fld35_1 rfl rfl rfl) (hd 12 rfl) ?_
  refine jo_g 11 rfl rfl (ly_ld one33 rfl rfl rfl) (hd 13 rfl) ?_
  refine jo_g 11 rfl rfl (ly_mv rfl) (hd 14 rfl) ?_
  refine jo_callg Try.f71 11 rfl rfl (Is_s l hl) rfl Try.func71 rfl rfl (ovL_cons rfl (ovL_cons rfl ovL_nil)) (.cons .n (.cons .n .nil)) (hd 15 rfl) ?_ (fun ch hp => by simp at hp)
  rintro y hy; injection hy with hy; subst hy
  refine jo_l (ly_pick_t rfl rfl) (hd 16 rfl) ?_
  refine jo_l (ly_as rfl) (hd 6 rfl) ?_
  refine jo_nil ?_
  refine jc_ret ?_
  refine ⟨_, _, (.cons rfl .nil), .b, ?_⟩
  exact rfl
end Go.Proofs.Ytcdipmjgpimmdaa.Vc

/- Contracts of bits.Div64, div.divide for one limb each. -/
set_option linter.unusedVariables false
set_option linter.unusedSimpArgs false
namespace Go.Proofs.Ytcdipmjgpimmdaa.Vc
open Go Go.RowKit
set_option maxHeartbeats 4000000 in
theorem Div64_0 (x d : Int) (hx0 : 0 ≤ x) (hx : x < 18446744073709551616) (hd0 : 0 < d) (hdm : d < 18446744073709551616) : Spec Try.prog 107 [.i .u64 0, .i .u64 x, .i .u64 d] (fun o => o = .ret (.t [.i .u64 (x / d), .i .u64 (x % d)])) := by
  refine spec_of' [(0, .i .u64 0), (1, .i .u64 x), (2, .i .u64 d)] rfl Try.func107 rfl (Nat.le_of_ble_eq_true rfl) fun Γ hN hds hL hR => ?_
  have hd : ∀ d, Nat.blt d 135 = true → d < Γ.N := fun d h => by rw [hN]; exact Nat.le_of_ble_eq_true h
  refine jc_seq ?_
  refine jc_region ?_
  refine jo_l (ly_as rfl) (hd 6 rfl) ?_
  refine jo_l (ly_as rfl) (hd 7 rfl) ?_
  refine jo_nil ?_
  refine jc_seq ?_
  refine jc_seq ?_
  refine jc_region ?_
  refine jo_l (ly_mv rfl) (hd 19 rfl) ?_
  refine jo_l (ly_ff (ly_eq rfl rfl) (by omega)) (hd 20 rfl) ?_
  refine jo_nil ?_
  refine jc_litf rfl ?_
  refine jc_skip ?_
  refine jc_seq ?_
  refine jc_seq ?_
  refine jc_region ?_
  refine jo_l (ly_mv rfl) (hd 22 rfl) ?_
  refine jo_l (ly_mv rfl) (hd 23 rfl) ?_
  refine jo_l (ly_ff (ly_le rfl rfl) (by omega)) (hd 24 rfl) ?_
  refine jo_nil ?_
  refine jc_litf rfl ?_
  refine jc_skip ?_
  refine jc_seq ?_
  refine jc_seq ?_
  refine jc_region ?_
  refine jo_l (ly_mv rfl) (hd 26 rfl) ?_
  refine jo_l (ly_tt (ly_eq rfl rfl) rfl) (hd 27 rfl) ?_
  refine jo_nil ?_
  refine jc_litt rfl ?_
  refine jc_seq ?_
  refine jc_draw (n := 8) _ rfl mixed ?_
  refine ja_l 0 (lo_l (ly_mv rfl) (hd 28 rfl)) rfl (by kernel_rfl) (by kernel_rfl) (by kernel_rfl) (fun _ _ _ _ h => h) ?_
  refine ja_l 1 (lo_l (ly_mv rfl) (hd 29 rfl)) rfl (by kernel_rfl) (by kernel_rfl) (by kernel_rfl) (fun _ _ _ _ h => h) ?_
  refine ja_l 2 (lo_l (ly_quo rfl rfl (by omega) (r := x / d) (by show IntKind.u64.wrap (Int.tdiv x d) = _; rw [Int.tdiv_eq_ediv_of_nonneg hx0]; exact wrap_u64 (Int.ediv_nonneg hx0 (by omega)) (Int.lt_of_le_of_lt (Int.ediv_le_self d hx0) hx))) (hd 30 rfl)) rfl (by kernel_rfl) (by kernel_rfl) (by kernel_rfl) (fun _ _ _ _ h => h) ?_
  refine ja_l 3 (lo_l (ly_mv rfl) (hd 31 rfl)) rfl (by kernel_rfl) (by kernel_rfl) (by kernel_rfl) (fun _ _ _ _ h => h) ?_
  refine ja_l 4 (lo_l (ly_mv rfl) (hd 32 rfl)) rfl (by kernel_rfl) (by kernel_rfl) (by kernel_rfl) (fun _ _ _ _ h => h) ?_
  refine ja_l 5 (lo_l (ly_is (ly_rem rfl rfl (by omega) rfl) (show V.i .u64 (x.tmod d) = V.i .u64 (x % d) by rw [Int.tmod_eq_emod_of_nonneg hx0])) (hd 33 rfl)) rfl (by kernel_rfl) (by kernel_rfl) (by kernel_rfl) (fun _ _ _ _ h => h) ?_
  refine ja_l 6 (lo_l (ly_as rfl) (hd 6 rfl)) rfl (by kernel_rfl) (by kernel_rfl) (by kernel_rfl) (fun _ _ _ _ h => h) ?_
  refine ja_l 7 (lo_l (ly_as rfl) (hd 7 rfl)) rfl (by kernel_rfl) (by kernel_rfl) (by kernel_rfl) (fun _ _ _ _ h => h) ?_
  refine ja_nil (by kernel_rfl) ?_
  refine jc_ret ?_
  refine ⟨_, _, (.cons rfl (.cons rfl .nil)), (.t1 .i (.t1 .i .t0)), ?_⟩
  exact rfl

set_option maxHeartbeats 4000000 in
theorem divide_1 (x d : Int) (hx0 : 0 ≤ x) (hx : x < 18446744073709551616) (hd0 : 0 < d) (hdm : d < 18446744073709551616) (hle : d ≤ x) : Spec Try.prog 93 [.n false .u64 [x], .n false .u64 [d]] (fun o => o = .ret (.t [.n true .u64 (trm [x / d]), .n true .u64 (if x % d = 0 then [] else [x % d])])) := by
  refine spec_of' [(0, .n false .u64 [x]), (1, .n false .u64 [d])] rfl Try.func93 rfl (Nat.le_of_ble_eq_true rfl) fun Γ hN hds hL hR => ?_
  have hd : ∀ d, Nat.blt d 104 = true → d < Γ.N := fun d h => by rw [hN]; exact Nat.le_of_ble_eq_true h
  have hcm : ¬ cmpL (trm [x]) (trm [d]) < 0 := by rw [trm1 (by omega), trm1 (by omega)]; exact cmp1 hle
  refine jc_seq ?_
  refine jc_region ?_
  refine jo_l (ly_as rfl) (hd 4 rfl) ?_
  refine jo_l (ly_as rfl) (hd 5 rfl) ?_
  refine jo_nil ?_
  refine jc_seq ?_
  refine jc_seq ?_
  refine jc_region ?_
  refine jo_l (ly_mv rfl) (hd 15 rfl) ?_
  refine jo_l (ly_mv rfl) (hd 16 rfl) ?_
  refine jo_call Try.f72 (Compare_s [x] [d] (by simp) (by simp)) rfl Try.func72 rfl rfl (ovL_cons rfl (ovL_cons rfl ovL_nil)) (.cons .n (.cons .n .nil)) (hd 17 rfl) ?_ (fun ch hp => by simp at hp)
  rintro y hy; injection hy with hy; subst hy
  refine jo_l (ly_ff (ly_lt rfl rfl) hcm) (hd 18 rfl) ?_
  refine jo_nil ?_
  refine jc_litf rfl ?_
  refine jc_skip ?_
  refine jc_seq ?_
  refine jc_seq ?_
  refine jc_region ?_
  refine jo_l (ly_mv rfl) (hd 20 rfl) ?_
  refine jo_l (ly_lenn sl28 rfl) (hd 21 rfl) ?_
  refine jo_l (ly_tt (ly_eq rfl rfl) rfl) (hd 22 rfl) ?_
  refine jo_nil ?_
  refine jc_litt rfl ?_
  refine jc_seq ?_
  refine jc_region ?_
  refine jo_l (ly_mv rfl) (hd 23 rfl) ?_
  refine jo_l (ly_lenn sl28 rfl) (hd 24 rfl) ?_
  refine jo_h (hy_mk (m := 1) el28 rfl rfl rfl (by decide) (by decide) rfl) (hd 25 rfl) ?_
  refine jo_l (ly_as rfl) (hd 6 rfl) ?_
  refine jo_l (ly_as rfl) (hd 7 rfl) ?_
  refine jo_nil ?_
  refine jc_seq ?_
  refine jc_seq ?_
  refine jc_region ?_
  refine jo_l (ly_mv rfl) (hd 26 rfl) ?_
  refine jo_l (ly_lenn sl28 rfl) (hd 27 rfl) ?_
  refine jo_l (ly_sub rfl rfl (r := 0) rfl) (hd 28 rfl) ?_
  refine jo_l (ly_as rfl) (hd 8 rfl) ?_
  refine jo_nil ?_
  refine jc_block ?_
  refine jc_loopF (G := Nat) (fun g => g ≤ 1) (fun g => [(7, .i .u64 (if g = 1 then 0 else x % d)), (8, .i .i64 ((g : Int) - 1)), (29, .u), (30, .u), (31, .u), (32, .u), (33, .u), (34, .u), (35, .u), (36, .u), (37, .u), (38, .u), (39, .u), (40, .u), (41, .u), (42, .u), (43, .u), (44, .u), (45, .u), (46, .u), (47, .u)]) (fun g => [⟨82, 1, 0, true, ints .u64 [if g = 1 then 0 else x / d]⟩]) (fun g => g) 1 ?_ ?_ rfl ?_
  · exact Nat.le_refl _
  · exact (.cons rfl (.cons rfl (.u (.u (.u (.u (.u (.u (.u (.u (.u (.u (.u (.u (.u (.u (.u (.u (.u (.u (.u .nil)))))))))))))))))))))
  · rintro k hc1
    refine jc_seq ?_
    refine jc_seq ?_
    refine jc_region ?_
    refine jo_l (ly_mv rfl) (hd 29 rfl) ?_
    refine jo_l (ly_ge rfl rfl) (hd 30 rfl) ?_
    refine jo_nil ?_
    refine jc_if rfl (fun h3 => ?_) (fun h3 => ?_)
    · obtain rfl : k = 1 := by omega
      refine jc_skip ?_
      refine jc_seq ?_
      refine jc_block ?_
      refine jc_draw (n := 17) _ rfl mixed ?_
      refine ja_l 0 (lo_l (ly_mv rfl) (hd 34 rfl)) rfl (by kernel_rfl) (by kernel_rfl) (by kernel_rfl) (fun _ _ _ _ h => h) ?_
      refine ja_l 1 (lo_l (ly_mv rfl) (hd 35 rfl)) rfl (by kernel_rfl) (by kernel_rfl) (by kernel_rfl) (fun _ _ _ _ h => h) ?_
      refine ja_l2 2 [10, 11, 12, 13, 14, 15, 16] (lo_l (ly_mv rfl) (hd 36 rfl)) rfl (by kernel_rfl) (by kernel_rfl) (by kernel_rfl) (by kernel_rfl) (fun _ _ _ _ h => h) ?_
      refine ja_l2 3 [5, 6, 10, 11, 12, 13, 14, 15, 16] (lo_l (ly_mv rfl) (hd 37 rfl)) rfl (by kernel_rfl) (by kernel_rfl) (by kernel_rfl) (by kernel_rfl) (fun _ _ _ _ h => h) ?_
      refine ja_l2 4 [5, 6, 10, 11, 12, 13, 14, 15, 16] (lo_l (ly_mv rfl) (hd 38 rfl)) rfl (by kernel_rfl) (by kernel_rfl) (by kernel_rfl) (by kernel_rfl) (fun _ _ _ _ h => h) ?_
      refine ja_l2 5 [6, 10, 11, 12, 13, 14, 15, 16] (lo_l (ly_ian (i := 0) sl28 rfl rfl rfl (by simp)) (hd 39 rfl)) rfl (by kernel_rfl) (by kernel_rfl) (by kernel_rfl) (by kernel_rfl) (fun _ _ _ _ h => h) ?_
      refine ja_l2 6 [10, 11, 12, 13, 14, 15, 16] (lo_l (ly_ldq one82 rfl rfl) (hd 40 rfl)) rfl (by kernel_rfl) (by kernel_rfl) (by kernel_rfl) (by kernel_rfl) (fun _ _ _ _ h => h) ?_
      refine ja_l2 7 [8, 9, 10, 11, 12, 13, 14, 15, 16] (lo_l (ly_mv rfl) (hd 41 rfl)) rfl (by kernel_rfl) (by kernel_rfl) (by kernel_rfl) (by kernel_rfl) (fun _ _ _ _ h => h) ?_
      refine ja_l2 8 [9, 10, 11, 12, 13, 14, 15, 16] (lo_l (ly_ian (i := 0) sl28 rfl rfl rfl (by simp)) (hd 42 rfl)) rfl (by kernel_rfl) (by kernel_rfl) (by kernel_rfl) (by kernel_rfl) (fun _ _ _ _ h => h) ?_
      refine ja_l2 9 [10, 11, 12, 13, 14, 15, 16] (lo_l (ly_ldq one82 rfl rfl) (hd 43 rfl)) rfl (by kernel_rfl) (by kernel_rfl) (by kernel_rfl) (by kernel_rfl) (fun _ _ _ _ h => h) ?_
      refine ja_1 10 ?_ rfl (by kernel_rfl)
      refine js_call Try.f107 (Div64_0 x d hx0 hx hd0 hdm) rfl Try.func107 rfl rfl (ovL_cons rfl (ovL_cons rfl (ovL_cons rfl ovL_nil))) (.cons .i (.cons .i (.cons .i .nil))) (hd 44 rfl) ?_ (fun ch hp => by simp at hp)
      rintro y hy; injection hy with hy; subst hy
      refine ja_l 11 (lo_l (ly_mv rfl) (hd 33 rfl)) rfl (by kernel_rfl) (by kernel_rfl) (by kernel_rfl) (fun _ _ _ _ h => h) ?_
      refine ja_l 12 (lo_l (ly_ext rfl rfl) (hd 45 rfl)) rfl (by kernel_rfl) (by kernel_rfl) (by kernel_rfl) (fun _ _ _ _ h => h) ?_
      refine ja_l 13 (lo_ext rfl rfl (hd 46 rfl)) rfl (by kernel_rfl) (by kernel_rfl) (by kernel_rfl) (fun _ _ _ _ h => h) ?_
      refine ja_l 14 (lo_l (ly_ia (i := 0) sl28 rfl rfl rfl rfl (Nat.le_refl 1) rfl) (hd 47 rfl)) rfl (by kernel_rfl) (by kernel_rfl) (by kernel_rfl) (fun _ _ _ _ h => h) ?_
      refine ja_1 15 ?_ rfl (by kernel_rfl)
      refine js_st (sy_storei rfl rfl rfl one82 (Nat.le_refl 1)) rfl ?_
      refine ja_l 16 (lo_l (ly_as rfl) (hd 7 rfl)) rfl (by kernel_rfl) (by kernel_rfl) (by kernel_rfl) (fun _ _ _ _ h => h) ?_
      refine ja_nil (by kernel_rfl) ?_
      refine jc_region ?_
      refine jo_l (ly_mv rfl) (hd 31 rfl) ?_
      refine jo_l (ly_sub rfl rfl (wrap_i64 (by omega) (by omega))) (hd 32 rfl) ?_
      refine jo_l (ly_as rfl) (hd 8 rfl) ?_
      refine jo_nil ?_
      refine ⟨0, ?_, ?_, rfl, cov_n 42 rfl rfl ?_⟩
      · exact Nat.zero_le _
      · exact Nat.zero_lt_succ _
      · exact (.cons rfl (.cons rfl (.u (.u (.u (.u (.u (.u (.u (.u (.u (.u (.u (.u (.u (.u (.u (.u (.u (.u (.u .nil)))))))))))))))))))))
    · obtain rfl : k = 0 := by omega
      refine jc_exit ?_
      refine jc_seq ?_
      refine jc_region ?_
      refine jo_frz (k := .u64) (l := [x / d]) (l' := [x / d]) 6 rfl rfl (Nat.le_refl _) rfl hL ?_
      refine jo_l (ly_mv rfl) (hd 48 rfl) ?_
      refine jo_call Try.f86 (Norm_s [x / d] (by simp)) rfl Try.func86 rfl rfl (ovL_cons rfl ovL_nil) (.cons .n .nil) (hd 49 rfl) ?_ (fun ch hp => by simp at hp)
      rintro y hy; injection hy with hy; subst hy
      refine jo_l (ly_mv rfl) (hd 50 rfl) ?_
      refine jo_call Try.f70 (From_s (x % d)) rfl Try.func70 rfl rfl (ovL_cons rfl ovL_nil) (.cons .i .nil) (hd 51 rfl) ?_ (fun ch hp => by simp at hp)
      rintro y hy; injection hy with hy; subst hy
      refine jo_l (ly_as rfl) (hd 4 rfl) ?_
      refine jo_l (ly_as rfl) (hd 5 rfl) ?_
      refine jo_nil ?_
      refine jc_ret ?_
      refine ⟨_, _, (.cons rfl (.cons rfl .nil)), (.t1 .n (.t1 .n .t0)), ?_⟩
      exact rfl
end Go.Proofs.Ytcdipmjgpimmdaa.Vc

/- Contracts of div.Both for one limb each; whole.norm, fits, result, Of. -/
set_option linter.unusedVariables false
set_option linter.unusedSimpArgs false
namespace Go.Proofs.Ytcdipmjgpimmdaa.Vc
open Go Go.RowKit
set_option maxHeartbeats 4000000 in
theorem Both_1 (x d : Int) (hx0 : 0 ≤ x) (hx : x < 18446744073709551616) (hd0 : 0 < d) (hdm : d < 18446744073709551616) (hle : d ≤ x) : Spec Try.prog 81 [.n false .u64 [x], .n false .u64 [d]] (fun o => o = .ret (.t [.n true .u64 (trm [x / d]), .n true .u64 (if x % d = 0 then [] else [x % d]), .i .i64 0])) := by
  refine spec_of' [(0, .n false .u64 [x]), (1, .n false .u64 [d])] rfl Try.func81 rfl (Nat.le_of_ble_eq_true rfl) fun Γ hN hds hL hR => ?_
  have hd : ∀ d, Nat.blt d 32 = true → d < Γ.N := fun d h => by rw [hN]; exact Nat.le_of_ble_eq_true h
  have ex : trm [x] = [x] := trm1 (by omega)
  have ed : trm [d] = [d] := trm1 (by omega)
  have rx : Spec Try.prog 86 [.n false .u64 [x]] (fun o => o = .ret (.n true .u64 [x])) := by have h := Norm_s [x] (by simp); rwa [ex] at h
  have rd : Spec Try.prog 86 [.n false .u64 [d]] (fun o => o = .ret (.n true .u64 [d])) := by have h := Norm_s [d] (by simp); rwa [ed] at h
  have hq := u64s1 (v := x / d) (Int.ediv_nonneg hx0 (by omega)) (Int.lt_of_le_of_lt (Int.ediv_le_self d hx0) hx)
  have hm1 := trm_len [x / d]
  have hr0 : 0 ≤ x % d := Int.emod_nonneg x (by omega)
  have hr1 : x % d < d := Int.emod_lt_of_pos x hd0
  have hL1 := lenN_le (trm [x / d])
  have hL2 := lenN_le (if x % d = 0 then [] else [x % d])
  have hrl : (if x % d = 0 then [] else [x % d] : List Int).length ≤ 1 := by split <;> simp
  have hru : u64s (if x % d = 0 then [] else [x % d]) := by
    split
    · intro y hy; cases hy
    · exact u64s1 hr0 (by omega)
  simp only [List.length_singleton] at hm1
  refine jc_seq ?_
  refine jc_region ?_
  refine jo_l (ly_as rfl) (hd 4 rfl) ?_
  refine jo_l (ly_as rfl) (hd 5 rfl) ?_
  refine jo_l (ly_as rfl) (hd 6 rfl) ?_
  refine jo_nil ?_
  refine jc_seq ?_
  refine jc_region ?_
  refine jo_l (ly_mv rfl) (hd 9 rfl) ?_
  refine jo_call Try.f86 (rx) rfl Try.func86 rfl rfl (ovL_cons rfl ovL_nil) (.cons .n .nil) (hd 10 rfl) ?_ (fun ch hp => by simp at hp)
  rintro y hy; injection hy with hy; subst hy
  refine jo_l (ly_mv rfl) (hd 11 rfl) ?_
  refine jo_call Try.f86 (rd) rfl Try.func86 rfl rfl (ovL_cons rfl ovL_nil) (.cons .n .nil) (hd 12 rfl) ?_ (fun ch hp => by simp at hp)
  rintro y hy; injection hy with hy; subst hy
  refine jo_l (ly_as rfl) (hd 0 rfl) ?_
  refine jo_l (ly_as rfl) (hd 1 rfl) ?_
  refine jo_nil ?_
  refine jc_seq ?_
  refine jc_seq ?_
  refine jc_region ?_
  refine jo_l (ly_mv rfl) (hd 13 rfl) ?_
  refine jo_l (ly_lenn sl28 rfl) (hd 14 rfl) ?_
  refine jo_l (ly_ff (ly_eq rfl rfl) (by simp)) (hd 15 rfl) ?_
  refine jo_nil ?_
  refine jc_litf rfl ?_
  refine jc_skip ?_
  refine jc_seq ?_
  refine jc_region ?_
  refine jo_l (ly_mv rfl) (hd 17 rfl) ?_
  refine jo_l (ly_mv rfl) (hd 18 rfl) ?_
  refine jo_call Try.f93 (divide_1 x d hx0 hx hd0 hdm hle) rfl Try.func93 rfl rfl (ovL_cons rfl (ovL_cons rfl ovL_nil)) (.cons .n (.cons .n .nil)) (hd 19 rfl) ?_ (fun ch hp => by simp at hp)
  rintro y hy; injection hy with hy; subst hy
  refine jo_l (ly_mv rfl) (hd 16 rfl) ?_
  refine jo_l (ly_ext rfl rfl) (hd 20 rfl) ?_
  refine jo_l (ly_ext rfl rfl) (hd 21 rfl) ?_
  refine jo_l (ly_as rfl) (hd 7 rfl) ?_
  refine jo_l (ly_as rfl) (hd 8 rfl) ?_
  refine jo_nil ?_
  refine jc_seq ?_
  refine jc_seq ?_
  refine jc_region ?_
  refine jo_l (ly_mv rfl) (hd 22 rfl) ?_
  refine jo_call Try.f66 (Length_s (trm [x / d]) (by omega) (u64s_trm hq)) rfl Try.func66 rfl rfl (ovL_cons rfl ovL_nil) (.cons .n .nil) (hd 23 rfl) ?_ (fun ch hp => by simp at hp)
  rintro y hy; injection hy with hy; subst hy
  refine jo_l (ly_ff (ly_gt rfl rfl) (by omega)) (hd 24 rfl) ?_
  refine jo_l (ly_mv rfl) (hd 25 rfl) ?_
  refine jo_g 25 rfl rfl (ly_mv rfl) (hd 26 rfl) ?_
  refine jo_callg Try.f66 25 rfl rfl (Length_s _ (by omega) hru) rfl Try.func66 rfl rfl (ovL_cons rfl ovL_nil) (.cons .n .nil) (hd 27 rfl) ?_ (fun ch hp => by simp at hp)
  rintro y hy; injection hy with hy; subst hy
  refine jo_g 25 rfl rfl (ly_ff (ly_gt rfl rfl) (by omega)) (hd 28 rfl) ?_
  refine jo_l (ly_pick_f rfl rfl) (hd 29 rfl) ?_
  refine jo_nil ?_
  refine jc_litf rfl ?_
  refine jc_skip ?_
  refine jc_seq ?_
  refine jc_region ?_
  refine jo_l (ly_mv rfl) (hd 30 rfl) ?_
  refine jo_l (ly_mv rfl) (hd 31 rfl) ?_
  refine jo_l (ly_as rfl) (hd 4 rfl) ?_
  refine jo_l (ly_as rfl) (hd 5 rfl) ?_
  refine jo_l (ly_as rfl) (hd 6 rfl) ?_
  refine jo_nil ?_
  refine jc_ret ?_
  refine ⟨_, _, (.cons rfl (.cons rfl (.cons rfl .nil))), (.t1 .n (.t1 .n (.t1 .i .t0))), ?_⟩
  exact rfl

set_option maxHeartbeats 4000000 in
theorem norm_s (s : Bool) (l : List Int) (hl : l.length < 1099511627776) : Spec Try.prog 73 [.a [.b s, .n false .u64 l]] (fun o => o = .ret (.a [.b (s && decide (0 < ((trm l).length : Int))), .n true .u64 (trm l)])) := by
  refine spec_of' [(0, .a [.b s, .n false .u64 l])] rfl Try.func73 rfl (Nat.le_of_ble_eq_true rfl) fun Γ hN hds hL hR => ?_
  have hd : ∀ d, Nat.blt d 16 = true → d < Γ.N := fun d h => by rw [hN]; exact Nat.le_of_ble_eq_true h
  refine jc_seq ?_
  refine jc_region ?_
  refine jo_h (hy_box (id := 0) (n := 2) rfl rfl rfl (by decide) rfl) (hd 1 rfl) ?_
  refine jo_h (hy_alloc (id := 1) zero30 (by decide) rfl (by decide) rfl) (hd 2 rfl) ?_
  refine jo_nil ?_
  refine jc_seq ?_
  refine jc_region ?_
  refine jo_l (ly_fa fld30_1 rfl rfl rfl) (hd 4 rfl) ?_
  refine jo_l (ly_ld one28 rfl rfl rfl) (hd 5 rfl) ?_
  refine jo_call Try.f86 (Norm_s l hl) rfl Try.func86 rfl rfl (ovL_cons rfl ovL_nil) (.cons .n .nil) (hd 6 rfl) ?_ (fun ch hp => by simp at hp)
  rintro y hy; injection hy with hy; subst hy
  refine jo_l (ly_as rfl) (hd 3 rfl) ?_
  refine jo_nil ?_
  refine jc_seq ?_
  refine jc_region ?_
  refine jo_l (ly_fa fld30_0 rfl rfl rfl) (hd 7 rfl) ?_
  refine jo_l (ly_ld one4 rfl rfl rfl) (hd 8 rfl) ?_
  refine jo_l (ly_mv rfl) (hd 9 rfl) ?_
  refine jo_split 9 rfl (fun h1 => ?_) (fun h1 => ?_)
  · refine jo_g 9 rfl rfl (ly_mv rfl) (hd 10 rfl) ?_
    refine jo_g 9 rfl rfl (ly_lenn sl28 rfl) (hd 11 rfl) ?_
    refine jo_g 9 rfl rfl (ly_gt rfl rfl) (hd 12 rfl) ?_
    refine jo_l (ly_pick_t rfl rfl) (hd 13 rfl) ?_
    refine jo_l (ly_mv rfl) (hd 14 rfl) ?_
    refine jo_l (ly_build (is := [0, 1]) (xs := [.tmp 13, .tmp 14]) zero30 pls30_0_1 rfl (ovL_cons rfl (ovL_cons rfl ovL_nil)) rfl (by first | (simp [plsOk, cellsV]; done) | (simp [plsOk, cellsV, old]; done)) (all_of rfl) rfl) (hd 15 rfl) ?_
    refine jo_st (sy_store rfl rfl rfl siz30 rfl rfl (Nat.le_of_ble_eq_true rfl)) ?_
    refine jo_nil ?_
    refine jc_ret ?_
    refine ⟨_, _, (.cons (ResV.cell agg30 rfl rfl rfl rfl) .nil), (.a1 .b (.a1 .n .a0)), ?_⟩
    simp_all
  · refine jo_s 9 rfl rfl rfl (hd 10 rfl) ?_
    refine jo_s 9 rfl rfl rfl (hd 11 rfl) ?_
    refine jo_s 9 rfl rfl rfl (hd 12 rfl) ?_
    refine jo_l (ly_pick_f rfl rfl) (hd 13 rfl) ?_
    refine jo_l (ly_mv rfl) (hd 14 rfl) ?_
    refine jo_l (ly_build (is := [0, 1]) (xs := [.tmp 13, .tmp 14]) zero30 pls30_0_1 rfl (ovL_cons rfl (ovL_cons rfl ovL_nil)) rfl (by first | (simp [plsOk, cellsV]; done) | (simp [plsOk, cellsV, old]; done)) (all_of rfl) rfl) (hd 15 rfl) ?_
    refine jo_st (sy_store rfl rfl rfl siz30 rfl rfl (Nat.le_of_ble_eq_true rfl)) ?_
    refine jo_nil ?_
    refine jc_ret ?_
    refine ⟨_, _, (.cons (ResV.cell agg30 rfl rfl rfl rfl) .nil), (.a1 .b (.a1 .n .a0)), ?_⟩
    simp_all

set_option maxHeartbeats 4000000 in
theorem fits_ok (s : Bool) (l : List Int) (hl : l.length < 1099511627776) (hu : u64s l) (h : lenN l ≤ 67108864) : Spec Try.prog 69 [.a [.b s, .n false .u64 l]] (fun o => o = .ret (.t [.a [.b (s && decide (0 < ((trm l).length : Int))), .n true .u64 (trm l)], .i .i64 0])) := by
  refine spec_of' [(0, .a [.b s, .n false .u64 l])] rfl Try.func69 rfl (Nat.le_of_ble_eq_true rfl) fun Γ hN hds hL hR => ?_
  have hd : ∀ d, Nat.blt d 11 = true → d < Γ.N := fun d h => by rw [hN]; exact Nat.le_of_ble_eq_true h
  refine jc_seq ?_
  refine jc_region ?_
  refine jo_h (hy_box (id := 0) (n := 2) rfl rfl rfl (by decide) rfl) (hd 1 rfl) ?_
  refine jo_h (hy_alloc (id := 1) zero30 (by decide) rfl (by decide) rfl) (hd 2 rfl) ?_
  refine jo_l (ly_as rfl) (hd 3 rfl) ?_
  refine jo_nil ?_
  refine jc_seq ?_
  refine jc_seq ?_
  refine jc_region ?_
  refine jo_l (ly_fa fld30_1 rfl rfl rfl) (hd 4 rfl) ?_
  refine jo_l (ly_ld one28 rfl rfl rfl) (hd 5 rfl) ?_
  refine jo_call Try.f66 (Length_s l hl hu) rfl Try.func66 rfl rfl (ovL_cons rfl ovL_nil) (.cons .n .nil) (hd 6 rfl) ?_ (fun ch hp => by simp at hp)
  rintro y hy; injection hy with hy; subst hy
  refine jo_l (ly_ff (ly_gt rfl rfl) (by omega)) (hd 7 rfl) ?_
  refine jo_nil ?_
  refine jc_litf rfl ?_
  refine jc_skip ?_
  refine jc_seq ?_
  refine jc_region ?_
  refine jo_l (ly_lda agg30 rfl rfl rfl rfl) (hd 9 rfl) ?_
  refine jo_call Try.f73 (norm_s s l hl) rfl Try.func73 rfl rfl (ovL_cons rfl ovL_nil) (.cons (.a1 .b (.a1 .n .a0)) .nil) (hd 10 rfl) ?_ (fun ch hp => by simp at hp)
  rintro y hy; injection hy with hy; subst hy
  refine jo_st (sy_store rfl rfl rfl siz30 rfl rfl (Nat.le_of_ble_eq_true rfl)) ?_
  refine jo_l (ly_as rfl) (hd 3 rfl) ?_
  refine jo_nil ?_
  refine jc_ret ?_
  refine ⟨_, _, (.cons (ResV.cell agg30 rfl rfl rfl rfl) (.cons rfl .nil)), (.t1 (.a1 .b (.a1 .n .a0)) (.t1 .i .t0)), ?_⟩
  exact rfl

set_option maxHeartbeats 4000000 in
theorem result_ok (s : Bool) (l : List Int) (hl : l.length < 1099511627776) (hu : u64s l) (h : lenN l ≤ 67108864) : Spec Try.prog 75 [.b s, .n false .u64 l, .i .i64 0] (fun o => o = .ret (.t [.a [.b (s && decide (0 < ((trm l).length : Int))), .n true .u64 (trm l)], .i .i64 0])) := by
  refine spec_of' [(0, .b s), (1, .n false .u64 l), (2, .i .i64 0)] rfl Try.func75 rfl (Nat.le_of_ble_eq_true rfl) fun Γ hN hds hL hR => ?_
  have hd : ∀ d, Nat.blt d 18 = true → d < Γ.N := fun d h => by rw [hN]; exact Nat.le_of_ble_eq_true h
  refine jc_seq ?_
  refine jc_region ?_
  refine jo_h (hy_alloc (id := 0) zero30 (by decide) rfl (by decide) rfl) (hd 6 rfl) ?_
  refine jo_l (ly_as rfl) (hd 7 rfl) ?_
  refine jo_nil ?_
  refine jc_seq ?_
  refine jc_seq ?_
  refine jc_region ?_
  refine jo_l (ly_mv rfl) (hd 8 rfl) ?_
  refine jo_l (ly_ff (ly_ne rfl rfl) (by simp)) (hd 9 rfl) ?_
  refine jo_nil ?_
  refine jc_litf rfl ?_
  refine jc_skip ?_
  refine jc_seq ?_
  refine jc_region ?_
  refine jo_l (ly_mv rfl) (hd 12 rfl) ?_
  refine jo_l (ly_mv rfl) (hd 13 rfl) ?_
  refine jo_l (ly_build (is := [0, 1]) (xs := [.tmp 12, .tmp 13]) zero30 pls30_0_1 rfl (ovL_cons rfl (ovL_cons rfl ovL_nil)) rfl (by first | (simp [plsOk, cellsV]; done) | (simp [plsOk, cellsV, old]; done)) (all_of rfl) rfl) (hd 14 rfl) ?_
  refine jo_call Try.f69 (fits_ok s l hl hu h) rfl Try.func69 rfl rfl (ovL_cons rfl ovL_nil) (.cons (.a1 .b (.a1 .n .a0)) .nil) (hd 15 rfl) ?_ (fun ch hp => by simp at hp)
  rintro y hy; injection hy with hy; subst hy
  refine jo_l (ly_ext rfl rfl) (hd 16 rfl) ?_
  refine jo_l (ly_ext rfl rfl) (hd 17 rfl) ?_
  refine jo_st (sy_store rfl rfl rfl siz30 rfl rfl (Nat.le_of_ble_eq_true rfl)) ?_
  refine jo_l (ly_as rfl) (hd 7 rfl) ?_
  refine jo_nil ?_
  refine jc_ret ?_
  refine ⟨_, _, (.cons (ResV.cell agg30 rfl rfl rfl rfl) (.cons rfl .nil)), (.t1 (.a1 .b (.a1 .n .a0)) (.t1 .i .t0)), ?_⟩
  exact rfl

set_option maxHeartbeats 4000000 in
theorem Of_neg (v : Int) (h0 : v < 0) (h1 : -9223372036854775808 ≤ v) : Spec Try.prog 43 [.i .i64 v] (fun o => o = .ret (.a [.b true, .n true .u64 [-v]])) := by
  refine spec_of' [(0, .i .i64 v)] rfl Try.func43 rfl (Nat.le_of_ble_eq_true rfl) fun Γ hN hds hL hR => ?_
  have hd : ∀ d, Nat.blt d 14 = true → d < Γ.N := fun d h => by rw [hN]; exact Nat.le_of_ble_eq_true h
  have rF : Spec Try.prog 70 [.i .u64 (-v)] (fun o => o = .ret (.n true .u64 [-v])) := by have h := From_s (-v); rwa [if_neg (by omega)] at h
  refine jc_seq ?_
  refine jc_region ?_
  refine jo_h (hy_alloc (id := 0) zero30 (by decide) rfl (by decide) rfl) (hd 2 rfl) ?_
  refine jo_nil ?_
  refine jc_seq ?_
  refine jc_seq ?_
  refine jc_region ?_
  refine jo_l (ly_mv rfl) (hd 3 rfl) ?_
  refine jo_l (ly_tt (ly_lt rfl rfl) (by omega)) (hd 4 rfl) ?_
  refine jo_nil ?_
  refine jc_litt rfl ?_
  refine jc_seq ?_
  refine jc_region ?_
  refine jo_l (ly_mv rfl) (hd 5 rfl) ?_
  refine jo_l (ly_conv und3 und82 rfl (r := v + 18446744073709551616) (wrap_u64' (by omega) (by omega) (by omega))) (hd 6 rfl) ?_
  refine jo_l (ly_neg rfl (r := -v) (wrap_u64' (by omega) (by omega) (by omega))) (hd 7 rfl) ?_
  refine jo_call Try.f70 (rF) rfl Try.func70 rfl rfl (ovL_cons rfl ovL_nil) (.cons .i .nil) (hd 8 rfl) ?_ (fun ch hp => by simp at hp)
  rintro y hy; injection hy with hy; subst hy
  refine jo_l (ly_build (is := [0, 1]) (xs := [.const (.bool true), .tmp 8]) zero30 pls30_0_1 rfl (ovL_cons rfl (ovL_cons rfl ovL_nil)) rfl (by first | (simp [plsOk, cellsV]; done) | (simp [plsOk, cellsV, old]; done)) (all_of rfl) rfl) (hd 9 rfl) ?_
  refine jo_st (sy_store rfl rfl rfl siz30 rfl rfl (Nat.le_of_ble_eq_true rfl)) ?_
  refine jo_nil ?_
  refine jc_ret ?_
  refine ⟨_, _, (.cons (ResV.cell agg30 rfl rfl rfl rfl) .nil), (.a1 .b (.a1 .n .a0)), ?_⟩
  exact rfl

set_option maxHeartbeats 4000000 in
theorem Of_pos (v : Int) (h0 : 0 < v) (h1 : v < 9223372036854775808) : Spec Try.prog 43 [.i .i64 v] (fun o => o = .ret (.a [.b false, .n true .u64 [v]])) := by
  refine spec_of' [(0, .i .i64 v)] rfl Try.func43 rfl (Nat.le_of_ble_eq_true rfl) fun Γ hN hds hL hR => ?_
  have hd : ∀ d, Nat.blt d 14 = true → d < Γ.N := fun d h => by rw [hN]; exact Nat.le_of_ble_eq_true h
  have rF : Spec Try.prog 70 [.i .u64 v] (fun o => o = .ret (.n true .u64 [v])) := by have h := From_s v; rwa [if_neg (by omega)] at h
  refine jc_seq ?_
  refine jc_region ?_
  refine jo_h (hy_alloc (id := 0) zero30 (by decide) rfl (by decide) rfl) (hd 2 rfl) ?_
  refine jo_nil ?_
  refine jc_seq ?_
  refine jc_seq ?_
  refine jc_region ?_
  refine jo_l (ly_mv rfl) (hd 3 rfl) ?_
  refine jo_l (ly_ff (ly_lt rfl rfl) (by omega)) (hd 4 rfl) ?_
  refine jo_nil ?_
  refine jc_litf rfl ?_
  refine jc_skip ?_
  refine jc_seq ?_
  refine jc_region ?_
  refine jo_l (ly_mv rfl) (hd 10 rfl) ?_
  refine jo_l (ly_conv und3 und82 rfl (wrap_u64 (by omega) (by omega))) (hd 11 rfl) ?_
  refine jo_call Try.f70 (rF) rfl Try.func70 rfl rfl (ovL_cons rfl ovL_nil) (.cons .i .nil) (hd 12 rfl) ?_ (fun ch hp => by simp at hp)
  rintro y hy; injection hy with hy; subst hy
  refine jo_l (ly_build (is := [1]) (xs := [.tmp 12]) zero30 pls30_1 rfl (ovL_cons rfl ovL_nil) rfl (by first | (simp [plsOk, cellsV]; done) | (simp [plsOk, cellsV, old]; done)) (all_of rfl) rfl) (hd 13 rfl) ?_
  refine jo_st (sy_store rfl rfl rfl siz30 rfl rfl (Nat.le_of_ble_eq_true rfl)) ?_
  refine jo_nil ?_
  refine jc_ret ?_
  refine ⟨_, _, (.cons (ResV.cell agg30 rfl rfl rfl rfl) .nil), (.a1 .b (.a1 .n .a0)), ?_⟩
  exact rfl
end Go.Proofs.Ytcdipmjgpimmdaa.Vc
