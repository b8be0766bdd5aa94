/- RatioForms: for every rational, every whole number and every int, of bulk at most 1048576, it returns true Texts joined: Nq, Nr, Ns, Nt, Nu, Nw, Nv, Nx, Ny, Nz, Ob, Oc, Od, Wa, Wb, Wc, Wd, We, Wf, Wg, Wh, Wi, Wj, Wk, Wl, Wm, Wn, Wo. -/
import Derived.Test.YtpldmajdiljoaaaK4
set_option linter.unusedVariables false
set_option linter.unusedSimpArgs false
/- Whole numbers divided by five ways, in plain Lean. -/
namespace Go.Proofs.Ytpldmajdiljoaaa.Vc
open Go Go.RowKit

def qn (v w : Int) : Int := (v.natAbs : Int) / w.natAbs
def rn (v w : Int) : Int := (v.natAbs : Int) % w.natAbs
def ng (v w : Int) : Bool := !(decide (v < 0) == decide (w < 0))
def sgd (s : Bool) (m : Int) : Int := if s = true then -m else m
theorem qr_facts {v w : Int} (hw : w ≠ 0) : (v.natAbs : Int) = rn v w + w.natAbs * qn v w ∧ 0 ≤ rn v w ∧ rn v w < w.natAbs ∧ 0 ≤ qn v w := by
  have h0 : (0 : Int) < w.natAbs := by omega
  have e := Int.emod_add_mul_ediv (v.natAbs : Int) w.natAbs
  exact ⟨e.symm, Int.emod_nonneg _ (by omega), Int.emod_lt_of_pos _ h0, Int.ediv_nonneg (by omega) (by omega)⟩
/-- Does the quotient's size grow by 1? -/
def gro (k : Nat) (v w : Int) : Bool :=
  match k with
  | 0 => false
  | 1 => ng v w
  | 2 => !ng v w
  | 3 => decide ((w.natAbs : Int) < 2 * rn v w ∨ (2 * rn v w = w.natAbs ∧ qn v w % 2 = 1))
  | _ => decide (v < 0)
def flo (v w : Int) : Int := if ng v w = true then (if rn v w = 0 then -(qn v w) else -(qn v w) - 1) else qn v w
def cei (v w : Int) : Int := if v - flo v w * w = 0 then flo v w else flo v w + 1
def nea (v w : Int) : Int := if (w.natAbs : Int) < 2 * (v - flo v w * w).natAbs ∨ (2 * ((v - flo v w * w).natAbs : Int) = w.natAbs ∧ (flo v w).natAbs % 2 = 1) then flo v w + 1 else flo v w
/-- The five quotients. -/
def wq (k : Nat) (v w : Int) : Int :=
  match k with
  | 0 => if ng v w = true then cei v w else flo v w
  | 1 => flo v w
  | 2 => cei v w
  | 3 => nea v w
  | _ => if w < 0 then cei v w else flo v w
def frs (v w : Int) : Int := sgd (decide (w < 0)) (if ng v w = true ∧ rn v w ≠ 0 then w.natAbs - rn v w else rn v w)
theorem lenV_mono {v w : Int} (h : v.natAbs ≤ w.natAbs) : lenV v ≤ lenV w := nbits_mono h
theorem qn_le {v w : Int} : (qn v w).natAbs ≤ v.natAbs := by
  have h : qn v w ≤ v.natAbs := Int.ediv_le_self _ (by omega)
  have h0 : 0 ≤ qn v w := Int.ediv_nonneg (by omega) (by omega)
  omega
theorem rn_le {v w : Int} (hw : w ≠ 0) : (rn v w).natAbs ≤ w.natAbs ∧ ((w.natAbs : Int) - rn v w).natAbs ≤ w.natAbs := by
  obtain ⟨hx, h0, h1, h2⟩ := qr_facts (v := v) hw
  omega
theorem lm_ne {v : Int} (h : v ≠ 0) : lm v ≠ [] := fun e => by
  have h1 := lm_v v
  rw [e] at h1
  simp [vl] at h1
  omega

/- The references' shift to the left and division, digit by digit, in plain Lean. -/

theorem take_snoc {l : List Int} {i : Nat} (h : i < l.length) : l.take (i + 1) = l.take i ++ [l.getD i 0] := by
  rw [List.take_add_one, List.getD_eq_getElem?_getD, List.getElem?_eq_getElem h]; rfl
theorem vb_rep (b : Nat) (l : List Int) : ∀ w, vb b (List.replicate w 0 ++ l) = ((b ^ w : Nat) : Int) * vb b l
  | 0 => by simp
  | w + 1 => by
    rw [List.replicate_succ, List.cons_append]
    show (0 : Int) + (b : Int) * vb b (List.replicate w 0 ++ l) = _
    rw [vb_rep b l w, Nat.pow_succ, Int.natCast_mul, Int.zero_add, ← Int.mul_assoc, Int.mul_comm (b : Int)]
theorem rng_rep {b : Nat} (hb : 0 < b) {l : List Int} (h : rng b l) (w : Nat) : rng b (List.replicate w 0 ++ l) := fun x hx => by
  rcases List.mem_append.1 hx with hx | hx
  · rw [List.eq_of_mem_replicate hx]; omega
  · exact h x hx
theorem rng_snoc {b : Nat} {l : List Int} {x : Int} (h : rng b l) (h0 : 0 ≤ x) (h1 : x < (b : Int)) : rng b (l ++ [x]) := fun y hy => by
  rcases List.mem_append.1 hy with hy | hy
  · exact h y hy
  · rw [List.mem_singleton] at hy; subst hy; exact ⟨h0, h1⟩
theorem rng_cons {b : Nat} {l : List Int} {x : Int} (h : rng b l) (h0 : 0 ≤ x) (h1 : x < (b : Int)) : rng b (x :: l) := fun y hy => by
  rcases List.mem_cons.1 hy with rfl | hy
  · exact ⟨h0, h1⟩
  · exact h y hy
/-! ### The shift -/
theorem p32split {s : Nat} (h : s ≤ 32) : (2 : Int) ^ (32 - s) * 2 ^ s = 4294967296 := by
  rw [← Int.pow_add, show 32 - s + s = 32 by omega]; rfl
theorem p32le {s : Nat} (h : s < 32) : (2 : Int) ^ s ≤ 2147483648 := by
  have h1 : (2 : Nat) ^ s ≤ 2 ^ 31 := Nat.pow_le_pow_right (by decide) (by omega)
  have h2 : ((2 ^ s : Nat) : Int) ≤ ((2 ^ 31 : Nat) : Int) := Int.ofNat_le.2 h1
  rw [Int.natCast_pow] at h2
  simpa using h2
def sh32 (l : List Int) (s : Nat) : Nat → List Int × Int
  | 0 => ([], 0)
  | i + 1 => ((sh32 l s i).1 ++ [(sh32 l s i).2 + l.getD i 0 * 2 ^ s % 4294967296], l.getD i 0 * 2 ^ s / 4294967296)
theorem sh32_len (l : List Int) (s : Nat) : ∀ i, (sh32 l s i).1.length = i
  | 0 => rfl
  | i + 1 => by simp [sh32, sh32_len l s i]
theorem sh_prod {l : List Int} {s : Nat} (hs : s < 32) (hl : rng 4294967296 l) (i : Nat) : 0 ≤ l.getD i 0 * 2 ^ s ∧ l.getD i 0 * 2 ^ s ≤ 4294967295 * 2147483648 := by
  have hx := rng_getD (by decide) hl i
  exact ⟨Int.mul_nonneg hx.1 (Int.le_of_lt (p2pos s)), Int.mul_le_mul (by omega) (p32le hs) (Int.le_of_lt (p2pos s)) (by decide)⟩
theorem sh32_c {l : List Int} {s : Nat} (hs : s < 32) (hl : rng 4294967296 l) : ∀ i, 0 ≤ (sh32 l s i).2 ∧ (sh32 l s i).2 < 2 ^ s
  | 0 => ⟨Int.le_refl 0, p2pos s⟩
  | i + 1 => by
    have hx := rng_getD (by decide) hl i
    have hp := sh_prod hs hl i
    refine ⟨Int.ediv_nonneg hp.1 (by decide), Int.ediv_lt_of_lt_mul (by decide) ?_⟩
    rw [Int.mul_comm (2 ^ s)]
    exact Int.mul_lt_mul_of_pos_right hx.2 (p2pos s)
theorem sh_lo {x : Int} {s : Nat} (hs : s ≤ 32) : x * 2 ^ s % 4294967296 = 2 ^ s * (x % 2 ^ (32 - s)) := by
  rw [← p32split hs, Int.mul_comm x, Int.mul_comm (2 ^ (32 - s)) (2 ^ s), Int.mul_emod_mul_of_pos _ _ (p2pos s)]
theorem sh_el {c x : Int} {s : Nat} (hs : s < 32) (hc0 : 0 ≤ c) (hc : c < 2 ^ s) : 0 ≤ c + x * 2 ^ s % 4294967296 ∧ c + x * 2 ^ s % 4294967296 < 4294967296 := by
  have e := p32split (Nat.le_of_lt hs)
  have hx2 : x % 2 ^ (32 - s) < 2 ^ (32 - s) := Int.emod_lt_of_pos _ (p2pos _)
  have h3 : 2 ^ s * (x % 2 ^ (32 - s)) ≤ 2 ^ s * (2 ^ (32 - s) - 1) := Int.mul_le_mul_of_nonneg_left (by omega) (Int.le_of_lt (p2pos s))
  rw [Int.mul_sub, Int.mul_comm (2 ^ s) (2 ^ (32 - s)), e] at h3
  have h4 := Int.emod_nonneg (x * 2 ^ s) (show (4294967296 : Int) ≠ 0 by decide)
  rw [← sh_lo (Nat.le_of_lt hs)] at h3
  omega
theorem sh32_r {l : List Int} {s : Nat} (hs : s < 32) (hl : rng 4294967296 l) : ∀ i, rng 4294967296 (sh32 l s i).1
  | 0 => fun x hx => by simp [sh32] at hx
  | i + 1 => by
    have hc := sh32_c hs hl i
    have h := sh_el (x := l.getD i 0) hs hc.1 hc.2
    exact rng_snoc (sh32_r hs hl i) h.1 h.2
theorem sh32_val {l : List Int} {s : Nat} : ∀ i, i ≤ l.length → vb 4294967296 (sh32 l s i).1 + ((4294967296 ^ i : Nat) : Int) * (sh32 l s i).2 = vb 4294967296 (l.take i) * 2 ^ s
  | 0, _ => by simp [sh32, vb]
  | i + 1, h => by
    have ih := sh32_val (s := s) i (by omega : i ≤ l.length)
    rw [take_snoc (by omega), vb_snoc, List.length_take, Nat.min_eq_left (by omega), Int.add_mul, ← ih]
    simp only [sh32]
    rw [vb_snoc, sh32_len, Int.mul_assoc _ (l.getD i 0)]
    generalize l.getD i 0 * 2 ^ s = x
    generalize (sh32 l s i).2 = c
    rw [Nat.pow_succ, Int.natCast_mul, show ((4294967296 : Nat) : Int) = 4294967296 from rfl]
    generalize ((4294967296 ^ i : Nat) : Int) = p
    have e : x = x % 4294967296 + 4294967296 * (x / 4294967296) := by omega
    have e1 : p * x = p * (x % 4294967296) + p * (4294967296 * (x / 4294967296)) := by rw [← Int.mul_add, ← e]
    rw [e1, Int.mul_add, Int.mul_assoc p]
    omega
/-- The row that the shift fills. -/
def shR (l : List Int) (s w i : Nat) : List Int := List.replicate w 0 ++ fillI ((sh32 l s i).1 ++ [(sh32 l s i).2]) (l.length + 1)
theorem shR_len {l : List Int} {s w i : Nat} (h : i ≤ l.length) : (shR l s w i).length = w + (l.length + 1) := by
  unfold shR
  rw [List.length_append, List.length_replicate, fillI_len (by simp [sh32_len]; omega)]
theorem shR_0 {l : List Int} {s w : Nat} : List.replicate (l.length + w + 1) (0 : Int) = shR l s w 0 := by
  unfold shR fillI
  simp only [sh32, List.nil_append, List.length_singleton]
  rw [show l.length + w + 1 = w + (1 + (l.length + 1 - 1)) by omega, ← List.replicate_append_replicate, ← List.replicate_append_replicate]
  rfl
theorem rep_set {w i : Nat} {l : List Int} {v : Int} : (List.replicate w 0 ++ l).set ((0 + (i + w)) * 1) v = List.replicate w 0 ++ l.set ((0 + i) * 1) v := by
  rw [Nat.mul_one, Nat.mul_one, Nat.zero_add, Nat.zero_add, List.set_append_right _ _ (by simp), List.length_replicate, Nat.add_sub_cancel]
theorem rep_get {w i : Nat} {l : List Int} : (List.replicate w 0 ++ l).getD ((0 + (i + w)) * 1) 0 = l.getD ((0 + i) * 1) 0 := by
  rw [Nat.mul_one, Nat.mul_one, Nat.zero_add, Nat.zero_add, List.getD_eq_getElem?_getD, List.getElem?_append_right (by simp), List.length_replicate, Nat.add_sub_cancel, List.getD_eq_getElem?_getD]
theorem shR_get {l : List Int} {s w i : Nat} : (shR l s w i).getD ((0 + (i + w)) * 1) 0 = (sh32 l s i).2 := by
  unfold shR
  rw [rep_get]
  have h := @get_mid2 (sh32 l s i).1 (sh32 l s i).2 (l.length + 1)
  rw [sh32_len] at h; exact h
theorem shR_set {l : List Int} {s w i : Nat} (h : i < l.length) : ((shR l s w i).set ((0 + (i + w)) * 1) ((sh32 l s i).2 + l.getD i 0 * 2 ^ s % 4294967296)).set ((0 + (i + w + 1)) * 1) (l.getD i 0 * 2 ^ s / 4294967296) = shR l s w (i + 1) := by
  have h1 := @set_mid2 (sh32 l s i).1 (sh32 l s i).2 ((sh32 l s i).2 + l.getD i 0 * 2 ^ s % 4294967296) (l.length + 1)
  rw [sh32_len] at h1
  unfold shR
  rw [rep_set, h1, show i + w + 1 = (i + 1) + w by omega, rep_set]
  congr 1
  have hl : (sh32 l s (i + 1)).1.length = i + 1 := sh32_len l s (i + 1)
  have h2 := @fillI_set (sh32 l s (i + 1)).1 (l.length + 1) (l.getD i 0 * 2 ^ s / 4294967296) (by omega)
  rw [hl] at h2
  rw [Nat.zero_add, Nat.mul_one]
  exact h2
theorem shR_end {x n : Nat} : trm (shR (digs B32 x) (n % 32) (n / 32) (digs B32 x).length) = digs B32 (x * 2 ^ n) := by
  have hr := rng_digs (b := B32) (by decide) x
  have hs : n % 32 < 32 := by omega
  have hc := sh32_c hs hr (digs B32 x).length
  have hp := p32le hs
  have hv := sh32_val (l := digs B32 x) (s := n % 32) (digs B32 x).length (Nat.le_refl _)
  rw [List.take_of_length_le (Nat.le_refl _), vb_digs (b := B32) (by decide)] at hv
  have e : shR (digs B32 x) (n % 32) (n / 32) (digs B32 x).length = List.replicate (n / 32) 0 ++ ((sh32 (digs B32 x) (n % 32) (digs B32 x).length).1 ++ [(sh32 (digs B32 x) (n % 32) (digs B32 x).length).2]) := by
    unfold shR
    rw [fillI_full (by simp [sh32_len])]
  rw [e]
  refine trm_digs (by decide) (rng_rep (by decide) (rng_snoc (sh32_r hs hr _) hc.1 (by show _ < (4294967296 : Int); omega)) _) ?_
  rw [vb_rep, vb_snoc, sh32_len, hv, b32_pow]
  rw [← p2cast, ← Int.natCast_mul, ← Int.natCast_mul]
  congr 1
  rw [Nat.mul_left_comm, ← Nat.pow_add]
  congr 2
  omega
theorem shl_u64 {x : Int} {s : Nat} (hs : s < 32) (h0 : 0 ≤ x) (h1 : x < 4294967296) : IntKind.u64.wrap (x * 2 ^ min ((s : Int)).toNat 64) = x * 2 ^ s := by
  rw [shl_sym (by omega)]
  have h2 : x * 2 ^ s ≤ 4294967295 * 2147483648 := Int.mul_le_mul (by omega) (p32le hs) (Int.le_of_lt (p2pos s)) (by decide)
  have h3 : 0 ≤ x * 2 ^ s := Int.mul_nonneg h0 (Int.le_of_lt (p2pos s))
  omega
/-! ### The division -/
theorem len_yB {z y : Nat} (h : z < y * B32) : (digs B32 z).length ≤ (digs B32 y).length + 1 := by
  refine digs_len (by decide) _ _ (Nat.lt_trans h ?_)
  rw [Nat.pow_succ]
  exact Nat.mul_lt_mul_of_pos_right (lt_digs (by decide) y) (by decide)
theorem len_le {z y : Nat} (h : z ≤ y) : (digs B32 z).length ≤ (digs B32 y).length := digs_mono (by decide) z y h
theorem top_0 {x : Nat} : x / B32 ^ (digs B32 x).length = 0 := Nat.div_eq_of_lt (lt_digs (by decide) x)
theorem dv_digit {x y k : Nat} (hy : 0 < y) (hk : 0 < k) :
    x / B32 ^ (k - 1) / y = B32 * (x / B32 ^ k / y) + (x / B32 ^ k % y * B32 + x / B32 ^ (k - 1) % B32) / y ∧ x / B32 ^ (k - 1) % y = (x / B32 ^ k % y * B32 + x / B32 ^ (k - 1) % B32) % y := by
  obtain ⟨k, rfl⟩ : ∃ m, k = m + 1 := ⟨k - 1, by omega⟩
  rw [Nat.add_sub_cancel]
  have e : x / B32 ^ (k + 1) = x / B32 ^ k / B32 := by rw [Nat.pow_succ, Nat.div_div_eq_div_mul]
  rw [e]
  generalize x / B32 ^ k = X
  have e1 := Nat.mod_add_div X B32
  have e2 := Nat.mod_add_div (X / B32) y
  generalize hd : X % B32 = d at *
  generalize hX : X / B32 = Z at *
  generalize hq : Z / y = q at *
  generalize hr : Z % y = r at *
  have e3 : X = (r * B32 + d) + y * (B32 * q) := by
    have e4 : X = d + B32 * (r + y * q) := by rw [e2]; exact e1.symm
    rw [e4, Nat.mul_add, Nat.mul_left_comm B32 y q, Nat.mul_comm B32 r]
    omega
  rw [e3]
  refine ⟨?_, ?_⟩
  · rw [Nat.add_mul_div_left _ _ hy]; omega
  · rw [Nat.add_mul_mod_self_left]
theorem dv_R {x y k : Nat} (hy : 0 < y) : x / B32 ^ k % y * B32 + x / B32 ^ (k - 1) % B32 < y * B32 := by
  have h1 := Nat.mod_lt (x / B32 ^ k) hy
  have h2 := Nat.mod_lt (x / B32 ^ (k - 1)) (show 0 < B32 by decide)
  generalize x / B32 ^ k % y = r at *
  generalize x / B32 ^ (k - 1) % B32 = d at *
  show r * 4294967296 + d < y * 4294967296
  have : d < 4294967296 := h2
  omega
/-- Bit by bit: t bits of the digit are still to be found. -/
def Hlv (R y t q : Nat) : Prop := t ≤ 32 ∧ y * q ≤ R ∧ R - y * q < y * 2 ^ t ∧ q + 2 ^ t ≤ 4294967296
theorem hlv_0 {R y : Nat} (h : R < y * B32) : Hlv R y 32 0 := ⟨Nat.le_refl _, by rw [Nat.mul_zero]; omega, by rw [Nat.mul_zero]; exact h, by decide⟩
theorem hlv_yes {R y s q : Nat} (h : Hlv R y (s + 1) q) (hc : y * 2 ^ s ≤ R - y * q) : Hlv R y s (q + 2 ^ s) ∧ R - y * q - y * 2 ^ s = R - y * (q + 2 ^ s) := by
  obtain ⟨h1, h2, h3, h4⟩ := h
  rw [Nat.pow_succ, ← Nat.mul_assoc] at h3
  rw [Nat.pow_succ] at h4
  have e : y * (q + 2 ^ s) = y * q + y * 2 ^ s := Nat.mul_add _ _ _
  unfold Hlv
  rw [e]
  generalize y * 2 ^ s = p at *
  generalize y * q = z at *
  generalize 2 ^ s = u at *
  omega
theorem hlv_no {R y s q : Nat} (h : Hlv R y (s + 1) q) (hc : ¬ y * 2 ^ s ≤ R - y * q) : Hlv R y s q := by
  obtain ⟨h1, h2, h3, h4⟩ := h
  rw [Nat.pow_succ] at h4
  exact ⟨by omega, h2, by omega, by omega⟩
theorem hlv_end {R y q : Nat} (h : Hlv R y 0 q) : q = R / y ∧ R - y * q = R % y := by
  obtain ⟨h1, h2, h3, h4⟩ := h
  rw [Nat.pow_zero, Nat.mul_one] at h3
  have hy : 0 < y := by omega
  have e : R = (R - y * q) + y * q := by omega
  refine ⟨?_, ?_⟩
  · conv => rhs; rw [e, Nat.add_mul_div_left _ _ hy, Nat.div_eq_of_lt h3, Nat.zero_add]
  · conv => rhs; rw [e, Nat.add_mul_mod_self_left, Nat.mod_eq_of_lt h3]
theorem hlv_len {R y t q : Nat} (h : R < y * B32) : (digs B32 (R - y * q)).length ≤ (digs B32 y).length + 1 := len_yB (Nat.lt_of_le_of_lt (Nat.sub_le _ _) h)
theorem bit_shl {s : Nat} (hs : s < 32) : IntKind.u64.wrap (1 * 2 ^ min ((s : Int)).toNat 64) = ((2 ^ s : Nat) : Int) := by
  rw [shl_u64 hs (by decide) (by decide), Int.one_mul, p2cast]
theorem pow_s {s : Nat} (hs : s < 32) : 2 ^ s ≤ 2147483648 := Nat.pow_le_pow_right (n := 2) (by decide) (show s ≤ 31 by omega)
theorem len_ys {y s : Nat} (hy : 0 < y) (hs : s < 32) : (digs B32 (y * 2 ^ s)).length ≤ (digs B32 y).length + 1 :=
  len_yB (Nat.mul_lt_mul_of_pos_left (Nat.lt_of_le_of_lt (pow_s hs) (by decide)) hy)
theorem trm_1 {d : Nat} (h : d < B32) : trm [(d : Int)] = digs B32 d := trm_digs (by decide) (fun x hx => by rw [List.mem_singleton] at hx; subst hx; exact ⟨by omega, by exact_mod_cast h⟩) (by simp [vb])
theorem cmp_ge {x y : Nat} (h : y ≤ x) : 0 ≤ cmpI (x : Int) y := by unfold cmpI; (repeat' split) <;> omega
theorem cmp_lt' {x y : Nat} (h : ¬ 0 ≤ cmpI (x : Int) y) : x < y := Nat.lt_of_not_le fun hle => h (cmp_ge hle)
theorem quo32 {n : Nat} (h : n < 4611686018427387904) : IntKind.i64.wrap (Int.tdiv (n : Int) 32) = ((n / 32 : Nat) : Int) := by
  rw [Int.tdiv_eq_ediv_of_nonneg (by omega), wrap_i64 (by omega) (by omega)]; omega
theorem rem32 {n : Nat} : Int.tmod (n : Int) 32 = ((n % 32 : Nat) : Int) := by
  rw [Int.tmod_eq_emod_of_nonneg (by omega)]; omega
/-- The quotient's digits so far. -/
structure Qd (x y k : Nat) (Q : List Int) : Prop where
  r : rng B32 Q
  v : vb B32 Q = ((x / B32 ^ k / y : Nat) : Int)
  l : Q.length = (digs B32 x).length - k
theorem qd_0 {x y : Nat} : Qd x y (digs B32 x).length [] := ⟨fun z hz => by simp at hz, by rw [top_0, Nat.zero_div]; rfl, by simp⟩
theorem Qd.next {x y k : Nat} {Q : List Int} (h : Qd x y k Q) (hy : 0 < y) (hk : 0 < k) (hkl : k ≤ (digs B32 x).length) : Qd x y (k - 1) (((x / B32 ^ k % y * B32 + x / B32 ^ (k - 1) % B32) / y : Nat) :: Q) := by
  have hd := dv_digit (x := x) hy hk
  have hR := dv_R (x := x) (k := k) hy
  refine ⟨rng_cons h.r (Int.natCast_nonneg _) (Int.ofNat_lt.2 (Nat.div_lt_of_lt_mul hR)), ?_, by rw [List.length_cons, h.l]; omega⟩
  show ((((x / B32 ^ k % y * B32 + x / B32 ^ (k - 1) % B32) / y : Nat) : Int)) + (B32 : Int) * vb B32 Q = _
  rw [h.v, hd.1, Int.natCast_add, Int.natCast_mul, Int.add_comm]
theorem Qd.fin {x y : Nat} {Q : List Int} (h : Qd x y 0 Q) : trm Q = digs B32 (x / y) := trm_digs (by decide) h.r (by rw [h.v, Nat.pow_zero, Nat.div_one])

/- The references' five quotients, in plain Lean. -/


/- Where the rests of the five divisions lie, in plain Lean. -/


/- Powers modulo, in plain Lean. -/

/-- A product of two limbs' rows, told or refused. -/
def ErrL (x : Int) (r : List Int) (e : Int) : Prop := (e = 0 ∧ r = lm x ∧ lenV x ≤ 67108864) ∨ (e = 3 ∧ r = [] ∧ 67108864 < lenV x)
theorem errL_ok {l : List Int} {x : Int} (u : u64s l) (hv : vl l = x) (h : lenN l ≤ 67108864) : ErrL x (trm l) 0 := .inl ⟨rfl, trm_lm u hv, by rwa [← lenN_lenV u hv]⟩
theorem errL_big {l : List Int} {x : Int} (u : u64s l) (hv : vl l = x) (h : 67108864 < lenN l) : ErrL x [] 3 := .inr ⟨rfl, rfl, by rwa [← lenN_lenV u hv]⟩
theorem errL_of {x : Int} {r : List Int} (h : ErrN x r 3) : ErrL x [] 3 := by
  rcases h with ⟨h, _⟩ | ⟨_, h⟩
  · cases h
  · exact .inr ⟨rfl, rfl, h⟩
/-- A number times a limb. -/
def lbN (a : List Int) (m : Int) : Nat → List Int × Int
  | 0 => ([], 0)
  | i + 1 => ((lbN a m i).1 ++ [(a.getD i 0 * m % 18446744073709551616 + (lbN a m i).2) % 18446744073709551616], a.getD i 0 * m / 18446744073709551616 + (a.getD i 0 * m % 18446744073709551616 + (lbN a m i).2) / 18446744073709551616)
def lbL (a : List Int) (m : Int) : List Int := (lbN a m a.length).1 ++ [(lbN a m a.length).2]
theorem emod_nn {v w : Int} (h1 : 0 < w) : 0 ≤ v % w ∧ v % w < w := ⟨Int.emod_nonneg _ (by omega), Int.emod_lt_of_pos _ h1⟩
theorem vl_lm {v : Int} (h : 0 ≤ v) : vl (lm v) = v := by rw [lm_v]; omega
theorem pow_mul {a m : Int} {E k : Nat} (hk : 0 < k) (hb : E / 2 ^ (k - 1) % 2 = 1) : a ^ (E / 2 ^ k) % m * (a ^ (E / 2 ^ k) % m) % m * a % m = a ^ (E / 2 ^ (k - 1)) % m := by
  obtain ⟨k, rfl⟩ : ∃ j, k = j + 1 := ⟨k - 1, by omega⟩
  rw [Nat.add_sub_cancel] at hb ⊢
  have e : E / 2 ^ k = E / 2 ^ (k + 1) + E / 2 ^ (k + 1) + 1 := by
    rw [Nat.pow_succ, ← Nat.div_div_eq_div_mul]; omega
  rw [← Int.mul_emod, Int.mul_emod, Int.emod_emod, ← Int.mul_emod, e, Int.pow_succ, Int.pow_add]

/- Fermat's little law for primes up to 1000, reckoned; rests of powers; in plain Lean. -/

def pmS (m r h e : Nat) : Nat := if e % 2 = 0 then h * h % m else h * h % m * r % m
def pmK (m r : Nat) : Nat → Nat → Nat
  | 0, _ => 1 % m
  | f + 1, e => pmS m r (pmK m r f (e / 2)) e
def primeB (p : Nat) : Bool := (List.range 32).all fun d => decide (d < 2) || decide (p < d * d) || decide (p % d ≠ 0)
def fermB (p : Nat) : Bool := !primeB p || (List.range 32).all fun r => Nat.beq (pmK p r 10 p) (r % p)

/- Euclid's steps with their factors, in plain Lean. -/

/-- Where Euclid's steps stand: b divides a x - r and a y - s; the common divisors are those of a and b; the factors are not above b's size. -/
structure Co (a b r s x y : Int) : Prop where
  dr : b ∣ a * x - r
  ds : b ∣ a * y - s
  gc : ∀ d : Int, (d ∣ r ∧ d ∣ s) ↔ (d ∣ a ∧ d ∣ b)
  bx : x.natAbs ≤ b.natAbs
  by_ : y.natAbs ≤ b.natAbs
  br : r.natAbs ≤ max a.natAbs b.natAbs
  bs : s.natAbs ≤ b.natAbs
  st : (r = a ∧ s = b ∧ x = 1 ∧ y = 0) ∨ (r = b ∧ 0 ≤ s ∧ s < b.natAbs ∧ x = 0 ∧ y = 1) ∨
       (0 < r ∧ 0 ≤ s ∧ s < r ∧ ((0 ≤ x ∧ y ≤ 0 ∧ x * s - y * r = b.natAbs) ∨ (x ≤ 0 ∧ 0 ≤ y ∧ y * r - x * s = b.natAbs))) ∨
       (0 < r ∧ 0 ≤ s ∧ s < r ∧ x = 1 ∧ 0 ≤ y ∧ y * r = b.natAbs + s)
theorem ediv_abs_le {b s : Int} (hs : 0 < s) : (b / s).natAbs ≤ b.natAbs := by
  rcases Int.lt_or_le b 0 with h | h
  · have h1 : b / s ≤ 0 := by
      have := Int.ediv_neg_of_neg_of_pos h hs; omega
    have h2 : b ≤ b / s := by
      rw [Int.le_ediv_iff_mul_le hs]
      have h3 : b * s ≤ b * 1 := Int.mul_le_mul_of_nonpos_left (by omega) (by omega)
      omega
    omega
  · have := Int.ediv_nonneg h (Int.le_of_lt hs)
    have := Int.ediv_le_self s h
    omega
theorem Co.next {a b r s x y : Int} (hb : b ≠ 0) (h : Co a b r s x y) (hs : s ≠ 0) {q : Int} (hq : r - q * s = r % s) : Co a b s (r % s) y (x - q * y) := by
  have hm0 : 0 ≤ r % s := Int.emod_nonneg _ hs
  have hm1 : r % s < s.natAbs := Int.emod_lt _ hs
  obtain ⟨k1, hk1⟩ := h.dr
  obtain ⟨k2, hk2⟩ := h.ds
  have hbs := h.bs
  have hbr := h.br
  have hN : (0 : Int) < b.natAbs := by omega
  have e1 : (x - q * y) * s = x * s - q * y * s := Int.sub_mul _ _ _
  have e2 : y * (r % s) = y * r - q * y * s := by rw [← hq, Int.mul_sub, ← Int.mul_assoc, Int.mul_comm y q]
  have hby := h.by_
  have hbx := h.bx
  have key : (x - q * y).natAbs ≤ b.natAbs ∧ ((s = a ∧ r % s = b ∧ y = 1 ∧ x - q * y = 0) ∨ (s = b ∧ 0 ≤ r % s ∧ r % s < b.natAbs ∧ y = 0 ∧ x - q * y = 1) ∨
       (0 < s ∧ 0 ≤ r % s ∧ r % s < s ∧ ((0 ≤ y ∧ x - q * y ≤ 0 ∧ y * (r % s) - (x - q * y) * s = b.natAbs) ∨ (y ≤ 0 ∧ 0 ≤ x - q * y ∧ (x - q * y) * s - y * (r % s) = b.natAbs))) ∨
       (0 < s ∧ 0 ≤ r % s ∧ r % s < s ∧ y = 1 ∧ 0 ≤ x - q * y ∧ (x - q * y) * s = b.natAbs + r % s)) := by
    have bound : ∀ z : Int, 0 < s → 0 ≤ z → z * s ≤ b.natAbs → z.natAbs ≤ b.natAbs := fun z h1 h2 h3 => by
      have : z * 1 ≤ z * s := Int.mul_le_mul_of_nonneg_left (by omega) h2
      omega
    rcases h.st with ⟨h1, h2, h3, h4⟩ | ⟨h1, h2, h3, h4, h5⟩ | ⟨h1, h2, h3, h4⟩ | ⟨h1, h2, h3, h4, h5, h6⟩
    · subst h1; subst h2; subst h3; subst h4
      rw [Int.mul_zero]
      exact ⟨by omega, .inr (.inl ⟨rfl, hm0, hm1, rfl, by omega⟩)⟩
    · subst h1; subst h4; subst h5
      have hs0 : 0 < s := by omega
      have hqe : q = r / s := by
        have := Int.emod_add_mul_ediv r s
        have e3 : q * s = r / s * s := by rw [Int.mul_comm (r / s)]; omega
        exact Int.eq_of_mul_eq_mul_right (by omega) e3
      have hb2 := ediv_abs_le (b := r) hs0
      rw [← hqe] at hb2
      rw [Int.mul_one] at e1 e2 ⊢
      rw [Int.zero_mul] at e1
      refine ⟨by omega, .inr (.inr ?_)⟩
      rcases Int.lt_or_le r 0 with hr | hr
      · refine .inr ⟨hs0, hm0, by omega, rfl, ?_, by omega⟩
        have := Int.ediv_neg_of_neg_of_pos hr hs0
        omega
      · refine .inl ⟨hs0, hm0, by omega, .inl ⟨by omega, ?_, by omega⟩⟩
        have := Int.ediv_nonneg hr (Int.le_of_lt hs0)
        omega
    · have hs0 : 0 < s := by omega
      have hq0 : 0 ≤ q := by
        rcases Int.lt_or_le q 0 with hh | hh
        · exfalso
          have := Int.mul_neg_of_neg_of_pos hh hs0
          omega
        · exact hh
      rcases h4 with ⟨h5, h6, h7⟩ | ⟨h5, h6, h7⟩
      · have f1 : 0 ≤ q * -y := Int.mul_nonneg hq0 (by omega)
        rw [Int.mul_neg] at f1
        have f2 : 0 ≤ -y * (r % s) := Int.mul_nonneg (by omega) hm0
        rw [Int.neg_mul] at f2
        exact ⟨bound _ hs0 (by omega) (by omega), .inr (.inr (.inl ⟨hs0, hm0, by omega, .inr ⟨h6, by omega, by omega⟩⟩))⟩
      · have f1 : 0 ≤ q * y := Int.mul_nonneg hq0 h6
        have f2 : 0 ≤ y * (r % s) := Int.mul_nonneg h6 hm0
        have f3 := bound (-(x - q * y)) hs0 (by omega) (by rw [Int.neg_mul]; omega)
        exact ⟨by omega, .inr (.inr (.inl ⟨hs0, hm0, by omega, .inl ⟨h6, by omega, by omega⟩⟩))⟩
    · have hs0 : 0 < s := by omega
      have hq0 : 0 < q := by
        rcases Int.lt_or_le 0 q with hh | hh
        · exact hh
        · exfalso
          have := Int.mul_nonneg (show 0 ≤ -q by omega) (Int.le_of_lt hs0)
          rw [Int.neg_mul] at this
          omega
      have hy0 : 0 < y := by
        rcases Int.lt_or_le 0 y with hh | hh
        · exact hh
        · exfalso
          have : y = 0 := by omega
          rw [this, Int.zero_mul] at h6
          omega
      subst h4
      have f1 : 0 < q * y := Int.mul_pos hq0 hy0
      have f2 : 0 ≤ y * (r % s) := Int.mul_nonneg h5 hm0
      have f3 := bound (-(1 - q * y)) hs0 (by omega) (by rw [Int.neg_mul]; omega)
      exact ⟨by omega, .inr (.inr (.inl ⟨hs0, hm0, by omega, .inl ⟨h5, by omega, by omega⟩⟩))⟩
  refine ⟨h.ds, ⟨k1 - q * k2, ?_⟩, fun d => ?_, h.by_, key.1, by omega, by omega, key.2⟩
  · rw [← hq, Int.mul_sub a, Int.mul_sub b, ← hk1, Int.mul_left_comm b, ← hk2, Int.mul_sub q, Int.mul_left_comm a]; omega
  · rw [← h.gc d]
    constructor
    · rintro ⟨h1, h2⟩
      refine ⟨?_, h1⟩
      have : r = r % s + q * s := by omega
      rw [this]
      exact Int.dvd_add h2 (Int.dvd_trans h1 (Int.dvd_mul_left q s))
    · rintro ⟨h1, h2⟩
      refine ⟨h2, ?_⟩
      rw [← hq]
      exact Int.dvd_sub h1 (Int.dvd_trans h2 (Int.dvd_mul_left q s))
/-- The end: the last one's size is the greatest common divisor, and x its factor. -/
theorem Co.fin {a b r x y : Int} (h : Co a b r 0 x y) : (∀ d : Int, d ∣ r ↔ (d ∣ a ∧ d ∣ b)) ∧ b ∣ a * x - r ∧ r ∣ a ∧ r ∣ b := by
  have h1 : ∀ d : Int, d ∣ r ↔ (d ∣ a ∧ d ∣ b) := fun d => by
    rw [← h.gc d]
    exact ⟨fun hd => ⟨hd, Int.dvd_zero d⟩, fun hd => hd.1⟩
  have h2 := (h1 r).1 (Int.dvd_refl r)
  exact ⟨h1, h.dr, h2.1, h2.2⟩

/- What Bezout's way tells, in plain Lean. -/

/-- g is the greatest common divisor of a and b, and a x - g a multiple of b. -/
structure CoE (a b g x : Int) : Prop where
  g0 : 0 ≤ g
  gc : ∀ d : Int, d ∣ g ↔ (d ∣ a ∧ d ∣ b)
  dx : b ∣ a * x - g
  bx : x.natAbs ≤ b.natAbs
  bg : g.natAbs ≤ max a.natAbs b.natAbs
theorem Co.pos {a b r x y : Int} (h : Co a b r 0 x y) (hr : 0 ≤ r) : CoE a b r x := ⟨hr, h.fin.1, h.dr, h.bx, h.br⟩
theorem Co.neg {a b r x y : Int} (h : Co a b r 0 x y) (hr : r < 0) : CoE a b (-r) (-x) := by
  have hb := h.bx
  have hr2 := h.br
  refine ⟨by omega, fun d => by rw [Int.dvd_neg]; exact h.fin.1 d, ?_, by omega, by omega⟩
  have : a * -x - -r = -(a * x - r) := by rw [Int.mul_neg]; omega
  rw [this]
  exact (Int.dvd_neg).2 h.dr
theorem CoE.da {a b g x : Int} (h : CoE a b g x) : g ∣ a ∧ g ∣ b := (h.gc g).1 (Int.dvd_refl g)
theorem CoE.le {a b g x : Int} (h : CoE a b g x) (hb : b ≠ 0) : g.natAbs ≤ b.natAbs := Nat.le_of_dvd (by omega) (Int.natAbs_dvd_natAbs.2 h.da.2)
theorem of_lm {v : Int} (h : inI v) : lm v = fl ((v.natAbs : Nat) : Int) := lm_small (by unfold inI at h; omega)
theorem lenV_mul (v w : Int) : lenV (v * w) ≤ lenV v + lenV w := by
  refine nbits_le.2 ?_
  rw [Int.natAbs_mul, Nat.pow_add]
  have h1 : v.natAbs < 2 ^ lenV v := nbits_le.1 (Nat.le_refl _)
  have h2 : w.natAbs < 2 ^ lenV w := nbits_le.1 (Nat.le_refl _)
  exact Nat.mul_lt_mul'' h1 h2

/- Bezout's numbers and inverses, in plain Lean. -/

theorem lenV_sub (a b : Int) : lenV (a - b) ≤ max (lenV a) (lenV b) + 1 := by
  refine nbits_le.2 ?_
  have h1 : a.natAbs < 2 ^ lenV a := nbits_le.1 (Nat.le_refl _)
  have h2 : b.natAbs < 2 ^ lenV b := nbits_le.1 (Nat.le_refl _)
  have h3 : 2 ^ lenV a ≤ 2 ^ max (lenV a) (lenV b) := Nat.pow_le_pow_right (by decide) (by omega)
  have h4 : 2 ^ lenV b ≤ 2 ^ max (lenV a) (lenV b) := Nat.pow_le_pow_right (by decide) (by omega)
  rw [Nat.pow_succ]
  omega
/-- What an inverse's search tells. -/
def InvP (v w : Int) (s : Bool) (l : List Int) (e : Int) : Prop :=
  ∃ g x : Int, CoE (v % w) (w.natAbs : Int) g x ∧ ((g ≠ 1 ∧ s = false ∧ l = [] ∧ e = 61) ∨ (g = 1 ∧ s = decide (x % (w.natAbs : Int) < 0) ∧ l = lm (x % (w.natAbs : Int)) ∧ e = 0))
/-- Both searches end at the same number. -/
theorem same_gcd {v w g g2 x x2 : Int} (h : CoE v w g x) (h2 : CoE (v % w) (w.natAbs : Int) g2 x2) : g2 = g := by
  have hww : ∀ d : Int, d ∣ (w.natAbs : Int) ↔ d ∣ w := fun d => Int.dvd_natAbs
  have key : ∀ d : Int, (d ∣ v % w ∧ d ∣ (w.natAbs : Int)) ↔ (d ∣ v ∧ d ∣ w) := fun d => by
    rw [hww]
    have e := Int.emod_add_mul_ediv v w
    constructor
    · rintro ⟨h1, h2⟩
      refine ⟨?_, h2⟩
      rw [← e]
      exact Int.dvd_add h1 (Int.dvd_trans h2 (Int.dvd_mul_right w _))
    · rintro ⟨h1, h2⟩
      refine ⟨?_, h2⟩
      have : v % w = v - w * (v / w) := by omega
      rw [this]
      exact Int.dvd_sub h1 (Int.dvd_trans h2 (Int.dvd_mul_right w _))
  have d1 : g2 ∣ g := (h.gc g2).2 ((key g2).1 ((h2.gc g2).1 (Int.dvd_refl g2)))
  have d2 : g ∣ g2 := (h2.gc g).2 ((key g).2 ((h.gc g).1 (Int.dvd_refl g)))
  have := Nat.dvd_antisymm (Int.natAbs_dvd_natAbs.2 d1) (Int.natAbs_dvd_natAbs.2 d2)
  have := h.g0
  have := h2.g0
  omega
/-- An inverse is one. -/
theorem inv_one {v w x : Int} (hw : w ≠ 0) (h : CoE (v % w) (w.natAbs : Int) 1 x) : w ∣ v * (x % (w.natAbs : Int)) - 1 := by
  obtain ⟨c, hc⟩ := h.dx
  have e1 := Int.emod_add_mul_ediv v w
  have e2 := Int.emod_add_mul_ediv x (w.natAbs : Int)
  obtain ⟨n, hn⟩ := (Int.dvd_natAbs.2 (Int.dvd_refl w) : w ∣ (w.natAbs : Int))
  generalize hr : v % w = r at *
  generalize hX : x % (w.natAbs : Int) = X at *
  generalize v / w = q at *
  generalize x / (w.natAbs : Int) = D at *
  -- v X - 1 = (r + w q) X - 1 = r X + w q X - 1; r X = r x - r n w D
  have e3 : r * x = r * X + w * (r * (n * D)) := by
    rw [← e2, Int.mul_add, hn, Int.mul_left_comm w, Int.mul_assoc w]
  refine ⟨n * c - r * (n * D) + q * X, ?_⟩
  rw [Int.mul_add, Int.mul_sub, ← Int.mul_assoc w n, ← hn, ← hc, e3, ← e1, Int.add_mul, Int.mul_assoc w]
  omega

/- What the law of Bezout's numbers needs, in plain Lean. -/

theorem lenV_64 {s : Bool} {l : List Int} (u : u64s l) : lenV (sv s l) ≤ 64 * l.length := by
  rw [← (raw_res (s := s) u rfl).2.2]
  exact lenN_le l
theorem InvP.no {v w g x : Int} {s : Bool} {l : List Int} {e : Int} (h : InvP v w s l e) (hE : CoE v w g x) (hg : g ≠ 1) : e = 61 := by
  obtain ⟨g2, x2, h2, h3⟩ := h
  have := same_gcd hE h2
  rcases h3 with ⟨_, _, _, h⟩ | ⟨h, _⟩
  · exact h
  · omega
theorem InvP.yes {v w g x : Int} {s : Bool} {l : List Int} {e : Int} (hw : w ≠ 0) (h : InvP v w s l e) (hE : CoE v w g x) (hg : g = 1) : ∃ i : Int, 0 ≤ i ∧ i < w.natAbs ∧ s = decide (i < 0) ∧ l = lm i ∧ e = 0 ∧ w ∣ v * i - 1 := by
  obtain ⟨g2, x2, h2, h3⟩ := h
  have := same_gcd hE h2
  rcases h3 with ⟨h, _⟩ | ⟨h, e1, e2, e3⟩
  · omega
  · subst h
    have hb := emod_nn (v := x2) (w := (w.natAbs : Int)) (by omega)
    exact ⟨_, hb.1, hb.2, e1, e2, e3, inv_one hw h2⟩

/- Contract of surdref01.Own. -/

/- Rows that are written over, and grow: how the objects look on the way. (A list of any version.) -/
def ozC (j : Nat) : Int := ((j % 251 + 1 : Nat) : Int)
def ozB (j : Nat) : List Int := [((300 + 5 * j : Nat) : Int), ((300 + 5 * j + 1 : Nat) : Int), ((300 + 5 * j + 2 : Nat) : Int), ((300 + 5 * j + 3 : Nat) : Int), ((300 + 5 * j + 4 : Nat) : Int)]
def ozL (gv n : Nat) (rs : Nat → List Int) (i : Nat) : Ob := ⟨23, 1, gv, true, (List.range n).map fun j => if j < i then .o (j + 1) 1 0 ((rs j).length + 5) else .o (j + 1) 0 0 (rs j).length⟩
def ozL0 (gv n : Nat) (rs : Nat → List Int) : Ob := ⟨23, 1, gv, true, (List.range n).map fun j => .o (j + 1) 0 0 (rs j).length⟩
def ozR (rs : Nat → List Int) (j : Nat) : Ob := ⟨67, 1, 0, true, ints .u64 (rs j)⟩
def ozF (rs : Nat → List Int) (i j : Nat) : Ob := ⟨67, 1, 0, true, ints .u64 (if j < i then List.replicate (rs j).length (ozC j) else rs j)⟩
def ozK (rs : Nat → List Int) (i k : Nat) : Ob := ⟨67, 1, 0, true, ints .u64 (List.replicate k (ozC i) ++ (rs i).drop k)⟩
def ozE (rs : Nat → List Int) (j : Nat) : Ob := ⟨67, 1, 1, true, ints .u64 (List.replicate (rs j).length (ozC j) ++ ozB j)⟩
def ozG (rs : Nat → List Int) (i j : Nat) : Ob := if j < i then ozE rs j else ⟨67, 1, 0, true, ints .u64 (List.replicate (rs j).length (ozC j))⟩
section
variable {gv n : Nat} {rs : Nat → List Int} {J : List Ob}
theorem oz_start : rowsJ n (ozL0 gv n rs) (ozR rs) J = rowsJ n (ozL0 gv n rs) (ozF rs 0) J := rfl
theorem oz_in {i : Nat} : rowsJ n (ozL0 gv n rs) (ozF rs i) J = rowsJ n (ozL0 gv n rs) (upd (ozF rs i) i (ozK rs i 0)) J := by
  congr 1
  funext j
  unfold upd
  by_cases e : j = i
  · subst e; simp [ozF, ozK]
  · rw [if_neg e]
theorem oz_step {i k : Nat} (hi : i < n) (hk : k < (rs i).length) : (rowsJ n (ozL0 gv n rs) (upd (ozF rs i) i (ozK rs i k)) J).set (i + 1) ⟨67, 1, 0, true, ints .u64 ((List.replicate k (ozC i) ++ (rs i).drop k).set ((0 + k) * 1) (ozC i))⟩ = rowsJ n (ozL0 gv n rs) (upd (ozF rs i) i (ozK rs i (k + 1))) J := by
  rw [rj_set hi, rj_upd2]
  congr 3
  show ints .u64 _ = ints .u64 _
  congr 1
  rw [Nat.zero_add, Nat.mul_one, List.set_append_right _ _ (by simp), List.length_replicate, Nat.sub_self, List.drop_eq_getElem_cons hk, List.set_cons_zero, List.replicate_succ', List.append_assoc]
  rfl
theorem oz_out {i k : Nat} (hk : ¬ k < (rs i).length) (hk2 : k ≤ (rs i).length) : rowsJ n (ozL0 gv n rs) (upd (ozF rs i) i (ozK rs i k)) J = rowsJ n (ozL0 gv n rs) (ozF rs (i + 1)) J := by
  have e : k = (rs i).length := by omega
  subst e
  congr 1
  funext j
  unfold upd
  by_cases e : j = i
  · subst e
    rw [if_pos rfl]
    unfold ozK ozF
    rw [List.drop_length, List.append_nil, if_pos (Nat.lt_succ_self j)]
  · rw [if_neg e]
    unfold ozF
    by_cases h : j < i
    · rw [if_pos h, if_pos (by omega)]
    · rw [if_neg h, if_neg (by omega)]
theorem oz_two {i : Nat} (hi : ¬ i < n) : rowsJ n (ozL0 gv n rs) (ozF rs i) J = rowsJ n (ozL gv n rs 0) (ozG rs 0) J := by
  unfold rowsJ
  congr 2
  · refine List.map_congr_left fun j hj => ?_
    have := List.mem_range.1 hj
    unfold ozF ozG
    rw [if_pos (by omega), if_neg (Nat.not_lt_zero j)]
theorem oz_load2 {i : Nat} (hi : i < n) : (ozL gv n rs i).cs[(0 + i) * 1]? = some (.o (i + 1) 0 0 (rs i).length) := rc_at hi (if_neg (Nat.lt_irrefl i))
theorem oz_row2 {i : Nat} (hi : i < n) : (rowsJ n (ozL gv n rs i) (ozG rs i) J)[i + 1]? = some ⟨67, 1, 0, true, ints .u64 (List.replicate (rs i).length (ozC i))⟩ := rj_of hi (if_neg (Nat.lt_irrefl i))
theorem oz_grow {i : Nat} (hi : i < n) : (rowsJ n (ozL gv n rs i) (ozG rs i) J).set (i + 1) ⟨67, 1, 0 + 1, true, ints .u64 (List.replicate (rs i).length (ozC i)) ++ ints .u64 (ozB i)⟩ = rowsJ n (ozL gv n rs i) (upd (ozG rs i) i (ozE rs i)) J := by
  rw [rj_set hi]
  congr 3
  simp [ints]
theorem oz_next {i : Nat} (hi : i < n) : rowsJ n ⟨23, 1, gv, true, setV (ozL gv n rs i).cs ((0 + i) * 1) [.o (i + 1) 1 0 ((rs i).length + 5)]⟩ (upd (ozG rs i) i (ozE rs i)) J = rowsJ n (ozL gv n rs (i + 1)) (ozG rs (i + 1)) J := by
  congr 1
  · unfold ozL
    rw [setV_range]
    congr 1
    refine List.map_congr_left fun j _ => ?_
    by_cases e : j = i
    · subst e; rw [if_pos rfl, if_pos (Nat.lt_succ_self j)]
    · rw [if_neg e]
      by_cases h : j < i
      · rw [if_pos h, if_pos (by omega)]
      · rw [if_neg h, if_neg (by omega)]
  · funext j
    unfold upd ozG
    by_cases e : j = i
    · subst e; rw [if_pos rfl, if_pos (Nat.lt_succ_self j)]
    · rw [if_neg e]
      by_cases h : j < i
      · rw [if_pos h, if_pos (by omega)]
      · rw [if_neg h, if_neg (by omega)]
theorem oz_load3 {i m : Nat} (hi : i < n) (hm : ¬ m < n) : (ozL gv n rs m).cs[(0 + i) * 1]? = some (.o (i + 1) 1 0 ((rs i).length + 5)) := rc_at hi (if_pos (by omega))
theorem oz_row3 {i m : Nat} (hi : i < n) (hm : ¬ m < n) : (rowsJ n (ozL gv n rs m) (ozG rs m) J)[i + 1]? = some (ozE rs i) := rj_of hi (if_pos (by omega))
theorem oz_val {i k : Nat} (hk : k < (rs i).length + 5) : (List.replicate (rs i).length (ozC i) ++ ozB i).getD ((0 + k) * 1) 0 = if k < (rs i).length then ozC i else ((300 + 5 * i + (k - (rs i).length) : Nat) : Int) := by
  rw [Nat.zero_add, Nat.mul_one]
  by_cases h : k < (rs i).length
  · rw [if_pos h, List.getD_eq_getElem?_getD, List.getElem?_append_left (by simpa using h), List.getElem?_replicate, if_pos h]
    rfl
  · rw [if_neg h, List.getD_eq_getElem?_getD, List.getElem?_append_right (by simp; omega), List.length_replicate]
    obtain ⟨q, hq⟩ : ∃ q, k - (rs i).length = q := ⟨_, rfl⟩
    rw [hq]
    match q, (show q < 5 by omega) with
    | 0, _ => rfl
    | 1, _ => rfl
    | 2, _ => rfl
    | 3, _ => rfl
    | 4, _ => rfl
theorem oz_len {i : Nat} : (List.replicate (rs i).length (ozC i) ++ ozB i).length = (rs i).length + 5 := by simp [ozB]
theorem oz_end {m : Nat} : ObsId (rowsJ n (ozL0 gv n rs) (ozR rs) []).length ((rowsJ n (ozL gv n rs m) (ozG rs m) J).take (rowsJ n (ozL0 gv n rs) (ozR rs) []).length) := by
  rw [rj_len]
  refine rj_obs (fun y hy => ?_) fun j _ y hy => ?_
  · obtain ⟨j, hj, rfl⟩ := List.mem_map.1 hy
    have := List.mem_range.1 hj
    by_cases h : j < m
    · rw [if_pos h]; simp [idB]; omega
    · rw [if_neg h]; simp [idB]; omega
  · unfold ozG ozE at hy
    by_cases h : j < m
    · rw [if_pos h] at hy; exact List.all_eq_true.1 ints_id y hy
    · rw [if_neg h] at hy; exact List.all_eq_true.1 ints_id y hy
end

/- Contract of surdref01.Own. (A list of any version.) -/
set_option maxHeartbeats 4000000 in
theorem OwnV_s (gv n : Nat) (hn : n < 1000000) (rs : Nat → List Int) (hlen : ∀ j, j < n → (rs j).length < 1099511627776) : SpecM Try.prog 40 [.o 0 gv 0 n] (rowsJ n (ozL0 gv n rs) (ozR rs) []) (fun o _ => o = .ret (.b true)) := by
  refine specM_of [(0, .o 0 gv 0 n)] rfl (_) rfl Try.func40 rfl (Nat.le_of_ble_eq_true rfl) fun Γ hN hds => ?_
  have hd := hdOf 112 hN
  refine jc_H (H' := rowsJ n (ozL0 gv n rs) (ozF rs 0) []) oz_start ?_; refine jc_seq ?_; refine jc_region ?_; refine jo_l (ly_as rfl) (hd 2 rfl) ?_; refine jo_nil ?_; refine jc_seq ?_; refine jc_seq ?_; refine jc_region ?_; refine jo_l (ly_mv rfl) (hd 13 rfl) ?_; refine jo_l (ly_leno sl81 rfl rfl) (hd 14 rfl) ?_; refine jo_l (ly_mv rfl) (hd 15 rfl) ?_; refine jo_nil ?_; refine jc_block ?_
  refine jc_loopF (G := Nat) (fun i => i ≤ n) (fun i => [(15, .i .i64 (i : Int)), (3, .u), (4, .u), (5, .u), (16, .u), (17, .u), (18, .u), (19, .u), (20, .u), (21, .u), (22, .u), (23, .u), (24, .u), (25, .u), (26, .u), (27, .u), (28, .u), (29, .u), (30, .u), (31, .u), (32, .u), (33, .u)]) (fun i => rowsJ n (ozL0 gv n rs) (ozF rs i) []) (fun i => n - i) 0 ?_ ?_ rfl ?_
  · exact Nat.zero_le _
  · exact (.cons rfl (.u (.u (.u (.u (.u (.u (.u (.u (.u (.u (.u (.u (.u (.u (.u (.u (.u (.u (.u (.u (.u .nil))))))))))))))))))))))
  · rintro i hc1; refine jc_seq ?_; refine jc_region ?_; refine jo_l (ly_lt rfl rfl) (hd 16 rfl) ?_; refine jo_nil ?_; refine jc_seq ?_
    refine jc_if rfl (fun h1 => ?_) (fun h1 => ?_)
    · have hi : i < n := by omega
      have hl := hlen i hi
      refine jc_skip ?_; refine jc_seq ?_; refine jc_block ?_; refine jc_seq ?_; refine jc_region ?_; refine jo_l (ly_mv rfl) (hd 17 rfl) ?_; refine jo_l (ly_ia (i := i) sl81 rfl rfl rfl (by first | rfl | omega) (by first | omega | (dsimp only; omega)) rfl) (hd 18 rfl) ?_; refine jo_l (ly_ld one25 rfl rfl (rc_at hi rfl)) (hd 19 rfl) ?_; refine jo_l (ly_as rfl) (hd 3 rfl) ?_; refine jo_l (ly_as rfl) (hd 4 rfl) ?_; refine jo_nil ?_; refine jc_seq ?_; refine jc_H (H' := rowsJ n (ozL0 gv n rs) (upd (ozF rs i) i (ozK rs i 0)) []) oz_in ?_; refine jc_region ?_; refine jo_l (ly_mv rfl) (hd 20 rfl) ?_; refine jo_l (ly_leno sl25 rfl (rj_upd hi)) (hd 21 rfl) ?_; refine jo_l (ly_mv rfl) (hd 22 rfl) ?_; refine jo_nil ?_; refine jc_block ?_
      refine jc_loopF (G := Nat) (fun k => k ≤ (rs i).length) (fun k => [(22, .i .i64 (k : Int)), (5, .u), (23, .u), (24, .u), (25, .u), (26, .u), (27, .u), (28, .u), (29, .u), (30, .u), (31, .u), (32, .u)]) (fun k => rowsJ n (ozL0 gv n rs) (upd (ozF rs i) i (ozK rs i k)) []) (fun k => (rs i).length - k) 0 ?_ ?_ rfl ?_
      · exact Nat.zero_le _
      · exact (.cons rfl (.u (.u (.u (.u (.u (.u (.u (.u (.u (.u (.u .nil))))))))))))
      · rintro k hc2; refine jc_seq ?_; refine jc_region ?_; refine jo_l (ly_lt rfl rfl) (hd 23 rfl) ?_; refine jo_nil ?_; refine jc_seq ?_
        refine jc_if rfl (fun h2 => ?_) (fun h2 => ?_)
        · have hk : k < (rs i).length := by omega
          have hkl : k < (List.replicate k (ozC i) ++ (rs i).drop k).length := by simp; omega
          refine jc_skip ?_; refine jc_seq ?_; refine jc_block ?_; refine jc_seq ?_; refine jc_region ?_; refine jo_l (ly_mv rfl) (hd 24 rfl) ?_; refine jo_l (ly_as rfl) (hd 5 rfl) ?_; refine jo_nil ?_; refine jc_region ?_; refine jo_l (ly_mv rfl) (hd 25 rfl) ?_; refine jo_l (ly_mv rfl) (hd 26 rfl) ?_; refine jo_l (ly_mv rfl) (hd 27 rfl) ?_; refine jo_l (ly_rem rfl rfl (by decide) rfl) (hd 28 rfl) ?_; refine jo_l (ly_add rfl rfl (r := ozC i) (by rw [show ((i : Int).tmod 251) = ((i % 251 : Nat) : Int) from rfl, wrap_i64 (by omega) (by omega)]; unfold ozC; omega)) (hd 29 rfl) ?_; refine jo_l (ly_conv und3 und82 rfl (r := ozC i) (by unfold ozC; rw [wrap_u64 (by omega) (by omega)])) (hd 30 rfl) ?_; refine jo_l (ly_ia (i := k) sl25 rfl (rj_upd hi) rfl rfl (by omega) rfl) (hd 31 rfl) ?_; refine jo_st (sy_storei rfl rfl (rj_upd hi) one82 (by omega)) ?_; refine jo_nil ?_; refine jc_region ?_; refine jo_l (ly_add rfl rfl (wrap_i64 (by first | omega | (dsimp only; omega)) (by first | omega | (dsimp only; omega)))) (hd 32 rfl) ?_; refine jo_l (ly_mv rfl) (hd 22 rfl) ?_; refine jo_nil ?_
          refine ⟨k + 1, ?_, ?_, (oz_step hi (by omega)), cov_n 24 rfl rfl ?_⟩
          · omega
          · omega
          · exact (.cons rfl (.u (.u (.u (.u (.u (.u (.u (.u (.u (.u (.u .nil))))))))))))
        · refine jc_exit ?_; refine jc_region ?_; refine jo_l (ly_add rfl rfl (wrap_i64 (by first | omega | (dsimp only; omega)) (by first | omega | (dsimp only; omega)))) (hd 33 rfl) ?_; refine jo_l (ly_mv rfl) (hd 15 rfl) ?_; refine jo_nil ?_
          refine ⟨i + 1, ?_, ?_, (oz_out (by omega) (by omega)), cov_n 46 rfl rfl ?_⟩
          · omega
          · omega
          · exact (.cons rfl (.u (.u (.u (.u (.u (.u (.u (.u (.u (.u (.u (.u (.u (.u (.u (.u (.u (.u (.u (.u (.u .nil))))))))))))))))))))))
    · refine jc_exit ?_; refine jc_seq ?_; refine jc_seq ?_; refine jc_H (H' := rowsJ n (ozL gv n rs 0) (ozG rs 0) []) (oz_two (by omega)) ?_; refine jc_region ?_; refine jo_l (ly_mv rfl) (hd 34 rfl) ?_; refine jo_l (ly_leno sl81 rfl rfl) (hd 35 rfl) ?_; refine jo_l (ly_mv rfl) (hd 36 rfl) ?_; refine jo_nil ?_; refine jc_block ?_
      refine jc_loopF (G := Nat × List Ob) (fun g => g.1 ≤ n) (fun g => [(36, .i .i64 (g.1 : Int)), (6, .u), (7, .u), (8, .u), (37, .u), (38, .u), (39, .u), (40, .u), (41, .u), (42, .u), (43, .u), (44, .u), (45, .u), (46, .u), (47, .u), (48, .u), (49, .u), (50, .u), (51, .u), (52, .u), (53, .u), (54, .u), (55, .u), (56, .u), (57, .u), (58, .u), (59, .u), (60, .u), (61, .u)]) (fun g => rowsJ n (ozL gv n rs g.1) (ozG rs g.1) g.2) (fun g => n - g.1) (0, []) ?_ ?_ rfl ?_
      · exact Nat.zero_le _
      · exact (.cons rfl (.u (.u (.u (.u (.u (.u (.u (.u (.u (.u (.u (.u (.u (.u (.u (.u (.u (.u (.u (.u (.u (.u (.u (.u (.u (.u (.u (.u .nil)))))))))))))))))))))))))))))
      · rintro ⟨i, J⟩ hc1
        dsimp only at hc1 ⊢
        refine jc_seq ?_; refine jc_region ?_; refine jo_l (ly_lt rfl rfl) (hd 37 rfl) ?_; refine jo_nil ?_; refine jc_seq ?_
        refine jc_if rfl (fun h3 => ?_) (fun h3 => ?_)
        · have hi : i < n := by omega
          have hl := hlen i hi
          refine jc_skip ?_; refine jc_seq ?_; refine jc_block ?_; refine jc_seq ?_; refine jc_region ?_; refine jo_l (ly_mv rfl) (hd 38 rfl) ?_; refine jo_l (ly_ia (i := i) sl81 rfl rfl rfl (by first | rfl | omega) (by first | omega | (dsimp only; omega)) rfl) (hd 39 rfl) ?_; refine jo_l (ly_ld one25 rfl rfl (oz_load2 (gv := gv) hi)) (hd 40 rfl) ?_; refine jo_l (ly_as rfl) (hd 6 rfl) ?_; refine jo_l (ly_as rfl) (hd 7 rfl) ?_; refine jo_nil ?_; refine jc_seq ?_; refine jc_region ?_; refine jo_l (ly_mv rfl) (hd 41 rfl) ?_; refine jo_l (ly_mul rfl rfl (r := ((5 * i : Nat) : Int)) (by rw [wrap_i64 (by omega) (by omega)]; omega)) (hd 42 rfl) ?_; refine jo_l (ly_add rfl rfl (r := ((300 + 5 * i : Nat) : Int)) (by rw [wrap_i64 (by omega) (by omega)]; omega)) (hd 43 rfl) ?_; refine jo_l (ly_conv und3 und82 rfl (r := ((300 + 5 * i : Nat) : Int)) (by rw [wrap_u64 (by omega) (by omega)]; try omega)) (hd 44 rfl) ?_; refine jo_l (ly_as rfl) (hd 8 rfl) ?_; refine jo_nil ?_; refine jc_seq ?_; refine jc_region ?_; refine jo_l (ly_mv rfl) (hd 45 rfl) ?_; refine jo_l (ly_mv rfl) (hd 46 rfl) ?_; refine jo_l (ly_mv rfl) (hd 47 rfl) ?_; refine jo_l (ly_add rfl rfl (r := ((300 + 5 * i + 1 : Nat) : Int)) (by rw [wrap_u64 (by omega) (by omega)]; try omega)) (hd 48 rfl) ?_; refine jo_l (ly_mv rfl) (hd 49 rfl) ?_; refine jo_l (ly_add rfl rfl (r := ((300 + 5 * i + 2 : Nat) : Int)) (by rw [wrap_u64 (by omega) (by omega)]; try omega)) (hd 50 rfl) ?_; refine jo_l (ly_mv rfl) (hd 51 rfl) ?_; refine jo_l (ly_add rfl rfl (r := ((300 + 5 * i + 3 : Nat) : Int)) (by rw [wrap_u64 (by omega) (by omega)]; try omega)) (hd 52 rfl) ?_; refine jo_l (ly_mv rfl) (hd 53 rfl) ?_; refine jo_l (ly_add rfl rfl (r := ((300 + 5 * i + 4 : Nat) : Int)) (by rw [wrap_u64 (by omega) (by omega)]; try omega)) (hd 54 rfl) ?_; refine jo_h (hy_lit (id := n + 1 + J.length) (xs := [.tmp 46, .tmp 48, .tmp 50, .tmp 52, .tmp 54]) el25 rfl (ovL_cons rfl (ovL_cons rfl (ovL_cons rfl (ovL_cons rfl (ovL_cons rfl ovL_nil))))) rfl (all2_of rfl) (by decide) rj_len) (hd 55 rfl) ?_; refine jo_H (H' := rowsJ n (ozL gv n rs i) (ozG rs i) (J ++ [⟨67, 1, 0, true, ints .u64 (ozB i)⟩])) rj_app ?_; refine jo_app el25 rfl (oz_row2 (gv := gv) hi) (by simp [ints]) rfl (src_o rj_last rfl rfl) (by omega) (by unfold maxLen; omega) (hd 56 rfl) ?_; refine jo_H (oz_grow (gv := gv) hi) ?_; refine jo_l (ly_as rfl) (hd 7 rfl) ?_; refine jo_nil ?_; refine jc_region ?_; refine jo_l (ly_mv rfl) (hd 57 rfl) ?_; refine jo_l (ly_mv rfl) (hd 58 rfl) ?_; refine jo_l (ly_mv rfl) (hd 59 rfl) ?_; refine jo_l (ly_ia (i := i) sl81 rfl rfl rfl (by first | rfl | omega) (by first | omega | (dsimp only; omega)) rfl) (hd 60 rfl) ?_; refine jo_st (sy_store rfl rfl rfl siz25 rfl (by simp [cellsV, oneO, rj_upd hi, ozE]) (by simp [ozL]; omega)) ?_; refine jo_nil ?_; refine jc_region ?_; refine jo_l (ly_add rfl rfl (wrap_i64 (by first | omega | (dsimp only; omega)) (by first | omega | (dsimp only; omega)))) (hd 61 rfl) ?_; refine jo_l (ly_mv rfl) (hd 36 rfl) ?_; refine jo_nil ?_
          refine ⟨(i + 1, _), ?_, ?_, (oz_next (gv := gv) hi), cov_n 59 rfl rfl ?_⟩
          · show i + 1 ≤ n; omega
          · show n - (i + 1) < n - i; omega
          · exact (.cons rfl (.u (.u (.u (.u (.u (.u (.u (.u (.u (.u (.u (.u (.u (.u (.u (.u (.u (.u (.u (.u (.u (.u (.u (.u (.u (.u (.u (.u .nil)))))))))))))))))))))))))))))
        · refine jc_exit ?_; refine jc_seq ?_; refine jc_seq ?_; refine jc_region ?_; refine jo_l (ly_mv rfl) (hd 62 rfl) ?_; refine jo_l (ly_leno sl81 rfl rfl) (hd 63 rfl) ?_; refine jo_l (ly_mv rfl) (hd 64 rfl) ?_; refine jo_nil ?_; refine jc_block ?_
          refine jc_loopF (G := Nat) (fun q => q ≤ n) (fun q => [(64, .i .i64 (q : Int)), (2, .u), (9, .u), (10, .u), (11, .u), (12, .u), (65, .u), (66, .u), (67, .u), (68, .u), (69, .u), (70, .u), (71, .u), (72, .u), (73, .u), (74, .u), (75, .u), (76, .u), (77, .u), (78, .u), (79, .u), (80, .u), (81, .u), (82, .u), (83, .u), (84, .u), (85, .u), (86, .u), (87, .u), (88, .u), (89, .u), (90, .u), (91, .u), (92, .u), (93, .u), (94, .u), (95, .u), (96, .u), (97, .u), (98, .u), (99, .u), (100, .u), (101, .u), (102, .u), (103, .u), (104, .u), (105, .u), (106, .u), (107, .u), (108, .u), (109, .u), (110, .u), (111, .u)]) (fun q => rowsJ n (ozL gv n rs i) (ozG rs i) J) (fun q => n - q) 0 ?_ ?_ rfl ?_
          · exact Nat.zero_le _
          · exact (.cons rfl (.u (.u (.u (.u (.u (.u (.u (.u (.u (.u (.u (.u (.u (.u (.u (.u (.u (.u (.u (.u (.u (.u (.u (.u (.u (.u (.u (.u (.u (.u (.u (.u (.u (.u (.u (.u (.u (.u (.u (.u (.u (.u (.u (.u (.u (.u (.u (.u (.u (.u (.u (.u .nil)))))))))))))))))))))))))))))))))))))))))))))))))))))
          · rintro q hc2; refine jc_seq ?_; refine jc_region ?_; refine jo_l (ly_lt rfl rfl) (hd 65 rfl) ?_; refine jo_nil ?_; refine jc_seq ?_
            refine jc_if rfl (fun h4 => ?_) (fun h4 => ?_)
            · have hi : q < n := by omega
              have hl := hlen q hi
              have hm : ¬ i < n := by omega
              refine jc_skip ?_; refine jc_seq ?_; refine jc_block ?_; refine jc_seq ?_; refine jc_region ?_; refine jo_l (ly_mv rfl) (hd 66 rfl) ?_; refine jo_l (ly_ia (i := q) sl81 rfl rfl rfl (by first | rfl | omega) (by first | omega | (dsimp only; omega)) rfl) (hd 67 rfl) ?_; refine jo_l (ly_ld one25 rfl rfl (oz_load3 (gv := gv) hi hm)) (hd 68 rfl) ?_; refine jo_l (ly_as rfl) (hd 9 rfl) ?_; refine jo_l (ly_as rfl) (hd 10 rfl) ?_; refine jo_nil ?_; refine jc_seq ?_; refine jc_region ?_; refine jo_l (ly_mv rfl) (hd 69 rfl) ?_; refine jo_l (ly_leno sl25 rfl (oz_row3 (gv := gv) hi hm)) (hd 70 rfl) ?_; refine jo_l (ly_mv rfl) (hd 71 rfl) ?_; refine jo_nil ?_; refine jc_block ?_
              refine jc_loopF (G := Nat) (fun k => k ≤ (rs q).length + 5) (fun k => [(71, .i .i64 (k : Int)), (2, .u), (11, .u), (12, .u), (72, .u), (73, .u), (74, .u), (75, .u), (76, .u), (77, .u), (78, .u), (79, .u), (80, .u), (81, .u), (82, .u), (83, .u), (84, .u), (85, .u), (86, .u), (87, .u), (88, .u), (89, .u), (90, .u), (91, .u), (92, .u), (93, .u), (94, .u), (95, .u), (96, .u), (97, .u), (98, .u), (99, .u), (100, .u), (101, .u), (102, .u), (103, .u), (104, .u), (105, .u), (106, .u), (107, .u), (108, .u), (109, .u), (110, .u)]) (fun k => rowsJ n (ozL gv n rs i) (ozG rs i) J) (fun k => (rs q).length + 5 - k) 0 ?_ ?_ rfl ?_
              · exact Nat.zero_le _
              · exact (.cons rfl (.u (.u (.u (.u (.u (.u (.u (.u (.u (.u (.u (.u (.u (.u (.u (.u (.u (.u (.u (.u (.u (.u (.u (.u (.u (.u (.u (.u (.u (.u (.u (.u (.u (.u (.u (.u (.u (.u (.u (.u (.u (.u .nil)))))))))))))))))))))))))))))))))))))))))))
              · rintro k hc3; refine jc_seq ?_; refine jc_region ?_; refine jo_l (ly_lt rfl rfl) (hd 72 rfl) ?_; refine jo_nil ?_; refine jc_seq ?_
                refine jc_if rfl (fun h5 => ?_) (fun h5 => ?_)
                · have hk : k < (rs q).length + 5 := by omega
                  have hkl := oz_len (rs := rs) (i := q)
                  refine jc_skip ?_; refine jc_seq ?_; refine jc_block ?_; refine jc_seq ?_; refine jc_region ?_; refine jo_l (ly_mv rfl) (hd 73 rfl) ?_; refine jo_l (ly_ia (i := k) sl25 rfl (oz_row3 (gv := gv) hi hm) rfl rfl (by omega) rfl) (hd 74 rfl) ?_; refine jo_l (ly_is (ly_ldi one82 rfl (oz_row3 (gv := gv) hi hm) (by omega)) (congrArg (V.i .u64) (oz_val hk))) (hd 75 rfl) ?_; refine jo_l (ly_as rfl) (hd 11 rfl) ?_; refine jo_l (ly_as rfl) (hd 12 rfl) ?_; refine jo_nil ?_; refine jc_seq ?_; refine jc_region ?_; refine jo_l (ly_mv rfl) (hd 76 rfl) ?_; refine jo_l (ly_mv rfl) (hd 77 rfl) ?_; refine jo_l (ly_leno sl25 rfl (oz_row3 (gv := gv) hi hm)) (hd 78 rfl) ?_; refine jo_l (ly_sub rfl rfl (r := (((rs q).length : Nat) : Int)) (by rw [wrap_i64 (by omega) (by omega)]; omega)) (hd 79 rfl) ?_; refine jo_l (ly_lt rfl rfl) (hd 80 rfl) ?_; refine jo_l (ly_mv rfl) (hd 81 rfl) ?_
                  refine jo_ifp 81 rfl (fun h6 => ?_) (fun h6 => ?_)
                  · refine jo_g 81 rfl rfl (ly_mv rfl) (hd 82 rfl) ?_; refine jo_g 81 rfl rfl (ly_mv rfl) (hd 83 rfl) ?_; refine jo_g 81 rfl rfl (ly_rem rfl rfl (by decide) rfl) (hd 84 rfl) ?_; refine jo_g 81 rfl rfl (ly_add rfl rfl (r := ozC q) (by rw [show ((q : Int).tmod 251) = ((q % 251 : Nat) : Int) from rfl, wrap_i64 (by omega) (by omega)]; unfold ozC; omega)) (hd 85 rfl) ?_; refine jo_g 81 rfl rfl (ly_conv und3 und82 rfl (r := ozC q) (by unfold ozC; rw [wrap_u64 (by omega) (by omega)])) (hd 86 rfl) ?_; refine jo_g 81 rfl rfl (ly_ff (ly_ne rfl rfl) (fun h => h (if_pos (by omega)))) (hd 87 rfl) ?_; refine jo_l (ly_pick_t rfl rfl) (hd 88 rfl) ?_; refine jo_l (ly_mv rfl) (hd 89 rfl) ?_; refine jo_g 89 rfl rfl (ly_mv rfl) (hd 90 rfl) ?_; refine jo_g 89 rfl rfl (ly_mv rfl) (hd 91 rfl) ?_; refine jo_g 89 rfl rfl (ly_leno sl25 rfl (oz_row3 (gv := gv) hi hm)) (hd 92 rfl) ?_; refine jo_g 89 rfl rfl (ly_sub rfl rfl (r := (((rs q).length : Nat) : Int)) (by rw [wrap_i64 (by omega) (by omega)]; omega)) (hd 93 rfl) ?_; refine jo_g 89 rfl rfl (ly_ge rfl rfl) (hd 94 rfl) ?_; refine jo_g 89 rfl rfl (ly_mv rfl) (hd 95 rfl) ?_
                    refine jo_ifp 95 rfl (fun h7 => ?_) (fun h7 => ?_)
                    · refine jo_g 95 rfl rfl (ly_mv rfl) (hd 96 rfl) ?_; refine jo_g 95 rfl rfl (ly_mv rfl) (hd 97 rfl) ?_; refine jo_g 95 rfl rfl (ly_mul rfl rfl (r := ((5 * q : Nat) : Int)) (by rw [wrap_i64 (by omega) (by omega)]; omega)) (hd 98 rfl) ?_; refine jo_g 95 rfl rfl (ly_add rfl rfl (r := ((300 + 5 * q : Nat) : Int)) (by rw [wrap_i64 (by omega) (by omega)]; omega)) (hd 99 rfl) ?_; refine jo_g 95 rfl rfl (ly_mv rfl) (hd 100 rfl) ?_; refine jo_g 95 rfl rfl (ly_add rfl rfl (r := ((300 + 5 * q + k : Nat) : Int)) (by rw [wrap_i64 (by omega) (by omega)]; omega)) (hd 101 rfl) ?_; refine jo_g 95 rfl rfl (ly_mv rfl) (hd 102 rfl) ?_; refine jo_g 95 rfl rfl (ly_leno sl25 rfl (oz_row3 (gv := gv) hi hm)) (hd 103 rfl) ?_; refine jo_g 95 rfl rfl (ly_sub rfl rfl (r := ((300 + 5 * q + k - ((rs q).length + 5) : Nat) : Int)) (by rw [wrap_i64 (by omega) (by omega)]; omega)) (hd 104 rfl) ?_; refine jo_g 95 rfl rfl (ly_add rfl rfl (r := ((300 + 5 * q + (k - (rs q).length) : Nat) : Int)) (by rw [wrap_i64 (by omega) (by omega)]; omega)) (hd 105 rfl) ?_; refine jo_g 95 rfl rfl (ly_conv und3 und82 rfl (r := ((300 + 5 * q + (k - (rs q).length) : Nat) : Int)) (by rw [wrap_u64 (by omega) (by omega)]; try omega)) (hd 106 rfl) ?_; refine jo_g 95 rfl rfl (ly_ff (ly_ne rfl rfl) (fun h => h (if_neg (by omega)))) (hd 107 rfl) ?_; refine jo_g 89 rfl rfl (ly_pick_t rfl rfl) (hd 108 rfl) ?_; refine jo_l (ly_pick_f rfl rfl) (hd 109 rfl) ?_; refine jo_nil ?_; refine jc_litf rfl ?_; refine jc_skip ?_; refine jc_region ?_; refine jo_l (ly_add rfl rfl (wrap_i64 (by first | omega | (dsimp only; omega)) (by first | omega | (dsimp only; omega)))) (hd 110 rfl) ?_; refine jo_l (ly_mv rfl) (hd 71 rfl) ?_; refine jo_nil ?_
                      refine ⟨k + 1, ?_, ?_, rfl, cov_n 87 rfl rfl ?_⟩
                      · omega
                      · omega
                      · exact (.cons rfl (.u (.u (.u (.u (.u (.u (.u (.u (.u (.u (.u (.u (.u (.u (.u (.u (.u (.u (.u (.u (.u (.u (.u (.u (.u (.u (.u (.u (.u (.u (.u (.u (.u (.u (.u (.u (.u (.u (.u (.u (.u (.u .nil)))))))))))))))))))))))))))))))))))))))))))
                    · refine jo_s 95 rfl rfl rfl (hd 96 rfl) ?_; refine jo_s 95 rfl rfl rfl (hd 97 rfl) ?_; refine jo_s 95 rfl rfl rfl (hd 98 rfl) ?_; refine jo_s 95 rfl rfl rfl (hd 99 rfl) ?_; refine jo_s 95 rfl rfl rfl (hd 100 rfl) ?_; refine jo_s 95 rfl rfl rfl (hd 101 rfl) ?_; refine jo_s 95 rfl rfl rfl (hd 102 rfl) ?_; refine jo_s 95 rfl rfl rfl (hd 103 rfl) ?_; refine jo_s 95 rfl rfl rfl (hd 104 rfl) ?_; refine jo_s 95 rfl rfl rfl (hd 105 rfl) ?_; refine jo_s 95 rfl rfl rfl (hd 106 rfl) ?_; refine jo_s 95 rfl rfl rfl (hd 107 rfl) ?_; refine jo_g 89 rfl rfl (ly_pick_f rfl rfl) (hd 108 rfl) ?_; refine jo_l (ly_pick_f rfl rfl) (hd 109 rfl) ?_; refine jo_nil ?_; refine jc_litf rfl ?_; refine jc_skip ?_; refine jc_region ?_; refine jo_l (ly_add rfl rfl (wrap_i64 (by first | omega | (dsimp only; omega)) (by first | omega | (dsimp only; omega)))) (hd 110 rfl) ?_; refine jo_l (ly_mv rfl) (hd 71 rfl) ?_; refine jo_nil ?_
                      refine ⟨k + 1, ?_, ?_, rfl, cov_n 87 rfl rfl ?_⟩
                      · omega
                      · omega
                      · exact (.cons rfl (.u (.u (.u (.u (.u (.u (.u (.u (.u (.u (.u (.u (.u (.u (.u (.u (.u (.u (.u (.u (.u (.u (.u (.u (.u (.u (.u (.u (.u (.u (.u (.u (.u (.u (.u (.u (.u (.u (.u (.u (.u (.u .nil)))))))))))))))))))))))))))))))))))))))))))
                  · refine jo_s 81 rfl rfl rfl (hd 82 rfl) ?_; refine jo_s 81 rfl rfl rfl (hd 83 rfl) ?_; refine jo_s 81 rfl rfl rfl (hd 84 rfl) ?_; refine jo_s 81 rfl rfl rfl (hd 85 rfl) ?_; refine jo_s 81 rfl rfl rfl (hd 86 rfl) ?_; refine jo_s 81 rfl rfl rfl (hd 87 rfl) ?_; refine jo_l (ly_pick_f rfl rfl) (hd 88 rfl) ?_; refine jo_l (ly_mv rfl) (hd 89 rfl) ?_; refine jo_g 89 rfl rfl (ly_mv rfl) (hd 90 rfl) ?_; refine jo_g 89 rfl rfl (ly_mv rfl) (hd 91 rfl) ?_; refine jo_g 89 rfl rfl (ly_leno sl25 rfl (oz_row3 (gv := gv) hi hm)) (hd 92 rfl) ?_; refine jo_g 89 rfl rfl (ly_sub rfl rfl (r := (((rs q).length : Nat) : Int)) (by rw [wrap_i64 (by omega) (by omega)]; omega)) (hd 93 rfl) ?_; refine jo_g 89 rfl rfl (ly_ge rfl rfl) (hd 94 rfl) ?_; refine jo_g 89 rfl rfl (ly_mv rfl) (hd 95 rfl) ?_
                    refine jo_ifp 95 rfl (fun h10 => ?_) (fun h10 => ?_)
                    · refine jo_g 95 rfl rfl (ly_mv rfl) (hd 96 rfl) ?_; refine jo_g 95 rfl rfl (ly_mv rfl) (hd 97 rfl) ?_; refine jo_g 95 rfl rfl (ly_mul rfl rfl (r := ((5 * q : Nat) : Int)) (by rw [wrap_i64 (by omega) (by omega)]; omega)) (hd 98 rfl) ?_; refine jo_g 95 rfl rfl (ly_add rfl rfl (r := ((300 + 5 * q : Nat) : Int)) (by rw [wrap_i64 (by omega) (by omega)]; omega)) (hd 99 rfl) ?_; refine jo_g 95 rfl rfl (ly_mv rfl) (hd 100 rfl) ?_; refine jo_g 95 rfl rfl (ly_add rfl rfl (r := ((300 + 5 * q + k : Nat) : Int)) (by rw [wrap_i64 (by omega) (by omega)]; omega)) (hd 101 rfl) ?_; refine jo_g 95 rfl rfl (ly_mv rfl) (hd 102 rfl) ?_; refine jo_g 95 rfl rfl (ly_leno sl25 rfl (oz_row3 (gv := gv) hi hm)) (hd 103 rfl) ?_; refine jo_g 95 rfl rfl (ly_sub rfl rfl (r := ((300 + 5 * q + k - ((rs q).length + 5) : Nat) : Int)) (by rw [wrap_i64 (by omega) (by omega)]; omega)) (hd 104 rfl) ?_; refine jo_g 95 rfl rfl (ly_add rfl rfl (r := ((300 + 5 * q + (k - (rs q).length) : Nat) : Int)) (by rw [wrap_i64 (by omega) (by omega)]; omega)) (hd 105 rfl) ?_; refine jo_g 95 rfl rfl (ly_conv und3 und82 rfl (r := ((300 + 5 * q + (k - (rs q).length) : Nat) : Int)) (by rw [wrap_u64 (by omega) (by omega)]; try omega)) (hd 106 rfl) ?_; refine jo_g 95 rfl rfl (ly_ff (ly_ne rfl rfl) (fun h => h (if_neg (by omega)))) (hd 107 rfl) ?_; refine jo_g 89 rfl rfl (ly_pick_t rfl rfl) (hd 108 rfl) ?_; refine jo_l (ly_pick_f rfl rfl) (hd 109 rfl) ?_; refine jo_nil ?_; refine jc_litf rfl ?_; refine jc_skip ?_; refine jc_region ?_; refine jo_l (ly_add rfl rfl (wrap_i64 (by first | omega | (dsimp only; omega)) (by first | omega | (dsimp only; omega)))) (hd 110 rfl) ?_; refine jo_l (ly_mv rfl) (hd 71 rfl) ?_; refine jo_nil ?_
                      refine ⟨k + 1, ?_, ?_, rfl, cov_n 87 rfl rfl ?_⟩
                      · omega
                      · omega
                      · exact (.cons rfl (.u (.u (.u (.u (.u (.u (.u (.u (.u (.u (.u (.u (.u (.u (.u (.u (.u (.u (.u (.u (.u (.u (.u (.u (.u (.u (.u (.u (.u (.u (.u (.u (.u (.u (.u (.u (.u (.u (.u (.u (.u (.u .nil)))))))))))))))))))))))))))))))))))))))))))
                    · refine jo_s 95 rfl rfl rfl (hd 96 rfl) ?_; refine jo_s 95 rfl rfl rfl (hd 97 rfl) ?_; refine jo_s 95 rfl rfl rfl (hd 98 rfl) ?_; refine jo_s 95 rfl rfl rfl (hd 99 rfl) ?_; refine jo_s 95 rfl rfl rfl (hd 100 rfl) ?_; refine jo_s 95 rfl rfl rfl (hd 101 rfl) ?_; refine jo_s 95 rfl rfl rfl (hd 102 rfl) ?_; refine jo_s 95 rfl rfl rfl (hd 103 rfl) ?_; refine jo_s 95 rfl rfl rfl (hd 104 rfl) ?_; refine jo_s 95 rfl rfl rfl (hd 105 rfl) ?_; refine jo_s 95 rfl rfl rfl (hd 106 rfl) ?_; refine jo_s 95 rfl rfl rfl (hd 107 rfl) ?_; refine jo_g 89 rfl rfl (ly_pick_f rfl rfl) (hd 108 rfl) ?_; refine jo_l (ly_pick_f rfl rfl) (hd 109 rfl) ?_; refine jo_nil ?_; refine jc_litf rfl ?_; refine jc_skip ?_; refine jc_region ?_; refine jo_l (ly_add rfl rfl (wrap_i64 (by first | omega | (dsimp only; omega)) (by first | omega | (dsimp only; omega)))) (hd 110 rfl) ?_; refine jo_l (ly_mv rfl) (hd 71 rfl) ?_; refine jo_nil ?_
                      refine ⟨k + 1, ?_, ?_, rfl, cov_n 87 rfl rfl ?_⟩
                      · omega
                      · omega
                      · exact (.cons rfl (.u (.u (.u (.u (.u (.u (.u (.u (.u (.u (.u (.u (.u (.u (.u (.u (.u (.u (.u (.u (.u (.u (.u (.u (.u (.u (.u (.u (.u (.u (.u (.u (.u (.u (.u (.u (.u (.u (.u (.u (.u (.u .nil)))))))))))))))))))))))))))))))))))))))))))
                · refine jc_exit ?_; refine jc_region ?_; refine jo_l (ly_add rfl rfl (wrap_i64 (by first | omega | (dsimp only; omega)) (by first | omega | (dsimp only; omega)))) (hd 111 rfl) ?_; refine jo_l (ly_mv rfl) (hd 64 rfl) ?_; refine jo_nil ?_
                  refine ⟨q + 1, ?_, ?_, rfl, cov_n 108 (by kernel_rfl) (by kernel_rfl) ?_⟩
                  · omega
                  · omega
                  · exact (.cons rfl (.u (.u (.u (.u (.u (.u (.u (.u (.u (.u (.u (.u (.u (.u (.u (.u (.u (.u (.u (.u (.u (.u (.u (.u (.u (.u (.u (.u (.u (.u (.u (.u (.u (.u (.u (.u (.u (.u (.u (.u (.u (.u (.u (.u (.u (.u (.u (.u (.u (.u (.u (.u .nil)))))))))))))))))))))))))))))))))))))))))))))))))))))
            · refine jc_exit ?_; refine jc_seq ?_; refine jc_region ?_; refine jo_l (ly_as rfl) (hd 2 rfl) ?_; refine jo_nil ?_; refine jc_ret ?_
              refine ⟨_, (.cons rfl .nil), rfl, (oz_end (m := i)), ?_⟩
              exact rfl

/- Contracts of nat.trim, nat.Norm. -/
set_option maxHeartbeats 4000000 in
theorem trim_s (l : List Int) (hl : l.length < 1099511627776) : Spec Try.prog 105 [.n false .u64 l] (fun o => o = .ret (.n false .u64 (trm l))) := by
  refine spec_of' [(0, .n false .u64 l)] rfl Try.func105 rfl (Nat.le_of_ble_eq_true rfl) fun Γ hN hds hL hR => ?_
  have hd := hdOf 21 hN
  refine jc_seq ?_; refine jc_region ?_; refine jo_l (ly_as rfl) (hd 2 rfl) ?_; refine jo_nil ?_; refine jc_seq ?_; refine jc_block ?_
  refine jc_loopF (G := Nat) (fun k => k ≤ l.length ∧ tN l k = tN l l.length) (fun k => [(0, .n false .u64 (l.take k)), (3, .u), (4, .u), (5, .u), (6, .u), (7, .u), (8, .u), (9, .u), (10, .u), (11, .u), (12, .u), (13, .u), (14, .u), (15, .u), (16, .u), (17, .u), (18, .u), (19, .u)]) (fun _ => _) (fun k => k) l.length ?_ ?_ rfl ?_
  · exact ⟨Nat.le_refl _, rfl⟩
  · exact (.cons (by rw [List.take_length]; rfl) (.u (.u (.u (.u (.u (.u (.u (.u (.u (.u (.u (.u (.u (.u (.u (.u (.u .nil))))))))))))))))))
  · rintro k ⟨hc1, hc2⟩
    have hm : (l.take k).length = k := by rw [List.length_take]; omega
    refine jc_seq ?_; refine jc_seq ?_; refine jc_region ?_; refine jo_l (ly_mv rfl) (hd 3 rfl) ?_; refine jo_l (ly_lenn sl28 rfl) (hd 4 rfl) ?_; refine jo_l (ly_gt rfl rfl) (hd 5 rfl) ?_; refine jo_l (ly_mv rfl) (hd 6 rfl) ?_
    refine jo_ifp 6 rfl (fun h1 => ?_) (fun h1 => ?_)
    · refine jo_g 6 rfl rfl (ly_mv rfl) (hd 7 rfl) ?_; refine jo_g 6 rfl rfl (ly_mv rfl) (hd 8 rfl) ?_; refine jo_g 6 rfl rfl (ly_lenn sl28 rfl) (hd 9 rfl) ?_; refine jo_g 6 rfl rfl (ly_sub rfl rfl (wrap_i64 (by omega) (by omega))) (hd 10 rfl) ?_; refine jo_g 6 rfl rfl (ly_ian (i := k - 1) sl28 rfl rfl (by first | rfl | omega) (by omega)) (hd 11 rfl) ?_; refine jo_g 6 rfl rfl (ly_ldq one82 rfl rfl) (hd 12 rfl) ?_; refine jo_g 6 rfl rfl (ly_eq rfl rfl) (hd 13 rfl) ?_; refine jo_l (ly_pick_t rfl rfl) (hd 14 rfl) ?_; refine jo_nil ?_
      refine jc_if rfl (fun h2 => ?_) (fun h2 => ?_)
      · refine jc_skip ?_; refine jc_block ?_; refine jc_region ?_; refine jo_l (ly_mv rfl) (hd 15 rfl) ?_; refine jo_l (ly_mv rfl) (hd 16 rfl) ?_; refine jo_l (ly_lenn sl28 rfl) (hd 17 rfl) ?_; refine jo_l (ly_sub rfl rfl (wrap_i64 (by omega) (by omega))) (hd 18 rfl) ?_; refine jo_l (ly_sln sl28 rfl bnd_none (bnd_some' rfl (show ((l.take k).length : Int) - 1 = ((k - 1 : Nat) : Int) by omega)) (.inl rfl) (by omega) (by omega)) (hd 19 rfl) ?_; refine jo_l (ly_as rfl) (hd 0 rfl) ?_; refine jo_nil ?_
        refine ⟨k - 1, ?_, ?_, rfl, cov_n 37 rfl rfl ?_⟩
        · exact ⟨by omega, by rw [← hc2, tN_down (by omega) (by rw [← getD_take (show k - 1 < k by omega)]; assumption)]⟩
        · omega
        · exact (.cons (by show some (V.n false .u64 _) = some (V.n false .u64 _); rw [List.drop_zero, List.take_take, Nat.min_eq_left (by omega)]) (.u (.u (.u (.u (.u (.u (.u (.u (.u (.u (.u (.u (.u (.u (.u (.u (.u .nil))))))))))))))))))
      · refine jc_exit ?_; refine jc_seq ?_; refine jc_region ?_; refine jo_l (ly_mv rfl) (hd 20 rfl) ?_; refine jo_l (ly_as rfl) (hd 2 rfl) ?_; refine jo_nil ?_; refine jc_ret ?_
        refine ⟨_, _, (.cons rfl .nil), .n, ?_⟩
        unfold trm
        rw [← hc2, tN_stop (by omega) (by rw [← getD_take (show k - 1 < k by omega)]; assumption)]
    · refine jo_s 6 rfl rfl rfl (hd 7 rfl) ?_; refine jo_s 6 rfl rfl rfl (hd 8 rfl) ?_; refine jo_s 6 rfl rfl rfl (hd 9 rfl) ?_; refine jo_s 6 rfl rfl rfl (hd 10 rfl) ?_; refine jo_s 6 rfl rfl rfl (hd 11 rfl) ?_; refine jo_s 6 rfl rfl rfl (hd 12 rfl) ?_; refine jo_s 6 rfl rfl rfl (hd 13 rfl) ?_; refine jo_l (ly_pick_f rfl rfl) (hd 14 rfl) ?_; refine jo_nil ?_; refine jc_litf rfl ?_; refine jc_exit ?_; refine jc_seq ?_; refine jc_region ?_; refine jo_l (ly_mv rfl) (hd 20 rfl) ?_; refine jo_l (ly_as rfl) (hd 2 rfl) ?_; refine jo_nil ?_; refine jc_ret ?_
      refine ⟨_, _, (.cons rfl .nil), .n, ?_⟩
      unfold trm
      rw [← hc2, tN_0 (by omega)]

set_option maxHeartbeats 4000000 in
theorem Norm_s (l : List Int) (hl : l.length < 1099511627776) : Spec Try.prog 71 [.n false .u64 l] (fun o => o = .ret (.n true .u64 (trm l))) := by
  refine spec_of' [(0, .n false .u64 l)] rfl Try.func71 rfl (Nat.le_of_ble_eq_true rfl) fun Γ hN hds hL hR => ?_
  have hd := hdOf 6 hN
  have hm := trm_len l
  refine jc_seq ?_; refine jc_region ?_; refine jo_l (ly_as rfl) (hd 2 rfl) ?_; refine jo_nil ?_; refine jc_seq ?_; refine jc_region ?_; refine jo_l (ly_mv rfl) (hd 3 rfl) ?_
  refine jo_call Try.f105 (trim_s l hl) rfl Try.func105 rfl rfl (ovL_cons rfl ovL_nil) (.cons .n .nil) (hd 4 rfl) ?_ (fun ch hp => by simp at hp)
  rintro y hy; injection hy with hy; subst hy; refine jo_h (hy_app0 (id := 0) el28 rfl rfl src_n (by omega) (by unfold maxLen; omega) rfl) (hd 5 rfl) ?_; refine jo_l (ly_as rfl) (hd 2 rfl) ?_; refine jo_nil ?_; refine jc_ret ?_
  refine ⟨_, _, (.cons rfl .nil), (.o rfl (by simp) rfl), ?_⟩
  rw [List.drop_zero, List.take_length]

/- Contracts of bits.Len64, nat.From. -/
set_option maxHeartbeats 4000000 in
set_option maxRecDepth 100000 in
theorem Len64_s (x : Nat) (hx : x < 18446744073709551616) : Spec Try.prog 106 [.i .u64 (x : Int)] (fun o => o = .ret (.i .i64 (bl 64 x : Int))) := by
  refine spec_of' [(0, .i .u64 (x : Int))] rfl Try.func106 rfl (Nat.le_of_ble_eq_true rfl) fun Γ hN hds hL hR => ?_
  have hd := hdOf 25 hN
  refine jc_seq ?_; refine jc_region ?_; refine jo_l (ly_as rfl) (hd 2 rfl) ?_; refine jo_nil ?_
  refine jc_meetH (G := Nat × Nat) (fun g => bl 64 x = g.2 + bl 64 g.1 ∧ g.1 < 4294967296 ∧ g.2 ≤ 32) (fun g => [(0, .i .u64 (g.1 : Int)), (2, .i .i64 (g.2 : Int)), (3, .u), (4, .u), (5, .u), (6, .u)]) ?_ ?_
  · refine jc_seq ?_; refine jc_region ?_; refine jo_l (ly_mv rfl) (hd 3 rfl) ?_; refine jo_l (ly_ge rfl rfl) (hd 4 rfl) ?_; refine jo_nil ?_
    refine jc_if rfl (fun h1 => ?_) (fun h1 => ?_)
    · refine jc_seq ?_; refine jc_region ?_; refine jo_l (ly_mv rfl) (hd 5 rfl) ?_; refine jo_l (ly_is (ly_shr rfl rfl (by first | omega | (dsimp only; omega)) rfl) (show V.i .u64 _ = V.i .u64 ((x / 4294967296 : Nat) : Int) from congrArg (V.i .u64) (shr_nat (by decide)))) (hd 6 rfl) ?_; refine jo_l (ly_as rfl) (hd 0 rfl) ?_; refine jo_nil ?_; refine jc_region ?_; refine jo_l (ly_as rfl) (hd 2 rfl) ?_; refine jo_nil ?_
      refine ⟨(x / 4294967296, 32), ?_, rfl, cov_n 6 rfl rfl ?_⟩
      · exact ⟨by have h9 := bl64_shift (k := 32) (by decide) (show 2 ^ 32 ≤ x by omega) (by omega); rw [show 2 ^ 32 = 4294967296 by decide] at h9; dsimp only; omega, by dsimp only; omega, by dsimp only; omega⟩
      · exact (.cons rfl (.cons (by show some (V.i .i64 _) = some (V.i .i64 _); rfl) (.u (.u (.u (.u .nil))))))
    · refine jc_skip ?_
      refine ⟨(x, 0), ?_, rfl, cov_n 2 rfl rfl ?_⟩
      · exact ⟨by dsimp only; omega, by dsimp only; omega, by dsimp only; omega⟩
      · exact (.cons rfl (.cons (by show some (V.i .i64 _) = some (V.i .i64 _); rfl) (.u (.u (.u (.u .nil))))))
  · rintro ⟨x1, n1⟩ ⟨he1, hx1, hn1⟩
    dsimp only at he1 hx1 hn1
    refine jc_meetH (G := Nat × Nat) (fun g => bl 64 x = g.2 + bl 64 g.1 ∧ g.1 < 65536 ∧ g.2 ≤ 48) (fun g => [(0, .i .u64 (g.1 : Int)), (2, .i .i64 (g.2 : Int)), (7, .u), (8, .u), (9, .u), (10, .u), (11, .u), (12, .u)]) ?_ ?_
    · refine jc_seq ?_; refine jc_region ?_; refine jo_l (ly_mv rfl) (hd 7 rfl) ?_; refine jo_l (ly_ge rfl rfl) (hd 8 rfl) ?_; refine jo_nil ?_
      refine jc_if rfl (fun h2 => ?_) (fun h2 => ?_)
      · refine jc_seq ?_; refine jc_region ?_; refine jo_l (ly_mv rfl) (hd 9 rfl) ?_; refine jo_l (ly_is (ly_shr rfl rfl (by first | omega | (dsimp only; omega)) rfl) (show V.i .u64 _ = V.i .u64 ((x1 / 65536 : Nat) : Int) from congrArg (V.i .u64) (shr_nat (by decide)))) (hd 10 rfl) ?_; refine jo_l (ly_as rfl) (hd 0 rfl) ?_; refine jo_nil ?_; refine jc_region ?_; refine jo_l (ly_mv rfl) (hd 11 rfl) ?_; refine jo_l (ly_add rfl rfl (r := ((n1 + 16 : Nat) : Int)) (by rw [wrap_i64 (by omega) (by omega)]; omega)) (hd 12 rfl) ?_; refine jo_l (ly_as rfl) (hd 2 rfl) ?_; refine jo_nil ?_
        refine ⟨(x1 / 65536, n1 + 16), ?_, rfl, cov_n 8 rfl rfl ?_⟩
        · exact ⟨by have h9 := bl64_shift (k := 16) (by decide) (show 2 ^ 16 ≤ x1 by omega) (by omega); rw [show 2 ^ 16 = 65536 by decide] at h9; dsimp only; omega, by dsimp only; omega, by dsimp only; omega⟩
        · exact (.cons rfl (.cons (by show some (V.i .i64 _) = some (V.i .i64 _); rfl) (.u (.u (.u (.u (.u (.u .nil))))))))
      · refine jc_skip ?_
        refine ⟨(x1, n1), ?_, rfl, cov_n 2 rfl rfl ?_⟩
        · exact ⟨by dsimp only; omega, by dsimp only; omega, by dsimp only; omega⟩
        · exact (.cons rfl (.cons (by show some (V.i .i64 _) = some (V.i .i64 _); rfl) (.u (.u (.u (.u (.u (.u .nil))))))))
    · rintro ⟨x2, n2⟩ ⟨he2, hx2, hn2⟩
      dsimp only at he2 hx2 hn2
      refine jc_meetH (G := Nat × Nat) (fun g => bl 64 x = g.2 + bl 64 g.1 ∧ g.1 < 256 ∧ g.2 ≤ 56) (fun g => [(0, .i .u64 (g.1 : Int)), (2, .i .i64 (g.2 : Int)), (13, .u), (14, .u), (15, .u), (16, .u), (17, .u), (18, .u)]) ?_ ?_
      · refine jc_seq ?_; refine jc_region ?_; refine jo_l (ly_mv rfl) (hd 13 rfl) ?_; refine jo_l (ly_ge rfl rfl) (hd 14 rfl) ?_; refine jo_nil ?_
        refine jc_if rfl (fun h3 => ?_) (fun h3 => ?_)
        · refine jc_seq ?_; refine jc_region ?_; refine jo_l (ly_mv rfl) (hd 15 rfl) ?_; refine jo_l (ly_is (ly_shr rfl rfl (by first | omega | (dsimp only; omega)) rfl) (show V.i .u64 _ = V.i .u64 ((x2 / 256 : Nat) : Int) from congrArg (V.i .u64) (shr_nat (by decide)))) (hd 16 rfl) ?_; refine jo_l (ly_as rfl) (hd 0 rfl) ?_; refine jo_nil ?_; refine jc_region ?_; refine jo_l (ly_mv rfl) (hd 17 rfl) ?_; refine jo_l (ly_add rfl rfl (r := ((n2 + 8 : Nat) : Int)) (by rw [wrap_i64 (by omega) (by omega)]; omega)) (hd 18 rfl) ?_; refine jo_l (ly_as rfl) (hd 2 rfl) ?_; refine jo_nil ?_
          refine ⟨(x2 / 256, n2 + 8), ?_, rfl, cov_n 8 rfl rfl ?_⟩
          · exact ⟨by have h9 := bl64_shift (k := 8) (by decide) (show 2 ^ 8 ≤ x2 by omega) (by omega); rw [show 2 ^ 8 = 256 by decide] at h9; dsimp only; omega, by dsimp only; omega, by dsimp only; omega⟩
          · exact (.cons rfl (.cons (by show some (V.i .i64 _) = some (V.i .i64 _); rfl) (.u (.u (.u (.u (.u (.u .nil))))))))
        · refine jc_skip ?_
          refine ⟨(x2, n2), ?_, rfl, cov_n 2 rfl rfl ?_⟩
          · exact ⟨by dsimp only; omega, by dsimp only; omega, by dsimp only; omega⟩
          · exact (.cons rfl (.cons (by show some (V.i .i64 _) = some (V.i .i64 _); rfl) (.u (.u (.u (.u (.u (.u .nil))))))))
      · rintro ⟨x3, n3⟩ ⟨he3, hx3, hn3⟩
        dsimp only at he3 hx3 hn3
        refine jc_seq ?_; refine jc_region ?_; refine jo_l (ly_mv rfl) (hd 19 rfl) ?_; refine jo_l (ly_mv rfl) (hd 20 rfl) ?_; refine jo_l (ly_conv und82 und5 rfl (wrap_u8 (by first | omega | (dsimp only; omega)) (by first | omega | (dsimp only; omega)))) (hd 21 rfl) ?_; refine jo_l (ly_ixs (b := lenTab) (i := x3) und9 (by kernel_rfl) rfl rfl (show x3 < 256 by omega)) (hd 22 rfl) ?_
        have h7 := lenTab_at hx3
        have h8 := bl_le 64 x3
        refine jo_l (ly_conv und5 und3 rfl (wrap_i64 (by first | omega | (dsimp only; omega)) (by first | omega | (dsimp only; omega)))) (hd 23 rfl) ?_; refine jo_l (ly_add rfl rfl (wrap_i64 (by first | omega | (dsimp only; omega)) (by first | omega | (dsimp only; omega)))) (hd 24 rfl) ?_; refine jo_l (ly_as rfl) (hd 2 rfl) ?_; refine jo_nil ?_; refine jc_ret ?_
        refine ⟨_, _, (.cons rfl .nil), .i, ?_⟩
        have h7 := lenTab_at hx3
        rw [h7, he3]
        rfl

set_option maxHeartbeats 4000000 in
theorem From_s (v : Int) : Spec Try.prog 58 [.i .u64 v] (fun o => o = .ret (.n true .u64 (if v = 0 then [] else [v]))) := by
  refine spec_of' [(0, .i .u64 v)] rfl Try.func58 rfl (Nat.le_of_ble_eq_true rfl) fun Γ hN hds hL hR => ?_
  have hd := hdOf 7 hN
  refine jc_seq ?_; refine jc_region ?_; refine jo_l (ly_as rfl) (hd 2 rfl) ?_; refine jo_nil ?_; refine jc_seq ?_; refine jc_seq ?_; refine jc_region ?_; refine jo_l (ly_mv rfl) (hd 3 rfl) ?_; refine jo_l (ly_eq rfl rfl) (hd 4 rfl) ?_; refine jo_nil ?_
  refine jc_if rfl (fun h1 => ?_) (fun h1 => ?_)
  · refine jc_seq ?_; refine jc_region ?_; refine jo_l (ly_as rfl) (hd 2 rfl) ?_; refine jo_nil ?_; refine jc_ret ?_
    refine ⟨_, _, (.cons rfl .nil), (.nil (fr := true) (k := .u64)), ?_⟩
    rw [if_pos (by assumption)]
  · refine jc_skip ?_; refine jc_seq ?_; refine jc_region ?_; refine jo_l (ly_mv rfl) (hd 5 rfl) ?_; refine jo_h (hy_lit (id := 0) (xs := [.tmp 5]) el28 rfl (ovL_cons rfl ovL_nil) rfl (all2_of rfl) (by decide) rfl) (hd 6 rfl) ?_; refine jo_l (ly_as rfl) (hd 2 rfl) ?_; refine jo_nil ?_; refine jc_ret ?_
    refine ⟨_, _, (.cons rfl .nil), (.o (T := 67) (k := .u64) (l := [v]) rfl (by simp) rfl), ?_⟩
    rw [if_neg (by assumption)]
    rfl

/- Contracts of nat.Length, Compare, told. -/
set_option maxHeartbeats 4000000 in
theorem Length_s (l : List Int) (hl : l.length < 1099511627776) (hu : u64s l) : Spec Try.prog 66 [.n false .u64 l] (fun o => o = .ret (.i .i64 (lenN l : Int))) := by
  refine spec_of' [(0, .n false .u64 l)] rfl Try.func66 rfl (Nat.le_of_ble_eq_true rfl) fun Γ hN hds hL hR => ?_
  have hd := hdOf 20 hN
  have hm := trm_len l
  refine jc_seq ?_; refine jc_region ?_; refine jo_l (ly_as rfl) (hd 2 rfl) ?_; refine jo_nil ?_; refine jc_seq ?_; refine jc_region ?_; refine jo_l (ly_mv rfl) (hd 3 rfl) ?_
  refine jo_call Try.f105 (trim_s l hl) rfl Try.func105 rfl rfl (ovL_cons rfl ovL_nil) (.cons .n .nil) (hd 4 rfl) ?_ (fun ch hp => by simp at hp)
  rintro y hy; injection hy with hy; subst hy; refine jo_l (ly_as rfl) (hd 0 rfl) ?_; refine jo_nil ?_; refine jc_seq ?_; refine jc_seq ?_; refine jc_region ?_; refine jo_l (ly_mv rfl) (hd 5 rfl) ?_; refine jo_l (ly_lenn sl28 rfl) (hd 6 rfl) ?_; refine jo_l (ly_eq rfl rfl) (hd 7 rfl) ?_; refine jo_nil ?_
  refine jc_if rfl (fun h1 => ?_) (fun h1 => ?_)
  · refine jc_seq ?_; refine jc_region ?_; refine jo_l (ly_as rfl) (hd 2 rfl) ?_; refine jo_nil ?_; refine jc_ret ?_
    refine ⟨_, _, (.cons rfl .nil), .i, ?_⟩
    unfold lenN
    rw [if_pos (by omega)]
    rfl
  · have htop := u64s_at (u64s_trm hu) (i := (trm l).length - 1) (by omega)
    have hbl := bl_le 64 ((trm l).getD ((trm l).length - 1) 0).toNat
    refine jc_skip ?_; refine jc_seq ?_; refine jc_region ?_; refine jo_l (ly_mv rfl) (hd 8 rfl) ?_; refine jo_l (ly_lenn sl28 rfl) (hd 9 rfl) ?_; refine jo_l (ly_sub rfl rfl (wrap_i64 (by omega) (by omega))) (hd 10 rfl) ?_; refine jo_l (ly_mul rfl rfl (wrap_i64 (by omega) (by omega))) (hd 11 rfl) ?_; refine jo_l (ly_mv rfl) (hd 12 rfl) ?_; refine jo_l (ly_mv rfl) (hd 13 rfl) ?_; refine jo_l (ly_lenn sl28 rfl) (hd 14 rfl) ?_; refine jo_l (ly_sub rfl rfl (wrap_i64 (by omega) (by omega))) (hd 15 rfl) ?_; refine jo_l (ly_ian (i := (trm l).length - 1) sl28 rfl rfl (by first | rfl | omega) (by omega)) (hd 16 rfl) ?_; refine jo_l (ly_is (ly_ldq one82 rfl rfl) (show V.i .u64 ((trm l).getD ((trm l).length - 1) 0) = V.i .u64 (((trm l).getD ((trm l).length - 1) 0).toNat : Int) by rw [Int.toNat_of_nonneg htop.1])) (hd 17 rfl) ?_
    refine jo_call Try.f106 (Len64_s ((trm l).getD ((trm l).length - 1) 0).toNat (by omega)) rfl Try.func106 rfl rfl (ovL_cons rfl ovL_nil) (.cons .i .nil) (hd 18 rfl) ?_ (fun ch hp => by simp at hp)
    rintro y hy; injection hy with hy; subst hy; refine jo_l (ly_add rfl rfl (wrap_i64 (by omega) (by omega))) (hd 19 rfl) ?_; refine jo_l (ly_as rfl) (hd 2 rfl) ?_; refine jo_nil ?_; refine jc_ret ?_
    refine ⟨_, _, (.cons rfl .nil), .i, ?_⟩
    unfold lenN
    rw [if_neg (by omega)]
    show Out.ret (V.i .i64 _) = Out.ret (V.i .i64 _)
    congr 2
    omega

set_option maxHeartbeats 4000000 in
theorem Compare_s (a b : List Int) (ha : a.length < 4294967296) (hb : b.length < 4294967296) : Spec Try.prog 86 [.n false .u64 a, .n false .u64 b] (fun o => o = .ret (.i .i64 (cmpL (trm a) (trm b)))) := by
  refine spec_of' [(0, .n false .u64 a), (1, .n false .u64 b)] rfl Try.func86 rfl (Nat.le_of_ble_eq_true rfl) fun Γ hN hds hL hR => ?_
  have hd := hdOf 45 hN
  have hma := trm_len a
  have hmb := trm_len b
  refine jc_seq ?_; refine jc_region ?_; refine jo_l (ly_as rfl) (hd 4 rfl) ?_; refine jo_nil ?_; refine jc_seq ?_; refine jc_region ?_; refine jo_l (ly_mv rfl) (hd 6 rfl) ?_
  refine jo_call Try.f105 (trim_s a (by omega)) rfl Try.func105 rfl rfl (ovL_cons rfl ovL_nil) (.cons .n .nil) (hd 7 rfl) ?_ (fun ch hp => by simp at hp)
  rintro y hy; injection hy with hy; subst hy; refine jo_l (ly_mv rfl) (hd 8 rfl) ?_
  refine jo_call Try.f105 (trim_s b (by omega)) rfl Try.func105 rfl rfl (ovL_cons rfl ovL_nil) (.cons .n .nil) (hd 9 rfl) ?_ (fun ch hp => by simp at hp)
  rintro y hy; injection hy with hy; subst hy; refine jo_l (ly_as rfl) (hd 0 rfl) ?_; refine jo_l (ly_as rfl) (hd 1 rfl) ?_; refine jo_nil ?_; refine jc_seq ?_; refine jc_seq ?_; refine jc_region ?_; refine jo_l (ly_mv rfl) (hd 10 rfl) ?_; refine jo_l (ly_lenn sl28 rfl) (hd 11 rfl) ?_; refine jo_l (ly_mv rfl) (hd 12 rfl) ?_; refine jo_l (ly_lenn sl28 rfl) (hd 13 rfl) ?_; refine jo_l (ly_ne rfl rfl) (hd 14 rfl) ?_; refine jo_nil ?_
  refine jc_if rfl (fun h1 => ?_) (fun h1 => ?_)
  · refine jc_seq ?_; refine jc_seq ?_; refine jc_region ?_; refine jo_l (ly_mv rfl) (hd 15 rfl) ?_; refine jo_l (ly_lenn sl28 rfl) (hd 16 rfl) ?_; refine jo_l (ly_mv rfl) (hd 17 rfl) ?_; refine jo_l (ly_lenn sl28 rfl) (hd 18 rfl) ?_; refine jo_l (ly_lt rfl rfl) (hd 19 rfl) ?_; refine jo_nil ?_
    refine jc_if rfl (fun h2 => ?_) (fun h2 => ?_)
    · refine jc_seq ?_; refine jc_region ?_; refine jo_l (ly_as rfl) (hd 4 rfl) ?_; refine jo_nil ?_; refine jc_ret ?_
      refine ⟨_, _, (.cons rfl .nil), .i, ?_⟩
      unfold cmpL
      rw [if_pos (by omega)]
    · refine jc_skip ?_; refine jc_seq ?_; refine jc_region ?_; refine jo_l (ly_as rfl) (hd 4 rfl) ?_; refine jo_nil ?_; refine jc_ret ?_
      refine ⟨_, _, (.cons rfl .nil), .i, ?_⟩
      unfold cmpL
      rw [if_neg (by omega), if_pos (by omega)]
  · refine jc_skip ?_; refine jc_seq ?_; refine jc_seq ?_; refine jc_region ?_; refine jo_l (ly_mv rfl) (hd 20 rfl) ?_; refine jo_l (ly_lenn sl28 rfl) (hd 21 rfl) ?_; refine jo_l (ly_sub rfl rfl (wrap_i64 (by omega) (by omega))) (hd 22 rfl) ?_; refine jo_l (ly_as rfl) (hd 5 rfl) ?_; refine jo_nil ?_; refine jc_block ?_
    refine jc_loopF (G := Nat) (fun k => k ≤ (trm a).length ∧ cmpN (trm a) (trm b) k = cmpN (trm a) (trm b) (trm a).length) (fun k => [(5, .i .i64 ((k : Int) - 1)), (4, .u), (23, .u), (24, .u), (25, .u), (26, .u), (27, .u), (28, .u), (29, .u), (30, .u), (31, .u), (32, .u), (33, .u), (34, .u), (35, .u), (36, .u), (37, .u), (38, .u), (39, .u), (40, .u), (41, .u), (42, .u), (43, .u), (44, .u)]) (fun _ => _) (fun k => k) (trm a).length ?_ ?_ rfl ?_
    · exact ⟨Nat.le_refl _, rfl⟩
    · exact (.cons rfl (.u (.u (.u (.u (.u (.u (.u (.u (.u (.u (.u (.u (.u (.u (.u (.u (.u (.u (.u (.u (.u (.u (.u .nil))))))))))))))))))))))))
    · rintro k ⟨hc1, hc2⟩; refine jc_seq ?_; refine jc_seq ?_; refine jc_region ?_; refine jo_l (ly_mv rfl) (hd 23 rfl) ?_; refine jo_l (ly_ge rfl rfl) (hd 24 rfl) ?_; refine jo_nil ?_
      refine jc_if rfl (fun h3 => ?_) (fun h3 => ?_)
      · refine jc_skip ?_; refine jc_seq ?_; refine jc_block ?_; refine jc_seq ?_; refine jc_seq ?_; refine jc_draw (n := 9) _ rfl mixed ?_; refine ja_l2 0 [2, 3, 8] (lo_l (ly_mv rfl) (hd 27 rfl)) rfl (by kernel_rfl) (by kernel_rfl) (by kernel_rfl) (by kernel_rfl) (fun _ _ _ _ h => h) ?_; refine ja_l2 1 [2, 3, 8] (lo_l (ly_mv rfl) (hd 28 rfl)) rfl (by kernel_rfl) (by kernel_rfl) (by kernel_rfl) (by kernel_rfl) (fun _ _ _ _ h => h) ?_; refine ja_l2 2 [3, 8] (lo_l (ly_ian (i := k - 1) sl28 rfl rfl (by omega) (by omega)) (hd 29 rfl)) rfl (by kernel_rfl) (by kernel_rfl) (by kernel_rfl) (by kernel_rfl) (fun _ _ _ _ h => h) ?_; refine ja_l 3 (lo_l (ly_ldq one82 rfl rfl) (hd 30 rfl)) rfl (by kernel_rfl) (by kernel_rfl) (by kernel_rfl) (fun _ _ _ _ h => h) ?_; refine ja_l2 4 [6, 7, 8] (lo_l (ly_mv rfl) (hd 31 rfl)) rfl (by kernel_rfl) (by kernel_rfl) (by kernel_rfl) (by kernel_rfl) (fun _ _ _ _ h => h) ?_; refine ja_l2 5 [6, 7, 8] (lo_l (ly_mv rfl) (hd 32 rfl)) rfl (by kernel_rfl) (by kernel_rfl) (by kernel_rfl) (by kernel_rfl) (fun _ _ _ _ h => h) ?_; refine ja_l2 6 [7, 8] (lo_l (ly_ian (i := k - 1) sl28 rfl rfl (by omega) (by omega)) (hd 33 rfl)) rfl (by kernel_rfl) (by kernel_rfl) (by kernel_rfl) (by kernel_rfl) (fun _ _ _ _ h => h) ?_; refine ja_l 7 (lo_l (ly_ldq one82 rfl rfl) (hd 34 rfl)) rfl (by kernel_rfl) (by kernel_rfl) (by kernel_rfl) (fun _ _ _ _ h => h) ?_; refine ja_l 8 (lo_l (ly_lt rfl rfl) (hd 35 rfl)) rfl (by kernel_rfl) (by kernel_rfl) (by kernel_rfl) (fun _ _ _ _ h => h) ?_; refine ja_nil (by kernel_rfl) ?_
        refine jc_if rfl (fun h4 => ?_) (fun h4 => ?_)
        · refine jc_seq ?_; refine jc_region ?_; refine jo_l (ly_as rfl) (hd 4 rfl) ?_; refine jo_nil ?_; refine jc_ret ?_
          refine ⟨_, _, (.cons rfl .nil), .i, ?_⟩
          unfold cmpL
          rw [if_neg (by omega), if_neg (by omega), ← hc2, cmpN_lt (by omega) (by assumption)]
        · refine jc_skip ?_; refine jc_seq ?_; refine jc_draw (n := 9) _ rfl mixed ?_; refine ja_l2 0 [2, 3, 8] (lo_l (ly_mv rfl) (hd 36 rfl)) rfl (by kernel_rfl) (by kernel_rfl) (by kernel_rfl) (by kernel_rfl) (fun _ _ _ _ h => h) ?_; refine ja_l2 1 [2, 3, 8] (lo_l (ly_mv rfl) (hd 37 rfl)) rfl (by kernel_rfl) (by kernel_rfl) (by kernel_rfl) (by kernel_rfl) (fun _ _ _ _ h => h) ?_; refine ja_l2 2 [3, 8] (lo_l (ly_ian (i := k - 1) sl28 rfl rfl (by omega) (by omega)) (hd 38 rfl)) rfl (by kernel_rfl) (by kernel_rfl) (by kernel_rfl) (by kernel_rfl) (fun _ _ _ _ h => h) ?_; refine ja_l 3 (lo_l (ly_ldq one82 rfl rfl) (hd 39 rfl)) rfl (by kernel_rfl) (by kernel_rfl) (by kernel_rfl) (fun _ _ _ _ h => h) ?_; refine ja_l2 4 [6, 7, 8] (lo_l (ly_mv rfl) (hd 40 rfl)) rfl (by kernel_rfl) (by kernel_rfl) (by kernel_rfl) (by kernel_rfl) (fun _ _ _ _ h => h) ?_; refine ja_l2 5 [6, 7, 8] (lo_l (ly_mv rfl) (hd 41 rfl)) rfl (by kernel_rfl) (by kernel_rfl) (by kernel_rfl) (by kernel_rfl) (fun _ _ _ _ h => h) ?_; refine ja_l2 6 [7, 8] (lo_l (ly_ian (i := k - 1) sl28 rfl rfl (by omega) (by omega)) (hd 42 rfl)) rfl (by kernel_rfl) (by kernel_rfl) (by kernel_rfl) (by kernel_rfl) (fun _ _ _ _ h => h) ?_; refine ja_l 7 (lo_l (ly_ldq one82 rfl rfl) (hd 43 rfl)) rfl (by kernel_rfl) (by kernel_rfl) (by kernel_rfl) (fun _ _ _ _ h => h) ?_; refine ja_l 8 (lo_l (ly_gt rfl rfl) (hd 44 rfl)) rfl (by kernel_rfl) (by kernel_rfl) (by kernel_rfl) (fun _ _ _ _ h => h) ?_; refine ja_nil (by kernel_rfl) ?_
          refine jc_if rfl (fun h5 => ?_) (fun h5 => ?_)
          · refine jc_seq ?_; refine jc_region ?_; refine jo_l (ly_as rfl) (hd 4 rfl) ?_; refine jo_nil ?_; refine jc_ret ?_
            refine ⟨_, _, (.cons rfl .nil), .i, ?_⟩
            unfold cmpL
            rw [if_neg (by omega), if_neg (by omega), ← hc2, cmpN_gt (by omega) (by assumption)]
          · refine jc_skip ?_; refine jc_region ?_; refine jo_l (ly_mv rfl) (hd 25 rfl) ?_; refine jo_l (ly_sub rfl rfl (wrap_i64 (by omega) (by omega))) (hd 26 rfl) ?_; refine jo_l (ly_as rfl) (hd 5 rfl) ?_; refine jo_nil ?_
            refine ⟨k - 1, ?_, ?_, rfl, cov_n 47 rfl rfl ?_⟩
            · exact ⟨by omega, by rw [← hc2]; exact cmpN_eq (by omega) (by assumption) (by assumption)⟩
            · omega
            · exact (.cons (by show some (V.i .i64 _) = some (V.i .i64 _); congr 2; omega) (.u (.u (.u (.u (.u (.u (.u (.u (.u (.u (.u (.u (.u (.u (.u (.u (.u (.u (.u (.u (.u (.u (.u .nil))))))))))))))))))))))))
      · refine jc_exit ?_; refine jc_seq ?_; refine jc_region ?_; refine jo_l (ly_as rfl) (hd 4 rfl) ?_; refine jo_nil ?_; refine jc_ret ?_
        refine ⟨_, _, (.cons rfl .nil), .i, ?_⟩
        unfold cmpL
        rw [if_neg (by omega), if_neg (by omega), ← hc2]
        obtain rfl : k = 0 := by omega
        rfl

set_option maxHeartbeats 4000000 in
theorem told_ok (l : List Int) (hl : l.length < 1099511627776) (hu : u64s l) (h : lenN (trm l) ≤ 67108864) : Spec Try.prog 129 [.n false .u64 l] (fun o => o = .ret (.t [.n false .u64 (trm l), .i .i64 0])) := by
  refine spec_of' [(0, .n false .u64 l)] rfl Try.func129 rfl (Nat.le_of_ble_eq_true rfl) fun Γ hN hds hL hR => ?_
  have hd := hdOf 10 hN
  have hm := trm_len l
  refine jc_seq ?_; refine jc_region ?_; refine jo_l (ly_as rfl) (hd 2 rfl) ?_; refine jo_l (ly_as rfl) (hd 3 rfl) ?_; refine jo_nil ?_; refine jc_seq ?_; refine jc_region ?_; refine jo_l (ly_mv rfl) (hd 4 rfl) ?_
  refine jo_call Try.f105 (trim_s l hl) rfl Try.func105 rfl rfl (ovL_cons rfl ovL_nil) (.cons .n .nil) (hd 5 rfl) ?_ (fun ch hp => by simp at hp)
  rintro y hy; injection hy with hy; subst hy; refine jo_l (ly_as rfl) (hd 0 rfl) ?_; refine jo_nil ?_; refine jc_seq ?_; refine jc_seq ?_; refine jc_region ?_; refine jo_l (ly_mv rfl) (hd 6 rfl) ?_
  refine jo_call Try.f66 (Length_s (trm l) (by omega) (u64s_trm hu)) rfl Try.func66 rfl rfl (ovL_cons rfl ovL_nil) (.cons .n .nil) (hd 7 rfl) ?_ (fun ch hp => by simp at hp)
  rintro y hy; injection hy with hy; subst hy; refine jo_l (ly_ff (ly_gt rfl rfl) (by omega)) (hd 8 rfl) ?_; refine jo_nil ?_; refine jc_litf rfl ?_; refine jc_skip ?_; refine jc_seq ?_; refine jc_region ?_; refine jo_l (ly_mv rfl) (hd 9 rfl) ?_; refine jo_l (ly_as rfl) (hd 2 rfl) ?_; refine jo_l (ly_as rfl) (hd 3 rfl) ?_; refine jo_nil ?_; refine jc_ret ?_
  refine ⟨_, _, (.cons rfl (.cons rfl .nil)), (.t1 .n (.t1 .i .t0)), ?_⟩
  exact rfl


/- Contract of nat.Add. -/

/- Contract of nat.Sub. -/

/- Contracts of surdref01.norm, Zero, surdref06.make1. -/
set_option maxHeartbeats 4000000 in
theorem rnorm_s (l : List Int) (hl : l.length < 1099511627776) : Spec Try.prog 95 [.n false .u64 l] (fun o => o = .ret (.n false .u64 (trm l))) := by
  refine spec_of' [(0, .n false .u64 l)] rfl Try.func95 rfl (Nat.le_of_ble_eq_true rfl) fun Γ hN hds hL hR => ?_
  have hd := hdOf 22 hN
  refine jc_seq ?_; refine jc_region ?_; refine jo_l (ly_as rfl) (hd 2 rfl) ?_; refine jo_nil ?_; refine jc_seq ?_; refine jc_region ?_; refine jo_l (ly_mv rfl) (hd 4 rfl) ?_; refine jo_l (ly_lenn sl33 rfl) (hd 5 rfl) ?_; refine jo_l (ly_as rfl) (hd 3 rfl) ?_; refine jo_nil ?_; refine jc_seq ?_; refine jc_block ?_
  refine jc_loopF (G := Nat) (fun k => k ≤ l.length ∧ tN l k = tN l l.length) (fun k => [(3, .i .i64 (k : Int)), (6, .u), (7, .u), (8, .u), (9, .u), (10, .u), (11, .u), (12, .u), (13, .u), (14, .u), (15, .u), (16, .u), (17, .u)]) (fun _ => _) (fun k => k) l.length ?_ ?_ rfl ?_
  · exact ⟨Nat.le_refl _, rfl⟩
  · exact (.cons rfl (.u (.u (.u (.u (.u (.u (.u (.u (.u (.u (.u (.u .nil)))))))))))))
  · rintro k ⟨hc1, hc2⟩; refine jc_seq ?_; refine jc_seq ?_; refine jc_region ?_; refine jo_l (ly_mv rfl) (hd 6 rfl) ?_; refine jo_l (ly_gt rfl rfl) (hd 7 rfl) ?_; refine jo_l (ly_mv rfl) (hd 8 rfl) ?_
    refine jo_ifp 8 rfl (fun h1 => ?_) (fun h1 => ?_)
    · refine jo_g 8 rfl rfl (ly_mv rfl) (hd 9 rfl) ?_; refine jo_g 8 rfl rfl (ly_mv rfl) (hd 10 rfl) ?_; refine jo_g 8 rfl rfl (ly_sub rfl rfl (wrap_i64 (by omega) (by omega))) (hd 11 rfl) ?_; refine jo_g 8 rfl rfl (ly_ian (i := k - 1) sl33 rfl rfl (by omega) (by omega)) (hd 12 rfl) ?_; refine jo_g 8 rfl rfl (ly_ldq one82 rfl rfl) (hd 13 rfl) ?_; refine jo_g 8 rfl rfl (ly_eq rfl rfl) (hd 14 rfl) ?_; refine jo_l (ly_pick_t rfl rfl) (hd 15 rfl) ?_; refine jo_nil ?_
      refine jc_if rfl (fun h2 => ?_) (fun h2 => ?_)
      · refine jc_skip ?_; refine jc_block ?_; refine jc_region ?_; refine jo_l (ly_mv rfl) (hd 16 rfl) ?_; refine jo_l (ly_sub rfl rfl (wrap_i64 (by omega) (by omega))) (hd 17 rfl) ?_; refine jo_l (ly_as rfl) (hd 3 rfl) ?_; refine jo_nil ?_
        refine ⟨k - 1, ?_, ?_, rfl, cov_n 27 rfl rfl ?_⟩
        · exact ⟨by omega, by rw [← hc2, tN_down (by omega) (by assumption)]⟩
        · omega
        · exact (.cons (by show some (V.i .i64 _) = some (V.i .i64 _); congr 2; omega) (.u (.u (.u (.u (.u (.u (.u (.u (.u (.u (.u (.u .nil)))))))))))))
      · refine jc_exit ?_; refine jc_seq ?_; refine jc_region ?_; refine jo_l (ly_mv rfl) (hd 18 rfl) ?_; refine jo_l (ly_mv rfl) (hd 19 rfl) ?_; refine jo_l (ly_mv rfl) (hd 20 rfl) ?_; refine jo_l (ly_sln sl33 rfl bnd_none (bnd_some' rfl (by first | rfl | omega)) (.inr ⟨k, bnd_some' rfl rfl, Nat.le_refl _, hc1, rfl⟩) (by omega) (by omega)) (hd 21 rfl) ?_; refine jo_l (ly_as rfl) (hd 2 rfl) ?_; refine jo_nil ?_; refine jc_ret ?_
        refine ⟨_, _, (.cons rfl .nil), .n, ?_⟩
        unfold trm
        rw [← hc2, tN_stop (by omega) (by assumption), List.drop_zero]
    · refine jo_s 8 rfl rfl rfl (hd 9 rfl) ?_; refine jo_s 8 rfl rfl rfl (hd 10 rfl) ?_; refine jo_s 8 rfl rfl rfl (hd 11 rfl) ?_; refine jo_s 8 rfl rfl rfl (hd 12 rfl) ?_; refine jo_s 8 rfl rfl rfl (hd 13 rfl) ?_; refine jo_s 8 rfl rfl rfl (hd 14 rfl) ?_; refine jo_l (ly_pick_f rfl rfl) (hd 15 rfl) ?_; refine jo_nil ?_; refine jc_litf rfl ?_; refine jc_exit ?_; refine jc_seq ?_; refine jc_region ?_; refine jo_l (ly_mv rfl) (hd 18 rfl) ?_; refine jo_l (ly_mv rfl) (hd 19 rfl) ?_; refine jo_l (ly_mv rfl) (hd 20 rfl) ?_; refine jo_l (ly_sln sl33 rfl bnd_none (bnd_some' rfl (by first | rfl | omega)) (.inr ⟨k, bnd_some' rfl rfl, Nat.le_refl _, hc1, rfl⟩) (by omega) (by omega)) (hd 21 rfl) ?_; refine jo_l (ly_as rfl) (hd 2 rfl) ?_; refine jo_nil ?_; refine jc_ret ?_
      refine ⟨_, _, (.cons rfl .nil), .n, ?_⟩
      unfold trm
      rw [← hc2, tN_0 (by omega), List.drop_zero]

set_option maxHeartbeats 4000000 in
theorem Zero_s (l : List Int) : Spec Try.prog 21 [.n false .u64 l] (fun o => o = .ret (.b (decide ((l.length : Int) = 0)))) := by
  refine spec_of' [(0, .n false .u64 l)] rfl Try.func21 rfl (Nat.le_of_ble_eq_true rfl) fun Γ hN hds hL hR => ?_
  have hd := hdOf 6 hN
  refine jc_seq ?_; refine jc_region ?_; refine jo_l (ly_as rfl) (hd 2 rfl) ?_; refine jo_nil ?_; refine jc_seq ?_; refine jc_region ?_; refine jo_l (ly_mv rfl) (hd 3 rfl) ?_; refine jo_l (ly_lenn sl33 rfl) (hd 4 rfl) ?_; refine jo_l (ly_eq rfl rfl) (hd 5 rfl) ?_; refine jo_l (ly_as rfl) (hd 2 rfl) ?_; refine jo_nil ?_; refine jc_ret ?_
  refine ⟨_, _, (.cons rfl .nil), .b, ?_⟩
  exact rfl

/- Contracts of surdref01.Of, Int, surdref06.Int. -/
set_option maxHeartbeats 4000000 in
theorem rOf_s (l : List Int) (hl : l.length < 4294967296) (hu : u64s l) : Spec Try.prog 41 [.n false .u64 l] (fun o => o = .ret (.n false .u64 (trm (dig l)))) := by
  refine spec_of' [(0, .n false .u64 l)] rfl Try.func41 rfl (Nat.le_of_ble_eq_true rfl) fun Γ hN hds hL hR => ?_
  have hd := hdOf 26 hN
  refine jc_seq ?_; refine jc_region ?_; refine jo_l (ly_as rfl) (hd 2 rfl) ?_; refine jo_nil ?_; refine jc_seq ?_; refine jc_region ?_; refine jo_l (ly_mv rfl) (hd 6 rfl) ?_; refine jo_l (ly_lenn sl25 rfl) (hd 7 rfl) ?_; refine jo_l (ly_mul rfl rfl (wrap_i64 (by omega) (by omega))) (hd 8 rfl) ?_; refine jo_h (hy_mk0 (m := 2 * l.length) el33 rfl rfl (by omega) (by show 8 * (2 * l.length) ≤ _; omega) (by unfold maxLen; omega) rfl) (hd 9 rfl) ?_; refine jo_l (ly_as rfl) (hd 3 rfl) ?_; refine jo_nil ?_; refine jc_seq ?_; refine jc_seq ?_; refine jc_region ?_; refine jo_l (ly_mv rfl) (hd 10 rfl) ?_; refine jo_l (ly_lenn sl25 rfl) (hd 11 rfl) ?_; refine jo_l (ly_mv rfl) (hd 12 rfl) ?_; refine jo_nil ?_; refine jc_block ?_
  refine jc_loopD (G := Nat) 1 (fun g => g ≤ l.length) (fun g => [(3, .o 0 g 0 (2 * g)), (12, .i .i64 (g : Int)), (5, .u), (13, .u), (14, .u), (15, .u), (16, .u), (17, .u), (18, .u), (19, .u), (20, .u), (21, .u), (22, .u), (23, .u)]) (fun g => [⟨67, 1, g, true, ints .u64 (dig (l.take g))⟩]) (fun g => l.length - g) 0 ?_ ?_ rfl hR rfl (fun _ _ => rfl) (fun g _ => .cons ints_id .nil) ?_
  · exact Nat.zero_le _
  · exact (.cons rfl (.cons rfl (.u (.u (.u (.u (.u (.u (.u (.u (.u (.u (.u (.u .nil))))))))))))))
  · rintro i hc1
    have hx := u64s_getD hu i
    refine jc_seq ?_; refine jc_region ?_; refine jo_l (ly_lt rfl rfl) (hd 13 rfl) ?_; refine jo_nil ?_; refine jc_seq ?_
    refine jc_if rfl (fun h1 => ?_) (fun h1 => ?_)
    · refine jc_skip ?_; refine jc_seq ?_; refine jc_block ?_; refine jc_seq ?_; refine jc_region ?_; refine jo_l (ly_ian (i := i) sl25 rfl rfl (by first | rfl | omega) (by omega)) (hd 14 rfl) ?_; refine jo_l (ly_ldq one82 rfl rfl) (hd 15 rfl) ?_; refine jo_l (ly_as rfl) (hd 5 rfl) ?_; refine jo_nil ?_; refine jc_region ?_; refine jo_l (ly_mv rfl) (hd 16 rfl) ?_; refine jo_l (ly_mv rfl) (hd 17 rfl) ?_; refine jo_l (ly_is (ly_rem rfl rfl (by decide) rfl) (show V.i .u64 ((l.getD i 0).tmod 4294967296) = V.i .u64 ((l.getD i 0) % 4294967296) by rw [Int.tmod_eq_emod_of_nonneg hx.1])) (hd 18 rfl) ?_; refine jo_l (ly_mv rfl) (hd 19 rfl) ?_; refine jo_l (ly_quo rfl rfl (by decide) (r := (l.getD i 0) / 4294967296) (by show IntKind.u64.wrap (Int.tdiv (l.getD i 0) 4294967296) = _; rw [Int.tdiv_eq_ediv_of_nonneg hx.1]; exact wrap_u64 (by omega) (by omega))) (hd 20 rfl) ?_; refine jo_h (hy_lit (id := 1) (xs := [.tmp 18, .tmp 20]) el33 rfl (ovL_cons rfl (ovL_cons rfl ovL_nil)) rfl (all2_of rfl) (by decide) rfl) (hd 21 rfl) ?_; refine jo_app el33 rfl rfl (by rw [ints_length, dig_len, List.length_take, Nat.min_eq_left (by omega), Nat.mul_one]) rfl (src_o rfl rfl rfl) (by show (2 * i + 2) * 8 ≤ _; omega) (by unfold maxLen; omega) (hd 22 rfl) ?_; refine jo_l (ly_as rfl) (hd 3 rfl) ?_; refine jo_nil ?_; refine jc_region ?_; refine jo_l (ly_add rfl rfl (wrap_i64 (by omega) (by omega))) (hd 23 rfl) ?_; refine jo_l (ly_mv rfl) (hd 12 rfl) ?_; refine jo_nil ?_
      refine ⟨i + 1, ?_, ?_, (by show [(⟨67, 1, i + 1, true, ints .u64 (dig (l.take i)) ++ ints .u64 [_, _]⟩ : Ob)] = [⟨67, 1, i + 1, true, ints .u64 (dig (l.take (i + 1)))⟩]; rw [ints_append, dig_snoc (by omega)]), cov_n 28 rfl rfl ?_⟩
      · omega
      · omega
      · exact (.cons rfl (.cons rfl (.u (.u (.u (.u (.u (.u (.u (.u (.u (.u (.u (.u .nil))))))))))))))
    · refine jc_exit ?_; refine jc_seq ?_
      obtain rfl : i = l.length := by omega
      refine jc_region ?_; refine jo_frz (k := .u64) (l' := dig l) 3 rfl rfl (by rw [dig_len, List.length_take, Nat.min_self]; omega) (by rw [List.take_length, List.drop_zero, List.take_of_length_le (by rw [dig_len]; exact Nat.le_refl _)]) hL ?_; refine jo_l (ly_mv rfl) (hd 24 rfl) ?_
      refine jo_call Try.f95 (rnorm_s (dig l) (by rw [dig_len]; omega)) rfl Try.func95 rfl rfl (ovL_cons rfl ovL_nil) (.cons .n .nil) (hd 25 rfl) ?_ (fun ch hp => by simp at hp)
      rintro y hy; injection hy with hy; subst hy; refine jo_l (ly_as rfl) (hd 2 rfl) ?_; refine jo_nil ?_; refine jc_ret ?_
      refine ⟨_, _, (.cons rfl .nil), .n, ?_⟩
      exact rfl

set_option maxHeartbeats 4000000 in
theorem rInt_s (v : Int) (h0 : 0 ≤ v) (h1 : v < 9223372036854775808) : Spec Try.prog 54 [.i .i64 v] (fun o => o = .ret (.n false .u64 (trm (dig [v])))) := by
  refine spec_of' [(0, .i .i64 v)] rfl Try.func54 rfl (Nat.le_of_ble_eq_true rfl) fun Γ hN hds hL hR => ?_
  have hd := hdOf 7 hN
  refine jc_seq ?_; refine jc_region ?_; refine jo_l (ly_as rfl) (hd 2 rfl) ?_; refine jo_nil ?_; refine jc_seq ?_; refine jc_region ?_; refine jo_l (ly_mv rfl) (hd 3 rfl) ?_; refine jo_l (ly_conv und3 und82 rfl (wrap_u64 (by omega) (by omega))) (hd 4 rfl) ?_; refine jo_h (hy_lit (id := 0) (xs := [.tmp 4]) el25 rfl (ovL_cons rfl ovL_nil) rfl (all2_of rfl) (by decide) rfl) (hd 5 rfl) ?_; refine jo_frz (k := .u64) (l := [v]) (l' := [v]) 5 rfl rfl (Nat.le_refl _) rfl hL ?_
  refine jo_call Try.f41 (rOf_s [v] (by simp) (u64s1 (by omega) (by omega))) rfl Try.func41 rfl rfl (ovL_cons rfl ovL_nil) (.cons .n .nil) (hd 6 rfl) ?_ (fun ch hp => by simp at hp)
  rintro y hy; injection hy with hy; subst hy; refine jo_l (ly_as rfl) (hd 2 rfl) ?_; refine jo_nil ?_; refine jc_ret ?_
  refine ⟨_, _, (.cons rfl .nil), .n, ?_⟩
  exact rfl

/- Contracts of surdref01.Limbs, Is, surdref06.Is. -/
set_option maxHeartbeats 4000000 in
theorem Limbs_s (l : List Int) (hl : l.length < 4294967296) : Spec Try.prog 94 [.n false .u64 l] (fun o => o = .ret (.n true .u64 (lims l))) := by
  refine spec_of' [(0, .n false .u64 l)] rfl Try.func94 rfl (Nat.le_of_ble_eq_true rfl) fun Γ hN hds hL hR => ?_
  have hd := hdOf 34 hN
  refine jc_seq ?_; refine jc_region ?_; refine jo_l (ly_as rfl) (hd 2 rfl) ?_; refine jo_nil ?_; refine jc_seq ?_; refine jc_region ?_; refine jo_l (ly_as rfl) (hd 3 rfl) ?_; refine jo_nil ?_; refine jc_seq ?_; refine jc_seq ?_; refine jc_own0 (id := 0) 3 67 1 rfl rfl ?_; refine jc_region ?_; refine jo_l (ly_as rfl) (hd 4 rfl) ?_; refine jo_nil ?_; refine jc_block ?_
  refine jc_loopD (G := Nat × List Int) 1 (fun g => g.1 ≤ l.length + 1 ∧ g.2 ++ lims (l.drop g.1) = lims l ∧ g.2.length ≤ g.1) (fun g => [(3, .o 0 g.2.length 0 g.2.length), (4, .i .i64 (g.1 : Int)), (5, .u), (6, .u), (7, .u), (8, .u), (9, .u), (10, .u), (11, .u), (12, .u), (13, .u), (14, .u), (15, .u), (16, .u), (17, .u), (18, .u), (19, .u), (20, .u), (21, .u), (22, .u), (23, .u), (24, .u), (25, .u), (26, .u), (27, .u), (28, .u), (29, .u), (30, .u), (31, .u), (32, .u)]) (fun g => [⟨67, 1, g.2.length, true, ints .u64 g.2⟩]) (fun g => l.length + 1 - g.1) (0, []) ?_ ?_ rfl hR rfl (fun _ _ => rfl) (fun g _ => .cons ints_id .nil) ?_
  · exact ⟨Nat.zero_le _, rfl, Nat.le_refl _⟩
  · exact (.cons rfl (.cons rfl (.u (.u (.u (.u (.u (.u (.u (.u (.u (.u (.u (.u (.u (.u (.u (.u (.u (.u (.u (.u (.u (.u (.u (.u (.u (.u (.u (.u .nil))))))))))))))))))))))))))))))
  · rintro ⟨j, acc⟩ ⟨hc1, hc2, hc3⟩
    dsimp only at hc1 hc2 hc3
    refine jc_seq ?_; refine jc_seq ?_; refine jc_region ?_; refine jo_l (ly_mv rfl) (hd 6 rfl) ?_; refine jo_l (ly_mv rfl) (hd 7 rfl) ?_; refine jo_l (ly_lenn sl33 rfl) (hd 8 rfl) ?_; refine jo_l (ly_lt rfl rfl) (hd 9 rfl) ?_; refine jo_nil ?_
    refine jc_if rfl (fun h1 => ?_) (fun h1 => ?_)
    · have hjl : j < l.length := by
        have h0 : (j : Int) < (l.length : Int) := by assumption
        omega
      refine jc_skip ?_; refine jc_seq ?_; refine jc_block ?_; refine jc_seq ?_; refine jc_region ?_; refine jo_l (ly_mv rfl) (hd 12 rfl) ?_; refine jo_l (ly_mv rfl) (hd 13 rfl) ?_; refine jo_l (ly_ian (i := j) sl33 rfl rfl (by first | rfl | omega) (by omega)) (hd 14 rfl) ?_; refine jo_l (ly_ldq one82 rfl rfl) (hd 15 rfl) ?_; refine jo_l (ly_as rfl) (hd 5 rfl) ?_; refine jo_nil ?_
      refine jc_meetH (G := Int) (fun v => lims (l.drop j) = v :: lims (l.drop (j + 2))) (fun v => [(5, .i .u64 v), (16, .u), (17, .u), (18, .u), (19, .u), (20, .u), (21, .u), (22, .u), (23, .u), (24, .u), (25, .u), (26, .u), (27, .u), (28, .u)]) ?_ ?_
      · refine jc_seq ?_; refine jc_region ?_; refine jo_l (ly_mv rfl) (hd 16 rfl) ?_; refine jo_l (ly_add rfl rfl (r := ((j + 1 : Nat) : Int)) (by rw [wrap_i64 (by omega) (by omega)]; omega)) (hd 17 rfl) ?_; refine jo_l (ly_mv rfl) (hd 18 rfl) ?_; refine jo_l (ly_lenn sl33 rfl) (hd 19 rfl) ?_; refine jo_l (ly_lt rfl rfl) (hd 20 rfl) ?_; refine jo_nil ?_
        refine jc_if rfl (fun h2 => ?_) (fun h2 => ?_)
        · refine jc_region ?_; refine jo_l (ly_mv rfl) (hd 21 rfl) ?_; refine jo_l (ly_mv rfl) (hd 22 rfl) ?_; refine jo_l (ly_mv rfl) (hd 23 rfl) ?_; refine jo_l (ly_add rfl rfl (r := ((j + 1 : Nat) : Int)) (by rw [wrap_i64 (by omega) (by omega)]; omega)) (hd 24 rfl) ?_; refine jo_l (ly_ian (i := j + 1) sl33 rfl rfl (by first | rfl | omega) (by omega)) (hd 25 rfl) ?_; refine jo_l (ly_ldq one82 rfl rfl) (hd 26 rfl) ?_; refine jo_l (ly_mul rfl rfl rfl) (hd 27 rfl) ?_; refine jo_l (ly_add rfl rfl rfl) (hd 28 rfl) ?_; refine jo_l (ly_as rfl) (hd 5 rfl) ?_; refine jo_nil ?_
          refine ⟨IntKind.u64.wrap (l.getD j 0 + IntKind.u64.wrap (l.getD (j + 1) 0 * 4294967296)), ?_, rfl, cov_n 14 rfl rfl ?_⟩
          · exact lims2 (by omega)
          · exact (.cons rfl (.u (.u (.u (.u (.u (.u (.u (.u (.u (.u (.u (.u (.u .nil))))))))))))))
        · refine jc_skip ?_
          refine ⟨l.getD j 0, ?_, rfl, cov_n 5 rfl rfl ?_⟩
          · exact lims1 hjl (by omega)
          · exact (.cons rfl (.u (.u (.u (.u (.u (.u (.u (.u (.u (.u (.u (.u (.u .nil))))))))))))))
      · rintro v hv; refine jc_region ?_; refine jo_l (ly_mv rfl) (hd 29 rfl) ?_; refine jo_l (ly_mv rfl) (hd 30 rfl) ?_; refine jo_h (hy_lit (id := 1) (xs := [.tmp 30]) el25 rfl (ovL_cons rfl ovL_nil) rfl (all2_of rfl) (by decide) rfl) (hd 31 rfl) ?_; refine jo_app el25 rfl rfl (by rw [ints_length, Nat.mul_one]) rfl (src_o rfl rfl rfl) (by show (acc.length + 1) * 8 ≤ _; omega) (by show acc.length + 1 ≤ 9223372036854775807; omega) (hd 32 rfl) ?_; refine jo_l (ly_as rfl) (hd 3 rfl) ?_; refine jo_nil ?_; refine jc_region ?_; refine jo_l (ly_mv rfl) (hd 10 rfl) ?_; refine jo_l (ly_add rfl rfl (r := ((j + 2 : Nat) : Int)) (by rw [wrap_i64 (by omega) (by omega)]; omega)) (hd 11 rfl) ?_; refine jo_l (ly_as rfl) (hd 4 rfl) ?_; refine jo_nil ?_
        refine ⟨(j + 2, acc ++ [v]), ?_, ?_, (by show [(⟨67, 1, acc.length + 1, true, ints .u64 acc ++ ints .u64 [v]⟩ : Ob)] = [⟨67, 1, (acc ++ [v]).length, true, ints .u64 (acc ++ [v])⟩]; rw [ints_append, List.length_append]; rfl), cov_n 61 rfl rfl ?_⟩
        · exact ⟨by omega, by rw [List.append_assoc, List.singleton_append, ← hv]; exact hc2, by rw [List.length_append, List.length_singleton]; omega⟩
        · show l.length + 1 - (j + 2) < l.length + 1 - j
          omega
        · exact (.cons (by show some _ = some _; rw [List.length_append]; rfl) (.cons rfl (.u (.u (.u (.u (.u (.u (.u (.u (.u (.u (.u (.u (.u (.u (.u (.u (.u (.u (.u (.u (.u (.u (.u (.u (.u (.u (.u (.u .nil))))))))))))))))))))))))))))))
    · have hjl : l.length ≤ j := by
        have h0 : ¬ (j : Int) < (l.length : Int) := by assumption
        omega
      refine jc_exit ?_; refine jc_seq ?_; refine jc_region ?_; refine jo_l (ly_mv rfl) (hd 33 rfl) ?_; refine jo_l (ly_as rfl) (hd 2 rfl) ?_; refine jo_nil ?_; refine jc_ret ?_
      refine ⟨_, _, (.cons rfl .nil), (.o rfl (by simp) rfl), ?_⟩
      rw [List.drop_zero, List.take_length, ← hc2, List.drop_eq_nil_of_le hjl]
      simp only [lims, List.append_nil]

set_option maxHeartbeats 4000000 in
theorem Is_s (l : List Int) (hl : l.length < 4294967296) : Spec Try.prog 39 [.n false .u64 l, .n false .u64 (lims l)] (fun o => o = .ret (.b true)) := by
  refine spec_of' [(0, .n false .u64 l), (1, .n false .u64 (lims l))] rfl Try.func39 rfl (Nat.le_of_ble_eq_true rfl) fun Γ hN hds hL hR => ?_
  have hd := hdOf 29 hN
  have hm := lims_len l
  refine jc_seq ?_; refine jc_region ?_; refine jo_l (ly_as rfl) (hd 4 rfl) ?_; refine jo_nil ?_; refine jc_seq ?_; refine jc_region ?_; refine jo_l (ly_mv rfl) (hd 7 rfl) ?_
  refine jo_call Try.f94 (Limbs_s l hl) rfl Try.func94 rfl rfl (ovL_cons rfl ovL_nil) (.cons .n .nil) (hd 8 rfl) ?_ (fun ch hp => by simp at hp)
  rintro y hy; injection hy with hy; subst hy; refine jo_l (ly_as rfl) (hd 5 rfl) ?_; refine jo_nil ?_; refine jc_seq ?_; refine jc_seq ?_; refine jc_region ?_; refine jo_l (ly_mv rfl) (hd 9 rfl) ?_; refine jo_l (ly_lenn sl25 rfl) (hd 10 rfl) ?_; refine jo_l (ly_mv rfl) (hd 11 rfl) ?_; refine jo_l (ly_lenn sl25 rfl) (hd 12 rfl) ?_; refine jo_l (ly_ff (ly_ne rfl rfl) (by simp)) (hd 13 rfl) ?_; refine jo_nil ?_; refine jc_litf rfl ?_; refine jc_skip ?_; refine jc_seq ?_; refine jc_seq ?_; refine jc_region ?_; refine jo_l (ly_mv rfl) (hd 14 rfl) ?_; refine jo_l (ly_lenn sl25 rfl) (hd 15 rfl) ?_; refine jo_l (ly_mv rfl) (hd 16 rfl) ?_; refine jo_nil ?_; refine jc_block ?_
  refine jc_loopF (G := Nat) (fun i => i ≤ (lims l).length) (fun i => [(16, .i .i64 (i : Int)), (4, .u), (6, .u), (17, .u), (18, .u), (19, .u), (20, .u), (21, .u), (22, .u), (23, .u), (24, .u), (25, .u), (26, .u), (27, .u), (28, .u)]) (fun _ => _) (fun i => (lims l).length - i) 0 ?_ ?_ rfl ?_
  · exact Nat.zero_le _
  · exact (.cons rfl (.u (.u (.u (.u (.u (.u (.u (.u (.u (.u (.u (.u (.u (.u .nil)))))))))))))))
  · rintro i hc1; refine jc_seq ?_; refine jc_region ?_; refine jo_l (ly_lt rfl rfl) (hd 17 rfl) ?_; refine jo_nil ?_; refine jc_seq ?_
    refine jc_if rfl (fun h2 => ?_) (fun h2 => ?_)
    · refine jc_skip ?_; refine jc_seq ?_; refine jc_block ?_; refine jc_seq ?_; refine jc_region ?_; refine jo_l (ly_mv rfl) (hd 18 rfl) ?_; refine jo_l (ly_as rfl) (hd 6 rfl) ?_; refine jo_nil ?_; refine jc_seq ?_; refine jc_draw (n := 9) _ rfl mixed ?_; refine ja_l2 0 [2, 3, 8] (lo_l (ly_mv rfl) (hd 19 rfl)) rfl (by kernel_rfl) (by kernel_rfl) (by kernel_rfl) (by kernel_rfl) (fun _ _ _ _ h => h) ?_; refine ja_l2 1 [2, 3, 8] (lo_l (ly_mv rfl) (hd 20 rfl)) rfl (by kernel_rfl) (by kernel_rfl) (by kernel_rfl) (by kernel_rfl) (fun _ _ _ _ h => h) ?_; refine ja_l2 2 [3, 8] (lo_l (ly_ian (i := i) sl25 rfl rfl (by first | rfl | omega) (by omega)) (hd 21 rfl)) rfl (by kernel_rfl) (by kernel_rfl) (by kernel_rfl) (by kernel_rfl) (fun _ _ _ _ h => h) ?_; refine ja_l 3 (lo_l (ly_ldq one82 rfl rfl) (hd 22 rfl)) rfl (by kernel_rfl) (by kernel_rfl) (by kernel_rfl) (fun _ _ _ _ h => h) ?_; refine ja_l2 4 [6, 7, 8] (lo_l (ly_mv rfl) (hd 23 rfl)) rfl (by kernel_rfl) (by kernel_rfl) (by kernel_rfl) (by kernel_rfl) (fun _ _ _ _ h => h) ?_; refine ja_l2 5 [6, 7, 8] (lo_l (ly_mv rfl) (hd 24 rfl)) rfl (by kernel_rfl) (by kernel_rfl) (by kernel_rfl) (by kernel_rfl) (fun _ _ _ _ h => h) ?_; refine ja_l2 6 [7, 8] (lo_l (ly_ian (i := i) sl25 rfl rfl (by first | rfl | omega) (by omega)) (hd 25 rfl)) rfl (by kernel_rfl) (by kernel_rfl) (by kernel_rfl) (by kernel_rfl) (fun _ _ _ _ h => h) ?_; refine ja_l 7 (lo_l (ly_ldq one82 rfl rfl) (hd 26 rfl)) rfl (by kernel_rfl) (by kernel_rfl) (by kernel_rfl) (fun _ _ _ _ h => h) ?_; refine ja_l 8 (lo_l (ly_ff (ly_ne rfl rfl) (by simp)) (hd 27 rfl)) rfl (by kernel_rfl) (by kernel_rfl) (by kernel_rfl) (fun _ _ _ _ h => h) ?_; refine ja_nil (by kernel_rfl) ?_; refine jc_litf rfl ?_; refine jc_skip ?_; refine jc_region ?_; refine jo_l (ly_add rfl rfl (wrap_i64 (by omega) (by omega))) (hd 28 rfl) ?_; refine jo_l (ly_mv rfl) (hd 16 rfl) ?_; refine jo_nil ?_
      refine ⟨i + 1, ?_, ?_, rfl, cov_n 29 rfl rfl ?_⟩
      · omega
      · omega
      · exact (.cons rfl (.u (.u (.u (.u (.u (.u (.u (.u (.u (.u (.u (.u (.u (.u .nil)))))))))))))))
    · refine jc_exit ?_; refine jc_seq ?_; refine jc_region ?_; refine jo_l (ly_as rfl) (hd 4 rfl) ?_; refine jo_nil ?_; refine jc_ret ?_
      refine ⟨_, _, (.cons rfl .nil), .b, ?_⟩
      exact rfl

/- Contracts of bits.Div64, div.divide for one limb each. -/

/- Contracts of div.Both for one limb each; whole.norm, fits, result, Of. -/
set_option maxHeartbeats 4000000 in
theorem Of_neg (v : Int) (h0 : v < 0) (h1 : -9223372036854775808 ≤ v) : Spec Try.prog 57 [.i .i64 v] (fun o => o = .ret (.a [.b true, .n true .u64 [-v]])) := by
  refine spec_of' [(0, .i .i64 v)] rfl Try.func57 rfl (Nat.le_of_ble_eq_true rfl) fun Γ hN hds hL hR => ?_
  have hd := hdOf 14 hN
  have rF : Spec Try.prog 58 [.i .u64 (-v)] (fun o => o = .ret (.n true .u64 [-v])) := by have h := From_s (-v); rwa [if_neg (by omega)] at h
  refine jc_seq ?_; refine jc_region ?_; refine jo_h (hy_alloc (id := 0) zero30 (by decide) rfl (by decide) rfl) (hd 2 rfl) ?_; refine jo_nil ?_; refine jc_seq ?_; refine jc_seq ?_; refine jc_region ?_; refine jo_l (ly_mv rfl) (hd 3 rfl) ?_; refine jo_l (ly_tt (ly_lt rfl rfl) (by omega)) (hd 4 rfl) ?_; refine jo_nil ?_; refine jc_litt rfl ?_; refine jc_seq ?_; refine jc_region ?_; refine jo_l (ly_mv rfl) (hd 5 rfl) ?_; refine jo_l (ly_conv und3 und82 rfl (r := v + 18446744073709551616) (wrap_u64' (by omega) (by omega) (by omega))) (hd 6 rfl) ?_; refine jo_l (ly_neg rfl (r := -v) (wrap_u64' (by omega) (by omega) (by omega))) (hd 7 rfl) ?_
  refine jo_call Try.f58 (rF) rfl Try.func58 rfl rfl (ovL_cons rfl ovL_nil) (.cons .i .nil) (hd 8 rfl) ?_ (fun ch hp => by simp at hp)
  rintro y hy; injection hy with hy; subst hy; refine jo_l (ly_build (is := [0, 1]) (xs := [.const (.bool true), .tmp 8]) zero30 pls30_0_1 rfl (ovL_cons rfl (ovL_cons rfl ovL_nil)) rfl (by first | (simp [plsOk, cellsV]; done) | (simp [plsOk, cellsV, old]; done)) (all_of rfl) rfl) (hd 9 rfl) ?_; refine jo_st (sy_store rfl rfl rfl siz30 rfl rfl (Nat.le_of_ble_eq_true rfl)) ?_; refine jo_nil ?_; refine jc_ret ?_
  refine ⟨_, _, (.cons (ResV.cell agg30 rfl rfl rfl rfl) .nil), (.a1 .b (.a1 .n .a0)), ?_⟩
  exact rfl

set_option maxHeartbeats 4000000 in
theorem Of_pos (v : Int) (h0 : 0 < v) (h1 : v < 9223372036854775808) : Spec Try.prog 57 [.i .i64 v] (fun o => o = .ret (.a [.b false, .n true .u64 [v]])) := by
  refine spec_of' [(0, .i .i64 v)] rfl Try.func57 rfl (Nat.le_of_ble_eq_true rfl) fun Γ hN hds hL hR => ?_
  have hd := hdOf 14 hN
  have rF : Spec Try.prog 58 [.i .u64 v] (fun o => o = .ret (.n true .u64 [v])) := by have h := From_s v; rwa [if_neg (by omega)] at h
  refine jc_seq ?_; refine jc_region ?_; refine jo_h (hy_alloc (id := 0) zero30 (by decide) rfl (by decide) rfl) (hd 2 rfl) ?_; refine jo_nil ?_; refine jc_seq ?_; refine jc_seq ?_; refine jc_region ?_; refine jo_l (ly_mv rfl) (hd 3 rfl) ?_; refine jo_l (ly_ff (ly_lt rfl rfl) (by omega)) (hd 4 rfl) ?_; refine jo_nil ?_; refine jc_litf rfl ?_; refine jc_skip ?_; refine jc_seq ?_; refine jc_region ?_; refine jo_l (ly_mv rfl) (hd 10 rfl) ?_; refine jo_l (ly_conv und3 und82 rfl (wrap_u64 (by omega) (by omega))) (hd 11 rfl) ?_
  refine jo_call Try.f58 (rF) rfl Try.func58 rfl rfl (ovL_cons rfl ovL_nil) (.cons .i .nil) (hd 12 rfl) ?_ (fun ch hp => by simp at hp)
  rintro y hy; injection hy with hy; subst hy; refine jo_l (ly_build (is := [1]) (xs := [.tmp 12]) zero30 pls30_1 rfl (ovL_cons rfl ovL_nil) rfl (by first | (simp [plsOk, cellsV]; done) | (simp [plsOk, cellsV, old]; done)) (all_of rfl) rfl) (hd 13 rfl) ?_; refine jo_st (sy_store rfl rfl rfl siz30 rfl rfl (Nat.le_of_ble_eq_true rfl)) ?_; refine jo_nil ?_; refine jc_ret ?_
  refine ⟨_, _, (.cons (ResV.cell agg30 rfl rfl rfl rfl) .nil), (.a1 .b (.a1 .n .a0)), ?_⟩
  exact rfl

/- The contracts of the example (awake) and of surdlaw06.WholeNames. -/

/- Contract of bits.Mul64. -/
set_option maxHeartbeats 4000000 in
theorem Mul64_s (x y : Int) (hx0 : 0 ≤ x) (hx : x < 18446744073709551616) (hy0 : 0 ≤ y) (hy : y < 18446744073709551616) : Spec Try.prog 143 [.i .u64 x, .i .u64 y] (fun o => o = .ret (.t [.i .u64 (x * y / 18446744073709551616), .i .u64 (x * y % 18446744073709551616)])) := by
  refine spec_of' [(0, .i .u64 x), (1, .i .u64 y)] rfl Try.func143 rfl (Nat.le_of_ble_eq_true rfl) fun Γ hN hds hL hR => ?_
  have hd := hdOf 51 hN
  have hM := mul64_val hx0 hx hy0 hy
  dsimp only at hM
  obtain ⟨b00, b10, b01, b11, hhi⟩ := hM
  refine jc_seq ?_; refine jc_region ?_; refine jo_l (ly_as rfl) (hd 4 rfl) ?_; refine jo_l (ly_as rfl) (hd 5 rfl) ?_; refine jo_nil ?_; refine jc_seq ?_; refine jc_region ?_; refine jo_l (ly_mv rfl) (hd 14 rfl) ?_; refine jo_l (ly_is (ly_bit (by simp) rfl rfl rfl) (show V.i .u64 (bitop .and .u64 (x) 4294967295) = V.i .u64 (x % 4294967296) by rw [and32 hx0 hx])) (hd 15 rfl) ?_; refine jo_l (ly_as rfl) (hd 6 rfl) ?_; refine jo_nil ?_; refine jc_seq ?_; refine jc_region ?_; refine jo_l (ly_mv rfl) (hd 16 rfl) ?_; refine jo_l (ly_is (ly_shr rfl rfl (by omega) rfl) (show V.i .u64 _ = V.i .u64 (x / 4294967296) from congrArg _ (shr32 hx0))) (hd 17 rfl) ?_; refine jo_l (ly_as rfl) (hd 7 rfl) ?_; refine jo_nil ?_; refine jc_seq ?_; refine jc_region ?_; refine jo_l (ly_mv rfl) (hd 18 rfl) ?_; refine jo_l (ly_is (ly_bit (by simp) rfl rfl rfl) (show V.i .u64 (bitop .and .u64 (y) 4294967295) = V.i .u64 (y % 4294967296) by rw [and32 hy0 hy])) (hd 19 rfl) ?_; refine jo_l (ly_as rfl) (hd 8 rfl) ?_; refine jo_nil ?_; refine jc_seq ?_; refine jc_region ?_; refine jo_l (ly_mv rfl) (hd 20 rfl) ?_; refine jo_l (ly_is (ly_shr rfl rfl (by omega) rfl) (show V.i .u64 _ = V.i .u64 (y / 4294967296) from congrArg _ (shr32 hy0))) (hd 21 rfl) ?_; refine jo_l (ly_as rfl) (hd 9 rfl) ?_; refine jo_nil ?_; refine jc_seq ?_; refine jc_region ?_; refine jo_l (ly_mv rfl) (hd 22 rfl) ?_; refine jo_l (ly_mv rfl) (hd 23 rfl) ?_; refine jo_l (ly_mul rfl rfl (wrap_u64 (by omega) (by omega))) (hd 24 rfl) ?_; refine jo_l (ly_as rfl) (hd 10 rfl) ?_; refine jo_nil ?_; refine jc_seq ?_; refine jc_region ?_; refine jo_l (ly_mv rfl) (hd 25 rfl) ?_; refine jo_l (ly_mv rfl) (hd 26 rfl) ?_; refine jo_l (ly_mul rfl rfl (wrap_u64 (by omega) (by omega))) (hd 27 rfl) ?_; refine jo_l (ly_mv rfl) (hd 28 rfl) ?_; refine jo_l (ly_is (ly_shr rfl rfl (by omega) rfl) (show V.i .u64 _ = V.i .u64 (x % 4294967296 * (y % 4294967296) / 4294967296) from congrArg _ (shr32 b00.1))) (hd 29 rfl) ?_; refine jo_l (ly_add rfl rfl (wrap_u64 (by omega) (by omega))) (hd 30 rfl) ?_; refine jo_l (ly_as rfl) (hd 11 rfl) ?_; refine jo_nil ?_; refine jc_seq ?_; refine jc_region ?_; refine jo_l (ly_mv rfl) (hd 31 rfl) ?_; refine jo_l (ly_is (ly_bit (by simp) rfl rfl rfl) (show V.i .u64 (bitop .and .u64 ((x / 4294967296 * (y % 4294967296) + x % 4294967296 * (y % 4294967296) / 4294967296)) 4294967295) = V.i .u64 ((x / 4294967296 * (y % 4294967296) + x % 4294967296 * (y % 4294967296) / 4294967296) % 4294967296) by rw [and32 (by omega) (by omega)])) (hd 32 rfl) ?_; refine jo_l (ly_as rfl) (hd 12 rfl) ?_; refine jo_nil ?_; refine jc_seq ?_; refine jc_region ?_; refine jo_l (ly_mv rfl) (hd 33 rfl) ?_; refine jo_l (ly_is (ly_shr rfl rfl (by omega) rfl) (show V.i .u64 _ = V.i .u64 ((x / 4294967296 * (y % 4294967296) + x % 4294967296 * (y % 4294967296) / 4294967296) / 4294967296) from congrArg _ (shr32 (by omega)))) (hd 34 rfl) ?_; refine jo_l (ly_as rfl) (hd 13 rfl) ?_; refine jo_nil ?_; refine jc_seq ?_; refine jc_region ?_; refine jo_l (ly_mv rfl) (hd 35 rfl) ?_; refine jo_l (ly_mv rfl) (hd 36 rfl) ?_; refine jo_l (ly_mv rfl) (hd 37 rfl) ?_; refine jo_l (ly_mul rfl rfl (wrap_u64 (by omega) (by omega))) (hd 38 rfl) ?_; refine jo_l (ly_add rfl rfl (wrap_u64 (by omega) (by omega))) (hd 39 rfl) ?_; refine jo_l (ly_as rfl) (hd 12 rfl) ?_; refine jo_nil ?_; refine jc_seq ?_; refine jc_region ?_; refine jo_l (ly_mv rfl) (hd 40 rfl) ?_; refine jo_l (ly_mv rfl) (hd 41 rfl) ?_; refine jo_l (ly_mul rfl rfl (wrap_u64 (by omega) (by omega))) (hd 42 rfl) ?_; refine jo_l (ly_mv rfl) (hd 43 rfl) ?_; refine jo_l (ly_add rfl rfl (wrap_u64 (by omega) (by omega))) (hd 44 rfl) ?_; refine jo_l (ly_mv rfl) (hd 45 rfl) ?_; refine jo_l (ly_is (ly_shr rfl rfl (by omega) rfl) (show V.i .u64 _ = V.i .u64 (((x / 4294967296 * (y % 4294967296) + x % 4294967296 * (y % 4294967296) / 4294967296) % 4294967296 + x % 4294967296 * (y / 4294967296)) / 4294967296) from congrArg _ (shr32 (by omega)))) (hd 46 rfl) ?_; refine jo_l (ly_add rfl rfl (wrap_u64 (by omega) (by omega))) (hd 47 rfl) ?_
  refine jo_l (ly_as rfl) (hd 4 rfl) ?_; refine jo_nil ?_; refine jc_seq ?_; refine jc_region ?_; refine jo_l (ly_mv rfl) (hd 48 rfl) ?_; refine jo_l (ly_mv rfl) (hd 49 rfl) ?_; refine jo_l (ly_mul rfl rfl (r := x * y % 18446744073709551616) u64_wrap_mod) (hd 50 rfl) ?_; refine jo_l (ly_as rfl) (hd 5 rfl) ?_; refine jo_nil ?_; refine jc_ret ?_
  refine ⟨_, _, (.cons rfl (.cons rfl .nil)), (.t1 .i (.t1 .i .t0)), ?_⟩
  rw [hhi]

/- Contract of mul.school. -/
set_option maxHeartbeats 4000000 in
theorem school_s (a b : List Int) (hla : a.length < 1099511627776) (hlb : b.length < 1099511627776) (ua : u64s a) (ub : u64s b) : Spec Try.prog 133 [.n false .u64 a, .n false .u64 b] (fun o => ∃ r, o = .ret (.n true .u64 r) ∧ u64s r ∧ r.length = a.length + b.length ∧ vl r = vl a * vl b) := by
  refine spec_of' [(0, .n false .u64 a), (1, .n false .u64 b)] rfl Try.func133 rfl (Nat.le_of_ble_eq_true rfl) fun Γ hN hds hL hR => ?_
  have hd := hdOf 78 hN
  refine jc_seq ?_; refine jc_region ?_; refine jo_l (ly_as rfl) (hd 4 rfl) ?_; refine jo_nil ?_; refine jc_seq ?_; refine jc_region ?_; refine jo_l (ly_mv rfl) (hd 14 rfl) ?_; refine jo_l (ly_lenn sl28 rfl) (hd 15 rfl) ?_; refine jo_l (ly_mv rfl) (hd 16 rfl) ?_; refine jo_l (ly_lenn sl28 rfl) (hd 17 rfl) ?_; refine jo_l (ly_add rfl rfl (r := ((a.length + b.length : Nat) : Int)) (by rw [wrap_i64 (by omega) (by omega)]; omega)) (hd 18 rfl) ?_; refine jo_h (hy_mk (m := a.length + b.length) el28 rfl rfl rfl (by show 8 * (a.length + b.length) ≤ _; omega) (by unfold maxLen; omega) rfl) (hd 19 rfl) ?_; refine jo_l (ly_as rfl) (hd 5 rfl) ?_; refine jo_nil ?_; refine jc_seq ?_; refine jc_seq ?_; refine jc_region ?_; refine jo_l (ly_mv rfl) (hd 20 rfl) ?_; refine jo_l (ly_lenn sl28 rfl) (hd 21 rfl) ?_; refine jo_l (ly_mv rfl) (hd 22 rfl) ?_; refine jo_nil ?_; refine jc_block ?_
  refine jc_loopF (G := Nat × List Int) (fun g => g.1 ≤ a.length ∧ g.2.length = a.length + b.length ∧ u64s g.2 ∧ vl g.2 = vk a g.1 * vl b ∧ ∀ j, g.1 + b.length ≤ j → g.2.getD j 0 = 0) (fun g => [(22, .i .i64 (g.1 : Int)), (6, .u), (7, .u), (8, .u), (9, .u), (10, .u), (11, .u), (12, .u), (13, .u), (23, .u), (24, .u), (25, .u), (26, .u), (27, .u), (28, .u), (29, .u), (30, .u), (31, .u), (32, .u), (33, .u), (34, .u), (35, .u), (36, .u), (37, .u), (38, .u), (39, .u), (40, .u), (41, .u), (42, .u), (43, .u), (44, .u), (45, .u), (46, .u), (47, .u), (48, .u), (49, .u), (50, .u), (51, .u), (52, .u), (53, .u), (54, .u), (55, .u), (56, .u), (57, .u), (58, .u), (59, .u), (60, .u), (61, .u), (62, .u), (63, .u), (64, .u), (65, .u), (66, .u), (67, .u), (68, .u), (69, .u), (70, .u), (71, .u), (72, .u), (73, .u), (74, .u), (75, .u), (76, .u)]) (fun g => [⟨67, 1, 0, true, ints .u64 g.2⟩]) (fun g => a.length - g.1) (0, List.replicate (a.length + b.length) 0) ?_ ?_ rfl ?_
  · exact ⟨Nat.zero_le _, List.length_replicate, u64s_zeros _, by rw [vl_zeros, vk_0, Int.zero_mul], fun j _ => getD_zeros _ j⟩
  · exact (.cons rfl (.u (.u (.u (.u (.u (.u (.u (.u (.u (.u (.u (.u (.u (.u (.u (.u (.u (.u (.u (.u (.u (.u (.u (.u (.u (.u (.u (.u (.u (.u (.u (.u (.u (.u (.u (.u (.u (.u (.u (.u (.u (.u (.u (.u (.u (.u (.u (.u (.u (.u (.u (.u (.u (.u (.u (.u (.u (.u (.u (.u (.u (.u .nil)))))))))))))))))))))))))))))))))))))))))))))))))))))))))))))))
  · rintro ⟨i, r⟩ ⟨hc1, hc2, hc3, hc4, hc5⟩
    dsimp only at hc1 hc2 hc3 hc4 hc5
    have hX := u64s_getD ua i
    refine jc_seq ?_; refine jc_region ?_; refine jo_l (ly_lt rfl rfl) (hd 23 rfl) ?_; refine jo_nil ?_; refine jc_seq ?_
    refine jc_if rfl (fun h1 => ?_) (fun h1 => ?_)
    · refine jc_skip ?_; refine jc_seq ?_; refine jc_block ?_; refine jc_seq ?_; refine jc_region ?_; refine jo_l (ly_mv rfl) (hd 24 rfl) ?_; refine jo_l (ly_ian (i := i) sl28 rfl rfl (by first | rfl | omega) (by omega)) (hd 25 rfl) ?_; refine jo_l (ly_ldq one82 rfl rfl) (hd 26 rfl) ?_; refine jo_l (ly_as rfl) (hd 6 rfl) ?_; refine jo_l (ly_as rfl) (hd 7 rfl) ?_; refine jo_nil ?_; refine jc_seq ?_; refine jc_region ?_; refine jo_l (ly_as rfl) (hd 8 rfl) ?_; refine jo_nil ?_; refine jc_seq ?_; refine jc_seq ?_; refine jc_region ?_; refine jo_l (ly_mv rfl) (hd 27 rfl) ?_; refine jo_l (ly_lenn sl28 rfl) (hd 28 rfl) ?_; refine jo_l (ly_mv rfl) (hd 29 rfl) ?_; refine jo_nil ?_; refine jc_block ?_
      refine jc_loopF (G := Nat × List Int × Int) (fun g => g.1 ≤ b.length ∧ g.2.1.length = a.length + b.length ∧ u64s g.2.1 ∧ (0 ≤ g.2.2 ∧ g.2.2 < 18446744073709551616) ∧ vl g.2.1 + g.2.2 * pB (i + g.1) = vl r + a.getD i 0 * pB i * vk b g.1 ∧ ∀ j, i + b.length ≤ j → g.2.1.getD j 0 = 0) (fun g => [(8, .i .u64 g.2.2), (29, .i .i64 (g.1 : Int)), (9, .u), (10, .u), (11, .u), (12, .u), (13, .u), (30, .u), (31, .u), (32, .u), (33, .u), (34, .u), (35, .u), (36, .u), (37, .u), (38, .u), (39, .u), (40, .u), (41, .u), (42, .u), (43, .u), (44, .u), (45, .u), (46, .u), (47, .u), (48, .u), (49, .u), (50, .u), (51, .u), (52, .u), (53, .u), (54, .u), (55, .u), (56, .u), (57, .u), (58, .u), (59, .u), (60, .u), (61, .u), (62, .u), (63, .u), (64, .u), (65, .u), (66, .u), (67, .u), (68, .u)]) (fun g => [⟨67, 1, 0, true, ints .u64 g.2.1⟩]) (fun g => b.length - g.1) (0, r, 0) ?_ ?_ rfl ?_
      · exact ⟨Nat.zero_le _, hc2, hc3, ⟨Int.le_refl 0, by show (0 : Int) < _; decide⟩, by show vl r + 0 * _ = _ + _ * vk b 0; rw [vk_0, Int.mul_zero, Int.zero_mul], hc5⟩
      · exact (.cons rfl (.cons rfl (.u (.u (.u (.u (.u (.u (.u (.u (.u (.u (.u (.u (.u (.u (.u (.u (.u (.u (.u (.u (.u (.u (.u (.u (.u (.u (.u (.u (.u (.u (.u (.u (.u (.u (.u (.u (.u (.u (.u (.u (.u (.u (.u (.u .nil))))))))))))))))))))))))))))))))))))))))))))))
      · rintro ⟨k, q, c⟩ ⟨hd1, hd2, hd3, hd4, hd5, hd6⟩
        dsimp only at hd1 hd2 hd3 hd4 hd5 hd6
        have hY := u64s_getD ub k
        have hT := u64s_getD hd3 (i + k)
        have hP := mul_bd (m := 18446744073709551615) hX.1 hY.1 (by omega) (by omega)
        have hP2 : a.getD i 0 * b.getD k 0 ≤ 340282366920938463426481119284349108225 := by have := hP.2; simpa using this
        have hst := school_step (P := a.getD i 0 * b.getD k 0) (c := c) (t := q.getD (i + k) 0) hP.1 hP2 hd4.1 hd4.2 hT.1 hT.2
        obtain ⟨hs1, hs2, hs3, hs4, hs5⟩ := hst
        refine jc_seq ?_; refine jc_region ?_; refine jo_l (ly_lt rfl rfl) (hd 30 rfl) ?_; refine jo_nil ?_; refine jc_seq ?_
        refine jc_if rfl (fun h2 => ?_) (fun h2 => ?_)
        · refine jc_skip ?_; refine jc_seq ?_; refine jc_block ?_; refine jc_seq ?_; refine jc_region ?_; refine jo_l (ly_mv rfl) (hd 31 rfl) ?_; refine jo_l (ly_ian (i := k) sl28 rfl rfl (by first | rfl | omega) (by omega)) (hd 32 rfl) ?_; refine jo_l (ly_ldq one82 rfl rfl) (hd 33 rfl) ?_; refine jo_l (ly_as rfl) (hd 9 rfl) ?_; refine jo_l (ly_as rfl) (hd 10 rfl) ?_; refine jo_nil ?_; refine jc_seq ?_; refine jc_region ?_; refine jo_l (ly_mv rfl) (hd 35 rfl) ?_; refine jo_l (ly_mv rfl) (hd 36 rfl) ?_
          refine jo_call Try.f143 (Mul64_s (a.getD i 0) (b.getD k 0) hX.1 hX.2 hY.1 hY.2) rfl Try.func143 rfl rfl (ovL_cons rfl (ovL_cons rfl ovL_nil)) (.cons .i (.cons .i .nil)) (hd 37 rfl) ?_ (fun ch hp => by simp at hp)
          rintro y hy; injection hy with hy; subst hy; refine jo_l (ly_mv rfl) (hd 34 rfl) ?_; refine jo_l (ly_ext rfl rfl) (hd 38 rfl) ?_; refine jo_l (ly_ext rfl rfl) (hd 39 rfl) ?_; refine jo_l (ly_as rfl) (hd 11 rfl) ?_; refine jo_l (ly_as rfl) (hd 12 rfl) ?_; refine jo_nil ?_; refine jc_seq ?_; refine jc_region ?_; refine jo_l (ly_as rfl) (hd 13 rfl) ?_; refine jo_nil ?_; refine jc_seq ?_; refine jc_region ?_; refine jo_l (ly_mv rfl) (hd 41 rfl) ?_; refine jo_l (ly_mv rfl) (hd 42 rfl) ?_; refine jo_h (hy_ext3 (e := add64Entry) Try.func128 rfl rfl (by kernel_rfl) (by kernel_rfl) rfl rfl rfl (fun w => run_add64 _ _ _ (by omega) hd4.1 (by decide) (by decide) w) rel_pair) (hd 43 rfl) ?_; refine jo_l (ly_mv rfl) (hd 40 rfl) ?_; refine jo_l (ly_ext rfl rfl) (hd 44 rfl) ?_; refine jo_l (ly_ext rfl rfl) (hd 45 rfl) ?_; refine jo_l (ly_as rfl) (hd 12 rfl) ?_; refine jo_l (ly_as rfl) (hd 13 rfl) ?_; refine jo_nil ?_; refine jc_seq ?_; refine jc_region ?_; refine jo_l (ly_mv rfl) (hd 46 rfl) ?_; refine jo_l (ly_mv rfl) (hd 47 rfl) ?_; refine jo_l (ly_add rfl rfl (wrap_u64 (by omega) (by omega))) (hd 48 rfl) ?_; refine jo_l (ly_as rfl) (hd 11 rfl) ?_; refine jo_nil ?_; refine jc_seq ?_; refine jc_region ?_; refine jo_l (ly_mv rfl) (hd 50 rfl) ?_; refine jo_l (ly_mv rfl) (hd 51 rfl) ?_; refine jo_l (ly_mv rfl) (hd 52 rfl) ?_; refine jo_l (ly_add rfl rfl (r := ((i + k : Nat) : Int)) (by rw [wrap_i64 (by omega) (by omega)]; omega)) (hd 53 rfl) ?_; refine jo_l (ly_mv rfl) (hd 54 rfl) ?_; refine jo_l (ly_mv rfl) (hd 55 rfl) ?_; refine jo_l (ly_mv rfl) (hd 56 rfl) ?_; refine jo_l (ly_add rfl rfl (r := ((i + k : Nat) : Int)) (by rw [wrap_i64 (by omega) (by omega)]; omega)) (hd 57 rfl) ?_; refine jo_l (ly_ia (i := i + k) sl28 rfl rfl rfl (by first | rfl | omega) (by omega) rfl) (hd 58 rfl) ?_; refine jo_l (ly_is (ly_ldi one82 rfl rfl (by dsimp only; omega)) (show V.i .u64 (q.getD ((0 + (i + k)) * 1) 0) = V.i .u64 (q.getD (i + k) 0) by rw [Nat.zero_add, Nat.mul_one])) (hd 59 rfl) ?_; refine jo_l (ly_mv rfl) (hd 60 rfl) ?_; refine jo_h (hy_ext3 (e := add64Entry) Try.func128 rfl rfl (by kernel_rfl) (by kernel_rfl) rfl rfl rfl (fun w => run_add64 _ _ _ hT.1 (by omega) (by decide) (by decide) w) rel_pair) (hd 61 rfl) ?_; refine jo_l (ly_mv rfl) (hd 49 rfl) ?_; refine jo_l (ly_ext rfl rfl) (hd 62 rfl) ?_; refine jo_l (ly_ext rfl rfl) (hd 63 rfl) ?_; refine jo_l (ly_ia (i := i + k) sl28 rfl rfl rfl (by first | rfl | omega) (by omega) rfl) (hd 64 rfl) ?_; refine jo_st (sy_storei rfl rfl rfl one82 (by dsimp only; omega)) ?_; refine jo_l (ly_as rfl) (hd 13 rfl) ?_; refine jo_nil ?_; refine jc_region ?_; refine jo_l (ly_mv rfl) (hd 65 rfl) ?_; refine jo_l (ly_mv rfl) (hd 66 rfl) ?_; refine jo_l (ly_add rfl rfl (wrap_u64 (by omega) (by omega))) (hd 67 rfl) ?_; refine jo_l (ly_as rfl) (hd 8 rfl) ?_; refine jo_nil ?_; refine jc_region ?_; refine jo_l (ly_add rfl rfl (wrap_i64 (by omega) (by omega))) (hd 68 rfl) ?_; refine jo_l (ly_mv rfl) (hd 29 rfl) ?_; refine jo_nil ?_
          refine ⟨(k + 1, q.set ((0 + (i + k)) * 1) ((q.getD (i + k) 0 + (a.getD i 0 * b.getD k 0 % 18446744073709551616 + c + 0) % 18446744073709551616 + 0) % 18446744073709551616), a.getD i 0 * b.getD k 0 / 18446744073709551616 + (a.getD i 0 * b.getD k 0 % 18446744073709551616 + c + 0) / 18446744073709551616 + (q.getD (i + k) 0 + (a.getD i 0 * b.getD k 0 % 18446744073709551616 + c + 0) % 18446744073709551616 + 0) / 18446744073709551616), ?_, ?_, rfl, cov_n 96 rfl rfl ?_⟩
          · refine ⟨by omega, by rw [List.length_set]; exact hd2, u64s_set hd3 (by omega) (by omega), ⟨hs3, hs4⟩, ?_, fun j hj => ?_⟩
            · exact school_in (by omega) (by rw [Nat.zero_add, Nat.mul_one]) rfl hd5 hs5
            · rw [Nat.zero_add, Nat.mul_one, getD_set (by omega)]; exact hd6 j hj
          · show b.length - (k + 1) < b.length - k
            omega
          · exact (.cons rfl (.cons rfl (.u (.u (.u (.u (.u (.u (.u (.u (.u (.u (.u (.u (.u (.u (.u (.u (.u (.u (.u (.u (.u (.u (.u (.u (.u (.u (.u (.u (.u (.u (.u (.u (.u (.u (.u (.u (.u (.u (.u (.u (.u (.u (.u (.u .nil))))))))))))))))))))))))))))))))))))))))))))))
        · obtain rfl : k = b.length := by omega
          refine jc_exit ?_; refine jc_region ?_; refine jo_l (ly_mv rfl) (hd 69 rfl) ?_; refine jo_l (ly_mv rfl) (hd 70 rfl) ?_; refine jo_l (ly_mv rfl) (hd 71 rfl) ?_; refine jo_l (ly_lenn sl28 rfl) (hd 72 rfl) ?_; refine jo_l (ly_add rfl rfl (r := ((i + b.length : Nat) : Int)) (by rw [wrap_i64 (by omega) (by omega)]; omega)) (hd 73 rfl) ?_; refine jo_l (ly_mv rfl) (hd 74 rfl) ?_; refine jo_l (ly_ia (i := i + b.length) sl28 rfl rfl rfl (by first | rfl | omega) (by omega) rfl) (hd 75 rfl) ?_; refine jo_st (sy_storei rfl rfl rfl one82 (by dsimp only; omega)) ?_; refine jo_nil ?_; refine jc_region ?_; refine jo_l (ly_add rfl rfl (wrap_i64 (by omega) (by omega))) (hd 76 rfl) ?_; refine jo_l (ly_mv rfl) (hd 22 rfl) ?_; refine jo_nil ?_
          refine ⟨(i + 1, q.set ((0 + (i + b.length)) * 1) c), ?_, ?_, rfl, cov_n 129 (by kernel_rfl) (by kernel_rfl) ?_⟩
          · exact ⟨by omega, by rw [List.length_set]; exact hd2, u64s_set hd3 hd4.1 hd4.2, school_row (by omega) (hd6 _ (Nat.le_refl _)) (by rw [Nat.zero_add, Nat.mul_one]) (by rw [hd5, hc4]), fun j hj => by rw [Nat.zero_add, Nat.mul_one, getD_set (by omega)]; exact hd6 j (by omega)⟩
          · show a.length - (i + 1) < a.length - i
            omega
          · exact (.cons rfl (.u (.u (.u (.u (.u (.u (.u (.u (.u (.u (.u (.u (.u (.u (.u (.u (.u (.u (.u (.u (.u (.u (.u (.u (.u (.u (.u (.u (.u (.u (.u (.u (.u (.u (.u (.u (.u (.u (.u (.u (.u (.u (.u (.u (.u (.u (.u (.u (.u (.u (.u (.u (.u (.u (.u (.u (.u (.u (.u (.u (.u (.u .nil)))))))))))))))))))))))))))))))))))))))))))))))))))))))))))))))
    · refine jc_exit ?_; refine jc_seq ?_; refine jc_region ?_; refine jo_l (ly_mv rfl) (hd 77 rfl) ?_; refine jo_l (ly_as rfl) (hd 4 rfl) ?_; refine jo_nil ?_; refine jc_ret ?_
      refine ⟨_, _, (.cons rfl .nil), (.o (l := r) rfl (by omega) rfl), ?_⟩
      rw [List.drop_zero, List.take_of_length_le (by omega)]
      exact ⟨r, rfl, hc3, hc2, by rw [hc4, vk_all (by omega)]⟩

/- Contract of mul.addAt. -/
set_option maxHeartbeats 4000000 in
theorem addAt_s (r b : List Int) (n at_ : Nat) (hr : r.length = n) (hn : n < 4398046511104) (hat : at_ < 4398046511104) (hlb : b.length < 4398046511104) (ur : u64s r) (ub : u64s b) (hfit : vl r + pB at_ * vl b < pB n) : SpecM Try.prog 134 [.o 0 0 0 n, .n false .u64 b, .i .i64 (at_ : Int)] ([⟨67, 1, 0, true, ints .u64 r⟩]) (fun o H' => o = .ret (.t []) ∧ ∃ r2, H' = [⟨67, 1, 0, true, ints .u64 r2⟩] ∧ r2.length = n ∧ u64s r2 ∧ vl r2 = vl r + pB at_ * vl b) := by
  refine specM_of [(0, .o 0 0 0 n), (1, .n false .u64 b), (2, .i .i64 (at_ : Int))] rfl (1) rfl Try.func134 rfl (Nat.le_of_ble_eq_true rfl) fun Γ hN hds => ?_
  have hd := hdOf 53 hN
  refine jc_seq ?_; refine jc_region ?_; refine jo_l (ly_as rfl) (hd 6 rfl) ?_; refine jo_nil ?_; refine jc_seq ?_; refine jc_region ?_; refine jo_l (ly_mv rfl) (hd 9 rfl) ?_; refine jo_l (ly_as rfl) (hd 7 rfl) ?_; refine jo_nil ?_; refine jc_block ?_
  refine jc_loopF (G := Nat × List Int × Int) (fun g => at_ ≤ g.1 ∧ g.1 ≤ n + at_ ∧ g.2.1.length = n ∧ u64s g.2.1 ∧ vl g.2.1 + g.2.2 * pB g.1 = vl r + pB at_ * vk b (g.1 - at_) ∧ 0 ≤ g.2.2 ∧ g.2.2 ≤ 1) (fun g => [(6, .i .u64 g.2.2), (7, .i .i64 (g.1 : Int)), (8, .u), (10, .u), (11, .u), (12, .u), (13, .u), (14, .u), (15, .u), (16, .u), (17, .u), (18, .u), (19, .u), (20, .u), (21, .u), (22, .u), (23, .u), (24, .u), (25, .u), (26, .u), (27, .u), (28, .u), (29, .u), (30, .u), (31, .u), (32, .u), (33, .u), (34, .u), (35, .u), (36, .u), (37, .u), (38, .u), (39, .u), (40, .u), (41, .u), (42, .u), (43, .u), (44, .u), (45, .u), (46, .u), (47, .u), (48, .u), (49, .u), (50, .u), (51, .u), (52, .u)]) (fun g => [⟨67, 1, 0, true, ints .u64 g.2.1⟩]) (fun g => n - g.1) (at_, r, 0) ?_ ?_ rfl ?_
  · exact ⟨Nat.le_refl _, by show at_ ≤ n + at_; omega, hr, ur, by show vl r + 0 * _ = _ + _ * vk b (at_ - at_); rw [Nat.sub_self, vk_0, Int.mul_zero, Int.zero_mul], Int.le_refl 0, (by decide : (0 : Int) ≤ 1)⟩
  · exact (.cons rfl (.cons rfl (.u (.u (.u (.u (.u (.u (.u (.u (.u (.u (.u (.u (.u (.u (.u (.u (.u (.u (.u (.u (.u (.u (.u (.u (.u (.u (.u (.u (.u (.u (.u (.u (.u (.u (.u (.u (.u (.u (.u (.u (.u (.u (.u (.u .nil))))))))))))))))))))))))))))))))))))))))))))))
  · rintro ⟨i, q, c⟩ ⟨hc1, hc0, hc3, hc4, hc5, hc6, hc7⟩
    dsimp only at hc1 hc0 hc3 hc4 hc5 hc6 hc7
    have hT := u64s_getD hc4 i
    have hY := u64s_getD ub (i - at_)
    refine jc_seq ?_; refine jc_seq ?_; refine jc_region ?_; refine jo_l (ly_mv rfl) (hd 10 rfl) ?_; refine jo_l (ly_mv rfl) (hd 11 rfl) ?_; refine jo_l (ly_leno sl28 rfl rfl) (hd 12 rfl) ?_; refine jo_l (ly_lt rfl rfl) (hd 13 rfl) ?_; refine jo_l (ly_mv rfl) (hd 14 rfl) ?_
    refine jo_ifp 14 rfl (fun h1 => ?_) (fun h1 => ?_)
    · refine jo_g 14 rfl rfl (ly_mv rfl) (hd 15 rfl) ?_; refine jo_g 14 rfl rfl (ly_mv rfl) (hd 16 rfl) ?_; refine jo_g 14 rfl rfl (ly_sub rfl rfl (r := ((i - at_ : Nat) : Int)) (by rw [wrap_i64 (by omega) (by omega)]; omega)) (hd 17 rfl) ?_; refine jo_g 14 rfl rfl (ly_mv rfl) (hd 18 rfl) ?_; refine jo_g 14 rfl rfl (ly_lenn sl28 rfl) (hd 19 rfl) ?_; refine jo_g 14 rfl rfl (ly_lt rfl rfl) (hd 20 rfl) ?_; refine jo_g 14 rfl rfl (ly_mv rfl) (hd 21 rfl) ?_
      refine jo_ifp 21 rfl (fun h2 => ?_) (fun h2 => ?_)
      · refine jo_s 21 rfl rfl rfl (hd 22 rfl) ?_; refine jo_s 21 rfl rfl rfl (hd 23 rfl) ?_; refine jo_g 14 rfl rfl (ly_pick_t rfl rfl) (hd 24 rfl) ?_; refine jo_l (ly_pick_t rfl rfl) (hd 25 rfl) ?_; refine jo_nil ?_; refine jc_litt rfl ?_; refine jc_skip ?_; refine jc_seq ?_; refine jc_block ?_; refine jc_seq ?_; refine jc_region ?_; refine jo_l (ly_as rfl) (hd 8 rfl) ?_; refine jo_nil ?_
        refine jc_meetH (G := Unit) (fun _ => True) (fun _ => [(8, .i .u64 (b.getD (i - at_) 0)), (28, .u), (29, .u), (30, .u), (31, .u), (32, .u), (33, .u), (34, .u), (35, .u), (36, .u), (37, .u), (38, .u), (39, .u)]) ?_ ?_
        · refine jc_seq ?_; refine jc_region ?_; refine jo_l (ly_mv rfl) (hd 28 rfl) ?_; refine jo_l (ly_mv rfl) (hd 29 rfl) ?_; refine jo_l (ly_sub rfl rfl (r := ((i - at_ : Nat) : Int)) (by rw [wrap_i64 (by omega) (by omega)]; omega)) (hd 30 rfl) ?_; refine jo_l (ly_mv rfl) (hd 31 rfl) ?_; refine jo_l (ly_lenn sl28 rfl) (hd 32 rfl) ?_; refine jo_l (ly_lt rfl rfl) (hd 33 rfl) ?_; refine jo_nil ?_
          refine jc_if rfl (fun h4 => ?_) (fun h4 => ?_)
          · refine jc_region ?_; refine jo_l (ly_mv rfl) (hd 34 rfl) ?_; refine jo_l (ly_mv rfl) (hd 35 rfl) ?_; refine jo_l (ly_mv rfl) (hd 36 rfl) ?_; refine jo_l (ly_sub rfl rfl (r := ((i - at_ : Nat) : Int)) (by rw [wrap_i64 (by omega) (by omega)]; omega)) (hd 37 rfl) ?_; refine jo_l (ly_ian (i := i - at_) sl28 rfl rfl (by first | rfl | omega) (by first | omega | (dsimp only; omega))) (hd 38 rfl) ?_; refine jo_l (ly_ldq one82 rfl rfl) (hd 39 rfl) ?_; refine jo_l (ly_as rfl) (hd 8 rfl) ?_; refine jo_nil ?_
            refine ⟨(), ?_, rfl, cov_n 13 rfl rfl ?_⟩
            · trivial
            · exact (.cons (by first | rfl | (show some (V.i .u64 _) = some (V.i .u64 _); rw [getD_ge (by omega)])) (.u (.u (.u (.u (.u (.u (.u (.u (.u (.u (.u (.u .nil)))))))))))))
          · refine jc_skip ?_
            refine ⟨(), ?_, rfl, cov_n 6 rfl rfl ?_⟩
            · trivial
            · exact (.cons (by first | rfl | (show some (V.i .u64 _) = some (V.i .u64 _); rw [getD_ge (by omega)])) (.u (.u (.u (.u (.u (.u (.u (.u (.u (.u (.u (.u .nil)))))))))))))
        · rintro _ _; refine jc_region ?_; refine jo_l (ly_mv rfl) (hd 41 rfl) ?_; refine jo_l (ly_mv rfl) (hd 42 rfl) ?_; refine jo_l (ly_mv rfl) (hd 43 rfl) ?_; refine jo_l (ly_mv rfl) (hd 44 rfl) ?_; refine jo_l (ly_ia (i := i) sl28 rfl rfl rfl (by first | rfl | omega) (by first | omega | (dsimp only; omega)) rfl) (hd 45 rfl) ?_; refine jo_l (ly_is (ly_ldi one82 rfl rfl (by first | omega | (dsimp only; omega))) (show V.i .u64 (q.getD ((0 + i) * 1) 0) = V.i .u64 (q.getD i 0) by rw [Nat.zero_add, Nat.mul_one])) (hd 46 rfl) ?_; refine jo_l (ly_mv rfl) (hd 47 rfl) ?_; refine jo_l (ly_mv rfl) (hd 48 rfl) ?_; refine jo_h (hy_ext3 (e := add64Entry) Try.func128 rfl rfl (by kernel_rfl) (by kernel_rfl) rfl rfl rfl (fun w => run_add64 _ _ _ hT.1 hY.1 hc6 hc7 w) rel_pair) (hd 49 rfl) ?_; refine jo_l (ly_mv rfl) (hd 40 rfl) ?_; refine jo_l (ly_ext rfl rfl) (hd 50 rfl) ?_; refine jo_l (ly_ext rfl rfl) (hd 51 rfl) ?_; refine jo_l (ly_ia (i := i) sl28 rfl rfl rfl (by first | rfl | omega) (by first | omega | (dsimp only; omega)) rfl) (hd 52 rfl) ?_; refine jo_st (sy_storei rfl rfl rfl one82 (by first | omega | (dsimp only; omega))) ?_; refine jo_l (ly_as rfl) (hd 6 rfl) ?_; refine jo_nil ?_; refine jc_region ?_; refine jo_l (ly_mv rfl) (hd 26 rfl) ?_; refine jo_l (ly_add rfl rfl (wrap_i64 (by first | omega | (dsimp only; omega)) (by first | omega | (dsimp only; omega)))) (hd 27 rfl) ?_; refine jo_l (ly_as rfl) (hd 7 rfl) ?_; refine jo_nil ?_
          refine ⟨(i + 1, q.set ((0 + i) * 1) ((q.getD i 0 + b.getD (i - at_) 0 + c) % 18446744073709551616), (q.getD i 0 + b.getD (i - at_) 0 + c) / 18446744073709551616), ?_, ?_, rfl, cov_n 95 rfl rfl ?_⟩
          · exact ⟨by omega, by omega, by rw [List.length_set]; exact hc3, u64s_set hc4 (by omega) (by omega), add_in (by omega) hc1 (by rw [Nat.zero_add, Nat.mul_one]) hc5 (by dsimp only; omega), by show 0 ≤ (q.getD i 0 + b.getD (i - at_) 0 + c) / 18446744073709551616; omega, by show (q.getD i 0 + b.getD (i - at_) 0 + c) / 18446744073709551616 ≤ 1; omega⟩
          · show n - (i + 1) < n - i
            omega
          · exact (.cons rfl (.cons rfl (.u (.u (.u (.u (.u (.u (.u (.u (.u (.u (.u (.u (.u (.u (.u (.u (.u (.u (.u (.u (.u (.u (.u (.u (.u (.u (.u (.u (.u (.u (.u (.u (.u (.u (.u (.u (.u (.u (.u (.u (.u (.u (.u (.u .nil))))))))))))))))))))))))))))))))))))))))))))))
      · refine jo_g 21 rfl rfl (ly_mv rfl) (hd 22 rfl) ?_; refine jo_g 21 rfl rfl (ly_gt rfl rfl) (hd 23 rfl) ?_; refine jo_g 14 rfl rfl (ly_pick_f rfl rfl) (hd 24 rfl) ?_; refine jo_l (ly_pick_t rfl rfl) (hd 25 rfl) ?_; refine jo_nil ?_
        refine jc_if rfl (fun h5 => ?_) (fun h5 => ?_)
        · refine jc_skip ?_; refine jc_seq ?_; refine jc_block ?_; refine jc_seq ?_; refine jc_region ?_; refine jo_l (ly_as rfl) (hd 8 rfl) ?_; refine jo_nil ?_
          refine jc_meetH (G := Unit) (fun _ => True) (fun _ => [(8, .i .u64 (b.getD (i - at_) 0)), (28, .u), (29, .u), (30, .u), (31, .u), (32, .u), (33, .u), (34, .u), (35, .u), (36, .u), (37, .u), (38, .u), (39, .u)]) ?_ ?_
          · refine jc_seq ?_; refine jc_region ?_; refine jo_l (ly_mv rfl) (hd 28 rfl) ?_; refine jo_l (ly_mv rfl) (hd 29 rfl) ?_; refine jo_l (ly_sub rfl rfl (r := ((i - at_ : Nat) : Int)) (by rw [wrap_i64 (by omega) (by omega)]; omega)) (hd 30 rfl) ?_; refine jo_l (ly_mv rfl) (hd 31 rfl) ?_; refine jo_l (ly_lenn sl28 rfl) (hd 32 rfl) ?_; refine jo_l (ly_lt rfl rfl) (hd 33 rfl) ?_; refine jo_nil ?_
            refine jc_if rfl (fun h6 => ?_) (fun h6 => ?_)
            · refine jc_region ?_; refine jo_l (ly_mv rfl) (hd 34 rfl) ?_; refine jo_l (ly_mv rfl) (hd 35 rfl) ?_; refine jo_l (ly_mv rfl) (hd 36 rfl) ?_; refine jo_l (ly_sub rfl rfl (r := ((i - at_ : Nat) : Int)) (by rw [wrap_i64 (by omega) (by omega)]; omega)) (hd 37 rfl) ?_; refine jo_l (ly_ian (i := i - at_) sl28 rfl rfl (by first | rfl | omega) (by first | omega | (dsimp only; omega))) (hd 38 rfl) ?_; refine jo_l (ly_ldq one82 rfl rfl) (hd 39 rfl) ?_; refine jo_l (ly_as rfl) (hd 8 rfl) ?_; refine jo_nil ?_
              refine ⟨(), ?_, rfl, cov_n 13 rfl rfl ?_⟩
              · trivial
              · exact (.cons (by first | rfl | (show some (V.i .u64 _) = some (V.i .u64 _); rw [getD_ge (by omega)])) (.u (.u (.u (.u (.u (.u (.u (.u (.u (.u (.u (.u .nil)))))))))))))
            · refine jc_skip ?_
              refine ⟨(), ?_, rfl, cov_n 6 rfl rfl ?_⟩
              · trivial
              · exact (.cons (by first | rfl | (show some (V.i .u64 _) = some (V.i .u64 _); rw [getD_ge (by omega)])) (.u (.u (.u (.u (.u (.u (.u (.u (.u (.u (.u (.u .nil)))))))))))))
          · rintro _ _; refine jc_region ?_; refine jo_l (ly_mv rfl) (hd 41 rfl) ?_; refine jo_l (ly_mv rfl) (hd 42 rfl) ?_; refine jo_l (ly_mv rfl) (hd 43 rfl) ?_; refine jo_l (ly_mv rfl) (hd 44 rfl) ?_; refine jo_l (ly_ia (i := i) sl28 rfl rfl rfl (by first | rfl | omega) (by first | omega | (dsimp only; omega)) rfl) (hd 45 rfl) ?_; refine jo_l (ly_is (ly_ldi one82 rfl rfl (by first | omega | (dsimp only; omega))) (show V.i .u64 (q.getD ((0 + i) * 1) 0) = V.i .u64 (q.getD i 0) by rw [Nat.zero_add, Nat.mul_one])) (hd 46 rfl) ?_; refine jo_l (ly_mv rfl) (hd 47 rfl) ?_; refine jo_l (ly_mv rfl) (hd 48 rfl) ?_; refine jo_h (hy_ext3 (e := add64Entry) Try.func128 rfl rfl (by kernel_rfl) (by kernel_rfl) rfl rfl rfl (fun w => run_add64 _ _ _ hT.1 hY.1 hc6 hc7 w) rel_pair) (hd 49 rfl) ?_; refine jo_l (ly_mv rfl) (hd 40 rfl) ?_; refine jo_l (ly_ext rfl rfl) (hd 50 rfl) ?_; refine jo_l (ly_ext rfl rfl) (hd 51 rfl) ?_; refine jo_l (ly_ia (i := i) sl28 rfl rfl rfl (by first | rfl | omega) (by first | omega | (dsimp only; omega)) rfl) (hd 52 rfl) ?_; refine jo_st (sy_storei rfl rfl rfl one82 (by first | omega | (dsimp only; omega))) ?_; refine jo_l (ly_as rfl) (hd 6 rfl) ?_; refine jo_nil ?_; refine jc_region ?_; refine jo_l (ly_mv rfl) (hd 26 rfl) ?_; refine jo_l (ly_add rfl rfl (wrap_i64 (by first | omega | (dsimp only; omega)) (by first | omega | (dsimp only; omega)))) (hd 27 rfl) ?_; refine jo_l (ly_as rfl) (hd 7 rfl) ?_; refine jo_nil ?_
            refine ⟨(i + 1, q.set ((0 + i) * 1) ((q.getD i 0 + b.getD (i - at_) 0 + c) % 18446744073709551616), (q.getD i 0 + b.getD (i - at_) 0 + c) / 18446744073709551616), ?_, ?_, rfl, cov_n 95 rfl rfl ?_⟩
            · exact ⟨by omega, by omega, by rw [List.length_set]; exact hc3, u64s_set hc4 (by omega) (by omega), add_in (by omega) hc1 (by rw [Nat.zero_add, Nat.mul_one]) hc5 (by dsimp only; omega), by show 0 ≤ (q.getD i 0 + b.getD (i - at_) 0 + c) / 18446744073709551616; omega, by show (q.getD i 0 + b.getD (i - at_) 0 + c) / 18446744073709551616 ≤ 1; omega⟩
            · show n - (i + 1) < n - i
              omega
            · exact (.cons rfl (.cons rfl (.u (.u (.u (.u (.u (.u (.u (.u (.u (.u (.u (.u (.u (.u (.u (.u (.u (.u (.u (.u (.u (.u (.u (.u (.u (.u (.u (.u (.u (.u (.u (.u (.u (.u (.u (.u (.u (.u (.u (.u (.u (.u (.u (.u .nil))))))))))))))))))))))))))))))))))))))))))))))
        · refine jc_exit ?_
          refine ⟨_, .nil, rfl, (.cons ints_id .nil), ?_⟩
          exact ⟨rfl, q, rfl, hc3, hc4, add_end hc4 ur ub hc6 hc1 hfit (by dsimp only at *; first | (left; omega) | (right; omega)) hc5⟩
    · refine jo_s 14 rfl rfl rfl (hd 15 rfl) ?_; refine jo_s 14 rfl rfl rfl (hd 16 rfl) ?_; refine jo_s 14 rfl rfl rfl (hd 17 rfl) ?_; refine jo_s 14 rfl rfl rfl (hd 18 rfl) ?_; refine jo_s 14 rfl rfl rfl (hd 19 rfl) ?_; refine jo_s 14 rfl rfl rfl (hd 20 rfl) ?_; refine jo_s 14 rfl rfl rfl (hd 21 rfl) ?_; refine jo_s' 21 rfl rfl (hd 22 rfl) ?_; refine jo_s' 21 rfl rfl (hd 23 rfl) ?_; refine jo_s 14 rfl rfl rfl (hd 24 rfl) ?_; refine jo_l (ly_pick_f rfl rfl) (hd 25 rfl) ?_; refine jo_nil ?_; refine jc_litf rfl ?_; refine jc_exit ?_
      refine ⟨_, .nil, rfl, (.cons ints_id .nil), ?_⟩
      exact ⟨rfl, q, rfl, hc3, hc4, add_end hc4 ur ub hc6 hc1 hfit (by dsimp only at *; first | (left; omega) | (right; omega)) hc5⟩

/- Contracts of mul.sum, less, part. -/
set_option maxHeartbeats 4000000 in
theorem sum_s (a b : List Int) (hla : a.length < 1099511627776) (hlb : b.length < 1099511627776) (ua : u64s a) (ub : u64s b) : Spec Try.prog 137 [.n false .u64 a, .n false .u64 b] (fun o => ∃ r, o = .ret (.n true .u64 r) ∧ u64s r ∧ r.length = max a.length b.length + 1 ∧ vl r = vl a + vl b) := by
  refine spec_of' [(0, .n false .u64 a), (1, .n false .u64 b)] rfl Try.func137 rfl (Nat.le_of_ble_eq_true rfl) fun Γ hN hds hL hR => ?_
  have hd := hdOf 20 hN
  have hl0 : (a ++ (List.replicate (max a.length b.length + 1) 0).drop a.length).length = max a.length b.length + 1 := by simp; omega
  have hv0 : vl (a ++ (List.replicate (max a.length b.length + 1) (0 : Int)).drop a.length) = vl a := by rw [vl_app, List.drop_replicate, vl_zeros, Int.mul_zero, Int.add_zero]
  have hfa := vl_lt ua
  have hfb := vl_lt ub
  have hpa := pB_mono (show a.length ≤ max a.length b.length by omega)
  have hpb := pB_mono (show b.length ≤ max a.length b.length by omega)
  have hpp := pB_pos (max a.length b.length)
  refine jc_seq ?_; refine jc_region ?_; refine jo_l (ly_as rfl) (hd 4 rfl) ?_; refine jo_nil ?_; refine jc_seq ?_; refine jc_region ?_; refine jo_l (ly_mv rfl) (hd 6 rfl) ?_; refine jo_l (ly_lenn sl28 rfl) (hd 7 rfl) ?_; refine jo_l (ly_mv rfl) (hd 8 rfl) ?_; refine jo_l (ly_lenn sl28 rfl) (hd 9 rfl) ?_; refine jo_l (ly_max rfl rfl) (hd 10 rfl) ?_; refine jo_l (ly_add rfl rfl (r := ((max a.length b.length + 1 : Nat) : Int)) (by rw [wrap_i64 (by omega) (by omega)]; omega)) (hd 11 rfl) ?_; refine jo_h (hy_mk (m := max a.length b.length + 1) el28 rfl rfl rfl (by show 8 * (max a.length b.length + 1) ≤ _; omega) (by unfold maxLen; omega) rfl) (hd 12 rfl) ?_; refine jo_l (ly_as rfl) (hd 5 rfl) ?_; refine jo_nil ?_; refine jc_seq ?_; refine jc_region ?_; refine jo_l (ly_mv rfl) (hd 13 rfl) ?_; refine jo_l (ly_mv rfl) (hd 14 rfl) ?_; refine jo_copy undS28 siz82m rfl rfl List.length_replicate rfl (by omega) (hd 15 rfl) ?_; refine jo_nil ?_; refine jc_seq ?_; refine jc_region ?_; refine jo_l (ly_mv rfl) (hd 16 rfl) ?_; refine jo_l (ly_mv rfl) (hd 17 rfl) ?_
  refine jo_callM Try.f134 (addAt_s (a ++ (List.replicate (max a.length b.length + 1) 0).drop a.length) b (max a.length b.length + 1) 0 hl0 (by omega) (by omega) (by omega) (u64s_app ua (u64s_drop (u64s_zeros _) _)) ub (by rw [hv0]; simp only [pB, Int.one_mul]; have : Bs = 18446744073709551616 := rfl; rw [this]; omega)) rfl Try.func134 rfl rfl (ovL_cons rfl (ovL_cons rfl (ovL_cons rfl ovL_nil))) (.cons (.same rfl) (.cons .n (.cons (.same rfl) .nil))) (freshless_cons ints_noFr freshless_nil) (hd 18 rfl) ?_ (fun ch H2 hp => by simp at hp)
  rintro y H2 ⟨hy, r2, rfl, hl2, hu2, hv2⟩; injection hy with hy; subst hy; refine jo_nil ?_; refine jc_seq ?_; refine jc_region ?_; refine jo_l (ly_mv rfl) (hd 19 rfl) ?_; refine jo_l (ly_as rfl) (hd 4 rfl) ?_; refine jo_nil ?_; refine jc_ret ?_
  refine ⟨_, _, (.cons rfl .nil), (.o (l := r2) rfl (by omega) rfl), ?_⟩
  rw [List.drop_zero, List.take_of_length_le (by omega)]
  exact ⟨r2, rfl, hu2, hl2, by rw [hv2, hv0]; simp only [pB, Int.one_mul]⟩

set_option maxHeartbeats 4000000 in
theorem less_s (a b : List Int) (hla : a.length < 1099511627776) (hlb : b.length < 1099511627776) (ua : u64s a) (ub : u64s b) (hle : vl b ≤ vl a) : Spec Try.prog 136 [.n false .u64 a, .n false .u64 b] (fun o => ∃ r, o = .ret (.n true .u64 r) ∧ u64s r ∧ r.length = a.length ∧ vl r = vl a - vl b) := by
  refine spec_of' [(0, .n false .u64 a), (1, .n false .u64 b)] rfl Try.func136 rfl (Nat.le_of_ble_eq_true rfl) fun Γ hN hds hL hR => ?_
  have hd := hdOf 43 hN
  refine jc_seq ?_; refine jc_region ?_; refine jo_l (ly_as rfl) (hd 4 rfl) ?_; refine jo_nil ?_; refine jc_seq ?_; refine jc_region ?_; refine jo_l (ly_mv rfl) (hd 9 rfl) ?_; refine jo_l (ly_lenn sl28 rfl) (hd 10 rfl) ?_; refine jo_h (hy_mk (m := a.length) el28 rfl rfl rfl (by show 8 * a.length ≤ _; omega) (by unfold maxLen; omega) rfl) (hd 11 rfl) ?_; refine jo_l (ly_as rfl) (hd 5 rfl) ?_; refine jo_nil ?_; refine jc_seq ?_; refine jc_region ?_; refine jo_l (ly_mv rfl) (hd 12 rfl) ?_; refine jo_l (ly_mv rfl) (hd 13 rfl) ?_; refine jo_copy undS28 siz82m rfl rfl List.length_replicate rfl (Nat.le_refl _) (hd 14 rfl) ?_; refine jo_nil ?_; refine jc_seq ?_; refine jc_region ?_; refine jo_l (ly_as rfl) (hd 6 rfl) ?_; refine jo_nil ?_; refine jc_seq ?_; refine jc_seq ?_; refine jc_H (H' := [⟨67, 1, 0, true, ints .u64 ((sbN a b 0).1 ++ a.drop 0)⟩]) (by show [(⟨67, 1, 0, true, ints .u64 (a ++ (List.replicate a.length 0).drop a.length)⟩ : Ob)] = _; rw [List.drop_eq_nil_of_le (by simp), List.append_nil]; rfl) ?_; refine jc_region ?_; refine jo_l (ly_mv rfl) (hd 15 rfl) ?_; refine jo_l (ly_leno sl28 rfl rfl) (hd 16 rfl) ?_; refine jo_l (ly_mv rfl) (hd 17 rfl) ?_; refine jo_nil ?_; refine jc_block ?_
  refine jc_loopF (G := Nat) (fun i => i ≤ a.length) (fun i => [(6, .i .u64 (sbN a b i).2), (17, .i .i64 (i : Int)), (7, .u), (8, .u), (18, .u), (19, .u), (20, .u), (21, .u), (22, .u), (23, .u), (24, .u), (25, .u), (26, .u), (27, .u), (28, .u), (29, .u), (30, .u), (31, .u), (32, .u), (33, .u), (34, .u), (35, .u), (36, .u), (37, .u), (38, .u), (39, .u), (40, .u), (41, .u)]) (fun i => [⟨67, 1, 0, true, ints .u64 ((sbN a b i).1 ++ a.drop i)⟩]) (fun i => a.length - i) 0 ?_ ?_ rfl ?_
  · exact Nat.zero_le _
  · exact (.cons rfl (.cons rfl (.u (.u (.u (.u (.u (.u (.u (.u (.u (.u (.u (.u (.u (.u (.u (.u (.u (.u (.u (.u (.u (.u (.u (.u (.u (.u .nil))))))))))))))))))))))))))))
  · rintro i hc1
    have hf := sub_len (b := b) hc1
    have hc := sbN_c a b i
    have hx := u64s_getD ua i
    have hy := u64s_getD ub i
    refine jc_seq ?_; refine jc_region ?_; refine jo_l (ly_lt rfl rfl) (hd 18 rfl) ?_; refine jo_nil ?_; refine jc_seq ?_
    refine jc_if rfl (fun h1 => ?_) (fun h1 => ?_)
    · refine jc_skip ?_; refine jc_seq ?_; refine jc_block ?_; refine jc_seq ?_; refine jc_region ?_; refine jo_l (ly_mv rfl) (hd 19 rfl) ?_; refine jo_l (ly_as rfl) (hd 7 rfl) ?_; refine jo_nil ?_; refine jc_seq ?_; refine jc_region ?_; refine jo_l (ly_as rfl) (hd 8 rfl) ?_; refine jo_nil ?_
      refine jc_meetH (G := Unit) (fun _ => True) (fun _ => [(8, .i .u64 (b.getD i 0)), (20, .u), (21, .u), (22, .u), (23, .u), (24, .u), (25, .u), (26, .u), (27, .u)]) ?_ ?_
      · refine jc_seq ?_; refine jc_region ?_; refine jo_l (ly_mv rfl) (hd 20 rfl) ?_; refine jo_l (ly_mv rfl) (hd 21 rfl) ?_; refine jo_l (ly_lenn sl28 rfl) (hd 22 rfl) ?_; refine jo_l (ly_lt rfl rfl) (hd 23 rfl) ?_; refine jo_nil ?_
        refine jc_if rfl (fun h2 => ?_) (fun h2 => ?_)
        · refine jc_region ?_; refine jo_l (ly_mv rfl) (hd 24 rfl) ?_; refine jo_l (ly_mv rfl) (hd 25 rfl) ?_; refine jo_l (ly_ian (i := i) sl28 rfl rfl (by first | rfl | omega) (by omega)) (hd 26 rfl) ?_; refine jo_l (ly_ldq one82 rfl rfl) (hd 27 rfl) ?_; refine jo_l (ly_as rfl) (hd 8 rfl) ?_; refine jo_nil ?_
          refine ⟨(), ?_, rfl, cov_n 9 rfl rfl ?_⟩
          · trivial
          · exact (.cons (by first | rfl | (show some (V.i .u64 _) = some (V.i .u64 _); rw [getD_ge (by omega)])) (.u (.u (.u (.u (.u (.u (.u (.u .nil)))))))))
        · refine jc_skip ?_
          refine ⟨(), ?_, rfl, cov_n 4 rfl rfl ?_⟩
          · trivial
          · exact (.cons (by first | rfl | (show some (V.i .u64 _) = some (V.i .u64 _); rw [getD_ge (by omega)])) (.u (.u (.u (.u (.u (.u (.u (.u .nil)))))))))
      · rintro _ _; refine jc_region ?_; refine jo_l (ly_mv rfl) (hd 29 rfl) ?_; refine jo_l (ly_mv rfl) (hd 30 rfl) ?_; refine jo_l (ly_mv rfl) (hd 31 rfl) ?_; refine jo_l (ly_mv rfl) (hd 32 rfl) ?_; refine jo_l (ly_ia (i := i) sl28 rfl rfl rfl (by first | rfl | omega) (by omega) rfl) (hd 33 rfl) ?_; refine jo_l (ly_is (ly_ldi one82 rfl rfl (by omega)) (show V.i .u64 (((sbN a b i).1 ++ a.drop i).getD ((0 + i) * 1) 0) = V.i .u64 (a.getD i 0) by rw [Nat.zero_add, Nat.mul_one, sub_at (by omega)])) (hd 34 rfl) ?_; refine jo_l (ly_mv rfl) (hd 35 rfl) ?_; refine jo_l (ly_mv rfl) (hd 36 rfl) ?_; refine jo_h (hy_ext3 (e := sub64Entry) Try.func130 rfl rfl (by kernel_rfl) (by kernel_rfl) rfl rfl rfl (fun w => run_sub64 _ _ _ hx.1 hx.2 hy.1 hy.2 hc.1 hc.2 w) rel_pair) (hd 37 rfl) ?_; refine jo_l (ly_mv rfl) (hd 28 rfl) ?_; refine jo_l (ly_ext rfl rfl) (hd 38 rfl) ?_; refine jo_l (ly_ext rfl rfl) (hd 39 rfl) ?_; refine jo_l (ly_ia (i := i) sl28 rfl rfl rfl (by first | rfl | omega) (by omega) rfl) (hd 40 rfl) ?_; refine jo_st (sy_storei rfl rfl rfl one82 (by omega)) ?_; refine jo_l (ly_as rfl) (hd 6 rfl) ?_; refine jo_nil ?_; refine jc_region ?_; refine jo_l (ly_add rfl rfl (wrap_i64 (by omega) (by omega))) (hd 41 rfl) ?_; refine jo_l (ly_mv rfl) (hd 17 rfl) ?_; refine jo_nil ?_
        refine ⟨i + 1, ?_, ?_, (by show [(⟨67, 1, 0, true, ints .u64 _⟩ : Ob)] = [⟨67, 1, 0, true, ints .u64 _⟩]; rw [sub_fill (by omega)]), cov_n 57 rfl rfl ?_⟩
        · omega
        · omega
        · exact (.cons rfl (.cons rfl (.u (.u (.u (.u (.u (.u (.u (.u (.u (.u (.u (.u (.u (.u (.u (.u (.u (.u (.u (.u (.u (.u (.u (.u (.u (.u .nil))))))))))))))))))))))))))))
    · obtain rfl : i = a.length := by omega
      refine jc_exit ?_; refine jc_seq ?_; refine jc_region ?_; refine jo_l (ly_mv rfl) (hd 42 rfl) ?_; refine jo_l (ly_as rfl) (hd 4 rfl) ?_; refine jo_nil ?_; refine jc_ret ?_
      refine ⟨_, _, (.cons rfl .nil), (.o (l := (sbN a b a.length).1 ++ a.drop a.length) rfl (by omega) rfl), ?_⟩
      rw [List.drop_zero, List.take_of_length_le (by omega), List.drop_eq_nil_of_le (Nat.le_refl _), List.append_nil]
      exact ⟨_, rfl, sbN_u ua ub _, sbN_len a b _, vl_sub ua ub hle⟩

set_option maxHeartbeats 4000000 in
theorem part_s (l : List Int) (f t : Nat) (hl : l.length < 4398046511104) (hft : f ≤ t) (hf : t < 4398046511104) (ul : u64s l) : Spec Try.prog 135 [.n false .u64 l, .i .i64 (f : Int), .i .i64 (t : Int)] (fun o => ∃ r, o = .ret (.n false .u64 r) ∧ u64s r ∧ r.length ≤ min t l.length - min f l.length ∧ vl r = vl ((l.take t).drop f)) := by
  refine spec_of' [(0, .n false .u64 l), (1, .i .i64 (f : Int)), (2, .i .i64 (t : Int))] rfl Try.func135 rfl (Nat.le_of_ble_eq_true rfl) fun Γ hN hds hL hR => ?_
  have hd := hdOf 32 hN
  refine jc_seq ?_; refine jc_region ?_; refine jo_l (ly_as rfl) (hd 6 rfl) ?_; refine jo_nil ?_; refine jc_seq ?_; refine jc_region ?_; refine jo_l (ly_mv rfl) (hd 7 rfl) ?_; refine jo_l (ly_mv rfl) (hd 8 rfl) ?_; refine jo_l (ly_lenn sl28 rfl) (hd 9 rfl) ?_; refine jo_l (ly_is (ly_min rfl rfl) (show V.i .i64 (min (f : Int) (l.length : Int)) = V.i .i64 ((min f l.length : Nat) : Int) by congr 1; omega)) (hd 10 rfl) ?_; refine jo_l (ly_mv rfl) (hd 11 rfl) ?_; refine jo_l (ly_mv rfl) (hd 12 rfl) ?_; refine jo_l (ly_lenn sl28 rfl) (hd 13 rfl) ?_; refine jo_l (ly_is (ly_min rfl rfl) (show V.i .i64 (min (t : Int) (l.length : Int)) = V.i .i64 ((min t l.length : Nat) : Int) by congr 1; omega)) (hd 14 rfl) ?_; refine jo_l (ly_as rfl) (hd 1 rfl) ?_; refine jo_l (ly_as rfl) (hd 2 rfl) ?_; refine jo_nil ?_; refine jc_seq ?_; refine jc_block ?_
  refine jc_loopF (G := Nat) (fun k => min f l.length ≤ k ∧ k ≤ min t l.length ∧ vl ((l.take k).drop (min f l.length)) = vl ((l.take t).drop f)) (fun k => [(2, .i .i64 (k : Int)), (15, .u), (16, .u), (17, .u), (18, .u), (19, .u), (20, .u), (21, .u), (22, .u), (23, .u), (24, .u), (25, .u), (26, .u), (27, .u)]) (fun _ => _) (fun k => k) (min t l.length) ?_ ?_ rfl ?_
  · exact ⟨by omega, Nat.le_refl _, by rw [part_all hft]⟩
  · exact (.cons rfl (.u (.u (.u (.u (.u (.u (.u (.u (.u (.u (.u (.u (.u .nil))))))))))))))
  · rintro k ⟨hc1, hc2, hc3⟩; refine jc_seq ?_; refine jc_seq ?_; refine jc_region ?_; refine jo_l (ly_mv rfl) (hd 15 rfl) ?_; refine jo_l (ly_mv rfl) (hd 16 rfl) ?_; refine jo_l (ly_gt rfl rfl) (hd 17 rfl) ?_; refine jo_l (ly_mv rfl) (hd 18 rfl) ?_
    refine jo_ifp 18 rfl (fun h1 => ?_) (fun h1 => ?_)
    · refine jo_g 18 rfl rfl (ly_mv rfl) (hd 19 rfl) ?_; refine jo_g 18 rfl rfl (ly_mv rfl) (hd 20 rfl) ?_; refine jo_g 18 rfl rfl (ly_sub rfl rfl (wrap_i64 (by omega) (by omega))) (hd 21 rfl) ?_; refine jo_g 18 rfl rfl (ly_ian (i := k - 1) sl28 rfl rfl (by omega) (by omega)) (hd 22 rfl) ?_; refine jo_g 18 rfl rfl (ly_ldq one82 rfl rfl) (hd 23 rfl) ?_; refine jo_g 18 rfl rfl (ly_eq rfl rfl) (hd 24 rfl) ?_; refine jo_l (ly_pick_t rfl rfl) (hd 25 rfl) ?_; refine jo_nil ?_
      refine jc_if rfl (fun h2 => ?_) (fun h2 => ?_)
      · refine jc_skip ?_; refine jc_block ?_; refine jc_region ?_; refine jo_l (ly_mv rfl) (hd 26 rfl) ?_; refine jo_l (ly_sub rfl rfl (wrap_i64 (by omega) (by omega))) (hd 27 rfl) ?_; refine jo_l (ly_as rfl) (hd 2 rfl) ?_; refine jo_nil ?_
        refine ⟨k - 1, ?_, ?_, rfl, cov_n 29 rfl rfl ?_⟩
        · exact ⟨by omega, by omega, by rw [part_step (by omega) (by omega) (by assumption)]; exact hc3⟩
        · omega
        · exact (.cons (by show some (V.i .i64 _) = some (V.i .i64 _); congr 2; omega) (.u (.u (.u (.u (.u (.u (.u (.u (.u (.u (.u (.u (.u .nil))))))))))))))
      · refine jc_exit ?_; refine jc_seq ?_; refine jc_region ?_; refine jo_l (ly_mv rfl) (hd 28 rfl) ?_; refine jo_l (ly_mv rfl) (hd 29 rfl) ?_; refine jo_l (ly_mv rfl) (hd 30 rfl) ?_; refine jo_l (ly_sln sl28 rfl (bnd_some' rfl rfl) (bnd_some' rfl rfl) (.inl rfl) (by omega) (by omega)) (hd 31 rfl) ?_; refine jo_l (ly_as rfl) (hd 6 rfl) ?_; refine jo_nil ?_; refine jc_ret ?_
        refine ⟨_, _, (.cons rfl .nil), .n, ?_⟩
        exact ⟨_, rfl, u64s_drop (u64s_take ul _) _, by rw [List.length_drop, List.length_take]; omega, hc3⟩
    · refine jo_s 18 rfl rfl rfl (hd 19 rfl) ?_; refine jo_s 18 rfl rfl rfl (hd 20 rfl) ?_; refine jo_s 18 rfl rfl rfl (hd 21 rfl) ?_; refine jo_s 18 rfl rfl rfl (hd 22 rfl) ?_; refine jo_s 18 rfl rfl rfl (hd 23 rfl) ?_; refine jo_s 18 rfl rfl rfl (hd 24 rfl) ?_; refine jo_l (ly_pick_f rfl rfl) (hd 25 rfl) ?_; refine jo_nil ?_; refine jc_litf rfl ?_; refine jc_exit ?_; refine jc_seq ?_; refine jc_region ?_; refine jo_l (ly_mv rfl) (hd 28 rfl) ?_; refine jo_l (ly_mv rfl) (hd 29 rfl) ?_; refine jo_l (ly_mv rfl) (hd 30 rfl) ?_; refine jo_l (ly_sln sl28 rfl (bnd_some' rfl rfl) (bnd_some' rfl rfl) (.inl rfl) (by omega) (by omega)) (hd 31 rfl) ?_; refine jo_l (ly_as rfl) (hd 6 rfl) ?_; refine jo_nil ?_; refine jc_ret ?_
      refine ⟨_, _, (.cons rfl .nil), .n, ?_⟩
      exact ⟨_, rfl, u64s_drop (u64s_take ul _) _, by rw [List.length_drop, List.length_take]; omega, hc3⟩
end Go.Proofs.Ytpldmajdiljoaaa.Vc
