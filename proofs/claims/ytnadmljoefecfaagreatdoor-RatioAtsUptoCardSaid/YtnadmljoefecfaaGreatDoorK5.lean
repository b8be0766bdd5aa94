/- The law RatioAts of every input of bulk at most 1048576: it returns true, and the input reads as it did. Texts joined: Nr, Ns, Nt, Nu, Nw, Nv, Nx, Ny, Nz, Ob, Wa, Wb, Wc, Wd, We, Wf, Wg, Wh, Wi, Wj, Wk, Wl, Wm, Wn, Wo, Wp, Wq, Wr, Ws, Wt, Wv, Wx, Wy. -/
import Derived.Test.YtnadmljoefecfaaGreatDoorK4
set_option linter.unusedVariables false
set_option linter.unusedSimpArgs false
set_option maxHeartbeats 4000000
namespace Go.Proofs.YtnadmljoefecfaaGreatDoor.Vc
open Go Go.RowKit

theorem T0 {l : List Int} {i : Nat} (h : i < l.length) : l.take (i + 1) = l.take i ++ [l.getD i 0] := by
  rw [List.take_add_one, List.getD_eq_getElem?_getD, List.getElem?_eq_getElem h]; rfl
theorem Aam (b : Nat) (l : List Int) : ∀ w, vb b (List.replicate w 0 ++ l) = ((b ^ w : Nat) : Int) * vb b l
  | 0 => by simp
  | w + 1 => by
    rw [List.replicate_succ, List.cons_append]
    show (0 : Int) + (b : Int) * vb b (List.replicate w 0 ++ l) = _
    rw [Aam b l w, Nat.pow_succ, Int.natCast_mul, Int.zero_add, ← Int.mul_assoc, Int.mul_comm (b : Int)]
theorem Adj {b : Nat} (hb : 0 < b) {l : List Int} (h : rng b l) (w : Nat) : rng b (List.replicate w 0 ++ l) := fun x hx => by
  rcases List.mem_append.1 hx with hx | hx
  · rw [List.eq_of_mem_replicate hx]; omega
  · exact h x hx
theorem Ro {b : Nat} {l : List Int} {x : Int} (h : rng b l) (h0 : 0 ≤ x) (h1 : x < (b : Int)) : rng b (l ++ [x]) := fun y hy => by
  rcases List.mem_append.1 hy with hy | hy
  · exact h y hy
  · rw [List.mem_singleton] at hy; subst hy; exact ⟨h0, h1⟩
theorem Yb {b : Nat} {l : List Int} {x : Int} (h : rng b l) (h0 : 0 ≤ x) (h1 : x < (b : Int)) : rng b (x :: l) := fun y hy => by
  rcases List.mem_cons.1 hy with rfl | hy
  · exact ⟨h0, h1⟩
  · exact h y hy
theorem Rz {s : Nat} (h : s ≤ 32) : (2 : Int) ^ (32 - s) * 2 ^ s = 4294967296 := by
  rw [← Int.pow_add, show 32 - s + s = 32 by omega]; rfl
theorem Ad8 {s : Nat} (h : s < 32) : (2 : Int) ^ s ≤ 2147483648 := by
  have h1 : (2 : Nat) ^ s ≤ 2 ^ 31 := Nat.pow_le_pow_right (by decide) (by omega)
  have h2 : ((2 ^ s : Nat) : Int) ≤ ((2 ^ 31 : Nat) : Int) := Int.ofNat_le.2 h1
  rw [Int.natCast_pow] at h2
  simpa using h2
def Jf (l : List Int) (s : Nat) : Nat → List Int × Int
  | 0 => ([], 0)
  | i + 1 => ((Jf l s i).1 ++ [(Jf l s i).2 + l.getD i 0 * 2 ^ s % 4294967296], l.getD i 0 * 2 ^ s / 4294967296)
theorem F8 (l : List Int) (s : Nat) : ∀ i, (Jf l s i).1.length = i
  | 0 => rfl
  | i + 1 => by simp [Jf, F8 l s i]
theorem Ud {l : List Int} {s : Nat} (hs : s < 32) (hl : rng 4294967296 l) (i : Nat) : 0 ≤ l.getD i 0 * 2 ^ s ∧ l.getD i 0 * 2 ^ s ≤ 4294967295 * 2147483648 := by
  have hx := I1 (by decide) hl i
  exact ⟨Int.mul_nonneg hx.1 (Int.le_of_lt (Fs s)), Int.mul_le_mul (by omega) (Ad8 hs) (Int.le_of_lt (Fs s)) (by decide)⟩
theorem Ue {l : List Int} {s : Nat} (hs : s < 32) (hl : rng 4294967296 l) : ∀ i, 0 ≤ (Jf l s i).2 ∧ (Jf l s i).2 < 2 ^ s
  | 0 => ⟨Int.le_refl 0, Fs s⟩
  | i + 1 => by
    have hx := I1 (by decide) hl i
    have hp := Ud hs hl i
    refine ⟨Int.ediv_nonneg hp.1 (by decide), Int.ediv_lt_of_lt_mul (by decide) ?_⟩
    rw [Int.mul_comm (2 ^ s)]
    exact Int.mul_lt_mul_of_pos_right hx.2 (Fs s)
theorem sh_lo {x : Int} {s : Nat} (hs : s ≤ 32) : x * 2 ^ s % 4294967296 = 2 ^ s * (x % 2 ^ (32 - s)) := by
  rw [← Rz hs, Int.mul_comm x, Int.mul_comm (2 ^ (32 - s)) (2 ^ s), Int.mul_emod_mul_of_pos _ _ (Fs s)]
theorem Ahc {c x : Int} {s : Nat} (hs : s < 32) (hc0 : 0 ≤ c) (hc : c < 2 ^ s) : 0 ≤ c + x * 2 ^ s % 4294967296 ∧ c + x * 2 ^ s % 4294967296 < 4294967296 := by
  have e := Rz (Nat.le_of_lt hs)
  have hx2 : x % 2 ^ (32 - s) < 2 ^ (32 - s) := Int.emod_lt_of_pos _ (Fs _)
  have h3 : 2 ^ s * (x % 2 ^ (32 - s)) ≤ 2 ^ s * (2 ^ (32 - s) - 1) := Int.mul_le_mul_of_nonneg_left (by omega) (Int.le_of_lt (Fs s))
  rw [Int.mul_sub, Int.mul_comm (2 ^ s) (2 ^ (32 - s)), e] at h3
  have h4 := Int.emod_nonneg (x * 2 ^ s) (show (4294967296 : Int) ≠ 0 by decide)
  rw [← sh_lo (Nat.le_of_lt hs)] at h3
  omega
theorem Aa2 {l : List Int} {s : Nat} (hs : s < 32) (hl : rng 4294967296 l) : ∀ i, rng 4294967296 (Jf l s i).1
  | 0 => fun x hx => by simp [Jf] at hx
  | i + 1 => by
    have hc := Ue hs hl i
    have h := Ahc (x := l.getD i 0) hs hc.1 hc.2
    exact Ro (Aa2 hs hl i) h.1 h.2
theorem Rh {l : List Int} {s : Nat} : ∀ i, i ≤ l.length → vb 4294967296 (Jf l s i).1 + ((4294967296 ^ i : Nat) : Int) * (Jf l s i).2 = vb 4294967296 (l.take i) * 2 ^ s
  | 0, _ => by simp [Jf, vb]
  | i + 1, h => by
    have ih := Rh (s := s) i (by omega : i ≤ l.length)
    rw [T0 (by omega), Km, List.length_take, Nat.min_eq_left (by omega), Int.add_mul, ← ih]
    simp only [Jf]
    rw [Km, F8, Int.mul_assoc _ (l.getD i 0)]
    generalize l.getD i 0 * 2 ^ s = x
    generalize (Jf l s i).2 = c
    rw [Nat.pow_succ, Int.natCast_mul, show ((4294967296 : Nat) : Int) = 4294967296 from rfl]
    generalize ((4294967296 ^ i : Nat) : Int) = p
    have e : x = x % 4294967296 + 4294967296 * (x / 4294967296) := by omega
    have e1 : p * x = p * (x % 4294967296) + p * (4294967296 * (x / 4294967296)) := by rw [← Int.mul_add, ← e]
    rw [e1, Int.mul_add, Int.mul_assoc p]
    omega
def shR (l : List Int) (s w i : Nat) : List Int := List.replicate w 0 ++ Ci ((Jf l s i).1 ++ [(Jf l s i).2]) (l.length + 1)
theorem Adb {l : List Int} {s w i : Nat} (h : i ≤ l.length) : (shR l s w i).length = w + (l.length + 1) := by
  unfold shR
  rw [List.length_append, List.length_replicate, Ey (by simp [F8]; omega)]
theorem shR_0 {l : List Int} {s w : Nat} : List.replicate (l.length + w + 1) (0 : Int) = shR l s w 0 := by
  unfold shR Ci
  simp only [Jf, List.nil_append, List.length_singleton]
  rw [show l.length + w + 1 = w + (1 + (l.length + 1 - 1)) by omega, ← List.replicate_append_replicate, ← List.replicate_append_replicate]
  rfl
theorem Uq {w i : Nat} {l : List Int} {v : Int} : (List.replicate w 0 ++ l).set ((0 + (i + w)) * 1) v = List.replicate w 0 ++ l.set ((0 + i) * 1) v := by
  rw [Nat.mul_one, Nat.mul_one, Nat.zero_add, Nat.zero_add, List.set_append_right _ _ (by simp), List.length_replicate, Nat.add_sub_cancel]
theorem Adq {w i : Nat} {l : List Int} : (List.replicate w 0 ++ l).getD ((0 + (i + w)) * 1) 0 = l.getD ((0 + i) * 1) 0 := by
  rw [Nat.mul_one, Nat.mul_one, Nat.zero_add, Nat.zero_add, List.getD_eq_getElem?_getD, List.getElem?_append_right (by simp), List.length_replicate, Nat.add_sub_cancel, List.getD_eq_getElem?_getD]
theorem Adc {l : List Int} {s w i : Nat} : (shR l s w i).getD ((0 + (i + w)) * 1) 0 = (Jf l s i).2 := by
  unfold shR
  rw [Adq]
  have h := @Sa (Jf l s i).1 (Jf l s i).2 (l.length + 1)
  rw [F8] at h; exact h
theorem Ada {l : List Int} {s w i : Nat} (h : i < l.length) : ((shR l s w i).set ((0 + (i + w)) * 1) ((Jf l s i).2 + l.getD i 0 * 2 ^ s % 4294967296)).set ((0 + (i + w + 1)) * 1) (l.getD i 0 * 2 ^ s / 4294967296) = shR l s w (i + 1) := by
  have h1 := @Ri (Jf l s i).1 (Jf l s i).2 ((Jf l s i).2 + l.getD i 0 * 2 ^ s % 4294967296) (l.length + 1)
  rw [F8] at h1
  unfold shR
  rw [Uq, h1, show i + w + 1 = (i + 1) + w by omega, Uq]
  congr 1
  have hl : (Jf l s (i + 1)).1.length = i + 1 := F8 l s (i + 1)
  have h2 := @Fk (Jf l s (i + 1)).1 (l.length + 1) (l.getD i 0 * 2 ^ s / 4294967296) (by omega)
  rw [hl] at h2
  rw [Nat.zero_add, Nat.mul_one]
  exact h2
theorem Add {x n : Nat} : trm (shR (Aj B32 x) (n % 32) (n / 32) (Aj B32 x).length) = Aj B32 (x * 2 ^ n) := by
  have hr := Hy (b := B32) (by decide) x
  have hs : n % 32 < 32 := by omega
  have hc := Ue hs hr (Aj B32 x).length
  have hp := Ad8 hs
  have hv := Rh (l := Aj B32 x) (s := n % 32) (Aj B32 x).length (Nat.le_refl _)
  rw [List.take_of_length_le (Nat.le_refl _), Jj (b := B32) (by decide)] at hv
  have e : shR (Aj B32 x) (n % 32) (n / 32) (Aj B32 x).length = List.replicate (n / 32) 0 ++ ((Jf (Aj B32 x) (n % 32) (Aj B32 x).length).1 ++ [(Jf (Aj B32 x) (n % 32) (Aj B32 x).length).2]) := by
    unfold shR
    rw [Ed (by simp [F8])]
  rw [e]
  refine Gt (by decide) (Adj (by decide) (Ro (Aa2 hs hr _) hc.1 (by show _ < (4294967296 : Int); omega)) _) ?_
  rw [Aam, Km, F8, hv, Nv]
  rw [← R2, ← Int.natCast_mul, ← Int.natCast_mul]
  congr 1
  rw [Nat.mul_left_comm, ← Nat.pow_add]
  congr 2
  omega
theorem P3 {x : Int} {s : Nat} (hs : s < 32) (h0 : 0 ≤ x) (h1 : x < 4294967296) : IntKind.u64.wrap (x * 2 ^ min ((s : Int)).toNat 64) = x * 2 ^ s := by
  rw [Gv (by omega)]
  have h2 : x * 2 ^ s ≤ 4294967295 * 2147483648 := Int.mul_le_mul (by omega) (Ad8 hs) (Int.le_of_lt (Fs s)) (by decide)
  have h3 : 0 ≤ x * 2 ^ s := Int.mul_nonneg h0 (Int.le_of_lt (Fs s))
  omega
theorem R7 {z y : Nat} (h : z < y * B32) : (Aj B32 z).length ≤ (Aj B32 y).length + 1 := by
  refine E0 (by decide) _ _ (Nat.lt_trans h ?_)
  rw [Nat.pow_succ]
  exact Nat.mul_lt_mul_of_pos_right (Gh (by decide) y) (by decide)
theorem Aiu {z y : Nat} (h : z ≤ y) : (Aj B32 z).length ≤ (Aj B32 y).length := Hr (by decide) z y h
theorem Agz {x : Nat} : x / B32 ^ (Aj B32 x).length = 0 := Nat.div_eq_of_lt (Gh (by decide) x)
theorem Ni {x y k : Nat} (hy : 0 < y) (hk : 0 < k) :
    x / B32 ^ (k - 1) / y = B32 * (x / B32 ^ k / y) + (x / B32 ^ k % y * B32 + x / B32 ^ (k - 1) % B32) / y ∧ x / B32 ^ (k - 1) % y = (x / B32 ^ k % y * B32 + x / B32 ^ (k - 1) % B32) % y := by
  obtain ⟨k, rfl⟩ : ∃ m, k = m + 1 := ⟨k - 1, by omega⟩
  rw [Nat.add_sub_cancel]
  have e : x / B32 ^ (k + 1) = x / B32 ^ k / B32 := by rw [Nat.pow_succ, Nat.div_div_eq_div_mul]
  rw [e]
  generalize x / B32 ^ k = X
  have e1 := Nat.mod_add_div X B32
  have e2 := Nat.mod_add_div (X / B32) y
  generalize hd : X % B32 = d at *
  generalize hX : X / B32 = Z at *
  generalize hq : Z / y = q at *
  generalize hr : Z % y = r at *
  have e3 : X = (r * B32 + d) + y * (B32 * q) := by
    have e4 : X = d + B32 * (r + y * q) := by rw [e2]; exact e1.symm
    rw [e4, Nat.mul_add, Nat.mul_left_comm B32 y q, Nat.mul_comm B32 r]
    omega
  rw [e3]
  refine ⟨?_, ?_⟩
  · rw [Nat.add_mul_div_left _ _ hy]; omega
  · rw [Nat.add_mul_mod_self_left]
theorem dv_R {x y k : Nat} (hy : 0 < y) : x / B32 ^ k % y * B32 + x / B32 ^ (k - 1) % B32 < y * B32 := by
  have h1 := Nat.mod_lt (x / B32 ^ k) hy
  have h2 := Nat.mod_lt (x / B32 ^ (k - 1)) (show 0 < B32 by decide)
  generalize x / B32 ^ k % y = r at *
  generalize x / B32 ^ (k - 1) % B32 = d at *
  show r * 4294967296 + d < y * 4294967296
  have : d < 4294967296 := h2
  omega
def Hlv (R y t q : Nat) : Prop := t ≤ 32 ∧ y * q ≤ R ∧ R - y * q < y * 2 ^ t ∧ q + 2 ^ t ≤ 4294967296
theorem hlv_0 {R y : Nat} (h : R < y * B32) : Hlv R y 32 0 := ⟨Nat.le_refl _, by rw [Nat.mul_zero]; omega, by rw [Nat.mul_zero]; exact h, by decide⟩
theorem V7 {R y s q : Nat} (h : Hlv R y (s + 1) q) (hc : y * 2 ^ s ≤ R - y * q) : Hlv R y s (q + 2 ^ s) ∧ R - y * q - y * 2 ^ s = R - y * (q + 2 ^ s) := by
  obtain ⟨h1, h2, h3, h4⟩ := h
  rw [Nat.pow_succ, ← Nat.mul_assoc] at h3
  rw [Nat.pow_succ] at h4
  have e : y * (q + 2 ^ s) = y * q + y * 2 ^ s := Nat.mul_add _ _ _
  unfold Hlv
  rw [e]
  generalize y * 2 ^ s = p at *
  generalize y * q = z at *
  generalize 2 ^ s = u at *
  omega
theorem Aby {R y s q : Nat} (h : Hlv R y (s + 1) q) (hc : ¬ y * 2 ^ s ≤ R - y * q) : Hlv R y s q := by
  obtain ⟨h1, h2, h3, h4⟩ := h
  rw [Nat.pow_succ] at h4
  exact ⟨by omega, h2, by omega, by omega⟩
theorem V9 {R y q : Nat} (h : Hlv R y 0 q) : q = R / y ∧ R - y * q = R % y := by
  obtain ⟨h1, h2, h3, h4⟩ := h
  rw [Nat.pow_zero, Nat.mul_one] at h3
  have hy : 0 < y := by omega
  have e : R = (R - y * q) + y * q := by omega
  refine ⟨?_, ?_⟩
  · conv => rhs; rw [e, Nat.add_mul_div_left _ _ hy, Nat.div_eq_of_lt h3, Nat.zero_add]
  · conv => rhs; rw [e, Nat.add_mul_mod_self_left, Nat.mod_eq_of_lt h3]
theorem V8 {R y t q : Nat} (h : R < y * B32) : (Aj B32 (R - y * q)).length ≤ (Aj B32 y).length + 1 := R7 (Nat.lt_of_le_of_lt (Nat.sub_le _ _) h)
theorem W4 {s : Nat} (hs : s < 32) : IntKind.u64.wrap (1 * 2 ^ min ((s : Int)).toNat 64) = ((2 ^ s : Nat) : Int) := by
  rw [P3 hs (by decide) (by decide), Int.one_mul, R2]
theorem pow_s {s : Nat} (hs : s < 32) : 2 ^ s ≤ 2147483648 := Nat.pow_le_pow_right (n := 2) (by decide) (show s ≤ 31 by omega)
theorem Abt {y s : Nat} (hy : 0 < y) (hs : s < 32) : (Aj B32 (y * 2 ^ s)).length ≤ (Aj B32 y).length + 1 :=
  R7 (Nat.mul_lt_mul_of_pos_left (Nat.lt_of_le_of_lt (pow_s hs) (by decide)) hy)
theorem trm_1 {d : Nat} (h : d < B32) : trm [(d : Int)] = Aj B32 d := Gt (by decide) (fun x hx => by rw [List.mem_singleton] at hx; subst hx; exact ⟨by omega, by exact_mod_cast h⟩) (by simp [vb])
theorem Ws {x y : Nat} (h : y ≤ x) : 0 ≤ Ht (x : Int) y := by unfold Ht; (repeat' split) <;> omega
theorem Wr {x y : Nat} (h : ¬ 0 ≤ Ht (x : Int) y) : x < y := Nat.lt_of_not_le fun hle => h (Ws hle)
theorem P9 {n : Nat} (h : n < 4611686018427387904) : IntKind.i64.wrap (Int.tdiv (n : Int) 32) = ((n / 32 : Nat) : Int) := by
  rw [Int.tdiv_eq_ediv_of_nonneg (by omega), Ag (by omega) (by omega)]; omega
theorem Ahp {n : Nat} : Int.tmod (n : Int) 32 = ((n % 32 : Nat) : Int) := by
  rw [Int.tmod_eq_emod_of_nonneg (by omega)]; omega
structure Qd (x y k : Nat) (Q : List Int) : Prop where
  r : rng B32 Q
  v : vb B32 Q = ((x / B32 ^ k / y : Nat) : Int)
  l : Q.length = (Aj B32 x).length - k
theorem qd_0 {x y : Nat} : Qd x y (Aj B32 x).length [] := ⟨fun z hz => by simp at hz, by rw [Agz, Nat.zero_div]; rfl, by simp⟩
theorem Qd.next {x y k : Nat} {Q : List Int} (h : Qd x y k Q) (hy : 0 < y) (hk : 0 < k) (hkl : k ≤ (Aj B32 x).length) : Qd x y (k - 1) (((x / B32 ^ k % y * B32 + x / B32 ^ (k - 1) % B32) / y : Nat) :: Q) := by
  have hd := Ni (x := x) hy hk
  have hR := dv_R (x := x) (k := k) hy
  refine ⟨Yb h.r (Int.natCast_nonneg _) (Int.ofNat_lt.2 (Nat.div_lt_of_lt_mul hR)), ?_, by rw [List.length_cons, h.l]; omega⟩
  show ((((x / B32 ^ k % y * B32 + x / B32 ^ (k - 1) % B32) / y : Nat) : Int)) + (B32 : Int) * vb B32 Q = _
  rw [h.v, hd.1, Int.natCast_add, Int.natCast_mul, Int.add_comm]
theorem Qd.fin {x y : Nat} {Q : List Int} (h : Qd x y 0 Q) : trm Q = Aj B32 (x / y) := Gt (by decide) h.r (by rw [h.v, Nat.pow_zero, Nat.div_one])


theorem Jd {n : Nat} : ((Aj B32 n).length : Int) = 0 ↔ n = 0 := by
  rw [← No (n := n), ← List.length_eq_zero_iff]; omega
theorem dg_0 : dg 0 = [] := Ct




def Xk (x : Int) (r : List Int) (e : Int) : Prop := (e = 0 ∧ r = lm x ∧ Aq x ≤ 67108864) ∨ (e = 3 ∧ r = [] ∧ 67108864 < Aq x)
theorem Afd {l : List Int} {x : Int} (u : Az l) (hv : vl l = x) (h : Hb l ≤ 67108864) : Xk x (trm l) 0 := .inl ⟨rfl, Fv u hv, by rwa [← F3 u hv]⟩
theorem Zu {l : List Int} {x : Int} (u : Az l) (hv : vl l = x) (h : 67108864 < Hb l) : Xk x [] 3 := .inr ⟨rfl, rfl, by rwa [← F3 u hv]⟩
theorem Afe {x : Int} {r : List Int} (h : ErrN x r 3) : Xk x [] 3 := by
  rcases h with ⟨h, _⟩ | ⟨_, h⟩
  · cases h
  · exact .inr ⟨rfl, rfl, h⟩
def lbN (a : List Int) (m : Int) : Nat → List Int × Int
  | 0 => ([], 0)
  | i + 1 => ((lbN a m i).1 ++ [(a.getD i 0 * m % 18446744073709551616 + (lbN a m i).2) % 18446744073709551616], a.getD i 0 * m / 18446744073709551616 + (a.getD i 0 * m % 18446744073709551616 + (lbN a m i).2) / 18446744073709551616)
def lbL (a : List Int) (m : Int) : List Int := (lbN a m a.length).1 ++ [(lbN a m a.length).2]
theorem Afh {v w : Int} (h1 : 0 < w) : 0 ≤ v % w ∧ v % w < w := ⟨Int.emod_nonneg _ (by omega), Int.emod_lt_of_pos _ h1⟩
theorem J3 {v : Int} (h : 0 ≤ v) : vl (lm v) = v := by rw [S2]; omega
theorem Ahi {l : List Int} (hu : Az l) (j : Nat) : l.getD j 0 = (((vl l).toNat / 18446744073709551616 ^ j % 18446744073709551616 : Nat) : Int) := by
  obtain ⟨k, hk⟩ := Tx l
  have e : trm l = lm (vl l) := Fv hu rfl
  have h0 := Bf hu
  have hd := Hs (b := 18446744073709551616) (by decide) j (vl l).natAbs
  have hn : (vl l).natAbs = (vl l).toNat := by omega
  rw [hn] at hd
  rw [← hd]
  have e2 : trm l = Aj 18446744073709551616 (vl l).toNat := by rw [e]; unfold lm; rw [hn]
  rw [← e2]
  conv => lhs; rw [hk]
  rcases Nat.lt_or_ge j (trm l).length with hj | hj
  · rw [List.getD_eq_getElem?_getD, List.getElem?_append_left hj, List.getD_eq_getElem?_getD]
  · rw [Dw hj, List.getD_eq_getElem?_getD, List.getElem?_append_right hj]
    rcases Nat.lt_or_ge (j - (trm l).length) k with h | h
    · rw [List.getElem?_replicate, if_pos h]; rfl
    · rw [List.getElem?_replicate, if_neg (by omega)]; rfl
theorem pow_mul {a m : Int} {E k : Nat} (hk : 0 < k) (hb : E / 2 ^ (k - 1) % 2 = 1) : a ^ (E / 2 ^ k) % m * (a ^ (E / 2 ^ k) % m) % m * a % m = a ^ (E / 2 ^ (k - 1)) % m := by
  obtain ⟨k, rfl⟩ : ∃ j, k = j + 1 := ⟨k - 1, by omega⟩
  rw [Nat.add_sub_cancel] at hb ⊢
  have e : E / 2 ^ k = E / 2 ^ (k + 1) + E / 2 ^ (k + 1) + 1 := by
    rw [Nat.pow_succ, ← Nat.div_div_eq_div_mul]; omega
  rw [← Int.mul_emod, Int.mul_emod, Int.emod_emod, ← Int.mul_emod, e, Int.pow_succ, Int.pow_add]


def pmS (m r h e : Nat) : Nat := if e % 2 = 0 then h * h % m else h * h % m * r % m
def pmK (m r : Nat) : Nat → Nat → Nat
  | 0, _ => 1 % m
  | f + 1, e => pmS m r (pmK m r f (e / 2)) e
def Ah2 (p : Nat) : Bool := (List.range 32).all fun d => decide (d < 2) || decide (p < d * d) || decide (p % d ≠ 0)
def fermB (p : Nat) : Bool := !Ah2 p || (List.range 32).all fun r => Nat.beq (pmK p r 10 p) (r % p)


structure Co (a b r s x y : Int) : Prop where
  dr : b ∣ a * x - r
  ds : b ∣ a * y - s
  gc : ∀ d : Int, (d ∣ r ∧ d ∣ s) ↔ (d ∣ a ∧ d ∣ b)
  bx : x.natAbs ≤ b.natAbs
  by_ : y.natAbs ≤ b.natAbs
  br : r.natAbs ≤ max a.natAbs b.natAbs
  bs : s.natAbs ≤ b.natAbs
  st : (r = a ∧ s = b ∧ x = 1 ∧ y = 0) ∨ (r = b ∧ 0 ≤ s ∧ s < b.natAbs ∧ x = 0 ∧ y = 1) ∨
       (0 < r ∧ 0 ≤ s ∧ s < r ∧ ((0 ≤ x ∧ y ≤ 0 ∧ x * s - y * r = b.natAbs) ∨ (x ≤ 0 ∧ 0 ≤ y ∧ y * r - x * s = b.natAbs))) ∨
       (0 < r ∧ 0 ≤ s ∧ s < r ∧ x = 1 ∧ 0 ≤ y ∧ y * r = b.natAbs + s)
theorem Qu {b s : Int} (hs : 0 < s) : (b / s).natAbs ≤ b.natAbs := by
  rcases Int.lt_or_le b 0 with h | h
  · have h1 : b / s ≤ 0 := by
      have := Int.ediv_neg_of_neg_of_pos h hs; omega
    have h2 : b ≤ b / s := by
      rw [Int.le_ediv_iff_mul_le hs]
      have h3 : b * s ≤ b * 1 := Int.mul_le_mul_of_nonpos_left (by omega) (by omega)
      omega
    omega
  · have := Int.ediv_nonneg h (Int.le_of_lt hs)
    have := Int.ediv_le_self s h
    omega
theorem Co.next {a b r s x y : Int} (hb : b ≠ 0) (h : Co a b r s x y) (hs : s ≠ 0) {q : Int} (hq : r - q * s = r % s) : Co a b s (r % s) y (x - q * y) := by
  have hm0 : 0 ≤ r % s := Int.emod_nonneg _ hs
  have hm1 : r % s < s.natAbs := Int.emod_lt _ hs
  obtain ⟨k1, hk1⟩ := h.dr
  obtain ⟨k2, hk2⟩ := h.ds
  have hbs := h.bs
  have hbr := h.br
  have hN : (0 : Int) < b.natAbs := by omega
  have e1 : (x - q * y) * s = x * s - q * y * s := Int.sub_mul _ _ _
  have e2 : y * (r % s) = y * r - q * y * s := by rw [← hq, Int.mul_sub, ← Int.mul_assoc, Int.mul_comm y q]
  have hby := h.by_
  have hbx := h.bx
  have key : (x - q * y).natAbs ≤ b.natAbs ∧ ((s = a ∧ r % s = b ∧ y = 1 ∧ x - q * y = 0) ∨ (s = b ∧ 0 ≤ r % s ∧ r % s < b.natAbs ∧ y = 0 ∧ x - q * y = 1) ∨
       (0 < s ∧ 0 ≤ r % s ∧ r % s < s ∧ ((0 ≤ y ∧ x - q * y ≤ 0 ∧ y * (r % s) - (x - q * y) * s = b.natAbs) ∨ (y ≤ 0 ∧ 0 ≤ x - q * y ∧ (x - q * y) * s - y * (r % s) = b.natAbs))) ∨
       (0 < s ∧ 0 ≤ r % s ∧ r % s < s ∧ y = 1 ∧ 0 ≤ x - q * y ∧ (x - q * y) * s = b.natAbs + r % s)) := by
    have bound : ∀ z : Int, 0 < s → 0 ≤ z → z * s ≤ b.natAbs → z.natAbs ≤ b.natAbs := fun z h1 h2 h3 => by
      have : z * 1 ≤ z * s := Int.mul_le_mul_of_nonneg_left (by omega) h2
      omega
    rcases h.st with ⟨h1, h2, h3, h4⟩ | ⟨h1, h2, h3, h4, h5⟩ | ⟨h1, h2, h3, h4⟩ | ⟨h1, h2, h3, h4, h5, h6⟩
    · subst h1; subst h2; subst h3; subst h4
      rw [Int.mul_zero]
      exact ⟨by omega, .inr (.inl ⟨rfl, hm0, hm1, rfl, by omega⟩)⟩
    · subst h1; subst h4; subst h5
      have hs0 : 0 < s := by omega
      have hqe : q = r / s := by
        have := Int.emod_add_mul_ediv r s
        have e3 : q * s = r / s * s := by rw [Int.mul_comm (r / s)]; omega
        exact Int.eq_of_mul_eq_mul_right (by omega) e3
      have hb2 := Qu (b := r) hs0
      rw [← hqe] at hb2
      rw [Int.mul_one] at e1 e2 ⊢
      rw [Int.zero_mul] at e1
      refine ⟨by omega, .inr (.inr ?_)⟩
      rcases Int.lt_or_le r 0 with hr | hr
      · refine .inr ⟨hs0, hm0, by omega, rfl, ?_, by omega⟩
        have := Int.ediv_neg_of_neg_of_pos hr hs0
        omega
      · refine .inl ⟨hs0, hm0, by omega, .inl ⟨by omega, ?_, by omega⟩⟩
        have := Int.ediv_nonneg hr (Int.le_of_lt hs0)
        omega
    · have hs0 : 0 < s := by omega
      have hq0 : 0 ≤ q := by
        rcases Int.lt_or_le q 0 with hh | hh
        · exfalso
          have := Int.mul_neg_of_neg_of_pos hh hs0
          omega
        · exact hh
      rcases h4 with ⟨h5, h6, h7⟩ | ⟨h5, h6, h7⟩
      · have f1 : 0 ≤ q * -y := Int.mul_nonneg hq0 (by omega)
        rw [Int.mul_neg] at f1
        have f2 : 0 ≤ -y * (r % s) := Int.mul_nonneg (by omega) hm0
        rw [Int.neg_mul] at f2
        exact ⟨bound _ hs0 (by omega) (by omega), .inr (.inr (.inl ⟨hs0, hm0, by omega, .inr ⟨h6, by omega, by omega⟩⟩))⟩
      · have f1 : 0 ≤ q * y := Int.mul_nonneg hq0 h6
        have f2 : 0 ≤ y * (r % s) := Int.mul_nonneg h6 hm0
        have f3 := bound (-(x - q * y)) hs0 (by omega) (by rw [Int.neg_mul]; omega)
        exact ⟨by omega, .inr (.inr (.inl ⟨hs0, hm0, by omega, .inl ⟨h6, by omega, by omega⟩⟩))⟩
    · have hs0 : 0 < s := by omega
      have hq0 : 0 < q := by
        rcases Int.lt_or_le 0 q with hh | hh
        · exact hh
        · exfalso
          have := Int.mul_nonneg (show 0 ≤ -q by omega) (Int.le_of_lt hs0)
          rw [Int.neg_mul] at this
          omega
      have hy0 : 0 < y := by
        rcases Int.lt_or_le 0 y with hh | hh
        · exact hh
        · exfalso
          have : y = 0 := by omega
          rw [this, Int.zero_mul] at h6
          omega
      subst h4
      have f1 : 0 < q * y := Int.mul_pos hq0 hy0
      have f2 : 0 ≤ y * (r % s) := Int.mul_nonneg h5 hm0
      have f3 := bound (-(1 - q * y)) hs0 (by omega) (by rw [Int.neg_mul]; omega)
      exact ⟨by omega, .inr (.inr (.inl ⟨hs0, hm0, by omega, .inl ⟨h5, by omega, by omega⟩⟩))⟩
  refine ⟨h.ds, ⟨k1 - q * k2, ?_⟩, fun d => ?_, h.by_, key.1, by omega, by omega, key.2⟩
  · rw [← hq, Int.mul_sub a, Int.mul_sub b, ← hk1, Int.mul_left_comm b, ← hk2, Int.mul_sub q, Int.mul_left_comm a]; omega
  · rw [← h.gc d]
    constructor
    · rintro ⟨h1, h2⟩
      refine ⟨?_, h1⟩
      have : r = r % s + q * s := by omega
      rw [this]
      exact Int.dvd_add h2 (Int.dvd_trans h1 (Int.dvd_mul_left q s))
    · rintro ⟨h1, h2⟩
      refine ⟨h2, ?_⟩
      rw [← hq]
      exact Int.dvd_sub h1 (Int.dvd_trans h2 (Int.dvd_mul_left q s))
theorem Co.fin {a b r x y : Int} (h : Co a b r 0 x y) : (∀ d : Int, d ∣ r ↔ (d ∣ a ∧ d ∣ b)) ∧ b ∣ a * x - r ∧ r ∣ a ∧ r ∣ b := by
  have h1 : ∀ d : Int, d ∣ r ↔ (d ∣ a ∧ d ∣ b) := fun d => by
    rw [← h.gc d]
    exact ⟨fun hd => ⟨hd, Int.dvd_zero d⟩, fun hd => hd.1⟩
  have h2 := (h1 r).1 (Int.dvd_refl r)
  exact ⟨h1, h.dr, h2.1, h2.2⟩


structure CoE (a b g x : Int) : Prop where
  g0 : 0 ≤ g
  gc : ∀ d : Int, d ∣ g ↔ (d ∣ a ∧ d ∣ b)
  dx : b ∣ a * x - g
  bx : x.natAbs ≤ b.natAbs
  bg : g.natAbs ≤ max a.natAbs b.natAbs
theorem Co.pos {a b r x y : Int} (h : Co a b r 0 x y) (hr : 0 ≤ r) : CoE a b r x := ⟨hr, h.fin.1, h.dr, h.bx, h.br⟩
theorem Co.neg {a b r x y : Int} (h : Co a b r 0 x y) (hr : r < 0) : CoE a b (-r) (-x) := by
  have hb := h.bx
  have hr2 := h.br
  refine ⟨by omega, fun d => by rw [Int.dvd_neg]; exact h.fin.1 d, ?_, by omega, by omega⟩
  have : a * -x - -r = -(a * x - r) := by rw [Int.mul_neg]; omega
  rw [this]
  exact (Int.dvd_neg).2 h.dr
theorem CoE.da {a b g x : Int} (h : CoE a b g x) : g ∣ a ∧ g ∣ b := (h.gc g).1 (Int.dvd_refl g)
theorem CoE.le {a b g x : Int} (h : CoE a b g x) (hb : b ≠ 0) : g.natAbs ≤ b.natAbs := Nat.le_of_dvd (by omega) (Int.natAbs_dvd_natAbs.2 h.da.2)
theorem of_lm {v : Int} (h : inI v) : lm v = fl ((v.natAbs : Nat) : Int) := R5 (by unfold inI at h; omega)
theorem Gz (v w : Int) : Aq (v * w) ≤ Aq v + Aq w := by
  refine Cn.2 ?_
  rw [Int.natAbs_mul, Nat.pow_add]
  have h1 : v.natAbs < 2 ^ Aq v := Cn.1 (Nat.le_refl _)
  have h2 : w.natAbs < 2 ^ Aq w := Cn.1 (Nat.le_refl _)
  exact Nat.mul_lt_mul'' h1 h2


theorem Zb (a b : Int) : Aq (a - b) ≤ max (Aq a) (Aq b) + 1 := by
  refine Cn.2 ?_
  have h1 : a.natAbs < 2 ^ Aq a := Cn.1 (Nat.le_refl _)
  have h2 : b.natAbs < 2 ^ Aq b := Cn.1 (Nat.le_refl _)
  have h3 : 2 ^ Aq a ≤ 2 ^ max (Aq a) (Aq b) := Nat.pow_le_pow_right (by decide) (by omega)
  have h4 : 2 ^ Aq b ≤ 2 ^ max (Aq a) (Aq b) := Nat.pow_le_pow_right (by decide) (by omega)
  rw [Nat.pow_succ]
  omega
def InvP (v w : Int) (s : Bool) (l : List Int) (e : Int) : Prop :=
  ∃ g x : Int, CoE (v % w) (w.natAbs : Int) g x ∧ ((g ≠ 1 ∧ s = false ∧ l = [] ∧ e = 61) ∨ (g = 1 ∧ s = decide (x % (w.natAbs : Int) < 0) ∧ l = lm (x % (w.natAbs : Int)) ∧ e = 0))
theorem Rk {v w g g2 x x2 : Int} (h : CoE v w g x) (h2 : CoE (v % w) (w.natAbs : Int) g2 x2) : g2 = g := by
  have hww : ∀ d : Int, d ∣ (w.natAbs : Int) ↔ d ∣ w := fun d => Int.dvd_natAbs
  have key : ∀ d : Int, (d ∣ v % w ∧ d ∣ (w.natAbs : Int)) ↔ (d ∣ v ∧ d ∣ w) := fun d => by
    rw [hww]
    have e := Int.emod_add_mul_ediv v w
    constructor
    · rintro ⟨h1, h2⟩
      refine ⟨?_, h2⟩
      rw [← e]
      exact Int.dvd_add h1 (Int.dvd_trans h2 (Int.dvd_mul_right w _))
    · rintro ⟨h1, h2⟩
      refine ⟨?_, h2⟩
      have : v % w = v - w * (v / w) := by omega
      rw [this]
      exact Int.dvd_sub h1 (Int.dvd_trans h2 (Int.dvd_mul_right w _))
  have d1 : g2 ∣ g := (h.gc g2).2 ((key g2).1 ((h2.gc g2).1 (Int.dvd_refl g2)))
  have d2 : g ∣ g2 := (h2.gc g).2 ((key g).2 ((h.gc g).1 (Int.dvd_refl g)))
  have := Nat.dvd_antisymm (Int.natAbs_dvd_natAbs.2 d1) (Int.natAbs_dvd_natAbs.2 d2)
  have := h.g0
  have := h2.g0
  omega
theorem Ae6 {v w x : Int} (hw : w ≠ 0) (h : CoE (v % w) (w.natAbs : Int) 1 x) : w ∣ v * (x % (w.natAbs : Int)) - 1 := by
  obtain ⟨c, hc⟩ := h.dx
  have e1 := Int.emod_add_mul_ediv v w
  have e2 := Int.emod_add_mul_ediv x (w.natAbs : Int)
  obtain ⟨n, hn⟩ := (Int.dvd_natAbs.2 (Int.dvd_refl w) : w ∣ (w.natAbs : Int))
  generalize hr : v % w = r at *
  generalize hX : x % (w.natAbs : Int) = X at *
  generalize v / w = q at *
  generalize x / (w.natAbs : Int) = D at *
  -- v X - 1 = (r + w q) X - 1 = r X + w q X - 1; r X = r x - r n w D
  have e3 : r * x = r * X + w * (r * (n * D)) := by
    rw [← e2, Int.mul_add, hn, Int.mul_left_comm w, Int.mul_assoc w]
  refine ⟨n * c - r * (n * D) + q * X, ?_⟩
  rw [Int.mul_add, Int.mul_sub, ← Int.mul_assoc w n, ← hn, ← hc, e3, ← e1, Int.add_mul, Int.mul_assoc w]
  omega


theorem Im {s : Bool} {l : List Int} (u : Az l) : Aq (sv s l) ≤ 64 * l.length := by
  rw [← (K5 (s := s) u rfl).2.2]
  exact Jp l
theorem InvP.no {v w g x : Int} {s : Bool} {l : List Int} {e : Int} (h : InvP v w s l e) (hE : CoE v w g x) (hg : g ≠ 1) : e = 61 := by
  obtain ⟨g2, x2, h2, h3⟩ := h
  have := Rk hE h2
  rcases h3 with ⟨_, _, _, h⟩ | ⟨h, _⟩
  · exact h
  · omega
theorem InvP.yes {v w g x : Int} {s : Bool} {l : List Int} {e : Int} (hw : w ≠ 0) (h : InvP v w s l e) (hE : CoE v w g x) (hg : g = 1) : ∃ i : Int, 0 ≤ i ∧ i < w.natAbs ∧ s = decide (i < 0) ∧ l = lm i ∧ e = 0 ∧ w ∣ v * i - 1 := by
  obtain ⟨g2, x2, h2, h3⟩ := h
  have := Rk hE h2
  rcases h3 with ⟨h, _⟩ | ⟨h, e1, e2, e3⟩
  · omega
  · subst h
    have hb := Afh (v := x2) (w := (w.natAbs : Int)) (by omega)
    exact ⟨_, hb.1, hb.2, e1, e2, e3, Ae6 hw h2⟩

theorem Own_s (n : Nat) (hn : n < 1000000) (rs : Nat → List Int) (hlen : ∀ j, j < n → (rs j).length < 1099511627776) : SpecM Tryz.prog 10 [.o 0 0 0 n] (Cl n (M2 n rs) (owR rs) []) (fun o _ => o = .ret (.b true)) := by
  refine Mo [(0, .o 0 0 0 n)] rfl (_) rfl Tryz.func10 rfl (zlb rfl) fun Γ hN hds => ?_
  have hd := Bt 112 hN
  refine Lo (H' := Cl n (M2 n rs) (owF rs 0) []) Yy <| zsr <| zas rfl (hd 2 rfl) <| Aa <| Ae <| zsr <| zmv rfl (hd 13 rfl) <| Ac (C6 Ac5 rfl rfl) (hd 14 rfl) <| zmv rfl (hd 15 rfl) <| Aa <| Ap ?_
  refine Bq (G := Nat) (fun i => i ≤ n) (fun i => [(15, .i .i64 (i : Int)), (3, .u), (4, .u), (5, .u), (16, .u), (17, .u), (18, .u), (19, .u), (20, .u), (21, .u), (22, .u), (23, .u), (24, .u), (25, .u), (26, .u), (27, .u), (28, .u), (29, .u), (30, .u), (31, .u), (32, .u), (33, .u)]) (fun i => Cl n (M2 n rs) (owF rs i) []) (fun i => n - i) 0 ?_ ?_ rfl ?_
  · exact Nat.zero_le _
  · exact (.cons rfl (.v9 (.v9 (.u .nil))))
  · rintro i hc1; refine zsr <| Ac (Br rfl rfl) (hd 16 rfl) <| Aa <| Ae ?_
    refine Bg rfl (fun h1 => ?_) (fun h1 => ?_)
    · have hi : i < n := by omega
      have hl := hlen i hi
      refine Ai <| Ae <| Ap <| zsr <| zmv rfl (hd 17 rfl) <| Ac (Cd (i := i) Ac5 rfl rfl rfl (by first | rfl | omega) (by first | omega | (dsimp only; omega)) rfl) (hd 18 rfl) <| Ac (Be Aef rfl rfl (Adu hi rfl)) (hd 19 rfl) <| zas rfl (hd 3 rfl) <| zas rfl (hd 4 rfl) <| Aa <| Ae <| Lo (H' := Cl n (M2 n rs) (upd (owF rs i) i (owK rs i 0)) []) ow_in ?_; refine Af <| zmv rfl (hd 20 rfl) <| Ac (C6 Oc rfl (Rp hi)) (hd 21 rfl) <| zmv rfl (hd 22 rfl) <| Aa <| Ap ?_
      refine Bq (G := Nat) (fun k => k ≤ (rs i).length) (fun k => [(22, .i .i64 (k : Int)), (5, .u), (23, .u), (24, .u), (25, .u), (26, .u), (27, .u), (28, .u), (29, .u), (30, .u), (31, .u), (32, .u)]) (fun k => Cl n (M2 n rs) (upd (owF rs i) i (owK rs i k)) []) (fun k => (rs i).length - k) 0 ?_ ?_ rfl ?_
      · exact Nat.zero_le _
      · exact (.cons rfl (.v9 (.u .nil)))
      · rintro k hc2; refine zsr <| Ac (Br rfl rfl) (hd 23 rfl) <| Aa <| Ae ?_
        refine Bg rfl (fun h2 => ?_) (fun h2 => ?_)
        · have hk : k < (rs i).length := by omega
          have hkl : k < (List.replicate k (owC i) ++ (rs i).drop k).length := by simp; omega
          refine Ai <| Ae <| Ap <| zsr <| zmv rfl (hd 24 rfl) <| zas rfl (hd 5 rfl) <| Aa <| Af <| zmv rfl (hd 25 rfl) <| zmv rfl (hd 26 rfl) <| zmv rfl (hd 27 rfl) <| Ac (Fi rfl rfl (by decide) rfl) (hd 28 rfl) ?_; refine Ac (Aw rfl rfl (r := owC i) (by rw [show ((i : Int).tmod 251) = ((i % 251 : Nat) : Int) from rfl, Ag (by omega) (by omega)]; unfold owC; omega)) (hd 29 rfl) <| Ac (Cv Jx G9 rfl (r := owC i) (by unfold owC; rw [A0 (by omega) (by omega)])) (hd 30 rfl) <| Ac (Cd (i := k) Oc rfl (Rp hi) rfl rfl (by omega) rfl) (hd 31 rfl) <| A6 (B3 rfl rfl (Rp hi) Bj (by omega)) <| Aa <| Af <| Ac (Aw rfl rfl (Ag (by first | omega | (dsimp only; omega)) (by first | omega | (dsimp only; omega)))) (hd 32 rfl) <| zmv rfl (hd 22 rfl) <| Aa ?_
          refine ⟨k + 1, ?_, ?_, (Ad9 hi (by omega)), A5 24 rfl rfl ?_⟩
          · omega
          · omega
          · exact (.cons rfl (.v9 (.u .nil)))
        · refine Bh <| Af <| Ac (Aw rfl rfl (Ag (by first | omega | (dsimp only; omega)) (by first | omega | (dsimp only; omega)))) (hd 33 rfl) <| zmv rfl (hd 15 rfl) <| Aa ?_
          refine ⟨i + 1, ?_, ?_, (Ah8 (by omega) (by omega)), A5 46 rfl rfl ?_⟩
          · omega
          · omega
          · exact (.cons rfl (.v9 (.v9 (.u .nil))))
    · refine Bh <| Ae <| Ae <| Lo (H' := Cl n (owL n rs 0) (owG rs 0) []) (Ah7 (by omega)) <| Af <| zmv rfl (hd 34 rfl) <| Ac (C6 Ac5 rfl rfl) (hd 35 rfl) <| zmv rfl (hd 36 rfl) <| Aa <| Ap ?_
      refine Bq (G := Nat × List Ob) (fun g => g.1 ≤ n) (fun g => [(36, .i .i64 (g.1 : Int)), (6, .u), (7, .u), (8, .u), (37, .u), (38, .u), (39, .u), (40, .u), (41, .u), (42, .u), (43, .u), (44, .u), (45, .u), (46, .u), (47, .u), (48, .u), (49, .u), (50, .u), (51, .u), (52, .u), (53, .u), (54, .u), (55, .u), (56, .u), (57, .u), (58, .u), (59, .u), (60, .u), (61, .u)]) (fun g => Cl n (owL n rs g.1) (owG rs g.1) g.2) (fun g => n - g.1) (0, []) ?_ ?_ rfl ?_
      · exact Nat.zero_le _
      · exact (.cons rfl (.v9 (.v9 (.v5 (.u (.u (.u .nil)))))))
      · rintro ⟨i, J⟩ hc1
        dsimp only at hc1 ⊢
        refine zsr <| Ac (Br rfl rfl) (hd 37 rfl) <| Aa <| Ae ?_
        refine Bg rfl (fun h3 => ?_) (fun h3 => ?_)
        · have hi : i < n := by omega
          have hl := hlen i hi
          refine Ai <| Ae <| Ap <| zsr <| zmv rfl (hd 38 rfl) <| Ac (Cd (i := i) Ac5 rfl rfl rfl (by first | rfl | omega) (by first | omega | (dsimp only; omega)) rfl) (hd 39 rfl) <| Ac (Be Aef rfl rfl (Y0 hi)) (hd 40 rfl) <| zas rfl (hd 6 rfl) <| zas rfl (hd 7 rfl) <| Aa <| Ae <| Af ?_; refine zmv rfl (hd 41 rfl) <| Ac (Dg rfl rfl (r := ((5 * i : Nat) : Int)) (by rw [Ag (by omega) (by omega)]; omega)) (hd 42 rfl) <| Ac (Aw rfl rfl (r := ((300 + 5 * i : Nat) : Int)) (by rw [Ag (by omega) (by omega)]; omega)) (hd 43 rfl) <| Ac (Cv Jx G9 rfl (r := ((300 + 5 * i : Nat) : Int)) (by rw [A0 (by omega) (by omega)]; try omega)) (hd 44 rfl) <| zas rfl (hd 8 rfl) <| Aa <| zsr <| zmv rfl (hd 45 rfl) <| zmv rfl (hd 46 rfl) <| zmv rfl (hd 47 rfl) <| Ac (Aw rfl rfl (r := ((300 + 5 * i + 1 : Nat) : Int)) (by rw [A0 (by omega) (by omega)]; try omega)) (hd 48 rfl) <| zmv rfl (hd 49 rfl) ?_; refine Ac (Aw rfl rfl (r := ((300 + 5 * i + 2 : Nat) : Int)) (by rw [A0 (by omega) (by omega)]; try omega)) (hd 50 rfl) <| zmv rfl (hd 51 rfl) <| Ac (Aw rfl rfl (r := ((300 + 5 * i + 3 : Nat) : Int)) (by rw [A0 (by omega) (by omega)]; try omega)) (hd 52 rfl) <| zmv rfl (hd 53 rfl) <| Ac (Aw rfl rfl (r := ((300 + 5 * i + 4 : Nat) : Int)) (by rw [A0 (by omega) (by omega)]; try omega)) (hd 54 rfl) <| A4 (Dl (id := n + 1 + J.length) (xs := [.tmp 46, .tmp 48, .tmp 50, .tmp 52, .tmp 54]) el25 rfl (Ab rfl (Ab rfl (Ab rfl (Ab rfl (Ab rfl Ad))))) rfl (Cx rfl) (by decide) Uo) (hd 55 rfl) <| jo_H (H' := Cl n (owL n rs i) (owG rs i) (J ++ [⟨71, 1, 0, true, ints .u64 (owB i)⟩])) Ahm <| O6 el25 rfl (Aea hi) (by simp [ints]) rfl (Pz Ado rfl rfl) (by omega) (by unfold maxLen; omega) (hd 56 rfl) <| jo_H (Aec hi) <| zas rfl (hd 7 rfl) <| Aa <| Af <| zmv rfl (hd 57 rfl) ?_; refine zmv rfl (hd 58 rfl) <| zmv rfl (hd 59 rfl) <| Ac (Cd (i := i) Ac5 rfl rfl rfl (by first | rfl | omega) (by first | omega | (dsimp only; omega)) rfl) (hd 60 rfl) <| A6 (Ak rfl rfl rfl siz25 rfl (by simp [cellsV, Ip, Rp hi, owE]) (by simp [owL]; omega)) <| Aa <| Af <| Ac (Aw rfl rfl (Ag (by first | omega | (dsimp only; omega)) (by first | omega | (dsimp only; omega)))) (hd 61 rfl) <| zmv rfl (hd 36 rfl) <| Aa ?_
          refine ⟨(i + 1, _), ?_, ?_, (Aeb hi), A5 59 rfl rfl ?_⟩
          · show i + 1 ≤ n; omega
          · show n - (i + 1) < n - i; omega
          · exact (.cons rfl (.v9 (.v9 (.v5 (.u (.u (.u .nil)))))))
        · refine Bh <| Ae <| zsr <| zmv rfl (hd 62 rfl) <| Ac (C6 Ac5 rfl rfl) (hd 63 rfl) <| zmv rfl (hd 64 rfl) <| Aa <| Ap ?_
          refine Bq (G := Nat) (fun q => q ≤ n) (fun q => [(64, .i .i64 (q : Int)), (2, .u), (9, .u), (10, .u), (11, .u), (12, .u), (65, .u), (66, .u), (67, .u), (68, .u), (69, .u), (70, .u), (71, .u), (72, .u), (73, .u), (74, .u), (75, .u), (76, .u), (77, .u), (78, .u), (79, .u), (80, .u), (81, .u), (82, .u), (83, .u), (84, .u), (85, .u), (86, .u), (87, .u), (88, .u), (89, .u), (90, .u), (91, .u), (92, .u), (93, .u), (94, .u), (95, .u), (96, .u), (97, .u), (98, .u), (99, .u), (100, .u), (101, .u), (102, .u), (103, .u), (104, .u), (105, .u), (106, .u), (107, .u), (108, .u), (109, .u), (110, .u), (111, .u)]) (fun q => Cl n (owL n rs i) (owG rs i) J) (fun q => n - q) 0 ?_ ?_ rfl ?_
          · exact Nat.zero_le _
          · exact (.cons rfl (.v9 (.v9 (.v9 (.v9 (.v9 (.u (.u .nil))))))))
          · rintro q hc2; refine zsr <| Ac (Br rfl rfl) (hd 65 rfl) <| Aa <| Ae ?_
            refine Bg rfl (fun h4 => ?_) (fun h4 => ?_)
            · have hi : q < n := by omega
              have hl := hlen q hi
              have hm : ¬ i < n := by omega
              refine Ai <| Ae <| Ap <| zsr <| zmv rfl (hd 66 rfl) <| Ac (Cd (i := q) Ac5 rfl rfl rfl (by first | rfl | omega) (by first | omega | (dsimp only; omega)) rfl) (hd 67 rfl) <| Ac (Be Aef rfl rfl (Yz hi hm)) (hd 68 rfl) <| zas rfl (hd 9 rfl) <| zas rfl (hd 10 rfl) <| Aa <| Ae <| Af ?_; refine zmv rfl (hd 69 rfl) <| Ac (C6 Oc rfl (Hj hi hm)) (hd 70 rfl) <| zmv rfl (hd 71 rfl) <| Aa <| Ap ?_
              refine Bq (G := Nat) (fun k => k ≤ (rs q).length + 5) (fun k => [(71, .i .i64 (k : Int)), (2, .u), (11, .u), (12, .u), (72, .u), (73, .u), (74, .u), (75, .u), (76, .u), (77, .u), (78, .u), (79, .u), (80, .u), (81, .u), (82, .u), (83, .u), (84, .u), (85, .u), (86, .u), (87, .u), (88, .u), (89, .u), (90, .u), (91, .u), (92, .u), (93, .u), (94, .u), (95, .u), (96, .u), (97, .u), (98, .u), (99, .u), (100, .u), (101, .u), (102, .u), (103, .u), (104, .u), (105, .u), (106, .u), (107, .u), (108, .u), (109, .u), (110, .u)]) (fun k => Cl n (owL n rs i) (owG rs i) J) (fun k => (rs q).length + 5 - k) 0 ?_ ?_ rfl ?_
              · exact Nat.zero_le _
              · exact (.cons rfl (.v9 (.v9 (.v9 (.v9 (.u (.u .nil)))))))
              · rintro k hc3; refine zsr <| Ac (Br rfl rfl) (hd 72 rfl) <| Aa <| Ae ?_
                refine Bg rfl (fun h5 => ?_) (fun h5 => ?_)
                · have hk : k < (rs q).length + 5 := by omega
                  have hkl := Ah9 (rs := rs) (i := q)
                  refine Ai <| Ae <| Ap <| zsr <| zmv rfl (hd 73 rfl) <| Ac (Cd (i := k) Oc rfl (Hj hi hm) rfl rfl (by omega) rfl) (hd 74 rfl) <| Ac (Ba (D3 Bj rfl (Hj hi hm) (by omega)) (congrArg (V.i .u64) (Ah6 hk))) (hd 75 rfl) <| zas rfl (hd 11 rfl) <| zas rfl (hd 12 rfl) <| Aa <| Ae <| Af ?_; refine zmv rfl (hd 76 rfl) <| zmv rfl (hd 77 rfl) <| Ac (C6 Oc rfl (Hj hi hm)) (hd 78 rfl) <| Ac (Bd rfl rfl (r := (((rs q).length : Nat) : Int)) (by rw [Ag (by omega) (by omega)]; omega)) (hd 79 rfl) <| Ac (Br rfl rfl) (hd 80 rfl) <| zmv rfl (hd 81 rfl) ?_
                  refine D4 81 rfl (fun h6 => ?_) (fun h6 => ?_)
                  · refine Ay 81 rfl rfl (Ar rfl) (hd 82 rfl) <| Ay 81 rfl rfl (Ar rfl) (hd 83 rfl) <| Ay 81 rfl rfl (Fi rfl rfl (by decide) rfl) (hd 84 rfl) <| Ay 81 rfl rfl (Aw rfl rfl (r := owC q) (by rw [show ((q : Int).tmod 251) = ((q % 251 : Nat) : Int) from rfl, Ag (by omega) (by omega)]; unfold owC; omega)) (hd 85 rfl) <| Ay 81 rfl rfl (Cv Jx G9 rfl (r := owC q) (by unfold owC; rw [A0 (by omega) (by omega)])) (hd 86 rfl) <| Ay 81 rfl rfl (Bo (Ec rfl rfl) (fun h => h (if_pos (by omega)))) (hd 87 rfl) <| Ac (A9 rfl rfl) (hd 88 rfl) <| zmv rfl (hd 89 rfl) <| Ay 89 rfl rfl (Ar rfl) (hd 90 rfl) <| Ay 89 rfl rfl (Ar rfl) (hd 91 rfl) <| Ay 89 rfl rfl (C6 Oc rfl (Hj hi hm)) (hd 92 rfl) <| Ay 89 rfl rfl (Bd rfl rfl (r := (((rs q).length : Nat) : Int)) (by rw [Ag (by omega) (by omega)]; omega)) (hd 93 rfl) <| Ay 89 rfl rfl (Eh rfl rfl) (hd 94 rfl) ?_; refine Ay 89 rfl rfl (Ar rfl) (hd 95 rfl) ?_
                    refine D4 95 rfl (fun h7 => ?_) (fun h7 => ?_)
                    · refine Ay 95 rfl rfl (Ar rfl) (hd 96 rfl) <| Ay 95 rfl rfl (Ar rfl) (hd 97 rfl) <| Ay 95 rfl rfl (Dg rfl rfl (r := ((5 * q : Nat) : Int)) (by rw [Ag (by omega) (by omega)]; omega)) (hd 98 rfl) <| Ay 95 rfl rfl (Aw rfl rfl (r := ((300 + 5 * q : Nat) : Int)) (by rw [Ag (by omega) (by omega)]; omega)) (hd 99 rfl) <| Ay 95 rfl rfl (Ar rfl) (hd 100 rfl) <| Ay 95 rfl rfl (Aw rfl rfl (r := ((300 + 5 * q + k : Nat) : Int)) (by rw [Ag (by omega) (by omega)]; omega)) (hd 101 rfl) <| Ay 95 rfl rfl (Ar rfl) (hd 102 rfl) <| Ay 95 rfl rfl (C6 Oc rfl (Hj hi hm)) (hd 103 rfl) <| Ay 95 rfl rfl (Bd rfl rfl (r := ((300 + 5 * q + k - ((rs q).length + 5) : Nat) : Int)) (by rw [Ag (by omega) (by omega)]; omega)) (hd 104 rfl) <| Ay 95 rfl rfl (Aw rfl rfl (r := ((300 + 5 * q + (k - (rs q).length) : Nat) : Int)) (by rw [Ag (by omega) (by omega)]; omega)) (hd 105 rfl) <| Ay 95 rfl rfl (Cv Jx G9 rfl (r := ((300 + 5 * q + (k - (rs q).length) : Nat) : Int)) (by rw [A0 (by omega) (by omega)]; try omega)) (hd 106 rfl) <| Ay 95 rfl rfl (Bo (Ec rfl rfl) (fun h => h (if_neg (by omega)))) (hd 107 rfl) <| Ay 89 rfl rfl (A9 rfl rfl) (hd 108 rfl) ?_; refine Ac (A3 rfl rfl) (hd 109 rfl) <| Aa <| A1 rfl <| Ai <| Af <| Ac (Aw rfl rfl (Ag (by first | omega | (dsimp only; omega)) (by first | omega | (dsimp only; omega)))) (hd 110 rfl) <| zmv rfl (hd 71 rfl) <| Aa ?_
                      refine ⟨k + 1, ?_, ?_, rfl, A5 87 rfl rfl ?_⟩
                      · omega
                      · omega
                      · exact (.cons rfl (.v9 (.v9 (.v9 (.v9 (.u (.u .nil)))))))
                    · refine Bk 95 rfl rfl rfl (hd 96 rfl) <| Bk 95 rfl rfl rfl (hd 97 rfl) <| Bk 95 rfl rfl rfl (hd 98 rfl) <| Bk 95 rfl rfl rfl (hd 99 rfl) <| Bk 95 rfl rfl rfl (hd 100 rfl) <| Bk 95 rfl rfl rfl (hd 101 rfl) <| Bk 95 rfl rfl rfl (hd 102 rfl) <| Bk 95 rfl rfl rfl (hd 103 rfl) <| Bk 95 rfl rfl rfl (hd 104 rfl) <| Bk 95 rfl rfl rfl (hd 105 rfl) <| Bk 95 rfl rfl rfl (hd 106 rfl) <| Bk 95 rfl rfl rfl (hd 107 rfl) <| Ay 89 rfl rfl (A3 rfl rfl) (hd 108 rfl) ?_; refine Ac (A3 rfl rfl) (hd 109 rfl) <| Aa <| A1 rfl <| Ai <| Af <| Ac (Aw rfl rfl (Ag (by first | omega | (dsimp only; omega)) (by first | omega | (dsimp only; omega)))) (hd 110 rfl) <| zmv rfl (hd 71 rfl) <| Aa ?_
                      refine ⟨k + 1, ?_, ?_, rfl, A5 87 rfl rfl ?_⟩
                      · omega
                      · omega
                      · exact (.cons rfl (.v9 (.v9 (.v9 (.v9 (.u (.u .nil)))))))
                  · refine Bk 81 rfl rfl rfl (hd 82 rfl) <| Bk 81 rfl rfl rfl (hd 83 rfl) <| Bk 81 rfl rfl rfl (hd 84 rfl) <| Bk 81 rfl rfl rfl (hd 85 rfl) <| Bk 81 rfl rfl rfl (hd 86 rfl) <| Bk 81 rfl rfl rfl (hd 87 rfl) <| Ac (A3 rfl rfl) (hd 88 rfl) <| zmv rfl (hd 89 rfl) <| Ay 89 rfl rfl (Ar rfl) (hd 90 rfl) <| Ay 89 rfl rfl (Ar rfl) (hd 91 rfl) <| Ay 89 rfl rfl (C6 Oc rfl (Hj hi hm)) (hd 92 rfl) <| Ay 89 rfl rfl (Bd rfl rfl (r := (((rs q).length : Nat) : Int)) (by rw [Ag (by omega) (by omega)]; omega)) (hd 93 rfl) <| Ay 89 rfl rfl (Eh rfl rfl) (hd 94 rfl) ?_; refine Ay 89 rfl rfl (Ar rfl) (hd 95 rfl) ?_
                    refine D4 95 rfl (fun h10 => ?_) (fun h10 => ?_)
                    · refine Ay 95 rfl rfl (Ar rfl) (hd 96 rfl) <| Ay 95 rfl rfl (Ar rfl) (hd 97 rfl) <| Ay 95 rfl rfl (Dg rfl rfl (r := ((5 * q : Nat) : Int)) (by rw [Ag (by omega) (by omega)]; omega)) (hd 98 rfl) <| Ay 95 rfl rfl (Aw rfl rfl (r := ((300 + 5 * q : Nat) : Int)) (by rw [Ag (by omega) (by omega)]; omega)) (hd 99 rfl) <| Ay 95 rfl rfl (Ar rfl) (hd 100 rfl) <| Ay 95 rfl rfl (Aw rfl rfl (r := ((300 + 5 * q + k : Nat) : Int)) (by rw [Ag (by omega) (by omega)]; omega)) (hd 101 rfl) <| Ay 95 rfl rfl (Ar rfl) (hd 102 rfl) <| Ay 95 rfl rfl (C6 Oc rfl (Hj hi hm)) (hd 103 rfl) <| Ay 95 rfl rfl (Bd rfl rfl (r := ((300 + 5 * q + k - ((rs q).length + 5) : Nat) : Int)) (by rw [Ag (by omega) (by omega)]; omega)) (hd 104 rfl) <| Ay 95 rfl rfl (Aw rfl rfl (r := ((300 + 5 * q + (k - (rs q).length) : Nat) : Int)) (by rw [Ag (by omega) (by omega)]; omega)) (hd 105 rfl) <| Ay 95 rfl rfl (Cv Jx G9 rfl (r := ((300 + 5 * q + (k - (rs q).length) : Nat) : Int)) (by rw [A0 (by omega) (by omega)]; try omega)) (hd 106 rfl) <| Ay 95 rfl rfl (Bo (Ec rfl rfl) (fun h => h (if_neg (by omega)))) (hd 107 rfl) <| Ay 89 rfl rfl (A9 rfl rfl) (hd 108 rfl) ?_; refine Ac (A3 rfl rfl) (hd 109 rfl) <| Aa <| A1 rfl <| Ai <| Af <| Ac (Aw rfl rfl (Ag (by first | omega | (dsimp only; omega)) (by first | omega | (dsimp only; omega)))) (hd 110 rfl) <| zmv rfl (hd 71 rfl) <| Aa ?_
                      refine ⟨k + 1, ?_, ?_, rfl, A5 87 rfl rfl ?_⟩
                      · omega
                      · omega
                      · exact (.cons rfl (.v9 (.v9 (.v9 (.v9 (.u (.u .nil)))))))
                    · refine Bk 95 rfl rfl rfl (hd 96 rfl) <| Bk 95 rfl rfl rfl (hd 97 rfl) <| Bk 95 rfl rfl rfl (hd 98 rfl) <| Bk 95 rfl rfl rfl (hd 99 rfl) <| Bk 95 rfl rfl rfl (hd 100 rfl) <| Bk 95 rfl rfl rfl (hd 101 rfl) <| Bk 95 rfl rfl rfl (hd 102 rfl) <| Bk 95 rfl rfl rfl (hd 103 rfl) <| Bk 95 rfl rfl rfl (hd 104 rfl) <| Bk 95 rfl rfl rfl (hd 105 rfl) <| Bk 95 rfl rfl rfl (hd 106 rfl) <| Bk 95 rfl rfl rfl (hd 107 rfl) <| Ay 89 rfl rfl (A3 rfl rfl) (hd 108 rfl) ?_; refine Ac (A3 rfl rfl) (hd 109 rfl) <| Aa <| A1 rfl <| Ai <| Af <| Ac (Aw rfl rfl (Ag (by first | omega | (dsimp only; omega)) (by first | omega | (dsimp only; omega)))) (hd 110 rfl) <| zmv rfl (hd 71 rfl) <| Aa ?_
                      refine ⟨k + 1, ?_, ?_, rfl, A5 87 rfl rfl ?_⟩
                      · omega
                      · omega
                      · exact (.cons rfl (.v9 (.v9 (.v9 (.v9 (.u (.u .nil)))))))
                · refine Bh <| Af <| Ac (Aw rfl rfl (Ag (by first | omega | (dsimp only; omega)) (by first | omega | (dsimp only; omega)))) (hd 111 rfl) <| zmv rfl (hd 64 rfl) <| Aa ?_
                  refine ⟨q + 1, ?_, ?_, rfl, A5 108 (by kernel_rfl) (by kernel_rfl) ?_⟩
                  · omega
                  · omega
                  · exact (.cons rfl (.v9 (.v9 (.v9 (.v9 (.v9 (.u (.u .nil))))))))
            · refine Bh <| zsr <| zas rfl (hd 2 rfl) <| Aa <| Ao ?_
              refine ⟨_, (.cons rfl .nil), rfl, (Aia (m := i)), ?_⟩
              exact rfl

theorem Fn (l : List Int) (hl : l.length < 1099511627776) : Spec Tryz.prog 72 [.n false .u64 l] (fun o => o = .ret (.n false .u64 (trm l))) := by
  refine Au [(0, .n false .u64 l)] rfl Tryz.func72 rfl (zlb rfl) fun Γ hN hds hL hR => ?_
  have hd := Bt 21 hN
  refine zsr <| zas rfl (hd 2 rfl) <| Aa <| Ae <| Ap ?_
  refine Bq (G := Nat) (fun k => k ≤ l.length ∧ tN l k = tN l l.length) (fun k => [(0, .n false .u64 (l.take k)), (3, .u), (4, .u), (5, .u), (6, .u), (7, .u), (8, .u), (9, .u), (10, .u), (11, .u), (12, .u), (13, .u), (14, .u), (15, .u), (16, .u), (17, .u), (18, .u), (19, .u)]) (fun _ => _) (fun k => k) l.length ?_ ?_ rfl ?_
  · exact ⟨Nat.le_refl _, rfl⟩
  · exact (.cons (by rw [List.take_length]; rfl) (.v9 (.v5 (.u (.u .nil)))))
  · rintro k ⟨hc1, hc2⟩
    have hm : (l.take k).length = k := by rw [List.length_take]; omega
    refine Ae <| zsr <| zmv rfl (hd 3 rfl) <| Ac (As Bc rfl) (hd 4 rfl) <| Ac (Ca rfl rfl) (hd 5 rfl) <| zmv rfl (hd 6 rfl) ?_
    refine D4 6 rfl (fun h1 => ?_) (fun h1 => ?_)
    · refine Ay 6 rfl rfl (Ar rfl) (hd 7 rfl) <| Ay 6 rfl rfl (Ar rfl) (hd 8 rfl) <| Ay 6 rfl rfl (As Bc rfl) (hd 9 rfl) <| Ay 6 rfl rfl (Bd rfl rfl (Ag (by omega) (by omega))) (hd 10 rfl) <| Ay 6 rfl rfl (B2 (i := k - 1) Bc rfl rfl (by first | rfl | omega) (by omega)) (hd 11 rfl) <| Ay 6 rfl rfl (Bw Bj rfl rfl) (hd 12 rfl) <| Ay 6 rfl rfl (Ch rfl rfl) (hd 13 rfl) <| Ac (A9 rfl rfl) (hd 14 rfl) <| Aa ?_
      refine Bg rfl (fun h2 => ?_) (fun h2 => ?_)
      · refine Ai <| Ap <| Af <| zmv rfl (hd 15 rfl) <| zmv rfl (hd 16 rfl) <| Ac (As Bc rfl) (hd 17 rfl) <| Ac (Bd rfl rfl (Ag (by omega) (by omega))) (hd 18 rfl) <| Ac (La Bc rfl G5 (Db rfl (show ((l.take k).length : Int) - 1 = ((k - 1 : Nat) : Int) by omega)) (.inl rfl) (by omega) (by omega)) (hd 19 rfl) <| zas rfl (hd 0 rfl) <| Aa ?_
        refine ⟨k - 1, ?_, ?_, rfl, A5 37 rfl rfl ?_⟩
        · exact ⟨by omega, by rw [← hc2, T3 (by omega) (by rw [← I9 (show k - 1 < k by omega)]; assumption)]⟩
        · omega
        · exact (.cons (by show some (V.n false .u64 _) = some (V.n false .u64 _); rw [List.drop_zero, List.take_take, Nat.min_eq_left (by omega)]) (.v9 (.v5 (.u (.u .nil)))))
      · refine Bh <| zsr <| zmv rfl (hd 20 rfl) <| zas rfl (hd 2 rfl) <| Aa <| Ao ?_
        refine ⟨_, _, (.cons rfl .nil), .n, ?_⟩
        unfold trm
        rw [← hc2, Py (by omega) (by rw [← I9 (show k - 1 < k by omega)]; assumption)]
    · refine Bk 6 rfl rfl rfl (hd 7 rfl) <| Bk 6 rfl rfl rfl (hd 8 rfl) <| Bk 6 rfl rfl rfl (hd 9 rfl) <| Bk 6 rfl rfl rfl (hd 10 rfl) <| Bk 6 rfl rfl rfl (hd 11 rfl) <| Bk 6 rfl rfl rfl (hd 12 rfl) <| Bk 6 rfl rfl rfl (hd 13 rfl) <| Ac (A3 rfl rfl) (hd 14 rfl) <| Aa <| A1 rfl <| Bh <| Ae <| Af ?_; refine zmv rfl (hd 20 rfl) <| zas rfl (hd 2 rfl) <| Aa <| Ao ?_
      refine ⟨_, _, (.cons rfl .nil), .n, ?_⟩
      unfold trm
      rw [← hc2, tN_0 (by omega)]

theorem E2 (l : List Int) (hl : l.length < 1099511627776) : Spec Tryz.prog 66 [.n false .u64 l] (fun o => o = .ret (.n true .u64 (trm l))) := by
  refine Au [(0, .n false .u64 l)] rfl Tryz.func66 rfl (zlb rfl) fun Γ hN hds hL hR => ?_
  have hd := Bt 6 hN
  have hm := Dj l
  refine zsr <| zas rfl (hd 2 rfl) <| Aa <| zsr <| zmv rfl (hd 3 rfl) ?_
  refine Ah Tryz.f72 (Fn l hl) rfl Tryz.func72 rfl rfl (Ab rfl Ad) (.cons .n .nil) (hd 4 rfl) ?_ (fun ch hp => by simp at hp)
  rintro _ ⟨⟩; refine A4 (Qq (id := 0) Lr rfl rfl Ag6 (by omega) (by unfold maxLen; omega) rfl) (hd 5 rfl) <| zas rfl (hd 2 rfl) <| Aa <| Ao ?_
  refine ⟨_, _, (.cons rfl .nil), (.o rfl (by simp) rfl), ?_⟩
  rw [List.drop_zero, List.take_length]

set_option maxRecDepth 100000 in
theorem Xi (x : Nat) (hx : x < 18446744073709551616) : Spec Tryz.prog 73 [.i .u64 (x : Int)] (fun o => o = .ret (.i .i64 (bl 64 x : Int))) := by
  refine Au [(0, .i .u64 (x : Int))] rfl Tryz.func73 rfl (zlb rfl) fun Γ hN hds hL hR => ?_
  have hd := Bt 25 hN
  refine zsr <| zas rfl (hd 2 rfl) <| Aa ?_
  refine Ce (G := Nat × Nat) (fun g => bl 64 x = g.2 + bl 64 g.1 ∧ g.1 < 4294967296 ∧ g.2 ≤ 32) (fun g => [(0, .i .u64 (g.1 : Int)), (2, .i .i64 (g.2 : Int)), (3, .u), (4, .u), (5, .u), (6, .u)]) ?_ ?_
  · refine zsr <| zmv rfl (hd 3 rfl) <| Ac (Eh rfl rfl) (hd 4 rfl) <| Aa ?_
    refine Bg rfl (fun h1 => ?_) (fun h1 => ?_)
    · refine zsr <| zmv rfl (hd 5 rfl) <| Ac (Ba (D2 rfl rfl (by first | omega | (dsimp only; omega)) rfl) (show V.i .u64 _ = V.i .u64 ((x / 4294967296 : Nat) : Int) from congrArg (V.i .u64) (Hh (by decide)))) (hd 6 rfl) <| zas rfl (hd 0 rfl) <| Aa <| Af <| zas rfl (hd 2 rfl) <| Aa ?_
      refine ⟨(x / 4294967296, 32), ?_, rfl, A5 6 rfl rfl ?_⟩
      · exact ⟨by have h9 := Js (k := 32) (by decide) (show 2 ^ 32 ≤ x by omega) (by omega); rw [show 2 ^ 32 = 4294967296 by decide] at h9; dsimp only; omega, by dsimp only; omega, by dsimp only; omega⟩
      · exact (.cons rfl (.cons (by show some (V.i .i64 _) = some (V.i .i64 _); rfl) (.u (.u (.u (.u .nil))))))
    · refine Ai ?_
      refine ⟨(x, 0), ?_, rfl, A5 2 rfl rfl ?_⟩
      · exact ⟨by dsimp only; omega, by dsimp only; omega, by dsimp only; omega⟩
      · exact (.cons rfl (.cons (by show some (V.i .i64 _) = some (V.i .i64 _); rfl) (.u (.u (.u (.u .nil))))))
  · rintro ⟨x1, n1⟩ ⟨he1, hx1, hn1⟩
    dsimp only at he1 hx1 hn1
    refine Ce (G := Nat × Nat) (fun g => bl 64 x = g.2 + bl 64 g.1 ∧ g.1 < 65536 ∧ g.2 ≤ 48) (fun g => [(0, .i .u64 (g.1 : Int)), (2, .i .i64 (g.2 : Int)), (7, .u), (8, .u), (9, .u), (10, .u), (11, .u), (12, .u)]) ?_ ?_
    · refine zsr <| zmv rfl (hd 7 rfl) <| Ac (Eh rfl rfl) (hd 8 rfl) <| Aa ?_
      refine Bg rfl (fun h2 => ?_) (fun h2 => ?_)
      · refine zsr <| zmv rfl (hd 9 rfl) <| Ac (Ba (D2 rfl rfl (by first | omega | (dsimp only; omega)) rfl) (show V.i .u64 _ = V.i .u64 ((x1 / 65536 : Nat) : Int) from congrArg (V.i .u64) (Hh (by decide)))) (hd 10 rfl) <| zas rfl (hd 0 rfl) <| Aa <| Af <| zmv rfl (hd 11 rfl) <| Ac (Aw rfl rfl (r := ((n1 + 16 : Nat) : Int)) (by rw [Ag (by omega) (by omega)]; omega)) (hd 12 rfl) <| zas rfl (hd 2 rfl) <| Aa ?_
        refine ⟨(x1 / 65536, n1 + 16), ?_, rfl, A5 8 rfl rfl ?_⟩
        · exact ⟨by have h9 := Js (k := 16) (by decide) (show 2 ^ 16 ≤ x1 by omega) (by omega); rw [show 2 ^ 16 = 65536 by decide] at h9; dsimp only; omega, by dsimp only; omega, by dsimp only; omega⟩
        · exact (.cons rfl (.cons (by show some (V.i .i64 _) = some (V.i .i64 _); rfl) (.v5 (.u .nil))))
      · refine Ai ?_
        refine ⟨(x1, n1), ?_, rfl, A5 2 rfl rfl ?_⟩
        · exact ⟨by dsimp only; omega, by dsimp only; omega, by dsimp only; omega⟩
        · exact (.cons rfl (.cons (by show some (V.i .i64 _) = some (V.i .i64 _); rfl) (.v5 (.u .nil))))
    · rintro ⟨x2, n2⟩ ⟨he2, hx2, hn2⟩
      dsimp only at he2 hx2 hn2
      refine Ce (G := Nat × Nat) (fun g => bl 64 x = g.2 + bl 64 g.1 ∧ g.1 < 256 ∧ g.2 ≤ 56) (fun g => [(0, .i .u64 (g.1 : Int)), (2, .i .i64 (g.2 : Int)), (13, .u), (14, .u), (15, .u), (16, .u), (17, .u), (18, .u)]) ?_ ?_
      · refine zsr <| zmv rfl (hd 13 rfl) <| Ac (Eh rfl rfl) (hd 14 rfl) <| Aa ?_
        refine Bg rfl (fun h3 => ?_) (fun h3 => ?_)
        · refine zsr <| zmv rfl (hd 15 rfl) <| Ac (Ba (D2 rfl rfl (by first | omega | (dsimp only; omega)) rfl) (show V.i .u64 _ = V.i .u64 ((x2 / 256 : Nat) : Int) from congrArg (V.i .u64) (Hh (by decide)))) (hd 16 rfl) <| zas rfl (hd 0 rfl) <| Aa <| Af <| zmv rfl (hd 17 rfl) <| Ac (Aw rfl rfl (r := ((n2 + 8 : Nat) : Int)) (by rw [Ag (by omega) (by omega)]; omega)) (hd 18 rfl) <| zas rfl (hd 2 rfl) <| Aa ?_
          refine ⟨(x2 / 256, n2 + 8), ?_, rfl, A5 8 rfl rfl ?_⟩
          · exact ⟨by have h9 := Js (k := 8) (by decide) (show 2 ^ 8 ≤ x2 by omega) (by omega); rw [show 2 ^ 8 = 256 by decide] at h9; dsimp only; omega, by dsimp only; omega, by dsimp only; omega⟩
          · exact (.cons rfl (.cons (by show some (V.i .i64 _) = some (V.i .i64 _); rfl) (.v5 (.u .nil))))
        · refine Ai ?_
          refine ⟨(x2, n2), ?_, rfl, A5 2 rfl rfl ?_⟩
          · exact ⟨by dsimp only; omega, by dsimp only; omega, by dsimp only; omega⟩
          · exact (.cons rfl (.cons (by show some (V.i .i64 _) = some (V.i .i64 _); rfl) (.v5 (.u .nil))))
      · rintro ⟨x3, n3⟩ ⟨he3, hx3, hn3⟩
        dsimp only at he3 hx3 hn3
        refine zsr <| zmv rfl (hd 19 rfl) <| zmv rfl (hd 20 rfl) <| Ac (Cv G9 und5 rfl (Ack (by first | omega | (dsimp only; omega)) (by first | omega | (dsimp only; omega)))) (hd 21 rfl) <| Ac (Abo (b := Vw) (i := x3) und9 (by kernel_rfl) rfl rfl (show x3 < 256 by omega)) (hd 22 rfl) ?_
        have h7 := O1 hx3
        have h8 := W2 64 x3
        refine Ac (Cv und5 Jx rfl (Ag (by first | omega | (dsimp only; omega)) (by first | omega | (dsimp only; omega)))) (hd 23 rfl) <| Ac (Aw rfl rfl (Ag (by first | omega | (dsimp only; omega)) (by first | omega | (dsimp only; omega)))) (hd 24 rfl) <| zas rfl (hd 2 rfl) <| Aa <| Ao ?_
        refine ⟨_, _, (.cons rfl .nil), .i, ?_⟩
        have h7 := O1 hx3
        rw [h7, he3]
        rfl

theorem Hu (v : Int) : Spec Tryz.prog 35 [.i .u64 v] (fun o => o = .ret (.n true .u64 (if v = 0 then [] else [v]))) := by
  refine Au [(0, .i .u64 v)] rfl Tryz.func35 rfl (zlb rfl) fun Γ hN hds hL hR => ?_
  have hd := Bt 7 hN
  refine zsr <| zas rfl (hd 2 rfl) <| Aa <| Ae <| zsr <| zmv rfl (hd 3 rfl) <| Ac (Ch rfl rfl) (hd 4 rfl) <| Aa ?_
  refine Bg rfl (fun h1 => ?_) (fun h1 => ?_)
  · refine zsr <| zas rfl (hd 2 rfl) <| Aa <| Ao ?_
    refine ⟨_, _, (.cons rfl .nil), (.nil (fr := true) (k := .u64)), ?_⟩
    rw [if_pos (by assumption)]
  · refine Ai <| zsr <| zmv rfl (hd 5 rfl) <| A4 (Dl (id := 0) (xs := [.tmp 5]) Lr rfl (Ab rfl Ad) rfl (Cx rfl) (by decide) rfl) (hd 6 rfl) <| zas rfl (hd 2 rfl) <| Aa <| Ao ?_
    refine ⟨_, _, (.cons rfl .nil), (.o (T := 71) (k := .u64) (l := [v]) rfl (by simp) rfl), ?_⟩
    rw [if_neg (by assumption)]
    rfl

theorem Ee (l : List Int) (hl : l.length < 1099511627776) (hu : Az l) : Spec Tryz.prog 30 [.n false .u64 l] (fun o => o = .ret (.i .i64 (Hb l : Int))) := by
  refine Au [(0, .n false .u64 l)] rfl Tryz.func30 rfl (zlb rfl) fun Γ hN hds hL hR => ?_
  have hd := Bt 20 hN
  have hm := Dj l
  refine zsr <| zas rfl (hd 2 rfl) <| Aa <| zsr <| zmv rfl (hd 3 rfl) ?_
  refine Ah Tryz.f72 (Fn l hl) rfl Tryz.func72 rfl rfl (Ab rfl Ad) (.cons .n .nil) (hd 4 rfl) ?_ (fun ch hp => by simp at hp)
  rintro _ ⟨⟩; refine zas rfl (hd 0 rfl) <| Aa <| Ae <| zsr <| zmv rfl (hd 5 rfl) <| Ac (As Bc rfl) (hd 6 rfl) <| Ac (Ch rfl rfl) (hd 7 rfl) <| Aa ?_
  refine Bg rfl (fun h1 => ?_) (fun h1 => ?_)
  · refine zsr <| zas rfl (hd 2 rfl) <| Aa <| Ao ?_
    refine ⟨_, _, (.cons rfl .nil), .i, ?_⟩
    unfold Hb
    rw [if_pos (by omega)]
    rfl
  · have htop := Pu (Bz hu) (i := (trm l).length - 1) (by omega)
    have hbl := W2 64 ((trm l).getD ((trm l).length - 1) 0).toNat
    refine Ai <| zsr <| zmv rfl (hd 8 rfl) <| Ac (As Bc rfl) (hd 9 rfl) <| Ac (Bd rfl rfl (Ag (by omega) (by omega))) (hd 10 rfl) <| Ac (Dg rfl rfl (Ag (by omega) (by omega))) (hd 11 rfl) <| zmv rfl (hd 12 rfl) <| zmv rfl (hd 13 rfl) <| Ac (As Bc rfl) (hd 14 rfl) <| Ac (Bd rfl rfl (Ag (by omega) (by omega))) (hd 15 rfl) <| Ac (B2 (i := (trm l).length - 1) Bc rfl rfl (by first | rfl | omega) (by omega)) (hd 16 rfl) <| Ac (Ba (Bw Bj rfl rfl) (show V.i .u64 ((trm l).getD ((trm l).length - 1) 0) = V.i .u64 (((trm l).getD ((trm l).length - 1) 0).toNat : Int) by rw [Int.toNat_of_nonneg htop.1])) (hd 17 rfl) ?_
    refine Ah Tryz.f73 (Xi ((trm l).getD ((trm l).length - 1) 0).toNat (by omega)) rfl Tryz.func73 rfl rfl (Ab rfl Ad) (.cons .i .nil) (hd 18 rfl) ?_ (fun ch hp => by simp at hp)
    rintro _ ⟨⟩; refine Ac (Aw rfl rfl (Ag (by omega) (by omega))) (hd 19 rfl) <| zas rfl (hd 2 rfl) <| Aa <| Ao ?_
    refine ⟨_, _, (.cons rfl .nil), .i, ?_⟩
    unfold Hb
    rw [if_neg (by omega)]
    show Out.ret (V.i .i64 _) = Out.ret (V.i .i64 _)
    congr 2
    omega

theorem Je (a b : List Int) (ha : a.length < 4294967296) (hb : b.length < 4294967296) : Spec Tryz.prog 89 [.n false .u64 a, .n false .u64 b] (fun o => o = .ret (.i .i64 (Qy (trm a) (trm b)))) := by
  refine Au [(0, .n false .u64 a), (1, .n false .u64 b)] rfl Tryz.func89 rfl (zlb rfl) fun Γ hN hds hL hR => ?_
  have hd := Bt 45 hN
  have hma := Dj a
  have hmb := Dj b
  refine zsr <| zas rfl (hd 4 rfl) <| Aa <| zsr <| zmv rfl (hd 6 rfl) ?_
  refine Ah Tryz.f72 (Fn a (by omega)) rfl Tryz.func72 rfl rfl (Ab rfl Ad) (.cons .n .nil) (hd 7 rfl) ?_ (fun ch hp => by simp at hp)
  rintro _ ⟨⟩; refine zmv rfl (hd 8 rfl) ?_
  refine Ah Tryz.f72 (Fn b (by omega)) rfl Tryz.func72 rfl rfl (Ab rfl Ad) (.cons .n .nil) (hd 9 rfl) ?_ (fun ch hp => by simp at hp)
  rintro _ ⟨⟩; refine zas rfl (hd 0 rfl) <| zas rfl (hd 1 rfl) <| Aa <| Ae <| zsr <| zmv rfl (hd 10 rfl) <| Ac (As Bc rfl) (hd 11 rfl) <| zmv rfl (hd 12 rfl) <| Ac (As Bc rfl) (hd 13 rfl) <| Ac (Ec rfl rfl) (hd 14 rfl) <| Aa ?_
  refine Bg rfl (fun h1 => ?_) (fun h1 => ?_)
  · refine Ae <| zsr <| zmv rfl (hd 15 rfl) <| Ac (As Bc rfl) (hd 16 rfl) <| zmv rfl (hd 17 rfl) <| Ac (As Bc rfl) (hd 18 rfl) <| Ac (Br rfl rfl) (hd 19 rfl) <| Aa ?_
    refine Bg rfl (fun h2 => ?_) (fun h2 => ?_)
    · refine zsr <| zas rfl (hd 4 rfl) <| Aa <| Ao ?_
      refine ⟨_, _, (.cons rfl .nil), .i, ?_⟩
      unfold Qy
      rw [if_pos (by omega)]
    · refine Ai <| zsr <| zas rfl (hd 4 rfl) <| Aa <| Ao ?_
      refine ⟨_, _, (.cons rfl .nil), .i, ?_⟩
      unfold Qy
      rw [if_neg (by omega), if_pos (by omega)]
  · refine Ai <| Ae <| zsr <| zmv rfl (hd 20 rfl) <| Ac (As Bc rfl) (hd 21 rfl) <| Ac (Bd rfl rfl (Ag (by omega) (by omega))) (hd 22 rfl) <| zas rfl (hd 5 rfl) <| Aa <| Ap ?_
    refine Bq (G := Nat) (fun k => k ≤ (trm a).length ∧ J2 (trm a) (trm b) k = J2 (trm a) (trm b) (trm a).length) (fun k => [(5, .i .i64 ((k : Int) - 1)), (4, .u), (23, .u), (24, .u), (25, .u), (26, .u), (27, .u), (28, .u), (29, .u), (30, .u), (31, .u), (32, .u), (33, .u), (34, .u), (35, .u), (36, .u), (37, .u), (38, .u), (39, .u), (40, .u), (41, .u), (42, .u), (43, .u), (44, .u)]) (fun _ => _) (fun k => k) (trm a).length ?_ ?_ rfl ?_
    · exact ⟨Nat.le_refl _, rfl⟩
    · exact (.cons rfl (.v9 (.v9 (.u (.u (.u .nil))))))
    · rintro k ⟨hc1, hc2⟩; refine Ae <| zsr <| zmv rfl (hd 23 rfl) <| Ac (Eh rfl rfl) (hd 24 rfl) <| Aa ?_
      refine Bg rfl (fun h3 => ?_) (fun h3 => ?_)
      · refine Ai <| Ae <| Ap <| Ae <| Ae <| Bu (n := 9) _ rfl Cg <| Av 0 [2, 3, 8] (Al (Ar rfl) (hd 27 rfl)) rfl <| Av 1 [2, 3, 8] (Al (Ar rfl) (hd 28 rfl)) rfl <| Av 2 [3, 8] (Al (B2 (i := k - 1) Bc rfl rfl (by omega) (by omega)) (hd 29 rfl)) rfl <| zal 3 (Al (Bw Bj rfl rfl) (hd 30 rfl)) rfl <| Av 4 [6, 7, 8] (Al (Ar rfl) (hd 31 rfl)) rfl <| Av 5 [6, 7, 8] (Al (Ar rfl) (hd 32 rfl)) rfl <| Av 6 [7, 8] (Al (B2 (i := k - 1) Bc rfl rfl (by omega) (by omega)) (hd 33 rfl)) rfl ?_; refine zal 7 (Al (Bw Bj rfl rfl) (hd 34 rfl)) rfl <| zal 8 (Al (Br rfl rfl) (hd 35 rfl)) rfl <| Bx (by kernel_rfl) ?_
        refine Bg rfl (fun h4 => ?_) (fun h4 => ?_)
        · refine zsr <| zas rfl (hd 4 rfl) <| Aa <| Ao ?_
          refine ⟨_, _, (.cons rfl .nil), .i, ?_⟩
          unfold Qy
          rw [if_neg (by omega), if_neg (by omega), ← hc2, Wt (by omega) (by assumption)]
        · refine Ai <| Ae <| Bu (n := 9) _ rfl Cg <| Av 0 [2, 3, 8] (Al (Ar rfl) (hd 36 rfl)) rfl <| Av 1 [2, 3, 8] (Al (Ar rfl) (hd 37 rfl)) rfl <| Av 2 [3, 8] (Al (B2 (i := k - 1) Bc rfl rfl (by omega) (by omega)) (hd 38 rfl)) rfl <| zal 3 (Al (Bw Bj rfl rfl) (hd 39 rfl)) rfl <| Av 4 [6, 7, 8] (Al (Ar rfl) (hd 40 rfl)) rfl <| Av 5 [6, 7, 8] (Al (Ar rfl) (hd 41 rfl)) rfl <| Av 6 [7, 8] (Al (B2 (i := k - 1) Bc rfl rfl (by omega) (by omega)) (hd 42 rfl)) rfl <| zal 7 (Al (Bw Bj rfl rfl) (hd 43 rfl)) rfl <| zal 8 (Al (Ca rfl rfl) (hd 44 rfl)) rfl <| Bx (by kernel_rfl) ?_
          refine Bg rfl (fun h5 => ?_) (fun h5 => ?_)
          · refine zsr <| zas rfl (hd 4 rfl) <| Aa <| Ao ?_
            refine ⟨_, _, (.cons rfl .nil), .i, ?_⟩
            unfold Qy
            rw [if_neg (by omega), if_neg (by omega), ← hc2, Wu (by omega) (by assumption)]
          · refine Ai <| Af <| zmv rfl (hd 25 rfl) <| Ac (Bd rfl rfl (Ag (by omega) (by omega))) (hd 26 rfl) <| zas rfl (hd 5 rfl) <| Aa ?_
            refine ⟨k - 1, ?_, ?_, rfl, A5 47 rfl rfl ?_⟩
            · exact ⟨by omega, by rw [← hc2]; exact Wv (by omega) (by assumption) (by assumption)⟩
            · omega
            · exact (.cons (by show some (V.i .i64 _) = some (V.i .i64 _); congr 2; omega) (.v9 (.v9 (.u (.u (.u .nil))))))
      · refine Bh <| zsr <| zas rfl (hd 4 rfl) <| Aa <| Ao ?_
        refine ⟨_, _, (.cons rfl .nil), .i, ?_⟩
        unfold Qy
        rw [if_neg (by omega), if_neg (by omega), ← hc2]
        obtain rfl : k = 0 := by omega
        rfl

theorem Mn (l : List Int) (hl : l.length < 1099511627776) (hu : Az l) (h : Hb (trm l) ≤ 67108864) : Spec Tryz.prog 75 [.n false .u64 l] (fun o => o = .ret (.t [.n false .u64 (trm l), .i .i64 0])) := by
  refine Au [(0, .n false .u64 l)] rfl Tryz.func75 rfl (zlb rfl) fun Γ hN hds hL hR => ?_
  have hd := Bt 10 hN
  have hm := Dj l
  refine zsr <| zas rfl (hd 2 rfl) <| zas rfl (hd 3 rfl) <| Aa <| zsr <| zmv rfl (hd 4 rfl) ?_
  refine Ah Tryz.f72 (Fn l hl) rfl Tryz.func72 rfl rfl (Ab rfl Ad) (.cons .n .nil) (hd 5 rfl) ?_ (fun ch hp => by simp at hp)
  rintro _ ⟨⟩; refine zas rfl (hd 0 rfl) <| Aa <| Ae <| zsr <| zmv rfl (hd 6 rfl) ?_
  refine Ah Tryz.f30 (Ee (trm l) (by omega) (Bz hu)) rfl Tryz.func30 rfl rfl (Ab rfl Ad) (.cons .n .nil) (hd 7 rfl) ?_ (fun ch hp => by simp at hp)
  rintro _ ⟨⟩; refine Ac (Bo (Ca rfl rfl) (by omega)) (hd 8 rfl) <| Aa <| A1 rfl <| Ai <| zsr <| zmv rfl (hd 9 rfl) <| zas rfl (hd 2 rfl) <| zas rfl (hd 3 rfl) <| Aa <| Ao ?_
  refine ⟨_, _, (.cons rfl (.cons rfl .nil)), (.t1 .n (.t1 .i .t0)), ?_⟩
  exact rfl

theorem X2 (l : List Int) (hl : l.length < 1099511627776) (hu : Az l) (h : 67108864 < Hb (trm l)) : Spec Tryz.prog 75 [.n false .u64 l] (fun o => o = .ret (.t [.n false .u64 [], .i .i64 3])) := by
  refine Au [(0, .n false .u64 l)] rfl Tryz.func75 rfl (zlb rfl) fun Γ hN hds hL hR => ?_
  have hd := Bt 10 hN
  have hm := Dj l
  refine zsr <| zas rfl (hd 2 rfl) <| zas rfl (hd 3 rfl) <| Aa <| zsr <| zmv rfl (hd 4 rfl) ?_
  refine Ah Tryz.f72 (Fn l hl) rfl Tryz.func72 rfl rfl (Ab rfl Ad) (.cons .n .nil) (hd 5 rfl) ?_ (fun ch hp => by simp at hp)
  rintro _ ⟨⟩; refine zas rfl (hd 0 rfl) <| Aa <| Ae <| zsr <| zmv rfl (hd 6 rfl) ?_
  refine Ah Tryz.f30 (Ee (trm l) (by omega) (Bz hu)) rfl Tryz.func30 rfl rfl (Ab rfl Ad) (.cons .n .nil) (hd 7 rfl) ?_ (fun ch hp => by simp at hp)
  rintro _ ⟨⟩; refine Ac (Cq (Ca rfl rfl) (by omega)) (hd 8 rfl) <| Aa <| B4 rfl <| zsr <| zas rfl (hd 2 rfl) <| zas rfl (hd 3 rfl) <| Aa <| Ao ?_
  refine ⟨_, _, (.cons rfl (.cons rfl .nil)), (.t1 (.nil (fr := false) (k := .u64)) (.t1 .i .t0)), ?_⟩
  exact rfl

theorem Add_ok (a b : List Int) (ha : a.length < 4294967296) (hb : b.length < 4294967296) (ua : Az a) (ub : Az b) (h : Hb (trm (N9 a b)) ≤ 67108864) : Spec Tryz.prog 104 [.n false .u64 a, .n false .u64 b] (fun o => o = .ret (.t [.n false .u64 (trm (N9 a b)), .i .i64 0])) := by
  refine Au [(0, .n false .u64 a), (1, .n false .u64 b)] rfl Tryz.func104 rfl (zlb rfl) fun Γ hN hds hL hR => ?_
  have hd := Bt 61 hN
  have hma := Dj a
  have hmb := Dj b
  refine zsr <| zas rfl (hd 4 rfl) <| zas rfl (hd 5 rfl) <| Aa <| zsr <| zmv rfl (hd 10 rfl) ?_
  refine Ah Tryz.f72 (Fn a (by omega)) rfl Tryz.func72 rfl rfl (Ab rfl Ad) (.cons .n .nil) (hd 11 rfl) ?_ (fun ch hp => by simp at hp)
  rintro _ ⟨⟩; refine zmv rfl (hd 12 rfl) ?_
  refine Ah Tryz.f72 (Fn b (by omega)) rfl Tryz.func72 rfl rfl (Ab rfl Ad) (.cons .n .nil) (hd 13 rfl) ?_ (fun ch hp => by simp at hp)
  rintro _ ⟨⟩; refine zas rfl (hd 0 rfl) <| zas rfl (hd 1 rfl) <| Aa ?_
  refine Ce (G := List Int × List Int) (fun g => swL (trm a) (trm b) = g ∧ g.1.length < 4294967296 ∧ Az g.1 ∧ Az g.2) (fun g => [(0, .n false .u64 g.1), (1, .n false .u64 g.2), (14, .u), (15, .u), (16, .u), (17, .u), (18, .u), (19, .u), (20, .u)]) ?_ ?_
  · refine zsr <| zmv rfl (hd 14 rfl) <| Ac (As Bc rfl) (hd 15 rfl) <| zmv rfl (hd 16 rfl) <| Ac (As Bc rfl) (hd 17 rfl) <| Ac (Br rfl rfl) (hd 18 rfl) <| Aa ?_
    refine Bg rfl (fun h1 => ?_) (fun h1 => ?_)
    · refine Af <| zmv rfl (hd 19 rfl) <| zmv rfl (hd 20 rfl) <| zas rfl (hd 0 rfl) <| zas rfl (hd 1 rfl) <| Aa ?_
      refine ⟨(trm b, trm a), ?_, rfl, A5 9 rfl rfl ?_⟩
      · exact ⟨by unfold swL; rw [if_pos (by omega)], by show (trm b).length < _; omega, Bz ub, Bz ua⟩
      · exact (.cons rfl (.cons rfl (.v5 (.u (.u .nil)))))
    · refine Ai ?_
      refine ⟨(trm a, trm b), ?_, rfl, A5 5 rfl rfl ?_⟩
      · exact ⟨by unfold swL; rw [if_neg (by omega)], by show (trm a).length < _; omega, Bz ua, Bz ub⟩
      · exact (.cons rfl (.cons rfl (.v5 (.u (.u .nil)))))
  · rintro ⟨X, Y⟩ ⟨hg, hX, uX, uY⟩
    dsimp only at hg hX uX uY ⊢
    have hS : N9 a b = (adN X Y X.length).1 ++ [(adN X Y X.length).2] := by unfold N9; rw [hg]
    refine zsr <| zmv rfl (hd 21 rfl) <| Ac (As Bc rfl) (hd 22 rfl) <| Ac (Aw rfl rfl (r := ((X.length + 1 : Nat) : Int)) (by rw [Ag (by omega) (by omega)]; omega)) (hd 23 rfl) <| A4 (F5 (m := X.length + 1) Lr rfl rfl rfl (by show 8 * (X.length + 1) ≤ _; omega) (by unfold maxLen; omega) rfl) (hd 24 rfl) <| zas rfl (hd 6 rfl) <| Aa <| zsr <| zas rfl (hd 7 rfl) <| Aa <| Ae ?_; refine zsr <| zmv rfl (hd 25 rfl) <| Ac (As Bc rfl) (hd 26 rfl) <| zmv rfl (hd 27 rfl) <| Aa <| Ap ?_
    refine Bq (G := Nat) (fun i => i ≤ X.length) (fun i => [(7, .i .u64 (adN X Y i).2), (27, .i .i64 (i : Int)), (8, .u), (9, .u), (28, .u), (29, .u), (30, .u), (31, .u), (32, .u), (33, .u), (34, .u), (35, .u), (36, .u), (37, .u), (38, .u), (39, .u), (40, .u), (41, .u), (42, .u), (43, .u), (44, .u), (45, .u), (46, .u), (47, .u), (48, .u), (49, .u), (50, .u), (51, .u)]) (fun i => [⟨71, 1, 0, true, ints .u64 (Ci (adN X Y i).1 (X.length + 1))⟩]) (fun i => X.length - i) 0 ?_ ?_ rfl ?_
    · exact Nat.zero_le _
    · exact (.cons rfl (.cons rfl (.v9 (.v9 (.v5 (.u .nil))))))
    · rintro i hc1
      have hf := Ey (l := (adN X Y i).1) (n := X.length + 1) (by rw [C7]; omega)
      have hc := Tb uX uY i
      have hx := A2 uX i
      have hy := A2 uY i
      refine zsr <| Ac (Br rfl rfl) (hd 28 rfl) <| Aa <| Ae ?_
      refine Bg rfl (fun h2 => ?_) (fun h2 => ?_)
      · refine Ai <| Ae <| Ap <| zsr <| zmv rfl (hd 29 rfl) <| zas rfl (hd 8 rfl) <| Aa <| zsr <| zas rfl (hd 9 rfl) <| Aa ?_
        refine Ce (G := Unit) (fun _ => True) (fun _ => [(9, .i .u64 (Y.getD i 0)), (30, .u), (31, .u), (32, .u), (33, .u), (34, .u), (35, .u), (36, .u), (37, .u)]) ?_ ?_
        · refine zsr <| zmv rfl (hd 30 rfl) <| zmv rfl (hd 31 rfl) <| Ac (As Bc rfl) (hd 32 rfl) <| Ac (Br rfl rfl) (hd 33 rfl) <| Aa ?_
          refine Bg rfl (fun h3 => ?_) (fun h3 => ?_)
          · refine Af <| zmv rfl (hd 34 rfl) <| zmv rfl (hd 35 rfl) <| Ac (B2 (i := i) Bc rfl rfl (by first | rfl | omega) (by omega)) (hd 36 rfl) <| Ac (Bw Bj rfl rfl) (hd 37 rfl) <| zas rfl (hd 9 rfl) <| Aa ?_
            refine ⟨(), ?_, rfl, A5 9 rfl rfl ?_⟩
            · trivial
            · exact (.cons (by first | rfl | (show some (V.i .u64 _) = some (V.i .u64 _); rw [Dw (by omega)])) (.v5 (.u (.u (.u .nil)))))
          · refine Ai ?_
            refine ⟨(), ?_, rfl, A5 4 rfl rfl ?_⟩
            · trivial
            · exact (.cons (by first | rfl | (show some (V.i .u64 _) = some (V.i .u64 _); rw [Dw (by omega)])) (.v5 (.u (.u (.u .nil)))))
        · rintro _ _; refine Af <| zmv rfl (hd 39 rfl) <| zmv rfl (hd 40 rfl) <| zmv rfl (hd 41 rfl) <| zmv rfl (hd 42 rfl) <| Ac (B2 (i := i) Bc rfl rfl (by first | rfl | omega) (by omega)) (hd 43 rfl) <| Ac (Bw Bj rfl rfl) (hd 44 rfl) <| zmv rfl (hd 45 rfl) <| zmv rfl (hd 46 rfl) <| A4 (El (e := add64Entry) Tryz.func123 rfl rfl (by kernel_rfl) (by kernel_rfl) rfl rfl rfl (fun w => run_add64 _ _ _ hx.1 hy.1 hc.1 hc.2 w) Du) (hd 47 rfl) <| zmv rfl (hd 38 rfl) <| Ac (Am rfl rfl) (hd 48 rfl) <| Ac (Am rfl rfl) (hd 49 rfl) ?_; refine Ac (Cd (i := i) Bc rfl rfl rfl (by first | rfl | omega) (by omega) rfl) (hd 50 rfl) <| A6 (B3 rfl rfl rfl Bj (by omega)) <| zas rfl (hd 7 rfl) <| Aa <| Af <| Ac (Aw rfl rfl (Ag (by omega) (by omega))) (hd 51 rfl) <| zmv rfl (hd 27 rfl) <| Aa ?_
          refine ⟨i + 1, ?_, ?_, (by show [(⟨71, 1, 0, true, ints .u64 _⟩ : Ob)] = [⟨71, 1, 0, true, ints .u64 _⟩]; rw [Wg (by omega)]), A5 57 rfl rfl ?_⟩
          · omega
          · omega
          · exact (.cons rfl (.cons rfl (.v9 (.v9 (.v5 (.u .nil))))))
      · refine Bh <| Ae ?_
        obtain rfl : i = X.length := by omega
        refine Af <| zmv rfl (hd 52 rfl) <| zmv rfl (hd 53 rfl) <| Ac (As Bc rfl) (hd 54 rfl) <| zmv rfl (hd 55 rfl) <| Ac (Cd (i := X.length) Bc rfl rfl rfl (by first | rfl | omega) (by omega) rfl) (hd 56 rfl) <| A6 (B3 rfl rfl rfl Bj (by omega)) <| Aa <| zsr <| Hl (k := .u64) (l' := N9 a b) 6 rfl rfl (by rw [Ja (C7 _ _ _)]; simp [C7]) (by rw [Ja (C7 _ _ _), hS, List.drop_zero, List.take_of_length_le (by simp [C7])]) hL <| zmv rfl (hd 57 rfl) ?_
        refine Ah Tryz.f75 (Mn (N9 a b) (by rw [hS]; simp only [List.length_append, C7, List.length_singleton]; omega) (by rw [hS]; exact Eg (Ta _) hc.1 (by omega)) h) rfl Tryz.func75 rfl rfl (Ab rfl Ad) (.cons .n .nil) (hd 58 rfl) ?_ (fun ch hp => by simp at hp)
        rintro _ ⟨⟩; refine Ac (Am rfl rfl) (hd 59 rfl) <| Ac (Am rfl rfl) (hd 60 rfl) <| zas rfl (hd 4 rfl) <| zas rfl (hd 5 rfl) <| Aa <| Ao ?_
        refine ⟨_, _, (.cons rfl (.cons rfl .nil)), (.t1 .n (.t1 .i .t0)), ?_⟩
        exact rfl

theorem Af9 (a b : List Int) (ha : a.length < 4294967296) (hb : b.length < 4294967296) (ua : Az a) (ub : Az b) (h : 67108864 < Hb (trm (N9 a b))) : Spec Tryz.prog 104 [.n false .u64 a, .n false .u64 b] (fun o => o = .ret (.t [.n false .u64 [], .i .i64 3])) := by
  refine Au [(0, .n false .u64 a), (1, .n false .u64 b)] rfl Tryz.func104 rfl (zlb rfl) fun Γ hN hds hL hR => ?_
  have hd := Bt 61 hN
  have hma := Dj a
  have hmb := Dj b
  refine zsr <| zas rfl (hd 4 rfl) <| zas rfl (hd 5 rfl) <| Aa <| zsr <| zmv rfl (hd 10 rfl) ?_
  refine Ah Tryz.f72 (Fn a (by omega)) rfl Tryz.func72 rfl rfl (Ab rfl Ad) (.cons .n .nil) (hd 11 rfl) ?_ (fun ch hp => by simp at hp)
  rintro _ ⟨⟩; refine zmv rfl (hd 12 rfl) ?_
  refine Ah Tryz.f72 (Fn b (by omega)) rfl Tryz.func72 rfl rfl (Ab rfl Ad) (.cons .n .nil) (hd 13 rfl) ?_ (fun ch hp => by simp at hp)
  rintro _ ⟨⟩; refine zas rfl (hd 0 rfl) <| zas rfl (hd 1 rfl) <| Aa ?_
  refine Ce (G := List Int × List Int) (fun g => swL (trm a) (trm b) = g ∧ g.1.length < 4294967296 ∧ Az g.1 ∧ Az g.2) (fun g => [(0, .n false .u64 g.1), (1, .n false .u64 g.2), (14, .u), (15, .u), (16, .u), (17, .u), (18, .u), (19, .u), (20, .u)]) ?_ ?_
  · refine zsr <| zmv rfl (hd 14 rfl) <| Ac (As Bc rfl) (hd 15 rfl) <| zmv rfl (hd 16 rfl) <| Ac (As Bc rfl) (hd 17 rfl) <| Ac (Br rfl rfl) (hd 18 rfl) <| Aa ?_
    refine Bg rfl (fun h1 => ?_) (fun h1 => ?_)
    · refine Af <| zmv rfl (hd 19 rfl) <| zmv rfl (hd 20 rfl) <| zas rfl (hd 0 rfl) <| zas rfl (hd 1 rfl) <| Aa ?_
      refine ⟨(trm b, trm a), ?_, rfl, A5 9 rfl rfl ?_⟩
      · exact ⟨by unfold swL; rw [if_pos (by omega)], by show (trm b).length < _; omega, Bz ub, Bz ua⟩
      · exact (.cons rfl (.cons rfl (.v5 (.u (.u .nil)))))
    · refine Ai ?_
      refine ⟨(trm a, trm b), ?_, rfl, A5 5 rfl rfl ?_⟩
      · exact ⟨by unfold swL; rw [if_neg (by omega)], by show (trm a).length < _; omega, Bz ua, Bz ub⟩
      · exact (.cons rfl (.cons rfl (.v5 (.u (.u .nil)))))
  · rintro ⟨X, Y⟩ ⟨hg, hX, uX, uY⟩
    dsimp only at hg hX uX uY ⊢
    have hS : N9 a b = (adN X Y X.length).1 ++ [(adN X Y X.length).2] := by unfold N9; rw [hg]
    refine zsr <| zmv rfl (hd 21 rfl) <| Ac (As Bc rfl) (hd 22 rfl) <| Ac (Aw rfl rfl (r := ((X.length + 1 : Nat) : Int)) (by rw [Ag (by omega) (by omega)]; omega)) (hd 23 rfl) <| A4 (F5 (m := X.length + 1) Lr rfl rfl rfl (by show 8 * (X.length + 1) ≤ _; omega) (by unfold maxLen; omega) rfl) (hd 24 rfl) <| zas rfl (hd 6 rfl) <| Aa <| zsr <| zas rfl (hd 7 rfl) <| Aa <| Ae ?_; refine zsr <| zmv rfl (hd 25 rfl) <| Ac (As Bc rfl) (hd 26 rfl) <| zmv rfl (hd 27 rfl) <| Aa <| Ap ?_
    refine Bq (G := Nat) (fun i => i ≤ X.length) (fun i => [(7, .i .u64 (adN X Y i).2), (27, .i .i64 (i : Int)), (8, .u), (9, .u), (28, .u), (29, .u), (30, .u), (31, .u), (32, .u), (33, .u), (34, .u), (35, .u), (36, .u), (37, .u), (38, .u), (39, .u), (40, .u), (41, .u), (42, .u), (43, .u), (44, .u), (45, .u), (46, .u), (47, .u), (48, .u), (49, .u), (50, .u), (51, .u)]) (fun i => [⟨71, 1, 0, true, ints .u64 (Ci (adN X Y i).1 (X.length + 1))⟩]) (fun i => X.length - i) 0 ?_ ?_ rfl ?_
    · exact Nat.zero_le _
    · exact (.cons rfl (.cons rfl (.v9 (.v9 (.v5 (.u .nil))))))
    · rintro i hc1
      have hf := Ey (l := (adN X Y i).1) (n := X.length + 1) (by rw [C7]; omega)
      have hc := Tb uX uY i
      have hx := A2 uX i
      have hy := A2 uY i
      refine zsr <| Ac (Br rfl rfl) (hd 28 rfl) <| Aa <| Ae ?_
      refine Bg rfl (fun h2 => ?_) (fun h2 => ?_)
      · refine Ai <| Ae <| Ap <| zsr <| zmv rfl (hd 29 rfl) <| zas rfl (hd 8 rfl) <| Aa <| zsr <| zas rfl (hd 9 rfl) <| Aa ?_
        refine Ce (G := Unit) (fun _ => True) (fun _ => [(9, .i .u64 (Y.getD i 0)), (30, .u), (31, .u), (32, .u), (33, .u), (34, .u), (35, .u), (36, .u), (37, .u)]) ?_ ?_
        · refine zsr <| zmv rfl (hd 30 rfl) <| zmv rfl (hd 31 rfl) <| Ac (As Bc rfl) (hd 32 rfl) <| Ac (Br rfl rfl) (hd 33 rfl) <| Aa ?_
          refine Bg rfl (fun h3 => ?_) (fun h3 => ?_)
          · refine Af <| zmv rfl (hd 34 rfl) <| zmv rfl (hd 35 rfl) <| Ac (B2 (i := i) Bc rfl rfl (by first | rfl | omega) (by omega)) (hd 36 rfl) <| Ac (Bw Bj rfl rfl) (hd 37 rfl) <| zas rfl (hd 9 rfl) <| Aa ?_
            refine ⟨(), ?_, rfl, A5 9 rfl rfl ?_⟩
            · trivial
            · exact (.cons (by first | rfl | (show some (V.i .u64 _) = some (V.i .u64 _); rw [Dw (by omega)])) (.v5 (.u (.u (.u .nil)))))
          · refine Ai ?_
            refine ⟨(), ?_, rfl, A5 4 rfl rfl ?_⟩
            · trivial
            · exact (.cons (by first | rfl | (show some (V.i .u64 _) = some (V.i .u64 _); rw [Dw (by omega)])) (.v5 (.u (.u (.u .nil)))))
        · rintro _ _; refine Af <| zmv rfl (hd 39 rfl) <| zmv rfl (hd 40 rfl) <| zmv rfl (hd 41 rfl) <| zmv rfl (hd 42 rfl) <| Ac (B2 (i := i) Bc rfl rfl (by first | rfl | omega) (by omega)) (hd 43 rfl) <| Ac (Bw Bj rfl rfl) (hd 44 rfl) <| zmv rfl (hd 45 rfl) <| zmv rfl (hd 46 rfl) <| A4 (El (e := add64Entry) Tryz.func123 rfl rfl (by kernel_rfl) (by kernel_rfl) rfl rfl rfl (fun w => run_add64 _ _ _ hx.1 hy.1 hc.1 hc.2 w) Du) (hd 47 rfl) <| zmv rfl (hd 38 rfl) <| Ac (Am rfl rfl) (hd 48 rfl) <| Ac (Am rfl rfl) (hd 49 rfl) ?_; refine Ac (Cd (i := i) Bc rfl rfl rfl (by first | rfl | omega) (by omega) rfl) (hd 50 rfl) <| A6 (B3 rfl rfl rfl Bj (by omega)) <| zas rfl (hd 7 rfl) <| Aa <| Af <| Ac (Aw rfl rfl (Ag (by omega) (by omega))) (hd 51 rfl) <| zmv rfl (hd 27 rfl) <| Aa ?_
          refine ⟨i + 1, ?_, ?_, (by show [(⟨71, 1, 0, true, ints .u64 _⟩ : Ob)] = [⟨71, 1, 0, true, ints .u64 _⟩]; rw [Wg (by omega)]), A5 57 rfl rfl ?_⟩
          · omega
          · omega
          · exact (.cons rfl (.cons rfl (.v9 (.v9 (.v5 (.u .nil))))))
      · refine Bh <| Ae ?_
        obtain rfl : i = X.length := by omega
        refine Af <| zmv rfl (hd 52 rfl) <| zmv rfl (hd 53 rfl) <| Ac (As Bc rfl) (hd 54 rfl) <| zmv rfl (hd 55 rfl) <| Ac (Cd (i := X.length) Bc rfl rfl rfl (by first | rfl | omega) (by omega) rfl) (hd 56 rfl) <| A6 (B3 rfl rfl rfl Bj (by omega)) <| Aa <| zsr <| Hl (k := .u64) (l' := N9 a b) 6 rfl rfl (by rw [Ja (C7 _ _ _)]; simp [C7]) (by rw [Ja (C7 _ _ _), hS, List.drop_zero, List.take_of_length_le (by simp [C7])]) hL <| zmv rfl (hd 57 rfl) ?_
        refine Ah Tryz.f75 (X2 (N9 a b) (by rw [hS]; simp only [List.length_append, C7, List.length_singleton]; omega) (by rw [hS]; exact Eg (Ta _) hc.1 (by omega)) h) rfl Tryz.func75 rfl rfl (Ab rfl Ad) (.cons .n .nil) (hd 58 rfl) ?_ (fun ch hp => by simp at hp)
        rintro _ ⟨⟩; refine Ac (Am rfl rfl) (hd 59 rfl) <| Ac (Am rfl rfl) (hd 60 rfl) <| zas rfl (hd 4 rfl) <| zas rfl (hd 5 rfl) <| Aa <| Ao ?_
        refine ⟨_, _, (.cons rfl (.cons rfl .nil)), (.t1 .n (.t1 .i .t0)), ?_⟩
        exact rfl

theorem Sub_ok (a b : List Int) (ha : a.length < 4294967296) (hb : b.length < 4294967296) (ua : Az a) (ub : Az b) (hle : 0 ≤ Qy (trm a) (trm b)) (h : Hb (trm (Z1 a b)) ≤ 67108864) : Spec Tryz.prog 105 [.n false .u64 a, .n false .u64 b] (fun o => o = .ret (.t [.n false .u64 (trm (Z1 a b)), .i .i64 0])) := by
  refine Au [(0, .n false .u64 a), (1, .n false .u64 b)] rfl Tryz.func105 rfl (zlb rfl) fun Γ hN hds hL hR => ?_
  have hd := Bt 52 hN
  have hma := Dj a
  have hmb := Dj b
  have uX := Bz ua
  have uY := Bz ub
  refine zsr <| zas rfl (hd 4 rfl) <| zas rfl (hd 5 rfl) <| Aa <| Ae <| zsr <| zmv rfl (hd 10 rfl) <| zmv rfl (hd 11 rfl) ?_
  refine Ah Tryz.f89 (Je a b (by omega) (by omega)) rfl Tryz.func89 rfl rfl (Ab rfl (Ab rfl Ad)) (.cons .n (.cons .n .nil)) (hd 12 rfl) ?_ (fun ch hp => by simp at hp)
  rintro _ ⟨⟩; refine Ac (Bo (Br rfl rfl) (by omega)) (hd 13 rfl) <| Aa <| A1 rfl <| Ai <| zsr <| zmv rfl (hd 14 rfl) ?_
  refine Ah Tryz.f72 (Fn a (by omega)) rfl Tryz.func72 rfl rfl (Ab rfl Ad) (.cons .n .nil) (hd 15 rfl) ?_ (fun ch hp => by simp at hp)
  rintro _ ⟨⟩; refine zmv rfl (hd 16 rfl) ?_
  refine Ah Tryz.f72 (Fn b (by omega)) rfl Tryz.func72 rfl rfl (Ab rfl Ad) (.cons .n .nil) (hd 17 rfl) ?_ (fun ch hp => by simp at hp)
  rintro _ ⟨⟩; refine zas rfl (hd 0 rfl) <| zas rfl (hd 1 rfl) <| Aa <| zsr <| zmv rfl (hd 18 rfl) <| Ac (As Bc rfl) (hd 19 rfl) <| A4 (F5 (m := (trm a).length) Lr rfl rfl rfl (by show 8 * (trm a).length ≤ _; omega) (by unfold maxLen; omega) rfl) (hd 20 rfl) <| zas rfl (hd 6 rfl) <| Aa <| zsr <| zas rfl (hd 7 rfl) ?_; refine Aa <| Ae <| zsr <| zmv rfl (hd 21 rfl) <| Ac (As Bc rfl) (hd 22 rfl) <| zmv rfl (hd 23 rfl) <| Aa <| Ap ?_
  refine Bq (G := Nat) (fun i => i ≤ (trm a).length) (fun i => [(7, .i .u64 (sbN (trm a) (trm b) i).2), (23, .i .i64 (i : Int)), (8, .u), (9, .u), (24, .u), (25, .u), (26, .u), (27, .u), (28, .u), (29, .u), (30, .u), (31, .u), (32, .u), (33, .u), (34, .u), (35, .u), (36, .u), (37, .u), (38, .u), (39, .u), (40, .u), (41, .u), (42, .u), (43, .u), (44, .u), (45, .u), (46, .u), (47, .u)]) (fun i => [⟨71, 1, 0, true, ints .u64 (Ci (sbN (trm a) (trm b) i).1 (trm a).length)⟩]) (fun i => (trm a).length - i) 0 ?_ ?_ rfl ?_
  · exact Nat.zero_le _
  · exact (.cons rfl (.cons rfl (.v9 (.v9 (.v5 (.u .nil))))))
  · rintro i hc1
    have hf := Ey (l := (sbN (trm a) (trm b) i).1) (n := (trm a).length) (by rw [D0]; omega)
    have hc := Ug (trm a) (trm b) i
    have hx := A2 uX i
    have hy := A2 uY i
    refine zsr <| Ac (Br rfl rfl) (hd 24 rfl) <| Aa <| Ae ?_
    refine Bg rfl (fun h2 => ?_) (fun h2 => ?_)
    · refine Ai <| Ae <| Ap <| zsr <| zmv rfl (hd 25 rfl) <| zas rfl (hd 8 rfl) <| Aa <| zsr <| zas rfl (hd 9 rfl) <| Aa ?_
      refine Ce (G := Unit) (fun _ => True) (fun _ => [(9, .i .u64 ((trm b).getD i 0)), (26, .u), (27, .u), (28, .u), (29, .u), (30, .u), (31, .u), (32, .u), (33, .u)]) ?_ ?_
      · refine zsr <| zmv rfl (hd 26 rfl) <| zmv rfl (hd 27 rfl) <| Ac (As Bc rfl) (hd 28 rfl) <| Ac (Br rfl rfl) (hd 29 rfl) <| Aa ?_
        refine Bg rfl (fun h3 => ?_) (fun h3 => ?_)
        · refine Af <| zmv rfl (hd 30 rfl) <| zmv rfl (hd 31 rfl) <| Ac (B2 (i := i) Bc rfl rfl (by first | rfl | omega) (by omega)) (hd 32 rfl) <| Ac (Bw Bj rfl rfl) (hd 33 rfl) <| zas rfl (hd 9 rfl) <| Aa ?_
          refine ⟨(), ?_, rfl, A5 9 rfl rfl ?_⟩
          · trivial
          · exact (.cons (by first | rfl | (show some (V.i .u64 _) = some (V.i .u64 _); rw [Dw (by omega)])) (.v5 (.u (.u (.u .nil)))))
        · refine Ai ?_
          refine ⟨(), ?_, rfl, A5 4 rfl rfl ?_⟩
          · trivial
          · exact (.cons (by first | rfl | (show some (V.i .u64 _) = some (V.i .u64 _); rw [Dw (by omega)])) (.v5 (.u (.u (.u .nil)))))
      · rintro _ _; refine Af <| zmv rfl (hd 35 rfl) <| zmv rfl (hd 36 rfl) <| zmv rfl (hd 37 rfl) <| zmv rfl (hd 38 rfl) <| Ac (B2 (i := i) Bc rfl rfl (by first | rfl | omega) (by omega)) (hd 39 rfl) <| Ac (Bw Bj rfl rfl) (hd 40 rfl) <| zmv rfl (hd 41 rfl) <| zmv rfl (hd 42 rfl) <| A4 (El (e := Fu) Tryz.func124 rfl rfl (by kernel_rfl) (by kernel_rfl) rfl rfl rfl (fun w => Iz _ _ _ hx.1 hx.2 hy.1 hy.2 hc.1 hc.2 w) Du) (hd 43 rfl) <| zmv rfl (hd 34 rfl) <| Ac (Am rfl rfl) (hd 44 rfl) <| Ac (Am rfl rfl) (hd 45 rfl) ?_; refine Ac (Cd (i := i) Bc rfl rfl rfl (by first | rfl | omega) (by omega) rfl) (hd 46 rfl) <| A6 (B3 rfl rfl rfl Bj (by omega)) <| zas rfl (hd 7 rfl) <| Aa <| Af <| Ac (Aw rfl rfl (Ag (by omega) (by omega))) (hd 47 rfl) <| zmv rfl (hd 23 rfl) <| Aa ?_
        refine ⟨i + 1, ?_, ?_, (by show [(⟨71, 1, 0, true, ints .u64 _⟩ : Ob)] = [⟨71, 1, 0, true, ints .u64 _⟩]; rw [Afb (by omega)]), A5 57 rfl rfl ?_⟩
        · omega
        · omega
        · exact (.cons rfl (.cons rfl (.v9 (.v9 (.v5 (.u .nil))))))
    · refine Bh <| Ae ?_
      obtain rfl : i = (trm a).length := by omega
      refine Ia (k := .u64) (l' := Z1 a b) 6 rfl rfl (by rw [Ed (D0 _ _ _)]; simp [D0]) (by rw [Ed (D0 _ _ _), List.drop_zero, List.take_of_length_le (by simp [D0])]; rfl) hL <| Af <| zmv rfl (hd 48 rfl) ?_
      refine Ah Tryz.f75 (Mn (Z1 a b) (by unfold Z1; rw [D0]; omega) (Sy uX uY _) h) rfl Tryz.func75 rfl rfl (Ab rfl Ad) (.cons .n .nil) (hd 49 rfl) ?_ (fun ch hp => by simp at hp)
      rintro _ ⟨⟩; refine Ac (Am rfl rfl) (hd 50 rfl) <| Ac (Am rfl rfl) (hd 51 rfl) <| zas rfl (hd 4 rfl) <| zas rfl (hd 5 rfl) <| Aa <| Ao ?_
      refine ⟨_, _, (.cons rfl (.cons rfl .nil)), (.t1 .n (.t1 .i .t0)), ?_⟩
      exact rfl


theorem Ij (l : List Int) (hl : l.length < 1099511627776) : Spec Tryz.prog 68 [.n false .u64 l] (fun o => o = .ret (.n false .u64 (trm l))) := by
  refine Au [(0, .n false .u64 l)] rfl Tryz.func68 rfl (zlb rfl) fun Γ hN hds hL hR => ?_
  have hd := Bt 22 hN
  refine zsr <| zas rfl (hd 2 rfl) <| Aa <| zsr <| zmv rfl (hd 4 rfl) <| Ac (As Cz rfl) (hd 5 rfl) <| zas rfl (hd 3 rfl) <| Aa <| Ae <| Ap ?_
  refine Bq (G := Nat) (fun k => k ≤ l.length ∧ tN l k = tN l l.length) (fun k => [(3, .i .i64 (k : Int)), (6, .u), (7, .u), (8, .u), (9, .u), (10, .u), (11, .u), (12, .u), (13, .u), (14, .u), (15, .u), (16, .u), (17, .u)]) (fun _ => _) (fun k => k) l.length ?_ ?_ rfl ?_
  · exact ⟨Nat.le_refl _, rfl⟩
  · exact (.cons rfl (.v9 (.u (.u .nil))))
  · rintro k ⟨hc1, hc2⟩; refine Ae <| zsr <| zmv rfl (hd 6 rfl) <| Ac (Ca rfl rfl) (hd 7 rfl) <| zmv rfl (hd 8 rfl) ?_
    refine D4 8 rfl (fun h1 => ?_) (fun h1 => ?_)
    · refine Ay 8 rfl rfl (Ar rfl) (hd 9 rfl) <| Ay 8 rfl rfl (Ar rfl) (hd 10 rfl) <| Ay 8 rfl rfl (Bd rfl rfl (Ag (by omega) (by omega))) (hd 11 rfl) <| Ay 8 rfl rfl (B2 (i := k - 1) Cz rfl rfl (by omega) (by omega)) (hd 12 rfl) <| Ay 8 rfl rfl (Bw Bj rfl rfl) (hd 13 rfl) <| Ay 8 rfl rfl (Ch rfl rfl) (hd 14 rfl) <| Ac (A9 rfl rfl) (hd 15 rfl) <| Aa ?_
      refine Bg rfl (fun h2 => ?_) (fun h2 => ?_)
      · refine Ai <| Ap <| Af <| zmv rfl (hd 16 rfl) <| Ac (Bd rfl rfl (Ag (by omega) (by omega))) (hd 17 rfl) <| zas rfl (hd 3 rfl) <| Aa ?_
        refine ⟨k - 1, ?_, ?_, rfl, A5 27 rfl rfl ?_⟩
        · exact ⟨by omega, by rw [← hc2, T3 (by omega) (by assumption)]⟩
        · omega
        · exact (.cons (by show some (V.i .i64 _) = some (V.i .i64 _); congr 2; omega) (.v9 (.u (.u .nil))))
      · refine Bh <| zsr <| zmv rfl (hd 18 rfl) <| zmv rfl (hd 19 rfl) <| zmv rfl (hd 20 rfl) <| Ac (La Cz rfl G5 (Db rfl (by first | rfl | omega)) (.inr ⟨k, Db rfl rfl, Nat.le_refl _, hc1, rfl⟩) (by omega) (by omega)) (hd 21 rfl) <| zas rfl (hd 2 rfl) <| Aa <| Ao ?_
        refine ⟨_, _, (.cons rfl .nil), .n, ?_⟩
        unfold trm
        rw [← hc2, Py (by omega) (by assumption), List.drop_zero]
    · refine Bk 8 rfl rfl rfl (hd 9 rfl) <| Bk 8 rfl rfl rfl (hd 10 rfl) <| Bk 8 rfl rfl rfl (hd 11 rfl) <| Bk 8 rfl rfl rfl (hd 12 rfl) <| Bk 8 rfl rfl rfl (hd 13 rfl) <| Bk 8 rfl rfl rfl (hd 14 rfl) <| Ac (A3 rfl rfl) (hd 15 rfl) <| Aa <| A1 rfl <| Bh <| zsr <| zmv rfl (hd 18 rfl) ?_; refine zmv rfl (hd 19 rfl) <| zmv rfl (hd 20 rfl) <| Ac (La Cz rfl G5 (Db rfl (by first | rfl | omega)) (.inr ⟨k, Db rfl rfl, Nat.le_refl _, hc1, rfl⟩) (by omega) (by omega)) (hd 21 rfl) <| zas rfl (hd 2 rfl) <| Aa <| Ao ?_
      refine ⟨_, _, (.cons rfl .nil), .n, ?_⟩
      unfold trm
      rw [← hc2, tN_0 (by omega), List.drop_zero]

theorem Fp (l : List Int) : Spec Tryz.prog 36 [.n false .u64 l] (fun o => o = .ret (.b (decide ((l.length : Int) = 0)))) := by
  refine Au [(0, .n false .u64 l)] rfl Tryz.func36 rfl (zlb rfl) fun Γ hN hds hL hR => ?_
  have hd := Bt 6 hN
  refine zsr <| zas rfl (hd 2 rfl) <| Aa <| zsr <| zmv rfl (hd 3 rfl) <| Ac (As Cz rfl) (hd 4 rfl) <| Ac (Ch rfl rfl) (hd 5 rfl) <| zas rfl (hd 2 rfl) <| Aa <| Ao ?_
  refine ⟨_, _, (.cons rfl .nil), .b, ?_⟩
  exact rfl

theorem Yp (l : List Int) (hl : l.length < 4294967296) (hu : Az l) : Spec Tryz.prog 22 [.n false .u64 l] (fun o => o = .ret (.n false .u64 (trm (dig l)))) := by
  refine Au [(0, .n false .u64 l)] rfl Tryz.func22 rfl (zlb rfl) fun Γ hN hds hL hR => ?_
  have hd := Bt 26 hN
  refine zsr <| zas rfl (hd 2 rfl) <| Aa <| zsr <| zmv rfl (hd 6 rfl) <| Ac (As Oc rfl) (hd 7 rfl) <| Ac (Dg rfl rfl (Ag (by omega) (by omega))) (hd 8 rfl) <| A4 (hy_mk0 (m := 2 * l.length) Xl rfl rfl (by omega) (by show 8 * (2 * l.length) ≤ _; omega) (by unfold maxLen; omega) rfl) (hd 9 rfl) <| zas rfl (hd 3 rfl) <| Aa <| Ae ?_; refine zsr <| zmv rfl (hd 10 rfl) <| Ac (As Oc rfl) (hd 11 rfl) <| zmv rfl (hd 12 rfl) <| Aa <| Ap ?_
  refine Gd (G := Nat) 1 (fun g => g ≤ l.length) (fun g => [(3, .o 0 g 0 (2 * g)), (12, .i .i64 (g : Int)), (5, .u), (13, .u), (14, .u), (15, .u), (16, .u), (17, .u), (18, .u), (19, .u), (20, .u), (21, .u), (22, .u), (23, .u)]) (fun g => [⟨71, 1, g, true, ints .u64 (dig (l.take g))⟩]) (fun g => l.length - g) 0 ?_ ?_ rfl hR rfl (fun _ _ => rfl) (fun g _ => .cons A8 .nil) ?_
  · exact Nat.zero_le _
  · exact (.cons rfl (.cons rfl (.v9 (.u (.u .nil)))))
  · rintro i hc1
    have hx := A2 hu i
    refine zsr <| Ac (Br rfl rfl) (hd 13 rfl) <| Aa <| Ae ?_
    refine Bg rfl (fun h1 => ?_) (fun h1 => ?_)
    · refine Ai <| Ae <| Ap <| zsr <| Ac (B2 (i := i) Oc rfl rfl (by first | rfl | omega) (by omega)) (hd 14 rfl) <| Ac (Bw Bj rfl rfl) (hd 15 rfl) <| zas rfl (hd 5 rfl) <| Aa <| Af <| zmv rfl (hd 16 rfl) <| zmv rfl (hd 17 rfl) <| Ac (Ba (Fi rfl rfl (by decide) rfl) (show V.i .u64 ((l.getD i 0).tmod 4294967296) = V.i .u64 ((l.getD i 0) % 4294967296) by rw [Int.tmod_eq_emod_of_nonneg hx.1])) (hd 18 rfl) ?_; refine zmv rfl (hd 19 rfl) <| Ac (Dk rfl rfl (by decide) (r := (l.getD i 0) / 4294967296) (by show IntKind.u64.wrap (Int.tdiv (l.getD i 0) 4294967296) = _; rw [Int.tdiv_eq_ediv_of_nonneg hx.1]; exact A0 (by omega) (by omega))) (hd 20 rfl) <| A4 (Dl (id := 1) (xs := [.tmp 18, .tmp 20]) Xl rfl (Ab rfl (Ab rfl Ad)) rfl (Cx rfl) (by decide) rfl) (hd 21 rfl) <| O6 Xl rfl rfl (by rw [Cs, Nr, List.length_take, Nat.min_eq_left (by omega), Nat.mul_one]) rfl (Pz rfl rfl rfl) (by show (2 * i + 2) * 8 ≤ _; omega) (by unfold maxLen; omega) (hd 22 rfl) <| zas rfl (hd 3 rfl) <| Aa <| Af <| Ac (Aw rfl rfl (Ag (by omega) (by omega))) (hd 23 rfl) <| zmv rfl (hd 12 rfl) <| Aa ?_
      refine ⟨i + 1, ?_, ?_, (by show [(⟨71, 1, i + 1, true, ints .u64 (dig (l.take i)) ++ ints .u64 [_, _]⟩ : Ob)] = [⟨71, 1, i + 1, true, ints .u64 (dig (l.take (i + 1)))⟩]; rw [D9, Z0 (by omega)]), A5 28 rfl rfl ?_⟩
      · omega
      · omega
      · exact (.cons rfl (.cons rfl (.v9 (.u (.u .nil)))))
    · refine Bh <| Ae ?_
      obtain rfl : i = l.length := by omega
      refine Af <| Hl (k := .u64) (l' := dig l) 3 rfl rfl (by rw [Nr, List.length_take, Nat.min_self]; omega) (by rw [List.take_length, List.drop_zero, List.take_of_length_le (by rw [Nr]; exact Nat.le_refl _)]) hL <| zmv rfl (hd 24 rfl) ?_
      refine Ah Tryz.f68 (Ij (dig l) (by rw [Nr]; omega)) rfl Tryz.func68 rfl rfl (Ab rfl Ad) (.cons .n .nil) (hd 25 rfl) ?_ (fun ch hp => by simp at hp)
      rintro _ ⟨⟩; refine zas rfl (hd 2 rfl) <| Aa <| Ao ?_
      refine ⟨_, _, (.cons rfl .nil), .n, ?_⟩
      exact rfl

theorem Rv (v : Int) (h0 : 0 ≤ v) (h1 : v < 9223372036854775808) : Spec Tryz.prog 59 [.i .i64 v] (fun o => o = .ret (.n false .u64 (trm (dig [v])))) := by
  refine Au [(0, .i .i64 v)] rfl Tryz.func59 rfl (zlb rfl) fun Γ hN hds hL hR => ?_
  have hd := Bt 7 hN
  refine zsr <| zas rfl (hd 2 rfl) <| Aa <| zsr <| zmv rfl (hd 3 rfl) <| Ac (Cv Jx G9 rfl (A0 (by omega) (by omega))) (hd 4 rfl) <| A4 (Dl (id := 0) (xs := [.tmp 4]) el25 rfl (Ab rfl Ad) rfl (Cx rfl) (by decide) rfl) (hd 5 rfl) <| Hl (k := .u64) (l := [v]) (l' := [v]) 5 rfl rfl (Nat.le_refl _) rfl hL ?_
  refine Ah Tryz.f22 (Yp [v] (by simp) (Ts (by omega) (by omega))) rfl Tryz.func22 rfl rfl (Ab rfl Ad) (.cons .n .nil) (hd 6 rfl) ?_ (fun ch hp => by simp at hp)
  rintro _ ⟨⟩; refine zas rfl (hd 2 rfl) <| Aa <| Ao ?_
  refine ⟨_, _, (.cons rfl .nil), .n, ?_⟩
  exact rfl

theorem Af2 (l : List Int) (hl : l.length < 4294967296) : Spec Tryz.prog 83 [.n false .u64 l] (fun o => o = .ret (.n true .u64 (L8 l))) := by
  refine Au [(0, .n false .u64 l)] rfl Tryz.func83 rfl (zlb rfl) fun Γ hN hds hL hR => ?_
  have hd := Bt 34 hN
  refine zsr <| zas rfl (hd 2 rfl) <| Aa <| zsr <| zas rfl (hd 3 rfl) <| Aa <| Ae <| Ae <| V1 (id := 0) 3 71 1 rfl rfl <| Af <| zas rfl (hd 4 rfl) ?_; refine Aa <| Ap ?_
  refine Gd (G := Nat × List Int) 1 (fun g => g.1 ≤ l.length + 1 ∧ g.2 ++ L8 (l.drop g.1) = L8 l ∧ g.2.length ≤ g.1) (fun g => [(3, .o 0 g.2.length 0 g.2.length), (4, .i .i64 (g.1 : Int)), (5, .u), (6, .u), (7, .u), (8, .u), (9, .u), (10, .u), (11, .u), (12, .u), (13, .u), (14, .u), (15, .u), (16, .u), (17, .u), (18, .u), (19, .u), (20, .u), (21, .u), (22, .u), (23, .u), (24, .u), (25, .u), (26, .u), (27, .u), (28, .u), (29, .u), (30, .u), (31, .u), (32, .u)]) (fun g => [⟨71, 1, g.2.length, true, ints .u64 g.2⟩]) (fun g => l.length + 1 - g.1) (0, []) ?_ ?_ rfl hR rfl (fun _ _ => rfl) (fun g _ => .cons A8 .nil) ?_
  · exact ⟨Nat.zero_le _, rfl, Nat.le_refl _⟩
  · exact (.cons rfl (.cons rfl (.v9 (.v9 (.v5 (.u (.u (.u .nil))))))))
  · rintro ⟨j, acc⟩ ⟨hc1, hc2, hc3⟩
    dsimp only at hc1 hc2 hc3
    refine Ae <| zsr <| zmv rfl (hd 6 rfl) <| zmv rfl (hd 7 rfl) <| Ac (As Cz rfl) (hd 8 rfl) <| Ac (Br rfl rfl) (hd 9 rfl) <| Aa ?_
    refine Bg rfl (fun h1 => ?_) (fun h1 => ?_)
    · have hjl : j < l.length := by
        have h0 : (j : Int) < (l.length : Int) := by assumption
        omega
      refine Ai <| Ae <| Ap <| zsr <| zmv rfl (hd 12 rfl) <| zmv rfl (hd 13 rfl) <| Ac (B2 (i := j) Cz rfl rfl (by first | rfl | omega) (by omega)) (hd 14 rfl) <| Ac (Bw Bj rfl rfl) (hd 15 rfl) <| zas rfl (hd 5 rfl) <| Aa ?_
      refine Ce (G := Int) (fun v => L8 (l.drop j) = v :: L8 (l.drop (j + 2))) (fun v => [(5, .i .u64 v), (16, .u), (17, .u), (18, .u), (19, .u), (20, .u), (21, .u), (22, .u), (23, .u), (24, .u), (25, .u), (26, .u), (27, .u), (28, .u)]) ?_ ?_
      · refine zsr <| zmv rfl (hd 16 rfl) <| Ac (Aw rfl rfl (r := ((j + 1 : Nat) : Int)) (by rw [Ag (by omega) (by omega)]; omega)) (hd 17 rfl) <| zmv rfl (hd 18 rfl) <| Ac (As Cz rfl) (hd 19 rfl) <| Ac (Br rfl rfl) (hd 20 rfl) <| Aa ?_
        refine Bg rfl (fun h2 => ?_) (fun h2 => ?_)
        · refine Af <| zmv rfl (hd 21 rfl) <| zmv rfl (hd 22 rfl) <| zmv rfl (hd 23 rfl) <| Ac (Aw rfl rfl (r := ((j + 1 : Nat) : Int)) (by rw [Ag (by omega) (by omega)]; omega)) (hd 24 rfl) <| Ac (B2 (i := j + 1) Cz rfl rfl (by first | rfl | omega) (by omega)) (hd 25 rfl) <| Ac (Bw Bj rfl rfl) (hd 26 rfl) <| Ac (Dg rfl rfl rfl) (hd 27 rfl) <| Ac (Aw rfl rfl rfl) (hd 28 rfl) <| zas rfl (hd 5 rfl) <| Aa ?_
          refine ⟨IntKind.u64.wrap (l.getD j 0 + IntKind.u64.wrap (l.getD (j + 1) 0 * 4294967296)), ?_, rfl, A5 14 rfl rfl ?_⟩
          · exact lims2 (by omega)
          · exact (.cons rfl (.v9 (.u (.u (.u .nil)))))
        · refine Ai ?_
          refine ⟨l.getD j 0, ?_, rfl, A5 5 rfl rfl ?_⟩
          · exact lims1 hjl (by omega)
          · exact (.cons rfl (.v9 (.u (.u (.u .nil)))))
      · rintro v hv; refine Af <| zmv rfl (hd 29 rfl) <| zmv rfl (hd 30 rfl) <| A4 (Dl (id := 1) (xs := [.tmp 30]) el25 rfl (Ab rfl Ad) rfl (Cx rfl) (by decide) rfl) (hd 31 rfl) <| O6 el25 rfl rfl (by rw [Cs, Nat.mul_one]) rfl (Pz rfl rfl rfl) (by show (acc.length + 1) * 8 ≤ _; omega) (by show acc.length + 1 ≤ 9223372036854775807; omega) (hd 32 rfl) <| zas rfl (hd 3 rfl) <| Aa <| Af <| zmv rfl (hd 10 rfl) <| Ac (Aw rfl rfl (r := ((j + 2 : Nat) : Int)) (by rw [Ag (by omega) (by omega)]; omega)) (hd 11 rfl) <| zas rfl (hd 4 rfl) <| Aa ?_
        refine ⟨(j + 2, acc ++ [v]), ?_, ?_, (by show [(⟨71, 1, acc.length + 1, true, ints .u64 acc ++ ints .u64 [v]⟩ : Ob)] = [⟨71, 1, (acc ++ [v]).length, true, ints .u64 (acc ++ [v])⟩]; rw [D9, List.length_append]; rfl), A5 61 rfl rfl ?_⟩
        · exact ⟨by omega, by rw [List.append_assoc, List.singleton_append, ← hv]; exact hc2, by rw [List.length_append, List.length_singleton]; omega⟩
        · show l.length + 1 - (j + 2) < l.length + 1 - j
          omega
        · exact (.cons (by show some _ = some _; rw [List.length_append]; rfl) (.cons rfl (.v9 (.v9 (.v5 (.u (.u (.u .nil))))))))
    · have hjl : l.length ≤ j := by
        have h0 : ¬ (j : Int) < (l.length : Int) := by assumption
        omega
      refine Bh <| zsr <| zmv rfl (hd 33 rfl) <| zas rfl (hd 2 rfl) <| Aa <| Ao ?_
      refine ⟨_, _, (.cons rfl .nil), (.o rfl (by simp) rfl), ?_⟩
      rw [List.drop_zero, List.take_length, ← hc2, List.drop_eq_nil_of_le hjl]
      simp only [L8, List.append_nil]

theorem Is_s (l : List Int) (hl : l.length < 4294967296) : Spec Tryz.prog 42 [.n false .u64 l, .n false .u64 (L8 l)] (fun o => o = .ret (.b true)) := by
  refine Au [(0, .n false .u64 l), (1, .n false .u64 (L8 l))] rfl Tryz.func42 rfl (zlb rfl) fun Γ hN hds hL hR => ?_
  have hd := Bt 29 hN
  have hm := R6 l
  refine zsr <| zas rfl (hd 4 rfl) <| Aa <| zsr <| zmv rfl (hd 7 rfl) ?_
  refine Ah Tryz.f83 (Af2 l hl) rfl Tryz.func83 rfl rfl (Ab rfl Ad) (.cons .n .nil) (hd 8 rfl) ?_ (fun ch hp => by simp at hp)
  rintro _ ⟨⟩; refine zas rfl (hd 5 rfl) <| Aa <| Ae <| zsr <| zmv rfl (hd 9 rfl) <| Ac (As Oc rfl) (hd 10 rfl) <| zmv rfl (hd 11 rfl) <| Ac (As Oc rfl) (hd 12 rfl) <| Ac (Bo (Ec rfl rfl) (by simp)) (hd 13 rfl) <| Aa <| A1 rfl <| Ai ?_; refine Ae <| zsr <| zmv rfl (hd 14 rfl) <| Ac (As Oc rfl) (hd 15 rfl) <| zmv rfl (hd 16 rfl) <| Aa <| Ap ?_
  refine Bq (G := Nat) (fun i => i ≤ (L8 l).length) (fun i => [(16, .i .i64 (i : Int)), (4, .u), (6, .u), (17, .u), (18, .u), (19, .u), (20, .u), (21, .u), (22, .u), (23, .u), (24, .u), (25, .u), (26, .u), (27, .u), (28, .u)]) (fun _ => _) (fun i => (L8 l).length - i) 0 ?_ ?_ rfl ?_
  · exact Nat.zero_le _
  · exact (.cons rfl (.v9 (.u (.u (.u (.u .nil))))))
  · rintro i hc1; refine zsr <| Ac (Br rfl rfl) (hd 17 rfl) <| Aa <| Ae ?_
    refine Bg rfl (fun h2 => ?_) (fun h2 => ?_)
    · refine Ai <| Ae <| Ap <| zsr <| zmv rfl (hd 18 rfl) <| zas rfl (hd 6 rfl) <| Aa <| Ae <| Bu (n := 9) _ rfl Cg <| Av 0 [2, 3, 8] (Al (Ar rfl) (hd 19 rfl)) rfl <| Av 1 [2, 3, 8] (Al (Ar rfl) (hd 20 rfl)) rfl <| Av 2 [3, 8] (Al (B2 (i := i) Oc rfl rfl (by first | rfl | omega) (by omega)) (hd 21 rfl)) rfl ?_; refine zal 3 (Al (Bw Bj rfl rfl) (hd 22 rfl)) rfl <| Av 4 [6, 7, 8] (Al (Ar rfl) (hd 23 rfl)) rfl <| Av 5 [6, 7, 8] (Al (Ar rfl) (hd 24 rfl)) rfl <| Av 6 [7, 8] (Al (B2 (i := i) Oc rfl rfl (by first | rfl | omega) (by omega)) (hd 25 rfl)) rfl <| zal 7 (Al (Bw Bj rfl rfl) (hd 26 rfl)) rfl <| zal 8 (Al (Bo (Ec rfl rfl) (by simp)) (hd 27 rfl)) rfl <| Bx (by kernel_rfl) <| A1 rfl <| Ai <| Af <| Ac (Aw rfl rfl (Ag (by omega) (by omega))) (hd 28 rfl) <| zmv rfl (hd 16 rfl) <| Aa ?_
      refine ⟨i + 1, ?_, ?_, rfl, A5 29 rfl rfl ?_⟩
      · omega
      · omega
      · exact (.cons rfl (.v9 (.u (.u (.u (.u .nil))))))
    · refine Bh <| zsr <| zas rfl (hd 4 rfl) <| Aa <| Ao ?_
      refine ⟨_, _, (.cons rfl .nil), .b, ?_⟩
      exact rfl


theorem Aie (s : Bool) (l : List Int) (hl : l.length < 1099511627776) : Spec Tryz.prog 101 [.a [.b s, .n false .u64 l]] (fun o => o = .ret (.a [.b (s && decide (0 < ((trm l).length : Int))), .n true .u64 (trm l)])) := by
  refine Au [(0, .a [.b s, .n false .u64 l])] rfl Tryz.func101 rfl (zlb rfl) fun Γ hN hds hL hR => ?_
  have hd := Bt 16 hN
  refine zsr <| A4 (By (id := 0) (n := 2) rfl rfl rfl (by decide) rfl) (hd 1 rfl) <| A4 (At (id := 1) A7 (by decide) rfl (by decide) rfl) (hd 2 rfl) <| Aa <| zsr <| Ac (Bl Cw rfl rfl rfl) (hd 4 rfl) <| Ac (Be D8 rfl rfl rfl) (hd 5 rfl) ?_
  refine Ah Tryz.f66 (E2 l hl) rfl Tryz.func66 rfl rfl (Ab rfl Ad) (.cons .n .nil) (hd 6 rfl) ?_ (fun ch hp => by simp at hp)
  rintro _ ⟨⟩; refine zas rfl (hd 3 rfl) <| Aa <| zsr <| Ac (Bl Dm rfl rfl rfl) (hd 7 rfl) <| Ac (Be Ir rfl rfl rfl) (hd 8 rfl) <| zmv rfl (hd 9 rfl) ?_
  refine H4 9 rfl (fun h1 => ?_) (fun h1 => ?_)
  · refine Ay 9 rfl rfl (Ar rfl) (hd 10 rfl) <| Ay 9 rfl rfl (As Bc rfl) (hd 11 rfl) <| Ay 9 rfl rfl (Ca rfl rfl) (hd 12 rfl) <| Ac (A9 rfl rfl) (hd 13 rfl) <| zmv rfl (hd 14 rfl) <| Ac (Bn (is := [0, 1]) (xs := [.tmp 13, .tmp 14]) A7 C9 rfl (Ab rfl (Ab rfl Ad)) rfl (by first | (simp [B9, cellsV]; done) | (simp [B9, cellsV, old]; done)) (B7 rfl) rfl) (hd 15 rfl) <| A6 (Ak rfl rfl rfl B8 rfl rfl (zlb rfl)) <| Aa <| Ao ?_
    refine ⟨_, _, (.cons (ResV.cell B0 rfl rfl rfl rfl) .nil), (.a1 .b (.a1 .n .a0)), ?_⟩
    simp_all
  · refine Bk 9 rfl rfl rfl (hd 10 rfl) <| Bk 9 rfl rfl rfl (hd 11 rfl) <| Bk 9 rfl rfl rfl (hd 12 rfl) <| Ac (A3 rfl rfl) (hd 13 rfl) <| zmv rfl (hd 14 rfl) <| Ac (Bn (is := [0, 1]) (xs := [.tmp 13, .tmp 14]) A7 C9 rfl (Ab rfl (Ab rfl Ad)) rfl (by first | (simp [B9, cellsV]; done) | (simp [B9, cellsV, old]; done)) (B7 rfl) rfl) (hd 15 rfl) <| A6 (Ak rfl rfl rfl B8 rfl rfl (zlb rfl)) <| Aa <| Ao ?_
    refine ⟨_, _, (.cons (ResV.cell B0 rfl rfl rfl rfl) .nil), (.a1 .b (.a1 .n .a0)), ?_⟩
    simp_all

theorem Of_neg (v : Int) (h0 : v < 0) (h1 : -9223372036854775808 ≤ v) : Spec Tryz.prog 92 [.i .i64 v] (fun o => o = .ret (.a [.b true, .n true .u64 [-v]])) := by
  refine Au [(0, .i .i64 v)] rfl Tryz.func92 rfl (zlb rfl) fun Γ hN hds hL hR => ?_
  have hd := Bt 14 hN
  have rF : Spec Tryz.prog 35 [.i .u64 (-v)] (fun o => o = .ret (.n true .u64 [-v])) := by have h := Hu (-v); rwa [if_neg (by omega)] at h
  refine zsr <| A4 (At (id := 0) A7 (by decide) rfl (by decide) rfl) (hd 2 rfl) <| Aa <| Ae <| zsr <| zmv rfl (hd 3 rfl) <| Ac (Cq (Br rfl rfl) (by omega)) (hd 4 rfl) <| Aa <| B4 rfl <| Ae <| Af ?_; refine zmv rfl (hd 5 rfl) <| Ac (Cv Jx G9 rfl (r := v + 18446744073709551616) (N0 (by omega) (by omega) (by omega))) (hd 6 rfl) <| Ac (I4 rfl (r := -v) (N0 (by omega) (by omega) (by omega))) (hd 7 rfl) ?_
  refine Ah Tryz.f35 (rF) rfl Tryz.func35 rfl rfl (Ab rfl Ad) (.cons .i .nil) (hd 8 rfl) ?_ (fun ch hp => by simp at hp)
  rintro _ ⟨⟩; refine Ac (Bn (is := [0, 1]) (xs := [.const (.bool true), .tmp 8]) A7 C9 rfl (Ab rfl (Ab rfl Ad)) rfl (by first | (simp [B9, cellsV]; done) | (simp [B9, cellsV, old]; done)) (B7 rfl) rfl) (hd 9 rfl) <| A6 (Ak rfl rfl rfl B8 rfl rfl (zlb rfl)) <| Aa <| Ao ?_
  refine ⟨_, _, (.cons (ResV.cell B0 rfl rfl rfl rfl) .nil), (.a1 .b (.a1 .n .a0)), ?_⟩
  exact rfl

theorem Of_pos (v : Int) (h0 : 0 < v) (h1 : v < 9223372036854775808) : Spec Tryz.prog 92 [.i .i64 v] (fun o => o = .ret (.a [.b false, .n true .u64 [v]])) := by
  refine Au [(0, .i .i64 v)] rfl Tryz.func92 rfl (zlb rfl) fun Γ hN hds hL hR => ?_
  have hd := Bt 14 hN
  have rF : Spec Tryz.prog 35 [.i .u64 v] (fun o => o = .ret (.n true .u64 [v])) := by have h := Hu v; rwa [if_neg (by omega)] at h
  refine zsr <| A4 (At (id := 0) A7 (by decide) rfl (by decide) rfl) (hd 2 rfl) <| Aa <| Ae <| zsr <| zmv rfl (hd 3 rfl) <| Ac (Bo (Br rfl rfl) (by omega)) (hd 4 rfl) <| Aa <| A1 rfl <| Ai <| Ae ?_; refine Af <| zmv rfl (hd 10 rfl) <| Ac (Cv Jx G9 rfl (A0 (by omega) (by omega))) (hd 11 rfl) ?_
  refine Ah Tryz.f35 (rF) rfl Tryz.func35 rfl rfl (Ab rfl Ad) (.cons .i .nil) (hd 12 rfl) ?_ (fun ch hp => by simp at hp)
  rintro _ ⟨⟩; refine Ac (Bn (is := [1]) (xs := [.tmp 12]) A7 Jl rfl (Ab rfl Ad) rfl (by first | (simp [B9, cellsV]; done) | (simp [B9, cellsV, old]; done)) (B7 rfl) rfl) (hd 13 rfl) <| A6 (Ak rfl rfl rfl B8 rfl rfl (zlb rfl)) <| Aa <| Ao ?_
  refine ⟨_, _, (.cons (ResV.cell B0 rfl rfl rfl rfl) .nil), (.a1 .b (.a1 .n .a0)), ?_⟩
  exact rfl

set_option maxRecDepth 100000 in
theorem Aag  : Spec Tryz.prog 103 [] (fun o => o = .ret (.a [.f 117 [], .f 118 [], .f 119 [], .f 120 [], .f 122 []])) := by
  refine Au [] rfl Tryz.func103 rfl (zlb rfl) fun Γ hN hds hL hR => ?_
  have hd := Bt 2 hN
  refine zsr <| A4 (At (id := 0) Aci (by decide) rfl (by decide) rfl) (hd 0 rfl) <| Aa <| zsr <| Ac (Hz (v := .agg #[.func (.func 117) #[] #[], .func (.func 118) #[] #[], .func (.func 119) #[] #[], .func (.func 120) #[] #[], .func (.func 122) #[] #[]]) (y := .a [.f 117 [], .f 118 [], .f 119 [], .f 120 [], .f 122 []]) (fun _ _ _ _ => ⟨[.func (.func 117) #[] #[], .func (.func 118) #[] #[], .func (.func 119) #[] #[], .func (.func 120) #[] #[], .func (.func 122) #[] #[]], rfl, _, _, rfl, ⟨[], rfl, rfl⟩, _, _, rfl, ⟨[], rfl, rfl⟩, _, _, rfl, ⟨[], rfl, rfl⟩, _, _, rfl, ⟨[], rfl, rfl⟩, _, _, rfl, ⟨[], rfl, rfl⟩, rfl⟩) (by intro a dst type pos after g w2; kernel_rfl)) (hd 1 rfl) <| A6 (Ak rfl rfl rfl Aha rfl rfl (zlb rfl)) <| Aa <| Ao ?_
  refine ⟨_, _, (.cons (ResV.cell agg102 rfl rfl rfl rfl) .nil), (.a1 .f (.a1 .f (.a1 .f (.a1 .f (.a1 .f .a0))))), ?_⟩
  exact rfl


theorem Q4 (x y : Int) (hx0 : 0 ≤ x) (hx : x < 18446744073709551616) (hy0 : 0 ≤ y) (hy : y < 18446744073709551616) : Spec Tryz.prog 140 [.i .u64 x, .i .u64 y] (fun o => o = .ret (.t [.i .u64 (x * y / 18446744073709551616), .i .u64 (x * y % 18446744073709551616)])) := by
  refine Au [(0, .i .u64 x), (1, .i .u64 y)] rfl Tryz.func140 rfl (zlb rfl) fun Γ hN hds hL hR => ?_
  have hd := Bt 51 hN
  have hM := Vf hx0 hx hy0 hy
  dsimp only at hM
  obtain ⟨b00, b10, b01, b11, hhi⟩ := hM
  refine zsr <| zas rfl (hd 4 rfl) <| zas rfl (hd 5 rfl) <| Aa <| zsr <| zmv rfl (hd 14 rfl) <| Ac (Ba (F1 (by simp) rfl rfl rfl) (show V.i .u64 (F7 .and .u64 (x) 4294967295) = V.i .u64 (x % 4294967296) by rw [W9 hx0 hx])) (hd 15 rfl) <| zas rfl (hd 6 rfl) <| Aa <| Ae <| Af ?_; refine zmv rfl (hd 16 rfl) <| Ac (Ba (D2 rfl rfl (by omega) rfl) (show V.i .u64 _ = V.i .u64 (x / 4294967296) from congrArg _ (P2 hx0))) (hd 17 rfl) <| zas rfl (hd 7 rfl) <| Aa <| zsr <| zmv rfl (hd 18 rfl) <| Ac (Ba (F1 (by simp) rfl rfl rfl) (show V.i .u64 (F7 .and .u64 (y) 4294967295) = V.i .u64 (y % 4294967296) by rw [W9 hy0 hy])) (hd 19 rfl) <| zas rfl (hd 8 rfl) <| Aa <| zsr <| zmv rfl (hd 20 rfl) ?_; refine Ac (Ba (D2 rfl rfl (by omega) rfl) (show V.i .u64 _ = V.i .u64 (y / 4294967296) from congrArg _ (P2 hy0))) (hd 21 rfl) <| zas rfl (hd 9 rfl) <| Aa <| zsr <| zmv rfl (hd 22 rfl) <| zmv rfl (hd 23 rfl) <| Ac (Dg rfl rfl (A0 (by omega) (by omega))) (hd 24 rfl) <| zas rfl (hd 10 rfl) <| Aa <| zsr <| zmv rfl (hd 25 rfl) ?_; refine zmv rfl (hd 26 rfl) <| Ac (Dg rfl rfl (A0 (by omega) (by omega))) (hd 27 rfl) <| zmv rfl (hd 28 rfl) <| Ac (Ba (D2 rfl rfl (by omega) rfl) (show V.i .u64 _ = V.i .u64 (x % 4294967296 * (y % 4294967296) / 4294967296) from congrArg _ (P2 b00.1))) (hd 29 rfl) <| Ac (Aw rfl rfl (A0 (by omega) (by omega))) (hd 30 rfl) <| zas rfl (hd 11 rfl) <| Aa <| zsr <| zmv rfl (hd 31 rfl) <| Ac (Ba (F1 (by simp) rfl rfl rfl) (show V.i .u64 (F7 .and .u64 ((x / 4294967296 * (y % 4294967296) + x % 4294967296 * (y % 4294967296) / 4294967296)) 4294967295) = V.i .u64 ((x / 4294967296 * (y % 4294967296) + x % 4294967296 * (y % 4294967296) / 4294967296) % 4294967296) by rw [W9 (by omega) (by omega)])) (hd 32 rfl) <| zas rfl (hd 12 rfl) <| Aa ?_; refine zsr <| zmv rfl (hd 33 rfl) <| Ac (Ba (D2 rfl rfl (by omega) rfl) (show V.i .u64 _ = V.i .u64 ((x / 4294967296 * (y % 4294967296) + x % 4294967296 * (y % 4294967296) / 4294967296) / 4294967296) from congrArg _ (P2 (by omega)))) (hd 34 rfl) <| zas rfl (hd 13 rfl) <| Aa <| zsr <| zmv rfl (hd 35 rfl) <| zmv rfl (hd 36 rfl) <| zmv rfl (hd 37 rfl) <| Ac (Dg rfl rfl (A0 (by omega) (by omega))) (hd 38 rfl) <| Ac (Aw rfl rfl (A0 (by omega) (by omega))) (hd 39 rfl) ?_; refine zas rfl (hd 12 rfl) <| Aa <| zsr <| zmv rfl (hd 40 rfl) <| zmv rfl (hd 41 rfl) <| Ac (Dg rfl rfl (A0 (by omega) (by omega))) (hd 42 rfl) <| zmv rfl (hd 43 rfl) <| Ac (Aw rfl rfl (A0 (by omega) (by omega))) (hd 44 rfl) <| zmv rfl (hd 45 rfl) <| Ac (Ba (D2 rfl rfl (by omega) rfl) (show V.i .u64 _ = V.i .u64 (((x / 4294967296 * (y % 4294967296) + x % 4294967296 * (y % 4294967296) / 4294967296) % 4294967296 + x % 4294967296 * (y / 4294967296)) / 4294967296) from congrArg _ (P2 (by omega)))) (hd 46 rfl) <| Ac (Aw rfl rfl (A0 (by omega) (by omega))) (hd 47 rfl) ?_
  refine zas rfl (hd 4 rfl) <| Aa <| zsr <| zmv rfl (hd 48 rfl) <| zmv rfl (hd 49 rfl) <| Ac (Dg rfl rfl (r := x * y % 18446744073709551616) Dr) (hd 50 rfl) <| zas rfl (hd 5 rfl) <| Aa <| Ao ?_
  refine ⟨_, _, (.cons rfl (.cons rfl .nil)), (.t1 .i (.t1 .i .t0)), ?_⟩
  rw [hhi]

theorem X9 (a b : List Int) (hla : a.length < 1099511627776) (hlb : b.length < 1099511627776) (ua : Az a) (ub : Az b) : Spec Tryz.prog 145 [.n false .u64 a, .n false .u64 b] (fun o => ∃ r, o = .ret (.n true .u64 r) ∧ Az r ∧ r.length = a.length + b.length ∧ vl r = vl a * vl b) := by
  refine Au [(0, .n false .u64 a), (1, .n false .u64 b)] rfl Tryz.func145 rfl (zlb rfl) fun Γ hN hds hL hR => ?_
  have hd := Bt 78 hN
  refine zsr <| zas rfl (hd 4 rfl) <| Aa <| zsr <| zmv rfl (hd 14 rfl) <| Ac (As Bc rfl) (hd 15 rfl) <| zmv rfl (hd 16 rfl) <| Ac (As Bc rfl) (hd 17 rfl) <| Ac (Aw rfl rfl (r := ((a.length + b.length : Nat) : Int)) (by rw [Ag (by omega) (by omega)]; omega)) (hd 18 rfl) <| A4 (F5 (m := a.length + b.length) Lr rfl rfl rfl (by show 8 * (a.length + b.length) ≤ _; omega) (by unfold maxLen; omega) rfl) (hd 19 rfl) <| zas rfl (hd 5 rfl) ?_; refine Aa <| Ae <| zsr <| zmv rfl (hd 20 rfl) <| Ac (As Bc rfl) (hd 21 rfl) <| zmv rfl (hd 22 rfl) <| Aa <| Ap ?_
  refine Bq (G := Nat × List Int) (fun g => g.1 ≤ a.length ∧ g.2.length = a.length + b.length ∧ Az g.2 ∧ vl g.2 = vk a g.1 * vl b ∧ ∀ j, g.1 + b.length ≤ j → g.2.getD j 0 = 0) (fun g => [(22, .i .i64 (g.1 : Int)), (6, .u), (7, .u), (8, .u), (9, .u), (10, .u), (11, .u), (12, .u), (13, .u), (23, .u), (24, .u), (25, .u), (26, .u), (27, .u), (28, .u), (29, .u), (30, .u), (31, .u), (32, .u), (33, .u), (34, .u), (35, .u), (36, .u), (37, .u), (38, .u), (39, .u), (40, .u), (41, .u), (42, .u), (43, .u), (44, .u), (45, .u), (46, .u), (47, .u), (48, .u), (49, .u), (50, .u), (51, .u), (52, .u), (53, .u), (54, .u), (55, .u), (56, .u), (57, .u), (58, .u), (59, .u), (60, .u), (61, .u), (62, .u), (63, .u), (64, .u), (65, .u), (66, .u), (67, .u), (68, .u), (69, .u), (70, .u), (71, .u), (72, .u), (73, .u), (74, .u), (75, .u), (76, .u)]) (fun g => [⟨71, 1, 0, true, ints .u64 g.2⟩]) (fun g => a.length - g.1) (0, List.replicate (a.length + b.length) 0) ?_ ?_ rfl ?_
  · exact ⟨Nat.zero_le _, List.length_replicate, Hw _, by rw [Hv, Tf, Int.zero_mul], fun j _ => S4 _ j⟩
  · exact (.cons rfl (.v9 (.v9 (.v9 (.v9 (.v9 (.v9 (.u (.u .nil)))))))))
  · rintro ⟨i, r⟩ ⟨hc1, hc2, hc3, hc4, hc5⟩
    dsimp only at hc1 hc2 hc3 hc4 hc5
    have hX := A2 ua i
    refine zsr <| Ac (Br rfl rfl) (hd 23 rfl) <| Aa <| Ae ?_
    refine Bg rfl (fun h1 => ?_) (fun h1 => ?_)
    · refine Ai <| Ae <| Ap <| zsr <| zmv rfl (hd 24 rfl) <| Ac (B2 (i := i) Bc rfl rfl (by first | rfl | omega) (by omega)) (hd 25 rfl) <| Ac (Bw Bj rfl rfl) (hd 26 rfl) <| zas rfl (hd 6 rfl) <| zas rfl (hd 7 rfl) <| Aa <| Ae <| Af ?_; refine zas rfl (hd 8 rfl) <| Aa <| Ae <| zsr <| zmv rfl (hd 27 rfl) <| Ac (As Bc rfl) (hd 28 rfl) <| zmv rfl (hd 29 rfl) <| Aa <| Ap ?_
      refine Bq (G := Nat × List Int × Int) (fun g => g.1 ≤ b.length ∧ g.2.1.length = a.length + b.length ∧ Az g.2.1 ∧ (0 ≤ g.2.2 ∧ g.2.2 < 18446744073709551616) ∧ vl g.2.1 + g.2.2 * pB (i + g.1) = vl r + a.getD i 0 * pB i * vk b g.1 ∧ ∀ j, i + b.length ≤ j → g.2.1.getD j 0 = 0) (fun g => [(8, .i .u64 g.2.2), (29, .i .i64 (g.1 : Int)), (9, .u), (10, .u), (11, .u), (12, .u), (13, .u), (30, .u), (31, .u), (32, .u), (33, .u), (34, .u), (35, .u), (36, .u), (37, .u), (38, .u), (39, .u), (40, .u), (41, .u), (42, .u), (43, .u), (44, .u), (45, .u), (46, .u), (47, .u), (48, .u), (49, .u), (50, .u), (51, .u), (52, .u), (53, .u), (54, .u), (55, .u), (56, .u), (57, .u), (58, .u), (59, .u), (60, .u), (61, .u), (62, .u), (63, .u), (64, .u), (65, .u), (66, .u), (67, .u), (68, .u)]) (fun g => [⟨71, 1, 0, true, ints .u64 g.2.1⟩]) (fun g => b.length - g.1) (0, r, 0) ?_ ?_ rfl ?_
      · exact ⟨Nat.zero_le _, hc2, hc3, ⟨Int.le_refl 0, by show (0 : Int) < _; decide⟩, by show vl r + 0 * _ = _ + _ * vk b 0; rw [Tf, Int.mul_zero, Int.zero_mul], hc5⟩
      · exact (.cons rfl (.cons rfl (.v9 (.v9 (.v9 (.v9 (.u (.u (.u (.u .nil))))))))))
      · rintro ⟨k, q, c⟩ ⟨hd1, hd2, hd3, hd4, hd5, hd6⟩
        dsimp only at hd1 hd2 hd3 hd4 hd5 hd6
        have hY := A2 ub k
        have hT := A2 hd3 (i + k)
        have hP := Jz (m := 18446744073709551615) hX.1 hY.1 (by omega) (by omega)
        have hP2 : a.getD i 0 * b.getD k 0 ≤ 340282366920938463426481119284349108225 := by have := hP.2; simpa using this
        have hst := P4 (P := a.getD i 0 * b.getD k 0) (c := c) (t := q.getD (i + k) 0) hP.1 hP2 hd4.1 hd4.2 hT.1 hT.2
        obtain ⟨hs1, hs2, hs3, hs4, hs5⟩ := hst
        refine zsr <| Ac (Br rfl rfl) (hd 30 rfl) <| Aa <| Ae ?_
        refine Bg rfl (fun h2 => ?_) (fun h2 => ?_)
        · refine Ai <| Ae <| Ap <| zsr <| zmv rfl (hd 31 rfl) <| Ac (B2 (i := k) Bc rfl rfl (by first | rfl | omega) (by omega)) (hd 32 rfl) <| Ac (Bw Bj rfl rfl) (hd 33 rfl) <| zas rfl (hd 9 rfl) <| zas rfl (hd 10 rfl) <| Aa <| Ae <| Af ?_; refine zmv rfl (hd 35 rfl) <| zmv rfl (hd 36 rfl) ?_
          refine Ah Tryz.f140 (Q4 (a.getD i 0) (b.getD k 0) hX.1 hX.2 hY.1 hY.2) rfl Tryz.func140 rfl rfl (Ab rfl (Ab rfl Ad)) (.cons .i (.cons .i .nil)) (hd 37 rfl) ?_ (fun ch hp => by simp at hp)
          rintro _ ⟨⟩; refine zmv rfl (hd 34 rfl) <| Ac (Am rfl rfl) (hd 38 rfl) <| Ac (Am rfl rfl) (hd 39 rfl) <| zas rfl (hd 11 rfl) <| zas rfl (hd 12 rfl) <| Aa <| zsr <| zas rfl (hd 13 rfl) <| Aa <| zsr <| zmv rfl (hd 41 rfl) ?_; refine zmv rfl (hd 42 rfl) <| A4 (El (e := add64Entry) Tryz.func123 rfl rfl (by kernel_rfl) (by kernel_rfl) rfl rfl rfl (fun w => run_add64 _ _ _ (by omega) hd4.1 (by decide) (by decide) w) Du) (hd 43 rfl) <| zmv rfl (hd 40 rfl) <| Ac (Am rfl rfl) (hd 44 rfl) <| Ac (Am rfl rfl) (hd 45 rfl) <| zas rfl (hd 12 rfl) <| zas rfl (hd 13 rfl) <| Aa <| zsr <| zmv rfl (hd 46 rfl) <| zmv rfl (hd 47 rfl) <| Ac (Aw rfl rfl (A0 (by omega) (by omega))) (hd 48 rfl) ?_; refine zas rfl (hd 11 rfl) <| Aa <| zsr <| zmv rfl (hd 50 rfl) <| zmv rfl (hd 51 rfl) <| zmv rfl (hd 52 rfl) <| Ac (Aw rfl rfl (r := ((i + k : Nat) : Int)) (by rw [Ag (by omega) (by omega)]; omega)) (hd 53 rfl) <| zmv rfl (hd 54 rfl) <| zmv rfl (hd 55 rfl) <| zmv rfl (hd 56 rfl) <| Ac (Aw rfl rfl (r := ((i + k : Nat) : Int)) (by rw [Ag (by omega) (by omega)]; omega)) (hd 57 rfl) <| Ac (Cd (i := i + k) Bc rfl rfl rfl (by first | rfl | omega) (by omega) rfl) (hd 58 rfl) ?_; refine Ac (Ba (D3 Bj rfl rfl (by dsimp only; omega)) (show V.i .u64 (q.getD ((0 + (i + k)) * 1) 0) = V.i .u64 (q.getD (i + k) 0) by rw [Nat.zero_add, Nat.mul_one])) (hd 59 rfl) <| zmv rfl (hd 60 rfl) <| A4 (El (e := add64Entry) Tryz.func123 rfl rfl (by kernel_rfl) (by kernel_rfl) rfl rfl rfl (fun w => run_add64 _ _ _ hT.1 (by omega) (by decide) (by decide) w) Du) (hd 61 rfl) <| zmv rfl (hd 49 rfl) <| Ac (Am rfl rfl) (hd 62 rfl) <| Ac (Am rfl rfl) (hd 63 rfl) <| Ac (Cd (i := i + k) Bc rfl rfl rfl (by first | rfl | omega) (by omega) rfl) (hd 64 rfl) <| A6 (B3 rfl rfl rfl Bj (by dsimp only; omega)) <| zas rfl (hd 13 rfl) <| Aa <| Af <| zmv rfl (hd 65 rfl) <| zmv rfl (hd 66 rfl) ?_; refine Ac (Aw rfl rfl (A0 (by omega) (by omega))) (hd 67 rfl) <| zas rfl (hd 8 rfl) <| Aa <| Af <| Ac (Aw rfl rfl (Ag (by omega) (by omega))) (hd 68 rfl) <| zmv rfl (hd 29 rfl) <| Aa ?_
          refine ⟨(k + 1, q.set ((0 + (i + k)) * 1) ((q.getD (i + k) 0 + (a.getD i 0 * b.getD k 0 % 18446744073709551616 + c + 0) % 18446744073709551616 + 0) % 18446744073709551616), a.getD i 0 * b.getD k 0 / 18446744073709551616 + (a.getD i 0 * b.getD k 0 % 18446744073709551616 + c + 0) / 18446744073709551616 + (q.getD (i + k) 0 + (a.getD i 0 * b.getD k 0 % 18446744073709551616 + c + 0) % 18446744073709551616 + 0) / 18446744073709551616), ?_, ?_, rfl, A5 96 rfl rfl ?_⟩
          · refine ⟨by omega, by rw [List.length_set]; exact hd2, J8 hd3 (by omega) (by omega), ⟨hs3, hs4⟩, ?_, fun j hj => ?_⟩
            · exact Oe (by omega) (by rw [Nat.zero_add, Nat.mul_one]) rfl hd5 hs5
            · rw [Nat.zero_add, Nat.mul_one, Sb (by omega)]; exact hd6 j hj
          · show b.length - (k + 1) < b.length - k
            omega
          · exact (.cons rfl (.cons rfl (.v9 (.v9 (.v9 (.v9 (.u (.u (.u (.u .nil))))))))))
        · obtain rfl : k = b.length := by omega
          refine Bh <| Af <| zmv rfl (hd 69 rfl) <| zmv rfl (hd 70 rfl) <| zmv rfl (hd 71 rfl) <| Ac (As Bc rfl) (hd 72 rfl) <| Ac (Aw rfl rfl (r := ((i + b.length : Nat) : Int)) (by rw [Ag (by omega) (by omega)]; omega)) (hd 73 rfl) <| zmv rfl (hd 74 rfl) <| Ac (Cd (i := i + b.length) Bc rfl rfl rfl (by first | rfl | omega) (by omega) rfl) (hd 75 rfl) <| A6 (B3 rfl rfl rfl Bj (by dsimp only; omega)) <| Aa <| Af <| Ac (Aw rfl rfl (Ag (by omega) (by omega))) (hd 76 rfl) ?_; refine zmv rfl (hd 22 rfl) <| Aa ?_
          refine ⟨(i + 1, q.set ((0 + (i + b.length)) * 1) c), ?_, ?_, rfl, A5 129 (by kernel_rfl) (by kernel_rfl) ?_⟩
          · exact ⟨by omega, by rw [List.length_set]; exact hd2, J8 hd3 hd4.1 hd4.2, Lx (by omega) (hd6 _ (Nat.le_refl _)) (by rw [Nat.zero_add, Nat.mul_one]) (by rw [hd5, hc4]), fun j hj => by rw [Nat.zero_add, Nat.mul_one, Sb (by omega)]; exact hd6 j (by omega)⟩
          · show a.length - (i + 1) < a.length - i
            omega
          · exact (.cons rfl (.v9 (.v9 (.v9 (.v9 (.v9 (.v9 (.u (.u .nil)))))))))
    · refine Bh <| zsr <| zmv rfl (hd 77 rfl) <| zas rfl (hd 4 rfl) <| Aa <| Ao ?_
      refine ⟨_, _, (.cons rfl .nil), (.o (l := r) rfl (by omega) rfl), ?_⟩
      rw [List.drop_zero, List.take_of_length_le (by omega)]
      exact ⟨r, rfl, hc3, hc2, by rw [hc4, Dq (by omega)]⟩

theorem Jt (r b : List Int) (n at_ : Nat) (hr : r.length = n) (hn : n < 4398046511104) (hat : at_ < 4398046511104) (hlb : b.length < 4398046511104) (ur : Az r) (ub : Az b) (hfit : vl r + pB at_ * vl b < pB n) : SpecM Tryz.prog 146 [.o 0 0 0 n, .n false .u64 b, .i .i64 (at_ : Int)] ([⟨71, 1, 0, true, ints .u64 r⟩]) (fun o H' => o = .ret (.t []) ∧ ∃ r2, H' = [⟨71, 1, 0, true, ints .u64 r2⟩] ∧ r2.length = n ∧ Az r2 ∧ vl r2 = vl r + pB at_ * vl b) := by
  refine Mo [(0, .o 0 0 0 n), (1, .n false .u64 b), (2, .i .i64 (at_ : Int))] rfl (1) rfl Tryz.func146 rfl (zlb rfl) fun Γ hN hds => ?_
  have hd := Bt 53 hN
  refine zsr <| zas rfl (hd 6 rfl) <| Aa <| zsr <| zmv rfl (hd 9 rfl) <| zas rfl (hd 7 rfl) <| Aa <| Ap ?_
  refine Bq (G := Nat × List Int × Int) (fun g => at_ ≤ g.1 ∧ g.1 ≤ n + at_ ∧ g.2.1.length = n ∧ Az g.2.1 ∧ vl g.2.1 + g.2.2 * pB g.1 = vl r + pB at_ * vk b (g.1 - at_) ∧ 0 ≤ g.2.2 ∧ g.2.2 ≤ 1) (fun g => [(6, .i .u64 g.2.2), (7, .i .i64 (g.1 : Int)), (8, .u), (10, .u), (11, .u), (12, .u), (13, .u), (14, .u), (15, .u), (16, .u), (17, .u), (18, .u), (19, .u), (20, .u), (21, .u), (22, .u), (23, .u), (24, .u), (25, .u), (26, .u), (27, .u), (28, .u), (29, .u), (30, .u), (31, .u), (32, .u), (33, .u), (34, .u), (35, .u), (36, .u), (37, .u), (38, .u), (39, .u), (40, .u), (41, .u), (42, .u), (43, .u), (44, .u), (45, .u), (46, .u), (47, .u), (48, .u), (49, .u), (50, .u), (51, .u), (52, .u)]) (fun g => [⟨71, 1, 0, true, ints .u64 g.2.1⟩]) (fun g => n - g.1) (at_, r, 0) ?_ ?_ rfl ?_
  · exact ⟨Nat.le_refl _, by show at_ ≤ n + at_; omega, hr, ur, by show vl r + 0 * _ = _ + _ * vk b (at_ - at_); rw [Nat.sub_self, Tf, Int.mul_zero, Int.zero_mul], Int.le_refl 0, (by decide : (0 : Int) ≤ 1)⟩
  · exact (.cons rfl (.cons rfl (.v9 (.v9 (.v9 (.v9 (.u (.u (.u (.u .nil))))))))))
  · rintro ⟨i, q, c⟩ ⟨hc1, hc0, hc3, hc4, hc5, hc6, hc7⟩
    dsimp only at hc1 hc0 hc3 hc4 hc5 hc6 hc7
    have hT := A2 hc4 i
    have hY := A2 ub (i - at_)
    refine Ae <| zsr <| zmv rfl (hd 10 rfl) <| zmv rfl (hd 11 rfl) <| Ac (C6 Bc rfl rfl) (hd 12 rfl) <| Ac (Br rfl rfl) (hd 13 rfl) <| zmv rfl (hd 14 rfl) ?_
    refine D4 14 rfl (fun h1 => ?_) (fun h1 => ?_)
    · refine Ay 14 rfl rfl (Ar rfl) (hd 15 rfl) <| Ay 14 rfl rfl (Ar rfl) (hd 16 rfl) <| Ay 14 rfl rfl (Bd rfl rfl (r := ((i - at_ : Nat) : Int)) (by rw [Ag (by omega) (by omega)]; omega)) (hd 17 rfl) <| Ay 14 rfl rfl (Ar rfl) (hd 18 rfl) <| Ay 14 rfl rfl (As Bc rfl) (hd 19 rfl) <| Ay 14 rfl rfl (Br rfl rfl) (hd 20 rfl) <| Ay 14 rfl rfl (Ar rfl) (hd 21 rfl) ?_
      refine D4 21 rfl (fun h2 => ?_) (fun h2 => ?_)
      · refine Bk 21 rfl rfl rfl (hd 22 rfl) <| Bk 21 rfl rfl rfl (hd 23 rfl) <| Ay 14 rfl rfl (A9 rfl rfl) (hd 24 rfl) <| Ac (A9 rfl rfl) (hd 25 rfl) <| Aa <| B4 rfl <| Ai <| Ae <| Ap <| zsr <| zas rfl (hd 8 rfl) <| Aa ?_
        refine Ce (G := Unit) (fun _ => True) (fun _ => [(8, .i .u64 (b.getD (i - at_) 0)), (28, .u), (29, .u), (30, .u), (31, .u), (32, .u), (33, .u), (34, .u), (35, .u), (36, .u), (37, .u), (38, .u), (39, .u)]) ?_ ?_
        · refine zsr <| zmv rfl (hd 28 rfl) <| zmv rfl (hd 29 rfl) <| Ac (Bd rfl rfl (r := ((i - at_ : Nat) : Int)) (by rw [Ag (by omega) (by omega)]; omega)) (hd 30 rfl) <| zmv rfl (hd 31 rfl) <| Ac (As Bc rfl) (hd 32 rfl) <| Ac (Br rfl rfl) (hd 33 rfl) <| Aa ?_
          refine Bg rfl (fun h4 => ?_) (fun h4 => ?_)
          · refine Af <| zmv rfl (hd 34 rfl) <| zmv rfl (hd 35 rfl) <| zmv rfl (hd 36 rfl) <| Ac (Bd rfl rfl (r := ((i - at_ : Nat) : Int)) (by rw [Ag (by omega) (by omega)]; omega)) (hd 37 rfl) <| Ac (B2 (i := i - at_) Bc rfl rfl (by first | rfl | omega) (by first | omega | (dsimp only; omega))) (hd 38 rfl) <| Ac (Bw Bj rfl rfl) (hd 39 rfl) <| zas rfl (hd 8 rfl) <| Aa ?_
            refine ⟨(), ?_, rfl, A5 13 rfl rfl ?_⟩
            · trivial
            · exact (.cons (by first | rfl | (show some (V.i .u64 _) = some (V.i .u64 _); rw [Dw (by omega)])) (.v9 (.u (.u .nil))))
          · refine Ai ?_
            refine ⟨(), ?_, rfl, A5 6 rfl rfl ?_⟩
            · trivial
            · exact (.cons (by first | rfl | (show some (V.i .u64 _) = some (V.i .u64 _); rw [Dw (by omega)])) (.v9 (.u (.u .nil))))
        · rintro _ _; refine Af <| zmv rfl (hd 41 rfl) <| zmv rfl (hd 42 rfl) <| zmv rfl (hd 43 rfl) <| zmv rfl (hd 44 rfl) <| Ac (Cd (i := i) Bc rfl rfl rfl (by first | rfl | omega) (by first | omega | (dsimp only; omega)) rfl) (hd 45 rfl) <| Ac (Ba (D3 Bj rfl rfl (by first | omega | (dsimp only; omega))) (show V.i .u64 (q.getD ((0 + i) * 1) 0) = V.i .u64 (q.getD i 0) by rw [Nat.zero_add, Nat.mul_one])) (hd 46 rfl) <| zmv rfl (hd 47 rfl) <| zmv rfl (hd 48 rfl) <| A4 (El (e := add64Entry) Tryz.func123 rfl rfl (by kernel_rfl) (by kernel_rfl) rfl rfl rfl (fun w => run_add64 _ _ _ hT.1 hY.1 hc6 hc7 w) Du) (hd 49 rfl) <| zmv rfl (hd 40 rfl) <| Ac (Am rfl rfl) (hd 50 rfl) <| Ac (Am rfl rfl) (hd 51 rfl) ?_; refine Ac (Cd (i := i) Bc rfl rfl rfl (by first | rfl | omega) (by first | omega | (dsimp only; omega)) rfl) (hd 52 rfl) <| A6 (B3 rfl rfl rfl Bj (by first | omega | (dsimp only; omega))) <| zas rfl (hd 6 rfl) <| Aa <| Af <| zmv rfl (hd 26 rfl) <| Ac (Aw rfl rfl (Ag (by first | omega | (dsimp only; omega)) (by first | omega | (dsimp only; omega)))) (hd 27 rfl) <| zas rfl (hd 7 rfl) <| Aa ?_
          refine ⟨(i + 1, q.set ((0 + i) * 1) ((q.getD i 0 + b.getD (i - at_) 0 + c) % 18446744073709551616), (q.getD i 0 + b.getD (i - at_) 0 + c) / 18446744073709551616), ?_, ?_, rfl, A5 95 rfl rfl ?_⟩
          · exact ⟨by omega, by omega, by rw [List.length_set]; exact hc3, J8 hc4 (by omega) (by omega), Acd (by omega) hc1 (by rw [Nat.zero_add, Nat.mul_one]) hc5 (by dsimp only; omega), by show 0 ≤ (q.getD i 0 + b.getD (i - at_) 0 + c) / 18446744073709551616; omega, by show (q.getD i 0 + b.getD (i - at_) 0 + c) / 18446744073709551616 ≤ 1; omega⟩
          · show n - (i + 1) < n - i
            omega
          · exact (.cons rfl (.cons rfl (.v9 (.v9 (.v9 (.v9 (.u (.u (.u (.u .nil))))))))))
      · refine Ay 21 rfl rfl (Ar rfl) (hd 22 rfl) <| Ay 21 rfl rfl (Ca rfl rfl) (hd 23 rfl) <| Ay 14 rfl rfl (A3 rfl rfl) (hd 24 rfl) <| Ac (A9 rfl rfl) (hd 25 rfl) <| Aa ?_
        refine Bg rfl (fun h5 => ?_) (fun h5 => ?_)
        · refine Ai <| Ae <| Ap <| zsr <| zas rfl (hd 8 rfl) <| Aa ?_
          refine Ce (G := Unit) (fun _ => True) (fun _ => [(8, .i .u64 (b.getD (i - at_) 0)), (28, .u), (29, .u), (30, .u), (31, .u), (32, .u), (33, .u), (34, .u), (35, .u), (36, .u), (37, .u), (38, .u), (39, .u)]) ?_ ?_
          · refine zsr <| zmv rfl (hd 28 rfl) <| zmv rfl (hd 29 rfl) <| Ac (Bd rfl rfl (r := ((i - at_ : Nat) : Int)) (by rw [Ag (by omega) (by omega)]; omega)) (hd 30 rfl) <| zmv rfl (hd 31 rfl) <| Ac (As Bc rfl) (hd 32 rfl) <| Ac (Br rfl rfl) (hd 33 rfl) <| Aa ?_
            refine Bg rfl (fun h6 => ?_) (fun h6 => ?_)
            · refine Af <| zmv rfl (hd 34 rfl) <| zmv rfl (hd 35 rfl) <| zmv rfl (hd 36 rfl) <| Ac (Bd rfl rfl (r := ((i - at_ : Nat) : Int)) (by rw [Ag (by omega) (by omega)]; omega)) (hd 37 rfl) <| Ac (B2 (i := i - at_) Bc rfl rfl (by first | rfl | omega) (by first | omega | (dsimp only; omega))) (hd 38 rfl) <| Ac (Bw Bj rfl rfl) (hd 39 rfl) <| zas rfl (hd 8 rfl) <| Aa ?_
              refine ⟨(), ?_, rfl, A5 13 rfl rfl ?_⟩
              · trivial
              · exact (.cons (by first | rfl | (show some (V.i .u64 _) = some (V.i .u64 _); rw [Dw (by omega)])) (.v9 (.u (.u .nil))))
            · refine Ai ?_
              refine ⟨(), ?_, rfl, A5 6 rfl rfl ?_⟩
              · trivial
              · exact (.cons (by first | rfl | (show some (V.i .u64 _) = some (V.i .u64 _); rw [Dw (by omega)])) (.v9 (.u (.u .nil))))
          · rintro _ _; refine Af <| zmv rfl (hd 41 rfl) <| zmv rfl (hd 42 rfl) <| zmv rfl (hd 43 rfl) <| zmv rfl (hd 44 rfl) <| Ac (Cd (i := i) Bc rfl rfl rfl (by first | rfl | omega) (by first | omega | (dsimp only; omega)) rfl) (hd 45 rfl) <| Ac (Ba (D3 Bj rfl rfl (by first | omega | (dsimp only; omega))) (show V.i .u64 (q.getD ((0 + i) * 1) 0) = V.i .u64 (q.getD i 0) by rw [Nat.zero_add, Nat.mul_one])) (hd 46 rfl) <| zmv rfl (hd 47 rfl) <| zmv rfl (hd 48 rfl) <| A4 (El (e := add64Entry) Tryz.func123 rfl rfl (by kernel_rfl) (by kernel_rfl) rfl rfl rfl (fun w => run_add64 _ _ _ hT.1 hY.1 hc6 hc7 w) Du) (hd 49 rfl) <| zmv rfl (hd 40 rfl) <| Ac (Am rfl rfl) (hd 50 rfl) <| Ac (Am rfl rfl) (hd 51 rfl) ?_; refine Ac (Cd (i := i) Bc rfl rfl rfl (by first | rfl | omega) (by first | omega | (dsimp only; omega)) rfl) (hd 52 rfl) <| A6 (B3 rfl rfl rfl Bj (by first | omega | (dsimp only; omega))) <| zas rfl (hd 6 rfl) <| Aa <| Af <| zmv rfl (hd 26 rfl) <| Ac (Aw rfl rfl (Ag (by first | omega | (dsimp only; omega)) (by first | omega | (dsimp only; omega)))) (hd 27 rfl) <| zas rfl (hd 7 rfl) <| Aa ?_
            refine ⟨(i + 1, q.set ((0 + i) * 1) ((q.getD i 0 + b.getD (i - at_) 0 + c) % 18446744073709551616), (q.getD i 0 + b.getD (i - at_) 0 + c) / 18446744073709551616), ?_, ?_, rfl, A5 95 rfl rfl ?_⟩
            · exact ⟨by omega, by omega, by rw [List.length_set]; exact hc3, J8 hc4 (by omega) (by omega), Acd (by omega) hc1 (by rw [Nat.zero_add, Nat.mul_one]) hc5 (by dsimp only; omega), by show 0 ≤ (q.getD i 0 + b.getD (i - at_) 0 + c) / 18446744073709551616; omega, by show (q.getD i 0 + b.getD (i - at_) 0 + c) / 18446744073709551616 ≤ 1; omega⟩
            · show n - (i + 1) < n - i
              omega
            · exact (.cons rfl (.cons rfl (.v9 (.v9 (.v9 (.v9 (.u (.u (.u (.u .nil))))))))))
        · refine Bh ?_
          refine ⟨_, .nil, rfl, (.cons A8 .nil), ?_⟩
          exact ⟨rfl, q, rfl, hc3, hc4, Xb hc4 ur ub hc6 hc1 hfit (by dsimp only at *; first | (left; omega) | (right; omega)) hc5⟩
    · refine Bk 14 rfl rfl rfl (hd 15 rfl) <| Bk 14 rfl rfl rfl (hd 16 rfl) <| Bk 14 rfl rfl rfl (hd 17 rfl) <| Bk 14 rfl rfl rfl (hd 18 rfl) <| Bk 14 rfl rfl rfl (hd 19 rfl) <| Bk 14 rfl rfl rfl (hd 20 rfl) <| Bk 14 rfl rfl rfl (hd 21 rfl) <| In 21 rfl rfl (hd 22 rfl) <| In 21 rfl rfl (hd 23 rfl) <| Bk 14 rfl rfl rfl (hd 24 rfl) <| Ac (A3 rfl rfl) (hd 25 rfl) <| Aa <| A1 rfl ?_; refine Bh ?_
      refine ⟨_, .nil, rfl, (.cons A8 .nil), ?_⟩
      exact ⟨rfl, q, rfl, hc3, hc4, Xb hc4 ur ub hc6 hc1 hfit (by dsimp only at *; first | (left; omega) | (right; omega)) hc5⟩

theorem Ag2 (a b : List Int) (hla : a.length < 1099511627776) (hlb : b.length < 1099511627776) (ua : Az a) (ub : Az b) : Spec Tryz.prog 149 [.n false .u64 a, .n false .u64 b] (fun o => ∃ r, o = .ret (.n true .u64 r) ∧ Az r ∧ r.length = max a.length b.length + 1 ∧ vl r = vl a + vl b) := by
  refine Au [(0, .n false .u64 a), (1, .n false .u64 b)] rfl Tryz.func149 rfl (zlb rfl) fun Γ hN hds hL hR => ?_
  have hd := Bt 20 hN
  have hl0 : (a ++ (List.replicate (max a.length b.length + 1) 0).drop a.length).length = max a.length b.length + 1 := by simp; omega
  have hv0 : vl (a ++ (List.replicate (max a.length b.length + 1) (0 : Int)).drop a.length) = vl a := by rw [D5, List.drop_replicate, Hv, Int.mul_zero, Int.add_zero]
  have hfa := E4 ua
  have hfb := E4 ub
  have hpa := Fz (show a.length ≤ max a.length b.length by omega)
  have hpb := Fz (show b.length ≤ max a.length b.length by omega)
  have hpp := Dd (max a.length b.length)
  refine zsr <| zas rfl (hd 4 rfl) <| Aa <| zsr <| zmv rfl (hd 6 rfl) <| Ac (As Bc rfl) (hd 7 rfl) <| zmv rfl (hd 8 rfl) <| Ac (As Bc rfl) (hd 9 rfl) <| Ac (Ain rfl rfl) (hd 10 rfl) <| Ac (Aw rfl rfl (r := ((max a.length b.length + 1 : Nat) : Int)) (by rw [Ag (by omega) (by omega)]; omega)) (hd 11 rfl) <| A4 (F5 (m := max a.length b.length + 1) Lr rfl rfl rfl (by show 8 * (max a.length b.length + 1) ≤ _; omega) (by unfold maxLen; omega) rfl) (hd 12 rfl) ?_; refine zas rfl (hd 5 rfl) <| Aa <| zsr <| zmv rfl (hd 13 rfl) <| zmv rfl (hd 14 rfl) <| Vx Tq Aa0 rfl rfl List.length_replicate rfl (by omega) (hd 15 rfl) <| Aa <| zsr <| zmv rfl (hd 16 rfl) <| zmv rfl (hd 17 rfl) ?_
  refine G1 Tryz.f146 (Jt (a ++ (List.replicate (max a.length b.length + 1) 0).drop a.length) b (max a.length b.length + 1) 0 hl0 (by omega) (by omega) (by omega) (Mk ua (Fe (Hw _) _)) ub (by rw [hv0]; simp only [pB, Int.one_mul]; have : Bs = 18446744073709551616 := rfl; rw [this]; omega)) rfl Tryz.func146 rfl rfl (Ab rfl (Ab rfl (Ab rfl Ad))) (.cons (.same rfl) (.cons .n (.cons (.same rfl) .nil))) (C8 Et Dx) (hd 18 rfl) ?_ (fun ch H2 hp => by simp at hp)
  rintro y H2 ⟨hy, r2, rfl, hl2, hu2, hv2⟩; injection hy with hy; subst hy; refine Aa <| zsr <| zmv rfl (hd 19 rfl) <| zas rfl (hd 4 rfl) <| Aa <| Ao ?_
  refine ⟨_, _, (.cons rfl .nil), (.o (l := r2) rfl (by omega) rfl), ?_⟩
  rw [List.drop_zero, List.take_of_length_le (by omega)]
  exact ⟨r2, rfl, hu2, hl2, by rw [hv2, hv0]; simp only [pB, Int.one_mul]⟩

theorem Abs (a b : List Int) (hla : a.length < 1099511627776) (hlb : b.length < 1099511627776) (ua : Az a) (ub : Az b) (hle : vl b ≤ vl a) : Spec Tryz.prog 148 [.n false .u64 a, .n false .u64 b] (fun o => ∃ r, o = .ret (.n true .u64 r) ∧ Az r ∧ r.length = a.length ∧ vl r = vl a - vl b) := by
  refine Au [(0, .n false .u64 a), (1, .n false .u64 b)] rfl Tryz.func148 rfl (zlb rfl) fun Γ hN hds hL hR => ?_
  have hd := Bt 43 hN
  refine zsr <| zas rfl (hd 4 rfl) <| Aa <| zsr <| zmv rfl (hd 9 rfl) <| Ac (As Bc rfl) (hd 10 rfl) <| A4 (F5 (m := a.length) Lr rfl rfl rfl (by show 8 * a.length ≤ _; omega) (by unfold maxLen; omega) rfl) (hd 11 rfl) <| zas rfl (hd 5 rfl) <| Aa <| Ae <| Af ?_; refine zmv rfl (hd 12 rfl) <| zmv rfl (hd 13 rfl) <| Vx Tq Aa0 rfl rfl List.length_replicate rfl (Nat.le_refl _) (hd 14 rfl) <| Aa <| zsr <| zas rfl (hd 6 rfl) <| Aa <| Ae <| Ae <| Lo (H' := [⟨71, 1, 0, true, ints .u64 ((sbN a b 0).1 ++ a.drop 0)⟩]) (by show [(⟨71, 1, 0, true, ints .u64 (a ++ (List.replicate a.length 0).drop a.length)⟩ : Ob)] = _; rw [List.drop_eq_nil_of_le (by simp), List.append_nil]; rfl) <| Af <| zmv rfl (hd 15 rfl) ?_; refine Ac (C6 Bc rfl rfl) (hd 16 rfl) <| zmv rfl (hd 17 rfl) <| Aa <| Ap ?_
  refine Bq (G := Nat) (fun i => i ≤ a.length) (fun i => [(6, .i .u64 (sbN a b i).2), (17, .i .i64 (i : Int)), (7, .u), (8, .u), (18, .u), (19, .u), (20, .u), (21, .u), (22, .u), (23, .u), (24, .u), (25, .u), (26, .u), (27, .u), (28, .u), (29, .u), (30, .u), (31, .u), (32, .u), (33, .u), (34, .u), (35, .u), (36, .u), (37, .u), (38, .u), (39, .u), (40, .u), (41, .u)]) (fun i => [⟨71, 1, 0, true, ints .u64 ((sbN a b i).1 ++ a.drop i)⟩]) (fun i => a.length - i) 0 ?_ ?_ rfl ?_
  · exact Nat.zero_le _
  · exact (.cons rfl (.cons rfl (.v9 (.v9 (.v5 (.u .nil))))))
  · rintro i hc1
    have hf := Ac2 (b := b) hc1
    have hc := Ug a b i
    have hx := A2 ua i
    have hy := A2 ub i
    refine zsr <| Ac (Br rfl rfl) (hd 18 rfl) <| Aa <| Ae ?_
    refine Bg rfl (fun h1 => ?_) (fun h1 => ?_)
    · refine Ai <| Ae <| Ap <| zsr <| zmv rfl (hd 19 rfl) <| zas rfl (hd 7 rfl) <| Aa <| zsr <| zas rfl (hd 8 rfl) <| Aa ?_
      refine Ce (G := Unit) (fun _ => True) (fun _ => [(8, .i .u64 (b.getD i 0)), (20, .u), (21, .u), (22, .u), (23, .u), (24, .u), (25, .u), (26, .u), (27, .u)]) ?_ ?_
      · refine zsr <| zmv rfl (hd 20 rfl) <| zmv rfl (hd 21 rfl) <| Ac (As Bc rfl) (hd 22 rfl) <| Ac (Br rfl rfl) (hd 23 rfl) <| Aa ?_
        refine Bg rfl (fun h2 => ?_) (fun h2 => ?_)
        · refine Af <| zmv rfl (hd 24 rfl) <| zmv rfl (hd 25 rfl) <| Ac (B2 (i := i) Bc rfl rfl (by first | rfl | omega) (by omega)) (hd 26 rfl) <| Ac (Bw Bj rfl rfl) (hd 27 rfl) <| zas rfl (hd 8 rfl) <| Aa ?_
          refine ⟨(), ?_, rfl, A5 9 rfl rfl ?_⟩
          · trivial
          · exact (.cons (by first | rfl | (show some (V.i .u64 _) = some (V.i .u64 _); rw [Dw (by omega)])) (.v5 (.u (.u (.u .nil)))))
        · refine Ai ?_
          refine ⟨(), ?_, rfl, A5 4 rfl rfl ?_⟩
          · trivial
          · exact (.cons (by first | rfl | (show some (V.i .u64 _) = some (V.i .u64 _); rw [Dw (by omega)])) (.v5 (.u (.u (.u .nil)))))
      · rintro _ _; refine Af <| zmv rfl (hd 29 rfl) <| zmv rfl (hd 30 rfl) <| zmv rfl (hd 31 rfl) <| zmv rfl (hd 32 rfl) <| Ac (Cd (i := i) Bc rfl rfl rfl (by first | rfl | omega) (by omega) rfl) (hd 33 rfl) <| Ac (Ba (D3 Bj rfl rfl (by omega)) (show V.i .u64 (((sbN a b i).1 ++ a.drop i).getD ((0 + i) * 1) 0) = V.i .u64 (a.getD i 0) by rw [Nat.zero_add, Nat.mul_one, Ag4 (by omega)])) (hd 34 rfl) <| zmv rfl (hd 35 rfl) <| zmv rfl (hd 36 rfl) <| A4 (El (e := Fu) Tryz.func124 rfl rfl (by kernel_rfl) (by kernel_rfl) rfl rfl rfl (fun w => Iz _ _ _ hx.1 hx.2 hy.1 hy.2 hc.1 hc.2 w) Du) (hd 37 rfl) <| zmv rfl (hd 28 rfl) <| Ac (Am rfl rfl) (hd 38 rfl) <| Ac (Am rfl rfl) (hd 39 rfl) ?_; refine Ac (Cd (i := i) Bc rfl rfl rfl (by first | rfl | omega) (by omega) rfl) (hd 40 rfl) <| A6 (B3 rfl rfl rfl Bj (by omega)) <| zas rfl (hd 6 rfl) <| Aa <| Af <| Ac (Aw rfl rfl (Ag (by omega) (by omega))) (hd 41 rfl) <| zmv rfl (hd 17 rfl) <| Aa ?_
        refine ⟨i + 1, ?_, ?_, (by show [(⟨71, 1, 0, true, ints .u64 _⟩ : Ob)] = [⟨71, 1, 0, true, ints .u64 _⟩]; rw [X6 (by omega)]), A5 57 rfl rfl ?_⟩
        · omega
        · omega
        · exact (.cons rfl (.cons rfl (.v9 (.v9 (.v5 (.u .nil))))))
    · obtain rfl : i = a.length := by omega
      refine Bh <| zsr <| zmv rfl (hd 42 rfl) <| zas rfl (hd 4 rfl) <| Aa <| Ao ?_
      refine ⟨_, _, (.cons rfl .nil), (.o (l := (sbN a b a.length).1 ++ a.drop a.length) rfl (by omega) rfl), ?_⟩
      rw [List.drop_zero, List.take_of_length_le (by omega), List.drop_eq_nil_of_le (Nat.le_refl _), List.append_nil]
      exact ⟨_, rfl, Sy ua ub _, D0 a b _, Agj ua ub hle⟩

theorem L4 (l : List Int) (f t : Nat) (hl : l.length < 4398046511104) (hft : f ≤ t) (hf : t < 4398046511104) (ul : Az l) : Spec Tryz.prog 147 [.n false .u64 l, .i .i64 (f : Int), .i .i64 (t : Int)] (fun o => ∃ r, o = .ret (.n false .u64 r) ∧ Az r ∧ r.length ≤ min t l.length - min f l.length ∧ vl r = vl ((l.take t).drop f)) := by
  refine Au [(0, .n false .u64 l), (1, .i .i64 (f : Int)), (2, .i .i64 (t : Int))] rfl Tryz.func147 rfl (zlb rfl) fun Γ hN hds hL hR => ?_
  have hd := Bt 32 hN
  refine zsr <| zas rfl (hd 6 rfl) <| Aa <| zsr <| zmv rfl (hd 7 rfl) <| zmv rfl (hd 8 rfl) <| Ac (As Bc rfl) (hd 9 rfl) <| Ac (Ba (Oy rfl rfl) (show V.i .i64 (min (f : Int) (l.length : Int)) = V.i .i64 ((min f l.length : Nat) : Int) by congr 1; omega)) (hd 10 rfl) <| zmv rfl (hd 11 rfl) <| zmv rfl (hd 12 rfl) <| Ac (As Bc rfl) (hd 13 rfl) ?_; refine Ac (Ba (Oy rfl rfl) (show V.i .i64 (min (t : Int) (l.length : Int)) = V.i .i64 ((min t l.length : Nat) : Int) by congr 1; omega)) (hd 14 rfl) <| zas rfl (hd 1 rfl) <| zas rfl (hd 2 rfl) <| Aa <| Ae <| Ap ?_
  refine Bq (G := Nat) (fun k => min f l.length ≤ k ∧ k ≤ min t l.length ∧ vl ((l.take k).drop (min f l.length)) = vl ((l.take t).drop f)) (fun k => [(2, .i .i64 (k : Int)), (15, .u), (16, .u), (17, .u), (18, .u), (19, .u), (20, .u), (21, .u), (22, .u), (23, .u), (24, .u), (25, .u), (26, .u), (27, .u)]) (fun _ => _) (fun k => k) (min t l.length) ?_ ?_ rfl ?_
  · exact ⟨by omega, Nat.le_refl _, by rw [Yv hft]⟩
  · exact (.cons rfl (.v9 (.u (.u (.u .nil)))))
  · rintro k ⟨hc1, hc2, hc3⟩; refine Ae <| zsr <| zmv rfl (hd 15 rfl) <| zmv rfl (hd 16 rfl) <| Ac (Ca rfl rfl) (hd 17 rfl) <| zmv rfl (hd 18 rfl) ?_
    refine D4 18 rfl (fun h1 => ?_) (fun h1 => ?_)
    · refine Ay 18 rfl rfl (Ar rfl) (hd 19 rfl) <| Ay 18 rfl rfl (Ar rfl) (hd 20 rfl) <| Ay 18 rfl rfl (Bd rfl rfl (Ag (by omega) (by omega))) (hd 21 rfl) <| Ay 18 rfl rfl (B2 (i := k - 1) Bc rfl rfl (by omega) (by omega)) (hd 22 rfl) <| Ay 18 rfl rfl (Bw Bj rfl rfl) (hd 23 rfl) <| Ay 18 rfl rfl (Ch rfl rfl) (hd 24 rfl) <| Ac (A9 rfl rfl) (hd 25 rfl) <| Aa ?_
      refine Bg rfl (fun h2 => ?_) (fun h2 => ?_)
      · refine Ai <| Ap <| Af <| zmv rfl (hd 26 rfl) <| Ac (Bd rfl rfl (Ag (by omega) (by omega))) (hd 27 rfl) <| zas rfl (hd 2 rfl) <| Aa ?_
        refine ⟨k - 1, ?_, ?_, rfl, A5 29 rfl rfl ?_⟩
        · exact ⟨by omega, by omega, by rw [U5 (by omega) (by omega) (by assumption)]; exact hc3⟩
        · omega
        · exact (.cons (by show some (V.i .i64 _) = some (V.i .i64 _); congr 2; omega) (.v9 (.u (.u (.u .nil)))))
      · refine Bh <| zsr <| zmv rfl (hd 28 rfl) <| zmv rfl (hd 29 rfl) <| zmv rfl (hd 30 rfl) <| Ac (La Bc rfl (Db rfl rfl) (Db rfl rfl) (.inl rfl) (by omega) (by omega)) (hd 31 rfl) <| zas rfl (hd 6 rfl) <| Aa <| Ao ?_
        refine ⟨_, _, (.cons rfl .nil), .n, ?_⟩
        exact ⟨_, rfl, Fe (Ep ul _) _, by rw [List.length_drop, List.length_take]; omega, hc3⟩
    · refine Bk 18 rfl rfl rfl (hd 19 rfl) <| Bk 18 rfl rfl rfl (hd 20 rfl) <| Bk 18 rfl rfl rfl (hd 21 rfl) <| Bk 18 rfl rfl rfl (hd 22 rfl) <| Bk 18 rfl rfl rfl (hd 23 rfl) <| Bk 18 rfl rfl rfl (hd 24 rfl) <| Ac (A3 rfl rfl) (hd 25 rfl) <| Aa <| A1 rfl <| Bh <| zsr <| zmv rfl (hd 28 rfl) ?_; refine zmv rfl (hd 29 rfl) <| zmv rfl (hd 30 rfl) <| Ac (La Bc rfl (Db rfl rfl) (Db rfl rfl) (.inl rfl) (by omega) (by omega)) (hd 31 rfl) <| zas rfl (hd 6 rfl) <| Aa <| Ao ?_
      refine ⟨_, _, (.cons rfl .nil), .n, ?_⟩
      exact ⟨_, rfl, Fe (Ep ul _) _, by rw [List.length_drop, List.length_take]; omega, hc3⟩

theorem Wa (cut : Nat) (hc4 : 4 ≤ cut) (hcm : cut < 1099511627776) (a b : List Int) (hla : a.length < 549755813888) (hlb : b.length < 549755813888) (ua : Az a) (ub : Az b) (ih : ∀ a' b' : List Int, a'.length + b'.length < a.length + b.length → a'.length < 549755813888 → b'.length < 549755813888 → Az a' → Az b' → Spec Tryz.prog 136 [.n false .u64 a', .n false .u64 b', .i .i64 (cut : Int)] (fun o => ∃ r, o = .ret (.n true .u64 r) ∧ Az r ∧ r.length ≤ a'.length + b'.length + 1 ∧ vl r = vl a' * vl b')) : Spec Tryz.prog 136 [.n false .u64 a, .n false .u64 b, .i .i64 (cut : Int)] (fun o => ∃ r, o = .ret (.n true .u64 r) ∧ Az r ∧ r.length ≤ a.length + b.length + 1 ∧ vl r = vl a * vl b) := by
  refine Au [(0, .n false .u64 a), (1, .n false .u64 b), (2, .i .i64 (cut : Int))] rfl Tryz.func136 rfl (zlb rfl) fun Γ hN hds hL hR => ?_
  have hd := Bt 124 hN
  refine zsr <| zas rfl (hd 6 rfl) <| Aa ?_
  refine Ce (G := List Int × List Int) (fun g => g.2.length ≤ g.1.length ∧ g.1.length + g.2.length = a.length + b.length ∧ Az g.1 ∧ Az g.2 ∧ vl g.1 * vl g.2 = vl a * vl b ∧ g.1.length < 549755813888 ∧ g.2.length < 549755813888) (fun g => [(0, .n false .u64 g.1), (1, .n false .u64 g.2), (17, .u), (18, .u), (19, .u), (20, .u), (21, .u), (22, .u), (23, .u)]) ?_ ?_
  · refine zsr <| zmv rfl (hd 17 rfl) <| Ac (As Bc rfl) (hd 18 rfl) <| zmv rfl (hd 19 rfl) <| Ac (As Bc rfl) (hd 20 rfl) <| Ac (Br rfl rfl) (hd 21 rfl) <| Aa ?_
    refine Bg rfl (fun h1 => ?_) (fun h1 => ?_)
    · refine Af <| zmv rfl (hd 22 rfl) <| zmv rfl (hd 23 rfl) <| zas rfl (hd 0 rfl) <| zas rfl (hd 1 rfl) <| Aa ?_
      refine ⟨(b, a), ?_, rfl, A5 9 rfl rfl ?_⟩
      · exact ⟨by show a.length ≤ b.length; omega, by show b.length + a.length = _; omega, ub, ua, by show vl b * vl a = _; rw [Int.mul_comm], hlb, hla⟩
      · exact (.cons rfl (.cons rfl (.v5 (.u (.u .nil)))))
    · refine Ai ?_
      refine ⟨(a, b), ?_, rfl, A5 5 rfl rfl ?_⟩
      · exact ⟨by show b.length ≤ a.length; omega, rfl, ua, ub, rfl, hla, hlb⟩
      · exact (.cons rfl (.cons rfl (.v5 (.u (.u .nil)))))
  · rintro ⟨X, Y⟩ ⟨hm1, hm2, uX, uY, hm3, hX, hY⟩
    dsimp only at hm1 hm2 uX uY hm3 hX hY ⊢
    have hXY := Tm uX uY
    have hXY2 := Fz (show X.length + Y.length ≤ X.length + Y.length + 1 by omega)
    have x0 := Bf uX
    have y0 := Bf uY
    refine Ae <| zsr <| zmv rfl (hd 24 rfl) <| Ac (As Bc rfl) (hd 25 rfl) <| zmv rfl (hd 26 rfl) <| Ac (Br rfl rfl) (hd 27 rfl) <| Aa ?_
    refine Bg rfl (fun h2 => ?_) (fun h2 => ?_)
    · refine zsr <| zmv rfl (hd 28 rfl) <| zmv rfl (hd 29 rfl) ?_
      refine Ah Tryz.f145 (X9 X Y (by omega) (by omega) uX uY) rfl Tryz.func145 rfl rfl (Ab rfl (Ab rfl Ad)) (.cons .n (.cons .n .nil)) (hd 30 rfl) ?_ (fun ch hp => by simp at hp)
      rintro y ⟨rs, hy, urs, lrs, vrs⟩; injection hy with hy; subst hy; refine zas rfl (hd 6 rfl) <| Aa <| Ao ?_
      refine ⟨_, _, (.cons rfl .nil), .n, ?_⟩
      exact ⟨rs, rfl, urs, by omega, by rw [vrs, hm3]⟩
    · refine Ai <| Ae ?_
      obtain ⟨k, hk⟩ : ∃ k, (X.length + 1) / 2 = k := ⟨_, rfl⟩
      have pk := Dd k
      refine Af <| zmv rfl (hd 31 rfl) <| Ac (As Bc rfl) (hd 32 rfl) <| Ac (Aw rfl rfl (r := ((X.length + 1 : Nat) : Int)) (by rw [Ag (by omega) (by omega)]; omega)) (hd 33 rfl) <| Ac (Dk rfl rfl (by decide) (r := (k : Int)) (by show IntKind.i64.wrap (Int.tdiv ((X.length + 1 : Nat) : Int) 2) = _; rw [half_k (by omega), hk])) (hd 34 rfl) <| zas rfl (hd 7 rfl) <| Aa <| Ae <| zsr <| zmv rfl (hd 35 rfl) <| Ac (As Bc rfl) (hd 36 rfl) <| zmv rfl (hd 37 rfl) ?_; refine Ac (J5 rfl rfl) (hd 38 rfl) <| Aa ?_
      refine Bg rfl (fun h3 => ?_) (fun h3 => ?_)
      · refine zsr <| zmv rfl (hd 39 rfl) <| Ac (As Bc rfl) (hd 40 rfl) <| zmv rfl (hd 41 rfl) <| Ac (As Bc rfl) (hd 42 rfl) <| Ac (Aw rfl rfl (r := ((X.length + Y.length : Nat) : Int)) (by rw [Ag (by omega) (by omega)]; omega)) (hd 43 rfl) <| Ac (Aw rfl rfl (r := ((X.length + Y.length + 1) : Nat)) (by rw [Ag (by omega) (by omega)]; omega)) (hd 44 rfl) <| A4 (F5 (m := (X.length + Y.length + 1)) Lr rfl rfl rfl (by show 8 * (X.length + Y.length + 1) ≤ _; omega) (by unfold maxLen; omega) rfl) (hd 45 rfl) <| zas rfl (hd 8 rfl) <| Aa <| Ae <| Af ?_; refine zmv rfl (hd 46 rfl) <| zmv rfl (hd 47 rfl) <| zmv rfl (hd 48 rfl) ?_
        refine Ah Tryz.f147 (L4 X 0 k (by omega) (by omega) (by omega) uX) rfl Tryz.func147 rfl rfl (Ab rfl (Ab rfl (Ab rfl Ad))) (.cons .n (.cons .i (.cons .i .nil))) (hd 49 rfl) ?_ (fun ch hp => by simp at hp)
        rintro y ⟨al, hy, ual, lal, val⟩; injection hy with hy; subst hy; refine zmv rfl (hd 50 rfl) <| zmv rfl (hd 51 rfl) ?_
        refine Ah Tryz.f136 (ih al Y (by omega) (by omega) (by omega) ual uY) rfl Tryz.func136 rfl rfl (Ab rfl (Ab rfl (Ab rfl Ad))) (.cons .n (.cons .n (.cons .i .nil))) (hd 52 rfl) ?_ (fun ch hp => by simp at hp)
        rintro y ⟨p1, hy, up1, lp1, vp1⟩; injection hy with hy; subst hy
        have a0 := Bf ual
        refine G1 Tryz.f146 (Jt (List.replicate (X.length + Y.length + 1) 0) p1 (X.length + Y.length + 1) 0 List.length_replicate (by omega) (by omega) (by omega) (Hw _) up1 (by
            have h1 := Ix (l := X) k
            rw [← val] at h1
            have h2 := Bf (Fe (Ep uX X.length) k)
            have h3 := Int.mul_nonneg (Int.le_of_lt pk) h2
            have h4 := Int.mul_le_mul_of_nonneg_right (show vl al ≤ vl X by omega) y0
            rw [Hv, vp1]; simp only [pB, Int.one_mul, Int.zero_add] at *; omega)) rfl Tryz.func146 rfl rfl (Ab rfl (Ab rfl (Ab rfl Ad))) (.cons (.same rfl) (.cons .n (.cons (.same rfl) .nil))) (C8 Et Dx) (hd 53 rfl) ?_ (fun ch H2 hp => by simp at hp)
        rintro y H2 ⟨hy, r1, rfl, lr1, ur1, vr1⟩; injection hy with hy; subst hy; refine Aa <| zsr <| zmv rfl (hd 54 rfl) <| zmv rfl (hd 55 rfl) <| zmv rfl (hd 56 rfl) <| zmv rfl (hd 57 rfl) <| Ac (As Bc rfl) (hd 58 rfl) ?_
        refine Ah Tryz.f147 (L4 X k X.length (by omega) (by omega) (by omega) uX) rfl Tryz.func147 rfl rfl (Ab rfl (Ab rfl (Ab rfl Ad))) (.cons .n (.cons .i (.cons .i .nil))) (hd 59 rfl) ?_ (fun ch hp => by simp at hp)
        rintro y ⟨ah, hy, uah, lah, vah⟩; injection hy with hy; subst hy; refine zmv rfl (hd 60 rfl) <| zmv rfl (hd 61 rfl) ?_
        refine Ah Tryz.f136 (ih ah Y (by omega) (by omega) (by omega) uah uY) rfl Tryz.func136 rfl rfl (Ab rfl (Ab rfl (Ab rfl Ad))) (.cons .n (.cons .n (.cons .i .nil))) (hd 62 rfl) ?_ (fun ch hp => by simp at hp)
        rintro y ⟨p2, hy, up2, lp2, vp2⟩; injection hy with hy; subst hy
        have hv : vl r1 + pB k * vl p2 = vl X * vl Y := by
          have h1 := Ix (l := X) k
          rw [← val, ← vah] at h1
          rw [vr1, vp1, vp2, Hv, ← h1, Int.add_mul, Int.mul_assoc (pB k)]
          simp only [pB, Int.one_mul, Int.zero_add]
        refine zmv rfl (hd 63 rfl) ?_
        refine G1 Tryz.f146 (Jt r1 p2 (X.length + Y.length + 1) k lr1 (by omega) (by omega) (by omega) ur1 up2 (by rw [hv]; omega)) rfl Tryz.func146 rfl rfl (Ab rfl (Ab rfl (Ab rfl Ad))) (.cons (.same rfl) (.cons .n (.cons (.same rfl) .nil))) (C8 Et Dx) (hd 64 rfl) ?_ (fun ch H2 hp => by simp at hp)
        rintro y H2 ⟨hy, rf, rfl, lrf, urf, vrf⟩; injection hy with hy; subst hy; refine Aa <| zsr <| zmv rfl (hd 65 rfl) <| zas rfl (hd 6 rfl) <| Aa <| Ao ?_
        refine ⟨_, _, (.cons rfl .nil), (.o (l := rf) rfl (by omega) rfl), ?_⟩
        rw [List.drop_zero, List.take_of_length_le (by omega)]
        exact ⟨rf, rfl, urf, by omega, by rw [vrf, hv, hm3]⟩
      · refine Ai <| zsr <| zmv rfl (hd 66 rfl) <| zmv rfl (hd 67 rfl) ?_
        refine Ah Tryz.f147 (L4 X 0 k (by omega) (by omega) (by omega) uX) rfl Tryz.func147 rfl rfl (Ab rfl (Ab rfl (Ab rfl Ad))) (.cons .n (.cons .i (.cons .i .nil))) (hd 68 rfl) ?_ (fun ch hp => by simp at hp)
        rintro y ⟨al, hy, ual, lal, val⟩; injection hy with hy; subst hy; refine zmv rfl (hd 69 rfl) <| zmv rfl (hd 70 rfl) <| zmv rfl (hd 71 rfl) <| Ac (As Bc rfl) (hd 72 rfl) ?_
        refine Ah Tryz.f147 (L4 X k X.length (by omega) (by omega) (by omega) uX) rfl Tryz.func147 rfl rfl (Ab rfl (Ab rfl (Ab rfl Ad))) (.cons .n (.cons .i (.cons .i .nil))) (hd 73 rfl) ?_ (fun ch hp => by simp at hp)
        rintro y ⟨ah, hy, uah, lah, vah⟩; injection hy with hy; subst hy; refine zmv rfl (hd 74 rfl) <| zmv rfl (hd 75 rfl) ?_
        refine Ah Tryz.f147 (L4 Y 0 k (by omega) (by omega) (by omega) uY) rfl Tryz.func147 rfl rfl (Ab rfl (Ab rfl (Ab rfl Ad))) (.cons .n (.cons .i (.cons .i .nil))) (hd 76 rfl) ?_ (fun ch hp => by simp at hp)
        rintro y ⟨bl, hy, ubl, lbl, vbl⟩; injection hy with hy; subst hy; refine zmv rfl (hd 77 rfl) <| zmv rfl (hd 78 rfl) <| zmv rfl (hd 79 rfl) <| Ac (As Bc rfl) (hd 80 rfl) ?_
        refine Ah Tryz.f147 (L4 Y k Y.length (by omega) (by omega) (by omega) uY) rfl Tryz.func147 rfl rfl (Ab rfl (Ab rfl (Ab rfl Ad))) (.cons .n (.cons .i (.cons .i .nil))) (hd 81 rfl) ?_ (fun ch hp => by simp at hp)
        rintro y ⟨bh, hy, ubh, lbh, vbh⟩; injection hy with hy; subst hy; refine zas rfl (hd 9 rfl) <| zas rfl (hd 10 rfl) <| zas rfl (hd 11 rfl) <| zas rfl (hd 12 rfl) <| Aa <| zsr <| zmv rfl (hd 82 rfl) <| zmv rfl (hd 83 rfl) <| zmv rfl (hd 84 rfl) ?_
        refine Ah Tryz.f136 (ih al bl (by omega) (by omega) (by omega) ual ubl) rfl Tryz.func136 rfl rfl (Ab rfl (Ab rfl (Ab rfl Ad))) (.cons .n (.cons .n (.cons .i .nil))) (hd 85 rfl) ?_ (fun ch hp => by simp at hp)
        rintro y ⟨lo, hy, ulo, llo, vlo⟩; injection hy with hy; subst hy; refine zmv rfl (hd 86 rfl) <| zmv rfl (hd 87 rfl) <| zmv rfl (hd 88 rfl) ?_
        refine Ah Tryz.f136 (ih ah bh (by omega) (by omega) (by omega) uah ubh) rfl Tryz.func136 rfl rfl (Ab rfl (Ab rfl (Ab rfl Ad))) (.cons .n (.cons .n (.cons .i .nil))) (hd 89 rfl) ?_ (fun ch hp => by simp at hp)
        rintro y ⟨hi, hy, uhi, lhi, vhi⟩; injection hy with hy; subst hy; refine zas rfl (hd 13 rfl) <| zas rfl (hd 14 rfl) <| Aa <| zsr <| zmv rfl (hd 90 rfl) <| zmv rfl (hd 91 rfl) ?_
        refine Ah Tryz.f149 (Ag2 al ah (by omega) (by omega) ual uah) rfl Tryz.func149 rfl rfl (Ab rfl (Ab rfl Ad)) (.cons .n (.cons .n .nil)) (hd 92 rfl) ?_ (fun ch hp => by simp at hp)
        rintro y ⟨s1, hy, us1, ls1, vs1⟩; injection hy with hy; subst hy
        have ts1 := Dj s1
        refine Ah Tryz.f66 (E2 s1 (by omega)) rfl Tryz.func66 rfl rfl (Ab rfl Ad) (.cons .n .nil) (hd 93 rfl) ?_ (fun ch hp => by simp at hp)
        rintro _ ⟨⟩; refine zmv rfl (hd 94 rfl) <| zmv rfl (hd 95 rfl) ?_
        refine Ah Tryz.f149 (Ag2 bl bh (by omega) (by omega) ubl ubh) rfl Tryz.func149 rfl rfl (Ab rfl (Ab rfl Ad)) (.cons .n (.cons .n .nil)) (hd 96 rfl) ?_ (fun ch hp => by simp at hp)
        rintro y ⟨s2, hy, us2, ls2, vs2⟩; injection hy with hy; subst hy
        have ts2 := Dj s2
        refine Ah Tryz.f66 (E2 s2 (by omega)) rfl Tryz.func66 rfl rfl (Ab rfl Ad) (.cons .n .nil) (hd 97 rfl) ?_ (fun ch hp => by simp at hp)
        rintro _ ⟨⟩; refine zmv rfl (hd 98 rfl) ?_
        refine Ah Tryz.f136 (ih (trm s1) (trm s2) (by omega) (by omega) (by omega) (Bz us1) (Bz us2)) rfl Tryz.func136 rfl rfl (Ab rfl (Ab rfl (Ab rfl Ad))) (.cons .n (.cons .n (.cons .i .nil))) (hd 99 rfl) ?_ (fun ch hp => by simp at hp)
        rintro y ⟨m0, hy, um0, lm0, vm0⟩; injection hy with hy; subst hy
        rw [Fd, Fd, vs1, vs2] at vm0
        have hle := Ae3 (Bf ual) (Bf uah) (Bf ubl) (Bf ubh)
        rw [← vm0, ← vlo, ← vhi] at hle
        refine zmv rfl (hd 100 rfl) ?_
        refine Ah Tryz.f148 (Abs m0 lo (by omega) (by omega) um0 ulo hle.1) rfl Tryz.func148 rfl rfl (Ab rfl (Ab rfl Ad)) (.cons .n (.cons .n .nil)) (hd 101 rfl) ?_ (fun ch hp => by simp at hp)
        rintro y ⟨m1, hy, um1, lm1, vm1⟩; injection hy with hy; subst hy; refine zmv rfl (hd 102 rfl) ?_
        refine Ah Tryz.f148 (Abs m1 hi (by omega) (by omega) um1 uhi (by rw [vm1]; exact hle.2)) rfl Tryz.func148 rfl rfl (Ab rfl (Ab rfl Ad)) (.cons .n (.cons .n .nil)) (hd 103 rfl) ?_ (fun ch hp => by simp at hp)
        rintro y ⟨m2, hy, um2, lm2, vm2⟩; injection hy with hy; subst hy
        have hA : vl al + pB k * vl ah = vl X := by rw [val, vah]; exact Ix k
        have hB : vl bl + pB k * vl bh = vl Y := by rw [vbl, vbh]; exact Ix k
        have hmd : vl m2 = (vl al + vl ah) * (vl bl + vl bh) - vl lo - vl hi := by rw [vm2, vm1, vm0]
        have hkr := kara hA hB vlo vhi hmd
        have g1 := Int.mul_nonneg (Int.le_of_lt pk) (Bf um2)
        have g2 := Int.mul_nonneg (Int.mul_nonneg (Int.le_of_lt pk) (Int.le_of_lt pk)) (Bf uhi)
        refine zas rfl (hd 15 rfl) <| Aa <| zsr <| zmv rfl (hd 104 rfl) <| Ac (As Bc rfl) (hd 105 rfl) <| zmv rfl (hd 106 rfl) <| Ac (As Bc rfl) (hd 107 rfl) <| Ac (Aw rfl rfl (r := ((X.length + Y.length : Nat) : Int)) (by rw [Ag (by omega) (by omega)]; omega)) (hd 108 rfl) <| Ac (Aw rfl rfl (r := ((X.length + Y.length + 1) : Nat)) (by rw [Ag (by omega) (by omega)]; omega)) (hd 109 rfl) <| A4 (F5 (m := (X.length + Y.length + 1)) Lr rfl rfl rfl (by show 8 * (X.length + Y.length + 1) ≤ _; omega) (by unfold maxLen; omega) rfl) (hd 110 rfl) <| zas rfl (hd 16 rfl) <| Aa ?_; refine zsr <| zmv rfl (hd 111 rfl) <| zmv rfl (hd 112 rfl) ?_
        refine G1 Tryz.f146 (Jt (List.replicate (X.length + Y.length + 1) 0) lo (X.length + Y.length + 1) 0 List.length_replicate (by omega) (by omega) (by omega) (Hw _) ulo (by rw [Hv]; simp only [pB, Int.one_mul, Int.zero_add] at *; omega)) rfl Tryz.func146 rfl rfl (Ab rfl (Ab rfl (Ab rfl Ad))) (.cons (.same rfl) (.cons .n (.cons (.same rfl) .nil))) (C8 Et Dx) (hd 113 rfl) ?_ (fun ch H2 hp => by simp at hp)
        rintro y H2 ⟨hy, r1, rfl, lr1, ur1, vr1⟩; injection hy with hy; subst hy
        have e1 : vl r1 = vl lo := by rw [vr1, Hv]; simp only [pB, Int.one_mul, Int.zero_add]
        refine Aa <| zsr <| zmv rfl (hd 114 rfl) <| zmv rfl (hd 115 rfl) <| zmv rfl (hd 116 rfl) ?_
        refine G1 Tryz.f146 (Jt r1 m2 (X.length + Y.length + 1) k lr1 (by omega) (by omega) (by omega) ur1 um2 (by rw [e1]; omega)) rfl Tryz.func146 rfl rfl (Ab rfl (Ab rfl (Ab rfl Ad))) (.cons (.same rfl) (.cons .n (.cons (.same rfl) .nil))) (C8 Et Dx) (hd 117 rfl) ?_ (fun ch H2 hp => by simp at hp)
        rintro y H2 ⟨hy, r2, rfl, lr2, ur2, vr2⟩; injection hy with hy; subst hy; refine Aa <| zsr <| zmv rfl (hd 118 rfl) <| zmv rfl (hd 119 rfl) <| zmv rfl (hd 120 rfl) <| Ac (Dg rfl rfl (r := ((2 * k : Nat) : Int)) (by rw [Ag (by omega) (by omega)]; omega)) (hd 121 rfl) ?_
        refine G1 Tryz.f146 (Jt r2 hi (X.length + Y.length + 1) (2 * k) lr2 (by omega) (by omega) (by omega) ur2 uhi (by rw [vr2, e1, show 2 * k = k + k by omega, Gb]; omega)) rfl Tryz.func146 rfl rfl (Ab rfl (Ab rfl (Ab rfl Ad))) (.cons (.same rfl) (.cons .n (.cons (.same rfl) .nil))) (C8 Et Dx) (hd 122 rfl) ?_ (fun ch H2 hp => by simp at hp)
        rintro y H2 ⟨hy, rf, rfl, lrf, urf, vrf⟩; injection hy with hy; subst hy; refine Aa <| zsr <| zmv rfl (hd 123 rfl) <| zas rfl (hd 6 rfl) <| Aa <| Ao ?_
        refine ⟨_, _, (.cons rfl .nil), (.o (l := rf) rfl (by omega) rfl), ?_⟩
        rw [List.drop_zero, List.take_of_length_le (by omega)]
        exact ⟨rf, rfl, urf, by omega, by rw [vrf, vr2, e1, show 2 * k = k + k by omega, Gb, hkr, hm3]⟩

theorem Zo (cut : Nat) (hc4 : 4 ≤ cut) (hcm : cut < 1099511627776) (a b : List Int) (hla : a.length < 549755813888) (hlb : b.length < 549755813888) (ua : Az a) (ub : Az b) : Spec Tryz.prog 136 [.n false .u64 a, .n false .u64 b, .i .i64 (cut : Int)] (fun o => ∃ r, o = .ret (.n true .u64 r) ∧ Az r ∧ r.length ≤ a.length + b.length + 1 ∧ vl r = vl a * vl b) := by
  induction hn : a.length + b.length using Nat.strongRecOn generalizing a b with
  | _ n ih =>
    subst hn
    exact Wa cut hc4 hcm a b hla hlb ua ub fun a' b' h h1 h2 h3 h4 => ih _ (by omega) a' b' h1 h2 h3 h4 rfl

theorem way_s (a b : List Int) (hla : a.length < 4294967296) (hlb : b.length < 4294967296) (ua : Az a) (ub : Az b) : Spec Tryz.prog 135 [.n false .u64 a, .n false .u64 b] (fun o => ∃ r, o = .ret (.n true .u64 r) ∧ Az r ∧ r.length ≤ a.length + b.length + 1 ∧ vl r = vl a * vl b) := by
  refine Au [(0, .n false .u64 a), (1, .n false .u64 b)] rfl Tryz.func135 rfl (zlb rfl) fun Γ hN hds hL hR => ?_
  have hd := Bt 8 hN
  refine zsr <| zas rfl (hd 4 rfl) <| Aa <| zsr <| zmv rfl (hd 5 rfl) <| zmv rfl (hd 6 rfl) ?_
  refine Ah Tryz.f136 (Zo 40 (by decide) (by decide) a b (by omega) (by omega) ua ub) rfl Tryz.func136 rfl rfl (Ab rfl (Ab rfl (Ab rfl Ad))) (.cons .n (.cons .n (.cons .i .nil))) (hd 7 rfl) ?_ (fun ch hp => by simp at hp)
  rintro y ⟨rs, hy, us, ls, vs⟩; injection hy with hy; subst hy; refine zas rfl (hd 4 rfl) <| Aa <| Ao ?_
  refine ⟨_, _, (.cons rfl .nil), .n, ?_⟩
  exact ⟨rs, rfl, us, ls, vs⟩






theorem Q5 (v : Int) (hl : (dg v).length < 1099511627776) : Spec Tryz.prog 39 [.n false .u64 (dg v)] (fun o => o = .ret (.i .i64 (Aq v : Int))) := by
  refine Au [(0, .n false .u64 (dg v))] rfl Tryz.func39 rfl (zlb rfl) fun Γ hN hds hL hR => ?_
  have hd := Bt 25 hN
  have hB := Ae0 v
  have hT := Si v ((dg v).length - 1)
  have hE := Na v
  have hN := Ab5 (v := v)
  refine zsr <| zas rfl (hd 2 rfl) <| Aa <| Ae <| zsr <| zmv rfl (hd 5 rfl) <| Ac (As Cz rfl) (hd 6 rfl) <| Ac (Ch rfl rfl) (hd 7 rfl) <| Aa ?_
  refine Bg rfl (fun h1 => ?_) (fun h1 => ?_)
  · have h0 : dg v = [] := List.eq_nil_of_length_eq_zero (by omega)
    refine zsr <| zas rfl (hd 2 rfl) <| Aa <| Ao ?_
    refine ⟨_, _, (.cons rfl .nil), .i, ?_⟩
    rw [hN.1 h0]
    rfl
  · have h0 : dg v ≠ [] := fun e => by rw [e] at h1; exact h1 rfl
    have hE := hE h0
    refine Ai <| zsr <| zmv rfl (hd 8 rfl) <| Ac (As Cz rfl) (hd 9 rfl) <| Ac (Bd rfl rfl (Ag (by first | omega | (dsimp only; omega)) (by first | omega | (dsimp only; omega)))) (hd 10 rfl) <| Ac (Dg rfl rfl (r := ((32 * ((dg v).length - 1) : Nat) : Int)) (by have := List.length_pos_iff.2 h0; rw [Ag (by omega) (by omega)]; omega)) (hd 11 rfl) <| zas rfl (hd 3 rfl) <| Aa <| Ae <| zsr <| zmv rfl (hd 12 rfl) ?_; refine zmv rfl (hd 13 rfl) <| Ac (As Cz rfl) (hd 14 rfl) <| Ac (Bd rfl rfl (Ag (by first | omega | (dsimp only; omega)) (by first | omega | (dsimp only; omega)))) (hd 15 rfl) <| Ac (B2 (i := (dg v).length - 1) Cz rfl rfl (by have := List.length_pos_iff.2 h0; omega) (by have := List.length_pos_iff.2 h0; omega)) (hd 16 rfl) <| Ac (Bw Bj rfl rfl) (hd 17 rfl) <| zas rfl (hd 4 rfl) <| Aa <| Ap ?_
    refine Bq (G := Nat × Nat) (fun g => g.2 + Cp g.1 = Aq v ∧ g.1 < 4294967296) (fun g => [(3, .i .i64 (g.2 : Int)), (4, .i .u64 (g.1 : Int)), (18, .u), (19, .u), (20, .u), (21, .u), (22, .u), (23, .u)]) (fun _ => _) (fun g => g.1) (((dg v).getD ((dg v).length - 1) 0).toNat, 32 * ((dg v).length - 1)) ?_ ?_ rfl ?_
    · exact ⟨hE, by dsimp only; omega⟩
    · exact (.cons rfl (.cons (by show some (V.i .u64 _) = some (V.i .u64 _); congr 2; dsimp only; omega) (.v5 (.u .nil))))
    · rintro ⟨m, c⟩ ⟨hc1, hc2⟩
      dsimp only at hc1 hc2 ⊢
      refine Ae <| zsr <| zmv rfl (hd 18 rfl) <| Ac (Ca rfl rfl) (hd 19 rfl) <| Aa ?_
      refine Bg rfl (fun h2 => ?_) (fun h2 => ?_)
      · refine Ai <| Ae <| Ap <| Af <| zmv rfl (hd 22 rfl) <| Ac (Aw rfl rfl (Ag (by first | omega | (dsimp only; omega)) (by first | omega | (dsimp only; omega)))) (hd 23 rfl) <| zas rfl (hd 3 rfl) <| Aa <| Af <| zmv rfl (hd 20 rfl) <| Ac (Dk rfl rfl (by first | omega | (dsimp only; omega)) (r := ((m / 2 : Nat) : Int)) (by rw [show ((m : Int).tdiv 2) = ((m / 2 : Nat) : Int) from rfl, A0 (by omega) (by omega)])) (hd 21 rfl) <| zas rfl (hd 4 rfl) <| Aa ?_
        refine ⟨(m / 2, c + 1), ?_, ?_, rfl, A5 16 rfl rfl ?_⟩
        · exact ⟨by have := S1 (m := m) (by omega); dsimp only; omega, by dsimp only; omega⟩
        · show m / 2 < m; omega
        · exact (.cons rfl (.cons rfl (.v5 (.u .nil))))
      · refine Bh <| zsr <| zmv rfl (hd 24 rfl) <| zas rfl (hd 2 rfl) <| Aa <| Ao ?_
        refine ⟨_, _, (.cons rfl .nil), .i, ?_⟩
        have hm : m = 0 := by omega
        subst hm
        rw [Qi] at hc1
        rw [← hc1]
        rfl

theorem Afa (a b : List Int) (ha : a.length < 1099511627776) (hb : b.length < 1099511627776) (ua : Az a) (ub : Az b) : Spec Tryz.prog 143 [.n false .u64 a, .n false .u64 b] (fun o => ∃ x : Bool, o = .ret (.b x) ∧ (x = true → 0 < Hb a ∧ 0 < Hb b ∧ 67108864 < Hb a + Hb b - 1)) := by
  refine Au [(0, .n false .u64 a), (1, .n false .u64 b)] rfl Tryz.func143 rfl (zlb rfl) fun Γ hN hds hL hR => ?_
  have hd := Bt 24 hN
  have h1 := Jp a
  have h2 := Jp b
  refine zsr <| zas rfl (hd 4 rfl) <| Aa <| zsr <| zmv rfl (hd 7 rfl) ?_
  refine Ah Tryz.f30 (Ee a ha ua) rfl Tryz.func30 rfl rfl (Ab rfl Ad) (.cons .n .nil) (hd 8 rfl) ?_ (fun ch hp => by simp at hp)
  rintro _ ⟨⟩; refine zmv rfl (hd 9 rfl) ?_
  refine Ah Tryz.f30 (Ee b hb ub) rfl Tryz.func30 rfl rfl (Ab rfl Ad) (.cons .n .nil) (hd 10 rfl) ?_ (fun ch hp => by simp at hp)
  rintro _ ⟨⟩; refine zas rfl (hd 5 rfl) <| zas rfl (hd 6 rfl) <| Aa <| zsr <| zmv rfl (hd 11 rfl) <| Ac (Ca rfl rfl) (hd 12 rfl) <| zmv rfl (hd 13 rfl) ?_
  refine D4 13 rfl (fun h1 => ?_) (fun h1 => ?_)
  · refine Ay 13 rfl rfl (Ar rfl) (hd 14 rfl) <| Ay 13 rfl rfl (Ca rfl rfl) (hd 15 rfl) <| Ac (A9 rfl rfl) (hd 16 rfl) <| zmv rfl (hd 17 rfl) ?_
    refine D4 17 rfl (fun h2 => ?_) (fun h2 => ?_)
    · refine Ay 17 rfl rfl (Ar rfl) (hd 18 rfl) <| Ay 17 rfl rfl (Ar rfl) (hd 19 rfl) <| Ay 17 rfl rfl (Aw rfl rfl (Ag (by omega) (by omega))) (hd 20 rfl) <| Ay 17 rfl rfl (Bd rfl rfl (Ag (by omega) (by omega))) (hd 21 rfl) <| Ay 17 rfl rfl (Ca rfl rfl) (hd 22 rfl) <| Ac (A9 rfl rfl) (hd 23 rfl) <| zas rfl (hd 4 rfl) <| Aa <| Ao ?_
      refine ⟨_, _, (.cons rfl .nil), .b, ?_⟩
      exact ⟨_, rfl, fun h => by first | (cases h; done) | (simp at h; done) | (have h := of_decide_eq_true h; exact ⟨by omega, by omega, by omega⟩)⟩
    · refine Bk 17 rfl rfl rfl (hd 18 rfl) <| Bk 17 rfl rfl rfl (hd 19 rfl) <| Bk 17 rfl rfl rfl (hd 20 rfl) <| Bk 17 rfl rfl rfl (hd 21 rfl) <| Bk 17 rfl rfl rfl (hd 22 rfl) <| Ac (A3 rfl rfl) (hd 23 rfl) <| zas rfl (hd 4 rfl) <| Aa <| Ao ?_
      refine ⟨_, _, (.cons rfl .nil), .b, ?_⟩
      exact ⟨_, rfl, fun h => by first | (cases h; done) | (simp at h; done) | (have h := of_decide_eq_true h; exact ⟨by omega, by omega, by omega⟩)⟩
  · refine Bk 13 rfl rfl rfl (hd 14 rfl) <| Bk 13 rfl rfl rfl (hd 15 rfl) <| Ac (A3 rfl rfl) (hd 16 rfl) <| zmv rfl (hd 17 rfl) <| Bk 17 rfl rfl rfl (hd 18 rfl) <| Bk 17 rfl rfl rfl (hd 19 rfl) <| Bk 17 rfl rfl rfl (hd 20 rfl) <| Bk 17 rfl rfl rfl (hd 21 rfl) <| Bk 17 rfl rfl rfl (hd 22 rfl) <| Ac (A3 rfl rfl) (hd 23 rfl) <| zas rfl (hd 4 rfl) <| Aa <| Ao ?_
    refine ⟨_, _, (.cons rfl .nil), .b, ?_⟩
    exact ⟨_, rfl, fun h => by first | (cases h; done) | (simp at h; done) | (have h := of_decide_eq_true h; exact ⟨by omega, by omega, by omega⟩)⟩

end Go.Proofs.YtnadmljoefecfaaGreatDoor.Vc
