/- Powers and shifts of whole numbers are what the document defines. Texts joined: Nr, Ns, Nt, Nu, Nw, Nv, Nx, Ny, Nz, Ob, Wa, Wb, Wc, Wd, We, Wf, Wg, Wh, Wi, Wj, Wk, Wl, Wm, Wn, Wo. -/
import Derived.Test.YteopohdkceelkaaDoorK3
set_option linter.unusedVariables false
set_option linter.unusedSimpArgs false
set_option maxHeartbeats 4000000
namespace Go.Proofs.YteopohdkceelkaaDoor.Vc
open Go Go.RowKit

theorem Of {l : List Int} {i : Nat} (h : i < l.length) : l.take (i + 1) = l.take i ++ [l.getD i 0] := by
  rw [List.take_add_one, List.getD_eq_getElem?_getD, List.getElem?_eq_getElem h]; rfl
theorem Tg (b : Nat) (l : List Int) : ∀ w, vb b (List.replicate w 0 ++ l) = ((b ^ w : Nat) : Int) * vb b l
  | 0 => by simp
  | w + 1 => by
    rw [List.replicate_succ, List.cons_append]
    show (0 : Int) + (b : Int) * vb b (List.replicate w 0 ++ l) = _
    rw [Tg b l w, Nat.pow_succ, Int.natCast_mul, Int.zero_add, ← Int.mul_assoc, Int.mul_comm (b : Int)]
theorem Vv {b : Nat} (hb : 0 < b) {l : List Int} (h : rng b l) (w : Nat) : rng b (List.replicate w 0 ++ l) := fun x hx => by
  rcases List.mem_append.1 hx with hx | hx
  · rw [List.eq_of_mem_replicate hx]; omega
  · exact h x hx
theorem Mh {b : Nat} {l : List Int} {x : Int} (h : rng b l) (h0 : 0 ≤ x) (h1 : x < (b : Int)) : rng b (l ++ [x]) := fun y hy => by
  rcases List.mem_append.1 hy with hy | hy
  · exact h y hy
  · rw [List.mem_singleton] at hy; subst hy; exact ⟨h0, h1⟩
theorem R4 {b : Nat} {l : List Int} {x : Int} (h : rng b l) (h0 : 0 ≤ x) (h1 : x < (b : Int)) : rng b (x :: l) := fun y hy => by
  rcases List.mem_cons.1 hy with rfl | hy
  · exact ⟨h0, h1⟩
  · exact h y hy
theorem Mq {s : Nat} (h : s ≤ 32) : (2 : Int) ^ (32 - s) * 2 ^ s = 4294967296 := by
  rw [← Int.pow_add, show 32 - s + s = 32 by omega]; rfl
theorem Wb {s : Nat} (h : s < 32) : (2 : Int) ^ s ≤ 2147483648 := by
  have h1 : (2 : Nat) ^ s ≤ 2 ^ 31 := Nat.pow_le_pow_right (by decide) (by omega)
  have h2 : ((2 ^ s : Nat) : Int) ≤ ((2 ^ 31 : Nat) : Int) := Int.ofNat_le.2 h1
  rw [Int.natCast_pow] at h2
  simpa using h2
def Gr (l : List Int) (s : Nat) : Nat → List Int × Int
  | 0 => ([], 0)
  | i + 1 => ((Gr l s i).1 ++ [(Gr l s i).2 + l.getD i 0 * 2 ^ s % 4294967296], l.getD i 0 * 2 ^ s / 4294967296)
theorem Eg (l : List Int) (s : Nat) : ∀ i, (Gr l s i).1.length = i
  | 0 => rfl
  | i + 1 => by simp [Gr, Eg l s i]
theorem Ot {l : List Int} {s : Nat} (hs : s < 32) (hl : rng 4294967296 l) (i : Nat) : 0 ≤ l.getD i 0 * 2 ^ s ∧ l.getD i 0 * 2 ^ s ≤ 4294967295 * 2147483648 := by
  have hx := Er (by decide) hl i
  exact ⟨Int.mul_nonneg hx.1 (Int.le_of_lt (Em s)), Int.mul_le_mul (by omega) (Wb hs) (Int.le_of_lt (Em s)) (by decide)⟩
theorem Ou {l : List Int} {s : Nat} (hs : s < 32) (hl : rng 4294967296 l) : ∀ i, 0 ≤ (Gr l s i).2 ∧ (Gr l s i).2 < 2 ^ s
  | 0 => ⟨Int.le_refl 0, Em s⟩
  | i + 1 => by
    have hx := Er (by decide) hl i
    have hp := Ot hs hl i
    refine ⟨Int.ediv_nonneg hp.1 (by decide), Int.ediv_lt_of_lt_mul (by decide) ?_⟩
    rw [Int.mul_comm (2 ^ s)]
    exact Int.mul_lt_mul_of_pos_right hx.2 (Em s)
theorem Abd {x : Int} {s : Nat} (hs : s ≤ 32) : x * 2 ^ s % 4294967296 = 2 ^ s * (x % 2 ^ (32 - s)) := by
  rw [← Mq hs, Int.mul_comm x, Int.mul_comm (2 ^ (32 - s)) (2 ^ s), Int.mul_emod_mul_of_pos _ _ (Em s)]
theorem Yo {c x : Int} {s : Nat} (hs : s < 32) (hc0 : 0 ≤ c) (hc : c < 2 ^ s) : 0 ≤ c + x * 2 ^ s % 4294967296 ∧ c + x * 2 ^ s % 4294967296 < 4294967296 := by
  have e := Mq (Nat.le_of_lt hs)
  have hx2 : x % 2 ^ (32 - s) < 2 ^ (32 - s) := Int.emod_lt_of_pos _ (Em _)
  have h3 : 2 ^ s * (x % 2 ^ (32 - s)) ≤ 2 ^ s * (2 ^ (32 - s) - 1) := Int.mul_le_mul_of_nonneg_left (by omega) (Int.le_of_lt (Em s))
  rw [Int.mul_sub, Int.mul_comm (2 ^ s) (2 ^ (32 - s)), e] at h3
  have h4 := Int.emod_nonneg (x * 2 ^ s) (show (4294967296 : Int) ≠ 0 by decide)
  rw [← Abd (Nat.le_of_lt hs)] at h3
  omega
theorem Tq {l : List Int} {s : Nat} (hs : s < 32) (hl : rng 4294967296 l) : ∀ i, rng 4294967296 (Gr l s i).1
  | 0 => fun x hx => by simp [Gr] at hx
  | i + 1 => by
    have hc := Ou hs hl i
    have h := Yo (x := l.getD i 0) hs hc.1 hc.2
    exact Mh (Tq hs hl i) h.1 h.2
theorem Me {l : List Int} {s : Nat} : ∀ i, i ≤ l.length → vb 4294967296 (Gr l s i).1 + ((4294967296 ^ i : Nat) : Int) * (Gr l s i).2 = vb 4294967296 (l.take i) * 2 ^ s
  | 0, _ => by simp [Gr, vb]
  | i + 1, h => by
    have ih := Me (s := s) i (by omega : i ≤ l.length)
    rw [Of (by omega), Hw, List.length_take, Nat.min_eq_left (by omega), Int.add_mul, ← ih]
    simp only [Gr]
    rw [Hw, Eg, Int.mul_assoc _ (l.getD i 0)]
    generalize l.getD i 0 * 2 ^ s = x
    generalize (Gr l s i).2 = c
    rw [Nat.pow_succ, Int.natCast_mul, show ((4294967296 : Nat) : Int) = 4294967296 from rfl]
    generalize ((4294967296 ^ i : Nat) : Int) = p
    have e : x = x % 4294967296 + 4294967296 * (x / 4294967296) := by omega
    have e1 : p * x = p * (x % 4294967296) + p * (4294967296 * (x / 4294967296)) := by rw [← Int.mul_add, ← e]
    rw [e1, Int.mul_add, Int.mul_assoc p]
    omega
def shR (l : List Int) (s w i : Nat) : List Int := List.replicate w 0 ++ Ca ((Gr l s i).1 ++ [(Gr l s i).2]) (l.length + 1)
theorem Vr {l : List Int} {s w i : Nat} (h : i ≤ l.length) : (shR l s w i).length = w + (l.length + 1) := by
  unfold shR
  rw [List.length_append, List.length_replicate, Ed (by simp [Eg]; omega)]
theorem Abe {l : List Int} {s w : Nat} : List.replicate (l.length + w + 1) (0 : Int) = shR l s w 0 := by
  unfold shR Ca
  simp only [Gr, List.nil_append, List.length_singleton]
  rw [show l.length + w + 1 = w + (1 + (l.length + 1 - 1)) by omega, ← List.replicate_append_replicate, ← List.replicate_append_replicate]
  rfl
theorem O2 {w i : Nat} {l : List Int} {v : Int} : (List.replicate w 0 ++ l).set ((0 + (i + w)) * 1) v = List.replicate w 0 ++ l.set ((0 + i) * 1) v := by
  rw [Nat.mul_one, Nat.mul_one, Nat.zero_add, Nat.zero_add, List.set_append_right _ _ (by simp), List.length_replicate, Nat.add_sub_cancel]
theorem Vz {w i : Nat} {l : List Int} : (List.replicate w 0 ++ l).getD ((0 + (i + w)) * 1) 0 = l.getD ((0 + i) * 1) 0 := by
  rw [Nat.mul_one, Nat.mul_one, Nat.zero_add, Nat.zero_add, List.getD_eq_getElem?_getD, List.getElem?_append_right (by simp), List.length_replicate, Nat.add_sub_cancel, List.getD_eq_getElem?_getD]
theorem Vs {l : List Int} {s w i : Nat} : (shR l s w i).getD ((0 + (i + w)) * 1) 0 = (Gr l s i).2 := by
  unfold shR
  rw [Vz]
  have h := @Mz (Gr l s i).1 (Gr l s i).2 (l.length + 1)
  rw [Eg] at h; exact h
theorem Vq {l : List Int} {s w i : Nat} (h : i < l.length) : ((shR l s w i).set ((0 + (i + w)) * 1) ((Gr l s i).2 + l.getD i 0 * 2 ^ s % 4294967296)).set ((0 + (i + w + 1)) * 1) (l.getD i 0 * 2 ^ s / 4294967296) = shR l s w (i + 1) := by
  have h1 := @Mf (Gr l s i).1 (Gr l s i).2 ((Gr l s i).2 + l.getD i 0 * 2 ^ s % 4294967296) (l.length + 1)
  rw [Eg] at h1
  unfold shR
  rw [O2, h1, show i + w + 1 = (i + 1) + w by omega, O2]
  congr 1
  have hl : (Gr l s (i + 1)).1.length = i + 1 := Eg l s (i + 1)
  have h2 := @Dz (Gr l s (i + 1)).1 (l.length + 1) (l.getD i 0 * 2 ^ s / 4294967296) (by omega)
  rw [hl] at h2
  rw [Nat.zero_add, Nat.mul_one]
  exact h2
theorem Vt {x n : Nat} : trm (shR (Ar B32 x) (n % 32) (n / 32) (Ar B32 x).length) = Ar B32 (x * 2 ^ n) := by
  have hr := Es (b := B32) (by decide) x
  have hs : n % 32 < 32 := by omega
  have hc := Ou hs hr (Ar B32 x).length
  have hp := Wb hs
  have hv := Me (l := Ar B32 x) (s := n % 32) (Ar B32 x).length (Nat.le_refl _)
  rw [List.take_of_length_le (Nat.le_refl _), Hy (b := B32) (by decide)] at hv
  have e : shR (Ar B32 x) (n % 32) (n / 32) (Ar B32 x).length = List.replicate (n / 32) 0 ++ ((Gr (Ar B32 x) (n % 32) (Ar B32 x).length).1 ++ [(Gr (Ar B32 x) (n % 32) (Ar B32 x).length).2]) := by
    unfold shR
    rw [Dh (by simp [Eg])]
  rw [e]
  refine Ef (by decide) (Vv (by decide) (Mh (Tq hs hr _) hc.1 (by show _ < (4294967296 : Int); omega)) _) ?_
  rw [Tg, Hw, Eg, hv, Xc]
  rw [← Pc, ← Int.natCast_mul, ← Int.natCast_mul]
  congr 1
  rw [Nat.mul_left_comm, ← Nat.pow_add]
  congr 2
  omega
theorem Lh {x : Int} {s : Nat} (hs : s < 32) (h0 : 0 ≤ x) (h1 : x < 4294967296) : IntKind.u64.wrap (x * 2 ^ min ((s : Int)).toNat 64) = x * 2 ^ s := by
  rw [Li (by omega)]
  have h2 : x * 2 ^ s ≤ 4294967295 * 2147483648 := Int.mul_le_mul (by omega) (Wb hs) (Int.le_of_lt (Em s)) (by decide)
  have h3 : 0 ≤ x * 2 ^ s := Int.mul_nonneg h0 (Int.le_of_lt (Em s))
  omega
theorem Mv {z y : Nat} (h : z < y * B32) : (Ar B32 z).length ≤ (Ar B32 y).length + 1 := by
  refine Gp (by decide) _ _ (Nat.lt_trans h ?_)
  rw [Nat.pow_succ]
  exact Nat.mul_lt_mul_of_pos_right (Gy (by decide) y) (by decide)
theorem Uc {z y : Nat} (h : z ≤ y) : (Ar B32 z).length ≤ (Ar B32 y).length := In (by decide) z y h
theorem Yg {x : Nat} : x / B32 ^ (Ar B32 x).length = 0 := Nat.div_eq_of_lt (Gy (by decide) x)
theorem Jx {x y k : Nat} (hy : 0 < y) (hk : 0 < k) :
    x / B32 ^ (k - 1) / y = B32 * (x / B32 ^ k / y) + (x / B32 ^ k % y * B32 + x / B32 ^ (k - 1) % B32) / y ∧ x / B32 ^ (k - 1) % y = (x / B32 ^ k % y * B32 + x / B32 ^ (k - 1) % B32) % y := by
  obtain ⟨k, rfl⟩ : ∃ m, k = m + 1 := ⟨k - 1, by omega⟩
  rw [Nat.add_sub_cancel]
  have e : x / B32 ^ (k + 1) = x / B32 ^ k / B32 := by rw [Nat.pow_succ, Nat.div_div_eq_div_mul]
  rw [e]
  generalize x / B32 ^ k = X
  have e1 := Nat.mod_add_div X B32
  have e2 := Nat.mod_add_div (X / B32) y
  generalize hd : X % B32 = d at *
  generalize hX : X / B32 = Z at *
  generalize hq : Z / y = q at *
  generalize hr : Z % y = r at *
  have e3 : X = (r * B32 + d) + y * (B32 * q) := by
    have e4 : X = d + B32 * (r + y * q) := by rw [e2]; exact e1.symm
    rw [e4, Nat.mul_add, Nat.mul_left_comm B32 y q, Nat.mul_comm B32 r]
    omega
  rw [e3]
  refine ⟨?_, ?_⟩
  · rw [Nat.add_mul_div_left _ _ hy]; omega
  · rw [Nat.add_mul_mod_self_left]
theorem Aci {x y k : Nat} (hy : 0 < y) : x / B32 ^ k % y * B32 + x / B32 ^ (k - 1) % B32 < y * B32 := by
  have h1 := Nat.mod_lt (x / B32 ^ k) hy
  have h2 := Nat.mod_lt (x / B32 ^ (k - 1)) (show 0 < B32 by decide)
  generalize x / B32 ^ k % y = r at *
  generalize x / B32 ^ (k - 1) % B32 = d at *
  show r * 4294967296 + d < y * 4294967296
  have : d < 4294967296 := h2
  omega
def Hlv (R y t q : Nat) : Prop := t ≤ 32 ∧ y * q ≤ R ∧ R - y * q < y * 2 ^ t ∧ q + 2 ^ t ≤ 4294967296
theorem Zu {R y : Nat} (h : R < y * B32) : Hlv R y 32 0 := ⟨Nat.le_refl _, by rw [Nat.mul_zero]; omega, by rw [Nat.mul_zero]; exact h, by decide⟩
theorem P7 {R y s q : Nat} (h : Hlv R y (s + 1) q) (hc : y * 2 ^ s ≤ R - y * q) : Hlv R y s (q + 2 ^ s) ∧ R - y * q - y * 2 ^ s = R - y * (q + 2 ^ s) := by
  obtain ⟨h1, h2, h3, h4⟩ := h
  rw [Nat.pow_succ, ← Nat.mul_assoc] at h3
  rw [Nat.pow_succ] at h4
  have e : y * (q + 2 ^ s) = y * q + y * 2 ^ s := Nat.mul_add _ _ _
  unfold Hlv
  rw [e]
  generalize y * 2 ^ s = p at *
  generalize y * q = z at *
  generalize 2 ^ s = u at *
  omega
theorem Ue {R y s q : Nat} (h : Hlv R y (s + 1) q) (hc : ¬ y * 2 ^ s ≤ R - y * q) : Hlv R y s q := by
  obtain ⟨h1, h2, h3, h4⟩ := h
  rw [Nat.pow_succ] at h4
  exact ⟨by omega, h2, by omega, by omega⟩
theorem P9 {R y q : Nat} (h : Hlv R y 0 q) : q = R / y ∧ R - y * q = R % y := by
  obtain ⟨h1, h2, h3, h4⟩ := h
  rw [Nat.pow_zero, Nat.mul_one] at h3
  have hy : 0 < y := by omega
  have e : R = (R - y * q) + y * q := by omega
  refine ⟨?_, ?_⟩
  · conv => rhs; rw [e, Nat.add_mul_div_left _ _ hy, Nat.div_eq_of_lt h3, Nat.zero_add]
  · conv => rhs; rw [e, Nat.add_mul_mod_self_left, Nat.mod_eq_of_lt h3]
theorem P8 {R y t q : Nat} (h : R < y * B32) : (Ar B32 (R - y * q)).length ≤ (Ar B32 y).length + 1 := Mv (Nat.lt_of_le_of_lt (Nat.sub_le _ _) h)
theorem Q1 {s : Nat} (hs : s < 32) : IntKind.u64.wrap (1 * 2 ^ min ((s : Int)).toNat 64) = ((2 ^ s : Nat) : Int) := by
  rw [Lh hs (by decide) (by decide), Int.one_mul, Pc]
theorem Abi {s : Nat} (hs : s < 32) : 2 ^ s ≤ 2147483648 := Nat.pow_le_pow_right (n := 2) (by decide) (show s ≤ 31 by omega)
theorem Ub {y s : Nat} (hy : 0 < y) (hs : s < 32) : (Ar B32 (y * 2 ^ s)).length ≤ (Ar B32 y).length + 1 :=
  Mv (Nat.mul_lt_mul_of_pos_left (Nat.lt_of_le_of_lt (Abi hs) (by decide)) hy)
theorem Abb {d : Nat} (h : d < B32) : trm [(d : Int)] = Ar B32 d := Ef (by decide) (fun x hx => by rw [List.mem_singleton] at hx; subst hx; exact ⟨by omega, by exact_mod_cast h⟩) (by simp [vb])
theorem Qt {x y : Nat} (h : y ≤ x) : 0 ≤ Gq (x : Int) y := by unfold Gq; (repeat' split) <;> omega
theorem Qq {x y : Nat} (h : ¬ 0 ≤ Gq (x : Int) y) : x < y := Nat.lt_of_not_le fun hle => h (Qt hle)
theorem V9 {n : Nat} (h : n < 4611686018427387904) : IntKind.i64.wrap (Int.tdiv (n : Int) 32) = ((n / 32 : Nat) : Int) := by
  rw [Int.tdiv_eq_ediv_of_nonneg (by omega), Ag (by omega) (by omega)]; omega
theorem Abg {n : Nat} : Int.tmod (n : Int) 32 = ((n % 32 : Nat) : Int) := by
  rw [Int.tmod_eq_emod_of_nonneg (by omega)]; omega
structure Qd (x y k : Nat) (Q : List Int) : Prop where
  r : rng B32 Q
  v : vb B32 Q = ((x / B32 ^ k / y : Nat) : Int)
  l : Q.length = (Ar B32 x).length - k
theorem Ac7 {x y : Nat} : Qd x y (Ar B32 x).length [] := ⟨fun z hz => by simp at hz, by rw [Yg, Nat.zero_div]; rfl, by simp⟩
theorem Qd.next {x y k : Nat} {Q : List Int} (h : Qd x y k Q) (hy : 0 < y) (hk : 0 < k) (hkl : k ≤ (Ar B32 x).length) : Qd x y (k - 1) (((x / B32 ^ k % y * B32 + x / B32 ^ (k - 1) % B32) / y : Nat) :: Q) := by
  have hd := Jx (x := x) hy hk
  have hR := Aci (x := x) (k := k) hy
  refine ⟨R4 h.r (Int.natCast_nonneg _) (Int.ofNat_lt.2 (Nat.div_lt_of_lt_mul hR)), ?_, by rw [List.length_cons, h.l]; omega⟩
  show ((((x / B32 ^ k % y * B32 + x / B32 ^ (k - 1) % B32) / y : Nat) : Int)) + (B32 : Int) * vb B32 Q = _
  rw [h.v, hd.1, Int.natCast_add, Int.natCast_mul, Int.add_comm]
theorem Qd.fin {x y : Nat} {Q : List Int} (h : Qd x y 0 Q) : trm Q = Ar B32 (x / y) := Ef (by decide) h.r (by rw [h.v, Nat.pow_zero, Nat.div_one])


theorem Xa {v w : Int} (h : v.natAbs ≤ w.natAbs) : (dg v).length ≤ (dg w).length := Uc h
theorem Adr : (dg 1).length = 1 := by
  have h : lm 1 = [1] := by rw [← Sv (by decide) (by decide)]; rfl
  have e : dg 1 = Ar B32 1 := rfl
  rw [e, Ck (by decide) (by decide)]
  have : 1 / B32 = 0 := rfl
  rw [this, Cu]; rfl
theorem zfl {v w : Int} : zs (ng v w) (v.natAbs / w.natAbs) = sgd (ng v w) (qn v w) := by
  unfold zs sgd qn
  rw [← Int.natCast_ediv]
theorem Tu {v w : Int} : rn v w = ((v.natAbs % w.natAbs : Nat) : Int) := by unfold rn; rw [← Int.natCast_emod]
theorem Zx {v w : Int} (h : ng v w = false ∨ v.natAbs % w.natAbs = 0) : zs (ng v w) (v.natAbs / w.natAbs) = flo v w := by
  rw [zfl]
  unfold flo sgd
  rw [Tu]
  rcases h with h | h
  · rw [h]; simp
  · rw [h]; simp
theorem Abt {v w : Int} (h1 : ng v w = true) (h2 : ¬ v.natAbs % w.natAbs = 0) : zs (ng v w) (v.natAbs / w.natAbs) - 1 = flo v w := by
  rw [zfl]
  unfold flo sgd
  rw [Tu, h1, if_pos rfl, if_pos rfl, if_neg (by omega)]
theorem K2 {n : Nat} : ((Ar B32 n).length : Int) = 0 ↔ n = 0 := by
  rw [← Jz (n := n), ← List.length_eq_zero_iff]; omega
theorem Ads : dg 0 = [] := Cu




def Xq (x : Int) (r : List Int) (e : Int) : Prop := (e = 0 ∧ r = lm x ∧ Aq x ≤ 67108864) ∨ (e = 3 ∧ r = [] ∧ 67108864 < Aq x)
theorem W3 {l : List Int} {x : Int} (u : Az l) (hv : vl l = x) (h : Fi l ≤ 67108864) : Xq x (trm l) 0 := .inl ⟨rfl, El u hv, by rwa [← Gi u hv]⟩
theorem Sy {l : List Int} {x : Int} (u : Az l) (hv : vl l = x) (h : 67108864 < Fi l) : Xq x [] 3 := .inr ⟨rfl, rfl, by rwa [← Gi u hv]⟩
theorem W4 {x : Int} {r : List Int} (h : Acs x r 3) : Xq x [] 3 := by
  rcases h with ⟨h, _⟩ | ⟨_, h⟩
  · cases h
  · exact .inr ⟨rfl, rfl, h⟩
def lbN (a : List Int) (m : Int) : Nat → List Int × Int
  | 0 => ([], 0)
  | i + 1 => ((lbN a m i).1 ++ [(a.getD i 0 * m % 18446744073709551616 + (lbN a m i).2) % 18446744073709551616], a.getD i 0 * m / 18446744073709551616 + (a.getD i 0 * m % 18446744073709551616 + (lbN a m i).2) / 18446744073709551616)
def lbL (a : List Int) (m : Int) : List Int := (lbN a m a.length).1 ++ [(lbN a m a.length).2]
theorem Jg {v : Int} (h : 0 ≤ v) : vl (lm v) = v := by rw [T8]; omega
theorem Ys {l : List Int} (hu : Az l) (j : Nat) : l.getD j 0 = (((vl l).toNat / 18446744073709551616 ^ j % 18446744073709551616 : Nat) : Int) := by
  obtain ⟨k, hk⟩ := Od l
  have e : trm l = lm (vl l) := El hu rfl
  have h0 := Bk hu
  have hd := Io (b := 18446744073709551616) (by decide) j (vl l).natAbs
  have hn : (vl l).natAbs = (vl l).toNat := by omega
  rw [hn] at hd
  rw [← hd]
  have e2 : trm l = Ar 18446744073709551616 (vl l).toNat := by rw [e]; unfold lm; rw [hn]
  rw [← e2]
  conv => lhs; rw [hk]
  rcases Nat.lt_or_ge j (trm l).length with hj | hj
  · rw [List.getD_eq_getElem?_getD, List.getElem?_append_left hj, List.getD_eq_getElem?_getD]
  · rw [C5 hj, List.getD_eq_getElem?_getD, List.getElem?_append_right hj]
    rcases Nat.lt_or_ge (j - (trm l).length) k with h | h
    · rw [List.getElem?_replicate, if_pos h]; rfl
    · rw [List.getElem?_replicate, if_neg (by omega)]; rfl


def pmS (m r h e : Nat) : Nat := if e % 2 = 0 then h * h % m else h * h % m * r % m
def pmK (m r : Nat) : Nat → Nat → Nat
  | 0, _ => 1 % m
  | f + 1, e => pmS m r (pmK m r f (e / 2)) e
def Y3 (p : Nat) : Bool := (List.range 32).all fun d => decide (d < 2) || decide (p < d * d) || decide (p % d ≠ 0)
def Adp (p : Nat) : Bool := !Y3 p || (List.range 32).all fun r => Nat.beq (pmK p r 10 p) (r % p)


structure Co (a b r s x y : Int) : Prop where
  dr : b ∣ a * x - r
  ds : b ∣ a * y - s
  gc : ∀ d : Int, (d ∣ r ∧ d ∣ s) ↔ (d ∣ a ∧ d ∣ b)
  bx : x.natAbs ≤ b.natAbs
  by_ : y.natAbs ≤ b.natAbs
  br : r.natAbs ≤ max a.natAbs b.natAbs
  bs : s.natAbs ≤ b.natAbs
  st : (r = a ∧ s = b ∧ x = 1 ∧ y = 0) ∨ (r = b ∧ 0 ≤ s ∧ s < b.natAbs ∧ x = 0 ∧ y = 1) ∨
       (0 < r ∧ 0 ≤ s ∧ s < r ∧ ((0 ≤ x ∧ y ≤ 0 ∧ x * s - y * r = b.natAbs) ∨ (x ≤ 0 ∧ 0 ≤ y ∧ y * r - x * s = b.natAbs))) ∨
       (0 < r ∧ 0 ≤ s ∧ s < r ∧ x = 1 ∧ 0 ≤ y ∧ y * r = b.natAbs + s)
theorem Co.fin {a b r x y : Int} (h : Co a b r 0 x y) : (∀ d : Int, d ∣ r ↔ (d ∣ a ∧ d ∣ b)) ∧ b ∣ a * x - r ∧ r ∣ a ∧ r ∣ b := by
  have h1 : ∀ d : Int, d ∣ r ↔ (d ∣ a ∧ d ∣ b) := fun d => by
    rw [← h.gc d]
    exact ⟨fun hd => ⟨hd, Int.dvd_zero d⟩, fun hd => hd.1⟩
  have h2 := (h1 r).1 (Int.dvd_refl r)
  exact ⟨h1, h.dr, h2.1, h2.2⟩


structure CoE (a b g x : Int) : Prop where
  g0 : 0 ≤ g
  gc : ∀ d : Int, d ∣ g ↔ (d ∣ a ∧ d ∣ b)
  dx : b ∣ a * x - g
  bx : x.natAbs ≤ b.natAbs
  bg : g.natAbs ≤ max a.natAbs b.natAbs
theorem Co.pos {a b r x y : Int} (h : Co a b r 0 x y) (hr : 0 ≤ r) : CoE a b r x := ⟨hr, h.fin.1, h.dr, h.bx, h.br⟩
theorem Hq (v w : Int) : Aq (v * w) ≤ Aq v + Aq w := by
  refine B4.2 ?_
  rw [Int.natAbs_mul, Nat.pow_add]
  have h1 : v.natAbs < 2 ^ Aq v := B4.1 (Nat.le_refl _)
  have h2 : w.natAbs < 2 ^ Aq w := B4.1 (Nat.le_refl _)
  exact Nat.mul_lt_mul'' h1 h2


theorem Sn (a b : Int) : Aq (a - b) ≤ max (Aq a) (Aq b) + 1 := by
  refine B4.2 ?_
  have h1 : a.natAbs < 2 ^ Aq a := B4.1 (Nat.le_refl _)
  have h2 : b.natAbs < 2 ^ Aq b := B4.1 (Nat.le_refl _)
  have h3 : 2 ^ Aq a ≤ 2 ^ max (Aq a) (Aq b) := Nat.pow_le_pow_right (by decide) (by omega)
  have h4 : 2 ^ Aq b ≤ 2 ^ max (Aq a) (Aq b) := Nat.pow_le_pow_right (by decide) (by omega)
  rw [Nat.pow_succ]
  omega
def InvP (v w : Int) (s : Bool) (l : List Int) (e : Int) : Prop :=
  ∃ g x : Int, CoE (v % w) (w.natAbs : Int) g x ∧ ((g ≠ 1 ∧ s = false ∧ l = [] ∧ e = 61) ∨ (g = 1 ∧ s = decide (x % (w.natAbs : Int) < 0) ∧ l = lm (x % (w.natAbs : Int)) ∧ e = 0))
theorem R2 {v w g g2 x x2 : Int} (h : CoE v w g x) (h2 : CoE (v % w) (w.natAbs : Int) g2 x2) : g2 = g := by
  have hww : ∀ d : Int, d ∣ (w.natAbs : Int) ↔ d ∣ w := fun d => Int.dvd_natAbs
  have key : ∀ d : Int, (d ∣ v % w ∧ d ∣ (w.natAbs : Int)) ↔ (d ∣ v ∧ d ∣ w) := fun d => by
    rw [hww]
    have e := Int.emod_add_mul_ediv v w
    constructor
    · rintro ⟨h1, h2⟩
      refine ⟨?_, h2⟩
      rw [← e]
      exact Int.dvd_add h1 (Int.dvd_trans h2 (Int.dvd_mul_right w _))
    · rintro ⟨h1, h2⟩
      refine ⟨?_, h2⟩
      have : v % w = v - w * (v / w) := by omega
      rw [this]
      exact Int.dvd_sub h1 (Int.dvd_trans h2 (Int.dvd_mul_right w _))
  have d1 : g2 ∣ g := (h.gc g2).2 ((key g2).1 ((h2.gc g2).1 (Int.dvd_refl g2)))
  have d2 : g ∣ g2 := (h2.gc g).2 ((key g).2 ((h.gc g).1 (Int.dvd_refl g)))
  have := Nat.dvd_antisymm (Int.natAbs_dvd_natAbs.2 d1) (Int.natAbs_dvd_natAbs.2 d2)
  have := h.g0
  have := h2.g0
  omega


theorem F2 {s : Bool} {l : List Int} (u : Az l) : Aq (sv s l) ≤ 64 * l.length := by
  rw [← (Ex (s := s) u rfl).2.2]
  exact Ih l
theorem InvP.no {v w g x : Int} {s : Bool} {l : List Int} {e : Int} (h : InvP v w s l e) (hE : CoE v w g x) (hg : g ≠ 1) : e = 61 := by
  obtain ⟨g2, x2, h2, h3⟩ := h
  have := R2 hE h2
  rcases h3 with ⟨_, _, _, h⟩ | ⟨h, _⟩
  · exact h
  · omega

theorem Ab5 (n : Nat) (hn : n < 1000000) (rs : Nat → List Int) (hlen : ∀ j, j < n → (rs j).length < 1099511627776) : SpecM Tryd.prog 15 [.o 0 0 0 n] (B0 n (Jp n rs) (owR rs) []) (fun o _ => o = .ret (.b true)) := by
  refine Md [(0, .o 0 0 0 n)] rfl (_) rfl Tryd.func15 rfl (zlb rfl) fun Γ hN hds => ?_
  have hd := Bu 112 hN
  refine Hr (H' := B0 n (Jp n rs) (owF rs 0) []) Sb <| zsr <| zas rfl (hd 2 rfl) <| Ab <| Ae <| zsr <| zmv rfl (hd 13 rfl) <| Ac (Dc Vk rfl rfl) (hd 14 rfl) <| zmv rfl (hd 15 rfl) <| Ab <| Au ?_
  refine Bv (G := Nat) (fun i => i ≤ n) (fun i => [(15, .i .i64 (i : Int)), (3, .u), (4, .u), (5, .u), (16, .u), (17, .u), (18, .u), (19, .u), (20, .u), (21, .u), (22, .u), (23, .u), (24, .u), (25, .u), (26, .u), (27, .u), (28, .u), (29, .u), (30, .u), (31, .u), (32, .u), (33, .u)]) (fun i => B0 n (Jp n rs) (owF rs i) []) (fun i => n - i) 0 ?_ ?_ rfl ?_
  · exact Nat.zero_le _
  · exact (.cons rfl (.v9 (.v9 (.u .nil))))
  · rintro i hc1; refine zsr <| Ac (Bp rfl rfl) (hd 16 rfl) <| Ab <| Ae ?_
    refine Bc rfl (fun h1 => ?_) (fun h1 => ?_)
    · have hi : i < n := by omega
      have hl := hlen i hi
      refine Ai <| Ae <| Au <| zsr <| zmv rfl (hd 17 rfl) <| Ac (Cz (i := i) Vk rfl rfl rfl (by first | rfl | omega) (by first | omega | (dsimp only; omega)) rfl) (hd 18 rfl) <| Ac (A9 Nm rfl rfl (V3 hi rfl)) (hd 19 rfl) <| zas rfl (hd 3 rfl) <| zas rfl (hd 4 rfl) <| Ab <| Ae <| Hr (H' := B0 n (Jp n rs) (upd (owF rs i) i (owK rs i 0)) []) Abj ?_; refine Af <| zmv rfl (hd 20 rfl) <| Ac (Dc Fy rfl (Mi hi)) (hd 21 rfl) <| zmv rfl (hd 22 rfl) <| Ab <| Au ?_
      refine Bv (G := Nat) (fun k => k ≤ (rs i).length) (fun k => [(22, .i .i64 (k : Int)), (5, .u), (23, .u), (24, .u), (25, .u), (26, .u), (27, .u), (28, .u), (29, .u), (30, .u), (31, .u), (32, .u)]) (fun k => B0 n (Jp n rs) (upd (owF rs i) i (owK rs i k)) []) (fun k => (rs i).length - k) 0 ?_ ?_ rfl ?_
      · exact Nat.zero_le _
      · exact (.cons rfl (.v9 (.u .nil)))
      · rintro k hc2; refine zsr <| Ac (Bp rfl rfl) (hd 23 rfl) <| Ab <| Ae ?_
        refine Bc rfl (fun h2 => ?_) (fun h2 => ?_)
        · have hk : k < (rs i).length := by omega
          have hkl : k < (List.replicate k (owC i) ++ (rs i).drop k).length := by simp; omega
          refine Ai <| Ae <| Au <| zsr <| zmv rfl (hd 24 rfl) <| zas rfl (hd 5 rfl) <| Ab <| Af <| zmv rfl (hd 25 rfl) <| zmv rfl (hd 26 rfl) <| zmv rfl (hd 27 rfl) <| Ac (D8 rfl rfl (by decide) rfl) (hd 28 rfl) ?_; refine Ac (Av rfl rfl (r := owC i) (by rw [show ((i : Int).tmod 251) = ((i % 251 : Nat) : Int) from rfl, Ag (by omega) (by omega)]; unfold owC; omega)) (hd 29 rfl) <| Ac (Dd Ma Ix rfl (r := owC i) (by unfold owC; rw [A5 (by omega) (by omega)])) (hd 30 rfl) <| Ac (Cz (i := k) Fy rfl (Mi hi) rfl rfl (by omega) rfl) (hd 31 rfl) <| A6 (Bz rfl rfl (Mi hi) Bm (by omega)) <| Ab <| Af <| Ac (Av rfl rfl (Ag (by first | omega | (dsimp only; omega)) (by first | omega | (dsimp only; omega)))) (hd 32 rfl) <| zmv rfl (hd 22 rfl) <| Ab ?_
          refine ⟨k + 1, ?_, ?_, (Wc hi (by omega)), Bb 24 rfl rfl ?_⟩
          · omega
          · omega
          · exact (.cons rfl (.v9 (.u .nil)))
        · refine Br <| Af <| Ac (Av rfl rfl (Ag (by first | omega | (dsimp only; omega)) (by first | omega | (dsimp only; omega)))) (hd 33 rfl) <| zmv rfl (hd 15 rfl) <| Ab ?_
          refine ⟨i + 1, ?_, ?_, (Y8 (by omega) (by omega)), Bb 46 rfl rfl ?_⟩
          · omega
          · omega
          · exact (.cons rfl (.v9 (.v9 (.u .nil))))
    · refine Br <| Ae <| Ae <| Hr (H' := B0 n (owL n rs 0) (owG rs 0) []) (Y7 (by omega)) <| Af <| zmv rfl (hd 34 rfl) <| Ac (Dc Vk rfl rfl) (hd 35 rfl) <| zmv rfl (hd 36 rfl) <| Ab <| Au ?_
      refine Bv (G := Nat × List Ob) (fun g => g.1 ≤ n) (fun g => [(36, .i .i64 (g.1 : Int)), (6, .u), (7, .u), (8, .u), (37, .u), (38, .u), (39, .u), (40, .u), (41, .u), (42, .u), (43, .u), (44, .u), (45, .u), (46, .u), (47, .u), (48, .u), (49, .u), (50, .u), (51, .u), (52, .u), (53, .u), (54, .u), (55, .u), (56, .u), (57, .u), (58, .u), (59, .u), (60, .u), (61, .u)]) (fun g => B0 n (owL n rs g.1) (owG rs g.1) g.2) (fun g => n - g.1) (0, []) ?_ ?_ rfl ?_
      · exact Nat.zero_le _
      · exact (.cons rfl (.v9 (.v9 (.v5 (.u (.u (.u .nil)))))))
      · rintro ⟨i, J⟩ hc1
        dsimp only at hc1 ⊢
        refine zsr <| Ac (Bp rfl rfl) (hd 37 rfl) <| Ab <| Ae ?_
        refine Bc rfl (fun h3 => ?_) (fun h3 => ?_)
        · have hi : i < n := by omega
          have hl := hlen i hi
          refine Ai <| Ae <| Au <| zsr <| zmv rfl (hd 38 rfl) <| Ac (Cz (i := i) Vk rfl rfl rfl (by first | rfl | omega) (by first | omega | (dsimp only; omega)) rfl) (hd 39 rfl) <| Ac (A9 Nm rfl rfl (Sd hi)) (hd 40 rfl) <| zas rfl (hd 6 rfl) <| zas rfl (hd 7 rfl) <| Ab <| Ae <| Af ?_; refine zmv rfl (hd 41 rfl) <| Ac (Dn rfl rfl (r := ((5 * i : Nat) : Int)) (by rw [Ag (by omega) (by omega)]; omega)) (hd 42 rfl) <| Ac (Av rfl rfl (r := ((300 + 5 * i : Nat) : Int)) (by rw [Ag (by omega) (by omega)]; omega)) (hd 43 rfl) <| Ac (Dd Ma Ix rfl (r := ((300 + 5 * i : Nat) : Int)) (by rw [A5 (by omega) (by omega)]; try omega)) (hd 44 rfl) <| zas rfl (hd 8 rfl) <| Ab <| zsr <| zmv rfl (hd 45 rfl) <| zmv rfl (hd 46 rfl) <| zmv rfl (hd 47 rfl) <| Ac (Av rfl rfl (r := ((300 + 5 * i + 1 : Nat) : Int)) (by rw [A5 (by omega) (by omega)]; try omega)) (hd 48 rfl) <| zmv rfl (hd 49 rfl) ?_; refine Ac (Av rfl rfl (r := ((300 + 5 * i + 2 : Nat) : Int)) (by rw [A5 (by omega) (by omega)]; try omega)) (hd 50 rfl) <| zmv rfl (hd 51 rfl) <| Ac (Av rfl rfl (r := ((300 + 5 * i + 3 : Nat) : Int)) (by rw [A5 (by omega) (by omega)]; try omega)) (hd 52 rfl) <| zmv rfl (hd 53 rfl) <| Ac (Av rfl rfl (r := ((300 + 5 * i + 4 : Nat) : Int)) (by rw [A5 (by omega) (by omega)]; try omega)) (hd 54 rfl) <| Bl (Gl (id := n + 1 + J.length) (xs := [.tmp 46, .tmp 48, .tmp 50, .tmp 52, .tmp 54]) W5 rfl (Aa rfl (Aa rfl (Aa rfl (Aa rfl (Aa rfl Ad))))) rfl (Ey rfl) (by decide) O0) (hd 55 rfl) <| Ach (H' := B0 n (owL n rs i) (owG rs i) (J ++ [⟨58, 1, 0, true, ints .u64 (owB i)⟩])) Yw <| P2 W5 rfl (Wd hi) (by simp [ints]) rfl (Vi Vx rfl rfl) (by omega) (by unfold maxLen; omega) (hd 56 rfl) <| Ach (Wf hi) <| zas rfl (hd 7 rfl) <| Ab <| Af <| zmv rfl (hd 57 rfl) ?_; refine zmv rfl (hd 58 rfl) <| zmv rfl (hd 59 rfl) <| Ac (Cz (i := i) Vk rfl rfl rfl (by first | rfl | omega) (by first | omega | (dsimp only; omega)) rfl) (hd 60 rfl) <| A6 (Ah rfl rfl rfl Abc rfl (by simp [cellsV, I0, Mi hi, owE]) (by simp [owL]; omega)) <| Ab <| Af <| Ac (Av rfl rfl (Ag (by first | omega | (dsimp only; omega)) (by first | omega | (dsimp only; omega)))) (hd 61 rfl) <| zmv rfl (hd 36 rfl) <| Ab ?_
          refine ⟨(i + 1, _), ?_, ?_, (We hi), Bb 59 rfl rfl ?_⟩
          · show i + 1 ≤ n; omega
          · show n - (i + 1) < n - i; omega
          · exact (.cons rfl (.v9 (.v9 (.v5 (.u (.u (.u .nil)))))))
        · refine Br <| Ae <| zsr <| zmv rfl (hd 62 rfl) <| Ac (Dc Vk rfl rfl) (hd 63 rfl) <| zmv rfl (hd 64 rfl) <| Ab <| Au ?_
          refine Bv (G := Nat) (fun q => q ≤ n) (fun q => [(64, .i .i64 (q : Int)), (2, .u), (9, .u), (10, .u), (11, .u), (12, .u), (65, .u), (66, .u), (67, .u), (68, .u), (69, .u), (70, .u), (71, .u), (72, .u), (73, .u), (74, .u), (75, .u), (76, .u), (77, .u), (78, .u), (79, .u), (80, .u), (81, .u), (82, .u), (83, .u), (84, .u), (85, .u), (86, .u), (87, .u), (88, .u), (89, .u), (90, .u), (91, .u), (92, .u), (93, .u), (94, .u), (95, .u), (96, .u), (97, .u), (98, .u), (99, .u), (100, .u), (101, .u), (102, .u), (103, .u), (104, .u), (105, .u), (106, .u), (107, .u), (108, .u), (109, .u), (110, .u), (111, .u)]) (fun q => B0 n (owL n rs i) (owG rs i) J) (fun q => n - q) 0 ?_ ?_ rfl ?_
          · exact Nat.zero_le _
          · exact (.cons rfl (.v9 (.v9 (.v9 (.v9 (.v9 (.u (.u .nil))))))))
          · rintro q hc2; refine zsr <| Ac (Bp rfl rfl) (hd 65 rfl) <| Ab <| Ae ?_
            refine Bc rfl (fun h4 => ?_) (fun h4 => ?_)
            · have hi : q < n := by omega
              have hl := hlen q hi
              have hm : ¬ i < n := by omega
              refine Ai <| Ae <| Au <| zsr <| zmv rfl (hd 66 rfl) <| Ac (Cz (i := q) Vk rfl rfl rfl (by first | rfl | omega) (by first | omega | (dsimp only; omega)) rfl) (hd 67 rfl) <| Ac (A9 Nm rfl rfl (Sc hi hm)) (hd 68 rfl) <| zas rfl (hd 9 rfl) <| zas rfl (hd 10 rfl) <| Ab <| Ae <| Af ?_; refine zmv rfl (hd 69 rfl) <| Ac (Dc Fy rfl (E9 hi hm)) (hd 70 rfl) <| zmv rfl (hd 71 rfl) <| Ab <| Au ?_
              refine Bv (G := Nat) (fun k => k ≤ (rs q).length + 5) (fun k => [(71, .i .i64 (k : Int)), (2, .u), (11, .u), (12, .u), (72, .u), (73, .u), (74, .u), (75, .u), (76, .u), (77, .u), (78, .u), (79, .u), (80, .u), (81, .u), (82, .u), (83, .u), (84, .u), (85, .u), (86, .u), (87, .u), (88, .u), (89, .u), (90, .u), (91, .u), (92, .u), (93, .u), (94, .u), (95, .u), (96, .u), (97, .u), (98, .u), (99, .u), (100, .u), (101, .u), (102, .u), (103, .u), (104, .u), (105, .u), (106, .u), (107, .u), (108, .u), (109, .u), (110, .u)]) (fun k => B0 n (owL n rs i) (owG rs i) J) (fun k => (rs q).length + 5 - k) 0 ?_ ?_ rfl ?_
              · exact Nat.zero_le _
              · exact (.cons rfl (.v9 (.v9 (.v9 (.v9 (.u (.u .nil)))))))
              · rintro k hc3; refine zsr <| Ac (Bp rfl rfl) (hd 72 rfl) <| Ab <| Ae ?_
                refine Bc rfl (fun h5 => ?_) (fun h5 => ?_)
                · have hk : k < (rs q).length + 5 := by omega
                  have hkl := Y9 (rs := rs) (i := q)
                  refine Ai <| Ae <| Au <| zsr <| zmv rfl (hd 73 rfl) <| Ac (Cz (i := k) Fy rfl (E9 hi hm) rfl rfl (by omega) rfl) (hd 74 rfl) <| Ac (Bo (Fv Bm rfl (E9 hi hm) (by omega)) (congrArg (V.i .u64) (Y6 hk))) (hd 75 rfl) <| zas rfl (hd 11 rfl) <| zas rfl (hd 12 rfl) <| Ab <| Ae <| Af ?_; refine zmv rfl (hd 76 rfl) <| zmv rfl (hd 77 rfl) <| Ac (Dc Fy rfl (E9 hi hm)) (hd 78 rfl) <| Ac (Bt rfl rfl (r := (((rs q).length : Nat) : Int)) (by rw [Ag (by omega) (by omega)]; omega)) (hd 79 rfl) <| Ac (Bp rfl rfl) (hd 80 rfl) <| zmv rfl (hd 81 rfl) ?_
                  refine Ea 81 rfl (fun h6 => ?_) (fun h6 => ?_)
                  · refine Ay 81 rfl rfl (At rfl) (hd 82 rfl) <| Ay 81 rfl rfl (At rfl) (hd 83 rfl) <| Ay 81 rfl rfl (D8 rfl rfl (by decide) rfl) (hd 84 rfl) <| Ay 81 rfl rfl (Av rfl rfl (r := owC q) (by rw [show ((q : Int).tmod 251) = ((q % 251 : Nat) : Int) from rfl, Ag (by omega) (by omega)]; unfold owC; omega)) (hd 85 rfl) <| Ay 81 rfl rfl (Dd Ma Ix rfl (r := owC q) (by unfold owC; rw [A5 (by omega) (by omega)])) (hd 86 rfl) <| Ay 81 rfl rfl (Be (Dy rfl rfl) (fun h => h (if_pos (by omega)))) (hd 87 rfl) <| Ac (Bi rfl rfl) (hd 88 rfl) <| zmv rfl (hd 89 rfl) <| Ay 89 rfl rfl (At rfl) (hd 90 rfl) <| Ay 89 rfl rfl (At rfl) (hd 91 rfl) <| Ay 89 rfl rfl (Dc Fy rfl (E9 hi hm)) (hd 92 rfl) <| Ay 89 rfl rfl (Bt rfl rfl (r := (((rs q).length : Nat) : Int)) (by rw [Ag (by omega) (by omega)]; omega)) (hd 93 rfl) <| Ay 89 rfl rfl (Dl rfl rfl) (hd 94 rfl) ?_; refine Ay 89 rfl rfl (At rfl) (hd 95 rfl) ?_
                    refine Ea 95 rfl (fun h7 => ?_) (fun h7 => ?_)
                    · refine Ay 95 rfl rfl (At rfl) (hd 96 rfl) <| Ay 95 rfl rfl (At rfl) (hd 97 rfl) <| Ay 95 rfl rfl (Dn rfl rfl (r := ((5 * q : Nat) : Int)) (by rw [Ag (by omega) (by omega)]; omega)) (hd 98 rfl) <| Ay 95 rfl rfl (Av rfl rfl (r := ((300 + 5 * q : Nat) : Int)) (by rw [Ag (by omega) (by omega)]; omega)) (hd 99 rfl) <| Ay 95 rfl rfl (At rfl) (hd 100 rfl) <| Ay 95 rfl rfl (Av rfl rfl (r := ((300 + 5 * q + k : Nat) : Int)) (by rw [Ag (by omega) (by omega)]; omega)) (hd 101 rfl) <| Ay 95 rfl rfl (At rfl) (hd 102 rfl) <| Ay 95 rfl rfl (Dc Fy rfl (E9 hi hm)) (hd 103 rfl) <| Ay 95 rfl rfl (Bt rfl rfl (r := ((300 + 5 * q + k - ((rs q).length + 5) : Nat) : Int)) (by rw [Ag (by omega) (by omega)]; omega)) (hd 104 rfl) <| Ay 95 rfl rfl (Av rfl rfl (r := ((300 + 5 * q + (k - (rs q).length) : Nat) : Int)) (by rw [Ag (by omega) (by omega)]; omega)) (hd 105 rfl) <| Ay 95 rfl rfl (Dd Ma Ix rfl (r := ((300 + 5 * q + (k - (rs q).length) : Nat) : Int)) (by rw [A5 (by omega) (by omega)]; try omega)) (hd 106 rfl) <| Ay 95 rfl rfl (Be (Dy rfl rfl) (fun h => h (if_neg (by omega)))) (hd 107 rfl) <| Ay 89 rfl rfl (Bi rfl rfl) (hd 108 rfl) ?_; refine Ac (Bn rfl rfl) (hd 109 rfl) <| Ab <| Aw rfl <| Ai <| Af <| Ac (Av rfl rfl (Ag (by first | omega | (dsimp only; omega)) (by first | omega | (dsimp only; omega)))) (hd 110 rfl) <| zmv rfl (hd 71 rfl) <| Ab ?_
                      refine ⟨k + 1, ?_, ?_, rfl, Bb 87 rfl rfl ?_⟩
                      · omega
                      · omega
                      · exact (.cons rfl (.v9 (.v9 (.v9 (.v9 (.u (.u .nil)))))))
                    · refine Bh 95 rfl rfl rfl (hd 96 rfl) <| Bh 95 rfl rfl rfl (hd 97 rfl) <| Bh 95 rfl rfl rfl (hd 98 rfl) <| Bh 95 rfl rfl rfl (hd 99 rfl) <| Bh 95 rfl rfl rfl (hd 100 rfl) <| Bh 95 rfl rfl rfl (hd 101 rfl) <| Bh 95 rfl rfl rfl (hd 102 rfl) <| Bh 95 rfl rfl rfl (hd 103 rfl) <| Bh 95 rfl rfl rfl (hd 104 rfl) <| Bh 95 rfl rfl rfl (hd 105 rfl) <| Bh 95 rfl rfl rfl (hd 106 rfl) <| Bh 95 rfl rfl rfl (hd 107 rfl) <| Ay 89 rfl rfl (Bn rfl rfl) (hd 108 rfl) ?_; refine Ac (Bn rfl rfl) (hd 109 rfl) <| Ab <| Aw rfl <| Ai <| Af <| Ac (Av rfl rfl (Ag (by first | omega | (dsimp only; omega)) (by first | omega | (dsimp only; omega)))) (hd 110 rfl) <| zmv rfl (hd 71 rfl) <| Ab ?_
                      refine ⟨k + 1, ?_, ?_, rfl, Bb 87 rfl rfl ?_⟩
                      · omega
                      · omega
                      · exact (.cons rfl (.v9 (.v9 (.v9 (.v9 (.u (.u .nil)))))))
                  · refine Bh 81 rfl rfl rfl (hd 82 rfl) <| Bh 81 rfl rfl rfl (hd 83 rfl) <| Bh 81 rfl rfl rfl (hd 84 rfl) <| Bh 81 rfl rfl rfl (hd 85 rfl) <| Bh 81 rfl rfl rfl (hd 86 rfl) <| Bh 81 rfl rfl rfl (hd 87 rfl) <| Ac (Bn rfl rfl) (hd 88 rfl) <| zmv rfl (hd 89 rfl) <| Ay 89 rfl rfl (At rfl) (hd 90 rfl) <| Ay 89 rfl rfl (At rfl) (hd 91 rfl) <| Ay 89 rfl rfl (Dc Fy rfl (E9 hi hm)) (hd 92 rfl) <| Ay 89 rfl rfl (Bt rfl rfl (r := (((rs q).length : Nat) : Int)) (by rw [Ag (by omega) (by omega)]; omega)) (hd 93 rfl) <| Ay 89 rfl rfl (Dl rfl rfl) (hd 94 rfl) ?_; refine Ay 89 rfl rfl (At rfl) (hd 95 rfl) ?_
                    refine Ea 95 rfl (fun h10 => ?_) (fun h10 => ?_)
                    · refine Ay 95 rfl rfl (At rfl) (hd 96 rfl) <| Ay 95 rfl rfl (At rfl) (hd 97 rfl) <| Ay 95 rfl rfl (Dn rfl rfl (r := ((5 * q : Nat) : Int)) (by rw [Ag (by omega) (by omega)]; omega)) (hd 98 rfl) <| Ay 95 rfl rfl (Av rfl rfl (r := ((300 + 5 * q : Nat) : Int)) (by rw [Ag (by omega) (by omega)]; omega)) (hd 99 rfl) <| Ay 95 rfl rfl (At rfl) (hd 100 rfl) <| Ay 95 rfl rfl (Av rfl rfl (r := ((300 + 5 * q + k : Nat) : Int)) (by rw [Ag (by omega) (by omega)]; omega)) (hd 101 rfl) <| Ay 95 rfl rfl (At rfl) (hd 102 rfl) <| Ay 95 rfl rfl (Dc Fy rfl (E9 hi hm)) (hd 103 rfl) <| Ay 95 rfl rfl (Bt rfl rfl (r := ((300 + 5 * q + k - ((rs q).length + 5) : Nat) : Int)) (by rw [Ag (by omega) (by omega)]; omega)) (hd 104 rfl) <| Ay 95 rfl rfl (Av rfl rfl (r := ((300 + 5 * q + (k - (rs q).length) : Nat) : Int)) (by rw [Ag (by omega) (by omega)]; omega)) (hd 105 rfl) <| Ay 95 rfl rfl (Dd Ma Ix rfl (r := ((300 + 5 * q + (k - (rs q).length) : Nat) : Int)) (by rw [A5 (by omega) (by omega)]; try omega)) (hd 106 rfl) <| Ay 95 rfl rfl (Be (Dy rfl rfl) (fun h => h (if_neg (by omega)))) (hd 107 rfl) <| Ay 89 rfl rfl (Bi rfl rfl) (hd 108 rfl) ?_; refine Ac (Bn rfl rfl) (hd 109 rfl) <| Ab <| Aw rfl <| Ai <| Af <| Ac (Av rfl rfl (Ag (by first | omega | (dsimp only; omega)) (by first | omega | (dsimp only; omega)))) (hd 110 rfl) <| zmv rfl (hd 71 rfl) <| Ab ?_
                      refine ⟨k + 1, ?_, ?_, rfl, Bb 87 rfl rfl ?_⟩
                      · omega
                      · omega
                      · exact (.cons rfl (.v9 (.v9 (.v9 (.v9 (.u (.u .nil)))))))
                    · refine Bh 95 rfl rfl rfl (hd 96 rfl) <| Bh 95 rfl rfl rfl (hd 97 rfl) <| Bh 95 rfl rfl rfl (hd 98 rfl) <| Bh 95 rfl rfl rfl (hd 99 rfl) <| Bh 95 rfl rfl rfl (hd 100 rfl) <| Bh 95 rfl rfl rfl (hd 101 rfl) <| Bh 95 rfl rfl rfl (hd 102 rfl) <| Bh 95 rfl rfl rfl (hd 103 rfl) <| Bh 95 rfl rfl rfl (hd 104 rfl) <| Bh 95 rfl rfl rfl (hd 105 rfl) <| Bh 95 rfl rfl rfl (hd 106 rfl) <| Bh 95 rfl rfl rfl (hd 107 rfl) <| Ay 89 rfl rfl (Bn rfl rfl) (hd 108 rfl) ?_; refine Ac (Bn rfl rfl) (hd 109 rfl) <| Ab <| Aw rfl <| Ai <| Af <| Ac (Av rfl rfl (Ag (by first | omega | (dsimp only; omega)) (by first | omega | (dsimp only; omega)))) (hd 110 rfl) <| zmv rfl (hd 71 rfl) <| Ab ?_
                      refine ⟨k + 1, ?_, ?_, rfl, Bb 87 rfl rfl ?_⟩
                      · omega
                      · omega
                      · exact (.cons rfl (.v9 (.v9 (.v9 (.v9 (.u (.u .nil)))))))
                · refine Br <| Af <| Ac (Av rfl rfl (Ag (by first | omega | (dsimp only; omega)) (by first | omega | (dsimp only; omega)))) (hd 111 rfl) <| zmv rfl (hd 64 rfl) <| Ab ?_
                  refine ⟨q + 1, ?_, ?_, rfl, Bb 108 (by kernel_rfl) (by kernel_rfl) ?_⟩
                  · omega
                  · omega
                  · exact (.cons rfl (.v9 (.v9 (.v9 (.v9 (.v9 (.u (.u .nil))))))))
            · refine Br <| zsr <| zas rfl (hd 2 rfl) <| Ab <| Ak ?_
              refine ⟨_, (.cons rfl .nil), rfl, (Zb (m := i)), ?_⟩
              exact rfl

theorem D4 (l : List Int) (hl : l.length < 1099511627776) : Spec Tryd.prog 46 [.n false .u64 l] (fun o => o = .ret (.n false .u64 (trm l))) := by
  refine An [(0, .n false .u64 l)] rfl Tryd.func46 rfl (zlb rfl) fun Γ hN hds hL hR => ?_
  have hd := Bu 21 hN
  refine zsr <| zas rfl (hd 2 rfl) <| Ab <| Ae <| Au ?_
  refine Bv (G := Nat) (fun k => k ≤ l.length ∧ tN l k = tN l l.length) (fun k => [(0, .n false .u64 (l.take k)), (3, .u), (4, .u), (5, .u), (6, .u), (7, .u), (8, .u), (9, .u), (10, .u), (11, .u), (12, .u), (13, .u), (14, .u), (15, .u), (16, .u), (17, .u), (18, .u), (19, .u)]) (fun _ => _) (fun k => k) l.length ?_ ?_ rfl ?_
  · exact ⟨Nat.le_refl _, rfl⟩
  · exact (.cons (by rw [List.take_length]; rfl) (.v9 (.v5 (.u (.u .nil)))))
  · rintro k ⟨hc1, hc2⟩
    have hm : (l.take k).length = k := by rw [List.length_take]; omega
    refine Ae <| zsr <| zmv rfl (hd 3 rfl) <| Ac (Al Bj rfl) (hd 4 rfl) <| Ac (B6 rfl rfl) (hd 5 rfl) <| zmv rfl (hd 6 rfl) ?_
    refine Ea 6 rfl (fun h1 => ?_) (fun h1 => ?_)
    · refine Ay 6 rfl rfl (At rfl) (hd 7 rfl) <| Ay 6 rfl rfl (At rfl) (hd 8 rfl) <| Ay 6 rfl rfl (Al Bj rfl) (hd 9 rfl) <| Ay 6 rfl rfl (Bt rfl rfl (Ag (by omega) (by omega))) (hd 10 rfl) <| Ay 6 rfl rfl (Bx (i := k - 1) Bj rfl rfl (by first | rfl | omega) (by omega)) (hd 11 rfl) <| Ay 6 rfl rfl (Bw Bm rfl rfl) (hd 12 rfl) <| Ay 6 rfl rfl (B7 rfl rfl) (hd 13 rfl) <| Ac (Bi rfl rfl) (hd 14 rfl) <| Ab ?_
      refine Bc rfl (fun h2 => ?_) (fun h2 => ?_)
      · refine Ai <| Au <| Af <| zmv rfl (hd 15 rfl) <| zmv rfl (hd 16 rfl) <| Ac (Al Bj rfl) (hd 17 rfl) <| Ac (Bt rfl rfl (Ag (by omega) (by omega))) (hd 18 rfl) <| Ac (Ks Bj rfl J3 (C7 rfl (show ((l.take k).length : Int) - 1 = ((k - 1 : Nat) : Int) by omega)) (.inl rfl) (by omega) (by omega)) (hd 19 rfl) <| zas rfl (hd 0 rfl) <| Ab ?_
        refine ⟨k - 1, ?_, ?_, rfl, Bb 37 rfl rfl ?_⟩
        · exact ⟨by omega, by rw [← hc2, Oh (by omega) (by rw [← Il (show k - 1 < k by omega)]; assumption)]⟩
        · omega
        · exact (.cons (by show some (V.n false .u64 _) = some (V.n false .u64 _); rw [List.drop_zero, List.take_take, Nat.min_eq_left (by omega)]) (.v9 (.v5 (.u (.u .nil)))))
      · refine Br <| zsr <| zmv rfl (hd 20 rfl) <| zas rfl (hd 2 rfl) <| Ab <| Ak ?_
        refine ⟨_, _, (.cons rfl .nil), .n, ?_⟩
        unfold trm
        rw [← hc2, Lg (by omega) (by rw [← Il (show k - 1 < k by omega)]; assumption)]
    · refine Bh 6 rfl rfl rfl (hd 7 rfl) <| Bh 6 rfl rfl rfl (hd 8 rfl) <| Bh 6 rfl rfl rfl (hd 9 rfl) <| Bh 6 rfl rfl rfl (hd 10 rfl) <| Bh 6 rfl rfl rfl (hd 11 rfl) <| Bh 6 rfl rfl rfl (hd 12 rfl) <| Bh 6 rfl rfl rfl (hd 13 rfl) <| Ac (Bn rfl rfl) (hd 14 rfl) <| Ab <| Aw rfl <| Br <| Ae <| Af ?_; refine zmv rfl (hd 20 rfl) <| zas rfl (hd 2 rfl) <| Ab <| Ak ?_
      refine ⟨_, _, (.cons rfl .nil), .n, ?_⟩
      unfold trm
      rw [← hc2, Ab8 (by omega)]

theorem Ej (l : List Int) (hl : l.length < 1099511627776) : Spec Tryd.prog 39 [.n false .u64 l] (fun o => o = .ret (.n true .u64 (trm l))) := by
  refine An [(0, .n false .u64 l)] rfl Tryd.func39 rfl (zlb rfl) fun Γ hN hds hL hR => ?_
  have hd := Bu 6 hN
  have hm := C2 l
  refine zsr <| zas rfl (hd 2 rfl) <| Ab <| zsr <| zmv rfl (hd 3 rfl) ?_
  refine Aj Tryd.f46 (D4 l hl) rfl Tryd.func46 rfl rfl (Aa rfl Ad) (.cons .n .nil) (hd 4 rfl) ?_ (fun ch hp => by simp at hp)
  rintro _ ⟨⟩; refine Bl (P6 (id := 0) Ns rfl rfl Yk (by omega) (by unfold maxLen; omega) rfl) (hd 5 rfl) <| zas rfl (hd 2 rfl) <| Ab <| Ak ?_
  refine ⟨_, _, (.cons rfl .nil), (.o rfl (by simp) rfl), ?_⟩
  rw [List.drop_zero, List.take_length]

set_option maxRecDepth 100000 in
theorem Xp (x : Nat) (hx : x < 18446744073709551616) : Spec Tryd.prog 54 [.i .u64 (x : Int)] (fun o => o = .ret (.i .i64 (bl 64 x : Int))) := by
  refine An [(0, .i .u64 (x : Int))] rfl Tryd.func54 rfl (zlb rfl) fun Γ hN hds hL hR => ?_
  have hd := Bu 25 hN
  refine zsr <| zas rfl (hd 2 rfl) <| Ab ?_
  refine Cx (G := Nat × Nat) (fun g => bl 64 x = g.2 + bl 64 g.1 ∧ g.1 < 4294967296 ∧ g.2 ≤ 32) (fun g => [(0, .i .u64 (g.1 : Int)), (2, .i .i64 (g.2 : Int)), (3, .u), (4, .u), (5, .u), (6, .u)]) ?_ ?_
  · refine zsr <| zmv rfl (hd 3 rfl) <| Ac (Dl rfl rfl) (hd 4 rfl) <| Ab ?_
    refine Bc rfl (fun h1 => ?_) (fun h1 => ?_)
    · refine zsr <| zmv rfl (hd 5 rfl) <| Ac (Bo (D7 rfl rfl (by first | omega | (dsimp only; omega)) rfl) (show V.i .u64 _ = V.i .u64 ((x / 4294967296 : Nat) : Int) from congrArg (V.i .u64) (Eq (by decide)))) (hd 6 rfl) <| zas rfl (hd 0 rfl) <| Ab <| Af <| zas rfl (hd 2 rfl) <| Ab ?_
      refine ⟨(x / 4294967296, 32), ?_, rfl, Bb 6 rfl rfl ?_⟩
      · exact ⟨by have h9 := G1 (k := 32) (by decide) (show 2 ^ 32 ≤ x by omega) (by omega); rw [show 2 ^ 32 = 4294967296 by decide] at h9; dsimp only; omega, by dsimp only; omega, by dsimp only; omega⟩
      · exact (.cons rfl (.cons (by show some (V.i .i64 _) = some (V.i .i64 _); rfl) (.u (.u (.u (.u .nil))))))
    · refine Ai ?_
      refine ⟨(x, 0), ?_, rfl, Bb 2 rfl rfl ?_⟩
      · exact ⟨by dsimp only; omega, by dsimp only; omega, by dsimp only; omega⟩
      · exact (.cons rfl (.cons (by show some (V.i .i64 _) = some (V.i .i64 _); rfl) (.u (.u (.u (.u .nil))))))
  · rintro ⟨x1, n1⟩ ⟨he1, hx1, hn1⟩
    dsimp only at he1 hx1 hn1
    refine Cx (G := Nat × Nat) (fun g => bl 64 x = g.2 + bl 64 g.1 ∧ g.1 < 65536 ∧ g.2 ≤ 48) (fun g => [(0, .i .u64 (g.1 : Int)), (2, .i .i64 (g.2 : Int)), (7, .u), (8, .u), (9, .u), (10, .u), (11, .u), (12, .u)]) ?_ ?_
    · refine zsr <| zmv rfl (hd 7 rfl) <| Ac (Dl rfl rfl) (hd 8 rfl) <| Ab ?_
      refine Bc rfl (fun h2 => ?_) (fun h2 => ?_)
      · refine zsr <| zmv rfl (hd 9 rfl) <| Ac (Bo (D7 rfl rfl (by first | omega | (dsimp only; omega)) rfl) (show V.i .u64 _ = V.i .u64 ((x1 / 65536 : Nat) : Int) from congrArg (V.i .u64) (Eq (by decide)))) (hd 10 rfl) <| zas rfl (hd 0 rfl) <| Ab <| Af <| zmv rfl (hd 11 rfl) <| Ac (Av rfl rfl (r := ((n1 + 16 : Nat) : Int)) (by rw [Ag (by omega) (by omega)]; omega)) (hd 12 rfl) <| zas rfl (hd 2 rfl) <| Ab ?_
        refine ⟨(x1 / 65536, n1 + 16), ?_, rfl, Bb 8 rfl rfl ?_⟩
        · exact ⟨by have h9 := G1 (k := 16) (by decide) (show 2 ^ 16 ≤ x1 by omega) (by omega); rw [show 2 ^ 16 = 65536 by decide] at h9; dsimp only; omega, by dsimp only; omega, by dsimp only; omega⟩
        · exact (.cons rfl (.cons (by show some (V.i .i64 _) = some (V.i .i64 _); rfl) (.v5 (.u .nil))))
      · refine Ai ?_
        refine ⟨(x1, n1), ?_, rfl, Bb 2 rfl rfl ?_⟩
        · exact ⟨by dsimp only; omega, by dsimp only; omega, by dsimp only; omega⟩
        · exact (.cons rfl (.cons (by show some (V.i .i64 _) = some (V.i .i64 _); rfl) (.v5 (.u .nil))))
    · rintro ⟨x2, n2⟩ ⟨he2, hx2, hn2⟩
      dsimp only at he2 hx2 hn2
      refine Cx (G := Nat × Nat) (fun g => bl 64 x = g.2 + bl 64 g.1 ∧ g.1 < 256 ∧ g.2 ≤ 56) (fun g => [(0, .i .u64 (g.1 : Int)), (2, .i .i64 (g.2 : Int)), (13, .u), (14, .u), (15, .u), (16, .u), (17, .u), (18, .u)]) ?_ ?_
      · refine zsr <| zmv rfl (hd 13 rfl) <| Ac (Dl rfl rfl) (hd 14 rfl) <| Ab ?_
        refine Bc rfl (fun h3 => ?_) (fun h3 => ?_)
        · refine zsr <| zmv rfl (hd 15 rfl) <| Ac (Bo (D7 rfl rfl (by first | omega | (dsimp only; omega)) rfl) (show V.i .u64 _ = V.i .u64 ((x2 / 256 : Nat) : Int) from congrArg (V.i .u64) (Eq (by decide)))) (hd 16 rfl) <| zas rfl (hd 0 rfl) <| Ab <| Af <| zmv rfl (hd 17 rfl) <| Ac (Av rfl rfl (r := ((n2 + 8 : Nat) : Int)) (by rw [Ag (by omega) (by omega)]; omega)) (hd 18 rfl) <| zas rfl (hd 2 rfl) <| Ab ?_
          refine ⟨(x2 / 256, n2 + 8), ?_, rfl, Bb 8 rfl rfl ?_⟩
          · exact ⟨by have h9 := G1 (k := 8) (by decide) (show 2 ^ 8 ≤ x2 by omega) (by omega); rw [show 2 ^ 8 = 256 by decide] at h9; dsimp only; omega, by dsimp only; omega, by dsimp only; omega⟩
          · exact (.cons rfl (.cons (by show some (V.i .i64 _) = some (V.i .i64 _); rfl) (.v5 (.u .nil))))
        · refine Ai ?_
          refine ⟨(x2, n2), ?_, rfl, Bb 2 rfl rfl ?_⟩
          · exact ⟨by dsimp only; omega, by dsimp only; omega, by dsimp only; omega⟩
          · exact (.cons rfl (.cons (by show some (V.i .i64 _) = some (V.i .i64 _); rfl) (.v5 (.u .nil))))
      · rintro ⟨x3, n3⟩ ⟨he3, hx3, hn3⟩
        dsimp only at he3 hx3 hn3
        refine zsr <| zmv rfl (hd 19 rfl) <| zmv rfl (hd 20 rfl) <| Ac (Dd Ix Aa9 rfl (Ut (by first | omega | (dsimp only; omega)) (by first | omega | (dsimp only; omega)))) (hd 21 rfl) <| Ac (Zl (b := Pw) (i := x3) Ac0 (by kernel_rfl) rfl rfl (show x3 < 256 by omega)) (hd 22 rfl) ?_
        have h7 := Kw hx3
        have h8 := S4 64 x3
        refine Ac (Dd Aa9 Ma rfl (Ag (by first | omega | (dsimp only; omega)) (by first | omega | (dsimp only; omega)))) (hd 23 rfl) <| Ac (Av rfl rfl (Ag (by first | omega | (dsimp only; omega)) (by first | omega | (dsimp only; omega)))) (hd 24 rfl) <| zas rfl (hd 2 rfl) <| Ab <| Ak ?_
        refine ⟨_, _, (.cons rfl .nil), .i, ?_⟩
        have h7 := Kw hx3
        rw [h7, he3]
        rfl

theorem Hd (v : Int) : Spec Tryd.prog 33 [.i .u64 v] (fun o => o = .ret (.n true .u64 (if v = 0 then [] else [v]))) := by
  refine An [(0, .i .u64 v)] rfl Tryd.func33 rfl (zlb rfl) fun Γ hN hds hL hR => ?_
  have hd := Bu 7 hN
  refine zsr <| zas rfl (hd 2 rfl) <| Ab <| Ae <| zsr <| zmv rfl (hd 3 rfl) <| Ac (B7 rfl rfl) (hd 4 rfl) <| Ab ?_
  refine Bc rfl (fun h1 => ?_) (fun h1 => ?_)
  · refine zsr <| zas rfl (hd 2 rfl) <| Ab <| Ak ?_
    refine ⟨_, _, (.cons rfl .nil), (.nil (fr := true) (k := .u64)), ?_⟩
    rw [if_pos (by assumption)]
  · refine Ai <| zsr <| zmv rfl (hd 5 rfl) <| Bl (Gl (id := 0) (xs := [.tmp 5]) Ns rfl (Aa rfl Ad) rfl (Ey rfl) (by decide) rfl) (hd 6 rfl) <| zas rfl (hd 2 rfl) <| Ab <| Ak ?_
    refine ⟨_, _, (.cons rfl .nil), (.o (T := 58) (k := .u64) (l := [v]) rfl (by simp) rfl), ?_⟩
    rw [if_neg (by assumption)]
    rfl

theorem Du (l : List Int) (hl : l.length < 1099511627776) (hu : Az l) : Spec Tryd.prog 40 [.n false .u64 l] (fun o => o = .ret (.i .i64 (Fi l : Int))) := by
  refine An [(0, .n false .u64 l)] rfl Tryd.func40 rfl (zlb rfl) fun Γ hN hds hL hR => ?_
  have hd := Bu 20 hN
  have hm := C2 l
  refine zsr <| zas rfl (hd 2 rfl) <| Ab <| zsr <| zmv rfl (hd 3 rfl) ?_
  refine Aj Tryd.f46 (D4 l hl) rfl Tryd.func46 rfl rfl (Aa rfl Ad) (.cons .n .nil) (hd 4 rfl) ?_ (fun ch hp => by simp at hp)
  rintro _ ⟨⟩; refine zas rfl (hd 0 rfl) <| Ab <| Ae <| zsr <| zmv rfl (hd 5 rfl) <| Ac (Al Bj rfl) (hd 6 rfl) <| Ac (B7 rfl rfl) (hd 7 rfl) <| Ab ?_
  refine Bc rfl (fun h1 => ?_) (fun h1 => ?_)
  · refine zsr <| zas rfl (hd 2 rfl) <| Ab <| Ak ?_
    refine ⟨_, _, (.cons rfl .nil), .i, ?_⟩
    unfold Fi
    rw [if_pos (by omega)]
    rfl
  · have htop := Lc (Cb hu) (i := (trm l).length - 1) (by omega)
    have hbl := S4 64 ((trm l).getD ((trm l).length - 1) 0).toNat
    refine Ai <| zsr <| zmv rfl (hd 8 rfl) <| Ac (Al Bj rfl) (hd 9 rfl) <| Ac (Bt rfl rfl (Ag (by omega) (by omega))) (hd 10 rfl) <| Ac (Dn rfl rfl (Ag (by omega) (by omega))) (hd 11 rfl) <| zmv rfl (hd 12 rfl) <| zmv rfl (hd 13 rfl) <| Ac (Al Bj rfl) (hd 14 rfl) <| Ac (Bt rfl rfl (Ag (by omega) (by omega))) (hd 15 rfl) <| Ac (Bx (i := (trm l).length - 1) Bj rfl rfl (by first | rfl | omega) (by omega)) (hd 16 rfl) <| Ac (Bo (Bw Bm rfl rfl) (show V.i .u64 ((trm l).getD ((trm l).length - 1) 0) = V.i .u64 (((trm l).getD ((trm l).length - 1) 0).toNat : Int) by rw [Int.toNat_of_nonneg htop.1])) (hd 17 rfl) ?_
    refine Aj Tryd.f54 (Xp ((trm l).getD ((trm l).length - 1) 0).toNat (by omega)) rfl Tryd.func54 rfl rfl (Aa rfl Ad) (.cons .i .nil) (hd 18 rfl) ?_ (fun ch hp => by simp at hp)
    rintro _ ⟨⟩; refine Ac (Av rfl rfl (Ag (by omega) (by omega))) (hd 19 rfl) <| zas rfl (hd 2 rfl) <| Ab <| Ak ?_
    refine ⟨_, _, (.cons rfl .nil), .i, ?_⟩
    unfold Fi
    rw [if_neg (by omega)]
    show Out.ret (V.i .i64 _) = Out.ret (V.i .i64 _)
    congr 2
    omega

theorem Lb (a b : List Int) (ha : a.length < 4294967296) (hb : b.length < 4294967296) : Spec Tryd.prog 78 [.n false .u64 a, .n false .u64 b] (fun o => o = .ret (.i .i64 (Nw (trm a) (trm b)))) := by
  refine An [(0, .n false .u64 a), (1, .n false .u64 b)] rfl Tryd.func78 rfl (zlb rfl) fun Γ hN hds hL hR => ?_
  have hd := Bu 45 hN
  have hma := C2 a
  have hmb := C2 b
  refine zsr <| zas rfl (hd 4 rfl) <| Ab <| zsr <| zmv rfl (hd 6 rfl) ?_
  refine Aj Tryd.f46 (D4 a (by omega)) rfl Tryd.func46 rfl rfl (Aa rfl Ad) (.cons .n .nil) (hd 7 rfl) ?_ (fun ch hp => by simp at hp)
  rintro _ ⟨⟩; refine zmv rfl (hd 8 rfl) ?_
  refine Aj Tryd.f46 (D4 b (by omega)) rfl Tryd.func46 rfl rfl (Aa rfl Ad) (.cons .n .nil) (hd 9 rfl) ?_ (fun ch hp => by simp at hp)
  rintro _ ⟨⟩; refine zas rfl (hd 0 rfl) <| zas rfl (hd 1 rfl) <| Ab <| Ae <| zsr <| zmv rfl (hd 10 rfl) <| Ac (Al Bj rfl) (hd 11 rfl) <| zmv rfl (hd 12 rfl) <| Ac (Al Bj rfl) (hd 13 rfl) <| Ac (Dy rfl rfl) (hd 14 rfl) <| Ab ?_
  refine Bc rfl (fun h1 => ?_) (fun h1 => ?_)
  · refine Ae <| zsr <| zmv rfl (hd 15 rfl) <| Ac (Al Bj rfl) (hd 16 rfl) <| zmv rfl (hd 17 rfl) <| Ac (Al Bj rfl) (hd 18 rfl) <| Ac (Bp rfl rfl) (hd 19 rfl) <| Ab ?_
    refine Bc rfl (fun h2 => ?_) (fun h2 => ?_)
    · refine zsr <| zas rfl (hd 4 rfl) <| Ab <| Ak ?_
      refine ⟨_, _, (.cons rfl .nil), .i, ?_⟩
      unfold Nw
      rw [if_pos (by omega)]
    · refine Ai <| zsr <| zas rfl (hd 4 rfl) <| Ab <| Ak ?_
      refine ⟨_, _, (.cons rfl .nil), .i, ?_⟩
      unfold Nw
      rw [if_neg (by omega), if_pos (by omega)]
  · refine Ai <| Ae <| zsr <| zmv rfl (hd 20 rfl) <| Ac (Al Bj rfl) (hd 21 rfl) <| Ac (Bt rfl rfl (Ag (by omega) (by omega))) (hd 22 rfl) <| zas rfl (hd 5 rfl) <| Ab <| Au ?_
    refine Bv (G := Nat) (fun k => k ≤ (trm a).length ∧ Ip (trm a) (trm b) k = Ip (trm a) (trm b) (trm a).length) (fun k => [(5, .i .i64 ((k : Int) - 1)), (4, .u), (23, .u), (24, .u), (25, .u), (26, .u), (27, .u), (28, .u), (29, .u), (30, .u), (31, .u), (32, .u), (33, .u), (34, .u), (35, .u), (36, .u), (37, .u), (38, .u), (39, .u), (40, .u), (41, .u), (42, .u), (43, .u), (44, .u)]) (fun _ => _) (fun k => k) (trm a).length ?_ ?_ rfl ?_
    · exact ⟨Nat.le_refl _, rfl⟩
    · exact (.cons rfl (.v9 (.v9 (.u (.u (.u .nil))))))
    · rintro k ⟨hc1, hc2⟩; refine Ae <| zsr <| zmv rfl (hd 23 rfl) <| Ac (Dl rfl rfl) (hd 24 rfl) <| Ab ?_
      refine Bc rfl (fun h3 => ?_) (fun h3 => ?_)
      · refine Ai <| Ae <| Au <| Ae <| Ae <| Cf (n := 9) _ rfl Dk <| A4 0 [2, 3, 8] (Am (At rfl) (hd 27 rfl)) rfl <| A4 1 [2, 3, 8] (Am (At rfl) (hd 28 rfl)) rfl <| A4 2 [3, 8] (Am (Bx (i := k - 1) Bj rfl rfl (by omega) (by omega)) (hd 29 rfl)) rfl <| zal 3 (Am (Bw Bm rfl rfl) (hd 30 rfl)) rfl <| A4 4 [6, 7, 8] (Am (At rfl) (hd 31 rfl)) rfl <| A4 5 [6, 7, 8] (Am (At rfl) (hd 32 rfl)) rfl <| A4 6 [7, 8] (Am (Bx (i := k - 1) Bj rfl rfl (by omega) (by omega)) (hd 33 rfl)) rfl ?_; refine zal 7 (Am (Bw Bm rfl rfl) (hd 34 rfl)) rfl <| zal 8 (Am (Bp rfl rfl) (hd 35 rfl)) rfl <| Bg (by kernel_rfl) ?_
        refine Bc rfl (fun h4 => ?_) (fun h4 => ?_)
        · refine zsr <| zas rfl (hd 4 rfl) <| Ab <| Ak ?_
          refine ⟨_, _, (.cons rfl .nil), .i, ?_⟩
          unfold Nw
          rw [if_neg (by omega), if_neg (by omega), ← hc2, Qu (by omega) (by assumption)]
        · refine Ai <| Ae <| Cf (n := 9) _ rfl Dk <| A4 0 [2, 3, 8] (Am (At rfl) (hd 36 rfl)) rfl <| A4 1 [2, 3, 8] (Am (At rfl) (hd 37 rfl)) rfl <| A4 2 [3, 8] (Am (Bx (i := k - 1) Bj rfl rfl (by omega) (by omega)) (hd 38 rfl)) rfl <| zal 3 (Am (Bw Bm rfl rfl) (hd 39 rfl)) rfl <| A4 4 [6, 7, 8] (Am (At rfl) (hd 40 rfl)) rfl <| A4 5 [6, 7, 8] (Am (At rfl) (hd 41 rfl)) rfl <| A4 6 [7, 8] (Am (Bx (i := k - 1) Bj rfl rfl (by omega) (by omega)) (hd 42 rfl)) rfl <| zal 7 (Am (Bw Bm rfl rfl) (hd 43 rfl)) rfl <| zal 8 (Am (B6 rfl rfl) (hd 44 rfl)) rfl <| Bg (by kernel_rfl) ?_
          refine Bc rfl (fun h5 => ?_) (fun h5 => ?_)
          · refine zsr <| zas rfl (hd 4 rfl) <| Ab <| Ak ?_
            refine ⟨_, _, (.cons rfl .nil), .i, ?_⟩
            unfold Nw
            rw [if_neg (by omega), if_neg (by omega), ← hc2, Qv (by omega) (by assumption)]
          · refine Ai <| Af <| zmv rfl (hd 25 rfl) <| Ac (Bt rfl rfl (Ag (by omega) (by omega))) (hd 26 rfl) <| zas rfl (hd 5 rfl) <| Ab ?_
            refine ⟨k - 1, ?_, ?_, rfl, Bb 47 rfl rfl ?_⟩
            · exact ⟨by omega, by rw [← hc2]; exact Qw (by omega) (by assumption) (by assumption)⟩
            · omega
            · exact (.cons (by show some (V.i .i64 _) = some (V.i .i64 _); congr 2; omega) (.v9 (.v9 (.u (.u (.u .nil))))))
      · refine Br <| zsr <| zas rfl (hd 4 rfl) <| Ab <| Ak ?_
        refine ⟨_, _, (.cons rfl .nil), .i, ?_⟩
        unfold Nw
        rw [if_neg (by omega), if_neg (by omega), ← hc2]
        obtain rfl : k = 0 := by omega
        rfl

theorem Le (l : List Int) (hl : l.length < 1099511627776) (hu : Az l) (h : Fi (trm l) ≤ 67108864) : Spec Tryd.prog 48 [.n false .u64 l] (fun o => o = .ret (.t [.n false .u64 (trm l), .i .i64 0])) := by
  refine An [(0, .n false .u64 l)] rfl Tryd.func48 rfl (zlb rfl) fun Γ hN hds hL hR => ?_
  have hd := Bu 10 hN
  have hm := C2 l
  refine zsr <| zas rfl (hd 2 rfl) <| zas rfl (hd 3 rfl) <| Ab <| zsr <| zmv rfl (hd 4 rfl) ?_
  refine Aj Tryd.f46 (D4 l hl) rfl Tryd.func46 rfl rfl (Aa rfl Ad) (.cons .n .nil) (hd 5 rfl) ?_ (fun ch hp => by simp at hp)
  rintro _ ⟨⟩; refine zas rfl (hd 0 rfl) <| Ab <| Ae <| zsr <| zmv rfl (hd 6 rfl) ?_
  refine Aj Tryd.f40 (Du (trm l) (by omega) (Cb hu)) rfl Tryd.func40 rfl rfl (Aa rfl Ad) (.cons .n .nil) (hd 7 rfl) ?_ (fun ch hp => by simp at hp)
  rintro _ ⟨⟩; refine Ac (Be (B6 rfl rfl) (by omega)) (hd 8 rfl) <| Ab <| Aw rfl <| Ai <| zsr <| zmv rfl (hd 9 rfl) <| zas rfl (hd 2 rfl) <| zas rfl (hd 3 rfl) <| Ab <| Ak ?_
  refine ⟨_, _, (.cons rfl (.cons rfl .nil)), (.t1 .n (.t1 .i .t0)), ?_⟩
  exact rfl


theorem Uo (a b : List Int) (ha : a.length < 4294967296) (hb : b.length < 4294967296) (ua : Az a) (ub : Az b) (h : Fi (trm (Oj a b)) ≤ 67108864) : Spec Tryd.prog 32 [.n false .u64 a, .n false .u64 b] (fun o => o = .ret (.t [.n false .u64 (trm (Oj a b)), .i .i64 0])) := by
  refine An [(0, .n false .u64 a), (1, .n false .u64 b)] rfl Tryd.func32 rfl (zlb rfl) fun Γ hN hds hL hR => ?_
  have hd := Bu 61 hN
  have hma := C2 a
  have hmb := C2 b
  refine zsr <| zas rfl (hd 4 rfl) <| zas rfl (hd 5 rfl) <| Ab <| zsr <| zmv rfl (hd 10 rfl) ?_
  refine Aj Tryd.f46 (D4 a (by omega)) rfl Tryd.func46 rfl rfl (Aa rfl Ad) (.cons .n .nil) (hd 11 rfl) ?_ (fun ch hp => by simp at hp)
  rintro _ ⟨⟩; refine zmv rfl (hd 12 rfl) ?_
  refine Aj Tryd.f46 (D4 b (by omega)) rfl Tryd.func46 rfl rfl (Aa rfl Ad) (.cons .n .nil) (hd 13 rfl) ?_ (fun ch hp => by simp at hp)
  rintro _ ⟨⟩; refine zas rfl (hd 0 rfl) <| zas rfl (hd 1 rfl) <| Ab ?_
  refine Cx (G := List Int × List Int) (fun g => swL (trm a) (trm b) = g ∧ g.1.length < 4294967296 ∧ Az g.1 ∧ Az g.2) (fun g => [(0, .n false .u64 g.1), (1, .n false .u64 g.2), (14, .u), (15, .u), (16, .u), (17, .u), (18, .u), (19, .u), (20, .u)]) ?_ ?_
  · refine zsr <| zmv rfl (hd 14 rfl) <| Ac (Al Bj rfl) (hd 15 rfl) <| zmv rfl (hd 16 rfl) <| Ac (Al Bj rfl) (hd 17 rfl) <| Ac (Bp rfl rfl) (hd 18 rfl) <| Ab ?_
    refine Bc rfl (fun h1 => ?_) (fun h1 => ?_)
    · refine Af <| zmv rfl (hd 19 rfl) <| zmv rfl (hd 20 rfl) <| zas rfl (hd 0 rfl) <| zas rfl (hd 1 rfl) <| Ab ?_
      refine ⟨(trm b, trm a), ?_, rfl, Bb 9 rfl rfl ?_⟩
      · exact ⟨by unfold swL; rw [if_pos (by omega)], by show (trm b).length < _; omega, Cb ub, Cb ua⟩
      · exact (.cons rfl (.cons rfl (.v5 (.u (.u .nil)))))
    · refine Ai ?_
      refine ⟨(trm a, trm b), ?_, rfl, Bb 5 rfl rfl ?_⟩
      · exact ⟨by unfold swL; rw [if_neg (by omega)], by show (trm a).length < _; omega, Cb ua, Cb ub⟩
      · exact (.cons rfl (.cons rfl (.v5 (.u (.u .nil)))))
  · rintro ⟨X, Y⟩ ⟨hg, hX, uX, uY⟩
    dsimp only at hg hX uX uY ⊢
    have hS : Oj a b = (adN X Y X.length).1 ++ [(adN X Y X.length).2] := by unfold Oj; rw [hg]
    refine zsr <| zmv rfl (hd 21 rfl) <| Ac (Al Bj rfl) (hd 22 rfl) <| Ac (Av rfl rfl (r := ((X.length + 1 : Nat) : Int)) (by rw [Ag (by omega) (by omega)]; omega)) (hd 23 rfl) <| Bl (Fp (m := X.length + 1) Ns rfl rfl rfl (by show 8 * (X.length + 1) ≤ _; omega) (by unfold maxLen; omega) rfl) (hd 24 rfl) <| zas rfl (hd 6 rfl) <| Ab <| zsr <| zas rfl (hd 7 rfl) <| Ab <| Ae ?_; refine zsr <| zmv rfl (hd 25 rfl) <| Ac (Al Bj rfl) (hd 26 rfl) <| zmv rfl (hd 27 rfl) <| Ab <| Au ?_
    refine Bv (G := Nat) (fun i => i ≤ X.length) (fun i => [(7, .i .u64 (adN X Y i).2), (27, .i .i64 (i : Int)), (8, .u), (9, .u), (28, .u), (29, .u), (30, .u), (31, .u), (32, .u), (33, .u), (34, .u), (35, .u), (36, .u), (37, .u), (38, .u), (39, .u), (40, .u), (41, .u), (42, .u), (43, .u), (44, .u), (45, .u), (46, .u), (47, .u), (48, .u), (49, .u), (50, .u), (51, .u)]) (fun i => [⟨58, 1, 0, true, ints .u64 (Ca (adN X Y i).1 (X.length + 1))⟩]) (fun i => X.length - i) 0 ?_ ?_ rfl ?_
    · exact Nat.zero_le _
    · exact (.cons rfl (.cons rfl (.v9 (.v9 (.v5 (.u .nil))))))
    · rintro i hc1
      have hf := Ed (l := (adN X Y i).1) (n := X.length + 1) (by rw [Dq]; omega)
      have hc := Xg uX uY i
      have hx := Bq uX i
      have hy := Bq uY i
      refine zsr <| Ac (Bp rfl rfl) (hd 28 rfl) <| Ab <| Ae ?_
      refine Bc rfl (fun h2 => ?_) (fun h2 => ?_)
      · refine Ai <| Ae <| Au <| zsr <| zmv rfl (hd 29 rfl) <| zas rfl (hd 8 rfl) <| Ab <| zsr <| zas rfl (hd 9 rfl) <| Ab ?_
        refine Cx (G := Unit) (fun _ => True) (fun _ => [(9, .i .u64 (Y.getD i 0)), (30, .u), (31, .u), (32, .u), (33, .u), (34, .u), (35, .u), (36, .u), (37, .u)]) ?_ ?_
        · refine zsr <| zmv rfl (hd 30 rfl) <| zmv rfl (hd 31 rfl) <| Ac (Al Bj rfl) (hd 32 rfl) <| Ac (Bp rfl rfl) (hd 33 rfl) <| Ab ?_
          refine Bc rfl (fun h3 => ?_) (fun h3 => ?_)
          · refine Af <| zmv rfl (hd 34 rfl) <| zmv rfl (hd 35 rfl) <| Ac (Bx (i := i) Bj rfl rfl (by first | rfl | omega) (by omega)) (hd 36 rfl) <| Ac (Bw Bm rfl rfl) (hd 37 rfl) <| zas rfl (hd 9 rfl) <| Ab ?_
            refine ⟨(), ?_, rfl, Bb 9 rfl rfl ?_⟩
            · trivial
            · exact (.cons (by first | rfl | (show some (V.i .u64 _) = some (V.i .u64 _); rw [C5 (by omega)])) (.v5 (.u (.u (.u .nil)))))
          · refine Ai ?_
            refine ⟨(), ?_, rfl, Bb 4 rfl rfl ?_⟩
            · trivial
            · exact (.cons (by first | rfl | (show some (V.i .u64 _) = some (V.i .u64 _); rw [C5 (by omega)])) (.v5 (.u (.u (.u .nil)))))
        · rintro _ _; refine Af <| zmv rfl (hd 39 rfl) <| zmv rfl (hd 40 rfl) <| zmv rfl (hd 41 rfl) <| zmv rfl (hd 42 rfl) <| Ac (Bx (i := i) Bj rfl rfl (by first | rfl | omega) (by omega)) (hd 43 rfl) <| Ac (Bw Bm rfl rfl) (hd 44 rfl) <| zmv rfl (hd 45 rfl) <| zmv rfl (hd 46 rfl) <| Bl (F5 (e := add64Entry) Tryd.func49 rfl rfl (by kernel_rfl) (by kernel_rfl) rfl rfl rfl (fun w => run_add64 _ _ _ hx.1 hy.1 hc.1 hc.2 w) Et) (hd 47 rfl) <| zmv rfl (hd 38 rfl) <| Ac (Ap rfl rfl) (hd 48 rfl) <| Ac (Ap rfl rfl) (hd 49 rfl) ?_; refine Ac (Cz (i := i) Bj rfl rfl rfl (by first | rfl | omega) (by omega) rfl) (hd 50 rfl) <| A6 (Bz rfl rfl rfl Bm (by omega)) <| zas rfl (hd 7 rfl) <| Ab <| Af <| Ac (Av rfl rfl (Ag (by omega) (by omega))) (hd 51 rfl) <| zmv rfl (hd 27 rfl) <| Ab ?_
          refine ⟨i + 1, ?_, ?_, (by show [(⟨58, 1, 0, true, ints .u64 _⟩ : Ob)] = [⟨58, 1, 0, true, ints .u64 _⟩]; rw [W1 (by omega)]), Bb 57 rfl rfl ?_⟩
          · omega
          · omega
          · exact (.cons rfl (.cons rfl (.v9 (.v9 (.v5 (.u .nil))))))
      · refine Br <| Ae ?_
        obtain rfl : i = X.length := by omega
        refine Af <| zmv rfl (hd 52 rfl) <| zmv rfl (hd 53 rfl) <| Ac (Al Bj rfl) (hd 54 rfl) <| zmv rfl (hd 55 rfl) <| Ac (Cz (i := X.length) Bj rfl rfl rfl (by first | rfl | omega) (by omega) rfl) (hd 56 rfl) <| A6 (Bz rfl rfl rfl Bm (by omega)) <| Ab <| zsr <| Ii (k := .u64) (l' := Oj a b) 6 rfl rfl (by rw [K0 (Dq _ _ _)]; simp [Dq]) (by rw [K0 (Dq _ _ _), hS, List.drop_zero, List.take_of_length_le (by simp [Dq])]) hL <| zmv rfl (hd 57 rfl) ?_
        refine Aj Tryd.f48 (Le (Oj a b) (by rw [hS]; simp only [List.length_append, Dq, List.length_singleton]; omega) (by rw [hS]; exact Dv (S6 _) hc.1 (by omega)) h) rfl Tryd.func48 rfl rfl (Aa rfl Ad) (.cons .n .nil) (hd 58 rfl) ?_ (fun ch hp => by simp at hp)
        rintro _ ⟨⟩; refine Ac (Ap rfl rfl) (hd 59 rfl) <| Ac (Ap rfl rfl) (hd 60 rfl) <| zas rfl (hd 4 rfl) <| zas rfl (hd 5 rfl) <| Ab <| Ak ?_
        refine ⟨_, _, (.cons rfl (.cons rfl .nil)), (.t1 .n (.t1 .i .t0)), ?_⟩
        exact rfl


theorem Aai (a b : List Int) (ha : a.length < 4294967296) (hb : b.length < 4294967296) (ua : Az a) (ub : Az b) (hle : 0 ≤ Nw (trm a) (trm b)) (h : Fi (trm (Xt a b)) ≤ 67108864) : Spec Tryd.prog 60 [.n false .u64 a, .n false .u64 b] (fun o => o = .ret (.t [.n false .u64 (trm (Xt a b)), .i .i64 0])) := by
  refine An [(0, .n false .u64 a), (1, .n false .u64 b)] rfl Tryd.func60 rfl (zlb rfl) fun Γ hN hds hL hR => ?_
  have hd := Bu 52 hN
  have hma := C2 a
  have hmb := C2 b
  have uX := Cb ua
  have uY := Cb ub
  refine zsr <| zas rfl (hd 4 rfl) <| zas rfl (hd 5 rfl) <| Ab <| Ae <| zsr <| zmv rfl (hd 10 rfl) <| zmv rfl (hd 11 rfl) ?_
  refine Aj Tryd.f78 (Lb a b (by omega) (by omega)) rfl Tryd.func78 rfl rfl (Aa rfl (Aa rfl Ad)) (.cons .n (.cons .n .nil)) (hd 12 rfl) ?_ (fun ch hp => by simp at hp)
  rintro _ ⟨⟩; refine Ac (Be (Bp rfl rfl) (by omega)) (hd 13 rfl) <| Ab <| Aw rfl <| Ai <| zsr <| zmv rfl (hd 14 rfl) ?_
  refine Aj Tryd.f46 (D4 a (by omega)) rfl Tryd.func46 rfl rfl (Aa rfl Ad) (.cons .n .nil) (hd 15 rfl) ?_ (fun ch hp => by simp at hp)
  rintro _ ⟨⟩; refine zmv rfl (hd 16 rfl) ?_
  refine Aj Tryd.f46 (D4 b (by omega)) rfl Tryd.func46 rfl rfl (Aa rfl Ad) (.cons .n .nil) (hd 17 rfl) ?_ (fun ch hp => by simp at hp)
  rintro _ ⟨⟩; refine zas rfl (hd 0 rfl) <| zas rfl (hd 1 rfl) <| Ab <| zsr <| zmv rfl (hd 18 rfl) <| Ac (Al Bj rfl) (hd 19 rfl) <| Bl (Fp (m := (trm a).length) Ns rfl rfl rfl (by show 8 * (trm a).length ≤ _; omega) (by unfold maxLen; omega) rfl) (hd 20 rfl) <| zas rfl (hd 6 rfl) <| Ab <| zsr <| zas rfl (hd 7 rfl) ?_; refine Ab <| Ae <| zsr <| zmv rfl (hd 21 rfl) <| Ac (Al Bj rfl) (hd 22 rfl) <| zmv rfl (hd 23 rfl) <| Ab <| Au ?_
  refine Bv (G := Nat) (fun i => i ≤ (trm a).length) (fun i => [(7, .i .u64 (sbN (trm a) (trm b) i).2), (23, .i .i64 (i : Int)), (8, .u), (9, .u), (24, .u), (25, .u), (26, .u), (27, .u), (28, .u), (29, .u), (30, .u), (31, .u), (32, .u), (33, .u), (34, .u), (35, .u), (36, .u), (37, .u), (38, .u), (39, .u), (40, .u), (41, .u), (42, .u), (43, .u), (44, .u), (45, .u), (46, .u), (47, .u)]) (fun i => [⟨58, 1, 0, true, ints .u64 (Ca (sbN (trm a) (trm b) i).1 (trm a).length)⟩]) (fun i => (trm a).length - i) 0 ?_ ?_ rfl ?_
  · exact Nat.zero_le _
  · exact (.cons rfl (.cons rfl (.v9 (.v9 (.v5 (.u .nil))))))
  · rintro i hc1
    have hf := Ed (l := (sbN (trm a) (trm b) i).1) (n := (trm a).length) (by rw [C3]; omega)
    have hc := R1 (trm a) (trm b) i
    have hx := Bq uX i
    have hy := Bq uY i
    refine zsr <| Ac (Bp rfl rfl) (hd 24 rfl) <| Ab <| Ae ?_
    refine Bc rfl (fun h2 => ?_) (fun h2 => ?_)
    · refine Ai <| Ae <| Au <| zsr <| zmv rfl (hd 25 rfl) <| zas rfl (hd 8 rfl) <| Ab <| zsr <| zas rfl (hd 9 rfl) <| Ab ?_
      refine Cx (G := Unit) (fun _ => True) (fun _ => [(9, .i .u64 ((trm b).getD i 0)), (26, .u), (27, .u), (28, .u), (29, .u), (30, .u), (31, .u), (32, .u), (33, .u)]) ?_ ?_
      · refine zsr <| zmv rfl (hd 26 rfl) <| zmv rfl (hd 27 rfl) <| Ac (Al Bj rfl) (hd 28 rfl) <| Ac (Bp rfl rfl) (hd 29 rfl) <| Ab ?_
        refine Bc rfl (fun h3 => ?_) (fun h3 => ?_)
        · refine Af <| zmv rfl (hd 30 rfl) <| zmv rfl (hd 31 rfl) <| Ac (Bx (i := i) Bj rfl rfl (by first | rfl | omega) (by omega)) (hd 32 rfl) <| Ac (Bw Bm rfl rfl) (hd 33 rfl) <| zas rfl (hd 9 rfl) <| Ab ?_
          refine ⟨(), ?_, rfl, Bb 9 rfl rfl ?_⟩
          · trivial
          · exact (.cons (by first | rfl | (show some (V.i .u64 _) = some (V.i .u64 _); rw [C5 (by omega)])) (.v5 (.u (.u (.u .nil)))))
        · refine Ai ?_
          refine ⟨(), ?_, rfl, Bb 4 rfl rfl ?_⟩
          · trivial
          · exact (.cons (by first | rfl | (show some (V.i .u64 _) = some (V.i .u64 _); rw [C5 (by omega)])) (.v5 (.u (.u (.u .nil)))))
      · rintro _ _; refine Af <| zmv rfl (hd 35 rfl) <| zmv rfl (hd 36 rfl) <| zmv rfl (hd 37 rfl) <| zmv rfl (hd 38 rfl) <| Ac (Bx (i := i) Bj rfl rfl (by first | rfl | omega) (by omega)) (hd 39 rfl) <| Ac (Bw Bm rfl rfl) (hd 40 rfl) <| zmv rfl (hd 41 rfl) <| zmv rfl (hd 42 rfl) <| Bl (F5 (e := Ff) Tryd.func81 rfl rfl (by kernel_rfl) (by kernel_rfl) rfl rfl rfl (fun w => Kd _ _ _ hx.1 hx.2 hy.1 hy.2 hc.1 hc.2 w) Et) (hd 43 rfl) <| zmv rfl (hd 34 rfl) <| Ac (Ap rfl rfl) (hd 44 rfl) <| Ac (Ap rfl rfl) (hd 45 rfl) ?_; refine Ac (Cz (i := i) Bj rfl rfl rfl (by first | rfl | omega) (by omega) rfl) (hd 46 rfl) <| A6 (Bz rfl rfl rfl Bm (by omega)) <| zas rfl (hd 7 rfl) <| Ab <| Af <| Ac (Av rfl rfl (Ag (by omega) (by omega))) (hd 47 rfl) <| zmv rfl (hd 23 rfl) <| Ab ?_
        refine ⟨i + 1, ?_, ?_, (by show [(⟨58, 1, 0, true, ints .u64 _⟩ : Ob)] = [⟨58, 1, 0, true, ints .u64 _⟩]; rw [W0 (by omega)]), Bb 57 rfl rfl ?_⟩
        · omega
        · omega
        · exact (.cons rfl (.cons rfl (.v9 (.v9 (.v5 (.u .nil))))))
    · refine Br <| Ae ?_
      obtain rfl : i = (trm a).length := by omega
      refine I8 (k := .u64) (l' := Xt a b) 6 rfl rfl (by rw [Dh (C3 _ _ _)]; simp [C3]) (by rw [Dh (C3 _ _ _), List.drop_zero, List.take_of_length_le (by simp [C3])]; rfl) hL <| Af <| zmv rfl (hd 48 rfl) ?_
      refine Aj Tryd.f48 (Le (Xt a b) (by unfold Xt; rw [C3]; omega) (R0 uX uY _) h) rfl Tryd.func48 rfl rfl (Aa rfl Ad) (.cons .n .nil) (hd 49 rfl) ?_ (fun ch hp => by simp at hp)
      rintro _ ⟨⟩; refine Ac (Ap rfl rfl) (hd 50 rfl) <| Ac (Ap rfl rfl) (hd 51 rfl) <| zas rfl (hd 4 rfl) <| zas rfl (hd 5 rfl) <| Ab <| Ak ?_
      refine ⟨_, _, (.cons rfl (.cons rfl .nil)), (.t1 .n (.t1 .i .t0)), ?_⟩
      exact rfl


theorem Fz (l : List Int) (hl : l.length < 1099511627776) : Spec Tryd.prog 44 [.n false .u64 l] (fun o => o = .ret (.n false .u64 (trm l))) := by
  refine An [(0, .n false .u64 l)] rfl Tryd.func44 rfl (zlb rfl) fun Γ hN hds hL hR => ?_
  have hd := Bu 22 hN
  refine zsr <| zas rfl (hd 2 rfl) <| Ab <| zsr <| zmv rfl (hd 4 rfl) <| Ac (Al Cj rfl) (hd 5 rfl) <| zas rfl (hd 3 rfl) <| Ab <| Ae <| Au ?_
  refine Bv (G := Nat) (fun k => k ≤ l.length ∧ tN l k = tN l l.length) (fun k => [(3, .i .i64 (k : Int)), (6, .u), (7, .u), (8, .u), (9, .u), (10, .u), (11, .u), (12, .u), (13, .u), (14, .u), (15, .u), (16, .u), (17, .u)]) (fun _ => _) (fun k => k) l.length ?_ ?_ rfl ?_
  · exact ⟨Nat.le_refl _, rfl⟩
  · exact (.cons rfl (.v9 (.u (.u .nil))))
  · rintro k ⟨hc1, hc2⟩; refine Ae <| zsr <| zmv rfl (hd 6 rfl) <| Ac (B6 rfl rfl) (hd 7 rfl) <| zmv rfl (hd 8 rfl) ?_
    refine Ea 8 rfl (fun h1 => ?_) (fun h1 => ?_)
    · refine Ay 8 rfl rfl (At rfl) (hd 9 rfl) <| Ay 8 rfl rfl (At rfl) (hd 10 rfl) <| Ay 8 rfl rfl (Bt rfl rfl (Ag (by omega) (by omega))) (hd 11 rfl) <| Ay 8 rfl rfl (Bx (i := k - 1) Cj rfl rfl (by omega) (by omega)) (hd 12 rfl) <| Ay 8 rfl rfl (Bw Bm rfl rfl) (hd 13 rfl) <| Ay 8 rfl rfl (B7 rfl rfl) (hd 14 rfl) <| Ac (Bi rfl rfl) (hd 15 rfl) <| Ab ?_
      refine Bc rfl (fun h2 => ?_) (fun h2 => ?_)
      · refine Ai <| Au <| Af <| zmv rfl (hd 16 rfl) <| Ac (Bt rfl rfl (Ag (by omega) (by omega))) (hd 17 rfl) <| zas rfl (hd 3 rfl) <| Ab ?_
        refine ⟨k - 1, ?_, ?_, rfl, Bb 27 rfl rfl ?_⟩
        · exact ⟨by omega, by rw [← hc2, Oh (by omega) (by assumption)]⟩
        · omega
        · exact (.cons (by show some (V.i .i64 _) = some (V.i .i64 _); congr 2; omega) (.v9 (.u (.u .nil))))
      · refine Br <| zsr <| zmv rfl (hd 18 rfl) <| zmv rfl (hd 19 rfl) <| zmv rfl (hd 20 rfl) <| Ac (Ks Cj rfl J3 (C7 rfl (by first | rfl | omega)) (.inr ⟨k, C7 rfl rfl, Nat.le_refl _, hc1, rfl⟩) (by omega) (by omega)) (hd 21 rfl) <| zas rfl (hd 2 rfl) <| Ab <| Ak ?_
        refine ⟨_, _, (.cons rfl .nil), .n, ?_⟩
        unfold trm
        rw [← hc2, Lg (by omega) (by assumption), List.drop_zero]
    · refine Bh 8 rfl rfl rfl (hd 9 rfl) <| Bh 8 rfl rfl rfl (hd 10 rfl) <| Bh 8 rfl rfl rfl (hd 11 rfl) <| Bh 8 rfl rfl rfl (hd 12 rfl) <| Bh 8 rfl rfl rfl (hd 13 rfl) <| Bh 8 rfl rfl rfl (hd 14 rfl) <| Ac (Bn rfl rfl) (hd 15 rfl) <| Ab <| Aw rfl <| Br <| zsr <| zmv rfl (hd 18 rfl) ?_; refine zmv rfl (hd 19 rfl) <| zmv rfl (hd 20 rfl) <| Ac (Ks Cj rfl J3 (C7 rfl (by first | rfl | omega)) (.inr ⟨k, C7 rfl rfl, Nat.le_refl _, hc1, rfl⟩) (by omega) (by omega)) (hd 21 rfl) <| zas rfl (hd 2 rfl) <| Ab <| Ak ?_
      refine ⟨_, _, (.cons rfl .nil), .n, ?_⟩
      unfold trm
      rw [← hc2, Ab8 (by omega), List.drop_zero]

theorem Nb (l : List Int) : Spec Tryd.prog 12 [.n false .u64 l] (fun o => o = .ret (.b (decide ((l.length : Int) = 0)))) := by
  refine An [(0, .n false .u64 l)] rfl Tryd.func12 rfl (zlb rfl) fun Γ hN hds hL hR => ?_
  have hd := Bu 6 hN
  refine zsr <| zas rfl (hd 2 rfl) <| Ab <| zsr <| zmv rfl (hd 3 rfl) <| Ac (Al Cj rfl) (hd 4 rfl) <| Ac (B7 rfl rfl) (hd 5 rfl) <| zas rfl (hd 2 rfl) <| Ab <| Ak ?_
  refine ⟨_, _, (.cons rfl .nil), .b, ?_⟩
  exact rfl

theorem Jr (s : Bool) (l : List Int) : Spec Tryd.prog 24 [.b s, .n false .u64 l] (fun o => o = .ret (.a [.b (s && decide (l ≠ [])), .n false .u64 l])) := by
  refine An [(0, .b s), (1, .n false .u64 l)] rfl Tryd.func24 rfl (zlb rfl) fun Γ hN hds hL hR => ?_
  have hd := Bu 13 hN
  refine zsr <| Bl (Ao (id := 0) Bd (by decide) rfl (by decide) rfl) (hd 4 rfl) <| Ab <| zsr <| zmv rfl (hd 5 rfl) <| zmv rfl (hd 6 rfl) ?_
  refine Fj 6 rfl (fun h1 => ?_) (fun h1 => ?_)
  · refine Ay 6 rfl rfl (At rfl) (hd 7 rfl) ?_
    refine Ds Tryd.f12 6 rfl rfl (Nb l) rfl Tryd.func12 rfl rfl (Aa rfl Ad) (.cons .n .nil) (hd 8 rfl) ?_ (fun ch hp => by simp at hp)
    rintro _ ⟨⟩; refine Ay 6 rfl rfl (G7 rfl) (hd 9 rfl) <| Ac (Bi rfl rfl) (hd 10 rfl) <| zmv rfl (hd 11 rfl) <| Ac (Ct (is := [0, 1]) (xs := [.tmp 10, .tmp 11]) Bd Km rfl (Aa rfl (Aa rfl Ad)) rfl (by first | (simp [D1, cellsV]; done) | (simp [D1, cellsV, old]; done)) (D0 rfl) rfl) (hd 12 rfl) <| A6 (Ah rfl rfl rfl A2 rfl rfl (zlb rfl)) <| Ab <| Ak ?_
    refine ⟨_, _, (.cons (ResV.cell A7 rfl rfl rfl rfl) .nil), (.a1 .b (.a1 .n .a0)), ?_⟩
    cases l <;> simp_all <;> omega
  · refine Bh 6 rfl rfl rfl (hd 7 rfl) <| Bh 6 rfl rfl rfl (hd 8 rfl) <| Bh 6 rfl rfl rfl (hd 9 rfl) <| Ac (Bn rfl rfl) (hd 10 rfl) <| zmv rfl (hd 11 rfl) <| Ac (Ct (is := [0, 1]) (xs := [.tmp 10, .tmp 11]) Bd Km rfl (Aa rfl (Aa rfl Ad)) rfl (by first | (simp [D1, cellsV]; done) | (simp [D1, cellsV, old]; done)) (D0 rfl) rfl) (hd 12 rfl) <| A6 (Ah rfl rfl rfl A2 rfl rfl (zlb rfl)) <| Ab <| Ak ?_
    refine ⟨_, _, (.cons (ResV.cell A7 rfl rfl rfl rfl) .nil), (.a1 .b (.a1 .n .a0)), ?_⟩
    cases l <;> simp_all <;> omega

theorem V7 (l : List Int) (hl : l.length < 4294967296) (hu : Az l) : Spec Tryd.prog 25 [.n false .u64 l] (fun o => o = .ret (.n false .u64 (trm (dig l)))) := by
  refine An [(0, .n false .u64 l)] rfl Tryd.func25 rfl (zlb rfl) fun Γ hN hds hL hR => ?_
  have hd := Bu 26 hN
  refine zsr <| zas rfl (hd 2 rfl) <| Ab <| zsr <| zmv rfl (hd 6 rfl) <| Ac (Al Fy rfl) (hd 7 rfl) <| Ac (Dn rfl rfl (Ag (by omega) (by omega))) (hd 8 rfl) <| Bl (Zt (m := 2 * l.length) Rk rfl rfl (by omega) (by show 8 * (2 * l.length) ≤ _; omega) (by unfold maxLen; omega) rfl) (hd 9 rfl) <| zas rfl (hd 3 rfl) <| Ab <| Ae ?_; refine zsr <| zmv rfl (hd 10 rfl) <| Ac (Al Fy rfl) (hd 11 rfl) <| zmv rfl (hd 12 rfl) <| Ab <| Au ?_
  refine Jw (G := Nat) 1 (fun g => g ≤ l.length) (fun g => [(3, .o 0 g 0 (2 * g)), (12, .i .i64 (g : Int)), (5, .u), (13, .u), (14, .u), (15, .u), (16, .u), (17, .u), (18, .u), (19, .u), (20, .u), (21, .u), (22, .u), (23, .u)]) (fun g => [⟨58, 1, g, true, ints .u64 (dig (l.take g))⟩]) (fun g => l.length - g) 0 ?_ ?_ rfl hR rfl (fun _ _ => rfl) (fun g _ => .cons B2 .nil) ?_
  · exact Nat.zero_le _
  · exact (.cons rfl (.cons rfl (.v9 (.u (.u .nil)))))
  · rintro i hc1
    have hx := Bq hu i
    refine zsr <| Ac (Bp rfl rfl) (hd 13 rfl) <| Ab <| Ae ?_
    refine Bc rfl (fun h1 => ?_) (fun h1 => ?_)
    · refine Ai <| Ae <| Au <| zsr <| Ac (Bx (i := i) Fy rfl rfl (by first | rfl | omega) (by omega)) (hd 14 rfl) <| Ac (Bw Bm rfl rfl) (hd 15 rfl) <| zas rfl (hd 5 rfl) <| Ab <| Af <| zmv rfl (hd 16 rfl) <| zmv rfl (hd 17 rfl) <| Ac (Bo (D8 rfl rfl (by decide) rfl) (show V.i .u64 ((l.getD i 0).tmod 4294967296) = V.i .u64 ((l.getD i 0) % 4294967296) by rw [Int.tmod_eq_emod_of_nonneg hx.1])) (hd 18 rfl) ?_; refine zmv rfl (hd 19 rfl) <| Ac (D3 rfl rfl (by decide) (r := (l.getD i 0) / 4294967296) (by show IntKind.u64.wrap (Int.tdiv (l.getD i 0) 4294967296) = _; rw [Int.tdiv_eq_ediv_of_nonneg hx.1]; exact A5 (by omega) (by omega))) (hd 20 rfl) <| Bl (Gl (id := 1) (xs := [.tmp 18, .tmp 20]) Rk rfl (Aa rfl (Aa rfl Ad)) rfl (Ey rfl) (by decide) rfl) (hd 21 rfl) <| P2 Rk rfl rfl (by rw [C4, J0, List.length_take, Nat.min_eq_left (by omega), Nat.mul_one]) rfl (Vi rfl rfl rfl) (by show (2 * i + 2) * 8 ≤ _; omega) (by unfold maxLen; omega) (hd 22 rfl) <| zas rfl (hd 3 rfl) <| Ab <| Af <| Ac (Av rfl rfl (Ag (by omega) (by omega))) (hd 23 rfl) <| zmv rfl (hd 12 rfl) <| Ab ?_
      refine ⟨i + 1, ?_, ?_, (by show [(⟨58, 1, i + 1, true, ints .u64 (dig (l.take i)) ++ ints .u64 [_, _]⟩ : Ob)] = [⟨58, 1, i + 1, true, ints .u64 (dig (l.take (i + 1)))⟩]; rw [F4, S2 (by omega)]), Bb 28 rfl rfl ?_⟩
      · omega
      · omega
      · exact (.cons rfl (.cons rfl (.v9 (.u (.u .nil)))))
    · refine Br <| Ae ?_
      obtain rfl : i = l.length := by omega
      refine Af <| Ii (k := .u64) (l' := dig l) 3 rfl rfl (by rw [J0, List.length_take, Nat.min_self]; omega) (by rw [List.take_length, List.drop_zero, List.take_of_length_le (by rw [J0]; exact Nat.le_refl _)]) hL <| zmv rfl (hd 24 rfl) ?_
      refine Aj Tryd.f44 (Fz (dig l) (by rw [J0]; omega)) rfl Tryd.func44 rfl rfl (Aa rfl Ad) (.cons .n .nil) (hd 25 rfl) ?_ (fun ch hp => by simp at hp)
      rintro _ ⟨⟩; refine zas rfl (hd 2 rfl) <| Ab <| Ak ?_
      refine ⟨_, _, (.cons rfl .nil), .n, ?_⟩
      exact rfl

theorem Kj (v : Int) (h0 : 0 ≤ v) (h1 : v < 9223372036854775808) : Spec Tryd.prog 20 [.i .i64 v] (fun o => o = .ret (.n false .u64 (trm (dig [v])))) := by
  refine An [(0, .i .i64 v)] rfl Tryd.func20 rfl (zlb rfl) fun Γ hN hds hL hR => ?_
  have hd := Bu 7 hN
  refine zsr <| zas rfl (hd 2 rfl) <| Ab <| zsr <| zmv rfl (hd 3 rfl) <| Ac (Dd Ma Ix rfl (A5 (by omega) (by omega))) (hd 4 rfl) <| Bl (Gl (id := 0) (xs := [.tmp 4]) W5 rfl (Aa rfl Ad) rfl (Ey rfl) (by decide) rfl) (hd 5 rfl) <| Ii (k := .u64) (l := [v]) (l' := [v]) 5 rfl rfl (Nat.le_refl _) rfl hL ?_
  refine Aj Tryd.f25 (V7 [v] (by simp) (F9 (by omega) (by omega))) rfl Tryd.func25 rfl rfl (Aa rfl Ad) (.cons .n .nil) (hd 6 rfl) ?_ (fun ch hp => by simp at hp)
  rintro _ ⟨⟩; refine zas rfl (hd 2 rfl) <| Ab <| Ak ?_
  refine ⟨_, _, (.cons rfl .nil), .n, ?_⟩
  exact rfl

theorem Rh (v : Int) (h0 : 0 ≤ v) (h1 : v < 9223372036854775808) : Spec Tryd.prog 36 [.i .i64 v] (fun o => o = .ret (.a [.b (false && decide (trm (dig [v]) ≠ [])), .n false .u64 (trm (dig [v]))])) := by
  refine An [(0, .i .i64 v)] rfl Tryd.func36 rfl (zlb rfl) fun Γ hN hds hL hR => ?_
  have hd := Bu 16 hN
  refine zsr <| Bl (Ao (id := 0) Bd (by decide) rfl (by decide) rfl) (hd 2 rfl) <| Ab <| Ae <| zsr <| zmv rfl (hd 3 rfl) <| Ac (Be (Bp rfl rfl) (by omega)) (hd 4 rfl) <| Ab <| Aw rfl <| Ai <| Ae ?_; refine Af <| zmv rfl (hd 13 rfl) ?_
  refine Aj Tryd.f20 (Kj v h0 h1) rfl Tryd.func20 rfl rfl (Aa rfl Ad) (.cons .i .nil) (hd 14 rfl) ?_ (fun ch hp => by simp at hp)
  rintro y hy; injection hy with hy; subst hy
  refine Aj Tryd.f24 (Jr false (trm (dig [v]))) rfl Tryd.func24 rfl rfl (Aa rfl (Aa rfl Ad)) (.cons .b (.cons .n .nil)) (hd 15 rfl) ?_ (fun ch hp => by simp at hp)
  rintro _ ⟨⟩; refine A6 (Ah rfl rfl rfl A2 rfl rfl (zlb rfl)) <| Ab <| Ak ?_
  refine ⟨_, _, (.cons (ResV.cell A7 rfl rfl rfl rfl) .nil), (.a1 .b (.a1 .n .a0)), ?_⟩
  exact rfl

theorem Ri (v : Int) (h0 : v < 0) (h1 : -9223372036854775808 ≤ v) : Spec Tryd.prog 36 [.i .i64 v] (fun o => o = .ret (.a [.b (true && decide (trm (dig [-v]) ≠ [])), .n false .u64 (trm (dig [-v]))])) := by
  refine An [(0, .i .i64 v)] rfl Tryd.func36 rfl (zlb rfl) fun Γ hN hds hL hR => ?_
  have hd := Bu 16 hN
  refine zsr <| Bl (Ao (id := 0) Bd (by decide) rfl (by decide) rfl) (hd 2 rfl) <| Ab <| Ae <| zsr <| zmv rfl (hd 3 rfl) <| Ac (B8 (Bp rfl rfl) (by omega)) (hd 4 rfl) <| Ab <| B5 rfl <| Ae <| Af ?_; refine zmv rfl (hd 5 rfl) <| Ac (Av rfl rfl (Ag (by omega) (by omega))) (hd 6 rfl) <| Ac (Gg rfl (Ag (by omega) (by omega))) (hd 7 rfl) <| Ac (Dd Ma Ix rfl (A5 (by omega) (by omega))) (hd 8 rfl) <| Ac (Av rfl rfl (r := -v) (by rw [A5 (by omega) (by omega)]; omega)) (hd 9 rfl) <| Bl (Gl (id := 1) (xs := [.tmp 9]) W5 rfl (Aa rfl Ad) rfl (Ey rfl) (by decide) rfl) (hd 10 rfl) <| Ii (k := .u64) (l := [-v]) (l' := [-v]) 10 rfl rfl (Nat.le_refl _) rfl hL ?_
  refine Aj Tryd.f25 (V7 [-v] (by simp) (F9 (by omega) (by omega))) rfl Tryd.func25 rfl rfl (Aa rfl Ad) (.cons .n .nil) (hd 11 rfl) ?_ (fun ch hp => by simp at hp)
  rintro y hy; injection hy with hy; subst hy
  refine Aj Tryd.f24 (Jr true (trm (dig [-v]))) rfl Tryd.func24 rfl rfl (Aa rfl (Aa rfl Ad)) (.cons .b (.cons .n .nil)) (hd 12 rfl) ?_ (fun ch hp => by simp at hp)
  rintro _ ⟨⟩; refine A6 (Ah rfl rfl rfl A2 rfl rfl (zlb rfl)) <| Ab <| Ak ?_
  refine ⟨_, _, (.cons (ResV.cell A7 rfl rfl rfl rfl) .nil), (.a1 .b (.a1 .n .a0)), ?_⟩
  exact rfl

theorem L3 (l : List Int) (hl : l.length < 4294967296) : Spec Tryd.prog 9 [.n false .u64 l] (fun o => o = .ret (.n true .u64 (G9 l))) := by
  refine An [(0, .n false .u64 l)] rfl Tryd.func9 rfl (zlb rfl) fun Γ hN hds hL hR => ?_
  have hd := Bu 34 hN
  refine zsr <| zas rfl (hd 2 rfl) <| Ab <| zsr <| zas rfl (hd 3 rfl) <| Ab <| Ae <| Ae <| Ww (id := 0) 3 58 1 rfl rfl <| Af <| zas rfl (hd 4 rfl) ?_; refine Ab <| Au ?_
  refine Jw (G := Nat × List Int) 1 (fun g => g.1 ≤ l.length + 1 ∧ g.2 ++ G9 (l.drop g.1) = G9 l ∧ g.2.length ≤ g.1) (fun g => [(3, .o 0 g.2.length 0 g.2.length), (4, .i .i64 (g.1 : Int)), (5, .u), (6, .u), (7, .u), (8, .u), (9, .u), (10, .u), (11, .u), (12, .u), (13, .u), (14, .u), (15, .u), (16, .u), (17, .u), (18, .u), (19, .u), (20, .u), (21, .u), (22, .u), (23, .u), (24, .u), (25, .u), (26, .u), (27, .u), (28, .u), (29, .u), (30, .u), (31, .u), (32, .u)]) (fun g => [⟨58, 1, g.2.length, true, ints .u64 g.2⟩]) (fun g => l.length + 1 - g.1) (0, []) ?_ ?_ rfl hR rfl (fun _ _ => rfl) (fun g _ => .cons B2 .nil) ?_
  · exact ⟨Nat.zero_le _, rfl, Nat.le_refl _⟩
  · exact (.cons rfl (.cons rfl (.v9 (.v9 (.v5 (.u (.u (.u .nil))))))))
  · rintro ⟨j, acc⟩ ⟨hc1, hc2, hc3⟩
    dsimp only at hc1 hc2 hc3
    refine Ae <| zsr <| zmv rfl (hd 6 rfl) <| zmv rfl (hd 7 rfl) <| Ac (Al Cj rfl) (hd 8 rfl) <| Ac (Bp rfl rfl) (hd 9 rfl) <| Ab ?_
    refine Bc rfl (fun h1 => ?_) (fun h1 => ?_)
    · have hjl : j < l.length := by
        have h0 : (j : Int) < (l.length : Int) := by assumption
        omega
      refine Ai <| Ae <| Au <| zsr <| zmv rfl (hd 12 rfl) <| zmv rfl (hd 13 rfl) <| Ac (Bx (i := j) Cj rfl rfl (by first | rfl | omega) (by omega)) (hd 14 rfl) <| Ac (Bw Bm rfl rfl) (hd 15 rfl) <| zas rfl (hd 5 rfl) <| Ab ?_
      refine Cx (G := Int) (fun v => G9 (l.drop j) = v :: G9 (l.drop (j + 2))) (fun v => [(5, .i .u64 v), (16, .u), (17, .u), (18, .u), (19, .u), (20, .u), (21, .u), (22, .u), (23, .u), (24, .u), (25, .u), (26, .u), (27, .u), (28, .u)]) ?_ ?_
      · refine zsr <| zmv rfl (hd 16 rfl) <| Ac (Av rfl rfl (r := ((j + 1 : Nat) : Int)) (by rw [Ag (by omega) (by omega)]; omega)) (hd 17 rfl) <| zmv rfl (hd 18 rfl) <| Ac (Al Cj rfl) (hd 19 rfl) <| Ac (Bp rfl rfl) (hd 20 rfl) <| Ab ?_
        refine Bc rfl (fun h2 => ?_) (fun h2 => ?_)
        · refine Af <| zmv rfl (hd 21 rfl) <| zmv rfl (hd 22 rfl) <| zmv rfl (hd 23 rfl) <| Ac (Av rfl rfl (r := ((j + 1 : Nat) : Int)) (by rw [Ag (by omega) (by omega)]; omega)) (hd 24 rfl) <| Ac (Bx (i := j + 1) Cj rfl rfl (by first | rfl | omega) (by omega)) (hd 25 rfl) <| Ac (Bw Bm rfl rfl) (hd 26 rfl) <| Ac (Dn rfl rfl rfl) (hd 27 rfl) <| Ac (Av rfl rfl rfl) (hd 28 rfl) <| zas rfl (hd 5 rfl) <| Ab ?_
          refine ⟨IntKind.u64.wrap (l.getD j 0 + IntKind.u64.wrap (l.getD (j + 1) 0 * 4294967296)), ?_, rfl, Bb 14 rfl rfl ?_⟩
          · exact Abp (by omega)
          · exact (.cons rfl (.v9 (.u (.u (.u .nil)))))
        · refine Ai ?_
          refine ⟨l.getD j 0, ?_, rfl, Bb 5 rfl rfl ?_⟩
          · exact Abq hjl (by omega)
          · exact (.cons rfl (.v9 (.u (.u (.u .nil)))))
      · rintro v hv; refine Af <| zmv rfl (hd 29 rfl) <| zmv rfl (hd 30 rfl) <| Bl (Gl (id := 1) (xs := [.tmp 30]) W5 rfl (Aa rfl Ad) rfl (Ey rfl) (by decide) rfl) (hd 31 rfl) <| P2 W5 rfl rfl (by rw [C4, Nat.mul_one]) rfl (Vi rfl rfl rfl) (by show (acc.length + 1) * 8 ≤ _; omega) (by show acc.length + 1 ≤ 9223372036854775807; omega) (hd 32 rfl) <| zas rfl (hd 3 rfl) <| Ab <| Af <| zmv rfl (hd 10 rfl) <| Ac (Av rfl rfl (r := ((j + 2 : Nat) : Int)) (by rw [Ag (by omega) (by omega)]; omega)) (hd 11 rfl) <| zas rfl (hd 4 rfl) <| Ab ?_
        refine ⟨(j + 2, acc ++ [v]), ?_, ?_, (by show [(⟨58, 1, acc.length + 1, true, ints .u64 acc ++ ints .u64 [v]⟩ : Ob)] = [⟨58, 1, (acc ++ [v]).length, true, ints .u64 (acc ++ [v])⟩]; rw [F4, List.length_append]; rfl), Bb 61 rfl rfl ?_⟩
        · exact ⟨by omega, by rw [List.append_assoc, List.singleton_append, ← hv]; exact hc2, by rw [List.length_append, List.length_singleton]; omega⟩
        · show l.length + 1 - (j + 2) < l.length + 1 - j
          omega
        · exact (.cons (by show some _ = some _; rw [List.length_append]; rfl) (.cons rfl (.v9 (.v9 (.v5 (.u (.u (.u .nil))))))))
    · have hjl : l.length ≤ j := by
        have h0 : ¬ (j : Int) < (l.length : Int) := by assumption
        omega
      refine Br <| zsr <| zmv rfl (hd 33 rfl) <| zas rfl (hd 2 rfl) <| Ab <| Ak ?_
      refine ⟨_, _, (.cons rfl .nil), (.o rfl (by simp) rfl), ?_⟩
      rw [List.drop_zero, List.take_length, ← hc2, List.drop_eq_nil_of_le hjl]
      simp only [G9, List.append_nil]

theorem Adz (l : List Int) (hl : l.length < 4294967296) : Spec Tryd.prog 45 [.n false .u64 l, .n false .u64 (G9 l)] (fun o => o = .ret (.b true)) := by
  refine An [(0, .n false .u64 l), (1, .n false .u64 (G9 l))] rfl Tryd.func45 rfl (zlb rfl) fun Γ hN hds hL hR => ?_
  have hd := Bu 29 hN
  have hm := Mu l
  refine zsr <| zas rfl (hd 4 rfl) <| Ab <| zsr <| zmv rfl (hd 7 rfl) ?_
  refine Aj Tryd.f9 (L3 l hl) rfl Tryd.func9 rfl rfl (Aa rfl Ad) (.cons .n .nil) (hd 8 rfl) ?_ (fun ch hp => by simp at hp)
  rintro _ ⟨⟩; refine zas rfl (hd 5 rfl) <| Ab <| Ae <| zsr <| zmv rfl (hd 9 rfl) <| Ac (Al Fy rfl) (hd 10 rfl) <| zmv rfl (hd 11 rfl) <| Ac (Al Fy rfl) (hd 12 rfl) <| Ac (Be (Dy rfl rfl) (by simp)) (hd 13 rfl) <| Ab <| Aw rfl <| Ai ?_; refine Ae <| zsr <| zmv rfl (hd 14 rfl) <| Ac (Al Fy rfl) (hd 15 rfl) <| zmv rfl (hd 16 rfl) <| Ab <| Au ?_
  refine Bv (G := Nat) (fun i => i ≤ (G9 l).length) (fun i => [(16, .i .i64 (i : Int)), (4, .u), (6, .u), (17, .u), (18, .u), (19, .u), (20, .u), (21, .u), (22, .u), (23, .u), (24, .u), (25, .u), (26, .u), (27, .u), (28, .u)]) (fun _ => _) (fun i => (G9 l).length - i) 0 ?_ ?_ rfl ?_
  · exact Nat.zero_le _
  · exact (.cons rfl (.v9 (.u (.u (.u (.u .nil))))))
  · rintro i hc1; refine zsr <| Ac (Bp rfl rfl) (hd 17 rfl) <| Ab <| Ae ?_
    refine Bc rfl (fun h2 => ?_) (fun h2 => ?_)
    · refine Ai <| Ae <| Au <| zsr <| zmv rfl (hd 18 rfl) <| zas rfl (hd 6 rfl) <| Ab <| Ae <| Cf (n := 9) _ rfl Dk <| A4 0 [2, 3, 8] (Am (At rfl) (hd 19 rfl)) rfl <| A4 1 [2, 3, 8] (Am (At rfl) (hd 20 rfl)) rfl <| A4 2 [3, 8] (Am (Bx (i := i) Fy rfl rfl (by first | rfl | omega) (by omega)) (hd 21 rfl)) rfl ?_; refine zal 3 (Am (Bw Bm rfl rfl) (hd 22 rfl)) rfl <| A4 4 [6, 7, 8] (Am (At rfl) (hd 23 rfl)) rfl <| A4 5 [6, 7, 8] (Am (At rfl) (hd 24 rfl)) rfl <| A4 6 [7, 8] (Am (Bx (i := i) Fy rfl rfl (by first | rfl | omega) (by omega)) (hd 25 rfl)) rfl <| zal 7 (Am (Bw Bm rfl rfl) (hd 26 rfl)) rfl <| zal 8 (Am (Be (Dy rfl rfl) (by simp)) (hd 27 rfl)) rfl <| Bg (by kernel_rfl) <| Aw rfl <| Ai <| Af <| Ac (Av rfl rfl (Ag (by omega) (by omega))) (hd 28 rfl) <| zmv rfl (hd 16 rfl) <| Ab ?_
      refine ⟨i + 1, ?_, ?_, rfl, Bb 29 rfl rfl ?_⟩
      · omega
      · omega
      · exact (.cons rfl (.v9 (.u (.u (.u (.u .nil))))))
    · refine Br <| zsr <| zas rfl (hd 4 rfl) <| Ab <| Ak ?_
      refine ⟨_, _, (.cons rfl .nil), .b, ?_⟩
      exact rfl

theorem Xi (s : Bool) (l : List Int) (hl : l.length < 4294967296) : Spec Tryd.prog 27 [.a [.b s, .n false .u64 l], .b s, .n false .u64 (G9 l)] (fun o => o = .ret (.b true)) := by
  refine An [(0, .a [.b s, .n false .u64 l]), (1, .b s), (2, .n false .u64 (G9 l))] rfl Tryd.func27 rfl (zlb rfl) fun Γ hN hds hL hR => ?_
  have hd := Bu 17 hN
  refine zsr <| Bl (Ci (id := 0) (n := 2) rfl rfl rfl (by decide) rfl) (hd 3 rfl) <| zas rfl (hd 6 rfl) <| Ab <| zsr <| Ac (Ba C6 rfl rfl rfl) (hd 7 rfl) <| Ac (A9 Ez rfl rfl rfl) (hd 8 rfl) <| zmv rfl (hd 9 rfl) <| Ac (Bo (T7 Xs rfl rfl) (show V.b (s == s) = V.b true by simp)) (hd 10 rfl) <| zmv rfl (hd 11 rfl) <| Ay 11 rfl rfl (Ba Cr rfl rfl rfl) (hd 12 rfl) ?_; refine Ay 11 rfl rfl (A9 D6 rfl rfl rfl) (hd 13 rfl) <| Ay 11 rfl rfl (At rfl) (hd 14 rfl) ?_
  refine Ds Tryd.f45 11 rfl rfl (Adz l hl) rfl Tryd.func45 rfl rfl (Aa rfl (Aa rfl Ad)) (.cons .n (.cons .n .nil)) (hd 15 rfl) ?_ (fun ch hp => by simp at hp)
  rintro _ ⟨⟩; refine Ac (Bi rfl rfl) (hd 16 rfl) <| zas rfl (hd 6 rfl) <| Ab <| Ak ?_
  refine ⟨_, _, (.cons rfl .nil), .b, ?_⟩
  exact rfl

theorem Xr (x d : Int) (hx0 : 0 ≤ x) (hx : x < 18446744073709551616) (hd0 : 0 < d) (hdm : d < 18446744073709551616) : Spec Tryd.prog 84 [.i .u64 0, .i .u64 x, .i .u64 d] (fun o => o = .ret (.t [.i .u64 (x / d), .i .u64 (x % d)])) := by
  refine An [(0, .i .u64 0), (1, .i .u64 x), (2, .i .u64 d)] rfl Tryd.func84 rfl (zlb rfl) fun Γ hN hds hL hR => ?_
  have hd := Bu 135 hN
  refine zsr <| zas rfl (hd 6 rfl) <| zas rfl (hd 7 rfl) <| Ab <| Ae <| zsr <| zmv rfl (hd 19 rfl) <| Ac (Be (B7 rfl rfl) (by omega)) (hd 20 rfl) <| Ab <| Aw rfl <| Ai ?_; refine Ae <| zsr <| zmv rfl (hd 22 rfl) <| zmv rfl (hd 23 rfl) <| Ac (Be (Lw rfl rfl) (by omega)) (hd 24 rfl) <| Ab <| Aw rfl <| Ai <| Ae <| zsr <| zmv rfl (hd 26 rfl) ?_; refine Ac (B8 (B7 rfl rfl) rfl) (hd 27 rfl) <| Ab <| B5 rfl <| Ae <| Cf (n := 8) _ rfl Dk <| zal 0 (Am (At rfl) (hd 28 rfl)) rfl <| zal 1 (Am (At rfl) (hd 29 rfl)) rfl <| zal 2 (Am (D3 rfl rfl (by omega) (r := x / d) (by show IntKind.u64.wrap (Int.tdiv x d) = _; rw [Int.tdiv_eq_ediv_of_nonneg hx0]; exact A5 (Int.ediv_nonneg hx0 (by omega)) (Int.lt_of_le_of_lt (Int.ediv_le_self d hx0) hx))) (hd 30 rfl)) rfl <| zal 3 (Am (At rfl) (hd 31 rfl)) rfl <| zal 4 (Am (At rfl) (hd 32 rfl)) rfl <| zal 5 (Am (Bo (D8 rfl rfl (by omega) rfl) (show V.i .u64 (x.tmod d) = V.i .u64 (x % d) by rw [Int.tmod_eq_emod_of_nonneg hx0])) (hd 33 rfl)) rfl <| zal 6 (Am (Fo rfl) (hd 6 rfl)) rfl <| zal 7 (Am (Fo rfl) (hd 7 rfl)) rfl ?_; refine Bg (by kernel_rfl) <| Ak ?_
  refine ⟨_, _, (.cons rfl (.cons rfl .nil)), (.t1 .i (.t1 .i .t0)), ?_⟩
  exact rfl

theorem S1 (x d : Int) (hx0 : 0 ≤ x) (hx : x < 18446744073709551616) (hd0 : 0 < d) (hdm : d < 18446744073709551616) (hle : d ≤ x) : Spec Tryd.prog 73 [.n false .u64 [x], .n false .u64 [d]] (fun o => o = .ret (.t [.n true .u64 (trm [x / d]), .n true .u64 (if x % d = 0 then [] else [x % d])])) := by
  refine An [(0, .n false .u64 [x]), (1, .n false .u64 [d])] rfl Tryd.func73 rfl (zlb rfl) fun Γ hN hds hL hR => ?_
  have hd := Bu 104 hN
  have hcm : ¬ Nw (trm [x]) (trm [d]) < 0 := by rw [Aaw (by omega), Aaw (by omega)]; exact Adt hle
  refine zsr <| zas rfl (hd 4 rfl) <| zas rfl (hd 5 rfl) <| Ab <| Ae <| zsr <| zmv rfl (hd 15 rfl) <| zmv rfl (hd 16 rfl) ?_
  refine Aj Tryd.f78 (Lb [x] [d] (by simp) (by simp)) rfl Tryd.func78 rfl rfl (Aa rfl (Aa rfl Ad)) (.cons .n (.cons .n .nil)) (hd 17 rfl) ?_ (fun ch hp => by simp at hp)
  rintro _ ⟨⟩; refine Ac (Be (Bp rfl rfl) hcm) (hd 18 rfl) <| Ab <| Aw rfl <| Ai <| Ae <| zsr <| zmv rfl (hd 20 rfl) <| Ac (Al Bj rfl) (hd 21 rfl) <| Ac (B8 (B7 rfl rfl) rfl) (hd 22 rfl) <| Ab <| B5 rfl <| Ae ?_; refine Af <| zmv rfl (hd 23 rfl) <| Ac (Al Bj rfl) (hd 24 rfl) <| Bl (Fp (m := 1) Ns rfl rfl rfl (by decide) (by decide) rfl) (hd 25 rfl) <| zas rfl (hd 6 rfl) <| zas rfl (hd 7 rfl) <| Ab <| Ae <| zsr <| zmv rfl (hd 26 rfl) <| Ac (Al Bj rfl) (hd 27 rfl) <| Ac (Bt rfl rfl (r := 0) rfl) (hd 28 rfl) ?_; refine zas rfl (hd 8 rfl) <| Ab <| Au ?_
  refine Bv (G := Nat) (fun g => g ≤ 1) (fun g => [(7, .i .u64 (if g = 1 then 0 else x % d)), (8, .i .i64 ((g : Int) - 1)), (29, .u), (30, .u), (31, .u), (32, .u), (33, .u), (34, .u), (35, .u), (36, .u), (37, .u), (38, .u), (39, .u), (40, .u), (41, .u), (42, .u), (43, .u), (44, .u), (45, .u), (46, .u), (47, .u)]) (fun g => [⟨58, 1, 0, true, ints .u64 [if g = 1 then 0 else x / d]⟩]) (fun g => g) 1 ?_ ?_ rfl ?_
  · exact Nat.le_refl _
  · exact (.cons rfl (.cons rfl (.v9 (.v5 (.u (.u (.u (.u .nil))))))))
  · rintro k hc1; refine Ae <| zsr <| zmv rfl (hd 29 rfl) <| Ac (Dl rfl rfl) (hd 30 rfl) <| Ab ?_
    refine Bc rfl (fun h3 => ?_) (fun h3 => ?_)
    · obtain rfl : k = 1 := by omega
      refine Ai <| Ae <| Au <| Cf (n := 17) _ rfl Dk <| zal 0 (Am (At rfl) (hd 34 rfl)) rfl <| zal 1 (Am (At rfl) (hd 35 rfl)) rfl <| A4 2 [10, 11, 12, 13, 14, 15, 16] (Am (At rfl) (hd 36 rfl)) rfl <| A4 3 [5, 6, 10, 11, 12, 13, 14, 15, 16] (Am (At rfl) (hd 37 rfl)) rfl <| A4 4 [5, 6, 10, 11, 12, 13, 14, 15, 16] (Am (At rfl) (hd 38 rfl)) rfl <| A4 5 [6, 10, 11, 12, 13, 14, 15, 16] (Am (Bx (i := 0) Bj rfl rfl rfl (by simp)) (hd 39 rfl)) rfl <| A4 6 [10, 11, 12, 13, 14, 15, 16] (Am (Bw Bm rfl rfl) (hd 40 rfl)) rfl <| A4 7 [8, 9, 10, 11, 12, 13, 14, 15, 16] (Am (At rfl) (hd 41 rfl)) rfl <| A4 8 [9, 10, 11, 12, 13, 14, 15, 16] (Am (Bx (i := 0) Bj rfl rfl rfl (by simp)) (hd 42 rfl)) rfl ?_; refine A4 9 [10, 11, 12, 13, 14, 15, 16] (Am (Bw Bm rfl rfl) (hd 43 rfl)) rfl ?_
      refine A0 10 ?_ rfl (by kernel_rfl)
      refine As Tryd.f84 (Xr x d hx0 hx hd0 hdm) rfl Tryd.func84 rfl rfl (Aa rfl (Aa rfl (Aa rfl Ad))) (.cons .i (.cons .i (.cons .i .nil))) (hd 44 rfl) ?_ (fun ch hp => by simp at hp)
      rintro _ ⟨⟩; refine zal 11 (Am (At rfl) (hd 33 rfl)) rfl <| zal 12 (Am (Ap rfl rfl) (hd 45 rfl)) rfl <| zal 13 (Cs rfl rfl (hd 46 rfl)) rfl <| zal 14 (Am (Cz (i := 0) Bj rfl rfl rfl rfl (Nat.le_refl 1) rfl) (hd 47 rfl)) rfl ?_
      refine A0 15 ?_ rfl (by kernel_rfl)
      refine Bf (Bz rfl rfl rfl Bm (Nat.le_refl 1)) rfl <| zal 16 (Am (Fo rfl) (hd 7 rfl)) rfl <| Bg (by kernel_rfl) <| Af <| zmv rfl (hd 31 rfl) <| Ac (Bt rfl rfl (Ag (by omega) (by omega))) (hd 32 rfl) <| zas rfl (hd 8 rfl) <| Ab ?_
      refine ⟨0, ?_, ?_, rfl, Bb 42 rfl rfl ?_⟩
      · exact Nat.zero_le _
      · exact Nat.zero_lt_succ _
      · exact (.cons rfl (.cons rfl (.v9 (.v5 (.u (.u (.u (.u .nil))))))))
    · obtain rfl : k = 0 := by omega
      refine Br <| zsr <| Ii (k := .u64) (l := [x / d]) (l' := [x / d]) 6 rfl rfl (Nat.le_refl _) rfl hL <| zmv rfl (hd 48 rfl) ?_
      refine Aj Tryd.f39 (Ej [x / d] (by simp)) rfl Tryd.func39 rfl rfl (Aa rfl Ad) (.cons .n .nil) (hd 49 rfl) ?_ (fun ch hp => by simp at hp)
      rintro _ ⟨⟩; refine zmv rfl (hd 50 rfl) ?_
      refine Aj Tryd.f33 (Hd (x % d)) rfl Tryd.func33 rfl rfl (Aa rfl Ad) (.cons .i .nil) (hd 51 rfl) ?_ (fun ch hp => by simp at hp)
      rintro _ ⟨⟩; refine zas rfl (hd 4 rfl) <| zas rfl (hd 5 rfl) <| Ab <| Ak ?_
      refine ⟨_, _, (.cons rfl (.cons rfl .nil)), (.t1 .n (.t1 .n .t0)), ?_⟩
      exact rfl

theorem Aau (x d : Int) (hx0 : 0 ≤ x) (hx : x < 18446744073709551616) (hd0 : 0 < d) (hdm : d < 18446744073709551616) (hle : d ≤ x) : Spec Tryd.prog 58 [.n false .u64 [x], .n false .u64 [d]] (fun o => o = .ret (.t [.n true .u64 (trm [x / d]), .n true .u64 (if x % d = 0 then [] else [x % d]), .i .i64 0])) := by
  refine An [(0, .n false .u64 [x]), (1, .n false .u64 [d])] rfl Tryd.func58 rfl (zlb rfl) fun Γ hN hds hL hR => ?_
  have hd := Bu 32 hN
  have ex : trm [x] = [x] := Aaw (by omega)
  have ed : trm [d] = [d] := Aaw (by omega)
  have rx : Spec Tryd.prog 39 [.n false .u64 [x]] (fun o => o = .ret (.n true .u64 [x])) := by have h := Ej [x] (by simp); rwa [ex] at h
  have rd : Spec Tryd.prog 39 [.n false .u64 [d]] (fun o => o = .ret (.n true .u64 [d])) := by have h := Ej [d] (by simp); rwa [ed] at h
  have hq := F9 (v := x / d) (Int.ediv_nonneg hx0 (by omega)) (Int.lt_of_le_of_lt (Int.ediv_le_self d hx0) hx)
  have hm1 := C2 [x / d]
  have hr0 : 0 ≤ x % d := Int.emod_nonneg x (by omega)
  have hr1 : x % d < d := Int.emod_lt_of_pos x hd0
  have hL1 := Ih (trm [x / d])
  have hL2 := Ih (if x % d = 0 then [] else [x % d])
  have hrl : (if x % d = 0 then [] else [x % d] : List Int).length ≤ 1 := by split <;> simp
  have hru : Az (if x % d = 0 then [] else [x % d]) := by
    split
    · intro y hy; cases hy
    · exact F9 hr0 (by omega)
  simp only [List.length_singleton] at hm1
  refine zsr <| zas rfl (hd 4 rfl) <| zas rfl (hd 5 rfl) <| zas rfl (hd 6 rfl) <| Ab <| zsr <| zmv rfl (hd 9 rfl) ?_
  refine Aj Tryd.f39 (rx) rfl Tryd.func39 rfl rfl (Aa rfl Ad) (.cons .n .nil) (hd 10 rfl) ?_ (fun ch hp => by simp at hp)
  rintro _ ⟨⟩; refine zmv rfl (hd 11 rfl) ?_
  refine Aj Tryd.f39 (rd) rfl Tryd.func39 rfl rfl (Aa rfl Ad) (.cons .n .nil) (hd 12 rfl) ?_ (fun ch hp => by simp at hp)
  rintro _ ⟨⟩; refine zas rfl (hd 0 rfl) <| zas rfl (hd 1 rfl) <| Ab <| Ae <| zsr <| zmv rfl (hd 13 rfl) <| Ac (Al Bj rfl) (hd 14 rfl) <| Ac (Be (B7 rfl rfl) (by simp)) (hd 15 rfl) <| Ab <| Aw rfl <| Ai <| Ae ?_; refine Af <| zmv rfl (hd 17 rfl) <| zmv rfl (hd 18 rfl) ?_
  refine Aj Tryd.f73 (S1 x d hx0 hx hd0 hdm hle) rfl Tryd.func73 rfl rfl (Aa rfl (Aa rfl Ad)) (.cons .n (.cons .n .nil)) (hd 19 rfl) ?_ (fun ch hp => by simp at hp)
  rintro _ ⟨⟩; refine zmv rfl (hd 16 rfl) <| Ac (Ap rfl rfl) (hd 20 rfl) <| Ac (Ap rfl rfl) (hd 21 rfl) <| zas rfl (hd 7 rfl) <| zas rfl (hd 8 rfl) <| Ab <| Ae <| zsr <| zmv rfl (hd 22 rfl) ?_
  refine Aj Tryd.f40 (Du (trm [x / d]) (by omega) (Cb hq)) rfl Tryd.func40 rfl rfl (Aa rfl Ad) (.cons .n .nil) (hd 23 rfl) ?_ (fun ch hp => by simp at hp)
  rintro _ ⟨⟩; refine Ac (Be (B6 rfl rfl) (by omega)) (hd 24 rfl) <| zmv rfl (hd 25 rfl) <| Ay 25 rfl rfl (At rfl) (hd 26 rfl) ?_
  refine Ds Tryd.f40 25 rfl rfl (Du _ (by omega) hru) rfl Tryd.func40 rfl rfl (Aa rfl Ad) (.cons .n .nil) (hd 27 rfl) ?_ (fun ch hp => by simp at hp)
  rintro _ ⟨⟩; refine Ay 25 rfl rfl (Be (B6 rfl rfl) (by omega)) (hd 28 rfl) <| Ac (Bn rfl rfl) (hd 29 rfl) <| Ab <| Aw rfl <| Ai <| zsr <| zmv rfl (hd 30 rfl) <| zmv rfl (hd 31 rfl) <| zas rfl (hd 4 rfl) <| zas rfl (hd 5 rfl) <| zas rfl (hd 6 rfl) <| Ab ?_; refine Ak ?_
  refine ⟨_, _, (.cons rfl (.cons rfl (.cons rfl .nil))), (.t1 .n (.t1 .n (.t1 .i .t0))), ?_⟩
  exact rfl

theorem G6 (s : Bool) (l : List Int) (hl : l.length < 1099511627776) : Spec Tryd.prog 28 [.a [.b s, .n false .u64 l]] (fun o => o = .ret (.a [.b (s && decide (0 < ((trm l).length : Int))), .n true .u64 (trm l)])) := by
  refine An [(0, .a [.b s, .n false .u64 l])] rfl Tryd.func28 rfl (zlb rfl) fun Γ hN hds hL hR => ?_
  have hd := Bu 16 hN
  refine zsr <| Bl (Ci (id := 0) (n := 2) rfl rfl rfl (by decide) rfl) (hd 1 rfl) <| Bl (Ao (id := 1) By (by decide) rfl (by decide) rfl) (hd 2 rfl) <| Ab <| zsr <| Ac (Ba Cn rfl rfl rfl) (hd 4 rfl) <| Ac (A9 D2 rfl rfl rfl) (hd 5 rfl) ?_
  refine Aj Tryd.f39 (Ej l hl) rfl Tryd.func39 rfl rfl (Aa rfl Ad) (.cons .n .nil) (hd 6 rfl) ?_ (fun ch hp => by simp at hp)
  rintro _ ⟨⟩; refine zas rfl (hd 3 rfl) <| Ab <| zsr <| Ac (Ba Cy rfl rfl rfl) (hd 7 rfl) <| Ac (A9 Ez rfl rfl rfl) (hd 8 rfl) <| zmv rfl (hd 9 rfl) ?_
  refine Fj 9 rfl (fun h1 => ?_) (fun h1 => ?_)
  · refine Ay 9 rfl rfl (At rfl) (hd 10 rfl) <| Ay 9 rfl rfl (Al Bj rfl) (hd 11 rfl) <| Ay 9 rfl rfl (B6 rfl rfl) (hd 12 rfl) <| Ac (Bi rfl rfl) (hd 13 rfl) <| zmv rfl (hd 14 rfl) <| Ac (Ct (is := [0, 1]) (xs := [.tmp 13, .tmp 14]) By Dw rfl (Aa rfl (Aa rfl Ad)) rfl (by first | (simp [D1, cellsV]; done) | (simp [D1, cellsV, old]; done)) (D0 rfl) rfl) (hd 15 rfl) <| A6 (Ah rfl rfl rfl Cc rfl rfl (zlb rfl)) <| Ab <| Ak ?_
    refine ⟨_, _, (.cons (ResV.cell B3 rfl rfl rfl rfl) .nil), (.a1 .b (.a1 .n .a0)), ?_⟩
    simp_all
  · refine Bh 9 rfl rfl rfl (hd 10 rfl) <| Bh 9 rfl rfl rfl (hd 11 rfl) <| Bh 9 rfl rfl rfl (hd 12 rfl) <| Ac (Bn rfl rfl) (hd 13 rfl) <| zmv rfl (hd 14 rfl) <| Ac (Ct (is := [0, 1]) (xs := [.tmp 13, .tmp 14]) By Dw rfl (Aa rfl (Aa rfl Ad)) rfl (by first | (simp [D1, cellsV]; done) | (simp [D1, cellsV, old]; done)) (D0 rfl) rfl) (hd 15 rfl) <| A6 (Ah rfl rfl rfl Cc rfl rfl (zlb rfl)) <| Ab <| Ak ?_
    refine ⟨_, _, (.cons (ResV.cell B3 rfl rfl rfl rfl) .nil), (.a1 .b (.a1 .n .a0)), ?_⟩
    simp_all

theorem Wz (s : Bool) (l : List Int) (hl : l.length < 1099511627776) (hu : Az l) (h : Fi l ≤ 67108864) : Spec Tryd.prog 43 [.a [.b s, .n false .u64 l]] (fun o => o = .ret (.t [.a [.b (s && decide (0 < ((trm l).length : Int))), .n true .u64 (trm l)], .i .i64 0])) := by
  refine An [(0, .a [.b s, .n false .u64 l])] rfl Tryd.func43 rfl (zlb rfl) fun Γ hN hds hL hR => ?_
  have hd := Bu 11 hN
  refine zsr <| Bl (Ci (id := 0) (n := 2) rfl rfl rfl (by decide) rfl) (hd 1 rfl) <| Bl (Ao (id := 1) By (by decide) rfl (by decide) rfl) (hd 2 rfl) <| zas rfl (hd 3 rfl) <| Ab <| Ae <| zsr <| Ac (Ba Cn rfl rfl rfl) (hd 4 rfl) <| Ac (A9 D2 rfl rfl rfl) (hd 5 rfl) ?_
  refine Aj Tryd.f40 (Du l hl hu) rfl Tryd.func40 rfl rfl (Aa rfl Ad) (.cons .n .nil) (hd 6 rfl) ?_ (fun ch hp => by simp at hp)
  rintro _ ⟨⟩; refine Ac (Be (B6 rfl rfl) (by omega)) (hd 7 rfl) <| Ab <| Aw rfl <| Ai <| zsr <| Ac (A8 B3 rfl rfl rfl rfl) (hd 9 rfl) ?_
  refine Aj Tryd.f28 (G6 s l hl) rfl Tryd.func28 rfl rfl (Aa rfl Ad) (.cons (.a1 .b (.a1 .n .a0)) .nil) (hd 10 rfl) ?_ (fun ch hp => by simp at hp)
  rintro _ ⟨⟩; refine A6 (Ah rfl rfl rfl Cc rfl rfl (zlb rfl)) <| zas rfl (hd 3 rfl) <| Ab <| Ak ?_
  refine ⟨_, _, (.cons (ResV.cell B3 rfl rfl rfl rfl) (.cons rfl .nil)), (.t1 (.a1 .b (.a1 .n .a0)) (.t1 .i .t0)), ?_⟩
  exact rfl

theorem Kf (s : Bool) (l : List Int) (hl : l.length < 1099511627776) (hu : Az l) (h : Fi l ≤ 67108864) : Spec Tryd.prog 19 [.b s, .n false .u64 l, .i .i64 0] (fun o => o = .ret (.t [.a [.b (s && decide (0 < ((trm l).length : Int))), .n true .u64 (trm l)], .i .i64 0])) := by
  refine An [(0, .b s), (1, .n false .u64 l), (2, .i .i64 0)] rfl Tryd.func19 rfl (zlb rfl) fun Γ hN hds hL hR => ?_
  have hd := Bu 18 hN
  refine zsr <| Bl (Ao (id := 0) By (by decide) rfl (by decide) rfl) (hd 6 rfl) <| zas rfl (hd 7 rfl) <| Ab <| Ae <| zsr <| zmv rfl (hd 8 rfl) <| Ac (Be (Dy rfl rfl) (by simp)) (hd 9 rfl) <| Ab <| Aw rfl <| Ai ?_; refine zsr <| zmv rfl (hd 12 rfl) <| zmv rfl (hd 13 rfl) <| Ac (Ct (is := [0, 1]) (xs := [.tmp 12, .tmp 13]) By Dw rfl (Aa rfl (Aa rfl Ad)) rfl (by first | (simp [D1, cellsV]; done) | (simp [D1, cellsV, old]; done)) (D0 rfl) rfl) (hd 14 rfl) ?_
  refine Aj Tryd.f43 (Wz s l hl hu h) rfl Tryd.func43 rfl rfl (Aa rfl Ad) (.cons (.a1 .b (.a1 .n .a0)) .nil) (hd 15 rfl) ?_ (fun ch hp => by simp at hp)
  rintro _ ⟨⟩; refine Ac (Ap rfl rfl) (hd 16 rfl) <| Ac (Ap rfl rfl) (hd 17 rfl) <| A6 (Ah rfl rfl rfl Cc rfl rfl (zlb rfl)) <| zas rfl (hd 7 rfl) <| Ab <| Ak ?_
  refine ⟨_, _, (.cons (ResV.cell B3 rfl rfl rfl rfl) (.cons rfl .nil)), (.t1 (.a1 .b (.a1 .n .a0)) (.t1 .i .t0)), ?_⟩
  exact rfl

theorem Aao (v : Int) (h0 : v < 0) (h1 : -9223372036854775808 ≤ v) : Spec Tryd.prog 35 [.i .i64 v] (fun o => o = .ret (.a [.b true, .n true .u64 [-v]])) := by
  refine An [(0, .i .i64 v)] rfl Tryd.func35 rfl (zlb rfl) fun Γ hN hds hL hR => ?_
  have hd := Bu 14 hN
  have rF : Spec Tryd.prog 33 [.i .u64 (-v)] (fun o => o = .ret (.n true .u64 [-v])) := by have h := Hd (-v); rwa [if_neg (by omega)] at h
  refine zsr <| Bl (Ao (id := 0) By (by decide) rfl (by decide) rfl) (hd 2 rfl) <| Ab <| Ae <| zsr <| zmv rfl (hd 3 rfl) <| Ac (B8 (Bp rfl rfl) (by omega)) (hd 4 rfl) <| Ab <| B5 rfl <| Ae <| Af ?_; refine zmv rfl (hd 5 rfl) <| Ac (Dd Ma Ix rfl (r := v + 18446744073709551616) (J6 (by omega) (by omega) (by omega))) (hd 6 rfl) <| Ac (Gg rfl (r := -v) (J6 (by omega) (by omega) (by omega))) (hd 7 rfl) ?_
  refine Aj Tryd.f33 (rF) rfl Tryd.func33 rfl rfl (Aa rfl Ad) (.cons .i .nil) (hd 8 rfl) ?_ (fun ch hp => by simp at hp)
  rintro _ ⟨⟩; refine Ac (Ct (is := [0, 1]) (xs := [.const (.bool true), .tmp 8]) By Dw rfl (Aa rfl (Aa rfl Ad)) rfl (by first | (simp [D1, cellsV]; done) | (simp [D1, cellsV, old]; done)) (D0 rfl) rfl) (hd 9 rfl) <| A6 (Ah rfl rfl rfl Cc rfl rfl (zlb rfl)) <| Ab <| Ak ?_
  refine ⟨_, _, (.cons (ResV.cell B3 rfl rfl rfl rfl) .nil), (.a1 .b (.a1 .n .a0)), ?_⟩
  exact rfl

theorem Aan (v : Int) (h0 : 0 < v) (h1 : v < 9223372036854775808) : Spec Tryd.prog 35 [.i .i64 v] (fun o => o = .ret (.a [.b false, .n true .u64 [v]])) := by
  refine An [(0, .i .i64 v)] rfl Tryd.func35 rfl (zlb rfl) fun Γ hN hds hL hR => ?_
  have hd := Bu 14 hN
  have rF : Spec Tryd.prog 33 [.i .u64 v] (fun o => o = .ret (.n true .u64 [v])) := by have h := Hd v; rwa [if_neg (by omega)] at h
  refine zsr <| Bl (Ao (id := 0) By (by decide) rfl (by decide) rfl) (hd 2 rfl) <| Ab <| Ae <| zsr <| zmv rfl (hd 3 rfl) <| Ac (Be (Bp rfl rfl) (by omega)) (hd 4 rfl) <| Ab <| Aw rfl <| Ai <| Ae ?_; refine Af <| zmv rfl (hd 10 rfl) <| Ac (Dd Ma Ix rfl (A5 (by omega) (by omega))) (hd 11 rfl) ?_
  refine Aj Tryd.f33 (rF) rfl Tryd.func33 rfl rfl (Aa rfl Ad) (.cons .i .nil) (hd 12 rfl) ?_ (fun ch hp => by simp at hp)
  rintro _ ⟨⟩; refine Ac (Ct (is := [1]) (xs := [.tmp 12]) By Wa rfl (Aa rfl Ad) rfl (by first | (simp [D1, cellsV]; done) | (simp [D1, cellsV, old]; done)) (D0 rfl) rfl) (hd 13 rfl) <| A6 (Ah rfl rfl rfl Cc rfl rfl (zlb rfl)) <| Ab <| Ak ?_
  refine ⟨_, _, (.cons (ResV.cell B3 rfl rfl rfl rfl) .nil), (.a1 .b (.a1 .n .a0)), ?_⟩
  exact rfl

theorem Sg (n : Int) : Spec Tryd.prog 26 [.i .i64 n] (fun o => o = .ret (.i .i64 n)) := by
  refine An [(0, .i .i64 n)] rfl Tryd.func26 rfl (zlb rfl) fun Γ hN hds hL hR => ?_
  have hd := Bu 4 hN
  refine zsr <| zas rfl (hd 2 rfl) <| Ab <| zsr <| zmv rfl (hd 3 rfl) <| zas rfl (hd 2 rfl) <| Ab <| Ak ?_
  refine ⟨_, _, (.cons rfl .nil), .i, ?_⟩
  exact rfl

theorem Z1 (q r b : List Int) (s t u : Bool) : Spec Tryd.prog 75 [.n false .u64 q, .n false .u64 r, .n false .u64 b, .b s, .b t, .b u] (fun o => o = .ret (.b s)) := by
  refine An [(0, .n false .u64 q), (1, .n false .u64 r), (2, .n false .u64 b), (3, .b s), (4, .b t), (5, .b u)] rfl Tryd.func75 rfl (zlb rfl) fun Γ hN hds hL hR => ?_
  have hd := Bu 14 hN
  refine zsr <| zas rfl (hd 12 rfl) <| Ab <| zsr <| zmv rfl (hd 13 rfl) <| zas rfl (hd 12 rfl) <| Ab <| Ak ?_
  refine ⟨_, _, (.cons rfl .nil), .b, ?_⟩
  exact rfl

set_option maxRecDepth 100000 in
theorem Xy  : Spec Tryd.prog 59 [] (fun o => o = .ret (.a [.f 74 [], .f 75 [], .f 76 [], .f 77 [], .f 80 []])) := by
  refine An [] rfl Tryd.func59 rfl (zlb rfl) fun Γ hN hds hL hR => ?_
  have hd := Bu 2 hN
  refine zsr <| Bl (Ao (id := 0) Uq (by decide) rfl (by decide) rfl) (hd 0 rfl) <| Ab <| zsr <| Ac (Sj (v := .agg #[.func (.func 74) #[] #[], .func (.func 75) #[] #[], .func (.func 76) #[] #[], .func (.func 77) #[] #[], .func (.func 80) #[] #[]]) (y := .a [.f 74 [], .f 75 [], .f 76 [], .f 77 [], .f 80 []]) (fun _ _ _ _ => ⟨[.func (.func 74) #[] #[], .func (.func 75) #[] #[], .func (.func 76) #[] #[], .func (.func 77) #[] #[], .func (.func 80) #[] #[]], rfl, _, _, rfl, ⟨[], rfl, rfl⟩, _, _, rfl, ⟨[], rfl, rfl⟩, _, _, rfl, ⟨[], rfl, rfl⟩, _, _, rfl, ⟨[], rfl, rfl⟩, _, _, rfl, ⟨[], rfl, rfl⟩, rfl⟩) (by intro a dst type pos after g w2; kernel_rfl)) (hd 1 rfl) <| A6 (Ah rfl rfl rfl Ym rfl rfl (zlb rfl)) <| Ab <| Ak ?_
  refine ⟨_, _, (.cons (ResV.cell Aaf rfl rfl rfl rfl) .nil), (.a1 .f (.a1 .f (.a1 .f (.a1 .f (.a1 .f .a0))))), ?_⟩
  exact rfl

theorem Qn  : Spec Tryd.prog 50 [.a [.b true, .n false .u64 [7]], .a [.b false, .n false .u64 [2]], .i .i64 1] (fun o => o = .ret (.t [.a [.b true, .n true .u64 [4]], .a [.b false, .n true .u64 [1]], .i .i64 0])) := by
  refine An [(0, .a [.b true, .n false .u64 [7]]), (1, .a [.b false, .n false .u64 [2]]), (2, .i .i64 1)] rfl Tryd.func50 rfl (zlb rfl) fun Γ hN hds hL hR => ?_
  have hd := Bu 103 hN
  have rA : Spec Tryd.prog 28 [.a [.b true, .n false .u64 [7]]] (fun o => o = .ret (.a [.b true, .n true .u64 [7]])) := G6 true [7] (by decide)
  have rB : Spec Tryd.prog 28 [.a [.b false, .n false .u64 [2]]] (fun o => o = .ret (.a [.b false, .n true .u64 [2]])) := G6 false [2] (by decide)
  have rD : Spec Tryd.prog 58 [.n false .u64 [7], .n false .u64 [2]] (fun o => o = .ret (.t [.n true .u64 [3], .n true .u64 [1], .i .i64 0])) := Aau 7 2 (by decide) (by decide) (by decide) (by decide) (by decide)
  have rL : Spec Tryd.prog 40 [.n false .u64 [1]] (fun o => o = .ret (.i .i64 1)) := by have h := Du [1] (by decide) (F9 (v := 1) (by decide) (by decide)); rw [show Fi [1] = 1 by decide] at h; exact h
  have rF1 : Spec Tryd.prog 33 [.i .u64 1] (fun o => o = .ret (.n true .u64 [1])) := Hd 1
  have rS : Spec Tryd.prog 32 [.n false .u64 [3], .n false .u64 [1]] (fun o => o = .ret (.t [.n false .u64 [4], .i .i64 0])) := by have h := Uo [3] [1] (by decide) (by decide) (F9 (v := 3) (by decide) (by decide)) (F9 (v := 1) (by decide) (by decide)) (by decide); rw [show trm (Oj [3] [1]) = [4] by decide] at h; exact h
  have rM : Spec Tryd.prog 60 [.n false .u64 [2], .n false .u64 [1]] (fun o => o = .ret (.t [.n false .u64 [1], .i .i64 0])) := by have h := Aai [2] [1] (by decide) (by decide) (F9 (v := 2) (by decide) (by decide)) (F9 (v := 1) (by decide) (by decide)) (by decide) (by decide); rw [show trm (Xt [2] [1]) = [1] by decide] at h; exact h
  have rR4 : Spec Tryd.prog 19 [.b true, .n false .u64 [4], .i .i64 0] (fun o => o = .ret (.t [.a [.b true, .n true .u64 [4]], .i .i64 0])) := Kf true [4] (by decide) (F9 (v := 4) (by decide) (by decide)) (by decide)
  have rR1 : Spec Tryd.prog 19 [.b false, .n false .u64 [1], .i .i64 0] (fun o => o = .ret (.t [.a [.b false, .n true .u64 [1]], .i .i64 0])) := Kf false [1] (by decide) (F9 (v := 1) (by decide) (by decide)) (by decide)
  refine zsr <| Bl (Ci (id := 0) (n := 2) rfl rfl rfl (by decide) rfl) (hd 3 rfl) <| Bl (Ci (id := 1) (n := 2) rfl rfl rfl (by decide) rfl) (hd 4 rfl) <| Bl (Ao (id := 2) By (by decide) rfl (by decide) rfl) (hd 6 rfl) <| Bl (Ao (id := 3) By (by decide) rfl (by decide) rfl) (hd 7 rfl) <| zas rfl (hd 8 rfl) <| Ab <| Ae <| Cf (n := 6) _ rfl Dk <| A4 0 [1, 3, 4, 5] (Am (A8 B3 rfl rfl rfl rfl) (hd 16 rfl)) rfl <| A4 2 [3, 4, 5] (Am (A8 B3 rfl rfl rfl rfl) (hd 18 rfl)) rfl ?_
  refine A0 1 ?_ rfl (by kernel_rfl)
  refine As Tryd.f28 (rA) rfl Tryd.func28 rfl rfl (Aa rfl Ad) (.cons (.a1 .b (.a1 .n .a0)) .nil) (hd 17 rfl) ?_ (fun ch hp => by simp at hp)
  rintro y hy; injection hy with hy; subst hy
  refine A0 3 ?_ rfl (by kernel_rfl)
  refine As Tryd.f28 (rB) rfl Tryd.func28 rfl rfl (Aa rfl Ad) (.cons (.a1 .b (.a1 .n .a0)) .nil) (hd 19 rfl) ?_ (fun ch hp => by simp at hp)
  rintro y hy; injection hy with hy; subst hy
  refine A0 4 ?_ rfl (by kernel_rfl)
  refine Bf (Ah rfl rfl rfl Cc rfl rfl (zlb rfl)) rfl ?_
  refine A0 5 ?_ rfl (by kernel_rfl)
  refine Bf (Ah rfl rfl rfl Cc rfl rfl (zlb rfl)) rfl <| Bg (by kernel_rfl) <| zsr <| Ac (Ba Cn rfl rfl rfl) (hd 21 rfl) <| Ac (A9 D2 rfl rfl rfl) (hd 22 rfl) <| Ac (Ba Cn rfl rfl rfl) (hd 23 rfl) <| Ac (A9 D2 rfl rfl rfl) (hd 24 rfl) ?_
  refine Aj Tryd.f58 (rD) rfl Tryd.func58 rfl rfl (Aa rfl (Aa rfl Ad)) (.cons .n (.cons .n .nil)) (hd 25 rfl) ?_ (fun ch hp => by simp at hp)
  rintro _ ⟨⟩; refine zmv rfl (hd 20 rfl) <| Ac (Ap rfl rfl) (hd 26 rfl) <| Ac (Ap rfl rfl) (hd 27 rfl) <| Ac (Ap rfl rfl) (hd 28 rfl) <| zas rfl (hd 9 rfl) <| zas rfl (hd 10 rfl) <| zas rfl (hd 11 rfl) <| Ab <| Ae <| zsr <| zmv rfl (hd 29 rfl) <| Ac (Be (Dy rfl rfl) (by simp)) (hd 30 rfl) ?_; refine Ab <| Aw rfl <| Ai <| Ae <| Cf (n := 9) _ rfl Dk <| A4 0 [1, 4, 7, 8] (Am (Ba Cy rfl rfl rfl) (hd 34 rfl)) rfl <| zal 1 (Am (A9 Ez rfl rfl rfl) (hd 35 rfl)) rfl <| A4 2 [3, 4, 7, 8] (Am (Ba Cy rfl rfl rfl) (hd 36 rfl)) rfl <| zal 3 (Am (A9 Ez rfl rfl rfl) (hd 37 rfl)) rfl <| zal 4 (Am (Bo (Mr Xs rfl rfl) (show V.b (!(true == false)) = V.b true from rfl)) (hd 38 rfl)) rfl <| zal 5 (Am (Ba Cy rfl rfl rfl) (hd 39 rfl)) rfl <| zal 6 (Am (A9 Ez rfl rfl rfl) (hd 40 rfl)) rfl <| zal 7 (Am (Fo rfl) (hd 12 rfl)) rfl ?_; refine zal 8 (Am (Fo rfl) (hd 13 rfl)) rfl <| Bg (by kernel_rfl) <| Ae <| Ae <| Cf (n := 18) _ rfl Dk <| A4 0 [1, 2, 3, 4, 5, 6, 7, 8, 9, 10, 11, 12, 13, 14, 15, 16, 17] (Am (At rfl) (hd 41 rfl)) rfl ?_
  refine A0 1 ?_ rfl (by kernel_rfl)
  refine As Tryd.f40 (rL) rfl Tryd.func40 rfl rfl (Aa rfl Ad) (.cons .n .nil) (hd 42 rfl) ?_ (fun ch hp => by simp at hp)
  rintro _ ⟨⟩; refine A4 2 [3, 4, 5, 6, 7, 8, 9, 10, 11, 12, 13, 14, 15, 16, 17] (Am (B8 (B6 rfl rfl) (by decide)) (hd 43 rfl)) rfl <| zal 3 (Am (At rfl) (hd 44 rfl)) rfl <| A4 5 [6, 16, 17] (G8 44 rfl rfl (At rfl) (hd 46 rfl)) rfl <| A4 7 [16, 17] (G8 44 rfl rfl (At rfl) (hd 48 rfl)) rfl <| A4 8 [16, 17] (G8 44 rfl rfl (At rfl) (hd 49 rfl)) rfl <| A4 9 [10, 16, 17] (G8 44 rfl rfl (Ba Cn rfl rfl rfl) (hd 50 rfl)) rfl <| A4 10 [16, 17] (G8 44 rfl rfl (A9 D2 rfl rfl rfl) (hd 51 rfl)) rfl <| A4 11 [16, 17] (G8 44 rfl rfl (At rfl) (hd 52 rfl)) rfl <| A4 12 [13, 16, 17] (G8 44 rfl rfl (Ba Cy rfl rfl rfl) (hd 53 rfl)) rfl <| A4 13 [16, 17] (G8 44 rfl rfl (A9 Ez rfl rfl rfl) (hd 54 rfl)) rfl <| A4 14 [15, 16, 17] (G8 44 rfl rfl (Ba Cy rfl rfl rfl) (hd 55 rfl)) rfl <| A4 15 [16, 17] (G8 44 rfl rfl (A9 Ez rfl rfl rfl) (hd 56 rfl)) rfl ?_
  refine A0 4 ?_ rfl (by kernel_rfl)
  refine Ei Tryd.f59 44 rfl rfl (Xy) rfl Tryd.func59 rfl rfl Ad .nil (hd 45 rfl) ?_ (fun ch hp => by simp at hp)
  rintro _ ⟨⟩; refine A4 6 [16, 17] (G8 44 rfl rfl (Zm (i := 1) U7 Zd rfl rfl rfl (by decide) rfl) (hd 47 rfl)) rfl ?_
  refine A0 16 ?_ rfl (by kernel_rfl)
  refine Ei Tryd.f75 44 rfl rfl (Z1 [3] [1] [2] true false true) rfl Tryd.func75 rfl rfl (Aa rfl (Aa rfl (Aa rfl (Aa rfl (Aa rfl (Aa rfl Ad)))))) (.cons .n (.cons .n (.cons .n (.cons .b (.cons .b (.cons .b .nil)))))) (hd 57 rfl) ?_ (fun ch hp => by simp at hp)
  rintro _ ⟨⟩; refine zal 17 (Am (Bi rfl rfl) (hd 58 rfl)) rfl <| Bg (by kernel_rfl) <| B5 rfl <| Ae <| zsr <| zmv rfl (hd 60 rfl) ?_
  refine Aj Tryd.f33 (rF1) rfl Tryd.func33 rfl rfl (Aa rfl Ad) (.cons .i .nil) (hd 61 rfl) ?_ (fun ch hp => by simp at hp)
  rintro y hy; injection hy with hy; subst hy
  refine Aj Tryd.f32 (rS) rfl Tryd.func32 rfl rfl (Aa rfl (Aa rfl Ad)) (.cons .n (.cons .n .nil)) (hd 62 rfl) ?_ (fun ch hp => by simp at hp)
  rintro _ ⟨⟩; refine zmv rfl (hd 59 rfl) <| Ac (Ap rfl rfl) (hd 63 rfl) <| Ac (Ap rfl rfl) (hd 64 rfl) <| zas rfl (hd 9 rfl) <| zas rfl (hd 11 rfl) <| Ab <| zsr <| zmv rfl (hd 65 rfl) <| Ac (Be (Dy rfl rfl) (by simp)) (hd 66 rfl) <| Ab <| Aw rfl <| Ai ?_; refine zsr <| Ac (Ba Cn rfl rfl rfl) (hd 71 rfl) <| Ac (A9 D2 rfl rfl rfl) (hd 72 rfl) <| zmv rfl (hd 73 rfl) ?_
  refine Aj Tryd.f60 (rM) rfl Tryd.func60 rfl rfl (Aa rfl (Aa rfl Ad)) (.cons .n (.cons .n .nil)) (hd 74 rfl) ?_ (fun ch hp => by simp at hp)
  rintro _ ⟨⟩; refine zmv rfl (hd 70 rfl) <| Ac (Ap rfl rfl) (hd 75 rfl) <| Ac (Ap rfl rfl) (hd 76 rfl) <| zas rfl (hd 10 rfl) <| Ab <| Af <| zmv rfl (hd 77 rfl) <| Ac (G7 rfl) (hd 78 rfl) <| zas rfl (hd 13 rfl) <| Ab <| zsr <| zmv rfl (hd 80 rfl) ?_; refine zmv rfl (hd 81 rfl) ?_
  refine Aj Tryd.f19 (rR4) rfl Tryd.func19 rfl rfl (Aa rfl (Aa rfl (Aa rfl Ad))) (.cons .b (.cons .n (.cons .i .nil))) (hd 82 rfl) ?_ (fun ch hp => by simp at hp)
  rintro _ ⟨⟩; refine zmv rfl (hd 79 rfl) <| Ac (Ap rfl rfl) (hd 83 rfl) <| Ac (Ap rfl rfl) (hd 84 rfl) <| Bl (Ao (id := 4) By (by decide) rfl (by decide) rfl) (hd 14 rfl) <| A6 (Ah rfl rfl rfl Cc rfl rfl (zlb rfl)) <| zas rfl (hd 11 rfl) <| Ab <| Ae <| zsr <| zmv rfl (hd 85 rfl) <| Ac (Be (Dy rfl rfl) (by simp)) (hd 86 rfl) <| Ab ?_; refine Aw rfl <| Ai <| zsr <| zmv rfl (hd 91 rfl) <| zmv rfl (hd 92 rfl) ?_
  refine Aj Tryd.f19 (rR1) rfl Tryd.func19 rfl rfl (Aa rfl (Aa rfl (Aa rfl Ad))) (.cons .b (.cons .n (.cons .i .nil))) (hd 93 rfl) ?_ (fun ch hp => by simp at hp)
  rintro _ ⟨⟩; refine zmv rfl (hd 90 rfl) <| Ac (Ap rfl rfl) (hd 94 rfl) <| Ac (Ap rfl rfl) (hd 95 rfl) <| Bl (Ao (id := 5) By (by decide) rfl (by decide) rfl) (hd 15 rfl) <| A6 (Ah rfl rfl rfl Cc rfl rfl (zlb rfl)) <| zas rfl (hd 11 rfl) <| Ab <| Ae <| zsr <| zmv rfl (hd 96 rfl) <| Ac (Be (Dy rfl rfl) (by simp)) (hd 97 rfl) <| Ab ?_; refine Aw rfl <| Ai <| Ae <| Cf (n := 5) _ rfl Dk <| zal 0 (Am (A8 B3 rfl rfl rfl rfl) (hd 101 rfl)) rfl ?_
  refine Ik 1 2 ?_ ?_ rfl rfl (by kernel_rfl)
  · refine Adk (A8 B3 rfl rfl rfl rfl) (hd 102 rfl) ?_
    refine A0 2 ?_ rfl (by kernel_rfl)
    refine Bf (Ah rfl rfl rfl Cc rfl rfl (zlb rfl)) rfl ?_
    refine A0 3 ?_ rfl (by kernel_rfl)
    refine Bf (Ah rfl rfl rfl Cc rfl rfl (zlb rfl)) rfl <| zal 4 (Am (Fo rfl) (hd 8 rfl)) rfl <| Bg (by kernel_rfl) <| Ak ?_
    refine ⟨_, _, (.cons (ResV.cell B3 rfl rfl rfl rfl) (.cons (ResV.cell B3 rfl rfl rfl rfl) (.cons rfl .nil))), (.t1 (.a1 .b (.a1 .n .a0)) (.t1 (.a1 .b (.a1 .n .a0)) (.t1 .i .t0))), ?_⟩
    exact rfl
  · refine Bf (Ah rfl rfl rfl Cc rfl rfl (zlb rfl)) rfl <| zal 1 (Am (A8 B3 rfl rfl rfl rfl) (hd 102 rfl)) rfl ?_
    refine A0 3 ?_ rfl (by kernel_rfl)
    refine Bf (Ah rfl rfl rfl Cc rfl rfl (zlb rfl)) rfl <| zal 4 (Am (Fo rfl) (hd 8 rfl)) rfl <| Bg (by kernel_rfl) <| Ak ?_
    refine ⟨_, _, (.cons (ResV.cell B3 rfl rfl rfl rfl) (.cons (ResV.cell B3 rfl rfl rfl rfl) (.cons rfl .nil))), (.t1 (.a1 .b (.a1 .n .a0)) (.t1 (.a1 .b (.a1 .n .a0)) (.t1 .i .t0))), ?_⟩
    exact rfl

theorem Te  : Spec Tryd.prog 34 [.a [.b true, .n false .u64 [7]], .a [.b false, .n false .u64 [2]]] (fun o => o = .ret (.t [.a [.b true, .n true .u64 [4]], .a [.b false, .n true .u64 [1]], .i .i64 0])) := by
  refine An [(0, .a [.b true, .n false .u64 [7]]), (1, .a [.b false, .n false .u64 [2]])] rfl Tryd.func34 rfl (zlb rfl) fun Γ hN hds hL hR => ?_
  have hd := Bu 13 hN
  refine zsr <| Bl (Ci (id := 0) (n := 2) rfl rfl rfl (by decide) rfl) (hd 2 rfl) <| Bl (Ci (id := 1) (n := 2) rfl rfl rfl (by decide) rfl) (hd 3 rfl) <| Bl (Ao (id := 2) By (by decide) rfl (by decide) rfl) (hd 4 rfl) <| Bl (Ao (id := 3) By (by decide) rfl (by decide) rfl) (hd 5 rfl) <| zas rfl (hd 6 rfl) <| Ab <| zsr <| Ac (A8 B3 rfl rfl rfl rfl) (hd 7 rfl) <| Ac (A8 B3 rfl rfl rfl rfl) (hd 8 rfl) ?_
  refine Aj Tryd.f50 (Qn) rfl Tryd.func50 rfl rfl (Aa rfl (Aa rfl (Aa rfl Ad))) (.cons (.a1 .b (.a1 .n .a0)) (.cons (.a1 .b (.a1 .n .a0)) (.cons .i .nil))) (hd 9 rfl) ?_ (fun ch hp => by simp at hp)
  rintro _ ⟨⟩; refine Ac (Ap rfl rfl) (hd 10 rfl) <| Ac (Ap rfl rfl) (hd 11 rfl) <| Ac (Ap rfl rfl) (hd 12 rfl) <| A6 (Ah rfl rfl rfl Cc rfl rfl (zlb rfl)) <| A6 (Ah rfl rfl rfl Cc rfl rfl (zlb rfl)) <| zas rfl (hd 6 rfl) <| Ab <| Ak ?_
  refine ⟨_, _, (.cons (ResV.cell B3 rfl rfl rfl rfl) (.cons (ResV.cell B3 rfl rfl rfl rfl) (.cons rfl .nil))), (.t1 (.a1 .b (.a1 .n .a0)) (.t1 (.a1 .b (.a1 .n .a0)) (.t1 .i .t0))), ?_⟩
  exact rfl

theorem Q2  : Spec Tryd.prog 13 [] (fun o => o = .ret (.b true)) := by
  refine An [] rfl Tryd.func13 rfl (zlb rfl) fun Γ hN hds hL hR => ?_
  have hd := Bu 30 hN
  have r7 : Spec Tryd.prog 35 [.i .i64 (-7)] (fun o => o = .ret (.a [.b true, .n true .u64 [7]])) := Aao (-7) (by decide) (by decide)
  have r2 : Spec Tryd.prog 35 [.i .i64 2] (fun o => o = .ret (.a [.b false, .n true .u64 [2]])) := Aan 2 (by decide) (by decide)
  have rI4 : Spec Tryd.prog 36 [.i .i64 (-4)] (fun o => o = .ret (.a [.b true, .n false .u64 [4]])) := Ri (-4) (by decide) (by decide)
  have rI1 : Spec Tryd.prog 36 [.i .i64 1] (fun o => o = .ret (.a [.b false, .n false .u64 [1]])) := Rh 1 (by decide) (by decide)
  have rZ4 : Spec Tryd.prog 27 [.a [.b true, .n false .u64 [4]], .b true, .n false .u64 [4]] (fun o => o = .ret (.b true)) := Xi true [4] (by decide)
  have rZ1 : Spec Tryd.prog 27 [.a [.b false, .n false .u64 [1]], .b false, .n false .u64 [1]] (fun o => o = .ret (.b true)) := Xi false [1] (by decide)
  refine zsr <| zas rfl (hd 0 rfl) <| Ab <| Ae <| Af ?_
  refine Aj Tryd.f35 (r7) rfl Tryd.func35 rfl rfl (Aa rfl Ad) (.cons .i .nil) (hd 5 rfl) ?_ (fun ch hp => by simp at hp)
  rintro y hy; injection hy with hy; subst hy
  refine Aj Tryd.f35 (r2) rfl Tryd.func35 rfl rfl (Aa rfl Ad) (.cons .i .nil) (hd 6 rfl) ?_ (fun ch hp => by simp at hp)
  rintro y hy; injection hy with hy; subst hy
  refine Aj Tryd.f34 (Te) rfl Tryd.func34 rfl rfl (Aa rfl (Aa rfl Ad)) (.cons (.a1 .b (.a1 .n .a0)) (.cons (.a1 .b (.a1 .n .a0)) .nil)) (hd 7 rfl) ?_ (fun ch hp => by simp at hp)
  rintro _ ⟨⟩; refine zmv rfl (hd 4 rfl) <| Ac (Ap rfl rfl) (hd 8 rfl) <| Ac (Ap rfl rfl) (hd 9 rfl) <| Ac (Ap rfl rfl) (hd 10 rfl) <| Bl (Ao (id := 0) By (by decide) rfl (by decide) rfl) (hd 1 rfl) <| Bl (Ao (id := 1) By (by decide) rfl (by decide) rfl) (hd 2 rfl) <| A6 (Ah rfl rfl rfl Cc rfl rfl (zlb rfl)) <| A6 (Ah rfl rfl rfl Cc rfl rfl (zlb rfl)) <| zas rfl (hd 3 rfl) <| Ab <| Ae <| Cf (n := 20) _ rfl Dk <| A4 0 [1, 2, 3, 4, 5, 6, 7, 8, 9, 10, 11, 12, 13, 14, 15, 16, 17, 18, 19] (Am (At rfl) (hd 11 rfl)) rfl ?_
  refine A0 1 ?_ rfl (by kernel_rfl)
  refine As Tryd.f26 (Sg 0) rfl Tryd.func26 rfl rfl (Aa rfl Ad) (.cons .i .nil) (hd 12 rfl) ?_ (fun ch hp => by simp at hp)
  rintro _ ⟨⟩; refine A4 2 [3, 4, 5, 6, 7, 8, 9, 10, 11, 12, 13, 14, 15, 16, 17, 18, 19] (Am (B8 (B7 rfl rfl) rfl) (hd 13 rfl)) rfl <| A4 3 [4, 5, 6, 7, 8, 9, 10, 11, 12, 13, 14, 15, 16, 17, 18, 19] (Am (At rfl) (hd 14 rfl)) rfl <| A4 5 [6, 9, 10, 11, 12, 13, 14, 15, 16, 17, 18, 19] (G8 14 rfl rfl (Ba Cy rfl rfl rfl) (hd 16 rfl)) rfl <| A4 6 [9, 10, 11, 12, 13, 14, 15, 16, 17, 18, 19] (G8 14 rfl rfl (A9 Ez rfl rfl rfl) (hd 17 rfl)) rfl <| A4 7 [8, 9, 10, 11, 12, 13, 14, 15, 16, 17, 18, 19] (G8 14 rfl rfl (Ba Cn rfl rfl rfl) (hd 18 rfl)) rfl <| A4 8 [9, 10, 11, 12, 13, 14, 15, 16, 17, 18, 19] (G8 14 rfl rfl (A9 D2 rfl rfl rfl) (hd 19 rfl)) rfl ?_
  refine A0 4 ?_ rfl (by kernel_rfl)
  refine Ei Tryd.f36 14 rfl rfl (rI4) rfl Tryd.func36 rfl rfl (Aa rfl Ad) (.cons .i .nil) (hd 15 rfl) ?_ (fun ch hp => by simp at hp)
  rintro y hy; injection hy with hy; subst hy
  refine A0 9 ?_ rfl (by kernel_rfl)
  refine Ei Tryd.f27 14 rfl rfl (rZ4) rfl Tryd.func27 rfl rfl (Aa rfl (Aa rfl (Aa rfl Ad))) (.cons (.a1 .b (.a1 .n .a0)) (.cons .b (.cons .n .nil))) (hd 20 rfl) ?_ (fun ch hp => by simp at hp)
  rintro _ ⟨⟩; refine A4 10 [11, 12, 13, 14, 15, 16, 17, 18, 19] (Am (Bi rfl rfl) (hd 21 rfl)) rfl <| zal 11 (Am (At rfl) (hd 22 rfl)) rfl <| A4 13 [14, 17, 18, 19] (G8 22 rfl rfl (Ba Cy rfl rfl rfl) (hd 24 rfl)) rfl <| A4 14 [17, 18, 19] (G8 22 rfl rfl (A9 Ez rfl rfl rfl) (hd 25 rfl)) rfl <| A4 15 [16, 17, 18, 19] (G8 22 rfl rfl (Ba Cn rfl rfl rfl) (hd 26 rfl)) rfl <| A4 16 [17, 18, 19] (G8 22 rfl rfl (A9 D2 rfl rfl rfl) (hd 27 rfl)) rfl ?_
  refine A0 12 ?_ rfl (by kernel_rfl)
  refine Ei Tryd.f36 22 rfl rfl (rI1) rfl Tryd.func36 rfl rfl (Aa rfl Ad) (.cons .i .nil) (hd 23 rfl) ?_ (fun ch hp => by simp at hp)
  rintro y hy; injection hy with hy; subst hy
  refine A0 17 ?_ rfl (by kernel_rfl)
  refine Ei Tryd.f27 22 rfl rfl (rZ1) rfl Tryd.func27 rfl rfl (Aa rfl (Aa rfl (Aa rfl Ad))) (.cons (.a1 .b (.a1 .n .a0)) (.cons .b (.cons .n .nil))) (hd 28 rfl) ?_ (fun ch hp => by simp at hp)
  rintro _ ⟨⟩; refine zal 18 (Am (Bi rfl rfl) (hd 29 rfl)) rfl <| zal 19 (Am (Fo rfl) (hd 0 rfl)) rfl <| Bg (by kernel_rfl) <| Ak ?_
  refine ⟨_, _, (.cons rfl .nil), .b, ?_⟩
  exact rfl

theorem Xo (x y : Int) (hx0 : 0 ≤ x) (hx : x < 18446744073709551616) (hy0 : 0 ≤ y) (hy : y < 18446744073709551616) : Spec Tryd.prog 83 [.i .u64 x, .i .u64 y] (fun o => o = .ret (.t [.i .u64 (x * y / 18446744073709551616), .i .u64 (x * y % 18446744073709551616)])) := by
  refine An [(0, .i .u64 x), (1, .i .u64 y)] rfl Tryd.func83 rfl (zlb rfl) fun Γ hN hds hL hR => ?_
  have hd := Bu 51 hN
  have hM := Pg hx0 hx hy0 hy
  dsimp only at hM
  obtain ⟨b00, b10, b01, b11, hhi⟩ := hM
  refine zsr <| zas rfl (hd 4 rfl) <| zas rfl (hd 5 rfl) <| Ab <| zsr <| zmv rfl (hd 14 rfl) <| Ac (Bo (Gh (by simp) rfl rfl rfl) (show V.i .u64 (Fc .and .u64 (x) 4294967295) = V.i .u64 (x % 4294967296) by rw [Xf hx0 hx])) (hd 15 rfl) <| zas rfl (hd 6 rfl) <| Ab <| Ae <| Af ?_; refine zmv rfl (hd 16 rfl) <| Ac (Bo (D7 rfl rfl (by omega) rfl) (show V.i .u64 _ = V.i .u64 (x / 4294967296) from congrArg _ (Oq hx0))) (hd 17 rfl) <| zas rfl (hd 7 rfl) <| Ab <| zsr <| zmv rfl (hd 18 rfl) <| Ac (Bo (Gh (by simp) rfl rfl rfl) (show V.i .u64 (Fc .and .u64 (y) 4294967295) = V.i .u64 (y % 4294967296) by rw [Xf hy0 hy])) (hd 19 rfl) <| zas rfl (hd 8 rfl) <| Ab <| zsr <| zmv rfl (hd 20 rfl) ?_; refine Ac (Bo (D7 rfl rfl (by omega) rfl) (show V.i .u64 _ = V.i .u64 (y / 4294967296) from congrArg _ (Oq hy0))) (hd 21 rfl) <| zas rfl (hd 9 rfl) <| Ab <| zsr <| zmv rfl (hd 22 rfl) <| zmv rfl (hd 23 rfl) <| Ac (Dn rfl rfl (A5 (by omega) (by omega))) (hd 24 rfl) <| zas rfl (hd 10 rfl) <| Ab <| zsr <| zmv rfl (hd 25 rfl) ?_; refine zmv rfl (hd 26 rfl) <| Ac (Dn rfl rfl (A5 (by omega) (by omega))) (hd 27 rfl) <| zmv rfl (hd 28 rfl) <| Ac (Bo (D7 rfl rfl (by omega) rfl) (show V.i .u64 _ = V.i .u64 (x % 4294967296 * (y % 4294967296) / 4294967296) from congrArg _ (Oq b00.1))) (hd 29 rfl) <| Ac (Av rfl rfl (A5 (by omega) (by omega))) (hd 30 rfl) <| zas rfl (hd 11 rfl) <| Ab <| zsr <| zmv rfl (hd 31 rfl) <| Ac (Bo (Gh (by simp) rfl rfl rfl) (show V.i .u64 (Fc .and .u64 ((x / 4294967296 * (y % 4294967296) + x % 4294967296 * (y % 4294967296) / 4294967296)) 4294967295) = V.i .u64 ((x / 4294967296 * (y % 4294967296) + x % 4294967296 * (y % 4294967296) / 4294967296) % 4294967296) by rw [Xf (by omega) (by omega)])) (hd 32 rfl) <| zas rfl (hd 12 rfl) <| Ab ?_; refine zsr <| zmv rfl (hd 33 rfl) <| Ac (Bo (D7 rfl rfl (by omega) rfl) (show V.i .u64 _ = V.i .u64 ((x / 4294967296 * (y % 4294967296) + x % 4294967296 * (y % 4294967296) / 4294967296) / 4294967296) from congrArg _ (Oq (by omega)))) (hd 34 rfl) <| zas rfl (hd 13 rfl) <| Ab <| zsr <| zmv rfl (hd 35 rfl) <| zmv rfl (hd 36 rfl) <| zmv rfl (hd 37 rfl) <| Ac (Dn rfl rfl (A5 (by omega) (by omega))) (hd 38 rfl) <| Ac (Av rfl rfl (A5 (by omega) (by omega))) (hd 39 rfl) ?_; refine zas rfl (hd 12 rfl) <| Ab <| zsr <| zmv rfl (hd 40 rfl) <| zmv rfl (hd 41 rfl) <| Ac (Dn rfl rfl (A5 (by omega) (by omega))) (hd 42 rfl) <| zmv rfl (hd 43 rfl) <| Ac (Av rfl rfl (A5 (by omega) (by omega))) (hd 44 rfl) <| zmv rfl (hd 45 rfl) <| Ac (Bo (D7 rfl rfl (by omega) rfl) (show V.i .u64 _ = V.i .u64 (((x / 4294967296 * (y % 4294967296) + x % 4294967296 * (y % 4294967296) / 4294967296) % 4294967296 + x % 4294967296 * (y / 4294967296)) / 4294967296) from congrArg _ (Oq (by omega)))) (hd 46 rfl) <| Ac (Av rfl rfl (A5 (by omega) (by omega))) (hd 47 rfl) ?_
  refine zas rfl (hd 4 rfl) <| Ab <| zsr <| zmv rfl (hd 48 rfl) <| zmv rfl (hd 49 rfl) <| Ac (Dn rfl rfl (r := x * y % 18446744073709551616) Df) (hd 50 rfl) <| zas rfl (hd 5 rfl) <| Ab <| Ak ?_
  refine ⟨_, _, (.cons rfl (.cons rfl .nil)), (.t1 .i (.t1 .i .t0)), ?_⟩
  rw [hhi]

theorem Rz (a b : List Int) (hla : a.length < 1099511627776) (hlb : b.length < 1099511627776) (ua : Az a) (ub : Az b) : Spec Tryd.prog 68 [.n false .u64 a, .n false .u64 b] (fun o => ∃ r, o = .ret (.n true .u64 r) ∧ Az r ∧ r.length = a.length + b.length ∧ vl r = vl a * vl b) := by
  refine An [(0, .n false .u64 a), (1, .n false .u64 b)] rfl Tryd.func68 rfl (zlb rfl) fun Γ hN hds hL hR => ?_
  have hd := Bu 78 hN
  refine zsr <| zas rfl (hd 4 rfl) <| Ab <| zsr <| zmv rfl (hd 14 rfl) <| Ac (Al Bj rfl) (hd 15 rfl) <| zmv rfl (hd 16 rfl) <| Ac (Al Bj rfl) (hd 17 rfl) <| Ac (Av rfl rfl (r := ((a.length + b.length : Nat) : Int)) (by rw [Ag (by omega) (by omega)]; omega)) (hd 18 rfl) <| Bl (Fp (m := a.length + b.length) Ns rfl rfl rfl (by show 8 * (a.length + b.length) ≤ _; omega) (by unfold maxLen; omega) rfl) (hd 19 rfl) <| zas rfl (hd 5 rfl) ?_; refine Ab <| Ae <| zsr <| zmv rfl (hd 20 rfl) <| Ac (Al Bj rfl) (hd 21 rfl) <| zmv rfl (hd 22 rfl) <| Ab <| Au ?_
  refine Bv (G := Nat × List Int) (fun g => g.1 ≤ a.length ∧ g.2.length = a.length + b.length ∧ Az g.2 ∧ vl g.2 = vk a g.1 * vl b ∧ ∀ j, g.1 + b.length ≤ j → g.2.getD j 0 = 0) (fun g => [(22, .i .i64 (g.1 : Int)), (6, .u), (7, .u), (8, .u), (9, .u), (10, .u), (11, .u), (12, .u), (13, .u), (23, .u), (24, .u), (25, .u), (26, .u), (27, .u), (28, .u), (29, .u), (30, .u), (31, .u), (32, .u), (33, .u), (34, .u), (35, .u), (36, .u), (37, .u), (38, .u), (39, .u), (40, .u), (41, .u), (42, .u), (43, .u), (44, .u), (45, .u), (46, .u), (47, .u), (48, .u), (49, .u), (50, .u), (51, .u), (52, .u), (53, .u), (54, .u), (55, .u), (56, .u), (57, .u), (58, .u), (59, .u), (60, .u), (61, .u), (62, .u), (63, .u), (64, .u), (65, .u), (66, .u), (67, .u), (68, .u), (69, .u), (70, .u), (71, .u), (72, .u), (73, .u), (74, .u), (75, .u), (76, .u)]) (fun g => [⟨58, 1, 0, true, ints .u64 g.2⟩]) (fun g => a.length - g.1) (0, List.replicate (a.length + b.length) 0) ?_ ?_ rfl ?_
  · exact ⟨Nat.zero_le _, List.length_replicate, Fe _, by rw [Fd, vk_0, Int.zero_mul], fun j _ => I9 _ j⟩
  · exact (.cons rfl (.v9 (.v9 (.v9 (.v9 (.v9 (.v9 (.u (.u .nil)))))))))
  · rintro ⟨i, r⟩ ⟨hc1, hc2, hc3, hc4, hc5⟩
    dsimp only at hc1 hc2 hc3 hc4 hc5
    have hX := Bq ua i
    refine zsr <| Ac (Bp rfl rfl) (hd 23 rfl) <| Ab <| Ae ?_
    refine Bc rfl (fun h1 => ?_) (fun h1 => ?_)
    · refine Ai <| Ae <| Au <| zsr <| zmv rfl (hd 24 rfl) <| Ac (Bx (i := i) Bj rfl rfl (by first | rfl | omega) (by omega)) (hd 25 rfl) <| Ac (Bw Bm rfl rfl) (hd 26 rfl) <| zas rfl (hd 6 rfl) <| zas rfl (hd 7 rfl) <| Ab <| Ae <| Af ?_; refine zas rfl (hd 8 rfl) <| Ab <| Ae <| zsr <| zmv rfl (hd 27 rfl) <| Ac (Al Bj rfl) (hd 28 rfl) <| zmv rfl (hd 29 rfl) <| Ab <| Au ?_
      refine Bv (G := Nat × List Int × Int) (fun g => g.1 ≤ b.length ∧ g.2.1.length = a.length + b.length ∧ Az g.2.1 ∧ (0 ≤ g.2.2 ∧ g.2.2 < 18446744073709551616) ∧ vl g.2.1 + g.2.2 * pB (i + g.1) = vl r + a.getD i 0 * pB i * vk b g.1 ∧ ∀ j, i + b.length ≤ j → g.2.1.getD j 0 = 0) (fun g => [(8, .i .u64 g.2.2), (29, .i .i64 (g.1 : Int)), (9, .u), (10, .u), (11, .u), (12, .u), (13, .u), (30, .u), (31, .u), (32, .u), (33, .u), (34, .u), (35, .u), (36, .u), (37, .u), (38, .u), (39, .u), (40, .u), (41, .u), (42, .u), (43, .u), (44, .u), (45, .u), (46, .u), (47, .u), (48, .u), (49, .u), (50, .u), (51, .u), (52, .u), (53, .u), (54, .u), (55, .u), (56, .u), (57, .u), (58, .u), (59, .u), (60, .u), (61, .u), (62, .u), (63, .u), (64, .u), (65, .u), (66, .u), (67, .u), (68, .u)]) (fun g => [⟨58, 1, 0, true, ints .u64 g.2.1⟩]) (fun g => b.length - g.1) (0, r, 0) ?_ ?_ rfl ?_
      · exact ⟨Nat.zero_le _, hc2, hc3, ⟨Int.le_refl 0, by show (0 : Int) < _; decide⟩, by show vl r + 0 * _ = _ + _ * vk b 0; rw [vk_0, Int.mul_zero, Int.zero_mul], hc5⟩
      · exact (.cons rfl (.cons rfl (.v9 (.v9 (.v9 (.v9 (.u (.u (.u (.u .nil))))))))))
      · rintro ⟨k, q, c⟩ ⟨hd1, hd2, hd3, hd4, hd5, hd6⟩
        dsimp only at hd1 hd2 hd3 hd4 hd5 hd6
        have hY := Bq ub k
        have hT := Bq hd3 (i + k)
        have hP := Ia (m := 18446744073709551615) hX.1 hY.1 (by omega) (by omega)
        have hP2 : a.getD i 0 * b.getD k 0 ≤ 340282366920938463426481119284349108225 := by have := hP.2; simpa using this
        have hst := Lj (P := a.getD i 0 * b.getD k 0) (c := c) (t := q.getD (i + k) 0) hP.1 hP2 hd4.1 hd4.2 hT.1 hT.2
        obtain ⟨hs1, hs2, hs3, hs4, hs5⟩ := hst
        refine zsr <| Ac (Bp rfl rfl) (hd 30 rfl) <| Ab <| Ae ?_
        refine Bc rfl (fun h2 => ?_) (fun h2 => ?_)
        · refine Ai <| Ae <| Au <| zsr <| zmv rfl (hd 31 rfl) <| Ac (Bx (i := k) Bj rfl rfl (by first | rfl | omega) (by omega)) (hd 32 rfl) <| Ac (Bw Bm rfl rfl) (hd 33 rfl) <| zas rfl (hd 9 rfl) <| zas rfl (hd 10 rfl) <| Ab <| Ae <| Af ?_; refine zmv rfl (hd 35 rfl) <| zmv rfl (hd 36 rfl) ?_
          refine Aj Tryd.f83 (Xo (a.getD i 0) (b.getD k 0) hX.1 hX.2 hY.1 hY.2) rfl Tryd.func83 rfl rfl (Aa rfl (Aa rfl Ad)) (.cons .i (.cons .i .nil)) (hd 37 rfl) ?_ (fun ch hp => by simp at hp)
          rintro _ ⟨⟩; refine zmv rfl (hd 34 rfl) <| Ac (Ap rfl rfl) (hd 38 rfl) <| Ac (Ap rfl rfl) (hd 39 rfl) <| zas rfl (hd 11 rfl) <| zas rfl (hd 12 rfl) <| Ab <| zsr <| zas rfl (hd 13 rfl) <| Ab <| zsr <| zmv rfl (hd 41 rfl) ?_; refine zmv rfl (hd 42 rfl) <| Bl (F5 (e := add64Entry) Tryd.func49 rfl rfl (by kernel_rfl) (by kernel_rfl) rfl rfl rfl (fun w => run_add64 _ _ _ (by omega) hd4.1 (by decide) (by decide) w) Et) (hd 43 rfl) <| zmv rfl (hd 40 rfl) <| Ac (Ap rfl rfl) (hd 44 rfl) <| Ac (Ap rfl rfl) (hd 45 rfl) <| zas rfl (hd 12 rfl) <| zas rfl (hd 13 rfl) <| Ab <| zsr <| zmv rfl (hd 46 rfl) <| zmv rfl (hd 47 rfl) <| Ac (Av rfl rfl (A5 (by omega) (by omega))) (hd 48 rfl) ?_; refine zas rfl (hd 11 rfl) <| Ab <| zsr <| zmv rfl (hd 50 rfl) <| zmv rfl (hd 51 rfl) <| zmv rfl (hd 52 rfl) <| Ac (Av rfl rfl (r := ((i + k : Nat) : Int)) (by rw [Ag (by omega) (by omega)]; omega)) (hd 53 rfl) <| zmv rfl (hd 54 rfl) <| zmv rfl (hd 55 rfl) <| zmv rfl (hd 56 rfl) <| Ac (Av rfl rfl (r := ((i + k : Nat) : Int)) (by rw [Ag (by omega) (by omega)]; omega)) (hd 57 rfl) <| Ac (Cz (i := i + k) Bj rfl rfl rfl (by first | rfl | omega) (by omega) rfl) (hd 58 rfl) ?_; refine Ac (Bo (Fv Bm rfl rfl (by dsimp only; omega)) (show V.i .u64 (q.getD ((0 + (i + k)) * 1) 0) = V.i .u64 (q.getD (i + k) 0) by rw [Nat.zero_add, Nat.mul_one])) (hd 59 rfl) <| zmv rfl (hd 60 rfl) <| Bl (F5 (e := add64Entry) Tryd.func49 rfl rfl (by kernel_rfl) (by kernel_rfl) rfl rfl rfl (fun w => run_add64 _ _ _ hT.1 (by omega) (by decide) (by decide) w) Et) (hd 61 rfl) <| zmv rfl (hd 49 rfl) <| Ac (Ap rfl rfl) (hd 62 rfl) <| Ac (Ap rfl rfl) (hd 63 rfl) <| Ac (Cz (i := i + k) Bj rfl rfl rfl (by first | rfl | omega) (by omega) rfl) (hd 64 rfl) <| A6 (Bz rfl rfl rfl Bm (by dsimp only; omega)) <| zas rfl (hd 13 rfl) <| Ab <| Af <| zmv rfl (hd 65 rfl) <| zmv rfl (hd 66 rfl) ?_; refine Ac (Av rfl rfl (A5 (by omega) (by omega))) (hd 67 rfl) <| zas rfl (hd 8 rfl) <| Ab <| Af <| Ac (Av rfl rfl (Ag (by omega) (by omega))) (hd 68 rfl) <| zmv rfl (hd 29 rfl) <| Ab ?_
          refine ⟨(k + 1, q.set ((0 + (i + k)) * 1) ((q.getD (i + k) 0 + (a.getD i 0 * b.getD k 0 % 18446744073709551616 + c + 0) % 18446744073709551616 + 0) % 18446744073709551616), a.getD i 0 * b.getD k 0 / 18446744073709551616 + (a.getD i 0 * b.getD k 0 % 18446744073709551616 + c + 0) / 18446744073709551616 + (q.getD (i + k) 0 + (a.getD i 0 * b.getD k 0 % 18446744073709551616 + c + 0) % 18446744073709551616 + 0) / 18446744073709551616), ?_, ?_, rfl, Bb 96 rfl rfl ?_⟩
          · refine ⟨by omega, by rw [List.length_set]; exact hd2, Hh hd3 (by omega) (by omega), ⟨hs3, hs4⟩, ?_, fun j hj => ?_⟩
            · exact school_in (by omega) (by rw [Nat.zero_add, Nat.mul_one]) rfl hd5 hs5
            · rw [Nat.zero_add, Nat.mul_one, Hs (by omega)]; exact hd6 j hj
          · show b.length - (k + 1) < b.length - k
            omega
          · exact (.cons rfl (.cons rfl (.v9 (.v9 (.v9 (.v9 (.u (.u (.u (.u .nil))))))))))
        · obtain rfl : k = b.length := by omega
          refine Br <| Af <| zmv rfl (hd 69 rfl) <| zmv rfl (hd 70 rfl) <| zmv rfl (hd 71 rfl) <| Ac (Al Bj rfl) (hd 72 rfl) <| Ac (Av rfl rfl (r := ((i + b.length : Nat) : Int)) (by rw [Ag (by omega) (by omega)]; omega)) (hd 73 rfl) <| zmv rfl (hd 74 rfl) <| Ac (Cz (i := i + b.length) Bj rfl rfl rfl (by first | rfl | omega) (by omega) rfl) (hd 75 rfl) <| A6 (Bz rfl rfl rfl Bm (by dsimp only; omega)) <| Ab <| Af <| Ac (Av rfl rfl (Ag (by omega) (by omega))) (hd 76 rfl) ?_; refine zmv rfl (hd 22 rfl) <| Ab ?_
          refine ⟨(i + 1, q.set ((0 + (i + b.length)) * 1) c), ?_, ?_, rfl, Bb 129 (by kernel_rfl) (by kernel_rfl) ?_⟩
          · exact ⟨by omega, by rw [List.length_set]; exact hd2, Hh hd3 hd4.1 hd4.2, school_row (by omega) (hd6 _ (Nat.le_refl _)) (by rw [Nat.zero_add, Nat.mul_one]) (by rw [hd5, hc4]), fun j hj => by rw [Nat.zero_add, Nat.mul_one, Hs (by omega)]; exact hd6 j (by omega)⟩
          · show a.length - (i + 1) < a.length - i
            omega
          · exact (.cons rfl (.v9 (.v9 (.v9 (.v9 (.v9 (.v9 (.u (.u .nil)))))))))
    · refine Br <| zsr <| zmv rfl (hd 77 rfl) <| zas rfl (hd 4 rfl) <| Ab <| Ak ?_
      refine ⟨_, _, (.cons rfl .nil), (.o (l := r) rfl (by omega) rfl), ?_⟩
      rw [List.drop_zero, List.take_of_length_le (by omega)]
      exact ⟨r, rfl, hc3, hc2, by rw [hc4, vk_all (by omega)]⟩

theorem G2 (r b : List Int) (n at_ : Nat) (hr : r.length = n) (hn : n < 4398046511104) (hat : at_ < 4398046511104) (hlb : b.length < 4398046511104) (ur : Az r) (ub : Az b) (hfit : vl r + pB at_ * vl b < pB n) : SpecM Tryd.prog 69 [.o 0 0 0 n, .n false .u64 b, .i .i64 (at_ : Int)] ([⟨58, 1, 0, true, ints .u64 r⟩]) (fun o H' => o = .ret (.t []) ∧ ∃ r2, H' = [⟨58, 1, 0, true, ints .u64 r2⟩] ∧ r2.length = n ∧ Az r2 ∧ vl r2 = vl r + pB at_ * vl b) := by
  refine Md [(0, .o 0 0 0 n), (1, .n false .u64 b), (2, .i .i64 (at_ : Int))] rfl (1) rfl Tryd.func69 rfl (zlb rfl) fun Γ hN hds => ?_
  have hd := Bu 53 hN
  refine zsr <| zas rfl (hd 6 rfl) <| Ab <| zsr <| zmv rfl (hd 9 rfl) <| zas rfl (hd 7 rfl) <| Ab <| Au ?_
  refine Bv (G := Nat × List Int × Int) (fun g => at_ ≤ g.1 ∧ g.1 ≤ n + at_ ∧ g.2.1.length = n ∧ Az g.2.1 ∧ vl g.2.1 + g.2.2 * pB g.1 = vl r + pB at_ * vk b (g.1 - at_) ∧ 0 ≤ g.2.2 ∧ g.2.2 ≤ 1) (fun g => [(6, .i .u64 g.2.2), (7, .i .i64 (g.1 : Int)), (8, .u), (10, .u), (11, .u), (12, .u), (13, .u), (14, .u), (15, .u), (16, .u), (17, .u), (18, .u), (19, .u), (20, .u), (21, .u), (22, .u), (23, .u), (24, .u), (25, .u), (26, .u), (27, .u), (28, .u), (29, .u), (30, .u), (31, .u), (32, .u), (33, .u), (34, .u), (35, .u), (36, .u), (37, .u), (38, .u), (39, .u), (40, .u), (41, .u), (42, .u), (43, .u), (44, .u), (45, .u), (46, .u), (47, .u), (48, .u), (49, .u), (50, .u), (51, .u), (52, .u)]) (fun g => [⟨58, 1, 0, true, ints .u64 g.2.1⟩]) (fun g => n - g.1) (at_, r, 0) ?_ ?_ rfl ?_
  · exact ⟨Nat.le_refl _, by show at_ ≤ n + at_; omega, hr, ur, by show vl r + 0 * _ = _ + _ * vk b (at_ - at_); rw [Nat.sub_self, vk_0, Int.mul_zero, Int.zero_mul], Int.le_refl 0, (by decide : (0 : Int) ≤ 1)⟩
  · exact (.cons rfl (.cons rfl (.v9 (.v9 (.v9 (.v9 (.u (.u (.u (.u .nil))))))))))
  · rintro ⟨i, q, c⟩ ⟨hc1, hc0, hc3, hc4, hc5, hc6, hc7⟩
    dsimp only at hc1 hc0 hc3 hc4 hc5 hc6 hc7
    have hT := Bq hc4 i
    have hY := Bq ub (i - at_)
    refine Ae <| zsr <| zmv rfl (hd 10 rfl) <| zmv rfl (hd 11 rfl) <| Ac (Dc Bj rfl rfl) (hd 12 rfl) <| Ac (Bp rfl rfl) (hd 13 rfl) <| zmv rfl (hd 14 rfl) ?_
    refine Ea 14 rfl (fun h1 => ?_) (fun h1 => ?_)
    · refine Ay 14 rfl rfl (At rfl) (hd 15 rfl) <| Ay 14 rfl rfl (At rfl) (hd 16 rfl) <| Ay 14 rfl rfl (Bt rfl rfl (r := ((i - at_ : Nat) : Int)) (by rw [Ag (by omega) (by omega)]; omega)) (hd 17 rfl) <| Ay 14 rfl rfl (At rfl) (hd 18 rfl) <| Ay 14 rfl rfl (Al Bj rfl) (hd 19 rfl) <| Ay 14 rfl rfl (Bp rfl rfl) (hd 20 rfl) <| Ay 14 rfl rfl (At rfl) (hd 21 rfl) ?_
      refine Ea 21 rfl (fun h2 => ?_) (fun h2 => ?_)
      · refine Bh 21 rfl rfl rfl (hd 22 rfl) <| Bh 21 rfl rfl rfl (hd 23 rfl) <| Ay 14 rfl rfl (Bi rfl rfl) (hd 24 rfl) <| Ac (Bi rfl rfl) (hd 25 rfl) <| Ab <| B5 rfl <| Ai <| Ae <| Au <| zsr <| zas rfl (hd 8 rfl) <| Ab ?_
        refine Cx (G := Unit) (fun _ => True) (fun _ => [(8, .i .u64 (b.getD (i - at_) 0)), (28, .u), (29, .u), (30, .u), (31, .u), (32, .u), (33, .u), (34, .u), (35, .u), (36, .u), (37, .u), (38, .u), (39, .u)]) ?_ ?_
        · refine zsr <| zmv rfl (hd 28 rfl) <| zmv rfl (hd 29 rfl) <| Ac (Bt rfl rfl (r := ((i - at_ : Nat) : Int)) (by rw [Ag (by omega) (by omega)]; omega)) (hd 30 rfl) <| zmv rfl (hd 31 rfl) <| Ac (Al Bj rfl) (hd 32 rfl) <| Ac (Bp rfl rfl) (hd 33 rfl) <| Ab ?_
          refine Bc rfl (fun h4 => ?_) (fun h4 => ?_)
          · refine Af <| zmv rfl (hd 34 rfl) <| zmv rfl (hd 35 rfl) <| zmv rfl (hd 36 rfl) <| Ac (Bt rfl rfl (r := ((i - at_ : Nat) : Int)) (by rw [Ag (by omega) (by omega)]; omega)) (hd 37 rfl) <| Ac (Bx (i := i - at_) Bj rfl rfl (by first | rfl | omega) (by first | omega | (dsimp only; omega))) (hd 38 rfl) <| Ac (Bw Bm rfl rfl) (hd 39 rfl) <| zas rfl (hd 8 rfl) <| Ab ?_
            refine ⟨(), ?_, rfl, Bb 13 rfl rfl ?_⟩
            · trivial
            · exact (.cons (by first | rfl | (show some (V.i .u64 _) = some (V.i .u64 _); rw [C5 (by omega)])) (.v9 (.u (.u .nil))))
          · refine Ai ?_
            refine ⟨(), ?_, rfl, Bb 6 rfl rfl ?_⟩
            · trivial
            · exact (.cons (by first | rfl | (show some (V.i .u64 _) = some (V.i .u64 _); rw [C5 (by omega)])) (.v9 (.u (.u .nil))))
        · rintro _ _; refine Af <| zmv rfl (hd 41 rfl) <| zmv rfl (hd 42 rfl) <| zmv rfl (hd 43 rfl) <| zmv rfl (hd 44 rfl) <| Ac (Cz (i := i) Bj rfl rfl rfl (by first | rfl | omega) (by first | omega | (dsimp only; omega)) rfl) (hd 45 rfl) <| Ac (Bo (Fv Bm rfl rfl (by first | omega | (dsimp only; omega))) (show V.i .u64 (q.getD ((0 + i) * 1) 0) = V.i .u64 (q.getD i 0) by rw [Nat.zero_add, Nat.mul_one])) (hd 46 rfl) <| zmv rfl (hd 47 rfl) <| zmv rfl (hd 48 rfl) <| Bl (F5 (e := add64Entry) Tryd.func49 rfl rfl (by kernel_rfl) (by kernel_rfl) rfl rfl rfl (fun w => run_add64 _ _ _ hT.1 hY.1 hc6 hc7 w) Et) (hd 49 rfl) <| zmv rfl (hd 40 rfl) <| Ac (Ap rfl rfl) (hd 50 rfl) <| Ac (Ap rfl rfl) (hd 51 rfl) ?_; refine Ac (Cz (i := i) Bj rfl rfl rfl (by first | rfl | omega) (by first | omega | (dsimp only; omega)) rfl) (hd 52 rfl) <| A6 (Bz rfl rfl rfl Bm (by first | omega | (dsimp only; omega))) <| zas rfl (hd 6 rfl) <| Ab <| Af <| zmv rfl (hd 26 rfl) <| Ac (Av rfl rfl (Ag (by first | omega | (dsimp only; omega)) (by first | omega | (dsimp only; omega)))) (hd 27 rfl) <| zas rfl (hd 7 rfl) <| Ab ?_
          refine ⟨(i + 1, q.set ((0 + i) * 1) ((q.getD i 0 + b.getD (i - at_) 0 + c) % 18446744073709551616), (q.getD i 0 + b.getD (i - at_) 0 + c) / 18446744073709551616), ?_, ?_, rfl, Bb 95 rfl rfl ?_⟩
          · exact ⟨by omega, by omega, by rw [List.length_set]; exact hc3, Hh hc4 (by omega) (by omega), Ul (by omega) hc1 (by rw [Nat.zero_add, Nat.mul_one]) hc5 (by dsimp only; omega), by show 0 ≤ (q.getD i 0 + b.getD (i - at_) 0 + c) / 18446744073709551616; omega, by show (q.getD i 0 + b.getD (i - at_) 0 + c) / 18446744073709551616 ≤ 1; omega⟩
          · show n - (i + 1) < n - i
            omega
          · exact (.cons rfl (.cons rfl (.v9 (.v9 (.v9 (.v9 (.u (.u (.u (.u .nil))))))))))
      · refine Ay 21 rfl rfl (At rfl) (hd 22 rfl) <| Ay 21 rfl rfl (B6 rfl rfl) (hd 23 rfl) <| Ay 14 rfl rfl (Bn rfl rfl) (hd 24 rfl) <| Ac (Bi rfl rfl) (hd 25 rfl) <| Ab ?_
        refine Bc rfl (fun h5 => ?_) (fun h5 => ?_)
        · refine Ai <| Ae <| Au <| zsr <| zas rfl (hd 8 rfl) <| Ab ?_
          refine Cx (G := Unit) (fun _ => True) (fun _ => [(8, .i .u64 (b.getD (i - at_) 0)), (28, .u), (29, .u), (30, .u), (31, .u), (32, .u), (33, .u), (34, .u), (35, .u), (36, .u), (37, .u), (38, .u), (39, .u)]) ?_ ?_
          · refine zsr <| zmv rfl (hd 28 rfl) <| zmv rfl (hd 29 rfl) <| Ac (Bt rfl rfl (r := ((i - at_ : Nat) : Int)) (by rw [Ag (by omega) (by omega)]; omega)) (hd 30 rfl) <| zmv rfl (hd 31 rfl) <| Ac (Al Bj rfl) (hd 32 rfl) <| Ac (Bp rfl rfl) (hd 33 rfl) <| Ab ?_
            refine Bc rfl (fun h6 => ?_) (fun h6 => ?_)
            · refine Af <| zmv rfl (hd 34 rfl) <| zmv rfl (hd 35 rfl) <| zmv rfl (hd 36 rfl) <| Ac (Bt rfl rfl (r := ((i - at_ : Nat) : Int)) (by rw [Ag (by omega) (by omega)]; omega)) (hd 37 rfl) <| Ac (Bx (i := i - at_) Bj rfl rfl (by first | rfl | omega) (by first | omega | (dsimp only; omega))) (hd 38 rfl) <| Ac (Bw Bm rfl rfl) (hd 39 rfl) <| zas rfl (hd 8 rfl) <| Ab ?_
              refine ⟨(), ?_, rfl, Bb 13 rfl rfl ?_⟩
              · trivial
              · exact (.cons (by first | rfl | (show some (V.i .u64 _) = some (V.i .u64 _); rw [C5 (by omega)])) (.v9 (.u (.u .nil))))
            · refine Ai ?_
              refine ⟨(), ?_, rfl, Bb 6 rfl rfl ?_⟩
              · trivial
              · exact (.cons (by first | rfl | (show some (V.i .u64 _) = some (V.i .u64 _); rw [C5 (by omega)])) (.v9 (.u (.u .nil))))
          · rintro _ _; refine Af <| zmv rfl (hd 41 rfl) <| zmv rfl (hd 42 rfl) <| zmv rfl (hd 43 rfl) <| zmv rfl (hd 44 rfl) <| Ac (Cz (i := i) Bj rfl rfl rfl (by first | rfl | omega) (by first | omega | (dsimp only; omega)) rfl) (hd 45 rfl) <| Ac (Bo (Fv Bm rfl rfl (by first | omega | (dsimp only; omega))) (show V.i .u64 (q.getD ((0 + i) * 1) 0) = V.i .u64 (q.getD i 0) by rw [Nat.zero_add, Nat.mul_one])) (hd 46 rfl) <| zmv rfl (hd 47 rfl) <| zmv rfl (hd 48 rfl) <| Bl (F5 (e := add64Entry) Tryd.func49 rfl rfl (by kernel_rfl) (by kernel_rfl) rfl rfl rfl (fun w => run_add64 _ _ _ hT.1 hY.1 hc6 hc7 w) Et) (hd 49 rfl) <| zmv rfl (hd 40 rfl) <| Ac (Ap rfl rfl) (hd 50 rfl) <| Ac (Ap rfl rfl) (hd 51 rfl) ?_; refine Ac (Cz (i := i) Bj rfl rfl rfl (by first | rfl | omega) (by first | omega | (dsimp only; omega)) rfl) (hd 52 rfl) <| A6 (Bz rfl rfl rfl Bm (by first | omega | (dsimp only; omega))) <| zas rfl (hd 6 rfl) <| Ab <| Af <| zmv rfl (hd 26 rfl) <| Ac (Av rfl rfl (Ag (by first | omega | (dsimp only; omega)) (by first | omega | (dsimp only; omega)))) (hd 27 rfl) <| zas rfl (hd 7 rfl) <| Ab ?_
            refine ⟨(i + 1, q.set ((0 + i) * 1) ((q.getD i 0 + b.getD (i - at_) 0 + c) % 18446744073709551616), (q.getD i 0 + b.getD (i - at_) 0 + c) / 18446744073709551616), ?_, ?_, rfl, Bb 95 rfl rfl ?_⟩
            · exact ⟨by omega, by omega, by rw [List.length_set]; exact hc3, Hh hc4 (by omega) (by omega), Ul (by omega) hc1 (by rw [Nat.zero_add, Nat.mul_one]) hc5 (by dsimp only; omega), by show 0 ≤ (q.getD i 0 + b.getD (i - at_) 0 + c) / 18446744073709551616; omega, by show (q.getD i 0 + b.getD (i - at_) 0 + c) / 18446744073709551616 ≤ 1; omega⟩
            · show n - (i + 1) < n - i
              omega
            · exact (.cons rfl (.cons rfl (.v9 (.v9 (.v9 (.v9 (.u (.u (.u (.u .nil))))))))))
        · refine Br ?_
          refine ⟨_, .nil, rfl, (.cons B2 .nil), ?_⟩
          exact ⟨rfl, q, rfl, hc3, hc4, Q5 hc4 ur ub hc6 hc1 hfit (by dsimp only at *; first | (left; omega) | (right; omega)) hc5⟩
    · refine Bh 14 rfl rfl rfl (hd 15 rfl) <| Bh 14 rfl rfl rfl (hd 16 rfl) <| Bh 14 rfl rfl rfl (hd 17 rfl) <| Bh 14 rfl rfl rfl (hd 18 rfl) <| Bh 14 rfl rfl rfl (hd 19 rfl) <| Bh 14 rfl rfl rfl (hd 20 rfl) <| Bh 14 rfl rfl rfl (hd 21 rfl) <| Zs 21 rfl rfl (hd 22 rfl) <| Zs 21 rfl rfl (hd 23 rfl) <| Bh 14 rfl rfl rfl (hd 24 rfl) <| Ac (Bn rfl rfl) (hd 25 rfl) <| Ab <| Aw rfl ?_; refine Br ?_
      refine ⟨_, .nil, rfl, (.cons B2 .nil), ?_⟩
      exact ⟨rfl, q, rfl, hc3, hc4, Q5 hc4 ur ub hc6 hc1 hfit (by dsimp only at *; first | (left; omega) | (right; omega)) hc5⟩

theorem Yi (a b : List Int) (hla : a.length < 1099511627776) (hlb : b.length < 1099511627776) (ua : Az a) (ub : Az b) : Spec Tryd.prog 72 [.n false .u64 a, .n false .u64 b] (fun o => ∃ r, o = .ret (.n true .u64 r) ∧ Az r ∧ r.length = max a.length b.length + 1 ∧ vl r = vl a + vl b) := by
  refine An [(0, .n false .u64 a), (1, .n false .u64 b)] rfl Tryd.func72 rfl (zlb rfl) fun Γ hN hds hL hR => ?_
  have hd := Bu 20 hN
  have hl0 : (a ++ (List.replicate (max a.length b.length + 1) 0).drop a.length).length = max a.length b.length + 1 := by simp; omega
  have hv0 : vl (a ++ (List.replicate (max a.length b.length + 1) (0 : Int)).drop a.length) = vl a := by rw [Dm, List.drop_replicate, Fd, Int.mul_zero, Int.add_zero]
  have hfa := E4 ua
  have hfb := E4 ub
  have hpa := Gv (show a.length ≤ max a.length b.length by omega)
  have hpb := Gv (show b.length ≤ max a.length b.length by omega)
  have hpp := Dg (max a.length b.length)
  refine zsr <| zas rfl (hd 4 rfl) <| Ab <| zsr <| zmv rfl (hd 6 rfl) <| Ac (Al Bj rfl) (hd 7 rfl) <| zmv rfl (hd 8 rfl) <| Ac (Al Bj rfl) (hd 9 rfl) <| Ac (Pi rfl rfl) (hd 10 rfl) <| Ac (Av rfl rfl (r := ((max a.length b.length + 1 : Nat) : Int)) (by rw [Ag (by omega) (by omega)]; omega)) (hd 11 rfl) <| Bl (Fp (m := max a.length b.length + 1) Ns rfl rfl rfl (by show 8 * (max a.length b.length + 1) ≤ _; omega) (by unfold maxLen; omega) rfl) (hd 12 rfl) ?_; refine zas rfl (hd 5 rfl) <| Ab <| zsr <| zmv rfl (hd 13 rfl) <| zmv rfl (hd 14 rfl) <| Pz N6 To rfl rfl List.length_replicate rfl (by omega) (hd 15 rfl) <| Ab <| zsr <| zmv rfl (hd 16 rfl) <| zmv rfl (hd 17 rfl) ?_
  refine Fk Tryd.f69 (G2 (a ++ (List.replicate (max a.length b.length + 1) 0).drop a.length) b (max a.length b.length + 1) 0 hl0 (by omega) (by omega) (by omega) (Rr ua (F8 (Fe _) _)) ub (by rw [hv0]; simp only [pB, Int.one_mul]; have : Bs = 18446744073709551616 := rfl; rw [this]; omega)) rfl Tryd.func69 rfl rfl (Aa rfl (Aa rfl (Aa rfl Ad))) (.cons (.same rfl) (.cons .n (.cons (.same rfl) .nil))) (C1 Eb C8) (hd 18 rfl) ?_ (fun ch H2 hp => by simp at hp)
  rintro y H2 ⟨hy, r2, rfl, hl2, hu2, hv2⟩; injection hy with hy; subst hy; refine Ab <| zsr <| zmv rfl (hd 19 rfl) <| zas rfl (hd 4 rfl) <| Ab <| Ak ?_
  refine ⟨_, _, (.cons rfl .nil), (.o (l := r2) rfl (by omega) rfl), ?_⟩
  rw [List.drop_zero, List.take_of_length_le (by omega)]
  exact ⟨r2, rfl, hu2, hl2, by rw [hv2, hv0]; simp only [pB, Int.one_mul]⟩

theorem Ua (a b : List Int) (hla : a.length < 1099511627776) (hlb : b.length < 1099511627776) (ua : Az a) (ub : Az b) (hle : vl b ≤ vl a) : Spec Tryd.prog 71 [.n false .u64 a, .n false .u64 b] (fun o => ∃ r, o = .ret (.n true .u64 r) ∧ Az r ∧ r.length = a.length ∧ vl r = vl a - vl b) := by
  refine An [(0, .n false .u64 a), (1, .n false .u64 b)] rfl Tryd.func71 rfl (zlb rfl) fun Γ hN hds hL hR => ?_
  have hd := Bu 43 hN
  refine zsr <| zas rfl (hd 4 rfl) <| Ab <| zsr <| zmv rfl (hd 9 rfl) <| Ac (Al Bj rfl) (hd 10 rfl) <| Bl (Fp (m := a.length) Ns rfl rfl rfl (by show 8 * a.length ≤ _; omega) (by unfold maxLen; omega) rfl) (hd 11 rfl) <| zas rfl (hd 5 rfl) <| Ab <| Ae <| Af ?_; refine zmv rfl (hd 12 rfl) <| zmv rfl (hd 13 rfl) <| Pz N6 To rfl rfl List.length_replicate rfl (Nat.le_refl _) (hd 14 rfl) <| Ab <| zsr <| zas rfl (hd 6 rfl) <| Ab <| Ae <| Ae <| Hr (H' := [⟨58, 1, 0, true, ints .u64 ((sbN a b 0).1 ++ a.drop 0)⟩]) (by show [(⟨58, 1, 0, true, ints .u64 (a ++ (List.replicate a.length 0).drop a.length)⟩ : Ob)] = _; rw [List.drop_eq_nil_of_le (by simp), List.append_nil]; rfl) <| Af <| zmv rfl (hd 15 rfl) ?_; refine Ac (Dc Bj rfl rfl) (hd 16 rfl) <| zmv rfl (hd 17 rfl) <| Ab <| Au ?_
  refine Bv (G := Nat) (fun i => i ≤ a.length) (fun i => [(6, .i .u64 (sbN a b i).2), (17, .i .i64 (i : Int)), (7, .u), (8, .u), (18, .u), (19, .u), (20, .u), (21, .u), (22, .u), (23, .u), (24, .u), (25, .u), (26, .u), (27, .u), (28, .u), (29, .u), (30, .u), (31, .u), (32, .u), (33, .u), (34, .u), (35, .u), (36, .u), (37, .u), (38, .u), (39, .u), (40, .u), (41, .u)]) (fun i => [⟨58, 1, 0, true, ints .u64 ((sbN a b i).1 ++ a.drop i)⟩]) (fun i => a.length - i) 0 ?_ ?_ rfl ?_
  · exact Nat.zero_le _
  · exact (.cons rfl (.cons rfl (.v9 (.v9 (.v5 (.u .nil))))))
  · rintro i hc1
    have hf := Vh (b := b) hc1
    have hc := R1 a b i
    have hx := Bq ua i
    have hy := Bq ub i
    refine zsr <| Ac (Bp rfl rfl) (hd 18 rfl) <| Ab <| Ae ?_
    refine Bc rfl (fun h1 => ?_) (fun h1 => ?_)
    · refine Ai <| Ae <| Au <| zsr <| zmv rfl (hd 19 rfl) <| zas rfl (hd 7 rfl) <| Ab <| zsr <| zas rfl (hd 8 rfl) <| Ab ?_
      refine Cx (G := Unit) (fun _ => True) (fun _ => [(8, .i .u64 (b.getD i 0)), (20, .u), (21, .u), (22, .u), (23, .u), (24, .u), (25, .u), (26, .u), (27, .u)]) ?_ ?_
      · refine zsr <| zmv rfl (hd 20 rfl) <| zmv rfl (hd 21 rfl) <| Ac (Al Bj rfl) (hd 22 rfl) <| Ac (Bp rfl rfl) (hd 23 rfl) <| Ab ?_
        refine Bc rfl (fun h2 => ?_) (fun h2 => ?_)
        · refine Af <| zmv rfl (hd 24 rfl) <| zmv rfl (hd 25 rfl) <| Ac (Bx (i := i) Bj rfl rfl (by first | rfl | omega) (by omega)) (hd 26 rfl) <| Ac (Bw Bm rfl rfl) (hd 27 rfl) <| zas rfl (hd 8 rfl) <| Ab ?_
          refine ⟨(), ?_, rfl, Bb 9 rfl rfl ?_⟩
          · trivial
          · exact (.cons (by first | rfl | (show some (V.i .u64 _) = some (V.i .u64 _); rw [C5 (by omega)])) (.v5 (.u (.u (.u .nil)))))
        · refine Ai ?_
          refine ⟨(), ?_, rfl, Bb 4 rfl rfl ?_⟩
          · trivial
          · exact (.cons (by first | rfl | (show some (V.i .u64 _) = some (V.i .u64 _); rw [C5 (by omega)])) (.v5 (.u (.u (.u .nil)))))
      · rintro _ _; refine Af <| zmv rfl (hd 29 rfl) <| zmv rfl (hd 30 rfl) <| zmv rfl (hd 31 rfl) <| zmv rfl (hd 32 rfl) <| Ac (Cz (i := i) Bj rfl rfl rfl (by first | rfl | omega) (by omega) rfl) (hd 33 rfl) <| Ac (Bo (Fv Bm rfl rfl (by omega)) (show V.i .u64 (((sbN a b i).1 ++ a.drop i).getD ((0 + i) * 1) 0) = V.i .u64 (a.getD i 0) by rw [Nat.zero_add, Nat.mul_one, Yj (by omega)])) (hd 34 rfl) <| zmv rfl (hd 35 rfl) <| zmv rfl (hd 36 rfl) <| Bl (F5 (e := Ff) Tryd.func81 rfl rfl (by kernel_rfl) (by kernel_rfl) rfl rfl rfl (fun w => Kd _ _ _ hx.1 hx.2 hy.1 hy.2 hc.1 hc.2 w) Et) (hd 37 rfl) <| zmv rfl (hd 28 rfl) <| Ac (Ap rfl rfl) (hd 38 rfl) <| Ac (Ap rfl rfl) (hd 39 rfl) ?_; refine Ac (Cz (i := i) Bj rfl rfl rfl (by first | rfl | omega) (by omega) rfl) (hd 40 rfl) <| A6 (Bz rfl rfl rfl Bm (by omega)) <| zas rfl (hd 6 rfl) <| Ab <| Af <| Ac (Av rfl rfl (Ag (by omega) (by omega))) (hd 41 rfl) <| zmv rfl (hd 17 rfl) <| Ab ?_
        refine ⟨i + 1, ?_, ?_, (by show [(⟨58, 1, 0, true, ints .u64 _⟩ : Ob)] = [⟨58, 1, 0, true, ints .u64 _⟩]; rw [Rv (by omega)]), Bb 57 rfl rfl ?_⟩
        · omega
        · omega
        · exact (.cons rfl (.cons rfl (.v9 (.v9 (.v5 (.u .nil))))))
    · obtain rfl : i = a.length := by omega
      refine Br <| zsr <| zmv rfl (hd 42 rfl) <| zas rfl (hd 4 rfl) <| Ab <| Ak ?_
      refine ⟨_, _, (.cons rfl .nil), (.o (l := (sbN a b a.length).1 ++ a.drop a.length) rfl (by omega) rfl), ?_⟩
      rw [List.drop_zero, List.take_of_length_le (by omega), List.drop_eq_nil_of_le (Nat.le_refl _), List.append_nil]
      exact ⟨_, rfl, R0 ua ub _, C3 a b _, X0 ua ub hle⟩

theorem I7 (l : List Int) (f t : Nat) (hl : l.length < 4398046511104) (hft : f ≤ t) (hf : t < 4398046511104) (ul : Az l) : Spec Tryd.prog 70 [.n false .u64 l, .i .i64 (f : Int), .i .i64 (t : Int)] (fun o => ∃ r, o = .ret (.n false .u64 r) ∧ Az r ∧ r.length ≤ min t l.length - min f l.length ∧ vl r = vl ((l.take t).drop f)) := by
  refine An [(0, .n false .u64 l), (1, .i .i64 (f : Int)), (2, .i .i64 (t : Int))] rfl Tryd.func70 rfl (zlb rfl) fun Γ hN hds hL hR => ?_
  have hd := Bu 32 hN
  refine zsr <| zas rfl (hd 6 rfl) <| Ab <| zsr <| zmv rfl (hd 7 rfl) <| zmv rfl (hd 8 rfl) <| Ac (Al Bj rfl) (hd 9 rfl) <| Ac (Bo (T6 rfl rfl) (show V.i .i64 (min (f : Int) (l.length : Int)) = V.i .i64 ((min f l.length : Nat) : Int) by congr 1; omega)) (hd 10 rfl) <| zmv rfl (hd 11 rfl) <| zmv rfl (hd 12 rfl) <| Ac (Al Bj rfl) (hd 13 rfl) ?_; refine Ac (Bo (T6 rfl rfl) (show V.i .i64 (min (t : Int) (l.length : Int)) = V.i .i64 ((min t l.length : Nat) : Int) by congr 1; omega)) (hd 14 rfl) <| zas rfl (hd 1 rfl) <| zas rfl (hd 2 rfl) <| Ab <| Ae <| Au ?_
  refine Bv (G := Nat) (fun k => min f l.length ≤ k ∧ k ≤ min t l.length ∧ vl ((l.take k).drop (min f l.length)) = vl ((l.take t).drop f)) (fun k => [(2, .i .i64 (k : Int)), (15, .u), (16, .u), (17, .u), (18, .u), (19, .u), (20, .u), (21, .u), (22, .u), (23, .u), (24, .u), (25, .u), (26, .u), (27, .u)]) (fun _ => _) (fun k => k) (min t l.length) ?_ ?_ rfl ?_
  · exact ⟨by omega, Nat.le_refl _, by rw [Sa hft]⟩
  · exact (.cons rfl (.v9 (.u (.u (.u .nil)))))
  · rintro k ⟨hc1, hc2, hc3⟩; refine Ae <| zsr <| zmv rfl (hd 15 rfl) <| zmv rfl (hd 16 rfl) <| Ac (B6 rfl rfl) (hd 17 rfl) <| zmv rfl (hd 18 rfl) ?_
    refine Ea 18 rfl (fun h1 => ?_) (fun h1 => ?_)
    · refine Ay 18 rfl rfl (At rfl) (hd 19 rfl) <| Ay 18 rfl rfl (At rfl) (hd 20 rfl) <| Ay 18 rfl rfl (Bt rfl rfl (Ag (by omega) (by omega))) (hd 21 rfl) <| Ay 18 rfl rfl (Bx (i := k - 1) Bj rfl rfl (by omega) (by omega)) (hd 22 rfl) <| Ay 18 rfl rfl (Bw Bm rfl rfl) (hd 23 rfl) <| Ay 18 rfl rfl (B7 rfl rfl) (hd 24 rfl) <| Ac (Bi rfl rfl) (hd 25 rfl) <| Ab ?_
      refine Bc rfl (fun h2 => ?_) (fun h2 => ?_)
      · refine Ai <| Au <| Af <| zmv rfl (hd 26 rfl) <| Ac (Bt rfl rfl (Ag (by omega) (by omega))) (hd 27 rfl) <| zas rfl (hd 2 rfl) <| Ab ?_
        refine ⟨k - 1, ?_, ?_, rfl, Bb 29 rfl rfl ?_⟩
        · exact ⟨by omega, by omega, by rw [Pa (by omega) (by omega) (by assumption)]; exact hc3⟩
        · omega
        · exact (.cons (by show some (V.i .i64 _) = some (V.i .i64 _); congr 2; omega) (.v9 (.u (.u (.u .nil)))))
      · refine Br <| zsr <| zmv rfl (hd 28 rfl) <| zmv rfl (hd 29 rfl) <| zmv rfl (hd 30 rfl) <| Ac (Ks Bj rfl (C7 rfl rfl) (C7 rfl rfl) (.inl rfl) (by omega) (by omega)) (hd 31 rfl) <| zas rfl (hd 6 rfl) <| Ab <| Ak ?_
        refine ⟨_, _, (.cons rfl .nil), .n, ?_⟩
        exact ⟨_, rfl, F8 (E6 ul _) _, by rw [List.length_drop, List.length_take]; omega, hc3⟩
    · refine Bh 18 rfl rfl rfl (hd 19 rfl) <| Bh 18 rfl rfl rfl (hd 20 rfl) <| Bh 18 rfl rfl rfl (hd 21 rfl) <| Bh 18 rfl rfl rfl (hd 22 rfl) <| Bh 18 rfl rfl rfl (hd 23 rfl) <| Bh 18 rfl rfl rfl (hd 24 rfl) <| Ac (Bn rfl rfl) (hd 25 rfl) <| Ab <| Aw rfl <| Br <| zsr <| zmv rfl (hd 28 rfl) ?_; refine zmv rfl (hd 29 rfl) <| zmv rfl (hd 30 rfl) <| Ac (Ks Bj rfl (C7 rfl rfl) (C7 rfl rfl) (.inl rfl) (by omega) (by omega)) (hd 31 rfl) <| zas rfl (hd 6 rfl) <| Ab <| Ak ?_
      refine ⟨_, _, (.cons rfl .nil), .n, ?_⟩
      exact ⟨_, rfl, F8 (E6 ul _) _, by rw [List.length_drop, List.length_take]; omega, hc3⟩
end Go.Proofs.YteopohdkceelkaaDoor.Vc
