/- The law RatioLeast of every input of bulk at most 1048576: it returns true, and the input reads as it did. Texts joined: Nf, Ng, Nh, Ni, Nj, Ty, Tz, Tx, Tq, Tr, Tt, Tw, Tv, Oa, Nk, Nl, Nm, Nn, No, Np, Nq, Nr, Ns, Nt, Nu, Nw, Nv, Nx, Ny, Nz, Ob, Wa, Wb, Wc, Wd. -/
import Derived.Test.YtnadmljoefecfaaGreatDoorK3
import Derived.Test.YtnadmljoefecfaaGreatDoorRows
set_option linter.unusedVariables false
set_option linter.unusedSimpArgs false
set_option maxHeartbeats 4000000
namespace Go.Proofs.YtnadmljoefecfaaGreatDoor.Vc
open Go Go.RowKit

def Cb (b n : Nat) : List Int := if h : n = 0 ∨ b < 2 then [] else ((n % b : Nat) : Int) :: Cb b (n / b)
termination_by n
decreasing_by exact Nat.div_lt_self (by omega) (by omega)
theorem E1 {b : Nat} : Cb b 0 = [] := by rw [Cb, dif_pos (.inl rfl)]
theorem D0 {b n : Nat} (hb : 2 ≤ b) (hn : n ≠ 0) : Cb b n = ((n % b : Nat) : Int) :: Cb b (n / b) := by rw [Cb, dif_neg (by omega)]
def vb (b : Nat) : List Int → Int
  | [] => 0
  | x :: l => x + (b : Int) * vb b l
def rng (b : Nat) (l : List Int) : Prop := ∀ x ∈ l, 0 ≤ x ∧ x < (b : Int)
theorem Fh {b : Nat} {x : Int} {l : List Int} (h : rng b (x :: l)) : rng b l := fun y hy => h y (List.mem_cons_of_mem _ hy)
theorem Tn : ∀ l, vb 18446744073709551616 l = vl l
  | [] => rfl
  | x :: l => by simp only [vb, vl, Tn l]; rfl
theorem Ib {b : Nat} : ∀ {l : List Int}, rng b l → 0 ≤ vb b l
  | [], _ => Int.le_refl _
  | x :: l, h => by
    have h1 := (h x (List.mem_cons_self ..)).1
    have h2 := Int.mul_nonneg (Int.natCast_nonneg b) (Ib (Fh h))
    simp only [vb]; omega
theorem Mp {x : Int} {l : List Int} (h : tpd (x :: l)) : tpd l := fun hne => by
  have := h (by simp)
  have hp : 0 < l.length := List.length_pos_iff.2 hne
  rw [List.length_cons, Nat.add_sub_cancel] at this
  obtain ⟨k, hk⟩ : ∃ k, l.length = k + 1 := ⟨l.length - 1, by omega⟩
  rw [hk] at this ⊢
  simpa using this
theorem Ty {x : Int} (h : tpd [x]) : x ≠ 0 := by simpa using h (by simp)
theorem Nh {b : Nat} (hb : 2 ≤ b) : ∀ {l : List Int}, rng b l → tpd l → Cb b (vb b l).toNat = l
  | [], _, _ => E1
  | x :: t, h, ht => by
    have ih := Nh hb (Fh h) (Mp ht)
    have h1 := h x (List.mem_cons_self ..)
    have h2 := Ib (Fh h)
    obtain ⟨m, hm⟩ : ∃ m : Nat, vb b t = m := ⟨(vb b t).toNat, by omega⟩
    obtain ⟨y, hy⟩ : ∃ y : Nat, x = y := ⟨x.toNat, by omega⟩
    subst hy
    have e : (vb b ((y : Int) :: t)).toNat = y + b * m := by
      simp only [vb]; rw [hm, ← Int.natCast_mul]; omega
    have hyb : y < b := by omega
    rw [e]
    rw [hm] at ih
    rw [show ((m : Int)).toNat = m from rfl] at ih
    have hne : y + b * m ≠ 0 := by
      intro h0
      have hy0 : y = 0 := by omega
      have hm0 : b * m = 0 := by omega
      have hm1 : m = 0 := by
        rcases Nat.mul_eq_zero.1 hm0 with h | h
        · omega
        · exact h
      subst hm1
      rw [E1] at ih
      subst ih
      exact Ty ht (by rw [hy0]; rfl)
    rw [D0 hb hne, Nat.add_mul_mod_self_left, Nat.mod_eq_of_lt hyb, Nat.add_mul_div_left _ _ (by omega), Nat.div_eq_of_lt hyb, Nat.zero_add, ih]
theorem Mk {b : Nat} (hb : 2 ≤ b) (n : Nat) : vb b (Cb b n) = n := by
  induction n using Nat.strongRecOn with
  | _ n ih =>
    by_cases h : n = 0
    · subst h; rw [E1]; rfl
    · rw [D0 hb h]
      simp only [vb]
      rw [ih (n / b) (Nat.div_lt_self (by omega) (by omega)), ← Int.natCast_mul, ← Int.natCast_add, Nat.mod_add_div]
theorem Mw {b : Nat} (hb : 2 ≤ b) (n : Nat) : rng b (Cb b n) := by
  induction n using Nat.strongRecOn with
  | _ n ih =>
    by_cases h : n = 0
    · subst h; rw [E1]; intro x hx; simp at hx
    · rw [D0 hb h]
      intro x hx
      rcases List.mem_cons.1 hx with rfl | hx
      · have := Nat.mod_lt n (show 0 < b by omega); omega
      · exact ih (n / b) (Nat.div_lt_self (by omega) (by omega)) x hx
theorem Mq {b : Nat} (hb : 2 ≤ b) (n : Nat) : tpd (Cb b n) := by
  induction n using Nat.strongRecOn with
  | _ n ih =>
    by_cases h : n = 0
    · subst h; rw [E1]; intro hx; simp at hx
    · rw [D0 hb h]
      intro _
      rw [List.length_cons, Nat.add_sub_cancel]
      by_cases h1 : n / b = 0
      · rw [h1, E1]
        have : n < b := by
          rcases Nat.lt_or_ge n b with h2 | h2
          · exact h2
          · have := Nat.div_pos h2 (by omega); omega
        simp [Nat.mod_eq_of_lt this, h]
      · have h2 := ih (n / b) (Nat.div_lt_self (by omega) (by omega))
        have hne : Cb b (n / b) ≠ [] := by rw [D0 hb h1]; simp
        have h3 := h2 hne
        have hp : 0 < (Cb b (n / b)).length := List.length_pos_iff.2 hne
        obtain ⟨k, hk⟩ : ∃ k, (Cb b (n / b)).length = k + 1 := ⟨(Cb b (n / b)).length - 1, by omega⟩
        rw [hk] at h3 ⊢
        simpa using h3
theorem Al9 {b : Nat} (hb : 2 ≤ b) {l : List Int} {n : Nat} (hr : rng b l) (ht : tpd l) (hv : vb b l = n) : l = Cb b n := by
  have := Nh hb hr ht
  rw [hv] at this
  exact this.symm
def Cv (n : Nat) : Nat := if n = 0 then 0 else n.log2 + 1
theorem Ct {n k : Nat} : Cv n ≤ k ↔ n < 2 ^ k := by
  unfold Cv
  split
  · rename_i h; subst h; exact ⟨fun _ => Nat.two_pow_pos k, fun _ => Nat.zero_le _⟩
  · rename_i h
    rw [← Nat.log2_lt h]
    omega
theorem P7 : Cv 0 = 0 := rfl
theorem Eb {n : Nat} (h : n ≠ 0) : 0 < Cv n := by unfold Cv; rw [if_neg h]; omega
theorem S4 {m n : Nat} (h : m ≤ n) : Cv m ≤ Cv n := Ct.2 (Nat.lt_of_le_of_lt h (Ct.1 (Nat.le_refl _)))
theorem K0 {w x m : Nat} (hx : x < 2 ^ w) (hm : m ≠ 0) : Cv (x + 2 ^ w * m) = w + Cv m := by
  refine Nat.le_antisymm (Ct.2 ?_) ?_
  · have h1 : m < 2 ^ Cv m := Ct.1 (Nat.le_refl _)
    rw [Nat.pow_add]
    have h2 : 2 ^ w * (m + 1) ≤ 2 ^ w * 2 ^ Cv m := Nat.mul_le_mul_left _ h1
    rw [Nat.mul_add, Nat.mul_one] at h2
    omega
  · rcases Nat.lt_or_ge (Cv (x + 2 ^ w * m)) (w + Cv m) with h | h
    · exfalso
      have hp := Eb hm
      have h1 : x + 2 ^ w * m < 2 ^ (w + (Cv m - 1)) := Ct.1 (by omega)
      rw [Nat.pow_add] at h1
      have h2 : 2 ^ w * m < 2 ^ w * 2 ^ (Cv m - 1) := by omega
      have h3 := Ct.2 (Nat.lt_of_mul_lt_mul_left h2)
      omega
    · exact h
theorem No : ∀ f n, n < 2 ^ f → bl f n = Cv n
  | 0, n, h => by
    have : n = 0 := by simpa using h
    subst this; rfl
  | f + 1, n, h => by
    simp only [bl]
    split
    · rename_i h0; rw [h0]; rfl
    · rename_i h0
      rw [No f (n / 2) (by rw [Nat.pow_succ] at h; omega)]
      by_cases h1 : n / 2 = 0
      · have : n = 1 := by omega
        subst this; rfl
      · have := K0 (w := 1) (x := n % 2) (m := n / 2) (by have := Nat.mod_lt n (show 0 < 2 by decide); simpa using this) h1
        rw [Nat.pow_one, Nat.mod_add_div] at this
        rw [this]
theorem Va {x y : Nat} (hx : x ≠ 0) (hy : y ≠ 0) : Cv x + Cv y ≤ Cv (x * y) + 1 := by
  have h1 := Eb hx
  have h2 := Eb hy
  have h3 : 2 ^ (Cv x - 1) ≤ x := by
    rcases Nat.lt_or_ge x (2 ^ (Cv x - 1)) with h | h
    · have := Ct.2 h; omega
    · exact h
  have h4 : 2 ^ (Cv y - 1) ≤ y := by
    rcases Nat.lt_or_ge y (2 ^ (Cv y - 1)) with h | h
    · have := Ct.2 h; omega
    · exact h
  rcases Nat.lt_or_ge (Cv (x * y) + 1) (Cv x + Cv y) with h | h
  · exfalso
    have h5 : x * y < 2 ^ ((Cv x - 1) + (Cv y - 1)) := Ct.1 (by omega)
    rw [Nat.pow_add] at h5
    have := Nat.mul_le_mul h3 h4
    omega
  · exact h
theorem Na {w : Nat} (hw : 1 ≤ w) : ∀ {l : List Int}, rng (2 ^ w) l → tpd l → l ≠ [] → w * (l.length - 1) + Cv (l.getD (l.length - 1) 0).toNat = Cv (vb (2 ^ w) l).toNat
  | [], _, _, h => absurd rfl h
  | [x], _, _, _ => by simp [vb]
  | x :: y :: t, h, ht, _ => by
    have ih := Na hw (Fh h) (Mp ht) (by simp)
    have h1 := h x (List.mem_cons_self ..)
    have h2 := Ib (Fh h)
    have hb2 : 2 ≤ 2 ^ w := by
      have := Nat.pow_le_pow_right (show 0 < 2 by decide) hw
      simpa using this
    have hc := Nh hb2 (Fh h) (Mp ht)
    obtain ⟨m, hm⟩ : ∃ m : Nat, vb (2 ^ w) (y :: t) = m := ⟨(vb (2 ^ w) (y :: t)).toNat, by omega⟩
    obtain ⟨q, hq⟩ : ∃ q : Nat, x = q := ⟨x.toNat, by omega⟩
    rw [hm] at ih hc
    rw [show ((m : Int)).toNat = m from rfl] at ih hc
    have hm0 : m ≠ 0 := by intro e; rw [e, E1] at hc; simp at hc
    have e : (vb (2 ^ w) (x :: y :: t)).toNat = q + 2 ^ w * m := by
      show (x + ((2 ^ w : Nat) : Int) * vb (2 ^ w) (y :: t)).toNat = _
      rw [hm, hq, ← Int.natCast_mul]; omega
    rw [e, K0 (by omega) hm0, ← ih]
    simp only [List.length_cons, Nat.add_sub_cancel, List.getD_cons_succ]
    rw [Nat.mul_add, Nat.mul_one]
    omega
theorem Pn {l : List Int} (h : Av l) : rng 18446744073709551616 l := h
theorem Tx (l : List Int) : ∃ k, l = trm l ++ List.replicate k 0 := by
  have : ∀ k, k ≤ l.length → l.take k = l.take (tN l k) ++ List.replicate (k - tN l k) 0 := by
    intro k
    induction k with
    | zero => intro _; simp [tN]
    | succ k ih =>
      intro hk
      have h1 := ih (by omega)
      have hle := Acq l k
      simp only [tN]
      split
      · rename_i h0
        rw [List.take_succ_eq_append_getElem (by omega), h1, List.append_assoc, show k + 1 - tN l k = (k - tN l k) + 1 by omega, List.replicate_succ']
        congr 2
        rw [List.getD_eq_getElem?_getD, List.getElem?_eq_getElem (by omega)] at h0
        rw [← h0]; rfl
      · simp
  have h := this l.length (Nat.le_refl _)
  rw [List.take_length] at h
  exact ⟨_, h⟩
theorem N4 (b : Nat) : ∀ (l : List Int) (k : Nat), vb b (l ++ List.replicate k 0) = vb b l
  | [], 0 => rfl
  | [], k + 1 => by
    rw [List.nil_append, List.replicate_succ]
    simp only [vb]
    have := N4 b [] k
    rw [List.nil_append] at this
    rw [this]; simp [vb]
  | x :: l, k => by simp only [List.cons_append, vb, N4 b l k]
theorem Afy (b : Nat) (l : List Int) : vb b (trm l) = vb b l := by
  obtain ⟨k, hk⟩ := Tx l
  have := N4 b (trm l) k
  rw [← hk] at this
  exact this.symm
theorem Up {b : Nat} {l : List Int} (h : rng b l) : rng b (trm l) := fun x hx => h x (List.mem_of_mem_take hx)
theorem Jt {b : Nat} (hb : 2 ≤ b) {l : List Int} {n : Nat} (h : rng b l) (hv : vb b l = n) : trm l = Cb b n := Al9 hb (Up h) (Gq l) (by rw [Afy, hv])
def lm (v : Int) : List Int := Cb 18446744073709551616 v.natAbs
def dg (v : Int) : List Int := Cb 4294967296 v.natAbs
def Al (v : Int) : Nat := Cv v.natAbs
theorem Cu (v : Int) : Av (lm v) := Mw (by decide) _
theorem Aeb (v : Int) : tpd (lm v) := Mq (by decide) _
theorem Qa (v : Int) : vl (lm v) = v.natAbs := by rw [← Tn]; exact Mk (by decide) _
theorem Ald (v : Int) : rng 4294967296 (dg v) := Mw (by decide) _
theorem Alc (v : Int) : tpd (dg v) := Mq (by decide) _
theorem Alb (v : Int) : vb 4294967296 (dg v) = v.natAbs := Mk (by decide) _
theorem Ge {l : List Int} (h : Av l) : Dn l = Cv (vl l).toNat := by
  rw [← D7]
  unfold Dn
  split
  · rename_i h0; rw [List.eq_nil_of_length_eq_zero h0]; rfl
  · rename_i h0
    have h1 := Na (w := 64) (by decide) (Up (Pn h)) (Gq l) (fun e => h0 (by rw [e]; rfl))
    rw [show (2 ^ 64 : Nat) = 18446744073709551616 by decide, Tn] at h1
    rw [← h1, No 64]
    have := A2 (A8 h) ((trm l).length - 1)
    omega
theorem Wg : ∀ {l : List Int}, Av l → rng 4294967296 (dig l)
  | [], _ => fun x hx => by simp [dig] at hx
  | y :: l, h => fun x hx => by
    have h1 := h y (List.mem_cons_self ..)
    have h2 := Wg (l := l) fun z hz => h z (List.mem_cons_of_mem _ hz)
    have e : dig (y :: l) = y % 4294967296 :: y / 4294967296 :: dig l := rfl
    rw [e] at hx
    rcases List.mem_cons.1 hx with rfl | hx
    · show 0 ≤ y % 4294967296 ∧ y % 4294967296 < ((4294967296 : Nat) : Int); omega
    · rcases List.mem_cons.1 hx with rfl | hx
      · show 0 ≤ y / 4294967296 ∧ y / 4294967296 < ((4294967296 : Nat) : Int); omega
      · exact h2 x hx
theorem Aav : ∀ l : List Int, vb 4294967296 (dig l) = vl l
  | [] => rfl
  | y :: l => by
    have e : dig (y :: l) = y % 4294967296 :: y / 4294967296 :: dig l := rfl
    rw [e]
    simp only [vb, vl]
    rw [Aav l]
    have : Bs = 18446744073709551616 := rfl
    rw [this]
    omega
theorem T5 {s : Bool} {l : List Int} (h : Av l) : ((sv s l).natAbs : Int) = vl l := by
  have := A4 h
  unfold sv; split <;> omega
theorem Kw {s : Bool} {l : List Int} {v : Int} (h : Av l) (hv : sv s l = v) : (s && decide (0 < ((trm l).length : Int))) = decide (v < 0) ∧ trm l = lm v ∧ Dn l = Al v := by
  have ha := T5 (s := s) h
  rw [hv] at ha
  refine ⟨?_, ?_, ?_⟩
  · have h0 := A4 h
    have hz := Mo h
    unfold sv at hv
    cases s
    · simp at hv ⊢; omega
    · simp only [Bool.true_and, if_true] at hv ⊢
      rw [decide_eq_decide]
      constructor
      · intro h1
        have : vl l ≠ 0 := fun e => by have := hz.2 e; omega
        omega
      · intro h1
        have : (trm l).length ≠ 0 := fun e => by have := hz.1 e; omega
        omega
  · exact Jt (by decide) (Pn h) (by rw [Tn, ← ha])
  · rw [Ge h]; unfold Al; congr 1; omega
theorem Tw {s : Bool} {l : List Int} {v : Int} (h : Av l) (hv : sv s l = v) : trm (dig l) = dg v :=
  Jt (by decide) (Wg h) (by have ha := T5 (s := s) h; rw [Aav, ← ha, hv])
theorem Qc (v : Int) (h : dg v ≠ []) : 32 * ((dg v).length - 1) + Cv ((dg v).getD ((dg v).length - 1) 0).toNat = Al v := by
  have := Na (w := 32) (by decide) (Ald v) (Alc v) h
  rw [show (2 ^ 32 : Nat) = 4294967296 by decide, Alb] at this
  exact this
theorem Sd {v : Int} : dg v = [] ↔ v = 0 := by
  constructor
  · intro h; have := Alb v; rw [h] at this; simp only [vb] at this; omega
  · rintro rfl; exact E1
theorem F1 {b : Nat} (hb : 2 ≤ b) : ∀ (k n : Nat), n < b ^ k → (Cb b n).length ≤ k
  | 0, n, h => by
    have : n = 0 := by simpa using h
    subst this; rw [E1]; exact Nat.le_refl _
  | k + 1, n, h => by
    by_cases h0 : n = 0
    · subst h0; rw [E1]; exact Nat.zero_le _
    · rw [D0 hb h0, List.length_cons]
      have := F1 hb k (n / b) (Nat.div_lt_of_lt_mul (by rw [Nat.mul_comm, ← Nat.pow_succ]; exact h))
      omega


def Alo (l : List Int) : List Int := 10855845 :: 10855845 :: (l ++ [10855845, 10855845])
def Al3 (n i : Nat) : List Int := D2 (List.replicate i 10855845) n
def Al2 (l : List Int) (i : Nat) : List Int := 10855845 :: 10855845 :: (l.take i ++ List.replicate (l.length + 2 - i) 10855845)
theorem S5 {m : Nat} (h : m ≠ 0) : Cv m = 1 + Cv (m / 2) := by
  by_cases h1 : m / 2 = 0
  · have : m = 1 := by omega
    subst this; rfl
  · have := K0 (w := 1) (x := m % 2) (m := m / 2) (by have := Nat.mod_lt m (show 0 < 2 by decide); simpa using this) h1
    rw [Nat.pow_one, Nat.mod_add_div] at this
    exact this
theorem Wh (v : Int) (i : Nat) : 0 ≤ (dg v).getD i 0 ∧ (dg v).getD i 0 < 4294967296 := by
  by_cases hi : i < (dg v).length
  · rw [List.getD_eq_getElem?_getD, List.getElem?_eq_getElem hi]; exact Ald v _ (List.getElem_mem hi)
  · rw [List.getD_eq_getElem?_getD, List.getElem?_eq_none (by omega)]; exact ⟨by decide, by decide⟩
theorem Aed (v : Int) : Al v ≤ 32 * (dg v).length := by
  by_cases h : dg v = []
  · rw [Sd.1 h]; exact Nat.zero_le _
  · have h1 := Qc v h
    have h2 := Wh v ((dg v).length - 1)
    have h3 : Cv ((dg v).getD ((dg v).length - 1) 0).toNat ≤ 32 := Ct.2 (by rw [show (2 ^ 32 : Nat) = 4294967296 by decide]; omega)
    have : 0 < (dg v).length := List.length_pos_iff.2 h
    omega
def Res (v : Int) (s : Bool) (r : List Int) (e : Int) : Prop := (Al v ≤ 67108864 ∧ s = decide (v < 0) ∧ r = lm v ∧ e = 0) ∨ (67108864 < Al v ∧ s = false ∧ r = [] ∧ e = 3)
theorem Aef {v : Int} (h : Al v ≤ 67108864) : (dg v).length ≤ 2097152 := by
  by_cases h0 : dg v = []
  · rw [h0]; exact Nat.zero_le _
  · have h1 := Qc v h0
    have := Alc v h0
    have h2 := Wh v ((dg v).length - 1)
    have := Eb (n := ((dg v).getD ((dg v).length - 1) 0).toNat) (by omega)
    omega
theorem Bv {v : Int} (h : Al v ≤ 67108864) : (lm v).length ≤ 1048576 := by
  have h1 := (Kw (s := decide (v < 0)) (v := v) (Cu v) (by unfold sv; rw [Qa]; by_cases h : v < 0 <;> simp [h] <;> omega)).2
  have := Abs (Cu v) (by rw [h1.2]; exact h)
  rwa [h1.1] at this
theorem Res.len {v : Int} {s : Bool} {r : List Int} {e : Int} (h : Res v s r e) : r.length ≤ 1048576 := by
  rcases h with ⟨h1, _, rfl, _⟩ | ⟨_, _, rfl, _⟩
  · exact Bv h1
  · exact Nat.zero_le _


def Xj (x : Int) (r : List Int) (e : Int) : Prop := (e = 0 ∧ Ak9 r ∧ vl r = x) ∨ (e = 3 ∧ 67108864 < Al x)
def Aks (v : Int) (s : Bool) (l : List Int) (e : Int) : Prop := (e = 0 ∧ Av l ∧ l.length < 1099511627776 ∧ sv s l = v) ∨ (e = 3 ∧ 67108864 < Al v)
theorem Fd {l : List Int} {x : Int} (u : Av l) (hv : vl l = x) : Dn l = Al x := by
  have := A4 u
  rw [Ge u, hv]; unfold Al; congr 1; omega
theorem Ql {l : List Int} {x : Int} (u : Av l) (hv : vl l = x) (h : Dn l ≤ 67108864) : Xj x (trm l) 0 := .inl ⟨rfl, Zc u h, by rw [D7, hv]⟩
theorem Nd {l r : List Int} {x : Int} (u : Av l) (hv : vl l = x) (h : 67108864 < Dn l) : Xj x r 3 := .inr ⟨rfl, by rwa [← Fd u hv]⟩
theorem L7 {a b r : List Int} (ua : Av a) (ub : Av b) (h1 : 0 < Dn a) (h2 : 0 < Dn b) (h3 : 67108864 < Dn a + Dn b - 1) : Xj (vl a * vl b) r 3 := by
  refine .inr ⟨rfl, ?_⟩
  have ha := A4 ua
  have hb := A4 ub
  have ea := Ge ua
  have eb := Ge ub
  obtain ⟨x, hx⟩ : ∃ x : Nat, vl a = x := ⟨(vl a).toNat, by omega⟩
  obtain ⟨y, hy⟩ : ∃ y : Nat, vl b = y := ⟨(vl b).toNat, by omega⟩
  rw [hx] at ea
  rw [hy] at eb
  rw [show ((x : Int)).toNat = x from rfl] at ea
  rw [show ((y : Int)).toNat = y from rfl] at eb
  have hx0 : x ≠ 0 := fun e => by rw [e, P7] at ea; omega
  have hy0 : y ≠ 0 := fun e => by rw [e, P7] at eb; omega
  have := Va hx0 hy0
  rw [hx, hy, ← Int.natCast_mul]
  unfold Al
  rw [Int.natAbs_natCast]
  omega
theorem Mx {x v : Int} {s : Bool} {r : List Int} {e : Int} (h : Xj x r e) (h0 : 0 ≤ x) (hs : ∀ q, Av q → vl q = x → sv s q = v) : Aks v s r e := by
  rcases h with ⟨h1, h2, h3⟩ | ⟨h1, h2⟩
  · exact .inl ⟨h1, h2.1, by have := h2.2; omega, hs r h2.1 h3⟩
  · refine .inr ⟨h1, ?_⟩
    have e1 := Qa x
    have e2 := hs (lm x) (Cu x) (by rw [e1]; omega)
    have e3 := T5 (s := s) (Cu x)
    rw [e2, e1] at e3
    have e4 : v.natAbs = x.natAbs := by omega
    unfold Al at h2 ⊢
    rwa [e4]
theorem Aa7 {s : Bool} {l : List Int} {v : Int} (u : Av l) (hv : sv s l = v) (h : Dn l ≤ 67108864) : Res v (s && decide (0 < ((trm l).length : Int))) (trm l) 0 := by
  obtain ⟨h1, h2, h3⟩ := Kw u hv
  exact .inl ⟨by rwa [← h3], h1, h2, rfl⟩
theorem Us {s : Bool} {l : List Int} {v : Int} (u : Av l) (hv : sv s l = v) (h : 67108864 < Dn l) : Res v false [] 3 := by
  obtain ⟨h1, h2, h3⟩ := Kw u hv
  exact .inr ⟨by rwa [← h3], rfl, rfl, rfl⟩
theorem Wi {l : List Int} {v : Int} {s : Bool} (u : Av l) (hv : sv s l = v) : (dg v).length ≤ 2 * l.length := by
  rw [← Tw u hv]
  have := Cy (dig l)
  rw [Ld] at this
  exact this

namespace D
def r32 (l : List Int) : Prop := ∀ x ∈ l, 0 ≤ x ∧ x < 4294967296
def Bs : Int := 4294967296
def vl : List Int → Int
  | [] => 0
  | x :: l => x + Bs * vl l
def pB : Nat → Int
  | 0 => 1
  | k + 1 => Bs * pB k
theorem Dh : ∀ k, 0 < pB k
  | 0 => by decide
  | k + 1 => by simp only [pB]; exact Int.mul_pos (by decide) (Dh k)
theorem Fx : ∀ a b, pB (a + b) = pB a * pB b
  | 0, b => by simp [pB]
  | a + 1, b => by rw [show a + 1 + b = (a + b) + 1 by omega]; simp only [pB]; rw [Fx a b, Int.mul_assoc]
theorem D8 : ∀ a b : List Int, vl (a ++ b) = vl a + pB a.length * vl b
  | [], b => by simp [vl, pB]
  | x :: a, b => by
    simp only [List.cons_append, vl, List.length_cons, pB]
    rw [D8 a b, Int.mul_add, Int.mul_assoc, Int.add_assoc]
theorem A4 : ∀ {l : List Int}, r32 l → 0 ≤ vl l
  | [], _ => Int.le_refl _
  | x :: l, h => by
    have h1 := (h x (List.mem_cons_self ..)).1
    have h2 := A4 (l := l) fun y hy => h y (List.mem_cons_of_mem _ hy)
    simp only [vl]
    have := Int.mul_nonneg (show (0 : Int) ≤ Bs by decide) h2
    omega
theorem E2 : ∀ {l : List Int}, r32 l → vl l < pB l.length
  | [], _ => by decide
  | x :: l, h => by
    have h1 := (h x (List.mem_cons_self ..)).2
    have h2 := E2 (l := l) fun y hy => h y (List.mem_cons_of_mem _ hy)
    simp only [vl, List.length_cons, pB]
    have h3 : vl l + 1 ≤ pB l.length := h2
    have h4 := Int.mul_le_mul_of_nonneg_left h3 (show (0 : Int) ≤ Bs by decide)
    rw [Int.mul_add, Int.mul_one] at h4
    have h5 : x < Bs := h1
    omega
def vk (l : List Int) (k : Nat) : Int := vl (l.take k)
theorem Tf (l : List Int) : vk l 0 = 0 := by unfold vk; simp [vl]
theorem Du {l : List Int} {k : Nat} (h : l.length ≤ k) : vk l k = vl l := by unfold vk; rw [List.take_of_length_le h]
theorem C4 (l : List Int) (k : Nat) : vk l (k + 1) = vk l k + pB k * l.getD k 0 := by
  unfold vk
  by_cases h : k < l.length
  · rw [List.take_succ_eq_append_getElem h, D8, List.length_take, Nat.min_eq_left (by omega), List.getD_eq_getElem?_getD, List.getElem?_eq_getElem h]
    simp [vl]
  · rw [List.take_of_length_le (by omega), List.take_of_length_le (by omega), Ds (by omega)]
    simp
theorem Jf : ∀ (l : List Int) (j : Nat) (v : Int), j < l.length → vl (l.set j v) = vl l + pB j * (v - l.getD j 0)
  | [], j, v, h => by simp at h
  | x :: l, 0, v, _ => by
    have e : (x :: l).getD 0 0 = x := rfl
    simp only [List.set_cons_zero, vl, pB, e]; omega
  | x :: l, j + 1, v, h => by
    have ih := Jf l j v (by simpa using h)
    have e : (x :: l).getD (j + 1) 0 = l.getD j 0 := rfl
    simp only [List.set_cons_succ, vl, pB, e]
    rw [ih, Int.mul_add, Int.mul_assoc]; omega
theorem Oa {o o2 b : List Int} {i k : Nat} {c c2 x t s : Int} (hj : i + k < o.length) (ho2 : o2 = o.set (i + k) s) (ht : o.getD (i + k) 0 = t) {V : Int}
    (hv : vl o + c * pB (i + k) = V + x * pB i * vk b k) (hs : s + 4294967296 * c2 = t + x * b.getD k 0 + c) : vl o2 + c2 * pB (i + (k + 1)) = V + x * pB i * vk b (k + 1) := by
  subst ho2
  rw [Jf _ _ _ hj, ht, C4, show i + (k + 1) = (i + k) + 1 by omega]
  simp only [pB]
  have hB : Bs = 4294967296 := rfl
  have e1 : c2 * (Bs * pB (i + k)) = pB (i + k) * (4294967296 * c2) := by rw [hB, ← Int.mul_assoc, Int.mul_comm (c2 * 4294967296), Int.mul_comm c2]
  have e2 : x * pB i * (vk b k + pB k * b.getD k 0) = x * pB i * vk b k + pB (i + k) * (x * b.getD k 0) := by
    rw [Int.mul_add, Fx]
    congr 1
    rw [Int.mul_assoc, Int.mul_left_comm (pB i * pB k), Int.mul_assoc (pB i)]
  have e3 : pB (i + k) * (s - t) + pB (i + k) * (4294967296 * c2) = pB (i + k) * (x * b.getD k 0) + pB (i + k) * c := by
    rw [← Int.mul_add, ← Int.mul_add]; congr 1; omega
  rw [e1, e2]
  have e4 : c * pB (i + k) = pB (i + k) * c := Int.mul_comm _ _
  omega
theorem Lr {o o2 a b : List Int} {i : Nat} {c : Int} (hj : i + b.length < o.length) (h0 : o.getD (i + b.length) 0 = 0) (ho2 : o2 = o.set (i + b.length) c)
    (hv : vl o + c * pB (i + b.length) = vk a i * vl b + a.getD i 0 * pB i * vk b b.length) : vl o2 = vk a (i + 1) * vl b := by
  subst ho2
  rw [Jf _ _ _ hj, h0, C4, Int.add_mul]
  rw [Du (Nat.le_refl _)] at hv
  have e : pB i * a.getD i 0 * vl b = a.getD i 0 * pB i * vl b := by rw [Int.mul_comm (pB i)]
  have e4 : c * pB (i + b.length) = pB (i + b.length) * c := Int.mul_comm _ _
  rw [e, Int.sub_zero]
  omega
end D
theorem X8 {b : Nat} (hb : 0 < b) {l : List Int} (h : rng b l) (i : Nat) : 0 ≤ l.getD i 0 ∧ l.getD i 0 < (b : Int) := by
  by_cases hi : i < l.length
  · rw [List.getD_eq_getElem?_getD, List.getElem?_eq_getElem hi]; exact h _ (List.getElem_mem hi)
  · rw [List.getD_eq_getElem?_getD, List.getElem?_eq_none (by omega)]; exact ⟨Int.le_refl _, by show (0 : Int) < b; omega⟩
theorem Wf {b : Nat} (hb : 2 ≤ b) : ∀ (i n : Nat), (Cb b n).getD i 0 = ((n / b ^ i % b : Nat) : Int)
  | 0, n => by
    by_cases h : n = 0
    · subst h; rw [E1]; simp
    · rw [D0 hb h]; simp
  | i + 1, n => by
    by_cases h : n = 0
    · subst h; rw [E1]; simp
    · rw [D0 hb h, List.getD_cons_succ, Wf hb i (n / b), Nat.div_div_eq_div_mul, Nat.pow_succ, Nat.mul_comm b]
abbrev B32 : Nat := 4294967296
def dgt (z j : Nat) : Int := ((z / B32 ^ j % B32 : Nat) : Int)
def dvl (z m : Nat) : List Int := (List.range m).map (dgt z)
def cry (x y i : Nat) : Nat := (x % B32 ^ i + y % B32 ^ i) / B32 ^ i
def brw (x y i : Nat) : Nat := if x % B32 ^ i < y % B32 ^ i then 1 else 0
theorem O7 {x y : Int} {a b : List Int} : ∀ k, Jn (x :: a) (y :: b) (k + 1) = if Jn a b k = 0 then (if x < y then -1 else if y < x then 1 else 0) else Jn a b k
  | 0 => by simp [Jn]
  | k + 1 => by
    have ih := O7 (x := x) (y := y) (a := a) (b := b) k
    have e1 : Jn (x :: a) (y :: b) (k + 1 + 1) = if a.getD k 0 < b.getD k 0 then -1 else if b.getD k 0 < a.getD k 0 then 1 else Jn (x :: a) (y :: b) (k + 1) := rfl
    have e2 : Jn a b (k + 1) = if a.getD k 0 < b.getD k 0 then -1 else if b.getD k 0 < a.getD k 0 then 1 else Jn a b k := rfl
    rw [e1, e2, ih]
    by_cases h1 : a.getD k 0 < b.getD k 0
    · rw [if_pos h1, if_pos h1, if_neg (by decide)]
    · rw [if_neg h1, if_neg h1]
      by_cases h2 : b.getD k 0 < a.getD k 0
      · rw [if_pos h2, if_pos h2, if_neg (by decide)]
      · rw [if_neg h2, if_neg h2]
theorem Lc {b : Nat} (hb : 2 ≤ b) (x : Nat) : ∀ y, x ≤ y → (Cb b x).length ≤ (Cb b y).length := by
  induction x using Nat.strongRecOn with
  | _ x ih =>
    intro y hxy
    by_cases h : x = 0
    · subst h; rw [E1]; exact Nat.zero_le _
    · rw [D0 hb h, D0 hb (by omega : y ≠ 0), List.length_cons, List.length_cons]
      have := ih (x / b) (Nat.div_lt_self (by omega) (by omega)) (y / b) (Nat.div_le_div_right hxy)
      omega
theorem Wo {b : Nat} (hb : 2 ≤ b) (x : Nat) : ∀ y, (Cb b x).length = (Cb b y).length → Jn (Cb b x) (Cb b y) (Cb b x).length = C1 x y := by
  induction x using Nat.strongRecOn with
  | _ x ih =>
    intro y hl
    by_cases h : x = 0
    · subst h
      rw [E1] at hl ⊢
      have hy : y = 0 := by
        rcases Nat.eq_zero_or_pos y with h | h
        · exact h
        · rw [D0 hb (by omega)] at hl; simp at hl
      subst hy; rfl
    · have hy : y ≠ 0 := by
        intro e; subst e
        rw [E1, D0 hb h] at hl; simp at hl
      rw [D0 hb h, D0 hb hy] at hl ⊢
      have hl' : (Cb b (x / b)).length = (Cb b (y / b)).length := by simpa using hl
      rw [List.length_cons, O7, ih (x / b) (Nat.div_lt_self (by omega) (by omega)) (y / b) hl']
      have e1 := Nat.mod_add_div x b
      have e2 := Nat.mod_add_div y b
      have m1 := Nat.mod_lt x (show 0 < b by omega)
      have m2 := Nat.mod_lt y (show 0 < b by omega)
      generalize x / b = X at *
      generalize y / b = Y at *
      rcases Nat.lt_trichotomy X Y with hd | hd | hd
      · have h5 : b * (X + 1) ≤ b * Y := Nat.mul_le_mul_left _ hd
        rw [Nat.mul_add, Nat.mul_one] at h5
        have c1 : C1 X Y = -1 := if_pos (by omega)
        have c2 : C1 x y = -1 := if_pos (by omega)
        rw [c1, c2]; rfl
      · subst hd
        have c1 : C1 X X = 0 := Ht.2 rfl
        rw [c1, if_pos rfl]
        rcases Nat.lt_trichotomy (x % b) (y % b) with g1 | g1 | g1
        · have q1 : ((x % b : Nat) : Int) < ((y % b : Nat) : Int) := Int.ofNat_lt.2 g1
          have c2 : C1 x y = -1 := if_pos (by omega)
          rw [if_pos q1, c2]
        · have c2 : C1 x y = 0 := Ht.2 (by omega)
          rw [g1, if_neg (Int.lt_irrefl _), if_neg (Int.lt_irrefl _), c2]
        · have q1 : ((y % b : Nat) : Int) < ((x % b : Nat) : Int) := Int.ofNat_lt.2 g1
          have c2 : C1 x y = 1 := by
            have n1 : ¬ ((x : Nat) : Int) < y := by omega
            have n2 : ((y : Nat) : Int) < x := by omega
            unfold C1; rw [if_neg n1, if_pos n2]
          rw [if_neg (Int.lt_asymm q1), if_pos q1, c2]
      · have h5 : b * (Y + 1) ≤ b * X := Nat.mul_le_mul_left _ hd
        rw [Nat.mul_add, Nat.mul_one] at h5
        have c1 : C1 X Y = 1 := by unfold C1; rw [if_neg (by omega), if_pos (by omega)]
        have c2 : C1 x y = 1 := by unfold C1; rw [if_neg (by omega), if_pos (by omega)]
        rw [c1, c2]; rfl
theorem O8 {b : Nat} (hb : 2 ≤ b) (x y : Nat) : Nw (Cb b x) (Cb b y) = C1 x y := by
  unfold Nw
  by_cases h1 : (Cb b x).length < (Cb b y).length
  · rw [if_pos h1]
    have : x < y := by
      rcases Nat.lt_or_ge x y with h | h
      · exact h
      · have := Lc hb y x h; omega
    exact (if_pos (by omega)).symm
  · rw [if_neg h1]
    by_cases h2 : (Cb b y).length < (Cb b x).length
    · rw [if_pos h2]
      have : y < x := by
        rcases Nat.lt_or_ge y x with h | h
        · exact h
        · have := Lc hb x y h; omega
      unfold C1; rw [if_neg (by omega), if_pos (by omega)]
    · rw [if_neg h2]
      exact Wo hb x y (by omega)

def zs (s : Bool) (n : Nat) : Int := if s = true then -(n : Int) else n
theorem H7 {s : Bool} {n : Nat} : (zs s n).natAbs = n := by unfold zs; split <;> omega
theorem N8 {x : Int} : (x < 0 ∧ C8 x = -1) ∨ (x = 0 ∧ C8 x = 0) ∨ (0 < x ∧ C8 x = 1) := by
  unfold C8
  rcases Int.lt_trichotomy x 0 with h | h | h
  · exact .inl ⟨h, by rw [if_neg (by omega), if_pos h]⟩
  · exact .inr (.inl ⟨h, by rw [if_pos h]⟩)
  · exact .inr (.inr ⟨h, by rw [if_neg (by omega), if_neg (by omega)]⟩)
theorem Aez {v : Int} : ((dg v).length : Int) = 0 ↔ v = 0 := by
  constructor
  · intro h; exact Sd.1 (List.eq_nil_of_length_eq_zero (by omega))
  · intro h; rw [Sd.2 h]; rfl

theorem B9 : Tryz.prog.follows .mixedOrders = true := by kernel_rfl
theorem A7 : slB Tryz.prog 23 71 1 = true := by kernel_rfl
theorem Bu : Iz Tryz.prog 71 = true := by kernel_rfl
theorem Tq : Tryz.prog.underlying 23 = some (.slice 71) := by kernel_rfl
theorem Lg : elP Tryz.prog 23 71 1 8 (.int .u64 0) := La Tq (by kernel_rfl) rfl (by decide)
theorem Ajn : Tryz.prog.underlying 9 = some .string := by kernel_rfl
theorem Li : Tryz.prog.underlying 71 = some (.int .u64) := by kernel_rfl
theorem Ai9 : Tryz.prog.underlying 5 = some (.int .u8) := by kernel_rfl
theorem N5 : Tryz.prog.underlying 3 = some (.int .i64) := by kernel_rfl
theorem Nu : slB Tryz.prog 32 71 1 = true := by kernel_rfl
theorem Ajv : slB Tryz.prog 22 71 1 = true := by kernel_rfl
theorem Af4 : Tryz.prog.underlying 32 = some (.slice 71) := by kernel_rfl
theorem Akf : elP Tryz.prog 32 71 1 8 (.int .u64 0) := La Af4 (by kernel_rfl) rfl (by decide)
theorem Az : ((Tryz.prog.info? 25).bind (·.zero)).map (·.cells.toList) = some [(.bool false), (.slice none 0 0)] := by kernel_rfl
theorem By : Zg Tryz.prog 25 1 1 1 = true := by kernel_rfl
theorem B5 : Iz Tryz.prog 23 = true := by kernel_rfl
theorem Cx : Zg Tryz.prog 25 0 0 1 = true := by kernel_rfl
theorem Il : Iz Tryz.prog 4 = true := by kernel_rfl
theorem C0 : Xi Tryz.prog 25 [0, 1] [(0, 1), (1, 1)] = true := by kernel_rfl
theorem B6 : (Tryz.prog.info? 25).any (·.size == 2) = true := by kernel_rfl
theorem Bw : Sr Tryz.prog 25 2 = true := by kernel_rfl
theorem G8 : Xi Tryz.prog 25 [1] [(1, 1)] = true := by kernel_rfl
theorem Acc : ((Tryz.prog.info? 130).bind (·.zero)).map (·.cells.toList) = some [.nilFunc, .nilFunc, .nilFunc, .nilFunc, .nilFunc] := by kernel_rfl
theorem Ago : (Tryz.prog.info? 130).any (·.size == 5) = true := by kernel_rfl
theorem Aie : Sr Tryz.prog 130 5 = true := by kernel_rfl
theorem Afk : Tryz.prog.underlying 4 = some .bool := by kernel_rfl
theorem Tr : Tryz.prog.underlying 130 = some (.array 5 129) := by kernel_rfl
theorem Abg : Iz Tryz.prog 129 = true := by kernel_rfl
theorem Aa3 : (Tryz.prog.info? 71).map (·.size) = some 1 := by kernel_rfl
theorem Hr : Xi Tryz.prog 25 [] [] = true := by kernel_rfl


theorem Lm : Tryz.prog.underlying 106 = some (.int .u64) := by kernel_rfl



theorem Xs : Tryz.prog.underlying 138 = some (.slice 3) := by kernel_rfl
theorem Lb : elP Tryz.prog 138 3 1 8 (.int .i64 0) := La Xs (by kernel_rfl) rfl (by decide)
theorem Fc : slB Tryz.prog 138 3 1 = true := by kernel_rfl
theorem S2 : Iz Tryz.prog 3 = true := by kernel_rfl
theorem Ky : Iz Tryz.prog 147 = true := by kernel_rfl
theorem Ra : slB Tryz.prog 147 23 1 = true := by kernel_rfl
theorem P6 : Iz Tryz.prog 139 = true := by kernel_rfl
theorem Xr : Tryz.prog.underlying 147 = some (.slice 23) := by kernel_rfl
theorem V7 : elP Tryz.prog 147 23 1 24 (.slice none 0 0) := La Xr (by kernel_rfl) rfl (by decide)
theorem Xk : ((Tryz.prog.info? 147).bind (·.zero)).map (·.cells.toList) = some [(.slice none 0 0)] := by kernel_rfl
theorem Uc : (Tryz.prog.info? 147).any (·.size == 1) = true := by kernel_rfl
theorem Xl : ((Tryz.prog.info? 139).bind (·.zero)).map (·.cells.toList) = some [.nilFunc] := by kernel_rfl
theorem Ac0 : (Tryz.prog.info? 139).any (·.size == 1) = true := by kernel_rfl
theorem Q4 : Tryz.prog.underlying 136 = some (.slice 5) := by kernel_rfl
theorem Ah4 : elP Tryz.prog 136 5 1 1 (.int .u8 0) := La Q4 (by kernel_rfl) rfl (by decide)
theorem Agn : slB Tryz.prog 136 5 1 = true := by kernel_rfl
theorem Ak6 : Iz Tryz.prog 5 = true := by kernel_rfl
theorem Aid : arB Tryz.prog 133 5 64 1 = true := by kernel_rfl
theorem B4 : ((Tryz.prog.info? 27).bind (·.zero)).map (·.cells.toList) = some [(.bool false), (.slice none 0 0), (.slice none 0 0)] := by kernel_rfl
theorem Jg : Tryz.prog.underlying 20 = some (.interface #[]) := by kernel_rfl
theorem Ap : Sr Tryz.prog 27 3 = true := by kernel_rfl
theorem Bq : (Tryz.prog.info? 27).any (·.size == 3) = true := by kernel_rfl
theorem Kz : Ahd Tryz.prog 100 = true := by kernel_rfl
theorem H8 : ((Tryz.prog.info? 100).bind (·.zero)).map (·.cells.toList) = some [(.int .i64 0)] := by kernel_rfl
theorem Ms : (Tryz.prog.info? 100).any (·.size == 1) = true := by kernel_rfl
theorem Gh : Zg Tryz.prog 100 0 0 1 = true := by kernel_rfl
theorem Cr : Iz Tryz.prog 28 = true := by kernel_rfl
theorem Ajb : (Tryz.prog.info? 3).any (·.size == 1) = true := by kernel_rfl
theorem Ti : Iz Tryz.prog 9 = true := by kernel_rfl
theorem X3 : (Tryz.prog.info? 9).any (·.size == 1) = true := by kernel_rfl
theorem Cg : Zg Tryz.prog 27 0 0 2 = true := by kernel_rfl
theorem Cs : Zg Tryz.prog 27 1 2 1 = true := by kernel_rfl
theorem U2 : Xi Tryz.prog 100 [0] [(0, 1)] = true := by kernel_rfl
theorem Dm : Xi Tryz.prog 27 [0, 1] [(0, 2), (2, 1)] = true := by kernel_rfl
theorem Rb : slB Tryz.prog 94 27 3 = true := by kernel_rfl
theorem Ep : ((Tryz.prog.info? 28).bind (·.zero)).map (·.cells.toList) = some [(.int .i64 0)] := by kernel_rfl
theorem E5 : (Tryz.prog.info? 28).any (·.size == 1) = true := by kernel_rfl
theorem Ak1 : (Tryz.prog.info? 4).any (·.size == 1) = true := by kernel_rfl
theorem Ajj : ((Tryz.prog.info? 9).bind (·.zero)).map (·.cells.toList) = some [(.string .empty)] := by kernel_rfl
theorem Xt : Tryz.prog.underlying 94 = some (.slice 27) := by kernel_rfl
theorem E0 : elP Tryz.prog 94 27 3 56 (.agg #[(.bool false), (.slice none 0 0), (.slice none 0 0)]) := La Xt (by kernel_rfl) rfl (by decide)
theorem Yj : Xi Tryz.prog 27 [] [] = true := by kernel_rfl
theorem Ajk : ((Tryz.prog.info? 3).bind (·.zero)).map (·.cells.toList) = some [(.int .i64 0)] := by kernel_rfl

theorem Agm : slB Tryz.prog 119 25 2 = true := by kernel_rfl

theorem Jr : ((Tryz.prog.info? 63).bind (·.zero)).map (·.cells.toList) = some [.nilFunc, .nilFunc, .nilFunc] := by kernel_rfl
theorem Mt : (Tryz.prog.info? 63).any (·.size == 3) = true := by kernel_rfl
theorem Acz : (Tryz.prog.info? 23).any (·.size == 1) = true := by kernel_rfl
theorem Ads : Iz Tryz.prog 62 = true := by kernel_rfl
theorem W1 : arB Tryz.prog 63 62 3 1 = true := by kernel_rfl

theorem Af3 : Tryz.prog.underlying 119 = some (.slice 25) := by kernel_rfl
theorem Ajf : elP Tryz.prog 119 25 2 32 (.agg #[(.bool false), (.slice none 0 0)]) := La Af3 (by kernel_rfl) rfl (by decide)

def Alw (n : Nat) (L : Ob) (f : Nat → Ob) (J : List Ob) : List Ob := L :: ((List.range n).map f ++ J)
def upd (f : Nat → Ob) (i : Nat) (o : Ob) : Nat → Ob := fun j => if j = i then o else f j
section
variable {n : Nat} {L : Ob} {f : Nat → Ob} {J : List Ob}
end
def owC (j : Nat) : Int := ((j % 251 + 1 : Nat) : Int)
def owB (j : Nat) : List Int := [((300 + 5 * j : Nat) : Int), ((300 + 5 * j + 1 : Nat) : Int), ((300 + 5 * j + 2 : Nat) : Int), ((300 + 5 * j + 3 : Nat) : Int), ((300 + 5 * j + 4 : Nat) : Int)]
def owL (n : Nat) (rs : Nat → List Int) (i : Nat) : Ob := ⟨22, 1, 0, true, (List.range n).map fun j => if j < i then .o (j + 1) 1 0 ((rs j).length + 5) else .o (j + 1) 0 0 (rs j).length⟩
def Amm (n : Nat) (rs : Nat → List Int) : Ob := ⟨22, 1, 0, true, (List.range n).map fun j => .o (j + 1) 0 0 (rs j).length⟩
def owR (rs : Nat → List Int) (j : Nat) : Ob := ⟨71, 1, 0, true, ints .u64 (rs j)⟩
def owF (rs : Nat → List Int) (i j : Nat) : Ob := ⟨71, 1, 0, true, ints .u64 (if j < i then List.replicate (rs j).length (owC j) else rs j)⟩
def owK (rs : Nat → List Int) (i k : Nat) : Ob := ⟨71, 1, 0, true, ints .u64 (List.replicate k (owC i) ++ (rs i).drop k)⟩
def owE (rs : Nat → List Int) (j : Nat) : Ob := ⟨71, 1, 1, true, ints .u64 (List.replicate (rs j).length (owC j) ++ owB j)⟩
def owG (rs : Nat → List Int) (i j : Nat) : Ob := if j < i then owE rs j else ⟨71, 1, 0, true, ints .u64 (List.replicate (rs j).length (owC j))⟩
section
variable {n : Nat} {rs : Nat → List Int} {J : List Ob}
end

section
variable {n : Nat} {rs : Nat → List Int}
end
def Amj (l : List (List Int)) (j : Nat) : List Int := l.getD j []

def Tz (x t : Nat) : Prop := 2 ^ t ∣ x ∧ x / 2 ^ t % 2 = 1
def inI (v : Int) : Prop := -9223372036854775808 ≤ v ∧ v < 9223372036854775808
instance (v : Int) : Decidable (inI v) := by unfold inI; infer_instance
def fl (v : Int) : List Int := if v = 0 then [] else [v]
theorem Rx {v : Int} (h : v.natAbs < 18446744073709551616) : lm v = fl ((v.natAbs : Nat) : Int) := by
  unfold lm fl
  by_cases h0 : v.natAbs = 0
  · rw [h0, E1]; rfl
  · rw [D0 (by decide) h0, Nat.mod_eq_of_lt h, Nat.div_eq_of_lt h, E1, if_neg (by omega)]
theorem Agf (v : Int) : sv (decide (v < 0)) (lm v) = v := by
  unfold sv; rw [Qa]; by_cases h : v < 0 <;> simp [h] <;> omega


theorem H3 (s : Nat) : (0 : Int) < 2 ^ s := Int.pow_pos (by decide)
theorem I6 {s : Nat} (h : s ≤ 64) : (2 : Int) ^ (64 - s) * 2 ^ s = 18446744073709551616 := by
  rw [← Int.pow_add, show 64 - s + s = 64 by omega]; rfl
theorem Abe {s : Nat} (h : s < 64) : (2 : Int) * 2 ^ (63 - s) = 2 ^ (64 - s) := by
  rw [show 64 - s = (63 - s) + 1 by omega, Int.pow_succ, Int.mul_comm]
theorem Ak5 {s : Nat} (h : s < 64) : (2 : Int) ^ s ≤ 9223372036854775808 := by
  have h1 : (2 : Nat) ^ s ≤ 2 ^ 63 := Nat.pow_le_pow_right (by decide) (by omega)
  have h2 : ((2 ^ s : Nat) : Int) ≤ ((2 ^ 63 : Nat) : Int) := Int.ofNat_le.2 h1
  rw [Int.natCast_pow] at h2
  simpa using h2
theorem Aa4 {s : Nat} (h : s ≤ 64) : min ((s : Int)).toNat 64 = s := by omega
theorem Hy {x : Int} {s : Nat} (h : s ≤ 64) : x.fdiv (2 ^ min ((s : Int)).toNat 64) = x / 2 ^ s := by
  rw [Aa4 h]; exact Int.fdiv_eq_ediv_of_nonneg _ (Int.le_of_lt (H3 s))
theorem G4 {x : Int} {s : Nat} (h : s ≤ 64) : IntKind.u64.wrap (x * 2 ^ min ((s : Int)).toNat 64) = x * 2 ^ s % 18446744073709551616 := by
  rw [Aa4 h]; exact Dv
def loS (x : Int) (s : Nat) : Int := x * 2 ^ s % 18446744073709551616
def hiS (x : Int) (s : Nat) : Int := x / 2 ^ (64 - s)
theorem Vj {x : Int} {s : Nat} (h : s ≤ 64) : loS x s = 2 ^ s * (x % 2 ^ (64 - s)) := by
  unfold loS
  rw [← I6 h, Int.mul_comm x, Int.mul_comm (2 ^ (64 - s)) (2 ^ s), Int.mul_emod_mul_of_pos _ _ (H3 s)]
theorem Aj9 {x : Int} {s : Nat} (h : s ≤ 64) : x * 2 ^ s = 18446744073709551616 * hiS x s + loS x s := by
  rw [Vj h, ← I6 h]
  unfold hiS
  have e := Int.emod_add_mul_ediv x (2 ^ (64 - s))
  generalize hk : x / 2 ^ (64 - s) = k at e ⊢
  generalize hr : x % 2 ^ (64 - s) = r at e ⊢
  rw [← e, Int.add_mul, Int.mul_comm r]
  rw [Int.mul_right_comm]
  omega
theorem K9 {x : Int} {s : Nat} (h : s ≤ 64) (h0 : 0 ≤ x) (h1 : x < 18446744073709551616) : 0 ≤ hiS x s ∧ hiS x s < 2 ^ s := by
  unfold hiS
  refine ⟨Int.ediv_nonneg h0 (Int.le_of_lt (H3 _)), ?_⟩
  refine Int.ediv_lt_of_lt_mul (H3 _) ?_
  rw [Int.mul_comm, I6 h]; exact h1
theorem L2 {x : Int} {s : Nat} : 0 ≤ loS x s ∧ loS x s < 18446744073709551616 := by unfold loS; omega
theorem Pr {x : Int} {s : Nat} (h : s < 64) : x / 2 / 2 ^ (63 - s) = hiS x s := by
  unfold hiS; rw [Int.ediv_ediv_of_nonneg (by decide), Abe h]
theorem Ud {x : Int} {s : Nat} (h : s < 64) : x * 2 % 18446744073709551616 * 2 ^ (63 - s) % 18446744073709551616 = loS x (64 - s) := by
  unfold loS
  rw [Int.mul_emod, Int.emod_emod, ← Int.mul_emod, Int.mul_assoc, Abe h]
theorem Ag9 {x y : Int} {k : Nat} (hx0 : 0 ≤ x) (hx : x < 2 ^ k) (hy0 : 0 ≤ y) (hy : 2 ^ k * y < 18446744073709551616) (hk : k ≤ 64) : Gm .or .u64 x (2 ^ k * y) = x + 2 ^ k * y := by
  obtain ⟨m, rfl⟩ := Int.eq_ofNat_of_zero_le hx0
  obtain ⟨n, rfl⟩ := Int.eq_ofNat_of_zero_le hy0
  have hp : ((2 ^ k : Nat) : Int) = (2 : Int) ^ k := by rw [Int.natCast_pow]; rfl
  rw [← hp] at hx hy ⊢
  rw [← Int.natCast_mul] at hy ⊢
  have hm : m < 2 ^ k := Int.ofNat_lt.1 hx
  have hn : 2 ^ k * n < 18446744073709551616 := by omega
  have hm2 : m < 18446744073709551616 := Nat.lt_of_lt_of_le hm (Nat.pow_le_pow_right (by decide) hk)
  unfold Gm
  simp only [IntKind.bits]
  have e1 : (BitVec.ofInt 64 (m : Int)).toNat = m := by rw [BitVec.toNat_ofInt]; simp; omega
  have e2 : (BitVec.ofInt 64 ((2 ^ k * n : Nat) : Int)).toNat = 2 ^ k * n := by
    generalize 2 ^ k * n = t at hn
    rw [BitVec.toNat_ofInt]; simp; omega
  have e3 : (BitVec.ofInt 64 (m : Int) ||| BitVec.ofInt 64 ((2 ^ k * n : Nat) : Int)).toNat = m + 2 ^ k * n := by
    rw [BitVec.toNat_or, e1, e2, Nat.or_comm, ← Nat.two_pow_add_eq_or_of_lt hm, Nat.add_comm]
  show IntKind.u64.wrap (((BitVec.ofInt 64 (m : Int) ||| BitVec.ofInt 64 ((2 ^ k * n : Nat) : Int)).toNat : Nat) : Int) = _
  rw [e3]
  have hs : m + 2 ^ k * n < 18446744073709551616 := by
    have := (BitVec.ofInt 64 (m : Int) ||| BitVec.ofInt 64 ((2 ^ k * n : Nat) : Int)).isLt
    rw [e3] at this; simpa using this
  generalize 2 ^ k * n = t at hs ⊢
  rw [Bf (by omega) (by omega)]
  omega
theorem P5 {c x : Int} {s : Nat} (h : s ≤ 64) (hc0 : 0 ≤ c) (hc : c < 2 ^ s) (hx0 : 0 ≤ x) : Gm .or .u64 c (loS x s) = c + loS x s ∧ c + loS x s < 18446744073709551616 := by
  have hb := @L2 x s
  rw [Vj h] at hb ⊢
  have hx : 0 ≤ x % 2 ^ (64 - s) := Int.emod_nonneg _ (Int.ne_of_gt (H3 _))
  have hx2 : x % 2 ^ (64 - s) < 2 ^ (64 - s) := Int.emod_lt_of_pos _ (H3 _)
  refine ⟨Ag9 hc0 hc hx hb.2 h, ?_⟩
  have e := I6 h
  have h3 : 2 ^ s * (x % 2 ^ (64 - s)) ≤ 2 ^ s * (2 ^ (64 - s) - 1) := Int.mul_le_mul_of_nonneg_left (by omega) (Int.le_of_lt (H3 s))
  rw [Int.mul_sub, Int.mul_comm (2 ^ s) (2 ^ (64 - s)), e] at h3
  omega
def upN (a : List Int) (s : Nat) : Nat → List Int × Int
  | 0 => ([], 0)
  | i + 1 => ((upN a s i).1 ++ [(upN a s i).2 + loS (a.getD i 0) s], hiS (a.getD i 0) s)
theorem E3 (a : List Int) (s : Nat) : ∀ i, (upN a s i).1.length = i
  | 0 => rfl
  | i + 1 => by simp [upN, E3 a s i]
theorem Tp {a : List Int} {s : Nat} (hs : s ≤ 64) (ha : Av a) : ∀ i, 0 ≤ (upN a s i).2 ∧ (upN a s i).2 < 2 ^ s
  | 0 => ⟨Int.le_refl 0, H3 s⟩
  | i + 1 => K9 hs (A2 ha i).1 (A2 ha i).2
theorem Af2 {a : List Int} {s : Nat} (hs : s ≤ 64) (ha : Av a) : ∀ i, Av (upN a s i).1
  | 0 => fun x hx => by simp [upN] at hx
  | i + 1 => by
    have hc := Tp hs ha i
    have hl := @L2 (a.getD i 0) s
    exact D9 (Af2 hs ha i) (by omega) (P5 hs hc.1 hc.2 (A2 ha i).1).2
theorem To {a : List Int} {s : Nat} (hs : s ≤ 64) : ∀ i, vl (upN a s i).1 + pB i * (upN a s i).2 = vk a i * 2 ^ s
  | 0 => by rw [Tf]; simp [upN, vl]
  | i + 1 => by
    have h := To (a := a) hs i
    have e := Aj9 (x := a.getD i 0) hs
    rw [C4, Int.add_mul, ← h]
    simp only [upN]
    rw [D8, E3, Int.mul_assoc (pB i) (a.getD i 0), e]
    simp only [vl, pB]
    have hB : Bs = 18446744073709551616 := rfl
    rw [hB]
    generalize (upN a s i).2 = c
    generalize loS (a.getD i 0) s = lo
    generalize hiS (a.getD i 0) s = hi
    generalize pB i = p
    have e1 : p * (18446744073709551616 * hi + lo) = 18446744073709551616 * p * hi + p * lo := by rw [Int.mul_add, ← Int.mul_assoc, Int.mul_comm p]
    have e2 : p * (c + lo + 18446744073709551616 * 0) = p * c + p * lo := by rw [Int.mul_zero, Int.add_zero, Int.mul_add]
    rw [e1, e2]
    omega
def upL (a : List Int) (s : Nat) : List Int := (upN a s a.length).1 ++ [(upN a s a.length).2]
theorem Kh (a : List Int) (s : Nat) : (upL a s).length = a.length + 1 := by simp [upL, E3]
theorem Xq {a : List Int} {s : Nat} (hs : s < 64) (ha : Av a) : Av (upL a s) := by
  have hc := Tp (Nat.le_of_lt hs) ha a.length
  have := Ak5 hs
  exact D9 (Af2 (Nat.le_of_lt hs) ha _) hc.1 (by omega)
theorem Mm {a : List Int} {s : Nat} (hs : s ≤ 64) : vl (upL a s) = vl a * 2 ^ s := by
  unfold upL
  rw [D8, E3]
  have h := To (a := a) hs a.length
  rw [Du (Nat.le_refl _)] at h
  rw [← h]; simp [vl]
theorem X4 {l : List Int} {c v : Int} {n : Nat} : (D2 (l ++ [c]) n).set ((0 + l.length) * 1) v = D2 (l ++ [v]) n := by
  rw [Nat.zero_add, Nat.mul_one]
  unfold D2
  rw [List.append_assoc, List.append_assoc, List.set_append_right _ _ (Nat.le_refl _), Nat.sub_self]
  simp
theorem Zd {l : List Int} {c : Int} {n : Nat} : (D2 (l ++ [c]) n).getD ((0 + l.length) * 1) 0 = c := by
  rw [Nat.zero_add, Nat.mul_one]
  unfold D2
  rw [List.append_assoc, List.getD_eq_getElem?_getD, List.getElem?_append_right (Nat.le_refl _), Nat.sub_self]
  simp
def upR (a : List Int) (s i : Nat) : List Int := D2 ((upN a s i).1 ++ [(upN a s i).2]) (a.length + 1)
theorem Pj {a : List Int} {s i : Nat} (h : i ≤ a.length) : (upR a s i).length = a.length + 1 := Ff (by simp [E3]; omega)
theorem Acl {a : List Int} {s : Nat} : List.replicate (a.length + 1) (0 : Int) = upR a s 0 := by
  unfold upR D2; simp [upN, List.replicate_succ]
theorem Pk {a : List Int} {s i : Nat} : (upR a s i).getD ((0 + i) * 1) 0 = (upN a s i).2 := by
  have h := @Zd (upN a s i).1 (upN a s i).2 (a.length + 1)
  rw [E3] at h; exact h
theorem Pi {a : List Int} {s i : Nat} (h : i < a.length) : ((upR a s i).set ((0 + i) * 1) ((upN a s i).2 + loS (a.getD i 0) s)).set ((0 + (i + 1)) * 1) (hiS (a.getD i 0) s) = upR a s (i + 1) := by
  have h1 := @X4 (upN a s i).1 (upN a s i).2 ((upN a s i).2 + loS (a.getD i 0) s) (a.length + 1)
  rw [E3] at h1
  unfold upR
  rw [h1]
  have hl : (upN a s (i + 1)).1.length = i + 1 := E3 a s (i + 1)
  have h2 := @Gi (upN a s (i + 1)).1 (a.length + 1) (hiS (a.getD i 0) s) (by omega)
  rw [hl] at h2
  rw [Nat.zero_add, Nat.mul_one]
  exact h2
theorem Ml {a : List Int} {s : Nat} : upR a s a.length = upL a s := Ed (by simp [E3])
def dnD (a : List Int) (s i : Nat) : Int := a.getD i 0 / 2 ^ s + loS (a.getD (i + 1) 0) (64 - s)
def dnN (a : List Int) (s : Nat) : Nat → List Int
  | 0 => []
  | i + 1 => dnN a s i ++ [dnD a s i]
theorem Ga (a : List Int) (s : Nat) : ∀ i, (dnN a s i).length = i
  | 0 => rfl
  | i + 1 => by simp [dnN, Ga a s i]
theorem Agk {x : Int} {s : Nat} (h : s ≤ 64) (h0 : 0 ≤ x) (h1 : x < 18446744073709551616) : 0 ≤ x / 2 ^ s ∧ x / 2 ^ s < 2 ^ (64 - s) := by
  have := K9 (x := x) (s := 64 - s) (by omega) h0 h1
  unfold hiS at this
  rwa [show 64 - (64 - s) = s by omega] at this
theorem Aev {x y : Int} {s : Nat} (h : s ≤ 64) (h0 : 0 ≤ x) (h1 : x < 18446744073709551616) (hy : 0 ≤ y) : Gm .or .u64 (x / 2 ^ s) (loS y (64 - s)) = x / 2 ^ s + loS y (64 - s) ∧ x / 2 ^ s + loS y (64 - s) < 18446744073709551616 := by
  have hb := Agk h h0 h1
  exact P5 (by omega) hb.1 hb.2 hy
theorem Abw {a : List Int} {s i : Nat} (h : s ≤ 64) (ha : Av a) : 0 ≤ dnD a s i ∧ dnD a s i < 18446744073709551616 := by
  have hx := A2 ha i
  have hb := Agk h hx.1 hx.2
  have hl := @L2 (a.getD (i + 1) 0) (64 - s)
  exact ⟨by unfold dnD; omega, (Aev h hx.1 hx.2 (A2 ha (i + 1)).1).2⟩
theorem Wb {a : List Int} {s : Nat} (hs : s ≤ 64) (ha : Av a) : ∀ i, Av (dnN a s i)
  | 0 => fun x hx => by simp [dnN] at hx
  | i + 1 => D9 (Wb hs ha i) (Abw hs ha).1 (Abw hs ha).2
theorem Aew {a : List Int} {s i : Nat} (hs : s ≤ 64) : 2 ^ s * dnD a s i = a.getD i 0 - a.getD i 0 % 2 ^ s + 18446744073709551616 * (a.getD (i + 1) 0 % 2 ^ s) := by
  unfold dnD
  rw [Vj (show 64 - s ≤ 64 by omega), show 64 - (64 - s) = s by omega]
  have e := Int.emod_add_mul_ediv (a.getD i 0) (2 ^ s)
  rw [Int.mul_add, ← Int.mul_assoc, Int.mul_comm (2 ^ s) (2 ^ (64 - s)), I6 hs]
  omega
theorem Qn {a : List Int} {s : Nat} (hs : s ≤ 64) : ∀ i, 2 ^ s * vl (dnN a s i) = vk a i - a.getD 0 0 % 2 ^ s + pB i * (a.getD i 0 % 2 ^ s)
  | 0 => by rw [Tf]; simp [dnN, vl, pB]; omega
  | i + 1 => by
    have h := Qn (a := a) hs i
    have e := Aew (a := a) (i := i) hs
    rw [C4]
    simp only [dnN]
    rw [D8, Ga, Int.mul_add, h, Int.mul_left_comm]
    have : vl [dnD a s i] = dnD a s i := by simp [vl]
    rw [this, e, Int.mul_add, Int.mul_sub]
    simp only [pB]
    have hB : Bs = 18446744073709551616 := rfl
    rw [hB, ← Int.mul_assoc (pB i), Int.mul_comm (pB i) 18446744073709551616]
    omega
theorem Ad9 {a : List Int} {s : Nat} (hs : s ≤ 64) {x : Int} (h : vl a = 2 ^ s * x) : a.getD 0 0 % 2 ^ s = 0 := by
  cases a with
  | nil => simp
  | cons y l =>
    simp only [vl] at h
    show y % 2 ^ s = 0
    have hB : Bs = 2 ^ s * 2 ^ (64 - s) := by rw [Int.mul_comm, I6 hs]; rfl
    rw [hB, Int.mul_assoc] at h
    have : y = 2 ^ s * (x - 2 ^ (64 - s) * vl l) := by rw [Int.mul_sub]; omega
    rw [this, Int.mul_emod_right]
theorem Ah5 {a : List Int} {s : Nat} (hs : s ≤ 64) {x : Int} (h : vl a = 2 ^ s * x) : vl (dnN a s a.length) = x := by
  have h1 := Qn (a := a) hs a.length
  rw [Ad9 hs h, Du (Nat.le_refl _), Ds (Nat.le_refl _), Int.zero_emod, Int.mul_zero, h] at h1
  exact Int.eq_of_mul_eq_mul_left (Int.ne_of_gt (H3 s)) (by omega)


def rwJ (U : List Int) (j : Nat) (l : List Int) : List Int := U.take j ++ (l ++ U.drop (j + l.length))
theorem Ags {U : List Int} {j : Nat} : rwJ U j [] = U := by unfold rwJ; simp
theorem Kq {U : List Int} {j : Nat} {l : List Int} (h : j + l.length ≤ U.length) : (rwJ U j l).length = U.length := by
  unfold rwJ; simp only [List.length_append, List.length_take, List.length_drop]; omega
theorem Rf {U : List Int} {j k : Nat} {l : List Int} (h : l.length ≤ k) (hU : j + l.length ≤ U.length) : (rwJ U j l).getD ((j + k) * 1) 0 = U.getD (j + k) 0 := by
  unfold rwJ
  rw [Nat.mul_one, List.getD_eq_getElem?_getD, List.getElem?_append_right (by rw [List.length_take]; omega), List.length_take, Nat.min_eq_left (by omega), List.getElem?_append_right (by omega), List.getElem?_drop, List.getD_eq_getElem?_getD]
  congr 2; omega
theorem Agr {U : List Int} {j k : Nat} {l : List Int} (h : k < l.length) (hU : j + l.length ≤ U.length) : (rwJ U j l).getD ((j + k) * 1) 0 = l.getD k 0 := by
  unfold rwJ
  rw [Nat.mul_one, List.getD_eq_getElem?_getD, List.getElem?_append_right (by rw [List.length_take]; omega), List.length_take, Nat.min_eq_left (by omega), List.getElem?_append_left (by omega), List.getD_eq_getElem?_getD]
  congr 2; omega
theorem Mv {U : List Int} {j : Nat} {l : List Int} {v : Int} (hU : j + l.length < U.length) : (rwJ U j l).set ((j + l.length) * 1) v = rwJ U j (l ++ [v]) := by
  unfold rwJ
  rw [Nat.mul_one, List.set_append_right _ _ (by rw [List.length_take]; omega), List.length_take, Nat.min_eq_left (by omega), List.set_append_right _ _ (by omega),
    show j + l.length - j - l.length = 0 by omega, List.drop_eq_getElem_cons hU, List.set_cons_zero, List.length_append, List.length_singleton, List.append_assoc]
  rfl
theorem Ac6 {U : List Int} {j : Nat} {l m : List Int} (h : m.length ≤ l.length) (hU : j + l.length ≤ U.length) : rwJ (rwJ U j l) j m = rwJ U j (m ++ l.drop m.length) := by
  unfold rwJ
  have hl : (U.take j).length = j := by rw [List.length_take]; omega
  rw [List.take_append_of_le_length (by omega), List.take_of_length_le (l := U.take j) (by omega), List.drop_append, hl, List.drop_of_length_le (l := U.take j) (by omega), List.nil_append,
    show j + m.length - j = m.length by omega, List.drop_append_of_le_length h]
  simp only [List.append_assoc, List.length_append, List.length_drop]
  rw [show m.length + (l.length - m.length) = l.length by omega]
def slJ (U : List Int) (j n : Nat) : List Int := (U.drop j).take n
theorem Ub {U : List Int} {j n : Nat} (h : j + n ≤ U.length) : (slJ U j n).length = n := by unfold slJ; rw [List.length_take, List.length_drop]; omega
theorem Agl {U : List Int} {j n k : Nat} (h : k < n) : (slJ U j n).getD k 0 = U.getD (j + k) 0 := by
  unfold slJ
  rw [Iv h, List.getD_eq_getElem?_getD, List.getElem?_drop, List.getD_eq_getElem?_getD]
theorem Aju {U : List Int} {j n : Nat} (h : Av U) : Av (slJ U j n) := Er (Fb h _) _
theorem Ajx {U : List Int} {j : Nat} {l : List Int} (h : Av U) (hl : Av l) : Av (rwJ U j l) := Mn (Er h _) (Mn hl (Fb h _))
theorem Ua (U : List Int) {j n : Nat} (h : j + n ≤ U.length) : vl U = vk U j + pB j * (vl (slJ U j n) + pB n * vl (U.drop (j + n))) := by
  have e1 : U = U.take j ++ ((U.drop j).take n ++ (U.drop j).drop n) := by rw [List.take_append_drop, List.take_append_drop]
  have hl1 : (U.take j).length = j := by rw [List.length_take]; omega
  have hl2 : ((U.drop j).take n).length = n := Ub h
  rw [List.drop_drop] at e1
  calc vl U = vl (U.take j ++ ((U.drop j).take n ++ U.drop (j + n))) := by rw [← e1]
    _ = _ := by rw [D8, D8, hl1, hl2]; rfl
theorem Ac5 {U : List Int} {j : Nat} {l : List Int} (h : j + l.length ≤ U.length) : vl (rwJ U j l) = vk U j + pB j * (vl l + pB l.length * vl (U.drop (j + l.length))) := by
  unfold rwJ
  have hl1 : (U.take j).length = j := by rw [List.length_take]; omega
  rw [D8, D8, hl1]; rfl
def msS (u v : List Int) (q : Int) (i : Nat) (c : Int) : Int := (v.getD i 0 * q % 18446744073709551616 + c) % 18446744073709551616
def msC (v : List Int) (q : Int) (i : Nat) (c : Int) : Int := v.getD i 0 * q / 18446744073709551616 + (v.getD i 0 * q % 18446744073709551616 + c) / 18446744073709551616
def sbD (u s b : Int) : Int := if u < s + b then u - s - b + 18446744073709551616 else u - s - b
def sbB (u s b : Int) : Int := if u < s + b then 1 else 0
theorem Agq (u s b : Int) : sbD u s b = u - s - b + 18446744073709551616 * sbB u s b := by unfold sbD sbB; split <;> omega
theorem Uj (u s b : Int) : 0 ≤ sbB u s b ∧ sbB u s b ≤ 1 := by unfold sbB; split <;> omega
theorem Aa6 {u s b : Int} (hu0 : 0 ≤ u) (hu : u < 18446744073709551616) (hs0 : 0 ≤ s) (hs : s < 18446744073709551616) (hb0 : 0 ≤ b) (hb : b ≤ 1) : 0 ≤ sbD u s b ∧ sbD u s b < 18446744073709551616 := by unfold sbD; split <;> omega
def msN (u v : List Int) (q : Int) : Nat → List Int × Int × Int
  | 0 => ([], 0, 0)
  | i + 1 => ((msN u v q i).1 ++ [sbD (u.getD i 0) (msS u v q i (msN u v q i).2.1) (msN u v q i).2.2], msC v q i (msN u v q i).2.1, sbB (u.getD i 0) (msS u v q i (msN u v q i).2.1) (msN u v q i).2.2)
theorem Gs (u v : List Int) (q : Int) : ∀ i, (msN u v q i).1.length = i
  | 0 => rfl
  | i + 1 => by simp [msN, Gs u v q i]
theorem Vd {x y : Int} (hx0 : 0 ≤ x) (hx : x < 18446744073709551616) (hy0 : 0 ≤ y) (hy : y < 18446744073709551616) : 0 ≤ x * y ∧ x * y ≤ 340282366920938463426481119284349108225 := by
  have := Ji (m := 18446744073709551615) hx0 hy0 (by omega) (by omega)
  exact this
theorem Ad0 {u v : List Int} {q : Int} (hv : Av v) (hq0 : 0 ≤ q) (hq : q < 18446744073709551616) : ∀ i, 0 ≤ (msN u v q i).2.1 ∧ (msN u v q i).2.1 < 18446744073709551616
  | 0 => by simp [msN]
  | i + 1 => by
    have h := Ad0 (u := u) hv hq0 hq i
    have hx := A2 hv i
    have hp := Vd hx.1 hx.2 hq0 hq
    show 0 ≤ msC v q i (msN u v q i).2.1 ∧ msC v q i (msN u v q i).2.1 < _
    unfold msC
    generalize v.getD i 0 * q = P at hp ⊢
    generalize (msN u v q i).2.1 = c at h ⊢
    omega
theorem Ad1 (u v : List Int) (q : Int) : ∀ i, 0 ≤ (msN u v q i).2.2 ∧ (msN u v q i).2.2 ≤ 1
  | 0 => by simp [msN]
  | i + 1 => Uj _ _ _
theorem Ahf {u v : List Int} {q : Int} (hu : Av u) (hv : Av v) (hq0 : 0 ≤ q) (hq : q < 18446744073709551616) : ∀ i, Av (msN u v q i).1
  | 0 => fun x hx => by simp [msN] at hx
  | i + 1 => by
    have hx := A2 hu i
    have hb := Ad1 u v q i
    have h := Aa6 hx.1 hx.2 (s := msS u v q i (msN u v q i).2.1) (b := (msN u v q i).2.2) (by unfold msS; omega) (by unfold msS; omega) hb.1 hb.2
    exact D9 (Ahf hu hv hq0 hq i) h.1 h.2
theorem Vf (u v : List Int) (q : Int) : ∀ i, vl (msN u v q i).1 = vk u i - q * vk v i + pB i * ((msN u v q i).2.1 + (msN u v q i).2.2)
  | 0 => by rw [Tf, Tf]; simp [msN, vl]
  | i + 1 => by
    have h := Vf u v q i
    rw [C4, C4]
    simp only [msN]
    rw [D8, Gs, h, Agq]
    have e1 : vl [u.getD i 0 - msS u v q i (msN u v q i).2.1 - (msN u v q i).2.2 + 18446744073709551616 * sbB (u.getD i 0) (msS u v q i (msN u v q i).2.1) (msN u v q i).2.2] = u.getD i 0 - msS u v q i (msN u v q i).2.1 - (msN u v q i).2.2 + 18446744073709551616 * sbB (u.getD i 0) (msS u v q i (msN u v q i).2.1) (msN u v q i).2.2 := by simp [vl]
    rw [e1]
    generalize sbB (u.getD i 0) (msS u v q i (msN u v q i).2.1) (msN u v q i).2.2 = b2
    have e2 : msS u v q i (msN u v q i).2.1 + 18446744073709551616 * msC v q i (msN u v q i).2.1 = v.getD i 0 * q + (msN u v q i).2.1 := by
      unfold msS msC
      generalize v.getD i 0 * q = P
      generalize (msN u v q i).2.1 = c
      omega
    generalize hs : msS u v q i (msN u v q i).2.1 = s at e2 ⊢
    generalize hc : msC v q i (msN u v q i).2.1 = c2 at e2 ⊢
    generalize (msN u v q i).2.1 = c at e2 ⊢
    generalize (msN u v q i).2.2 = b
    obtain rfl : s = v.getD i 0 * q + c - 18446744073709551616 * c2 := by omega
    simp only [pB]
    have hB : Bs = 18446744073709551616 := rfl
    rw [hB]
    generalize u.getD i 0 = x
    generalize v.getD i 0 = y
    have e3 : q * (vk v i + pB i * y) = q * vk v i + pB i * (y * q) := by rw [Int.mul_add, Int.mul_left_comm, Int.mul_comm q y]
    rw [e3]
    generalize pB i = p
    generalize y * q = z
    generalize q * vk v i = t
    have e4 : p * (x - (z + c - 18446744073709551616 * c2) - b + 18446744073709551616 * b2) = p * x - p * z - p * c - p * b + 18446744073709551616 * (p * (c2 + b2)) := by
      simp only [Int.mul_add, Int.mul_sub, Int.mul_left_comm p 18446744073709551616]
      omega
    rw [e4, Int.mul_add p c b, Int.mul_assoc]
    generalize p * (c2 + b2) = w
    generalize p * x = g1
    generalize p * z = g2
    generalize p * c = g3
    generalize p * b = g4
    omega
def msL (u v : List Int) (q : Int) : List Int := (msN u v q v.length).1 ++ [sbD (u.getD v.length 0) (msN u v q v.length).2.1 (msN u v q v.length).2.2]
def msB (u v : List Int) (q : Int) : Int := sbB (u.getD v.length 0) (msN u v q v.length).2.1 (msN u v q v.length).2.2
theorem M5 (u v : List Int) (q : Int) : (msL u v q).length = v.length + 1 := by simp [msL, Gs]
theorem Ahg {u v : List Int} {q : Int} (hu : Av u) (hv : Av v) (hq0 : 0 ≤ q) (hq : q < 18446744073709551616) : Av (msL u v q) := by
  have hc := Ad0 (u := u) hv hq0 hq v.length
  have hb := Ad1 u v q v.length
  have hx := A2 hu v.length
  have h := Aa6 hx.1 hx.2 hc.1 hc.2 hb.1 hb.2
  exact D9 (Ahf hu hv hq0 hq _) h.1 h.2
theorem Ad2 {u v : List Int} {q : Int} (hl : u.length = v.length + 1) : vl (msL u v q) = vl u - q * vl v + pB (v.length + 1) * msB u v q := by
  unfold msL msB
  have h := Vf u v q v.length
  have hu : vl u = vk u v.length + pB v.length * u.getD v.length 0 := by rw [← C4, Du (by omega)]
  rw [D8, Gs, h, Agq, hu, Du (Nat.le_refl v.length)]
  generalize sbB (u.getD v.length 0) (msN u v q v.length).2.1 (msN u v q v.length).2.2 = b2
  generalize (msN u v q v.length).2.1 = c
  generalize (msN u v q v.length).2.2 = b
  generalize u.getD v.length 0 = x
  have e1 : vl [x - c - b + 18446744073709551616 * b2] = x - c - b + 18446744073709551616 * b2 := by simp [vl]
  rw [e1]
  simp only [pB]
  have hB : Bs = 18446744073709551616 := rfl
  rw [hB]
  generalize pB v.length = p
  have e4 : p * (x - c - b + 18446744073709551616 * b2) = p * x - p * c - p * b + 18446744073709551616 * (p * b2) := by
    simp only [Int.mul_add, Int.mul_sub, Int.mul_left_comm p 18446744073709551616]
  rw [e4, Int.mul_add, Int.mul_assoc]
  generalize p * b2 = w
  generalize p * x = g1
  generalize p * c = g3
  generalize p * b = g4
  omega
def bkL (l v : List Int) : List Int := (adN l v v.length).1 ++ [(l.getD v.length 0 + (adN l v v.length).2) % 18446744073709551616]
theorem Np (l v : List Int) : (bkL l v).length = v.length + 1 := by simp [bkL, Dc]
theorem Akn {l v : List Int} : Av (bkL l v) := D9 (Qu _) (by omega) (by omega)
theorem Ae6 {l v : List Int} (hl : l.length = v.length + 1) : ∃ e, vl (bkL l v) = vl l + vl v - pB (v.length + 1) * e := by
  refine ⟨(l.getD v.length 0 + (adN l v v.length).2) / 18446744073709551616, ?_⟩
  unfold bkL
  have h := Qt l v v.length
  have hu : vl l = vk l v.length + pB v.length * l.getD v.length 0 := by rw [← C4, Du (by omega)]
  rw [Du (Nat.le_refl v.length)] at h
  rw [D8, Dc, hu]
  generalize l.getD v.length 0 = x
  generalize (adN l v v.length).2 = c at h ⊢
  have e1 : vl [(x + c) % 18446744073709551616] = x + c - 18446744073709551616 * ((x + c) / 18446744073709551616) := by simp only [vl]; omega
  rw [e1]
  simp only [pB]
  have hB : Bs = 18446744073709551616 := rfl
  rw [hB]
  generalize (x + c) / 18446744073709551616 = e
  generalize pB v.length = p at h ⊢
  have e4 : p * (x + c - 18446744073709551616 * e) = p * x + p * c - 18446744073709551616 * (p * e) := by
    simp only [Int.mul_add, Int.mul_sub, Int.mul_left_comm p 18446744073709551616]
  rw [e4, Int.mul_assoc]
  generalize p * e = w
  omega
def gsQ (u v : List Int) (q : Int) : Int := q - msB u v q
def gsL (u v : List Int) (q : Int) : List Int := if msB u v q = 0 then msL u v q else bkL (msL u v q) v
theorem Abu {u v : List Int} {q : Int} (hu : Av u) (hv : Av v) (hl : u.length = v.length + 1) (hv0 : 0 < vl v) (hq0 : 0 ≤ q) (hq : q < 18446744073709551616)
    (h1 : vl u / vl v ≤ q) (h2 : q ≤ vl u / vl v + 1) :
    gsQ u v q = vl u / vl v ∧ (gsL u v q).length = v.length + 1 ∧ Av (gsL u v q) ∧ vl (gsL u v q) = vl u % vl v := by
  have hm := Ad2 (u := u) (v := v) (q := q) hl
  have um := Ahg (u := u) (v := v) (q := q) hu hv hq0 hq
  have b0 := A4 um
  have b1 := E2 um
  rw [M5] at b1
  have hbb := Uj (u.getD v.length 0) (msN u v q v.length).2.1 (msN u v q v.length).2.2
  have ed := Int.emod_add_mul_ediv (vl u) (vl v)
  have r0 := Int.emod_nonneg (vl u) (Int.ne_of_gt hv0)
  have r1 := Int.emod_lt_of_pos (vl u) hv0
  have up := A4 hu
  have ul := E2 hu
  have vu := A4 hv
  have vlt := E2 hv
  have hpm := Fs (show v.length ≤ v.length + 1 by omega)
  rw [hl] at ul
  unfold gsQ gsL
  by_cases hb : msB u v q = 0
  · rw [if_pos hb, hb]
    rw [hb, Int.mul_zero] at hm
    have hq1 : q = vl u / vl v := by
      rcases Int.lt_or_le (vl u / vl v) q with hlt | hle
      · exfalso
        have hq2 : q = vl u / vl v + 1 := by omega
        have hqv : q * vl v = vl v * (vl u / vl v) + vl v := by rw [hq2, Int.add_mul, Int.one_mul, Int.mul_comm (vl u / vl v)]
        omega
      · omega
    have hqv : q * vl v = vl v * (vl u / vl v) := by rw [← hq1, Int.mul_comm]
    exact ⟨by omega, M5 _ _ _, um, by omega⟩
  · have hb1 : msB u v q = 1 := by unfold msB at hb ⊢; omega
    rw [if_neg hb, hb1]
    rw [hb1, Int.mul_one] at hm
    have hq1 : q = vl u / vl v + 1 := by
      rcases Int.lt_or_le (vl u / vl v) q with hlt | hle
      · omega
      · exfalso
        have hq2 : q = vl u / vl v := by omega
        have hqv : q * vl v = vl v * (vl u / vl v) := by rw [hq2, Int.mul_comm]
        omega
    obtain ⟨e, he⟩ := Ae6 (l := msL u v q) (v := v) (M5 _ _ _)
    have ub : Av (bkL (msL u v q) v) := Akn
    have c0 := A4 ub
    have c1 := E2 ub
    rw [Np] at c1
    have hqv : q * vl v = vl v * (vl u / vl v) + vl v := by rw [hq1, Int.add_mul, Int.one_mul, Int.mul_comm (vl u / vl v)]
    have he1 : e = 1 := by
      have hpp := Dh (v.length + 1)
      rcases Int.lt_trichotomy e 1 with h | h | h
      · exfalso
        have : pB (v.length + 1) * e ≤ pB (v.length + 1) * 0 := Int.mul_le_mul_of_nonneg_left (by omega) (by omega)
        omega
      · exact h
      · exfalso
        have : pB (v.length + 1) * 2 ≤ pB (v.length + 1) * e := Int.mul_le_mul_of_nonneg_left (by omega) (by omega)
        omega
    rw [he1, Int.mul_one] at he
    exact ⟨by omega, Np _ _, ub, by omega⟩


theorem V5 {P V U q r v1 v2 u0 u1 u2 lv lu : Int} (hP : 0 < P) (hV : V = lv + P * (v2 + 18446744073709551616 * v1)) (hU : U = lu + P * (u2 + 18446744073709551616 * u1 + 340282366920938463463374607431768211456 * u0))
    (h1 : 0 ≤ lv) (h2 : lu < P) (h3 : 0 ≤ v2) (h4 : u2 < 18446744073709551616) (hq : 0 ≤ q) (he : q * v1 + r = u0 * 18446744073709551616 + u1) (hr : r < v1) : U < (q + 1) * V := by
  have f1 : 0 ≤ P * (q * v1 + v1 - u0 * 18446744073709551616 - u1 - 1) := Int.mul_nonneg (by omega) (by omega)
  have f4 : 0 ≤ P * v2 := Int.mul_nonneg (by omega) h3
  have f2 : 0 ≤ (q + 1) * (V - P * (18446744073709551616 * v1)) := Int.mul_nonneg (by omega) (by rw [hV, Int.mul_add]; omega)
  have f3 : 0 ≤ P * (18446744073709551615 - u2) := Int.mul_nonneg (by omega) (by omega)
  have e1 : P * (q * v1 + v1 - u0 * 18446744073709551616 - u1 - 1) = P * (q * v1) + P * v1 - 18446744073709551616 * (P * u0) - P * u1 - P := by
    rw [Int.mul_comm u0]; simp only [Int.mul_add, Int.mul_sub, Int.mul_left_comm P 18446744073709551616, Int.mul_one]
  have e2 : (q + 1) * (V - P * (18446744073709551616 * v1)) = q * V + V - 18446744073709551616 * (P * (q * v1)) - 18446744073709551616 * (P * v1) := by
    rw [Int.mul_left_comm P 18446744073709551616, Int.mul_sub, Int.add_mul, Int.add_mul, Int.mul_left_comm q 18446744073709551616, Int.mul_left_comm q P]; omega
  have e3 : P * (18446744073709551615 - u2) = 18446744073709551615 * P - P * u2 := by rw [Int.mul_sub, Int.mul_comm P]
  have e4 : P * (u2 + 18446744073709551616 * u1 + 340282366920938463463374607431768211456 * u0) = P * u2 + 18446744073709551616 * (P * u1) + 340282366920938463463374607431768211456 * (P * u0) := by
    simp only [Int.mul_add, Int.mul_left_comm P 18446744073709551616, Int.mul_left_comm P 340282366920938463463374607431768211456]
  rw [e1] at f1; rw [e2] at f2; rw [e3] at f3; rw [e4] at hU
  rw [Int.add_mul, Int.one_mul]
  omega
theorem Zk {P V U q r v1 v2 u0 u1 u2 lv lu : Int} (hP : 0 < P) (hV : V = lv + P * (v2 + 18446744073709551616 * v1)) (hU : U = lu + P * (u2 + 18446744073709551616 * u1 + 340282366920938463463374607431768211456 * u0))
    (h1 : 0 ≤ lv) (h2 : lu < P) (hq : 0 ≤ q) (he : q * v1 + r = u0 * 18446744073709551616 + u1) (hc : r * 18446744073709551616 + u2 < q * v2) : U < q * V := by
  have f1 : 0 ≤ P * (q * v2 - r * 18446744073709551616 - u2 - 1) := Int.mul_nonneg (by omega) (by omega)
  have f2 : 0 ≤ q * lv := Int.mul_nonneg hq h1
  have f3 : P * (q * v1 + r) = P * (u0 * 18446744073709551616 + u1) := by rw [he]
  have e1 : P * (q * v2 - r * 18446744073709551616 - u2 - 1) = P * (q * v2) - 18446744073709551616 * (P * r) - P * u2 - P := by
    rw [Int.mul_comm r]; simp only [Int.mul_add, Int.mul_sub, Int.mul_left_comm P 18446744073709551616, Int.mul_one]
  have e3 : P * (u0 * 18446744073709551616 + u1) = 18446744073709551616 * (P * u0) + P * u1 := by rw [Int.mul_comm u0, Int.mul_add, Int.mul_left_comm P]
  have e4 : P * (u2 + 18446744073709551616 * u1 + 340282366920938463463374607431768211456 * u0) = P * u2 + 18446744073709551616 * (P * u1) + 340282366920938463463374607431768211456 * (P * u0) := by
    simp only [Int.mul_add, Int.mul_left_comm P 18446744073709551616, Int.mul_left_comm P 340282366920938463463374607431768211456]
  have e5 : q * V = q * lv + P * (q * v2) + 18446744073709551616 * (P * (q * v1)) := by
    rw [hV, Int.mul_add, Int.mul_add P, Int.mul_add q, Int.mul_left_comm q P, Int.mul_left_comm P 18446744073709551616, Int.mul_left_comm q 18446744073709551616, Int.mul_left_comm q P v1]; omega
  rw [e1] at f1; rw [Int.mul_add, e3] at f3; rw [e4] at hU; rw [e5]
  omega
theorem Zl {P V U q r v1 v2 u0 u1 u2 lv lu : Int} (hP : 0 < P) (hV : V = lv + P * (v2 + 18446744073709551616 * v1)) (hU : U = lu + P * (u2 + 18446744073709551616 * u1 + 340282366920938463463374607431768211456 * u0))
    (h1 : 0 ≤ lv) (h2 : lv < P) (h3 : 0 ≤ lu) (h4 : 0 ≤ v2) (hv : 1 ≤ v1) (hq : 0 ≤ q) (hq1 : q < 18446744073709551616) (he : q * v1 + r = u0 * 18446744073709551616 + u1) (hc : q * v2 ≤ r * 18446744073709551616 + u2) : (q - 1) * V ≤ U := by
  have f1 : 0 ≤ P * (r * 18446744073709551616 + u2 - q * v2) := Int.mul_nonneg (by omega) (by omega)
  have f2 : q * lv ≤ 18446744073709551615 * P := Int.mul_le_mul (by omega) (by omega) h1 (by omega)
  have f3 : P * (q * v1 + r) = P * (u0 * 18446744073709551616 + u1) := by rw [he]
  have f4 : 0 ≤ P * (v1 - 1) := Int.mul_nonneg (by omega) (by omega)
  have f5 : 0 ≤ P * v2 := Int.mul_nonneg (by omega) h4
  have e1 : P * (r * 18446744073709551616 + u2 - q * v2) = 18446744073709551616 * (P * r) + P * u2 - P * (q * v2) := by
    rw [Int.mul_comm r]; simp only [Int.mul_add, Int.mul_sub, Int.mul_left_comm P 18446744073709551616]
  have e3 : P * (u0 * 18446744073709551616 + u1) = 18446744073709551616 * (P * u0) + P * u1 := by rw [Int.mul_comm u0, Int.mul_add, Int.mul_left_comm P]
  have e4 : P * (u2 + 18446744073709551616 * u1 + 340282366920938463463374607431768211456 * u0) = P * u2 + 18446744073709551616 * (P * u1) + 340282366920938463463374607431768211456 * (P * u0) := by
    simp only [Int.mul_add, Int.mul_left_comm P 18446744073709551616, Int.mul_left_comm P 340282366920938463463374607431768211456]
  have e5 : q * V = q * lv + P * (q * v2) + 18446744073709551616 * (P * (q * v1)) := by
    rw [hV, Int.mul_add, Int.mul_add P, Int.mul_add q, Int.mul_left_comm q P, Int.mul_left_comm P 18446744073709551616, Int.mul_left_comm q 18446744073709551616, Int.mul_left_comm q P v1]; omega
  have e6 : P * (v2 + 18446744073709551616 * v1) = P * v2 + 18446744073709551616 * (P * v1) := by rw [Int.mul_add, Int.mul_left_comm P]
  rw [e1] at f1; rw [Int.mul_add, e3] at f3; rw [e4] at hU; rw [Int.mul_sub, Int.mul_one] at f4
  rw [Int.sub_mul, Int.one_mul, e5]
  rw [e6] at hV
  omega
theorem Aem {P V U v1 v2 u0 u1 u2 lv lu : Int} (hP : 0 < P) (hV : V = lv + P * (v2 + 18446744073709551616 * v1)) (hU : U = lu + P * (u2 + 18446744073709551616 * u1 + 340282366920938463463374607431768211456 * u0))
    (h2 : lv < P) (h3 : 0 ≤ lu) (h4 : 0 ≤ u2) (h5 : 0 ≤ u1) (h6 : v2 < 18446744073709551616) (hlt : U < V * 18446744073709551616) : u0 ≤ v1 := by
  rcases Int.lt_or_le v1 u0 with h | h
  · exfalso
    have f1 : 0 ≤ P * (u0 - v1 - 1) := Int.mul_nonneg (by omega) (by omega)
    have f2 : 0 ≤ P * u2 := Int.mul_nonneg (by omega) h4
    have f3 : 0 ≤ P * u1 := Int.mul_nonneg (by omega) h5
    have f4 : 0 ≤ P * (18446744073709551615 - v2) := Int.mul_nonneg (by omega) (by omega)
    have e4 : P * (u2 + 18446744073709551616 * u1 + 340282366920938463463374607431768211456 * u0) = P * u2 + 18446744073709551616 * (P * u1) + 340282366920938463463374607431768211456 * (P * u0) := by
      simp only [Int.mul_add, Int.mul_left_comm P 18446744073709551616, Int.mul_left_comm P 340282366920938463463374607431768211456]
    have e6 : P * (v2 + 18446744073709551616 * v1) = P * v2 + 18446744073709551616 * (P * v1) := by rw [Int.mul_add, Int.mul_left_comm P]
    rw [e4] at hU; rw [e6] at hV
    simp only [Int.mul_sub, Int.mul_one] at f1 f4
    rw [Int.mul_comm P] at f4
    omega
  · exact h
theorem Kj {v : List Int} {n : Nat} (hn : v.length = n + 2) : vl v = vk v n + pB n * (v.getD n 0 + 18446744073709551616 * v.getD (n + 1) 0) := by
  have h1 : vl v = vk v (n + 2) := (Du (by omega)).symm
  rw [h1, C4, C4]
  simp only [pB]
  have hB : Bs = 18446744073709551616 := rfl
  rw [hB, Int.mul_add, Int.mul_left_comm (pB n) 18446744073709551616, ← Int.mul_assoc 18446744073709551616]
  omega
theorem Ic {u : List Int} {n : Nat} (hn : u.length = n + 3) : vl u = vk u n + pB n * (u.getD n 0 + 18446744073709551616 * u.getD (n + 1) 0 + 340282366920938463463374607431768211456 * u.getD (n + 2) 0) := by
  have h1 : vl u = vk u (n + 3) := (Du (by omega)).symm
  rw [h1, C4, C4, C4]
  simp only [pB]
  have hB : Bs = 18446744073709551616 := rfl
  rw [hB, Int.mul_add, Int.mul_add, Int.mul_left_comm (pB n) 18446744073709551616, Int.mul_left_comm (pB n) 340282366920938463463374607431768211456]
  simp only [Int.mul_assoc]
  omega
theorem Kf {v : List Int} (hv : Av v) {n : Nat} (h : n ≤ v.length) : 0 ≤ vk v n ∧ vk v n < pB n := by
  refine ⟨Ia hv n, ?_⟩
  have := E2 (Er hv n)
  rwa [List.length_take, Nat.min_eq_left h] at this
def Est (u v : List Int) (n : Nat) (q r : Int) : Prop :=
  q * v.getD (n + 1) 0 + r = u.getD (n + 2) 0 * 18446744073709551616 + u.getD (n + 1) 0 ∧ vl u / vl v ≤ q ∧ 0 ≤ q ∧ q < 18446744073709551616 ∧ 0 ≤ r
structure GuP (u v : List Int) (n : Nat) : Prop where
  uu : Av u
  uv : Av v
  lu : u.length = n + 3
  lv : v.length = n + 2
  lt : vl u < vl v * 18446744073709551616
  top : 1 ≤ v.getD (n + 1) 0
theorem GuP.pos {u v : List Int} {n : Nat} (h : GuP u v n) : 0 < vl v := by
  have h1 := Kj h.lv
  have b := Kf h.uv (n := n) (by rw [h.lv]; omega)
  have x := A2 h.uv n
  have hp := Dh n
  have t := h.top
  have : 0 < pB n * (v.getD n 0 + 18446744073709551616 * v.getD (n + 1) 0) := Int.mul_pos hp (by omega)
  omega
theorem GuP.q_lt {u v : List Int} {n : Nat} (h : GuP u v n) : vl u / vl v < 18446744073709551616 := Int.ediv_lt_of_lt_mul h.pos (by rw [Int.mul_comm]; exact h.lt)
theorem GuP.q_nn {u v : List Int} {n : Nat} (h : GuP u v n) : 0 ≤ vl u / vl v := Int.ediv_nonneg (A4 h.uu) (Int.le_of_lt h.pos)
theorem GuP.u_top {u v : List Int} {n : Nat} (h : GuP u v n) : u.getD (n + 2) 0 ≤ v.getD (n + 1) 0 := by
  have bv := Kf h.uv (n := n) (by rw [h.lv]; omega)
  have bu := Kf h.uu (n := n) (by rw [h.lu]; omega)
  exact Aem (Dh n) (Kj h.lv) (Ic h.lu) bv.2 bu.1 (A2 h.uu n).1 (A2 h.uu (n + 1)).1 (A2 h.uv n).2 h.lt
theorem GuP.first_eq {u v : List Int} {n : Nat} (h : GuP u v n) (hc : v.getD (n + 1) 0 ≤ u.getD (n + 2) 0) : Est u v n 18446744073709551615 (u.getD (n + 1) 0 + v.getD (n + 1) 0) := by
  have t := h.u_top
  have := h.q_lt
  have x := A2 h.uu (n + 1)
  have y := A2 h.uv (n + 1)
  exact ⟨by omega, by omega, by omega, by omega, by omega⟩
theorem GuP.first_div {u v : List Int} {n : Nat} (h : GuP u v n) (hc : u.getD (n + 2) 0 < v.getD (n + 1) 0) :
    Est u v n ((u.getD (n + 2) 0 * 18446744073709551616 + u.getD (n + 1) 0) / v.getD (n + 1) 0) ((u.getD (n + 2) 0 * 18446744073709551616 + u.getD (n + 1) 0) % v.getD (n + 1) 0) := by
  have bv := Kf h.uv (n := n) (by rw [h.lv]; omega)
  have bu := Kf h.uu (n := n) (by rw [h.lu]; omega)
  have x := A2 h.uu (n + 1)
  have x2 := A2 h.uu (n + 2)
  have t := h.top
  have e := Int.emod_add_mul_ediv (u.getD (n + 2) 0 * 18446744073709551616 + u.getD (n + 1) 0) (v.getD (n + 1) 0)
  have r1 := Int.emod_lt_of_pos (u.getD (n + 2) 0 * 18446744073709551616 + u.getD (n + 1) 0) (show 0 < v.getD (n + 1) 0 by omega)
  have r0 := Int.emod_nonneg (u.getD (n + 2) 0 * 18446744073709551616 + u.getD (n + 1) 0) (show v.getD (n + 1) 0 ≠ 0 by omega)
  have q0 : 0 ≤ (u.getD (n + 2) 0 * 18446744073709551616 + u.getD (n + 1) 0) / v.getD (n + 1) 0 := Int.ediv_nonneg (by omega) (by omega)
  have q1 : (u.getD (n + 2) 0 * 18446744073709551616 + u.getD (n + 1) 0) / v.getD (n + 1) 0 < 18446744073709551616 := Int.ediv_lt_of_lt_mul (by omega) (by omega)
  generalize (u.getD (n + 2) 0 * 18446744073709551616 + u.getD (n + 1) 0) / v.getD (n + 1) 0 = q at *
  generalize hr : (u.getD (n + 2) 0 * 18446744073709551616 + u.getD (n + 1) 0) % v.getD (n + 1) 0 = r at *
  rw [Int.mul_comm] at e
  have hh := V5 (Dh n) (Kj h.lv) (Ic h.lu) bv.1 bu.2 (A2 h.uv n).1 (A2 h.uu n).2 q0 (by omega) r1
  refine ⟨by omega, ?_, q0, q1, r0⟩
  exact Int.le_of_lt_add_one (Int.ediv_lt_of_lt_mul h.pos hh)
theorem GuP.next {u v : List Int} {n : Nat} {q r : Int} (h : GuP u v n) (he : Est u v n q r) (hc : r * 18446744073709551616 + u.getD n 0 < q * v.getD n 0) : Est u v n (q - 1) (r + v.getD (n + 1) 0) ∧ 1 ≤ q := by
  obtain ⟨e1, e2, e3, e4, e5⟩ := he
  have bv := Kf h.uv (n := n) (by rw [h.lv]; omega)
  have bu := Kf h.uu (n := n) (by rw [h.lu]; omega)
  have y := A2 h.uv (n + 1)
  have hh := Zk (Dh n) (Kj h.lv) (Ic h.lu) bv.1 bu.2 e3 e1 hc
  have := Int.ediv_lt_of_lt_mul h.pos hh
  have := h.q_nn
  refine ⟨⟨by rw [Int.sub_mul]; omega, by omega, by omega, by omega, by omega⟩, by omega⟩
theorem GuP.last {u v : List Int} {n : Nat} {q r : Int} (h : GuP u v n) (he : Est u v n q r) (hc : q * v.getD n 0 ≤ r * 18446744073709551616 + u.getD n 0) : q ≤ vl u / vl v + 1 := by
  obtain ⟨e1, e2, e3, e4, e5⟩ := he
  have bv := Kf h.uv (n := n) (by rw [h.lv]; omega)
  have bu := Kf h.uu (n := n) (by rw [h.lu]; omega)
  have hh := Zl (Dh n) (Kj h.lv) (Ic h.lu) bv.1 bv.2 bu.1 (A2 h.uv n).1 h.top e3 e4 e1 hc
  have := (Int.le_ediv_iff_mul_le h.pos).2 hh
  omega
theorem GuP.over {u v : List Int} {n : Nat} {q r : Int} (h : GuP u v n) (he : Est u v n q r) (hc : 18446744073709551616 ≤ r) : q ≤ vl u / vl v + 1 := by
  refine h.last he ?_
  obtain ⟨e1, e2, e3, e4, e5⟩ := he
  have x := A2 h.uv n
  have y := A2 h.uu n
  have := Vd e3 e4 x.1 x.2
  omega
theorem GuP.fin {u v : List Int} {n : Nat} {q r : Int} (h : GuP u v n) (he : Est u v n q r) (hc : q ≤ vl u / vl v + 1) : gsQ u v q = vl u / vl v ∧ (gsL u v q).length = n + 3 ∧ Av (gsL u v q) ∧ vl (gsL u v q) = vl u % vl v := by
  obtain ⟨e1, e2, e3, e4, e5⟩ := he
  have := Abu h.uu h.uv (by rw [h.lu, h.lv]) h.pos e3 e4 e2 hc
  rw [h.lv] at this
  exact this
def Hf (N y u q r : Int) : Prop := q * (y / 4294967296) + r = u ∧ N / y ≤ q ∧ q ≤ 4294967297 ∧ 0 ≤ r
structure HfP (N y u w : Int) : Prop where
  en : N = u * 4294967296 + w
  w0 : 0 ≤ w
  w1 : w < 4294967296
  u0 : 0 ≤ u
  lt : u < y
  y0 : 9223372036854775808 ≤ y
  y1 : y < 18446744073709551616
theorem HfP.q_lt {N y u w : Int} (h : HfP N y u w) : N / y < 4294967296 := Int.ediv_lt_of_lt_mul (by have := h.y0; omega) (by have := h.en; have := h.lt; have := h.w1; omega)
theorem HfP.q_nn {N y u w : Int} (h : HfP N y u w) : 0 ≤ N / y := Int.ediv_nonneg (by have := h.en; have := h.w0; have := h.u0; omega) (by have := h.y0; omega)
theorem HfP.first {N y u w : Int} (h : HfP N y u w) : Hf N y u (u / (y / 4294967296)) (u - u / (y / 4294967296) * (y / 4294967296)) ∧ 0 ≤ u / (y / 4294967296) ∧ u - u / (y / 4294967296) * (y / 4294967296) < 4294967296 := by
  obtain ⟨he, w0, w1, u0, hlt, y0, y1⟩ := h
  unfold Hf
  have hy : y = y / 4294967296 * 4294967296 + y % 4294967296 := by omega
  have hb : 0 ≤ y % 4294967296 ∧ y % 4294967296 < 4294967296 := by omega
  have ha : 2147483648 ≤ y / 4294967296 ∧ y / 4294967296 < 4294967296 := by omega
  generalize y / 4294967296 = a at *
  generalize y % 4294967296 = b at *
  have e := Int.emod_add_mul_ediv u a
  have r1 := Int.emod_lt_of_pos u (show 0 < a by omega)
  have r0 := Int.emod_nonneg u (show a ≠ 0 by omega)
  have q0 : 0 ≤ u / a := Int.ediv_nonneg u0 (by omega)
  generalize u / a = q at *
  generalize u % a = r at *
  rw [Int.mul_comm] at e
  refine ⟨⟨by omega, ?_, ?_, by omega⟩, q0, by omega⟩
  · refine Int.le_of_lt_add_one (Int.ediv_lt_of_lt_mul (by omega) ?_)
    have f1 : (q + 1) * y = 4294967296 * (q * a) + 4294967296 * a + (q + 1) * b := by
      rw [hy, Int.mul_add, Int.add_mul q 1 (a * 4294967296), ← Int.mul_assoc]; omega
    have f2 : 0 ≤ (q + 1) * b := Int.mul_nonneg (by omega) hb.1
    omega
  · rcases Int.lt_or_le 4294967297 q with h | h
    · exfalso
      have f : 4294967298 * a ≤ q * a := Int.mul_le_mul_of_nonneg_right (by omega) (by omega)
      omega
    · exact h
theorem HfP.next {N y u w q r : Int} (h : HfP N y u w) (hf : Hf N y u q r) (hc : 4294967296 ≤ q ∨ 4294967296 * r + w < q * (y % 4294967296)) : Hf N y u (q - 1) (r + y / 4294967296) ∧ 1 ≤ q ∧ q - 1 ≤ 4294967296 := by
  obtain ⟨e1, e2, e3, e4⟩ := hf
  have hq := h.q_lt
  have hn := h.q_nn
  obtain ⟨he, w0, w1, u0, hlt, y0, y1⟩ := h
  have hlt2 : N / y < q := by
    rcases hc with hc | hc
    · omega
    · refine Int.ediv_lt_of_lt_mul (by omega) ?_
      have hy : q * y = q * (y / 4294967296 * 4294967296 + y % 4294967296) := by congr 1; omega
      rw [hy, Int.mul_add, ← Int.mul_assoc]
      omega
  exact ⟨⟨by rw [Int.sub_mul]; omega, by omega, by omega, by omega⟩, by omega, by omega⟩
theorem HfP.last {N y u w q r : Int} (h : HfP N y u w) (hf : Hf N y u q r) (hc : q * (y % 4294967296) ≤ 4294967296 * r + w) : q = N / y := by
  obtain ⟨e1, e2, e3, e4⟩ := hf
  obtain ⟨he, w0, w1, u0, hlt, y0, y1⟩ := h
  have : q ≤ N / y := by
    refine (Int.le_ediv_iff_mul_le (by omega)).2 ?_
    have hy : q * y = q * (y / 4294967296 * 4294967296 + y % 4294967296) := by congr 1; omega
    rw [hy, Int.mul_add, ← Int.mul_assoc]
    omega
  omega
theorem HfP.over {N y u w q r : Int} (h : HfP N y u w) (hf : Hf N y u q r) (hq : 0 ≤ q) (hq1 : q ≤ 4294967296) (hc : 4294967296 ≤ r) : q = N / y := by
  refine h.last hf ?_
  obtain ⟨he, w0, w1, u0, hlt, y0, y1⟩ := h
  have f : q * (y % 4294967296) ≤ 4294967296 * 4294967295 := Int.mul_le_mul hq1 (by omega) (by omega) (by omega)
  omega
theorem HfP.rest {N y u w : Int} (h : HfP N y u w) : IntKind.u64.wrap (IntKind.u64.wrap (IntKind.u64.wrap (u * 4294967296) + w) - IntKind.u64.wrap (N / y * y)) = N % y := by
  have e := Int.emod_add_mul_ediv N y
  have r1 := Int.emod_lt_of_pos N (show 0 < y by have := h.y0; omega)
  have r0 := Int.emod_nonneg N (show y ≠ 0 by have := h.y0; omega)
  have := h.y1
  have := h.en
  simp only [Dv]
  rw [Int.mul_comm] at e
  generalize N / y * y = z at *
  generalize N % y = r at *
  omega
theorem HfP.rest_lt {N y u w : Int} (h : HfP N y u w) : 0 ≤ N % y ∧ N % y < y :=
  ⟨Int.emod_nonneg N (by have := h.y0; omega), Int.emod_lt_of_pos N (by have := h.y0; omega)⟩
theorem Yn {k : IntKind} {x y : Int} : Gm .or k x y = Gm .or k y x := by
  unfold Gm; simp only [BitVec.or_comm]
theorem Zw {hi lo y : Int} {s : Nat} (hs : s < 64) (h0 : 0 ≤ hi) (hlt : hi < y) (l0 : 0 ≤ lo) (l1 : lo < 18446744073709551616)
    (y0 : 9223372036854775808 ≤ y * 2 ^ s) (y1 : y * 2 ^ s < 18446744073709551616) :
    let Y := y * 2 ^ s
    let U := hi * 2 ^ s + hiS lo s
    let w1 := loS lo s / 4294967296
    let w0 := loS lo s % 4294967296
    let N1 := U * 4294967296 + w1
    let N2 := N1 % Y * 4294967296 + w0
    HfP N1 Y U w1 ∧ HfP N2 Y (N1 % Y) w0 ∧ N1 / Y * 4294967296 + N2 / Y = (hi * 18446744073709551616 + lo) / y ∧ N2 % Y / 2 ^ s = (hi * 18446744073709551616 + lo) % y := by
  intro Y U w1 w0 N1 N2
  have hb := K9 (s := s) (Nat.le_of_lt hs) l0 l1
  have lb := @L2 lo s
  have hp := H3 s
  have hU0 : 0 ≤ U := by
    have : 0 ≤ hi * 2 ^ s := Int.mul_nonneg h0 (by omega)
    show 0 ≤ hi * 2 ^ s + hiS lo s
    omega
  have hU1 : U < Y := by
    have h1 : (hi + 1) * 2 ^ s ≤ y * 2 ^ s := Int.mul_le_mul_of_nonneg_right (by omega) (by omega)
    rw [Int.add_mul, Int.one_mul] at h1
    show hi * 2 ^ s + hiS lo s < y * 2 ^ s
    omega
  have hP1 : HfP N1 Y U w1 := ⟨rfl, by show 0 ≤ loS lo s / 4294967296; omega, by show loS lo s / 4294967296 < 4294967296; omega, hU0, hU1, y0, y1⟩
  have hr := hP1.rest_lt
  have hP2 : HfP N2 Y (N1 % Y) w0 := ⟨rfl, by show 0 ≤ loS lo s % 4294967296; omega, by show loS lo s % 4294967296 < 4294967296; omega, hr.1, hr.2, y0, y1⟩
  refine ⟨hP1, hP2, ?_⟩
  have hr2 := hP2.rest_lt
  have e1 := Int.emod_add_mul_ediv N1 Y
  have e2 := Int.emod_add_mul_ediv N2 Y
  -- the whole: (hi B + lo) 2^s = Y (Q1 2^32 + Q0) + R0
  have eA : (hi * 18446744073709551616 + lo) * 2 ^ s = U * 18446744073709551616 + loS lo s := by
    have := Aj9 (x := lo) (s := s) (Nat.le_of_lt hs)
    rw [Int.add_mul, this]
    show hi * 18446744073709551616 * 2 ^ s + _ = (hi * 2 ^ s + hiS lo s) * 18446744073709551616 + _
    rw [Int.mul_right_comm]; omega
  have eB : N1 = U * 4294967296 + loS lo s / 4294967296 := rfl
  have eC : N2 = N1 % Y * 4294967296 + loS lo s % 4294967296 := rfl
  generalize hq1 : N1 / Y = Q1 at *
  generalize hq0 : N2 / Y = Q0 at *
  generalize hr1 : N1 % Y = R1 at *
  generalize hr0 : N2 % Y = R0 at *
  have eD : (hi * 18446744073709551616 + lo) * 2 ^ s = Y * (Q1 * 4294967296 + Q0) + R0 := by
    rw [eA, Int.mul_add, ← Int.mul_assoc]
    generalize Y * Q1 = z1 at *
    generalize Y * Q0 = z0 at *
    omega
  have eE : Y * (Q1 * 4294967296 + Q0) = y * (Q1 * 4294967296 + Q0) * 2 ^ s := by
    show y * 2 ^ s * _ = _
    rw [Int.mul_right_comm]
  rw [eE] at eD
  have hR : R0 = ((hi * 18446744073709551616 + lo) - y * (Q1 * 4294967296 + Q0)) * 2 ^ s := by rw [Int.sub_mul]; omega
  generalize hA : hi * 18446744073709551616 + lo = A at *
  generalize hQ : Q1 * 4294967296 + Q0 = Q at *
  generalize hT : A - y * Q = T at *
  have hT0 : 0 ≤ T := by
    rcases Int.lt_or_le T 0 with h | h
    · exfalso
      have := Int.mul_neg_of_neg_of_pos h hp
      omega
    · exact h
  have hT1 : T < y := by
    rcases Int.lt_or_le T y with h | h
    · exact h
    · exfalso
      have h1 : y * 2 ^ s ≤ T * 2 ^ s := Int.mul_le_mul_of_nonneg_right h (by omega)
      have h2 : R0 < y * 2 ^ s := hr2.2
      omega
  have hA2 : A = T + y * Q := by omega
  refine ⟨?_, ?_⟩
  · rw [hA2, Int.add_mul_ediv_left _ _ (by omega), Int.ediv_eq_zero_of_lt hT0 hT1]; omega
  · rw [hR, Int.mul_ediv_cancel _ (by omega), hA2, Int.add_mul_emod_self_left, Int.emod_eq_of_lt hT0 hT1]


theorem P1 {x d : Int} (h0 : 0 ≤ x) (h1 : x < 18446744073709551616) (hd : 0 < d) : IntKind.u64.wrap (Int.tdiv x d) = x / d := by
  rw [Int.tdiv_eq_ediv_of_nonneg h0]
  exact Bf (Int.ediv_nonneg h0 (by omega)) (Int.lt_of_le_of_lt (Int.ediv_le_self d h0) h1)
theorem T7 {x z : Int} (h0 : 0 ≤ x - z) (h1 : x - z < 18446744073709551616) : IntKind.u64.wrap (x - IntKind.u64.wrap z) = x - z := by
  simp only [Dv]; omega
theorem Ac1 {x Y : Int} {s : Nat} (h : s ≤ 64) (hY : x * 2 ^ s = Y) (h0 : 0 ≤ Y) (h1 : Y < 18446744073709551616) : IntKind.u64.wrap (x * 2 ^ min ((s : Int)).toNat 64) = Y := by
  rw [G4 h, hY]; omega
theorem Aj3 {hi lo : Int} {s : Nat} (h : s ≤ 64) (h0 : 0 ≤ hi * 2 ^ s) (h1 : hi * 2 ^ s < 18446744073709551616) (l0 : 0 ≤ lo) (l1 : lo < 18446744073709551616) (hh : 0 ≤ hi) :
    Gm .or .u64 (loS hi s) (lo / 2 ^ (64 - s)) = hi * 2 ^ s + hiS lo s := by
  have hb := K9 h l0 l1
  have e := (P5 h hb.1 hb.2 hh).1
  show Gm .or .u64 (loS hi s) (hiS lo s) = _
  rw [Yn, e]
  have : loS hi s = hi * 2 ^ s := by unfold loS; omega
  rw [this]; omega
theorem Ajw {x : Int} (h : 0 ≤ x) : x.fdiv (2 ^ min (1 : Int).toNat 64) = x / 2 := by
  obtain ⟨n, rfl⟩ := Int.eq_ofNat_of_zero_le h
  exact I2 (k := 2) (by decide)
theorem Ak2 {x : Int} : IntKind.u64.wrap (x * 2 ^ min (1 : Int).toNat 64) = x * 2 % 18446744073709551616 := Dv
theorem Wa {l : List Int} {i : Nat} {v : Int} (h : i < l.length) : (l.set ((0 + i) * 1) v).getD ((0 + i) * 1) 0 = v := by
  rw [Nat.zero_add, Nat.mul_one, List.getD_eq_getElem?_getD, List.getElem?_set_self h]; rfl
theorem Hd {a : List Int} {s i n : Nat} (h : i < n) : (D2 (dnN a s i) n).set ((0 + i) * 1) (dnD a s i) = D2 (dnN a s (i + 1)) n := by
  have e := @Gi (dnN a s i) n (dnD a s i) (by rw [Ga]; exact h)
  rw [Ga] at e
  rw [Nat.zero_add, Nat.mul_one]; exact e
theorem J9 {a : List Int} {s i : Nat} (h : a.length ≤ i + 1) : dnD a s i = a.getD i 0 / 2 ^ s := by
  unfold dnD loS; rw [Ds h]; simp
theorem Ahh (u v : List Int) (q : Int) : 0 ≤ msB u v q ∧ msB u v q ≤ 1 := Uj _ _ _
theorem Ahe {U u v : List Int} {q : Int} {j i : Nat} (h : j + i < U.length) : (rwJ U j (msN u v q i).1).set ((j + i) * 1) (sbD (u.getD i 0) (msS u v q i (msN u v q i).2.1) (msN u v q i).2.2) = rwJ U j (msN u v q (i + 1)).1 := by
  have e := @Mv U j (msN u v q i).1 (sbD (u.getD i 0) (msS u v q i (msN u v q i).2.1) (msN u v q i).2.2) (by rw [Gs]; exact h)
  rw [Gs] at e; exact e
theorem Ahi {U u v : List Int} {q : Int} {j : Nat} (h : j + v.length < U.length) : (rwJ U j (msN u v q v.length).1).set ((j + v.length) * 1) (sbD (u.getD v.length 0) (msN u v q v.length).2.1 (msN u v q v.length).2.2) = rwJ U j (msL u v q) := by
  have e := @Mv U j (msN u v q v.length).1 (sbD (u.getD v.length 0) (msN u v q v.length).2.1 (msN u v q v.length).2.2) (by rw [Gs]; exact h)
  rw [Gs] at e; exact e
theorem Aif {W l v : List Int} {j i : Nat} (h : j + i < W.length) : (rwJ W j (adN l v i).1).set ((j + i) * 1) ((l.getD i 0 + v.getD i 0 + (adN l v i).2) % 18446744073709551616) = rwJ W j (adN l v (i + 1)).1 := by
  have e := @Mv W j (adN l v i).1 ((l.getD i 0 + v.getD i 0 + (adN l v i).2) % 18446744073709551616) (by rw [Dc]; exact h)
  rw [Dc] at e; exact e
theorem Aia {U l v : List Int} {j : Nat} (hl : l.length = v.length + 1) (h : j + l.length ≤ U.length) : (rwJ (rwJ U j l) j (adN l v v.length).1).set ((j + v.length) * 1) ((l.getD v.length 0 + (adN l v v.length).2) % 18446744073709551616) = rwJ U j (bkL l v) := by
  have e := @Mv (rwJ U j l) j (adN l v v.length).1 ((l.getD v.length 0 + (adN l v v.length).2) % 18446744073709551616) (by rw [Dc, Kq h]; omega)
  rw [Dc] at e
  rw [e]
  show rwJ (rwJ U j l) j (bkL l v) = _
  rw [Ac6 (by rw [Np]; omega) h, Np, List.drop_of_length_le (by omega), List.append_nil]
theorem Ul {U : List Int} {j k : Nat} {l : List Int} (h : k < l.length) (hU : j + l.length ≤ U.length) : (rwJ U j l).getD (j + k) 0 = l.getD k 0 := by
  have e := Agr h hU; rwa [Nat.mul_one] at e
theorem Abf (s : Nat) : ((2 ^ s : Nat) : Int) = (2 : Int) ^ s := by rw [Int.natCast_pow]; rfl
theorem Abi {y : Int} (h0 : 0 < y) (h1 : y < 18446744073709551616) : 64 - bl 64 y.toNat < 64 ∧ 9223372036854775808 ≤ y * 2 ^ (64 - bl 64 y.toNat) ∧ y * 2 ^ (64 - bl 64 y.toNat) < 18446744073709551616 := by
  obtain ⟨n, rfl⟩ := Int.eq_ofNat_of_zero_le (Int.le_of_lt h0)
  rw [Int.toNat_natCast, No 64 n (by omega)]
  have hn : n ≠ 0 := by omega
  have hp := Eb hn
  have h64 : Cv n ≤ 64 := Ct.2 (by omega)
  have hlt : n < 2 ^ Cv n := Ct.1 (Nat.le_refl _)
  have hge : 2 ^ (Cv n - 1) ≤ n := by
    rcases Nat.lt_or_ge n (2 ^ (Cv n - 1)) with h | h
    · have := Ct.2 h; omega
    · exact h
  generalize Cv n = b at *
  have e1 : 2 ^ b * 2 ^ (64 - b) = 18446744073709551616 := by rw [← Nat.pow_add, show b + (64 - b) = 64 by omega]
  have e2 : 2 ^ (b - 1) * 2 ^ (64 - b) = 9223372036854775808 := by rw [← Nat.pow_add, show b - 1 + (64 - b) = 63 by omega]
  have f1 : n * 2 ^ (64 - b) < 2 ^ b * 2 ^ (64 - b) := Nat.mul_lt_mul_of_pos_right hlt (Nat.two_pow_pos _)
  have f2 : 2 ^ (b - 1) * 2 ^ (64 - b) ≤ n * 2 ^ (64 - b) := Nat.mul_le_mul_right _ hge
  rw [← Abf, ← Int.natCast_mul]
  omega
theorem Fo {l : List Int} {v : Int} (hu : Av l) (hv : vl l = v) : trm l = lm v := by
  have h0 := A4 hu
  exact Jt (by decide) (Pn hu) (by rw [Tn, hv]; omega)
theorem Akb {l : List Int} (hu : Av l) (ht : tpd l) : lm (vl l) = l := by rw [← Fo hu rfl, Kl ht]
def dvN (a : List Int) (d : Int) : Nat → List Int × Int
  | 0 => ([], 0)
  | j + 1 => (((dvN a d j).2 * 18446744073709551616 + a.getD (a.length - 1 - j) 0) / d :: (dvN a d j).1, ((dvN a d j).2 * 18446744073709551616 + a.getD (a.length - 1 - j) 0) % d)
theorem Gw (a : List Int) (d : Int) : ∀ j, (dvN a d j).1.length = j
  | 0 => rfl
  | j + 1 => by simp [dvN, Gw a d j]
theorem Zq {a : List Int} {d : Int} (hd : 0 < d) : ∀ j, 0 ≤ (dvN a d j).2 ∧ (dvN a d j).2 < d
  | 0 => ⟨Int.le_refl 0, hd⟩
  | j + 1 => ⟨Int.emod_nonneg _ (by omega), Int.emod_lt_of_pos _ hd⟩
theorem Aeu {a : List Int} {d : Int} (ha : Av a) (hd : 0 < d) : ∀ j, Av (dvN a d j).1
  | 0 => fun x hx => by simp [dvN] at hx
  | j + 1 => by
    have hr := Zq (a := a) hd j
    have hx := A2 ha (a.length - 1 - j)
    have ih := Aeu (d := d) ha hd j
    intro y hy
    simp only [dvN, List.mem_cons] at hy
    rcases hy with rfl | hy
    · exact ⟨Int.ediv_nonneg (by omega) (by omega), Int.ediv_lt_of_lt_mul hd (by
        generalize (dvN a d j).2 = r at *
        generalize a.getD (a.length - 1 - j) 0 = x at *
        omega)⟩
    · exact ih y hy
theorem V9 {a : List Int} {d : Int} : ∀ j, j ≤ a.length → vl (a.drop (a.length - j)) = d * vl (dvN a d j).1 + (dvN a d j).2
  | 0, _ => by rw [Nat.sub_zero, List.drop_length]; simp [dvN, vl]
  | j + 1, h => by
    have ih := V9 (a := a) (d := d) j (by omega)
    rw [L8 (l := a) (i := a.length - (j + 1)) (by omega), show a.length - (j + 1) + 1 = a.length - j by omega, show a.length - (j + 1) = a.length - 1 - j by omega]
    simp only [vl, dvN]
    rw [ih]
    have e := Int.emod_add_mul_ediv ((dvN a d j).2 * 18446744073709551616 + a.getD (a.length - 1 - j) 0) d
    have hB : Bs = 18446744073709551616 := rfl
    rw [hB, Int.mul_add 18446744073709551616, Int.mul_left_comm 18446744073709551616 d, Int.mul_add d]
    omega
theorem V8 {k : Nat} {Q : List Int} {v : Int} (hk : 0 < k) : (List.replicate k 0 ++ Q).set ((0 + (k - 1)) * 1) v = List.replicate (k - 1) 0 ++ v :: Q := by
  rw [Nat.zero_add, Nat.mul_one]
  obtain ⟨k, rfl⟩ : ∃ m, k = m + 1 := ⟨k - 1, by omega⟩
  rw [Nat.add_sub_cancel, List.replicate_succ', List.append_assoc, List.set_append_right _ _ (by simp)]
  simp
theorem Aet {k : Nat} {Q : List Int} {v : Int} : (List.replicate (k + 1) 0 ++ Q).set ((0 + k) * 1) v = List.replicate k 0 ++ v :: Q := V8 (k := k + 1) (Nat.succ_pos k)
theorem Ng {a : List Int} {d : Int} {k : Nat} (h0 : 0 < k) (hk : k ≤ a.length) : dvN a d (a.length - (k - 1)) = (((dvN a d (a.length - k)).2 * 18446744073709551616 + a.getD (k - 1) 0) / d :: (dvN a d (a.length - k)).1, ((dvN a d (a.length - k)).2 * 18446744073709551616 + a.getD (k - 1) 0) % d) := by
  rw [show a.length - (k - 1) = (a.length - k) + 1 by omega]
  simp only [dvN]
  rw [show a.length - 1 - (a.length - k) = k - 1 by omega]
theorem Ahr {a b : List Int} (ua : Av a) (ub : Av b) (tb : tpd b) (hb : b ≠ []) (h : vl b ≤ vl a) : b.length ≤ a.length := by
  rcases Nat.lt_or_ge a.length b.length with hl | hl
  · exfalso
    have h1 := E2 ua
    have h2 := Sv ub tb hb
    have h3 := Fs (show a.length ≤ b.length - 1 by omega)
    omega
  · exact hl
theorem K7 (v : Int) : Dn (lm v) = Al v := by
  rw [Ge (Cu v), Qa, Int.toNat_natCast]; rfl
theorem Afm : lm 0 = [] := E1
theorem Abv {a : List Int} {d : Int} (ha : Av a) (hd : 0 < d) : trm (dvN a d a.length).1 = lm (vl a / d) ∧ (dvN a d a.length).2 = vl a % d := by
  have h := V9 (a := a) (d := d) a.length (Nat.le_refl _)
  have hr := Zq (a := a) hd a.length
  rw [Nat.sub_self, List.drop_zero] at h
  refine ⟨Fo (Aeu ha hd _) ?_, ?_⟩
  · rw [h, Int.add_comm, Int.add_mul_ediv_left _ _ (by omega), Int.ediv_eq_zero_of_lt hr.1 hr.2]; omega
  · rw [h, Int.add_comm, Int.add_mul_emod_self_left, Int.emod_eq_of_lt hr.1 hr.2]
theorem Zh {v : Int} (h0 : 0 ≤ v) (h1 : v < 18446744073709551616) : (if v = 0 then [] else [v]) = lm v := by
  rw [Rx (by omega), show ((v.natAbs : Nat) : Int) = v by omega]; rfl
structure Kn (X : Int) (v : List Int) (N : Nat) (k : Nat) (U Q : List Int) : Prop where
  lu : U.length = N
  uu : Av U
  uq : Av Q
  val : X = vl v * (pB k * vl Q) + vl U
  lt : vl U < vl v * pB k
theorem Kn.gup {X : Int} {v U Q : List Int} {N k n : Nat} (h : Kn X v N (k + 1) U Q) (uv : Av v) (lv : v.length = n + 2) (top : 1 ≤ v.getD (n + 1) 0) (hk : k + (n + 3) ≤ N) : GuP (slJ U k (n + 3)) v n := by
  have hs := Ua U (j := k) (n := n + 3) (by rw [h.lu]; exact hk)
  have u1 := Aju (j := k) (n := n + 3) h.uu
  have c0 := Ia h.uu k
  have r0 := A4 (Fb h.uu (k + (n + 3)))
  have hp := Dh k
  refine ⟨u1, uv, Ub (by rw [h.lu]; exact hk), lv, ?_, top⟩
  have hlt := h.lt
  have e : vl v * pB (k + 1) = pB k * (vl v * 18446744073709551616) := by
    simp only [pB]
    have hB : Bs = 18446744073709551616 := rfl
    rw [hB, Int.mul_left_comm, Int.mul_left_comm (pB k), ← Int.mul_assoc 18446744073709551616, Int.mul_comm 18446744073709551616, Int.mul_assoc, Int.mul_comm (pB k)]
  rw [e, hs] at hlt
  have f : 0 ≤ pB k * (pB (n + 3) * vl (U.drop (k + (n + 3)))) := Int.mul_nonneg (Int.le_of_lt hp) (Int.mul_nonneg (Int.le_of_lt (Dh _)) r0)
  rw [Int.mul_add] at hlt
  exact Int.lt_of_mul_lt_mul_left (show pB k * vl (slJ U k (n + 3)) < pB k * (vl v * 18446744073709551616) by omega) (Int.le_of_lt hp)
theorem Kn.next {X : Int} {v U Q r : List Int} {N k n : Nat} (h : Kn X v N (k + 1) U Q) (hg : GuP (slJ U k (n + 3)) v n) (hk : k + (n + 3) ≤ N) (lr : r.length = n + 3) (ur : Av r) (vr : vl r = vl (slJ U k (n + 3)) % vl v) :
    Kn X v N k (rwJ U k r) (vl (slJ U k (n + 3)) / vl v :: Q) := by
  have hs := Ua U (j := k) (n := n + 3) (by rw [h.lu]; exact hk)
  have hr := Ac5 (U := U) (j := k) (l := r) (by rw [h.lu, lr]; exact hk)
  rw [lr] at hr
  have hp := Dh k
  have hv := hg.pos
  have e := Int.emod_add_mul_ediv (vl (slJ U k (n + 3))) (vl v)
  have m1 := Int.emod_lt_of_pos (vl (slJ U k (n + 3))) hv
  have q0 := hg.q_nn
  have q1 := hg.q_lt
  have c := Kf h.uu (n := k) (by rw [h.lu]; omega)
  have r0 := A4 (Fb h.uu (k + (n + 3)))
  have u0 := A4 hg.uu
  have vlt := E2 hg.uv
  rw [hg.lv] at vlt
  have hB : Bs = 18446744073709551616 := rfl
  have hrest : vl (U.drop (k + (n + 3))) = 0 := by
    rcases Int.lt_or_le 0 (vl (U.drop (k + (n + 3)))) with hl | hl
    · exfalso
      have hlt := h.lt
      rw [hs] at hlt
      have f1 : pB k * (pB (n + 3) * 1) ≤ pB k * (pB (n + 3) * vl (U.drop (k + (n + 3)))) := Int.mul_le_mul_of_nonneg_left (Int.mul_le_mul_of_nonneg_left (by omega) (Int.le_of_lt (Dh _))) (Int.le_of_lt hp)
      have f2 : 0 ≤ pB k * vl (slJ U k (n + 3)) := Int.mul_nonneg (Int.le_of_lt hp) u0
      have f3 : vl v * pB (k + 1) ≤ pB (n + 2) * pB (k + 1) := Int.mul_le_mul_of_nonneg_right (by omega) (Int.le_of_lt (Dh _))
      have f4 : pB (n + 2) * pB (k + 1) = pB k * (pB (n + 3) * 1) := by rw [Int.mul_one, ← Fx, ← Fx]; congr 1; omega
      rw [Int.mul_add] at hlt
      omega
    · omega
  rw [hrest, Int.mul_zero, Int.add_zero] at hs hr
  generalize hA : vl (slJ U k (n + 3)) / vl v = A at *
  generalize hM : vl (slJ U k (n + 3)) % vl v = M at *
  generalize hS : vl (slJ U k (n + 3)) = S at *
  refine ⟨by rw [Kq (by rw [h.lu, lr]; exact hk), h.lu], Ajx h.uu ur, ?_, ?_, ?_⟩
  · intro y hy
    rw [List.mem_cons] at hy
    rcases hy with rfl | hy
    · exact ⟨q0, q1⟩
    · exact h.uq y hy
  · rw [h.val, hr, hs, vr]
    simp only [vl, pB]
    rw [hB, ← e, Int.mul_add (pB k) A, Int.mul_add (vl v), Int.mul_add (pB k) M, Int.mul_left_comm (pB k) (vl v), Int.mul_left_comm (pB k) 18446744073709551616, ← Int.mul_assoc 18446744073709551616]
    omega
  · rw [hr, vr, Int.mul_comm (vl v)]
    have f : pB k * M ≤ pB k * (vl v - 1) := Int.mul_le_mul_of_nonneg_left (by omega) (Int.le_of_lt hp)
    rw [Int.mul_sub, Int.mul_one] at f
    omega
theorem Yz {a b v : List Int} {s : Nat} (hs : s < 64) (ua : Av a) (ub : Av b) (tb : tpd b) (hb : b ≠ []) (hv : vl v = vl b * 2 ^ s) (hl : b.length ≤ a.length) : Kn (vl a * 2 ^ s) v (a.length + 1) (a.length - b.length + 1) (upL a s) [] := by
  refine ⟨Kh a s, Xq hs ua, fun x hx => by simp at hx, ?_, ?_⟩
  · rw [Mm (Nat.le_of_lt hs)]; simp [vl]
  · rw [Mm (Nat.le_of_lt hs), hv, Int.mul_right_comm]
    have h1 := Sv ub tb hb
    have h2 := E2 ua
    have hbl : 0 < b.length := List.length_pos_iff.2 hb
    have e : pB (b.length - 1) * pB (a.length - b.length + 1) = pB a.length := by rw [← Fx]; congr 1; omega
    have h3 : pB (b.length - 1) * pB (a.length - b.length + 1) ≤ vl b * pB (a.length - b.length + 1) := Int.mul_le_mul_of_nonneg_right h1 (Int.le_of_lt (Dh _))
    exact Int.mul_lt_mul_of_pos_right (by omega) (H3 s)
theorem Ahq {b v : List Int} {s n : Nat} (ub : Av b) (uv : Av v) (tb : tpd b) (hb : b.length = n + 2) (hlv : v.length = n + 2) (hv : vl v = vl b * 2 ^ s) : 1 ≤ v.getD (n + 1) 0 := by
  have h1 := Sv ub tb (fun h => by rw [h] at hb; simp at hb)
  have x := A2 uv (n + 1)
  have h2 : vl v = vk v (n + 1) + pB (n + 1) * v.getD (n + 1) 0 := by rw [← C4, Du (by omega)]
  have c := Kf uv (n := n + 1) (by omega)
  rcases Int.lt_or_le 0 (v.getD (n + 1) 0) with h | h
  · omega
  · exfalso
    have h0 : v.getD (n + 1) 0 = 0 := by omega
    rw [h0, Int.mul_zero] at h2
    rw [hb] at h1
    have h3 : vl b * 1 ≤ vl b * 2 ^ s := Int.mul_le_mul_of_nonneg_left (by have := H3 s; omega) (A4 ub)
    have : n + 2 - 1 = n + 1 := by omega
    rw [this] at h1
    omega
theorem Af0 {b : List Int} {s : Nat} (hs : s < 64) (ub : Av b) (h : b.getD (b.length - 1) 0 * 2 ^ s < 18446744073709551616) (hb : b ≠ []) : vl ((upL b s).take b.length) = vl b * 2 ^ s := by
  have e := Mm (a := b) (Nat.le_of_lt hs)
  have u := Xq hs ub
  have h2 : vl (upL b s) = vk (upL b s) (b.length + 1) := (Du (by rw [Kh]; exact Nat.le_refl _)).symm
  rw [C4] at h2
  have hz : (upL b s).getD b.length 0 = 0 := by
    unfold upL
    rw [List.getD_eq_getElem?_getD, List.getElem?_append_right (by rw [E3]; exact Nat.le_refl _), E3, Nat.sub_self]
    show (upN b s b.length).2 = 0
    obtain ⟨m, hm⟩ : ∃ m, b.length = m + 1 := ⟨b.length - 1, by have := List.length_pos_iff.2 hb; omega⟩
    rw [hm] at h ⊢
    rw [Nat.add_sub_cancel] at h
    show hiS (b.getD m 0) s = 0
    have hh := Aj9 (x := b.getD m 0) (Nat.le_of_lt hs)
    have lb := @L2 (b.getD m 0) s
    have hb' := K9 (Nat.le_of_lt hs) (A2 ub m).1 (A2 ub m).2
    omega
  rw [hz, Int.mul_zero, Int.add_zero] at h2
  show vk (upL b s) b.length = _
  rw [← h2, e]
theorem Kn.fin {a b v U Q : List Int} {N s : Nat} (h : Kn (vl a * 2 ^ s) v N 0 U Q) (hs : s < 64) (hv : vl v = vl b * 2 ^ s) (hb : 0 < vl b) (ua : Av a) (uv : Av v) (hl : v.length ≤ N) :
    trm Q = lm (vl a / vl b) ∧ vl (U.take v.length) = 2 ^ s * (vl a % vl b) ∧ trm (dnN (U.take v.length) s (U.take v.length).length) = lm (vl a % vl b) := by
  have hval := h.val
  have hlt := h.lt
  have u0 := A4 h.uu
  have hp := H3 s
  simp only [pB, Int.one_mul, Int.mul_one] at hval hlt
  rw [hv] at hval hlt
  have eU : vl U = (vl a - vl b * vl Q) * 2 ^ s := by
    rw [Int.sub_mul]
    have : vl b * 2 ^ s * vl Q = vl b * vl Q * 2 ^ s := Int.mul_right_comm _ _ _
    omega
  generalize hT : vl a - vl b * vl Q = T at *
  have hT0 : 0 ≤ T := by
    rcases Int.lt_or_le T 0 with h | h
    · exfalso
      have := Int.mul_neg_of_neg_of_pos h hp
      omega
    · exact h
  have hT1 : T < vl b := by
    rcases Int.lt_or_le T (vl b) with h | h
    · exact h
    · exfalso
      have h1 : vl b * 2 ^ s ≤ T * 2 ^ s := Int.mul_le_mul_of_nonneg_right h (by omega)
      omega
  have hA : vl a = T + vl b * vl Q := by omega
  have e1 : vl a / vl b = vl Q := by rw [hA, Int.add_mul_ediv_left _ _ (by omega), Int.ediv_eq_zero_of_lt hT0 hT1]; omega
  have e2 : vl a % vl b = T := by rw [hA, Int.add_mul_emod_self_left, Int.emod_eq_of_lt hT0 hT1]
  have e3 : vl (U.take v.length) = 2 ^ s * T := by
    obtain ⟨r, r0, hr⟩ := Tl h.uu v.length
    have vlt := E2 uv
    rw [hv] at vlt
    have c0 := Ia h.uu v.length
    show vk U v.length = _
    have hr1 : r = 0 := by
      rcases Int.lt_or_le 0 r with h | h
      · exfalso
        have : pB v.length * 1 ≤ pB v.length * r := Int.mul_le_mul_of_nonneg_left (by omega) (Int.le_of_lt (Dh _))
        omega
      · omega
    rw [hr1, Int.mul_zero, Int.add_zero] at hr
    rw [← hr, eU, Int.mul_comm]
  refine ⟨Fo h.uq e1.symm, by rw [e2]; exact e3, ?_⟩
  rw [e2]
  exact Fo (Wb (Nat.le_of_lt hs) (Er h.uu _) _) (Ah5 (Nat.le_of_lt hs) e3)


def qn (v w : Int) : Int := (v.natAbs : Int) / w.natAbs
def rn (v w : Int) : Int := (v.natAbs : Int) % w.natAbs
def ng (v w : Int) : Bool := !(decide (v < 0) == decide (w < 0))
def sgd (s : Bool) (m : Int) : Int := if s = true then -m else m
theorem Fi {v w : Int} (hw : w ≠ 0) : (v.natAbs : Int) = rn v w + w.natAbs * qn v w ∧ 0 ≤ rn v w ∧ rn v w < w.natAbs ∧ 0 ≤ qn v w := by
  have h0 : (0 : Int) < w.natAbs := by omega
  have e := Int.emod_add_mul_ediv (v.natAbs : Int) w.natAbs
  exact ⟨e.symm, Int.emod_nonneg _ (by omega), Int.emod_lt_of_pos _ h0, Int.ediv_nonneg (by omega) (by omega)⟩
def gro (k : Nat) (v w : Int) : Bool :=
  match k with
  | 0 => false
  | 1 => ng v w
  | 2 => !ng v w
  | 3 => decide ((w.natAbs : Int) < 2 * rn v w ∨ (2 * rn v w = w.natAbs ∧ qn v w % 2 = 1))
  | _ => decide (v < 0)
def flo (v w : Int) : Int := if ng v w = true then (if rn v w = 0 then -(qn v w) else -(qn v w) - 1) else qn v w
def cei (v w : Int) : Int := if v - flo v w * w = 0 then flo v w else flo v w + 1
def nea (v w : Int) : Int := if (w.natAbs : Int) < 2 * (v - flo v w * w).natAbs ∨ (2 * ((v - flo v w * w).natAbs : Int) = w.natAbs ∧ (flo v w).natAbs % 2 = 1) then flo v w + 1 else flo v w
def wq (k : Nat) (v w : Int) : Int :=
  match k with
  | 0 => if ng v w = true then cei v w else flo v w
  | 1 => flo v w
  | 2 => cei v w
  | 3 => nea v w
  | _ => if w < 0 then cei v w else flo v w
def frs (v w : Int) : Int := sgd (decide (w < 0)) (if ng v w = true ∧ rn v w ≠ 0 then w.natAbs - rn v w else rn v w)
theorem Adz {m w : Int} : m * w = if w < 0 then -(w.natAbs * m) else w.natAbs * m := by
  split
  · rw [show (w.natAbs : Int) = -w by omega, Int.neg_mul, Int.neg_neg, Int.mul_comm]
  · rw [show (w.natAbs : Int) = w by omega, Int.mul_comm]
theorem Nc {v w : Int} (hw : w ≠ 0) : v - flo v w * w = frs v w := by
  obtain ⟨hx, h0, h1, h2⟩ := Fi (v := v) hw
  rw [Adz]
  have e1 : (w.natAbs : Int) * -(qn v w) = -(w.natAbs * qn v w) := Int.mul_neg _ _
  have e2 : (w.natAbs : Int) * (-(qn v w) - 1) = -(w.natAbs * qn v w) - w.natAbs := by rw [Int.mul_sub, Int.mul_one, e1]
  unfold frs flo sgd
  generalize hp : (w.natAbs : Int) * qn v w = p at *
  unfold ng
  by_cases hv : v < 0 <;> by_cases hww : w < 0 <;> by_cases hr : rn v w = 0 <;> simp [hv, hww, hr, e1, e2, hp] <;> omega
theorem On {v w : Int} (hw : w ≠ 0) : v - (flo v w + 1) * w = frs v w - w := by
  rw [← Nc hw, Int.add_mul]; omega
theorem Ll {k : Nat} {v w : Int} (hw : w ≠ 0) (h : rn v w = 0 ∨ gro k v w = false) : sgd (ng v w) (qn v w) = wq k v w ∧ sgd (decide (v < 0)) (rn v w) = v - wq k v w * w := by
  obtain ⟨hx, h0, h1, h2⟩ := Fi (v := v) hw
  have f1 := Nc (v := v) hw
  have f2 := On (v := v) hw
  have key : (wq k v w = flo v w ∧ (ng v w = true → rn v w = 0)) ∨ (wq k v w = flo v w + 1 ∧ ng v w = true ∧ rn v w ≠ 0) := by
    unfold wq cei nea
    rw [f1]
    unfold frs
    match k with
    | 0 => by_cases hn : ng v w = true <;> by_cases hr : rn v w = 0 <;> by_cases hs : w < 0 <;> simp [hn, hr, hs, sgd] <;> omega
    | 1 => simp only [gro] at h; simp only [true_and]; exact .inl fun hn => h.resolve_right (by rw [hn]; simp)
    | 2 => simp only [gro] at h; by_cases hn : ng v w = true <;> by_cases hr : rn v w = 0 <;> by_cases hs : w < 0 <;> simp [hn, hr, hs, sgd] at h ⊢ <;> omega
    | 3 =>
      simp only [gro] at h
      have hflo : flo v w = if ng v w = true then (if rn v w = 0 then -(qn v w) else -(qn v w) - 1) else qn v w := rfl
      by_cases hn : ng v w = true <;> by_cases hr : rn v w = 0 <;> by_cases hs : w < 0 <;> simp [hn, hr, hs, sgd] at h hflo ⊢ <;> (try rw [hflo]) <;> omega
    | n + 4 =>
      simp only [gro] at h
      by_cases hv : v < 0 <;> by_cases hr : rn v w = 0 <;> by_cases hs : w < 0 <;> simp [ng, hv, hr, hs, sgd] at h ⊢ <;> omega
  rcases key with ⟨e, hk⟩ | ⟨e, hk1, hk2⟩
  · rw [e, f1]
    unfold flo frs sgd at *
    by_cases hn : ng v w = true
    · have hr := hk hn
      simp [hn, hr]
    · have hs : decide (v < 0) = decide (w < 0) := by unfold ng at hn; by_cases hv : v < 0 <;> by_cases hww : w < 0 <;> simp [hv, hww] at hn ⊢
      simp [hn, hs]
  · rw [e, f2]
    have hs : decide (v < 0) = !decide (w < 0) := by unfold ng at hk1; by_cases hv : v < 0 <;> by_cases hww : w < 0 <;> simp [hv, hww] at hk1 ⊢
    unfold flo frs sgd
    rw [hs]
    by_cases hww : w < 0 <;> simp [hk1, hk2, hww] <;> omega
theorem I1 {k : Nat} {v w : Int} (hw : w ≠ 0) (hr : rn v w ≠ 0) (h : gro k v w = true) : sgd (ng v w) (qn v w + 1) = wq k v w ∧ sgd (!decide (v < 0)) (w.natAbs - rn v w) = v - wq k v w * w := by
  obtain ⟨hx, h0, h1, h2⟩ := Fi (v := v) hw
  have f1 := Nc (v := v) hw
  have f2 := On (v := v) hw
  have key : (wq k v w = flo v w ∧ ng v w = true) ∨ (wq k v w = flo v w + 1 ∧ ng v w = false) := by
    unfold wq cei nea
    rw [f1]
    unfold frs
    match k with
    | 0 => simp [gro] at h
    | 1 => simp only [gro] at h; simp [h]
    | 2 => simp only [gro] at h; by_cases hn : ng v w = true <;> by_cases hs : w < 0 <;> simp [hn, hr, hs, sgd] at h ⊢ <;> omega
    | 3 =>
      simp only [gro] at h
      have hflo : flo v w = if ng v w = true then (if rn v w = 0 then -(qn v w) else -(qn v w) - 1) else qn v w := rfl
      by_cases hn : ng v w = true <;> by_cases hs : w < 0 <;> simp [hn, hr, hs, sgd] at h hflo ⊢ <;> (try rw [hflo]) <;> omega
    | n + 4 =>
      simp only [gro] at h
      by_cases hv : v < 0 <;> by_cases hs : w < 0 <;> simp [ng, hv, hr, hs, sgd] at h ⊢ <;> omega
  rcases key with ⟨e, hk⟩ | ⟨e, hk⟩
  · rw [e, f1]
    have hs : decide (v < 0) = !decide (w < 0) := by unfold ng at hk; by_cases hv : v < 0 <;> by_cases hww : w < 0 <;> simp [hv, hww] at hk ⊢
    unfold flo frs sgd
    rw [hs]
    by_cases hww : w < 0 <;> simp [hk, hr, hww] <;> omega
  · rw [e, f2]
    have hs : decide (v < 0) = decide (w < 0) := by unfold ng at hk; by_cases hv : v < 0 <;> by_cases hww : w < 0 <;> simp [hv, hww] at hk ⊢
    unfold flo frs sgd
    rw [hs]
    by_cases hww : w < 0 <;> simp [hk, hr, hww] <;> omega
theorem B7 {v w : Int} (h : v.natAbs ≤ w.natAbs) : Al v ≤ Al w := S4 h
theorem Uy {v w : Int} : (qn v w).natAbs ≤ v.natAbs := by
  have h : qn v w ≤ v.natAbs := Int.ediv_le_self _ (by omega)
  have h0 : 0 ≤ qn v w := Int.ediv_nonneg (by omega) (by omega)
  omega
theorem Agx {v w : Int} (hw : w ≠ 0) (hr : rn v w ≠ 0) : (qn v w + 1).natAbs ≤ v.natAbs := by
  obtain ⟨hx, h0, h1, h2⟩ := Fi (v := v) hw
  have : 2 * qn v w ≤ w.natAbs * qn v w := Int.mul_le_mul_of_nonneg_right (by omega) h2
  omega
theorem Oe {v w : Int} (hw : w ≠ 0) : (rn v w).natAbs ≤ w.natAbs ∧ ((w.natAbs : Int) - rn v w).natAbs ≤ w.natAbs := by
  obtain ⟨hx, h0, h1, h2⟩ := Fi (v := v) hw
  omega
theorem Fp {s : Bool} {m : Int} : (sgd s m).natAbs = m.natAbs := by unfold sgd; split <;> omega
theorem Aa0 {s : Bool} {m : Int} (h : 0 ≤ m) : sv s (lm m) = sgd s m := by unfold sv sgd; rw [Qa]; split <;> omega
theorem Ow {v : Int} (h : v ≠ 0) : lm v ≠ [] := fun e => by
  have h1 := Qa v
  rw [e] at h1
  simp [vl] at h1
  omega
theorem Vn {v : Int} : Al v = 0 ↔ v = 0 := by
  constructor
  · intro h
    rcases Int.lt_trichotomy v 0 with h1 | h1 | h1
    · have := Eb (n := v.natAbs) (by omega); unfold Al at h; omega
    · exact h1
    · have := Eb (n := v.natAbs) (by omega); unfold Al at h; omega
  · rintro rfl; rfl
theorem Ny {k : Nat} {v w : Int} (hw : w ≠ 0) : Al (wq k v w) ≤ Al v ∧ Al (v - wq k v w * w) ≤ Al w := by
  by_cases hr : rn v w ≠ 0 ∧ gro k v w = true
  · have h := I1 hw hr.1 hr.2
    rw [← h.2, ← h.1]
    exact ⟨B7 (by rw [Fp]; exact Agx hw hr.1), B7 (by rw [Fp]; exact (Oe hw).2)⟩
  · have h := Ll (k := k) hw (by
      by_cases h1 : rn v w = 0
      · exact .inl h1
      · refine .inr ?_
        cases hg : gro k v w
        · rfl
        · exact absurd ⟨h1, hg⟩ hr)
    rw [← h.2, ← h.1]
    exact ⟨B7 (by rw [Fp]; exact Uy), B7 (by rw [Fp]; exact (Oe hw).1)⟩


theorem X9 {b : Nat} {l : List Int} {x : Int} (h : rng b l) (h0 : 0 ≤ x) (h1 : x < (b : Int)) : rng b (x :: l) := fun y hy => by
  rcases List.mem_cons.1 hy with rfl | hy
  · exact ⟨h0, h1⟩
  · exact h y hy
def Ajc (l : List Int) (s : Nat) : Nat → List Int × Int
  | 0 => ([], 0)
  | i + 1 => ((Ajc l s i).1 ++ [(Ajc l s i).2 + l.getD i 0 * 2 ^ s % 4294967296], l.getD i 0 * 2 ^ s / 4294967296)
def shR (l : List Int) (s w i : Nat) : List Int := List.replicate w 0 ++ D2 ((Ajc l s i).1 ++ [(Ajc l s i).2]) (l.length + 1)
theorem Zp {x y k : Nat} (hy : 0 < y) (hk : 0 < k) :
    x / B32 ^ (k - 1) / y = B32 * (x / B32 ^ k / y) + (x / B32 ^ k % y * B32 + x / B32 ^ (k - 1) % B32) / y ∧ x / B32 ^ (k - 1) % y = (x / B32 ^ k % y * B32 + x / B32 ^ (k - 1) % B32) % y := by
  obtain ⟨k, rfl⟩ : ∃ m, k = m + 1 := ⟨k - 1, by omega⟩
  rw [Nat.add_sub_cancel]
  have e : x / B32 ^ (k + 1) = x / B32 ^ k / B32 := by rw [Nat.pow_succ, Nat.div_div_eq_div_mul]
  rw [e]
  generalize x / B32 ^ k = X
  have e1 := Nat.mod_add_div X B32
  have e2 := Nat.mod_add_div (X / B32) y
  generalize hd : X % B32 = d at *
  generalize hX : X / B32 = Z at *
  generalize hq : Z / y = q at *
  generalize hr : Z % y = r at *
  have e3 : X = (r * B32 + d) + y * (B32 * q) := by
    have e4 : X = d + B32 * (r + y * q) := by rw [e2]; exact e1.symm
    rw [e4, Nat.mul_add, Nat.mul_left_comm B32 y q, Nat.mul_comm B32 r]
    omega
  rw [e3]
  refine ⟨?_, ?_⟩
  · rw [Nat.add_mul_div_left _ _ hy]; omega
  · rw [Nat.add_mul_mod_self_left]
theorem Al8 {x y k : Nat} (hy : 0 < y) : x / B32 ^ k % y * B32 + x / B32 ^ (k - 1) % B32 < y * B32 := by
  have h1 := Nat.mod_lt (x / B32 ^ k) hy
  have h2 := Nat.mod_lt (x / B32 ^ (k - 1)) (show 0 < B32 by decide)
  generalize x / B32 ^ k % y = r at *
  generalize x / B32 ^ (k - 1) % B32 = d at *
  show r * 4294967296 + d < y * 4294967296
  have : d < 4294967296 := h2
  omega
def Hlv (R y t q : Nat) : Prop := t ≤ 32 ∧ y * q ≤ R ∧ R - y * q < y * 2 ^ t ∧ q + 2 ^ t ≤ 4294967296
structure Qd (x y k : Nat) (Q : List Int) : Prop where
  r : rng B32 Q
  v : vb B32 Q = ((x / B32 ^ k / y : Nat) : Int)
  l : Q.length = (Cb B32 x).length - k
theorem Qd.next {x y k : Nat} {Q : List Int} (h : Qd x y k Q) (hy : 0 < y) (hk : 0 < k) (hkl : k ≤ (Cb B32 x).length) : Qd x y (k - 1) (((x / B32 ^ k % y * B32 + x / B32 ^ (k - 1) % B32) / y : Nat) :: Q) := by
  have hd := Zp (x := x) hy hk
  have hR := Al8 (x := x) (k := k) hy
  refine ⟨X9 h.r (Int.natCast_nonneg _) (Int.ofNat_lt.2 (Nat.div_lt_of_lt_mul hR)), ?_, by rw [List.length_cons, h.l]; omega⟩
  show ((((x / B32 ^ k % y * B32 + x / B32 ^ (k - 1) % B32) / y : Nat) : Int)) + (B32 : Int) * vb B32 Q = _
  rw [h.v, hd.1, Int.natCast_add, Int.natCast_mul, Int.add_comm]
theorem Qd.fin {x y : Nat} {Q : List Int} (h : Qd x y 0 Q) : trm Q = Cb B32 (x / y) := Jt (by decide) h.r (by rw [h.v, Nat.pow_zero, Nat.div_one])






def Tj (x : Int) (r : List Int) (e : Int) : Prop := (e = 0 ∧ r = lm x ∧ Al x ≤ 67108864) ∨ (e = 3 ∧ r = [] ∧ 67108864 < Al x)
theorem Aen {l : List Int} {x : Int} (u : Av l) (hv : vl l = x) (h : Dn l ≤ 67108864) : Tj x (trm l) 0 := .inl ⟨rfl, Fo u hv, by rwa [← Fd u hv]⟩
theorem Zo {l : List Int} {x : Int} (u : Av l) (hv : vl l = x) (h : 67108864 < Dn l) : Tj x [] 3 := .inr ⟨rfl, rfl, by rwa [← Fd u hv]⟩
theorem Aeo {x : Int} {r : List Int} (h : Xj x r 3) : Tj x [] 3 := by
  rcases h with ⟨h, _⟩ | ⟨_, h⟩
  · cases h
  · exact .inr ⟨rfl, rfl, h⟩
def lbN (a : List Int) (m : Int) : Nat → List Int × Int
  | 0 => ([], 0)
  | i + 1 => ((lbN a m i).1 ++ [(a.getD i 0 * m % 18446744073709551616 + (lbN a m i).2) % 18446744073709551616], a.getD i 0 * m / 18446744073709551616 + (a.getD i 0 * m % 18446744073709551616 + (lbN a m i).2) / 18446744073709551616)
def lbL (a : List Int) (m : Int) : List Int := (lbN a m a.length).1 ++ [(lbN a m a.length).2]
theorem Aes {v w : Int} (h1 : 0 < w) : 0 ≤ v % w ∧ v % w < w := ⟨Int.emod_nonneg _ (by omega), Int.emod_lt_of_pos _ h1⟩
theorem Gb {v : Int} (h : 0 ≤ v) : vl (lm v) = v := by rw [Qa]; omega
theorem Agt {l : List Int} (hu : Av l) (j : Nat) : l.getD j 0 = (((vl l).toNat / 18446744073709551616 ^ j % 18446744073709551616 : Nat) : Int) := by
  obtain ⟨k, hk⟩ := Tx l
  have e : trm l = lm (vl l) := Fo hu rfl
  have h0 := A4 hu
  have hd := Wf (b := 18446744073709551616) (by decide) j (vl l).natAbs
  have hn : (vl l).natAbs = (vl l).toNat := by omega
  rw [hn] at hd
  rw [← hd]
  have e2 : trm l = Cb 18446744073709551616 (vl l).toNat := by rw [e]; unfold lm; rw [hn]
  rw [← e2]
  conv => lhs; rw [hk]
  rcases Nat.lt_or_ge j (trm l).length with hj | hj
  · rw [List.getD_eq_getElem?_getD, List.getElem?_append_left hj, List.getD_eq_getElem?_getD]
  · rw [Ds hj, List.getD_eq_getElem?_getD, List.getElem?_append_right hj]
    rcases Nat.lt_or_ge (j - (trm l).length) k with h | h
    · rw [List.getElem?_replicate, if_pos h]; rfl
    · rw [List.getElem?_replicate, if_neg (by omega)]; rfl
theorem pow_mul {a m : Int} {E k : Nat} (hk : 0 < k) (hb : E / 2 ^ (k - 1) % 2 = 1) : a ^ (E / 2 ^ k) % m * (a ^ (E / 2 ^ k) % m) % m * a % m = a ^ (E / 2 ^ (k - 1)) % m := by
  obtain ⟨k, rfl⟩ : ∃ j, k = j + 1 := ⟨k - 1, by omega⟩
  rw [Nat.add_sub_cancel] at hb ⊢
  have e : E / 2 ^ k = E / 2 ^ (k + 1) + E / 2 ^ (k + 1) + 1 := by
    rw [Nat.pow_succ, ← Nat.div_div_eq_div_mul]; omega
  rw [← Int.mul_emod, Int.mul_emod, Int.emod_emod, ← Int.mul_emod, e, Int.pow_succ, Int.pow_add]


def pmS (m r h e : Nat) : Nat := if e % 2 = 0 then h * h % m else h * h % m * r % m
def pmK (m r : Nat) : Nat → Nat → Nat
  | 0, _ => 1 % m
  | f + 1, e => pmS m r (pmK m r f (e / 2)) e
def Ag5 (p : Nat) : Bool := (List.range 32).all fun d => decide (d < 2) || decide (p < d * d) || decide (p % d ≠ 0)
def Al7 (p : Nat) : Bool := !Ag5 p || (List.range 32).all fun r => Nat.beq (pmK p r 10 p) (r % p)


structure Co (a b r s x y : Int) : Prop where
  dr : b ∣ a * x - r
  ds : b ∣ a * y - s
  gc : ∀ d : Int, (d ∣ r ∧ d ∣ s) ↔ (d ∣ a ∧ d ∣ b)
  bx : x.natAbs ≤ b.natAbs
  by_ : y.natAbs ≤ b.natAbs
  br : r.natAbs ≤ max a.natAbs b.natAbs
  bs : s.natAbs ≤ b.natAbs
  st : (r = a ∧ s = b ∧ x = 1 ∧ y = 0) ∨ (r = b ∧ 0 ≤ s ∧ s < b.natAbs ∧ x = 0 ∧ y = 1) ∨
       (0 < r ∧ 0 ≤ s ∧ s < r ∧ ((0 ≤ x ∧ y ≤ 0 ∧ x * s - y * r = b.natAbs) ∨ (x ≤ 0 ∧ 0 ≤ y ∧ y * r - x * s = b.natAbs))) ∨
       (0 < r ∧ 0 ≤ s ∧ s < r ∧ x = 1 ∧ 0 ≤ y ∧ y * r = b.natAbs + s)
theorem Qm {b s : Int} (hs : 0 < s) : (b / s).natAbs ≤ b.natAbs := by
  rcases Int.lt_or_le b 0 with h | h
  · have h1 : b / s ≤ 0 := by
      have := Int.ediv_neg_of_neg_of_pos h hs; omega
    have h2 : b ≤ b / s := by
      rw [Int.le_ediv_iff_mul_le hs]
      have h3 : b * s ≤ b * 1 := Int.mul_le_mul_of_nonpos_left (by omega) (by omega)
      omega
    omega
  · have := Int.ediv_nonneg h (Int.le_of_lt hs)
    have := Int.ediv_le_self s h
    omega
theorem Co.next {a b r s x y : Int} (hb : b ≠ 0) (h : Co a b r s x y) (hs : s ≠ 0) {q : Int} (hq : r - q * s = r % s) : Co a b s (r % s) y (x - q * y) := by
  have hm0 : 0 ≤ r % s := Int.emod_nonneg _ hs
  have hm1 : r % s < s.natAbs := Int.emod_lt _ hs
  obtain ⟨k1, hk1⟩ := h.dr
  obtain ⟨k2, hk2⟩ := h.ds
  have hbs := h.bs
  have hbr := h.br
  have hN : (0 : Int) < b.natAbs := by omega
  have e1 : (x - q * y) * s = x * s - q * y * s := Int.sub_mul _ _ _
  have e2 : y * (r % s) = y * r - q * y * s := by rw [← hq, Int.mul_sub, ← Int.mul_assoc, Int.mul_comm y q]
  have hby := h.by_
  have hbx := h.bx
  have key : (x - q * y).natAbs ≤ b.natAbs ∧ ((s = a ∧ r % s = b ∧ y = 1 ∧ x - q * y = 0) ∨ (s = b ∧ 0 ≤ r % s ∧ r % s < b.natAbs ∧ y = 0 ∧ x - q * y = 1) ∨
       (0 < s ∧ 0 ≤ r % s ∧ r % s < s ∧ ((0 ≤ y ∧ x - q * y ≤ 0 ∧ y * (r % s) - (x - q * y) * s = b.natAbs) ∨ (y ≤ 0 ∧ 0 ≤ x - q * y ∧ (x - q * y) * s - y * (r % s) = b.natAbs))) ∨
       (0 < s ∧ 0 ≤ r % s ∧ r % s < s ∧ y = 1 ∧ 0 ≤ x - q * y ∧ (x - q * y) * s = b.natAbs + r % s)) := by
    have bound : ∀ z : Int, 0 < s → 0 ≤ z → z * s ≤ b.natAbs → z.natAbs ≤ b.natAbs := fun z h1 h2 h3 => by
      have : z * 1 ≤ z * s := Int.mul_le_mul_of_nonneg_left (by omega) h2
      omega
    rcases h.st with ⟨h1, h2, h3, h4⟩ | ⟨h1, h2, h3, h4, h5⟩ | ⟨h1, h2, h3, h4⟩ | ⟨h1, h2, h3, h4, h5, h6⟩
    · subst h1; subst h2; subst h3; subst h4
      rw [Int.mul_zero]
      exact ⟨by omega, .inr (.inl ⟨rfl, hm0, hm1, rfl, by omega⟩)⟩
    · subst h1; subst h4; subst h5
      have hs0 : 0 < s := by omega
      have hqe : q = r / s := by
        have := Int.emod_add_mul_ediv r s
        have e3 : q * s = r / s * s := by rw [Int.mul_comm (r / s)]; omega
        exact Int.eq_of_mul_eq_mul_right (by omega) e3
      have hb2 := Qm (b := r) hs0
      rw [← hqe] at hb2
      rw [Int.mul_one] at e1 e2 ⊢
      rw [Int.zero_mul] at e1
      refine ⟨by omega, .inr (.inr ?_)⟩
      rcases Int.lt_or_le r 0 with hr | hr
      · refine .inr ⟨hs0, hm0, by omega, rfl, ?_, by omega⟩
        have := Int.ediv_neg_of_neg_of_pos hr hs0
        omega
      · refine .inl ⟨hs0, hm0, by omega, .inl ⟨by omega, ?_, by omega⟩⟩
        have := Int.ediv_nonneg hr (Int.le_of_lt hs0)
        omega
    · have hs0 : 0 < s := by omega
      have hq0 : 0 ≤ q := by
        rcases Int.lt_or_le q 0 with hh | hh
        · exfalso
          have := Int.mul_neg_of_neg_of_pos hh hs0
          omega
        · exact hh
      rcases h4 with ⟨h5, h6, h7⟩ | ⟨h5, h6, h7⟩
      · have f1 : 0 ≤ q * -y := Int.mul_nonneg hq0 (by omega)
        rw [Int.mul_neg] at f1
        have f2 : 0 ≤ -y * (r % s) := Int.mul_nonneg (by omega) hm0
        rw [Int.neg_mul] at f2
        exact ⟨bound _ hs0 (by omega) (by omega), .inr (.inr (.inl ⟨hs0, hm0, by omega, .inr ⟨h6, by omega, by omega⟩⟩))⟩
      · have f1 : 0 ≤ q * y := Int.mul_nonneg hq0 h6
        have f2 : 0 ≤ y * (r % s) := Int.mul_nonneg h6 hm0
        have f3 := bound (-(x - q * y)) hs0 (by omega) (by rw [Int.neg_mul]; omega)
        exact ⟨by omega, .inr (.inr (.inl ⟨hs0, hm0, by omega, .inl ⟨h6, by omega, by omega⟩⟩))⟩
    · have hs0 : 0 < s := by omega
      have hq0 : 0 < q := by
        rcases Int.lt_or_le 0 q with hh | hh
        · exact hh
        · exfalso
          have := Int.mul_nonneg (show 0 ≤ -q by omega) (Int.le_of_lt hs0)
          rw [Int.neg_mul] at this
          omega
      have hy0 : 0 < y := by
        rcases Int.lt_or_le 0 y with hh | hh
        · exact hh
        · exfalso
          have : y = 0 := by omega
          rw [this, Int.zero_mul] at h6
          omega
      subst h4
      have f1 : 0 < q * y := Int.mul_pos hq0 hy0
      have f2 : 0 ≤ y * (r % s) := Int.mul_nonneg h5 hm0
      have f3 := bound (-(1 - q * y)) hs0 (by omega) (by rw [Int.neg_mul]; omega)
      exact ⟨by omega, .inr (.inr (.inl ⟨hs0, hm0, by omega, .inl ⟨h5, by omega, by omega⟩⟩))⟩
  refine ⟨h.ds, ⟨k1 - q * k2, ?_⟩, fun d => ?_, h.by_, key.1, by omega, by omega, key.2⟩
  · rw [← hq, Int.mul_sub a, Int.mul_sub b, ← hk1, Int.mul_left_comm b, ← hk2, Int.mul_sub q, Int.mul_left_comm a]; omega
  · rw [← h.gc d]
    constructor
    · rintro ⟨h1, h2⟩
      refine ⟨?_, h1⟩
      have : r = r % s + q * s := by omega
      rw [this]
      exact Int.dvd_add h2 (Int.dvd_trans h1 (Int.dvd_mul_left q s))
    · rintro ⟨h1, h2⟩
      refine ⟨h2, ?_⟩
      rw [← hq]
      exact Int.dvd_sub h1 (Int.dvd_trans h2 (Int.dvd_mul_left q s))
theorem Co.fin {a b r x y : Int} (h : Co a b r 0 x y) : (∀ d : Int, d ∣ r ↔ (d ∣ a ∧ d ∣ b)) ∧ b ∣ a * x - r ∧ r ∣ a ∧ r ∣ b := by
  have h1 : ∀ d : Int, d ∣ r ↔ (d ∣ a ∧ d ∣ b) := fun d => by
    rw [← h.gc d]
    exact ⟨fun hd => ⟨hd, Int.dvd_zero d⟩, fun hd => hd.1⟩
  have h2 := (h1 r).1 (Int.dvd_refl r)
  exact ⟨h1, h.dr, h2.1, h2.2⟩


structure CoE (a b g x : Int) : Prop where
  g0 : 0 ≤ g
  gc : ∀ d : Int, d ∣ g ↔ (d ∣ a ∧ d ∣ b)
  dx : b ∣ a * x - g
  bx : x.natAbs ≤ b.natAbs
  bg : g.natAbs ≤ max a.natAbs b.natAbs
theorem Co.pos {a b r x y : Int} (h : Co a b r 0 x y) (hr : 0 ≤ r) : CoE a b r x := ⟨hr, h.fin.1, h.dr, h.bx, h.br⟩
theorem Co.neg {a b r x y : Int} (h : Co a b r 0 x y) (hr : r < 0) : CoE a b (-r) (-x) := by
  have hb := h.bx
  have hr2 := h.br
  refine ⟨by omega, fun d => by rw [Int.dvd_neg]; exact h.fin.1 d, ?_, by omega, by omega⟩
  have : a * -x - -r = -(a * x - r) := by rw [Int.mul_neg]; omega
  rw [this]
  exact (Int.dvd_neg).2 h.dr
theorem CoE.da {a b g x : Int} (h : CoE a b g x) : g ∣ a ∧ g ∣ b := (h.gc g).1 (Int.dvd_refl g)
theorem CoE.le {a b g x : Int} (h : CoE a b g x) (hb : b ≠ 0) : g.natAbs ≤ b.natAbs := Nat.le_of_dvd (by omega) (Int.natAbs_dvd_natAbs.2 h.da.2)
theorem Aj4 {v : Int} (h : inI v) : lm v = fl ((v.natAbs : Nat) : Int) := Rx (by unfold inI at h; omega)
theorem Ej (v w : Int) : Al (v * w) ≤ Al v + Al w := by
  refine Ct.2 ?_
  rw [Int.natAbs_mul, Nat.pow_add]
  have h1 : v.natAbs < 2 ^ Al v := Ct.1 (Nat.le_refl _)
  have h2 : w.natAbs < 2 ^ Al w := Ct.1 (Nat.le_refl _)
  exact Nat.mul_lt_mul'' h1 h2


theorem Yw (a b : Int) : Al (a - b) ≤ max (Al a) (Al b) + 1 := by
  refine Ct.2 ?_
  have h1 : a.natAbs < 2 ^ Al a := Ct.1 (Nat.le_refl _)
  have h2 : b.natAbs < 2 ^ Al b := Ct.1 (Nat.le_refl _)
  have h3 : 2 ^ Al a ≤ 2 ^ max (Al a) (Al b) := Nat.pow_le_pow_right (by decide) (by omega)
  have h4 : 2 ^ Al b ≤ 2 ^ max (Al a) (Al b) := Nat.pow_le_pow_right (by decide) (by omega)
  rw [Nat.pow_succ]
  omega
def InvP (v w : Int) (s : Bool) (l : List Int) (e : Int) : Prop :=
  ∃ g x : Int, CoE (v % w) (w.natAbs : Int) g x ∧ ((g ≠ 1 ∧ s = false ∧ l = [] ∧ e = 61) ∨ (g = 1 ∧ s = decide (x % (w.natAbs : Int) < 0) ∧ l = lm (x % (w.natAbs : Int)) ∧ e = 0))
theorem Rd {v w g g2 x x2 : Int} (h : CoE v w g x) (h2 : CoE (v % w) (w.natAbs : Int) g2 x2) : g2 = g := by
  have hww : ∀ d : Int, d ∣ (w.natAbs : Int) ↔ d ∣ w := fun d => Int.dvd_natAbs
  have key : ∀ d : Int, (d ∣ v % w ∧ d ∣ (w.natAbs : Int)) ↔ (d ∣ v ∧ d ∣ w) := fun d => by
    rw [hww]
    have e := Int.emod_add_mul_ediv v w
    constructor
    · rintro ⟨h1, h2⟩
      refine ⟨?_, h2⟩
      rw [← e]
      exact Int.dvd_add h1 (Int.dvd_trans h2 (Int.dvd_mul_right w _))
    · rintro ⟨h1, h2⟩
      refine ⟨?_, h2⟩
      have : v % w = v - w * (v / w) := by omega
      rw [this]
      exact Int.dvd_sub h1 (Int.dvd_trans h2 (Int.dvd_mul_right w _))
  have d1 : g2 ∣ g := (h.gc g2).2 ((key g2).1 ((h2.gc g2).1 (Int.dvd_refl g2)))
  have d2 : g ∣ g2 := (h2.gc g).2 ((key g).2 ((h.gc g).1 (Int.dvd_refl g)))
  have := Nat.dvd_antisymm (Int.natAbs_dvd_natAbs.2 d1) (Int.natAbs_dvd_natAbs.2 d2)
  have := h.g0
  have := h2.g0
  omega
theorem Aei {v w x : Int} (hw : w ≠ 0) (h : CoE (v % w) (w.natAbs : Int) 1 x) : w ∣ v * (x % (w.natAbs : Int)) - 1 := by
  obtain ⟨c, hc⟩ := h.dx
  have e1 := Int.emod_add_mul_ediv v w
  have e2 := Int.emod_add_mul_ediv x (w.natAbs : Int)
  obtain ⟨n, hn⟩ := (Int.dvd_natAbs.2 (Int.dvd_refl w) : w ∣ (w.natAbs : Int))
  generalize hr : v % w = r at *
  generalize hX : x % (w.natAbs : Int) = X at *
  generalize v / w = q at *
  generalize x / (w.natAbs : Int) = D at *
  -- v X - 1 = (r + w q) X - 1 = r X + w q X - 1; r X = r x - r n w D
  have e3 : r * x = r * X + w * (r * (n * D)) := by
    rw [← e2, Int.mul_add, hn, Int.mul_left_comm w, Int.mul_assoc w]
  refine ⟨n * c - r * (n * D) + q * X, ?_⟩
  rw [Int.mul_add, Int.mul_sub, ← Int.mul_assoc w n, ← hn, ← hc, e3, ← e1, Int.add_mul, Int.mul_assoc w]
  omega


theorem H5 {s : Bool} {l : List Int} (u : Av l) : Al (sv s l) ≤ 64 * l.length := by
  rw [← (Kw (s := s) u rfl).2.2]
  exact I9 l
theorem InvP.no {v w g x : Int} {s : Bool} {l : List Int} {e : Int} (h : InvP v w s l e) (hE : CoE v w g x) (hg : g ≠ 1) : e = 61 := by
  obtain ⟨g2, x2, h2, h3⟩ := h
  have := Rd hE h2
  rcases h3 with ⟨_, _, _, h⟩ | ⟨h, _⟩
  · exact h
  · omega
theorem InvP.yes {v w g x : Int} {s : Bool} {l : List Int} {e : Int} (hw : w ≠ 0) (h : InvP v w s l e) (hE : CoE v w g x) (hg : g = 1) : ∃ i : Int, 0 ≤ i ∧ i < w.natAbs ∧ s = decide (i < 0) ∧ l = lm i ∧ e = 0 ∧ w ∣ v * i - 1 := by
  obtain ⟨g2, x2, h2, h3⟩ := h
  have := Rd hE h2
  rcases h3 with ⟨h, _⟩ | ⟨h, e1, e2, e3⟩
  · omega
  · subst h
    have hb := Aes (v := x2) (w := (w.natAbs : Int)) (by omega)
    exact ⟨_, hb.1, hb.2, e1, e2, e3, Aei hw h2⟩


theorem Ey (l : List Int) (hl : l.length < 1099511627776) : Spec Tryz.prog 72 [.n false .u64 l] (fun o => o = .ret (.n false .u64 (trm l))) := by
  refine Aw [(0, .n false .u64 l)] rfl Tryz.func72 rfl (Zb rfl) fun Γ hN hds hL hR => ?_
  have hd := B2 21 hN
  refine Zs <| Za rfl (hd 2 rfl) <| Ab <| Ae <| At ?_
  refine Ch (G := Nat) (fun k => k ≤ l.length ∧ tN l k = tN l l.length) (fun k => [(0, .n false .u64 (l.take k)), (3, .u), (4, .u), (5, .u), (6, .u), (7, .u), (8, .u), (9, .u), (10, .u), (11, .u), (12, .u), (13, .u), (14, .u), (15, .u), (16, .u), (17, .u), (18, .u), (19, .u)]) (fun _ => _) (fun k => k) l.length ?_ ?_ rfl ?_
  · exact ⟨Nat.le_refl _, rfl⟩
  · exact (.cons (by rw [List.take_length]; rfl) (.v9 (.v5 (.u (.u .nil)))))
  · rintro k ⟨hc1, hc2⟩
    have hm : (l.take k).length = k := by rw [List.length_take]; omega
    refine Ae <| Zs <| Zm rfl (hd 3 rfl) <| Ac (Ar A7 rfl) (hd 4 rfl) <| Ac (Ce rfl rfl) (hd 5 rfl) <| Zm rfl (hd 6 rfl) ?_
    refine Ez 6 rfl (fun h1 => ?_) (fun h1 => ?_)
    · refine Bi 6 rfl rfl (Ay rfl) (hd 7 rfl) <| Bi 6 rfl rfl (Ay rfl) (hd 8 rfl) <| Bi 6 rfl rfl (Ar A7 rfl) (hd 9 rfl) <| Bi 6 rfl rfl (Bm rfl rfl (Ak (by omega) (by omega))) (hd 10 rfl) <| Bi 6 rfl rfl (Cc (i := k - 1) A7 rfl rfl (by first | rfl | omega) (by omega)) (hd 11 rfl) <| Bi 6 rfl rfl (B8 Bu rfl rfl) (hd 12 rfl) <| Bi 6 rfl rfl (Cq rfl rfl) (hd 13 rfl) <| Ac (Bt rfl rfl) (hd 14 rfl) <| Ab ?_
      refine Bh rfl (fun h2 => ?_) (fun h2 => ?_)
      · refine Aj <| At <| Af <| Zm rfl (hd 15 rfl) <| Zm rfl (hd 16 rfl) <| Ac (Ar A7 rfl) (hd 17 rfl) <| Ac (Bm rfl rfl (Ak (by omega) (by omega))) (hd 18 rfl) <| Ac (K3 A7 rfl Gx (Dg rfl (show ((l.take k).length : Int) - 1 = ((k - 1 : Nat) : Int) by omega)) (.inl rfl) (by omega) (by omega)) (hd 19 rfl) <| Za rfl (hd 0 rfl) <| Ab ?_
        refine ⟨k - 1, ?_, ?_, rfl, Bj 37 rfl rfl ?_⟩
        · exact ⟨by omega, by rw [← hc2, T3 (by omega) (by rw [← Iv (show k - 1 < k by omega)]; assumption)]⟩
        · omega
        · exact (.cons (by show some (V.n false .u64 _) = some (V.n false .u64 _); rw [List.drop_zero, List.take_take, Nat.min_eq_left (by omega)]) (.v9 (.v5 (.u (.u .nil)))))
      · refine Br <| Zs <| Zm rfl (hd 20 rfl) <| Za rfl (hd 2 rfl) <| Ab <| An ?_
        refine ⟨_, _, (.cons rfl .nil), .n, ?_⟩
        unfold trm
        rw [← hc2, Po (by omega) (by rw [← Iv (show k - 1 < k by omega)]; assumption)]
    · refine Bz 6 rfl rfl rfl (hd 7 rfl) <| Bz 6 rfl rfl rfl (hd 8 rfl) <| Bz 6 rfl rfl rfl (hd 9 rfl) <| Bz 6 rfl rfl rfl (hd 10 rfl) <| Bz 6 rfl rfl rfl (hd 11 rfl) <| Bz 6 rfl rfl rfl (hd 12 rfl) <| Bz 6 rfl rfl rfl (hd 13 rfl) <| Ac (Bg rfl rfl) (hd 14 rfl) <| Ab <| A6 rfl <| Br <| Ae <| Af ?_; refine Zm rfl (hd 20 rfl) <| Za rfl (hd 2 rfl) <| Ab <| An ?_
      refine ⟨_, _, (.cons rfl .nil), .n, ?_⟩
      unfold trm
      rw [← hc2, Akz (by omega)]

theorem D4 (l : List Int) (hl : l.length < 1099511627776) : Spec Tryz.prog 66 [.n false .u64 l] (fun o => o = .ret (.n true .u64 (trm l))) := by
  refine Aw [(0, .n false .u64 l)] rfl Tryz.func66 rfl (Zb rfl) fun Γ hN hds hL hR => ?_
  have hd := B2 6 hN
  have hm := Cy l
  refine Zs <| Za rfl (hd 2 rfl) <| Ab <| Zs <| Zm rfl (hd 3 rfl) ?_
  refine Ag Tryz.f72 (Ey l hl) rfl Tryz.func72 rfl rfl (Aa rfl Ad) (.cons .n .nil) (hd 4 rfl) ?_ (fun _ h => by simp at h)
  rintro _ ⟨⟩; refine A1 (Qi (id := 0) Lg rfl rfl Agj (by omega) (by unfold maxLen; omega) rfl) (hd 5 rfl) <| Za rfl (hd 2 rfl) <| Ab <| An ?_
  refine ⟨_, _, (.cons rfl .nil), (.o rfl (by simp) rfl), ?_⟩
  rw [List.drop_zero, List.take_length]

set_option maxRecDepth 100000 in
theorem Xe (x : Nat) (hx : x < 18446744073709551616) : Spec Tryz.prog 73 [.i .u64 (x : Int)] (fun o => o = .ret (.i .i64 (bl 64 x : Int))) := by
  refine Aw [(0, .i .u64 (x : Int))] rfl Tryz.func73 rfl (Zb rfl) fun Γ hN hds hL hR => ?_
  have hd := B2 25 hN
  refine Zs <| Za rfl (hd 2 rfl) <| Ab ?_
  refine C9 (G := Nat × Nat) (fun g => bl 64 x = g.2 + bl 64 g.1 ∧ g.1 < 4294967296 ∧ g.2 ≤ 32) (fun g => [(0, .i .u64 (g.1 : Int)), (2, .i .i64 (g.2 : Int)), (3, .u), (4, .u), (5, .u), (6, .u)]) ?_ ?_
  · refine Zs <| Zm rfl (hd 3 rfl) <| Ac (F6 rfl rfl) (hd 4 rfl) <| Ab ?_
    refine Bh rfl (fun h1 => ?_) (fun h1 => ?_)
    · refine Zs <| Zm rfl (hd 5 rfl) <| Ac (Bk (Eh rfl rfl (by first | omega | (dsimp only; omega)) rfl) (show V.i .u64 _ = V.i .u64 ((x / 4294967296 : Nat) : Int) from congrArg (V.i .u64) (I2 (by decide)))) (hd 6 rfl) <| Za rfl (hd 0 rfl) <| Ab <| Af <| Za rfl (hd 2 rfl) <| Ab ?_
      refine ⟨(x / 4294967296, 32), ?_, rfl, Bj 6 rfl rfl ?_⟩
      · exact ⟨by have h9 := Jd (k := 32) (by decide) (show 2 ^ 32 ≤ x by omega) (by omega); rw [show 2 ^ 32 = 4294967296 by decide] at h9; dsimp only; omega, by dsimp only; omega, by dsimp only; omega⟩
      · exact (.cons rfl (.cons (by show some (V.i .i64 _) = some (V.i .i64 _); rfl) (.u (.u (.u (.u .nil))))))
    · refine Aj ?_
      refine ⟨(x, 0), ?_, rfl, Bj 2 rfl rfl ?_⟩
      · exact ⟨by dsimp only; omega, by dsimp only; omega, by dsimp only; omega⟩
      · exact (.cons rfl (.cons (by show some (V.i .i64 _) = some (V.i .i64 _); rfl) (.u (.u (.u (.u .nil))))))
  · rintro ⟨x1, n1⟩ ⟨he1, hx1, hn1⟩
    dsimp only at he1 hx1 hn1
    refine C9 (G := Nat × Nat) (fun g => bl 64 x = g.2 + bl 64 g.1 ∧ g.1 < 65536 ∧ g.2 ≤ 48) (fun g => [(0, .i .u64 (g.1 : Int)), (2, .i .i64 (g.2 : Int)), (7, .u), (8, .u), (9, .u), (10, .u), (11, .u), (12, .u)]) ?_ ?_
    · refine Zs <| Zm rfl (hd 7 rfl) <| Ac (F6 rfl rfl) (hd 8 rfl) <| Ab ?_
      refine Bh rfl (fun h2 => ?_) (fun h2 => ?_)
      · refine Zs <| Zm rfl (hd 9 rfl) <| Ac (Bk (Eh rfl rfl (by first | omega | (dsimp only; omega)) rfl) (show V.i .u64 _ = V.i .u64 ((x1 / 65536 : Nat) : Int) from congrArg (V.i .u64) (I2 (by decide)))) (hd 10 rfl) <| Za rfl (hd 0 rfl) <| Ab <| Af <| Zm rfl (hd 11 rfl) <| Ac (Bd rfl rfl (r := ((n1 + 16 : Nat) : Int)) (by rw [Ak (by omega) (by omega)]; omega)) (hd 12 rfl) <| Za rfl (hd 2 rfl) <| Ab ?_
        refine ⟨(x1 / 65536, n1 + 16), ?_, rfl, Bj 8 rfl rfl ?_⟩
        · exact ⟨by have h9 := Jd (k := 16) (by decide) (show 2 ^ 16 ≤ x1 by omega) (by omega); rw [show 2 ^ 16 = 65536 by decide] at h9; dsimp only; omega, by dsimp only; omega, by dsimp only; omega⟩
        · exact (.cons rfl (.cons (by show some (V.i .i64 _) = some (V.i .i64 _); rfl) (.v5 (.u .nil))))
      · refine Aj ?_
        refine ⟨(x1, n1), ?_, rfl, Bj 2 rfl rfl ?_⟩
        · exact ⟨by dsimp only; omega, by dsimp only; omega, by dsimp only; omega⟩
        · exact (.cons rfl (.cons (by show some (V.i .i64 _) = some (V.i .i64 _); rfl) (.v5 (.u .nil))))
    · rintro ⟨x2, n2⟩ ⟨he2, hx2, hn2⟩
      dsimp only at he2 hx2 hn2
      refine C9 (G := Nat × Nat) (fun g => bl 64 x = g.2 + bl 64 g.1 ∧ g.1 < 256 ∧ g.2 ≤ 56) (fun g => [(0, .i .u64 (g.1 : Int)), (2, .i .i64 (g.2 : Int)), (13, .u), (14, .u), (15, .u), (16, .u), (17, .u), (18, .u)]) ?_ ?_
      · refine Zs <| Zm rfl (hd 13 rfl) <| Ac (F6 rfl rfl) (hd 14 rfl) <| Ab ?_
        refine Bh rfl (fun h3 => ?_) (fun h3 => ?_)
        · refine Zs <| Zm rfl (hd 15 rfl) <| Ac (Bk (Eh rfl rfl (by first | omega | (dsimp only; omega)) rfl) (show V.i .u64 _ = V.i .u64 ((x2 / 256 : Nat) : Int) from congrArg (V.i .u64) (I2 (by decide)))) (hd 16 rfl) <| Za rfl (hd 0 rfl) <| Ab <| Af <| Zm rfl (hd 17 rfl) <| Ac (Bd rfl rfl (r := ((n2 + 8 : Nat) : Int)) (by rw [Ak (by omega) (by omega)]; omega)) (hd 18 rfl) <| Za rfl (hd 2 rfl) <| Ab ?_
          refine ⟨(x2 / 256, n2 + 8), ?_, rfl, Bj 8 rfl rfl ?_⟩
          · exact ⟨by have h9 := Jd (k := 8) (by decide) (show 2 ^ 8 ≤ x2 by omega) (by omega); rw [show 2 ^ 8 = 256 by decide] at h9; dsimp only; omega, by dsimp only; omega, by dsimp only; omega⟩
          · exact (.cons rfl (.cons (by show some (V.i .i64 _) = some (V.i .i64 _); rfl) (.v5 (.u .nil))))
        · refine Aj ?_
          refine ⟨(x2, n2), ?_, rfl, Bj 2 rfl rfl ?_⟩
          · exact ⟨by dsimp only; omega, by dsimp only; omega, by dsimp only; omega⟩
          · exact (.cons rfl (.cons (by show some (V.i .i64 _) = some (V.i .i64 _); rfl) (.v5 (.u .nil))))
      · rintro ⟨x3, n3⟩ ⟨he3, hx3, hn3⟩
        dsimp only at he3 hx3 hn3
        refine Zs <| Zm rfl (hd 19 rfl) <| Zm rfl (hd 20 rfl) <| Ac (D5 Li Ai9 rfl (Ace (by first | omega | (dsimp only; omega)) (by first | omega | (dsimp only; omega)))) (hd 21 rfl) <| Ac (Abk (b := Vo) (i := x3) Ajn (by kernel_rfl) rfl rfl (show x3 < 256 by omega)) (hd 22 rfl) ?_
        have h7 := Oz hx3
        have h8 := Wy 64 x3
        refine Ac (D5 Ai9 N5 rfl (Ak (by first | omega | (dsimp only; omega)) (by first | omega | (dsimp only; omega)))) (hd 23 rfl) <| Ac (Bd rfl rfl (Ak (by first | omega | (dsimp only; omega)) (by first | omega | (dsimp only; omega)))) (hd 24 rfl) <| Za rfl (hd 2 rfl) <| Ab <| An ?_
        refine ⟨_, _, (.cons rfl .nil), .i, ?_⟩
        have h7 := Oz hx3
        rw [h7, he3]
        rfl

theorem Gn (v : Int) : Spec Tryz.prog 35 [.i .u64 v] (fun o => o = .ret (.n true .u64 (if v = 0 then [] else [v]))) := by
  refine Aw [(0, .i .u64 v)] rfl Tryz.func35 rfl (Zb rfl) fun Γ hN hds hL hR => ?_
  have hd := B2 7 hN
  refine Zs <| Za rfl (hd 2 rfl) <| Ab <| Ae <| Zs <| Zm rfl (hd 3 rfl) <| Ac (Cq rfl rfl) (hd 4 rfl) <| Ab ?_
  refine Bh rfl (fun h1 => ?_) (fun h1 => ?_)
  · refine Zs <| Za rfl (hd 2 rfl) <| Ab <| An ?_
    refine ⟨_, _, (.cons rfl .nil), (.nil (fr := true) (k := .u64)), ?_⟩
    rw [if_pos (by assumption)]
  · refine Aj <| Zs <| Zm rfl (hd 5 rfl) <| A1 (Do (id := 0) (xs := [.tmp 5]) Lg rfl (Aa rfl Ad) rfl (Cz rfl) (by decide) rfl) (hd 6 rfl) <| Za rfl (hd 2 rfl) <| Ab <| An ?_
    refine ⟨_, _, (.cons rfl .nil), (.o (T := 71) (k := .u64) (l := [v]) rfl (by simp) rfl), ?_⟩
    rw [if_neg (by assumption)]
    rfl

theorem Dl (l : List Int) (hl : l.length < 1099511627776) (hu : Av l) : Spec Tryz.prog 30 [.n false .u64 l] (fun o => o = .ret (.i .i64 (Dn l : Int))) := by
  refine Aw [(0, .n false .u64 l)] rfl Tryz.func30 rfl (Zb rfl) fun Γ hN hds hL hR => ?_
  have hd := B2 20 hN
  have hm := Cy l
  refine Zs <| Za rfl (hd 2 rfl) <| Ab <| Zs <| Zm rfl (hd 3 rfl) ?_
  refine Ag Tryz.f72 (Ey l hl) rfl Tryz.func72 rfl rfl (Aa rfl Ad) (.cons .n .nil) (hd 4 rfl) ?_ (fun _ h => by simp at h)
  rintro _ ⟨⟩; refine Za rfl (hd 0 rfl) <| Ab <| Ae <| Zs <| Zm rfl (hd 5 rfl) <| Ac (Ar A7 rfl) (hd 6 rfl) <| Ac (Cq rfl rfl) (hd 7 rfl) <| Ab ?_
  refine Bh rfl (fun h1 => ?_) (fun h1 => ?_)
  · refine Zs <| Za rfl (hd 2 rfl) <| Ab <| An ?_
    refine ⟨_, _, (.cons rfl .nil), .i, ?_⟩
    unfold Dn
    rw [if_pos (by omega)]
    rfl
  · have htop := Pm (A8 hu) (i := (trm l).length - 1) (by omega)
    have hbl := Wy 64 ((trm l).getD ((trm l).length - 1) 0).toNat
    refine Aj <| Zs <| Zm rfl (hd 8 rfl) <| Ac (Ar A7 rfl) (hd 9 rfl) <| Ac (Bm rfl rfl (Ak (by omega) (by omega))) (hd 10 rfl) <| Ac (Dw rfl rfl (Ak (by omega) (by omega))) (hd 11 rfl) <| Zm rfl (hd 12 rfl) <| Zm rfl (hd 13 rfl) <| Ac (Ar A7 rfl) (hd 14 rfl) <| Ac (Bm rfl rfl (Ak (by omega) (by omega))) (hd 15 rfl) <| Ac (Cc (i := (trm l).length - 1) A7 rfl rfl (by first | rfl | omega) (by omega)) (hd 16 rfl) <| Ac (Bk (B8 Bu rfl rfl) (show V.i .u64 ((trm l).getD ((trm l).length - 1) 0) = V.i .u64 (((trm l).getD ((trm l).length - 1) 0).toNat : Int) by rw [Int.toNat_of_nonneg htop.1])) (hd 17 rfl) ?_
    refine Ag Tryz.f73 (Xe ((trm l).getD ((trm l).length - 1) 0).toNat (by omega)) rfl Tryz.func73 rfl rfl (Aa rfl Ad) (.cons .i .nil) (hd 18 rfl) ?_ (fun _ h => by simp at h)
    rintro _ ⟨⟩; refine Ac (Bd rfl rfl (Ak (by omega) (by omega))) (hd 19 rfl) <| Za rfl (hd 2 rfl) <| Ab <| An ?_
    refine ⟨_, _, (.cons rfl .nil), .i, ?_⟩
    unfold Dn
    rw [if_neg (by omega)]
    show Out.ret (V.i .i64 _) = Out.ret (V.i .i64 _)
    congr 2
    omega

theorem Fu (a b : List Int) (ha : a.length < 4294967296) (hb : b.length < 4294967296) : Spec Tryz.prog 89 [.n false .u64 a, .n false .u64 b] (fun o => o = .ret (.i .i64 (Nw (trm a) (trm b)))) := by
  refine Aw [(0, .n false .u64 a), (1, .n false .u64 b)] rfl Tryz.func89 rfl (Zb rfl) fun Γ hN hds hL hR => ?_
  have hd := B2 45 hN
  have hma := Cy a
  have hmb := Cy b
  refine Zs <| Za rfl (hd 4 rfl) <| Ab <| Zs <| Zm rfl (hd 6 rfl) ?_
  refine Ag Tryz.f72 (Ey a (by omega)) rfl Tryz.func72 rfl rfl (Aa rfl Ad) (.cons .n .nil) (hd 7 rfl) ?_ (fun _ h => by simp at h)
  rintro _ ⟨⟩; refine Zm rfl (hd 8 rfl) ?_
  refine Ag Tryz.f72 (Ey b (by omega)) rfl Tryz.func72 rfl rfl (Aa rfl Ad) (.cons .n .nil) (hd 9 rfl) ?_ (fun _ h => by simp at h)
  rintro _ ⟨⟩; refine Za rfl (hd 0 rfl) <| Za rfl (hd 1 rfl) <| Ab <| Ae <| Zs <| Zm rfl (hd 10 rfl) <| Ac (Ar A7 rfl) (hd 11 rfl) <| Zm rfl (hd 12 rfl) <| Ac (Ar A7 rfl) (hd 13 rfl) <| Ac (Ec rfl rfl) (hd 14 rfl) <| Ab ?_
  refine Bh rfl (fun h1 => ?_) (fun h1 => ?_)
  · refine Ae <| Zs <| Zm rfl (hd 15 rfl) <| Ac (Ar A7 rfl) (hd 16 rfl) <| Zm rfl (hd 17 rfl) <| Ac (Ar A7 rfl) (hd 18 rfl) <| Ac (Ca rfl rfl) (hd 19 rfl) <| Ab ?_
    refine Bh rfl (fun h2 => ?_) (fun h2 => ?_)
    · refine Zs <| Za rfl (hd 4 rfl) <| Ab <| An ?_
      refine ⟨_, _, (.cons rfl .nil), .i, ?_⟩
      unfold Nw
      rw [if_pos (by omega)]
    · refine Aj <| Zs <| Za rfl (hd 4 rfl) <| Ab <| An ?_
      refine ⟨_, _, (.cons rfl .nil), .i, ?_⟩
      unfold Nw
      rw [if_neg (by omega), if_pos (by omega)]
  · refine Aj <| Ae <| Zs <| Zm rfl (hd 20 rfl) <| Ac (Ar A7 rfl) (hd 21 rfl) <| Ac (Bm rfl rfl (Ak (by omega) (by omega))) (hd 22 rfl) <| Za rfl (hd 5 rfl) <| Ab <| At ?_
    refine Ch (G := Nat) (fun k => k ≤ (trm a).length ∧ Jn (trm a) (trm b) k = Jn (trm a) (trm b) (trm a).length) (fun k => [(5, .i .i64 ((k : Int) - 1)), (4, .u), (23, .u), (24, .u), (25, .u), (26, .u), (27, .u), (28, .u), (29, .u), (30, .u), (31, .u), (32, .u), (33, .u), (34, .u), (35, .u), (36, .u), (37, .u), (38, .u), (39, .u), (40, .u), (41, .u), (42, .u), (43, .u), (44, .u)]) (fun _ => _) (fun k => k) (trm a).length ?_ ?_ rfl ?_
    · exact ⟨Nat.le_refl _, rfl⟩
    · exact (.cons rfl (.v9 (.v9 (.u (.u (.u .nil))))))
    · rintro k ⟨hc1, hc2⟩; refine Ae <| Zs <| Zm rfl (hd 23 rfl) <| Ac (F6 rfl rfl) (hd 24 rfl) <| Ab ?_
      refine Bh rfl (fun h3 => ?_) (fun h3 => ?_)
      · refine Aj <| Ae <| At <| Ae <| Ae <| Bo (n := 9) _ rfl B9 <| Z2 0 [2, 3, 8] (Am (Ay rfl) (hd 27 rfl)) rfl <| Z2 1 [2, 3, 8] (Am (Ay rfl) (hd 28 rfl)) rfl <| Z2 2 [3, 8] (Am (Cc (i := k - 1) A7 rfl rfl (by omega) (by omega)) (hd 29 rfl)) rfl <| Z1 3 (Am (B8 Bu rfl rfl) (hd 30 rfl)) rfl <| Z2 4 [6, 7, 8] (Am (Ay rfl) (hd 31 rfl)) rfl <| Z2 5 [6, 7, 8] (Am (Ay rfl) (hd 32 rfl)) rfl <| Z2 6 [7, 8] (Am (Cc (i := k - 1) A7 rfl rfl (by omega) (by omega)) (hd 33 rfl)) rfl ?_; refine Z1 7 (Am (B8 Bu rfl rfl) (hd 34 rfl)) rfl <| Z1 8 (Am (Ca rfl rfl) (hd 35 rfl)) rfl <| Bx (by kernel_rfl) ?_
        refine Bh rfl (fun h4 => ?_) (fun h4 => ?_)
        · refine Zs <| Za rfl (hd 4 rfl) <| Ab <| An ?_
          refine ⟨_, _, (.cons rfl .nil), .i, ?_⟩
          unfold Nw
          rw [if_neg (by omega), if_neg (by omega), ← hc2, Wl (by omega) (by assumption)]
        · refine Aj <| Ae <| Bo (n := 9) _ rfl B9 <| Z2 0 [2, 3, 8] (Am (Ay rfl) (hd 36 rfl)) rfl <| Z2 1 [2, 3, 8] (Am (Ay rfl) (hd 37 rfl)) rfl <| Z2 2 [3, 8] (Am (Cc (i := k - 1) A7 rfl rfl (by omega) (by omega)) (hd 38 rfl)) rfl <| Z1 3 (Am (B8 Bu rfl rfl) (hd 39 rfl)) rfl <| Z2 4 [6, 7, 8] (Am (Ay rfl) (hd 40 rfl)) rfl <| Z2 5 [6, 7, 8] (Am (Ay rfl) (hd 41 rfl)) rfl <| Z2 6 [7, 8] (Am (Cc (i := k - 1) A7 rfl rfl (by omega) (by omega)) (hd 42 rfl)) rfl <| Z1 7 (Am (B8 Bu rfl rfl) (hd 43 rfl)) rfl <| Z1 8 (Am (Ce rfl rfl) (hd 44 rfl)) rfl <| Bx (by kernel_rfl) ?_
          refine Bh rfl (fun h5 => ?_) (fun h5 => ?_)
          · refine Zs <| Za rfl (hd 4 rfl) <| Ab <| An ?_
            refine ⟨_, _, (.cons rfl .nil), .i, ?_⟩
            unfold Nw
            rw [if_neg (by omega), if_neg (by omega), ← hc2, Wm (by omega) (by assumption)]
          · refine Aj <| Af <| Zm rfl (hd 25 rfl) <| Ac (Bm rfl rfl (Ak (by omega) (by omega))) (hd 26 rfl) <| Za rfl (hd 5 rfl) <| Ab ?_
            refine ⟨k - 1, ?_, ?_, rfl, Bj 47 rfl rfl ?_⟩
            · exact ⟨by omega, by rw [← hc2]; exact Wn (by omega) (by assumption) (by assumption)⟩
            · omega
            · exact (.cons (by show some (V.i .i64 _) = some (V.i .i64 _); congr 2; omega) (.v9 (.v9 (.u (.u (.u .nil))))))
      · refine Br <| Zs <| Za rfl (hd 4 rfl) <| Ab <| An ?_
        refine ⟨_, _, (.cons rfl .nil), .i, ?_⟩
        unfold Nw
        rw [if_neg (by omega), if_neg (by omega), ← hc2]
        obtain rfl : k = 0 := by omega
        rfl

theorem Mr (l : List Int) (hl : l.length < 1099511627776) (hu : Av l) (h : Dn (trm l) ≤ 67108864) : Spec Tryz.prog 75 [.n false .u64 l] (fun o => o = .ret (.t [.n false .u64 (trm l), .i .i64 0])) := by
  refine Aw [(0, .n false .u64 l)] rfl Tryz.func75 rfl (Zb rfl) fun Γ hN hds hL hR => ?_
  have hd := B2 10 hN
  have hm := Cy l
  refine Zs <| Za rfl (hd 2 rfl) <| Za rfl (hd 3 rfl) <| Ab <| Zs <| Zm rfl (hd 4 rfl) ?_
  refine Ag Tryz.f72 (Ey l hl) rfl Tryz.func72 rfl rfl (Aa rfl Ad) (.cons .n .nil) (hd 5 rfl) ?_ (fun _ h => by simp at h)
  rintro _ ⟨⟩; refine Za rfl (hd 0 rfl) <| Ab <| Ae <| Zs <| Zm rfl (hd 6 rfl) ?_
  refine Ag Tryz.f30 (Dl (trm l) (by omega) (A8 hu)) rfl Tryz.func30 rfl rfl (Aa rfl Ad) (.cons .n .nil) (hd 7 rfl) ?_ (fun _ h => by simp at h)
  rintro _ ⟨⟩; refine Ac (B0 (Ce rfl rfl) (by omega)) (hd 8 rfl) <| Ab <| A6 rfl <| Aj <| Zs <| Zm rfl (hd 9 rfl) <| Za rfl (hd 2 rfl) <| Za rfl (hd 3 rfl) <| Ab <| An ?_
  refine ⟨_, _, (.cons rfl (.cons rfl .nil)), (.t1 .n (.t1 .i .t0)), ?_⟩
  exact rfl

theorem Q5 (l : List Int) (hl : l.length < 1099511627776) (hu : Av l) (h : 67108864 < Dn (trm l)) : Spec Tryz.prog 75 [.n false .u64 l] (fun o => o = .ret (.t [.n false .u64 [], .i .i64 3])) := by
  refine Aw [(0, .n false .u64 l)] rfl Tryz.func75 rfl (Zb rfl) fun Γ hN hds hL hR => ?_
  have hd := B2 10 hN
  have hm := Cy l
  refine Zs <| Za rfl (hd 2 rfl) <| Za rfl (hd 3 rfl) <| Ab <| Zs <| Zm rfl (hd 4 rfl) ?_
  refine Ag Tryz.f72 (Ey l hl) rfl Tryz.func72 rfl rfl (Aa rfl Ad) (.cons .n .nil) (hd 5 rfl) ?_ (fun _ h => by simp at h)
  rintro _ ⟨⟩; refine Za rfl (hd 0 rfl) <| Ab <| Ae <| Zs <| Zm rfl (hd 6 rfl) ?_
  refine Ag Tryz.f30 (Dl (trm l) (by omega) (A8 hu)) rfl Tryz.func30 rfl rfl (Aa rfl Ad) (.cons .n .nil) (hd 7 rfl) ?_ (fun _ h => by simp at h)
  rintro _ ⟨⟩; refine Ac (E6 (Ce rfl rfl) (by omega)) (hd 8 rfl) <| Ab <| Cw rfl <| Zs <| Za rfl (hd 2 rfl) <| Za rfl (hd 3 rfl) <| Ab <| An ?_
  refine ⟨_, _, (.cons rfl (.cons rfl .nil)), (.t1 (.nil (fr := false) (k := .u64)) (.t1 .i .t0)), ?_⟩
  exact rfl

theorem Acb (a b : List Int) (ha : a.length < 4294967296) (hb : b.length < 4294967296) (ua : Av a) (ub : Av b) (h : Dn (trm (Lo a b)) ≤ 67108864) : Spec Tryz.prog 104 [.n false .u64 a, .n false .u64 b] (fun o => o = .ret (.t [.n false .u64 (trm (Lo a b)), .i .i64 0])) := by
  refine Aw [(0, .n false .u64 a), (1, .n false .u64 b)] rfl Tryz.func104 rfl (Zb rfl) fun Γ hN hds hL hR => ?_
  have hd := B2 61 hN
  have hma := Cy a
  have hmb := Cy b
  refine Zs <| Za rfl (hd 4 rfl) <| Za rfl (hd 5 rfl) <| Ab <| Zs <| Zm rfl (hd 10 rfl) ?_
  refine Ag Tryz.f72 (Ey a (by omega)) rfl Tryz.func72 rfl rfl (Aa rfl Ad) (.cons .n .nil) (hd 11 rfl) ?_ (fun _ h => by simp at h)
  rintro _ ⟨⟩; refine Zm rfl (hd 12 rfl) ?_
  refine Ag Tryz.f72 (Ey b (by omega)) rfl Tryz.func72 rfl rfl (Aa rfl Ad) (.cons .n .nil) (hd 13 rfl) ?_ (fun _ h => by simp at h)
  rintro _ ⟨⟩; refine Za rfl (hd 0 rfl) <| Za rfl (hd 1 rfl) <| Ab ?_
  refine C9 (G := List Int × List Int) (fun g => swL (trm a) (trm b) = g ∧ g.1.length < 4294967296 ∧ Av g.1 ∧ Av g.2) (fun g => [(0, .n false .u64 g.1), (1, .n false .u64 g.2), (14, .u), (15, .u), (16, .u), (17, .u), (18, .u), (19, .u), (20, .u)]) ?_ ?_
  · refine Zs <| Zm rfl (hd 14 rfl) <| Ac (Ar A7 rfl) (hd 15 rfl) <| Zm rfl (hd 16 rfl) <| Ac (Ar A7 rfl) (hd 17 rfl) <| Ac (Ca rfl rfl) (hd 18 rfl) <| Ab ?_
    refine Bh rfl (fun h1 => ?_) (fun h1 => ?_)
    · refine Af <| Zm rfl (hd 19 rfl) <| Zm rfl (hd 20 rfl) <| Za rfl (hd 0 rfl) <| Za rfl (hd 1 rfl) <| Ab ?_
      refine ⟨(trm b, trm a), ?_, rfl, Bj 9 rfl rfl ?_⟩
      · exact ⟨by unfold swL; rw [if_pos (by omega)], by show (trm b).length < _; omega, A8 ub, A8 ua⟩
      · exact (.cons rfl (.cons rfl (.v5 (.u (.u .nil)))))
    · refine Aj ?_
      refine ⟨(trm a, trm b), ?_, rfl, Bj 5 rfl rfl ?_⟩
      · exact ⟨by unfold swL; rw [if_neg (by omega)], by show (trm a).length < _; omega, A8 ua, A8 ub⟩
      · exact (.cons rfl (.cons rfl (.v5 (.u (.u .nil)))))
  · rintro ⟨X, Y⟩ ⟨hg, hX, uX, uY⟩
    dsimp only at hg hX uX uY ⊢
    have hS : Lo a b = (adN X Y X.length).1 ++ [(adN X Y X.length).2] := by unfold Lo; rw [hg]
    refine Zs <| Zm rfl (hd 21 rfl) <| Ac (Ar A7 rfl) (hd 22 rfl) <| Ac (Bd rfl rfl (r := ((X.length + 1 : Nat) : Int)) (by rw [Ak (by omega) (by omega)]; omega)) (hd 23 rfl) <| A1 (Gv (m := X.length + 1) Lg rfl rfl rfl (by show 8 * (X.length + 1) ≤ _; omega) (by unfold maxLen; omega) rfl) (hd 24 rfl) <| Za rfl (hd 6 rfl) <| Ab <| Zs <| Za rfl (hd 7 rfl) <| Ab <| Ae ?_; refine Zs <| Zm rfl (hd 25 rfl) <| Ac (Ar A7 rfl) (hd 26 rfl) <| Zm rfl (hd 27 rfl) <| Ab <| At ?_
    refine Ch (G := Nat) (fun i => i ≤ X.length) (fun i => [(7, .i .u64 (adN X Y i).2), (27, .i .i64 (i : Int)), (8, .u), (9, .u), (28, .u), (29, .u), (30, .u), (31, .u), (32, .u), (33, .u), (34, .u), (35, .u), (36, .u), (37, .u), (38, .u), (39, .u), (40, .u), (41, .u), (42, .u), (43, .u), (44, .u), (45, .u), (46, .u), (47, .u), (48, .u), (49, .u), (50, .u), (51, .u)]) (fun i => [⟨71, 1, 0, true, ints .u64 (D2 (adN X Y i).1 (X.length + 1))⟩]) (fun i => X.length - i) 0 ?_ ?_ rfl ?_
    · exact Nat.zero_le _
    · exact (.cons rfl (.cons rfl (.v9 (.v9 (.v5 (.u .nil))))))
    · rintro i hc1
      have hf := Ff (l := (adN X Y i).1) (n := X.length + 1) (by rw [Dc]; omega)
      have hc := Qv uX uY i
      have hx := A2 uX i
      have hy := A2 uY i
      refine Zs <| Ac (Ca rfl rfl) (hd 28 rfl) <| Ab <| Ae ?_
      refine Bh rfl (fun h2 => ?_) (fun h2 => ?_)
      · refine Aj <| Ae <| At <| Zs <| Zm rfl (hd 29 rfl) <| Za rfl (hd 8 rfl) <| Ab <| Zs <| Za rfl (hd 9 rfl) <| Ab ?_
        refine C9 (G := Unit) (fun _ => True) (fun _ => [(9, .i .u64 (Y.getD i 0)), (30, .u), (31, .u), (32, .u), (33, .u), (34, .u), (35, .u), (36, .u), (37, .u)]) ?_ ?_
        · refine Zs <| Zm rfl (hd 30 rfl) <| Zm rfl (hd 31 rfl) <| Ac (Ar A7 rfl) (hd 32 rfl) <| Ac (Ca rfl rfl) (hd 33 rfl) <| Ab ?_
          refine Bh rfl (fun h3 => ?_) (fun h3 => ?_)
          · refine Af <| Zm rfl (hd 34 rfl) <| Zm rfl (hd 35 rfl) <| Ac (Cc (i := i) A7 rfl rfl (by first | rfl | omega) (by omega)) (hd 36 rfl) <| Ac (B8 Bu rfl rfl) (hd 37 rfl) <| Za rfl (hd 9 rfl) <| Ab ?_
            refine ⟨(), ?_, rfl, Bj 9 rfl rfl ?_⟩
            · trivial
            · exact (.cons (by first | rfl | (show some (V.i .u64 _) = some (V.i .u64 _); rw [Ds (by omega)])) (.v5 (.u (.u (.u .nil)))))
          · refine Aj ?_
            refine ⟨(), ?_, rfl, Bj 4 rfl rfl ?_⟩
            · trivial
            · exact (.cons (by first | rfl | (show some (V.i .u64 _) = some (V.i .u64 _); rw [Ds (by omega)])) (.v5 (.u (.u (.u .nil)))))
        · rintro _ _; refine Af <| Zm rfl (hd 39 rfl) <| Zm rfl (hd 40 rfl) <| Zm rfl (hd 41 rfl) <| Zm rfl (hd 42 rfl) <| Ac (Cc (i := i) A7 rfl rfl (by first | rfl | omega) (by omega)) (hd 43 rfl) <| Ac (B8 Bu rfl rfl) (hd 44 rfl) <| Zm rfl (hd 45 rfl) <| Zm rfl (hd 46 rfl) <| A1 (Eg (e := add64Entry) Tryz.func123 rfl rfl (by kernel_rfl) (by kernel_rfl) rfl rfl rfl (fun w => run_add64 _ _ _ hx.1 hy.1 hc.1 hc.2 w) Dp) (hd 47 rfl) <| Zm rfl (hd 38 rfl) <| Ac (Ai rfl rfl) (hd 48 rfl) <| Ac (Ai rfl rfl) (hd 49 rfl) ?_; refine Ac (Ck (i := i) A7 rfl rfl rfl (by first | rfl | omega) (by omega) rfl) (hd 50 rfl) <| A3 (Cf rfl rfl rfl Bu (by omega)) <| Za rfl (hd 7 rfl) <| Ab <| Af <| Ac (Bd rfl rfl (Ak (by omega) (by omega))) (hd 51 rfl) <| Zm rfl (hd 27 rfl) <| Ab ?_
          refine ⟨i + 1, ?_, ?_, (by show [(⟨71, 1, 0, true, ints .u64 _⟩ : Ob)] = [⟨71, 1, 0, true, ints .u64 _⟩]; rw [V4 (by omega)]), Bj 57 rfl rfl ?_⟩
          · omega
          · omega
          · exact (.cons rfl (.cons rfl (.v9 (.v9 (.v5 (.u .nil))))))
      · refine Br <| Ae ?_
        obtain rfl : i = X.length := by omega
        refine Af <| Zm rfl (hd 52 rfl) <| Zm rfl (hd 53 rfl) <| Ac (Ar A7 rfl) (hd 54 rfl) <| Zm rfl (hd 55 rfl) <| Ac (Ck (i := X.length) A7 rfl rfl rfl (by first | rfl | omega) (by omega) rfl) (hd 56 rfl) <| A3 (Cf rfl rfl rfl Bu (by omega)) <| Ab <| Zs <| Jl (k := .u64) (l' := Lo a b) 6 rfl rfl (by rw [Iw (Dc _ _ _)]; simp [Dc]) (by rw [Iw (Dc _ _ _), hS, List.drop_zero, List.take_of_length_le (by simp [Dc])]) hL <| Zm rfl (hd 57 rfl) ?_
        refine Ag Tryz.f75 (Mr (Lo a b) (by rw [hS]; simp only [List.length_append, Dc, List.length_singleton]; omega) (by rw [hS]; exact D9 (Qu _) hc.1 (by omega)) h) rfl Tryz.func75 rfl rfl (Aa rfl Ad) (.cons .n .nil) (hd 58 rfl) ?_ (fun _ h => by simp at h)
        rintro _ ⟨⟩; refine Ac (Ai rfl rfl) (hd 59 rfl) <| Ac (Ai rfl rfl) (hd 60 rfl) <| Za rfl (hd 4 rfl) <| Za rfl (hd 5 rfl) <| Ab <| An ?_
        refine ⟨_, _, (.cons rfl (.cons rfl .nil)), (.t1 .n (.t1 .i .t0)), ?_⟩
        exact rfl

theorem Xh (a b : List Int) (ha : a.length < 4294967296) (hb : b.length < 4294967296) (ua : Av a) (ub : Av b) (h : 67108864 < Dn (trm (Lo a b))) : Spec Tryz.prog 104 [.n false .u64 a, .n false .u64 b] (fun o => o = .ret (.t [.n false .u64 [], .i .i64 3])) := by
  refine Aw [(0, .n false .u64 a), (1, .n false .u64 b)] rfl Tryz.func104 rfl (Zb rfl) fun Γ hN hds hL hR => ?_
  have hd := B2 61 hN
  have hma := Cy a
  have hmb := Cy b
  refine Zs <| Za rfl (hd 4 rfl) <| Za rfl (hd 5 rfl) <| Ab <| Zs <| Zm rfl (hd 10 rfl) ?_
  refine Ag Tryz.f72 (Ey a (by omega)) rfl Tryz.func72 rfl rfl (Aa rfl Ad) (.cons .n .nil) (hd 11 rfl) ?_ (fun _ h => by simp at h)
  rintro _ ⟨⟩; refine Zm rfl (hd 12 rfl) ?_
  refine Ag Tryz.f72 (Ey b (by omega)) rfl Tryz.func72 rfl rfl (Aa rfl Ad) (.cons .n .nil) (hd 13 rfl) ?_ (fun _ h => by simp at h)
  rintro _ ⟨⟩; refine Za rfl (hd 0 rfl) <| Za rfl (hd 1 rfl) <| Ab ?_
  refine C9 (G := List Int × List Int) (fun g => swL (trm a) (trm b) = g ∧ g.1.length < 4294967296 ∧ Av g.1 ∧ Av g.2) (fun g => [(0, .n false .u64 g.1), (1, .n false .u64 g.2), (14, .u), (15, .u), (16, .u), (17, .u), (18, .u), (19, .u), (20, .u)]) ?_ ?_
  · refine Zs <| Zm rfl (hd 14 rfl) <| Ac (Ar A7 rfl) (hd 15 rfl) <| Zm rfl (hd 16 rfl) <| Ac (Ar A7 rfl) (hd 17 rfl) <| Ac (Ca rfl rfl) (hd 18 rfl) <| Ab ?_
    refine Bh rfl (fun h1 => ?_) (fun h1 => ?_)
    · refine Af <| Zm rfl (hd 19 rfl) <| Zm rfl (hd 20 rfl) <| Za rfl (hd 0 rfl) <| Za rfl (hd 1 rfl) <| Ab ?_
      refine ⟨(trm b, trm a), ?_, rfl, Bj 9 rfl rfl ?_⟩
      · exact ⟨by unfold swL; rw [if_pos (by omega)], by show (trm b).length < _; omega, A8 ub, A8 ua⟩
      · exact (.cons rfl (.cons rfl (.v5 (.u (.u .nil)))))
    · refine Aj ?_
      refine ⟨(trm a, trm b), ?_, rfl, Bj 5 rfl rfl ?_⟩
      · exact ⟨by unfold swL; rw [if_neg (by omega)], by show (trm a).length < _; omega, A8 ua, A8 ub⟩
      · exact (.cons rfl (.cons rfl (.v5 (.u (.u .nil)))))
  · rintro ⟨X, Y⟩ ⟨hg, hX, uX, uY⟩
    dsimp only at hg hX uX uY ⊢
    have hS : Lo a b = (adN X Y X.length).1 ++ [(adN X Y X.length).2] := by unfold Lo; rw [hg]
    refine Zs <| Zm rfl (hd 21 rfl) <| Ac (Ar A7 rfl) (hd 22 rfl) <| Ac (Bd rfl rfl (r := ((X.length + 1 : Nat) : Int)) (by rw [Ak (by omega) (by omega)]; omega)) (hd 23 rfl) <| A1 (Gv (m := X.length + 1) Lg rfl rfl rfl (by show 8 * (X.length + 1) ≤ _; omega) (by unfold maxLen; omega) rfl) (hd 24 rfl) <| Za rfl (hd 6 rfl) <| Ab <| Zs <| Za rfl (hd 7 rfl) <| Ab <| Ae ?_; refine Zs <| Zm rfl (hd 25 rfl) <| Ac (Ar A7 rfl) (hd 26 rfl) <| Zm rfl (hd 27 rfl) <| Ab <| At ?_
    refine Ch (G := Nat) (fun i => i ≤ X.length) (fun i => [(7, .i .u64 (adN X Y i).2), (27, .i .i64 (i : Int)), (8, .u), (9, .u), (28, .u), (29, .u), (30, .u), (31, .u), (32, .u), (33, .u), (34, .u), (35, .u), (36, .u), (37, .u), (38, .u), (39, .u), (40, .u), (41, .u), (42, .u), (43, .u), (44, .u), (45, .u), (46, .u), (47, .u), (48, .u), (49, .u), (50, .u), (51, .u)]) (fun i => [⟨71, 1, 0, true, ints .u64 (D2 (adN X Y i).1 (X.length + 1))⟩]) (fun i => X.length - i) 0 ?_ ?_ rfl ?_
    · exact Nat.zero_le _
    · exact (.cons rfl (.cons rfl (.v9 (.v9 (.v5 (.u .nil))))))
    · rintro i hc1
      have hf := Ff (l := (adN X Y i).1) (n := X.length + 1) (by rw [Dc]; omega)
      have hc := Qv uX uY i
      have hx := A2 uX i
      have hy := A2 uY i
      refine Zs <| Ac (Ca rfl rfl) (hd 28 rfl) <| Ab <| Ae ?_
      refine Bh rfl (fun h2 => ?_) (fun h2 => ?_)
      · refine Aj <| Ae <| At <| Zs <| Zm rfl (hd 29 rfl) <| Za rfl (hd 8 rfl) <| Ab <| Zs <| Za rfl (hd 9 rfl) <| Ab ?_
        refine C9 (G := Unit) (fun _ => True) (fun _ => [(9, .i .u64 (Y.getD i 0)), (30, .u), (31, .u), (32, .u), (33, .u), (34, .u), (35, .u), (36, .u), (37, .u)]) ?_ ?_
        · refine Zs <| Zm rfl (hd 30 rfl) <| Zm rfl (hd 31 rfl) <| Ac (Ar A7 rfl) (hd 32 rfl) <| Ac (Ca rfl rfl) (hd 33 rfl) <| Ab ?_
          refine Bh rfl (fun h3 => ?_) (fun h3 => ?_)
          · refine Af <| Zm rfl (hd 34 rfl) <| Zm rfl (hd 35 rfl) <| Ac (Cc (i := i) A7 rfl rfl (by first | rfl | omega) (by omega)) (hd 36 rfl) <| Ac (B8 Bu rfl rfl) (hd 37 rfl) <| Za rfl (hd 9 rfl) <| Ab ?_
            refine ⟨(), ?_, rfl, Bj 9 rfl rfl ?_⟩
            · trivial
            · exact (.cons (by first | rfl | (show some (V.i .u64 _) = some (V.i .u64 _); rw [Ds (by omega)])) (.v5 (.u (.u (.u .nil)))))
          · refine Aj ?_
            refine ⟨(), ?_, rfl, Bj 4 rfl rfl ?_⟩
            · trivial
            · exact (.cons (by first | rfl | (show some (V.i .u64 _) = some (V.i .u64 _); rw [Ds (by omega)])) (.v5 (.u (.u (.u .nil)))))
        · rintro _ _; refine Af <| Zm rfl (hd 39 rfl) <| Zm rfl (hd 40 rfl) <| Zm rfl (hd 41 rfl) <| Zm rfl (hd 42 rfl) <| Ac (Cc (i := i) A7 rfl rfl (by first | rfl | omega) (by omega)) (hd 43 rfl) <| Ac (B8 Bu rfl rfl) (hd 44 rfl) <| Zm rfl (hd 45 rfl) <| Zm rfl (hd 46 rfl) <| A1 (Eg (e := add64Entry) Tryz.func123 rfl rfl (by kernel_rfl) (by kernel_rfl) rfl rfl rfl (fun w => run_add64 _ _ _ hx.1 hy.1 hc.1 hc.2 w) Dp) (hd 47 rfl) <| Zm rfl (hd 38 rfl) <| Ac (Ai rfl rfl) (hd 48 rfl) <| Ac (Ai rfl rfl) (hd 49 rfl) ?_; refine Ac (Ck (i := i) A7 rfl rfl rfl (by first | rfl | omega) (by omega) rfl) (hd 50 rfl) <| A3 (Cf rfl rfl rfl Bu (by omega)) <| Za rfl (hd 7 rfl) <| Ab <| Af <| Ac (Bd rfl rfl (Ak (by omega) (by omega))) (hd 51 rfl) <| Zm rfl (hd 27 rfl) <| Ab ?_
          refine ⟨i + 1, ?_, ?_, (by show [(⟨71, 1, 0, true, ints .u64 _⟩ : Ob)] = [⟨71, 1, 0, true, ints .u64 _⟩]; rw [V4 (by omega)]), Bj 57 rfl rfl ?_⟩
          · omega
          · omega
          · exact (.cons rfl (.cons rfl (.v9 (.v9 (.v5 (.u .nil))))))
      · refine Br <| Ae ?_
        obtain rfl : i = X.length := by omega
        refine Af <| Zm rfl (hd 52 rfl) <| Zm rfl (hd 53 rfl) <| Ac (Ar A7 rfl) (hd 54 rfl) <| Zm rfl (hd 55 rfl) <| Ac (Ck (i := X.length) A7 rfl rfl rfl (by first | rfl | omega) (by omega) rfl) (hd 56 rfl) <| A3 (Cf rfl rfl rfl Bu (by omega)) <| Ab <| Zs <| Jl (k := .u64) (l' := Lo a b) 6 rfl rfl (by rw [Iw (Dc _ _ _)]; simp [Dc]) (by rw [Iw (Dc _ _ _), hS, List.drop_zero, List.take_of_length_le (by simp [Dc])]) hL <| Zm rfl (hd 57 rfl) ?_
        refine Ag Tryz.f75 (Q5 (Lo a b) (by rw [hS]; simp only [List.length_append, Dc, List.length_singleton]; omega) (by rw [hS]; exact D9 (Qu _) hc.1 (by omega)) h) rfl Tryz.func75 rfl rfl (Aa rfl Ad) (.cons .n .nil) (hd 58 rfl) ?_ (fun _ h => by simp at h)
        rintro _ ⟨⟩; refine Ac (Ai rfl rfl) (hd 59 rfl) <| Ac (Ai rfl rfl) (hd 60 rfl) <| Za rfl (hd 4 rfl) <| Za rfl (hd 5 rfl) <| Ab <| An ?_
        refine ⟨_, _, (.cons rfl (.cons rfl .nil)), (.t1 .n (.t1 .i .t0)), ?_⟩
        exact rfl
end Go.Proofs.YtnadmljoefecfaaGreatDoor.Vc
