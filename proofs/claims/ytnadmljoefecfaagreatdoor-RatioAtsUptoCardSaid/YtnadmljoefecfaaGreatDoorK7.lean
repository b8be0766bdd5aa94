/- The law RatioAts of every input of bulk at most 1048576: it returns true, and the input reads as it did. Texts joined: Pi, Pj, Pk, Pl, Pm, Pn, Po, Pp, Pq, Pr, Pt, Pv, Pw, Px, Py, Pz, Qd, Qe, Xa, Xz, Za, Qf, Ub, Uc, Zb, Zc, Zd, Zf, Zg, Zh, Zi, Zj, Zo, Qg, Qh, Qi, Qj, Qk, Ql, Qn, Qo, Qp, Qs, Qt, Qu, Qv, Qw, Qx, Sa, Sc, Se, Sf, Sg, Sh, Si, Sk, Sm, Sn, So, Xb. -/
import Derived.Test.YtnadmljoefecfaaGreatDoorK6
set_option linter.unusedVariables false
set_option linter.unusedSimpArgs false
set_option maxHeartbeats 4000000
namespace Go.Proofs.YtnadmljoefecfaaGreatDoor.Vc
open Go Go.RowKit
def PW (v n : Nat) : Int := ((v ^ n : Nat) : Int)
theorem Ae1 {x : Int} {k : Nat} (h : 2 ^ k ≤ x.natAbs) : k + 1 ≤ Aq x := by
  unfold Aq
  rcases Nat.lt_or_ge (Cp x.natAbs) (k + 1) with h1 | h1
  · have := Cn.1 (show Cp x.natAbs ≤ k by omega)
    omega
  · exact h1
def cF (b n : Nat) : V := .n false .u64 (lm (PW b n))

theorem Yo {l : List Int} (hu : Az l) : trm (dig l) = Aj B32 (vl l).toNat := by
  rw [Acz (s := false) hu rfl]
  show Aj 4294967296 (vl l).natAbs = Aj 4294967296 (vl l).toNat
  have := Bf hu
  rw [show (vl l).natAbs = (vl l).toNat by omega]
theorem Ru {v : Nat} (h : v < 18446744073709551616) : trm (dig [(v : Int)]) = Aj B32 v := by
  rw [Yo (fun x hx => by simp at hx; subst hx; omega), show (vl [(v : Int)]).toNat = v by simp [vl]]

def padZ (l : List Int) (j : Nat) : List Int := List.replicate j 0 ++ l
def zfill (m i : Nat) : List Int := List.replicate i 48 ++ List.replicate (m - i) 0
def ptx (s : ByteArray) (k : Nat) : ByteArray := s.extract 0 (s.size - k) ++ ⟨#[46]⟩ ++ s.extract (s.size - k) s.size


def wtxt (v : Int) : ByteArray := if v < 0 then (⟨#[45]⟩ : ByteArray) ++ txt (hdg 10 1 v.natAbs) else txt (hdg 10 1 v.natAbs)

def dgm (b : Nat) (s : ByteArray) : List Int := (dgs s).map fun d => if d < (b : Int) then d else -1

def tab10 : ByteArray := ⟨#[48, 49, 50, 51, 52, 53, 54, 55, 56, 57]⟩

def nwt (a x n : Nat) : Nat := (n * x + a / x ^ n) / (n + 1)
structure RootIs (a k r : Nat) : Prop where
  le : r ^ k ≤ a
  lt : a < (r + 1) ^ k
theorem RootIs.is {a k r x : Nat} (h : RootIs a k r) (h1 : r ≤ x) (h2 : x ^ k ≤ a) : x = r := by
  rcases Nat.lt_or_ge r x with h3 | h3
  · have h4 := Nat.pow_le_pow_left h3 k
    have h5 := h.lt
    have h6 : (r + 1) ^ k ≤ a := Nat.le_trans h4 h2
    omega
  · omega
theorem or_z {v : Int} (h0 : 0 ≤ v) (h1 : v < 18446744073709551616) : F7 .or .u64 0 v = v := by
  have h := (Qg (c := 0) (x := v) (s := 0) (by decide) (by decide) (by decide) h0).1
  have e : loS v 0 = v := by unfold loS; rw [Int.pow_zero, Int.mul_one]; omega
  rw [e] at h
  omega
def twoL (n : Nat) : List Int := List.replicate (n / 64) 0 ++ [((2 ^ (n % 64) : Nat) : Int), 0]
def twoS (n i : Nat) : List Int := if i = 0 then List.replicate (n / 64 + 2) 0 else twoL n

def smallB (K : Nat) (rows : List (List Int)) : Bool := rows.all fun l => decide (Aq (vl l) ≤ K)
theorem rn_nt {x y : Nat} : rn (x : Int) (y : Int) = ((x % y : Nat) : Int) := by
  unfold rn
  rw [Int.natAbs_natCast, Int.natAbs_natCast]
  rfl
theorem Sc {x y : Nat} : Nat.gcd y (x % y) = Nat.gcd x y := by
  rw [Nat.gcd_comm y, ← Nat.gcd_rec, Nat.gcd_comm]
theorem CoE.gcd {v w g x : Int} (h : CoE v w g x) : g = ((Nat.gcd v.natAbs w.natAbs : Nat) : Int) := by
  have h1 := (h.gc g).1 (Int.dvd_refl g)
  have h2 : g.natAbs ∣ Nat.gcd v.natAbs w.natAbs := Nat.dvd_gcd (Int.natAbs_dvd_natAbs.2 h1.1) (Int.natAbs_dvd_natAbs.2 h1.2)
  have h3 : ((Nat.gcd v.natAbs w.natAbs : Nat) : Int) ∣ g := (h.gc _).2 ⟨Int.ofNat_dvd_left.2 (Nat.gcd_dvd_left _ _), Int.ofNat_dvd_left.2 (Nat.gcd_dvd_right _ _)⟩
  have h4 := Nat.dvd_antisymm h2 (Int.ofNat_dvd_left.1 h3)
  have := h.g0
  omega

def tz (x : Nat) : Nat := if h : x = 0 ∨ x % 2 = 1 then 0 else tz (x / 2) + 1
termination_by x
decreasing_by omega
theorem tz_0 : tz 0 = 0 := by rw [tz]; simp
theorem Aat {x : Nat} (h : x % 2 = 1) : tz x = 0 := by rw [tz, dif_pos (.inr h)]
theorem Tu {x : Nat} (h0 : x ≠ 0) (h : x % 2 = 0) : tz x = tz (x / 2) + 1 := by rw [tz, dif_neg (by omega)]
theorem Kr {x : Nat} (h0 : 0 < x) : ∃ j, x = 2 ^ tz x * (2 * j + 1) := by
  induction x using Nat.strongRecOn with
  | _ x ih =>
    rcases Nat.mod_two_eq_zero_or_one x with h | h
    · obtain ⟨j, hj⟩ := ih (x / 2) (by omega) (by omega)
      refine ⟨j, ?_⟩
      rw [Tu (by omega) h, Nat.pow_succ, Nat.mul_comm _ 2, Nat.mul_assoc, ← hj]
      omega
    · exact ⟨x / 2, by rw [Aat h]; omega⟩
theorem Agw {k j : Nat} : tz (2 ^ k * (2 * j + 1)) = k := by
  induction k with
  | zero => exact Aat (by omega)
  | succ k ih =>
    have hp : 0 < 2 ^ k * (2 * j + 1) := Nat.mul_pos (Nat.pow_pos (by decide)) (by omega)
    have e : 2 ^ (k + 1) * (2 * j + 1) = 2 * (2 ^ k * (2 * j + 1)) := by rw [Nat.pow_succ, Nat.mul_comm _ 2, Nat.mul_assoc]
    rw [e, Tu (by omega) (by omega), show 2 * (2 ^ k * (2 * j + 1)) / 2 = 2 ^ k * (2 * j + 1) by omega, ih]
theorem tz_le {x : Nat} (h0 : 0 < x) : 2 ^ tz x ≤ x := by
  obtain ⟨j, hj⟩ := Kr h0
  have h1 : 2 ^ tz x * 1 ≤ 2 ^ tz x * (2 * j + 1) := Nat.mul_le_mul_left _ (by omega)
  rw [← hj] at h1
  omega
theorem Agu {x n : Nat} (h0 : 0 < x) (h : x < 2 ^ n) : tz x < n := by
  have h1 := tz_le h0
  rcases Nat.lt_or_ge (tz x) n with h2 | h2
  · exact h2
  · have := Nat.pow_le_pow_right (n := 2) (by decide) h2
    omega
def od (x : Nat) : Nat := x / 2 ^ tz x
def fl8 (m : Nat) (s : Int) : Int := if m % 8 = 3 ∨ m % 8 = 5 then -s else s
def fl4 (x m : Nat) (s : Int) : Int := if x % 4 = 3 ∧ m % 4 = 3 then -s else s
def flt (x m : Nat) (s : Int) : Int := if tz x % 2 = 1 then fl8 m s else s
theorem Aes {x : Nat} (h0 : 0 < x) (h : x < 2 ^ 64) : x &&& (2 ^ 64 - x) = 2 ^ tz x := by
  obtain ⟨j, hj⟩ := Kr h0
  apply Nat.eq_of_testBit_eq
  intro i
  have e : 2 ^ 64 - x = 2 ^ 64 - (x - 1 + 1) := by omega
  rw [Nat.testBit_and, e, Nat.testBit_two_pow_sub_succ (by omega), Nat.testBit_two_pow]
  generalize tz x = k at *
  have hp : 0 < 2 ^ k := Nat.pow_pos (by decide)
  rcases Nat.lt_trichotomy i k with h1 | h1 | h1
  · rw [hj, Nat.testBit_two_pow_mul]
    simp [show ¬ k ≤ i by omega, show ¬ k = i by omega]
  · subst h1
    have e1 : x - 1 = 2 ^ i * (2 * j) + (2 ^ i - 1) := by rw [hj, Nat.mul_add, Nat.mul_one]; omega
    rw [e1, Nat.testBit_two_pow_mul_add _ (by omega), if_neg (by omega), Nat.sub_self, hj, Nat.testBit_two_pow_mul]
    have hi : i < 64 := by
      rcases Nat.lt_or_ge i 64 with h2 | h2
      · exact h2
      · have h3 := Nat.pow_le_pow_right (n := 2) (by decide) h2
        have h4 : 2 ^ i * 1 ≤ 2 ^ i * (2 * j + 1) := Nat.mul_le_mul_left _ (by omega)
        omega
    simp [hi]
  · have e1 : x - 1 = 2 ^ k * (2 * j) + (2 ^ k - 1) := by rw [hj, Nat.mul_add, Nat.mul_one]; omega
    rw [e1, Nat.testBit_two_pow_mul_add _ (by omega), if_neg (by omega), hj, Nat.testBit_two_pow_mul]
    have e2 : (2 * j + 1).testBit (i - k) = (2 * j).testBit (i - k) := by
      obtain ⟨m, hm⟩ : ∃ m, i - k = m + 1 := ⟨i - k - 1, by omega⟩
      rw [hm, Nat.testBit_succ, Nat.testBit_succ]
      congr 1
      omega
    simp [show k ≤ i by omega, show ¬ k = i by omega, e2]
    intro h8 _; exact h8
def tzTab : List Int := [0, 1, 56, 2, 57, 49, 28, 3, 61, 58, 42, 50, 38, 29, 17, 4, 62, 47, 59, 36, 45, 43, 51, 22, 53, 39, 33, 30, 24, 18, 12, 5, 63, 55, 48, 27, 60, 41, 37, 16, 46, 35, 44, 21, 52, 32, 23, 11, 54, 26, 40, 15, 34, 20, 31, 10, 25, 14, 19, 9, 13, 8, 7, 6]
theorem Acv : ((List.range 64).all fun k => Nat.blt (2 ^ k * 285870213051353865 % 18446744073709551616 / 288230376151711744) 64 && decide (tzTab.getD (2 ^ k * 285870213051353865 % 18446744073709551616 / 288230376151711744) 0 = Int.ofNat k)) = true := by decide +kernel
theorem Tt (k : Nat) (h : k < 64) : 2 ^ k * 285870213051353865 % 18446744073709551616 / 288230376151711744 < 64 ∧ tzTab.getD (2 ^ k * 285870213051353865 % 18446744073709551616 / 288230376151711744) 0 = (k : Int) := by
  have h1 := List.all_eq_true.1 Acv k (List.mem_range.2 h)
  rw [Bool.and_eq_true] at h1
  exact ⟨Nat.le_of_ble_eq_true h1.1, of_decide_eq_true h1.2⟩
abbrev tzCells : List V := ints .u8 tzTab
theorem Y9 {x : Nat} (h0 : 0 < x) (h : x < 18446744073709551616) : x &&& (18446744073709551616 - x) = 2 ^ tz x := Aes h0 h
theorem getD_drop' {l : List Int} {k i : Nat} : (l.drop k).getD i 0 = l.getD (k + i) 0 := by
  rw [List.getD_eq_getElem?_getD, List.getD_eq_getElem?_getD, List.getElem?_drop]
theorem Agt {x : Nat} (h0 : 0 < x) (h : x < 18446744073709551616) : tz x < 64 ∧ 2 ^ tz x < 18446744073709551616 := by
  have h1 : tz x < 64 := Agu h0 h
  have h2 := Nat.pow_lt_pow_right (a := 2) (by decide) h1
  exact ⟨h1, h2⟩
theorem V6 {l : List Int} {j : Nat} {v : Int} (h1 : j < l.length) (h2 : l.getD j 0 = v) : ((ints .u8 l).drop (j * 1))[0]? = some (V.i .u8 v) := by
  rw [List.getElem?_drop, Nat.mul_one, Nat.add_zero, G3, List.getElem?_eq_getElem h1]
  rw [List.getD_eq_getElem?_getD, List.getElem?_eq_getElem h1] at h2
  rw [← h2]; rfl
theorem Agv : tzTab.length = 64 := by decide
theorem Acx {k : Nat} (h : k < 64) : (tzCells.drop (2 ^ k * 285870213051353865 % 18446744073709551616 / 288230376151711744 * 1))[0]? = some (.i .u8 (k : Int)) :=
  V6 (by rw [Agv]; exact (Tt k h).1) (Tt k h).2
theorem Afz {a b : Nat} (ha : a < 18446744073709551616) (hb : b < 18446744073709551616) : F7 .and .u64 (a : Int) (b : Int) = ((a &&& b : Nat) : Int) := by
  unfold F7
  simp only [IntKind.bits]
  have e1 : (BitVec.ofInt 64 (a : Int)).toNat = a := by rw [BitVec.toNat_ofInt]; simp; omega
  have e2 : (BitVec.ofInt 64 (b : Int)).toNat = b := by rw [BitVec.toNat_ofInt]; simp; omega
  have e3 : (BitVec.ofInt 64 (a : Int) &&& BitVec.ofInt 64 (b : Int)).toNat = a &&& b := by rw [BitVec.toNat_and, e1, e2]
  show IntKind.u64.wrap (((BitVec.ofInt 64 (a : Int) &&& BitVec.ofInt 64 (b : Int)).toNat : Nat) : Int) = _
  rw [e3]
  have h := Nat.and_le_left (n := a) (m := b)
  exact A0 (by omega) (by omega)
theorem Acu {x r : Nat} (h0 : 0 < x) (h : x < 2 ^ 64) : tz (x + 2 ^ 64 * r) = tz x := by
  obtain ⟨j, hj⟩ := Kr h0
  have hk := Agu h0 h
  generalize tz x = k at *
  have e : x + 2 ^ 64 * r = 2 ^ k * (2 * (j + 2 ^ (63 - k) * r) + 1) := by
    have e1 : (2 : Nat) ^ 64 = 2 ^ k * (2 * 2 ^ (63 - k)) := by rw [← Nat.pow_succ', ← Nat.pow_add]; congr 1; omega
    rw [hj, e1, Nat.mul_assoc, ← Nat.mul_add]
    congr 1
    rw [Nat.mul_add, Nat.mul_assoc]
    omega
  rw [e, Agw]
theorem Acs {y : Nat} (h0 : 0 < y) : tz (2 ^ 64 * y) = 64 + tz y := by
  obtain ⟨j, hj⟩ := Kr h0
  have e : 2 ^ 64 * y = 2 ^ (64 + tz y) * (2 * j + 1) := by rw [Nat.pow_add, Nat.mul_assoc, ← hj]
  rw [e, Agw]
theorem Rf : ∀ {l : List Int} {i : Nat}, Az l → i < l.length → (∀ j < i, l.getD j 0 = 0) → l.getD i 0 ≠ 0 → tz (vl l).toNat = 64 * i + tz (l.getD i 0).toNat
  | [], i, _, hi, _, _ => by simp at hi
  | y :: l, 0, hu, _, _, hx => by
    have hy := hu y (List.mem_cons_self ..)
    have hl := Bf fun z hz => hu z (List.mem_cons_of_mem _ hz)
    have hx' : y ≠ 0 := hx
    have e : (vl (y :: l)).toNat = y.toNat + 2 ^ 64 * (vl l).toNat := by
      simp only [vl]
      have hB : Bs = 18446744073709551616 := rfl
      rw [hB]
      omega
    rw [e, Acu (by omega) (by omega)]
    show _ = 64 * 0 + tz y.toNat
    omega
  | y :: l, i + 1, hu, hi, hz, hx => by
    have hy : y = 0 := hz 0 (by omega)
    have hu' : Az l := fun z hzm => hu z (List.mem_cons_of_mem _ hzm)
    have hl := Bf hu'
    have hi' : i < l.length := by simpa using hi
    have hxi : l.getD i 0 ≠ 0 := hx
    have ih := Rf (l := l) (i := i) hu' hi' (fun j hj => hz (j + 1) (by omega)) hxi
    have hp : 0 < (vl l).toNat := by
      rcases Nat.eq_zero_or_pos (vl l).toNat with h0 | h0
      · have h1 := Ahi hu' i
        rw [h0] at h1
        simp at h1
        exact absurd h1 hxi
      · exact h0
    have e : (vl (y :: l)).toNat = 2 ^ 64 * (vl l).toNat := by
      simp only [vl]
      have hB : Bs = 18446744073709551616 := rfl
      rw [hB, hy]
      omega
    rw [e, Acs hp, ih]
    show _ = 64 * (i + 1) + tz (l.getD i 0).toNat
    omega
theorem T2 {l : List Int} (hu : Az l) (hz : ∀ j < l.length, l.getD j 0 = 0) : vl l = 0 := by
  induction l with
  | nil => rfl
  | cons y l ih =>
    have hy : y = 0 := hz 0 (by simp)
    have h := ih (fun z hzm => hu z (List.mem_cons_of_mem _ hzm)) fun j hj => hz (j + 1) (by simpa using hj)
    simp only [vl]
    rw [hy, h]
    rfl
theorem Zx {a : List Int} {s : Nat} (hs : s ≤ 64) (hu : Az a) : vl (dnN a s a.length) = vl a / 2 ^ s := by
  have h1 := Qv (a := a) hs a.length
  rw [Dq (Nat.le_refl _), Dw (Nat.le_refl _), Int.zero_emod, Int.mul_zero] at h1
  have hp := Fs s
  have h2 : 0 ≤ a.getD 0 0 % 2 ^ s := Int.emod_nonneg _ (Int.ne_of_gt hp)
  have h3 : a.getD 0 0 % 2 ^ s < 2 ^ s := Int.emod_lt_of_pos _ hp
  have e : vl a = a.getD 0 0 % 2 ^ s + 2 ^ s * vl (dnN a s a.length) := by omega
  rw [e, Int.add_mul_ediv_left _ _ (Int.ne_of_gt hp), Int.ediv_eq_zero_of_lt h2 h3, Int.zero_add]
theorem Zw {l : List Int} {k : Nat} (hu : Az l) (hk : k ≤ l.length) : vl (l.drop k) = vl l / pB k := by
  have ht : Az (l.take k) := fun z hz => hu z (List.mem_of_mem_take hz)
  have e : vl l = vl (l.take k) + pB k * vl (l.drop k) := by
    have h := D5 (l.take k) (l.drop k)
    rw [List.take_append_drop, List.length_take, Nat.min_eq_left hk] at h
    exact h
  have h2 := Bf ht
  have h3 := E4 ht
  rw [List.length_take, Nat.min_eq_left hk] at h3
  have hp := Dd k
  rw [e, Int.add_mul_ediv_left _ _ (Int.ne_of_gt hp), Int.ediv_eq_zero_of_lt h2 h3, Int.zero_add]
theorem Lv {l : List Int} {k : Nat} (hu : Az l) : Az (l.drop k) := fun z hz => hu z (List.mem_of_mem_drop hz)
theorem Up {x n : Nat} (h : n / 64 ≤ (lm (x : Int)).length) : vl (dnN ((lm (x : Int)).drop (n / 64)) (n % 64) ((lm (x : Int)).drop (n / 64)).length) = ((x / 2 ^ n : Nat) : Int) := by
  rw [Zx (by omega) (Lv (Dc _)), Zw (Dc _) h, J3 (Int.natCast_nonneg _), Oo, ← R2]
  rw [Int.ediv_ediv_of_nonneg (Int.natCast_nonneg _), ← Int.natCast_mul, ← Nat.pow_add, Nat.div_add_mod]
  rfl
theorem Ub {x n i s : Nat} (hs : n % 32 = s) : ((x / B32 ^ (i + n / 32) % B32 : Nat) + (x / B32 ^ (i + n / 32 + 1) % B32) * 4294967296) / 2 ^ s % 4294967296 = x / 2 ^ n / B32 ^ i % B32 := by
  have e1 : x / 2 ^ n / B32 ^ i = x / B32 ^ (i + n / 32) / 2 ^ s := by
    rw [Nat.div_div_eq_div_mul, Nat.div_div_eq_div_mul]
    congr 1
    rw [show B32 = 2 ^ 32 from rfl, ← Nat.pow_mul, ← Nat.pow_mul, ← Nat.pow_add, ← Nat.pow_add]
    congr 1
    omega
  rw [e1, Nat.pow_succ, ← Nat.div_div_eq_div_mul]
  generalize x / B32 ^ (i + n / 32) = y
  have hs' : s < 32 := by omega
  have e2 : y % B32 + y / B32 % B32 * 4294967296 = y % 2 ^ 64 := by
    have hB : B32 = 4294967296 := rfl
    rw [hB]
    omega
  rw [e2]
  have e3 : y = y % 2 ^ 64 + 2 ^ s * (2 ^ (32 - s) * 4294967296 * (y / 2 ^ 64)) := by
    have h1 : 2 ^ s * (2 ^ (32 - s) * 4294967296 * (y / 2 ^ 64)) = 2 ^ 64 * (y / 2 ^ 64) := by
      rw [← Nat.mul_assoc, ← Nat.mul_assoc, ← Nat.pow_add, show s + (32 - s) = 32 by omega]
    omega
  have e4 : y / 2 ^ s = y % 2 ^ 64 / 2 ^ s + 2 ^ (32 - s) * 4294967296 * (y / 2 ^ 64) := by
    conv => lhs; rw [e3]
    rw [Nat.add_mul_div_left _ _ (Nat.pow_pos (by decide))]
  rw [e4, show 2 ^ (32 - s) * 4294967296 * (y / 2 ^ 64) = 4294967296 * (2 ^ (32 - s) * (y / 2 ^ 64)) by rw [Nat.mul_comm (2 ^ (32 - s)), Nat.mul_assoc], Nat.add_mul_mod_self_left]
theorem Ac8 {x n : Nat} (h : (Aj B32 x).length ≤ n / 32) : x / 2 ^ n = 0 := by
  refine Nat.div_eq_of_lt (Nat.lt_of_lt_of_le (Gh (b := B32) (by decide) x) ?_)
  generalize (Aj B32 x).length = L at *
  rw [show B32 = 2 ^ 32 from rfl, ← Nat.pow_mul]
  exact Nat.pow_le_pow_right (by decide) (by omega)
theorem Ahb {x n : Nat} (h : n / 32 ≤ (Aj B32 x).length) : x / 2 ^ n < B32 ^ ((Aj B32 x).length - n / 32) := by
  have h1 := Gh (b := B32) (by decide) x
  rw [Nat.div_lt_iff_lt_mul (Nat.pow_pos (by decide))]
  have h2 : ∀ L, n / 32 ≤ L → B32 ^ (L - n / 32) * 2 ^ n = B32 ^ L * 2 ^ (n % 32) := fun L hL => by
    rw [show B32 = 2 ^ 32 from rfl, ← Nat.pow_mul, ← Nat.pow_mul, ← Nat.pow_add, ← Nat.pow_add]
    congr 1
    omega
  rw [h2 _ h]
  have h3 : B32 ^ (Aj B32 x).length * 1 ≤ B32 ^ (Aj B32 x).length * 2 ^ (n % 32) := Nat.mul_le_mul_left _ (Nat.pow_pos (by decide))
  omega

def dgl (z j : Nat) : Int := ((z / 2 ^ (64 * j) % 2 ^ 64 : Nat) : Int)
def dll (z m : Nat) : List Int := (List.range m).map (dgl z)
theorem lm_lt (x : Nat) : x < 2 ^ (64 * (lm (x : Int)).length) := by
  have h := E4 (Dc (x : Int))
  rw [J3 (Int.natCast_nonneg _), Oo] at h
  exact Int.ofNat_lt.1 h
theorem Vu {z n : Nat} (h : z < 2 ^ n) : Aq (z : Int) ≤ n := Cn.2 (by rw [Int.natAbs_natCast]; exact h)
def tw (v : Int) : Nat := if v < 0 then (-v - 1).toNat else v.toNat
def andI (v w : Int) : Int :=
  if v < 0 then (if w < 0 then -((tw v ||| tw w : Nat) : Int) - 1 else ((tw w ^^^ (tw w &&& tw v) : Nat) : Int))
  else (if w < 0 then ((tw v ^^^ (tw v &&& tw w) : Nat) : Int) else ((tw v &&& tw w : Nat) : Int))
def orI (v w : Int) : Int :=
  if v < 0 then (if w < 0 then -((tw v &&& tw w : Nat) : Int) - 1 else -((tw v ^^^ (tw v &&& tw w) : Nat) : Int) - 1)
  else (if w < 0 then -((tw w ^^^ (tw w &&& tw v) : Nat) : Int) - 1 else ((tw v ||| tw w : Nat) : Int))
def xoI (v w : Int) : Int := if (decide (v < 0) != decide (w < 0)) = true then -((tw v ^^^ tw w : Nat) : Int) - 1 else ((tw v ^^^ tw w : Nat) : Int)
theorem Acw {x n : Nat} (h : 0 < x) : n ≤ tz x ↔ 2 ^ n ∣ x := by
  obtain ⟨j, hj⟩ := Kr h
  constructor
  · intro h1
    refine Nat.dvd_trans (Nat.pow_dvd_pow 2 h1) ⟨2 * j + 1, hj⟩
  · intro h1
    rcases Nat.lt_or_ge (tz x) n with h2 | h2
    · exfalso
      have h3 : 2 ^ (tz x + 1) ∣ x := Nat.dvd_trans (Nat.pow_dvd_pow 2 h2) h1
      obtain ⟨m, hm⟩ := h3
      have hp : 0 < 2 ^ tz x := Nat.pow_pos (by decide)
      have e : 2 ^ tz x * (2 * m) = 2 ^ tz x * (2 * j + 1) := by rw [← Nat.mul_assoc, ← Nat.pow_succ, ← hm, ← hj]
      have := Nat.eq_of_mul_eq_mul_left hp e
      omega
    · exact h2
def bitI (v : Int) (i : Nat) : Int := if v < 0 then 1 - ((tw v / 2 ^ i % 2 : Nat) : Int) else ((tw v / 2 ^ i % 2 : Nat) : Int)

def Rw (l : List Int) (x : Nat) : Prop := Az l ∧ vl l = (x : Int) ∧ l.length ≤ 1048576
theorem Rw.u {l : List Int} {x : Nat} (h : Rw l x) : Az l := h.1
theorem Rw.v {l : List Int} {x : Nat} (h : Rw l x) : vl l = (x : Int) := h.2.1
theorem Rw.l {l : List Int} {x : Nat} (h : Rw l x) : l.length ≤ 1048576 := h.2.2
theorem Rw.t {l : List Int} {x : Nat} (h : Rw l x) : trm l = lm (x : Int) := Fv h.1 h.2.1
theorem Rw.b {l : List Int} {x : Nat} (h : Rw l x) : Aq (x : Int) ≤ 67108864 := by
  have h1 := Im (s := false) h.1
  rw [show sv false l = (x : Int) from h.2.1] at h1
  have := h.2.2
  omega
theorem Rw.b' {l : List Int} {x : Nat} (h : Rw l x) : Aq (x : Int) ≤ 64 * l.length := by
  have h1 := Im (s := false) h.1
  rwa [show sv false l = (x : Int) from h.2.1] at h1
theorem Rw.n {l : List Int} {x : Nat} (h : Rw l x) : Hb l = Aq (x : Int) := F3 h.1 h.2.1
theorem Rw.of {x : Nat} (h : Aq (x : Int) ≤ 67108864) : Rw (lm (x : Int)) x := ⟨Dc _, by rw [S2, Int.natAbs_natCast], Bv h⟩
theorem Rw.nil : Rw [] 0 := ⟨fun x hx => (by cases hx), rfl, Nat.zero_le _⟩
theorem I7 {x y : Nat} (h : x ≤ y) : Aq (x : Int) ≤ Aq (y : Int) := Cc (by omega)
theorem Vt {x : Nat} : Aq (x : Int) = 0 ↔ x = 0 := by
  unfold Aq
  rw [Int.natAbs_natCast]
  constructor
  · intro h
    rcases Nat.eq_zero_or_pos x with h0 | h0
    · exact h0
    · have := Dy (n := x) (by omega); omega
  · rintro rfl; rfl
theorem Ahs {x y : Nat} : qn (x : Int) (y : Int) = ((x / y : Nat) : Int) := by
  unfold qn
  rw [Int.natAbs_natCast, Int.natAbs_natCast]
  rfl
theorem Hk {x : Nat} : (lm (x : Int)).length = 0 ↔ x = 0 := by
  constructor
  · intro h
    refine Decidable.byContradiction fun hx => ?_
    exact Qn (show (x : Int) ≠ 0 by omega) (List.eq_nil_of_length_eq_zero h)
  · rintro rfl; rw [show ((0 : Nat) : Int) = 0 from rfl, Aey]; rfl
theorem Vp : lm ((1 : Nat) : Int) = [1] := by rw [← Zq (v := ((1 : Nat) : Int)) (by decide) (by decide)]; rfl
def rn0 (x y : Nat) : Nat := x / Nat.gcd x y
def rd0 (x y : Nat) : Nat := y / Nat.gcd x y
def sgq (s : Bool) (x : Nat) : Bool := s && decide (x ≠ 0)
theorem Ge {x y : Nat} (hy : y ≠ 0) : 0 < Nat.gcd x y := Nat.gcd_pos_of_pos_right _ (by omega)
theorem Aa8 {x y : Nat} : rn0 x y ≤ x := Nat.div_le_self _ _
theorem Abb {x y : Nat} : rd0 x y ≤ y := Nat.div_le_self _ _
theorem K4 {x y : Nat} (hy : y ≠ 0) : 0 < rd0 x y := Nat.div_pos (Nat.le_of_dvd (by omega) (Nat.gcd_dvd_right _ _)) (Ge hy)
theorem Kz {x y : Nat} : rn0 x y * Nat.gcd x y = x := Nat.div_mul_cancel (Nat.gcd_dvd_left _ _)
theorem My {x y : Nat} : rd0 x y * Nat.gcd x y = y := Nat.div_mul_cancel (Nat.gcd_dvd_right _ _)
theorem Yc {y : Nat} : rn0 0 y = 0 := by unfold rn0; exact Nat.zero_div _
theorem Ahq {y : Nat} (hy : y ≠ 0) : rd0 0 y = 1 := by unfold rd0; rw [Nat.gcd_zero_left]; exact Nat.div_self (by omega)
theorem Adm {x y : Nat} : rn0 x y = 0 ↔ x = 0 := by
  constructor
  · intro h
    have := @Kz x y
    rw [h, Nat.zero_mul] at this
    exact this.symm
  · rintro rfl; exact Yc
theorem Un {x y : Nat} (hy : y ≠ 0) : Nat.gcd (rn0 x y) (rd0 x y) = 1 := by
  have h := Nat.gcd_mul_right (rn0 x y) (Nat.gcd x y) (rd0 x y)
  rw [Kz, My] at h
  have h1 := Ge (x := x) hy
  have h2 : Nat.gcd (rn0 x y) (rd0 x y) * Nat.gcd x y = 1 * Nat.gcd x y := by omega
  exact Nat.eq_of_mul_eq_mul_right h1 h2
theorem Ahj {x y L : Nat} (h : Aq (x : Int) ≤ L) : Aq ((rn0 x y : Nat) : Int) ≤ L := Nat.le_trans (I7 Aa8) h
theorem Adt {x y L : Nat} (h : Aq (y : Int) ≤ L) : Aq ((rd0 x y : Nat) : Int) ≤ L := Nat.le_trans (I7 Abb) h
theorem gcd_b {x y L : Nat} (hy : y ≠ 0) (h : Aq (y : Int) ≤ L) : Aq ((Nat.gcd x y : Nat) : Int) ≤ L := Nat.le_trans (I7 (Nat.le_of_dvd (by omega) (Nat.gcd_dvd_right _ _))) h

theorem Ade {s : Bool} : sgq s 0 = false := by cases s <;> rfl
theorem Ahd {s : Bool} {x : Nat} (h : x ≠ 0) : sgq s x = s := by unfold sgq; rw [decide_eq_true h, Bool.and_true]
theorem Ait {v : Nat} (h0 : 0 < v) (h : v < 18446744073709551616) : lm ((v : Nat) : Int) = [(v : Int)] := by rw [← Zq (by omega) (by omega), if_neg (by omega)]
theorem rw_1 {v : Nat} (h0 : 0 < v) (h : v < 18446744073709551616) : Rw [(v : Int)] v := ⟨fun x hx => (by rw [List.mem_singleton] at hx; omega), (by show (v : Int) + Bs * 0 = _; omega), (by show 1 ≤ _; decide)⟩
def rtV (r : Bool × List Int × List Int) : List V := [.b r.1, .n false .u64 r.2.1, .n false .u64 r.2.2]
def Aa7 (rs : List (Bool × List Int × List Int)) : List (List V) := rs.map rtV
def Lq (rs : List (Bool × List Int × List Int)) (i : Nat) : Bool × List Int × List Int := rs.getD i (false, [], [])
theorem Rm {rs : List (Bool × List Int × List Int)} : (Aa7 rs).length = rs.length := by unfold Aa7; simp
theorem Adi {rs : List (Bool × List Int × List Int)} {i : Nat} (h : i < rs.length) : (Aa7 rs)[i]? = some [V.b (Lq rs i).1, V.n false .u64 (Lq rs i).2.1, V.n false .u64 (Lq rs i).2.2] := by
  unfold Aa7 Lq
  rw [List.getElem?_map, List.getD_eq_getElem?_getD, List.getElem?_eq_getElem h]
  rfl
def lkO (tg : TypeId) (rs : List (Bool × List Int × List Int)) : Out := if rs.all (fun r => decide (vl r.2.2 ≠ 0)) then .ret (.t []) else .pan (Ab0 tg 70 false)
theorem lkO_n {tg : TypeId} {rs : List (Bool × List Int × List Int)} {i : Nat} (hi : i < rs.length) (h : vl (Lq rs i).2.2 = 0) : lkO tg rs = .pan (Ab0 tg 70 false) := by
  unfold lkO
  rw [if_neg]
  intro h1
  have h2 := List.all_eq_true.1 h1 _ (List.getElem_mem hi)
  unfold Lq at h
  rw [List.getD_eq_getElem?_getD, List.getElem?_eq_getElem hi] at h
  simp at h2
  exact h2 h
theorem lkO_y {tg : TypeId} {rs : List (Bool × List Int × List Int)} (h : ∀ j < rs.length, vl (Lq rs j).2.2 ≠ 0) : lkO tg rs = .ret (.t []) := by
  unfold lkO
  rw [if_pos]
  refine List.all_eq_true.2 fun r hr => decide_eq_true ?_
  obtain ⟨j, hj, rfl⟩ := List.getElem_of_mem hr
  have h2 := h j hj
  unfold Lq at h2
  rwa [List.getD_eq_getElem?_getD, List.getElem?_eq_getElem hj] at h2
def ntx (x : Nat) : ByteArray := txt (hdg 10 1 x)
def Aga (s : Bool) (x : Nat) : ByteArray := if s then (⟨#[45]⟩ : ByteArray) ++ ntx x else ntx x
def rtx (s : Bool) (x y : Nat) : ByteArray := if y = 1 then Aga s x else Aga s x ++ ((⟨#[47]⟩ : ByteArray) ++ ntx y)
theorem U9 {x L : Nat} (h : Aq (x : Int) ≤ L) : (ntx x).size ≤ L + 1 := by
  unfold ntx
  rw [X0, Ma]
  have h2 : x < 10 ^ L := Nat.lt_of_lt_of_le (Cn.1 h) (Nat.pow_le_pow_left (by decide) _)
  have := E0 (b := 10) (by decide) L x h2
  omega
theorem R4 (x : Nat) (h : Aq (x : Int) ≤ 67108864) : (ntx x).size ≤ 67108865 := U9 h

theorem Y8 {a b c d : Nat} (h1 : Nat.gcd a b = 1) (h2 : Nat.gcd c d = 1) (hb : b ≠ 0) (hd : d ≠ 0) (h : a * d = c * b) : a = c ∧ b = d := by
  have e1 : b ∣ d := by
    have hc : Nat.Coprime b a := by rw [Nat.coprime_comm]; exact h1
    exact hc.dvd_of_dvd_mul_left (h ▸ Nat.dvd_mul_left b c)
  have e2 : d ∣ b := by
    have hc : Nat.Coprime d c := by rw [Nat.coprime_comm]; exact h2
    exact hc.dvd_of_dvd_mul_left (h ▸ Nat.dvd_mul_left d a)
  have e := Nat.dvd_antisymm e1 e2
  subst e
  exact ⟨Nat.eq_of_mul_eq_mul_right (Nat.pos_of_ne_zero hb) h, rfl⟩
def nn (z : Int) (Y : Nat) : Nat := rn0 z.natAbs Y
def dd (z : Int) (Y : Nat) : Nat := rd0 z.natAbs Y
theorem Ais {a b : Nat} {z : Int} {Y : Nat} (h1 : Nat.gcd a b = 1) (hb : b ≠ 0) (hY : Y ≠ 0) (h : a * Y = z.natAbs * b) : a = nn z Y ∧ b = dd z Y := by
  refine Y8 h1 (Un hY) hb (Nat.pos_iff_ne_zero.1 (K4 hY)) ?_
  have e1 : nn z Y * Nat.gcd z.natAbs Y = z.natAbs := @Kz z.natAbs Y
  have e2 : dd z Y * Nat.gcd z.natAbs Y = Y := @My z.natAbs Y
  have hg := Ge (x := z.natAbs) hY
  refine Nat.eq_of_mul_eq_mul_right hg ?_
  show a * dd z Y * _ = nn z Y * b * _
  rw [Nat.mul_assoc, e2, h, Nat.mul_right_comm, e1]
theorem Agd {s : Bool} {x k : Nat} : zs s (x * k) = zs s x * (k : Int) := by
  unfold zs
  cases s <;> simp [Int.neg_mul]
theorem Age (z : Int) : zs (decide (z < 0)) z.natAbs = z := by
  unfold zs
  by_cases h : z < 0
  · rw [if_pos (decide_eq_true h)]; omega
  · rw [if_neg (by rw [decide_eq_false h]; decide)]; omega
def Qe (s : Bool) (x y : Nat) (z : Int) (Y : Nat) : Prop := y ≠ 0 ∧ Y ≠ 0 ∧ zs s x * (Y : Int) = z * (y : Int)
theorem Qe.abs {s : Bool} {x y : Nat} {z : Int} {Y : Nat} (h : Qe s x y z Y) : x * Y = z.natAbs * y := by
  have := congrArg Int.natAbs h.2.2
  rwa [Int.natAbs_mul, Int.natAbs_mul, Int.natAbs_natCast, Int.natAbs_natCast, Nz] at this
theorem Qe.low {s : Bool} {x y : Nat} {z : Int} {Y : Nat} (h : Qe s x y z Y) : rn0 x y = nn z Y ∧ rd0 x y = dd z Y := by
  refine Ais (Un h.1) (Nat.pos_iff_ne_zero.1 (K4 h.1)) h.2.1 ?_
  have hg := Ge (x := x) h.1
  refine Nat.eq_of_mul_eq_mul_right hg ?_
  rw [Nat.mul_right_comm, Kz, Nat.mul_assoc, My, h.abs]
theorem Qe.can (z : Int) {Y : Nat} (hY : Y ≠ 0) : Qe (decide (z < 0)) (nn z Y) (dd z Y) z Y := by
  refine ⟨Nat.pos_iff_ne_zero.1 (K4 hY), hY, ?_⟩
  have e1 := @Kz z.natAbs Y
  have e2 := @My z.natAbs Y
  have hg := Ge (x := z.natAbs) hY
  have e3 : (nn z Y : Nat) * Nat.gcd z.natAbs Y = z.natAbs := e1
  have e4 : (dd z Y : Nat) * Nat.gcd z.natAbs Y = Y := e2
  have h1 : zs (decide (z < 0)) (nn z Y) * ((Nat.gcd z.natAbs Y : Nat) : Int) = z := by rw [← Agd, e3, Age]
  have h2 : (Y : Int) = (dd z Y : Int) * ((Nat.gcd z.natAbs Y : Nat) : Int) := by exact_mod_cast e4.symm
  rw [h2]
  generalize (Nat.gcd z.natAbs Y : Nat) = G at *
  generalize zs (decide (z < 0)) (nn z Y) = A at *
  generalize (dd z Y : Int) = D at *
  rw [← h1]
  simp only [Int.mul_assoc, Int.mul_comm, Int.mul_left_comm]
theorem Qe.add {s t : Bool} {x y x2 y2 : Nat} {z w : Int} {Y X : Nat} (h1 : Qe s x y z Y) (h2 : Qe t x2 y2 w X) : (zs s x * (y2 : Int) + zs t x2 * (y : Int)) * ((Y * X : Nat) : Int) = (z * (X : Int) + w * (Y : Int)) * ((y * y2 : Nat) : Int) := by
  have e1 := h1.2.2
  have e2 := h2.2.2
  rw [Int.natCast_mul, Int.natCast_mul]
  generalize zs s x = A at *
  generalize zs t x2 = B at *
  have : (A * (y2 : Int) + B * (y : Int)) * ((Y : Int) * (X : Int)) = (A * (Y : Int)) * ((y2 : Int) * (X : Int)) + (B * (X : Int)) * ((y : Int) * (Y : Int)) := by
    rw [Int.add_mul]; congr 1 <;> simp only [Int.mul_assoc, Int.mul_comm, Int.mul_left_comm]
  rw [this, e1, e2, Int.add_mul]
  congr 1 <;> simp only [Int.mul_assoc, Int.mul_comm, Int.mul_left_comm]
theorem Qe.mul {s t : Bool} {x y x2 y2 : Nat} {z w : Int} {Y X : Nat} (h1 : Qe s x y z Y) (h2 : Qe t x2 y2 w X) : (zs s x * zs t x2) * ((Y * X : Nat) : Int) = (z * w) * ((y * y2 : Nat) : Int) := by
  have e1 := h1.2.2
  have e2 := h2.2.2
  rw [Int.natCast_mul, Int.natCast_mul]
  generalize zs s x = A at *
  generalize zs t x2 = B at *
  have : A * B * ((Y : Int) * (X : Int)) = (A * (Y : Int)) * (B * (X : Int)) := by simp only [Int.mul_assoc, Int.mul_comm, Int.mul_left_comm]
  rw [this, e1, e2]
  simp only [Int.mul_assoc, Int.mul_comm, Int.mul_left_comm]

theorem Vo {s : Bool} {n : Nat} : lm (zs s n) = lm (n : Int) := by unfold lm; rw [Nz, Int.natAbs_natCast]
theorem Jo {s : Bool} {n : Nat} : Aq (zs s n) = Aq (n : Int) := by unfold Aq; rw [Nz, Int.natAbs_natCast]
theorem R8 (v : Int) : Aq ((v.natAbs : Nat) : Int) = Aq v := by unfold Aq; rw [Int.natAbs_natCast]
theorem Sw {s : Bool} {n : Nat} : sv s (lm (n : Int)) = zs s n := by unfold sv zs; rw [S2, Int.natAbs_natCast]
theorem Rw.sv {s : Bool} {l : List Int} {x : Nat} (h : Rw l x) : sv s l = zs s x := by unfold Vc.sv zs; rw [h.v]
theorem Qe.d0 {s : Bool} {x y : Nat} {z : Int} {Y : Nat} (h : Qe s x y z Y) : rd0 x y ≠ 0 := Nat.pos_iff_ne_zero.1 (K4 h.1)
theorem Agc {s : Bool} {x : Nat} : zs s x = 0 ↔ x = 0 := by unfold zs; split <;> omega
theorem Qe.z0 {s : Bool} {x y : Nat} {z : Int} {Y : Nat} (h : Qe s x y z Y) : x = 0 ↔ z = 0 := by
  have := h.abs
  have h1 := h.1
  have h2 := h.2.1
  constructor
  · intro e
    rw [e, Nat.zero_mul] at this
    rcases Nat.mul_eq_zero.1 this.symm with h3 | h3
    · omega
    · omega
  · intro e
    rw [e] at this
    rw [Int.natAbs_zero, Nat.zero_mul] at this
    rcases Nat.mul_eq_zero.1 this with h3 | h3
    · exact h3
    · omega
def cN (a b c d : Nat) : Int := Ht ((a * d : Nat) : Int) ((c * b : Nat) : Int)

theorem nn_b {z : Int} {Y : Nat} : Aq ((nn z Y : Nat) : Int) ≤ Aq z := by rw [← R8 z]; exact I7 Aa8
theorem dd_b {z : Int} {Y : Nat} : Aq ((dd z Y : Nat) : Int) ≤ Aq (Y : Int) := I7 Abb
structure Qr (s : Bool) (l d : List Int) (x y : Nat) (z : Int) (Y b : Nat) : Prop where
  hx : Rw l x
  hy : Rw d y
  q : Qe s x y z Y
  bx : Aq (x : Int) ≤ b
  bd : Aq (y : Int) ≤ b
  bz : Aq z ≤ b
  bY : Aq (Y : Int) ≤ b
theorem Qr.can {z : Int} {Y b : Nat} (h0 : Y ≠ 0) (h1 : Aq z ≤ b) (h2 : Aq (Y : Int) ≤ b) (hb : b ≤ 67108864) : Qr (decide (z < 0)) (lm ((nn z Y : Nat) : Int)) (lm ((dd z Y : Nat) : Int)) (nn z Y) (dd z Y) z Y b :=
  ⟨Rw.of (Nat.le_trans nn_b (Nat.le_trans h1 hb)), Rw.of (Nat.le_trans dd_b (Nat.le_trans h2 hb)), Qe.can z h0, Nat.le_trans nn_b h1, Nat.le_trans dd_b h2, h1, h2⟩
variable {s t : Bool} {l d l2 d2 : List Int} {x y x2 y2 : Nat} {z w : Int} {Y X b c : Nat}
theorem Qr.add (h1 : Qr s l d x y z Y b) (h2 : Qr t l2 d2 x2 y2 w X c) (hb : b + c + 1 ≤ 67108864) {Z : Int} {W : Nat} (eZ : Z = z * (X : Int) + w * (Y : Int)) (eW : W = Y * X) :
    Qr (decide (Z < 0)) (lm ((nn Z W : Nat) : Int)) (lm ((dd Z W : Nat) : Int)) (nn Z W) (dd Z W) Z W (b + c + 1) := by
  subst eZ eW
  have b1 := h1.bz
  have b2 := h1.bY
  have b3 := h2.bz
  have b4 := h2.bY
  refine Qr.can (Nat.mul_ne_zero h1.q.2.1 h2.q.2.1) ?_ ?_ hb
  · have h8 := Gz z (X : Int)
    have h9 := Gz w (Y : Int)
    have h7 := Zd (z * (X : Int)) (w * (Y : Int))
    omega
  · rw [Int.natCast_mul]
    have h8 := Gz (Y : Int) (X : Int)
    omega
theorem Qr.mul (h1 : Qr s l d x y z Y b) (h2 : Qr t l2 d2 x2 y2 w X c) (hb : b + c + 1 ≤ 67108864) {Z : Int} {W : Nat} (eZ : Z = z * w) (eW : W = Y * X) :
    Qr (decide (Z < 0)) (lm ((nn Z W : Nat) : Int)) (lm ((dd Z W : Nat) : Int)) (nn Z W) (dd Z W) Z W (b + c + 1) := by
  subst eZ eW
  have b1 := h1.bz
  have b2 := h1.bY
  have b3 := h2.bz
  have b4 := h2.bY
  refine Qr.can (Nat.mul_ne_zero h1.q.2.1 h2.q.2.1) ?_ ?_ hb
  · have h8 := Gz z w
    omega
  · rw [Int.natCast_mul]
    have h8 := Gz (Y : Int) (X : Int)
    omega
theorem Qr.quo (h1 : Qr s l d x y z Y b) (h2 : Qr t l2 d2 x2 y2 w X c) (hb : b + c + 1 ≤ 67108864) (hx2 : x2 ≠ 0) {Z : Int} {W : Nat} (eZ : Z = z * zs (decide (w < 0)) X) (eW : W = Y * w.natAbs) :
    Qr (decide (Z < 0)) (lm ((nn Z W : Nat) : Int)) (lm ((dd Z W : Nat) : Int)) (nn Z W) (dd Z W) Z W (b + c + 1) := by
  subst eZ eW
  have b1 := h1.bz
  have b2 := h1.bY
  have b3 := h2.bz
  have b4 := h2.bY
  have hw : w ≠ 0 := fun e => hx2 (h2.q.z0.2 e)
  refine Qr.can (Nat.mul_ne_zero h1.q.2.1 (by omega)) ?_ ?_ hb
  · have h8 := Gz z (zs (decide (w < 0)) X)
    rw [Jo] at h8
    omega
  · rw [Int.natCast_mul]
    have h8 := Gz (Y : Int) ((w.natAbs : Nat) : Int)
    rw [R8] at h8
    omega
theorem Qr.neg (h : Qr s l d x y z Y b) (hb : b ≤ 67108864) : Qr (decide (-z < 0)) (lm ((nn (-z) Y : Nat) : Int)) (lm ((dd (-z) Y : Nat) : Int)) (nn (-z) Y) (dd (-z) Y) (-z) Y b :=
  Qr.can h.q.2.1 (by have := h.bz; rwa [show Aq (-z) = Aq z by unfold Aq; rw [Int.natAbs_neg]]) h.bY hb
theorem Qr.low (h : Qr s l d x y z Y b) (hb : b ≤ 67108864) : Qr (decide (z < 0)) (lm ((nn z Y : Nat) : Int)) (lm ((dd z Y : Nat) : Int)) (nn z Y) (dd z Y) z Y b := Qr.can h.q.2.1 h.bz h.bY hb
def okR (r : Bool × List Int × List Int) : Prop := vl r.2.2 ≠ 0 ∧ Aq (vl r.2.2) ≤ 1048576 ∧ Aq (vl r.2.1) ≤ 1048576
instance (r : Bool × List Int × List Int) : Decidable (okR r) := by unfold okR; exact inferInstance
def smallQ (rs : List (Bool × List Int × List Int)) : Bool := rs.all fun r => decide (okR r)
end Go.Proofs.YtnadmljoefecfaaGreatDoor.Vc

namespace Go.Proofs.YtnadmljoefecfaaGreatDoor.Vc
open Go Go.RowKit
theorem Agf (b : Nat) (hb : 2 ≤ b) (hb2 : b ≤ 36) : Spec Tryz.prog 141 [.i .i64 (b : Int)] (fun o => ∃ n : Nat, o = .ret (.t [.i .u64 ((b ^ n : Nat) : Int), .i .i64 (n : Int)]) ∧ 1 ≤ n ∧ n ≤ 63 ∧ b ^ n ≤ 9223372036854775808) := by
  refine Au [(0, .i .i64 (b : Int))] rfl Tryz.func141 rfl (zlb rfl) fun Γ hN hds hL hR => ?_
  have hd := Bt 19 hN
  refine zsr <| zas rfl (hd 2 rfl) <| zas rfl (hd 3 rfl) <| Aa <| zsr <| zas rfl (hd 4 rfl) <| zas rfl (hd 5 rfl) <| Aa <| Ae <| Ap ?_
  refine Bq (G := Nat × Nat) (fun g => g.2 = b ^ g.1 ∧ 2 ^ g.1 ≤ g.2 ∧ g.2 ≤ 9223372036854775808 ∧ g.1 ≤ 63) (fun g => [(4, .i .u64 (g.2 : Int)), (5, .i .i64 (g.1 : Int)), (6, .u), (7, .u), (8, .u), (9, .u), (10, .u), (11, .u), (12, .u), (13, .u), (14, .u), (15, .u), (16, .u)]) (fun _ => _) (fun g => 64 - g.1) (0, 1) ?_ ?_ rfl ?_
  · exact ⟨rfl, Nat.le_refl _, by decide, by decide⟩
  · exact (.cons rfl (.cons rfl (.v9 (.u .nil))))
  · rintro ⟨n, p⟩ ⟨hc1, hc2, hc3, hc4⟩
    dsimp only at hc1 hc2 hc3 hc4
    refine Ae <| zsr <| zmv rfl (hd 6 rfl) <| zmv rfl (hd 7 rfl) <| Ac (Cv Jx G9 rfl (r := (b : Int)) (A0 (by omega) (by omega))) (hd 8 rfl) <| Ac (Dk rfl rfl (by omega) (r := ((9223372036854775808 / b : Nat) : Int)) (by rw [show ((9223372036854775808 : Int).tdiv (b : Int)) = ((9223372036854775808 / b : Nat) : Int) from rfl]; exact A0 (Int.natCast_nonneg _) (by have := Nat.div_le_self 9223372036854775808 b; generalize 9223372036854775808 / b = q at *; omega))) (hd 9 rfl) <| Ac (J5 rfl rfl) (hd 10 rfl) <| Aa ?_
    refine Bg rfl (fun h1 => ?_) (fun h1 => ?_)
    · obtain ⟨hs1, hs2, hs3⟩ := Agg hb hc1 hc2 (by omega : p ≤ 9223372036854775808 / b)
      refine Ai <| Ap <| zsr <| zmv rfl (hd 11 rfl) <| zmv rfl (hd 12 rfl) <| Ac (Cv Jx G9 rfl (r := (b : Int)) (A0 (by omega) (by omega))) (hd 13 rfl) <| Ac (Dg rfl rfl (r := ((p * b : Nat) : Int)) (by dsimp only; rw [← Int.natCast_mul]; exact A0 (by omega) (by omega))) (hd 14 rfl) <| zas rfl (hd 4 rfl) <| Aa <| Af <| zmv rfl (hd 15 rfl) <| Ac (Aw rfl rfl (r := ((n + 1 : Nat) : Int)) (by rw [Ag (by omega) (by omega)]; omega)) (hd 16 rfl) ?_; refine zas rfl (hd 5 rfl) <| Aa ?_
      refine ⟨(n + 1, p * b), ?_, ?_, rfl, A5 26 rfl rfl ?_⟩
      · exact ⟨hs1, hs2, hs3, w63 hs2 hs3⟩
      · show 64 - (n + 1) < 64 - n
        omega
      · exact (.cons rfl (.cons rfl (.v9 (.u .nil))))
    · have hn1 := Agh hb hb2 hc1 (by omega : ¬ p ≤ 9223372036854775808 / b)
      refine Bh <| zsr <| zmv rfl (hd 17 rfl) <| zmv rfl (hd 18 rfl) <| zas rfl (hd 2 rfl) <| zas rfl (hd 3 rfl) <| Aa <| Ao ?_
      refine ⟨_, _, (.cons rfl (.cons rfl .nil)), (.t1 .i (.t1 .i .t0)), ?_⟩
      exact ⟨n, by rw [hc1], hn1, hc4, by omega⟩

theorem Xd (l : List Int) (d : Int) (hl : l.length < 1073741824) (hu : Az l) (hd0 : 0 < d) (hd1 : d < 18446744073709551616) (hf : Hb l ≤ 67108864) : Spec Tryz.prog 142 [.n false .u64 l, .i .u64 d] (fun o => o = .ret (.t [.n false .u64 (lm (vl l / d)), .i .u64 (vl l % d), .i .i64 0])) := by
  refine Au [(0, .n false .u64 l), (1, .i .u64 d)] rfl Tryz.func142 rfl (zlb rfl) fun Γ hN hds hL hR => ?_
  have hd := Bt 48 hN
  have hm := Dj l
  have uT := Bz hu
  have hde := Ab1 (d := d) uT hd0
  rw [Fd] at hde
  have hv0 := Bf hu
  have hq : (vl l / d).natAbs ≤ (vl l).natAbs := by have := Int.ediv_nonneg hv0 (show 0 ≤ d by omega); have := Int.ediv_le_self d hv0; omega
  have hfq : Aq (vl l / d) ≤ 67108864 := Nat.le_trans (Cc hq) (by rw [← F3 hu rfl]; exact hf)
  refine zsr <| zas rfl (hd 4 rfl) <| zas rfl (hd 5 rfl) <| zas rfl (hd 6 rfl) <| Aa <| Ae <| zsr <| zmv rfl (hd 11 rfl) <| Ac (Bo (Ch rfl rfl) (by omega)) (hd 12 rfl) <| Aa <| A1 rfl ?_; refine Ai <| zsr <| zmv rfl (hd 13 rfl) ?_
  refine Ah Tryz.f72 (Fn l (by omega)) rfl Tryz.func72 rfl rfl (Ab rfl Ad) (.cons .n .nil) (hd 14 rfl) ?_ (fun ch hp => by simp at hp)
  rintro _ ⟨⟩; refine zas rfl (hd 0 rfl) <| Aa <| zsr <| zmv rfl (hd 15 rfl) <| Ac (As Bc rfl) (hd 16 rfl) <| A4 (F5 (m := (trm l).length) Lr rfl rfl rfl (by show 8 * (trm l).length ≤ _; omega) (by unfold maxLen; omega) rfl) (hd 17 rfl) <| zas rfl (hd 7 rfl) <| Aa <| zsr <| zas rfl (hd 8 rfl) <| Aa ?_; refine Ae <| zsr <| zmv rfl (hd 18 rfl) <| Ac (As Bc rfl) (hd 19 rfl) <| Ac (Bd rfl rfl (Ag (by omega) (by omega))) (hd 20 rfl) <| zas rfl (hd 9 rfl) <| Aa <| Ap <| Lo (H' := [⟨71, 1, 0, true, ints .u64 (List.replicate (trm l).length 0 ++ (dvN (trm l) d ((trm l).length - (trm l).length)).1)⟩]) (by rw [Nat.sub_self]; show _ = [(⟨71, 1, 0, true, ints .u64 (List.replicate (trm l).length 0 ++ [])⟩ : Ob)]; rw [List.append_nil]; rfl) ?_
  refine Bq (G := Nat) (fun k => k ≤ (trm l).length) (fun k => [(8, .i .u64 (dvN (trm l) d ((trm l).length - k)).2), (9, .i .i64 ((k : Int) - 1)), (21, .u), (22, .u), (23, .u), (24, .u), (25, .u), (26, .u), (27, .u), (28, .u), (29, .u), (30, .u), (31, .u), (32, .u), (33, .u), (34, .u), (35, .u), (36, .u), (37, .u)]) (fun k => [⟨71, 1, 0, true, ints .u64 (List.replicate k 0 ++ (dvN (trm l) d ((trm l).length - k)).1)⟩]) (fun k => k) (trm l).length ?_ ?_ rfl ?_
  · exact Nat.le_refl _
  · exact (.cons (by show some (V.i .u64 0) = some (V.i .u64 (dvN (trm l) d ((trm l).length - (trm l).length)).2); rw [Nat.sub_self]; rfl) (.cons rfl (.v9 (.v5 (.u (.u .nil))))))
  · rintro k hc1
    have hr := Zv (a := trm l) hd0 ((trm l).length - k)
    have hx := A2 uT (k - 1)
    refine Ae <| zsr <| zmv rfl (hd 21 rfl) <| Ac (Eh rfl rfl) (hd 22 rfl) <| Aa ?_
    refine Bg rfl (fun h2 => ?_) (fun h2 => ?_)
    · refine Ai <| Ae <| Ap <| Af <| zmv rfl (hd 26 rfl) <| zmv rfl (hd 27 rfl) <| zmv rfl (hd 28 rfl) <| zmv rfl (hd 29 rfl) <| zmv rfl (hd 30 rfl) <| Ac (B2 (i := k - 1) Bc rfl rfl (by omega) (by omega)) (hd 31 rfl) <| Ac (Bw Bj rfl rfl) (hd 32 rfl) <| zmv rfl (hd 33 rfl) ?_
      refine Ah Tryz.f126 (Q7 (dvN (trm l) d ((trm l).length - k)).2 ((trm l).getD (k - 1) 0) d hr.1 hr.2 hx.1 hx.2 hd1) rfl Tryz.func126 rfl rfl (Ab rfl (Ab rfl (Ab rfl Ad))) (.cons .i (.cons .i (.cons .i .nil))) (hd 34 rfl) ?_ (fun ch hp => by simp at hp)
      rintro _ ⟨⟩; refine zmv rfl (hd 25 rfl) <| Ac (Am rfl rfl) (hd 35 rfl) <| Ac (Am rfl rfl) (hd 36 rfl) <| Ac (Cd (i := k - 1) Bc rfl rfl rfl (by omega) (by omega) rfl) (hd 37 rfl) <| A6 (B3 rfl rfl rfl Bj (by simp only [List.length_append, List.length_replicate, G4]; omega)) <| zas rfl (hd 8 rfl) <| Aa <| Af <| zmv rfl (hd 23 rfl) <| Ac (Bd rfl rfl (Ag (by omega) (by omega))) (hd 24 rfl) <| zas rfl (hd 9 rfl) <| Aa ?_
      refine ⟨k - 1, ?_, ?_, (by show [(⟨71, 1, 0, true, ints .u64 _⟩ : Ob)] = [⟨71, 1, 0, true, ints .u64 _⟩]; rw [Pb (by omega), Nh (by omega) hc1]), A5 38 rfl rfl ?_⟩
      · omega
      · omega
      · exact (.cons (by show some (V.i .u64 _) = some (V.i .u64 _); rw [Nh (by omega) hc1]) (.cons (by show some (V.i .i64 _) = some (V.i .i64 _); congr 2; omega) (.v9 (.v5 (.u (.u .nil))))))
    · obtain rfl : k = 0 := by omega
      refine Bh <| Ae <| Ia (k := .u64) (l := List.replicate 0 0 ++ (dvN (trm l) d ((trm l).length - 0)).1) (l' := (dvN (trm l) d (trm l).length).1) 7 rfl rfl (by simp [G4]) (by rw [Nat.sub_zero, List.drop_zero]; show List.take _ (dvN (trm l) d (trm l).length).1 = _; rw [List.take_of_length_le (by rw [G4]; exact Nat.le_refl _)]) hL <| Af <| zmv rfl (hd 39 rfl) ?_
      refine Ah Tryz.f75 (Mn (dvN (trm l) d (trm l).length).1 (by rw [G4]; omega) (Afk uT hd0 _) (by rw [hde.1, Le]; exact hfq)) rfl Tryz.func75 rfl rfl (Ab rfl Ad) (.cons .n .nil) (hd 40 rfl) ?_ (fun ch hp => by simp at hp)
      rintro _ ⟨⟩; refine zmv rfl (hd 38 rfl) <| Ac (Am rfl rfl) (hd 41 rfl) <| Ac (Am rfl rfl) (hd 42 rfl) <| zas rfl (hd 7 rfl) <| zas rfl (hd 10 rfl) <| Aa <| Ae <| zsr <| zmv rfl (hd 43 rfl) <| Ac (Bo (Ec rfl rfl) (by decide)) (hd 44 rfl) <| Aa <| A1 rfl ?_; refine Ai <| zsr <| zmv rfl (hd 46 rfl) <| zmv rfl (hd 47 rfl) <| zas rfl (hd 4 rfl) <| zas rfl (hd 5 rfl) <| zas rfl (hd 6 rfl) <| Aa <| Ao ?_
      refine ⟨_, _, (.cons rfl (.cons rfl (.cons rfl .nil))), (.t1 .nn (.t1 .i (.t1 .i .t0))), ?_⟩
      rw [Nat.sub_zero, hde.1, hde.2]

theorem Nq (l : List Int) (b m : Nat) (hl : l.length ≤ 1048576) (hu : Az l) (hb : 2 ≤ b) (hb2 : b ≤ 36) (hm : m ≤ 1099511627776) : SpecM Tryz.prog 131 [.n false .u64 l, .i .i64 (b : Int), .i .i64 (m : Int)] [] (fun o G => o = .ret (.o 0 0 0 (hdg b m (vl l).toNat).length) ∧ G = [⟨3, 1, 0, true, ints .i64 (hdg b m (vl l).toNat)⟩]) := by
  refine Eb [(0, .n false .u64 l), (1, .i .i64 (b : Int)), (2, .i .i64 (m : Int))] rfl Tryz.func131 rfl (zlb rfl) fun Γ hN hds hL hR => ?_
  have hd := Bt 102 hN
  have hlenl := Jp l
  have hv0 := Bf hu
  refine zsr <| zas rfl (hd 6 rfl) <| Aa <| zsr <| zas rfl (hd 7 rfl) <| Aa <| Ae <| V1 (id := 0) 7 3 1 rfl rfl <| Af <| zmv rfl (hd 17 rfl) ?_
  refine Ah Tryz.f141 (Agf b hb hb2) rfl Tryz.func141 rfl rfl (Ab rfl Ad) (.cons .i .nil) (hd 18 rfl) ?_ (fun ch hp => by simp at hp)
  rintro y ⟨n, hy, hn1, hn2, hn3⟩; injection hy with hy; subst hy; refine zmv rfl (hd 16 rfl) <| Ac (Am rfl rfl) (hd 19 rfl) <| Ac (Am rfl rfl) (hd 20 rfl) <| zas rfl (hd 8 rfl) <| zas rfl (hd 9 rfl) <| Aa <| Ae <| Ap ?_
  refine Gd (G := List Int × Nat × List Int × List Int) 1 (fun g => Az g.1 ∧ g.1.length ≤ 1048576 ∧ rng b g.2.2.1 ∧ vb b g.2.2.1 + (b : Int) ^ g.2.2.1.length * vl g.1 = vl l ∧ g.2.2.1.length ≤ 67108928 ∧ g.2.2.1.length ≤ g.2.2.2.length ∧ g.2.2.2.take g.2.2.1.length = g.2.2.1) (fun g => [(0, .n false .u64 g.1), (7, .o 0 g.2.1 0 g.2.2.1.length), (10, .u), (11, .u), (12, .u), (21, .u), (22, .u), (23, .u), (24, .u), (25, .u), (26, .u), (27, .u), (28, .u), (29, .u), (30, .u), (31, .u), (32, .u), (33, .u), (34, .u), (35, .u), (36, .u), (37, .u), (38, .u), (39, .u), (40, .u), (41, .u), (42, .u), (43, .u), (44, .u), (45, .u), (46, .u), (47, .u), (48, .u), (49, .u), (50, .u), (51, .u), (52, .u), (53, .u), (54, .u), (55, .u), (56, .u), (57, .u)]) (fun g => [⟨3, 1, g.2.1, true, ints .i64 g.2.2.2⟩]) (fun g => (vl g.1).toNat) (l, 0, [], []) ?_ ?_ rfl hR rfl (fun _ _ => rfl) (fun g _ => .cons A8 .nil) ?_
  · exact ⟨hu, hl, (fun x hx => by simp at hx), by simp [vb], Nat.zero_le _, Nat.le_refl _, rfl⟩
  · exact (.cons rfl (.cons rfl (.v9 (.v9 (.v9 (.v9 .nil))))))
  · rintro ⟨A, ver, acc, C⟩ ⟨uA, hA, hr, hI, hal, hC1, hC2⟩
    dsimp only at uA hA hr hI hal hC1 hC2
    have hlA := Jp A
    have hvA := Bf uA
    refine Ae <| zsr <| zmv rfl (hd 21 rfl) ?_
    refine Ah Tryz.f30 (Ee A (by omega) uA) rfl Tryz.func30 rfl rfl (Ab rfl Ad) (.cons .n .nil) (hd 22 rfl) ?_ (fun ch hp => by simp at hp)
    rintro _ ⟨⟩; refine Ac (Ca rfl rfl) (hd 23 rfl) <| Aa ?_
    refine Bg rfl (fun h1 => ?_) (fun h1 => ?_)
    · have hvp : 0 < vl A := by
        rcases Int.lt_or_le 0 (vl A) with h | h
        · exact h
        · have h2 := (Ld uA).2 (by omega)
          omega
      have hcap := dg_cap (L := 1048576) hb hr hvp hu hl hI
      have hbn : (0 : Int) < ((b ^ n : Nat) : Int) := by exact_mod_cast Nat.pow_pos (by omega)
      have hbn2 : ((b ^ n : Nat) : Int) ≤ 9223372036854775808 := by omega
      have hq0 : 0 ≤ vl A / ((b ^ n : Nat) : Int) := Int.ediv_nonneg hvA (by omega)
      have hrl : vl A % ((b ^ n : Nat) : Int) < 18446744073709551616 := by have := Int.emod_lt_of_pos (vl A) hbn; omega
      have hfA : Aq (vl A) ≤ 67108864 := by rw [← F3 uA rfl]; omega
      have hlq : (lm (vl A / ((b ^ n : Nat) : Int))).length ≤ 1048576 := Bv (Nat.le_trans (Cc (w := vl A) (by have := Int.ediv_le_self ((b ^ n : Nat) : Int) hvA; omega)) hfA)
      refine Ai <| Ap <| zsr <| zmv rfl (hd 25 rfl) <| zmv rfl (hd 26 rfl) ?_
      refine Ah Tryz.f142 (Xd A ((b ^ n : Nat) : Int) (by omega) uA hbn (by omega) (by omega)) rfl Tryz.func142 rfl rfl (Ab rfl (Ab rfl Ad)) (.cons .n (.cons .i .nil)) (hd 27 rfl) ?_ (fun ch hp => by simp at hp)
      rintro _ ⟨⟩; refine zmv rfl (hd 24 rfl) <| Ac (Am rfl rfl) (hd 28 rfl) <| Ac (Am rfl rfl) (hd 29 rfl) <| Ac (Am rfl rfl) (hd 30 rfl) <| zas rfl (hd 10 rfl) <| zas rfl (hd 11 rfl) <| zas rfl (hd 12 rfl) <| Aa <| Ae <| zsr <| zmv rfl (hd 31 rfl) <| Ac (Bo (Ec rfl rfl) (by decide)) (hd 32 rfl) ?_; refine Aa <| A1 rfl <| Ai <| Ae <| zsr <| zmv rfl (hd 41 rfl) <| zmv rfl (hd 42 rfl) <| Aa <| Ap ?_
      refine Gd (G := Nat × Nat × List Int × List Int × Int) 1 (fun g => g.1 ≤ n ∧ rng b g.2.2.1 ∧ g.2.2.1.length = acc.length + g.1 ∧ vb b g.2.2.1 + (b : Int) ^ g.2.2.1.length * g.2.2.2.2 = vb b acc + (b : Int) ^ acc.length * (vl A % ((b ^ n : Nat) : Int)) ∧ 0 ≤ g.2.2.2.2 ∧ g.2.2.2.2 < (b : Int) ^ (n - g.1) ∧ g.2.2.1.length ≤ g.2.2.2.1.length ∧ g.2.2.2.1.take g.2.2.1.length = g.2.2.1 ∧ g.2.2.2.2 < 18446744073709551616) (fun g => [(7, .o 0 g.2.1 0 g.2.2.1.length), (11, .i .u64 g.2.2.2.2), (42, .i .i64 (g.1 : Int)), (43, .u), (44, .u), (45, .u), (46, .u), (47, .u), (48, .u), (49, .u), (50, .u), (51, .u), (52, .u), (53, .u), (54, .u), (55, .u), (56, .u)]) (fun g => [⟨3, 1, g.2.1, true, ints .i64 g.2.2.2.1⟩]) (fun g => n - g.1) (0, ver, acc, C, vl A % ((b ^ n : Nat) : Int)) ?_ ?_ rfl hR rfl (fun _ _ => rfl) (fun g _ => .cons A8 .nil) ?_
      · exact ⟨Nat.zero_le _, hr, rfl, rfl, (Ab4 hb).1, (Ab4 hb).2, hC1, hC2, hrl⟩
      · exact (.cons rfl (.cons rfl (.cons rfl (.v9 (.u (.u (.u (.u .nil))))))))
      · rintro ⟨i, ver2, acc2, C2, r⟩ ⟨hi, hr2, hal2, hI2, h0, h1r, hD1, hD2, hr64⟩
        dsimp only at hi hr2 hal2 hI2 h0 h1r hD1 hD2 hr64
        refine zsr <| Ac (Br rfl rfl) (hd 43 rfl) <| Aa <| Ae ?_
        refine Bg rfl (fun h3 => ?_) (fun h3 => ?_)
        · have hilt : i < n := by omega
          refine Ai <| Ae <| Ap <| zsr <| zmv rfl (hd 44 rfl) <| zmv rfl (hd 45 rfl) <| zmv rfl (hd 46 rfl) <| Ac (Cv Jx G9 rfl (r := (b : Int)) (A0 (by omega) (by omega))) (hd 47 rfl) <| Ac (Ba (Fi rfl rfl (by omega) rfl) (show V.i .u64 _ = V.i .u64 (r % (b : Int)) from congrArg (V.i .u64) (Int.tmod_eq_emod_of_nonneg h0))) (hd 48 rfl) <| Ac (Cv G9 Jx rfl (r := r % (b : Int)) (Ag (by have := Int.emod_nonneg r (show (b : Int) ≠ 0 by omega); omega) (by have := Int.emod_lt_of_pos r (show (0 : Int) < b by omega); omega))) (hd 49 rfl) <| A4 (Dl (id := 1) (xs := [.tmp 49]) Lj rfl (Ab rfl Ad) rfl (Cx rfl) (by decide) rfl) (hd 50 rfl) ?_
          refine V0 (C := C2) (v := (r % (b : Int))) Lj rfl rfl hD1 rfl (Pz (cs := ints .i64 [(r % (b : Int))]) rfl rfl rfl) (by show (_ + 1) * 8 ≤ _; first | omega | (dsimp only; omega)) (by show _ + 1 ≤ 9223372036854775807; first | omega | (dsimp only; omega)) (hd 51 rfl) (fun ver' C' hE1 hE2 => ?_)
          refine zas rfl (hd 7 rfl) <| Aa <| Af <| zmv rfl (hd 52 rfl) <| zmv rfl (hd 53 rfl) <| Ac (Cv Jx G9 rfl (r := (b : Int)) (A0 (by omega) (by omega))) (hd 54 rfl) <| Ac (Dk rfl rfl (by omega) (r := r / (b : Int)) (by rw [Int.tdiv_eq_ediv_of_nonneg h0]; exact A0 (Int.ediv_nonneg h0 (by omega)) (by have := Int.ediv_le_self (b : Int) h0; omega))) (hd 55 rfl) <| zas rfl (hd 11 rfl) <| Aa <| Af <| Ac (Aw rfl rfl (r := ((i + 1 : Nat) : Int)) (by rw [Ag (by omega) (by omega)]; omega)) (hd 56 rfl) <| zmv rfl (hd 42 rfl) <| Aa ?_
          refine ⟨(i + 1, ver', acc2 ++ [r % (b : Int)], C', r / (b : Int)), ?_, ?_, rfl, A5 34 rfl rfl ?_⟩
          · exact ⟨by omega, P7 hr2 (Adk (Int.emod_nonneg _ (by omega)) (Int.emod_lt_of_pos _ (by omega))), by simp only [List.length_append, List.length_singleton]; omega, by simp only [List.length_append, List.length_singleton]; rw [dg_in]; exact hI2, (Ab3 hb hilt h0 h1r).1, (Ab3 hb hilt h0 h1r).2, by simp only [List.length_append, List.length_singleton]; exact hE1, by simp only [List.length_append, List.length_singleton]; rw [hE2, hD2], by have := Int.ediv_le_self (b : Int) h0; dsimp only; omega⟩
          · show n - (i + 1) < n - i
            omega
          · exact (.cons (by show some _ = some _; rw [List.length_append]; rfl) (.cons rfl (.cons rfl (.v9 (.u (.u (.u (.u .nil))))))))
        · obtain rfl : n = i := by omega
          have hr0 := Afo h0 h1r
          refine Bh <| Af <| zmv rfl (hd 57 rfl) <| zas rfl (hd 0 rfl) <| Aa ?_
          refine ⟨(lm (vl A / ((b ^ n : Nat) : Int)), ver2, acc2, C2), ?_, ?_, rfl, A5 79 rfl rfl ?_⟩
          · exact ⟨Dc _, hlq, hr2, by dsimp only; rw [J3 hq0, dg_out hal2 hI2 hr0, hI], by dsimp only; omega, hD1, hD2⟩
          · show (vl (lm _)).toNat < (vl A).toNat
            rw [J3 hq0]
            exact Afp hvp hb hn1
          · exact (.cons rfl (.cons rfl (.v9 (.v9 (.v9 (.v9 .nil))))))
    · have hv00 : vl A = 0 := (Ld uA).1 (by omega)
      have hvacc : vb b acc = vl l := by rw [hv00, Int.mul_zero, Int.add_zero] at hI; exact hI
      refine Bh ?_
      refine Ce (G := Nat) (fun k => k ≤ acc.length ∧ acc.take k = (Aj b (vl l).toNat)) (fun k => [(7, .o 0 ver 0 k), (58, .u), (59, .u), (60, .u), (61, .u), (62, .u), (63, .u), (64, .u), (65, .u), (66, .u), (67, .u), (68, .u), (69, .u), (70, .u), (71, .u), (72, .u), (73, .u), (74, .u)]) ?_ ?_
      · refine Ap ?_
        refine Bq (G := Nat) (fun k => k ≤ acc.length ∧ vb b (acc.take k) = vb b acc) (fun k => [(7, .o 0 ver 0 k), (58, .u), (59, .u), (60, .u), (61, .u), (62, .u), (63, .u), (64, .u), (65, .u), (66, .u), (67, .u), (68, .u), (69, .u), (70, .u), (71, .u), (72, .u), (73, .u), (74, .u)]) (fun _ => _) (fun k => k) acc.length ?_ ?_ rfl ?_
        · exact ⟨Nat.le_refl _, by rw [List.take_length]⟩
        · exact (.cons rfl (.v9 (.v5 (.u (.u .nil)))))
        · rintro k ⟨hk, hkv⟩; refine Ae <| zsr <| zmv rfl (hd 58 rfl) <| Ac (C6 Ff rfl rfl) (hd 59 rfl) <| Ac (Ca rfl rfl) (hd 60 rfl) <| zmv rfl (hd 61 rfl) ?_
          refine D4 61 rfl (fun h4 => ?_) (fun h4 => ?_)
          · refine Ay 61 rfl rfl (Ar rfl) (hd 62 rfl) <| Ay 61 rfl rfl (Ar rfl) (hd 63 rfl) <| Ay 61 rfl rfl (C6 Ff rfl rfl) (hd 64 rfl) <| Ay 61 rfl rfl (Bd rfl rfl (Ag (by omega) (by omega))) (hd 65 rfl) <| Ay 61 rfl rfl (Cd (i := k - 1) Ff rfl rfl rfl (by omega) (by omega) rfl) (hd 66 rfl) <| Ay 61 rfl rfl (Ba (D3 Y2 rfl rfl (by first | omega | (dsimp only; omega))) (show V.i .i64 _ = V.i .i64 (acc.getD (k - 1) 0) by rw [getT hC2 (by omega)])) (hd 67 rfl) <| Ay 61 rfl rfl (Ch rfl rfl) (hd 68 rfl) <| Ac (A9 rfl rfl) (hd 69 rfl) <| Aa ?_
            refine Bg rfl (fun h5 => ?_) (fun h5 => ?_)
            · have hz0 := h5
              refine Ai <| Ap <| Af <| zmv rfl (hd 70 rfl) <| zmv rfl (hd 71 rfl) <| Ac (C6 Ff rfl rfl) (hd 72 rfl) <| Ac (Bd rfl rfl (Ag (by omega) (by omega))) (hd 73 rfl) <| Ac (Vh (l := 0) (h := k - 1) (r := 0) (n := k - 1) Ff rfl rfl G5 (Db rfl (by omega)) (by omega) (by omega) rfl (by omega)) (hd 74 rfl) <| zas rfl (hd 7 rfl) <| Aa ?_
              refine ⟨k - 1, ?_, ?_, rfl, A5 37 rfl rfl ?_⟩
              · exact ⟨by omega, by rw [Z2 (by omega) hk hz0]; exact hkv⟩
              · omega
              · exact (.cons rfl (.v9 (.v5 (.u (.u .nil)))))
            · refine Bh ?_
              refine ⟨k, ?_, rfl, A5 31 rfl rfl ?_⟩
              · exact ⟨hk, Sk hb hk hr (by rw [hkv, hvacc]; exact (Int.toNat_of_nonneg hv0).symm) (by first | (left; omega) | (right; assumption))⟩
              · exact (.cons rfl (.v9 (.v5 (.u (.u .nil)))))
          · refine Bk 61 rfl rfl rfl (hd 62 rfl) <| Bk 61 rfl rfl rfl (hd 63 rfl) <| Bk 61 rfl rfl rfl (hd 64 rfl) <| Bk 61 rfl rfl rfl (hd 65 rfl) <| Bk 61 rfl rfl rfl (hd 66 rfl) <| Bk 61 rfl rfl rfl (hd 67 rfl) <| Bk 61 rfl rfl rfl (hd 68 rfl) <| Ac (A3 rfl rfl) (hd 69 rfl) <| Aa <| A1 rfl <| Bh ?_
            refine ⟨k, ?_, rfl, A5 31 rfl rfl ?_⟩
            · exact ⟨hk, Sk hb hk hr (by rw [hkv, hvacc]; exact (Int.toNat_of_nonneg hv0).symm) (by first | (left; omega) | (right; assumption))⟩
            · exact (.cons rfl (.v9 (.v5 (.u (.u .nil)))))
      · rintro k ⟨hk, hdk⟩
        have hdl : (Aj b (vl l).toNat).length = k := by rw [← hdk, List.length_take]; omega
        have hck : C.take k = (Aj b (vl l).toNat) := by rw [takeT hC2 hk, hdk]
        refine Ae <| Ap ?_
        refine Gd (G := Nat × List Int × Nat) 1 (fun g => (Aj b (vl l).toNat).length ≤ g.2.2 ∧ g.2.2 ≤ max m (Aj b (vl l).toNat).length ∧ g.2.2 ≤ g.2.1.length ∧ g.2.1.take g.2.2 = (Aj b (vl l).toNat) ++ List.replicate (g.2.2 - (Aj b (vl l).toNat).length) 0) (fun g => [(7, .o 0 g.1 0 g.2.2), (75, .u), (76, .u), (77, .u), (78, .u), (79, .u), (80, .u), (81, .u)]) (fun g => [⟨3, 1, g.1, true, ints .i64 g.2.1⟩]) (fun g => m - g.2.2) (ver, C, k) ?_ ?_ rfl hR rfl (fun _ _ => rfl) (fun g _ => .cons A8 .nil) ?_
        · exact ⟨by rw [hdl]; exact Nat.le_refl _, by dsimp only; omega, by dsimp only; omega, by dsimp only; rw [hck, hdl, Nat.sub_self]; simp⟩
        · exact (.cons rfl (.v5 (.u (.u .nil))))
        · rintro ⟨ver3, C3, k3⟩ ⟨hp1, hp2, hp3, hp4⟩
          dsimp only at hp1 hp2 hp3 hp4
          refine Ae <| zsr <| zmv rfl (hd 75 rfl) <| Ac (C6 Ff rfl rfl) (hd 76 rfl) <| zmv rfl (hd 77 rfl) <| Ac (Br rfl rfl) (hd 78 rfl) <| Aa ?_
          refine Bg rfl (fun h7 => ?_) (fun h7 => ?_)
          · dsimp only at h7
            refine Ai <| Ap <| Af <| zmv rfl (hd 79 rfl) <| A4 (Dl (id := 1) (xs := [.const (.int .i64 0)]) Lj rfl (Ab rfl Ad) rfl (Cx rfl) (by decide) rfl) (hd 80 rfl) ?_
            refine V0 (C := C3) (v := 0) Lj rfl rfl hp3 rfl (Pz (cs := ints .i64 [0]) rfl rfl rfl) (by show (_ + 1) * 8 ≤ _; first | omega | (dsimp only; omega)) (by show _ + 1 ≤ 9223372036854775807; first | omega | (dsimp only; omega)) (hd 81 rfl) (fun ver' C' hE1 hE2 => ?_)
            refine zas rfl (hd 7 rfl) <| Aa ?_
            refine ⟨(ver', C', k3 + 1), ?_, ?_, rfl, A5 16 rfl rfl ?_⟩
            · exact ⟨by dsimp only; omega, by dsimp only; omega, hE1, Yw hp1 hp4 hE2⟩
            · show m - (k3 + 1) < m - k3
              omega
            · exact (.cons rfl (.v5 (.u (.u .nil))))
          · dsimp only at h7 ⊢
            have hB : (C3.take k3).length = k3 := by rw [List.length_take]; omega
            have hpd := Ad6 hp4 hp1 (by omega) hp2
            refine Bh <| zsr <| zmv rfl (hd 82 rfl) <| Ac (C6 Ff rfl rfl) (hd 83 rfl) <| A4 (F5 (m := k3) Lj rfl rfl rfl (by show 8 * k3 ≤ _; omega) (by unfold maxLen; omega) rfl) (hd 84 rfl) <| zas rfl (hd 13 rfl) <| Aa <| Ae <| zsr <| zmv rfl (hd 85 rfl) <| Ac (C6 Ff rfl rfl) (hd 86 rfl) ?_; refine zmv rfl (hd 87 rfl) <| Aa <| Ap <| Lo (H' := [⟨3, 1, ver3, true, ints .i64 C3⟩, ⟨3, 1, 0, true, ints .i64 (Rr (C3.take k3) 0)⟩]) (by rw [Ahn, hB]; rfl) ?_
            refine Bq (G := Nat) (fun i => i ≤ k3) (fun i => [(87, .i .i64 (i : Int)), (14, .u), (15, .u), (88, .u), (89, .u), (90, .u), (91, .u), (92, .u), (93, .u), (94, .u), (95, .u), (96, .u), (97, .u), (98, .u), (99, .u), (100, .u)]) (fun i => [⟨3, 1, ver3, true, ints .i64 C3⟩, ⟨3, 1, 0, true, ints .i64 (Rr (C3.take k3) i)⟩]) (fun i => k3 - i) 0 ?_ ?_ rfl ?_
            · exact Nat.zero_le _
            · exact (.cons rfl (.v9 (.v5 .nil)))
            · rintro i hi9
              have hrl9 := Rq (B := (C3.take k3)) (i := i) (by rw [hB]; exact hi9)
              refine zsr <| Ac (Br rfl rfl) (hd 88 rfl) <| Aa <| Ae ?_
              refine Bg rfl (fun h8 => ?_) (fun h8 => ?_)
              · refine Ai <| Ae <| Ap <| zsr <| zmv rfl (hd 89 rfl) <| Ac (Cd (i := i) Ff rfl rfl rfl (by first | rfl | omega) (by omega) rfl) (hd 90 rfl) <| Ac (Ba (D3 Y2 rfl rfl (by first | omega | (dsimp only; omega))) (show V.i .i64 _ = V.i .i64 ((C3.take k3).getD i 0) by rw [getT (acc := (C3.take k3)) (by rw [hB]) (by rw [hB]; omega)])) (hd 91 rfl) <| zas rfl (hd 14 rfl) <| zas rfl (hd 15 rfl) <| Aa ?_
                have hset : (Rr (C3.take k3) i).set ((0 + (k3 - 1 - i)) * 1) ((C3.take k3).getD i 0) = Rr (C3.take k3) (i + 1) := by
                  rw [Nat.zero_add, Nat.mul_one]
                  have h := Yd (B := (C3.take k3)) (i := i) (by rw [hB]; omega)
                  rwa [hB] at h
                refine Af <| zmv rfl (hd 92 rfl) <| zmv rfl (hd 93 rfl) <| Ac (C6 Ff rfl rfl) (hd 94 rfl) <| Ac (Bd rfl rfl (Ag (by omega) (by omega))) (hd 95 rfl) <| zmv rfl (hd 96 rfl) <| Ac (Bd rfl rfl (r := ((k3 - 1 - i : Nat) : Int)) (by rw [Ag (by omega) (by omega)]; omega)) (hd 97 rfl) <| zmv rfl (hd 98 rfl) <| Ac (Cd (i := k3 - 1 - i) Ff rfl rfl rfl (by first | rfl | omega) (by omega) rfl) (hd 99 rfl) <| A6 (B3 rfl rfl rfl Y2 (by rw [hrl9, hB]; first | omega | (dsimp only; omega))) <| Aa <| Af <| Ac (Aw rfl rfl (r := ((i + 1 : Nat) : Int)) (by rw [Ag (by omega) (by omega)]; omega)) (hd 100 rfl) ?_; refine zmv rfl (hd 87 rfl) <| Aa ?_
                refine ⟨i + 1, ?_, ?_, (by show [_, (⟨3, 1, 0, true, ints .i64 _⟩ : Ob)] = [_, ⟨3, 1, 0, true, ints .i64 _⟩]; rw [hset]), A5 32 rfl rfl ?_⟩
                · omega
                · omega
                · exact (.cons rfl (.v9 (.v5 .nil)))
              · obtain rfl : i = k3 := by omega
                have hR : Rr (C3.take i) i = (hdg b m (vl l).toNat) := by
                  have h := Ye (C3.take i)
                  rw [hB] at h
                  rw [h, hpd]; rfl
                have hRl : (hdg b m (vl l).toNat).length = i := by rw [← hR, Rq (by omega), hB]
                refine Bh <| zsr <| zmv rfl (hd 101 rfl) <| zas rfl (hd 6 rfl) <| Aa <| Ao ?_
                refine ⟨[1], _, (.o 0 0 0 i), (.cons rfl .nil), rfl, rfl, (by decide), (by first | exact An A8 Ax | exact An rfl Ax), ?_⟩
                exact ⟨by rw [hRl], by rw [← hR]; rfl⟩

theorem Pi (a b c ue : Value) (ha : a.oneCell' = true) (hb : b.oneCell' = true) (hc : c.oneCell' = true) (hu : ue.oneCell' = true) : Spec Tryz.prog 48 [.c .nilIface, .a [.c a, .c b, .c c], .c ue] (fun o => o = .ret (.t [.a [.c a, .c b, .c c], .c ue])) := by
  refine Au [(0, .c .nilIface), (1, .a [.c a, .c b, .c c]), (2, .c ue)] rfl Tryz.func48 rfl (zlb rfl) fun Γ hN hds hL hR => ?_
  have hd := Bt 26 hN
  refine zsr <| A4 (By (id := 0) (n := 3) rfl (U7 ha hb hc) rfl (by decide) rfl) (hd 4 rfl) <| A4 (At (id := 1) Ds (by decide) rfl (by decide) rfl) (hd 6 rfl) <| zas rfl (hd 7 rfl) <| Aa <| Ae <| zsr <| zmv rfl (hd 11 rfl) <| Ac (Qm Lu rfl) (hd 12 rfl) <| Aa <| B4 rfl ?_; refine zsr <| Ac (Bm B6 rfl rfl rfl rfl) (hd 13 rfl) <| zmv rfl (hd 14 rfl) <| A6 (Ak rfl rfl rfl Er rfl (Aic ha hb hc) (zlb rfl)) <| zas rfl (hd 7 rfl) <| Aa <| Ao ?_
  refine ⟨_, _, (.cons (ResV.cell B6 rfl rfl rfl rfl) (.cons rfl .nil)), (.t1 (.a1 .c (.a1 .c (.a1 .c .a0))) (.t1 .c .t0)), ?_⟩
  exact rfl

theorem Ph (a b c ue : Value) (ha : a.oneCell' = true) (hb : b.oneCell' = true) (hc : c.oneCell' = true) (hu : ue.oneCell' = true) (e : Int) : Spec Tryz.prog 48 [.c (.iface 100 (.agg #[.int .i64 e])), .a [.c a, .c b, .c c], .c ue] (fun o => o = .ret (.t [(.a [.b false, .n false .u64 [], .n false .u64 []]), .i .i64 e])) := by
  refine Au [(0, .c (.iface 100 (.agg #[.int .i64 e]))), (1, .a [.c a, .c b, .c c]), (2, .c ue)] rfl Tryz.func48 rfl (zlb rfl) fun Γ hN hds hL hR => ?_
  have hd := Bt 26 hN
  refine zsr <| A4 (By (id := 0) (n := 3) rfl (U7 ha hb hc) rfl (by decide) rfl) (hd 4 rfl) <| A4 (At (id := 1) Ds (by decide) rfl (by decide) rfl) (hd 6 rfl) <| zas rfl (hd 7 rfl) <| Aa <| Ae <| zsr <| zmv rfl (hd 11 rfl) <| Ac (Ql Lu rfl) (hd 12 rfl) <| Aa <| A1 rfl ?_; refine Ai <| zsr <| zmv rfl (hd 16 rfl) <| Ac (Aen M3 rfl) (hd 17 rfl) <| zmv rfl (hd 15 rfl) <| Ac (Am rfl rfl) (hd 18 rfl) <| Ac (Am rfl rfl) (hd 19 rfl) <| A4 (At (id := 2) J6 (by decide) rfl (by decide) rfl) (hd 8 rfl) <| A6 (Ak rfl rfl rfl P0 rfl rfl (zlb rfl)) <| zas rfl (hd 9 rfl) <| Aa <| Ae ?_; refine zsr <| zmv rfl (hd 20 rfl) <| Ac (E1 rfl) (hd 21 rfl) <| Aa <| A1 rfl <| Ai <| zsr <| A4 (At (id := 3) Ds (by decide) rfl (by decide) rfl) (hd 10 rfl) <| Aa <| Ae <| Bu (n := 5) _ rfl Cg ?_; refine zal 0 (Al (Bm B6 rfl rfl rfl rfl) (hd 23 rfl)) rfl ?_
  refine O8 1 3 ?_ ?_ rfl rfl (by kernel_rfl)
  · refine Ae4 (Bl Hm rfl rfl rfl) (hd 24 rfl) ?_
    refine O8 2 3 ?_ ?_ rfl rfl (by kernel_rfl)
    · refine Ae4 (Be E6 rfl rfl rfl) (hd 25 rfl) ?_
      refine B5 3 ?_ rfl (by kernel_rfl)
      refine D1 (Ak rfl rfl rfl Er rfl rfl (zlb rfl)) rfl <| zal 4 (Al (Cm rfl) (hd 7 rfl)) rfl <| Bx (by kernel_rfl) <| Ao ?_
      refine ⟨_, _, (.cons (ResV.cell B6 rfl rfl rfl rfl) (.cons rfl .nil)), (.t1 (.a1 .b (.a1 (.nil (fr := false) (k := .u64)) (.a1 (.nil (fr := false) (k := .u64)) .a0))) (.t1 .i .t0)), ?_⟩
      exact rfl
    · refine D1 (Ak rfl rfl rfl Er rfl rfl (zlb rfl)) rfl <| zal 2 (Al (Be E6 rfl rfl rfl) (hd 25 rfl)) rfl <| zal 4 (Al (Cm rfl) (hd 7 rfl)) rfl <| Bx (by kernel_rfl) <| Ao ?_
      refine ⟨_, _, (.cons (ResV.cell B6 rfl rfl rfl rfl) (.cons rfl .nil)), (.t1 (.a1 .b (.a1 (.nil (fr := false) (k := .u64)) (.a1 (.nil (fr := false) (k := .u64)) .a0))) (.t1 .i .t0)), ?_⟩
      exact rfl
  · refine D1 (Ak rfl rfl rfl Er rfl rfl (zlb rfl)) rfl <| zal 1 (Al (Bl Hm rfl rfl rfl) (hd 24 rfl)) rfl <| zal 2 (Al (Be E6 rfl rfl rfl) (hd 25 rfl)) rfl <| zal 4 (Al (Cm rfl) (hd 7 rfl)) rfl <| Bx (by kernel_rfl) <| Ao ?_
    refine ⟨_, _, (.cons (ResV.cell B6 rfl rfl rfl rfl) (.cons rfl .nil)), (.t1 (.a1 .b (.a1 (.nil (fr := false) (k := .u64)) (.a1 (.nil (fr := false) (k := .u64)) .a0))) (.t1 .i .t0)), ?_⟩
    exact rfl

theorem W1 (a ue : Value) (ha : a.oneCell' = true) (hu : ue.oneCell' = true) : Spec Tryz.prog 86 [.c .nilIface, .c a, .c ue] (fun o => o = .ret (.t [.c a, .c ue])) := by
  refine Au [(0, .c .nilIface), (1, .c a), (2, .c ue)] rfl Tryz.func86 rfl (zlb rfl) fun Γ hN hds hL hR => ?_
  have hd := Bt 26 hN
  refine zsr <| zas rfl (hd 6 rfl) <| zas rfl (hd 7 rfl) <| Aa <| Ae <| zsr <| zmv rfl (hd 11 rfl) <| Ac (Qm Lu rfl) (hd 12 rfl) <| Aa <| B4 rfl <| Ae ?_; refine Af <| zmv rfl (hd 13 rfl) <| zmv rfl (hd 14 rfl) <| zas rfl (hd 6 rfl) <| zas rfl (hd 7 rfl) <| Aa <| Ao ?_
  refine ⟨_, _, (.cons rfl (.cons rfl .nil)), (.t1 .c (.t1 .c .t0)), ?_⟩
  exact rfl

theorem W0 (a ue : Value) (ha : a.oneCell' = true) (hu : ue.oneCell' = true) (e : Int) : Spec Tryz.prog 86 [.c (.iface 100 (.agg #[.int .i64 e])), .c a, .c ue] (fun o => o = .ret (.t [(.s .empty), .i .i64 e])) := by
  refine Au [(0, .c (.iface 100 (.agg #[.int .i64 e]))), (1, .c a), (2, .c ue)] rfl Tryz.func86 rfl (zlb rfl) fun Γ hN hds hL hR => ?_
  have hd := Bt 26 hN
  refine zsr <| zas rfl (hd 6 rfl) <| zas rfl (hd 7 rfl) <| Aa <| Ae <| zsr <| zmv rfl (hd 11 rfl) <| Ac (Ql Lu rfl) (hd 12 rfl) <| Aa <| A1 rfl <| Ai ?_; refine zsr <| zmv rfl (hd 16 rfl) <| Ac (Aen M3 rfl) (hd 17 rfl) <| zmv rfl (hd 15 rfl) <| Ac (Am rfl rfl) (hd 18 rfl) <| Ac (Am rfl rfl) (hd 19 rfl) <| A4 (At (id := 0) J6 (by decide) rfl (by decide) rfl) (hd 8 rfl) <| A6 (Ak rfl rfl rfl P0 rfl rfl (zlb rfl)) <| zas rfl (hd 9 rfl) <| Aa <| Ae <| Ae ?_; refine Af <| zmv rfl (hd 20 rfl) <| Ac (E1 rfl) (hd 21 rfl) <| Aa <| A1 rfl <| Ai <| zsr <| zas rfl (hd 10 rfl) <| Aa <| Ae <| Bu (n := 5) _ rfl Cg <| zal 0 (Al (Ar rfl) (hd 23 rfl)) rfl ?_; refine zal 1 (Al (Bl Hm rfl rfl rfl) (hd 24 rfl)) rfl <| zal 2 (Al (Be E6 rfl rfl rfl) (hd 25 rfl)) rfl <| zal 3 (Al (Cm rfl) (hd 6 rfl)) rfl <| zal 4 (Al (Cm rfl) (hd 7 rfl)) rfl <| Bx (by kernel_rfl) <| Ao ?_
  refine ⟨_, _, (.cons rfl (.cons rfl .nil)), (.t1 .s (.t1 .i .t0)), ?_⟩
  exact rfl

theorem Z6 : Clo Tryz.prog 84 27 28 3 true 100 (.a [.b false, .n false .u64 [], .n false .u64 []]) where
  shape := ⟨Tryz.f84, Tryz.f48, 48, 45, 20, "ratio.go:70", Tryz.func84, rfl, rfl, rfl, Tryz.func48, rfl, rfl, fun us ue hl h1 h2 => by
    obtain ⟨a, b, c, rfl⟩ : ∃ a b c, us = [a, b, c] := by
      match us, hl with
      | [a, b, c], _ => exact ⟨a, b, c, rfl⟩
    exact Pi a b c ue (h1 a (by simp)) (h1 b (by simp)) (h1 c (by simp)) h2, fun us ue e hl h1 h2 => by
    obtain ⟨a, b, c, rfl⟩ : ∃ a b c, us = [a, b, c] := by
      match us, hl with
      | [a, b, c], _ => exact ⟨a, b, c, rfl⟩
    exact Ph a b c ue (h1 a (by simp)) (h1 b (by simp)) (h1 c (by simp)) h2 e⟩
  hm := Cg
  hld := .inl ⟨rfl, B6⟩
  hsz := Er
  hle := E6
  hz1 := rfl
  hz2 := rfl
  hz3 := fun _ => rfl

theorem Z5 : Clo Tryz.prog 90 27 28 3 true 100 (.a [.b false, .n false .u64 [], .n false .u64 []]) where
  shape := ⟨Tryz.f90, Tryz.f48, 48, 45, 20, "ratio.go:136", Tryz.func90, rfl, rfl, rfl, Tryz.func48, rfl, rfl, fun us ue hl h1 h2 => by
    obtain ⟨a, b, c, rfl⟩ : ∃ a b c, us = [a, b, c] := by
      match us, hl with
      | [a, b, c], _ => exact ⟨a, b, c, rfl⟩
    exact Pi a b c ue (h1 a (by simp)) (h1 b (by simp)) (h1 c (by simp)) h2, fun us ue e hl h1 h2 => by
    obtain ⟨a, b, c, rfl⟩ : ∃ a b c, us = [a, b, c] := by
      match us, hl with
      | [a, b, c], _ => exact ⟨a, b, c, rfl⟩
    exact Ph a b c ue (h1 a (by simp)) (h1 b (by simp)) (h1 c (by simp)) h2 e⟩
  hm := Cg
  hld := .inl ⟨rfl, B6⟩
  hsz := Er
  hle := E6
  hz1 := rfl
  hz2 := rfl
  hz3 := fun _ => rfl

theorem Ki : Clo Tryz.prog 85 9 28 1 false 100 (.s .empty) where
  shape := ⟨Tryz.f85, Tryz.f86, 86, 80, 20, "ratio.go:291", Tryz.func85, rfl, rfl, rfl, Tryz.func86, rfl, rfl, fun us ue hl h1 h2 => by
    obtain ⟨a, rfl⟩ : ∃ a, us = [a] := by
      match us, hl with
      | [a], _ => exact ⟨a, rfl⟩
    exact W1 a ue (h1 a (by simp)) h2, fun us ue e hl h1 h2 => by
    obtain ⟨a, rfl⟩ : ∃ a, us = [a] := by
      match us, hl with
      | [a], _ => exact ⟨a, rfl⟩
    exact W0 a ue (h1 a (by simp)) h2 e⟩
  hm := Cg
  hld := .inr ⟨rfl, rfl, Th⟩
  hsz := X8
  hle := E6
  hz1 := rfl
  hz2 := rfl
  hz3 := fun _ => rfl

theorem Ov (l : List Int) : Spec Tryz.prog 32 [.n false .u64 l, .i .i64 0] (fun o => o = .ret (.n false .u64 l)) := by
  refine Au [(0, .n false .u64 l), (1, .i .i64 0)] rfl Tryz.func32 rfl (zlb rfl) fun Γ hN hds hL hR => ?_
  have hd := Bt 11 hN
  refine zsr <| zas rfl (hd 4 rfl) <| Aa <| Ae <| zsr <| zmv rfl (hd 5 rfl) <| Ac (Bo (Ec rfl rfl) (by decide)) (hd 6 rfl) <| Aa <| A1 rfl <| Ai <| Ae ?_; refine Af <| zmv rfl (hd 10 rfl) <| zas rfl (hd 4 rfl) <| Aa <| Ao ?_
  refine ⟨_, _, (.cons rfl .nil), .n, ?_⟩
  exact rfl

theorem Aeh (s : ByteArray) : Spec Tryz.prog 87 [.s s, .i .i64 0] (fun o => o = .ret (.s s)) := by
  refine Au [(0, .s s), (1, .i .i64 0)] rfl Tryz.func87 rfl (zlb rfl) fun Γ hN hds hL hR => ?_
  have hd := Bt 11 hN
  refine zsr <| zas rfl (hd 4 rfl) <| Aa <| Ae <| zsr <| zmv rfl (hd 5 rfl) <| Ac (Bo (Ec rfl rfl) (by decide)) (hd 6 rfl) <| Aa <| A1 rfl <| Ai <| Ae ?_; refine Af <| zmv rfl (hd 10 rfl) <| zas rfl (hd 4 rfl) <| Aa <| Ao ?_
  refine ⟨_, _, (.cons rfl .nil), .s, ?_⟩
  exact rfl


theorem Rw.mk' {l : List Int} (hu : Az l) (hl : l.length ≤ 1048576) : Rw l (vl l).toNat := ⟨hu, (Int.toNat_of_nonneg (Bf hu)).symm, hl⟩
set_option maxRecDepth 100000 in
theorem openQ {H : Type} {enc : TypeId × Value → H} {w : World} {sp : Nat → Bool} {held : Bool} {r : Reach} {b0 : Nat} {v : Value} {d : DataW H} {ps : List MemPlace} (hval : Value.okWide Tryz.prog w r b0 27 v) (hd : DataW.Trod enc Tryz.prog w 0 sp held 27 v d ps) :
    ∃ (s : Bool) (l e : List Int), Rel w (fun _ => False) w.heap.size [] (.a [.b s, .n false .u64 l, .n false .u64 e]) v ∧ l.length + e.length + 3 ≤ Rows.uptoBulk d ∧ Az l ∧ Az e := by
  obtain ⟨cs, rfl, hsz⟩ := Go.WideShapes.okWide_struct Tryz.underlying27 hval
  obtain ⟨fuel, hd⟩ := hd
  have hcl : (Value.agg cs).cells.toList = cs.toList := rfl
  rw [hcl] at hd
  obtain ⟨y0, y1, n, hx, hl, h0, h1⟩ := Go.ChangeShapes.trod_struct2 Tryz.underlying27 hd
  injection hx with hx _; subst hx
  have hl' : cs.toList.length = 3 := hl
  obtain ⟨c0, c1, c2, hcs⟩ : ∃ c0 c1 c2, cs.toList = [c0, c1, c2] := by
    match hm : cs.toList, hl' with
    | [a, b, c], _ => exact ⟨a, b, c, rfl⟩
  rw [hcs] at h0 h1
  have h0' : DataW.trod enc Tryz.prog w 0 sp held n 25 [c0, c1] = some y0 := h0
  obtain ⟨u0, u1, m, hy, hl2, g0, g1⟩ := Go.ChangeShapes.trod_struct2 Tryz.underlying25 h0'
  subst hy
  obtain ⟨s, e0, hy0⟩ := DataW.trod_bool Tryz.underlying4 g0
  have e0' : [c0] = [Value.bool s] := e0
  injection e0' with e0'; subst e0'; subst hy0
  have g1' : DataW.trod enc Tryz.prog w 0 sp held m 23 [c1] = some u1 := g1
  obtain ⟨l, k1, k2, k3⟩ := L5 Tryz.underlying23 Tryz.underlying71 (show Tryz.prog.cellsOf 71 = 1 by kernel_rfl) g1'
  have h1' : DataW.trod enc Tryz.prog w 0 sp held n 23 [c2] = some y1 := h1
  obtain ⟨e, k4, k5, k6⟩ := L5 Tryz.underlying23 Tryz.underlying71 (show Tryz.prog.cellsOf 71 = 1 by kernel_rfl) h1'
  refine ⟨s, l, e, ⟨cs.toList, by simp, ?_⟩, ?_, fun y hy => Aaf (k3 y hy), fun y hy => Aaf (k6 y hy)⟩
  · rw [hcs]; exact ⟨_, _, rfl, rfl, _, _, rfl, k1, _, _, rfl, k4, rfl⟩
  · simp only [Rows.uptoBulk, Rows.uptoBulkAll]; omega
theorem short1q {H : Type} {d0 : DataW H} {rest : List (DataW H)} {l0 e0 : List Int} (hk : Rows.uptoSmall H (d0 :: rest) = true) (h0 : l0.length + e0.length + 3 ≤ Rows.uptoBulk d0) : l0.length + e0.length ≤ 1048573 := by
  have h : Rows.uptoBulkAll (d0 :: rest) ≤ 1048576 := of_decide_eq_true hk
  simp only [Rows.uptoBulkAll] at h
  omega

theorem Aem (l : List Int) (hl : l.length < 1099511627776) (hu : Az l) : Spec Tryz.prog 144 [.n false .u64 l] (fun o => ∃ (r : List Int) (e : Int), o = .ret (.t [.n true .u64 r, .i .i64 e]) ∧ Xk (vl l) r e) := by
  refine Au [(0, .n false .u64 l)] rfl Tryz.func144 rfl (zlb rfl) fun Γ hN hds hL hR => ?_
  have hd := Bt 10 hN
  have hm := Dj l
  refine zsr <| zas rfl (hd 2 rfl) <| zas rfl (hd 3 rfl) <| Aa <| zsr <| zmv rfl (hd 4 rfl) ?_
  refine Ah Tryz.f66 (E2 l hl) rfl Tryz.func66 rfl rfl (Ab rfl Ad) (.cons .n .nil) (hd 5 rfl) ?_ (fun ch hp => by simp at hp)
  rintro _ ⟨⟩; refine zas rfl (hd 0 rfl) <| Aa <| Ae <| zsr <| zmv rfl (hd 6 rfl) ?_
  refine Ah Tryz.f30 (Ee (trm l) (by omega) (Bz hu)) rfl Tryz.func30 rfl rfl (Ab rfl Ad) (.cons .n .nil) (hd 7 rfl) ?_ (fun ch hp => by simp at hp)
  rintro _ ⟨⟩; refine Ac (Ca rfl rfl) (hd 8 rfl) <| Aa ?_
  refine Bg rfl (fun h1 => ?_) (fun h1 => ?_)
  · refine zsr <| zas rfl (hd 2 rfl) <| zas rfl (hd 3 rfl) <| Aa <| Ao ?_
    refine ⟨_, _, (.cons rfl (.cons rfl .nil)), (.t1 (.nil (fr := true) (k := .u64)) (.t1 .i .t0)), ?_⟩
    exact ⟨[], 3, rfl, Zu hu rfl (by rw [M9] at *; omega)⟩
  · refine Ai <| zsr <| zmv rfl (hd 9 rfl) <| zas rfl (hd 2 rfl) <| zas rfl (hd 3 rfl) <| Aa <| Ao ?_
    refine ⟨_, _, (.cons rfl (.cons rfl .nil)), (.t1 .n (.t1 .i .t0)), ?_⟩
    exact ⟨_, 0, rfl, Afd hu rfl (by rw [M9] at *; omega)⟩

theorem U1 (a b : List Int) (hla : a.length < 4294967296) (hlb : b.length < 4294967296) (ua : Az a) (ub : Az b) : Spec Tryz.prog 134 [.n false .u64 a, .n false .u64 b, .f 135 []] (fun o => ∃ (r : List Int) (e : Int), o = .ret (.t [.n true .u64 r, .i .i64 e]) ∧ Xk (vl a * vl b) r e) := by
  refine Au [(0, .n false .u64 a), (1, .n false .u64 b), (2, .f 135 [])] rfl Tryz.func134 rfl (zlb rfl) fun Γ hN hds hL hR => ?_
  have hd := Bt 22 hN
  have hma := Dj a
  have hmb := Dj b
  refine zsr <| zas rfl (hd 6 rfl) <| zas rfl (hd 7 rfl) <| Aa <| zsr <| zmv rfl (hd 8 rfl) ?_
  refine Ah Tryz.f66 (E2 a (by omega)) rfl Tryz.func66 rfl rfl (Ab rfl Ad) (.cons .n .nil) (hd 9 rfl) ?_ (fun ch hp => by simp at hp)
  rintro _ ⟨⟩; refine zmv rfl (hd 10 rfl) ?_
  refine Ah Tryz.f66 (E2 b (by omega)) rfl Tryz.func66 rfl rfl (Ab rfl Ad) (.cons .n .nil) (hd 11 rfl) ?_ (fun ch hp => by simp at hp)
  rintro _ ⟨⟩; refine zas rfl (hd 0 rfl) <| zas rfl (hd 1 rfl) <| Aa <| Ae <| zsr <| zmv rfl (hd 12 rfl) <| zmv rfl (hd 13 rfl) ?_
  refine Ah Tryz.f143 (Afa (trm a) (trm b) (by omega) (by omega) (Bz ua) (Bz ub)) rfl Tryz.func143 rfl rfl (Ab rfl (Ab rfl Ad)) (.cons .n (.cons .n .nil)) (hd 14 rfl) ?_ (fun ch hp => by simp at hp)
  rintro y ⟨x, hy, hx⟩; injection hy with hy; subst hy; refine Aa ?_
  refine Fm rfl (fun h1 => ?_) (fun h1 => ?_)
  · refine zsr <| zas rfl (hd 6 rfl) <| zas rfl (hd 7 rfl) <| Aa <| Ao ?_
    refine ⟨_, _, (.cons rfl (.cons rfl .nil)), (.t1 (.nil (fr := true) (k := .u64)) (.t1 .i .t0)), ?_⟩
    refine ⟨[], 3, rfl, ?_⟩
    obtain ⟨g1, g2, g3⟩ := hx (by assumption)
    have := S6 (r := []) (Bz ua) (Bz ub) g1 g2 g3
    rw [Fd, Fd] at this
    exact Afe this
  · refine Ai <| zsr <| zmv rfl (hd 15 rfl) <| zmv rfl (hd 16 rfl) <| zmv rfl (hd 17 rfl) ?_
    refine Ah Tryz.f135 (way_s (trm a) (trm b) (by omega) (by omega) (Bz ua) (Bz ub)) rfl Tryz.func135 rfl rfl (Ab rfl (Ab rfl Ad)) (.cons .n (.cons .n .nil)) (hd 18 rfl) ?_ (fun ch hp => by simp at hp)
    rintro y ⟨rs, hy, us, ls, vs⟩; injection hy with hy; subst hy
    refine Ah Tryz.f144 (Aem rs (by omega) us) rfl Tryz.func144 rfl rfl (Ab rfl Ad) (.cons .n .nil) (hd 19 rfl) ?_ (fun ch hp => by simp at hp)
    rintro y ⟨rf, ef, hy, hf⟩; injection hy with hy; subst hy; refine Ac (Am rfl rfl) (hd 20 rfl) <| Ac (Am rfl rfl) (hd 21 rfl) <| zas rfl (hd 6 rfl) <| zas rfl (hd 7 rfl) <| Aa <| Ao ?_
    refine ⟨_, _, (.cons rfl (.cons rfl .nil)), (.t1 .n (.t1 .i .t0)), ?_⟩
    exact ⟨rf, ef, rfl, by rwa [vs, Fd, Fd] at hf⟩

theorem Mul_l (a b : List Int) (hla : a.length < 4294967296) (hlb : b.length < 4294967296) (ua : Az a) (ub : Az b) : Spec Tryz.prog 113 [.n false .u64 a, .n false .u64 b] (fun o => ∃ (r : List Int) (e : Int), o = .ret (.t [.n true .u64 r, .i .i64 e]) ∧ Xk (vl a * vl b) r e) := by
  refine Au [(0, .n false .u64 a), (1, .n false .u64 b)] rfl Tryz.func113 rfl (zlb rfl) fun Γ hN hds hL hR => ?_
  have hd := Bt 11 hN
  refine zsr <| zas rfl (hd 4 rfl) <| zas rfl (hd 5 rfl) <| Aa <| zsr <| zmv rfl (hd 6 rfl) <| zmv rfl (hd 7 rfl) ?_
  refine Ah Tryz.f134 (U1 a b hla hlb ua ub) rfl Tryz.func134 rfl rfl (Ab rfl (Ab rfl (Ab rfl Ad))) (.cons .n (.cons .n (.cons .f .nil))) (hd 8 rfl) ?_ (fun ch hp => by simp at hp)
  rintro y ⟨rp, ep, hy, hp⟩; injection hy with hy; subst hy; refine Ac (Am rfl rfl) (hd 9 rfl) <| Ac (Am rfl rfl) (hd 10 rfl) <| zas rfl (hd 4 rfl) <| zas rfl (hd 5 rfl) <| Aa <| Ao ?_
  refine ⟨_, _, (.cons rfl (.cons rfl .nil)), (.t1 .n (.t1 .i .t0)), ?_⟩
  exact ⟨rp, ep, rfl, hp⟩


theorem Both_r (l : List Int) (w : Int) (hl : l.length ≤ 1048576) (hu : Az l) (hw : Aq w ≤ 67108864) (h0 : w ≠ 0) : Spec Tryz.prog 102 [.n false .u64 l, .n false .u64 (lm w)] (fun o => o = .ret (.t [.n false .u64 (lm (qn (vl l) w)), .n false .u64 (lm (rn (vl l) w)), .i .i64 0])) := by
  refine Au [(0, .n false .u64 l), (1, .n false .u64 (lm w))] rfl Tryz.func102 rfl (zlb rfl) fun Γ hN hds hL hR => ?_
  have hd := Bt 32 hN
  have hv : Aq (vl l) ≤ 67108864 := by have := Im (s := false) hu; have e : sv false l = vl l := rfl; rw [e] at this; omega
  have hlw := Bv hw
  have hle := Cc (v := qn (vl l) w) (w := vl l) Yq
  have hlr := Cc (v := rn (vl l) w) (w := w) (Ms h0).1
  have hlq := Bv (v := qn (vl l) w) (by omega)
  have hlR := Bv (v := rn (vl l) w) (by omega)
  have hne := Qn h0
  have hlv := Bv hv
  have hNl : Spec Tryz.prog 66 [.n false .u64 l] (fun o => o = .ret (.n true .u64 (lm (vl l)))) := by have h := E2 l (by omega); rwa [Fv hu rfl] at h
  refine zsr <| zas rfl (hd 4 rfl) <| zas rfl (hd 5 rfl) <| zas rfl (hd 6 rfl) <| Aa <| zsr <| zmv rfl (hd 9 rfl) ?_
  refine Ah Tryz.f66 (hNl) rfl Tryz.func66 rfl rfl (Ab rfl Ad) (.cons .n .nil) (hd 10 rfl) ?_ (fun ch hp => by simp at hp)
  rintro _ ⟨⟩; refine zmv rfl (hd 11 rfl) ?_
  refine Ah Tryz.f66 (Lm w (by omega)) rfl Tryz.func66 rfl rfl (Ab rfl Ad) (.cons .n .nil) (hd 12 rfl) ?_ (fun ch hp => by simp at hp)
  rintro _ ⟨⟩; refine zas rfl (hd 0 rfl) <| zas rfl (hd 1 rfl) <| Aa <| Ae <| zsr <| zmv rfl (hd 13 rfl) <| Ac (As Bc rfl) (hd 14 rfl) <| Ac (Bo (Ch rfl rfl) (fun h => hne (List.eq_nil_of_length_eq_zero (by omega)))) (hd 15 rfl) <| Aa <| A1 rfl <| Ai <| Ae ?_; refine Af <| zmv rfl (hd 17 rfl) <| zmv rfl (hd 18 rfl) ?_
  refine Ah Tryz.f107 (Jc (vl l) w (by omega) (by omega) h0) rfl Tryz.func107 rfl rfl (Ab rfl (Ab rfl Ad)) (.cons .n (.cons .n .nil)) (hd 19 rfl) ?_ (fun ch hp => by simp at hp)
  rintro _ ⟨⟩; refine zmv rfl (hd 16 rfl) <| Ac (Am rfl rfl) (hd 20 rfl) <| Ac (Am rfl rfl) (hd 21 rfl) <| zas rfl (hd 7 rfl) <| zas rfl (hd 8 rfl) <| Aa <| Ae <| zsr <| zmv rfl (hd 22 rfl) ?_
  refine Ah Tryz.f30 (Di (qn (vl l) w) (by omega)) rfl Tryz.func30 rfl rfl (Ab rfl Ad) (.cons .n .nil) (hd 23 rfl) ?_ (fun ch hp => by simp at hp)
  rintro _ ⟨⟩; refine Ac (Bo (Ca rfl rfl) (by omega)) (hd 24 rfl) <| zmv rfl (hd 25 rfl) <| Ay 25 rfl rfl (Ar rfl) (hd 26 rfl) ?_
  refine Dv Tryz.f30 25 rfl rfl (Di (rn (vl l) w) (by omega)) rfl Tryz.func30 rfl rfl (Ab rfl Ad) (.cons .n .nil) (hd 27 rfl) ?_ (fun ch hp => by simp at hp)
  rintro _ ⟨⟩; refine Ay 25 rfl rfl (Bo (Ca rfl rfl) (by omega)) (hd 28 rfl) <| Ac (A3 rfl rfl) (hd 29 rfl) <| Aa <| A1 rfl <| Ai <| zsr <| zmv rfl (hd 30 rfl) <| zmv rfl (hd 31 rfl) <| zas rfl (hd 4 rfl) <| zas rfl (hd 5 rfl) <| zas rfl (hd 6 rfl) <| Aa ?_; refine Ao ?_
  refine ⟨_, _, (.cons rfl (.cons rfl (.cons rfl .nil))), (.t1 .n (.t1 .n (.t1 .i .t0))), ?_⟩
  exact rfl

theorem Z9 (a : List Int) (hla : a.length < 67108864) (ua : Az a) : Spec Tryz.prog 132 [.n false .u64 a] (fun o => ∃ (r : List Int) (e : Int), o = .ret (.t [.n true .u64 r, .i .i64 e]) ∧ Xk (vl a * vl a) r e) := by
  refine Au [(0, .n false .u64 a)] rfl Tryz.func132 rfl (zlb rfl) fun Γ hN hds hL hR => ?_
  have hd := Bt 9 hN
  refine zsr <| zas rfl (hd 2 rfl) <| zas rfl (hd 3 rfl) <| Aa <| zsr <| zmv rfl (hd 4 rfl) <| zmv rfl (hd 5 rfl) ?_
  refine Ah Tryz.f113 (Mul_l a a (by omega) (by omega) ua ua) rfl Tryz.func113 rfl rfl (Ab rfl (Ab rfl Ad)) (.cons .n (.cons .n .nil)) (hd 6 rfl) ?_ (fun ch hp => by simp at hp)
  rintro y ⟨rp, ep, hy, hp⟩; injection hy with hy; subst hy; refine Ac (Am rfl rfl) (hd 7 rfl) <| Ac (Am rfl rfl) (hd 8 rfl) <| zas rfl (hd 2 rfl) <| zas rfl (hd 3 rfl) <| Aa <| Ao ?_
  refine ⟨_, _, (.cons rfl (.cons rfl .nil)), (.t1 .n (.t1 .i .t0)), ?_⟩
  exact ⟨rp, ep, rfl, hp⟩

theorem Agx (x : Nat) (h0 : 0 < x) (hx : x < 18446744073709551616) : SpecT Tryz.prog 74 0 tzCells [.i .u64 (x : Int)] (fun o => o = .ret (.i .i64 ((tz x : Nat) : Int))) := by
  refine Hx [(0, .i .u64 (x : Int))] rfl Tryz.func74 rfl (zlb rfl) fun Γ hTb hN hds hL hR => ?_
  have hd := Bt 14 hN
  obtain ⟨hk, hp2⟩ := Agt h0 hx
  have hj := (Tt _ hk).1
  refine zsr <| zas rfl (hd 2 rfl) <| Aa <| Ae <| zsr <| zmv rfl (hd 3 rfl) <| Ac (Bo (Ch rfl rfl) (by omega)) (hd 4 rfl) <| Aa <| A1 rfl <| Ai <| Ae ?_; refine Af <| zmv rfl (hd 5 rfl) <| zmv rfl (hd 6 rfl) <| Ac (I4 rfl (r := ((18446744073709551616 - x : Nat) : Int)) (by rw [Dr]; omega)) (hd 7 rfl) <| Ac (Ba (F1 (by simp) rfl rfl rfl) (by show V.i .u64 _ = V.i .u64 (((2 ^ tz x : Nat) : Int)); exact congrArg (V.i .u64) (by rw [Afz hx (by omega), Y9 h0 hx]))) (hd 8 rfl) <| Ac (Dg rfl rfl (r := ((2 ^ tz x * 285870213051353865 % 18446744073709551616) : Nat)) (by rw [Dr]; rfl)) (hd 9 rfl) <| Ac (Ba (D2 rfl rfl (by decide) rfl) (by show V.i .u64 _ = V.i .u64 ((((2 ^ tz x * 285870213051353865 % 18446744073709551616 / 288230376151711744) : Nat) : Int)); exact congrArg (V.i .u64) (Hh (k := 288230376151711744) (by decide)))) (hd 10 rfl) <| Ac (Y7 (sz := 1) (i := (2 ^ tz x * 285870213051353865 % 18446744073709551616 / 288230376151711744)) hL hTb ar1133 rfl rfl hj rfl) (hd 11 rfl) <| Ac (Aeo one5 rfl (Acx hk) rfl) (hd 12 rfl) <| Ac (Cv und5 Jx rfl (r := ((tz x : Nat) : Int)) (Ag (by omega) (by omega))) (hd 13 rfl) <| zas rfl (hd 2 rfl) <| Aa <| Ao ?_
  refine ⟨_, _, (.cons rfl .nil), .i, ?_⟩
  exact rfl

theorem Qj (l : List Int) (hl : l.length < 4294967296) (hu : Az l) : SpecT Tryz.prog 31 0 tzCells [.n false .u64 l] (fun o => o = .ret (.i .i64 ((tz (vl l).toNat : Nat) : Int))) := by
  refine Hx [(0, .n false .u64 l)] rfl Tryz.func31 rfl (zlb rfl) fun Γ hTb hN hds hL hR => ?_
  have hd := Bt 20 hN
  refine zsr <| zas rfl (hd 2 rfl) <| Aa <| Ae <| zsr <| zmv rfl (hd 5 rfl) <| Ac (As Bc rfl) (hd 6 rfl) <| zmv rfl (hd 7 rfl) <| Aa <| Ap ?_
  refine Bq (G := Nat) (fun i => i ≤ l.length ∧ ∀ j < i, l.getD j 0 = 0) (fun i => [(7, .i .i64 (i : Int)), (2, .u), (3, .u), (4, .u), (8, .u), (9, .u), (10, .u), (11, .u), (12, .u), (13, .u), (14, .u), (15, .u), (16, .u), (17, .u), (18, .u), (19, .u)]) (fun _ => _) (fun i => l.length - i) 0 ?_ ?_ rfl ?_
  · exact ⟨Nat.zero_le _, fun j h => absurd h (Nat.not_lt_zero _)⟩
  · exact (.cons rfl (.v9 (.v5 .nil)))
  · rintro i ⟨hi, hj⟩
    have hxi := A2 hu i
    refine zsr <| Ac (Br rfl rfl) (hd 8 rfl) <| Aa <| Ae ?_
    refine Bg rfl (fun h1 => ?_) (fun h1 => ?_)
    · refine Ai <| Ae <| Ap <| zsr <| zmv rfl (hd 9 rfl) <| Ac (B2 (i := i) Bc rfl rfl (by first | rfl | omega) (by omega)) (hd 10 rfl) <| Ac (Bw Bj rfl rfl) (hd 11 rfl) <| zas rfl (hd 3 rfl) <| zas rfl (hd 4 rfl) <| Aa <| Ae <| Af ?_; refine zmv rfl (hd 12 rfl) <| Ac (Ec rfl rfl) (hd 13 rfl) <| Aa ?_
      refine Bg rfl (fun h2 => ?_) (fun h2 => ?_)
      · have hx0 : l.getD i 0 ≠ 0 := h2
        have hil : i < l.length := by omega
        have hkk := Agt (x := (l.getD i 0).toNat) (by omega) (by omega)
        have hTz : SpecT Tryz.prog 74 0 tzCells [.i .u64 (l.getD i 0)] (fun o => o = .ret (.i .i64 ((tz (l.getD i 0).toNat : Nat) : Int))) := by have h := Agx (l.getD i 0).toNat (by omega) (by omega); rwa [Int.toNat_of_nonneg (by omega)] at h
        refine zsr <| zmv rfl (hd 14 rfl) <| Ac (Dg rfl rfl (r := ((64 * i : Nat) : Int)) (by rw [Ag (by omega) (by omega)]; omega)) (hd 15 rfl) <| zmv rfl (hd 16 rfl) ?_
        refine G0 Tryz.f74 (hTz) hL hTb rfl Tryz.func74 rfl rfl (Ab rfl Ad) (.cons .i .nil) (hd 17 rfl) ?_ (fun ch hp => by simp at hp)
        rintro _ ⟨⟩; refine Ac (Aw rfl rfl (r := ((64 * i + tz (l.getD i 0).toNat : Nat) : Int)) (by rw [Ag (by omega) (by omega)]; omega)) (hd 18 rfl) <| zas rfl (hd 2 rfl) <| Aa <| Ao ?_
        refine ⟨_, _, (.cons rfl .nil), .i, ?_⟩
        rw [Rf hu hil hj hx0]
      · have hx0 : l.getD i 0 = 0 := Decidable.not_not.1 h2
        refine Ai <| Af <| Ac (Aw rfl rfl (r := ((i + 1 : Nat) : Int)) (by rw [Ag (by omega) (by omega)]; omega)) (hd 19 rfl) <| zmv rfl (hd 7 rfl) <| Aa ?_
        refine ⟨i + 1, ?_, ?_, rfl, A5 26 rfl rfl ?_⟩
        · exact ⟨by omega, fun j hjj => by rcases Nat.lt_or_ge j i with h9 | h9; exact hj j h9; rw [show j = i by omega]; exact hx0⟩
        · omega
        · exact (.cons rfl (.v9 (.v5 .nil)))
    · obtain rfl : i = l.length := by omega
      refine Bh <| zsr <| zas rfl (hd 2 rfl) <| Aa <| Ao ?_
      refine ⟨_, _, (.cons rfl .nil), .i, ?_⟩
      rw [T2 hu hj, show (Int.toNat 0) = 0 from rfl, tz_0]; rfl

theorem Af0 (x n : Nat) (hx : Aq (x : Int) ≤ 67108864) (hn : n / 64 < (lm (x : Int)).length) : Spec Tryz.prog 33 [.n false .u64 (lm (x : Int)), .i .i64 (n : Int)] (fun o => o = .ret (.t [.n false .u64 (lm ((x / 2 ^ n : Nat) : Int)), .i .i64 0])) := by
  refine Au [(0, .n false .u64 (lm (x : Int))), (1, .i .i64 (n : Int))] rfl Tryz.func33 rfl (zlb rfl) fun Γ hN hds hL hR => ?_
  have hd := Bt 77 hN
  have hlx := Bv hx
  have uB : Az ((lm (x : Int)).drop (n / 64)) := Lv (Dc _)
  have hBl : ((lm (x : Int)).drop (n / 64)).length = (lm (x : Int)).length - n / 64 := List.length_drop
  have hs : n % 64 < 64 := Nat.mod_lt _ (by decide)
  have hTr : Spec Tryz.prog 72 [.n false .u64 (lm (x : Int))] (fun o => o = .ret (.n false .u64 (lm (x : Int)))) := by have h := Fn (lm (x : Int)) (by omega); rwa [Ku (Aev _)] at h
  have hrv := Up (x := x) (n := n) (by omega)
  have hlq : Aq ((x / 2 ^ n : Nat) : Int) ≤ 67108864 := Nat.le_trans (Cc (by rw [Int.natAbs_natCast, Int.natAbs_natCast]; exact Nat.div_le_self _ _)) hx
  refine zsr <| zas rfl (hd 4 rfl) <| zas rfl (hd 5 rfl) <| Aa <| Ae <| zsr <| zmv rfl (hd 10 rfl) <| Ac (Bo (Br rfl rfl) (by omega)) (hd 11 rfl) <| zmv rfl (hd 12 rfl) <| Ay 12 rfl rfl (Ar rfl) (hd 13 rfl) <| Ay 12 rfl rfl (Bo (Ca rfl rfl) (by omega)) (hd 14 rfl) ?_; refine Ac (A3 rfl rfl) (hd 15 rfl) <| Aa <| A1 rfl <| Ai <| zsr <| zmv rfl (hd 16 rfl) ?_
  refine Ah Tryz.f72 (hTr) rfl Tryz.func72 rfl rfl (Ab rfl Ad) (.cons .n .nil) (hd 17 rfl) ?_ (fun ch hp => by simp at hp)
  rintro _ ⟨⟩; refine zas rfl (hd 0 rfl) <| Aa <| zsr <| zmv rfl (hd 18 rfl) <| Ac (Dk rfl rfl (by decide) (r := ((n / 64 : Nat) : Int)) (by rw [show ((n : Int).tdiv 64) = ((n / 64 : Nat) : Int) from rfl, Ag (by omega) (by omega)])) (hd 19 rfl) <| zmv rfl (hd 20 rfl) <| Ac (Ba (Fi rfl rfl (by decide) rfl) (show V.i .i64 ((n : Int).tmod 64) = V.i .i64 ((n % 64 : Nat) : Int) from rfl)) (hd 21 rfl) <| Ac (Cv Jx Kq rfl (r := ((n % 64 : Nat) : Int)) (A0 (by omega) (by omega))) (hd 22 rfl) <| zas rfl (hd 6 rfl) <| zas rfl (hd 7 rfl) <| Aa <| Ae ?_; refine zsr <| zmv rfl (hd 23 rfl) <| zmv rfl (hd 24 rfl) <| Ac (As Bc rfl) (hd 25 rfl) <| Ac (Bo (Eh rfl rfl) (by omega)) (hd 26 rfl) <| Aa <| A1 rfl <| Ai <| zsr <| zmv rfl (hd 27 rfl) <| Ac (As Bc rfl) (hd 28 rfl) ?_; refine zmv rfl (hd 29 rfl) <| Ac (Bd rfl rfl (r := ((((lm (x : Int)).drop (n / 64)).length : Nat) : Int)) (by rw [Ag (by omega) (by omega)]; omega)) (hd 30 rfl) <| A4 (F5 (m := ((lm (x : Int)).drop (n / 64)).length) Lr rfl rfl rfl (by show 8 * ((lm (x : Int)).drop (n / 64)).length ≤ _; omega) (by unfold maxLen; omega) rfl) (hd 31 rfl) <| zas rfl (hd 8 rfl) <| Aa <| Ae <| zsr <| zmv rfl (hd 32 rfl) <| Ac (C6 Bc rfl rfl) (hd 33 rfl) <| zmv rfl (hd 34 rfl) <| Aa <| Ap ?_
  refine Bq (G := Nat) (fun i => i ≤ ((lm (x : Int)).drop (n / 64)).length) (fun i => [(34, .i .i64 (i : Int)), (9, .u), (35, .u), (36, .u), (37, .u), (38, .u), (39, .u), (40, .u), (41, .u), (42, .u), (43, .u), (44, .u), (45, .u), (46, .u), (47, .u), (48, .u), (49, .u), (50, .u), (51, .u), (52, .u), (53, .u), (54, .u), (55, .u), (56, .u), (57, .u), (58, .u), (59, .u), (60, .u), (61, .u), (62, .u), (63, .u), (64, .u), (65, .u), (66, .u), (67, .u), (68, .u), (69, .u), (70, .u), (71, .u), (72, .u)]) (fun i => [⟨71, 1, 0, true, ints .u64 (Ci (dnN ((lm (x : Int)).drop (n / 64)) (n % 64) i) ((lm (x : Int)).drop (n / 64)).length)⟩]) (fun i => ((lm (x : Int)).drop (n / 64)).length - i) 0 ?_ ?_ rfl ?_
  · exact Nat.zero_le _
  · exact (.cons rfl (.v9 (.v9 (.v9 (.v5 (.u (.u (.u (.u .nil)))))))))
  · rintro i hc1
    have hf : (Ci (dnN ((lm (x : Int)).drop (n / 64)) (n % 64) i) ((lm (x : Int)).drop (n / 64)).length).length = ((lm (x : Int)).drop (n / 64)).length := Ey (by rw [Gj]; exact hc1)
    have hx0 := A2 uB i
    have hy0 := A2 uB (i + 1)
    refine zsr <| Ac (Br rfl rfl) (hd 35 rfl) <| Aa <| Ae ?_
    refine Bg rfl (fun h3 => ?_) (fun h3 => ?_)
    · refine Ai ?_
      refine Lf (G := Unit) (fun _ => True) (fun _ => [(9, .u), (36, .u), (37, .u), (38, .u), (39, .u), (40, .u), (41, .u), (42, .u), (43, .u), (44, .u), (45, .u), (46, .u), (47, .u), (48, .u), (49, .u), (50, .u), (51, .u), (52, .u), (53, .u), (54, .u), (55, .u), (56, .u), (57, .u), (58, .u), (59, .u), (60, .u), (61, .u), (62, .u), (63, .u), (64, .u), (65, .u), (66, .u), (67, .u), (68, .u), (69, .u), (70, .u), (71, .u)]) (fun _ => [⟨71, 1, 0, true, ints .u64 (Ci (dnN ((lm (x : Int)).drop (n / 64)) (n % 64) (i + 1)) ((lm (x : Int)).drop (n / 64)).length)⟩]) ?_ ?_
      · refine Ap <| zsr <| zmv rfl (hd 36 rfl) <| zas rfl (hd 9 rfl) <| Aa <| zsr <| zmv rfl (hd 37 rfl) <| zmv rfl (hd 38 rfl) <| zmv rfl (hd 39 rfl) <| zmv rfl (hd 40 rfl) <| zmv rfl (hd 41 rfl) ?_; refine Ac (Aw rfl rfl (r := ((n / 64 + i : Nat) : Int)) (by rw [Ag (by omega) (by omega)]; omega)) (hd 42 rfl) <| Ac (B2 (i := n / 64 + i) Bc rfl rfl (by first | rfl | omega) (by omega)) (hd 43 rfl) <| Ac (Ba (Bw Bj rfl rfl) (by show V.i .u64 _ = V.i .u64 (((lm (x : Int)).drop (n / 64)).getD i 0); exact congrArg (V.i .u64) getD_drop'.symm)) (hd 44 rfl) <| zmv rfl (hd 45 rfl) <| Ac (Ba (D2 rfl rfl (by omega) rfl) (show V.i .u64 _ = V.i .u64 (((lm (x : Int)).drop (n / 64)).getD i 0 / 2 ^ (n % 64)) from congrArg (V.i .u64) (Ih (by omega)))) (hd 46 rfl) <| Ac (Cd (i := i) Bc rfl rfl rfl (by first | rfl | omega) (by omega) rfl) (hd 47 rfl) <| A6 (B3 rfl rfl rfl Bj (by omega)) <| Aa <| zsr <| zmv rfl (hd 48 rfl) <| zmv rfl (hd 49 rfl) <| Ac (Aw rfl rfl (r := ((n / 64 + i : Nat) : Int)) (by rw [Ag (by omega) (by omega)]; omega)) (hd 50 rfl) ?_; refine Ac (Aw rfl rfl (r := ((n / 64 + i + 1 : Nat) : Int)) (by rw [Ag (by omega) (by omega)]; omega)) (hd 51 rfl) <| zmv rfl (hd 52 rfl) <| Ac (As Bc rfl) (hd 53 rfl) <| Ac (Br rfl rfl) (hd 54 rfl) <| Aa ?_
        refine Bg rfl (fun h4 => ?_) (fun h4 => ?_)
        · refine Bu (n := 18) _ rfl Cg <| Av 0 [2, 3, 15, 16, 17] (Al (Ar rfl) (hd 55 rfl)) rfl <| Av 1 [2, 3, 15, 16, 17] (Al (Ar rfl) (hd 56 rfl)) rfl <| Av 2 [3, 15, 16, 17] (Al (Cd (i := i) Bc rfl rfl rfl (by first | rfl | omega) (by omega) rfl) (hd 57 rfl)) rfl <| zal 3 (Al (Ba (D3 Bj rfl rfl (by simp only [List.length_set]; omega)) (show V.i .u64 _ = V.i .u64 (((lm (x : Int)).drop (n / 64)).getD i 0 / 2 ^ (n % 64)) from congrArg (V.i .u64) (Wl (by omega)))) (hd 58 rfl)) rfl <| Av 4 [9, 10, 11, 14, 15, 16, 17] (Al (Ar rfl) (hd 59 rfl)) rfl <| Av 5 [7, 8, 9, 10, 11, 14, 15, 16, 17] (Al (Ar rfl) (hd 60 rfl)) rfl <| Av 6 [7, 8, 9, 10, 11, 14, 15, 16, 17] (Al (Ar rfl) (hd 61 rfl)) rfl <| Av 7 [8, 9, 10, 11, 14, 15, 16, 17] (Al (Aw rfl rfl (r := ((n / 64 + i : Nat) : Int)) (by rw [Ag (by omega) (by omega)]; omega)) (hd 62 rfl)) rfl <| Av 8 [9, 10, 11, 14, 15, 16, 17] (Al (Aw rfl rfl (r := ((n / 64 + i + 1 : Nat) : Int)) (by rw [Ag (by omega) (by omega)]; omega)) (hd 63 rfl)) rfl <| Av 9 [10, 11, 14, 15, 16, 17] (Al (B2 (i := n / 64 + i + 1) Bc rfl rfl (by first | rfl | omega) (by omega)) (hd 64 rfl)) rfl <| Av 10 [11, 14, 15, 16, 17] (Al (Ba (Bw Bj rfl rfl) (by show V.i .u64 _ = V.i .u64 (((lm (x : Int)).drop (n / 64)).getD (i + 1) 0); exact congrArg (V.i .u64) (by rw [getD_drop']; rfl))) (hd 65 rfl)) rfl <| Av 11 [14, 15, 16, 17] (Al (Ba (Fo rfl rfl (by omega) rfl) (show V.i .u64 _ = V.i .u64 (((lm (x : Int)).drop (n / 64)).getD (i + 1) 0 * 2 % 18446744073709551616) from congrArg (V.i .u64) shl1)) (hd 66 rfl)) rfl ?_; refine Av 12 [13, 14, 15, 16, 17] (Al (Ar rfl) (hd 67 rfl)) rfl <| Av 13 [14, 15, 16, 17] (Al (Bd rfl rfl (r := ((63 - n % 64 : Nat) : Int)) (by rw [A0 (by omega) (by omega)]; omega)) (hd 68 rfl)) rfl <| zal 14 (Al (Ba (Fo rfl rfl (by omega) rfl) (show V.i .u64 _ = V.i .u64 (loS (((lm (x : Int)).drop (n / 64)).getD (i + 1) 0) (64 - n % 64)) from congrArg (V.i .u64) ((Gv (by omega)).trans (Uc hs)))) (hd 69 rfl)) rfl <| zal 15 (Al (Ba (F1 (by simp) rfl rfl rfl) (show V.i .u64 _ = V.i .u64 (dnD ((lm (x : Int)).drop (n / 64)) (n % 64) i) from congrArg (V.i .u64) (Afl (Nat.le_of_lt hs) hx0.1 hx0.2 hy0.1).1)) (hd 70 rfl)) rfl <| zal 16 (Al (Cd (i := i) Bc rfl rfl rfl (by first | rfl | omega) (by omega) rfl) (hd 71 rfl)) rfl ?_
          refine B5 17 ?_ rfl (by kernel_rfl)
          refine D1 (B3 rfl rfl rfl Bj (by simp only [List.length_set]; omega)) rfl <| Bx (by kernel_rfl) ?_
          refine ⟨(), ?_, (by show [(⟨71, 1, 0, true, ints .u64 _⟩ : Ob)] = [⟨71, 1, 0, true, ints .u64 _⟩]; first | rw [← Kh (show ((lm (x : Int)).drop (n / 64)).length ≤ i + 1 by omega), Hn (by omega)] | rw [List.set_set, Hn (by omega)]), A5 37 rfl rfl ?_⟩
          · trivial
          · exact (.v9 (.v9 (.v9 (.v5 (.u (.u .nil))))))
        · refine Ai ?_
          refine ⟨(), ?_, (by show [(⟨71, 1, 0, true, ints .u64 _⟩ : Ob)] = [⟨71, 1, 0, true, ints .u64 _⟩]; first | rw [← Kh (show ((lm (x : Int)).drop (n / 64)).length ≤ i + 1 by omega), Hn (by omega)] | rw [List.set_set, Hn (by omega)]), A5 20 rfl rfl ?_⟩
          · trivial
          · exact (.v9 (.v9 (.v9 (.v5 (.u (.u .nil))))))
      · rintro _ _; refine Af <| Ac (Aw rfl rfl (r := ((i + 1 : Nat) : Int)) (by rw [Ag (by omega) (by omega)]; omega)) (hd 72 rfl) <| zmv rfl (hd 34 rfl) <| Aa ?_
        refine ⟨i + 1, ?_, ?_, rfl, A5 80 rfl rfl ?_⟩
        · omega
        · omega
        · exact (.cons rfl (.v9 (.v9 (.v9 (.v5 (.u (.u (.u (.u .nil)))))))))
    · obtain rfl : i = ((lm (x : Int)).drop (n / 64)).length := by omega
      refine Bh <| Ae <| Ia (k := .u64) (l := Ci (dnN ((lm (x : Int)).drop (n / 64)) (n % 64) ((lm (x : Int)).drop (n / 64)).length) ((lm (x : Int)).drop (n / 64)).length) (l' := dnN ((lm (x : Int)).drop (n / 64)) (n % 64) ((lm (x : Int)).drop (n / 64)).length) 8 rfl rfl (by omega) (by rw [List.drop_zero, List.take_of_length_le (by omega), Ed (Gj _ _ _)]) hL <| Af <| zmv rfl (hd 73 rfl) ?_
      refine Ah Tryz.f75 (Mn (dnN ((lm (x : Int)).drop (n / 64)) (n % 64) ((lm (x : Int)).drop (n / 64)).length) (by rw [Gj]; omega) (Wm (Nat.le_of_lt hs) uB _) (by rw [M9, F3 (Wm (Nat.le_of_lt hs) uB _) hrv]; exact hlq)) rfl Tryz.func75 rfl rfl (Ab rfl Ad) (.cons .n .nil) (hd 74 rfl) ?_ (fun ch hp => by simp at hp)
      rintro _ ⟨⟩; refine Ac (Am rfl rfl) (hd 75 rfl) <| Ac (Am rfl rfl) (hd 76 rfl) <| zas rfl (hd 4 rfl) <| zas rfl (hd 5 rfl) <| Aa <| Ao ?_
      refine ⟨_, _, (.cons rfl (.cons rfl .nil)), (.t1 .n (.t1 .i .t0)), ?_⟩
      rw [Fv (Wm (Nat.le_of_lt hs) uB _) hrv]

theorem Shr_s (x n : Nat) (hx : (Aj B32 x).length < 4294967296) (hn : n < 4294967296) : Spec Tryz.prog 82 [.n false .u64 (Aj B32 x), .i .i64 (n : Int)] (fun o => o = .ret (.n false .u64 (Aj B32 (x / 2 ^ n)))) := by
  refine Au [(0, .n false .u64 (Aj B32 x)), (1, .i .i64 (n : Int))] rfl Tryz.func82 rfl (zlb rfl) fun Γ hN hds hL hR => ?_
  have hd := Bt 53 hN
  have hs : n % 32 < 32 := Nat.mod_lt _ (by decide)
  refine zsr <| zas rfl (hd 4 rfl) <| Aa <| Ae <| zsr <| zmv rfl (hd 9 rfl) <| Ac (Dk rfl rfl (by decide) (r := ((n / 32 : Nat) : Int)) (P9 (by omega))) (hd 10 rfl) <| zmv rfl (hd 11 rfl) <| Ac (As Cz rfl) (hd 12 rfl) <| Ac (Eh rfl rfl) (hd 13 rfl) <| Aa ?_
  refine Bg rfl (fun h1 => ?_) (fun h1 => ?_)
  · refine zsr <| zas rfl (hd 4 rfl) <| Aa <| Ao ?_
    refine ⟨_, _, (.cons rfl .nil), (.nil (fr := false) (k := .u64)), ?_⟩
    rw [Ac8 (by omega), Ct]
  · refine Ai <| zsr <| zmv rfl (hd 14 rfl) <| Ac (As Cz rfl) (hd 15 rfl) <| zmv rfl (hd 16 rfl) <| Ac (Dk rfl rfl (by decide) (r := ((n / 32 : Nat) : Int)) (P9 (by omega))) (hd 17 rfl) <| Ac (Bd rfl rfl (r := ((((Aj B32 x).length - n / 32) : Nat) : Int)) (by rw [Ag (by omega) (by omega)]; omega)) (hd 18 rfl) <| A4 (F5 (m := ((Aj B32 x).length - n / 32)) Xl rfl rfl rfl (by show 8 * ((Aj B32 x).length - n / 32) ≤ _; omega) (by unfold maxLen; omega) rfl) (hd 19 rfl) <| zas rfl (hd 5 rfl) <| Aa <| Ae <| Af ?_; refine zmv rfl (hd 20 rfl) <| Ac (Ba (Fi rfl rfl (by decide) rfl) (show V.i .i64 _ = V.i .i64 (((n % 32 : Nat) : Int)) from congrArg (V.i .i64) Ahp)) (hd 21 rfl) <| zas rfl (hd 6 rfl) <| Aa <| Ae <| Ae <| Lo (H' := [⟨71, 1, 0, true, ints .u64 (Ci (dvl (x / 2 ^ n) 0) ((Aj B32 x).length - n / 32))⟩]) (by rw [← Lk]; rfl) <| Af <| zmv rfl (hd 22 rfl) <| Ac (C6 Cz rfl rfl) (hd 23 rfl) <| zmv rfl (hd 24 rfl) <| Aa <| Ap ?_
    refine Bq (G := Nat) (fun i => i ≤ ((Aj B32 x).length - n / 32)) (fun i => [(24, .i .i64 (i : Int)), (7, .u), (8, .u), (25, .u), (26, .u), (27, .u), (28, .u), (29, .u), (30, .u), (31, .u), (32, .u), (33, .u), (34, .u), (35, .u), (36, .u), (37, .u), (38, .u), (39, .u), (40, .u), (41, .u), (42, .u), (43, .u), (44, .u), (45, .u), (46, .u), (47, .u), (48, .u), (49, .u), (50, .u)]) (fun i => [⟨71, 1, 0, true, ints .u64 (Ci (dvl (x / 2 ^ n) i) ((Aj B32 x).length - n / 32))⟩]) (fun i => ((Aj B32 x).length - n / 32) - i) 0 ?_ ?_ rfl ?_
    · exact Nat.zero_le _
    · exact (.cons rfl (.v9 (.v9 (.v5 (.u (.u (.u .nil)))))))
    · rintro i hc1
      have hfl := Nf (z := x / 2 ^ n) hc1
      have hdg := Ub (x := x) (n := n) (i := i) rfl
      have hd1 := Nat.mod_lt (x / B32 ^ (i + n / 32)) (show 0 < B32 by decide)
      have hd2 := Nat.mod_lt (x / B32 ^ (i + n / 32 + 1)) (show 0 < B32 by decide)
      have hB9 : B32 = 4294967296 := rfl
      refine zsr <| Ac (Br rfl rfl) (hd 25 rfl) <| Aa <| Ae ?_
      refine Bg rfl (fun h2 => ?_) (fun h2 => ?_)
      · refine Ai <| Ae <| Ap <| zsr <| zmv rfl (hd 26 rfl) <| zas rfl (hd 7 rfl) <| Aa <| Ae <| Bu (n := 17) _ rfl Cg <| Av 0 [5, 6, 15, 16] (Al (Ar rfl) (hd 27 rfl)) rfl <| Av 1 [4, 5, 6, 15, 16] (Al (Ar rfl) (hd 28 rfl)) rfl <| Av 2 [3, 4, 5, 6, 15, 16] (Al (Ar rfl) (hd 29 rfl)) rfl ?_; refine Av 3 [4, 5, 6, 15, 16] (Al (Dk rfl rfl (by decide) (r := ((n / 32 : Nat) : Int)) (P9 (by omega))) (hd 30 rfl)) rfl <| Av 4 [5, 6, 15, 16] (Al (Aw rfl rfl (r := ((i + n / 32 : Nat) : Int)) (by rw [Ag (by omega) (by omega)]; omega)) (hd 31 rfl)) rfl <| Av 5 [6, 15, 16] (Al (B2 (i := i + n / 32) Cz rfl rfl (by first | rfl | omega) (by omega)) (hd 32 rfl)) rfl <| zal 6 (Al (Ba (Bw Bj rfl rfl) (by show V.i .u64 _ = V.i .u64 ((((x / B32 ^ (i + n / 32) % B32) : Nat) : Int)); exact congrArg (V.i .u64) (Hs (by decide) (i + n / 32) x))) (hd 33 rfl)) rfl <| Av 7 [13, 14, 15, 16] (Al (Ar rfl) (hd 34 rfl)) rfl <| Av 8 [11, 12, 13, 14, 15, 16] (Al (Ar rfl) (hd 35 rfl)) rfl <| Av 9 [10, 11, 12, 13, 14, 15, 16] (Al (Ar rfl) (hd 36 rfl)) rfl <| Av 10 [11, 12, 13, 14, 15, 16] (Al (Dk rfl rfl (by decide) (r := ((n / 32 : Nat) : Int)) (P9 (by omega))) (hd 37 rfl)) rfl <| Av 11 [12, 13, 14, 15, 16] (Al (Aw rfl rfl (r := ((i + n / 32 : Nat) : Int)) (by rw [Ag (by omega) (by omega)]; omega)) (hd 38 rfl)) rfl <| Av 12 [13, 14, 15, 16] (Al (Aw rfl rfl (r := ((i + n / 32 + 1 : Nat) : Int)) (by rw [Ag (by omega) (by omega)]; omega)) (hd 39 rfl)) rfl ?_
        refine B5 13 ?_ rfl (by kernel_rfl)
        refine Bp Tryz.f108 (at_s x (i + n / 32 + 1) (x / B32 ^ (i + n / 32 + 1) % B32) (by omega) rfl) rfl Tryz.func108 rfl rfl (Ab rfl (Ab rfl Ad)) (.cons .n (.cons .i .nil)) (hd 40 rfl) ?_ (fun ch hp => by simp at hp)
        rintro _ ⟨⟩; refine zal 14 (Al (Dg rfl rfl (r := ((((x / B32 ^ (i + n / 32 + 1) % B32)) * 4294967296 : Nat) : Int)) (A0 (by omega) (by omega))) (hd 41 rfl)) rfl <| zal 15 (Al (Aw rfl rfl (r := ((((x / B32 ^ (i + n / 32) % B32) + (x / B32 ^ (i + n / 32 + 1) % B32) * 4294967296) : Nat) : Int)) (A0 (by omega) (by omega))) (hd 42 rfl)) rfl <| zal 16 (Al (Cm rfl) (hd 8 rfl)) rfl <| Bx (by kernel_rfl) <| Af <| zmv rfl (hd 43 rfl) <| zmv rfl (hd 44 rfl) <| zmv rfl (hd 45 rfl) <| zmv rfl (hd 46 rfl) <| Ac (Ba (D2 rfl rfl (by omega) rfl) (by show V.i .u64 _ = V.i .u64 (((((x / B32 ^ (i + n / 32) % B32) + (x / B32 ^ (i + n / 32 + 1) % B32) * 4294967296) / 2 ^ (n % 32) : Nat) : Int)); exact congrArg (V.i .u64) (Hh (k := 2 ^ (n % 32)) (by rw [Int.toNat_natCast, Nat.min_eq_left (by have h : IntKind.u64.bits = 64 := rfl; omega)])))) (hd 47 rfl) <| Ac (Ba (Fi rfl rfl (by decide) rfl) (by show V.i .u64 _ = V.i .u64 (dgt (x / 2 ^ n) i); exact congrArg (V.i .u64) (by unfold dgt; rw [← hdg]; rfl))) (hd 48 rfl) <| Ac (Cd (i := i) Cz rfl rfl rfl (by first | rfl | omega) (by omega) rfl) (hd 49 rfl) <| A6 (B3 rfl rfl rfl Bj (by omega)) ?_; refine Aa <| Af <| Ac (Aw rfl rfl (r := ((i + 1 : Nat) : Int)) (by rw [Ag (by omega) (by omega)]; omega)) (hd 50 rfl) <| zmv rfl (hd 24 rfl) <| Aa ?_
        refine ⟨i + 1, ?_, ?_, (by show [(⟨71, 1, 0, true, ints .u64 _⟩ : Ob)] = [⟨71, 1, 0, true, ints .u64 _⟩]; rw [Ng (by omega)]), A5 58 rfl rfl ?_⟩
        · omega
        · omega
        · exact (.cons rfl (.v9 (.v9 (.v5 (.u (.u (.u .nil)))))))
      · obtain rfl : i = ((Aj B32 x).length - n / 32) := by omega
        refine Bh <| Ae <| Ia (k := .u64) (l := Ci (dvl (x / 2 ^ n) ((Aj B32 x).length - n / 32)) ((Aj B32 x).length - n / 32)) (l' := dvl (x / 2 ^ n) ((Aj B32 x).length - n / 32)) 5 rfl rfl (by rw [H6, Ez]; omega) (by rw [H6, List.drop_zero, List.take_of_length_le (by rw [Ez]; omega)]) hL <| Af <| zmv rfl (hd 51 rfl) ?_
        refine Ah Tryz.f68 (Ij (dvl (x / 2 ^ n) ((Aj B32 x).length - n / 32)) (by rw [Ez]; omega)) rfl Tryz.func68 rfl rfl (Ab rfl Ad) (.cons .n .nil) (hd 52 rfl) ?_ (fun ch hp => by simp at hp)
        rintro _ ⟨⟩; refine zas rfl (hd 4 rfl) <| Aa <| Ao ?_
        refine ⟨_, _, (.cons rfl .nil), .n, ?_⟩
        rw [Pw (Ahb (by omega))]





theorem Of_0  : Spec Tryz.prog 92 [.i .i64 0] (fun o => o = .ret (.a [.b false, .n true .u64 []])) := by
  refine Au [(0, .i .i64 0)] rfl Tryz.func92 rfl (zlb rfl) fun Γ hN hds hL hR => ?_
  have hd := Bt 14 hN
  have rF : Spec Tryz.prog 35 [.i .u64 0] (fun o => o = .ret (.n true .u64 [])) := by have h := Hu 0; rwa [if_pos rfl] at h
  refine zsr <| A4 (At (id := 0) A7 (by decide) rfl (by decide) rfl) (hd 2 rfl) <| Aa <| Ae <| zsr <| zmv rfl (hd 3 rfl) <| Ac (Bo (Br rfl rfl) (by decide)) (hd 4 rfl) <| Aa <| A1 rfl <| Ai <| Ae ?_; refine Af <| zmv rfl (hd 10 rfl) <| Ac (Cv Jx G9 rfl (r := 0) rfl) (hd 11 rfl) ?_
  refine Ah Tryz.f35 (rF) rfl Tryz.func35 rfl rfl (Ab rfl Ad) (.cons .i .nil) (hd 12 rfl) ?_ (fun ch hp => by simp at hp)
  rintro _ ⟨⟩; refine Ac (Bn (is := [1]) (xs := [.tmp 12]) A7 Jl rfl (Ab rfl Ad) rfl (by first | (simp [B9, cellsV]; done) | (simp [B9, cellsV, old]; done)) (B7 rfl) rfl) (hd 13 rfl) <| A6 (Ak rfl rfl rfl B8 rfl rfl (zlb rfl)) <| Aa <| Ao ?_
  refine ⟨_, _, (.cons (ResV.cell B0 rfl rfl rfl rfl) .nil), (.a1 .b (.a1 .n .a0)), ?_⟩
  exact rfl

theorem Of_v (v : Int) (h : inI v) : Spec Tryz.prog 92 [.i .i64 v] (fun o => o = .ret (.a [.b (decide (v < 0)), .n true .u64 (lm v)])) := by
  have e := of_lm h
  obtain ⟨h1, h2⟩ := h
  rw [e]
  unfold fl
  rcases Int.lt_trichotomy v 0 with hv | hv | hv
  · rw [decide_eq_true hv, if_neg (by omega), show ((v.natAbs : Nat) : Int) = -v by omega]
    exact Of_neg v hv h1
  · subst hv
    exact Of_0
  · rw [decide_eq_false (by omega), if_neg (by omega), show ((v.natAbs : Nat) : Int) = v by omega]
    exact Of_pos v hv h2


theorem Quo_v (v w : Int) (hv : Aq v ≤ 67108864) (hw : Aq w ≤ 67108864) (h0 : w ≠ 0) : Spec Tryz.prog 71 [.n false .u64 (lm v), .n false .u64 (lm w)] (fun o => o = .ret (.t [.n false .u64 (lm (qn v w)), .i .i64 0])) := by
  refine Au [(0, .n false .u64 (lm v)), (1, .n false .u64 (lm w))] rfl Tryz.func71 rfl (zlb rfl) fun Γ hN hds hL hR => ?_
  have hd := Bt 25 hN
  have hlv := Bv hv
  have hlw := Bv hw
  have hle := Cc (v := qn v w) (w := v) Yq
  have hlq := Bv (v := qn v w) (by omega)
  have hne := Qn h0
  refine zsr <| zas rfl (hd 4 rfl) <| zas rfl (hd 5 rfl) <| Aa <| zsr <| zmv rfl (hd 8 rfl) ?_
  refine Ah Tryz.f66 (Lm v (by omega)) rfl Tryz.func66 rfl rfl (Ab rfl Ad) (.cons .n .nil) (hd 9 rfl) ?_ (fun ch hp => by simp at hp)
  rintro _ ⟨⟩; refine zmv rfl (hd 10 rfl) ?_
  refine Ah Tryz.f66 (Lm w (by omega)) rfl Tryz.func66 rfl rfl (Ab rfl Ad) (.cons .n .nil) (hd 11 rfl) ?_ (fun ch hp => by simp at hp)
  rintro _ ⟨⟩; refine zas rfl (hd 0 rfl) <| zas rfl (hd 1 rfl) <| Aa <| Ae <| zsr <| zmv rfl (hd 12 rfl) <| Ac (As Bc rfl) (hd 13 rfl) <| Ac (Bo (Ch rfl rfl) (fun h => hne (List.eq_nil_of_length_eq_zero (by omega)))) (hd 14 rfl) <| Aa <| A1 rfl <| Ai <| Ae ?_; refine Af <| zmv rfl (hd 16 rfl) <| zmv rfl (hd 17 rfl) ?_
  refine Ah Tryz.f107 (Jc v w (by omega) (by omega) h0) rfl Tryz.func107 rfl rfl (Ab rfl (Ab rfl Ad)) (.cons .n (.cons .n .nil)) (hd 18 rfl) ?_ (fun ch hp => by simp at hp)
  rintro _ ⟨⟩; refine zmv rfl (hd 15 rfl) <| Ac (Am rfl rfl) (hd 19 rfl) <| Ac (Am rfl rfl) (hd 20 rfl) <| zas rfl (hd 6 rfl) <| zas rfl (hd 7 rfl) <| Aa <| Ae <| zsr <| zmv rfl (hd 21 rfl) ?_
  refine Ah Tryz.f30 (Di (qn v w) (by omega)) rfl Tryz.func30 rfl rfl (Ab rfl Ad) (.cons .n .nil) (hd 22 rfl) ?_ (fun ch hp => by simp at hp)
  rintro _ ⟨⟩; refine Ac (Bo (Ca rfl rfl) (by omega)) (hd 23 rfl) <| Aa <| A1 rfl <| Ai <| zsr <| zmv rfl (hd 24 rfl) <| zas rfl (hd 4 rfl) <| zas rfl (hd 5 rfl) <| Aa <| Ao ?_
  refine ⟨_, _, (.cons rfl (.cons rfl .nil)), (.t1 .n (.t1 .i .t0)), ?_⟩
  exact rfl



theorem Ah4 (b K : Nat) (hlb : 2 ≤ b) (hb2 : b ≤ 36) (hK : ∀ k, k < K → Aq ((b ^ 2 ^ k : Nat) : Int) ≤ 67108864) (hK2 : K ≤ 40) (l : List Int) (n : Nat) (hl : l.length ≤ 1048576) (hu : Az l) (hx : (vl l).toNat < b ^ 2 ^ 0) (hn : 0 ≤ n) (hjK : 0 ≤ K) : SpecM Tryz.prog 133 [.n false .u64 l, .i .i64 (((0 : Nat) : Int) - 1), .q [.i .i64 (b : Int)], .q [.l true 1 (pwR b K)], .q [cyc 133 [.q [.i .i64 (b : Int)], .q [.l true 1 (pwR b K)]] [] n]] [] (fun o G => ∃ ver, o = .ret (.o 0 ver 0 (hdg b (2 ^ 0) (vl l).toNat).length) ∧ G = [⟨3, 1, ver, true, ints .i64 (hdg b (2 ^ 0) (vl l).toNat)⟩]) := by
  refine Eb [(0, .n false .u64 l), (1, .i .i64 (((0 : Nat) : Int) - 1)), (2, .q [.i .i64 (b : Int)]), (3, .q [.l true 1 (pwR b K)]), (4, .q [cyc 133 [.q [.i .i64 (b : Int)], .q [.l true 1 (pwR b K)]] [] n])] rfl Tryz.func133 rfl (zlb rfl) fun Γ hN hds hL hR => ?_
  have hd := Bt 45 hN
  have hj40 : 2 ^ 0 ≤ 2 ^ 40 := Kt (by omega)
  refine zsr <| zas rfl (hd 7 rfl) <| Aa <| Ae <| zsr <| zmv rfl (hd 11 rfl) <| Ac (Cq (Br rfl rfl) (by omega)) (hd 12 rfl) <| zmv rfl (hd 13 rfl) <| Bk 13 rfl rfl rfl (hd 14 rfl) <| Bk 13 rfl rfl rfl (hd 15 rfl) <| Bk 13 rfl rfl rfl (hd 16 rfl) ?_; refine Ac (A9 rfl rfl) (hd 17 rfl) <| Aa <| B4 rfl <| Ae <| Bu (n := 7) _ rfl Cg <| zal 0 (Al (Ar rfl) (hd 18 rfl)) rfl <| zal 1 (Al (Bw Y2 rfl rfl) (hd 19 rfl)) rfl <| Av 2 [3, 4, 5, 6] (Al (Ar rfl) (hd 20 rfl)) rfl <| Av 3 [4, 5, 6] (Al (Aw rfl rfl (r := (0 : Int)) (by rw [Ag (by omega) (by omega)]; omega)) (hd 21 rfl)) rfl <| zal 4 (Al (Ba (Fo rfl rfl (by omega) rfl) (show V.i .i64 _ = V.i .i64 ((2 ^ 0 : Nat) : Int) from rfl)) (hd 22 rfl)) rfl ?_
  refine B5 5 ?_ rfl (by kernel_rfl)
  refine Es Tryz.f131 (Nq l b (2 ^ 0) hl hu hlb hb2 (by omega)) (fun o G ⟨_, h⟩ => h ▸ An A8 Ax) rfl Tryz.func131 rfl rfl (Ab rfl (Ab rfl (Ab rfl Ad))) (.cons .n (.cons .i (.cons .i .nil))) (hd 23 rfl) ?_ (fun ch G hp => by simp at hp)
  rintro y G ⟨hy, rfl⟩; injection hy with hy; subst hy
  show JA _ _ _ _ _ ((23, .o 0 0 0 (hdg b (2 ^ 0) (vl l).toNat).length) :: _) _ _
  refine zal 6 (Al (Cm rfl) (hd 7 rfl)) rfl <| Bx (by kernel_rfl) <| Ao ?_
  refine ⟨[0], _, (.o 0 0 0 (hdg b (2 ^ 0) (vl l).toNat).length), (.cons rfl .nil), rfl, rfl, (by decide), (by first | exact An A8 Ax | exact An (by show List.all (ints _ _ ++ ints _ _) _ = true; rw [D9]; exact A8) Ax), ?_⟩
  exact ⟨0, rfl, rfl⟩

theorem Ah3 (b K j : Nat) (hlb : 2 ≤ b) (hb2 : b ≤ 36) (hK : ∀ k, k < K → Aq ((b ^ 2 ^ k : Nat) : Int) ≤ 67108864) (hK2 : K ≤ 40) (ih : ∀ (l : List Int) (n : Nat) (hl : l.length ≤ 1048576) (hu : Az l) (hx : (vl l).toNat < b ^ 2 ^ j) (hn : j ≤ n) (hjK : j ≤ K), SpecM Tryz.prog 133 [.n false .u64 l, .i .i64 (((j : Nat) : Int) - 1), .q [.i .i64 (b : Int)], .q [.l true 1 (pwR b K)], .q [cyc 133 [.q [.i .i64 (b : Int)], .q [.l true 1 (pwR b K)]] [] n]] [] (fun o G => o = .ret (.o 0 0 0 (hdg b (2 ^ j) (vl l).toNat).length) ∧ G = [⟨3, 1, 0, true, ints .i64 (hdg b (2 ^ j) (vl l).toNat)⟩])) (l : List Int) (n : Nat) (hl : l.length ≤ 1048576) (hu : Az l) (hx : (vl l).toNat < b ^ 2 ^ (j + 1)) (hn : (j + 1) ≤ n) (hjK : (j + 1) ≤ K) : SpecM Tryz.prog 133 [.n false .u64 l, .i .i64 ((((j + 1) : Nat) : Int) - 1), .q [.i .i64 (b : Int)], .q [.l true 1 (pwR b K)], .q [cyc 133 [.q [.i .i64 (b : Int)], .q [.l true 1 (pwR b K)]] [] n]] [] (fun o G => ∃ ver, o = .ret (.o 0 ver 0 (hdg b (2 ^ (j + 1)) (vl l).toNat).length) ∧ G = [⟨3, 1, ver, true, ints .i64 (hdg b (2 ^ (j + 1)) (vl l).toNat)⟩]) := by
  refine Eb [(0, .n false .u64 l), (1, .i .i64 ((((j + 1) : Nat) : Int) - 1)), (2, .q [.i .i64 (b : Int)]), (3, .q [.l true 1 (pwR b K)]), (4, .q [cyc 133 [.q [.i .i64 (b : Int)], .q [.l true 1 (pwR b K)]] [] n])] rfl Tryz.func133 rfl (zlb rfl) fun Γ hN hds hL hR => ?_
  have hd := Bt 45 hN
  have hj40 : 2 ^ (j + 1) ≤ 2 ^ 40 := Kt (by omega)
  obtain ⟨n, rfl⟩ : ∃ m, n = m + 1 := ⟨n - 1, by omega⟩
  have hp0 := Abe (b := b) (k := j) hlb
  have hxv := Abl hu
  have hv : Aq (vl l) ≤ 67108864 := by have := Im (s := false) hu; have e : sv false l = vl l := rfl; rw [e] at this; omega
  have hpw : ((b ^ 2 ^ j : Nat) : Int) ≠ 0 := by omega
  have hQn := Ady (p := b ^ 2 ^ j) hxv.symm
  have hRn := Adl (p := b ^ 2 ^ j) hxv.symm
  have hQl := Bv (Nat.le_trans (Cc (Yq (v := vl l) (w := ((b ^ 2 ^ j : Nat) : Int)))) hv)
  have hRl := Bv (Nat.le_trans (Cc (Ms (v := vl l) hpw).1) (hK j (by omega)))
  have hQx := Abg hx
  have hRx := Abf (j := j) (x := (vl l).toNat) hlb
  have hlQ : (hdg b (2 ^ j) (vl (lm (qn (vl l) ((b ^ 2 ^ j : Nat) : Int)))).toNat).length ≤ 1099511627776 := by rw [Ma, hQn]; have h1 := E0 hlb _ _ hQx; have h2 : 2 ^ j ≤ 2 ^ 40 := Kt (by omega); omega
  have hlR : (hdg b (2 ^ j) (vl (lm (rn (vl l) ((b ^ 2 ^ j : Nat) : Int)))).toNat).length ≤ 1099511627776 := by rw [Ma, hRn]; have h1 := E0 hlb _ _ hRx; have h2 : 2 ^ j ≤ 2 ^ 40 := Kt (by omega); omega
  refine zsr <| zas rfl (hd 7 rfl) <| Aa <| Ae <| zsr <| zmv rfl (hd 11 rfl) <| Ac (Bo (Br rfl rfl) (by omega)) (hd 12 rfl) <| zmv rfl (hd 13 rfl) <| Ay 13 rfl rfl (Ar rfl) (hd 14 rfl) ?_
  refine Dv Tryz.f30 13 rfl rfl (Ee l (by omega) hu) rfl Tryz.func30 rfl rfl (Ab rfl Ad) (.cons .n .nil) (hd 15 rfl) ?_ (fun ch hp => by simp at hp)
  rintro _ ⟨⟩; refine Ay 13 rfl rfl (J5 rfl rfl) (hd 16 rfl) <| Ac (A3 rfl rfl) (hd 17 rfl) <| Aa ?_
  refine Bg rfl (fun h1 => ?_) (fun h1 => ?_)
  · refine Ae <| Bu (n := 7) _ rfl Cg <| zal 0 (Al (Ar rfl) (hd 18 rfl)) rfl <| zal 1 (Al (Bw Y2 rfl rfl) (hd 19 rfl)) rfl <| Av 2 [3, 4, 5, 6] (Al (Ar rfl) (hd 20 rfl)) rfl <| Av 3 [4, 5, 6] (Al (Aw rfl rfl (r := (((j + 1 : Nat) : Int) : Int)) (by rw [Ag (by omega) (by omega)]; omega)) (hd 21 rfl)) rfl <| zal 4 (Al (Ba (Fo rfl rfl (by omega) rfl) (show V.i .i64 _ = V.i .i64 ((2 ^ (j + 1) : Nat) : Int) by rw [Int.one_mul, Int.toNat_natCast, Nat.min_eq_left (by have h : IntKind.i64.bits = 64 := rfl; omega), show (2 : Int) ^ (j + 1) = ((2 ^ (j + 1) : Nat) : Int) by simp]; generalize 2 ^ (j + 1) = q at *; exact congrArg (V.i .i64) (Ag (by omega) (by omega)))) (hd 22 rfl)) rfl ?_
    refine B5 5 ?_ rfl (by kernel_rfl)
    refine Es Tryz.f131 (Nq l b (2 ^ (j + 1)) hl hu hlb hb2 (by omega)) (fun o G ⟨_, h⟩ => h ▸ An A8 Ax) rfl Tryz.func131 rfl rfl (Ab rfl (Ab rfl (Ab rfl Ad))) (.cons .n (.cons .i (.cons .i .nil))) (hd 23 rfl) ?_ (fun ch G hp => by simp at hp)
    rintro y G ⟨hy, rfl⟩; injection hy with hy; subst hy
    show JA _ _ _ _ _ ((23, .o 0 0 0 (hdg b (2 ^ (j + 1)) (vl l).toNat).length) :: _) _ _
    refine zal 6 (Al (Cm rfl) (hd 7 rfl)) rfl <| Bx (by kernel_rfl) <| Ao ?_
    refine ⟨[0], _, (.o 0 0 0 (hdg b (2 ^ (j + 1)) (vl l).toNat).length), (.cons rfl .nil), rfl, rfl, (by decide), (by first | exact An A8 Ax | exact An (by show List.all (ints _ _ ++ ints _ _) _ = true; rw [D9]; exact A8) Ax), ?_⟩
    exact ⟨0, rfl, rfl⟩
  · refine Ai <| zsr <| zmv rfl (hd 25 rfl) <| Ac (Bw K8 rfl rfl) (hd 26 rfl) <| zmv rfl (hd 27 rfl) <| Ac (Abq (i := j) (row := [pwV b j]) Rg rfl rfl (by omega) (pw_at (by omega))) (hd 28 rfl) <| Ac (Bw D8 rfl rfl) (hd 29 rfl) ?_
    refine Ah Tryz.f102 (Both_r l ((b ^ 2 ^ j : Nat) : Int) hl hu (hK j (by omega)) hpw) rfl Tryz.func102 rfl rfl (Ab rfl (Ab rfl Ad)) (.cons .n (.cons .n .nil)) (hd 30 rfl) ?_ (fun ch hp => by simp at hp)
    rintro _ ⟨⟩; refine zmv rfl (hd 24 rfl) <| Ac (Am rfl rfl) (hd 31 rfl) <| Ac (Am rfl rfl) (hd 32 rfl) <| Ac (Am rfl rfl) (hd 33 rfl) <| zas rfl (hd 8 rfl) <| zas rfl (hd 9 rfl) <| zas rfl (hd 10 rfl) <| Aa <| Ae <| Bu (n := 12) _ rfl Cg <| Av 0 [4, 9, 10, 11] (Al (Qk Qh rfl rfl) (hd 34 rfl)) rfl <| Av 1 [4, 9, 10, 11] (Al (Ar rfl) (hd 35 rfl)) rfl <| Av 2 [3, 4, 9, 10, 11] (Al (Ar rfl) (hd 36 rfl)) rfl ?_; refine Av 3 [4, 9, 10, 11] (Al (Ba (Bd rfl rfl (Ag (by omega) (by omega))) (show V.i .i64 _ = V.i .i64 ((j : Int) - 1) by congr 1; omega)) (hd 37 rfl)) rfl <| Av 5 [9, 10, 11] (Al (Qk Qh rfl rfl) (hd 39 rfl)) rfl <| Av 6 [9, 10, 11] (Al (Ar rfl) (hd 40 rfl)) rfl <| Av 7 [8, 9, 10, 11] (Al (Ar rfl) (hd 41 rfl)) rfl <| Av 8 [9, 10, 11] (Al (Ba (Bd rfl rfl (Ag (by omega) (by omega))) (show V.i .i64 _ = V.i .i64 ((j : Int) - 1) by congr 1; omega)) (hd 42 rfl)) rfl ?_
    refine B5 4 ?_ rfl (by kernel_rfl)
    refine O3 Tryz.f133 (ih (lm (qn (vl l) ((b ^ 2 ^ j : Nat) : Int))) n hQl (Dc _) (by rw [hQn]; exact hQx) (by omega) (by omega)) (fun o G ⟨_, h⟩ => h ▸ An A8 Ax) rfl Tryz.func133 rfl rfl (Ab rfl (Ab rfl Ad)) (.cons .n (.cons .i (.cons .q (.cons .q (.cons .q .nil))))) (hd 38 rfl) ?_ (fun ch G hp => by simp at hp)
    rintro y G ⟨hy, rfl⟩; injection hy with hy; subst hy
    show JA _ _ _ _ _ ((38, .o 0 0 0 (hdg b (2 ^ j) (vl (lm (qn (vl l) ((b ^ 2 ^ j : Nat) : Int)))).toNat).length) :: _) _ _
    refine B5 9 ?_ rfl (by kernel_rfl)
    refine O3 Tryz.f133 (ih (lm (rn (vl l) ((b ^ 2 ^ j : Nat) : Int))) n hRl (Dc _) (by rw [hRn]; exact hRx) (by omega) (by omega)) (fun o G ⟨_, h⟩ => h ▸ An A8 Ax) rfl Tryz.func133 rfl rfl (Ab rfl (Ab rfl Ad)) (.cons .n (.cons .i (.cons .q (.cons .q (.cons .q .nil))))) (hd 43 rfl) ?_ (fun ch G hp => by simp at hp)
    rintro y G ⟨hy, rfl⟩; injection hy with hy; subst hy
    show JA _ _ _ _ _ ((43, .o 1 0 0 (hdg b (2 ^ j) (vl (lm (rn (vl l) ((b ^ 2 ^ j : Nat) : Int)))).toNat).length) :: _) _ _
    refine B5 10 ?_ rfl (by kernel_rfl)
    refine js_app Lj rfl rfl (by rw [Cs, Nat.mul_one]) rfl (Pz rfl (by rw [Cs, Nat.mul_one]) Zl) (by show ((hdg b (2 ^ j) (vl (lm (qn (vl l) ((b ^ 2 ^ j : Nat) : Int)))).toNat).length + (hdg b (2 ^ j) (vl (lm (rn (vl l) ((b ^ 2 ^ j : Nat) : Int)))).toNat).length) * 8 ≤ _; omega) (by show (hdg b (2 ^ j) (vl (lm (qn (vl l) ((b ^ 2 ^ j : Nat) : Int)))).toNat).length + (hdg b (2 ^ j) (vl (lm (rn (vl l) ((b ^ 2 ^ j : Nat) : Int)))).toNat).length ≤ 9223372036854775807; omega) (hd 44 rfl) rfl <| zal 11 (Al (Cm rfl) (hd 7 rfl)) rfl <| Bx (by kernel_rfl) <| Ao ?_
    refine ⟨[0], _, (.o 0 1 0 ((hdg b (2 ^ j) (vl (lm (qn (vl l) ((b ^ 2 ^ j : Nat) : Int)))).toNat).length + (hdg b (2 ^ j) (vl (lm (rn (vl l) ((b ^ 2 ^ j : Nat) : Int)))).toNat).length)), (.cons rfl .nil), rfl, rfl, (by decide), (by first | exact An A8 Ax | exact An (by show List.all (ints _ _ ++ ints _ _) _ = true; rw [D9]; exact A8) Ax), ?_⟩
    exact ⟨1, by show Out.ret (V.o _ _ _ ((hdg b (2 ^ j) (vl (lm (qn (vl l) ((b ^ 2 ^ j : Nat) : Int)))).toNat).length + (hdg b (2 ^ j) (vl (lm (rn (vl l) ((b ^ 2 ^ j : Nat) : Int)))).toNat).length)) = _; rw [← List.length_append, hQn, hRn, On hlb hx], by show [(⟨3, 1, 1, true, ints .i64 (hdg b (2 ^ j) (vl (lm (qn (vl l) ((b ^ 2 ^ j : Nat) : Int)))).toNat) ++ ints .i64 (hdg b (2 ^ j) (vl (lm (rn (vl l) ((b ^ 2 ^ j : Nat) : Int)))).toNat)⟩ : Ob)] = [⟨3, 1, 1, true, ints .i64 (hdg b (2 ^ (j + 1)) (vl l).toNat)⟩]; rw [D9, hQn, hRn, On hlb hx]⟩

theorem Abh (b K : Nat) (hlb : 2 ≤ b) (hb2 : b ≤ 36) (hK : ∀ k, k < K → Aq ((b ^ 2 ^ k : Nat) : Int) ≤ 67108864) (hK2 : K ≤ 40) : ∀ (j : Nat) (l : List Int) (n : Nat) (hl : l.length ≤ 1048576) (hu : Az l) (hx : (vl l).toNat < b ^ 2 ^ j) (hn : j ≤ n) (hjK : j ≤ K), SpecM Tryz.prog 133 [.n false .u64 l, .i .i64 (((j : Nat) : Int) - 1), .q [.i .i64 (b : Int)], .q [.l true 1 (pwR b K)], .q [cyc 133 [.q [.i .i64 (b : Int)], .q [.l true 1 (pwR b K)]] [] n]] [] (fun o G => o = .ret (.o 0 0 0 (hdg b (2 ^ j) (vl l).toNat).length) ∧ G = [⟨3, 1, 0, true, ints .i64 (hdg b (2 ^ j) (vl l).toNat)⟩])
  | 0, l, n, hl, hu, hx, hn, hjK => (Ah4 b K hlb hb2 hK hK2 l n hl hu hx hn hjK).ver0 A8
  | j + 1, l, n, hl, hu, hx, hn, hjK => (Ah3 b K j hlb hb2 hK hK2 (fun l n hl hu hx hn hjK => Abh b K hlb hb2 hK hK2 j l n hl hu hx hn hjK) l n hl hu hx hn hjK).ver0 A8

theorem all_n (l : List Int) (b : Nat) (hl : l.length ≤ 1048576) (hu : Az l) (hlb : 2 ≤ b) (hb2 : b ≤ 36) : SpecM Tryz.prog 111 [.n false .u64 l, .i .i64 (b : Int)] [] (fun o G => o = .ret (.o 0 0 0 (hdg b 1 (vl l).toNat).length) ∧ G = [⟨3, 1, 0, true, ints .i64 (hdg b 1 (vl l).toNat)⟩]) := by
  refine Eb [(0, .n false .u64 l), (1, .i .i64 (b : Int))] rfl Tryz.func111 rfl (zlb rfl) fun Γ hN hds hL hR => ?_
  have hd := Bt 75 hN
  have hlenl := Jp l
  have hxv := Abl hu
  have hv0 := Bf hu
  have hv : Aq (vl l) ≤ 67108864 := by have := Im (s := false) hu; have e : sv false l = vl l := rfl; rw [e] at this; omega
  have hxp := Zc hv0 hv
  have hF : Spec Tryz.prog 35 [.i .u64 (b : Int)] (fun o => o = .ret (.n true .u64 (lm ((b ^ 2 ^ 0 : Nat) : Int)))) := by have h := Hu (b : Int); rwa [show (if (b : Int) = 0 then [] else [(b : Int)]) = lm ((b ^ 2 ^ 0 : Nat) : Int) from by rw [Nat.pow_zero, Nat.pow_one]; exact Zq (by omega) (by omega)] at h
  refine zsr <| A4 (By (id := 0) (n := 1) rfl rfl rfl (by decide) rfl) (hd 3 rfl) <| zas rfl (hd 4 rfl) <| Aa <| Ae <| zsr <| zmv rfl (hd 12 rfl) ?_
  refine Ah Tryz.f30 (Ee l (by omega) hu) rfl Tryz.func30 rfl rfl (Ab rfl Ad) (.cons .n .nil) (hd 13 rfl) ?_ (fun ch hp => by simp at hp)
  rintro _ ⟨⟩; refine Ac (J5 rfl rfl) (hd 14 rfl) <| zmv rfl (hd 15 rfl) ?_
  refine D4 15 rfl (fun h1 => ?_) (fun h1 => ?_)
  · refine Bk 15 rfl rfl rfl (hd 16 rfl) <| Bk 15 rfl rfl rfl (hd 17 rfl) <| Bk 15 rfl rfl rfl (hd 18 rfl) <| Ac (A9 rfl rfl) (hd 19 rfl) <| Aa <| B4 rfl <| zsr <| zmv rfl (hd 20 rfl) <| Ac (Be Y2 rfl rfl rfl) (hd 21 rfl) ?_
    refine Fb Tryz.f131 (Nq l b 1 hl hu hlb hb2 (by decide)) (fun o G ⟨_, h⟩ => h ▸ An A8 Ax) rfl Tryz.func131 rfl rfl (Ab rfl (Ab rfl (Ab rfl Ad))) (.cons .n (.cons .i (.cons .i .nil))) (hd 22 rfl) ?_ (fun ch G hp => by simp at hp)
    rintro y G ⟨hy, rfl⟩; injection hy with hy; subst hy
    show JO _ _ _ _ ((22, .o 1 0 0 (hdg b 1 (vl l).toNat).length) :: _) _ _
    refine zas rfl (hd 4 rfl) <| Aa <| Ao ?_
    refine ⟨[1], _, (.o 0 0 0 (hdg b 1 (vl l).toNat).length), (.cons rfl .nil), rfl, rfl, (by decide), (An A8 Ax), ?_⟩
    exact ⟨rfl, rfl⟩
  · refine Ay 15 rfl rfl (Ar rfl) (hd 16 rfl) ?_
    refine Dv Tryz.f30 15 rfl rfl (Ee l (by omega) hu) rfl Tryz.func30 rfl rfl (Ab rfl Ad) (.cons .n .nil) (hd 17 rfl) ?_ (fun ch hp => by simp at hp)
    rintro _ ⟨⟩; refine Ay 15 rfl rfl (Bo (Ca rfl rfl) (by omega)) (hd 18 rfl) <| Ac (A3 rfl rfl) (hd 19 rfl) <| Aa <| A1 rfl <| Ai <| zsr <| Ac (Be Y2 rfl rfl rfl) (hd 23 rfl) <| Ac (Cv Jx G9 rfl (r := (b : Int)) (A0 (by omega) (by omega))) (hd 24 rfl) ?_
    refine Ah Tryz.f35 (hF) rfl Tryz.func35 rfl rfl (Ab rfl Ad) (.cons .i .nil) (hd 25 rfl) ?_ (fun ch hp => by simp at hp)
    rintro _ ⟨⟩; refine A4 (Dl (id := 1) (xs := [.tmp 25]) Wj rfl (Ab rfl Ad) rfl (Cx rfl) (by decide) rfl) (hd 26 rfl) <| A4 (At (id := 2) Xm (by decide) rfl (by decide) rfl) (hd 5 rfl) <| A6 (Ak rfl rfl rfl Ua rfl rfl (zlb rfl)) <| Aa ?_
    refine Lf (G := Nat) (fun k => k ≤ 26 ∧ Aq ((b ^ 2 ^ k : Nat) : Int) ≤ 67108864 ∧ (vl l).toNat < b ^ 2 ^ (k + 1)) (fun k => [(6, .u), (7, .u), (8, .u), (27, .u), (28, .u), (29, .u), (30, .u), (31, .u), (32, .u), (33, .u), (34, .u), (35, .u), (36, .u), (37, .u), (38, .u), (39, .u), (40, .u), (41, .u), (42, .u), (43, .u), (44, .u), (45, .u), (46, .u), (47, .u), (48, .u), (49, .u)]) (fun k => [⟨3, 1, 0, true, [.i .i64 (b : Int)]⟩, ⟨23, 1, k, true, (pwR b (k + 1)).flatten⟩, ⟨147, 1, 0, true, [.o 1 k 0 (k + 1)]⟩]) ?_ ?_
    · refine Ap <| Lo (H' := [⟨3, 1, 0, true, [.i .i64 (b : Int)]⟩, ⟨23, 1, 0, true, (pwR b (0 + 1)).flatten⟩, ⟨147, 1, 0, true, [.o 1 0 0 (0 + 1)]⟩]) (by rw [← Ahy]; rfl) ?_
      refine Gd (G := Nat) 3 (fun k => k ≤ 26 ∧ Aq ((b ^ 2 ^ k : Nat) : Int) ≤ 67108864) (fun k => [(6, .u), (7, .u), (8, .u), (27, .u), (28, .u), (29, .u), (30, .u), (31, .u), (32, .u), (33, .u), (34, .u), (35, .u), (36, .u), (37, .u), (38, .u), (39, .u), (40, .u), (41, .u), (42, .u), (43, .u), (44, .u), (45, .u), (46, .u), (47, .u), (48, .u), (49, .u)]) (fun k => [⟨3, 1, 0, true, [.i .i64 (b : Int)]⟩, ⟨23, 1, k, true, (pwR b (k + 1)).flatten⟩, ⟨147, 1, 0, true, [.o 1 k 0 (k + 1)]⟩]) (fun k => 27 - k) 0 ?_ ?_ rfl hR rfl (fun _ _ => rfl) (fun k _ => .cons rfl (.cons pw_id (.cons rfl .nil))) ?_
      · exact ⟨by decide, Nat.le_trans (Cc (w := 36) (by rw [Int.natAbs_natCast, Nat.pow_zero, Nat.pow_one]; omega)) (by decide)⟩
      · exact (.v9 (.v9 (.v5 (.u .nil))))
      · rintro k ⟨hk26, hkl⟩
        have hkm := Bv hkl
        refine Ap <| zsr <| Ac (Be K8 rfl rfl rfl) (hd 27 rfl) <| Ac (Be K8 rfl rfl rfl) (hd 28 rfl) <| Ac (C6 Rg rfl rfl) (hd 29 rfl) <| Ac (Bd rfl rfl (Ag (by omega) (by omega))) (hd 30 rfl) <| Ac (Cd (i := k) Rg rfl rfl rfl (by omega) (by omega) rfl) (hd 31 rfl) <| Ac (Be (y := pwV b k) D8 rfl rfl (by rw [Nat.zero_add, Nat.mul_one]; exact Ahz (by omega))) (hd 32 rfl) <| zas rfl (hd 6 rfl) <| Aa <| Ae <| Af ?_; refine zmv rfl (hd 34 rfl) ?_
        refine Ah Tryz.f132 (Z9 (lm ((b ^ 2 ^ k : Nat) : Int)) (by omega) (Dc _)) rfl Tryz.func132 rfl rfl (Ab rfl Ad) (.cons .n .nil) (hd 35 rfl) ?_ (fun ch hp => by simp at hp)
        rintro y ⟨r2, e2, hy, he2⟩; injection hy with hy; subst hy
        rw [Ahw] at he2
        have hle2 := Zt he2
        have hu2 := errL_u he2
        have hcv := Ns hu2 hu
        refine zmv rfl (hd 33 rfl) <| Ac (Am rfl rfl) (hd 36 rfl) <| Ac (Am rfl rfl) (hd 37 rfl) <| zas rfl (hd 7 rfl) <| zas rfl (hd 8 rfl) <| Aa <| Ae <| zsr <| zmv rfl (hd 38 rfl) <| Ac (Ec rfl rfl) (hd 39 rfl) <| zmv rfl (hd 40 rfl) ?_
        refine D4 40 rfl (fun h4 => ?_) (fun h4 => ?_)
        · refine Bk 40 rfl rfl rfl (hd 41 rfl) <| Bk 40 rfl rfl rfl (hd 42 rfl) <| Bk 40 rfl rfl rfl (hd 43 rfl) <| Bk 40 rfl rfl rfl (hd 44 rfl) <| Ac (A9 rfl rfl) (hd 45 rfl) <| Aa <| B4 rfl <| Bh ?_
          refine ⟨k, ?_, rfl, A5 49 rfl rfl ?_⟩
          · exact ⟨hk26, hkl, Ah1 hv hv0 (Aff he2 (by assumption))⟩
          · exact (.v9 (.v9 (.v5 (.u .nil))))
        · obtain ⟨hr2, hle9⟩ := Afg he2 (Decidable.not_not.1 h4)
          have hvr : vl r2 = ((b ^ 2 ^ (k + 1) : Nat) : Int) := by rw [hr2, J3 (Int.natCast_nonneg _)]
          refine Ay 40 rfl rfl (Ar rfl) (hd 41 rfl) <| Ay 40 rfl rfl (Ar rfl) (hd 42 rfl) ?_
          refine Dv Tryz.f89 40 rfl rfl (Je r2 l (by omega) (by omega)) rfl Tryz.func89 rfl rfl (Ab rfl (Ab rfl Ad)) (.cons .n (.cons .n .nil)) (hd 43 rfl) ?_ (fun ch hp => by simp at hp)
          rintro _ ⟨⟩; refine Ay 40 rfl rfl (Ca rfl rfl) (hd 44 rfl) <| Ac (A3 rfl rfl) (hd 45 rfl) <| Aa ?_
          refine Bg rfl (fun h6 => ?_) (fun h6 => ?_)
          · refine Bh ?_
            refine ⟨k, ?_, rfl, A5 49 rfl rfl ?_⟩
            · exact ⟨hk26, hkl, by rcases hcv with ⟨c, v⟩ | ⟨c, v⟩ | ⟨c, v⟩ <;> omega⟩
            · exact (.v9 (.v9 (.v5 (.u .nil))))
          · have hge : b ^ 2 ^ (k + 1) ≤ (vl l).toNat := by rcases hcv with ⟨c, v⟩ | ⟨c, v⟩ | ⟨c, v⟩ <;> omega
            have hkeep : k + 1 ≤ 26 ∧ Aq ((b ^ 2 ^ (k + 1) : Nat) : Int) ≤ 67108864 := ⟨Yr hlb hge hxp, hle9⟩
            refine Ai <| Af <| Ac (Be K8 rfl rfl rfl) (hd 46 rfl) <| zmv rfl (hd 47 rfl) <| A4 (Dl (id := 3) (xs := [.tmp 47]) Wj rfl (Ab rfl Ad) rfl (Cx rfl) (by decide) rfl) (hd 48 rfl) <| O6 Wj rfl rfl (by rw [Ad3, Nat.mul_one]) rfl (Pz rfl rfl rfl) (by show (k + 1 + 1) * 24 ≤ _; omega) (by show k + 1 + 1 ≤ 9223372036854775807; omega) (hd 49 rfl) <| A6 (Ak rfl rfl rfl Ua rfl (by simp [cellsV, Ip]) (zlb rfl)) <| Aa ?_
            refine ⟨k + 1, ?_, ?_, (by show [_, (⟨23, 1, k + 1, true, (pwR b (k + 1)).flatten ++ [V.n true .u64 r2]⟩ : Ob), _] = [_, ⟨23, 1, k + 1, true, (pwR b (k + 1 + 1)).flatten⟩, _]; rw [hr2, ← U0 (K := k + 1)]; rfl), A5 53 rfl rfl ?_⟩
            · exact hkeep
            · omega
            · exact (.v9 (.v9 (.v5 (.u .nil))))
    · rintro k ⟨hk26, hkl, hx⟩
      have hK : ∀ j, j < k + 1 → Aq ((b ^ 2 ^ j : Nat) : Int) ≤ 67108864 := fun j hj => Nat.le_trans (Ad2 hlb (by omega)) hkl
      have hx0 : (vl l).toNat ≠ 0 := fun h0 => by have h1 := (Ld hu).2 (by omega); omega
      have hdm := E0 hlb _ _ hx
      have hlen : (hdg b (2 ^ (k + 1)) (vl l).toNat).length = 2 ^ (k + 1) := by rw [Ma]; omega
      have h27 : 2 ^ (k + 1) ≤ 2 ^ 27 := Kt (by omega)
      refine zsr <| A4 (At (id := 3) Xn (by decide) rfl (by decide) rfl) (hd 9 rfl) <| Aa <| Ae <| Zi 0 (idB := 2) (id := 1) (pwR b (k + 1)) rfl rfl rfl rfl Om pw_sz Ad1 (by decide) hL <| V3 5 rfl rfl rfl rfl hL <| V3 3 rfl rfl rfl rfl hL <| Af <| Ac (I5 (Ab rfl (Ab rfl (Ab rfl Ad)))) (hd 50 rfl) <| A6 (Ak rfl rfl rfl Ac7 rfl rfl (zlb rfl)) <| Aa <| Ae ?_; refine jc_cyc 9 [.q [.i .i64 (b : Int)], .q [.l true 1 (pwR b (k + 1))]] [] (k + 2) rfl rfl rfl rfl hL <| Af <| Ac (Qk Qh rfl rfl) (hd 51 rfl) <| zmv rfl (hd 52 rfl) <| Ac (Bw K8 rfl rfl) (hd 53 rfl) <| Ac (Ba (Vj Rg rfl) (show V.i .i64 _ = V.i .i64 ((k + 1 : Nat) : Int) by rw [Om])) (hd 54 rfl) <| Ac (Bd rfl rfl (Ag (by omega) (by omega))) (hd 55 rfl) ?_
      refine Vz Tryz.f133 (Abh b (k + 1) hlb hb2 hK (by omega) (k + 1) l (k + 1) hl hu hx (Nat.le_refl _) (Nat.le_refl _)) (fun o G ⟨_, h⟩ => h ▸ An A8 Ax) rfl Tryz.func133 rfl rfl (Ab rfl (Ab rfl Ad)) (.cons .n (.cons .i (.cons .q (.cons .q (.cons .q .nil))))) (hd 56 rfl) ?_ (fun ch G hp => by simp at hp)
      rintro y G ⟨hy, rfl⟩; injection hy with hy; subst hy
      show JO _ _ _ _ ((56, .o 4 0 0 (hdg b (2 ^ (k + 1)) (vl l).toNat).length) :: _) _ _
      refine zas rfl (hd 10 rfl) <| Aa <| zsr <| zas rfl (hd 11 rfl) <| Aa ?_
      refine Ce (G := Nat) (fun i => i = (2 ^ (k + 1) - (Aj b (vl l).toNat).length)) (fun i => [(11, .i .i64 (i : Int)), (57, .u), (58, .u), (59, .u), (60, .u), (61, .u), (62, .u), (63, .u), (64, .u), (65, .u), (66, .u), (67, .u), (68, .u), (69, .u), (70, .u)]) ?_ ?_
      · refine Ap ?_
        refine Bq (G := Nat) (fun i => i ≤ (2 ^ (k + 1) - (Aj b (vl l).toNat).length)) (fun i => [(11, .i .i64 (i : Int)), (57, .u), (58, .u), (59, .u), (60, .u), (61, .u), (62, .u), (63, .u), (64, .u), (65, .u), (66, .u), (67, .u), (68, .u), (69, .u), (70, .u)]) (fun _ => _) (fun i => (2 ^ (k + 1) - (Aj b (vl l).toNat).length) - i) 0 ?_ ?_ rfl ?_
        · exact Nat.zero_le _
        · exact (.cons rfl (.v9 (.u (.u (.u (.u .nil))))))
        · rintro i hiz; refine Ae <| zsr <| zmv rfl (hd 57 rfl) <| zmv rfl (hd 58 rfl) <| Ac (C6 Ff rfl rfl) (hd 59 rfl) <| Ac (Bd rfl rfl (Ag (by omega) (by omega))) (hd 60 rfl) <| Ac (Br rfl rfl) (hd 61 rfl) <| zmv rfl (hd 62 rfl) ?_
          refine D4 62 rfl (fun h7 => ?_) (fun h7 => ?_)
          · refine Ay 62 rfl rfl (Ar rfl) (hd 63 rfl) <| Ay 62 rfl rfl (Ar rfl) (hd 64 rfl) <| Ay 62 rfl rfl (Cd (i := i) Ff rfl rfl rfl (by first | rfl | omega) (by omega) rfl) (hd 65 rfl) <| Ay 62 rfl rfl (Ba (D3 Y2 rfl rfl (by first | omega | (dsimp only; omega))) (show V.i .i64 _ = V.i .i64 ((hdg b (2 ^ (k + 1)) (vl l).toNat).getD i 0) by rw [Nat.zero_add, Nat.mul_one])) (hd 66 rfl) <| Ay 62 rfl rfl (Ch rfl rfl) (hd 67 rfl) <| Ac (A9 rfl rfl) (hd 68 rfl) <| Aa ?_
            refine Bg rfl (fun h8 => ?_) (fun h8 => ?_)
            · have hz0 := h8
              refine Ai <| Ap <| Af <| zmv rfl (hd 69 rfl) <| Ac (Aw rfl rfl (r := ((i + 1 : Nat) : Int)) (by rw [Ag (by omega) (by omega)]; omega)) (hd 70 rfl) <| zas rfl (hd 11 rfl) <| Aa ?_
              refine ⟨i + 1, ?_, ?_, rfl, A5 31 rfl rfl ?_⟩
              · exact Sj hlb hx0 hdm hiz hz0
              · have := Sj hlb hx0 hdm hiz hz0
                omega
              · exact (.cons rfl (.v9 (.u (.u (.u (.u .nil))))))
            · refine Bh ?_
              refine ⟨i, ?_, rfl, A5 28 rfl rfl ?_⟩
              · exact Ab6 hlb hx0 hdm hiz (by first | (left; omega) | (right; assumption))
              · exact (.cons rfl (.v9 (.u (.u (.u (.u .nil))))))
          · refine Bk 62 rfl rfl rfl (hd 63 rfl) <| Bk 62 rfl rfl rfl (hd 64 rfl) <| Bk 62 rfl rfl rfl (hd 65 rfl) <| Bk 62 rfl rfl rfl (hd 66 rfl) <| Bk 62 rfl rfl rfl (hd 67 rfl) <| Ac (A3 rfl rfl) (hd 68 rfl) <| Aa <| A1 rfl <| Bh ?_
            refine ⟨i, ?_, rfl, A5 28 rfl rfl ?_⟩
            · exact Ab6 hlb hx0 hdm hiz (by first | (left; omega) | (right; assumption))
            · exact (.cons rfl (.v9 (.u (.u (.u (.u .nil))))))
      · rintro i hiz
        have hdr := Z3 (m := 2 ^ (k + 1)) hlb hx0
        have hR1l : (hdg b 1 (vl l).toNat).length = (hdg b (2 ^ (k + 1)) (vl l).toNat).length - i := by rw [← hdr, List.length_drop, hiz]
        refine zsr <| zmv rfl (hd 71 rfl) <| zmv rfl (hd 72 rfl) <| Ac (Vh (l := i) (h := (hdg b (2 ^ (k + 1)) (vl l).toNat).length) (r := i) (n := (hdg b (2 ^ (k + 1)) (vl l).toNat).length - i) Ff rfl rfl (Db rfl rfl) G5 (by omega) (Nat.le_refl _) (by omega) rfl) (hd 73 rfl) <| A4 (Qq (id := 5) Lj rfl rfl (Ag5 rfl (by omega)) (by omega) (by show _ ≤ 9223372036854775807; omega) rfl) (hd 74 rfl) <| zas rfl (hd 4 rfl) <| Aa <| Ao ?_
        refine ⟨[5], _, (.o 0 0 0 ((hdg b (2 ^ (k + 1)) (vl l).toNat).length - i)), (.cons rfl .nil), rfl, rfl, (by decide), (An A8 Ax), ?_⟩
        exact ⟨by rw [hR1l], by show [(⟨3, 1, 0, true, ints .i64 (((hdg b (2 ^ (k + 1)) (vl l).toNat).drop i).take ((hdg b (2 ^ (k + 1)) (vl l).toNat).length - i))⟩ : Ob)] = [⟨3, 1, 0, true, ints .i64 (hdg b 1 (vl l).toNat)⟩]; rw [List.take_of_length_le (by rw [List.length_drop]; exact Nat.le_refl _), hiz, hdr]⟩

theorem Ag1 (l : List Int) (hl : l.length < 1099511627776) (hr : rng 36 l) : Spec Tryz.prog 110 [.n false .i64 l] (fun o => o = .ret (.n true .u8 (Gq (txt l)))) := by
  refine Au [(0, .n false .i64 l)] rfl Tryz.func110 rfl (zlb rfl) fun Γ hN hds hL hR => ?_
  have hd := Bt 23 hN
  refine zsr <| zas rfl (hd 2 rfl) <| Aa <| zsr <| zmv rfl (hd 6 rfl) <| Ac (As Ff rfl) (hd 7 rfl) <| A4 (F5 (m := l.length) el1136 rfl rfl rfl (by show 1 * l.length ≤ _; omega) (by unfold maxLen; omega) rfl) (hd 8 rfl) <| zas rfl (hd 3 rfl) <| Aa <| Ae <| Ae ?_; refine Lo (H' := [⟨5, 1, 0, true, ints .u8 (cpI (l.map ltr) 0)⟩]) (by rw [← cpI_0, List.length_map]; rfl) <| Af <| zmv rfl (hd 9 rfl) <| Ac (As Ff rfl) (hd 10 rfl) <| zmv rfl (hd 11 rfl) <| Aa <| Ap ?_
  refine Bq (G := Nat) (fun i => i ≤ l.length) (fun i => [(11, .i .i64 (i : Int)), (4, .u), (5, .u), (12, .u), (13, .u), (14, .u), (15, .u), (16, .u), (17, .u), (18, .u), (19, .u), (20, .u), (21, .u)]) (fun i => [⟨5, 1, 0, true, ints .u8 (cpI (l.map ltr) i)⟩]) (fun i => l.length - i) 0 ?_ ?_ rfl ?_
  · exact Nat.zero_le _
  · exact (.cons rfl (.v9 (.u (.u .nil))))
  · rintro i hi
    have hcl := Afs (l := l.map ltr) (i := i) (by rw [List.length_map]; exact hi)
    rw [List.length_map] at hcl
    have hx := I1 (by decide) hr i
    refine zsr <| Ac (Br rfl rfl) (hd 12 rfl) <| Aa <| Ae ?_
    refine Bg rfl (fun h1 => ?_) (fun h1 => ?_)
    · refine Ai <| Ae <| Ap <| zsr <| zmv rfl (hd 13 rfl) <| Ac (B2 (i := i) Ff rfl rfl (by first | rfl | omega) (by omega)) (hd 14 rfl) <| Ac (Bw Y2 rfl rfl) (hd 15 rfl) <| zas rfl (hd 4 rfl) <| zas rfl (hd 5 rfl) <| Aa <| Af <| zmv rfl (hd 16 rfl) ?_; refine zmv rfl (hd 17 rfl) <| zmv rfl (hd 18 rfl) <| Ac (Abo (b := Abr) (i := (l.getD i 0).toNat) und9 (by kernel_rfl) rfl (by omega) (by show _ < 36; omega)) (hd 19 rfl) <| Ac (Cd (i := i) Ag9 rfl rfl rfl (by first | rfl | omega) (by omega) rfl) (hd 20 rfl) <| A6 (B3 rfl rfl rfl one5 (by first | omega | (dsimp only; omega))) <| Aa <| Af <| Ac (Aw rfl rfl (r := ((i + 1 : Nat) : Int)) (by rw [Ag (by omega) (by omega)]; omega)) (hd 21 rfl) <| zmv rfl (hd 11 rfl) <| Aa ?_
      refine ⟨i + 1, ?_, ?_, (by show [(⟨5, 1, 0, true, ints .u8 _⟩ : Ob)] = [⟨5, 1, 0, true, ints .u8 _⟩]; rw [← Afr (by rw [List.length_map]; omega), X1 (by omega)]; rfl), A5 26 rfl rfl ?_⟩
      · omega
      · omega
      · exact (.cons rfl (.v9 (.u (.u .nil))))
    · refine Bh <| Ae ?_
      obtain rfl : i = l.length := by omega
      refine Ia (k := .u8) (l := cpI (l.map ltr) l.length) (l' := Gq (txt l)) 3 rfl rfl (by rw [hcl]; omega) (by rw [Agy, List.drop_zero, List.take_of_length_le (by omega)]; have h := Aft (l.map ltr); rwa [List.length_map] at h) hL <| Af <| zmv rfl (hd 22 rfl) <| zas rfl (hd 2 rfl) <| Aa <| Ao ?_
      refine ⟨_, _, (.cons rfl .nil), .n, ?_⟩
      rfl

theorem good_y (b : Nat) (hb : 2 ≤ b) (hb2 : b ≤ 36) : Spec Tryz.prog 109 [.i .i64 (b : Int)] (fun o => o = .ret (.b true)) := by
  refine Au [(0, .i .i64 (b : Int))] rfl Tryz.func109 rfl (zlb rfl) fun Γ hN hds hL hR => ?_
  have hd := Bt 9 hN
  refine zsr <| zas rfl (hd 2 rfl) <| Aa <| zsr <| zmv rfl (hd 3 rfl) <| Ac (Cq (Eh rfl rfl) (by omega)) (hd 4 rfl) <| zmv rfl (hd 5 rfl) <| Ay 5 rfl rfl (Ar rfl) (hd 6 rfl) <| Ay 5 rfl rfl (Cq (J5 rfl rfl) (by omega)) (hd 7 rfl) <| Ac (A9 rfl rfl) (hd 8 rfl) <| zas rfl (hd 2 rfl) ?_; refine Aa <| Ao ?_
  refine ⟨_, _, (.cons rfl .nil), .b, ?_⟩
  exact rfl

theorem Xg (l : List Int) (b : Nat) (hl : l.length ≤ 1048576) (hu : Az l) (hlb : 2 ≤ b) (hb2 : b ≤ 36) : Spec Tryz.prog 88 [.n false .u64 l, .i .i64 (b : Int)] (fun o => o = .ret (.t [.s (txt (hdg b 1 (vl l).toNat)), .i .i64 0])) := by
  refine Au [(0, .n false .u64 l), (1, .i .i64 (b : Int))] rfl Tryz.func88 rfl (zlb rfl) fun Γ hN hds hL hR => ?_
  have hd := Bt 14 hN
  have hRl : (hdg b 1 (vl l).toNat).length ≤ 67108864 := by rw [Ma]; have h1 := Qx hu hlb; omega
  refine zsr <| zas rfl (hd 4 rfl) <| zas rfl (hd 5 rfl) <| Aa <| Ae <| zsr <| zmv rfl (hd 6 rfl) ?_
  refine Ah Tryz.f109 (good_y b hlb hb2) rfl Tryz.func109 rfl rfl (Ab rfl Ad) (.cons .i .nil) (hd 7 rfl) ?_ (fun ch hp => by simp at hp)
  rintro _ ⟨⟩; refine Ac (E1 rfl) (hd 8 rfl) <| Aa <| A1 rfl <| Ai <| zsr <| zmv rfl (hd 9 rfl) <| zmv rfl (hd 10 rfl) ?_
  refine Fb Tryz.f111 (all_n l b hl hu hlb hb2) (fun o G ⟨_, h⟩ => h ▸ An A8 Ax) rfl Tryz.func111 rfl rfl (Ab rfl (Ab rfl Ad)) (.cons .n (.cons .i .nil)) (hd 11 rfl) ?_ (fun ch G hp => by simp at hp)
  rintro y G ⟨hy, rfl⟩; injection hy with hy; subst hy
  show JO _ _ _ _ ((11, .o 0 0 0 (hdg b 1 (vl l).toNat).length) :: _) _ _
  refine Hl (k := .i64) (l := (hdg b 1 (vl l).toNat)) (l' := (hdg b 1 (vl l).toNat)) 11 rfl rfl (by omega) (by rw [List.drop_zero, List.take_length]) hL ?_
  refine Ah Tryz.f110 (Ag1 (hdg b 1 (vl l).toNat) (by omega) (rng36 hb2 (Ae7 hlb _ _))) rfl Tryz.func110 rfl rfl (Ab rfl Ad) (.cons .n .nil) (hd 12 rfl) ?_ (fun ch hp => by simp at hp)
  rintro _ ⟨⟩; refine Ac (Air Rc und5 und9 rfl) (hd 13 rfl) <| zas rfl (hd 4 rfl) <| zas rfl (hd 5 rfl) <| Aa <| Ao ?_
  refine ⟨_, _, (.cons rfl (.cons rfl .nil)), (.t1 .s (.t1 .i .t0)), ?_⟩
  exact rfl
























theorem Gcd_v (l l2 : List Int) (x y : Nat) (hl : l.length ≤ 1048576) (hl2 : l2.length ≤ 1048576) (hu : Az l) (hu2 : Az l2) (hx : vl l = (x : Int)) (hy : vl l2 = (y : Int)) : Spec Tryz.prog 70 [.n false .u64 l, .n false .u64 l2] (fun o => o = .ret (.n false .u64 (lm ((Nat.gcd x y : Nat) : Int)))) := by
  refine Au [(0, .n false .u64 l), (1, .n false .u64 l2)] rfl Tryz.func70 rfl (zlb rfl) fun Γ hN hds hL hR => ?_
  have hd := Bt 23 hN
  have hlx : Aq (x : Int) ≤ 67108864 := by have h9 := Im (s := false) hu; rw [show sv false l = (x : Int) from hx] at h9; omega
  have hly : Aq (y : Int) ≤ 67108864 := by have h9 := Im (s := false) hu2; rw [show sv false l2 = (y : Int) from hy] at h9; omega
  have hNa : Spec Tryz.prog 66 [.n false .u64 l] (fun o => o = .ret (.n false .u64 (lm (x : Int)))) := by have h := E2 l (by omega); rw [Fv hu hx] at h; exact h.nn
  have hNb : Spec Tryz.prog 66 [.n false .u64 l2] (fun o => o = .ret (.n false .u64 (lm (y : Int)))) := by have h := E2 l2 (by omega); rw [Fv hu2 hy] at h; exact h.nn
  refine zsr <| zas rfl (hd 4 rfl) <| Aa <| zsr <| zmv rfl (hd 7 rfl) ?_
  refine Ah Tryz.f66 (hNa) rfl Tryz.func66 rfl rfl (Ab rfl Ad) (.cons .n .nil) (hd 8 rfl) ?_ (fun ch hp => by simp at hp)
  rintro _ ⟨⟩; refine zmv rfl (hd 9 rfl) ?_
  refine Ah Tryz.f66 (hNb) rfl Tryz.func66 rfl rfl (Ab rfl Ad) (.cons .n .nil) (hd 10 rfl) ?_ (fun ch hp => by simp at hp)
  rintro _ ⟨⟩; refine zas rfl (hd 0 rfl) <| zas rfl (hd 1 rfl) <| Aa <| Ae <| Ap ?_
  refine Bq (G := Nat × Nat) (fun g => Nat.gcd g.1 g.2 = Nat.gcd x y ∧ Aq (g.1 : Int) ≤ 67108864 ∧ Aq (g.2 : Int) ≤ 67108864) (fun g => [(0, .n false .u64 (lm (g.1 : Int))), (1, .n false .u64 (lm (g.2 : Int))), (5, .u), (6, .u), (11, .u), (12, .u), (13, .u), (14, .u), (15, .u), (16, .u), (17, .u), (18, .u), (19, .u), (20, .u), (21, .u)]) (fun _ => _) (fun g => g.2) (x, y) ?_ ?_ rfl ?_
  · exact ⟨rfl, hlx, hly⟩
  · exact (.cons rfl (.cons rfl (.v9 (.u (.u (.u .nil))))))
  · rintro ⟨u, v⟩ ⟨hc1, hc2, hc3⟩
    dsimp only at hc1 hc2 hc3
    have hmu := Bv hc2
    have hmv := Bv hc3
    refine Ae <| zsr <| zmv rfl (hd 11 rfl) <| Ac (As Bc rfl) (hd 12 rfl) <| Ac (Ca rfl rfl) (hd 13 rfl) <| Aa ?_
    refine Bg rfl (fun h1 => ?_) (fun h1 => ?_)
    · have hv0 : v ≠ 0 := fun e => by subst e; have h9 : (0 : Int) < ((lm ((0 : Nat) : Int)).length : Int) := h1; rw [show ((0 : Nat) : Int) = 0 from rfl, Aey] at h9; simp at h9
      have hDv : Spec Tryz.prog 107 [.n false .u64 (lm (u : Int)), .n false .u64 (lm (v : Int))] (fun o => o = .ret (.t [.n false .u64 (lm (qn (u : Int) (v : Int))), .n false .u64 (lm ((u % v : Nat) : Int))])) := by have h := Jc (u : Int) (v : Int) (by omega) (by omega) (by omega); rwa [rn_nt] at h
      refine Ai <| Ap <| zsr <| zmv rfl (hd 15 rfl) <| zmv rfl (hd 16 rfl) ?_
      refine Ah Tryz.f107 (hDv) rfl Tryz.func107 rfl rfl (Ab rfl (Ab rfl Ad)) (.cons .n (.cons .n .nil)) (hd 17 rfl) ?_ (fun ch hp => by simp at hp)
      rintro _ ⟨⟩; refine zmv rfl (hd 14 rfl) <| Ac (Am rfl rfl) (hd 18 rfl) <| Ac (Am rfl rfl) (hd 19 rfl) <| zas rfl (hd 5 rfl) <| zas rfl (hd 6 rfl) <| Aa <| Af <| zmv rfl (hd 20 rfl) <| zmv rfl (hd 21 rfl) <| zas rfl (hd 0 rfl) <| zas rfl (hd 1 rfl) <| Aa ?_
      refine ⟨(v, u % v), ?_, ?_, rfl, A5 30 rfl rfl ?_⟩
      · exact ⟨by rw [← hc1]; exact Sc, hc3, Nat.le_trans (Cc (by have := Nat.mod_le u v; dsimp only; omega)) hc2⟩
      · exact Nat.mod_lt _ (by omega)
      · exact (.cons rfl (.cons rfl (.v9 (.u (.u (.u .nil))))))
    · have hv0 : v = 0 := Decidable.byContradiction fun hc => h1 (by have h9 := List.length_pos_iff.2 (Qn (show (v : Int) ≠ 0 by omega)); show (0 : Int) < ((lm (v : Int)).length : Int); omega)
      subst hv0
      rw [Nat.gcd_zero_right] at hc1
      refine Bh <| zsr <| zmv rfl (hd 22 rfl) <| zas rfl (hd 4 rfl) <| Aa <| Ao ?_
      refine ⟨_, _, (.cons rfl .nil), .n, ?_⟩
      rw [← hc1]

theorem Ad5 (s : Bool) (l d : List Int) (y : Nat) (hx : Rw l 0) (hy : Rw d y) (h0 : y ≠ 0) : Spec Tryz.prog 29 [(.a [.b s, .n false .u64 l, .n false .u64 d])] (fun o => o = .ret (.t [.b (sgq s 0), .n false .u64 (lm ((rn0 0 y : Nat) : Int)), .n false .u64 (lm ((rd0 0 y : Nat) : Int))])) := by
  refine Au [(0, (.a [.b s, .n false .u64 l, .n false .u64 d]))] rfl Tryz.func29 rfl (zlb rfl) fun Γ hN hds hL hR => ?_
  have hd := Bt 42 hN
  have hNl : Spec Tryz.prog 66 [.n false .u64 l] (fun o => o = .ret (.n true .u64 (lm ((0 : Nat) : Int)))) := by have h := E2 l (by have := hx.l; omega); rw [hx.t] at h; exact h
  have hNd : Spec Tryz.prog 66 [.n false .u64 d] (fun o => o = .ret (.n true .u64 (lm (y : Int)))) := by have h := E2 d (by have := hy.l; omega); rw [hy.t] at h; exact h
  have hF1 : Spec Tryz.prog 35 [.i .u64 1] (fun o => o = .ret (.n true .u64 [1])) := by have h := Hu 1; rwa [if_neg (by decide)] at h
  have hly := mt Hk.1 h0
  refine zsr <| A4 (By (id := 0) (n := 3) rfl rfl rfl (by decide) rfl) (hd 1 rfl) <| zas rfl (hd 2 rfl) <| zas rfl (hd 3 rfl) <| zas rfl (hd 4 rfl) <| Aa <| Ae <| Bu (n := 9) _ rfl Cg <| Av 0 [1, 2, 3, 6, 7, 8] (Al (Bl Fj rfl rfl rfl) (hd 8 rfl)) rfl <| Av 1 [2, 3, 6, 7, 8] (Al (Bl Cw rfl rfl rfl) (hd 9 rfl)) rfl <| Av 2 [3, 6, 7, 8] (Al (Be D8 rfl rfl rfl) (hd 10 rfl)) rfl <| Av 4 [5, 6, 7, 8] (Al (Bl Ex rfl rfl rfl) (hd 12 rfl)) rfl ?_; refine Av 5 [6, 7, 8] (Al (Be D8 rfl rfl rfl) (hd 13 rfl)) rfl ?_
  refine B5 3 ?_ rfl (by kernel_rfl)
  refine Bp Tryz.f66 (hNl) rfl Tryz.func66 rfl rfl (Ab rfl Ad) (.cons .n .nil) (hd 11 rfl) ?_ (fun ch hp => by simp at hp)
  rintro y hy; injection hy with hy; subst hy
  refine B5 6 ?_ rfl (by kernel_rfl)
  refine Bp Tryz.f66 (hNd) rfl Tryz.func66 rfl rfl (Ab rfl Ad) (.cons .n .nil) (hd 14 rfl) ?_ (fun ch hp => by simp at hp)
  rintro _ ⟨⟩; refine zal 7 (Al (Cm rfl) (hd 5 rfl)) rfl <| zal 8 (Al (Cm rfl) (hd 6 rfl)) rfl <| Bx (by kernel_rfl) <| Ae <| zsr <| zmv rfl (hd 15 rfl) <| Ac (As Bc rfl) (hd 16 rfl) <| Ac (Bo (Ch rfl rfl) (by omega)) (hd 17 rfl) <| Aa <| A1 rfl <| Ai <| Ae ?_; refine zsr <| zmv rfl (hd 20 rfl) <| Ac (As Bc rfl) (hd 21 rfl) <| Ac (Cq (Ch rfl rfl) (by rw [show ((0 : Nat) : Int) = 0 from rfl, Aey]; rfl)) (hd 22 rfl) <| Aa <| B4 rfl <| Ae <| Af ?_
  refine Ah Tryz.f35 (hF1) rfl Tryz.func35 rfl rfl (Ab rfl Ad) (.cons .i .nil) (hd 23 rfl) ?_ (fun ch hp => by simp at hp)
  rintro _ ⟨⟩; refine zas rfl (hd 2 rfl) <| zas rfl (hd 3 rfl) <| zas rfl (hd 4 rfl) <| Aa <| Ao ?_
  refine ⟨_, _, (.cons rfl (.cons rfl (.cons rfl .nil))), (.t1 .b (.t1 (.nil (fr := false) (k := .u64)) (.t1 .nn .t0))), ?_⟩
  rw [Yc, Ahq h0, Vp, show ((0 : Nat) : Int) = 0 from rfl, Aey, Ade]

theorem Ad4 (s : Bool) (l d : List Int) (x y : Nat) (hx : Rw l x) (hy : Rw d y) (h0 : y ≠ 0) (h1 : x ≠ 0) : Spec Tryz.prog 29 [(.a [.b s, .n false .u64 l, .n false .u64 d])] (fun o => o = .ret (.t [.b (sgq s x), .n false .u64 (lm ((rn0 x y : Nat) : Int)), .n false .u64 (lm ((rd0 x y : Nat) : Int))])) := by
  refine Au [(0, (.a [.b s, .n false .u64 l, .n false .u64 d]))] rfl Tryz.func29 rfl (zlb rfl) fun Γ hN hds hL hR => ?_
  have hd := Bt 42 hN
  have hNl : Spec Tryz.prog 66 [.n false .u64 l] (fun o => o = .ret (.n true .u64 (lm (x : Int)))) := by have h := E2 l (by have := hx.l; omega); rw [hx.t] at h; exact h
  have hNd : Spec Tryz.prog 66 [.n false .u64 d] (fun o => o = .ret (.n true .u64 (lm (y : Int)))) := by have h := E2 d (by have := hy.l; omega); rw [hy.t] at h; exact h
  have hly := mt Hk.1 h0
  have hlx := mt Hk.1 h1
  have hGc : Spec Tryz.prog 70 [.n false .u64 (lm (x : Int)), .n false .u64 (lm (y : Int))] (fun o => o = .ret (.n false .u64 (lm ((Nat.gcd x y : Nat) : Int)))) := Gcd_v (lm (x : Int)) (lm (y : Int)) x y (Rw.of hx.b).l (Rw.of hy.b).l (Dc _) (Dc _) (Rw.of hx.b).v (Rw.of hy.b).v
  have hQx : Spec Tryz.prog 71 [.n false .u64 (lm (x : Int)), .n false .u64 (lm ((Nat.gcd x y : Nat) : Int))] (fun o => o = .ret (.t [.n false .u64 (lm ((rn0 x y : Nat) : Int)), .i .i64 0])) := by have h := Quo_v (x : Int) ((Nat.gcd x y : Nat) : Int) hx.b (gcd_b h0 hy.b) (by have := Ge (x := x) h0; omega); rw [Ahs] at h; exact h
  have hQy : Spec Tryz.prog 71 [.n false .u64 (lm (y : Int)), .n false .u64 (lm ((Nat.gcd x y : Nat) : Int))] (fun o => o = .ret (.t [.n false .u64 (lm ((rd0 x y : Nat) : Int)), .i .i64 0])) := by have h := Quo_v (y : Int) ((Nat.gcd x y : Nat) : Int) hy.b (gcd_b h0 hy.b) (by have := Ge (x := x) h0; omega); rw [Ahs] at h; exact h
  refine zsr <| A4 (By (id := 0) (n := 3) rfl rfl rfl (by decide) rfl) (hd 1 rfl) <| zas rfl (hd 2 rfl) <| zas rfl (hd 3 rfl) <| zas rfl (hd 4 rfl) <| Aa <| Ae <| Bu (n := 9) _ rfl Cg <| Av 0 [1, 2, 3, 6, 7, 8] (Al (Bl Fj rfl rfl rfl) (hd 8 rfl)) rfl <| Av 1 [2, 3, 6, 7, 8] (Al (Bl Cw rfl rfl rfl) (hd 9 rfl)) rfl <| Av 2 [3, 6, 7, 8] (Al (Be D8 rfl rfl rfl) (hd 10 rfl)) rfl <| Av 4 [5, 6, 7, 8] (Al (Bl Ex rfl rfl rfl) (hd 12 rfl)) rfl ?_; refine Av 5 [6, 7, 8] (Al (Be D8 rfl rfl rfl) (hd 13 rfl)) rfl ?_
  refine B5 3 ?_ rfl (by kernel_rfl)
  refine Bp Tryz.f66 (hNl) rfl Tryz.func66 rfl rfl (Ab rfl Ad) (.cons .n .nil) (hd 11 rfl) ?_ (fun ch hp => by simp at hp)
  rintro y hy; injection hy with hy; subst hy
  refine B5 6 ?_ rfl (by kernel_rfl)
  refine Bp Tryz.f66 (hNd) rfl Tryz.func66 rfl rfl (Ab rfl Ad) (.cons .n .nil) (hd 14 rfl) ?_ (fun ch hp => by simp at hp)
  rintro _ ⟨⟩; refine zal 7 (Al (Cm rfl) (hd 5 rfl)) rfl <| zal 8 (Al (Cm rfl) (hd 6 rfl)) rfl <| Bx (by kernel_rfl) <| Ae <| zsr <| zmv rfl (hd 15 rfl) <| Ac (As Bc rfl) (hd 16 rfl) <| Ac (Bo (Ch rfl rfl) (by omega)) (hd 17 rfl) <| Aa <| A1 rfl <| Ai <| Ae ?_; refine zsr <| zmv rfl (hd 20 rfl) <| Ac (As Bc rfl) (hd 21 rfl) <| Ac (Bo (Ch rfl rfl) (by omega)) (hd 22 rfl) <| Aa <| A1 rfl <| Ai <| zsr <| zmv rfl (hd 24 rfl) <| zmv rfl (hd 25 rfl) ?_
  refine Ah Tryz.f70 (hGc) rfl Tryz.func70 rfl rfl (Ab rfl (Ab rfl Ad)) (.cons .n (.cons .n .nil)) (hd 26 rfl) ?_ (fun ch hp => by simp at hp)
  rintro _ ⟨⟩; refine zas rfl (hd 7 rfl) <| Aa <| Ae <| Bu (n := 18) _ rfl Cg <| Av 0 [1, 2, 15, 16, 17] (Al (Bl Fj rfl rfl rfl) (hd 27 rfl)) rfl <| zal 1 (Al (Bl Dm rfl rfl rfl) (hd 28 rfl)) rfl <| zal 2 (Al (Be Ir rfl rfl rfl) (hd 29 rfl)) rfl <| Av 3 [5, 6, 7, 8, 11, 12, 13, 14, 15, 16, 17] (Al (Ar rfl) (hd 30 rfl)) rfl <| Av 4 [5, 6, 7, 8, 11, 12, 13, 14, 15, 16, 17] (Al (Ar rfl) (hd 31 rfl)) rfl <| Av 9 [11, 12, 13, 14, 15, 16, 17] (Al (Ar rfl) (hd 36 rfl)) rfl <| Av 10 [11, 12, 13, 14, 15, 16, 17] (Al (Ar rfl) (hd 37 rfl)) rfl ?_
  refine B5 5 ?_ rfl (by kernel_rfl)
  refine Bp Tryz.f71 (hQx) rfl Tryz.func71 rfl rfl (Ab rfl (Ab rfl Ad)) (.cons .n (.cons .n .nil)) (hd 32 rfl) ?_ (fun ch hp => by simp at hp)
  rintro _ ⟨⟩; refine Av 6 [8, 11, 12, 13, 14, 15, 16, 17] (Al (Am rfl rfl) (hd 33 rfl)) rfl <| Av 7 [8, 11, 12, 13, 14, 15, 16, 17] (Al (Am rfl rfl) (hd 34 rfl)) rfl ?_
  refine B5 8 ?_ rfl (by kernel_rfl)
  refine Bp Tryz.f32 (Ov _) rfl Tryz.func32 rfl rfl (Ab rfl (Ab rfl Ad)) (.cons .n (.cons .i .nil)) (hd 35 rfl) ?_ (fun ch hp => by simp at hp)
  rintro y hy; injection hy with hy; subst hy
  refine B5 11 ?_ rfl (by kernel_rfl)
  refine Bp Tryz.f71 (hQy) rfl Tryz.func71 rfl rfl (Ab rfl (Ab rfl Ad)) (.cons .n (.cons .n .nil)) (hd 38 rfl) ?_ (fun ch hp => by simp at hp)
  rintro _ ⟨⟩; refine Av 12 [14, 15, 16, 17] (Al (Am rfl rfl) (hd 39 rfl)) rfl <| Av 13 [14, 15, 16, 17] (Al (Am rfl rfl) (hd 40 rfl)) rfl ?_
  refine B5 14 ?_ rfl (by kernel_rfl)
  refine Bp Tryz.f32 (Ov _) rfl Tryz.func32 rfl rfl (Ab rfl (Ab rfl Ad)) (.cons .n (.cons .i .nil)) (hd 41 rfl) ?_ (fun ch hp => by simp at hp)
  rintro _ ⟨⟩; refine zal 15 (Al (Cm rfl) (hd 2 rfl)) rfl <| zal 16 (Al (Cm rfl) (hd 3 rfl)) rfl <| zal 17 (Al (Cm rfl) (hd 4 rfl)) rfl <| Bx (by kernel_rfl) <| Ao ?_
  refine ⟨_, _, (.cons rfl (.cons rfl (.cons rfl .nil))), (.t1 .b (.t1 .n (.t1 .n .t0))), ?_⟩
  rw [Ahd h1]

theorem U4 (s : Bool) (l d : List Int) (x y : Nat) (hx : Rw l x) (hy : Rw d y) (h0 : y ≠ 0) : Spec Tryz.prog 29 [(.a [.b s, .n false .u64 l, .n false .u64 d])] (fun o => o = .ret (.t [.b (sgq s x), .n false .u64 (lm ((rn0 x y : Nat) : Int)), .n false .u64 (lm ((rd0 x y : Nat) : Int))])) := by
  by_cases h1 : x = 0
  · subst h1; exact Ad5 s l d y hx hy h0
  · exact Ad4 s l d x y hx hy h0 h1

theorem Uz (s : Bool) (l d : List Int) (x y : Nat) (hx : Rw l x) (hy : Rw d y) (h0 : y ≠ 0) : Spec Tryz.prog 54 [(.a [.b s, .n false .u64 l, .n false .u64 d])] (fun o => o = .ret (.a [.b (sgq s x), .n false .u64 (lm ((rn0 x y : Nat) : Int)), .n false .u64 (lm ((rd0 x y : Nat) : Int))])) := by
  refine Au [(0, (.a [.b s, .n false .u64 l, .n false .u64 d]))] rfl Tryz.func54 rfl (zlb rfl) fun Γ hN hds hL hR => ?_
  have hd := Bt 17 hN
  refine zsr <| A4 (By (id := 0) (n := 3) rfl rfl rfl (by decide) rfl) (hd 1 rfl) <| A4 (At (id := 1) Ds (by decide) rfl (by decide) rfl) (hd 2 rfl) <| Aa <| zsr <| Ac (Bm B6 rfl rfl rfl rfl) (hd 7 rfl) ?_
  refine Ah Tryz.f29 (U4 s l d x y hx hy h0) rfl Tryz.func29 rfl rfl (Ab rfl Ad) (.cons (.a1 .b (.a1 .n (.a1 .n .a0))) .nil) (hd 8 rfl) ?_ (fun ch hp => by simp at hp)
  rintro _ ⟨⟩; refine zmv rfl (hd 6 rfl) <| Ac (Am rfl rfl) (hd 9 rfl) <| Ac (Am rfl rfl) (hd 10 rfl) <| Ac (Am rfl rfl) (hd 11 rfl) <| zas rfl (hd 3 rfl) <| zas rfl (hd 4 rfl) <| zas rfl (hd 5 rfl) <| Aa <| zsr <| zmv rfl (hd 12 rfl) <| zmv rfl (hd 13 rfl) <| Ac (Bn (is := [0, 1]) (xs := [.tmp 12, .tmp 13]) A7 C9 rfl (Ab rfl (Ab rfl Ad)) rfl (by first | (simp [B9, cellsV]; done) | (simp [B9, cellsV, old]; done)) (B7 rfl) rfl) (hd 14 rfl) ?_; refine zmv rfl (hd 15 rfl) <| Ac (Bn (is := [0, 1]) (xs := [.tmp 14, .tmp 15]) Ds Il rfl (Ab rfl (Ab rfl Ad)) rfl ⟨rfl, (by decide), rfl, (by decide), trivial⟩ (B7 rfl) rfl) (hd 16 rfl) <| A6 (Ak rfl rfl rfl Er rfl rfl (zlb rfl)) <| Aa <| Ao ?_
  refine ⟨_, _, (.cons (ResV.cell B6 rfl rfl rfl rfl) .nil), (.a1 .b (.a1 .n (.a1 .n .a0))), ?_⟩
  exact rfl

end Go.Proofs.YtnadmljoefecfaaGreatDoor.Vc
