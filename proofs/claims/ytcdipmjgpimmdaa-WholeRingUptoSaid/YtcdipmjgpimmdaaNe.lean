/- Numbers with a sign, in plain Lean. -/
import Derived.Test.YtcdipmjgpimmdaaNd
set_option linter.unusedVariables false
set_option linter.unusedSimpArgs false
namespace Go.Proofs.Ytcdipmjgpimmdaa.Vc
open Go Go.RowKit

def sv (s : Bool) (l : List Int) : Int := if s = true then -(vl l) else vl l
def good (l : List Int) : Prop := u64s l ∧ l.length ≤ 1048576
theorem bl_pos {f n : Nat} (hf : 0 < f) (h : 0 < n) : 0 < bl f n := by
  obtain ⟨g, rfl⟩ : ∃ g, f = g + 1 := ⟨f - 1, by omega⟩
  simp only [bl]
  rw [if_neg (by omega)]; omega
theorem len_bd {l : List Int} (hu : u64s l) (h : lenN l ≤ 67108864) : (trm l).length ≤ 1048576 := by
  unfold lenN at h
  split at h
  · omega
  · rename_i h0
    have ht := tpd_trm l (by intro e; rw [e] at h0; exact h0 rfl)
    have hb := u64s_getD (u64s_trm hu) ((trm l).length - 1)
    have := bl_pos (f := 64) (n := ((trm l).getD ((trm l).length - 1) 0).toNat) (by decide) (by omega)
    omega
theorem good_trm {l : List Int} (hu : u64s l) (h : lenN l ≤ 67108864) : good (trm l) := ⟨u64s_trm hu, len_bd hu h⟩
theorem trm_trm (l : List Int) : trm (trm l) = trm l := trm_id (tpd_trm l)
theorem lenN_trm (l : List Int) : lenN (trm l) = lenN l := by unfold lenN; rw [trm_trm]
theorem vl_pos {l : List Int} (hu : u64s l) (ht : tpd l) (h : l ≠ []) : 0 < vl l := by
  have h1 := vl_ge hu ht h
  have h2 := pB_pos (l.length - 1)
  omega
theorem trm_zero {l : List Int} (hu : u64s l) : (trm l).length = 0 ↔ vl l = 0 := by
  constructor
  · intro h
    rw [← vl_trm, List.eq_nil_of_length_eq_zero h]; rfl
  · intro h
    rcases Nat.eq_zero_or_pos (trm l).length with h0 | h0
    · exact h0
    · have := vl_pos (u64s_trm hu) (tpd_trm l) (by intro e; rw [e] at h0; simp at h0)
      rw [vl_trm] at this; omega
theorem lenN_zero {l : List Int} (hu : u64s l) : lenN l = 0 ↔ vl l = 0 := by
  rw [← trm_zero hu]
  unfold lenN
  constructor
  · intro h
    split at h
    · assumption
    · rename_i h0
      have ht := tpd_trm l (by intro e; rw [e] at h0; exact absurd rfl h0)
      have hb := u64s_getD (u64s_trm hu) ((trm l).length - 1)
      have := bl_pos (f := 64) (n := ((trm l).getD ((trm l).length - 1) 0).toNat) (by decide) (by omega)
      omega
  · intro h; rw [if_pos h]
/-- The sign of a normal number. -/
theorem sv_norm {s : Bool} {l : List Int} (hu : u64s l) : sv (s && decide (0 < ((trm l).length : Int))) (trm l) = sv s l := by
  unfold sv
  rw [vl_trm]
  by_cases h : (trm l).length = 0
  · have h0 := (trm_zero hu).1 h
    rw [h0]; simp
  · have : decide (0 < ((trm l).length : Int)) = true := decide_eq_true (by omega)
    rw [this, Bool.and_true]
theorem sv_mul {s t : Bool} {a b r : List Int} (h : vl r = vl a * vl b) : sv (!(s == t)) r = sv s a * sv t b := by
  unfold sv
  cases s <;> cases t <;> simp [h, Int.neg_mul, Int.mul_neg]
theorem sv_neg (s : Bool) (l : List Int) : sv (!s) l = -(sv s l) := by unfold sv; cases s <;> simp
def sgnI (x : Int) : Int := if x = 0 then 0 else if x < 0 then -1 else 1
def cmpI (x y : Int) : Int := if x < y then -1 else if y < x then 1 else 0
theorem sgn_sv {s : Bool} {l : List Int} (hu : u64s l) : sgnI (sv s l) = if lenN l = 0 then 0 else if s = true then -1 else 1 := by
  have h := lenN_zero hu
  have h0 := vl_nonneg hu
  unfold sgnI sv
  by_cases hz : vl l = 0
  · rw [if_pos (h.2 hz)]; cases s <;> simp [hz]
  · rw [if_neg (fun e => hz (h.1 e))]
    cases s
    · simp only [Bool.false_eq_true, if_false]; rw [if_neg hz, if_neg (by omega)]
    · simp only [if_true]; rw [if_neg (by omega), if_pos (by omega)]
theorem sgn_range (x : Int) : sgnI x = -1 ∨ sgnI x = 0 ∨ sgnI x = 1 := by unfold sgnI; split <;> (try split) <;> simp
theorem cmp_signs {s t : Bool} {a b : List Int} (ua : u64s a) (ub : u64s b) : (sgnI (sv s a) < sgnI (sv t b) → cmpI (sv s a) (sv t b) = -1) ∧ (sgnI (sv t b) < sgnI (sv s a) → cmpI (sv s a) (sv t b) = 1) ∧
    (sgnI (sv s a) = sgnI (sv t b) → sgnI (sv s a) * cmpL (trm a) (trm b) = cmpI (sv s a) (sv t b)) := by
  have ha := vl_nonneg ua
  have hb := vl_nonneg ub
  have hc := cmpL_val ua ub
  have key : ∀ x y : Int, (sgnI x < sgnI y → x < y) := fun x y h => by unfold sgnI at h; (repeat' split at h) <;> omega
  refine ⟨fun h => ?_, fun h => ?_, fun h => ?_⟩
  · have := key _ _ h; unfold cmpI; rw [if_pos this]
  · have := key _ _ h; unfold cmpI; rw [if_neg (by omega), if_pos this]
  · unfold cmpI
    have hs : ∀ (u : Bool) (l : List Int), sv u l = vl l ∨ sv u l = -(vl l) := fun u l => by unfold sv; cases u <;> simp
    have hs' : ∀ (u : Bool) (l : List Int), 0 ≤ vl l → (0 < sv u l → sv u l = vl l) ∧ (sv u l < 0 → sv u l = -(vl l)) := fun u l hl => by rcases hs u l with e | e <;> constructor <;> intro <;> omega
    have h1 := hs' s a ha
    have h2 := hs' t b hb
    have z1 := hs s a
    have z2 := hs t b
    rcases Int.lt_trichotomy (sv s a) 0 with hx | hx | hx
    · have e1 : sgnI (sv s a) = -1 := by unfold sgnI; rw [if_neg (by omega), if_pos hx]
      have hy : sv t b < 0 := by rw [e1] at h; unfold sgnI at h; (repeat' split at h) <;> omega
      rw [e1, h1.2 hx, h2.2 hy]
      rcases hc with ⟨c, v⟩ | ⟨c, v⟩ | ⟨c, v⟩
      · rw [c, if_neg (by omega), if_neg (by omega)]; rfl
      · rw [c, if_neg (by omega), if_pos (by omega)]; rfl
      · rw [c, if_pos (by omega)]; rfl
    · have e1 : sgnI (sv s a) = 0 := by unfold sgnI; rw [if_pos hx]
      have hy : sv t b = 0 := by rw [e1] at h; unfold sgnI at h; (repeat' split at h) <;> omega
      rw [e1, hx, hy, Int.zero_mul]; rfl
    · have e1 : sgnI (sv s a) = 1 := by unfold sgnI; rw [if_neg (by omega), if_neg (by omega)]
      have hy : 0 < sv t b := by rw [e1] at h; unfold sgnI at h; (repeat' split at h) <;> omega
      rw [e1, h1.1 hx, h2.1 hy, Int.one_mul]
      rcases hc with ⟨c, v⟩ | ⟨c, v⟩ | ⟨c, v⟩
      · rw [c, if_neg (by omega), if_neg (by omega)]
      · rw [c, if_pos (by omega)]
      · rw [c, if_neg (by omega), if_pos (by omega)]
theorem cmpL_range {a b : List Int} (ua : u64s a) (ub : u64s b) : -1 ≤ cmpL (trm a) (trm b) ∧ cmpL (trm a) (trm b) ≤ 1 := by
  rcases cmpL_val ua ub with ⟨c, _⟩ | ⟨c, _⟩ | ⟨c, _⟩ <;> rw [c] <;> decide
theorem cmpI_0 {x y : Int} : cmpI x y = 0 ↔ x = y := by unfold cmpI; (repeat' split) <;> constructor <;> intro h <;> omega
theorem sgnI_0 {x : Int} : sgnI x = 0 ↔ x = 0 := by unfold sgnI; (repeat' split) <;> constructor <;> intro h <;> omega
theorem cmp_sub {x y : Int} : cmpI x y = sgnI (x - y) ∧ cmpI y x = -(sgnI (x - y)) := by
  unfold cmpI sgnI
  constructor <;> (repeat' split) <;> omega
/-- Sums of numbers with a sign. -/
theorem sv_add_same {s t : Bool} {a b r : List Int} (hst : sv s a = sv t a ∨ True) (h : vl r = vl a + vl b) : sv s r = sv s a + sv s b := by
  unfold sv; cases s <;> simp [h] <;> omega
theorem sv_sub {s : Bool} {a b r : List Int} (h : vl r = vl a - vl b) : sv s r = sv s a + sv (!s) b := by
  unfold sv; cases s <;> simp [h] <;> omega
theorem add_val {S T : Bool} {A B r : List Int} {x y : Int} (h : (S == T) = true) (hv : vl r = vl A + vl B) (e1 : sv S A = x) (e2 : sv T B = y) : sv S r = x + y := by
  have : S = T := by simpa using h
  subst this
  rw [← e1, ← e2]; exact sv_add_same (t := S) (.inr trivial) hv
theorem sub_val {S T : Bool} {A B r : List Int} {x y : Int} (h : (S == T) = false) (hv : vl r = vl A - vl B) (e1 : sv S A = x) (e2 : sv T B = y) : sv S r = x + y := by
  have : T = !S := by cases S <;> cases T <;> simp_all
  subst this
  rw [← e1, ← e2]; exact sv_sub hv
theorem cmpI_rng {x y : Int} : -1 ≤ cmpI x y ∧ cmpI x y ≤ 1 := by unfold cmpI; (repeat' split) <;> decide
end Go.Proofs.Ytcdipmjgpimmdaa.Vc
