/- surdlaw07.RatioBack answers true for every rational of bulk at most 1048576, and leaves its input as it was: Parse undoes Print, Unchain undoes Chain Texts joined: Nd, Ne, Nf, Ng, Nh, Ni, Nj, Ty, Tz, Tx, Tq, Tr, Tt, Oa, Nk, Nl, Nm, Nn, No, Np, Nq, Nr, Ns, Nt, Nu, Nw, Nv, Nx, Ny, Nz, Ob, Wa, Wb, Wc. -/
import Derived.Test.YtpldmajdiljoaaaGreatK3
import Derived.Test.YtpldmajdiljoaaaGreatRows
set_option linter.unusedVariables false
set_option linter.unusedSimpArgs false
set_option maxHeartbeats 4000000
namespace Go.Proofs.YtpldmajdiljoaaaGreat.Vc
open Go Go.RowKit

theorem u64s_zeros (n : Nat) : u64s (List.replicate n 0) := fun x hx => by rw [List.eq_of_mem_replicate hx]; exact ⟨by decide, by decide⟩
theorem getD_zeros (n j : Nat) : (List.replicate n (0 : Int)).getD j 0 = 0 := by
  rw [List.getD_eq_getElem?_getD, List.getElem?_replicate]; split <;> rfl
theorem u64s_app {a b : List Int} (ha : u64s a) (hb : u64s b) : u64s (a ++ b) := fun x hx => by
  rcases List.mem_append.1 hx with hx | hx
  · exact ha x hx
  · exact hb x hx
theorem u64s_drop {a : List Int} (ha : u64s a) (k : Nat) : u64s (a.drop k) := fun x hx => ha x (List.mem_of_mem_drop hx)
theorem u64s_take {a : List Int} (ha : u64s a) (k : Nat) : u64s (a.take k) := fun x hx => ha x (List.mem_of_mem_take hx)
theorem add_in {q q2 b : List Int} {i at_ : Nat} {c c2 s V : Int} (hj : i < q.length) (hi : at_ ≤ i) (hq2 : q2 = q.set i s)
    (hv : vl q + c * pB i = V + pB at_ * vk b (i - at_)) (hs : s + 18446744073709551616 * c2 = q.getD i 0 + b.getD (i - at_) 0 + c) : vl q2 + c2 * pB (i + 1) = V + pB at_ * vk b (i + 1 - at_) := by
  subst hq2
  rw [vl_set _ _ _ hj, show i + 1 - at_ = (i - at_) + 1 by omega, vk_succ]
  simp only [pB]
  have hB : Bs = 18446744073709551616 := rfl
  have e1 : c2 * (Bs * pB i) = pB i * (18446744073709551616 * c2) := by rw [hB, ← Int.mul_assoc, Int.mul_comm (c2 * 18446744073709551616), Int.mul_comm c2]
  have e2 : pB at_ * (vk b (i - at_) + pB (i - at_) * b.getD (i - at_) 0) = pB at_ * vk b (i - at_) + pB i * b.getD (i - at_) 0 := by
    rw [Int.mul_add, ← Int.mul_assoc, ← pB_add, show at_ + (i - at_) = i by omega]
  have e3 : pB i * (s - q.getD i 0) + pB i * (18446744073709551616 * c2) = pB i * b.getD (i - at_) 0 + pB i * c := by
    rw [← Int.mul_add, ← Int.mul_add]; congr 1; omega
  have e4 : c * pB i = pB i * c := Int.mul_comm _ _
  rw [e1, e2]
  omega
theorem add_end {q r b : List Int} {i at_ n : Nat} {c : Int} (hq : u64s q) (hr : u64s r) (hb : u64s b) (hc0 : 0 ≤ c) (hi : at_ ≤ i) (hfit : vl r + pB at_ * vl b < pB n) (h : n ≤ i ∨ (b.length ≤ i - at_ ∧ c ≤ 0))
    (hv : vl q + c * pB i = vl r + pB at_ * vk b (i - at_)) : vl q = vl r + pB at_ * vl b := by
  have hr0 := vl_nonneg hr
  have hq0 := vl_nonneg hq
  rcases h with h | ⟨h1, h2⟩
  · have e := no_rest hb (at_ := at_) (k := i - at_) (n := n) (by omega) (by omega)
    rw [e] at hv
    have hp := pB_mono h
    rcases Int.lt_or_le 0 c with hc | hc
    · have := Int.mul_le_mul_of_nonneg_right (show 1 ≤ c by omega) (Int.le_of_lt (pB_pos i))
      omega
    · have : c = 0 := by omega
      rw [this, Int.zero_mul, Int.add_zero] at hv; exact hv
  · have : c = 0 := by omega
    rw [this, Int.zero_mul, Int.add_zero, vk_all h1] at hv; exact hv
theorem sub_at {a b : List Int} {i : Nat} (h : i < a.length) : ((sbN a b i).1 ++ a.drop i).getD i 0 = a.getD i 0 := by
  rw [List.getD_eq_getElem?_getD, List.getElem?_append_right (by rw [sbN_len]; exact Nat.le_refl _), sbN_len, Nat.sub_self, List.getElem?_drop, Nat.add_zero, ← List.getD_eq_getElem?_getD]
theorem sub_len {a b : List Int} {i : Nat} (h : i ≤ a.length) : ((sbN a b i).1 ++ a.drop i).length = a.length := by rw [List.length_append, sbN_len, List.length_drop]; omega
theorem sub_fill {a b : List Int} {i : Nat} (h : i < a.length) : ((sbN a b i).1 ++ a.drop i).set ((0 + i) * 1) (if a.getD i 0 < b.getD i 0 + (sbN a b i).2 then a.getD i 0 - b.getD i 0 - (sbN a b i).2 + 18446744073709551616 else a.getD i 0 - b.getD i 0 - (sbN a b i).2) = (sbN a b (i + 1)).1 ++ a.drop (i + 1) := by
  rw [Nat.zero_add, Nat.mul_one, List.set_append_right _ _ (by rw [sbN_len]; exact Nat.le_refl _), sbN_len, Nat.sub_self, drop_cons' h, List.set_cons_zero]
  simp only [sbN]
  rw [List.append_assoc]; rfl
theorem vl_sub {a b : List Int} (ha : u64s a) (hb : u64s b) (h : vl b ≤ vl a) : vl (sbN a b a.length).1 = vl a - vl b := by
  have hv := sbN_val a b a.length
  have hlt := vl_lt ha
  have e := no_rest hb (at_ := 0) (k := a.length) (n := a.length) (by omega) (by simp only [pB, Int.one_mul]; omega)
  rw [vk_all (Nat.le_refl _), e] at hv
  have hc := sbN_c a b a.length
  have hs := vl_lt (sbN_u ha hb a.length)
  rw [sbN_len] at hs
  rcases (show (sbN a b a.length).2 = 0 ∨ (sbN a b a.length).2 = 1 by omega) with h0 | h0
  · rw [h0, Int.mul_zero] at hv; omega
  · rw [h0, Int.mul_one] at hv; omega
theorem part_step {l : List Int} {F k : Nat} (hF : F < k) (hk : k ≤ l.length) (h : l.getD (k - 1) 0 = 0) : vl ((l.take (k - 1)).drop F) = vl ((l.take k).drop F) := by
  obtain ⟨j, rfl⟩ : ∃ j, k = j + 1 := ⟨k - 1, by omega⟩
  rw [Nat.add_sub_cancel] at h ⊢
  have e : l.take (j + 1) = l.take j ++ [l.getD j 0] := by
    rw [List.take_succ_eq_append_getElem (by omega), List.getD_eq_getElem?_getD, List.getElem?_eq_getElem (by omega)]; rfl
  rw [e, h, List.drop_append, vl_app]
  have : F - (l.take j).length = 0 := by rw [List.length_take]; omega
  rw [this]
  simp [vl]
theorem min_take {l : List Int} {t : Nat} : l.take (min t l.length) = l.take t := by
  rcases Nat.le_total t l.length with h | h
  · rw [Nat.min_eq_left h]
  · rw [Nat.min_eq_right h, List.take_length, List.take_of_length_le h]
theorem part_all {l : List Int} {f t : Nat} (h : f ≤ t) : (l.take (min t l.length)).drop (min f l.length) = (l.take t).drop f := by
  rw [min_take]
  rcases Nat.le_total f l.length with h1 | h1
  · rw [Nat.min_eq_left h1]
  · rw [Nat.min_eq_right h1, List.drop_eq_nil_of_le (by rw [List.length_take]; omega), List.drop_eq_nil_of_le (by rw [List.length_take]; omega)]
theorem split_val {l : List Int} (k : Nat) : vl ((l.take k).drop 0) + pB k * vl ((l.take l.length).drop k) = vl l := by
  rw [List.drop_zero, List.take_length]
  by_cases h : k ≤ l.length
  · have := vl_app (l.take k) (l.drop k)
    rw [List.take_append_drop, List.length_take, Nat.min_eq_left h] at this
    exact this.symm
  · rw [List.take_of_length_le (by omega), List.drop_eq_nil_of_le (by omega)]; simp [vl]
theorem kara {al ah bl bh K A B lo hi mid : Int} (hA : al + K * ah = A) (hB : bl + K * bh = B) (hlo : lo = al * bl) (hhi : hi = ah * bh) (hmid : mid = (al + ah) * (bl + bh) - lo - hi) : lo + K * mid + (K * K) * hi = A * B := by
  subst hA; subst hB; subst hlo; subst hhi; subst hmid
  have e1 : (al + ah) * (bl + bh) = al * bl + al * bh + (ah * bl + ah * bh) := by rw [Int.add_mul, Int.mul_add, Int.mul_add]
  have e2 : (al + K * ah) * (bl + K * bh) = al * bl + K * (al * bh) + (K * (ah * bl) + K * K * (ah * bh)) := by
    rw [Int.add_mul, Int.mul_add, Int.mul_add]
    congr 1
    · congr 1; rw [Int.mul_left_comm]
    · congr 1
      · rw [Int.mul_assoc]
      · rw [Int.mul_assoc, Int.mul_left_comm ah, ← Int.mul_assoc]
  rw [e1, e2]
  have e3 : K * (al * bl + al * bh + (ah * bl + ah * bh) - al * bl - ah * bh) = K * (al * bh) + K * (ah * bl) := by
    rw [← Int.mul_add K]; congr 1; omega
  rw [e3]
  omega
theorem kara_le {al ah bl bh : Int} (h1 : 0 ≤ al) (h2 : 0 ≤ ah) (h3 : 0 ≤ bl) (h4 : 0 ≤ bh) : al * bl ≤ (al + ah) * (bl + bh) ∧ ah * bh ≤ (al + ah) * (bl + bh) - al * bl := by
  have e1 : (al + ah) * (bl + bh) = al * bl + al * bh + (ah * bl + ah * bh) := by rw [Int.add_mul, Int.mul_add, Int.mul_add]
  have a1 := Int.mul_nonneg h1 h4
  have a2 := Int.mul_nonneg h2 h3
  have a3 := Int.mul_nonneg h2 h4
  omega
theorem vl_mul_lt {a b : List Int} (ha : u64s a) (hb : u64s b) : vl a * vl b < pB (a.length + b.length) := by
  have h1 := vl_lt ha
  have h2 := vl_lt hb
  have h3 := vl_nonneg ha
  have h4 := vl_nonneg hb
  rw [pB_add]
  rcases Int.lt_or_le 0 (vl b) with h | h
  · have := Int.mul_lt_mul_of_pos_right h1 h
    have := Int.mul_le_mul_of_nonneg_left (Int.le_of_lt h2) (Int.le_of_lt (pB_pos a.length))
    omega
  · have : vl b = 0 := by omega
    rw [this, Int.mul_zero]; exact Int.mul_pos (pB_pos _) (pB_pos _)
theorem half_k {n : Nat} (h : n < 4611686018427387904) : IntKind.i64.wrap (Int.tdiv (n : Int) 2) = ((n / 2 : Nat) : Int) := by
  rw [Int.tdiv_eq_ediv_of_nonneg (by omega), wrap_i64 (by omega) (by omega)]; omega


def sv (s : Bool) (l : List Int) : Int := if s = true then -(vl l) else vl l
def good (l : List Int) : Prop := u64s l ∧ l.length ≤ 1048576
theorem bl_pos {f n : Nat} (hf : 0 < f) (h : 0 < n) : 0 < bl f n := by
  obtain ⟨g, rfl⟩ : ∃ g, f = g + 1 := ⟨f - 1, by omega⟩
  simp only [bl]
  rw [if_neg (by omega)]; omega
theorem len_bd {l : List Int} (hu : u64s l) (h : lenN l ≤ 67108864) : (trm l).length ≤ 1048576 := by
  unfold lenN at h
  split at h
  · omega
  · rename_i h0
    have ht := tpd_trm l (by intro e; rw [e] at h0; exact h0 rfl)
    have hb := u64s_getD (u64s_trm hu) ((trm l).length - 1)
    have := bl_pos (f := 64) (n := ((trm l).getD ((trm l).length - 1) 0).toNat) (by decide) (by omega)
    omega
theorem good_trm {l : List Int} (hu : u64s l) (h : lenN l ≤ 67108864) : good (trm l) := ⟨u64s_trm hu, len_bd hu h⟩
theorem trm_trm (l : List Int) : trm (trm l) = trm l := trm_id (tpd_trm l)
theorem lenN_trm (l : List Int) : lenN (trm l) = lenN l := by unfold lenN; rw [trm_trm]
theorem vl_pos {l : List Int} (hu : u64s l) (ht : tpd l) (h : l ≠ []) : 0 < vl l := by
  have h1 := vl_ge hu ht h
  have h2 := pB_pos (l.length - 1)
  omega
theorem trm_zero {l : List Int} (hu : u64s l) : (trm l).length = 0 ↔ vl l = 0 := by
  constructor
  · intro h
    rw [← vl_trm, List.eq_nil_of_length_eq_zero h]; rfl
  · intro h
    rcases Nat.eq_zero_or_pos (trm l).length with h0 | h0
    · exact h0
    · have := vl_pos (u64s_trm hu) (tpd_trm l) (by intro e; rw [e] at h0; simp at h0)
      rw [vl_trm] at this; omega
theorem lenN_zero {l : List Int} (hu : u64s l) : lenN l = 0 ↔ vl l = 0 := by
  rw [← trm_zero hu]
  unfold lenN
  constructor
  · intro h
    split at h
    · assumption
    · rename_i h0
      have ht := tpd_trm l (by intro e; rw [e] at h0; exact absurd rfl h0)
      have hb := u64s_getD (u64s_trm hu) ((trm l).length - 1)
      have := bl_pos (f := 64) (n := ((trm l).getD ((trm l).length - 1) 0).toNat) (by decide) (by omega)
      omega
  · intro h; rw [if_pos h]
theorem sv_norm {s : Bool} {l : List Int} (hu : u64s l) : sv (s && decide (0 < ((trm l).length : Int))) (trm l) = sv s l := by
  unfold sv
  rw [vl_trm]
  by_cases h : (trm l).length = 0
  · have h0 := (trm_zero hu).1 h
    rw [h0]; simp
  · have : decide (0 < ((trm l).length : Int)) = true := decide_eq_true (by omega)
    rw [this, Bool.and_true]
theorem sv_mul {s t : Bool} {a b r : List Int} (h : vl r = vl a * vl b) : sv (!(s == t)) r = sv s a * sv t b := by
  unfold sv
  cases s <;> cases t <;> simp [h, Int.neg_mul, Int.mul_neg]
def sgnI (x : Int) : Int := if x = 0 then 0 else if x < 0 then -1 else 1
def cmpI (x y : Int) : Int := if x < y then -1 else if y < x then 1 else 0
theorem sgn_sv {s : Bool} {l : List Int} (hu : u64s l) : sgnI (sv s l) = if lenN l = 0 then 0 else if s = true then -1 else 1 := by
  have h := lenN_zero hu
  have h0 := vl_nonneg hu
  unfold sgnI sv
  by_cases hz : vl l = 0
  · rw [if_pos (h.2 hz)]; cases s <;> simp [hz]
  · rw [if_neg (fun e => hz (h.1 e))]
    cases s
    · simp only [Bool.false_eq_true, if_false]; rw [if_neg hz, if_neg (by omega)]
    · simp only [if_true]; rw [if_neg (by omega), if_pos (by omega)]
theorem sgn_range (x : Int) : sgnI x = -1 ∨ sgnI x = 0 ∨ sgnI x = 1 := by unfold sgnI; split <;> (try split) <;> simp
theorem cmpI_0 {x y : Int} : cmpI x y = 0 ↔ x = y := by unfold cmpI; (repeat' split) <;> constructor <;> intro h <;> omega
theorem sgnI_0 {x : Int} : sgnI x = 0 ↔ x = 0 := by unfold sgnI; (repeat' split) <;> constructor <;> intro h <;> omega
theorem sv_add_same {s t : Bool} {a b r : List Int} (hst : sv s a = sv t a ∨ True) (h : vl r = vl a + vl b) : sv s r = sv s a + sv s b := by
  unfold sv; cases s <;> simp [h] <;> omega
theorem sv_sub {s : Bool} {a b r : List Int} (h : vl r = vl a - vl b) : sv s r = sv s a + sv (!s) b := by
  unfold sv; cases s <;> simp [h] <;> omega
theorem add_val {S T : Bool} {A B r : List Int} {x y : Int} (h : (S == T) = true) (hv : vl r = vl A + vl B) (e1 : sv S A = x) (e2 : sv T B = y) : sv S r = x + y := by
  have : S = T := by simpa using h
  subst this
  rw [← e1, ← e2]; exact sv_add_same (t := S) (.inr trivial) hv
theorem sub_val {S T : Bool} {A B r : List Int} {x y : Int} (h : (S == T) = false) (hv : vl r = vl A - vl B) (e1 : sv S A = x) (e2 : sv T B = y) : sv S r = x + y := by
  have : T = !S := by cases S <;> cases T <;> simp_all
  subst this
  rw [← e1, ← e2]; exact sv_sub hv
theorem cmpI_rng {x y : Int} : -1 ≤ cmpI x y ∧ cmpI x y ≤ 1 := by unfold cmpI; (repeat' split) <;> decide


def digs (b n : Nat) : List Int := if h : n = 0 ∨ b < 2 then [] else ((n % b : Nat) : Int) :: digs b (n / b)
termination_by n
decreasing_by exact Nat.div_lt_self (by omega) (by omega)
theorem digs_0 {b : Nat} : digs b 0 = [] := by rw [digs, dif_pos (.inl rfl)]
theorem digs_pos {b n : Nat} (hb : 2 ≤ b) (hn : n ≠ 0) : digs b n = ((n % b : Nat) : Int) :: digs b (n / b) := by rw [digs, dif_neg (by omega)]
def vb (b : Nat) : List Int → Int
  | [] => 0
  | x :: l => x + (b : Int) * vb b l
def rng (b : Nat) (l : List Int) : Prop := ∀ x ∈ l, 0 ≤ x ∧ x < (b : Int)
theorem rng_tail {b : Nat} {x : Int} {l : List Int} (h : rng b (x :: l)) : rng b l := fun y hy => h y (List.mem_cons_of_mem _ hy)
theorem vb_vl : ∀ l, vb 18446744073709551616 l = vl l
  | [] => rfl
  | x :: l => by simp only [vb, vl, vb_vl l]; rfl
theorem vb_nonneg {b : Nat} : ∀ {l : List Int}, rng b l → 0 ≤ vb b l
  | [], _ => Int.le_refl _
  | x :: l, h => by
    have h1 := (h x (List.mem_cons_self ..)).1
    have h2 := Int.mul_nonneg (Int.natCast_nonneg b) (vb_nonneg (rng_tail h))
    simp only [vb]; omega
theorem tpd_tail {x : Int} {l : List Int} (h : tpd (x :: l)) : tpd l := fun hne => by
  have := h (by simp)
  have hp : 0 < l.length := List.length_pos_iff.2 hne
  rw [List.length_cons, Nat.add_sub_cancel] at this
  obtain ⟨k, hk⟩ : ∃ k, l.length = k + 1 := ⟨l.length - 1, by omega⟩
  rw [hk] at this ⊢
  simpa using this
theorem tpd_one {x : Int} (h : tpd [x]) : x ≠ 0 := by simpa using h (by simp)
theorem digs_of {b : Nat} (hb : 2 ≤ b) : ∀ {l : List Int}, rng b l → tpd l → digs b (vb b l).toNat = l
  | [], _, _ => digs_0
  | x :: t, h, ht => by
    have ih := digs_of hb (rng_tail h) (tpd_tail ht)
    have h1 := h x (List.mem_cons_self ..)
    have h2 := vb_nonneg (rng_tail h)
    obtain ⟨m, hm⟩ : ∃ m : Nat, vb b t = m := ⟨(vb b t).toNat, by omega⟩
    obtain ⟨y, hy⟩ : ∃ y : Nat, x = y := ⟨x.toNat, by omega⟩
    subst hy
    have e : (vb b ((y : Int) :: t)).toNat = y + b * m := by
      simp only [vb]; rw [hm, ← Int.natCast_mul]; omega
    have hyb : y < b := by omega
    rw [e]
    rw [hm] at ih
    rw [show ((m : Int)).toNat = m from rfl] at ih
    have hne : y + b * m ≠ 0 := by
      intro h0
      have hy0 : y = 0 := by omega
      have hm0 : b * m = 0 := by omega
      have hm1 : m = 0 := by
        rcases Nat.mul_eq_zero.1 hm0 with h | h
        · omega
        · exact h
      subst hm1
      rw [digs_0] at ih
      subst ih
      exact tpd_one ht (by rw [hy0]; rfl)
    rw [digs_pos hb hne, Nat.add_mul_mod_self_left, Nat.mod_eq_of_lt hyb, Nat.add_mul_div_left _ _ (by omega), Nat.div_eq_of_lt hyb, Nat.zero_add, ih]
theorem vb_digs {b : Nat} (hb : 2 ≤ b) (n : Nat) : vb b (digs b n) = n := by
  induction n using Nat.strongRecOn with
  | _ n ih =>
    by_cases h : n = 0
    · subst h; rw [digs_0]; rfl
    · rw [digs_pos hb h]
      simp only [vb]
      rw [ih (n / b) (Nat.div_lt_self (by omega) (by omega)), ← Int.natCast_mul, ← Int.natCast_add, Nat.mod_add_div]
theorem rng_digs {b : Nat} (hb : 2 ≤ b) (n : Nat) : rng b (digs b n) := by
  induction n using Nat.strongRecOn with
  | _ n ih =>
    by_cases h : n = 0
    · subst h; rw [digs_0]; intro x hx; simp at hx
    · rw [digs_pos hb h]
      intro x hx
      rcases List.mem_cons.1 hx with rfl | hx
      · have := Nat.mod_lt n (show 0 < b by omega); omega
      · exact ih (n / b) (Nat.div_lt_self (by omega) (by omega)) x hx
theorem tpd_digs {b : Nat} (hb : 2 ≤ b) (n : Nat) : tpd (digs b n) := by
  induction n using Nat.strongRecOn with
  | _ n ih =>
    by_cases h : n = 0
    · subst h; rw [digs_0]; intro hx; simp at hx
    · rw [digs_pos hb h]
      intro _
      rw [List.length_cons, Nat.add_sub_cancel]
      by_cases h1 : n / b = 0
      · rw [h1, digs_0]
        have : n < b := by
          rcases Nat.lt_or_ge n b with h2 | h2
          · exact h2
          · have := Nat.div_pos h2 (by omega); omega
        simp [Nat.mod_eq_of_lt this, h]
      · have h2 := ih (n / b) (Nat.div_lt_self (by omega) (by omega))
        have hne : digs b (n / b) ≠ [] := by rw [digs_pos hb h1]; simp
        have h3 := h2 hne
        have hp : 0 < (digs b (n / b)).length := List.length_pos_iff.2 hne
        obtain ⟨k, hk⟩ : ∃ k, (digs b (n / b)).length = k + 1 := ⟨(digs b (n / b)).length - 1, by omega⟩
        rw [hk] at h3 ⊢
        simpa using h3
theorem cano {b : Nat} (hb : 2 ≤ b) {l : List Int} {n : Nat} (hr : rng b l) (ht : tpd l) (hv : vb b l = n) : l = digs b n := by
  have := digs_of hb hr ht
  rw [hv] at this
  exact this.symm
def nbits (n : Nat) : Nat := if n = 0 then 0 else n.log2 + 1
theorem nbits_le {n k : Nat} : nbits n ≤ k ↔ n < 2 ^ k := by
  unfold nbits
  split
  · rename_i h; subst h; exact ⟨fun _ => Nat.two_pow_pos k, fun _ => Nat.zero_le _⟩
  · rename_i h
    rw [← Nat.log2_lt h]
    omega
theorem nbits_0 : nbits 0 = 0 := rfl
theorem nbits_pos {n : Nat} (h : n ≠ 0) : 0 < nbits n := by unfold nbits; rw [if_neg h]; omega
theorem nbits_mono {m n : Nat} (h : m ≤ n) : nbits m ≤ nbits n := nbits_le.2 (Nat.lt_of_le_of_lt h (nbits_le.1 (Nat.le_refl _)))
theorem nbits_add {w x m : Nat} (hx : x < 2 ^ w) (hm : m ≠ 0) : nbits (x + 2 ^ w * m) = w + nbits m := by
  refine Nat.le_antisymm (nbits_le.2 ?_) ?_
  · have h1 : m < 2 ^ nbits m := nbits_le.1 (Nat.le_refl _)
    rw [Nat.pow_add]
    have h2 : 2 ^ w * (m + 1) ≤ 2 ^ w * 2 ^ nbits m := Nat.mul_le_mul_left _ h1
    rw [Nat.mul_add, Nat.mul_one] at h2
    omega
  · rcases Nat.lt_or_ge (nbits (x + 2 ^ w * m)) (w + nbits m) with h | h
    · exfalso
      have hp := nbits_pos hm
      have h1 : x + 2 ^ w * m < 2 ^ (w + (nbits m - 1)) := nbits_le.1 (by omega)
      rw [Nat.pow_add] at h1
      have h2 : 2 ^ w * m < 2 ^ w * 2 ^ (nbits m - 1) := by omega
      have h3 := nbits_le.2 (Nat.lt_of_mul_lt_mul_left h2)
      omega
    · exact h
theorem bl_nbits : ∀ f n, n < 2 ^ f → bl f n = nbits n
  | 0, n, h => by
    have : n = 0 := by simpa using h
    subst this; rfl
  | f + 1, n, h => by
    simp only [bl]
    split
    · rename_i h0; rw [h0]; rfl
    · rename_i h0
      rw [bl_nbits f (n / 2) (by rw [Nat.pow_succ] at h; omega)]
      by_cases h1 : n / 2 = 0
      · have : n = 1 := by omega
        subst this; rfl
      · have := nbits_add (w := 1) (x := n % 2) (m := n / 2) (by have := Nat.mod_lt n (show 0 < 2 by decide); simpa using this) h1
        rw [Nat.pow_one, Nat.mod_add_div] at this
        rw [this]
theorem nbits_mul {x y : Nat} (hx : x ≠ 0) (hy : y ≠ 0) : nbits x + nbits y ≤ nbits (x * y) + 1 := by
  have h1 := nbits_pos hx
  have h2 := nbits_pos hy
  have h3 : 2 ^ (nbits x - 1) ≤ x := by
    rcases Nat.lt_or_ge x (2 ^ (nbits x - 1)) with h | h
    · have := nbits_le.2 h; omega
    · exact h
  have h4 : 2 ^ (nbits y - 1) ≤ y := by
    rcases Nat.lt_or_ge y (2 ^ (nbits y - 1)) with h | h
    · have := nbits_le.2 h; omega
    · exact h
  rcases Nat.lt_or_ge (nbits (x * y) + 1) (nbits x + nbits y) with h | h
  · exfalso
    have h5 : x * y < 2 ^ ((nbits x - 1) + (nbits y - 1)) := nbits_le.1 (by omega)
    rw [Nat.pow_add] at h5
    have := Nat.mul_le_mul h3 h4
    omega
  · exact h
theorem len_digs {w : Nat} (hw : 1 ≤ w) : ∀ {l : List Int}, rng (2 ^ w) l → tpd l → l ≠ [] → w * (l.length - 1) + nbits (l.getD (l.length - 1) 0).toNat = nbits (vb (2 ^ w) l).toNat
  | [], _, _, h => absurd rfl h
  | [x], _, _, _ => by simp [vb]
  | x :: y :: t, h, ht, _ => by
    have ih := len_digs hw (rng_tail h) (tpd_tail ht) (by simp)
    have h1 := h x (List.mem_cons_self ..)
    have h2 := vb_nonneg (rng_tail h)
    have hb2 : 2 ≤ 2 ^ w := by
      have := Nat.pow_le_pow_right (show 0 < 2 by decide) hw
      simpa using this
    have hc := digs_of hb2 (rng_tail h) (tpd_tail ht)
    obtain ⟨m, hm⟩ : ∃ m : Nat, vb (2 ^ w) (y :: t) = m := ⟨(vb (2 ^ w) (y :: t)).toNat, by omega⟩
    obtain ⟨q, hq⟩ : ∃ q : Nat, x = q := ⟨x.toNat, by omega⟩
    rw [hm] at ih hc
    rw [show ((m : Int)).toNat = m from rfl] at ih hc
    have hm0 : m ≠ 0 := by intro e; rw [e, digs_0] at hc; simp at hc
    have e : (vb (2 ^ w) (x :: y :: t)).toNat = q + 2 ^ w * m := by
      show (x + ((2 ^ w : Nat) : Int) * vb (2 ^ w) (y :: t)).toNat = _
      rw [hm, hq, ← Int.natCast_mul]; omega
    rw [e, nbits_add (by omega) hm0, ← ih]
    simp only [List.length_cons, Nat.add_sub_cancel, List.getD_cons_succ]
    rw [Nat.mul_add, Nat.mul_one]
    omega
theorem u64_rng {l : List Int} (h : u64s l) : rng 18446744073709551616 l := h
theorem trm_app (l : List Int) : ∃ k, l = trm l ++ List.replicate k 0 := by
  have : ∀ k, k ≤ l.length → l.take k = l.take (tN l k) ++ List.replicate (k - tN l k) 0 := by
    intro k
    induction k with
    | zero => intro _; simp [tN]
    | succ k ih =>
      intro hk
      have h1 := ih (by omega)
      have hle := tN_le l k
      simp only [tN]
      split
      · rename_i h0
        rw [List.take_succ_eq_append_getElem (by omega), h1, List.append_assoc, show k + 1 - tN l k = (k - tN l k) + 1 by omega, List.replicate_succ']
        congr 2
        rw [List.getD_eq_getElem?_getD, List.getElem?_eq_getElem (by omega)] at h0
        rw [← h0]; rfl
      · simp
  have h := this l.length (Nat.le_refl _)
  rw [List.take_length] at h
  exact ⟨_, h⟩
theorem vb_app (b : Nat) : ∀ (l : List Int) (k : Nat), vb b (l ++ List.replicate k 0) = vb b l
  | [], 0 => rfl
  | [], k + 1 => by
    rw [List.nil_append, List.replicate_succ]
    simp only [vb]
    have := vb_app b [] k
    rw [List.nil_append] at this
    rw [this]; simp [vb]
  | x :: l, k => by simp only [List.cons_append, vb, vb_app b l k]
theorem vb_trm (b : Nat) (l : List Int) : vb b (trm l) = vb b l := by
  obtain ⟨k, hk⟩ := trm_app l
  have := vb_app b (trm l) k
  rw [← hk] at this
  exact this.symm
theorem rng_trm {b : Nat} {l : List Int} (h : rng b l) : rng b (trm l) := fun x hx => h x (List.mem_of_mem_take hx)
theorem trm_digs {b : Nat} (hb : 2 ≤ b) {l : List Int} {n : Nat} (h : rng b l) (hv : vb b l = n) : trm l = digs b n := cano hb (rng_trm h) (tpd_trm l) (by rw [vb_trm, hv])
def lm (v : Int) : List Int := digs 18446744073709551616 v.natAbs
def dg (v : Int) : List Int := digs 4294967296 v.natAbs
def lenV (v : Int) : Nat := nbits v.natAbs
theorem lm_u (v : Int) : u64s (lm v) := rng_digs (by decide) _
theorem lm_t (v : Int) : tpd (lm v) := tpd_digs (by decide) _
theorem lm_v (v : Int) : vl (lm v) = v.natAbs := by rw [← vb_vl]; exact vb_digs (by decide) _
theorem dg_r (v : Int) : rng 4294967296 (dg v) := rng_digs (by decide) _
theorem dg_t (v : Int) : tpd (dg v) := tpd_digs (by decide) _
theorem dg_v (v : Int) : vb 4294967296 (dg v) = v.natAbs := vb_digs (by decide) _
theorem lenN_nbits {l : List Int} (h : u64s l) : lenN l = nbits (vl l).toNat := by
  rw [← vl_trm]
  unfold lenN
  split
  · rename_i h0; rw [List.eq_nil_of_length_eq_zero h0]; rfl
  · rename_i h0
    have h1 := len_digs (w := 64) (by decide) (rng_trm (u64_rng h)) (tpd_trm l) (fun e => h0 (by rw [e]; rfl))
    rw [show (2 ^ 64 : Nat) = 18446744073709551616 by decide, vb_vl] at h1
    rw [← h1, bl_nbits 64]
    have := u64s_getD (u64s_trm h) ((trm l).length - 1)
    omega
theorem dig_rng : ∀ {l : List Int}, u64s l → rng 4294967296 (dig l)
  | [], _ => fun x hx => by simp [dig] at hx
  | y :: l, h => fun x hx => by
    have h1 := h y (List.mem_cons_self ..)
    have h2 := dig_rng (l := l) fun z hz => h z (List.mem_cons_of_mem _ hz)
    have e : dig (y :: l) = y % 4294967296 :: y / 4294967296 :: dig l := rfl
    rw [e] at hx
    rcases List.mem_cons.1 hx with rfl | hx
    · show 0 ≤ y % 4294967296 ∧ y % 4294967296 < ((4294967296 : Nat) : Int); omega
    · rcases List.mem_cons.1 hx with rfl | hx
      · show 0 ≤ y / 4294967296 ∧ y / 4294967296 < ((4294967296 : Nat) : Int); omega
      · exact h2 x hx
theorem vb_dig : ∀ l : List Int, vb 4294967296 (dig l) = vl l
  | [] => rfl
  | y :: l => by
    have e : dig (y :: l) = y % 4294967296 :: y / 4294967296 :: dig l := rfl
    rw [e]
    simp only [vb, vl]
    rw [vb_dig l]
    have : Bs = 18446744073709551616 := rfl
    rw [this]
    omega
theorem sv_abs {s : Bool} {l : List Int} (h : u64s l) : ((sv s l).natAbs : Int) = vl l := by
  have := vl_nonneg h
  unfold sv; split <;> omega
theorem raw_res {s : Bool} {l : List Int} {v : Int} (h : u64s l) (hv : sv s l = v) : (s && decide (0 < ((trm l).length : Int))) = decide (v < 0) ∧ trm l = lm v ∧ lenN l = lenV v := by
  have ha := sv_abs (s := s) h
  rw [hv] at ha
  refine ⟨?_, ?_, ?_⟩
  · have h0 := vl_nonneg h
    have hz := trm_zero h
    unfold sv at hv
    cases s
    · simp at hv ⊢; omega
    · simp only [Bool.true_and, if_true] at hv ⊢
      rw [decide_eq_decide]
      constructor
      · intro h1
        have : vl l ≠ 0 := fun e => by have := hz.2 e; omega
        omega
      · intro h1
        have : (trm l).length ≠ 0 := fun e => by have := hz.1 e; omega
        omega
  · exact trm_digs (by decide) (u64_rng h) (by rw [vb_vl, ← ha])
  · rw [lenN_nbits h]; unfold lenV; congr 1; omega
theorem trm_dig {s : Bool} {l : List Int} {v : Int} (h : u64s l) (hv : sv s l = v) : trm (dig l) = dg v :=
  trm_digs (by decide) (dig_rng h) (by have ha := sv_abs (s := s) h; rw [vb_dig, ← ha, hv])
theorem lenD_eq (v : Int) (h : dg v ≠ []) : 32 * ((dg v).length - 1) + nbits ((dg v).getD ((dg v).length - 1) 0).toNat = lenV v := by
  have := len_digs (w := 32) (by decide) (dg_r v) (dg_t v) h
  rw [show (2 ^ 32 : Nat) = 4294967296 by decide, dg_v] at this
  exact this
theorem dg_nil {v : Int} : dg v = [] ↔ v = 0 := by
  constructor
  · intro h; have := dg_v v; rw [h] at this; simp only [vb] at this; omega
  · rintro rfl; exact digs_0
theorem digs_len {b : Nat} (hb : 2 ≤ b) : ∀ (k n : Nat), n < b ^ k → (digs b n).length ≤ k
  | 0, n, h => by
    have : n = 0 := by simpa using h
    subst this; rw [digs_0]; exact Nat.le_refl _
  | k + 1, n, h => by
    by_cases h0 : n = 0
    · subst h0; rw [digs_0]; exact Nat.zero_le _
    · rw [digs_pos hb h0, List.length_cons]
      have := digs_len hb k (n / b) (Nat.div_lt_of_lt_mul (by rw [Nat.mul_comm, ← Nat.pow_succ]; exact h))
      omega


def wrapP (l : List Int) : List Int := 10855845 :: 10855845 :: (l ++ [10855845, 10855845])
def lendA (n i : Nat) : List Int := fillI (List.replicate i 10855845) n
def lendB (l : List Int) (i : Nat) : List Int := 10855845 :: 10855845 :: (l.take i ++ List.replicate (l.length + 2 - i) 10855845)
theorem nbits_half {m : Nat} (h : m ≠ 0) : nbits m = 1 + nbits (m / 2) := by
  by_cases h1 : m / 2 = 0
  · have : m = 1 := by omega
    subst this; rfl
  · have := nbits_add (w := 1) (x := m % 2) (m := m / 2) (by have := Nat.mod_lt m (show 0 < 2 by decide); simpa using this) h1
    rw [Nat.pow_one, Nat.mod_add_div] at this
    exact this
theorem dg_top (v : Int) (i : Nat) : 0 ≤ (dg v).getD i 0 ∧ (dg v).getD i 0 < 4294967296 := by
  by_cases hi : i < (dg v).length
  · rw [List.getD_eq_getElem?_getD, List.getElem?_eq_getElem hi]; exact dg_r v _ (List.getElem_mem hi)
  · rw [List.getD_eq_getElem?_getD, List.getElem?_eq_none (by omega)]; exact ⟨by decide, by decide⟩
theorem lenV_le (v : Int) : lenV v ≤ 32 * (dg v).length := by
  by_cases h : dg v = []
  · rw [dg_nil.1 h]; exact Nat.zero_le _
  · have h1 := lenD_eq v h
    have h2 := dg_top v ((dg v).length - 1)
    have h3 : nbits ((dg v).getD ((dg v).length - 1) 0).toNat ≤ 32 := nbits_le.2 (by rw [show (2 ^ 32 : Nat) = 4294967296 by decide]; omega)
    have : 0 < (dg v).length := List.length_pos_iff.2 h
    omega
def Res (v : Int) (s : Bool) (r : List Int) (e : Int) : Prop := (lenV v ≤ 67108864 ∧ s = decide (v < 0) ∧ r = lm v ∧ e = 0) ∨ (67108864 < lenV v ∧ s = false ∧ r = [] ∧ e = 3)
theorem lenV_dg {v : Int} (h : lenV v ≤ 67108864) : (dg v).length ≤ 2097152 := by
  by_cases h0 : dg v = []
  · rw [h0]; exact Nat.zero_le _
  · have h1 := lenD_eq v h0
    have := dg_t v h0
    have h2 := dg_top v ((dg v).length - 1)
    have := nbits_pos (n := ((dg v).getD ((dg v).length - 1) 0).toNat) (by omega)
    omega
theorem lenV_lm {v : Int} (h : lenV v ≤ 67108864) : (lm v).length ≤ 1048576 := by
  have h1 := (raw_res (s := decide (v < 0)) (v := v) (lm_u v) (by unfold sv; rw [lm_v]; by_cases h : v < 0 <;> simp [h] <;> omega)).2
  have := len_bd (lm_u v) (by rw [h1.2]; exact h)
  rwa [h1.1] at this
theorem Res.len {v : Int} {s : Bool} {r : List Int} {e : Int} (h : Res v s r e) : r.length ≤ 1048576 := by
  rcases h with ⟨h1, _, rfl, _⟩ | ⟨_, _, rfl, _⟩
  · exact lenV_lm h1
  · exact Nat.zero_le _


def ErrN (x : Int) (r : List Int) (e : Int) : Prop := (e = 0 ∧ good r ∧ vl r = x) ∨ (e = 3 ∧ 67108864 < lenV x)
def ResN (v : Int) (s : Bool) (l : List Int) (e : Int) : Prop := (e = 0 ∧ u64s l ∧ l.length < 1099511627776 ∧ sv s l = v) ∨ (e = 3 ∧ 67108864 < lenV v)
theorem lenN_lenV {l : List Int} {x : Int} (u : u64s l) (hv : vl l = x) : lenN l = lenV x := by
  have := vl_nonneg u
  rw [lenN_nbits u, hv]; unfold lenV; congr 1; omega
theorem errN_ok {l : List Int} {x : Int} (u : u64s l) (hv : vl l = x) (h : lenN l ≤ 67108864) : ErrN x (trm l) 0 := .inl ⟨rfl, good_trm u h, by rw [vl_trm, hv]⟩
theorem errN_big {l r : List Int} {x : Int} (u : u64s l) (hv : vl l = x) (h : 67108864 < lenN l) : ErrN x r 3 := .inr ⟨rfl, by rwa [← lenN_lenV u hv]⟩
theorem errN_great {a b r : List Int} (ua : u64s a) (ub : u64s b) (h1 : 0 < lenN a) (h2 : 0 < lenN b) (h3 : 67108864 < lenN a + lenN b - 1) : ErrN (vl a * vl b) r 3 := by
  refine .inr ⟨rfl, ?_⟩
  have ha := vl_nonneg ua
  have hb := vl_nonneg ub
  have ea := lenN_nbits ua
  have eb := lenN_nbits ub
  obtain ⟨x, hx⟩ : ∃ x : Nat, vl a = x := ⟨(vl a).toNat, by omega⟩
  obtain ⟨y, hy⟩ : ∃ y : Nat, vl b = y := ⟨(vl b).toNat, by omega⟩
  rw [hx] at ea
  rw [hy] at eb
  rw [show ((x : Int)).toNat = x from rfl] at ea
  rw [show ((y : Int)).toNat = y from rfl] at eb
  have hx0 : x ≠ 0 := fun e => by rw [e, nbits_0] at ea; omega
  have hy0 : y ≠ 0 := fun e => by rw [e, nbits_0] at eb; omega
  have := nbits_mul hx0 hy0
  rw [hx, hy, ← Int.natCast_mul]
  unfold lenV
  rw [Int.natAbs_natCast]
  omega
theorem resN_of {x v : Int} {s : Bool} {r : List Int} {e : Int} (h : ErrN x r e) (h0 : 0 ≤ x) (hs : ∀ q, u64s q → vl q = x → sv s q = v) : ResN v s r e := by
  rcases h with ⟨h1, h2, h3⟩ | ⟨h1, h2⟩
  · exact .inl ⟨h1, h2.1, by have := h2.2; omega, hs r h2.1 h3⟩
  · refine .inr ⟨h1, ?_⟩
    have e1 := lm_v x
    have e2 := hs (lm x) (lm_u x) (by rw [e1]; omega)
    have e3 := sv_abs (s := s) (lm_u x)
    rw [e2, e1] at e3
    have e4 : v.natAbs = x.natAbs := by omega
    unfold lenV at h2 ⊢
    rwa [e4]
theorem res_ok {s : Bool} {l : List Int} {v : Int} (u : u64s l) (hv : sv s l = v) (h : lenN l ≤ 67108864) : Res v (s && decide (0 < ((trm l).length : Int))) (trm l) 0 := by
  obtain ⟨h1, h2, h3⟩ := raw_res u hv
  exact .inl ⟨by rwa [← h3], h1, h2, rfl⟩
theorem res_big {s : Bool} {l : List Int} {v : Int} (u : u64s l) (hv : sv s l = v) (h : 67108864 < lenN l) : Res v false [] 3 := by
  obtain ⟨h1, h2, h3⟩ := raw_res u hv
  exact .inr ⟨by rwa [← h3], rfl, rfl, rfl⟩
theorem dg_lenN {l : List Int} {v : Int} {s : Bool} (u : u64s l) (hv : sv s l = v) : (dg v).length ≤ 2 * l.length := by
  rw [← trm_dig u hv]
  have := trm_len (dig l)
  rw [dig_len] at this
  exact this

namespace D
def r32 (l : List Int) : Prop := ∀ x ∈ l, 0 ≤ x ∧ x < 4294967296
def Bs : Int := 4294967296
def vl : List Int → Int
  | [] => 0
  | x :: l => x + Bs * vl l
def pB : Nat → Int
  | 0 => 1
  | k + 1 => Bs * pB k
theorem pB_pos : ∀ k, 0 < pB k
  | 0 => by decide
  | k + 1 => by simp only [pB]; exact Int.mul_pos (by decide) (pB_pos k)
theorem pB_add : ∀ a b, pB (a + b) = pB a * pB b
  | 0, b => by simp [pB]
  | a + 1, b => by rw [show a + 1 + b = (a + b) + 1 by omega]; simp only [pB]; rw [pB_add a b, Int.mul_assoc]
theorem vl_app : ∀ a b : List Int, vl (a ++ b) = vl a + pB a.length * vl b
  | [], b => by simp [vl, pB]
  | x :: a, b => by
    simp only [List.cons_append, vl, List.length_cons, pB]
    rw [vl_app a b, Int.mul_add, Int.mul_assoc, Int.add_assoc]
theorem vl_nonneg : ∀ {l : List Int}, r32 l → 0 ≤ vl l
  | [], _ => Int.le_refl _
  | x :: l, h => by
    have h1 := (h x (List.mem_cons_self ..)).1
    have h2 := vl_nonneg (l := l) fun y hy => h y (List.mem_cons_of_mem _ hy)
    simp only [vl]
    have := Int.mul_nonneg (show (0 : Int) ≤ Bs by decide) h2
    omega
theorem vl_lt : ∀ {l : List Int}, r32 l → vl l < pB l.length
  | [], _ => by decide
  | x :: l, h => by
    have h1 := (h x (List.mem_cons_self ..)).2
    have h2 := vl_lt (l := l) fun y hy => h y (List.mem_cons_of_mem _ hy)
    simp only [vl, List.length_cons, pB]
    have h3 : vl l + 1 ≤ pB l.length := h2
    have h4 := Int.mul_le_mul_of_nonneg_left h3 (show (0 : Int) ≤ Bs by decide)
    rw [Int.mul_add, Int.mul_one] at h4
    have h5 : x < Bs := h1
    omega
def vk (l : List Int) (k : Nat) : Int := vl (l.take k)
theorem vk_0 (l : List Int) : vk l 0 = 0 := by unfold vk; simp [vl]
theorem vk_all {l : List Int} {k : Nat} (h : l.length ≤ k) : vk l k = vl l := by unfold vk; rw [List.take_of_length_le h]
theorem vk_succ (l : List Int) (k : Nat) : vk l (k + 1) = vk l k + pB k * l.getD k 0 := by
  unfold vk
  by_cases h : k < l.length
  · rw [List.take_succ_eq_append_getElem h, vl_app, List.length_take, Nat.min_eq_left (by omega), List.getD_eq_getElem?_getD, List.getElem?_eq_getElem h]
    simp [vl]
  · rw [List.take_of_length_le (by omega), List.take_of_length_le (by omega), getD_ge (by omega)]
    simp
theorem vl_set : ∀ (l : List Int) (j : Nat) (v : Int), j < l.length → vl (l.set j v) = vl l + pB j * (v - l.getD j 0)
  | [], j, v, h => by simp at h
  | x :: l, 0, v, _ => by
    have e : (x :: l).getD 0 0 = x := rfl
    simp only [List.set_cons_zero, vl, pB, e]; omega
  | x :: l, j + 1, v, h => by
    have ih := vl_set l j v (by simpa using h)
    have e : (x :: l).getD (j + 1) 0 = l.getD j 0 := rfl
    simp only [List.set_cons_succ, vl, pB, e]
    rw [ih, Int.mul_add, Int.mul_assoc]; omega
theorem school_in {o o2 b : List Int} {i k : Nat} {c c2 x t s : Int} (hj : i + k < o.length) (ho2 : o2 = o.set (i + k) s) (ht : o.getD (i + k) 0 = t) {V : Int}
    (hv : vl o + c * pB (i + k) = V + x * pB i * vk b k) (hs : s + 4294967296 * c2 = t + x * b.getD k 0 + c) : vl o2 + c2 * pB (i + (k + 1)) = V + x * pB i * vk b (k + 1) := by
  subst ho2
  rw [vl_set _ _ _ hj, ht, vk_succ, show i + (k + 1) = (i + k) + 1 by omega]
  simp only [pB]
  have hB : Bs = 4294967296 := rfl
  have e1 : c2 * (Bs * pB (i + k)) = pB (i + k) * (4294967296 * c2) := by rw [hB, ← Int.mul_assoc, Int.mul_comm (c2 * 4294967296), Int.mul_comm c2]
  have e2 : x * pB i * (vk b k + pB k * b.getD k 0) = x * pB i * vk b k + pB (i + k) * (x * b.getD k 0) := by
    rw [Int.mul_add, pB_add]
    congr 1
    rw [Int.mul_assoc, Int.mul_left_comm (pB i * pB k), Int.mul_assoc (pB i)]
  have e3 : pB (i + k) * (s - t) + pB (i + k) * (4294967296 * c2) = pB (i + k) * (x * b.getD k 0) + pB (i + k) * c := by
    rw [← Int.mul_add, ← Int.mul_add]; congr 1; omega
  rw [e1, e2]
  have e4 : c * pB (i + k) = pB (i + k) * c := Int.mul_comm _ _
  omega
theorem school_row {o o2 a b : List Int} {i : Nat} {c : Int} (hj : i + b.length < o.length) (h0 : o.getD (i + b.length) 0 = 0) (ho2 : o2 = o.set (i + b.length) c)
    (hv : vl o + c * pB (i + b.length) = vk a i * vl b + a.getD i 0 * pB i * vk b b.length) : vl o2 = vk a (i + 1) * vl b := by
  subst ho2
  rw [vl_set _ _ _ hj, h0, vk_succ, Int.add_mul]
  rw [vk_all (Nat.le_refl _)] at hv
  have e : pB i * a.getD i 0 * vl b = a.getD i 0 * pB i * vl b := by rw [Int.mul_comm (pB i)]
  have e4 : c * pB (i + b.length) = pB (i + b.length) * c := Int.mul_comm _ _
  rw [e, Int.sub_zero]
  omega
end D
theorem rng_getD {b : Nat} (hb : 0 < b) {l : List Int} (h : rng b l) (i : Nat) : 0 ≤ l.getD i 0 ∧ l.getD i 0 < (b : Int) := by
  by_cases hi : i < l.length
  · rw [List.getD_eq_getElem?_getD, List.getElem?_eq_getElem hi]; exact h _ (List.getElem_mem hi)
  · rw [List.getD_eq_getElem?_getD, List.getElem?_eq_none (by omega)]; exact ⟨Int.le_refl _, by show (0 : Int) < b; omega⟩
abbrev B32 : Nat := 4294967296
def dgt (z j : Nat) : Int := ((z / B32 ^ j % B32 : Nat) : Int)
def dvl (z m : Nat) : List Int := (List.range m).map (dgt z)
def cry (x y i : Nat) : Nat := (x % B32 ^ i + y % B32 ^ i) / B32 ^ i
def brw (x y i : Nat) : Nat := if x % B32 ^ i < y % B32 ^ i then 1 else 0
theorem cmpN_cons {x y : Int} {a b : List Int} : ∀ k, cmpN (x :: a) (y :: b) (k + 1) = if cmpN a b k = 0 then (if x < y then -1 else if y < x then 1 else 0) else cmpN a b k
  | 0 => by simp [cmpN]
  | k + 1 => by
    have ih := cmpN_cons (x := x) (y := y) (a := a) (b := b) k
    have e1 : cmpN (x :: a) (y :: b) (k + 1 + 1) = if a.getD k 0 < b.getD k 0 then -1 else if b.getD k 0 < a.getD k 0 then 1 else cmpN (x :: a) (y :: b) (k + 1) := rfl
    have e2 : cmpN a b (k + 1) = if a.getD k 0 < b.getD k 0 then -1 else if b.getD k 0 < a.getD k 0 then 1 else cmpN a b k := rfl
    rw [e1, e2, ih]
    by_cases h1 : a.getD k 0 < b.getD k 0
    · rw [if_pos h1, if_pos h1, if_neg (by decide)]
    · rw [if_neg h1, if_neg h1]
      by_cases h2 : b.getD k 0 < a.getD k 0
      · rw [if_pos h2, if_pos h2, if_neg (by decide)]
      · rw [if_neg h2, if_neg h2]
theorem digs_mono {b : Nat} (hb : 2 ≤ b) (x : Nat) : ∀ y, x ≤ y → (digs b x).length ≤ (digs b y).length := by
  induction x using Nat.strongRecOn with
  | _ x ih =>
    intro y hxy
    by_cases h : x = 0
    · subst h; rw [digs_0]; exact Nat.zero_le _
    · rw [digs_pos hb h, digs_pos hb (by omega : y ≠ 0), List.length_cons, List.length_cons]
      have := ih (x / b) (Nat.div_lt_self (by omega) (by omega)) (y / b) (Nat.div_le_div_right hxy)
      omega
theorem cmpN_digs {b : Nat} (hb : 2 ≤ b) (x : Nat) : ∀ y, (digs b x).length = (digs b y).length → cmpN (digs b x) (digs b y) (digs b x).length = cmpI x y := by
  induction x using Nat.strongRecOn with
  | _ x ih =>
    intro y hl
    by_cases h : x = 0
    · subst h
      rw [digs_0] at hl ⊢
      have hy : y = 0 := by
        rcases Nat.eq_zero_or_pos y with h | h
        · exact h
        · rw [digs_pos hb (by omega)] at hl; simp at hl
      subst hy; rfl
    · have hy : y ≠ 0 := by
        intro e; subst e
        rw [digs_0, digs_pos hb h] at hl; simp at hl
      rw [digs_pos hb h, digs_pos hb hy] at hl ⊢
      have hl' : (digs b (x / b)).length = (digs b (y / b)).length := by simpa using hl
      rw [List.length_cons, cmpN_cons, ih (x / b) (Nat.div_lt_self (by omega) (by omega)) (y / b) hl']
      have e1 := Nat.mod_add_div x b
      have e2 := Nat.mod_add_div y b
      have m1 := Nat.mod_lt x (show 0 < b by omega)
      have m2 := Nat.mod_lt y (show 0 < b by omega)
      generalize x / b = X at *
      generalize y / b = Y at *
      rcases Nat.lt_trichotomy X Y with hd | hd | hd
      · have h5 : b * (X + 1) ≤ b * Y := Nat.mul_le_mul_left _ hd
        rw [Nat.mul_add, Nat.mul_one] at h5
        have c1 : cmpI X Y = -1 := if_pos (by omega)
        have c2 : cmpI x y = -1 := if_pos (by omega)
        rw [c1, c2]; rfl
      · subst hd
        have c1 : cmpI X X = 0 := cmpI_0.2 rfl
        rw [c1, if_pos rfl]
        rcases Nat.lt_trichotomy (x % b) (y % b) with g1 | g1 | g1
        · have q1 : ((x % b : Nat) : Int) < ((y % b : Nat) : Int) := Int.ofNat_lt.2 g1
          have c2 : cmpI x y = -1 := if_pos (by omega)
          rw [if_pos q1, c2]
        · have c2 : cmpI x y = 0 := cmpI_0.2 (by omega)
          rw [g1, if_neg (Int.lt_irrefl _), if_neg (Int.lt_irrefl _), c2]
        · have q1 : ((y % b : Nat) : Int) < ((x % b : Nat) : Int) := Int.ofNat_lt.2 g1
          have c2 : cmpI x y = 1 := by
            have n1 : ¬ ((x : Nat) : Int) < y := by omega
            have n2 : ((y : Nat) : Int) < x := by omega
            unfold cmpI; rw [if_neg n1, if_pos n2]
          rw [if_neg (Int.lt_asymm q1), if_pos q1, c2]
      · have h5 : b * (Y + 1) ≤ b * X := Nat.mul_le_mul_left _ hd
        rw [Nat.mul_add, Nat.mul_one] at h5
        have c1 : cmpI X Y = 1 := by unfold cmpI; rw [if_neg (by omega), if_pos (by omega)]
        have c2 : cmpI x y = 1 := by unfold cmpI; rw [if_neg (by omega), if_pos (by omega)]
        rw [c1, c2]; rfl
theorem cmpL_digs {b : Nat} (hb : 2 ≤ b) (x y : Nat) : cmpL (digs b x) (digs b y) = cmpI x y := by
  unfold cmpL
  by_cases h1 : (digs b x).length < (digs b y).length
  · rw [if_pos h1]
    have : x < y := by
      rcases Nat.lt_or_ge x y with h | h
      · exact h
      · have := digs_mono hb y x h; omega
    exact (if_pos (by omega)).symm
  · rw [if_neg h1]
    by_cases h2 : (digs b y).length < (digs b x).length
    · rw [if_pos h2]
      have : y < x := by
        rcases Nat.lt_or_ge y x with h | h
        · exact h
        · have := digs_mono hb x y h; omega
      unfold cmpI; rw [if_neg (by omega), if_pos (by omega)]
    · rw [if_neg h2]
      exact cmpN_digs hb x y (by omega)

def zs (s : Bool) (n : Nat) : Int := if s = true then -(n : Int) else n
theorem zs_abs {s : Bool} {n : Nat} : (zs s n).natAbs = n := by unfold zs; split <;> omega
theorem sgn_cases {x : Int} : (x < 0 ∧ sgnI x = -1) ∨ (x = 0 ∧ sgnI x = 0) ∨ (0 < x ∧ sgnI x = 1) := by
  unfold sgnI
  rcases Int.lt_trichotomy x 0 with h | h | h
  · exact .inl ⟨h, by rw [if_neg (by omega), if_pos h]⟩
  · exact .inr (.inl ⟨h, by rw [if_pos h]⟩)
  · exact .inr (.inr ⟨h, by rw [if_neg (by omega), if_neg (by omega)]⟩)
theorem dg_lenv {v : Int} : ((dg v).length : Int) = 0 ↔ v = 0 := by
  constructor
  · intro h; exact dg_nil.1 (List.eq_nil_of_length_eq_zero (by omega))
  · intro h; rw [dg_nil.2 h]; rfl

theorem mixed : Tryz.prog.follows .mixedOrders = true := by kernel_rfl
theorem sl28 : slB Tryz.prog 23 79 1 = true := by kernel_rfl
theorem one82 : oneB Tryz.prog 79 = true := by kernel_rfl
theorem undS28 : Tryz.prog.underlying 23 = some (.slice 79) := by kernel_rfl
theorem el28 : elP Tryz.prog 23 79 1 8 (.int .u64 0) := elP_of undS28 (by kernel_rfl) rfl (by decide)
theorem und9 : Tryz.prog.underlying 9 = some .string := by kernel_rfl
theorem und82 : Tryz.prog.underlying 79 = some (.int .u64) := by kernel_rfl
theorem und5 : Tryz.prog.underlying 5 = some (.int .u8) := by kernel_rfl
theorem und3 : Tryz.prog.underlying 3 = some (.int .i64) := by kernel_rfl
theorem sl33 : slB Tryz.prog 28 79 1 = true := by kernel_rfl
theorem sl25 : slB Tryz.prog 22 79 1 = true := by kernel_rfl
theorem undS33 : Tryz.prog.underlying 28 = some (.slice 79) := by kernel_rfl
theorem el33 : elP Tryz.prog 28 79 1 8 (.int .u64 0) := elP_of undS33 (by kernel_rfl) rfl (by decide)
theorem zero30 : ((Tryz.prog.info? 25).bind (·.zero)).map (·.cells.toList) = some [(.bool false), (.slice none 0 0)] := by kernel_rfl
theorem fld30_1 : fldB Tryz.prog 25 1 1 1 = true := by kernel_rfl
theorem one28 : oneB Tryz.prog 23 = true := by kernel_rfl
theorem fld30_0 : fldB Tryz.prog 25 0 0 1 = true := by kernel_rfl
theorem one4 : oneB Tryz.prog 4 = true := by kernel_rfl
theorem pls30_0_1 : plsB Tryz.prog 25 [0, 1] [(0, 1), (1, 1)] = true := by kernel_rfl
theorem siz30 : (Tryz.prog.info? 25).any (·.size == 2) = true := by kernel_rfl
theorem agg30 : aggB Tryz.prog 25 2 = true := by kernel_rfl
theorem pls30_1 : plsB Tryz.prog 25 [1] [(1, 1)] = true := by kernel_rfl
theorem zero102 : ((Tryz.prog.info? 147).bind (·.zero)).map (·.cells.toList) = some [.nilFunc, .nilFunc, .nilFunc, .nilFunc, .nilFunc] := by kernel_rfl
theorem siz102 : (Tryz.prog.info? 147).any (·.size == 5) = true := by kernel_rfl
theorem agg102 : aggB Tryz.prog 147 5 = true := by kernel_rfl
theorem und4 : Tryz.prog.underlying 4 = some .bool := by kernel_rfl
theorem undA102 : Tryz.prog.underlying 147 = some (.array 5 146) := by kernel_rfl
theorem one101 : oneB Tryz.prog 146 = true := by kernel_rfl
theorem siz82m : (Tryz.prog.info? 79).map (·.size) = some 1 := by kernel_rfl
theorem pls30_ : plsB Tryz.prog 25 [] [] = true := by kernel_rfl


theorem und116 : Tryz.prog.underlying 129 = some (.int .u64) := by kernel_rfl



theorem undS1122 : Tryz.prog.underlying 122 = some (.slice 3) := by kernel_rfl
theorem el1122 : elP Tryz.prog 122 3 1 8 (.int .i64 0) := elP_of undS1122 (by kernel_rfl) rfl (by decide)
theorem sl1122 : slB Tryz.prog 122 3 1 = true := by kernel_rfl
theorem one3 : oneB Tryz.prog 3 = true := by kernel_rfl
theorem one1140 : oneB Tryz.prog 140 = true := by kernel_rfl
theorem sl1140 : slB Tryz.prog 140 23 1 = true := by kernel_rfl
theorem one1123 : oneB Tryz.prog 123 = true := by kernel_rfl
theorem undS1140 : Tryz.prog.underlying 140 = some (.slice 23) := by kernel_rfl
theorem el1140 : elP Tryz.prog 140 23 1 24 (.slice none 0 0) := elP_of undS1140 (by kernel_rfl) rfl (by decide)
theorem zero1140 : ((Tryz.prog.info? 140).bind (·.zero)).map (·.cells.toList) = some [(.slice none 0 0)] := by kernel_rfl
theorem siz1140 : (Tryz.prog.info? 140).any (·.size == 1) = true := by kernel_rfl
theorem zero1123 : ((Tryz.prog.info? 123).bind (·.zero)).map (·.cells.toList) = some [.nilFunc] := by kernel_rfl
theorem siz1123 : (Tryz.prog.info? 123).any (·.size == 1) = true := by kernel_rfl
theorem undS1120 : Tryz.prog.underlying 120 = some (.slice 5) := by kernel_rfl
theorem el1120 : elP Tryz.prog 120 5 1 1 (.int .u8 0) := elP_of undS1120 (by kernel_rfl) rfl (by decide)
theorem sl1120 : slB Tryz.prog 120 5 1 = true := by kernel_rfl
theorem one5 : oneB Tryz.prog 5 = true := by kernel_rfl
theorem zero1141 : ((Tryz.prog.info? 141).bind (·.zero)).map (·.cells.toList) = some [(.map none)] := by kernel_rfl
theorem siz1141 : (Tryz.prog.info? 141).any (·.size == 1) = true := by kernel_rfl
theorem zero1142 : ((Tryz.prog.info? 142).bind (·.zero)).map (·.cells.toList) = some [.nilFunc] := by kernel_rfl
theorem siz1142 : (Tryz.prog.info? 142).any (·.size == 1) = true := by kernel_rfl
theorem zero1144 : ((Tryz.prog.info? 144).bind (·.zero)).map (·.cells.toList) = some [.nilFunc] := by kernel_rfl
theorem siz1144 : (Tryz.prog.info? 144).any (·.size == 1) = true := by kernel_rfl
theorem one1144 : oneB Tryz.prog 144 = true := by kernel_rfl
theorem one1141 : oneB Tryz.prog 141 = true := by kernel_rfl
theorem undm1141 : Tryz.prog.underlying 141 = some (.map 3 23) := by kernel_rfl
theorem undki3 : Tryz.prog.underlying 3 = some (.int .i64) := by kernel_rfl
theorem zv28 : (Tryz.prog.info? 23).bind (·.zero) = some (.slice none 0 0) := by kernel_rfl
theorem one1142 : oneB Tryz.prog 142 = true := by kernel_rfl
theorem zero1027 : ((Tryz.prog.info? 27).bind (·.zero)).map (·.cells.toList) = some [(.bool false), (.slice none 0 0), (.slice none 0 0)] := by kernel_rfl
theorem undI20 : Tryz.prog.underlying 20 = some (.interface #[]) := by kernel_rfl
theorem agg1027 : aggB Tryz.prog 27 3 = true := by kernel_rfl
theorem siz1027 : (Tryz.prog.info? 27).any (·.size == 3) = true := by kernel_rfl
theorem ndi1100 : ndiB Tryz.prog 100 = true := by kernel_rfl
theorem zero1100 : ((Tryz.prog.info? 100).bind (·.zero)).map (·.cells.toList) = some [(.int .i64 0)] := by kernel_rfl
theorem siz1100 : (Tryz.prog.info? 100).any (·.size == 1) = true := by kernel_rfl
theorem fld1100_0 : fldB Tryz.prog 100 0 0 1 = true := by kernel_rfl
theorem one23 : oneB Tryz.prog 33 = true := by kernel_rfl
theorem siz3 : (Tryz.prog.info? 3).any (·.size == 1) = true := by kernel_rfl
theorem one9 : oneB Tryz.prog 9 = true := by kernel_rfl
theorem siz9 : (Tryz.prog.info? 9).any (·.size == 1) = true := by kernel_rfl
theorem fld1027_0 : fldB Tryz.prog 27 0 0 2 = true := by kernel_rfl
theorem fld1027_1 : fldB Tryz.prog 27 1 2 1 = true := by kernel_rfl
theorem pls1100_0 : plsB Tryz.prog 100 [0] [(0, 1)] = true := by kernel_rfl
theorem pls1027_0_1 : plsB Tryz.prog 27 [0, 1] [(0, 2), (2, 1)] = true := by kernel_rfl
theorem sl1084 : slB Tryz.prog 84 27 3 = true := by kernel_rfl
theorem zero23 : ((Tryz.prog.info? 33).bind (·.zero)).map (·.cells.toList) = some [(.int .i64 0)] := by kernel_rfl
theorem siz23 : (Tryz.prog.info? 33).any (·.size == 1) = true := by kernel_rfl
theorem zero9 : ((Tryz.prog.info? 9).bind (·.zero)).map (·.cells.toList) = some [(.string .empty)] := by kernel_rfl
theorem undS1084 : Tryz.prog.underlying 84 = some (.slice 27) := by kernel_rfl
theorem el1084 : elP Tryz.prog 84 27 3 56 (.agg #[(.bool false), (.slice none 0 0), (.slice none 0 0)]) := elP_of undS1084 (by kernel_rfl) rfl (by decide)
theorem pls1027_ : plsB Tryz.prog 27 [] [] = true := by kernel_rfl
theorem zero3 : ((Tryz.prog.info? 3).bind (·.zero)).map (·.cells.toList) = some [(.int .i64 0)] := by kernel_rfl

theorem one56 : oneB Tryz.prog 48 = true := by kernel_rfl
theorem siz56 : (Tryz.prog.info? 48).any (·.size == 1) = true := by kernel_rfl
theorem zero56 : ((Tryz.prog.info? 48).bind (·.zero)).map (·.cells.toList) = some [(.slice none 0 0)] := by kernel_rfl
theorem undS56 : Tryz.prog.underlying 48 = some (.slice 25) := by kernel_rfl
theorem el56 : elP Tryz.prog 48 25 2 32 (.agg #[(.bool false), (.slice none 0 0)]) := elP_of undS56 (by kernel_rfl) rfl (by decide)
theorem sl56 : slB Tryz.prog 48 25 2 = true := by kernel_rfl

def rowsJ (n : Nat) (L : Ob) (f : Nat → Ob) (J : List Ob) : List Ob := L :: ((List.range n).map f ++ J)
def upd (f : Nat → Ob) (i : Nat) (o : Ob) : Nat → Ob := fun j => if j = i then o else f j
section
variable {n : Nat} {L : Ob} {f : Nat → Ob} {J : List Ob}
end
def owC (j : Nat) : Int := ((j % 251 + 1 : Nat) : Int)
def owB (j : Nat) : List Int := [((300 + 5 * j : Nat) : Int), ((300 + 5 * j + 1 : Nat) : Int), ((300 + 5 * j + 2 : Nat) : Int), ((300 + 5 * j + 3 : Nat) : Int), ((300 + 5 * j + 4 : Nat) : Int)]
def owL (n : Nat) (rs : Nat → List Int) (i : Nat) : Ob := ⟨22, 1, 0, true, (List.range n).map fun j => if j < i then .o (j + 1) 1 0 ((rs j).length + 5) else .o (j + 1) 0 0 (rs j).length⟩
def owL0 (n : Nat) (rs : Nat → List Int) : Ob := ⟨22, 1, 0, true, (List.range n).map fun j => .o (j + 1) 0 0 (rs j).length⟩
def owR (rs : Nat → List Int) (j : Nat) : Ob := ⟨79, 1, 0, true, ints .u64 (rs j)⟩
def owF (rs : Nat → List Int) (i j : Nat) : Ob := ⟨79, 1, 0, true, ints .u64 (if j < i then List.replicate (rs j).length (owC j) else rs j)⟩
def owK (rs : Nat → List Int) (i k : Nat) : Ob := ⟨79, 1, 0, true, ints .u64 (List.replicate k (owC i) ++ (rs i).drop k)⟩
def owE (rs : Nat → List Int) (j : Nat) : Ob := ⟨79, 1, 1, true, ints .u64 (List.replicate (rs j).length (owC j) ++ owB j)⟩
def owG (rs : Nat → List Int) (i j : Nat) : Ob := if j < i then owE rs j else ⟨79, 1, 0, true, ints .u64 (List.replicate (rs j).length (owC j))⟩
section
variable {n : Nat} {rs : Nat → List Int} {J : List Ob}
end

section
variable {n : Nat} {rs : Nat → List Int}
end
def rsOf (l : List (List Int)) (j : Nat) : List Int := l.getD j []

def Tz (x t : Nat) : Prop := 2 ^ t ∣ x ∧ x / 2 ^ t % 2 = 1
def inI (v : Int) : Prop := -9223372036854775808 ≤ v ∧ v < 9223372036854775808
instance (v : Int) : Decidable (inI v) := by unfold inI; infer_instance
def fl (v : Int) : List Int := if v = 0 then [] else [v]
theorem lm_small {v : Int} (h : v.natAbs < 18446744073709551616) : lm v = fl ((v.natAbs : Nat) : Int) := by
  unfold lm fl
  by_cases h0 : v.natAbs = 0
  · rw [h0, digs_0]; rfl
  · rw [digs_pos (by decide) h0, Nat.mod_eq_of_lt h, Nat.div_eq_of_lt h, digs_0, if_neg (by omega)]
theorem sv_lm (v : Int) : sv (decide (v < 0)) (lm v) = v := by
  unfold sv; rw [lm_v]; by_cases h : v < 0 <;> simp [h] <;> omega


theorem p2pos (s : Nat) : (0 : Int) < 2 ^ s := Int.pow_pos (by decide)
theorem p2split {s : Nat} (h : s ≤ 64) : (2 : Int) ^ (64 - s) * 2 ^ s = 18446744073709551616 := by
  rw [← Int.pow_add, show 64 - s + s = 64 by omega]; rfl
theorem p2succ {s : Nat} (h : s < 64) : (2 : Int) * 2 ^ (63 - s) = 2 ^ (64 - s) := by
  rw [show 64 - s = (63 - s) + 1 by omega, Int.pow_succ, Int.mul_comm]
theorem p2le {s : Nat} (h : s < 64) : (2 : Int) ^ s ≤ 9223372036854775808 := by
  have h1 : (2 : Nat) ^ s ≤ 2 ^ 63 := Nat.pow_le_pow_right (by decide) (by omega)
  have h2 : ((2 ^ s : Nat) : Int) ≤ ((2 ^ 63 : Nat) : Int) := Int.ofNat_le.2 h1
  rw [Int.natCast_pow] at h2
  simpa using h2
theorem sh_min {s : Nat} (h : s ≤ 64) : min ((s : Int)).toNat 64 = s := by omega
theorem shr_sym {x : Int} {s : Nat} (h : s ≤ 64) : x.fdiv (2 ^ min ((s : Int)).toNat 64) = x / 2 ^ s := by
  rw [sh_min h]; exact Int.fdiv_eq_ediv_of_nonneg _ (Int.le_of_lt (p2pos s))
theorem shl_sym {x : Int} {s : Nat} (h : s ≤ 64) : IntKind.u64.wrap (x * 2 ^ min ((s : Int)).toNat 64) = x * 2 ^ s % 18446744073709551616 := by
  rw [sh_min h]; exact u64_wrap_mod
def loS (x : Int) (s : Nat) : Int := x * 2 ^ s % 18446744073709551616
def hiS (x : Int) (s : Nat) : Int := x / 2 ^ (64 - s)
theorem loS_eq {x : Int} {s : Nat} (h : s ≤ 64) : loS x s = 2 ^ s * (x % 2 ^ (64 - s)) := by
  unfold loS
  rw [← p2split h, Int.mul_comm x, Int.mul_comm (2 ^ (64 - s)) (2 ^ s), Int.mul_emod_mul_of_pos _ _ (p2pos s)]
theorem lohi {x : Int} {s : Nat} (h : s ≤ 64) : x * 2 ^ s = 18446744073709551616 * hiS x s + loS x s := by
  rw [loS_eq h, ← p2split h]
  unfold hiS
  have e := Int.emod_add_mul_ediv x (2 ^ (64 - s))
  generalize hk : x / 2 ^ (64 - s) = k at e ⊢
  generalize hr : x % 2 ^ (64 - s) = r at e ⊢
  rw [← e, Int.add_mul, Int.mul_comm r]
  rw [Int.mul_right_comm]
  omega
theorem hiS_bd {x : Int} {s : Nat} (h : s ≤ 64) (h0 : 0 ≤ x) (h1 : x < 18446744073709551616) : 0 ≤ hiS x s ∧ hiS x s < 2 ^ s := by
  unfold hiS
  refine ⟨Int.ediv_nonneg h0 (Int.le_of_lt (p2pos _)), ?_⟩
  refine Int.ediv_lt_of_lt_mul (p2pos _) ?_
  rw [Int.mul_comm, p2split h]; exact h1
theorem loS_bd {x : Int} {s : Nat} : 0 ≤ loS x s ∧ loS x s < 18446744073709551616 := by unfold loS; omega
theorem shr_two {x : Int} {s : Nat} (h : s < 64) : x / 2 / 2 ^ (63 - s) = hiS x s := by
  unfold hiS; rw [Int.ediv_ediv_of_nonneg (by decide), p2succ h]
theorem shl_two {x : Int} {s : Nat} (h : s < 64) : x * 2 % 18446744073709551616 * 2 ^ (63 - s) % 18446744073709551616 = loS x (64 - s) := by
  unfold loS
  rw [Int.mul_emod, Int.emod_emod, ← Int.mul_emod, Int.mul_assoc, p2succ h]
theorem or_add {x y : Int} {k : Nat} (hx0 : 0 ≤ x) (hx : x < 2 ^ k) (hy0 : 0 ≤ y) (hy : 2 ^ k * y < 18446744073709551616) (hk : k ≤ 64) : bitop .or .u64 x (2 ^ k * y) = x + 2 ^ k * y := by
  obtain ⟨m, rfl⟩ := Int.eq_ofNat_of_zero_le hx0
  obtain ⟨n, rfl⟩ := Int.eq_ofNat_of_zero_le hy0
  have hp : ((2 ^ k : Nat) : Int) = (2 : Int) ^ k := by rw [Int.natCast_pow]; rfl
  rw [← hp] at hx hy ⊢
  rw [← Int.natCast_mul] at hy ⊢
  have hm : m < 2 ^ k := Int.ofNat_lt.1 hx
  have hn : 2 ^ k * n < 18446744073709551616 := by omega
  have hm2 : m < 18446744073709551616 := Nat.lt_of_lt_of_le hm (Nat.pow_le_pow_right (by decide) hk)
  unfold bitop
  simp only [IntKind.bits]
  have e1 : (BitVec.ofInt 64 (m : Int)).toNat = m := by rw [BitVec.toNat_ofInt]; simp; omega
  have e2 : (BitVec.ofInt 64 ((2 ^ k * n : Nat) : Int)).toNat = 2 ^ k * n := by
    generalize 2 ^ k * n = t at hn
    rw [BitVec.toNat_ofInt]; simp; omega
  have e3 : (BitVec.ofInt 64 (m : Int) ||| BitVec.ofInt 64 ((2 ^ k * n : Nat) : Int)).toNat = m + 2 ^ k * n := by
    rw [BitVec.toNat_or, e1, e2, Nat.or_comm, ← Nat.two_pow_add_eq_or_of_lt hm, Nat.add_comm]
  show IntKind.u64.wrap (((BitVec.ofInt 64 (m : Int) ||| BitVec.ofInt 64 ((2 ^ k * n : Nat) : Int)).toNat : Nat) : Int) = _
  rw [e3]
  have hs : m + 2 ^ k * n < 18446744073709551616 := by
    have := (BitVec.ofInt 64 (m : Int) ||| BitVec.ofInt 64 ((2 ^ k * n : Nat) : Int)).isLt
    rw [e3] at this; simpa using this
  generalize 2 ^ k * n = t at hs ⊢
  rw [wrap_u64 (by omega) (by omega)]
  omega
theorem or_lo {c x : Int} {s : Nat} (h : s ≤ 64) (hc0 : 0 ≤ c) (hc : c < 2 ^ s) (hx0 : 0 ≤ x) : bitop .or .u64 c (loS x s) = c + loS x s ∧ c + loS x s < 18446744073709551616 := by
  have hb := @loS_bd x s
  rw [loS_eq h] at hb ⊢
  have hx : 0 ≤ x % 2 ^ (64 - s) := Int.emod_nonneg _ (Int.ne_of_gt (p2pos _))
  have hx2 : x % 2 ^ (64 - s) < 2 ^ (64 - s) := Int.emod_lt_of_pos _ (p2pos _)
  refine ⟨or_add hc0 hc hx hb.2 h, ?_⟩
  have e := p2split h
  have h3 : 2 ^ s * (x % 2 ^ (64 - s)) ≤ 2 ^ s * (2 ^ (64 - s) - 1) := Int.mul_le_mul_of_nonneg_left (by omega) (Int.le_of_lt (p2pos s))
  rw [Int.mul_sub, Int.mul_comm (2 ^ s) (2 ^ (64 - s)), e] at h3
  omega
def upN (a : List Int) (s : Nat) : Nat → List Int × Int
  | 0 => ([], 0)
  | i + 1 => ((upN a s i).1 ++ [(upN a s i).2 + loS (a.getD i 0) s], hiS (a.getD i 0) s)
theorem upN_len (a : List Int) (s : Nat) : ∀ i, (upN a s i).1.length = i
  | 0 => rfl
  | i + 1 => by simp [upN, upN_len a s i]
theorem upN_c {a : List Int} {s : Nat} (hs : s ≤ 64) (ha : u64s a) : ∀ i, 0 ≤ (upN a s i).2 ∧ (upN a s i).2 < 2 ^ s
  | 0 => ⟨Int.le_refl 0, p2pos s⟩
  | i + 1 => hiS_bd hs (u64s_getD ha i).1 (u64s_getD ha i).2
theorem upN_u {a : List Int} {s : Nat} (hs : s ≤ 64) (ha : u64s a) : ∀ i, u64s (upN a s i).1
  | 0 => fun x hx => by simp [upN] at hx
  | i + 1 => by
    have hc := upN_c hs ha i
    have hl := @loS_bd (a.getD i 0) s
    exact u64s_app1 (upN_u hs ha i) (by omega) (or_lo hs hc.1 hc.2 (u64s_getD ha i).1).2
theorem upN_val {a : List Int} {s : Nat} (hs : s ≤ 64) : ∀ i, vl (upN a s i).1 + pB i * (upN a s i).2 = vk a i * 2 ^ s
  | 0 => by rw [vk_0]; simp [upN, vl]
  | i + 1 => by
    have h := upN_val (a := a) hs i
    have e := lohi (x := a.getD i 0) hs
    rw [vk_succ, Int.add_mul, ← h]
    simp only [upN]
    rw [vl_app, upN_len, Int.mul_assoc (pB i) (a.getD i 0), e]
    simp only [vl, pB]
    have hB : Bs = 18446744073709551616 := rfl
    rw [hB]
    generalize (upN a s i).2 = c
    generalize loS (a.getD i 0) s = lo
    generalize hiS (a.getD i 0) s = hi
    generalize pB i = p
    have e1 : p * (18446744073709551616 * hi + lo) = 18446744073709551616 * p * hi + p * lo := by rw [Int.mul_add, ← Int.mul_assoc, Int.mul_comm p]
    have e2 : p * (c + lo + 18446744073709551616 * 0) = p * c + p * lo := by rw [Int.mul_zero, Int.add_zero, Int.mul_add]
    rw [e1, e2]
    omega
def upL (a : List Int) (s : Nat) : List Int := (upN a s a.length).1 ++ [(upN a s a.length).2]
theorem upL_len (a : List Int) (s : Nat) : (upL a s).length = a.length + 1 := by simp [upL, upN_len]
theorem upL_u {a : List Int} {s : Nat} (hs : s < 64) (ha : u64s a) : u64s (upL a s) := by
  have hc := upN_c (Nat.le_of_lt hs) ha a.length
  have := p2le hs
  exact u64s_app1 (upN_u (Nat.le_of_lt hs) ha _) hc.1 (by omega)
theorem upL_val {a : List Int} {s : Nat} (hs : s ≤ 64) : vl (upL a s) = vl a * 2 ^ s := by
  unfold upL
  rw [vl_app, upN_len]
  have h := upN_val (a := a) hs a.length
  rw [vk_all (Nat.le_refl _)] at h
  rw [← h]; simp [vl]
theorem set_mid2 {l : List Int} {c v : Int} {n : Nat} : (fillI (l ++ [c]) n).set ((0 + l.length) * 1) v = fillI (l ++ [v]) n := by
  rw [Nat.zero_add, Nat.mul_one]
  unfold fillI
  rw [List.append_assoc, List.append_assoc, List.set_append_right _ _ (Nat.le_refl _), Nat.sub_self]
  simp
theorem get_mid2 {l : List Int} {c : Int} {n : Nat} : (fillI (l ++ [c]) n).getD ((0 + l.length) * 1) 0 = c := by
  rw [Nat.zero_add, Nat.mul_one]
  unfold fillI
  rw [List.append_assoc, List.getD_eq_getElem?_getD, List.getElem?_append_right (Nat.le_refl _), Nat.sub_self]
  simp
def upR (a : List Int) (s i : Nat) : List Int := fillI ((upN a s i).1 ++ [(upN a s i).2]) (a.length + 1)
theorem upR_len {a : List Int} {s i : Nat} (h : i ≤ a.length) : (upR a s i).length = a.length + 1 := fillI_len (by simp [upN_len]; omega)
theorem upR_0 {a : List Int} {s : Nat} : List.replicate (a.length + 1) (0 : Int) = upR a s 0 := by
  unfold upR fillI; simp [upN, List.replicate_succ]
theorem upR_get {a : List Int} {s i : Nat} : (upR a s i).getD ((0 + i) * 1) 0 = (upN a s i).2 := by
  have h := @get_mid2 (upN a s i).1 (upN a s i).2 (a.length + 1)
  rw [upN_len] at h; exact h
theorem upR_set {a : List Int} {s i : Nat} (h : i < a.length) : ((upR a s i).set ((0 + i) * 1) ((upN a s i).2 + loS (a.getD i 0) s)).set ((0 + (i + 1)) * 1) (hiS (a.getD i 0) s) = upR a s (i + 1) := by
  have h1 := @set_mid2 (upN a s i).1 (upN a s i).2 ((upN a s i).2 + loS (a.getD i 0) s) (a.length + 1)
  rw [upN_len] at h1
  unfold upR
  rw [h1]
  have hl : (upN a s (i + 1)).1.length = i + 1 := upN_len a s (i + 1)
  have h2 := @fillI_set (upN a s (i + 1)).1 (a.length + 1) (hiS (a.getD i 0) s) (by omega)
  rw [hl] at h2
  rw [Nat.zero_add, Nat.mul_one]
  exact h2
theorem upR_end {a : List Int} {s : Nat} : upR a s a.length = upL a s := fillI_full (by simp [upN_len])
def dnD (a : List Int) (s i : Nat) : Int := a.getD i 0 / 2 ^ s + loS (a.getD (i + 1) 0) (64 - s)
def dnN (a : List Int) (s : Nat) : Nat → List Int
  | 0 => []
  | i + 1 => dnN a s i ++ [dnD a s i]
theorem dnN_len (a : List Int) (s : Nat) : ∀ i, (dnN a s i).length = i
  | 0 => rfl
  | i + 1 => by simp [dnN, dnN_len a s i]
theorem sr_bd {x : Int} {s : Nat} (h : s ≤ 64) (h0 : 0 ≤ x) (h1 : x < 18446744073709551616) : 0 ≤ x / 2 ^ s ∧ x / 2 ^ s < 2 ^ (64 - s) := by
  have := hiS_bd (x := x) (s := 64 - s) (by omega) h0 h1
  unfold hiS at this
  rwa [show 64 - (64 - s) = s by omega] at this
theorem dn_or {x y : Int} {s : Nat} (h : s ≤ 64) (h0 : 0 ≤ x) (h1 : x < 18446744073709551616) (hy : 0 ≤ y) : bitop .or .u64 (x / 2 ^ s) (loS y (64 - s)) = x / 2 ^ s + loS y (64 - s) ∧ x / 2 ^ s + loS y (64 - s) < 18446744073709551616 := by
  have hb := sr_bd h h0 h1
  exact or_lo (by omega) hb.1 hb.2 hy
theorem dnD_bd {a : List Int} {s i : Nat} (h : s ≤ 64) (ha : u64s a) : 0 ≤ dnD a s i ∧ dnD a s i < 18446744073709551616 := by
  have hx := u64s_getD ha i
  have hb := sr_bd h hx.1 hx.2
  have hl := @loS_bd (a.getD (i + 1) 0) (64 - s)
  exact ⟨by unfold dnD; omega, (dn_or h hx.1 hx.2 (u64s_getD ha (i + 1)).1).2⟩
theorem dnN_u {a : List Int} {s : Nat} (hs : s ≤ 64) (ha : u64s a) : ∀ i, u64s (dnN a s i)
  | 0 => fun x hx => by simp [dnN] at hx
  | i + 1 => u64s_app1 (dnN_u hs ha i) (dnD_bd hs ha).1 (dnD_bd hs ha).2
theorem dnD_val {a : List Int} {s i : Nat} (hs : s ≤ 64) : 2 ^ s * dnD a s i = a.getD i 0 - a.getD i 0 % 2 ^ s + 18446744073709551616 * (a.getD (i + 1) 0 % 2 ^ s) := by
  unfold dnD
  rw [loS_eq (show 64 - s ≤ 64 by omega), show 64 - (64 - s) = s by omega]
  have e := Int.emod_add_mul_ediv (a.getD i 0) (2 ^ s)
  rw [Int.mul_add, ← Int.mul_assoc, Int.mul_comm (2 ^ s) (2 ^ (64 - s)), p2split hs]
  omega
theorem dnN_val {a : List Int} {s : Nat} (hs : s ≤ 64) : ∀ i, 2 ^ s * vl (dnN a s i) = vk a i - a.getD 0 0 % 2 ^ s + pB i * (a.getD i 0 % 2 ^ s)
  | 0 => by rw [vk_0]; simp [dnN, vl, pB]; omega
  | i + 1 => by
    have h := dnN_val (a := a) hs i
    have e := dnD_val (a := a) (i := i) hs
    rw [vk_succ]
    simp only [dnN]
    rw [vl_app, dnN_len, Int.mul_add, h, Int.mul_left_comm]
    have : vl [dnD a s i] = dnD a s i := by simp [vl]
    rw [this, e, Int.mul_add, Int.mul_sub]
    simp only [pB]
    have hB : Bs = 18446744073709551616 := rfl
    rw [hB, ← Int.mul_assoc (pB i), Int.mul_comm (pB i) 18446744073709551616]
    omega
theorem low_mod {a : List Int} {s : Nat} (hs : s ≤ 64) {x : Int} (h : vl a = 2 ^ s * x) : a.getD 0 0 % 2 ^ s = 0 := by
  cases a with
  | nil => simp
  | cons y l =>
    simp only [vl] at h
    show y % 2 ^ s = 0
    have hB : Bs = 2 ^ s * 2 ^ (64 - s) := by rw [Int.mul_comm, p2split hs]; rfl
    rw [hB, Int.mul_assoc] at h
    have : y = 2 ^ s * (x - 2 ^ (64 - s) * vl l) := by rw [Int.mul_sub]; omega
    rw [this, Int.mul_emod_right]
theorem dn_end {a : List Int} {s : Nat} (hs : s ≤ 64) {x : Int} (h : vl a = 2 ^ s * x) : vl (dnN a s a.length) = x := by
  have h1 := dnN_val (a := a) hs a.length
  rw [low_mod hs h, vk_all (Nat.le_refl _), getD_ge (Nat.le_refl _), Int.zero_emod, Int.mul_zero, h] at h1
  exact Int.eq_of_mul_eq_mul_left (Int.ne_of_gt (p2pos s)) (by omega)


def rwJ (U : List Int) (j : Nat) (l : List Int) : List Int := U.take j ++ (l ++ U.drop (j + l.length))
theorem rwJ_0 {U : List Int} {j : Nat} : rwJ U j [] = U := by unfold rwJ; simp
theorem rwJ_len {U : List Int} {j : Nat} {l : List Int} (h : j + l.length ≤ U.length) : (rwJ U j l).length = U.length := by
  unfold rwJ; simp only [List.length_append, List.length_take, List.length_drop]; omega
theorem rwJ_at {U : List Int} {j k : Nat} {l : List Int} (h : l.length ≤ k) (hU : j + l.length ≤ U.length) : (rwJ U j l).getD ((j + k) * 1) 0 = U.getD (j + k) 0 := by
  unfold rwJ
  rw [Nat.mul_one, List.getD_eq_getElem?_getD, List.getElem?_append_right (by rw [List.length_take]; omega), List.length_take, Nat.min_eq_left (by omega), List.getElem?_append_right (by omega), List.getElem?_drop, List.getD_eq_getElem?_getD]
  congr 2; omega
theorem rwJ_in {U : List Int} {j k : Nat} {l : List Int} (h : k < l.length) (hU : j + l.length ≤ U.length) : (rwJ U j l).getD ((j + k) * 1) 0 = l.getD k 0 := by
  unfold rwJ
  rw [Nat.mul_one, List.getD_eq_getElem?_getD, List.getElem?_append_right (by rw [List.length_take]; omega), List.length_take, Nat.min_eq_left (by omega), List.getElem?_append_left (by omega), List.getD_eq_getElem?_getD]
  congr 2; omega
theorem rwJ_set {U : List Int} {j : Nat} {l : List Int} {v : Int} (hU : j + l.length < U.length) : (rwJ U j l).set ((j + l.length) * 1) v = rwJ U j (l ++ [v]) := by
  unfold rwJ
  rw [Nat.mul_one, List.set_append_right _ _ (by rw [List.length_take]; omega), List.length_take, Nat.min_eq_left (by omega), List.set_append_right _ _ (by omega),
    show j + l.length - j - l.length = 0 by omega, List.drop_eq_getElem_cons hU, List.set_cons_zero, List.length_append, List.length_singleton, List.append_assoc]
  rfl
theorem rwJ_two {U : List Int} {j : Nat} {l m : List Int} (h : m.length ≤ l.length) (hU : j + l.length ≤ U.length) : rwJ (rwJ U j l) j m = rwJ U j (m ++ l.drop m.length) := by
  unfold rwJ
  have hl : (U.take j).length = j := by rw [List.length_take]; omega
  rw [List.take_append_of_le_length (by omega), List.take_of_length_le (l := U.take j) (by omega), List.drop_append, hl, List.drop_of_length_le (l := U.take j) (by omega), List.nil_append,
    show j + m.length - j = m.length by omega, List.drop_append_of_le_length h]
  simp only [List.append_assoc, List.length_append, List.length_drop]
  rw [show m.length + (l.length - m.length) = l.length by omega]
def slJ (U : List Int) (j n : Nat) : List Int := (U.drop j).take n
theorem slJ_len {U : List Int} {j n : Nat} (h : j + n ≤ U.length) : (slJ U j n).length = n := by unfold slJ; rw [List.length_take, List.length_drop]; omega
theorem slJ_at {U : List Int} {j n k : Nat} (h : k < n) : (slJ U j n).getD k 0 = U.getD (j + k) 0 := by
  unfold slJ
  rw [getD_take h, List.getD_eq_getElem?_getD, List.getElem?_drop, List.getD_eq_getElem?_getD]
theorem slJ_u {U : List Int} {j n : Nat} (h : u64s U) : u64s (slJ U j n) := u64s_take (u64s_drop h _) _
theorem rwJ_u {U : List Int} {j : Nat} {l : List Int} (h : u64s U) (hl : u64s l) : u64s (rwJ U j l) := u64s_app (u64s_take h _) (u64s_app hl (u64s_drop h _))
theorem slJ_val (U : List Int) {j n : Nat} (h : j + n ≤ U.length) : vl U = vk U j + pB j * (vl (slJ U j n) + pB n * vl (U.drop (j + n))) := by
  have e1 : U = U.take j ++ ((U.drop j).take n ++ (U.drop j).drop n) := by rw [List.take_append_drop, List.take_append_drop]
  have hl1 : (U.take j).length = j := by rw [List.length_take]; omega
  have hl2 : ((U.drop j).take n).length = n := slJ_len h
  rw [List.drop_drop] at e1
  calc vl U = vl (U.take j ++ ((U.drop j).take n ++ U.drop (j + n))) := by rw [← e1]
    _ = _ := by rw [vl_app, vl_app, hl1, hl2]; rfl
theorem rwJ_val {U : List Int} {j : Nat} {l : List Int} (h : j + l.length ≤ U.length) : vl (rwJ U j l) = vk U j + pB j * (vl l + pB l.length * vl (U.drop (j + l.length))) := by
  unfold rwJ
  have hl1 : (U.take j).length = j := by rw [List.length_take]; omega
  rw [vl_app, vl_app, hl1]; rfl
def msS (u v : List Int) (q : Int) (i : Nat) (c : Int) : Int := (v.getD i 0 * q % 18446744073709551616 + c) % 18446744073709551616
def msC (v : List Int) (q : Int) (i : Nat) (c : Int) : Int := v.getD i 0 * q / 18446744073709551616 + (v.getD i 0 * q % 18446744073709551616 + c) / 18446744073709551616
def sbD (u s b : Int) : Int := if u < s + b then u - s - b + 18446744073709551616 else u - s - b
def sbB (u s b : Int) : Int := if u < s + b then 1 else 0
theorem sb_eq (u s b : Int) : sbD u s b = u - s - b + 18446744073709551616 * sbB u s b := by unfold sbD sbB; split <;> omega
theorem sbB_bd (u s b : Int) : 0 ≤ sbB u s b ∧ sbB u s b ≤ 1 := by unfold sbB; split <;> omega
theorem sbD_bd {u s b : Int} (hu0 : 0 ≤ u) (hu : u < 18446744073709551616) (hs0 : 0 ≤ s) (hs : s < 18446744073709551616) (hb0 : 0 ≤ b) (hb : b ≤ 1) : 0 ≤ sbD u s b ∧ sbD u s b < 18446744073709551616 := by unfold sbD; split <;> omega
def msN (u v : List Int) (q : Int) : Nat → List Int × Int × Int
  | 0 => ([], 0, 0)
  | i + 1 => ((msN u v q i).1 ++ [sbD (u.getD i 0) (msS u v q i (msN u v q i).2.1) (msN u v q i).2.2], msC v q i (msN u v q i).2.1, sbB (u.getD i 0) (msS u v q i (msN u v q i).2.1) (msN u v q i).2.2)
theorem msN_len (u v : List Int) (q : Int) : ∀ i, (msN u v q i).1.length = i
  | 0 => rfl
  | i + 1 => by simp [msN, msN_len u v q i]
theorem mul_lt {x y : Int} (hx0 : 0 ≤ x) (hx : x < 18446744073709551616) (hy0 : 0 ≤ y) (hy : y < 18446744073709551616) : 0 ≤ x * y ∧ x * y ≤ 340282366920938463426481119284349108225 := by
  have := mul_bd (m := 18446744073709551615) hx0 hy0 (by omega) (by omega)
  exact this
theorem msN_c {u v : List Int} {q : Int} (hv : u64s v) (hq0 : 0 ≤ q) (hq : q < 18446744073709551616) : ∀ i, 0 ≤ (msN u v q i).2.1 ∧ (msN u v q i).2.1 < 18446744073709551616
  | 0 => by simp [msN]
  | i + 1 => by
    have h := msN_c (u := u) hv hq0 hq i
    have hx := u64s_getD hv i
    have hp := mul_lt hx.1 hx.2 hq0 hq
    show 0 ≤ msC v q i (msN u v q i).2.1 ∧ msC v q i (msN u v q i).2.1 < _
    unfold msC
    generalize v.getD i 0 * q = P at hp ⊢
    generalize (msN u v q i).2.1 = c at h ⊢
    omega
theorem msN_b (u v : List Int) (q : Int) : ∀ i, 0 ≤ (msN u v q i).2.2 ∧ (msN u v q i).2.2 ≤ 1
  | 0 => by simp [msN]
  | i + 1 => sbB_bd _ _ _
theorem msN_u {u v : List Int} {q : Int} (hu : u64s u) (hv : u64s v) (hq0 : 0 ≤ q) (hq : q < 18446744073709551616) : ∀ i, u64s (msN u v q i).1
  | 0 => fun x hx => by simp [msN] at hx
  | i + 1 => by
    have hx := u64s_getD hu i
    have hb := msN_b u v q i
    have h := sbD_bd hx.1 hx.2 (s := msS u v q i (msN u v q i).2.1) (b := (msN u v q i).2.2) (by unfold msS; omega) (by unfold msS; omega) hb.1 hb.2
    exact u64s_app1 (msN_u hu hv hq0 hq i) h.1 h.2
theorem msN_val (u v : List Int) (q : Int) : ∀ i, vl (msN u v q i).1 = vk u i - q * vk v i + pB i * ((msN u v q i).2.1 + (msN u v q i).2.2)
  | 0 => by rw [vk_0, vk_0]; simp [msN, vl]
  | i + 1 => by
    have h := msN_val u v q i
    rw [vk_succ, vk_succ]
    simp only [msN]
    rw [vl_app, msN_len, h, sb_eq]
    have e1 : vl [u.getD i 0 - msS u v q i (msN u v q i).2.1 - (msN u v q i).2.2 + 18446744073709551616 * sbB (u.getD i 0) (msS u v q i (msN u v q i).2.1) (msN u v q i).2.2] = u.getD i 0 - msS u v q i (msN u v q i).2.1 - (msN u v q i).2.2 + 18446744073709551616 * sbB (u.getD i 0) (msS u v q i (msN u v q i).2.1) (msN u v q i).2.2 := by simp [vl]
    rw [e1]
    generalize sbB (u.getD i 0) (msS u v q i (msN u v q i).2.1) (msN u v q i).2.2 = b2
    have e2 : msS u v q i (msN u v q i).2.1 + 18446744073709551616 * msC v q i (msN u v q i).2.1 = v.getD i 0 * q + (msN u v q i).2.1 := by
      unfold msS msC
      generalize v.getD i 0 * q = P
      generalize (msN u v q i).2.1 = c
      omega
    generalize hs : msS u v q i (msN u v q i).2.1 = s at e2 ⊢
    generalize hc : msC v q i (msN u v q i).2.1 = c2 at e2 ⊢
    generalize (msN u v q i).2.1 = c at e2 ⊢
    generalize (msN u v q i).2.2 = b
    obtain rfl : s = v.getD i 0 * q + c - 18446744073709551616 * c2 := by omega
    simp only [pB]
    have hB : Bs = 18446744073709551616 := rfl
    rw [hB]
    generalize u.getD i 0 = x
    generalize v.getD i 0 = y
    have e3 : q * (vk v i + pB i * y) = q * vk v i + pB i * (y * q) := by rw [Int.mul_add, Int.mul_left_comm, Int.mul_comm q y]
    rw [e3]
    generalize pB i = p
    generalize y * q = z
    generalize q * vk v i = t
    have e4 : p * (x - (z + c - 18446744073709551616 * c2) - b + 18446744073709551616 * b2) = p * x - p * z - p * c - p * b + 18446744073709551616 * (p * (c2 + b2)) := by
      simp only [Int.mul_add, Int.mul_sub, Int.mul_left_comm p 18446744073709551616]
      omega
    rw [e4, Int.mul_add p c b, Int.mul_assoc]
    generalize p * (c2 + b2) = w
    generalize p * x = g1
    generalize p * z = g2
    generalize p * c = g3
    generalize p * b = g4
    omega
def msL (u v : List Int) (q : Int) : List Int := (msN u v q v.length).1 ++ [sbD (u.getD v.length 0) (msN u v q v.length).2.1 (msN u v q v.length).2.2]
def msB (u v : List Int) (q : Int) : Int := sbB (u.getD v.length 0) (msN u v q v.length).2.1 (msN u v q v.length).2.2
theorem msL_len (u v : List Int) (q : Int) : (msL u v q).length = v.length + 1 := by simp [msL, msN_len]
theorem msL_u {u v : List Int} {q : Int} (hu : u64s u) (hv : u64s v) (hq0 : 0 ≤ q) (hq : q < 18446744073709551616) : u64s (msL u v q) := by
  have hc := msN_c (u := u) hv hq0 hq v.length
  have hb := msN_b u v q v.length
  have hx := u64s_getD hu v.length
  have h := sbD_bd hx.1 hx.2 hc.1 hc.2 hb.1 hb.2
  exact u64s_app1 (msN_u hu hv hq0 hq _) h.1 h.2
theorem msL_val {u v : List Int} {q : Int} (hl : u.length = v.length + 1) : vl (msL u v q) = vl u - q * vl v + pB (v.length + 1) * msB u v q := by
  unfold msL msB
  have h := msN_val u v q v.length
  have hu : vl u = vk u v.length + pB v.length * u.getD v.length 0 := by rw [← vk_succ, vk_all (by omega)]
  rw [vl_app, msN_len, h, sb_eq, hu, vk_all (Nat.le_refl v.length)]
  generalize sbB (u.getD v.length 0) (msN u v q v.length).2.1 (msN u v q v.length).2.2 = b2
  generalize (msN u v q v.length).2.1 = c
  generalize (msN u v q v.length).2.2 = b
  generalize u.getD v.length 0 = x
  have e1 : vl [x - c - b + 18446744073709551616 * b2] = x - c - b + 18446744073709551616 * b2 := by simp [vl]
  rw [e1]
  simp only [pB]
  have hB : Bs = 18446744073709551616 := rfl
  rw [hB]
  generalize pB v.length = p
  have e4 : p * (x - c - b + 18446744073709551616 * b2) = p * x - p * c - p * b + 18446744073709551616 * (p * b2) := by
    simp only [Int.mul_add, Int.mul_sub, Int.mul_left_comm p 18446744073709551616]
  rw [e4, Int.mul_add, Int.mul_assoc]
  generalize p * b2 = w
  generalize p * x = g1
  generalize p * c = g3
  generalize p * b = g4
  omega
def bkL (l v : List Int) : List Int := (adN l v v.length).1 ++ [(l.getD v.length 0 + (adN l v v.length).2) % 18446744073709551616]
theorem bkL_len (l v : List Int) : (bkL l v).length = v.length + 1 := by simp [bkL, adN_len]
theorem bkL_u {l v : List Int} : u64s (bkL l v) := u64s_app1 (adN_u _) (by omega) (by omega)
theorem bkL_val {l v : List Int} (hl : l.length = v.length + 1) : ∃ e, vl (bkL l v) = vl l + vl v - pB (v.length + 1) * e := by
  refine ⟨(l.getD v.length 0 + (adN l v v.length).2) / 18446744073709551616, ?_⟩
  unfold bkL
  have h := adN_val l v v.length
  have hu : vl l = vk l v.length + pB v.length * l.getD v.length 0 := by rw [← vk_succ, vk_all (by omega)]
  rw [vk_all (Nat.le_refl v.length)] at h
  rw [vl_app, adN_len, hu]
  generalize l.getD v.length 0 = x
  generalize (adN l v v.length).2 = c at h ⊢
  have e1 : vl [(x + c) % 18446744073709551616] = x + c - 18446744073709551616 * ((x + c) / 18446744073709551616) := by simp only [vl]; omega
  rw [e1]
  simp only [pB]
  have hB : Bs = 18446744073709551616 := rfl
  rw [hB]
  generalize (x + c) / 18446744073709551616 = e
  generalize pB v.length = p at h ⊢
  have e4 : p * (x + c - 18446744073709551616 * e) = p * x + p * c - 18446744073709551616 * (p * e) := by
    simp only [Int.mul_add, Int.mul_sub, Int.mul_left_comm p 18446744073709551616]
  rw [e4, Int.mul_assoc]
  generalize p * e = w
  omega
def gsQ (u v : List Int) (q : Int) : Int := q - msB u v q
def gsL (u v : List Int) (q : Int) : List Int := if msB u v q = 0 then msL u v q else bkL (msL u v q) v
theorem gs_end {u v : List Int} {q : Int} (hu : u64s u) (hv : u64s v) (hl : u.length = v.length + 1) (hv0 : 0 < vl v) (hq0 : 0 ≤ q) (hq : q < 18446744073709551616)
    (h1 : vl u / vl v ≤ q) (h2 : q ≤ vl u / vl v + 1) :
    gsQ u v q = vl u / vl v ∧ (gsL u v q).length = v.length + 1 ∧ u64s (gsL u v q) ∧ vl (gsL u v q) = vl u % vl v := by
  have hm := msL_val (u := u) (v := v) (q := q) hl
  have um := msL_u (u := u) (v := v) (q := q) hu hv hq0 hq
  have b0 := vl_nonneg um
  have b1 := vl_lt um
  rw [msL_len] at b1
  have hbb := sbB_bd (u.getD v.length 0) (msN u v q v.length).2.1 (msN u v q v.length).2.2
  have ed := Int.emod_add_mul_ediv (vl u) (vl v)
  have r0 := Int.emod_nonneg (vl u) (Int.ne_of_gt hv0)
  have r1 := Int.emod_lt_of_pos (vl u) hv0
  have up := vl_nonneg hu
  have ul := vl_lt hu
  have vu := vl_nonneg hv
  have vlt := vl_lt hv
  have hpm := pB_mono (show v.length ≤ v.length + 1 by omega)
  rw [hl] at ul
  unfold gsQ gsL
  by_cases hb : msB u v q = 0
  · rw [if_pos hb, hb]
    rw [hb, Int.mul_zero] at hm
    have hq1 : q = vl u / vl v := by
      rcases Int.lt_or_le (vl u / vl v) q with hlt | hle
      · exfalso
        have hq2 : q = vl u / vl v + 1 := by omega
        have hqv : q * vl v = vl v * (vl u / vl v) + vl v := by rw [hq2, Int.add_mul, Int.one_mul, Int.mul_comm (vl u / vl v)]
        omega
      · omega
    have hqv : q * vl v = vl v * (vl u / vl v) := by rw [← hq1, Int.mul_comm]
    exact ⟨by omega, msL_len _ _ _, um, by omega⟩
  · have hb1 : msB u v q = 1 := by unfold msB at hb ⊢; omega
    rw [if_neg hb, hb1]
    rw [hb1, Int.mul_one] at hm
    have hq1 : q = vl u / vl v + 1 := by
      rcases Int.lt_or_le (vl u / vl v) q with hlt | hle
      · omega
      · exfalso
        have hq2 : q = vl u / vl v := by omega
        have hqv : q * vl v = vl v * (vl u / vl v) := by rw [hq2, Int.mul_comm]
        omega
    obtain ⟨e, he⟩ := bkL_val (l := msL u v q) (v := v) (msL_len _ _ _)
    have ub : u64s (bkL (msL u v q) v) := bkL_u
    have c0 := vl_nonneg ub
    have c1 := vl_lt ub
    rw [bkL_len] at c1
    have hqv : q * vl v = vl v * (vl u / vl v) + vl v := by rw [hq1, Int.add_mul, Int.one_mul, Int.mul_comm (vl u / vl v)]
    have he1 : e = 1 := by
      have hpp := pB_pos (v.length + 1)
      rcases Int.lt_trichotomy e 1 with h | h | h
      · exfalso
        have : pB (v.length + 1) * e ≤ pB (v.length + 1) * 0 := Int.mul_le_mul_of_nonneg_left (by omega) (by omega)
        omega
      · exact h
      · exfalso
        have : pB (v.length + 1) * 2 ≤ pB (v.length + 1) * e := Int.mul_le_mul_of_nonneg_left (by omega) (by omega)
        omega
    rw [he1, Int.mul_one] at he
    exact ⟨by omega, bkL_len _ _, ub, by omega⟩


theorem est_first {P V U q r v1 v2 u0 u1 u2 lv lu : Int} (hP : 0 < P) (hV : V = lv + P * (v2 + 18446744073709551616 * v1)) (hU : U = lu + P * (u2 + 18446744073709551616 * u1 + 340282366920938463463374607431768211456 * u0))
    (h1 : 0 ≤ lv) (h2 : lu < P) (h3 : 0 ≤ v2) (h4 : u2 < 18446744073709551616) (hq : 0 ≤ q) (he : q * v1 + r = u0 * 18446744073709551616 + u1) (hr : r < v1) : U < (q + 1) * V := by
  have f1 : 0 ≤ P * (q * v1 + v1 - u0 * 18446744073709551616 - u1 - 1) := Int.mul_nonneg (by omega) (by omega)
  have f4 : 0 ≤ P * v2 := Int.mul_nonneg (by omega) h3
  have f2 : 0 ≤ (q + 1) * (V - P * (18446744073709551616 * v1)) := Int.mul_nonneg (by omega) (by rw [hV, Int.mul_add]; omega)
  have f3 : 0 ≤ P * (18446744073709551615 - u2) := Int.mul_nonneg (by omega) (by omega)
  have e1 : P * (q * v1 + v1 - u0 * 18446744073709551616 - u1 - 1) = P * (q * v1) + P * v1 - 18446744073709551616 * (P * u0) - P * u1 - P := by
    rw [Int.mul_comm u0]; simp only [Int.mul_add, Int.mul_sub, Int.mul_left_comm P 18446744073709551616, Int.mul_one]
  have e2 : (q + 1) * (V - P * (18446744073709551616 * v1)) = q * V + V - 18446744073709551616 * (P * (q * v1)) - 18446744073709551616 * (P * v1) := by
    rw [Int.mul_left_comm P 18446744073709551616, Int.mul_sub, Int.add_mul, Int.add_mul, Int.mul_left_comm q 18446744073709551616, Int.mul_left_comm q P]; omega
  have e3 : P * (18446744073709551615 - u2) = 18446744073709551615 * P - P * u2 := by rw [Int.mul_sub, Int.mul_comm P]
  have e4 : P * (u2 + 18446744073709551616 * u1 + 340282366920938463463374607431768211456 * u0) = P * u2 + 18446744073709551616 * (P * u1) + 340282366920938463463374607431768211456 * (P * u0) := by
    simp only [Int.mul_add, Int.mul_left_comm P 18446744073709551616, Int.mul_left_comm P 340282366920938463463374607431768211456]
  rw [e1] at f1; rw [e2] at f2; rw [e3] at f3; rw [e4] at hU
  rw [Int.add_mul, Int.one_mul]
  omega
theorem est_step {P V U q r v1 v2 u0 u1 u2 lv lu : Int} (hP : 0 < P) (hV : V = lv + P * (v2 + 18446744073709551616 * v1)) (hU : U = lu + P * (u2 + 18446744073709551616 * u1 + 340282366920938463463374607431768211456 * u0))
    (h1 : 0 ≤ lv) (h2 : lu < P) (hq : 0 ≤ q) (he : q * v1 + r = u0 * 18446744073709551616 + u1) (hc : r * 18446744073709551616 + u2 < q * v2) : U < q * V := by
  have f1 : 0 ≤ P * (q * v2 - r * 18446744073709551616 - u2 - 1) := Int.mul_nonneg (by omega) (by omega)
  have f2 : 0 ≤ q * lv := Int.mul_nonneg hq h1
  have f3 : P * (q * v1 + r) = P * (u0 * 18446744073709551616 + u1) := by rw [he]
  have e1 : P * (q * v2 - r * 18446744073709551616 - u2 - 1) = P * (q * v2) - 18446744073709551616 * (P * r) - P * u2 - P := by
    rw [Int.mul_comm r]; simp only [Int.mul_add, Int.mul_sub, Int.mul_left_comm P 18446744073709551616, Int.mul_one]
  have e3 : P * (u0 * 18446744073709551616 + u1) = 18446744073709551616 * (P * u0) + P * u1 := by rw [Int.mul_comm u0, Int.mul_add, Int.mul_left_comm P]
  have e4 : P * (u2 + 18446744073709551616 * u1 + 340282366920938463463374607431768211456 * u0) = P * u2 + 18446744073709551616 * (P * u1) + 340282366920938463463374607431768211456 * (P * u0) := by
    simp only [Int.mul_add, Int.mul_left_comm P 18446744073709551616, Int.mul_left_comm P 340282366920938463463374607431768211456]
  have e5 : q * V = q * lv + P * (q * v2) + 18446744073709551616 * (P * (q * v1)) := by
    rw [hV, Int.mul_add, Int.mul_add P, Int.mul_add q, Int.mul_left_comm q P, Int.mul_left_comm P 18446744073709551616, Int.mul_left_comm q 18446744073709551616, Int.mul_left_comm q P v1]; omega
  rw [e1] at f1; rw [Int.mul_add, e3] at f3; rw [e4] at hU; rw [e5]
  omega
theorem est_last {P V U q r v1 v2 u0 u1 u2 lv lu : Int} (hP : 0 < P) (hV : V = lv + P * (v2 + 18446744073709551616 * v1)) (hU : U = lu + P * (u2 + 18446744073709551616 * u1 + 340282366920938463463374607431768211456 * u0))
    (h1 : 0 ≤ lv) (h2 : lv < P) (h3 : 0 ≤ lu) (h4 : 0 ≤ v2) (hv : 1 ≤ v1) (hq : 0 ≤ q) (hq1 : q < 18446744073709551616) (he : q * v1 + r = u0 * 18446744073709551616 + u1) (hc : q * v2 ≤ r * 18446744073709551616 + u2) : (q - 1) * V ≤ U := by
  have f1 : 0 ≤ P * (r * 18446744073709551616 + u2 - q * v2) := Int.mul_nonneg (by omega) (by omega)
  have f2 : q * lv ≤ 18446744073709551615 * P := Int.mul_le_mul (by omega) (by omega) h1 (by omega)
  have f3 : P * (q * v1 + r) = P * (u0 * 18446744073709551616 + u1) := by rw [he]
  have f4 : 0 ≤ P * (v1 - 1) := Int.mul_nonneg (by omega) (by omega)
  have f5 : 0 ≤ P * v2 := Int.mul_nonneg (by omega) h4
  have e1 : P * (r * 18446744073709551616 + u2 - q * v2) = 18446744073709551616 * (P * r) + P * u2 - P * (q * v2) := by
    rw [Int.mul_comm r]; simp only [Int.mul_add, Int.mul_sub, Int.mul_left_comm P 18446744073709551616]
  have e3 : P * (u0 * 18446744073709551616 + u1) = 18446744073709551616 * (P * u0) + P * u1 := by rw [Int.mul_comm u0, Int.mul_add, Int.mul_left_comm P]
  have e4 : P * (u2 + 18446744073709551616 * u1 + 340282366920938463463374607431768211456 * u0) = P * u2 + 18446744073709551616 * (P * u1) + 340282366920938463463374607431768211456 * (P * u0) := by
    simp only [Int.mul_add, Int.mul_left_comm P 18446744073709551616, Int.mul_left_comm P 340282366920938463463374607431768211456]
  have e5 : q * V = q * lv + P * (q * v2) + 18446744073709551616 * (P * (q * v1)) := by
    rw [hV, Int.mul_add, Int.mul_add P, Int.mul_add q, Int.mul_left_comm q P, Int.mul_left_comm P 18446744073709551616, Int.mul_left_comm q 18446744073709551616, Int.mul_left_comm q P v1]; omega
  have e6 : P * (v2 + 18446744073709551616 * v1) = P * v2 + 18446744073709551616 * (P * v1) := by rw [Int.mul_add, Int.mul_left_comm P]
  rw [e1] at f1; rw [Int.mul_add, e3] at f3; rw [e4] at hU; rw [Int.mul_sub, Int.mul_one] at f4
  rw [Int.sub_mul, Int.one_mul, e5]
  rw [e6] at hV
  omega
theorem est_top {P V U v1 v2 u0 u1 u2 lv lu : Int} (hP : 0 < P) (hV : V = lv + P * (v2 + 18446744073709551616 * v1)) (hU : U = lu + P * (u2 + 18446744073709551616 * u1 + 340282366920938463463374607431768211456 * u0))
    (h2 : lv < P) (h3 : 0 ≤ lu) (h4 : 0 ≤ u2) (h5 : 0 ≤ u1) (h6 : v2 < 18446744073709551616) (hlt : U < V * 18446744073709551616) : u0 ≤ v1 := by
  rcases Int.lt_or_le v1 u0 with h | h
  · exfalso
    have f1 : 0 ≤ P * (u0 - v1 - 1) := Int.mul_nonneg (by omega) (by omega)
    have f2 : 0 ≤ P * u2 := Int.mul_nonneg (by omega) h4
    have f3 : 0 ≤ P * u1 := Int.mul_nonneg (by omega) h5
    have f4 : 0 ≤ P * (18446744073709551615 - v2) := Int.mul_nonneg (by omega) (by omega)
    have e4 : P * (u2 + 18446744073709551616 * u1 + 340282366920938463463374607431768211456 * u0) = P * u2 + 18446744073709551616 * (P * u1) + 340282366920938463463374607431768211456 * (P * u0) := by
      simp only [Int.mul_add, Int.mul_left_comm P 18446744073709551616, Int.mul_left_comm P 340282366920938463463374607431768211456]
    have e6 : P * (v2 + 18446744073709551616 * v1) = P * v2 + 18446744073709551616 * (P * v1) := by rw [Int.mul_add, Int.mul_left_comm P]
    rw [e4] at hU; rw [e6] at hV
    simp only [Int.mul_sub, Int.mul_one] at f1 f4
    rw [Int.mul_comm P] at f4
    omega
  · exact h
theorem two_top {v : List Int} {n : Nat} (hn : v.length = n + 2) : vl v = vk v n + pB n * (v.getD n 0 + 18446744073709551616 * v.getD (n + 1) 0) := by
  have h1 : vl v = vk v (n + 2) := (vk_all (by omega)).symm
  rw [h1, vk_succ, vk_succ]
  simp only [pB]
  have hB : Bs = 18446744073709551616 := rfl
  rw [hB, Int.mul_add, Int.mul_left_comm (pB n) 18446744073709551616, ← Int.mul_assoc 18446744073709551616]
  omega
theorem three_top {u : List Int} {n : Nat} (hn : u.length = n + 3) : vl u = vk u n + pB n * (u.getD n 0 + 18446744073709551616 * u.getD (n + 1) 0 + 340282366920938463463374607431768211456 * u.getD (n + 2) 0) := by
  have h1 : vl u = vk u (n + 3) := (vk_all (by omega)).symm
  rw [h1, vk_succ, vk_succ, vk_succ]
  simp only [pB]
  have hB : Bs = 18446744073709551616 := rfl
  rw [hB, Int.mul_add, Int.mul_add, Int.mul_left_comm (pB n) 18446744073709551616, Int.mul_left_comm (pB n) 340282366920938463463374607431768211456]
  simp only [Int.mul_assoc]
  omega
theorem vk_bd {v : List Int} (hv : u64s v) {n : Nat} (h : n ≤ v.length) : 0 ≤ vk v n ∧ vk v n < pB n := by
  refine ⟨vk_nonneg hv n, ?_⟩
  have := vl_lt (u64s_take hv n)
  rwa [List.length_take, Nat.min_eq_left h] at this
def Est (u v : List Int) (n : Nat) (q r : Int) : Prop :=
  q * v.getD (n + 1) 0 + r = u.getD (n + 2) 0 * 18446744073709551616 + u.getD (n + 1) 0 ∧ vl u / vl v ≤ q ∧ 0 ≤ q ∧ q < 18446744073709551616 ∧ 0 ≤ r
structure GuP (u v : List Int) (n : Nat) : Prop where
  uu : u64s u
  uv : u64s v
  lu : u.length = n + 3
  lv : v.length = n + 2
  lt : vl u < vl v * 18446744073709551616
  top : 1 ≤ v.getD (n + 1) 0
theorem GuP.pos {u v : List Int} {n : Nat} (h : GuP u v n) : 0 < vl v := by
  have h1 := two_top h.lv
  have b := vk_bd h.uv (n := n) (by rw [h.lv]; omega)
  have x := u64s_getD h.uv n
  have hp := pB_pos n
  have t := h.top
  have : 0 < pB n * (v.getD n 0 + 18446744073709551616 * v.getD (n + 1) 0) := Int.mul_pos hp (by omega)
  omega
theorem GuP.q_lt {u v : List Int} {n : Nat} (h : GuP u v n) : vl u / vl v < 18446744073709551616 := Int.ediv_lt_of_lt_mul h.pos (by rw [Int.mul_comm]; exact h.lt)
theorem GuP.q_nn {u v : List Int} {n : Nat} (h : GuP u v n) : 0 ≤ vl u / vl v := Int.ediv_nonneg (vl_nonneg h.uu) (Int.le_of_lt h.pos)
theorem GuP.u_top {u v : List Int} {n : Nat} (h : GuP u v n) : u.getD (n + 2) 0 ≤ v.getD (n + 1) 0 := by
  have bv := vk_bd h.uv (n := n) (by rw [h.lv]; omega)
  have bu := vk_bd h.uu (n := n) (by rw [h.lu]; omega)
  exact est_top (pB_pos n) (two_top h.lv) (three_top h.lu) bv.2 bu.1 (u64s_getD h.uu n).1 (u64s_getD h.uu (n + 1)).1 (u64s_getD h.uv n).2 h.lt
theorem GuP.first_eq {u v : List Int} {n : Nat} (h : GuP u v n) (hc : v.getD (n + 1) 0 ≤ u.getD (n + 2) 0) : Est u v n 18446744073709551615 (u.getD (n + 1) 0 + v.getD (n + 1) 0) := by
  have t := h.u_top
  have := h.q_lt
  have x := u64s_getD h.uu (n + 1)
  have y := u64s_getD h.uv (n + 1)
  exact ⟨by omega, by omega, by omega, by omega, by omega⟩
theorem GuP.first_div {u v : List Int} {n : Nat} (h : GuP u v n) (hc : u.getD (n + 2) 0 < v.getD (n + 1) 0) :
    Est u v n ((u.getD (n + 2) 0 * 18446744073709551616 + u.getD (n + 1) 0) / v.getD (n + 1) 0) ((u.getD (n + 2) 0 * 18446744073709551616 + u.getD (n + 1) 0) % v.getD (n + 1) 0) := by
  have bv := vk_bd h.uv (n := n) (by rw [h.lv]; omega)
  have bu := vk_bd h.uu (n := n) (by rw [h.lu]; omega)
  have x := u64s_getD h.uu (n + 1)
  have x2 := u64s_getD h.uu (n + 2)
  have t := h.top
  have e := Int.emod_add_mul_ediv (u.getD (n + 2) 0 * 18446744073709551616 + u.getD (n + 1) 0) (v.getD (n + 1) 0)
  have r1 := Int.emod_lt_of_pos (u.getD (n + 2) 0 * 18446744073709551616 + u.getD (n + 1) 0) (show 0 < v.getD (n + 1) 0 by omega)
  have r0 := Int.emod_nonneg (u.getD (n + 2) 0 * 18446744073709551616 + u.getD (n + 1) 0) (show v.getD (n + 1) 0 ≠ 0 by omega)
  have q0 : 0 ≤ (u.getD (n + 2) 0 * 18446744073709551616 + u.getD (n + 1) 0) / v.getD (n + 1) 0 := Int.ediv_nonneg (by omega) (by omega)
  have q1 : (u.getD (n + 2) 0 * 18446744073709551616 + u.getD (n + 1) 0) / v.getD (n + 1) 0 < 18446744073709551616 := Int.ediv_lt_of_lt_mul (by omega) (by omega)
  generalize (u.getD (n + 2) 0 * 18446744073709551616 + u.getD (n + 1) 0) / v.getD (n + 1) 0 = q at *
  generalize hr : (u.getD (n + 2) 0 * 18446744073709551616 + u.getD (n + 1) 0) % v.getD (n + 1) 0 = r at *
  rw [Int.mul_comm] at e
  have hh := est_first (pB_pos n) (two_top h.lv) (three_top h.lu) bv.1 bu.2 (u64s_getD h.uv n).1 (u64s_getD h.uu n).2 q0 (by omega) r1
  refine ⟨by omega, ?_, q0, q1, r0⟩
  exact Int.le_of_lt_add_one (Int.ediv_lt_of_lt_mul h.pos hh)
theorem GuP.next {u v : List Int} {n : Nat} {q r : Int} (h : GuP u v n) (he : Est u v n q r) (hc : r * 18446744073709551616 + u.getD n 0 < q * v.getD n 0) : Est u v n (q - 1) (r + v.getD (n + 1) 0) ∧ 1 ≤ q := by
  obtain ⟨e1, e2, e3, e4, e5⟩ := he
  have bv := vk_bd h.uv (n := n) (by rw [h.lv]; omega)
  have bu := vk_bd h.uu (n := n) (by rw [h.lu]; omega)
  have y := u64s_getD h.uv (n + 1)
  have hh := est_step (pB_pos n) (two_top h.lv) (three_top h.lu) bv.1 bu.2 e3 e1 hc
  have := Int.ediv_lt_of_lt_mul h.pos hh
  have := h.q_nn
  refine ⟨⟨by rw [Int.sub_mul]; omega, by omega, by omega, by omega, by omega⟩, by omega⟩
theorem GuP.last {u v : List Int} {n : Nat} {q r : Int} (h : GuP u v n) (he : Est u v n q r) (hc : q * v.getD n 0 ≤ r * 18446744073709551616 + u.getD n 0) : q ≤ vl u / vl v + 1 := by
  obtain ⟨e1, e2, e3, e4, e5⟩ := he
  have bv := vk_bd h.uv (n := n) (by rw [h.lv]; omega)
  have bu := vk_bd h.uu (n := n) (by rw [h.lu]; omega)
  have hh := est_last (pB_pos n) (two_top h.lv) (three_top h.lu) bv.1 bv.2 bu.1 (u64s_getD h.uv n).1 h.top e3 e4 e1 hc
  have := (Int.le_ediv_iff_mul_le h.pos).2 hh
  omega
theorem GuP.over {u v : List Int} {n : Nat} {q r : Int} (h : GuP u v n) (he : Est u v n q r) (hc : 18446744073709551616 ≤ r) : q ≤ vl u / vl v + 1 := by
  refine h.last he ?_
  obtain ⟨e1, e2, e3, e4, e5⟩ := he
  have x := u64s_getD h.uv n
  have y := u64s_getD h.uu n
  have := mul_lt e3 e4 x.1 x.2
  omega
theorem GuP.fin {u v : List Int} {n : Nat} {q r : Int} (h : GuP u v n) (he : Est u v n q r) (hc : q ≤ vl u / vl v + 1) : gsQ u v q = vl u / vl v ∧ (gsL u v q).length = n + 3 ∧ u64s (gsL u v q) ∧ vl (gsL u v q) = vl u % vl v := by
  obtain ⟨e1, e2, e3, e4, e5⟩ := he
  have := gs_end h.uu h.uv (by rw [h.lu, h.lv]) h.pos e3 e4 e2 hc
  rw [h.lv] at this
  exact this
def Hf (N y u q r : Int) : Prop := q * (y / 4294967296) + r = u ∧ N / y ≤ q ∧ q ≤ 4294967297 ∧ 0 ≤ r
structure HfP (N y u w : Int) : Prop where
  en : N = u * 4294967296 + w
  w0 : 0 ≤ w
  w1 : w < 4294967296
  u0 : 0 ≤ u
  lt : u < y
  y0 : 9223372036854775808 ≤ y
  y1 : y < 18446744073709551616
theorem HfP.q_lt {N y u w : Int} (h : HfP N y u w) : N / y < 4294967296 := Int.ediv_lt_of_lt_mul (by have := h.y0; omega) (by have := h.en; have := h.lt; have := h.w1; omega)
theorem HfP.q_nn {N y u w : Int} (h : HfP N y u w) : 0 ≤ N / y := Int.ediv_nonneg (by have := h.en; have := h.w0; have := h.u0; omega) (by have := h.y0; omega)
theorem HfP.first {N y u w : Int} (h : HfP N y u w) : Hf N y u (u / (y / 4294967296)) (u - u / (y / 4294967296) * (y / 4294967296)) ∧ 0 ≤ u / (y / 4294967296) ∧ u - u / (y / 4294967296) * (y / 4294967296) < 4294967296 := by
  obtain ⟨he, w0, w1, u0, hlt, y0, y1⟩ := h
  unfold Hf
  have hy : y = y / 4294967296 * 4294967296 + y % 4294967296 := by omega
  have hb : 0 ≤ y % 4294967296 ∧ y % 4294967296 < 4294967296 := by omega
  have ha : 2147483648 ≤ y / 4294967296 ∧ y / 4294967296 < 4294967296 := by omega
  generalize y / 4294967296 = a at *
  generalize y % 4294967296 = b at *
  have e := Int.emod_add_mul_ediv u a
  have r1 := Int.emod_lt_of_pos u (show 0 < a by omega)
  have r0 := Int.emod_nonneg u (show a ≠ 0 by omega)
  have q0 : 0 ≤ u / a := Int.ediv_nonneg u0 (by omega)
  generalize u / a = q at *
  generalize u % a = r at *
  rw [Int.mul_comm] at e
  refine ⟨⟨by omega, ?_, ?_, by omega⟩, q0, by omega⟩
  · refine Int.le_of_lt_add_one (Int.ediv_lt_of_lt_mul (by omega) ?_)
    have f1 : (q + 1) * y = 4294967296 * (q * a) + 4294967296 * a + (q + 1) * b := by
      rw [hy, Int.mul_add, Int.add_mul q 1 (a * 4294967296), ← Int.mul_assoc]; omega
    have f2 : 0 ≤ (q + 1) * b := Int.mul_nonneg (by omega) hb.1
    omega
  · rcases Int.lt_or_le 4294967297 q with h | h
    · exfalso
      have f : 4294967298 * a ≤ q * a := Int.mul_le_mul_of_nonneg_right (by omega) (by omega)
      omega
    · exact h
theorem HfP.next {N y u w q r : Int} (h : HfP N y u w) (hf : Hf N y u q r) (hc : 4294967296 ≤ q ∨ 4294967296 * r + w < q * (y % 4294967296)) : Hf N y u (q - 1) (r + y / 4294967296) ∧ 1 ≤ q ∧ q - 1 ≤ 4294967296 := by
  obtain ⟨e1, e2, e3, e4⟩ := hf
  have hq := h.q_lt
  have hn := h.q_nn
  obtain ⟨he, w0, w1, u0, hlt, y0, y1⟩ := h
  have hlt2 : N / y < q := by
    rcases hc with hc | hc
    · omega
    · refine Int.ediv_lt_of_lt_mul (by omega) ?_
      have hy : q * y = q * (y / 4294967296 * 4294967296 + y % 4294967296) := by congr 1; omega
      rw [hy, Int.mul_add, ← Int.mul_assoc]
      omega
  exact ⟨⟨by rw [Int.sub_mul]; omega, by omega, by omega, by omega⟩, by omega, by omega⟩
theorem HfP.last {N y u w q r : Int} (h : HfP N y u w) (hf : Hf N y u q r) (hc : q * (y % 4294967296) ≤ 4294967296 * r + w) : q = N / y := by
  obtain ⟨e1, e2, e3, e4⟩ := hf
  obtain ⟨he, w0, w1, u0, hlt, y0, y1⟩ := h
  have : q ≤ N / y := by
    refine (Int.le_ediv_iff_mul_le (by omega)).2 ?_
    have hy : q * y = q * (y / 4294967296 * 4294967296 + y % 4294967296) := by congr 1; omega
    rw [hy, Int.mul_add, ← Int.mul_assoc]
    omega
  omega
theorem HfP.over {N y u w q r : Int} (h : HfP N y u w) (hf : Hf N y u q r) (hq : 0 ≤ q) (hq1 : q ≤ 4294967296) (hc : 4294967296 ≤ r) : q = N / y := by
  refine h.last hf ?_
  obtain ⟨he, w0, w1, u0, hlt, y0, y1⟩ := h
  have f : q * (y % 4294967296) ≤ 4294967296 * 4294967295 := Int.mul_le_mul hq1 (by omega) (by omega) (by omega)
  omega
theorem HfP.rest {N y u w : Int} (h : HfP N y u w) : IntKind.u64.wrap (IntKind.u64.wrap (IntKind.u64.wrap (u * 4294967296) + w) - IntKind.u64.wrap (N / y * y)) = N % y := by
  have e := Int.emod_add_mul_ediv N y
  have r1 := Int.emod_lt_of_pos N (show 0 < y by have := h.y0; omega)
  have r0 := Int.emod_nonneg N (show y ≠ 0 by have := h.y0; omega)
  have := h.y1
  have := h.en
  simp only [u64_wrap_mod]
  rw [Int.mul_comm] at e
  generalize N / y * y = z at *
  generalize N % y = r at *
  omega
theorem HfP.rest_lt {N y u w : Int} (h : HfP N y u w) : 0 ≤ N % y ∧ N % y < y :=
  ⟨Int.emod_nonneg N (by have := h.y0; omega), Int.emod_lt_of_pos N (by have := h.y0; omega)⟩
theorem or_comm' {k : IntKind} {x y : Int} : bitop .or k x y = bitop .or k y x := by
  unfold bitop; simp only [BitVec.or_comm]
theorem div_both {hi lo y : Int} {s : Nat} (hs : s < 64) (h0 : 0 ≤ hi) (hlt : hi < y) (l0 : 0 ≤ lo) (l1 : lo < 18446744073709551616)
    (y0 : 9223372036854775808 ≤ y * 2 ^ s) (y1 : y * 2 ^ s < 18446744073709551616) :
    let Y := y * 2 ^ s
    let U := hi * 2 ^ s + hiS lo s
    let w1 := loS lo s / 4294967296
    let w0 := loS lo s % 4294967296
    let N1 := U * 4294967296 + w1
    let N2 := N1 % Y * 4294967296 + w0
    HfP N1 Y U w1 ∧ HfP N2 Y (N1 % Y) w0 ∧ N1 / Y * 4294967296 + N2 / Y = (hi * 18446744073709551616 + lo) / y ∧ N2 % Y / 2 ^ s = (hi * 18446744073709551616 + lo) % y := by
  intro Y U w1 w0 N1 N2
  have hb := hiS_bd (s := s) (Nat.le_of_lt hs) l0 l1
  have lb := @loS_bd lo s
  have hp := p2pos s
  have hU0 : 0 ≤ U := by
    have : 0 ≤ hi * 2 ^ s := Int.mul_nonneg h0 (by omega)
    show 0 ≤ hi * 2 ^ s + hiS lo s
    omega
  have hU1 : U < Y := by
    have h1 : (hi + 1) * 2 ^ s ≤ y * 2 ^ s := Int.mul_le_mul_of_nonneg_right (by omega) (by omega)
    rw [Int.add_mul, Int.one_mul] at h1
    show hi * 2 ^ s + hiS lo s < y * 2 ^ s
    omega
  have hP1 : HfP N1 Y U w1 := ⟨rfl, by show 0 ≤ loS lo s / 4294967296; omega, by show loS lo s / 4294967296 < 4294967296; omega, hU0, hU1, y0, y1⟩
  have hr := hP1.rest_lt
  have hP2 : HfP N2 Y (N1 % Y) w0 := ⟨rfl, by show 0 ≤ loS lo s % 4294967296; omega, by show loS lo s % 4294967296 < 4294967296; omega, hr.1, hr.2, y0, y1⟩
  refine ⟨hP1, hP2, ?_⟩
  have hr2 := hP2.rest_lt
  have e1 := Int.emod_add_mul_ediv N1 Y
  have e2 := Int.emod_add_mul_ediv N2 Y
  -- the whole: (hi B + lo) 2^s = Y (Q1 2^32 + Q0) + R0
  have eA : (hi * 18446744073709551616 + lo) * 2 ^ s = U * 18446744073709551616 + loS lo s := by
    have := lohi (x := lo) (s := s) (Nat.le_of_lt hs)
    rw [Int.add_mul, this]
    show hi * 18446744073709551616 * 2 ^ s + _ = (hi * 2 ^ s + hiS lo s) * 18446744073709551616 + _
    rw [Int.mul_right_comm]; omega
  have eB : N1 = U * 4294967296 + loS lo s / 4294967296 := rfl
  have eC : N2 = N1 % Y * 4294967296 + loS lo s % 4294967296 := rfl
  generalize hq1 : N1 / Y = Q1 at *
  generalize hq0 : N2 / Y = Q0 at *
  generalize hr1 : N1 % Y = R1 at *
  generalize hr0 : N2 % Y = R0 at *
  have eD : (hi * 18446744073709551616 + lo) * 2 ^ s = Y * (Q1 * 4294967296 + Q0) + R0 := by
    rw [eA, Int.mul_add, ← Int.mul_assoc]
    generalize Y * Q1 = z1 at *
    generalize Y * Q0 = z0 at *
    omega
  have eE : Y * (Q1 * 4294967296 + Q0) = y * (Q1 * 4294967296 + Q0) * 2 ^ s := by
    show y * 2 ^ s * _ = _
    rw [Int.mul_right_comm]
  rw [eE] at eD
  have hR : R0 = ((hi * 18446744073709551616 + lo) - y * (Q1 * 4294967296 + Q0)) * 2 ^ s := by rw [Int.sub_mul]; omega
  generalize hA : hi * 18446744073709551616 + lo = A at *
  generalize hQ : Q1 * 4294967296 + Q0 = Q at *
  generalize hT : A - y * Q = T at *
  have hT0 : 0 ≤ T := by
    rcases Int.lt_or_le T 0 with h | h
    · exfalso
      have := Int.mul_neg_of_neg_of_pos h hp
      omega
    · exact h
  have hT1 : T < y := by
    rcases Int.lt_or_le T y with h | h
    · exact h
    · exfalso
      have h1 : y * 2 ^ s ≤ T * 2 ^ s := Int.mul_le_mul_of_nonneg_right h (by omega)
      have h2 : R0 < y * 2 ^ s := hr2.2
      omega
  have hA2 : A = T + y * Q := by omega
  refine ⟨?_, ?_⟩
  · rw [hA2, Int.add_mul_ediv_left _ _ (by omega), Int.ediv_eq_zero_of_lt hT0 hT1]; omega
  · rw [hR, Int.mul_ediv_cancel _ (by omega), hA2, Int.add_mul_emod_self_left, Int.emod_eq_of_lt hT0 hT1]


theorem quo_u64 {x d : Int} (h0 : 0 ≤ x) (h1 : x < 18446744073709551616) (hd : 0 < d) : IntKind.u64.wrap (Int.tdiv x d) = x / d := by
  rw [Int.tdiv_eq_ediv_of_nonneg h0]
  exact wrap_u64 (Int.ediv_nonneg h0 (by omega)) (Int.lt_of_le_of_lt (Int.ediv_le_self d h0) h1)
theorem sub_fit {x z : Int} (h0 : 0 ≤ x - z) (h1 : x - z < 18446744073709551616) : IntKind.u64.wrap (x - IntKind.u64.wrap z) = x - z := by
  simp only [u64_wrap_mod]; omega
theorem shl_fit {x Y : Int} {s : Nat} (h : s ≤ 64) (hY : x * 2 ^ s = Y) (h0 : 0 ≤ Y) (h1 : Y < 18446744073709551616) : IntKind.u64.wrap (x * 2 ^ min ((s : Int)).toNat 64) = Y := by
  rw [shl_sym h, hY]; omega
theorem or_hi {hi lo : Int} {s : Nat} (h : s ≤ 64) (h0 : 0 ≤ hi * 2 ^ s) (h1 : hi * 2 ^ s < 18446744073709551616) (l0 : 0 ≤ lo) (l1 : lo < 18446744073709551616) (hh : 0 ≤ hi) :
    bitop .or .u64 (loS hi s) (lo / 2 ^ (64 - s)) = hi * 2 ^ s + hiS lo s := by
  have hb := hiS_bd h l0 l1
  have e := (or_lo h hb.1 hb.2 hh).1
  show bitop .or .u64 (loS hi s) (hiS lo s) = _
  rw [or_comm', e]
  have : loS hi s = hi * 2 ^ s := by unfold loS; omega
  rw [this]; omega
theorem shr1 {x : Int} (h : 0 ≤ x) : x.fdiv (2 ^ min (1 : Int).toNat 64) = x / 2 := by
  obtain ⟨n, rfl⟩ := Int.eq_ofNat_of_zero_le h
  exact shr_nat (k := 2) (by decide)
theorem shl1 {x : Int} : IntKind.u64.wrap (x * 2 ^ min (1 : Int).toNat 64) = x * 2 % 18446744073709551616 := u64_wrap_mod
theorem dnR_get {l : List Int} {i : Nat} {v : Int} (h : i < l.length) : (l.set ((0 + i) * 1) v).getD ((0 + i) * 1) 0 = v := by
  rw [Nat.zero_add, Nat.mul_one, List.getD_eq_getElem?_getD, List.getElem?_set_self h]; rfl
theorem dnR_set {a : List Int} {s i n : Nat} (h : i < n) : (fillI (dnN a s i) n).set ((0 + i) * 1) (dnD a s i) = fillI (dnN a s (i + 1)) n := by
  have e := @fillI_set (dnN a s i) n (dnD a s i) (by rw [dnN_len]; exact h)
  rw [dnN_len] at e
  rw [Nat.zero_add, Nat.mul_one]; exact e
theorem dnD_last {a : List Int} {s i : Nat} (h : a.length ≤ i + 1) : dnD a s i = a.getD i 0 / 2 ^ s := by
  unfold dnD loS; rw [getD_ge h]; simp
theorem msB_bd (u v : List Int) (q : Int) : 0 ≤ msB u v q ∧ msB u v q ≤ 1 := sbB_bd _ _ _
theorem ms_set {U u v : List Int} {q : Int} {j i : Nat} (h : j + i < U.length) : (rwJ U j (msN u v q i).1).set ((j + i) * 1) (sbD (u.getD i 0) (msS u v q i (msN u v q i).2.1) (msN u v q i).2.2) = rwJ U j (msN u v q (i + 1)).1 := by
  have e := @rwJ_set U j (msN u v q i).1 (sbD (u.getD i 0) (msS u v q i (msN u v q i).2.1) (msN u v q i).2.2) (by rw [msN_len]; exact h)
  rw [msN_len] at e; exact e
theorem ml_row {U u v : List Int} {q : Int} {j : Nat} (h : j + v.length < U.length) : (rwJ U j (msN u v q v.length).1).set ((j + v.length) * 1) (sbD (u.getD v.length 0) (msN u v q v.length).2.1 (msN u v q v.length).2.2) = rwJ U j (msL u v q) := by
  have e := @rwJ_set U j (msN u v q v.length).1 (sbD (u.getD v.length 0) (msN u v q v.length).2.1 (msN u v q v.length).2.2) (by rw [msN_len]; exact h)
  rw [msN_len] at e; exact e
theorem ad_set {W l v : List Int} {j i : Nat} (h : j + i < W.length) : (rwJ W j (adN l v i).1).set ((j + i) * 1) ((l.getD i 0 + v.getD i 0 + (adN l v i).2) % 18446744073709551616) = rwJ W j (adN l v (i + 1)).1 := by
  have e := @rwJ_set W j (adN l v i).1 ((l.getD i 0 + v.getD i 0 + (adN l v i).2) % 18446744073709551616) (by rw [adN_len]; exact h)
  rw [adN_len] at e; exact e
theorem bk_row {U l v : List Int} {j : Nat} (hl : l.length = v.length + 1) (h : j + l.length ≤ U.length) : (rwJ (rwJ U j l) j (adN l v v.length).1).set ((j + v.length) * 1) ((l.getD v.length 0 + (adN l v v.length).2) % 18446744073709551616) = rwJ U j (bkL l v) := by
  have e := @rwJ_set (rwJ U j l) j (adN l v v.length).1 ((l.getD v.length 0 + (adN l v v.length).2) % 18446744073709551616) (by rw [adN_len, rwJ_len h]; omega)
  rw [adN_len] at e
  rw [e]
  show rwJ (rwJ U j l) j (bkL l v) = _
  rw [rwJ_two (by rw [bkL_len]; omega) h, bkL_len, List.drop_of_length_le (by omega), List.append_nil]
theorem rwJ_in' {U : List Int} {j k : Nat} {l : List Int} (h : k < l.length) (hU : j + l.length ≤ U.length) : (rwJ U j l).getD (j + k) 0 = l.getD k 0 := by
  have e := rwJ_in h hU; rwa [Nat.mul_one] at e
theorem p2cast (s : Nat) : ((2 ^ s : Nat) : Int) = (2 : Int) ^ s := by rw [Int.natCast_pow]; rfl
theorem lz_int {y : Int} (h0 : 0 < y) (h1 : y < 18446744073709551616) : 64 - bl 64 y.toNat < 64 ∧ 9223372036854775808 ≤ y * 2 ^ (64 - bl 64 y.toNat) ∧ y * 2 ^ (64 - bl 64 y.toNat) < 18446744073709551616 := by
  obtain ⟨n, rfl⟩ := Int.eq_ofNat_of_zero_le (Int.le_of_lt h0)
  rw [Int.toNat_natCast, bl_nbits 64 n (by omega)]
  have hn : n ≠ 0 := by omega
  have hp := nbits_pos hn
  have h64 : nbits n ≤ 64 := nbits_le.2 (by omega)
  have hlt : n < 2 ^ nbits n := nbits_le.1 (Nat.le_refl _)
  have hge : 2 ^ (nbits n - 1) ≤ n := by
    rcases Nat.lt_or_ge n (2 ^ (nbits n - 1)) with h | h
    · have := nbits_le.2 h; omega
    · exact h
  generalize nbits n = b at *
  have e1 : 2 ^ b * 2 ^ (64 - b) = 18446744073709551616 := by rw [← Nat.pow_add, show b + (64 - b) = 64 by omega]
  have e2 : 2 ^ (b - 1) * 2 ^ (64 - b) = 9223372036854775808 := by rw [← Nat.pow_add, show b - 1 + (64 - b) = 63 by omega]
  have f1 : n * 2 ^ (64 - b) < 2 ^ b * 2 ^ (64 - b) := Nat.mul_lt_mul_of_pos_right hlt (Nat.two_pow_pos _)
  have f2 : 2 ^ (b - 1) * 2 ^ (64 - b) ≤ n * 2 ^ (64 - b) := Nat.mul_le_mul_right _ hge
  rw [← p2cast, ← Int.natCast_mul]
  omega
theorem trm_lm {l : List Int} {v : Int} (hu : u64s l) (hv : vl l = v) : trm l = lm v := by
  have h0 := vl_nonneg hu
  exact trm_digs (by decide) (u64_rng hu) (by rw [vb_vl, hv]; omega)
theorem lm_id {l : List Int} (hu : u64s l) (ht : tpd l) : lm (vl l) = l := by rw [← trm_lm hu rfl, trm_id ht]
def dvN (a : List Int) (d : Int) : Nat → List Int × Int
  | 0 => ([], 0)
  | j + 1 => (((dvN a d j).2 * 18446744073709551616 + a.getD (a.length - 1 - j) 0) / d :: (dvN a d j).1, ((dvN a d j).2 * 18446744073709551616 + a.getD (a.length - 1 - j) 0) % d)
theorem dvN_len (a : List Int) (d : Int) : ∀ j, (dvN a d j).1.length = j
  | 0 => rfl
  | j + 1 => by simp [dvN, dvN_len a d j]
theorem dvN_r {a : List Int} {d : Int} (hd : 0 < d) : ∀ j, 0 ≤ (dvN a d j).2 ∧ (dvN a d j).2 < d
  | 0 => ⟨Int.le_refl 0, hd⟩
  | j + 1 => ⟨Int.emod_nonneg _ (by omega), Int.emod_lt_of_pos _ hd⟩
theorem dvN_u {a : List Int} {d : Int} (ha : u64s a) (hd : 0 < d) : ∀ j, u64s (dvN a d j).1
  | 0 => fun x hx => by simp [dvN] at hx
  | j + 1 => by
    have hr := dvN_r (a := a) hd j
    have hx := u64s_getD ha (a.length - 1 - j)
    have ih := dvN_u (d := d) ha hd j
    intro y hy
    simp only [dvN, List.mem_cons] at hy
    rcases hy with rfl | hy
    · exact ⟨Int.ediv_nonneg (by omega) (by omega), Int.ediv_lt_of_lt_mul hd (by
        generalize (dvN a d j).2 = r at *
        generalize a.getD (a.length - 1 - j) 0 = x at *
        omega)⟩
    · exact ih y hy
theorem dvN_val {a : List Int} {d : Int} : ∀ j, j ≤ a.length → vl (a.drop (a.length - j)) = d * vl (dvN a d j).1 + (dvN a d j).2
  | 0, _ => by rw [Nat.sub_zero, List.drop_length]; simp [dvN, vl]
  | j + 1, h => by
    have ih := dvN_val (a := a) (d := d) j (by omega)
    rw [drop_cons' (l := a) (i := a.length - (j + 1)) (by omega), show a.length - (j + 1) + 1 = a.length - j by omega, show a.length - (j + 1) = a.length - 1 - j by omega]
    simp only [vl, dvN]
    rw [ih]
    have e := Int.emod_add_mul_ediv ((dvN a d j).2 * 18446744073709551616 + a.getD (a.length - 1 - j) 0) d
    have hB : Bs = 18446744073709551616 := rfl
    rw [hB, Int.mul_add 18446744073709551616, Int.mul_left_comm 18446744073709551616 d, Int.mul_add d]
    omega
theorem dv_row {k : Nat} {Q : List Int} {v : Int} (hk : 0 < k) : (List.replicate k 0 ++ Q).set ((0 + (k - 1)) * 1) v = List.replicate (k - 1) 0 ++ v :: Q := by
  rw [Nat.zero_add, Nat.mul_one]
  obtain ⟨k, rfl⟩ : ∃ m, k = m + 1 := ⟨k - 1, by omega⟩
  rw [Nat.add_sub_cancel, List.replicate_succ', List.append_assoc, List.set_append_right _ _ (by simp)]
  simp
theorem dv_row' {k : Nat} {Q : List Int} {v : Int} : (List.replicate (k + 1) 0 ++ Q).set ((0 + k) * 1) v = List.replicate k 0 ++ v :: Q := dv_row (k := k + 1) (Nat.succ_pos k)
theorem dv_step {a : List Int} {d : Int} {k : Nat} (h0 : 0 < k) (hk : k ≤ a.length) : dvN a d (a.length - (k - 1)) = (((dvN a d (a.length - k)).2 * 18446744073709551616 + a.getD (k - 1) 0) / d :: (dvN a d (a.length - k)).1, ((dvN a d (a.length - k)).2 * 18446744073709551616 + a.getD (k - 1) 0) % d) := by
  rw [show a.length - (k - 1) = (a.length - k) + 1 by omega]
  simp only [dvN]
  rw [show a.length - 1 - (a.length - k) = k - 1 by omega]
theorem kn_len {a b : List Int} (ua : u64s a) (ub : u64s b) (tb : tpd b) (hb : b ≠ []) (h : vl b ≤ vl a) : b.length ≤ a.length := by
  rcases Nat.lt_or_ge a.length b.length with hl | hl
  · exfalso
    have h1 := vl_lt ua
    have h2 := vl_ge ub tb hb
    have h3 := pB_mono (show a.length ≤ b.length - 1 by omega)
    omega
  · exact hl
theorem lenN_lm (v : Int) : lenN (lm v) = lenV v := by
  rw [lenN_nbits (lm_u v), lm_v, Int.toNat_natCast]; rfl
theorem lm_0 : lm 0 = [] := digs_0
theorem dv_end {a : List Int} {d : Int} (ha : u64s a) (hd : 0 < d) : trm (dvN a d a.length).1 = lm (vl a / d) ∧ (dvN a d a.length).2 = vl a % d := by
  have h := dvN_val (a := a) (d := d) a.length (Nat.le_refl _)
  have hr := dvN_r (a := a) hd a.length
  rw [Nat.sub_self, List.drop_zero] at h
  refine ⟨trm_lm (dvN_u ha hd _) ?_, ?_⟩
  · rw [h, Int.add_comm, Int.add_mul_ediv_left _ _ (by omega), Int.ediv_eq_zero_of_lt hr.1 hr.2]; omega
  · rw [h, Int.add_comm, Int.add_mul_emod_self_left, Int.emod_eq_of_lt hr.1 hr.2]
theorem fl_lm {v : Int} (h0 : 0 ≤ v) (h1 : v < 18446744073709551616) : (if v = 0 then [] else [v]) = lm v := by
  rw [lm_small (by omega), show ((v.natAbs : Nat) : Int) = v by omega]; rfl
structure Kn (X : Int) (v : List Int) (N : Nat) (k : Nat) (U Q : List Int) : Prop where
  lu : U.length = N
  uu : u64s U
  uq : u64s Q
  val : X = vl v * (pB k * vl Q) + vl U
  lt : vl U < vl v * pB k
theorem Kn.gup {X : Int} {v U Q : List Int} {N k n : Nat} (h : Kn X v N (k + 1) U Q) (uv : u64s v) (lv : v.length = n + 2) (top : 1 ≤ v.getD (n + 1) 0) (hk : k + (n + 3) ≤ N) : GuP (slJ U k (n + 3)) v n := by
  have hs := slJ_val U (j := k) (n := n + 3) (by rw [h.lu]; exact hk)
  have u1 := slJ_u (j := k) (n := n + 3) h.uu
  have c0 := vk_nonneg h.uu k
  have r0 := vl_nonneg (u64s_drop h.uu (k + (n + 3)))
  have hp := pB_pos k
  refine ⟨u1, uv, slJ_len (by rw [h.lu]; exact hk), lv, ?_, top⟩
  have hlt := h.lt
  have e : vl v * pB (k + 1) = pB k * (vl v * 18446744073709551616) := by
    simp only [pB]
    have hB : Bs = 18446744073709551616 := rfl
    rw [hB, Int.mul_left_comm, Int.mul_left_comm (pB k), ← Int.mul_assoc 18446744073709551616, Int.mul_comm 18446744073709551616, Int.mul_assoc, Int.mul_comm (pB k)]
  rw [e, hs] at hlt
  have f : 0 ≤ pB k * (pB (n + 3) * vl (U.drop (k + (n + 3)))) := Int.mul_nonneg (Int.le_of_lt hp) (Int.mul_nonneg (Int.le_of_lt (pB_pos _)) r0)
  rw [Int.mul_add] at hlt
  exact Int.lt_of_mul_lt_mul_left (show pB k * vl (slJ U k (n + 3)) < pB k * (vl v * 18446744073709551616) by omega) (Int.le_of_lt hp)
theorem Kn.next {X : Int} {v U Q r : List Int} {N k n : Nat} (h : Kn X v N (k + 1) U Q) (hg : GuP (slJ U k (n + 3)) v n) (hk : k + (n + 3) ≤ N) (lr : r.length = n + 3) (ur : u64s r) (vr : vl r = vl (slJ U k (n + 3)) % vl v) :
    Kn X v N k (rwJ U k r) (vl (slJ U k (n + 3)) / vl v :: Q) := by
  have hs := slJ_val U (j := k) (n := n + 3) (by rw [h.lu]; exact hk)
  have hr := rwJ_val (U := U) (j := k) (l := r) (by rw [h.lu, lr]; exact hk)
  rw [lr] at hr
  have hp := pB_pos k
  have hv := hg.pos
  have e := Int.emod_add_mul_ediv (vl (slJ U k (n + 3))) (vl v)
  have m1 := Int.emod_lt_of_pos (vl (slJ U k (n + 3))) hv
  have q0 := hg.q_nn
  have q1 := hg.q_lt
  have c := vk_bd h.uu (n := k) (by rw [h.lu]; omega)
  have r0 := vl_nonneg (u64s_drop h.uu (k + (n + 3)))
  have u0 := vl_nonneg hg.uu
  have vlt := vl_lt hg.uv
  rw [hg.lv] at vlt
  have hB : Bs = 18446744073709551616 := rfl
  have hrest : vl (U.drop (k + (n + 3))) = 0 := by
    rcases Int.lt_or_le 0 (vl (U.drop (k + (n + 3)))) with hl | hl
    · exfalso
      have hlt := h.lt
      rw [hs] at hlt
      have f1 : pB k * (pB (n + 3) * 1) ≤ pB k * (pB (n + 3) * vl (U.drop (k + (n + 3)))) := Int.mul_le_mul_of_nonneg_left (Int.mul_le_mul_of_nonneg_left (by omega) (Int.le_of_lt (pB_pos _))) (Int.le_of_lt hp)
      have f2 : 0 ≤ pB k * vl (slJ U k (n + 3)) := Int.mul_nonneg (Int.le_of_lt hp) u0
      have f3 : vl v * pB (k + 1) ≤ pB (n + 2) * pB (k + 1) := Int.mul_le_mul_of_nonneg_right (by omega) (Int.le_of_lt (pB_pos _))
      have f4 : pB (n + 2) * pB (k + 1) = pB k * (pB (n + 3) * 1) := by rw [Int.mul_one, ← pB_add, ← pB_add]; congr 1; omega
      rw [Int.mul_add] at hlt
      omega
    · omega
  rw [hrest, Int.mul_zero, Int.add_zero] at hs hr
  generalize hA : vl (slJ U k (n + 3)) / vl v = A at *
  generalize hM : vl (slJ U k (n + 3)) % vl v = M at *
  generalize hS : vl (slJ U k (n + 3)) = S at *
  refine ⟨by rw [rwJ_len (by rw [h.lu, lr]; exact hk), h.lu], rwJ_u h.uu ur, ?_, ?_, ?_⟩
  · intro y hy
    rw [List.mem_cons] at hy
    rcases hy with rfl | hy
    · exact ⟨q0, q1⟩
    · exact h.uq y hy
  · rw [h.val, hr, hs, vr]
    simp only [vl, pB]
    rw [hB, ← e, Int.mul_add (pB k) A, Int.mul_add (vl v), Int.mul_add (pB k) M, Int.mul_left_comm (pB k) (vl v), Int.mul_left_comm (pB k) 18446744073709551616, ← Int.mul_assoc 18446744073709551616]
    omega
  · rw [hr, vr, Int.mul_comm (vl v)]
    have f : pB k * M ≤ pB k * (vl v - 1) := Int.mul_le_mul_of_nonneg_left (by omega) (Int.le_of_lt hp)
    rw [Int.mul_sub, Int.mul_one] at f
    omega
theorem kn_start {a b v : List Int} {s : Nat} (hs : s < 64) (ua : u64s a) (ub : u64s b) (tb : tpd b) (hb : b ≠ []) (hv : vl v = vl b * 2 ^ s) (hl : b.length ≤ a.length) : Kn (vl a * 2 ^ s) v (a.length + 1) (a.length - b.length + 1) (upL a s) [] := by
  refine ⟨upL_len a s, upL_u hs ua, fun x hx => by simp at hx, ?_, ?_⟩
  · rw [upL_val (Nat.le_of_lt hs)]; simp [vl]
  · rw [upL_val (Nat.le_of_lt hs), hv, Int.mul_right_comm]
    have h1 := vl_ge ub tb hb
    have h2 := vl_lt ua
    have hbl : 0 < b.length := List.length_pos_iff.2 hb
    have e : pB (b.length - 1) * pB (a.length - b.length + 1) = pB a.length := by rw [← pB_add]; congr 1; omega
    have h3 : pB (b.length - 1) * pB (a.length - b.length + 1) ≤ vl b * pB (a.length - b.length + 1) := Int.mul_le_mul_of_nonneg_right h1 (Int.le_of_lt (pB_pos _))
    exact Int.mul_lt_mul_of_pos_right (by omega) (p2pos s)
theorem kn_top {b v : List Int} {s n : Nat} (ub : u64s b) (uv : u64s v) (tb : tpd b) (hb : b.length = n + 2) (hlv : v.length = n + 2) (hv : vl v = vl b * 2 ^ s) : 1 ≤ v.getD (n + 1) 0 := by
  have h1 := vl_ge ub tb (fun h => by rw [h] at hb; simp at hb)
  have x := u64s_getD uv (n + 1)
  have h2 : vl v = vk v (n + 1) + pB (n + 1) * v.getD (n + 1) 0 := by rw [← vk_succ, vk_all (by omega)]
  have c := vk_bd uv (n := n + 1) (by omega)
  rcases Int.lt_or_le 0 (v.getD (n + 1) 0) with h | h
  · omega
  · exfalso
    have h0 : v.getD (n + 1) 0 = 0 := by omega
    rw [h0, Int.mul_zero] at h2
    rw [hb] at h1
    have h3 : vl b * 1 ≤ vl b * 2 ^ s := Int.mul_le_mul_of_nonneg_left (by have := p2pos s; omega) (vl_nonneg ub)
    have : n + 2 - 1 = n + 1 := by omega
    rw [this] at h1
    omega
theorem up_cut {b : List Int} {s : Nat} (hs : s < 64) (ub : u64s b) (h : b.getD (b.length - 1) 0 * 2 ^ s < 18446744073709551616) (hb : b ≠ []) : vl ((upL b s).take b.length) = vl b * 2 ^ s := by
  have e := upL_val (a := b) (Nat.le_of_lt hs)
  have u := upL_u hs ub
  have h2 : vl (upL b s) = vk (upL b s) (b.length + 1) := (vk_all (by rw [upL_len]; exact Nat.le_refl _)).symm
  rw [vk_succ] at h2
  have hz : (upL b s).getD b.length 0 = 0 := by
    unfold upL
    rw [List.getD_eq_getElem?_getD, List.getElem?_append_right (by rw [upN_len]; exact Nat.le_refl _), upN_len, Nat.sub_self]
    show (upN b s b.length).2 = 0
    obtain ⟨m, hm⟩ : ∃ m, b.length = m + 1 := ⟨b.length - 1, by have := List.length_pos_iff.2 hb; omega⟩
    rw [hm] at h ⊢
    rw [Nat.add_sub_cancel] at h
    show hiS (b.getD m 0) s = 0
    have hh := lohi (x := b.getD m 0) (Nat.le_of_lt hs)
    have lb := @loS_bd (b.getD m 0) s
    have hb' := hiS_bd (Nat.le_of_lt hs) (u64s_getD ub m).1 (u64s_getD ub m).2
    omega
  rw [hz, Int.mul_zero, Int.add_zero] at h2
  show vk (upL b s) b.length = _
  rw [← h2, e]
theorem Kn.fin {a b v U Q : List Int} {N s : Nat} (h : Kn (vl a * 2 ^ s) v N 0 U Q) (hs : s < 64) (hv : vl v = vl b * 2 ^ s) (hb : 0 < vl b) (ua : u64s a) (uv : u64s v) (hl : v.length ≤ N) :
    trm Q = lm (vl a / vl b) ∧ vl (U.take v.length) = 2 ^ s * (vl a % vl b) ∧ trm (dnN (U.take v.length) s (U.take v.length).length) = lm (vl a % vl b) := by
  have hval := h.val
  have hlt := h.lt
  have u0 := vl_nonneg h.uu
  have hp := p2pos s
  simp only [pB, Int.one_mul, Int.mul_one] at hval hlt
  rw [hv] at hval hlt
  have eU : vl U = (vl a - vl b * vl Q) * 2 ^ s := by
    rw [Int.sub_mul]
    have : vl b * 2 ^ s * vl Q = vl b * vl Q * 2 ^ s := Int.mul_right_comm _ _ _
    omega
  generalize hT : vl a - vl b * vl Q = T at *
  have hT0 : 0 ≤ T := by
    rcases Int.lt_or_le T 0 with h | h
    · exfalso
      have := Int.mul_neg_of_neg_of_pos h hp
      omega
    · exact h
  have hT1 : T < vl b := by
    rcases Int.lt_or_le T (vl b) with h | h
    · exact h
    · exfalso
      have h1 : vl b * 2 ^ s ≤ T * 2 ^ s := Int.mul_le_mul_of_nonneg_right h (by omega)
      omega
  have hA : vl a = T + vl b * vl Q := by omega
  have e1 : vl a / vl b = vl Q := by rw [hA, Int.add_mul_ediv_left _ _ (by omega), Int.ediv_eq_zero_of_lt hT0 hT1]; omega
  have e2 : vl a % vl b = T := by rw [hA, Int.add_mul_emod_self_left, Int.emod_eq_of_lt hT0 hT1]
  have e3 : vl (U.take v.length) = 2 ^ s * T := by
    obtain ⟨r, r0, hr⟩ := vl_rest h.uu v.length
    have vlt := vl_lt uv
    rw [hv] at vlt
    have c0 := vk_nonneg h.uu v.length
    show vk U v.length = _
    have hr1 : r = 0 := by
      rcases Int.lt_or_le 0 r with h | h
      · exfalso
        have : pB v.length * 1 ≤ pB v.length * r := Int.mul_le_mul_of_nonneg_left (by omega) (Int.le_of_lt (pB_pos _))
        omega
      · omega
    rw [hr1, Int.mul_zero, Int.add_zero] at hr
    rw [← hr, eU, Int.mul_comm]
  refine ⟨trm_lm h.uq e1.symm, by rw [e2]; exact e3, ?_⟩
  rw [e2]
  exact trm_lm (dnN_u (Nat.le_of_lt hs) (u64s_take h.uu _) _) (dn_end (Nat.le_of_lt hs) e3)


def qn (v w : Int) : Int := (v.natAbs : Int) / w.natAbs
def rn (v w : Int) : Int := (v.natAbs : Int) % w.natAbs
def ng (v w : Int) : Bool := !(decide (v < 0) == decide (w < 0))
def sgd (s : Bool) (m : Int) : Int := if s = true then -m else m
theorem qr_facts {v w : Int} (hw : w ≠ 0) : (v.natAbs : Int) = rn v w + w.natAbs * qn v w ∧ 0 ≤ rn v w ∧ rn v w < w.natAbs ∧ 0 ≤ qn v w := by
  have h0 : (0 : Int) < w.natAbs := by omega
  have e := Int.emod_add_mul_ediv (v.natAbs : Int) w.natAbs
  exact ⟨e.symm, Int.emod_nonneg _ (by omega), Int.emod_lt_of_pos _ h0, Int.ediv_nonneg (by omega) (by omega)⟩
def gro (k : Nat) (v w : Int) : Bool :=
  match k with
  | 0 => false
  | 1 => ng v w
  | 2 => !ng v w
  | 3 => decide ((w.natAbs : Int) < 2 * rn v w ∨ (2 * rn v w = w.natAbs ∧ qn v w % 2 = 1))
  | _ => decide (v < 0)
def flo (v w : Int) : Int := if ng v w = true then (if rn v w = 0 then -(qn v w) else -(qn v w) - 1) else qn v w
def cei (v w : Int) : Int := if v - flo v w * w = 0 then flo v w else flo v w + 1
def nea (v w : Int) : Int := if (w.natAbs : Int) < 2 * (v - flo v w * w).natAbs ∨ (2 * ((v - flo v w * w).natAbs : Int) = w.natAbs ∧ (flo v w).natAbs % 2 = 1) then flo v w + 1 else flo v w
def wq (k : Nat) (v w : Int) : Int :=
  match k with
  | 0 => if ng v w = true then cei v w else flo v w
  | 1 => flo v w
  | 2 => cei v w
  | 3 => nea v w
  | _ => if w < 0 then cei v w else flo v w
def frs (v w : Int) : Int := sgd (decide (w < 0)) (if ng v w = true ∧ rn v w ≠ 0 then w.natAbs - rn v w else rn v w)
theorem mul_abs {m w : Int} : m * w = if w < 0 then -(w.natAbs * m) else w.natAbs * m := by
  split
  · rw [show (w.natAbs : Int) = -w by omega, Int.neg_mul, Int.neg_neg, Int.mul_comm]
  · rw [show (w.natAbs : Int) = w by omega, Int.mul_comm]
theorem flo_rest {v w : Int} (hw : w ≠ 0) : v - flo v w * w = frs v w := by
  obtain ⟨hx, h0, h1, h2⟩ := qr_facts (v := v) hw
  rw [mul_abs]
  have e1 : (w.natAbs : Int) * -(qn v w) = -(w.natAbs * qn v w) := Int.mul_neg _ _
  have e2 : (w.natAbs : Int) * (-(qn v w) - 1) = -(w.natAbs * qn v w) - w.natAbs := by rw [Int.mul_sub, Int.mul_one, e1]
  unfold frs flo sgd
  generalize hp : (w.natAbs : Int) * qn v w = p at *
  unfold ng
  by_cases hv : v < 0 <;> by_cases hww : w < 0 <;> by_cases hr : rn v w = 0 <;> simp [hv, hww, hr, e1, e2, hp] <;> omega
theorem next_rest {v w : Int} (hw : w ≠ 0) : v - (flo v w + 1) * w = frs v w - w := by
  rw [← flo_rest hw, Int.add_mul]; omega
theorem way_no {k : Nat} {v w : Int} (hw : w ≠ 0) (h : rn v w = 0 ∨ gro k v w = false) : sgd (ng v w) (qn v w) = wq k v w ∧ sgd (decide (v < 0)) (rn v w) = v - wq k v w * w := by
  obtain ⟨hx, h0, h1, h2⟩ := qr_facts (v := v) hw
  have f1 := flo_rest (v := v) hw
  have f2 := next_rest (v := v) hw
  have key : (wq k v w = flo v w ∧ (ng v w = true → rn v w = 0)) ∨ (wq k v w = flo v w + 1 ∧ ng v w = true ∧ rn v w ≠ 0) := by
    unfold wq cei nea
    rw [f1]
    unfold frs
    match k with
    | 0 => by_cases hn : ng v w = true <;> by_cases hr : rn v w = 0 <;> by_cases hs : w < 0 <;> simp [hn, hr, hs, sgd] <;> omega
    | 1 => simp only [gro] at h; simp only [true_and]; exact .inl fun hn => h.resolve_right (by rw [hn]; simp)
    | 2 => simp only [gro] at h; by_cases hn : ng v w = true <;> by_cases hr : rn v w = 0 <;> by_cases hs : w < 0 <;> simp [hn, hr, hs, sgd] at h ⊢ <;> omega
    | 3 =>
      simp only [gro] at h
      have hflo : flo v w = if ng v w = true then (if rn v w = 0 then -(qn v w) else -(qn v w) - 1) else qn v w := rfl
      by_cases hn : ng v w = true <;> by_cases hr : rn v w = 0 <;> by_cases hs : w < 0 <;> simp [hn, hr, hs, sgd] at h hflo ⊢ <;> (try rw [hflo]) <;> omega
    | n + 4 =>
      simp only [gro] at h
      by_cases hv : v < 0 <;> by_cases hr : rn v w = 0 <;> by_cases hs : w < 0 <;> simp [ng, hv, hr, hs, sgd] at h ⊢ <;> omega
  rcases key with ⟨e, hk⟩ | ⟨e, hk1, hk2⟩
  · rw [e, f1]
    unfold flo frs sgd at *
    by_cases hn : ng v w = true
    · have hr := hk hn
      simp [hn, hr]
    · have hs : decide (v < 0) = decide (w < 0) := by unfold ng at hn; by_cases hv : v < 0 <;> by_cases hww : w < 0 <;> simp [hv, hww] at hn ⊢
      simp [hn, hs]
  · rw [e, f2]
    have hs : decide (v < 0) = !decide (w < 0) := by unfold ng at hk1; by_cases hv : v < 0 <;> by_cases hww : w < 0 <;> simp [hv, hww] at hk1 ⊢
    unfold flo frs sgd
    rw [hs]
    by_cases hww : w < 0 <;> simp [hk1, hk2, hww] <;> omega
theorem way_yes {k : Nat} {v w : Int} (hw : w ≠ 0) (hr : rn v w ≠ 0) (h : gro k v w = true) : sgd (ng v w) (qn v w + 1) = wq k v w ∧ sgd (!decide (v < 0)) (w.natAbs - rn v w) = v - wq k v w * w := by
  obtain ⟨hx, h0, h1, h2⟩ := qr_facts (v := v) hw
  have f1 := flo_rest (v := v) hw
  have f2 := next_rest (v := v) hw
  have key : (wq k v w = flo v w ∧ ng v w = true) ∨ (wq k v w = flo v w + 1 ∧ ng v w = false) := by
    unfold wq cei nea
    rw [f1]
    unfold frs
    match k with
    | 0 => simp [gro] at h
    | 1 => simp only [gro] at h; simp [h]
    | 2 => simp only [gro] at h; by_cases hn : ng v w = true <;> by_cases hs : w < 0 <;> simp [hn, hr, hs, sgd] at h ⊢ <;> omega
    | 3 =>
      simp only [gro] at h
      have hflo : flo v w = if ng v w = true then (if rn v w = 0 then -(qn v w) else -(qn v w) - 1) else qn v w := rfl
      by_cases hn : ng v w = true <;> by_cases hs : w < 0 <;> simp [hn, hr, hs, sgd] at h hflo ⊢ <;> (try rw [hflo]) <;> omega
    | n + 4 =>
      simp only [gro] at h
      by_cases hv : v < 0 <;> by_cases hs : w < 0 <;> simp [ng, hv, hr, hs, sgd] at h ⊢ <;> omega
  rcases key with ⟨e, hk⟩ | ⟨e, hk⟩
  · rw [e, f1]
    have hs : decide (v < 0) = !decide (w < 0) := by unfold ng at hk; by_cases hv : v < 0 <;> by_cases hww : w < 0 <;> simp [hv, hww] at hk ⊢
    unfold flo frs sgd
    rw [hs]
    by_cases hww : w < 0 <;> simp [hk, hr, hww] <;> omega
  · rw [e, f2]
    have hs : decide (v < 0) = decide (w < 0) := by unfold ng at hk; by_cases hv : v < 0 <;> by_cases hww : w < 0 <;> simp [hv, hww] at hk ⊢
    unfold flo frs sgd
    rw [hs]
    by_cases hww : w < 0 <;> simp [hk, hr, hww] <;> omega
theorem lenV_mono {v w : Int} (h : v.natAbs ≤ w.natAbs) : lenV v ≤ lenV w := nbits_mono h
theorem qn_le {v w : Int} : (qn v w).natAbs ≤ v.natAbs := by
  have h : qn v w ≤ v.natAbs := Int.ediv_le_self _ (by omega)
  have h0 : 0 ≤ qn v w := Int.ediv_nonneg (by omega) (by omega)
  omega
theorem qn1_le {v w : Int} (hw : w ≠ 0) (hr : rn v w ≠ 0) : (qn v w + 1).natAbs ≤ v.natAbs := by
  obtain ⟨hx, h0, h1, h2⟩ := qr_facts (v := v) hw
  have : 2 * qn v w ≤ w.natAbs * qn v w := Int.mul_le_mul_of_nonneg_right (by omega) h2
  omega
theorem rn_le {v w : Int} (hw : w ≠ 0) : (rn v w).natAbs ≤ w.natAbs ∧ ((w.natAbs : Int) - rn v w).natAbs ≤ w.natAbs := by
  obtain ⟨hx, h0, h1, h2⟩ := qr_facts (v := v) hw
  omega
theorem sgd_abs {s : Bool} {m : Int} : (sgd s m).natAbs = m.natAbs := by unfold sgd; split <;> omega
theorem sv_sgd {s : Bool} {m : Int} (h : 0 ≤ m) : sv s (lm m) = sgd s m := by unfold sv sgd; rw [lm_v]; split <;> omega
theorem lm_ne {v : Int} (h : v ≠ 0) : lm v ≠ [] := fun e => by
  have h1 := lm_v v
  rw [e] at h1
  simp [vl] at h1
  omega
theorem lenV_0 {v : Int} : lenV v = 0 ↔ v = 0 := by
  constructor
  · intro h
    rcases Int.lt_trichotomy v 0 with h1 | h1 | h1
    · have := nbits_pos (n := v.natAbs) (by omega); unfold lenV at h; omega
    · exact h1
    · have := nbits_pos (n := v.natAbs) (by omega); unfold lenV at h; omega
  · rintro rfl; rfl
theorem wq_len {k : Nat} {v w : Int} (hw : w ≠ 0) : lenV (wq k v w) ≤ lenV v ∧ lenV (v - wq k v w * w) ≤ lenV w := by
  by_cases hr : rn v w ≠ 0 ∧ gro k v w = true
  · have h := way_yes hw hr.1 hr.2
    rw [← h.2, ← h.1]
    exact ⟨lenV_mono (by rw [sgd_abs]; exact qn1_le hw hr.1), lenV_mono (by rw [sgd_abs]; exact (rn_le hw).2)⟩
  · have h := way_no (k := k) hw (by
      by_cases h1 : rn v w = 0
      · exact .inl h1
      · refine .inr ?_
        cases hg : gro k v w
        · rfl
        · exact absurd ⟨h1, hg⟩ hr)
    rw [← h.2, ← h.1]
    exact ⟨lenV_mono (by rw [sgd_abs]; exact qn_le), lenV_mono (by rw [sgd_abs]; exact (rn_le hw).1)⟩


def sh32 (l : List Int) (s : Nat) : Nat → List Int × Int
  | 0 => ([], 0)
  | i + 1 => ((sh32 l s i).1 ++ [(sh32 l s i).2 + l.getD i 0 * 2 ^ s % 4294967296], l.getD i 0 * 2 ^ s / 4294967296)
def shR (l : List Int) (s w i : Nat) : List Int := List.replicate w 0 ++ fillI ((sh32 l s i).1 ++ [(sh32 l s i).2]) (l.length + 1)
def Hlv (R y t q : Nat) : Prop := t ≤ 32 ∧ y * q ≤ R ∧ R - y * q < y * 2 ^ t ∧ q + 2 ^ t ≤ 4294967296
structure Qd (x y k : Nat) (Q : List Int) : Prop where
  r : rng B32 Q
  v : vb B32 Q = ((x / B32 ^ k / y : Nat) : Int)
  l : Q.length = (digs B32 x).length - k
theorem Qd.fin {x y : Nat} {Q : List Int} (h : Qd x y 0 Q) : trm Q = digs B32 (x / y) := trm_digs (by decide) h.r (by rw [h.v, Nat.pow_zero, Nat.div_one])






def ErrL (x : Int) (r : List Int) (e : Int) : Prop := (e = 0 ∧ r = lm x ∧ lenV x ≤ 67108864) ∨ (e = 3 ∧ r = [] ∧ 67108864 < lenV x)
theorem errL_ok {l : List Int} {x : Int} (u : u64s l) (hv : vl l = x) (h : lenN l ≤ 67108864) : ErrL x (trm l) 0 := .inl ⟨rfl, trm_lm u hv, by rwa [← lenN_lenV u hv]⟩
theorem errL_big {l : List Int} {x : Int} (u : u64s l) (hv : vl l = x) (h : 67108864 < lenN l) : ErrL x [] 3 := .inr ⟨rfl, rfl, by rwa [← lenN_lenV u hv]⟩
theorem errL_of {x : Int} {r : List Int} (h : ErrN x r 3) : ErrL x [] 3 := by
  rcases h with ⟨h, _⟩ | ⟨_, h⟩
  · cases h
  · exact .inr ⟨rfl, rfl, h⟩
def lbN (a : List Int) (m : Int) : Nat → List Int × Int
  | 0 => ([], 0)
  | i + 1 => ((lbN a m i).1 ++ [(a.getD i 0 * m % 18446744073709551616 + (lbN a m i).2) % 18446744073709551616], a.getD i 0 * m / 18446744073709551616 + (a.getD i 0 * m % 18446744073709551616 + (lbN a m i).2) / 18446744073709551616)
def lbL (a : List Int) (m : Int) : List Int := (lbN a m a.length).1 ++ [(lbN a m a.length).2]
theorem vl_lm {v : Int} (h : 0 ≤ v) : vl (lm v) = v := by rw [lm_v]; omega


def pmS (m r h e : Nat) : Nat := if e % 2 = 0 then h * h % m else h * h % m * r % m
def pmK (m r : Nat) : Nat → Nat → Nat
  | 0, _ => 1 % m
  | f + 1, e => pmS m r (pmK m r f (e / 2)) e
def primeB (p : Nat) : Bool := (List.range 32).all fun d => decide (d < 2) || decide (p < d * d) || decide (p % d ≠ 0)
def fermB (p : Nat) : Bool := !primeB p || (List.range 32).all fun r => Nat.beq (pmK p r 10 p) (r % p)


structure Co (a b r s x y : Int) : Prop where
  dr : b ∣ a * x - r
  ds : b ∣ a * y - s
  gc : ∀ d : Int, (d ∣ r ∧ d ∣ s) ↔ (d ∣ a ∧ d ∣ b)
  bx : x.natAbs ≤ b.natAbs
  by_ : y.natAbs ≤ b.natAbs
  br : r.natAbs ≤ max a.natAbs b.natAbs
  bs : s.natAbs ≤ b.natAbs
  st : (r = a ∧ s = b ∧ x = 1 ∧ y = 0) ∨ (r = b ∧ 0 ≤ s ∧ s < b.natAbs ∧ x = 0 ∧ y = 1) ∨
       (0 < r ∧ 0 ≤ s ∧ s < r ∧ ((0 ≤ x ∧ y ≤ 0 ∧ x * s - y * r = b.natAbs) ∨ (x ≤ 0 ∧ 0 ≤ y ∧ y * r - x * s = b.natAbs))) ∨
       (0 < r ∧ 0 ≤ s ∧ s < r ∧ x = 1 ∧ 0 ≤ y ∧ y * r = b.natAbs + s)
theorem Co.fin {a b r x y : Int} (h : Co a b r 0 x y) : (∀ d : Int, d ∣ r ↔ (d ∣ a ∧ d ∣ b)) ∧ b ∣ a * x - r ∧ r ∣ a ∧ r ∣ b := by
  have h1 : ∀ d : Int, d ∣ r ↔ (d ∣ a ∧ d ∣ b) := fun d => by
    rw [← h.gc d]
    exact ⟨fun hd => ⟨hd, Int.dvd_zero d⟩, fun hd => hd.1⟩
  have h2 := (h1 r).1 (Int.dvd_refl r)
  exact ⟨h1, h.dr, h2.1, h2.2⟩


structure CoE (a b g x : Int) : Prop where
  g0 : 0 ≤ g
  gc : ∀ d : Int, d ∣ g ↔ (d ∣ a ∧ d ∣ b)
  dx : b ∣ a * x - g
  bx : x.natAbs ≤ b.natAbs
  bg : g.natAbs ≤ max a.natAbs b.natAbs
theorem Co.pos {a b r x y : Int} (h : Co a b r 0 x y) (hr : 0 ≤ r) : CoE a b r x := ⟨hr, h.fin.1, h.dr, h.bx, h.br⟩
theorem of_lm {v : Int} (h : inI v) : lm v = fl ((v.natAbs : Nat) : Int) := lm_small (by unfold inI at h; omega)
theorem lenV_mul (v w : Int) : lenV (v * w) ≤ lenV v + lenV w := by
  refine nbits_le.2 ?_
  rw [Int.natAbs_mul, Nat.pow_add]
  have h1 : v.natAbs < 2 ^ lenV v := nbits_le.1 (Nat.le_refl _)
  have h2 : w.natAbs < 2 ^ lenV w := nbits_le.1 (Nat.le_refl _)
  exact Nat.mul_lt_mul'' h1 h2


theorem lenV_sub (a b : Int) : lenV (a - b) ≤ max (lenV a) (lenV b) + 1 := by
  refine nbits_le.2 ?_
  have h1 : a.natAbs < 2 ^ lenV a := nbits_le.1 (Nat.le_refl _)
  have h2 : b.natAbs < 2 ^ lenV b := nbits_le.1 (Nat.le_refl _)
  have h3 : 2 ^ lenV a ≤ 2 ^ max (lenV a) (lenV b) := Nat.pow_le_pow_right (by decide) (by omega)
  have h4 : 2 ^ lenV b ≤ 2 ^ max (lenV a) (lenV b) := Nat.pow_le_pow_right (by decide) (by omega)
  rw [Nat.pow_succ]
  omega
def InvP (v w : Int) (s : Bool) (l : List Int) (e : Int) : Prop :=
  ∃ g x : Int, CoE (v % w) (w.natAbs : Int) g x ∧ ((g ≠ 1 ∧ s = false ∧ l = [] ∧ e = 61) ∨ (g = 1 ∧ s = decide (x % (w.natAbs : Int) < 0) ∧ l = lm (x % (w.natAbs : Int)) ∧ e = 0))
theorem same_gcd {v w g g2 x x2 : Int} (h : CoE v w g x) (h2 : CoE (v % w) (w.natAbs : Int) g2 x2) : g2 = g := by
  have hww : ∀ d : Int, d ∣ (w.natAbs : Int) ↔ d ∣ w := fun d => Int.dvd_natAbs
  have key : ∀ d : Int, (d ∣ v % w ∧ d ∣ (w.natAbs : Int)) ↔ (d ∣ v ∧ d ∣ w) := fun d => by
    rw [hww]
    have e := Int.emod_add_mul_ediv v w
    constructor
    · rintro ⟨h1, h2⟩
      refine ⟨?_, h2⟩
      rw [← e]
      exact Int.dvd_add h1 (Int.dvd_trans h2 (Int.dvd_mul_right w _))
    · rintro ⟨h1, h2⟩
      refine ⟨?_, h2⟩
      have : v % w = v - w * (v / w) := by omega
      rw [this]
      exact Int.dvd_sub h1 (Int.dvd_trans h2 (Int.dvd_mul_right w _))
  have d1 : g2 ∣ g := (h.gc g2).2 ((key g2).1 ((h2.gc g2).1 (Int.dvd_refl g2)))
  have d2 : g ∣ g2 := (h2.gc g).2 ((key g).2 ((h.gc g).1 (Int.dvd_refl g)))
  have := Nat.dvd_antisymm (Int.natAbs_dvd_natAbs.2 d1) (Int.natAbs_dvd_natAbs.2 d2)
  have := h.g0
  have := h2.g0
  omega


theorem lenV_64 {s : Bool} {l : List Int} (u : u64s l) : lenV (sv s l) ≤ 64 * l.length := by
  rw [← (raw_res (s := s) u rfl).2.2]
  exact lenN_le l
theorem InvP.no {v w g x : Int} {s : Bool} {l : List Int} {e : Int} (h : InvP v w s l e) (hE : CoE v w g x) (hg : g ≠ 1) : e = 61 := by
  obtain ⟨g2, x2, h2, h3⟩ := h
  have := same_gcd hE h2
  rcases h3 with ⟨_, _, _, h⟩ | ⟨h, _⟩
  · exact h
  · omega


theorem trim_s (l : List Int) (hl : l.length < 1099511627776) : Spec Tryz.prog 85 [.n false .u64 l] (fun o => o = .ret (.n false .u64 (trm l))) := by
  refine spec_of' [(0, .n false .u64 l)] rfl Tryz.func85 rfl (zlb rfl) fun Γ hN hds hL hR => ?_
  have hd := hdOf 21 hN
  refine zsr <| zas rfl (hd 2 rfl) <| jo_nil <| jc_seq <| jc_block ?_
  refine jc_loopF (G := Nat) (fun k => k ≤ l.length ∧ tN l k = tN l l.length) (fun k => [(0, .n false .u64 (l.take k)), (3, .u), (4, .u), (5, .u), (6, .u), (7, .u), (8, .u), (9, .u), (10, .u), (11, .u), (12, .u), (13, .u), (14, .u), (15, .u), (16, .u), (17, .u), (18, .u), (19, .u)]) (fun _ => _) (fun k => k) l.length ?_ ?_ rfl ?_
  · exact ⟨Nat.le_refl _, rfl⟩
  · exact (.cons (by rw [List.take_length]; rfl) (.u (.u (.u (.u (.u (.u (.u (.u (.u (.u (.u (.u (.u (.u (.u (.u (.u .nil))))))))))))))))))
  · rintro k ⟨hc1, hc2⟩
    have hm : (l.take k).length = k := by rw [List.length_take]; omega
    refine jc_seq <| zsr <| zmv rfl (hd 3 rfl) <| jo_l (ly_lenn sl28 rfl) (hd 4 rfl) <| jo_l (ly_gt rfl rfl) (hd 5 rfl) <| zmv rfl (hd 6 rfl) ?_
    refine jo_ifp 6 rfl (fun h1 => ?_) (fun h1 => ?_)
    · refine jo_g 6 rfl rfl (ly_mv rfl) (hd 7 rfl) <| jo_g 6 rfl rfl (ly_mv rfl) (hd 8 rfl) <| jo_g 6 rfl rfl (ly_lenn sl28 rfl) (hd 9 rfl) <| jo_g 6 rfl rfl (ly_sub rfl rfl (wrap_i64 (by omega) (by omega))) (hd 10 rfl) <| jo_g 6 rfl rfl (ly_ian (i := k - 1) sl28 rfl rfl (by first | rfl | omega) (by omega)) (hd 11 rfl) <| jo_g 6 rfl rfl (ly_ldq one82 rfl rfl) (hd 12 rfl) <| jo_g 6 rfl rfl (ly_eq rfl rfl) (hd 13 rfl) <| jo_l (ly_pick_t rfl rfl) (hd 14 rfl) <| jo_nil ?_
      refine jc_if rfl (fun h2 => ?_) (fun h2 => ?_)
      · refine jc_skip <| jc_block <| jc_region <| zmv rfl (hd 15 rfl) <| zmv rfl (hd 16 rfl) <| jo_l (ly_lenn sl28 rfl) (hd 17 rfl) <| jo_l (ly_sub rfl rfl (wrap_i64 (by omega) (by omega))) (hd 18 rfl) <| jo_l (ly_sln sl28 rfl bnd_none (bnd_some' rfl (show ((l.take k).length : Int) - 1 = ((k - 1 : Nat) : Int) by omega)) (.inl rfl) (by omega) (by omega)) (hd 19 rfl) <| zas rfl (hd 0 rfl) <| jo_nil ?_
        refine ⟨k - 1, ?_, ?_, rfl, cov_n 37 rfl rfl ?_⟩
        · exact ⟨by omega, by rw [← hc2, tN_down (by omega) (by rw [← getD_take (show k - 1 < k by omega)]; assumption)]⟩
        · omega
        · exact (.cons (by show some (V.n false .u64 _) = some (V.n false .u64 _); rw [List.drop_zero, List.take_take, Nat.min_eq_left (by omega)]) (.u (.u (.u (.u (.u (.u (.u (.u (.u (.u (.u (.u (.u (.u (.u (.u (.u .nil))))))))))))))))))
      · refine jc_exit <| zsr <| zmv rfl (hd 20 rfl) <| zas rfl (hd 2 rfl) <| jo_nil <| jc_ret ?_
        refine ⟨_, _, (.cons rfl .nil), .n, ?_⟩
        unfold trm
        rw [← hc2, tN_stop (by omega) (by rw [← getD_take (show k - 1 < k by omega)]; assumption)]
    · refine jo_s 6 rfl rfl rfl (hd 7 rfl) <| jo_s 6 rfl rfl rfl (hd 8 rfl) <| jo_s 6 rfl rfl rfl (hd 9 rfl) <| jo_s 6 rfl rfl rfl (hd 10 rfl) <| jo_s 6 rfl rfl rfl (hd 11 rfl) <| jo_s 6 rfl rfl rfl (hd 12 rfl) <| jo_s 6 rfl rfl rfl (hd 13 rfl) <| jo_l (ly_pick_f rfl rfl) (hd 14 rfl) <| jo_nil <| jc_litf rfl <| jc_exit <| jc_seq <| jc_region ?_; refine zmv rfl (hd 20 rfl) <| zas rfl (hd 2 rfl) <| jo_nil <| jc_ret ?_
      refine ⟨_, _, (.cons rfl .nil), .n, ?_⟩
      unfold trm
      rw [← hc2, tN_0 (by omega)]

theorem Norm_s (l : List Int) (hl : l.length < 1099511627776) : Spec Tryz.prog 51 [.n false .u64 l] (fun o => o = .ret (.n true .u64 (trm l))) := by
  refine spec_of' [(0, .n false .u64 l)] rfl Tryz.func51 rfl (zlb rfl) fun Γ hN hds hL hR => ?_
  have hd := hdOf 6 hN
  have hm := trm_len l
  refine zsr <| zas rfl (hd 2 rfl) <| jo_nil <| zsr <| zmv rfl (hd 3 rfl) ?_
  refine jo_call Tryz.f85 (trim_s l hl) rfl Tryz.func85 rfl rfl (ovL_cons rfl ovL_nil) (.cons .n .nil) (hd 4 rfl) ?_ (fun ch hp => by simp at hp)
  rintro _ ⟨⟩; refine jo_h (hy_app0 (id := 0) el28 rfl rfl src_n (by omega) (by unfold maxLen; omega) rfl) (hd 5 rfl) <| zas rfl (hd 2 rfl) <| jo_nil <| jc_ret ?_
  refine ⟨_, _, (.cons rfl .nil), (.o rfl (by simp) rfl), ?_⟩
  rw [List.drop_zero, List.take_length]

set_option maxRecDepth 100000 in
theorem Len64_s (x : Nat) (hx : x < 18446744073709551616) : Spec Tryz.prog 86 [.i .u64 (x : Int)] (fun o => o = .ret (.i .i64 (bl 64 x : Int))) := by
  refine spec_of' [(0, .i .u64 (x : Int))] rfl Tryz.func86 rfl (zlb rfl) fun Γ hN hds hL hR => ?_
  have hd := hdOf 25 hN
  refine zsr <| zas rfl (hd 2 rfl) <| jo_nil ?_
  refine jc_meetH (G := Nat × Nat) (fun g => bl 64 x = g.2 + bl 64 g.1 ∧ g.1 < 4294967296 ∧ g.2 ≤ 32) (fun g => [(0, .i .u64 (g.1 : Int)), (2, .i .i64 (g.2 : Int)), (3, .u), (4, .u), (5, .u), (6, .u)]) ?_ ?_
  · refine zsr <| zmv rfl (hd 3 rfl) <| jo_l (ly_ge rfl rfl) (hd 4 rfl) <| jo_nil ?_
    refine jc_if rfl (fun h1 => ?_) (fun h1 => ?_)
    · refine zsr <| zmv rfl (hd 5 rfl) <| jo_l (ly_is (ly_shr rfl rfl (by first | omega | (dsimp only; omega)) rfl) (show V.i .u64 _ = V.i .u64 ((x / 4294967296 : Nat) : Int) from congrArg (V.i .u64) (shr_nat (by decide)))) (hd 6 rfl) <| zas rfl (hd 0 rfl) <| jo_nil <| jc_region <| zas rfl (hd 2 rfl) <| jo_nil ?_
      refine ⟨(x / 4294967296, 32), ?_, rfl, cov_n 6 rfl rfl ?_⟩
      · exact ⟨by have h9 := bl64_shift (k := 32) (by decide) (show 2 ^ 32 ≤ x by omega) (by omega); rw [show 2 ^ 32 = 4294967296 by decide] at h9; dsimp only; omega, by dsimp only; omega, by dsimp only; omega⟩
      · exact (.cons rfl (.cons (by show some (V.i .i64 _) = some (V.i .i64 _); rfl) (.u (.u (.u (.u .nil))))))
    · refine jc_skip ?_
      refine ⟨(x, 0), ?_, rfl, cov_n 2 rfl rfl ?_⟩
      · exact ⟨by dsimp only; omega, by dsimp only; omega, by dsimp only; omega⟩
      · exact (.cons rfl (.cons (by show some (V.i .i64 _) = some (V.i .i64 _); rfl) (.u (.u (.u (.u .nil))))))
  · rintro ⟨x1, n1⟩ ⟨he1, hx1, hn1⟩
    dsimp only at he1 hx1 hn1
    refine jc_meetH (G := Nat × Nat) (fun g => bl 64 x = g.2 + bl 64 g.1 ∧ g.1 < 65536 ∧ g.2 ≤ 48) (fun g => [(0, .i .u64 (g.1 : Int)), (2, .i .i64 (g.2 : Int)), (7, .u), (8, .u), (9, .u), (10, .u), (11, .u), (12, .u)]) ?_ ?_
    · refine zsr <| zmv rfl (hd 7 rfl) <| jo_l (ly_ge rfl rfl) (hd 8 rfl) <| jo_nil ?_
      refine jc_if rfl (fun h2 => ?_) (fun h2 => ?_)
      · refine zsr <| zmv rfl (hd 9 rfl) <| jo_l (ly_is (ly_shr rfl rfl (by first | omega | (dsimp only; omega)) rfl) (show V.i .u64 _ = V.i .u64 ((x1 / 65536 : Nat) : Int) from congrArg (V.i .u64) (shr_nat (by decide)))) (hd 10 rfl) <| zas rfl (hd 0 rfl) <| jo_nil <| jc_region <| zmv rfl (hd 11 rfl) <| jo_l (ly_add rfl rfl (r := ((n1 + 16 : Nat) : Int)) (by rw [wrap_i64 (by omega) (by omega)]; omega)) (hd 12 rfl) <| zas rfl (hd 2 rfl) <| jo_nil ?_
        refine ⟨(x1 / 65536, n1 + 16), ?_, rfl, cov_n 8 rfl rfl ?_⟩
        · exact ⟨by have h9 := bl64_shift (k := 16) (by decide) (show 2 ^ 16 ≤ x1 by omega) (by omega); rw [show 2 ^ 16 = 65536 by decide] at h9; dsimp only; omega, by dsimp only; omega, by dsimp only; omega⟩
        · exact (.cons rfl (.cons (by show some (V.i .i64 _) = some (V.i .i64 _); rfl) (.u (.u (.u (.u (.u (.u .nil))))))))
      · refine jc_skip ?_
        refine ⟨(x1, n1), ?_, rfl, cov_n 2 rfl rfl ?_⟩
        · exact ⟨by dsimp only; omega, by dsimp only; omega, by dsimp only; omega⟩
        · exact (.cons rfl (.cons (by show some (V.i .i64 _) = some (V.i .i64 _); rfl) (.u (.u (.u (.u (.u (.u .nil))))))))
    · rintro ⟨x2, n2⟩ ⟨he2, hx2, hn2⟩
      dsimp only at he2 hx2 hn2
      refine jc_meetH (G := Nat × Nat) (fun g => bl 64 x = g.2 + bl 64 g.1 ∧ g.1 < 256 ∧ g.2 ≤ 56) (fun g => [(0, .i .u64 (g.1 : Int)), (2, .i .i64 (g.2 : Int)), (13, .u), (14, .u), (15, .u), (16, .u), (17, .u), (18, .u)]) ?_ ?_
      · refine zsr <| zmv rfl (hd 13 rfl) <| jo_l (ly_ge rfl rfl) (hd 14 rfl) <| jo_nil ?_
        refine jc_if rfl (fun h3 => ?_) (fun h3 => ?_)
        · refine zsr <| zmv rfl (hd 15 rfl) <| jo_l (ly_is (ly_shr rfl rfl (by first | omega | (dsimp only; omega)) rfl) (show V.i .u64 _ = V.i .u64 ((x2 / 256 : Nat) : Int) from congrArg (V.i .u64) (shr_nat (by decide)))) (hd 16 rfl) <| zas rfl (hd 0 rfl) <| jo_nil <| jc_region <| zmv rfl (hd 17 rfl) <| jo_l (ly_add rfl rfl (r := ((n2 + 8 : Nat) : Int)) (by rw [wrap_i64 (by omega) (by omega)]; omega)) (hd 18 rfl) <| zas rfl (hd 2 rfl) <| jo_nil ?_
          refine ⟨(x2 / 256, n2 + 8), ?_, rfl, cov_n 8 rfl rfl ?_⟩
          · exact ⟨by have h9 := bl64_shift (k := 8) (by decide) (show 2 ^ 8 ≤ x2 by omega) (by omega); rw [show 2 ^ 8 = 256 by decide] at h9; dsimp only; omega, by dsimp only; omega, by dsimp only; omega⟩
          · exact (.cons rfl (.cons (by show some (V.i .i64 _) = some (V.i .i64 _); rfl) (.u (.u (.u (.u (.u (.u .nil))))))))
        · refine jc_skip ?_
          refine ⟨(x2, n2), ?_, rfl, cov_n 2 rfl rfl ?_⟩
          · exact ⟨by dsimp only; omega, by dsimp only; omega, by dsimp only; omega⟩
          · exact (.cons rfl (.cons (by show some (V.i .i64 _) = some (V.i .i64 _); rfl) (.u (.u (.u (.u (.u (.u .nil))))))))
      · rintro ⟨x3, n3⟩ ⟨he3, hx3, hn3⟩
        dsimp only at he3 hx3 hn3
        refine zsr <| zmv rfl (hd 19 rfl) <| zmv rfl (hd 20 rfl) <| jo_l (ly_conv und82 und5 rfl (wrap_u8 (by first | omega | (dsimp only; omega)) (by first | omega | (dsimp only; omega)))) (hd 21 rfl) <| jo_l (ly_ixs (b := lenTab) (i := x3) und9 (by kernel_rfl) rfl rfl (show x3 < 256 by omega)) (hd 22 rfl) ?_
        have h7 := lenTab_at hx3
        have h8 := bl_le 64 x3
        refine jo_l (ly_conv und5 und3 rfl (wrap_i64 (by first | omega | (dsimp only; omega)) (by first | omega | (dsimp only; omega)))) (hd 23 rfl) <| jo_l (ly_add rfl rfl (wrap_i64 (by first | omega | (dsimp only; omega)) (by first | omega | (dsimp only; omega)))) (hd 24 rfl) <| zas rfl (hd 2 rfl) <| jo_nil <| jc_ret ?_
        refine ⟨_, _, (.cons rfl .nil), .i, ?_⟩
        have h7 := lenTab_at hx3
        rw [h7, he3]
        rfl

theorem From_s (v : Int) : Spec Tryz.prog 68 [.i .u64 v] (fun o => o = .ret (.n true .u64 (if v = 0 then [] else [v]))) := by
  refine spec_of' [(0, .i .u64 v)] rfl Tryz.func68 rfl (zlb rfl) fun Γ hN hds hL hR => ?_
  have hd := hdOf 7 hN
  refine zsr <| zas rfl (hd 2 rfl) <| jo_nil <| jc_seq <| zsr <| zmv rfl (hd 3 rfl) <| jo_l (ly_eq rfl rfl) (hd 4 rfl) <| jo_nil ?_
  refine jc_if rfl (fun h1 => ?_) (fun h1 => ?_)
  · refine zsr <| zas rfl (hd 2 rfl) <| jo_nil <| jc_ret ?_
    refine ⟨_, _, (.cons rfl .nil), (.nil (fr := true) (k := .u64)), ?_⟩
    rw [if_pos (by assumption)]
  · refine jc_skip <| zsr <| zmv rfl (hd 5 rfl) <| jo_h (hy_lit (id := 0) (xs := [.tmp 5]) el28 rfl (ovL_cons rfl ovL_nil) rfl (all2_of rfl) (by decide) rfl) (hd 6 rfl) <| zas rfl (hd 2 rfl) <| jo_nil <| jc_ret ?_
    refine ⟨_, _, (.cons rfl .nil), (.o (T := 79) (k := .u64) (l := [v]) rfl (by simp) rfl), ?_⟩
    rw [if_neg (by assumption)]
    rfl

theorem Length_s (l : List Int) (hl : l.length < 1099511627776) (hu : u64s l) : Spec Tryz.prog 39 [.n false .u64 l] (fun o => o = .ret (.i .i64 (lenN l : Int))) := by
  refine spec_of' [(0, .n false .u64 l)] rfl Tryz.func39 rfl (zlb rfl) fun Γ hN hds hL hR => ?_
  have hd := hdOf 20 hN
  have hm := trm_len l
  refine zsr <| zas rfl (hd 2 rfl) <| jo_nil <| zsr <| zmv rfl (hd 3 rfl) ?_
  refine jo_call Tryz.f85 (trim_s l hl) rfl Tryz.func85 rfl rfl (ovL_cons rfl ovL_nil) (.cons .n .nil) (hd 4 rfl) ?_ (fun ch hp => by simp at hp)
  rintro _ ⟨⟩; refine zas rfl (hd 0 rfl) <| jo_nil <| jc_seq <| zsr <| zmv rfl (hd 5 rfl) <| jo_l (ly_lenn sl28 rfl) (hd 6 rfl) <| jo_l (ly_eq rfl rfl) (hd 7 rfl) <| jo_nil ?_
  refine jc_if rfl (fun h1 => ?_) (fun h1 => ?_)
  · refine zsr <| zas rfl (hd 2 rfl) <| jo_nil <| jc_ret ?_
    refine ⟨_, _, (.cons rfl .nil), .i, ?_⟩
    unfold lenN
    rw [if_pos (by omega)]
    rfl
  · have htop := u64s_at (u64s_trm hu) (i := (trm l).length - 1) (by omega)
    have hbl := bl_le 64 ((trm l).getD ((trm l).length - 1) 0).toNat
    refine jc_skip <| zsr <| zmv rfl (hd 8 rfl) <| jo_l (ly_lenn sl28 rfl) (hd 9 rfl) <| jo_l (ly_sub rfl rfl (wrap_i64 (by omega) (by omega))) (hd 10 rfl) <| jo_l (ly_mul rfl rfl (wrap_i64 (by omega) (by omega))) (hd 11 rfl) <| zmv rfl (hd 12 rfl) <| zmv rfl (hd 13 rfl) <| jo_l (ly_lenn sl28 rfl) (hd 14 rfl) <| jo_l (ly_sub rfl rfl (wrap_i64 (by omega) (by omega))) (hd 15 rfl) <| jo_l (ly_ian (i := (trm l).length - 1) sl28 rfl rfl (by first | rfl | omega) (by omega)) (hd 16 rfl) <| jo_l (ly_is (ly_ldq one82 rfl rfl) (show V.i .u64 ((trm l).getD ((trm l).length - 1) 0) = V.i .u64 (((trm l).getD ((trm l).length - 1) 0).toNat : Int) by rw [Int.toNat_of_nonneg htop.1])) (hd 17 rfl) ?_
    refine jo_call Tryz.f86 (Len64_s ((trm l).getD ((trm l).length - 1) 0).toNat (by omega)) rfl Tryz.func86 rfl rfl (ovL_cons rfl ovL_nil) (.cons .i .nil) (hd 18 rfl) ?_ (fun ch hp => by simp at hp)
    rintro _ ⟨⟩; refine jo_l (ly_add rfl rfl (wrap_i64 (by omega) (by omega))) (hd 19 rfl) <| zas rfl (hd 2 rfl) <| jo_nil <| jc_ret ?_
    refine ⟨_, _, (.cons rfl .nil), .i, ?_⟩
    unfold lenN
    rw [if_neg (by omega)]
    show Out.ret (V.i .i64 _) = Out.ret (V.i .i64 _)
    congr 2
    omega

theorem Compare_s (a b : List Int) (ha : a.length < 4294967296) (hb : b.length < 4294967296) : Spec Tryz.prog 67 [.n false .u64 a, .n false .u64 b] (fun o => o = .ret (.i .i64 (cmpL (trm a) (trm b)))) := by
  refine spec_of' [(0, .n false .u64 a), (1, .n false .u64 b)] rfl Tryz.func67 rfl (zlb rfl) fun Γ hN hds hL hR => ?_
  have hd := hdOf 45 hN
  have hma := trm_len a
  have hmb := trm_len b
  refine zsr <| zas rfl (hd 4 rfl) <| jo_nil <| zsr <| zmv rfl (hd 6 rfl) ?_
  refine jo_call Tryz.f85 (trim_s a (by omega)) rfl Tryz.func85 rfl rfl (ovL_cons rfl ovL_nil) (.cons .n .nil) (hd 7 rfl) ?_ (fun ch hp => by simp at hp)
  rintro _ ⟨⟩; refine zmv rfl (hd 8 rfl) ?_
  refine jo_call Tryz.f85 (trim_s b (by omega)) rfl Tryz.func85 rfl rfl (ovL_cons rfl ovL_nil) (.cons .n .nil) (hd 9 rfl) ?_ (fun ch hp => by simp at hp)
  rintro _ ⟨⟩; refine zas rfl (hd 0 rfl) <| zas rfl (hd 1 rfl) <| jo_nil <| jc_seq <| zsr <| zmv rfl (hd 10 rfl) <| jo_l (ly_lenn sl28 rfl) (hd 11 rfl) <| zmv rfl (hd 12 rfl) <| jo_l (ly_lenn sl28 rfl) (hd 13 rfl) <| jo_l (ly_ne rfl rfl) (hd 14 rfl) <| jo_nil ?_
  refine jc_if rfl (fun h1 => ?_) (fun h1 => ?_)
  · refine jc_seq <| zsr <| zmv rfl (hd 15 rfl) <| jo_l (ly_lenn sl28 rfl) (hd 16 rfl) <| zmv rfl (hd 17 rfl) <| jo_l (ly_lenn sl28 rfl) (hd 18 rfl) <| jo_l (ly_lt rfl rfl) (hd 19 rfl) <| jo_nil ?_
    refine jc_if rfl (fun h2 => ?_) (fun h2 => ?_)
    · refine zsr <| zas rfl (hd 4 rfl) <| jo_nil <| jc_ret ?_
      refine ⟨_, _, (.cons rfl .nil), .i, ?_⟩
      unfold cmpL
      rw [if_pos (by omega)]
    · refine jc_skip <| zsr <| zas rfl (hd 4 rfl) <| jo_nil <| jc_ret ?_
      refine ⟨_, _, (.cons rfl .nil), .i, ?_⟩
      unfold cmpL
      rw [if_neg (by omega), if_pos (by omega)]
  · refine jc_skip <| jc_seq <| zsr <| zmv rfl (hd 20 rfl) <| jo_l (ly_lenn sl28 rfl) (hd 21 rfl) <| jo_l (ly_sub rfl rfl (wrap_i64 (by omega) (by omega))) (hd 22 rfl) <| zas rfl (hd 5 rfl) <| jo_nil <| jc_block ?_
    refine jc_loopF (G := Nat) (fun k => k ≤ (trm a).length ∧ cmpN (trm a) (trm b) k = cmpN (trm a) (trm b) (trm a).length) (fun k => [(5, .i .i64 ((k : Int) - 1)), (4, .u), (23, .u), (24, .u), (25, .u), (26, .u), (27, .u), (28, .u), (29, .u), (30, .u), (31, .u), (32, .u), (33, .u), (34, .u), (35, .u), (36, .u), (37, .u), (38, .u), (39, .u), (40, .u), (41, .u), (42, .u), (43, .u), (44, .u)]) (fun _ => _) (fun k => k) (trm a).length ?_ ?_ rfl ?_
    · exact ⟨Nat.le_refl _, rfl⟩
    · exact (.cons rfl (.u (.u (.u (.u (.u (.u (.u (.u (.u (.u (.u (.u (.u (.u (.u (.u (.u (.u (.u (.u (.u (.u (.u .nil))))))))))))))))))))))))
    · rintro k ⟨hc1, hc2⟩; refine jc_seq <| zsr <| zmv rfl (hd 23 rfl) <| jo_l (ly_ge rfl rfl) (hd 24 rfl) <| jo_nil ?_
      refine jc_if rfl (fun h3 => ?_) (fun h3 => ?_)
      · refine jc_skip <| jc_seq <| jc_block <| jc_seq <| jc_seq <| jc_draw (n := 9) _ rfl mixed <| zal2 0 [2, 3, 8] (lo_l (ly_mv rfl) (hd 27 rfl)) rfl <| zal2 1 [2, 3, 8] (lo_l (ly_mv rfl) (hd 28 rfl)) rfl <| zal2 2 [3, 8] (lo_l (ly_ian (i := k - 1) sl28 rfl rfl (by omega) (by omega)) (hd 29 rfl)) rfl <| zal 3 (lo_l (ly_ldq one82 rfl rfl) (hd 30 rfl)) rfl <| zal2 4 [6, 7, 8] (lo_l (ly_mv rfl) (hd 31 rfl)) rfl <| zal2 5 [6, 7, 8] (lo_l (ly_mv rfl) (hd 32 rfl)) rfl <| zal2 6 [7, 8] (lo_l (ly_ian (i := k - 1) sl28 rfl rfl (by omega) (by omega)) (hd 33 rfl)) rfl ?_; refine zal 7 (lo_l (ly_ldq one82 rfl rfl) (hd 34 rfl)) rfl <| zal 8 (lo_l (ly_lt rfl rfl) (hd 35 rfl)) rfl <| ja_nil (by kernel_rfl) ?_
        refine jc_if rfl (fun h4 => ?_) (fun h4 => ?_)
        · refine zsr <| zas rfl (hd 4 rfl) <| jo_nil <| jc_ret ?_
          refine ⟨_, _, (.cons rfl .nil), .i, ?_⟩
          unfold cmpL
          rw [if_neg (by omega), if_neg (by omega), ← hc2, cmpN_lt (by omega) (by assumption)]
        · refine jc_skip <| jc_seq <| jc_draw (n := 9) _ rfl mixed <| zal2 0 [2, 3, 8] (lo_l (ly_mv rfl) (hd 36 rfl)) rfl <| zal2 1 [2, 3, 8] (lo_l (ly_mv rfl) (hd 37 rfl)) rfl <| zal2 2 [3, 8] (lo_l (ly_ian (i := k - 1) sl28 rfl rfl (by omega) (by omega)) (hd 38 rfl)) rfl <| zal 3 (lo_l (ly_ldq one82 rfl rfl) (hd 39 rfl)) rfl <| zal2 4 [6, 7, 8] (lo_l (ly_mv rfl) (hd 40 rfl)) rfl <| zal2 5 [6, 7, 8] (lo_l (ly_mv rfl) (hd 41 rfl)) rfl <| zal2 6 [7, 8] (lo_l (ly_ian (i := k - 1) sl28 rfl rfl (by omega) (by omega)) (hd 42 rfl)) rfl <| zal 7 (lo_l (ly_ldq one82 rfl rfl) (hd 43 rfl)) rfl <| zal 8 (lo_l (ly_gt rfl rfl) (hd 44 rfl)) rfl <| ja_nil (by kernel_rfl) ?_
          refine jc_if rfl (fun h5 => ?_) (fun h5 => ?_)
          · refine zsr <| zas rfl (hd 4 rfl) <| jo_nil <| jc_ret ?_
            refine ⟨_, _, (.cons rfl .nil), .i, ?_⟩
            unfold cmpL
            rw [if_neg (by omega), if_neg (by omega), ← hc2, cmpN_gt (by omega) (by assumption)]
          · refine jc_skip <| jc_region <| zmv rfl (hd 25 rfl) <| jo_l (ly_sub rfl rfl (wrap_i64 (by omega) (by omega))) (hd 26 rfl) <| zas rfl (hd 5 rfl) <| jo_nil ?_
            refine ⟨k - 1, ?_, ?_, rfl, cov_n 47 rfl rfl ?_⟩
            · exact ⟨by omega, by rw [← hc2]; exact cmpN_eq (by omega) (by assumption) (by assumption)⟩
            · omega
            · exact (.cons (by show some (V.i .i64 _) = some (V.i .i64 _); congr 2; omega) (.u (.u (.u (.u (.u (.u (.u (.u (.u (.u (.u (.u (.u (.u (.u (.u (.u (.u (.u (.u (.u (.u (.u .nil))))))))))))))))))))))))
      · refine jc_exit <| zsr <| zas rfl (hd 4 rfl) <| jo_nil <| jc_ret ?_
        refine ⟨_, _, (.cons rfl .nil), .i, ?_⟩
        unfold cmpL
        rw [if_neg (by omega), if_neg (by omega), ← hc2]
        obtain rfl : k = 0 := by omega
        rfl

theorem told_ok (l : List Int) (hl : l.length < 1099511627776) (hu : u64s l) (h : lenN (trm l) ≤ 67108864) : Spec Tryz.prog 112 [.n false .u64 l] (fun o => o = .ret (.t [.n false .u64 (trm l), .i .i64 0])) := by
  refine spec_of' [(0, .n false .u64 l)] rfl Tryz.func112 rfl (zlb rfl) fun Γ hN hds hL hR => ?_
  have hd := hdOf 10 hN
  have hm := trm_len l
  refine zsr <| zas rfl (hd 2 rfl) <| zas rfl (hd 3 rfl) <| jo_nil <| zsr <| zmv rfl (hd 4 rfl) ?_
  refine jo_call Tryz.f85 (trim_s l hl) rfl Tryz.func85 rfl rfl (ovL_cons rfl ovL_nil) (.cons .n .nil) (hd 5 rfl) ?_ (fun ch hp => by simp at hp)
  rintro _ ⟨⟩; refine zas rfl (hd 0 rfl) <| jo_nil <| jc_seq <| zsr <| zmv rfl (hd 6 rfl) ?_
  refine jo_call Tryz.f39 (Length_s (trm l) (by omega) (u64s_trm hu)) rfl Tryz.func39 rfl rfl (ovL_cons rfl ovL_nil) (.cons .n .nil) (hd 7 rfl) ?_ (fun ch hp => by simp at hp)
  rintro _ ⟨⟩; refine jo_l (ly_ff (ly_gt rfl rfl) (by omega)) (hd 8 rfl) <| jo_nil <| jc_litf rfl <| jc_skip <| zsr <| zmv rfl (hd 9 rfl) <| zas rfl (hd 2 rfl) <| zas rfl (hd 3 rfl) <| jo_nil <| jc_ret ?_
  refine ⟨_, _, (.cons rfl (.cons rfl .nil)), (.t1 .n (.t1 .i .t0)), ?_⟩
  exact rfl

theorem told_big (l : List Int) (hl : l.length < 1099511627776) (hu : u64s l) (h : 67108864 < lenN (trm l)) : Spec Tryz.prog 112 [.n false .u64 l] (fun o => o = .ret (.t [.n false .u64 [], .i .i64 3])) := by
  refine spec_of' [(0, .n false .u64 l)] rfl Tryz.func112 rfl (zlb rfl) fun Γ hN hds hL hR => ?_
  have hd := hdOf 10 hN
  have hm := trm_len l
  refine zsr <| zas rfl (hd 2 rfl) <| zas rfl (hd 3 rfl) <| jo_nil <| zsr <| zmv rfl (hd 4 rfl) ?_
  refine jo_call Tryz.f85 (trim_s l hl) rfl Tryz.func85 rfl rfl (ovL_cons rfl ovL_nil) (.cons .n .nil) (hd 5 rfl) ?_ (fun ch hp => by simp at hp)
  rintro _ ⟨⟩; refine zas rfl (hd 0 rfl) <| jo_nil <| jc_seq <| zsr <| zmv rfl (hd 6 rfl) ?_
  refine jo_call Tryz.f39 (Length_s (trm l) (by omega) (u64s_trm hu)) rfl Tryz.func39 rfl rfl (ovL_cons rfl ovL_nil) (.cons .n .nil) (hd 7 rfl) ?_ (fun ch hp => by simp at hp)
  rintro _ ⟨⟩; refine jo_l (ly_tt (ly_gt rfl rfl) (by omega)) (hd 8 rfl) <| jo_nil <| jc_litt rfl <| zsr <| zas rfl (hd 2 rfl) <| zas rfl (hd 3 rfl) <| jo_nil <| jc_ret ?_
  refine ⟨_, _, (.cons rfl (.cons rfl .nil)), (.t1 (.nil (fr := false) (k := .u64)) (.t1 .i .t0)), ?_⟩
  exact rfl
end Go.Proofs.YtpldmajdiljoaaaGreat.Vc
