/- What the functions over limbs compute, in plain Lean. -/
import Derived.Test.YtcdipmjgpimmdaaVcY
set_option linter.unusedVariables false
set_option linter.unusedSimpArgs false
namespace Go.Proofs.Ytcdipmjgpimmdaa.Vc
open Go Go.RowKit

/-- How many of the first k limbs stay, without noughts at the top. -/
def tN (l : List Int) : Nat → Nat
  | 0 => 0
  | k + 1 => if l.getD k 0 = 0 then tN l k else k + 1
def trm (l : List Int) : List Int := l.take (tN l l.length)
theorem tN_le (l : List Int) : ∀ k, tN l k ≤ k
  | 0 => Nat.le_refl _
  | k + 1 => by simp only [tN]; split <;> have := tN_le l k <;> omega
theorem tN_down {l : List Int} {k : Nat} (h0 : 0 < k) (h : l.getD (k - 1) 0 = 0) : tN l (k - 1) = tN l k := by
  obtain ⟨j, rfl⟩ : ∃ j, k = j + 1 := ⟨k - 1, by omega⟩
  simp only [Nat.add_sub_cancel] at h ⊢
  simp only [tN]
  rw [if_pos h]
theorem tN_stop {l : List Int} {k : Nat} (h0 : 0 < k) (h : ¬ l.getD (k - 1) 0 = 0) : tN l k = k := by
  obtain ⟨j, rfl⟩ : ∃ j, k = j + 1 := ⟨k - 1, by omega⟩
  simp only [Nat.add_sub_cancel] at h
  simp only [tN]
  rw [if_neg h]
theorem tN_0 {l : List Int} {k : Nat} (h : ¬ 0 < k) : tN l k = k := by
  have : k = 0 := by omega
  subst this; rfl
theorem trm_len (l : List Int) : (trm l).length ≤ l.length := by unfold trm; rw [List.length_take]; omega
theorem getD_take {l : List Int} {k i : Nat} (h : i < k) : (l.take k).getD i 0 = l.getD i 0 := by
  rw [List.getD_eq_getElem?_getD, List.getD_eq_getElem?_getD, List.getElem?_take, if_pos h]
def u64s (l : List Int) : Prop := ∀ x ∈ l, 0 ≤ x ∧ x < 18446744073709551616
theorem u64s_trm {l : List Int} (h : u64s l) : u64s (trm l) := fun x hx => h x (List.mem_of_mem_take hx)
theorem u64s_at {l : List Int} (h : u64s l) {i : Nat} (hi : i < l.length) : 0 ≤ l.getD i 0 ∧ l.getD i 0 < 18446744073709551616 := by
  rw [List.getD_eq_getElem?_getD, List.getElem?_eq_getElem hi]; exact h _ (List.getElem_mem hi)
theorem u64s_getD {l : List Int} (h : u64s l) (i : Nat) : 0 ≤ l.getD i 0 ∧ l.getD i 0 < 18446744073709551616 := by
  by_cases hi : i < l.length
  · exact u64s_at h hi
  · rw [List.getD_eq_getElem?_getD, List.getElem?_eq_none (by omega)]; exact ⟨by decide, by decide⟩
/-- How many binary digits, with fuel. -/
def bl : Nat → Nat → Nat
  | 0, _ => 0
  | f + 1, n => if n = 0 then 0 else 1 + bl f (n / 2)
theorem bl_le : ∀ f n, bl f n ≤ f
  | 0, _ => Nat.le_refl _
  | f + 1, n => by simp only [bl]; split <;> have := bl_le f (n / 2) <;> omega
theorem bl_fuel : ∀ (f d n : Nat), n < 2 ^ f → bl (f + d) n = bl f n
  | 0, d, n, h => by
    have : n = 0 := by simpa using h
    subst this
    cases d <;> simp [bl]
  | f + 1, d, n, h => by
    rw [show f + 1 + d = (f + d) + 1 by omega]
    simp only [bl]
    split
    · rfl
    · rw [bl_fuel f d (n / 2) (by rw [Nat.pow_succ] at h; omega)]
theorem bl_shift : ∀ (k f n : Nat), 2 ^ k ≤ n → bl (k + f) n = k + bl f (n / 2 ^ k)
  | 0, f, n, _ => by simp
  | k + 1, f, n, h => by
    have h2 : 2 ^ (k + 1) = 2 ^ k * 2 := Nat.pow_succ ..
    have hp : 0 < 2 ^ k := Nat.two_pow_pos k
    rw [show k + 1 + f = (k + f) + 1 by omega]
    simp only [bl]
    rw [if_neg (by omega), bl_shift k f (n / 2) (by omega), h2, Nat.mul_comm, ← Nat.div_div_eq_div_mul]
    omega
theorem bl64_shift {k n : Nat} (hk : k ≤ 64) (h : 2 ^ k ≤ n) (hn : n < 2 ^ 64) : bl 64 n = k + bl 64 (n / 2 ^ k) := by
  have h1 := bl_shift k (64 - k) n h
  rw [show k + (64 - k) = 64 by omega] at h1
  rw [h1]
  have h2 : n / 2 ^ k < 2 ^ (64 - k) := by
    rw [Nat.div_lt_iff_lt_mul (Nat.two_pow_pos k), ← Nat.pow_add, show 64 - k + k = 64 by omega]; exact hn
  have h3 := bl_fuel (64 - k) k _ h2
  rw [show 64 - k + k = 64 by omega] at h3
  rw [h3]
def lenTab : ByteArray := ⟨((List.range 256).map fun i => (bl 8 i).toUInt8).toArray⟩
theorem lenTab_at {i : Nat} (h : i < 256) : byteAt lenTab i = (bl 64 i : Int) := by
  have key : ∀ j : Fin 256, byteAt lenTab j.val = (bl 64 j.val : Int) := by decide +kernel
  exact key ⟨i, h⟩
theorem shr_nat {n k b : Nat} {kk : Int} (h : 2 ^ min kk.toNat b = k) : ((n : Int)).fdiv (2 ^ min kk.toNat b) = ((n / k : Nat) : Int) := by
  have : ((2 : Int) ^ min kk.toNat b) = ((k : Nat) : Int) := by rw [← h]; norm_cast
  rw [this]
  exact (Int.ofNat_fdiv n k).symm
/-- How many binary digits a number has. -/
def lenN (l : List Int) : Nat := if (trm l).length = 0 then 0 else 64 * ((trm l).length - 1) + bl 64 ((trm l).getD ((trm l).length - 1) 0).toNat
theorem lenN_le (l : List Int) : lenN l ≤ 64 * l.length := by
  unfold lenN
  have h1 := trm_len l
  split
  · omega
  · have := bl_le 64 ((trm l).getD ((trm l).length - 1) 0).toNat
    omega
/-- Which is greater, of the first k limbs. -/
def cmpN (a b : List Int) : Nat → Int
  | 0 => 0
  | k + 1 => if a.getD k 0 < b.getD k 0 then -1 else if b.getD k 0 < a.getD k 0 then 1 else cmpN a b k
def cmpL (a b : List Int) : Int := if a.length < b.length then -1 else if b.length < a.length then 1 else cmpN a b a.length
theorem cmpN_succ {a b : List Int} {k : Nat} (h1 : ¬ a.getD k 0 < b.getD k 0) (h2 : ¬ b.getD k 0 < a.getD k 0) : cmpN a b (k + 1) = cmpN a b k := by simp only [cmpN]; rw [if_neg h1, if_neg h2]
/-- Sums with a carry: the first i limbs. -/
def adN (a b : List Int) : Nat → List Int × Int
  | 0 => ([], 0)
  | i + 1 => ((adN a b i).1 ++ [(a.getD i 0 + b.getD i 0 + (adN a b i).2) % 18446744073709551616], (a.getD i 0 + b.getD i 0 + (adN a b i).2) / 18446744073709551616)
theorem adN_len (a b : List Int) : ∀ i, (adN a b i).1.length = i
  | 0 => rfl
  | i + 1 => by simp only [adN, List.length_append, adN_len a b i]; rfl
theorem adN_c {a b : List Int} (ha : u64s a) (hb : u64s b) : ∀ i, 0 ≤ (adN a b i).2 ∧ (adN a b i).2 ≤ 1
  | 0 => ⟨Int.le_refl 0, (by decide : (0 : Int) ≤ 1)⟩
  | i + 1 => by
    have h1 := u64s_getD ha i
    have h2 := u64s_getD hb i
    have h3 := adN_c ha hb i
    simp only [adN]
    omega
theorem adN_u {a b : List Int} : ∀ i, u64s (adN a b i).1
  | 0 => by intro x hx; cases hx
  | i + 1 => by
    intro x hx
    simp only [adN, List.mem_append, List.mem_singleton] at hx
    rcases hx with hx | hx
    · exact adN_u i x hx
    · subst hx; omega
/-- Differences with a borrow: the first i limbs. -/
def sbN (a b : List Int) : Nat → List Int × Int
  | 0 => ([], 0)
  | i + 1 => ((sbN a b i).1 ++ [if a.getD i 0 < b.getD i 0 + (sbN a b i).2 then a.getD i 0 - b.getD i 0 - (sbN a b i).2 + 18446744073709551616 else a.getD i 0 - b.getD i 0 - (sbN a b i).2], if a.getD i 0 < b.getD i 0 + (sbN a b i).2 then 1 else 0)
theorem sbN_len (a b : List Int) : ∀ i, (sbN a b i).1.length = i
  | 0 => rfl
  | i + 1 => by simp only [sbN, List.length_append, sbN_len a b i]; rfl
theorem sbN_c (a b : List Int) : ∀ i, 0 ≤ (sbN a b i).2 ∧ (sbN a b i).2 ≤ 1
  | 0 => ⟨Int.le_refl 0, (by decide : (0 : Int) ≤ 1)⟩
  | i + 1 => by simp only [sbN]; split <;> decide
theorem sbN_u {a b : List Int} (ha : u64s a) (hb : u64s b) : ∀ i, u64s (sbN a b i).1
  | 0 => by intro x hx; cases hx
  | i + 1 => by
    have h1 := u64s_getD ha i
    have h2 := u64s_getD hb i
    have h3 := sbN_c a b i
    intro x hx
    simp only [sbN, List.mem_append, List.mem_singleton] at hx
    rcases hx with hx | hx
    · exact sbN_u ha hb i x hx
    · subst hx; split <;> omega
/-- What is filled so far, noughts behind. -/
def fillI (l : List Int) (n : Nat) : List Int := l ++ List.replicate (n - l.length) 0
theorem fillI_len {l : List Int} {n : Nat} (h : l.length ≤ n) : (fillI l n).length = n := by unfold fillI; rw [List.length_append, List.length_replicate]; omega
theorem fillI_set {l : List Int} {n : Nat} {v : Int} (h : l.length < n) : (fillI l n).set l.length v = fillI (l ++ [v]) n := by
  unfold fillI
  obtain ⟨m, hm⟩ : ∃ m, n - l.length = m + 1 := ⟨n - l.length - 1, by omega⟩
  rw [hm, List.replicate_succ, List.set_append_right _ _ (Nat.le_refl _), Nat.sub_self, List.set_cons_zero, List.length_append, List.length_singleton, show n - (l.length + 1) = m by omega]
  simp
theorem fillI_full {l : List Int} {n : Nat} (h : l.length = n) : fillI l n = l := by unfold fillI; rw [h, Nat.sub_self]; simp
theorem getD_ge {l : List Int} {i : Nat} (h : l.length ≤ i) : l.getD i 0 = 0 := by rw [List.getD_eq_getElem?_getD, List.getElem?_eq_none h]; rfl
theorem cmpN_lt {a b : List Int} {k : Nat} (h0 : 0 < k) (h : a.getD (k - 1) 0 < b.getD (k - 1) 0) : cmpN a b k = -1 := by
  obtain ⟨j, rfl⟩ : ∃ j, k = j + 1 := ⟨k - 1, by omega⟩
  simp only [Nat.add_sub_cancel] at h
  simp only [cmpN]; rw [if_pos h]
theorem cmpN_gt {a b : List Int} {k : Nat} (h0 : 0 < k) (h : b.getD (k - 1) 0 < a.getD (k - 1) 0) : cmpN a b k = 1 := by
  obtain ⟨j, rfl⟩ : ∃ j, k = j + 1 := ⟨k - 1, by omega⟩
  simp only [Nat.add_sub_cancel] at h
  simp only [cmpN]; rw [if_neg (by omega), if_pos h]
theorem cmpN_eq {a b : List Int} {k : Nat} (h0 : 0 < k) (h1 : ¬ a.getD (k - 1) 0 < b.getD (k - 1) 0) (h2 : ¬ b.getD (k - 1) 0 < a.getD (k - 1) 0) : cmpN a b (k - 1) = cmpN a b k := by
  obtain ⟨j, rfl⟩ : ∃ j, k = j + 1 := ⟨k - 1, by omega⟩
  simp only [Nat.add_sub_cancel] at h1 h2 ⊢
  simp only [cmpN]; rw [if_neg h1, if_neg h2]
theorem fill_ad {X Y : List Int} {i n : Nat} (h : i < n) : (fillI (adN X Y i).1 n).set ((0 + i) * 1) ((X.getD i 0 + Y.getD i 0 + (adN X Y i).2) % 18446744073709551616) = fillI (adN X Y (i + 1)).1 n := by
  rw [Nat.zero_add, Nat.mul_one]
  have := fillI_set (l := (adN X Y i).1) (n := n) (v := (X.getD i 0 + Y.getD i 0 + (adN X Y i).2) % 18446744073709551616) (by rw [adN_len]; exact h)
  rw [adN_len] at this
  exact this
theorem fill_sb {X Y : List Int} {i n : Nat} (h : i < n) : (fillI (sbN X Y i).1 n).set ((0 + i) * 1) (if X.getD i 0 < Y.getD i 0 + (sbN X Y i).2 then X.getD i 0 - Y.getD i 0 - (sbN X Y i).2 + 18446744073709551616 else X.getD i 0 - Y.getD i 0 - (sbN X Y i).2) = fillI (sbN X Y (i + 1)).1 n := by
  rw [Nat.zero_add, Nat.mul_one]
  have := fillI_set (l := (sbN X Y i).1) (n := n) (v := if X.getD i 0 < Y.getD i 0 + (sbN X Y i).2 then X.getD i 0 - Y.getD i 0 - (sbN X Y i).2 + 18446744073709551616 else X.getD i 0 - Y.getD i 0 - (sbN X Y i).2) (by rw [sbN_len]; exact h)
  rw [sbN_len] at this
  exact this
theorem fill_last {l : List Int} {n : Nat} {v : Int} (h : l.length = n) : (fillI l (n + 1)).set ((0 + n) * 1) v = l ++ [v] := by
  rw [Nat.zero_add, Nat.mul_one]
  subst h
  rw [fillI_set (by omega), fillI_full (by simp)]
/-- The longer one first. -/
def swL (a b : List Int) : List Int × List Int := if a.length < b.length then (b, a) else (a, b)
def sumL (a b : List Int) : List Int := (adN (swL (trm a) (trm b)).1 (swL (trm a) (trm b)).2 (swL (trm a) (trm b)).1.length).1 ++ [(adN (swL (trm a) (trm b)).1 (swL (trm a) (trm b)).2 (swL (trm a) (trm b)).1.length).2]
def difL (a b : List Int) : List Int := (sbN (trm a) (trm b) (trm a).length).1
theorem u64s_app1 {l : List Int} {v : Int} (h : u64s l) (h0 : 0 ≤ v) (h1 : v < 18446744073709551616) : u64s (l ++ [v]) := fun x hx => by
  rcases List.mem_append.1 hx with hx | hx
  · exact h x hx
  · rw [List.mem_singleton] at hx; subst hx; exact ⟨h0, h1⟩
/-- The document's digits of limbs: two of 32 bits each. -/
def dig (l : List Int) : List Int := l.flatMap fun v => [v % 4294967296, v / 4294967296]
theorem dig_len (l : List Int) : (dig l).length = 2 * l.length := by
  induction l with
  | nil => rfl
  | cons v l ih => simp only [dig, List.flatMap_cons, List.length_append, List.length_cons, List.length_nil] at ih ⊢; omega
theorem dig_snoc {l : List Int} {i : Nat} (h : i < l.length) : dig (l.take (i + 1)) = dig (l.take i) ++ [l.getD i 0 % 4294967296, l.getD i 0 / 4294967296] := by
  rw [List.take_succ_eq_append_getElem h, List.getD_eq_getElem?_getD, List.getElem?_eq_getElem h]
  unfold dig
  rw [List.flatMap_append]
  rfl
/-- Digits put together to limbs again. -/
def lims : List Int → List Int
  | [] => []
  | [x] => [x]
  | x :: y :: r => IntKind.u64.wrap (x + IntKind.u64.wrap (y * 4294967296)) :: lims r
theorem drop_cons' {l : List Int} {i : Nat} (h : i < l.length) : l.drop i = l.getD i 0 :: l.drop (i + 1) := by
  rw [List.drop_eq_getElem_cons h, List.getD_eq_getElem?_getD, List.getElem?_eq_getElem h]; rfl
theorem lims2 {l : List Int} {j : Nat} (h : j + 1 < l.length) : lims (l.drop j) = IntKind.u64.wrap (l.getD j 0 + IntKind.u64.wrap (l.getD (j + 1) 0 * 4294967296)) :: lims (l.drop (j + 2)) := by
  rw [drop_cons' (by omega : j < l.length), drop_cons' h]; rfl
theorem lims1 {l : List Int} {j : Nat} (h : j < l.length) (h2 : ¬ j + 1 < l.length) : lims (l.drop j) = l.getD j 0 :: lims (l.drop (j + 2)) := by
  rw [drop_cons' h, List.drop_eq_nil_of_le (by omega : l.length ≤ j + 1), List.drop_eq_nil_of_le (by omega : l.length ≤ j + 2)]; rfl
theorem lims_len : ∀ l : List Int, (lims l).length ≤ l.length
  | [] => Nat.le_refl _
  | [_] => Nat.le_refl _
  | _ :: _ :: r => by have := lims_len r; simp only [lims, List.length_cons]; omega
theorem trm1 {x : Int} (h : ¬ x = 0) : trm [x] = [x] := by
  unfold trm
  simp only [List.length_singleton, tN]
  rw [if_neg (by simpa using h)]
  rfl
theorem u64s1 {v : Int} (h0 : 0 ≤ v) (h1 : v < 18446744073709551616) : u64s [v] := fun x hx => by rw [List.mem_singleton] at hx; subst hx; exact ⟨h0, h1⟩
theorem cmp1 {x d : Int} (h : d ≤ x) : ¬ cmpL [x] [d] < 0 := by
  unfold cmpL
  simp only [List.length_singleton, cmpN]
  rw [if_neg (by omega), if_neg (by omega)]
  have e1 : [x].getD 0 0 = x := rfl
  have e2 : [d].getD 0 0 = d := rfl
  rw [e1, e2, if_neg (by omega)]
  split <;> omega
theorem wrap_u64' {m r : Int} (h1 : 0 ≤ r) (h2 : r < 18446744073709551616) (h : m = r - 18446744073709551616) : IntKind.u64.wrap m = r := by
  subst h
  simp only [IntKind.wrap, IntKind.bits, IntKind.signed] <;> simp <;> omega
end Go.Proofs.Ytcdipmjgpimmdaa.Vc
