/- What the tokens' counts are, in plain Lean. -/
import Derived.Test.YtnpbpiommpgikaaMd
set_option linter.unusedVariables false
set_option linter.unusedSimpArgs false
namespace Go.Proofs.Ytnpbpiommpgikaa.Vc
open Go Go.RowKit

/-- Numbers, names, signs, how many are open, the depth. -/
abbrev C5 := Int × Int × Int × Int × Int
def opn (t : ByteArray) : Int := if t = ⟨#[40]⟩ then 1 else if t = ⟨#[41]⟩ then -1 else 0
def cstep (x : C5) (t : Tok) : C5 :=
  if t.1 = 0 then (x.1 + 1, x.2.1, x.2.2.1, x.2.2.2.1, x.2.2.2.2)
  else if t.1 = 1 then (x.1, x.2.1 + 1, x.2.2.1, x.2.2.2.1, x.2.2.2.2)
  else (x.1, x.2.1, x.2.2.1 + 1, x.2.2.2.1 + opn t.2.1, max x.2.2.2.2 (x.2.2.2.1 + opn t.2.1))
def cf (l : List Tok) (i : Nat) : C5 := (l.take i).foldl cstep (0, 0, 0, 0, 0)
theorem cf_0 (l : List Tok) : cf l 0 = (0, 0, 0, 0, 0) := rfl
theorem cf_succ {l : List Tok} {i : Nat} {t : Tok} (h : l[i]? = some t) : cf l (i + 1) = cstep (cf l i) t := by
  obtain ⟨h1, h2⟩ := List.getElem?_eq_some_iff.1 h
  unfold cf
  rw [List.take_succ_eq_append_getElem h1, List.foldl_append, h2]
  rfl
def kinds (l : List Tok) : Prop := ∀ t ∈ l, t.1 = 0 ∨ t.1 = 1 ∨ t.1 = 2
theorem kinds_lex {s : ByteArray} {r : Option Nat} {l : List Tok} {p : Nat} (hp : p ≤ s.size) (h : lexGo s p = (l, r)) : kinds l := fun t ht => by
  have := (tw_cls (tw_lex l p hp h (toZ t) (List.mem_map_of_mem ht))).1
  rcases this with h | h | h
  · exact .inr (.inr h.1)
  · exact .inr (.inl h.1)
  · exact .inl h.1
theorem cnt_cases {l : List Tok} (hk : kinds l) {i : Nat} (hi : i ≤ l.length) : (i = l.length) ∨ (∃ x p, i < l.length ∧ l[i]? = some (0, x, p)) ∨ (∃ x p, i < l.length ∧ l[i]? = some (1, x, p)) ∨
    (∃ p, i < l.length ∧ l[i]? = some (2, ⟨#[40]⟩, p)) ∨ (∃ p, i < l.length ∧ l[i]? = some (2, ⟨#[41]⟩, p)) ∨ (∃ x p, i < l.length ∧ l[i]? = some (2, x, p) ∧ ¬ x = ⟨#[40]⟩ ∧ ¬ x = ⟨#[41]⟩) := by
  by_cases h : i = l.length
  · exact .inl h
  · right
    have hlt : i < l.length := by omega
    obtain ⟨⟨k, x, p⟩, ht⟩ : ∃ t, l[i]? = some t := ⟨_, List.getElem?_eq_getElem hlt⟩
    have hk' := hk _ (List.mem_of_getElem? ht)
    rcases hk' with h0 | h0 | h0
    · have h0' : k = 0 := h0
      subst h0'; exact .inl ⟨x, p, hlt, ht⟩
    · have h0' : k = 1 := h0
      subst h0'; exact .inr (.inl ⟨x, p, hlt, ht⟩)
    · have h0' : k = 2 := h0
      subst h0'
      right; right
      by_cases h1 : x = ⟨#[40]⟩
      · subst h1; exact .inl ⟨p, hlt, ht⟩
      · by_cases h2 : x = ⟨#[41]⟩
        · subst h2; exact .inr (.inl ⟨p, hlt, ht⟩)
        · exact .inr (.inr ⟨x, p, hlt, ht, h1, h2⟩)
/-- What holds of the counts of i tokens. -/
def okc (i : Nat) (x : C5) : Prop := 0 ≤ x.1 ∧ x.1 ≤ i ∧ 0 ≤ x.2.1 ∧ x.2.1 ≤ i ∧ 0 ≤ x.2.2.1 ∧ x.2.2.1 ≤ i ∧ -i ≤ x.2.2.2.1 ∧ x.2.2.2.1 ≤ i ∧ 0 ≤ x.2.2.2.2 ∧ x.2.2.2.2 ≤ i ∧ x.2.2.2.1 ≤ x.2.2.2.2
theorem okc_i {i : Nat} {a b d o m : Int} (h : okc i (a, b, d, o, m)) : 0 ≤ a ∧ a ≤ i ∧ 0 ≤ b ∧ b ≤ i ∧ 0 ≤ d ∧ d ≤ i ∧ -i ≤ o ∧ o ≤ i ∧ 0 ≤ m ∧ m ≤ i ∧ o ≤ m := h
theorem okc_m {i : Nat} {a b d o m : Int} (h : 0 ≤ a ∧ a ≤ i ∧ 0 ≤ b ∧ b ≤ i ∧ 0 ≤ d ∧ d ≤ i ∧ -i ≤ o ∧ o ≤ i ∧ 0 ≤ m ∧ m ≤ i ∧ o ≤ m) : okc i (a, b, d, o, m) := h
theorem opn_1 : opn ⟨#[40]⟩ = 1 := by decide
theorem opn_2 : opn ⟨#[41]⟩ = -1 := by decide
theorem opn_0 {x : ByteArray} (h1 : ¬ x = ⟨#[40]⟩) (h2 : ¬ x = ⟨#[41]⟩) : opn x = 0 := by unfold opn; rw [if_neg h1, if_neg h2]
theorem cs_0 {l : List Tok} {i : Nat} {a b d o m : Int} {x : ByteArray} {p : Nat} (hc : cf l i = (a, b, d, o, m)) (h : l[i]? = some (0, x, p)) : cf l (i + 1) = (a + 1, b, d, o, m) := by rw [cf_succ h, hc]; rfl
theorem cs_1 {l : List Tok} {i : Nat} {a b d o m : Int} {x : ByteArray} {p : Nat} (hc : cf l i = (a, b, d, o, m)) (h : l[i]? = some (1, x, p)) : cf l (i + 1) = (a, b + 1, d, o, m) := by rw [cf_succ h, hc]; rfl
theorem cs_2 {l : List Tok} {i : Nat} {a b d o m : Int} {x : ByteArray} {p : Nat} {q : Int} (hc : cf l i = (a, b, d, o, m)) (h : l[i]? = some (2, x, p)) (hq : o + opn x = q) : cf l (i + 1) = (a, b, d + 1, q, max m q) := by
  rw [cf_succ h, hc, ← hq]; rfl
end Go.Proofs.Ytnpbpiommpgikaa.Vc
