/- The calculus: what is handed in, read as abstract values: slices of rows, of whole numbers; structs. -/
import Derived.Test.YtcdipmjgpimmdaaVcM
import Derived.Test.YtcdipmjgpimmdaaRows
import Derived.Deep.Slices
import Derived.Deep.Strs
import Derived.WideShapes
import Derived.Carry
set_option linter.unusedVariables false
set_option linter.unusedSimpArgs false
namespace Go.Proofs.Ytcdipmjgpimmdaa.Vc
open Go Go.RowKit Go.ChangeShapes Go.WideShapes Go.Deep

section
variable {H : Type} {enc : TypeId × Value → H} {P : Program} {w : World} {sp : Nat → Bool} {held : Bool}
theorem cells_at {a : Addr} {n : Nat} {cs : List Value} (h : w.cells? 0 a n = some cs) : cs.length = n ∧ ∀ j y, cs[j]? = some y → w.cell? (a.add j) = some y := by
  obtain ⟨_, h1, h2⟩ := World.cells?_some h
  refine ⟨h1, fun j y hj => ?_⟩
  have hlt : j < n := by have := (List.getElem?_eq_some_iff.1 hj).1; omega
  rw [h2 j hlt, hj]
theorem bulk_range {α : Type} (f : α → DataW H) (l : List α) : Rows.uptoBulkAll (l.map f) = (l.map fun i => Rows.uptoBulk (f i)).sum := by
  induction l with
  | nil => rfl
  | cons a l ih => rw [List.map_cons, List.map_cons, List.sum_cons, ← ih]; rfl
theorem relC_cells {B : Nat} {ρ : List Re} {L : Nat → Prop} {ad : Addr} : ∀ (cs : List Value) (k : Nat), (∀ j y, cs[j]? = some y → w.cell? (ad.add (k + j)) = some y) → RelC w L B ρ ad k (cs.map cV)
  | [], _, _ => trivial
  | v :: cs, k, h => ⟨⟨v, by have := h 0 v rfl; rwa [Nat.add_zero] at this, rel_cV _ _ _ _ v⟩, relC_cells cs (k + 1) fun j y hj => by have := h (j + 1) y (by simpa using hj); rwa [show k + (j + 1) = k + 1 + j by omega] at this⟩
theorem list_of {α : Type} {p : Nat → α → Prop} : ∀ (n : Nat), (∀ i, i < n → ∃ τ, p i τ) → ∃ l : List α, l.length = n ∧ ∀ i τ, l[i]? = some τ → p i τ
  | 0, _ => ⟨[], rfl, by simp⟩
  | n + 1, h => by
    obtain ⟨l, h1, h2⟩ := list_of n fun i hi => h i (by omega)
    obtain ⟨τ, h3⟩ := h n (by omega)
    refine ⟨l ++ [τ], by simp [h1], fun i x hx => ?_⟩
    rcases Nat.lt_or_ge i l.length with hlt | hge
    · rw [List.getElem?_append_left hlt] at hx; exact h2 i x hx
    · rw [List.getElem?_append_right hge] at hx
      have hi : i - l.length = 0 := by have := (List.getElem?_eq_some_iff.1 hx).1; simp at this; omega
      rw [hi] at hx
      simp at hx
      subst hx
      rwa [show i = n by omega]
theorem sum_le {α : Type} {bk : α → Nat} : ∀ (l : List α) (f : Nat → Nat), (∀ i τ, l[i]? = some τ → bk τ ≤ f i) → (l.map bk).sum ≤ ((List.range l.length).map f).sum
  | [], f, _ => by simp
  | x :: l, f, h => by
    have ih := sum_le l (fun i => f (i + 1)) fun i τ hi => h (i + 1) τ (by simpa using hi)
    have h0 := h 0 x rfl
    rw [List.length_cons, List.range_succ_eq_map, List.map_cons, List.map_cons, List.sum_cons, List.sum_cons, List.map_map]
    have e : (f ∘ Nat.succ) = fun i => f (i + 1) := rfl
    rw [e]
    omega
/-- A slice that is handed in: its elements, each as a row. -/
theorem open_rowsV {α : Type} {rowOf : α → List V} {bk : α → Nat} {ok : α → Prop} {t e sz : Nat} {r : Reach} {b0 : Nat} (ht : P.underlying t = some (.slice e)) (hc : P.cellsOf e = sz) (hpos : 0 < sz)
    (hrow : ∀ n cs x, DataW.trod enc P w 0 sp held n e cs = some x → ∃ τ, cs.map cV = rowOf τ ∧ bk τ ≤ Rows.uptoBulk x.1 ∧ ok τ) {v : Value} {d : DataW H} {ps : List MemPlace} (hval : Value.okWide P w r b0 t v) (hd : DataW.Trod enc P w 0 sp held t v d ps) :
    ∃ l : List α, Rel w (fun _ => False) w.heap.size [] (.l false sz (l.map rowOf)) v ∧ (l.map bk).sum + 1 ≤ Rows.uptoBulk d ∧ (∀ τ ∈ l, ok τ) := by
  obtain ⟨A, len, cap, rfl⟩ := okWide_slice ht hval
  obtain ⟨fuel, hd⟩ := hd
  have hcl : (Value.slice A len cap).cells.toList = [Value.slice A len cap] := rfl
  rw [hcl] at hd
  rcases open_slice ht hd with ⟨h1, h2⟩ | ⟨a, len', cap', m, n, D, Pl, h1, h2, h3, h4, h5, h6, h7⟩
  · injection h2 with h2 h3
    subst h2
    have h1' : Value.slice A len cap = .slice none 0 0 := by injection h1
    rw [h1']
    exact ⟨[], ⟨none, 0, rfl, Nat.le_refl _, by simp [maxLen], fun h => absurd rfl h⟩, by simp [Rows.uptoBulk], by simp⟩
  · have h1' : Value.slice A len cap = .slice (some a) len' cap' := by injection h1
    injection h6 with h6 h6'
    have hlm : len' ≤ m := by rw [h5]; split <;> omega
    obtain ⟨l, hl, hall⟩ := list_of (p := fun i (τ : α) => ∃ cs, w.cells? 0 (a.add (i * sz)) sz = some cs ∧ cs.map cV = rowOf τ ∧ bk τ ≤ Rows.uptoBulk (D i) ∧ ok τ) len' fun i hi => by
      obtain ⟨cs, k1, k2⟩ := h7 i (by omega)
      obtain ⟨τ, k3, k4, k5⟩ := hrow _ _ _ k2
      exact ⟨τ, cs, by rw [← hc]; exact k1, k3, k4, k5⟩
    refine ⟨l, ?_, ?_, fun τ hτ => ?_⟩
    · rw [h1']
      refine ⟨some a, cap', by rw [List.length_map, hl], by rw [List.length_map, hl]; exact h3, h4, fun hne => ⟨a, rfl, ⟨?_, fun h => h, fun h => by cases h⟩, relR_of _ 0 ?_ fun i row hi => ?_⟩⟩
      · have h0 : 0 < len' := by
          rcases Nat.eq_zero_or_pos len' with h | h
          · exfalso; apply hne; rw [List.eq_nil_of_length_eq_zero (hl.trans h)]; rfl
          · exact h
        obtain ⟨cs, k1, _⟩ := h7 0 (by omega)
        have := World.cells?_block k1 (by rw [hc]; exact hpos)
        rwa [Nat.zero_mul, block_add] at this
      · intro row hrow'
        obtain ⟨τ, hτ, rfl⟩ := List.mem_map.1 hrow'
        obtain ⟨i, hi⟩ := List.getElem?_of_mem hτ
        obtain ⟨cs, k1, k2, _⟩ := hall i τ hi
        rw [← k2, List.length_map]
        exact (cells_at k1).1
      · rw [List.getElem?_map] at hi
        cases hτ : l[i]? with
        | none => rw [hτ] at hi; cases hi
        | some τ =>
          rw [hτ] at hi
          simp only [Option.map_some, Option.some.injEq] at hi
          subst hi
          obtain ⟨cs, k1, k2, _⟩ := hall i τ hτ
          rw [← k2]
          refine relC_cells cs _ fun j y hj => ?_
          have := (cells_at k1).2 j y hj
          rwa [Go.Deep.add_add, show i * sz + j = 0 + i * sz + j by omega] at this
    · rw [h6]
      simp only [Rows.uptoBulk]
      rw [bulk_range]
      have := sum_le l (fun i => Rows.uptoBulk (D i)) fun i τ hi => (hall i τ hi).choose_spec.2.2.1
      rw [hl] at this
      omega
    · obtain ⟨i, hi⟩ := List.getElem?_of_mem hτ
      exact (hall i τ hi).choose_spec.2.2.2
theorem sum_ones {α : Type} (l : List α) : (l.map fun _ => 1).sum = l.length := by
  induction l with
  | nil => rfl
  | cons _ l ih => rw [List.map_cons, List.sum_cons, ih, List.length_cons]; omega
/-- A slice of whole numbers that is handed in. -/
theorem open_numsV {t e : Nat} {k : IntKind} (ht : P.underlying t = some (.slice e)) (he : P.underlying e = some (.int k)) (hc : P.cellsOf e = 1) {n0 : Nat} {v : Value} {x : DataW H × List MemPlace} (hd : DataW.trod enc P w 0 sp held n0 t [v] = some x) :
    ∃ l : List Int, Rel w (fun _ => False) w.heap.size [] (.n false k l) v ∧ l.length + 1 ≤ Rows.uptoBulk x.1 ∧ (∀ y ∈ l, (Lit.int k y).wf = true) := by
  rcases open_slice ht hd with ⟨h1, h2⟩ | ⟨a, len', cap', m, n, D, Pl, h1, h2, h3, h4, h5, h6, h7⟩
  · injection h1 with h1
    subst h1; subst h2
    exact ⟨[], ⟨none, 0, rfl, Nat.le_refl _, Nat.zero_le _, fun h => absurd rfl h⟩, Nat.le_refl 1, fun y hy => by cases hy⟩
  · injection h1 with h1
    subst h1; subst h6
    have hlm : len' ≤ m := by rw [h5]; split <;> omega
    obtain ⟨l, hl, hall⟩ := list_of (p := fun i (y : Int) => w.cell? (a.add i) = some (.int k y) ∧ (Lit.int k y).wf = true ∧ 1 ≤ Rows.uptoBulk (D i)) len' fun i hi => by
      obtain ⟨cs, k1, k2⟩ := h7 i (by omega)
      obtain ⟨y, k3, k4, k5⟩ := DataW.trod_int he k2
      rw [hc, Nat.mul_one] at k1
      subst k3
      refine ⟨y, ?_, k5, ?_⟩
      · have := (cells_at k1).2 0 _ rfl
        rwa [Go.Deep.add_add, Nat.add_zero] at this
      · have : D i = .lit (.int k y) := congrArg Prod.fst k4
        rw [this]; exact Nat.le_refl 1
    refine ⟨l, ⟨some a, cap', by rw [hl], by rw [hl]; exact h3, h4, fun hne => ⟨a, rfl, ⟨?_, fun h => h, fun h => by cases h⟩, fun j y hj => (hall j y hj).1⟩⟩, ?_, fun y hy => ?_⟩
    · have h0 : 0 < len' := by
        rcases Nat.eq_zero_or_pos len' with h | h
        · exact absurd (List.eq_nil_of_length_eq_zero (hl.trans h)) hne
        · exact h
      obtain ⟨cs, k1, _⟩ := h7 0 (by omega)
      have := World.cells?_block k1 (by rw [hc]; decide)
      rwa [Nat.zero_mul, block_add] at this
    · simp only [Rows.uptoBulk]
      rw [bulk_range]
      have := sum_le (bk := fun _ => 1) l (fun i => Rows.uptoBulk (D i)) fun i y hi => (hall i y hi).2.2
      rw [hl] at this
      have e := sum_ones l
      omega
    · obtain ⟨i, hi⟩ := List.getElem?_of_mem hy
      exact (hall i y hi).2.1
theorem wf_u64 {y : Int} (h : (Lit.int .u64 y).wf = true) : 0 ≤ y ∧ y < 18446744073709551616 := by
  simp only [Lit.wf, Bool.and_eq_true, decide_eq_true_eq] at h
  have h1 : IntKind.u64.min = 0 := by decide
  have h2 : IntKind.u64.max = 18446744073709551615 := by decide
  omega
end
end Go.Proofs.Ytcdipmjgpimmdaa.Vc
