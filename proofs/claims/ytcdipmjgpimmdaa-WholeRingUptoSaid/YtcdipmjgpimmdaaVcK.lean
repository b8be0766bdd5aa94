/- The calculus, eleventh part: structs built by value; parts of them; own objects handed over for good. -/
import Derived.Test.YtcdipmjgpimmdaaVcJ
set_option linter.unusedVariables false
set_option linter.unusedSimpArgs false
namespace Go.Proofs.Ytcdipmjgpimmdaa.Vc
open Go Go.RowKit

theorem fold_at : ∀ (l : List Value) (k off : Nat) (cells : Array Value) (j : Nat),
    ((l.zipIdx k).foldl (fun (cs : Array Value) (p : Value × Nat) => cs.setIfInBounds (off + p.2) p.1) cells)[j]? = (if off + k ≤ j ∧ j < off + k + l.length ∧ j < cells.size then l[j - (off + k)]? else cells[j]?) ∧
    ((l.zipIdx k).foldl (fun (cs : Array Value) (p : Value × Nat) => cs.setIfInBounds (off + p.2) p.1) cells).size = cells.size
  | [], k, off, cells, j => by simp; intro h1 h2; omega
  | c :: l, k, off, cells, j => by
    rw [List.zipIdx_cons, List.foldl_cons]
    obtain ⟨h1, h2⟩ := fold_at l (k + 1) off (cells.setIfInBounds (off + k) c) j
    refine ⟨?_, by rw [h2]; simp⟩
    rw [h1]
    simp only [Array.size_setIfInBounds, List.length_cons]
    by_cases hj : off + k ≤ j ∧ j < off + k + (l.length + 1) ∧ j < cells.size
    · rw [if_pos hj]
      by_cases hj2 : j = off + k
      · subst hj2
        rw [if_neg (by omega)]
        simp [hj.2.2]
      · rw [if_pos (by omega)]
        have : j - (off + k) = (j - (off + (k + 1))) + 1 := by omega
        rw [this]; rfl
    · rw [if_neg hj, if_neg (by omega)]
      by_cases hj2 : off + k = j
      · subst hj2
        have : ¬ off + k < cells.size := by omega
        simp [this]
      · rw [Array.getElem?_setIfInBounds_ne hj2]

theorem all_of {H : List Ob} {ys : List V} (h : ys.all (fun y => (cellsV y).all (oneO H)) = true) : ∀ y ∈ ys, (cellsV y).all (oneO H) = true := fun y hy => List.all_eq_true.1 h y hy
theorem all2_of {H : List Ob} {ys : List V} {sz : Nat} (h : ys.all (fun y => Nat.beq (cellsV y).length sz && (cellsV y).all (oneO H)) = true) : ∀ y ∈ ys, (cellsV y).length = sz ∧ (cellsV y).all (oneO H) = true := fun y hy => by
  have := List.all_eq_true.1 h y hy
  rw [Bool.and_eq_true] at this
  exact ⟨Nat.eq_of_beq_eq_true this.1, this.2⟩
/-- Parts laid over cells. -/
def setP : List V → List (Nat × Nat) → List V → List V
  | cs, (o, _) :: ps, y :: ys => setP (setV cs o (cellsV y)) ps ys
  | cs, _, _ => cs
/-- Where the parts of such a number lie. -/
def plsB (P : Program) (T : TypeId) (is : List Nat) (pls : List (Nat × Nat)) : Bool :=
  match P.underlying T with
  | some (.struct fs) => fs.all (fun f => (P.info? f.type).isSome) && (is.map fun i => (fs[i]?).bind fun f => (P.info? f.type).map fun inf => (f.offset, inf.size)) == pls.map some
  | _ => false
def plsOk (pls : List (Nat × Nat)) (ys : List V) (m : Nat) : Prop :=
  match pls, ys with
  | [], [] => True
  | (o, n) :: ps, y :: ys => (cellsV y).length = n ∧ o + n ≤ m ∧ plsOk ps ys m
  | _, _ => False

section
variable {P : Program} {Γ : Ctx} {F : Fr} {H : List Ob} {Q : Exit → Fr → List Ob → Prop}
theorem fill_ok {ρ : List Re} {a : Act} {w : World} (s : StA Γ ρ F H a w) (place : Nat → Option (Nat × Nat)) : ∀ (is : List Nat) (pls : List (Nat × Nat)) (ys : List V) (us : List Value) (cur : Array Value) (cs : List V),
    is.map place = pls.map some → RelL w (Lset Γ.M ρ H) Γ.w0.heap.size ρ ys us → is.length = ys.length → plsOk pls ys cs.length → (∀ y ∈ ys, (cellsV y).all (oneO H) = true) → cur.size = cs.length →
    (∀ (j : Nat) (y : V), cs[j]? = some y → ∃ c, cur[j]? = some c ∧ Rel w (Lset Γ.M ρ H) Γ.w0.heap.size ρ y c) →
    ∃ cells, Instr.fill place cur (is.zip us) = some cells ∧ cells.size = (setP cs pls ys).length ∧ ∀ (j : Nat) (y : V), (setP cs pls ys)[j]? = some y → ∃ c, cells[j]? = some c ∧ Rel w (Lset Γ.M ρ H) Γ.w0.heap.size ρ y c
  | [], [], [], us, cur, cs, _, hr, _, _, _, h1, h2 => by have : us = [] := hr; subst this; exact ⟨cur, rfl, h1, h2⟩
  | i :: is, (o, n) :: pls, y :: ys, us, cur, cs, hp, ⟨u, us', e, r1, r2⟩, hl, ⟨k1, k2, k3⟩, hone, h1, h2 => by
    subst e
    simp only [List.map_cons, List.cons.injEq] at hp
    obtain ⟨hs, hc⟩ := s.cellsV (hone y (List.mem_cons_self ..)) r1
    have hf := fun j => fold_at u.cells.toList 0 o cur j
    have ef : u.cells.zipIdx.foldl (fun cs (x : Value × Nat) => cs.setIfInBounds (o + x.2) x.1) cur = (u.cells.toList.zipIdx 0).foldl (fun (cs : Array Value) (p : Value × Nat) => cs.setIfInBounds (o + p.2) p.1) cur := by
      rw [← Array.foldl_toList, Array.toList_zipIdx]
    have := fill_ok s place is pls ys us' (u.cells.zipIdx.foldl (fun cs (x : Value × Nat) => cs.setIfInBounds (o + x.2) x.1) cur) (setV cs o (cellsV y)) hp.2 r2 (by simpa using hl) (by rw [setV_length]; exact k3) (fun z hz => hone z (List.mem_cons_of_mem _ hz))
      (by rw [ef, (hf 0).2, setV_length, h1]) (fun j z hz => by
        rw [ef, (hf j).1]
        have hjlt : j < cs.length := by have := (List.getElem?_eq_some_iff.1 hz).1; rwa [setV_length] at this
        rcases setV_at cs o (cellsV y) j z hz with ⟨a1, a2, a3⟩ | ⟨a1, a2⟩
        · obtain ⟨c, d1, _, d3⟩ := hc _ _ a3
          refine ⟨c, ?_, d3⟩
          rw [if_pos ⟨by omega, by simp [hs]; omega, by omega⟩]
          rw [← Array.getElem?_toList] at d1
          rw [← d1]; congr 1
        · obtain ⟨c, d1, d2⟩ := h2 j z a2
          refine ⟨c, ?_, d2⟩
          rw [if_neg (by simp [hs]; omega)]; exact d1)
    obtain ⟨cells, e1, e2, e3⟩ := this
    refine ⟨cells, ?_, e2, e3⟩
    show Instr.fill place cur ((i, u) :: is.zip us') = some cells
    unfold Instr.fill
    rw [hp.1]
    simp only []
    rw [if_neg (by simp [hs]; omega)]
    exact e1
/-- A struct built. -/
theorem ly_build {T : TypeId} {zs : List Value} {is : List Nat} {pls : List (Nat × Nat)} {parts : Array (Nat × Operand)} {xs : List Operand} {ys rs : List V} (hz : ((P.info? T).bind (·.zero)).map (·.cells.toList) = some zs)
    (hpl : plsB P T is pls = true) (hp : parts.toList = is.zip xs) (hx : ovL F xs ys) (hl : Nat.beq is.length xs.length = true) (hok : plsOk pls ys zs.length) (hone : ∀ y ∈ ys, (cellsV y).all (oneO H) = true) (hrs : setP (zs.map cV) pls ys = rs) :
    LY P Γ (.build T parts) F H (.a rs) := fun ρ a w s => by
  have hl := Nat.eq_of_beq_eq_true hl
  have hr := s.ovL hx
  cases hu : P.underlying T with
  | none => simp [plsB, hu] at hpl
  | some D =>
    cases D with
    | struct fs =>
      simp only [plsB, hu, Bool.and_eq_true, beq_iff_eq] at hpl
      obtain ⟨hall, hpl⟩ := hpl
      cases hi : P.info? T with
      | none => rw [hi] at hz; cases hz
      | some inf =>
        rw [hi] at hz
        cases hz0 : inf.zero with
        | none => simp [hz0] at hz
        | some z =>
          simp [hz0] at hz
          let pl : Nat → Option (Nat × Nat) := fun i => (fs[i]?).bind fun f => (P.info? f.type).map fun inf => (f.offset, inf.size)
          have hys : xs.length = ys.length := by have := (relL_one ys (xs.map a.eval) hr).1; simpa using this
          obtain ⟨cells, e1, e2, e3⟩ := fill_ok s pl is pls ys (xs.map a.eval) z.cells (zs.map cV) hpl hr (by omega) (by simpa using hok) hone (by rw [← hz]; simp) (fun j y hy => by
            rw [List.getElem?_map] at hy
            cases hj : zs[j]? with
            | none => rw [hj] at hy; cases hy
            | some v =>
              rw [hj] at hy; simp at hy; subst hy
              refine ⟨v, ?_, rel_cV _ _ _ _ _⟩
              rw [← hz] at hj; simpa using hj)
          have hmap : ∀ w', (fs.mapM (fun f => do pure (f.offset, ← sizeOf f.type) : Field → Sem (Nat × Nat))).run P w' = .ok (fs.map fun f => (f.offset, ((P.info? f.type).map (·.size)).getD 0)) w' := by
            intro w'
            rw [Array.mapM_eq_mapM_toList]
            have : ∀ l : List Field, (∀ f ∈ l, (P.info? f.type).isSome = true) → (l.mapM (fun f => do pure (f.offset, ← sizeOf f.type) : Field → Sem (Nat × Nat))).run P w' = .ok (l.map fun f => (f.offset, ((P.info? f.type).map (·.size)).getD 0)) w' := by
              intro l
              induction l with
              | nil => intro _; simp
              | cons f l ih =>
                intro h
                have hf := h f (List.mem_cons_self ..)
                cases hfi : P.info? f.type with
                | none => rw [hfi] at hf; simp at hf
                | some fi =>
                  have e : (sizeOf f.type).run P w' = .ok fi.size w' := run_sizeOf' (by simp [hfi]) w'
                  rw [List.mapM_cons]
                  simp only [Sem.run_bind, e, Result.andThen_ok, Sem.run_pure, ih (fun g hg => h g (List.mem_cons_of_mem _ hg)), List.map_cons, hfi, Option.map_some, Option.getD_some]
            have h2 := this fs.toList (fun f hf => by have := (Array.all_eq_true_iff_forall_mem.1 hall) f (by simpa using hf); exact this)
            have e0 : (List.toArray <$> fs.toList.mapM (fun f => do pure (f.offset, ← sizeOf f.type) : Field → Sem (Nat × Nat))) = (do let l ← fs.toList.mapM (fun f => do pure (f.offset, ← sizeOf f.type) : Field → Sem (Nat × Nat)); pure l.toArray) := rfl
            rw [e0, Sem.run_bind, h2]
            simp only [Result.andThen_ok, Sem.run_pure]
            congr 1
            apply Array.ext'
            simp
          have hplaces : ∀ i, (fs.map fun f => (f.offset, ((P.info? f.type).map (·.size)).getD 0))[i]? = pl i := by
            intro i
            simp only [pl, Array.getElem?_map]
            cases hfi : fs[i]? with
            | none => rfl
            | some f =>
              have := (Array.all_eq_true_iff_forall_mem.1 hall) f (Array.mem_of_getElem? hfi)
              cases hg : P.info? f.type with
              | none => rw [hg] at this; simp at this
              | some g => simp [hg]
          have hparts : (parts.map fun (i, x) => (i, a.eval x)).toList = is.zip (xs.map a.eval) := by
            rw [Array.toList_map, hp]
            have : ∀ (is : List Nat) (xs : List Operand), (is.zip xs).map (fun (p : Nat × Operand) => (p.1, a.eval p.2)) = is.zip (xs.map a.eval) := by
              intro is
              induction is with
              | nil => intro xs; rfl
              | cons i is ih => intro xs; cases xs with
                | nil => rfl
                | cons x xs => simp [ih]
            exact this is xs
          refine ⟨.agg cells, ⟨cells.toList, by simp, ?_⟩, fun _ _ _ _ _ w' _ => ?_⟩
          · have : ∀ (rs : List V) (us : List Value), us.length = rs.length → (∀ (j : Nat) (y : V), rs[j]? = some y → ∃ c, us[j]? = some c ∧ Rel w (Lset Γ.M ρ H) Γ.w0.heap.size ρ y c) → RelL w (Lset Γ.M ρ H) Γ.w0.heap.size ρ rs us := by
              intro rs
              induction rs with
              | nil => intro us h _; exact List.eq_nil_of_length_eq_zero (by simpa using h)
              | cons y rs ih =>
                intro us h h2
                cases us with
                | nil => simp at h
                | cons u us =>
                  obtain ⟨c, c1, c2⟩ := h2 0 y rfl
                  simp at c1; subst c1
                  exact ⟨u, us, rfl, c2, ih us (by simpa using h) fun j z hz => by simpa using h2 (j + 1) z (by simpa using hz)⟩
            refine this rs cells.toList (by rw [← hrs]; simpa using e2) fun j y hy => ?_
            rw [← hrs] at hy
            obtain ⟨c, c1, c2⟩ := e3 j y hy
            exact ⟨c, by simpa using c1, c2⟩
          · have e : (Instr.build T (parts.map fun (i, x) => (i, a.eval x))).run P w' = .ok (.agg cells) w' := by
              have hzv : (zeroValue T).run P w' = .ok z w' := by simp [zeroValue, typeInfo, hi, hz0]
              unfold Instr.build
              simp only [Sem.run_bind, hzv, Result.andThen_ok, run_underlying hu, hmap, hparts]
              rw [show (fun x => (fs.map fun f => (f.offset, ((P.info? f.type).map (·.size)).getD 0))[x]?) = pl from funext hplaces, e1]
              rfl
            exact run_v e
    | _ => simp [plsB, hu] at hpl
end
end Go.Proofs.Ytcdipmjgpimmdaa.Vc
