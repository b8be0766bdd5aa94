/- The calculus, sixth part: rows of whole numbers, make, slice literals, append, slicing. -/
import Derived.Test.YtcdipmjgpimmdaaVcE
set_option linter.unusedVariables false
set_option linter.unusedSimpArgs false
namespace Go.Proofs.Ytcdipmjgpimmdaa.Vc
open Go Go.RowKit

/-- A row of whole numbers. -/
def ints (k : IntKind) (l : List Int) : List V := l.map (V.i k)
theorem ints_at (k : IntKind) (l : List Int) (j : Nat) : (ints k l)[j]? = (l[j]?).map (V.i k) := by simp [ints]
theorem ints_length (k : IntKind) (l : List Int) : (ints k l).length = l.length := by simp [ints]
theorem ints_append (k : IntKind) (l m : List Int) : ints k l ++ ints k m = ints k (l ++ m) := by simp [ints]
theorem setV_ints (k : IntKind) (n : Int) : ∀ (l : List Int) (i : Nat), setV (ints k l) i [.i k n] = ints k (l.set i n)
  | [], i => by simp [ints, setV]
  | x :: l, 0 => by
    show V.i k n :: setV (ints k l) 0 [] = _
    cases l <;> simp [ints, setV]
  | x :: l, i + 1 => by
    show V.i k x :: setV (ints k l) i [.i k n] = _
    rw [setV_ints k n l i]; rfl

/-- A slice's element type: cells, bytes, the zero's cells. -/
def elB (P : Program) (T E : TypeId) (sz bytes : Nat) (z : Value) : Bool :=
  (match P.underlying T with | some (.slice e) => e == E | _ => false) && (P.info? E).any (fun i => i.size == sz && i.bytes == bytes) && z.cells.size == sz
def elP (P : Program) (T E : TypeId) (sz bytes : Nat) (z : Value) : Prop := ∃ i, P.underlying T = some (.slice E) ∧ P.info? E = some i ∧ i.zero = some z ∧ i.size = sz ∧ i.bytes = bytes ∧ z.cells.size = sz ∧ 0 < sz
theorem elP_of {P : Program} {T E sz bytes : Nat} {z : Value} (hu : P.underlying T = some (.slice E)) (hi : (P.info? E).map (fun i => (i.zero, i.size, i.bytes)) = some (some z, sz, bytes)) (hz : z.cells.size = sz) (h0 : 0 < sz) : elP P T E sz bytes z := by
  obtain ⟨i, h1, h2⟩ := Option.map_eq_some_iff.1 hi
  simp only [Prod.mk.injEq] at h2
  exact ⟨i, hu, h1, h2.1, h2.2.1, h2.2.2, hz, h0⟩

section
variable {P : Program} {Γ : Ctx} {F : Fr} {H : List Ob} {Q : Exit → Fr → List Ob → Prop}

/-- A load out of an own row of whole numbers. -/
theorem ly_ldi {T : TypeId} {x : Operand} {id ver off t sz : Nat} {k : IntKind} {l : List Int} (hT : oneB P T = true) (hx : ovO F x = some (.p id ver off)) (hH : H[id]? = some ⟨t, sz, ver, true, ints k l⟩) (h : off < l.length) :
    LY P Γ (.load T x) F H (.i k (l.getD off 0)) := ly_ld hT hx hH (by rw [ints_at, List.getElem?_eq_getElem h, List.getD_eq_getElem?_getD, List.getElem?_eq_getElem h]; rfl)
theorem sy_storei {T : TypeId} {x z : Operand} {id ver off t sz : Nat} {k : IntKind} {l : List Int} {n : Int} (hx : ovO F x = some (.p id ver off)) (hz : ovO F z = some (.i k n)) (hH : H[id]? = some ⟨t, sz, ver, true, ints k l⟩)
    (hT : oneB P T = true) (h : off < l.length) : SY P Γ (.store T x z) F H (H.set id ⟨t, sz, ver, true, ints k (l.set off n)⟩) := by
  have := sy_store (Γ := Γ) (T := T) (n := 1) hx hz hH (oneB_size hT) rfl rfl (by rw [ints_length]; omega)
  rwa [show cellsV (.i k n) = [.i k n] from rfl, setV_ints] at this

/-! ### make -/
theorem madeCells_at (z : Array Value) (n j : Nat) (h : j < n) : (madeCells z n)[j]? = some (z[j % z.size]!) := by simp [madeCells, h]
theorem o_new {ρ : List Re} {B : Nat} {L : Nat → Prop} {w' : World} {re : Re} {g : Nat} (hg : re.g = some g) (hv : re.ver = 0) {id len : Nat} (hid : ρ.length = id) (hlen : len ≤ re.cap) : Rel w' L B (ρ ++ [re]) (.o id 0 0 len) (.slice (some ⟨g, 0, none⟩) len re.cap) := by
  subst hid
  exact ⟨re, by simp, Nat.zero_le _, fun _ => ⟨by omega, .inl ⟨g, ⟨g, 0, none⟩, hg, by simp, fun _ => by simp⟩⟩⟩
/-- make([]T, n) of whole numbers. -/
theorem hy_mk {T E bytes m id : Nat} {k : IntKind} {x y : Operand} {n : Int} {kx ky : IntKind} (hT : elP P T E 1 bytes (.int k 0)) (hx : ovO F x = some (.i kx n)) (hy : ovO F y = some (.i ky n)) (hn : n = (m : Int)) (hb : bytes * m ≤ 281474976710656) (h63 : m ≤ maxLen) (hid : H.length = id) :
    HY P Γ (.makeSlice T x y) F H (.o id 0 0 m) (H ++ [⟨E, 1, 0, true, ints k (List.replicate m 0)⟩]) := fun ρ a w s => by
  obtain ⟨i, hu, hi, hz, hs, hby, hzs, _⟩ := hT
  have hb' : (i.bytes : Int) * n ≤ 281474976710656 := by rw [hn, hby, ← Int.natCast_mul]; omega
  have e1 := run_make (P := P) w T E i (.int k 0) hu hi hz kx ky n n (by omega) (Int.le_refl _) hb' (by simp only [maxLen] at h63; omega)
  have em : n.toNat = m := by omega
  rw [em, hs, Nat.mul_one] at e1
  refine ⟨_, _, _, o_new (re := ⟨some w.heap.size, m, 0, 1⟩) rfl rfl (by rw [s.hr.len, hid]) (Nat.le_refl _), s.alloc (madeCells (Value.int k 0).cells m) E (ints k (List.replicate m 0)) 1 m (by simp [size_madeCells]) h63 (by simp [size_madeCells, ints]) ?_, ext_alloc w _, fun _ _ _ _ _ => ?_⟩
  · intro j y hy
    rw [ints_at] at hy
    rcases Nat.lt_or_ge j m with hlt | hge
    · rw [List.getElem?_replicate, if_pos hlt] at hy
      simp at hy; subst hy
      exact ⟨.int k 0, by rw [madeCells_at _ _ _ hlt]; simp [Value.cells, Nat.mod_one], rfl, rfl⟩
    · rw [List.getElem?_replicate, if_neg (by omega)] at hy; cases hy
  · have e : (Instr.makeSlice T (a.eval x) (a.eval y)).run P w = .ok (.slice (some ⟨w.heap.size, 0, none⟩) m m) (w.alloc (.cells (madeCells (Value.int k 0).cells m) E)) := by rw [eval_i s hx, eval_i s hy]; exact e1
    exact run_v e
/-- make([]T, 0, n) of anything. -/
theorem hy_mk0 {T E sz bytes m id : Nat} {z : Value} {x y : Operand} {n : Int} {kx ky : IntKind} (hT : elP P T E sz bytes z) (hx : ovO F x = some (.i kx 0)) (hy : ovO F y = some (.i ky n)) (hn : n = (m : Int)) (hb : bytes * m ≤ 281474976710656) (h63 : m ≤ maxLen) (hid : H.length = id) :
    HY P Γ (.makeSlice T x y) F H (.o id 0 0 0) (H ++ [⟨E, sz, 0, true, []⟩]) := fun ρ a w s => by
  obtain ⟨i, hu, hi, hz, hs, hby, hzs, _⟩ := hT
  have hb' : (i.bytes : Int) * n ≤ 281474976710656 := by rw [hn, hby, ← Int.natCast_mul]; omega
  have e1 := run_make (P := P) w T E i z hu hi hz kx ky 0 n (by omega) (by omega) hb' (by simp only [maxLen] at h63; omega)
  have em : n.toNat = m := by omega
  rw [em, hs] at e1
  refine ⟨_, _, _, o_new (re := ⟨some w.heap.size, m, 0, sz⟩) rfl rfl (by rw [s.hr.len, hid]) (Nat.zero_le _), s.alloc (madeCells z.cells (m * sz)) E [] sz m (by simp [size_madeCells]) h63 (by simp) (by simp), ext_alloc w _, fun _ _ _ _ _ => ?_⟩
  have e : (Instr.makeSlice T (a.eval x) (a.eval y)).run P w = .ok (.slice (some ⟨w.heap.size, 0, none⟩) 0 m) (w.alloc (.cells (madeCells z.cells (m * sz)) E)) := by rw [eval_i s hx, eval_i s hy]; exact e1
  exact run_v e

/-! ### Slice literals -/
theorem set_mid {α : Type} (pre : List α) (m x : α) (rest : List α) : (pre ++ m :: rest).set pre.length x = pre ++ x :: rest := by
  rw [List.set_append_right _ _ (Nat.le_refl _)]; simp
theorem fold_set : ∀ (v mid pre post : List Value) (off j0 : Nat), mid.length = v.length → pre.length = off + j0 →
    (((v.zipIdx j0).foldl (fun (cs : Array Value) (p : Value × Nat) => cs.setIfInBounds (off + p.2) p.1) (pre ++ mid ++ post).toArray)) = (pre ++ v ++ post).toArray
  | [], mid, pre, post, off, j0, h, _ => by have := List.eq_nil_of_length_eq_zero h; subst this; simp
  | x :: v, [], pre, post, off, j0, h, _ => by simp at h
  | x :: v, m :: mid, pre, post, off, j0, h, hp => by
    simp only [List.zipIdx_cons, List.foldl_cons]
    have e1 : (pre ++ (m :: mid) ++ post).toArray.setIfInBounds (off + j0) x = ((pre ++ [x]) ++ mid ++ post).toArray := by
      rw [List.setIfInBounds_toArray, List.append_assoc, List.cons_append, ← hp, set_mid]; simp
    rw [e1, fold_set v mid (pre ++ [x]) post off (j0 + 1) (by simpa using h) (by simp [hp]; omega)]
    simp
theorem fill_rows (sz : Nat) : ∀ (vs : List Value) (mid pre : List Value) (k : Nat), (∀ v ∈ vs, v.cells.size = sz) → mid.length = vs.length * sz → pre.length = k * sz →
    Instr.fill (fun i => some (i * sz, sz)) (pre ++ mid).toArray ((vs.zipIdx k).map fun p => (p.2, p.1)) = some (pre ++ vs.flatMap fun v => v.cells.toList).toArray
  | [], mid, pre, k, _, h, _ => by have := List.eq_nil_of_length_eq_zero (by simpa using h); subst this; simp [Instr.fill]
  | v :: vs, mid, pre, k, hv, h, hp => by
    have h1 : v.cells.size = sz := hv v (by simp)
    have hm : mid.length = sz + vs.length * sz := by rw [h]; simp only [List.length_cons, Nat.add_mul, Nat.one_mul]; omega
    have e1 : pre ++ mid = pre ++ mid.take sz ++ mid.drop sz := by rw [List.append_assoc, List.take_append_drop]
    have hfold : (v.cells.zipIdx.foldl (fun (cs : Array Value) (p : Value × Nat) => cs.setIfInBounds (k * sz + p.2) p.1) (pre ++ mid).toArray) = (pre ++ v.cells.toList ++ mid.drop sz).toArray := by
      have : v.cells.zipIdx = (v.cells.toList.zipIdx).toArray := by
        apply Array.ext'
        rw [Array.toList_zipIdx]
      rw [this, List.foldl_toArray, e1]
      exact fold_set v.cells.toList (mid.take sz) pre (mid.drop sz) (k * sz) 0 (by simp [h1]; omega) (by simpa using hp)
    have ih := fill_rows sz vs (mid.drop sz) (pre ++ v.cells.toList) (k + 1) (fun u hu => hv u (by simp [hu])) (by simp [hm]) (by simp [hp, h1, Nat.add_mul])
    simp only [List.zipIdx_cons, List.map_cons, Instr.fill]
    rw [if_neg (by simp [h1]; omega)]
    have hfold' : (Array.foldl (fun cs (x : Value × Nat) => match x with | (c, j) => cs.setIfInBounds (k * sz + j) c) (pre ++ mid).toArray v.cells.zipIdx) = (pre ++ v.cells.toList ++ mid.drop sz).toArray := hfold
    rw [hfold', ih]
    simp

/-- What operands are, one by one. -/
def ovL (F : Fr) : List Operand → List V → Prop
  | [], ys => ys = []
  | x :: xs, ys => ∃ y ys', ys = y :: ys' ∧ ovO F x = some y ∧ ovL F xs ys'
theorem ovL_nil : ovL F [] [] := rfl
theorem ovL_cons {x : Operand} {xs : List Operand} {y : V} {ys : List V} (h : ovO F x = some y) (hs : ovL F xs ys) : ovL F (x :: xs) (y :: ys) := ⟨y, ys, rfl, h, hs⟩
theorem StA.ovL {ρ : List Re} {a : Act} {w : World} (s : StA Γ ρ F H a w) : ∀ {xs : List Operand} {ys : List V}, ovL F xs ys → RelL w (Lset Γ.M ρ H) Γ.w0.heap.size ρ ys (xs.map a.eval)
  | [], ys, h => by rw [show ys = [] from h]; rfl
  | x :: xs, ys, ⟨y, ys', e, h1, h2⟩ => by rw [e]; exact ⟨_, _, rfl, s.ov h1, s.ovL h2⟩
/-- Cells of values that are handed by value, one behind the other. -/
def cellsL (ys : List V) : List V := ys.flatMap cellsV
theorem StA.cellsL' {ρ : List Re} {a : Act} {w : World} (s : StA Γ ρ F H a w) (sz : Nat) : ∀ (ys : List V) (us : List Value), RelL w (Lset Γ.M ρ H) Γ.w0.heap.size ρ ys us → (∀ y ∈ ys, (Vc.cellsV y).length = sz ∧ (Vc.cellsV y).all (oneO H) = true) →
    us.length = ys.length ∧ (∀ v ∈ us, v.cells.size = sz) ∧ (us.flatMap fun v => v.cells.toList).length = (Vc.cellsL ys).length ∧
    ∀ (j : Nat) (z : V), (Vc.cellsL ys)[j]? = some z → ∃ c, (us.flatMap fun v => v.cells.toList)[j]? = some c ∧ c.oneCell' = true ∧ Rel w (Lset Γ.M ρ H) Γ.w0.heap.size ρ z c
  | [], us, h, _ => by rw [show us = [] from h]; exact ⟨rfl, by simp, rfl, by simp [Vc.cellsL]⟩
  | y :: ys, us, ⟨u, us', e, h1, h2⟩, hall => by
    obtain ⟨k1, k2⟩ := hall y (by simp)
    obtain ⟨c1, c2⟩ := s.cellsV k2 h1
    obtain ⟨d1, d2, d3, d4⟩ := StA.cellsL' s sz ys us' h2 (fun z hz => hall z (by simp [hz]))
    subst e
    refine ⟨by simp [d1], fun v hv => ?_, ?_, fun j z hz => ?_⟩
    · rcases List.mem_cons.1 hv with rfl | hv
      · omega
      · exact d2 v hv
    · simp only [List.flatMap_cons, List.length_append, Array.length_toList, d3, c1, Vc.cellsL]
    · have hz' : (Vc.cellsV y ++ Vc.cellsL ys)[j]? = some z := hz
      rcases Nat.lt_or_ge j (Vc.cellsV y).length with hlt | hge
      · rw [List.getElem?_append_left hlt] at hz'
        obtain ⟨c, f1, f2, f3⟩ := c2 j z hz'
        refine ⟨c, ?_, f2, f3⟩
        rw [List.flatMap_cons, List.getElem?_append_left (by simp; omega)]
        rw [← Array.getElem?_toList] at f1; exact f1
      · rw [List.getElem?_append_right hge] at hz'
        obtain ⟨c, f1, f2, f3⟩ := d4 _ z hz'
        refine ⟨c, ?_, f2, f3⟩
        rw [List.flatMap_cons, List.getElem?_append_right (by simp; omega)]
        rw [← f1]; congr 1; simp; omega
/-- []T{x, y, ..}: all elements written out. -/
theorem hy_lit {T E sz bytes n id : Nat} {z : Value} {parts : Array (Nat × Operand)} {xs : List Operand} {ys : List V} (hT : elP P T E sz bytes z) (hp : parts.toList = (xs.zipIdx 0).map (fun p => (p.2, p.1))) (hx : ovL F xs ys) (hn : xs.length = n)
    (hall : ∀ y ∈ ys, (cellsV y).length = sz ∧ (cellsV y).all (oneO H) = true) (hlim : n * sz ≤ 2 ^ 24) (hid : H.length = id) :
    HY P Γ (.buildSlice T n parts) F H (.o id 0 0 n) (H ++ [⟨E, sz, 0, true, cellsL ys⟩]) := fun ρ a w s => by
  obtain ⟨i, hu, hi, hz, hs, hby, hzs, hpos⟩ := hT
  obtain ⟨d1, d2, d3, d4⟩ := s.cellsL' sz ys (xs.map a.eval) (s.ovL hx) hall
  have hlen : (xs.map a.eval).length = n := by simpa using hn
  have hflat : ((xs.map a.eval).flatMap fun v => v.cells.toList).length = n * sz := by
    rw [← hlen]
    clear d3 d4 hlen
    generalize xs.map a.eval = us at d2
    clear d1
    induction us with
    | nil => simp
    | cons u us ih => simp only [List.flatMap_cons, List.length_append, Array.length_toList, List.length_cons, Nat.add_mul, Nat.one_mul]; rw [ih (fun v hv => d2 v (by simp [hv])), d2 u (by simp)]; omega
  have hfill : Instr.fill (fun i => some (i * sz, sz)) ((Array.range (n * sz)).map (z.cells[· % z.cells.size]!)) ((parts.map fun (i, x) => (i, a.eval x)).toList) = some ((xs.map a.eval).flatMap fun v => v.cells.toList).toArray := by
    have e1 : (parts.map fun (i, x) => (i, a.eval x)).toList = ((xs.map a.eval).zipIdx 0).map fun p => (p.2, p.1) := by
      rw [Array.toList_map, hp, List.map_map]
      simp [List.zipIdx_map, Function.comp_def]
    rw [e1]
    have := fill_rows sz (xs.map a.eval) ((Array.range (n * sz)).map (z.cells[· % z.cells.size]!)).toList [] 0 d2 (by rw [hlen]; simp) (by simp)
    rw [List.nil_append, List.nil_append, Array.toArray_toList] at this
    exact this
  refine ⟨_, _, _, o_new (re := ⟨some w.heap.size, n, 0, sz⟩) rfl rfl (by rw [s.hr.len, hid]) (Nat.le_refl _), s.alloc ((xs.map a.eval).flatMap fun v => v.cells.toList).toArray E (cellsL ys) sz n (by simpa using hflat) ?_ (by rw [List.size_toArray, d3]; exact Nat.le_refl _) ?_, ext_alloc w _, fun _ _ _ _ _ => ?_⟩
  · have : n ≤ n * sz := Nat.le_mul_of_pos_right _ hpos
    unfold maxLen; omega
  · intro j y hy
    obtain ⟨c, f1, f2, f3⟩ := d4 j y hy
    exact ⟨c, by simpa using f1, f2, f3⟩
  · have e : (Instr.buildSlice T n (parts.map fun (i, x) => (i, a.eval x))).run P w = .ok (.slice (some ⟨w.heap.size, 0, none⟩) n n) (w.alloc (.cells ((xs.map a.eval).flatMap fun v => v.cells.toList).toArray E)) := by
      have hz' : (zeroValue E).run P w = .ok z w := by simp [zeroValue, typeInfo, hi, hz]
      have hs' : (sizeOf E).run P w = .ok sz w := by simp [sizeOf, typeInfo, hi, hs]
      simp only [Instr.buildSlice, Sem.run_bind, run_underlying hu, Result.andThen_ok, hs']
      rw [if_neg (by omega)]
      by_cases h0 : n * sz = 0
      · have hn0 : n = 0 := by rcases Nat.mul_eq_zero.1 h0 with h | h; exact h; omega
        rw [if_pos h0]
        rw [h0] at hfill ⊢
        have e2 : ∀ f : Nat → Value, Array.map f (Array.range 0) = #[] := fun f => by simp [Array.range_zero']
        rw [e2] at hfill
        simp only [pure_bind, e2, hfill]
        simp [newRow, newObj, Sem.run]
      · rw [if_neg h0]
        simp only [Sem.run_bind, hz', Result.andThen_ok, Sem.run_pure]
        rw [hfill]
        simp [newRow, newObj, Sem.run]
    exact run_v e

/-! ### append -/
/-- A new own object, in a new block or not yet born. -/
theorem StA.born {ρ : List Re} {a : Act} {w : World} (s : StA Γ ρ F H a w) {re : Re} {ob : Ob} {w' : World} (hg : w.grownBy w' none) (hl' : ob.live = true) (hver : re.ver = ob.ver) (hsz : re.sz = ob.sz)
    (hblk : ∀ g, re.g = some g → w.heap.size ≤ g) (hnob : re.g = none → ob.cs = [] ∧ re.cap = 0)
    (hok : ∀ g', re.g = some g' → ∃ cur, w'.heap[g']? = some (.cells cur ob.t (0, 0)) ∧ cur.size = re.cap * ob.sz ∧ ob.cs.length ≤ cur.size ∧ re.cap ≤ maxLen ∧
      ∀ (j : Nat) (y : V), ob.cs[j]? = some y → ∃ u, cur[j]? = some u ∧ u.oneCell' = true ∧ Rel w (Lset Γ.M ρ H) Γ.w0.heap.size ρ y u) :
    StA Γ (ρ ++ [re]) F (H ++ [ob]) a w' := by
  have hl := s.hr.len
  have split : ∀ (i : Nat) (o : Ob) (r : Re), (H ++ [ob])[i]? = some o → (ρ ++ [re])[i]? = some r → (H[i]? = some o ∧ ρ[i]? = some r) ∨ (i = H.length ∧ o = ob ∧ r = re) := by
    intro i o r ha hb
    rcases Nat.lt_or_ge i H.length with hlt | hge
    · rw [List.getElem?_append_left hlt] at ha
      rw [List.getElem?_append_left (by omega)] at hb
      exact .inl ⟨ha, hb⟩
    · have hid : i = H.length := by
        rcases Nat.lt_or_ge H.length i with h | h
        · rw [List.getElem?_eq_none (by simp; omega)] at ha; cases ha
        · omega
      subst hid
      rw [List.getElem?_append_right (Nat.le_refl _)] at ha
      rw [← hl, List.getElem?_append_right (Nat.le_refl _)] at hb
      simp at ha hb
      exact .inr ⟨rfl, ha.symm, hb.symm⟩
  have hre : ∀ (i : Nat) (o : Ob), (H ++ [ob])[i]? = some o → ∃ r, (ρ ++ [re])[i]? = some r := fun i o h => by
    have : i < (H ++ [ob]).length := (List.getElem?_eq_some_iff.1 h).1
    exact ⟨_, List.getElem?_eq_getElem (by simp at this ⊢; omega)⟩
  have lsub : ∀ b, Lset Γ.M (ρ ++ [re]) (H ++ [ob]) b → Lset Γ.M ρ H b ∨ w.heap.size ≤ b := by
    rintro b (h | ⟨i, o, r, h1, h2, h3, h4⟩)
    · exact .inl (.inl h)
    · rcases split i o r h1 h3 with ⟨a1, a2⟩ | ⟨_, _, rfl⟩
      · exact .inl (.inr ⟨i, o, r, a1, h2, a2, h4⟩)
      · exact .inr (hblk b h4)
  have ev : Ev w (Lset Γ.M ρ H) Γ.w0.heap.size ρ w' (Lset Γ.M (ρ ++ [re]) (H ++ [ob])) Γ.w0.heap.size (ρ ++ [re]) :=
    { size := hg.size
      blk := fun b hb _ => hg.block b hb (by simp)
      lv := fun b hb hn h => by
        rcases lsub b h with h | h
        · exact hn h
        · omega
      bb := Nat.le_refl _
      rho := fun i r h => ⟨r, by rw [List.getElem?_append_left (List.getElem?_eq_some_iff.1 h).1]; exact h, Nat.le_refl _, fun _ => rfl⟩ }
  refine ⟨⟨by simp [hl], ?_, ?_, ?_⟩, s.n, s.ds, fun t => (s.fr t).ev ev, ?_⟩
  · intro i o h1 h2
    obtain ⟨r, h3⟩ := hre i o h1
    rcases split i o r h1 h3 with ⟨a1, a2⟩ | ⟨rfl, rfl, rfl⟩
    · obtain ⟨r', h4, h5⟩ := s.hr.ob i o a1 h2
      obtain rfl : r' = r := by have := h4.symm.trans a2; injection this
      refine ⟨r', h3, h5.ver, h5.sz, h5.nob, fun g hg' => ?_⟩
      obtain ⟨cur, c1, c2, c3, c4, c5⟩ := h5.blk g hg'
      refine ⟨cur, by rw [hg.block g (s.hr.lt a1 h2 a2 hg') (by simp)]; exact c1, c2, c3, c4, fun j y hy => ?_⟩
      obtain ⟨u, d1, d2, d3⟩ := c5 j y hy
      exact ⟨u, d1, d2, d3.ev ev⟩
    · refine ⟨r, h3, hver, hsz, hnob, fun g hg' => ?_⟩
      obtain ⟨cur, c1, c2, c3, c4, c5⟩ := hok g hg'
      refine ⟨cur, c1, c2, c3, c4, fun j y hy => ?_⟩
      obtain ⟨u, d1, d2, d3⟩ := c5 j y hy
      exact ⟨u, d1, d2, d3.ev ev⟩
  · intro i j oi oj ri rj g hij h1 h2 h3 h4 h5 h6 h7 h8
    rcases split i oi ri h1 h5 with ⟨a1, a2⟩ | ⟨rfl, _, rfl⟩ <;> rcases split j oj rj h3 h6 with ⟨b1, b2⟩ | ⟨rfl, _, rfl⟩
    · exact s.hr.apart i j oi oj ri rj g hij a1 h2 b1 h4 a2 b2 h7 h8
    · have := s.hr.lt a1 h2 a2 h7; have := hblk g h8; omega
    · have := s.hr.lt b1 h4 b2 h8; have := hblk g h7; omega
    · exact hij rfl
  · intro i o r g h1 h2 h3 h4 hM
    rcases split i o r h1 h3 with ⟨a1, a2⟩ | ⟨_, _, rfl⟩
    · exact s.hr.foreign i o r g a1 h2 a2 h4 hM
    · have := s.fro.old g hM; have := s.fro.size; have := hblk g h4; omega
  · refine ⟨hg.os.trans s.fro.os, hg.tape.trans s.fro.tape, hg.output.trans s.fro.output, Nat.le_trans s.fro.size hg.size, fun b hb hn => ?_, s.fro.old, ?_, fun i r h => ?_⟩
    · rw [hg.block b (Nat.lt_of_lt_of_le hb s.fro.size) (by simp)]; exact s.fro.blk b hb hn
    · intro i o r g h1 h2 h3 h4
      rcases split i o r h1 h3 with ⟨a1, a2⟩ | ⟨_, _, rfl⟩
      · exact s.fro.mine i o r g a1 h2 a2 h4
      · have := s.fro.size; have := hblk g h4; exact .inl (by omega)
    · obtain ⟨r', e1, e2, e3⟩ := s.fro.rho i r h
      exact ⟨r', by rw [List.getElem?_append_left (List.getElem?_eq_some_iff.1 e1).1]; exact e1, e2, e3⟩

/-- What a source of an append gives: m elements, these cells. -/
def Src (Γ : Ctx) (H : List Ob) (y : V) (sz m : Nat) (zs : List V) : Prop :=
  zs.length = m * sz ∧ ∀ ρ F a w, StA Γ ρ F H a w → ∀ v, Rel w (Lset Γ.M ρ H) Γ.w0.heap.size ρ y v → ∃ A c, ∃ us : List Value, v = .slice A m c ∧ us.length = m * sz ∧ (∀ u ∈ us, u.oneCell' = true) ∧
    (0 < m → ∃ ad : Addr, A = some ad ∧ ∀ j u, us[j]? = some u → w.cell? (ad.add j) = some u) ∧ ∀ (j : Nat) (z : V), zs[j]? = some z → ∃ u, us[j]? = some u ∧ Rel w (Lset Γ.M ρ H) Γ.w0.heap.size ρ z u
theorem src_n {fr : Bool} {k : IntKind} {l : List Int} : Src Γ H (.n fr k l) 1 l.length (ints k l) :=
  ⟨by simp [ints], fun ρ F a w s v ⟨A, c, e, _, _, h⟩ => ⟨A, c, l.map (Value.int k), e, by simp, by simp [Value.oneCell'], fun hm => by
    obtain ⟨ad, e1, _, hc⟩ := h (by intro e; simp [e] at hm)
    refine ⟨ad, e1, fun j u hu => ?_⟩
    rw [List.getElem?_map] at hu
    cases hj : l[j]? with
    | none => rw [hj] at hu; cases hu
    | some y => rw [hj] at hu; simp at hu; subst hu; exact hc j y hj, fun j z hz => by
    rw [ints_at] at hz
    cases hj : l[j]? with
    | none => rw [hj] at hz; cases hz
    | some y => rw [hj] at hz; simp at hz; subst hz; exact ⟨.int k y, by simp [hj], rfl⟩⟩⟩
theorem src_nil {sz : Nat} : Src Γ H (.c (.slice none 0 0)) sz 0 [] := ⟨by simp, fun ρ F a w s v e => ⟨none, 0, [], e, by simp, by simp, by simp, by simp⟩⟩
theorem src_o {id ver len t sz : Nat} {cs : List V} (hH : H[id]? = some ⟨t, sz, ver, true, cs⟩) (hlen : cs.length = len * sz) (hone : cs.all (oneO H) = true) : Src Γ H (.o id ver 0 len) sz len cs :=
  ⟨hlen, fun ρ F a w s v r => by
    obtain ⟨re, o⟩ := s.own hH rfl
    obtain ⟨re', e1, hle, hp⟩ := r
    obtain rfl : re' = re := by have := e1.symm.trans o.at_; injection this
    obtain ⟨hcap, ⟨g, ad, hg, hv, had⟩ | ⟨hg, hv, _, hl0⟩⟩ := hp (o.ok.ver.symm)
    · obtain ⟨us, k1, k2, k3, k4⟩ := own_cells o hg cs 0 (fun j y h => by rw [Nat.zero_add]; exact h)
      refine ⟨some ad, _, us, hv, by rw [k1, hlen], k3, fun hm => ⟨ad, rfl, fun j u hu => ?_⟩, fun j z hz => relL_at cs us j z k2 hz⟩
      rw [had (by omega)]
      have := k4 j u hu
      rwa [show 0 * re'.sz = 0 by simp]
    · subst hl0
      have h0 : cs = [] := List.eq_nil_of_length_eq_zero (by simpa using hlen)
      subst h0
      exact ⟨none, 0, [], hv, by simp, by simp, by simp, by simp⟩⟩

theorem run_append_nil_src {t ty e sz : Nat} {w : World} (base : Nat) (ht : P.underlying t = some (.slice e)) {i : TypeInfo} (hi : P.info? e = some i) {v : Value} {n : Nat} {xs : List Value} (hown : w.ownsRow base e sz v n xs) (c : Nat) :
    (Builtin.append_ #[t, t] ty #[v, .slice none 0 c]).run P w = .ok v w := by
  rcases hown.2 with ⟨rfl, rfl⟩ | ⟨g, cap, cur, rfl, _, _, hnc, _⟩
  · simp [Builtin.append_, run_underlying ht, sizeOf, typeInfo, hi, Builtin.lenOf, Builtin.firstCells]
  · simp [Builtin.append_, run_underlying ht, sizeOf, typeInfo, hi, Builtin.lenOf, Builtin.firstCells, hnc, storeCells]

/-- append's run, whatever the source. -/
theorem run_append {T E sz bytes : Nat} {z : Value} (hT : elP P T E sz bytes z) {w : World} {v : Value} {n m : Nat} {xs us : List Value} (hown : w.ownsRow 0 E sz v n xs) {A : Option Addr} {c : Nat} (hl : us.length = m * sz) (h1 : ∀ u ∈ us, u.oneCell' = true)
    (hsrc : 0 < m → ∃ ad : Addr, A = some ad ∧ ∀ j u, us[j]? = some u → w.cell? (ad.add j) = some u) (hlim : n + m ≤ maxLen) (hbytes : (n + m) * bytes ≤ 140737488355328) (ty : TypeId) :
    ∃ v' w', (Builtin.append_ #[T, T] ty #[v, .slice A m c]).run P w = .ok v' w' ∧ w'.ownsRow 0 E sz v' (n + m) (xs ++ us) ∧ w.grownBy w' v.ownBlock ∧ (v'.ownBlock = v.ownBlock ∨ v'.ownBlock = some w.heap.size) := by
  obtain ⟨i, hu, hi, hz, hs, hby, hzs, hpos⟩ := hT
  have nil : m = 0 → us = [] := fun h => List.eq_nil_of_length_eq_zero (by rw [hl, h]; simp)
  cases A with
  | none =>
    have hm : m = 0 := by
      rcases Nat.eq_zero_or_pos m with h | h
      · exact h
      · obtain ⟨ad, e, _⟩ := hsrc h; cases e
    rw [nil hm]; subst hm
    exact ⟨v, w, run_append_nil_src 0 hu hi hown c, by simpa using hown, World.grownBy.refl w _, .inl rfl⟩
  | some ad =>
    have hcells : ∀ j u, us[j]? = some u → w.cell? (ad.add j) = some u := by
      rcases Nat.eq_zero_or_pos m with h | h
      · rw [nil h]; simp
      · obtain ⟨ad', e, hc⟩ := hsrc h; injection e with e; subst e; exact hc
    obtain ⟨v', w', r1, r2, r3, _, r5⟩ := run_append_own_at (P := P) w 0 T ty E i z sz bytes hu hi hz hs hby hzs hpos v n xs hown ad m c us hl hcells h1 hlim hbytes (Nat.zero_le _)
    exact ⟨v', w', r1, r2, r3, r5⟩

/-- What an owned row is, as an entry and cells. -/
theorem row_entry {w : World} {E sz n : Nat} {v : Value} {xs : List Value} (h : w.ownsRow 0 E sz v n xs) (ver : Nat) : ∃ re : Re, re.ver = ver ∧ re.sz = sz ∧ re.g = v.ownBlock ∧ n ≤ re.cap ∧
    ((∃ g ad, re.g = some g ∧ v = .slice (some ad) n (re.cap - 0) ∧ (0 < re.cap ∨ 0 = 0 → ad = ⟨g, 0 * re.sz, none⟩)) ∨ (re.g = none ∧ v = .slice none 0 0 ∧ 0 = 0 ∧ n = 0)) ∧
    (re.g = none → n = 0 ∧ re.cap = 0 ∧ xs = []) ∧ ∀ g, re.g = some g → ∃ cur, w.heap[g]? = some (.cells cur E (0, 0)) ∧ cur.size = re.cap * sz ∧ re.cap ≤ maxLen ∧ n * sz ≤ cur.size ∧ ∀ (j : Nat) (u : Value), xs[j]? = some u → cur[j]? = some u := by
  obtain ⟨hx, ⟨rfl, rfl⟩ | ⟨g, cap, cur, rfl, _, hh, hn, hcap, hs, ht⟩⟩ := h
  · exact ⟨⟨none, 0, ver, sz⟩, rfl, rfl, rfl, Nat.le_refl _, .inr ⟨rfl, rfl, rfl, rfl⟩, fun _ => ⟨rfl, rfl, List.eq_nil_of_length_eq_zero (by simpa using hx)⟩, fun g hg => by cases hg⟩
  · refine ⟨⟨some g, cap, ver, sz⟩, rfl, rfl, rfl, hn, .inl ⟨g, ⟨g, 0, none⟩, rfl, by simp, fun _ => by simp⟩, (fun h => by cases h), fun g' hg => ?_⟩
    injection hg with hg; subst hg
    refine ⟨cur, hh, hs, hcap, by rw [hs]; exact Nat.mul_le_mul_right _ hn, fun j u hu => ?_⟩
    rw [← ht, List.getElem?_take] at hu
    split at hu
    · simpa using hu
    · cases hu

theorem append_ty (ts : Array TypeId) (t t' : TypeId) (as : Array Value) : Builtin.append_ ts t as = Builtin.append_ ts t' as := rfl
/-- append to nothing: a new object. -/
theorem hy_app0 {T E sz bytes m id : Nat} {z : Value} {x y : Operand} {yy : V} {zs : List V} (hT : elP P T E sz bytes z) (hx : ovO F x = some (.c (.slice none 0 0))) (hy : ovO F y = some yy) (hsrc : Src Γ H yy sz m zs) (hb : m * bytes ≤ 140737488355328) (h63 : m ≤ maxLen) (hid : H.length = id) :
    HY P Γ (.call { callee := .builtin .append, args := #[x, y], argTypes := #[T, T] }) F H (.o id 0 0 m) (H ++ [⟨E, sz, 0, true, zs⟩]) := fun ρ a w s => by
  obtain ⟨A, c, us, hv, k1, k2, k3, k4⟩ := hsrc.2 ρ F a w s _ (s.ov hy)
  obtain ⟨v', w', hrun, hown, hgr, hat⟩ := run_append (P := P) hT (w := w) (v := .slice none 0 0) (n := 0) (xs := []) (World.ownsRow_nil w 0 E sz) (A := A) (c := c) k1 k2 k3 (by omega) (by simpa using hb) 0
  obtain ⟨re, e1, e2, e3, e4, e5, e6, e7⟩ := row_entry hown 0
  rw [Nat.zero_add] at e4 e5
  have hg2 : ∀ g, re.g = some g → w.heap.size ≤ g := fun g hg => by
    rw [e3] at hg
    rcases hat with h | h
    · rw [h] at hg; cases hg
    · rw [h] at hg; injection hg with hg; omega
  have st := s.born (re := re) (ob := ⟨E, sz, 0, true, zs⟩) hgr rfl e1 e2 hg2 (fun h => by
      obtain ⟨f1, f2, _⟩ := e6 h
      refine ⟨List.eq_nil_of_length_eq_zero ?_, f2⟩
      have : m = 0 := by omega
      show zs.length = 0
      rw [hsrc.1, this, Nat.zero_mul]) (fun g hg => by
      obtain ⟨cur, f1, f2, f3, f4, f5⟩ := e7 g hg
      refine ⟨cur, f1, f2, by show zs.length ≤ _; rw [hsrc.1]; simpa using f4, f3, fun j y hy => ?_⟩
      obtain ⟨u, g1, g2⟩ := k4 j y hy
      exact ⟨u, f5 j u (by simpa using g1), k2 u (List.mem_of_getElem? g1), g2⟩)
  refine ⟨v', w', _, ⟨re, by rw [← hid, ← s.hr.len]; simp, Nat.zero_le _, fun _ => ⟨by omega, e5⟩⟩, st, ?_, fun dst type pos after g => ?_⟩
  · intro ad u hu
    rw [World.cell?_of_block (hgr.block ad.block (World.block_lt_of_cell? w ad hu) (by simp [Value.ownBlock]))]; exact hu
  · exact run_builtin (b := .append) (ts := #[T, T]) (T := type) (a := a) (args := #[x, y]) (vs := [.slice none 0 0, .slice A m c]) (by rw [show Array.map a.eval #[x, y] = #[a.eval x, a.eval y] by simp, eval_c s hx, hv]) (fun ts t as => Builtin.append_ ts t as) (fun _ _ => rfl) ((append_ty _ _ _ _).symm ▸ hrun) dst pos after g

/-- append to an own row: the same object, a version on. -/
theorem sy_app {T E sz bytes m id ver len : Nat} {z : Value} {x y : Operand} {yy : V} {zs cs : List V} (hT : elP P T E sz bytes z) (hx : ovO F x = some (.o id ver 0 len)) (hH : H[id]? = some ⟨E, sz, ver, true, cs⟩) (hcs : cs.length = len * sz) (hy : ovO F y = some yy) (hsrc : Src Γ H yy sz m zs)
    (hb : (len + m) * bytes ≤ 140737488355328) (h63 : len + m ≤ maxLen) :
    ∀ ρ a w, StA Γ ρ F H a w → ∃ v w' ρ', Rel w' (Lset Γ.M ρ' (H.set id ⟨E, sz, ver + 1, true, cs ++ zs⟩)) Γ.w0.heap.size ρ' (.o id (ver + 1) 0 (len + m)) v ∧ StA Γ ρ' F (H.set id ⟨E, sz, ver + 1, true, cs ++ zs⟩) a w' ∧
      ∀ (dst : Option Tmp) (type : TypeId) (pos : String) (after : Array Edge) (g : Option (Nat × Bool)), (execOp a.eval ⟨dst, .call { callee := .builtin .append, args := #[x, y], argTypes := #[T, T] }, type, pos, after, g⟩).run P w = .ok (.value v) w' := fun ρ a w s => by
  obtain ⟨A, c, us, hv, k1, k2, k3, k4⟩ := hsrc.2 ρ F a w s _ (s.ov hy)
  obtain ⟨re, o⟩ := s.own hH rfl
  obtain ⟨re0, e1, hle, hp⟩ := s.ov hx
  obtain rfl : re0 = re := by have := e1.symm.trans o.at_; injection this
  obtain ⟨hcap, hq⟩ := hp (o.ok.ver.symm)
  have hszr : re0.sz = sz := o.ok.sz
  have hverr : re0.ver = ver := o.ok.ver
  -- the row as it stands
  have hrow : ∃ xs : List Value, w.ownsRow 0 E sz (a.eval x) len xs ∧ (∀ (j : Nat) (y : V), cs[j]? = some y → ∃ u, xs[j]? = some u ∧ u.oneCell' = true ∧ Rel w (Lset Γ.M ρ H) Γ.w0.heap.size ρ y u) ∧ (a.eval x).ownBlock = re0.g := by
    rcases hq with ⟨g, ad, hg, hv0, had⟩ | ⟨hg, hv0, _, hl0⟩
    · obtain ⟨cur, c1, c2, c3, c4, c5⟩ := o.ok.blk g hg
      have hc3 : cs.length ≤ cur.size := c3
      have hc2 : cur.size = re0.cap * sz := c2
      refine ⟨cur.toList.take (len * sz), ?_, ?_, ?_⟩
      · refine ⟨by simp; omega, ?_⟩
        exact .inr ⟨g, re0.cap, cur, by rw [hv0, had (by omega)]; simp, Nat.zero_le _, c1, by omega, c4, hc2, rfl⟩
      · intro j y hy
        obtain ⟨u, d1, d2, d3⟩ := c5 j y hy
        refine ⟨u, ?_, d2, d3⟩
        have hj : j < cs.length := (List.getElem?_eq_some_iff.1 hy).1
        rw [List.getElem?_take, if_pos (by omega)]; simpa using d1
      · rw [hv0, had (by omega), hg]; rfl
    · subst hl0
      have h0 : cs = [] := List.eq_nil_of_length_eq_zero (by simpa using hcs)
      subst h0
      exact ⟨[], by rw [hv0]; exact World.ownsRow_nil w 0 E sz, by simp, by rw [hv0, hg]; rfl⟩
  obtain ⟨xs, hown0, hxs, hblk⟩ := hrow
  obtain ⟨v', w', hrun, hown, hgr, hat⟩ := run_append (P := P) hT hown0 (A := A) (c := c) k1 k2 k3 h63 hb 0
  obtain ⟨re', e1', e2, e3, e4, e5, e6, e7⟩ := row_entry hown (ver + 1)
  have hxl : xs.length = cs.length := by rw [hown0.1, hcs]
  rw [hblk] at hgr hat
  refine ⟨v', w', ρ.set id re', ⟨re', by rw [List.getElem?_set]; simp [(List.getElem?_eq_some_iff.1 o.at_).1], by omega, fun _ => ⟨by omega, e5⟩⟩,
    s.update (ob' := ⟨E, sz, ver + 1, true, cs ++ zs⟩) hH rfl o.at_ hgr rfl e1' e2 (by omega) (fun h => by omega) ?_ (fun h => ?_) (fun g hg => ?_), fun dst type pos after g => ?_⟩
  · rcases hat with h | h
    · exact .inl (by rw [e3, h])
    · exact .inr ⟨w.heap.size, by rw [e3, h], Nat.le_refl _⟩
  · obtain ⟨f1, f2, _⟩ := e6 h
    refine ⟨List.eq_nil_of_length_eq_zero ?_, f2⟩
    show (cs ++ zs).length = 0
    rw [List.length_append, hcs, hsrc.1, ← Nat.add_mul, f1, Nat.zero_mul]
  · obtain ⟨cur, f1, f2, f3, f4, f5⟩ := e7 g hg
    refine ⟨cur, f1, f2, by show (cs ++ zs).length ≤ _; rw [List.length_append, hcs, hsrc.1, ← Nat.add_mul]; exact f4, f3, fun j y hy => ?_⟩
    have hy' : (cs ++ zs)[j]? = some y := hy
    rcases Nat.lt_or_ge j cs.length with hlt | hge
    · rw [List.getElem?_append_left hlt] at hy'
      obtain ⟨u, g1, g2, g3⟩ := hxs j y hy'
      exact ⟨u, f5 j u (by rw [List.getElem?_append_left (by omega)]; exact g1), g2, g3⟩
    · rw [List.getElem?_append_right hge] at hy'
      obtain ⟨u, g1, g2⟩ := k4 _ y hy'
      exact ⟨u, f5 j u (by rw [List.getElem?_append_right (by omega), hxl]; exact g1), k2 u (List.mem_of_getElem? g1), g2⟩
  · exact run_builtin (b := .append) (ts := #[T, T]) (T := type) (a := a) (args := #[x, y]) (vs := [a.eval x, .slice A m c]) (by rw [show Array.map a.eval #[x, y] = #[a.eval x, a.eval y] by simp, hv]) (fun ts t as => Builtin.append_ ts t as) (fun _ _ => rfl) ((append_ty _ _ _ _).symm ▸ hrun) dst pos after g
theorem jo_app {ops : Array Oper} {rest : List Oper} {d T E sz bytes m id ver len : Nat} {ty : TypeId} {ps : String} {af : Array Edge} {z : Value} {x y : Operand} {yy : V} {zs cs : List V} (hT : elP P T E sz bytes z) (hx : ovO F x = some (.o id ver 0 len)) (hH : H[id]? = some ⟨E, sz, ver, true, cs⟩) (hcs : cs.length = len * sz) (hy : ovO F y = some yy) (hsrc : Src Γ H yy sz m zs)
    (hb : (len + m) * bytes ≤ 140737488355328) (h63 : len + m ≤ maxLen) (hd : d < Γ.N) (j : JO P ops rest Γ ((d, .o id (ver + 1) 0 (len + m)) :: F) (H.set id ⟨E, sz, ver + 1, true, cs ++ zs⟩) Q) :
    JO P ops (⟨some d, .call { callee := .builtin .append, args := #[x, y], argTypes := #[T, T] }, ty, ps, af, none⟩ :: rest) Γ F H Q := fun a w ⟨ρ, s⟩ => by
  obtain ⟨v, w', ρ', r, s', hr⟩ := sy_app hT hx hH hcs hy hsrc hb h63 ρ a w s
  refine wpList_plain rfl fun K hK => ?_
  unfold Oper.wp
  rw [hr _ _ _ _ _]
  exact hK _ _ (j _ _ ⟨ρ', s'.put hd r⟩)
end
end Go.Proofs.Ytcdipmjgpimmdaa.Vc
