/- The calculus, fifth part: operations that make or write memory. -/
import Derived.Test.YtcdipmjgpimmdaaVcD
import Derived.Maps.AppendAt
set_option linter.unusedVariables false
set_option linter.unusedSimpArgs false
namespace Go.Proofs.Ytcdipmjgpimmdaa.Vc
open Go Go.RowKit

section
variable {P : Program} {Γ : Ctx} {F : Fr} {H : List Ob} {Q : Exit → Fr → List Ob → Prop}

theorem ext_alloc (w : World) (o : Obj) : Ext w (w.alloc o) := fun a v h => by
  have := World.block_lt_of_cell? w a h
  rw [World.cell?_of_block (Below.heap_alloc w o a.block this)]; exact h

theorem Lset_snoc {M : Nat → Prop} {ρ : List Re} {H : List Ob} {re : Re} {ob : Ob} (hl : ρ.length = H.length) {b : Nat} (h : Lset M (ρ ++ [re]) (H ++ [ob]) b) : Lset M ρ H b ∨ re.g = some b := by
  rcases h with h | ⟨id, ob', re', h1, h2, h3, h4⟩
  · exact .inl (.inl h)
  · rcases Nat.lt_or_ge id H.length with hlt | hge
    · rw [List.getElem?_append_left hlt] at h1
      rw [List.getElem?_append_left (by omega)] at h3
      exact .inl (.inr ⟨id, ob', re', h1, h2, h3, h4⟩)
    · rw [List.getElem?_append_right (by omega)] at h3
      have hid : id - ρ.length = 0 := by
        rcases Nat.eq_zero_or_pos (id - ρ.length) with h | h
        · exact h
        · rw [List.getElem?_eq_none (by simp; omega)] at h3; cases h3
      rw [hid] at h3
      simp at h3
      subst h3
      exact .inr h4
theorem Lset_of {M : Nat → Prop} {ρ : List Re} {H : List Ob} {re : Re} {ob : Ob} (hl : ρ.length = H.length) {b : Nat} (h : Lset M ρ H b) : Lset M (ρ ++ [re]) (H ++ [ob]) b := by
  rcases h with h | ⟨id, ob', re', h1, h2, h3, h4⟩
  · exact .inl h
  · have hlt : id < H.length := (List.getElem?_eq_some_iff.1 h1).1
    exact .inr ⟨id, ob', re', by rw [List.getElem?_append_left hlt]; exact h1, h2, by rw [List.getElem?_append_left (by omega)]; exact h3, h4⟩
theorem HR.lt {M : Nat → Prop} {w : World} {B : Nat} {ρ : List Re} {H : List Ob} (h : HR M w B ρ H) {id : Nat} {ob : Ob} {re : Re} {g : Nat} (h1 : H[id]? = some ob) (h2 : ob.live = true) (h3 : ρ[id]? = some re) (h4 : re.g = some g) : g < w.heap.size := by
  obtain ⟨re', h5, h6⟩ := h.ob id ob h1 h2
  obtain rfl : re' = re := by have := h5.symm.trans h3; injection this
  obtain ⟨cur, hc, _⟩ := h6.blk g h4
  exact (Array.getElem?_eq_some_iff.1 hc).1

/-- A new own object in a new block. -/
theorem StA.alloc {ρ : List Re} {a : Act} {w : World} (s : StA Γ ρ F H a w) (cells : Array Value) (T : TypeId) (cs : List V) (sz cap : Nat) (hlen : cells.size = cap * sz) (hcap : cap ≤ maxLen) (hcs : cs.length ≤ cells.size)
    (hrel : ∀ (j : Nat) (y : V), cs[j]? = some y → ∃ u, cells[j]? = some u ∧ u.oneCell' = true ∧ Rel w (Lset Γ.M ρ H) Γ.w0.heap.size ρ y u) :
    StA Γ (ρ ++ [⟨some w.heap.size, cap, 0, sz⟩]) F (H ++ [⟨T, sz, 0, true, cs⟩]) a (w.alloc (.cells cells T)) := by
  have hl := s.hr.len
  have ev : Ev w (Lset Γ.M ρ H) Γ.w0.heap.size ρ (w.alloc (.cells cells T)) (Lset Γ.M (ρ ++ [⟨some w.heap.size, cap, 0, sz⟩]) (H ++ [⟨T, sz, 0, true, cs⟩])) Γ.w0.heap.size (ρ ++ [⟨some w.heap.size, cap, 0, sz⟩]) :=
    { size := by simp
      blk := fun b hb _ => Below.heap_alloc w _ b hb
      lv := fun b hb hn h => by
        rcases Lset_snoc hl h with h | h
        · exact hn h
        · injection h with h; omega
      bb := Nat.le_refl _
      rho := fun id re h => ⟨re, by rw [List.getElem?_append_left (List.getElem?_eq_some_iff.1 h).1]; exact h, Nat.le_refl _, fun _ => rfl⟩ }
  refine ⟨⟨by simp [hl], ?_, ?_, ?_⟩, s.n, s.ds, fun t => (s.fr t).ev ev, ?_⟩
  · intro id ob h1 h2
    rcases Nat.lt_or_ge id H.length with hlt | hge
    · rw [List.getElem?_append_left hlt] at h1
      obtain ⟨re, h3, h4⟩ := s.hr.ob id ob h1 h2
      refine ⟨re, by rw [List.getElem?_append_left (by omega)]; exact h3, h4.ver, h4.sz, h4.nob, fun g hg => ?_⟩
      obtain ⟨cur, c1, c2, c3, c4, c5⟩ := h4.blk g hg
      refine ⟨cur, by rw [Below.heap_alloc w _ g (s.hr.lt h1 h2 h3 hg)]; exact c1, c2, c3, c4, fun j y hy => ?_⟩
      obtain ⟨u, d1, d2, d3⟩ := c5 j y hy
      exact ⟨u, d1, d2, d3.ev ev⟩
    · have hid : id = H.length := by
        rcases Nat.lt_or_ge H.length id with h | h
        · rw [List.getElem?_eq_none (by simp; omega)] at h1; cases h1
        · omega
      subst hid
      rw [List.getElem?_append_right (Nat.le_refl _)] at h1
      simp at h1
      subst h1
      refine ⟨⟨some w.heap.size, cap, 0, sz⟩, by rw [← hl, List.getElem?_append_right (Nat.le_refl _)]; simp, rfl, rfl, (fun h => by cases h), fun g hg => ?_⟩
      injection hg with hg
      subst hg
      refine ⟨cells, heap_alloc_new w _, hlen, hcs, hcap, fun j y hy => ?_⟩
      obtain ⟨u, d1, d2, d3⟩ := hrel j y hy
      exact ⟨u, d1, d2, d3.ev ev⟩
  · intro i j oi oj ri rj g hij h1 h2 h3 h4 h5 h6 h7 h8
    have key : ∀ (i : Nat) (oi : Ob) (ri : Re), (H ++ [(⟨T, sz, 0, true, cs⟩ : Ob)])[i]? = some oi → (ρ ++ [(⟨some w.heap.size, cap, 0, sz⟩ : Re)])[i]? = some ri → (H[i]? = some oi ∧ ρ[i]? = some ri) ∨ (i = H.length ∧ ri.g = some w.heap.size) := by
      intro i oi ri ha hb
      rcases Nat.lt_or_ge i H.length with hlt | hge
      · rw [List.getElem?_append_left hlt] at ha
        rw [List.getElem?_append_left (by omega)] at hb
        exact .inl ⟨ha, hb⟩
      · have hid : i = H.length := by
          rcases Nat.lt_or_ge H.length i with h | h
          · rw [List.getElem?_eq_none (by simp; omega)] at ha; cases ha
          · omega
        subst hid
        rw [← hl, List.getElem?_append_right (Nat.le_refl _)] at hb
        simp at hb
        exact .inr ⟨rfl, by rw [← hb]⟩
    rcases key i oi ri h1 h5 with ⟨a1, a2⟩ | ⟨a1, a2⟩ <;> rcases key j oj rj h3 h6 with ⟨b1, b2⟩ | ⟨b1, b2⟩
    · exact s.hr.apart i j oi oj ri rj g hij a1 h2 b1 h4 a2 b2 h7 h8
    · have := s.hr.lt a1 h2 a2 h7
      rw [b2] at h8; injection h8 with h8; omega
    · have := s.hr.lt b1 h4 b2 h8
      rw [a2] at h7; injection h7 with h7; omega
    · omega
  · intro id ob re g h1 h2 h3 h4 hM
    rcases Nat.lt_or_ge id H.length with hlt | hge
    · rw [List.getElem?_append_left hlt] at h1
      rw [List.getElem?_append_left (by omega)] at h3
      exact s.hr.foreign id ob re g h1 h2 h3 h4 hM
    · have hg : g < Γ.w0.heap.size := s.fro.old g hM
      have hsz := s.fro.size
      have hid : id = H.length := by
        rcases Nat.lt_or_ge H.length id with h | h
        · rw [List.getElem?_eq_none (by simp; omega)] at h1; cases h1
        · omega
      subst hid
      rw [← hl, List.getElem?_append_right (Nat.le_refl _)] at h3
      simp at h3
      rw [← h3] at h4
      injection h4 with h4
      omega
  · refine ⟨s.fro.os, s.fro.tape, s.fro.output, Nat.le_trans s.fro.size (by simp), fun b hb hn => ?_, s.fro.old, ?_, fun id re h => ?_⟩
    · rw [Below.heap_alloc w _ b (Nat.lt_of_lt_of_le hb s.fro.size)]; exact s.fro.blk b hb hn
    · intro id ob re g h1 h2 h3 h4
      rcases Nat.lt_or_ge id H.length with hlt | hge
      · rw [List.getElem?_append_left hlt] at h1
        rw [List.getElem?_append_left (by omega)] at h3
        exact s.fro.mine id ob re g h1 h2 h3 h4
      · have hid : id = H.length := by
          rcases Nat.lt_or_ge H.length id with h | h
          · rw [List.getElem?_eq_none (by simp; omega)] at h1; cases h1
          · omega
        subst hid
        rw [← hl, List.getElem?_append_right (Nat.le_refl _)] at h3
        simp at h3
        rw [← h3] at h4
        injection h4 with h4
        exact .inl (by have := s.fro.size; omega)
    · obtain ⟨re', e1, e2, e3⟩ := s.fro.rho id re h
      exact ⟨re', by rw [List.getElem?_append_left (List.getElem?_eq_some_iff.1 e1).1]; exact e1, e2, e3⟩

/-- The operation makes memory: a value, objects besides. -/
def HY (P : Program) (Γ : Ctx) (op : Op) (F : Fr) (H : List Ob) (y : V) (H' : List Ob) : Prop :=
  ∀ ρ a w, StA Γ ρ F H a w → ∃ v w' ρ', Rel w' (Lset Γ.M ρ' H') Γ.w0.heap.size ρ' y v ∧ StA Γ ρ' F H' a w' ∧ Ext w w' ∧
    ∀ (dst : Option Tmp) (type : TypeId) (pos : String) (after : Array Edge) (g : Option (Nat × Bool)), (execOp a.eval ⟨dst, op, type, pos, after, g⟩).run P w = .ok (.value v) w'
theorem jo_h {ops : Array Oper} {rest : List Oper} {d : Nat} {op : Op} {T : TypeId} {ps : String} {af : Array Edge} {y : V} {H' : List Ob} (h : HY P Γ op F H y H') (hd : d < Γ.N)
    (j : JO P ops rest Γ ((d, y) :: F) H' Q) : JO P ops (⟨some d, op, T, ps, af, none⟩ :: rest) Γ F H Q := fun a w ⟨ρ, s⟩ => by
  obtain ⟨v, w', ρ', r, s', _, hr⟩ := h ρ a w s
  refine wpList_plain rfl fun K hK => ?_
  unfold Oper.wp
  rw [hr _ _ _ _ _]
  exact hK _ _ (j _ _ ⟨ρ', s'.put hd r⟩)
theorem jo_hg {ops : Array Oper} {rest : List Oper} {d : Nat} {op : Op} {T : TypeId} {ps : String} {af : Array Edge} {y : V} {H' : List Ob} {j0 : Nat} {b0 : Bool} (t0 : Nat) (ht : (ops[j0]?).bind (·.dst) = some t0) (hb : getO F t0 = some (.b b0))
    (h : HY P Γ op F H y H') (hd : d < Γ.N) (j : JO P ops rest Γ ((d, y) :: F) H' Q) : JO P ops (⟨some d, op, T, ps, af, some (j0, b0)⟩ :: rest) Γ F H Q := fun a w ⟨ρ, s⟩ => by
  obtain ⟨v, w', ρ', r, s', _, hr⟩ := h ρ a w s
  refine wpList_step fun K hK => ?_
  rw [if_pos (wanted_yes rfl (yielded_of s ht hb))]
  unfold Oper.wp
  rw [hr _ _ _ _ _]
  exact hK _ _ (j _ _ ⟨ρ', s'.put hd r⟩)

theorem alloc_p {ρ : List Re} {B : Nat} {L : Nat → Prop} {w' : World} {re : Re} {g : Nat} (hg : re.g = some g) (hv : re.ver = 0) {id : Nat} (hid : ρ.length = id) : Rel w' L B (ρ ++ [re]) (.p id 0 0) (.pointer (some ⟨g, 0, none⟩)) := by
  subst hid
  exact ⟨re, by simp, Nat.zero_le _, fun _ => ⟨g, hg, rfl⟩⟩

/-! ### alloc, box -/
/-- Constants as abstract values. -/
def cV : Value → V
  | .int k n => .i k n
  | .bool x => .b x
  | .string x => .s x
  | v => .c v
theorem rel_cV (w : World) (L : Nat → Prop) (B : Nat) (ρ : List Re) (v : Value) : Rel w L B ρ (cV v) v := by cases v <;> rfl
def zeroB (P : Program) (T : TypeId) (zs : List Value) : Bool :=
  match P.info? T with
  | some i => (match i.zero with | some z => z.cells.toList.length == zs.length && z.cells.all (·.oneCell') | none => false) && i.size == zs.length
  | none => false
theorem hy_alloc {T n : Nat} {zs : List Value} {id : Nat} (hz : ((P.info? T).bind (·.zero)).map (·.cells.toList) = some zs) (hone : zs.all (·.oneCell') = true) (hn : zs.length = n) (h0 : n ≤ maxLen) (hid : H.length = id) :
    HY P Γ (.alloc T) F H (.p id 0 0) (H ++ [⟨T, n, 0, true, zs.map cV⟩]) := fun ρ a w s => by
  cases hi : P.info? T with
  | none => rw [hi] at hz; cases hz
  | some i =>
    rw [hi] at hz
    cases hz0 : i.zero with
    | none => simp [hz0] at hz
    | some z =>
      simp [hz0] at hz
      refine ⟨.pointer (some ⟨w.heap.size, 0, none⟩), w.alloc (.cells z.cells T), _, alloc_p rfl rfl (by rw [s.hr.len, hid]), s.alloc z.cells T (zs.map cV) n 1 (by rw [Nat.one_mul, ← hn, ← hz]; simp) (by simp [maxLen]) (by rw [List.length_map, ← hz]; simp) ?_, ext_alloc w _, fun _ _ _ _ _ => ?_⟩
      · intro j y hy
        rw [List.getElem?_map] at hy
        cases hj : zs[j]? with
        | none => rw [hj] at hy; cases hy
        | some u =>
          rw [hj] at hy
          simp at hy
          subst hy
          refine ⟨u, by rw [← hz] at hj; simpa using hj, ?_, rel_cV _ _ _ _ _⟩
          have := List.all_eq_true.1 hone u (List.mem_of_getElem? hj)
          exact this
      · have e : (Instr.alloc T true (.tuple #[])).run P w = .ok (.pointer (some ⟨w.heap.size, 0, none⟩)) (w.alloc (.cells z.cells T)) := by
          simp [Instr.alloc, zeroValue, typeInfo, hi, hz0, newVar, newRow, newObj, Sem.run]
        exact run_v e

theorem relL_one {w : World} {L : Nat → Prop} {B : Nat} {ρ : List Re} : ∀ (ys : List V) (us : List Value), RelL w L B ρ ys us → us.length = ys.length ∧ ∀ (j : Nat) (y : V), ys[j]? = some y → ∃ u, us[j]? = some u ∧ Rel w L B ρ y u
  | [], us, h => ⟨by rw [show us = [] from h]; rfl, by simp⟩
  | z :: ys, us, ⟨u, us', e, h1, h2⟩ => by
    obtain ⟨h3, h4⟩ := relL_one ys us' h2
    refine ⟨by simp [e, h3], fun j y hy => ?_⟩
    cases j with
    | zero => simp at hy; subst hy; exact ⟨u, by simp [e], h1⟩
    | succ j => obtain ⟨u', h5, h6⟩ := h4 j y (by simpa using hy); exact ⟨u', by simp [e, h5], h6⟩
/-- Abstract values of one cell. -/
def oneV : V → Bool
  | .i _ _ | .b _ | .s _ | .n _ _ _ | .l _ _ _ | .q _ | .f _ _ => true
  | .c v => v.oneCell'
  | _ => false
theorem rel_one {w : World} {L : Nat → Prop} {B : Nat} {ρ : List Re} : ∀ {y : V} {u : Value}, oneV y = true → Rel w L B ρ y u → u.oneCell' = true
  | .i _ _, u, _, h => by rw [show u = _ from h]; rfl
  | .b _, u, _, h => by rw [show u = _ from h]; rfl
  | .s _, u, _, h => by rw [show u = _ from h]; rfl
  | .c _, u, h1, h => by rw [show u = _ from h]; exact h1
  | .n _ _ _, u, _, ⟨A, c, e, _⟩ => by rw [e]; rfl
  | .l _ _ _, u, _, ⟨A, c, e, _⟩ => by rw [e]; rfl
  | .q _, u, _, ⟨ad, e, _⟩ => by rw [e]; rfl
  | .f _ _, u, _, ⟨us, e, _⟩ => by rw [e]; rfl
/-- Pointers into and slices of own objects that are alive are of one cell, too. -/
def oneO (H : List Ob) : V → Bool
  | .p id ver _ | .o id ver _ _ => (H[id]?).any fun ob => ob.live && ob.ver == ver
  | y => oneV y
theorem StA.one {ρ : List Re} {a : Act} {w : World} (s : StA Γ ρ F H a w) {y : V} {u : Value} (h : oneO H y = true) (r : Rel w (Lset Γ.M ρ H) Γ.w0.heap.size ρ y u) : u.oneCell' = true := by
  cases y with
  | p id ver off =>
    cases hH : H[id]? with
    | none => simp [oneO, hH] at h
    | some ob =>
      simp [oneO, hH] at h
      obtain ⟨re, o⟩ := s.own hH h.1
      obtain ⟨re', e1, _, hp⟩ := r
      obtain rfl : re' = re := by have := e1.symm.trans o.at_; injection this
      obtain ⟨g, _, rfl⟩ := hp (by rw [o.ok.ver, h.2])
      rfl
  | o id ver off len =>
    cases hH : H[id]? with
    | none => simp [oneO, hH] at h
    | some ob =>
      simp [oneO, hH] at h
      obtain ⟨re, o⟩ := s.own hH h.1
      obtain ⟨re', e1, _, hp⟩ := r
      obtain rfl : re' = re := by have := e1.symm.trans o.at_; injection this
      obtain ⟨_, ⟨g, ad, _, rfl, _⟩ | ⟨_, rfl, _⟩⟩ := hp (by rw [o.ok.ver, h.2]) <;> rfl
  | _ => exact rel_one (by simpa [oneO] using h) r

/-- The cells of a value that is handed by value: an aggregate's, or itself. -/
def cellsV : V → List V
  | .a ys => ys
  | y => [y]
theorem StA.cellsV {ρ : List Re} {a : Act} {w : World} (s : StA Γ ρ F H a w) {y : V} {u : Value} (h : (cellsV y).all (oneO H) = true) (r : Rel w (Lset Γ.M ρ H) Γ.w0.heap.size ρ y u) :
    u.cells.size = (Vc.cellsV y).length ∧ ∀ (j : Nat) (z : V), (Vc.cellsV y)[j]? = some z → ∃ c, u.cells[j]? = some c ∧ c.oneCell' = true ∧ Rel w (Lset Γ.M ρ H) Γ.w0.heap.size ρ z c := by
  have plain : (∀ ys, y ≠ .a ys) → oneO H y = true → u.oneCell' = true → u.cells.size = (Vc.cellsV y).length ∧ ∀ (j : Nat) (z : V), (Vc.cellsV y)[j]? = some z → ∃ c, u.cells[j]? = some c ∧ c.oneCell' = true ∧ Rel w (Lset Γ.M ρ H) Γ.w0.heap.size ρ z c := by
    intro hne _ h1
    have e1 : Vc.cellsV y = [y] := by cases y <;> first | rfl | exact absurd rfl (hne _)
    have e2 : u.cells = #[u] := by cases u <;> first | rfl | (simp [Value.oneCell'] at h1)
    rw [e1, e2]
    refine ⟨rfl, fun j z hz => ?_⟩
    cases j with
    | zero => simp at hz; subst hz; exact ⟨u, rfl, h1, r⟩
    | succ j => simp at hz
  cases y with
  | a ys =>
    obtain ⟨us, rfl, hr⟩ := r
    obtain ⟨hlen, hat⟩ := relL_one ys us hr
    refine ⟨by simp [Value.cells, Vc.cellsV, hlen], fun j z hz => ?_⟩
    obtain ⟨c, hc, hr'⟩ := hat j z hz
    exact ⟨c, by simpa [Value.cells] using hc, s.one (List.all_eq_true.1 h z (List.mem_of_getElem? hz)) hr', hr'⟩
  | _ =>
    have h1 : oneO H _ = true := List.all_eq_true.1 h _ (List.mem_singleton.2 rfl)
    exact plain (by intro ys e; cases e) h1 (s.one h1 r)

theorem hy_box {T : TypeId} {x : Operand} {y : V} {id n : Nat} (hx : ovO F x = some y) (h1 : (cellsV y).all (oneO H) = true) (hn : (cellsV y).length = n) (h0 : n ≤ maxLen) (hid : H.length = id) :
    HY P Γ (.box T x) F H (.p id 0 0) (H ++ [⟨T, n, 0, true, cellsV y⟩]) := fun ρ a w s => by
  obtain ⟨hs, hc⟩ := s.cellsV h1 (s.ov hx)
  refine ⟨.pointer (some ⟨w.heap.size, 0, none⟩), w.alloc (.cells (a.eval x).cells T), _, alloc_p rfl rfl (by rw [s.hr.len, hid]), s.alloc (a.eval x).cells T (cellsV y) n 1 (by rw [Nat.one_mul, hs, hn]) (by simp [maxLen]) (by rw [hs]; exact Nat.le_refl _) hc, ext_alloc w _, fun _ _ _ _ _ => ?_⟩
  have e : (Instr.box T (a.eval x)).run P w = .ok (.pointer (some ⟨w.heap.size, 0, none⟩)) (w.alloc (.cells (a.eval x).cells T)) := by
    simp [Instr.box, newVar, newRow, newObj, Sem.run]
  exact run_v e

/-! ### An own object changes: a store, an append -/
theorem set_some {α : Type} {l : List α} {i j : Nat} {x y : α} (h : (l.set i x)[j]? = some y) : (j = i ∧ y = x) ∨ (j ≠ i ∧ l[j]? = some y) := by
  rw [List.getElem?_set] at h
  by_cases e : i = j
  · rw [if_pos e] at h
    split at h
    · injection h with h; exact .inl ⟨e.symm, h.symm⟩
    · cases h
  · rw [if_neg e] at h; exact .inr ⟨Ne.symm e, h⟩
theorem StA.update {ρ : List Re} {a : Act} {w : World} (s : StA Γ ρ F H a w) {id : Nat} {ob ob' : Ob} {re re' : Re} {w' : World} (hH : H[id]? = some ob) (hlive : ob.live = true) (hre : ρ[id]? = some re)
    (hg : w.grownBy w' re.g) (hl' : ob'.live = true) (hver : re'.ver = ob'.ver) (hsz : re'.sz = ob'.sz) (hle : re.ver ≤ re'.ver) (hsame : re.ver = re'.ver → re' = re)
    (hblk : re'.g = re.g ∨ ∃ g', re'.g = some g' ∧ w.heap.size ≤ g')
    (hnob : re'.g = none → ob'.cs = [] ∧ re'.cap = 0)
    (hok : ∀ g', re'.g = some g' → ∃ cur, w'.heap[g']? = some (.cells cur ob'.t (0, 0)) ∧ cur.size = re'.cap * ob'.sz ∧ ob'.cs.length ≤ cur.size ∧ re'.cap ≤ maxLen ∧
      ∀ (j : Nat) (y : V), ob'.cs[j]? = some y → ∃ u, cur[j]? = some u ∧ u.oneCell' = true ∧ Rel w (Lset Γ.M ρ H) Γ.w0.heap.size ρ y u) :
    StA Γ (ρ.set id re') F (H.set id ob') a w' := by
  have hidH : id < H.length := (List.getElem?_eq_some_iff.1 hH).1
  have hidρ : id < ρ.length := (List.getElem?_eq_some_iff.1 hre).1
  have hrow : ∀ b, b < w.heap.size → ¬ Lset Γ.M ρ H b → some b ≠ re.g := fun b _ hn e => hn (.inr ⟨id, ob, re, hH, hlive, hre, e.symm⟩)
  have lsub : ∀ b, Lset Γ.M (ρ.set id re') (H.set id ob') b → Lset Γ.M ρ H b ∨ w.heap.size ≤ b := by
    rintro b (h | ⟨i, o, r, h1, h2, h3, h4⟩)
    · exact .inl (.inl h)
    · rcases set_some h1 with ⟨rfl, rfl⟩ | ⟨hne, h1'⟩
      · rcases set_some h3 with ⟨_, rfl⟩ | ⟨hne, _⟩
        · rcases hblk with hb | ⟨g', hb, hge⟩
          · rw [hb] at h4; exact .inl (.inr ⟨i, ob, re, hH, hlive, hre, h4⟩)
          · rw [hb] at h4; injection h4 with h4; subst h4; exact .inr hge
        · exact absurd rfl hne
      · rcases set_some h3 with ⟨e, _⟩ | ⟨_, h3'⟩
        · exact absurd e hne
        · exact .inl (.inr ⟨i, o, r, h1', h2, h3', h4⟩)
  have ev : Ev w (Lset Γ.M ρ H) Γ.w0.heap.size ρ w' (Lset Γ.M (ρ.set id re') (H.set id ob')) Γ.w0.heap.size (ρ.set id re') :=
    { size := hg.size
      blk := fun b hb hn => hg.block b hb (hrow b hb hn)
      lv := fun b hb hn h => by
        rcases lsub b h with h | h
        · exact hn h
        · omega
      bb := Nat.le_refl _
      rho := fun i r h => by
        by_cases e : i = id
        · subst e
          obtain rfl : re = r := by have := hre.symm.trans h; injection this
          exact ⟨re', by rw [List.getElem?_set]; simp [hidρ], hle, hsame⟩
        · exact ⟨r, by rw [List.getElem?_set, if_neg (Ne.symm e)]; exact h, Nat.le_refl _, fun _ => rfl⟩ }
  refine ⟨⟨by simp [s.hr.len], ?_, ?_, ?_⟩, s.n, s.ds, fun t => (s.fr t).ev ev, ?_⟩
  · intro i o h1 h2
    rcases set_some h1 with ⟨rfl, rfl⟩ | ⟨hne, h1'⟩
    · refine ⟨re', by rw [List.getElem?_set]; simp [hidρ], hver, hsz, hnob, fun g' hg' => ?_⟩
      obtain ⟨cur, c1, c2, c3, c4, c5⟩ := hok g' hg'
      refine ⟨cur, c1, c2, c3, c4, fun j y hy => ?_⟩
      obtain ⟨u, d1, d2, d3⟩ := c5 j y hy
      exact ⟨u, d1, d2, d3.ev ev⟩
    · obtain ⟨r, h3, h4⟩ := s.hr.ob i o h1' h2
      refine ⟨r, by rw [List.getElem?_set, if_neg (Ne.symm hne)]; exact h3, h4.ver, h4.sz, h4.nob, fun g hg' => ?_⟩
      obtain ⟨cur, c1, c2, c3, c4, c5⟩ := h4.blk g hg'
      have hne2 : some g ≠ re.g := fun e => by
        have := s.hr.apart i id o ob r re g hne h1' h2 hH hlive h3 hre hg'
        exact this e.symm
      refine ⟨cur, by rw [hg.block g (s.hr.lt h1' h2 h3 hg') hne2]; exact c1, c2, c3, c4, fun j y hy => ?_⟩
      obtain ⟨u, d1, d2, d3⟩ := c5 j y hy
      exact ⟨u, d1, d2, d3.ev ev⟩
  · intro i j oi oj ri rj g hij h1 h2 h3 h4 h5 h6 h7 h8
    rcases set_some h1 with ⟨rfl, rfl⟩ | ⟨hi, h1'⟩ <;> rcases set_some h3 with ⟨rfl, rfl⟩ | ⟨hj, h3'⟩
    · exact hij rfl
    · rcases set_some h5 with ⟨_, rfl⟩ | ⟨hne, _⟩
      · rcases set_some h6 with ⟨e, _⟩ | ⟨_, h6'⟩
        · exact hj e
        · rcases hblk with hb | ⟨g', hb, hge⟩
          · rw [hb] at h7; exact s.hr.apart i j ob oj re rj g hij hH hlive h3' h4 hre h6' h7 h8
          · rw [hb] at h7; injection h7 with h7; have := s.hr.lt h3' h4 h6' h8; omega
      · exact hne rfl
    · rcases set_some h6 with ⟨_, rfl⟩ | ⟨hne, _⟩
      · rcases set_some h5 with ⟨e, _⟩ | ⟨_, h5'⟩
        · exact hi e
        · rcases hblk with hb | ⟨g', hb, hge⟩
          · rw [hb] at h8; exact s.hr.apart i j oi ob ri re g hij h1' h2 hH hlive h5' hre h7 h8
          · rw [hb] at h8; injection h8 with h8; have := s.hr.lt h1' h2 h5' h7; omega
      · exact hne rfl
    · rcases set_some h5 with ⟨e, _⟩ | ⟨_, h5'⟩
      · exact hi e
      · rcases set_some h6 with ⟨e, _⟩ | ⟨_, h6'⟩
        · exact hj e
        · exact s.hr.apart i j oi oj ri rj g hij h1' h2 h3' h4 h5' h6' h7 h8
  · intro i o r g h1 h2 h3 h4 hM
    rcases set_some h1 with ⟨rfl, rfl⟩ | ⟨hne, h1'⟩
    · rcases set_some h3 with ⟨_, rfl⟩ | ⟨hne, _⟩
      · rcases hblk with hb | ⟨g', hb, hge⟩
        · rw [hb] at h4; exact s.hr.foreign i ob re g hH hlive hre h4 hM
        · rw [hb] at h4; injection h4 with h4
          have := s.fro.old g hM; have := s.fro.size; omega
      · exact hne rfl
    · rcases set_some h3 with ⟨e, _⟩ | ⟨_, h3'⟩
      · exact hne e
      · exact s.hr.foreign i o r g h1' h2 h3' h4 hM
  · refine ⟨hg.os.trans s.fro.os, hg.tape.trans s.fro.tape, hg.output.trans s.fro.output, Nat.le_trans s.fro.size hg.size, fun b hb hn => ?_, s.fro.old, ?_, fun i r h => ?_⟩
    · have hb' := Nat.lt_of_lt_of_le hb s.fro.size
      rw [hg.block b hb' (fun e => ?_)]
      · exact s.fro.blk b hb hn
      · rcases s.fro.mine id ob re b hH hlive hre e.symm with h | h
        · omega
        · exact hn h
    · intro i o r g h1 h2 h3 h4
      rcases set_some h1 with ⟨rfl, rfl⟩ | ⟨hne, h1'⟩
      · rcases set_some h3 with ⟨_, rfl⟩ | ⟨hne, _⟩
        · rcases hblk with hb | ⟨g', hb, hge⟩
          · rw [hb] at h4; exact s.fro.mine i ob re g hH hlive hre h4
          · rw [hb] at h4; injection h4 with h4; have := s.fro.size; exact .inl (by omega)
        · exact absurd rfl hne
      · rcases set_some h3 with ⟨e, _⟩ | ⟨_, h3'⟩
        · exact absurd e hne
        · exact s.fro.mine i o r g h1' h2 h3' h4
    · obtain ⟨r', e1, e2, e3⟩ := s.fro.rho i r h
      by_cases e : i = id
      · subst e
        obtain rfl : re = r' := by have := hre.symm.trans e1; injection this
        refine ⟨re', by rw [List.getElem?_set]; simp [hidρ], Nat.le_trans e2 hle, fun h => ?_⟩
        have e4 : r.ver = re.ver := by omega
        have e5 : re.ver = re'.ver := by omega
        rw [hsame e5]; exact e3 e4
      · exact ⟨r', by rw [List.getElem?_set, if_neg (Ne.symm e)]; exact e1, e2, e3⟩

/-- Cells from a place on, written over. -/
def setV : List V → Nat → List V → List V
  | [], _, _ => []
  | cs, _, [] => cs
  | _ :: cs, 0, y :: ys => y :: setV cs 0 ys
  | c :: cs, o + 1, y :: ys => c :: setV cs o (y :: ys)
theorem setV_length : ∀ (cs : List V) (o : Nat) (ys : List V), (setV cs o ys).length = cs.length
  | [], _, _ => by simp [setV]
  | c :: cs, 0, [] => by simp [setV]
  | c :: cs, o + 1, [] => by simp [setV]
  | _ :: cs, 0, y :: ys => by simp [setV, setV_length cs 0 ys]
  | c :: cs, o + 1, y :: ys => by simp [setV, setV_length cs o (y :: ys)]
theorem setV_at : ∀ (cs : List V) (o : Nat) (ys : List V) (j : Nat) (z : V), (setV cs o ys)[j]? = some z → (o ≤ j ∧ j < o + ys.length ∧ ys[j - o]? = some z) ∨ ((j < o ∨ o + ys.length ≤ j) ∧ cs[j]? = some z)
  | [], _, _, j, z, h => by simp [setV] at h
  | c :: cs, 0, [], j, z, h => .inr ⟨.inr (by simp), by simpa [setV] using h⟩
  | c :: cs, o + 1, [], j, z, h => by
    refine .inr ⟨?_, by simpa [setV] using h⟩
    simp; omega
  | c :: cs, 0, y :: ys, 0, z, h => .inl ⟨by simp, by simp, by simpa [setV] using h⟩
  | c :: cs, 0, y :: ys, j + 1, z, h => by
    rcases setV_at cs 0 ys j z (by simpa [setV] using h) with ⟨_, h2, h3⟩ | ⟨h1, h2⟩
    · exact .inl ⟨by simp, by simp at h2 ⊢; omega, by simpa using h3⟩
    · exact .inr ⟨by simp at h1 ⊢; omega, by simpa using h2⟩
  | c :: cs, o + 1, y :: ys, 0, z, h => .inr ⟨.inl (by simp), by simpa [setV] using h⟩
  | c :: cs, o + 1, y :: ys, j + 1, z, h => by
    rcases setV_at cs o (y :: ys) j z (by simpa [setV] using h) with ⟨h1, h2, h3⟩ | ⟨h1, h2⟩
    · exact .inl ⟨by omega, by simp at h2 ⊢; omega, by rwa [show j + 1 - (o + 1) = j - o by omega]⟩
    · exact .inr ⟨by simp at h1 ⊢; omega, by simpa using h2⟩

theorem grownBy_setRow (w : World) (g : Nat) (cs : Array Value) : w.grownBy (w.setRow g cs) (some g) :=
  ⟨rfl, rfl, rfl, by simp, fun k _ hne => setRow_other w g k cs (fun e => hne (by rw [e]))⟩

/-- The operation writes an own object. -/
def SY (P : Program) (Γ : Ctx) (op : Op) (F : Fr) (H H' : List Ob) : Prop :=
  ∀ ρ a w, StA Γ ρ F H a w → ∃ w' ρ', StA Γ ρ' F H' a w' ∧
    ∀ (dst : Option Tmp) (type : TypeId) (pos : String) (after : Array Edge) (g : Option (Nat × Bool)), (execOp a.eval ⟨dst, op, type, pos, after, g⟩).run P w = .ok .skip w'
theorem jo_st {ops : Array Oper} {rest : List Oper} {op : Op} {T : TypeId} {ps : String} {af : Array Edge} {H' : List Ob} (h : SY P Γ op F H H')
    (j : JO P ops rest Γ F H' Q) : JO P ops (⟨none, op, T, ps, af, none⟩ :: rest) Γ F H Q := fun a w ⟨ρ, s⟩ => by
  obtain ⟨w', ρ', s', hr⟩ := h ρ a w s
  refine wpList_plain rfl fun K hK => ?_
  unfold Oper.wp
  rw [hr _ _ _ _ _]
  exact hK _ _ (j _ _ ⟨ρ', s'⟩)

theorem sy_store {T : TypeId} {x z : Operand} {id ver off : Nat} {t sz n : Nat} {cs : List V} {y : V} (hx : ovO F x = some (.p id ver off)) (hz : ovO F z = some y) (hH : H[id]? = some ⟨t, sz, ver, true, cs⟩)
    (hT : (P.info? T).any (·.size == n) = true) (hn : (cellsV y).length = n) (h1 : (cellsV y).all (oneO H) = true) (hoff : off + n ≤ cs.length) :
    SY P Γ (.store T x z) F H (H.set id ⟨t, sz, ver, true, setV cs off (cellsV y)⟩) := fun ρ a w s => by
  obtain ⟨re, g, ow, hg, hv⟩ := s.ptr hx hH
  obtain ⟨hs, hc⟩ := s.cellsV h1 (s.ov hz)
  obtain ⟨cur, c1, c2, c3, c4, c5⟩ := ow.ok.blk g hg
  have hone : ∀ v ∈ (a.eval z).cells.toList, v.oneCell' = true := fun v hv => by
    obtain ⟨j, hj⟩ := List.getElem?_of_mem hv
    have hlt : j < (a.eval z).cells.size := by have := (List.getElem?_eq_some_iff.1 hj).1; simpa using this
    obtain ⟨c, hc1, hc2, _⟩ := hc j ((cellsV y)[j]'(by omega)) (List.getElem?_eq_getElem (by omega))
    rw [Array.getElem?_toList] at hj
    rw [hc1] at hj; injection hj with hj; rw [← hj]; exact hc2
  have hc3 : cs.length ≤ cur.size := c3
  have hsz2 : (a.eval z).cells.size = n := by omega
  refine ⟨_, ρ.set id re, s.update (ob' := ⟨t, sz, ver, true, setV cs off (cellsV y)⟩) (re' := re) hH rfl ow.at_ (by rw [hg]; exact grownBy_setRow w g (cur.toList.take (off + 0) ++ (a.eval z).cells.toList ++ cur.toList.drop (off + 0 + (a.eval z).cells.toList.length)).toArray) rfl ow.ok.ver ow.ok.sz (Nat.le_refl _) (fun _ => rfl) (.inl rfl)
    (fun h => by rw [hg] at h; cases h) (fun g' hg' => ?_), fun _ _ _ _ _ => ?_⟩
  · obtain rfl : g = g' := by rw [hg] at hg'; injection hg'
    have hlen : (cur.toList.take (off + 0) ++ (a.eval z).cells.toList ++ cur.toList.drop (off + 0 + (a.eval z).cells.toList.length)).length = cur.size := by simp; omega
    refine ⟨_, setRow_heap w g cur _ t (0, 0) c1, by rw [List.size_toArray, hlen]; exact c2, by rw [List.size_toArray, hlen]; show (setV cs off (cellsV y)).length ≤ _; rw [setV_length]; exact hc3, c4, fun j y' hy' => ?_⟩
    rw [List.getElem?_toArray]
    rcases setV_at cs off (cellsV y) j y' hy' with ⟨k1, k2, k3⟩ | ⟨k1, k2⟩
    · obtain ⟨c, d1, d2, d3⟩ := hc _ _ k3
      refine ⟨c, ?_, d2, d3⟩
      rw [List.append_assoc, List.getElem?_append_right (by simp; omega), List.getElem?_append_left (by simp; omega)]
      rw [← Array.getElem?_toList] at d1
      rw [← d1]; congr 1; simp; omega
    · obtain ⟨u, d1, d2, d3⟩ := c5 j y' k2
      refine ⟨u, ?_, d2, d3⟩
      rw [← Array.getElem?_toList] at d1
      rcases k1 with k1 | k1
      · rw [List.append_assoc, List.getElem?_append_left (by simp; omega), List.getElem?_take, if_pos (by omega)]; exact d1
      · rw [List.getElem?_append_right (by simp; omega), List.getElem?_drop, ← d1]; congr 1; simp; omega
  · have e1 := run_storeCells_at P g off t (a.eval z).cells.toList 0 cur w c1 (by simp; omega) hone
    have e : (Instr.storeAt T (a.eval x) (a.eval z)).run P w = .ok () (w.setRow g (cur.toList.take (off + 0) ++ (a.eval z).cells.toList ++ cur.toList.drop (off + 0 + (a.eval z).cells.toList.length)).toArray) := by
      rw [hv]
      simp only [Instr.storeAt, Instr.sureAddr, storeVar, Sem.run_bind, Sem.run_pure, Result.andThen_ok, run_sizeOf' hT]
      rw [if_neg (by simp [hsz2])]
      simpa using e1
    simp only [execOp, Sem.run_bind, e, Result.andThen_ok]
    rfl
end
end Go.Proofs.Ytcdipmjgpimmdaa.Vc
