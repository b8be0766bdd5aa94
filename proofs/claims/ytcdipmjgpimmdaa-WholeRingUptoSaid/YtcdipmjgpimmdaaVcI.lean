/- The calculus, ninth part: regions that draw their order: a light operation that is ready may be taken first; of the others, whichever is ready. -/
import Derived.Test.YtcdipmjgpimmdaaVcH
set_option linter.unusedVariables false
set_option linter.unusedSimpArgs false
namespace Go.Proofs.Ytcdipmjgpimmdaa.Vc
open Go Go.RowKit

/-- It leaves what can be read as it is. -/
def mildB (o : Oper) : Bool := match o.op with | .store .. => false | .mapUpdate .. => false | .call c => (match c.callee with | .builtin .len => true | .builtin .cap => true | .builtin .min => true | .builtin .max => true | .builtin .unsafeSliceData => true | .builtin .unsafeString => true | .builtin _ => false | _ => true) | .move _ => true | .assign _ => true | .load .. => true | .binOp .. => true | .unOp .. => true | .pick .. => true | .fieldAddr .. => true | .indexAddr .. => true | .index .. => true | .alloc .. => true | .extract .. => true | .nilCheck .. => true | .slice .. => true | .build .. => true | .buildSlice .. => true | .convert .. => true | .makeSlice .. => true | .field .. => true | _ => false

section
variable {P : Program} {Γ : Ctx} {ops : Array Oper} {Q : Exit → Act → World → Prop}

/-- In this world, and, where it is asked, in those alone that read as it does. -/
def YieldsX (P : Program) (ops : Array Oper) (st : Bool) (o : Oper) (v : Value) (a : Act) (w : World) : Prop :=
  (Region.wanted o (yielded ops a.tmps) = true ∧ ∀ w', (st = true → Ext w w') → (execOp a.eval o).run P w' = .ok (.value v) w') ∨
  (Region.wanted o (yielded ops a.tmps) = false ∧ v = undef)
theorem Ext.trans {a b c : World} (h : Ext a b) (k : Ext b c) : Ext a c := fun x v e => k x v (h x v e)
theorem YieldsX.wpOp {st : Bool} {i : Nat} {o : Oper} {v : Value} {a : Act} {w : World} (hi : ops[i]? = some o) (hy : YieldsX P ops st o v a w) {K : Act → World → Prop} (h : K (a.put o.dst v) w) : wpOp P ops Q i K a w := by
  unfold Go.wpOp
  simp only [hi]
  rcases hy with ⟨hw, hv⟩ | ⟨hw, rfl⟩
  · simp only [hw, if_true, Oper.wp, hv w (fun _ => Ext.refl w), Oper.upon]; exact .inl h
  · simp only [hw, Bool.false_eq_true, if_false]; exact h
theorem YieldsX.of_same {st : Bool} {o : Oper} {v : Value} {a a' : Act} {w w' : World} (hy : YieldsX P ops st o v a w) (he : execOp a'.eval o = execOp a.eval o)
    (hw : Region.wanted o (yielded ops a'.tmps) = Region.wanted o (yielded ops a.tmps)) (hx : st = true → Ext w w') : YieldsX P ops st o v a' w' := by
  unfold YieldsX at *
  rw [he, hw]
  exact hy.imp (fun ⟨h1, h2⟩ => ⟨h1, fun w'' h => h2 w'' fun e => (hx e).trans (h e)⟩) id

theorem wpOp_putX {st : Bool} {j : Nat} {oi oj : Oper} {v : Value} (hj : ops[j]? = some oj) (hap : oi.apart ops oj = true) (hm : st = true → mildB oj = true)
    (hsi : ∀ cs b, oi.op ≠ .select cs b) (hsj : ∀ cs b, oj.op ≠ .select cs b)
    (hQ : ∀ c a w, Q (.panic c) (a.put oi.dst v) w → Q (.panic c) a w) {K : Act → World → Prop} {a : Act} {w : World}
    (hy : YieldsX P ops st oi v a w) (h : wpOp P ops Q j (fun a' w' => (mildB oj = true → Ext w w') ∧ K a' w') (a.put oi.dst v) w) :
    wpOp P ops Q j (fun a' w' => (mildB oj = true → Ext w w') ∧ YieldsX P ops st oi v a' w' ∧ K (a'.put oi.dst v) w') a w := by
  obtain ⟨h1, h2, h3⟩ := Oper.apart_spec hap
  have keep : ∀ u w', (mildB oj = true → Ext w w') → YieldsX P ops st oi v (a.put oj.dst u) w' := fun u w' hx =>
    hy.of_same (execOp_put oi hsi a oj.dst u h3) (wanted_put oi a oj.dst u h3) (fun e => hx (hm e))
  have keepD : ∀ d w', (mildB oj = true → Ext w w') → YieldsX P ops st oi v (({ a with defers := d :: a.defers } : Act).put oj.dst undef) w' := fun d w' hx =>
    hy.of_same (execOp_put oi hsi { a with defers := d :: a.defers } oj.dst undef h3) (wanted_put oi { a with defers := d :: a.defers } oj.dst undef h3) (fun e => hx (hm e))
  unfold wpOp at *
  simp only [hj] at *
  rw [wanted_put oj a oi.dst v h1] at h
  split
  · rename_i hw
    simp only [hw, if_true] at h
    rcases h with h | ⟨hasks, hlets⟩
    case inr => exact .inr ⟨by unfold Oper.asks at *; rw [execOp_put oj hsj a oi.dst v h1] at hasks; exact hasks, hlets⟩
    refine .inl ?_
    unfold Oper.wp at *
    rw [execOp_put oj hsj a oi.dst v h1] at h
    generalize (execOp a.eval oj).run P w = r at *
    cases r with
    | ok n w' =>
      cases n <;> simp only [Oper.upon] at h ⊢
      case value u => exact ⟨h.1, keep u w' h.1, by rw [← Act.put_comm a v u h2]; exact h.2⟩
      case skip => exact ⟨h.1, keep _ w' h.1, by rw [← Act.put_comm a v undef h2]; exact h.2⟩
      case defer d =>
        refine ⟨h.1, keepD d w' h.1, ?_⟩
        rw [← Act.put_comm _ v undef h2, ← Act.put_defers]
        exact h.2
      case enter f args =>
        refine Calls.mono h fun e w'' he => ?_
        cases e with
        | returned u => exact ⟨he.1, keep u w'' he.1, by rw [← Act.put_comm a v u h2]; exact he.2⟩
        | panicked c => exact hQ _ _ _ he
        | outgrown => exact he
      case row row args => exact Rows.mono h fun u w'' he => ⟨he.1, keep u w'' he.1, by rw [← Act.put_comm a v u h2]; exact he.2⟩
    | halt x w' =>
      cases x <;> simp only [Oper.upon] at h ⊢
      case panic u => exact hQ _ _ _ h
  · rename_i hw
    simp only [hw] at h
    exact ⟨h.1, keep _ w h.1, by rw [← Act.put_comm a v undef h2]; exact h.2⟩

/-- Whatever order is picked from here on; behind every mild operation all reads as before. -/
def wpAnyX (P : Program) (ops : Array Oper) (Q : Exit → Act → World → Prop) : Nat → Array Bool → Act → World → Prop
  | 0, listed, a, w => Region.ready .any ops listed = [] ∧ Q .normal a w
  | fuel + 1, listed, a, w =>
    (Region.ready .any ops listed = [] → Q .normal a w) ∧
    ∀ i ∈ Region.ready .any ops listed, wpOp P ops Q i (fun a' w' => ((∀ o, ops[i]? = some o → mildB o = true → Ext w w')) ∧ wpAnyX P ops Q fuel (listed.setIfInBounds i true) a' w') a w
theorem wpAny_of_X : ∀ (fuel : Nat) (listed : Array Bool) (a : Act) (w : World), wpAnyX P ops Q fuel listed a w → wpAny P .any ops Q fuel listed a w
  | 0, _, _, _, h => h
  | fuel + 1, _, _, _, h => ⟨h.1, fun i hi => wpOp_mono (fun a' w' h' => wpAny_of_X fuel _ a' w' h'.2) (h.2 i hi)⟩

/-- Who could come before number i: it waits for i, or it is apart from i and, where that matters, mild. -/
def freeX (st : Bool) (ops : Array Oper) (listed : Array Bool) (i : Nat) : Bool :=
  match ops[i]? with
  | none => false
  | some oi => (List.range ops.size).all fun j => Nat.beq j i || listed.getD j true || match ops[j]? with
      | some oj => oj.after.any (fun e => Region.binds .any e && Nat.beq e.on i) || (oi.apart ops oj && (!st || mildB oj))
      | none => true
theorem freeX_spec {st : Bool} {i : Nat} {oi : Oper} {listed : Array Bool} (hi : ops[i]? = some oi) (h : freeX st ops listed i = true) (j : Nat) (oj : Oper)
    (hj : ops[j]? = some oj) (hne : j ≠ i) (hun : listed.getD j true = false) (hno : ∀ e ∈ oj.after, Region.binds .any e = true → e.on ≠ i) :
    oi.apart ops oj = true ∧ (st = true → mildB oj = true) := by
  simp only [freeX, hi, List.all_eq_true, List.mem_range] at h
  have h1 := h j (Array.getElem?_eq_some_iff.1 hj).1
  have hb : Nat.beq j i = false := by
    cases hb : Nat.beq j i
    · rfl
    · exact absurd (Nat.eq_of_beq_eq_true hb) hne
  simp only [hj, hb, hun, Bool.false_or, Bool.or_eq_true, Bool.and_eq_true, Bool.not_eq_true'] at h1
  rcases h1 with h1 | h1
  · obtain ⟨e, he, hb⟩ := Array.any_eq_true'.1 h1
    simp only [Bool.and_eq_true] at hb
    exact absurd (Nat.eq_of_beq_eq_true hb.2) (hno e he hb.1)
  · exact ⟨h1.1, fun e => h1.2.resolve_left (by simp [e])⟩

theorem wpAnyX_first {st : Bool} {i : Nat} {oi : Oper} {v : Value} (hi : ops[i]? = some oi) (hsel : ∀ (j : Nat) (o : Oper) cs b, ops[j]? = some o → o.op ≠ .select cs b)
    (hQ : ∀ c a w, Q (.panic c) (a.put oi.dst v) w → Q (.panic c) a w) :
    ∀ (fuel : Nat) (listed : Array Bool) (a : Act) (w : World),
      (∀ j oj, ops[j]? = some oj → j ≠ i → listed.getD j true = false → (∀ e ∈ oj.after, Region.binds .any e = true → e.on ≠ i) → oi.apart ops oj = true ∧ (st = true → mildB oj = true)) →
      i ∈ Region.ready .any ops listed → YieldsX P ops st oi v a w →
      wpAnyX P ops Q fuel (listed.setIfInBounds i true) (a.put oi.dst v) w → wpAnyX P ops Q (fuel + 1) listed a w := by
  intro fuel
  induction fuel with
  | zero =>
    intro listed a w _ hr hy H
    refine ⟨fun h => (by rw [h] at hr; cases hr), fun j hj => ?_⟩
    by_cases hji : j = i
    · subst hji; exact hy.wpOp hi ⟨fun _ _ _ => Ext.refl w, H⟩
    · have := ready_mono hj hji
      rw [H.1] at this
      cases this
  | succ fuel ih =>
    intro listed a w hfree hr hy H
    refine ⟨fun h => (by rw [h] at hr; cases hr), fun j hj => ?_⟩
    by_cases hji : j = i
    · subst hji; exact hy.wpOp hi ⟨fun _ _ _ => Ext.refl w, H⟩
    · obtain ⟨hjun, oj, hoj, hall⟩ := mem_ready.1 hj
      have h1 : wpOp P ops Q j (fun a' w' => (mildB oj = true → Ext w w') ∧ wpAnyX P ops Q fuel ((listed.setIfInBounds i true).setIfInBounds j true) a' w') (a.put oi.dst v) w :=
        wpOp_mono (fun a' w' h => ⟨h.1 oj hoj, h.2⟩) (H.2 j (ready_mono hj hji))
      have hnot : ∀ e ∈ oj.after, Region.binds .any e = true → e.on ≠ i := fun e he hb heq => by
        have h1 := hall e he hb
        have h0 := (mem_ready.1 hr).1
        rw [heq] at h1
        rcases Nat.lt_or_ge i listed.size with h' | h'
        · simp [h'] at h0 h1; rw [h0] at h1; cases h1
        · simp [Array.getElem?_eq_none h'] at h1
      obtain ⟨hap, hmild⟩ := hfree j oj hoj hji hjun hnot
      have h2 := wpOp_putX hoj hap hmild (fun cs b => hsel i oi cs b hi) (fun cs b => hsel j oj cs b hoj) hQ hy h1
      have hfree' : ∀ k ok, ops[k]? = some ok → k ≠ i → (listed.setIfInBounds j true).getD k true = false →
          (∀ e ∈ ok.after, Region.binds .any e = true → e.on ≠ i) → oi.apart ops ok = true ∧ (st = true → mildB ok = true) := fun k ok hk hki hun hno => by
        refine hfree k ok hk hki ?_ hno
        by_cases hjk : j = k
        · subst hjk; exact hjun
        · rw [getD_set_ne true hjk] at hun; exact hun
      refine wpOp_mono (fun a' w' h3 => ⟨fun o ho hmo => by rw [hoj] at ho; injection ho with ho; subst ho; exact h3.1 hmo, ih (listed.setIfInBounds j true) a' w' hfree' (ready_mono hr (Ne.symm hji)) h3.2.1 ?_⟩) h2
      rw [Array.setIfInBounds_comm _ _ hji]
      exact h3.2.2

/-! ### The judgement -/
variable {F : Fr} {H : List Ob} {Q : Exit → Fr → List Ob → Prop}
/-- From these on that have come up. -/
def JA (P : Program) (ops : Array Oper) (fuel : Nat) (listed : Array Bool) (Γ : Ctx) (F : Fr) (H : List Ob) (Q : Exit → Fr → List Ob → Prop) : Prop :=
  ∀ a w, St Γ F H a w → wpAnyX P ops (toQ Γ Q) fuel listed a w

/-- A light operation of a region, looked at with its guard. -/
def LO (P : Program) (ops : Array Oper) (st : Bool) (Γ : Ctx) (o : Oper) (d : Nat) (F : Fr) (H : List Ob) (y : V) : Prop :=
  o.dst = some d ∧ d < Γ.N ∧ ∀ ρ a w, StA Γ ρ F H a w → ∃ v, Rel w (Lset Γ.M ρ H) Γ.w0.heap.size ρ y v ∧ YieldsX P ops st o v a w
theorem lo_l {d : Nat} {op : Op} {T : TypeId} {ps : String} {af : Array Edge} {y : V} (h : LY P Γ op F H y) (hd : d < Γ.N) : LO P ops true Γ ⟨some d, op, T, ps, af, none⟩ d F H y :=
  ⟨rfl, hd, fun ρ a w s => by
    obtain ⟨v, r, hr⟩ := h ρ a w s
    exact ⟨v, r, .inl ⟨rfl, fun w' hw' => hr _ _ _ _ _ w' (hw' rfl)⟩⟩⟩
theorem lo_g {d : Nat} {op : Op} {T : TypeId} {ps : String} {af : Array Edge} {y : V} {j0 : Nat} {b0 : Bool} (t0 : Nat) (ht : (ops[j0]?).bind (·.dst) = some t0) (hb : getO F t0 = some (.b b0))
    (h : LY P Γ op F H y) (hd : d < Γ.N) : LO P ops true Γ ⟨some d, op, T, ps, af, some (j0, b0)⟩ d F H y :=
  ⟨rfl, hd, fun ρ a w s => by
    obtain ⟨v, r, hr⟩ := h ρ a w s
    exact ⟨v, r, .inl ⟨wanted_yes rfl (yielded_of s ht hb), fun w' hw' => hr _ _ _ _ _ w' (hw' rfl)⟩⟩⟩
theorem lo_s {d : Nat} {op : Op} {T : TypeId} {ps : String} {af : Array Edge} {j0 : Nat} {b0 b1 : Bool} (t0 : Nat) (ht : (ops[j0]?).bind (·.dst) = some t0) (hb : getO F t0 = some (.b b1)) (hne : (b0 == b1) = false)
    (hd : d < Γ.N) : LO P ops false Γ ⟨some d, op, T, ps, af, some (j0, b0)⟩ d F H (.c undef) :=
  ⟨rfl, hd, fun ρ a w s => ⟨undef, rfl, .inr ⟨wanted_no rfl (by rw [yielded_of s ht hb]; intro e; injection e with e; subst e; simp at hne), rfl⟩⟩⟩
theorem lo_s' {d : Nat} {op : Op} {T : TypeId} {ps : String} {af : Array Edge} {j0 : Nat} {b0 : Bool} (t0 : Nat) (ht : (ops[j0]?).bind (·.dst) = some t0) (hb : getO F t0 = some (.c undef))
    (hd : d < Γ.N) : LO P ops false Γ ⟨some d, op, T, ps, af, some (j0, b0)⟩ d F H (.c undef) :=
  ⟨rfl, hd, fun ρ a w s => ⟨undef, rfl, .inr ⟨wanted_no rfl (by
    have h1 := s.fr t0
    unfold get at h1
    rw [hb] at h1
    have h2 : a.tmps.getD t0 undef = undef := h1
    unfold yielded
    rw [ht]
    show (match a.tmps[t0]? with | some (.bool b) => some b | _ => none) ≠ some b0
    rw [Array.getD_eq_getD_getElem?] at h2
    cases h : a.tmps[t0]? with
    | none => simp
    | some v => rw [h] at h2; rw [show v = undef from h2]; simp [undef]), rfl⟩⟩⟩
/-- A value on the move, whatever the world. -/
theorem lo_mv {d : Nat} {x : Operand} {T : TypeId} {ps : String} {af : Array Edge} {y : V} (h : ovO F x = some y) (hd : d < Γ.N) : LO P ops false Γ ⟨some d, .move x, T, ps, af, none⟩ d F H y :=
  ⟨rfl, hd, fun ρ a w s => ⟨_, s.ov h, .inl ⟨rfl, fun w' _ => rfl⟩⟩⟩
theorem lo_as {d : Nat} {x : Operand} {T : TypeId} {ps : String} {af : Array Edge} {y : V} (h : ovO F x = some y) (hd : d < Γ.N) : LO P ops false Γ ⟨some d, .assign x, T, ps, af, none⟩ d F H y :=
  ⟨rfl, hd, fun ρ a w s => ⟨_, s.ov h, .inl ⟨rfl, fun w' _ => rfl⟩⟩⟩

/-- Number i, which is ready and light, is taken first. -/
theorem ja_l {fuel : Nat} {listed : Array Bool} (i : Nat) {st : Bool} {o : Oper} {d : Nat} {y : V} (h : LO P ops st Γ o d F H y) (hi : ops[i]? = some o) (hs : Region.noSelect ops = true)
    (hr : (Region.ready .any ops listed).contains i = true) (hf : freeX st ops listed i = true) (hQ : ∀ c F H d, Q (.panic c) F H → Q (.panic c) ((d, .u) :: F) H)
    (j : JA P ops fuel (listed.setIfInBounds i true) Γ ((d, y) :: F) H Q) : JA P ops (fuel + 1) listed Γ F H Q := fun a w ⟨ρ, s⟩ => by
  obtain ⟨hdst, hd, h⟩ := h
  obtain ⟨v, r, hy⟩ := h ρ a w s
  refine wpAnyX_first hi (Region.noSelect_spec hs) ?_ fuel listed a w (freeX_spec hi hf) (by simpa using hr) hy (by rw [hdst]; exact j _ _ ⟨ρ, s.put hd r⟩)
  rintro c a' w' ⟨F', H', q, ρ', s'⟩
  refine ⟨(d, .u) :: F', H', hQ _ _ _ _ q, ρ', s'.hr, ?_, ?_, fun t => ?_, s'.fro⟩
  · have := s'.n; rw [hdst] at this; simpa [Act.put] using this
  · have := s'.ds; rw [hdst] at this; simpa [Act.put] using this
  · rw [get_cons]
    by_cases e : t = d
    · rw [if_pos e]; trivial
    · rw [if_neg e]
      have := s'.fr t
      rw [hdst] at this
      simpa [Act.put, Array.getD_eq_getD_getElem?, Array.getElem?_setIfInBounds_ne (Ne.symm e)] using this
theorem ja_nil {fuel : Nat} {listed : Array Bool} (hr : Region.ready .any ops listed = []) (h : Q .normal F H) : JA P ops fuel listed Γ F H Q := fun a w s => by
  cases fuel with
  | zero => exact ⟨hr, F, H, h, s⟩
  | succ n => exact ⟨fun _ => ⟨F, H, h, s⟩, by rw [hr]; simp⟩

/-- One operation that is carried out: how it goes on. -/
def JS (P : Program) (ops : Array Oper) (Γ : Ctx) (o : Oper) (F : Fr) (H : List Ob) (Q : Exit → Fr → List Ob → Prop) (R : Fr → List Ob → Prop) : Prop :=
  ∀ a w, St Γ F H a w → Region.wanted o (yielded ops a.tmps) = true ∧ o.wp P a w (fun a' w' => (mildB o = true → Ext w w') ∧ ∃ F' H', R F' H' ∧ St Γ F' H' a' w') (toQ Γ Q)
theorem js_mono {o : Oper} {R R' : Fr → List Ob → Prop} (h : ∀ F H, R F H → R' F H) (k : JS P ops Γ o F H Q R) : JS P ops Γ o F H Q R' := fun a w s =>
  ⟨(k a w s).1, Oper.wp_mono (fun a' w' ⟨h1, F', H', h2, h3⟩ => ⟨h1, F', H', h F' H' h2, h3⟩) (k a w s).2⟩
theorem jc_regionb {id : Nat} {ops : Array Oper} {l : List Oper} (hl : ops = l.toArray) (h : JO P l.toArray l Γ F H Q) : JC P (.region id ops false) Γ F H Q := by subst hl; exact jc_region h
/-- Those that are ready come up, whichever. -/
theorem ja_all {fuel : Nat} {listed : Array Bool} (rs : List Nat) (hr : Region.ready .any ops listed = rs) (hne : rs.isEmpty = false)
    (h : ∀ i ∈ rs, ∃ o, ops[i]? = some o ∧ JS P ops Γ o F H Q fun F' H' => JA P ops fuel (listed.setIfInBounds i true) Γ F' H' Q) : JA P ops (fuel + 1) listed Γ F H Q := fun a w s => by
  refine ⟨fun h0 => by rw [hr] at h0; rw [h0] at hne; simp at hne, fun i hi => ?_⟩
  obtain ⟨o, ho, hj⟩ := h i (hr ▸ hi)
  obtain ⟨hw, hj⟩ := hj a w s
  unfold wpOp
  rw [ho]
  simp only []
  rw [if_pos hw]
  refine .inl (Oper.wp_mono (fun a' w' ⟨h1, F', H', h2, h3⟩ => ⟨fun o' ho' hm => ?_, h2 a' w' h3⟩) hj)
  injection ho' with ho'
  subst ho'
  exact h1 hm
/-- One alone is ready. -/
theorem ja_1 {fuel : Nat} {listed : Array Bool} (i : Nat) {o : Oper} (h : JS P ops Γ o F H Q fun F' H' => JA P ops fuel (listed.setIfInBounds i true) Γ F' H' Q) (hi : ops[i]? = some o) (hr : Region.ready .any ops listed = [i]) : JA P ops (fuel + 1) listed Γ F H Q :=
  ja_all [i] hr rfl fun j hj => by simp at hj; subst hj; exact ⟨o, hi, h⟩

theorem js_call {f : FuncId} (fn : Func) {d : Nat} {T : TypeId} {ps : String} {af : Array Edge} {args : Array Operand} {ts : Array TypeId} {c : Operand} {ys zs : List V} {post : Out → Prop} {R : Fr → List Ob → Prop}
    (hs : Spec P f zs post) (hc : ovO F c = some (.f f [])) (hf : P.funcs[f]? = some fn) (hb : fn.body.isSome = true) (hn : (fn.name == "runtime.NumGoroutine") = false) (hx : ovL F args.toList ys) (ha : ArgL ys zs) (hd : d < Γ.N)
    (k : ∀ y, post (.ret y) → R ((d, y) :: F) H) (kp : ∀ ch, post (.pan ch) → Q (.panic ch) F H) :
    JS P ops Γ ⟨some d, .call { callee := .value c, args := args, argTypes := ts }, T, ps, af, none⟩ F H Q R := fun a w ⟨ρ, s⟩ =>
  ⟨rfl, wp_call hc hf hb hn hx ha hs s (fun y v w' h1 h2 h3 h4 => ⟨fun _ => ext_below h3, _, _, k y h1, ρ, h4.put hd h2⟩) (fun ch w' h1 _ h3 => ⟨F, H, kp ch h1, ρ, h3⟩)⟩
theorem js_callg {f : FuncId} (fn : Func) {d : Nat} {T : TypeId} {ps : String} {af : Array Edge} {args : Array Operand} {ts : Array TypeId} {c : Operand} {ys zs : List V} {post : Out → Prop} {R : Fr → List Ob → Prop} {j0 : Nat} {b0 : Bool} (t0 : Nat) (ht : (ops[j0]?).bind (·.dst) = some t0) (hb0 : getO F t0 = some (.b b0))
    (hs : Spec P f zs post) (hc : ovO F c = some (.f f [])) (hf : P.funcs[f]? = some fn) (hb : fn.body.isSome = true) (hn : (fn.name == "runtime.NumGoroutine") = false) (hx : ovL F args.toList ys) (ha : ArgL ys zs) (hd : d < Γ.N)
    (k : ∀ y, post (.ret y) → R ((d, y) :: F) H) (kp : ∀ ch, post (.pan ch) → Q (.panic ch) F H) :
    JS P ops Γ ⟨some d, .call { callee := .value c, args := args, argTypes := ts }, T, ps, af, some (j0, b0)⟩ F H Q R := fun a w ⟨ρ, s⟩ =>
  ⟨wanted_yes rfl (yielded_of s ht hb0), wp_call hc hf hb hn hx ha hs s (fun y v w' h1 h2 h3 h4 => ⟨fun _ => ext_below h3, _, _, k y h1, ρ, h4.put hd h2⟩) (fun ch w' h1 _ h3 => ⟨F, H, kp ch h1, ρ, h3⟩)⟩
theorem js_h {d : Nat} {op : Op} {T : TypeId} {ps : String} {af : Array Edge} {y : V} {H' : List Ob} {R : Fr → List Ob → Prop} (h : HY P Γ op F H y H') (hd : d < Γ.N) (k : R ((d, y) :: F) H') : JS P ops Γ ⟨some d, op, T, ps, af, none⟩ F H Q R := fun a w ⟨ρ, s⟩ => by
  obtain ⟨v, w', ρ', r, s', hx, hr⟩ := h ρ a w s
  refine ⟨rfl, ?_⟩
  unfold Oper.wp
  rw [hr _ _ _ _ _]
  exact ⟨fun _ => hx, _, _, k, ρ', s'.put hd r⟩
theorem js_hg {d : Nat} {op : Op} {T : TypeId} {ps : String} {af : Array Edge} {y : V} {H' : List Ob} {R : Fr → List Ob → Prop} {j0 : Nat} {b0 : Bool} (t0 : Nat) (ht : (ops[j0]?).bind (·.dst) = some t0) (hb0 : getO F t0 = some (.b b0)) (h : HY P Γ op F H y H') (hd : d < Γ.N) (k : R ((d, y) :: F) H') : JS P ops Γ ⟨some d, op, T, ps, af, some (j0, b0)⟩ F H Q R := fun a w ⟨ρ, s⟩ => by
  obtain ⟨v, w', ρ', r, s', hx, hr⟩ := h ρ a w s
  refine ⟨wanted_yes rfl (yielded_of s ht hb0), ?_⟩
  unfold Oper.wp
  rw [hr _ _ _ _ _]
  exact ⟨fun _ => hx, _, _, k, ρ', s'.put hd r⟩
theorem js_st {op : Op} {T : TypeId} {ps : String} {af : Array Edge} {H' : List Ob} {R : Fr → List Ob → Prop} (h : SY P Γ op F H H') (hm : mildB ⟨none, op, T, ps, af, none⟩ = false) (k : R F H') : JS P ops Γ ⟨none, op, T, ps, af, none⟩ F H Q R := fun a w ⟨ρ, s⟩ => by
  obtain ⟨w', ρ', s', hr⟩ := h ρ a w s
  refine ⟨rfl, ?_⟩
  unfold Oper.wp
  rw [hr _ _ _ _ _]
  exact ⟨fun e => by rw [hm] at e; simp at e, _, _, k, ρ', s'⟩
theorem ja_split {fuel : Nat} {listed : Array Bool} (t : Nat) {b : Bool} (h : getO F t = some (.b b)) (ht : b = true → JA P ops fuel listed Γ ((t, .b true) :: F) H Q) (hf : b = false → JA P ops fuel listed Γ ((t, .b false) :: F) H Q) : JA P ops fuel listed Γ F H Q := fun a w s => by
  have sub : ∀ c : Bool, b = c → Sub ((t, .b c) :: F) F := fun c e => .cons (by rw [h, e]) fun t y h => h
  cases hb : b
  · exact hf hb a w (s.sub (sub false hb))
  · exact ht hb a w (s.sub (sub true hb))
theorem ja_ifp {fuel : Nat} {listed : Array Bool} (t : Nat) {p : Prop} [Decidable p] (h : getO F t = some (.b (decide p))) (ht : p → JA P ops fuel listed Γ ((t, .b true) :: F) H Q) (hf : ¬ p → JA P ops fuel listed Γ ((t, .b false) :: F) H Q) : JA P ops fuel listed Γ F H Q :=
  ja_split t h (fun e => ht (of_decide_eq_true e)) (fun e => hf (of_decide_eq_false e))
/-- The beginning. -/
theorem jc_draw {id n : Nat} (ops : Array Oper) (hn : ops.size = n) (hm : P.follows .mixedOrders = true) (h : JA P ops n (Array.replicate n false) Γ F H Q) : JC P (.region id ops true) Γ F H Q := fun a w ⟨ρ, s⟩ => by
  subst hn
  exact wp_region_any hm (wpAny_of_X _ _ _ _ (h a { w with drawn := w.drawn + 1 } ⟨ρ, s.below ⟨rfl, rfl, rfl, Nat.le_refl _, fun _ _ => rfl⟩⟩))
end
end Go.Proofs.Ytcdipmjgpimmdaa.Vc
