/- The card of the law WholeMasks of surdlaw06: it returns true for every two whole numbers and every place of bulk at most 1048576 where the table of math/bits lies as the program lays it Texts joined: VcI, VcJ, VcK, VcL, VcM, VcN, VcO, VcR, VcS, VcT, VcU, VcX, VcY, VcZ, VcP, VcQ, VcW, VcV, VcAA, VcAB, VcAC, VcAD, VcAE, VcAF, VcAG, VcAH, VcAI, VcAJ, VcAK, VcAL, Na, Nb, Nc, Nd, Ne, Nf, Ng, Nh, Ni. -/
import Derived.Test.YtaogaegchagbfaaDoorK1
import Derived.Lib.Builder
import Derived.Laws.Externs
import Derived.LaidEqlPtr
import Derived.Lib.AppendStr
import Derived.Test.YtaogaegchagbfaaDoorRows
import Derived.ProofKit
import Derived.OpenShut
import Derived.Lib.UnsafeStr
import Derived.Lib.MinMax
import Derived.Laws.StructEq
import Derived.ChangeKeysEq
import Derived.Deep.Slices
import Derived.Deep.Strs
import Derived.WideShapes
import Derived.Carry
import Derived.Laws.CopyRow
import Derived.Laws.IdiomCopy
import Derived.Laws.IdiomStrings
import Derived.Laws.BytesArg
set_option linter.unusedVariables false
set_option linter.unusedSimpArgs false
/- The calculus, ninth part: regions that draw their order: a light operation that is ready may be taken first; of the others, whichever is ready. -/
namespace Go.Proofs.YtaogaegchagbfaaDoor.Vc
open Go Go.RowKit

/-- Functions that write what is handed to them. -/
def wildF : List Nat :=
 [22]
/-- It leaves what can be read as it is. -/
def mildB (o : Oper) : Bool := match o.op with | .store .. => false | .mapUpdate .. => false | .call c => (match c.callee with | .builtin .len => true | .builtin .cap => true | .builtin .min => true | .builtin .max => true | .builtin .unsafeSliceData => true | .builtin .unsafeString => true | .builtin _ => false | .value (.func f) => !(wildF.any fun k => Nat.beq k f) | _ => true) | .move _ => true | .assign _ => true | .load .. => true | .binOp .. => true | .unOp .. => true | .pick .. => true | .fieldAddr .. => true | .indexAddr .. => true | .index .. => true | .alloc .. => true | .extract .. => true | .nilCheck .. => true | .slice .. => true | .build .. => true | .buildSlice .. => true | .convert .. => true | .makeSlice .. => true | .field .. => true | _ => false

section
variable {P : Program} {Γ : Ctx} {ops : Array Oper} {Q : Exit → Act → World → Prop}

/-- In this world, and, where it is asked, in those alone that read as it does. -/
def YieldsX (P : Program) (ops : Array Oper) (st : Bool) (o : Oper) (v : Value) (a : Act) (w : World) : Prop :=
  (Region.wanted o (yielded ops a.tmps) = true ∧ ∀ w', (st = true → Ext w w') → (execOp a.eval o).run P w' = .ok (.value v) w') ∨
  (Region.wanted o (yielded ops a.tmps) = false ∧ v = undef)
theorem Ext.trans {a b c : World} (h : Ext a b) (k : Ext b c) : Ext a c := fun x v e => k x v (h x v e)
theorem YieldsX.wpOp {st : Bool} {i : Nat} {o : Oper} {v : Value} {a : Act} {w : World} (hi : ops[i]? = some o) (hy : YieldsX P ops st o v a w) {K : Act → World → Prop} (h : K (a.put o.dst v) w) : wpOp P ops Q i K a w := by
  unfold Go.wpOp
  simp only [hi]
  rcases hy with ⟨hw, hv⟩ | ⟨hw, rfl⟩
  · simp only [hw, if_true, Oper.wp, hv w (fun _ => Ext.refl w), Oper.upon]; exact .inl h
  · simp only [hw, Bool.false_eq_true, if_false]; exact h
theorem YieldsX.of_same {st : Bool} {o : Oper} {v : Value} {a a' : Act} {w w' : World} (hy : YieldsX P ops st o v a w) (he : execOp a'.eval o = execOp a.eval o)
    (hw : Region.wanted o (yielded ops a'.tmps) = Region.wanted o (yielded ops a.tmps)) (hx : st = true → Ext w w') : YieldsX P ops st o v a' w' := by
  unfold YieldsX at *
  rw [he, hw]
  exact hy.imp (fun ⟨h1, h2⟩ => ⟨h1, fun w'' h => h2 w'' fun e => (hx e).trans (h e)⟩) id

theorem wpOp_putX {st : Bool} {j : Nat} {oi oj : Oper} {v : Value} (hj : ops[j]? = some oj) (hap : oi.apart ops oj = true) (hm : st = true → mildB oj = true)
    (hsi : ∀ cs b, oi.op ≠ .select cs b) (hsj : ∀ cs b, oj.op ≠ .select cs b)
    (hQ : ∀ c a w, Q (.panic c) (a.put oi.dst v) w → Q (.panic c) a w) {K : Act → World → Prop} {a : Act} {w : World}
    (hy : YieldsX P ops st oi v a w) (h : wpOp P ops Q j (fun a' w' => (mildB oj = true → Ext w w') ∧ K a' w') (a.put oi.dst v) w) :
    wpOp P ops Q j (fun a' w' => (mildB oj = true → Ext w w') ∧ YieldsX P ops st oi v a' w' ∧ K (a'.put oi.dst v) w') a w := by
  obtain ⟨h1, h2, h3⟩ := Oper.apart_spec hap
  have keep : ∀ u w', (mildB oj = true → Ext w w') → YieldsX P ops st oi v (a.put oj.dst u) w' := fun u w' hx =>
    hy.of_same (execOp_put oi hsi a oj.dst u h3) (wanted_put oi a oj.dst u h3) (fun e => hx (hm e))
  have keepD : ∀ d w', (mildB oj = true → Ext w w') → YieldsX P ops st oi v (({ a with defers := d :: a.defers } : Act).put oj.dst undef) w' := fun d w' hx =>
    hy.of_same (execOp_put oi hsi { a with defers := d :: a.defers } oj.dst undef h3) (wanted_put oi { a with defers := d :: a.defers } oj.dst undef h3) (fun e => hx (hm e))
  unfold wpOp at *
  simp only [hj] at *
  rw [wanted_put oj a oi.dst v h1] at h
  split
  · rename_i hw
    simp only [hw, if_true] at h
    rcases h with h | ⟨hasks, hlets⟩
    case inr => exact .inr ⟨by unfold Oper.asks at *; rw [execOp_put oj hsj a oi.dst v h1] at hasks; exact hasks, hlets⟩
    refine .inl ?_
    unfold Oper.wp at *
    rw [execOp_put oj hsj a oi.dst v h1] at h
    generalize (execOp a.eval oj).run P w = r at *
    cases r with
    | ok n w' =>
      cases n <;> simp only [Oper.upon] at h ⊢
      case value u => exact ⟨h.1, keep u w' h.1, by rw [← Act.put_comm a v u h2]; exact h.2⟩
      case skip => exact ⟨h.1, keep _ w' h.1, by rw [← Act.put_comm a v undef h2]; exact h.2⟩
      case defer d =>
        refine ⟨h.1, keepD d w' h.1, ?_⟩
        rw [← Act.put_comm _ v undef h2, ← Act.put_defers]
        exact h.2
      case enter f args =>
        refine Calls.mono h fun e w'' he => ?_
        cases e with
        | returned u => exact ⟨he.1, keep u w'' he.1, by rw [← Act.put_comm a v u h2]; exact he.2⟩
        | panicked c => exact hQ _ _ _ he
        | outgrown => exact he
      case row row args => exact Rows.mono h fun u w'' he => ⟨he.1, keep u w'' he.1, by rw [← Act.put_comm a v u h2]; exact he.2⟩
    | halt x w' =>
      cases x <;> simp only [Oper.upon] at h ⊢
      case panic u => exact hQ _ _ _ h
  · rename_i hw
    simp only [hw] at h
    exact ⟨h.1, keep _ w h.1, by rw [← Act.put_comm a v undef h2]; exact h.2⟩

/-- Whatever order is picked from here on; behind every mild operation all reads as before. -/
def wpAnyX (P : Program) (ops : Array Oper) (Q : Exit → Act → World → Prop) : Nat → Array Bool → Act → World → Prop
  | 0, listed, a, w => Region.ready .any ops listed = [] ∧ Q .normal a w
  | fuel + 1, listed, a, w =>
    (Region.ready .any ops listed = [] → Q .normal a w) ∧
    ∀ i ∈ Region.ready .any ops listed, wpOp P ops Q i (fun a' w' => ((∀ o, ops[i]? = some o → mildB o = true → Ext w w')) ∧ wpAnyX P ops Q fuel (listed.setIfInBounds i true) a' w') a w
theorem wpAny_of_X : ∀ (fuel : Nat) (listed : Array Bool) (a : Act) (w : World), wpAnyX P ops Q fuel listed a w → wpAny P .any ops Q fuel listed a w
  | 0, _, _, _, h => h
  | fuel + 1, _, _, _, h => ⟨h.1, fun i hi => wpOp_mono (fun a' w' h' => wpAny_of_X fuel _ a' w' h'.2) (h.2 i hi)⟩

/-- Who could come before number i: it waits for i, or it is apart from i and, where that matters, mild. -/
def freeX (st : Bool) (ops : Array Oper) (listed : Array Bool) (i : Nat) : Bool :=
  match ops[i]? with
  | none => false
  | some oi => (List.range ops.size).all fun j => Nat.beq j i || listed.getD j true || match ops[j]? with
      | some oj => oj.after.any (fun e => Region.binds .any e && Nat.beq e.on i) || (oi.apart ops oj && (!st || mildB oj))
      | none => true
theorem freeX_spec {st : Bool} {i : Nat} {oi : Oper} {listed : Array Bool} (hi : ops[i]? = some oi) (h : freeX st ops listed i = true) (j : Nat) (oj : Oper)
    (hj : ops[j]? = some oj) (hne : j ≠ i) (hun : listed.getD j true = false) (hno : ∀ e ∈ oj.after, Region.binds .any e = true → e.on ≠ i) :
    oi.apart ops oj = true ∧ (st = true → mildB oj = true) := by
  simp only [freeX, hi, List.all_eq_true, List.mem_range] at h
  have h1 := h j (Array.getElem?_eq_some_iff.1 hj).1
  have hb : Nat.beq j i = false := by
    cases hb : Nat.beq j i
    · rfl
    · exact absurd (Nat.eq_of_beq_eq_true hb) hne
  simp only [hj, hb, hun, Bool.false_or, Bool.or_eq_true, Bool.and_eq_true, Bool.not_eq_true'] at h1
  rcases h1 with h1 | h1
  · obtain ⟨e, he, hb⟩ := Array.any_eq_true'.1 h1
    simp only [Bool.and_eq_true] at hb
    exact absurd (Nat.eq_of_beq_eq_true hb.2) (hno e he hb.1)
  · exact ⟨h1.1, fun e => h1.2.resolve_left (by simp [e])⟩

theorem wpAnyX_first {st : Bool} {i : Nat} {oi : Oper} {v : Value} (hi : ops[i]? = some oi) (hsel : ∀ (j : Nat) (o : Oper) cs b, ops[j]? = some o → o.op ≠ .select cs b)
    (hQ : ∀ c a w, Q (.panic c) (a.put oi.dst v) w → Q (.panic c) a w) :
    ∀ (fuel : Nat) (listed : Array Bool) (a : Act) (w : World),
      (∀ j oj, ops[j]? = some oj → j ≠ i → listed.getD j true = false → (∀ e ∈ oj.after, Region.binds .any e = true → e.on ≠ i) → oi.apart ops oj = true ∧ (st = true → mildB oj = true)) →
      i ∈ Region.ready .any ops listed → YieldsX P ops st oi v a w →
      wpAnyX P ops Q fuel (listed.setIfInBounds i true) (a.put oi.dst v) w → wpAnyX P ops Q (fuel + 1) listed a w := by
  intro fuel
  induction fuel with
  | zero =>
    intro listed a w _ hr hy H
    refine ⟨fun h => (by rw [h] at hr; cases hr), fun j hj => ?_⟩
    by_cases hji : j = i
    · subst hji; exact hy.wpOp hi ⟨fun _ _ _ => Ext.refl w, H⟩
    · have := ready_mono hj hji
      rw [H.1] at this
      cases this
  | succ fuel ih =>
    intro listed a w hfree hr hy H
    refine ⟨fun h => (by rw [h] at hr; cases hr), fun j hj => ?_⟩
    by_cases hji : j = i
    · subst hji; exact hy.wpOp hi ⟨fun _ _ _ => Ext.refl w, H⟩
    · obtain ⟨hjun, oj, hoj, hall⟩ := mem_ready.1 hj
      have h1 : wpOp P ops Q j (fun a' w' => (mildB oj = true → Ext w w') ∧ wpAnyX P ops Q fuel ((listed.setIfInBounds i true).setIfInBounds j true) a' w') (a.put oi.dst v) w :=
        wpOp_mono (fun a' w' h => ⟨h.1 oj hoj, h.2⟩) (H.2 j (ready_mono hj hji))
      have hnot : ∀ e ∈ oj.after, Region.binds .any e = true → e.on ≠ i := fun e he hb heq => by
        have h1 := hall e he hb
        have h0 := (mem_ready.1 hr).1
        rw [heq] at h1
        rcases Nat.lt_or_ge i listed.size with h' | h'
        · simp [h'] at h0 h1; rw [h0] at h1; cases h1
        · simp [Array.getElem?_eq_none h'] at h1
      obtain ⟨hap, hmild⟩ := hfree j oj hoj hji hjun hnot
      have h2 := wpOp_putX hoj hap hmild (fun cs b => hsel i oi cs b hi) (fun cs b => hsel j oj cs b hoj) hQ hy h1
      have hfree' : ∀ k ok, ops[k]? = some ok → k ≠ i → (listed.setIfInBounds j true).getD k true = false →
          (∀ e ∈ ok.after, Region.binds .any e = true → e.on ≠ i) → oi.apart ops ok = true ∧ (st = true → mildB ok = true) := fun k ok hk hki hun hno => by
        refine hfree k ok hk hki ?_ hno
        by_cases hjk : j = k
        · subst hjk; exact hjun
        · rw [getD_set_ne true hjk] at hun; exact hun
      refine wpOp_mono (fun a' w' h3 => ⟨fun o ho hmo => by rw [hoj] at ho; injection ho with ho; subst ho; exact h3.1 hmo, ih (listed.setIfInBounds j true) a' w' hfree' (ready_mono hr (Ne.symm hji)) h3.2.1 ?_⟩) h2
      rw [Array.setIfInBounds_comm _ _ hji]
      exact h3.2.2

/-! ### The judgement -/
variable {F : Fr} {H : List Ob} {Q : Exit → Fr → List Ob → Prop}
/-- From these on that have come up. -/
def JA (P : Program) (ops : Array Oper) (fuel : Nat) (listed : Array Bool) (Γ : Ctx) (F : Fr) (H : List Ob) (Q : Exit → Fr → List Ob → Prop) : Prop :=
  ∀ a w, St Γ F H a w → wpAnyX P ops (toQ Γ Q) fuel listed a w

/-- A light operation of a region, looked at with its guard. -/
def LO (P : Program) (ops : Array Oper) (st : Bool) (Γ : Ctx) (o : Oper) (d : Nat) (F : Fr) (H : List Ob) (y : V) : Prop :=
  o.dst = some d ∧ d < Γ.N ∧ ∀ ρ a w, StA Γ ρ F H a w → ∃ v, Rel w (Lset Γ.M ρ H) Γ.w0.heap.size ρ y v ∧ YieldsX P ops st o v a w
theorem lo_l {d : Nat} {op : Op} {T : TypeId} {ps : String} {af : Array Edge} {y : V} (h : LY P Γ op F H y) (hd : d < Γ.N) : LO P ops true Γ ⟨some d, op, T, ps, af, none⟩ d F H y :=
  ⟨rfl, hd, fun ρ a w s => by
    obtain ⟨v, r, hr⟩ := h ρ a w s
    exact ⟨v, r, .inl ⟨rfl, fun w' hw' => hr _ _ _ _ _ w' (hw' rfl)⟩⟩⟩
theorem lo_g {d : Nat} {op : Op} {T : TypeId} {ps : String} {af : Array Edge} {y : V} {j0 : Nat} {b0 : Bool} (t0 : Nat) (ht : (ops[j0]?).bind (·.dst) = some t0) (hb : getO F t0 = some (.b b0))
    (h : LY P Γ op F H y) (hd : d < Γ.N) : LO P ops true Γ ⟨some d, op, T, ps, af, some (j0, b0)⟩ d F H y :=
  ⟨rfl, hd, fun ρ a w s => by
    obtain ⟨v, r, hr⟩ := h ρ a w s
    exact ⟨v, r, .inl ⟨wanted_yes rfl (yielded_of s ht hb), fun w' hw' => hr _ _ _ _ _ w' (hw' rfl)⟩⟩⟩
/-- Number i, which is ready and light, is taken first. -/
theorem ja_l {fuel : Nat} {listed : Array Bool} (i : Nat) {st : Bool} {o : Oper} {d : Nat} {y : V} (h : LO P ops st Γ o d F H y) (hi : ops[i]? = some o) (hs : Region.noSelect ops = true)
    (hr : (Region.ready .any ops listed).contains i = true) (hf : freeX st ops listed i = true) (hQ : ∀ c F H d, Q (.panic c) F H → Q (.panic c) ((d, .u) :: F) H)
    (j : JA P ops fuel (listed.setIfInBounds i true) Γ ((d, y) :: F) H Q) : JA P ops (fuel + 1) listed Γ F H Q := fun a w ⟨ρ, s⟩ => by
  obtain ⟨hdst, hd, h⟩ := h
  obtain ⟨v, r, hy⟩ := h ρ a w s
  refine wpAnyX_first hi (Region.noSelect_spec hs) ?_ fuel listed a w (freeX_spec hi hf) (by simpa using hr) hy (by rw [hdst]; exact j _ _ ⟨ρ, s.put hd r⟩)
  rintro c a' w' ⟨F', H', q, ρ', s'⟩
  refine ⟨(d, .u) :: F', H', hQ _ _ _ _ q, ρ', s'.hr, ?_, ?_, fun t => ?_, s'.fro⟩
  · have := s'.n; rw [hdst] at this; simpa [Act.put] using this
  · have := s'.ds; rw [hdst] at this; simpa [Act.put] using this
  · rw [get_cons]
    by_cases e : t = d
    · rw [if_pos e]; trivial
    · rw [if_neg e]
      have := s'.fr t
      rw [hdst] at this
      simpa [Act.put, Array.getD_eq_getD_getElem?, Array.getElem?_setIfInBounds_ne (Ne.symm e)] using this
theorem ja_nil {fuel : Nat} {listed : Array Bool} (hr : Region.ready .any ops listed = []) (h : Q .normal F H) : JA P ops fuel listed Γ F H Q := fun a w s => by
  cases fuel with
  | zero => exact ⟨hr, F, H, h, s⟩
  | succ n => exact ⟨fun _ => ⟨F, H, h, s⟩, by rw [hr]; simp⟩

/-- One operation that is carried out: how it goes on. -/
def JS (P : Program) (ops : Array Oper) (Γ : Ctx) (o : Oper) (F : Fr) (H : List Ob) (Q : Exit → Fr → List Ob → Prop) (R : Fr → List Ob → Prop) : Prop :=
  ∀ a w, St Γ F H a w → Region.wanted o (yielded ops a.tmps) = true ∧ o.wp P a w (fun a' w' => (mildB o = true → Ext w w') ∧ ∃ F' H', R F' H' ∧ St Γ F' H' a' w') (toQ Γ Q)
/-- Those that are ready come up, whichever. -/
theorem ja_all {fuel : Nat} {listed : Array Bool} (rs : List Nat) (hr : Region.ready .any ops listed = rs) (hne : rs.isEmpty = false)
    (h : ∀ i ∈ rs, ∃ o, ops[i]? = some o ∧ JS P ops Γ o F H Q fun F' H' => JA P ops fuel (listed.setIfInBounds i true) Γ F' H' Q) : JA P ops (fuel + 1) listed Γ F H Q := fun a w s => by
  refine ⟨fun h0 => by rw [hr] at h0; rw [h0] at hne; simp at hne, fun i hi => ?_⟩
  obtain ⟨o, ho, hj⟩ := h i (hr ▸ hi)
  obtain ⟨hw, hj⟩ := hj a w s
  unfold wpOp
  rw [ho]
  simp only []
  rw [if_pos hw]
  refine .inl (Oper.wp_mono (fun a' w' ⟨h1, F', H', h2, h3⟩ => ⟨fun o' ho' hm => ?_, h2 a' w' h3⟩) hj)
  injection ho' with ho'; subst ho'
  exact h1 hm
/-- One alone is ready. -/
theorem ja_1 {fuel : Nat} {listed : Array Bool} (i : Nat) {o : Oper} (h : JS P ops Γ o F H Q fun F' H' => JA P ops fuel (listed.setIfInBounds i true) Γ F' H' Q) (hi : ops[i]? = some o) (hr : Region.ready .any ops listed = [i]) : JA P ops (fuel + 1) listed Γ F H Q :=
  ja_all [i] hr rfl fun j hj => by simp at hj; subst hj; exact ⟨o, hi, h⟩

theorem js_call {f : FuncId} (fn : Func) {d : Nat} {T : TypeId} {ps : String} {af : Array Edge} {args : Array Operand} {ts : Array TypeId} {c : Operand} {ys zs : List V} {post : Out → Prop} {R : Fr → List Ob → Prop}
    (hs : Spec P f zs post) (hc : ovO F c = some (.f f [])) (hf : P.funcs[f]? = some fn) (hb : fn.body.isSome = true) (hn : (fn.name == "runtime.NumGoroutine") = false) (hx : ovL F args.toList ys) (ha : ArgL ys zs) (hd : d < Γ.N)
    (k : ∀ y, post (.ret y) → R ((d, y) :: F) H) (kp : ∀ ch, post (.pan ch) → Q (.panic ch) F H) :
    JS P ops Γ ⟨some d, .call { callee := .value c, args := args, argTypes := ts }, T, ps, af, none⟩ F H Q R := fun a w ⟨ρ, s⟩ =>
  ⟨rfl, wp_call hc hf hb hn hx ha hs s (fun y v w' h1 h2 h3 h4 => ⟨fun _ => ext_below h3, _, _, k y h1, ρ, h4.put hd h2⟩) (fun ch w' h1 _ h3 => ⟨F, H, kp ch h1, ρ, h3⟩)⟩
theorem js_callg {f : FuncId} (fn : Func) {d : Nat} {T : TypeId} {ps : String} {af : Array Edge} {args : Array Operand} {ts : Array TypeId} {c : Operand} {ys zs : List V} {post : Out → Prop} {R : Fr → List Ob → Prop} {j0 : Nat} {b0 : Bool} (t0 : Nat) (ht : (ops[j0]?).bind (·.dst) = some t0) (hb0 : getO F t0 = some (.b b0))
    (hs : Spec P f zs post) (hc : ovO F c = some (.f f [])) (hf : P.funcs[f]? = some fn) (hb : fn.body.isSome = true) (hn : (fn.name == "runtime.NumGoroutine") = false) (hx : ovL F args.toList ys) (ha : ArgL ys zs) (hd : d < Γ.N)
    (k : ∀ y, post (.ret y) → R ((d, y) :: F) H) (kp : ∀ ch, post (.pan ch) → Q (.panic ch) F H) :
    JS P ops Γ ⟨some d, .call { callee := .value c, args := args, argTypes := ts }, T, ps, af, some (j0, b0)⟩ F H Q R := fun a w ⟨ρ, s⟩ =>
  ⟨wanted_yes rfl (yielded_of s ht hb0), wp_call hc hf hb hn hx ha hs s (fun y v w' h1 h2 h3 h4 => ⟨fun _ => ext_below h3, _, _, k y h1, ρ, h4.put hd h2⟩) (fun ch w' h1 _ h3 => ⟨F, H, kp ch h1, ρ, h3⟩)⟩
theorem js_h {d : Nat} {op : Op} {T : TypeId} {ps : String} {af : Array Edge} {y : V} {H' : List Ob} {R : Fr → List Ob → Prop} (h : HY P Γ op F H y H') (hd : d < Γ.N) (k : R ((d, y) :: F) H') : JS P ops Γ ⟨some d, op, T, ps, af, none⟩ F H Q R := fun a w ⟨ρ, s⟩ => by
  obtain ⟨v, w', ρ', r, s', hx, hr⟩ := h ρ a w s
  refine ⟨rfl, ?_⟩
  unfold Oper.wp
  rw [hr _ _ _ _ _]
  exact ⟨fun _ => hx, _, _, k, ρ', s'.put hd r⟩
theorem js_st {op : Op} {T : TypeId} {ps : String} {af : Array Edge} {H' : List Ob} {R : Fr → List Ob → Prop} (h : SY P Γ op F H H') (hm : mildB ⟨none, op, T, ps, af, none⟩ = false) (k : R F H') : JS P ops Γ ⟨none, op, T, ps, af, none⟩ F H Q R := fun a w ⟨ρ, s⟩ => by
  obtain ⟨w', ρ', s', hr⟩ := h ρ a w s
  refine ⟨rfl, ?_⟩
  unfold Oper.wp
  rw [hr _ _ _ _ _]
  exact ⟨fun e => by rw [hm] at e; simp at e, _, _, k, ρ', s'⟩
/-- The beginning. -/
theorem jc_draw {id n : Nat} (ops : Array Oper) (hn : ops.size = n) (hm : P.follows .mixedOrders = true) (h : JA P ops n (Array.replicate n false) Γ F H Q) : JC P (.region id ops true) Γ F H Q := fun a w ⟨ρ, s⟩ => by
  subst hn
  exact wp_region_any hm (wpAny_of_X _ _ _ _ (h a { w with drawn := w.drawn + 1 } ⟨ρ, s.below ⟨rfl, rfl, rfl, Nat.le_refl _, fun _ _ => rfl⟩⟩))
end
end Go.Proofs.YtaogaegchagbfaaDoor.Vc

/- The calculus, tenth part: loops and meeting points, the slots that change named, the others as they were. -/
namespace Go.Proofs.YtaogaegchagbfaaDoor.Vc
open Go Go.RowKit

/-- All that the named entries (over the frame below them) say is so in the frame at hand. -/
def Cov (F' m F : Fr) : Prop := ∀ t y, getO (m ++ F) t = some y → y = .u ∨ getO F' t = some y
def inK : Fr → Nat → Bool
  | [], _ => false
  | (t, _) :: r, k => bif Nat.beq k t then true else inK r k
def keysIn : Fr → Fr → Bool
  | [], _ => true
  | (t, _) :: r, m => bif inK m t then keysIn r m else false
/-- What the named entries say. -/
def Says (F' : Fr) : Fr → Prop
  | [] => True
  | (t, y) :: r => (y = .u ∨ getO F' t = some y) ∧ Says F' r
theorem Says.nil {F' : Fr} : Says F' [] := trivial
theorem Says.u {F' : Fr} {t : Nat} {r : Fr} (h : Says F' r) : Says F' ((t, .u) :: r) := ⟨.inl rfl, h⟩
theorem Says.cons {F' : Fr} {t : Nat} {y : V} {r : Fr} (e : getO F' t = some y) (h : Says F' r) : Says F' ((t, y) :: r) := ⟨.inr e, h⟩
theorem getO_append_in : ∀ (m F : Fr) (t : Nat), inK m t = true → getO (m ++ F) t = getO m t
  | (k, y) :: r, F, t, h => by
    simp only [inK, List.cons_append, getO] at h ⊢
    cases hb : Nat.beq t k
    · rw [hb] at h; exact getO_append_in r F t h
    · rfl
theorem getO_append_out : ∀ (m F : Fr) (t : Nat), inK m t = false → getO (m ++ F) t = getO F t
  | [], F, t, h => rfl
  | (k, y) :: r, F, t, h => by
    simp only [inK, List.cons_append, getO] at h ⊢
    cases hb : Nat.beq t k
    · rw [hb] at h; exact getO_append_out r F t h
    · rw [hb] at h; simp at h
theorem says_at {F' : Fr} : ∀ {m : Fr} {t : Nat} {y : V}, Says F' m → getO m t = some y → y = .u ∨ getO F' t = some y
  | [], t, y, _, h => by simp [getO] at h
  | (k, z) :: r, t, y, ⟨h1, h2⟩, h => by
    simp only [getO] at h
    cases hb : Nat.beq t k
    · rw [hb] at h; exact says_at h2 h
    · rw [hb] at h
      have e := Nat.eq_of_beq_eq_true hb
      subst e; injection h with h; subst h
      exact h1
theorem keysIn_at : ∀ {A m : Fr} {t : Nat}, keysIn A m = true → inK m t = false → inK A t = false
  | [], m, t, _, _ => rfl
  | (k, y) :: r, m, t, h, h2 => by
    simp only [keysIn] at h
    cases hk : inK m k
    · rw [hk] at h; simp at h
    · rw [hk] at h
      simp only [inK]
      cases hb : Nat.beq t k
      · exact keysIn_at h h2
      · have e := Nat.eq_of_beq_eq_true hb
        subst e
        rw [hk] at h2; simp at h2
/-- The frame at hand is what was there, with entries in front that name no other slots. -/
theorem cov_of {m F : Fr} (A : Fr) (hk : keysIn A m = true) (h : Says (A ++ F) m) : Cov (A ++ F) m F := fun t y e => by
  cases hm : inK m t
  · rw [getO_append_out m F t hm] at e
    rw [getO_append_out A F t (keysIn_at hk hm)]
    exact .inr e
  · rw [getO_append_in m F t hm] at e
    exact says_at h e
theorem cov_start {m F : Fr} (h : Says F m) : Cov F m F := cov_of (A := []) rfl h

section
variable {P : Program} {Γ : Ctx} {F : Fr} {H : List Ob} {Q : Exit → Fr → List Ob → Prop}
theorem StA.cov {ρ : List Re} {a : Act} {w : World} {F' m : Fr} (h : Cov F' m F) (s : StA Γ ρ F' H a w) : StA Γ ρ (m ++ F) H a w :=
  ⟨s.hr, s.n, s.ds, fun t => by
    have := s.fr t
    unfold get at this ⊢
    cases e : getO (m ++ F) t with
    | none => trivial
    | some y =>
      rcases h t y e with rfl | h
      · trivial
      · rw [h] at this; exact this, s.fro⟩
theorem St.cov {a : Act} {w : World} {F' m : Fr} (h : Cov F' m F) (s : St Γ F' H a w) : St Γ (m ++ F) H a w := by obtain ⟨ρ, s⟩ := s; exact ⟨ρ, s.cov h⟩

/-- A loop: ghost, what holds of it, the slots that change, the own objects, a measure. -/
theorem jc_loopF {c : Code} {G : Type} (C : G → Prop) (m : G → Fr) (Hg : G → List Ob) (μ : G → Nat) (g0 : G) (h0 : C g0) (hF : Says F (m g0)) (hH : H = Hg g0)
    (round : ∀ g, C g → JC P c Γ (m g ++ F) (Hg g) (qThen (fun F' H' => ∃ g', C g' ∧ μ g' < μ g ∧ H' = Hg g' ∧ Cov F' (m g') F) Q)) : JC P (.loop c) Γ F H Q :=
  jc_loop C (fun g => m g ++ F) Hg μ g0 h0 (fun a w s => hH ▸ s.cov (cov_start hF)) fun g hg =>
    JC_mono (fun e F' H' q => by
      cases e with
      | normal => obtain ⟨g', h1, h2, h3, h4⟩ := q; exact ⟨g', h1, h2, fun a w s => h3 ▸ s.cov h4⟩
      | _ => exact q) (round g hg)
/-- A meeting point: what holds where the ways meet. -/
def Meet (G : Type) (C : G → Prop) (m : G → Fr) (Hg : G → List Ob) (F F' : Fr) (H' : List Ob) : Prop := ∃ g, C g ∧ H' = Hg g ∧ Cov F' (m g) F
theorem jc_meet {x y : Code} {G : Type} (C : G → Prop) (m : G → Fr) (Hg : G → List Ob) (h1 : JC P x Γ F H (qThen (Meet G C m Hg F) Q)) (h2 : ∀ g, C g → JC P y Γ (m g ++ F) (Hg g) Q) : JC P (.seq x y) Γ F H Q := fun a w s =>
  wp_seq (Code.wp_mono (fun e a w ⟨F', H', q, s'⟩ => by
    cases e <;> first | (obtain ⟨g, c1, c2, c3⟩ := q; exact h2 g c1 a w (c2 ▸ s'.cov c3)) | exact ⟨F', H', q, s'⟩) (h1 a w s))
/-- The same, the objects being as they were. -/
theorem jc_meetH {x y : Code} {G : Type} (C : G → Prop) (m : G → Fr) (h1 : JC P x Γ F H (qThen (Meet G C m (fun _ => H) F) Q)) (h2 : ∀ g, C g → JC P y Γ (m g ++ F) H Q) : JC P (.seq x y) Γ F H Q := jc_meet C m (fun _ => H) h1 h2
theorem jc_if {c : Operand} {x y : Code} {p : Prop} [Decidable p] (h : ovO F c = some (.b (decide p))) (ht : p → JC P x Γ F H Q) (hf : ¬ p → JC P y Γ F H Q) : JC P (.cond c x y) Γ F H Q := fun a w ⟨ρ, s⟩ =>
  wp_cond_split (eval_b s h) (fun e => ht (of_decide_eq_true e) a w ⟨ρ, s⟩) (fun e => hf (of_decide_eq_false e) a w ⟨ρ, s⟩)
/-- A truth in a slot that is a proposition's. -/
theorem jo_ifp {ops : Array Oper} {l : List Oper} (t : Nat) {p : Prop} [Decidable p] (h : getO F t = some (.b (decide p))) (ht : p → JO P ops l Γ ((t, .b true) :: F) H Q) (hf : ¬ p → JO P ops l Γ ((t, .b false) :: F) H Q) : JO P ops l Γ F H Q :=
  jo_split t h (fun e => ht (of_decide_eq_true e)) (fun e => hf (of_decide_eq_false e))
theorem cov_n {F' m F : Fr} (n : Nat) (hA : F'.drop n = F) (hk : keysIn (F'.take n) m = true) (h : Says F' m) : Cov F' m F := by
  have e : F' = F'.take n ++ F := by rw [← hA, List.take_append_drop]
  have h' : Says (F'.take n ++ F) m := e ▸ h
  rw [e]
  exact cov_of _ hk h'
theorem jc_litt {c : Operand} {x y : Code} (h : ovO F c = some (.b true)) (j : JC P x Γ F H Q) : JC P (.cond c x y) Γ F H Q := jc_cond h (fun _ => j) (fun e => by simp at e)
theorem jc_litf {c : Operand} {x y : Code} (h : ovO F c = some (.b false)) (j : JC P y Γ F H Q) : JC P (.cond c x y) Γ F H Q := jc_cond h (fun e => by simp at e) (fun _ => j)
theorem wrap_u8 {m : Int} (h1 : 0 ≤ m) (h2 : m < 256) : IntKind.u8.wrap m = m := by
  simp only [IntKind.wrap, IntKind.bits, IntKind.signed] <;> simp <;> omega
theorem wrap_i64 {m : Int} (h1 : -9223372036854775808 ≤ m) (h2 : m < 9223372036854775808) : IntKind.i64.wrap m = m := by
  simp only [IntKind.wrap, IntKind.bits, IntKind.signed] <;> simp <;> omega
theorem wrap_u64 {m : Int} (h1 : 0 ≤ m) (h2 : m < 18446744073709551616) : IntKind.u64.wrap m = m := by
  simp only [IntKind.wrap, IntKind.bits, IntKind.signed] <;> simp <;> omega
end
end Go.Proofs.YtaogaegchagbfaaDoor.Vc

/- The calculus, eleventh part: structs built by value; parts of them; own objects handed over for good. -/
namespace Go.Proofs.YtaogaegchagbfaaDoor.Vc
open Go Go.RowKit

theorem fold_at : ∀ (l : List Value) (k off : Nat) (cells : Array Value) (j : Nat),
    ((l.zipIdx k).foldl (fun (cs : Array Value) (p : Value × Nat) => cs.setIfInBounds (off + p.2) p.1) cells)[j]? = (if off + k ≤ j ∧ j < off + k + l.length ∧ j < cells.size then l[j - (off + k)]? else cells[j]?) ∧
    ((l.zipIdx k).foldl (fun (cs : Array Value) (p : Value × Nat) => cs.setIfInBounds (off + p.2) p.1) cells).size = cells.size
  | [], k, off, cells, j => by simp; intro h1 h2; omega
  | c :: l, k, off, cells, j => by
    rw [List.zipIdx_cons, List.foldl_cons]
    obtain ⟨h1, h2⟩ := fold_at l (k + 1) off (cells.setIfInBounds (off + k) c) j
    refine ⟨?_, by rw [h2]; simp⟩
    rw [h1]
    simp only [Array.size_setIfInBounds, List.length_cons]
    by_cases hj : off + k ≤ j ∧ j < off + k + (l.length + 1) ∧ j < cells.size
    · rw [if_pos hj]
      by_cases hj2 : j = off + k
      · subst hj2
        rw [if_neg (by omega)]
        simp [hj.2.2]
      · rw [if_pos (by omega)]
        have : j - (off + k) = (j - (off + (k + 1))) + 1 := by omega
        rw [this]; rfl
    · rw [if_neg hj, if_neg (by omega)]
      by_cases hj2 : off + k = j
      · subst hj2
        have : ¬ off + k < cells.size := by omega
        simp [this]
      · rw [Array.getElem?_setIfInBounds_ne hj2]

theorem all_of {H : List Ob} {ys : List V} (h : ys.all (fun y => (cellsV y).all (oneO H)) = true) : ∀ y ∈ ys, (cellsV y).all (oneO H) = true := fun y hy => List.all_eq_true.1 h y hy
theorem all2_of {H : List Ob} {ys : List V} {sz : Nat} (h : ys.all (fun y => Nat.beq (cellsV y).length sz && (cellsV y).all (oneO H)) = true) : ∀ y ∈ ys, (cellsV y).length = sz ∧ (cellsV y).all (oneO H) = true := fun y hy => by
  have := List.all_eq_true.1 h y hy
  rw [Bool.and_eq_true] at this
  exact ⟨Nat.eq_of_beq_eq_true this.1, this.2⟩
/-- Parts laid over cells. -/
def setP : List V → List (Nat × Nat) → List V → List V
  | cs, (o, _) :: ps, y :: ys => setP (setV cs o (cellsV y)) ps ys
  | cs, _, _ => cs
/-- Where the parts of such a number lie. -/
def plsB (P : Program) (T : TypeId) (is : List Nat) (pls : List (Nat × Nat)) : Bool :=
  match P.underlying T with
  | some (.struct fs) => fs.all (fun f => (P.info? f.type).isSome) && (is.map fun i => (fs[i]?).bind fun f => (P.info? f.type).map fun inf => (f.offset, inf.size)) == pls.map some
  | _ => false
def plsOk (pls : List (Nat × Nat)) (ys : List V) (m : Nat) : Prop :=
  match pls, ys with
  | [], [] => True
  | (o, n) :: ps, y :: ys => (cellsV y).length = n ∧ o + n ≤ m ∧ plsOk ps ys m
  | _, _ => False

section
variable {P : Program} {Γ : Ctx} {F : Fr} {H : List Ob} {Q : Exit → Fr → List Ob → Prop}
theorem fill_ok {ρ : List Re} {a : Act} {w : World} (s : StA Γ ρ F H a w) (place : Nat → Option (Nat × Nat)) : ∀ (is : List Nat) (pls : List (Nat × Nat)) (ys : List V) (us : List Value) (cur : Array Value) (cs : List V),
    is.map place = pls.map some → RelL w (Lset Γ.M ρ H) Γ.w0.heap.size ρ ys us → is.length = ys.length → plsOk pls ys cs.length → (∀ y ∈ ys, (cellsV y).all (oneO H) = true) → cur.size = cs.length →
    (∀ (j : Nat) (y : V), cs[j]? = some y → ∃ c, cur[j]? = some c ∧ Rel w (Lset Γ.M ρ H) Γ.w0.heap.size ρ y c) →
    ∃ cells, Instr.fill place cur (is.zip us) = some cells ∧ cells.size = (setP cs pls ys).length ∧ ∀ (j : Nat) (y : V), (setP cs pls ys)[j]? = some y → ∃ c, cells[j]? = some c ∧ Rel w (Lset Γ.M ρ H) Γ.w0.heap.size ρ y c
  | [], [], [], us, cur, cs, _, hr, _, _, _, h1, h2 => by have : us = [] := hr; subst this; exact ⟨cur, rfl, h1, h2⟩
  | i :: is, (o, n) :: pls, y :: ys, us, cur, cs, hp, ⟨u, us', e, r1, r2⟩, hl, ⟨k1, k2, k3⟩, hone, h1, h2 => by
    subst e
    simp only [List.map_cons, List.cons.injEq] at hp
    obtain ⟨hs, hc⟩ := s.cellsV (hone y (List.mem_cons_self ..)) r1
    have hf := fun j => fold_at u.cells.toList 0 o cur j
    have ef : u.cells.zipIdx.foldl (fun cs (x : Value × Nat) => cs.setIfInBounds (o + x.2) x.1) cur = (u.cells.toList.zipIdx 0).foldl (fun (cs : Array Value) (p : Value × Nat) => cs.setIfInBounds (o + p.2) p.1) cur := by
      rw [← Array.foldl_toList, Array.toList_zipIdx]
    have := fill_ok s place is pls ys us' (u.cells.zipIdx.foldl (fun cs (x : Value × Nat) => cs.setIfInBounds (o + x.2) x.1) cur) (setV cs o (cellsV y)) hp.2 r2 (by simpa using hl) (by rw [setV_length]; exact k3) (fun z hz => hone z (List.mem_cons_of_mem _ hz))
      (by rw [ef, (hf 0).2, setV_length, h1]) (fun j z hz => by
        rw [ef, (hf j).1]
        have hjlt : j < cs.length := by have := (List.getElem?_eq_some_iff.1 hz).1; rwa [setV_length] at this
        rcases setV_at cs o (cellsV y) j z hz with ⟨a1, a2, a3⟩ | ⟨a1, a2⟩
        · obtain ⟨c, d1, _, d3⟩ := hc _ _ a3
          refine ⟨c, ?_, d3⟩
          rw [if_pos ⟨by omega, by simp [hs]; omega, by omega⟩]
          rw [← Array.getElem?_toList] at d1
          rw [← d1]; congr 1
        · obtain ⟨c, d1, d2⟩ := h2 j z a2
          refine ⟨c, ?_, d2⟩
          rw [if_neg (by simp [hs]; omega)]; exact d1)
    obtain ⟨cells, e1, e2, e3⟩ := this
    refine ⟨cells, ?_, e2, e3⟩
    show Instr.fill place cur ((i, u) :: is.zip us') = some cells
    unfold Instr.fill
    rw [hp.1]
    simp only []
    rw [if_neg (by simp [hs]; omega)]
    exact e1
/-- A struct built. -/
theorem ly_build {T : TypeId} {zs : List Value} {is : List Nat} {pls : List (Nat × Nat)} {parts : Array (Nat × Operand)} {xs : List Operand} {ys rs : List V} (hz : ((P.info? T).bind (·.zero)).map (·.cells.toList) = some zs)
    (hpl : plsB P T is pls = true) (hp : parts.toList = is.zip xs) (hx : ovL F xs ys) (hl : Nat.beq is.length xs.length = true) (hok : plsOk pls ys zs.length) (hone : ∀ y ∈ ys, (cellsV y).all (oneO H) = true) (hrs : setP (zs.map cV) pls ys = rs) :
    LY P Γ (.build T parts) F H (.a rs) := fun ρ a w s => by
  have hl := Nat.eq_of_beq_eq_true hl
  have hr := s.ovL hx
  cases hu : P.underlying T with
  | none => simp [plsB, hu] at hpl
  | some D =>
    cases D with
    | struct fs =>
      simp only [plsB, hu, Bool.and_eq_true, beq_iff_eq] at hpl
      obtain ⟨hall, hpl⟩ := hpl
      cases hi : P.info? T with
      | none => rw [hi] at hz; cases hz
      | some inf =>
        rw [hi] at hz
        cases hz0 : inf.zero with
        | none => simp [hz0] at hz
        | some z =>
          simp [hz0] at hz
          let pl : Nat → Option (Nat × Nat) := fun i => (fs[i]?).bind fun f => (P.info? f.type).map fun inf => (f.offset, inf.size)
          have hys : xs.length = ys.length := by have := (relL_one ys (xs.map a.eval) hr).1; simpa using this
          obtain ⟨cells, e1, e2, e3⟩ := fill_ok s pl is pls ys (xs.map a.eval) z.cells (zs.map cV) hpl hr (by omega) (by simpa using hok) hone (by rw [← hz]; simp) (fun j y hy => by
            rw [List.getElem?_map] at hy
            cases hj : zs[j]? with
            | none => rw [hj] at hy; cases hy
            | some v =>
              rw [hj] at hy; simp at hy; subst hy
              refine ⟨v, ?_, rel_cV _ _ _ _ _⟩
              rw [← hz] at hj; simpa using hj)
          have hmap : ∀ w', (fs.mapM (fun f => do pure (f.offset, ← sizeOf f.type) : Field → Sem (Nat × Nat))).run P w' = .ok (fs.map fun f => (f.offset, ((P.info? f.type).map (·.size)).getD 0)) w' := by
            intro w'
            rw [Array.mapM_eq_mapM_toList]
            have : ∀ l : List Field, (∀ f ∈ l, (P.info? f.type).isSome = true) → (l.mapM (fun f => do pure (f.offset, ← sizeOf f.type) : Field → Sem (Nat × Nat))).run P w' = .ok (l.map fun f => (f.offset, ((P.info? f.type).map (·.size)).getD 0)) w' := by
              intro l
              induction l with
              | nil => intro _; simp
              | cons f l ih =>
                intro h
                have hf := h f (List.mem_cons_self ..)
                cases hfi : P.info? f.type with
                | none => rw [hfi] at hf; simp at hf
                | some fi =>
                  have e : (sizeOf f.type).run P w' = .ok fi.size w' := run_sizeOf' (by simp [hfi]) w'
                  rw [List.mapM_cons]
                  simp only [Sem.run_bind, e, Result.andThen_ok, Sem.run_pure, ih (fun g hg => h g (List.mem_cons_of_mem _ hg)), List.map_cons, hfi, Option.map_some, Option.getD_some]
            have h2 := this fs.toList (fun f hf => by have := (Array.all_eq_true_iff_forall_mem.1 hall) f (by simpa using hf); exact this)
            have e0 : (List.toArray <$> fs.toList.mapM (fun f => do pure (f.offset, ← sizeOf f.type) : Field → Sem (Nat × Nat))) = (do let l ← fs.toList.mapM (fun f => do pure (f.offset, ← sizeOf f.type) : Field → Sem (Nat × Nat)); pure l.toArray) := rfl
            rw [e0, Sem.run_bind, h2]
            simp only [Result.andThen_ok, Sem.run_pure]
            congr 1
            apply Array.ext'
            simp
          have hplaces : ∀ i, (fs.map fun f => (f.offset, ((P.info? f.type).map (·.size)).getD 0))[i]? = pl i := by
            intro i
            simp only [pl, Array.getElem?_map]
            cases hfi : fs[i]? with
            | none => rfl
            | some f =>
              have := (Array.all_eq_true_iff_forall_mem.1 hall) f (Array.mem_of_getElem? hfi)
              cases hg : P.info? f.type with
              | none => rw [hg] at this; simp at this
              | some g => simp [hg]
          have hparts : (parts.map fun (i, x) => (i, a.eval x)).toList = is.zip (xs.map a.eval) := by
            rw [Array.toList_map, hp]
            have : ∀ (is : List Nat) (xs : List Operand), (is.zip xs).map (fun (p : Nat × Operand) => (p.1, a.eval p.2)) = is.zip (xs.map a.eval) := by
              intro is
              induction is with
              | nil => intro xs; rfl
              | cons i is ih => intro xs; cases xs with
                | nil => rfl
                | cons x xs => simp [ih]
            exact this is xs
          refine ⟨.agg cells, ⟨cells.toList, by simp, ?_⟩, fun _ _ _ _ _ w' _ => ?_⟩
          · have : ∀ (rs : List V) (us : List Value), us.length = rs.length → (∀ (j : Nat) (y : V), rs[j]? = some y → ∃ c, us[j]? = some c ∧ Rel w (Lset Γ.M ρ H) Γ.w0.heap.size ρ y c) → RelL w (Lset Γ.M ρ H) Γ.w0.heap.size ρ rs us := by
              intro rs
              induction rs with
              | nil => intro us h _; exact List.eq_nil_of_length_eq_zero (by simpa using h)
              | cons y rs ih =>
                intro us h h2
                cases us with
                | nil => simp at h
                | cons u us =>
                  obtain ⟨c, c1, c2⟩ := h2 0 y rfl
                  simp at c1; subst c1
                  exact ⟨u, us, rfl, c2, ih us (by simpa using h) fun j z hz => by simpa using h2 (j + 1) z (by simpa using hz)⟩
            refine this rs cells.toList (by rw [← hrs]; simpa using e2) fun j y hy => ?_
            rw [← hrs] at hy
            obtain ⟨c, c1, c2⟩ := e3 j y hy
            exact ⟨c, by simpa using c1, c2⟩
          · have e : (Instr.build T (parts.map fun (i, x) => (i, a.eval x))).run P w' = .ok (.agg cells) w' := by
              have hzv : (zeroValue T).run P w' = .ok z w' := by simp [zeroValue, typeInfo, hi, hz0]
              unfold Instr.build
              simp only [Sem.run_bind, hzv, Result.andThen_ok, run_underlying hu, hmap, hparts]
              rw [show (fun x => (fs.map fun f => (f.offset, ((P.info? f.type).map (·.size)).getD 0))[x]?) = pl from funext hplaces, e1]
              rfl
            exact run_v e
    | _ => simp [plsB, hu] at hpl
end
end Go.Proofs.YtaogaegchagbfaaDoor.Vc

/- The calculus, twelfth part: a literal's bytes, places of arrays that nobody writes, text into pieces. -/
namespace Go.Proofs.YtaogaegchagbfaaDoor.Vc
open Go Go.RowKit
section
variable {P : Program} {Γ : Ctx} {F : Fr} {H : List Ob} {Q : Exit → Fr → List Ob → Prop}

/-- A load of the first of cells that nobody writes. -/
theorem ly_ldqz {T : TypeId} {x : Operand} {y z : V} {ys : List V} (hT : oneB P T = true) (hx : ovO F x = some (.q ys)) (hy : ys[0]? = some y) (hz : old y = z) : LY P Γ (.load T x) F H z := by
  cases ys with
  | nil => simp at hy
  | cons y0 us => simp at hy; subst hy; exact ly_ldq hT hx hz
end
end Go.Proofs.YtaogaegchagbfaaDoor.Vc

/- The calculus, thirteenth part: rows that are not born yet; objects of a round left behind. -/
namespace Go.Proofs.YtaogaegchagbfaaDoor.Vc
open Go Go.RowKit

mutual
/-- It names own objects below n alone. -/
def idB (n : Nat) : V → Bool
  | .p id _ _ => Nat.blt id n
  | .o id _ _ _ => Nat.blt id n
  | .f _ cs => idBL n cs
  | .a cs => idBL n cs
  | .t cs => idBL n cs
  | _ => true
def idBL (n : Nat) : List V → Bool
  | [] => true
  | y :: ys => idB n y && idBL n ys
end
section
variable {P : Program} {Γ : Ctx} {F : Fr} {H : List Ob} {Q : Exit → Fr → List Ob → Prop}
mutual
theorem Rel.cut {w : World} {L : Nat → Prop} {B n : Nat} {ρ : List Re} : ∀ (y : V) (v : Value), idB n y = true → Rel w L B ρ y v → Rel w L B (ρ.take n) y v
  | .i _ _, _, _, h => h
  | .b _, _, _, h => h
  | .s _, _, _, h => h
  | .c _, _, _, h => h
  | .n _ _ _, _, _, h => h
  | .l _ _ _, _, _, h => h
  | .q _, _, _, h => h
  | .u, _, _, h => h
  | .p id _ _, _, hi, ⟨re, e, h⟩ => ⟨re, by rw [List.getElem?_take, if_pos (by simpa [idB] using hi)]; exact e, h⟩
  | .o id _ _ _, _, hi, ⟨re, e, h⟩ => ⟨re, by rw [List.getElem?_take, if_pos (by simpa [idB] using hi)]; exact e, h⟩
  | .f _ cs, _, hi, ⟨us, e, h⟩ => ⟨us, e, RelL.cut cs us hi h⟩
  | .a cs, _, hi, ⟨us, e, h⟩ => ⟨us, e, RelL.cut cs us hi h⟩
  | .t cs, _, hi, ⟨us, e, h⟩ => ⟨us, e, RelL.cut cs us hi h⟩
theorem RelL.cut {w : World} {L : Nat → Prop} {B n : Nat} {ρ : List Re} : ∀ (ys : List V) (us : List Value), idBL n ys = true → RelL w L B ρ ys us → RelL w L B (ρ.take n) ys us
  | [], _, _, h => h
  | y :: ys, us, hi, ⟨u, us', e, h1, h2⟩ => by
    simp only [idBL, Bool.and_eq_true] at hi
    exact ⟨u, us', e, Rel.cut y u hi.1 h1, RelL.cut ys us' hi.2 h2⟩
end
/-- The objects' own cells name objects below n alone. -/
def ObsId (n : Nat) (H : List Ob) : Prop := ∀ ob ∈ H, ob.live = true → ∀ y ∈ ob.cs, idB n y = true
theorem ObsId.nil {n : Nat} : ObsId n [] := fun _ h => by simp at h
theorem ObsId.cons {n : Nat} {ob : Ob} {H : List Ob} (h : ob.cs.all (idB n) = true) (hs : ObsId n H) : ObsId n (ob :: H) := fun o ho hl y hy => by
  rcases List.mem_cons.1 ho with rfl | ho
  · exact List.all_eq_true.1 h y hy
  · exact hs o ho hl y hy
theorem ObsId.dead {n : Nat} {ob : Ob} {H : List Ob} (h : ob.live = false) (hs : ObsId n H) : ObsId n (ob :: H) := fun o ho hl y hy => by
  rcases List.mem_cons.1 ho with rfl | ho
  · rw [h] at hl; simp at hl
  · exact hs o ho hl y hy
theorem ints_id {n : Nat} {k : IntKind} {l : List Int} : (ints k l).all (idB n) = true := by
  rw [List.all_eq_true]
  intro y hy
  obtain ⟨x, _, rfl⟩ := List.mem_map.1 hy
  rfl
/-- Objects from n on are left behind. -/
theorem StA.cut {ρ : List Re} {a : Act} {w : World} (n : Nat) (s : StA Γ ρ F H a w) (hF : F.all (fun p => idB n p.2) = true) (hO : ObsId n (H.take n)) (hΓ : Γ.ρ0 = []) : StA Γ (ρ.take n) F (H.take n) a w := by
  have at1 : ∀ (i : Nat) (o : Ob), (H.take n)[i]? = some o → i < n ∧ H[i]? = some o := fun i o h => by
    rw [List.getElem?_take] at h
    split at h
    · exact ⟨by assumption, h⟩
    · cases h
  have at2 : ∀ (i : Nat) (r : Re), (ρ.take n)[i]? = some r → ρ[i]? = some r := fun i r h => by
    rw [List.getElem?_take] at h
    split at h
    · exact h
    · cases h
  have lsub : ∀ b, Lset Γ.M (ρ.take n) (H.take n) b → Lset Γ.M ρ H b := by
    rintro b (h | ⟨i, o, r, h1, h2, h3, h4⟩)
    · exact .inl h
    · exact .inr ⟨i, o, r, (at1 i o h1).2, h2, at2 i r h3, h4⟩
  have ev : Ev w (Lset Γ.M ρ H) Γ.w0.heap.size (ρ.take n) w (Lset Γ.M (ρ.take n) (H.take n)) Γ.w0.heap.size (ρ.take n) :=
    ⟨Nat.le_refl _, fun _ _ _ => rfl, fun b _ hn h => hn (lsub b h), Nat.le_refl _, fun i r h => ⟨r, h, Nat.le_refl _, fun _ => rfl⟩⟩
  refine ⟨⟨by simp [s.hr.len], fun i o h1 h2 => ?_, fun i j oi oj ri rj g hij h1 h2 h3 h4 h5 h6 => s.hr.apart i j oi oj ri rj g hij (at1 i oi h1).2 h2 (at1 j oj h3).2 h4 (at2 i ri h5) (at2 j rj h6), fun i o r g h1 h2 h3 => s.hr.foreign i o r g (at1 i o h1).2 h2 (at2 i r h3)⟩, s.n, s.ds, fun t => ?_,
    ⟨s.fro.os, s.fro.tape, s.fro.output, s.fro.size, s.fro.blk, s.fro.old, fun i o r g h1 h2 h3 => s.fro.mine i o r g (at1 i o h1).2 h2 (at2 i r h3), fun i r h => by rw [hΓ] at h; simp at h⟩⟩
  · obtain ⟨hin, h1'⟩ := at1 i o h1
    obtain ⟨r, h3, h4⟩ := s.hr.ob i o h1' h2
    refine ⟨r, by rw [List.getElem?_take, if_pos hin]; exact h3, h4.ver, h4.sz, h4.nob, fun g hg => ?_⟩
    obtain ⟨cur, c1, c2, c3, c4, c5⟩ := h4.blk g hg
    exact ⟨cur, c1, c2, c3, c4, fun j y hy => by
      obtain ⟨u, d1, d2, d3⟩ := c5 j y hy
      exact ⟨u, d1, d2, (d3.cut y u (hO o (List.mem_of_getElem? h1) h2 y (List.mem_of_getElem? hy))).ev ev⟩⟩
  · have := s.fr t
    have hid : idB n (get F t) = true := by
      unfold get
      cases e : getO F t with
      | none => rfl
      | some y =>
        have : ∀ (F : Fr) y, F.all (fun p => idB n p.2) = true → getO F t = some y → idB n y = true := by
          intro F
          induction F with
          | nil => intro y _ h; simp [getO] at h
          | cons p F ih =>
            intro y ha h
            simp only [List.all_cons, Bool.and_eq_true] at ha
            simp only [getO] at h
            cases hb : Nat.beq t p.1
            · rw [hb] at h; exact ih y ha.2 h
            · rw [hb] at h; injection h with h; rw [← h]; exact ha.1
        exact this F y hF e
    exact (this.cut _ _ hid).ev ev
/-- A loop whose rounds leave objects behind: n objects stay. -/
theorem jc_loopD {c : Code} {G : Type} (n : Nat) (C : G → Prop) (m : G → Fr) (Hg : G → List Ob) (μ : G → Nat) (g0 : G) (h0 : C g0) (hF : Says F (m g0)) (hH : H = Hg g0) (hΓ : Γ.ρ0 = []) (hFn : F.all (fun p => idB n p.2) = true)
    (hm : ∀ g, C g → (m g).all (fun p => idB n p.2) = true) (hO : ∀ g, C g → ObsId n (Hg g))
    (round : ∀ g, C g → JC P c Γ (m g ++ F) (Hg g) (qThen (fun F' H' => ∃ g', C g' ∧ μ g' < μ g ∧ H'.take n = Hg g' ∧ Cov F' (m g') F) Q)) : JC P (.loop c) Γ F H Q :=
  jc_loop C (fun g => m g ++ F) Hg μ g0 h0 (fun a w s => hH ▸ s.cov (cov_start hF)) fun g hg =>
    JC_mono (fun e F' H' q => by
      cases e with
      | normal =>
        obtain ⟨g', h1, h2, h3, h4⟩ := q
        refine ⟨g', h1, h2, fun a w s => ?_⟩
        obtain ⟨ρ, s'⟩ := s.cov h4
        exact ⟨_, h3 ▸ s'.cut n (by rw [List.all_append, hFn, hm g' h1]; rfl) (by rw [h3]; exact hO g' h1) hΓ⟩
      | _ => exact q) (round g hg)
/-- A truth that is known. -/
theorem ly_tt {op : Op} {p : Prop} [Decidable p] (h : LY P Γ op F H (.b (decide p))) (hp : p) : LY P Γ op F H (.b true) := by rwa [decide_eq_true hp] at h
theorem ly_ff {op : Op} {p : Prop} [Decidable p] (h : LY P Γ op F H (.b (decide p))) (hp : ¬ p) : LY P Γ op F H (.b false) := by rwa [decide_eq_false hp] at h
theorem ly_is {op : Op} {y z : V} (h : LY P Γ op F H y) (e : y = z) : LY P Γ op F H z := e ▸ h
/-- A slice that is nil as an own row that is not born yet. -/
theorem jc_own0 {c : Code} (t : Nat) {id : Nat} (T sz : Nat) (hx : getO F t = some (.c (.slice none 0 0))) (hid : H.length = id) (j : JC P c Γ ((t, .o id 0 0 0) :: F) (H ++ [⟨T, sz, 0, true, []⟩]) Q) : JC P c Γ F H Q := fun a w ⟨ρ, s⟩ => by
  have s' := s.born (re := ⟨none, 0, 0, sz⟩) (ob := ⟨T, sz, 0, true, []⟩) (w' := w) ⟨rfl, rfl, rfl, Nat.le_refl _, fun _ _ _ => rfl⟩ rfl rfl rfl (fun g h => by cases h) (fun _ => ⟨rfl, rfl⟩) (fun g h => by cases h)
  refine j a w ⟨_, s'.hr, s'.n, s'.ds, fun t' => ?_, s'.fro⟩
  rw [get_cons]
  by_cases e : t' = t
  · rw [if_pos e]
    have h1 := s'.fr t'
    unfold get at h1
    rw [e, hx] at h1
    rw [e]
    have h2 : a.tmps.getD t undef = .slice none 0 0 := h1
    refine ⟨⟨none, 0, 0, sz⟩, ?_, Nat.zero_le _, fun _ => ⟨Nat.le_refl _, .inr ⟨rfl, h2, rfl, rfl⟩⟩⟩
    rw [← hid, ← s.hr.len]
    simp
  · rw [if_neg e]; exact s'.fr t'
end
end Go.Proofs.YtaogaegchagbfaaDoor.Vc

/- The calculus, fourteenth part: contracts of functions that write objects that are handed to them. -/
namespace Go.Proofs.YtaogaegchagbfaaDoor.Vc
open Go Go.RowKit

mutual
/-- It does not say of any place that it is fresh. -/
def noFr : V → Bool
  | .n fr _ _ => !fr
  | .l fr _ _ => !fr
  | .f _ cs => noFrL cs
  | .a cs => noFrL cs
  | .t cs => noFrL cs
  | _ => true
def noFrL : List V → Bool
  | [] => true
  | y :: ys => noFr y && noFrL ys
end
mutual
theorem rel_B {w : World} {L : Nat → Prop} {B B' : Nat} {ρ : List Re} : ∀ (y : V) (v : Value), noFr y = true → Rel w L B ρ y v → Rel w L B' ρ y v
  | .i _ _, _, _, h => h
  | .b _, _, _, h => h
  | .s _, _, _, h => h
  | .c _, _, _, h => h
  | .n fr _ _, _, hf, ⟨A, c, e, h1, h2, h3⟩ => ⟨A, c, e, h1, h2, fun hl => by obtain ⟨ad, e1, hb, hc⟩ := h3 hl; exact ⟨ad, e1, ⟨hb.1, hb.2.1, fun hfr => by subst hfr; simp [noFr] at hf⟩, hc⟩⟩
  | .l fr _ _, _, hf, ⟨A, c, e, h1, h2, h3⟩ => ⟨A, c, e, h1, h2, fun hl => by obtain ⟨ad, e1, hb, hc⟩ := h3 hl; exact ⟨ad, e1, ⟨hb.1, hb.2.1, fun hfr => by subst hfr; simp [noFr] at hf⟩, hc⟩⟩
  | .q _, _, _, ⟨ad, e, hb, hc⟩ => ⟨ad, e, ⟨hb.1, hb.2.1, by simp⟩, hc⟩
  | .p _ _ _, _, _, h => h
  | .o _ _ _ _, _, _, h => h
  | .f _ cs, _, hf, ⟨us, e, h⟩ => ⟨us, e, relL_B cs us hf h⟩
  | .u, _, _, _ => trivial
  | .a cs, _, hf, ⟨us, e, h⟩ => ⟨us, e, relL_B cs us hf h⟩
  | .t cs, _, hf, ⟨us, e, h⟩ => ⟨us, e, relL_B cs us hf h⟩
theorem relL_B {w : World} {L : Nat → Prop} {B B' : Nat} {ρ : List Re} : ∀ (ys : List V) (us : List Value), noFrL ys = true → RelL w L B ρ ys us → RelL w L B' ρ ys us
  | [], _, _, h => h
  | y :: ys, us, hf, ⟨u, us', e, h1, h2⟩ => by
    simp only [noFrL, Bool.and_eq_true] at hf
    exact ⟨u, us', e, rel_B y u hf.1 h1, relL_B ys us' hf.2 h2⟩
end
mutual
theorem rel_Ble {w : World} {L : Nat → Prop} {B B' : Nat} {ρ : List Re} (hB : B' ≤ B) : ∀ (y : V) (v : Value), Rel w L B ρ y v → Rel w L B' ρ y v
  | .i _ _, _, h => h
  | .b _, _, h => h
  | .s _, _, h => h
  | .c _, _, h => h
  | .n _ _ _, _, ⟨A, c, e, h1, h2, h3⟩ => ⟨A, c, e, h1, h2, fun hl => by obtain ⟨ad, e1, hb, hc⟩ := h3 hl; exact ⟨ad, e1, ⟨hb.1, hb.2.1, fun e => Nat.le_trans hB (hb.2.2 e)⟩, hc⟩⟩
  | .l _ _ _, _, ⟨A, c, e, h1, h2, h3⟩ => ⟨A, c, e, h1, h2, fun hl => by obtain ⟨ad, e1, hb, hc⟩ := h3 hl; exact ⟨ad, e1, ⟨hb.1, hb.2.1, fun e => Nat.le_trans hB (hb.2.2 e)⟩, hc⟩⟩
  | .q _, _, ⟨ad, e, hb, hc⟩ => ⟨ad, e, ⟨hb.1, hb.2.1, by simp⟩, hc⟩
  | .p _ _ _, _, h => h
  | .o _ _ _ _, _, h => h
  | .f _ cs, _, ⟨us, e, h⟩ => ⟨us, e, relL_Ble hB cs us h⟩
  | .u, _, _ => trivial
  | .a cs, _, ⟨us, e, h⟩ => ⟨us, e, relL_Ble hB cs us h⟩
  | .t cs, _, ⟨us, e, h⟩ => ⟨us, e, relL_Ble hB cs us h⟩
theorem relL_Ble {w : World} {L : Nat → Prop} {B B' : Nat} {ρ : List Re} (hB : B' ≤ B) : ∀ (ys : List V) (us : List Value), RelL w L B ρ ys us → RelL w L B' ρ ys us
  | [], _, h => h
  | y :: ys, us, ⟨u, us', e, h1, h2⟩ => ⟨u, us', e, rel_Ble hB y u h1, relL_Ble hB ys us' h2⟩
end
/-- The objects' cells say of no place that it is fresh. -/
def freshless (H : List Ob) : Prop := ∀ ob ∈ H, ob.live = true → ∀ y ∈ ob.cs, noFr y = true
def EndRelM (w : World) (L : Nat → Prop) (B : Nat) (ρ : List Re) : Out → Ending → Prop
  | .ret y, e => ∃ v, e = .returned v ∧ Rel w L B ρ y v
  | .pan c, e => e = .panicked c
/-- The blocks of the objects that are handed over. -/
def hand (ρ : List Re) (H : List Ob) (b : Nat) : Prop := ∃ (id : Nat) (ob : Ob) (re : Re), H[id]? = some ob ∧ ob.live = true ∧ ρ[id]? = some re ∧ re.g = some b
/-- A contract over objects that are handed over: all the caller's. -/
def SpecM (P : Program) (f : FuncId) (args : List V) (H : List Ob) (post : Out → List Ob → Prop) : Prop :=
  ∀ (M : Nat → Prop) (w : World) (ρ : List Re) (vals : List Value), (∀ b, M b → b < w.heap.size) → HR M w w.heap.size ρ H → RelL w (Lset M ρ H) w.heap.size ρ args vals →
    Calls P f vals.toArray w fun e w' => ∃ o H' ρ', post o H' ∧ EndRelM w' (Lset M ρ' H') w.heap.size ρ' o e ∧ HR M w' w.heap.size ρ' H' ∧
      w'.os = w.os ∧ w'.tape = w.tape ∧ w'.output = w.output ∧ Ev w (Lset M ρ H) w.heap.size ρ w' (Lset M ρ' H') w.heap.size ρ' ∧
      (∀ (id : Nat) (ob : Ob) (re : Re) (g : Nat), H'[id]? = some ob → ob.live = true → ρ'[id]? = some re → re.g = some g → w.heap.size ≤ g ∨ hand ρ H g) ∧ (∀ b, b < w.heap.size → ¬ hand ρ H b → w'.heap[b]? = w.heap[b]?)

section
variable {P : Program} {Γ : Ctx} {F : Fr} {H : List Ob} {Q : Exit → Fr → List Ob → Prop}
/-- How a value goes to such a function: as it is, or said to be less fresh. -/
inductive ArgM : V → V → Prop
  | same {y : V} (h : noFr y = true) : ArgM y y
  | n {fr : Bool} {k : IntKind} {l : List Int} : ArgM (.n fr k l) (.n false k l)
  | nil {k : IntKind} : ArgM (.c (.slice none 0 0)) (.n false k [])
  | l {fr : Bool} {sz : Nat} {es : List (List V)} : ArgM (.l fr sz es) (.l false sz es)
theorem ArgM.rel {w : World} {L : Nat → Prop} {B B' : Nat} {ρ : List Re} {y z : V} (h : ArgM y z) {v : Value} (r : Rel w L B ρ y v) : Rel w L B' ρ z v := by
  cases h with
  | same h => exact rel_B _ _ h r
  | n => obtain ⟨A, c, e, h1, h2, h3⟩ := r; exact ⟨A, c, e, h1, h2, fun hl => by obtain ⟨ad, e1, hb, hc⟩ := h3 hl; exact ⟨ad, e1, ⟨hb.1, hb.2.1, by simp⟩, hc⟩⟩
  | nil => rw [show v = .slice none 0 0 from r]; exact rel_nil
  | l => obtain ⟨A, c, e, h1, h2, h3⟩ := r; exact ⟨A, c, e, h1, h2, fun hl => by obtain ⟨ad, e1, hb, hc⟩ := h3 hl; exact ⟨ad, e1, ⟨hb.1, hb.2.1, by simp⟩, hc⟩⟩
def ArgML : List V → List V → Prop
  | [], zs => zs = []
  | y :: ys, zs => ∃ z zs', zs = z :: zs' ∧ ArgM y z ∧ ArgML ys zs'
theorem ArgML.nil : ArgML [] [] := rfl
theorem ArgML.cons {y z : V} {ys zs : List V} (h : ArgM y z) (hs : ArgML ys zs) : ArgML (y :: ys) (z :: zs) := ⟨z, zs, rfl, h, hs⟩
theorem ArgML.rel {w : World} {L : Nat → Prop} {B B' : Nat} {ρ : List Re} : ∀ {ys zs : List V} (us : List Value), ArgML ys zs → RelL w L B ρ ys us → RelL w L B' ρ zs us
  | [], zs, us, h, hr => by rw [show zs = [] from h]; exact hr
  | y :: ys, zs, us, ⟨z, zs', e, h1, h2⟩, ⟨u, us', e2, h3, h4⟩ => by rw [e]; exact ⟨u, us', e2, h1.rel h3, h2.rel us' h4⟩
/-- What a body has to show where it ends. -/
def qRetM (P : Program) (fn : Func) (n : Nat) (post : Out → List Ob → Prop) : Exit → Fr → List Ob → Prop
  | .ret, F, H | .normal, F, H => ∃ ys, ResL P F H fn.results.toList ys ∧ idB n (packV ys) = true ∧ ObsId n (H.take n) ∧ post (.ret (packV ys)) (H.take n)
  | .panic ch, _, H => ObsId n (H.take n) ∧ post (.pan ch) (H.take n)
  | _, _, _ => False
end
end Go.Proofs.YtaogaegchagbfaaDoor.Vc

/- The calculus, fifteenth part: pointers compared, pointers made unsafe and back, what strings.Builder needs. -/
namespace Go.Proofs.YtaogaegchagbfaaDoor.Vc
open Go Go.RowKit
section
variable {P : Program} {Γ : Ctx} {F : Fr} {H : List Ob} {Q : Exit → Fr → List Ob → Prop}

/-- The bytes of a text. -/
def bytesI (s : ByteArray) : List Int := s.data.toList.map fun b => (b.toNat : Int)
end
end Go.Proofs.YtaogaegchagbfaaDoor.Vc

/- The calculus, last part: from a contract to what a row asks. -/
namespace Go.Proofs.YtaogaegchagbfaaDoor.Vc
open Go Go.RowKit Go.ChangeShapes Go.WideShapes Go.ChangeAt

theorem post_of_below {H : Type} {enc : TypeId × Value → H} {P : Program} {f : Func} {s : ChangeSpec} {apart fresh handsOn : Bool} {W W' : World} {args : Array Value} {v : Value} {ds gs : List (DataW H)} {before pa pv : List MemPlace}
    (hW : DataW.Whole enc P f.params.toList s.vars apart W args.toList ds gs before)
    (hres : ∀ (b : Nat) (sp : Nat → Bool) (hd : Bool), DataW.TrodAll enc P W' b sp hd f.resultTypes.toList (v.resultList f.resultTypes.size) (s.fn H (ds ++ gs)).results [])
    (hargs : ∀ sp : Nat → Bool, (∀ p ∈ before, sp p.block = true) → DataW.TrodAll enc P W' 0 sp true f.params.toList args.toList (s.fn H (ds ++ gs)).args pa)
    (hvars : ∀ sp : Nat → Bool, (∀ p ∈ before, sp p.block = true) → DataW.TrodVars enc P W' sp s.vars (s.fn H (ds ++ gs)).vars pv)
    (hps : before = pa ++ pv) (hb : Below W.heap.size W W') : s.post enc P f apart fresh handsOn false W args v W' := by
  have hold : ∀ p ∈ before, (fun b => decide (b < W.heap.size)) p.block = true := fun p hp => by simpa using hW.lt p hp
  refine ⟨ds, gs, before, [], pa, pv, hW, hres _ _ _, hargs _ hold, hvars _ hold, World.keptBut_mono (fun p hp => ⟨hp, ?_⟩) (hb.frame (· ∈ before)), fun h => by cases h⟩
  rw [hps, List.mem_append] at hp
  exact Or.inr hp
end Go.Proofs.YtaogaegchagbfaaDoor.Vc

/- The calculus: a text over the bytes of an own row. -/
namespace Go.Proofs.YtaogaegchagbfaaDoor.Vc
open Go Go.RowKit
section
variable {P : Program} {Γ : Ctx} {F : Fr} {H : List Ob} {Q : Exit → Fr → List Ob → Prop}

end
end Go.Proofs.YtaogaegchagbfaaDoor.Vc

/- The calculus: max, min, structs of whole numbers compared. -/
namespace Go.Proofs.YtaogaegchagbfaaDoor.Vc
open Go Go.RowKit
section
variable {P : Program} {Γ : Ctx} {F : Fr} {H : List Ob} {Q : Exit → Fr → List Ob → Prop}
/-- max, min of two whole numbers. -/
theorem ly_max {x y : Operand} {ts : Array TypeId} {k k' : IntKind} {m n : Int} (hx : ovO F x = some (.i k m)) (hy : ovO F y = some (.i k' n)) : LY P Γ (.call { callee := .builtin .max, args := #[x, y], argTypes := ts }) F H (.i k (max m n)) := fun ρ a w s =>
  ⟨.int k (max m n), rfl, fun _ U _ _ _ w' _ => run_builtin (b := .max) (vs := [a.eval x, a.eval y]) (by simp) (fun ts t a_ => Builtin.max_ ts t a_) (fun _ _ => rfl) (by rw [eval_i s hx, eval_i s hy]; exact Lib.run_max_ints w' _ _ _ _ _ _) _ _ _ _⟩
def isI : V → Bool | .i _ _ => true | _ => false
/-- A struct of whole numbers alone. -/
def flatB (P : Program) (T : TypeId) (n : Nat) : Bool := (P.fieldsOf T).toList.all fun f => P.plainKey f.type && (match P.underlying f.type with | some (.int _) => true | _ => false) && decide (f.offset < n)
end
end Go.Proofs.YtaogaegchagbfaaDoor.Vc

/- The calculus: make of structs with spare room; append in place; rows of which more than one slice is read. -/
namespace Go.Proofs.YtaogaegchagbfaaDoor.Vc
open Go Go.RowKit
section
variable {P : Program} {Γ : Ctx} {F : Fr} {H : List Ob} {Q : Exit → Fr → List Ob → Prop}

end
end Go.Proofs.YtaogaegchagbfaaDoor.Vc

/- The calculus: what is handed in, read as abstract values: slices of rows, of whole numbers; structs. -/
namespace Go.Proofs.YtaogaegchagbfaaDoor.Vc
open Go Go.RowKit Go.ChangeShapes Go.WideShapes Go.Deep

section
variable {H : Type} {enc : TypeId × Value → H} {P : Program} {w : World} {sp : Nat → Bool} {held : Bool}
theorem cells_at {a : Addr} {n : Nat} {cs : List Value} (h : w.cells? 0 a n = some cs) : cs.length = n ∧ ∀ j y, cs[j]? = some y → w.cell? (a.add j) = some y := by
  obtain ⟨_, h1, h2⟩ := World.cells?_some h
  refine ⟨h1, fun j y hj => ?_⟩
  have hlt : j < n := by have := (List.getElem?_eq_some_iff.1 hj).1; omega
  rw [h2 j hlt, hj]
theorem bulk_range {α : Type} (f : α → DataW H) (l : List α) : Rows.uptoBulkAll (l.map f) = (l.map fun i => Rows.uptoBulk (f i)).sum := by
  induction l with
  | nil => rfl
  | cons a l ih => rw [List.map_cons, List.map_cons, List.sum_cons, ← ih]; rfl
theorem list_of {α : Type} {p : Nat → α → Prop} : ∀ (n : Nat), (∀ i, i < n → ∃ τ, p i τ) → ∃ l : List α, l.length = n ∧ ∀ i τ, l[i]? = some τ → p i τ
  | 0, _ => ⟨[], rfl, by simp⟩
  | n + 1, h => by
    obtain ⟨l, h1, h2⟩ := list_of n fun i hi => h i (by omega)
    obtain ⟨τ, h3⟩ := h n (by omega)
    refine ⟨l ++ [τ], by simp [h1], fun i x hx => ?_⟩
    rcases Nat.lt_or_ge i l.length with hlt | hge
    · rw [List.getElem?_append_left hlt] at hx; exact h2 i x hx
    · rw [List.getElem?_append_right hge] at hx
      have hi : i - l.length = 0 := by have := (List.getElem?_eq_some_iff.1 hx).1; simp at this; omega
      rw [hi] at hx
      simp at hx
      subst hx
      rwa [show i = n by omega]
theorem sum_le {α : Type} {bk : α → Nat} : ∀ (l : List α) (f : Nat → Nat), (∀ i τ, l[i]? = some τ → bk τ ≤ f i) → (l.map bk).sum ≤ ((List.range l.length).map f).sum
  | [], f, _ => by simp
  | x :: l, f, h => by
    have ih := sum_le l (fun i => f (i + 1)) fun i τ hi => h (i + 1) τ (by simpa using hi)
    have h0 := h 0 x rfl
    rw [List.length_cons, List.range_succ_eq_map, List.map_cons, List.map_cons, List.sum_cons, List.sum_cons, List.map_map]
    have e : (f ∘ Nat.succ) = fun i => f (i + 1) := rfl
    rw [e]
    omega
theorem sum_ones {α : Type} (l : List α) : (l.map fun _ => 1).sum = l.length := by
  induction l with
  | nil => rfl
  | cons _ l ih => rw [List.map_cons, List.sum_cons, ih, List.length_cons]; omega
/-- A slice of whole numbers that is handed in. -/
theorem open_numsV {t e : Nat} {k : IntKind} (ht : P.underlying t = some (.slice e)) (he : P.underlying e = some (.int k)) (hc : P.cellsOf e = 1) {n0 : Nat} {v : Value} {x : DataW H × List MemPlace} (hd : DataW.trod enc P w 0 sp held n0 t [v] = some x) :
    ∃ l : List Int, Rel w (fun _ => False) w.heap.size [] (.n false k l) v ∧ l.length + 1 ≤ Rows.uptoBulk x.1 ∧ (∀ y ∈ l, (Lit.int k y).wf = true) := by
  rcases open_slice ht hd with ⟨h1, h2⟩ | ⟨a, len', cap', m, n, D, Pl, h1, h2, h3, h4, h5, h6, h7⟩
  · injection h1 with h1; subst h1; subst h2
    exact ⟨[], ⟨none, 0, rfl, Nat.le_refl _, Nat.zero_le _, fun h => absurd rfl h⟩, Nat.le_refl 1, fun y hy => by cases hy⟩
  · injection h1 with h1; subst h1; subst h6
    have hlm : len' ≤ m := by rw [h5]; split <;> omega
    obtain ⟨l, hl, hall⟩ := list_of (p := fun i (y : Int) => w.cell? (a.add i) = some (.int k y) ∧ (Lit.int k y).wf = true ∧ 1 ≤ Rows.uptoBulk (D i)) len' fun i hi => by
      obtain ⟨cs, k1, k2⟩ := h7 i (by omega)
      obtain ⟨y, k3, k4, k5⟩ := DataW.trod_int he k2
      rw [hc, Nat.mul_one] at k1
      subst k3
      refine ⟨y, ?_, k5, ?_⟩
      · have := (cells_at k1).2 0 _ rfl
        rwa [Go.Deep.add_add, Nat.add_zero] at this
      · have : D i = .lit (.int k y) := congrArg Prod.fst k4
        rw [this]; exact Nat.le_refl 1
    refine ⟨l, ⟨some a, cap', by rw [hl], by rw [hl]; exact h3, h4, fun hne => ⟨a, rfl, ⟨?_, fun h => h, fun h => by cases h⟩, fun j y hj => (hall j y hj).1⟩⟩, ?_, fun y hy => ?_⟩
    · have h0 : 0 < len' := by
        rcases Nat.eq_zero_or_pos len' with h | h
        · exact absurd (List.eq_nil_of_length_eq_zero (hl.trans h)) hne
        · exact h
      obtain ⟨cs, k1, _⟩ := h7 0 (by omega)
      have := World.cells?_block k1 (by rw [hc]; decide)
      rwa [Nat.zero_mul, block_add] at this
    · simp only [Rows.uptoBulk]
      rw [bulk_range]
      have := sum_le (bk := fun _ => 1) l (fun i => Rows.uptoBulk (D i)) fun i y hi => (hall i y hi).2.2
      rw [hl] at this
      have e := sum_ones l
      omega
    · obtain ⟨i, hi⟩ := List.getElem?_of_mem hy
      exact (hall i y hi).2.1
theorem wf_u64 {y : Int} (h : (Lit.int .u64 y).wf = true) : 0 ≤ y ∧ y < 18446744073709551616 := by
  simp only [Lit.wf, Bool.and_eq_true, decide_eq_true_eq] at h
  have h1 : IntKind.u64.min = 0 := by decide
  have h2 : IntKind.u64.max = 18446744073709551615 := by decide
  omega
end
end Go.Proofs.YtaogaegchagbfaaDoor.Vc

/- The calculus: functions of the run-time over three whole numbers; arrays by value; what is the same in every world. -/
namespace Go.Proofs.YtaogaegchagbfaaDoor.Vc
open Go Go.RowKit
section
variable {P : Program} {Γ : Ctx} {F : Fr} {H : List Ob} {Q : Exit → Fr → List Ob → Prop}
theorem hy_ext3 {f : FuncId} {fn : Func} {e : Array Value → Sem Value} {x y z : Operand} {ts : Array TypeId} {k1 k2 k3 : IntKind} {m n c : Int} {v : Value} {yy : V} (hf : P.funcs[f]? = some fn) (hname : (fn.name == "runtime.NumGoroutine") = false)
    (hb : fn.body.isNone = true) (hn : Extern.findNext fn = none) (he : Extern.find fn = some e) (hx : ovO F x = some (.i k1 m)) (hy : ovO F y = some (.i k2 n)) (hz : ovO F z = some (.i k3 c))
    (hrun : ∀ w, (e #[.int k1 m, .int k2 n, .int k3 c]).run P w = .ok v w) (hv : ∀ w L B ρ, Rel w L B ρ yy v) :
    HY P Γ (.call { callee := .value (.func f), args := #[x, y, z], argTypes := ts }) F H yy H := fun ρ a w s => by
  refine ⟨v, w, ρ, hv _ _ _ _, s, Ext.refl w, fun _ _ _ _ _ => ?_⟩
  have e0 : a.eval (.func f) = .func (.func f) #[] #[] := rfl
  simp [execOp, resolve, e0, Deferred.ofValue, invoke]
  rw [run_callFunc_extern hf hname hb hn he, eval_i s hx, eval_i s hy, eval_i s hz]
  simp [hrun]
theorem rel_pair {k : IntKind} {a b : Int} : ∀ w L B ρ, Rel w L B ρ (.t [.i k a, .i k b]) (.tuple #[.int k a, .int k b]) := fun w L B ρ => ⟨[.int k a, .int k b], rfl, _, _, rfl, rfl, _, _, rfl, rfl, rfl⟩
def sub64Entry : Array Value → Sem Value := fun args => do
  let (x, y, b) ← Extern.MathBitsCarry.three "Sub64" args
  pure (Extern.MathBitsCarry.pair ((x + Extern.MathBitsCarry.m64 - y - b) % Extern.MathBitsCarry.m64) (if x < y + b then 1 else 0))
theorem run_sub64 (x y c : Int) (hx : 0 ≤ x) (hx1 : x < 18446744073709551616) (hy : 0 ≤ y) (hy1 : y < 18446744073709551616) (hc0 : 0 ≤ c) (hc : c ≤ 1) (w : World) :
    (sub64Entry #[.int .u64 x, .int .u64 y, .int .u64 c]).run P w =
      .ok (.tuple #[.int .u64 (if x < y + c then x - y - c + 18446744073709551616 else x - y - c), .int .u64 (if x < y + c then 1 else 0)]) w := by
  have key : ∀ k : Nat, k ≤ 1 → (sub64Entry #[.int .u64 x, .int .u64 y, .int .u64 (k : Int)]).run P w =
      .ok (Extern.MathBitsCarry.pair ((x.toNat + Extern.MathBitsCarry.m64 - y.toNat - k) % Extern.MathBitsCarry.m64) (if x.toNat < y.toNat + k then 1 else 0)) w := by
    intro k hk
    have : k = 0 ∨ k = 1 := by omega
    rcases this with rfl | rfl <;> rfl
  obtain ⟨k, rfl⟩ := Int.eq_ofNat_of_zero_le hc0
  rw [key k (by omega)]
  obtain ⟨X, rfl⟩ := Int.eq_ofNat_of_zero_le hx
  obtain ⟨Y, rfl⟩ := Int.eq_ofNat_of_zero_le hy
  have hm : Extern.MathBitsCarry.m64 = 18446744073709551616 := rfl
  simp only [Extern.MathBitsCarry.pair, hm, Int.toNat_natCast]
  have e1 : (Int.ofNat ((X + 18446744073709551616 - Y - k) % 18446744073709551616)) = (if (X : Int) < (Y : Int) + (k : Int) then (X : Int) - Y - k + 18446744073709551616 else (X : Int) - Y - k) := by
    show ((((X + 18446744073709551616 - Y - k) % 18446744073709551616 : Nat)) : Int) = _
    split <;> omega
  have e2 : (Int.ofNat (if X < Y + k then 1 else 0)) = (if (X : Int) < (Y : Int) + (k : Int) then 1 else 0) := by
    by_cases h : X < Y + k
    · rw [if_pos h, if_pos (by omega)]; rfl
    · rw [if_neg h, if_neg (by omega)]; rfl
  rw [e1, e2]
/-- The same in every world. -/
theorem ly_const {op : Op} {v : Value} {y : V} (hr : ∀ w L B ρ, Rel w L B ρ y v) (h : ∀ (a : Act) (dst : Option Tmp) (type : TypeId) (pos : String) (after : Array Edge) (g : Option (Nat × Bool)) (w' : World), (execOp a.eval ⟨dst, op, type, pos, after, g⟩).run P w' = .ok (.value v) w') : LY P Γ op F H y :=
  fun ρ a w s => ⟨v, hr _ _ _ _, fun dst type pos after g w' _ => h a dst type pos after g w'⟩
/-- An array's place, by value. -/
theorem ly_ixa {T E n i : Nat} {x ix : Operand} {cs : List V} {k : IntKind} {m : Int} {y : V} (hT : P.underlying T = some (.array n E)) (hE : oneB P E = true) (hx : ovO F x = some (.a cs)) (hi : ovO F ix = some (.i k m)) (hn : m = (i : Int)) (hlt : i < n) (hy : cs[i]? = some y) :
    LY P Γ (.index T x ix) F H y := fun ρ a w s => by
  obtain ⟨us, hv, hr⟩ := s.ov hx
  obtain ⟨u, hu, hrel⟩ := relL_at cs us i y hr hy
  refine ⟨u, hrel, fun _ _ _ _ _ w' _ => ?_⟩
  have e : (Instr.index T (a.eval x) (a.eval ix)).run P w' = .ok u w' := by
    rw [hv, eval_i s hi, hn]
    simp [Instr.index, asIntOf, run_underlying hT, hlt, run_sizeOf' (oneB_size hE), part, oneB_isAgg hE, hu]
  exact run_v e
/-- A part of a call's results, whatever the world. -/
theorem lo_ext {ops : Array Oper} {d : Nat} {x : Operand} {T : TypeId} {ps : String} {af : Array Edge} {vs : List V} {i : Nat} {y : V} (hx : ovO F x = some (.t vs)) (hy : vs[i]? = some y) (hd : d < Γ.N) : LO P ops false Γ ⟨some d, .extract x i, T, ps, af, none⟩ d F H y :=
  ⟨rfl, hd, fun ρ a w s => by
    obtain ⟨us, hv, hr⟩ := s.ov hx
    obtain ⟨u, hu, hr'⟩ := relL_at vs us i y hr hy
    refine ⟨u, hr', .inl ⟨rfl, fun w' _ => ?_⟩⟩
    have e : (Instr.extract (a.eval x) i).run P w' = .ok u w' := by rw [hv]; simp [Instr.extract, hu]
    exact run_v e⟩
/-! ### A light operation first: of the others, those that wait for it, through whatever, are left out. -/
theorem unlisted_absurd {listed : Array Bool} {k : Nat} (h0 : listed.getD k true = false) (h1 : listed.getD k false = true) : False := by
  rcases Nat.lt_or_ge k listed.size with h' | h'
  · simp [h'] at h0 h1; rw [h0] at h1; cases h1
  · simp [Array.getElem?_eq_none h'] at h1
def depX (ops : Array Oper) (listed : Array Bool) (i : Nat) (D : List Nat) : Bool :=
  D.all fun j => !(listed.getD j true) && match ops[j]? with
    | some oj => oj.after.any (fun e => Region.binds .any e && (Nat.beq e.on i || D.contains e.on))
    | none => false
def freeX2 (st : Bool) (ops : Array Oper) (listed : Array Bool) (i : Nat) (D : List Nat) : Bool :=
  match ops[i]? with
  | none => false
  | some oi => (List.range ops.size).all fun j => Nat.beq j i || listed.getD j true || D.contains j || match ops[j]? with
      | some oj => oi.apart ops oj && (!st || mildB oj)
      | none => true
theorem wpAnyX_first2 {ops : Array Oper} {Q : Exit → Act → World → Prop} {st : Bool} {i : Nat} {oi : Oper} {v : Value} (D : List Nat) (hi : ops[i]? = some oi) (hsel : ∀ (j : Nat) (o : Oper) cs b, ops[j]? = some o → o.op ≠ .select cs b)
    (hQ : ∀ c a w, Q (.panic c) (a.put oi.dst v) w → Q (.panic c) a w) (hD : ∀ j ∈ D, ∃ oj, ops[j]? = some oj ∧ ∃ e ∈ oj.after, Region.binds .any e = true ∧ (e.on = i ∨ e.on ∈ D)) :
    ∀ (fuel : Nat) (listed : Array Bool) (a : Act) (w : World),
      (∀ j ∈ D, listed.getD j true = false) →
      (∀ j oj, ops[j]? = some oj → j ≠ i → listed.getD j true = false → j ∉ D → oi.apart ops oj = true ∧ (st = true → mildB oj = true)) →
      i ∈ Region.ready .any ops listed → YieldsX P ops st oi v a w →
      wpAnyX P ops Q fuel (listed.setIfInBounds i true) (a.put oi.dst v) w → wpAnyX P ops Q (fuel + 1) listed a w := by
  intro fuel
  induction fuel with
  | zero =>
    intro listed a w _ _ hr hy H
    refine ⟨fun h => (by rw [h] at hr; cases hr), fun j hj => ?_⟩
    by_cases hji : j = i
    · subst hji; exact hy.wpOp hi ⟨fun _ _ _ => Ext.refl w, H⟩
    · have := ready_mono hj hji
      rw [H.1] at this
      cases this
  | succ fuel ih =>
    intro listed a w hun hfree hr hy H
    refine ⟨fun h => (by rw [h] at hr; cases hr), fun j hj => ?_⟩
    by_cases hji : j = i
    · subst hji; exact hy.wpOp hi ⟨fun _ _ _ => Ext.refl w, H⟩
    · obtain ⟨hjun, oj, hoj, hall⟩ := mem_ready.1 hj
      have h1 : wpOp P ops Q j (fun a' w' => (mildB oj = true → Ext w w') ∧ wpAnyX P ops Q fuel ((listed.setIfInBounds i true).setIfInBounds j true) a' w') (a.put oi.dst v) w :=
        wpOp_mono (fun a' w' h => ⟨h.1 oj hoj, h.2⟩) (H.2 j (ready_mono hj hji))
      have hjD : j ∉ D := fun hjD => by
        obtain ⟨oj', hoj', e, he, hb, hon⟩ := hD j hjD
        obtain rfl : oj' = oj := by have := hoj'.symm.trans hoj; injection this
        have h1 := hall e he hb
        rcases hon with hon | hon
        · rw [hon] at h1; exact unlisted_absurd (mem_ready.1 hr).1 h1
        · exact unlisted_absurd (hun _ hon) h1
      obtain ⟨hap, hmild⟩ := hfree j oj hoj hji hjun hjD
      have h2 := wpOp_putX hoj hap hmild (fun cs b => hsel i oi cs b hi) (fun cs b => hsel j oj cs b hoj) hQ hy h1
      have hun' : ∀ k ∈ D, (listed.setIfInBounds j true).getD k true = false := fun k hk => by
        have hne : j ≠ k := fun h => hjD (by rw [h]; exact hk)
        rw [getD_set_ne true hne]; exact hun k hk
      have hfree' : ∀ k ok, ops[k]? = some ok → k ≠ i → (listed.setIfInBounds j true).getD k true = false → k ∉ D → oi.apart ops ok = true ∧ (st = true → mildB ok = true) := fun k ok hk hki hku hkD => by
        refine hfree k ok hk hki ?_ hkD
        by_cases hjk : j = k
        · subst hjk; exact hjun
        · rw [getD_set_ne true hjk] at hku; exact hku
      refine wpOp_mono (fun a' w' h3 => ⟨fun o ho hmo => by rw [hoj] at ho; injection ho with ho; subst ho; exact h3.1 hmo, ih (listed.setIfInBounds j true) a' w' hun' hfree' (ready_mono hr (Ne.symm hji)) h3.2.1 ?_⟩) h2
      rw [Array.setIfInBounds_comm _ _ hji]
      exact h3.2.2
theorem ja_l2 {ops : Array Oper} {fuel : Nat} {listed : Array Bool} (i : Nat) (D : List Nat) {st : Bool} {o : Oper} {d : Nat} {y : V} (h : LO P ops st Γ o d F H y) (hi : ops[i]? = some o) (hs : Region.noSelect ops = true)
    (hr : (Region.ready .any ops listed).contains i = true) (hf : freeX2 st ops listed i D = true) (hdp : depX ops listed i D = true) (hQ : ∀ c F H d, Q (.panic c) F H → Q (.panic c) ((d, .u) :: F) H)
    (j : JA P ops fuel (listed.setIfInBounds i true) Γ ((d, y) :: F) H Q) : JA P ops (fuel + 1) listed Γ F H Q := fun a w ⟨ρ, s⟩ => by
  obtain ⟨hdst, hd, h⟩ := h
  obtain ⟨v, r, hy⟩ := h ρ a w s
  have hD : ∀ j ∈ D, listed.getD j true = false ∧ ∃ oj, ops[j]? = some oj ∧ ∃ e ∈ oj.after, Region.binds .any e = true ∧ (e.on = i ∨ e.on ∈ D) := fun j hj => by
    have := List.all_eq_true.1 hdp j hj
    simp only [Bool.and_eq_true, Bool.not_eq_true'] at this
    refine ⟨this.1, ?_⟩
    cases hoj : ops[j]? with
    | none => rw [hoj] at this; simp at this
    | some oj =>
      rw [hoj] at this
      obtain ⟨e, he, hb⟩ := Array.any_eq_true'.1 this.2
      simp only [Bool.and_eq_true, Bool.or_eq_true] at hb
      exact ⟨oj, rfl, e, he, hb.1, hb.2.imp Nat.eq_of_beq_eq_true (fun h => by simpa using h)⟩
  refine wpAnyX_first2 D hi (Region.noSelect_spec hs) ?_ (fun j hj => (hD j hj).2) fuel listed a w (fun j hj => (hD j hj).1) (fun j oj hoj hne hun hjD => ?_) (by simpa using hr) hy (by rw [hdst]; exact j _ _ ⟨ρ, s.put hd r⟩)
  · rintro c a' w' ⟨F', H', q, ρ', s'⟩
    refine ⟨(d, .u) :: F', H', hQ _ _ _ _ q, ρ', s'.hr, ?_, ?_, fun t => ?_, s'.fro⟩
    · have := s'.n; rw [hdst] at this; simpa [Act.put] using this
    · have := s'.ds; rw [hdst] at this; simpa [Act.put] using this
    · rw [get_cons]
      by_cases e : t = d
      · rw [if_pos e]; trivial
      · rw [if_neg e]
        have := s'.fr t
        rw [hdst] at this
        simpa [Act.put, Array.getD_eq_getD_getElem?, Array.getElem?_setIfInBounds_ne (Ne.symm e)] using this
  · simp only [freeX2, hi, List.all_eq_true, List.mem_range] at hf
    have h1 := hf j (Array.getElem?_eq_some_iff.1 hoj).1
    have hb : Nat.beq j i = false := by
      cases hb : Nat.beq j i
      · rfl
      · exact absurd (Nat.eq_of_beq_eq_true hb) hne
    have hc : D.contains j = false := by simpa using hjD
    simp only [hoj, hb, hun, hc, Bool.false_or, Bool.and_eq_true, Bool.or_eq_true, Bool.not_eq_true'] at h1
    exact ⟨h1.1, fun e => h1.2.resolve_left (by simp [e])⟩
theorem js_l {ops : Array Oper} {d : Nat} {op : Op} {T : TypeId} {ps : String} {af : Array Edge} {y : V} {R : Fr → List Ob → Prop} (h : LY P Γ op F H y) (hd : d < Γ.N) (k : R ((d, y) :: F) H) : JS P ops Γ ⟨some d, op, T, ps, af, none⟩ F H Q R := fun a w ⟨ρ, s⟩ => by
  obtain ⟨v, r, hr⟩ := h ρ a w s
  refine ⟨rfl, ?_⟩
  unfold Oper.wp
  rw [hr _ _ _ _ _ w (Ext.refl w)]
  exact ⟨fun _ => Ext.refl w, _, _, k, ρ, s.put hd r⟩
/-- Two are ready; three. -/
theorem ja_2 {ops : Array Oper} {fuel : Nat} {listed : Array Bool} (i j : Nat) {o o' : Oper} (h : JS P ops Γ o F H Q fun F' H' => JA P ops fuel (listed.setIfInBounds i true) Γ F' H' Q) (h' : JS P ops Γ o' F H Q fun F' H' => JA P ops fuel (listed.setIfInBounds j true) Γ F' H' Q) (hi : ops[i]? = some o) (hj : ops[j]? = some o') (hr : Region.ready .any ops listed = [i, j]) : JA P ops (fuel + 1) listed Γ F H Q :=
  ja_all [i, j] hr rfl fun k hk => by
    simp only [List.mem_cons, List.not_mem_nil, or_false] at hk
    rcases hk with rfl | rfl
    · exact ⟨o, hi, h⟩
    · exact ⟨o', hj, h'⟩
theorem ja_3 {ops : Array Oper} {fuel : Nat} {listed : Array Bool} (i j l : Nat) {o o' o'' : Oper} (h : JS P ops Γ o F H Q fun F' H' => JA P ops fuel (listed.setIfInBounds i true) Γ F' H' Q) (h' : JS P ops Γ o' F H Q fun F' H' => JA P ops fuel (listed.setIfInBounds j true) Γ F' H' Q) (h'' : JS P ops Γ o'' F H Q fun F' H' => JA P ops fuel (listed.setIfInBounds l true) Γ F' H' Q) (hi : ops[i]? = some o) (hj : ops[j]? = some o') (hl : ops[l]? = some o'') (hr : Region.ready .any ops listed = [i, j, l]) : JA P ops (fuel + 1) listed Γ F H Q :=
  ja_all [i, j, l] hr rfl fun k hk => by
    simp only [List.mem_cons, List.not_mem_nil, or_false] at hk
    rcases hk with rfl | rfl | rfl
    · exact ⟨o, hi, h⟩
    · exact ⟨o', hj, h'⟩
    · exact ⟨o'', hl, h''⟩
end
end Go.Proofs.YtaogaegchagbfaaDoor.Vc

/- The calculus: copy; places held for objects that are made in any order. -/
namespace Go.Proofs.YtaogaegchagbfaaDoor.Vc
open Go Go.RowKit
section
variable {P : Program} {Γ : Ctx} {F : Fr} {H : List Ob} {Q : Exit → Fr → List Ob → Prop}
/-- Places held. -/
theorem jc_hold {c : Code} : ∀ (k : Nat) (H : List Ob), JC P c Γ F (H ++ List.replicate k (⟨0, 1, 0, true, []⟩ : Ob)) Q → JC P c Γ F H Q
  | 0, H, j => by simpa using j
  | k + 1, H, j => fun a w ⟨ρ, s⟩ => by
    have s' := s.born (re := ⟨none, 0, 0, 1⟩) (ob := ⟨0, 1, 0, true, []⟩) (w' := w) ⟨rfl, rfl, rfl, Nat.le_refl _, fun _ _ _ => rfl⟩ rfl rfl rfl (fun g h => by cases h) (fun _ => ⟨rfl, rfl⟩) (fun g h => by cases h)
    exact jc_hold k (H ++ [⟨0, 1, 0, true, []⟩]) (by rw [List.append_assoc]; exact j) a w ⟨_, s'⟩
/-- A variable made at a place that is held. -/
theorem hy_allocAt {T n : Nat} {zs : List Value} {id ver T' sz' : Nat} {cs : List V} (hz : ((P.info? T).bind (·.zero)).map (·.cells.toList) = some zs) (hone : zs.all (·.oneCell') = true) (hn : zs.length = n) (h0 : n ≤ maxLen) (hH : H[id]? = some ⟨T', sz', ver, true, cs⟩) :
    HY P Γ (.alloc T) F H (.p id (ver + 1) 0) (H.set id ⟨T, n, ver + 1, true, zs.map cV⟩) := fun ρ a w s => by
  cases hi : P.info? T with
  | none => rw [hi] at hz; cases hz
  | some i =>
    rw [hi] at hz
    cases hz0 : i.zero with
    | none => simp [hz0] at hz
    | some z =>
      simp [hz0] at hz
      obtain ⟨re, o⟩ := s.own hH rfl
      have hver : re.ver = ver := o.ok.ver
      refine ⟨.pointer (some ⟨w.heap.size, 0, none⟩), w.alloc (.cells z.cells T), ρ.set id ⟨some w.heap.size, 1, ver + 1, n⟩, ⟨⟨some w.heap.size, 1, ver + 1, n⟩, by rw [List.getElem?_set]; simp [(List.getElem?_eq_some_iff.1 o.at_).1], Nat.le_refl _, fun _ => ⟨_, rfl, rfl⟩⟩,
        s.update (ob' := ⟨T, n, ver + 1, true, zs.map cV⟩) (re' := ⟨some w.heap.size, 1, ver + 1, n⟩) hH rfl o.at_ (World.grownBy_alloc w _ _) rfl rfl rfl (by show re.ver ≤ ver + 1; omega) (fun h => by have : re.ver = ver + 1 := h; omega) (.inr ⟨_, rfl, Nat.le_refl _⟩) (fun h => by cases h) (fun g' hg' => ?_), ext_alloc w _, fun _ _ _ _ _ => ?_⟩
      · injection hg' with hg'; subst hg'
        refine ⟨z.cells, by show (w.heap.push _)[w.heap.size]? = _; rw [Array.getElem?_push, if_pos rfl], by show _ = 1 * n; rw [Nat.one_mul, ← hn, ← hz]; simp, by show (zs.map cV).length ≤ _; rw [List.length_map, ← hz]; simp, by show 1 ≤ maxLen; decide, fun j y hy => ?_⟩
        rw [List.getElem?_map] at hy
        cases hj : zs[j]? with
        | none => rw [hj] at hy; cases hy
        | some u =>
          rw [hj] at hy
          simp at hy
          subst hy
          exact ⟨u, by rw [← hz] at hj; simpa using hj, List.all_eq_true.1 hone u (List.mem_of_getElem? hj), rel_cV _ _ _ _ _⟩
      · have e : (Instr.alloc T true (.tuple #[])).run P w = .ok (.pointer (some ⟨w.heap.size, 0, none⟩)) (w.alloc (.cells z.cells T)) := by
          simp [Instr.alloc, zeroValue, typeInfo, hi, hz0, newVar, newRow, newObj, Sem.run]
        exact run_v e
/-! ### Regions in which several operations that make memory come up in any order: by what has come up -/
theorem ja_gen {ops : Array Oper} {fuel : Nat} {listed : Array Bool} (hp : ∀ c F H d, Q (.panic c) F H → Q (.panic c) ((d, .u) :: F) H) (k : ∀ (ops' : Array Oper) (Q' : Exit → Fr → List Ob → Prop) (F' : Fr), (∀ c F H d, Q' (.panic c) F H → Q' (.panic c) ((d, .u) :: F) H) → ops' = ops → Q' = Q → F' = F → JA P ops' fuel listed Γ F' H Q') : JA P ops fuel listed Γ F H Q := k _ _ _ hp rfl rfl rfl
theorem ja_to {ops : Array Oper} {fuel : Nat} {listed listed' : Array Bool} {F' m F0 : Fr} {H' : List Ob} (hl : listed = listed') (hH : H' = H) (hc : Cov F' m F0) (S : JA P ops fuel listed' Γ (m ++ F0) H Q) : JA P ops fuel listed Γ F' H' Q := fun a w ⟨ρ, s⟩ => by
  subst hl; subst hH
  exact S a w ⟨ρ, s.cov hc⟩
end
end Go.Proofs.YtaogaegchagbfaaDoor.Vc

/- The calculus: functions that hand over the objects they make. -/
namespace Go.Proofs.YtaogaegchagbfaaDoor.Vc
open Go Go.RowKit
section
variable {P : Program} {Γ : Ctx} {F : Fr} {H : List Ob} {Q : Exit → Fr → List Ob → Prop}
mutual
/-- Objects' numbers moved up. -/
def sh (n : Nat) : V → V
  | .p id ver off => .p (id + n) ver off
  | .o id ver off len => .o (id + n) ver off len
  | .f fn cs => .f fn (shL n cs)
  | .a cs => .a (shL n cs)
  | .t cs => .t (shL n cs)
  | y => y
def shL (n : Nat) : List V → List V
  | [] => []
  | y :: ys => sh n y :: shL n ys
end
mutual
theorem Rel.sh {w : World} {L : Nat → Prop} {B : Nat} {ρ ρG : List Re} : ∀ (y : V) (v : Value), Rel w L B ρG y v → Rel w L B (ρ ++ ρG) (Vc.sh ρ.length y) v
  | .i _ _, _, h => h
  | .b _, _, h => h
  | .s _, _, h => h
  | .c _, _, h => h
  | .n _ _ _, _, h => h
  | .l _ _ _, _, h => h
  | .q _, _, h => h
  | .p id ver off, v, ⟨re, h1, h2⟩ => ⟨re, by rw [List.getElem?_append_right (by omega), Nat.add_sub_cancel]; exact h1, h2⟩
  | .o id ver off len, v, ⟨re, h1, h2⟩ => ⟨re, by rw [List.getElem?_append_right (by omega), Nat.add_sub_cancel]; exact h1, h2⟩
  | .f fn cs, v, ⟨us, e, h⟩ => ⟨us, e, RelL.sh cs us h⟩
  | .u, _, _ => trivial
  | .a cs, v, ⟨us, e, h⟩ => ⟨us, e, RelL.sh cs us h⟩
  | .t cs, v, ⟨us, e, h⟩ => ⟨us, e, RelL.sh cs us h⟩
theorem RelL.sh {w : World} {L : Nat → Prop} {B : Nat} {ρ ρG : List Re} : ∀ (ys : List V) (us : List Value), RelL w L B ρG ys us → RelL w L B (ρ ++ ρG) (shL ρ.length ys) us
  | [], _, h => h
  | y :: ys, us, ⟨u, us', e, h1, h2⟩ => ⟨u, us', e, Rel.sh y u h1, RelL.sh ys us' h2⟩
end
/-- The objects' cells name no object. -/
def idless (G : List Ob) : Prop := ∀ ob ∈ G, ob.live = true → ∀ y ∈ ob.cs, idB 0 y = true
end
end Go.Proofs.YtaogaegchagbfaaDoor.Vc

/- The calculus: own rows lent to a call that only reads; results chosen among the own objects; own objects given away to a call. -/
namespace Go.Proofs.YtaogaegchagbfaaDoor.Vc
open Go Go.RowKit
mutual
/-- A value without places. -/
def scB : V → Bool
  | .i _ _ | .b _ | .s _ | .c _ | .u => true
  | .a cs => scBL cs
  | .t cs => scBL cs
  | _ => false
def scBL : List V → Bool
  | [] => true
  | y :: ys => scB y && scBL ys
end
mutual
theorem Rel.sc {w w' : World} {L L' : Nat → Prop} {B B' : Nat} {ρ ρ' : List Re} : ∀ (y : V) (v : Value), scB y = true → Rel w L B ρ y v → Rel w' L' B' ρ' y v
  | .i _ _, _, _, h => h
  | .b _, _, _, h => h
  | .s _, _, _, h => h
  | .c _, _, _, h => h
  | .u, _, _, h => h
  | .a cs, _, hs, ⟨us, e, h⟩ => ⟨us, e, RelL.sc cs us hs h⟩
  | .t cs, _, hs, ⟨us, e, h⟩ => ⟨us, e, RelL.sc cs us hs h⟩
  | .n _ _ _, _, hs, _ => by simp [scB] at hs
  | .l _ _ _, _, hs, _ => by simp [scB] at hs
  | .q _, _, hs, _ => by simp [scB] at hs
  | .p _ _ _, _, hs, _ => by simp [scB] at hs
  | .o _ _ _ _, _, hs, _ => by simp [scB] at hs
  | .f _ _, _, hs, _ => by simp [scB] at hs
theorem RelL.sc {w w' : World} {L L' : Nat → Prop} {B B' : Nat} {ρ ρ' : List Re} : ∀ (ys : List V) (us : List Value), scBL ys = true → RelL w L B ρ ys us → RelL w' L' B' ρ' ys us
  | [], _, _, h => h
  | y :: ys, us, hs, ⟨u, us', e, h1, h2⟩ => by
    simp only [scBL, Bool.and_eq_true] at hs
    exact ⟨u, us', e, Rel.sc y u hs.1 h1, RelL.sc ys us' hs.2 h2⟩
end
section
variable {P : Program} {Γ : Ctx} {F : Fr} {H : List Ob} {Q : Exit → Fr → List Ob → Prop}
/-! ### Nil in a slot's value as own rows that are not born yet -/
inductive NilOwn (id : Nat) : V → V → Prop
  | same {y : V} : NilOwn id y y
  | nil : NilOwn id (.c (.slice none 0 0)) (.o id 0 0 0)
  | a0 : NilOwn id (.a []) (.a [])
  | a1 {y z : V} {ys zs : List V} (h : NilOwn id y z) (hs : NilOwn id (.a ys) (.a zs)) : NilOwn id (.a (y :: ys)) (.a (z :: zs))
theorem NilOwn.rel {id : Nat} {y z : V} (h : NilOwn id y z) {w : World} {L : Nat → Prop} {B sz : Nat} {ρ : List Re} (hid : ρ[id]? = some ⟨none, 0, 0, sz⟩) : ∀ {v : Value}, Rel w L B ρ y v → Rel w L B ρ z v := by
  induction h with
  | same => exact fun h => h
  | nil => rintro v rfl; exact ⟨_, hid, Nat.zero_le _, fun _ => ⟨Nat.le_refl _, .inr ⟨rfl, rfl, rfl, rfl⟩⟩⟩
  | a0 => exact fun h => h
  | a1 h hs ih1 ih2 =>
    rintro v ⟨us, rfl, u, us', rfl, hr1, hr2⟩
    obtain ⟨us'', e2, hr3⟩ := ih2 ⟨us', rfl, hr2⟩
    have : us' = us'' := by injection e2 with e2; have := congrArg Array.toList e2; simpa using this
    subst this
    exact ⟨_, rfl, u, us', rfl, ih1 hr1, hr3⟩
/-! ### Chosen objects -/
def selL {α : Type} (d : α) (sel : List Nat) (l : List α) : List α := sel.map fun i => (l[i]?).getD d
def noOb : Ob := ⟨0, 0, 0, false, []⟩
def noRe : Re := ⟨none, 0, 0, 0⟩
theorem selL_some {α : Type} {d : α} {sel : List Nat} {l : List α} {j i : Nat} {x : α} (h : sel[j]? = some i) (hx : l[i]? = some x) : (selL d sel l)[j]? = some x := by
  unfold selL
  rw [List.getElem?_map, h]
  simp [hx]
mutual
/-- Numbers in a choice told as the objects' own. -/
def ren (sel : List Nat) : V → V
  | .p id ver off => .p (sel.getD id 0) ver off
  | .o id ver off len => .o (sel.getD id 0) ver off len
  | .f fn cs => .f fn (renL sel cs)
  | .a cs => .a (renL sel cs)
  | .t cs => .t (renL sel cs)
  | y => y
def renL (sel : List Nat) : List V → List V
  | [] => []
  | y :: ys => ren sel y :: renL sel ys
end
theorem sel_re {sel : List Nat} {ρ : List Re} {id : Nat} {re : Re} (hi : id < sel.length) (e : ρ[sel.getD id 0]? = some re) : (selL noRe sel ρ)[id]? = some re := by
  refine selL_some (i := sel[id]) (List.getElem?_eq_getElem hi) ?_
  rw [List.getD_eq_getElem?_getD, List.getElem?_eq_getElem hi] at e
  exact e
mutual
theorem Rel.unren {w : World} {L : Nat → Prop} {B : Nat} {ρ : List Re} {sel : List Nat} : ∀ (y : V) (v : Value), idB sel.length y = true → Rel w L B ρ (ren sel y) v → Rel w L B (selL noRe sel ρ) y v
  | .i _ _, _, _, h => h
  | .b _, _, _, h => h
  | .s _, _, _, h => h
  | .c _, _, _, h => h
  | .n _ _ _, _, _, h => h
  | .l _ _ _, _, _, h => h
  | .q _, _, _, h => h
  | .u, _, _, h => h
  | .p id _ _, _, hi, ⟨re, e, h⟩ => ⟨re, sel_re (by simpa [idB] using hi) e, h⟩
  | .o id _ _ _, _, hi, ⟨re, e, h⟩ => ⟨re, sel_re (by simpa [idB] using hi) e, h⟩
  | .f _ cs, _, hi, ⟨us, e, h⟩ => ⟨us, e, RelL.unren cs us hi h⟩
  | .a cs, _, hi, ⟨us, e, h⟩ => ⟨us, e, RelL.unren cs us hi h⟩
  | .t cs, _, hi, ⟨us, e, h⟩ => ⟨us, e, RelL.unren cs us hi h⟩
theorem RelL.unren {w : World} {L : Nat → Prop} {B : Nat} {ρ : List Re} {sel : List Nat} : ∀ (ys : List V) (us : List Value), idBL sel.length ys = true → RelL w L B ρ (renL sel ys) us → RelL w L B (selL noRe sel ρ) ys us
  | [], _, _, h => h
  | y :: ys, us, hi, ⟨u, us', e, h1, h2⟩ => by
    simp only [idBL, Bool.and_eq_true] at hi
    exact ⟨u, us', e, Rel.unren y u hi.1 h1, RelL.unren ys us' hi.2 h2⟩
end
/-- What a body has to show where it ends that hands over some of its objects. -/
def qRetS (P : Program) (fn : Func) (post : Out → List Ob → Prop) : Exit → Fr → List Ob → Prop
  | .ret, F, H | .normal, F, H => ∃ sel ys y, ResL P F H fn.results.toList ys ∧ ren sel y = packV ys ∧ idB sel.length y = true ∧ sel.Nodup ∧ idless (selL noOb sel H) ∧ post (.ret y) (selL noOb sel H)
  | .panic ch, _, H => post (.pan ch) []
  | _, _, _ => False
end
end Go.Proofs.YtaogaegchagbfaaDoor.Vc

/- The calculus: own objects given away to a call that writes them. -/
namespace Go.Proofs.YtaogaegchagbfaaDoor.Vc
open Go Go.RowKit
/-- Objects that are written, and read, no more. -/
def deads (H : List Ob) : List Nat → List Ob
  | [] => H
  | i :: sel => deads (deadAt H i) sel
inductive SelOk (H : List Ob) (sel0 : List Nat) : List Nat → List Ob → Prop
  | nil : SelOk H sel0 [] []
  | cons {i t sz ver : Nat} {sel : List Nat} {cs cs' : List V} {H0 : List Ob} (h : H[i]? = some ⟨t, sz, ver, true, cs'⟩) (hc : cs' = renL sel0 cs) (hs : SelOk H sel0 sel H0) : SelOk H sel0 (i :: sel) (⟨t, sz, ver, true, cs⟩ :: H0)
theorem SelOk.len {H : List Ob} {sel0 sel : List Nat} {H0 : List Ob} (h : SelOk H sel0 sel H0) : sel.length = H0.length := by
  induction h with
  | nil => rfl
  | cons _ _ _ ih => simp [ih]
theorem SelOk.at_ {H : List Ob} {sel0 sel : List Nat} {H0 : List Ob} (h : SelOk H sel0 sel H0) : ∀ {j : Nat} {o : Ob}, H0[j]? = some o → o.live = true ∧ ∃ i, sel[j]? = some i ∧ H[i]? = some { o with cs := renL sel0 o.cs } := by
  induction h with
  | nil => intro j o h; simp at h
  | cons h hc hs ih =>
    intro j o hj
    cases j with
    | zero =>
      simp at hj
      subst hj
      exact ⟨rfl, _, rfl, by rw [h, hc]⟩
    | succ j => exact ih (by simpa using hj)
section
variable {P : Program} {Γ : Ctx} {F : Fr} {H : List Ob} {Q : Exit → Fr → List Ob → Prop}
end
end Go.Proofs.YtaogaegchagbfaaDoor.Vc

/- The calculus: rows frozen in regions that draw; a nil slice as a row of no elements; contracts made weaker. -/
namespace Go.Proofs.YtaogaegchagbfaaDoor.Vc
open Go Go.RowKit
section
variable {P : Program} {Γ : Ctx} {F : Fr} {H : List Ob} {Q : Exit → Fr → List Ob → Prop}
theorem SpecM.mono {f : FuncId} {args : List V} {H : List Ob} {post post' : Out → List Ob → Prop} (h : SpecM P f args H post) (hp : ∀ o G, post o G → post' o G) : SpecM P f args H post' :=
  fun M w ρ vals h1 h2 h3 => (h M w ρ vals h1 h2 h3).mono fun e w' ⟨o, H', ρ', hq, rest⟩ => ⟨o, H', ρ', hp o H' hq, rest⟩
/-- A struct's part of one cell, by value. -/
def fl1B (P : Program) (S : TypeId) (f off : Nat) : Bool :=
  match P.underlying S with
  | some (.struct fs) => (fs[f]?).any fun fd => fd.offset == off && oneB P fd.type
  | _ => false
end
end Go.Proofs.YtaogaegchagbfaaDoor.Vc

/- The calculus: calls that read own rows and hand over what they make; objects numbered anew. -/
namespace Go.Proofs.YtaogaegchagbfaaDoor.Vc
open Go Go.RowKit
mutual
/-- A value without frozen places. -/
def ownB : V → Bool
  | .n _ _ _ | .l _ _ _ | .q _ => false
  | .f _ cs => ownBL cs
  | .a cs => ownBL cs
  | .t cs => ownBL cs
  | _ => true
def ownBL : List V → Bool
  | [] => true
  | y :: ys => ownB y && ownBL ys
end
mutual
theorem Rel.own {w : World} {L L' : Nat → Prop} {B : Nat} {ρ : List Re} : ∀ (y : V) (v : Value), ownB y = true → Rel w L B ρ y v → Rel w L' B ρ y v
  | .i _ _, _, _, h => h
  | .b _, _, _, h => h
  | .s _, _, _, h => h
  | .c _, _, _, h => h
  | .n _ _ _, _, hs, _ => by simp [ownB] at hs
  | .l _ _ _, _, hs, _ => by simp [ownB] at hs
  | .q _, _, hs, _ => by simp [ownB] at hs
  | .p _ _ _, _, _, h => h
  | .o _ _ _ _, _, _, h => h
  | .u, _, _, _ => trivial
  | .f _ cs, _, hs, ⟨us, e, h⟩ => ⟨us, e, RelL.own cs us hs h⟩
  | .a cs, _, hs, ⟨us, e, h⟩ => ⟨us, e, RelL.own cs us hs h⟩
  | .t cs, _, hs, ⟨us, e, h⟩ => ⟨us, e, RelL.own cs us hs h⟩
theorem RelL.own {w : World} {L L' : Nat → Prop} {B : Nat} {ρ : List Re} : ∀ (ys : List V) (us : List Value), ownBL ys = true → RelL w L B ρ ys us → RelL w L' B ρ ys us
  | [], _, _, h => h
  | y :: ys, _, hs, ⟨u, us', e, h1, h2⟩ => by
    simp only [ownBL, Bool.and_eq_true] at hs
    exact ⟨u, us', e, Rel.own y u hs.1 h1, RelL.own ys us' hs.2 h2⟩
end
/-- Objects of plain cells. -/
def scG (G : List Ob) : Prop := ∀ ob ∈ G, ob.live = true → ∀ y ∈ ob.cs, scB y = true
section
variable {P : Program} {Γ : Ctx} {F : Fr} {H : List Ob} {Q : Exit → Fr → List Ob → Prop}
end
end Go.Proofs.YtaogaegchagbfaaDoor.Vc

/- The calculus: closures: made of what they capture, called, frozen together with the box that holds them; maps that are made and not looked at. -/
namespace Go.Proofs.YtaogaegchagbfaaDoor.Vc
open Go Go.RowKit
/-- A closure that holds a box with itself, so many levels deep. -/
def cyc (f : FuncId) (pre post : List V) : Nat → V
  | 0 => .u
  | n + 1 => .f f (pre ++ .q [cyc f pre post n] :: post)
section
variable {P : Program} {Γ : Ctx} {F : Fr} {H : List Ob} {Q : Exit → Fr → List Ob → Prop}
end
end Go.Proofs.YtaogaegchagbfaaDoor.Vc

/- The calculus: chosen objects under new numbers; loops whose rounds end so; calls that are handed chosen objects and hand them back. -/
namespace Go.Proofs.YtaogaegchagbfaaDoor.Vc
open Go Go.RowKit
/-- Chosen objects, some of them no longer ours. -/
inductive SelD (H : List Ob) (sel0 : List Nat) : List Nat → List Ob → Prop
  | nil : SelD H sel0 [] []
  | cons {i t sz ver : Nat} {sel : List Nat} {cs cs' : List V} {H0 : List Ob} (h : H[i]? = some ⟨t, sz, ver, true, cs'⟩) (hc : cs' = renL sel0 cs) (hs : SelD H sel0 sel H0) : SelD H sel0 (i :: sel) (⟨t, sz, ver, true, cs⟩ :: H0)
  | dead {i t sz ver : Nat} {sel : List Nat} {cs : List V} {H0 : List Ob} (hs : SelD H sel0 sel H0) : SelD H sel0 (i :: sel) (⟨t, sz, ver, false, cs⟩ :: H0)
theorem SelD.len {H : List Ob} {sel0 sel : List Nat} {H0 : List Ob} (h : SelD H sel0 sel H0) : sel.length = H0.length := by
  induction h with
  | nil => rfl
  | cons _ _ _ ih => simp [ih]
  | dead _ ih => simp [ih]
theorem SelD.at_ {H : List Ob} {sel0 sel : List Nat} {H0 : List Ob} (h : SelD H sel0 sel H0) : ∀ {j : Nat} {o : Ob}, H0[j]? = some o → o.live = true → ∃ i, sel[j]? = some i ∧ H[i]? = some { o with cs := renL sel0 o.cs } := by
  induction h with
  | nil => intro j o h; simp at h
  | cons h hc _ ih =>
    intro j o hj hl
    cases j with
    | zero => simp at hj; subst hj; exact ⟨_, rfl, hc ▸ h⟩
    | succ j => simp at hj; obtain ⟨i, e1, e2⟩ := ih hj hl; exact ⟨i, by simpa using e1, e2⟩
  | dead _ ih =>
    intro j o hj hl
    cases j with
    | zero => simp at hj; subst hj; cases hl
    | succ j => simp at hj; obtain ⟨i, e1, e2⟩ := ih hj hl; exact ⟨i, by simpa using e1, e2⟩
section
variable {P : Program} {Γ : Ctx} {F : Fr} {H : List Ob} {Q : Exit → Fr → List Ob → Prop}
theorem low_key {sel : List Nat} {n : Nat} (h : ∀ i, i < n → sel[i]? = some i) {i : Nat} (hi : Nat.blt i n = true) : sel.getD i 0 = i := by
  rw [List.getD_eq_getElem?_getD, h i (by simpa using hi)]; rfl
mutual
theorem ren_low (sel : List Nat) (n : Nat) (h : ∀ i, i < n → sel[i]? = some i) : ∀ y, idB n y = true → ren sel y = y
  | .p id ver off, h1 => by
    simp only [ren]; rw [low_key h h1]
  | .o id ver off len, h1 => by
    simp only [ren]; rw [low_key h h1]
  | .f fn cs, h1 => by simp only [ren]; rw [renL_low sel n h cs h1]
  | .a cs, h1 => by simp only [ren]; rw [renL_low sel n h cs h1]
  | .t cs, h1 => by simp only [ren]; rw [renL_low sel n h cs h1]
  | .i _ _, _ => rfl
  | .b _, _ => rfl
  | .s _, _ => rfl
  | .c _, _ => rfl
  | .n _ _ _, _ => rfl
  | .l _ _ _, _ => rfl
  | .q _, _ => rfl
  | .u, _ => rfl
theorem renL_low (sel : List Nat) (n : Nat) (h : ∀ i, i < n → sel[i]? = some i) : ∀ ys, idBL n ys = true → renL sel ys = ys
  | [], _ => rfl
  | y :: ys, h1 => by
    simp only [idBL, Bool.and_eq_true] at h1
    simp only [renL]; rw [ren_low sel n h y h1.1, renL_low sel n h ys h1.2]
end
mutual
theorem idB_mono {n m : Nat} (h : n ≤ m) : ∀ y, idB n y = true → idB m y = true
  | .p id ver off, h1 => by simp only [idB, Nat.blt_eq] at h1 ⊢; omega
  | .o id ver off len, h1 => by simp only [idB, Nat.blt_eq] at h1 ⊢; omega
  | .f fn cs, h1 => idBL_mono h cs h1
  | .a cs, h1 => idBL_mono h cs h1
  | .t cs, h1 => idBL_mono h cs h1
  | .i _ _, _ => rfl
  | .b _, _ => rfl
  | .s _, _ => rfl
  | .c _, _ => rfl
  | .n _ _ _, _ => rfl
  | .l _ _ _, _ => rfl
  | .q _, _ => rfl
  | .u, _ => rfl
theorem idBL_mono {n m : Nat} (h : n ≤ m) : ∀ ys, idBL n ys = true → idBL m ys = true
  | [], _ => rfl
  | y :: ys, h1 => by
    simp only [idBL, Bool.and_eq_true] at h1 ⊢
    exact ⟨idB_mono h y h1.1, idBL_mono h ys h1.2⟩
end
/-! ### Calls that are handed chosen objects, and hand them back -/
def putS {α : Type} : List Nat → List α → List α → List α
  | [], xs, new => xs ++ new
  | i :: sel, xs, x :: new => putS sel (xs.set i x) new
  | _ :: _, xs, [] => xs
/-- The numbers behind such a call. -/
def numS (sel : List Nat) (n j : Nat) : Nat := if j < sel.length then sel.getD j 0 else n + (j - sel.length)
/-- The renaming behind such a call, as a list. -/
def backS (sel : List Nat) (n k : Nat) : List Nat := (List.range k).map (numS sel n)
end
end Go.Proofs.YtaogaegchagbfaaDoor.Vc

/- The calculus: a call that is handed chosen objects, and hands them back. -/
namespace Go.Proofs.YtaogaegchagbfaaDoor.Vc
open Go Go.RowKit
def renO (σ : List Nat) (G : List Ob) : List Ob := G.map fun o => { o with cs := renL σ o.cs }
mutual
theorem Rel.ren {w : World} {L : Nat → Prop} {B : Nat} {ρ ρ2 : List Re} {σ : List Nat} (h : ∀ (i : Nat) (re : Re), ρ[i]? = some re → ρ2[σ.getD i 0]? = some re) : ∀ (y : V) (v : Value), Rel w L B ρ y v → Rel w L B ρ2 (Vc.ren σ y) v
  | .i _ _, _, h1 => h1
  | .b _, _, h1 => h1
  | .s _, _, h1 => h1
  | .c _, _, h1 => h1
  | .n _ _ _, _, h1 => h1
  | .l _ _ _, _, h1 => h1
  | .q _, _, h1 => h1
  | .u, _, _ => trivial
  | .p id ver off, v, ⟨re, h1, h2⟩ => ⟨re, h id re h1, h2⟩
  | .o id ver off len, v, ⟨re, h1, h2⟩ => ⟨re, h id re h1, h2⟩
  | .f fn cs, v, ⟨us, e, h1⟩ => ⟨us, e, RelL.ren h cs us h1⟩
  | .a cs, v, ⟨us, e, h1⟩ => ⟨us, e, RelL.ren h cs us h1⟩
  | .t cs, v, ⟨us, e, h1⟩ => ⟨us, e, RelL.ren h cs us h1⟩
theorem RelL.ren {w : World} {L : Nat → Prop} {B : Nat} {ρ ρ2 : List Re} {σ : List Nat} (h : ∀ (i : Nat) (re : Re), ρ[i]? = some re → ρ2[σ.getD i 0]? = some re) : ∀ (ys : List V) (us : List Value), RelL w L B ρ ys us → RelL w L B ρ2 (Vc.renL σ ys) us
  | [], _, h1 => h1
  | y :: ys, us, ⟨u, us', e, h1, h2⟩ => ⟨u, us', e, Rel.ren h y u h1, RelL.ren h ys us' h2⟩
end
section
variable {P : Program} {Γ : Ctx} {F : Fr} {H : List Ob} {Q : Exit → Fr → List Ob → Prop}
end
end Go.Proofs.YtaogaegchagbfaaDoor.Vc

/- The calculus: append of one number to a slice of an own row, whether it has room or not; a row's bytes as a text. -/
namespace Go.Proofs.YtaogaegchagbfaaDoor.Vc
open Go Go.RowKit
section
variable {P : Program} {Γ : Ctx} {F : Fr} {H : List Ob} {Q : Exit → Fr → List Ob → Prop}
end
end Go.Proofs.YtaogaegchagbfaaDoor.Vc

/- The calculus: a row's bytes as a text. -/
namespace Go.Proofs.YtaogaegchagbfaaDoor.Vc
open Go Go.RowKit
section
variable {P : Program} {Γ : Ctx} {F : Fr} {H : List Ob} {Q : Exit → Fr → List Ob → Prop}
end
end Go.Proofs.YtaogaegchagbfaaDoor.Vc

/- The calculus: functions that share a map: what all its entries are; calls that may add to it. -/
namespace Go.Proofs.YtaogaegchagbfaaDoor.Vc
open Go Go.RowKit
/-- A map of whole numbers: what stands at n is c n. -/
def GoodM (M : Nat → Prop) (c : Nat → V) (g : Nat) (w : World) : Prop :=
  ∃ es ck, w.heap[g]? = some (.map es ck) ∧ ∀ e ∈ es.toList, ∃ n : Nat, e.key = .int .i64 (n : Int) ∧ Rel w M 0 [] (c n) e.val
theorem GoodM.ev {M : Nat → Prop} {c : Nat → V} {g : Nat} {w w' : World} (h : GoodM M c g w) (hg : w'.heap[g]? = w.heap[g]?) (hs : w.heap.size ≤ w'.heap.size) (hb : ∀ b, b < w.heap.size → ¬ M b → w'.heap[b]? = w.heap[b]?) : GoodM M c g w' := by
  obtain ⟨es, ck, h1, h2⟩ := h
  refine ⟨es, ck, hg.trans h1, fun e he => ?_⟩
  obtain ⟨n, h3, h4⟩ := h2 e he
  exact ⟨n, h3, h4.ev ⟨hs, hb, fun _ _ h => h, Nat.le_refl _, fun i r h => by simp at h⟩⟩
structure CtxM (Γ : Ctx) (g : Nat) : Prop where
  m : Γ.M g
  l0 : ∀ b, Γ.L0 b ↔ b = g
  lt : g < Γ.w0.heap.size
  rho : Γ.ρ0 = []
/-- A contract of a function that knows the map. -/
def SpecX (P : Program) (f : FuncId) (args : List V) (c : Nat → V) (g : Nat) (post : Out → Prop) : Prop :=
  ∀ (M : Nat → Prop) (w : World) (vals : List Value), (∀ b, M b → b < w.heap.size) → M g → GoodM M c g w → RelL w M w.heap.size [] args vals →
    Calls P f vals.toArray w fun e w' => ∃ o, post o ∧ EndRel w' M w.heap.size o e ∧ GoodM M c g w' ∧ w'.os = w.os ∧ w'.tape = w.tape ∧ w'.output = w.output ∧ w.heap.size ≤ w'.heap.size ∧ ∀ b, b < w.heap.size → b ≠ g → w'.heap[b]? = w.heap[b]?
theorem SpecX.mono {P : Program} {f : FuncId} {args : List V} {c : Nat → V} {g : Nat} {post post' : Out → Prop} (h : SpecX P f args c g post) (hp : ∀ o, post o → post' o) : SpecX P f args c g post' :=
  fun M w vals h1 h2 h3 h4 => (h M w vals h1 h2 h3 h4).mono fun e w' ⟨o, k1, k2⟩ => ⟨o, hp o k1, k2⟩
section
variable {P : Program} {Γ : Ctx} {c : Nat → V} {g : Nat} {F : Fr} {𝒬 : Exit → Act → World → Prop}
def JCM (P : Program) (x : Code) (Γ : Ctx) (c : Nat → V) (g : Nat) (F : Fr) (𝒬 : Exit → Act → World → Prop) : Prop := ∀ a w, StA Γ [] F [] a w → GoodM Γ.M c g w → x.wp P 𝒬 a w
def JOM (P : Program) (ops : Array Oper) (l : List Oper) (Γ : Ctx) (c : Nat → V) (g : Nat) (F : Fr) (𝒬 : Exit → Act → World → Prop) : Prop := ∀ a w, StA Γ [] F [] a w → GoodM Γ.M c g w → wpList P ops 𝒬 l a w
def JAM (P : Program) (ops : Array Oper) (fuel : Nat) (listed : Array Bool) (Γ : Ctx) (c : Nat → V) (g : Nat) (F : Fr) (𝒬 : Exit → Act → World → Prop) : Prop := ∀ a w, StA Γ [] F [] a w → GoodM Γ.M c g w → wpAnyX P ops 𝒬 fuel listed a w
/-! ### Regions that draw -/
/-! ### The contract from its body; the map begun -/
def qRetX (P : Program) (fn : Func) (Γ : Ctx) (c : Nat → V) (g : Nat) (post : Out → Prop) : Exit → Act → World → Prop
  | .ret, a, w | .normal, a, w => ∃ F ys, StA Γ [] F [] a w ∧ GoodM Γ.M c g w ∧ ResL P F [] fn.results.toList ys ∧ post (.ret (packV ys))
  | _, _, _ => False
/-! ### Looking up, entering -/
end
end Go.Proofs.YtaogaegchagbfaaDoor.Vc

/- The calculus: from functions that share a map into code that does not know it, and back; contracts made weaker. -/
namespace Go.Proofs.YtaogaegchagbfaaDoor.Vc
open Go Go.RowKit
section
variable {P : Program} {Γ : Ctx} {c : Nat → V} {g : Nat} {F : Fr} {H : List Ob} {𝒬 : Exit → Act → World → Prop}
/-- As 'JC', whatever is asked behind the code. -/
def JCP (P : Program) (x : Code) (Γ : Ctx) (F : Fr) (H : List Ob) (𝒬 : Exit → Act → World → Prop) : Prop := ∀ a w, St Γ F H a w → x.wp P 𝒬 a w
def QS (Γ : Ctx) (𝒬 : Exit → Act → World → Prop) : Exit → Fr → List Ob → Prop := fun e F' H' => ∀ a w, St Γ F' H' a w → 𝒬 e a w
end
theorem Spec.weak {P : Program} {f : FuncId} {args : List V} {post post' : Out → Prop} (h : Spec P f args post) (hw : ∀ o, post o → ∃ o', post' o' ∧ ∀ (w : World) (M : Nat → Prop) (B : Nat) (e : Ending), EndRel w M B o e → EndRel w M B o' e) : Spec P f args post' := fun M w vals h1 h2 =>
  (h M w vals h1 h2).mono fun e w' ⟨o, k1, k2, k3⟩ => by
    obtain ⟨o', q1, q2⟩ := hw o k1
    exact ⟨o', q1, q2 _ _ _ _ k2, k3⟩
theorem end_nn {w : World} {M : Nat → Prop} {B : Nat} {e : Ending} {fr : Bool} {k : IntKind} {l : List Int} (h : EndRel w M B (.ret (.n fr k l)) e) : EndRel w M B (.ret (.n false k l)) e := by
  obtain ⟨v, h1, A, c, e, h3, h4, h5⟩ := h
  exact ⟨v, h1, A, c, e, h3, h4, fun hl => by obtain ⟨ad, e1, hb, hc⟩ := h5 hl; exact ⟨ad, e1, ⟨hb.1, hb.2.1, by simp⟩, hc⟩⟩
theorem Spec.nn {P : Program} {f : FuncId} {args : List V} {fr : Bool} {k : IntKind} {l : List Int} (h : Spec P f args (fun o => o = .ret (.n fr k l))) : Spec P f args (fun o => o = .ret (.n false k l)) :=
  h.weak fun o ho => by subst ho; exact ⟨_, rfl, fun _ _ _ _ h => end_nn h⟩
end Go.Proofs.YtaogaegchagbfaaDoor.Vc

/- The calculus: functions that share a map and hand own rows back. -/
namespace Go.Proofs.YtaogaegchagbfaaDoor.Vc
open Go Go.RowKit
section
variable {P : Program} {Γ : Ctx} {c : Nat → V} {g : Nat} {F : Fr} {H : List Ob} {𝒬 : Exit → Act → World → Prop}
/-- A contract of a function that knows the map and hands own rows back. -/
def SpecXN (P : Program) (f : FuncId) (args : List V) (c : Nat → V) (g : Nat) (post : Out → List Ob → Prop) : Prop :=
  ∀ (M : Nat → Prop) (w : World) (vals : List Value), (∀ b, M b → b < w.heap.size) → M g → GoodM M c g w → RelL w M w.heap.size [] args vals →
    Calls P f vals.toArray w fun e w' => ∃ o H' ρ', post o H' ∧ EndRelM w' (Lset M ρ' H') w.heap.size ρ' o e ∧ HR M w' w.heap.size ρ' H' ∧ w'.os = w.os ∧ w'.tape = w.tape ∧ w'.output = w.output ∧ w.heap.size ≤ w'.heap.size ∧
      (∀ (id : Nat) (ob : Ob) (re : Re) (gg : Nat), H'[id]? = some ob → ob.live = true → ρ'[id]? = some re → re.g = some gg → w.heap.size ≤ gg) ∧ (∀ b, b < w.heap.size → b ≠ g → w'.heap[b]? = w.heap[b]?)
def qRetXN (P : Program) (fn : Func) (Γ : Ctx) (post : Out → List Ob → Prop) : Exit → Act → World → Prop
  | .ret, a, w => ∃ F H ρ sel ys y, StA Γ ρ F H a w ∧ ResL P F H fn.results.toList ys ∧ ren sel y = packV ys ∧ idB sel.length y = true ∧ sel.Nodup ∧ idless (selL noOb sel H) ∧ post (.ret y) (selL noOb sel H)
  | _, _, _ => False
/-! ### An own row made shorter -/
end
end Go.Proofs.YtaogaegchagbfaaDoor.Vc

/- The calculus: rows of rows frozen within a region. -/
namespace Go.Proofs.YtaogaegchagbfaaDoor.Vc
open Go Go.RowKit
section
variable {P : Program} {Γ : Ctx} {F : Fr} {H : List Ob} {Q : Exit → Fr → List Ob → Prop}
end
/-- Rows of limbs as cells. -/
def rowsV (rows : List (List Int)) : List (List V) := rows.map fun l => [V.n false .u64 l]
end Go.Proofs.YtaogaegchagbfaaDoor.Vc

/- The calculus: a table that lies at a package's variable. -/
namespace Go.Proofs.YtaogaegchagbfaaDoor.Vc
open Go Go.RowKit
/-- The variable's cells are these, and nobody writes them. -/
def TabR (g : Nat) (cells : List V) (w : World) (M : Nat → Prop) : Prop := Rel w M w.heap.size [] (.q cells) (.pointer (some ⟨g, 0, none⟩))
/-- A contract of a function that reads the table. -/
def SpecT (P : Program) (f : FuncId) (g : Nat) (cells : List V) (args : List V) (post : Out → Prop) : Prop :=
  ∀ (M : Nat → Prop) (w : World) (vals : List Value), (∀ b, M b → b < w.heap.size) → TabR g cells w M → RelL w M w.heap.size [] args vals →
    Calls P f vals.toArray w fun e w' => ∃ o, post o ∧ EndRel w' M w.heap.size o e ∧ Below w.heap.size w w'
theorem SpecT.mono {P : Program} {g : Nat} {cells : List V} {f : FuncId} {args : List V} {post post' : Out → Prop} (h : SpecT P f g cells args post) (hp : ∀ o, post o → post' o) : SpecT P f g cells args post' :=
  fun M w vals hM hT hr => (h M w vals hM hT hr).mono fun e w' ⟨o, h1, h2, h3⟩ => ⟨o, hp o h1, h2, h3⟩
theorem specT_of_spec {P : Program} {g : Nat} {cells : List V} {f : FuncId} {args : List V} {post : Out → Prop} (h : Spec P f args post) : SpecT P f g cells args post := fun M w vals hM _ hr => h M w vals hM hr
section
variable {P : Program} {Γ : Ctx} {F : Fr} {H : List Ob} {Q : Exit → Fr → List Ob → Prop} {g : Nat} {cells : List V}
theorem tab_now {ρ : List Re} {a : Act} {w : World} (hL : ∀ b, ¬ Γ.L0 b) (hT : TabR g cells Γ.w0 Γ.M) (s : StA Γ ρ F H a w) : Rel w (Lset Γ.M ρ H) Γ.w0.heap.size ρ (.q cells) (.pointer (some ⟨g, 0, none⟩)) := by
  refine Rel.ev (w := Γ.w0) (L := Γ.M) (B := Γ.w0.heap.size) (ρ := []) ⟨s.fro.size, fun b hb _ => s.fro.blk b hb (hL b), fun b hb hn h => hn ?_, Nat.le_refl _, fun id re e => by simp at e⟩ _ _ hT
  rcases h with h | ⟨i, o, r, h1, h2, h3, h4⟩
  · exact h
  · rcases s.fro.mine i o r b h1 h2 h3 h4 with h5 | h5
    · omega
    · exact absurd h5 (hL b)
theorem specT_of {f : FuncId} {fn : Func} {c : Code} {args : List V} {post : Out → Prop} (F0 : Fr) (h0 : ((args.zipIdx 0).map fun p => (p.2, p.1)) = F0) (hf : P.funcs[f]? = some fn) (hb : fn.body = some c) (hn : args.length ≤ fn.ntmps)
    (h : ∀ Γ : Ctx, TabR g cells Γ.w0 Γ.M → Γ.N = fn.ntmps → Γ.ds = [] → (∀ b, ¬ Γ.L0 b) → Γ.ρ0 = [] → JC P c Γ F0 [] (qRet P fn post)) : SpecT P f g cells args post := fun M w vals hM hT hr =>
  spec_at hf hb hn M w vals hM hr fun Γ e1 e2 h1 h2 h3 h4 => h0 ▸ h Γ (by rw [e1, e2]; exact hT) h1 h2 h3 h4
theorem wp_callT {f : FuncId} {fn : Func} {dst : Option Tmp} {T : TypeId} {ps : String} {af : Array Edge} {gd : Option (Nat × Bool)} {c : Operand} {args : Array Operand} {ts : Array TypeId} {ys zs : List V} {post : Out → Prop}
    (hL : ∀ b, ¬ Γ.L0 b) (hT : TabR g cells Γ.w0 Γ.M) (hc : ovO F c = some (.f f [])) (hf : P.funcs[f]? = some fn) (hb : fn.body.isSome = true) (hn : (fn.name == "runtime.NumGoroutine") = false) (hx : ovL F args.toList ys) (ha : ArgL ys zs) (hs : SpecT P f g cells zs post) {ρ : List Re} {a : Act} {w : World} (s : StA Γ ρ F H a w) {K : Act → World → Prop} {R : Exit → Act → World → Prop}
    (k : ∀ y v w', post (.ret y) → Rel w' (Lset Γ.M ρ H) Γ.w0.heap.size ρ y v → Below w.heap.size w w' → StA Γ ρ F H a w' → K (a.put dst v) w')
    (kp : ∀ ch w', post (.pan ch) → Below w.heap.size w w' → StA Γ ρ F H a w' → R (.panic ch) a w') :
    (⟨dst, .call { callee := .value c, args := args, argTypes := ts }, T, ps, af, gd⟩ : Oper).wp P a w K R :=
  wp_callW hc hf hb hn hx ha s (fun vals h => hs (Lset Γ.M ρ H) w vals (fun b h => Lset_lt s h) (ArgV.q.rel (tab_now hL hT s)) h) k kp
theorem jo_callT {f : FuncId} (fn : Func) {ops : Array Oper} {rest : List Oper} {d : Nat} {T : TypeId} {ps : String} {af : Array Edge} {args : Array Operand} {ts : Array TypeId} {c : Operand} {ys zs : List V} {post : Out → Prop}
    (hs : SpecT P f g cells zs post) (hL : ∀ b, ¬ Γ.L0 b) (hT : TabR g cells Γ.w0 Γ.M) (hc : ovO F c = some (.f f [])) (hf : P.funcs[f]? = some fn) (hb : fn.body.isSome = true) (hn : (fn.name == "runtime.NumGoroutine") = false) (hx : ovL F args.toList ys) (ha : ArgL ys zs) (hd : d < Γ.N)
    (k : ∀ y, post (.ret y) → JO P ops rest Γ ((d, y) :: F) H Q) (kp : ∀ ch, post (.pan ch) → Q (.panic ch) F H) :
    JO P ops (⟨some d, .call { callee := .value c, args := args, argTypes := ts }, T, ps, af, none⟩ :: rest) Γ F H Q := fun a w ⟨ρ, s⟩ =>
  wpList_plain rfl fun K hK => wp_callT hL hT hc hf hb hn hx ha hs s (fun y v w' h1 h2 _ h4 => hK _ _ (k y h1 _ _ ⟨ρ, h4.put hd h2⟩)) (fun ch w' h1 _ h3 => ⟨F, H, kp ch h1, ρ, h3⟩)
theorem jo_callgT {f : FuncId} (fn : Func) {ops : Array Oper} {rest : List Oper} {d : Nat} {T : TypeId} {ps : String} {af : Array Edge} {args : Array Operand} {ts : Array TypeId} {c : Operand} {ys zs : List V} {post : Out → Prop} {j0 : Nat} {b0 : Bool} (t0 : Nat) (ht : (ops[j0]?).bind (·.dst) = some t0) (hb0 : getO F t0 = some (.b b0))
    (hs : SpecT P f g cells zs post) (hL : ∀ b, ¬ Γ.L0 b) (hT : TabR g cells Γ.w0 Γ.M) (hc : ovO F c = some (.f f [])) (hf : P.funcs[f]? = some fn) (hb : fn.body.isSome = true) (hn : (fn.name == "runtime.NumGoroutine") = false) (hx : ovL F args.toList ys) (ha : ArgL ys zs) (hd : d < Γ.N)
    (k : ∀ y, post (.ret y) → JO P ops rest Γ ((d, y) :: F) H Q) (kp : ∀ ch, post (.pan ch) → Q (.panic ch) F H) :
    JO P ops (⟨some d, .call { callee := .value c, args := args, argTypes := ts }, T, ps, af, some (j0, b0)⟩ :: rest) Γ F H Q := fun a w ⟨ρ, s⟩ =>
  wpList_step fun K hK => by
    rw [if_pos (wanted_yes rfl (yielded_of s ht hb0))]
    exact wp_callT hL hT hc hf hb hn hx ha hs s (fun y v w' h1 h2 _ h4 => hK _ _ (k y h1 _ _ ⟨ρ, h4.put hd h2⟩)) (fun ch w' h1 _ h3 => ⟨F, H, kp ch h1, ρ, h3⟩)
/-- The address of a place of the table. -/
theorem ly_iatab {T E l sz : Nat} {ix : Operand} {zs : List V} {k : IntKind} {n : Int} {i : Nat} (hL : ∀ b, ¬ Γ.L0 b) (hT : TabR g cells Γ.w0 Γ.M) (hA : arB P T E l sz = true) (hi : ovO F ix = some (.i k n)) (hn : n = (i : Int))
    (h1 : i < l) (hz : cells.drop (i * sz) = zs) : LY P Γ (.indexAddr T (.global g) ix) F H (.q zs) := fun ρ a w s => by
  obtain ⟨ad, hv, hb, hc⟩ := tab_now hL hT s
  refine ⟨.pointer (some (ad.add (i * sz))), ⟨ad.add (i * sz), rfl, by rw [block_add]; exact hb, ?_⟩, fun _ _ _ _ _ w' _ => ?_⟩
  · rw [relC_drop, ← hz]; have := relC_of_drop (i * sz) cells 0 hc; rwa [Nat.zero_add] at this
  · have hv' : a.eval (.global g) = .pointer (some ad) := hv
    have e : (Instr.indexAt T (a.eval (.global g)) (a.eval ix)).run P w' = .ok (.pointer (some (ad.add (i * sz)))) w' := by
      rw [hv', eval_i s hi, hn]
      simp [Instr.indexAt, run_underlying (arB_und hA), asIntOf, run_sizeOf' (arB_size hA), Instr.sureAddr, h1]
    exact run_v e
end
end Go.Proofs.YtaogaegchagbfaaDoor.Vc

/- The calculus: from a contract over a table to what a row asks. -/
namespace Go.Proofs.YtaogaegchagbfaaDoor.Vc
open Go Go.RowKit
theorem specT_calls {P : Program} {f : FuncId} {g : Nat} {cells : List V} {zs : List V} {vals : List Value} {w : World} (hT : TabR g cells w (fun _ => False)) (h : SpecT P f g cells zs (fun o => o = .ret (.b true))) (_ : World) (hr : RelL w (fun _ => False) w.heap.size [] zs vals) :
    Calls P f vals.toArray w fun e w' => e = .returned (.bool true) ∧ Below w.heap.size w w' :=
  (h (fun _ => False) w vals (fun _ h => h.elim) hT hr).mono fun e w' ⟨o, h1, h2, h3⟩ => by
    subst h1
    obtain ⟨v, rfl, hv⟩ := h2
    exact ⟨by rw [show v = .bool true from hv], h3⟩
theorem tabR_of {w : World} {g : Nat} {k : IntKind} {zs : List Int} (h0 : 0 < zs.length) (h : ∀ i, i < zs.length → w.cell? ⟨g, i, none⟩ = some (.int k (zs.getD i 0))) : TabR g (ints k zs) w (fun _ => False) := by
  refine ⟨⟨g, 0, none⟩, rfl, ⟨?_, fun h => h, by simp⟩, ?_⟩
  · have h1 := h 0 h0
    rcases Nat.lt_or_ge g w.heap.size with h2 | h2
    · exact h2
    · unfold World.cell? at h1
      have h3 : w.heap[g]? = none := Array.getElem?_eq_none h2
      simp [h3] at h1
  · refine relC_of _ 0 fun j y hj => ?_
    rw [ints_at] at hj
    obtain ⟨z, hz, rfl⟩ := Option.map_eq_some_iff.1 hj
    have hl := (List.getElem?_eq_some_iff.1 hz).1
    refine ⟨.int k z, ?_, rfl⟩
    rw [addr_add_plain]
    have h4 := h j hl
    rw [List.getD_eq_getElem?_getD, hz] at h4
    simpa using h4
end Go.Proofs.YtaogaegchagbfaaDoor.Vc

/- What the functions over limbs compute, in plain Lean. -/
namespace Go.Proofs.YtaogaegchagbfaaDoor.Vc
open Go Go.RowKit

/-- How many of the first k limbs stay, without noughts at the top. -/
def tN (l : List Int) : Nat → Nat
  | 0 => 0
  | k + 1 => if l.getD k 0 = 0 then tN l k else k + 1
def trm (l : List Int) : List Int := l.take (tN l l.length)
theorem tN_le (l : List Int) : ∀ k, tN l k ≤ k
  | 0 => Nat.le_refl _
  | k + 1 => by simp only [tN]; split <;> have := tN_le l k <;> omega
theorem tN_down {l : List Int} {k : Nat} (h0 : 0 < k) (h : l.getD (k - 1) 0 = 0) : tN l (k - 1) = tN l k := by
  obtain ⟨j, rfl⟩ : ∃ j, k = j + 1 := ⟨k - 1, by omega⟩
  simp only [Nat.add_sub_cancel] at h ⊢
  simp only [tN]
  rw [if_pos h]
theorem tN_stop {l : List Int} {k : Nat} (h0 : 0 < k) (h : ¬ l.getD (k - 1) 0 = 0) : tN l k = k := by
  obtain ⟨j, rfl⟩ : ∃ j, k = j + 1 := ⟨k - 1, by omega⟩
  simp only [Nat.add_sub_cancel] at h
  simp only [tN]
  rw [if_neg h]
theorem tN_0 {l : List Int} {k : Nat} (h : ¬ 0 < k) : tN l k = k := by
  have : k = 0 := by omega
  subst this; rfl
theorem trm_len (l : List Int) : (trm l).length ≤ l.length := by unfold trm; rw [List.length_take]; omega
theorem getD_take {l : List Int} {k i : Nat} (h : i < k) : (l.take k).getD i 0 = l.getD i 0 := by
  rw [List.getD_eq_getElem?_getD, List.getD_eq_getElem?_getD, List.getElem?_take, if_pos h]
def u64s (l : List Int) : Prop := ∀ x ∈ l, 0 ≤ x ∧ x < 18446744073709551616
theorem u64s_trm {l : List Int} (h : u64s l) : u64s (trm l) := fun x hx => h x (List.mem_of_mem_take hx)
theorem u64s_at {l : List Int} (h : u64s l) {i : Nat} (hi : i < l.length) : 0 ≤ l.getD i 0 ∧ l.getD i 0 < 18446744073709551616 := by
  rw [List.getD_eq_getElem?_getD, List.getElem?_eq_getElem hi]; exact h _ (List.getElem_mem hi)
theorem u64s_getD {l : List Int} (h : u64s l) (i : Nat) : 0 ≤ l.getD i 0 ∧ l.getD i 0 < 18446744073709551616 := by
  by_cases hi : i < l.length
  · exact u64s_at h hi
  · rw [List.getD_eq_getElem?_getD, List.getElem?_eq_none (by omega)]; exact ⟨by decide, by decide⟩
/-- How many binary digits, with fuel. -/
def bl : Nat → Nat → Nat
  | 0, _ => 0
  | f + 1, n => if n = 0 then 0 else 1 + bl f (n / 2)
theorem bl_le : ∀ f n, bl f n ≤ f
  | 0, _ => Nat.le_refl _
  | f + 1, n => by simp only [bl]; split <;> have := bl_le f (n / 2) <;> omega
theorem bl_fuel : ∀ (f d n : Nat), n < 2 ^ f → bl (f + d) n = bl f n
  | 0, d, n, h => by
    have : n = 0 := by simpa using h
    subst this
    cases d <;> simp [bl]
  | f + 1, d, n, h => by
    rw [show f + 1 + d = (f + d) + 1 by omega]
    simp only [bl]
    split
    · rfl
    · rw [bl_fuel f d (n / 2) (by rw [Nat.pow_succ] at h; omega)]
theorem bl_shift : ∀ (k f n : Nat), 2 ^ k ≤ n → bl (k + f) n = k + bl f (n / 2 ^ k)
  | 0, f, n, _ => by simp
  | k + 1, f, n, h => by
    have h2 : 2 ^ (k + 1) = 2 ^ k * 2 := Nat.pow_succ ..
    have hp : 0 < 2 ^ k := Nat.two_pow_pos k
    rw [show k + 1 + f = (k + f) + 1 by omega]
    simp only [bl]
    rw [if_neg (by omega), bl_shift k f (n / 2) (by omega), h2, Nat.mul_comm, ← Nat.div_div_eq_div_mul]
    omega
theorem bl64_shift {k n : Nat} (hk : k ≤ 64) (h : 2 ^ k ≤ n) (hn : n < 2 ^ 64) : bl 64 n = k + bl 64 (n / 2 ^ k) := by
  have h1 := bl_shift k (64 - k) n h
  rw [show k + (64 - k) = 64 by omega] at h1
  rw [h1]
  have h2 : n / 2 ^ k < 2 ^ (64 - k) := by
    rw [Nat.div_lt_iff_lt_mul (Nat.two_pow_pos k), ← Nat.pow_add, show 64 - k + k = 64 by omega]; exact hn
  have h3 := bl_fuel (64 - k) k _ h2
  rw [show 64 - k + k = 64 by omega] at h3
  rw [h3]
def lenTab : ByteArray := ⟨((List.range 256).map fun i => (bl 8 i).toUInt8).toArray⟩
theorem lenTab_at {i : Nat} (h : i < 256) : byteAt lenTab i = (bl 64 i : Int) := by
  have key : ∀ j : Fin 256, byteAt lenTab j.val = (bl 64 j.val : Int) := by decide +kernel
  exact key ⟨i, h⟩
theorem shr_nat {n k b : Nat} {kk : Int} (h : 2 ^ min kk.toNat b = k) : ((n : Int)).fdiv (2 ^ min kk.toNat b) = ((n / k : Nat) : Int) := by
  have : ((2 : Int) ^ min kk.toNat b) = ((k : Nat) : Int) := by rw [← h]; norm_cast
  rw [this]
  exact (Int.ofNat_fdiv n k).symm
/-- How many binary digits a number has. -/
def lenN (l : List Int) : Nat := if (trm l).length = 0 then 0 else 64 * ((trm l).length - 1) + bl 64 ((trm l).getD ((trm l).length - 1) 0).toNat
theorem lenN_le (l : List Int) : lenN l ≤ 64 * l.length := by
  unfold lenN
  have h1 := trm_len l
  split
  · omega
  · have := bl_le 64 ((trm l).getD ((trm l).length - 1) 0).toNat
    omega
/-- Which is greater, of the first k limbs. -/
def cmpN (a b : List Int) : Nat → Int
  | 0 => 0
  | k + 1 => if a.getD k 0 < b.getD k 0 then -1 else if b.getD k 0 < a.getD k 0 then 1 else cmpN a b k
def cmpL (a b : List Int) : Int := if a.length < b.length then -1 else if b.length < a.length then 1 else cmpN a b a.length
/-- Sums with a carry: the first i limbs. -/
def adN (a b : List Int) : Nat → List Int × Int
  | 0 => ([], 0)
  | i + 1 => ((adN a b i).1 ++ [(a.getD i 0 + b.getD i 0 + (adN a b i).2) % 18446744073709551616], (a.getD i 0 + b.getD i 0 + (adN a b i).2) / 18446744073709551616)
theorem adN_len (a b : List Int) : ∀ i, (adN a b i).1.length = i
  | 0 => rfl
  | i + 1 => by simp only [adN, List.length_append, adN_len a b i]; rfl
theorem adN_c {a b : List Int} (ha : u64s a) (hb : u64s b) : ∀ i, 0 ≤ (adN a b i).2 ∧ (adN a b i).2 ≤ 1
  | 0 => ⟨Int.le_refl 0, (by decide : (0 : Int) ≤ 1)⟩
  | i + 1 => by
    have h1 := u64s_getD ha i
    have h2 := u64s_getD hb i
    have h3 := adN_c ha hb i
    simp only [adN]
    omega
theorem adN_u {a b : List Int} : ∀ i, u64s (adN a b i).1
  | 0 => by intro x hx; cases hx
  | i + 1 => by
    intro x hx
    simp only [adN, List.mem_append, List.mem_singleton] at hx
    rcases hx with hx | hx
    · exact adN_u i x hx
    · subst hx; omega
/-- Differences with a borrow: the first i limbs. -/
def sbN (a b : List Int) : Nat → List Int × Int
  | 0 => ([], 0)
  | i + 1 => ((sbN a b i).1 ++ [if a.getD i 0 < b.getD i 0 + (sbN a b i).2 then a.getD i 0 - b.getD i 0 - (sbN a b i).2 + 18446744073709551616 else a.getD i 0 - b.getD i 0 - (sbN a b i).2], if a.getD i 0 < b.getD i 0 + (sbN a b i).2 then 1 else 0)
theorem sbN_len (a b : List Int) : ∀ i, (sbN a b i).1.length = i
  | 0 => rfl
  | i + 1 => by simp only [sbN, List.length_append, sbN_len a b i]; rfl
theorem sbN_c (a b : List Int) : ∀ i, 0 ≤ (sbN a b i).2 ∧ (sbN a b i).2 ≤ 1
  | 0 => ⟨Int.le_refl 0, (by decide : (0 : Int) ≤ 1)⟩
  | i + 1 => by simp only [sbN]; split <;> decide
theorem sbN_u {a b : List Int} (ha : u64s a) (hb : u64s b) : ∀ i, u64s (sbN a b i).1
  | 0 => by intro x hx; cases hx
  | i + 1 => by
    have h1 := u64s_getD ha i
    have h2 := u64s_getD hb i
    have h3 := sbN_c a b i
    intro x hx
    simp only [sbN, List.mem_append, List.mem_singleton] at hx
    rcases hx with hx | hx
    · exact sbN_u ha hb i x hx
    · subst hx; split <;> omega
/-- What is filled so far, noughts behind. -/
def fillI (l : List Int) (n : Nat) : List Int := l ++ List.replicate (n - l.length) 0
theorem fillI_len {l : List Int} {n : Nat} (h : l.length ≤ n) : (fillI l n).length = n := by unfold fillI; rw [List.length_append, List.length_replicate]; omega
theorem fillI_set {l : List Int} {n : Nat} {v : Int} (h : l.length < n) : (fillI l n).set l.length v = fillI (l ++ [v]) n := by
  unfold fillI
  obtain ⟨m, hm⟩ : ∃ m, n - l.length = m + 1 := ⟨n - l.length - 1, by omega⟩
  rw [hm, List.replicate_succ, List.set_append_right _ _ (Nat.le_refl _), Nat.sub_self, List.set_cons_zero, List.length_append, List.length_singleton, show n - (l.length + 1) = m by omega]
  simp
theorem fillI_full {l : List Int} {n : Nat} (h : l.length = n) : fillI l n = l := by unfold fillI; rw [h, Nat.sub_self]; simp
theorem getD_ge {l : List Int} {i : Nat} (h : l.length ≤ i) : l.getD i 0 = 0 := by rw [List.getD_eq_getElem?_getD, List.getElem?_eq_none h]; rfl
theorem cmpN_lt {a b : List Int} {k : Nat} (h0 : 0 < k) (h : a.getD (k - 1) 0 < b.getD (k - 1) 0) : cmpN a b k = -1 := by
  obtain ⟨j, rfl⟩ : ∃ j, k = j + 1 := ⟨k - 1, by omega⟩
  simp only [Nat.add_sub_cancel] at h
  simp only [cmpN]; rw [if_pos h]
theorem cmpN_gt {a b : List Int} {k : Nat} (h0 : 0 < k) (h : b.getD (k - 1) 0 < a.getD (k - 1) 0) : cmpN a b k = 1 := by
  obtain ⟨j, rfl⟩ : ∃ j, k = j + 1 := ⟨k - 1, by omega⟩
  simp only [Nat.add_sub_cancel] at h
  simp only [cmpN]; rw [if_neg (by omega), if_pos h]
theorem cmpN_eq {a b : List Int} {k : Nat} (h0 : 0 < k) (h1 : ¬ a.getD (k - 1) 0 < b.getD (k - 1) 0) (h2 : ¬ b.getD (k - 1) 0 < a.getD (k - 1) 0) : cmpN a b (k - 1) = cmpN a b k := by
  obtain ⟨j, rfl⟩ : ∃ j, k = j + 1 := ⟨k - 1, by omega⟩
  simp only [Nat.add_sub_cancel] at h1 h2 ⊢
  simp only [cmpN]; rw [if_neg h1, if_neg h2]
theorem fill_ad {X Y : List Int} {i n : Nat} (h : i < n) : (fillI (adN X Y i).1 n).set ((0 + i) * 1) ((X.getD i 0 + Y.getD i 0 + (adN X Y i).2) % 18446744073709551616) = fillI (adN X Y (i + 1)).1 n := by
  rw [Nat.zero_add, Nat.mul_one]
  have := fillI_set (l := (adN X Y i).1) (n := n) (v := (X.getD i 0 + Y.getD i 0 + (adN X Y i).2) % 18446744073709551616) (by rw [adN_len]; exact h)
  rw [adN_len] at this
  exact this
theorem fill_sb {X Y : List Int} {i n : Nat} (h : i < n) : (fillI (sbN X Y i).1 n).set ((0 + i) * 1) (if X.getD i 0 < Y.getD i 0 + (sbN X Y i).2 then X.getD i 0 - Y.getD i 0 - (sbN X Y i).2 + 18446744073709551616 else X.getD i 0 - Y.getD i 0 - (sbN X Y i).2) = fillI (sbN X Y (i + 1)).1 n := by
  rw [Nat.zero_add, Nat.mul_one]
  have := fillI_set (l := (sbN X Y i).1) (n := n) (v := if X.getD i 0 < Y.getD i 0 + (sbN X Y i).2 then X.getD i 0 - Y.getD i 0 - (sbN X Y i).2 + 18446744073709551616 else X.getD i 0 - Y.getD i 0 - (sbN X Y i).2) (by rw [sbN_len]; exact h)
  rw [sbN_len] at this
  exact this
theorem fill_last {l : List Int} {n : Nat} {v : Int} (h : l.length = n) : (fillI l (n + 1)).set ((0 + n) * 1) v = l ++ [v] := by
  rw [Nat.zero_add, Nat.mul_one]
  subst h
  rw [fillI_set (by omega), fillI_full (by simp)]
/-- The longer one first. -/
def swL (a b : List Int) : List Int × List Int := if a.length < b.length then (b, a) else (a, b)
def sumL (a b : List Int) : List Int := (adN (swL (trm a) (trm b)).1 (swL (trm a) (trm b)).2 (swL (trm a) (trm b)).1.length).1 ++ [(adN (swL (trm a) (trm b)).1 (swL (trm a) (trm b)).2 (swL (trm a) (trm b)).1.length).2]
def difL (a b : List Int) : List Int := (sbN (trm a) (trm b) (trm a).length).1
theorem u64s_app1 {l : List Int} {v : Int} (h : u64s l) (h0 : 0 ≤ v) (h1 : v < 18446744073709551616) : u64s (l ++ [v]) := fun x hx => by
  rcases List.mem_append.1 hx with hx | hx
  · exact h x hx
  · rw [List.mem_singleton] at hx; subst hx; exact ⟨h0, h1⟩
/-- The document's digits of limbs: two of 32 bits each. -/
def dig (l : List Int) : List Int := l.flatMap fun v => [v % 4294967296, v / 4294967296]
theorem dig_len (l : List Int) : (dig l).length = 2 * l.length := by
  induction l with
  | nil => rfl
  | cons v l ih => simp only [dig, List.flatMap_cons, List.length_append, List.length_cons, List.length_nil] at ih ⊢; omega
theorem dig_snoc {l : List Int} {i : Nat} (h : i < l.length) : dig (l.take (i + 1)) = dig (l.take i) ++ [l.getD i 0 % 4294967296, l.getD i 0 / 4294967296] := by
  rw [List.take_succ_eq_append_getElem h, List.getD_eq_getElem?_getD, List.getElem?_eq_getElem h]
  unfold dig
  rw [List.flatMap_append]
  rfl
/-- Digits put together to limbs again. -/
def lims : List Int → List Int
  | [] => []
  | [x] => [x]
  | x :: y :: r => IntKind.u64.wrap (x + IntKind.u64.wrap (y * 4294967296)) :: lims r
theorem drop_cons' {l : List Int} {i : Nat} (h : i < l.length) : l.drop i = l.getD i 0 :: l.drop (i + 1) := by
  rw [List.drop_eq_getElem_cons h, List.getD_eq_getElem?_getD, List.getElem?_eq_getElem h]; rfl
theorem lims2 {l : List Int} {j : Nat} (h : j + 1 < l.length) : lims (l.drop j) = IntKind.u64.wrap (l.getD j 0 + IntKind.u64.wrap (l.getD (j + 1) 0 * 4294967296)) :: lims (l.drop (j + 2)) := by
  rw [drop_cons' (by omega : j < l.length), drop_cons' h]; rfl
theorem lims1 {l : List Int} {j : Nat} (h : j < l.length) (h2 : ¬ j + 1 < l.length) : lims (l.drop j) = l.getD j 0 :: lims (l.drop (j + 2)) := by
  rw [drop_cons' h, List.drop_eq_nil_of_le (by omega : l.length ≤ j + 1), List.drop_eq_nil_of_le (by omega : l.length ≤ j + 2)]; rfl
theorem lims_len : ∀ l : List Int, (lims l).length ≤ l.length
  | [] => Nat.le_refl _
  | [_] => Nat.le_refl _
  | _ :: _ :: r => by have := lims_len r; simp only [lims, List.length_cons]; omega
theorem trm1 {x : Int} (h : ¬ x = 0) : trm [x] = [x] := by
  unfold trm
  simp only [List.length_singleton, tN]
  rw [if_neg (by simpa using h)]
  rfl
theorem u64s1 {v : Int} (h0 : 0 ≤ v) (h1 : v < 18446744073709551616) : u64s [v] := fun x hx => by rw [List.mem_singleton] at hx; subst hx; exact ⟨h0, h1⟩
theorem cmp1 {x d : Int} (h : d ≤ x) : ¬ cmpL [x] [d] < 0 := by
  unfold cmpL
  simp only [List.length_singleton, cmpN]
  rw [if_neg (by omega), if_neg (by omega)]
  have e1 : [x].getD 0 0 = x := rfl
  have e2 : [d].getD 0 0 = d := rfl
  rw [e1, e2, if_neg (by omega)]
  split <;> omega
theorem wrap_u64' {m r : Int} (h1 : 0 ≤ r) (h2 : r < 18446744073709551616) (h : m = r - 18446744073709551616) : IntKind.u64.wrap m = r := by
  subst h
  simp only [IntKind.wrap, IntKind.bits, IntKind.signed] <;> simp <;> omega
end Go.Proofs.YtaogaegchagbfaaDoor.Vc

/- What lists of limbs say as numbers, in plain Lean. -/
namespace Go.Proofs.YtaogaegchagbfaaDoor.Vc
open Go Go.RowKit

def Bs : Int := 18446744073709551616
def vl : List Int → Int
  | [] => 0
  | x :: l => x + Bs * vl l
def pB : Nat → Int
  | 0 => 1
  | k + 1 => Bs * pB k
theorem pB_pos : ∀ k, 0 < pB k
  | 0 => by decide
  | k + 1 => by simp only [pB]; exact Int.mul_pos (by decide) (pB_pos k)
theorem pB_add : ∀ a b, pB (a + b) = pB a * pB b
  | 0, b => by simp [pB]
  | a + 1, b => by rw [show a + 1 + b = (a + b) + 1 by omega]; simp only [pB]; rw [pB_add a b, Int.mul_assoc]
theorem vl_app : ∀ a b : List Int, vl (a ++ b) = vl a + pB a.length * vl b
  | [], b => by simp [vl, pB]
  | x :: a, b => by
    simp only [List.cons_append, vl, List.length_cons, pB]
    rw [vl_app a b, Int.mul_add, Int.mul_assoc, Int.add_assoc]
theorem vl_nonneg : ∀ {l : List Int}, u64s l → 0 ≤ vl l
  | [], _ => Int.le_refl _
  | x :: l, h => by
    have h1 := (h x (List.mem_cons_self ..)).1
    have h2 := vl_nonneg (l := l) fun y hy => h y (List.mem_cons_of_mem _ hy)
    simp only [vl]
    have := Int.mul_nonneg (show (0 : Int) ≤ Bs by decide) h2
    omega
theorem vl_lt : ∀ {l : List Int}, u64s l → vl l < pB l.length
  | [], _ => by decide
  | x :: l, h => by
    have h1 := (h x (List.mem_cons_self ..)).2
    have h2 := vl_lt (l := l) fun y hy => h y (List.mem_cons_of_mem _ hy)
    simp only [vl, List.length_cons, pB]
    have h3 : vl l + 1 ≤ pB l.length := h2
    have h4 := Int.mul_le_mul_of_nonneg_left h3 (show (0 : Int) ≤ Bs by decide)
    rw [Int.mul_add, Int.mul_one] at h4
    have h5 : x < Bs := h1
    omega
/-- The value of the first k limbs. -/
def vk (l : List Int) (k : Nat) : Int := vl (l.take k)
theorem vk_0 (l : List Int) : vk l 0 = 0 := by unfold vk; simp [vl]
theorem vk_all {l : List Int} {k : Nat} (h : l.length ≤ k) : vk l k = vl l := by unfold vk; rw [List.take_of_length_le h]
theorem vk_succ (l : List Int) (k : Nat) : vk l (k + 1) = vk l k + pB k * l.getD k 0 := by
  unfold vk
  by_cases h : k < l.length
  · rw [List.take_succ_eq_append_getElem h, vl_app, List.length_take, Nat.min_eq_left (by omega), List.getD_eq_getElem?_getD, List.getElem?_eq_getElem h]
    simp [vl]
  · rw [List.take_of_length_le (by omega), List.take_of_length_le (by omega), getD_ge (by omega)]
    simp
theorem vk_tN (l : List Int) : ∀ k, k ≤ l.length → vk l (tN l k) = vk l k
  | 0, _ => rfl
  | k + 1, h => by
    simp only [tN]
    split
    · rename_i h0
      rw [vk_tN l k (by omega), vk_succ, h0, Int.mul_zero, Int.add_zero]
    · rfl
theorem vl_trm (l : List Int) : vl (trm l) = vl l := by
  have := vk_tN l l.length (Nat.le_refl _)
  rw [vk_all (Nat.le_refl _)] at this
  exact this
theorem adN_val (a b : List Int) : ∀ i, vl (adN a b i).1 + pB i * (adN a b i).2 = vk a i + vk b i
  | 0 => by simp [adN, vl, vk_0, pB]
  | i + 1 => by
    have ih := adN_val a b i
    simp only [adN]
    rw [vl_app, adN_len, vk_succ, vk_succ]
    simp only [vl, pB]
    have e := Int.emod_add_mul_ediv (a.getD i 0 + b.getD i 0 + (adN a b i).2) 18446744073709551616
    generalize hs : a.getD i 0 + b.getD i 0 + (adN a b i).2 = s at *
    generalize hq : s / 18446744073709551616 = q at *
    generalize hr : s % 18446744073709551616 = r at *
    have hB : Bs = 18446744073709551616 := rfl
    rw [Int.mul_zero, Int.add_zero, hB, Int.mul_comm 18446744073709551616 (pB i), Int.mul_assoc]
    have e2 : pB i * r + pB i * (18446744073709551616 * q) = pB i * s := by rw [← Int.mul_add, e]
    have e3 : pB i * s = pB i * a.getD i 0 + pB i * b.getD i 0 + pB i * (adN a b i).2 := by rw [← hs, Int.mul_add, Int.mul_add]
    omega
theorem sbN_val (a b : List Int) : ∀ i, vl (sbN a b i).1 - pB i * (sbN a b i).2 = vk a i - vk b i
  | 0 => by simp [sbN, vl, vk_0, pB]
  | i + 1 => by
    have ih := sbN_val a b i
    simp only [sbN]
    rw [vl_app, sbN_len, vk_succ, vk_succ]
    simp only [vl, pB]
    have hB : Bs = 18446744073709551616 := rfl
    rw [Int.mul_zero, Int.add_zero, hB, Int.mul_comm 18446744073709551616 (pB i), Int.mul_assoc]
    split
    · rw [Int.mul_one, Int.mul_add, Int.mul_sub, Int.mul_sub]; omega
    · rw [Int.mul_sub, Int.mul_sub]; simp; omega
theorem vl_swL (a b : List Int) : (swL a b).2.length ≤ (swL a b).1.length ∧ vl (swL a b).1 + vl (swL a b).2 = vl a + vl b := by
  unfold swL
  split
  · exact ⟨by show a.length ≤ b.length; omega, by show vl b + vl a = _; omega⟩
  · exact ⟨by show b.length ≤ a.length; omega, rfl⟩
theorem vl_sumL (a b : List Int) : vl (sumL a b) = vl a + vl b := by
  have h := adN_val (swL (trm a) (trm b)).1 (swL (trm a) (trm b)).2 (swL (trm a) (trm b)).1.length
  obtain ⟨h1, h2⟩ := vl_swL (trm a) (trm b)
  rw [vk_all (Nat.le_refl _), vk_all h1, h2, vl_trm, vl_trm] at h
  unfold sumL
  rw [vl_app, adN_len]
  simp only [vl]
  rw [Int.mul_zero, Int.add_zero]
  exact h
/-- No nought at the top. -/
def tpd (l : List Int) : Prop := l ≠ [] → l.getD (l.length - 1) 0 ≠ 0
theorem tN_top (l : List Int) : ∀ k, 0 < tN l k → l.getD (tN l k - 1) 0 ≠ 0
  | 0, h => by simp [tN] at h
  | k + 1, h => by
    simp only [tN] at h ⊢
    split
    · rename_i h0; rw [if_pos h0] at h; exact tN_top l k h
    · rename_i h0; exact h0
theorem trm_length (l : List Int) : (trm l).length = tN l l.length := by unfold trm; rw [List.length_take, Nat.min_eq_left (tN_le _ _)]
theorem tpd_trm (l : List Int) : tpd (trm l) := fun hne => by
  have hl := trm_length l
  have hpos : 0 < tN l l.length := by
    rcases Nat.eq_zero_or_pos (tN l l.length) with h | h
    · exact absurd (List.eq_nil_of_length_eq_zero (hl.trans h)) hne
    · exact h
  rw [hl]
  unfold trm
  rw [getD_take (by omega)]
  exact tN_top l _ hpos
theorem trm_id {l : List Int} (h : tpd l) : trm l = l := by
  unfold trm
  by_cases h0 : l = []
  · subst h0; rfl
  · have hp : 0 < l.length := List.length_pos_iff.2 h0
    rw [tN_stop hp (h h0), List.take_length]
theorem vl_ge {l : List Int} (hu : u64s l) (ht : tpd l) (h0 : l ≠ []) : pB (l.length - 1) ≤ vl l := by
  have hp : 0 < l.length := List.length_pos_iff.2 h0
  obtain ⟨k, hk⟩ : ∃ k, l.length = k + 1 := ⟨l.length - 1, by omega⟩
  have h1 : vl l = vk l (k + 1) := by rw [vk_all (by omega)]
  rw [h1, vk_succ, hk, Nat.add_sub_cancel]
  have h2 := ht h0
  rw [hk, Nat.add_sub_cancel] at h2
  have h3 := u64s_at hu (i := k) (by omega)
  have h4 : 0 ≤ vk l k := vl_nonneg fun x hx => hu x (List.mem_of_mem_take hx)
  have h5 : pB k * 1 ≤ pB k * l.getD k 0 := Int.mul_le_mul_of_nonneg_left (by omega) (Int.le_of_lt (pB_pos k))
  omega
theorem pB_mono {a b : Nat} (h : a ≤ b) : pB a ≤ pB b := by
  obtain ⟨c, rfl⟩ : ∃ c, b = a + c := ⟨b - a, by omega⟩
  rw [pB_add]
  have h1 := pB_pos c
  have h2 := Int.mul_le_mul_of_nonneg_left (show 1 ≤ pB c by omega) (Int.le_of_lt (pB_pos a))
  omega
/-- The lists' comparison is the numbers'. -/
theorem cmpN_val {a b : List Int} (ha : u64s a) (hb : u64s b) : ∀ k, (cmpN a b k = 0 ∧ vk a k = vk b k) ∨ (cmpN a b k = -1 ∧ vk a k < vk b k) ∨ (cmpN a b k = 1 ∧ vk b k < vk a k)
  | 0 => .inl ⟨rfl, by rw [vk_0, vk_0]⟩
  | k + 1 => by
    have ih := cmpN_val ha hb k
    simp only [cmpN]
    rw [vk_succ, vk_succ]
    have a1 : 0 ≤ vk a k := vl_nonneg fun x hx => ha x (List.mem_of_mem_take hx)
    have b1 : 0 ≤ vk b k := vl_nonneg fun x hx => hb x (List.mem_of_mem_take hx)
    have a2 : vk a k < pB k := Int.lt_of_lt_of_le (vl_lt fun x hx => ha x (List.mem_of_mem_take hx)) (pB_mono (by rw [List.length_take]; omega))
    have b2 : vk b k < pB k := Int.lt_of_lt_of_le (vl_lt fun x hx => hb x (List.mem_of_mem_take hx)) (pB_mono (by rw [List.length_take]; omega))
    have hp := pB_pos k
    split
    · rename_i h
      have := Int.mul_le_mul_of_nonneg_left (show a.getD k 0 + 1 ≤ b.getD k 0 by omega) (Int.le_of_lt hp)
      rw [Int.mul_add, Int.mul_one] at this
      exact .inr (.inl ⟨rfl, by omega⟩)
    · split
      · rename_i h1 h
        have := Int.mul_le_mul_of_nonneg_left (show b.getD k 0 + 1 ≤ a.getD k 0 by omega) (Int.le_of_lt hp)
        rw [Int.mul_add, Int.mul_one] at this
        exact .inr (.inr ⟨rfl, by omega⟩)
      · rename_i h1 h2
        rw [show a.getD k 0 = b.getD k 0 by omega]
        rcases ih with ⟨h, h'⟩ | ⟨h, h'⟩ | ⟨h, h'⟩
        · exact .inl ⟨h, by omega⟩
        · exact .inr (.inl ⟨h, by omega⟩)
        · exact .inr (.inr ⟨h, by omega⟩)
theorem cmpL_val {a b : List Int} (ha : u64s a) (hb : u64s b) : (cmpL (trm a) (trm b) = 0 ∧ vl a = vl b) ∨ (cmpL (trm a) (trm b) = -1 ∧ vl a < vl b) ∨ (cmpL (trm a) (trm b) = 1 ∧ vl b < vl a) := by
  have ua := u64s_trm ha
  have ub := u64s_trm hb
  rw [← vl_trm a, ← vl_trm b]
  have less : ∀ {x y : List Int}, u64s x → u64s y → tpd y → x.length < y.length → vl x < vl y := fun {x y} hx hy ht hlt => by
    have h1 := vl_lt hx
    have h2 := vl_ge hy ht (by intro e; rw [e] at hlt; simp at hlt)
    have h3 := pB_mono (show x.length ≤ y.length - 1 by omega)
    omega
  unfold cmpL
  split
  · rename_i h; exact .inr (.inl ⟨rfl, less ua ub (tpd_trm b) h⟩)
  · split
    · rename_i h; exact .inr (.inr ⟨rfl, less ub ua (tpd_trm a) h⟩)
    · rename_i h1 h2
      have := cmpN_val ua ub (trm a).length
      rw [vk_all (Nat.le_refl _), vk_all (by omega : (trm b).length ≤ (trm a).length)] at this
      exact this
theorem vl_difL {a b : List Int} (ha : u64s a) (hb : u64s b) (h : vl b ≤ vl a) : vl (difL a b) = vl a - vl b := by
  have ua := u64s_trm ha
  have ub := u64s_trm hb
  have hv := sbN_val (trm a) (trm b) (trm a).length
  rw [vk_all (Nat.le_refl _), vl_trm] at hv
  have hlen : (trm b).length ≤ (trm a).length := by
    rcases Nat.lt_or_ge (trm a).length (trm b).length with hlt | hge
    · have h1 := vl_lt ua
      have h2 := vl_ge ub (tpd_trm b) (by intro e; rw [e] at hlt; simp at hlt)
      have h3 := pB_mono (show (trm a).length ≤ (trm b).length - 1 by omega)
      rw [vl_trm] at h1 h2
      omega
    · exact hge
  rw [vk_all hlen, vl_trm] at hv
  have hc := sbN_c (trm a) (trm b) (trm a).length
  have hs := vl_lt (sbN_u ua ub (trm a).length)
  rw [sbN_len] at hs
  unfold difL
  rcases (show (sbN (trm a) (trm b) (trm a).length).2 = 0 ∨ (sbN (trm a) (trm b) (trm a).length).2 = 1 by omega) with h0 | h0
  · rw [h0, Int.mul_zero] at hv; omega
  · rw [h0, Int.mul_one] at hv; omega
end Go.Proofs.YtaogaegchagbfaaDoor.Vc

/- Products of limbs, in plain Lean. -/
namespace Go.Proofs.YtaogaegchagbfaaDoor.Vc
open Go Go.RowKit

theorem mul_bd {a b m : Int} (ha : 0 ≤ a) (hb : 0 ≤ b) (ham : a ≤ m) (hbm : b ≤ m) : 0 ≤ a * b ∧ a * b ≤ m * m := by
  refine ⟨Int.mul_nonneg ha hb, ?_⟩
  exact Int.mul_le_mul ham hbm hb (by omega)
theorem u64_wrap_mod {m : Int} : IntKind.u64.wrap m = m % 18446744073709551616 := by
  simp only [IntKind.wrap, IntKind.bits, IntKind.signed] <;> simp
/-- What is left of a number behind its first k limbs. -/
theorem vl_rest {b : List Int} (hb : u64s b) (k : Nat) : ∃ r, 0 ≤ r ∧ vl b = vk b k + pB k * r := by
  refine ⟨vl (b.drop k), vl_nonneg fun x hx => hb x (List.mem_of_mem_drop hx), ?_⟩
  by_cases h : k ≤ b.length
  · have := vl_app (b.take k) (b.drop k)
    rw [List.take_append_drop, List.length_take, Nat.min_eq_left h] at this
    exact this
  · rw [List.drop_eq_nil_of_le (by omega), vk_all (by omega)]; simp [vl]
theorem vk_nonneg {b : List Int} (hb : u64s b) (k : Nat) : 0 ≤ vk b k := vl_nonneg fun x hx => hb x (List.mem_of_mem_take hx)
end Go.Proofs.YtaogaegchagbfaaDoor.Vc

/- Sums at a place, differences in place, parts of a number, Karatsuba's way: plain Lean. -/
namespace Go.Proofs.YtaogaegchagbfaaDoor.Vc
open Go Go.RowKit

theorem getD_zeros (n j : Nat) : (List.replicate n (0 : Int)).getD j 0 = 0 := by
  rw [List.getD_eq_getElem?_getD, List.getElem?_replicate]; split <;> rfl
theorem u64s_take {a : List Int} (ha : u64s a) (k : Nat) : u64s (a.take k) := fun x hx => ha x (List.mem_of_mem_take hx)
end Go.Proofs.YtaogaegchagbfaaDoor.Vc

/- Numbers with a sign, in plain Lean. -/
namespace Go.Proofs.YtaogaegchagbfaaDoor.Vc
open Go Go.RowKit

def sv (s : Bool) (l : List Int) : Int := if s = true then -(vl l) else vl l
def good (l : List Int) : Prop := u64s l ∧ l.length ≤ 1048576
theorem bl_pos {f n : Nat} (hf : 0 < f) (h : 0 < n) : 0 < bl f n := by
  obtain ⟨g, rfl⟩ : ∃ g, f = g + 1 := ⟨f - 1, by omega⟩
  simp only [bl]
  rw [if_neg (by omega)]; omega
theorem len_bd {l : List Int} (hu : u64s l) (h : lenN l ≤ 67108864) : (trm l).length ≤ 1048576 := by
  unfold lenN at h
  split at h
  · omega
  · rename_i h0
    have ht := tpd_trm l (by intro e; rw [e] at h0; exact h0 rfl)
    have hb := u64s_getD (u64s_trm hu) ((trm l).length - 1)
    have := bl_pos (f := 64) (n := ((trm l).getD ((trm l).length - 1) 0).toNat) (by decide) (by omega)
    omega
theorem good_trm {l : List Int} (hu : u64s l) (h : lenN l ≤ 67108864) : good (trm l) := ⟨u64s_trm hu, len_bd hu h⟩
theorem trm_trm (l : List Int) : trm (trm l) = trm l := trm_id (tpd_trm l)
theorem lenN_trm (l : List Int) : lenN (trm l) = lenN l := by unfold lenN; rw [trm_trm]
theorem vl_pos {l : List Int} (hu : u64s l) (ht : tpd l) (h : l ≠ []) : 0 < vl l := by
  have h1 := vl_ge hu ht h
  have h2 := pB_pos (l.length - 1)
  omega
theorem trm_zero {l : List Int} (hu : u64s l) : (trm l).length = 0 ↔ vl l = 0 := by
  constructor
  · intro h
    rw [← vl_trm, List.eq_nil_of_length_eq_zero h]; rfl
  · intro h
    rcases Nat.eq_zero_or_pos (trm l).length with h0 | h0
    · exact h0
    · have := vl_pos (u64s_trm hu) (tpd_trm l) (by intro e; rw [e] at h0; simp at h0)
      rw [vl_trm] at this; omega
theorem lenN_zero {l : List Int} (hu : u64s l) : lenN l = 0 ↔ vl l = 0 := by
  rw [← trm_zero hu]
  unfold lenN
  constructor
  · intro h
    split at h
    · assumption
    · rename_i h0
      have ht := tpd_trm l (by intro e; rw [e] at h0; exact absurd rfl h0)
      have hb := u64s_getD (u64s_trm hu) ((trm l).length - 1)
      have := bl_pos (f := 64) (n := ((trm l).getD ((trm l).length - 1) 0).toNat) (by decide) (by omega)
      omega
  · intro h; rw [if_pos h]
/-- The sign of a normal number. -/
theorem sv_norm {s : Bool} {l : List Int} (hu : u64s l) : sv (s && decide (0 < ((trm l).length : Int))) (trm l) = sv s l := by
  unfold sv
  rw [vl_trm]
  by_cases h : (trm l).length = 0
  · have h0 := (trm_zero hu).1 h
    rw [h0]; simp
  · have : decide (0 < ((trm l).length : Int)) = true := decide_eq_true (by omega)
    rw [this, Bool.and_true]
theorem sv_neg (s : Bool) (l : List Int) : sv (!s) l = -(sv s l) := by unfold sv; cases s <;> simp
def sgnI (x : Int) : Int := if x = 0 then 0 else if x < 0 then -1 else 1
def cmpI (x y : Int) : Int := if x < y then -1 else if y < x then 1 else 0
theorem sgn_sv {s : Bool} {l : List Int} (hu : u64s l) : sgnI (sv s l) = if lenN l = 0 then 0 else if s = true then -1 else 1 := by
  have h := lenN_zero hu
  have h0 := vl_nonneg hu
  unfold sgnI sv
  by_cases hz : vl l = 0
  · rw [if_pos (h.2 hz)]; cases s <;> simp [hz]
  · rw [if_neg (fun e => hz (h.1 e))]
    cases s
    · simp only [Bool.false_eq_true, if_false]; rw [if_neg hz, if_neg (by omega)]
    · simp only [if_true]; rw [if_neg (by omega), if_pos (by omega)]
theorem cmp_signs {s t : Bool} {a b : List Int} (ua : u64s a) (ub : u64s b) : (sgnI (sv s a) < sgnI (sv t b) → cmpI (sv s a) (sv t b) = -1) ∧ (sgnI (sv t b) < sgnI (sv s a) → cmpI (sv s a) (sv t b) = 1) ∧
    (sgnI (sv s a) = sgnI (sv t b) → sgnI (sv s a) * cmpL (trm a) (trm b) = cmpI (sv s a) (sv t b)) := by
  have ha := vl_nonneg ua
  have hb := vl_nonneg ub
  have hc := cmpL_val ua ub
  have key : ∀ x y : Int, (sgnI x < sgnI y → x < y) := fun x y h => by unfold sgnI at h; (repeat' split at h) <;> omega
  refine ⟨fun h => ?_, fun h => ?_, fun h => ?_⟩
  · have := key _ _ h; unfold cmpI; rw [if_pos this]
  · have := key _ _ h; unfold cmpI; rw [if_neg (by omega), if_pos this]
  · unfold cmpI
    have hs : ∀ (u : Bool) (l : List Int), sv u l = vl l ∨ sv u l = -(vl l) := fun u l => by unfold sv; cases u <;> simp
    have hs' : ∀ (u : Bool) (l : List Int), 0 ≤ vl l → (0 < sv u l → sv u l = vl l) ∧ (sv u l < 0 → sv u l = -(vl l)) := fun u l hl => by rcases hs u l with e | e <;> constructor <;> intro <;> omega
    have h1 := hs' s a ha
    have h2 := hs' t b hb
    have z1 := hs s a
    have z2 := hs t b
    rcases Int.lt_trichotomy (sv s a) 0 with hx | hx | hx
    · have e1 : sgnI (sv s a) = -1 := by unfold sgnI; rw [if_neg (by omega), if_pos hx]
      have hy : sv t b < 0 := by rw [e1] at h; unfold sgnI at h; (repeat' split at h) <;> omega
      rw [e1, h1.2 hx, h2.2 hy]
      rcases hc with ⟨c, v⟩ | ⟨c, v⟩ | ⟨c, v⟩
      · rw [c, if_neg (by omega), if_neg (by omega)]; rfl
      · rw [c, if_neg (by omega), if_pos (by omega)]; rfl
      · rw [c, if_pos (by omega)]; rfl
    · have e1 : sgnI (sv s a) = 0 := by unfold sgnI; rw [if_pos hx]
      have hy : sv t b = 0 := by rw [e1] at h; unfold sgnI at h; (repeat' split at h) <;> omega
      rw [e1, hx, hy, Int.zero_mul]; rfl
    · have e1 : sgnI (sv s a) = 1 := by unfold sgnI; rw [if_neg (by omega), if_neg (by omega)]
      have hy : 0 < sv t b := by rw [e1] at h; unfold sgnI at h; (repeat' split at h) <;> omega
      rw [e1, h1.1 hx, h2.1 hy, Int.one_mul]
      rcases hc with ⟨c, v⟩ | ⟨c, v⟩ | ⟨c, v⟩
      · rw [c, if_neg (by omega), if_neg (by omega)]
      · rw [c, if_pos (by omega)]
      · rw [c, if_neg (by omega), if_pos (by omega)]
theorem cmpI_0 {x y : Int} : cmpI x y = 0 ↔ x = y := by unfold cmpI; (repeat' split) <;> constructor <;> intro h <;> omega
/-- Sums of numbers with a sign. -/
theorem sv_add_same {s t : Bool} {a b r : List Int} (hst : sv s a = sv t a ∨ True) (h : vl r = vl a + vl b) : sv s r = sv s a + sv s b := by
  unfold sv; cases s <;> simp [h] <;> omega
theorem sv_sub {s : Bool} {a b r : List Int} (h : vl r = vl a - vl b) : sv s r = sv s a + sv (!s) b := by
  unfold sv; cases s <;> simp [h] <;> omega
theorem add_val {S T : Bool} {A B r : List Int} {x y : Int} (h : (S == T) = true) (hv : vl r = vl A + vl B) (e1 : sv S A = x) (e2 : sv T B = y) : sv S r = x + y := by
  have : S = T := by simpa using h
  subst this
  rw [← e1, ← e2]; exact sv_add_same (t := S) (.inr trivial) hv
theorem sub_val {S T : Bool} {A B r : List Int} {x y : Int} (h : (S == T) = false) (hv : vl r = vl A - vl B) (e1 : sv S A = x) (e2 : sv T B = y) : sv S r = x + y := by
  have : T = !S := by cases S <;> cases T <;> simp_all
  subst this
  rw [← e1, ← e2]; exact sv_sub hv
theorem cmpI_rng {x y : Int} : -1 ≤ cmpI x y ∧ cmpI x y ≤ 1 := by unfold cmpI; (repeat' split) <;> decide
end Go.Proofs.YtaogaegchagbfaaDoor.Vc

/- Numbers as canonical lists of digits; how many bits they have. Plain Lean. -/
namespace Go.Proofs.YtaogaegchagbfaaDoor.Vc
open Go Go.RowKit

def digs (b n : Nat) : List Int := if h : n = 0 ∨ b < 2 then [] else ((n % b : Nat) : Int) :: digs b (n / b)
termination_by n
decreasing_by exact Nat.div_lt_self (by omega) (by omega)
theorem digs_0 {b : Nat} : digs b 0 = [] := by rw [digs, dif_pos (.inl rfl)]
theorem digs_pos {b n : Nat} (hb : 2 ≤ b) (hn : n ≠ 0) : digs b n = ((n % b : Nat) : Int) :: digs b (n / b) := by rw [digs, dif_neg (by omega)]
def vb (b : Nat) : List Int → Int
  | [] => 0
  | x :: l => x + (b : Int) * vb b l
def rng (b : Nat) (l : List Int) : Prop := ∀ x ∈ l, 0 ≤ x ∧ x < (b : Int)
theorem rng_tail {b : Nat} {x : Int} {l : List Int} (h : rng b (x :: l)) : rng b l := fun y hy => h y (List.mem_cons_of_mem _ hy)
theorem vb_vl : ∀ l, vb 18446744073709551616 l = vl l
  | [] => rfl
  | x :: l => by simp only [vb, vl, vb_vl l]; rfl
theorem vb_nonneg {b : Nat} : ∀ {l : List Int}, rng b l → 0 ≤ vb b l
  | [], _ => Int.le_refl _
  | x :: l, h => by
    have h1 := (h x (List.mem_cons_self ..)).1
    have h2 := Int.mul_nonneg (Int.natCast_nonneg b) (vb_nonneg (rng_tail h))
    simp only [vb]; omega
theorem tpd_tail {x : Int} {l : List Int} (h : tpd (x :: l)) : tpd l := fun hne => by
  have := h (by simp)
  have hp : 0 < l.length := List.length_pos_iff.2 hne
  rw [List.length_cons, Nat.add_sub_cancel] at this
  obtain ⟨k, hk⟩ : ∃ k, l.length = k + 1 := ⟨l.length - 1, by omega⟩
  rw [hk] at this ⊢
  simpa using this
theorem tpd_one {x : Int} (h : tpd [x]) : x ≠ 0 := by simpa using h (by simp)
theorem digs_of {b : Nat} (hb : 2 ≤ b) : ∀ {l : List Int}, rng b l → tpd l → digs b (vb b l).toNat = l
  | [], _, _ => digs_0
  | x :: t, h, ht => by
    have ih := digs_of hb (rng_tail h) (tpd_tail ht)
    have h1 := h x (List.mem_cons_self ..)
    have h2 := vb_nonneg (rng_tail h)
    obtain ⟨m, hm⟩ : ∃ m : Nat, vb b t = m := ⟨(vb b t).toNat, by omega⟩
    obtain ⟨y, hy⟩ : ∃ y : Nat, x = y := ⟨x.toNat, by omega⟩
    subst hy
    have e : (vb b ((y : Int) :: t)).toNat = y + b * m := by
      simp only [vb]; rw [hm, ← Int.natCast_mul]; omega
    have hyb : y < b := by omega
    rw [e]
    rw [hm] at ih
    rw [show ((m : Int)).toNat = m from rfl] at ih
    have hne : y + b * m ≠ 0 := by
      intro h0
      have hy0 : y = 0 := by omega
      have hm0 : b * m = 0 := by omega
      have hm1 : m = 0 := by
        rcases Nat.mul_eq_zero.1 hm0 with h | h
        · omega
        · exact h
      subst hm1
      rw [digs_0] at ih
      subst ih
      exact tpd_one ht (by rw [hy0]; rfl)
    rw [digs_pos hb hne, Nat.add_mul_mod_self_left, Nat.mod_eq_of_lt hyb, Nat.add_mul_div_left _ _ (by omega), Nat.div_eq_of_lt hyb, Nat.zero_add, ih]
theorem vb_digs {b : Nat} (hb : 2 ≤ b) (n : Nat) : vb b (digs b n) = n := by
  induction n using Nat.strongRecOn with
  | _ n ih =>
    by_cases h : n = 0
    · subst h; rw [digs_0]; rfl
    · rw [digs_pos hb h]
      simp only [vb]
      rw [ih (n / b) (Nat.div_lt_self (by omega) (by omega)), ← Int.natCast_mul, ← Int.natCast_add, Nat.mod_add_div]
theorem rng_digs {b : Nat} (hb : 2 ≤ b) (n : Nat) : rng b (digs b n) := by
  induction n using Nat.strongRecOn with
  | _ n ih =>
    by_cases h : n = 0
    · subst h; rw [digs_0]; intro x hx; simp at hx
    · rw [digs_pos hb h]
      intro x hx
      rcases List.mem_cons.1 hx with rfl | hx
      · have := Nat.mod_lt n (show 0 < b by omega); omega
      · exact ih (n / b) (Nat.div_lt_self (by omega) (by omega)) x hx
theorem tpd_digs {b : Nat} (hb : 2 ≤ b) (n : Nat) : tpd (digs b n) := by
  induction n using Nat.strongRecOn with
  | _ n ih =>
    by_cases h : n = 0
    · subst h; rw [digs_0]; intro hx; simp at hx
    · rw [digs_pos hb h]
      intro _
      rw [List.length_cons, Nat.add_sub_cancel]
      by_cases h1 : n / b = 0
      · rw [h1, digs_0]
        have : n < b := by
          rcases Nat.lt_or_ge n b with h2 | h2
          · exact h2
          · have := Nat.div_pos h2 (by omega); omega
        simp [Nat.mod_eq_of_lt this, h]
      · have h2 := ih (n / b) (Nat.div_lt_self (by omega) (by omega))
        have hne : digs b (n / b) ≠ [] := by rw [digs_pos hb h1]; simp
        have h3 := h2 hne
        have hp : 0 < (digs b (n / b)).length := List.length_pos_iff.2 hne
        obtain ⟨k, hk⟩ : ∃ k, (digs b (n / b)).length = k + 1 := ⟨(digs b (n / b)).length - 1, by omega⟩
        rw [hk] at h3 ⊢
        simpa using h3
/-- Two canonical lists of one number. -/
theorem cano {b : Nat} (hb : 2 ≤ b) {l : List Int} {n : Nat} (hr : rng b l) (ht : tpd l) (hv : vb b l = n) : l = digs b n := by
  have := digs_of hb hr ht
  rw [hv] at this
  exact this.symm
def nbits (n : Nat) : Nat := if n = 0 then 0 else n.log2 + 1
theorem nbits_le {n k : Nat} : nbits n ≤ k ↔ n < 2 ^ k := by
  unfold nbits
  split
  · rename_i h; subst h; exact ⟨fun _ => Nat.two_pow_pos k, fun _ => Nat.zero_le _⟩
  · rename_i h
    rw [← Nat.log2_lt h]
    omega
theorem nbits_pos {n : Nat} (h : n ≠ 0) : 0 < nbits n := by unfold nbits; rw [if_neg h]; omega
theorem nbits_mono {m n : Nat} (h : m ≤ n) : nbits m ≤ nbits n := nbits_le.2 (Nat.lt_of_le_of_lt h (nbits_le.1 (Nat.le_refl _)))
theorem nbits_add {w x m : Nat} (hx : x < 2 ^ w) (hm : m ≠ 0) : nbits (x + 2 ^ w * m) = w + nbits m := by
  refine Nat.le_antisymm (nbits_le.2 ?_) ?_
  · have h1 : m < 2 ^ nbits m := nbits_le.1 (Nat.le_refl _)
    rw [Nat.pow_add]
    have h2 : 2 ^ w * (m + 1) ≤ 2 ^ w * 2 ^ nbits m := Nat.mul_le_mul_left _ h1
    rw [Nat.mul_add, Nat.mul_one] at h2
    omega
  · rcases Nat.lt_or_ge (nbits (x + 2 ^ w * m)) (w + nbits m) with h | h
    · exfalso
      have hp := nbits_pos hm
      have h1 : x + 2 ^ w * m < 2 ^ (w + (nbits m - 1)) := nbits_le.1 (by omega)
      rw [Nat.pow_add] at h1
      have h2 : 2 ^ w * m < 2 ^ w * 2 ^ (nbits m - 1) := by omega
      have h3 := nbits_le.2 (Nat.lt_of_mul_lt_mul_left h2)
      omega
    · exact h
theorem bl_nbits : ∀ f n, n < 2 ^ f → bl f n = nbits n
  | 0, n, h => by
    have : n = 0 := by simpa using h
    subst this; rfl
  | f + 1, n, h => by
    simp only [bl]
    split
    · rename_i h0; rw [h0]; rfl
    · rename_i h0
      rw [bl_nbits f (n / 2) (by rw [Nat.pow_succ] at h; omega)]
      by_cases h1 : n / 2 = 0
      · have : n = 1 := by omega
        subst this; rfl
      · have := nbits_add (w := 1) (x := n % 2) (m := n / 2) (by have := Nat.mod_lt n (show 0 < 2 by decide); simpa using this) h1
        rw [Nat.pow_one, Nat.mod_add_div] at this
        rw [this]
theorem len_digs {w : Nat} (hw : 1 ≤ w) : ∀ {l : List Int}, rng (2 ^ w) l → tpd l → l ≠ [] → w * (l.length - 1) + nbits (l.getD (l.length - 1) 0).toNat = nbits (vb (2 ^ w) l).toNat
  | [], _, _, h => absurd rfl h
  | [x], _, _, _ => by simp [vb]
  | x :: y :: t, h, ht, _ => by
    have ih := len_digs hw (rng_tail h) (tpd_tail ht) (by simp)
    have h1 := h x (List.mem_cons_self ..)
    have h2 := vb_nonneg (rng_tail h)
    have hb2 : 2 ≤ 2 ^ w := by
      have := Nat.pow_le_pow_right (show 0 < 2 by decide) hw
      simpa using this
    have hc := digs_of hb2 (rng_tail h) (tpd_tail ht)
    obtain ⟨m, hm⟩ : ∃ m : Nat, vb (2 ^ w) (y :: t) = m := ⟨(vb (2 ^ w) (y :: t)).toNat, by omega⟩
    obtain ⟨q, hq⟩ : ∃ q : Nat, x = q := ⟨x.toNat, by omega⟩
    rw [hm] at ih hc
    rw [show ((m : Int)).toNat = m from rfl] at ih hc
    have hm0 : m ≠ 0 := by intro e; rw [e, digs_0] at hc; simp at hc
    have e : (vb (2 ^ w) (x :: y :: t)).toNat = q + 2 ^ w * m := by
      show (x + ((2 ^ w : Nat) : Int) * vb (2 ^ w) (y :: t)).toNat = _
      rw [hm, hq, ← Int.natCast_mul]; omega
    rw [e, nbits_add (by omega) hm0, ← ih]
    simp only [List.length_cons, Nat.add_sub_cancel, List.getD_cons_succ]
    rw [Nat.mul_add, Nat.mul_one]
    omega
theorem u64_rng {l : List Int} (h : u64s l) : rng 18446744073709551616 l := h
theorem trm_app (l : List Int) : ∃ k, l = trm l ++ List.replicate k 0 := by
  have : ∀ k, k ≤ l.length → l.take k = l.take (tN l k) ++ List.replicate (k - tN l k) 0 := by
    intro k
    induction k with
    | zero => intro _; simp [tN]
    | succ k ih =>
      intro hk
      have h1 := ih (by omega)
      have hle := tN_le l k
      simp only [tN]
      split
      · rename_i h0
        rw [List.take_succ_eq_append_getElem (by omega), h1, List.append_assoc, show k + 1 - tN l k = (k - tN l k) + 1 by omega, List.replicate_succ']
        congr 2
        rw [List.getD_eq_getElem?_getD, List.getElem?_eq_getElem (by omega)] at h0
        rw [← h0]; rfl
      · simp
  have h := this l.length (Nat.le_refl _)
  rw [List.take_length] at h
  exact ⟨_, h⟩
theorem vb_app (b : Nat) : ∀ (l : List Int) (k : Nat), vb b (l ++ List.replicate k 0) = vb b l
  | [], 0 => rfl
  | [], k + 1 => by
    rw [List.nil_append, List.replicate_succ]
    simp only [vb]
    have := vb_app b [] k
    rw [List.nil_append] at this
    rw [this]; simp [vb]
  | x :: l, k => by simp only [List.cons_append, vb, vb_app b l k]
theorem vb_trm (b : Nat) (l : List Int) : vb b (trm l) = vb b l := by
  obtain ⟨k, hk⟩ := trm_app l
  have := vb_app b (trm l) k
  rw [← hk] at this
  exact this.symm
theorem rng_trm {b : Nat} {l : List Int} (h : rng b l) : rng b (trm l) := fun x hx => h x (List.mem_of_mem_take hx)
theorem trm_digs {b : Nat} (hb : 2 ≤ b) {l : List Int} {n : Nat} (h : rng b l) (hv : vb b l = n) : trm l = digs b n := cano hb (rng_trm h) (tpd_trm l) (by rw [vb_trm, hv])
/-- A number's size in limbs, in the document's digits; its bits. -/
def lm (v : Int) : List Int := digs 18446744073709551616 v.natAbs
def dg (v : Int) : List Int := digs 4294967296 v.natAbs
def lenV (v : Int) : Nat := nbits v.natAbs
theorem lm_u (v : Int) : u64s (lm v) := rng_digs (by decide) _
theorem lm_t (v : Int) : tpd (lm v) := tpd_digs (by decide) _
theorem lm_v (v : Int) : vl (lm v) = v.natAbs := by rw [← vb_vl]; exact vb_digs (by decide) _
theorem lenN_nbits {l : List Int} (h : u64s l) : lenN l = nbits (vl l).toNat := by
  rw [← vl_trm]
  unfold lenN
  split
  · rename_i h0; rw [List.eq_nil_of_length_eq_zero h0]; rfl
  · rename_i h0
    have h1 := len_digs (w := 64) (by decide) (rng_trm (u64_rng h)) (tpd_trm l) (fun e => h0 (by rw [e]; rfl))
    rw [show (2 ^ 64 : Nat) = 18446744073709551616 by decide, vb_vl] at h1
    rw [← h1, bl_nbits 64]
    have := u64s_getD (u64s_trm h) ((trm l).length - 1)
    omega
theorem sv_abs {s : Bool} {l : List Int} (h : u64s l) : ((sv s l).natAbs : Int) = vl l := by
  have := vl_nonneg h
  unfold sv; split <;> omega
theorem raw_res {s : Bool} {l : List Int} {v : Int} (h : u64s l) (hv : sv s l = v) : (s && decide (0 < ((trm l).length : Int))) = decide (v < 0) ∧ trm l = lm v ∧ lenN l = lenV v := by
  have ha := sv_abs (s := s) h
  rw [hv] at ha
  refine ⟨?_, ?_, ?_⟩
  · have h0 := vl_nonneg h
    have hz := trm_zero h
    unfold sv at hv
    cases s
    · simp at hv ⊢; omega
    · simp only [Bool.true_and, if_true] at hv ⊢
      rw [decide_eq_decide]
      constructor
      · intro h1
        have : vl l ≠ 0 := fun e => by have := hz.2 e; omega
        omega
      · intro h1
        have : (trm l).length ≠ 0 := fun e => by have := hz.1 e; omega
        omega
  · exact trm_digs (by decide) (u64_rng h) (by rw [vb_vl, ← ha])
  · rw [lenN_nbits h]; unfold lenV; congr 1; omega
end Go.Proofs.YtaogaegchagbfaaDoor.Vc

/- Memory that is lent: what lies around a list. Bits counted one by one. Plain Lean. -/
namespace Go.Proofs.YtaogaegchagbfaaDoor.Vc
open Go Go.RowKit

def wrapP (l : List Int) : List Int := 10855845 :: 10855845 :: (l ++ [10855845, 10855845])
def lendA (n i : Nat) : List Int := fillI (List.replicate i 10855845) n
def lendB (l : List Int) (i : Nat) : List Int := 10855845 :: 10855845 :: (l.take i ++ List.replicate (l.length + 2 - i) 10855845)
/-- What an answer has to be: the number, or the error 'too great'. -/
def Res (v : Int) (s : Bool) (r : List Int) (e : Int) : Prop := (lenV v ≤ 67108864 ∧ s = decide (v < 0) ∧ r = lm v ∧ e = 0) ∨ (67108864 < lenV v ∧ s = false ∧ r = [] ∧ e = 3)
theorem lenV_lm {v : Int} (h : lenV v ≤ 67108864) : (lm v).length ≤ 1048576 := by
  have h1 := (raw_res (s := decide (v < 0)) (v := v) (lm_u v) (by unfold sv; rw [lm_v]; by_cases h : v < 0 <;> simp [h] <;> omega)).2
  have := len_bd (lm_u v) (by rw [h1.2]; exact h)
  rwa [h1.1] at this
theorem Res.len {v : Int} {s : Bool} {r : List Int} {e : Int} (h : Res v s r e) : r.length ≤ 1048576 := by
  rcases h with ⟨h1, _, rfl, _⟩ | ⟨_, _, rfl, _⟩
  · exact lenV_lm h1
  · exact Nat.zero_le _
end Go.Proofs.YtaogaegchagbfaaDoor.Vc

/- Answers with their error, on the way. Plain Lean. -/
namespace Go.Proofs.YtaogaegchagbfaaDoor.Vc
open Go Go.RowKit

def ErrN (x : Int) (r : List Int) (e : Int) : Prop := (e = 0 ∧ good r ∧ vl r = x) ∨ (e = 3 ∧ 67108864 < lenV x)
def ResN (v : Int) (s : Bool) (l : List Int) (e : Int) : Prop := (e = 0 ∧ u64s l ∧ l.length < 1099511627776 ∧ sv s l = v) ∨ (e = 3 ∧ 67108864 < lenV v)
theorem lenN_lenV {l : List Int} {x : Int} (u : u64s l) (hv : vl l = x) : lenN l = lenV x := by
  have := vl_nonneg u
  rw [lenN_nbits u, hv]; unfold lenV; congr 1; omega
theorem errN_ok {l : List Int} {x : Int} (u : u64s l) (hv : vl l = x) (h : lenN l ≤ 67108864) : ErrN x (trm l) 0 := .inl ⟨rfl, good_trm u h, by rw [vl_trm, hv]⟩
theorem errN_big {l r : List Int} {x : Int} (u : u64s l) (hv : vl l = x) (h : 67108864 < lenN l) : ErrN x r 3 := .inr ⟨rfl, by rwa [← lenN_lenV u hv]⟩
theorem resN_of {x v : Int} {s : Bool} {r : List Int} {e : Int} (h : ErrN x r e) (h0 : 0 ≤ x) (hs : ∀ q, u64s q → vl q = x → sv s q = v) : ResN v s r e := by
  rcases h with ⟨h1, h2, h3⟩ | ⟨h1, h2⟩
  · exact .inl ⟨h1, h2.1, by have := h2.2; omega, hs r h2.1 h3⟩
  · refine .inr ⟨h1, ?_⟩
    have e1 := lm_v x
    have e2 := hs (lm x) (lm_u x) (by rw [e1]; omega)
    have e3 := sv_abs (s := s) (lm_u x)
    rw [e2, e1] at e3
    have e4 : v.natAbs = x.natAbs := by omega
    unfold lenV at h2 ⊢
    rwa [e4]
theorem res_ok {s : Bool} {l : List Int} {v : Int} (u : u64s l) (hv : sv s l = v) (h : lenN l ≤ 67108864) : Res v (s && decide (0 < ((trm l).length : Int))) (trm l) 0 := by
  obtain ⟨h1, h2, h3⟩ := raw_res u hv
  exact .inl ⟨by rwa [← h3], h1, h2, rfl⟩
theorem res_big {s : Bool} {l : List Int} {v : Int} (u : u64s l) (hv : sv s l = v) (h : 67108864 < lenN l) : Res v false [] 3 := by
  obtain ⟨h1, h2, h3⟩ := raw_res u hv
  exact .inr ⟨by rwa [← h3], rfl, rfl, rfl⟩
end Go.Proofs.YtaogaegchagbfaaDoor.Vc

/- The document's naturals: digits of 32 bits. Plain Lean. -/
namespace Go.Proofs.YtaogaegchagbfaaDoor.Vc
open Go Go.RowKit
namespace D
def r32 (l : List Int) : Prop := ∀ x ∈ l, 0 ≤ x ∧ x < 4294967296
def Bs : Int := 4294967296
def vl : List Int → Int
  | [] => 0
  | x :: l => x + Bs * vl l
def pB : Nat → Int
  | 0 => 1
  | k + 1 => Bs * pB k
theorem pB_pos : ∀ k, 0 < pB k
  | 0 => by decide
  | k + 1 => by simp only [pB]; exact Int.mul_pos (by decide) (pB_pos k)
theorem pB_add : ∀ a b, pB (a + b) = pB a * pB b
  | 0, b => by simp [pB]
  | a + 1, b => by rw [show a + 1 + b = (a + b) + 1 by omega]; simp only [pB]; rw [pB_add a b, Int.mul_assoc]
theorem vl_app : ∀ a b : List Int, vl (a ++ b) = vl a + pB a.length * vl b
  | [], b => by simp [vl, pB]
  | x :: a, b => by
    simp only [List.cons_append, vl, List.length_cons, pB]
    rw [vl_app a b, Int.mul_add, Int.mul_assoc, Int.add_assoc]
theorem vl_nonneg : ∀ {l : List Int}, r32 l → 0 ≤ vl l
  | [], _ => Int.le_refl _
  | x :: l, h => by
    have h1 := (h x (List.mem_cons_self ..)).1
    have h2 := vl_nonneg (l := l) fun y hy => h y (List.mem_cons_of_mem _ hy)
    simp only [vl]
    have := Int.mul_nonneg (show (0 : Int) ≤ Bs by decide) h2
    omega
theorem vl_lt : ∀ {l : List Int}, r32 l → vl l < pB l.length
  | [], _ => by decide
  | x :: l, h => by
    have h1 := (h x (List.mem_cons_self ..)).2
    have h2 := vl_lt (l := l) fun y hy => h y (List.mem_cons_of_mem _ hy)
    simp only [vl, List.length_cons, pB]
    have h3 : vl l + 1 ≤ pB l.length := h2
    have h4 := Int.mul_le_mul_of_nonneg_left h3 (show (0 : Int) ≤ Bs by decide)
    rw [Int.mul_add, Int.mul_one] at h4
    have h5 : x < Bs := h1
    omega
def vk (l : List Int) (k : Nat) : Int := vl (l.take k)
theorem vk_0 (l : List Int) : vk l 0 = 0 := by unfold vk; simp [vl]
theorem vk_all {l : List Int} {k : Nat} (h : l.length ≤ k) : vk l k = vl l := by unfold vk; rw [List.take_of_length_le h]
theorem vk_succ (l : List Int) (k : Nat) : vk l (k + 1) = vk l k + pB k * l.getD k 0 := by
  unfold vk
  by_cases h : k < l.length
  · rw [List.take_succ_eq_append_getElem h, vl_app, List.length_take, Nat.min_eq_left (by omega), List.getD_eq_getElem?_getD, List.getElem?_eq_getElem h]
    simp [vl]
  · rw [List.take_of_length_le (by omega), List.take_of_length_le (by omega), getD_ge (by omega)]
    simp
end D
theorem digs_at {b : Nat} (hb : 2 ≤ b) : ∀ (i n : Nat), (digs b n).getD i 0 = ((n / b ^ i % b : Nat) : Int)
  | 0, n => by
    by_cases h : n = 0
    · subst h; rw [digs_0]; simp
    · rw [digs_pos hb h]; simp
  | i + 1, n => by
    by_cases h : n = 0
    · subst h; rw [digs_0]; simp
    · rw [digs_pos hb h, List.getD_cons_succ, digs_at hb i (n / b), Nat.div_div_eq_div_mul, Nat.pow_succ, Nat.mul_comm b]
abbrev B32 : Nat := 4294967296
def dgt (z j : Nat) : Int := ((z / B32 ^ j % B32 : Nat) : Int)
def dvl (z m : Nat) : List Int := (List.range m).map (dgt z)
/-- The carry into a digit of a sum. -/
def cry (x y i : Nat) : Nat := (x % B32 ^ i + y % B32 ^ i) / B32 ^ i
/-- The borrow into a digit of a difference. -/
def brw (x y i : Nat) : Nat := if x % B32 ^ i < y % B32 ^ i then 1 else 0
end Go.Proofs.YtaogaegchagbfaaDoor.Vc
