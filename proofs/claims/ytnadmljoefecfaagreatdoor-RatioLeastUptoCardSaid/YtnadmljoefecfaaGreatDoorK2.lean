/- The law RatioLeast of every input of bulk at most 1048576: it returns true, and the input reads as it did. Texts joined: VcI, VcJ, VcK, VcL, VcM, VcN, VcO, VcR, VcS, VcT, VcU, VcX, VcY, VcZ, VcP, VcQ, VcW, VcV, VcAA, VcAB, VcAC, VcAD. -/
import Derived.Test.YtnadmljoefecfaaGreatDoorK1
import Derived.Lib.Builder
import Derived.Laws.Externs
import Derived.LaidEqlPtr
import Derived.Lib.AppendStr
import Derived.Test.YtnadmljoefecfaaGreatDoorRows
import Derived.ProofKit
import Derived.OpenShut
import Derived.Lib.UnsafeStr
import Derived.Lib.MinMax
import Derived.Laws.StructEq
import Derived.ChangeKeysEq
import Derived.Deep.Slices
import Derived.Deep.Strs
import Derived.WideShapes
import Derived.Carry
import Derived.Laws.CopyRow
import Derived.Laws.IdiomCopy
set_option linter.unusedVariables false
set_option linter.unusedSimpArgs false
namespace Go.Proofs.YtnadmljoefecfaaGreatDoor.Vc
open Go Go.RowKit

def wildF : List Nat :=
 [10] ++
 [17]
def G1 (o : Oper) : Bool := match o.op with | .store .. => false | .mapUpdate .. => false | .call c => (match c.callee with | .builtin .len => true | .builtin .cap => true | .builtin .min => true | .builtin .max => true | .builtin .unsafeSliceData => true | .builtin .unsafeString => true | .builtin _ => false | .value (.func f) => !(wildF.any fun k => Nat.beq k f) | _ => true) | .move _ => true | .assign _ => true | .load .. => true | .binOp .. => true | .unOp .. => true | .pick .. => true | .fieldAddr .. => true | .indexAddr .. => true | .index .. => true | .alloc .. => true | .extract .. => true | .nilCheck .. => true | .slice .. => true | .build .. => true | .buildSlice .. => true | .convert .. => true | .makeSlice .. => true | .field .. => true | _ => false

section
variable {P : Program} {Γ : Ctx} {ops : Array Oper} {Q : Exit → Act → World → Prop}

def YieldsX (P : Program) (ops : Array Oper) (st : Bool) (o : Oper) (v : Value) (a : Act) (w : World) : Prop :=
  (Region.wanted o (yielded ops a.tmps) = true ∧ ∀ w', (st = true → Ext w w') → (execOp a.eval o).run P w' = .ok (.value v) w') ∨
  (Region.wanted o (yielded ops a.tmps) = false ∧ v = undef)
theorem Ext.trans {a b c : World} (h : Ext a b) (k : Ext b c) : Ext a c := fun x v e => k x v (h x v e)
theorem YieldsX.wpOp {st : Bool} {i : Nat} {o : Oper} {v : Value} {a : Act} {w : World} (hi : ops[i]? = some o) (hy : YieldsX P ops st o v a w) {K : Act → World → Prop} (h : K (a.put o.dst v) w) : wpOp P ops Q i K a w := by
  unfold Go.wpOp
  simp only [hi]
  rcases hy with ⟨hw, hv⟩ | ⟨hw, rfl⟩
  · simp only [hw, if_true, Oper.wp, hv w (fun _ => Ext.refl w), Oper.upon]; exact .inl h
  · simp only [hw, Bool.false_eq_true, if_false]; exact h
theorem YieldsX.of_same {st : Bool} {o : Oper} {v : Value} {a a' : Act} {w w' : World} (hy : YieldsX P ops st o v a w) (he : execOp a'.eval o = execOp a.eval o)
    (hw : Region.wanted o (yielded ops a'.tmps) = Region.wanted o (yielded ops a.tmps)) (hx : st = true → Ext w w') : YieldsX P ops st o v a' w' := by
  unfold YieldsX at *
  rw [he, hw]
  exact hy.imp (fun ⟨h1, h2⟩ => ⟨h1, fun w'' h => h2 w'' fun e => (hx e).trans (h e)⟩) id

theorem N0 {st : Bool} {j : Nat} {oi oj : Oper} {v : Value} (hj : ops[j]? = some oj) (hap : oi.apart ops oj = true) (hm : st = true → G1 oj = true)
    (hsi : ∀ cs b, oi.op ≠ .select cs b) (hsj : ∀ cs b, oj.op ≠ .select cs b)
    (hQ : ∀ c a w, Q (.panic c) (a.put oi.dst v) w → Q (.panic c) a w) {K : Act → World → Prop} {a : Act} {w : World}
    (hy : YieldsX P ops st oi v a w) (h : wpOp P ops Q j (fun a' w' => (G1 oj = true → Ext w w') ∧ K a' w') (a.put oi.dst v) w) :
    wpOp P ops Q j (fun a' w' => (G1 oj = true → Ext w w') ∧ YieldsX P ops st oi v a' w' ∧ K (a'.put oi.dst v) w') a w := by
  obtain ⟨h1, h2, h3⟩ := Oper.apart_spec hap
  have keep : ∀ u w', (G1 oj = true → Ext w w') → YieldsX P ops st oi v (a.put oj.dst u) w' := fun u w' hx =>
    hy.of_same (execOp_put oi hsi a oj.dst u h3) (wanted_put oi a oj.dst u h3) (fun e => hx (hm e))
  have keepD : ∀ d w', (G1 oj = true → Ext w w') → YieldsX P ops st oi v (({ a with defers := d :: a.defers } : Act).put oj.dst undef) w' := fun d w' hx =>
    hy.of_same (execOp_put oi hsi { a with defers := d :: a.defers } oj.dst undef h3) (wanted_put oi { a with defers := d :: a.defers } oj.dst undef h3) (fun e => hx (hm e))
  unfold wpOp at *
  simp only [hj] at *
  rw [wanted_put oj a oi.dst v h1] at h
  split
  · rename_i hw
    simp only [hw, if_true] at h
    rcases h with h | ⟨hasks, hlets⟩
    case inr => exact .inr ⟨by unfold Oper.asks at *; rw [execOp_put oj hsj a oi.dst v h1] at hasks; exact hasks, hlets⟩
    refine .inl ?_
    unfold Oper.wp at *
    rw [execOp_put oj hsj a oi.dst v h1] at h
    generalize (execOp a.eval oj).run P w = r at *
    cases r with
    | ok n w' =>
      cases n <;> simp only [Oper.upon] at h ⊢
      case value u => exact ⟨h.1, keep u w' h.1, by rw [← Act.put_comm a v u h2]; exact h.2⟩
      case skip => exact ⟨h.1, keep _ w' h.1, by rw [← Act.put_comm a v undef h2]; exact h.2⟩
      case defer d =>
        refine ⟨h.1, keepD d w' h.1, ?_⟩
        rw [← Act.put_comm _ v undef h2, ← Act.put_defers]
        exact h.2
      case enter f args =>
        refine Calls.mono h fun e w'' he => ?_
        cases e with
        | returned u => exact ⟨he.1, keep u w'' he.1, by rw [← Act.put_comm a v u h2]; exact he.2⟩
        | panicked c => exact hQ _ _ _ he
        | outgrown => exact he
      case row row args => exact Rows.mono h fun u w'' he => ⟨he.1, keep u w'' he.1, by rw [← Act.put_comm a v u h2]; exact he.2⟩
    | halt x w' =>
      cases x <;> simp only [Oper.upon] at h ⊢
      case panic u => exact hQ _ _ _ h
  · rename_i hw
    simp only [hw] at h
    exact ⟨h.1, keep _ w h.1, by rw [← Act.put_comm a v undef h2]; exact h.2⟩

def Hn (P : Program) (ops : Array Oper) (Q : Exit → Act → World → Prop) : Nat → Array Bool → Act → World → Prop
  | 0, listed, a, w => Region.ready .any ops listed = [] ∧ Q .normal a w
  | fuel + 1, listed, a, w =>
    (Region.ready .any ops listed = [] → Q .normal a w) ∧
    ∀ i ∈ Region.ready .any ops listed, wpOp P ops Q i (fun a' w' => ((∀ o, ops[i]? = some o → G1 o = true → Ext w w')) ∧ Hn P ops Q fuel (listed.setIfInBounds i true) a' w') a w
theorem I0 : ∀ (fuel : Nat) (listed : Array Bool) (a : Act) (w : World), Hn P ops Q fuel listed a w → wpAny P .any ops Q fuel listed a w
  | 0, _, _, _, h => h
  | fuel + 1, _, _, _, h => ⟨h.1, fun i hi => wpOp_mono (fun a' w' h' => I0 fuel _ a' w' h'.2) (h.2 i hi)⟩

def Zf (st : Bool) (ops : Array Oper) (listed : Array Bool) (i : Nat) : Bool :=
  match ops[i]? with
  | none => false
  | some oi => (List.range ops.size).all fun j => Nat.beq j i || listed.getD j true || match ops[j]? with
      | some oj => oj.after.any (fun e => Region.binds .any e && Nat.beq e.on i) || (oi.apart ops oj && (!st || G1 oj))
      | none => true
theorem Tb {st : Bool} {i : Nat} {oi : Oper} {listed : Array Bool} (hi : ops[i]? = some oi) (h : Zf st ops listed i = true) (j : Nat) (oj : Oper)
    (hj : ops[j]? = some oj) (hne : j ≠ i) (hun : listed.getD j true = false) (hno : ∀ e ∈ oj.after, Region.binds .any e = true → e.on ≠ i) :
    oi.apart ops oj = true ∧ (st = true → G1 oj = true) := by
  simp only [Zf, hi, List.all_eq_true, List.mem_range] at h
  have h1 := h j (Array.getElem?_eq_some_iff.1 hj).1
  have hb : Nat.beq j i = false := by
    cases hb : Nat.beq j i
    · rfl
    · exact absurd (Nat.eq_of_beq_eq_true hb) hne
  simp only [hj, hb, hun, Bool.false_or, Bool.or_eq_true, Bool.and_eq_true, Bool.not_eq_true'] at h1
  rcases h1 with h1 | h1
  · obtain ⟨e, he, hb⟩ := Array.any_eq_true'.1 h1
    simp only [Bool.and_eq_true] at hb
    exact absurd (Nat.eq_of_beq_eq_true hb.2) (hno e he hb.1)
  · exact ⟨h1.1, fun e => h1.2.resolve_left (by simp [e])⟩

theorem N3 {st : Bool} {i : Nat} {oi : Oper} {v : Value} (hi : ops[i]? = some oi) (hsel : ∀ (j : Nat) (o : Oper) cs b, ops[j]? = some o → o.op ≠ .select cs b)
    (hQ : ∀ c a w, Q (.panic c) (a.put oi.dst v) w → Q (.panic c) a w) :
    ∀ (fuel : Nat) (listed : Array Bool) (a : Act) (w : World),
      (∀ j oj, ops[j]? = some oj → j ≠ i → listed.getD j true = false → (∀ e ∈ oj.after, Region.binds .any e = true → e.on ≠ i) → oi.apart ops oj = true ∧ (st = true → G1 oj = true)) →
      i ∈ Region.ready .any ops listed → YieldsX P ops st oi v a w →
      Hn P ops Q fuel (listed.setIfInBounds i true) (a.put oi.dst v) w → Hn P ops Q (fuel + 1) listed a w := by
  intro fuel
  induction fuel with
  | zero =>
    intro listed a w _ hr hy H
    refine ⟨fun h => (by rw [h] at hr; cases hr), fun j hj => ?_⟩
    by_cases hji : j = i
    · subst hji; exact hy.wpOp hi ⟨fun _ _ _ => Ext.refl w, H⟩
    · have := ready_mono hj hji
      rw [H.1] at this
      cases this
  | succ fuel ih =>
    intro listed a w hfree hr hy H
    refine ⟨fun h => (by rw [h] at hr; cases hr), fun j hj => ?_⟩
    by_cases hji : j = i
    · subst hji; exact hy.wpOp hi ⟨fun _ _ _ => Ext.refl w, H⟩
    · obtain ⟨hjun, oj, hoj, hall⟩ := mem_ready.1 hj
      have h1 : wpOp P ops Q j (fun a' w' => (G1 oj = true → Ext w w') ∧ Hn P ops Q fuel ((listed.setIfInBounds i true).setIfInBounds j true) a' w') (a.put oi.dst v) w :=
        wpOp_mono (fun a' w' h => ⟨h.1 oj hoj, h.2⟩) (H.2 j (ready_mono hj hji))
      have hnot : ∀ e ∈ oj.after, Region.binds .any e = true → e.on ≠ i := fun e he hb heq => by
        have h1 := hall e he hb
        have h0 := (mem_ready.1 hr).1
        rw [heq] at h1
        rcases Nat.lt_or_ge i listed.size with h' | h'
        · simp [h'] at h0 h1; rw [h0] at h1; cases h1
        · simp [Array.getElem?_eq_none h'] at h1
      obtain ⟨hap, hmild⟩ := hfree j oj hoj hji hjun hnot
      have h2 := N0 hoj hap hmild (fun cs b => hsel i oi cs b hi) (fun cs b => hsel j oj cs b hoj) hQ hy h1
      have hfree' : ∀ k ok, ops[k]? = some ok → k ≠ i → (listed.setIfInBounds j true).getD k true = false →
          (∀ e ∈ ok.after, Region.binds .any e = true → e.on ≠ i) → oi.apart ops ok = true ∧ (st = true → G1 ok = true) := fun k ok hk hki hun hno => by
        refine hfree k ok hk hki ?_ hno
        by_cases hjk : j = k
        · subst hjk; exact hjun
        · rw [getD_set_ne true hjk] at hun; exact hun
      refine wpOp_mono (fun a' w' h3 => ⟨fun o ho hmo => by rw [hoj] at ho; injection ho with ho; subst ho; exact h3.1 hmo, ih (listed.setIfInBounds j true) a' w' hfree' (ready_mono hr (Ne.symm hji)) h3.2.1 ?_⟩) h2
      rw [Array.setIfInBounds_comm _ _ hji]
      exact h3.2.2

variable {F : Fr} {H : List Ob} {Q : Exit → Fr → List Ob → Prop}
def JA (P : Program) (ops : Array Oper) (fuel : Nat) (listed : Array Bool) (Γ : Ctx) (F : Fr) (H : List Ob) (Q : Exit → Fr → List Ob → Prop) : Prop :=
  ∀ a w, St Γ F H a w → Hn P ops (toQ Γ Q) fuel listed a w

def LO (P : Program) (ops : Array Oper) (st : Bool) (Γ : Ctx) (o : Oper) (d : Nat) (F : Fr) (H : List Ob) (y : V) : Prop :=
  o.dst = some d ∧ d < Γ.N ∧ ∀ ρ a w, StA Γ ρ F H a w → ∃ v, Rel w (Bb Γ.M ρ H) Γ.w0.heap.size ρ y v ∧ YieldsX P ops st o v a w
theorem Am {d : Nat} {op : Op} {T : TypeId} {ps : String} {af : Array Edge} {y : V} (h : LY P Γ op F H y) (hd : d < Γ.N) : LO P ops true Γ ⟨some d, op, T, ps, af, none⟩ d F H y :=
  ⟨rfl, hd, fun ρ a w s => by
    obtain ⟨v, r, hr⟩ := h ρ a w s
    exact ⟨v, r, .inl ⟨rfl, fun w' hw' => hr _ _ _ _ _ w' (hw' rfl)⟩⟩⟩
theorem Ip {d : Nat} {op : Op} {T : TypeId} {ps : String} {af : Array Edge} {y : V} {j0 : Nat} {b0 : Bool} (t0 : Nat) (ht : (ops[j0]?).bind (·.dst) = some t0) (hb : Cp F t0 = some (.b b0))
    (h : LY P Γ op F H y) (hd : d < Γ.N) : LO P ops true Γ ⟨some d, op, T, ps, af, some (j0, b0)⟩ d F H y :=
  ⟨rfl, hd, fun ρ a w s => by
    obtain ⟨v, r, hr⟩ := h ρ a w s
    exact ⟨v, r, .inl ⟨Hh rfl (Fl s ht hb), fun w' hw' => hr _ _ _ _ _ w' (hw' rfl)⟩⟩⟩
theorem H4 {d : Nat} {op : Op} {T : TypeId} {ps : String} {af : Array Edge} {j0 : Nat} {b0 b1 : Bool} (t0 : Nat) (ht : (ops[j0]?).bind (·.dst) = some t0) (hb : Cp F t0 = some (.b b1)) (hne : (b0 == b1) = false)
    (hd : d < Γ.N) : LO P ops false Γ ⟨some d, op, T, ps, af, some (j0, b0)⟩ d F H (.c undef) :=
  ⟨rfl, hd, fun ρ a w s => ⟨undef, rfl, .inr ⟨Ke rfl (by rw [Fl s ht hb]; intro e; injection e with e; subst e; simp at hne), rfl⟩⟩⟩
theorem Gt {d : Nat} {x : Operand} {T : TypeId} {ps : String} {af : Array Edge} {y : V} (h : ovO F x = some y) (hd : d < Γ.N) : LO P ops false Γ ⟨some d, .move x, T, ps, af, none⟩ d F H y :=
  ⟨rfl, hd, fun ρ a w s => ⟨_, s.ov h, .inl ⟨rfl, fun w' _ => rfl⟩⟩⟩
theorem Aea {d : Nat} {x : Operand} {T : TypeId} {ps : String} {af : Array Edge} {y : V} (h : ovO F x = some y) (hd : d < Γ.N) : LO P ops false Γ ⟨some d, .assign x, T, ps, af, none⟩ d F H y :=
  ⟨rfl, hd, fun ρ a w s => ⟨_, s.ov h, .inl ⟨rfl, fun w' _ => rfl⟩⟩⟩

theorem Abt {fuel : Nat} {listed : Array Bool} (i : Nat) {st : Bool} {o : Oper} {d : Nat} {y : V} (h : LO P ops st Γ o d F H y) (hi : ops[i]? = some o) (hs : Region.noSelect ops = true)
    (hr : (Region.ready .any ops listed).contains i = true) (hf : Zf st ops listed i = true) (hQ : ∀ c F H d, Q (.panic c) F H → Q (.panic c) ((d, .u) :: F) H)
    (j : JA P ops fuel (listed.setIfInBounds i true) Γ ((d, y) :: F) H Q) : JA P ops (fuel + 1) listed Γ F H Q := fun a w ⟨ρ, s⟩ => by
  obtain ⟨hdst, hd, h⟩ := h
  obtain ⟨v, r, hy⟩ := h ρ a w s
  refine N3 hi (Region.noSelect_spec hs) ?_ fuel listed a w (Tb hi hf) (by simpa using hr) hy (by rw [hdst]; exact j _ _ ⟨ρ, s.put hd r⟩)
  rintro c a' w' ⟨F', H', q, ρ', s'⟩
  refine ⟨(d, .u) :: F', H', hQ _ _ _ _ q, ρ', s'.hr, ?_, ?_, fun t => ?_, s'.fro⟩
  · have := s'.n; rw [hdst] at this; simpa [Act.put] using this
  · have := s'.ds; rw [hdst] at this; simpa [Act.put] using this
  · rw [Iu]
    by_cases e : t = d
    · rw [if_pos e]; trivial
    · rw [if_neg e]
      have := s'.fr t
      rw [hdst] at this
      simpa [Act.put, Array.getD_eq_getD_getElem?, Array.getElem?_setIfInBounds_ne (Ne.symm e)] using this
theorem Bx {fuel : Nat} {listed : Array Bool} (hr : Region.ready .any ops listed = []) (h : Q .normal F H) : JA P ops fuel listed Γ F H Q := fun a w s => by
  cases fuel with
  | zero => exact ⟨hr, F, H, h, s⟩
  | succ n => exact ⟨fun _ => ⟨F, H, h, s⟩, by rw [hr]; simp⟩

def JS (P : Program) (ops : Array Oper) (Γ : Ctx) (o : Oper) (F : Fr) (H : List Ob) (Q : Exit → Fr → List Ob → Prop) (R : Fr → List Ob → Prop) : Prop :=
  ∀ a w, St Γ F H a w → Region.wanted o (yielded ops a.tmps) = true ∧ o.wp P a w (fun a' w' => (G1 o = true → Ext w w') ∧ ∃ F' H', R F' H' ∧ St Γ F' H' a' w') (toQ Γ Q)
theorem Vv {fuel : Nat} {listed : Array Bool} (rs : List Nat) (hr : Region.ready .any ops listed = rs) (hne : rs.isEmpty = false)
    (h : ∀ i ∈ rs, ∃ o, ops[i]? = some o ∧ JS P ops Γ o F H Q fun F' H' => JA P ops fuel (listed.setIfInBounds i true) Γ F' H' Q) : JA P ops (fuel + 1) listed Γ F H Q := fun a w s => by
  refine ⟨fun h0 => by rw [hr] at h0; rw [h0] at hne; simp at hne, fun i hi => ?_⟩
  obtain ⟨o, ho, hj⟩ := h i (hr ▸ hi)
  obtain ⟨hw, hj⟩ := hj a w s
  unfold wpOp
  rw [ho]
  simp only []
  rw [if_pos hw]
  refine .inl (Oper.wp_mono (fun a' w' ⟨h1, F', H', h2, h3⟩ => ⟨fun o' ho' hm => ?_, h2 a' w' h3⟩) hj)
  injection ho' with ho'; subst ho'
  exact h1 hm
theorem Be {fuel : Nat} {listed : Array Bool} (i : Nat) {o : Oper} (h : JS P ops Γ o F H Q fun F' H' => JA P ops fuel (listed.setIfInBounds i true) Γ F' H' Q) (hi : ops[i]? = some o) (hr : Region.ready .any ops listed = [i]) : JA P ops (fuel + 1) listed Γ F H Q :=
  Vv [i] hr rfl fun j hj => by simp at hj; subst hj; exact ⟨o, hi, h⟩

theorem Ax {f : FuncId} (fn : Func) {d : Nat} {T : TypeId} {ps : String} {af : Array Edge} {args : Array Operand} {ts : Array TypeId} {c : Operand} {ys zs : List V} {post : Out → Prop} {R : Fr → List Ob → Prop}
    (hs : Spec P f zs post) (hc : ovO F c = some (.f f [])) (hf : P.funcs[f]? = some fn) (hb : fn.body.isSome = true) (hn : (fn.name == "runtime.NumGoroutine") = false) (hx : ovL F args.toList ys) (ha : ArgL ys zs) (hd : d < Γ.N)
    (k : ∀ y, post (.ret y) → R ((d, y) :: F) H) (kp : ∀ ch, post (.pan ch) → Q (.panic ch) F H) :
    JS P ops Γ ⟨some d, .call { callee := .value c, args := args, argTypes := ts }, T, ps, af, none⟩ F H Q R := fun a w ⟨ρ, s⟩ =>
  ⟨rfl, Mh hc hf hb hn hx ha hs s (fun y v w' h1 h2 h3 h4 => ⟨fun _ => Hb h3, _, _, k y h1, ρ, h4.put hd h2⟩) (fun ch w' h1 _ h3 => ⟨F, H, kp ch h1, ρ, h3⟩)⟩
theorem E9 {f : FuncId} (fn : Func) {d : Nat} {T : TypeId} {ps : String} {af : Array Edge} {args : Array Operand} {ts : Array TypeId} {c : Operand} {ys zs : List V} {post : Out → Prop} {R : Fr → List Ob → Prop} {j0 : Nat} {b0 : Bool} (t0 : Nat) (ht : (ops[j0]?).bind (·.dst) = some t0) (hb0 : Cp F t0 = some (.b b0))
    (hs : Spec P f zs post) (hc : ovO F c = some (.f f [])) (hf : P.funcs[f]? = some fn) (hb : fn.body.isSome = true) (hn : (fn.name == "runtime.NumGoroutine") = false) (hx : ovL F args.toList ys) (ha : ArgL ys zs) (hd : d < Γ.N)
    (k : ∀ y, post (.ret y) → R ((d, y) :: F) H) (kp : ∀ ch, post (.pan ch) → Q (.panic ch) F H) :
    JS P ops Γ ⟨some d, .call { callee := .value c, args := args, argTypes := ts }, T, ps, af, some (j0, b0)⟩ F H Q R := fun a w ⟨ρ, s⟩ =>
  ⟨Hh rfl (Fl s ht hb0), Mh hc hf hb hn hx ha hs s (fun y v w' h1 h2 h3 h4 => ⟨fun _ => Hb h3, _, _, k y h1, ρ, h4.put hd h2⟩) (fun ch w' h1 _ h3 => ⟨F, H, kp ch h1, ρ, h3⟩)⟩
theorem Df {d : Nat} {op : Op} {T : TypeId} {ps : String} {af : Array Edge} {y : V} {H' : List Ob} {R : Fr → List Ob → Prop} (h : HY P Γ op F H y H') (hd : d < Γ.N) (k : R ((d, y) :: F) H') : JS P ops Γ ⟨some d, op, T, ps, af, none⟩ F H Q R := fun a w ⟨ρ, s⟩ => by
  obtain ⟨v, w', ρ', r, s', hx, hr⟩ := h ρ a w s
  refine ⟨rfl, ?_⟩
  unfold Oper.wp
  rw [hr _ _ _ _ _]
  exact ⟨fun _ => hx, _, _, k, ρ', s'.put hd r⟩
theorem Cl {op : Op} {T : TypeId} {ps : String} {af : Array Edge} {H' : List Ob} {R : Fr → List Ob → Prop} (h : SY P Γ op F H H') (hm : G1 ⟨none, op, T, ps, af, none⟩ = false) (k : R F H') : JS P ops Γ ⟨none, op, T, ps, af, none⟩ F H Q R := fun a w ⟨ρ, s⟩ => by
  obtain ⟨w', ρ', s', hr⟩ := h ρ a w s
  refine ⟨rfl, ?_⟩
  unfold Oper.wp
  rw [hr _ _ _ _ _]
  exact ⟨fun e => by rw [hm] at e; simp at e, _, _, k, ρ', s'⟩
theorem Y4 {fuel : Nat} {listed : Array Bool} (t : Nat) {b : Bool} (h : Cp F t = some (.b b)) (ht : b = true → JA P ops fuel listed Γ ((t, .b true) :: F) H Q) (hf : b = false → JA P ops fuel listed Γ ((t, .b false) :: F) H Q) : JA P ops fuel listed Γ F H Q := fun a w s => by
  have sub : ∀ c : Bool, b = c → Sub ((t, .b c) :: F) F := fun c e => .cons (by rw [h, e]) fun t y h => h
  cases hb : b
  · exact hf hb a w (s.sub (sub false hb))
  · exact ht hb a w (s.sub (sub true hb))
theorem R2 {fuel : Nat} {listed : Array Bool} (t : Nat) {p : Prop} [Decidable p] (h : Cp F t = some (.b (decide p))) (ht : p → JA P ops fuel listed Γ ((t, .b true) :: F) H Q) (hf : ¬ p → JA P ops fuel listed Γ ((t, .b false) :: F) H Q) : JA P ops fuel listed Γ F H Q :=
  Y4 t h (fun e => ht (of_decide_eq_true e)) (fun e => hf (of_decide_eq_false e))
theorem Bo {id n : Nat} (ops : Array Oper) (hn : ops.size = n) (hm : P.follows .mixedOrders = true) (h : JA P ops n (Array.replicate n false) Γ F H Q) : JC P (.region id ops true) Γ F H Q := fun a w ⟨ρ, s⟩ => by
  subst hn
  exact wp_region_any hm (I0 _ _ _ _ (h a { w with drawn := w.drawn + 1 } ⟨ρ, s.below ⟨rfl, rfl, rfl, Nat.le_refl _, fun _ _ => rfl⟩⟩))
end


def Cov (F' m F : Fr) : Prop := ∀ t y, Cp (m ++ F) t = some y → y = .u ∨ Cp F' t = some y
def inK : Fr → Nat → Bool
  | [], _ => false
  | (t, _) :: r, k => bif Nat.beq k t then true else inK r k
def L4 : Fr → Fr → Bool
  | [], _ => true
  | (t, _) :: r, m => bif inK m t then L4 r m else false
def Says (F' : Fr) : Fr → Prop
  | [] => True
  | (t, y) :: r => (y = .u ∨ Cp F' t = some y) ∧ Says F' r
theorem Says.nil {F' : Fr} : Says F' [] := trivial
theorem Says.u {F' : Fr} {t : Nat} {r : Fr} (h : Says F' r) : Says F' ((t, .u) :: r) := ⟨.inl rfl, h⟩
theorem Says.cons {F' : Fr} {t : Nat} {y : V} {r : Fr} (e : Cp F' t = some y) (h : Says F' r) : Says F' ((t, y) :: r) := ⟨.inr e, h⟩
theorem Hs : ∀ (m F : Fr) (t : Nat), inK m t = true → Cp (m ++ F) t = Cp m t
  | (k, y) :: r, F, t, h => by
    simp only [inK, List.cons_append, Cp] at h ⊢
    cases hb : Nat.beq t k
    · rw [hb] at h; exact Hs r F t h
    · rfl
theorem Ft : ∀ (m F : Fr) (t : Nat), inK m t = false → Cp (m ++ F) t = Cp F t
  | [], F, t, h => rfl
  | (k, y) :: r, F, t, h => by
    simp only [inK, List.cons_append, Cp] at h ⊢
    cases hb : Nat.beq t k
    · rw [hb] at h; exact Ft r F t h
    · rw [hb] at h; simp at h
theorem Uk {F' : Fr} : ∀ {m : Fr} {t : Nat} {y : V}, Says F' m → Cp m t = some y → y = .u ∨ Cp F' t = some y
  | [], t, y, _, h => by simp [Cp] at h
  | (k, z) :: r, t, y, ⟨h1, h2⟩, h => by
    simp only [Cp] at h
    cases hb : Nat.beq t k
    · rw [hb] at h; exact Uk h2 h
    · rw [hb] at h
      have e := Nat.eq_of_beq_eq_true hb
      subst e; injection h with h; subst h
      exact h1
theorem O0 : ∀ {A m : Fr} {t : Nat}, L4 A m = true → inK m t = false → inK A t = false
  | [], m, t, _, _ => rfl
  | (k, y) :: r, m, t, h, h2 => by
    simp only [L4] at h
    cases hk : inK m k
    · rw [hk] at h; simp at h
    · rw [hk] at h
      simp only [inK]
      cases hb : Nat.beq t k
      · exact O0 h h2
      · have e := Nat.eq_of_beq_eq_true hb
        subst e
        rw [hk] at h2; simp at h2
theorem Ab0 {m F : Fr} (A : Fr) (hk : L4 A m = true) (h : Says (A ++ F) m) : Cov (A ++ F) m F := fun t y e => by
  cases hm : inK m t
  · rw [Ft m F t hm] at e
    rw [Ft A F t (O0 hk hm)]
    exact .inr e
  · rw [Hs m F t hm] at e
    exact Uk h e
theorem Le {m F : Fr} (h : Says F m) : Cov F m F := Ab0 (A := []) rfl h

section
variable {P : Program} {Γ : Ctx} {F : Fr} {H : List Ob} {Q : Exit → Fr → List Ob → Prop}
theorem StA.cov {ρ : List Re} {a : Act} {w : World} {F' m : Fr} (h : Cov F' m F) (s : StA Γ ρ F' H a w) : StA Γ ρ (m ++ F) H a w :=
  ⟨s.hr, s.n, s.ds, fun t => by
    have := s.fr t
    unfold get at this ⊢
    cases e : Cp (m ++ F) t with
    | none => trivial
    | some y =>
      rcases h t y e with rfl | h
      · trivial
      · rw [h] at this; exact this, s.fro⟩
theorem St.cov {a : Act} {w : World} {F' m : Fr} (h : Cov F' m F) (s : St Γ F' H a w) : St Γ (m ++ F) H a w := by obtain ⟨ρ, s⟩ := s; exact ⟨ρ, s.cov h⟩

theorem Ch {c : Code} {G : Type} (C : G → Prop) (m : G → Fr) (Hg : G → List Ob) (μ : G → Nat) (g0 : G) (h0 : C g0) (hF : Says F (m g0)) (hH : H = Hg g0)
    (round : ∀ g, C g → JC P c Γ (m g ++ F) (Hg g) (I5 (fun F' H' => ∃ g', C g' ∧ μ g' < μ g ∧ H' = Hg g' ∧ Cov F' (m g') F) Q)) : JC P (.loop c) Γ F H Q :=
  Qh C (fun g => m g ++ F) Hg μ g0 h0 (fun a w s => hH ▸ s.cov (Le hF)) fun g hg =>
    Nt (fun e F' H' q => by
      cases e with
      | normal => obtain ⟨g', h1, h2, h3, h4⟩ := q; exact ⟨g', h1, h2, fun a w s => h3 ▸ s.cov h4⟩
      | _ => exact q) (round g hg)
def Alj (G : Type) (C : G → Prop) (m : G → Fr) (Hg : G → List Ob) (F F' : Fr) (H' : List Ob) : Prop := ∃ g, C g ∧ H' = Hg g ∧ Cov F' (m g) F
theorem Ja {x y : Code} {G : Type} (C : G → Prop) (m : G → Fr) (Hg : G → List Ob) (h1 : JC P x Γ F H (I5 (Alj G C m Hg F) Q)) (h2 : ∀ g, C g → JC P y Γ (m g ++ F) (Hg g) Q) : JC P (.seq x y) Γ F H Q := fun a w s =>
  wp_seq (Code.wp_mono (fun e a w ⟨F', H', q, s'⟩ => by
    cases e <;> first | (obtain ⟨g, c1, c2, c3⟩ := q; exact h2 g c1 a w (c2 ▸ s'.cov c3)) | exact ⟨F', H', q, s'⟩) (h1 a w s))
theorem C9 {x y : Code} {G : Type} (C : G → Prop) (m : G → Fr) (h1 : JC P x Γ F H (I5 (Alj G C m (fun _ => H) F) Q)) (h2 : ∀ g, C g → JC P y Γ (m g ++ F) H Q) : JC P (.seq x y) Γ F H Q := Ja C m (fun _ => H) h1 h2
theorem Bh {c : Operand} {x y : Code} {p : Prop} [Decidable p] (h : ovO F c = some (.b (decide p))) (ht : p → JC P x Γ F H Q) (hf : ¬ p → JC P y Γ F H Q) : JC P (.cond c x y) Γ F H Q := fun a w ⟨ρ, s⟩ =>
  wp_cond_split (Ix s h) (fun e => ht (of_decide_eq_true e) a w ⟨ρ, s⟩) (fun e => hf (of_decide_eq_false e) a w ⟨ρ, s⟩)
theorem Ez {ops : Array Oper} {l : List Oper} (t : Nat) {p : Prop} [Decidable p] (h : Cp F t = some (.b (decide p))) (ht : p → JO P ops l Γ ((t, .b true) :: F) H Q) (hf : ¬ p → JO P ops l Γ ((t, .b false) :: F) H Q) : JO P ops l Γ F H Q :=
  J7 t h (fun e => ht (of_decide_eq_true e)) (fun e => hf (of_decide_eq_false e))
theorem Bj {F' m F : Fr} (n : Nat) (hA : F'.drop n = F) (hk : L4 (F'.take n) m = true) (h : Says F' m) : Cov F' m F := by
  have e : F' = F'.take n ++ F := by rw [← hA, List.take_append_drop]
  have h' : Says (F'.take n ++ F) m := e ▸ h
  rw [e]
  exact Ab0 _ hk h'
theorem Cw {c : Operand} {x y : Code} (h : ovO F c = some (.b true)) (j : JC P x Γ F H Q) : JC P (.cond c x y) Γ F H Q := F7 h (fun _ => j) (fun e => by simp at e)
theorem A6 {c : Operand} {x y : Code} (h : ovO F c = some (.b false)) (j : JC P y Γ F H Q) : JC P (.cond c x y) Γ F H Q := F7 h (fun e => by simp at e) (fun _ => j)
theorem Ace {m : Int} (h1 : 0 ≤ m) (h2 : m < 256) : IntKind.u8.wrap m = m := by
  simp only [IntKind.wrap, IntKind.bits, IntKind.signed] <;> simp <;> omega
theorem Ak {m : Int} (h1 : -9223372036854775808 ≤ m) (h2 : m < 9223372036854775808) : IntKind.i64.wrap m = m := by
  simp only [IntKind.wrap, IntKind.bits, IntKind.signed] <;> simp <;> omega
theorem Bf {m : Int} (h1 : 0 ≤ m) (h2 : m < 18446744073709551616) : IntKind.u64.wrap m = m := by
  simp only [IntKind.wrap, IntKind.bits, IntKind.signed] <;> simp <;> omega
end


theorem Vz : ∀ (l : List Value) (k off : Nat) (cells : Array Value) (j : Nat),
    ((l.zipIdx k).foldl (fun (cs : Array Value) (p : Value × Nat) => cs.setIfInBounds (off + p.2) p.1) cells)[j]? = (if off + k ≤ j ∧ j < off + k + l.length ∧ j < cells.size then l[j - (off + k)]? else cells[j]?) ∧
    ((l.zipIdx k).foldl (fun (cs : Array Value) (p : Value × Nat) => cs.setIfInBounds (off + p.2) p.1) cells).size = cells.size
  | [], k, off, cells, j => by simp; intro h1 h2; omega
  | c :: l, k, off, cells, j => by
    rw [List.zipIdx_cons, List.foldl_cons]
    obtain ⟨h1, h2⟩ := Vz l (k + 1) off (cells.setIfInBounds (off + k) c) j
    refine ⟨?_, by rw [h2]; simp⟩
    rw [h1]
    simp only [Array.size_setIfInBounds, List.length_cons]
    by_cases hj : off + k ≤ j ∧ j < off + k + (l.length + 1) ∧ j < cells.size
    · rw [if_pos hj]
      by_cases hj2 : j = off + k
      · subst hj2
        rw [if_neg (by omega)]
        simp [hj.2.2]
      · rw [if_pos (by omega)]
        have : j - (off + k) = (j - (off + (k + 1))) + 1 := by omega
        rw [this]; rfl
    · rw [if_neg hj, if_neg (by omega)]
      by_cases hj2 : off + k = j
      · subst hj2
        have : ¬ off + k < cells.size := by omega
        simp [this]
      · rw [Array.getElem?_setIfInBounds_ne hj2]

theorem Cd {H : List Ob} {ys : List V} (h : ys.all (fun y => (cellsV y).all (Ij H)) = true) : ∀ y ∈ ys, (cellsV y).all (Ij H) = true := fun y hy => List.all_eq_true.1 h y hy
theorem Cz {H : List Ob} {ys : List V} {sz : Nat} (h : ys.all (fun y => Nat.beq (cellsV y).length sz && (cellsV y).all (Ij H)) = true) : ∀ y ∈ ys, (cellsV y).length = sz ∧ (cellsV y).all (Ij H) = true := fun y hy => by
  have := List.all_eq_true.1 h y hy
  rw [Bool.and_eq_true] at this
  exact ⟨Nat.eq_of_beq_eq_true this.1, this.2⟩
def Ajd : List V → List (Nat × Nat) → List V → List V
  | cs, (o, _) :: ps, y :: ys => Ajd (Gy cs o (cellsV y)) ps ys
  | cs, _, _ => cs
def Xi (P : Program) (T : TypeId) (is : List Nat) (pls : List (Nat × Nat)) : Bool :=
  match P.underlying T with
  | some (.struct fs) => fs.all (fun f => (P.info? f.type).isSome) && (is.map fun i => (fs[i]?).bind fun f => (P.info? f.type).map fun inf => (f.offset, inf.size)) == pls.map some
  | _ => false
def Ci (pls : List (Nat × Nat)) (ys : List V) (m : Nat) : Prop :=
  match pls, ys with
  | [], [] => True
  | (o, n) :: ps, y :: ys => (cellsV y).length = n ∧ o + n ≤ m ∧ Ci ps ys m
  | _, _ => False

section
variable {P : Program} {Γ : Ctx} {F : Fr} {H : List Ob} {Q : Exit → Fr → List Ob → Prop}
theorem V3 {ρ : List Re} {a : Act} {w : World} (s : StA Γ ρ F H a w) (place : Nat → Option (Nat × Nat)) : ∀ (is : List Nat) (pls : List (Nat × Nat)) (ys : List V) (us : List Value) (cur : Array Value) (cs : List V),
    is.map place = pls.map some → RelL w (Bb Γ.M ρ H) Γ.w0.heap.size ρ ys us → is.length = ys.length → Ci pls ys cs.length → (∀ y ∈ ys, (cellsV y).all (Ij H) = true) → cur.size = cs.length →
    (∀ (j : Nat) (y : V), cs[j]? = some y → ∃ c, cur[j]? = some c ∧ Rel w (Bb Γ.M ρ H) Γ.w0.heap.size ρ y c) →
    ∃ cells, Instr.fill place cur (is.zip us) = some cells ∧ cells.size = (Ajd cs pls ys).length ∧ ∀ (j : Nat) (y : V), (Ajd cs pls ys)[j]? = some y → ∃ c, cells[j]? = some c ∧ Rel w (Bb Γ.M ρ H) Γ.w0.heap.size ρ y c
  | [], [], [], us, cur, cs, _, hr, _, _, _, h1, h2 => by have : us = [] := hr; subst this; exact ⟨cur, rfl, h1, h2⟩
  | i :: is, (o, n) :: pls, y :: ys, us, cur, cs, hp, ⟨u, us', e, r1, r2⟩, hl, ⟨k1, k2, k3⟩, hone, h1, h2 => by
    subst e
    simp only [List.map_cons, List.cons.injEq] at hp
    obtain ⟨hs, hc⟩ := s.cellsV (hone y (List.mem_cons_self ..)) r1
    have hf := fun j => Vz u.cells.toList 0 o cur j
    have ef : u.cells.zipIdx.foldl (fun cs (x : Value × Nat) => cs.setIfInBounds (o + x.2) x.1) cur = (u.cells.toList.zipIdx 0).foldl (fun (cs : Array Value) (p : Value × Nat) => cs.setIfInBounds (o + p.2) p.1) cur := by
      rw [← Array.foldl_toList, Array.toList_zipIdx]
    have := V3 s place is pls ys us' (u.cells.zipIdx.foldl (fun cs (x : Value × Nat) => cs.setIfInBounds (o + x.2) x.1) cur) (Gy cs o (cellsV y)) hp.2 r2 (by simpa using hl) (by rw [Dx]; exact k3) (fun z hz => hone z (List.mem_cons_of_mem _ hz))
      (by rw [ef, (hf 0).2, Dx, h1]) (fun j z hz => by
        rw [ef, (hf j).1]
        have hjlt : j < cs.length := by have := (List.getElem?_eq_some_iff.1 hz).1; rwa [Dx] at this
        rcases Hz cs o (cellsV y) j z hz with ⟨a1, a2, a3⟩ | ⟨a1, a2⟩
        · obtain ⟨c, d1, _, d3⟩ := hc _ _ a3
          refine ⟨c, ?_, d3⟩
          rw [if_pos ⟨by omega, by simp [hs]; omega, by omega⟩]
          rw [← Array.getElem?_toList] at d1
          rw [← d1]; congr 1
        · obtain ⟨c, d1, d2⟩ := h2 j z a2
          refine ⟨c, ?_, d2⟩
          rw [if_neg (by simp [hs]; omega)]; exact d1)
    obtain ⟨cells, e1, e2, e3⟩ := this
    refine ⟨cells, ?_, e2, e3⟩
    show Instr.fill place cur ((i, u) :: is.zip us') = some cells
    unfold Instr.fill
    rw [hp.1]
    simp only []
    rw [if_neg (by simp [hs]; omega)]
    exact e1
theorem Bp {T : TypeId} {zs : List Value} {is : List Nat} {pls : List (Nat × Nat)} {parts : Array (Nat × Operand)} {xs : List Operand} {ys rs : List V} (hz : ((P.info? T).bind (·.zero)).map (·.cells.toList) = some zs)
    (hpl : Xi P T is pls = true) (hp : parts.toList = is.zip xs) (hx : ovL F xs ys) (hl : Nat.beq is.length xs.length = true) (hok : Ci pls ys zs.length) (hone : ∀ y ∈ ys, (cellsV y).all (Ij H) = true) (hrs : Ajd (zs.map cV) pls ys = rs) :
    LY P Γ (.build T parts) F H (.a rs) := fun ρ a w s => by
  have hl := Nat.eq_of_beq_eq_true hl
  have hr := s.ovL hx
  cases hu : P.underlying T with
  | none => simp [Xi, hu] at hpl
  | some D =>
    cases D with
    | struct fs =>
      simp only [Xi, hu, Bool.and_eq_true, beq_iff_eq] at hpl
      obtain ⟨hall, hpl⟩ := hpl
      cases hi : P.info? T with
      | none => rw [hi] at hz; cases hz
      | some inf =>
        rw [hi] at hz
        cases hz0 : inf.zero with
        | none => simp [hz0] at hz
        | some z =>
          simp [hz0] at hz
          let pl : Nat → Option (Nat × Nat) := fun i => (fs[i]?).bind fun f => (P.info? f.type).map fun inf => (f.offset, inf.size)
          have hys : xs.length = ys.length := by have := (Fw ys (xs.map a.eval) hr).1; simpa using this
          obtain ⟨cells, e1, e2, e3⟩ := V3 s pl is pls ys (xs.map a.eval) z.cells (zs.map cV) hpl hr (by omega) (by simpa using hok) hone (by rw [← hz]; simp) (fun j y hy => by
            rw [List.getElem?_map] at hy
            cases hj : zs[j]? with
            | none => rw [hj] at hy; cases hy
            | some v =>
              rw [hj] at hy; simp at hy; subst hy
              refine ⟨v, ?_, Uu _ _ _ _ _⟩
              rw [← hz] at hj; simpa using hj)
          have hmap : ∀ w', (fs.mapM (fun f => do pure (f.offset, ← sizeOf f.type) : Field → Sem (Nat × Nat))).run P w' = .ok (fs.map fun f => (f.offset, ((P.info? f.type).map (·.size)).getD 0)) w' := by
            intro w'
            rw [Array.mapM_eq_mapM_toList]
            have : ∀ l : List Field, (∀ f ∈ l, (P.info? f.type).isSome = true) → (l.mapM (fun f => do pure (f.offset, ← sizeOf f.type) : Field → Sem (Nat × Nat))).run P w' = .ok (l.map fun f => (f.offset, ((P.info? f.type).map (·.size)).getD 0)) w' := by
              intro l
              induction l with
              | nil => intro _; simp
              | cons f l ih =>
                intro h
                have hf := h f (List.mem_cons_self ..)
                cases hfi : P.info? f.type with
                | none => rw [hfi] at hf; simp at hf
                | some fi =>
                  have e : (sizeOf f.type).run P w' = .ok fi.size w' := Da (by simp [hfi]) w'
                  rw [List.mapM_cons]
                  simp only [Sem.run_bind, e, Result.andThen_ok, Sem.run_pure, ih (fun g hg => h g (List.mem_cons_of_mem _ hg)), List.map_cons, hfi, Option.map_some, Option.getD_some]
            have h2 := this fs.toList (fun f hf => by have := (Array.all_eq_true_iff_forall_mem.1 hall) f (by simpa using hf); exact this)
            have e0 : (List.toArray <$> fs.toList.mapM (fun f => do pure (f.offset, ← sizeOf f.type) : Field → Sem (Nat × Nat))) = (do let l ← fs.toList.mapM (fun f => do pure (f.offset, ← sizeOf f.type) : Field → Sem (Nat × Nat)); pure l.toArray) := rfl
            rw [e0, Sem.run_bind, h2]
            simp only [Result.andThen_ok, Sem.run_pure]
            congr 1
            apply Array.ext'
            simp
          have hplaces : ∀ i, (fs.map fun f => (f.offset, ((P.info? f.type).map (·.size)).getD 0))[i]? = pl i := by
            intro i
            simp only [pl, Array.getElem?_map]
            cases hfi : fs[i]? with
            | none => rfl
            | some f =>
              have := (Array.all_eq_true_iff_forall_mem.1 hall) f (Array.mem_of_getElem? hfi)
              cases hg : P.info? f.type with
              | none => rw [hg] at this; simp at this
              | some g => simp [hg]
          have hparts : (parts.map fun (i, x) => (i, a.eval x)).toList = is.zip (xs.map a.eval) := by
            rw [Array.toList_map, hp]
            have : ∀ (is : List Nat) (xs : List Operand), (is.zip xs).map (fun (p : Nat × Operand) => (p.1, a.eval p.2)) = is.zip (xs.map a.eval) := by
              intro is
              induction is with
              | nil => intro xs; rfl
              | cons i is ih => intro xs; cases xs with
                | nil => rfl
                | cons x xs => simp [ih]
            exact this is xs
          refine ⟨.agg cells, ⟨cells.toList, by simp, ?_⟩, fun _ _ _ _ _ w' _ => ?_⟩
          · have : ∀ (rs : List V) (us : List Value), us.length = rs.length → (∀ (j : Nat) (y : V), rs[j]? = some y → ∃ c, us[j]? = some c ∧ Rel w (Bb Γ.M ρ H) Γ.w0.heap.size ρ y c) → RelL w (Bb Γ.M ρ H) Γ.w0.heap.size ρ rs us := by
              intro rs
              induction rs with
              | nil => intro us h _; exact List.eq_nil_of_length_eq_zero (by simpa using h)
              | cons y rs ih =>
                intro us h h2
                cases us with
                | nil => simp at h
                | cons u us =>
                  obtain ⟨c, c1, c2⟩ := h2 0 y rfl
                  simp at c1; subst c1
                  exact ⟨u, us, rfl, c2, ih us (by simpa using h) fun j z hz => by simpa using h2 (j + 1) z (by simpa using hz)⟩
            refine this rs cells.toList (by rw [← hrs]; simpa using e2) fun j y hy => ?_
            rw [← hrs] at hy
            obtain ⟨c, c1, c2⟩ := e3 j y hy
            exact ⟨c, by simpa using c1, c2⟩
          · have e : (Instr.build T (parts.map fun (i, x) => (i, a.eval x))).run P w' = .ok (.agg cells) w' := by
              have hzv : (zeroValue T).run P w' = .ok z w' := by simp [zeroValue, typeInfo, hi, hz0]
              unfold Instr.build
              simp only [Sem.run_bind, hzv, Result.andThen_ok, run_underlying hu, hmap, hparts]
              rw [show (fun x => (fs.map fun f => (f.offset, ((P.info? f.type).map (·.size)).getD 0))[x]?) = pl from funext hplaces, e1]
              rfl
            exact El e
    | _ => simp [Xi, hu] at hpl
end

section
variable {P : Program} {Γ : Ctx} {F : Fr} {H : List Ob} {Q : Exit → Fr → List Ob → Prop}

theorem Ad5 {T : TypeId} {x : Operand} {y z : V} {ys : List V} (hT : Iz P T = true) (hx : ovO F x = some (.q ys)) (hy : ys[0]? = some y) (hz : old y = z) : LY P Γ (.load T x) F H z := by
  cases ys with
  | nil => simp at hy
  | cons y0 us => simp at hy; subst hy; exact B8 hT hx hz
end


mutual
def idB (n : Nat) : V → Bool
  | .p id _ _ => Nat.blt id n
  | .o id _ _ _ => Nat.blt id n
  | .f _ cs => S7 n cs
  | .a cs => S7 n cs
  | .t cs => S7 n cs
  | _ => true
def S7 (n : Nat) : List V → Bool
  | [] => true
  | y :: ys => idB n y && S7 n ys
end
section
variable {P : Program} {Γ : Ctx} {F : Fr} {H : List Ob} {Q : Exit → Fr → List Ob → Prop}
mutual
theorem Rel.cut {w : World} {L : Nat → Prop} {B n : Nat} {ρ : List Re} : ∀ (y : V) (v : Value), idB n y = true → Rel w L B ρ y v → Rel w L B (ρ.take n) y v
  | .i _ _, _, _, h => h
  | .b _, _, _, h => h
  | .s _, _, _, h => h
  | .c _, _, _, h => h
  | .n _ _ _, _, _, h => h
  | .l _ _ _, _, _, h => h
  | .q _, _, _, h => h
  | .u, _, _, h => h
  | .p id _ _, _, hi, ⟨re, e, h⟩ => ⟨re, by rw [List.getElem?_take, if_pos (by simpa [idB] using hi)]; exact e, h⟩
  | .o id _ _ _, _, hi, ⟨re, e, h⟩ => ⟨re, by rw [List.getElem?_take, if_pos (by simpa [idB] using hi)]; exact e, h⟩
  | .f _ cs, _, hi, ⟨us, e, h⟩ => ⟨us, e, RelL.cut cs us hi h⟩
  | .a cs, _, hi, ⟨us, e, h⟩ => ⟨us, e, RelL.cut cs us hi h⟩
  | .t cs, _, hi, ⟨us, e, h⟩ => ⟨us, e, RelL.cut cs us hi h⟩
theorem RelL.cut {w : World} {L : Nat → Prop} {B n : Nat} {ρ : List Re} : ∀ (ys : List V) (us : List Value), S7 n ys = true → RelL w L B ρ ys us → RelL w L B (ρ.take n) ys us
  | [], _, _, h => h
  | y :: ys, us, hi, ⟨u, us', e, h1, h2⟩ => by
    simp only [S7, Bool.and_eq_true] at hi
    exact ⟨u, us', e, Rel.cut y u hi.1 h1, RelL.cut ys us' hi.2 h2⟩
end
def ObsId (n : Nat) (H : List Ob) : Prop := ∀ ob ∈ H, ob.live = true → ∀ y ∈ ob.cs, idB n y = true
theorem ObsId.nil {n : Nat} : ObsId n [] := fun _ h => by simp at h
theorem ObsId.cons {n : Nat} {ob : Ob} {H : List Ob} (h : ob.cs.all (idB n) = true) (hs : ObsId n H) : ObsId n (ob :: H) := fun o ho hl y hy => by
  rcases List.mem_cons.1 ho with rfl | ho
  · exact List.all_eq_true.1 h y hy
  · exact hs o ho hl y hy
theorem ObsId.dead {n : Nat} {ob : Ob} {H : List Ob} (h : ob.live = false) (hs : ObsId n H) : ObsId n (ob :: H) := fun o ho hl y hy => by
  rcases List.mem_cons.1 ho with rfl | ho
  · rw [h] at hl; simp at hl
  · exact hs o ho hl y hy
theorem Bc {n : Nat} {k : IntKind} {l : List Int} : (ints k l).all (idB n) = true := by
  rw [List.all_eq_true]
  intro y hy
  obtain ⟨x, _, rfl⟩ := List.mem_map.1 hy
  rfl
theorem StA.cut {ρ : List Re} {a : Act} {w : World} (n : Nat) (s : StA Γ ρ F H a w) (hF : F.all (fun p => idB n p.2) = true) (hO : ObsId n (H.take n)) (hΓ : Γ.ρ0 = []) : StA Γ (ρ.take n) F (H.take n) a w := by
  have at1 : ∀ (i : Nat) (o : Ob), (H.take n)[i]? = some o → i < n ∧ H[i]? = some o := fun i o h => by
    rw [List.getElem?_take] at h
    split at h
    · exact ⟨by assumption, h⟩
    · cases h
  have at2 : ∀ (i : Nat) (r : Re), (ρ.take n)[i]? = some r → ρ[i]? = some r := fun i r h => by
    rw [List.getElem?_take] at h
    split at h
    · exact h
    · cases h
  have lsub : ∀ b, Bb Γ.M (ρ.take n) (H.take n) b → Bb Γ.M ρ H b := by
    rintro b (h | ⟨i, o, r, h1, h2, h3, h4⟩)
    · exact .inl h
    · exact .inr ⟨i, o, r, (at1 i o h1).2, h2, at2 i r h3, h4⟩
  have ev : Ev w (Bb Γ.M ρ H) Γ.w0.heap.size (ρ.take n) w (Bb Γ.M (ρ.take n) (H.take n)) Γ.w0.heap.size (ρ.take n) :=
    ⟨Nat.le_refl _, fun _ _ _ => rfl, fun b _ hn h => hn (lsub b h), Nat.le_refl _, fun i r h => ⟨r, h, Nat.le_refl _, fun _ => rfl⟩⟩
  refine ⟨⟨by simp [s.hr.len], fun i o h1 h2 => ?_, fun i j oi oj ri rj g hij h1 h2 h3 h4 h5 h6 => s.hr.apart i j oi oj ri rj g hij (at1 i oi h1).2 h2 (at1 j oj h3).2 h4 (at2 i ri h5) (at2 j rj h6), fun i o r g h1 h2 h3 => s.hr.foreign i o r g (at1 i o h1).2 h2 (at2 i r h3)⟩, s.n, s.ds, fun t => ?_,
    ⟨s.fro.os, s.fro.tape, s.fro.output, s.fro.size, s.fro.blk, s.fro.old, fun i o r g h1 h2 h3 => s.fro.mine i o r g (at1 i o h1).2 h2 (at2 i r h3), fun i r h => by rw [hΓ] at h; simp at h⟩⟩
  · obtain ⟨hin, h1'⟩ := at1 i o h1
    obtain ⟨r, h3, h4⟩ := s.hr.ob i o h1' h2
    refine ⟨r, by rw [List.getElem?_take, if_pos hin]; exact h3, h4.ver, h4.sz, h4.nob, fun g hg => ?_⟩
    obtain ⟨cur, c1, c2, c3, c4, c5⟩ := h4.blk g hg
    exact ⟨cur, c1, c2, c3, c4, fun j y hy => by
      obtain ⟨u, d1, d2, d3⟩ := c5 j y hy
      exact ⟨u, d1, d2, (d3.cut y u (hO o (List.mem_of_getElem? h1) h2 y (List.mem_of_getElem? hy))).ev ev⟩⟩
  · have := s.fr t
    have hid : idB n (get F t) = true := by
      unfold get
      cases e : Cp F t with
      | none => rfl
      | some y =>
        have : ∀ (F : Fr) y, F.all (fun p => idB n p.2) = true → Cp F t = some y → idB n y = true := by
          intro F
          induction F with
          | nil => intro y _ h; simp [Cp] at h
          | cons p F ih =>
            intro y ha h
            simp only [List.all_cons, Bool.and_eq_true] at ha
            simp only [Cp] at h
            cases hb : Nat.beq t p.1
            · rw [hb] at h; exact ih y ha.2 h
            · rw [hb] at h; injection h with h; rw [← h]; exact ha.1
        exact this F y hF e
    exact (this.cut _ _ hid).ev ev
theorem Fy {c : Code} {G : Type} (n : Nat) (C : G → Prop) (m : G → Fr) (Hg : G → List Ob) (μ : G → Nat) (g0 : G) (h0 : C g0) (hF : Says F (m g0)) (hH : H = Hg g0) (hΓ : Γ.ρ0 = []) (hFn : F.all (fun p => idB n p.2) = true)
    (hm : ∀ g, C g → (m g).all (fun p => idB n p.2) = true) (hO : ∀ g, C g → ObsId n (Hg g))
    (round : ∀ g, C g → JC P c Γ (m g ++ F) (Hg g) (I5 (fun F' H' => ∃ g', C g' ∧ μ g' < μ g ∧ H'.take n = Hg g' ∧ Cov F' (m g') F) Q)) : JC P (.loop c) Γ F H Q :=
  Qh C (fun g => m g ++ F) Hg μ g0 h0 (fun a w s => hH ▸ s.cov (Le hF)) fun g hg =>
    Nt (fun e F' H' q => by
      cases e with
      | normal =>
        obtain ⟨g', h1, h2, h3, h4⟩ := q
        refine ⟨g', h1, h2, fun a w s => ?_⟩
        obtain ⟨ρ, s'⟩ := s.cov h4
        exact ⟨_, h3 ▸ s'.cut n (by rw [List.all_append, hFn, hm g' h1]; rfl) (by rw [h3]; exact hO g' h1) hΓ⟩
      | _ => exact q) (round g hg)
theorem Acv (p q : ByteArray) : (p.toList == q.toList) = decide (p = q) := by
  rw [ByteArray.toList_eq, ByteArray.toList_eq]
  by_cases h : p = q
  · subst h; simp
  · rw [decide_eq_false h]
    cases hb : (p.data.toList == q.data.toList)
    · rfl
    · have e := eq_of_beq hb
      exact absurd (by cases p; cases q; simp at e; rw [e]) h
theorem Ahn {x y : Operand} {T T' : TypeId} {p q : ByteArray} (hx : ovO F x = some (.s p)) (hy : ovO F y = some (.s q)) : LY P Γ (.binOp .eql T x y T') F H (.b (decide (p = q))) := by
  rw [← Acv]; exact Ahl hx hy
theorem E6 {op : Op} {p : Prop} [Decidable p] (h : LY P Γ op F H (.b (decide p))) (hp : p) : LY P Γ op F H (.b true) := by rwa [decide_eq_true hp] at h
theorem B0 {op : Op} {p : Prop} [Decidable p] (h : LY P Γ op F H (.b (decide p))) (hp : ¬ p) : LY P Γ op F H (.b false) := by rwa [decide_eq_false hp] at h
theorem Bk {op : Op} {y z : V} (h : LY P Γ op F H y) (e : y = z) : LY P Γ op F H z := e ▸ h
theorem Mu : ∀ (cs ys : List V), cs.length = ys.length → Gy cs 0 ys = ys := fun cs ys h => by
  apply List.ext_getElem?
  intro j
  cases e : (Gy cs 0 ys)[j]? with
  | none =>
    have : cs.length ≤ j := by have := List.getElem?_eq_none_iff.1 e; rwa [Dx] at this
    rw [List.getElem?_eq_none (by omega)]
  | some y =>
    rcases Hz cs 0 ys j y e with ⟨_, _, h3⟩ | ⟨h1, h2⟩
    · rw [← h3]; rfl
    · have := (List.getElem?_eq_some_iff.1 h2).1
      omega
theorem T0 {ys : List V} {n : Nat} (h : ys.length = n) : Km ys 0 n = ys := by rw [Id, List.drop_zero, ← h, List.take_length]
theorem Y6 {k : IntKind} {l : List Int} : (ints k l).all (Ij H) = true := by
  rw [List.all_eq_true]
  intro y hy
  obtain ⟨x, _, rfl⟩ := List.mem_map.1 hy
  rfl
theorem Vs {c : Code} (t : Nat) {id : Nat} (T sz : Nat) (hx : Cp F t = some (.c (.slice none 0 0))) (hid : H.length = id) (j : JC P c Γ ((t, .o id 0 0 0) :: F) (H ++ [⟨T, sz, 0, true, []⟩]) Q) : JC P c Γ F H Q := fun a w ⟨ρ, s⟩ => by
  have s' := s.born (re := ⟨none, 0, 0, sz⟩) (ob := ⟨T, sz, 0, true, []⟩) (w' := w) ⟨rfl, rfl, rfl, Nat.le_refl _, fun _ _ _ => rfl⟩ rfl rfl rfl (fun g h => by cases h) (fun _ => ⟨rfl, rfl⟩) (fun g h => by cases h)
  refine j a w ⟨_, s'.hr, s'.n, s'.ds, fun t' => ?_, s'.fro⟩
  rw [Iu]
  by_cases e : t' = t
  · rw [if_pos e]
    have h1 := s'.fr t'
    unfold get at h1
    rw [e, hx] at h1
    rw [e]
    have h2 : a.tmps.getD t undef = .slice none 0 0 := h1
    refine ⟨⟨none, 0, 0, sz⟩, ?_, Nat.zero_le _, fun _ => ⟨Nat.le_refl _, .inr ⟨rfl, h2, rfl, rfl⟩⟩⟩
    rw [← hid, ← s.hr.len]
    simp
  · rw [if_neg e]; exact s'.fr t'
end


mutual
def Yp : V → Bool
  | .n fr _ _ => !fr
  | .l fr _ _ => !fr
  | .f _ cs => S3 cs
  | .a cs => S3 cs
  | .t cs => S3 cs
  | _ => true
def S3 : List V → Bool
  | [] => true
  | y :: ys => Yp y && S3 ys
end
mutual
theorem Yf {w : World} {L : Nat → Prop} {B B' : Nat} {ρ : List Re} : ∀ (y : V) (v : Value), Yp y = true → Rel w L B ρ y v → Rel w L B' ρ y v
  | .i _ _, _, _, h => h
  | .b _, _, _, h => h
  | .s _, _, _, h => h
  | .c _, _, _, h => h
  | .n fr _ _, _, hf, ⟨A, c, e, h1, h2, h3⟩ => ⟨A, c, e, h1, h2, fun hl => by obtain ⟨ad, e1, hb, hc⟩ := h3 hl; exact ⟨ad, e1, ⟨hb.1, hb.2.1, fun hfr => by subst hfr; simp [Yp] at hf⟩, hc⟩⟩
  | .l fr _ _, _, hf, ⟨A, c, e, h1, h2, h3⟩ => ⟨A, c, e, h1, h2, fun hl => by obtain ⟨ad, e1, hb, hc⟩ := h3 hl; exact ⟨ad, e1, ⟨hb.1, hb.2.1, fun hfr => by subst hfr; simp [Yp] at hf⟩, hc⟩⟩
  | .q _, _, _, ⟨ad, e, hb, hc⟩ => ⟨ad, e, ⟨hb.1, hb.2.1, by simp⟩, hc⟩
  | .p _ _ _, _, _, h => h
  | .o _ _ _ _, _, _, h => h
  | .f _ cs, _, hf, ⟨us, e, h⟩ => ⟨us, e, Rl cs us hf h⟩
  | .u, _, _, _ => trivial
  | .a cs, _, hf, ⟨us, e, h⟩ => ⟨us, e, Rl cs us hf h⟩
  | .t cs, _, hf, ⟨us, e, h⟩ => ⟨us, e, Rl cs us hf h⟩
theorem Rl {w : World} {L : Nat → Prop} {B B' : Nat} {ρ : List Re} : ∀ (ys : List V) (us : List Value), S3 ys = true → RelL w L B ρ ys us → RelL w L B' ρ ys us
  | [], _, _, h => h
  | y :: ys, us, hf, ⟨u, us', e, h1, h2⟩ => by
    simp only [S3, Bool.and_eq_true] at hf
    exact ⟨u, us', e, Yf y u hf.1 h1, Rl ys us' hf.2 h2⟩
end
mutual
theorem I4 {w : World} {L : Nat → Prop} {B B' : Nat} {ρ : List Re} (hB : B' ≤ B) : ∀ (y : V) (v : Value), Rel w L B ρ y v → Rel w L B' ρ y v
  | .i _ _, _, h => h
  | .b _, _, h => h
  | .s _, _, h => h
  | .c _, _, h => h
  | .n _ _ _, _, ⟨A, c, e, h1, h2, h3⟩ => ⟨A, c, e, h1, h2, fun hl => by obtain ⟨ad, e1, hb, hc⟩ := h3 hl; exact ⟨ad, e1, ⟨hb.1, hb.2.1, fun e => Nat.le_trans hB (hb.2.2 e)⟩, hc⟩⟩
  | .l _ _ _, _, ⟨A, c, e, h1, h2, h3⟩ => ⟨A, c, e, h1, h2, fun hl => by obtain ⟨ad, e1, hb, hc⟩ := h3 hl; exact ⟨ad, e1, ⟨hb.1, hb.2.1, fun e => Nat.le_trans hB (hb.2.2 e)⟩, hc⟩⟩
  | .q _, _, ⟨ad, e, hb, hc⟩ => ⟨ad, e, ⟨hb.1, hb.2.1, by simp⟩, hc⟩
  | .p _ _ _, _, h => h
  | .o _ _ _ _, _, h => h
  | .f _ cs, _, ⟨us, e, h⟩ => ⟨us, e, J2 hB cs us h⟩
  | .u, _, _ => trivial
  | .a cs, _, ⟨us, e, h⟩ => ⟨us, e, J2 hB cs us h⟩
  | .t cs, _, ⟨us, e, h⟩ => ⟨us, e, J2 hB cs us h⟩
theorem J2 {w : World} {L : Nat → Prop} {B B' : Nat} {ρ : List Re} (hB : B' ≤ B) : ∀ (ys : List V) (us : List Value), RelL w L B ρ ys us → RelL w L B' ρ ys us
  | [], _, h => h
  | y :: ys, us, ⟨u, us', e, h1, h2⟩ => ⟨u, us', e, I4 hB y u h1, J2 hB ys us' h2⟩
end
def Gg (H : List Ob) : Prop := ∀ ob ∈ H, ob.live = true → ∀ y ∈ ob.cs, Yp y = true
theorem HR.toB {M : Nat → Prop} {w : World} {B B' : Nat} {ρ : List Re} {H : List Ob} (h : HR M w B ρ H) (hf : Gg H) : HR M w B' ρ H :=
  ⟨h.len, fun i o h1 h2 => by
    obtain ⟨r, h3, h4⟩ := h.ob i o h1 h2
    refine ⟨r, h3, h4.ver, h4.sz, h4.nob, fun g hg => ?_⟩
    obtain ⟨cur, c1, c2, c3, c4, c5⟩ := h4.blk g hg
    exact ⟨cur, c1, c2, c3, c4, fun j y hy => by obtain ⟨u, d1, d2, d3⟩ := c5 j y hy; exact ⟨u, d1, d2, Yf y u (hf o (List.mem_of_getElem? h1) h2 y (List.mem_of_getElem? hy)) d3⟩⟩, h.apart, h.foreign⟩
theorem HR.leB {M : Nat → Prop} {w : World} {B B' : Nat} {ρ : List Re} {H : List Ob} (hB : B' ≤ B) (h : HR M w B ρ H) : HR M w B' ρ H :=
  ⟨h.len, fun i o h1 h2 => by
    obtain ⟨r, h3, h4⟩ := h.ob i o h1 h2
    refine ⟨r, h3, h4.ver, h4.sz, h4.nob, fun g hg => ?_⟩
    obtain ⟨cur, c1, c2, c3, c4, c5⟩ := h4.blk g hg
    exact ⟨cur, c1, c2, c3, c4, fun j y hy => by obtain ⟨u, d1, d2, d3⟩ := c5 j y hy; exact ⟨u, d1, d2, I4 hB y u d3⟩⟩, h.apart, h.foreign⟩

def Lf (w : World) (L : Nat → Prop) (B : Nat) (ρ : List Re) : Out → Ending → Prop
  | .ret y, e => ∃ v, e = .returned v ∧ Rel w L B ρ y v
  | .pan c, e => e = .panicked c
def Jc (ρ : List Re) (H : List Ob) (b : Nat) : Prop := ∃ (id : Nat) (ob : Ob) (re : Re), H[id]? = some ob ∧ ob.live = true ∧ ρ[id]? = some re ∧ re.g = some b
def SpecM (P : Program) (f : FuncId) (args : List V) (H : List Ob) (post : Out → List Ob → Prop) : Prop :=
  ∀ (M : Nat → Prop) (w : World) (ρ : List Re) (vals : List Value), (∀ b, M b → b < w.heap.size) → HR M w w.heap.size ρ H → RelL w (Bb M ρ H) w.heap.size ρ args vals →
    Calls P f vals.toArray w fun e w' => ∃ o H' ρ', post o H' ∧ Lf w' (Bb M ρ' H') w.heap.size ρ' o e ∧ HR M w' w.heap.size ρ' H' ∧
      w'.os = w.os ∧ w'.tape = w.tape ∧ w'.output = w.output ∧ Ev w (Bb M ρ H) w.heap.size ρ w' (Bb M ρ' H') w.heap.size ρ' ∧
      (∀ (id : Nat) (ob : Ob) (re : Re) (g : Nat), H'[id]? = some ob → ob.live = true → ρ'[id]? = some re → re.g = some g → w.heap.size ≤ g ∨ Jc ρ H g) ∧ (∀ b, b < w.heap.size → ¬ Jc ρ H b → w'.heap[b]? = w.heap[b]?)

section
variable {P : Program} {Γ : Ctx} {F : Fr} {H : List Ob} {Q : Exit → Fr → List Ob → Prop}
inductive ArgM : V → V → Prop
  | same {y : V} (h : Yp y = true) : ArgM y y
  | n {fr : Bool} {k : IntKind} {l : List Int} : ArgM (.n fr k l) (.n false k l)
  | nil {k : IntKind} : ArgM (.c (.slice none 0 0)) (.n false k [])
  | l {fr : Bool} {sz : Nat} {es : List (List V)} : ArgM (.l fr sz es) (.l false sz es)
theorem ArgM.rel {w : World} {L : Nat → Prop} {B B' : Nat} {ρ : List Re} {y z : V} (h : ArgM y z) {v : Value} (r : Rel w L B ρ y v) : Rel w L B' ρ z v := by
  cases h with
  | same h => exact Yf _ _ h r
  | n => obtain ⟨A, c, e, h1, h2, h3⟩ := r; exact ⟨A, c, e, h1, h2, fun hl => by obtain ⟨ad, e1, hb, hc⟩ := h3 hl; exact ⟨ad, e1, ⟨hb.1, hb.2.1, by simp⟩, hc⟩⟩
  | nil => rw [show v = .slice none 0 0 from r]; exact Pz
  | l => obtain ⟨A, c, e, h1, h2, h3⟩ := r; exact ⟨A, c, e, h1, h2, fun hl => by obtain ⟨ad, e1, hb, hc⟩ := h3 hl; exact ⟨ad, e1, ⟨hb.1, hb.2.1, by simp⟩, hc⟩⟩
def ArgML : List V → List V → Prop
  | [], zs => zs = []
  | y :: ys, zs => ∃ z zs', zs = z :: zs' ∧ ArgM y z ∧ ArgML ys zs'
theorem ArgML.nil : ArgML [] [] := rfl
theorem ArgML.cons {y z : V} {ys zs : List V} (h : ArgM y z) (hs : ArgML ys zs) : ArgML (y :: ys) (z :: zs) := ⟨z, zs, rfl, h, hs⟩
theorem ArgML.rel {w : World} {L : Nat → Prop} {B B' : Nat} {ρ : List Re} : ∀ {ys zs : List V} (us : List Value), ArgML ys zs → RelL w L B ρ ys us → RelL w L B' ρ zs us
  | [], zs, us, h, hr => by rw [show zs = [] from h]; exact hr
  | y :: ys, zs, us, ⟨z, zs', e, h1, h2⟩, ⟨u, us', e2, h3, h4⟩ => by rw [e]; exact ⟨u, us', e2, h1.rel h3, h2.rel us' h4⟩
theorem Xm {f : FuncId} {fn : Func} {dst : Option Tmp} {T : TypeId} {ps : String} {af : Array Edge} {g : Option (Nat × Bool)} {c : Operand} {args : Array Operand} {ts : Array TypeId} {ys zs : List V} {post : Out → List Ob → Prop}
    (hc : ovO F c = some (.f f [])) (hf : P.funcs[f]? = some fn) (hb : fn.body.isSome = true) (hn : (fn.name == "runtime.NumGoroutine") = false) (hx : ovL F args.toList ys) (ha : ArgML ys zs) (hfl : Gg H) (hs : SpecM P f zs H post) {ρ : List Re} {a : Act} {w : World} (s : StA Γ ρ F H a w) {K : Act → World → Prop} {R : Exit → Act → World → Prop}
    (k : ∀ y v w' H' ρ', post (.ret y) H' → Rel w' (Bb Γ.M ρ' H') Γ.w0.heap.size ρ' y v → StA Γ ρ' F H' a w' → K (a.put dst v) w')
    (kp : ∀ ch w' H' ρ', post (.pan ch) H' → StA Γ ρ' F H' a w' → R (.panic ch) a w') :
    (⟨dst, .call { callee := .value c, args := args, argTypes := ts }, T, ps, af, g⟩ : Oper).wp P a w K R := by
  obtain ⟨us0, hcv, hcr⟩ := s.ov hc
  have hus0 : us0 = [] := hcr
  subst hus0
  have hr := s.ovL hx
  have hargs : args.map a.eval = (args.toList.map a.eval).toArray := by apply Array.ext'; rw [Array.toList_map]
  have hMlt : ∀ b, Γ.M b → b < w.heap.size := fun b h => Nat.lt_of_lt_of_le (s.fro.old b h) s.fro.size
  have hcall := hs Γ.M w ρ (args.toList.map a.eval) hMlt (s.hr.toB hfl) (ha.rel _ hr)
  have hrun : (execOp a.eval ⟨dst, .call { callee := .value c, args := args, argTypes := ts }, T, ps, af, g⟩).run P w = .ok (.enter f (args.toList.map a.eval).toArray) w := by
    have hb' : ¬ fn.body = none := by intro h; rw [h] at hb; cases hb
    have hn' : ¬ fn.name = "runtime.NumGoroutine" := by simpa using hn
    simp [execOp, resolve, hcv, Deferred.ofValue, invoke, callFunc, program, Sem.run, hf]
    rw [if_neg hn', if_neg hb', hargs]
  unfold Oper.wp
  rw [hrun]
  show Calls P f _ w _
  refine hcall.mono fun e w' ⟨o, H', ρ', h1, h2, h3, h4, h5, h6, ev, h8, h9⟩ => ?_
  have ev' : Ev w (Bb Γ.M ρ H) Γ.w0.heap.size ρ w' (Bb Γ.M ρ' H') Γ.w0.heap.size ρ' := ⟨ev.size, ev.blk, ev.lv, Nat.le_refl _, ev.rho⟩
  have s' : StA Γ ρ' F H' a w' := by
    refine ⟨h3.leB s.fro.size, s.n, s.ds, fun t => (s.fr t).ev ev', ⟨h4.trans s.fro.os, h5.trans s.fro.tape, h6.trans s.fro.output, Nat.le_trans s.fro.size ev.size, fun b hlt hnl => ?_, s.fro.old, fun i o r g k1 k2 k3 k4 => ?_, fun i r hi => ?_⟩⟩
    · rw [h9 b (Nat.lt_of_lt_of_le hlt s.fro.size) (by
        rintro ⟨i, o, r, k1, k2, k3, k4⟩
        rcases s.fro.mine i o r b k1 k2 k3 k4 with h | h
        · omega
        · exact hnl h)]
      exact s.fro.blk b hlt hnl
    · rcases h8 i o r g k1 k2 k3 k4 with h | ⟨i', o', r', k1', k2', k3', k4'⟩
      · exact .inl (Nat.le_trans s.fro.size h)
      · exact s.fro.mine i' o' r' g k1' k2' k3' k4'
    · obtain ⟨r1, e1, e2, e3⟩ := s.fro.rho i r hi
      obtain ⟨r2, f1, f2, f3⟩ := ev.rho i r1 e1
      refine ⟨r2, f1, Nat.le_trans e2 f2, fun e => ?_⟩
      have hv1 : r.ver = r1.ver := by omega
      have : r1 = r := e3 hv1
      subst this
      exact f3 e
  cases o with
  | ret y =>
    obtain ⟨v, rfl, hr'⟩ := h2
    exact k y v w' H' ρ' h1 (I4 s.fro.size y v hr') s'
  | pan ch =>
    have : e = .panicked ch := h2
    subst this
    exact kp ch w' H' ρ' h1 s'
theorem Gu {f : FuncId} (fn : Func) {ops : Array Oper} {rest : List Oper} {d : Nat} {T : TypeId} {ps : String} {af : Array Edge} {args : Array Operand} {ts : Array TypeId} {c : Operand} {ys zs : List V} {post : Out → List Ob → Prop}
    (hs : SpecM P f zs H post) (hc : ovO F c = some (.f f [])) (hf : P.funcs[f]? = some fn) (hb : fn.body.isSome = true) (hn : (fn.name == "runtime.NumGoroutine") = false) (hx : ovL F args.toList ys) (ha : ArgML ys zs) (hfl : Gg H) (hd : d < Γ.N)
    (k : ∀ y H', post (.ret y) H' → JO P ops rest Γ ((d, y) :: F) H' Q) (kp : ∀ ch H', post (.pan ch) H' → Q (.panic ch) F H') :
    JO P ops (⟨some d, .call { callee := .value c, args := args, argTypes := ts }, T, ps, af, none⟩ :: rest) Γ F H Q := fun a w ⟨ρ, s⟩ =>
  wpList_plain rfl fun K hK => Xm hc hf hb hn hx ha hfl hs s (fun y v w' H' ρ' h1 h2 h4 => hK _ _ (k y H' h1 _ _ ⟨ρ', h4.put hd h2⟩)) (fun ch w' H' ρ' h1 h3 => ⟨F, H', kp ch H' h1, ρ', h3⟩)
theorem Dz : Gg [] := fun _ h => by simp at h
theorem De {ob : Ob} {H : List Ob} (h : ob.cs.all Yp = true) (hs : Gg H) : Gg (ob :: H) := fun o ho hl y hy => by
  rcases List.mem_cons.1 ho with rfl | ho
  · exact List.all_eq_true.1 h y hy
  · exact hs o ho hl y hy
theorem Fe {k : IntKind} {l : List Int} : (ints k l).all Yp = true := by
  rw [List.all_eq_true]
  intro y hy
  obtain ⟨x, _, rfl⟩ := List.mem_map.1 hy
  rfl
theorem StA.cutn {ρ : List Re} {a : Act} {w : World} (n : Nat) (s : StA Γ ρ F H a w) (hO : ObsId n (H.take n)) (hΓ : Γ.ρ0.length ≤ n) : HR Γ.M w Γ.w0.heap.size (ρ.take n) (H.take n) ∧ Fro Γ (ρ.take n) (H.take n) w ∧ (∀ b, Bb Γ.M (ρ.take n) (H.take n) b → Bb Γ.M ρ H b) := by
  have at1 : ∀ (i : Nat) (o : Ob), (H.take n)[i]? = some o → i < n ∧ H[i]? = some o := fun i o h => by
    rw [List.getElem?_take] at h
    split at h
    · exact ⟨by assumption, h⟩
    · cases h
  have at2 : ∀ (i : Nat) (r : Re), (ρ.take n)[i]? = some r → ρ[i]? = some r := fun i r h => by
    rw [List.getElem?_take] at h
    split at h
    · exact h
    · cases h
  have lsub : ∀ b, Bb Γ.M (ρ.take n) (H.take n) b → Bb Γ.M ρ H b := by
    rintro b (h | ⟨i, o, r, h1, h2, h3, h4⟩)
    · exact .inl h
    · exact .inr ⟨i, o, r, (at1 i o h1).2, h2, at2 i r h3, h4⟩
  have ev : Ev w (Bb Γ.M ρ H) Γ.w0.heap.size (ρ.take n) w (Bb Γ.M (ρ.take n) (H.take n)) Γ.w0.heap.size (ρ.take n) :=
    ⟨Nat.le_refl _, fun _ _ _ => rfl, fun b _ hn h => hn (lsub b h), Nat.le_refl _, fun i r h => ⟨r, h, Nat.le_refl _, fun _ => rfl⟩⟩
  refine ⟨⟨by simp [s.hr.len], fun i o h1 h2 => ?_, fun i j oi oj ri rj g hij h1 h2 h3 h4 h5 h6 => s.hr.apart i j oi oj ri rj g hij (at1 i oi h1).2 h2 (at1 j oj h3).2 h4 (at2 i ri h5) (at2 j rj h6), fun i o r g h1 h2 h3 => s.hr.foreign i o r g (at1 i o h1).2 h2 (at2 i r h3)⟩,
    ⟨s.fro.os, s.fro.tape, s.fro.output, s.fro.size, s.fro.blk, s.fro.old, fun i o r g h1 h2 h3 => s.fro.mine i o r g (at1 i o h1).2 h2 (at2 i r h3), fun i r h => ?_⟩, lsub⟩
  · obtain ⟨hin, h1'⟩ := at1 i o h1
    obtain ⟨r, h3, h4⟩ := s.hr.ob i o h1' h2
    refine ⟨r, by rw [List.getElem?_take, if_pos hin]; exact h3, h4.ver, h4.sz, h4.nob, fun g hg => ?_⟩
    obtain ⟨cur, c1, c2, c3, c4, c5⟩ := h4.blk g hg
    exact ⟨cur, c1, c2, c3, c4, fun j y hy => by
      obtain ⟨u, d1, d2, d3⟩ := c5 j y hy
      exact ⟨u, d1, d2, (d3.cut y u (hO o (List.mem_of_getElem? h1) h2 y (List.mem_of_getElem? hy))).ev ev⟩⟩
  · obtain ⟨re', e1, e2, e3⟩ := s.fro.rho i r h
    have : i < n := Nat.lt_of_lt_of_le (List.getElem?_eq_some_iff.1 h).1 hΓ
    exact ⟨re', by rw [List.getElem?_take, if_pos this]; exact e1, e2, e3⟩
def Agy (P : Program) (fn : Func) (n : Nat) (post : Out → List Ob → Prop) : Exit → Fr → List Ob → Prop
  | .ret, F, H | .normal, F, H => ∃ ys, ResL P F H fn.results.toList ys ∧ idB n (Ii ys) = true ∧ ObsId n (H.take n) ∧ post (.ret (Ii ys)) (H.take n)
  | .panic ch, _, H => ObsId n (H.take n) ∧ post (.pan ch) (H.take n)
  | _, _, _ => False
theorem Q7 {f : FuncId} {fn : Func} {c : Code} {args : List V} {H0 : List Ob} {post : Out → List Ob → Prop} (F0 : Fr) (h0 : ((args.zipIdx 0).map fun p => (p.2, p.1)) = F0) (n : Nat) (hn0 : H0.length = n) (hf : P.funcs[f]? = some fn) (hb : fn.body = some c) (hn : args.length ≤ fn.ntmps)
    (h : ∀ Γ : Ctx, Γ.N = fn.ntmps → Γ.ds = [] → JC P c Γ F0 H0 (Agy P fn n post)) : SpecM P f args H0 post := fun M w ρ vals hM hR hr => by
  subst h0; subst hn0; refine calls_of_wp hf hb ?_
  have hlen : vals.length = args.length := (Fw args vals hr).1
  let Γ : Ctx := ⟨fn.ntmps, w, M, ρ, Jc ρ H0, []⟩
  have s : StA Γ ρ ((args.zipIdx 0).map fun p => (p.2, p.1)) H0 ⟨vals.toArray ++ Array.replicate (fn.ntmps - vals.toArray.size) undef, []⟩ w := by
    refine ⟨hR, ?_, rfl, fun t => ?_, ⟨rfl, rfl, rfl, Nat.le_refl _, fun _ _ _ => rfl, hM, fun i o r g h1 h2 h3 h4 => .inr ⟨i, o, r, h1, h2, h3, h4⟩, fun i r h => ⟨r, h, Nat.le_refl _, fun _ => rfl⟩⟩⟩
    · show fn.ntmps ≤ (vals.toArray ++ Array.replicate (fn.ntmps - vals.toArray.size) undef).size
      simp; omega
    · have look : ∀ (ys : List V) (k t : Nat), Cp ((ys.zipIdx k).map fun p => (p.2, p.1)) t = if k ≤ t then ys[t - k]? else none := by
        intro ys
        induction ys with
        | nil => intro k t; simp [Cp]
        | cons y ys ih =>
          intro k t
          simp only [List.zipIdx_cons, List.map_cons, Cp]
          cases hb : Nat.beq t k
          · have hne : t ≠ k := by intro e; subst e; simp at hb
            rw [ih (k + 1) t]
            by_cases h1 : k ≤ t
            · rw [if_pos h1, if_pos (by omega), show t - k = (t - (k + 1)) + 1 by omega]; rfl
            · rw [if_neg h1, if_neg (by omega)]; rfl
          · have := Nat.eq_of_beq_eq_true hb
            subst this
            simp
      unfold get
      rw [look args 0 t, if_pos (Nat.zero_le _), Nat.sub_zero]
      cases ht : args[t]? with
      | none => exact trivial
      | some y =>
        obtain ⟨u, hu, hru⟩ := Fq args vals t y hr ht
        have hlt : t < vals.length := (List.getElem?_eq_some_iff.1 hu).1
        have e : ((vals.toArray ++ Array.replicate (fn.ntmps - vals.toArray.size) undef).getD t undef) = u := by
          rw [Array.getD_eq_getD_getElem?, Array.getElem?_append_left (by simpa using hlt)]
          simp [hu]
        show Rel w (Bb M ρ H0) w.heap.size ρ y ((vals.toArray ++ Array.replicate (fn.ntmps - vals.toArray.size) undef).getD t undef)
        rw [e]
        exact hru
  have hΓlen : Γ.ρ0.length ≤ H0.length := by show ρ.length ≤ _; rw [hR.len]; exact Nat.le_refl _
  have fin : ∀ (F : Fr) (H : List Ob) (ρ1 : List Re) (a : Act) (w' : World), StA Γ ρ1 F H a w' → ObsId H0.length (H.take H0.length) →
      HR M w' w.heap.size (ρ1.take H0.length) (H.take H0.length) ∧ w'.os = w.os ∧ w'.tape = w.tape ∧ w'.output = w.output ∧ Ev w (Bb M ρ H0) w.heap.size ρ w' (Bb M (ρ1.take H0.length) (H.take H0.length)) w.heap.size (ρ1.take H0.length) ∧
      (∀ (id : Nat) (ob : Ob) (re : Re) (g : Nat), (H.take H0.length)[id]? = some ob → ob.live = true → (ρ1.take H0.length)[id]? = some re → re.g = some g → w.heap.size ≤ g ∨ Jc ρ H0 g) ∧ (∀ b, b < w.heap.size → ¬ Jc ρ H0 b → w'.heap[b]? = w.heap[b]?) := by
    intro F H ρ1 a w' s' hO
    obtain ⟨c1, c2, c3⟩ := s'.cutn H0.length hO hΓlen
    refine ⟨c1, c2.os, c2.tape, c2.output, ⟨c2.size, fun b hlt hL => c2.blk b hlt fun hh => hL (.inr hh), fun b hlt hL hL' => ?_, Nat.le_refl _, c2.rho⟩, fun i o r g h1 h2 h3 h4 => c2.mine i o r g h1 h2 h3 h4, fun b hlt hh => c2.blk b hlt hh⟩
    rcases hL' with hM' | ⟨i, o, r, h1, h2, h3, h4⟩
    · exact hL (.inl hM')
    · rcases c2.mine i o r b h1 h2 h3 h4 with h | h
      · have h' : w.heap.size ≤ b := h
        omega
      · exact hL (.inr h)
  refine Code.wp_mono (fun e a w' ⟨F, H, q, ρ1, s'⟩ => ?_) (h Γ rfl rfl _ _ ⟨_, s⟩)
  have fin2 : ∀ ys, ResL P F H fn.results.toList ys → idB H0.length (Ii ys) = true → ObsId H0.length (H.take H0.length) → post (.ret (Ii ys)) (H.take H0.length) → a.defers = [] ∧ ∃ v, (Go.results fn a.tmps).run P w' = .ok v w' ∧ ∃ o H' ρ', post o H' ∧ Lf w' (Bb M ρ' H') w.heap.size ρ' o (.returned v) ∧ HR M w' w.heap.size ρ' H' ∧
      w'.os = w.os ∧ w'.tape = w.tape ∧ w'.output = w.output ∧ Ev w (Bb M ρ H0) w.heap.size ρ w' (Bb M ρ' H') w.heap.size ρ' ∧
      (∀ (id : Nat) (ob : Ob) (re : Re) (g : Nat), H'[id]? = some ob → ob.live = true → ρ'[id]? = some re → re.g = some g → w.heap.size ≤ g ∨ Jc ρ H0 g) ∧ (∀ b, b < w.heap.size → ¬ Jc ρ H0 b → w'.heap[b]? = w.heap[b]?) := by
    intro ys h1 h2 h3 h4
    obtain ⟨v, hv, hr'⟩ := s'.results h1
    obtain ⟨f1, f2, f3, f4, f5, f6, f7⟩ := fin F H ρ1 a w' s' h3
    have hcut := hr'.cut (n := H0.length) (Ii ys) v h2
    have hl : Rel w' (Bb M (ρ1.take H0.length) (H.take H0.length)) w.heap.size (ρ1.take H0.length) (Ii ys) v :=
      hcut.ev ⟨Nat.le_refl _, fun _ _ _ => rfl, fun b _ hn hh => hn ((s'.cutn H0.length h3 hΓlen).2.2 b hh), Nat.le_refl _, fun i r h => ⟨r, h, Nat.le_refl _, fun _ => rfl⟩⟩
    exact ⟨s'.ds, v, hv, .ret (Ii ys), _, _, h4, ⟨v, rfl, hl⟩, f1, f2, f3, f4, f5, f6, f7⟩
  cases e with
  | normal => obtain ⟨ys, h1, h2, h3, h4⟩ := q; exact fin2 ys h1 h2 h3 h4
  | ret => obtain ⟨ys, h1, h2, h3, h4⟩ := q; exact fin2 ys h1 h2 h3 h4
  | panic ch =>
    obtain ⟨h3, h4⟩ := q
    obtain ⟨f1, f2, f3, f4, f5, f6, f7⟩ := fin F H ρ1 a w' s' h3
    exact ⟨s'.ds, .pan ch, _, _, h4, rfl, f1, f2, f3, f4, f5, f6, f7⟩
  | _ => exact absurd q (by simp [Agy])
end

section
variable {P : Program} {Γ : Ctx} {F : Fr} {H : List Ob} {Q : Exit → Fr → List Ob → Prop}

def Gk (s : ByteArray) : List Int := s.data.toList.map fun b => (b.toNat : Int)
theorem Mc (s : ByteArray) : (Gk s).length = s.size := by simp [Gk]
theorem StA.recell {ρ : List Re} {a : Act} {w : World} (s : StA Γ ρ F H a w) {id t sz ver : Nat} {cs cs' : List V} (hH : H[id]? = some ⟨t, sz, ver, true, cs⟩) (hlen : cs'.length = cs.length)
    (h : ∀ (j : Nat) (y' : V), cs'[j]? = some y' → ∃ y, cs[j]? = some y ∧ ∀ u : Value, u.oneCell' = true → Rel w (Bb Γ.M ρ H) Γ.w0.heap.size ρ y u → Rel w (Bb Γ.M ρ H) Γ.w0.heap.size ρ y' u) : StA Γ ρ F (H.set id ⟨t, sz, ver, true, cs'⟩) a w := by
  have hlt : id < H.length := (List.getElem?_eq_some_iff.1 hH).1
  have look : ∀ (i : Nat) (o : Ob), (H.set id ⟨t, sz, ver, true, cs'⟩)[i]? = some o → ∃ o0, H[i]? = some o0 ∧ o0.live = o.live ∧ o0.ver = o.ver ∧ o0.sz = o.sz ∧ o0.t = o.t ∧ (i ≠ id → o0 = o) ∧ (i = id → o = ⟨t, sz, ver, true, cs'⟩ ∧ o0 = ⟨t, sz, ver, true, cs⟩) := by
    intro i o ho
    rcases C6 ho with ⟨rfl, rfl⟩ | ⟨hne, ho⟩
    · exact ⟨_, hH, rfl, rfl, rfl, rfl, fun h => absurd rfl h, fun _ => ⟨rfl, rfl⟩⟩
    · exact ⟨o, ho, rfl, rfl, rfl, rfl, fun _ => rfl, fun h => absurd h hne⟩
  have back : ∀ (i : Nat) (o : Ob), H[i]? = some o → ∃ o1, (H.set id ⟨t, sz, ver, true, cs'⟩)[i]? = some o1 ∧ o1.live = o.live := by
    intro i o ho
    by_cases e : id = i
    · subst e
      rw [hH] at ho; injection ho with ho; subst ho
      exact ⟨⟨t, sz, ver, true, cs'⟩, by rw [List.getElem?_set]; simp [hlt], rfl⟩
    · exact ⟨o, by rw [List.getElem?_set, if_neg e]; exact ho, rfl⟩
  have hL : Bb Γ.M ρ (H.set id ⟨t, sz, ver, true, cs'⟩) = Bb Γ.M ρ H := by
    funext b
    apply propext
    constructor
    · rintro (h | ⟨i, o, r, h1, h2, h3, h4⟩)
      · exact .inl h
      · obtain ⟨o0, k1, k2, _⟩ := look i o h1
        exact .inr ⟨i, o0, r, k1, by rw [k2]; exact h2, h3, h4⟩
    · rintro (h | ⟨i, o, r, h1, h2, h3, h4⟩)
      · exact .inl h
      · obtain ⟨o1, k1, k2⟩ := back i o h1
        exact .inr ⟨i, o1, r, k1, by rw [k2]; exact h2, h3, h4⟩
  refine ⟨⟨by simp [s.hr.len], fun i o h1 h2 => ?_, fun i j oi oj ri rj g hij h1 h2 h3 h4 => ?_, fun i o r g h1 h2 => ?_⟩, s.n, s.ds, fun t => by rw [hL]; exact s.fr t, ⟨s.fro.os, s.fro.tape, s.fro.output, s.fro.size, s.fro.blk, s.fro.old, fun i o r g h1 h2 => ?_, s.fro.rho⟩⟩
  · obtain ⟨o0, k1, k2, k3, k4, k5, k6, k7⟩ := look i o h1
    obtain ⟨r, h3, h4⟩ := s.hr.ob i o0 k1 (by rw [k2]; exact h2)
    by_cases e : i = id
    · obtain ⟨e1, e2⟩ := k7 e
      subst e1; subst e2
      refine ⟨r, h3, h4.ver, h4.sz, fun hg => ?_, fun g hg => ?_⟩
      · obtain ⟨f1, f2⟩ := h4.nob hg
        have f1' : cs = [] := f1
        exact ⟨List.eq_nil_of_length_eq_zero (by show cs'.length = 0; rw [hlen, f1']; rfl), f2⟩
      · obtain ⟨cur, c1, c2, c3, c4, c5⟩ := h4.blk g hg
        have c3' : cs.length ≤ cur.size := c3
        refine ⟨cur, c1, c2, by show cs'.length ≤ _; omega, c4, fun j y' hy' => ?_⟩
        obtain ⟨y, hy, hh⟩ := h j y' hy'
        obtain ⟨u, d1, d2, d3⟩ := c5 j y hy
        exact ⟨u, d1, d2, by rw [hL]; exact hh u d2 d3⟩
    · have e1 := k6 e
      subst e1
      rw [hL]
      exact ⟨r, h3, h4⟩
  · obtain ⟨o0, k1, k2, _⟩ := look i oi h1
    obtain ⟨o1, l1, l2, _⟩ := look j oj h3
    exact s.hr.apart i j o0 o1 ri rj g hij k1 (by rw [k2]; exact h2) l1 (by rw [l2]; exact h4)
  · obtain ⟨o0, k1, k2, _⟩ := look i o h1
    exact s.hr.foreign i o0 r g k1 (by rw [k2]; exact h2)
  · obtain ⟨o0, k1, k2, _⟩ := look i o h1
    exact s.fro.mine i o0 r g k1 (by rw [k2]; exact h2)
theorem Rz {c : Code} {id t sz ver nid : Nat} {cs : List V} (j T sz2 : Nat) (hH : H[id]? = some ⟨t, sz, ver, true, cs⟩) (hj : cs[j]? = some (.c (.slice none 0 0))) (hid : H.length = nid)
    (k : JC P c Γ F ((H ++ [(⟨T, sz2, 0, true, []⟩ : Ob)]).set id (⟨t, sz, ver, true, cs.set j (.o nid 0 0 0)⟩ : Ob)) Q) : JC P c Γ F H Q := fun a w ⟨ρ, s⟩ => by
  have s' := s.born (re := ⟨none, 0, 0, sz2⟩) (ob := ⟨T, sz2, 0, true, []⟩) (w' := w) ⟨rfl, rfl, rfl, Nat.le_refl _, fun _ _ _ => rfl⟩ rfl rfl rfl (fun g h => by cases h) (fun _ => ⟨rfl, rfl⟩) (fun g h => by cases h)
  have hlt : id < H.length := (List.getElem?_eq_some_iff.1 hH).1
  have h2 := s'.recell (cs := cs) (cs' := cs.set j (.o nid 0 0 0)) (by rw [List.getElem?_append_left hlt]; exact hH) (by simp) ?_
  · exact k a w ⟨_, h2⟩
  intro i y' hy'
  rcases C6 hy' with ⟨rfl, rfl⟩ | ⟨hne, hy⟩
  · refine ⟨_, hj, fun u _ hu => ?_⟩
    have hu' : u = .slice none 0 0 := hu
    refine ⟨⟨none, 0, 0, sz2⟩, ?_, Nat.zero_le _, fun _ => ⟨Nat.le_refl _, .inr ⟨rfl, hu', rfl, rfl⟩⟩⟩
    rw [← hid, ← s.hr.len]
    simp
  · exact ⟨y', hy, fun u _ hu => hu⟩
end
end Go.Proofs.YtnadmljoefecfaaGreatDoor.Vc

namespace Go.Proofs.YtnadmljoefecfaaGreatDoor.Vc
open Go Go.RowKit Go.ChangeShapes Go.WideShapes Go.ChangeAt

theorem post_of_below {H : Type} {enc : TypeId × Value → H} {P : Program} {f : Func} {s : ChangeSpec} {apart fresh handsOn : Bool} {W W' : World} {args : Array Value} {v : Value} {ds gs : List (DataW H)} {before pa pv : List MemPlace}
    (hW : DataW.Whole enc P f.params.toList s.vars apart W args.toList ds gs before)
    (hres : ∀ (b : Nat) (sp : Nat → Bool) (hd : Bool), DataW.TrodAll enc P W' b sp hd f.resultTypes.toList (v.resultList f.resultTypes.size) (s.fn H (ds ++ gs)).results [])
    (hargs : ∀ sp : Nat → Bool, (∀ p ∈ before, sp p.block = true) → DataW.TrodAll enc P W' 0 sp true f.params.toList args.toList (s.fn H (ds ++ gs)).args pa)
    (hvars : ∀ sp : Nat → Bool, (∀ p ∈ before, sp p.block = true) → DataW.TrodVars enc P W' sp s.vars (s.fn H (ds ++ gs)).vars pv)
    (hps : before = pa ++ pv) (hb : Below W.heap.size W W') : s.post enc P f apart fresh handsOn false W args v W' := by
  have hold : ∀ p ∈ before, (fun b => decide (b < W.heap.size)) p.block = true := fun p hp => by simpa using hW.lt p hp
  refine ⟨ds, gs, before, [], pa, pv, hW, hres _ _ _, hargs _ hold, hvars _ hold, World.keptBut_mono (fun p hp => ⟨hp, ?_⟩) (hb.frame (· ∈ before)), fun h => by cases h⟩
  rw [hps, List.mem_append] at hp
  exact Or.inr hp
end Go.Proofs.YtnadmljoefecfaaGreatDoor.Vc

namespace Go.Proofs.YtnadmljoefecfaaGreatDoor.Vc
open Go Go.RowKit
section
variable {P : Program} {Γ : Ctx} {F : Fr} {H : List Ob} {Q : Exit → Fr → List Ob → Prop}

end

section
variable {P : Program} {Γ : Ctx} {F : Fr} {H : List Ob} {Q : Exit → Fr → List Ob → Prop}
theorem Ahk {x y : Operand} {ts : Array TypeId} {k k' : IntKind} {m n : Int} (hx : ovO F x = some (.i k m)) (hy : ovO F y = some (.i k' n)) : LY P Γ (.call { callee := .builtin .max, args := #[x, y], argTypes := ts }) F H (.i k (max m n)) := fun ρ a w s =>
  ⟨.int k (max m n), rfl, fun _ U _ _ _ w' _ => Ea (b := .max) (vs := [a.eval x, a.eval y]) (by simp) (fun ts t a_ => Builtin.max_ ts t a_) (fun _ _ => rfl) (by rw [Dt s hx, Dt s hy]; exact Lib.run_max_ints w' _ _ _ _ _ _) _ _ _ _⟩
theorem Ou {x y : Operand} {ts : Array TypeId} {k k' : IntKind} {m n : Int} (hx : ovO F x = some (.i k m)) (hy : ovO F y = some (.i k' n)) : LY P Γ (.call { callee := .builtin .min, args := #[x, y], argTypes := ts }) F H (.i k (min m n)) := fun ρ a w s =>
  ⟨.int k (min m n), rfl, fun _ U _ _ _ w' _ => Ea (b := .min) (vs := [a.eval x, a.eval y]) (by simp) (fun ts t a_ => Builtin.min_ ts t a_) (fun _ _ => rfl) (by rw [Dt s hx, Dt s hy]; exact Lib.run_min_ints w' _ _ _ _ _ _) _ _ _ _⟩
def isI : V → Bool | .i _ _ => true | _ => false
def Al6 (P : Program) (T : TypeId) (n : Nat) : Bool := (P.fieldsOf T).toList.all fun f => P.plainKey f.type && (match P.underlying f.type with | some (.int _) => true | _ => false) && decide (f.offset < n)
end

section
variable {P : Program} {Γ : Ctx} {F : Fr} {H : List Ob} {Q : Exit → Fr → List Ob → Prop}

theorem Xy {T E sz bytes m id ver len : Nat} {z : Value} {x y : Operand} {yy : V} {zs cs : List V} (hT : elP P T E sz bytes z) (hx : ovO F x = some (.o id ver 0 len)) (hH : H[id]? = some ⟨E, sz, ver, true, cs⟩) (hy : ovO F y = some yy) (hsrc : Src Γ H yy sz m zs) (hm : 0 < m) (hroom : (len + m) * sz ≤ cs.length) :
    ∀ ρ a w, StA Γ ρ F H a w → ∃ v w' ρ', Rel w' (Bb Γ.M ρ' (H.set id ⟨E, sz, ver, true, Gy cs (len * sz) zs⟩)) Γ.w0.heap.size ρ' (.o id ver 0 (len + m)) v ∧ StA Γ ρ' F (H.set id ⟨E, sz, ver, true, Gy cs (len * sz) zs⟩) a w' ∧
      ∀ (dst : Option Tmp) (type : TypeId) (pos : String) (after : Array Edge) (g : Option (Nat × Bool)), (execOp a.eval ⟨dst, .call { callee := .builtin .append, args := #[x, y], argTypes := #[T, T] }, type, pos, after, g⟩).run P w = .ok (.value v) w' := fun ρ a w s => by
  obtain ⟨i, hu, hi, hz0, hs, hby, hzs, hpos⟩ := hT
  obtain ⟨A, c, us, hv, k1, k2, k3, k4⟩ := hsrc.2 ρ F a w s _ (s.ov hy)
  obtain ⟨ad2, hA, k5⟩ := k3 hm
  subst hA
  obtain ⟨re, o⟩ := s.own hH rfl
  obtain ⟨re0, e1, hle, hp⟩ := s.ov hx
  obtain rfl : re0 = re := by have := e1.symm.trans o.at_; injection this
  obtain ⟨hcap, hq⟩ := hp (o.ok.ver.symm)
  have hszr : re0.sz = sz := o.ok.sz
  have hmul : (len + m) * sz = len * sz + m * sz := Nat.add_mul ..
  have hms : 0 < m * sz := Nat.mul_pos hm hpos
  rcases hq with ⟨g, ad, hg, hv0, had⟩ | ⟨hg, hv0, _, hl0⟩
  · obtain ⟨cur, c1, c2, c3, c4, c5⟩ := o.ok.blk g hg
    have hc3 : cs.length ≤ cur.size := c3
    have hc2 : cur.size = re0.cap * sz := c2
    have hcap2 : len + m ≤ re0.cap := by
      have : (len + m) * sz ≤ re0.cap * sz := by omega
      exact Nat.le_of_mul_le_mul_right this hpos
    have had' := had (.inr rfl)
    rw [Nat.zero_mul] at had'
    have hlen : (cur.toList.take (len * sz) ++ us ++ cur.toList.drop (len * sz + us.length)).length = cur.size := by simp; omega
    refine ⟨.slice (some ⟨g, 0, none⟩) (len + m) re0.cap, _, ρ.set id re0, ?_, s.update (ob' := ⟨E, sz, ver, true, Gy cs (len * sz) zs⟩) (re' := re0) hH rfl o.at_ (by rw [hg]; exact F9 w g (cur.toList.take (len * sz) ++ us ++ cur.toList.drop (len * sz + us.length)).toArray) rfl o.ok.ver o.ok.sz (Nat.le_refl _) (fun _ => rfl) (.inl rfl)
      (fun h => by rw [hg] at h; cases h) (fun g' hg' => ?_), fun dst type pos after gd => ?_⟩
    · exact ⟨re0, by rw [List.getElem?_set]; simp [(List.getElem?_eq_some_iff.1 o.at_).1], hle, fun _ => ⟨by omega, .inl ⟨g, ⟨g, 0, none⟩, hg, rfl, fun _ => by simp⟩⟩⟩
    · obtain rfl : g = g' := by rw [hg] at hg'; injection hg'
      refine ⟨_, setRow_heap w g cur _ E (0, 0) c1, by rw [List.size_toArray, hlen]; exact c2, by rw [List.size_toArray, hlen]; show (Gy cs (len * sz) zs).length ≤ _; rw [Dx]; exact hc3, c4, fun j y' hy' => ?_⟩
      rw [List.getElem?_toArray]
      have hzl := hsrc.1
      rcases Hz cs (len * sz) zs j y' hy' with ⟨k1', k2', k3'⟩ | ⟨k1', k2'⟩
      · obtain ⟨u, d1, d2⟩ := k4 _ _ k3'
        refine ⟨u, ?_, k2 u (List.mem_of_getElem? d1), d2⟩
        rw [List.append_assoc, List.getElem?_append_right (by simp; omega), List.getElem?_append_left (by simp; omega)]
        rw [← d1]; congr 1; simp; omega
      · obtain ⟨u, d1, d2, d3⟩ := c5 j y' k2'
        refine ⟨u, ?_, d2, d3⟩
        rw [← Array.getElem?_toList] at d1
        rcases k1' with k1' | k1'
        · rw [List.append_assoc, List.getElem?_append_left (by simp; omega), List.getElem?_take, if_pos (by omega)]; exact d1
        · rw [List.getElem?_append_right (by simp; omega), List.getElem?_drop, ← d1]; congr 1; simp; omega
    · have hr := run_append_room (P := P) w T type E i hu hi g len re0.cap cur c1 ad2 m c us (by rw [hs]; exact k1) k5 k2 hcap2 (by rw [hs]; omega)
      rw [hs] at hr
      refine Ea (b := .append) (ts := #[T, T]) (T := type) (a := a) (args := #[x, y]) (vs := [a.eval x, a.eval y]) (by simp) (fun ts t a_ => Builtin.append_ ts t a_) (fun _ _ => rfl) ?_ dst pos after gd
      rw [hv0, had', hv, Nat.sub_zero]
      exact hr
  · obtain ⟨h1, _⟩ := o.ok.nob hg
    have h1' : cs = [] := h1
    rw [h1'] at hroom
    simp at hroom
    omega
theorem Y1 {ops : Array Oper} {rest : List Oper} {d T E sz bytes m id ver len : Nat} {ty : TypeId} {ps : String} {af : Array Edge} {z : Value} {x y : Operand} {yy : V} {zs cs : List V} (hT : elP P T E sz bytes z) (hx : ovO F x = some (.o id ver 0 len)) (hH : H[id]? = some ⟨E, sz, ver, true, cs⟩) (hy : ovO F y = some yy) (hsrc : Src Γ H yy sz m zs) (hm : 0 < m) (hroom : (len + m) * sz ≤ cs.length)
    (hd : d < Γ.N) (j : JO P ops rest Γ ((d, .o id ver 0 (len + m)) :: F) (H.set id ⟨E, sz, ver, true, Gy cs (len * sz) zs⟩) Q) :
    JO P ops (⟨some d, .call { callee := .builtin .append, args := #[x, y], argTypes := #[T, T] }, ty, ps, af, none⟩ :: rest) Γ F H Q := fun a w ⟨ρ, s⟩ => by
  obtain ⟨v, w', ρ', r, s', hr⟩ := Xy hT hx hH hy hsrc hm hroom ρ a w s
  refine wpList_plain rfl fun K hK => ?_
  unfold Oper.wp
  rw [hr _ _ _ _ _]
  exact hK _ _ (j _ _ ⟨ρ', s'.put hd r⟩)
end
end Go.Proofs.YtnadmljoefecfaaGreatDoor.Vc

namespace Go.Proofs.YtnadmljoefecfaaGreatDoor.Vc
open Go Go.RowKit Go.ChangeShapes Go.WideShapes Go.Deep

section
variable {H : Type} {enc : TypeId × Value → H} {P : Program} {w : World} {sp : Nat → Bool} {held : Bool}
theorem Aaa {a : Addr} {n : Nat} {cs : List Value} (h : w.cells? 0 a n = some cs) : cs.length = n ∧ ∀ j y, cs[j]? = some y → w.cell? (a.add j) = some y := by
  obtain ⟨_, h1, h2⟩ := World.cells?_some h
  refine ⟨h1, fun j y hj => ?_⟩
  have hlt : j < n := by have := (List.getElem?_eq_some_iff.1 hj).1; omega
  rw [h2 j hlt, hj]
theorem Td {α : Type} (f : α → DataW H) (l : List α) : Rows.uptoBulkAll (l.map f) = (l.map fun i => Rows.uptoBulk (f i)).sum := by
  induction l with
  | nil => rfl
  | cons a l ih => rw [List.map_cons, List.map_cons, List.sum_cons, ← ih]; rfl
theorem Vk {α : Type} {p : Nat → α → Prop} : ∀ (n : Nat), (∀ i, i < n → ∃ τ, p i τ) → ∃ l : List α, l.length = n ∧ ∀ i τ, l[i]? = some τ → p i τ
  | 0, _ => ⟨[], rfl, by simp⟩
  | n + 1, h => by
    obtain ⟨l, h1, h2⟩ := Vk n fun i hi => h i (by omega)
    obtain ⟨τ, h3⟩ := h n (by omega)
    refine ⟨l ++ [τ], by simp [h1], fun i x hx => ?_⟩
    rcases Nat.lt_or_ge i l.length with hlt | hge
    · rw [List.getElem?_append_left hlt] at hx; exact h2 i x hx
    · rw [List.getElem?_append_right hge] at hx
      have hi : i - l.length = 0 := by have := (List.getElem?_eq_some_iff.1 hx).1; simp at this; omega
      rw [hi] at hx
      simp at hx
      subst hx
      rwa [show i = n by omega]
theorem Aa1 {α : Type} {bk : α → Nat} : ∀ (l : List α) (f : Nat → Nat), (∀ i τ, l[i]? = some τ → bk τ ≤ f i) → (l.map bk).sum ≤ ((List.range l.length).map f).sum
  | [], f, _ => by simp
  | x :: l, f, h => by
    have ih := Aa1 l (fun i => f (i + 1)) fun i τ hi => h (i + 1) τ (by simpa using hi)
    have h0 := h 0 x rfl
    rw [List.length_cons, List.range_succ_eq_map, List.map_cons, List.map_cons, List.sum_cons, List.sum_cons, List.map_map]
    have e : (f ∘ Nat.succ) = fun i => f (i + 1) := rfl
    rw [e]
    omega
theorem Xz {α : Type} (l : List α) : (l.map fun _ => 1).sum = l.length := by
  induction l with
  | nil => rfl
  | cons _ l ih => rw [List.map_cons, List.sum_cons, ih, List.length_cons]; omega
theorem Ly {t e : Nat} {k : IntKind} (ht : P.underlying t = some (.slice e)) (he : P.underlying e = some (.int k)) (hc : P.cellsOf e = 1) {n0 : Nat} {v : Value} {x : DataW H × List MemPlace} (hd : DataW.trod enc P w 0 sp held n0 t [v] = some x) :
    ∃ l : List Int, Rel w (fun _ => False) w.heap.size [] (.n false k l) v ∧ l.length + 1 ≤ Rows.uptoBulk x.1 ∧ (∀ y ∈ l, (Lit.int k y).wf = true) := by
  rcases open_slice ht hd with ⟨h1, h2⟩ | ⟨a, len', cap', m, n, D, Pl, h1, h2, h3, h4, h5, h6, h7⟩
  · injection h1 with h1; subst h1; subst h2
    exact ⟨[], ⟨none, 0, rfl, Nat.le_refl _, Nat.zero_le _, fun h => absurd rfl h⟩, Nat.le_refl 1, fun y hy => by cases hy⟩
  · injection h1 with h1; subst h1; subst h6
    have hlm : len' ≤ m := by rw [h5]; split <;> omega
    obtain ⟨l, hl, hall⟩ := Vk (p := fun i (y : Int) => w.cell? (a.add i) = some (.int k y) ∧ (Lit.int k y).wf = true ∧ 1 ≤ Rows.uptoBulk (D i)) len' fun i hi => by
      obtain ⟨cs, k1, k2⟩ := h7 i (by omega)
      obtain ⟨y, k3, k4, k5⟩ := DataW.trod_int he k2
      rw [hc, Nat.mul_one] at k1
      subst k3
      refine ⟨y, ?_, k5, ?_⟩
      · have := (Aaa k1).2 0 _ rfl
        rwa [Go.Deep.add_add, Nat.add_zero] at this
      · have : D i = .lit (.int k y) := congrArg Prod.fst k4
        rw [this]; exact Nat.le_refl 1
    refine ⟨l, ⟨some a, cap', by rw [hl], by rw [hl]; exact h3, h4, fun hne => ⟨a, rfl, ⟨?_, fun h => h, fun h => by cases h⟩, fun j y hj => (hall j y hj).1⟩⟩, ?_, fun y hy => ?_⟩
    · have h0 : 0 < len' := by
        rcases Nat.eq_zero_or_pos len' with h | h
        · exact absurd (List.eq_nil_of_length_eq_zero (hl.trans h)) hne
        · exact h
      obtain ⟨cs, k1, _⟩ := h7 0 (by omega)
      have := World.cells?_block k1 (by rw [hc]; decide)
      rwa [Nat.zero_mul, Gl] at this
    · simp only [Rows.uptoBulk]
      rw [Td]
      have := Aa1 (bk := fun _ => 1) l (fun i => Rows.uptoBulk (D i)) fun i y hi => (hall i y hi).2.2
      rw [hl] at this
      have e := Xz l
      omega
    · obtain ⟨i, hi⟩ := List.getElem?_of_mem hy
      exact (hall i y hi).2.1
theorem Aao {y : Int} (h : (Lit.int .u64 y).wf = true) : 0 ≤ y ∧ y < 18446744073709551616 := by
  simp only [Lit.wf, Bool.and_eq_true, decide_eq_true_eq] at h
  have h1 : IntKind.u64.min = 0 := by decide
  have h2 : IntKind.u64.max = 18446744073709551615 := by decide
  omega
end
end Go.Proofs.YtnadmljoefecfaaGreatDoor.Vc

namespace Go.Proofs.YtnadmljoefecfaaGreatDoor.Vc
open Go Go.RowKit
section
variable {P : Program} {Γ : Ctx} {F : Fr} {H : List Ob} {Q : Exit → Fr → List Ob → Prop}
theorem Eg {f : FuncId} {fn : Func} {e : Array Value → Sem Value} {x y z : Operand} {ts : Array TypeId} {k1 k2 k3 : IntKind} {m n c : Int} {v : Value} {yy : V} (hf : P.funcs[f]? = some fn) (hname : (fn.name == "runtime.NumGoroutine") = false)
    (hb : fn.body.isNone = true) (hn : Extern.findNext fn = none) (he : Extern.find fn = some e) (hx : ovO F x = some (.i k1 m)) (hy : ovO F y = some (.i k2 n)) (hz : ovO F z = some (.i k3 c))
    (hrun : ∀ w, (e #[.int k1 m, .int k2 n, .int k3 c]).run P w = .ok v w) (hv : ∀ w L B ρ, Rel w L B ρ yy v) :
    HY P Γ (.call { callee := .value (.func f), args := #[x, y, z], argTypes := ts }) F H yy H := fun ρ a w s => by
  refine ⟨v, w, ρ, hv _ _ _ _, s, Ext.refl w, fun _ _ _ _ _ => ?_⟩
  have e0 : a.eval (.func f) = .func (.func f) #[] #[] := rfl
  simp [execOp, resolve, e0, Deferred.ofValue, invoke]
  rw [run_callFunc_extern hf hname hb hn he, Dt s hx, Dt s hy, Dt s hz]
  simp [hrun]
theorem Dp {k : IntKind} {a b : Int} : ∀ w L B ρ, Rel w L B ρ (.t [.i k a, .i k b]) (.tuple #[.int k a, .int k b]) := fun w L B ρ => ⟨[.int k a, .int k b], rfl, _, _, rfl, rfl, _, _, rfl, rfl, rfl⟩
def E4 : Array Value → Sem Value := fun args => do
  let (x, y, b) ← Extern.MathBitsCarry.three "Sub64" args
  pure (Extern.MathBitsCarry.pair ((x + Extern.MathBitsCarry.m64 - y - b) % Extern.MathBitsCarry.m64) (if x < y + b then 1 else 0))
theorem G5 (x y c : Int) (hx : 0 ≤ x) (hx1 : x < 18446744073709551616) (hy : 0 ≤ y) (hy1 : y < 18446744073709551616) (hc0 : 0 ≤ c) (hc : c ≤ 1) (w : World) :
    (E4 #[.int .u64 x, .int .u64 y, .int .u64 c]).run P w =
      .ok (.tuple #[.int .u64 (if x < y + c then x - y - c + 18446744073709551616 else x - y - c), .int .u64 (if x < y + c then 1 else 0)]) w := by
  have key : ∀ k : Nat, k ≤ 1 → (E4 #[.int .u64 x, .int .u64 y, .int .u64 (k : Int)]).run P w =
      .ok (Extern.MathBitsCarry.pair ((x.toNat + Extern.MathBitsCarry.m64 - y.toNat - k) % Extern.MathBitsCarry.m64) (if x.toNat < y.toNat + k then 1 else 0)) w := by
    intro k hk
    have : k = 0 ∨ k = 1 := by omega
    rcases this with rfl | rfl <;> rfl
  obtain ⟨k, rfl⟩ := Int.eq_ofNat_of_zero_le hc0
  rw [key k (by omega)]
  obtain ⟨X, rfl⟩ := Int.eq_ofNat_of_zero_le hx
  obtain ⟨Y, rfl⟩ := Int.eq_ofNat_of_zero_le hy
  have hm : Extern.MathBitsCarry.m64 = 18446744073709551616 := rfl
  simp only [Extern.MathBitsCarry.pair, hm, Int.toNat_natCast]
  have e1 : (Int.ofNat ((X + 18446744073709551616 - Y - k) % 18446744073709551616)) = (if (X : Int) < (Y : Int) + (k : Int) then (X : Int) - Y - k + 18446744073709551616 else (X : Int) - Y - k) := by
    show ((((X + 18446744073709551616 - Y - k) % 18446744073709551616 : Nat)) : Int) = _
    split <;> omega
  have e2 : (Int.ofNat (if X < Y + k then 1 else 0)) = (if (X : Int) < (Y : Int) + (k : Int) then 1 else 0) := by
    by_cases h : X < Y + k
    · rw [if_pos h, if_pos (by omega)]; rfl
    · rw [if_neg h, if_neg (by omega)]; rfl
  rw [e1, e2]
theorem Im {op : Op} {v : Value} {y : V} (hr : ∀ w L B ρ, Rel w L B ρ y v) (h : ∀ (a : Act) (dst : Option Tmp) (type : TypeId) (pos : String) (after : Array Edge) (g : Option (Nat × Bool)) (w' : World), (execOp a.eval ⟨dst, op, type, pos, after, g⟩).run P w' = .ok (.value v) w') : LY P Γ op F H y :=
  fun ρ a w s => ⟨v, hr _ _ _ _, fun dst type pos after g w' _ => h a dst type pos after g w'⟩
theorem Abl {T E n i : Nat} {x ix : Operand} {cs : List V} {k : IntKind} {m : Int} {y : V} (hT : P.underlying T = some (.array n E)) (hE : Iz P E = true) (hx : ovO F x = some (.a cs)) (hi : ovO F ix = some (.i k m)) (hn : m = (i : Int)) (hlt : i < n) (hy : cs[i]? = some y) :
    LY P Γ (.index T x ix) F H y := fun ρ a w s => by
  obtain ⟨us, hv, hr⟩ := s.ov hx
  obtain ⟨u, hu, hrel⟩ := Fq cs us i y hr hy
  refine ⟨u, hrel, fun _ _ _ _ _ w' _ => ?_⟩
  have e : (Instr.index T (a.eval x) (a.eval ix)).run P w' = .ok u w' := by
    rw [hv, Dt s hi, hn]
    simp [Instr.index, asIntOf, run_underlying hT, hlt, Da (Ik hE), part, I7 hE, hu]
  exact El e
theorem B3 {ops : Array Oper} {d : Nat} {x : Operand} {T : TypeId} {ps : String} {af : Array Edge} {vs : List V} {i : Nat} {y : V} (hx : ovO F x = some (.t vs)) (hy : vs[i]? = some y) (hd : d < Γ.N) : LO P ops false Γ ⟨some d, .extract x i, T, ps, af, none⟩ d F H y :=
  ⟨rfl, hd, fun ρ a w s => by
    obtain ⟨us, hv, hr⟩ := s.ov hx
    obtain ⟨u, hu, hr'⟩ := Fq vs us i y hr hy
    refine ⟨u, hr', .inl ⟨rfl, fun w' _ => ?_⟩⟩
    have e : (Instr.extract (a.eval x) i).run P w' = .ok u w' := by rw [hv]; simp [Instr.extract, hu]
    exact El e⟩
theorem G2 {listed : Array Bool} {k : Nat} (h0 : listed.getD k true = false) (h1 : listed.getD k false = true) : False := by
  rcases Nat.lt_or_ge k listed.size with h' | h'
  · simp [h'] at h0 h1; rw [h0] at h1; cases h1
  · simp [Array.getElem?_eq_none h'] at h1
def Akh (ops : Array Oper) (listed : Array Bool) (i : Nat) (D : List Nat) : Bool :=
  D.all fun j => !(listed.getD j true) && match ops[j]? with
    | some oj => oj.after.any (fun e => Region.binds .any e && (Nat.beq e.on i || D.contains e.on))
    | none => false
def R5 (st : Bool) (ops : Array Oper) (listed : Array Bool) (i : Nat) (D : List Nat) : Bool :=
  match ops[i]? with
  | none => false
  | some oi => (List.range ops.size).all fun j => Nat.beq j i || listed.getD j true || D.contains j || match ops[j]? with
      | some oj => oi.apart ops oj && (!st || G1 oj)
      | none => true
theorem Mi {ops : Array Oper} {Q : Exit → Act → World → Prop} {st : Bool} {i : Nat} {oi : Oper} {v : Value} (D : List Nat) (hi : ops[i]? = some oi) (hsel : ∀ (j : Nat) (o : Oper) cs b, ops[j]? = some o → o.op ≠ .select cs b)
    (hQ : ∀ c a w, Q (.panic c) (a.put oi.dst v) w → Q (.panic c) a w) (hD : ∀ j ∈ D, ∃ oj, ops[j]? = some oj ∧ ∃ e ∈ oj.after, Region.binds .any e = true ∧ (e.on = i ∨ e.on ∈ D)) :
    ∀ (fuel : Nat) (listed : Array Bool) (a : Act) (w : World),
      (∀ j ∈ D, listed.getD j true = false) →
      (∀ j oj, ops[j]? = some oj → j ≠ i → listed.getD j true = false → j ∉ D → oi.apart ops oj = true ∧ (st = true → G1 oj = true)) →
      i ∈ Region.ready .any ops listed → YieldsX P ops st oi v a w →
      Hn P ops Q fuel (listed.setIfInBounds i true) (a.put oi.dst v) w → Hn P ops Q (fuel + 1) listed a w := by
  intro fuel
  induction fuel with
  | zero =>
    intro listed a w _ _ hr hy H
    refine ⟨fun h => (by rw [h] at hr; cases hr), fun j hj => ?_⟩
    by_cases hji : j = i
    · subst hji; exact hy.wpOp hi ⟨fun _ _ _ => Ext.refl w, H⟩
    · have := ready_mono hj hji
      rw [H.1] at this
      cases this
  | succ fuel ih =>
    intro listed a w hun hfree hr hy H
    refine ⟨fun h => (by rw [h] at hr; cases hr), fun j hj => ?_⟩
    by_cases hji : j = i
    · subst hji; exact hy.wpOp hi ⟨fun _ _ _ => Ext.refl w, H⟩
    · obtain ⟨hjun, oj, hoj, hall⟩ := mem_ready.1 hj
      have h1 : wpOp P ops Q j (fun a' w' => (G1 oj = true → Ext w w') ∧ Hn P ops Q fuel ((listed.setIfInBounds i true).setIfInBounds j true) a' w') (a.put oi.dst v) w :=
        wpOp_mono (fun a' w' h => ⟨h.1 oj hoj, h.2⟩) (H.2 j (ready_mono hj hji))
      have hjD : j ∉ D := fun hjD => by
        obtain ⟨oj', hoj', e, he, hb, hon⟩ := hD j hjD
        obtain rfl : oj' = oj := by have := hoj'.symm.trans hoj; injection this
        have h1 := hall e he hb
        rcases hon with hon | hon
        · rw [hon] at h1; exact G2 (mem_ready.1 hr).1 h1
        · exact G2 (hun _ hon) h1
      obtain ⟨hap, hmild⟩ := hfree j oj hoj hji hjun hjD
      have h2 := N0 hoj hap hmild (fun cs b => hsel i oi cs b hi) (fun cs b => hsel j oj cs b hoj) hQ hy h1
      have hun' : ∀ k ∈ D, (listed.setIfInBounds j true).getD k true = false := fun k hk => by
        have hne : j ≠ k := fun h => hjD (by rw [h]; exact hk)
        rw [getD_set_ne true hne]; exact hun k hk
      have hfree' : ∀ k ok, ops[k]? = some ok → k ≠ i → (listed.setIfInBounds j true).getD k true = false → k ∉ D → oi.apart ops ok = true ∧ (st = true → G1 ok = true) := fun k ok hk hki hku hkD => by
        refine hfree k ok hk hki ?_ hkD
        by_cases hjk : j = k
        · subst hjk; exact hjun
        · rw [getD_set_ne true hjk] at hku; exact hku
      refine wpOp_mono (fun a' w' h3 => ⟨fun o ho hmo => by rw [hoj] at ho; injection ho with ho; subst ho; exact h3.1 hmo, ih (listed.setIfInBounds j true) a' w' hun' hfree' (ready_mono hr (Ne.symm hji)) h3.2.1 ?_⟩) h2
      rw [Array.setIfInBounds_comm _ _ hji]
      exact h3.2.2
theorem Ahv {ops : Array Oper} {fuel : Nat} {listed : Array Bool} (i : Nat) (D : List Nat) {st : Bool} {o : Oper} {d : Nat} {y : V} (h : LO P ops st Γ o d F H y) (hi : ops[i]? = some o) (hs : Region.noSelect ops = true)
    (hr : (Region.ready .any ops listed).contains i = true) (hf : R5 st ops listed i D = true) (hdp : Akh ops listed i D = true) (hQ : ∀ c F H d, Q (.panic c) F H → Q (.panic c) ((d, .u) :: F) H)
    (j : JA P ops fuel (listed.setIfInBounds i true) Γ ((d, y) :: F) H Q) : JA P ops (fuel + 1) listed Γ F H Q := fun a w ⟨ρ, s⟩ => by
  obtain ⟨hdst, hd, h⟩ := h
  obtain ⟨v, r, hy⟩ := h ρ a w s
  have hD : ∀ j ∈ D, listed.getD j true = false ∧ ∃ oj, ops[j]? = some oj ∧ ∃ e ∈ oj.after, Region.binds .any e = true ∧ (e.on = i ∨ e.on ∈ D) := fun j hj => by
    have := List.all_eq_true.1 hdp j hj
    simp only [Bool.and_eq_true, Bool.not_eq_true'] at this
    refine ⟨this.1, ?_⟩
    cases hoj : ops[j]? with
    | none => rw [hoj] at this; simp at this
    | some oj =>
      rw [hoj] at this
      obtain ⟨e, he, hb⟩ := Array.any_eq_true'.1 this.2
      simp only [Bool.and_eq_true, Bool.or_eq_true] at hb
      exact ⟨oj, rfl, e, he, hb.1, hb.2.imp Nat.eq_of_beq_eq_true (fun h => by simpa using h)⟩
  refine Mi D hi (Region.noSelect_spec hs) ?_ (fun j hj => (hD j hj).2) fuel listed a w (fun j hj => (hD j hj).1) (fun j oj hoj hne hun hjD => ?_) (by simpa using hr) hy (by rw [hdst]; exact j _ _ ⟨ρ, s.put hd r⟩)
  · rintro c a' w' ⟨F', H', q, ρ', s'⟩
    refine ⟨(d, .u) :: F', H', hQ _ _ _ _ q, ρ', s'.hr, ?_, ?_, fun t => ?_, s'.fro⟩
    · have := s'.n; rw [hdst] at this; simpa [Act.put] using this
    · have := s'.ds; rw [hdst] at this; simpa [Act.put] using this
    · rw [Iu]
      by_cases e : t = d
      · rw [if_pos e]; trivial
      · rw [if_neg e]
        have := s'.fr t
        rw [hdst] at this
        simpa [Act.put, Array.getD_eq_getD_getElem?, Array.getElem?_setIfInBounds_ne (Ne.symm e)] using this
  · simp only [R5, hi, List.all_eq_true, List.mem_range] at hf
    have h1 := hf j (Array.getElem?_eq_some_iff.1 hoj).1
    have hb : Nat.beq j i = false := by
      cases hb : Nat.beq j i
      · rfl
      · exact absurd (Nat.eq_of_beq_eq_true hb) hne
    have hc : D.contains j = false := by simpa using hjD
    simp only [hoj, hb, hun, hc, Bool.false_or, Bool.and_eq_true, Bool.or_eq_true, Bool.not_eq_true'] at h1
    exact ⟨h1.1, fun e => h1.2.resolve_left (by simp [e])⟩
theorem Ahs {ops : Array Oper} {d : Nat} {op : Op} {T : TypeId} {ps : String} {af : Array Edge} {y : V} {R : Fr → List Ob → Prop} (h : LY P Γ op F H y) (hd : d < Γ.N) (k : R ((d, y) :: F) H) : JS P ops Γ ⟨some d, op, T, ps, af, none⟩ F H Q R := fun a w ⟨ρ, s⟩ => by
  obtain ⟨v, r, hr⟩ := h ρ a w s
  refine ⟨rfl, ?_⟩
  unfold Oper.wp
  rw [hr _ _ _ _ _ w (Ext.refl w)]
  exact ⟨fun _ => Ext.refl w, _, _, k, ρ, s.put hd r⟩
theorem J8 {ops : Array Oper} {fuel : Nat} {listed : Array Bool} (i j : Nat) {o o' : Oper} (h : JS P ops Γ o F H Q fun F' H' => JA P ops fuel (listed.setIfInBounds i true) Γ F' H' Q) (h' : JS P ops Γ o' F H Q fun F' H' => JA P ops fuel (listed.setIfInBounds j true) Γ F' H' Q) (hi : ops[i]? = some o) (hj : ops[j]? = some o') (hr : Region.ready .any ops listed = [i, j]) : JA P ops (fuel + 1) listed Γ F H Q :=
  Vv [i, j] hr rfl fun k hk => by
    simp only [List.mem_cons, List.not_mem_nil, or_false] at hk
    rcases hk with rfl | rfl
    · exact ⟨o, hi, h⟩
    · exact ⟨o', hj, h'⟩
theorem Aeh {ops : Array Oper} {fuel : Nat} {listed : Array Bool} (i j l : Nat) {o o' o'' : Oper} (h : JS P ops Γ o F H Q fun F' H' => JA P ops fuel (listed.setIfInBounds i true) Γ F' H' Q) (h' : JS P ops Γ o' F H Q fun F' H' => JA P ops fuel (listed.setIfInBounds j true) Γ F' H' Q) (h'' : JS P ops Γ o'' F H Q fun F' H' => JA P ops fuel (listed.setIfInBounds l true) Γ F' H' Q) (hi : ops[i]? = some o) (hj : ops[j]? = some o') (hl : ops[l]? = some o'') (hr : Region.ready .any ops listed = [i, j, l]) : JA P ops (fuel + 1) listed Γ F H Q :=
  Vv [i, j, l] hr rfl fun k hk => by
    simp only [List.mem_cons, List.not_mem_nil, or_false] at hk
    rcases hk with rfl | rfl | rfl
    · exact ⟨o, hi, h⟩
    · exact ⟨o', hj, h'⟩
    · exact ⟨o'', hl, h''⟩
end

section
variable {P : Program} {Γ : Ctx} {F : Fr} {H : List Ob} {Q : Exit → Fr → List Ob → Prop}
theorem N9 : ∀ (a b : List V), b.length ≤ a.length → Gy a 0 b = b ++ a.drop b.length
  | [], [], _ => rfl
  | [], _ :: _, h => by simp at h
  | _ :: _, [], _ => rfl
  | x :: a, y :: b, h => by
    show y :: Gy a 0 b = y :: (b ++ (x :: a).drop (b.length + 1))
    rw [N9 a b (by simpa using h)]; rfl
theorem Acr {T U E t id ver n : Nat} {x y : Operand} {fr : Bool} {k : IntKind} {l l0 : List Int} (hT : P.underlying T = some (.slice E)) (hE : (P.info? E).map (·.size) = some 1) (hx : ovO F x = some (.o id ver 0 n)) (hH : H[id]? = some ⟨t, 1, ver, true, ints k l0⟩) (hn : l0.length = n) (hy : ovO F y = some (.n fr k l)) (hle : l.length ≤ n) :
    ∀ ρ a w, StA Γ ρ F H a w → ∃ w' ρ', StA Γ ρ' F (H.set id ⟨t, 1, ver, true, ints k (l ++ l0.drop l.length)⟩) a w' ∧
      ∀ (dst : Option Tmp) (type : TypeId) (pos : String) (after : Array Edge) (g : Option (Nat × Bool)), (execOp a.eval ⟨dst, .call { callee := .builtin .copy, args := #[x, y], argTypes := #[T, U] }, type, pos, after, g⟩).run P w = .ok (.value (.int .i64 l.length)) w' := fun ρ a w s => by
  obtain ⟨re, o⟩ := s.own hH rfl
  obtain ⟨re0, e1, hle0, hp⟩ := s.ov hx
  obtain rfl : re0 = re := by have := e1.symm.trans o.at_; injection this
  obtain ⟨hcap, hq⟩ := hp (o.ok.ver.symm)
  obtain ⟨A, c, hv, hlc, hcm, h3⟩ := s.ov hy
  have fin : ∀ w', (Builtin.copy_ #[T, U] T #[a.eval x, a.eval y]).run P w = .ok (goInt l.length) w' → ∀ (dst : Option Tmp) (type : TypeId) (pos : String) (after : Array Edge) (g : Option (Nat × Bool)), (Builtin.copy_ #[T, U] type #[a.eval x, a.eval y]).run P w = .ok (goInt l.length) w' → (execOp a.eval ⟨dst, .call { callee := .builtin .copy, args := #[x, y], argTypes := #[T, U] }, type, pos, after, g⟩).run P w = .ok (.value (.int .i64 l.length)) w' := fun w' _ dst type pos after g h =>
    Ea (b := .copy) (ts := #[T, U]) (T := type) (a := a) (args := #[x, y]) (vs := [a.eval x, a.eval y]) (by simp) (fun ts t a_ => Builtin.copy_ ts t a_) (fun _ _ => rfl) h dst pos after g
  by_cases h0 : l = []
  · subst h0
    have hset : H.set id ⟨t, 1, ver, true, ints k ([] ++ l0.drop ([] : List Int).length)⟩ = H := by
      apply List.ext_getElem?
      intro i
      rw [List.getElem?_set]
      by_cases e : id = i
      · subst e; rw [if_pos rfl, if_pos (List.getElem?_eq_some_iff.1 hH).1, hH]; rfl
      · rw [if_neg e]
    refine ⟨w, ρ, by rw [hset]; exact s, fun dst type pos after g => ?_⟩
    have hrun : ∀ ty, (Builtin.copy_ #[T, U] ty #[a.eval x, a.eval y]).run P w = .ok (goInt ([] : List Int).length) w := fun ty => by
      rw [hv]
      rcases hq with ⟨g', ad, hg, hv0, had⟩ | ⟨hg, hv0, _, hl0⟩
      · rw [hv0]; exact run_copy_none (P := P) w T U ty E _ _ _ _ _ _ hT hE (by simp [Nat.min_def])
      · rw [hv0]; exact run_copy_none (P := P) w T U ty E _ _ _ _ _ _ hT hE (by simp [Nat.min_def])
    exact fin w (hrun T) dst type pos after g (hrun type)
  · obtain ⟨ad2, hA, hb2, hc2⟩ := h3 h0
    subst hA
    have hlp : 0 < l.length := List.length_pos_iff.2 h0
    rcases hq with ⟨g, ad, hg, hv0, had⟩ | ⟨hg, hv0, _, hl0⟩
    · obtain ⟨cur, c1, c2, c3, c4, c5⟩ := o.ok.blk g hg
      have had' := had (.inr rfl)
      rw [Nat.zero_mul] at had'
      have hc3 : (ints k l0).length ≤ cur.size := c3
      rw [C5] at hc3
      have hus : (l.map (Value.int k)).length = l.length := List.length_map ..
      have hlen : (cur.toList.take 0 ++ l.map (Value.int k) ++ cur.toList.drop (0 + (l.map (Value.int k)).length)).length = cur.size := by simp; omega
      have hset : ints k (l ++ l0.drop l.length) = Gy (ints k l0) 0 (ints k l) := by
        rw [N9 _ _ (by rw [C5, C5]; omega), C5, ← En]
        congr 1
        simp [ints, List.map_drop]
      rw [hset]
      refine ⟨_, ρ.set id re0, s.update (ob' := ⟨t, 1, ver, true, Gy (ints k l0) 0 (ints k l)⟩) (re' := re0) hH rfl o.at_ (by rw [hg]; exact F9 w g (cur.toList.take 0 ++ l.map (Value.int k) ++ cur.toList.drop (0 + (l.map (Value.int k)).length)).toArray) rfl o.ok.ver o.ok.sz (Nat.le_refl _) (fun _ => rfl) (.inl rfl)
        (fun h => by rw [hg] at h; cases h) (fun g' hg' => ?_), fun dst type pos after gd => ?_⟩
      · obtain rfl : g = g' := by rw [hg] at hg'; injection hg'
        refine ⟨_, setRow_heap w g cur _ t (0, 0) c1, by rw [List.size_toArray, hlen]; exact c2, by rw [List.size_toArray, hlen]; show (Gy (ints k l0) 0 (ints k l)).length ≤ _; rw [Dx]; exact c3, c4, fun j y' hy' => ?_⟩
        rw [List.getElem?_toArray]
        rcases Hz (ints k l0) 0 (ints k l) j y' hy' with ⟨k1', k2', k3'⟩ | ⟨k1', k2'⟩
        · rw [Nat.sub_zero, F8] at k3'
          cases hj : l[j]? with
          | none => rw [hj] at k3'; cases k3'
          | some z =>
            rw [hj] at k3'
            simp only [Option.map_some, Option.some.injEq] at k3'
            subst k3'
            refine ⟨.int k z, ?_, rfl, rfl⟩
            have hjl := (List.getElem?_eq_some_iff.1 hj).1
            rw [List.getElem?_append_left (by simp; omega)]
            simp [hj]
        · obtain ⟨u, d1, d2, d3⟩ := c5 j y' k2'
          refine ⟨u, ?_, d2, d3⟩
          rw [← Array.getElem?_toList] at d1
          rw [C5] at k1'
          rw [List.getElem?_append_right (by simp; omega), List.getElem?_drop, ← d1]; congr 1; simp; omega
      · have hr := fun ty => run_copy_row (P := P) w T U ty E g 0 n (re0.cap - 0) ad2 l.length c cur t (l.map (Value.int k)) hT hE c1 (by rw [hus]; exact (Nat.min_eq_left hle).symm) (fun j v hj => by
          rw [List.getElem?_map] at hj
          cases hj2 : l[j]? with
          | none => rw [hj2] at hj; cases hj
          | some z => rw [hj2] at hj; simp at hj; subst hj; exact hc2 j z hj2) (by rw [hus]; omega) (by simp [Value.oneCell'])
        have hrun : ∀ ty, (Builtin.copy_ #[T, U] ty #[a.eval x, a.eval y]).run P w = .ok (goInt l.length) (w.setRow g (cur.toList.take 0 ++ l.map (Value.int k) ++ cur.toList.drop (0 + (l.map (Value.int k)).length)).toArray) := fun ty => by
          rw [hv, hv0, had']
          have := hr ty
          rwa [hus] at this ⊢
        exact fin _ (hrun T) dst type pos after gd (hrun type)
    · omega
theorem Vp {ops : Array Oper} {rest : List Oper} {d T U E t id ver n : Nat} {ty : TypeId} {ps : String} {af : Array Edge} {x y : Operand} {fr : Bool} {k : IntKind} {l l0 : List Int} (hT : P.underlying T = some (.slice E)) (hE : (P.info? E).map (·.size) = some 1) (hx : ovO F x = some (.o id ver 0 n)) (hH : H[id]? = some ⟨t, 1, ver, true, ints k l0⟩) (hn : l0.length = n) (hy : ovO F y = some (.n fr k l)) (hle : l.length ≤ n)
    (hd : d < Γ.N) (j : JO P ops rest Γ ((d, .i .i64 l.length) :: F) (H.set id ⟨t, 1, ver, true, ints k (l ++ l0.drop l.length)⟩) Q) :
    JO P ops (⟨some d, .call { callee := .builtin .copy, args := #[x, y], argTypes := #[T, U] }, ty, ps, af, none⟩ :: rest) Γ F H Q := fun a w ⟨ρ, s⟩ => by
  obtain ⟨w', ρ', s', hr⟩ := Acr (U := U) hT hE hx hH hn hy hle ρ a w s
  refine wpList_plain rfl fun K hK => ?_
  unfold Oper.wp
  rw [hr _ _ _ _ _]
  exact hK _ _ (j _ _ ⟨ρ', s'.put hd rfl⟩)
theorem Jb {c : Code} : ∀ (k : Nat) (H : List Ob), JC P c Γ F (H ++ List.replicate k (⟨0, 1, 0, true, []⟩ : Ob)) Q → JC P c Γ F H Q
  | 0, H, j => by simpa using j
  | k + 1, H, j => fun a w ⟨ρ, s⟩ => by
    have s' := s.born (re := ⟨none, 0, 0, 1⟩) (ob := ⟨0, 1, 0, true, []⟩) (w' := w) ⟨rfl, rfl, rfl, Nat.le_refl _, fun _ _ _ => rfl⟩ rfl rfl rfl (fun g h => by cases h) (fun _ => ⟨rfl, rfl⟩) (fun g h => by cases h)
    exact Jb k (H ++ [⟨0, 1, 0, true, []⟩]) (by rw [List.append_assoc]; exact j) a w ⟨_, s'⟩
theorem Ba {T n : Nat} {zs : List Value} {id ver T' sz' : Nat} {cs : List V} (hz : ((P.info? T).bind (·.zero)).map (·.cells.toList) = some zs) (hone : zs.all (·.oneCell') = true) (hn : zs.length = n) (h0 : n ≤ maxLen) (hH : H[id]? = some ⟨T', sz', ver, true, cs⟩) :
    HY P Γ (.alloc T) F H (.p id (ver + 1) 0) (H.set id ⟨T, n, ver + 1, true, zs.map cV⟩) := fun ρ a w s => by
  cases hi : P.info? T with
  | none => rw [hi] at hz; cases hz
  | some i =>
    rw [hi] at hz
    cases hz0 : i.zero with
    | none => simp [hz0] at hz
    | some z =>
      simp [hz0] at hz
      obtain ⟨re, o⟩ := s.own hH rfl
      have hver : re.ver = ver := o.ok.ver
      refine ⟨.pointer (some ⟨w.heap.size, 0, none⟩), w.alloc (.cells z.cells T), ρ.set id ⟨some w.heap.size, 1, ver + 1, n⟩, ⟨⟨some w.heap.size, 1, ver + 1, n⟩, by rw [List.getElem?_set]; simp [(List.getElem?_eq_some_iff.1 o.at_).1], Nat.le_refl _, fun _ => ⟨_, rfl, rfl⟩⟩,
        s.update (ob' := ⟨T, n, ver + 1, true, zs.map cV⟩) (re' := ⟨some w.heap.size, 1, ver + 1, n⟩) hH rfl o.at_ (World.grownBy_alloc w _ _) rfl rfl rfl (by show re.ver ≤ ver + 1; omega) (fun h => by have : re.ver = ver + 1 := h; omega) (.inr ⟨_, rfl, Nat.le_refl _⟩) (fun h => by cases h) (fun g' hg' => ?_), Gj w _, fun _ _ _ _ _ => ?_⟩
      · injection hg' with hg'; subst hg'
        refine ⟨z.cells, by show (w.heap.push _)[w.heap.size]? = _; rw [Array.getElem?_push, if_pos rfl], by show _ = 1 * n; rw [Nat.one_mul, ← hn, ← hz]; simp, by show (zs.map cV).length ≤ _; rw [List.length_map, ← hz]; simp, by show 1 ≤ maxLen; decide, fun j y hy => ?_⟩
        rw [List.getElem?_map] at hy
        cases hj : zs[j]? with
        | none => rw [hj] at hy; cases hy
        | some u =>
          rw [hj] at hy
          simp at hy
          subst hy
          exact ⟨u, by rw [← hz] at hj; simpa using hj, List.all_eq_true.1 hone u (List.mem_of_getElem? hj), Uu _ _ _ _ _⟩
      · have e : (Instr.alloc T true (.tuple #[])).run P w = .ok (.pointer (some ⟨w.heap.size, 0, none⟩)) (w.alloc (.cells z.cells T)) := by
          simp [Instr.alloc, zeroValue, typeInfo, hi, hz0, newVar, newRow, newObj, Sem.run]
        exact El e
theorem L5 {ops : Array Oper} {fuel : Nat} {listed : Array Bool} (hp : ∀ c F H d, Q (.panic c) F H → Q (.panic c) ((d, .u) :: F) H) (k : ∀ (ops' : Array Oper) (Q' : Exit → Fr → List Ob → Prop) (F' : Fr), (∀ c F H d, Q' (.panic c) F H → Q' (.panic c) ((d, .u) :: F) H) → ops' = ops → Q' = Q → F' = F → JA P ops' fuel listed Γ F' H Q') : JA P ops fuel listed Γ F H Q := k _ _ _ hp rfl rfl rfl
theorem Ake {ops : Array Oper} {fuel : Nat} {listed listed' : Array Bool} {F' m F0 : Fr} {H' : List Ob} (hl : listed = listed') (hH : H' = H) (hc : Cov F' m F0) (S : JA P ops fuel listed' Γ (m ++ F0) H Q) : JA P ops fuel listed Γ F' H' Q := fun a w ⟨ρ, s⟩ => by
  subst hl; subst hH
  exact S a w ⟨ρ, s.cov hc⟩
end

section
variable {P : Program} {Γ : Ctx} {F : Fr} {H : List Ob} {Q : Exit → Fr → List Ob → Prop}
mutual
def sh (n : Nat) : V → V
  | .p id ver off => .p (id + n) ver off
  | .o id ver off len => .o (id + n) ver off len
  | .f fn cs => .f fn (shL n cs)
  | .a cs => .a (shL n cs)
  | .t cs => .t (shL n cs)
  | y => y
def shL (n : Nat) : List V → List V
  | [] => []
  | y :: ys => sh n y :: shL n ys
end
mutual
theorem Rel.sh {w : World} {L : Nat → Prop} {B : Nat} {ρ ρG : List Re} : ∀ (y : V) (v : Value), Rel w L B ρG y v → Rel w L B (ρ ++ ρG) (Vc.sh ρ.length y) v
  | .i _ _, _, h => h
  | .b _, _, h => h
  | .s _, _, h => h
  | .c _, _, h => h
  | .n _ _ _, _, h => h
  | .l _ _ _, _, h => h
  | .q _, _, h => h
  | .p id ver off, v, ⟨re, h1, h2⟩ => ⟨re, by rw [List.getElem?_append_right (by omega), Nat.add_sub_cancel]; exact h1, h2⟩
  | .o id ver off len, v, ⟨re, h1, h2⟩ => ⟨re, by rw [List.getElem?_append_right (by omega), Nat.add_sub_cancel]; exact h1, h2⟩
  | .f fn cs, v, ⟨us, e, h⟩ => ⟨us, e, RelL.sh cs us h⟩
  | .u, _, _ => trivial
  | .a cs, v, ⟨us, e, h⟩ => ⟨us, e, RelL.sh cs us h⟩
  | .t cs, v, ⟨us, e, h⟩ => ⟨us, e, RelL.sh cs us h⟩
theorem RelL.sh {w : World} {L : Nat → Prop} {B : Nat} {ρ ρG : List Re} : ∀ (ys : List V) (us : List Value), RelL w L B ρG ys us → RelL w L B (ρ ++ ρG) (shL ρ.length ys) us
  | [], _, h => h
  | y :: ys, us, ⟨u, us', e, h1, h2⟩ => ⟨u, us', e, Rel.sh y u h1, RelL.sh ys us' h2⟩
end
theorem Rr {M : Nat → Prop} : Bb M [] [] = M := by
  funext b
  apply propext
  constructor
  · rintro (h | ⟨i, o, r, h1, _⟩)
    · exact h
    · simp at h1
  · exact .inl
theorem Rs {M : Nat → Prop} {ρ ρG : List Re} {H G : List Ob} (hl : ρ.length = H.length) : Bb M (ρ ++ ρG) (H ++ G) = Bb (Bb M ρ H) ρG G := by
  funext b
  apply propext
  constructor
  · rintro (h | ⟨i, o, r, h1, h2, h3, h4⟩)
    · exact .inl (.inl h)
    · rcases Nat.lt_or_ge i H.length with hlt | hge
      · rw [List.getElem?_append_left hlt] at h1
        rw [List.getElem?_append_left (by omega)] at h3
        exact .inl (.inr ⟨i, o, r, h1, h2, h3, h4⟩)
      · rw [List.getElem?_append_right hge] at h1
        rw [List.getElem?_append_right (by omega), hl] at h3
        exact .inr ⟨_, o, r, h1, h2, h3, h4⟩
  · rintro ((h | ⟨i, o, r, h1, h2, h3, h4⟩) | ⟨i, o, r, h1, h2, h3, h4⟩)
    · exact .inl h
    · exact .inr ⟨i, o, r, by rw [List.getElem?_append_left (List.getElem?_eq_some_iff.1 h1).1]; exact h1, h2, by rw [List.getElem?_append_left (List.getElem?_eq_some_iff.1 h3).1]; exact h3, h4⟩
    · exact .inr ⟨i + H.length, o, r, by rw [List.getElem?_append_right (by omega), Nat.add_sub_cancel]; exact h1, h2, by rw [List.getElem?_append_right (by omega), hl, Nat.add_sub_cancel]; exact h3, h4⟩
def Gf (G : List Ob) : Prop := ∀ ob ∈ G, ob.live = true → ∀ y ∈ ob.cs, idB 0 y = true
theorem A0 : Gf [] := fun _ h => by simp at h
theorem Ao {ob : Ob} {G : List Ob} (h : ob.cs.all (idB 0) = true) (hs : Gf G) : Gf (ob :: G) := fun o ho hl y hy => by
  rcases List.mem_cons.1 ho with rfl | ho
  · exact List.all_eq_true.1 h y hy
  · exact hs o ho hl y hy
theorem Q3 {f : FuncId} {fn : Func} {dst : Option Tmp} {T : TypeId} {ps : String} {af : Array Edge} {g : Option (Nat × Bool)} {c : Operand} {args : Array Operand} {ts : Array TypeId} {ys zs : List V} {post : Out → List Ob → Prop}
    (hc : ovO F c = some (.f f [])) (hf : P.funcs[f]? = some fn) (hb : fn.body.isSome = true) (hn : (fn.name == "runtime.NumGoroutine") = false) (hx : ovL F args.toList ys) (ha : ArgL ys zs) (hs : SpecM P f zs [] post) (hid : ∀ o G, post o G → Gf G) {ρ : List Re} {a : Act} {w : World} (s : StA Γ ρ F H a w) {K : Act → World → Prop} {R : Exit → Act → World → Prop}
    (k : ∀ y v w' G ρ', post (.ret y) G → Rel w' (Bb Γ.M ρ' (H ++ G)) Γ.w0.heap.size ρ' (sh H.length y) v → Below w.heap.size w w' → StA Γ ρ' F (H ++ G) a w' → K (a.put dst v) w')
    (kp : ∀ ch w' G ρ', post (.pan ch) G → StA Γ ρ' F (H ++ G) a w' → R (.panic ch) a w') :
    (⟨dst, .call { callee := .value c, args := args, argTypes := ts }, T, ps, af, g⟩ : Oper).wp P a w K R := by
  obtain ⟨us0, hcv, hcr⟩ := s.ov hc
  have hus0 : us0 = [] := hcr
  subst hus0
  have hr := s.ovL hx
  have hargs : args.map a.eval = (args.toList.map a.eval).toArray := by apply Array.ext'; rw [Array.toList_map]
  have hcall := hs (Bb Γ.M ρ H) w [] (args.toList.map a.eval) (fun b h => Ns s h) ⟨rfl, fun i o h => by simp at h, fun i j oi oj ri rj g _ h => by simp at h, fun i o r g h => by simp at h⟩ (by rw [Rr]; exact ha.rel _ hr)
  have hrun : (execOp a.eval ⟨dst, .call { callee := .value c, args := args, argTypes := ts }, T, ps, af, g⟩).run P w = .ok (.enter f (args.toList.map a.eval).toArray) w := by
    have hb' : ¬ fn.body = none := by intro h; rw [h] at hb; cases hb
    have hn' : ¬ fn.name = "runtime.NumGoroutine" := by simpa using hn
    simp [execOp, resolve, hcv, Deferred.ofValue, invoke, callFunc, program, Sem.run, hf]
    rw [if_neg hn', if_neg hb', hargs]
  unfold Oper.wp
  rw [hrun]
  show Calls P f _ w _
  refine hcall.mono fun e w' ⟨o, G, ρG, h1, h2, h3, h4, h5, h6, ev, h8, h9⟩ => ?_
  have hidG := hid o G h1
  have hnoh : ∀ b, ¬ Jc [] [] b := fun b ⟨i, o, r, hh, _⟩ => by simp at hh
  have hbelow : Below w.heap.size w w' := ⟨h4, h5, h6, ev.size, fun b hlt => h9 b hlt (hnoh b)⟩
  have hold : ∀ b, b < w.heap.size → w'.heap[b]? = w.heap[b]? := hbelow.block
  have hnew : ∀ (id : Nat) (ob : Ob) (re : Re) (g : Nat), G[id]? = some ob → ob.live = true → ρG[id]? = some re → re.g = some g → w.heap.size ≤ g := fun id ob re g k1 k2 k3 k4 => (h8 id ob re g k1 k2 k3 k4).resolve_right (hnoh g)
  have hlen := s.hr.len
  have hL := Rs (M := Γ.M) (ρG := ρG) (G := G) hlen
  have ev2 : Ev w (Bb Γ.M ρ H) Γ.w0.heap.size ρ w' (Bb Γ.M (ρ ++ ρG) (H ++ G)) Γ.w0.heap.size (ρ ++ ρG) := by
    refine ⟨ev.size, fun b hlt _ => hold b hlt, fun b hlt hn h => ?_, Nat.le_refl _, fun i r h => ⟨r, by rw [List.getElem?_append_left (List.getElem?_eq_some_iff.1 h).1]; exact h, Nat.le_refl _, fun _ => rfl⟩⟩
    rw [hL] at h
    rcases h with h | ⟨i, o, r, k1, k2, k3, k4⟩
    · exact hn h
    · have := hnew i o r b k1 k2 k3 k4; omega
  have s' : StA Γ (ρ ++ ρG) F (H ++ G) a w' := by
    refine ⟨⟨by rw [List.length_append, List.length_append, hlen, h3.len], fun i o k1 k2 => ?_, fun i j oi oj ri rj g hij k1 k2 k3 k4 k5 k6 => ?_, fun i o r g k1 k2 k3 k4 => ?_⟩, s.n, s.ds, fun t => (s.fr t).ev ev2, ⟨h4.trans s.fro.os, h5.trans s.fro.tape, h6.trans s.fro.output, Nat.le_trans s.fro.size ev.size, fun b hlt hnl => by rw [hold b (Nat.lt_of_lt_of_le hlt s.fro.size)]; exact s.fro.blk b hlt hnl, s.fro.old, fun i o r g k1 k2 k3 k4 => ?_, fun i r hi => ?_⟩⟩
    · rcases Nat.lt_or_ge i H.length with hlt | hge
      · rw [List.getElem?_append_left hlt] at k1
        obtain ⟨r, k3, k4⟩ := s.hr.ob i o k1 k2
        refine ⟨r, by rw [List.getElem?_append_left (by omega)]; exact k3, k4.ver, k4.sz, k4.nob, fun g hg => ?_⟩
        obtain ⟨cur, c1, c2, c3, c4, c5⟩ := k4.blk g hg
        have hglt : g < w.heap.size := (Array.getElem?_eq_some_iff.1 c1).1
        exact ⟨cur, by rw [hold g hglt]; exact c1, c2, c3, c4, fun j y hy => by obtain ⟨u, d1, d2, d3⟩ := c5 j y hy; exact ⟨u, d1, d2, d3.ev ev2⟩⟩
      · rw [List.getElem?_append_right hge] at k1
        obtain ⟨r, k3, k4⟩ := h3.ob _ o k1 k2
        refine ⟨r, by rw [List.getElem?_append_right (by omega), hlen]; exact k3, k4.ver, k4.sz, k4.nob, fun g hg => ?_⟩
        obtain ⟨cur, c1, c2, c3, c4, c5⟩ := k4.blk g hg
        refine ⟨cur, c1, c2, c3, c4, fun j y hy => ?_⟩
        obtain ⟨u, d1, d2, d3⟩ := c5 j y hy
        refine ⟨u, d1, d2, ?_⟩
        have hcut := d3.cut (n := 0) y u (hidG o (List.mem_of_getElem? k1) k2 y (List.mem_of_getElem? hy))
        rw [List.take_zero] at hcut
        rw [hL]
        exact Lu s.fro.size y u hcut
    · rcases Nat.lt_or_ge i H.length with hi | hi <;> rcases Nat.lt_or_ge j H.length with hj | hj
      · rw [List.getElem?_append_left hi] at k1
        rw [List.getElem?_append_left hj] at k3
        rw [List.getElem?_append_left (by omega)] at k5 k6
        exact s.hr.apart i j oi oj ri rj g hij k1 k2 k3 k4 k5 k6
      · rw [List.getElem?_append_left hi] at k1
        rw [List.getElem?_append_right hj] at k3
        rw [List.getElem?_append_left (by omega)] at k5
        rw [List.getElem?_append_right (by omega), hlen] at k6
        intro hg hg'
        obtain ⟨r, m1, m2⟩ := s.hr.ob i oi k1 k2
        obtain rfl : r = ri := by have := m1.symm.trans k5; injection this
        obtain ⟨cur, c1, _⟩ := m2.blk g hg
        have hglt : g < w.heap.size := (Array.getElem?_eq_some_iff.1 c1).1
        have := hnew _ oj rj g k3 k4 k6 hg'
        omega
      · rw [List.getElem?_append_right hi] at k1
        rw [List.getElem?_append_left hj] at k3
        rw [List.getElem?_append_right (by omega), hlen] at k5
        rw [List.getElem?_append_left (by omega)] at k6
        intro hg hg'
        obtain ⟨r, m1, m2⟩ := s.hr.ob j oj k3 k4
        obtain rfl : r = rj := by have := m1.symm.trans k6; injection this
        obtain ⟨cur, c1, _⟩ := m2.blk g hg'
        have hglt : g < w.heap.size := (Array.getElem?_eq_some_iff.1 c1).1
        have := hnew _ oi ri g k1 k2 k5 hg
        omega
      · rw [List.getElem?_append_right hi] at k1
        rw [List.getElem?_append_right hj] at k3
        rw [List.getElem?_append_right (by omega), hlen] at k5 k6
        exact h3.apart _ _ oi oj ri rj g (by omega) k1 k2 k3 k4 k5 k6
    · rcases Nat.lt_or_ge i H.length with hi | hi
      · rw [List.getElem?_append_left hi] at k1
        rw [List.getElem?_append_left (by omega)] at k3
        exact s.hr.foreign i o r g k1 k2 k3 k4
      · rw [List.getElem?_append_right hi] at k1
        rw [List.getElem?_append_right (by omega), hlen] at k3
        exact fun hM => h3.foreign _ o r g k1 k2 k3 k4 (.inl hM)
    · rcases Nat.lt_or_ge i H.length with hi | hi
      · rw [List.getElem?_append_left hi] at k1
        rw [List.getElem?_append_left (by omega)] at k3
        exact s.fro.mine i o r g k1 k2 k3 k4
      · rw [List.getElem?_append_right hi] at k1
        rw [List.getElem?_append_right (by omega), hlen] at k3
        have := hnew _ o r g k1 k2 k3 k4
        exact .inl (Nat.le_trans s.fro.size this)
    · obtain ⟨r1, e1, e2, e3⟩ := s.fro.rho i r hi
      exact ⟨r1, by rw [List.getElem?_append_left (List.getElem?_eq_some_iff.1 e1).1]; exact e1, e2, e3⟩
  cases o with
  | ret y =>
    obtain ⟨v, rfl, hr'⟩ := h2
    refine k y v w' G (ρ ++ ρG) h1 ?_ hbelow s'
    rw [hL, ← hlen]
    exact I4 s.fro.size _ v (Rel.sh y v hr')
  | pan ch =>
    have : e = .panicked ch := h2
    subst this
    exact kp ch w' G _ h1 s'
theorem Fk {f : FuncId} (fn : Func) {ops : Array Oper} {rest : List Oper} {d : Nat} {T : TypeId} {ps : String} {af : Array Edge} {args : Array Operand} {ts : Array TypeId} {c : Operand} {ys zs : List V} {post : Out → List Ob → Prop}
    (hs : SpecM P f zs [] post) (hid : ∀ o G, post o G → Gf G) (hc : ovO F c = some (.f f [])) (hf : P.funcs[f]? = some fn) (hb : fn.body.isSome = true) (hn : (fn.name == "runtime.NumGoroutine") = false) (hx : ovL F args.toList ys) (ha : ArgL ys zs) (hd : d < Γ.N)
    (k : ∀ y G, post (.ret y) G → JO P ops rest Γ ((d, sh H.length y) :: F) (H ++ G) Q) (kp : ∀ ch G, post (.pan ch) G → Q (.panic ch) F (H ++ G)) :
    JO P ops (⟨some d, .call { callee := .value c, args := args, argTypes := ts }, T, ps, af, none⟩ :: rest) Γ F H Q := fun a w ⟨ρ, s⟩ =>
  wpList_plain rfl fun K hK => Q3 hc hf hb hn hx ha hs hid s (fun y v w' G ρ' h1 h2 _ h4 => hK _ _ (k y G h1 _ _ ⟨ρ', h4.put hd h2⟩)) (fun ch w' G ρ' h1 h3 => ⟨F, H ++ G, kp ch G h1, ρ', h3⟩)
theorem Eu {ops : Array Oper} {f : FuncId} (fn : Func) {d : Nat} {T : TypeId} {ps : String} {af : Array Edge} {args : Array Operand} {ts : Array TypeId} {c : Operand} {ys zs : List V} {post : Out → List Ob → Prop} {R : Fr → List Ob → Prop}
    (hs : SpecM P f zs [] post) (hid : ∀ o G, post o G → Gf G) (hc : ovO F c = some (.f f [])) (hf : P.funcs[f]? = some fn) (hb : fn.body.isSome = true) (hn : (fn.name == "runtime.NumGoroutine") = false) (hx : ovL F args.toList ys) (ha : ArgL ys zs) (hd : d < Γ.N)
    (k : ∀ y G, post (.ret y) G → R ((d, sh H.length y) :: F) (H ++ G)) (kp : ∀ ch G, post (.pan ch) G → Q (.panic ch) F (H ++ G)) :
    JS P ops Γ ⟨some d, .call { callee := .value c, args := args, argTypes := ts }, T, ps, af, none⟩ F H Q R := fun a w ⟨ρ, s⟩ =>
  ⟨rfl, Q3 hc hf hb hn hx ha hs hid s (fun y v w' G ρ' h1 h2 h3 h4 => ⟨fun _ => Hb h3, _, _, k y G h1, ρ', h4.put hd h2⟩) (fun ch w' G ρ' h1 h3 => ⟨F, H ++ G, kp ch G h1, ρ', h3⟩)⟩
end

mutual
def scB : V → Bool
  | .i _ _ | .b _ | .s _ | .c _ | .u => true
  | .a cs => Agp cs
  | .t cs => Agp cs
  | _ => false
def Agp : List V → Bool
  | [] => true
  | y :: ys => scB y && Agp ys
end
mutual
theorem Rel.sc {w w' : World} {L L' : Nat → Prop} {B B' : Nat} {ρ ρ' : List Re} : ∀ (y : V) (v : Value), scB y = true → Rel w L B ρ y v → Rel w' L' B' ρ' y v
  | .i _ _, _, _, h => h
  | .b _, _, _, h => h
  | .s _, _, _, h => h
  | .c _, _, _, h => h
  | .u, _, _, h => h
  | .a cs, _, hs, ⟨us, e, h⟩ => ⟨us, e, RelL.sc cs us hs h⟩
  | .t cs, _, hs, ⟨us, e, h⟩ => ⟨us, e, RelL.sc cs us hs h⟩
  | .n _ _ _, _, hs, _ => by simp [scB] at hs
  | .l _ _ _, _, hs, _ => by simp [scB] at hs
  | .q _, _, hs, _ => by simp [scB] at hs
  | .p _ _ _, _, hs, _ => by simp [scB] at hs
  | .o _ _ _ _, _, hs, _ => by simp [scB] at hs
  | .f _ _, _, hs, _ => by simp [scB] at hs
theorem RelL.sc {w w' : World} {L L' : Nat → Prop} {B B' : Nat} {ρ ρ' : List Re} : ∀ (ys : List V) (us : List Value), Agp ys = true → RelL w L B ρ ys us → RelL w' L' B' ρ' ys us
  | [], _, _, h => h
  | y :: ys, us, hs, ⟨u, us', e, h1, h2⟩ => by
    simp only [Agp, Bool.and_eq_true] at hs
    exact ⟨u, us', e, Rel.sc y u hs.1 h1, RelL.sc ys us' hs.2 h2⟩
end
section
variable {P : Program} {Γ : Ctx} {F : Fr} {H : List Ob} {Q : Exit → Fr → List Ob → Prop}
inductive NilOwn (id : Nat) : V → V → Prop
  | same {y : V} : NilOwn id y y
  | nil : NilOwn id (.c (.slice none 0 0)) (.o id 0 0 0)
  | a0 : NilOwn id (.a []) (.a [])
  | a1 {y z : V} {ys zs : List V} (h : NilOwn id y z) (hs : NilOwn id (.a ys) (.a zs)) : NilOwn id (.a (y :: ys)) (.a (z :: zs))
theorem NilOwn.rel {id : Nat} {y z : V} (h : NilOwn id y z) {w : World} {L : Nat → Prop} {B sz : Nat} {ρ : List Re} (hid : ρ[id]? = some ⟨none, 0, 0, sz⟩) : ∀ {v : Value}, Rel w L B ρ y v → Rel w L B ρ z v := by
  induction h with
  | same => exact fun h => h
  | nil => rintro v rfl; exact ⟨_, hid, Nat.zero_le _, fun _ => ⟨Nat.le_refl _, .inr ⟨rfl, rfl, rfl, rfl⟩⟩⟩
  | a0 => exact fun h => h
  | a1 h hs ih1 ih2 =>
    rintro v ⟨us, rfl, u, us', rfl, hr1, hr2⟩
    obtain ⟨us'', e2, hr3⟩ := ih2 ⟨us', rfl, hr2⟩
    have : us' = us'' := by injection e2 with e2; have := congrArg Array.toList e2; simpa using this
    subst this
    exact ⟨_, rfl, u, us', rfl, ih1 hr1, hr3⟩
def Dq {α : Type} (d : α) (sel : List Nat) (l : List α) : List α := sel.map fun i => (l[i]?).getD d
def Om : Ob := ⟨0, 0, 0, false, []⟩
def Ol : Re := ⟨none, 0, 0, 0⟩
theorem Pt {α : Type} {d : α} {sel : List Nat} {l : List α} {j : Nat} {x : α} (h : (Dq d sel l)[j]? = some x) : ∃ i, sel[j]? = some i ∧ (l[i]?).getD d = x := by
  unfold Dq at h
  rw [List.getElem?_map] at h
  cases hj : sel[j]? with
  | none => rw [hj] at h; cases h
  | some i => rw [hj] at h; exact ⟨i, rfl, by injection h⟩
theorem Kp {α : Type} {d : α} {sel : List Nat} {l : List α} {j i : Nat} {x : α} (h : sel[j]? = some i) (hx : l[i]? = some x) : (Dq d sel l)[j]? = some x := by
  unfold Dq
  rw [List.getElem?_map, h]
  simp [hx]
theorem Jy {sel : List Nat} {H : List Ob} {j : Nat} {o : Ob} (h : (Dq Om sel H)[j]? = some o) (hl : o.live = true) : ∃ i, sel[j]? = some i ∧ H[i]? = some o := by
  obtain ⟨i, h1, h2⟩ := Pt h
  refine ⟨i, h1, ?_⟩
  cases hi : H[i]? with
  | none => rw [hi] at h2; subst h2; cases hl
  | some o' => rw [hi] at h2; rw [← h2]; rfl
mutual
def ren (sel : List Nat) : V → V
  | .p id ver off => .p (sel.getD id 0) ver off
  | .o id ver off len => .o (sel.getD id 0) ver off len
  | .f fn cs => .f fn (renL sel cs)
  | .a cs => .a (renL sel cs)
  | .t cs => .t (renL sel cs)
  | y => y
def renL (sel : List Nat) : List V → List V
  | [] => []
  | y :: ys => ren sel y :: renL sel ys
end
theorem Aa5 {sel : List Nat} {ρ : List Re} {id : Nat} {re : Re} (hi : id < sel.length) (e : ρ[sel.getD id 0]? = some re) : (Dq Ol sel ρ)[id]? = some re := by
  refine Kp (i := sel[id]) (List.getElem?_eq_getElem hi) ?_
  rw [List.getD_eq_getElem?_getD, List.getElem?_eq_getElem hi] at e
  exact e
mutual
theorem Rel.unren {w : World} {L : Nat → Prop} {B : Nat} {ρ : List Re} {sel : List Nat} : ∀ (y : V) (v : Value), idB sel.length y = true → Rel w L B ρ (ren sel y) v → Rel w L B (Dq Ol sel ρ) y v
  | .i _ _, _, _, h => h
  | .b _, _, _, h => h
  | .s _, _, _, h => h
  | .c _, _, _, h => h
  | .n _ _ _, _, _, h => h
  | .l _ _ _, _, _, h => h
  | .q _, _, _, h => h
  | .u, _, _, h => h
  | .p id _ _, _, hi, ⟨re, e, h⟩ => ⟨re, Aa5 (by simpa [idB] using hi) e, h⟩
  | .o id _ _ _, _, hi, ⟨re, e, h⟩ => ⟨re, Aa5 (by simpa [idB] using hi) e, h⟩
  | .f _ cs, _, hi, ⟨us, e, h⟩ => ⟨us, e, RelL.unren cs us hi h⟩
  | .a cs, _, hi, ⟨us, e, h⟩ => ⟨us, e, RelL.unren cs us hi h⟩
  | .t cs, _, hi, ⟨us, e, h⟩ => ⟨us, e, RelL.unren cs us hi h⟩
theorem RelL.unren {w : World} {L : Nat → Prop} {B : Nat} {ρ : List Re} {sel : List Nat} : ∀ (ys : List V) (us : List Value), S7 sel.length ys = true → RelL w L B ρ (renL sel ys) us → RelL w L B (Dq Ol sel ρ) ys us
  | [], _, _, h => h
  | y :: ys, us, hi, ⟨u, us', e, h1, h2⟩ => by
    simp only [S7, Bool.and_eq_true] at hi
    exact ⟨u, us', e, Rel.unren y u hi.1 h1, RelL.unren ys us' hi.2 h2⟩
end
theorem J5 {M : Nat → Prop} {ρ : List Re} {H : List Ob} {sel : List Nat} (hlen : ρ.length = H.length) : ∀ b, Bb M (Dq Ol sel ρ) (Dq Om sel H) b → Bb M ρ H b := by
  rintro b (h | ⟨j, o, r, h1, h2, h3, h4⟩)
  · exact .inl h
  · obtain ⟨i, k1, k2⟩ := Jy h1 h2
    obtain ⟨i', k3, k4⟩ := Pt h3
    obtain rfl : i = i' := by rw [k1] at k3; injection k3
    have : i < ρ.length := by rw [hlen]; exact (List.getElem?_eq_some_iff.1 k2).1
    rw [List.getElem?_eq_getElem this] at k4
    exact .inr ⟨i, o, r, k2, h2, by rw [List.getElem?_eq_getElem this]; exact congrArg some k4, h4⟩
theorem Fv {ρ : List Re} {H : List Ob} {sel : List Nat} (hlen : ρ.length = H.length) {j : Nat} {o : Ob} {r : Re} (h1 : (Dq Om sel H)[j]? = some o) (h2 : o.live = true) (h3 : (Dq Ol sel ρ)[j]? = some r) : ∃ i, sel[j]? = some i ∧ H[i]? = some o ∧ ρ[i]? = some r := by
  obtain ⟨i, k1, k2⟩ := Jy h1 h2
  obtain ⟨i', k3, k4⟩ := Pt h3
  obtain rfl : i = i' := by rw [k1] at k3; injection k3
  have : i < ρ.length := by rw [hlen]; exact (List.getElem?_eq_some_iff.1 k2).1
  rw [List.getElem?_eq_getElem this] at k4
  exact ⟨i, k1, k2, by rw [List.getElem?_eq_getElem this]; exact congrArg some k4⟩
def Adi (P : Program) (fn : Func) (post : Out → List Ob → Prop) : Exit → Fr → List Ob → Prop
  | .ret, F, H | .normal, F, H => ∃ sel ys y, ResL P F H fn.results.toList ys ∧ ren sel y = Ii ys ∧ idB sel.length y = true ∧ sel.Nodup ∧ Gf (Dq Om sel H) ∧ post (.ret y) (Dq Om sel H)
  | .panic ch, _, H => post (.pan ch) []
  | _, _, _ => False
theorem Ei {f : FuncId} {fn : Func} {c : Code} {args : List V} {post : Out → List Ob → Prop} (F0 : Fr) (h0 : ((args.zipIdx 0).map fun p => (p.2, p.1)) = F0) (hf : P.funcs[f]? = some fn) (hb : fn.body = some c) (hn : args.length ≤ fn.ntmps)
    (h : ∀ Γ : Ctx, Γ.N = fn.ntmps → Γ.ds = [] → (∀ b, ¬ Γ.L0 b) → Γ.ρ0 = [] → JC P c Γ F0 [] (Adi P fn post)) : SpecM P f args [] post := fun M w ρ vals hM hR hr => by
  have hρ : ρ = [] := List.eq_nil_of_length_eq_zero hR.len
  subst hρ; subst h0; refine calls_of_wp hf hb ?_
  have hlen : vals.length = args.length := (Fw args vals hr).1
  let Γ : Ctx := ⟨fn.ntmps, w, M, [], Jc [] [], []⟩
  have s : StA Γ [] ((args.zipIdx 0).map fun p => (p.2, p.1)) [] ⟨vals.toArray ++ Array.replicate (fn.ntmps - vals.toArray.size) undef, []⟩ w := by
    refine ⟨hR, ?_, rfl, fun t => ?_, ⟨rfl, rfl, rfl, Nat.le_refl _, fun _ _ _ => rfl, hM, fun i o r g h1 h2 h3 h4 => .inr ⟨i, o, r, h1, h2, h3, h4⟩, fun i r h => ⟨r, h, Nat.le_refl _, fun _ => rfl⟩⟩⟩
    · show fn.ntmps ≤ (vals.toArray ++ Array.replicate (fn.ntmps - vals.toArray.size) undef).size
      simp; omega
    · have look : ∀ (ys : List V) (k t : Nat), Cp ((ys.zipIdx k).map fun p => (p.2, p.1)) t = if k ≤ t then ys[t - k]? else none := by
        intro ys
        induction ys with
        | nil => intro k t; simp [Cp]
        | cons y ys ih =>
          intro k t
          simp only [List.zipIdx_cons, List.map_cons, Cp]
          cases hb : Nat.beq t k
          · have hne : t ≠ k := by intro e; subst e; simp at hb
            rw [ih (k + 1) t]
            by_cases h1 : k ≤ t
            · rw [if_pos h1, if_pos (by omega), show t - k = (t - (k + 1)) + 1 by omega]; rfl
            · rw [if_neg h1, if_neg (by omega)]; rfl
          · have := Nat.eq_of_beq_eq_true hb
            subst this
            simp
      unfold get
      rw [look args 0 t, if_pos (Nat.zero_le _), Nat.sub_zero]
      cases ht : args[t]? with
      | none => exact trivial
      | some y =>
        obtain ⟨u, hu, hru⟩ := Fq args vals t y hr ht
        have hlt : t < vals.length := (List.getElem?_eq_some_iff.1 hu).1
        have e : ((vals.toArray ++ Array.replicate (fn.ntmps - vals.toArray.size) undef).getD t undef) = u := by
          rw [Array.getD_eq_getD_getElem?, Array.getElem?_append_left (by simpa using hlt)]
          simp [hu]
        show Rel w (Bb M [] []) w.heap.size [] y ((vals.toArray ++ Array.replicate (fn.ntmps - vals.toArray.size) undef).getD t undef)
        rw [e]
        exact hru
  have nohand : ∀ b, ¬ Jc [] [] b := fun b hb => by obtain ⟨i, o, r, h1, _⟩ := hb; simp at h1
  have fin : ∀ (F : Fr) (H : List Ob) (ρ1 : List Re) (a : Act) (w' : World) (sel : List Nat), StA Γ ρ1 F H a w' → sel.Nodup → Gf (Dq Om sel H) →
      HR M w' w.heap.size (Dq Ol sel ρ1) (Dq Om sel H) ∧ w'.os = w.os ∧ w'.tape = w.tape ∧ w'.output = w.output ∧ Ev w (Bb M [] []) w.heap.size [] w' (Bb M (Dq Ol sel ρ1) (Dq Om sel H)) w.heap.size (Dq Ol sel ρ1) ∧
      (∀ (id : Nat) (ob : Ob) (re : Re) (g : Nat), (Dq Om sel H)[id]? = some ob → ob.live = true → (Dq Ol sel ρ1)[id]? = some re → re.g = some g → w.heap.size ≤ g ∨ Jc [] [] g) ∧ (∀ b, b < w.heap.size → ¬ Jc [] [] b → w'.heap[b]? = w.heap[b]?) := by
    intro F H ρ1 a w' sel s' hnd hO
    have hsub := J5 (M := M) (sel := sel) s'.hr.len
    have ev : Ev w' (Bb M ρ1 H) w.heap.size ([] : List Re) w' (Bb M (Dq Ol sel ρ1) (Dq Om sel H)) w.heap.size (Dq Ol sel ρ1) :=
      ⟨Nat.le_refl _, fun _ _ _ => rfl, fun b _ hn h => hn (hsub b h), Nat.le_refl _, fun i r h => by simp at h⟩
    refine ⟨⟨by simp [Dq], fun j o h1 h2 => ?_, fun j j' oj oj' rj rj' g hjj h1 h2 h3 h4 h5 h6 => ?_, fun j o r g h1 h2 h3 h4 => ?_⟩, s'.fro.os, s'.fro.tape, s'.fro.output, ⟨s'.fro.size, fun b hlt hL => s'.fro.blk b hlt (nohand b), fun b hlt hL hL' => ?_, Nat.le_refl _, fun i r h => by simp at h⟩, fun j o r g h1 h2 h3 h4 => ?_, fun b hlt hh => s'.fro.blk b hlt hh⟩
    · obtain ⟨i, k1, k2⟩ := Jy h1 h2
      obtain ⟨r, k3, k4⟩ := s'.hr.ob i o k2 h2
      refine ⟨r, Kp k1 k3, k4.ver, k4.sz, k4.nob, fun g hg => ?_⟩
      obtain ⟨cur, c1, c2, c3, c4, c5⟩ := k4.blk g hg
      refine ⟨cur, c1, c2, c3, c4, fun q y hy => ?_⟩
      obtain ⟨u, d1, d2, d3⟩ := c5 q y hy
      refine ⟨u, d1, d2, ?_⟩
      have hcut := d3.cut (n := 0) y u (hO o (List.mem_of_getElem? h1) h2 y (List.mem_of_getElem? hy))
      rw [List.take_zero] at hcut
      exact hcut.ev ev
    · obtain ⟨i, k1, k2, k3⟩ := Fv s'.hr.len h1 h2 h5
      obtain ⟨i', k1', k2', k3'⟩ := Fv s'.hr.len h3 h4 h6
      refine s'.hr.apart i i' oj oj' rj rj' g (fun e => hjj ?_) k2 h2 k2' h4 k3 k3'
      subst e
      have hj : j < sel.length := (List.getElem?_eq_some_iff.1 k1).1
      exact (List.getElem?_inj hj hnd).1 (k1.trans k1'.symm)
    · obtain ⟨i, k1, k2, k3⟩ := Fv s'.hr.len h1 h2 h3
      exact s'.hr.foreign i o r g k2 h2 k3 h4
    · rcases hsub b hL' with hM' | ⟨i, o, r, h1, h2, h3, h4⟩
      · exact hL (.inl hM')
      · rcases s'.fro.mine i o r b h1 h2 h3 h4 with h | h
        · have h' : w.heap.size ≤ b := h
          omega
        · exact nohand b h
    · obtain ⟨i, k1, k2, k3⟩ := Fv s'.hr.len h1 h2 h3
      exact s'.fro.mine i o r g k2 h2 k3 h4
  refine Code.wp_mono (fun e a w' ⟨F, H, q, ρ1, s'⟩ => ?_) (h Γ rfl rfl nohand rfl _ _ ⟨_, s⟩)
  have fin2 : ∀ sel ys y, ResL P F H fn.results.toList ys → ren sel y = Ii ys → idB sel.length y = true → sel.Nodup → Gf (Dq Om sel H) → post (.ret y) (Dq Om sel H) → a.defers = [] ∧ ∃ v, (Go.results fn a.tmps).run P w' = .ok v w' ∧ ∃ o H' ρ', post o H' ∧ Lf w' (Bb M ρ' H') w.heap.size ρ' o (.returned v) ∧ HR M w' w.heap.size ρ' H' ∧
      w'.os = w.os ∧ w'.tape = w.tape ∧ w'.output = w.output ∧ Ev w (Bb M [] []) w.heap.size [] w' (Bb M ρ' H') w.heap.size ρ' ∧
      (∀ (id : Nat) (ob : Ob) (re : Re) (g : Nat), H'[id]? = some ob → ob.live = true → ρ'[id]? = some re → re.g = some g → w.heap.size ≤ g ∨ Jc [] [] g) ∧ (∀ b, b < w.heap.size → ¬ Jc [] [] b → w'.heap[b]? = w.heap[b]?) := by
    intro sel ys y h1 h2 h3 h4 h5 h6
    obtain ⟨v, hv, hr'⟩ := s'.results h1
    obtain ⟨f1, f2, f3, f4, f5, f6, f7⟩ := fin F H ρ1 a w' sel s' h4 h5
    rw [← h2] at hr'
    have hl : Rel w' (Bb M (Dq Ol sel ρ1) (Dq Om sel H)) w.heap.size (Dq Ol sel ρ1) y v :=
      (hr'.unren y v h3).ev ⟨Nat.le_refl _, fun _ _ _ => rfl, fun b _ hn hh => hn (J5 s'.hr.len b hh), Nat.le_refl _, fun i r h => ⟨r, h, Nat.le_refl _, fun _ => rfl⟩⟩
    exact ⟨s'.ds, v, hv, .ret y, _, _, h6, ⟨v, rfl, hl⟩, f1, f2, f3, f4, f5, f6, f7⟩
  cases e with
  | normal => obtain ⟨sel, ys, y, h1, h2, h3, h4, h5, h6⟩ := q; exact fin2 sel ys y h1 h2 h3 h4 h5 h6
  | ret => obtain ⟨sel, ys, y, h1, h2, h3, h4, h5, h6⟩ := q; exact fin2 sel ys y h1 h2 h3 h4 h5 h6
  | panic ch =>
    obtain ⟨f1, f2, f3, f4, f5, f6, f7⟩ := fin F H ρ1 a w' [] s' List.nodup_nil (fun _ h => by simp [Dq] at h)
    exact ⟨s'.ds, .pan ch, _, _, q, rfl, f1, f2, f3, f4, f5, f6, f7⟩
  | _ => exact absurd q (by simp [Adi])
end

def Aki (H : List Ob) : List Nat → List Ob
  | [] => H
  | i :: sel => Aki (D3 H i) sel
inductive SelOk (H : List Ob) (sel0 : List Nat) : List Nat → List Ob → Prop
  | nil : SelOk H sel0 [] []
  | cons {i t sz ver : Nat} {sel : List Nat} {cs cs' : List V} {H0 : List Ob} (h : H[i]? = some ⟨t, sz, ver, true, cs'⟩) (hc : cs' = renL sel0 cs) (hs : SelOk H sel0 sel H0) : SelOk H sel0 (i :: sel) (⟨t, sz, ver, true, cs⟩ :: H0)
theorem SelOk.len {H : List Ob} {sel0 sel : List Nat} {H0 : List Ob} (h : SelOk H sel0 sel H0) : sel.length = H0.length := by
  induction h with
  | nil => rfl
  | cons _ _ _ ih => simp [ih]
theorem SelOk.at_ {H : List Ob} {sel0 sel : List Nat} {H0 : List Ob} (h : SelOk H sel0 sel H0) : ∀ {j : Nat} {o : Ob}, H0[j]? = some o → o.live = true ∧ ∃ i, sel[j]? = some i ∧ H[i]? = some { o with cs := renL sel0 o.cs } := by
  induction h with
  | nil => intro j o h; simp at h
  | cons h hc hs ih =>
    intro j o hj
    cases j with
    | zero =>
      simp at hj
      subst hj
      exact ⟨rfl, _, rfl, by rw [h, hc]⟩
    | succ j => exact ih (by simpa using hj)
section
variable {P : Program} {Γ : Ctx} {F : Fr} {H : List Ob} {Q : Exit → Fr → List Ob → Prop}
end

section
variable {P : Program} {Γ : Ctx} {F : Fr} {H : List Ob} {Q : Exit → Fr → List Ob → Prop}
theorem SpecM.mono {f : FuncId} {args : List V} {H : List Ob} {post post' : Out → List Ob → Prop} (h : SpecM P f args H post) (hp : ∀ o G, post o G → post' o G) : SpecM P f args H post' :=
  fun M w ρ vals h1 h2 h3 => (h M w ρ vals h1 h2 h3).mono fun e w' ⟨o, H', ρ', hq, rest⟩ => ⟨o, H', ρ', hp o H' hq, rest⟩
def Amo (P : Program) (S : TypeId) (f off : Nat) : Bool :=
  match P.underlying S with
  | some (.struct fs) => (fs[f]?).any fun fd => fd.offset == off && Iz P fd.type
  | _ => false
end

mutual
def Ag8 : V → Bool
  | .n _ _ _ | .l _ _ _ | .q _ => false
  | .f _ cs => S1 cs
  | .a cs => S1 cs
  | .t cs => S1 cs
  | _ => true
def S1 : List V → Bool
  | [] => true
  | y :: ys => Ag8 y && S1 ys
end
mutual
theorem Rel.own {w : World} {L L' : Nat → Prop} {B : Nat} {ρ : List Re} : ∀ (y : V) (v : Value), Ag8 y = true → Rel w L B ρ y v → Rel w L' B ρ y v
  | .i _ _, _, _, h => h
  | .b _, _, _, h => h
  | .s _, _, _, h => h
  | .c _, _, _, h => h
  | .n _ _ _, _, hs, _ => by simp [Ag8] at hs
  | .l _ _ _, _, hs, _ => by simp [Ag8] at hs
  | .q _, _, hs, _ => by simp [Ag8] at hs
  | .p _ _ _, _, _, h => h
  | .o _ _ _ _, _, _, h => h
  | .u, _, _, _ => trivial
  | .f _ cs, _, hs, ⟨us, e, h⟩ => ⟨us, e, RelL.own cs us hs h⟩
  | .a cs, _, hs, ⟨us, e, h⟩ => ⟨us, e, RelL.own cs us hs h⟩
  | .t cs, _, hs, ⟨us, e, h⟩ => ⟨us, e, RelL.own cs us hs h⟩
theorem RelL.own {w : World} {L L' : Nat → Prop} {B : Nat} {ρ : List Re} : ∀ (ys : List V) (us : List Value), S1 ys = true → RelL w L B ρ ys us → RelL w L' B ρ ys us
  | [], _, _, h => h
  | y :: ys, _, hs, ⟨u, us', e, h1, h2⟩ => by
    simp only [S1, Bool.and_eq_true] at hs
    exact ⟨u, us', e, Rel.own y u hs.1 h1, RelL.own ys us' hs.2 h2⟩
end
def scG (G : List Ob) : Prop := ∀ ob ∈ G, ob.live = true → ∀ y ∈ ob.cs, scB y = true
section
variable {P : Program} {Γ : Ctx} {F : Fr} {H : List Ob} {Q : Exit → Fr → List Ob → Prop}
end

theorem M0 {w : World} {L : Nat → Prop} {B : Nat} {ρ : List Re} : ∀ (xs ys : List V) (us vs : List Value), RelL w L B ρ xs us → RelL w L B ρ ys vs → RelL w L B ρ (xs ++ ys) (us ++ vs)
  | [], _, us, _, h, h2 => by rw [show us = [] from h]; exact h2
  | x :: xs, ys, _, vs, ⟨u, us', e, h1, h2⟩, h3 => ⟨u, us' ++ vs, by rw [e]; rfl, h1, M0 xs ys us' vs h2 h3⟩
theorem Lv {w : World} {L : Nat → Prop} {B : Nat} {ρ : List Re} : ∀ (xs ys : List V) (us : List Value), RelL w L B ρ (xs ++ ys) us → ∃ u1 u2, us = u1 ++ u2 ∧ RelL w L B ρ xs u1 ∧ RelL w L B ρ ys u2
  | [], ys, us, h => ⟨[], us, rfl, rfl, h⟩
  | x :: xs, ys, _, ⟨u, us', e, h1, h2⟩ => by
    obtain ⟨u1, u2, e2, h3, h4⟩ := Lv xs ys us' h2
    exact ⟨u :: u1, u2, by rw [e, e2]; rfl, ⟨u, u1, rfl, h1, h3⟩, h4⟩
theorem Kt {w : World} {L : Nat → Prop} {B : Nat} {ρ : List Re} : ∀ (ys : List V) (us : List Value), ys.all Ef = true → RelL w L B ρ ys us → RelL w L 0 [] ys us
  | [], _, _, h => h
  | y :: ys, us, hp, ⟨u, us', e, h1, h2⟩ => by
    simp only [List.all_cons, Bool.and_eq_true] at hp
    exact ⟨u, us', e, My y u hp.1 h1, Kt ys us' hp.2 h2⟩
theorem P0 {w w' : World} {L L' : Nat → Prop} {B B' : Nat} {ρ ρ' : List Re} (h : Ev w L B ρ w' L' B' ρ') : ∀ (ys : List V) (us : List Value), RelL w L B ρ ys us → RelL w' L' B' ρ' ys us
  | [], _, r => r
  | y :: ys, us, ⟨u, us', e, h1, h2⟩ => ⟨u, us', e, h1.ev h, P0 h ys us' h2⟩
def cyc (f : FuncId) (pre post : List V) : Nat → V
  | 0 => .u
  | n + 1 => .f f (pre ++ .q [cyc f pre post n] :: post)
section
variable {P : Program} {Γ : Ctx} {F : Fr} {H : List Ob} {Q : Exit → Fr → List Ob → Prop}
theorem F5 {f : FuncId} {caps : Array Operand} {ys : List V} (hx : ovL F caps.toList ys) : LY P Γ (.makeFunc (.func f) #[] caps) F H (.f f ys) := fun ρ a w s =>
  ⟨.func (.func f) #[] (caps.map a.eval), ⟨caps.toList.map a.eval, by congr 1; apply Array.ext'; rw [Array.toList_map], s.ovL hx⟩, fun dst type pos after g w' _ => by
    simp [execOp, Instr.makeFunc]⟩
theorem StA.frozenF {ρ : List Re} {a : Act} {w : World} (s : StA Γ ρ F H a w) {id ver T : Nat} {f : FuncId} {pre post : List V} (hH : H[id]? = some ⟨T, 1, ver, true, [.f f (pre ++ .p id ver 0 :: post)]⟩) {v : Value} (r : Rel w (Bb Γ.M ρ H) Γ.w0.heap.size ρ (.p id ver 0) v)
    (hpre : pre.all Ef = true) (hpost : post.all Ef = true) (hp : ∀ b, ¬ Γ.L0 b) (n : Nat) : Rel w (Bb Γ.M ρ (D3 H id)) Γ.w0.heap.size ρ (.q [cyc f pre post n]) v := by
  obtain ⟨re, o⟩ := s.own hH rfl
  obtain ⟨re', e1, _, hq⟩ := r
  obtain rfl : re' = re := by have := e1.symm.trans o.at_; injection this
  obtain ⟨g, hg, hv⟩ := hq (o.ok.ver.symm)
  have hok := s.mine_dead hH rfl o.at_ hg hp false
  have ev := s.dead_ev id
  obtain ⟨u, d1, _, d3⟩ := o.cell hg (show [V.f f (pre ++ .p id ver 0 :: post)][0]? = some _ from rfl)
  obtain ⟨us, hu, hr⟩ := d3
  obtain ⟨u1, u2, rfl, h1, h2⟩ := Lv pre _ us hr
  obtain ⟨x, u3, rfl, h3, h4⟩ := h2
  have hx : x = .pointer (some ⟨g, 0, none⟩) := by
    obtain ⟨re2, e2, _, hq2⟩ := h3
    obtain rfl : re2 = re' := by have := e2.symm.trans o.at_; injection this
    obtain ⟨g2, hg2, hv2⟩ := hq2 (o.ok.ver.symm)
    rw [hg] at hg2
    injection hg2 with hg2; subst hg2
    exact hv2
  subst hx
  have key : ∀ n, Rel w (Bb Γ.M ρ (D3 H id)) 0 [] (cyc f pre post n) u := by
    intro n
    induction n with
    | zero => trivial
    | succ n ih =>
      exact ⟨u1 ++ .pointer (some ⟨g, 0, none⟩) :: u3, hu, M0 _ _ _ _ (Kt _ _ hpre (P0 ev _ _ h1)) ⟨_, u3, rfl, ⟨⟨g, 0, none⟩, rfl, ⟨hok.1, hok.2.1, by simp⟩, ⟨⟨u, d1, ih⟩, trivial⟩⟩, Kt _ _ hpost (P0 ev _ _ h4)⟩⟩
  rw [hv]
  exact ⟨⟨g, 0, none⟩, rfl, hok, ⟨⟨u, d1, key n⟩, trivial⟩⟩
theorem Ahu {c : Code} (t : Nat) {id ver T : Nat} {f : FuncId} (pre post : List V) (n : Nat) (hx : Cp F t = some (.p id ver 0)) (hH : H[id]? = some ⟨T, 1, ver, true, [.f f (pre ++ .p id ver 0 :: post)]⟩) (hpre : pre.all Ef = true) (hpost : post.all Ef = true) (hp : ∀ b, ¬ Γ.L0 b)
    (j : JC P c Γ ((t, .q [cyc f pre post n]) :: F) (D3 H id) Q) : JC P c Γ F H Q := fun a w ⟨ρ, s⟩ =>
  j a w ⟨ρ, s.frz id t hx fun v r => s.frozenF hH r hpre hpost hp n⟩
theorem Nz {f : FuncId} {fn : Func} {dst : Option Tmp} {T : TypeId} {ps : String} {af : Array Edge} {g : Option (Nat × Bool)} {c : Operand} {args : Array Operand} {ts : Array TypeId} {ys cs zs : List V} {post : Out → List Ob → Prop}
    (hc : ovO F c = some (.f f cs)) (hf : P.funcs[f]? = some fn) (hb : fn.body.isSome = true) (hn : (fn.name == "runtime.NumGoroutine") = false) (hx : ovL F args.toList ys) (ha : ArgL (ys ++ cs) zs) (hs : SpecM P f zs [] post) (hid : ∀ o G, post o G → Gf G) {ρ : List Re} {a : Act} {w : World} (s : StA Γ ρ F H a w) {K : Act → World → Prop} {R : Exit → Act → World → Prop}
    (k : ∀ y v w' G ρ', post (.ret y) G → Rel w' (Bb Γ.M ρ' (H ++ G)) Γ.w0.heap.size ρ' (sh H.length y) v → Below w.heap.size w w' → StA Γ ρ' F (H ++ G) a w' → K (a.put dst v) w')
    (kp : ∀ ch w' G ρ', post (.pan ch) G → StA Γ ρ' F (H ++ G) a w' → R (.panic ch) a w') :
    (⟨dst, .call { callee := .value c, args := args, argTypes := ts }, T, ps, af, g⟩ : Oper).wp P a w K R := by
  obtain ⟨us0, hcv, hcr⟩ := s.ov hc
  have hr := M0 _ _ _ _ (s.ovL hx) hcr
  have hargs : args.map a.eval ++ us0.toArray = (args.toList.map a.eval ++ us0).toArray := by apply Array.ext'; simp
  have hcall := hs (Bb Γ.M ρ H) w [] (args.toList.map a.eval ++ us0) (fun b h => Ns s h) ⟨rfl, fun i o h => by simp at h, fun i j oi oj ri rj g _ h => by simp at h, fun i o r g h => by simp at h⟩ (by rw [Rr]; exact ha.rel _ hr)
  have hrun : (execOp a.eval ⟨dst, .call { callee := .value c, args := args, argTypes := ts }, T, ps, af, g⟩).run P w = .ok (.enter f (args.toList.map a.eval ++ us0).toArray) w := by
    have hb' : ¬ fn.body = none := by intro h; rw [h] at hb; cases hb
    have hn' : ¬ fn.name = "runtime.NumGoroutine" := by simpa using hn
    simp [execOp, resolve, hcv, Deferred.ofValue, invoke, callFunc, program, Sem.run, hf]
    rw [if_neg hn', if_neg hb', hargs]
  unfold Oper.wp
  rw [hrun]
  show Calls P f _ w _
  refine hcall.mono fun e w' ⟨o, G, ρG, h1, h2, h3, h4, h5, h6, ev, h8, h9⟩ => ?_
  have hidG := hid o G h1
  have hnoh : ∀ b, ¬ Jc [] [] b := fun b ⟨i, o, r, hh, _⟩ => by simp at hh
  have hbelow : Below w.heap.size w w' := ⟨h4, h5, h6, ev.size, fun b hlt => h9 b hlt (hnoh b)⟩
  have hold : ∀ b, b < w.heap.size → w'.heap[b]? = w.heap[b]? := hbelow.block
  have hnew : ∀ (id : Nat) (ob : Ob) (re : Re) (g : Nat), G[id]? = some ob → ob.live = true → ρG[id]? = some re → re.g = some g → w.heap.size ≤ g := fun id ob re g k1 k2 k3 k4 => (h8 id ob re g k1 k2 k3 k4).resolve_right (hnoh g)
  have hlen := s.hr.len
  have hL := Rs (M := Γ.M) (ρG := ρG) (G := G) hlen
  have ev2 : Ev w (Bb Γ.M ρ H) Γ.w0.heap.size ρ w' (Bb Γ.M (ρ ++ ρG) (H ++ G)) Γ.w0.heap.size (ρ ++ ρG) := by
    refine ⟨ev.size, fun b hlt _ => hold b hlt, fun b hlt hn h => ?_, Nat.le_refl _, fun i r h => ⟨r, by rw [List.getElem?_append_left (List.getElem?_eq_some_iff.1 h).1]; exact h, Nat.le_refl _, fun _ => rfl⟩⟩
    rw [hL] at h
    rcases h with h | ⟨i, o, r, k1, k2, k3, k4⟩
    · exact hn h
    · have := hnew i o r b k1 k2 k3 k4; omega
  have s' : StA Γ (ρ ++ ρG) F (H ++ G) a w' := by
    refine ⟨⟨by rw [List.length_append, List.length_append, hlen, h3.len], fun i o k1 k2 => ?_, fun i j oi oj ri rj g hij k1 k2 k3 k4 k5 k6 => ?_, fun i o r g k1 k2 k3 k4 => ?_⟩, s.n, s.ds, fun t => (s.fr t).ev ev2, ⟨h4.trans s.fro.os, h5.trans s.fro.tape, h6.trans s.fro.output, Nat.le_trans s.fro.size ev.size, fun b hlt hnl => by rw [hold b (Nat.lt_of_lt_of_le hlt s.fro.size)]; exact s.fro.blk b hlt hnl, s.fro.old, fun i o r g k1 k2 k3 k4 => ?_, fun i r hi => ?_⟩⟩
    · rcases Nat.lt_or_ge i H.length with hlt | hge
      · rw [List.getElem?_append_left hlt] at k1
        obtain ⟨r, k3, k4⟩ := s.hr.ob i o k1 k2
        refine ⟨r, by rw [List.getElem?_append_left (by omega)]; exact k3, k4.ver, k4.sz, k4.nob, fun g hg => ?_⟩
        obtain ⟨cur, c1, c2, c3, c4, c5⟩ := k4.blk g hg
        have hglt : g < w.heap.size := (Array.getElem?_eq_some_iff.1 c1).1
        exact ⟨cur, by rw [hold g hglt]; exact c1, c2, c3, c4, fun j y hy => by obtain ⟨u, d1, d2, d3⟩ := c5 j y hy; exact ⟨u, d1, d2, d3.ev ev2⟩⟩
      · rw [List.getElem?_append_right hge] at k1
        obtain ⟨r, k3, k4⟩ := h3.ob _ o k1 k2
        refine ⟨r, by rw [List.getElem?_append_right (by omega), hlen]; exact k3, k4.ver, k4.sz, k4.nob, fun g hg => ?_⟩
        obtain ⟨cur, c1, c2, c3, c4, c5⟩ := k4.blk g hg
        refine ⟨cur, c1, c2, c3, c4, fun j y hy => ?_⟩
        obtain ⟨u, d1, d2, d3⟩ := c5 j y hy
        refine ⟨u, d1, d2, ?_⟩
        have hcut := d3.cut (n := 0) y u (hidG o (List.mem_of_getElem? k1) k2 y (List.mem_of_getElem? hy))
        rw [List.take_zero] at hcut
        rw [hL]
        exact Lu s.fro.size y u hcut
    · rcases Nat.lt_or_ge i H.length with hi | hi <;> rcases Nat.lt_or_ge j H.length with hj | hj
      · rw [List.getElem?_append_left hi] at k1
        rw [List.getElem?_append_left hj] at k3
        rw [List.getElem?_append_left (by omega)] at k5 k6
        exact s.hr.apart i j oi oj ri rj g hij k1 k2 k3 k4 k5 k6
      · rw [List.getElem?_append_left hi] at k1
        rw [List.getElem?_append_right hj] at k3
        rw [List.getElem?_append_left (by omega)] at k5
        rw [List.getElem?_append_right (by omega), hlen] at k6
        intro hg hg'
        obtain ⟨r, m1, m2⟩ := s.hr.ob i oi k1 k2
        obtain rfl : r = ri := by have := m1.symm.trans k5; injection this
        obtain ⟨cur, c1, _⟩ := m2.blk g hg
        have hglt : g < w.heap.size := (Array.getElem?_eq_some_iff.1 c1).1
        have := hnew _ oj rj g k3 k4 k6 hg'
        omega
      · rw [List.getElem?_append_right hi] at k1
        rw [List.getElem?_append_left hj] at k3
        rw [List.getElem?_append_right (by omega), hlen] at k5
        rw [List.getElem?_append_left (by omega)] at k6
        intro hg hg'
        obtain ⟨r, m1, m2⟩ := s.hr.ob j oj k3 k4
        obtain rfl : r = rj := by have := m1.symm.trans k6; injection this
        obtain ⟨cur, c1, _⟩ := m2.blk g hg'
        have hglt : g < w.heap.size := (Array.getElem?_eq_some_iff.1 c1).1
        have := hnew _ oi ri g k1 k2 k5 hg
        omega
      · rw [List.getElem?_append_right hi] at k1
        rw [List.getElem?_append_right hj] at k3
        rw [List.getElem?_append_right (by omega), hlen] at k5 k6
        exact h3.apart _ _ oi oj ri rj g (by omega) k1 k2 k3 k4 k5 k6
    · rcases Nat.lt_or_ge i H.length with hi | hi
      · rw [List.getElem?_append_left hi] at k1
        rw [List.getElem?_append_left (by omega)] at k3
        exact s.hr.foreign i o r g k1 k2 k3 k4
      · rw [List.getElem?_append_right hi] at k1
        rw [List.getElem?_append_right (by omega), hlen] at k3
        exact fun hM => h3.foreign _ o r g k1 k2 k3 k4 (.inl hM)
    · rcases Nat.lt_or_ge i H.length with hi | hi
      · rw [List.getElem?_append_left hi] at k1
        rw [List.getElem?_append_left (by omega)] at k3
        exact s.fro.mine i o r g k1 k2 k3 k4
      · rw [List.getElem?_append_right hi] at k1
        rw [List.getElem?_append_right (by omega), hlen] at k3
        have := hnew _ o r g k1 k2 k3 k4
        exact .inl (Nat.le_trans s.fro.size this)
    · obtain ⟨r1, e1, e2, e3⟩ := s.fro.rho i r hi
      exact ⟨r1, by rw [List.getElem?_append_left (List.getElem?_eq_some_iff.1 e1).1]; exact e1, e2, e3⟩
  cases o with
  | ret y =>
    obtain ⟨v, rfl, hr'⟩ := h2
    refine k y v w' G (ρ ++ ρG) h1 ?_ hbelow s'
    rw [hL, ← hlen]
    exact I4 s.fro.size _ v (Rel.sh y v hr')
  | pan ch =>
    have : e = .panicked ch := h2
    subst this
    exact kp ch w' G _ h1 s'
theorem Vq {f : FuncId} (fn : Func) {ops : Array Oper} {rest : List Oper} {d : Nat} {T : TypeId} {ps : String} {af : Array Edge} {args : Array Operand} {ts : Array TypeId} {c : Operand} {ys cs zs : List V} {post : Out → List Ob → Prop}
    (hs : SpecM P f zs [] post) (hid : ∀ o G, post o G → Gf G) (hc : ovO F c = some (.f f cs)) (hf : P.funcs[f]? = some fn) (hb : fn.body.isSome = true) (hn : (fn.name == "runtime.NumGoroutine") = false) (hx : ovL F args.toList ys) (ha : ArgL (ys ++ cs) zs) (hd : d < Γ.N)
    (k : ∀ y G, post (.ret y) G → JO P ops rest Γ ((d, sh H.length y) :: F) (H ++ G) Q) (kp : ∀ ch G, post (.pan ch) G → Q (.panic ch) F (H ++ G)) :
    JO P ops (⟨some d, .call { callee := .value c, args := args, argTypes := ts }, T, ps, af, none⟩ :: rest) Γ F H Q := fun a w ⟨ρ, s⟩ =>
  wpList_plain rfl fun K hK => Nz hc hf hb hn hx ha hs hid s (fun y v w' G ρ' h1 h2 _ h4 => hK _ _ (k y G h1 _ _ ⟨ρ', h4.put hd h2⟩)) (fun ch w' G ρ' h1 h3 => ⟨F, H ++ G, kp ch G h1, ρ', h3⟩)
theorem O1 {ops : Array Oper} {f : FuncId} (fn : Func) {d : Nat} {T : TypeId} {ps : String} {af : Array Edge} {args : Array Operand} {ts : Array TypeId} {c : Operand} {ys cs zs : List V} {post : Out → List Ob → Prop} {R : Fr → List Ob → Prop}
    (hs : SpecM P f zs [] post) (hid : ∀ o G, post o G → Gf G) (hc : ovO F c = some (.f f cs)) (hf : P.funcs[f]? = some fn) (hb : fn.body.isSome = true) (hn : (fn.name == "runtime.NumGoroutine") = false) (hx : ovL F args.toList ys) (ha : ArgL (ys ++ cs) zs) (hd : d < Γ.N)
    (k : ∀ y G, post (.ret y) G → R ((d, sh H.length y) :: F) (H ++ G)) (kp : ∀ ch G, post (.pan ch) G → Q (.panic ch) F (H ++ G)) :
    JS P ops Γ ⟨some d, .call { callee := .value c, args := args, argTypes := ts }, T, ps, af, none⟩ F H Q R := fun a w ⟨ρ, s⟩ =>
  ⟨rfl, Nz hc hf hb hn hx ha hs hid s (fun y v w' G ρ' h1 h2 h3 h4 => ⟨fun _ => Hb h3, _, _, k y G h1, ρ', h4.put hd h2⟩) (fun ch w' G ρ' h1 h3 => ⟨F, H ++ G, kp ch G h1, ρ', h3⟩)⟩
end

inductive SelD (H : List Ob) (sel0 : List Nat) : List Nat → List Ob → Prop
  | nil : SelD H sel0 [] []
  | cons {i t sz ver : Nat} {sel : List Nat} {cs cs' : List V} {H0 : List Ob} (h : H[i]? = some ⟨t, sz, ver, true, cs'⟩) (hc : cs' = renL sel0 cs) (hs : SelD H sel0 sel H0) : SelD H sel0 (i :: sel) (⟨t, sz, ver, true, cs⟩ :: H0)
  | dead {i t sz ver : Nat} {sel : List Nat} {cs : List V} {H0 : List Ob} (hs : SelD H sel0 sel H0) : SelD H sel0 (i :: sel) (⟨t, sz, ver, false, cs⟩ :: H0)
theorem SelD.len {H : List Ob} {sel0 sel : List Nat} {H0 : List Ob} (h : SelD H sel0 sel H0) : sel.length = H0.length := by
  induction h with
  | nil => rfl
  | cons _ _ _ ih => simp [ih]
  | dead _ ih => simp [ih]
theorem SelD.at_ {H : List Ob} {sel0 sel : List Nat} {H0 : List Ob} (h : SelD H sel0 sel H0) : ∀ {j : Nat} {o : Ob}, H0[j]? = some o → o.live = true → ∃ i, sel[j]? = some i ∧ H[i]? = some { o with cs := renL sel0 o.cs } := by
  induction h with
  | nil => intro j o h; simp at h
  | cons h hc _ ih =>
    intro j o hj hl
    cases j with
    | zero => simp at hj; subst hj; exact ⟨_, rfl, hc ▸ h⟩
    | succ j => simp at hj; obtain ⟨i, e1, e2⟩ := ih hj hl; exact ⟨i, by simpa using e1, e2⟩
  | dead _ ih =>
    intro j o hj hl
    cases j with
    | zero => simp at hj; subst hj; cases hl
    | succ j => simp at hj; obtain ⟨i, e1, e2⟩ := ih hj hl; exact ⟨i, by simpa using e1, e2⟩
section
variable {P : Program} {Γ : Ctx} {F : Fr} {H : List Ob} {Q : Exit → Fr → List Ob → Prop}
theorem Vi {sel : List Nat} {n : Nat} (h : ∀ i, i < n → sel[i]? = some i) {i : Nat} (hi : Nat.blt i n = true) : sel.getD i 0 = i := by
  rw [List.getD_eq_getElem?_getD, h i (by simpa using hi)]; rfl
mutual
theorem Adc (sel : List Nat) (n : Nat) (h : ∀ i, i < n → sel[i]? = some i) : ∀ y, idB n y = true → ren sel y = y
  | .p id ver off, h1 => by
    simp only [ren]; rw [Vi h h1]
  | .o id ver off len, h1 => by
    simp only [ren]; rw [Vi h h1]
  | .f fn cs, h1 => by simp only [ren]; rw [J1 sel n h cs h1]
  | .a cs, h1 => by simp only [ren]; rw [J1 sel n h cs h1]
  | .t cs, h1 => by simp only [ren]; rw [J1 sel n h cs h1]
  | .i _ _, _ => rfl
  | .b _, _ => rfl
  | .s _, _ => rfl
  | .c _, _ => rfl
  | .n _ _ _, _ => rfl
  | .l _ _ _, _ => rfl
  | .q _, _ => rfl
  | .u, _ => rfl
theorem J1 (sel : List Nat) (n : Nat) (h : ∀ i, i < n → sel[i]? = some i) : ∀ ys, S7 n ys = true → renL sel ys = ys
  | [], _ => rfl
  | y :: ys, h1 => by
    simp only [S7, Bool.and_eq_true] at h1
    simp only [renL]; rw [Adc sel n h y h1.1, J1 sel n h ys h1.2]
end
mutual
theorem Y7 {n m : Nat} (h : n ≤ m) : ∀ y, idB n y = true → idB m y = true
  | .p id ver off, h1 => by simp only [idB, Nat.blt_eq] at h1 ⊢; omega
  | .o id ver off len, h1 => by simp only [idB, Nat.blt_eq] at h1 ⊢; omega
  | .f fn cs, h1 => It h cs h1
  | .a cs, h1 => It h cs h1
  | .t cs, h1 => It h cs h1
  | .i _ _, _ => rfl
  | .b _, _ => rfl
  | .s _, _ => rfl
  | .c _, _ => rfl
  | .n _ _ _, _ => rfl
  | .l _ _ _, _ => rfl
  | .q _, _ => rfl
  | .u, _ => rfl
theorem It {n m : Nat} (h : n ≤ m) : ∀ ys, S7 n ys = true → S7 m ys = true
  | [], _ => rfl
  | y :: ys, h1 => by
    simp only [S7, Bool.and_eq_true] at h1 ⊢
    exact ⟨Y7 h y h1.1, It h ys h1.2⟩
end
def Aly {α : Type} : List Nat → List α → List α → List α
  | [], xs, new => xs ++ new
  | i :: sel, xs, x :: new => Aly sel (xs.set i x) new
  | _ :: _, xs, [] => xs
def Al0 (sel : List Nat) (n j : Nat) : Nat := if j < sel.length then sel.getD j 0 else n + (j - sel.length)
def Amc (sel : List Nat) (n k : Nat) : List Nat := (List.range k).map (Al0 sel n)
end

def Amk (σ : List Nat) (G : List Ob) : List Ob := G.map fun o => { o with cs := renL σ o.cs }
mutual
theorem Rel.ren {w : World} {L : Nat → Prop} {B : Nat} {ρ ρ2 : List Re} {σ : List Nat} (h : ∀ (i : Nat) (re : Re), ρ[i]? = some re → ρ2[σ.getD i 0]? = some re) : ∀ (y : V) (v : Value), Rel w L B ρ y v → Rel w L B ρ2 (Vc.ren σ y) v
  | .i _ _, _, h1 => h1
  | .b _, _, h1 => h1
  | .s _, _, h1 => h1
  | .c _, _, h1 => h1
  | .n _ _ _, _, h1 => h1
  | .l _ _ _, _, h1 => h1
  | .q _, _, h1 => h1
  | .u, _, _ => trivial
  | .p id ver off, v, ⟨re, h1, h2⟩ => ⟨re, h id re h1, h2⟩
  | .o id ver off len, v, ⟨re, h1, h2⟩ => ⟨re, h id re h1, h2⟩
  | .f fn cs, v, ⟨us, e, h1⟩ => ⟨us, e, RelL.ren h cs us h1⟩
  | .a cs, v, ⟨us, e, h1⟩ => ⟨us, e, RelL.ren h cs us h1⟩
  | .t cs, v, ⟨us, e, h1⟩ => ⟨us, e, RelL.ren h cs us h1⟩
theorem RelL.ren {w : World} {L : Nat → Prop} {B : Nat} {ρ ρ2 : List Re} {σ : List Nat} (h : ∀ (i : Nat) (re : Re), ρ[i]? = some re → ρ2[σ.getD i 0]? = some re) : ∀ (ys : List V) (us : List Value), RelL w L B ρ ys us → RelL w L B ρ2 (Vc.renL σ ys) us
  | [], _, h1 => h1
  | y :: ys, us, ⟨u, us', e, h1, h2⟩ => ⟨u, us', e, Rel.ren h y u h1, RelL.ren h ys us' h2⟩
end
section
variable {P : Program} {Γ : Ctx} {F : Fr} {H : List Ob} {Q : Exit → Fr → List Ob → Prop}
end
end Go.Proofs.YtnadmljoefecfaaGreatDoor.Vc
