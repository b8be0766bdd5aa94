/- The calculus, third part: light operations (they yield a value and leave the world alone). -/
import Derived.Test.YtcdipmjgpimmdaaVcB
set_option linter.unusedVariables false
set_option linter.unusedSimpArgs false
namespace Go.Proofs.Ytcdipmjgpimmdaa.Vc
open Go Go.RowKit

/-- Every cell that could be read reads the same. -/
def Ext (w w' : World) : Prop := ∀ a v, w.cell? a = some v → w'.cell? a = some v
theorem Ext.refl (w : World) : Ext w w := fun _ _ h => h

/-- What an operand is in a frame. -/
def ovO (F : Fr) : Operand → Option V
  | .tmp t => getO F t
  | .const (.int k n) => some (.i k n)
  | .const (.bool x) => some (.b x)
  | .const (.string x) => some (.s x)
  | .const v => some (.c v)
  | .func f => some (.f f [])
  | .global g => some (.c (.pointer (some ⟨g, 0, none⟩)))

section
variable {P : Program} {Γ : Ctx} {F : Fr} {H : List Ob} {Q : Exit → Fr → List Ob → Prop}

theorem StA.ov {ρ : List Re} {a : Act} {w : World} (s : StA Γ ρ F H a w) {x : Operand} {y : V} (h : ovO F x = some y) : Rel w (Lset Γ.M ρ H) Γ.w0.heap.size ρ y (a.eval x) := by
  cases x with
  | tmp t =>
    have := s.fr t
    unfold get at this
    rw [show getO F t = some y from h] at this
    exact this
  | const v => cases v <;> (injection h with h; subst h; rfl)
  | func f => injection h with h; subst h; exact ⟨[], rfl, rfl⟩
  | global g => injection h with h; subst h; rfl

/-- The operation yields such a value, in this world and in every one that reads as it does. -/
def LY (P : Program) (Γ : Ctx) (op : Op) (F : Fr) (H : List Ob) (y : V) : Prop :=
  ∀ ρ a w, StA Γ ρ F H a w → ∃ v, Rel w (Lset Γ.M ρ H) Γ.w0.heap.size ρ y v ∧
    ∀ (dst : Option Tmp) (type : TypeId) (pos : String) (after : Array Edge) (g : Option (Nat × Bool)) (w' : World), Ext w w' → (execOp a.eval ⟨dst, op, type, pos, after, g⟩).run P w' = .ok (.value v) w'

theorem get_cons (F : Fr) (t k : Nat) (y : V) : get ((t, y) :: F) k = if k = t then y else get F k := by
  unfold get
  by_cases h : k = t
  · subst h; simp [getO]
  · have : Nat.beq k t = false := by
      cases hb : Nat.beq k t
      · rfl
      · exact absurd (Nat.eq_of_beq_eq_true hb) h
    simp [getO, this, h]

theorem StA.put {ρ : List Re} {a : Act} {w : World} (s : StA Γ ρ F H a w) {d : Nat} (hd : d < Γ.N) {y : V} {v : Value} (r : Rel w (Lset Γ.M ρ H) Γ.w0.heap.size ρ y v) :
    StA Γ ρ ((d, y) :: F) H (a.put (some d) v) w := by
  refine ⟨s.hr, by simpa [Act.put] using s.n, by simpa [Act.put] using s.ds, fun t => ?_, s.fro⟩
  rw [get_cons]
  by_cases h : t = d
  · subst h
    have : t < a.tmps.size := Nat.lt_of_lt_of_le hd s.n
    rw [if_pos rfl]
    simpa [Act.put, Array.getD_eq_getD_getElem?, this] using r
  · rw [if_neg h]
    have := s.fr t
    simpa [Act.put, Array.getD_eq_getD_getElem?, Array.getElem?_setIfInBounds_ne (Ne.symm h)] using this

theorem jo_l {ops : Array Oper} {rest : List Oper} {d : Nat} {op : Op} {T : TypeId} {ps : String} {af : Array Edge} {y : V} (h : LY P Γ op F H y) (hd : d < Γ.N)
    (j : JO P ops rest Γ ((d, y) :: F) H Q) : JO P ops (⟨some d, op, T, ps, af, none⟩ :: rest) Γ F H Q := fun a w ⟨ρ, s⟩ => by
  obtain ⟨v, r, hr⟩ := h ρ a w s
  refine wpList_plain rfl fun K hK => ?_
  unfold Oper.wp
  rw [hr _ _ _ _ _ w (Ext.refl w)]
  exact hK _ _ (j _ _ ⟨ρ, s.put hd r⟩)
theorem yielded_of {ops : Array Oper} {ρ : List Re} {a : Act} {w : World} (s : StA Γ ρ F H a w) {j0 t0 : Nat} {b : Bool} (ht : (ops[j0]?).bind (·.dst) = some t0) (hb : getO F t0 = some (.b b)) : yielded ops a.tmps j0 = some b := by
  have h1 := s.fr t0
  unfold get at h1
  rw [hb] at h1
  have h2 : a.tmps.getD t0 undef = .bool b := h1
  have h3 : a.tmps[t0]? = some (.bool b) := by
    rw [Array.getD_eq_getD_getElem?] at h2
    cases h : a.tmps[t0]? with
    | none => rw [h] at h2; cases h2
    | some v => rw [h] at h2; rw [show v = Value.bool b from h2]
  unfold yielded
  rw [ht]
  show (match a.tmps[t0]? with | some (.bool b) => some b | _ => none) = some b
  rw [h3]
theorem wanted_yes {ops : Array Oper} {a : Act} {o : Oper} {j0 : Nat} {b : Bool} (hg : o.guard = some (j0, b)) (h : yielded ops a.tmps j0 = some b) : Region.wanted o (yielded ops a.tmps) = true := by
  unfold Region.wanted
  rw [hg]
  simp [h]
theorem wanted_no {ops : Array Oper} {a : Act} {o : Oper} {j0 : Nat} {b : Bool} (hg : o.guard = some (j0, b)) (h : yielded ops a.tmps j0 ≠ some b) : Region.wanted o (yielded ops a.tmps) = false := by
  unfold Region.wanted
  rw [hg]
  simpa using h
/-- A guarded operation whose guard says yes. -/
theorem jo_g {ops : Array Oper} {rest : List Oper} {d : Nat} {op : Op} {T : TypeId} {ps : String} {af : Array Edge} {y : V} {j0 : Nat} {b0 : Bool} (t0 : Nat) (ht : (ops[j0]?).bind (·.dst) = some t0) (hb : getO F t0 = some (.b b0))
    (h : LY P Γ op F H y) (hd : d < Γ.N)
    (j : JO P ops rest Γ ((d, y) :: F) H Q) : JO P ops (⟨some d, op, T, ps, af, some (j0, b0)⟩ :: rest) Γ F H Q := fun a w ⟨ρ, s⟩ => by
  obtain ⟨v, r, hr⟩ := h ρ a w s
  refine wpList_step fun K hK => ?_
  rw [if_pos (wanted_yes rfl (yielded_of s ht hb))]
  unfold Oper.wp
  rw [hr _ _ _ _ _ w (Ext.refl w)]
  exact hK _ _ (j _ _ ⟨ρ, s.put hd r⟩)
/-- A guarded operation whose guard says no. -/
theorem jo_s {ops : Array Oper} {rest : List Oper} {d : Nat} {op : Op} {T : TypeId} {ps : String} {af : Array Edge} {j0 : Nat} {b0 b1 : Bool} (t0 : Nat) (ht : (ops[j0]?).bind (·.dst) = some t0) (hb : getO F t0 = some (.b b1)) (hne : (b0 == b1) = false)
    (hd : d < Γ.N) (j : JO P ops rest Γ ((d, .c undef) :: F) H Q) : JO P ops (⟨some d, op, T, ps, af, some (j0, b0)⟩ :: rest) Γ F H Q := fun a w ⟨ρ, s⟩ => by
  refine wpList_step fun K hK => ?_
  rw [if_neg (by rw [wanted_no rfl (by rw [yielded_of s ht hb]; intro e; injection e with e; subst e; simp at hne)]; exact Bool.false_ne_true)]
  exact hK _ _ (j _ _ ⟨ρ, s.put hd (y := .c undef) rfl⟩)
/-- The same, the guard's own operation having been passed over. -/
theorem jo_s' {ops : Array Oper} {rest : List Oper} {d : Nat} {op : Op} {T : TypeId} {ps : String} {af : Array Edge} {j0 : Nat} {b0 : Bool} (t0 : Nat) (ht : (ops[j0]?).bind (·.dst) = some t0) (hb : getO F t0 = some (.c undef))
    (hd : d < Γ.N) (j : JO P ops rest Γ ((d, .c undef) :: F) H Q) : JO P ops (⟨some d, op, T, ps, af, some (j0, b0)⟩ :: rest) Γ F H Q := fun a w ⟨ρ, s⟩ => by
  have h1 := s.fr t0
  unfold get at h1
  rw [hb] at h1
  have h2 : a.tmps.getD t0 undef = undef := h1
  have hy : yielded ops a.tmps j0 ≠ some b0 := by
    unfold yielded
    rw [ht]
    show (match a.tmps[t0]? with | some (.bool b) => some b | _ => none) ≠ some b0
    rw [Array.getD_eq_getD_getElem?] at h2
    cases h : a.tmps[t0]? with
    | none => simp
    | some v => rw [h] at h2; rw [show v = undef from h2]; simp [undef]
  refine wpList_step fun K hK => ?_
  rw [if_neg (by rw [wanted_no rfl hy]; exact Bool.false_ne_true)]
  exact hK _ _ (j _ _ ⟨ρ, s.put hd (y := .c undef) rfl⟩)

/-! ### Values on the move, whole numbers, truths, texts -/
theorem run_next {α : Type} {P : Program} (s : Sem Value) (v : Value) (w : World) (h : s.run P w = .ok v w) : (do pure (.value (← s)) : Sem Next).run P w = .ok (.value v) w := by
  rw [Sem.run_bind, h]; rfl
theorem ly_mv {x : Operand} {y : V} (h : ovO F x = some y) : LY P Γ (.move x) F H y := fun ρ a w s => ⟨_, s.ov h, fun _ _ _ _ _ _ _ => rfl⟩
theorem ly_as {x : Operand} {y : V} (h : ovO F x = some y) : LY P Γ (.assign x) F H y := fun ρ a w s => ⟨_, s.ov h, fun _ _ _ _ _ _ _ => rfl⟩
theorem eval_i {ρ : List Re} {a : Act} {w : World} (s : StA Γ ρ F H a w) {x : Operand} {k : IntKind} {n : Int} (h : ovO F x = some (.i k n)) : a.eval x = .int k n := by
  exact s.ov h
theorem eval_b {ρ : List Re} {a : Act} {w : World} (s : StA Γ ρ F H a w) {x : Operand} {b : Bool} (h : ovO F x = some (.b b)) : a.eval x = .bool b := by
  exact s.ov h
theorem eval_s {ρ : List Re} {a : Act} {w : World} (s : StA Γ ρ F H a w) {x : Operand} {b : ByteArray} (h : ovO F x = some (.s b)) : a.eval x = .string b := by
  exact s.ov h
theorem eval_c {ρ : List Re} {a : Act} {w : World} (s : StA Γ ρ F H a w) {x : Operand} {v : Value} (h : ovO F x = some (.c v)) : a.eval x = v := by
  exact s.ov h
theorem ly_pick_t {c x z : Operand} {y : V} (hc : ovO F c = some (.b true)) (h : ovO F x = some y) : LY P Γ (.pick c x z) F H y := fun ρ a w s =>
  ⟨_, s.ov h, fun _ _ _ _ _ w' _ => by simp [execOp, eval_b s hc, asBool]⟩
theorem ly_pick_f {c x z : Operand} {y : V} (hc : ovO F c = some (.b false)) (h : ovO F z = some y) : LY P Γ (.pick c x z) F H y := fun ρ a w s =>
  ⟨_, s.ov h, fun _ _ _ _ _ w' _ => by simp [execOp, eval_b s hc, asBool]⟩
/-- '&&' and '||' of two truths that are both known. -/
theorem ly_and {c x : Operand} {p q : Bool} (hc : ovO F c = some (.b p)) (hx : ovO F x = some (.b q)) : LY P Γ (.pick c x (.const (.bool false))) F H (.b (p && q)) := fun ρ a w s =>
  ⟨.bool (p && q), rfl, fun _ _ _ _ _ w' _ => by
    have e : a.eval (.const (.bool false)) = .bool false := rfl
    cases p <;> simp [execOp, eval_b s hc, asBool, eval_b s hx, e]⟩
theorem ly_or {c x : Operand} {p q : Bool} (hc : ovO F c = some (.b p)) (hx : ovO F x = some (.b q)) : LY P Γ (.pick c (.const (.bool true)) x) F H (.b (p || q)) := fun ρ a w s =>
  ⟨.bool (p || q), rfl, fun _ _ _ _ _ w' _ => by
    have e : a.eval (.const (.bool true)) = .bool true := rfl
    cases p <;> simp [execOp, eval_b s hc, asBool, eval_b s hx, e]⟩

theorem run_v {s : Sem Value} {v : Value} {w w' : World} (h : s.run P w = .ok v w') : (do pure (.value (← s)) : Sem Next).run P w = .ok (.value v) w' := by
  rw [Sem.run_bind, h]; rfl
theorem eqGuard_int {op : BinOp} {T : TypeId} {x y : Operand} {k k' : IntKind} {a b : Int} (w : World) : (eqGuard op T x y (.int k a) (.int k' b)).run P w = .ok () w := by
  unfold eqGuard
  cases op <;> simp

section ints
variable {x y : Operand} {T T' : TypeId} {k : IntKind} {m n r : Int}
theorem ly_bin {op : BinOp} {u v z : Value} {yy : V} (hx : ∀ ρ a w, StA Γ ρ F H a w → a.eval x = u) (hy : ∀ ρ a w, StA Γ ρ F H a w → a.eval y = v) (hg : ∀ w, (eqGuard op T x y u v).run P w = .ok () w) (hb : ∀ w, (binOp op T u v).run P w = .ok z w)
    (hr : ∀ ρ a w, StA Γ ρ F H a w → Rel w (Lset Γ.M ρ H) Γ.w0.heap.size ρ yy z) : LY P Γ (.binOp op T x y T') F H yy := fun ρ a w s =>
  ⟨z, hr ρ a w s, fun _ _ _ _ _ w' _ => by
    have e1 : (do eqGuard op T x y (a.eval x) (a.eval y); binOp op T (a.eval x) (a.eval y) : Sem Value).run P w' = .ok z w' := by
      rw [hx ρ a w s, hy ρ a w s, Sem.run_bind, hg w']; exact hb w'
    exact run_v e1⟩
theorem ly_int {op : BinOp} {z : Value} {yy : V} (hx : ovO F x = some (.i k m)) (hy : ovO F y = some (.i k n)) (hb : ∀ w, (binOp op T (.int k m) (.int k n)).run P w = .ok z w)
    (hr : ∀ w L B ρ, Rel w L B ρ yy z) : LY P Γ (.binOp op T x y T') F H yy :=
  ly_bin (fun _ _ _ s => eval_i s hx) (fun _ _ _ s => eval_i s hy) (fun w => eqGuard_int w) hb (fun _ _ _ _ => hr _ _ _ _)
theorem ly_add (hx : ovO F x = some (.i k m)) (hy : ovO F y = some (.i k n)) (hr : k.wrap (m + n) = r) : LY P Γ (.binOp .add T x y T') F H (.i k r) :=
  ly_int hx hy (z := .int k r) (fun w => by rw [← hr]; simp [binOp, Op.intArith]) (fun _ _ _ _ => rfl)
theorem ly_sub (hx : ovO F x = some (.i k m)) (hy : ovO F y = some (.i k n)) (hr : k.wrap (m - n) = r) : LY P Γ (.binOp .sub T x y T') F H (.i k r) :=
  ly_int hx hy (z := .int k r) (fun w => by rw [← hr]; simp [binOp, Op.intArith]) (fun _ _ _ _ => rfl)
theorem ly_mul (hx : ovO F x = some (.i k m)) (hy : ovO F y = some (.i k n)) (hr : k.wrap (m * n) = r) : LY P Γ (.binOp .mul T x y T') F H (.i k r) :=
  ly_int hx hy (z := .int k r) (fun w => by rw [← hr]; simp [binOp, Op.intArith]) (fun _ _ _ _ => rfl)
theorem ly_quo (hx : ovO F x = some (.i k m)) (hy : ovO F y = some (.i k n)) (h0 : n ≠ 0) (hr : k.wrap (m.tdiv n) = r) : LY P Γ (.binOp .quo T x y T') F H (.i k r) :=
  ly_int hx hy (z := .int k r) (fun w => by rw [← hr]; simp [binOp, Op.intDiv, h0]) (fun _ _ _ _ => rfl)
theorem ly_rem (hx : ovO F x = some (.i k m)) (hy : ovO F y = some (.i k n)) (h0 : n ≠ 0) (hr : m.tmod n = r) : LY P Γ (.binOp .rem T x y T') F H (.i k r) :=
  ly_int hx hy (z := .int k r) (fun w => by rw [← hr]; simp [binOp, Op.intDiv, h0]) (fun _ _ _ _ => rfl)
def bitop (op : BinOp) (k : IntKind) (m n : Int) : Int :=
  let a := BitVec.ofInt k.bits m
  let b := BitVec.ofInt k.bits n
  k.wrap (match op with | .and => (a &&& b).toNat | .or => (a ||| b).toNat | .xor => (a ^^^ b).toNat | _ => (a &&& ~~~b).toNat : Nat)
theorem ly_bit {op : BinOp} (hop : op = .and ∨ op = .or ∨ op = .xor ∨ op = .andNot) (hx : ovO F x = some (.i k m)) (hy : ovO F y = some (.i k n)) (hr : bitop op k m n = r) : LY P Γ (.binOp op T x y T') F H (.i k r) :=
  ly_int hx hy (z := .int k r) (fun w => by rw [← hr]; rcases hop with rfl | rfl | rfl | rfl <;> simp [binOp, Op.intBits, bitop]) (fun _ _ _ _ => rfl)
theorem ly_shl {k' : IntKind} (hx : ovO F x = some (.i k m)) (hy : ovO F y = some (.i k' n)) (h0 : 0 ≤ n) (hr : k.wrap (m * 2 ^ min n.toNat k.bits) = r) : LY P Γ (.binOp .shl T x y T') F H (.i k r) :=
  ly_bin (fun _ _ _ s => eval_i s hx) (fun _ _ _ s => eval_i s hy) (fun w => eqGuard_int w) (z := .int k r) (fun w => by simp [binOp, Op.shift, show ¬ n < 0 by omega, ← hr]) (fun _ _ _ _ => rfl)
theorem ly_shr {k' : IntKind} (hx : ovO F x = some (.i k m)) (hy : ovO F y = some (.i k' n)) (h0 : 0 ≤ n) (hr : m.fdiv (2 ^ min n.toNat k.bits) = r) : LY P Γ (.binOp .shr T x y T') F H (.i k r) :=
  ly_bin (fun _ _ _ s => eval_i s hx) (fun _ _ _ s => eval_i s hy) (fun w => eqGuard_int w) (z := .int k r) (fun w => by simp [binOp, Op.shift, show ¬ n < 0 by omega, ← hr]) (fun _ _ _ _ => rfl)
theorem ly_eq (hx : ovO F x = some (.i k m)) (hy : ovO F y = some (.i k n)) : LY P Γ (.binOp .eql T x y T') F H (.b (decide (m = n))) :=
  ly_int hx hy (z := .bool (m == n)) (fun w => by simp [binOp, Op.intCmp]) (fun _ _ _ _ => by show Value.bool _ = Value.bool _; congr 1)
theorem ly_ne (hx : ovO F x = some (.i k m)) (hy : ovO F y = some (.i k n)) : LY P Γ (.binOp .neq T x y T') F H (.b (decide (m ≠ n))) :=
  ly_int hx hy (z := .bool (m != n)) (fun w => by simp [binOp, Op.intCmp]) (fun _ _ _ _ => by show Value.bool _ = Value.bool _; congr 1; simp [bne, Bool.beq_eq_decide_eq])
theorem ly_lt (hx : ovO F x = some (.i k m)) (hy : ovO F y = some (.i k n)) : LY P Γ (.binOp .lss T x y T') F H (.b (decide (m < n))) :=
  ly_int hx hy (z := .bool (decide (m < n))) (fun w => by simp [binOp, Op.intCmp]) (fun _ _ _ _ => rfl)
theorem ly_le (hx : ovO F x = some (.i k m)) (hy : ovO F y = some (.i k n)) : LY P Γ (.binOp .leq T x y T') F H (.b (decide (m ≤ n))) :=
  ly_int hx hy (z := .bool (decide (m ≤ n))) (fun w => by simp [binOp, Op.intCmp]) (fun _ _ _ _ => rfl)
theorem ly_gt (hx : ovO F x = some (.i k m)) (hy : ovO F y = some (.i k n)) : LY P Γ (.binOp .gtr T x y T') F H (.b (decide (n < m))) :=
  ly_int hx hy (z := .bool (decide (n < m))) (fun w => by simp [binOp, Op.intCmp]) (fun _ _ _ _ => rfl)
theorem ly_ge (hx : ovO F x = some (.i k m)) (hy : ovO F y = some (.i k n)) : LY P Γ (.binOp .geq T x y T') F H (.b (decide (n ≤ m))) :=
  ly_int hx hy (z := .bool (decide (n ≤ m))) (fun w => by simp [binOp, Op.intCmp]) (fun _ _ _ _ => rfl)
theorem ly_un {op : UnOp} {u z : Value} {yy : V} (hx : ∀ ρ a w, StA Γ ρ F H a w → a.eval x = u) (hb : ∀ w, (Op.unary op u).run P w = .ok z w)
    (hr : ∀ w L B ρ, Rel w L B ρ yy z) : LY P Γ (.unOp op T x) F H yy := fun ρ a w s =>
  ⟨z, hr _ _ _ _, fun _ _ _ _ _ w' _ => by
    have e1 : (Op.unary op (a.eval x)).run P w' = .ok z w' := by rw [hx ρ a w s]; exact hb w'
    exact run_v e1⟩
theorem ly_not {p : Bool} (hx : ovO F x = some (.b p)) : LY P Γ (.unOp .not T x) F H (.b (!p)) := ly_un (fun _ _ _ s => eval_b s hx) (z := .bool (!p)) (fun w => by simp [Op.unary]) (fun _ _ _ _ => rfl)
theorem ly_neg (hx : ovO F x = some (.i k m)) (hr : k.wrap (0 - m) = r) : LY P Γ (.unOp .neg T x) F H (.i k r) := ly_un (fun _ _ _ s => eval_i s hx) (z := .int k r) (fun w => by simp [Op.unary, Op.intArith, ← hr]) (fun _ _ _ _ => rfl)
theorem ly_cpl (hx : ovO F x = some (.i k m)) (hr : bitop .xor k (if k.signed then -1 else k.max) m = r) : LY P Γ (.unOp .xor T x) F H (.i k r) :=
  ly_un (fun _ _ _ s => eval_i s hx) (z := .int k r) (fun w => by subst hr; simp [Op.unary, Op.intBits, bitop]) (fun _ _ _ _ => rfl)
/-- A conversion between kinds of whole numbers. -/
theorem ly_conv {k' : IntKind} {D : TypeDesc} (hs : P.underlying T = some D) (hd : P.underlying T' = some (.int k')) (hx : ovO F x = some (.i k m)) (hr : k'.wrap m = r) : LY P Γ (.convert T T' x) F H (.i k' r) := fun ρ a w s =>
  ⟨.int k' r, rfl, fun _ _ _ _ _ w' _ => by
    have e1 : (convert T T' (a.eval x)).run P w' = .ok (.int k' r) w' := by
      rw [eval_i s hx, ← hr]
      cases D <;> simp [convert, run_underlying hs, run_underlying hd, Conv.intToInt]
    exact run_v e1⟩
end ints

/-! ### Truths and texts compared -/
theorem ly_eqb {x y : Operand} {T T' : TypeId} {p q : Bool} (hT : P.underlying T = some .bool) (hx : ovO F x = some (.b p)) (hy : ovO F y = some (.b q)) : LY P Γ (.binOp .eql T x y T') F H (.b (p == q)) :=
  ly_bin (fun _ _ _ s => eval_b s hx) (fun _ _ _ s => eval_b s hy) (fun w => by simp [eqGuard]) (z := .bool (p == q)) (fun w => run_eql_bool w T p q hT) (fun _ _ _ _ => rfl)
theorem ly_neb {x y : Operand} {T T' : TypeId} {p q : Bool} (hT : P.underlying T = some .bool) (hx : ovO F x = some (.b p)) (hy : ovO F y = some (.b q)) : LY P Γ (.binOp .neq T x y T') F H (.b (!(p == q))) :=
  ly_bin (fun _ _ _ s => eval_b s hx) (fun _ _ _ s => eval_b s hy) (fun w => by simp [eqGuard]) (z := .bool (!(p == q))) (fun w => run_neq_bool w T p q hT) (fun _ _ _ _ => rfl)
theorem ly_eqs {x y : Operand} {T T' : TypeId} {p q : ByteArray} (hx : ovO F x = some (.s p)) (hy : ovO F y = some (.s q)) : LY P Γ (.binOp .eql T x y T') F H (.b (p.toList == q.toList)) :=
  ly_bin (fun _ _ _ s => eval_s s hx) (fun _ _ _ s => eval_s s hy) (fun w => by simp [eqGuard]) (z := .bool (p.toList == q.toList)) (fun w => by simp [binOp, Op.stringOp]) (fun _ _ _ _ => rfl)
theorem ly_nes {x y : Operand} {T T' : TypeId} {p q : ByteArray} (hx : ovO F x = some (.s p)) (hy : ovO F y = some (.s q)) : LY P Γ (.binOp .neq T x y T') F H (.b (!(p.toList == q.toList))) :=
  ly_bin (fun _ _ _ s => eval_s s hx) (fun _ _ _ s => eval_s s hy) (fun w => by simp [eqGuard]) (z := .bool (!(p.toList == q.toList))) (fun w => by simp [binOp, Op.stringOp]) (fun _ _ _ _ => rfl)
theorem ly_lts {x y : Operand} {T T' : TypeId} {p q : ByteArray} (hx : ovO F x = some (.s p)) (hy : ovO F y = some (.s q)) : LY P Γ (.binOp .lss T x y T') F H (.b (Op.bytesLess p.toList q.toList)) :=
  ly_bin (fun _ _ _ s => eval_s s hx) (fun _ _ _ s => eval_s s hy) (fun w => by simp [eqGuard]) (z := .bool (Op.bytesLess p.toList q.toList)) (fun w => by simp [binOp, Op.stringOp]) (fun _ _ _ _ => rfl)
theorem ly_adds {x y : Operand} {T T' : TypeId} {p q : ByteArray} (hx : ovO F x = some (.s p)) (hy : ovO F y = some (.s q)) (hle : ((p.size + q.size : Nat) : Int) ≤ IntKind.i64.max) : LY P Γ (.binOp .add T x y T') F H (.s (p ++ q)) :=
  ly_bin (fun _ _ _ s => eval_s s hx) (fun _ _ _ s => eval_s s hy) (fun w => by simp [eqGuard]) (z := .string (p ++ q)) (fun w => by simp only [binOp, Op.stringOp]; rw [if_neg (by omega)]; rfl) (fun _ _ _ _ => rfl)
end
end Go.Proofs.Ytcdipmjgpimmdaa.Vc
