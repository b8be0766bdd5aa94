/- Made, negated, sized and compared whole numbers answer as the document says, of every input of bulk at most 1048576 Texts joined: VcH, VcI, VcJ, VcK, VcL, VcM, VcN, VcO, VcR, VcS, VcT, VcU, VcX. -/
import Derived.Test.YtcdipmjgpimmdaaK1
import Derived.Lib.Builder
import Derived.Laws.Externs
import Derived.LaidEqlPtr
import Derived.Lib.AppendStr
import Derived.Test.YtcdipmjgpimmdaaRows
import Derived.ProofKit
import Derived.OpenShut
import Derived.Lib.UnsafeStr
import Derived.Lib.MinMax
import Derived.Laws.StructEq
import Derived.ChangeKeysEq
import Derived.Deep.Slices
import Derived.Deep.Strs
import Derived.WideShapes
import Derived.Carry
/- The calculus, eighth part: contracts, calls, tests, returns. -/
set_option linter.unusedVariables false
set_option linter.unusedSimpArgs false
namespace Go.Proofs.Ytcdipmjgpimmdaa.Vc
open Go Go.RowKit

/-- How a call ends. -/
inductive Out where
  | ret (y : V)
  | pan (c : List PanicEntry)
def EndRel (w : World) (L : Nat → Prop) (B : Nat) : Out → Ending → Prop
  | .ret y, e => ∃ v, e = .returned v ∧ Rel w L B [] y v
  | .pan c, e => e = .panicked c

/-- A contract: arguments without own objects; what was there stays as it was. -/
def Spec (P : Program) (f : FuncId) (args : List V) (post : Out → Prop) : Prop :=
  ∀ (M : Nat → Prop) (w : World) (vals : List Value), (∀ b, M b → b < w.heap.size) → RelL w M w.heap.size [] args vals →
    Calls P f vals.toArray w fun e w' => ∃ o, post o ∧ EndRel w' M w.heap.size o e ∧ Below w.heap.size w w'
theorem Spec.mono {P : Program} {f : FuncId} {args : List V} {post post' : Out → Prop} (h : Spec P f args post) (hp : ∀ o, post o → post' o) : Spec P f args post' :=
  fun M w vals hM hr => (h M w vals hM hr).mono fun e w' ⟨o, h1, h2, h3⟩ => ⟨o, hp o h1, h2, h3⟩

/-- How a value of the caller's is handed over. -/
inductive ArgV : V → V → Prop
  | i {k : IntKind} {n : Int} : ArgV (.i k n) (.i k n)
  | b {x : Bool} : ArgV (.b x) (.b x)
  | s {x : ByteArray} : ArgV (.s x) (.s x)
  | c {v : Value} : ArgV (.c v) (.c v)
  | n {fr : Bool} {k : IntKind} {l : List Int} : ArgV (.n fr k l) (.n false k l)
  | nil {k : IntKind} : ArgV (.c (.slice none 0 0)) (.n false k [])
  | l {fr : Bool} {sz : Nat} {es : List (List V)} : ArgV (.l fr sz es) (.l false sz es)
  | nill {sz : Nat} : ArgV (.c (.slice none 0 0)) (.l false sz [])
  | q {es : List V} : ArgV (.q es) (.q es)
  | f {fn : FuncId} : ArgV (.f fn []) (.f fn [])
  | u {y : V} : ArgV y .u
  | a0 : ArgV (.a []) (.a [])
  | a1 {y z : V} {ys zs : List V} (h : ArgV y z) (hs : ArgV (.a ys) (.a zs)) : ArgV (.a (y :: ys)) (.a (z :: zs))
theorem rel_nil {w : World} {L : Nat → Prop} {B : Nat} {ρ : List Re} {fr : Bool} {k : IntKind} : Rel w L B ρ (.n fr k []) (.slice none 0 0) := ⟨none, 0, rfl, by simp, by simp [maxLen], by simp⟩
theorem rel_nill {w : World} {L : Nat → Prop} {B : Nat} {ρ : List Re} {fr : Bool} {sz : Nat} : Rel w L B ρ (.l fr sz []) (.slice none 0 0) := ⟨none, 0, rfl, by simp, by simp [maxLen], by simp⟩
theorem ArgV.rel {w : World} {L : Nat → Prop} {B B' : Nat} {ρ : List Re} {y z : V} (h : ArgV y z) : ∀ {v : Value}, Rel w L B ρ y v → Rel w L B' [] z v := by
  induction h with
  | i => exact fun h => h
  | b => exact fun h => h
  | s => exact fun h => h
  | c => exact fun h => h
  | n => rintro v ⟨A, c, e, h1, h2, h3⟩; exact ⟨A, c, e, h1, h2, fun hl => by obtain ⟨ad, e1, hb, hc⟩ := h3 hl; exact ⟨ad, e1, ⟨hb.1, hb.2.1, by simp⟩, hc⟩⟩
  | nil => rintro v rfl; exact rel_nil
  | l => rintro v ⟨A, c, e, h1, h2, h3⟩; exact ⟨A, c, e, h1, h2, fun hl => by obtain ⟨ad, e1, hb, hc⟩ := h3 hl; exact ⟨ad, e1, ⟨hb.1, hb.2.1, by simp⟩, hc⟩⟩
  | nill => rintro v rfl; exact rel_nill
  | q => rintro v ⟨ad, e, hb, hc⟩; exact ⟨ad, e, ⟨hb.1, hb.2.1, by simp⟩, hc⟩
  | f => rintro v ⟨us, e, hr⟩; exact ⟨us, e, hr⟩
  | u => exact fun _ => trivial
  | a0 => rintro v ⟨us, e, hr⟩; exact ⟨us, e, hr⟩
  | a1 h hs ih1 ih2 =>
    rintro v ⟨us, rfl, u, us', rfl, hr1, hr2⟩
    obtain ⟨us'', e2, hr3⟩ := ih2 ⟨us', rfl, hr2⟩
    have : us' = us'' := by
      injection e2 with e2
      have := congrArg Array.toList e2; simpa using this
    subst this
    exact ⟨_, rfl, u, us', rfl, ih1 hr1, hr3⟩
def ArgL : List V → List V → Prop
  | [], zs => zs = []
  | y :: ys, zs => ∃ z zs', zs = z :: zs' ∧ ArgV y z ∧ ArgL ys zs'
theorem ArgL.nil : ArgL [] [] := rfl
theorem ArgL.cons {y z : V} {ys zs : List V} (h : ArgV y z) (hs : ArgL ys zs) : ArgL (y :: ys) (z :: zs) := ⟨z, zs, rfl, h, hs⟩
theorem ArgL.rel {w : World} {L : Nat → Prop} {B B' : Nat} {ρ : List Re} : ∀ {ys zs : List V} (us : List Value), ArgL ys zs → RelL w L B ρ ys us → RelL w L B' [] zs us
  | [], zs, us, h, hr => by rw [show zs = [] from h]; exact hr
  | y :: ys, zs, us, ⟨z, zs', e, h1, h2⟩, ⟨u, us', e2, h3, h4⟩ => by rw [e]; exact ⟨u, us', e2, h1.rel h3, h2.rel us' h4⟩

section
variable {P : Program} {Γ : Ctx} {F : Fr} {H : List Ob} {Q : Exit → Fr → List Ob → Prop}

theorem Lset_lt {ρ : List Re} {a : Act} {w : World} (s : StA Γ ρ F H a w) {b : Nat} (h : Lset Γ.M ρ H b) : b < w.heap.size := by
  rcases h with h | ⟨i, o, r, h1, h2, h3, h4⟩
  · exact Nat.lt_of_lt_of_le (s.fro.old b h) s.fro.size
  · exact s.hr.lt h1 h2 h3 h4
/-- The state behind a call that leaves all that was there. -/
theorem StA.below {ρ : List Re} {a : Act} {w w' : World} (s : StA Γ ρ F H a w) (hb : Below w.heap.size w w') : StA Γ ρ F H a w' := by
  have ev : Ev w (Lset Γ.M ρ H) Γ.w0.heap.size ρ w' (Lset Γ.M ρ H) Γ.w0.heap.size ρ := ⟨hb.size, fun b hlt _ => hb.block b hlt, fun b _ hn => hn, Nat.le_refl _, fun i r h => ⟨r, h, Nat.le_refl _, fun _ => rfl⟩⟩
  refine ⟨⟨s.hr.len, fun i o h1 h2 => ?_, s.hr.apart, s.hr.foreign⟩, s.n, s.ds, fun t => (s.fr t).ev ev, ⟨hb.os.trans s.fro.os, hb.tape.trans s.fro.tape, hb.output.trans s.fro.output, Nat.le_trans s.fro.size hb.size, fun b hlt hn => ?_, s.fro.old, s.fro.mine, s.fro.rho⟩⟩
  · obtain ⟨r, h3, h4⟩ := s.hr.ob i o h1 h2
    refine ⟨r, h3, h4.ver, h4.sz, h4.nob, fun g hg => ?_⟩
    obtain ⟨cur, c1, c2, c3, c4, c5⟩ := h4.blk g hg
    exact ⟨cur, by rw [hb.block g (s.hr.lt h1 h2 h3 hg)]; exact c1, c2, c3, c4, fun j y hy => by obtain ⟨u, d1, d2, d3⟩ := c5 j y hy; exact ⟨u, d1, d2, d3.ev ev⟩⟩
  · rw [hb.block b (Nat.lt_of_lt_of_le hlt s.fro.size)]; exact s.fro.blk b hlt hn
theorem ext_below {w w' : World} (hb : Below w.heap.size w w') : Ext w w' := fun a v h => (hb.cell (World.block_lt_of_cell? w a h)).trans h

mutual
/-- A result's relation, weakened to an older block number and any list of entries: results hold no own objects. -/
theorem rel_in {w : World} {L : Nat → Prop} {B B' : Nat} {ρ : List Re} (hB : B' ≤ B) : ∀ (y : V) (v : Value), Rel w L B [] y v → Rel w L B' ρ y v
  | .i _ _, _, h => h
  | .b _, _, h => h
  | .s _, _, h => h
  | .c _, _, h => h
  | .n _ _ _, _, ⟨A, c, e, h1, h2, h3⟩ => ⟨A, c, e, h1, h2, fun hl => by obtain ⟨ad, e1, hb, hc⟩ := h3 hl; exact ⟨ad, e1, ⟨hb.1, hb.2.1, fun e => Nat.le_trans hB (hb.2.2 e)⟩, hc⟩⟩
  | .l _ _ _, _, ⟨A, c, e, h1, h2, h3⟩ => ⟨A, c, e, h1, h2, fun hl => by obtain ⟨ad, e1, hb, hc⟩ := h3 hl; exact ⟨ad, e1, ⟨hb.1, hb.2.1, fun e => Nat.le_trans hB (hb.2.2 e)⟩, hc⟩⟩
  | .q _, _, ⟨ad, e, hb, hc⟩ => ⟨ad, e, ⟨hb.1, hb.2.1, by simp⟩, hc⟩
  | .p _ _ _, _, ⟨re, e, _⟩ => by simp at e
  | .o _ _ _ _, _, ⟨re, e, _⟩ => by simp at e
  | .f _ caps, _, ⟨us, e, h⟩ => ⟨us, e, relL_in hB caps us h⟩
  | .u, _, _ => trivial
  | .a cs, _, ⟨us, e, h⟩ => ⟨us, e, relL_in hB cs us h⟩
  | .t vs, _, ⟨us, e, h⟩ => ⟨us, e, relL_in hB vs us h⟩
theorem relL_in {w : World} {L : Nat → Prop} {B B' : Nat} {ρ : List Re} (hB : B' ≤ B) : ∀ (ys : List V) (us : List Value), RelL w L B [] ys us → RelL w L B' ρ ys us
  | [], _, h => h
  | y :: ys, _, ⟨u, us', e, h1, h2⟩ => ⟨u, us', e, rel_in hB y u h1, relL_in hB ys us' h2⟩
end

/-- A call. -/
theorem wp_call {f : FuncId} {fn : Func} {dst : Option Tmp} {T : TypeId} {ps : String} {af : Array Edge} {g : Option (Nat × Bool)} {c : Operand} {args : Array Operand} {ts : Array TypeId} {ys zs : List V} {post : Out → Prop}
    (hc : ovO F c = some (.f f [])) (hf : P.funcs[f]? = some fn) (hb : fn.body.isSome = true) (hn : (fn.name == "runtime.NumGoroutine") = false) (hx : ovL F args.toList ys) (ha : ArgL ys zs) (hs : Spec P f zs post) {ρ : List Re} {a : Act} {w : World} (s : StA Γ ρ F H a w) {K : Act → World → Prop} {R : Exit → Act → World → Prop}
    (k : ∀ y v w', post (.ret y) → Rel w' (Lset Γ.M ρ H) Γ.w0.heap.size ρ y v → Below w.heap.size w w' → StA Γ ρ F H a w' → K (a.put dst v) w')
    (kp : ∀ ch w', post (.pan ch) → Below w.heap.size w w' → StA Γ ρ F H a w' → R (.panic ch) a w') :
    (⟨dst, .call { callee := .value c, args := args, argTypes := ts }, T, ps, af, g⟩ : Oper).wp P a w K R := by
  obtain ⟨us0, hcv, hcr⟩ := s.ov hc
  have hus0 : us0 = [] := hcr
  subst hus0
  have hr := s.ovL hx
  have hargs : args.map a.eval = (args.toList.map a.eval).toArray := by apply Array.ext'; rw [Array.toList_map]
  have hcall := hs (Lset Γ.M ρ H) w (args.toList.map a.eval) (fun b h => Lset_lt s h) (ha.rel _ hr)
  have hrun : (execOp a.eval ⟨dst, .call { callee := .value c, args := args, argTypes := ts }, T, ps, af, g⟩).run P w = .ok (.enter f (args.toList.map a.eval).toArray) w := by
    have hb' : ¬ fn.body = none := by intro h; rw [h] at hb; cases hb
    have hn' : ¬ fn.name = "runtime.NumGoroutine" := by simpa using hn
    simp [execOp, resolve, hcv, Deferred.ofValue, invoke, callFunc, program, Sem.run, hf]
    rw [if_neg hn', if_neg hb', hargs]
  unfold Oper.wp
  rw [hrun]
  show Calls P f _ w _
  refine hcall.mono fun e w' ⟨o, h1, h2, h3⟩ => ?_
  have s' := s.below h3
  cases o with
  | ret y =>
    obtain ⟨v, rfl, hr'⟩ := h2
    exact k y v w' h1 (rel_in s.fro.size y v hr') h3 s'
  | pan ch =>
    have : e = .panicked ch := h2
    subst this
    exact kp ch w' h1 h3 s'
theorem jo_call {f : FuncId} (fn : Func) {ops : Array Oper} {rest : List Oper} {d : Nat} {T : TypeId} {ps : String} {af : Array Edge} {args : Array Operand} {ts : Array TypeId} {c : Operand} {ys zs : List V} {post : Out → Prop}
    (hs : Spec P f zs post) (hc : ovO F c = some (.f f [])) (hf : P.funcs[f]? = some fn) (hb : fn.body.isSome = true) (hn : (fn.name == "runtime.NumGoroutine") = false) (hx : ovL F args.toList ys) (ha : ArgL ys zs) (hd : d < Γ.N)
    (k : ∀ y, post (.ret y) → JO P ops rest Γ ((d, y) :: F) H Q) (kp : ∀ ch, post (.pan ch) → Q (.panic ch) F H) :
    JO P ops (⟨some d, .call { callee := .value c, args := args, argTypes := ts }, T, ps, af, none⟩ :: rest) Γ F H Q := fun a w ⟨ρ, s⟩ =>
  wpList_plain rfl fun K hK => wp_call hc hf hb hn hx ha hs s (fun y v w' h1 h2 _ h4 => hK _ _ (k y h1 _ _ ⟨ρ, h4.put hd h2⟩)) (fun ch w' h1 _ h3 => ⟨F, H, kp ch h1, ρ, h3⟩)
theorem jo_callg {f : FuncId} (fn : Func) {ops : Array Oper} {rest : List Oper} {d : Nat} {T : TypeId} {ps : String} {af : Array Edge} {args : Array Operand} {ts : Array TypeId} {c : Operand} {ys zs : List V} {post : Out → Prop} {j0 : Nat} {b0 : Bool} (t0 : Nat) (ht : (ops[j0]?).bind (·.dst) = some t0) (hb0 : getO F t0 = some (.b b0))
    (hs : Spec P f zs post) (hc : ovO F c = some (.f f [])) (hf : P.funcs[f]? = some fn) (hb : fn.body.isSome = true) (hn : (fn.name == "runtime.NumGoroutine") = false) (hx : ovL F args.toList ys) (ha : ArgL ys zs) (hd : d < Γ.N)
    (k : ∀ y, post (.ret y) → JO P ops rest Γ ((d, y) :: F) H Q) (kp : ∀ ch, post (.pan ch) → Q (.panic ch) F H) :
    JO P ops (⟨some d, .call { callee := .value c, args := args, argTypes := ts }, T, ps, af, some (j0, b0)⟩ :: rest) Γ F H Q := fun a w ⟨ρ, s⟩ =>
  wpList_step fun K hK => by
    rw [if_pos (wanted_yes rfl (yielded_of s ht hb0))]
    exact wp_call hc hf hb hn hx ha hs s (fun y v w' h1 h2 _ h4 => hK _ _ (k y h1 _ _ ⟨ρ, h4.put hd h2⟩)) (fun ch w' h1 _ h3 => ⟨F, H, kp ch h1, ρ, h3⟩)

/-! ### Tests -/
theorem jc_cond {c : Operand} {x y : Code} {b : Bool} (h : ovO F c = some (.b b)) (ht : b = true → JC P x Γ F H Q) (hf : b = false → JC P y Γ F H Q) : JC P (.cond c x y) Γ F H Q := fun a w ⟨ρ, s⟩ =>
  wp_cond_split (eval_b s h) (fun e => ht e a w ⟨ρ, s⟩) (fun e => hf e a w ⟨ρ, s⟩)
/-- A truth in a slot is looked at: both ways. -/
theorem jo_split {ops : Array Oper} {l : List Oper} (t : Nat) {b : Bool} (h : getO F t = some (.b b)) (ht : b = true → JO P ops l Γ ((t, .b true) :: F) H Q) (hf : b = false → JO P ops l Γ ((t, .b false) :: F) H Q) : JO P ops l Γ F H Q := fun a w s => by
  have sub : ∀ c : Bool, b = c → Sub ((t, .b c) :: F) F := fun c e => .cons (by rw [h, e]) fun t y h => h
  cases hb : b
  · exact hf hb a w (s.sub (sub false hb))
  · exact ht hb a w (s.sub (sub true hb))

/-! ### Returns -/
/-- How a value is handed back: own rows as rows that nobody writes any more. -/
inductive RetV (H : List Ob) : V → V → Prop
  | i {k : IntKind} {n : Int} : RetV H (.i k n) (.i k n)
  | b {x : Bool} : RetV H (.b x) (.b x)
  | s {x : ByteArray} : RetV H (.s x) (.s x)
  | c {v : Value} : RetV H (.c v) (.c v)
  | n {fr : Bool} {k : IntKind} {l : List Int} : RetV H (.n fr k l) (.n fr k l)
  | nn {fr : Bool} {k : IntKind} {l : List Int} : RetV H (.n fr k l) (.n false k l)
  | nil {fr : Bool} {k : IntKind} : RetV H (.c (.slice none 0 0)) (.n fr k [])
  | l {fr : Bool} {sz : Nat} {es : List (List V)} : RetV H (.l fr sz es) (.l fr sz es)
  | nill {fr : Bool} {sz : Nat} : RetV H (.c (.slice none 0 0)) (.l fr sz [])
  | o {id ver off len T : Nat} {k : IntKind} {l l' : List Int} (hH : H[id]? = some ⟨T, 1, ver, true, ints k l⟩) (hle : off + len ≤ l.length) (hl : (l.drop off).take len = l') : RetV H (.o id ver off len) (.n true k l')
  | ol {id ver len T sz : Nat} {cs : List V} {rows : List (List V)} (hH : H[id]? = some ⟨T, sz, ver, true, cs⟩) (hcs : cs = rows.flatten) (hlen : rows.length = len) (hsz : ∀ r ∈ rows, r.length = sz) (hpu : ∀ r ∈ rows, r.all pureV = true) (h0 : 0 < sz) : RetV H (.o id ver 0 len) (.l true sz rows)
  | pq {id ver off T sz : Nat} {cs zs : List V} (hH : H[id]? = some ⟨T, sz, ver, true, cs⟩) (hpu : cs.all pureV = true) (hz : cs.drop off = zs) : RetV H (.p id ver off) (.q zs)
  | q {es : List V} : RetV H (.q es) (.q es)
  | f {fn : FuncId} : RetV H (.f fn []) (.f fn [])
  | a0 : RetV H (.a []) (.a [])
  | a1 {y z : V} {ys zs : List V} (h : RetV H y z) (hs : RetV H (.a ys) (.a zs)) : RetV H (.a (y :: ys)) (.a (z :: zs))
  | t0 : RetV H (.t []) (.t [])
  | t1 {y z : V} {ys zs : List V} (h : RetV H y z) (hs : RetV H (.t ys) (.t zs)) : RetV H (.t (y :: ys)) (.t (z :: zs))
theorem StA.dead_rel {ρ : List Re} {a : Act} {w : World} (s : StA Γ ρ F H a w) {B : Nat} {ρ' : List Re} {y : V} {v : Value} {L : Nat → Prop} (hL : ∀ b, L b → Lset Γ.M ρ H b) (r : Rel w (Lset Γ.M ρ H) B ρ' y v) : Rel w L B ρ' y v :=
  r.ev ⟨Nat.le_refl _, fun _ _ _ => rfl, fun b _ hn h => hn (hL b h), Nat.le_refl _, fun i r h => ⟨r, h, Nat.le_refl _, fun _ => rfl⟩⟩
theorem RetV.rel {y z : V} (h : RetV H y z) {ρ : List Re} {a : Act} {w : World} (s : StA Γ ρ F H a w) (hp : ∀ b, ¬ Γ.L0 b) : ∀ {v : Value}, Rel w (Lset Γ.M ρ H) Γ.w0.heap.size ρ y v → Rel w Γ.M Γ.w0.heap.size [] z v := by
  have hM : ∀ b, Γ.M b → Lset Γ.M ρ H b := fun b h => .inl h
  induction h with
  | i => exact fun h => h
  | b => exact fun h => h
  | s => exact fun h => h
  | c => exact fun h => h
  | n => intro v h; exact s.dead_rel hM (ρ' := []) h
  | nn => rintro v ⟨A, c, e, h1, h2, h3⟩; exact ⟨A, c, e, h1, h2, fun hl => by obtain ⟨ad, e1, hb, hc⟩ := h3 hl; exact ⟨ad, e1, ⟨hb.1, fun h => hb.2.1 (hM _ h), by simp⟩, hc⟩⟩
  | nil => rintro v rfl; exact rel_nil
  | l => intro v h; exact s.dead_rel hM (ρ' := []) h
  | nill => rintro v rfl; exact rel_nill
  | o hH hle hl =>
    intro v h
    rw [← hl]
    obtain ⟨A, c, e, h1, h2, h3⟩ := s.frozen hH h hle hp
    exact ⟨A, c, e, h1, h2, fun hl => by obtain ⟨ad, e1, hb, hc⟩ := h3 hl; exact ⟨ad, e1, ⟨hb.1, fun h => hb.2.1 (.inl h), hb.2.2⟩, hc⟩⟩
  | ol hH hcs hlen hsz hpu h0 =>
    intro v h
    obtain ⟨A, c, e, h1, h2, h3⟩ := s.frozenR hH h hcs hlen hsz hpu h0 hp
    refine ⟨A, c, e, h1, h2, fun hl => by
      obtain ⟨ad, e1, hb, hc⟩ := h3 hl
      have hb' : Okb w Γ.M Γ.w0.heap.size true ad.block := ⟨hb.1, fun h => hb.2.1 (.inl h), hb.2.2⟩
      exact ⟨ad, e1, hb', RelR.ev (B := 0) (ρ := []) (L := Lset Γ.M ρ (deadAt H _)) ⟨Nat.le_refl _, fun _ _ _ => rfl, fun b _ hn h => hn (.inl h), Nat.le_refl _, fun i r h => by simp at h⟩ ⟨hb.1, hb.2.1, fun _ => Nat.zero_le _⟩ _ _ hc⟩⟩
  | pq hH hpu hz =>
    intro v h
    rw [← hz]
    obtain ⟨ad, e, hb, hc⟩ := s.frozenC hH h hpu hp
    exact ⟨ad, e, ⟨hb.1, fun h => hb.2.1 (.inl h), by simp⟩, RelC.ev (B := 0) (ρ := []) (L := Lset Γ.M ρ (deadAt H _)) ⟨Nat.le_refl _, fun _ _ _ => rfl, fun b _ hn h => hn (.inl h), Nat.le_refl _, fun i r h => by simp at h⟩ ⟨hb.1, hb.2.1, fun _ => Nat.zero_le _⟩ _ _ hc⟩
  | q => intro v h; exact s.dead_rel hM (ρ' := []) h
  | f => rintro v ⟨us, e, hr⟩; exact ⟨us, e, hr⟩
  | a0 => rintro v ⟨us, e, hr⟩; exact ⟨us, e, hr⟩
  | a1 h hs ih1 ih2 =>
    rintro v ⟨us, rfl, u, us', rfl, hr1, hr2⟩
    obtain ⟨us'', e2, hr3⟩ := ih2 ⟨us', rfl, hr2⟩
    have : us' = us'' := by injection e2 with e2; have := congrArg Array.toList e2; simpa using this
    subst this
    exact ⟨_, rfl, u, us', rfl, ih1 hr1, hr3⟩
  | t0 => rintro v ⟨us, e, hr⟩; exact ⟨us, e, hr⟩
  | t1 h hs ih1 ih2 =>
    rintro v ⟨us, rfl, u, us', rfl, hr1, hr2⟩
    obtain ⟨us'', e2, hr3⟩ := ih2 ⟨us', rfl, hr2⟩
    have : us' = us'' := by injection e2 with e2; have := congrArg Array.toList e2; simpa using this
    subst this
    exact ⟨_, rfl, u, us', rfl, ih1 hr1, hr3⟩

/-- What the result variables hold. -/
def ResV (P : Program) (F : Fr) (H : List Ob) : ResultVar → V → Prop
  | .tmp t, y => getO F t = some y
  | .cell at_ T, y => ∃ id off ver t sz cs, getO F at_ = some (.p id ver off) ∧ H[id]? = some ⟨t, sz, ver, true, cs⟩ ∧ ((oneB P T = true ∧ cs[off]? = some y) ∨ ∃ n ys, aggB P T n = true ∧ takeV cs off n = ys ∧ ys.length = n ∧ y = .a ys)
def ResL (P : Program) (F : Fr) (H : List Ob) : List ResultVar → List V → Prop
  | [], ys => ys = []
  | r :: rs, ys => ∃ y ys', ys = y :: ys' ∧ ResV P F H r y ∧ ResL P F H rs ys'
theorem ResV.cell {at_ T n id off ver t sz : Nat} {cs ys : List V} (hT : aggB P T n = true) (h : getO F at_ = some (.p id ver off)) (hH : H[id]? = some ⟨t, sz, ver, true, cs⟩) (hy : takeV cs off n = ys) (hn : ys.length = n) : ResV P F H (.cell at_ T) (.a ys) :=
  ⟨id, off, ver, t, sz, cs, h, hH, .inr ⟨n, ys, hT, hy, hn, rfl⟩⟩
theorem ResV.cell1 {at_ T id off ver t sz : Nat} {cs : List V} {y : V} (hT : oneB P T = true) (h : getO F at_ = some (.p id ver off)) (hH : H[id]? = some ⟨t, sz, ver, true, cs⟩) (hy : cs[off]? = some y) : ResV P F H (.cell at_ T) y :=
  ⟨id, off, ver, t, sz, cs, h, hH, .inl ⟨hT, hy⟩⟩
theorem ResL.nil : ResL P F H [] [] := rfl
theorem ResL.cons {r : ResultVar} {rs : List ResultVar} {y : V} {ys : List V} (h : ResV P F H r y) (hs : ResL P F H rs ys) : ResL P F H (r :: rs) (y :: ys) := ⟨y, ys, rfl, h, hs⟩
/-- One result variable read. -/
def resOne (tmps : Array Value) : ResultVar → Sem Value
  | .tmp t => pure (tmps.getD t undef)
  | .cell x t => do loadVar t (← asAddr (tmps.getD x undef))
theorem StA.resV {ρ : List Re} {a : Act} {w : World} (s : StA Γ ρ F H a w) {r : ResultVar} {y : V} (h : ResV P F H r y) : ∃ v, (resOne a.tmps r).run P w = .ok v w ∧ Rel w (Lset Γ.M ρ H) Γ.w0.heap.size ρ y v := by
  cases r with
  | tmp t =>
    have h1 := s.fr t
    unfold get at h1
    rw [show getO F t = some y from h] at h1
    exact ⟨_, rfl, h1⟩
  | cell x T =>
    obtain ⟨id, off, ver, t, sz, cs, h1, hH, h2⟩ := h
    have hx : ovO F (.tmp x) = some (.p id ver off) := h1
    rcases h2 with ⟨hT, hy⟩ | ⟨n, ys, hT, hy, hn, rfl⟩
    · obtain ⟨v, r, hr⟩ := ly_ld (P := P) hT hx hH hy ρ a w s
      obtain ⟨re, g, ow, hg, hv⟩ := s.ptr hx hH
      obtain ⟨u, hc, _, hru⟩ := ow.cell hg hy
      refine ⟨u, ?_, hru⟩
      have e : a.tmps.getD x undef = .pointer (some ⟨g, off, none⟩) := hv
      simp only [resOne, e]
      simp [asAddr, loadVar, oneB_isAgg hT, load, Sem.run, hc]
    · obtain ⟨re, g, ow, hg, hv⟩ := s.ptr hx hH
      obtain ⟨us, hlen, hrs, _, hcs⟩ := own_cells ow hg ys off (fun j y h => by
        rw [← hy, takeV_eq] at h
        rw [List.getElem?_take] at h
        split at h
        · rw [List.getElem?_drop] at h; exact h
        · cases h)
      refine ⟨.agg us.toArray, ?_, us, rfl, hrs⟩
      have e : a.tmps.getD x undef = .pointer (some ⟨g, off, none⟩) := hv
      have hT' : aggB P T us.length = true := by rw [hlen, hn]; exact hT
      simp only [resOne, e]
      simp [asAddr, loadVar, aggB_isAgg hT', run_sizeOf' (aggB_size hT'), run_loadCells_list w ⟨g, off, none⟩ us hcs]
theorem StA.resL {ρ : List Re} {a : Act} {w : World} (s : StA Γ ρ F H a w) : ∀ {rs : List ResultVar} {ys : List V}, ResL P F H rs ys →
    ∃ us : List Value, (rs.mapM (resOne a.tmps)).run P w = .ok us w ∧ RelL w (Lset Γ.M ρ H) Γ.w0.heap.size ρ ys us
  | [], ys, h => ⟨[], by simp, by rw [show ys = [] from h]; rfl⟩
  | r :: rs, ys, ⟨y, ys', e, h1, h2⟩ => by
    obtain ⟨v, hv, hr⟩ := s.resV h1
    obtain ⟨us, hus, hrs⟩ := s.resL h2
    refine ⟨v :: us, ?_, by rw [e]; exact ⟨v, us, rfl, hr, hrs⟩⟩
    rw [List.mapM_cons, Sem.run_bind, hv]
    simp only [Result.andThen_ok, Sem.run_bind, hus, Sem.run_pure]
/-- One result as itself, several ones as a tuple. -/
def packV : List V → V
  | [y] => y
  | ys => .t ys
theorem StA.results {ρ : List Re} {a : Act} {w : World} (s : StA Γ ρ F H a w) {fn : Func} {ys : List V} (h : ResL P F H fn.results.toList ys) : ∃ v, (Go.results fn a.tmps).run P w = .ok v w ∧ Rel w (Lset Γ.M ρ H) Γ.w0.heap.size ρ (packV ys) v := by
  obtain ⟨us, h1, h2⟩ := s.resL h
  have h3 : (fn.results.mapM (resOne a.tmps)).run P w = .ok us.toArray w := by
    rw [Array.mapM_eq_mapM_toList]
    simp [h1]
  refine ⟨if h : us.toArray.size = 1 then us.toArray[0] else .tuple us.toArray, ?_, ?_⟩
  · have e : Go.results fn a.tmps = (do let vs ← fn.results.mapM (resOne a.tmps); pure (if h : vs.size = 1 then vs[0] else .tuple vs)) := rfl
    rw [e, Sem.run_bind, h3]
    rfl
  · match ys, us, h2 with
    | [], us, h2 => have : us = [] := h2; subst this; exact ⟨[], rfl, rfl⟩
    | [y], us, ⟨u, us', e, hr, e2⟩ => have : us' = [] := e2; subst this; subst e; exact hr
    | y :: z :: ys, us, ⟨u, us', e, hr, u2, us2, e2, hr2, hr3⟩ =>
      subst e2; subst e
      rw [dif_neg (by simp)]
      exact ⟨_, rfl, u, _, rfl, hr, u2, us2, rfl, hr2, hr3⟩

/-- What a body has to show where it ends. -/
def qRet (P : Program) (fn : Func) (post : Out → Prop) : Exit → Fr → List Ob → Prop
  | .ret, F, H | .normal, F, H => ∃ ys z, ResL P F H fn.results.toList ys ∧ RetV H (packV ys) z ∧ post (.ret z)
  | .panic ch, _, _ => post (.pan ch)
  | _, _, _ => False
/-- A contract from its body. -/
theorem spec_of {f : FuncId} {fn : Func} {c : Code} {args : List V} {post : Out → Prop} (hf : P.funcs[f]? = some fn) (hb : fn.body = some c) (hn : args.length ≤ fn.ntmps)
    (h : ∀ Γ : Ctx, Γ.N = fn.ntmps → Γ.ds = [] → (∀ b, ¬ Γ.L0 b) → Γ.ρ0 = [] → JC P c Γ ((args.zipIdx 0).map fun p => (p.2, p.1)) [] (qRet P fn post)) : Spec P f args post := fun M w vals hM hr => by
  refine calls_of_wp hf hb ?_
  have hlen : vals.length = args.length := (relL_one args vals hr).1
  let Γ : Ctx := ⟨fn.ntmps, w, M, [], fun _ => False, []⟩
  have Leq : ∀ b, Lset M [] [] b → M b := by
    rintro b (h | ⟨i, o, r, h1, _⟩)
    · exact h
    · simp at h1
  have s : StA Γ [] ((args.zipIdx 0).map fun p => (p.2, p.1)) [] ⟨vals.toArray ++ Array.replicate (fn.ntmps - vals.toArray.size) undef, []⟩ w := by
    refine ⟨⟨rfl, fun i o h => by simp at h, fun i j oi oj ri rj g _ h => by simp at h, fun i o r g h => by simp at h⟩, ?_, rfl, fun t => ?_, ⟨rfl, rfl, rfl, Nat.le_refl _, fun _ _ _ => rfl, hM, fun i o r g h => by simp at h, fun i r h => by have h' : ([] : List Re)[i]? = some r := h; simp at h'⟩⟩
    · show fn.ntmps ≤ (vals.toArray ++ Array.replicate (fn.ntmps - vals.toArray.size) undef).size
      simp; omega
    · have look : ∀ (ys : List V) (k t : Nat), getO ((ys.zipIdx k).map fun p => (p.2, p.1)) t = if k ≤ t then ys[t - k]? else none := by
        intro ys
        induction ys with
        | nil => intro k t; simp [getO]
        | cons y ys ih =>
          intro k t
          simp only [List.zipIdx_cons, List.map_cons, getO]
          cases hb : Nat.beq t k
          · have hne : t ≠ k := by intro e; subst e; simp at hb
            rw [ih (k + 1) t]
            by_cases h1 : k ≤ t
            · rw [if_pos h1, if_pos (by omega), show t - k = (t - (k + 1)) + 1 by omega]; rfl
            · rw [if_neg h1, if_neg (by omega)]; rfl
          · have := Nat.eq_of_beq_eq_true hb
            subst this
            simp
      unfold get
      rw [look args 0 t, if_pos (Nat.zero_le _), Nat.sub_zero]
      cases ht : args[t]? with
      | none => exact trivial
      | some y =>
        obtain ⟨u, hu, hru⟩ := relL_at args vals t y hr ht
        have hlt : t < vals.length := (List.getElem?_eq_some_iff.1 hu).1
        have e : ((vals.toArray ++ Array.replicate (fn.ntmps - vals.toArray.size) undef).getD t undef) = u := by
          rw [Array.getD_eq_getD_getElem?, Array.getElem?_append_left (by simpa using hlt)]
          simp [hu]
        show Rel w (Lset M [] []) w.heap.size [] y ((vals.toArray ++ Array.replicate (fn.ntmps - vals.toArray.size) undef).getD t undef)
        rw [e]
        exact hru.ev ⟨Nat.le_refl _, fun _ _ _ => rfl, fun b _ hn h => hn (Leq b h), Nat.le_refl _, fun i r h => by simp at h⟩
  refine Code.wp_mono (fun e a w' ⟨F, H, q, ρ, s'⟩ => ?_) (h Γ rfl rfl (fun _ h => h) rfl _ _ ⟨_, s⟩)
  have hbelow : Below w.heap.size w w' := ⟨s'.fro.os, s'.fro.tape, s'.fro.output, s'.fro.size, fun b hb => s'.fro.blk b hb (fun h => h)⟩
  have fin : ∀ ys z, ResL P F H fn.results.toList ys → RetV H (packV ys) z → post (.ret z) → a.defers = [] ∧ ∃ v, (Go.results fn a.tmps).run P w' = .ok v w' ∧ ∃ o, post o ∧ EndRel w' M w.heap.size o (.returned v) ∧ Below w.heap.size w w' := by
    intro ys z h1 h2 h3
    obtain ⟨v, hv, hr⟩ := s'.results h1
    exact ⟨s'.ds, v, hv, .ret z, h3, ⟨v, rfl, h2.rel s' (fun _ h => h) hr⟩, hbelow⟩
  cases e with
  | normal => obtain ⟨ys, z, h1, h2, h3⟩ := q; exact fin ys z h1 h2 h3
  | ret => obtain ⟨ys, z, h1, h2, h3⟩ := q; exact fin ys z h1 h2 h3
  | panic ch => exact ⟨s'.ds, .pan ch, q, rfl, hbelow⟩
  | _ => exact absurd q (by simp [qRet])
theorem spec_of' {f : FuncId} {fn : Func} {c : Code} {args : List V} {post : Out → Prop} (F0 : Fr) (h0 : ((args.zipIdx 0).map fun p => (p.2, p.1)) = F0) (hf : P.funcs[f]? = some fn) (hb : fn.body = some c) (hn : args.length ≤ fn.ntmps)
    (h : ∀ Γ : Ctx, Γ.N = fn.ntmps → Γ.ds = [] → (∀ b, ¬ Γ.L0 b) → Γ.ρ0 = [] → JC P c Γ F0 [] (qRet P fn post)) : Spec P f args post := spec_of hf hb hn (h0 ▸ h)
end
end Go.Proofs.Ytcdipmjgpimmdaa.Vc

/- The calculus, ninth part: regions that draw their order: a light operation that is ready may be taken first; of the others, whichever is ready. -/
set_option linter.unusedVariables false
set_option linter.unusedSimpArgs false
namespace Go.Proofs.Ytcdipmjgpimmdaa.Vc
open Go Go.RowKit

/-- Functions that write what is handed to them. -/
def wildF : List Nat :=
 [25]
/-- It leaves what can be read as it is. -/
def mildB (o : Oper) : Bool := match o.op with | .store .. => false | .mapUpdate .. => false | .call c => (match c.callee with | .builtin .len => true | .builtin .cap => true | .builtin .min => true | .builtin .max => true | .builtin .unsafeSliceData => true | .builtin .unsafeString => true | .builtin _ => false | .value (.func f) => !(wildF.any fun k => Nat.beq k f) | _ => true) | .move _ => true | .assign _ => true | .load .. => true | .binOp .. => true | .unOp .. => true | .pick .. => true | .fieldAddr .. => true | .indexAddr .. => true | .index .. => true | .alloc .. => true | .extract .. => true | .nilCheck .. => true | .slice .. => true | .build .. => true | .buildSlice .. => true | .convert .. => true | .makeSlice .. => true | .field .. => true | _ => false

section
variable {P : Program} {Γ : Ctx} {ops : Array Oper} {Q : Exit → Act → World → Prop}

/-- In this world, and, where it is asked, in those alone that read as it does. -/
def YieldsX (P : Program) (ops : Array Oper) (st : Bool) (o : Oper) (v : Value) (a : Act) (w : World) : Prop :=
  (Region.wanted o (yielded ops a.tmps) = true ∧ ∀ w', (st = true → Ext w w') → (execOp a.eval o).run P w' = .ok (.value v) w') ∨
  (Region.wanted o (yielded ops a.tmps) = false ∧ v = undef)
theorem Ext.trans {a b c : World} (h : Ext a b) (k : Ext b c) : Ext a c := fun x v e => k x v (h x v e)
theorem YieldsX.wpOp {st : Bool} {i : Nat} {o : Oper} {v : Value} {a : Act} {w : World} (hi : ops[i]? = some o) (hy : YieldsX P ops st o v a w) {K : Act → World → Prop} (h : K (a.put o.dst v) w) : wpOp P ops Q i K a w := by
  unfold Go.wpOp
  simp only [hi]
  rcases hy with ⟨hw, hv⟩ | ⟨hw, rfl⟩
  · simp only [hw, if_true, Oper.wp, hv w (fun _ => Ext.refl w), Oper.upon]; exact .inl h
  · simp only [hw, Bool.false_eq_true, if_false]; exact h
theorem YieldsX.of_same {st : Bool} {o : Oper} {v : Value} {a a' : Act} {w w' : World} (hy : YieldsX P ops st o v a w) (he : execOp a'.eval o = execOp a.eval o)
    (hw : Region.wanted o (yielded ops a'.tmps) = Region.wanted o (yielded ops a.tmps)) (hx : st = true → Ext w w') : YieldsX P ops st o v a' w' := by
  unfold YieldsX at *
  rw [he, hw]
  exact hy.imp (fun ⟨h1, h2⟩ => ⟨h1, fun w'' h => h2 w'' fun e => (hx e).trans (h e)⟩) id

theorem wpOp_putX {st : Bool} {j : Nat} {oi oj : Oper} {v : Value} (hj : ops[j]? = some oj) (hap : oi.apart ops oj = true) (hm : st = true → mildB oj = true)
    (hsi : ∀ cs b, oi.op ≠ .select cs b) (hsj : ∀ cs b, oj.op ≠ .select cs b)
    (hQ : ∀ c a w, Q (.panic c) (a.put oi.dst v) w → Q (.panic c) a w) {K : Act → World → Prop} {a : Act} {w : World}
    (hy : YieldsX P ops st oi v a w) (h : wpOp P ops Q j (fun a' w' => (mildB oj = true → Ext w w') ∧ K a' w') (a.put oi.dst v) w) :
    wpOp P ops Q j (fun a' w' => (mildB oj = true → Ext w w') ∧ YieldsX P ops st oi v a' w' ∧ K (a'.put oi.dst v) w') a w := by
  obtain ⟨h1, h2, h3⟩ := Oper.apart_spec hap
  have keep : ∀ u w', (mildB oj = true → Ext w w') → YieldsX P ops st oi v (a.put oj.dst u) w' := fun u w' hx =>
    hy.of_same (execOp_put oi hsi a oj.dst u h3) (wanted_put oi a oj.dst u h3) (fun e => hx (hm e))
  have keepD : ∀ d w', (mildB oj = true → Ext w w') → YieldsX P ops st oi v (({ a with defers := d :: a.defers } : Act).put oj.dst undef) w' := fun d w' hx =>
    hy.of_same (execOp_put oi hsi { a with defers := d :: a.defers } oj.dst undef h3) (wanted_put oi { a with defers := d :: a.defers } oj.dst undef h3) (fun e => hx (hm e))
  unfold wpOp at *
  simp only [hj] at *
  rw [wanted_put oj a oi.dst v h1] at h
  split
  · rename_i hw
    simp only [hw, if_true] at h
    rcases h with h | ⟨hasks, hlets⟩
    case inr => exact .inr ⟨by unfold Oper.asks at *; rw [execOp_put oj hsj a oi.dst v h1] at hasks; exact hasks, hlets⟩
    refine .inl ?_
    unfold Oper.wp at *
    rw [execOp_put oj hsj a oi.dst v h1] at h
    generalize (execOp a.eval oj).run P w = r at *
    cases r with
    | ok n w' =>
      cases n <;> simp only [Oper.upon] at h ⊢
      case value u => exact ⟨h.1, keep u w' h.1, by rw [← Act.put_comm a v u h2]; exact h.2⟩
      case skip => exact ⟨h.1, keep _ w' h.1, by rw [← Act.put_comm a v undef h2]; exact h.2⟩
      case defer d =>
        refine ⟨h.1, keepD d w' h.1, ?_⟩
        rw [← Act.put_comm _ v undef h2, ← Act.put_defers]
        exact h.2
      case enter f args =>
        refine Calls.mono h fun e w'' he => ?_
        cases e with
        | returned u => exact ⟨he.1, keep u w'' he.1, by rw [← Act.put_comm a v u h2]; exact he.2⟩
        | panicked c => exact hQ _ _ _ he
        | outgrown => exact he
      case row row args => exact Rows.mono h fun u w'' he => ⟨he.1, keep u w'' he.1, by rw [← Act.put_comm a v u h2]; exact he.2⟩
    | halt x w' =>
      cases x <;> simp only [Oper.upon] at h ⊢
      case panic u => exact hQ _ _ _ h
  · rename_i hw
    simp only [hw] at h
    exact ⟨h.1, keep _ w h.1, by rw [← Act.put_comm a v undef h2]; exact h.2⟩

/-- Whatever order is picked from here on; behind every mild operation all reads as before. -/
def wpAnyX (P : Program) (ops : Array Oper) (Q : Exit → Act → World → Prop) : Nat → Array Bool → Act → World → Prop
  | 0, listed, a, w => Region.ready .any ops listed = [] ∧ Q .normal a w
  | fuel + 1, listed, a, w =>
    (Region.ready .any ops listed = [] → Q .normal a w) ∧
    ∀ i ∈ Region.ready .any ops listed, wpOp P ops Q i (fun a' w' => ((∀ o, ops[i]? = some o → mildB o = true → Ext w w')) ∧ wpAnyX P ops Q fuel (listed.setIfInBounds i true) a' w') a w
theorem wpAny_of_X : ∀ (fuel : Nat) (listed : Array Bool) (a : Act) (w : World), wpAnyX P ops Q fuel listed a w → wpAny P .any ops Q fuel listed a w
  | 0, _, _, _, h => h
  | fuel + 1, _, _, _, h => ⟨h.1, fun i hi => wpOp_mono (fun a' w' h' => wpAny_of_X fuel _ a' w' h'.2) (h.2 i hi)⟩

/-- Who could come before number i: it waits for i, or it is apart from i and, where that matters, mild. -/
def freeX (st : Bool) (ops : Array Oper) (listed : Array Bool) (i : Nat) : Bool :=
  match ops[i]? with
  | none => false
  | some oi => (List.range ops.size).all fun j => Nat.beq j i || listed.getD j true || match ops[j]? with
      | some oj => oj.after.any (fun e => Region.binds .any e && Nat.beq e.on i) || (oi.apart ops oj && (!st || mildB oj))
      | none => true
theorem freeX_spec {st : Bool} {i : Nat} {oi : Oper} {listed : Array Bool} (hi : ops[i]? = some oi) (h : freeX st ops listed i = true) (j : Nat) (oj : Oper)
    (hj : ops[j]? = some oj) (hne : j ≠ i) (hun : listed.getD j true = false) (hno : ∀ e ∈ oj.after, Region.binds .any e = true → e.on ≠ i) :
    oi.apart ops oj = true ∧ (st = true → mildB oj = true) := by
  simp only [freeX, hi, List.all_eq_true, List.mem_range] at h
  have h1 := h j (Array.getElem?_eq_some_iff.1 hj).1
  have hb : Nat.beq j i = false := by
    cases hb : Nat.beq j i
    · rfl
    · exact absurd (Nat.eq_of_beq_eq_true hb) hne
  simp only [hj, hb, hun, Bool.false_or, Bool.or_eq_true, Bool.and_eq_true, Bool.not_eq_true'] at h1
  rcases h1 with h1 | h1
  · obtain ⟨e, he, hb⟩ := Array.any_eq_true'.1 h1
    simp only [Bool.and_eq_true] at hb
    exact absurd (Nat.eq_of_beq_eq_true hb.2) (hno e he hb.1)
  · exact ⟨h1.1, fun e => h1.2.resolve_left (by simp [e])⟩

theorem wpAnyX_first {st : Bool} {i : Nat} {oi : Oper} {v : Value} (hi : ops[i]? = some oi) (hsel : ∀ (j : Nat) (o : Oper) cs b, ops[j]? = some o → o.op ≠ .select cs b)
    (hQ : ∀ c a w, Q (.panic c) (a.put oi.dst v) w → Q (.panic c) a w) :
    ∀ (fuel : Nat) (listed : Array Bool) (a : Act) (w : World),
      (∀ j oj, ops[j]? = some oj → j ≠ i → listed.getD j true = false → (∀ e ∈ oj.after, Region.binds .any e = true → e.on ≠ i) → oi.apart ops oj = true ∧ (st = true → mildB oj = true)) →
      i ∈ Region.ready .any ops listed → YieldsX P ops st oi v a w →
      wpAnyX P ops Q fuel (listed.setIfInBounds i true) (a.put oi.dst v) w → wpAnyX P ops Q (fuel + 1) listed a w := by
  intro fuel
  induction fuel with
  | zero =>
    intro listed a w _ hr hy H
    refine ⟨fun h => (by rw [h] at hr; cases hr), fun j hj => ?_⟩
    by_cases hji : j = i
    · subst hji; exact hy.wpOp hi ⟨fun _ _ _ => Ext.refl w, H⟩
    · have := ready_mono hj hji
      rw [H.1] at this
      cases this
  | succ fuel ih =>
    intro listed a w hfree hr hy H
    refine ⟨fun h => (by rw [h] at hr; cases hr), fun j hj => ?_⟩
    by_cases hji : j = i
    · subst hji; exact hy.wpOp hi ⟨fun _ _ _ => Ext.refl w, H⟩
    · obtain ⟨hjun, oj, hoj, hall⟩ := mem_ready.1 hj
      have h1 : wpOp P ops Q j (fun a' w' => (mildB oj = true → Ext w w') ∧ wpAnyX P ops Q fuel ((listed.setIfInBounds i true).setIfInBounds j true) a' w') (a.put oi.dst v) w :=
        wpOp_mono (fun a' w' h => ⟨h.1 oj hoj, h.2⟩) (H.2 j (ready_mono hj hji))
      have hnot : ∀ e ∈ oj.after, Region.binds .any e = true → e.on ≠ i := fun e he hb heq => by
        have h1 := hall e he hb
        have h0 := (mem_ready.1 hr).1
        rw [heq] at h1
        rcases Nat.lt_or_ge i listed.size with h' | h'
        · simp [h'] at h0 h1; rw [h0] at h1; cases h1
        · simp [Array.getElem?_eq_none h'] at h1
      obtain ⟨hap, hmild⟩ := hfree j oj hoj hji hjun hnot
      have h2 := wpOp_putX hoj hap hmild (fun cs b => hsel i oi cs b hi) (fun cs b => hsel j oj cs b hoj) hQ hy h1
      have hfree' : ∀ k ok, ops[k]? = some ok → k ≠ i → (listed.setIfInBounds j true).getD k true = false →
          (∀ e ∈ ok.after, Region.binds .any e = true → e.on ≠ i) → oi.apart ops ok = true ∧ (st = true → mildB ok = true) := fun k ok hk hki hun hno => by
        refine hfree k ok hk hki ?_ hno
        by_cases hjk : j = k
        · subst hjk; exact hjun
        · rw [getD_set_ne true hjk] at hun; exact hun
      refine wpOp_mono (fun a' w' h3 => ⟨fun o ho hmo => by rw [hoj] at ho; injection ho with ho; subst ho; exact h3.1 hmo, ih (listed.setIfInBounds j true) a' w' hfree' (ready_mono hr (Ne.symm hji)) h3.2.1 ?_⟩) h2
      rw [Array.setIfInBounds_comm _ _ hji]
      exact h3.2.2

/-! ### The judgement -/
variable {F : Fr} {H : List Ob} {Q : Exit → Fr → List Ob → Prop}
/-- From these on that have come up. -/
def JA (P : Program) (ops : Array Oper) (fuel : Nat) (listed : Array Bool) (Γ : Ctx) (F : Fr) (H : List Ob) (Q : Exit → Fr → List Ob → Prop) : Prop :=
  ∀ a w, St Γ F H a w → wpAnyX P ops (toQ Γ Q) fuel listed a w

/-- A light operation of a region, looked at with its guard. -/
def LO (P : Program) (ops : Array Oper) (st : Bool) (Γ : Ctx) (o : Oper) (d : Nat) (F : Fr) (H : List Ob) (y : V) : Prop :=
  o.dst = some d ∧ d < Γ.N ∧ ∀ ρ a w, StA Γ ρ F H a w → ∃ v, Rel w (Lset Γ.M ρ H) Γ.w0.heap.size ρ y v ∧ YieldsX P ops st o v a w
theorem lo_l {d : Nat} {op : Op} {T : TypeId} {ps : String} {af : Array Edge} {y : V} (h : LY P Γ op F H y) (hd : d < Γ.N) : LO P ops true Γ ⟨some d, op, T, ps, af, none⟩ d F H y :=
  ⟨rfl, hd, fun ρ a w s => by
    obtain ⟨v, r, hr⟩ := h ρ a w s
    exact ⟨v, r, .inl ⟨rfl, fun w' hw' => hr _ _ _ _ _ w' (hw' rfl)⟩⟩⟩
theorem lo_g {d : Nat} {op : Op} {T : TypeId} {ps : String} {af : Array Edge} {y : V} {j0 : Nat} {b0 : Bool} (t0 : Nat) (ht : (ops[j0]?).bind (·.dst) = some t0) (hb : getO F t0 = some (.b b0))
    (h : LY P Γ op F H y) (hd : d < Γ.N) : LO P ops true Γ ⟨some d, op, T, ps, af, some (j0, b0)⟩ d F H y :=
  ⟨rfl, hd, fun ρ a w s => by
    obtain ⟨v, r, hr⟩ := h ρ a w s
    exact ⟨v, r, .inl ⟨wanted_yes rfl (yielded_of s ht hb), fun w' hw' => hr _ _ _ _ _ w' (hw' rfl)⟩⟩⟩
theorem lo_s {d : Nat} {op : Op} {T : TypeId} {ps : String} {af : Array Edge} {j0 : Nat} {b0 b1 : Bool} (t0 : Nat) (ht : (ops[j0]?).bind (·.dst) = some t0) (hb : getO F t0 = some (.b b1)) (hne : (b0 == b1) = false)
    (hd : d < Γ.N) : LO P ops false Γ ⟨some d, op, T, ps, af, some (j0, b0)⟩ d F H (.c undef) :=
  ⟨rfl, hd, fun ρ a w s => ⟨undef, rfl, .inr ⟨wanted_no rfl (by rw [yielded_of s ht hb]; intro e; injection e with e; subst e; simp at hne), rfl⟩⟩⟩
theorem lo_s' {d : Nat} {op : Op} {T : TypeId} {ps : String} {af : Array Edge} {j0 : Nat} {b0 : Bool} (t0 : Nat) (ht : (ops[j0]?).bind (·.dst) = some t0) (hb : getO F t0 = some (.c undef))
    (hd : d < Γ.N) : LO P ops false Γ ⟨some d, op, T, ps, af, some (j0, b0)⟩ d F H (.c undef) :=
  ⟨rfl, hd, fun ρ a w s => ⟨undef, rfl, .inr ⟨wanted_no rfl (by
    have h1 := s.fr t0
    unfold get at h1
    rw [hb] at h1
    have h2 : a.tmps.getD t0 undef = undef := h1
    unfold yielded
    rw [ht]
    show (match a.tmps[t0]? with | some (.bool b) => some b | _ => none) ≠ some b0
    rw [Array.getD_eq_getD_getElem?] at h2
    cases h : a.tmps[t0]? with
    | none => simp
    | some v => rw [h] at h2; rw [show v = undef from h2]; simp [undef]), rfl⟩⟩⟩
/-- A value on the move, whatever the world. -/
theorem lo_mv {d : Nat} {x : Operand} {T : TypeId} {ps : String} {af : Array Edge} {y : V} (h : ovO F x = some y) (hd : d < Γ.N) : LO P ops false Γ ⟨some d, .move x, T, ps, af, none⟩ d F H y :=
  ⟨rfl, hd, fun ρ a w s => ⟨_, s.ov h, .inl ⟨rfl, fun w' _ => rfl⟩⟩⟩
theorem lo_as {d : Nat} {x : Operand} {T : TypeId} {ps : String} {af : Array Edge} {y : V} (h : ovO F x = some y) (hd : d < Γ.N) : LO P ops false Γ ⟨some d, .assign x, T, ps, af, none⟩ d F H y :=
  ⟨rfl, hd, fun ρ a w s => ⟨_, s.ov h, .inl ⟨rfl, fun w' _ => rfl⟩⟩⟩

/-- Number i, which is ready and light, is taken first. -/
theorem ja_l {fuel : Nat} {listed : Array Bool} (i : Nat) {st : Bool} {o : Oper} {d : Nat} {y : V} (h : LO P ops st Γ o d F H y) (hi : ops[i]? = some o) (hs : Region.noSelect ops = true)
    (hr : (Region.ready .any ops listed).contains i = true) (hf : freeX st ops listed i = true) (hQ : ∀ c F H d, Q (.panic c) F H → Q (.panic c) ((d, .u) :: F) H)
    (j : JA P ops fuel (listed.setIfInBounds i true) Γ ((d, y) :: F) H Q) : JA P ops (fuel + 1) listed Γ F H Q := fun a w ⟨ρ, s⟩ => by
  obtain ⟨hdst, hd, h⟩ := h
  obtain ⟨v, r, hy⟩ := h ρ a w s
  refine wpAnyX_first hi (Region.noSelect_spec hs) ?_ fuel listed a w (freeX_spec hi hf) (by simpa using hr) hy (by rw [hdst]; exact j _ _ ⟨ρ, s.put hd r⟩)
  rintro c a' w' ⟨F', H', q, ρ', s'⟩
  refine ⟨(d, .u) :: F', H', hQ _ _ _ _ q, ρ', s'.hr, ?_, ?_, fun t => ?_, s'.fro⟩
  · have := s'.n; rw [hdst] at this; simpa [Act.put] using this
  · have := s'.ds; rw [hdst] at this; simpa [Act.put] using this
  · rw [get_cons]
    by_cases e : t = d
    · rw [if_pos e]; trivial
    · rw [if_neg e]
      have := s'.fr t
      rw [hdst] at this
      simpa [Act.put, Array.getD_eq_getD_getElem?, Array.getElem?_setIfInBounds_ne (Ne.symm e)] using this
theorem ja_nil {fuel : Nat} {listed : Array Bool} (hr : Region.ready .any ops listed = []) (h : Q .normal F H) : JA P ops fuel listed Γ F H Q := fun a w s => by
  cases fuel with
  | zero => exact ⟨hr, F, H, h, s⟩
  | succ n => exact ⟨fun _ => ⟨F, H, h, s⟩, by rw [hr]; simp⟩

/-- One operation that is carried out: how it goes on. -/
def JS (P : Program) (ops : Array Oper) (Γ : Ctx) (o : Oper) (F : Fr) (H : List Ob) (Q : Exit → Fr → List Ob → Prop) (R : Fr → List Ob → Prop) : Prop :=
  ∀ a w, St Γ F H a w → Region.wanted o (yielded ops a.tmps) = true ∧ o.wp P a w (fun a' w' => (mildB o = true → Ext w w') ∧ ∃ F' H', R F' H' ∧ St Γ F' H' a' w') (toQ Γ Q)
theorem js_mono {o : Oper} {R R' : Fr → List Ob → Prop} (h : ∀ F H, R F H → R' F H) (k : JS P ops Γ o F H Q R) : JS P ops Γ o F H Q R' := fun a w s =>
  ⟨(k a w s).1, Oper.wp_mono (fun a' w' ⟨h1, F', H', h2, h3⟩ => ⟨h1, F', H', h F' H' h2, h3⟩) (k a w s).2⟩
theorem jc_regionb {id : Nat} {ops : Array Oper} {l : List Oper} (hl : ops = l.toArray) (h : JO P l.toArray l Γ F H Q) : JC P (.region id ops false) Γ F H Q := by subst hl; exact jc_region h
/-- Those that are ready come up, whichever. -/
theorem ja_all {fuel : Nat} {listed : Array Bool} (rs : List Nat) (hr : Region.ready .any ops listed = rs) (hne : rs.isEmpty = false)
    (h : ∀ i ∈ rs, ∃ o, ops[i]? = some o ∧ JS P ops Γ o F H Q fun F' H' => JA P ops fuel (listed.setIfInBounds i true) Γ F' H' Q) : JA P ops (fuel + 1) listed Γ F H Q := fun a w s => by
  refine ⟨fun h0 => by rw [hr] at h0; rw [h0] at hne; simp at hne, fun i hi => ?_⟩
  obtain ⟨o, ho, hj⟩ := h i (hr ▸ hi)
  obtain ⟨hw, hj⟩ := hj a w s
  unfold wpOp
  rw [ho]
  simp only []
  rw [if_pos hw]
  refine .inl (Oper.wp_mono (fun a' w' ⟨h1, F', H', h2, h3⟩ => ⟨fun o' ho' hm => ?_, h2 a' w' h3⟩) hj)
  injection ho' with ho'
  subst ho'
  exact h1 hm
/-- One alone is ready. -/
theorem ja_1 {fuel : Nat} {listed : Array Bool} (i : Nat) {o : Oper} (h : JS P ops Γ o F H Q fun F' H' => JA P ops fuel (listed.setIfInBounds i true) Γ F' H' Q) (hi : ops[i]? = some o) (hr : Region.ready .any ops listed = [i]) : JA P ops (fuel + 1) listed Γ F H Q :=
  ja_all [i] hr rfl fun j hj => by simp at hj; subst hj; exact ⟨o, hi, h⟩

theorem js_call {f : FuncId} (fn : Func) {d : Nat} {T : TypeId} {ps : String} {af : Array Edge} {args : Array Operand} {ts : Array TypeId} {c : Operand} {ys zs : List V} {post : Out → Prop} {R : Fr → List Ob → Prop}
    (hs : Spec P f zs post) (hc : ovO F c = some (.f f [])) (hf : P.funcs[f]? = some fn) (hb : fn.body.isSome = true) (hn : (fn.name == "runtime.NumGoroutine") = false) (hx : ovL F args.toList ys) (ha : ArgL ys zs) (hd : d < Γ.N)
    (k : ∀ y, post (.ret y) → R ((d, y) :: F) H) (kp : ∀ ch, post (.pan ch) → Q (.panic ch) F H) :
    JS P ops Γ ⟨some d, .call { callee := .value c, args := args, argTypes := ts }, T, ps, af, none⟩ F H Q R := fun a w ⟨ρ, s⟩ =>
  ⟨rfl, wp_call hc hf hb hn hx ha hs s (fun y v w' h1 h2 h3 h4 => ⟨fun _ => ext_below h3, _, _, k y h1, ρ, h4.put hd h2⟩) (fun ch w' h1 _ h3 => ⟨F, H, kp ch h1, ρ, h3⟩)⟩
theorem js_callg {f : FuncId} (fn : Func) {d : Nat} {T : TypeId} {ps : String} {af : Array Edge} {args : Array Operand} {ts : Array TypeId} {c : Operand} {ys zs : List V} {post : Out → Prop} {R : Fr → List Ob → Prop} {j0 : Nat} {b0 : Bool} (t0 : Nat) (ht : (ops[j0]?).bind (·.dst) = some t0) (hb0 : getO F t0 = some (.b b0))
    (hs : Spec P f zs post) (hc : ovO F c = some (.f f [])) (hf : P.funcs[f]? = some fn) (hb : fn.body.isSome = true) (hn : (fn.name == "runtime.NumGoroutine") = false) (hx : ovL F args.toList ys) (ha : ArgL ys zs) (hd : d < Γ.N)
    (k : ∀ y, post (.ret y) → R ((d, y) :: F) H) (kp : ∀ ch, post (.pan ch) → Q (.panic ch) F H) :
    JS P ops Γ ⟨some d, .call { callee := .value c, args := args, argTypes := ts }, T, ps, af, some (j0, b0)⟩ F H Q R := fun a w ⟨ρ, s⟩ =>
  ⟨wanted_yes rfl (yielded_of s ht hb0), wp_call hc hf hb hn hx ha hs s (fun y v w' h1 h2 h3 h4 => ⟨fun _ => ext_below h3, _, _, k y h1, ρ, h4.put hd h2⟩) (fun ch w' h1 _ h3 => ⟨F, H, kp ch h1, ρ, h3⟩)⟩
theorem js_h {d : Nat} {op : Op} {T : TypeId} {ps : String} {af : Array Edge} {y : V} {H' : List Ob} {R : Fr → List Ob → Prop} (h : HY P Γ op F H y H') (hd : d < Γ.N) (k : R ((d, y) :: F) H') : JS P ops Γ ⟨some d, op, T, ps, af, none⟩ F H Q R := fun a w ⟨ρ, s⟩ => by
  obtain ⟨v, w', ρ', r, s', hx, hr⟩ := h ρ a w s
  refine ⟨rfl, ?_⟩
  unfold Oper.wp
  rw [hr _ _ _ _ _]
  exact ⟨fun _ => hx, _, _, k, ρ', s'.put hd r⟩
theorem js_hg {d : Nat} {op : Op} {T : TypeId} {ps : String} {af : Array Edge} {y : V} {H' : List Ob} {R : Fr → List Ob → Prop} {j0 : Nat} {b0 : Bool} (t0 : Nat) (ht : (ops[j0]?).bind (·.dst) = some t0) (hb0 : getO F t0 = some (.b b0)) (h : HY P Γ op F H y H') (hd : d < Γ.N) (k : R ((d, y) :: F) H') : JS P ops Γ ⟨some d, op, T, ps, af, some (j0, b0)⟩ F H Q R := fun a w ⟨ρ, s⟩ => by
  obtain ⟨v, w', ρ', r, s', hx, hr⟩ := h ρ a w s
  refine ⟨wanted_yes rfl (yielded_of s ht hb0), ?_⟩
  unfold Oper.wp
  rw [hr _ _ _ _ _]
  exact ⟨fun _ => hx, _, _, k, ρ', s'.put hd r⟩
theorem js_st {op : Op} {T : TypeId} {ps : String} {af : Array Edge} {H' : List Ob} {R : Fr → List Ob → Prop} (h : SY P Γ op F H H') (hm : mildB ⟨none, op, T, ps, af, none⟩ = false) (k : R F H') : JS P ops Γ ⟨none, op, T, ps, af, none⟩ F H Q R := fun a w ⟨ρ, s⟩ => by
  obtain ⟨w', ρ', s', hr⟩ := h ρ a w s
  refine ⟨rfl, ?_⟩
  unfold Oper.wp
  rw [hr _ _ _ _ _]
  exact ⟨fun e => by rw [hm] at e; simp at e, _, _, k, ρ', s'⟩
theorem ja_split {fuel : Nat} {listed : Array Bool} (t : Nat) {b : Bool} (h : getO F t = some (.b b)) (ht : b = true → JA P ops fuel listed Γ ((t, .b true) :: F) H Q) (hf : b = false → JA P ops fuel listed Γ ((t, .b false) :: F) H Q) : JA P ops fuel listed Γ F H Q := fun a w s => by
  have sub : ∀ c : Bool, b = c → Sub ((t, .b c) :: F) F := fun c e => .cons (by rw [h, e]) fun t y h => h
  cases hb : b
  · exact hf hb a w (s.sub (sub false hb))
  · exact ht hb a w (s.sub (sub true hb))
theorem ja_ifp {fuel : Nat} {listed : Array Bool} (t : Nat) {p : Prop} [Decidable p] (h : getO F t = some (.b (decide p))) (ht : p → JA P ops fuel listed Γ ((t, .b true) :: F) H Q) (hf : ¬ p → JA P ops fuel listed Γ ((t, .b false) :: F) H Q) : JA P ops fuel listed Γ F H Q :=
  ja_split t h (fun e => ht (of_decide_eq_true e)) (fun e => hf (of_decide_eq_false e))
/-- The beginning. -/
theorem jc_draw {id n : Nat} (ops : Array Oper) (hn : ops.size = n) (hm : P.follows .mixedOrders = true) (h : JA P ops n (Array.replicate n false) Γ F H Q) : JC P (.region id ops true) Γ F H Q := fun a w ⟨ρ, s⟩ => by
  subst hn
  exact wp_region_any hm (wpAny_of_X _ _ _ _ (h a { w with drawn := w.drawn + 1 } ⟨ρ, s.below ⟨rfl, rfl, rfl, Nat.le_refl _, fun _ _ => rfl⟩⟩))
end
end Go.Proofs.Ytcdipmjgpimmdaa.Vc

/- The calculus, tenth part: loops and meeting points, the slots that change named, the others as they were. -/
set_option linter.unusedVariables false
set_option linter.unusedSimpArgs false
namespace Go.Proofs.Ytcdipmjgpimmdaa.Vc
open Go Go.RowKit

/-- All that the named entries (over the frame below them) say is so in the frame at hand. -/
def Cov (F' m F : Fr) : Prop := ∀ t y, getO (m ++ F) t = some y → y = .u ∨ getO F' t = some y
def inK : Fr → Nat → Bool
  | [], _ => false
  | (t, _) :: r, k => bif Nat.beq k t then true else inK r k
def keysIn : Fr → Fr → Bool
  | [], _ => true
  | (t, _) :: r, m => bif inK m t then keysIn r m else false
/-- What the named entries say. -/
def Says (F' : Fr) : Fr → Prop
  | [] => True
  | (t, y) :: r => (y = .u ∨ getO F' t = some y) ∧ Says F' r
theorem Says.nil {F' : Fr} : Says F' [] := trivial
theorem Says.u {F' : Fr} {t : Nat} {r : Fr} (h : Says F' r) : Says F' ((t, .u) :: r) := ⟨.inl rfl, h⟩
theorem Says.cons {F' : Fr} {t : Nat} {y : V} {r : Fr} (e : getO F' t = some y) (h : Says F' r) : Says F' ((t, y) :: r) := ⟨.inr e, h⟩
theorem getO_append_in : ∀ (m F : Fr) (t : Nat), inK m t = true → getO (m ++ F) t = getO m t
  | (k, y) :: r, F, t, h => by
    simp only [inK, List.cons_append, getO] at h ⊢
    cases hb : Nat.beq t k
    · rw [hb] at h; exact getO_append_in r F t h
    · rfl
theorem getO_append_out : ∀ (m F : Fr) (t : Nat), inK m t = false → getO (m ++ F) t = getO F t
  | [], F, t, h => rfl
  | (k, y) :: r, F, t, h => by
    simp only [inK, List.cons_append, getO] at h ⊢
    cases hb : Nat.beq t k
    · rw [hb] at h; exact getO_append_out r F t h
    · rw [hb] at h; simp at h
theorem says_at {F' : Fr} : ∀ {m : Fr} {t : Nat} {y : V}, Says F' m → getO m t = some y → y = .u ∨ getO F' t = some y
  | [], t, y, _, h => by simp [getO] at h
  | (k, z) :: r, t, y, ⟨h1, h2⟩, h => by
    simp only [getO] at h
    cases hb : Nat.beq t k
    · rw [hb] at h; exact says_at h2 h
    · rw [hb] at h
      have e := Nat.eq_of_beq_eq_true hb
      subst e
      injection h with h
      subst h
      exact h1
theorem keysIn_at : ∀ {A m : Fr} {t : Nat}, keysIn A m = true → inK m t = false → inK A t = false
  | [], m, t, _, _ => rfl
  | (k, y) :: r, m, t, h, h2 => by
    simp only [keysIn] at h
    cases hk : inK m k
    · rw [hk] at h; simp at h
    · rw [hk] at h
      simp only [inK]
      cases hb : Nat.beq t k
      · exact keysIn_at h h2
      · have e := Nat.eq_of_beq_eq_true hb
        subst e
        rw [hk] at h2; simp at h2
/-- The frame at hand is what was there, with entries in front that name no other slots. -/
theorem cov_of {m F : Fr} (A : Fr) (hk : keysIn A m = true) (h : Says (A ++ F) m) : Cov (A ++ F) m F := fun t y e => by
  cases hm : inK m t
  · rw [getO_append_out m F t hm] at e
    rw [getO_append_out A F t (keysIn_at hk hm)]
    exact .inr e
  · rw [getO_append_in m F t hm] at e
    exact says_at h e
theorem cov_start {m F : Fr} (h : Says F m) : Cov F m F := cov_of (A := []) rfl h

section
variable {P : Program} {Γ : Ctx} {F : Fr} {H : List Ob} {Q : Exit → Fr → List Ob → Prop}
theorem StA.cov {ρ : List Re} {a : Act} {w : World} {F' m : Fr} (h : Cov F' m F) (s : StA Γ ρ F' H a w) : StA Γ ρ (m ++ F) H a w :=
  ⟨s.hr, s.n, s.ds, fun t => by
    have := s.fr t
    unfold get at this ⊢
    cases e : getO (m ++ F) t with
    | none => trivial
    | some y =>
      rcases h t y e with rfl | h
      · trivial
      · rw [h] at this; exact this, s.fro⟩
theorem St.cov {a : Act} {w : World} {F' m : Fr} (h : Cov F' m F) (s : St Γ F' H a w) : St Γ (m ++ F) H a w := by obtain ⟨ρ, s⟩ := s; exact ⟨ρ, s.cov h⟩

/-- A loop: ghost, what holds of it, the slots that change, the own objects, a measure. -/
theorem jc_loopF {c : Code} {G : Type} (C : G → Prop) (m : G → Fr) (Hg : G → List Ob) (μ : G → Nat) (g0 : G) (h0 : C g0) (hF : Says F (m g0)) (hH : H = Hg g0)
    (round : ∀ g, C g → JC P c Γ (m g ++ F) (Hg g) (qThen (fun F' H' => ∃ g', C g' ∧ μ g' < μ g ∧ H' = Hg g' ∧ Cov F' (m g') F) Q)) : JC P (.loop c) Γ F H Q :=
  jc_loop C (fun g => m g ++ F) Hg μ g0 h0 (fun a w s => hH ▸ s.cov (cov_start hF)) fun g hg =>
    JC_mono (fun e F' H' q => by
      cases e with
      | normal => obtain ⟨g', h1, h2, h3, h4⟩ := q; exact ⟨g', h1, h2, fun a w s => h3 ▸ s.cov h4⟩
      | _ => exact q) (round g hg)
/-- A meeting point: what holds where the ways meet. -/
def Meet (G : Type) (C : G → Prop) (m : G → Fr) (Hg : G → List Ob) (F F' : Fr) (H' : List Ob) : Prop := ∃ g, C g ∧ H' = Hg g ∧ Cov F' (m g) F
theorem jc_meet {x y : Code} {G : Type} (C : G → Prop) (m : G → Fr) (Hg : G → List Ob) (h1 : JC P x Γ F H (qThen (Meet G C m Hg F) Q)) (h2 : ∀ g, C g → JC P y Γ (m g ++ F) (Hg g) Q) : JC P (.seq x y) Γ F H Q := fun a w s =>
  wp_seq (Code.wp_mono (fun e a w ⟨F', H', q, s'⟩ => by
    cases e <;> first | (obtain ⟨g, c1, c2, c3⟩ := q; exact h2 g c1 a w (c2 ▸ s'.cov c3)) | exact ⟨F', H', q, s'⟩) (h1 a w s))
/-- The same, the objects being as they were. -/
theorem jc_meetH {x y : Code} {G : Type} (C : G → Prop) (m : G → Fr) (h1 : JC P x Γ F H (qThen (Meet G C m (fun _ => H) F) Q)) (h2 : ∀ g, C g → JC P y Γ (m g ++ F) H Q) : JC P (.seq x y) Γ F H Q := jc_meet C m (fun _ => H) h1 h2
theorem jc_if {c : Operand} {x y : Code} {p : Prop} [Decidable p] (h : ovO F c = some (.b (decide p))) (ht : p → JC P x Γ F H Q) (hf : ¬ p → JC P y Γ F H Q) : JC P (.cond c x y) Γ F H Q := fun a w ⟨ρ, s⟩ =>
  wp_cond_split (eval_b s h) (fun e => ht (of_decide_eq_true e) a w ⟨ρ, s⟩) (fun e => hf (of_decide_eq_false e) a w ⟨ρ, s⟩)
theorem jc_ifn {c : Operand} {x y : Code} {p : Prop} [Decidable p] (h : ovO F c = some (.b (!decide p))) (ht : ¬ p → JC P x Γ F H Q) (hf : p → JC P y Γ F H Q) : JC P (.cond c x y) Γ F H Q := fun a w ⟨ρ, s⟩ =>
  wp_cond_split (eval_b s h) (fun e => ht (by simpa using e) a w ⟨ρ, s⟩) (fun e => hf (by simpa using e) a w ⟨ρ, s⟩)
/-- A truth in a slot that is a proposition's. -/
theorem jo_ifp {ops : Array Oper} {l : List Oper} (t : Nat) {p : Prop} [Decidable p] (h : getO F t = some (.b (decide p))) (ht : p → JO P ops l Γ ((t, .b true) :: F) H Q) (hf : ¬ p → JO P ops l Γ ((t, .b false) :: F) H Q) : JO P ops l Γ F H Q :=
  jo_split t h (fun e => ht (of_decide_eq_true e)) (fun e => hf (of_decide_eq_false e))
theorem cov_n {F' m F : Fr} (n : Nat) (hA : F'.drop n = F) (hk : keysIn (F'.take n) m = true) (h : Says F' m) : Cov F' m F := by
  have e : F' = F'.take n ++ F := by rw [← hA, List.take_append_drop]
  have h' : Says (F'.take n ++ F) m := e ▸ h
  rw [e]
  exact cov_of _ hk h'
theorem jc_litt {c : Operand} {x y : Code} (h : ovO F c = some (.b true)) (j : JC P x Γ F H Q) : JC P (.cond c x y) Γ F H Q := jc_cond h (fun _ => j) (fun e => by simp at e)
theorem jc_litf {c : Operand} {x y : Code} (h : ovO F c = some (.b false)) (j : JC P y Γ F H Q) : JC P (.cond c x y) Γ F H Q := jc_cond h (fun e => by simp at e) (fun _ => j)
theorem wrap_i32 {m : Int} (h1 : -2147483648 ≤ m) (h2 : m < 2147483648) : IntKind.i32.wrap m = m := by
  simp only [IntKind.wrap, IntKind.bits, IntKind.signed] <;> simp <;> omega
theorem wrap_u32 {m : Int} (h1 : 0 ≤ m) (h2 : m < 4294967296) : IntKind.u32.wrap m = m := by
  simp only [IntKind.wrap, IntKind.bits, IntKind.signed] <;> simp <;> omega
theorem wrap_u8 {m : Int} (h1 : 0 ≤ m) (h2 : m < 256) : IntKind.u8.wrap m = m := by
  simp only [IntKind.wrap, IntKind.bits, IntKind.signed] <;> simp <;> omega
theorem wrap_i64 {m : Int} (h1 : -9223372036854775808 ≤ m) (h2 : m < 9223372036854775808) : IntKind.i64.wrap m = m := by
  simp only [IntKind.wrap, IntKind.bits, IntKind.signed] <;> simp <;> omega
theorem wrap_u64 {m : Int} (h1 : 0 ≤ m) (h2 : m < 18446744073709551616) : IntKind.u64.wrap m = m := by
  simp only [IntKind.wrap, IntKind.bits, IntKind.signed] <;> simp <;> omega
end
end Go.Proofs.Ytcdipmjgpimmdaa.Vc

/- The calculus, eleventh part: structs built by value; parts of them; own objects handed over for good. -/
set_option linter.unusedVariables false
set_option linter.unusedSimpArgs false
namespace Go.Proofs.Ytcdipmjgpimmdaa.Vc
open Go Go.RowKit

theorem fold_at : ∀ (l : List Value) (k off : Nat) (cells : Array Value) (j : Nat),
    ((l.zipIdx k).foldl (fun (cs : Array Value) (p : Value × Nat) => cs.setIfInBounds (off + p.2) p.1) cells)[j]? = (if off + k ≤ j ∧ j < off + k + l.length ∧ j < cells.size then l[j - (off + k)]? else cells[j]?) ∧
    ((l.zipIdx k).foldl (fun (cs : Array Value) (p : Value × Nat) => cs.setIfInBounds (off + p.2) p.1) cells).size = cells.size
  | [], k, off, cells, j => by simp; intro h1 h2; omega
  | c :: l, k, off, cells, j => by
    rw [List.zipIdx_cons, List.foldl_cons]
    obtain ⟨h1, h2⟩ := fold_at l (k + 1) off (cells.setIfInBounds (off + k) c) j
    refine ⟨?_, by rw [h2]; simp⟩
    rw [h1]
    simp only [Array.size_setIfInBounds, List.length_cons]
    by_cases hj : off + k ≤ j ∧ j < off + k + (l.length + 1) ∧ j < cells.size
    · rw [if_pos hj]
      by_cases hj2 : j = off + k
      · subst hj2
        rw [if_neg (by omega)]
        simp [hj.2.2]
      · rw [if_pos (by omega)]
        have : j - (off + k) = (j - (off + (k + 1))) + 1 := by omega
        rw [this]; rfl
    · rw [if_neg hj, if_neg (by omega)]
      by_cases hj2 : off + k = j
      · subst hj2
        have : ¬ off + k < cells.size := by omega
        simp [this]
      · rw [Array.getElem?_setIfInBounds_ne hj2]

theorem all_of {H : List Ob} {ys : List V} (h : ys.all (fun y => (cellsV y).all (oneO H)) = true) : ∀ y ∈ ys, (cellsV y).all (oneO H) = true := fun y hy => List.all_eq_true.1 h y hy
theorem all2_of {H : List Ob} {ys : List V} {sz : Nat} (h : ys.all (fun y => Nat.beq (cellsV y).length sz && (cellsV y).all (oneO H)) = true) : ∀ y ∈ ys, (cellsV y).length = sz ∧ (cellsV y).all (oneO H) = true := fun y hy => by
  have := List.all_eq_true.1 h y hy
  rw [Bool.and_eq_true] at this
  exact ⟨Nat.eq_of_beq_eq_true this.1, this.2⟩
/-- Parts laid over cells. -/
def setP : List V → List (Nat × Nat) → List V → List V
  | cs, (o, _) :: ps, y :: ys => setP (setV cs o (cellsV y)) ps ys
  | cs, _, _ => cs
/-- Where the parts of such a number lie. -/
def plsB (P : Program) (T : TypeId) (is : List Nat) (pls : List (Nat × Nat)) : Bool :=
  match P.underlying T with
  | some (.struct fs) => fs.all (fun f => (P.info? f.type).isSome) && (is.map fun i => (fs[i]?).bind fun f => (P.info? f.type).map fun inf => (f.offset, inf.size)) == pls.map some
  | _ => false
def plsOk (pls : List (Nat × Nat)) (ys : List V) (m : Nat) : Prop :=
  match pls, ys with
  | [], [] => True
  | (o, n) :: ps, y :: ys => (cellsV y).length = n ∧ o + n ≤ m ∧ plsOk ps ys m
  | _, _ => False

section
variable {P : Program} {Γ : Ctx} {F : Fr} {H : List Ob} {Q : Exit → Fr → List Ob → Prop}
theorem fill_ok {ρ : List Re} {a : Act} {w : World} (s : StA Γ ρ F H a w) (place : Nat → Option (Nat × Nat)) : ∀ (is : List Nat) (pls : List (Nat × Nat)) (ys : List V) (us : List Value) (cur : Array Value) (cs : List V),
    is.map place = pls.map some → RelL w (Lset Γ.M ρ H) Γ.w0.heap.size ρ ys us → is.length = ys.length → plsOk pls ys cs.length → (∀ y ∈ ys, (cellsV y).all (oneO H) = true) → cur.size = cs.length →
    (∀ (j : Nat) (y : V), cs[j]? = some y → ∃ c, cur[j]? = some c ∧ Rel w (Lset Γ.M ρ H) Γ.w0.heap.size ρ y c) →
    ∃ cells, Instr.fill place cur (is.zip us) = some cells ∧ cells.size = (setP cs pls ys).length ∧ ∀ (j : Nat) (y : V), (setP cs pls ys)[j]? = some y → ∃ c, cells[j]? = some c ∧ Rel w (Lset Γ.M ρ H) Γ.w0.heap.size ρ y c
  | [], [], [], us, cur, cs, _, hr, _, _, _, h1, h2 => by have : us = [] := hr; subst this; exact ⟨cur, rfl, h1, h2⟩
  | i :: is, (o, n) :: pls, y :: ys, us, cur, cs, hp, ⟨u, us', e, r1, r2⟩, hl, ⟨k1, k2, k3⟩, hone, h1, h2 => by
    subst e
    simp only [List.map_cons, List.cons.injEq] at hp
    obtain ⟨hs, hc⟩ := s.cellsV (hone y (List.mem_cons_self ..)) r1
    have hf := fun j => fold_at u.cells.toList 0 o cur j
    have ef : u.cells.zipIdx.foldl (fun cs (x : Value × Nat) => cs.setIfInBounds (o + x.2) x.1) cur = (u.cells.toList.zipIdx 0).foldl (fun (cs : Array Value) (p : Value × Nat) => cs.setIfInBounds (o + p.2) p.1) cur := by
      rw [← Array.foldl_toList, Array.toList_zipIdx]
    have := fill_ok s place is pls ys us' (u.cells.zipIdx.foldl (fun cs (x : Value × Nat) => cs.setIfInBounds (o + x.2) x.1) cur) (setV cs o (cellsV y)) hp.2 r2 (by simpa using hl) (by rw [setV_length]; exact k3) (fun z hz => hone z (List.mem_cons_of_mem _ hz))
      (by rw [ef, (hf 0).2, setV_length, h1]) (fun j z hz => by
        rw [ef, (hf j).1]
        have hjlt : j < cs.length := by have := (List.getElem?_eq_some_iff.1 hz).1; rwa [setV_length] at this
        rcases setV_at cs o (cellsV y) j z hz with ⟨a1, a2, a3⟩ | ⟨a1, a2⟩
        · obtain ⟨c, d1, _, d3⟩ := hc _ _ a3
          refine ⟨c, ?_, d3⟩
          rw [if_pos ⟨by omega, by simp [hs]; omega, by omega⟩]
          rw [← Array.getElem?_toList] at d1
          rw [← d1]; congr 1
        · obtain ⟨c, d1, d2⟩ := h2 j z a2
          refine ⟨c, ?_, d2⟩
          rw [if_neg (by simp [hs]; omega)]; exact d1)
    obtain ⟨cells, e1, e2, e3⟩ := this
    refine ⟨cells, ?_, e2, e3⟩
    show Instr.fill place cur ((i, u) :: is.zip us') = some cells
    unfold Instr.fill
    rw [hp.1]
    simp only []
    rw [if_neg (by simp [hs]; omega)]
    exact e1
/-- A struct built. -/
theorem ly_build {T : TypeId} {zs : List Value} {is : List Nat} {pls : List (Nat × Nat)} {parts : Array (Nat × Operand)} {xs : List Operand} {ys rs : List V} (hz : ((P.info? T).bind (·.zero)).map (·.cells.toList) = some zs)
    (hpl : plsB P T is pls = true) (hp : parts.toList = is.zip xs) (hx : ovL F xs ys) (hl : Nat.beq is.length xs.length = true) (hok : plsOk pls ys zs.length) (hone : ∀ y ∈ ys, (cellsV y).all (oneO H) = true) (hrs : setP (zs.map cV) pls ys = rs) :
    LY P Γ (.build T parts) F H (.a rs) := fun ρ a w s => by
  have hl := Nat.eq_of_beq_eq_true hl
  have hr := s.ovL hx
  cases hu : P.underlying T with
  | none => simp [plsB, hu] at hpl
  | some D =>
    cases D with
    | struct fs =>
      simp only [plsB, hu, Bool.and_eq_true, beq_iff_eq] at hpl
      obtain ⟨hall, hpl⟩ := hpl
      cases hi : P.info? T with
      | none => rw [hi] at hz; cases hz
      | some inf =>
        rw [hi] at hz
        cases hz0 : inf.zero with
        | none => simp [hz0] at hz
        | some z =>
          simp [hz0] at hz
          let pl : Nat → Option (Nat × Nat) := fun i => (fs[i]?).bind fun f => (P.info? f.type).map fun inf => (f.offset, inf.size)
          have hys : xs.length = ys.length := by have := (relL_one ys (xs.map a.eval) hr).1; simpa using this
          obtain ⟨cells, e1, e2, e3⟩ := fill_ok s pl is pls ys (xs.map a.eval) z.cells (zs.map cV) hpl hr (by omega) (by simpa using hok) hone (by rw [← hz]; simp) (fun j y hy => by
            rw [List.getElem?_map] at hy
            cases hj : zs[j]? with
            | none => rw [hj] at hy; cases hy
            | some v =>
              rw [hj] at hy; simp at hy; subst hy
              refine ⟨v, ?_, rel_cV _ _ _ _ _⟩
              rw [← hz] at hj; simpa using hj)
          have hmap : ∀ w', (fs.mapM (fun f => do pure (f.offset, ← sizeOf f.type) : Field → Sem (Nat × Nat))).run P w' = .ok (fs.map fun f => (f.offset, ((P.info? f.type).map (·.size)).getD 0)) w' := by
            intro w'
            rw [Array.mapM_eq_mapM_toList]
            have : ∀ l : List Field, (∀ f ∈ l, (P.info? f.type).isSome = true) → (l.mapM (fun f => do pure (f.offset, ← sizeOf f.type) : Field → Sem (Nat × Nat))).run P w' = .ok (l.map fun f => (f.offset, ((P.info? f.type).map (·.size)).getD 0)) w' := by
              intro l
              induction l with
              | nil => intro _; simp
              | cons f l ih =>
                intro h
                have hf := h f (List.mem_cons_self ..)
                cases hfi : P.info? f.type with
                | none => rw [hfi] at hf; simp at hf
                | some fi =>
                  have e : (sizeOf f.type).run P w' = .ok fi.size w' := run_sizeOf' (by simp [hfi]) w'
                  rw [List.mapM_cons]
                  simp only [Sem.run_bind, e, Result.andThen_ok, Sem.run_pure, ih (fun g hg => h g (List.mem_cons_of_mem _ hg)), List.map_cons, hfi, Option.map_some, Option.getD_some]
            have h2 := this fs.toList (fun f hf => by have := (Array.all_eq_true_iff_forall_mem.1 hall) f (by simpa using hf); exact this)
            have e0 : (List.toArray <$> fs.toList.mapM (fun f => do pure (f.offset, ← sizeOf f.type) : Field → Sem (Nat × Nat))) = (do let l ← fs.toList.mapM (fun f => do pure (f.offset, ← sizeOf f.type) : Field → Sem (Nat × Nat)); pure l.toArray) := rfl
            rw [e0, Sem.run_bind, h2]
            simp only [Result.andThen_ok, Sem.run_pure]
            congr 1
            apply Array.ext'
            simp
          have hplaces : ∀ i, (fs.map fun f => (f.offset, ((P.info? f.type).map (·.size)).getD 0))[i]? = pl i := by
            intro i
            simp only [pl, Array.getElem?_map]
            cases hfi : fs[i]? with
            | none => rfl
            | some f =>
              have := (Array.all_eq_true_iff_forall_mem.1 hall) f (Array.mem_of_getElem? hfi)
              cases hg : P.info? f.type with
              | none => rw [hg] at this; simp at this
              | some g => simp [hg]
          have hparts : (parts.map fun (i, x) => (i, a.eval x)).toList = is.zip (xs.map a.eval) := by
            rw [Array.toList_map, hp]
            have : ∀ (is : List Nat) (xs : List Operand), (is.zip xs).map (fun (p : Nat × Operand) => (p.1, a.eval p.2)) = is.zip (xs.map a.eval) := by
              intro is
              induction is with
              | nil => intro xs; rfl
              | cons i is ih => intro xs; cases xs with
                | nil => rfl
                | cons x xs => simp [ih]
            exact this is xs
          refine ⟨.agg cells, ⟨cells.toList, by simp, ?_⟩, fun _ _ _ _ _ w' _ => ?_⟩
          · have : ∀ (rs : List V) (us : List Value), us.length = rs.length → (∀ (j : Nat) (y : V), rs[j]? = some y → ∃ c, us[j]? = some c ∧ Rel w (Lset Γ.M ρ H) Γ.w0.heap.size ρ y c) → RelL w (Lset Γ.M ρ H) Γ.w0.heap.size ρ rs us := by
              intro rs
              induction rs with
              | nil => intro us h _; exact List.eq_nil_of_length_eq_zero (by simpa using h)
              | cons y rs ih =>
                intro us h h2
                cases us with
                | nil => simp at h
                | cons u us =>
                  obtain ⟨c, c1, c2⟩ := h2 0 y rfl
                  simp at c1; subst c1
                  exact ⟨u, us, rfl, c2, ih us (by simpa using h) fun j z hz => by simpa using h2 (j + 1) z (by simpa using hz)⟩
            refine this rs cells.toList (by rw [← hrs]; simpa using e2) fun j y hy => ?_
            rw [← hrs] at hy
            obtain ⟨c, c1, c2⟩ := e3 j y hy
            exact ⟨c, by simpa using c1, c2⟩
          · have e : (Instr.build T (parts.map fun (i, x) => (i, a.eval x))).run P w' = .ok (.agg cells) w' := by
              have hzv : (zeroValue T).run P w' = .ok z w' := by simp [zeroValue, typeInfo, hi, hz0]
              unfold Instr.build
              simp only [Sem.run_bind, hzv, Result.andThen_ok, run_underlying hu, hmap, hparts]
              rw [show (fun x => (fs.map fun f => (f.offset, ((P.info? f.type).map (·.size)).getD 0))[x]?) = pl from funext hplaces, e1]
              rfl
            exact run_v e
    | _ => simp [plsB, hu] at hpl
end
end Go.Proofs.Ytcdipmjgpimmdaa.Vc

/- The calculus, twelfth part: a literal's bytes, places of arrays that nobody writes, text into pieces. -/
set_option linter.unusedVariables false
set_option linter.unusedSimpArgs false
namespace Go.Proofs.Ytcdipmjgpimmdaa.Vc
open Go Go.RowKit
section
variable {P : Program} {Γ : Ctx} {F : Fr} {H : List Ob} {Q : Exit → Fr → List Ob → Prop}

theorem StA.deadw {ρ : List Re} {a : Act} {w w' : World} (s : StA Γ ρ F H a w) {id g : Nat} {ob : Ob} {re : Re} (hH : H[id]? = some ob) (hl : ob.live = true) (hre : ρ[id]? = some re) (hg : re.g = some g)
    (h1 : w'.os = w.os) (h2 : w'.tape = w.tape) (h3 : w'.output = w.output) (hs : w'.heap.size = w.heap.size) (hb : ∀ b, b ≠ g → w'.heap[b]? = w.heap[b]?) :
    Ev w (Lset Γ.M ρ H) Γ.w0.heap.size ρ w' (Lset Γ.M ρ (deadAt H id)) Γ.w0.heap.size ρ ∧ StA Γ ρ F (deadAt H id) a w' := by
  have hgL : Lset Γ.M ρ H g := .inr ⟨id, ob, re, hH, hl, hre, hg⟩
  have ev : Ev w (Lset Γ.M ρ H) Γ.w0.heap.size ρ w' (Lset Γ.M ρ (deadAt H id)) Γ.w0.heap.size ρ :=
    ⟨by omega, fun b _ hn => hb b (fun e => hn (e ▸ hgL)), (s.dead_ev id).lv, Nat.le_refl _, fun i r h => ⟨r, h, Nat.le_refl _, fun _ => rfl⟩⟩
  refine ⟨ev, ⟨by simp [deadAt, s.hr.len], fun i o k1 k2 => ?_, (s.dead id).hr.apart, (s.dead id).hr.foreign⟩, s.n, s.ds, fun t => (s.fr t).ev ev, ⟨h1.trans s.fro.os, h2.trans s.fro.tape, h3.trans s.fro.output, by have := s.fro.size; omega, fun b hlt hn => ?_, s.fro.old, (s.dead id).fro.mine, s.fro.rho⟩⟩
  · obtain ⟨hne, k1'⟩ := deadAt_some k1 k2
    obtain ⟨r, k3, k4⟩ := s.hr.ob i o k1' k2
    refine ⟨r, k3, k4.ver, k4.sz, k4.nob, fun g' hg' => ?_⟩
    obtain ⟨cur, c1, c2, c3, c4, c5⟩ := k4.blk g' hg'
    have : g' ≠ g := fun e => s.hr.apart i id o ob r re g' hne k1' k2 hH hl k3 hre hg' (e ▸ hg)
    exact ⟨cur, by rw [hb g' this]; exact c1, c2, c3, c4, fun j y hy => by obtain ⟨u, d1, d2, d3⟩ := c5 j y hy; exact ⟨u, d1, d2, d3.ev ev⟩⟩
  · rw [hb b (by
      intro e
      subst e
      rcases s.fro.mine id ob re b hH hl hre hg with h | h
      · omega
      · exact hn h)]
    exact s.fro.blk b hlt hn
/-- A literal's bytes, converted to their own type: written no more. -/
theorem hy_convb {T E : TypeId} {x : Operand} {id ver len t : Nat} {k : IntKind} {l : List Int} (hT : P.underlying T = some (.slice E)) (hE : P.underlying E = some (.int .u8)) (hx : ovO F x = some (.o id ver 0 len)) (hH : H[id]? = some ⟨t, 1, ver, true, ints k l⟩) (hlen : l.length = len) (h0 : l.isEmpty = false)
    (hp : ∀ b, ¬ Γ.L0 b) : HY P Γ (.convert T T x) F H (.n true k l) (deadAt H id) := fun ρ a w s => by
  obtain ⟨re, o⟩ := s.own hH rfl
  obtain ⟨re', e1, hle, hq⟩ := s.ov hx
  obtain rfl : re' = re := by have := e1.symm.trans o.at_; injection this
  obtain ⟨hcap, ⟨g, ad, hg, hv, had⟩ | ⟨_, _, _, hl0⟩⟩ := hq (o.ok.ver.symm)
  · obtain ⟨cur, c1, c2, c3, c4, c5⟩ := o.ok.blk g hg
    have had' := had (.inr rfl)
    rw [Nat.zero_mul] at had'
    have hsh : w.shape? g = some (t, cur.size) := by simp [World.shape?, c1]
    have hglt : g < w.heap.size := (Array.getElem?_eq_some_iff.1 c1).1
    obtain ⟨ev, s'⟩ := s.deadw (w' := w.freeze ⟨g, cur.size, none⟩ 1) hH rfl o.at_ hg (by unfold World.freeze; split <;> rfl) (by unfold World.freeze; split <;> rfl) (by unfold World.freeze; split <;> rfl) (by unfold World.freeze; split <;> simp) (fun b hne => by
      unfold World.freeze
      split
      · rfl
      · show (w.heap.modify g _)[b]? = _
        rw [Array.getElem?_modify, if_neg (Ne.symm hne)])
    have hcell : ∀ ad, (w.freeze ⟨g, cur.size, none⟩ 1).cell? ad = w.cell? ad := fun ad => by
      unfold World.freeze
      split
      · rfl
      · simp only [World.cell?]
        show (match (w.heap.modify g _)[ad.block]? with | some (.cells c _ _) => if ad.spot.isSome then none else c[ad.off]? | _ => none) = _
        rw [Array.getElem?_modify]
        by_cases e : g = ad.block
        · rw [if_pos e, ← e, c1]; rfl
        · rw [if_neg e]; rfl
    have hfr := s.frozen (off := 0) (len := len) hH ⟨re', e1, hle, fun h => ⟨hcap, .inl ⟨g, ad, hg, rfl, had⟩⟩⟩ (by omega) hp
    rw [List.drop_zero, ← hlen, List.take_length] at hfr
    refine ⟨a.eval x, _, ρ, ?_, s', fun ad v h => by rw [hcell]; exact h, fun _ _ _ _ _ => ?_⟩
    · rw [hv]
      obtain ⟨A, c, e2, f1, f2, f3⟩ := hfr
      rw [hlen] at e2 f1
      refine ⟨A, c, by rw [hlen]; exact e2, by rw [hlen]; exact f1, f2, fun hne => ?_⟩
      obtain ⟨ad2, e3, hb, hc⟩ := f3 hne
      refine ⟨ad2, e3, ⟨?_, hb.2.1, hb.2.2⟩, fun j y hj => by rw [hcell]; exact hc j y hj⟩
      have := hb.1
      have e4 : (w.freeze ⟨g, cur.size, none⟩ 1).heap.size = w.heap.size := by unfold World.freeze; split <;> simp
      omega
    · have e : (convert T T (a.eval x)).run P w = .ok (a.eval x) (w.freeze ⟨g, cur.size, none⟩ 1) := by
        rw [hv, had']
        simp [convert, run_underlying hT, run_underlying hE, markStringish, hsh]
      exact run_v e
  · have : l = [] := List.eq_nil_of_length_eq_zero (by omega)
    rw [this] at h0; simp at h0
/-- The address of a place of an array that nobody writes. -/
theorem ly_iaq {T E l sz : Nat} {x ix : Operand} {ys zs : List V} {k : IntKind} {n : Int} {i : Nat} (hT : arB P T E l sz = true) (hx : ovO F x = some (.q ys)) (hi : ovO F ix = some (.i k n)) (hn : n = (i : Int))
    (h1 : i < l) (hz : ys.drop (i * sz) = zs) : LY P Γ (.indexAddr T x ix) F H (.q zs) := fun ρ a w s => by
  obtain ⟨ad, hv, hb, hc⟩ := s.ov hx
  refine ⟨.pointer (some (ad.add (i * sz))), ⟨ad.add (i * sz), rfl, by rw [block_add]; exact hb, ?_⟩, fun _ _ _ _ _ w' _ => ?_⟩
  · rw [relC_drop, ← hz]; have := relC_of_drop (i * sz) ys 0 hc; rwa [Nat.zero_add] at this
  · have e : (Instr.indexAt T (a.eval x) (a.eval ix)).run P w' = .ok (.pointer (some (ad.add (i * sz)))) w' := by
      rw [hv, eval_i s hi, hn]
      simp [Instr.indexAt, run_underlying (arB_und hT), asIntOf, run_sizeOf' (arB_size hT), Instr.sureAddr, h1]
    exact run_v e
/-- A load of the first of cells that nobody writes. -/
theorem ly_ldqz {T : TypeId} {x : Operand} {y z : V} {ys : List V} (hT : oneB P T = true) (hx : ovO F x = some (.q ys)) (hy : ys[0]? = some y) (hz : old y = z) : LY P Γ (.load T x) F H z := by
  cases ys with
  | nil => simp at hy
  | cons y0 us => simp at hy; subst hy; exact ly_ldq hT hx hz
end
end Go.Proofs.Ytcdipmjgpimmdaa.Vc

/- The calculus, thirteenth part: rows that are not born yet; objects of a round left behind. -/
set_option linter.unusedVariables false
set_option linter.unusedSimpArgs false
namespace Go.Proofs.Ytcdipmjgpimmdaa.Vc
open Go Go.RowKit

mutual
/-- It names own objects below n alone. -/
def idB (n : Nat) : V → Bool
  | .p id _ _ => Nat.blt id n
  | .o id _ _ _ => Nat.blt id n
  | .f _ cs => idBL n cs
  | .a cs => idBL n cs
  | .t cs => idBL n cs
  | _ => true
def idBL (n : Nat) : List V → Bool
  | [] => true
  | y :: ys => idB n y && idBL n ys
end
section
variable {P : Program} {Γ : Ctx} {F : Fr} {H : List Ob} {Q : Exit → Fr → List Ob → Prop}
mutual
theorem Rel.cut {w : World} {L : Nat → Prop} {B n : Nat} {ρ : List Re} : ∀ (y : V) (v : Value), idB n y = true → Rel w L B ρ y v → Rel w L B (ρ.take n) y v
  | .i _ _, _, _, h => h
  | .b _, _, _, h => h
  | .s _, _, _, h => h
  | .c _, _, _, h => h
  | .n _ _ _, _, _, h => h
  | .l _ _ _, _, _, h => h
  | .q _, _, _, h => h
  | .u, _, _, h => h
  | .p id _ _, _, hi, ⟨re, e, h⟩ => ⟨re, by rw [List.getElem?_take, if_pos (by simpa [idB] using hi)]; exact e, h⟩
  | .o id _ _ _, _, hi, ⟨re, e, h⟩ => ⟨re, by rw [List.getElem?_take, if_pos (by simpa [idB] using hi)]; exact e, h⟩
  | .f _ cs, _, hi, ⟨us, e, h⟩ => ⟨us, e, RelL.cut cs us hi h⟩
  | .a cs, _, hi, ⟨us, e, h⟩ => ⟨us, e, RelL.cut cs us hi h⟩
  | .t cs, _, hi, ⟨us, e, h⟩ => ⟨us, e, RelL.cut cs us hi h⟩
theorem RelL.cut {w : World} {L : Nat → Prop} {B n : Nat} {ρ : List Re} : ∀ (ys : List V) (us : List Value), idBL n ys = true → RelL w L B ρ ys us → RelL w L B (ρ.take n) ys us
  | [], _, _, h => h
  | y :: ys, us, hi, ⟨u, us', e, h1, h2⟩ => by
    simp only [idBL, Bool.and_eq_true] at hi
    exact ⟨u, us', e, Rel.cut y u hi.1 h1, RelL.cut ys us' hi.2 h2⟩
end
/-- The objects' own cells name objects below n alone. -/
def ObsId (n : Nat) (H : List Ob) : Prop := ∀ ob ∈ H, ob.live = true → ∀ y ∈ ob.cs, idB n y = true
theorem ObsId.nil {n : Nat} : ObsId n [] := fun _ h => by simp at h
theorem ObsId.cons {n : Nat} {ob : Ob} {H : List Ob} (h : ob.cs.all (idB n) = true) (hs : ObsId n H) : ObsId n (ob :: H) := fun o ho hl y hy => by
  rcases List.mem_cons.1 ho with rfl | ho
  · exact List.all_eq_true.1 h y hy
  · exact hs o ho hl y hy
theorem ObsId.dead {n : Nat} {ob : Ob} {H : List Ob} (h : ob.live = false) (hs : ObsId n H) : ObsId n (ob :: H) := fun o ho hl y hy => by
  rcases List.mem_cons.1 ho with rfl | ho
  · rw [h] at hl; simp at hl
  · exact hs o ho hl y hy
theorem ints_id {n : Nat} {k : IntKind} {l : List Int} : (ints k l).all (idB n) = true := by
  rw [List.all_eq_true]
  intro y hy
  obtain ⟨x, _, rfl⟩ := List.mem_map.1 hy
  rfl
/-- Objects from n on are left behind. -/
theorem StA.cut {ρ : List Re} {a : Act} {w : World} (n : Nat) (s : StA Γ ρ F H a w) (hF : F.all (fun p => idB n p.2) = true) (hO : ObsId n (H.take n)) (hΓ : Γ.ρ0 = []) : StA Γ (ρ.take n) F (H.take n) a w := by
  have at1 : ∀ (i : Nat) (o : Ob), (H.take n)[i]? = some o → i < n ∧ H[i]? = some o := fun i o h => by
    rw [List.getElem?_take] at h
    split at h
    · exact ⟨by assumption, h⟩
    · cases h
  have at2 : ∀ (i : Nat) (r : Re), (ρ.take n)[i]? = some r → ρ[i]? = some r := fun i r h => by
    rw [List.getElem?_take] at h
    split at h
    · exact h
    · cases h
  have lsub : ∀ b, Lset Γ.M (ρ.take n) (H.take n) b → Lset Γ.M ρ H b := by
    rintro b (h | ⟨i, o, r, h1, h2, h3, h4⟩)
    · exact .inl h
    · exact .inr ⟨i, o, r, (at1 i o h1).2, h2, at2 i r h3, h4⟩
  have ev : Ev w (Lset Γ.M ρ H) Γ.w0.heap.size (ρ.take n) w (Lset Γ.M (ρ.take n) (H.take n)) Γ.w0.heap.size (ρ.take n) :=
    ⟨Nat.le_refl _, fun _ _ _ => rfl, fun b _ hn h => hn (lsub b h), Nat.le_refl _, fun i r h => ⟨r, h, Nat.le_refl _, fun _ => rfl⟩⟩
  refine ⟨⟨by simp [s.hr.len], fun i o h1 h2 => ?_, fun i j oi oj ri rj g hij h1 h2 h3 h4 h5 h6 => s.hr.apart i j oi oj ri rj g hij (at1 i oi h1).2 h2 (at1 j oj h3).2 h4 (at2 i ri h5) (at2 j rj h6), fun i o r g h1 h2 h3 => s.hr.foreign i o r g (at1 i o h1).2 h2 (at2 i r h3)⟩, s.n, s.ds, fun t => ?_,
    ⟨s.fro.os, s.fro.tape, s.fro.output, s.fro.size, s.fro.blk, s.fro.old, fun i o r g h1 h2 h3 => s.fro.mine i o r g (at1 i o h1).2 h2 (at2 i r h3), fun i r h => by rw [hΓ] at h; simp at h⟩⟩
  · obtain ⟨hin, h1'⟩ := at1 i o h1
    obtain ⟨r, h3, h4⟩ := s.hr.ob i o h1' h2
    refine ⟨r, by rw [List.getElem?_take, if_pos hin]; exact h3, h4.ver, h4.sz, h4.nob, fun g hg => ?_⟩
    obtain ⟨cur, c1, c2, c3, c4, c5⟩ := h4.blk g hg
    exact ⟨cur, c1, c2, c3, c4, fun j y hy => by
      obtain ⟨u, d1, d2, d3⟩ := c5 j y hy
      exact ⟨u, d1, d2, (d3.cut y u (hO o (List.mem_of_getElem? h1) h2 y (List.mem_of_getElem? hy))).ev ev⟩⟩
  · have := s.fr t
    have hid : idB n (get F t) = true := by
      unfold get
      cases e : getO F t with
      | none => rfl
      | some y =>
        have : ∀ (F : Fr) y, F.all (fun p => idB n p.2) = true → getO F t = some y → idB n y = true := by
          intro F
          induction F with
          | nil => intro y _ h; simp [getO] at h
          | cons p F ih =>
            intro y ha h
            simp only [List.all_cons, Bool.and_eq_true] at ha
            simp only [getO] at h
            cases hb : Nat.beq t p.1
            · rw [hb] at h; exact ih y ha.2 h
            · rw [hb] at h; injection h with h; rw [← h]; exact ha.1
        exact this F y hF e
    exact (this.cut _ _ hid).ev ev
/-- A loop whose rounds leave objects behind: n objects stay. -/
theorem jc_loopD {c : Code} {G : Type} (n : Nat) (C : G → Prop) (m : G → Fr) (Hg : G → List Ob) (μ : G → Nat) (g0 : G) (h0 : C g0) (hF : Says F (m g0)) (hH : H = Hg g0) (hΓ : Γ.ρ0 = []) (hFn : F.all (fun p => idB n p.2) = true)
    (hm : ∀ g, C g → (m g).all (fun p => idB n p.2) = true) (hO : ∀ g, C g → ObsId n (Hg g))
    (round : ∀ g, C g → JC P c Γ (m g ++ F) (Hg g) (qThen (fun F' H' => ∃ g', C g' ∧ μ g' < μ g ∧ H'.take n = Hg g' ∧ Cov F' (m g') F) Q)) : JC P (.loop c) Γ F H Q :=
  jc_loop C (fun g => m g ++ F) Hg μ g0 h0 (fun a w s => hH ▸ s.cov (cov_start hF)) fun g hg =>
    JC_mono (fun e F' H' q => by
      cases e with
      | normal =>
        obtain ⟨g', h1, h2, h3, h4⟩ := q
        refine ⟨g', h1, h2, fun a w s => ?_⟩
        obtain ⟨ρ, s'⟩ := s.cov h4
        exact ⟨_, h3 ▸ s'.cut n (by rw [List.all_append, hFn, hm g' h1]; rfl) (by rw [h3]; exact hO g' h1) hΓ⟩
      | _ => exact q) (round g hg)
theorem str_beq (p q : ByteArray) : (p.toList == q.toList) = decide (p = q) := by
  rw [ByteArray.toList_eq, ByteArray.toList_eq]
  by_cases h : p = q
  · subst h; simp
  · rw [decide_eq_false h]
    cases hb : (p.data.toList == q.data.toList)
    · rfl
    · have e := eq_of_beq hb
      exact absurd (by cases p; cases q; simp at e; rw [e]) h
theorem ly_eqS {x y : Operand} {T T' : TypeId} {p q : ByteArray} (hx : ovO F x = some (.s p)) (hy : ovO F y = some (.s q)) : LY P Γ (.binOp .eql T x y T') F H (.b (decide (p = q))) := by
  rw [← str_beq]; exact ly_eqs hx hy
theorem ly_neS {x y : Operand} {T T' : TypeId} {p q : ByteArray} (hx : ovO F x = some (.s p)) (hy : ovO F y = some (.s q)) : LY P Γ (.binOp .neq T x y T') F H (.b (decide (p ≠ q))) := by
  have : decide (p ≠ q) = !(p.toList == q.toList) := by rw [str_beq]; simp
  rw [this]; exact ly_nes hx hy
/-- A truth that is known. -/
theorem ly_tt {op : Op} {p : Prop} [Decidable p] (h : LY P Γ op F H (.b (decide p))) (hp : p) : LY P Γ op F H (.b true) := by rwa [decide_eq_true hp] at h
theorem ly_ff {op : Op} {p : Prop} [Decidable p] (h : LY P Γ op F H (.b (decide p))) (hp : ¬ p) : LY P Γ op F H (.b false) := by rwa [decide_eq_false hp] at h
theorem ly_is {op : Op} {y z : V} (h : LY P Γ op F H y) (e : y = z) : LY P Γ op F H z := e ▸ h
theorem setV_all : ∀ (cs ys : List V), cs.length = ys.length → setV cs 0 ys = ys := fun cs ys h => by
  apply List.ext_getElem?
  intro j
  cases e : (setV cs 0 ys)[j]? with
  | none =>
    have : cs.length ≤ j := by have := List.getElem?_eq_none_iff.1 e; rwa [setV_length] at this
    rw [List.getElem?_eq_none (by omega)]
  | some y =>
    rcases setV_at cs 0 ys j y e with ⟨_, _, h3⟩ | ⟨h1, h2⟩
    · rw [← h3]; rfl
    · have := (List.getElem?_eq_some_iff.1 h2).1
      omega
theorem takeV_all {ys : List V} {n : Nat} (h : ys.length = n) : takeV ys 0 n = ys := by rw [takeV_eq, List.drop_zero, ← h, List.take_length]
theorem retv_ints {k : IntKind} : ∀ (l : List Int), RetV H (.a (ints k l)) (.a (ints k l))
  | [] => .a0
  | _ :: l => .a1 .i (retv_ints l)
theorem ints_one {k : IntKind} {l : List Int} : (ints k l).all (oneO H) = true := by
  rw [List.all_eq_true]
  intro y hy
  obtain ⟨x, _, rfl⟩ := List.mem_map.1 hy
  rfl
theorem ints_pure {k : IntKind} {l : List Int} : (ints k l).all pureV = true := by
  rw [List.all_eq_true]
  intro y hy
  obtain ⟨x, _, rfl⟩ := List.mem_map.1 hy
  rfl
/-- A slice that is nil as an own row that is not born yet. -/
theorem jc_own0 {c : Code} (t : Nat) {id : Nat} (T sz : Nat) (hx : getO F t = some (.c (.slice none 0 0))) (hid : H.length = id) (j : JC P c Γ ((t, .o id 0 0 0) :: F) (H ++ [⟨T, sz, 0, true, []⟩]) Q) : JC P c Γ F H Q := fun a w ⟨ρ, s⟩ => by
  have s' := s.born (re := ⟨none, 0, 0, sz⟩) (ob := ⟨T, sz, 0, true, []⟩) (w' := w) ⟨rfl, rfl, rfl, Nat.le_refl _, fun _ _ _ => rfl⟩ rfl rfl rfl (fun g h => by cases h) (fun _ => ⟨rfl, rfl⟩) (fun g h => by cases h)
  refine j a w ⟨_, s'.hr, s'.n, s'.ds, fun t' => ?_, s'.fro⟩
  rw [get_cons]
  by_cases e : t' = t
  · rw [if_pos e]
    have h1 := s'.fr t'
    unfold get at h1
    rw [e, hx] at h1
    rw [e]
    have h2 : a.tmps.getD t undef = .slice none 0 0 := h1
    refine ⟨⟨none, 0, 0, sz⟩, ?_, Nat.zero_le _, fun _ => ⟨Nat.le_refl _, .inr ⟨rfl, h2, rfl, rfl⟩⟩⟩
    rw [← hid, ← s.hr.len]
    simp
  · rw [if_neg e]; exact s'.fr t'
end
end Go.Proofs.Ytcdipmjgpimmdaa.Vc

/- The calculus, fourteenth part: contracts of functions that write objects that are handed to them. -/
set_option linter.unusedVariables false
set_option linter.unusedSimpArgs false
namespace Go.Proofs.Ytcdipmjgpimmdaa.Vc
open Go Go.RowKit

mutual
/-- It does not say of any place that it is fresh. -/
def noFr : V → Bool
  | .n fr _ _ => !fr
  | .l fr _ _ => !fr
  | .f _ cs => noFrL cs
  | .a cs => noFrL cs
  | .t cs => noFrL cs
  | _ => true
def noFrL : List V → Bool
  | [] => true
  | y :: ys => noFr y && noFrL ys
end
mutual
theorem rel_B {w : World} {L : Nat → Prop} {B B' : Nat} {ρ : List Re} : ∀ (y : V) (v : Value), noFr y = true → Rel w L B ρ y v → Rel w L B' ρ y v
  | .i _ _, _, _, h => h
  | .b _, _, _, h => h
  | .s _, _, _, h => h
  | .c _, _, _, h => h
  | .n fr _ _, _, hf, ⟨A, c, e, h1, h2, h3⟩ => ⟨A, c, e, h1, h2, fun hl => by obtain ⟨ad, e1, hb, hc⟩ := h3 hl; exact ⟨ad, e1, ⟨hb.1, hb.2.1, fun hfr => by subst hfr; simp [noFr] at hf⟩, hc⟩⟩
  | .l fr _ _, _, hf, ⟨A, c, e, h1, h2, h3⟩ => ⟨A, c, e, h1, h2, fun hl => by obtain ⟨ad, e1, hb, hc⟩ := h3 hl; exact ⟨ad, e1, ⟨hb.1, hb.2.1, fun hfr => by subst hfr; simp [noFr] at hf⟩, hc⟩⟩
  | .q _, _, _, ⟨ad, e, hb, hc⟩ => ⟨ad, e, ⟨hb.1, hb.2.1, by simp⟩, hc⟩
  | .p _ _ _, _, _, h => h
  | .o _ _ _ _, _, _, h => h
  | .f _ cs, _, hf, ⟨us, e, h⟩ => ⟨us, e, relL_B cs us hf h⟩
  | .u, _, _, _ => trivial
  | .a cs, _, hf, ⟨us, e, h⟩ => ⟨us, e, relL_B cs us hf h⟩
  | .t cs, _, hf, ⟨us, e, h⟩ => ⟨us, e, relL_B cs us hf h⟩
theorem relL_B {w : World} {L : Nat → Prop} {B B' : Nat} {ρ : List Re} : ∀ (ys : List V) (us : List Value), noFrL ys = true → RelL w L B ρ ys us → RelL w L B' ρ ys us
  | [], _, _, h => h
  | y :: ys, us, hf, ⟨u, us', e, h1, h2⟩ => by
    simp only [noFrL, Bool.and_eq_true] at hf
    exact ⟨u, us', e, rel_B y u hf.1 h1, relL_B ys us' hf.2 h2⟩
end
mutual
theorem rel_Ble {w : World} {L : Nat → Prop} {B B' : Nat} {ρ : List Re} (hB : B' ≤ B) : ∀ (y : V) (v : Value), Rel w L B ρ y v → Rel w L B' ρ y v
  | .i _ _, _, h => h
  | .b _, _, h => h
  | .s _, _, h => h
  | .c _, _, h => h
  | .n _ _ _, _, ⟨A, c, e, h1, h2, h3⟩ => ⟨A, c, e, h1, h2, fun hl => by obtain ⟨ad, e1, hb, hc⟩ := h3 hl; exact ⟨ad, e1, ⟨hb.1, hb.2.1, fun e => Nat.le_trans hB (hb.2.2 e)⟩, hc⟩⟩
  | .l _ _ _, _, ⟨A, c, e, h1, h2, h3⟩ => ⟨A, c, e, h1, h2, fun hl => by obtain ⟨ad, e1, hb, hc⟩ := h3 hl; exact ⟨ad, e1, ⟨hb.1, hb.2.1, fun e => Nat.le_trans hB (hb.2.2 e)⟩, hc⟩⟩
  | .q _, _, ⟨ad, e, hb, hc⟩ => ⟨ad, e, ⟨hb.1, hb.2.1, by simp⟩, hc⟩
  | .p _ _ _, _, h => h
  | .o _ _ _ _, _, h => h
  | .f _ cs, _, ⟨us, e, h⟩ => ⟨us, e, relL_Ble hB cs us h⟩
  | .u, _, _ => trivial
  | .a cs, _, ⟨us, e, h⟩ => ⟨us, e, relL_Ble hB cs us h⟩
  | .t cs, _, ⟨us, e, h⟩ => ⟨us, e, relL_Ble hB cs us h⟩
theorem relL_Ble {w : World} {L : Nat → Prop} {B B' : Nat} {ρ : List Re} (hB : B' ≤ B) : ∀ (ys : List V) (us : List Value), RelL w L B ρ ys us → RelL w L B' ρ ys us
  | [], _, h => h
  | y :: ys, us, ⟨u, us', e, h1, h2⟩ => ⟨u, us', e, rel_Ble hB y u h1, relL_Ble hB ys us' h2⟩
end
/-- The objects' cells say of no place that it is fresh. -/
def freshless (H : List Ob) : Prop := ∀ ob ∈ H, ob.live = true → ∀ y ∈ ob.cs, noFr y = true
theorem HR.toB {M : Nat → Prop} {w : World} {B B' : Nat} {ρ : List Re} {H : List Ob} (h : HR M w B ρ H) (hf : freshless H) : HR M w B' ρ H :=
  ⟨h.len, fun i o h1 h2 => by
    obtain ⟨r, h3, h4⟩ := h.ob i o h1 h2
    refine ⟨r, h3, h4.ver, h4.sz, h4.nob, fun g hg => ?_⟩
    obtain ⟨cur, c1, c2, c3, c4, c5⟩ := h4.blk g hg
    exact ⟨cur, c1, c2, c3, c4, fun j y hy => by obtain ⟨u, d1, d2, d3⟩ := c5 j y hy; exact ⟨u, d1, d2, rel_B y u (hf o (List.mem_of_getElem? h1) h2 y (List.mem_of_getElem? hy)) d3⟩⟩, h.apart, h.foreign⟩
theorem HR.leB {M : Nat → Prop} {w : World} {B B' : Nat} {ρ : List Re} {H : List Ob} (hB : B' ≤ B) (h : HR M w B ρ H) : HR M w B' ρ H :=
  ⟨h.len, fun i o h1 h2 => by
    obtain ⟨r, h3, h4⟩ := h.ob i o h1 h2
    refine ⟨r, h3, h4.ver, h4.sz, h4.nob, fun g hg => ?_⟩
    obtain ⟨cur, c1, c2, c3, c4, c5⟩ := h4.blk g hg
    exact ⟨cur, c1, c2, c3, c4, fun j y hy => by obtain ⟨u, d1, d2, d3⟩ := c5 j y hy; exact ⟨u, d1, d2, rel_Ble hB y u d3⟩⟩, h.apart, h.foreign⟩

def EndRelM (w : World) (L : Nat → Prop) (B : Nat) (ρ : List Re) : Out → Ending → Prop
  | .ret y, e => ∃ v, e = .returned v ∧ Rel w L B ρ y v
  | .pan c, e => e = .panicked c
/-- The blocks of the objects that are handed over. -/
def hand (ρ : List Re) (H : List Ob) (b : Nat) : Prop := ∃ (id : Nat) (ob : Ob) (re : Re), H[id]? = some ob ∧ ob.live = true ∧ ρ[id]? = some re ∧ re.g = some b
/-- A contract over objects that are handed over: all the caller's. -/
def SpecM (P : Program) (f : FuncId) (args : List V) (H : List Ob) (post : Out → List Ob → Prop) : Prop :=
  ∀ (M : Nat → Prop) (w : World) (ρ : List Re) (vals : List Value), (∀ b, M b → b < w.heap.size) → HR M w w.heap.size ρ H → RelL w (Lset M ρ H) w.heap.size ρ args vals →
    Calls P f vals.toArray w fun e w' => ∃ o H' ρ', post o H' ∧ EndRelM w' (Lset M ρ' H') w.heap.size ρ' o e ∧ HR M w' w.heap.size ρ' H' ∧
      w'.os = w.os ∧ w'.tape = w.tape ∧ w'.output = w.output ∧ Ev w (Lset M ρ H) w.heap.size ρ w' (Lset M ρ' H') w.heap.size ρ' ∧
      (∀ (id : Nat) (ob : Ob) (re : Re) (g : Nat), H'[id]? = some ob → ob.live = true → ρ'[id]? = some re → re.g = some g → w.heap.size ≤ g ∨ hand ρ H g) ∧ (∀ b, b < w.heap.size → ¬ hand ρ H b → w'.heap[b]? = w.heap[b]?)

section
variable {P : Program} {Γ : Ctx} {F : Fr} {H : List Ob} {Q : Exit → Fr → List Ob → Prop}
/-- How a value goes to such a function: as it is, or said to be less fresh. -/
inductive ArgM : V → V → Prop
  | same {y : V} (h : noFr y = true) : ArgM y y
  | n {fr : Bool} {k : IntKind} {l : List Int} : ArgM (.n fr k l) (.n false k l)
  | nil {k : IntKind} : ArgM (.c (.slice none 0 0)) (.n false k [])
  | l {fr : Bool} {sz : Nat} {es : List (List V)} : ArgM (.l fr sz es) (.l false sz es)
theorem ArgM.rel {w : World} {L : Nat → Prop} {B B' : Nat} {ρ : List Re} {y z : V} (h : ArgM y z) {v : Value} (r : Rel w L B ρ y v) : Rel w L B' ρ z v := by
  cases h with
  | same h => exact rel_B _ _ h r
  | n => obtain ⟨A, c, e, h1, h2, h3⟩ := r; exact ⟨A, c, e, h1, h2, fun hl => by obtain ⟨ad, e1, hb, hc⟩ := h3 hl; exact ⟨ad, e1, ⟨hb.1, hb.2.1, by simp⟩, hc⟩⟩
  | nil => rw [show v = .slice none 0 0 from r]; exact rel_nil
  | l => obtain ⟨A, c, e, h1, h2, h3⟩ := r; exact ⟨A, c, e, h1, h2, fun hl => by obtain ⟨ad, e1, hb, hc⟩ := h3 hl; exact ⟨ad, e1, ⟨hb.1, hb.2.1, by simp⟩, hc⟩⟩
def ArgML : List V → List V → Prop
  | [], zs => zs = []
  | y :: ys, zs => ∃ z zs', zs = z :: zs' ∧ ArgM y z ∧ ArgML ys zs'
theorem ArgML.nil : ArgML [] [] := rfl
theorem ArgML.cons {y z : V} {ys zs : List V} (h : ArgM y z) (hs : ArgML ys zs) : ArgML (y :: ys) (z :: zs) := ⟨z, zs, rfl, h, hs⟩
theorem ArgML.rel {w : World} {L : Nat → Prop} {B B' : Nat} {ρ : List Re} : ∀ {ys zs : List V} (us : List Value), ArgML ys zs → RelL w L B ρ ys us → RelL w L B' ρ zs us
  | [], zs, us, h, hr => by rw [show zs = [] from h]; exact hr
  | y :: ys, zs, us, ⟨z, zs', e, h1, h2⟩, ⟨u, us', e2, h3, h4⟩ => by rw [e]; exact ⟨u, us', e2, h1.rel h3, h2.rel us' h4⟩
/-- A call that hands all own objects over. -/
theorem wp_callM {f : FuncId} {fn : Func} {dst : Option Tmp} {T : TypeId} {ps : String} {af : Array Edge} {g : Option (Nat × Bool)} {c : Operand} {args : Array Operand} {ts : Array TypeId} {ys zs : List V} {post : Out → List Ob → Prop}
    (hc : ovO F c = some (.f f [])) (hf : P.funcs[f]? = some fn) (hb : fn.body.isSome = true) (hn : (fn.name == "runtime.NumGoroutine") = false) (hx : ovL F args.toList ys) (ha : ArgML ys zs) (hfl : freshless H) (hs : SpecM P f zs H post) {ρ : List Re} {a : Act} {w : World} (s : StA Γ ρ F H a w) {K : Act → World → Prop} {R : Exit → Act → World → Prop}
    (k : ∀ y v w' H' ρ', post (.ret y) H' → Rel w' (Lset Γ.M ρ' H') Γ.w0.heap.size ρ' y v → StA Γ ρ' F H' a w' → K (a.put dst v) w')
    (kp : ∀ ch w' H' ρ', post (.pan ch) H' → StA Γ ρ' F H' a w' → R (.panic ch) a w') :
    (⟨dst, .call { callee := .value c, args := args, argTypes := ts }, T, ps, af, g⟩ : Oper).wp P a w K R := by
  obtain ⟨us0, hcv, hcr⟩ := s.ov hc
  have hus0 : us0 = [] := hcr
  subst hus0
  have hr := s.ovL hx
  have hargs : args.map a.eval = (args.toList.map a.eval).toArray := by apply Array.ext'; rw [Array.toList_map]
  have hMlt : ∀ b, Γ.M b → b < w.heap.size := fun b h => Nat.lt_of_lt_of_le (s.fro.old b h) s.fro.size
  have hcall := hs Γ.M w ρ (args.toList.map a.eval) hMlt (s.hr.toB hfl) (ha.rel _ hr)
  have hrun : (execOp a.eval ⟨dst, .call { callee := .value c, args := args, argTypes := ts }, T, ps, af, g⟩).run P w = .ok (.enter f (args.toList.map a.eval).toArray) w := by
    have hb' : ¬ fn.body = none := by intro h; rw [h] at hb; cases hb
    have hn' : ¬ fn.name = "runtime.NumGoroutine" := by simpa using hn
    simp [execOp, resolve, hcv, Deferred.ofValue, invoke, callFunc, program, Sem.run, hf]
    rw [if_neg hn', if_neg hb', hargs]
  unfold Oper.wp
  rw [hrun]
  show Calls P f _ w _
  refine hcall.mono fun e w' ⟨o, H', ρ', h1, h2, h3, h4, h5, h6, ev, h8, h9⟩ => ?_
  have ev' : Ev w (Lset Γ.M ρ H) Γ.w0.heap.size ρ w' (Lset Γ.M ρ' H') Γ.w0.heap.size ρ' := ⟨ev.size, ev.blk, ev.lv, Nat.le_refl _, ev.rho⟩
  have s' : StA Γ ρ' F H' a w' := by
    refine ⟨h3.leB s.fro.size, s.n, s.ds, fun t => (s.fr t).ev ev', ⟨h4.trans s.fro.os, h5.trans s.fro.tape, h6.trans s.fro.output, Nat.le_trans s.fro.size ev.size, fun b hlt hnl => ?_, s.fro.old, fun i o r g k1 k2 k3 k4 => ?_, fun i r hi => ?_⟩⟩
    · rw [h9 b (Nat.lt_of_lt_of_le hlt s.fro.size) (by
        rintro ⟨i, o, r, k1, k2, k3, k4⟩
        rcases s.fro.mine i o r b k1 k2 k3 k4 with h | h
        · omega
        · exact hnl h)]
      exact s.fro.blk b hlt hnl
    · rcases h8 i o r g k1 k2 k3 k4 with h | ⟨i', o', r', k1', k2', k3', k4'⟩
      · exact .inl (Nat.le_trans s.fro.size h)
      · exact s.fro.mine i' o' r' g k1' k2' k3' k4'
    · obtain ⟨r1, e1, e2, e3⟩ := s.fro.rho i r hi
      obtain ⟨r2, f1, f2, f3⟩ := ev.rho i r1 e1
      refine ⟨r2, f1, Nat.le_trans e2 f2, fun e => ?_⟩
      have hv1 : r.ver = r1.ver := by omega
      have : r1 = r := e3 hv1
      subst this
      exact f3 e
  cases o with
  | ret y =>
    obtain ⟨v, rfl, hr'⟩ := h2
    exact k y v w' H' ρ' h1 (rel_Ble s.fro.size y v hr') s'
  | pan ch =>
    have : e = .panicked ch := h2
    subst this
    exact kp ch w' H' ρ' h1 s'
theorem jo_callM {f : FuncId} (fn : Func) {ops : Array Oper} {rest : List Oper} {d : Nat} {T : TypeId} {ps : String} {af : Array Edge} {args : Array Operand} {ts : Array TypeId} {c : Operand} {ys zs : List V} {post : Out → List Ob → Prop}
    (hs : SpecM P f zs H post) (hc : ovO F c = some (.f f [])) (hf : P.funcs[f]? = some fn) (hb : fn.body.isSome = true) (hn : (fn.name == "runtime.NumGoroutine") = false) (hx : ovL F args.toList ys) (ha : ArgML ys zs) (hfl : freshless H) (hd : d < Γ.N)
    (k : ∀ y H', post (.ret y) H' → JO P ops rest Γ ((d, y) :: F) H' Q) (kp : ∀ ch H', post (.pan ch) H' → Q (.panic ch) F H') :
    JO P ops (⟨some d, .call { callee := .value c, args := args, argTypes := ts }, T, ps, af, none⟩ :: rest) Γ F H Q := fun a w ⟨ρ, s⟩ =>
  wpList_plain rfl fun K hK => wp_callM hc hf hb hn hx ha hfl hs s (fun y v w' H' ρ' h1 h2 h4 => hK _ _ (k y H' h1 _ _ ⟨ρ', h4.put hd h2⟩)) (fun ch w' H' ρ' h1 h3 => ⟨F, H', kp ch H' h1, ρ', h3⟩)
theorem freshless_nil : freshless [] := fun _ h => by simp at h
theorem freshless_cons {ob : Ob} {H : List Ob} (h : ob.cs.all noFr = true) (hs : freshless H) : freshless (ob :: H) := fun o ho hl y hy => by
  rcases List.mem_cons.1 ho with rfl | ho
  · exact List.all_eq_true.1 h y hy
  · exact hs o ho hl y hy
theorem ints_noFr {k : IntKind} {l : List Int} : (ints k l).all noFr = true := by
  rw [List.all_eq_true]
  intro y hy
  obtain ⟨x, _, rfl⟩ := List.mem_map.1 hy
  rfl
/-- Objects from n on are left behind, n not below what was handed over. -/
theorem StA.cutn {ρ : List Re} {a : Act} {w : World} (n : Nat) (s : StA Γ ρ F H a w) (hO : ObsId n (H.take n)) (hΓ : Γ.ρ0.length ≤ n) : HR Γ.M w Γ.w0.heap.size (ρ.take n) (H.take n) ∧ Fro Γ (ρ.take n) (H.take n) w ∧ (∀ b, Lset Γ.M (ρ.take n) (H.take n) b → Lset Γ.M ρ H b) := by
  have at1 : ∀ (i : Nat) (o : Ob), (H.take n)[i]? = some o → i < n ∧ H[i]? = some o := fun i o h => by
    rw [List.getElem?_take] at h
    split at h
    · exact ⟨by assumption, h⟩
    · cases h
  have at2 : ∀ (i : Nat) (r : Re), (ρ.take n)[i]? = some r → ρ[i]? = some r := fun i r h => by
    rw [List.getElem?_take] at h
    split at h
    · exact h
    · cases h
  have lsub : ∀ b, Lset Γ.M (ρ.take n) (H.take n) b → Lset Γ.M ρ H b := by
    rintro b (h | ⟨i, o, r, h1, h2, h3, h4⟩)
    · exact .inl h
    · exact .inr ⟨i, o, r, (at1 i o h1).2, h2, at2 i r h3, h4⟩
  have ev : Ev w (Lset Γ.M ρ H) Γ.w0.heap.size (ρ.take n) w (Lset Γ.M (ρ.take n) (H.take n)) Γ.w0.heap.size (ρ.take n) :=
    ⟨Nat.le_refl _, fun _ _ _ => rfl, fun b _ hn h => hn (lsub b h), Nat.le_refl _, fun i r h => ⟨r, h, Nat.le_refl _, fun _ => rfl⟩⟩
  refine ⟨⟨by simp [s.hr.len], fun i o h1 h2 => ?_, fun i j oi oj ri rj g hij h1 h2 h3 h4 h5 h6 => s.hr.apart i j oi oj ri rj g hij (at1 i oi h1).2 h2 (at1 j oj h3).2 h4 (at2 i ri h5) (at2 j rj h6), fun i o r g h1 h2 h3 => s.hr.foreign i o r g (at1 i o h1).2 h2 (at2 i r h3)⟩,
    ⟨s.fro.os, s.fro.tape, s.fro.output, s.fro.size, s.fro.blk, s.fro.old, fun i o r g h1 h2 h3 => s.fro.mine i o r g (at1 i o h1).2 h2 (at2 i r h3), fun i r h => ?_⟩, lsub⟩
  · obtain ⟨hin, h1'⟩ := at1 i o h1
    obtain ⟨r, h3, h4⟩ := s.hr.ob i o h1' h2
    refine ⟨r, by rw [List.getElem?_take, if_pos hin]; exact h3, h4.ver, h4.sz, h4.nob, fun g hg => ?_⟩
    obtain ⟨cur, c1, c2, c3, c4, c5⟩ := h4.blk g hg
    exact ⟨cur, c1, c2, c3, c4, fun j y hy => by
      obtain ⟨u, d1, d2, d3⟩ := c5 j y hy
      exact ⟨u, d1, d2, (d3.cut y u (hO o (List.mem_of_getElem? h1) h2 y (List.mem_of_getElem? hy))).ev ev⟩⟩
  · obtain ⟨re', e1, e2, e3⟩ := s.fro.rho i r h
    have : i < n := Nat.lt_of_lt_of_le (List.getElem?_eq_some_iff.1 h).1 hΓ
    exact ⟨re', by rw [List.getElem?_take, if_pos this]; exact e1, e2, e3⟩
/-- What a body has to show where it ends. -/
def qRetM (P : Program) (fn : Func) (n : Nat) (post : Out → List Ob → Prop) : Exit → Fr → List Ob → Prop
  | .ret, F, H | .normal, F, H => ∃ ys, ResL P F H fn.results.toList ys ∧ idB n (packV ys) = true ∧ ObsId n (H.take n) ∧ post (.ret (packV ys)) (H.take n)
  | .panic ch, _, H => ObsId n (H.take n) ∧ post (.pan ch) (H.take n)
  | _, _, _ => False
/-- A contract over objects that are handed over, from its body. -/
theorem specM_of {f : FuncId} {fn : Func} {c : Code} {args : List V} {H0 : List Ob} {post : Out → List Ob → Prop} (F0 : Fr) (h0 : ((args.zipIdx 0).map fun p => (p.2, p.1)) = F0) (n : Nat) (hn0 : H0.length = n) (hf : P.funcs[f]? = some fn) (hb : fn.body = some c) (hn : args.length ≤ fn.ntmps)
    (h : ∀ Γ : Ctx, Γ.N = fn.ntmps → Γ.ds = [] → JC P c Γ F0 H0 (qRetM P fn n post)) : SpecM P f args H0 post := fun M w ρ vals hM hR hr => by
  subst h0
  subst hn0
  refine calls_of_wp hf hb ?_
  have hlen : vals.length = args.length := (relL_one args vals hr).1
  let Γ : Ctx := ⟨fn.ntmps, w, M, ρ, hand ρ H0, []⟩
  have s : StA Γ ρ ((args.zipIdx 0).map fun p => (p.2, p.1)) H0 ⟨vals.toArray ++ Array.replicate (fn.ntmps - vals.toArray.size) undef, []⟩ w := by
    refine ⟨hR, ?_, rfl, fun t => ?_, ⟨rfl, rfl, rfl, Nat.le_refl _, fun _ _ _ => rfl, hM, fun i o r g h1 h2 h3 h4 => .inr ⟨i, o, r, h1, h2, h3, h4⟩, fun i r h => ⟨r, h, Nat.le_refl _, fun _ => rfl⟩⟩⟩
    · show fn.ntmps ≤ (vals.toArray ++ Array.replicate (fn.ntmps - vals.toArray.size) undef).size
      simp; omega
    · have look : ∀ (ys : List V) (k t : Nat), getO ((ys.zipIdx k).map fun p => (p.2, p.1)) t = if k ≤ t then ys[t - k]? else none := by
        intro ys
        induction ys with
        | nil => intro k t; simp [getO]
        | cons y ys ih =>
          intro k t
          simp only [List.zipIdx_cons, List.map_cons, getO]
          cases hb : Nat.beq t k
          · have hne : t ≠ k := by intro e; subst e; simp at hb
            rw [ih (k + 1) t]
            by_cases h1 : k ≤ t
            · rw [if_pos h1, if_pos (by omega), show t - k = (t - (k + 1)) + 1 by omega]; rfl
            · rw [if_neg h1, if_neg (by omega)]; rfl
          · have := Nat.eq_of_beq_eq_true hb
            subst this
            simp
      unfold get
      rw [look args 0 t, if_pos (Nat.zero_le _), Nat.sub_zero]
      cases ht : args[t]? with
      | none => exact trivial
      | some y =>
        obtain ⟨u, hu, hru⟩ := relL_at args vals t y hr ht
        have hlt : t < vals.length := (List.getElem?_eq_some_iff.1 hu).1
        have e : ((vals.toArray ++ Array.replicate (fn.ntmps - vals.toArray.size) undef).getD t undef) = u := by
          rw [Array.getD_eq_getD_getElem?, Array.getElem?_append_left (by simpa using hlt)]
          simp [hu]
        show Rel w (Lset M ρ H0) w.heap.size ρ y ((vals.toArray ++ Array.replicate (fn.ntmps - vals.toArray.size) undef).getD t undef)
        rw [e]
        exact hru
  have hΓlen : Γ.ρ0.length ≤ H0.length := by show ρ.length ≤ _; rw [hR.len]; exact Nat.le_refl _
  have fin : ∀ (F : Fr) (H : List Ob) (ρ1 : List Re) (a : Act) (w' : World), StA Γ ρ1 F H a w' → ObsId H0.length (H.take H0.length) →
      HR M w' w.heap.size (ρ1.take H0.length) (H.take H0.length) ∧ w'.os = w.os ∧ w'.tape = w.tape ∧ w'.output = w.output ∧ Ev w (Lset M ρ H0) w.heap.size ρ w' (Lset M (ρ1.take H0.length) (H.take H0.length)) w.heap.size (ρ1.take H0.length) ∧
      (∀ (id : Nat) (ob : Ob) (re : Re) (g : Nat), (H.take H0.length)[id]? = some ob → ob.live = true → (ρ1.take H0.length)[id]? = some re → re.g = some g → w.heap.size ≤ g ∨ hand ρ H0 g) ∧ (∀ b, b < w.heap.size → ¬ hand ρ H0 b → w'.heap[b]? = w.heap[b]?) := by
    intro F H ρ1 a w' s' hO
    obtain ⟨c1, c2, c3⟩ := s'.cutn H0.length hO hΓlen
    refine ⟨c1, c2.os, c2.tape, c2.output, ⟨c2.size, fun b hlt hL => c2.blk b hlt fun hh => hL (.inr hh), fun b hlt hL hL' => ?_, Nat.le_refl _, c2.rho⟩, fun i o r g h1 h2 h3 h4 => c2.mine i o r g h1 h2 h3 h4, fun b hlt hh => c2.blk b hlt hh⟩
    rcases hL' with hM' | ⟨i, o, r, h1, h2, h3, h4⟩
    · exact hL (.inl hM')
    · rcases c2.mine i o r b h1 h2 h3 h4 with h | h
      · have h' : w.heap.size ≤ b := h
        omega
      · exact hL (.inr h)
  refine Code.wp_mono (fun e a w' ⟨F, H, q, ρ1, s'⟩ => ?_) (h Γ rfl rfl _ _ ⟨_, s⟩)
  have fin2 : ∀ ys, ResL P F H fn.results.toList ys → idB H0.length (packV ys) = true → ObsId H0.length (H.take H0.length) → post (.ret (packV ys)) (H.take H0.length) → a.defers = [] ∧ ∃ v, (Go.results fn a.tmps).run P w' = .ok v w' ∧ ∃ o H' ρ', post o H' ∧ EndRelM w' (Lset M ρ' H') w.heap.size ρ' o (.returned v) ∧ HR M w' w.heap.size ρ' H' ∧
      w'.os = w.os ∧ w'.tape = w.tape ∧ w'.output = w.output ∧ Ev w (Lset M ρ H0) w.heap.size ρ w' (Lset M ρ' H') w.heap.size ρ' ∧
      (∀ (id : Nat) (ob : Ob) (re : Re) (g : Nat), H'[id]? = some ob → ob.live = true → ρ'[id]? = some re → re.g = some g → w.heap.size ≤ g ∨ hand ρ H0 g) ∧ (∀ b, b < w.heap.size → ¬ hand ρ H0 b → w'.heap[b]? = w.heap[b]?) := by
    intro ys h1 h2 h3 h4
    obtain ⟨v, hv, hr'⟩ := s'.results h1
    obtain ⟨f1, f2, f3, f4, f5, f6, f7⟩ := fin F H ρ1 a w' s' h3
    have hcut := hr'.cut (n := H0.length) (packV ys) v h2
    have hl : Rel w' (Lset M (ρ1.take H0.length) (H.take H0.length)) w.heap.size (ρ1.take H0.length) (packV ys) v :=
      hcut.ev ⟨Nat.le_refl _, fun _ _ _ => rfl, fun b _ hn hh => hn ((s'.cutn H0.length h3 hΓlen).2.2 b hh), Nat.le_refl _, fun i r h => ⟨r, h, Nat.le_refl _, fun _ => rfl⟩⟩
    exact ⟨s'.ds, v, hv, .ret (packV ys), _, _, h4, ⟨v, rfl, hl⟩, f1, f2, f3, f4, f5, f6, f7⟩
  cases e with
  | normal => obtain ⟨ys, h1, h2, h3, h4⟩ := q; exact fin2 ys h1 h2 h3 h4
  | ret => obtain ⟨ys, h1, h2, h3, h4⟩ := q; exact fin2 ys h1 h2 h3 h4
  | panic ch =>
    obtain ⟨h3, h4⟩ := q
    obtain ⟨f1, f2, f3, f4, f5, f6, f7⟩ := fin F H ρ1 a w' s' h3
    exact ⟨s'.ds, .pan ch, _, _, h4, rfl, f1, f2, f3, f4, f5, f6, f7⟩
  | _ => exact absurd q (by simp [qRetM])
end
end Go.Proofs.Ytcdipmjgpimmdaa.Vc

/- The calculus, fifteenth part: pointers compared, pointers made unsafe and back, what strings.Builder needs. -/
set_option linter.unusedVariables false
set_option linter.unusedSimpArgs false
namespace Go.Proofs.Ytcdipmjgpimmdaa.Vc
open Go Go.RowKit
section
variable {P : Program} {Γ : Ctx} {F : Fr} {H : List Ob} {Q : Exit → Fr → List Ob → Prop}

theorem run_eqptr {T E : Nat} (hT : P.underlying T = some (.pointer E)) (v : Option Addr) (w : World) : (binOp .eql T (.pointer v) (.pointer none)).run P w = .ok (.bool v.isNone) w := by
  have h : ∀ d : Nat, (Op.equalIn (d + 1) T (.pointer v) (.pointer none)).run P w = .ok v.isNone w := fun d => by
    cases v <;> simp [Op.equalIn, run_underlying hT]
  simp only [binOp]
  simp [Op.equal, Op.maxDepth, h 9999]
theorem run_eqgp {op : BinOp} {T : Nat} {x y : Operand} {u v : Option Addr} (w : World) : (eqGuard op T x y (.pointer u) (.pointer v)).run P w = .ok () w := by
  unfold eqGuard
  cases op <;> simp
theorem ly_eqp0 {x : Operand} {T T' E id ver off t sz : Nat} {cs : List V} (hT : P.underlying T = some (.pointer E)) (hx : ovO F x = some (.p id ver off)) (hH : H[id]? = some ⟨t, sz, ver, true, cs⟩) : LY P Γ (.binOp .eql T x (.const (.pointer none)) T') F H (.b false) := fun ρ a w s => by
  obtain ⟨re, g, ow, hg, hv⟩ := s.ptr hx hH
  refine ⟨.bool false, rfl, fun _ _ _ _ _ w' _ => ?_⟩
  have e1 : (do eqGuard .eql T x (.const (.pointer none)) (a.eval x) (a.eval (.const (.pointer none))); binOp .eql T (a.eval x) (a.eval (.const (.pointer none))) : Sem Value).run P w' = .ok (.bool false) w' := by
    have e0 : a.eval (.const (.pointer none)) = .pointer none := rfl
    rw [hv, e0, Sem.run_bind, run_eqgp]
    exact run_eqptr hT _ _
  exact run_v e1
theorem ly_eqn0 {x : Operand} {T T' E : Nat} (hT : P.underlying T = some (.pointer E)) (hx : ovO F x = some (.c (.pointer none))) : LY P Γ (.binOp .eql T x (.const (.pointer none)) T') F H (.b true) := fun ρ a w s => by
  refine ⟨.bool true, rfl, fun _ _ _ _ _ w' _ => ?_⟩
  have e1 : (do eqGuard .eql T x (.const (.pointer none)) (a.eval x) (a.eval (.const (.pointer none))); binOp .eql T (a.eval x) (a.eval (.const (.pointer none))) : Sem Value).run P w' = .ok (.bool true) w' := by
    have e0 : a.eval (.const (.pointer none)) = .pointer none := rfl
    rw [eval_c s hx, e0, Sem.run_bind, run_eqgp]
    exact run_eqptr hT _ _
  exact run_v e1
theorem hy_tou {T T' t e id ver off sz : Nat} {x : Operand} {cs : List V} (hs : P.underlying T = some (.pointer t)) (hd : P.underlying T' = some .unsafePointer) (htj : (P.info? t).any (fun j => !Nat.beq j.size 0) = true)
    (hx : ovO F x = some (.p id ver off)) (hH : H[id]? = some ⟨e, sz, ver, true, cs⟩) (hoff : off < cs.length) : HY P Γ (.convert T T' x) F H (.p id ver off) H := fun ρ a w s => by
  obtain ⟨re, g, ow, hg, hv⟩ := s.ptr hx hH
  obtain ⟨cur, c1, c2, c3, c4, c5⟩ := ow.ok.blk g hg
  have hc3 : cs.length ≤ cur.size := c3
  obtain ⟨j, ht, hj⟩ : ∃ j, P.info? t = some j ∧ j.size ≠ 0 := by
    cases h : P.info? t with
    | none => rw [h] at htj; simp at htj
    | some j => rw [h] at htj; exact ⟨j, rfl, fun e => by rw [Option.any_some, e] at htj; simp at htj⟩
  refine ⟨a.eval x, w, ρ, s.ov hx, s, Ext.refl w, fun _ _ _ _ _ => ?_⟩
  have e1 : (convert T T' (a.eval x)).run P w = .ok (a.eval x) w := by
    rw [hv]
    exact Lib.run_to_unsafe w ⟨g, off, none⟩ hs hd ht hj (e := e) (cells := cur.size) (by simp [World.shape?, c1]) (by show off < cur.size; omega)
  exact run_v e1
theorem hy_ofu {T T' u e id ver off sz ce : Nat} {x : Operand} {cs : List V} (hs : P.underlying T = some .unsafePointer) (hd : P.underlying T' = some (.pointer u)) (huj : (P.info? u).isSome = true)
    (hx : ovO F x = some (.p id ver off)) (hH : H[id]? = some ⟨e, sz, ver, true, cs⟩) (hce : P.cellsOf e = ce) (hlies : ∀ c, liesAt P P.depth e (c + 1) off u 1 = true) (h0 : 0 < ce) (hle : ce ≤ cs.length) : HY P Γ (.convert T T' x) F H (.p id ver off) H := fun ρ a w s => by
  obtain ⟨re, g, ow, hg, hv⟩ := s.ptr hx hH
  obtain ⟨cur, c1, c2, c3, c4, c5⟩ := ow.ok.blk g hg
  have hc3 : cs.length ≤ cur.size := c3
  obtain ⟨j, hu⟩ := Option.isSome_iff_exists.1 huj
  refine ⟨a.eval x, w, ρ, s.ov hx, s, Ext.refl w, fun _ _ _ _ _ => ?_⟩
  have e1 : (convert T T' (a.eval x)).run P w = .ok (a.eval x) w := by
    rw [hv]
    have hq : 1 ≤ cur.size / ce := (Nat.le_div_iff_mul_le h0).2 (by omega)
    exact Lib.run_from_unsafe w ⟨g, off, none⟩ hs hd hu (e := e) (cells := cur.size) (by simp [World.shape?, c1]) (by rw [hce]; have := hlies (cur.size / ce - 1); rwa [Nat.sub_add_cancel hq] at this)
  exact run_v e1
theorem run_neqptr {T E : Nat} {j : TypeInfo} (hT : P.underlying T = some (.pointer E)) (hj : P.info? E = some j) (v : Addr) (w : World) : (binOp .neq T (.pointer (some v)) (.pointer (some v))).run P w = .ok (.bool false) w := by
  have h : ∀ d : Nat, (Op.equalIn (d + 1) T (.pointer (some v)) (.pointer (some v))).run P w = .ok true w := fun d => by
    simp [Op.equalIn, run_underlying hT, sizeOf, typeInfo, hj, run_sameAddr_same]
  simp only [binOp]
  simp [Op.equal, Op.maxDepth, h 9999]
theorem ly_nepp {x y : Operand} {T T' E id ver off t sz : Nat} {cs : List V} (hT : P.underlying T = some (.pointer E)) (hjs : (P.info? E).isSome = true) (hx : ovO F x = some (.p id ver off)) (hy : ovO F y = some (.p id ver off)) (hH : H[id]? = some ⟨t, sz, ver, true, cs⟩) : LY P Γ (.binOp .neq T x y T') F H (.b false) := fun ρ a w s => by
  obtain ⟨re, g, ow, hg, hv⟩ := s.ptr hx hH
  obtain ⟨re', g', ow', hg', hv'⟩ := s.ptr hy hH
  obtain ⟨j, hj⟩ := Option.isSome_iff_exists.1 hjs
  have e : re' = re := by have := ow'.at_.symm.trans ow.at_; injection this
  subst e
  have e2 : g' = g := by rw [hg] at hg'; injection hg' with h; exact h.symm
  subst e2
  refine ⟨.bool false, rfl, fun _ _ _ _ _ w' _ => ?_⟩
  have e1 : (do eqGuard .neq T x y (a.eval x) (a.eval y); binOp .neq T (a.eval x) (a.eval y) : Sem Value).run P w' = .ok (.bool false) w' := by
    rw [hv, hv', Sem.run_bind, run_eqgp]
    exact run_neqptr hT hj _ _
  exact run_v e1
/-- A function of the run-time that hands its argument back. -/
theorem hy_ext1 {f : FuncId} {fn : Func} {e : Array Value → Sem Value} {x : Operand} {ts : Array TypeId} {y : V} (hf : P.funcs[f]? = some fn) (hname : (fn.name == "runtime.NumGoroutine") = false)
    (hb : fn.body.isNone = true) (hn : Extern.findNext fn = none) (he : Extern.find fn = some e) (hrun : ∀ v w, (e #[v]).run P w = .ok v w) (hx : ovO F x = some y) :
    HY P Γ (.call { callee := .value (.func f), args := #[x], argTypes := ts }) F H y H := fun ρ a w s => by
  refine ⟨a.eval x, w, ρ, s.ov hx, s, Ext.refl w, fun _ _ _ _ _ => ?_⟩
  have e0 : a.eval (.func f) = .func (.func f) #[] #[] := rfl
  simp [execOp, resolve, e0, Deferred.ofValue, invoke]
  rw [run_callFunc_extern hf hname hb hn he]
  simp [hrun]
theorem sy_appG {T E sz m id ver len : Nat} {x y : Operand} {ts : Array TypeId} {zs cs : List V} (hx : ovO F x = some (.o id ver 0 len)) (hH : H[id]? = some ⟨E, sz, ver, true, cs⟩) (hcs : cs.length = len * sz) (hzl : zs.length = m * sz)
    (happ : ∀ ρ a w, StA Γ ρ F H a w → ∀ v xs, w.ownsRow 0 E sz v len xs → ∃ us v' w', (Builtin.append_ ts 0 #[v, a.eval y]).run P w = .ok v' w' ∧ w'.ownsRow 0 E sz v' (len + m) (xs ++ us) ∧ w.grownBy w' v.ownBlock ∧ (v'.ownBlock = v.ownBlock ∨ ∃ g, v'.ownBlock = some g ∧ w.heap.size ≤ g) ∧ (∀ u ∈ us, u.oneCell' = true) ∧ (∀ (j : Nat) (y : V), zs[j]? = some y → ∃ u, us[j]? = some u ∧ Rel w (Lset Γ.M ρ H) Γ.w0.heap.size ρ y u)) :
    ∀ ρ a w, StA Γ ρ F H a w → ∃ v w' ρ', Rel w' (Lset Γ.M ρ' (H.set id ⟨E, sz, ver + 1, true, cs ++ zs⟩)) Γ.w0.heap.size ρ' (.o id (ver + 1) 0 (len + m)) v ∧ StA Γ ρ' F (H.set id ⟨E, sz, ver + 1, true, cs ++ zs⟩) a w' ∧
      ∀ (dst : Option Tmp) (type : TypeId) (pos : String) (after : Array Edge) (g : Option (Nat × Bool)), (execOp a.eval ⟨dst, .call { callee := .builtin .append, args := #[x, y], argTypes := ts }, type, pos, after, g⟩).run P w = .ok (.value v) w' := fun ρ a w s => by
  obtain ⟨re, o⟩ := s.own hH rfl
  obtain ⟨re0, e1, hle, hp⟩ := s.ov hx
  obtain rfl : re0 = re := by have := e1.symm.trans o.at_; injection this
  obtain ⟨hcap, hq⟩ := hp (o.ok.ver.symm)
  have hszr : re0.sz = sz := o.ok.sz
  have hverr : re0.ver = ver := o.ok.ver
  -- the row as it stands
  have hrow : ∃ xs : List Value, w.ownsRow 0 E sz (a.eval x) len xs ∧ (∀ (j : Nat) (y : V), cs[j]? = some y → ∃ u, xs[j]? = some u ∧ u.oneCell' = true ∧ Rel w (Lset Γ.M ρ H) Γ.w0.heap.size ρ y u) ∧ (a.eval x).ownBlock = re0.g := by
    rcases hq with ⟨g, ad, hg, hv0, had⟩ | ⟨hg, hv0, _, hl0⟩
    · obtain ⟨cur, c1, c2, c3, c4, c5⟩ := o.ok.blk g hg
      have hc3 : cs.length ≤ cur.size := c3
      have hc2 : cur.size = re0.cap * sz := c2
      refine ⟨cur.toList.take (len * sz), ?_, ?_, ?_⟩
      · refine ⟨by simp; omega, ?_⟩
        exact .inr ⟨g, re0.cap, cur, by rw [hv0, had (by omega)]; simp, Nat.zero_le _, c1, by omega, c4, hc2, rfl⟩
      · intro j y hy
        obtain ⟨u, d1, d2, d3⟩ := c5 j y hy
        refine ⟨u, ?_, d2, d3⟩
        have hj : j < cs.length := (List.getElem?_eq_some_iff.1 hy).1
        rw [List.getElem?_take, if_pos (by omega)]; simpa using d1
      · rw [hv0, had (by omega), hg]; rfl
    · subst hl0
      have h0 : cs = [] := List.eq_nil_of_length_eq_zero (by simpa using hcs)
      subst h0
      exact ⟨[], by rw [hv0]; exact World.ownsRow_nil w 0 E sz, by simp, by rw [hv0, hg]; rfl⟩
  obtain ⟨xs, hown0, hxs, hblk⟩ := hrow
  obtain ⟨us, v', w', hrun, hown, hgr, hat, k2, k4⟩ := happ ρ a w s _ _ hown0
  obtain ⟨re', e1', e2, e3, e4, e5, e6, e7⟩ := row_entry hown (ver + 1)
  have hxl : xs.length = cs.length := by rw [hown0.1, hcs]
  rw [hblk] at hgr hat
  refine ⟨v', w', ρ.set id re', ⟨re', by rw [List.getElem?_set]; simp [(List.getElem?_eq_some_iff.1 o.at_).1], by omega, fun _ => ⟨by omega, e5⟩⟩,
    s.update (ob' := ⟨E, sz, ver + 1, true, cs ++ zs⟩) hH rfl o.at_ hgr rfl e1' e2 (by omega) (fun h => by omega) ?_ (fun h => ?_) (fun g hg => ?_), fun dst type pos after g => ?_⟩
  · rcases hat with h | h
    · exact .inl (by rw [e3, h])
    · obtain ⟨g, h, hg⟩ := h
      exact .inr ⟨g, by rw [e3, h], hg⟩
  · obtain ⟨f1, f2, _⟩ := e6 h
    refine ⟨List.eq_nil_of_length_eq_zero ?_, f2⟩
    show (cs ++ zs).length = 0
    rw [List.length_append, hcs, hzl, ← Nat.add_mul, f1, Nat.zero_mul]
  · obtain ⟨cur, f1, f2, f3, f4, f5⟩ := e7 g hg
    refine ⟨cur, f1, f2, by show (cs ++ zs).length ≤ _; rw [List.length_append, hcs, hzl, ← Nat.add_mul]; exact f4, f3, fun j y hy => ?_⟩
    have hy' : (cs ++ zs)[j]? = some y := hy
    rcases Nat.lt_or_ge j cs.length with hlt | hge
    · rw [List.getElem?_append_left hlt] at hy'
      obtain ⟨u, g1, g2, g3⟩ := hxs j y hy'
      exact ⟨u, f5 j u (by rw [List.getElem?_append_left (by omega)]; exact g1), g2, g3⟩
    · rw [List.getElem?_append_right hge] at hy'
      obtain ⟨u, g1, g2⟩ := k4 _ y hy'
      exact ⟨u, f5 j u (by rw [List.getElem?_append_right (by omega), hxl]; exact g1), k2 u (List.mem_of_getElem? g1), g2⟩
  · exact run_builtin (b := .append) (ts := ts) (T := type) (a := a) (args := #[x, y]) (vs := [a.eval x, a.eval y]) (by simp) (fun ts t a_ => Builtin.append_ ts t a_) (fun _ _ => rfl) ((append_ty _ _ _ _).symm ▸ hrun) dst pos after g
/-- The bytes of a text. -/
def bytesI (s : ByteArray) : List Int := s.data.toList.map fun b => (b.toNat : Int)
theorem bytesI_len (s : ByteArray) : (bytesI s).length = s.size := by simp [bytesI]
theorem bytesI_app (s t : ByteArray) : bytesI (s ++ t) = bytesI s ++ bytesI t := by simp [bytesI, ByteArray.data_append]
/-- append of a text's bytes to an own row. -/
theorem sy_apps {T U E id ver len : Nat} {x y : Operand} {b : ByteArray} {l : List Int} (hT : elP P T E 1 1 (.int .u8 0)) (hU : P.underlying U = some .string) (hx : ovO F x = some (.o id ver 0 len)) (hH : H[id]? = some ⟨E, 1, ver, true, ints .u8 l⟩) (hcs : l.length = len) (hy : ovO F y = some (.s b))
    (hb : len + b.size ≤ 140737488355328) :
    ∀ ρ a w, StA Γ ρ F H a w → ∃ v w' ρ', Rel w' (Lset Γ.M ρ' (H.set id ⟨E, 1, ver + 1, true, ints .u8 l ++ ints .u8 (bytesI b)⟩)) Γ.w0.heap.size ρ' (.o id (ver + 1) 0 (len + b.size)) v ∧ StA Γ ρ' F (H.set id ⟨E, 1, ver + 1, true, ints .u8 l ++ ints .u8 (bytesI b)⟩) a w' ∧
      ∀ (dst : Option Tmp) (type : TypeId) (pos : String) (after : Array Edge) (g : Option (Nat × Bool)), (execOp a.eval ⟨dst, .call { callee := .builtin .append, args := #[x, y], argTypes := #[T, U] }, type, pos, after, g⟩).run P w = .ok (.value v) w' :=
  sy_appG (T := T) hx hH (by rw [ints_length, hcs, Nat.mul_one]) (by rw [ints_length, bytesI_len, Nat.mul_one]) fun ρ a w s v xs hown => by
    obtain ⟨i, hu, hi, hz, hs, hby, hzs, hpos⟩ := hT
    rw [eval_s s hy]
    have h63 : len + b.size ≤ maxLen := by unfold maxLen; omega
    obtain ⟨v', w', hrun, hown', hgr, hnil⟩ := Lib.run_append_own_string (P := P) w 0 T U 0 E i hu hU hi hz hs hby v len xs hown b h63 hb (Nat.zero_le _)
    refine ⟨Lib.strCells b, v', w', hrun, hown', hgr, ?_, Lib.strCells_oneCell b, fun j y hj => ?_⟩
    · rcases hown.2 with ⟨rfl, rfl⟩ | ⟨g, cap, cur, rfl, hbg, hg, hnc, hcm, hcs2, htake⟩
      · obtain ⟨v2, w2, hrun2, hown2, _, _⟩ := Lib.run_append_own_string (P := P) w w.heap.size T U 0 E i hu hU hi hz hs hby (.slice none 0 0) 0 xs ⟨hown.1, .inl ⟨rfl, rfl⟩⟩ b h63 hb (Nat.le_refl _)
        rw [hrun] at hrun2
        injection hrun2 with e1 e2
        subst e1
        rcases hown2.2 with ⟨h, _⟩ | ⟨g, cap, cur, h, hbg, _⟩
        · left; rw [h]
        · right; exact ⟨g, by rw [h]; rfl, hbg⟩
      · by_cases hroom : len + b.size ≤ cap
        · have hcs' : cur.size = cap := by simpa using hcs2
          have hr := Lib.run_append_room_string (P := P) w T U 0 E i hu hU hi hs g len cap cur hg b hroom (by omega)
          rw [hrun] at hr
          injection hr with e1 e2
          left; rw [e1]; rfl
        · have holds : ∀ j u, xs[j]? = some u → w.cell? ((⟨g, 0, none⟩ : Addr).add j) = some u := hown.cells (g := g) rfl
          have hr := Lib.run_append_grow_string (P := P) w T U 0 E i (.int .u8 0) hu hU hi hz ⟨g, 0, none⟩ len cap xs (by rw [hs]; simpa using hown.1) holds b (by omega) (by unfold maxLen at h63; omega) (by rw [hby]; exact growslice_fits (by omega) (by omega))
          rw [hrun] at hr
          injection hr with e1 e2
          right; exact ⟨w.heap.size, by rw [e1]; rfl, Nat.le_refl _⟩
    · rw [ints_at] at hj
      simp only [bytesI, List.getElem?_map] at hj
      cases hd : b.data.toList[j]? with
      | none => rw [hd] at hj; simp at hj
      | some c =>
        rw [hd] at hj
        simp at hj
        subst hj
        refine ⟨.int .u8 c.toNat, ?_, rfl⟩
        simp only [Lib.strCells, List.getElem?_map, hd, Option.map_some]
theorem jo_apps {ops : Array Oper} {rest : List Oper} {d T U E id ver len : Nat} {ty : TypeId} {ps : String} {af : Array Edge} {x y : Operand} {b : ByteArray} {l : List Int} (hT : elP P T E 1 1 (.int .u8 0)) (hU : P.underlying U = some .string) (hx : ovO F x = some (.o id ver 0 len)) (hH : H[id]? = some ⟨E, 1, ver, true, ints .u8 l⟩) (hcs : l.length = len) (hy : ovO F y = some (.s b))
    (hb : len + b.size ≤ 140737488355328) (hd : d < Γ.N) (j : JO P ops rest Γ ((d, .o id (ver + 1) 0 (len + b.size)) :: F) (H.set id ⟨E, 1, ver + 1, true, ints .u8 l ++ ints .u8 (bytesI b)⟩) Q) :
    JO P ops (⟨some d, .call { callee := .builtin .append, args := #[x, y], argTypes := #[T, U] }, ty, ps, af, none⟩ :: rest) Γ F H Q := fun a w ⟨ρ, s⟩ => by
  obtain ⟨v, w', ρ', r, s', hr⟩ := sy_apps hT hU hx hH hcs hy hb ρ a w s
  refine wpList_plain rfl fun K hK => ?_
  unfold Oper.wp
  rw [hr _ _ _ _ _]
  exact hK _ _ (j _ _ ⟨ρ', s'.put hd r⟩)
/-- What is said of an own object's cells, said otherwise. -/
theorem StA.recell {ρ : List Re} {a : Act} {w : World} (s : StA Γ ρ F H a w) {id t sz ver : Nat} {cs cs' : List V} (hH : H[id]? = some ⟨t, sz, ver, true, cs⟩) (hlen : cs'.length = cs.length)
    (h : ∀ (j : Nat) (y' : V), cs'[j]? = some y' → ∃ y, cs[j]? = some y ∧ ∀ u : Value, u.oneCell' = true → Rel w (Lset Γ.M ρ H) Γ.w0.heap.size ρ y u → Rel w (Lset Γ.M ρ H) Γ.w0.heap.size ρ y' u) : StA Γ ρ F (H.set id ⟨t, sz, ver, true, cs'⟩) a w := by
  have hlt : id < H.length := (List.getElem?_eq_some_iff.1 hH).1
  have look : ∀ (i : Nat) (o : Ob), (H.set id ⟨t, sz, ver, true, cs'⟩)[i]? = some o → ∃ o0, H[i]? = some o0 ∧ o0.live = o.live ∧ o0.ver = o.ver ∧ o0.sz = o.sz ∧ o0.t = o.t ∧ (i ≠ id → o0 = o) ∧ (i = id → o = ⟨t, sz, ver, true, cs'⟩ ∧ o0 = ⟨t, sz, ver, true, cs⟩) := by
    intro i o ho
    rcases set_some ho with ⟨rfl, rfl⟩ | ⟨hne, ho⟩
    · exact ⟨_, hH, rfl, rfl, rfl, rfl, fun h => absurd rfl h, fun _ => ⟨rfl, rfl⟩⟩
    · exact ⟨o, ho, rfl, rfl, rfl, rfl, fun _ => rfl, fun h => absurd h hne⟩
  have back : ∀ (i : Nat) (o : Ob), H[i]? = some o → ∃ o1, (H.set id ⟨t, sz, ver, true, cs'⟩)[i]? = some o1 ∧ o1.live = o.live := by
    intro i o ho
    by_cases e : id = i
    · subst e
      rw [hH] at ho; injection ho with ho; subst ho
      exact ⟨⟨t, sz, ver, true, cs'⟩, by rw [List.getElem?_set]; simp [hlt], rfl⟩
    · exact ⟨o, by rw [List.getElem?_set, if_neg e]; exact ho, rfl⟩
  have hL : Lset Γ.M ρ (H.set id ⟨t, sz, ver, true, cs'⟩) = Lset Γ.M ρ H := by
    funext b
    apply propext
    constructor
    · rintro (h | ⟨i, o, r, h1, h2, h3, h4⟩)
      · exact .inl h
      · obtain ⟨o0, k1, k2, _⟩ := look i o h1
        exact .inr ⟨i, o0, r, k1, by rw [k2]; exact h2, h3, h4⟩
    · rintro (h | ⟨i, o, r, h1, h2, h3, h4⟩)
      · exact .inl h
      · obtain ⟨o1, k1, k2⟩ := back i o h1
        exact .inr ⟨i, o1, r, k1, by rw [k2]; exact h2, h3, h4⟩
  refine ⟨⟨by simp [s.hr.len], fun i o h1 h2 => ?_, fun i j oi oj ri rj g hij h1 h2 h3 h4 => ?_, fun i o r g h1 h2 => ?_⟩, s.n, s.ds, fun t => by rw [hL]; exact s.fr t, ⟨s.fro.os, s.fro.tape, s.fro.output, s.fro.size, s.fro.blk, s.fro.old, fun i o r g h1 h2 => ?_, s.fro.rho⟩⟩
  · obtain ⟨o0, k1, k2, k3, k4, k5, k6, k7⟩ := look i o h1
    obtain ⟨r, h3, h4⟩ := s.hr.ob i o0 k1 (by rw [k2]; exact h2)
    by_cases e : i = id
    · obtain ⟨e1, e2⟩ := k7 e
      subst e1; subst e2
      refine ⟨r, h3, h4.ver, h4.sz, fun hg => ?_, fun g hg => ?_⟩
      · obtain ⟨f1, f2⟩ := h4.nob hg
        have f1' : cs = [] := f1
        exact ⟨List.eq_nil_of_length_eq_zero (by show cs'.length = 0; rw [hlen, f1']; rfl), f2⟩
      · obtain ⟨cur, c1, c2, c3, c4, c5⟩ := h4.blk g hg
        have c3' : cs.length ≤ cur.size := c3
        refine ⟨cur, c1, c2, by show cs'.length ≤ _; omega, c4, fun j y' hy' => ?_⟩
        obtain ⟨y, hy, hh⟩ := h j y' hy'
        obtain ⟨u, d1, d2, d3⟩ := c5 j y hy
        exact ⟨u, d1, d2, by rw [hL]; exact hh u d2 d3⟩
    · have e1 := k6 e
      subst e1
      rw [hL]
      exact ⟨r, h3, h4⟩
  · obtain ⟨o0, k1, k2, _⟩ := look i oi h1
    obtain ⟨o1, l1, l2, _⟩ := look j oj h3
    exact s.hr.apart i j o0 o1 ri rj g hij k1 (by rw [k2]; exact h2) l1 (by rw [l2]; exact h4)
  · obtain ⟨o0, k1, k2, _⟩ := look i o h1
    exact s.hr.foreign i o0 r g k1 (by rw [k2]; exact h2)
  · obtain ⟨o0, k1, k2, _⟩ := look i o h1
    exact s.fro.mine i o0 r g k1 (by rw [k2]; exact h2)
/-- A nil slice in a cell of an own object as an own row that is not born yet. -/
theorem jc_own0c {c : Code} {id t sz ver nid : Nat} {cs : List V} (j T sz2 : Nat) (hH : H[id]? = some ⟨t, sz, ver, true, cs⟩) (hj : cs[j]? = some (.c (.slice none 0 0))) (hid : H.length = nid)
    (k : JC P c Γ F ((H ++ [(⟨T, sz2, 0, true, []⟩ : Ob)]).set id (⟨t, sz, ver, true, cs.set j (.o nid 0 0 0)⟩ : Ob)) Q) : JC P c Γ F H Q := fun a w ⟨ρ, s⟩ => by
  have s' := s.born (re := ⟨none, 0, 0, sz2⟩) (ob := ⟨T, sz2, 0, true, []⟩) (w' := w) ⟨rfl, rfl, rfl, Nat.le_refl _, fun _ _ _ => rfl⟩ rfl rfl rfl (fun g h => by cases h) (fun _ => ⟨rfl, rfl⟩) (fun g h => by cases h)
  have hlt : id < H.length := (List.getElem?_eq_some_iff.1 hH).1
  have h2 := s'.recell (cs := cs) (cs' := cs.set j (.o nid 0 0 0)) (by rw [List.getElem?_append_left hlt]; exact hH) (by simp) ?_
  · exact k a w ⟨_, h2⟩
  intro i y' hy'
  rcases set_some hy' with ⟨rfl, rfl⟩ | ⟨hne, hy⟩
  · refine ⟨_, hj, fun u _ hu => ?_⟩
    have hu' : u = .slice none 0 0 := hu
    refine ⟨⟨none, 0, 0, sz2⟩, ?_, Nat.zero_le _, fun _ => ⟨Nat.le_refl _, .inr ⟨rfl, hu', rfl, rfl⟩⟩⟩
    rw [← hid, ← s.hr.len]
    simp
  · exact ⟨y', hy, fun u _ hu => hu⟩
end
theorem take2 (a b : Ob) (X : List Ob) : (a :: b :: X).take (X.length + 2) = a :: b :: X := by simp
theorem take2' (a b : Ob) (X L : List Ob) : (a :: b :: (X ++ L)).take (X.length + 2) = a :: b :: X := by simp
theorem look2 (a b c : Ob) (X : List Ob) : ((a :: b :: X) ++ [c])[X.length + 2]? = some c := by simp
end Go.Proofs.Ytcdipmjgpimmdaa.Vc

/- The calculus, last part: from a contract to what a row asks. -/
set_option linter.unusedVariables false
namespace Go.Proofs.Ytcdipmjgpimmdaa.Vc
open Go Go.RowKit Go.ChangeShapes Go.WideShapes Go.ChangeAt

theorem spec_calls {P : Program} {f : FuncId} {zs : List V} {vals : List Value} (h : Spec P f zs (fun o => o = .ret (.b true))) (w : World) (hr : RelL w (fun _ => False) w.heap.size [] zs vals) :
    Calls P f vals.toArray w fun e w' => e = .returned (.bool true) ∧ Below w.heap.size w w' :=
  (h (fun _ => False) w vals (fun _ h => h.elim) hr).mono fun e w' ⟨o, h1, h2, h3⟩ => by
    subst h1
    obtain ⟨v, rfl, hv⟩ := h2
    exact ⟨by rw [show v = .bool true from hv], h3⟩

theorem post_of_below {H : Type} {enc : TypeId × Value → H} {P : Program} {f : Func} {s : ChangeSpec} {apart fresh handsOn : Bool} {W W' : World} {args : Array Value} {v : Value} {ds gs : List (DataW H)} {before pa pv : List MemPlace}
    (hW : DataW.Whole enc P f.params.toList s.vars apart W args.toList ds gs before)
    (hres : ∀ (b : Nat) (sp : Nat → Bool) (hd : Bool), DataW.TrodAll enc P W' b sp hd f.resultTypes.toList (v.resultList f.resultTypes.size) (s.fn H (ds ++ gs)).results [])
    (hargs : ∀ sp : Nat → Bool, (∀ p ∈ before, sp p.block = true) → DataW.TrodAll enc P W' 0 sp true f.params.toList args.toList (s.fn H (ds ++ gs)).args pa)
    (hvars : ∀ sp : Nat → Bool, (∀ p ∈ before, sp p.block = true) → DataW.TrodVars enc P W' sp s.vars (s.fn H (ds ++ gs)).vars pv)
    (hps : before = pa ++ pv) (hb : Below W.heap.size W W') : s.post enc P f apart fresh handsOn false W args v W' := by
  have hold : ∀ p ∈ before, (fun b => decide (b < W.heap.size)) p.block = true := fun p hp => by simpa using hW.lt p hp
  refine ⟨ds, gs, before, [], pa, pv, hW, hres _ _ _, hargs _ hold, hvars _ hold, World.keptBut_mono (fun p hp => ⟨hp, ?_⟩) (hb.frame (· ∈ before)), fun h => by cases h⟩
  rw [hps, List.mem_append] at hp
  exact Or.inr hp
/-- What the bound gives of a text that is the first argument. -/
theorem short {H : Type} {s : ByteArray} {r : List (DataW H)} (hk : Rows.uptoSmall H (.lit (.string s.data.toList) :: r) = true) : s.size < 4294967296 := by
  have h : Rows.uptoBulkAll (DataW.lit (H := H) (.string s.data.toList) :: r) ≤ 1048576 := of_decide_eq_true hk
  simp only [Rows.uptoBulkAll, Rows.uptoBulk] at h
  have e : s.data.toList.length = s.size := by rw [Array.length_toList]; rfl
  omega
theorem short1 {H : Type} {s : ByteArray} {r : List (DataW H)} (hk : Rows.uptoSmall H (.lit (.string s.data.toList) :: r) = true) : s.size ≤ 1048576 := by
  have h : Rows.uptoBulkAll (DataW.lit (H := H) (.string s.data.toList) :: r) ≤ 1048576 := of_decide_eq_true hk
  simp only [Rows.uptoBulkAll, Rows.uptoBulk] at h
  have e : s.data.toList.length = s.size := by rw [Array.length_toList]; rfl
  omega
end Go.Proofs.Ytcdipmjgpimmdaa.Vc

/- The calculus: a text over the bytes of an own row. -/
set_option linter.unusedVariables false
set_option linter.unusedSimpArgs false
namespace Go.Proofs.Ytcdipmjgpimmdaa.Vc
open Go Go.RowKit
section
variable {P : Program} {Γ : Ctx} {F : Fr} {H : List Ob} {Q : Exit → Fr → List Ob → Prop}

/-- The address of the first element of an own row that is not empty. -/
theorem hy_usd {x : Operand} {ts : Array TypeId} {id ver len t sz : Nat} {cs : List V} (hx : ovO F x = some (.o id ver 0 len)) (hH : H[id]? = some ⟨t, sz, ver, true, cs⟩) (h0 : 0 < len) :
    HY P Γ (.call { callee := .builtin .unsafeSliceData, args := #[x], argTypes := ts }) F H (.p id ver 0) H := fun ρ a w s => by
  obtain ⟨re, o⟩ := s.own hH rfl
  obtain ⟨re', e1, hle, hq⟩ := s.ov hx
  obtain rfl : re' = re := by have := e1.symm.trans o.at_; injection this
  obtain ⟨hcap, ⟨g, ad, hg, hv, had⟩ | ⟨_, _, _, hl0⟩⟩ := hq (o.ok.ver.symm)
  · have had' := had (.inr rfl)
    rw [Nat.zero_mul] at had'
    refine ⟨.pointer (some ⟨g, 0, none⟩), w, ρ, ⟨re', e1, hle, fun _ => ⟨g, hg, rfl⟩⟩, s, Ext.refl w, fun dst U pos after gd => ?_⟩
    exact run_builtin (b := .unsafeSliceData) (vs := [a.eval x]) (by simp) (fun ts t a_ => Builtin.unsafeSliceData_ ts t a_) (fun _ _ => rfl) (by rw [hv, had']; exact Lib.run_unsafeSliceData_row w _ _ _ _ _ (by omega)) _ _ _ _
  · omega
/-- The address of the first element of an own row that is empty: any pointer. -/
theorem js_usd0 {ops : Array Oper} {R : Fr → List Ob → Prop} {d T E : Nat} {ps : String} {af : Array Edge} {x : Operand} {ts : Array TypeId} {id ver t sz : Nat} {cs : List V} (hT : P.underlying T = some (.pointer E)) (hx : ovO F x = some (.o id ver 0 0)) (hH : H[id]? = some ⟨t, sz, ver, true, cs⟩) (hd : d < Γ.N)
    (k : ∀ p, R ((d, .c (.pointer p)) :: F) H) : JS P ops Γ ⟨some d, .call { callee := .builtin .unsafeSliceData, args := #[x], argTypes := ts }, T, ps, af, none⟩ F H Q R := fun a w ⟨ρ, s⟩ => by
  have fin : ∀ p w', Below w.heap.size w w' → (Builtin.unsafeSliceData_ ts T #[a.eval x]).run P w = .ok (.pointer p) w' → Region.wanted (⟨some d, .call { callee := .builtin .unsafeSliceData, args := #[x], argTypes := ts }, T, ps, af, none⟩ : Oper) (yielded ops a.tmps) = true ∧
      (⟨some d, .call { callee := .builtin .unsafeSliceData, args := #[x], argTypes := ts }, T, ps, af, none⟩ : Oper).wp P a w (fun a' w' => (mildB ⟨some d, .call { callee := .builtin .unsafeSliceData, args := #[x], argTypes := ts }, T, ps, af, none⟩ = true → Ext w w') ∧ ∃ F' H', R F' H' ∧ St Γ F' H' a' w') (toQ Γ Q) := fun p w' hb hr => by
    refine ⟨rfl, ?_⟩
    unfold Oper.wp
    rw [run_builtin (b := .unsafeSliceData) (vs := [a.eval x]) (by simp) (fun ts t a_ => Builtin.unsafeSliceData_ ts t a_) (fun _ _ => rfl) hr]
    exact ⟨fun _ => ext_below hb, _, _, k p, ρ, (s.below hb).put hd rfl⟩
  obtain ⟨re, o⟩ := s.own hH rfl
  obtain ⟨re', e1, hle, hq⟩ := s.ov hx
  obtain rfl : re' = re := by have := e1.symm.trans o.at_; injection this
  obtain ⟨hcap, ⟨g, ad, hg, hv, had⟩ | ⟨_, hv, _, hl0⟩⟩ := hq (o.ok.ver.symm)
  · have had' := had (.inr rfl)
    rw [Nat.zero_mul] at had'
    rw [had'] at hv
    obtain ⟨cur, c1, c2, c3, c4, c5⟩ := o.ok.blk g hg
    by_cases hz : re'.cap - 0 = 0
    · rw [hz] at hv
      refine fin _ _ ?_ (by rw [hv]; exact Lib.run_unsafeSliceData_zero w ts T E hT ⟨g, 0, none⟩ 0 (t, cur.size) (by simp [World.shape?, c1]))
      exact ⟨rfl, rfl, rfl, by show w.heap.size ≤ (w.heap.push _).size; rw [Array.size_push]; omega, fun k hk => by show (w.heap.push _)[k]? = _; rw [Array.getElem?_push, if_neg (by omega)]⟩
    · exact fin _ _ (Below.refl _ w) (by rw [hv]; exact Lib.run_unsafeSliceData_row w _ _ _ _ _ hz)
  · exact fin none w (Below.refl _ w) (by rw [hv]; rfl)
/-- The text of no byte. -/
theorem hy_ustr0 {x y : Operand} {pt it : Nat} {p : Option Addr} (hx : ovO F x = some (.c (.pointer p))) (hy : ovO F y = some (.i .i64 0)) :
    HY P Γ (.call { callee := .builtin .unsafeString, args := #[x, y], argTypes := #[pt, it] }) F H (.s .empty) H := fun ρ a w s => by
  refine ⟨.string .empty, w, ρ, rfl, s, Ext.refl w, fun dst U pos after gd => ?_⟩
  exact run_builtin (b := .unsafeString) (vs := [a.eval x, a.eval y]) (by simp) (fun ts t a_ => Builtin.unsafeString_ ts t a_) (fun _ _ => rfl) (by rw [eval_c s hx, eval_i s hy]; exact Lib.run_unsafeString_none w _ _ _ _) _ _ _ _
/-- The text over all bytes of an own row: the row is written no more. -/
theorem hy_ustr {x y : Operand} {pt it E id ver m : Nat} {b : ByteArray} (hT : P.underlying pt = some (.pointer E)) (hc : P.cellsOf E = 1) (hx : ovO F x = some (.p id ver 0)) (hy : ovO F y = some (.i .i64 m)) (hH : H[id]? = some ⟨E, 1, ver, true, ints .u8 (bytesI b)⟩)
    (hm : b.size = m) (h0 : 0 < m) (h63 : m ≤ 9223372036854775807) : HY P Γ (.call { callee := .builtin .unsafeString, args := #[x, y], argTypes := #[pt, it] }) F H (.s b) (deadAt H id) := fun ρ a w s => by
  subst hm
  obtain ⟨re, o⟩ := s.own hH rfl
  obtain ⟨re', e1, hle, hq⟩ := s.ov hx
  obtain rfl : re' = re := by have := e1.symm.trans o.at_; injection this
  obtain ⟨g, hg, hv⟩ := hq (o.ok.ver.symm)
  obtain ⟨cur, c1, c2, c3, c4, c5⟩ := o.ok.blk g hg
  have c3' : b.size ≤ cur.size := by
    have h3 : (ints .u8 (bytesI b)).length ≤ cur.size := c3
    rw [ints_length, bytesI_len] at h3
    exact h3
  obtain ⟨ev, s'⟩ := s.deadw (w' := w.freeze ⟨g, 0, none⟩ b.data.toList.length) hH rfl o.at_ hg (by unfold World.freeze; split <;> rfl) (by unfold World.freeze; split <;> rfl) (by unfold World.freeze; split <;> rfl) (by unfold World.freeze; split <;> simp) (fun b hne => by
    unfold World.freeze
    split
    · rfl
    · show (w.heap.modify g _)[b]? = _
      rw [Array.getElem?_modify, if_neg (Ne.symm hne)])
  have hcell : ∀ ad, (w.freeze ⟨g, 0, none⟩ b.data.toList.length).cell? ad = w.cell? ad := fun ad => by
    unfold World.freeze
    split
    · rfl
    · simp only [World.cell?]
      show (match (w.heap.modify g _)[ad.block]? with | some (.cells c _ _) => if ad.spot.isSome then none else c[ad.off]? | _ => none) = _
      rw [Array.getElem?_modify]
      by_cases e : g = ad.block
      · rw [if_pos e, ← e, c1]; rfl
      · rw [if_neg e]; rfl
  refine ⟨.string b, _, ρ, rfl, s', fun ad v h => by rw [hcell]; exact h, fun dst U pos after gd => ?_⟩
  have hl : b.data.toList.length = b.size := by rw [Array.length_toList]; rfl
  refine run_builtin (b := .unsafeString) (vs := [a.eval x, a.eval y]) (by simp) (fun ts t a_ => Builtin.unsafeString_ ts t a_) (fun _ _ => rfl) ?_ _ _ _ _
  have hr := Lib.run_unsafeString_row (P := P) w pt it U E hT hc g cur.size (by simp [World.shape?, c1]) b.data.toList (by intro h; rw [h] at hl; simp at hl; omega) (by omega) (by omega) (fun j x hj => by
    obtain ⟨u, d1, d2, d3⟩ := c5 j (.i .u8 x.toNat) (by show (ints .u8 (bytesI b))[j]? = _; rw [ints_at]; simp only [bytesI, List.getElem?_map, hj]; rfl)
    have : (⟨g, 0, none⟩ : Addr).add j = ⟨g, j, none⟩ := by
      unfold Addr.add
      by_cases h : j = 0
      · subst h; simp
      · simp [h]
    rw [this]
    have d3' : u = .int .u8 x.toNat := d3
    subst d3'
    simp [World.cell?, c1, d1])
  rw [hv, eval_i s hy]
  have e2 : (⟨b.data.toList.toArray⟩ : ByteArray) = b := by cases b; simp
  rw [e2, hl] at hr
  rw [hl]
  exact hr
end
end Go.Proofs.Ytcdipmjgpimmdaa.Vc

/- The calculus: max, min, structs of whole numbers compared. -/
set_option linter.unusedVariables false
set_option linter.unusedSimpArgs false
namespace Go.Proofs.Ytcdipmjgpimmdaa.Vc
open Go Go.RowKit
theorem relL_len {w : World} {L : Nat → Prop} {B : Nat} {ρ : List Re} : ∀ {cs : List V} {us : List Value}, RelL w L B ρ cs us → us.length = cs.length
  | [], us, h => by rw [show us = [] from h]; rfl
  | y :: ys, us, ⟨u, vs, e, _, h⟩ => by subst e; simp [relL_len h]
section
variable {P : Program} {Γ : Ctx} {F : Fr} {H : List Ob} {Q : Exit → Fr → List Ob → Prop}
/-- max, min of two whole numbers. -/
theorem ly_max {x y : Operand} {ts : Array TypeId} {k k' : IntKind} {m n : Int} (hx : ovO F x = some (.i k m)) (hy : ovO F y = some (.i k' n)) : LY P Γ (.call { callee := .builtin .max, args := #[x, y], argTypes := ts }) F H (.i k (max m n)) := fun ρ a w s =>
  ⟨.int k (max m n), rfl, fun _ U _ _ _ w' _ => run_builtin (b := .max) (vs := [a.eval x, a.eval y]) (by simp) (fun ts t a_ => Builtin.max_ ts t a_) (fun _ _ => rfl) (by rw [eval_i s hx, eval_i s hy]; exact Lib.run_max_ints w' _ _ _ _ _ _) _ _ _ _⟩
theorem ly_min {x y : Operand} {ts : Array TypeId} {k k' : IntKind} {m n : Int} (hx : ovO F x = some (.i k m)) (hy : ovO F y = some (.i k' n)) : LY P Γ (.call { callee := .builtin .min, args := #[x, y], argTypes := ts }) F H (.i k (min m n)) := fun ρ a w s =>
  ⟨.int k (min m n), rfl, fun _ U _ _ _ w' _ => run_builtin (b := .min) (vs := [a.eval x, a.eval y]) (by simp) (fun ts t a_ => Builtin.min_ ts t a_) (fun _ _ => rfl) (by rw [eval_i s hx, eval_i s hy]; exact Lib.run_min_ints w' _ _ _ _ _ _) _ _ _ _⟩
def isI : V → Bool | .i _ _ => true | _ => false
theorem relL_ints {w : World} {L : Nat → Prop} {B : Nat} {ρ : List Re} : ∀ (cs : List V) (us us' : List Value), cs.all isI = true → RelL w L B ρ cs us → RelL w L B ρ cs us' → us = us' ∧ ∀ u ∈ us, ∃ k n, u = .int k n
  | [], us, us', _, h, h' => by rw [show us = [] from h, show us' = [] from h']; exact ⟨rfl, by simp⟩
  | .i k n :: cs, us, us', hc, ⟨u, vs, e, h1, h2⟩, ⟨u', vs', e', h1', h2'⟩ => by
    simp only [List.all_cons, Bool.and_eq_true] at hc
    obtain ⟨e2, e3⟩ := relL_ints cs vs vs' hc.2 h2 h2'
    have hu : u = .int k n := h1
    have hu' : u' = .int k n := h1'
    subst e; subst e'; subst e2; subst hu; subst hu'
    refine ⟨rfl, fun u hu => ?_⟩
    rcases List.mem_cons.1 hu with rfl | hu
    · exact ⟨k, n, rfl⟩
    · exact e3 u hu
/-- A struct of whole numbers alone. -/
def flatB (P : Program) (T : TypeId) (n : Nat) : Bool := (P.fieldsOf T).toList.all fun f => P.plainKey f.type && (match P.underlying f.type with | some (.int _) => true | _ => false) && decide (f.offset < n)
theorem eqFields_same {d : Nat} {us : List Value} (hu : ∀ u ∈ us, ∃ k n, u = .int k n) : ∀ (fs : List Field) (w : World), (fs.all fun f => P.plainKey f.type && (match P.underlying f.type with | some (.int _) => true | _ => false) && decide (f.offset < us.length)) = true → (Op.eqFields (d + 1) us.toArray us.toArray fs).run P w = .ok true w
  | [], w, _ => rfl
  | f :: fs, w, h => by
    simp only [List.all_cons, Bool.and_eq_true, decide_eq_true_eq] at h
    obtain ⟨⟨⟨h1, h2⟩, h3⟩, h4⟩ := h
    have ih := eqFields_same (d := d) hu fs w h4
    obtain ⟨k, n, hk⟩ := hu us[f.offset] (List.getElem_mem h3)
    have hat : us.toArray[f.offset]? = some (.int k n) := by rw [← hk]; simp [h3]
    have hp : ∀ w, (part f.type us.toArray f.offset).run P w = .ok (.int k n) w := fun w => run_part_plain w h1 hat
    cases hu2 : P.underlying f.type with
    | none => rw [hu2] at h2; cases h2
    | some D =>
      cases D <;> first | (rw [hu2] at h2; cases h2; done) | skip
      rename_i k'
      simp only [Op.eqFields]
      split
      · simp only [Sem.run_bind, hp, Result.andThen_ok, run_equalIn_int w d f.type k k' n n hu2]
        simpa using ih
      · exact ih
theorem ly_eqaT {x y : Operand} {T T' : TypeId} {n : Nat} {cs cs' : List V} (hT : P.underlying T = some (.struct (P.fieldsOf T))) (hp : P.stoodInHeld T = false) (hm : P.eqGuardType P.depth T = false) (hf : flatB P T n = true) (hx : ovO F x = some (.a cs)) (hy : ovO F y = some (.a cs')) (he : cs' = cs) (hc : cs.all isI = true) (hn : cs.length = n) :
    LY P Γ (.binOp .eql T x y T') F H (.b true) := fun ρ a w s => by
  subst he
  subst hn
  obtain ⟨us, hv, hr⟩ := s.ov hx
  obtain ⟨us', hv', hr'⟩ := s.ov hy
  obtain ⟨e1, e2⟩ := relL_ints cs' us us' hc hr hr'
  subst e1
  refine ⟨.bool true, rfl, fun _ _ _ _ _ w' _ => ?_⟩
  have hlen := relL_len hr
  have e3 : (do eqGuard .eql T x y (a.eval x) (a.eval y); binOp .eql T (a.eval x) (a.eval y) : Sem Value).run P w' = .ok (.bool true) w' := by
    rw [hv, hv', Sem.run_bind, run_eqGuard_agg w' _ _ _ _ _ _ hm]
    show (binOp .eql T (.agg us.toArray) (.agg us.toArray)).run P w' = _
    rw [run_eql_struct, run_equalIn_agg w' 9999 T _ _ hT hp, eqFields_same e2 _ _ (by rw [hlen]; exact hf)]
    rfl
  exact run_v e3
end
end Go.Proofs.Ytcdipmjgpimmdaa.Vc

/- The calculus: make of structs with spare room; append in place; rows of which more than one slice is read. -/
set_option linter.unusedVariables false
set_option linter.unusedSimpArgs false
namespace Go.Proofs.Ytcdipmjgpimmdaa.Vc
open Go Go.RowKit
section
variable {P : Program} {Γ : Ctx} {F : Fr} {H : List Ob} {Q : Exit → Fr → List Ob → Prop}

theorem rep_at {α : Type} {zs : List α} {y : α} : ∀ (m j : Nat), (List.replicate m zs).flatten[j]? = some y → zs[j % zs.length]? = some y ∧ j < m * zs.length
  | 0, j, h => by simp at h
  | m + 1, j, h => by
    rw [List.replicate_succ, List.flatten_cons] at h
    rcases Nat.lt_or_ge j zs.length with hlt | hge
    · rw [List.getElem?_append_left hlt] at h
      rw [Nat.mod_eq_of_lt hlt]
      exact ⟨h, by rw [Nat.add_mul]; omega⟩
    · rw [List.getElem?_append_right hge] at h
      obtain ⟨h1, h2⟩ := rep_at m _ h
      rw [Nat.mod_eq_sub_mod hge]
      exact ⟨h1, by rw [Nat.add_mul]; omega⟩
theorem rep_len {α : Type} (zs : List α) (m : Nat) : (List.replicate m zs).flatten.length = m * zs.length := by
  induction m with
  | zero => simp
  | succ m ih => rw [List.replicate_succ, List.flatten_cons, List.length_append, ih, Nat.add_mul]; omega
/-- make([]T, l, m) of anything. -/
theorem hy_mkS {T E sz bytes l m id : Nat} {z : Value} {zs : List V} {x y : Operand} {n n' : Int} {kx ky : IntKind} (hT : elP P T E sz bytes z) (hx : ovO F x = some (.i kx n')) (hy : ovO F y = some (.i ky n)) (hn' : n' = (l : Int)) (hn : n = (m : Int)) (hle : l ≤ m)
    (hz : z.cells.toList.map cV = zs) (hone : z.cells.toList.all (·.oneCell') = true) (hb : bytes * m ≤ 281474976710656) (h63 : m ≤ maxLen) (hid : H.length = id) :
    HY P Γ (.makeSlice T x y) F H (.o id 0 0 l) (H ++ [⟨E, sz, 0, true, (List.replicate m zs).flatten⟩]) := fun ρ a w s => by
  obtain ⟨i, hu, hi, hz0, hs, hby, hzs, hpos⟩ := hT
  have hb' : (i.bytes : Int) * n ≤ 281474976710656 := by rw [hn, hby, ← Int.natCast_mul]; omega
  have e1 := run_make (P := P) w T E i z hu hi hz0 kx ky n' n (by omega) (by omega) hb' (by simp only [maxLen] at h63; omega)
  have em : n.toNat = m := by omega
  have el : n'.toNat = l := by omega
  have hzl : zs.length = sz := by rw [← hz, List.length_map, Array.length_toList, hzs]
  rw [em, el, hs] at e1
  refine ⟨_, _, _, o_new (re := ⟨some w.heap.size, m, 0, sz⟩) rfl rfl (by rw [s.hr.len, hid]) hle, s.alloc (madeCells z.cells (m * sz)) E (List.replicate m zs).flatten sz m (by simp [size_madeCells]) h63 (by rw [rep_len, hzl]; simp [size_madeCells]) ?_, ext_alloc w _, fun _ _ _ _ _ => ?_⟩
  · intro j y hy
    obtain ⟨h1, h2⟩ := rep_at m j hy
    rw [hzl] at h1 h2
    rw [← hz, List.getElem?_map] at h1
    cases hu : z.cells.toList[j % sz]? with
    | none => rw [hu] at h1; cases h1
    | some u =>
      rw [hu] at h1
      simp only [Option.map_some, Option.some.injEq] at h1
      subst h1
      refine ⟨u, ?_, List.all_eq_true.1 hone u (List.mem_of_getElem? hu), rel_cV _ _ _ _ u⟩
      rw [madeCells_at _ _ _ h2, hzs]
      rw [Array.getElem?_toList] at hu
      rw [getElem!_def, hu]
  · have e : (Instr.makeSlice T (a.eval x) (a.eval y)).run P w = .ok (.slice (some ⟨w.heap.size, 0, none⟩) l m) (w.alloc (.cells (madeCells z.cells (m * sz)) E)) := by rw [eval_i s hx, eval_i s hy]; exact e1
    exact run_v e
/-- append to a slice of an own row that has room: in place. -/
theorem sy_appin {T E sz bytes m id ver len : Nat} {z : Value} {x y : Operand} {yy : V} {zs cs : List V} (hT : elP P T E sz bytes z) (hx : ovO F x = some (.o id ver 0 len)) (hH : H[id]? = some ⟨E, sz, ver, true, cs⟩) (hy : ovO F y = some yy) (hsrc : Src Γ H yy sz m zs) (hm : 0 < m) (hroom : (len + m) * sz ≤ cs.length) :
    ∀ ρ a w, StA Γ ρ F H a w → ∃ v w' ρ', Rel w' (Lset Γ.M ρ' (H.set id ⟨E, sz, ver, true, setV cs (len * sz) zs⟩)) Γ.w0.heap.size ρ' (.o id ver 0 (len + m)) v ∧ StA Γ ρ' F (H.set id ⟨E, sz, ver, true, setV cs (len * sz) zs⟩) a w' ∧
      ∀ (dst : Option Tmp) (type : TypeId) (pos : String) (after : Array Edge) (g : Option (Nat × Bool)), (execOp a.eval ⟨dst, .call { callee := .builtin .append, args := #[x, y], argTypes := #[T, T] }, type, pos, after, g⟩).run P w = .ok (.value v) w' := fun ρ a w s => by
  obtain ⟨i, hu, hi, hz0, hs, hby, hzs, hpos⟩ := hT
  obtain ⟨A, c, us, hv, k1, k2, k3, k4⟩ := hsrc.2 ρ F a w s _ (s.ov hy)
  obtain ⟨ad2, hA, k5⟩ := k3 hm
  subst hA
  obtain ⟨re, o⟩ := s.own hH rfl
  obtain ⟨re0, e1, hle, hp⟩ := s.ov hx
  obtain rfl : re0 = re := by have := e1.symm.trans o.at_; injection this
  obtain ⟨hcap, hq⟩ := hp (o.ok.ver.symm)
  have hszr : re0.sz = sz := o.ok.sz
  have hmul : (len + m) * sz = len * sz + m * sz := Nat.add_mul ..
  have hms : 0 < m * sz := Nat.mul_pos hm hpos
  rcases hq with ⟨g, ad, hg, hv0, had⟩ | ⟨hg, hv0, _, hl0⟩
  · obtain ⟨cur, c1, c2, c3, c4, c5⟩ := o.ok.blk g hg
    have hc3 : cs.length ≤ cur.size := c3
    have hc2 : cur.size = re0.cap * sz := c2
    have hcap2 : len + m ≤ re0.cap := by
      have : (len + m) * sz ≤ re0.cap * sz := by omega
      exact Nat.le_of_mul_le_mul_right this hpos
    have had' := had (.inr rfl)
    rw [Nat.zero_mul] at had'
    have hlen : (cur.toList.take (len * sz) ++ us ++ cur.toList.drop (len * sz + us.length)).length = cur.size := by simp; omega
    refine ⟨.slice (some ⟨g, 0, none⟩) (len + m) re0.cap, _, ρ.set id re0, ?_, s.update (ob' := ⟨E, sz, ver, true, setV cs (len * sz) zs⟩) (re' := re0) hH rfl o.at_ (by rw [hg]; exact grownBy_setRow w g (cur.toList.take (len * sz) ++ us ++ cur.toList.drop (len * sz + us.length)).toArray) rfl o.ok.ver o.ok.sz (Nat.le_refl _) (fun _ => rfl) (.inl rfl)
      (fun h => by rw [hg] at h; cases h) (fun g' hg' => ?_), fun dst type pos after gd => ?_⟩
    · exact ⟨re0, by rw [List.getElem?_set]; simp [(List.getElem?_eq_some_iff.1 o.at_).1], hle, fun _ => ⟨by omega, .inl ⟨g, ⟨g, 0, none⟩, hg, rfl, fun _ => by simp⟩⟩⟩
    · obtain rfl : g = g' := by rw [hg] at hg'; injection hg'
      refine ⟨_, setRow_heap w g cur _ E (0, 0) c1, by rw [List.size_toArray, hlen]; exact c2, by rw [List.size_toArray, hlen]; show (setV cs (len * sz) zs).length ≤ _; rw [setV_length]; exact hc3, c4, fun j y' hy' => ?_⟩
      rw [List.getElem?_toArray]
      have hzl := hsrc.1
      rcases setV_at cs (len * sz) zs j y' hy' with ⟨k1', k2', k3'⟩ | ⟨k1', k2'⟩
      · obtain ⟨u, d1, d2⟩ := k4 _ _ k3'
        refine ⟨u, ?_, k2 u (List.mem_of_getElem? d1), d2⟩
        rw [List.append_assoc, List.getElem?_append_right (by simp; omega), List.getElem?_append_left (by simp; omega)]
        rw [← d1]; congr 1; simp; omega
      · obtain ⟨u, d1, d2, d3⟩ := c5 j y' k2'
        refine ⟨u, ?_, d2, d3⟩
        rw [← Array.getElem?_toList] at d1
        rcases k1' with k1' | k1'
        · rw [List.append_assoc, List.getElem?_append_left (by simp; omega), List.getElem?_take, if_pos (by omega)]; exact d1
        · rw [List.getElem?_append_right (by simp; omega), List.getElem?_drop, ← d1]; congr 1; simp; omega
    · have hr := run_append_room (P := P) w T type E i hu hi g len re0.cap cur c1 ad2 m c us (by rw [hs]; exact k1) k5 k2 hcap2 (by rw [hs]; omega)
      rw [hs] at hr
      refine run_builtin (b := .append) (ts := #[T, T]) (T := type) (a := a) (args := #[x, y]) (vs := [a.eval x, a.eval y]) (by simp) (fun ts t a_ => Builtin.append_ ts t a_) (fun _ _ => rfl) ?_ dst pos after gd
      rw [hv0, had', hv, Nat.sub_zero]
      exact hr
  · obtain ⟨h1, _⟩ := o.ok.nob hg
    have h1' : cs = [] := h1
    rw [h1'] at hroom
    simp at hroom
    omega
theorem jo_appin {ops : Array Oper} {rest : List Oper} {d T E sz bytes m id ver len : Nat} {ty : TypeId} {ps : String} {af : Array Edge} {z : Value} {x y : Operand} {yy : V} {zs cs : List V} (hT : elP P T E sz bytes z) (hx : ovO F x = some (.o id ver 0 len)) (hH : H[id]? = some ⟨E, sz, ver, true, cs⟩) (hy : ovO F y = some yy) (hsrc : Src Γ H yy sz m zs) (hm : 0 < m) (hroom : (len + m) * sz ≤ cs.length)
    (hd : d < Γ.N) (j : JO P ops rest Γ ((d, .o id ver 0 (len + m)) :: F) (H.set id ⟨E, sz, ver, true, setV cs (len * sz) zs⟩) Q) :
    JO P ops (⟨some d, .call { callee := .builtin .append, args := #[x, y], argTypes := #[T, T] }, ty, ps, af, none⟩ :: rest) Γ F H Q := fun a w ⟨ρ, s⟩ => by
  obtain ⟨v, w', ρ', r, s', hr⟩ := sy_appin hT hx hH hy hsrc hm hroom ρ a w s
  refine wpList_plain rfl fun K hK => ?_
  unfold Oper.wp
  rw [hr _ _ _ _ _]
  exact hK _ _ (j _ _ ⟨ρ', s'.put hd r⟩)
/-- Rows at the head of an own object, read for good. -/
theorem StA.frozenR' {ρ : List Re} {a : Act} {w : World} (s : StA Γ ρ F H a w) {id ver len t sz : Nat} {cs tl : List V} {rows : List (List V)} (hH : H[id]? = some ⟨t, sz, ver, true, cs⟩) {v : Value} (r : Rel w (Lset Γ.M ρ H) Γ.w0.heap.size ρ (.o id ver 0 len) v)
    (hcs : cs = rows.flatten ++ tl) (hlen : rows.length = len) (hsz : ∀ r ∈ rows, r.length = sz) (hpu : ∀ r ∈ rows, r.all pureV = true) (h0 : 0 < sz)
    (hp : ∀ b, ¬ Γ.L0 b) : Rel w (Lset Γ.M ρ (deadAt H id)) Γ.w0.heap.size ρ (.l true sz rows) v := by
  obtain ⟨re, o⟩ := s.own hH rfl
  obtain ⟨re', e1, _, hq⟩ := r
  obtain rfl : re' = re := by have := e1.symm.trans o.at_; injection this
  obtain ⟨hcap, hq⟩ := hq (o.ok.ver.symm)
  rcases hq with ⟨g, ad, hg, hv, had⟩ | ⟨hg, hv, ho, hl0⟩
  · obtain ⟨cur, c1, c2, c3, c4, c5⟩ := o.ok.blk g hg
    have had' := had (.inr rfl)
    rw [Nat.zero_mul] at had'
    refine ⟨some ad, re'.cap - 0, by rw [hlen]; exact hv, by rw [hlen]; omega, by omega, fun hne => ⟨ad, rfl, ?_, relR_of rows 0 hsz fun i row hi => relC_of _ _ fun j y hy => ?_⟩⟩
    · rw [had']; exact s.mine_dead hH rfl o.at_ hg hp true
    · have hy' := flat_at rows i j row y hsz hi hy
      have hy2 : cs[i * sz + j]? = some y := by rw [hcs, List.getElem?_append_left (List.getElem?_eq_some_iff.1 hy').1]; exact hy'
      obtain ⟨u, d1, _, d3⟩ := o.cell hg hy2
      refine ⟨u, by rw [had', addr_add_plain, Nat.zero_add, Nat.zero_add]; exact d1, rel_pure _ _ (List.all_eq_true.1 (hpu row (List.mem_of_getElem? hi)) _ (List.mem_of_getElem? hy)) (d3.ev (s.dead_ev id))⟩
  · subst hl0
    have : rows = [] := List.eq_nil_of_length_eq_zero hlen
    subst this
    exact ⟨none, 0, by simpa using hv, by simp, by simp [maxLen], fun h => absurd rfl h⟩
/-- Two slices of one row, from its head on, read for good. -/
theorem jc_frzr2 {c : Code} (t t' : Nat) {id ver len len' T sz : Nat} {cs tl tl' : List V} (rows rows' : List (List V)) (hx : getO F t = some (.o id ver 0 len)) (hx' : getO F t' = some (.o id ver 0 len')) (hH : H[id]? = some ⟨T, sz, ver, true, cs⟩) (hcs : cs = rows.flatten ++ tl) (hcs' : cs = rows'.flatten ++ tl') (hlen : rows.length = len) (hlen' : rows'.length = len')
    (hsz : ∀ r ∈ rows, r.length = sz) (hsz' : ∀ r ∈ rows', r.length = sz) (hpu : ∀ r ∈ rows, r.all pureV = true) (hpu' : ∀ r ∈ rows', r.all pureV = true) (h0 : 0 < sz) (hp : ∀ b, ¬ Γ.L0 b)
    (j : JC P c Γ ((t, .l true sz rows) :: (t', .l true sz rows') :: F) (deadAt H id) Q) : JC P c Γ F H Q := fun a w ⟨ρ, s⟩ => by
  refine j a w ⟨ρ, (s.dead id).hr, s.n, s.ds, fun t2 => ?_, (s.dead id).fro⟩
  rw [get_cons]
  by_cases e : t2 = t
  · subst e
    rw [if_pos rfl]
    have := s.fr t2
    unfold get at this
    rw [hx] at this
    exact s.frozenR' hH this hcs hlen hsz hpu h0 hp
  · rw [if_neg e, get_cons]
    by_cases e' : t2 = t'
    · subst e'
      rw [if_pos rfl]
      have := s.fr t2
      unfold get at this
      rw [hx'] at this
      exact s.frozenR' hH this hcs' hlen' hsz' hpu' h0 hp
    · rw [if_neg e']; exact (s.dead id).fr t2
end
end Go.Proofs.Ytcdipmjgpimmdaa.Vc

/- The calculus: what is handed in, read as abstract values: slices of rows, of whole numbers; structs. -/
set_option linter.unusedVariables false
set_option linter.unusedSimpArgs false
namespace Go.Proofs.Ytcdipmjgpimmdaa.Vc
open Go Go.RowKit Go.ChangeShapes Go.WideShapes Go.Deep

section
variable {H : Type} {enc : TypeId × Value → H} {P : Program} {w : World} {sp : Nat → Bool} {held : Bool}
theorem cells_at {a : Addr} {n : Nat} {cs : List Value} (h : w.cells? 0 a n = some cs) : cs.length = n ∧ ∀ j y, cs[j]? = some y → w.cell? (a.add j) = some y := by
  obtain ⟨_, h1, h2⟩ := World.cells?_some h
  refine ⟨h1, fun j y hj => ?_⟩
  have hlt : j < n := by have := (List.getElem?_eq_some_iff.1 hj).1; omega
  rw [h2 j hlt, hj]
theorem bulk_range {α : Type} (f : α → DataW H) (l : List α) : Rows.uptoBulkAll (l.map f) = (l.map fun i => Rows.uptoBulk (f i)).sum := by
  induction l with
  | nil => rfl
  | cons a l ih => rw [List.map_cons, List.map_cons, List.sum_cons, ← ih]; rfl
theorem relC_cells {B : Nat} {ρ : List Re} {L : Nat → Prop} {ad : Addr} : ∀ (cs : List Value) (k : Nat), (∀ j y, cs[j]? = some y → w.cell? (ad.add (k + j)) = some y) → RelC w L B ρ ad k (cs.map cV)
  | [], _, _ => trivial
  | v :: cs, k, h => ⟨⟨v, by have := h 0 v rfl; rwa [Nat.add_zero] at this, rel_cV _ _ _ _ v⟩, relC_cells cs (k + 1) fun j y hj => by have := h (j + 1) y (by simpa using hj); rwa [show k + (j + 1) = k + 1 + j by omega] at this⟩
theorem list_of {α : Type} {p : Nat → α → Prop} : ∀ (n : Nat), (∀ i, i < n → ∃ τ, p i τ) → ∃ l : List α, l.length = n ∧ ∀ i τ, l[i]? = some τ → p i τ
  | 0, _ => ⟨[], rfl, by simp⟩
  | n + 1, h => by
    obtain ⟨l, h1, h2⟩ := list_of n fun i hi => h i (by omega)
    obtain ⟨τ, h3⟩ := h n (by omega)
    refine ⟨l ++ [τ], by simp [h1], fun i x hx => ?_⟩
    rcases Nat.lt_or_ge i l.length with hlt | hge
    · rw [List.getElem?_append_left hlt] at hx; exact h2 i x hx
    · rw [List.getElem?_append_right hge] at hx
      have hi : i - l.length = 0 := by have := (List.getElem?_eq_some_iff.1 hx).1; simp at this; omega
      rw [hi] at hx
      simp at hx
      subst hx
      rwa [show i = n by omega]
theorem sum_le {α : Type} {bk : α → Nat} : ∀ (l : List α) (f : Nat → Nat), (∀ i τ, l[i]? = some τ → bk τ ≤ f i) → (l.map bk).sum ≤ ((List.range l.length).map f).sum
  | [], f, _ => by simp
  | x :: l, f, h => by
    have ih := sum_le l (fun i => f (i + 1)) fun i τ hi => h (i + 1) τ (by simpa using hi)
    have h0 := h 0 x rfl
    rw [List.length_cons, List.range_succ_eq_map, List.map_cons, List.map_cons, List.sum_cons, List.sum_cons, List.map_map]
    have e : (f ∘ Nat.succ) = fun i => f (i + 1) := rfl
    rw [e]
    omega
/-- A slice that is handed in: its elements, each as a row. -/
theorem open_rowsV {α : Type} {rowOf : α → List V} {bk : α → Nat} {ok : α → Prop} {t e sz : Nat} {r : Reach} {b0 : Nat} (ht : P.underlying t = some (.slice e)) (hc : P.cellsOf e = sz) (hpos : 0 < sz)
    (hrow : ∀ n cs x, DataW.trod enc P w 0 sp held n e cs = some x → ∃ τ, cs.map cV = rowOf τ ∧ bk τ ≤ Rows.uptoBulk x.1 ∧ ok τ) {v : Value} {d : DataW H} {ps : List MemPlace} (hval : Value.okWide P w r b0 t v) (hd : DataW.Trod enc P w 0 sp held t v d ps) :
    ∃ l : List α, Rel w (fun _ => False) w.heap.size [] (.l false sz (l.map rowOf)) v ∧ (l.map bk).sum + 1 ≤ Rows.uptoBulk d ∧ (∀ τ ∈ l, ok τ) := by
  obtain ⟨A, len, cap, rfl⟩ := okWide_slice ht hval
  obtain ⟨fuel, hd⟩ := hd
  have hcl : (Value.slice A len cap).cells.toList = [Value.slice A len cap] := rfl
  rw [hcl] at hd
  rcases open_slice ht hd with ⟨h1, h2⟩ | ⟨a, len', cap', m, n, D, Pl, h1, h2, h3, h4, h5, h6, h7⟩
  · injection h2 with h2 h3
    subst h2
    have h1' : Value.slice A len cap = .slice none 0 0 := by injection h1
    rw [h1']
    exact ⟨[], ⟨none, 0, rfl, Nat.le_refl _, by simp [maxLen], fun h => absurd rfl h⟩, by simp [Rows.uptoBulk], by simp⟩
  · have h1' : Value.slice A len cap = .slice (some a) len' cap' := by injection h1
    injection h6 with h6 h6'
    have hlm : len' ≤ m := by rw [h5]; split <;> omega
    obtain ⟨l, hl, hall⟩ := list_of (p := fun i (τ : α) => ∃ cs, w.cells? 0 (a.add (i * sz)) sz = some cs ∧ cs.map cV = rowOf τ ∧ bk τ ≤ Rows.uptoBulk (D i) ∧ ok τ) len' fun i hi => by
      obtain ⟨cs, k1, k2⟩ := h7 i (by omega)
      obtain ⟨τ, k3, k4, k5⟩ := hrow _ _ _ k2
      exact ⟨τ, cs, by rw [← hc]; exact k1, k3, k4, k5⟩
    refine ⟨l, ?_, ?_, fun τ hτ => ?_⟩
    · rw [h1']
      refine ⟨some a, cap', by rw [List.length_map, hl], by rw [List.length_map, hl]; exact h3, h4, fun hne => ⟨a, rfl, ⟨?_, fun h => h, fun h => by cases h⟩, relR_of _ 0 ?_ fun i row hi => ?_⟩⟩
      · have h0 : 0 < len' := by
          rcases Nat.eq_zero_or_pos len' with h | h
          · exfalso; apply hne; rw [List.eq_nil_of_length_eq_zero (hl.trans h)]; rfl
          · exact h
        obtain ⟨cs, k1, _⟩ := h7 0 (by omega)
        have := World.cells?_block k1 (by rw [hc]; exact hpos)
        rwa [Nat.zero_mul, block_add] at this
      · intro row hrow'
        obtain ⟨τ, hτ, rfl⟩ := List.mem_map.1 hrow'
        obtain ⟨i, hi⟩ := List.getElem?_of_mem hτ
        obtain ⟨cs, k1, k2, _⟩ := hall i τ hi
        rw [← k2, List.length_map]
        exact (cells_at k1).1
      · rw [List.getElem?_map] at hi
        cases hτ : l[i]? with
        | none => rw [hτ] at hi; cases hi
        | some τ =>
          rw [hτ] at hi
          simp only [Option.map_some, Option.some.injEq] at hi
          subst hi
          obtain ⟨cs, k1, k2, _⟩ := hall i τ hτ
          rw [← k2]
          refine relC_cells cs _ fun j y hj => ?_
          have := (cells_at k1).2 j y hj
          rwa [Go.Deep.add_add, show i * sz + j = 0 + i * sz + j by omega] at this
    · rw [h6]
      simp only [Rows.uptoBulk]
      rw [bulk_range]
      have := sum_le l (fun i => Rows.uptoBulk (D i)) fun i τ hi => (hall i τ hi).choose_spec.2.2.1
      rw [hl] at this
      omega
    · obtain ⟨i, hi⟩ := List.getElem?_of_mem hτ
      exact (hall i τ hi).choose_spec.2.2.2
theorem sum_ones {α : Type} (l : List α) : (l.map fun _ => 1).sum = l.length := by
  induction l with
  | nil => rfl
  | cons _ l ih => rw [List.map_cons, List.sum_cons, ih, List.length_cons]; omega
/-- A slice of whole numbers that is handed in. -/
theorem open_numsV {t e : Nat} {k : IntKind} (ht : P.underlying t = some (.slice e)) (he : P.underlying e = some (.int k)) (hc : P.cellsOf e = 1) {n0 : Nat} {v : Value} {x : DataW H × List MemPlace} (hd : DataW.trod enc P w 0 sp held n0 t [v] = some x) :
    ∃ l : List Int, Rel w (fun _ => False) w.heap.size [] (.n false k l) v ∧ l.length + 1 ≤ Rows.uptoBulk x.1 ∧ (∀ y ∈ l, (Lit.int k y).wf = true) := by
  rcases open_slice ht hd with ⟨h1, h2⟩ | ⟨a, len', cap', m, n, D, Pl, h1, h2, h3, h4, h5, h6, h7⟩
  · injection h1 with h1
    subst h1; subst h2
    exact ⟨[], ⟨none, 0, rfl, Nat.le_refl _, Nat.zero_le _, fun h => absurd rfl h⟩, Nat.le_refl 1, fun y hy => by cases hy⟩
  · injection h1 with h1
    subst h1; subst h6
    have hlm : len' ≤ m := by rw [h5]; split <;> omega
    obtain ⟨l, hl, hall⟩ := list_of (p := fun i (y : Int) => w.cell? (a.add i) = some (.int k y) ∧ (Lit.int k y).wf = true ∧ 1 ≤ Rows.uptoBulk (D i)) len' fun i hi => by
      obtain ⟨cs, k1, k2⟩ := h7 i (by omega)
      obtain ⟨y, k3, k4, k5⟩ := DataW.trod_int he k2
      rw [hc, Nat.mul_one] at k1
      subst k3
      refine ⟨y, ?_, k5, ?_⟩
      · have := (cells_at k1).2 0 _ rfl
        rwa [Go.Deep.add_add, Nat.add_zero] at this
      · have : D i = .lit (.int k y) := congrArg Prod.fst k4
        rw [this]; exact Nat.le_refl 1
    refine ⟨l, ⟨some a, cap', by rw [hl], by rw [hl]; exact h3, h4, fun hne => ⟨a, rfl, ⟨?_, fun h => h, fun h => by cases h⟩, fun j y hj => (hall j y hj).1⟩⟩, ?_, fun y hy => ?_⟩
    · have h0 : 0 < len' := by
        rcases Nat.eq_zero_or_pos len' with h | h
        · exact absurd (List.eq_nil_of_length_eq_zero (hl.trans h)) hne
        · exact h
      obtain ⟨cs, k1, _⟩ := h7 0 (by omega)
      have := World.cells?_block k1 (by rw [hc]; decide)
      rwa [Nat.zero_mul, block_add] at this
    · simp only [Rows.uptoBulk]
      rw [bulk_range]
      have := sum_le (bk := fun _ => 1) l (fun i => Rows.uptoBulk (D i)) fun i y hi => (hall i y hi).2.2
      rw [hl] at this
      have e := sum_ones l
      omega
    · obtain ⟨i, hi⟩ := List.getElem?_of_mem hy
      exact (hall i y hi).2.1
theorem wf_u64 {y : Int} (h : (Lit.int .u64 y).wf = true) : 0 ≤ y ∧ y < 18446744073709551616 := by
  simp only [Lit.wf, Bool.and_eq_true, decide_eq_true_eq] at h
  have h1 : IntKind.u64.min = 0 := by decide
  have h2 : IntKind.u64.max = 18446744073709551615 := by decide
  omega
end
end Go.Proofs.Ytcdipmjgpimmdaa.Vc
