/- The calculus, eighth part: contracts, calls, tests, returns. -/
import Derived.Test.YtcdipmjgpimmdaaVcG
set_option linter.unusedVariables false
set_option linter.unusedSimpArgs false
namespace Go.Proofs.Ytcdipmjgpimmdaa.Vc
open Go Go.RowKit

/-- How a call ends. -/
inductive Out where
  | ret (y : V)
  | pan (c : List PanicEntry)
def EndRel (w : World) (L : Nat → Prop) (B : Nat) : Out → Ending → Prop
  | .ret y, e => ∃ v, e = .returned v ∧ Rel w L B [] y v
  | .pan c, e => e = .panicked c

/-- A contract: arguments without own objects; what was there stays as it was. -/
def Spec (P : Program) (f : FuncId) (args : List V) (post : Out → Prop) : Prop :=
  ∀ (M : Nat → Prop) (w : World) (vals : List Value), (∀ b, M b → b < w.heap.size) → RelL w M w.heap.size [] args vals →
    Calls P f vals.toArray w fun e w' => ∃ o, post o ∧ EndRel w' M w.heap.size o e ∧ Below w.heap.size w w'
theorem Spec.mono {P : Program} {f : FuncId} {args : List V} {post post' : Out → Prop} (h : Spec P f args post) (hp : ∀ o, post o → post' o) : Spec P f args post' :=
  fun M w vals hM hr => (h M w vals hM hr).mono fun e w' ⟨o, h1, h2, h3⟩ => ⟨o, hp o h1, h2, h3⟩

/-- How a value of the caller's is handed over. -/
inductive ArgV : V → V → Prop
  | i {k : IntKind} {n : Int} : ArgV (.i k n) (.i k n)
  | b {x : Bool} : ArgV (.b x) (.b x)
  | s {x : ByteArray} : ArgV (.s x) (.s x)
  | c {v : Value} : ArgV (.c v) (.c v)
  | n {fr : Bool} {k : IntKind} {l : List Int} : ArgV (.n fr k l) (.n false k l)
  | nil {k : IntKind} : ArgV (.c (.slice none 0 0)) (.n false k [])
  | l {fr : Bool} {sz : Nat} {es : List (List V)} : ArgV (.l fr sz es) (.l false sz es)
  | nill {sz : Nat} : ArgV (.c (.slice none 0 0)) (.l false sz [])
  | q {es : List V} : ArgV (.q es) (.q es)
  | f {fn : FuncId} : ArgV (.f fn []) (.f fn [])
  | u {y : V} : ArgV y .u
  | a0 : ArgV (.a []) (.a [])
  | a1 {y z : V} {ys zs : List V} (h : ArgV y z) (hs : ArgV (.a ys) (.a zs)) : ArgV (.a (y :: ys)) (.a (z :: zs))
theorem rel_nil {w : World} {L : Nat → Prop} {B : Nat} {ρ : List Re} {fr : Bool} {k : IntKind} : Rel w L B ρ (.n fr k []) (.slice none 0 0) := ⟨none, 0, rfl, by simp, by simp [maxLen], by simp⟩
theorem rel_nill {w : World} {L : Nat → Prop} {B : Nat} {ρ : List Re} {fr : Bool} {sz : Nat} : Rel w L B ρ (.l fr sz []) (.slice none 0 0) := ⟨none, 0, rfl, by simp, by simp [maxLen], by simp⟩
theorem ArgV.rel {w : World} {L : Nat → Prop} {B B' : Nat} {ρ : List Re} {y z : V} (h : ArgV y z) : ∀ {v : Value}, Rel w L B ρ y v → Rel w L B' [] z v := by
  induction h with
  | i => exact fun h => h
  | b => exact fun h => h
  | s => exact fun h => h
  | c => exact fun h => h
  | n => rintro v ⟨A, c, e, h1, h2, h3⟩; exact ⟨A, c, e, h1, h2, fun hl => by obtain ⟨ad, e1, hb, hc⟩ := h3 hl; exact ⟨ad, e1, ⟨hb.1, hb.2.1, by simp⟩, hc⟩⟩
  | nil => rintro v rfl; exact rel_nil
  | l => rintro v ⟨A, c, e, h1, h2, h3⟩; exact ⟨A, c, e, h1, h2, fun hl => by obtain ⟨ad, e1, hb, hc⟩ := h3 hl; exact ⟨ad, e1, ⟨hb.1, hb.2.1, by simp⟩, hc⟩⟩
  | nill => rintro v rfl; exact rel_nill
  | q => rintro v ⟨ad, e, hb, hc⟩; exact ⟨ad, e, ⟨hb.1, hb.2.1, by simp⟩, hc⟩
  | f => rintro v ⟨us, e, hr⟩; exact ⟨us, e, hr⟩
  | u => exact fun _ => trivial
  | a0 => rintro v ⟨us, e, hr⟩; exact ⟨us, e, hr⟩
  | a1 h hs ih1 ih2 =>
    rintro v ⟨us, rfl, u, us', rfl, hr1, hr2⟩
    obtain ⟨us'', e2, hr3⟩ := ih2 ⟨us', rfl, hr2⟩
    have : us' = us'' := by
      injection e2 with e2
      have := congrArg Array.toList e2; simpa using this
    subst this
    exact ⟨_, rfl, u, us', rfl, ih1 hr1, hr3⟩
def ArgL : List V → List V → Prop
  | [], zs => zs = []
  | y :: ys, zs => ∃ z zs', zs = z :: zs' ∧ ArgV y z ∧ ArgL ys zs'
theorem ArgL.nil : ArgL [] [] := rfl
theorem ArgL.cons {y z : V} {ys zs : List V} (h : ArgV y z) (hs : ArgL ys zs) : ArgL (y :: ys) (z :: zs) := ⟨z, zs, rfl, h, hs⟩
theorem ArgL.rel {w : World} {L : Nat → Prop} {B B' : Nat} {ρ : List Re} : ∀ {ys zs : List V} (us : List Value), ArgL ys zs → RelL w L B ρ ys us → RelL w L B' [] zs us
  | [], zs, us, h, hr => by rw [show zs = [] from h]; exact hr
  | y :: ys, zs, us, ⟨z, zs', e, h1, h2⟩, ⟨u, us', e2, h3, h4⟩ => by rw [e]; exact ⟨u, us', e2, h1.rel h3, h2.rel us' h4⟩

section
variable {P : Program} {Γ : Ctx} {F : Fr} {H : List Ob} {Q : Exit → Fr → List Ob → Prop}

theorem Lset_lt {ρ : List Re} {a : Act} {w : World} (s : StA Γ ρ F H a w) {b : Nat} (h : Lset Γ.M ρ H b) : b < w.heap.size := by
  rcases h with h | ⟨i, o, r, h1, h2, h3, h4⟩
  · exact Nat.lt_of_lt_of_le (s.fro.old b h) s.fro.size
  · exact s.hr.lt h1 h2 h3 h4
/-- The state behind a call that leaves all that was there. -/
theorem StA.below {ρ : List Re} {a : Act} {w w' : World} (s : StA Γ ρ F H a w) (hb : Below w.heap.size w w') : StA Γ ρ F H a w' := by
  have ev : Ev w (Lset Γ.M ρ H) Γ.w0.heap.size ρ w' (Lset Γ.M ρ H) Γ.w0.heap.size ρ := ⟨hb.size, fun b hlt _ => hb.block b hlt, fun b _ hn => hn, Nat.le_refl _, fun i r h => ⟨r, h, Nat.le_refl _, fun _ => rfl⟩⟩
  refine ⟨⟨s.hr.len, fun i o h1 h2 => ?_, s.hr.apart, s.hr.foreign⟩, s.n, s.ds, fun t => (s.fr t).ev ev, ⟨hb.os.trans s.fro.os, hb.tape.trans s.fro.tape, hb.output.trans s.fro.output, Nat.le_trans s.fro.size hb.size, fun b hlt hn => ?_, s.fro.old, s.fro.mine, s.fro.rho⟩⟩
  · obtain ⟨r, h3, h4⟩ := s.hr.ob i o h1 h2
    refine ⟨r, h3, h4.ver, h4.sz, h4.nob, fun g hg => ?_⟩
    obtain ⟨cur, c1, c2, c3, c4, c5⟩ := h4.blk g hg
    exact ⟨cur, by rw [hb.block g (s.hr.lt h1 h2 h3 hg)]; exact c1, c2, c3, c4, fun j y hy => by obtain ⟨u, d1, d2, d3⟩ := c5 j y hy; exact ⟨u, d1, d2, d3.ev ev⟩⟩
  · rw [hb.block b (Nat.lt_of_lt_of_le hlt s.fro.size)]; exact s.fro.blk b hlt hn
theorem ext_below {w w' : World} (hb : Below w.heap.size w w') : Ext w w' := fun a v h => (hb.cell (World.block_lt_of_cell? w a h)).trans h

mutual
/-- A result's relation, weakened to an older block number and any list of entries: results hold no own objects. -/
theorem rel_in {w : World} {L : Nat → Prop} {B B' : Nat} {ρ : List Re} (hB : B' ≤ B) : ∀ (y : V) (v : Value), Rel w L B [] y v → Rel w L B' ρ y v
  | .i _ _, _, h => h
  | .b _, _, h => h
  | .s _, _, h => h
  | .c _, _, h => h
  | .n _ _ _, _, ⟨A, c, e, h1, h2, h3⟩ => ⟨A, c, e, h1, h2, fun hl => by obtain ⟨ad, e1, hb, hc⟩ := h3 hl; exact ⟨ad, e1, ⟨hb.1, hb.2.1, fun e => Nat.le_trans hB (hb.2.2 e)⟩, hc⟩⟩
  | .l _ _ _, _, ⟨A, c, e, h1, h2, h3⟩ => ⟨A, c, e, h1, h2, fun hl => by obtain ⟨ad, e1, hb, hc⟩ := h3 hl; exact ⟨ad, e1, ⟨hb.1, hb.2.1, fun e => Nat.le_trans hB (hb.2.2 e)⟩, hc⟩⟩
  | .q _, _, ⟨ad, e, hb, hc⟩ => ⟨ad, e, ⟨hb.1, hb.2.1, by simp⟩, hc⟩
  | .p _ _ _, _, ⟨re, e, _⟩ => by simp at e
  | .o _ _ _ _, _, ⟨re, e, _⟩ => by simp at e
  | .f _ caps, _, ⟨us, e, h⟩ => ⟨us, e, relL_in hB caps us h⟩
  | .u, _, _ => trivial
  | .a cs, _, ⟨us, e, h⟩ => ⟨us, e, relL_in hB cs us h⟩
  | .t vs, _, ⟨us, e, h⟩ => ⟨us, e, relL_in hB vs us h⟩
theorem relL_in {w : World} {L : Nat → Prop} {B B' : Nat} {ρ : List Re} (hB : B' ≤ B) : ∀ (ys : List V) (us : List Value), RelL w L B [] ys us → RelL w L B' ρ ys us
  | [], _, h => h
  | y :: ys, _, ⟨u, us', e, h1, h2⟩ => ⟨u, us', e, rel_in hB y u h1, relL_in hB ys us' h2⟩
end

/-- A call. -/
theorem wp_call {f : FuncId} {fn : Func} {dst : Option Tmp} {T : TypeId} {ps : String} {af : Array Edge} {g : Option (Nat × Bool)} {c : Operand} {args : Array Operand} {ts : Array TypeId} {ys zs : List V} {post : Out → Prop}
    (hc : ovO F c = some (.f f [])) (hf : P.funcs[f]? = some fn) (hb : fn.body.isSome = true) (hn : (fn.name == "runtime.NumGoroutine") = false) (hx : ovL F args.toList ys) (ha : ArgL ys zs) (hs : Spec P f zs post) {ρ : List Re} {a : Act} {w : World} (s : StA Γ ρ F H a w) {K : Act → World → Prop} {R : Exit → Act → World → Prop}
    (k : ∀ y v w', post (.ret y) → Rel w' (Lset Γ.M ρ H) Γ.w0.heap.size ρ y v → Below w.heap.size w w' → StA Γ ρ F H a w' → K (a.put dst v) w')
    (kp : ∀ ch w', post (.pan ch) → Below w.heap.size w w' → StA Γ ρ F H a w' → R (.panic ch) a w') :
    (⟨dst, .call { callee := .value c, args := args, argTypes := ts }, T, ps, af, g⟩ : Oper).wp P a w K R := by
  obtain ⟨us0, hcv, hcr⟩ := s.ov hc
  have hus0 : us0 = [] := hcr
  subst hus0
  have hr := s.ovL hx
  have hargs : args.map a.eval = (args.toList.map a.eval).toArray := by apply Array.ext'; rw [Array.toList_map]
  have hcall := hs (Lset Γ.M ρ H) w (args.toList.map a.eval) (fun b h => Lset_lt s h) (ha.rel _ hr)
  have hrun : (execOp a.eval ⟨dst, .call { callee := .value c, args := args, argTypes := ts }, T, ps, af, g⟩).run P w = .ok (.enter f (args.toList.map a.eval).toArray) w := by
    have hb' : ¬ fn.body = none := by intro h; rw [h] at hb; cases hb
    have hn' : ¬ fn.name = "runtime.NumGoroutine" := by simpa using hn
    simp [execOp, resolve, hcv, Deferred.ofValue, invoke, callFunc, program, Sem.run, hf]
    rw [if_neg hn', if_neg hb', hargs]
  unfold Oper.wp
  rw [hrun]
  show Calls P f _ w _
  refine hcall.mono fun e w' ⟨o, h1, h2, h3⟩ => ?_
  have s' := s.below h3
  cases o with
  | ret y =>
    obtain ⟨v, rfl, hr'⟩ := h2
    exact k y v w' h1 (rel_in s.fro.size y v hr') h3 s'
  | pan ch =>
    have : e = .panicked ch := h2
    subst this
    exact kp ch w' h1 h3 s'
theorem jo_call {f : FuncId} (fn : Func) {ops : Array Oper} {rest : List Oper} {d : Nat} {T : TypeId} {ps : String} {af : Array Edge} {args : Array Operand} {ts : Array TypeId} {c : Operand} {ys zs : List V} {post : Out → Prop}
    (hs : Spec P f zs post) (hc : ovO F c = some (.f f [])) (hf : P.funcs[f]? = some fn) (hb : fn.body.isSome = true) (hn : (fn.name == "runtime.NumGoroutine") = false) (hx : ovL F args.toList ys) (ha : ArgL ys zs) (hd : d < Γ.N)
    (k : ∀ y, post (.ret y) → JO P ops rest Γ ((d, y) :: F) H Q) (kp : ∀ ch, post (.pan ch) → Q (.panic ch) F H) :
    JO P ops (⟨some d, .call { callee := .value c, args := args, argTypes := ts }, T, ps, af, none⟩ :: rest) Γ F H Q := fun a w ⟨ρ, s⟩ =>
  wpList_plain rfl fun K hK => wp_call hc hf hb hn hx ha hs s (fun y v w' h1 h2 _ h4 => hK _ _ (k y h1 _ _ ⟨ρ, h4.put hd h2⟩)) (fun ch w' h1 _ h3 => ⟨F, H, kp ch h1, ρ, h3⟩)
theorem jo_callg {f : FuncId} (fn : Func) {ops : Array Oper} {rest : List Oper} {d : Nat} {T : TypeId} {ps : String} {af : Array Edge} {args : Array Operand} {ts : Array TypeId} {c : Operand} {ys zs : List V} {post : Out → Prop} {j0 : Nat} {b0 : Bool} (t0 : Nat) (ht : (ops[j0]?).bind (·.dst) = some t0) (hb0 : getO F t0 = some (.b b0))
    (hs : Spec P f zs post) (hc : ovO F c = some (.f f [])) (hf : P.funcs[f]? = some fn) (hb : fn.body.isSome = true) (hn : (fn.name == "runtime.NumGoroutine") = false) (hx : ovL F args.toList ys) (ha : ArgL ys zs) (hd : d < Γ.N)
    (k : ∀ y, post (.ret y) → JO P ops rest Γ ((d, y) :: F) H Q) (kp : ∀ ch, post (.pan ch) → Q (.panic ch) F H) :
    JO P ops (⟨some d, .call { callee := .value c, args := args, argTypes := ts }, T, ps, af, some (j0, b0)⟩ :: rest) Γ F H Q := fun a w ⟨ρ, s⟩ =>
  wpList_step fun K hK => by
    rw [if_pos (wanted_yes rfl (yielded_of s ht hb0))]
    exact wp_call hc hf hb hn hx ha hs s (fun y v w' h1 h2 _ h4 => hK _ _ (k y h1 _ _ ⟨ρ, h4.put hd h2⟩)) (fun ch w' h1 _ h3 => ⟨F, H, kp ch h1, ρ, h3⟩)

/-! ### Tests -/
theorem jc_cond {c : Operand} {x y : Code} {b : Bool} (h : ovO F c = some (.b b)) (ht : b = true → JC P x Γ F H Q) (hf : b = false → JC P y Γ F H Q) : JC P (.cond c x y) Γ F H Q := fun a w ⟨ρ, s⟩ =>
  wp_cond_split (eval_b s h) (fun e => ht e a w ⟨ρ, s⟩) (fun e => hf e a w ⟨ρ, s⟩)
/-- A truth in a slot is looked at: both ways. -/
theorem jo_split {ops : Array Oper} {l : List Oper} (t : Nat) {b : Bool} (h : getO F t = some (.b b)) (ht : b = true → JO P ops l Γ ((t, .b true) :: F) H Q) (hf : b = false → JO P ops l Γ ((t, .b false) :: F) H Q) : JO P ops l Γ F H Q := fun a w s => by
  have sub : ∀ c : Bool, b = c → Sub ((t, .b c) :: F) F := fun c e => .cons (by rw [h, e]) fun t y h => h
  cases hb : b
  · exact hf hb a w (s.sub (sub false hb))
  · exact ht hb a w (s.sub (sub true hb))

/-! ### Returns -/
/-- How a value is handed back: own rows as rows that nobody writes any more. -/
inductive RetV (H : List Ob) : V → V → Prop
  | i {k : IntKind} {n : Int} : RetV H (.i k n) (.i k n)
  | b {x : Bool} : RetV H (.b x) (.b x)
  | s {x : ByteArray} : RetV H (.s x) (.s x)
  | c {v : Value} : RetV H (.c v) (.c v)
  | n {fr : Bool} {k : IntKind} {l : List Int} : RetV H (.n fr k l) (.n fr k l)
  | nn {fr : Bool} {k : IntKind} {l : List Int} : RetV H (.n fr k l) (.n false k l)
  | nil {fr : Bool} {k : IntKind} : RetV H (.c (.slice none 0 0)) (.n fr k [])
  | l {fr : Bool} {sz : Nat} {es : List (List V)} : RetV H (.l fr sz es) (.l fr sz es)
  | nill {fr : Bool} {sz : Nat} : RetV H (.c (.slice none 0 0)) (.l fr sz [])
  | o {id ver off len T : Nat} {k : IntKind} {l l' : List Int} (hH : H[id]? = some ⟨T, 1, ver, true, ints k l⟩) (hle : off + len ≤ l.length) (hl : (l.drop off).take len = l') : RetV H (.o id ver off len) (.n true k l')
  | ol {id ver len T sz : Nat} {cs : List V} {rows : List (List V)} (hH : H[id]? = some ⟨T, sz, ver, true, cs⟩) (hcs : cs = rows.flatten) (hlen : rows.length = len) (hsz : ∀ r ∈ rows, r.length = sz) (hpu : ∀ r ∈ rows, r.all pureV = true) (h0 : 0 < sz) : RetV H (.o id ver 0 len) (.l true sz rows)
  | pq {id ver off T sz : Nat} {cs zs : List V} (hH : H[id]? = some ⟨T, sz, ver, true, cs⟩) (hpu : cs.all pureV = true) (hz : cs.drop off = zs) : RetV H (.p id ver off) (.q zs)
  | q {es : List V} : RetV H (.q es) (.q es)
  | f {fn : FuncId} : RetV H (.f fn []) (.f fn [])
  | a0 : RetV H (.a []) (.a [])
  | a1 {y z : V} {ys zs : List V} (h : RetV H y z) (hs : RetV H (.a ys) (.a zs)) : RetV H (.a (y :: ys)) (.a (z :: zs))
  | t0 : RetV H (.t []) (.t [])
  | t1 {y z : V} {ys zs : List V} (h : RetV H y z) (hs : RetV H (.t ys) (.t zs)) : RetV H (.t (y :: ys)) (.t (z :: zs))
theorem StA.dead_rel {ρ : List Re} {a : Act} {w : World} (s : StA Γ ρ F H a w) {B : Nat} {ρ' : List Re} {y : V} {v : Value} {L : Nat → Prop} (hL : ∀ b, L b → Lset Γ.M ρ H b) (r : Rel w (Lset Γ.M ρ H) B ρ' y v) : Rel w L B ρ' y v :=
  r.ev ⟨Nat.le_refl _, fun _ _ _ => rfl, fun b _ hn h => hn (hL b h), Nat.le_refl _, fun i r h => ⟨r, h, Nat.le_refl _, fun _ => rfl⟩⟩
theorem RetV.rel {y z : V} (h : RetV H y z) {ρ : List Re} {a : Act} {w : World} (s : StA Γ ρ F H a w) (hp : ∀ b, ¬ Γ.L0 b) : ∀ {v : Value}, Rel w (Lset Γ.M ρ H) Γ.w0.heap.size ρ y v → Rel w Γ.M Γ.w0.heap.size [] z v := by
  have hM : ∀ b, Γ.M b → Lset Γ.M ρ H b := fun b h => .inl h
  induction h with
  | i => exact fun h => h
  | b => exact fun h => h
  | s => exact fun h => h
  | c => exact fun h => h
  | n => intro v h; exact s.dead_rel hM (ρ' := []) h
  | nn => rintro v ⟨A, c, e, h1, h2, h3⟩; exact ⟨A, c, e, h1, h2, fun hl => by obtain ⟨ad, e1, hb, hc⟩ := h3 hl; exact ⟨ad, e1, ⟨hb.1, fun h => hb.2.1 (hM _ h), by simp⟩, hc⟩⟩
  | nil => rintro v rfl; exact rel_nil
  | l => intro v h; exact s.dead_rel hM (ρ' := []) h
  | nill => rintro v rfl; exact rel_nill
  | o hH hle hl =>
    intro v h
    rw [← hl]
    obtain ⟨A, c, e, h1, h2, h3⟩ := s.frozen hH h hle hp
    exact ⟨A, c, e, h1, h2, fun hl => by obtain ⟨ad, e1, hb, hc⟩ := h3 hl; exact ⟨ad, e1, ⟨hb.1, fun h => hb.2.1 (.inl h), hb.2.2⟩, hc⟩⟩
  | ol hH hcs hlen hsz hpu h0 =>
    intro v h
    obtain ⟨A, c, e, h1, h2, h3⟩ := s.frozenR hH h hcs hlen hsz hpu h0 hp
    refine ⟨A, c, e, h1, h2, fun hl => by
      obtain ⟨ad, e1, hb, hc⟩ := h3 hl
      have hb' : Okb w Γ.M Γ.w0.heap.size true ad.block := ⟨hb.1, fun h => hb.2.1 (.inl h), hb.2.2⟩
      exact ⟨ad, e1, hb', RelR.ev (B := 0) (ρ := []) (L := Lset Γ.M ρ (deadAt H _)) ⟨Nat.le_refl _, fun _ _ _ => rfl, fun b _ hn h => hn (.inl h), Nat.le_refl _, fun i r h => by simp at h⟩ ⟨hb.1, hb.2.1, fun _ => Nat.zero_le _⟩ _ _ hc⟩⟩
  | pq hH hpu hz =>
    intro v h
    rw [← hz]
    obtain ⟨ad, e, hb, hc⟩ := s.frozenC hH h hpu hp
    exact ⟨ad, e, ⟨hb.1, fun h => hb.2.1 (.inl h), by simp⟩, RelC.ev (B := 0) (ρ := []) (L := Lset Γ.M ρ (deadAt H _)) ⟨Nat.le_refl _, fun _ _ _ => rfl, fun b _ hn h => hn (.inl h), Nat.le_refl _, fun i r h => by simp at h⟩ ⟨hb.1, hb.2.1, fun _ => Nat.zero_le _⟩ _ _ hc⟩
  | q => intro v h; exact s.dead_rel hM (ρ' := []) h
  | f => rintro v ⟨us, e, hr⟩; exact ⟨us, e, hr⟩
  | a0 => rintro v ⟨us, e, hr⟩; exact ⟨us, e, hr⟩
  | a1 h hs ih1 ih2 =>
    rintro v ⟨us, rfl, u, us', rfl, hr1, hr2⟩
    obtain ⟨us'', e2, hr3⟩ := ih2 ⟨us', rfl, hr2⟩
    have : us' = us'' := by injection e2 with e2; have := congrArg Array.toList e2; simpa using this
    subst this
    exact ⟨_, rfl, u, us', rfl, ih1 hr1, hr3⟩
  | t0 => rintro v ⟨us, e, hr⟩; exact ⟨us, e, hr⟩
  | t1 h hs ih1 ih2 =>
    rintro v ⟨us, rfl, u, us', rfl, hr1, hr2⟩
    obtain ⟨us'', e2, hr3⟩ := ih2 ⟨us', rfl, hr2⟩
    have : us' = us'' := by injection e2 with e2; have := congrArg Array.toList e2; simpa using this
    subst this
    exact ⟨_, rfl, u, us', rfl, ih1 hr1, hr3⟩

/-- What the result variables hold. -/
def ResV (P : Program) (F : Fr) (H : List Ob) : ResultVar → V → Prop
  | .tmp t, y => getO F t = some y
  | .cell at_ T, y => ∃ id off ver t sz cs, getO F at_ = some (.p id ver off) ∧ H[id]? = some ⟨t, sz, ver, true, cs⟩ ∧ ((oneB P T = true ∧ cs[off]? = some y) ∨ ∃ n ys, aggB P T n = true ∧ takeV cs off n = ys ∧ ys.length = n ∧ y = .a ys)
def ResL (P : Program) (F : Fr) (H : List Ob) : List ResultVar → List V → Prop
  | [], ys => ys = []
  | r :: rs, ys => ∃ y ys', ys = y :: ys' ∧ ResV P F H r y ∧ ResL P F H rs ys'
theorem ResV.cell {at_ T n id off ver t sz : Nat} {cs ys : List V} (hT : aggB P T n = true) (h : getO F at_ = some (.p id ver off)) (hH : H[id]? = some ⟨t, sz, ver, true, cs⟩) (hy : takeV cs off n = ys) (hn : ys.length = n) : ResV P F H (.cell at_ T) (.a ys) :=
  ⟨id, off, ver, t, sz, cs, h, hH, .inr ⟨n, ys, hT, hy, hn, rfl⟩⟩
theorem ResV.cell1 {at_ T id off ver t sz : Nat} {cs : List V} {y : V} (hT : oneB P T = true) (h : getO F at_ = some (.p id ver off)) (hH : H[id]? = some ⟨t, sz, ver, true, cs⟩) (hy : cs[off]? = some y) : ResV P F H (.cell at_ T) y :=
  ⟨id, off, ver, t, sz, cs, h, hH, .inl ⟨hT, hy⟩⟩
theorem ResL.nil : ResL P F H [] [] := rfl
theorem ResL.cons {r : ResultVar} {rs : List ResultVar} {y : V} {ys : List V} (h : ResV P F H r y) (hs : ResL P F H rs ys) : ResL P F H (r :: rs) (y :: ys) := ⟨y, ys, rfl, h, hs⟩
/-- One result variable read. -/
def resOne (tmps : Array Value) : ResultVar → Sem Value
  | .tmp t => pure (tmps.getD t undef)
  | .cell x t => do loadVar t (← asAddr (tmps.getD x undef))
theorem StA.resV {ρ : List Re} {a : Act} {w : World} (s : StA Γ ρ F H a w) {r : ResultVar} {y : V} (h : ResV P F H r y) : ∃ v, (resOne a.tmps r).run P w = .ok v w ∧ Rel w (Lset Γ.M ρ H) Γ.w0.heap.size ρ y v := by
  cases r with
  | tmp t =>
    have h1 := s.fr t
    unfold get at h1
    rw [show getO F t = some y from h] at h1
    exact ⟨_, rfl, h1⟩
  | cell x T =>
    obtain ⟨id, off, ver, t, sz, cs, h1, hH, h2⟩ := h
    have hx : ovO F (.tmp x) = some (.p id ver off) := h1
    rcases h2 with ⟨hT, hy⟩ | ⟨n, ys, hT, hy, hn, rfl⟩
    · obtain ⟨v, r, hr⟩ := ly_ld (P := P) hT hx hH hy ρ a w s
      obtain ⟨re, g, ow, hg, hv⟩ := s.ptr hx hH
      obtain ⟨u, hc, _, hru⟩ := ow.cell hg hy
      refine ⟨u, ?_, hru⟩
      have e : a.tmps.getD x undef = .pointer (some ⟨g, off, none⟩) := hv
      simp only [resOne, e]
      simp [asAddr, loadVar, oneB_isAgg hT, load, Sem.run, hc]
    · obtain ⟨re, g, ow, hg, hv⟩ := s.ptr hx hH
      obtain ⟨us, hlen, hrs, _, hcs⟩ := own_cells ow hg ys off (fun j y h => by
        rw [← hy, takeV_eq] at h
        rw [List.getElem?_take] at h
        split at h
        · rw [List.getElem?_drop] at h; exact h
        · cases h)
      refine ⟨.agg us.toArray, ?_, us, rfl, hrs⟩
      have e : a.tmps.getD x undef = .pointer (some ⟨g, off, none⟩) := hv
      have hT' : aggB P T us.length = true := by rw [hlen, hn]; exact hT
      simp only [resOne, e]
      simp [asAddr, loadVar, aggB_isAgg hT', run_sizeOf' (aggB_size hT'), run_loadCells_list w ⟨g, off, none⟩ us hcs]
theorem StA.resL {ρ : List Re} {a : Act} {w : World} (s : StA Γ ρ F H a w) : ∀ {rs : List ResultVar} {ys : List V}, ResL P F H rs ys →
    ∃ us : List Value, (rs.mapM (resOne a.tmps)).run P w = .ok us w ∧ RelL w (Lset Γ.M ρ H) Γ.w0.heap.size ρ ys us
  | [], ys, h => ⟨[], by simp, by rw [show ys = [] from h]; rfl⟩
  | r :: rs, ys, ⟨y, ys', e, h1, h2⟩ => by
    obtain ⟨v, hv, hr⟩ := s.resV h1
    obtain ⟨us, hus, hrs⟩ := s.resL h2
    refine ⟨v :: us, ?_, by rw [e]; exact ⟨v, us, rfl, hr, hrs⟩⟩
    rw [List.mapM_cons, Sem.run_bind, hv]
    simp only [Result.andThen_ok, Sem.run_bind, hus, Sem.run_pure]
/-- One result as itself, several ones as a tuple. -/
def packV : List V → V
  | [y] => y
  | ys => .t ys
theorem StA.results {ρ : List Re} {a : Act} {w : World} (s : StA Γ ρ F H a w) {fn : Func} {ys : List V} (h : ResL P F H fn.results.toList ys) : ∃ v, (Go.results fn a.tmps).run P w = .ok v w ∧ Rel w (Lset Γ.M ρ H) Γ.w0.heap.size ρ (packV ys) v := by
  obtain ⟨us, h1, h2⟩ := s.resL h
  have h3 : (fn.results.mapM (resOne a.tmps)).run P w = .ok us.toArray w := by
    rw [Array.mapM_eq_mapM_toList]
    simp [h1]
  refine ⟨if h : us.toArray.size = 1 then us.toArray[0] else .tuple us.toArray, ?_, ?_⟩
  · have e : Go.results fn a.tmps = (do let vs ← fn.results.mapM (resOne a.tmps); pure (if h : vs.size = 1 then vs[0] else .tuple vs)) := rfl
    rw [e, Sem.run_bind, h3]
    rfl
  · match ys, us, h2 with
    | [], us, h2 => have : us = [] := h2; subst this; exact ⟨[], rfl, rfl⟩
    | [y], us, ⟨u, us', e, hr, e2⟩ => have : us' = [] := e2; subst this; subst e; exact hr
    | y :: z :: ys, us, ⟨u, us', e, hr, u2, us2, e2, hr2, hr3⟩ =>
      subst e2; subst e
      rw [dif_neg (by simp)]
      exact ⟨_, rfl, u, _, rfl, hr, u2, us2, rfl, hr2, hr3⟩

/-- What a body has to show where it ends. -/
def qRet (P : Program) (fn : Func) (post : Out → Prop) : Exit → Fr → List Ob → Prop
  | .ret, F, H | .normal, F, H => ∃ ys z, ResL P F H fn.results.toList ys ∧ RetV H (packV ys) z ∧ post (.ret z)
  | .panic ch, _, _ => post (.pan ch)
  | _, _, _ => False
/-- A contract from its body. -/
theorem spec_of {f : FuncId} {fn : Func} {c : Code} {args : List V} {post : Out → Prop} (hf : P.funcs[f]? = some fn) (hb : fn.body = some c) (hn : args.length ≤ fn.ntmps)
    (h : ∀ Γ : Ctx, Γ.N = fn.ntmps → Γ.ds = [] → (∀ b, ¬ Γ.L0 b) → Γ.ρ0 = [] → JC P c Γ ((args.zipIdx 0).map fun p => (p.2, p.1)) [] (qRet P fn post)) : Spec P f args post := fun M w vals hM hr => by
  refine calls_of_wp hf hb ?_
  have hlen : vals.length = args.length := (relL_one args vals hr).1
  let Γ : Ctx := ⟨fn.ntmps, w, M, [], fun _ => False, []⟩
  have Leq : ∀ b, Lset M [] [] b → M b := by
    rintro b (h | ⟨i, o, r, h1, _⟩)
    · exact h
    · simp at h1
  have s : StA Γ [] ((args.zipIdx 0).map fun p => (p.2, p.1)) [] ⟨vals.toArray ++ Array.replicate (fn.ntmps - vals.toArray.size) undef, []⟩ w := by
    refine ⟨⟨rfl, fun i o h => by simp at h, fun i j oi oj ri rj g _ h => by simp at h, fun i o r g h => by simp at h⟩, ?_, rfl, fun t => ?_, ⟨rfl, rfl, rfl, Nat.le_refl _, fun _ _ _ => rfl, hM, fun i o r g h => by simp at h, fun i r h => by have h' : ([] : List Re)[i]? = some r := h; simp at h'⟩⟩
    · show fn.ntmps ≤ (vals.toArray ++ Array.replicate (fn.ntmps - vals.toArray.size) undef).size
      simp; omega
    · have look : ∀ (ys : List V) (k t : Nat), getO ((ys.zipIdx k).map fun p => (p.2, p.1)) t = if k ≤ t then ys[t - k]? else none := by
        intro ys
        induction ys with
        | nil => intro k t; simp [getO]
        | cons y ys ih =>
          intro k t
          simp only [List.zipIdx_cons, List.map_cons, getO]
          cases hb : Nat.beq t k
          · have hne : t ≠ k := by intro e; subst e; simp at hb
            rw [ih (k + 1) t]
            by_cases h1 : k ≤ t
            · rw [if_pos h1, if_pos (by omega), show t - k = (t - (k + 1)) + 1 by omega]; rfl
            · rw [if_neg h1, if_neg (by omega)]; rfl
          · have := Nat.eq_of_beq_eq_true hb
            subst this
            simp
      unfold get
      rw [look args 0 t, if_pos (Nat.zero_le _), Nat.sub_zero]
      cases ht : args[t]? with
      | none => exact trivial
      | some y =>
        obtain ⟨u, hu, hru⟩ := relL_at args vals t y hr ht
        have hlt : t < vals.length := (List.getElem?_eq_some_iff.1 hu).1
        have e : ((vals.toArray ++ Array.replicate (fn.ntmps - vals.toArray.size) undef).getD t undef) = u := by
          rw [Array.getD_eq_getD_getElem?, Array.getElem?_append_left (by simpa using hlt)]
          simp [hu]
        show Rel w (Lset M [] []) w.heap.size [] y ((vals.toArray ++ Array.replicate (fn.ntmps - vals.toArray.size) undef).getD t undef)
        rw [e]
        exact hru.ev ⟨Nat.le_refl _, fun _ _ _ => rfl, fun b _ hn h => hn (Leq b h), Nat.le_refl _, fun i r h => by simp at h⟩
  refine Code.wp_mono (fun e a w' ⟨F, H, q, ρ, s'⟩ => ?_) (h Γ rfl rfl (fun _ h => h) rfl _ _ ⟨_, s⟩)
  have hbelow : Below w.heap.size w w' := ⟨s'.fro.os, s'.fro.tape, s'.fro.output, s'.fro.size, fun b hb => s'.fro.blk b hb (fun h => h)⟩
  have fin : ∀ ys z, ResL P F H fn.results.toList ys → RetV H (packV ys) z → post (.ret z) → a.defers = [] ∧ ∃ v, (Go.results fn a.tmps).run P w' = .ok v w' ∧ ∃ o, post o ∧ EndRel w' M w.heap.size o (.returned v) ∧ Below w.heap.size w w' := by
    intro ys z h1 h2 h3
    obtain ⟨v, hv, hr⟩ := s'.results h1
    exact ⟨s'.ds, v, hv, .ret z, h3, ⟨v, rfl, h2.rel s' (fun _ h => h) hr⟩, hbelow⟩
  cases e with
  | normal => obtain ⟨ys, z, h1, h2, h3⟩ := q; exact fin ys z h1 h2 h3
  | ret => obtain ⟨ys, z, h1, h2, h3⟩ := q; exact fin ys z h1 h2 h3
  | panic ch => exact ⟨s'.ds, .pan ch, q, rfl, hbelow⟩
  | _ => exact absurd q (by simp [qRet])
theorem spec_of' {f : FuncId} {fn : Func} {c : Code} {args : List V} {post : Out → Prop} (F0 : Fr) (h0 : ((args.zipIdx 0).map fun p => (p.2, p.1)) = F0) (hf : P.funcs[f]? = some fn) (hb : fn.body = some c) (hn : args.length ≤ fn.ntmps)
    (h : ∀ Γ : Ctx, Γ.N = fn.ntmps → Γ.ds = [] → (∀ b, ¬ Γ.L0 b) → Γ.ρ0 = [] → JC P c Γ F0 [] (qRet P fn post)) : Spec P f args post := spec_of hf hb hn (h0 ▸ h)
end
end Go.Proofs.Ytcdipmjgpimmdaa.Vc
