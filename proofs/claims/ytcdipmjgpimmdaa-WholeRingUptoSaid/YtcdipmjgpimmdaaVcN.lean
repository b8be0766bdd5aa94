/- The calculus, fourteenth part: contracts of functions that write objects that are handed to them. -/
import Derived.Test.YtcdipmjgpimmdaaVcM
set_option linter.unusedVariables false
set_option linter.unusedSimpArgs false
namespace Go.Proofs.Ytcdipmjgpimmdaa.Vc
open Go Go.RowKit

mutual
/-- It does not say of any place that it is fresh. -/
def noFr : V → Bool
  | .n fr _ _ => !fr
  | .l fr _ _ => !fr
  | .f _ cs => noFrL cs
  | .a cs => noFrL cs
  | .t cs => noFrL cs
  | _ => true
def noFrL : List V → Bool
  | [] => true
  | y :: ys => noFr y && noFrL ys
end
mutual
theorem rel_B {w : World} {L : Nat → Prop} {B B' : Nat} {ρ : List Re} : ∀ (y : V) (v : Value), noFr y = true → Rel w L B ρ y v → Rel w L B' ρ y v
  | .i _ _, _, _, h => h
  | .b _, _, _, h => h
  | .s _, _, _, h => h
  | .c _, _, _, h => h
  | .n fr _ _, _, hf, ⟨A, c, e, h1, h2, h3⟩ => ⟨A, c, e, h1, h2, fun hl => by obtain ⟨ad, e1, hb, hc⟩ := h3 hl; exact ⟨ad, e1, ⟨hb.1, hb.2.1, fun hfr => by subst hfr; simp [noFr] at hf⟩, hc⟩⟩
  | .l fr _ _, _, hf, ⟨A, c, e, h1, h2, h3⟩ => ⟨A, c, e, h1, h2, fun hl => by obtain ⟨ad, e1, hb, hc⟩ := h3 hl; exact ⟨ad, e1, ⟨hb.1, hb.2.1, fun hfr => by subst hfr; simp [noFr] at hf⟩, hc⟩⟩
  | .q _, _, _, ⟨ad, e, hb, hc⟩ => ⟨ad, e, ⟨hb.1, hb.2.1, by simp⟩, hc⟩
  | .p _ _ _, _, _, h => h
  | .o _ _ _ _, _, _, h => h
  | .f _ cs, _, hf, ⟨us, e, h⟩ => ⟨us, e, relL_B cs us hf h⟩
  | .u, _, _, _ => trivial
  | .a cs, _, hf, ⟨us, e, h⟩ => ⟨us, e, relL_B cs us hf h⟩
  | .t cs, _, hf, ⟨us, e, h⟩ => ⟨us, e, relL_B cs us hf h⟩
theorem relL_B {w : World} {L : Nat → Prop} {B B' : Nat} {ρ : List Re} : ∀ (ys : List V) (us : List Value), noFrL ys = true → RelL w L B ρ ys us → RelL w L B' ρ ys us
  | [], _, _, h => h
  | y :: ys, us, hf, ⟨u, us', e, h1, h2⟩ => by
    simp only [noFrL, Bool.and_eq_true] at hf
    exact ⟨u, us', e, rel_B y u hf.1 h1, relL_B ys us' hf.2 h2⟩
end
mutual
theorem rel_Ble {w : World} {L : Nat → Prop} {B B' : Nat} {ρ : List Re} (hB : B' ≤ B) : ∀ (y : V) (v : Value), Rel w L B ρ y v → Rel w L B' ρ y v
  | .i _ _, _, h => h
  | .b _, _, h => h
  | .s _, _, h => h
  | .c _, _, h => h
  | .n _ _ _, _, ⟨A, c, e, h1, h2, h3⟩ => ⟨A, c, e, h1, h2, fun hl => by obtain ⟨ad, e1, hb, hc⟩ := h3 hl; exact ⟨ad, e1, ⟨hb.1, hb.2.1, fun e => Nat.le_trans hB (hb.2.2 e)⟩, hc⟩⟩
  | .l _ _ _, _, ⟨A, c, e, h1, h2, h3⟩ => ⟨A, c, e, h1, h2, fun hl => by obtain ⟨ad, e1, hb, hc⟩ := h3 hl; exact ⟨ad, e1, ⟨hb.1, hb.2.1, fun e => Nat.le_trans hB (hb.2.2 e)⟩, hc⟩⟩
  | .q _, _, ⟨ad, e, hb, hc⟩ => ⟨ad, e, ⟨hb.1, hb.2.1, by simp⟩, hc⟩
  | .p _ _ _, _, h => h
  | .o _ _ _ _, _, h => h
  | .f _ cs, _, ⟨us, e, h⟩ => ⟨us, e, relL_Ble hB cs us h⟩
  | .u, _, _ => trivial
  | .a cs, _, ⟨us, e, h⟩ => ⟨us, e, relL_Ble hB cs us h⟩
  | .t cs, _, ⟨us, e, h⟩ => ⟨us, e, relL_Ble hB cs us h⟩
theorem relL_Ble {w : World} {L : Nat → Prop} {B B' : Nat} {ρ : List Re} (hB : B' ≤ B) : ∀ (ys : List V) (us : List Value), RelL w L B ρ ys us → RelL w L B' ρ ys us
  | [], _, h => h
  | y :: ys, us, ⟨u, us', e, h1, h2⟩ => ⟨u, us', e, rel_Ble hB y u h1, relL_Ble hB ys us' h2⟩
end
/-- The objects' cells say of no place that it is fresh. -/
def freshless (H : List Ob) : Prop := ∀ ob ∈ H, ob.live = true → ∀ y ∈ ob.cs, noFr y = true
theorem HR.toB {M : Nat → Prop} {w : World} {B B' : Nat} {ρ : List Re} {H : List Ob} (h : HR M w B ρ H) (hf : freshless H) : HR M w B' ρ H :=
  ⟨h.len, fun i o h1 h2 => by
    obtain ⟨r, h3, h4⟩ := h.ob i o h1 h2
    refine ⟨r, h3, h4.ver, h4.sz, h4.nob, fun g hg => ?_⟩
    obtain ⟨cur, c1, c2, c3, c4, c5⟩ := h4.blk g hg
    exact ⟨cur, c1, c2, c3, c4, fun j y hy => by obtain ⟨u, d1, d2, d3⟩ := c5 j y hy; exact ⟨u, d1, d2, rel_B y u (hf o (List.mem_of_getElem? h1) h2 y (List.mem_of_getElem? hy)) d3⟩⟩, h.apart, h.foreign⟩
theorem HR.leB {M : Nat → Prop} {w : World} {B B' : Nat} {ρ : List Re} {H : List Ob} (hB : B' ≤ B) (h : HR M w B ρ H) : HR M w B' ρ H :=
  ⟨h.len, fun i o h1 h2 => by
    obtain ⟨r, h3, h4⟩ := h.ob i o h1 h2
    refine ⟨r, h3, h4.ver, h4.sz, h4.nob, fun g hg => ?_⟩
    obtain ⟨cur, c1, c2, c3, c4, c5⟩ := h4.blk g hg
    exact ⟨cur, c1, c2, c3, c4, fun j y hy => by obtain ⟨u, d1, d2, d3⟩ := c5 j y hy; exact ⟨u, d1, d2, rel_Ble hB y u d3⟩⟩, h.apart, h.foreign⟩

def EndRelM (w : World) (L : Nat → Prop) (B : Nat) (ρ : List Re) : Out → Ending → Prop
  | .ret y, e => ∃ v, e = .returned v ∧ Rel w L B ρ y v
  | .pan c, e => e = .panicked c
/-- The blocks of the objects that are handed over. -/
def hand (ρ : List Re) (H : List Ob) (b : Nat) : Prop := ∃ (id : Nat) (ob : Ob) (re : Re), H[id]? = some ob ∧ ob.live = true ∧ ρ[id]? = some re ∧ re.g = some b
/-- A contract over objects that are handed over: all the caller's. -/
def SpecM (P : Program) (f : FuncId) (args : List V) (H : List Ob) (post : Out → List Ob → Prop) : Prop :=
  ∀ (M : Nat → Prop) (w : World) (ρ : List Re) (vals : List Value), (∀ b, M b → b < w.heap.size) → HR M w w.heap.size ρ H → RelL w (Lset M ρ H) w.heap.size ρ args vals →
    Calls P f vals.toArray w fun e w' => ∃ o H' ρ', post o H' ∧ EndRelM w' (Lset M ρ' H') w.heap.size ρ' o e ∧ HR M w' w.heap.size ρ' H' ∧
      w'.os = w.os ∧ w'.tape = w.tape ∧ w'.output = w.output ∧ Ev w (Lset M ρ H) w.heap.size ρ w' (Lset M ρ' H') w.heap.size ρ' ∧
      (∀ (id : Nat) (ob : Ob) (re : Re) (g : Nat), H'[id]? = some ob → ob.live = true → ρ'[id]? = some re → re.g = some g → w.heap.size ≤ g ∨ hand ρ H g) ∧ (∀ b, b < w.heap.size → ¬ hand ρ H b → w'.heap[b]? = w.heap[b]?)

section
variable {P : Program} {Γ : Ctx} {F : Fr} {H : List Ob} {Q : Exit → Fr → List Ob → Prop}
/-- How a value goes to such a function: as it is, or said to be less fresh. -/
inductive ArgM : V → V → Prop
  | same {y : V} (h : noFr y = true) : ArgM y y
  | n {fr : Bool} {k : IntKind} {l : List Int} : ArgM (.n fr k l) (.n false k l)
  | nil {k : IntKind} : ArgM (.c (.slice none 0 0)) (.n false k [])
  | l {fr : Bool} {sz : Nat} {es : List (List V)} : ArgM (.l fr sz es) (.l false sz es)
theorem ArgM.rel {w : World} {L : Nat → Prop} {B B' : Nat} {ρ : List Re} {y z : V} (h : ArgM y z) {v : Value} (r : Rel w L B ρ y v) : Rel w L B' ρ z v := by
  cases h with
  | same h => exact rel_B _ _ h r
  | n => obtain ⟨A, c, e, h1, h2, h3⟩ := r; exact ⟨A, c, e, h1, h2, fun hl => by obtain ⟨ad, e1, hb, hc⟩ := h3 hl; exact ⟨ad, e1, ⟨hb.1, hb.2.1, by simp⟩, hc⟩⟩
  | nil => rw [show v = .slice none 0 0 from r]; exact rel_nil
  | l => obtain ⟨A, c, e, h1, h2, h3⟩ := r; exact ⟨A, c, e, h1, h2, fun hl => by obtain ⟨ad, e1, hb, hc⟩ := h3 hl; exact ⟨ad, e1, ⟨hb.1, hb.2.1, by simp⟩, hc⟩⟩
def ArgML : List V → List V → Prop
  | [], zs => zs = []
  | y :: ys, zs => ∃ z zs', zs = z :: zs' ∧ ArgM y z ∧ ArgML ys zs'
theorem ArgML.nil : ArgML [] [] := rfl
theorem ArgML.cons {y z : V} {ys zs : List V} (h : ArgM y z) (hs : ArgML ys zs) : ArgML (y :: ys) (z :: zs) := ⟨z, zs, rfl, h, hs⟩
theorem ArgML.rel {w : World} {L : Nat → Prop} {B B' : Nat} {ρ : List Re} : ∀ {ys zs : List V} (us : List Value), ArgML ys zs → RelL w L B ρ ys us → RelL w L B' ρ zs us
  | [], zs, us, h, hr => by rw [show zs = [] from h]; exact hr
  | y :: ys, zs, us, ⟨z, zs', e, h1, h2⟩, ⟨u, us', e2, h3, h4⟩ => by rw [e]; exact ⟨u, us', e2, h1.rel h3, h2.rel us' h4⟩
/-- A call that hands all own objects over. -/
theorem wp_callM {f : FuncId} {fn : Func} {dst : Option Tmp} {T : TypeId} {ps : String} {af : Array Edge} {g : Option (Nat × Bool)} {c : Operand} {args : Array Operand} {ts : Array TypeId} {ys zs : List V} {post : Out → List Ob → Prop}
    (hc : ovO F c = some (.f f [])) (hf : P.funcs[f]? = some fn) (hb : fn.body.isSome = true) (hn : (fn.name == "runtime.NumGoroutine") = false) (hx : ovL F args.toList ys) (ha : ArgML ys zs) (hfl : freshless H) (hs : SpecM P f zs H post) {ρ : List Re} {a : Act} {w : World} (s : StA Γ ρ F H a w) {K : Act → World → Prop} {R : Exit → Act → World → Prop}
    (k : ∀ y v w' H' ρ', post (.ret y) H' → Rel w' (Lset Γ.M ρ' H') Γ.w0.heap.size ρ' y v → StA Γ ρ' F H' a w' → K (a.put dst v) w')
    (kp : ∀ ch w' H' ρ', post (.pan ch) H' → StA Γ ρ' F H' a w' → R (.panic ch) a w') :
    (⟨dst, .call { callee := .value c, args := args, argTypes := ts }, T, ps, af, g⟩ : Oper).wp P a w K R := by
  obtain ⟨us0, hcv, hcr⟩ := s.ov hc
  have hus0 : us0 = [] := hcr
  subst hus0
  have hr := s.ovL hx
  have hargs : args.map a.eval = (args.toList.map a.eval).toArray := by apply Array.ext'; rw [Array.toList_map]
  have hMlt : ∀ b, Γ.M b → b < w.heap.size := fun b h => Nat.lt_of_lt_of_le (s.fro.old b h) s.fro.size
  have hcall := hs Γ.M w ρ (args.toList.map a.eval) hMlt (s.hr.toB hfl) (ha.rel _ hr)
  have hrun : (execOp a.eval ⟨dst, .call { callee := .value c, args := args, argTypes := ts }, T, ps, af, g⟩).run P w = .ok (.enter f (args.toList.map a.eval).toArray) w := by
    have hb' : ¬ fn.body = none := by intro h; rw [h] at hb; cases hb
    have hn' : ¬ fn.name = "runtime.NumGoroutine" := by simpa using hn
    simp [execOp, resolve, hcv, Deferred.ofValue, invoke, callFunc, program, Sem.run, hf]
    rw [if_neg hn', if_neg hb', hargs]
  unfold Oper.wp
  rw [hrun]
  show Calls P f _ w _
  refine hcall.mono fun e w' ⟨o, H', ρ', h1, h2, h3, h4, h5, h6, ev, h8, h9⟩ => ?_
  have ev' : Ev w (Lset Γ.M ρ H) Γ.w0.heap.size ρ w' (Lset Γ.M ρ' H') Γ.w0.heap.size ρ' := ⟨ev.size, ev.blk, ev.lv, Nat.le_refl _, ev.rho⟩
  have s' : StA Γ ρ' F H' a w' := by
    refine ⟨h3.leB s.fro.size, s.n, s.ds, fun t => (s.fr t).ev ev', ⟨h4.trans s.fro.os, h5.trans s.fro.tape, h6.trans s.fro.output, Nat.le_trans s.fro.size ev.size, fun b hlt hnl => ?_, s.fro.old, fun i o r g k1 k2 k3 k4 => ?_, fun i r hi => ?_⟩⟩
    · rw [h9 b (Nat.lt_of_lt_of_le hlt s.fro.size) (by
        rintro ⟨i, o, r, k1, k2, k3, k4⟩
        rcases s.fro.mine i o r b k1 k2 k3 k4 with h | h
        · omega
        · exact hnl h)]
      exact s.fro.blk b hlt hnl
    · rcases h8 i o r g k1 k2 k3 k4 with h | ⟨i', o', r', k1', k2', k3', k4'⟩
      · exact .inl (Nat.le_trans s.fro.size h)
      · exact s.fro.mine i' o' r' g k1' k2' k3' k4'
    · obtain ⟨r1, e1, e2, e3⟩ := s.fro.rho i r hi
      obtain ⟨r2, f1, f2, f3⟩ := ev.rho i r1 e1
      refine ⟨r2, f1, Nat.le_trans e2 f2, fun e => ?_⟩
      have hv1 : r.ver = r1.ver := by omega
      have : r1 = r := e3 hv1
      subst this
      exact f3 e
  cases o with
  | ret y =>
    obtain ⟨v, rfl, hr'⟩ := h2
    exact k y v w' H' ρ' h1 (rel_Ble s.fro.size y v hr') s'
  | pan ch =>
    have : e = .panicked ch := h2
    subst this
    exact kp ch w' H' ρ' h1 s'
theorem jo_callM {f : FuncId} (fn : Func) {ops : Array Oper} {rest : List Oper} {d : Nat} {T : TypeId} {ps : String} {af : Array Edge} {args : Array Operand} {ts : Array TypeId} {c : Operand} {ys zs : List V} {post : Out → List Ob → Prop}
    (hs : SpecM P f zs H post) (hc : ovO F c = some (.f f [])) (hf : P.funcs[f]? = some fn) (hb : fn.body.isSome = true) (hn : (fn.name == "runtime.NumGoroutine") = false) (hx : ovL F args.toList ys) (ha : ArgML ys zs) (hfl : freshless H) (hd : d < Γ.N)
    (k : ∀ y H', post (.ret y) H' → JO P ops rest Γ ((d, y) :: F) H' Q) (kp : ∀ ch H', post (.pan ch) H' → Q (.panic ch) F H') :
    JO P ops (⟨some d, .call { callee := .value c, args := args, argTypes := ts }, T, ps, af, none⟩ :: rest) Γ F H Q := fun a w ⟨ρ, s⟩ =>
  wpList_plain rfl fun K hK => wp_callM hc hf hb hn hx ha hfl hs s (fun y v w' H' ρ' h1 h2 h4 => hK _ _ (k y H' h1 _ _ ⟨ρ', h4.put hd h2⟩)) (fun ch w' H' ρ' h1 h3 => ⟨F, H', kp ch H' h1, ρ', h3⟩)
theorem freshless_nil : freshless [] := fun _ h => by simp at h
theorem freshless_cons {ob : Ob} {H : List Ob} (h : ob.cs.all noFr = true) (hs : freshless H) : freshless (ob :: H) := fun o ho hl y hy => by
  rcases List.mem_cons.1 ho with rfl | ho
  · exact List.all_eq_true.1 h y hy
  · exact hs o ho hl y hy
theorem ints_noFr {k : IntKind} {l : List Int} : (ints k l).all noFr = true := by
  rw [List.all_eq_true]
  intro y hy
  obtain ⟨x, _, rfl⟩ := List.mem_map.1 hy
  rfl
/-- Objects from n on are left behind, n not below what was handed over. -/
theorem StA.cutn {ρ : List Re} {a : Act} {w : World} (n : Nat) (s : StA Γ ρ F H a w) (hO : ObsId n (H.take n)) (hΓ : Γ.ρ0.length ≤ n) : HR Γ.M w Γ.w0.heap.size (ρ.take n) (H.take n) ∧ Fro Γ (ρ.take n) (H.take n) w ∧ (∀ b, Lset Γ.M (ρ.take n) (H.take n) b → Lset Γ.M ρ H b) := by
  have at1 : ∀ (i : Nat) (o : Ob), (H.take n)[i]? = some o → i < n ∧ H[i]? = some o := fun i o h => by
    rw [List.getElem?_take] at h
    split at h
    · exact ⟨by assumption, h⟩
    · cases h
  have at2 : ∀ (i : Nat) (r : Re), (ρ.take n)[i]? = some r → ρ[i]? = some r := fun i r h => by
    rw [List.getElem?_take] at h
    split at h
    · exact h
    · cases h
  have lsub : ∀ b, Lset Γ.M (ρ.take n) (H.take n) b → Lset Γ.M ρ H b := by
    rintro b (h | ⟨i, o, r, h1, h2, h3, h4⟩)
    · exact .inl h
    · exact .inr ⟨i, o, r, (at1 i o h1).2, h2, at2 i r h3, h4⟩
  have ev : Ev w (Lset Γ.M ρ H) Γ.w0.heap.size (ρ.take n) w (Lset Γ.M (ρ.take n) (H.take n)) Γ.w0.heap.size (ρ.take n) :=
    ⟨Nat.le_refl _, fun _ _ _ => rfl, fun b _ hn h => hn (lsub b h), Nat.le_refl _, fun i r h => ⟨r, h, Nat.le_refl _, fun _ => rfl⟩⟩
  refine ⟨⟨by simp [s.hr.len], fun i o h1 h2 => ?_, fun i j oi oj ri rj g hij h1 h2 h3 h4 h5 h6 => s.hr.apart i j oi oj ri rj g hij (at1 i oi h1).2 h2 (at1 j oj h3).2 h4 (at2 i ri h5) (at2 j rj h6), fun i o r g h1 h2 h3 => s.hr.foreign i o r g (at1 i o h1).2 h2 (at2 i r h3)⟩,
    ⟨s.fro.os, s.fro.tape, s.fro.output, s.fro.size, s.fro.blk, s.fro.old, fun i o r g h1 h2 h3 => s.fro.mine i o r g (at1 i o h1).2 h2 (at2 i r h3), fun i r h => ?_⟩, lsub⟩
  · obtain ⟨hin, h1'⟩ := at1 i o h1
    obtain ⟨r, h3, h4⟩ := s.hr.ob i o h1' h2
    refine ⟨r, by rw [List.getElem?_take, if_pos hin]; exact h3, h4.ver, h4.sz, h4.nob, fun g hg => ?_⟩
    obtain ⟨cur, c1, c2, c3, c4, c5⟩ := h4.blk g hg
    exact ⟨cur, c1, c2, c3, c4, fun j y hy => by
      obtain ⟨u, d1, d2, d3⟩ := c5 j y hy
      exact ⟨u, d1, d2, (d3.cut y u (hO o (List.mem_of_getElem? h1) h2 y (List.mem_of_getElem? hy))).ev ev⟩⟩
  · obtain ⟨re', e1, e2, e3⟩ := s.fro.rho i r h
    have : i < n := Nat.lt_of_lt_of_le (List.getElem?_eq_some_iff.1 h).1 hΓ
    exact ⟨re', by rw [List.getElem?_take, if_pos this]; exact e1, e2, e3⟩
/-- What a body has to show where it ends. -/
def qRetM (P : Program) (fn : Func) (n : Nat) (post : Out → List Ob → Prop) : Exit → Fr → List Ob → Prop
  | .ret, F, H | .normal, F, H => ∃ ys, ResL P F H fn.results.toList ys ∧ idB n (packV ys) = true ∧ ObsId n (H.take n) ∧ post (.ret (packV ys)) (H.take n)
  | .panic ch, _, H => ObsId n (H.take n) ∧ post (.pan ch) (H.take n)
  | _, _, _ => False
/-- A contract over objects that are handed over, from its body. -/
theorem specM_of {f : FuncId} {fn : Func} {c : Code} {args : List V} {H0 : List Ob} {post : Out → List Ob → Prop} (F0 : Fr) (h0 : ((args.zipIdx 0).map fun p => (p.2, p.1)) = F0) (n : Nat) (hn0 : H0.length = n) (hf : P.funcs[f]? = some fn) (hb : fn.body = some c) (hn : args.length ≤ fn.ntmps)
    (h : ∀ Γ : Ctx, Γ.N = fn.ntmps → Γ.ds = [] → JC P c Γ F0 H0 (qRetM P fn n post)) : SpecM P f args H0 post := fun M w ρ vals hM hR hr => by
  subst h0
  subst hn0
  refine calls_of_wp hf hb ?_
  have hlen : vals.length = args.length := (relL_one args vals hr).1
  let Γ : Ctx := ⟨fn.ntmps, w, M, ρ, hand ρ H0, []⟩
  have s : StA Γ ρ ((args.zipIdx 0).map fun p => (p.2, p.1)) H0 ⟨vals.toArray ++ Array.replicate (fn.ntmps - vals.toArray.size) undef, []⟩ w := by
    refine ⟨hR, ?_, rfl, fun t => ?_, ⟨rfl, rfl, rfl, Nat.le_refl _, fun _ _ _ => rfl, hM, fun i o r g h1 h2 h3 h4 => .inr ⟨i, o, r, h1, h2, h3, h4⟩, fun i r h => ⟨r, h, Nat.le_refl _, fun _ => rfl⟩⟩⟩
    · show fn.ntmps ≤ (vals.toArray ++ Array.replicate (fn.ntmps - vals.toArray.size) undef).size
      simp; omega
    · have look : ∀ (ys : List V) (k t : Nat), getO ((ys.zipIdx k).map fun p => (p.2, p.1)) t = if k ≤ t then ys[t - k]? else none := by
        intro ys
        induction ys with
        | nil => intro k t; simp [getO]
        | cons y ys ih =>
          intro k t
          simp only [List.zipIdx_cons, List.map_cons, getO]
          cases hb : Nat.beq t k
          · have hne : t ≠ k := by intro e; subst e; simp at hb
            rw [ih (k + 1) t]
            by_cases h1 : k ≤ t
            · rw [if_pos h1, if_pos (by omega), show t - k = (t - (k + 1)) + 1 by omega]; rfl
            · rw [if_neg h1, if_neg (by omega)]; rfl
          · have := Nat.eq_of_beq_eq_true hb
            subst this
            simp
      unfold get
      rw [look args 0 t, if_pos (Nat.zero_le _), Nat.sub_zero]
      cases ht : args[t]? with
      | none => exact trivial
      | some y =>
        obtain ⟨u, hu, hru⟩ := relL_at args vals t y hr ht
        have hlt : t < vals.length := (List.getElem?_eq_some_iff.1 hu).1
        have e : ((vals.toArray ++ Array.replicate (fn.ntmps - vals.toArray.size) undef).getD t undef) = u := by
          rw [Array.getD_eq_getD_getElem?, Array.getElem?_append_left (by simpa using hlt)]
          simp [hu]
        show Rel w (Lset M ρ H0) w.heap.size ρ y ((vals.toArray ++ Array.replicate (fn.ntmps - vals.toArray.size) undef).getD t undef)
        rw [e]
        exact hru
  have hΓlen : Γ.ρ0.length ≤ H0.length := by show ρ.length ≤ _; rw [hR.len]; exact Nat.le_refl _
  have fin : ∀ (F : Fr) (H : List Ob) (ρ1 : List Re) (a : Act) (w' : World), StA Γ ρ1 F H a w' → ObsId H0.length (H.take H0.length) →
      HR M w' w.heap.size (ρ1.take H0.length) (H.take H0.length) ∧ w'.os = w.os ∧ w'.tape = w.tape ∧ w'.output = w.output ∧ Ev w (Lset M ρ H0) w.heap.size ρ w' (Lset M (ρ1.take H0.length) (H.take H0.length)) w.heap.size (ρ1.take H0.length) ∧
      (∀ (id : Nat) (ob : Ob) (re : Re) (g : Nat), (H.take H0.length)[id]? = some ob → ob.live = true → (ρ1.take H0.length)[id]? = some re → re.g = some g → w.heap.size ≤ g ∨ hand ρ H0 g) ∧ (∀ b, b < w.heap.size → ¬ hand ρ H0 b → w'.heap[b]? = w.heap[b]?) := by
    intro F H ρ1 a w' s' hO
    obtain ⟨c1, c2, c3⟩ := s'.cutn H0.length hO hΓlen
    refine ⟨c1, c2.os, c2.tape, c2.output, ⟨c2.size, fun b hlt hL => c2.blk b hlt fun hh => hL (.inr hh), fun b hlt hL hL' => ?_, Nat.le_refl _, c2.rho⟩, fun i o r g h1 h2 h3 h4 => c2.mine i o r g h1 h2 h3 h4, fun b hlt hh => c2.blk b hlt hh⟩
    rcases hL' with hM' | ⟨i, o, r, h1, h2, h3, h4⟩
    · exact hL (.inl hM')
    · rcases c2.mine i o r b h1 h2 h3 h4 with h | h
      · have h' : w.heap.size ≤ b := h
        omega
      · exact hL (.inr h)
  refine Code.wp_mono (fun e a w' ⟨F, H, q, ρ1, s'⟩ => ?_) (h Γ rfl rfl _ _ ⟨_, s⟩)
  have fin2 : ∀ ys, ResL P F H fn.results.toList ys → idB H0.length (packV ys) = true → ObsId H0.length (H.take H0.length) → post (.ret (packV ys)) (H.take H0.length) → a.defers = [] ∧ ∃ v, (Go.results fn a.tmps).run P w' = .ok v w' ∧ ∃ o H' ρ', post o H' ∧ EndRelM w' (Lset M ρ' H') w.heap.size ρ' o (.returned v) ∧ HR M w' w.heap.size ρ' H' ∧
      w'.os = w.os ∧ w'.tape = w.tape ∧ w'.output = w.output ∧ Ev w (Lset M ρ H0) w.heap.size ρ w' (Lset M ρ' H') w.heap.size ρ' ∧
      (∀ (id : Nat) (ob : Ob) (re : Re) (g : Nat), H'[id]? = some ob → ob.live = true → ρ'[id]? = some re → re.g = some g → w.heap.size ≤ g ∨ hand ρ H0 g) ∧ (∀ b, b < w.heap.size → ¬ hand ρ H0 b → w'.heap[b]? = w.heap[b]?) := by
    intro ys h1 h2 h3 h4
    obtain ⟨v, hv, hr'⟩ := s'.results h1
    obtain ⟨f1, f2, f3, f4, f5, f6, f7⟩ := fin F H ρ1 a w' s' h3
    have hcut := hr'.cut (n := H0.length) (packV ys) v h2
    have hl : Rel w' (Lset M (ρ1.take H0.length) (H.take H0.length)) w.heap.size (ρ1.take H0.length) (packV ys) v :=
      hcut.ev ⟨Nat.le_refl _, fun _ _ _ => rfl, fun b _ hn hh => hn ((s'.cutn H0.length h3 hΓlen).2.2 b hh), Nat.le_refl _, fun i r h => ⟨r, h, Nat.le_refl _, fun _ => rfl⟩⟩
    exact ⟨s'.ds, v, hv, .ret (packV ys), _, _, h4, ⟨v, rfl, hl⟩, f1, f2, f3, f4, f5, f6, f7⟩
  cases e with
  | normal => obtain ⟨ys, h1, h2, h3, h4⟩ := q; exact fin2 ys h1 h2 h3 h4
  | ret => obtain ⟨ys, h1, h2, h3, h4⟩ := q; exact fin2 ys h1 h2 h3 h4
  | panic ch =>
    obtain ⟨h3, h4⟩ := q
    obtain ⟨f1, f2, f3, f4, f5, f6, f7⟩ := fin F H ρ1 a w' s' h3
    exact ⟨s'.ds, .pan ch, _, _, h4, rfl, f1, f2, f3, f4, f5, f6, f7⟩
  | _ => exact absurd q (by simp [qRetM])
end
end Go.Proofs.Ytcdipmjgpimmdaa.Vc
