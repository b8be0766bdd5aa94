/- The law RatioAts of every input of bulk at most 1048576: it returns true, and the input reads as it did. Texts joined: VcAB, VcAC, VcAD, VcAE, VcAF, VcAG, VcAH, VcAI, VcAJ, VcAK, VcAL, VcAM, VcAN, VcAO, VcAP, VcAU, VcAV, VcAW, Na, Nb. -/
import Derived.Test.YtnadmljoefecfaaGreatDoorK2
import Derived.Laws.IdiomStrings
import Derived.Laws.BytesArg
import Derived.Recover
set_option linter.unusedVariables false
set_option linter.unusedSimpArgs false
set_option maxHeartbeats 4000000
namespace Go.Proofs.YtnadmljoefecfaaGreatDoor.Vc
open Go Go.RowKit
theorem Mw {w : World} {L : Nat → Prop} {B : Nat} {ρ : List Re} : ∀ (xs ys : List V) (us vs : List Value), RelL w L B ρ xs us → RelL w L B ρ ys vs → RelL w L B ρ (xs ++ ys) (us ++ vs)
  | [], _, us, _, h, h2 => by rw [show us = [] from h]; exact h2
  | x :: xs, ys, _, vs, ⟨u, us', e, h1, h2⟩, h3 => ⟨u, us' ++ vs, by rw [e]; rfl, h1, Mw xs ys us' vs h2 h3⟩
theorem L2 {w : World} {L : Nat → Prop} {B : Nat} {ρ : List Re} : ∀ (xs ys : List V) (us : List Value), RelL w L B ρ (xs ++ ys) us → ∃ u1 u2, us = u1 ++ u2 ∧ RelL w L B ρ xs u1 ∧ RelL w L B ρ ys u2
  | [], ys, us, h => ⟨[], us, rfl, rfl, h⟩
  | x :: xs, ys, _, ⟨u, us', e, h1, h2⟩ => by
    obtain ⟨u1, u2, e2, h3, h4⟩ := L2 xs ys us' h2
    exact ⟨u :: u1, u2, by rw [e, e2]; rfl, ⟨u, u1, rfl, h1, h3⟩, h4⟩
theorem K2 {w : World} {L : Nat → Prop} {B : Nat} {ρ : List Re} : ∀ (ys : List V) (us : List Value), ys.all Fh = true → RelL w L B ρ ys us → RelL w L 0 [] ys us
  | [], _, _, h => h
  | y :: ys, us, hp, ⟨u, us', e, h1, h2⟩ => by
    simp only [List.all_cons, Bool.and_eq_true] at hp
    exact ⟨u, us', e, Mt y u hp.1 h1, K2 ys us' hp.2 h2⟩
theorem P8 {w w' : World} {L L' : Nat → Prop} {B B' : Nat} {ρ ρ' : List Re} (h : Ev w L B ρ w' L' B' ρ') : ∀ (ys : List V) (us : List Value), RelL w L B ρ ys us → RelL w' L' B' ρ' ys us
  | [], _, r => r
  | y :: ys, us, ⟨u, us', e, h1, h2⟩ => ⟨u, us', e, h1.ev h, P8 h ys us' h2⟩
def cyc (f : FuncId) (pre post : List V) : Nat → V
  | 0 => .u
  | n + 1 => .f f (pre ++ .q [cyc f pre post n] :: post)
section
variable {P : Program} {Γ : Ctx} {F : Fr} {H : List Ob} {Q : Exit → Fr → List Ob → Prop}
theorem I5 {f : FuncId} {caps : Array Operand} {ys : List V} (hx : ovL F caps.toList ys) : LY P Γ (.makeFunc (.func f) #[] caps) F H (.f f ys) := fun ρ a w s =>
  ⟨.func (.func f) #[] (caps.map a.eval), ⟨caps.toList.map a.eval, by congr 1; apply Array.ext'; rw [Array.toList_map], s.ovL hx⟩, fun dst type pos after g w' _ => by
    simp [execOp, Instr.makeFunc]⟩
theorem StA.frozenF {ρ : List Re} {a : Act} {w : World} (s : StA Γ ρ F H a w) {id ver T : Nat} {f : FuncId} {pre post : List V} (hH : H[id]? = some ⟨T, 1, ver, true, [.f f (pre ++ .p id ver 0 :: post)]⟩) {v : Value} (r : Rel w (Bb Γ.M ρ H) Γ.w0.heap.size ρ (.p id ver 0) v)
    (hpre : pre.all Fh = true) (hpost : post.all Fh = true) (hp : ∀ b, ¬ Γ.L0 b) (n : Nat) : Rel w (Bb Γ.M ρ (Do H id)) Γ.w0.heap.size ρ (.q [cyc f pre post n]) v := by
  obtain ⟨re, o⟩ := s.own hH rfl
  obtain ⟨re', e1, _, hq⟩ := r
  obtain rfl : re' = re := by have := e1.symm.trans o.at_; injection this
  obtain ⟨g, hg, hv⟩ := hq (o.ok.ver.symm)
  have hok := s.mine_dead hH rfl o.at_ hg hp false
  have ev := s.dead_ev id
  obtain ⟨u, d1, _, d3⟩ := o.cell hg (show [V.f f (pre ++ .p id ver 0 :: post)][0]? = some _ from rfl)
  obtain ⟨us, hu, hr⟩ := d3
  obtain ⟨u1, u2, rfl, h1, h2⟩ := L2 pre _ us hr
  obtain ⟨x, u3, rfl, h3, h4⟩ := h2
  have hx : x = .pointer (some ⟨g, 0, none⟩) := by
    obtain ⟨re2, e2, _, hq2⟩ := h3
    obtain rfl : re2 = re' := by have := e2.symm.trans o.at_; injection this
    obtain ⟨g2, hg2, hv2⟩ := hq2 (o.ok.ver.symm)
    rw [hg] at hg2
    injection hg2 with hg2; subst hg2
    exact hv2
  subst hx
  have key : ∀ n, Rel w (Bb Γ.M ρ (Do H id)) 0 [] (cyc f pre post n) u := by
    intro n
    induction n with
    | zero => trivial
    | succ n ih =>
      exact ⟨u1 ++ .pointer (some ⟨g, 0, none⟩) :: u3, hu, Mw _ _ _ _ (K2 _ _ hpre (P8 ev _ _ h1)) ⟨_, u3, rfl, ⟨⟨g, 0, none⟩, rfl, ⟨hok.1, hok.2.1, by simp⟩, ⟨⟨u, d1, ih⟩, trivial⟩⟩, K2 _ _ hpost (P8 ev _ _ h4)⟩⟩
  rw [hv]
  exact ⟨⟨g, 0, none⟩, rfl, hok, ⟨⟨u, d1, key n⟩, trivial⟩⟩
theorem jc_cyc {c : Code} (t : Nat) {id ver T : Nat} {f : FuncId} (pre post : List V) (n : Nat) (hx : Cj F t = some (.p id ver 0)) (hH : H[id]? = some ⟨T, 1, ver, true, [.f f (pre ++ .p id ver 0 :: post)]⟩) (hpre : pre.all Fh = true) (hpost : post.all Fh = true) (hp : ∀ b, ¬ Γ.L0 b)
    (j : JC P c Γ ((t, .q [cyc f pre post n]) :: F) (Do H id) Q) : JC P c Γ F H Q := fun a w ⟨ρ, s⟩ =>
  j a w ⟨ρ, s.frz id t hx fun v r => s.frozenF hH r hpre hpost hp n⟩
theorem N3 {f : FuncId} {fn : Func} {dst : Option Tmp} {T : TypeId} {ps : String} {af : Array Edge} {g : Option (Nat × Bool)} {c : Operand} {args : Array Operand} {ts : Array TypeId} {ys cs zs : List V} {post : Out → List Ob → Prop}
    (hc : ovO F c = some (.f f cs)) (hf : P.funcs[f]? = some fn) (hb : fn.body.isSome = true) (hn : (fn.name == "runtime.NumGoroutine") = false) (hx : ovL F args.toList ys) (ha : ArgL (ys ++ cs) zs) (hs : SpecM P f zs [] post) (hid : ∀ o G, post o G → F4 G) {ρ : List Re} {a : Act} {w : World} (s : StA Γ ρ F H a w) {K : Act → World → Prop} {R : Exit → Act → World → Prop}
    (k : ∀ y v w' G ρ', post (.ret y) G → Rel w' (Bb Γ.M ρ' (H ++ G)) Γ.w0.heap.size ρ' (sh H.length y) v → Below w.heap.size w w' → StA Γ ρ' F (H ++ G) a w' → K (a.put dst v) w')
    (kp : ∀ ch w' G ρ', post (.pan ch) G → StA Γ ρ' F (H ++ G) a w' → R (.panic ch) a w') :
    (⟨dst, .call { callee := .value c, args := args, argTypes := ts }, T, ps, af, g⟩ : Oper).wp P a w K R := by
  obtain ⟨us0, hcv, hcr⟩ := s.ov hc
  have hr := Mw _ _ _ _ (s.ovL hx) hcr
  have hargs : args.map a.eval ++ us0.toArray = (args.toList.map a.eval ++ us0).toArray := by apply Array.ext'; simp
  have hcall := hs (Bb Γ.M ρ H) w [] (args.toList.map a.eval ++ us0) (fun b h => Jv s h) ⟨rfl, fun i o h => by simp at h, fun i j oi oj ri rj g _ h => by simp at h, fun i o r g h => by simp at h⟩ (by rw [M5]; exact ha.rel _ hr)
  have hrun : (execOp a.eval ⟨dst, .call { callee := .value c, args := args, argTypes := ts }, T, ps, af, g⟩).run P w = .ok (.enter f (args.toList.map a.eval ++ us0).toArray) w := by
    have hb' : ¬ fn.body = none := by intro h; rw [h] at hb; cases hb
    have hn' : ¬ fn.name = "runtime.NumGoroutine" := by simpa using hn
    simp [execOp, resolve, hcv, Deferred.ofValue, invoke, callFunc, program, Sem.run, hf]
    rw [if_neg hn', if_neg hb', hargs]
  unfold Oper.wp
  rw [hrun]
  show Calls P f _ w _
  refine hcall.mono fun e w' ⟨o, G, ρG, h1, h2, h3, h4, h5, h6, ev, h8, h9⟩ => ?_
  have hidG := hid o G h1
  have hnoh : ∀ b, ¬ Jg [] [] b := fun b ⟨i, o, r, hh, _⟩ => by simp at hh
  have hbelow : Below w.heap.size w w' := ⟨h4, h5, h6, ev.size, fun b hlt => h9 b hlt (hnoh b)⟩
  have hold : ∀ b, b < w.heap.size → w'.heap[b]? = w.heap[b]? := hbelow.block
  have hnew : ∀ (id : Nat) (ob : Ob) (re : Re) (g : Nat), G[id]? = some ob → ob.live = true → ρG[id]? = some re → re.g = some g → w.heap.size ≤ g := fun id ob re g k1 k2 k3 k4 => (h8 id ob re g k1 k2 k3 k4).resolve_right (hnoh g)
  have hlen := s.hr.len
  have hL := M6 (M := Γ.M) (ρG := ρG) (G := G) hlen
  have ev2 : Ev w (Bb Γ.M ρ H) Γ.w0.heap.size ρ w' (Bb Γ.M (ρ ++ ρG) (H ++ G)) Γ.w0.heap.size (ρ ++ ρG) := by
    refine ⟨ev.size, fun b hlt _ => hold b hlt, fun b hlt hn h => ?_, Nat.le_refl _, fun i r h => ⟨r, by rw [List.getElem?_append_left (List.getElem?_eq_some_iff.1 h).1]; exact h, Nat.le_refl _, fun _ => rfl⟩⟩
    rw [hL] at h
    rcases h with h | ⟨i, o, r, k1, k2, k3, k4⟩
    · exact hn h
    · have := hnew i o r b k1 k2 k3 k4; omega
  have s' : StA Γ (ρ ++ ρG) F (H ++ G) a w' := by
    refine ⟨⟨by rw [List.length_append, List.length_append, hlen, h3.len], fun i o k1 k2 => ?_, fun i j oi oj ri rj g hij k1 k2 k3 k4 k5 k6 => ?_, fun i o r g k1 k2 k3 k4 => ?_⟩, s.n, s.ds, fun t => (s.fr t).ev ev2, ⟨h4.trans s.fro.os, h5.trans s.fro.tape, h6.trans s.fro.output, Nat.le_trans s.fro.size ev.size, fun b hlt hnl => by rw [hold b (Nat.lt_of_lt_of_le hlt s.fro.size)]; exact s.fro.blk b hlt hnl, s.fro.old, fun i o r g k1 k2 k3 k4 => ?_, fun i r hi => ?_⟩⟩
    · rcases Nat.lt_or_ge i H.length with hlt | hge
      · rw [List.getElem?_append_left hlt] at k1
        obtain ⟨r, k3, k4⟩ := s.hr.ob i o k1 k2
        refine ⟨r, by rw [List.getElem?_append_left (by omega)]; exact k3, k4.ver, k4.sz, k4.nob, fun g hg => ?_⟩
        obtain ⟨cur, c1, c2, c3, c4, c5⟩ := k4.blk g hg
        have hglt : g < w.heap.size := (Array.getElem?_eq_some_iff.1 c1).1
        exact ⟨cur, by rw [hold g hglt]; exact c1, c2, c3, c4, fun j y hy => by obtain ⟨u, d1, d2, d3⟩ := c5 j y hy; exact ⟨u, d1, d2, d3.ev ev2⟩⟩
      · rw [List.getElem?_append_right hge] at k1
        obtain ⟨r, k3, k4⟩ := h3.ob _ o k1 k2
        refine ⟨r, by rw [List.getElem?_append_right (by omega), hlen]; exact k3, k4.ver, k4.sz, k4.nob, fun g hg => ?_⟩
        obtain ⟨cur, c1, c2, c3, c4, c5⟩ := k4.blk g hg
        refine ⟨cur, c1, c2, c3, c4, fun j y hy => ?_⟩
        obtain ⟨u, d1, d2, d3⟩ := c5 j y hy
        refine ⟨u, d1, d2, ?_⟩
        have hcut := d3.cut (n := 0) y u (hidG o (List.mem_of_getElem? k1) k2 y (List.mem_of_getElem? hy))
        rw [List.take_zero] at hcut
        rw [hL]
        exact K1 s.fro.size y u hcut
    · rcases Nat.lt_or_ge i H.length with hi | hi <;> rcases Nat.lt_or_ge j H.length with hj | hj
      · rw [List.getElem?_append_left hi] at k1
        rw [List.getElem?_append_left hj] at k3
        rw [List.getElem?_append_left (by omega)] at k5 k6
        exact s.hr.apart i j oi oj ri rj g hij k1 k2 k3 k4 k5 k6
      · rw [List.getElem?_append_left hi] at k1
        rw [List.getElem?_append_right hj] at k3
        rw [List.getElem?_append_left (by omega)] at k5
        rw [List.getElem?_append_right (by omega), hlen] at k6
        intro hg hg'
        obtain ⟨r, m1, m2⟩ := s.hr.ob i oi k1 k2
        obtain rfl : r = ri := by have := m1.symm.trans k5; injection this
        obtain ⟨cur, c1, _⟩ := m2.blk g hg
        have hglt : g < w.heap.size := (Array.getElem?_eq_some_iff.1 c1).1
        have := hnew _ oj rj g k3 k4 k6 hg'
        omega
      · rw [List.getElem?_append_right hi] at k1
        rw [List.getElem?_append_left hj] at k3
        rw [List.getElem?_append_right (by omega), hlen] at k5
        rw [List.getElem?_append_left (by omega)] at k6
        intro hg hg'
        obtain ⟨r, m1, m2⟩ := s.hr.ob j oj k3 k4
        obtain rfl : r = rj := by have := m1.symm.trans k6; injection this
        obtain ⟨cur, c1, _⟩ := m2.blk g hg'
        have hglt : g < w.heap.size := (Array.getElem?_eq_some_iff.1 c1).1
        have := hnew _ oi ri g k1 k2 k5 hg
        omega
      · rw [List.getElem?_append_right hi] at k1
        rw [List.getElem?_append_right hj] at k3
        rw [List.getElem?_append_right (by omega), hlen] at k5 k6
        exact h3.apart _ _ oi oj ri rj g (by omega) k1 k2 k3 k4 k5 k6
    · rcases Nat.lt_or_ge i H.length with hi | hi
      · rw [List.getElem?_append_left hi] at k1
        rw [List.getElem?_append_left (by omega)] at k3
        exact s.hr.foreign i o r g k1 k2 k3 k4
      · rw [List.getElem?_append_right hi] at k1
        rw [List.getElem?_append_right (by omega), hlen] at k3
        exact fun hM => h3.foreign _ o r g k1 k2 k3 k4 (.inl hM)
    · rcases Nat.lt_or_ge i H.length with hi | hi
      · rw [List.getElem?_append_left hi] at k1
        rw [List.getElem?_append_left (by omega)] at k3
        exact s.fro.mine i o r g k1 k2 k3 k4
      · rw [List.getElem?_append_right hi] at k1
        rw [List.getElem?_append_right (by omega), hlen] at k3
        have := hnew _ o r g k1 k2 k3 k4
        exact .inl (Nat.le_trans s.fro.size this)
    · obtain ⟨r1, e1, e2, e3⟩ := s.fro.rho i r hi
      exact ⟨r1, by rw [List.getElem?_append_left (List.getElem?_eq_some_iff.1 e1).1]; exact e1, e2, e3⟩
  cases o with
  | ret y =>
    obtain ⟨v, rfl, hr'⟩ := h2
    refine k y v w' G (ρ ++ ρG) h1 ?_ hbelow s'
    rw [hL, ← hlen]
    exact Ik s.fro.size _ v (Rel.sh y v hr')
  | pan ch =>
    have : e = .panicked ch := h2
    subst this
    exact kp ch w' G _ h1 s'
theorem Vz {f : FuncId} (fn : Func) {ops : Array Oper} {rest : List Oper} {d : Nat} {T : TypeId} {ps : String} {af : Array Edge} {args : Array Operand} {ts : Array TypeId} {c : Operand} {ys cs zs : List V} {post : Out → List Ob → Prop}
    (hs : SpecM P f zs [] post) (hid : ∀ o G, post o G → F4 G) (hc : ovO F c = some (.f f cs)) (hf : P.funcs[f]? = some fn) (hb : fn.body.isSome = true) (hn : (fn.name == "runtime.NumGoroutine") = false) (hx : ovL F args.toList ys) (ha : ArgL (ys ++ cs) zs) (hd : d < Γ.N)
    (k : ∀ y G, post (.ret y) G → JO P ops rest Γ ((d, sh H.length y) :: F) (H ++ G) Q) (kp : ∀ ch G, post (.pan ch) G → Q (.panic ch) F (H ++ G)) :
    JO P ops (⟨some d, .call { callee := .value c, args := args, argTypes := ts }, T, ps, af, none⟩ :: rest) Γ F H Q := fun a w ⟨ρ, s⟩ =>
  wpList_plain rfl fun K hK => N3 hc hf hb hn hx ha hs hid s (fun y v w' G ρ' h1 h2 _ h4 => hK _ _ (k y G h1 _ _ ⟨ρ', h4.put hd h2⟩)) (fun ch w' G ρ' h1 h3 => ⟨F, H ++ G, kp ch G h1, ρ', h3⟩)
theorem O3 {ops : Array Oper} {f : FuncId} (fn : Func) {d : Nat} {T : TypeId} {ps : String} {af : Array Edge} {args : Array Operand} {ts : Array TypeId} {c : Operand} {ys cs zs : List V} {post : Out → List Ob → Prop} {R : Fr → List Ob → Prop}
    (hs : SpecM P f zs [] post) (hid : ∀ o G, post o G → F4 G) (hc : ovO F c = some (.f f cs)) (hf : P.funcs[f]? = some fn) (hb : fn.body.isSome = true) (hn : (fn.name == "runtime.NumGoroutine") = false) (hx : ovL F args.toList ys) (ha : ArgL (ys ++ cs) zs) (hd : d < Γ.N)
    (k : ∀ y G, post (.ret y) G → R ((d, sh H.length y) :: F) (H ++ G)) (kp : ∀ ch G, post (.pan ch) G → Q (.panic ch) F (H ++ G)) :
    JS P ops Γ ⟨some d, .call { callee := .value c, args := args, argTypes := ts }, T, ps, af, none⟩ F H Q R := fun a w ⟨ρ, s⟩ =>
  ⟨rfl, N3 hc hf hb hn hx ha hs hid s (fun y v w' G ρ' h1 h2 h3 h4 => ⟨fun _ => Jb h3, _, _, k y G h1, ρ', h4.put hd h2⟩) (fun ch w' G ρ' h1 h3 => ⟨F, H ++ G, kp ch G h1, ρ', h3⟩)⟩
end

inductive SelD (H : List Ob) (sel0 : List Nat) : List Nat → List Ob → Prop
  | nil : SelD H sel0 [] []
  | cons {i t sz ver : Nat} {sel : List Nat} {cs cs' : List V} {H0 : List Ob} (h : H[i]? = some ⟨t, sz, ver, true, cs'⟩) (hc : cs' = renL sel0 cs) (hs : SelD H sel0 sel H0) : SelD H sel0 (i :: sel) (⟨t, sz, ver, true, cs⟩ :: H0)
  | dead {i t sz ver : Nat} {sel : List Nat} {cs : List V} {H0 : List Ob} (hs : SelD H sel0 sel H0) : SelD H sel0 (i :: sel) (⟨t, sz, ver, false, cs⟩ :: H0)
theorem SelD.len {H : List Ob} {sel0 sel : List Nat} {H0 : List Ob} (h : SelD H sel0 sel H0) : sel.length = H0.length := by
  induction h with
  | nil => rfl
  | cons _ _ _ ih => simp [ih]
  | dead _ ih => simp [ih]
theorem SelD.at_ {H : List Ob} {sel0 sel : List Nat} {H0 : List Ob} (h : SelD H sel0 sel H0) : ∀ {j : Nat} {o : Ob}, H0[j]? = some o → o.live = true → ∃ i, sel[j]? = some i ∧ H[i]? = some { o with cs := renL sel0 o.cs } := by
  induction h with
  | nil => intro j o h; simp at h
  | cons h hc _ ih =>
    intro j o hj hl
    cases j with
    | zero => simp at hj; subst hj; exact ⟨_, rfl, hc ▸ h⟩
    | succ j => simp at hj; obtain ⟨i, e1, e2⟩ := ih hj hl; exact ⟨i, by simpa using e1, e2⟩
  | dead _ ih =>
    intro j o hj hl
    cases j with
    | zero => simp at hj; subst hj; cases hl
    | succ j => simp at hj; obtain ⟨i, e1, e2⟩ := ih hj hl; exact ⟨i, by simpa using e1, e2⟩
section
variable {P : Program} {Γ : Ctx} {F : Fr} {H : List Ob} {Q : Exit → Fr → List Ob → Prop}
theorem Vl {sel : List Nat} {n : Nat} (h : ∀ i, i < n → sel[i]? = some i) {i : Nat} (hi : Nat.blt i n = true) : sel.getD i 0 = i := by
  rw [List.getD_eq_getElem?_getD, h i (by simpa using hi)]; rfl
mutual
theorem Adr (sel : List Nat) (n : Nat) (h : ∀ i, i < n → sel[i]? = some i) : ∀ y, idB n y = true → ren sel y = y
  | .p id ver off, h1 => by
    simp only [ren]; rw [Vl h h1]
  | .o id ver off len, h1 => by
    simp only [ren]; rw [Vl h h1]
  | .f fn cs, h1 => by simp only [ren]; rw [Kb sel n h cs h1]
  | .a cs, h1 => by simp only [ren]; rw [Kb sel n h cs h1]
  | .t cs, h1 => by simp only [ren]; rw [Kb sel n h cs h1]
  | .i _ _, _ => rfl
  | .b _, _ => rfl
  | .s _, _ => rfl
  | .c _, _ => rfl
  | .n _ _ _, _ => rfl
  | .l _ _ _, _ => rfl
  | .q _, _ => rfl
  | .u, _ => rfl
theorem Kb (sel : List Nat) (n : Nat) (h : ∀ i, i < n → sel[i]? = some i) : ∀ ys, Qp n ys = true → renL sel ys = ys
  | [], _ => rfl
  | y :: ys, h1 => by
    simp only [Qp, Bool.and_eq_true] at h1
    simp only [renL]; rw [Adr sel n h y h1.1, Kb sel n h ys h1.2]
end
mutual
theorem Zm {n m : Nat} (h : n ≤ m) : ∀ y, idB n y = true → idB m y = true
  | .p id ver off, h1 => by simp only [idB, Nat.blt_eq] at h1 ⊢; omega
  | .o id ver off len, h1 => by simp only [idB, Nat.blt_eq] at h1 ⊢; omega
  | .f fn cs, h1 => I8 h cs h1
  | .a cs, h1 => I8 h cs h1
  | .t cs, h1 => I8 h cs h1
  | .i _ _, _ => rfl
  | .b _, _ => rfl
  | .s _, _ => rfl
  | .c _, _ => rfl
  | .n _ _ _, _ => rfl
  | .l _ _ _, _ => rfl
  | .q _, _ => rfl
  | .u, _ => rfl
theorem I8 {n m : Nat} (h : n ≤ m) : ∀ ys, Qp n ys = true → Qp m ys = true
  | [], _ => rfl
  | y :: ys, h1 => by
    simp only [Qp, Bool.and_eq_true] at h1 ⊢
    exact ⟨Zm h y h1.1, I8 h ys h1.2⟩
end
def putS {α : Type} : List Nat → List α → List α → List α
  | [], xs, new => xs ++ new
  | i :: sel, xs, x :: new => putS sel (xs.set i x) new
  | _ :: _, xs, [] => xs
def numS (sel : List Nat) (n j : Nat) : Nat := if j < sel.length then sel.getD j 0 else n + (j - sel.length)
def backS (sel : List Nat) (n k : Nat) : List Nat := (List.range k).map (numS sel n)
end

def renO (σ : List Nat) (G : List Ob) : List Ob := G.map fun o => { o with cs := renL σ o.cs }
mutual
theorem Rel.ren {w : World} {L : Nat → Prop} {B : Nat} {ρ ρ2 : List Re} {σ : List Nat} (h : ∀ (i : Nat) (re : Re), ρ[i]? = some re → ρ2[σ.getD i 0]? = some re) : ∀ (y : V) (v : Value), Rel w L B ρ y v → Rel w L B ρ2 (Vc.ren σ y) v
  | .i _ _, _, h1 => h1
  | .b _, _, h1 => h1
  | .s _, _, h1 => h1
  | .c _, _, h1 => h1
  | .n _ _ _, _, h1 => h1
  | .l _ _ _, _, h1 => h1
  | .q _, _, h1 => h1
  | .u, _, _ => trivial
  | .p id ver off, v, ⟨re, h1, h2⟩ => ⟨re, h id re h1, h2⟩
  | .o id ver off len, v, ⟨re, h1, h2⟩ => ⟨re, h id re h1, h2⟩
  | .f fn cs, v, ⟨us, e, h1⟩ => ⟨us, e, RelL.ren h cs us h1⟩
  | .a cs, v, ⟨us, e, h1⟩ => ⟨us, e, RelL.ren h cs us h1⟩
  | .t cs, v, ⟨us, e, h1⟩ => ⟨us, e, RelL.ren h cs us h1⟩
theorem RelL.ren {w : World} {L : Nat → Prop} {B : Nat} {ρ ρ2 : List Re} {σ : List Nat} (h : ∀ (i : Nat) (re : Re), ρ[i]? = some re → ρ2[σ.getD i 0]? = some re) : ∀ (ys : List V) (us : List Value), RelL w L B ρ ys us → RelL w L B ρ2 (Vc.renL σ ys) us
  | [], _, h1 => h1
  | y :: ys, us, ⟨u, us', e, h1, h2⟩ => ⟨u, us', e, Rel.ren h y u h1, RelL.ren h ys us' h2⟩
end
section
variable {P : Program} {Γ : Ctx} {F : Fr} {H : List Ob} {Q : Exit → Fr → List Ob → Prop}
end

section
variable {P : Program} {Γ : Ctx} {F : Fr} {H : List Ob} {Q : Exit → Fr → List Ob → Prop}
theorem V0 {ops : Array Oper} {rest : List Oper} {d T E bytes id ver len : Nat} {ty : TypeId} {ps : String} {af : Array Edge} {z : Value} {x y : Operand} {yy : V} {k : IntKind} {C : List Int} {v : Int} (hT : elP P T E 1 bytes z) (hx : ovO F x = some (.o id ver 0 len)) (hH : H[id]? = some ⟨E, 1, ver, true, ints k C⟩) (hle : len ≤ C.length) (hy : ovO F y = some yy) (hsrc : Src Γ H yy 1 1 (ints k [v]))
    (hb : (len + 1) * bytes ≤ 140737488355328) (h63 : len + 1 ≤ maxLen) (hd : d < Γ.N) (j : ∀ ver' C', len + 1 ≤ C'.length → C'.take (len + 1) = C.take len ++ [v] → JO P ops rest Γ ((d, .o id ver' 0 (len + 1)) :: F) (H.set id ⟨E, 1, ver', true, ints k C'⟩) Q) :
    JO P ops (⟨some d, .call { callee := .builtin .append, args := #[x, y], argTypes := #[T, T] }, ty, ps, af, none⟩ :: rest) Γ F H Q := by
  rcases Nat.lt_or_ge len C.length with hlt | hge
  · refine Zg hT hx hH hy hsrc (by decide) (by rw [Cs]; omega) hd ?_
    rw [Nat.mul_one, show ints k [v] = [.i k v] from rfl, Kx]
    refine j ver (C.set len v) (by rw [List.length_set]; omega) ?_
    rw [List.take_add_one, List.take_set_of_le (Nat.le_refl _), List.getElem?_set_self hlt]
    rfl
  · refine O6 hT hx hH (by rw [Cs]; omega) hy hsrc hb h63 hd ?_
    rw [D9]
    refine j (ver + 1) (C ++ [v]) (by rw [List.length_append]; simp; omega) ?_
    rw [List.take_of_length_le (by rw [List.length_append]; simp; omega), List.take_of_length_le hge]
theorem Qk {T : TypeId} {x : Operand} {y : V} {ys : List V} (hT : Iq P T = true) (hx : ovO F x = some (.q (y :: ys))) (hz : Y5 y = true) : LY P Γ (.load T x) F H y := fun ρ a w s => by
  obtain ⟨ad, hv, _, ⟨u, hc, hr⟩, _⟩ := s.ov hx
  refine ⟨u, K1 (Nat.le_refl _) _ _ (Uu _ _ hz hr), fun _ _ _ _ _ w' hw' => ?_⟩
  have e : (Instr.loadAt T (a.eval x)).run P w' = .ok u w' := by rw [hv]; exact Gf hT (hw' _ _ (by simpa [Addr.add] using hc))
  exact Ej e
theorem Zi {c : Code} (i : Nat) {idB tB szB verB id ver len T sz : Nat} {csB cs : List V} (rows : List (List V)) (hB : (Do H id)[idB]? = some ⟨tB, szB, verB, true, csB⟩) (hi : csB[i]? = some (.o id ver 0 len)) (hH : H[id]? = some ⟨T, sz, ver, true, cs⟩) (hcs : cs = rows.flatten) (hlen : rows.length = len) (hsz : ∀ r ∈ rows, r.length = sz)
    (hpu : ∀ r ∈ rows, r.all Fh = true) (h0 : 0 < sz) (hp : ∀ b, ¬ Γ.L0 b) (j : JC P c Γ F ((Do H id).set idB ⟨tB, szB, verB, true, csB.set i (.l true sz rows)⟩) Q) : JC P c Γ F H Q := fun a w ⟨ρ, s⟩ => by
  have h2 := (s.dead id).recell (cs := csB) (cs' := csB.set i (.l true sz rows)) hB (by simp) ?_
  · exact j a w ⟨_, h2⟩
  intro k y' hy'
  rcases Cy hy' with ⟨rfl, rfl⟩ | ⟨hne, hy⟩
  · exact ⟨_, hi, fun u _ hu => s.frozenR hH hu hcs hlen hsz hpu h0 hp⟩
  · exact ⟨y', hy, fun u _ hu => hu⟩
theorem js_app {ops : Array Oper} {d T E sz bytes m id ver len : Nat} {ty : TypeId} {ps : String} {af : Array Edge} {z : Value} {x y : Operand} {yy : V} {zs cs : List V} {R : Fr → List Ob → Prop} (hT : elP P T E sz bytes z) (hx : ovO F x = some (.o id ver 0 len)) (hH : H[id]? = some ⟨E, sz, ver, true, cs⟩) (hcs : cs.length = len * sz) (hy : ovO F y = some yy) (hsrc : Src Γ H yy sz m zs)
    (hb : (len + m) * bytes ≤ 140737488355328) (h63 : len + m ≤ maxLen) (hd : d < Γ.N) (hm : Ha ⟨some d, .call { callee := .builtin .append, args := #[x, y], argTypes := #[T, T] }, ty, ps, af, none⟩ = false) (k : R ((d, .o id (ver + 1) 0 (len + m)) :: F) (H.set id ⟨E, sz, ver + 1, true, cs ++ zs⟩)) :
    JS P ops Γ ⟨some d, .call { callee := .builtin .append, args := #[x, y], argTypes := #[T, T] }, ty, ps, af, none⟩ F H Q R := fun a w ⟨ρ, s⟩ => by
  obtain ⟨v, w', ρ', r, s', hr⟩ := Aav hT hx hH hcs hy hsrc hb h63 ρ a w s
  refine ⟨rfl, ?_⟩
  unfold Oper.wp
  rw [hr _ _ _ _ _]
  exact ⟨fun e => by rw [hm] at e; simp at e, _, _, k, ρ', s'.put hd r⟩
theorem Ag5 {id ver off len t : Nat} {k : IntKind} {C : List Int} (hH : H[id]? = some ⟨t, 1, ver, true, ints k C⟩) (hle : off + len ≤ C.length) : Src Γ H (.o id ver off len) 1 len (ints k ((C.drop off).take len)) :=
  ⟨by rw [Cs, List.length_take, List.length_drop]; omega, fun ρ F a w s v r => by
    obtain ⟨re, o⟩ := s.own hH rfl
    obtain ⟨re', e1, hle', hp⟩ := r
    obtain rfl : re' = re := by have := e1.symm.trans o.at_; injection this
    obtain ⟨hcap, ⟨g, ad, hg, hv, had⟩ | ⟨hg, hv, ho, hl⟩⟩ := hp (o.ok.ver.symm)
    · obtain ⟨cur, c1, c2, c3, c4, c5⟩ := o.ok.blk g hg
      have key : ∀ j, j < len → ∃ x, C[off + j]? = some x ∧ w.cell? (ad.add j) = some (.int k x) := fun j hj => by
        have hlt : off + j < C.length := by omega
        have h1 : (ints k C)[off + j]? = some (.i k C[off + j]) := by rw [G3, List.getElem?_eq_getElem hlt]; rfl
        obtain ⟨u, d1, d2, d3⟩ := o.cell hg h1
        have hz : re'.sz = 1 := o.ok.sz
        rw [had (.inl (by rw [Cs] at c3; have : cur.size = re'.cap * 1 := c2; omega)), hz, Ck, Nat.mul_one, d1]
        exact ⟨C[off + j], List.getElem?_eq_getElem hlt, by rw [show u = .int k C[off + j] from d3]⟩
      refine ⟨some ad, re'.cap - off, ((C.drop off).take len).map (Value.int k), hv, by rw [List.length_map, List.length_take, List.length_drop]; omega, by intro u hu; obtain ⟨x, _, rfl⟩ := List.mem_map.1 hu; rfl, fun _ => ⟨ad, rfl, fun j u hu => ?_⟩, fun j z hz => ?_⟩
      · rw [List.getElem?_map, List.getElem?_take] at hu
        by_cases hj : j < len
        · rw [if_pos hj, List.getElem?_drop] at hu
          obtain ⟨x, hx1, hx2⟩ := key j hj
          rw [hx1] at hu
          injection hu with hu
          rw [← hu]; exact hx2
        · rw [if_neg hj] at hu; cases hu
      · rw [G3] at hz
        rw [List.getElem?_map]
        cases hx : ((C.drop off).take len)[j]? with
        | none => rw [hx] at hz; cases hz
        | some x => rw [hx] at hz; injection hz with hz; exact ⟨_, rfl, by rw [← hz]; rfl⟩
    · subst ho; subst hl
      exact ⟨none, 0, [], hv, by simp, by simp, by simp, fun j z hz => by simp [ints] at hz⟩⟩
theorem SpecM.ver0 {f : FuncId} {args : List V} {T sz len : Nat} {cs : List V} (hcs : cs.all (idB 0) = true) (h : SpecM P f args [] (fun o G => ∃ ver, o = .ret (.o 0 ver 0 len) ∧ G = [⟨T, sz, ver, true, cs⟩])) : SpecM P f args [] (fun o G => o = .ret (.o 0 0 0 len) ∧ G = [⟨T, sz, 0, true, cs⟩]) :=
  fun M w ρ vals h1 h2 h3 => (h M w ρ vals h1 h2 h3).mono fun e w' ⟨o, H', ρ', ⟨ver, ho, hH⟩, r1, r2, r3, r4, r5, ev, r8, r9⟩ => by
    subst ho; subst hH
    obtain ⟨re, rfl⟩ : ∃ re, ρ' = [re] := by
      have hl := r2.len
      match ρ', hl with
      | [re], _ => exact ⟨re, rfl⟩
    obtain ⟨re', k1, k2⟩ := r2.ob 0 _ rfl rfl
    obtain rfl : re = re' := by simpa using k1
    have hρ : ρ = [] := by
      have := h2.len
      simpa using this
    have hL : ∀ b, Bb M [{ re with ver := 0 }] [(⟨T, sz, 0, true, cs⟩ : Ob)] b ↔ Bb M [re] [(⟨T, sz, ver, true, cs⟩ : Ob)] b := fun b => by
      constructor
      · rintro (h | ⟨i, ob, r, m1, m2, m3, m4⟩)
        · exact .inl h
        · cases i with
          | zero => simp at m3; subst m3; exact .inr ⟨0, _, re, rfl, rfl, rfl, m4⟩
          | succ i => simp at m1
      · rintro (h | ⟨i, ob, r, m1, m2, m3, m4⟩)
        · exact .inl h
        · cases i with
          | zero => simp at m3; subst m3; exact .inr ⟨0, _, { re with ver := 0 }, rfl, rfl, rfl, m4⟩
          | succ i => simp at m1
    have hLe : Bb M [{ re with ver := 0 }] [(⟨T, sz, 0, true, cs⟩ : Ob)] = Bb M [re] [(⟨T, sz, ver, true, cs⟩ : Ob)] := funext fun b => propext (hL b)
    obtain ⟨v, rfl, re2, e1, e2, e3⟩ := r1
    obtain rfl : re = re2 := by simpa using e1
    refine ⟨_, _, [{ re with ver := 0 }], ⟨rfl, rfl⟩, ⟨v, rfl, { re with ver := 0 }, rfl, Nat.le_refl _, fun _ => e3 k2.ver.symm⟩, ⟨rfl, fun i ob m1 m2 => ?_, fun i j oi oj ri rj g hij m1 m2 m3 => ?_, fun i ob r g m1 m2 m3 m4 => ?_⟩, r3, r4, r5, ⟨ev.size, ev.blk, fun b hb hn => by rw [hLe]; exact ev.lv b hb hn, ev.bb, fun i r hi => by rw [hρ] at hi; simp at hi⟩, fun i ob r g m1 m2 m3 m4 => ?_, r9⟩
    · cases i with
      | zero =>
        simp at m1; subst m1
        refine ⟨_, rfl, rfl, k2.sz, k2.nob, fun g hg => ?_⟩
        obtain ⟨cur, c1, c2, c3, c4, c5⟩ := k2.blk g hg
        refine ⟨cur, c1, c2, c3, c4, fun j y hy => ?_⟩
        obtain ⟨u, d1, d2, d3⟩ := c5 j y hy
        refine ⟨u, d1, d2, ?_⟩
        have hcut := d3.cut (n := 0) y u (List.all_eq_true.1 hcs y (List.mem_of_getElem? hy))
        rw [hLe]
        exact K1 (Nat.le_refl _) y u hcut
      | succ i => simp at m1
    · cases i with
      | zero =>
        cases j with
        | zero => exact absurd rfl hij
        | succ j => simp at m3
      | succ i => simp at m1
    · cases i with
      | zero => simp at m1 m3; subst m1; subst m3; exact r2.foreign 0 _ re g rfl rfl rfl m4
      | succ i => simp at m1
    · cases i with
      | zero => simp at m1 m3; subst m1; subst m3; exact r8 0 _ re g rfl rfl rfl m4
      | succ i => simp at m1
end

section
variable {P : Program} {Γ : Ctx} {F : Fr} {H : List Ob} {Q : Exit → Fr → List Ob → Prop}
theorem Air {T E T' : TypeId} {x : Operand} {fr : Bool} {s : ByteArray} (hT : P.underlying T = some (.slice E)) (hE : P.underlying E = some (.int .u8)) (hD : P.underlying T' = some .string) (hx : ovO F x = some (.n fr .u8 (Gq s))) : LY P Γ (.convert T T' x) F H (.s s) := fun ρ a w st => by
  obtain ⟨A, c, hv, h1, h2, h3⟩ := st.ov hx
  refine ⟨.string s, rfl, fun _ _ _ _ _ w' hw' => ?_⟩
  have e : (convert T T' (a.eval x)).run P w' = .ok (.string s) w' := by
    rw [hv, Mc]
    cases A with
    | none =>
      have hn : Gq s = [] := by
        cases hb : Gq s with
        | nil => rfl
        | cons y ys =>
          obtain ⟨ad, e1, _⟩ := h3 (by rw [hb]; simp)
          cases e1
      have hs : s = ByteArray.empty := by
        apply ByteArray.ext
        apply Array.toList_inj.1
        have : s.data.toList = [] := by
          unfold Gq at hn
          exact List.map_eq_nil_iff.1 hn
        rw [this]; rfl
      rw [Go.run_convert_bytes_nil (P := P) w' T E hT hE _ _ T' hD, hs]
    | some ad =>
      have h4 := Go.run_convert_bytes_back (P := P) w' T T' E ad c s.data.toList hT hE hD (fun j hj => by
        have hj' : (Gq s)[j]? = some (((s.data.toList[j]).toNat : Nat) : Int) := by
          unfold Gq
          rw [List.getElem?_map, List.getElem?_eq_getElem hj]; rfl
        obtain ⟨ad2, e1, hb, hc⟩ := h3 (by intro e; rw [e] at hj'; simp at hj')
        injection e1 with e1; subst e1
        exact hw' _ _ (hc j _ hj'))
      have hsz : s.data.toList.length = s.size := by simp
      rw [hsz] at h4
      exact h4
  exact Ej e
end

def GoodM (M : Nat → Prop) (c : Nat → V) (g : Nat) (w : World) : Prop :=
  ∃ es ck, w.heap[g]? = some (.map es ck) ∧ ∀ e ∈ es.toList, ∃ n : Nat, e.key = .int .i64 (n : Int) ∧ Rel w M 0 [] (c n) e.val
theorem GoodM.ev {M : Nat → Prop} {c : Nat → V} {g : Nat} {w w' : World} (h : GoodM M c g w) (hg : w'.heap[g]? = w.heap[g]?) (hs : w.heap.size ≤ w'.heap.size) (hb : ∀ b, b < w.heap.size → ¬ M b → w'.heap[b]? = w.heap[b]?) : GoodM M c g w' := by
  obtain ⟨es, ck, h1, h2⟩ := h
  refine ⟨es, ck, hg.trans h1, fun e he => ?_⟩
  obtain ⟨n, h3, h4⟩ := h2 e he
  exact ⟨n, h3, h4.ev ⟨hs, hb, fun _ _ h => h, Nat.le_refl _, fun i r h => by simp at h⟩⟩
structure CtxM (Γ : Ctx) (g : Nat) : Prop where
  m : Γ.M g
  l0 : ∀ b, Γ.L0 b ↔ b = g
  lt : g < Γ.w0.heap.size
  rho : Γ.ρ0 = []
def SpecX (P : Program) (f : FuncId) (args : List V) (c : Nat → V) (g : Nat) (post : Out → Prop) : Prop :=
  ∀ (M : Nat → Prop) (w : World) (vals : List Value), (∀ b, M b → b < w.heap.size) → M g → GoodM M c g w → RelL w M w.heap.size [] args vals →
    Calls P f vals.toArray w fun e w' => ∃ o, post o ∧ Ie w' M w.heap.size o e ∧ GoodM M c g w' ∧ w'.os = w.os ∧ w'.tape = w.tape ∧ w'.output = w.output ∧ w.heap.size ≤ w'.heap.size ∧ ∀ b, b < w.heap.size → b ≠ g → w'.heap[b]? = w.heap[b]?
theorem SpecX.mono {P : Program} {f : FuncId} {args : List V} {c : Nat → V} {g : Nat} {post post' : Out → Prop} (h : SpecX P f args c g post) (hp : ∀ o, post o → post' o) : SpecX P f args c g post' :=
  fun M w vals h1 h2 h3 h4 => (h M w vals h1 h2 h3 h4).mono fun e w' ⟨o, k1, k2⟩ => ⟨o, hp o k1, k2⟩
section
variable {P : Program} {Γ : Ctx} {c : Nat → V} {g : Nat} {F : Fr} {𝒬 : Exit → Act → World → Prop}
def JCM (P : Program) (x : Code) (Γ : Ctx) (c : Nat → V) (g : Nat) (F : Fr) (𝒬 : Exit → Act → World → Prop) : Prop := ∀ a w, StA Γ [] F [] a w → GoodM Γ.M c g w → x.wp P 𝒬 a w
def JOM (P : Program) (ops : Array Oper) (l : List Oper) (Γ : Ctx) (c : Nat → V) (g : Nat) (F : Fr) (𝒬 : Exit → Act → World → Prop) : Prop := ∀ a w, StA Γ [] F [] a w → GoodM Γ.M c g w → wpList P ops 𝒬 l a w
def JAM (P : Program) (ops : Array Oper) (fuel : Nat) (listed : Array Bool) (Γ : Ctx) (c : Nat → V) (g : Nat) (F : Fr) (𝒬 : Exit → Act → World → Prop) : Prop := ∀ a w, StA Γ [] F [] a w → GoodM Γ.M c g w → H8 P ops 𝒬 fuel listed a w
def qRetX (P : Program) (fn : Func) (Γ : Ctx) (c : Nat → V) (g : Nat) (post : Out → Prop) : Exit → Act → World → Prop
  | .ret, a, w | .normal, a, w => ∃ F ys, StA Γ [] F [] a w ∧ GoodM Γ.M c g w ∧ ResL P F [] fn.results.toList ys ∧ post (.ret (I2 ys))
  | _, _, _ => False
end

section
variable {P : Program} {Γ : Ctx} {c : Nat → V} {g : Nat} {F : Fr} {H : List Ob} {𝒬 : Exit → Act → World → Prop}
def JCP (P : Program) (x : Code) (Γ : Ctx) (F : Fr) (H : List Ob) (𝒬 : Exit → Act → World → Prop) : Prop := ∀ a w, St Γ F H a w → x.wp P 𝒬 a w
def QS (Γ : Ctx) (𝒬 : Exit → Act → World → Prop) : Exit → Fr → List Ob → Prop := fun e F' H' => ∀ a w, St Γ F' H' a w → 𝒬 e a w
theorem E7 {x y : Code} (j : JC P x Γ F H (K7 (fun F' H' => JCP P y Γ F' H' 𝒬) (QS Γ 𝒬))) : JCP P (.seq x y) Γ F H 𝒬 := fun a w s =>
  wp_seq (Code.wp_mono (fun e a' w' ⟨F', H', q, s'⟩ => by
    cases e <;> first | exact q a' w' s') (j a w s))
end
theorem Spec.weak {P : Program} {f : FuncId} {args : List V} {post post' : Out → Prop} (h : Spec P f args post) (hw : ∀ o, post o → ∃ o', post' o' ∧ ∀ (w : World) (M : Nat → Prop) (B : Nat) (e : Ending), Ie w M B o e → Ie w M B o' e) : Spec P f args post' := fun M w vals h1 h2 =>
  (h M w vals h1 h2).mono fun e w' ⟨o, k1, k2, k3⟩ => by
    obtain ⟨o', q1, q2⟩ := hw o k1
    exact ⟨o', q1, q2 _ _ _ _ k2, k3⟩
theorem end_nn {w : World} {M : Nat → Prop} {B : Nat} {e : Ending} {fr : Bool} {k : IntKind} {l : List Int} (h : Ie w M B (.ret (.n fr k l)) e) : Ie w M B (.ret (.n false k l)) e := by
  obtain ⟨v, h1, A, c, e, h3, h4, h5⟩ := h
  exact ⟨v, h1, A, c, e, h3, h4, fun hl => by obtain ⟨ad, e1, hb, hc⟩ := h5 hl; exact ⟨ad, e1, ⟨hb.1, hb.2.1, by simp⟩, hc⟩⟩
theorem Spec.nn {P : Program} {f : FuncId} {args : List V} {fr : Bool} {k : IntKind} {l : List Int} (h : Spec P f args (fun o => o = .ret (.n fr k l))) : Spec P f args (fun o => o = .ret (.n false k l)) :=
  h.weak fun o ho => by subst ho; exact ⟨_, rfl, fun _ _ _ _ h => end_nn h⟩

section
variable {P : Program} {Γ : Ctx} {c : Nat → V} {g : Nat} {F : Fr} {H : List Ob} {𝒬 : Exit → Act → World → Prop}
theorem Oper.wp_monoQ {o : Oper} {a : Act} {w : World} {K K' : Act → World → Prop} {Q Q' : Exit → Act → World → Prop} (h : ∀ a w, K a w → K' a w) (hq : ∀ e a w, Q e a w → Q' e a w) (hh : o.wp P a w K Q) : o.wp P a w K' Q' := by
  unfold Oper.wp at *
  generalize (execOp a.eval o).run P w = r at *
  cases r with
  | ok n w' =>
    cases n <;> simp only [Oper.upon] at hh ⊢ <;>
      first
        | exact h _ _ hh
        | exact hq _ _ _ hh
        | exact Calls.mono hh (fun e w'' he => by cases e <;> first | exact h _ _ he | exact hq _ _ _ he | exact (let ⟨a, w, h⟩ := he; ⟨a, w, hq _ _ _ h⟩))
        | exact Rows.mono hh (fun _ _ he => h _ _ he)
        | exact hh
  | halt x w' => cases x <;> simp only [Oper.upon] at hh ⊢ <;> first | exact hq _ _ _ hh | exact hh | exact (let ⟨a, w, h⟩ := hh; ⟨a, w, hq _ _ _ h⟩)
theorem Em {ops : Array Oper} {Q Q' : Exit → Act → World → Prop} (hq : ∀ e a w, Q e a w → Q' e a w) : ∀ (l : List Oper) (a : Act) (w : World), wpList P ops Q l a w → wpList P ops Q' l a w
  | [], a, w, h => hq _ _ _ h
  | o :: rest, a, w, h => by
    unfold wpList at h ⊢
    split
    · rename_i hw
      rw [if_pos hw] at h
      rcases h with h | ⟨h1, a', w', h2⟩
      · exact .inl (Oper.wp_monoQ (Em hq rest) hq h)
      · exact .inr ⟨h1, a', w', hq _ _ _ h2⟩
    · rename_i hw
      rw [if_neg hw] at h
      exact Em hq rest _ _ h
def SpecXN (P : Program) (f : FuncId) (args : List V) (c : Nat → V) (g : Nat) (post : Out → List Ob → Prop) : Prop :=
  ∀ (M : Nat → Prop) (w : World) (vals : List Value), (∀ b, M b → b < w.heap.size) → M g → GoodM M c g w → RelL w M w.heap.size [] args vals →
    Calls P f vals.toArray w fun e w' => ∃ o H' ρ', post o H' ∧ Ln w' (Bb M ρ' H') w.heap.size ρ' o e ∧ HR M w' w.heap.size ρ' H' ∧ w'.os = w.os ∧ w'.tape = w.tape ∧ w'.output = w.output ∧ w.heap.size ≤ w'.heap.size ∧
      (∀ (id : Nat) (ob : Ob) (re : Re) (gg : Nat), H'[id]? = some ob → ob.live = true → ρ'[id]? = some re → re.g = some gg → w.heap.size ≤ gg) ∧ (∀ b, b < w.heap.size → b ≠ g → w'.heap[b]? = w.heap[b]?)
def qRetXN (P : Program) (fn : Func) (Γ : Ctx) (post : Out → List Ob → Prop) : Exit → Act → World → Prop
  | .ret, a, w => ∃ F H ρ sel ys y, StA Γ ρ F H a w ∧ ResL P F H fn.results.toList ys ∧ ren sel y = I2 ys ∧ idB sel.length y = true ∧ sel.Nodup ∧ F4 (C5 Oq sel H) ∧ post (.ret y) (C5 Oq sel H)
  | _, _, _ => False
end

section
variable {P : Program} {Γ : Ctx} {F : Fr} {H : List Ob} {Q : Exit → Fr → List Ob → Prop}
theorem Fl {ops : Array Oper} {rest : List Oper} (t : Nat) {id ver len T sz : Nat} {cs : List V} (rows : List (List V)) (hx : Cj F t = some (.o id ver 0 len)) (hH : H[id]? = some ⟨T, sz, ver, true, cs⟩) (hcs : cs = rows.flatten) (hlen : rows.length = len) (hsz : ∀ r ∈ rows, r.length = sz) (hpu : ∀ r ∈ rows, r.all Fh = true) (h0 : 0 < sz) (hp : ∀ b, ¬ Γ.L0 b)
    (j : JO P ops rest Γ ((t, .l true sz rows) :: F) (Do H id) Q) : JO P ops rest Γ F H Q := fun a w ⟨ρ, s⟩ =>
  j a w ⟨ρ, s.frz id t hx fun v r => s.frozenR hH r hcs hlen hsz hpu h0 hp⟩
end
def rowsV (rows : List (List Int)) : List (List V) := rows.map fun l => [V.n false .u64 l]

def TabR (g : Nat) (cells : List V) (w : World) (M : Nat → Prop) : Prop := Rel w M w.heap.size [] (.q cells) (.pointer (some ⟨g, 0, none⟩))
def SpecT (P : Program) (f : FuncId) (g : Nat) (cells : List V) (args : List V) (post : Out → Prop) : Prop :=
  ∀ (M : Nat → Prop) (w : World) (vals : List Value), (∀ b, M b → b < w.heap.size) → TabR g cells w M → RelL w M w.heap.size [] args vals →
    Calls P f vals.toArray w fun e w' => ∃ o, post o ∧ Ie w' M w.heap.size o e ∧ Below w.heap.size w w'
theorem SpecT.mono {P : Program} {g : Nat} {cells : List V} {f : FuncId} {args : List V} {post post' : Out → Prop} (h : SpecT P f g cells args post) (hp : ∀ o, post o → post' o) : SpecT P f g cells args post' :=
  fun M w vals hM hT hr => (h M w vals hM hT hr).mono fun e w' ⟨o, h1, h2, h3⟩ => ⟨o, hp o h1, h2, h3⟩
theorem Eq {P : Program} {g : Nat} {cells : List V} {f : FuncId} {args : List V} {post : Out → Prop} (h : Spec P f args post) : SpecT P f g cells args post := fun M w vals hM _ hr => h M w vals hM hr
section
variable {P : Program} {Γ : Ctx} {F : Fr} {H : List Ob} {Q : Exit → Fr → List Ob → Prop} {g : Nat} {cells : List V}
theorem Px {ρ : List Re} {a : Act} {w : World} (hL : ∀ b, ¬ Γ.L0 b) (hT : TabR g cells Γ.w0 Γ.M) (s : StA Γ ρ F H a w) : Rel w (Bb Γ.M ρ H) Γ.w0.heap.size ρ (.q cells) (.pointer (some ⟨g, 0, none⟩)) := by
  refine Rel.ev (w := Γ.w0) (L := Γ.M) (B := Γ.w0.heap.size) (ρ := []) ⟨s.fro.size, fun b hb _ => s.fro.blk b hb (hL b), fun b hb hn h => hn ?_, Nat.le_refl _, fun id re e => by simp at e⟩ _ _ hT
  rcases h with h | ⟨i, o, r, h1, h2, h3, h4⟩
  · exact h
  · rcases s.fro.mine i o r b h1 h2 h3 h4 with h5 | h5
    · omega
    · exact absurd h5 (hL b)
theorem Hx {f : FuncId} {fn : Func} {c : Code} {args : List V} {post : Out → Prop} (F0 : Fr) (h0 : ((args.zipIdx 0).map fun p => (p.2, p.1)) = F0) (hf : P.funcs[f]? = some fn) (hb : fn.body = some c) (hn : args.length ≤ fn.ntmps)
    (h : ∀ Γ : Ctx, TabR g cells Γ.w0 Γ.M → Γ.N = fn.ntmps → Γ.ds = [] → (∀ b, ¬ Γ.L0 b) → Γ.ρ0 = [] → JC P c Γ F0 [] (Ad0 P fn post)) : SpecT P f g cells args post := fun M w vals hM hT hr =>
  T6 hf hb hn M w vals hM hr fun Γ e1 e2 h1 h2 h3 h4 => h0 ▸ h Γ (by rw [e1, e2]; exact hT) h1 h2 h3 h4
theorem Xp {f : FuncId} {fn : Func} {dst : Option Tmp} {T : TypeId} {ps : String} {af : Array Edge} {gd : Option (Nat × Bool)} {c : Operand} {args : Array Operand} {ts : Array TypeId} {ys zs : List V} {post : Out → Prop}
    (hL : ∀ b, ¬ Γ.L0 b) (hT : TabR g cells Γ.w0 Γ.M) (hc : ovO F c = some (.f f [])) (hf : P.funcs[f]? = some fn) (hb : fn.body.isSome = true) (hn : (fn.name == "runtime.NumGoroutine") = false) (hx : ovL F args.toList ys) (ha : ArgL ys zs) (hs : SpecT P f g cells zs post) {ρ : List Re} {a : Act} {w : World} (s : StA Γ ρ F H a w) {K : Act → World → Prop} {R : Exit → Act → World → Prop}
    (k : ∀ y v w', post (.ret y) → Rel w' (Bb Γ.M ρ H) Γ.w0.heap.size ρ y v → Below w.heap.size w w' → StA Γ ρ F H a w' → K (a.put dst v) w')
    (kp : ∀ ch w', post (.pan ch) → Below w.heap.size w w' → StA Γ ρ F H a w' → R (.panic ch) a w') :
    (⟨dst, .call { callee := .value c, args := args, argTypes := ts }, T, ps, af, gd⟩ : Oper).wp P a w K R :=
  Q9 hc hf hb hn hx ha s (fun vals h => hs (Bb Γ.M ρ H) w vals (fun b h => Jv s h) (ArgV.q.rel (Px hL hT s)) h) k kp
theorem G0 {f : FuncId} (fn : Func) {ops : Array Oper} {rest : List Oper} {d : Nat} {T : TypeId} {ps : String} {af : Array Edge} {args : Array Operand} {ts : Array TypeId} {c : Operand} {ys zs : List V} {post : Out → Prop}
    (hs : SpecT P f g cells zs post) (hL : ∀ b, ¬ Γ.L0 b) (hT : TabR g cells Γ.w0 Γ.M) (hc : ovO F c = some (.f f [])) (hf : P.funcs[f]? = some fn) (hb : fn.body.isSome = true) (hn : (fn.name == "runtime.NumGoroutine") = false) (hx : ovL F args.toList ys) (ha : ArgL ys zs) (hd : d < Γ.N)
    (k : ∀ y, post (.ret y) → JO P ops rest Γ ((d, y) :: F) H Q) (kp : ∀ ch, post (.pan ch) → Q (.panic ch) F H) :
    JO P ops (⟨some d, .call { callee := .value c, args := args, argTypes := ts }, T, ps, af, none⟩ :: rest) Γ F H Q := fun a w ⟨ρ, s⟩ =>
  wpList_plain rfl fun K hK => Xp hL hT hc hf hb hn hx ha hs s (fun y v w' h1 h2 _ h4 => hK _ _ (k y h1 _ _ ⟨ρ, h4.put hd h2⟩)) (fun ch w' h1 _ h3 => ⟨F, H, kp ch h1, ρ, h3⟩)
theorem Y7 {T E l sz : Nat} {ix : Operand} {zs : List V} {k : IntKind} {n : Int} {i : Nat} (hL : ∀ b, ¬ Γ.L0 b) (hT : TabR g cells Γ.w0 Γ.M) (hA : arB P T E l sz = true) (hi : ovO F ix = some (.i k n)) (hn : n = (i : Int))
    (h1 : i < l) (hz : cells.drop (i * sz) = zs) : LY P Γ (.indexAddr T (.global g) ix) F H (.q zs) := fun ρ a w s => by
  obtain ⟨ad, hv, hb, hc⟩ := Px hL hT s
  refine ⟨.pointer (some (ad.add (i * sz))), ⟨ad.add (i * sz), rfl, by rw [Gr]; exact hb, ?_⟩, fun _ _ _ _ _ w' _ => ?_⟩
  · rw [K3, ← hz]; have := Jy (i * sz) cells 0 hc; rwa [Nat.zero_add] at this
  · have hv' : a.eval (.global g) = .pointer (some ad) := hv
    have e : (Instr.indexAt T (a.eval (.global g)) (a.eval ix)).run P w' = .ok (.pointer (some (ad.add (i * sz)))) w' := by
      rw [hv', Dn s hi, hn]
      simp [Instr.indexAt, run_underlying (W6 hA), asIntOf, C4 (Sq hA), Instr.sureAddr, h1]
    exact Ej e
end

theorem specT_calls {P : Program} {f : FuncId} {g : Nat} {cells : List V} {zs : List V} {vals : List Value} {w : World} (hT : TabR g cells w (fun _ => False)) (h : SpecT P f g cells zs (fun o => o = .ret (.b true))) (_ : World) (hr : RelL w (fun _ => False) w.heap.size [] zs vals) :
    Calls P f vals.toArray w fun e w' => e = .returned (.bool true) ∧ Below w.heap.size w w' :=
  (h (fun _ => False) w vals (fun _ h => h.elim) hT hr).mono fun e w' ⟨o, h1, h2, h3⟩ => by
    subst h1
    obtain ⟨v, rfl, hv⟩ := h2
    exact ⟨by rw [show v = .bool true from hv], h3⟩
theorem tabR_of {w : World} {g : Nat} {k : IntKind} {zs : List Int} (h0 : 0 < zs.length) (h : ∀ i, i < zs.length → w.cell? ⟨g, i, none⟩ = some (.int k (zs.getD i 0))) : TabR g (ints k zs) w (fun _ => False) := by
  refine ⟨⟨g, 0, none⟩, rfl, ⟨?_, fun h => h, by simp⟩, ?_⟩
  · have h1 := h 0 h0
    rcases Nat.lt_or_ge g w.heap.size with h2 | h2
    · exact h2
    · unfold World.cell? at h1
      have h3 : w.heap[g]? = none := Array.getElem?_eq_none h2
      simp [h3] at h1
  · refine Mx _ 0 fun j y hj => ?_
    rw [G3] at hj
    obtain ⟨z, hz, rfl⟩ := Option.map_eq_some_iff.1 hj
    have hl := (List.getElem?_eq_some_iff.1 hz).1
    refine ⟨.int k z, ?_, rfl⟩
    rw [Ck]
    have h4 := h j hl
    rw [List.getD_eq_getElem?_getD, hz] at h4
    simpa using h4

section
variable {P : Program} {Γ : Ctx} {F : Fr} {H : List Ob} {Q : Exit → Fr → List Ob → Prop}
theorem Zf {ops : Array Oper} {rest : List Oper} {dst : Option Tmp} {T t : TypeId} {ps : String} {af : Array Edge} {x : Operand} {v : Value} (hx : ovO F x = some (.c (.iface t v))) (h : Q (.panic [{ v := .iface t v, recovered := false }]) F H) :
    JO P ops (⟨dst, .panic x, T, ps, af, none⟩ :: rest) Γ F H Q := fun a w ⟨ρ, s⟩ =>
  wpList_plain rfl fun K hK => by
    have e : a.eval x = .iface t v := s.ov hx
    unfold Oper.wp
    rw [show (execOp a.eval ⟨dst, .panic x, T, ps, af, none⟩).run P w = .halt (.panic (.iface t v)) w by simp [execOp, Instr.panic, e, goPanic, Sem.run]]
    exact ⟨F, H, h, ρ, s⟩
def Ctx.later (Γ : Ctx) (ρ : List Re) (d : Deferred) : Ctx := { Γ with ρ0 := ρ, ds := d :: Γ.ds }
theorem StA.later {ρ : List Re} {a : Act} {w : World} (s : StA Γ ρ F H a w) (d : Deferred) : StA (Γ.later ρ d) ρ F H { a with defers := d :: a.defers } w :=
  ⟨s.hr, s.n, by show d :: a.defers = d :: Γ.ds; rw [s.ds], s.fr, ⟨s.fro.os, s.fro.tape, s.fro.output, s.fro.size, s.fro.blk, s.fro.old, s.fro.mine, fun i r h => ⟨r, h, Nat.le_refl _, fun _ => rfl⟩⟩⟩
def Me (Ho Hc : List Ob) : Prop := Hc.length = Ho.length ∧ ∀ (i : Nat) (o : Ob), Ho[i]? = some o → ∃ us : List Value, Hc[i]? = some ⟨o.t, o.sz, o.ver, true, us.map V.c⟩ ∧ us.length = o.cs.length ∧ ∀ u ∈ us, u.oneCell' = true
def Afu (m : Nat) : V → Bool
  | .p id ver off => Nat.blt id m && ver == 0
  | _ => false
def Ny (M : Nat → Prop) (ρ : List Re) (H : List Ob) (m : Nat) : Nat → Prop := fun b => M b ∨ ∃ (id : Nat) (ob : Ob) (re : Re), m ≤ id ∧ H[id]? = some ob ∧ ob.live = true ∧ ρ[id]? = some re ∧ re.g = some b
theorem He {α : Type} {l : List α} {m i : Nat} {x : α} (h : (l.take m)[i]? = some x) : i < m ∧ l[i]? = some x := by
  rw [List.getElem?_take] at h
  split at h
  · exact ⟨by assumption, h⟩
  · cases h
theorem Nw {α : Type} {l : List α} {m i : Nat} {x : α} (hi : i < m) (h : l[i]? = some x) : (l.take m)[i]? = some x := by rw [List.getElem?_take, if_pos hi]; exact h
theorem StA.constsn {ρ : List Re} {a : Act} {w : World} (m : Nat) (s : StA Γ ρ F H a w) (hl : ∀ o ∈ H.take m, o.live = true) :
    ∃ Hc, Me (H.take m) Hc ∧ (∀ B, HR (Ny Γ.M ρ H m) w B (ρ.take m) Hc) ∧ (∀ b, Bb (Ny Γ.M ρ H m) (ρ.take m) Hc b ↔ Bb Γ.M ρ H b) ∧
      ∀ (i : Nat) (o oc : Ob), (H.take m)[i]? = some o → Hc[i]? = some oc → ∃ us : List Value, oc.cs = us.map V.c ∧ us.length = o.cs.length ∧ RelL w (Bb Γ.M ρ H) Γ.w0.heap.size ρ o.cs us := by
  have hex : ∀ i : Nat, ∃ us : List Value, ∀ o, (H.take m)[i]? = some o → us.length = o.cs.length ∧ (∀ u ∈ us, u.oneCell' = true) ∧ RelL w (Bb Γ.M ρ H) Γ.w0.heap.size ρ o.cs us ∧
      ∀ (re : Re) (g : Nat) (cur : Array Value), ρ[i]? = some re → re.g = some g → w.heap[g]? = some (.cells cur o.t (0, 0)) → ∀ (j : Nat) (u : Value), us[j]? = some u → cur[j]? = some u ∧ u.oneCell' = true := fun i => by
    cases hi : (H.take m)[i]? with
    | none => exact ⟨[], fun o h => by cases h⟩
    | some o =>
      obtain ⟨_, h1⟩ := He hi
      obtain ⟨re, ow⟩ := s.own h1 (hl o (List.mem_of_getElem? hi))
      cases hg : re.g with
      | none =>
        refine ⟨[], fun o' h => ?_⟩
        injection h with h; subst h
        have hc := (ow.ok.nob hg).1
        rw [hc]
        exact ⟨rfl, by simp, rfl, fun re' g cur e1 e2 => by
          obtain rfl : re' = re := by have := e1.symm.trans ow.at_; injection this
          rw [hg] at e2; cases e2⟩
      | some g =>
        obtain ⟨us, k1, k2, k3, k4⟩ := Hi ow hg o.cs 0 (fun j y h => by rw [Nat.zero_add]; exact h)
        refine ⟨us, fun o' h => ?_⟩
        injection h with h; subst h
        refine ⟨k1, k3, k2, fun re' g' cur e1 e2 e3 j u hu => ⟨?_, k3 u (List.mem_of_getElem? hu)⟩⟩
        obtain rfl : re' = re := by have := e1.symm.trans ow.at_; injection this
        obtain rfl : g' = g := by have := e2.symm.trans hg; injection this
        have := k4 j u hu
        rw [Ck, Nat.zero_add] at this
        simpa [World.cell?, e3] using this
  let f : Nat → List Value := fun i => Classical.choose (hex i)
  have hf : ∀ i o, (H.take m)[i]? = some o → (f i).length = o.cs.length ∧ (∀ u ∈ f i, u.oneCell' = true) ∧ RelL w (Bb Γ.M ρ H) Γ.w0.heap.size ρ o.cs (f i) ∧
      ∀ (re : Re) (g : Nat) (cur : Array Value), ρ[i]? = some re → re.g = some g → w.heap[g]? = some (.cells cur o.t (0, 0)) → ∀ (j : Nat) (u : Value), (f i)[j]? = some u → cur[j]? = some u ∧ u.oneCell' = true := fun i => Classical.choose_spec (hex i)
  clear_value f
  obtain ⟨Hc, hHc⟩ : ∃ Hc : List Ob, Hc = ((H.take m).zipIdx 0).map fun p => (⟨p.1.t, p.1.sz, p.1.ver, true, (f p.2).map V.c⟩ : Ob) := ⟨_, rfl⟩
  have hc : ∀ i : Nat, Hc[i]? = ((H.take m)[i]?).map fun o => (⟨o.t, o.sz, o.ver, true, (f i).map V.c⟩ : Ob) := fun i => by
    rw [hHc, List.getElem?_map, List.getElem?_zipIdx]
    cases (H.take m)[i]? <;> simp
  have hc2 : ∀ (i : Nat) (oc : Ob), Hc[i]? = some oc → ∃ o, (H.take m)[i]? = some o ∧ oc = ⟨o.t, o.sz, o.ver, true, (f i).map V.c⟩ := fun i oc h => by
    rw [hc] at h
    cases hi : (H.take m)[i]? with
    | none => rw [hi] at h; cases h
    | some o => rw [hi] at h; injection h with h; exact ⟨o, rfl, h.symm⟩
  have hlen : Hc.length = (H.take m).length := by rw [hHc]; simp
  have back : ∀ (i : Nat) (oc : Ob) (r : Re), Hc[i]? = some oc → (ρ.take m)[i]? = some r → ∃ o, i < m ∧ H[i]? = some o ∧ o.live = true ∧ ρ[i]? = some r := fun i oc r h1 h3 => by
    obtain ⟨o, e1, _⟩ := hc2 i oc h1
    exact ⟨o, (He e1).1, (He e1).2, hl o (List.mem_of_getElem? e1), (He h3).2⟩
  refine ⟨Hc, ⟨hlen, fun i o hi => ⟨f i, by rw [hc, hi]; rfl, (hf i o hi).1, (hf i o hi).2.1⟩⟩, fun B => ⟨by rw [hlen]; simp [s.hr.len], fun i oc h1 h2 => ?_, fun i j oi oj ri rj g hij h1 _ h3 _ h5 h6 h7 h8 => ?_, fun i o r g h1 _ h3 h4 hM => ?_⟩, fun b => ⟨?_, ?_⟩, fun i o oc h1 h2 => ?_⟩
  · obtain ⟨o, e1, rfl⟩ := hc2 i oc h1
    obtain ⟨hin, e2⟩ := He e1
    have hlo := hl o (List.mem_of_getElem? e1)
    obtain ⟨r, h3, h4⟩ := s.hr.ob i o e2 hlo
    obtain ⟨k1, _, _, k3⟩ := hf i o e1
    refine ⟨r, Nw hin h3, h4.ver, h4.sz, fun hg => ?_, fun g hg => ?_⟩
    · obtain ⟨g1, g2⟩ := h4.nob hg
      refine ⟨?_, g2⟩
      have : f i = [] := List.eq_nil_of_length_eq_zero (by rw [k1, g1]; rfl)
      show (f i).map V.c = []
      rw [this]; rfl
    · obtain ⟨cur, c1, c2, c3, c4, c5⟩ := h4.blk g hg
      refine ⟨cur, c1, c2, by show ((f i).map V.c).length ≤ _; rw [List.length_map, k1]; exact c3, c4, fun j y hy => ?_⟩
      have hy' : ((f i).map V.c)[j]? = some y := hy
      rw [List.getElem?_map] at hy'
      cases hu : (f i)[j]? with
      | none => rw [hu] at hy'; cases hy'
      | some u =>
        rw [hu] at hy'
        injection hy' with hy'; subst hy'
        obtain ⟨d1, d2⟩ := k3 r g cur h3 hg c1 j u hu
        exact ⟨u, d1, d2, rfl⟩
  · obtain ⟨o1, _, q1, q2, q3⟩ := back i oi ri h1 h5
    obtain ⟨o2, _, q4, q5, q6⟩ := back j oj rj h3 h6
    exact s.hr.apart i j o1 o2 ri rj g hij q1 q2 q4 q5 q3 q6 h7 h8
  · obtain ⟨o1, hin, q1, q2, q3⟩ := back i o r h1 h3
    rcases hM with hM | ⟨i2, o2, r2, p1, p2, p3, p4, p5⟩
    · exact s.hr.foreign i o1 r g q1 q2 q3 h4 hM
    · exact s.hr.apart i i2 o1 o2 r r2 g (by omega) q1 q2 p2 p3 q3 p4 h4 p5
  · rintro ((h | ⟨i2, o2, r2, _, p2, p3, p4, p5⟩) | ⟨i, o, r, h1, h2, h3, h4⟩)
    · exact .inl h
    · exact .inr ⟨i2, o2, r2, p2, p3, p4, p5⟩
    · obtain ⟨o1, hin, q1, q2, q3⟩ := back i o r h1 h3
      exact .inr ⟨i, o1, r, q1, q2, q3, h4⟩
  · rintro (h | ⟨i, o, r, h1, h2, h3, h4⟩)
    · exact .inl (.inl h)
    · by_cases hi : i < m
      · exact .inr ⟨i, _, r, by rw [hc, Nw hi h1]; rfl, rfl, Nw hi h3, h4⟩
      · exact .inl (.inr ⟨i, o, r, by omega, h1, h2, h3, h4⟩)
  · obtain ⟨o', e1, rfl⟩ := hc2 i oc h2
    obtain rfl : o' = o := by have := e1.symm.trans h1; injection this
    obtain ⟨k1, _, k2, _⟩ := hf i o' e1
    exact ⟨f i, rfl, k1, k2⟩
def Xe (P : Program) (g : FuncId) (args : List V) (H : List Ob) (u u' : FrameMode) (H' : List Ob) : Prop :=
  ∀ (M : Nat → Prop) (w : World) (ρ : List Re) (vals : List Value), (∀ b, M b → b < w.heap.size) → HR M w w.heap.size ρ H → RelL w (Bb M ρ H) w.heap.size ρ args vals →
    CallsD P g vals.toArray u w fun e m w' => (∃ v, e = .returned v) ∧ m = u' ∧ ∃ ρ', HR M w' w.heap.size ρ' H' ∧
      w'.os = w.os ∧ w'.tape = w.tape ∧ w'.output = w.output ∧ Ev w (Bb M ρ H) w.heap.size ρ w' (Bb M ρ' H') w.heap.size ρ' ∧
      (∀ (id : Nat) (ob : Ob) (re : Re) (g : Nat), H'[id]? = some ob → ob.live = true → ρ'[id]? = some re → re.g = some g → w.heap.size ≤ g ∨ Jg ρ H g) ∧ (∀ b, b < w.heap.size → ¬ Jg ρ H b → w'.heap[b]? = w.heap[b]?)
theorem Sn {m : Nat} {w1 : World} {L1 : Nat → Prop} {B1 : Nat} {ρ1 : List Re} {w : World} {L : Nat → Prop} {B : Nat} {ρ : List Re} (hρ : ∀ (id : Nat) (re : Re), ρ1[id]? = some re → ∃ re', ρ[id]? = some re' ∧ re.ver ≤ re'.ver ∧ (re.ver = re'.ver → re' = re)) :
    ∀ (caps : List V) (us : List Value), caps.all (Afu m) = true → RelL w1 L1 B1 ρ1 caps us → RelL w L B (ρ.take m) caps us
  | [], _, _, h => h
  | y :: ys, us, hc, ⟨u, us', e, h1, h2⟩ => by
    rw [List.all_cons, Bool.and_eq_true] at hc
    refine ⟨u, us', e, ?_, Sn hρ ys us' hc.2 h2⟩
    cases y with
    | p id ver off =>
      obtain ⟨re, e1, hv, hq⟩ := h1
      obtain ⟨re', e2, e3, e4⟩ := hρ id re e1
      have hc1 := hc.1
      simp only [Afu, Bool.and_eq_true, Nat.blt_eq, beq_iff_eq] at hc1
      obtain ⟨hid, rfl⟩ := hc1
      refine ⟨re', by rw [List.getElem?_take, if_pos hid]; exact e2, Nat.zero_le _, fun hz => ?_⟩
      have h0 : re.ver = re'.ver := by omega
      rw [e4 h0]
      exact hq (by omega)
    | _ => simp [Afu] at hc
def FinD (P : Program) (Qf : Exit → Fr → List Ob → Prop) (g : FuncId) (caps : List V) (m : Nat) (u : FrameMode) (F : Fr) (H : List Ob) : Prop :=
  ∃ (u' : FrameMode) (H' : List Ob), u ≠ .run ∧ settle u' = .returning ∧ H'.length = m ∧ m ≤ H.length ∧ (∀ o ∈ H.take m, o.live = true) ∧
    (∀ Hc, Me (H.take m) Hc → ∃ Hp, Xe P g caps Hc u u' Hp ∧ Hp.length = m ∧ ∀ k : Nat, (H'[k]? = (H.take m)[k]? ∧ Hp[k]? = Hc[k]?) ∨ Hp[k]? = H'[k]?) ∧ Qf .ret F (H' ++ H.drop m)
theorem Ow : ∀ (l1 l2 : List Value), l1.map V.c = l2.map V.c → l1 = l2
  | [], [], _ => rfl
  | [], _ :: _, h => by simp at h
  | _ :: _, [], h => by simp at h
  | x :: l1, y :: l2, h => by
    simp only [List.map_cons, List.cons.injEq, V.c.injEq] at h
    rw [h.1, Ow l1 l2 h.2]
theorem StA.afterD {ρ : List Re} {a : Act} {w w' : World} {m : Nat} (s : StA Γ ρ F H a w) (hl : ∀ o ∈ H.take m, o.live = true) (hmH : m ≤ H.length) {Hc : List Ob} (k1 : Me (H.take m) Hc) (k3 : ∀ b, Bb (Ny Γ.M ρ H m) (ρ.take m) Hc b ↔ Bb Γ.M ρ H b)
    (k4 : ∀ (i : Nat) (o oc : Ob), (H.take m)[i]? = some o → Hc[i]? = some oc → ∃ us : List Value, oc.cs = us.map V.c ∧ us.length = o.cs.length ∧ RelL w (Bb Γ.M ρ H) Γ.w0.heap.size ρ o.cs us)
    {Hp H' : List Ob} {ρ' : List Re} (hH' : ∀ k : Nat, (H'[k]? = (H.take m)[k]? ∧ Hp[k]? = Hc[k]?) ∨ Hp[k]? = H'[k]?) (hHp : Hp.length = m) (hlm : H'.length = m)
    (h3 : HR (Ny Γ.M ρ H m) w' w.heap.size ρ' Hp) (h4 : w'.os = w.os) (h5 : w'.tape = w.tape) (h6 : w'.output = w.output) (ev : Ev w (Bb (Ny Γ.M ρ H m) (ρ.take m) Hc) w.heap.size (ρ.take m) w' (Bb (Ny Γ.M ρ H m) ρ' Hp) w.heap.size ρ')
    (h8 : ∀ (id : Nat) (ob : Ob) (re : Re) (g : Nat), Hp[id]? = some ob → ob.live = true → ρ'[id]? = some re → re.g = some g → w.heap.size ≤ g ∨ Jg (ρ.take m) Hc g) (h9 : ∀ b, b < w.heap.size → ¬ Jg (ρ.take m) Hc b → w'.heap[b]? = w.heap[b]?) :
    StA Γ (ρ' ++ ρ.drop m) F (H' ++ H.drop m) a w' := by
  have hHc : Hc.length = m := by rw [k1.1]; simp; omega
  have hρ' : ρ'.length = m := by rw [h3.len]; exact hHp
  have hρm : m ≤ ρ.length := by rw [s.hr.len]; exact hmH
  -- an object of the new list, seen where it comes from
  have partH : ∀ (i : Nat) (o : Ob), (H' ++ H.drop m)[i]? = some o → (i < m ∧ H'[i]? = some o) ∨ (m ≤ i ∧ H[i]? = some o) := fun i o h => by
    by_cases hi : i < m
    · rw [List.getElem?_append_left (by omega)] at h; exact .inl ⟨hi, h⟩
    · rw [List.getElem?_append_right (by omega), hlm, List.getElem?_drop] at h
      exact .inr ⟨by omega, by rw [show m + (i - m) = i by omega] at h; exact h⟩
  have partR : ∀ (i : Nat) (r : Re), (ρ' ++ ρ.drop m)[i]? = some r → (i < m ∧ ρ'[i]? = some r) ∨ (m ≤ i ∧ ρ[i]? = some r) := fun i r h => by
    by_cases hi : i < m
    · rw [List.getElem?_append_left (by omega)] at h; exact .inl ⟨hi, h⟩
    · rw [List.getElem?_append_right (by omega), hρ', List.getElem?_drop] at h
      exact .inr ⟨by omega, by rw [show m + (i - m) = i by omega] at h; exact h⟩
  have toR1 : ∀ (i : Nat) (r : Re), i < m → ρ'[i]? = some r → (ρ' ++ ρ.drop m)[i]? = some r := fun i r hi h => by rw [List.getElem?_append_left (by omega)]; exact h
  have toR2 : ∀ (i : Nat) (r : Re), m ≤ i → ρ[i]? = some r → (ρ' ++ ρ.drop m)[i]? = some r := fun i r hi h => by
    rw [List.getElem?_append_right (by omega), hρ', List.getElem?_drop, show m + (i - m) = i by omega]; exact h
  -- an object of H', as one of Hp
  have toP : ∀ (i : Nat) (o : Ob), H'[i]? = some o → o.live = true → ∃ op : Ob, Hp[i]? = some op ∧ op.live = true := fun i o h hlo => by
    rcases hH' i with ⟨e1, e2⟩ | e
    · rw [e1] at h
      obtain ⟨us, q, _⟩ := k1.2 i o h
      exact ⟨_, e2.trans q, rfl⟩
    · exact ⟨o, e.trans h, hlo⟩
  have handIn : ∀ b, Jg (ρ.take m) Hc b → ∃ (i : Nat) (o : Ob) (r : Re), i < m ∧ H[i]? = some o ∧ o.live = true ∧ ρ[i]? = some r ∧ r.g = some b := by
    rintro b ⟨i, o, r, q1, _, q3, q4⟩
    have hi : i < m := (He q3).1
    have hlt : i < (H.take m).length := by rw [← k1.1]; exact (List.getElem?_eq_some_iff.1 q1).1
    have hti : (H.take m)[i]? = some ((H.take m)[i]'hlt) := List.getElem?_eq_getElem hlt
    exact ⟨i, _, r, hi, (He hti).2, hl _ (List.mem_of_getElem? hti), (He q3).2, q4⟩
  have lset2 : ∀ b, b < w.heap.size → Bb Γ.M (ρ' ++ ρ.drop m) (H' ++ H.drop m) b → Bb Γ.M ρ H b := by
    rintro b hb (h | ⟨i, o, r, q1, q2, q3, q4⟩)
    · exact .inl h
    · rcases partH i o q1 with ⟨hi, p1⟩ | ⟨hi, p1⟩
      · rcases partR i r q3 with ⟨_, p3⟩ | ⟨hi2, _⟩
        · obtain ⟨op, p4, p5⟩ := toP i o p1 q2
          rcases h8 i op r b p4 p5 p3 q4 with h | h
          · omega
          · obtain ⟨i', o', r', _, z1, z2, z3, z4⟩ := handIn b h
            exact .inr ⟨i', o', r', z1, z2, z3, z4⟩
        · omega
      · rcases partR i r q3 with ⟨hi2, _⟩ | ⟨_, p3⟩
        · omega
        · exact .inr ⟨i, o, r, p1, q2, p3, q4⟩
  have evB : Ev w (Bb Γ.M ρ H) Γ.w0.heap.size ρ w' (Bb Γ.M (ρ' ++ ρ.drop m) (H' ++ H.drop m)) Γ.w0.heap.size (ρ' ++ ρ.drop m) := by
    refine ⟨ev.size, fun b hb hn => ev.blk b hb fun h => hn ((k3 b).1 h), fun b hb hn h => hn (lset2 b hb h), Nat.le_refl _, fun i r hi => ?_⟩
    by_cases him : i < m
    · obtain ⟨r', f1, f2, f3⟩ := ev.rho i r (Nw him hi)
      exact ⟨r', toR1 i r' him f1, f2, f3⟩
    · exact ⟨r, toR2 i r (by omega) hi, Nat.le_refl _, fun _ => rfl⟩
  have oldblk : ∀ (i : Nat) (o : Ob) (r : Re) (g : Nat), m ≤ i → H[i]? = some o → o.live = true → ρ[i]? = some r → r.g = some g → w'.heap[g]? = w.heap[g]? := fun i o r g hi q1 q2 q3 q4 =>
    h9 g (s.hr.lt q1 q2 q3 q4) fun h => by
      obtain ⟨i', o', r', z0, z1, z2, z3, z4⟩ := handIn g h
      exact s.hr.apart i i' o o' r r' g (by omega) q1 q2 z1 z2 q3 z3 q4 z4
  have hfirst : ∀ (i : Nat) (o : Ob), H'[i]? = some o → o.live = true → ∃ re, ρ'[i]? = some re ∧ ObOk w' (Bb Γ.M (ρ' ++ ρ.drop m) (H' ++ H.drop m)) Γ.w0.heap.size (ρ' ++ ρ.drop m) re o := fun i o q1 q2 => by
    have hi : i < m := by rw [← hlm]; exact (List.getElem?_eq_some_iff.1 q1).1
    rcases hH' i with ⟨e1, e2⟩ | e2
    · have q1' := q1
      rw [e1] at q1'
      obtain ⟨us', q5, q6, _⟩ := k1.2 i o q1'
      obtain ⟨re, r1, r2⟩ := h3.ob i _ (e2.trans q5) rfl
      obtain ⟨us2, t1, t2, t3⟩ := k4 i o _ q1' q5
      have hus : us' = us2 := Ow _ _ t1
      subst hus
      refine ⟨re, r1, r2.ver, r2.sz, fun hg => ?_, fun g hg => ?_⟩
      · obtain ⟨g1, g2⟩ := r2.nob hg
        refine ⟨List.eq_nil_of_length_eq_zero ?_, g2⟩
        have g1' : us'.map V.c = [] := g1
        rw [← q6, ← List.length_map (f := V.c), g1']; rfl
      · obtain ⟨cur, c1, c2, c3, c4, c5⟩ := r2.blk g hg
        have c3' : (us'.map V.c).length ≤ cur.size := c3
        refine ⟨cur, c1, c2, by rw [List.length_map, q6] at c3'; exact c3', c4, fun j y hy => ?_⟩
        obtain ⟨uj, hu, hru⟩ := Fy o.cs us' j y t3 hy
        obtain ⟨x, d1, d2, d3⟩ := c5 j (.c uj) (by show (us'.map V.c)[j]? = _; rw [List.getElem?_map, hu]; rfl)
        have hx : x = uj := d3
        subst hx
        exact ⟨x, d1, d2, hru.ev evB⟩
    · obtain ⟨re, r1, r2⟩ := h3.ob i o (e2.trans q1) q2
      refine ⟨re, r1, r2.ver, r2.sz, r2.nob, fun g hg => ?_⟩
      obtain ⟨cur, c1, c2, c3, c4, c5⟩ := r2.blk g hg
      refine ⟨cur, c1, c2, c3, c4, fun j y hy => ?_⟩
      obtain ⟨u, d1, d2, d3⟩ := c5 j y hy
      refine ⟨u, d1, d2, (Ik s.fro.size y u d3).ev ⟨Nat.le_refl _, fun _ _ _ => rfl, fun b _ hn h => hn ?_, Nat.le_refl _, fun i r h => ?_⟩⟩
      · rcases h with h | ⟨i2, o2, r2', z1, z2, z3, z4⟩
        · exact .inl (.inl h)
        · rcases partH i2 o2 z1 with ⟨y1, y2⟩ | ⟨y1, y2⟩
          · rcases partR i2 r2' z3 with ⟨_, y3⟩ | ⟨y4, _⟩
            · obtain ⟨op, p4, p5⟩ := toP i2 o2 y2 z2
              exact .inr ⟨i2, op, r2', p4, p5, y3, z4⟩
            · omega
          · rcases partR i2 r2' z3 with ⟨y4, _⟩ | ⟨_, y3⟩
            · omega
            · exact .inl (.inr ⟨i2, o2, r2', y1, y2, z2, y3, z4⟩)
      · have him : i < m := by rw [← hρ']; exact (List.getElem?_eq_some_iff.1 h).1
        exact ⟨r, toR1 i r him h, Nat.le_refl _, fun _ => rfl⟩
  -- where blocks of the new list come from
  have src : ∀ (i : Nat) (o : Ob) (r : Re) (g : Nat), (H' ++ H.drop m)[i]? = some o → o.live = true → (ρ' ++ ρ.drop m)[i]? = some r → r.g = some g →
      (i < m ∧ ∃ op : Ob, Hp[i]? = some op ∧ op.live = true ∧ ρ'[i]? = some r) ∨ (m ≤ i ∧ H[i]? = some o ∧ ρ[i]? = some r) := fun i o r g q1 q2 q3 q4 => by
    rcases partH i o q1 with ⟨y1, y2⟩ | ⟨y1, y2⟩
    · rcases partR i r q3 with ⟨_, y3⟩ | ⟨y4, _⟩
      · obtain ⟨op, p4, p5⟩ := toP i o y2 q2
        exact .inl ⟨y1, op, p4, p5, y3⟩
      · omega
    · rcases partR i r q3 with ⟨y4, _⟩ | ⟨_, y3⟩
      · omega
      · exact .inr ⟨y1, y2, y3⟩
  refine ⟨⟨?_, fun i o q1 q2 => ?_, fun i j oi oj ri rj g hij q1 q2 q3 q4 q5 q6 q7 q8 => ?_, fun i o r g q1 q2 q3 q4 hM => ?_⟩, s.n, s.ds, fun t => (s.fr t).ev evB, ⟨h4.trans s.fro.os, h5.trans s.fro.tape, h6.trans s.fro.output, Nat.le_trans s.fro.size ev.size, fun b hlt hnl => ?_, s.fro.old, fun i o r g q1 q2 q3 q4 => ?_, fun i r hi => ?_⟩⟩
  · simp only [List.length_append, List.length_drop, hρ', hlm, s.hr.len]
  · rcases partH i o q1 with ⟨y1, y2⟩ | ⟨y1, y2⟩
    · obtain ⟨re, r1, r2⟩ := hfirst i o y2 q2
      exact ⟨re, toR1 i re y1 r1, r2⟩
    · obtain ⟨re, r1, r2⟩ := s.hr.ob i o y2 q2
      refine ⟨re, toR2 i re y1 r1, r2.ver, r2.sz, r2.nob, fun g hg => ?_⟩
      obtain ⟨cur, c1, c2, c3, c4, c5⟩ := r2.blk g hg
      refine ⟨cur, by rw [oldblk i o re g y1 y2 q2 r1 hg]; exact c1, c2, c3, c4, fun j y hy => ?_⟩
      obtain ⟨u, d1, d2, d3⟩ := c5 j y hy
      exact ⟨u, d1, d2, d3.ev evB⟩
  · rcases src i oi ri g q1 q2 q5 q7 with ⟨a1, op, a2, a3, a4⟩ | ⟨a1, a2, a3⟩ <;> rcases src j oj rj g q3 q4 q6 q8 with ⟨b1, op2, b2, b3, b4⟩ | ⟨b1, b2, b3⟩
    · exact h3.apart i j op op2 ri rj g hij a2 a3 b2 b3 a4 b4 q7 q8
    · exact h3.foreign i op ri g a2 a3 a4 q7 (.inr ⟨j, oj, rj, b1, b2, q4, b3, q8⟩)
    · exact h3.foreign j op2 rj g b2 b3 b4 q8 (.inr ⟨i, oi, ri, a1, a2, q2, a3, q7⟩)
    · exact s.hr.apart i j oi oj ri rj g hij a2 q2 b2 q4 a3 b3 q7 q8
  · rcases src i o r g q1 q2 q3 q4 with ⟨a1, op, a2, a3, a4⟩ | ⟨a1, a2, a3⟩
    · exact h3.foreign i op r g a2 a3 a4 q4 (.inl hM)
    · exact s.hr.foreign i o r g a2 q2 a3 q4 hM
  · rw [h9 b (Nat.lt_of_lt_of_le hlt s.fro.size) fun h => by
      obtain ⟨i', o', r', _, z1, z2, z3, z4⟩ := handIn b h
      rcases s.fro.mine i' o' r' b z1 z2 z3 z4 with h | h
      · omega
      · exact hnl h]
    exact s.fro.blk b hlt hnl
  · rcases src i o r g q1 q2 q3 q4 with ⟨a1, op, a2, a3, a4⟩ | ⟨a1, a2, a3⟩
    · rcases h8 i op r g a2 a3 a4 q4 with h | h
      · exact .inl (Nat.le_trans s.fro.size h)
      · obtain ⟨i', o', r', _, z1, z2, z3, z4⟩ := handIn g h
        exact s.fro.mine i' o' r' g z1 z2 z3 z4
    · exact s.fro.mine i o r g a2 q2 a3 q4
  · obtain ⟨r1, e1, e2, e3⟩ := s.fro.rho i r hi
    obtain ⟨r2, f1, f2, f3⟩ := evB.rho i r1 e1
    refine ⟨r2, f1, Nat.le_trans e2 f2, fun e => ?_⟩
    have hv1 : r.ver = r1.ver := by omega
    have : r1 = r := e3 hv1
    subst this
    exact f3 e
theorem Qo {fn gn : Func} {g : FuncId} {caps : List V} {us : List Value} {m : Nat} {R : Ending → World → Prop} {Qf : Exit → Fr → List Ob → Prop} {u : FrameMode} (hgf : P.funcs[g]? = some gn) (hgb : gn.body.isSome = true) (hgn : (gn.name == "runtime.NumGoroutine") = false)
    (hds : Γ.ds = [⟨.fn (.func g) us.toArray, #[]⟩]) {w1 : World} {L1 : Nat → Prop} {B1 : Nat} (hcap : RelL w1 L1 B1 Γ.ρ0 caps us) (hcb : caps.all (Afu m) = true)
    (hE : ∀ F H ρ a w, StA Γ ρ F H a w → Qf .ret F H → ∃ v, (results fn a.tmps).run P w = .ok v w ∧ R (.returned v) w)
    {ρ : List Re} {a : Act} {w : World} (s : StA Γ ρ F H a w) (h : FinD P Qf g caps m u F H) : Leaves P fn a.tmps R a.defers u w := by
  obtain ⟨u', H', hrun, hset, hlm, hmH, hl, hclo, hq⟩ := h
  obtain ⟨Hc, k1, k2, k3, k4⟩ := s.constsn m hl
  have hMlt : ∀ b, Ny Γ.M ρ H m b → b < w.heap.size := by
    rintro b (h | ⟨i, o, r, _, q1, q2, q3, q4⟩)
    · exact Nat.lt_of_lt_of_le (s.fro.old b h) s.fro.size
    · exact s.hr.lt q1 q2 q3 q4
  have hcaps : RelL w (Bb (Ny Γ.M ρ H m) (ρ.take m) Hc) w.heap.size (ρ.take m) caps us := Sn s.fro.rho caps us hcb hcap
  rw [s.ds, hds]
  refine leaves_cons (f := g) (args := us.toArray) hrun ?_ ?_
  · have hb' : ¬ gn.body = none := by intro h; rw [h] at hgb; cases hgb
    have hn' : ¬ gn.name = "runtime.NumGoroutine" := by simpa using hgn
    simp [invoke, callFunc, program, Sem.run, hgf]
    rw [if_neg hn', if_neg hb']
  · obtain ⟨Hp, hS, hHp, hHk⟩ := hclo Hc k1
    exact (hS (Ny Γ.M ρ H m) w (ρ.take m) us hMlt (k2 _) hcaps).mono fun e m' w' ⟨⟨v, he⟩, hm', ρ', h3, h4, h5, h6, ev, h8, h9⟩ => by
      subst he; subst hm'
      show Leaves P fn a.tmps R [] (settle m') w'
      rw [hset]
      exact hE _ _ _ _ _ (s.afterD hl hmH k1 k3 k4 hHk hHp hlm h3 h4 h5 h6 ev h8 h9) hq
def Ol (P : Program) (Qf : Exit → Fr → List Ob → Prop) (g : FuncId) (caps : List V) (m : Nat) : Exit → Fr → List Ob → Prop
  | .ret, F, H | .normal, F, H => FinD P Qf g caps m .returning F H
  | .panic ch, F, H => FinD P Qf g caps m (.panicking ch) F H
  | _, _, _ => False
theorem Ry {fn gn : Func} {g : FuncId} {caps : List V} {us : List Value} {m : Nat} {R : Ending → World → Prop} {Qf : Exit → Fr → List Ob → Prop} (hgf : P.funcs[g]? = some gn) (hgb : gn.body.isSome = true) (hgn : (gn.name == "runtime.NumGoroutine") = false)
    (hds : Γ.ds = [⟨.fn (.func g) us.toArray, #[]⟩]) {w1 : World} {L1 : Nat → Prop} {B1 : Nat} (hcap : RelL w1 L1 B1 Γ.ρ0 caps us) (hcb : caps.all (Afu m) = true)
    (hE : ∀ F H ρ a w, StA Γ ρ F H a w → Qf .ret F H → ∃ v, (results fn a.tmps).run P w = .ok v w ∧ R (.returned v) w)
    (e : Exit) (a : Act) (w : World) (h : toQ Γ (Ol P Qf g caps m) e a w) : bodyPostD P fn R e a w := by
  obtain ⟨F, H, q, ρ, s⟩ := h
  cases e with
  | normal => exact Qo hgf hgb hgn hds hcap hcb hE s q
  | ret => exact Qo hgf hgb hgn hds hcap hcb hE s q
  | panic ch => exact Qo hgf hgb hgn hds hcap hcb hE s q
  | _ => exact absurd q (by simp [Ol])
theorem Ft {ops : Array Oper} {𝒬 : Exit → Act → World → Prop} {post : List Oper} : ∀ (pre : List Oper) (a : Act) (w : World), wpList P ops (Exit.then (wpList P ops 𝒬 post) 𝒬) pre a w → wpList P ops 𝒬 (pre ++ post) a w
  | [], a, w, h => h
  | o :: pre, a, w, h => by
    have hQ : ∀ e a w, Exit.then (wpList P ops 𝒬 post) 𝒬 e a w → e ≠ .normal → 𝒬 e a w := fun e a w q hne => by cases e <;> first | exact absurd rfl hne | exact q
    unfold wpList at h
    show wpList P ops 𝒬 (o :: (pre ++ post)) a w
    unfold wpList
    split at h
    · rename_i hw
      rw [if_pos hw]
      rcases h with h | ⟨h1, h2⟩
      · refine .inl ?_
        unfold Oper.wp at h ⊢
        revert h
        generalize (execOp a.eval o).run P w = r
        intro h
        cases r with
        | ok n w' =>
          cases n <;> try exact h
          all_goals first
            | exact Ft pre _ _ h
            | skip
          case enter f args =>
            exact Calls.mono h fun e w'' q => by
              cases e with
              | returned v => exact Ft pre _ _ q
              | panicked ch => exact q
              | outgrown => exact q
          case row r args =>
            exact Rows.mono h fun v w'' q => Ft pre _ _ q
        | halt hh w' =>
          cases hh <;> first | exact h | exact h.elim
      · exact .inr ⟨h1, h2⟩
    · rename_i hw
      rw [if_neg hw]
      exact Ft pre _ _ h
end

section
variable {P : Program} {Γ : Ctx} {F : Fr} {H : List Ob} {Q : Exit → Fr → List Ob → Prop}
theorem Ei {fn gn : Func} {g : FuncId} {caps : List V} {R : Ending → World → Prop} {Qf : Exit → Fr → List Ob → Prop} (m : Nat) {id : Nat} (pre : List Oper) {rest : List Oper} {y : Code} {x : Operand} {T : TypeId} {ps : String} {af : Array Edge} {ts : Array TypeId} {ops : List Oper} (hops : ops = pre ++ ⟨none, .defer { callee := .value x, args := #[], argTypes := ts }, T, ps, af, none⟩ :: rest)
    (hgf : P.funcs[g]? = some gn) (hgb : gn.body.isSome = true) (hgn : (gn.name == "runtime.NumGoroutine") = false) (hcb : caps.all (Afu m) = true) (hds : Γ.ds = []) (hR : Γ.ρ0 = []) (hp : ∀ b, ¬ Γ.L0 b)
    (hE : ∀ F H ρ a w, StA Γ ρ F H a w → Qf .ret F H → ∃ v, (results fn a.tmps).run P w = .ok v w ∧ R (.returned v) w)
    (j : JO P ops.toArray pre Γ F H (fun e F' H' => e = .normal ∧ ovO F' x = some (.f g caps) ∧ H'.length = m ∧ ∀ Γ1 : Ctx, Γ1.N = Γ.N → (∀ b, ¬ Γ1.L0 b) → Γ1.ρ0.length = m →
      JO P ops.toArray rest Γ1 F' H' (K7 (fun F'' H'' => JC P y Γ1 F'' H'' (Ol P Qf g caps m)) (Ol P Qf g caps m)))) :
    JCP P (.seq (.region id ops.toArray false) y) Γ F H (bodyPostD P fn R) := fun a w s => by
  refine wp_seq (wp_region_lit ?_)
  have hj := j a w s
  generalize hA : ops.toArray = A at hj ⊢
  rw [hops]
  refine Ft pre a w (Em (fun e a' w' q => ?_) pre a w hj)
  obtain ⟨F', H', ⟨rfl, hx, hm, k⟩, ρ, s'⟩ := q
  show wpList P A _ (_ :: rest) a' w'
  obtain ⟨us, hv, hr⟩ := s'.ov hx
  refine wpList_plain rfl fun K hK => ?_
  unfold Oper.wp
  rw [show (execOp a'.eval ⟨none, .defer { callee := .value x, args := #[], argTypes := ts }, T, ps, af, none⟩).run P w' = .ok (.defer ⟨.fn (.func g) us.toArray, #[]⟩) w' by simp [execOp, resolve, hv, Deferred.ofValue, Sem.run]]
  refine hK _ _ ?_
  let d : Deferred := ⟨.fn (.func g) us.toArray, #[]⟩
  have s1 : StA (Γ.later ρ d) ρ F' H' { a' with defers := d :: a'.defers } w' := s'.later d
  have hE1 : ∀ F H ρ2 a w, StA (Γ.later ρ d) ρ2 F H a w → Qf .ret F H → ∃ v, (results fn a.tmps).run P w = .ok v w ∧ R (.returned v) w := fun F H ρ2 a w s2 q =>
    hE F H ρ2 { a with defers := Γ.ds } w ⟨s2.hr, s2.n, rfl, s2.fr, ⟨s2.fro.os, s2.fro.tape, s2.fro.output, s2.fro.size, s2.fro.blk, s2.fro.old, s2.fro.mine, fun i r h => by rw [hR] at h; simp at h⟩⟩ q
  have hq : ∀ e a w, toQ (Γ.later ρ d) (Ol P Qf g caps m) e a w → bodyPostD P fn R e a w := fun e a w h =>
    Ry (Γ := Γ.later ρ d) (m := m) hgf hgb hgn (by show d :: Γ.ds = _; rw [hds]) hr hcb hE1 e a w h
  have j1 := k (Γ.later ρ d) rfl hp (by show ρ.length = m; rw [← hm]; exact s'.hr.len) _ _ ⟨ρ, s1⟩
  refine Em (fun e a2 w2 q2 => ?_) rest _ _ j1
  obtain ⟨F2, H2, q3, s2⟩ := q2
  cases e with
  | normal => exact Code.wp_mono hq (q3 a2 w2 s2)
  | exit id => exact hq (.exit id) a2 w2 ⟨F2, H2, q3, s2⟩
  | goto l => exact hq (.goto l) a2 w2 ⟨F2, H2, q3, s2⟩
  | ret => exact hq .ret a2 w2 ⟨F2, H2, q3, s2⟩
  | panic ch => exact hq (.panic ch) a2 w2 ⟨F2, H2, q3, s2⟩
  | outgrown => exact hq .outgrown a2 w2 ⟨F2, H2, q3, s2⟩
theorem Wi {f : FuncId} {fn : Func} {c : Code} {args : List V} (hf : P.funcs[f]? = some fn) (hb : fn.body = some c) (hn : args.length ≤ fn.ntmps)
    (M : Nat → Prop) (w : World) (vals : List Value) (hM : ∀ b, M b → b < w.heap.size) (hr : RelL w M w.heap.size [] args vals) {R : Ending → World → Prop}
    (h : ∀ Γ : Ctx, Γ.w0 = w → Γ.M = M → Γ.N = fn.ntmps → Γ.ds = [] → (∀ b, ¬ Γ.L0 b) → Γ.ρ0 = [] → JCP P c Γ ((args.zipIdx 0).map fun p => (p.2, p.1)) [] (bodyPostD P fn R)) : Calls P f vals.toArray w R := by
  refine calls_of_wp_defers hf hb ?_
  have hlen : vals.length = args.length := (Ga args vals hr).1
  let Γ : Ctx := ⟨fn.ntmps, w, M, [], fun _ => False, []⟩
  have Leq : ∀ b, Bb M [] [] b → M b := by
    rintro b (h | ⟨i, o, r, h1, _⟩)
    · exact h
    · simp at h1
  have s : StA Γ [] ((args.zipIdx 0).map fun p => (p.2, p.1)) [] ⟨vals.toArray ++ Array.replicate (fn.ntmps - vals.toArray.size) undef, []⟩ w := by
    refine ⟨⟨rfl, fun i o h => by simp at h, fun i j oi oj ri rj g _ h => by simp at h, fun i o r g h => by simp at h⟩, ?_, rfl, fun t => ?_, ⟨rfl, rfl, rfl, Nat.le_refl _, fun _ _ _ => rfl, hM, fun i o r g h => by simp at h, fun i r h => by have h' : ([] : List Re)[i]? = some r := h; simp at h'⟩⟩
    · show fn.ntmps ≤ (vals.toArray ++ Array.replicate (fn.ntmps - vals.toArray.size) undef).size
      simp; omega
    · have look : ∀ (ys : List V) (k t : Nat), Cj ((ys.zipIdx k).map fun p => (p.2, p.1)) t = if k ≤ t then ys[t - k]? else none := by
        intro ys
        induction ys with
        | nil => intro k t; simp [Cj]
        | cons y ys ih =>
          intro k t
          simp only [List.zipIdx_cons, List.map_cons, Cj]
          cases hb : Nat.beq t k
          · have hne : t ≠ k := by intro e; subst e; simp at hb
            rw [ih (k + 1) t]
            by_cases h1 : k ≤ t
            · rw [if_pos h1, if_pos (by omega), show t - k = (t - (k + 1)) + 1 by omega]; rfl
            · rw [if_neg h1, if_neg (by omega)]; rfl
          · have := Nat.eq_of_beq_eq_true hb
            subst this
            simp
      unfold get
      rw [look args 0 t, if_pos (Nat.zero_le _), Nat.sub_zero]
      cases ht : args[t]? with
      | none => exact trivial
      | some y =>
        obtain ⟨u, hu, hru⟩ := Fy args vals t y hr ht
        have hlt : t < vals.length := (List.getElem?_eq_some_iff.1 hu).1
        have e : ((vals.toArray ++ Array.replicate (fn.ntmps - vals.toArray.size) undef).getD t undef) = u := by
          rw [Array.getD_eq_getD_getElem?, Array.getElem?_append_left (by simpa using hlt)]
          simp [hu]
        show Rel w (Bb M [] []) w.heap.size [] y ((vals.toArray ++ Array.replicate (fn.ntmps - vals.toArray.size) undef).getD t undef)
        rw [e]
        exact hru.ev ⟨Nat.le_refl _, fun _ _ _ => rfl, fun b _ hn h => hn (Leq b h), Nat.le_refl _, fun i r h => by simp at h⟩
  exact h Γ rfl rfl rfl rfl (fun _ h => h) rfl _ _ ⟨_, s⟩
theorem E8 {f : FuncId} {fn : Func} {c : Code} {args : List V} {post : Out → Prop} (F0 : Fr) (h0 : ((args.zipIdx 0).map fun p => (p.2, p.1)) = F0) (hf : P.funcs[f]? = some fn) (hb : fn.body = some c) (hn : args.length ≤ fn.ntmps)
    (h : ∀ (Γ : Ctx) (R : Ending → World → Prop), Γ.N = fn.ntmps → Γ.ds = [] → (∀ b, ¬ Γ.L0 b) → Γ.ρ0 = [] → (∀ F H ρ a w, StA Γ ρ F H a w → Ad0 P fn post .ret F H → ∃ v, (results fn a.tmps).run P w = .ok v w ∧ R (.returned v) w) →
      JCP P c Γ F0 [] (bodyPostD P fn R)) : Spec P f args post := fun M w vals hM hr => by
  subst h0; refine Wi hf hb hn M w vals hM hr fun Γ e1 e2 h1 h2 h3 h4 => h Γ _ h1 h2 h3 h4 ?_; rintro F H ρ a w' s ⟨ys, z, q1, q2, q3⟩
  obtain ⟨v, hv, hr'⟩ := s.results q1
  refine ⟨v, hv, .ret z, q3, ⟨v, rfl, ?_⟩, ?_⟩
  · have := q2.rel s h3 hr'
    rw [e1, e2] at this
    exact this
  · rw [← e1]
    exact ⟨s.fro.os, s.fro.tape, s.fro.output, s.fro.size, fun b hb => s.fro.blk b hb (h3 b)⟩
def Ag0 (Γ : Ctx) (c0 : Frame) (cs : List Frame) (Q : Exit → Fr → List Ob → FrameMode → Prop) : Exit → Act → List Frame → World → Prop :=
  fun e a cs' w => ∃ F H m, cs' = { c0 with mode := m } :: cs ∧ Q e F H m ∧ St Γ F H a w
def JCS (P : Program) (x : Code) (Γ : Ctx) (F : Fr) (H : List Ob) (u : FrameMode) (Q : Exit → Fr → List Ob → FrameMode → Prop) : Prop :=
  ∀ (c0 : Frame) (cs : List Frame) a w, c0.mode = u → St Γ F H a w → x.wpS P (Ag0 Γ c0 cs Q) a (c0 :: cs) w
variable {u : FrameMode} {QS : Exit → Fr → List Ob → FrameMode → Prop}
def qThenS (R : Fr → List Ob → FrameMode → Prop) (Q : Exit → Fr → List Ob → FrameMode → Prop) : Exit → Fr → List Ob → FrameMode → Prop
  | .normal, F, H, m => R F H m
  | e, F, H, m => Q e F H m
def Ux : FrameMode → Value × FrameMode
  | .panicking ({ v, recovered := false, goexit := false } :: older) => (v, .panicking ({ v, recovered := true } :: older))
  | m => (.nilIface, m)
theorem Yg (c0 : Frame) (cs : List Frame) : (recoverD (c0 :: cs) = none ∧ Ux c0.mode = (.nilIface, c0.mode)) ∨ recoverD (c0 :: cs) = some ((Ux c0.mode).1, { c0 with mode := (Ux c0.mode).2 } :: cs) := by
  obtain ⟨_, _, _, _, mode, _, _⟩ := c0
  cases mode with
  | run => exact .inl ⟨rfl, rfl⟩
  | returning => exact .inl ⟨rfl, rfl⟩
  | panicking ch =>
    cases ch with
    | nil => exact .inl ⟨rfl, rfl⟩
    | cons p older =>
      obtain ⟨v, r, g⟩ := p
      cases r <;> cases g <;> first | exact .inl ⟨rfl, rfl⟩ | exact .inr rfl
def L3 (P : Program) (fn : Func) (n : Nat) (u' : FrameMode) (Hp : List Ob) : Exit → Fr → List Ob → FrameMode → Prop
  | .ret, F, H, m | .normal, F, H, m => m = u' ∧ H.take n = Hp ∧ ObsId n Hp ∧ ∃ ys, ResL P F H fn.results.toList ys
  | _, _, _, _ => False
theorem X7 {f : FuncId} {fn : Func} {c : Code} {args : List V} {H0 Hp : List Ob} {u' : FrameMode} (F0 : Fr) (h0 : ((args.zipIdx 0).map fun p => (p.2, p.1)) = F0) (n : Nat) (hn0 : H0.length = n) (hf : P.funcs[f]? = some fn) (hb : fn.body = some c) (hn : args.length ≤ fn.ntmps)
    (h : ∀ Γ : Ctx, Γ.N = fn.ntmps → Γ.ds = [] → JCS P c Γ F0 H0 u (L3 P fn n u' Hp)) : Xe P f args H0 u u' Hp := fun M w ρ vals hM hR hr => by
  subst h0; subst hn0; refine callsD_of_wpS hf hb fun c₀ cs hu => ?_
  have hlen : vals.length = args.length := (Ga args vals hr).1
  let Γ : Ctx := ⟨fn.ntmps, w, M, ρ, Jg ρ H0, []⟩
  have s : StA Γ ρ ((args.zipIdx 0).map fun p => (p.2, p.1)) H0 ⟨vals.toArray ++ Array.replicate (fn.ntmps - vals.toArray.size) undef, []⟩ w := by
    refine ⟨hR, ?_, rfl, fun t => ?_, ⟨rfl, rfl, rfl, Nat.le_refl _, fun _ _ _ => rfl, hM, fun i o r g h1 h2 h3 h4 => .inr ⟨i, o, r, h1, h2, h3, h4⟩, fun i r h => ⟨r, h, Nat.le_refl _, fun _ => rfl⟩⟩⟩
    · show fn.ntmps ≤ (vals.toArray ++ Array.replicate (fn.ntmps - vals.toArray.size) undef).size
      simp; omega
    · have look : ∀ (ys : List V) (k t : Nat), Cj ((ys.zipIdx k).map fun p => (p.2, p.1)) t = if k ≤ t then ys[t - k]? else none := by
        intro ys
        induction ys with
        | nil => intro k t; simp [Cj]
        | cons y ys ih =>
          intro k t
          simp only [List.zipIdx_cons, List.map_cons, Cj]
          cases hb : Nat.beq t k
          · have hne : t ≠ k := by intro e; subst e; simp at hb
            rw [ih (k + 1) t]
            by_cases h1 : k ≤ t
            · rw [if_pos h1, if_pos (by omega), show t - k = (t - (k + 1)) + 1 by omega]; rfl
            · rw [if_neg h1, if_neg (by omega)]; rfl
          · have := Nat.eq_of_beq_eq_true hb
            subst this
            simp
      unfold get
      rw [look args 0 t, if_pos (Nat.zero_le _), Nat.sub_zero]
      cases ht : args[t]? with
      | none => exact trivial
      | some y =>
        obtain ⟨u, hu, hru⟩ := Fy args vals t y hr ht
        have hlt : t < vals.length := (List.getElem?_eq_some_iff.1 hu).1
        have e : ((vals.toArray ++ Array.replicate (fn.ntmps - vals.toArray.size) undef).getD t undef) = u := by
          rw [Array.getD_eq_getD_getElem?, Array.getElem?_append_left (by simpa using hlt)]
          simp [hu]
        show Rel w (Bb M ρ H0) w.heap.size ρ y ((vals.toArray ++ Array.replicate (fn.ntmps - vals.toArray.size) undef).getD t undef)
        rw [e]
        exact hru
  have hΓlen : Γ.ρ0.length ≤ H0.length := by show ρ.length ≤ _; rw [hR.len]; exact Nat.le_refl _
  intro b k hb' hr'
  obtain ⟨e, a, cs', w', ⟨F, H, m, rfl, q, ρ1, s'⟩, harr⟩ := h Γ rfl rfl c₀ cs _ w hu ⟨_, s⟩ b k hb' hr'
  refine ⟨e, a, _, w', ?_, harr⟩
  have fin : m = u' ∧ H.take H0.length = Hp ∧ ObsId H0.length Hp ∧ (∃ ys, ResL P F H fn.results.toList ys) → a.defers = [] ∧ ∃ u2, { c₀ with mode := m } :: cs = { c₀ with mode := u2 } :: cs ∧ ∃ v, (Go.results fn a.tmps).run P w' = .ok v w' ∧ (∃ x, Ending.returned v = .returned x) ∧ u2 = u' ∧ ∃ ρ', HR M w' w.heap.size ρ' Hp ∧
      w'.os = w.os ∧ w'.tape = w.tape ∧ w'.output = w.output ∧ Ev w (Bb M ρ H0) w.heap.size ρ w' (Bb M ρ' Hp) w.heap.size ρ' ∧
      (∀ (id : Nat) (ob : Ob) (re : Re) (g : Nat), Hp[id]? = some ob → ob.live = true → ρ'[id]? = some re → re.g = some g → w.heap.size ≤ g ∨ Jg ρ H0 g) ∧ (∀ b, b < w.heap.size → ¬ Jg ρ H0 b → w'.heap[b]? = w.heap[b]?) := by
    rintro ⟨h1, h2, h3, ys, h4⟩; subst h2
    obtain ⟨v, hv, _⟩ := s'.results h4
    obtain ⟨c1, c2, c3⟩ := s'.cutn H0.length h3 hΓlen
    refine ⟨s'.ds, m, rfl, v, hv, ⟨v, rfl⟩, h1, _, c1, c2.os, c2.tape, c2.output, ⟨c2.size, fun b hlt hL => c2.blk b hlt fun hh => hL (.inr hh), fun b hlt hL hL' => ?_, Nat.le_refl _, c2.rho⟩, fun i o r g h1 h2 h3 h4 => c2.mine i o r g h1 h2 h3 h4, fun b hlt hh => c2.blk b hlt hh⟩
    rcases hL' with hM' | ⟨i, o, r, h1, h2, h3, h4⟩
    · exact hL (.inl hM')
    · rcases c2.mine i o r b h1 h2 h3 h4 with h | h
      · have h' : w.heap.size ≤ b := h
        omega
      · exact hL (.inr h)
  cases e with
  | normal => exact fin q
  | ret => exact fin q
  | _ => exact absurd q (by simp [L3])
end

section
variable {P : Program} {ops : Array Oper} {Q : Exit → Act → List Frame → World → Prop}
def Kj (P : Program) (ops : Array Oper) (Q : Exit → Act → List Frame → World → Prop) (i : Nat) (K : Act → List Frame → World → Prop) (a : Act) (cs : List Frame) (w : World) : Prop :=
  match ops[i]? with
  | none => K a cs w
  | some o =>
    if Region.wanted o (yielded ops a.tmps) then
      match (execOp a.eval o).run P w with
      | .ok .recover w' =>
        match recoverD cs with
        | some (v, cs') => K (a.put o.dst v) cs' w'
        | none => K (a.put o.dst .nilIface) cs w'
      | r => o.upon P a (fun a' w' => K a' cs w') (fun e a' w' => Q e a' cs w') r
    else K (a.put o.dst undef) cs w
theorem Pq (i : Nat) (rest : List Nat) (a : Act) (cs : List Frame) (w : World) : wpOpsS P ops Q (i :: rest) a cs w = Kj P ops Q i (wpOpsS P ops Q rest) a cs w := by
  cases h : ops[i]? <;> simp only [wpOpsS, Kj, h] <;> rfl
theorem Ss {i : Nat} {a : Act} {cs : List Frame} {w : World} {K K' : Act → List Frame → World → Prop} (h : ∀ a cs w, K a cs w → K' a cs w) (hh : Kj P ops Q i K a cs w) : Kj P ops Q i K' a cs w := by
  unfold Kj at *
  cases ho : ops[i]? with
  | none => rw [ho] at hh; exact h _ _ _ hh
  | some o =>
    rw [ho] at hh
    simp only at hh ⊢
    split
    · rename_i hw
      rw [if_pos hw] at hh
      generalize (execOp a.eval o).run P w = r at *
      have gen : ∀ r, o.upon P a (fun a' w' => K a' cs w') (fun e a' w' => Q e a' cs w') r → o.upon P a (fun a' w' => K' a' cs w') (fun e a' w' => Q e a' cs w') r := by
        intro r hh
        cases r with
        | ok n w' =>
          cases n <;> simp only [Oper.upon] at hh ⊢ <;>
            first
              | exact h _ _ _ hh
              | exact Calls.mono hh (fun e w'' he => by cases e <;> first | exact h _ _ _ he | exact he)
              | exact Rows.mono hh (fun _ _ he => h _ _ _ he)
        | halt x w' => cases x <;> simp only [Oper.upon] at hh ⊢ <;> exact hh
      cases r with
      | ok n w' =>
        cases n <;> first | exact gen _ hh | skip
        revert hh
        simp only
        cases recoverD cs with
        | none => exact fun hh => h _ _ _ hh
        | some p => exact fun hh => h _ _ _ hh
      | halt x w' => exact gen _ hh
    · rename_i hw
      rw [if_neg hw] at hh
      exact h _ _ _ hh
def Agb (P : Program) (ops : Array Oper) (Q : Exit → Act → List Frame → World → Prop) : Nat → Array Bool → Act → List Frame → World → Prop
  | 0, listed, a, cs, w => Region.ready .any ops listed = [] ∧ Q .normal a cs w
  | fuel + 1, listed, a, cs, w => (Region.ready .any ops listed = [] → Q .normal a cs w) ∧ ∀ i ∈ Region.ready .any ops listed, Kj P ops Q i (Agb P ops Q fuel (listed.setIfInBounds i true)) a cs w
theorem S9 : ∀ (fuel t : Nat) (listed : Array Bool) (a : Act) (cs : List Frame) (w : World), Agb P ops Q fuel listed a cs w → wpOpsS P ops Q (Region.linearise.go .any ops fuel t listed []) a cs w := by
  intro fuel
  induction fuel with
  | zero => intro t listed a cs w h; simpa [Region.linearise.go, wpOpsS] using h.2
  | succ fuel ih =>
    intro t listed a cs w h
    obtain ⟨h₀, h₁⟩ := h
    simp only [Region.linearise.go]
    change wpOpsS P ops Q (match (Region.ready .any ops listed)[t % (Region.ready .any ops listed).length]? with
      | some i => Region.linearise.go .any ops fuel (t / (Region.ready .any ops listed).length) (listed.setIfInBounds i true) [i]
      | none => [].reverse) a cs w
    cases hi : (Region.ready .any ops listed)[t % (Region.ready .any ops listed).length]? with
    | none =>
      have hnil : Region.ready .any ops listed = [] := by
        cases hr : Region.ready .any ops listed with
        | nil => rfl
        | cons x xs =>
          rw [hr] at hi
          have hlt : t % (x :: xs).length < (x :: xs).length := Nat.mod_lt _ (by simp)
          simp at hi
          simp at hlt
          omega
      simpa [wpOpsS] using h₀ hnil
    | some i =>
      simp only []
      rw [linearise_go_acc, List.reverse_singleton, List.singleton_append, Pq]
      exact Ss (fun a cs w => ih _ _ a cs w) (h₁ i (List.mem_of_getElem? hi))
theorem Xt {i : Nat} {a : Act} {cs : List Frame} {w : World} {K : Act → List Frame → World → Prop} (hout : ¬ LetsOut (fun e a w => Q e a cs w)) (h : wpOp P ops (fun e a w => Q e a cs w) i (fun a w => K a cs w) a w) : Kj P ops Q i K a cs w := by
  unfold wpOp at h
  unfold Kj
  cases ho : ops[i]? with
  | none => rw [ho] at h; exact h
  | some o =>
    rw [ho] at h
    simp only at h ⊢
    split
    · rename_i hw
      rw [if_pos hw] at h
      rcases h with h | ⟨_, h⟩
      · unfold Oper.wp at h
        generalize (execOp a.eval o).run P w = r at *
        cases r with
        | ok n w' => cases n <;> first | exact h | exact h.elim
        | halt x w' => exact h
      · exact absurd h hout
    · rename_i hw
      rw [if_neg hw] at h
      exact h
theorem W8 {cs : List Frame} (hout : ¬ LetsOut (fun e a w => Q e a cs w)) : ∀ (fuel : Nat) (listed : Array Bool) (a : Act) (w : World), wpAny P .any ops (fun e a w => Q e a cs w) fuel listed a w → Agb P ops Q fuel listed a cs w
  | 0, _, _, _, h => h
  | fuel + 1, _, _, _, h => ⟨h.1, fun i hi => Xt hout (wpOp_mono (fun a' w' h' => W8 hout fuel _ a' w' h') (h.2 i hi))⟩
theorem Lp {id : Nat} {a : Act} {cs : List Frame} {w : World} (hm : P.follows .mixedOrders = true) (h : Agb P ops Q ops.size (Array.replicate ops.size false) a cs { w with drawn := w.drawn + 1 }) : (Code.region id ops true).wpS P Q a cs w := fun b k hb hr => by
  have hl : ∀ t, wpOpsS P ops Q (Region.schedule (P.follows .mixedOrders) ops t) a cs { w with drawn := w.drawn + 1 } := fun t => by
    simp only [Region.schedule, hm, Bool.true_or, if_true]
    exact S9 ops.size t _ a cs _ h
  obtain ⟨e, a', cs', w', q, r⟩ := wp_opsS _ a cs _ (hl (w.tape w.drawn (.order b.fn id))) b k hb hr
  exact ⟨e, a', cs', w', q, .of_steps (.one step_region_draw) r⟩
end
section
variable {P : Program} {Γ : Ctx} {F : Fr} {H : List Ob} {u : FrameMode} {QS : Exit → Fr → List Ob → FrameMode → Prop} {ops : Array Oper}
theorem Gs {Q Q' : Exit → Act → World → Prop} (hq : ∀ e a w, Q e a w → Q' e a w) : ∀ (fuel : Nat) (listed : Array Bool) (a : Act) (w : World), wpAny P .any ops Q fuel listed a w → wpAny P .any ops Q' fuel listed a w
  | 0, _, _, _, h => ⟨h.1, hq _ _ _ h.2⟩
  | fuel + 1, listed, a, w, h => ⟨fun e => hq _ _ _ (h.1 e), fun i hi => by
    have h1 := h.2 i hi
    unfold wpOp at h1 ⊢
    cases ho : ops[i]? with
    | none => rw [ho] at h1; exact Gs hq fuel _ _ _ h1
    | some o =>
      rw [ho] at h1
      simp only at h1 ⊢
      split
      · rename_i hw
        rw [if_pos hw] at h1
        rcases h1 with h1 | ⟨h1, a', w', h2⟩
        · exact .inl (Oper.wp_monoQ (Gs hq fuel _) hq h1)
        · exact .inr ⟨h1, a', w', hq _ _ _ h2⟩
      · rename_i hw
        rw [if_neg hw] at h1
        exact Gs hq fuel _ _ _ h1⟩
def JAS (P : Program) (ops : Array Oper) (fuel : Nat) (listed : Array Bool) (Γ : Ctx) (F : Fr) (H : List Ob) (u : FrameMode) (QS : Exit → Fr → List Ob → FrameMode → Prop) : Prop :=
  ∀ (c0 : Frame) (cs : List Frame) a w, c0.mode = u → St Γ F H a w → Agb P ops (Ag0 Γ c0 cs QS) fuel listed a (c0 :: cs) w
theorem Zh {id n : Nat} (hn : ops.size = n) (hm : P.follows .mixedOrders = true) (h : JAS P ops n (Array.replicate n false) Γ F H u QS) : JCS P (.region id ops true) Γ F H u QS := fun c0 cs a w hc ⟨ρ, s⟩ => by
  subst hn
  exact Lp hm (h c0 cs a { w with drawn := w.drawn + 1 } hc ⟨ρ, s.below ⟨rfl, rfl, rfl, Nat.le_refl _, fun _ _ => rfl⟩⟩)
theorem O7 {fuel : Nat} {listed : Array Bool} (hno : ∀ F' H', ¬ QS .outgrown F' H' u) (j : JA P ops fuel listed Γ F H (fun e F' H' => QS e F' H' u)) : JAS P ops fuel listed Γ F H u QS := fun c0 cs a w hc s => by
  have hout : ¬ LetsOut (fun e a w => Ag0 Γ c0 cs QS e a (c0 :: cs) w) := by
    rintro ⟨a', w', F', H', m, e, q, _⟩
    have hm : m = u := by
      injection e with e _
      have := congrArg Frame.mode e
      rw [hc] at this
      exact this.symm
    subst hm
    exact hno _ _ q
  refine W8 hout fuel listed a w (Gs (fun e a w q => ?_) fuel listed a w (Jh fuel listed a w (j a w s)))
  obtain ⟨F', H', q1, s1⟩ := q
  exact ⟨F', H', u, by subst hc; rfl, q1, s1⟩
def SS (P : Program) (ops : Array Oper) (fuel : Nat) (listed : Array Bool) (Γ : Ctx) (F : Fr) (H : List Ob) (u : FrameMode) (QS : Exit → Fr → List Ob → FrameMode → Prop) (i : Nat) : Prop :=
  ∀ (c0 : Frame) (cs : List Frame) a w, c0.mode = u → St Γ F H a w → Kj P ops (Ag0 Γ c0 cs QS) i (Agb P ops (Ag0 Γ c0 cs QS) fuel (listed.setIfInBounds i true)) a (c0 :: cs) w
theorem Lg {fuel : Nat} {listed : Array Bool} (rs : List Nat) (hr : Region.ready .any ops listed = rs) (hne : rs.isEmpty = false) (h : ∀ i ∈ rs, SS P ops fuel listed Γ F H u QS i) : JAS P ops (fuel + 1) listed Γ F H u QS := fun c0 cs a w hc s =>
  ⟨fun h0 => by rw [hr] at h0; rw [h0] at hne; simp at hne, fun i hi => h i (hr ▸ hi) c0 cs a w hc s⟩
theorem ss_l {fuel : Nat} {listed : Array Bool} {i d : Nat} {op : Op} {T : TypeId} {ps : String} {af : Array Edge} {y : V} (hi : ops[i]? = some ⟨some d, op, T, ps, af, none⟩) (h : LY P Γ op F H y) (hd : d < Γ.N)
    (j : JAS P ops fuel (listed.setIfInBounds i true) Γ ((d, y) :: F) H u QS) : SS P ops fuel listed Γ F H u QS i := fun c0 cs a w hc ⟨ρ, s⟩ => by
  obtain ⟨v, r, hr⟩ := h ρ a w s
  unfold Kj
  rw [hi]
  simp only
  rw [if_pos (by simp [Region.wanted]), hr _ _ _ _ _ w (Ext.refl w)]
  exact j c0 cs _ _ hc ⟨ρ, s.put hd r⟩
theorem Oa {fuel : Nat} {listed : Array Bool} {i d : Nat} {T : TypeId} {ps : String} {af : Array Edge} {ts : Array TypeId} {v : Value} {u' : FrameMode} (hi : ops[i]? = some ⟨some d, .call { callee := .builtin .recover, args := #[], argTypes := ts }, T, ps, af, none⟩) (hu : Ux u = (v, u')) (hd : d < Γ.N)
    (j : JAS P ops fuel (listed.setIfInBounds i true) Γ ((d, .c v) :: F) H u' QS) : SS P ops fuel listed Γ F H u QS i := fun c0 cs a w hc ⟨ρ, s⟩ => by
  subst hc
  unfold Kj
  rw [hi]
  simp only
  rw [if_pos (by simp [Region.wanted])]
  have hrun : (execOp a.eval ⟨some d, .call { callee := .builtin .recover, args := #[], argTypes := ts }, T, ps, af, none⟩).run P w = .ok .recover w := by simp [execOp, resolve, invoke, builtin, Sem.run]
  rw [hrun]
  rcases Yg c0 cs with ⟨e1, e2⟩ | e1
  · rw [hu] at e2
    injection e2 with e3 e4; subst e3; subst e4
    rw [e1]
    exact j c0 cs _ _ rfl ⟨ρ, s.put hd (y := .c .nilIface) rfl⟩
  · rw [hu] at e1
    rw [e1]
    exact j { c0 with mode := u' } cs _ _ rfl ⟨ρ, s.put hd (y := .c v) rfl⟩
def Wx (tx te tt fc ti : Nat) (ps : String) : List Oper :=
  [⟨some 3, .call { callee := .builtin .recover, args := #[], argTypes := #[] }, ti, ps, #[], none⟩,
   ⟨some 4, .load tx (.tmp 0), tx, ps, #[], none⟩,
   ⟨some 5, .load te (.tmp 1), te, ps, #[], none⟩,
   ⟨some 6, .call { callee := .value (.func fc), args := #[.tmp 3, .tmp 4, .tmp 5], argTypes := #[ti, tx, te] }, tt, ps, #[⟨0, .data⟩, ⟨1, .data⟩, ⟨2, .data⟩, ⟨0, .chain⟩], none⟩,
   ⟨some 2, .move (.tmp 6), tt, ps, #[⟨3, .data⟩], none⟩,
   ⟨some 7, .extract (.tmp 2) 0, tx, ps, #[⟨4, .data⟩], none⟩,
   ⟨some 8, .extract (.tmp 2) 1, te, ps, #[⟨4, .data⟩, ⟨7, .gcOnly .lateStores⟩], none⟩,
   ⟨none, .store tx (.tmp 0) (.tmp 7), 0, ps, #[⟨5, .data⟩, ⟨3, .chain⟩, ⟨0, .phase⟩, ⟨1, .phase⟩, ⟨2, .phase⟩, ⟨3, .phase⟩, ⟨4, .phase⟩, ⟨5, .phase⟩, ⟨6, .textOnly .lateStores⟩], none⟩,
   ⟨none, .store te (.tmp 1) (.tmp 8), 0, ps, #[⟨6, .data⟩, ⟨7, .chain⟩, ⟨0, .phase⟩, ⟨1, .phase⟩, ⟨2, .phase⟩, ⟨3, .phase⟩, ⟨4, .phase⟩, ⟨5, .phase⟩, ⟨6, .phase⟩, ⟨7, .phase⟩], none⟩]
theorem Zk {fuel : Nat} {listed : Array Bool} {F' : Fr} {Q : Exit → Fr → List Ob → Prop} (h : Sub F' F) (j : JA P ops fuel listed Γ F' H Q) : JA P ops fuel listed Γ F H Q := fun a w s => j a w (s.sub h)
theorem Aca {g fc : FuncId} {fn cfn : Func} (tx te tt ti : Nat) (ps : String) (i j : Nat) {H H1 H2 : List Ob} {xv ev xv' ev' : V} {u' : FrameMode} {pv : Value}
    (hf : P.funcs[g]? = some fn) (hb : fn.body = some (.region 0 (Wx tx te tt fc ti ps).toArray true)) (hnt : fn.ntmps = 9) (hres : fn.results = #[])
    (hcf : P.funcs[fc]? = some cfn) (hcb : cfn.body.isSome = true) (hcn : (cfn.name == "runtime.NumGoroutine") = false) (hm : P.follows .mixedOrders = true) (hu : Ux u = (pv, u'))
    (hldx : ∀ (Γ : Ctx) (F : Fr), ovO F (.tmp 0) = some (.p i 0 0) → LY P Γ (.load tx (.tmp 0)) F H xv) (hlde : ∀ (Γ : Ctx) (F : Fr), ovO F (.tmp 1) = some (.p j 0 0) → LY P Γ (.load te (.tmp 1)) F H ev)
    (hs : Spec P fc [.c pv, xv, ev] (fun o => o = .ret (.t [xv', ev']))) (hax : ArgV xv xv) (hae : ArgV ev ev)
    (hstx : ∀ (Γ : Ctx) (F : Fr), ovO F (.tmp 0) = some (.p i 0 0) → ovO F (.tmp 7) = some xv' → SY P Γ (.store tx (.tmp 0) (.tmp 7)) F H H1)
    (hste : ∀ (Γ : Ctx) (F : Fr), ovO F (.tmp 1) = some (.p j 0 0) → ovO F (.tmp 8) = some ev' → SY P Γ (.store te (.tmp 1) (.tmp 8)) F H1 H2)
    (hid : ObsId H.length H2) (hlen : H2.length = H.length) : Xe P g [.p i 0 0, .p j 0 0] H u u' H2 := by
  refine X7 [(0, .p i 0 0), (1, .p j 0 0)] rfl H.length rfl hf hb (by rw [hnt]; exact Nat.le_of_ble_eq_true rfl) fun Γ hN hds => ?_
  have hd : ∀ d, Nat.blt d 9 = true → d < Γ.N := fun d h => by rw [hN, hnt]; exact Nat.le_of_ble_eq_true h
  have hno : ∀ F' H', ¬ L3 P fn H.length u' H2 .outgrown F' H' u' := fun _ _ h => h
  have hQ : ∀ (c : List PanicEntry) (F : Fr) (H' : List Ob) (d : Nat), L3 P fn H.length u' H2 (.panic c) F H' u' → L3 P fn H.length u' H2 (.panic c) ((d, .u) :: F) H' u' := fun _ _ _ _ h => h
  have tail : ∀ (F : Fr) (listed : Array Bool), listed = #[true, true, true, false, false, false, false, false, false] → Sub [(3, .c pv), (4, xv), (5, ev), (0, .p i 0 0), (1, .p j 0 0)] F → JA P (Wx tx te tt fc ti ps).toArray 6 listed Γ F H (fun e F' H' => L3 P fn H.length u' H2 e F' H' u') := by
    rintro F listed rfl hsub; refine Zk hsub ?_
    refine B5 3 (Bp cfn hs rfl hcf hcb hcn (Ab rfl (Ab rfl (Ab rfl Ad))) (.cons .c (.cons hax (.cons hae .nil))) (hd 6 rfl) ?_ (fun ch hp => by simp at hp)) rfl (by kernel_rfl)
    rintro y hy; injection hy with hy; subst hy; refine Abv 4 (Gy (y := .t [xv', ev']) rfl (hd 2 rfl)) rfl (by kernel_rfl) (by kernel_rfl) (by kernel_rfl) hQ ?_; refine Abv 5 (Cr (y := xv') rfl rfl (hd 7 rfl)) rfl (by kernel_rfl) (by kernel_rfl) (by kernel_rfl) hQ ?_; refine Abv 6 (Cr (y := ev') rfl rfl (hd 8 rfl)) rfl (by kernel_rfl) (by kernel_rfl) (by kernel_rfl) hQ ?_
    refine B5 7 (D1 (hstx Γ _ rfl rfl) rfl ?_) rfl (by kernel_rfl)
    refine B5 8 (D1 (hste Γ _ rfl rfl) rfl ?_) rfl (by kernel_rfl)
    refine Bx (by kernel_rfl) ?_
    refine ⟨rfl, by rw [← hlen, List.take_length], hid, [], ?_⟩
    rw [hres]
    exact .nil
  have m1 : ∀ {p : Nat → Prop} {a : Nat}, p a → ∀ i ∈ [a], p i := fun h i hi => by simp at hi; subst hi; exact h
  have m2 : ∀ {p : Nat → Prop} {a b : Nat}, p a → p b → ∀ i ∈ [a, b], p i := fun h1 h2 i hi => by
    simp at hi
    rcases hi with rfl | rfl
    · exact h1
    · exact h2
  have m3 : ∀ {p : Nat → Prop} {a b c : Nat}, p a → p b → p c → ∀ i ∈ [a, b, c], p i := fun h1 h2 h3 i hi => by
    simp at hi
    rcases hi with rfl | rfl | rfl
    · exact h1
    · exact h2
    · exact h3
  refine Zh (n := 9) rfl hm ?_
  refine Lg [0, 1, 2] (by kernel_rfl) rfl (m3 ?_ ?_ ?_)
  · refine Oa rfl hu (hd 3 rfl) (O7 hno ?_)
    refine Abv 1 (Al (hldx Γ _ rfl) (hd 4 rfl)) rfl (by kernel_rfl) (by kernel_rfl) (by kernel_rfl) hQ ?_; refine Abv 2 (Al (hlde Γ _ rfl) (hd 5 rfl)) rfl (by kernel_rfl) (by kernel_rfl) (by kernel_rfl) hQ ?_
    exact tail _ _ rfl (.cons rfl (.cons rfl (.cons rfl (.cons rfl (.cons rfl .nil)))))
  · refine ss_l rfl (hldx Γ _ rfl) (hd 4 rfl) ?_
    refine Lg [0, 2] (by kernel_rfl) rfl (m2 ?_ ?_)
    · refine Oa rfl hu (hd 3 rfl) (O7 hno ?_)
      refine Abv 2 (Al (hlde Γ _ rfl) (hd 5 rfl)) rfl (by kernel_rfl) (by kernel_rfl) (by kernel_rfl) hQ ?_
      exact tail _ _ rfl (.cons rfl (.cons rfl (.cons rfl (.cons rfl (.cons rfl .nil)))))
    · refine ss_l rfl (hlde Γ _ rfl) (hd 5 rfl) ?_
      refine Lg [0] (by kernel_rfl) rfl (m1 ?_)
      refine Oa rfl hu (hd 3 rfl) (O7 hno ?_)
      exact tail _ _ rfl (.cons rfl (.cons rfl (.cons rfl (.cons rfl (.cons rfl .nil)))))
  · refine ss_l rfl (hlde Γ _ rfl) (hd 5 rfl) ?_
    refine Lg [0, 1] (by kernel_rfl) rfl (m2 ?_ ?_)
    · refine Oa rfl hu (hd 3 rfl) (O7 hno ?_)
      refine Abv 1 (Al (hldx Γ _ rfl) (hd 4 rfl)) rfl (by kernel_rfl) (by kernel_rfl) (by kernel_rfl) hQ ?_
      exact tail _ _ rfl (.cons rfl (.cons rfl (.cons rfl (.cons rfl (.cons rfl .nil)))))
    · refine ss_l rfl (hldx Γ _ rfl) (hd 4 rfl) ?_
      refine Lg [0] (by kernel_rfl) rfl (m1 ?_)
      refine Oa rfl hu (hd 3 rfl) (O7 hno ?_)
      exact tail _ _ rfl (.cons rfl (.cons rfl (.cons rfl (.cons rfl (.cons rfl .nil)))))
end

section
variable {P : Program} {Γ : Ctx} {F : Fr} {H : List Ob} {Q : Exit → Fr → List Ob → Prop}
def Aig (P : Program) (T : TypeId) : Bool := match P.underlying T with | some (.interface _) | none => false | _ => true
theorem ly_mi {T : TypeId} {x : Operand} {k : IntKind} {n : Int} (hT : Aig P T = true) (hx : ovO F x = some (.a [.i k n])) : LY P Γ (.makeInterface T x) F H (.c (.iface T (.agg #[.int k n]))) := fun ρ a w s =>
  ⟨_, rfl, fun _ _ _ _ _ w' _ => by
    have e : (Instr.makeInterface T (a.eval x)).run P w' = .ok (.iface T (.agg #[.int k n])) w' := by
      obtain ⟨us, e0, u, us', e2, h1, h2⟩ := s.ov hx
      have h2' : us' = [] := h2
      have h1' : u = .int k n := h1
      subst h2'; subst h1'; subst e2
      rw [e0]
      unfold Aig at hT
      cases hu : P.underlying T with
      | none => rw [hu] at hT; cases hT
      | some d => rw [hu] at hT; cases d <;> first | exact (Bool.false_ne_true hT).elim | simp [Instr.makeInterface, run_underlying hu]
    exact Ej e⟩
theorem Aen {T X : TypeId} {x : Operand} {k : IntKind} {n : Int} (hT : Aig P T = true) (hx : ovO F x = some (.c (.iface T (.agg #[.int k n])))) : LY P Γ (.typeAssert x X T true) F H (.t [.a [.i k n], .b true]) := fun ρ a w s =>
  ⟨.tuple #[.agg #[.int k n], .bool true], ⟨_, rfl, _, _, rfl, ⟨_, rfl, _, _, rfl, rfl, rfl⟩, _, _, rfl, rfl, rfl⟩, fun _ _ _ _ _ w' _ => by
    have e : (Instr.typeAssert (a.eval x) X T true).run P w' = .ok (.tuple #[.agg #[.int k n], .bool true]) w' := by
      rw [Sg s hx]
      unfold Aig at hT
      cases hu : P.underlying T with
      | none => rw [hu] at hT; cases hT
      | some d => rw [hu] at hT; cases d <;> first | exact (Bool.false_ne_true hT).elim | simp [Instr.typeAssert, run_underlying hu]
    exact Ej e⟩
theorem Uk {T : TypeId} {ms : Array (String × TypeId)} (hT : P.underlying T = some (.interface ms)) (v : Value) (b : Bool) (hv : (v = .nilIface ∧ b = true) ∨ (∃ t u, v = .iface t u) ∧ b = false) (w : World) : (binOp .eql T v .nilIface).run P w = .ok (.bool b) w := by
  have h : ∀ d : Nat, (Op.equalIn (d + 1) T v .nilIface).run P w = .ok b w := fun d => by
    rcases hv with ⟨rfl, rfl⟩ | ⟨⟨t, u, rfl⟩, rfl⟩ <;> simp [Op.equalIn, run_underlying hT]
  rcases hv with ⟨rfl, rfl⟩ | ⟨⟨t, u, rfl⟩, rfl⟩
  · simp only [binOp]
    simp [Op.equal, Op.maxDepth, h 9999]
  · simp only [binOp]
    simp [Op.equal, Op.maxDepth, h 9999]
theorem Qm {x : Operand} {T T' : TypeId} {ms : Array (String × TypeId)} (hT : P.underlying T = some (.interface ms)) (hx : ovO F x = some (.c .nilIface)) : LY P Γ (.binOp .eql T x (.const .nilIface) T') F H (.b true) :=
  I6 (u := .nilIface) (v := .nilIface) (z := .bool true) (fun _ _ _ s => Sg s hx) (fun _ _ _ s => rfl) (fun w => by simp [eqGuard]) (fun w => Uk hT _ _ (.inl ⟨rfl, rfl⟩) w) (fun _ _ _ _ => rfl)
theorem Ql {x : Operand} {T T' t : TypeId} {v : Value} {ms : Array (String × TypeId)} (hT : P.underlying T = some (.interface ms)) (hx : ovO F x = some (.c (.iface t v))) : LY P Γ (.binOp .eql T x (.const .nilIface) T') F H (.b false) :=
  I6 (u := .iface t v) (v := .nilIface) (z := .bool false) (fun _ _ _ s => Sg s hx) (fun _ _ _ s => rfl) (fun w => by simp [eqGuard]) (fun w => Uk hT _ _ (.inr ⟨⟨_, _, rfl⟩, rfl⟩) w) (fun _ _ _ _ => rfl)
theorem Aic {H : List Ob} {a b c : Value} (ha : a.oneCell' = true) (hb : b.oneCell' = true) (hc : c.oneCell' = true) : [V.c a, V.c b, V.c c].all (Ip H) = true := by simp [Ip, Tg, ha, hb, hc]
theorem U7 {a b c : Value} (ha : a.oneCell' = true) (hb : b.oneCell' = true) (hc : c.oneCell' = true) : [V.c a, V.c b, V.c c].all Tg = true := by simp [Tg, ha, hb, hc]
def Acj (ag : Bool) (us : List Value) : V := if ag then .a (us.map V.c) else .c (us.headD undef)
def Ab0 (tg : TypeId) (e : Int) (rec : Bool) : List PanicEntry := [{ v := .iface tg (.agg #[.int .i64 e]), recovered := rec }]
structure Clo (P : Program) (g : FuncId) (tx te n : Nat) (ag : Bool) (tg : TypeId) (zv : V) : Prop where
  shape : ∃ (fn cfn : Func) (fc : FuncId) (tt ti : TypeId) (ps : String), P.funcs[g]? = some fn ∧ fn.body = some (.region 0 (Wx tx te tt fc ti ps).toArray true) ∧ fn.ntmps = 9 ∧ fn.results = #[] ∧ P.funcs[fc]? = some cfn ∧ cfn.body.isSome = true ∧ (cfn.name == "runtime.NumGoroutine") = false ∧
    (∀ (us : List Value) (ue : Value), us.length = n → (∀ u ∈ us, u.oneCell' = true) → ue.oneCell' = true → Spec P fc [.c .nilIface, Acj ag us, .c ue] (fun o => o = .ret (.t [Acj ag us, .c ue]))) ∧
    (∀ (us : List Value) (ue : Value) (e : Int), us.length = n → (∀ u ∈ us, u.oneCell' = true) → ue.oneCell' = true → Spec P fc [.c (.iface tg (.agg #[.int .i64 e])), Acj ag us, .c ue] (fun o => o = .ret (.t [zv, .i .i64 e])))
  hm : P.follows .mixedOrders = true
  hld : (ag = true ∧ Pp P tx n = true) ∨ (ag = false ∧ n = 1 ∧ Iq P tx = true)
  hsz : (P.info? tx).any (·.size == n) = true
  hle : Iq P te = true
  hz1 : (cellsV zv).length = n
  hz2 : (cellsV zv).all Tg = true
  hz3 : ∀ k, (cellsV zv).all (idB k) = true
theorem Mf {ag : Bool} {us : List Value} {n : Nat} (hn : us.length = n) (h : ag = true ∨ (ag = false ∧ n = 1)) : cellsV (Acj ag us) = us.map V.c := by
  rcases h with rfl | ⟨rfl, rfl⟩
  · rfl
  · match us, hn with
    | [u], _ => rfl
theorem Aae {ag : Bool} {us : List Value} : ArgV (Acj ag us) (Acj ag us) := by
  cases ag with
  | false => exact .c
  | true =>
    show ArgV (.a (us.map V.c)) (.a (us.map V.c))
    induction us with
    | nil => exact .a0
    | cons u us ih => exact .a1 .c ih
theorem Pe {Ho Hc : List Ob} (h : Me Ho Hc) (k : Nat) : ∀ ob ∈ Hc, ∀ y ∈ ob.cs, idB k y = true := fun ob ho y hy => by
  obtain ⟨i, hi⟩ := List.getElem?_of_mem ho
  have hlt : i < Ho.length := by rw [← h.1]; exact (List.getElem?_eq_some_iff.1 hi).1
  obtain ⟨us, e, _⟩ := h.2 i _ (List.getElem?_eq_getElem hlt)
  rw [hi] at e
  injection e with e
  rw [e] at hy
  obtain ⟨u, _, rfl⟩ := List.mem_map.1 hy
  rfl
theorem Aed {H : List Ob} : ∀ {y : V}, Tg y = true → Ip H y = true
  | .i _ _, h => h
  | .b _, h => h
  | .s _, h => h
  | .c _, h => h
  | .n _ _ _, h => h
  | .l _ _ _, h => h
  | .q _, h => h
  | .f _ _, h => h
  | .u, h => by cases h
  | .a _, h => by cases h
  | .t _, h => by cases h
  | .p _ _ _, h => by cases h
  | .o _ _ _ _, h => by cases h
theorem Z8 {H : List Ob} {l : List V} (h : l.all Tg = true) : l.all (Ip H) = true := List.all_eq_true.2 fun y hy => Aed (List.all_eq_true.1 h y hy)
variable {g tx te n : Nat} {ag : Bool} {tg : TypeId} {zv : V}
theorem Clo.hag (c : Clo P g tx te n ag tg zv) : ag = true ∨ (ag = false ∧ n = 1) := by rcases c.hld with h | h; exact .inl h.1; exact .inr ⟨h.1, h.2.1⟩
theorem Clo.load (c : Clo P g tx te n ag tg zv) {i : Nat} {us : List Value} (hn : us.length = n) {x : Operand} (hx : ovO F x = some (.p i 0 0)) (hH : H[i]? = some ⟨tx, n, 0, true, us.map V.c⟩) : LY P Γ (.load tx x) F H (Acj ag us) := by
  rcases c.hld with ⟨rfl, h⟩ | ⟨rfl, rfl, h⟩
  · exact Bm h hx hH (T1 (by rw [List.length_map, hn])) (by rw [List.length_map, hn])
  · match us, hn with
    | [u], _ => exact Be h hx hH rfl
theorem Clo.ret (c : Clo P g tx te n ag tg zv) {Ho Hc : List Ob} {i j sz : Nat} {cs : List V} {y : V} (hi : Ho[i]? = some ⟨tx, n, 0, true, cs⟩) (hcs : cs.length = n) (hj : Ho[j]? = some ⟨te, sz, 0, true, [y]⟩) (k : Me Ho Hc) :
    Xe P g [.p i 0 0, .p j 0 0] Hc .returning .returning Hc := by
  obtain ⟨fn, cfn, fc, tt, ti, ps, h1, h2, h3, h4, h5, h6, h7, h8, h9⟩ := c.shape
  obtain ⟨us, e1, e2, e3⟩ := k.2 i _ hi
  obtain ⟨ue, f1, f2, f3⟩ := k.2 j _ hj
  have e2' : us.length = n := by rw [e2]; exact hcs
  obtain ⟨ux, rfl⟩ : ∃ ux, ue = [ux] := by
    match ue, f2 with
    | [u], _ => exact ⟨u, rfl⟩
  have hux := f3 ux (List.mem_cons_self ..)
  have hsame : ∀ (l : List Ob) (k : Nat) (o : Ob), l[k]? = some o → l.set k o = l := fun l k o h => by
    have hlt := (List.getElem?_eq_some_iff.1 h).1
    have he := (List.getElem?_eq_some_iff.1 h).2
    rw [← he]; exact List.set_getElem_self hlt
  refine Aca (H1 := Hc) tx te tt ti ps i j h1 h2 h3 h4 h5 h6 h7 c.hm rfl (fun Γ F hx => c.load e2' hx e1) (fun Γ F hx => Be (y := .c ux) c.hle hx f1 rfl) (h8 us ux e2' e3 hux) Aae .c (fun Γ F hx hz => ?_) (fun Γ F hx hz => ?_) (fun ob ho _ y hy => Pe k _ ob ho y hy) rfl
  · have := Ak (P := P) (Γ := Γ) (T := tx) (n := n) hx hz e1 c.hsz (by rw [Mf e2' c.hag, List.length_map, e2']) (by
      rw [Mf e2' c.hag]
      refine List.all_eq_true.2 fun y hy => ?_
      obtain ⟨u, hu, rfl⟩ := List.mem_map.1 hy
      exact e3 u hu) (by rw [List.length_map, e2']; omega)
    rw [Mf e2' c.hag, Mp _ _ rfl, hsame _ _ _ e1] at this
    exact this
  · have := Ak (P := P) (Γ := Γ) (T := te) (n := 1) hx hz f1 (I3 c.hle) rfl (by simp [cellsV, Ip, Tg, hux]) (by simp)
    rw [show cellsV (V.c ux) = [V.c ux] from rfl, show List.map V.c [ux] = [V.c ux] from rfl, Mp _ _ rfl] at this
    rw [hsame _ _ _ (show Hc[j]? = some ⟨te, sz, 0, true, [V.c ux]⟩ from f1)] at this
    exact this
theorem Clo.pan (c : Clo P g tx te n ag tg zv) {Ho Hc : List Ob} {i j sz : Nat} {cs : List V} {y : V} (hij : i ≠ j) (hi : Ho[i]? = some ⟨tx, n, 0, true, cs⟩) (hcs : cs.length = n) (hj : Ho[j]? = some ⟨te, sz, 0, true, [y]⟩) (k : Me Ho Hc) (e : Int) :
    Xe P g [.p i 0 0, .p j 0 0] Hc (.panicking (Ab0 tg e false)) (.panicking (Ab0 tg e true)) ((Hc.set i ⟨tx, n, 0, true, cellsV zv⟩).set j ⟨te, sz, 0, true, [.i .i64 e]⟩) := by
  obtain ⟨fn, cfn, fc, tt, ti, ps, h1, h2, h3, h4, h5, h6, h7, h8, h9⟩ := c.shape
  obtain ⟨us, e1, e2, e3⟩ := k.2 i _ hi
  obtain ⟨ue, f1, f2, f3⟩ := k.2 j _ hj
  have e2' : us.length = n := by rw [e2]; exact hcs
  obtain ⟨ux, rfl⟩ : ∃ ux, ue = [ux] := by
    match ue, f2 with
    | [u], _ => exact ⟨u, rfl⟩
  have hux := f3 ux (List.mem_cons_self ..)
  have f1' : (Hc.set i ⟨tx, n, 0, true, cellsV zv⟩)[j]? = some ⟨te, sz, 0, true, [V.c ux]⟩ := by rw [List.getElem?_set_ne hij]; exact f1
  refine Aca (H1 := Hc.set i ⟨tx, n, 0, true, cellsV zv⟩) (xv' := zv) (ev' := .i .i64 e) tx te tt ti ps i j h1 h2 h3 h4 h5 h6 h7 c.hm rfl (fun Γ F hx => c.load e2' hx e1) (fun Γ F hx => Be (y := .c ux) c.hle hx f1 rfl) (h9 us ux e e2' e3 hux) Aae .c (fun Γ F hx hz => ?_) (fun Γ F hx hz => ?_) (fun ob ho _ y hy => ?_) (by simp)
  · have := Ak (P := P) (Γ := Γ) (T := tx) (n := n) hx hz e1 c.hsz c.hz1 (Z8 c.hz2) (by rw [List.length_map, e2']; omega)
    rw [Mp _ _ (by rw [List.length_map, e2', c.hz1])] at this
    exact this
  · have := Ak (P := P) (Γ := Γ) (T := te) (n := 1) hx hz f1' (I3 c.hle) rfl rfl (by simp)
    exact this
  · rcases List.mem_or_eq_of_mem_set ho with ho | rfl
    · rcases List.mem_or_eq_of_mem_set ho with ho | rfl
      · exact Pe k _ ob ho y hy
      · exact List.all_eq_true.1 (c.hz3 _) y hy
    · have hy' : y ∈ [V.i .i64 e] := hy
      simp at hy'; subst hy'; rfl
theorem Clo.fin (c : Clo P g tx te n ag tg zv) {Qf : Exit → Fr → List Ob → Prop} {m i j sz : Nat} {cs : List V} {y : V} (hmH : m ≤ H.length) (hl : (H.take m).all (·.live) = true) (hi : (H.take m)[i]? = some ⟨tx, n, 0, true, cs⟩) (hcs : cs.length = n) (hj : (H.take m)[j]? = some ⟨te, sz, 0, true, [y]⟩)
    (hq : Qf .ret F H) : FinD P Qf g [.p i 0 0, .p j 0 0] m .returning F H :=
  ⟨.returning, H.take m, by simp, rfl, by simp; omega, hmH, List.all_eq_true.1 hl, fun Hc k => ⟨Hc, c.ret hi hcs hj k, by rw [k.1]; simp; omega, fun k => .inl ⟨rfl, rfl⟩⟩, by rw [List.take_append_drop]; exact hq⟩
theorem Clo.finP (c : Clo P g tx te n ag tg zv) {Qf : Exit → Fr → List Ob → Prop} {m i j sz : Nat} {cs : List V} {y : V} {e : Int} (hij : i ≠ j) (hmH : m ≤ H.length) (hl : (H.take m).all (·.live) = true) (hi : (H.take m)[i]? = some ⟨tx, n, 0, true, cs⟩) (hcs : cs.length = n) (hj : (H.take m)[j]? = some ⟨te, sz, 0, true, [y]⟩)
    (hq : Qf .ret F ((H.set i ⟨tx, n, 0, true, cellsV zv⟩).set j ⟨te, sz, 0, true, [.i .i64 e]⟩)) : FinD P Qf g [.p i 0 0, .p j 0 0] m (.panicking (Ab0 tg e false)) F H := by
  have him : i < (H.take m).length := (List.getElem?_eq_some_iff.1 hi).1
  have hjm : j < (H.take m).length := (List.getElem?_eq_some_iff.1 hj).1
  refine ⟨.panicking (Ab0 tg e true), ((H.take m).set i ⟨tx, n, 0, true, cellsV zv⟩).set j ⟨te, sz, 0, true, [.i .i64 e]⟩, by simp, rfl, by simp; omega, hmH, List.all_eq_true.1 hl, fun Hc k => ⟨_, c.pan hij hi hcs hj k e, by simp [k.1]; omega, fun q => ?_⟩, ?_⟩
  · by_cases h1 : q = j
    · subst h1; refine .inr ?_
      rw [List.getElem?_set_self (by rw [List.length_set, k.1]; exact hjm), List.getElem?_set_self (by rw [List.length_set]; exact hjm)]
    · rw [List.getElem?_set_ne (Ne.symm h1), List.getElem?_set_ne (Ne.symm h1)]
      by_cases h2 : q = i
      · subst h2; refine .inr ?_
        rw [List.getElem?_set_self (by rw [k.1]; exact him), List.getElem?_set_self him]
      · exact .inl ⟨by rw [List.getElem?_set_ne (Ne.symm h2)], by rw [List.getElem?_set_ne (Ne.symm h2)]⟩
  · have : ((H.take m).set i ⟨tx, n, 0, true, cellsV zv⟩).set j ⟨te, sz, 0, true, [.i .i64 e]⟩ ++ H.drop m = (H.set i ⟨tx, n, 0, true, cellsV zv⟩).set j ⟨te, sz, 0, true, [.i .i64 e]⟩ := by
      conv => rhs; rw [← List.take_append_drop m H]
      rw [List.set_append_left _ _ him, List.set_append_left _ _ (by rw [List.length_set]; exact hjm)]
    rw [this]
    exact hq
def noPan (Q : Exit → Fr → List Ob → Prop) : Exit → Fr → List Ob → Prop
  | .panic _, _, _ => False
  | e, F, H => Q e F H
theorem G2 {x : Code} (j : JC P x Γ F H (noPan Q)) : JC P x Γ F H Q := Q6 (fun e F' H' q => by cases e <;> first | exact q | exact q.elim) j
end

def Ll (P : Program) (f : FuncId) (g : Nat) (cells : List V) (args : List V) (post : Out → List Ob → Prop) : Prop :=
  ∀ (M : Nat → Prop) (w : World) (ρ : List Re) (vals : List Value), (∀ b, M b → b < w.heap.size) → TabR g cells w M → HR M w w.heap.size ρ [] → RelL w (Bb M ρ []) w.heap.size ρ args vals →
    Calls P f vals.toArray w fun e w' => ∃ o H' ρ', post o H' ∧ Ln w' (Bb M ρ' H') w.heap.size ρ' o e ∧ HR M w' w.heap.size ρ' H' ∧
      w'.os = w.os ∧ w'.tape = w.tape ∧ w'.output = w.output ∧ Ev w (Bb M ρ []) w.heap.size ρ w' (Bb M ρ' H') w.heap.size ρ' ∧
      (∀ (id : Nat) (ob : Ob) (re : Re) (g : Nat), H'[id]? = some ob → ob.live = true → ρ'[id]? = some re → re.g = some g → w.heap.size ≤ g ∨ Jg ρ [] g) ∧ (∀ b, b < w.heap.size → ¬ Jg ρ [] b → w'.heap[b]? = w.heap[b]?)
section
variable {P : Program} {Γ : Ctx} {F : Fr} {H : List Ob} {Q : Exit → Fr → List Ob → Prop} {g : Nat} {cells : List V}
theorem Tj {f : FuncId} {fn : Func} {dst : Option Tmp} {T : TypeId} {ps : String} {af : Array Edge} {gd : Option (Nat × Bool)} {c : Operand} {args : Array Operand} {ts : Array TypeId} {ys zs : List V} {post : Out → List Ob → Prop}
    (hc : ovO F c = some (.f f [])) (hf : P.funcs[f]? = some fn) (hb : fn.body.isSome = true) (hn : (fn.name == "runtime.NumGoroutine") = false) (hx : ovL F args.toList ys) (ha : ArgL ys zs) (hL : ∀ b, ¬ Γ.L0 b) (hT : TabR g cells Γ.w0 Γ.M) (hs : Ll P f g cells zs post) (hid : ∀ o G, post o G → F4 G) {ρ : List Re} {a : Act} {w : World} (s : StA Γ ρ F H a w) {K : Act → World → Prop} {R : Exit → Act → World → Prop}
    (k : ∀ y v w' G ρ', post (.ret y) G → Rel w' (Bb Γ.M ρ' (H ++ G)) Γ.w0.heap.size ρ' (sh H.length y) v → Below w.heap.size w w' → StA Γ ρ' F (H ++ G) a w' → K (a.put dst v) w')
    (kp : ∀ ch w' G ρ', post (.pan ch) G → StA Γ ρ' F (H ++ G) a w' → R (.panic ch) a w') :
    (⟨dst, .call { callee := .value c, args := args, argTypes := ts }, T, ps, af, gd⟩ : Oper).wp P a w K R := by
  obtain ⟨us0, hcv, hcr⟩ := s.ov hc
  have hus0 : us0 = [] := hcr
  subst hus0
  have hr := s.ovL hx
  have hargs : args.map a.eval = (args.toList.map a.eval).toArray := by apply Array.ext'; rw [Array.toList_map]
  have hcall := hs (Bb Γ.M ρ H) w [] (args.toList.map a.eval) (fun b h => Jv s h) (ArgV.q.rel (Px hL hT s)) ⟨rfl, fun i o h => by simp at h, fun i j oi oj ri rj g _ h => by simp at h, fun i o r g h => by simp at h⟩ (by rw [M5]; exact ha.rel _ hr)
  have hrun : (execOp a.eval ⟨dst, .call { callee := .value c, args := args, argTypes := ts }, T, ps, af, gd⟩).run P w = .ok (.enter f (args.toList.map a.eval).toArray) w := by
    have hb' : ¬ fn.body = none := by intro h; rw [h] at hb; cases hb
    have hn' : ¬ fn.name = "runtime.NumGoroutine" := by simpa using hn
    simp [execOp, resolve, hcv, Deferred.ofValue, invoke, callFunc, program, Sem.run, hf]
    rw [if_neg hn', if_neg hb', hargs]
  unfold Oper.wp
  rw [hrun]
  show Calls P f _ w _
  refine hcall.mono fun e w' ⟨o, G, ρG, h1, h2, h3, h4, h5, h6, ev, h8, h9⟩ => ?_
  have hidG := hid o G h1
  have hnoh : ∀ b, ¬ Jg [] [] b := fun b ⟨i, o, r, hh, _⟩ => by simp at hh
  have hbelow : Below w.heap.size w w' := ⟨h4, h5, h6, ev.size, fun b hlt => h9 b hlt (hnoh b)⟩
  have hold : ∀ b, b < w.heap.size → w'.heap[b]? = w.heap[b]? := hbelow.block
  have hnew : ∀ (id : Nat) (ob : Ob) (re : Re) (g9 : Nat), G[id]? = some ob → ob.live = true → ρG[id]? = some re → re.g = some g9 → w.heap.size ≤ g9 := fun id ob re g k1 k2 k3 k4 => (h8 id ob re g k1 k2 k3 k4).resolve_right (hnoh g)
  have hlen := s.hr.len
  have hL := M6 (M := Γ.M) (ρG := ρG) (G := G) hlen
  have ev2 : Ev w (Bb Γ.M ρ H) Γ.w0.heap.size ρ w' (Bb Γ.M (ρ ++ ρG) (H ++ G)) Γ.w0.heap.size (ρ ++ ρG) := by
    refine ⟨ev.size, fun b hlt _ => hold b hlt, fun b hlt hn h => ?_, Nat.le_refl _, fun i r h => ⟨r, by rw [List.getElem?_append_left (List.getElem?_eq_some_iff.1 h).1]; exact h, Nat.le_refl _, fun _ => rfl⟩⟩
    rw [hL] at h
    rcases h with h | ⟨i, o, r, k1, k2, k3, k4⟩
    · exact hn h
    · have := hnew i o r b k1 k2 k3 k4; omega
  have s' : StA Γ (ρ ++ ρG) F (H ++ G) a w' := by
    refine ⟨⟨by rw [List.length_append, List.length_append, hlen, h3.len], fun i o k1 k2 => ?_, fun i j oi oj ri rj g hij k1 k2 k3 k4 k5 k6 => ?_, fun i o r g k1 k2 k3 k4 => ?_⟩, s.n, s.ds, fun t => (s.fr t).ev ev2, ⟨h4.trans s.fro.os, h5.trans s.fro.tape, h6.trans s.fro.output, Nat.le_trans s.fro.size ev.size, fun b hlt hnl => by rw [hold b (Nat.lt_of_lt_of_le hlt s.fro.size)]; exact s.fro.blk b hlt hnl, s.fro.old, fun i o r g k1 k2 k3 k4 => ?_, fun i r hi => ?_⟩⟩
    · rcases Nat.lt_or_ge i H.length with hlt | hge
      · rw [List.getElem?_append_left hlt] at k1
        obtain ⟨r, k3, k4⟩ := s.hr.ob i o k1 k2
        refine ⟨r, by rw [List.getElem?_append_left (by omega)]; exact k3, k4.ver, k4.sz, k4.nob, fun g hg => ?_⟩
        obtain ⟨cur, c1, c2, c3, c4, c5⟩ := k4.blk g hg
        have hglt : g < w.heap.size := (Array.getElem?_eq_some_iff.1 c1).1
        exact ⟨cur, by rw [hold g hglt]; exact c1, c2, c3, c4, fun j y hy => by obtain ⟨u, d1, d2, d3⟩ := c5 j y hy; exact ⟨u, d1, d2, d3.ev ev2⟩⟩
      · rw [List.getElem?_append_right hge] at k1
        obtain ⟨r, k3, k4⟩ := h3.ob _ o k1 k2
        refine ⟨r, by rw [List.getElem?_append_right (by omega), hlen]; exact k3, k4.ver, k4.sz, k4.nob, fun g hg => ?_⟩
        obtain ⟨cur, c1, c2, c3, c4, c5⟩ := k4.blk g hg
        refine ⟨cur, c1, c2, c3, c4, fun j y hy => ?_⟩
        obtain ⟨u, d1, d2, d3⟩ := c5 j y hy
        refine ⟨u, d1, d2, ?_⟩
        have hcut := d3.cut (n := 0) y u (hidG o (List.mem_of_getElem? k1) k2 y (List.mem_of_getElem? hy))
        rw [List.take_zero] at hcut
        rw [hL]
        exact K1 s.fro.size y u hcut
    · rcases Nat.lt_or_ge i H.length with hi | hi <;> rcases Nat.lt_or_ge j H.length with hj | hj
      · rw [List.getElem?_append_left hi] at k1
        rw [List.getElem?_append_left hj] at k3
        rw [List.getElem?_append_left (by omega)] at k5 k6
        exact s.hr.apart i j oi oj ri rj g hij k1 k2 k3 k4 k5 k6
      · rw [List.getElem?_append_left hi] at k1
        rw [List.getElem?_append_right hj] at k3
        rw [List.getElem?_append_left (by omega)] at k5
        rw [List.getElem?_append_right (by omega), hlen] at k6
        intro hg hg'
        obtain ⟨r, m1, m2⟩ := s.hr.ob i oi k1 k2
        obtain rfl : r = ri := by have := m1.symm.trans k5; injection this
        obtain ⟨cur, c1, _⟩ := m2.blk g hg
        have hglt : g < w.heap.size := (Array.getElem?_eq_some_iff.1 c1).1
        have := hnew _ oj rj g k3 k4 k6 hg'
        omega
      · rw [List.getElem?_append_right hi] at k1
        rw [List.getElem?_append_left hj] at k3
        rw [List.getElem?_append_right (by omega), hlen] at k5
        rw [List.getElem?_append_left (by omega)] at k6
        intro hg hg'
        obtain ⟨r, m1, m2⟩ := s.hr.ob j oj k3 k4
        obtain rfl : r = rj := by have := m1.symm.trans k6; injection this
        obtain ⟨cur, c1, _⟩ := m2.blk g hg'
        have hglt : g < w.heap.size := (Array.getElem?_eq_some_iff.1 c1).1
        have := hnew _ oi ri g k1 k2 k5 hg
        omega
      · rw [List.getElem?_append_right hi] at k1
        rw [List.getElem?_append_right hj] at k3
        rw [List.getElem?_append_right (by omega), hlen] at k5 k6
        exact h3.apart _ _ oi oj ri rj g (by omega) k1 k2 k3 k4 k5 k6
    · rcases Nat.lt_or_ge i H.length with hi | hi
      · rw [List.getElem?_append_left hi] at k1
        rw [List.getElem?_append_left (by omega)] at k3
        exact s.hr.foreign i o r g k1 k2 k3 k4
      · rw [List.getElem?_append_right hi] at k1
        rw [List.getElem?_append_right (by omega), hlen] at k3
        exact fun hM => h3.foreign _ o r g k1 k2 k3 k4 (.inl hM)
    · rcases Nat.lt_or_ge i H.length with hi | hi
      · rw [List.getElem?_append_left hi] at k1
        rw [List.getElem?_append_left (by omega)] at k3
        exact s.fro.mine i o r g k1 k2 k3 k4
      · rw [List.getElem?_append_right hi] at k1
        rw [List.getElem?_append_right (by omega), hlen] at k3
        have := hnew _ o r g k1 k2 k3 k4
        exact .inl (Nat.le_trans s.fro.size this)
    · obtain ⟨r1, e1, e2, e3⟩ := s.fro.rho i r hi
      exact ⟨r1, by rw [List.getElem?_append_left (List.getElem?_eq_some_iff.1 e1).1]; exact e1, e2, e3⟩
  cases o with
  | ret y =>
    obtain ⟨v, rfl, hr'⟩ := h2
    refine k y v w' G (ρ ++ ρG) h1 ?_ hbelow s'
    rw [hL, ← hlen]
    exact Ik s.fro.size _ v (Rel.sh y v hr')
  | pan ch =>
    have : e = .panicked ch := h2
    subst this
    exact kp ch w' G _ h1 s'
theorem Vy {f : FuncId} (fn : Func) {ops : Array Oper} {rest : List Oper} {d : Nat} {T : TypeId} {ps : String} {af : Array Edge} {args : Array Operand} {ts : Array TypeId} {c : Operand} {ys zs : List V} {post : Out → List Ob → Prop}
    (hs : Ll P f g cells zs post) (hL : ∀ b, ¬ Γ.L0 b) (hT : TabR g cells Γ.w0 Γ.M) (hid : ∀ o G, post o G → F4 G) (hc : ovO F c = some (.f f [])) (hf : P.funcs[f]? = some fn) (hb : fn.body.isSome = true) (hn : (fn.name == "runtime.NumGoroutine") = false) (hx : ovL F args.toList ys) (ha : ArgL ys zs) (hd : d < Γ.N)
    (k : ∀ y G, post (.ret y) G → JO P ops rest Γ ((d, sh H.length y) :: F) (H ++ G) Q) (kp : ∀ ch G, post (.pan ch) G → Q (.panic ch) F (H ++ G)) :
    JO P ops (⟨some d, .call { callee := .value c, args := args, argTypes := ts }, T, ps, af, none⟩ :: rest) Γ F H Q := fun a w ⟨ρ, s⟩ =>
  wpList_plain rfl fun K hK => Tj hc hf hb hn hx ha hL hT hs hid s (fun y v w' G ρ' h1 h2 _ h4 => hK _ _ (k y G h1 _ _ ⟨ρ', h4.put hd h2⟩)) (fun ch w' G ρ' h1 h3 => ⟨F, H ++ G, kp ch G h1, ρ', h3⟩)
end

section
variable {P : Program} {Γ : Ctx} {F : Fr} {H : List Ob} {Q : Exit → Fr → List Ob → Prop} {tg : Nat} {tc : List V}
theorem Jr {fn gn : Func} {g : FuncId} {caps : List V} {R : Ending → World → Prop} {Qf : Exit → Fr → List Ob → Prop} (m : Nat) {id : Nat} (pre : List Oper) {rest : List Oper} {y : Code} {x : Operand} {T : TypeId} {ps : String} {af : Array Edge} {ts : Array TypeId} {ops : List Oper} (hops : ops = pre ++ ⟨none, .defer { callee := .value x, args := #[], argTypes := ts }, T, ps, af, none⟩ :: rest)
    (hgf : P.funcs[g]? = some gn) (hgb : gn.body.isSome = true) (hgn : (gn.name == "runtime.NumGoroutine") = false) (hcb : caps.all (Afu m) = true) (hds : Γ.ds = []) (hR : Γ.ρ0 = []) (hp : ∀ b, ¬ Γ.L0 b)
    (hE : ∀ F H ρ a w, StA Γ ρ F H a w → Qf .ret F H → ∃ v, (results fn a.tmps).run P w = .ok v w ∧ R (.returned v) w)
    (j : JO P ops.toArray pre Γ F H (fun e F' H' => e = .normal ∧ ovO F' x = some (.f g caps) ∧ H'.length = m ∧ ∀ Γ1 : Ctx, Γ1.N = Γ.N → Γ1.w0 = Γ.w0 → Γ1.M = Γ.M → (∀ b, ¬ Γ1.L0 b) → Γ1.ρ0.length = m →
      JO P ops.toArray rest Γ1 F' H' (K7 (fun F'' H'' => JC P y Γ1 F'' H'' (Ol P Qf g caps m)) (Ol P Qf g caps m)))) :
    JCP P (.seq (.region id ops.toArray false) y) Γ F H (bodyPostD P fn R) := fun a w s => by
  refine wp_seq (wp_region_lit ?_)
  have hj := j a w s
  generalize hA : ops.toArray = A at hj ⊢
  rw [hops]
  refine Ft pre a w (Em (fun e a' w' q => ?_) pre a w hj)
  obtain ⟨F', H', ⟨rfl, hx, hm, k⟩, ρ, s'⟩ := q
  show wpList P A _ (_ :: rest) a' w'
  obtain ⟨us, hv, hr⟩ := s'.ov hx
  refine wpList_plain rfl fun K hK => ?_
  unfold Oper.wp
  rw [show (execOp a'.eval ⟨none, .defer { callee := .value x, args := #[], argTypes := ts }, T, ps, af, none⟩).run P w' = .ok (.defer ⟨.fn (.func g) us.toArray, #[]⟩) w' by simp [execOp, resolve, hv, Deferred.ofValue, Sem.run]]
  refine hK _ _ ?_
  let d : Deferred := ⟨.fn (.func g) us.toArray, #[]⟩
  have s1 : StA (Γ.later ρ d) ρ F' H' { a' with defers := d :: a'.defers } w' := s'.later d
  have hE1 : ∀ F H ρ2 a w, StA (Γ.later ρ d) ρ2 F H a w → Qf .ret F H → ∃ v, (results fn a.tmps).run P w = .ok v w ∧ R (.returned v) w := fun F H ρ2 a w s2 q =>
    hE F H ρ2 { a with defers := Γ.ds } w ⟨s2.hr, s2.n, rfl, s2.fr, ⟨s2.fro.os, s2.fro.tape, s2.fro.output, s2.fro.size, s2.fro.blk, s2.fro.old, s2.fro.mine, fun i r h => by rw [hR] at h; simp at h⟩⟩ q
  have hq : ∀ e a w, toQ (Γ.later ρ d) (Ol P Qf g caps m) e a w → bodyPostD P fn R e a w := fun e a w h =>
    Ry (Γ := Γ.later ρ d) (m := m) hgf hgb hgn (by show d :: Γ.ds = _; rw [hds]) hr hcb hE1 e a w h
  have j1 := k (Γ.later ρ d) rfl rfl rfl hp (by show ρ.length = m; rw [← hm]; exact s'.hr.len) _ _ ⟨ρ, s1⟩
  refine Em (fun e a2 w2 q2 => ?_) rest _ _ j1
  obtain ⟨F2, H2, q3, s2⟩ := q2
  cases e with
  | normal => exact Code.wp_mono hq (q3 a2 w2 s2)
  | exit id => exact hq (.exit id) a2 w2 ⟨F2, H2, q3, s2⟩
  | goto l => exact hq (.goto l) a2 w2 ⟨F2, H2, q3, s2⟩
  | ret => exact hq .ret a2 w2 ⟨F2, H2, q3, s2⟩
  | panic ch => exact hq (.panic ch) a2 w2 ⟨F2, H2, q3, s2⟩
  | outgrown => exact hq .outgrown a2 w2 ⟨F2, H2, q3, s2⟩
theorem T7 {f : FuncId} {fn : Func} {c : Code} {args : List V} {post : Out → Prop} (F0 : Fr) (h0 : ((args.zipIdx 0).map fun p => (p.2, p.1)) = F0) (hf : P.funcs[f]? = some fn) (hb : fn.body = some c) (hn : args.length ≤ fn.ntmps)
    (h : ∀ (Γ : Ctx) (R : Ending → World → Prop), TabR tg tc Γ.w0 Γ.M → Γ.N = fn.ntmps → Γ.ds = [] → (∀ b, ¬ Γ.L0 b) → Γ.ρ0 = [] → (∀ F H ρ a w, StA Γ ρ F H a w → Ad0 P fn post .ret F H → ∃ v, (results fn a.tmps).run P w = .ok v w ∧ R (.returned v) w) →
      JCP P c Γ F0 [] (bodyPostD P fn R)) : SpecT P f tg tc args post := fun M w vals hM hT hr => by
  subst h0; refine Wi hf hb hn M w vals hM hr fun Γ e1 e2 h1 h2 h3 h4 => h Γ _ (by rw [e1, e2]; exact hT) h1 h2 h3 h4 ?_; rintro F H ρ a w' s ⟨ys, z, q1, q2, q3⟩
  obtain ⟨v, hv, hr'⟩ := s.results q1
  refine ⟨v, hv, .ret z, q3, ⟨v, rfl, ?_⟩, ?_⟩
  · have := q2.rel s h3 hr'
    rw [e1, e2] at this
    exact this
  · rw [← e1]
    exact ⟨s.fro.os, s.fro.tape, s.fro.output, s.fro.size, fun b hb => s.fro.blk b hb (h3 b)⟩
theorem Lw {f : FuncId} {fn : Func} {c : Code} {args : List V} {post : Out → List Ob → Prop} (F0 : Fr) (h0 : ((args.zipIdx 0).map fun p => (p.2, p.1)) = F0) (hf : P.funcs[f]? = some fn) (hb : fn.body = some c) (hn : args.length ≤ fn.ntmps)
    (h : ∀ (Γ : Ctx) (R : Ending → World → Prop), TabR tg tc Γ.w0 Γ.M → Γ.N = fn.ntmps → Γ.ds = [] → (∀ b, ¬ Γ.L0 b) → Γ.ρ0 = [] → (∀ F H ρ a w, StA Γ ρ F H a w → Adz P fn post .ret F H → ∃ v, (results fn a.tmps).run P w = .ok v w ∧ R (.returned v) w) →
      JCP P c Γ F0 [] (bodyPostD P fn R)) : Ll P f tg tc args post := fun M w ρ vals hM hT hR hr => by
  have hρ : ρ = [] := List.eq_nil_of_length_eq_zero hR.len
  subst hρ; subst h0
  have nohand : ∀ b, ¬ Jg [] [] b := fun b hb => by obtain ⟨i, o, r, h1, _⟩ := hb; simp at h1
  have Leq : ∀ b, M b → Bb M [] [] b := fun b h => .inl h
  refine Wi hf hb hn M w vals hM (hr.ev ⟨Nat.le_refl _, fun _ _ _ => rfl, fun b _ hn h => hn (Leq b h), Nat.le_refl _, fun i r h => by simp at h⟩) fun Γ e1 e2 h1 h2 h3 h4 => h Γ _ (by rw [e1, e2]; exact hT) h1 h2 h3 h4 ?_; rintro F H ρ1 a w' s' ⟨sel, ys, y, q1, q2, q3, q4, q5, q6⟩
  have hsz : w.heap.size ≤ w'.heap.size := by rw [← e1]; exact s'.fro.size
  have hblk : ∀ b, b < w.heap.size → w'.heap[b]? = w.heap[b]? := fun b hb => by rw [← e1]; exact s'.fro.blk b (by rw [e1]; exact hb) (h3 b)
  have hmine : ∀ (id : Nat) (ob : Ob) (re : Re) (g : Nat), H[id]? = some ob → ob.live = true → ρ1[id]? = some re → re.g = some g → w.heap.size ≤ g := fun i o r g z1 z2 z3 z4 => by
    rcases s'.fro.mine i o r g z1 z2 z3 z4 with h | h
    · rw [← e1]; exact h
    · exact absurd h (h3 g)
  have hsub := Kf (M := M) (sel := sel) s'.hr.len
  have hLM : Bb Γ.M ρ1 H = Bb M ρ1 H := by rw [e2]
  have ev : Ev w' (Bb M ρ1 H) w.heap.size ([] : List Re) w' (Bb M (C5 J4 sel ρ1) (C5 Oq sel H)) w.heap.size (C5 J4 sel ρ1) :=
    ⟨Nat.le_refl _, fun _ _ _ => rfl, fun b _ hn h => hn (hsub b h), Nat.le_refl _, fun i r h => by simp at h⟩
  obtain ⟨v, hv, hr'⟩ := s'.results q1
  rw [← q2] at hr'
  rw [hLM, e1] at hr'
  have hl : Rel w' (Bb M (C5 J4 sel ρ1) (C5 Oq sel H)) w.heap.size (C5 J4 sel ρ1) y v :=
    (hr'.unren y v q3).ev ⟨Nat.le_refl _, fun _ _ _ => rfl, fun b _ hn hh => hn (Kf s'.hr.len b hh), Nat.le_refl _, fun i r h => ⟨r, h, Nat.le_refl _, fun _ => rfl⟩⟩
  refine ⟨v, hv, .ret y, _, _, q6, ⟨v, rfl, hl⟩, ⟨by simp [C5], fun j o h1 h2 => ?_, fun j j' oj oj' rj rj' g hjj h1 h2 h3 h4 h5 h6 => ?_, fun j o r g h1 h2 h3 h4 => ?_⟩, (by rw [← e1]; exact s'.fro.os), (by rw [← e1]; exact s'.fro.tape), (by rw [← e1]; exact s'.fro.output), ⟨hsz, fun b hlt hL => hblk b hlt, fun b hlt hL hL' => ?_, Nat.le_refl _, fun i r h => by simp at h⟩, fun j o r g h1 h2 h3 h4 => ?_, fun b hlt hh => hblk b hlt⟩
  · obtain ⟨i, k1, k2⟩ := Ka h1 h2
    obtain ⟨r, k3, k4⟩ := s'.hr.ob i o k2 h2
    refine ⟨r, Iy k1 k3, k4.ver, k4.sz, k4.nob, fun g hg => ?_⟩
    obtain ⟨cur, c1, c2, c3, c4, c5⟩ := k4.blk g hg
    refine ⟨cur, c1, c2, c3, c4, fun q y hy => ?_⟩
    obtain ⟨u, d1, d2, d3⟩ := c5 q y hy
    refine ⟨u, d1, d2, ?_⟩
    rw [hLM, e1] at d3
    have hcut := d3.cut (n := 0) y u (q5 o (List.mem_of_getElem? h1) h2 y (List.mem_of_getElem? hy))
    rw [List.take_zero] at hcut
    exact hcut.ev ev
  · obtain ⟨i, k1, k2, k3⟩ := F9 s'.hr.len h1 h2 h5
    obtain ⟨i', k1', k2', k3'⟩ := F9 s'.hr.len h3 h4 h6
    refine s'.hr.apart i i' oj oj' rj rj' g (fun e => hjj ?_) k2 h2 k2' h4 k3 k3'
    subst e
    have hj : j < sel.length := (List.getElem?_eq_some_iff.1 k1).1
    exact (List.getElem?_inj hj q4).1 (k1.trans k1'.symm)
  · obtain ⟨i, k1, k2, k3⟩ := F9 s'.hr.len h1 h2 h3
    have := s'.hr.foreign i o r g k2 h2 k3 h4
    rw [e2] at this
    exact this
  · rcases hsub b hL' with hM' | ⟨i, o, r, h1, h2, h3, h4⟩
    · exact hL (.inl hM')
    · have := hmine i o r b h1 h2 h3 h4
      omega
  · obtain ⟨i, k1, k2, k3⟩ := F9 s'.hr.len h1 h2 h3
    exact .inl (hmine i o r g k2 h2 k3 h4)
end

def zl : Nat → Nat → List Bool
  | 0, _ => []
  | n + 1, x => (x % 2 == 1) :: zl n (x / 2)
abbrev za (n x : Nat) : Array Bool := (zl n x).toArray
section
variable {P : Program} {Γ : Ctx} {ops : Array Oper} {fuel : Nat} {listed : Array Bool} {F : Fr} {H : List Ob} {Q : Exit → Fr → List Ob → Prop}
theorem Bi {listed' : Array Bool} {F' m F0 : Fr} (S : JA P ops fuel listed' Γ (m ++ F0) H Q) (n : Nat) (h : Says F' m) (hl : listed = listed' := by kernel_rfl) (hA : F'.drop n = F0 := by exact rfl) (hk : L9 (F'.take n) m = true := by exact rfl) : JA P ops fuel listed Γ F' H Q := ja_to hl rfl (A5 n hA hk h) S
theorem Cb (i : Nat) (D : List Nat) {st : Bool} {o : Oper} {d : Nat} {y : V} (h : LO P ops st Γ o d F H y) (hQ : ∀ c F H d, Q (.panic c) F H → Q (.panic c) ((d, .u) :: F) H) (hi : ops[i]? = some o) (j : JA P ops fuel (listed.setIfInBounds i true) Γ ((d, y) :: F) H Q) (hs : Region.noSelect ops = true := by kernel_rfl) (hr : (Region.ready .any ops listed).contains i = true := by kernel_rfl) (hf : Sd st ops listed i D = true := by kernel_rfl) (hdp : depX ops listed i D = true := by kernel_rfl) : JA P ops (fuel + 1) listed Γ F H Q := ja_l2 i D h hi hs hr hf hdp hQ j
end

section
variable {P : Program} {Γ : Ctx} {F : Fr} {H : List Ob} {Q : Exit → Fr → List Ob → Prop}
theorem zmv {ops : Array Oper} {rest : List Oper} {d : Nat} {x : Operand} {T : TypeId} {ps : String} {af : Array Edge} {y : V} (h : ovO F x = some y) (hd : d < Γ.N) (j : JO P ops rest Γ ((d, y) :: F) H Q) : JO P ops (⟨some d, .move x, T, ps, af, none⟩ :: rest) Γ F H Q := Ac (Ar h) hd j
theorem zas {ops : Array Oper} {rest : List Oper} {d : Nat} {x : Operand} {T : TypeId} {ps : String} {af : Array Edge} {y : V} (h : ovO F x = some y) (hd : d < Γ.N) (j : JO P ops rest Γ ((d, y) :: F) H Q) : JO P ops (⟨some d, .assign x, T, ps, af, none⟩ :: rest) Γ F H Q := Ac (Cm h) hd j
theorem zsr {id : Nat} {l : List Oper} {y : Code} (h : JO P l.toArray l Γ F H (K7 (fun F' H' => JC P y Γ F' H' Q) Q)) : JC P (.seq (.region id l.toArray false) y) Γ F H Q := Ae (Af h)
theorem zal {ops : Array Oper} {fuel : Nat} {listed : Array Bool} (i : Nat) {st : Bool} {o : Oper} {d : Nat} {y : V} (h : LO P ops st Γ o d F H y) (hi : ops[i]? = some o) (j : JA P ops fuel (listed.setIfInBounds i true) Γ ((d, y) :: F) H Q) (hs : Region.noSelect ops = true := by kernel_rfl) (hr : (Region.ready .any ops listed).contains i = true := by kernel_rfl) (hf : Zp st ops listed i = true := by kernel_rfl) (hQ : ∀ c F H d, Q (.panic c) F H → Q (.panic c) ((d, .u) :: F) H := by exact fun _ _ _ _ h => h) : JA P ops (fuel + 1) listed Γ F H Q := Abv i h hi hs hr hf hQ j
theorem Av {ops : Array Oper} {fuel : Nat} {listed : Array Bool} (i : Nat) (D : List Nat) {st : Bool} {o : Oper} {d : Nat} {y : V} (h : LO P ops st Γ o d F H y) (hi : ops[i]? = some o) (j : JA P ops fuel (listed.setIfInBounds i true) Γ ((d, y) :: F) H Q) (hs : Region.noSelect ops = true := by kernel_rfl) (hr : (Region.ready .any ops listed).contains i = true := by kernel_rfl) (hf : Sd st ops listed i D = true := by kernel_rfl) (hdp : depX ops listed i D = true := by kernel_rfl) (hQ : ∀ c F H d, Q (.panic c) F H → Q (.panic c) ((d, .u) :: F) H := by exact fun _ _ _ _ h => h) : JA P ops (fuel + 1) listed Γ F H Q := ja_l2 i D h hi hs hr hf hdp hQ j
theorem Says.v5 {F r : Fr} {a b c d e : Nat} (h : Says F r) : Says F ((a, .u) :: (b, .u) :: (c, .u) :: (d, .u) :: (e, .u) :: r) := .u (.u (.u (.u (.u h))))
theorem Says.v9 {F r : Fr} {a b c d e f g i j k : Nat} (h : Says F r) : Says F ((a, .u) :: (b, .u) :: (c, .u) :: (d, .u) :: (e, .u) :: (f, .u) :: (g, .u) :: (i, .u) :: (j, .u) :: (k, .u) :: r) := .v5 (.v5 h)
theorem zlb {a b : Nat} (h : Nat.ble a b = true) : a ≤ b := Nat.le_of_ble_eq_true h
end

def tN (l : List Int) : Nat → Nat
  | 0 => 0
  | k + 1 => if l.getD k 0 = 0 then tN l k else k + 1
def trm (l : List Int) : List Int := l.take (tN l l.length)
theorem Ac0 (l : List Int) : ∀ k, tN l k ≤ k
  | 0 => Nat.le_refl _
  | k + 1 => by simp only [tN]; split <;> have := Ac0 l k <;> omega
theorem T3 {l : List Int} {k : Nat} (h0 : 0 < k) (h : l.getD (k - 1) 0 = 0) : tN l (k - 1) = tN l k := by
  obtain ⟨j, rfl⟩ : ∃ j, k = j + 1 := ⟨k - 1, by omega⟩
  simp only [Nat.add_sub_cancel] at h ⊢
  simp only [tN]
  rw [if_pos h]
theorem Py {l : List Int} {k : Nat} (h0 : 0 < k) (h : ¬ l.getD (k - 1) 0 = 0) : tN l k = k := by
  obtain ⟨j, rfl⟩ : ∃ j, k = j + 1 := ⟨k - 1, by omega⟩
  simp only [Nat.add_sub_cancel] at h
  simp only [tN]
  rw [if_neg h]
theorem tN_0 {l : List Int} {k : Nat} (h : ¬ 0 < k) : tN l k = k := by
  have : k = 0 := by omega
  subst this; rfl
theorem Dj (l : List Int) : (trm l).length ≤ l.length := by unfold trm; rw [List.length_take]; omega
theorem I9 {l : List Int} {k i : Nat} (h : i < k) : (l.take k).getD i 0 = l.getD i 0 := by
  rw [List.getD_eq_getElem?_getD, List.getD_eq_getElem?_getD, List.getElem?_take, if_pos h]
def Az (l : List Int) : Prop := ∀ x ∈ l, 0 ≤ x ∧ x < 18446744073709551616
theorem Bz {l : List Int} (h : Az l) : Az (trm l) := fun x hx => h x (List.mem_of_mem_take hx)
theorem Pu {l : List Int} (h : Az l) {i : Nat} (hi : i < l.length) : 0 ≤ l.getD i 0 ∧ l.getD i 0 < 18446744073709551616 := by
  rw [List.getD_eq_getElem?_getD, List.getElem?_eq_getElem hi]; exact h _ (List.getElem_mem hi)
theorem A2 {l : List Int} (h : Az l) (i : Nat) : 0 ≤ l.getD i 0 ∧ l.getD i 0 < 18446744073709551616 := by
  by_cases hi : i < l.length
  · exact Pu h hi
  · rw [List.getD_eq_getElem?_getD, List.getElem?_eq_none (by omega)]; exact ⟨by decide, by decide⟩
def bl : Nat → Nat → Nat
  | 0, _ => 0
  | f + 1, n => if n = 0 then 0 else 1 + bl f (n / 2)
theorem W2 : ∀ f n, bl f n ≤ f
  | 0, _ => Nat.le_refl _
  | f + 1, n => by simp only [bl]; split <;> have := W2 f (n / 2) <;> omega
theorem W3 : ∀ (f d n : Nat), n < 2 ^ f → bl (f + d) n = bl f n
  | 0, d, n, h => by
    have : n = 0 := by simpa using h
    subst this
    cases d <;> simp [bl]
  | f + 1, d, n, h => by
    rw [show f + 1 + d = (f + d) + 1 by omega]
    simp only [bl]
    split
    · rfl
    · rw [W3 f d (n / 2) (by rw [Nat.pow_succ] at h; omega)]
theorem So : ∀ (k f n : Nat), 2 ^ k ≤ n → bl (k + f) n = k + bl f (n / 2 ^ k)
  | 0, f, n, _ => by simp
  | k + 1, f, n, h => by
    have h2 : 2 ^ (k + 1) = 2 ^ k * 2 := Nat.pow_succ ..
    have hp : 0 < 2 ^ k := Nat.two_pow_pos k
    rw [show k + 1 + f = (k + f) + 1 by omega]
    simp only [bl]
    rw [if_neg (by omega), So k f (n / 2) (by omega), h2, Nat.mul_comm, ← Nat.div_div_eq_div_mul]
    omega
theorem Js {k n : Nat} (hk : k ≤ 64) (h : 2 ^ k ≤ n) (hn : n < 2 ^ 64) : bl 64 n = k + bl 64 (n / 2 ^ k) := by
  have h1 := So k (64 - k) n h
  rw [show k + (64 - k) = 64 by omega] at h1
  rw [h1]
  have h2 : n / 2 ^ k < 2 ^ (64 - k) := by
    rw [Nat.div_lt_iff_lt_mul (Nat.two_pow_pos k), ← Nat.pow_add, show 64 - k + k = 64 by omega]; exact hn
  have h3 := W3 (64 - k) k _ h2
  rw [show 64 - k + k = 64 by omega] at h3
  rw [h3]
def Vw : ByteArray := ⟨((List.range 256).map fun i => (bl 8 i).toUInt8).toArray⟩
theorem O1 {i : Nat} (h : i < 256) : Id Vw i = (bl 64 i : Int) := by
  have key : ∀ j : Fin 256, Id Vw j.val = (bl 64 j.val : Int) := by decide +kernel
  exact key ⟨i, h⟩
theorem Hh {n k b : Nat} {kk : Int} (h : 2 ^ min kk.toNat b = k) : ((n : Int)).fdiv (2 ^ min kk.toNat b) = ((n / k : Nat) : Int) := by
  have : ((2 : Int) ^ min kk.toNat b) = ((k : Nat) : Int) := by rw [← h]; norm_cast
  rw [this]
  exact (Int.ofNat_fdiv n k).symm
def Hb (l : List Int) : Nat := if (trm l).length = 0 then 0 else 64 * ((trm l).length - 1) + bl 64 ((trm l).getD ((trm l).length - 1) 0).toNat
theorem Jp (l : List Int) : Hb l ≤ 64 * l.length := by
  unfold Hb
  have h1 := Dj l
  split
  · omega
  · have := W2 64 ((trm l).getD ((trm l).length - 1) 0).toNat
    omega
def J2 (a b : List Int) : Nat → Int
  | 0 => 0
  | k + 1 => if a.getD k 0 < b.getD k 0 then -1 else if b.getD k 0 < a.getD k 0 then 1 else J2 a b k
def Qy (a b : List Int) : Int := if a.length < b.length then -1 else if b.length < a.length then 1 else J2 a b a.length
def adN (a b : List Int) : Nat → List Int × Int
  | 0 => ([], 0)
  | i + 1 => ((adN a b i).1 ++ [(a.getD i 0 + b.getD i 0 + (adN a b i).2) % 18446744073709551616], (a.getD i 0 + b.getD i 0 + (adN a b i).2) / 18446744073709551616)
theorem C7 (a b : List Int) : ∀ i, (adN a b i).1.length = i
  | 0 => rfl
  | i + 1 => by simp only [adN, List.length_append, C7 a b i]; rfl
theorem Tb {a b : List Int} (ha : Az a) (hb : Az b) : ∀ i, 0 ≤ (adN a b i).2 ∧ (adN a b i).2 ≤ 1
  | 0 => ⟨Int.le_refl 0, (by decide : (0 : Int) ≤ 1)⟩
  | i + 1 => by
    have h1 := A2 ha i
    have h2 := A2 hb i
    have h3 := Tb ha hb i
    simp only [adN]
    omega
theorem Ta {a b : List Int} : ∀ i, Az (adN a b i).1
  | 0 => by intro x hx; cases hx
  | i + 1 => by
    intro x hx
    simp only [adN, List.mem_append, List.mem_singleton] at hx
    rcases hx with hx | hx
    · exact Ta i x hx
    · subst hx; omega
def sbN (a b : List Int) : Nat → List Int × Int
  | 0 => ([], 0)
  | i + 1 => ((sbN a b i).1 ++ [if a.getD i 0 < b.getD i 0 + (sbN a b i).2 then a.getD i 0 - b.getD i 0 - (sbN a b i).2 + 18446744073709551616 else a.getD i 0 - b.getD i 0 - (sbN a b i).2], if a.getD i 0 < b.getD i 0 + (sbN a b i).2 then 1 else 0)
theorem D0 (a b : List Int) : ∀ i, (sbN a b i).1.length = i
  | 0 => rfl
  | i + 1 => by simp only [sbN, List.length_append, D0 a b i]; rfl
theorem Ug (a b : List Int) : ∀ i, 0 ≤ (sbN a b i).2 ∧ (sbN a b i).2 ≤ 1
  | 0 => ⟨Int.le_refl 0, (by decide : (0 : Int) ≤ 1)⟩
  | i + 1 => by simp only [sbN]; split <;> decide
theorem Sy {a b : List Int} (ha : Az a) (hb : Az b) : ∀ i, Az (sbN a b i).1
  | 0 => by intro x hx; cases hx
  | i + 1 => by
    have h1 := A2 ha i
    have h2 := A2 hb i
    have h3 := Ug a b i
    intro x hx
    simp only [sbN, List.mem_append, List.mem_singleton] at hx
    rcases hx with hx | hx
    · exact Sy ha hb i x hx
    · subst hx; split <;> omega
def Ci (l : List Int) (n : Nat) : List Int := l ++ List.replicate (n - l.length) 0
theorem Ey {l : List Int} {n : Nat} (h : l.length ≤ n) : (Ci l n).length = n := by unfold Ci; rw [List.length_append, List.length_replicate]; omega
theorem Fk {l : List Int} {n : Nat} {v : Int} (h : l.length < n) : (Ci l n).set l.length v = Ci (l ++ [v]) n := by
  unfold Ci
  obtain ⟨m, hm⟩ : ∃ m, n - l.length = m + 1 := ⟨n - l.length - 1, by omega⟩
  rw [hm, List.replicate_succ, List.set_append_right _ _ (Nat.le_refl _), Nat.sub_self, List.set_cons_zero, List.length_append, List.length_singleton, show n - (l.length + 1) = m by omega]
  simp
theorem Ed {l : List Int} {n : Nat} (h : l.length = n) : Ci l n = l := by unfold Ci; rw [h, Nat.sub_self]; simp
theorem Dw {l : List Int} {i : Nat} (h : l.length ≤ i) : l.getD i 0 = 0 := by rw [List.getD_eq_getElem?_getD, List.getElem?_eq_none h]; rfl
theorem Wt {a b : List Int} {k : Nat} (h0 : 0 < k) (h : a.getD (k - 1) 0 < b.getD (k - 1) 0) : J2 a b k = -1 := by
  obtain ⟨j, rfl⟩ : ∃ j, k = j + 1 := ⟨k - 1, by omega⟩
  simp only [Nat.add_sub_cancel] at h
  simp only [J2]; rw [if_pos h]
theorem Wu {a b : List Int} {k : Nat} (h0 : 0 < k) (h : b.getD (k - 1) 0 < a.getD (k - 1) 0) : J2 a b k = 1 := by
  obtain ⟨j, rfl⟩ : ∃ j, k = j + 1 := ⟨k - 1, by omega⟩
  simp only [Nat.add_sub_cancel] at h
  simp only [J2]; rw [if_neg (by omega), if_pos h]
theorem Wv {a b : List Int} {k : Nat} (h0 : 0 < k) (h1 : ¬ a.getD (k - 1) 0 < b.getD (k - 1) 0) (h2 : ¬ b.getD (k - 1) 0 < a.getD (k - 1) 0) : J2 a b (k - 1) = J2 a b k := by
  obtain ⟨j, rfl⟩ : ∃ j, k = j + 1 := ⟨k - 1, by omega⟩
  simp only [Nat.add_sub_cancel] at h1 h2 ⊢
  simp only [J2]; rw [if_neg h1, if_neg h2]
theorem Wg {X Y : List Int} {i n : Nat} (h : i < n) : (Ci (adN X Y i).1 n).set ((0 + i) * 1) ((X.getD i 0 + Y.getD i 0 + (adN X Y i).2) % 18446744073709551616) = Ci (adN X Y (i + 1)).1 n := by
  rw [Nat.zero_add, Nat.mul_one]
  have := Fk (l := (adN X Y i).1) (n := n) (v := (X.getD i 0 + Y.getD i 0 + (adN X Y i).2) % 18446744073709551616) (by rw [C7]; exact h)
  rw [C7] at this
  exact this
theorem Afb {X Y : List Int} {i n : Nat} (h : i < n) : (Ci (sbN X Y i).1 n).set ((0 + i) * 1) (if X.getD i 0 < Y.getD i 0 + (sbN X Y i).2 then X.getD i 0 - Y.getD i 0 - (sbN X Y i).2 + 18446744073709551616 else X.getD i 0 - Y.getD i 0 - (sbN X Y i).2) = Ci (sbN X Y (i + 1)).1 n := by
  rw [Nat.zero_add, Nat.mul_one]
  have := Fk (l := (sbN X Y i).1) (n := n) (v := if X.getD i 0 < Y.getD i 0 + (sbN X Y i).2 then X.getD i 0 - Y.getD i 0 - (sbN X Y i).2 + 18446744073709551616 else X.getD i 0 - Y.getD i 0 - (sbN X Y i).2) (by rw [D0]; exact h)
  rw [D0] at this
  exact this
theorem Ja {l : List Int} {n : Nat} {v : Int} (h : l.length = n) : (Ci l (n + 1)).set ((0 + n) * 1) v = l ++ [v] := by
  rw [Nat.zero_add, Nat.mul_one]
  subst h
  rw [Fk (by omega), Ed (by simp)]
def swL (a b : List Int) : List Int × List Int := if a.length < b.length then (b, a) else (a, b)
def N9 (a b : List Int) : List Int := (adN (swL (trm a) (trm b)).1 (swL (trm a) (trm b)).2 (swL (trm a) (trm b)).1.length).1 ++ [(adN (swL (trm a) (trm b)).1 (swL (trm a) (trm b)).2 (swL (trm a) (trm b)).1.length).2]
def Z1 (a b : List Int) : List Int := (sbN (trm a) (trm b) (trm a).length).1
theorem Eg {l : List Int} {v : Int} (h : Az l) (h0 : 0 ≤ v) (h1 : v < 18446744073709551616) : Az (l ++ [v]) := fun x hx => by
  rcases List.mem_append.1 hx with hx | hx
  · exact h x hx
  · rw [List.mem_singleton] at hx; subst hx; exact ⟨h0, h1⟩
def dig (l : List Int) : List Int := l.flatMap fun v => [v % 4294967296, v / 4294967296]
theorem Nr (l : List Int) : (dig l).length = 2 * l.length := by
  induction l with
  | nil => rfl
  | cons v l ih => simp only [dig, List.flatMap_cons, List.length_append, List.length_cons, List.length_nil] at ih ⊢; omega
theorem Z0 {l : List Int} {i : Nat} (h : i < l.length) : dig (l.take (i + 1)) = dig (l.take i) ++ [l.getD i 0 % 4294967296, l.getD i 0 / 4294967296] := by
  rw [List.take_succ_eq_append_getElem h, List.getD_eq_getElem?_getD, List.getElem?_eq_getElem h]
  unfold dig
  rw [List.flatMap_append]
  rfl
def L8 : List Int → List Int
  | [] => []
  | [x] => [x]
  | x :: y :: r => IntKind.u64.wrap (x + IntKind.u64.wrap (y * 4294967296)) :: L8 r
theorem Gp {l : List Int} {i : Nat} (h : i < l.length) : l.drop i = l.getD i 0 :: l.drop (i + 1) := by
  rw [List.drop_eq_getElem_cons h, List.getD_eq_getElem?_getD, List.getElem?_eq_getElem h]; rfl
theorem lims2 {l : List Int} {j : Nat} (h : j + 1 < l.length) : L8 (l.drop j) = IntKind.u64.wrap (l.getD j 0 + IntKind.u64.wrap (l.getD (j + 1) 0 * 4294967296)) :: L8 (l.drop (j + 2)) := by
  rw [Gp (by omega : j < l.length), Gp h]; rfl
theorem lims1 {l : List Int} {j : Nat} (h : j < l.length) (h2 : ¬ j + 1 < l.length) : L8 (l.drop j) = l.getD j 0 :: L8 (l.drop (j + 2)) := by
  rw [Gp h, List.drop_eq_nil_of_le (by omega : l.length ≤ j + 1), List.drop_eq_nil_of_le (by omega : l.length ≤ j + 2)]; rfl
theorem R6 : ∀ l : List Int, (L8 l).length ≤ l.length
  | [] => Nat.le_refl _
  | [_] => Nat.le_refl _
  | _ :: _ :: r => by have := R6 r; simp only [L8, List.length_cons]; omega
theorem Ts {v : Int} (h0 : 0 ≤ v) (h1 : v < 18446744073709551616) : Az [v] := fun x hx => by rw [List.mem_singleton] at hx; subst hx; exact ⟨h0, h1⟩
theorem N0 {m r : Int} (h1 : 0 ≤ r) (h2 : r < 18446744073709551616) (h : m = r - 18446744073709551616) : IntKind.u64.wrap m = r := by
  subst h
  simp only [IntKind.wrap, IntKind.bits, IntKind.signed] <;> simp <;> omega


def Bs : Int := 18446744073709551616
def vl : List Int → Int
  | [] => 0
  | x :: l => x + Bs * vl l
def pB : Nat → Int
  | 0 => 1
  | k + 1 => Bs * pB k
theorem Dd : ∀ k, 0 < pB k
  | 0 => by decide
  | k + 1 => by simp only [pB]; exact Int.mul_pos (by decide) (Dd k)
theorem Gb : ∀ a b, pB (a + b) = pB a * pB b
  | 0, b => by simp [pB]
  | a + 1, b => by rw [show a + 1 + b = (a + b) + 1 by omega]; simp only [pB]; rw [Gb a b, Int.mul_assoc]
theorem D5 : ∀ a b : List Int, vl (a ++ b) = vl a + pB a.length * vl b
  | [], b => by simp [vl, pB]
  | x :: a, b => by
    simp only [List.cons_append, vl, List.length_cons, pB]
    rw [D5 a b, Int.mul_add, Int.mul_assoc, Int.add_assoc]
theorem Bf : ∀ {l : List Int}, Az l → 0 ≤ vl l
  | [], _ => Int.le_refl _
  | x :: l, h => by
    have h1 := (h x (List.mem_cons_self ..)).1
    have h2 := Bf (l := l) fun y hy => h y (List.mem_cons_of_mem _ hy)
    simp only [vl]
    have := Int.mul_nonneg (show (0 : Int) ≤ Bs by decide) h2
    omega
theorem E4 : ∀ {l : List Int}, Az l → vl l < pB l.length
  | [], _ => by decide
  | x :: l, h => by
    have h1 := (h x (List.mem_cons_self ..)).2
    have h2 := E4 (l := l) fun y hy => h y (List.mem_cons_of_mem _ hy)
    simp only [vl, List.length_cons, pB]
    have h3 : vl l + 1 ≤ pB l.length := h2
    have h4 := Int.mul_le_mul_of_nonneg_left h3 (show (0 : Int) ≤ Bs by decide)
    rw [Int.mul_add, Int.mul_one] at h4
    have h5 : x < Bs := h1
    omega
theorem Hv (n : Nat) : vl (List.replicate n 0) = 0 := by
  induction n with
  | zero => rfl
  | succ n ih => rw [List.replicate_succ]; simp [vl, ih]
def vk (l : List Int) (k : Nat) : Int := vl (l.take k)
theorem Tf (l : List Int) : vk l 0 = 0 := by unfold vk; simp [vl]
theorem Dq {l : List Int} {k : Nat} (h : l.length ≤ k) : vk l k = vl l := by unfold vk; rw [List.take_of_length_le h]
theorem Cu (l : List Int) (k : Nat) : vk l (k + 1) = vk l k + pB k * l.getD k 0 := by
  unfold vk
  by_cases h : k < l.length
  · rw [List.take_succ_eq_append_getElem h, D5, List.length_take, Nat.min_eq_left (by omega), List.getD_eq_getElem?_getD, List.getElem?_eq_getElem h]
    simp [vl]
  · rw [List.take_of_length_le (by omega), List.take_of_length_le (by omega), Dw (by omega)]
    simp
theorem Agk (l : List Int) : ∀ k, k ≤ l.length → vk l (tN l k) = vk l k
  | 0, _ => rfl
  | k + 1, h => by
    simp only [tN]
    split
    · rename_i h0
      rw [Agk l k (by omega), Cu, h0, Int.mul_zero, Int.add_zero]
    · rfl
theorem Fd (l : List Int) : vl (trm l) = vl l := by
  have := Agk l l.length (Nat.le_refl _)
  rw [Dq (Nat.le_refl _)] at this
  exact this
theorem Qz (a b : List Int) : ∀ i, vl (adN a b i).1 + pB i * (adN a b i).2 = vk a i + vk b i
  | 0 => by simp [adN, vl, Tf, pB]
  | i + 1 => by
    have ih := Qz a b i
    simp only [adN]
    rw [D5, C7, Cu, Cu]
    simp only [vl, pB]
    have e := Int.emod_add_mul_ediv (a.getD i 0 + b.getD i 0 + (adN a b i).2) 18446744073709551616
    generalize hs : a.getD i 0 + b.getD i 0 + (adN a b i).2 = s at *
    generalize hq : s / 18446744073709551616 = q at *
    generalize hr : s % 18446744073709551616 = r at *
    have hB : Bs = 18446744073709551616 := rfl
    rw [Int.mul_zero, Int.add_zero, hB, Int.mul_comm 18446744073709551616 (pB i), Int.mul_assoc]
    have e2 : pB i * r + pB i * (18446744073709551616 * q) = pB i * s := by rw [← Int.mul_add, e]
    have e3 : pB i * s = pB i * a.getD i 0 + pB i * b.getD i 0 + pB i * (adN a b i).2 := by rw [← hs, Int.mul_add, Int.mul_add]
    omega
theorem P5 (a b : List Int) : ∀ i, vl (sbN a b i).1 - pB i * (sbN a b i).2 = vk a i - vk b i
  | 0 => by simp [sbN, vl, Tf, pB]
  | i + 1 => by
    have ih := P5 a b i
    simp only [sbN]
    rw [D5, D0, Cu, Cu]
    simp only [vl, pB]
    have hB : Bs = 18446744073709551616 := rfl
    rw [Int.mul_zero, Int.add_zero, hB, Int.mul_comm 18446744073709551616 (pB i), Int.mul_assoc]
    split
    · rw [Int.mul_one, Int.mul_add, Int.mul_sub, Int.mul_sub]; omega
    · rw [Int.mul_sub, Int.mul_sub]; simp; omega
theorem Agi (a b : List Int) : (swL a b).2.length ≤ (swL a b).1.length ∧ vl (swL a b).1 + vl (swL a b).2 = vl a + vl b := by
  unfold swL
  split
  · exact ⟨by show a.length ≤ b.length; omega, by show vl b + vl a = _; omega⟩
  · exact ⟨by show b.length ≤ a.length; omega, rfl⟩
theorem Tk (a b : List Int) : vl (N9 a b) = vl a + vl b := by
  have h := Qz (swL (trm a) (trm b)).1 (swL (trm a) (trm b)).2 (swL (trm a) (trm b)).1.length
  obtain ⟨h1, h2⟩ := Agi (trm a) (trm b)
  rw [Dq (Nat.le_refl _), Dq h1, h2, Fd, Fd] at h
  unfold N9
  rw [D5, C7]
  simp only [vl]
  rw [Int.mul_zero, Int.add_zero]
  exact h
def tpd (l : List Int) : Prop := l ≠ [] → l.getD (l.length - 1) 0 ≠ 0
theorem Aau (l : List Int) : ∀ k, 0 < tN l k → l.getD (tN l k - 1) 0 ≠ 0
  | 0, h => by simp [tN] at h
  | k + 1, h => by
    simp only [tN] at h ⊢
    split
    · rename_i h0; rw [if_pos h0] at h; exact Aau l k h
    · rename_i h0; exact h0
theorem Sv (l : List Int) : (trm l).length = tN l l.length := by unfold trm; rw [List.length_take, Nat.min_eq_left (Ac0 _ _)]
theorem Gu (l : List Int) : tpd (trm l) := fun hne => by
  have hl := Sv l
  have hpos : 0 < tN l l.length := by
    rcases Nat.eq_zero_or_pos (tN l l.length) with h | h
    · exact absurd (List.eq_nil_of_length_eq_zero (hl.trans h)) hne
    · exact h
  rw [hl]
  unfold trm
  rw [I9 (by omega)]
  exact Aau l _ hpos
theorem Ku {l : List Int} (h : tpd l) : trm l = l := by
  unfold trm
  by_cases h0 : l = []
  · subst h0; rfl
  · have hp : 0 < l.length := List.length_pos_iff.2 h0
    rw [Py hp (h h0), List.take_length]
theorem Su {l : List Int} (hu : Az l) (ht : tpd l) (h0 : l ≠ []) : pB (l.length - 1) ≤ vl l := by
  have hp : 0 < l.length := List.length_pos_iff.2 h0
  obtain ⟨k, hk⟩ : ∃ k, l.length = k + 1 := ⟨l.length - 1, by omega⟩
  have h1 : vl l = vk l (k + 1) := by rw [Dq (by omega)]
  rw [h1, Cu, hk, Nat.add_sub_cancel]
  have h2 := ht h0
  rw [hk, Nat.add_sub_cancel] at h2
  have h3 := Pu hu (i := k) (by omega)
  have h4 : 0 ≤ vk l k := Bf fun x hx => hu x (List.mem_of_mem_take hx)
  have h5 : pB k * 1 ≤ pB k * l.getD k 0 := Int.mul_le_mul_of_nonneg_left (by omega) (Int.le_of_lt (Dd k))
  omega
theorem Fz {a b : Nat} (h : a ≤ b) : pB a ≤ pB b := by
  obtain ⟨c, rfl⟩ : ∃ c, b = a + c := ⟨b - a, by omega⟩
  rw [Gb]
  have h1 := Dd c
  have h2 := Int.mul_le_mul_of_nonneg_left (show 1 ≤ pB c by omega) (Int.le_of_lt (Dd a))
  omega
theorem Sm {a b : List Int} (ha : Az a) (hb : Az b) : ∀ k, (J2 a b k = 0 ∧ vk a k = vk b k) ∨ (J2 a b k = -1 ∧ vk a k < vk b k) ∨ (J2 a b k = 1 ∧ vk b k < vk a k)
  | 0 => .inl ⟨rfl, by rw [Tf, Tf]⟩
  | k + 1 => by
    have ih := Sm ha hb k
    simp only [J2]
    rw [Cu, Cu]
    have a1 : 0 ≤ vk a k := Bf fun x hx => ha x (List.mem_of_mem_take hx)
    have b1 : 0 ≤ vk b k := Bf fun x hx => hb x (List.mem_of_mem_take hx)
    have a2 : vk a k < pB k := Int.lt_of_lt_of_le (E4 fun x hx => ha x (List.mem_of_mem_take hx)) (Fz (by rw [List.length_take]; omega))
    have b2 : vk b k < pB k := Int.lt_of_lt_of_le (E4 fun x hx => hb x (List.mem_of_mem_take hx)) (Fz (by rw [List.length_take]; omega))
    have hp := Dd k
    split
    · rename_i h
      have := Int.mul_le_mul_of_nonneg_left (show a.getD k 0 + 1 ≤ b.getD k 0 by omega) (Int.le_of_lt hp)
      rw [Int.mul_add, Int.mul_one] at this
      exact .inr (.inl ⟨rfl, by omega⟩)
    · split
      · rename_i h1 h
        have := Int.mul_le_mul_of_nonneg_left (show b.getD k 0 + 1 ≤ a.getD k 0 by omega) (Int.le_of_lt hp)
        rw [Int.mul_add, Int.mul_one] at this
        exact .inr (.inr ⟨rfl, by omega⟩)
      · rename_i h1 h2
        rw [show a.getD k 0 = b.getD k 0 by omega]
        rcases ih with ⟨h, h'⟩ | ⟨h, h'⟩ | ⟨h, h'⟩
        · exact .inl ⟨h, by omega⟩
        · exact .inr (.inl ⟨h, by omega⟩)
        · exact .inr (.inr ⟨h, by omega⟩)
theorem Ns {a b : List Int} (ha : Az a) (hb : Az b) : (Qy (trm a) (trm b) = 0 ∧ vl a = vl b) ∨ (Qy (trm a) (trm b) = -1 ∧ vl a < vl b) ∨ (Qy (trm a) (trm b) = 1 ∧ vl b < vl a) := by
  have ua := Bz ha
  have ub := Bz hb
  rw [← Fd a, ← Fd b]
  have less : ∀ {x y : List Int}, Az x → Az y → tpd y → x.length < y.length → vl x < vl y := fun {x y} hx hy ht hlt => by
    have h1 := E4 hx
    have h2 := Su hy ht (by intro e; rw [e] at hlt; simp at hlt)
    have h3 := Fz (show x.length ≤ y.length - 1 by omega)
    omega
  unfold Qy
  split
  · rename_i h; exact .inr (.inl ⟨rfl, less ua ub (Gu b) h⟩)
  · split
    · rename_i h; exact .inr (.inr ⟨rfl, less ub ua (Gu a) h⟩)
    · rename_i h1 h2
      have := Sm ua ub (trm a).length
      rw [Dq (Nat.le_refl _), Dq (by omega : (trm b).length ≤ (trm a).length)] at this
      exact this
theorem Acm {a b : List Int} (ha : Az a) (hb : Az b) (h : vl b ≤ vl a) : vl (Z1 a b) = vl a - vl b := by
  have ua := Bz ha
  have ub := Bz hb
  have hv := P5 (trm a) (trm b) (trm a).length
  rw [Dq (Nat.le_refl _), Fd] at hv
  have hlen : (trm b).length ≤ (trm a).length := by
    rcases Nat.lt_or_ge (trm a).length (trm b).length with hlt | hge
    · have h1 := E4 ua
      have h2 := Su ub (Gu b) (by intro e; rw [e] at hlt; simp at hlt)
      have h3 := Fz (show (trm a).length ≤ (trm b).length - 1 by omega)
      rw [Fd] at h1 h2
      omega
    · exact hge
  rw [Dq hlen, Fd] at hv
  have hc := Ug (trm a) (trm b) (trm a).length
  have hs := E4 (Sy ua ub (trm a).length)
  rw [D0] at hs
  unfold Z1
  rcases (show (sbN (trm a) (trm b) (trm a).length).2 = 0 ∨ (sbN (trm a) (trm b) (trm a).length).2 = 1 by omega) with h0 | h0
  · rw [h0, Int.mul_zero] at hv; omega
  · rw [h0, Int.mul_one] at hv; omega
end Go.Proofs.YtnadmljoefecfaaGreatDoor.Vc
