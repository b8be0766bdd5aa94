/- Powers and shifts of whole numbers are what the document defines. Texts joined: VcAO, VcAP, VcAU, Na, Nb, Nc, Nd, Ne, Nf, Ng, Nh, Ni, Nj, Ty, Tz, Tx, Tq, Tr, Tv, Oa, Nk, Nl, Nm, Nn, No, Np, Nq. -/
import Derived.Test.YteopohdkceelkaaDoorK2
import Derived.Test.YteopohdkceelkaaDoorRows
set_option linter.unusedVariables false
set_option linter.unusedSimpArgs false
set_option maxHeartbeats 4000000
namespace Go.Proofs.YteopohdkceelkaaDoor.Vc
open Go Go.RowKit
section
variable {P : Program} {ops : Array Oper} {Q : Exit → Act → List Frame → World → Prop}
def Xw (P : Program) (ops : Array Oper) (Q : Exit → Act → List Frame → World → Prop) (i : Nat) (K : Act → List Frame → World → Prop) (a : Act) (cs : List Frame) (w : World) : Prop :=
  match ops[i]? with
  | none => K a cs w
  | some o =>
    if Region.wanted o (yielded ops a.tmps) then
      match (execOp a.eval o).run P w with
      | .ok .recover w' =>
        match recoverD cs with
        | some (v, cs') => K (a.put o.dst v) cs' w'
        | none => K (a.put o.dst .nilIface) cs w'
      | r => o.upon P a (fun a' w' => K a' cs w') (fun e a' w' => Q e a' cs w') r
    else K (a.put o.dst undef) cs w
def Ab6 (P : Program) (ops : Array Oper) (Q : Exit → Act → List Frame → World → Prop) : Nat → Array Bool → Act → List Frame → World → Prop
  | 0, listed, a, cs, w => Region.ready .any ops listed = [] ∧ Q .normal a cs w
  | fuel + 1, listed, a, cs, w => (Region.ready .any ops listed = [] → Q .normal a cs w) ∧ ∀ i ∈ Region.ready .any ops listed, Xw P ops Q i (Ab6 P ops Q fuel (listed.setIfInBounds i true)) a cs w
end
section
variable {P : Program} {Γ : Ctx} {F : Fr} {H : List Ob} {u : FrameMode} {QS : Exit → Fr → List Ob → FrameMode → Prop} {ops : Array Oper}
def JAS (P : Program) (ops : Array Oper) (fuel : Nat) (listed : Array Bool) (Γ : Ctx) (F : Fr) (H : List Ob) (u : FrameMode) (QS : Exit → Fr → List Ob → FrameMode → Prop) : Prop :=
  ∀ (c0 : Frame) (cs : List Frame) a w, c0.mode = u → St Γ F H a w → Ab6 P ops (Aax Γ c0 cs QS) fuel listed a (c0 :: cs) w
def SS (P : Program) (ops : Array Oper) (fuel : Nat) (listed : Array Bool) (Γ : Ctx) (F : Fr) (H : List Ob) (u : FrameMode) (QS : Exit → Fr → List Ob → FrameMode → Prop) (i : Nat) : Prop :=
  ∀ (c0 : Frame) (cs : List Frame) a w, c0.mode = u → St Γ F H a w → Xw P ops (Aax Γ c0 cs QS) i (Ab6 P ops (Aax Γ c0 cs QS) fuel (listed.setIfInBounds i true)) a (c0 :: cs) w
def Z9 (tx te tt fc ti : Nat) (ps : String) : List Oper :=
  [⟨some 3, .call { callee := .builtin .recover, args := #[], argTypes := #[] }, ti, ps, #[], none⟩,
   ⟨some 4, .load tx (.tmp 0), tx, ps, #[], none⟩,
   ⟨some 5, .load te (.tmp 1), te, ps, #[], none⟩,
   ⟨some 6, .call { callee := .value (.func fc), args := #[.tmp 3, .tmp 4, .tmp 5], argTypes := #[ti, tx, te] }, tt, ps, #[⟨0, .data⟩, ⟨1, .data⟩, ⟨2, .data⟩, ⟨0, .chain⟩], none⟩,
   ⟨some 2, .move (.tmp 6), tt, ps, #[⟨3, .data⟩], none⟩,
   ⟨some 7, .extract (.tmp 2) 0, tx, ps, #[⟨4, .data⟩], none⟩,
   ⟨some 8, .extract (.tmp 2) 1, te, ps, #[⟨4, .data⟩, ⟨7, .gcOnly .lateStores⟩], none⟩,
   ⟨none, .store tx (.tmp 0) (.tmp 7), 0, ps, #[⟨5, .data⟩, ⟨3, .chain⟩, ⟨0, .phase⟩, ⟨1, .phase⟩, ⟨2, .phase⟩, ⟨3, .phase⟩, ⟨4, .phase⟩, ⟨5, .phase⟩, ⟨6, .textOnly .lateStores⟩], none⟩,
   ⟨none, .store te (.tmp 1) (.tmp 8), 0, ps, #[⟨6, .data⟩, ⟨7, .chain⟩, ⟨0, .phase⟩, ⟨1, .phase⟩, ⟨2, .phase⟩, ⟨3, .phase⟩, ⟨4, .phase⟩, ⟨5, .phase⟩, ⟨6, .phase⟩, ⟨7, .phase⟩], none⟩]
end

section
variable {P : Program} {Γ : Ctx} {F : Fr} {H : List Ob} {Q : Exit → Fr → List Ob → Prop}
def Aea (P : Program) (T : TypeId) : Bool := match P.underlying T with | some (.interface _) | none => false | _ => true
def Aa2 (ag : Bool) (us : List Value) : V := if ag then .a (us.map V.c) else .c (us.headD undef)
def Adn (tg : TypeId) (e : Int) (rec : Bool) : List PanicEntry := [{ v := .iface tg (.agg #[.int .i64 e]), recovered := rec }]
structure Clo (P : Program) (g : FuncId) (tx te n : Nat) (ag : Bool) (tg : TypeId) (zv : V) : Prop where
  shape : ∃ (fn cfn : Func) (fc : FuncId) (tt ti : TypeId) (ps : String), P.funcs[g]? = some fn ∧ fn.body = some (.region 0 (Z9 tx te tt fc ti ps).toArray true) ∧ fn.ntmps = 9 ∧ fn.results = #[] ∧ P.funcs[fc]? = some cfn ∧ cfn.body.isSome = true ∧ (cfn.name == "runtime.NumGoroutine") = false ∧
    (∀ (us : List Value) (ue : Value), us.length = n → (∀ u ∈ us, u.oneCell' = true) → ue.oneCell' = true → Spec P fc [.c .nilIface, Aa2 ag us, .c ue] (fun o => o = .ret (.t [Aa2 ag us, .c ue]))) ∧
    (∀ (us : List Value) (ue : Value) (e : Int), us.length = n → (∀ u ∈ us, u.oneCell' = true) → ue.oneCell' = true → Spec P fc [.c (.iface tg (.agg #[.int .i64 e])), Aa2 ag us, .c ue] (fun o => o = .ret (.t [zv, .i .i64 e])))
  hm : P.follows .mixedOrders = true
  hld : (ag = true ∧ Na P tx n = true) ∨ (ag = false ∧ n = 1 ∧ Iw P tx = true)
  hsz : (P.info? tx).any (·.size == n) = true
  hle : Iw P te = true
  hz1 : (cellsV zv).length = n
  hz2 : (cellsV zv).all Abk = true
  hz3 : ∀ k, (cellsV zv).all (idB k) = true
variable {g tx te n : Nat} {ag : Bool} {tg : TypeId} {zv : V}
def Adg (Q : Exit → Fr → List Ob → Prop) : Exit → Fr → List Ob → Prop
  | .panic _, _, _ => False
  | e, F, H => Q e F H
end

def Ir (P : Program) (f : FuncId) (g : Nat) (cells : List V) (args : List V) (post : Out → List Ob → Prop) : Prop :=
  ∀ (M : Nat → Prop) (w : World) (ρ : List Re) (vals : List Value), (∀ b, M b → b < w.heap.size) → TabR g cells w M → HR M w w.heap.size ρ [] → RelL w (A3 M ρ []) w.heap.size ρ args vals →
    Calls P f vals.toArray w fun e w' => ∃ o H' ρ', post o H' ∧ G3 w' (A3 M ρ' H') w.heap.size ρ' o e ∧ HR M w' w.heap.size ρ' H' ∧
      w'.os = w.os ∧ w'.tape = w.tape ∧ w'.output = w.output ∧ Ev w (A3 M ρ []) w.heap.size ρ w' (A3 M ρ' H') w.heap.size ρ' ∧
      (∀ (id : Nat) (ob : Ob) (re : Re) (g : Nat), H'[id]? = some ob → ob.live = true → ρ'[id]? = some re → re.g = some g → w.heap.size ≤ g ∨ Hb ρ [] g) ∧ (∀ b, b < w.heap.size → ¬ Hb ρ [] b → w'.heap[b]? = w.heap[b]?)
theorem C9 {P : Program} {g : Nat} {cells : List V} {f : FuncId} {args : List V} {post : Out → List Ob → Prop} (h : SpecM P f args [] post) : Ir P f g cells args post := fun M w ρ vals hM _ hR hr => h M w ρ vals hM hR hr
section
variable {P : Program} {Γ : Ctx} {F : Fr} {H : List Ob} {Q : Exit → Fr → List Ob → Prop} {g : Nat} {cells : List V}
theorem Om {f : FuncId} {fn : Func} {c : Code} {args : List V} {post : Out → List Ob → Prop} (F0 : Fr) (h0 : ((args.zipIdx 0).map fun p => (p.2, p.1)) = F0) (hf : P.funcs[f]? = some fn) (hb : fn.body = some c) (hn : args.length ≤ fn.ntmps)
    (h : ∀ Γ : Ctx, TabR g cells Γ.w0 Γ.M → Γ.N = fn.ntmps → Γ.ds = [] → (∀ b, ¬ Γ.L0 b) → Γ.ρ0 = [] → JC P c Γ F0 [] (R7 P fn post)) : Ir P f g cells args post := fun M w ρ vals hM hT hR hr => by
  have hρ : ρ = [] := List.eq_nil_of_length_eq_zero hR.len
  subst hρ; subst h0; refine calls_of_wp hf hb ?_
  have hlen : vals.length = args.length := (Eu args vals hr).1
  let Γ : Ctx := ⟨fn.ntmps, w, M, [], Hb [] [], []⟩
  have s : StA Γ [] ((args.zipIdx 0).map fun p => (p.2, p.1)) [] ⟨vals.toArray ++ Array.replicate (fn.ntmps - vals.toArray.size) undef, []⟩ w := by
    refine ⟨hR, ?_, rfl, fun t => ?_, ⟨rfl, rfl, rfl, Nat.le_refl _, fun _ _ _ => rfl, hM, fun i o r g h1 h2 h3 h4 => .inr ⟨i, o, r, h1, h2, h3, h4⟩, fun i r h => ⟨r, h, Nat.le_refl _, fun _ => rfl⟩⟩⟩
    · show fn.ntmps ≤ (vals.toArray ++ Array.replicate (fn.ntmps - vals.toArray.size) undef).size
      simp; omega
    · have look : ∀ (ys : List V) (k t : Nat), B9 ((ys.zipIdx k).map fun p => (p.2, p.1)) t = if k ≤ t then ys[t - k]? else none := by
        intro ys
        induction ys with
        | nil => intro k t; simp [B9]
        | cons y ys ih =>
          intro k t
          simp only [List.zipIdx_cons, List.map_cons, B9]
          cases hb : Nat.beq t k
          · have hne : t ≠ k := by intro e; subst e; simp at hb
            rw [ih (k + 1) t]
            by_cases h1 : k ≤ t
            · rw [if_pos h1, if_pos (by omega), show t - k = (t - (k + 1)) + 1 by omega]; rfl
            · rw [if_neg h1, if_neg (by omega)]; rfl
          · have := Nat.eq_of_beq_eq_true hb
            subst this
            simp
      unfold get
      rw [look args 0 t, if_pos (Nat.zero_le _), Nat.sub_zero]
      cases ht : args[t]? with
      | none => exact trivial
      | some y =>
        obtain ⟨u, hu, hru⟩ := Ew args vals t y hr ht
        have hlt : t < vals.length := (List.getElem?_eq_some_iff.1 hu).1
        have e : ((vals.toArray ++ Array.replicate (fn.ntmps - vals.toArray.size) undef).getD t undef) = u := by
          rw [Array.getD_eq_getD_getElem?, Array.getElem?_append_left (by simpa using hlt)]
          simp [hu]
        show Rel w (A3 M [] []) w.heap.size [] y ((vals.toArray ++ Array.replicate (fn.ntmps - vals.toArray.size) undef).getD t undef)
        rw [e]
        exact hru
  have nohand : ∀ b, ¬ Hb [] [] b := fun b hb => by obtain ⟨i, o, r, h1, _⟩ := hb; simp at h1
  have fin : ∀ (F : Fr) (H : List Ob) (ρ1 : List Re) (a : Act) (w' : World) (sel : List Nat), StA Γ ρ1 F H a w' → sel.Nodup → Eo (Ce H9 sel H) →
      HR M w' w.heap.size (Ce Ge sel ρ1) (Ce H9 sel H) ∧ w'.os = w.os ∧ w'.tape = w.tape ∧ w'.output = w.output ∧ Ev w (A3 M [] []) w.heap.size [] w' (A3 M (Ce Ge sel ρ1) (Ce H9 sel H)) w.heap.size (Ce Ge sel ρ1) ∧
      (∀ (id : Nat) (ob : Ob) (re : Re) (g9 : Nat), (Ce H9 sel H)[id]? = some ob → ob.live = true → (Ce Ge sel ρ1)[id]? = some re → re.g = some g9 → w.heap.size ≤ g9 ∨ Hb [] [] g9) ∧ (∀ b, b < w.heap.size → ¬ Hb [] [] b → w'.heap[b]? = w.heap[b]?) := by
    intro F H ρ1 a w' sel s' hnd hO
    have hsub := Hn (M := M) (sel := sel) s'.hr.len
    have ev : Ev w' (A3 M ρ1 H) w.heap.size ([] : List Re) w' (A3 M (Ce Ge sel ρ1) (Ce H9 sel H)) w.heap.size (Ce Ge sel ρ1) :=
      ⟨Nat.le_refl _, fun _ _ _ => rfl, fun b _ hn h => hn (hsub b h), Nat.le_refl _, fun i r h => by simp at h⟩
    refine ⟨⟨by simp [Ce], fun j o h1 h2 => ?_, fun j j' oj oj' rj rj' g hjj h1 h2 h3 h4 h5 h6 => ?_, fun j o r g h1 h2 h3 h4 => ?_⟩, s'.fro.os, s'.fro.tape, s'.fro.output, ⟨s'.fro.size, fun b hlt hL => s'.fro.blk b hlt (nohand b), fun b hlt hL hL' => ?_, Nat.le_refl _, fun i r h => by simp at h⟩, fun j o r g h1 h2 h3 h4 => ?_, fun b hlt hh => s'.fro.blk b hlt hh⟩
    · obtain ⟨i, k1, k2⟩ := Hk h1 h2
      obtain ⟨r, k3, k4⟩ := s'.hr.ob i o k2 h2
      refine ⟨r, Gb k1 k3, k4.ver, k4.sz, k4.nob, fun g hg => ?_⟩
      obtain ⟨cur, c1, c2, c3, c4, c5⟩ := k4.blk g hg
      refine ⟨cur, c1, c2, c3, c4, fun q y hy => ?_⟩
      obtain ⟨u, d1, d2, d3⟩ := c5 q y hy
      refine ⟨u, d1, d2, ?_⟩
      have hcut := d3.cut (n := 0) y u (hO o (List.mem_of_getElem? h1) h2 y (List.mem_of_getElem? hy))
      rw [List.take_zero] at hcut
      exact hcut.ev ev
    · obtain ⟨i, k1, k2, k3⟩ := Eh s'.hr.len h1 h2 h5
      obtain ⟨i', k1', k2', k3'⟩ := Eh s'.hr.len h3 h4 h6
      refine s'.hr.apart i i' oj oj' rj rj' g (fun e => hjj ?_) k2 h2 k2' h4 k3 k3'
      subst e
      have hj : j < sel.length := (List.getElem?_eq_some_iff.1 k1).1
      exact (List.getElem?_inj hj hnd).1 (k1.trans k1'.symm)
    · obtain ⟨i, k1, k2, k3⟩ := Eh s'.hr.len h1 h2 h3
      exact s'.hr.foreign i o r g k2 h2 k3 h4
    · rcases hsub b hL' with hM' | ⟨i, o, r, h1, h2, h3, h4⟩
      · exact hL (.inl hM')
      · rcases s'.fro.mine i o r b h1 h2 h3 h4 with h | h
        · have h' : w.heap.size ≤ b := h
          omega
        · exact nohand b h
    · obtain ⟨i, k1, k2, k3⟩ := Eh s'.hr.len h1 h2 h3
      exact s'.fro.mine i o r g k2 h2 k3 h4
  refine Code.wp_mono (fun e a w' ⟨F, H, q, ρ1, s'⟩ => ?_) (h Γ hT rfl rfl nohand rfl _ _ ⟨_, s⟩)
  have fin2 : ∀ sel ys y, ResL P F H fn.results.toList ys → ren sel y = F1 ys → idB sel.length y = true → sel.Nodup → Eo (Ce H9 sel H) → post (.ret y) (Ce H9 sel H) → a.defers = [] ∧ ∃ v, (Go.results fn a.tmps).run P w' = .ok v w' ∧ ∃ o H' ρ', post o H' ∧ G3 w' (A3 M ρ' H') w.heap.size ρ' o (.returned v) ∧ HR M w' w.heap.size ρ' H' ∧
      w'.os = w.os ∧ w'.tape = w.tape ∧ w'.output = w.output ∧ Ev w (A3 M [] []) w.heap.size [] w' (A3 M ρ' H') w.heap.size ρ' ∧
      (∀ (id : Nat) (ob : Ob) (re : Re) (g9 : Nat), H'[id]? = some ob → ob.live = true → ρ'[id]? = some re → re.g = some g9 → w.heap.size ≤ g9 ∨ Hb [] [] g9) ∧ (∀ b, b < w.heap.size → ¬ Hb [] [] b → w'.heap[b]? = w.heap[b]?) := by
    intro sel ys y h1 h2 h3 h4 h5 h6
    obtain ⟨v, hv, hr'⟩ := s'.results h1
    obtain ⟨f1, f2, f3, f4, f5, f6, f7⟩ := fin F H ρ1 a w' sel s' h4 h5
    rw [← h2] at hr'
    have hl : Rel w' (A3 M (Ce Ge sel ρ1) (Ce H9 sel H)) w.heap.size (Ce Ge sel ρ1) y v :=
      (hr'.unren y v h3).ev ⟨Nat.le_refl _, fun _ _ _ => rfl, fun b _ hn hh => hn (Hn s'.hr.len b hh), Nat.le_refl _, fun i r h => ⟨r, h, Nat.le_refl _, fun _ => rfl⟩⟩
    exact ⟨s'.ds, v, hv, .ret y, _, _, h6, ⟨v, rfl, hl⟩, f1, f2, f3, f4, f5, f6, f7⟩
  cases e with
  | normal => obtain ⟨sel, ys, y, h1, h2, h3, h4, h5, h6⟩ := q; exact fin2 sel ys y h1 h2 h3 h4 h5 h6
  | ret => obtain ⟨sel, ys, y, h1, h2, h3, h4, h5, h6⟩ := q; exact fin2 sel ys y h1 h2 h3 h4 h5 h6
  | panic ch =>
    obtain ⟨f1, f2, f3, f4, f5, f6, f7⟩ := fin F H ρ1 a w' [] s' List.nodup_nil (fun _ h => by simp [Ce] at h)
    exact ⟨s'.ds, .pan ch, _, _, q, rfl, f1, f2, f3, f4, f5, f6, f7⟩
  | _ => exact absurd q (by simp [R7])
theorem N0 {f : FuncId} {fn : Func} {dst : Option Tmp} {T : TypeId} {ps : String} {af : Array Edge} {gd : Option (Nat × Bool)} {c : Operand} {args : Array Operand} {ts : Array TypeId} {ys zs : List V} {post : Out → List Ob → Prop}
    (hc : ovO F c = some (.f f [])) (hf : P.funcs[f]? = some fn) (hb : fn.body.isSome = true) (hn : (fn.name == "runtime.NumGoroutine") = false) (hx : ovL F args.toList ys) (ha : ArgL ys zs) (hL : ∀ b, ¬ Γ.L0 b) (hT : TabR g cells Γ.w0 Γ.M) (hs : Ir P f g cells zs post) (hid : ∀ o G, post o G → Eo G) {ρ : List Re} {a : Act} {w : World} (s : StA Γ ρ F H a w) {K : Act → World → Prop} {R : Exit → Act → World → Prop}
    (k : ∀ y v w' G ρ', post (.ret y) G → Rel w' (A3 Γ.M ρ' (H ++ G)) Γ.w0.heap.size ρ' (sh H.length y) v → Below w.heap.size w w' → StA Γ ρ' F (H ++ G) a w' → K (a.put dst v) w')
    (kp : ∀ ch w' G ρ', post (.pan ch) G → StA Γ ρ' F (H ++ G) a w' → R (.panic ch) a w') :
    (⟨dst, .call { callee := .value c, args := args, argTypes := ts }, T, ps, af, gd⟩ : Oper).wp P a w K R := by
  obtain ⟨us0, hcv, hcr⟩ := s.ov hc
  have hus0 : us0 = [] := hcr
  subst hus0
  have hr := s.ovL hx
  have hargs : args.map a.eval = (args.toList.map a.eval).toArray := by apply Array.ext'; rw [Array.toList_map]
  have hcall := hs (A3 Γ.M ρ H) w [] (args.toList.map a.eval) (fun b h => Iu s h) (ArgV.q.rel (Lf hL hT s)) ⟨rfl, fun i o h => by simp at h, fun i j oi oj ri rj g _ h => by simp at h, fun i o r g h => by simp at h⟩ (by rw [Ms]; exact ha.rel _ hr)
  have hrun : (execOp a.eval ⟨dst, .call { callee := .value c, args := args, argTypes := ts }, T, ps, af, gd⟩).run P w = .ok (.enter f (args.toList.map a.eval).toArray) w := by
    have hb' : ¬ fn.body = none := by intro h; rw [h] at hb; cases hb
    have hn' : ¬ fn.name = "runtime.NumGoroutine" := by simpa using hn
    simp [execOp, resolve, hcv, Deferred.ofValue, invoke, callFunc, program, Sem.run, hf]
    rw [if_neg hn', if_neg hb', hargs]
  unfold Oper.wp
  rw [hrun]
  show Calls P f _ w _
  refine hcall.mono fun e w' ⟨o, G, ρG, h1, h2, h3, h4, h5, h6, ev, h8, h9⟩ => ?_
  have hidG := hid o G h1
  have hnoh : ∀ b, ¬ Hb [] [] b := fun b ⟨i, o, r, hh, _⟩ => by simp at hh
  have hbelow : Below w.heap.size w w' := ⟨h4, h5, h6, ev.size, fun b hlt => h9 b hlt (hnoh b)⟩
  have hold : ∀ b, b < w.heap.size → w'.heap[b]? = w.heap[b]? := hbelow.block
  have hnew : ∀ (id : Nat) (ob : Ob) (re : Re) (g9 : Nat), G[id]? = some ob → ob.live = true → ρG[id]? = some re → re.g = some g9 → w.heap.size ≤ g9 := fun id ob re g k1 k2 k3 k4 => (h8 id ob re g k1 k2 k3 k4).resolve_right (hnoh g)
  have hlen := s.hr.len
  have hL := Mt (M := Γ.M) (ρG := ρG) (G := G) hlen
  have ev2 : Ev w (A3 Γ.M ρ H) Γ.w0.heap.size ρ w' (A3 Γ.M (ρ ++ ρG) (H ++ G)) Γ.w0.heap.size (ρ ++ ρG) := by
    refine ⟨ev.size, fun b hlt _ => hold b hlt, fun b hlt hn h => ?_, Nat.le_refl _, fun i r h => ⟨r, by rw [List.getElem?_append_left (List.getElem?_eq_some_iff.1 h).1]; exact h, Nat.le_refl _, fun _ => rfl⟩⟩
    rw [hL] at h
    rcases h with h | ⟨i, o, r, k1, k2, k3, k4⟩
    · exact hn h
    · have := hnew i o r b k1 k2 k3 k4; omega
  have s' : StA Γ (ρ ++ ρG) F (H ++ G) a w' := by
    refine ⟨⟨by rw [List.length_append, List.length_append, hlen, h3.len], fun i o k1 k2 => ?_, fun i j oi oj ri rj g hij k1 k2 k3 k4 k5 k6 => ?_, fun i o r g k1 k2 k3 k4 => ?_⟩, s.n, s.ds, fun t => (s.fr t).ev ev2, ⟨h4.trans s.fro.os, h5.trans s.fro.tape, h6.trans s.fro.output, Nat.le_trans s.fro.size ev.size, fun b hlt hnl => by rw [hold b (Nat.lt_of_lt_of_le hlt s.fro.size)]; exact s.fro.blk b hlt hnl, s.fro.old, fun i o r g k1 k2 k3 k4 => ?_, fun i r hi => ?_⟩⟩
    · rcases Nat.lt_or_ge i H.length with hlt | hge
      · rw [List.getElem?_append_left hlt] at k1
        obtain ⟨r, k3, k4⟩ := s.hr.ob i o k1 k2
        refine ⟨r, by rw [List.getElem?_append_left (by omega)]; exact k3, k4.ver, k4.sz, k4.nob, fun g hg => ?_⟩
        obtain ⟨cur, c1, c2, c3, c4, c5⟩ := k4.blk g hg
        have hglt : g < w.heap.size := (Array.getElem?_eq_some_iff.1 c1).1
        exact ⟨cur, by rw [hold g hglt]; exact c1, c2, c3, c4, fun j y hy => by obtain ⟨u, d1, d2, d3⟩ := c5 j y hy; exact ⟨u, d1, d2, d3.ev ev2⟩⟩
      · rw [List.getElem?_append_right hge] at k1
        obtain ⟨r, k3, k4⟩ := h3.ob _ o k1 k2
        refine ⟨r, by rw [List.getElem?_append_right (by omega), hlen]; exact k3, k4.ver, k4.sz, k4.nob, fun g hg => ?_⟩
        obtain ⟨cur, c1, c2, c3, c4, c5⟩ := k4.blk g hg
        refine ⟨cur, c1, c2, c3, c4, fun j y hy => ?_⟩
        obtain ⟨u, d1, d2, d3⟩ := c5 j y hy
        refine ⟨u, d1, d2, ?_⟩
        have hcut := d3.cut (n := 0) y u (hidG o (List.mem_of_getElem? k1) k2 y (List.mem_of_getElem? hy))
        rw [List.take_zero] at hcut
        rw [hL]
        exact Ml s.fro.size y u hcut
    · rcases Nat.lt_or_ge i H.length with hi | hi <;> rcases Nat.lt_or_ge j H.length with hj | hj
      · rw [List.getElem?_append_left hi] at k1
        rw [List.getElem?_append_left hj] at k3
        rw [List.getElem?_append_left (by omega)] at k5 k6
        exact s.hr.apart i j oi oj ri rj g hij k1 k2 k3 k4 k5 k6
      · rw [List.getElem?_append_left hi] at k1
        rw [List.getElem?_append_right hj] at k3
        rw [List.getElem?_append_left (by omega)] at k5
        rw [List.getElem?_append_right (by omega), hlen] at k6
        intro hg hg'
        obtain ⟨r, m1, m2⟩ := s.hr.ob i oi k1 k2
        obtain rfl : r = ri := by have := m1.symm.trans k5; injection this
        obtain ⟨cur, c1, _⟩ := m2.blk g hg
        have hglt : g < w.heap.size := (Array.getElem?_eq_some_iff.1 c1).1
        have := hnew _ oj rj g k3 k4 k6 hg'
        omega
      · rw [List.getElem?_append_right hi] at k1
        rw [List.getElem?_append_left hj] at k3
        rw [List.getElem?_append_right (by omega), hlen] at k5
        rw [List.getElem?_append_left (by omega)] at k6
        intro hg hg'
        obtain ⟨r, m1, m2⟩ := s.hr.ob j oj k3 k4
        obtain rfl : r = rj := by have := m1.symm.trans k6; injection this
        obtain ⟨cur, c1, _⟩ := m2.blk g hg'
        have hglt : g < w.heap.size := (Array.getElem?_eq_some_iff.1 c1).1
        have := hnew _ oi ri g k1 k2 k5 hg
        omega
      · rw [List.getElem?_append_right hi] at k1
        rw [List.getElem?_append_right hj] at k3
        rw [List.getElem?_append_right (by omega), hlen] at k5 k6
        exact h3.apart _ _ oi oj ri rj g (by omega) k1 k2 k3 k4 k5 k6
    · rcases Nat.lt_or_ge i H.length with hi | hi
      · rw [List.getElem?_append_left hi] at k1
        rw [List.getElem?_append_left (by omega)] at k3
        exact s.hr.foreign i o r g k1 k2 k3 k4
      · rw [List.getElem?_append_right hi] at k1
        rw [List.getElem?_append_right (by omega), hlen] at k3
        exact fun hM => h3.foreign _ o r g k1 k2 k3 k4 (.inl hM)
    · rcases Nat.lt_or_ge i H.length with hi | hi
      · rw [List.getElem?_append_left hi] at k1
        rw [List.getElem?_append_left (by omega)] at k3
        exact s.fro.mine i o r g k1 k2 k3 k4
      · rw [List.getElem?_append_right hi] at k1
        rw [List.getElem?_append_right (by omega), hlen] at k3
        have := hnew _ o r g k1 k2 k3 k4
        exact .inl (Nat.le_trans s.fro.size this)
    · obtain ⟨r1, e1, e2, e3⟩ := s.fro.rho i r hi
      exact ⟨r1, by rw [List.getElem?_append_left (List.getElem?_eq_some_iff.1 e1).1]; exact e1, e2, e3⟩
  cases o with
  | ret y =>
    obtain ⟨v, rfl, hr'⟩ := h2
    refine k y v w' G (ρ ++ ρG) h1 ?_ hbelow s'
    rw [hL, ← hlen]
    exact H7 s.fro.size _ v (Rel.sh y v hr')
  | pan ch =>
    have : e = .panicked ch := h2
    subst this
    exact kp ch w' G _ h1 s'
theorem P1 {f : FuncId} (fn : Func) {ops : Array Oper} {rest : List Oper} {d : Nat} {T : TypeId} {ps : String} {af : Array Edge} {args : Array Operand} {ts : Array TypeId} {c : Operand} {ys zs : List V} {post : Out → List Ob → Prop}
    (hs : Ir P f g cells zs post) (hL : ∀ b, ¬ Γ.L0 b) (hT : TabR g cells Γ.w0 Γ.M) (hid : ∀ o G, post o G → Eo G) (hc : ovO F c = some (.f f [])) (hf : P.funcs[f]? = some fn) (hb : fn.body.isSome = true) (hn : (fn.name == "runtime.NumGoroutine") = false) (hx : ovL F args.toList ys) (ha : ArgL ys zs) (hd : d < Γ.N)
    (k : ∀ y G, post (.ret y) G → JO P ops rest Γ ((d, sh H.length y) :: F) (H ++ G) Q) (kp : ∀ ch G, post (.pan ch) G → Q (.panic ch) F (H ++ G)) :
    JO P ops (⟨some d, .call { callee := .value c, args := args, argTypes := ts }, T, ps, af, none⟩ :: rest) Γ F H Q := fun a w ⟨ρ, s⟩ =>
  wpList_plain rfl fun K hK => N0 hc hf hb hn hx ha hL hT hs hid s (fun y v w' G ρ' h1 h2 _ h4 => hK _ _ (k y G h1 _ _ ⟨ρ', h4.put hd h2⟩)) (fun ch w' G ρ' h1 h3 => ⟨F, H ++ G, kp ch G h1, ρ', h3⟩)
end

section
variable {P : Program} {Γ : Ctx} {F : Fr} {H : List Ob} {Q : Exit → Fr → List Ob → Prop}
theorem zmv {ops : Array Oper} {rest : List Oper} {d : Nat} {x : Operand} {T : TypeId} {ps : String} {af : Array Edge} {y : V} (h : ovO F x = some y) (hd : d < Γ.N) (j : JO P ops rest Γ ((d, y) :: F) H Q) : JO P ops (⟨some d, .move x, T, ps, af, none⟩ :: rest) Γ F H Q := Ac (At h) hd j
theorem zas {ops : Array Oper} {rest : List Oper} {d : Nat} {x : Operand} {T : TypeId} {ps : String} {af : Array Edge} {y : V} (h : ovO F x = some y) (hd : d < Γ.N) (j : JO P ops rest Γ ((d, y) :: F) H Q) : JO P ops (⟨some d, .assign x, T, ps, af, none⟩ :: rest) Γ F H Q := Ac (Fo h) hd j
theorem zsr {id : Nat} {l : List Oper} {y : Code} (h : JO P l.toArray l Γ F H (Kl (fun F' H' => JC P y Γ F' H' Q) Q)) : JC P (.seq (.region id l.toArray false) y) Γ F H Q := Ae (Af h)
theorem zal {ops : Array Oper} {fuel : Nat} {listed : Array Bool} (i : Nat) {st : Bool} {o : Oper} {d : Nat} {y : V} (h : LO P ops st Γ o d F H y) (hi : ops[i]? = some o) (j : JA P ops fuel (listed.setIfInBounds i true) Γ ((d, y) :: F) H Q) (hs : Region.noSelect ops = true := by kernel_rfl) (hr : (Region.ready .any ops listed).contains i = true := by kernel_rfl) (hf : Ss st ops listed i = true := by kernel_rfl) (hQ : ∀ c F H d, Q (.panic c) F H → Q (.panic c) ((d, .u) :: F) H := by exact fun _ _ _ _ h => h) : JA P ops (fuel + 1) listed Γ F H Q := Adl i h hi hs hr hf hQ j
theorem A4 {ops : Array Oper} {fuel : Nat} {listed : Array Bool} (i : Nat) (D : List Nat) {st : Bool} {o : Oper} {d : Nat} {y : V} (h : LO P ops st Γ o d F H y) (hi : ops[i]? = some o) (j : JA P ops fuel (listed.setIfInBounds i true) Γ ((d, y) :: F) H Q) (hs : Region.noSelect ops = true := by kernel_rfl) (hr : (Region.ready .any ops listed).contains i = true := by kernel_rfl) (hf : Qc st ops listed i D = true := by kernel_rfl) (hdp : Acl ops listed i D = true := by kernel_rfl) (hQ : ∀ c F H d, Q (.panic c) F H → Q (.panic c) ((d, .u) :: F) H := by exact fun _ _ _ _ h => h) : JA P ops (fuel + 1) listed Γ F H Q := Abs i D h hi hs hr hf hdp hQ j
theorem Says.v5 {F r : Fr} {a b c d e : Nat} (h : Says F r) : Says F ((a, .u) :: (b, .u) :: (c, .u) :: (d, .u) :: (e, .u) :: r) := .u (.u (.u (.u (.u h))))
theorem Says.v9 {F r : Fr} {a b c d e f g i j k : Nat} (h : Says F r) : Says F ((a, .u) :: (b, .u) :: (c, .u) :: (d, .u) :: (e, .u) :: (f, .u) :: (g, .u) :: (i, .u) :: (j, .u) :: (k, .u) :: r) := .v5 (.v5 h)
theorem zlb {a b : Nat} (h : Nat.ble a b = true) : a ≤ b := Nat.le_of_ble_eq_true h
end

def tN (l : List Int) : Nat → Nat
  | 0 => 0
  | k + 1 => if l.getD k 0 = 0 then tN l k else k + 1
def trm (l : List Int) : List Int := l.take (tN l l.length)
theorem Vf (l : List Int) : ∀ k, tN l k ≤ k
  | 0 => Nat.le_refl _
  | k + 1 => by simp only [tN]; split <;> have := Vf l k <;> omega
theorem Oh {l : List Int} {k : Nat} (h0 : 0 < k) (h : l.getD (k - 1) 0 = 0) : tN l (k - 1) = tN l k := by
  obtain ⟨j, rfl⟩ : ∃ j, k = j + 1 := ⟨k - 1, by omega⟩
  simp only [Nat.add_sub_cancel] at h ⊢
  simp only [tN]
  rw [if_pos h]
theorem Lg {l : List Int} {k : Nat} (h0 : 0 < k) (h : ¬ l.getD (k - 1) 0 = 0) : tN l k = k := by
  obtain ⟨j, rfl⟩ : ∃ j, k = j + 1 := ⟨k - 1, by omega⟩
  simp only [Nat.add_sub_cancel] at h
  simp only [tN]
  rw [if_neg h]
theorem Ab8 {l : List Int} {k : Nat} (h : ¬ 0 < k) : tN l k = k := by
  have : k = 0 := by omega
  subst this; rfl
theorem C2 (l : List Int) : (trm l).length ≤ l.length := by unfold trm; rw [List.length_take]; omega
theorem Il {l : List Int} {k i : Nat} (h : i < k) : (l.take k).getD i 0 = l.getD i 0 := by
  rw [List.getD_eq_getElem?_getD, List.getD_eq_getElem?_getD, List.getElem?_take, if_pos h]
def Az (l : List Int) : Prop := ∀ x ∈ l, 0 ≤ x ∧ x < 18446744073709551616
theorem Cb {l : List Int} (h : Az l) : Az (trm l) := fun x hx => h x (List.mem_of_mem_take hx)
theorem Lc {l : List Int} (h : Az l) {i : Nat} (hi : i < l.length) : 0 ≤ l.getD i 0 ∧ l.getD i 0 < 18446744073709551616 := by
  rw [List.getD_eq_getElem?_getD, List.getElem?_eq_getElem hi]; exact h _ (List.getElem_mem hi)
theorem Bq {l : List Int} (h : Az l) (i : Nat) : 0 ≤ l.getD i 0 ∧ l.getD i 0 < 18446744073709551616 := by
  by_cases hi : i < l.length
  · exact Lc h hi
  · rw [List.getD_eq_getElem?_getD, List.getElem?_eq_none (by omega)]; exact ⟨by decide, by decide⟩
def bl : Nat → Nat → Nat
  | 0, _ => 0
  | f + 1, n => if n = 0 then 0 else 1 + bl f (n / 2)
theorem S4 : ∀ f n, bl f n ≤ f
  | 0, _ => Nat.le_refl _
  | f + 1, n => by simp only [bl]; split <;> have := S4 f (n / 2) <;> omega
theorem Qz : ∀ (f d n : Nat), n < 2 ^ f → bl (f + d) n = bl f n
  | 0, d, n, h => by
    have : n = 0 := by simpa using h
    subst this
    cases d <;> simp [bl]
  | f + 1, d, n, h => by
    rw [show f + 1 + d = (f + d) + 1 by omega]
    simp only [bl]
    split
    · rfl
    · rw [Qz f d (n / 2) (by rw [Nat.pow_succ] at h; omega)]
theorem M8 : ∀ (k f n : Nat), 2 ^ k ≤ n → bl (k + f) n = k + bl f (n / 2 ^ k)
  | 0, f, n, _ => by simp
  | k + 1, f, n, h => by
    have h2 : 2 ^ (k + 1) = 2 ^ k * 2 := Nat.pow_succ ..
    have hp : 0 < 2 ^ k := Nat.two_pow_pos k
    rw [show k + 1 + f = (k + f) + 1 by omega]
    simp only [bl]
    rw [if_neg (by omega), M8 k f (n / 2) (by omega), h2, Nat.mul_comm, ← Nat.div_div_eq_div_mul]
    omega
theorem G1 {k n : Nat} (hk : k ≤ 64) (h : 2 ^ k ≤ n) (hn : n < 2 ^ 64) : bl 64 n = k + bl 64 (n / 2 ^ k) := by
  have h1 := M8 k (64 - k) n h
  rw [show k + (64 - k) = 64 by omega] at h1
  rw [h1]
  have h2 : n / 2 ^ k < 2 ^ (64 - k) := by
    rw [Nat.div_lt_iff_lt_mul (Nat.two_pow_pos k), ← Nat.pow_add, show 64 - k + k = 64 by omega]; exact hn
  have h3 := Qz (64 - k) k _ h2
  rw [show 64 - k + k = 64 by omega] at h3
  rw [h3]
def Pw : ByteArray := ⟨((List.range 256).map fun i => (bl 8 i).toUInt8).toArray⟩
theorem Kw {i : Nat} (h : i < 256) : Iq Pw i = (bl 64 i : Int) := by
  have key : ∀ j : Fin 256, Iq Pw j.val = (bl 64 j.val : Int) := by decide +kernel
  exact key ⟨i, h⟩
theorem Eq {n k b : Nat} {kk : Int} (h : 2 ^ min kk.toNat b = k) : ((n : Int)).fdiv (2 ^ min kk.toNat b) = ((n / k : Nat) : Int) := by
  have : ((2 : Int) ^ min kk.toNat b) = ((k : Nat) : Int) := by rw [← h]; norm_cast
  rw [this]
  exact (Int.ofNat_fdiv n k).symm
def Fi (l : List Int) : Nat := if (trm l).length = 0 then 0 else 64 * ((trm l).length - 1) + bl 64 ((trm l).getD ((trm l).length - 1) 0).toNat
theorem Ih (l : List Int) : Fi l ≤ 64 * l.length := by
  unfold Fi
  have h1 := C2 l
  split
  · omega
  · have := S4 64 ((trm l).getD ((trm l).length - 1) 0).toNat
    omega
def Ip (a b : List Int) : Nat → Int
  | 0 => 0
  | k + 1 => if a.getD k 0 < b.getD k 0 then -1 else if b.getD k 0 < a.getD k 0 then 1 else Ip a b k
def Nw (a b : List Int) : Int := if a.length < b.length then -1 else if b.length < a.length then 1 else Ip a b a.length
def adN (a b : List Int) : Nat → List Int × Int
  | 0 => ([], 0)
  | i + 1 => ((adN a b i).1 ++ [(a.getD i 0 + b.getD i 0 + (adN a b i).2) % 18446744073709551616], (a.getD i 0 + b.getD i 0 + (adN a b i).2) / 18446744073709551616)
theorem Dq (a b : List Int) : ∀ i, (adN a b i).1.length = i
  | 0 => rfl
  | i + 1 => by simp only [adN, List.length_append, Dq a b i]; rfl
theorem Xg {a b : List Int} (ha : Az a) (hb : Az b) : ∀ i, 0 ≤ (adN a b i).2 ∧ (adN a b i).2 ≤ 1
  | 0 => ⟨Int.le_refl 0, (by decide : (0 : Int) ≤ 1)⟩
  | i + 1 => by
    have h1 := Bq ha i
    have h2 := Bq hb i
    have h3 := Xg ha hb i
    simp only [adN]
    omega
theorem S6 {a b : List Int} : ∀ i, Az (adN a b i).1
  | 0 => by intro x hx; cases hx
  | i + 1 => by
    intro x hx
    simp only [adN, List.mem_append, List.mem_singleton] at hx
    rcases hx with hx | hx
    · exact S6 i x hx
    · subst hx; omega
def sbN (a b : List Int) : Nat → List Int × Int
  | 0 => ([], 0)
  | i + 1 => ((sbN a b i).1 ++ [if a.getD i 0 < b.getD i 0 + (sbN a b i).2 then a.getD i 0 - b.getD i 0 - (sbN a b i).2 + 18446744073709551616 else a.getD i 0 - b.getD i 0 - (sbN a b i).2], if a.getD i 0 < b.getD i 0 + (sbN a b i).2 then 1 else 0)
theorem C3 (a b : List Int) : ∀ i, (sbN a b i).1.length = i
  | 0 => rfl
  | i + 1 => by simp only [sbN, List.length_append, C3 a b i]; rfl
theorem R1 (a b : List Int) : ∀ i, 0 ≤ (sbN a b i).2 ∧ (sbN a b i).2 ≤ 1
  | 0 => ⟨Int.le_refl 0, (by decide : (0 : Int) ≤ 1)⟩
  | i + 1 => by simp only [sbN]; split <;> decide
theorem R0 {a b : List Int} (ha : Az a) (hb : Az b) : ∀ i, Az (sbN a b i).1
  | 0 => by intro x hx; cases hx
  | i + 1 => by
    have h1 := Bq ha i
    have h2 := Bq hb i
    have h3 := R1 a b i
    intro x hx
    simp only [sbN, List.mem_append, List.mem_singleton] at hx
    rcases hx with hx | hx
    · exact R0 ha hb i x hx
    · subst hx; split <;> omega
def Ca (l : List Int) (n : Nat) : List Int := l ++ List.replicate (n - l.length) 0
theorem Ed {l : List Int} {n : Nat} (h : l.length ≤ n) : (Ca l n).length = n := by unfold Ca; rw [List.length_append, List.length_replicate]; omega
theorem Dz {l : List Int} {n : Nat} {v : Int} (h : l.length < n) : (Ca l n).set l.length v = Ca (l ++ [v]) n := by
  unfold Ca
  obtain ⟨m, hm⟩ : ∃ m, n - l.length = m + 1 := ⟨n - l.length - 1, by omega⟩
  rw [hm, List.replicate_succ, List.set_append_right _ _ (Nat.le_refl _), Nat.sub_self, List.set_cons_zero, List.length_append, List.length_singleton, show n - (l.length + 1) = m by omega]
  simp
theorem Dh {l : List Int} {n : Nat} (h : l.length = n) : Ca l n = l := by unfold Ca; rw [h, Nat.sub_self]; simp
theorem C5 {l : List Int} {i : Nat} (h : l.length ≤ i) : l.getD i 0 = 0 := by rw [List.getD_eq_getElem?_getD, List.getElem?_eq_none h]; rfl
theorem Qu {a b : List Int} {k : Nat} (h0 : 0 < k) (h : a.getD (k - 1) 0 < b.getD (k - 1) 0) : Ip a b k = -1 := by
  obtain ⟨j, rfl⟩ : ∃ j, k = j + 1 := ⟨k - 1, by omega⟩
  simp only [Nat.add_sub_cancel] at h
  simp only [Ip]; rw [if_pos h]
theorem Qv {a b : List Int} {k : Nat} (h0 : 0 < k) (h : b.getD (k - 1) 0 < a.getD (k - 1) 0) : Ip a b k = 1 := by
  obtain ⟨j, rfl⟩ : ∃ j, k = j + 1 := ⟨k - 1, by omega⟩
  simp only [Nat.add_sub_cancel] at h
  simp only [Ip]; rw [if_neg (by omega), if_pos h]
theorem Qw {a b : List Int} {k : Nat} (h0 : 0 < k) (h1 : ¬ a.getD (k - 1) 0 < b.getD (k - 1) 0) (h2 : ¬ b.getD (k - 1) 0 < a.getD (k - 1) 0) : Ip a b (k - 1) = Ip a b k := by
  obtain ⟨j, rfl⟩ : ∃ j, k = j + 1 := ⟨k - 1, by omega⟩
  simp only [Nat.add_sub_cancel] at h1 h2 ⊢
  simp only [Ip]; rw [if_neg h1, if_neg h2]
theorem W1 {X Y : List Int} {i n : Nat} (h : i < n) : (Ca (adN X Y i).1 n).set ((0 + i) * 1) ((X.getD i 0 + Y.getD i 0 + (adN X Y i).2) % 18446744073709551616) = Ca (adN X Y (i + 1)).1 n := by
  rw [Nat.zero_add, Nat.mul_one]
  have := Dz (l := (adN X Y i).1) (n := n) (v := (X.getD i 0 + Y.getD i 0 + (adN X Y i).2) % 18446744073709551616) (by rw [Dq]; exact h)
  rw [Dq] at this
  exact this
theorem W0 {X Y : List Int} {i n : Nat} (h : i < n) : (Ca (sbN X Y i).1 n).set ((0 + i) * 1) (if X.getD i 0 < Y.getD i 0 + (sbN X Y i).2 then X.getD i 0 - Y.getD i 0 - (sbN X Y i).2 + 18446744073709551616 else X.getD i 0 - Y.getD i 0 - (sbN X Y i).2) = Ca (sbN X Y (i + 1)).1 n := by
  rw [Nat.zero_add, Nat.mul_one]
  have := Dz (l := (sbN X Y i).1) (n := n) (v := if X.getD i 0 < Y.getD i 0 + (sbN X Y i).2 then X.getD i 0 - Y.getD i 0 - (sbN X Y i).2 + 18446744073709551616 else X.getD i 0 - Y.getD i 0 - (sbN X Y i).2) (by rw [C3]; exact h)
  rw [C3] at this
  exact this
theorem K0 {l : List Int} {n : Nat} {v : Int} (h : l.length = n) : (Ca l (n + 1)).set ((0 + n) * 1) v = l ++ [v] := by
  rw [Nat.zero_add, Nat.mul_one]
  subst h
  rw [Dz (by omega), Dh (by simp)]
def swL (a b : List Int) : List Int × List Int := if a.length < b.length then (b, a) else (a, b)
def Oj (a b : List Int) : List Int := (adN (swL (trm a) (trm b)).1 (swL (trm a) (trm b)).2 (swL (trm a) (trm b)).1.length).1 ++ [(adN (swL (trm a) (trm b)).1 (swL (trm a) (trm b)).2 (swL (trm a) (trm b)).1.length).2]
def Xt (a b : List Int) : List Int := (sbN (trm a) (trm b) (trm a).length).1
theorem Dv {l : List Int} {v : Int} (h : Az l) (h0 : 0 ≤ v) (h1 : v < 18446744073709551616) : Az (l ++ [v]) := fun x hx => by
  rcases List.mem_append.1 hx with hx | hx
  · exact h x hx
  · rw [List.mem_singleton] at hx; subst hx; exact ⟨h0, h1⟩
def dig (l : List Int) : List Int := l.flatMap fun v => [v % 4294967296, v / 4294967296]
theorem J0 (l : List Int) : (dig l).length = 2 * l.length := by
  induction l with
  | nil => rfl
  | cons v l ih => simp only [dig, List.flatMap_cons, List.length_append, List.length_cons, List.length_nil] at ih ⊢; omega
theorem S2 {l : List Int} {i : Nat} (h : i < l.length) : dig (l.take (i + 1)) = dig (l.take i) ++ [l.getD i 0 % 4294967296, l.getD i 0 / 4294967296] := by
  rw [List.take_succ_eq_append_getElem h, List.getD_eq_getElem?_getD, List.getElem?_eq_getElem h]
  unfold dig
  rw [List.flatMap_append]
  rfl
def G9 : List Int → List Int
  | [] => []
  | [x] => [x]
  | x :: y :: r => IntKind.u64.wrap (x + IntKind.u64.wrap (y * 4294967296)) :: G9 r
theorem Fm {l : List Int} {i : Nat} (h : i < l.length) : l.drop i = l.getD i 0 :: l.drop (i + 1) := by
  rw [List.drop_eq_getElem_cons h, List.getD_eq_getElem?_getD, List.getElem?_eq_getElem h]; rfl
theorem Abp {l : List Int} {j : Nat} (h : j + 1 < l.length) : G9 (l.drop j) = IntKind.u64.wrap (l.getD j 0 + IntKind.u64.wrap (l.getD (j + 1) 0 * 4294967296)) :: G9 (l.drop (j + 2)) := by
  rw [Fm (by omega : j < l.length), Fm h]; rfl
theorem Abq {l : List Int} {j : Nat} (h : j < l.length) (h2 : ¬ j + 1 < l.length) : G9 (l.drop j) = l.getD j 0 :: G9 (l.drop (j + 2)) := by
  rw [Fm h, List.drop_eq_nil_of_le (by omega : l.length ≤ j + 1), List.drop_eq_nil_of_le (by omega : l.length ≤ j + 2)]; rfl
theorem Mu : ∀ l : List Int, (G9 l).length ≤ l.length
  | [] => Nat.le_refl _
  | [_] => Nat.le_refl _
  | _ :: _ :: r => by have := Mu r; simp only [G9, List.length_cons]; omega
theorem Aaw {x : Int} (h : ¬ x = 0) : trm [x] = [x] := by
  unfold trm
  simp only [List.length_singleton, tN]
  rw [if_neg (by simpa using h)]
  rfl
theorem F9 {v : Int} (h0 : 0 ≤ v) (h1 : v < 18446744073709551616) : Az [v] := fun x hx => by rw [List.mem_singleton] at hx; subst hx; exact ⟨h0, h1⟩
theorem Adt {x d : Int} (h : d ≤ x) : ¬ Nw [x] [d] < 0 := by
  unfold Nw
  simp only [List.length_singleton, Ip]
  rw [if_neg (by omega), if_neg (by omega)]
  have e1 : [x].getD 0 0 = x := rfl
  have e2 : [d].getD 0 0 = d := rfl
  rw [e1, e2, if_neg (by omega)]
  split <;> omega
theorem J6 {m r : Int} (h1 : 0 ≤ r) (h2 : r < 18446744073709551616) (h : m = r - 18446744073709551616) : IntKind.u64.wrap m = r := by
  subst h
  simp only [IntKind.wrap, IntKind.bits, IntKind.signed] <;> simp <;> omega


def Bs : Int := 18446744073709551616
def vl : List Int → Int
  | [] => 0
  | x :: l => x + Bs * vl l
def pB : Nat → Int
  | 0 => 1
  | k + 1 => Bs * pB k
theorem Dg : ∀ k, 0 < pB k
  | 0 => by decide
  | k + 1 => by simp only [pB]; exact Int.mul_pos (by decide) (Dg k)
theorem E8 : ∀ a b, pB (a + b) = pB a * pB b
  | 0, b => by simp [pB]
  | a + 1, b => by rw [show a + 1 + b = (a + b) + 1 by omega]; simp only [pB]; rw [E8 a b, Int.mul_assoc]
theorem Dm : ∀ a b : List Int, vl (a ++ b) = vl a + pB a.length * vl b
  | [], b => by simp [vl, pB]
  | x :: a, b => by
    simp only [List.cons_append, vl, List.length_cons, pB]
    rw [Dm a b, Int.mul_add, Int.mul_assoc, Int.add_assoc]
theorem Bk : ∀ {l : List Int}, Az l → 0 ≤ vl l
  | [], _ => Int.le_refl _
  | x :: l, h => by
    have h1 := (h x (List.mem_cons_self ..)).1
    have h2 := Bk (l := l) fun y hy => h y (List.mem_cons_of_mem _ hy)
    simp only [vl]
    have := Int.mul_nonneg (show (0 : Int) ≤ Bs by decide) h2
    omega
theorem E4 : ∀ {l : List Int}, Az l → vl l < pB l.length
  | [], _ => by decide
  | x :: l, h => by
    have h1 := (h x (List.mem_cons_self ..)).2
    have h2 := E4 (l := l) fun y hy => h y (List.mem_cons_of_mem _ hy)
    simp only [vl, List.length_cons, pB]
    have h3 : vl l + 1 ≤ pB l.length := h2
    have h4 := Int.mul_le_mul_of_nonneg_left h3 (show (0 : Int) ≤ Bs by decide)
    rw [Int.mul_add, Int.mul_one] at h4
    have h5 : x < Bs := h1
    omega
theorem Fd (n : Nat) : vl (List.replicate n 0) = 0 := by
  induction n with
  | zero => rfl
  | succ n ih => rw [List.replicate_succ]; simp [vl, ih]
def vk (l : List Int) (k : Nat) : Int := vl (l.take k)
theorem vk_0 (l : List Int) : vk l 0 = 0 := by unfold vk; simp [vl]
theorem vk_all {l : List Int} {k : Nat} (h : l.length ≤ k) : vk l k = vl l := by unfold vk; rw [List.take_of_length_le h]
theorem Cp (l : List Int) (k : Nat) : vk l (k + 1) = vk l k + pB k * l.getD k 0 := by
  unfold vk
  by_cases h : k < l.length
  · rw [List.take_succ_eq_append_getElem h, Dm, List.length_take, Nat.min_eq_left (by omega), List.getD_eq_getElem?_getD, List.getElem?_eq_getElem h]
    simp [vl]
  · rw [List.take_of_length_le (by omega), List.take_of_length_le (by omega), C5 (by omega)]
    simp
theorem X2 (l : List Int) : ∀ k, k ≤ l.length → vk l (tN l k) = vk l k
  | 0, _ => rfl
  | k + 1, h => by
    simp only [tN]
    split
    · rename_i h0
      rw [X2 l k (by omega), Cp, h0, Int.mul_zero, Int.add_zero]
    · rfl
theorem E3 (l : List Int) : vl (trm l) = vl l := by
  have := X2 l l.length (Nat.le_refl _)
  rw [vk_all (Nat.le_refl _)] at this
  exact this
theorem L2 (a b : List Int) : ∀ i, vl (adN a b i).1 + pB i * (adN a b i).2 = vk a i + vk b i
  | 0 => by simp [adN, vl, vk_0, pB]
  | i + 1 => by
    have ih := L2 a b i
    simp only [adN]
    rw [Dm, Dq, Cp, Cp]
    simp only [vl, pB]
    have e := Int.emod_add_mul_ediv (a.getD i 0 + b.getD i 0 + (adN a b i).2) 18446744073709551616
    generalize hs : a.getD i 0 + b.getD i 0 + (adN a b i).2 = s at *
    generalize hq : s / 18446744073709551616 = q at *
    generalize hr : s % 18446744073709551616 = r at *
    have hB : Bs = 18446744073709551616 := rfl
    rw [Int.mul_zero, Int.add_zero, hB, Int.mul_comm 18446744073709551616 (pB i), Int.mul_assoc]
    have e2 : pB i * r + pB i * (18446744073709551616 * q) = pB i * s := by rw [← Int.mul_add, e]
    have e3 : pB i * s = pB i * a.getD i 0 + pB i * b.getD i 0 + pB i * (adN a b i).2 := by rw [← hs, Int.mul_add, Int.mul_add]
    omega
theorem Ov (a b : List Int) : ∀ i, vl (sbN a b i).1 - pB i * (sbN a b i).2 = vk a i - vk b i
  | 0 => by simp [sbN, vl, vk_0, pB]
  | i + 1 => by
    have ih := Ov a b i
    simp only [sbN]
    rw [Dm, C3, Cp, Cp]
    simp only [vl, pB]
    have hB : Bs = 18446744073709551616 := rfl
    rw [Int.mul_zero, Int.add_zero, hB, Int.mul_comm 18446744073709551616 (pB i), Int.mul_assoc]
    split
    · rw [Int.mul_one, Int.mul_add, Int.mul_sub, Int.mul_sub]; omega
    · rw [Int.mul_sub, Int.mul_sub]; simp; omega
theorem Xz (a b : List Int) : (swL a b).2.length ≤ (swL a b).1.length ∧ vl (swL a b).1 + vl (swL a b).2 = vl a + vl b := by
  unfold swL
  split
  · exact ⟨by show a.length ≤ b.length; omega, by show vl b + vl a = _; omega⟩
  · exact ⟨by show b.length ≤ a.length; omega, rfl⟩
theorem Uw (a b : List Int) : vl (Oj a b) = vl a + vl b := by
  have h := L2 (swL (trm a) (trm b)).1 (swL (trm a) (trm b)).2 (swL (trm a) (trm b)).1.length
  obtain ⟨h1, h2⟩ := Xz (trm a) (trm b)
  rw [vk_all (Nat.le_refl _), vk_all h1, h2, E3, E3] at h
  unfold Oj
  rw [Dm, Dq]
  simp only [vl]
  rw [Int.mul_zero, Int.add_zero]
  exact h
def tpd (l : List Int) : Prop := l ≠ [] → l.getD (l.length - 1) 0 ≠ 0
theorem Tl (l : List Int) : ∀ k, 0 < tN l k → l.getD (tN l k - 1) 0 ≠ 0
  | 0, h => by simp [tN] at h
  | k + 1, h => by
    simp only [tN] at h ⊢
    split
    · rename_i h0; rw [if_pos h0] at h; exact Tl l k h
    · rename_i h0; exact h0
theorem Nh (l : List Int) : (trm l).length = tN l l.length := by unfold trm; rw [List.length_take, Nat.min_eq_left (Vf _ _)]
theorem H1 (l : List Int) : tpd (trm l) := fun hne => by
  have hl := Nh l
  have hpos : 0 < tN l l.length := by
    rcases Nat.eq_zero_or_pos (tN l l.length) with h | h
    · exact absurd (List.eq_nil_of_length_eq_zero (hl.trans h)) hne
    · exact h
  rw [hl]
  unfold trm
  rw [Il (by omega)]
  exact Tl l _ hpos
theorem Ka {l : List Int} (h : tpd l) : trm l = l := by
  unfold trm
  by_cases h0 : l = []
  · subst h0; rfl
  · have hp : 0 < l.length := List.length_pos_iff.2 h0
    rw [Lg hp (h h0), List.take_length]
theorem Aa4 {l : List Int} (hu : Az l) (ht : tpd l) (h0 : l ≠ []) : pB (l.length - 1) ≤ vl l := by
  have hp : 0 < l.length := List.length_pos_iff.2 h0
  obtain ⟨k, hk⟩ : ∃ k, l.length = k + 1 := ⟨l.length - 1, by omega⟩
  have h1 : vl l = vk l (k + 1) := by rw [vk_all (by omega)]
  rw [h1, Cp, hk, Nat.add_sub_cancel]
  have h2 := ht h0
  rw [hk, Nat.add_sub_cancel] at h2
  have h3 := Lc hu (i := k) (by omega)
  have h4 : 0 ≤ vk l k := Bk fun x hx => hu x (List.mem_of_mem_take hx)
  have h5 : pB k * 1 ≤ pB k * l.getD k 0 := Int.mul_le_mul_of_nonneg_left (by omega) (Int.le_of_lt (Dg k))
  omega
theorem Gv {a b : Nat} (h : a ≤ b) : pB a ≤ pB b := by
  obtain ⟨c, rfl⟩ : ∃ c, b = a + c := ⟨b - a, by omega⟩
  rw [E8]
  have h1 := Dg c
  have h2 := Int.mul_le_mul_of_nonneg_left (show 1 ≤ pB c by omega) (Int.le_of_lt (Dg a))
  omega


theorem Oq {x : Int} (h : 0 ≤ x) : x.fdiv (2 ^ min (32 : Int).toNat 64) = x / 4294967296 := by
  obtain ⟨n, rfl⟩ := Int.eq_ofNat_of_zero_le h
  exact Eq (k := 4294967296) (by decide)
theorem Xf {x : Int} (h0 : 0 ≤ x) (h1 : x < 18446744073709551616) : Fc .and .u64 x 4294967295 = x % 4294967296 := by
  obtain ⟨n, rfl⟩ := Int.eq_ofNat_of_zero_le h0
  unfold Fc
  simp only [IntKind.bits]
  have e1 : (BitVec.ofInt 64 (n : Int)).toNat = n := by
    rw [BitVec.toNat_ofInt]; simp; omega
  have e2 : (BitVec.ofInt 64 4294967295).toNat = 4294967295 := by decide
  have e3 : (BitVec.ofInt 64 (n : Int) &&& BitVec.ofInt 64 4294967295).toNat = n % 4294967296 := by
    rw [BitVec.toNat_and, e1, e2]
    have := Nat.and_two_pow_sub_one_eq_mod n 32
    simpa using this
  show IntKind.u64.wrap (((BitVec.ofInt 64 (n : Int) &&& BitVec.ofInt 64 4294967295).toNat : Nat) : Int) = _
  rw [e3, A5 (by omega) (by omega)]
  omega
theorem Ia {a b m : Int} (ha : 0 ≤ a) (hb : 0 ≤ b) (ham : a ≤ m) (hbm : b ≤ m) : 0 ≤ a * b ∧ a * b ≤ m * m := by
  refine ⟨Int.mul_nonneg ha hb, ?_⟩
  exact Int.mul_le_mul ham hbm hb (by omega)
theorem Pf (x y : Int) : x * y = (x / 4294967296) * (y / 4294967296) * 18446744073709551616 + ((x / 4294967296) * (y % 4294967296) + (x % 4294967296) * (y / 4294967296)) * 4294967296 + (x % 4294967296) * (y % 4294967296) := by
  have hx := Int.emod_add_mul_ediv x 4294967296
  have hy := Int.emod_add_mul_ediv y 4294967296
  generalize x / 4294967296 = x1 at *
  generalize x % 4294967296 = x0 at *
  generalize y / 4294967296 = y1 at *
  generalize y % 4294967296 = y0 at *
  rw [← hx, ← hy, Int.add_mul, Int.mul_add, Int.mul_add]
  have e1 : x0 * (4294967296 * y1) = 4294967296 * (x0 * y1) := by rw [Int.mul_left_comm]
  have e2 : 4294967296 * x1 * y0 = 4294967296 * (x1 * y0) := Int.mul_assoc _ _ _
  have e3 : 4294967296 * x1 * (4294967296 * y1) = 18446744073709551616 * (x1 * y1) := by
    rw [Int.mul_assoc, Int.mul_left_comm x1, ← Int.mul_assoc 4294967296 4294967296]; rfl
  rw [e1, e2, e3]
  omega
theorem Pg {x y : Int} (hx0 : 0 ≤ x) (hx : x < 18446744073709551616) (hy0 : 0 ≤ y) (hy : y < 18446744073709551616) :
    let p00 := x % 4294967296 * (y % 4294967296)
    let p10 := x / 4294967296 * (y % 4294967296)
    let p01 := x % 4294967296 * (y / 4294967296)
    let p11 := x / 4294967296 * (y / 4294967296)
    let t := p10 + p00 / 4294967296
    let u := t % 4294967296 + p01
    (0 ≤ p00 ∧ p00 ≤ 18446744065119617025) ∧ (0 ≤ p10 ∧ p10 ≤ 18446744065119617025) ∧ (0 ≤ p01 ∧ p01 ≤ 18446744065119617025) ∧ (0 ≤ p11 ∧ p11 ≤ 18446744065119617025) ∧ p11 + t / 4294967296 + u / 4294967296 = x * y / 18446744073709551616 := by
  intro p00 p10 p01 p11 t u
  have b00 := Ia (a := x % 4294967296) (b := y % 4294967296) (m := 4294967295) (by omega) (by omega) (by omega) (by omega)
  have b10 := Ia (a := x / 4294967296) (b := y % 4294967296) (m := 4294967295) (by omega) (by omega) (by omega) (by omega)
  have b01 := Ia (a := x % 4294967296) (b := y / 4294967296) (m := 4294967295) (by omega) (by omega) (by omega) (by omega)
  have b11 := Ia (a := x / 4294967296) (b := y / 4294967296) (m := 4294967295) (by omega) (by omega) (by omega) (by omega)
  have hp := Pf x y
  have em : (4294967295 : Int) * 4294967295 = 18446744065119617025 := by decide
  rw [em] at b00 b10 b01 b11
  refine ⟨b00, b10, b01, b11, ?_⟩
  show x / 4294967296 * (y / 4294967296) + (x / 4294967296 * (y % 4294967296) + x % 4294967296 * (y % 4294967296) / 4294967296) / 4294967296 + ((x / 4294967296 * (y % 4294967296) + x % 4294967296 * (y % 4294967296) / 4294967296) % 4294967296 + x % 4294967296 * (y / 4294967296)) / 4294967296 = x * y / 18446744073709551616
  generalize x / 4294967296 * (y / 4294967296) = q11 at *
  generalize x / 4294967296 * (y % 4294967296) = q10 at *
  generalize x % 4294967296 * (y / 4294967296) = q01 at *
  generalize x % 4294967296 * (y % 4294967296) = q00 at *
  rw [hp]
  omega
theorem Df {m : Int} : IntKind.u64.wrap m = m % 18446744073709551616 := by
  simp only [IntKind.wrap, IntKind.bits, IntKind.signed] <;> simp
theorem G4 : ∀ (l : List Int) (j : Nat) (v : Int), j < l.length → vl (l.set j v) = vl l + pB j * (v - l.getD j 0)
  | [], j, v, h => by simp at h
  | x :: l, 0, v, _ => by
    have e : (x :: l).getD 0 0 = x := rfl
    simp only [List.set_cons_zero, vl, pB, e]; omega
  | x :: l, j + 1, v, h => by
    have ih := G4 l j v (by simpa using h)
    have e : (x :: l).getD (j + 1) 0 = l.getD j 0 := rfl
    simp only [List.set_cons_succ, vl, pB, e]
    rw [ih, Int.mul_add, Int.mul_assoc]; omega
theorem Hs {l : List Int} {j k : Nat} {v : Int} (hne : k ≠ j) : (l.set j v).getD k 0 = l.getD k 0 := by
  rw [List.getD_eq_getElem?_getD, List.getD_eq_getElem?_getD, List.getElem?_set_ne (Ne.symm hne)]
theorem Hh {l : List Int} {j : Nat} {v : Int} (h : Az l) (h0 : 0 ≤ v) (h1 : v < 18446744073709551616) : Az (l.set j v) := fun x hx => by
  rcases List.mem_or_eq_of_mem_set hx with hx | hx
  · exact h x hx
  · subst hx; exact ⟨h0, h1⟩
theorem Lj {P c t : Int} (hP0 : 0 ≤ P) (hP : P ≤ 340282366920938463426481119284349108225) (hc0 : 0 ≤ c) (hc : c < 18446744073709551616) (ht0 : 0 ≤ t) (ht : t < 18446744073709551616) :
    0 ≤ P / 18446744073709551616 + (P % 18446744073709551616 + c + 0) / 18446744073709551616 ∧ P / 18446744073709551616 + (P % 18446744073709551616 + c + 0) / 18446744073709551616 < 18446744073709551616 ∧
    0 ≤ P / 18446744073709551616 + (P % 18446744073709551616 + c + 0) / 18446744073709551616 + (t + (P % 18446744073709551616 + c + 0) % 18446744073709551616 + 0) / 18446744073709551616 ∧
    P / 18446744073709551616 + (P % 18446744073709551616 + c + 0) / 18446744073709551616 + (t + (P % 18446744073709551616 + c + 0) % 18446744073709551616 + 0) / 18446744073709551616 < 18446744073709551616 ∧
    (t + (P % 18446744073709551616 + c + 0) % 18446744073709551616 + 0) % 18446744073709551616 + 18446744073709551616 * (P / 18446744073709551616 + (P % 18446744073709551616 + c + 0) / 18446744073709551616 + (t + (P % 18446744073709551616 + c + 0) % 18446744073709551616 + 0) / 18446744073709551616) = t + P + c := by
  omega
theorem N1 {b : List Int} (hb : Az b) (k : Nat) : ∃ r, 0 ≤ r ∧ vl b = vk b k + pB k * r := by
  refine ⟨vl (b.drop k), Bk fun x hx => hb x (List.mem_of_mem_drop hx), ?_⟩
  by_cases h : k ≤ b.length
  · have := Dm (b.take k) (b.drop k)
    rw [List.take_append_drop, List.length_take, Nat.min_eq_left h] at this
    exact this
  · rw [List.drop_eq_nil_of_le (by omega), vk_all (by omega)]; simp [vl]
theorem Hv {b : List Int} (hb : Az b) (k : Nat) : 0 ≤ vk b k := Bk fun x hx => hb x (List.mem_of_mem_take hx)
theorem Pd {b : List Int} (hb : Az b) {at_ k n : Nat} (hn : n ≤ at_ + k) (h : pB at_ * vl b < pB n) : vk b k = vl b := by
  obtain ⟨r, h0, h1⟩ := N1 hb k
  rcases Int.lt_or_le 0 r with hr | hr
  · exfalso
    have h2 := Int.mul_le_mul_of_nonneg_left (show 1 ≤ r by omega) (Int.le_of_lt (Dg k))
    have h3 := Hv hb k
    have h4 := Int.mul_le_mul_of_nonneg_left (show pB k ≤ vl b by omega) (Int.le_of_lt (Dg at_))
    rw [← E8] at h4
    have h5 := Gv hn
    omega
  · have : r = 0 := by omega
    rw [this, Int.mul_zero, Int.add_zero] at h1
    exact h1.symm
theorem school_in {o o2 b : List Int} {i k : Nat} {c c2 x t s : Int} (hj : i + k < o.length) (ho2 : o2 = o.set (i + k) s) (ht : o.getD (i + k) 0 = t) {V : Int}
    (hv : vl o + c * pB (i + k) = V + x * pB i * vk b k) (hs : s + 18446744073709551616 * c2 = t + x * b.getD k 0 + c) : vl o2 + c2 * pB (i + (k + 1)) = V + x * pB i * vk b (k + 1) := by
  subst ho2
  rw [G4 _ _ _ hj, ht, Cp, show i + (k + 1) = (i + k) + 1 by omega]
  simp only [pB]
  have hB : Bs = 18446744073709551616 := rfl
  have e1 : c2 * (Bs * pB (i + k)) = pB (i + k) * (18446744073709551616 * c2) := by rw [hB, ← Int.mul_assoc, Int.mul_comm (c2 * 18446744073709551616), Int.mul_comm c2]
  have e2 : x * pB i * (vk b k + pB k * b.getD k 0) = x * pB i * vk b k + pB (i + k) * (x * b.getD k 0) := by
    rw [Int.mul_add, E8]
    congr 1
    rw [Int.mul_assoc, Int.mul_left_comm (pB i * pB k), Int.mul_assoc (pB i)]
  have e3 : pB (i + k) * (s - t) + pB (i + k) * (18446744073709551616 * c2) = pB (i + k) * (x * b.getD k 0) + pB (i + k) * c := by
    rw [← Int.mul_add, ← Int.mul_add]; congr 1; omega
  rw [e1, e2]
  have e4 : c * pB (i + k) = pB (i + k) * c := Int.mul_comm _ _
  omega
theorem school_row {o o2 a b : List Int} {i : Nat} {c : Int} (hj : i + b.length < o.length) (h0 : o.getD (i + b.length) 0 = 0) (ho2 : o2 = o.set (i + b.length) c)
    (hv : vl o + c * pB (i + b.length) = vk a i * vl b + a.getD i 0 * pB i * vk b b.length) : vl o2 = vk a (i + 1) * vl b := by
  subst ho2
  rw [G4 _ _ _ hj, h0, Cp, Int.add_mul]
  rw [vk_all (Nat.le_refl _)] at hv
  have e : pB i * a.getD i 0 * vl b = a.getD i 0 * pB i * vl b := by rw [Int.mul_comm (pB i)]
  have e4 : c * pB (i + b.length) = pB (i + b.length) * c := Int.mul_comm _ _
  rw [e, Int.sub_zero]
  omega


theorem Fe (n : Nat) : Az (List.replicate n 0) := fun x hx => by rw [List.eq_of_mem_replicate hx]; exact ⟨by decide, by decide⟩
theorem I9 (n j : Nat) : (List.replicate n (0 : Int)).getD j 0 = 0 := by
  rw [List.getD_eq_getElem?_getD, List.getElem?_replicate]; split <;> rfl
theorem Rr {a b : List Int} (ha : Az a) (hb : Az b) : Az (a ++ b) := fun x hx => by
  rcases List.mem_append.1 hx with hx | hx
  · exact ha x hx
  · exact hb x hx
theorem F8 {a : List Int} (ha : Az a) (k : Nat) : Az (a.drop k) := fun x hx => ha x (List.mem_of_mem_drop hx)
theorem E6 {a : List Int} (ha : Az a) (k : Nat) : Az (a.take k) := fun x hx => ha x (List.mem_of_mem_take hx)
theorem Ul {q q2 b : List Int} {i at_ : Nat} {c c2 s V : Int} (hj : i < q.length) (hi : at_ ≤ i) (hq2 : q2 = q.set i s)
    (hv : vl q + c * pB i = V + pB at_ * vk b (i - at_)) (hs : s + 18446744073709551616 * c2 = q.getD i 0 + b.getD (i - at_) 0 + c) : vl q2 + c2 * pB (i + 1) = V + pB at_ * vk b (i + 1 - at_) := by
  subst hq2
  rw [G4 _ _ _ hj, show i + 1 - at_ = (i - at_) + 1 by omega, Cp]
  simp only [pB]
  have hB : Bs = 18446744073709551616 := rfl
  have e1 : c2 * (Bs * pB i) = pB i * (18446744073709551616 * c2) := by rw [hB, ← Int.mul_assoc, Int.mul_comm (c2 * 18446744073709551616), Int.mul_comm c2]
  have e2 : pB at_ * (vk b (i - at_) + pB (i - at_) * b.getD (i - at_) 0) = pB at_ * vk b (i - at_) + pB i * b.getD (i - at_) 0 := by
    rw [Int.mul_add, ← Int.mul_assoc, ← E8, show at_ + (i - at_) = i by omega]
  have e3 : pB i * (s - q.getD i 0) + pB i * (18446744073709551616 * c2) = pB i * b.getD (i - at_) 0 + pB i * c := by
    rw [← Int.mul_add, ← Int.mul_add]; congr 1; omega
  have e4 : c * pB i = pB i * c := Int.mul_comm _ _
  rw [e1, e2]
  omega
theorem Q5 {q r b : List Int} {i at_ n : Nat} {c : Int} (hq : Az q) (hr : Az r) (hb : Az b) (hc0 : 0 ≤ c) (hi : at_ ≤ i) (hfit : vl r + pB at_ * vl b < pB n) (h : n ≤ i ∨ (b.length ≤ i - at_ ∧ c ≤ 0))
    (hv : vl q + c * pB i = vl r + pB at_ * vk b (i - at_)) : vl q = vl r + pB at_ * vl b := by
  have hr0 := Bk hr
  have hq0 := Bk hq
  rcases h with h | ⟨h1, h2⟩
  · have e := Pd hb (at_ := at_) (k := i - at_) (n := n) (by omega) (by omega)
    rw [e] at hv
    have hp := Gv h
    rcases Int.lt_or_le 0 c with hc | hc
    · have := Int.mul_le_mul_of_nonneg_right (show 1 ≤ c by omega) (Int.le_of_lt (Dg i))
      omega
    · have : c = 0 := by omega
      rw [this, Int.zero_mul, Int.add_zero] at hv; exact hv
  · have : c = 0 := by omega
    rw [this, Int.zero_mul, Int.add_zero, vk_all h1] at hv; exact hv
theorem Yj {a b : List Int} {i : Nat} (h : i < a.length) : ((sbN a b i).1 ++ a.drop i).getD i 0 = a.getD i 0 := by
  rw [List.getD_eq_getElem?_getD, List.getElem?_append_right (by rw [C3]; exact Nat.le_refl _), C3, Nat.sub_self, List.getElem?_drop, Nat.add_zero, ← List.getD_eq_getElem?_getD]
theorem Vh {a b : List Int} {i : Nat} (h : i ≤ a.length) : ((sbN a b i).1 ++ a.drop i).length = a.length := by rw [List.length_append, C3, List.length_drop]; omega
theorem Rv {a b : List Int} {i : Nat} (h : i < a.length) : ((sbN a b i).1 ++ a.drop i).set ((0 + i) * 1) (if a.getD i 0 < b.getD i 0 + (sbN a b i).2 then a.getD i 0 - b.getD i 0 - (sbN a b i).2 + 18446744073709551616 else a.getD i 0 - b.getD i 0 - (sbN a b i).2) = (sbN a b (i + 1)).1 ++ a.drop (i + 1) := by
  rw [Nat.zero_add, Nat.mul_one, List.set_append_right _ _ (by rw [C3]; exact Nat.le_refl _), C3, Nat.sub_self, Fm h, List.set_cons_zero]
  simp only [sbN]
  rw [List.append_assoc]; rfl
theorem X0 {a b : List Int} (ha : Az a) (hb : Az b) (h : vl b ≤ vl a) : vl (sbN a b a.length).1 = vl a - vl b := by
  have hv := Ov a b a.length
  have hlt := E4 ha
  have e := Pd hb (at_ := 0) (k := a.length) (n := a.length) (by omega) (by simp only [pB, Int.one_mul]; omega)
  rw [vk_all (Nat.le_refl _), e] at hv
  have hc := R1 a b a.length
  have hs := E4 (R0 ha hb a.length)
  rw [C3] at hs
  rcases (show (sbN a b a.length).2 = 0 ∨ (sbN a b a.length).2 = 1 by omega) with h0 | h0
  · rw [h0, Int.mul_zero] at hv; omega
  · rw [h0, Int.mul_one] at hv; omega
theorem Pa {l : List Int} {F k : Nat} (hF : F < k) (hk : k ≤ l.length) (h : l.getD (k - 1) 0 = 0) : vl ((l.take (k - 1)).drop F) = vl ((l.take k).drop F) := by
  obtain ⟨j, rfl⟩ : ∃ j, k = j + 1 := ⟨k - 1, by omega⟩
  rw [Nat.add_sub_cancel] at h ⊢
  have e : l.take (j + 1) = l.take j ++ [l.getD j 0] := by
    rw [List.take_succ_eq_append_getElem (by omega), List.getD_eq_getElem?_getD, List.getElem?_eq_getElem (by omega)]; rfl
  rw [e, h, List.drop_append, Dm]
  have : F - (l.take j).length = 0 := by rw [List.length_take]; omega
  rw [this]
  simp [vl]
theorem Sh {l : List Int} {t : Nat} : l.take (min t l.length) = l.take t := by
  rcases Nat.le_total t l.length with h | h
  · rw [Nat.min_eq_left h]
  · rw [Nat.min_eq_right h, List.take_length, List.take_of_length_le h]
theorem Sa {l : List Int} {f t : Nat} (h : f ≤ t) : (l.take (min t l.length)).drop (min f l.length) = (l.take t).drop f := by
  rw [Sh]
  rcases Nat.le_total f l.length with h1 | h1
  · rw [Nat.min_eq_left h1]
  · rw [Nat.min_eq_right h1, List.drop_eq_nil_of_le (by rw [List.length_take]; omega), List.drop_eq_nil_of_le (by rw [List.length_take]; omega)]
theorem Ga {l : List Int} (k : Nat) : vl ((l.take k).drop 0) + pB k * vl ((l.take l.length).drop k) = vl l := by
  rw [List.drop_zero, List.take_length]
  by_cases h : k ≤ l.length
  · have := Dm (l.take k) (l.drop k)
    rw [List.take_append_drop, List.length_take, Nat.min_eq_left h] at this
    exact this.symm
  · rw [List.take_of_length_le (by omega), List.drop_eq_nil_of_le (by omega)]; simp [vl]
theorem Adj {al ah bl bh K A B lo hi mid : Int} (hA : al + K * ah = A) (hB : bl + K * bh = B) (hlo : lo = al * bl) (hhi : hi = ah * bh) (hmid : mid = (al + ah) * (bl + bh) - lo - hi) : lo + K * mid + (K * K) * hi = A * B := by
  subst hA; subst hB; subst hlo; subst hhi; subst hmid
  have e1 : (al + ah) * (bl + bh) = al * bl + al * bh + (ah * bl + ah * bh) := by rw [Int.add_mul, Int.mul_add, Int.mul_add]
  have e2 : (al + K * ah) * (bl + K * bh) = al * bl + K * (al * bh) + (K * (ah * bl) + K * K * (ah * bh)) := by
    rw [Int.add_mul, Int.mul_add, Int.mul_add]
    congr 1
    · congr 1; rw [Int.mul_left_comm]
    · congr 1
      · rw [Int.mul_assoc]
      · rw [Int.mul_assoc, Int.mul_left_comm ah, ← Int.mul_assoc]
  rw [e1, e2]
  have e3 : K * (al * bl + al * bh + (ah * bl + ah * bh) - al * bl - ah * bh) = K * (al * bh) + K * (ah * bl) := by
    rw [← Int.mul_add K]; congr 1; omega
  rw [e3]
  omega
theorem Wv {al ah bl bh : Int} (h1 : 0 ≤ al) (h2 : 0 ≤ ah) (h3 : 0 ≤ bl) (h4 : 0 ≤ bh) : al * bl ≤ (al + ah) * (bl + bh) ∧ ah * bh ≤ (al + ah) * (bl + bh) - al * bl := by
  have e1 : (al + ah) * (bl + bh) = al * bl + al * bh + (ah * bl + ah * bh) := by rw [Int.add_mul, Int.mul_add, Int.mul_add]
  have a1 := Int.mul_nonneg h1 h4
  have a2 := Int.mul_nonneg h2 h3
  have a3 := Int.mul_nonneg h2 h4
  omega
theorem N2 {a b : List Int} (ha : Az a) (hb : Az b) : vl a * vl b < pB (a.length + b.length) := by
  have h1 := E4 ha
  have h2 := E4 hb
  have h3 := Bk ha
  have h4 := Bk hb
  rw [E8]
  rcases Int.lt_or_le 0 (vl b) with h | h
  · have := Int.mul_lt_mul_of_pos_right h1 h
    have := Int.mul_le_mul_of_nonneg_left (Int.le_of_lt h2) (Int.le_of_lt (Dg a.length))
    omega
  · have : vl b = 0 := by omega
    rw [this, Int.mul_zero]; exact Int.mul_pos (Dg _) (Dg _)
theorem Zv {n : Nat} (h : n < 4611686018427387904) : IntKind.i64.wrap (Int.tdiv (n : Int) 2) = ((n / 2 : Nat) : Int) := by
  rw [Int.tdiv_eq_ediv_of_nonneg (by omega), Ag (by omega) (by omega)]; omega


def sv (s : Bool) (l : List Int) : Int := if s = true then -(vl l) else vl l
def Adm (l : List Int) : Prop := Az l ∧ l.length ≤ 1048576
theorem Aab {f n : Nat} (hf : 0 < f) (h : 0 < n) : 0 < bl f n := by
  obtain ⟨g, rfl⟩ : ∃ g, f = g + 1 := ⟨f - 1, by omega⟩
  simp only [bl]
  rw [if_neg (by omega)]; omega
theorem Zq {l : List Int} (hu : Az l) (h : Fi l ≤ 67108864) : (trm l).length ≤ 1048576 := by
  unfold Fi at h
  split at h
  · omega
  · rename_i h0
    have ht := H1 l (by intro e; rw [e] at h0; exact h0 rfl)
    have hb := Bq (Cb hu) ((trm l).length - 1)
    have := Aab (f := 64) (n := ((trm l).getD ((trm l).length - 1) 0).toNat) (by decide) (by omega)
    omega
theorem Vd (l : List Int) : trm (trm l) = trm l := Ka (H1 l)
theorem Ju (l : List Int) : Fi (trm l) = Fi l := by unfold Fi; rw [Vd]
theorem X1 {l : List Int} (hu : Az l) (ht : tpd l) (h : l ≠ []) : 0 < vl l := by
  have h1 := Aa4 hu ht h
  have h2 := Dg (l.length - 1)
  omega
theorem Rs {l : List Int} (hu : Az l) : (trm l).length = 0 ↔ vl l = 0 := by
  constructor
  · intro h
    rw [← E3, List.eq_nil_of_length_eq_zero h]; rfl
  · intro h
    rcases Nat.eq_zero_or_pos (trm l).length with h0 | h0
    · exact h0
    · have := X1 (Cb hu) (H1 l) (by intro e; rw [e] at h0; simp at h0)
      rw [E3] at this; omega
def Ad3 (x : Int) : Int := if x = 0 then 0 else if x < 0 then -1 else 1
def Gq (x y : Int) : Int := if x < y then -1 else if y < x then 1 else 0
theorem Uj {x y : Int} : Gq x y = 0 ↔ x = y := by unfold Gq; (repeat' split) <;> constructor <;> intro h <;> omega


def Ar (b n : Nat) : List Int := if h : n = 0 ∨ b < 2 then [] else ((n % b : Nat) : Int) :: Ar b (n / b)
termination_by n
decreasing_by exact Nat.div_lt_self (by omega) (by omega)
theorem Cu {b : Nat} : Ar b 0 = [] := by rw [Ar, dif_pos (.inl rfl)]
theorem Ck {b n : Nat} (hb : 2 ≤ b) (hn : n ≠ 0) : Ar b n = ((n % b : Nat) : Int) :: Ar b (n / b) := by rw [Ar, dif_neg (by omega)]
def vb (b : Nat) : List Int → Int
  | [] => 0
  | x :: l => x + (b : Int) * vb b l
def rng (b : Nat) (l : List Int) : Prop := ∀ x ∈ l, 0 ≤ x ∧ x < (b : Int)
theorem Fh {b : Nat} {x : Int} {l : List Int} (h : rng b (x :: l)) : rng b l := fun y hy => h y (List.mem_cons_of_mem _ hy)
theorem N3 : ∀ l, vb 18446744073709551616 l = vl l
  | [] => rfl
  | x :: l => by simp only [vb, vl, N3 l]; rfl
theorem Hx {b : Nat} : ∀ {l : List Int}, rng b l → 0 ≤ vb b l
  | [], _ => Int.le_refl _
  | x :: l, h => by
    have h1 := (h x (List.mem_cons_self ..)).1
    have h2 := Int.mul_nonneg (Int.natCast_nonneg b) (Hx (Fh h))
    simp only [vb]; omega
theorem Jh {x : Int} {l : List Int} (h : tpd (x :: l)) : tpd l := fun hne => by
  have := h (by simp)
  have hp : 0 < l.length := List.length_pos_iff.2 hne
  rw [List.length_cons, Nat.add_sub_cancel] at this
  obtain ⟨k, hk⟩ : ∃ k, l.length = k + 1 := ⟨l.length - 1, by omega⟩
  rw [hk] at this ⊢
  simpa using this
theorem Ve {x : Int} (h : tpd [x]) : x ≠ 0 := by simpa using h (by simp)
theorem L1 {b : Nat} (hb : 2 ≤ b) : ∀ {l : List Int}, rng b l → tpd l → Ar b (vb b l).toNat = l
  | [], _, _ => Cu
  | x :: t, h, ht => by
    have ih := L1 hb (Fh h) (Jh ht)
    have h1 := h x (List.mem_cons_self ..)
    have h2 := Hx (Fh h)
    obtain ⟨m, hm⟩ : ∃ m : Nat, vb b t = m := ⟨(vb b t).toNat, by omega⟩
    obtain ⟨y, hy⟩ : ∃ y : Nat, x = y := ⟨x.toNat, by omega⟩
    subst hy
    have e : (vb b ((y : Int) :: t)).toNat = y + b * m := by
      simp only [vb]; rw [hm, ← Int.natCast_mul]; omega
    have hyb : y < b := by omega
    rw [e]
    rw [hm] at ih
    rw [show ((m : Int)).toNat = m from rfl] at ih
    have hne : y + b * m ≠ 0 := by
      intro h0
      have hy0 : y = 0 := by omega
      have hm0 : b * m = 0 := by omega
      have hm1 : m = 0 := by
        rcases Nat.mul_eq_zero.1 hm0 with h | h
        · omega
        · exact h
      subst hm1
      rw [Cu] at ih
      subst ih
      exact Ve ht (by rw [hy0]; rfl)
    rw [Ck hb hne, Nat.add_mul_mod_self_left, Nat.mod_eq_of_lt hyb, Nat.add_mul_div_left _ _ (by omega), Nat.div_eq_of_lt hyb, Nat.zero_add, ih]
theorem Hy {b : Nat} (hb : 2 ≤ b) (n : Nat) : vb b (Ar b n) = n := by
  induction n using Nat.strongRecOn with
  | _ n ih =>
    by_cases h : n = 0
    · subst h; rw [Cu]; rfl
    · rw [Ck hb h]
      simp only [vb]
      rw [ih (n / b) (Nat.div_lt_self (by omega) (by omega)), ← Int.natCast_mul, ← Int.natCast_add, Nat.mod_add_div]
theorem Es {b : Nat} (hb : 2 ≤ b) (n : Nat) : rng b (Ar b n) := by
  induction n using Nat.strongRecOn with
  | _ n ih =>
    by_cases h : n = 0
    · subst h; rw [Cu]; intro x hx; simp at hx
    · rw [Ck hb h]
      intro x hx
      rcases List.mem_cons.1 hx with rfl | hx
      · have := Nat.mod_lt n (show 0 < b by omega); omega
      · exact ih (n / b) (Nat.div_lt_self (by omega) (by omega)) x hx
theorem Mb {b : Nat} (hb : 2 ≤ b) (n : Nat) : tpd (Ar b n) := by
  induction n using Nat.strongRecOn with
  | _ n ih =>
    by_cases h : n = 0
    · subst h; rw [Cu]; intro hx; simp at hx
    · rw [Ck hb h]
      intro _
      rw [List.length_cons, Nat.add_sub_cancel]
      by_cases h1 : n / b = 0
      · rw [h1, Cu]
        have : n < b := by
          rcases Nat.lt_or_ge n b with h2 | h2
          · exact h2
          · have := Nat.div_pos h2 (by omega); omega
        simp [Nat.mod_eq_of_lt this, h]
      · have h2 := ih (n / b) (Nat.div_lt_self (by omega) (by omega))
        have hne : Ar b (n / b) ≠ [] := by rw [Ck hb h1]; simp
        have h3 := h2 hne
        have hp : 0 < (Ar b (n / b)).length := List.length_pos_iff.2 hne
        obtain ⟨k, hk⟩ : ∃ k, (Ar b (n / b)).length = k + 1 := ⟨(Ar b (n / b)).length - 1, by omega⟩
        rw [hk] at h3 ⊢
        simpa using h3
theorem Adu {b : Nat} (hb : 2 ≤ b) {l : List Int} {n : Nat} (hr : rng b l) (ht : tpd l) (hv : vb b l = n) : l = Ar b n := by
  have := L1 hb hr ht
  rw [hv] at this
  exact this.symm
def Cg (n : Nat) : Nat := if n = 0 then 0 else n.log2 + 1
theorem B4 {n k : Nat} : Cg n ≤ k ↔ n < 2 ^ k := by
  unfold Cg
  split
  · rename_i h; subst h; exact ⟨fun _ => Nat.two_pow_pos k, fun _ => Nat.zero_le _⟩
  · rename_i h
    rw [← Nat.log2_lt h]
    omega
theorem Lu : Cg 0 = 0 := rfl
theorem Dx {n : Nat} (h : n ≠ 0) : 0 < Cg n := by unfold Cg; rw [if_neg h]; omega
theorem Nn {m n : Nat} (h : m ≤ n) : Cg m ≤ Cg n := B4.2 (Nat.lt_of_le_of_lt h (B4.1 (Nat.le_refl _)))
theorem Gf {w x m : Nat} (hx : x < 2 ^ w) (hm : m ≠ 0) : Cg (x + 2 ^ w * m) = w + Cg m := by
  refine Nat.le_antisymm (B4.2 ?_) ?_
  · have h1 : m < 2 ^ Cg m := B4.1 (Nat.le_refl _)
    rw [Nat.pow_add]
    have h2 : 2 ^ w * (m + 1) ≤ 2 ^ w * 2 ^ Cg m := Nat.mul_le_mul_left _ h1
    rw [Nat.mul_add, Nat.mul_one] at h2
    omega
  · rcases Nat.lt_or_ge (Cg (x + 2 ^ w * m)) (w + Cg m) with h | h
    · exfalso
      have hp := Dx hm
      have h1 : x + 2 ^ w * m < 2 ^ (w + (Cg m - 1)) := B4.1 (by omega)
      rw [Nat.pow_add] at h1
      have h2 : 2 ^ w * m < 2 ^ w * 2 ^ (Cg m - 1) := by omega
      have h3 := B4.2 (Nat.lt_of_mul_lt_mul_left h2)
      omega
    · exact h
theorem M9 : ∀ f n, n < 2 ^ f → bl f n = Cg n
  | 0, n, h => by
    have : n = 0 := by simpa using h
    subst this; rfl
  | f + 1, n, h => by
    simp only [bl]
    split
    · rename_i h0; rw [h0]; rfl
    · rename_i h0
      rw [M9 f (n / 2) (by rw [Nat.pow_succ] at h; omega)]
      by_cases h1 : n / 2 = 0
      · have : n = 1 := by omega
        subst this; rfl
      · have := Gf (w := 1) (x := n % 2) (m := n / 2) (by have := Nat.mod_lt n (show 0 < 2 by decide); simpa using this) h1
        rw [Nat.pow_one, Nat.mod_add_div] at this
        rw [this]
theorem Pe {x y : Nat} (hx : x ≠ 0) (hy : y ≠ 0) : Cg x + Cg y ≤ Cg (x * y) + 1 := by
  have h1 := Dx hx
  have h2 := Dx hy
  have h3 : 2 ^ (Cg x - 1) ≤ x := by
    rcases Nat.lt_or_ge x (2 ^ (Cg x - 1)) with h | h
    · have := B4.2 h; omega
    · exact h
  have h4 : 2 ^ (Cg y - 1) ≤ y := by
    rcases Nat.lt_or_ge y (2 ^ (Cg y - 1)) with h | h
    · have := B4.2 h; omega
    · exact h
  rcases Nat.lt_or_ge (Cg (x * y) + 1) (Cg x + Cg y) with h | h
  · exfalso
    have h5 : x * y < 2 ^ ((Cg x - 1) + (Cg y - 1)) := B4.1 (by omega)
    rw [Nat.pow_add] at h5
    have := Nat.mul_le_mul h3 h4
    omega
  · exact h
theorem Js {w : Nat} (hw : 1 ≤ w) : ∀ {l : List Int}, rng (2 ^ w) l → tpd l → l ≠ [] → w * (l.length - 1) + Cg (l.getD (l.length - 1) 0).toNat = Cg (vb (2 ^ w) l).toNat
  | [], _, _, h => absurd rfl h
  | [x], _, _, _ => by simp [vb]
  | x :: y :: t, h, ht, _ => by
    have ih := Js hw (Fh h) (Jh ht) (by simp)
    have h1 := h x (List.mem_cons_self ..)
    have h2 := Hx (Fh h)
    have hb2 : 2 ≤ 2 ^ w := by
      have := Nat.pow_le_pow_right (show 0 < 2 by decide) hw
      simpa using this
    have hc := L1 hb2 (Fh h) (Jh ht)
    obtain ⟨m, hm⟩ : ∃ m : Nat, vb (2 ^ w) (y :: t) = m := ⟨(vb (2 ^ w) (y :: t)).toNat, by omega⟩
    obtain ⟨q, hq⟩ : ∃ q : Nat, x = q := ⟨x.toNat, by omega⟩
    rw [hm] at ih hc
    rw [show ((m : Int)).toNat = m from rfl] at ih hc
    have hm0 : m ≠ 0 := by intro e; rw [e, Cu] at hc; simp at hc
    have e : (vb (2 ^ w) (x :: y :: t)).toNat = q + 2 ^ w * m := by
      show (x + ((2 ^ w : Nat) : Int) * vb (2 ^ w) (y :: t)).toNat = _
      rw [hm, hq, ← Int.natCast_mul]; omega
    rw [e, Gf (by omega) hm0, ← ih]
    simp only [List.length_cons, Nat.add_sub_cancel, List.getD_cons_succ]
    rw [Nat.mul_add, Nat.mul_one]
    omega
theorem Ld {l : List Int} (h : Az l) : rng 18446744073709551616 l := h
theorem Od (l : List Int) : ∃ k, l = trm l ++ List.replicate k 0 := by
  have : ∀ k, k ≤ l.length → l.take k = l.take (tN l k) ++ List.replicate (k - tN l k) 0 := by
    intro k
    induction k with
    | zero => intro _; simp [tN]
    | succ k ih =>
      intro hk
      have h1 := ih (by omega)
      have hle := Vf l k
      simp only [tN]
      split
      · rename_i h0
        rw [List.take_succ_eq_append_getElem (by omega), h1, List.append_assoc, show k + 1 - tN l k = (k - tN l k) + 1 by omega, List.replicate_succ']
        congr 2
        rw [List.getD_eq_getElem?_getD, List.getElem?_eq_getElem (by omega)] at h0
        rw [← h0]; rfl
      · simp
  have h := this l.length (Nat.le_refl _)
  rw [List.take_length] at h
  exact ⟨_, h⟩
theorem L9 (b : Nat) : ∀ (l : List Int) (k : Nat), vb b (l ++ List.replicate k 0) = vb b l
  | [], 0 => rfl
  | [], k + 1 => by
    rw [List.nil_append, List.replicate_succ]
    simp only [vb]
    have := L9 b [] k
    rw [List.nil_append] at this
    rw [this]; simp [vb]
  | x :: l, k => by simp only [List.cons_append, vb, L9 b l k]
theorem X3 (b : Nat) (l : List Int) : vb b (trm l) = vb b l := by
  obtain ⟨k, hk⟩ := Od l
  have := L9 b (trm l) k
  rw [← hk] at this
  exact this.symm
theorem Ox {b : Nat} {l : List Int} (h : rng b l) : rng b (trm l) := fun x hx => h x (List.mem_of_mem_take hx)
theorem Ef {b : Nat} (hb : 2 ≤ b) {l : List Int} {n : Nat} (h : rng b l) (hv : vb b l = n) : trm l = Ar b n := Adu hb (Ox h) (H1 l) (by rw [X3, hv])
def lm (v : Int) : List Int := Ar 18446744073709551616 v.natAbs
def dg (v : Int) : List Int := Ar 4294967296 v.natAbs
def Aq (v : Int) : Nat := Cg v.natAbs
theorem Gz (v : Int) : Az (lm v) := Es (by decide) _
theorem Aaz (v : Int) : tpd (lm v) := Mb (by decide) _
theorem T8 (v : Int) : vl (lm v) = v.natAbs := by rw [← N3]; exact Hy (by decide) _
theorem Ack (v : Int) : rng 4294967296 (dg v) := Es (by decide) _
theorem Abv (v : Int) : tpd (dg v) := Mb (by decide) _
theorem Acj (v : Int) : vb 4294967296 (dg v) = v.natAbs := Hy (by decide) _
theorem En {l : List Int} (h : Az l) : Fi l = Cg (vl l).toNat := by
  rw [← E3]
  unfold Fi
  split
  · rename_i h0; rw [List.eq_nil_of_length_eq_zero h0]; rfl
  · rename_i h0
    have h1 := Js (w := 64) (by decide) (Ox (Ld h)) (H1 l) (fun e => h0 (by rw [e]; rfl))
    rw [show (2 ^ 64 : Nat) = 18446744073709551616 by decide, N3] at h1
    rw [← h1, M9 64]
    have := Bq (Cb h) ((trm l).length - 1)
    omega
theorem Qp : ∀ {l : List Int}, Az l → rng 4294967296 (dig l)
  | [], _ => fun x hx => by simp [dig] at hx
  | y :: l, h => fun x hx => by
    have h1 := h y (List.mem_cons_self ..)
    have h2 := Qp (l := l) fun z hz => h z (List.mem_cons_of_mem _ hz)
    have e : dig (y :: l) = y % 4294967296 :: y / 4294967296 :: dig l := rfl
    rw [e] at hx
    rcases List.mem_cons.1 hx with rfl | hx
    · show 0 ≤ y % 4294967296 ∧ y % 4294967296 < ((4294967296 : Nat) : Int); omega
    · rcases List.mem_cons.1 hx with rfl | hx
      · show 0 ≤ y / 4294967296 ∧ y / 4294967296 < ((4294967296 : Nat) : Int); omega
      · exact h2 x hx
theorem Ti : ∀ l : List Int, vb 4294967296 (dig l) = vl l
  | [] => rfl
  | y :: l => by
    have e : dig (y :: l) = y % 4294967296 :: y / 4294967296 :: dig l := rfl
    rw [e]
    simp only [vb, vl]
    rw [Ti l]
    have : Bs = 18446744073709551616 := rfl
    rw [this]
    omega
theorem Oi {s : Bool} {l : List Int} (h : Az l) : ((sv s l).natAbs : Int) = vl l := by
  have := Bk h
  unfold sv; split <;> omega
theorem Ex {s : Bool} {l : List Int} {v : Int} (h : Az l) (hv : sv s l = v) : (s && decide (0 < ((trm l).length : Int))) = decide (v < 0) ∧ trm l = lm v ∧ Fi l = Aq v := by
  have ha := Oi (s := s) h
  rw [hv] at ha
  refine ⟨?_, ?_, ?_⟩
  · have h0 := Bk h
    have hz := Rs h
    unfold sv at hv
    cases s
    · simp at hv ⊢; omega
    · simp only [Bool.true_and, if_true] at hv ⊢
      rw [decide_eq_decide]
      constructor
      · intro h1
        have : vl l ≠ 0 := fun e => by have := hz.2 e; omega
        omega
      · intro h1
        have : (trm l).length ≠ 0 := fun e => by have := hz.1 e; omega
        omega
  · exact Ef (by decide) (Ld h) (by rw [N3, ← ha])
  · rw [En h]; unfold Aq; congr 1; omega
theorem Gs {s : Bool} {l : List Int} {v : Int} (h : Az l) (hv : sv s l = v) : trm (dig l) = dg v :=
  Ef (by decide) (Qp h) (by have ha := Oi (s := s) h; rw [Ti, ← ha, hv])
theorem Kv (n : Nat) : G9 (Ar 4294967296 n) = Ar 18446744073709551616 n := by
  induction n using Nat.strongRecOn with
  | _ n ih =>
    by_cases h : n = 0
    · subst h; rw [Cu, Cu]; rfl
    · rw [Ck (by decide) h, Ck (b := 18446744073709551616) (by decide) h]
      by_cases h1 : n / 4294967296 = 0
      · rw [h1, Cu, show n / 18446744073709551616 = 0 by omega, Cu]
        show [((n % 4294967296 : Nat) : Int)] = _
        rw [show n % 4294967296 = n % 18446744073709551616 by omega]
      · rw [Ck (by decide) h1]
        show IntKind.u64.wrap (((n % 4294967296 : Nat) : Int) + IntKind.u64.wrap (((n / 4294967296 % 4294967296 : Nat) : Int) * 4294967296)) :: G9 (Ar 4294967296 (n / 4294967296 / 4294967296)) = _
        rw [Nat.div_div_eq_div_mul, show 4294967296 * 4294967296 = 18446744073709551616 by decide, ih _ (Nat.div_lt_self (by omega) (by decide)), A5 (m := ((n / 4294967296 % 4294967296 : Nat) : Int) * 4294967296) (by omega) (by omega), A5 (by omega) (by omega)]
        congr 1
        omega
theorem Wq (v : Int) : G9 (dg v) = lm v := Kv _
theorem Jv (v : Int) (h : dg v ≠ []) : 32 * ((dg v).length - 1) + Cg ((dg v).getD ((dg v).length - 1) 0).toNat = Aq v := by
  have := Js (w := 32) (by decide) (Ack v) (Abv v) h
  rw [show (2 ^ 32 : Nat) = 4294967296 by decide, Acj] at this
  exact this
theorem Ja {v : Int} : dg v = [] ↔ v = 0 := by
  constructor
  · intro h; have := Acj v; rw [h] at this; simp only [vb] at this; omega
  · rintro rfl; exact Cu
theorem Gp {b : Nat} (hb : 2 ≤ b) : ∀ (k n : Nat), n < b ^ k → (Ar b n).length ≤ k
  | 0, n, h => by
    have : n = 0 := by simpa using h
    subst this; rw [Cu]; exact Nat.le_refl _
  | k + 1, n, h => by
    by_cases h0 : n = 0
    · subst h0; rw [Cu]; exact Nat.zero_le _
    · rw [Ck hb h0, List.length_cons]
      have := Gp hb k (n / b) (Nat.div_lt_of_lt_mul (by rw [Nat.mul_comm, ← Nat.pow_succ]; exact h))
      omega


def Ep (l : List Int) : List Int := 10855845 :: 10855845 :: (l ++ [10855845, 10855845])
def I1 (n i : Nat) : List Int := Ca (List.replicate i 10855845) n
theorem Ws {n : Nat} : List.replicate n (0 : Int) = I1 n 0 := by simp [I1, Ca]
theorem Ps {n i : Nat} (h : i ≤ n) : (I1 n i).length = n := Ed (by simpa using h)
theorem Pr {n i : Nat} (h : i < n) : (I1 n i).set ((0 + i) * 1) 10855845 = I1 n (i + 1) := by
  unfold I1
  have := Dz (l := List.replicate i 10855845) (n := n) (v := 10855845) (by simpa using h)
  rw [List.length_replicate] at this
  rw [Nat.zero_add, Nat.mul_one, this, ← List.replicate_succ']
def Ic (l : List Int) (i : Nat) : List Int := 10855845 :: 10855845 :: (l.take i ++ List.replicate (l.length + 2 - i) 10855845)
theorem Wr {l : List Int} : I1 (l.length + 4) (l.length + 4) = Ic l 0 := by
  unfold I1 Ic
  rw [Dh (by simp), List.take_zero, List.nil_append, Nat.sub_zero]
  rfl
theorem Pp {l : List Int} {i : Nat} (h : i ≤ l.length) : (Ic l i).length = l.length + 4 := by
  unfold Ic
  simp
  omega
theorem Po {l : List Int} {i : Nat} (h : i < l.length) : (Ic l i).set ((0 + (i + 2)) * 1) (l.getD i 0) = Ic l (i + 1) := by
  unfold Ic
  rw [Nat.zero_add, Nat.mul_one, List.set_cons_succ, List.set_cons_succ, List.set_append_right _ _ (by simp; omega)]
  congr 2
  rw [List.length_take, Nat.min_eq_left (by omega), Nat.sub_self]
  obtain ⟨k, hk⟩ : ∃ k, l.length + 2 - i = k + 1 := ⟨l.length + 1 - i, by omega⟩
  rw [hk, List.replicate_succ, List.set_cons_zero, show l.length + 2 - (i + 1) = k by omega, List.take_succ_eq_append_getElem h, List.append_assoc, List.getD_eq_getElem?_getD, List.getElem?_eq_getElem h]
  rfl
theorem Pq {l : List Int} : Ic l l.length = Ep l := by
  unfold Ic Ep
  rw [List.take_length, show l.length + 2 - l.length = 2 by omega]
  rfl
theorem He {l : List Int} : (Ep l).length = l.length + 4 := by simp [Ep]
theorem Rl {l : List Int} : ((Ep l).drop 2).take l.length = l := by
  unfold Ep
  rw [List.drop_succ_cons, List.drop_succ_cons, List.drop_zero, List.take_append_of_le_length (Nat.le_refl _), List.take_length]
theorem L5 {l : List Int} {k : Nat} (hk : k < l.length + 4) (h : k < 2 ∨ l.length + 2 ≤ k) : (Ep l).getD k 0 = 10855845 := by
  unfold Ep
  match k, h with
  | 0, _ => rfl
  | 1, _ => rfl
  | k + 2, h =>
    rw [List.getD_cons_succ, List.getD_cons_succ, List.getD_eq_getElem?_getD, List.getElem?_append_right (by omega)]
    obtain ⟨q, hq⟩ : ∃ q, k - l.length = q := ⟨_, rfl⟩
    rw [hq]
    match q, (show q < 2 by omega) with
    | 0, _ => rfl
    | 1, _ => rfl
theorem Uu {l : List Int} {k : Nat} (h1 : ¬ k < 2) (h2 : ¬ l.length + 2 ≤ k) : (Ep l).getD k 0 = l.getD (k - 2) 0 := by
  unfold Ep
  obtain ⟨q, rfl⟩ : ∃ q, k = q + 2 := ⟨k - 2, by omega⟩
  rw [List.getD_cons_succ, List.getD_cons_succ, Nat.add_sub_cancel, List.getD_eq_getElem?_getD, List.getElem?_append_left (by omega), List.getD_eq_getElem?_getD]
theorem No {m : Nat} (h : m ≠ 0) : Cg m = 1 + Cg (m / 2) := by
  by_cases h1 : m / 2 = 0
  · have : m = 1 := by omega
    subst this; rfl
  · have := Gf (w := 1) (x := m % 2) (m := m / 2) (by have := Nat.mod_lt m (show 0 < 2 by decide); simpa using this) h1
    rw [Nat.pow_one, Nat.mod_add_div] at this
    exact this
theorem M7 (v : Int) (i : Nat) : 0 ≤ (dg v).getD i 0 ∧ (dg v).getD i 0 < 4294967296 := by
  by_cases hi : i < (dg v).length
  · rw [List.getD_eq_getElem?_getD, List.getElem?_eq_getElem hi]; exact Ack v _ (List.getElem_mem hi)
  · rw [List.getD_eq_getElem?_getD, List.getElem?_eq_none (by omega)]; exact ⟨by decide, by decide⟩
theorem Wu (v : Int) : Aq v ≤ 32 * (dg v).length := by
  by_cases h : dg v = []
  · rw [Ja.1 h]; exact Nat.zero_le _
  · have h1 := Jv v h
    have h2 := M7 v ((dg v).length - 1)
    have h3 : Cg ((dg v).getD ((dg v).length - 1) 0).toNat ≤ 32 := B4.2 (by rw [show (2 ^ 32 : Nat) = 4294967296 by decide]; omega)
    have : 0 < (dg v).length := List.length_pos_iff.2 h
    omega
def Res (v : Int) (s : Bool) (r : List Int) (e : Int) : Prop := (Aq v ≤ 67108864 ∧ s = decide (v < 0) ∧ r = lm v ∧ e = 0) ∨ (67108864 < Aq v ∧ s = false ∧ r = [] ∧ e = 3)
theorem Ie {v : Int} (h : Aq v ≤ 67108864) : (dg v).length ≤ 2097152 := by
  by_cases h0 : dg v = []
  · rw [h0]; exact Nat.zero_le _
  · have h1 := Jv v h0
    have := Abv v h0
    have h2 := M7 v ((dg v).length - 1)
    have := Dx (n := ((dg v).getD ((dg v).length - 1) 0).toNat) (by omega)
    omega
theorem Cd {v : Int} (h : Aq v ≤ 67108864) : (lm v).length ≤ 1048576 := by
  have h1 := (Ex (s := decide (v < 0)) (v := v) (Gz v) (by unfold sv; rw [T8]; by_cases h : v < 0 <;> simp [h] <;> omega)).2
  have := Zq (Gz v) (by rw [h1.2]; exact h)
  rwa [h1.1] at this
theorem Res.len {v : Int} {s : Bool} {r : List Int} {e : Int} (h : Res v s r e) : r.length ≤ 1048576 := by
  rcases h with ⟨h1, _, rfl, _⟩ | ⟨_, _, rfl, _⟩
  · exact Cd h1
  · exact Nat.zero_le _


def Acs (x : Int) (r : List Int) (e : Int) : Prop := (e = 0 ∧ Adm r ∧ vl r = x) ∨ (e = 3 ∧ 67108864 < Aq x)
def Adx (v : Int) (s : Bool) (l : List Int) (e : Int) : Prop := (e = 0 ∧ Az l ∧ l.length < 1099511627776 ∧ sv s l = v) ∨ (e = 3 ∧ 67108864 < Aq v)
theorem Gi {l : List Int} {x : Int} (u : Az l) (hv : vl l = x) : Fi l = Aq x := by
  have := Bk u
  rw [En u, hv]; unfold Aq; congr 1; omega
theorem Nr {a b r : List Int} (ua : Az a) (ub : Az b) (h1 : 0 < Fi a) (h2 : 0 < Fi b) (h3 : 67108864 < Fi a + Fi b - 1) : Acs (vl a * vl b) r 3 := by
  refine .inr ⟨rfl, ?_⟩
  have ha := Bk ua
  have hb := Bk ub
  have ea := En ua
  have eb := En ub
  obtain ⟨x, hx⟩ : ∃ x : Nat, vl a = x := ⟨(vl a).toNat, by omega⟩
  obtain ⟨y, hy⟩ : ∃ y : Nat, vl b = y := ⟨(vl b).toNat, by omega⟩
  rw [hx] at ea
  rw [hy] at eb
  rw [show ((x : Int)).toNat = x from rfl] at ea
  rw [show ((y : Int)).toNat = y from rfl] at eb
  have hx0 : x ≠ 0 := fun e => by rw [e, Lu] at ea; omega
  have hy0 : y ≠ 0 := fun e => by rw [e, Lu] at eb; omega
  have := Pe hx0 hy0
  rw [hx, hy, ← Int.natCast_mul]
  unfold Aq
  rw [Int.natAbs_natCast]
  omega
theorem Yx {s : Bool} {l : List Int} {v : Int} (u : Az l) (hv : sv s l = v) (h : Fi l ≤ 67108864) : Res v (s && decide (0 < ((trm l).length : Int))) (trm l) 0 := by
  obtain ⟨h1, h2, h3⟩ := Ex u hv
  exact .inl ⟨by rwa [← h3], h1, h2, rfl⟩
theorem Vy {s : Bool} {l : List Int} {v : Int} (u : Az l) (hv : sv s l = v) (h : 67108864 < Fi l) : Res v false [] 3 := by
  obtain ⟨h1, h2, h3⟩ := Ex u hv
  exact .inr ⟨by rwa [← h3], rfl, rfl, rfl⟩
theorem Up {s : Bool} {l : List Int} (u : Az l) : (s && decide (trm (dig l) ≠ [])) = decide (sv s l < 0) := by
  rw [Gs (s := s) u rfl]
  have h0 := Bk u
  by_cases h : dg (sv s l) = []
  · rw [Ja.1 h]
    simp [dg, Cu]
  · have h1 : sv s l ≠ 0 := fun e => h (Ja.2 e)
    rw [decide_eq_true h, Bool.and_true]
    unfold sv at h1 ⊢
    cases s <;> simp at h1 ⊢ <;> omega

namespace D
def r32 (l : List Int) : Prop := ∀ x ∈ l, 0 ≤ x ∧ x < 4294967296
def Bs : Int := 4294967296
def vl : List Int → Int
  | [] => 0
  | x :: l => x + Bs * vl l
def pB : Nat → Int
  | 0 => 1
  | k + 1 => Bs * pB k
theorem Dg : ∀ k, 0 < pB k
  | 0 => by decide
  | k + 1 => by simp only [pB]; exact Int.mul_pos (by decide) (Dg k)
theorem E8 : ∀ a b, pB (a + b) = pB a * pB b
  | 0, b => by simp [pB]
  | a + 1, b => by rw [show a + 1 + b = (a + b) + 1 by omega]; simp only [pB]; rw [E8 a b, Int.mul_assoc]
theorem Dm : ∀ a b : List Int, vl (a ++ b) = vl a + pB a.length * vl b
  | [], b => by simp [vl, pB]
  | x :: a, b => by
    simp only [List.cons_append, vl, List.length_cons, pB]
    rw [Dm a b, Int.mul_add, Int.mul_assoc, Int.add_assoc]
theorem Bk : ∀ {l : List Int}, r32 l → 0 ≤ vl l
  | [], _ => Int.le_refl _
  | x :: l, h => by
    have h1 := (h x (List.mem_cons_self ..)).1
    have h2 := Bk (l := l) fun y hy => h y (List.mem_cons_of_mem _ hy)
    simp only [vl]
    have := Int.mul_nonneg (show (0 : Int) ≤ Bs by decide) h2
    omega
theorem E4 : ∀ {l : List Int}, r32 l → vl l < pB l.length
  | [], _ => by decide
  | x :: l, h => by
    have h1 := (h x (List.mem_cons_self ..)).2
    have h2 := E4 (l := l) fun y hy => h y (List.mem_cons_of_mem _ hy)
    simp only [vl, List.length_cons, pB]
    have h3 : vl l + 1 ≤ pB l.length := h2
    have h4 := Int.mul_le_mul_of_nonneg_left h3 (show (0 : Int) ≤ Bs by decide)
    rw [Int.mul_add, Int.mul_one] at h4
    have h5 : x < Bs := h1
    omega
def vk (l : List Int) (k : Nat) : Int := vl (l.take k)
theorem vk_0 (l : List Int) : vk l 0 = 0 := by unfold vk; simp [vl]
theorem vk_all {l : List Int} {k : Nat} (h : l.length ≤ k) : vk l k = vl l := by unfold vk; rw [List.take_of_length_le h]
theorem Cp (l : List Int) (k : Nat) : vk l (k + 1) = vk l k + pB k * l.getD k 0 := by
  unfold vk
  by_cases h : k < l.length
  · rw [List.take_succ_eq_append_getElem h, Dm, List.length_take, Nat.min_eq_left (by omega), List.getD_eq_getElem?_getD, List.getElem?_eq_getElem h]
    simp [vl]
  · rw [List.take_of_length_le (by omega), List.take_of_length_le (by omega), C5 (by omega)]
    simp
theorem G4 : ∀ (l : List Int) (j : Nat) (v : Int), j < l.length → vl (l.set j v) = vl l + pB j * (v - l.getD j 0)
  | [], j, v, h => by simp at h
  | x :: l, 0, v, _ => by
    have e : (x :: l).getD 0 0 = x := rfl
    simp only [List.set_cons_zero, vl, pB, e]; omega
  | x :: l, j + 1, v, h => by
    have ih := G4 l j v (by simpa using h)
    have e : (x :: l).getD (j + 1) 0 = l.getD j 0 := rfl
    simp only [List.set_cons_succ, vl, pB, e]
    rw [ih, Int.mul_add, Int.mul_assoc]; omega
theorem school_in {o o2 b : List Int} {i k : Nat} {c c2 x t s : Int} (hj : i + k < o.length) (ho2 : o2 = o.set (i + k) s) (ht : o.getD (i + k) 0 = t) {V : Int}
    (hv : vl o + c * pB (i + k) = V + x * pB i * vk b k) (hs : s + 4294967296 * c2 = t + x * b.getD k 0 + c) : vl o2 + c2 * pB (i + (k + 1)) = V + x * pB i * vk b (k + 1) := by
  subst ho2
  rw [G4 _ _ _ hj, ht, Cp, show i + (k + 1) = (i + k) + 1 by omega]
  simp only [pB]
  have hB : Bs = 4294967296 := rfl
  have e1 : c2 * (Bs * pB (i + k)) = pB (i + k) * (4294967296 * c2) := by rw [hB, ← Int.mul_assoc, Int.mul_comm (c2 * 4294967296), Int.mul_comm c2]
  have e2 : x * pB i * (vk b k + pB k * b.getD k 0) = x * pB i * vk b k + pB (i + k) * (x * b.getD k 0) := by
    rw [Int.mul_add, E8]
    congr 1
    rw [Int.mul_assoc, Int.mul_left_comm (pB i * pB k), Int.mul_assoc (pB i)]
  have e3 : pB (i + k) * (s - t) + pB (i + k) * (4294967296 * c2) = pB (i + k) * (x * b.getD k 0) + pB (i + k) * c := by
    rw [← Int.mul_add, ← Int.mul_add]; congr 1; omega
  rw [e1, e2]
  have e4 : c * pB (i + k) = pB (i + k) * c := Int.mul_comm _ _
  omega
theorem school_row {o o2 a b : List Int} {i : Nat} {c : Int} (hj : i + b.length < o.length) (h0 : o.getD (i + b.length) 0 = 0) (ho2 : o2 = o.set (i + b.length) c)
    (hv : vl o + c * pB (i + b.length) = vk a i * vl b + a.getD i 0 * pB i * vk b b.length) : vl o2 = vk a (i + 1) * vl b := by
  subst ho2
  rw [G4 _ _ _ hj, h0, Cp, Int.add_mul]
  rw [vk_all (Nat.le_refl _)] at hv
  have e : pB i * a.getD i 0 * vl b = a.getD i 0 * pB i * vl b := by rw [Int.mul_comm (pB i)]
  have e4 : c * pB (i + b.length) = pB (i + b.length) * c := Int.mul_comm _ _
  rw [e, Int.sub_zero]
  omega
end D
theorem X4 : ∀ l, vb 4294967296 l = D.vl l
  | [] => rfl
  | x :: l => by simp only [vb, D.vl, X4 l]; rfl
theorem Er {b : Nat} (hb : 0 < b) {l : List Int} (h : rng b l) (i : Nat) : 0 ≤ l.getD i 0 ∧ l.getD i 0 < (b : Int) := by
  by_cases hi : i < l.length
  · rw [List.getD_eq_getElem?_getD, List.getElem?_eq_getElem hi]; exact h _ (List.getElem_mem hi)
  · rw [List.getD_eq_getElem?_getD, List.getElem?_eq_none (by omega)]; exact ⟨Int.le_refl _, by show (0 : Int) < b; omega⟩
theorem Oy {b : Nat} {l : List Int} {j : Nat} {v : Int} (h : rng b l) (h0 : 0 ≤ v) (h1 : v < (b : Int)) : rng b (l.set j v) := fun x hx => by
  rcases List.mem_or_eq_of_mem_set hx with hx | hx
  · exact h x hx
  · subst hx; exact ⟨h0, h1⟩
theorem Io {b : Nat} (hb : 2 ≤ b) : ∀ (i n : Nat), (Ar b n).getD i 0 = ((n / b ^ i % b : Nat) : Int)
  | 0, n => by
    by_cases h : n = 0
    · subst h; rw [Cu]; simp
    · rw [Ck hb h]; simp
  | i + 1, n => by
    by_cases h : n = 0
    · subst h; rw [Cu]; simp
    · rw [Ck hb h, List.getD_cons_succ, Io hb i (n / b), Nat.div_div_eq_div_mul, Nat.pow_succ, Nat.mul_comm b]
theorem Gy {b : Nat} (hb : 2 ≤ b) (n : Nat) : n < b ^ (Ar b n).length := by
  induction n using Nat.strongRecOn with
  | _ n ih =>
    by_cases h : n = 0
    · subst h; rw [Cu]; simp
    · rw [Ck hb h, List.length_cons, Nat.pow_succ, Nat.mul_comm]
      have h1 := ih (n / b) (Nat.div_lt_self (by omega) (by omega))
      have h2 : b * (n / b + 1) ≤ b * b ^ (Ar b (n / b)).length := Nat.mul_le_mul_left _ h1
      have h3 := Nat.mod_lt n (show 0 < b by omega)
      have h4 := Nat.mod_add_div n b
      rw [Nat.mul_add, Nat.mul_one] at h2
      omega
abbrev B32 : Nat := 4294967296
def dgt (z j : Nat) : Int := ((z / B32 ^ j % B32 : Nat) : Int)
def dvl (z m : Nat) : List Int := (List.range m).map (dgt z)
theorem Ee (z m : Nat) : (dvl z m).length = m := by simp [dvl]
theorem M5 (z m : Nat) : dvl z (m + 1) = dvl z m ++ [dgt z m] := by simp [dvl, List.range_succ]
theorem Hw (b : Nat) : ∀ (l : List Int) (x : Int), vb b (l ++ [x]) = vb b l + ((b ^ l.length : Nat) : Int) * x
  | [], x => by simp [vb]
  | y :: l, x => by
    simp only [List.cons_append, vb, Hw b l x, List.length_cons]
    rw [Int.mul_add, Nat.pow_succ, Int.natCast_mul, Int.mul_comm ((b ^ l.length : Nat) : Int) (b : Int), Int.mul_assoc, Int.add_assoc]
theorem Th (z : Nat) : ∀ m, vb B32 (dvl z m) = ((z % B32 ^ m : Nat) : Int)
  | 0 => by simp [dvl, vb, Nat.mod_one]
  | m + 1 => by
    rw [M5, Hw, Th z m, Ee, Nat.mod_pow_succ]
    unfold dgt
    rw [Int.natCast_add, Int.natCast_mul]
theorem W9 (z j : Nat) : 0 ≤ dgt z j ∧ dgt z j < 4294967296 := by
  unfold dgt
  have := Nat.mod_lt (z / B32 ^ j) (show 0 < B32 by decide)
  have h : B32 = 4294967296 := rfl
  omega
theorem W6 (z m : Nat) : rng B32 (dvl z m) := fun x hx => by
  obtain ⟨j, _, rfl⟩ := List.mem_map.1 hx
  exact W9 z j
theorem Oc {z m : Nat} (h : z < B32 ^ m) : trm (dvl z m) = Ar B32 z := Ef (by decide) (W6 z m) (by rw [Th, Nat.mod_eq_of_lt h])
theorem M2 {z i n : Nat} (h : i < n) : (Ca (dvl z i) n).set ((0 + i) * 1) (dgt z i) = Ca (dvl z (i + 1)) n := by
  have := Dz (l := dvl z i) (n := n) (v := dgt z i) (by rw [Ee]; exact h)
  rw [Ee] at this
  rw [Nat.zero_add, Nat.mul_one, this, ← M5]
def cry (x y i : Nat) : Nat := (x % B32 ^ i + y % B32 ^ i) / B32 ^ i
theorem Uh (x y i : Nat) : cry x y i ≤ 1 := by
  unfold cry
  have h := Nat.pow_pos (n := i) (show 0 < B32 by decide)
  have h1 := Nat.mod_lt x h
  have h2 := Nat.mod_lt y h
  have : (x % B32 ^ i + y % B32 ^ i) / B32 ^ i < 2 := Nat.div_lt_of_lt_mul (by omega)
  omega
theorem Q6 (x y i : Nat) : (x / B32 ^ i % B32 + y / B32 ^ i % B32 + cry x y i) % B32 = (x + y) / B32 ^ i % B32 ∧ (x / B32 ^ i % B32 + y / B32 ^ i % B32 + cry x y i) / B32 = cry x y (i + 1) := by
  have h := Nat.pow_pos (n := i) (show 0 < B32 by decide)
  constructor
  · have e : (x + y) / B32 ^ i = cry x y i + (x / B32 ^ i + y / B32 ^ i) := by
      have h1 := Nat.mod_add_div x (B32 ^ i)
      have h2 := Nat.mod_add_div y (B32 ^ i)
      unfold cry
      rw [← Nat.add_mul_div_left _ _ h, Nat.mul_add]
      congr 1
      omega
    rw [e, Nat.add_comm (cry x y i), Nat.add_mod, Nat.add_mod (x / B32 ^ i + y / B32 ^ i), Nat.add_mod (x / B32 ^ i) (y / B32 ^ i)]
  · unfold cry
    rw [Nat.mod_pow_succ, Nat.mod_pow_succ, Nat.pow_succ, ← Nat.div_div_eq_div_mul]
    congr 1
    rw [show x % B32 ^ i + B32 ^ i * (x / B32 ^ i % B32) + (y % B32 ^ i + B32 ^ i * (y / B32 ^ i % B32)) = (x % B32 ^ i + y % B32 ^ i) + B32 ^ i * (x / B32 ^ i % B32 + y / B32 ^ i % B32) by rw [Nat.mul_add]; omega, Nat.add_mul_div_left _ _ h]
    omega
def brw (x y i : Nat) : Nat := if x % B32 ^ i < y % B32 ^ i then 1 else 0
theorem Uk (x y i : Nat) : brw x y i ≤ 1 := by unfold brw; split <;> omega
theorem Ok {x y : Nat} (hle : y ≤ x) (i : Nat) : (x / B32 ^ i % B32 + B32 - y / B32 ^ i % B32 - brw x y i) % B32 = (x - y) / B32 ^ i % B32 ∧ 1 - (x / B32 ^ i % B32 + B32 - y / B32 ^ i % B32 - brw x y i) / B32 = brw x y (i + 1) := by
  have h := Nat.pow_pos (n := i) (show 0 < B32 by decide)
  have hb := Uk x y i
  have m1 := Nat.mod_lt (x / B32 ^ i) (show 0 < B32 by decide)
  have m2 := Nat.mod_lt (y / B32 ^ i) (show 0 < B32 by decide)
  have B : B32 = 4294967296 := rfl
  constructor
  · have e : (x - y) / B32 ^ i = x / B32 ^ i - y / B32 ^ i - brw x y i ∧ y / B32 ^ i + brw x y i ≤ x / B32 ^ i := by
      have h1 := Nat.mod_add_div x (B32 ^ i)
      have h2 := Nat.mod_add_div y (B32 ^ i)
      have h3 := Nat.mod_lt x h
      have h4 := Nat.mod_lt y h
      generalize hX : x / B32 ^ i = X at *
      generalize hY : y / B32 ^ i = Y at *
      have hYX : Y ≤ X := by rw [← hX, ← hY]; exact Nat.div_le_div_right hle
      unfold brw
      clear hX hY m1 m2
      generalize x % B32 ^ i = p at *
      generalize y % B32 ^ i = q at *
      generalize B32 ^ i = P at *
      by_cases hc : p < q
      · rw [if_pos hc]
        have hlt : Y < X := by
          rcases Nat.lt_or_ge Y X with h5 | h5
          · exact h5
          · have : X = Y := by omega
            subst this; omega
        refine ⟨?_, by omega⟩
        have e2 : x - y = (p + P - q) + P * (X - Y - 1) := by
          obtain ⟨d, rfl⟩ : ∃ d, X = Y + 1 + d := ⟨X - Y - 1, by omega⟩
          rw [show Y + 1 + d - Y - 1 = d by omega]
          rw [Nat.mul_add, Nat.mul_add, Nat.mul_one] at h1
          omega
        rw [e2, Nat.add_mul_div_left _ _ h, Nat.div_eq_of_lt (by omega)]
        omega
      · rw [if_neg hc]
        refine ⟨?_, by omega⟩
        have e2 : x - y = (p - q) + P * (X - Y) := by
          obtain ⟨d, rfl⟩ : ∃ d, X = Y + d := ⟨X - Y, by omega⟩
          rw [show Y + d - Y = d by omega]
          rw [Nat.mul_add] at h1
          omega
        rw [e2, Nat.add_mul_div_left _ _ h, Nat.div_eq_of_lt (by omega)]
        omega
    obtain ⟨e1, e2⟩ := e
    rw [e1]
    generalize x / B32 ^ i = X at *
    generalize y / B32 ^ i = Y at *
    generalize brw x y i = c at *
    show (X % 4294967296 + 4294967296 - Y % 4294967296 - c) % 4294967296 = (X - Y - c) % 4294967296
    omega
  · have e1 := Nat.mod_pow_succ (x := x) (b := B32) (k := i)
    have e2 := Nat.mod_pow_succ (x := y) (b := B32) (k := i)
    have h3 := Nat.mod_lt x h
    have h4 := Nat.mod_lt y h
    have hA : x % B32 ^ (i + 1) < y % B32 ^ (i + 1) ↔ x / B32 ^ i % B32 < y / B32 ^ i % B32 + brw x y i := by
      rw [e1, e2]
      have hbr : brw x y i = if x % B32 ^ i < y % B32 ^ i then 1 else 0 := rfl
      generalize x / B32 ^ i % B32 = dx at *
      generalize y / B32 ^ i % B32 = dy at *
      generalize brw x y i = c at *
      generalize x % B32 ^ i = p at *
      generalize y % B32 ^ i = q at *
      generalize B32 ^ i = P at *
      rcases Nat.lt_trichotomy dx dy with hd | hd | hd
      · have h5 : P * (dx + 1) ≤ P * dy := Nat.mul_le_mul_left _ hd
        rw [Nat.mul_add, Nat.mul_one] at h5
        constructor
        · intro _; omega
        · intro _; omega
      · subst hd
        by_cases hc : p < q
        · rw [if_pos hc] at hbr; constructor
          · intro _; omega
          · intro _; omega
        · rw [if_neg hc] at hbr; constructor
          · intro _; omega
          · intro _; omega
      · have h5 : P * (dy + 1) ≤ P * dx := Nat.mul_le_mul_left _ hd
        rw [Nat.mul_add, Nat.mul_one] at h5
        constructor
        · intro _; omega
        · intro _; omega
    have hgo : brw x y (i + 1) = if x / B32 ^ i % B32 < y / B32 ^ i % B32 + brw x y i then 1 else 0 := by
      by_cases h : x / B32 ^ i % B32 < y / B32 ^ i % B32 + brw x y i
      · rw [if_pos h]; exact if_pos (hA.2 h)
      · rw [if_neg h]; exact if_neg (fun h' => h (hA.1 h'))
    rw [hgo]
    generalize x / B32 ^ i % B32 = dx at *
    generalize y / B32 ^ i % B32 = dy at *
    generalize brw x y i = c at *
    have m1' : dx < 4294967296 := m1
    have m2' : dy < 4294967296 := m2
    show 1 - (dx + 4294967296 - dy - c) / 4294967296 = _
    split <;> omega
theorem K5 {x y : Int} {a b : List Int} : ∀ k, Ip (x :: a) (y :: b) (k + 1) = if Ip a b k = 0 then (if x < y then -1 else if y < x then 1 else 0) else Ip a b k
  | 0 => by simp [Ip]
  | k + 1 => by
    have ih := K5 (x := x) (y := y) (a := a) (b := b) k
    have e1 : Ip (x :: a) (y :: b) (k + 1 + 1) = if a.getD k 0 < b.getD k 0 then -1 else if b.getD k 0 < a.getD k 0 then 1 else Ip (x :: a) (y :: b) (k + 1) := rfl
    have e2 : Ip a b (k + 1) = if a.getD k 0 < b.getD k 0 then -1 else if b.getD k 0 < a.getD k 0 then 1 else Ip a b k := rfl
    rw [e1, e2, ih]
    by_cases h1 : a.getD k 0 < b.getD k 0
    · rw [if_pos h1, if_pos h1, if_neg (by decide)]
    · rw [if_neg h1, if_neg h1]
      by_cases h2 : b.getD k 0 < a.getD k 0
      · rw [if_pos h2, if_pos h2, if_neg (by decide)]
      · rw [if_neg h2, if_neg h2]
theorem In {b : Nat} (hb : 2 ≤ b) (x : Nat) : ∀ y, x ≤ y → (Ar b x).length ≤ (Ar b y).length := by
  induction x using Nat.strongRecOn with
  | _ x ih =>
    intro y hxy
    by_cases h : x = 0
    · subst h; rw [Cu]; exact Nat.zero_le _
    · rw [Ck hb h, Ck hb (by omega : y ≠ 0), List.length_cons, List.length_cons]
      have := ih (x / b) (Nat.div_lt_self (by omega) (by omega)) (y / b) (Nat.div_le_div_right hxy)
      omega
theorem Qx {b : Nat} (hb : 2 ≤ b) (x : Nat) : ∀ y, (Ar b x).length = (Ar b y).length → Ip (Ar b x) (Ar b y) (Ar b x).length = Gq x y := by
  induction x using Nat.strongRecOn with
  | _ x ih =>
    intro y hl
    by_cases h : x = 0
    · subst h
      rw [Cu] at hl ⊢
      have hy : y = 0 := by
        rcases Nat.eq_zero_or_pos y with h | h
        · exact h
        · rw [Ck hb (by omega)] at hl; simp at hl
      subst hy; rfl
    · have hy : y ≠ 0 := by
        intro e; subst e
        rw [Cu, Ck hb h] at hl; simp at hl
      rw [Ck hb h, Ck hb hy] at hl ⊢
      have hl' : (Ar b (x / b)).length = (Ar b (y / b)).length := by simpa using hl
      rw [List.length_cons, K5, ih (x / b) (Nat.div_lt_self (by omega) (by omega)) (y / b) hl']
      have e1 := Nat.mod_add_div x b
      have e2 := Nat.mod_add_div y b
      have m1 := Nat.mod_lt x (show 0 < b by omega)
      have m2 := Nat.mod_lt y (show 0 < b by omega)
      generalize x / b = X at *
      generalize y / b = Y at *
      rcases Nat.lt_trichotomy X Y with hd | hd | hd
      · have h5 : b * (X + 1) ≤ b * Y := Nat.mul_le_mul_left _ hd
        rw [Nat.mul_add, Nat.mul_one] at h5
        have c1 : Gq X Y = -1 := if_pos (by omega)
        have c2 : Gq x y = -1 := if_pos (by omega)
        rw [c1, c2]; rfl
      · subst hd
        have c1 : Gq X X = 0 := Uj.2 rfl
        rw [c1, if_pos rfl]
        rcases Nat.lt_trichotomy (x % b) (y % b) with g1 | g1 | g1
        · have q1 : ((x % b : Nat) : Int) < ((y % b : Nat) : Int) := Int.ofNat_lt.2 g1
          have c2 : Gq x y = -1 := if_pos (by omega)
          rw [if_pos q1, c2]
        · have c2 : Gq x y = 0 := Uj.2 (by omega)
          rw [g1, if_neg (Int.lt_irrefl _), if_neg (Int.lt_irrefl _), c2]
        · have q1 : ((y % b : Nat) : Int) < ((x % b : Nat) : Int) := Int.ofNat_lt.2 g1
          have c2 : Gq x y = 1 := by
            have n1 : ¬ ((x : Nat) : Int) < y := by omega
            have n2 : ((y : Nat) : Int) < x := by omega
            unfold Gq; rw [if_neg n1, if_pos n2]
          rw [if_neg (Int.lt_asymm q1), if_pos q1, c2]
      · have h5 : b * (Y + 1) ≤ b * X := Nat.mul_le_mul_left _ hd
        rw [Nat.mul_add, Nat.mul_one] at h5
        have c1 : Gq X Y = 1 := by unfold Gq; rw [if_neg (by omega), if_pos (by omega)]
        have c2 : Gq x y = 1 := by unfold Gq; rw [if_neg (by omega), if_pos (by omega)]
        rw [c1, c2]; rfl
theorem Abw (x y : Nat) : cry x y 0 = 0 := by unfold cry; rw [Nat.pow_zero, Nat.mod_one, Nat.mod_one]
theorem Abx (x y : Nat) : brw x y 0 = 0 := by unfold brw; rw [Nat.pow_zero, Nat.mod_one, Nat.mod_one]; rfl
theorem K1 {z n : Nat} : List.replicate n (0 : Int) = Ca (dvl z 0) n := by simp [Ca, dvl]
theorem M1 {z i n : Nat} (h : i ≤ n) : (Ca (dvl z i) n).length = n := Ed (by rw [Ee]; exact h)
theorem Ht {z n : Nat} : Ca (dvl z n) n = dvl z n := Dh (Ee z n)
theorem Tm {x y n : Nat} (hx : (Ar B32 x).length ≤ n) (hy : (Ar B32 y).length ≤ n) : x + y < B32 ^ (n + 1) := by
  have h1 := Nat.lt_of_lt_of_le (Gy (b := B32) (by decide) x) (Nat.pow_le_pow_right (by decide) hx)
  have h2 := Nat.lt_of_lt_of_le (Gy (b := B32) (by decide) y) (Nat.pow_le_pow_right (by decide) hy)
  rw [Nat.pow_succ]
  have : 2 * B32 ^ n ≤ B32 ^ n * B32 := by rw [Nat.mul_comm]; exact Nat.mul_le_mul_left _ (by decide)
  omega
theorem Z4 {x y : Nat} : x - y < B32 ^ (Ar B32 x).length := Nat.lt_of_le_of_lt (Nat.sub_le x y) (Gy (by decide) x)
theorem Qy {b : Nat} (hb : 2 ≤ b) (x y : Nat) : Nw (Ar b x) (Ar b y) = Gq x y := by
  unfold Nw
  by_cases h1 : (Ar b x).length < (Ar b y).length
  · rw [if_pos h1]
    have : x < y := by
      rcases Nat.lt_or_ge x y with h | h
      · exact h
      · have := In hb y x h; omega
    exact (if_pos (by omega)).symm
  · rw [if_neg h1]
    by_cases h2 : (Ar b y).length < (Ar b x).length
    · rw [if_pos h2]
      have : y < x := by
        rcases Nat.lt_or_ge y x with h | h
        · exact h
        · have := In hb x y h; omega
      unfold Gq; rw [if_neg (by omega), if_pos (by omega)]
    · rw [if_neg h2]
      exact Qx hb x y (by omega)

def zs (s : Bool) (n : Nat) : Int := if s = true then -(n : Int) else n
theorem J5 {s : Bool} {n : Nat} : (zs s n).natAbs = n := by unfold zs; split <;> omega
theorem Abu {s : Bool} {n : Nat} : dg (zs s n) = Ar B32 n := by unfold dg; rw [J5]
theorem Jz {n : Nat} : Ar B32 n = [] ↔ n = 0 := by
  constructor
  · intro h
    rcases Nat.eq_zero_or_pos n with h0 | h0
    · exact h0
    · rw [Ck (by decide) (by omega)] at h; simp at h
  · rintro rfl; exact Cu
theorem Abm {s : Bool} {n : Nat} : (s && decide (Ar B32 n ≠ [])) = decide (zs s n < 0) := by
  have h := Jz (n := n)
  unfold zs
  by_cases h0 : n = 0
  · subst h0
    rw [h.2 rfl]; simp
  · have h1 : Ar B32 n ≠ [] := fun e => h0 (h.1 e)
    rw [decide_eq_true h1, Bool.and_true]
    cases s <;> simp <;> omega
theorem Nz {x y : Int} (h : (decide (x < 0) == decide (y < 0)) = true) : zs (decide (x < 0)) (x.natAbs + y.natAbs) = x + y := by
  have h : decide (x < 0) = decide (y < 0) := by simpa using h
  unfold zs
  by_cases hx : x < 0
  · have hy : y < 0 := of_decide_eq_true (h ▸ decide_eq_true hx)
    rw [if_pos (decide_eq_true hx)]; omega
  · have hy : ¬ y < 0 := of_decide_eq_false (h ▸ decide_eq_false hx)
    rw [if_neg (by rw [decide_eq_false hx]; decide)]; omega
theorem Us {x y : Int} (h : (decide (x < 0) == decide (y < 0)) = false) (hc : 0 ≤ Gq (x.natAbs : Int) y.natAbs) : zs (decide (x < 0)) (x.natAbs - y.natAbs) = x + y := by
  have h : ¬ decide (x < 0) = decide (y < 0) := by simpa using h
  have hle : y.natAbs ≤ x.natAbs := by
    rcases Nat.lt_or_ge x.natAbs y.natAbs with h1 | h1
    · have : Gq (x.natAbs : Int) y.natAbs = -1 := if_pos (by omega)
      omega
    · exact h1
  unfold zs
  by_cases hx : x < 0
  · have hy : ¬ y < 0 := fun hy => h (by rw [decide_eq_true hx, decide_eq_true hy])
    rw [if_pos (decide_eq_true hx)]; omega
  · have hy : y < 0 := Classical.byContradiction fun hy => h (by rw [decide_eq_false hx, decide_eq_false hy])
    rw [if_neg (by rw [decide_eq_false hx]; decide)]; omega
theorem Ur {x y : Int} (h : (decide (x < 0) == decide (y < 0)) = false) (hc : ¬ 0 ≤ Gq (x.natAbs : Int) y.natAbs) : zs (decide (y < 0)) (y.natAbs - x.natAbs) = x + y := by
  have h : ¬ decide (x < 0) = decide (y < 0) := by simpa using h
  have hle : x.natAbs < y.natAbs := by
    rcases Nat.lt_or_ge x.natAbs y.natAbs with h1 | h1
    · exact h1
    · exfalso; apply hc; unfold Gq; rw [if_neg (by omega)]; split <;> decide
  unfold zs
  by_cases hx : x < 0
  · have hy : ¬ y < 0 := fun hy => h (by rw [decide_eq_true hx, decide_eq_true hy])
    rw [if_neg (by rw [decide_eq_false hy]; decide)]; omega
  · have hy : y < 0 := Classical.byContradiction fun hy => h (by rw [decide_eq_false hx, decide_eq_false hy])
    rw [if_pos (decide_eq_true hy)]; omega
theorem Qs {x y : Nat} (hc : 0 ≤ Gq (x : Int) y) : y ≤ x := by
  rcases Nat.lt_or_ge x y with h1 | h1
  · have : Gq (x : Int) y = -1 := if_pos (by omega)
    omega
  · exact h1
theorem Z8 {x y : Nat} (hc : ¬ 0 ≤ Gq (x : Int) y) : x ≤ y := by
  rcases Nat.lt_or_ge x y with h1 | h1
  · omega
  · exfalso; apply hc; unfold Gq; rw [if_neg (by omega)]; split <;> decide
theorem Acu {x : Int} : zs (!decide (x < 0)) x.natAbs = -x := by
  unfold zs
  by_cases hx : x < 0
  · rw [decide_eq_true hx]; simp; omega
  · rw [decide_eq_false hx]; simp; omega
theorem Acv {x y : Int} : zs (!(decide (x < 0) == decide (y < 0))) (x.natAbs * y.natAbs) = x * y := by
  have e := Int.natAbs_mul x y
  rw [← e]
  unfold zs
  by_cases hx : x < 0
  · by_cases hy : y < 0
    · rw [decide_eq_true hx, decide_eq_true hy]
      have := Int.mul_pos_of_neg_of_neg hx hy
      simp; omega
    · rw [decide_eq_true hx, decide_eq_false hy]
      have := Int.mul_nonpos_of_nonpos_of_nonneg (Int.le_of_lt hx) (show 0 ≤ y by omega)
      simp; omega
  · by_cases hy : y < 0
    · rw [decide_eq_false hx, decide_eq_true hy]
      have := Int.mul_nonpos_of_nonneg_of_nonpos (show 0 ≤ x by omega) (Int.le_of_lt hy)
      simp; omega
    · rw [decide_eq_false hx, decide_eq_false hy]
      have := Int.mul_nonneg (show 0 ≤ x by omega) (show 0 ≤ y by omega)
      simp; omega
theorem J1 {v : Int} : ((dg v).length : Int) = 0 ↔ v = 0 := by
  constructor
  · intro h; exact Ja.1 (List.eq_nil_of_length_eq_zero (by omega))
  · intro h; rw [Ja.2 h]; rfl

theorem Dk : Tryd.prog.follows .mixedOrders = true := by kernel_rfl
theorem Bj : slB Tryd.prog 25 58 1 = true := by kernel_rfl
theorem Bm : Iw Tryd.prog 58 = true := by kernel_rfl
theorem N6 : Tryd.prog.underlying 25 = some (.slice 58) := by kernel_rfl
theorem Ns : elP Tryd.prog 25 58 1 8 (.int .u64 0) := M4 N6 (by kernel_rfl) rfl (by decide)
theorem Ac0 : Tryd.prog.underlying 9 = some .string := by kernel_rfl
theorem Ix : Tryd.prog.underlying 58 = some (.int .u64) := by kernel_rfl
theorem Aa9 : Tryd.prog.underlying 5 = some (.int .u8) := by kernel_rfl
theorem Ma : Tryd.prog.underlying 3 = some (.int .i64) := by kernel_rfl
theorem Cj : slB Tryd.prog 30 58 1 = true := by kernel_rfl
theorem Bd : ((Tryd.prog.info? 32).bind (·.zero)).map (·.cells.toList) = some [(.bool false), (.slice none 0 0)] := by kernel_rfl
theorem Km : R9 Tryd.prog 32 [0, 1] [(0, 1), (1, 1)] = true := by kernel_rfl
theorem A2 : (Tryd.prog.info? 32).any (·.size == 2) = true := by kernel_rfl
theorem A7 : Na Tryd.prog 32 2 = true := by kernel_rfl
theorem Fy : slB Tryd.prog 22 58 1 = true := by kernel_rfl
theorem X8 : Tryd.prog.underlying 30 = some (.slice 58) := by kernel_rfl
theorem Rk : elP Tryd.prog 30 58 1 8 (.int .u64 0) := M4 X8 (by kernel_rfl) rfl (by decide)
theorem X9 : Tryd.prog.underlying 22 = some (.slice 58) := by kernel_rfl
theorem W5 : elP Tryd.prog 22 58 1 8 (.int .u64 0) := M4 X9 (by kernel_rfl) rfl (by decide)
theorem C6 : Rj Tryd.prog 32 0 0 1 = true := by kernel_rfl
theorem Ez : Iw Tryd.prog 4 = true := by kernel_rfl
theorem Xs : Tryd.prog.underlying 4 = some .bool := by kernel_rfl
theorem Cr : Rj Tryd.prog 32 1 1 1 = true := by kernel_rfl
theorem D6 : Iw Tryd.prog 30 = true := by kernel_rfl
theorem By : ((Tryd.prog.info? 27).bind (·.zero)).map (·.cells.toList) = some [(.bool false), (.slice none 0 0)] := by kernel_rfl
theorem Cn : Rj Tryd.prog 27 1 1 1 = true := by kernel_rfl
theorem D2 : Iw Tryd.prog 25 = true := by kernel_rfl
theorem Cy : Rj Tryd.prog 27 0 0 1 = true := by kernel_rfl
theorem Dw : R9 Tryd.prog 27 [0, 1] [(0, 1), (1, 1)] = true := by kernel_rfl
theorem Cc : (Tryd.prog.info? 27).any (·.size == 2) = true := by kernel_rfl
theorem B3 : Na Tryd.prog 27 2 = true := by kernel_rfl
theorem Wa : R9 Tryd.prog 27 [1] [(1, 1)] = true := by kernel_rfl
theorem Uq : ((Tryd.prog.info? 94).bind (·.zero)).map (·.cells.toList) = some [.nilFunc, .nilFunc, .nilFunc, .nilFunc, .nilFunc] := by kernel_rfl
theorem Ym : (Tryd.prog.info? 94).any (·.size == 5) = true := by kernel_rfl
theorem Aaf : Na Tryd.prog 94 5 = true := by kernel_rfl
theorem U7 : Tryd.prog.underlying 94 = some (.array 5 93) := by kernel_rfl
theorem Zd : Iw Tryd.prog 93 = true := by kernel_rfl
theorem To : (Tryd.prog.info? 58).map (·.size) = some 1 := by kernel_rfl
theorem Ko : R9 Tryd.prog 27 [] [] = true := by kernel_rfl

theorem Vk : slB Tryd.prog 72 22 1 = true := by kernel_rfl
theorem Nm : Iw Tryd.prog 22 = true := by kernel_rfl
theorem Abc : (Tryd.prog.info? 22).any (·.size == 1) = true := by kernel_rfl
theorem Ly : Rj Tryd.prog 24 1 1 1 = true := by kernel_rfl
theorem Qi : Rj Tryd.prog 24 0 0 1 = true := by kernel_rfl

theorem N7 : Tryd.prog.underlying 78 = some (.int .u64) := by kernel_rfl



theorem Aac : arB Tryd.prog 89 5 64 1 = true := by kernel_rfl
theorem Add : Iw Tryd.prog 5 = true := by kernel_rfl

theorem Y4 : R9 Tryd.prog 32 [] [] = true := by kernel_rfl
theorem Aae : Na Tryd.prog 24 2 = true := by kernel_rfl
theorem X7 : Tryd.prog.underlying 72 = some (.slice 22) := by kernel_rfl
theorem Adq : elP Tryd.prog 72 22 1 24 (.slice none 0 0) := M4 X7 (by kernel_rfl) rfl (by decide)

theorem Ach {P : Program} {Γ : Ctx} {F : Fr} {H H' : List Ob} {Q : Exit → Fr → List Ob → Prop} {ops : Array Oper} {rest : List Oper} (h : H = H') (j : JO P ops rest Γ F H' Q) : JO P ops rest Γ F H Q := h ▸ j
def B0 (n : Nat) (L : Ob) (f : Nat → Ob) (J : List Ob) : List Ob := L :: ((List.range n).map f ++ J)
def upd (f : Nat → Ob) (i : Nat) (o : Ob) : Nat → Ob := fun j => if j = i then o else f j
section
variable {n : Nat} {L : Ob} {f : Nat → Ob} {J : List Ob}
theorem Yv {i : Nat} (h : i < n) : (B0 n L f J)[i + 1]? = some (f i) := by
  unfold B0
  rw [List.getElem?_cons_succ, List.getElem?_append_left (by simpa using h), List.getElem?_map, List.getElem?_range h]
  rfl
theorem Mi {i : Nat} {o : Ob} (h : i < n) : (B0 n L (upd f i o) J)[i + 1]? = some o := by rw [Yv h]; simp [upd]
theorem Yu {i : Nat} {o : Ob} (h : i < n) (e : f i = o) : (B0 n L f J)[i + 1]? = some o := by rw [Yv h, e]
theorem Tv {i : Nat} {o : Ob} (h : i < n) : (B0 n L f J).set (i + 1) o = B0 n L (upd f i o) J := by
  unfold B0
  rw [List.set_cons_succ, List.set_append_left _ _ (by simpa using h)]
  congr 2
  refine List.ext_getElem? fun k => ?_
  rw [List.getElem?_set]
  simp only [List.length_map, List.length_range, List.getElem?_map]
  by_cases e : i = k
  · subst e
    rw [if_pos rfl, if_pos h, List.getElem?_range h]
    simp [upd]
  · rw [if_neg e]
    by_cases hk : k < n
    · rw [List.getElem?_range hk]
      simp [upd, Ne.symm e]
    · rw [List.getElem?_eq_none (by simpa using hk)]
      rfl
theorem Vw {i : Nat} {o p : Ob} : upd (upd f i o) i p = upd f i p := by
  funext j
  unfold upd
  by_cases e : j = i <;> simp [e]
theorem Yw {K : List Ob} : B0 n L f J ++ K = B0 n L f (J ++ K) := by simp [B0]
theorem O0 : (B0 n L f J).length = n + 1 + J.length := by simp [B0]; omega
theorem Vx {o : Ob} : (B0 n L f (J ++ [o]))[n + 1 + J.length]? = some o := by
  unfold B0
  rw [show n + 1 + J.length = (n + J.length) + 1 by omega, List.getElem?_cons_succ, List.getElem?_append_right (by simp)]
  simp
theorem Tw (hL : ∀ y ∈ L.cs, idB (n + 1) y = true) (hf : ∀ j, j < n → ∀ y ∈ (f j).cs, idB (n + 1) y = true) : ObsId (n + 1) ((B0 n L f J).take (n + 1)) := by
  unfold B0
  rw [List.take_succ_cons, List.take_append_of_le_length (by simp), List.take_of_length_le (by simp)]
  intro o ho hl y hy
  rcases List.mem_cons.1 ho with rfl | ho
  · exact hL y hy
  · obtain ⟨j, hj, rfl⟩ := List.mem_map.1 ho
    exact hf j (List.mem_range.1 hj) y hy
theorem V3 {g : Nat → V} {i : Nat} (h : i < n) {y : V} (e : g i = y) : ((List.range n).map g)[(0 + i) * 1]? = some y := by
  rw [Nat.zero_add, Nat.mul_one, List.getElem?_map, List.getElem?_range h, ← e]
  rfl
theorem Mg {g : Nat → V} {i : Nat} {y : V} : ∀ (l : List Nat) (k : Nat), (∀ j, j < l.length → l[j]? = some (k + j)) → k ≤ i → E2 (l.map g) (i - k) [y] = l.map (fun j => if j = i then y else g j)
  | [], _, _, _ => by cases i <;> rfl
  | x :: l, k, h, hk => by
    have hx : x = k := by have := h 0 (by simp); simpa using this
    have hl : ∀ j, j < l.length → l[j]? = some (k + 1 + j) := fun j hj => by
      have := h (j + 1) (by simp; omega)
      simp only [List.getElem?_cons_succ] at this
      rw [this]; congr 1; omega
    subst hx
    by_cases e : x = i
    · subst e
      rw [Nat.sub_self]
      have hid : l.map (fun j => if j = x then y else g j) = l.map g := List.map_congr_left fun j hj => by
        obtain ⟨q, hq⟩ := List.getElem?_of_mem hj
        have hlt : q < l.length := (List.getElem?_eq_some_iff.1 hq).1
        have := hl q hlt
        rw [hq] at this
        injection this with this
        rw [if_neg (by omega)]
      rw [List.map_cons, List.map_cons, hid, if_pos rfl]
      show y :: E2 (l.map g) 0 [] = y :: l.map g
      cases l <;> rfl
    · obtain ⟨q, hq⟩ : ∃ q, i - x = q + 1 := ⟨i - x - 1, by omega⟩
      rw [List.map_cons, List.map_cons, hq, if_neg e]
      show g x :: E2 (l.map g) q [y] = g x :: _
      have := Mg (g := g) (i := i) (y := y) l (x + 1) hl (by omega)
      rw [show i - (x + 1) = q by omega] at this
      rw [this]
theorem Ni {g : Nat → V} {i : Nat} {y : V} : E2 ((List.range n).map g) ((0 + i) * 1) [y] = (List.range n).map (fun j => if j = i then y else g j) := by
  have := Mg (g := g) (i := i) (y := y) (List.range n) 0 (fun j hj => by rw [List.getElem?_range (by simpa using hj), Nat.zero_add]) (Nat.zero_le _)
  rw [Nat.sub_zero] at this
  rw [Nat.zero_add, Nat.mul_one, this]
end
def owC (j : Nat) : Int := ((j % 251 + 1 : Nat) : Int)
def owB (j : Nat) : List Int := [((300 + 5 * j : Nat) : Int), ((300 + 5 * j + 1 : Nat) : Int), ((300 + 5 * j + 2 : Nat) : Int), ((300 + 5 * j + 3 : Nat) : Int), ((300 + 5 * j + 4 : Nat) : Int)]
def owL (n : Nat) (rs : Nat → List Int) (i : Nat) : Ob := ⟨22, 1, 0, true, (List.range n).map fun j => if j < i then .o (j + 1) 1 0 ((rs j).length + 5) else .o (j + 1) 0 0 (rs j).length⟩
def Jp (n : Nat) (rs : Nat → List Int) : Ob := ⟨22, 1, 0, true, (List.range n).map fun j => .o (j + 1) 0 0 (rs j).length⟩
def owR (rs : Nat → List Int) (j : Nat) : Ob := ⟨58, 1, 0, true, ints .u64 (rs j)⟩
def owF (rs : Nat → List Int) (i j : Nat) : Ob := ⟨58, 1, 0, true, ints .u64 (if j < i then List.replicate (rs j).length (owC j) else rs j)⟩
def owK (rs : Nat → List Int) (i k : Nat) : Ob := ⟨58, 1, 0, true, ints .u64 (List.replicate k (owC i) ++ (rs i).drop k)⟩
def owE (rs : Nat → List Int) (j : Nat) : Ob := ⟨58, 1, 1, true, ints .u64 (List.replicate (rs j).length (owC j) ++ owB j)⟩
def owG (rs : Nat → List Int) (i j : Nat) : Ob := if j < i then owE rs j else ⟨58, 1, 0, true, ints .u64 (List.replicate (rs j).length (owC j))⟩
section
variable {n : Nat} {rs : Nat → List Int} {J : List Ob}
theorem Sb : B0 n (Jp n rs) (owR rs) J = B0 n (Jp n rs) (owF rs 0) J := rfl
theorem Abj {i : Nat} : B0 n (Jp n rs) (owF rs i) J = B0 n (Jp n rs) (upd (owF rs i) i (owK rs i 0)) J := by
  congr 1
  funext j
  unfold upd
  by_cases e : j = i
  · subst e; simp [owF, owK]
  · rw [if_neg e]
theorem Wc {i k : Nat} (hi : i < n) (hk : k < (rs i).length) : (B0 n (Jp n rs) (upd (owF rs i) i (owK rs i k)) J).set (i + 1) ⟨58, 1, 0, true, ints .u64 ((List.replicate k (owC i) ++ (rs i).drop k).set ((0 + k) * 1) (owC i))⟩ = B0 n (Jp n rs) (upd (owF rs i) i (owK rs i (k + 1))) J := by
  rw [Tv hi, Vw]
  congr 3
  show ints .u64 _ = ints .u64 _
  congr 1
  rw [Nat.zero_add, Nat.mul_one, List.set_append_right _ _ (by simp), List.length_replicate, Nat.sub_self, List.drop_eq_getElem_cons hk, List.set_cons_zero, List.replicate_succ', List.append_assoc]
  rfl
theorem Y8 {i k : Nat} (hk : ¬ k < (rs i).length) (hk2 : k ≤ (rs i).length) : B0 n (Jp n rs) (upd (owF rs i) i (owK rs i k)) J = B0 n (Jp n rs) (owF rs (i + 1)) J := by
  have e : k = (rs i).length := by omega
  subst e
  congr 1
  funext j
  unfold upd
  by_cases e : j = i
  · subst e
    rw [if_pos rfl]
    unfold owK owF
    rw [List.drop_length, List.append_nil, if_pos (Nat.lt_succ_self j)]
  · rw [if_neg e]
    unfold owF
    by_cases h : j < i
    · rw [if_pos h, if_pos (by omega)]
    · rw [if_neg h, if_neg (by omega)]
theorem Y7 {i : Nat} (hi : ¬ i < n) : B0 n (Jp n rs) (owF rs i) J = B0 n (owL n rs 0) (owG rs 0) J := by
  unfold B0
  congr 2
  · refine List.map_congr_left fun j hj => ?_
    have := List.mem_range.1 hj
    unfold owF owG
    rw [if_pos (by omega), if_neg (Nat.not_lt_zero j)]
theorem Sd {i : Nat} (hi : i < n) : (owL n rs i).cs[(0 + i) * 1]? = some (.o (i + 1) 0 0 (rs i).length) := V3 hi (if_neg (Nat.lt_irrefl i))
theorem Wd {i : Nat} (hi : i < n) : (B0 n (owL n rs i) (owG rs i) J)[i + 1]? = some ⟨58, 1, 0, true, ints .u64 (List.replicate (rs i).length (owC i))⟩ := Yu hi (if_neg (Nat.lt_irrefl i))
theorem Wf {i : Nat} (hi : i < n) : (B0 n (owL n rs i) (owG rs i) J).set (i + 1) ⟨58, 1, 0 + 1, true, ints .u64 (List.replicate (rs i).length (owC i)) ++ ints .u64 (owB i)⟩ = B0 n (owL n rs i) (upd (owG rs i) i (owE rs i)) J := by
  rw [Tv hi]
  congr 3
  simp [ints]
theorem We {i : Nat} (hi : i < n) : B0 n ⟨22, 1, 0, true, E2 (owL n rs i).cs ((0 + i) * 1) [.o (i + 1) 1 0 ((rs i).length + 5)]⟩ (upd (owG rs i) i (owE rs i)) J = B0 n (owL n rs (i + 1)) (owG rs (i + 1)) J := by
  congr 1
  · unfold owL
    rw [Ni]
    congr 1
    refine List.map_congr_left fun j _ => ?_
    by_cases e : j = i
    · subst e; rw [if_pos rfl, if_pos (Nat.lt_succ_self j)]
    · rw [if_neg e]
      by_cases h : j < i
      · rw [if_pos h, if_pos (by omega)]
      · rw [if_neg h, if_neg (by omega)]
  · funext j
    unfold upd owG
    by_cases e : j = i
    · subst e; rw [if_pos rfl, if_pos (Nat.lt_succ_self j)]
    · rw [if_neg e]
      by_cases h : j < i
      · rw [if_pos h, if_pos (by omega)]
      · rw [if_neg h, if_neg (by omega)]
theorem Sc {i m : Nat} (hi : i < n) (hm : ¬ m < n) : (owL n rs m).cs[(0 + i) * 1]? = some (.o (i + 1) 1 0 ((rs i).length + 5)) := V3 hi (if_pos (by omega))
theorem E9 {i m : Nat} (hi : i < n) (hm : ¬ m < n) : (B0 n (owL n rs m) (owG rs m) J)[i + 1]? = some (owE rs i) := Yu hi (if_pos (by omega))
theorem Y6 {i k : Nat} (hk : k < (rs i).length + 5) : (List.replicate (rs i).length (owC i) ++ owB i).getD ((0 + k) * 1) 0 = if k < (rs i).length then owC i else ((300 + 5 * i + (k - (rs i).length) : Nat) : Int) := by
  rw [Nat.zero_add, Nat.mul_one]
  by_cases h : k < (rs i).length
  · rw [if_pos h, List.getD_eq_getElem?_getD, List.getElem?_append_left (by simpa using h), List.getElem?_replicate, if_pos h]
    rfl
  · rw [if_neg h, List.getD_eq_getElem?_getD, List.getElem?_append_right (by simp; omega), List.length_replicate]
    obtain ⟨q, hq⟩ : ∃ q, k - (rs i).length = q := ⟨_, rfl⟩
    rw [hq]
    match q, (show q < 5 by omega) with
    | 0, _ => rfl
    | 1, _ => rfl
    | 2, _ => rfl
    | 3, _ => rfl
    | 4, _ => rfl
theorem Y9 {i : Nat} : (List.replicate (rs i).length (owC i) ++ owB i).length = (rs i).length + 5 := by simp [owB]
theorem Zb {m : Nat} : ObsId (B0 n (Jp n rs) (owR rs) []).length ((B0 n (owL n rs m) (owG rs m) J).take (B0 n (Jp n rs) (owR rs) []).length) := by
  rw [O0]
  refine Tw (fun y hy => ?_) fun j _ y hy => ?_
  · obtain ⟨j, hj, rfl⟩ := List.mem_map.1 hy
    have := List.mem_range.1 hj
    by_cases h : j < m
    · rw [if_pos h]; simp [idB]; omega
    · rw [if_neg h]; simp [idB]; omega
  · unfold owG owE at hy
    by_cases h : j < m
    · rw [if_pos h] at hy; exact List.all_eq_true.1 B2 y hy
    · rw [if_neg h] at hy; exact List.all_eq_true.1 B2 y hy
end

theorem Z7 {v : Int} {k : Nat} (h : v.natAbs < B32 ^ k) : (dg v).length ≤ k := Gp (by decide) k _ h
theorem Z6 (v : Int) : v.natAbs < B32 ^ (dg v).length := Gy (by decide) _
theorem Nv (x y : Int) : (dg (x + y)).length ≤ max (dg x).length (dg y).length + 1 := by
  refine Z7 (Nat.lt_of_le_of_lt (Int.natAbs_add_le x y) (Tm ?_ ?_))
  · exact Nat.le_max_left _ _
  · exact Nat.le_max_right _ _
theorem Z5 (x : Int) : dg (-x) = dg x := by unfold dg; rw [Int.natAbs_neg]
theorem Nu (x y : Int) : (dg (x - y)).length ≤ max (dg x).length (dg y).length + 1 := by
  have := Nv x (-y)
  rwa [Z5, ← Int.sub_eq_add_neg] at this
theorem Jb (x y : Int) : (dg (x * y)).length ≤ (dg x).length + (dg y).length := by
  refine Z7 ?_
  rw [Int.natAbs_mul, Nat.pow_add]
  have h1 := Z6 x
  have h2 := Z6 y
  exact Nat.mul_lt_mul_of_lt_of_le h1 (Nat.le_of_lt h2) (by omega)
section
variable {n : Nat} {rs : Nat → List Int}
theorem Za : ObsId (n + 1) (B0 n (Jp n rs) (owR rs) []) := by
  have h := Tw (n := n) (L := Jp n rs) (f := owR rs) (J := []) (fun y hy => by
    obtain ⟨j, hj, rfl⟩ := List.mem_map.1 hy
    have := List.mem_range.1 hj
    simp [idB]; omega) fun j _ y hy => List.all_eq_true.1 B2 y hy
  rwa [List.take_of_length_le (by rw [O0]; simp)] at h
theorem Se : Do (B0 n (Jp n rs) (owR rs) []) := by
  unfold B0
  rw [List.append_nil]
  intro o ho hl y hy
  rcases List.mem_cons.1 ho with rfl | ho
  · obtain ⟨j, hj, rfl⟩ := List.mem_map.1 hy
    rfl
  · obtain ⟨j, hj, rfl⟩ := List.mem_map.1 ho
    exact List.all_eq_true.1 Eb y hy
end
def Abf (l : List (List Int)) (j : Nat) : List Int := l.getD j []
theorem R3 {l : List (List Int)} {m : Nat} (h : ∀ r ∈ l, r.length < m) (h0 : 0 < m) (j : Nat) : (Abf l j).length < m := by
  unfold Abf
  rw [List.getD_eq_getElem?_getD]
  cases hj : l[j]? with
  | none => exact h0
  | some r => exact h r (List.mem_of_getElem? hj)

theorem Xc (k : Nat) : B32 ^ k = 2 ^ (32 * k) := by
  rw [Nat.pow_mul]
def Tz (x t : Nat) : Prop := 2 ^ t ∣ x ∧ x / 2 ^ t % 2 = 1
def inI (v : Int) : Prop := -9223372036854775808 ≤ v ∧ v < 9223372036854775808
instance (v : Int) : Decidable (inI v) := by unfold inI; infer_instance
def fl (v : Int) : List Int := if v = 0 then [] else [v]
theorem Sm {v : Int} (h : v.natAbs < 18446744073709551616) : lm v = fl ((v.natAbs : Nat) : Int) := by
  unfold lm fl
  by_cases h0 : v.natAbs = 0
  · rw [h0, Cu]; rfl
  · rw [Ck (by decide) h0, Nat.mod_eq_of_lt h, Nat.div_eq_of_lt h, Cu, if_neg (by omega)]


theorem Em (s : Nat) : (0 : Int) < 2 ^ s := Int.pow_pos (by decide)
theorem Gw {s : Nat} (h : s ≤ 64) : (2 : Int) ^ (64 - s) * 2 ^ s = 18446744073709551616 := by
  rw [← Int.pow_add, show 64 - s + s = 64 by omega]; rfl
theorem T2 {s : Nat} (h : s < 64) : (2 : Int) * 2 ^ (63 - s) = 2 ^ (64 - s) := by
  rw [show 64 - s = (63 - s) + 1 by omega, Int.pow_succ, Int.mul_comm]
theorem Acf {s : Nat} (h : s < 64) : (2 : Int) ^ s ≤ 9223372036854775808 := by
  have h1 : (2 : Nat) ^ s ≤ 2 ^ 63 := Nat.pow_le_pow_right (by decide) (by omega)
  have h2 : ((2 ^ s : Nat) : Int) ≤ ((2 ^ 63 : Nat) : Int) := Int.ofNat_le.2 h1
  rw [Int.natCast_pow] at h2
  simpa using h2
theorem Tp {s : Nat} (h : s ≤ 64) : min ((s : Int)).toNat 64 = s := by omega
theorem On {x : Int} {s : Nat} (h : s ≤ 64) : x.fdiv (2 ^ min ((s : Int)).toNat 64) = x / 2 ^ s := by
  rw [Tp h]; exact Int.fdiv_eq_ediv_of_nonneg _ (Int.le_of_lt (Em s))
theorem Li {x : Int} {s : Nat} (h : s ≤ 64) : IntKind.u64.wrap (x * 2 ^ min ((s : Int)).toNat 64) = x * 2 ^ s % 18446744073709551616 := by
  rw [Tp h]; exact Df
def loS (x : Int) (s : Nat) : Int := x * 2 ^ s % 18446744073709551616
def hiS (x : Int) (s : Nat) : Int := x / 2 ^ (64 - s)
theorem Pk {x : Int} {s : Nat} (h : s ≤ 64) : loS x s = 2 ^ s * (x % 2 ^ (64 - s)) := by
  unfold loS
  rw [← Gw h, Int.mul_comm x, Int.mul_comm (2 ^ (64 - s)) (2 ^ s), Int.mul_emod_mul_of_pos _ _ (Em s)]
theorem Adi {x : Int} {s : Nat} (h : s ≤ 64) : x * 2 ^ s = 18446744073709551616 * hiS x s + loS x s := by
  rw [Pk h, ← Gw h]
  unfold hiS
  have e := Int.emod_add_mul_ediv x (2 ^ (64 - s))
  generalize hk : x / 2 ^ (64 - s) = k at e ⊢
  generalize hr : x % 2 ^ (64 - s) = r at e ⊢
  rw [← e, Int.add_mul, Int.mul_comm r]
  rw [Int.mul_right_comm]
  omega
theorem Qa {x : Int} {s : Nat} (h : s ≤ 64) (h0 : 0 ≤ x) (h1 : x < 18446744073709551616) : 0 ≤ hiS x s ∧ hiS x s < 2 ^ s := by
  unfold hiS
  refine ⟨Int.ediv_nonneg h0 (Int.le_of_lt (Em _)), ?_⟩
  refine Int.ediv_lt_of_lt_mul (Em _) ?_
  rw [Int.mul_comm, Gw h]; exact h1
theorem Pm {x : Int} {s : Nat} : 0 ≤ loS x s ∧ loS x s < 18446744073709551616 := by unfold loS; omega
theorem Vl {x : Int} {s : Nat} (h : s < 64) : x / 2 / 2 ^ (63 - s) = hiS x s := by
  unfold hiS; rw [Int.ediv_ediv_of_nonneg (by decide), T2 h]
theorem Vn {x : Int} {s : Nat} (h : s < 64) : x * 2 % 18446744073709551616 * 2 ^ (63 - s) % 18446744073709551616 = loS x (64 - s) := by
  unfold loS
  rw [Int.mul_emod, Int.emod_emod, ← Int.mul_emod, Int.mul_assoc, T2 h]
theorem Zc {x y : Int} {k : Nat} (hx0 : 0 ≤ x) (hx : x < 2 ^ k) (hy0 : 0 ≤ y) (hy : 2 ^ k * y < 18446744073709551616) (hk : k ≤ 64) : Fc .or .u64 x (2 ^ k * y) = x + 2 ^ k * y := by
  obtain ⟨m, rfl⟩ := Int.eq_ofNat_of_zero_le hx0
  obtain ⟨n, rfl⟩ := Int.eq_ofNat_of_zero_le hy0
  have hp : ((2 ^ k : Nat) : Int) = (2 : Int) ^ k := by rw [Int.natCast_pow]; rfl
  rw [← hp] at hx hy ⊢
  rw [← Int.natCast_mul] at hy ⊢
  have hm : m < 2 ^ k := Int.ofNat_lt.1 hx
  have hn : 2 ^ k * n < 18446744073709551616 := by omega
  have hm2 : m < 18446744073709551616 := Nat.lt_of_lt_of_le hm (Nat.pow_le_pow_right (by decide) hk)
  unfold Fc
  simp only [IntKind.bits]
  have e1 : (BitVec.ofInt 64 (m : Int)).toNat = m := by rw [BitVec.toNat_ofInt]; simp; omega
  have e2 : (BitVec.ofInt 64 ((2 ^ k * n : Nat) : Int)).toNat = 2 ^ k * n := by
    generalize 2 ^ k * n = t at hn
    rw [BitVec.toNat_ofInt]; simp; omega
  have e3 : (BitVec.ofInt 64 (m : Int) ||| BitVec.ofInt 64 ((2 ^ k * n : Nat) : Int)).toNat = m + 2 ^ k * n := by
    rw [BitVec.toNat_or, e1, e2, Nat.or_comm, ← Nat.two_pow_add_eq_or_of_lt hm, Nat.add_comm]
  show IntKind.u64.wrap (((BitVec.ofInt 64 (m : Int) ||| BitVec.ofInt 64 ((2 ^ k * n : Nat) : Int)).toNat : Nat) : Int) = _
  rw [e3]
  have hs : m + 2 ^ k * n < 18446744073709551616 := by
    have := (BitVec.ofInt 64 (m : Int) ||| BitVec.ofInt 64 ((2 ^ k * n : Nat) : Int)).isLt
    rw [e3] at this; simpa using this
  generalize 2 ^ k * n = t at hs ⊢
  rw [A5 (by omega) (by omega)]
  omega
theorem Sf {c x : Int} {s : Nat} (h : s ≤ 64) (hc0 : 0 ≤ c) (hc : c < 2 ^ s) (hx0 : 0 ≤ x) : Fc .or .u64 c (loS x s) = c + loS x s ∧ c + loS x s < 18446744073709551616 := by
  have hb := @Pm x s
  rw [Pk h] at hb ⊢
  have hx : 0 ≤ x % 2 ^ (64 - s) := Int.emod_nonneg _ (Int.ne_of_gt (Em _))
  have hx2 : x % 2 ^ (64 - s) < 2 ^ (64 - s) := Int.emod_lt_of_pos _ (Em _)
  refine ⟨Zc hc0 hc hx hb.2 h, ?_⟩
  have e := Gw h
  have h3 : 2 ^ s * (x % 2 ^ (64 - s)) ≤ 2 ^ s * (2 ^ (64 - s) - 1) := Int.mul_le_mul_of_nonneg_left (by omega) (Int.le_of_lt (Em s))
  rw [Int.mul_sub, Int.mul_comm (2 ^ s) (2 ^ (64 - s)), e] at h3
  omega
def upN (a : List Int) (s : Nat) : Nat → List Int × Int
  | 0 => ([], 0)
  | i + 1 => ((upN a s i).1 ++ [(upN a s i).2 + loS (a.getD i 0) s], hiS (a.getD i 0) s)
theorem Ek (a : List Int) (s : Nat) : ∀ i, (upN a s i).1.length = i
  | 0 => rfl
  | i + 1 => by simp [upN, Ek a s i]
theorem U5 {a : List Int} {s : Nat} (hs : s ≤ 64) (ha : Az a) : ∀ i, 0 ≤ (upN a s i).2 ∧ (upN a s i).2 < 2 ^ s
  | 0 => ⟨Int.le_refl 0, Em s⟩
  | i + 1 => Qa hs (Bq ha i).1 (Bq ha i).2
theorem X6 {a : List Int} {s : Nat} (hs : s ≤ 64) (ha : Az a) : ∀ i, Az (upN a s i).1
  | 0 => fun x hx => by simp [upN] at hx
  | i + 1 => by
    have hc := U5 hs ha i
    have hl := @Pm (a.getD i 0) s
    exact Dv (X6 hs ha i) (by omega) (Sf hs hc.1 hc.2 (Bq ha i).1).2
theorem N5 {a : List Int} {s : Nat} (hs : s ≤ 64) : ∀ i, vl (upN a s i).1 + pB i * (upN a s i).2 = vk a i * 2 ^ s
  | 0 => by rw [vk_0]; simp [upN, vl]
  | i + 1 => by
    have h := N5 (a := a) hs i
    have e := Adi (x := a.getD i 0) hs
    rw [Cp, Int.add_mul, ← h]
    simp only [upN]
    rw [Dm, Ek, Int.mul_assoc (pB i) (a.getD i 0), e]
    simp only [vl, pB]
    have hB : Bs = 18446744073709551616 := rfl
    rw [hB]
    generalize (upN a s i).2 = c
    generalize loS (a.getD i 0) s = lo
    generalize hiS (a.getD i 0) s = hi
    generalize pB i = p
    have e1 : p * (18446744073709551616 * hi + lo) = 18446744073709551616 * p * hi + p * lo := by rw [Int.mul_add, ← Int.mul_assoc, Int.mul_comm p]
    have e2 : p * (c + lo + 18446744073709551616 * 0) = p * c + p * lo := by rw [Int.mul_zero, Int.add_zero, Int.mul_add]
    rw [e1, e2]
    omega
def upL (a : List Int) (s : Nat) : List Int := (upN a s a.length).1 ++ [(upN a s a.length).2]
theorem Aa8 {a : List Int} {s : Nat} (hs : s < 64) (ha : Az a) : Az (upL a s) := by
  have hc := U5 (Nat.le_of_lt hs) ha a.length
  have := Acf hs
  exact Dv (X6 (Nat.le_of_lt hs) ha _) hc.1 (by omega)
theorem U6 {a : List Int} {s : Nat} (hs : s ≤ 64) : vl (upL a s) = vl a * 2 ^ s := by
  unfold upL
  rw [Dm, Ek]
  have h := N5 (a := a) hs a.length
  rw [vk_all (Nat.le_refl _)] at h
  rw [← h]; simp [vl]
theorem Mf {l : List Int} {c v : Int} {n : Nat} : (Ca (l ++ [c]) n).set ((0 + l.length) * 1) v = Ca (l ++ [v]) n := by
  rw [Nat.zero_add, Nat.mul_one]
  unfold Ca
  rw [List.append_assoc, List.append_assoc, List.set_append_right _ _ (Nat.le_refl _), Nat.sub_self]
  simp
theorem Mz {l : List Int} {c : Int} {n : Nat} : (Ca (l ++ [c]) n).getD ((0 + l.length) * 1) 0 = c := by
  rw [Nat.zero_add, Nat.mul_one]
  unfold Ca
  rw [List.append_assoc, List.getD_eq_getElem?_getD, List.getElem?_append_right (Nat.le_refl _), Nat.sub_self]
  simp
def upR (a : List Int) (s i : Nat) : List Int := Ca ((upN a s i).1 ++ [(upN a s i).2]) (a.length + 1)
theorem U3 {a : List Int} {s i : Nat} (h : i ≤ a.length) : (upR a s i).length = a.length + 1 := Ed (by simp [Ek]; omega)
theorem Aa7 {a : List Int} {s : Nat} : List.replicate (a.length + 1) (0 : Int) = upR a s 0 := by
  unfold upR Ca; simp [upN, List.replicate_succ]
theorem U4 {a : List Int} {s i : Nat} : (upR a s i).getD ((0 + i) * 1) 0 = (upN a s i).2 := by
  have h := @Mz (upN a s i).1 (upN a s i).2 (a.length + 1)
  rw [Ek] at h; exact h
theorem U2 {a : List Int} {s i : Nat} (h : i < a.length) : ((upR a s i).set ((0 + i) * 1) ((upN a s i).2 + loS (a.getD i 0) s)).set ((0 + (i + 1)) * 1) (hiS (a.getD i 0) s) = upR a s (i + 1) := by
  have h1 := @Mf (upN a s i).1 (upN a s i).2 ((upN a s i).2 + loS (a.getD i 0) s) (a.length + 1)
  rw [Ek] at h1
  unfold upR
  rw [h1]
  have hl : (upN a s (i + 1)).1.length = i + 1 := Ek a s (i + 1)
  have h2 := @Dz (upN a s (i + 1)).1 (a.length + 1) (hiS (a.getD i 0) s) (by omega)
  rw [hl] at h2
  rw [Nat.zero_add, Nat.mul_one]
  exact h2
theorem N4 {a : List Int} {s : Nat} : upR a s a.length = upL a s := Dh (by simp [Ek])
def dnD (a : List Int) (s i : Nat) : Int := a.getD i 0 / 2 ^ s + loS (a.getD (i + 1) 0) (64 - s)
def dnN (a : List Int) (s : Nat) : Nat → List Int
  | 0 => []
  | i + 1 => dnN a s i ++ [dnD a s i]
theorem F7 (a : List Int) (s : Nat) : ∀ i, (dnN a s i).length = i
  | 0 => rfl
  | i + 1 => by simp [dnN, F7 a s i]
theorem Yl {x : Int} {s : Nat} (h : s ≤ 64) (h0 : 0 ≤ x) (h1 : x < 18446744073709551616) : 0 ≤ x / 2 ^ s ∧ x / 2 ^ s < 2 ^ (64 - s) := by
  have := Qa (x := x) (s := 64 - s) (by omega) h0 h1
  unfold hiS at this
  rwa [show 64 - (64 - s) = s by omega] at this
theorem Z2 {x y : Int} {s : Nat} (h : s ≤ 64) (h0 : 0 ≤ x) (h1 : x < 18446744073709551616) (hy : 0 ≤ y) : Fc .or .u64 (x / 2 ^ s) (loS y (64 - s)) = x / 2 ^ s + loS y (64 - s) ∧ x / 2 ^ s + loS y (64 - s) < 18446744073709551616 := by
  have hb := Yl h h0 h1
  exact Sf (by omega) hb.1 hb.2 hy
theorem Ug {a : List Int} {s i : Nat} (h : s ≤ 64) (ha : Az a) : 0 ≤ dnD a s i ∧ dnD a s i < 18446744073709551616 := by
  have hx := Bq ha i
  have hb := Yl h hx.1 hx.2
  have hl := @Pm (a.getD (i + 1) 0) (64 - s)
  exact ⟨by unfold dnD; omega, (Z2 h hx.1 hx.2 (Bq ha (i + 1)).1).2⟩
theorem Qm {a : List Int} {s : Nat} (hs : s ≤ 64) (ha : Az a) : ∀ i, Az (dnN a s i)
  | 0 => fun x hx => by simp [dnN] at hx
  | i + 1 => Dv (Qm hs ha i) (Ug hs ha).1 (Ug hs ha).2
theorem W8 {a : List Int} {s i : Nat} (hs : s ≤ 64) : 2 ^ s * dnD a s i = a.getD i 0 - a.getD i 0 % 2 ^ s + 18446744073709551616 * (a.getD (i + 1) 0 % 2 ^ s) := by
  unfold dnD
  rw [Pk (show 64 - s ≤ 64 by omega), show 64 - (64 - s) = s by omega]
  have e := Int.emod_add_mul_ediv (a.getD i 0) (2 ^ s)
  rw [Int.mul_add, ← Int.mul_assoc, Int.mul_comm (2 ^ s) (2 ^ (64 - s)), Gw hs]
  omega
theorem Lz {a : List Int} {s : Nat} (hs : s ≤ 64) : ∀ i, 2 ^ s * vl (dnN a s i) = vk a i - a.getD 0 0 % 2 ^ s + pB i * (a.getD i 0 % 2 ^ s)
  | 0 => by rw [vk_0]; simp [dnN, vl, pB]; omega
  | i + 1 => by
    have h := Lz (a := a) hs i
    have e := W8 (a := a) (i := i) hs
    rw [Cp]
    simp only [dnN]
    rw [Dm, F7, Int.mul_add, h, Int.mul_left_comm]
    have : vl [dnD a s i] = dnD a s i := by simp [vl]
    rw [this, e, Int.mul_add, Int.mul_sub]
    simp only [pB]
    have hB : Bs = 18446744073709551616 := rfl
    rw [hB, ← Int.mul_assoc (pB i), Int.mul_comm (pB i) 18446744073709551616]
    omega
theorem Wo {a : List Int} {s : Nat} (hs : s ≤ 64) {x : Int} (h : vl a = 2 ^ s * x) : a.getD 0 0 % 2 ^ s = 0 := by
  cases a with
  | nil => simp
  | cons y l =>
    simp only [vl] at h
    show y % 2 ^ s = 0
    have hB : Bs = 2 ^ s * 2 ^ (64 - s) := by rw [Int.mul_comm, Gw hs]; rfl
    rw [hB, Int.mul_assoc] at h
    have : y = 2 ^ s * (x - 2 ^ (64 - s) * vl l) := by rw [Int.mul_sub]; omega
    rw [this, Int.mul_emod_right]
theorem Z3 {a : List Int} {s : Nat} (hs : s ≤ 64) {x : Int} (h : vl a = 2 ^ s * x) : vl (dnN a s a.length) = x := by
  have h1 := Lz (a := a) hs a.length
  rw [Wo hs h, vk_all (Nat.le_refl _), C5 (Nat.le_refl _), Int.zero_emod, Int.mul_zero, h] at h1
  exact Int.eq_of_mul_eq_mul_left (Int.ne_of_gt (Em s)) (by omega)


def rwJ (U : List Int) (j : Nat) (l : List Int) : List Int := U.take j ++ (l ++ U.drop (j + l.length))
def slJ (U : List Int) (j n : Nat) : List Int := (U.drop j).take n
def msS (u v : List Int) (q : Int) (i : Nat) (c : Int) : Int := (v.getD i 0 * q % 18446744073709551616 + c) % 18446744073709551616
def msC (v : List Int) (q : Int) (i : Nat) (c : Int) : Int := v.getD i 0 * q / 18446744073709551616 + (v.getD i 0 * q % 18446744073709551616 + c) / 18446744073709551616
def sbD (u s b : Int) : Int := if u < s + b then u - s - b + 18446744073709551616 else u - s - b
def sbB (u s b : Int) : Int := if u < s + b then 1 else 0
theorem Yr (u s b : Int) : sbD u s b = u - s - b + 18446744073709551616 * sbB u s b := by unfold sbD sbB; split <;> omega
theorem Tt (u s b : Int) : 0 ≤ sbB u s b ∧ sbB u s b ≤ 1 := by unfold sbB; split <;> omega
theorem Ts {u s b : Int} (hu0 : 0 ≤ u) (hu : u < 18446744073709551616) (hs0 : 0 ≤ s) (hs : s < 18446744073709551616) (hb0 : 0 ≤ b) (hb : b ≤ 1) : 0 ≤ sbD u s b ∧ sbD u s b < 18446744073709551616 := by unfold sbD; split <;> omega
def msN (u v : List Int) (q : Int) : Nat → List Int × Int × Int
  | 0 => ([], 0, 0)
  | i + 1 => ((msN u v q i).1 ++ [sbD (u.getD i 0) (msS u v q i (msN u v q i).2.1) (msN u v q i).2.2], msC v q i (msN u v q i).2.1, sbB (u.getD i 0) (msS u v q i (msN u v q i).2.1) (msN u v q i).2.2)
theorem Jq (u v : List Int) (q : Int) : ∀ i, (msN u v q i).1.length = i
  | 0 => rfl
  | i + 1 => by simp [msN, Jq u v q i]
theorem T5 {x y : Int} (hx0 : 0 ≤ x) (hx : x < 18446744073709551616) (hy0 : 0 ≤ y) (hy : y < 18446744073709551616) : 0 ≤ x * y ∧ x * y ≤ 340282366920938463426481119284349108225 := by
  have := Ia (m := 18446744073709551615) hx0 hy0 (by omega) (by omega)
  exact this
theorem Zg {u v : List Int} {q : Int} (hv : Az v) (hq0 : 0 ≤ q) (hq : q < 18446744073709551616) : ∀ i, 0 ≤ (msN u v q i).2.1 ∧ (msN u v q i).2.1 < 18446744073709551616
  | 0 => by simp [msN]
  | i + 1 => by
    have h := Zg (u := u) hv hq0 hq i
    have hx := Bq hv i
    have hp := T5 hx.1 hx.2 hq0 hq
    show 0 ≤ msC v q i (msN u v q i).2.1 ∧ msC v q i (msN u v q i).2.1 < _
    unfold msC
    generalize v.getD i 0 * q = P at hp ⊢
    generalize (msN u v q i).2.1 = c at h ⊢
    omega
theorem Zh (u v : List Int) (q : Int) : ∀ i, 0 ≤ (msN u v q i).2.2 ∧ (msN u v q i).2.2 ≤ 1
  | 0 => by simp [msN]
  | i + 1 => Tt _ _ _
theorem Zf {u v : List Int} {q : Int} (hu : Az u) (hv : Az v) (hq0 : 0 ≤ q) (hq : q < 18446744073709551616) : ∀ i, Az (msN u v q i).1
  | 0 => fun x hx => by simp [msN] at hx
  | i + 1 => by
    have hx := Bq hu i
    have hb := Zh u v q i
    have h := Ts hx.1 hx.2 (s := msS u v q i (msN u v q i).2.1) (b := (msN u v q i).2.2) (by unfold msS; omega) (by unfold msS; omega) hb.1 hb.2
    exact Dv (Zf hu hv hq0 hq i) h.1 h.2
theorem Ph (u v : List Int) (q : Int) : ∀ i, vl (msN u v q i).1 = vk u i - q * vk v i + pB i * ((msN u v q i).2.1 + (msN u v q i).2.2)
  | 0 => by rw [vk_0, vk_0]; simp [msN, vl]
  | i + 1 => by
    have h := Ph u v q i
    rw [Cp, Cp]
    simp only [msN]
    rw [Dm, Jq, h, Yr]
    have e1 : vl [u.getD i 0 - msS u v q i (msN u v q i).2.1 - (msN u v q i).2.2 + 18446744073709551616 * sbB (u.getD i 0) (msS u v q i (msN u v q i).2.1) (msN u v q i).2.2] = u.getD i 0 - msS u v q i (msN u v q i).2.1 - (msN u v q i).2.2 + 18446744073709551616 * sbB (u.getD i 0) (msS u v q i (msN u v q i).2.1) (msN u v q i).2.2 := by simp [vl]
    rw [e1]
    generalize sbB (u.getD i 0) (msS u v q i (msN u v q i).2.1) (msN u v q i).2.2 = b2
    have e2 : msS u v q i (msN u v q i).2.1 + 18446744073709551616 * msC v q i (msN u v q i).2.1 = v.getD i 0 * q + (msN u v q i).2.1 := by
      unfold msS msC
      generalize v.getD i 0 * q = P
      generalize (msN u v q i).2.1 = c
      omega
    generalize hs : msS u v q i (msN u v q i).2.1 = s at e2 ⊢
    generalize hc : msC v q i (msN u v q i).2.1 = c2 at e2 ⊢
    generalize (msN u v q i).2.1 = c at e2 ⊢
    generalize (msN u v q i).2.2 = b
    obtain rfl : s = v.getD i 0 * q + c - 18446744073709551616 * c2 := by omega
    simp only [pB]
    have hB : Bs = 18446744073709551616 := rfl
    rw [hB]
    generalize u.getD i 0 = x
    generalize v.getD i 0 = y
    have e3 : q * (vk v i + pB i * y) = q * vk v i + pB i * (y * q) := by rw [Int.mul_add, Int.mul_left_comm, Int.mul_comm q y]
    rw [e3]
    generalize pB i = p
    generalize y * q = z
    generalize q * vk v i = t
    have e4 : p * (x - (z + c - 18446744073709551616 * c2) - b + 18446744073709551616 * b2) = p * x - p * z - p * c - p * b + 18446744073709551616 * (p * (c2 + b2)) := by
      simp only [Int.mul_add, Int.mul_sub, Int.mul_left_comm p 18446744073709551616]
      omega
    rw [e4, Int.mul_add p c b, Int.mul_assoc]
    generalize p * (c2 + b2) = w
    generalize p * x = g1
    generalize p * z = g2
    generalize p * c = g3
    generalize p * b = g4
    omega
def msL (u v : List Int) (q : Int) : List Int := (msN u v q v.length).1 ++ [sbD (u.getD v.length 0) (msN u v q v.length).2.1 (msN u v q v.length).2.2]
def msB (u v : List Int) (q : Int) : Int := sbB (u.getD v.length 0) (msN u v q v.length).2.1 (msN u v q v.length).2.2
theorem Lv (u v : List Int) (q : Int) : (msL u v q).length = v.length + 1 := by simp [msL, Jq]
theorem Abl {u v : List Int} {q : Int} (hu : Az u) (hv : Az v) (hq0 : 0 ≤ q) (hq : q < 18446744073709551616) : Az (msL u v q) := by
  have hc := Zg (u := u) hv hq0 hq v.length
  have hb := Zh u v q v.length
  have hx := Bq hu v.length
  have h := Ts hx.1 hx.2 hc.1 hc.2 hb.1 hb.2
  exact Dv (Zf hu hv hq0 hq _) h.1 h.2
theorem Wj {u v : List Int} {q : Int} (hl : u.length = v.length + 1) : vl (msL u v q) = vl u - q * vl v + pB (v.length + 1) * msB u v q := by
  unfold msL msB
  have h := Ph u v q v.length
  have hu : vl u = vk u v.length + pB v.length * u.getD v.length 0 := by rw [← Cp, vk_all (by omega)]
  rw [Dm, Jq, h, Yr, hu, vk_all (Nat.le_refl v.length)]
  generalize sbB (u.getD v.length 0) (msN u v q v.length).2.1 (msN u v q v.length).2.2 = b2
  generalize (msN u v q v.length).2.1 = c
  generalize (msN u v q v.length).2.2 = b
  generalize u.getD v.length 0 = x
  have e1 : vl [x - c - b + 18446744073709551616 * b2] = x - c - b + 18446744073709551616 * b2 := by simp [vl]
  rw [e1]
  simp only [pB]
  have hB : Bs = 18446744073709551616 := rfl
  rw [hB]
  generalize pB v.length = p
  have e4 : p * (x - c - b + 18446744073709551616 * b2) = p * x - p * c - p * b + 18446744073709551616 * (p * b2) := by
    simp only [Int.mul_add, Int.mul_sub, Int.mul_left_comm p 18446744073709551616]
  rw [e4, Int.mul_add, Int.mul_assoc]
  generalize p * b2 = w
  generalize p * x = g1
  generalize p * c = g3
  generalize p * b = g4
  omega
def bkL (l v : List Int) : List Int := (adN l v v.length).1 ++ [(l.getD v.length 0 + (adN l v v.length).2) % 18446744073709551616]
theorem Q0 (l v : List Int) : (bkL l v).length = v.length + 1 := by simp [bkL, Dq]
theorem Aby {l v : List Int} : Az (bkL l v) := Dv (S6 _) (by omega) (by omega)
theorem Xb {l v : List Int} (hl : l.length = v.length + 1) : ∃ e, vl (bkL l v) = vl l + vl v - pB (v.length + 1) * e := by
  refine ⟨(l.getD v.length 0 + (adN l v v.length).2) / 18446744073709551616, ?_⟩
  unfold bkL
  have h := L2 l v v.length
  have hu : vl l = vk l v.length + pB v.length * l.getD v.length 0 := by rw [← Cp, vk_all (by omega)]
  rw [vk_all (Nat.le_refl v.length)] at h
  rw [Dm, Dq, hu]
  generalize l.getD v.length 0 = x
  generalize (adN l v v.length).2 = c at h ⊢
  have e1 : vl [(x + c) % 18446744073709551616] = x + c - 18446744073709551616 * ((x + c) / 18446744073709551616) := by simp only [vl]; omega
  rw [e1]
  simp only [pB]
  have hB : Bs = 18446744073709551616 := rfl
  rw [hB]
  generalize (x + c) / 18446744073709551616 = e
  generalize pB v.length = p at h ⊢
  have e4 : p * (x + c - 18446744073709551616 * e) = p * x + p * c - 18446744073709551616 * (p * e) := by
    simp only [Int.mul_add, Int.mul_sub, Int.mul_left_comm p 18446744073709551616]
  rw [e4, Int.mul_assoc]
  generalize p * e = w
  omega
def gsQ (u v : List Int) (q : Int) : Int := q - msB u v q
def gsL (u v : List Int) (q : Int) : List Int := if msB u v q = 0 then msL u v q else bkL (msL u v q) v
theorem Zw {u v : List Int} {q : Int} (hu : Az u) (hv : Az v) (hl : u.length = v.length + 1) (hv0 : 0 < vl v) (hq0 : 0 ≤ q) (hq : q < 18446744073709551616)
    (h1 : vl u / vl v ≤ q) (h2 : q ≤ vl u / vl v + 1) :
    gsQ u v q = vl u / vl v ∧ (gsL u v q).length = v.length + 1 ∧ Az (gsL u v q) ∧ vl (gsL u v q) = vl u % vl v := by
  have hm := Wj (u := u) (v := v) (q := q) hl
  have um := Abl (u := u) (v := v) (q := q) hu hv hq0 hq
  have b0 := Bk um
  have b1 := E4 um
  rw [Lv] at b1
  have hbb := Tt (u.getD v.length 0) (msN u v q v.length).2.1 (msN u v q v.length).2.2
  have ed := Int.emod_add_mul_ediv (vl u) (vl v)
  have r0 := Int.emod_nonneg (vl u) (Int.ne_of_gt hv0)
  have r1 := Int.emod_lt_of_pos (vl u) hv0
  have up := Bk hu
  have ul := E4 hu
  have vu := Bk hv
  have vlt := E4 hv
  have hpm := Gv (show v.length ≤ v.length + 1 by omega)
  rw [hl] at ul
  unfold gsQ gsL
  by_cases hb : msB u v q = 0
  · rw [if_pos hb, hb]
    rw [hb, Int.mul_zero] at hm
    have hq1 : q = vl u / vl v := by
      rcases Int.lt_or_le (vl u / vl v) q with hlt | hle
      · exfalso
        have hq2 : q = vl u / vl v + 1 := by omega
        have hqv : q * vl v = vl v * (vl u / vl v) + vl v := by rw [hq2, Int.add_mul, Int.one_mul, Int.mul_comm (vl u / vl v)]
        omega
      · omega
    have hqv : q * vl v = vl v * (vl u / vl v) := by rw [← hq1, Int.mul_comm]
    exact ⟨by omega, Lv _ _ _, um, by omega⟩
  · have hb1 : msB u v q = 1 := by unfold msB at hb ⊢; omega
    rw [if_neg hb, hb1]
    rw [hb1, Int.mul_one] at hm
    have hq1 : q = vl u / vl v + 1 := by
      rcases Int.lt_or_le (vl u / vl v) q with hlt | hle
      · omega
      · exfalso
        have hq2 : q = vl u / vl v := by omega
        have hqv : q * vl v = vl v * (vl u / vl v) := by rw [hq2, Int.mul_comm]
        omega
    obtain ⟨e, he⟩ := Xb (l := msL u v q) (v := v) (Lv _ _ _)
    have ub : Az (bkL (msL u v q) v) := Aby
    have c0 := Bk ub
    have c1 := E4 ub
    rw [Q0] at c1
    have hqv : q * vl v = vl v * (vl u / vl v) + vl v := by rw [hq1, Int.add_mul, Int.one_mul, Int.mul_comm (vl u / vl v)]
    have he1 : e = 1 := by
      have hpp := Dg (v.length + 1)
      rcases Int.lt_trichotomy e 1 with h | h | h
      · exfalso
        have : pB (v.length + 1) * e ≤ pB (v.length + 1) * 0 := Int.mul_le_mul_of_nonneg_left (by omega) (by omega)
        omega
      · exact h
      · exfalso
        have : pB (v.length + 1) * 2 ≤ pB (v.length + 1) * e := Int.mul_le_mul_of_nonneg_left (by omega) (by omega)
        omega
    rw [he1, Int.mul_one] at he
    exact ⟨by omega, Q0 _ _, ub, by omega⟩


theorem Sx {P V U q r v1 v2 u0 u1 u2 lv lu : Int} (hP : 0 < P) (hV : V = lv + P * (v2 + 18446744073709551616 * v1)) (hU : U = lu + P * (u2 + 18446744073709551616 * u1 + 340282366920938463463374607431768211456 * u0))
    (h1 : 0 ≤ lv) (h2 : lv < P) (h3 : 0 ≤ lu) (h4 : 0 ≤ v2) (hv : 1 ≤ v1) (hq : 0 ≤ q) (hq1 : q < 18446744073709551616) (he : q * v1 + r = u0 * 18446744073709551616 + u1) (hc : q * v2 ≤ r * 18446744073709551616 + u2) : (q - 1) * V ≤ U := by
  have f1 : 0 ≤ P * (r * 18446744073709551616 + u2 - q * v2) := Int.mul_nonneg (by omega) (by omega)
  have f2 : q * lv ≤ 18446744073709551615 * P := Int.mul_le_mul (by omega) (by omega) h1 (by omega)
  have f3 : P * (q * v1 + r) = P * (u0 * 18446744073709551616 + u1) := by rw [he]
  have f4 : 0 ≤ P * (v1 - 1) := Int.mul_nonneg (by omega) (by omega)
  have f5 : 0 ≤ P * v2 := Int.mul_nonneg (by omega) h4
  have e1 : P * (r * 18446744073709551616 + u2 - q * v2) = 18446744073709551616 * (P * r) + P * u2 - P * (q * v2) := by
    rw [Int.mul_comm r]; simp only [Int.mul_add, Int.mul_sub, Int.mul_left_comm P 18446744073709551616]
  have e3 : P * (u0 * 18446744073709551616 + u1) = 18446744073709551616 * (P * u0) + P * u1 := by rw [Int.mul_comm u0, Int.mul_add, Int.mul_left_comm P]
  have e4 : P * (u2 + 18446744073709551616 * u1 + 340282366920938463463374607431768211456 * u0) = P * u2 + 18446744073709551616 * (P * u1) + 340282366920938463463374607431768211456 * (P * u0) := by
    simp only [Int.mul_add, Int.mul_left_comm P 18446744073709551616, Int.mul_left_comm P 340282366920938463463374607431768211456]
  have e5 : q * V = q * lv + P * (q * v2) + 18446744073709551616 * (P * (q * v1)) := by
    rw [hV, Int.mul_add, Int.mul_add P, Int.mul_add q, Int.mul_left_comm q P, Int.mul_left_comm P 18446744073709551616, Int.mul_left_comm q 18446744073709551616, Int.mul_left_comm q P v1]; omega
  have e6 : P * (v2 + 18446744073709551616 * v1) = P * v2 + 18446744073709551616 * (P * v1) := by rw [Int.mul_add, Int.mul_left_comm P]
  rw [e1] at f1; rw [Int.mul_add, e3] at f3; rw [e4] at hU; rw [Int.mul_sub, Int.mul_one] at f4
  rw [Int.sub_mul, Int.one_mul, e5]
  rw [e6] at hV
  omega
theorem Oa {v : List Int} {n : Nat} (hn : v.length = n + 2) : vl v = vk v n + pB n * (v.getD n 0 + 18446744073709551616 * v.getD (n + 1) 0) := by
  have h1 : vl v = vk v (n + 2) := (vk_all (by omega)).symm
  rw [h1, Cp, Cp]
  simp only [pB]
  have hB : Bs = 18446744073709551616 := rfl
  rw [hB, Int.mul_add, Int.mul_left_comm (pB n) 18446744073709551616, ← Int.mul_assoc 18446744073709551616]
  omega
theorem Oe {u : List Int} {n : Nat} (hn : u.length = n + 3) : vl u = vk u n + pB n * (u.getD n 0 + 18446744073709551616 * u.getD (n + 1) 0 + 340282366920938463463374607431768211456 * u.getD (n + 2) 0) := by
  have h1 : vl u = vk u (n + 3) := (vk_all (by omega)).symm
  rw [h1, Cp, Cp, Cp]
  simp only [pB]
  have hB : Bs = 18446744073709551616 := rfl
  rw [hB, Int.mul_add, Int.mul_add, Int.mul_left_comm (pB n) 18446744073709551616, Int.mul_left_comm (pB n) 340282366920938463463374607431768211456]
  simp only [Int.mul_assoc]
  omega
theorem Ux {v : List Int} (hv : Az v) {n : Nat} (h : n ≤ v.length) : 0 ≤ vk v n ∧ vk v n < pB n := by
  refine ⟨Hv hv n, ?_⟩
  have := E4 (E6 hv n)
  rwa [List.length_take, Nat.min_eq_left h] at this
def Est (u v : List Int) (n : Nat) (q r : Int) : Prop :=
  q * v.getD (n + 1) 0 + r = u.getD (n + 2) 0 * 18446744073709551616 + u.getD (n + 1) 0 ∧ vl u / vl v ≤ q ∧ 0 ≤ q ∧ q < 18446744073709551616 ∧ 0 ≤ r
structure GuP (u v : List Int) (n : Nat) : Prop where
  uu : Az u
  uv : Az v
  lu : u.length = n + 3
  lv : v.length = n + 2
  lt : vl u < vl v * 18446744073709551616
  top : 1 ≤ v.getD (n + 1) 0
theorem GuP.pos {u v : List Int} {n : Nat} (h : GuP u v n) : 0 < vl v := by
  have h1 := Oa h.lv
  have b := Ux h.uv (n := n) (by rw [h.lv]; omega)
  have x := Bq h.uv n
  have hp := Dg n
  have t := h.top
  have : 0 < pB n * (v.getD n 0 + 18446744073709551616 * v.getD (n + 1) 0) := Int.mul_pos hp (by omega)
  omega
theorem GuP.last {u v : List Int} {n : Nat} {q r : Int} (h : GuP u v n) (he : Est u v n q r) (hc : q * v.getD n 0 ≤ r * 18446744073709551616 + u.getD n 0) : q ≤ vl u / vl v + 1 := by
  obtain ⟨e1, e2, e3, e4, e5⟩ := he
  have bv := Ux h.uv (n := n) (by rw [h.lv]; omega)
  have bu := Ux h.uu (n := n) (by rw [h.lu]; omega)
  have hh := Sx (Dg n) (Oa h.lv) (Oe h.lu) bv.1 bv.2 bu.1 (Bq h.uv n).1 h.top e3 e4 e1 hc
  have := (Int.le_ediv_iff_mul_le h.pos).2 hh
  omega
theorem GuP.over {u v : List Int} {n : Nat} {q r : Int} (h : GuP u v n) (he : Est u v n q r) (hc : 18446744073709551616 ≤ r) : q ≤ vl u / vl v + 1 := by
  refine h.last he ?_
  obtain ⟨e1, e2, e3, e4, e5⟩ := he
  have x := Bq h.uv n
  have y := Bq h.uu n
  have := T5 e3 e4 x.1 x.2
  omega
theorem GuP.fin {u v : List Int} {n : Nat} {q r : Int} (h : GuP u v n) (he : Est u v n q r) (hc : q ≤ vl u / vl v + 1) : gsQ u v q = vl u / vl v ∧ (gsL u v q).length = n + 3 ∧ Az (gsL u v q) ∧ vl (gsL u v q) = vl u % vl v := by
  obtain ⟨e1, e2, e3, e4, e5⟩ := he
  have := Zw h.uu h.uv (by rw [h.lu, h.lv]) h.pos e3 e4 e2 hc
  rw [h.lv] at this
  exact this
def Hf (N y u q r : Int) : Prop := q * (y / 4294967296) + r = u ∧ N / y ≤ q ∧ q ≤ 4294967297 ∧ 0 ≤ r
structure HfP (N y u w : Int) : Prop where
  en : N = u * 4294967296 + w
  w0 : 0 ≤ w
  w1 : w < 4294967296
  u0 : 0 ≤ u
  lt : u < y
  y0 : 9223372036854775808 ≤ y
  y1 : y < 18446744073709551616
theorem HfP.first {N y u w : Int} (h : HfP N y u w) : Hf N y u (u / (y / 4294967296)) (u - u / (y / 4294967296) * (y / 4294967296)) ∧ 0 ≤ u / (y / 4294967296) ∧ u - u / (y / 4294967296) * (y / 4294967296) < 4294967296 := by
  obtain ⟨he, w0, w1, u0, hlt, y0, y1⟩ := h
  unfold Hf
  have hy : y = y / 4294967296 * 4294967296 + y % 4294967296 := by omega
  have hb : 0 ≤ y % 4294967296 ∧ y % 4294967296 < 4294967296 := by omega
  have ha : 2147483648 ≤ y / 4294967296 ∧ y / 4294967296 < 4294967296 := by omega
  generalize y / 4294967296 = a at *
  generalize y % 4294967296 = b at *
  have e := Int.emod_add_mul_ediv u a
  have r1 := Int.emod_lt_of_pos u (show 0 < a by omega)
  have r0 := Int.emod_nonneg u (show a ≠ 0 by omega)
  have q0 : 0 ≤ u / a := Int.ediv_nonneg u0 (by omega)
  generalize u / a = q at *
  generalize u % a = r at *
  rw [Int.mul_comm] at e
  refine ⟨⟨by omega, ?_, ?_, by omega⟩, q0, by omega⟩
  · refine Int.le_of_lt_add_one (Int.ediv_lt_of_lt_mul (by omega) ?_)
    have f1 : (q + 1) * y = 4294967296 * (q * a) + 4294967296 * a + (q + 1) * b := by
      rw [hy, Int.mul_add, Int.add_mul q 1 (a * 4294967296), ← Int.mul_assoc]; omega
    have f2 : 0 ≤ (q + 1) * b := Int.mul_nonneg (by omega) hb.1
    omega
  · rcases Int.lt_or_le 4294967297 q with h | h
    · exfalso
      have f : 4294967298 * a ≤ q * a := Int.mul_le_mul_of_nonneg_right (by omega) (by omega)
      omega
    · exact h
theorem HfP.last {N y u w q r : Int} (h : HfP N y u w) (hf : Hf N y u q r) (hc : q * (y % 4294967296) ≤ 4294967296 * r + w) : q = N / y := by
  obtain ⟨e1, e2, e3, e4⟩ := hf
  obtain ⟨he, w0, w1, u0, hlt, y0, y1⟩ := h
  have : q ≤ N / y := by
    refine (Int.le_ediv_iff_mul_le (by omega)).2 ?_
    have hy : q * y = q * (y / 4294967296 * 4294967296 + y % 4294967296) := by congr 1; omega
    rw [hy, Int.mul_add, ← Int.mul_assoc]
    omega
  omega
theorem HfP.over {N y u w q r : Int} (h : HfP N y u w) (hf : Hf N y u q r) (hq : 0 ≤ q) (hq1 : q ≤ 4294967296) (hc : 4294967296 ≤ r) : q = N / y := by
  refine h.last hf ?_
  obtain ⟨he, w0, w1, u0, hlt, y0, y1⟩ := h
  have f : q * (y % 4294967296) ≤ 4294967296 * 4294967295 := Int.mul_le_mul hq1 (by omega) (by omega) (by omega)
  omega
theorem HfP.rest {N y u w : Int} (h : HfP N y u w) : IntKind.u64.wrap (IntKind.u64.wrap (IntKind.u64.wrap (u * 4294967296) + w) - IntKind.u64.wrap (N / y * y)) = N % y := by
  have e := Int.emod_add_mul_ediv N y
  have r1 := Int.emod_lt_of_pos N (show 0 < y by have := h.y0; omega)
  have r0 := Int.emod_nonneg N (show y ≠ 0 by have := h.y0; omega)
  have := h.y1
  have := h.en
  simp only [Df]
  rw [Int.mul_comm] at e
  generalize N / y * y = z at *
  generalize N % y = r at *
  omega


theorem V8 {x d : Int} (h0 : 0 ≤ x) (h1 : x < 18446744073709551616) (hd : 0 < d) : IntKind.u64.wrap (Int.tdiv x d) = x / d := by
  rw [Int.tdiv_eq_ediv_of_nonneg h0]
  exact A5 (Int.ediv_nonneg h0 (by omega)) (Int.lt_of_le_of_lt (Int.ediv_le_self d h0) h1)
theorem Ac3 {x : Int} (h : 0 ≤ x) : x.fdiv (2 ^ min (1 : Int).toNat 64) = x / 2 := by
  obtain ⟨n, rfl⟩ := Int.eq_ofNat_of_zero_le h
  exact Eq (k := 2) (by decide)
theorem Ac4 {x : Int} : IntKind.u64.wrap (x * 2 ^ min (1 : Int).toNat 64) = x * 2 % 18446744073709551616 := Df
theorem W7 {l : List Int} {i : Nat} {v : Int} (h : i < l.length) : (l.set ((0 + i) * 1) v).getD ((0 + i) * 1) 0 = v := by
  rw [Nat.zero_add, Nat.mul_one, List.getD_eq_getElem?_getD, List.getElem?_set_self h]; rfl
theorem Jy {a : List Int} {s i n : Nat} (h : i < n) : (Ca (dnN a s i) n).set ((0 + i) * 1) (dnD a s i) = Ca (dnN a s (i + 1)) n := by
  have e := @Dz (dnN a s i) n (dnD a s i) (by rw [F7]; exact h)
  rw [F7] at e
  rw [Nat.zero_add, Nat.mul_one]; exact e
theorem M6 {a : List Int} {s i : Nat} (h : a.length ≤ i + 1) : dnD a s i = a.getD i 0 / 2 ^ s := by
  unfold dnD loS; rw [C5 h]; simp
theorem Pc (s : Nat) : ((2 ^ s : Nat) : Int) = (2 : Int) ^ s := by rw [Int.natCast_pow]; rfl
theorem El {l : List Int} {v : Int} (hu : Az l) (hv : vl l = v) : trm l = lm v := by
  have h0 := Bk hu
  exact Ef (by decide) (Ld hu) (by rw [N3, hv]; omega)
def dvN (a : List Int) (d : Int) : Nat → List Int × Int
  | 0 => ([], 0)
  | j + 1 => (((dvN a d j).2 * 18446744073709551616 + a.getD (a.length - 1 - j) 0) / d :: (dvN a d j).1, ((dvN a d j).2 * 18446744073709551616 + a.getD (a.length - 1 - j) 0) % d)
theorem Uf {k : Nat} {Q : List Int} {v : Int} (hk : 0 < k) : (List.replicate k 0 ++ Q).set ((0 + (k - 1)) * 1) v = List.replicate (k - 1) 0 ++ v :: Q := by
  rw [Nat.zero_add, Nat.mul_one]
  obtain ⟨k, rfl⟩ : ∃ m, k = m + 1 := ⟨k - 1, by omega⟩
  rw [Nat.add_sub_cancel, List.replicate_succ', List.append_assoc, List.set_append_right _ _ (by simp)]
  simp
theorem Px (v : Int) : Fi (lm v) = Aq v := by
  rw [En (Gz v), T8, Int.toNat_natCast]; rfl
theorem Abo : lm 0 = [] := Cu
theorem Sv {v : Int} (h0 : 0 ≤ v) (h1 : v < 18446744073709551616) : (if v = 0 then [] else [v]) = lm v := by
  rw [Sm (by omega), show ((v.natAbs : Nat) : Int) = v by omega]; rfl
structure Kn (X : Int) (v : List Int) (N : Nat) (k : Nat) (U Q : List Int) : Prop where
  lu : U.length = N
  uu : Az U
  uq : Az Q
  val : X = vl v * (pB k * vl Q) + vl U
  lt : vl U < vl v * pB k
theorem Kn.fin {a b v U Q : List Int} {N s : Nat} (h : Kn (vl a * 2 ^ s) v N 0 U Q) (hs : s < 64) (hv : vl v = vl b * 2 ^ s) (hb : 0 < vl b) (ua : Az a) (uv : Az v) (hl : v.length ≤ N) :
    trm Q = lm (vl a / vl b) ∧ vl (U.take v.length) = 2 ^ s * (vl a % vl b) ∧ trm (dnN (U.take v.length) s (U.take v.length).length) = lm (vl a % vl b) := by
  have hval := h.val
  have hlt := h.lt
  have u0 := Bk h.uu
  have hp := Em s
  simp only [pB, Int.one_mul, Int.mul_one] at hval hlt
  rw [hv] at hval hlt
  have eU : vl U = (vl a - vl b * vl Q) * 2 ^ s := by
    rw [Int.sub_mul]
    have : vl b * 2 ^ s * vl Q = vl b * vl Q * 2 ^ s := Int.mul_right_comm _ _ _
    omega
  generalize hT : vl a - vl b * vl Q = T at *
  have hT0 : 0 ≤ T := by
    rcases Int.lt_or_le T 0 with h | h
    · exfalso
      have := Int.mul_neg_of_neg_of_pos h hp
      omega
    · exact h
  have hT1 : T < vl b := by
    rcases Int.lt_or_le T (vl b) with h | h
    · exact h
    · exfalso
      have h1 : vl b * 2 ^ s ≤ T * 2 ^ s := Int.mul_le_mul_of_nonneg_right h (by omega)
      omega
  have hA : vl a = T + vl b * vl Q := by omega
  have e1 : vl a / vl b = vl Q := by rw [hA, Int.add_mul_ediv_left _ _ (by omega), Int.ediv_eq_zero_of_lt hT0 hT1]; omega
  have e2 : vl a % vl b = T := by rw [hA, Int.add_mul_emod_self_left, Int.emod_eq_of_lt hT0 hT1]
  have e3 : vl (U.take v.length) = 2 ^ s * T := by
    obtain ⟨r, r0, hr⟩ := N1 h.uu v.length
    have vlt := E4 uv
    rw [hv] at vlt
    have c0 := Hv h.uu v.length
    show vk U v.length = _
    have hr1 : r = 0 := by
      rcases Int.lt_or_le 0 r with h | h
      · exfalso
        have : pB v.length * 1 ≤ pB v.length * r := Int.mul_le_mul_of_nonneg_left (by omega) (Int.le_of_lt (Dg _))
        omega
      · omega
    rw [hr1, Int.mul_zero, Int.add_zero] at hr
    rw [← hr, eU, Int.mul_comm]
  refine ⟨El h.uq e1.symm, by rw [e2]; exact e3, ?_⟩
  rw [e2]
  exact El (Qm (Nat.le_of_lt hs) (E6 h.uu _) _) (Z3 (Nat.le_of_lt hs) e3)


def qn (v w : Int) : Int := (v.natAbs : Int) / w.natAbs
def rn (v w : Int) : Int := (v.natAbs : Int) % w.natAbs
def ng (v w : Int) : Bool := !(decide (v < 0) == decide (w < 0))
def sgd (s : Bool) (m : Int) : Int := if s = true then -m else m
theorem Mo {v w : Int} (hw : w ≠ 0) : (v.natAbs : Int) = rn v w + w.natAbs * qn v w ∧ 0 ≤ rn v w ∧ rn v w < w.natAbs ∧ 0 ≤ qn v w := by
  have h0 : (0 : Int) < w.natAbs := by omega
  have e := Int.emod_add_mul_ediv (v.natAbs : Int) w.natAbs
  exact ⟨e.symm, Int.emod_nonneg _ (by omega), Int.emod_lt_of_pos _ h0, Int.ediv_nonneg (by omega) (by omega)⟩
def gro (k : Nat) (v w : Int) : Bool :=
  match k with
  | 0 => false
  | 1 => ng v w
  | 2 => !ng v w
  | 3 => decide ((w.natAbs : Int) < 2 * rn v w ∨ (2 * rn v w = w.natAbs ∧ qn v w % 2 = 1))
  | _ => decide (v < 0)
def flo (v w : Int) : Int := if ng v w = true then (if rn v w = 0 then -(qn v w) else -(qn v w) - 1) else qn v w
def cei (v w : Int) : Int := if v - flo v w * w = 0 then flo v w else flo v w + 1
def nea (v w : Int) : Int := if (w.natAbs : Int) < 2 * (v - flo v w * w).natAbs ∨ (2 * ((v - flo v w * w).natAbs : Int) = w.natAbs ∧ (flo v w).natAbs % 2 = 1) then flo v w + 1 else flo v w
def wq (k : Nat) (v w : Int) : Int :=
  match k with
  | 0 => if ng v w = true then cei v w else flo v w
  | 1 => flo v w
  | 2 => cei v w
  | 3 => nea v w
  | _ => if w < 0 then cei v w else flo v w
def frs (v w : Int) : Int := sgd (decide (w < 0)) (if ng v w = true ∧ rn v w ≠ 0 then w.natAbs - rn v w else rn v w)
theorem Wi {m w : Int} : m * w = if w < 0 then -(w.natAbs * m) else w.natAbs * m := by
  split
  · rw [show (w.natAbs : Int) = -w by omega, Int.neg_mul, Int.neg_neg, Int.mul_comm]
  · rw [show (w.natAbs : Int) = w by omega, Int.mul_comm]
theorem Su {v w : Int} (hw : w ≠ 0) : v - flo v w * w = frs v w := by
  obtain ⟨hx, h0, h1, h2⟩ := Mo (v := v) hw
  rw [Wi]
  have e1 : (w.natAbs : Int) * -(qn v w) = -(w.natAbs * qn v w) := Int.mul_neg _ _
  have e2 : (w.natAbs : Int) * (-(qn v w) - 1) = -(w.natAbs * qn v w) - w.natAbs := by rw [Int.mul_sub, Int.mul_one, e1]
  unfold frs flo sgd
  generalize hp : (w.natAbs : Int) * qn v w = p at *
  unfold ng
  by_cases hv : v < 0 <;> by_cases hww : w < 0 <;> by_cases hr : rn v w = 0 <;> simp [hv, hww, hr, e1, e2, hp] <;> omega
theorem D9 {v w : Int} (h : v.natAbs ≤ w.natAbs) : Aq v ≤ Aq w := Nn h
theorem Ku {v : Int} (h : v ≠ 0) : lm v ≠ [] := fun e => by
  have h1 := T8 v
  rw [e] at h1
  simp [vl] at h1
  omega
theorem Ig {v : Int} : Aq v = 0 ↔ v = 0 := by
  constructor
  · intro h
    rcases Int.lt_trichotomy v 0 with h1 | h1 | h1
    · have := Dx (n := v.natAbs) (by omega); unfold Aq at h; omega
    · exact h1
    · have := Dx (n := v.natAbs) (by omega); unfold Aq at h; omega
  · rintro rfl; rfl
end Go.Proofs.YteopohdkceelkaaDoor.Vc
