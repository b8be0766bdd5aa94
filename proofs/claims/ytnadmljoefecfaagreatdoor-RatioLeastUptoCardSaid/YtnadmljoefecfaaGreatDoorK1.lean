/- The law RatioLeast of every input of bulk at most 1048576: it returns true, and the input reads as it did. Texts joined: VcA, VcB, VcC, VcD, VcE, VcF, VcG, VcH. -/
import Derived.WalkKit
import Derived.Deep.Draws
import Derived.Orders
import Derived.Still
import Derived.Defers
import Derived.Maps.AppendAt
set_option linter.unusedVariables false
set_option linter.unusedSimpArgs false
namespace Go.Proofs.YtnadmljoefecfaaGreatDoor.Vc
open Go Go.RowKit
theorem B2 (n : Nat) {N : Nat} (hN : N = n) : ∀ d, Nat.blt d n = true → d < N := fun d h => by rw [hN]; exact Nat.le_of_ble_eq_true h

inductive V where
  | i (k : IntKind) (n : Int)
  | b (x : Bool)
  | s (x : ByteArray)
  | c (v : Value)
  | n (fr : Bool) (k : IntKind) (l : List Int)
  | l (fr : Bool) (sz : Nat) (es : List (List V))
  | q (es : List V)
  | p (id ver off : Nat)
  | o (id ver off len : Nat)
  | f (fn : FuncId) (caps : List V)
  | u
  | a (cs : List V)
  | t (vs : List V)

structure Re where
  g : Option Nat
  cap : Nat
  ver : Nat
  sz : Nat

structure Ob where
  t : TypeId
  sz : Nat
  ver : Nat
  live : Bool
  cs : List V

def Okb (w : World) (L : Nat → Prop) (B : Nat) (fr : Bool) (b : Nat) : Prop := b < w.heap.size ∧ ¬ L b ∧ (fr = true → B ≤ b)

mutual
def Rel (w : World) (L : Nat → Prop) (B : Nat) (ρ : List Re) : V → Value → Prop
  | .i k n, v => v = .int k n
  | .b x, v => v = .bool x
  | .s x, v => v = .string x
  | .c u, v => v = u
  | .n fr k l, v => ∃ A c, v = .slice A l.length c ∧ l.length ≤ c ∧ c ≤ maxLen ∧ (l ≠ [] → ∃ ad : Addr, A = some ad ∧ Okb w L B fr ad.block ∧ ∀ j y, l[j]? = some y → w.cell? (ad.add j) = some (.int k y))
  | .l fr sz es, v => ∃ A c, v = .slice A es.length c ∧ es.length ≤ c ∧ c ≤ maxLen ∧ (es ≠ [] → ∃ ad : Addr, A = some ad ∧ Okb w L B fr ad.block ∧ RelR w L 0 [] sz ad 0 es)
  | .q es, v => ∃ ad : Addr, v = .pointer (some ad) ∧ Okb w L B false ad.block ∧ RelC w L 0 [] ad 0 es
  | .p id ver off, v => ∃ re, ρ[id]? = some re ∧ ver ≤ re.ver ∧ (ver = re.ver → ∃ g, re.g = some g ∧ v = .pointer (some ⟨g, off, none⟩))
  | .o id ver off len, v => ∃ re, ρ[id]? = some re ∧ ver ≤ re.ver ∧ (ver = re.ver → off + len ≤ re.cap ∧ ((∃ g ad, re.g = some g ∧ v = .slice (some ad) len (re.cap - off) ∧ (off < re.cap ∨ off = 0 → ad = ⟨g, off * re.sz, none⟩)) ∨ (re.g = none ∧ v = .slice none 0 0 ∧ off = 0 ∧ len = 0)))
  | .f fn caps, v => ∃ us : List Value, v = .func (.func fn) #[] us.toArray ∧ RelL w L B ρ caps us
  | .u, _ => True
  | .a cs, v => ∃ us : List Value, v = .agg us.toArray ∧ RelL w L B ρ cs us
  | .t vs, v => ∃ us : List Value, v = .tuple us.toArray ∧ RelL w L B ρ vs us
def RelL (w : World) (L : Nat → Prop) (B : Nat) (ρ : List Re) : List V → List Value → Prop
  | [], us => us = []
  | y :: ys, us => ∃ u us', us = u :: us' ∧ Rel w L B ρ y u ∧ RelL w L B ρ ys us'
def RelC (w : World) (L : Nat → Prop) (B : Nat) (ρ : List Re) (ad : Addr) : Nat → List V → Prop
  | _, [] => True
  | k, y :: ys => (∃ u, w.cell? (ad.add k) = some u ∧ Rel w L B ρ y u) ∧ RelC w L B ρ ad (k + 1) ys
def RelR (w : World) (L : Nat → Prop) (B : Nat) (ρ : List Re) (sz : Nat) (ad : Addr) : Nat → List (List V) → Prop
  | _, [] => True
  | k, r :: rs => r.length = sz ∧ RelC w L B ρ ad k r ∧ RelR w L B ρ sz ad (k + sz) rs
end

structure Ev (w : World) (L : Nat → Prop) (B : Nat) (ρ : List Re) (w' : World) (L' : Nat → Prop) (B' : Nat) (ρ' : List Re) : Prop where
  size : w.heap.size ≤ w'.heap.size
  blk : ∀ b, b < w.heap.size → ¬ L b → w'.heap[b]? = w.heap[b]?
  lv : ∀ b, b < w.heap.size → ¬ L b → ¬ L' b
  bb : B' ≤ B
  rho : ∀ (id : Nat) (re : Re), ρ[id]? = some re → ∃ re', ρ'[id]? = some re' ∧ re.ver ≤ re'.ver ∧ (re.ver = re'.ver → re' = re)

theorem Ev.inner {w w' : World} {L L' : Nat → Prop} {B B' : Nat} {ρ ρ' : List Re} (h : Ev w L B ρ w' L' B' ρ') : Ev w L 0 [] w' L' 0 [] :=
  ⟨h.size, h.blk, h.lv, Nat.le_refl _, fun id re e => by simp at e⟩
theorem Okb.ev {w w' : World} {L L' : Nat → Prop} {B B' : Nat} {ρ ρ' : List Re} (h : Ev w L B ρ w' L' B' ρ') {fr : Bool} {b : Nat} (hb : Okb w L B fr b) : Okb w' L' B' fr b :=
  ⟨Nat.lt_of_lt_of_le hb.1 h.size, h.lv b hb.1 hb.2.1, fun e => Nat.le_trans h.bb (hb.2.2 e)⟩
theorem Gl (a : Addr) (n : Nat) : (a.add n).block = a.block := by unfold Addr.add; split <;> rfl
theorem Ev.cell {w w' : World} {L L' : Nat → Prop} {B B' : Nat} {ρ ρ' : List Re} (h : Ev w L B ρ w' L' B' ρ') {fr : Bool} {ad : Addr} (hb : Okb w L B fr ad.block) (k : Nat) : w'.cell? (ad.add k) = w.cell? (ad.add k) :=
  World.cell?_of_block (by rw [Gl]; exact h.blk _ hb.1 hb.2.1)

mutual
theorem Rel.ev {w w' : World} {L L' : Nat → Prop} {B B' : Nat} {ρ ρ' : List Re} (h : Ev w L B ρ w' L' B' ρ') : ∀ (x : V) (v : Value), Rel w L B ρ x v → Rel w' L' B' ρ' x v
  | .i k n, v, r => r
  | .b y, v, r => r
  | .s y, v, r => r
  | .c u, v, r => r
  | .n fr k l, v, r => by
    obtain ⟨A, c, e, h1, h2, h3⟩ := r
    refine ⟨A, c, e, h1, h2, fun hl => ?_⟩
    obtain ⟨ad, e1, hb, hc⟩ := h3 hl
    exact ⟨ad, e1, hb.ev h, fun j y hj => (h.cell hb j).trans (hc j y hj)⟩
  | .l fr sz es, v, r => by
    obtain ⟨A, c, e, h1, h2, h3⟩ := r
    refine ⟨A, c, e, h1, h2, fun hl => ?_⟩
    obtain ⟨ad, e1, hb, hc⟩ := h3 hl
    exact ⟨ad, e1, hb.ev h, RelR.ev h.inner ⟨hb.1, hb.2.1, fun _ => Nat.zero_le _⟩ es 0 hc⟩
  | .q es, v, r => by
    obtain ⟨ad, e, hb, hc⟩ := r
    exact ⟨ad, e, hb.ev h, RelC.ev h.inner ⟨hb.1, hb.2.1, fun _ => Nat.zero_le _⟩ es 0 hc⟩
  | .p id ver off, v, r => by
    obtain ⟨re, e, hv, hq⟩ := r
    obtain ⟨re', e', hle, hsame⟩ := h.rho id re e
    exact ⟨re', e', Nat.le_trans hv hle, fun hver => by
      have e2 : re.ver = re'.ver := by omega
      rw [hsame e2]; exact hq (by omega)⟩
  | .o id ver off len, v, r => by
    obtain ⟨re, e, hv, hq⟩ := r
    obtain ⟨re', e', hle, hsame⟩ := h.rho id re e
    exact ⟨re', e', Nat.le_trans hv hle, fun hver => by
      have e2 : re.ver = re'.ver := by omega
      rw [hsame e2]; exact hq (by omega)⟩
  | .f fn caps, v, r => by
    obtain ⟨us, e, hr⟩ := r
    exact ⟨us, e, RelL.ev h caps us hr⟩
  | .u, v, r => trivial
  | .a cs, v, r => by
    obtain ⟨us, e, hr⟩ := r
    exact ⟨us, e, RelL.ev h cs us hr⟩
  | .t vs, v, r => by
    obtain ⟨us, e, hr⟩ := r
    exact ⟨us, e, RelL.ev h vs us hr⟩
theorem RelL.ev {w w' : World} {L L' : Nat → Prop} {B B' : Nat} {ρ ρ' : List Re} (h : Ev w L B ρ w' L' B' ρ') : ∀ (ys : List V) (us : List Value), RelL w L B ρ ys us → RelL w' L' B' ρ' ys us
  | [], us, r => r
  | y :: ys, us, r => by
    obtain ⟨u, us', e, h1, h2⟩ := r
    exact ⟨u, us', e, Rel.ev h y u h1, RelL.ev h ys us' h2⟩
theorem RelC.ev {w w' : World} {L L' : Nat → Prop} {B B' : Nat} {ρ ρ' : List Re} (h : Ev w L B ρ w' L' B' ρ') {ad : Addr} (hb : Okb w L B true ad.block) : ∀ (ys : List V) (k : Nat), RelC w L B ρ ad k ys → RelC w' L' B' ρ' ad k ys
  | [], _, _ => trivial
  | y :: ys, k, r => by
    obtain ⟨⟨u, hc, hr⟩, r2⟩ := r
    exact ⟨⟨u, (h.cell hb k).trans hc, Rel.ev h y u hr⟩, RelC.ev h hb ys (k + 1) r2⟩
theorem RelR.ev {w w' : World} {L L' : Nat → Prop} {B B' : Nat} {ρ ρ' : List Re} (h : Ev w L B ρ w' L' B' ρ') {ad : Addr} {sz : Nat} (hb : Okb w L B true ad.block) : ∀ (es : List (List V)) (k : Nat), RelR w L B ρ sz ad k es → RelR w' L' B' ρ' sz ad k es
  | [], _, _ => trivial
  | r :: rs, k, ⟨h1, h2, h3⟩ => ⟨h1, RelC.ev h hb r k h2, RelR.ev h hb rs (k + sz) h3⟩
end



abbrev Fr := List (Nat × V)
def Cp : Fr → Nat → Option V
  | [], _ => none
  | (t, y) :: r, k => bif Nat.beq k t then some y else Cp r k
def get (F : Fr) (k : Nat) : V := (Cp F k).getD .u

def Bb (M : Nat → Prop) (ρ : List Re) (H : List Ob) : Nat → Prop := fun b => M b ∨ ∃ (id : Nat) (ob : Ob) (re : Re), H[id]? = some ob ∧ ob.live = true ∧ ρ[id]? = some re ∧ re.g = some b

structure ObOk (w : World) (L : Nat → Prop) (B : Nat) (ρ : List Re) (re : Re) (ob : Ob) : Prop where
  ver : re.ver = ob.ver
  sz : re.sz = ob.sz
  nob : re.g = none → ob.cs = [] ∧ re.cap = 0
  blk : ∀ g, re.g = some g → ∃ cur, w.heap[g]? = some (.cells cur ob.t (0, 0)) ∧ cur.size = re.cap * ob.sz ∧ ob.cs.length ≤ cur.size ∧ re.cap ≤ maxLen ∧
    ∀ (j : Nat) (y : V), ob.cs[j]? = some y → ∃ u, cur[j]? = some u ∧ u.oneCell' = true ∧ Rel w L B ρ y u

structure HR (M : Nat → Prop) (w : World) (B : Nat) (ρ : List Re) (H : List Ob) : Prop where
  len : ρ.length = H.length
  ob : ∀ (id : Nat) (ob : Ob), H[id]? = some ob → ob.live = true → ∃ re, ρ[id]? = some re ∧ ObOk w (Bb M ρ H) B ρ re ob
  apart : ∀ (i j : Nat) (oi oj : Ob) (ri rj : Re) (g : Nat), i ≠ j → H[i]? = some oi → oi.live = true → H[j]? = some oj → oj.live = true → ρ[i]? = some ri → ρ[j]? = some rj → ri.g = some g → rj.g ≠ some g
  foreign : ∀ (id : Nat) (ob : Ob) (re : Re) (g : Nat), H[id]? = some ob → ob.live = true → ρ[id]? = some re → re.g = some g → ¬ M g

structure Ctx where
  N : Nat
  w0 : World
  M : Nat → Prop
  ρ0 : List Re
  L0 : Nat → Prop
  ds : List Deferred

structure Fro (Γ : Ctx) (ρ : List Re) (H : List Ob) (w : World) : Prop where
  os : w.os = Γ.w0.os
  tape : w.tape = Γ.w0.tape
  output : w.output = Γ.w0.output
  size : Γ.w0.heap.size ≤ w.heap.size
  blk : ∀ b, b < Γ.w0.heap.size → ¬ Γ.L0 b → w.heap[b]? = Γ.w0.heap[b]?
  old : ∀ b, Γ.M b → b < Γ.w0.heap.size
  mine : ∀ (id : Nat) (ob : Ob) (re : Re) (g : Nat), H[id]? = some ob → ob.live = true → ρ[id]? = some re → re.g = some g → Γ.w0.heap.size ≤ g ∨ Γ.L0 g
  rho : ∀ (id : Nat) (re : Re), Γ.ρ0[id]? = some re → ∃ re', ρ[id]? = some re' ∧ re.ver ≤ re'.ver ∧ (re.ver = re'.ver → re' = re)

structure StA (Γ : Ctx) (ρ : List Re) (F : Fr) (H : List Ob) (a : Act) (w : World) : Prop where
  hr : HR Γ.M w Γ.w0.heap.size ρ H
  n : Γ.N ≤ a.tmps.size
  ds : a.defers = Γ.ds
  fr : ∀ t, Rel w (Bb Γ.M ρ H) Γ.w0.heap.size ρ (get F t) (a.tmps.getD t undef)
  fro : Fro Γ ρ H w

def St (Γ : Ctx) (F : Fr) (H : List Ob) (a : Act) (w : World) : Prop := ∃ ρ, StA Γ ρ F H a w

def toQ (Γ : Ctx) (Q : Exit → Fr → List Ob → Prop) : Exit → Act → World → Prop := fun e a w => ∃ F H, Q e F H ∧ St Γ F H a w
def JO (P : Program) (ops : Array Oper) (l : List Oper) (Γ : Ctx) (F : Fr) (H : List Ob) (Q : Exit → Fr → List Ob → Prop) : Prop :=
  ∀ a w, St Γ F H a w → wpList P ops (toQ Γ Q) l a w
def JC (P : Program) (c : Code) (Γ : Ctx) (F : Fr) (H : List Ob) (Q : Exit → Fr → List Ob → Prop) : Prop :=
  ∀ a w, St Γ F H a w → c.wp P (toQ Γ Q) a w

section
variable {P : Program} {Γ : Ctx} {F : Fr} {H : List Ob} {Q : Exit → Fr → List Ob → Prop}

theorem Xx {Q Q' : Exit → Fr → List Ob → Prop} (h : ∀ e F H, Q e F H → Q' e F H) : ∀ e a w, toQ Γ Q e a w → toQ Γ Q' e a w :=
  fun e a w ⟨F, H, q, s⟩ => ⟨F, H, h e F H q, s⟩
theorem Nt {c : Code} {Q' : Exit → Fr → List Ob → Prop} (h : ∀ e F H, Q e F H → Q' e F H) (j : JC P c Γ F H Q) : JC P c Γ F H Q' :=
  fun a w s => Code.wp_mono (Xx h) (j a w s)

def I5 (R : Fr → List Ob → Prop) (Q : Exit → Fr → List Ob → Prop) : Exit → Fr → List Ob → Prop
  | .normal, F, H => R F H
  | e, F, H => Q e F H
theorem S6 {x y : Code} (R : Fr → List Ob → Prop) (h1 : JC P x Γ F H (I5 R Q)) (h2 : ∀ F' H', R F' H' → JC P y Γ F' H' Q) : JC P (.seq x y) Γ F H Q := fun a w s =>
  wp_seq (Code.wp_mono (fun e a w ⟨F', H', q, s'⟩ => by
    cases e <;> first | exact h2 F' H' q a w s' | exact ⟨F', H', q, s'⟩) (h1 a w s))
theorem Ae {x y : Code} (h : JC P x Γ F H (I5 (fun F' H' => JC P y Γ F' H' Q) Q)) : JC P (.seq x y) Γ F H Q :=
  S6 _ h fun _ _ j => j
theorem Aj (h : Q .normal F H) : JC P .skip Γ F H Q := fun a w s => wp_skip ⟨F, H, h, s⟩
theorem An (h : Q .ret F H) : JC P .ret Γ F H Q := fun a w s => wp_ret ⟨F, H, h, s⟩
theorem Br {id : Nat} (h : Q (.exit id) F H) : JC P (.exit id) Γ F H Q := fun a w s => wp_exit ⟨F, H, h, s⟩
def Aa9 (id : Nat) (Q : Exit → Fr → List Ob → Prop) : Exit → Fr → List Ob → Prop
  | .exit id', F, H => if id' = id then Q .normal F H else Q (.exit id') F H
  | e, F, H => Q e F H
theorem At {id : Nat} {c : Code} (h : JC P c Γ F H (Aa9 id Q)) : JC P (.block id c) Γ F H Q := fun a w s =>
  wp_block (Code.wp_mono (fun e a w ⟨F', H', q, s'⟩ => by
    cases e with
    | exit id' =>
      simp only [Aa9] at q
      simp only [Exit.inBlock]
      split at q
      · rename_i e; rw [if_pos e]; exact ⟨F', H', q, s'⟩
      · rename_i e; rw [if_neg e]; exact ⟨F', H', q, s'⟩
    | _ => exact ⟨F', H', q, s'⟩) (h a w s))
theorem Af {id : Nat} {l : List Oper} (h : JO P l.toArray l Γ F H Q) : JC P (.region id l.toArray false) Γ F H Q := fun a w s => wp_region_lit (h a w s)
theorem Ab {ops : Array Oper} (h : Q .normal F H) : JO P ops [] Γ F H Q := fun a w s => ⟨F, H, h, s⟩

theorem least {p : Nat → Prop} (h : ∃ n, p n) : ∃ n, p n ∧ ∀ m, p m → n ≤ m := by
  obtain ⟨n, hn⟩ := h
  induction n using Nat.strongRecOn with
  | _ n ih =>
    by_cases hm : ∃ m, m < n ∧ p m
    · obtain ⟨m, hm, hp⟩ := hm
      exact ih m hm hp
    · exact ⟨n, hn, fun m hp => by
        rcases Nat.lt_or_ge m n with h | h
        · exact absurd ⟨m, h, hp⟩ hm
        · exact h⟩
open Classical in
noncomputable def leastOr (p : Nat → Prop) : Nat := if h : ∃ n, p n then Classical.choose (least h) else 0
theorem Jk {p : Nat → Prop} (h : ∃ n, p n) : p (leastOr p) ∧ ∀ m, p m → leastOr p ≤ m := by
  unfold leastOr
  rw [dif_pos h]
  exact Classical.choose_spec (least h)

theorem Qh {c : Code} {G : Type} (C : G → Prop) (Fg : G → Fr) (Hg : G → List Ob) (μ : G → Nat) (g0 : G) (h0 : C g0)
    (hF : ∀ a w, St Γ F H a w → St Γ (Fg g0) (Hg g0) a w)
    (round : ∀ g, C g → JC P c Γ (Fg g) (Hg g) (I5 (fun F' H' => ∃ g', C g' ∧ μ g' < μ g ∧ ∀ a w, St Γ F' H' a w → St Γ (Fg g') (Hg g') a w) Q)) : JC P (.loop c) Γ F H Q := by
  intro a w s
  refine wp_loop (fun a w => ∃ g, C g ∧ St Γ (Fg g) (Hg g) a w) (fun a w => leastOr fun n => ∃ g, C g ∧ St Γ (Fg g) (Hg g) a w ∧ μ g = n) ⟨g0, h0, hF a w s⟩ ?_
  intro a w ⟨g1, hg1, hs1⟩
  have hex : ∃ n g, C g ∧ St Γ (Fg g) (Hg g) a w ∧ μ g = n := ⟨_, g1, hg1, hs1, rfl⟩
  obtain ⟨⟨g, hg, hs, hμ⟩, _⟩ := Jk hex
  refine Code.wp_mono (fun e a' w' ⟨F', H', q, s'⟩ => ?_) (round g hg a w hs)
  cases e with
  | normal =>
    obtain ⟨g', hg', hlt, hs'⟩ := q
    refine ⟨⟨g', hg', hs' a' w' s'⟩, ?_⟩
    have hex' : ∃ n g, C g ∧ St Γ (Fg g) (Hg g) a' w' ∧ μ g = n := ⟨_, g', hg', hs' a' w' s', rfl⟩
    have := (Jk hex').2 _ ⟨g', hg', hs' a' w' s', rfl⟩
    show leastOr _ < leastOr _
    omega
  | _ => exact ⟨F', H', q, s'⟩
end


def Ext (w w' : World) : Prop := ∀ a v, w.cell? a = some v → w'.cell? a = some v
theorem Ext.refl (w : World) : Ext w w := fun _ _ h => h

def ovO (F : Fr) : Operand → Option V
  | .tmp t => Cp F t
  | .const (.int k n) => some (.i k n)
  | .const (.bool x) => some (.b x)
  | .const (.string x) => some (.s x)
  | .const v => some (.c v)
  | .func f => some (.f f [])
  | .global g => some (.c (.pointer (some ⟨g, 0, none⟩)))

section
variable {P : Program} {Γ : Ctx} {F : Fr} {H : List Ob} {Q : Exit → Fr → List Ob → Prop}

theorem StA.ov {ρ : List Re} {a : Act} {w : World} (s : StA Γ ρ F H a w) {x : Operand} {y : V} (h : ovO F x = some y) : Rel w (Bb Γ.M ρ H) Γ.w0.heap.size ρ y (a.eval x) := by
  cases x with
  | tmp t =>
    have := s.fr t
    unfold get at this
    rw [show Cp F t = some y from h] at this
    exact this
  | const v => cases v <;> (injection h with h; subst h; rfl)
  | func f => injection h with h; subst h; exact ⟨[], rfl, rfl⟩
  | global g => injection h with h; subst h; rfl

def LY (P : Program) (Γ : Ctx) (op : Op) (F : Fr) (H : List Ob) (y : V) : Prop :=
  ∀ ρ a w, StA Γ ρ F H a w → ∃ v, Rel w (Bb Γ.M ρ H) Γ.w0.heap.size ρ y v ∧
    ∀ (dst : Option Tmp) (type : TypeId) (pos : String) (after : Array Edge) (g : Option (Nat × Bool)) (w' : World), Ext w w' → (execOp a.eval ⟨dst, op, type, pos, after, g⟩).run P w' = .ok (.value v) w'

theorem Iu (F : Fr) (t k : Nat) (y : V) : get ((t, y) :: F) k = if k = t then y else get F k := by
  unfold get
  by_cases h : k = t
  · subst h; simp [Cp]
  · have : Nat.beq k t = false := by
      cases hb : Nat.beq k t
      · rfl
      · exact absurd (Nat.eq_of_beq_eq_true hb) h
    simp [Cp, this, h]

theorem StA.put {ρ : List Re} {a : Act} {w : World} (s : StA Γ ρ F H a w) {d : Nat} (hd : d < Γ.N) {y : V} {v : Value} (r : Rel w (Bb Γ.M ρ H) Γ.w0.heap.size ρ y v) :
    StA Γ ρ ((d, y) :: F) H (a.put (some d) v) w := by
  refine ⟨s.hr, by simpa [Act.put] using s.n, by simpa [Act.put] using s.ds, fun t => ?_, s.fro⟩
  rw [Iu]
  by_cases h : t = d
  · subst h
    have : t < a.tmps.size := Nat.lt_of_lt_of_le hd s.n
    rw [if_pos rfl]
    simpa [Act.put, Array.getD_eq_getD_getElem?, this] using r
  · rw [if_neg h]
    have := s.fr t
    simpa [Act.put, Array.getD_eq_getD_getElem?, Array.getElem?_setIfInBounds_ne (Ne.symm h)] using this

theorem Ac {ops : Array Oper} {rest : List Oper} {d : Nat} {op : Op} {T : TypeId} {ps : String} {af : Array Edge} {y : V} (h : LY P Γ op F H y) (hd : d < Γ.N)
    (j : JO P ops rest Γ ((d, y) :: F) H Q) : JO P ops (⟨some d, op, T, ps, af, none⟩ :: rest) Γ F H Q := fun a w ⟨ρ, s⟩ => by
  obtain ⟨v, r, hr⟩ := h ρ a w s
  refine wpList_plain rfl fun K hK => ?_
  unfold Oper.wp
  rw [hr _ _ _ _ _ w (Ext.refl w)]
  exact hK _ _ (j _ _ ⟨ρ, s.put hd r⟩)
theorem Fl {ops : Array Oper} {ρ : List Re} {a : Act} {w : World} (s : StA Γ ρ F H a w) {j0 t0 : Nat} {b : Bool} (ht : (ops[j0]?).bind (·.dst) = some t0) (hb : Cp F t0 = some (.b b)) : yielded ops a.tmps j0 = some b := by
  have h1 := s.fr t0
  unfold get at h1
  rw [hb] at h1
  have h2 : a.tmps.getD t0 undef = .bool b := h1
  have h3 : a.tmps[t0]? = some (.bool b) := by
    rw [Array.getD_eq_getD_getElem?] at h2
    cases h : a.tmps[t0]? with
    | none => rw [h] at h2; cases h2
    | some v => rw [h] at h2; rw [show v = Value.bool b from h2]
  unfold yielded
  rw [ht]
  show (match a.tmps[t0]? with | some (.bool b) => some b | _ => none) = some b
  rw [h3]
theorem Hh {ops : Array Oper} {a : Act} {o : Oper} {j0 : Nat} {b : Bool} (hg : o.guard = some (j0, b)) (h : yielded ops a.tmps j0 = some b) : Region.wanted o (yielded ops a.tmps) = true := by
  unfold Region.wanted
  rw [hg]
  simp [h]
theorem Ke {ops : Array Oper} {a : Act} {o : Oper} {j0 : Nat} {b : Bool} (hg : o.guard = some (j0, b)) (h : yielded ops a.tmps j0 ≠ some b) : Region.wanted o (yielded ops a.tmps) = false := by
  unfold Region.wanted
  rw [hg]
  simpa using h
theorem Bi {ops : Array Oper} {rest : List Oper} {d : Nat} {op : Op} {T : TypeId} {ps : String} {af : Array Edge} {y : V} {j0 : Nat} {b0 : Bool} (t0 : Nat) (ht : (ops[j0]?).bind (·.dst) = some t0) (hb : Cp F t0 = some (.b b0))
    (h : LY P Γ op F H y) (hd : d < Γ.N)
    (j : JO P ops rest Γ ((d, y) :: F) H Q) : JO P ops (⟨some d, op, T, ps, af, some (j0, b0)⟩ :: rest) Γ F H Q := fun a w ⟨ρ, s⟩ => by
  obtain ⟨v, r, hr⟩ := h ρ a w s
  refine wpList_step fun K hK => ?_
  rw [if_pos (Hh rfl (Fl s ht hb))]
  unfold Oper.wp
  rw [hr _ _ _ _ _ w (Ext.refl w)]
  exact hK _ _ (j _ _ ⟨ρ, s.put hd r⟩)
theorem Bz {ops : Array Oper} {rest : List Oper} {d : Nat} {op : Op} {T : TypeId} {ps : String} {af : Array Edge} {j0 : Nat} {b0 b1 : Bool} (t0 : Nat) (ht : (ops[j0]?).bind (·.dst) = some t0) (hb : Cp F t0 = some (.b b1)) (hne : (b0 == b1) = false)
    (hd : d < Γ.N) (j : JO P ops rest Γ ((d, .c undef) :: F) H Q) : JO P ops (⟨some d, op, T, ps, af, some (j0, b0)⟩ :: rest) Γ F H Q := fun a w ⟨ρ, s⟩ => by
  refine wpList_step fun K hK => ?_
  rw [if_neg (by rw [Ke rfl (by rw [Fl s ht hb]; intro e; injection e with e; subst e; simp at hne)]; exact Bool.false_ne_true)]
  exact hK _ _ (j _ _ ⟨ρ, s.put hd (y := .c undef) rfl⟩)
theorem Nb {ops : Array Oper} {rest : List Oper} {d : Nat} {op : Op} {T : TypeId} {ps : String} {af : Array Edge} {j0 : Nat} {b0 : Bool} (t0 : Nat) (ht : (ops[j0]?).bind (·.dst) = some t0) (hb : Cp F t0 = some (.c undef))
    (hd : d < Γ.N) (j : JO P ops rest Γ ((d, .c undef) :: F) H Q) : JO P ops (⟨some d, op, T, ps, af, some (j0, b0)⟩ :: rest) Γ F H Q := fun a w ⟨ρ, s⟩ => by
  have h1 := s.fr t0
  unfold get at h1
  rw [hb] at h1
  have h2 : a.tmps.getD t0 undef = undef := h1
  have hy : yielded ops a.tmps j0 ≠ some b0 := by
    unfold yielded
    rw [ht]
    show (match a.tmps[t0]? with | some (.bool b) => some b | _ => none) ≠ some b0
    rw [Array.getD_eq_getD_getElem?] at h2
    cases h : a.tmps[t0]? with
    | none => simp
    | some v => rw [h] at h2; rw [show v = undef from h2]; simp [undef]
  refine wpList_step fun K hK => ?_
  rw [if_neg (by rw [Ke rfl hy]; exact Bool.false_ne_true)]
  exact hK _ _ (j _ _ ⟨ρ, s.put hd (y := .c undef) rfl⟩)

theorem Ay {x : Operand} {y : V} (h : ovO F x = some y) : LY P Γ (.move x) F H y := fun ρ a w s => ⟨_, s.ov h, fun _ _ _ _ _ _ _ => rfl⟩
theorem Cm {x : Operand} {y : V} (h : ovO F x = some y) : LY P Γ (.assign x) F H y := fun ρ a w s => ⟨_, s.ov h, fun _ _ _ _ _ _ _ => rfl⟩
theorem Dt {ρ : List Re} {a : Act} {w : World} (s : StA Γ ρ F H a w) {x : Operand} {k : IntKind} {n : Int} (h : ovO F x = some (.i k n)) : a.eval x = .int k n := by
  exact s.ov h
theorem Ix {ρ : List Re} {a : Act} {w : World} (s : StA Γ ρ F H a w) {x : Operand} {b : Bool} (h : ovO F x = some (.b b)) : a.eval x = .bool b := by
  exact s.ov h
theorem O5 {ρ : List Re} {a : Act} {w : World} (s : StA Γ ρ F H a w) {x : Operand} {b : ByteArray} (h : ovO F x = some (.s b)) : a.eval x = .string b := by
  exact s.ov h
theorem R7 {ρ : List Re} {a : Act} {w : World} (s : StA Γ ρ F H a w) {x : Operand} {v : Value} (h : ovO F x = some (.c v)) : a.eval x = v := by
  exact s.ov h
theorem Bt {c x z : Operand} {y : V} (hc : ovO F c = some (.b true)) (h : ovO F x = some y) : LY P Γ (.pick c x z) F H y := fun ρ a w s =>
  ⟨_, s.ov h, fun _ _ _ _ _ w' _ => by simp [execOp, Ix s hc, asBool]⟩
theorem Bg {c x z : Operand} {y : V} (hc : ovO F c = some (.b false)) (h : ovO F z = some y) : LY P Γ (.pick c x z) F H y := fun ρ a w s =>
  ⟨_, s.ov h, fun _ _ _ _ _ w' _ => by simp [execOp, Ix s hc, asBool]⟩
theorem El {s : Sem Value} {v : Value} {w w' : World} (h : s.run P w = .ok v w') : (do pure (.value (← s)) : Sem Next).run P w = .ok (.value v) w' := by
  rw [Sem.run_bind, h]; rfl
theorem H6 {op : BinOp} {T : TypeId} {x y : Operand} {k k' : IntKind} {a b : Int} (w : World) : (eqGuard op T x y (.int k a) (.int k' b)).run P w = .ok () w := by
  unfold eqGuard
  cases op <;> simp

section ints
variable {x y : Operand} {T T' : TypeId} {k : IntKind} {m n r : Int}
theorem In {op : BinOp} {u v z : Value} {yy : V} (hx : ∀ ρ a w, StA Γ ρ F H a w → a.eval x = u) (hy : ∀ ρ a w, StA Γ ρ F H a w → a.eval y = v) (hg : ∀ w, (eqGuard op T x y u v).run P w = .ok () w) (hb : ∀ w, (binOp op T u v).run P w = .ok z w)
    (hr : ∀ ρ a w, StA Γ ρ F H a w → Rel w (Bb Γ.M ρ H) Γ.w0.heap.size ρ yy z) : LY P Γ (.binOp op T x y T') F H yy := fun ρ a w s =>
  ⟨z, hr ρ a w s, fun _ _ _ _ _ w' _ => by
    have e1 : (do eqGuard op T x y (a.eval x) (a.eval y); binOp op T (a.eval x) (a.eval y) : Sem Value).run P w' = .ok z w' := by
      rw [hx ρ a w s, hy ρ a w s, Sem.run_bind, hg w']; exact hb w'
    exact El e1⟩
theorem G0 {op : BinOp} {z : Value} {yy : V} (hx : ovO F x = some (.i k m)) (hy : ovO F y = some (.i k n)) (hb : ∀ w, (binOp op T (.int k m) (.int k n)).run P w = .ok z w)
    (hr : ∀ w L B ρ, Rel w L B ρ yy z) : LY P Γ (.binOp op T x y T') F H yy :=
  In (fun _ _ _ s => Dt s hx) (fun _ _ _ s => Dt s hy) (fun w => H6 w) hb (fun _ _ _ _ => hr _ _ _ _)
theorem Bd (hx : ovO F x = some (.i k m)) (hy : ovO F y = some (.i k n)) (hr : k.wrap (m + n) = r) : LY P Γ (.binOp .add T x y T') F H (.i k r) :=
  G0 hx hy (z := .int k r) (fun w => by rw [← hr]; simp [binOp, Op.intArith]) (fun _ _ _ _ => rfl)
theorem Bm (hx : ovO F x = some (.i k m)) (hy : ovO F y = some (.i k n)) (hr : k.wrap (m - n) = r) : LY P Γ (.binOp .sub T x y T') F H (.i k r) :=
  G0 hx hy (z := .int k r) (fun w => by rw [← hr]; simp [binOp, Op.intArith]) (fun _ _ _ _ => rfl)
theorem Dw (hx : ovO F x = some (.i k m)) (hy : ovO F y = some (.i k n)) (hr : k.wrap (m * n) = r) : LY P Γ (.binOp .mul T x y T') F H (.i k r) :=
  G0 hx hy (z := .int k r) (fun w => by rw [← hr]; simp [binOp, Op.intArith]) (fun _ _ _ _ => rfl)
theorem Gc (hx : ovO F x = some (.i k m)) (hy : ovO F y = some (.i k n)) (h0 : n ≠ 0) (hr : k.wrap (m.tdiv n) = r) : LY P Γ (.binOp .quo T x y T') F H (.i k r) :=
  G0 hx hy (z := .int k r) (fun w => by rw [← hr]; simp [binOp, Op.intDiv, h0]) (fun _ _ _ _ => rfl)
theorem K4 (hx : ovO F x = some (.i k m)) (hy : ovO F y = some (.i k n)) (h0 : n ≠ 0) (hr : m.tmod n = r) : LY P Γ (.binOp .rem T x y T') F H (.i k r) :=
  G0 hx hy (z := .int k r) (fun w => by rw [← hr]; simp [binOp, Op.intDiv, h0]) (fun _ _ _ _ => rfl)
def Gm (op : BinOp) (k : IntKind) (m n : Int) : Int :=
  let a := BitVec.ofInt k.bits m
  let b := BitVec.ofInt k.bits n
  k.wrap (match op with | .and => (a &&& b).toNat | .or => (a ||| b).toNat | .xor => (a ^^^ b).toNat | _ => (a &&& ~~~b).toNat : Nat)
theorem Gd {op : BinOp} (hop : op = .and ∨ op = .or ∨ op = .xor ∨ op = .andNot) (hx : ovO F x = some (.i k m)) (hy : ovO F y = some (.i k n)) (hr : Gm op k m n = r) : LY P Γ (.binOp op T x y T') F H (.i k r) :=
  G0 hx hy (z := .int k r) (fun w => by rw [← hr]; rcases hop with rfl | rfl | rfl | rfl <;> simp [binOp, Op.intBits, Gm]) (fun _ _ _ _ => rfl)
theorem Gz {k' : IntKind} (hx : ovO F x = some (.i k m)) (hy : ovO F y = some (.i k' n)) (h0 : 0 ≤ n) (hr : k.wrap (m * 2 ^ min n.toNat k.bits) = r) : LY P Γ (.binOp .shl T x y T') F H (.i k r) :=
  In (fun _ _ _ s => Dt s hx) (fun _ _ _ s => Dt s hy) (fun w => H6 w) (z := .int k r) (fun w => by simp [binOp, Op.shift, show ¬ n < 0 by omega, ← hr]) (fun _ _ _ _ => rfl)
theorem Eh {k' : IntKind} (hx : ovO F x = some (.i k m)) (hy : ovO F y = some (.i k' n)) (h0 : 0 ≤ n) (hr : m.fdiv (2 ^ min n.toNat k.bits) = r) : LY P Γ (.binOp .shr T x y T') F H (.i k r) :=
  In (fun _ _ _ s => Dt s hx) (fun _ _ _ s => Dt s hy) (fun w => H6 w) (z := .int k r) (fun w => by simp [binOp, Op.shift, show ¬ n < 0 by omega, ← hr]) (fun _ _ _ _ => rfl)
theorem Cq (hx : ovO F x = some (.i k m)) (hy : ovO F y = some (.i k n)) : LY P Γ (.binOp .eql T x y T') F H (.b (decide (m = n))) :=
  G0 hx hy (z := .bool (m == n)) (fun w => by simp [binOp, Op.intCmp]) (fun _ _ _ _ => by show Value.bool _ = Value.bool _; congr 1)
theorem Ec (hx : ovO F x = some (.i k m)) (hy : ovO F y = some (.i k n)) : LY P Γ (.binOp .neq T x y T') F H (.b (decide (m ≠ n))) :=
  G0 hx hy (z := .bool (m != n)) (fun w => by simp [binOp, Op.intCmp]) (fun _ _ _ _ => by show Value.bool _ = Value.bool _; congr 1; simp [bne, Bool.beq_eq_decide_eq])
theorem Ca (hx : ovO F x = some (.i k m)) (hy : ovO F y = some (.i k n)) : LY P Γ (.binOp .lss T x y T') F H (.b (decide (m < n))) :=
  G0 hx hy (z := .bool (decide (m < n))) (fun w => by simp [binOp, Op.intCmp]) (fun _ _ _ _ => rfl)
theorem Jq (hx : ovO F x = some (.i k m)) (hy : ovO F y = some (.i k n)) : LY P Γ (.binOp .leq T x y T') F H (.b (decide (m ≤ n))) :=
  G0 hx hy (z := .bool (decide (m ≤ n))) (fun w => by simp [binOp, Op.intCmp]) (fun _ _ _ _ => rfl)
theorem Ce (hx : ovO F x = some (.i k m)) (hy : ovO F y = some (.i k n)) : LY P Γ (.binOp .gtr T x y T') F H (.b (decide (n < m))) :=
  G0 hx hy (z := .bool (decide (n < m))) (fun w => by simp [binOp, Op.intCmp]) (fun _ _ _ _ => rfl)
theorem F6 (hx : ovO F x = some (.i k m)) (hy : ovO F y = some (.i k n)) : LY P Γ (.binOp .geq T x y T') F H (.b (decide (n ≤ m))) :=
  G0 hx hy (z := .bool (decide (n ≤ m))) (fun w => by simp [binOp, Op.intCmp]) (fun _ _ _ _ => rfl)
theorem Ahj {op : UnOp} {u z : Value} {yy : V} (hx : ∀ ρ a w, StA Γ ρ F H a w → a.eval x = u) (hb : ∀ w, (Op.unary op u).run P w = .ok z w)
    (hr : ∀ w L B ρ, Rel w L B ρ yy z) : LY P Γ (.unOp op T x) F H yy := fun ρ a w s =>
  ⟨z, hr _ _ _ _, fun _ _ _ _ _ w' _ => by
    have e1 : (Op.unary op (a.eval x)).run P w' = .ok z w' := by rw [hx ρ a w s]; exact hb w'
    exact El e1⟩
theorem Ha {p : Bool} (hx : ovO F x = some (.b p)) : LY P Γ (.unOp .not T x) F H (.b (!p)) := Ahj (fun _ _ _ s => Ix s hx) (z := .bool (!p)) (fun w => by simp [Op.unary]) (fun _ _ _ _ => rfl)
theorem Jj (hx : ovO F x = some (.i k m)) (hr : k.wrap (0 - m) = r) : LY P Γ (.unOp .neg T x) F H (.i k r) := Ahj (fun _ _ _ s => Dt s hx) (z := .int k r) (fun w => by simp [Op.unary, Op.intArith, ← hr]) (fun _ _ _ _ => rfl)
theorem D5 {k' : IntKind} {D : TypeDesc} (hs : P.underlying T = some D) (hd : P.underlying T' = some (.int k')) (hx : ovO F x = some (.i k m)) (hr : k'.wrap m = r) : LY P Γ (.convert T T' x) F H (.i k' r) := fun ρ a w s =>
  ⟨.int k' r, rfl, fun _ _ _ _ _ w' _ => by
    have e1 : (convert T T' (a.eval x)).run P w' = .ok (.int k' r) w' := by
      rw [Dt s hx, ← hr]
      cases D <;> simp [convert, run_underlying hs, run_underlying hd, Conv.intToInt]
    exact El e1⟩
end ints

theorem Ahm {x y : Operand} {T T' : TypeId} {p q : Bool} (hT : P.underlying T = some .bool) (hx : ovO F x = some (.b p)) (hy : ovO F y = some (.b q)) : LY P Γ (.binOp .eql T x y T') F H (.b (p == q)) :=
  In (fun _ _ _ s => Ix s hx) (fun _ _ _ s => Ix s hy) (fun w => by simp [eqGuard]) (z := .bool (p == q)) (fun w => run_eql_bool w T p q hT) (fun _ _ _ _ => rfl)
theorem Ot {x y : Operand} {T T' : TypeId} {p q : Bool} (hT : P.underlying T = some .bool) (hx : ovO F x = some (.b p)) (hy : ovO F y = some (.b q)) : LY P Γ (.binOp .neq T x y T') F H (.b (!(p == q))) :=
  In (fun _ _ _ s => Ix s hx) (fun _ _ _ s => Ix s hy) (fun w => by simp [eqGuard]) (z := .bool (!(p == q))) (fun w => run_neq_bool w T p q hT) (fun _ _ _ _ => rfl)
theorem Ahl {x y : Operand} {T T' : TypeId} {p q : ByteArray} (hx : ovO F x = some (.s p)) (hy : ovO F y = some (.s q)) : LY P Γ (.binOp .eql T x y T') F H (.b (p.toList == q.toList)) :=
  In (fun _ _ _ s => O5 s hx) (fun _ _ _ s => O5 s hy) (fun w => by simp [eqGuard]) (z := .bool (p.toList == q.toList)) (fun w => by simp [binOp, Op.stringOp]) (fun _ _ _ _ => rfl)
theorem K5 {x y : Operand} {T T' : TypeId} {p q : ByteArray} (hx : ovO F x = some (.s p)) (hy : ovO F y = some (.s q)) (hle : ((p.size + q.size : Nat) : Int) ≤ IntKind.i64.max) : LY P Γ (.binOp .add T x y T') F H (.s (p ++ q)) :=
  In (fun _ _ _ s => O5 s hx) (fun _ _ _ s => O5 s hy) (fun w => by simp [eqGuard]) (z := .string (p ++ q)) (fun w => by simp only [binOp, Op.stringOp]; rw [if_neg (by omega)]; rfl) (fun _ _ _ _ => rfl)
end


def Iz (P : Program) (T : TypeId) : Bool :=
  (match P.underlying T with | some (.struct _) | some (.array _ _) | none => false | _ => true) && (P.info? T).any (·.size == 1)
def Sr (P : Program) (T : TypeId) (n : Nat) : Bool :=
  (match P.underlying T with | some (.struct _) | some (.array _ _) => true | _ => false) && (P.info? T).any (·.size == n)
def Zg (P : Program) (S : TypeId) (f off n : Nat) : Bool :=
  match P.underlying S with
  | some (.struct fs) => (fs[f]?).any fun fd => fd.offset == off && (P.info? fd.type).any (·.size == n) && n != 0
  | _ => false
def slB (P : Program) (T E : TypeId) (n : Nat) : Bool :=
  (match P.underlying T with | some (.slice e) => e == E | _ => false) && (P.info? E).any (·.size == n)
def arB (P : Program) (T E : TypeId) (len n : Nat) : Bool :=
  (match P.underlying T with | some (.array l e) => e == E && l == len | _ => false) && (P.info? E).any (·.size == n)

section
variable {P : Program} {Γ : Ctx} {F : Fr} {H : List Ob} {Q : Exit → Fr → List Ob → Prop}

theorem Da {T n : Nat} (h : (P.info? T).any (·.size == n) = true) (w : World) : (sizeOf T).run P w = .ok n w := by
  cases hi : P.info? T with
  | none => rw [hi] at h; cases h
  | some i => rw [hi] at h; simp at h; simp [sizeOf, typeInfo, hi, h]
theorem I7 {T : TypeId} (h : Iz P T = true) (w : World) : (isAgg T).run P w = .ok false w := by
  unfold Iz at h
  cases hu : P.underlying T with
  | none => rw [hu] at h; cases h
  | some D => rw [hu] at h; cases D <;> first | (simp at h; done) | simp [isAgg, run_underlying hu]
theorem Md {T n : Nat} (h : Sr P T n = true) (w : World) : (isAgg T).run P w = .ok true w := by
  unfold Sr at h
  cases hu : P.underlying T with
  | none => rw [hu] at h; cases h
  | some D => rw [hu] at h; cases D <;> first | (simp at h; done) | simp [isAgg, run_underlying hu]
theorem Ik {T : TypeId} (h : Iz P T = true) : (P.info? T).any (·.size == 1) = true := by unfold Iz at h; simp only [Bool.and_eq_true] at h; exact h.2
theorem Pb {T n : Nat} (h : Sr P T n = true) : (P.info? T).any (·.size == n) = true := by unfold Sr at h; simp only [Bool.and_eq_true] at h; exact h.2
theorem Jx {T E n : Nat} (h : slB P T E n = true) : (P.info? E).any (·.size == n) = true := by unfold slB at h; simp only [Bool.and_eq_true] at h; exact h.2
theorem Hx {T E n : Nat} (h : slB P T E n = true) : P.underlying T = some (.slice E) := by
  unfold slB at h
  cases hu : P.underlying T with
  | none => rw [hu] at h; simp at h
  | some D => rw [hu] at h; cases D <;> simp at h; rw [h.1]
theorem Sq {T E l n : Nat} (h : arB P T E l n = true) : (P.info? E).any (·.size == n) = true := by unfold arB at h; simp only [Bool.and_eq_true] at h; exact h.2
theorem W0 {T E l n : Nat} (h : arB P T E l n = true) : P.underlying T = some (.array l E) := by
  unfold arB at h
  cases hu : P.underlying T with
  | none => rw [hu] at h; simp at h
  | some D => rw [hu] at h; cases D <;> simp at h; rw [h.1.1, h.1.2]
theorem V0 {S f off n : Nat} (h : Zg P S f off n = true) : ∃ fs fd, P.underlying S = some (.struct fs) ∧ fs[f]? = some fd ∧ fd.offset = off ∧ (P.info? fd.type).any (·.size == n) = true ∧ n ≠ 0 := by
  unfold Zg at h
  cases hu : P.underlying S with
  | none => rw [hu] at h; cases h
  | some D =>
    rw [hu] at h
    cases D <;> first | (simp at h; done) | skip
    rename_i fs
    simp only at h
    cases hf : fs[f]? with
    | none => rw [hf] at h; cases h
    | some fd =>
      rw [hf] at h
      simp only [Option.any_some, Bool.and_eq_true, beq_iff_eq, bne_iff_ne] at h
      exact ⟨fs, fd, rfl, hf, h.1.1, h.1.2, h.2⟩

structure Own (Γ : Ctx) (ρ : List Re) (H : List Ob) (w : World) (id : Nat) (ob : Ob) (re : Re) : Prop where
  at_ : ρ[id]? = some re
  ok : ObOk w (Bb Γ.M ρ H) Γ.w0.heap.size ρ re ob
theorem StA.own {ρ : List Re} {a : Act} {w : World} (s : StA Γ ρ F H a w) {id : Nat} {ob : Ob} (h : H[id]? = some ob) (hl : ob.live = true) : ∃ re, Own Γ ρ H w id ob re := by
  obtain ⟨re, h1, h2⟩ := s.hr.ob id ob h hl
  exact ⟨re, h1, h2⟩
theorem Own.cell {ρ : List Re} {w : World} {id : Nat} {ob : Ob} {re : Re} (o : Own Γ ρ H w id ob re) {g : Nat} (hg : re.g = some g) {j : Nat} {y : V} (hy : ob.cs[j]? = some y) :
    ∃ u, w.cell? ⟨g, j, none⟩ = some u ∧ u.oneCell' = true ∧ Rel w (Bb Γ.M ρ H) Γ.w0.heap.size ρ y u := by
  obtain ⟨cur, hc, _, _, _, hcs⟩ := o.ok.blk g hg
  obtain ⟨u, h1, h2, h3⟩ := hcs j y hy
  exact ⟨u, by simp [World.cell?, hc, h1], h2, h3⟩

theorem F3 {T : TypeId} (hT : Iz P T = true) {ad : Addr} {u : Value} {w : World} (h : w.cell? ad = some u) : (Instr.loadAt T (.pointer (some ad))).run P w = .ok u w := by
  simp [Instr.loadAt, Instr.sureAddr, loadVar, I7 hT, load, Sem.run, h]
theorem Hq {T : TypeId} {us : List Value} (hT : Sr P T us.length = true) {ad : Addr} {w : World} (h : ∀ j v, us[j]? = some v → w.cell? (ad.add j) = some v) : (Instr.loadAt T (.pointer (some ad))).run P w = .ok (.agg us.toArray) w := by
  simp [Instr.loadAt, Instr.sureAddr, loadVar, Md hT, Da (Pb hT), run_loadCells_list w ad us h]

theorem Cj (g o j : Nat) : (⟨g, o, none⟩ : Addr).add j = ⟨g, o + j, none⟩ := by unfold Addr.add; split <;> simp_all

theorem A9 {T : TypeId} {x : Operand} {id ver off : Nat} {t sz : Nat} {cs : List V} {y : V} (hT : Iz P T = true) (hx : ovO F x = some (.p id ver off)) (hH : H[id]? = some ⟨t, sz, ver, true, cs⟩) (hy : cs[off]? = some y) :
    LY P Γ (.load T x) F H y := fun ρ a w s => by
  obtain ⟨re, o⟩ := s.own hH rfl
  obtain ⟨re', e1, hle, hp⟩ := s.ov hx
  obtain rfl : re' = re := by have := e1.symm.trans o.at_; injection this
  obtain ⟨g, hg, hv⟩ := hp (o.ok.ver.symm)
  obtain ⟨u, hc, _, hr⟩ := o.cell hg hy
  refine ⟨u, hr, fun _ _ _ _ _ w' hw' => ?_⟩
  have e : (Instr.loadAt T (a.eval x)).run P w' = .ok u w' := by rw [hv]; exact F3 hT (hw' _ _ hc)
  exact El e
def Km : List V → Nat → Nat → List V
  | _, _, 0 => []
  | [], _, _ + 1 => []
  | c :: cs, 0, n + 1 => c :: Km cs 0 n
  | _ :: cs, o + 1, n + 1 => Km cs o (n + 1)
theorem Id : ∀ (cs : List V) (o n : Nat), Km cs o n = (cs.drop o).take n
  | cs, o, 0 => by unfold Km; simp
  | [], o, n + 1 => by simp [Km]
  | c :: cs, 0, n + 1 => by simp [Km, Id cs 0 n]
  | c :: cs, o + 1, n + 1 => by simp [Km, Id cs o (n + 1)]
theorem G9 {ρ : List Re} {w : World} {id : Nat} {ob : Ob} {re : Re} (o : Own Γ ρ H w id ob re) {g : Nat} (hg : re.g = some g) : ∀ (ys : List V) (off : Nat), (∀ j y, ys[j]? = some y → ob.cs[off + j]? = some y) →
    ∃ us : List Value, us.length = ys.length ∧ RelL w (Bb Γ.M ρ H) Γ.w0.heap.size ρ ys us ∧ (∀ u ∈ us, u.oneCell' = true) ∧ ∀ j v, us[j]? = some v → w.cell? ((⟨g, off, none⟩ : Addr).add j) = some v
  | [], off, _ => ⟨[], rfl, rfl, by simp, by simp⟩
  | y :: ys, off, h => by
    obtain ⟨u, hc, h1, hr⟩ := o.cell hg (h 0 y rfl)
    obtain ⟨us, hlen, hrs, hone, hcs⟩ := G9 o hg ys (off + 1) (fun j z hz => by have := h (j + 1) z (by simpa using hz); rwa [show off + (j + 1) = off + 1 + j by omega] at this)
    refine ⟨u :: us, by simp [hlen], ⟨u, us, rfl, hr, hrs⟩, by simp [h1]; exact hone, fun j v hv => ?_⟩
    cases j with
    | zero => simp at hv; subst hv; rw [Cj]; exact hc
    | succ j =>
      have := hcs j v (by simpa using hv)
      rw [Cj] at this ⊢
      rwa [show off + (j + 1) = off + 1 + j by omega]
theorem Au {T n : Nat} {x : Operand} {id ver off : Nat} {t sz : Nat} {cs : List V} {ys : List V} (hT : Sr P T n = true) (hx : ovO F x = some (.p id ver off)) (hH : H[id]? = some ⟨t, sz, ver, true, cs⟩) (hy : Km cs off n = ys) (hn : ys.length = n) :
    LY P Γ (.load T x) F H (.a ys) := fun ρ a w s => by
  obtain ⟨re, o⟩ := s.own hH rfl
  obtain ⟨re', e1, hle, hp⟩ := s.ov hx
  obtain rfl : re' = re := by have := e1.symm.trans o.at_; injection this
  obtain ⟨g, hg, hv⟩ := hp (o.ok.ver.symm)
  obtain ⟨us, hlen, hrs, _, hcs⟩ := G9 o hg ys off (fun j y h => by
    rw [← hy, Id] at h
    rw [List.getElem?_take] at h
    split at h
    · rw [List.getElem?_drop] at h; exact h
    · cases h)
  refine ⟨_, ⟨us, rfl, hrs⟩, fun _ _ _ _ _ w' hw' => ?_⟩
  have e : (Instr.loadAt T (a.eval x)).run P w' = .ok (.agg us.toArray) w' := by rw [hv]; exact Hq (by rw [hlen, hn]; exact hT) (fun j v h => hw' _ _ (hcs j v h))
  exact El e
def old : V → V
  | .i k n => .i k n
  | .b x => .b x
  | .s x => .s x
  | .c v => .c v
  | .n _ k l => .n false k l
  | .l _ sz es => .l false sz es
  | .q es => .q es
  | .f fn [] => .f fn []
  | _ => .u
theorem Ut {w : World} {L : Nat → Prop} {B : Nat} {ρ : List Re} : ∀ {y : V} {u : Value}, Rel w L 0 [] y u → Rel w L B ρ (old y) u
  | .i _ _, _, h => h
  | .b _, _, h => h
  | .s _, _, h => h
  | .c _, _, h => h
  | .n fr k l, u, ⟨A, c, e, h1, h2, h3⟩ => ⟨A, c, e, h1, h2, fun hl => by obtain ⟨ad, e1, hb, hc⟩ := h3 hl; exact ⟨ad, e1, ⟨hb.1, hb.2.1, by simp⟩, hc⟩⟩
  | .l fr sz es, u, ⟨A, c, e, h1, h2, h3⟩ => ⟨A, c, e, h1, h2, fun hl => by obtain ⟨ad, e1, hb, hc⟩ := h3 hl; exact ⟨ad, e1, ⟨hb.1, hb.2.1, by simp⟩, hc⟩⟩
  | .q es, u, ⟨ad, e, hb, hc⟩ => ⟨ad, e, ⟨hb.1, hb.2.1, by simp⟩, hc⟩
  | .f fn [], u, ⟨us, e, hr⟩ => ⟨us, e, hr⟩
  | .f fn (_ :: _), u, _ => trivial
  | .p _ _ _, _, _ => trivial
  | .o _ _ _ _, _, _ => trivial
  | .u, _, _ => trivial
  | .a _, _, _ => trivial
  | .t _, _, _ => trivial
theorem B8 {T : TypeId} {x : Operand} {y z : V} {ys : List V} (hT : Iz P T = true) (hx : ovO F x = some (.q (y :: ys))) (hz : old y = z) : LY P Γ (.load T x) F H z := fun ρ a w s => by
  obtain ⟨ad, hv, _, ⟨u, hc, hr⟩, _⟩ := s.ov hx
  refine ⟨u, hz ▸ Ut hr, fun _ _ _ _ _ w' hw' => ?_⟩
  have e : (Instr.loadAt T (a.eval x)).run P w' = .ok u w' := by rw [hv]; exact F3 hT (hw' _ _ (by simpa [Addr.add] using hc))
  exact El e
theorem Og {w : World} {L : Nat → Prop} {B : Nat} {ρ : List Re} {ad : Addr} : ∀ (ys : List V) (k : Nat), RelC w L 0 [] ad k ys → ∃ us : List Value, us.length = ys.length ∧ RelL w L B ρ (ys.map old) us ∧ ∀ j v, us[j]? = some v → w.cell? (ad.add (k + j)) = some v
  | [], k, _ => ⟨[], rfl, rfl, by simp⟩
  | y :: ys, k, ⟨⟨u, hc, hr⟩, h⟩ => by
    obtain ⟨us, hlen, hrs, hcs⟩ := Og ys (k + 1) h
    refine ⟨u :: us, by simp [hlen], ⟨u, us, rfl, Ut hr, hrs⟩, fun j v hv => ?_⟩
    cases j with
    | zero => simp at hv; subst hv; exact hc
    | succ j => have := hcs j v (by simpa using hv); rwa [show k + (j + 1) = k + 1 + j by omega]
theorem M6 {T n : Nat} {x : Operand} {ys zs : List V} (hT : Sr P T n = true) (hx : ovO F x = some (.q ys)) (hn : ys.length = n) (hz : ys.map old = zs) : LY P Γ (.load T x) F H (.a zs) := fun ρ a w s => by
  obtain ⟨ad, hv, _, hc⟩ := s.ov hx
  obtain ⟨us, hlen, hrs, hcs⟩ := Og ys 0 hc
  refine ⟨_, ⟨us, rfl, hz ▸ hrs⟩, fun _ _ _ _ _ w' hw' => ?_⟩
  have e : (Instr.loadAt T (a.eval x)).run P w' = .ok (.agg us.toArray) w' := by rw [hv]; exact Hq (by rw [hlen, hn]; exact hT) (fun j v h => hw' _ _ (by have := hcs j v h; rwa [Nat.zero_add] at this))
  exact El e

theorem Pw {S f off n : Nat} (h : Zg P S f off n = true) (ad : Addr) (w : World) : (Instr.fieldAt S (.pointer (some ad)) f).run P w = .ok (.pointer (some (ad.add off))) w := by
  obtain ⟨fs, fd, hu, hf, ho, hs, hn⟩ := V0 h
  simp [Instr.fieldAt, run_underlying hu, hf, Instr.sureAddr, fieldPlace, Da hs, hn, ho]
theorem StA.ptr {ρ : List Re} {a : Act} {w : World} (s : StA Γ ρ F H a w) {x : Operand} {id ver off : Nat} {t sz : Nat} {cs : List V} (hx : ovO F x = some (.p id ver off)) (hH : H[id]? = some ⟨t, sz, ver, true, cs⟩) :
    ∃ re g, Own Γ ρ H w id ⟨t, sz, ver, true, cs⟩ re ∧ re.g = some g ∧ a.eval x = .pointer (some ⟨g, off, none⟩) := by
  obtain ⟨re, o⟩ := s.own hH rfl
  obtain ⟨re', e1, hle, hp⟩ := s.ov hx
  obtain rfl : re' = re := by have := e1.symm.trans o.at_; injection this
  obtain ⟨g, hg, hv⟩ := hp (o.ok.ver.symm)
  exact ⟨re', g, o, hg, hv⟩
theorem Own.p {ρ : List Re} {w : World} {id : Nat} {ob : Ob} {re : Re} (o : Own Γ ρ H w id ob re) {g : Nat} (hg : re.g = some g) (off : Nat) :
    Rel w (Bb Γ.M ρ H) Γ.w0.heap.size ρ (.p id ob.ver off) (.pointer (some ⟨g, off, none⟩)) := ⟨re, o.at_, by rw [o.ok.ver]; exact Nat.le_refl _, fun _ => ⟨g, hg, rfl⟩⟩
theorem A5 {S f off n : Nat} {x : Operand} {id ver o : Nat} {t sz : Nat} {cs : List V} {r : Nat} (hS : Zg P S f off n = true) (hx : ovO F x = some (.p id ver o)) (hH : H[id]? = some ⟨t, sz, ver, true, cs⟩) (hr : o + off = r) :
    LY P Γ (.fieldAddr S x f) F H (.p id ver r) := fun ρ a w s => by
  obtain ⟨re, g, ow, hg, hv⟩ := s.ptr hx hH
  refine ⟨.pointer (some ⟨g, r, none⟩), ow.p hg r, fun _ _ _ _ _ w' _ => ?_⟩
  have e : (Instr.fieldAt S (a.eval x) f).run P w' = .ok (.pointer (some ⟨g, r, none⟩)) w' := by rw [hv, Pw hS, Cj, hr]
  exact El e
theorem Ku {w : World} {L : Nat → Prop} {B : Nat} {ρ : List Re} {ad : Addr} (off : Nat) : ∀ (ys : List V) (k : Nat), RelC w L B ρ (ad.add off) k ys ↔ RelC w L B ρ ad (off + k) ys
  | [], k => Iff.rfl
  | y :: ys, k => by
    have e : (ad.add off).add k = ad.add (off + k) := by
      unfold Addr.add
      (repeat' split) <;> simp_all <;> omega
    show (∃ u, w.cell? ((ad.add off).add k) = some u ∧ _) ∧ RelC w L B ρ (ad.add off) (k + 1) ys ↔ (∃ u, w.cell? (ad.add (off + k)) = some u ∧ _) ∧ RelC w L B ρ ad (off + k + 1) ys
    rw [e, Ku off ys (k + 1)]
    exact Iff.rfl
theorem Jh {w : World} {L : Nat → Prop} {B : Nat} {ρ : List Re} {ad : Addr} : ∀ (off : Nat) (ys : List V) (k : Nat), RelC w L B ρ ad k ys → RelC w L B ρ ad (k + off) (ys.drop off)
  | 0, ys, k, h => h
  | off + 1, [], k, h => trivial
  | off + 1, y :: ys, k, h => by
    have := Jh off ys (k + 1) h.2
    rwa [show k + 1 + off = k + (off + 1) by omega] at this
theorem F4 {T E sz : Nat} (hT : slB P T E sz = true) {ad : Addr} {len cap : Nat} {k : IntKind} {n : Int} (h0 : 0 ≤ n) (h1 : n < len) (w : World) :
    (Instr.indexAt T (.slice (some ad) len cap) (.int k n)).run P w = .ok (.pointer (some (ad.add (n.toNat * sz)))) w := by
  simp [Instr.indexAt, run_underlying (Hx hT), asIntOf, Da (Jx hT), h0, h1]
theorem Ck {T E sz : Nat} {x ix : Operand} {id ver off len : Nat} {t : Nat} {cs : List V} {k : IntKind} {n : Int} {i r : Nat} (hT : slB P T E sz = true) (hx : ovO F x = some (.o id ver off len)) (hH : H[id]? = some ⟨t, sz, ver, true, cs⟩) (hi : ovO F ix = some (.i k n)) (hn : n = (i : Int))
    (h1 : i < len) (hr : (off + i) * sz = r) : LY P Γ (.indexAddr T x ix) F H (.p id ver r) := fun ρ a w s => by
  obtain ⟨re, o⟩ := s.own hH rfl
  obtain ⟨re', e1, hle, hp⟩ := s.ov hx
  obtain rfl : re' = re := by have := e1.symm.trans o.at_; injection this
  obtain ⟨hcap, ⟨g, ad, hg, hv, had⟩ | ⟨_, _, _, h⟩⟩ := hp (o.ok.ver.symm)
  · have hsz : re'.sz = sz := o.ok.sz
    refine ⟨.pointer (some ⟨g, r, none⟩), o.p hg r, fun _ _ _ _ _ w' _ => ?_⟩
    have e : (Instr.indexAt T (a.eval x) (a.eval ix)).run P w' = .ok (.pointer (some ⟨g, r, none⟩)) w' := by
      rw [hv, Dt s hi, hn, F4 hT (by omega) (by omega), had (by omega), Cj, hsz]
      congr 4
      rw [← hr, Nat.add_mul]; simp
    exact El e
  · omega
theorem Cc {T E : Nat} {x ix : Operand} {fr : Bool} {kk : IntKind} {l : List Int} {k : IntKind} {n : Int} {i : Nat} (hT : slB P T E 1 = true) (hx : ovO F x = some (.n fr kk l)) (hi : ovO F ix = some (.i k n)) (hn : n = (i : Int))
    (h1 : i < l.length) : LY P Γ (.indexAddr T x ix) F H (.q [.i kk (l.getD i 0)]) := fun ρ a w s => by
  obtain ⟨A, c, hv, _, _, h3⟩ := s.ov hx
  obtain ⟨ad, rfl, hb, hc⟩ := h3 (by intro e; rw [e] at h1; simp at h1)
  refine ⟨.pointer (some (ad.add i)), ⟨ad.add i, rfl, by rw [Gl]; exact ⟨hb.1, hb.2.1, by simp⟩, ⟨_, ?_, rfl⟩, trivial⟩, fun _ _ _ _ _ w' _ => ?_⟩
  · have e : (ad.add i).add 0 = ad.add i := by simp [Addr.add]
    rw [e]
    exact hc i _ (by rw [List.getD_eq_getElem?_getD, List.getElem?_eq_getElem h1]; rfl)
  · have e : (Instr.indexAt T (a.eval x) (a.eval ix)).run P w' = .ok (.pointer (some (ad.add i))) w' := by
      rw [hv, Dt s hi, hn, F4 hT (by omega) (by omega)]; simp
    exact El e
theorem Uw {w : World} {L : Nat → Prop} {B : Nat} {ρ : List Re} {sz : Nat} {ad : Addr} : ∀ (es : List (List V)) (k i : Nat) (r : List V), RelR w L B ρ sz ad k es → es[i]? = some r → r.length = sz ∧ RelC w L B ρ ad (k + i * sz) r
  | [], _, i, r, _, h => by simp at h
  | e :: es, k, 0, r, h, hr => by simp at hr; subst hr; exact ⟨h.1, by simpa using h.2.1⟩
  | e :: es, k, i + 1, r, h, hr => by
    have := Uw es (k + sz) i r h.2.2 (by simpa using hr)
    rwa [show k + sz + i * sz = k + (i + 1) * sz by rw [Nat.add_mul]; omega] at this
theorem Ov {T E sz : Nat} {x ix : Operand} {fr : Bool} {es : List (List V)} {row : List V} {k : IntKind} {n : Int} {i : Nat} (hT : slB P T E sz = true) (hx : ovO F x = some (.l fr sz es)) (hi : ovO F ix = some (.i k n)) (hn : n = (i : Int))
    (h1 : es[i]? = some row) : LY P Γ (.indexAddr T x ix) F H (.q row) := fun ρ a w s => by
  obtain ⟨A, c, hv, _, _, h3⟩ := s.ov hx
  have hlt : i < es.length := (List.getElem?_eq_some_iff.1 h1).1
  obtain ⟨ad, rfl, hb, hc⟩ := h3 (by intro e; rw [e] at hlt; simp at hlt)
  obtain ⟨_, hc'⟩ := Uw es 0 i row hc h1
  refine ⟨.pointer (some (ad.add (i * sz))), ⟨ad.add (i * sz), rfl, by rw [Gl]; exact ⟨hb.1, hb.2.1, by simp⟩, ?_⟩, fun _ _ _ _ _ w' _ => ?_⟩
  · rw [Ku]; simpa using hc'
  · have e : (Instr.indexAt T (a.eval x) (a.eval ix)).run P w' = .ok (.pointer (some (ad.add (i * sz)))) w' := by
      rw [hv, Dt s hi, hn, F4 hT (by omega) (by omega)]; simp
    exact El e
theorem Vh {T E l sz : Nat} {x ix : Operand} {id ver o : Nat} {t sz' : Nat} {cs : List V} {k : IntKind} {n : Int} {i r : Nat} (hT : arB P T E l sz = true) (hx : ovO F x = some (.p id ver o)) (hH : H[id]? = some ⟨t, sz', ver, true, cs⟩) (hi : ovO F ix = some (.i k n)) (hn : n = (i : Int))
    (h1 : i < l) (hr : o + i * sz = r) : LY P Γ (.indexAddr T x ix) F H (.p id ver r) := fun ρ a w s => by
  obtain ⟨re, g, ow, hg, hv⟩ := s.ptr hx hH
  refine ⟨.pointer (some ⟨g, r, none⟩), ow.p hg r, fun _ _ _ _ _ w' _ => ?_⟩
  have e : (Instr.indexAt T (a.eval x) (a.eval ix)).run P w' = .ok (.pointer (some ⟨g, r, none⟩)) w' := by
    rw [hv, Dt s hi, hn]
    simp [Instr.indexAt, run_underlying (W0 hT), asIntOf, Da (Sq hT), Instr.sureAddr, h1, Cj, hr]
  exact El e

def Hu (s : ByteArray) (i : Nat) : Int := if h : i < s.size then ((s[i]'h).toNat : Int) else 0
theorem O9 (s : ByteArray) (i : Nat) : 0 ≤ Hu s i ∧ Hu s i < 256 := by
  unfold Hu
  split
  · have := (s[i]).toNat_lt; omega
  · omega
theorem Abk {T : TypeId} {x ix : Operand} {b : ByteArray} {k : IntKind} {n : Int} {i : Nat} (hT : P.underlying T = some .string) (hx : ovO F x = some (.s b)) (hi : ovO F ix = some (.i k n)) (hn : n = (i : Int)) (h1 : i < b.size) :
    LY P Γ (.index T x ix) F H (.i .u8 (Hu b i)) := fun ρ a w s =>
  ⟨.int .u8 (Hu b i), rfl, fun _ _ _ _ _ w' _ => by
    have e : (Instr.index T (a.eval x) (a.eval ix)).run P w' = .ok (.int .u8 (Hu b i)) w' := by
      rw [O5 s hx, Dt s hi, hn]
      have h2 : b[i]? = some b[i] := by simp [getElem?_pos, h1]
      simp [Instr.index, asIntOf, run_underlying hT, h2, Hu, h1]
    exact El e⟩
theorem Ea {b : Builtin} {args : Array Operand} {ts : Array TypeId} {T : TypeId} {a : Act} {vs : List Value} {w w' : World} {v : Value} (hargs : args.map a.eval = vs.toArray) (f : Array TypeId → TypeId → Array Value → Sem Value)
    (hb : ∀ cs as, builtin b ts T cs as = (do pure (.value (← f ts T as)) : Sem Next)) (h : (f ts T vs.toArray).run P w = .ok v w') (dst : Option Tmp) (ps : String) (af : Array Edge) (g : Option (Nat × Bool)) :
    (execOp a.eval ⟨dst, .call { callee := .builtin b, args := args, argTypes := ts }, T, ps, af, g⟩).run P w = .ok (.value v) w' := by
  simp only [execOp, resolve, hargs, Sem.run_bind, Sem.run_pure, Result.andThen_ok, invoke, hb]
  rw [h]; rfl
theorem Abj {x : Operand} {T : TypeId} {y : V} {m : Nat} (hx : ovO F x = some y) (hl : ∀ w L B ρ v, Rel w L B ρ y v → ∀ w' U, (Builtin.len_ #[T] U #[v]).run P w' = .ok (.int .i64 m) w') :
    LY P Γ (.call { callee := .builtin .len, args := #[x], argTypes := #[T] }) F H (.i .i64 m) := fun ρ a w s =>
  ⟨.int .i64 m, rfl, fun _ U _ _ _ w' _ => Ea (vs := [a.eval x]) (by simp) (fun ts t a_ => Builtin.len_ ts t a_) (fun _ _ => rfl) (hl _ _ _ _ _ (s.ov hx) w' U) _ _ _ _⟩
theorem Ar {x : Operand} {T E sz : Nat} {fr : Bool} {k : IntKind} {l : List Int} (hT : slB P T E sz = true) (hx : ovO F x = some (.n fr k l)) : LY P Γ (.call { callee := .builtin .len, args := #[x], argTypes := #[T] }) F H (.i .i64 l.length) :=
  Abj hx fun w L B ρ v r w' U => by obtain ⟨A, c, rfl, _⟩ := r; simp [Builtin.len_, run_underlying (Hx hT), goInt]
theorem I8 {x : Operand} {T E sz : Nat} {fr : Bool} {z : Nat} {es : List (List V)} (hT : slB P T E sz = true) (hx : ovO F x = some (.l fr z es)) : LY P Γ (.call { callee := .builtin .len, args := #[x], argTypes := #[T] }) F H (.i .i64 es.length) :=
  Abj hx fun w L B ρ v r w' U => by obtain ⟨A, c, rfl, _⟩ := r; simp [Builtin.len_, run_underlying (Hx hT), goInt]
theorem E7 {x : Operand} {T E sz : Nat} {id ver off len : Nat} {t z : Nat} {cs : List V} (hT : slB P T E sz = true) (hx : ovO F x = some (.o id ver off len)) (hH : H[id]? = some ⟨t, z, ver, true, cs⟩) : LY P Γ (.call { callee := .builtin .len, args := #[x], argTypes := #[T] }) F H (.i .i64 len) := fun ρ a w s => by
  obtain ⟨re, o⟩ := s.own hH rfl
  obtain ⟨re', e1, hle, hp⟩ := s.ov hx
  obtain rfl : re' = re := by have := e1.symm.trans o.at_; injection this
  obtain ⟨hcap, hq⟩ := hp (o.ok.ver.symm)
  have hv : ∃ A c, a.eval x = .slice A len c := by
    rcases hq with ⟨g, ad, _, hv, _⟩ | ⟨_, hv, _, h⟩
    · exact ⟨_, _, hv⟩
    · exact ⟨none, 0, by rw [hv, h]⟩
  obtain ⟨A, c, hv⟩ := hv
  exact ⟨.int .i64 len, rfl, fun _ U _ _ _ w' _ => Ea (vs := [a.eval x]) (by simp) (fun ts t a_ => Builtin.len_ ts t a_) (fun _ _ => rfl) (by rw [hv]; simp [Builtin.len_, run_underlying (Hx hT), goInt]) _ _ _ _⟩
theorem Fq {w : World} {L : Nat → Prop} {B : Nat} {ρ : List Re} : ∀ (ys : List V) (us : List Value) (i : Nat) (y : V), RelL w L B ρ ys us → ys[i]? = some y → ∃ u, us[i]? = some u ∧ Rel w L B ρ y u
  | [], _, i, y, _, h => by simp at h
  | z :: ys, us, 0, y, ⟨u, us', e, h1, h2⟩, hy => by simp at hy; subst hy; exact ⟨u, by simp [e], h1⟩
  | z :: ys, us, i + 1, y, ⟨u, us', e, h1, h2⟩, hy => by
    obtain ⟨u', e', h'⟩ := Fq ys us' i y h2 (by simpa using hy)
    exact ⟨u', by simp [e, e'], h'⟩
theorem Ai {x : Operand} {vs : List V} {i : Nat} {y : V} (hx : ovO F x = some (.t vs)) (hy : vs[i]? = some y) : LY P Γ (.extract x i) F H y := fun ρ a w s => by
  obtain ⟨us, hv, hr⟩ := s.ov hx
  obtain ⟨u, hu, hr'⟩ := Fq vs us i y hr hy
  refine ⟨u, hr', fun _ _ _ _ _ w' _ => ?_⟩
  have e : (Instr.extract (a.eval x) i).run P w' = .ok u w' := by rw [hv]; simp [Instr.extract, hu]
  exact El e
end


section
variable {P : Program} {Γ : Ctx} {F : Fr} {H : List Ob} {Q : Exit → Fr → List Ob → Prop}

theorem Gj (w : World) (o : Obj) : Ext w (w.alloc o) := fun a v h => by
  have := World.block_lt_of_cell? w a h
  rw [World.cell?_of_block (Below.heap_alloc w o a.block this)]; exact h

theorem Xd {M : Nat → Prop} {ρ : List Re} {H : List Ob} {re : Re} {ob : Ob} (hl : ρ.length = H.length) {b : Nat} (h : Bb M (ρ ++ [re]) (H ++ [ob]) b) : Bb M ρ H b ∨ re.g = some b := by
  rcases h with h | ⟨id, ob', re', h1, h2, h3, h4⟩
  · exact .inl (.inl h)
  · rcases Nat.lt_or_ge id H.length with hlt | hge
    · rw [List.getElem?_append_left hlt] at h1
      rw [List.getElem?_append_left (by omega)] at h3
      exact .inl (.inr ⟨id, ob', re', h1, h2, h3, h4⟩)
    · rw [List.getElem?_append_right (by omega)] at h3
      have hid : id - ρ.length = 0 := by
        rcases Nat.eq_zero_or_pos (id - ρ.length) with h | h
        · exact h
        · rw [List.getElem?_eq_none (by simp; omega)] at h3; cases h3
      rw [hid] at h3
      simp at h3
      subst h3
      exact .inr h4
theorem HR.lt {M : Nat → Prop} {w : World} {B : Nat} {ρ : List Re} {H : List Ob} (h : HR M w B ρ H) {id : Nat} {ob : Ob} {re : Re} {g : Nat} (h1 : H[id]? = some ob) (h2 : ob.live = true) (h3 : ρ[id]? = some re) (h4 : re.g = some g) : g < w.heap.size := by
  obtain ⟨re', h5, h6⟩ := h.ob id ob h1 h2
  obtain rfl : re' = re := by have := h5.symm.trans h3; injection this
  obtain ⟨cur, hc, _⟩ := h6.blk g h4
  exact (Array.getElem?_eq_some_iff.1 hc).1

theorem StA.alloc {ρ : List Re} {a : Act} {w : World} (s : StA Γ ρ F H a w) (cells : Array Value) (T : TypeId) (cs : List V) (sz cap : Nat) (hlen : cells.size = cap * sz) (hcap : cap ≤ maxLen) (hcs : cs.length ≤ cells.size)
    (hrel : ∀ (j : Nat) (y : V), cs[j]? = some y → ∃ u, cells[j]? = some u ∧ u.oneCell' = true ∧ Rel w (Bb Γ.M ρ H) Γ.w0.heap.size ρ y u) :
    StA Γ (ρ ++ [⟨some w.heap.size, cap, 0, sz⟩]) F (H ++ [⟨T, sz, 0, true, cs⟩]) a (w.alloc (.cells cells T)) := by
  have hl := s.hr.len
  have ev : Ev w (Bb Γ.M ρ H) Γ.w0.heap.size ρ (w.alloc (.cells cells T)) (Bb Γ.M (ρ ++ [⟨some w.heap.size, cap, 0, sz⟩]) (H ++ [⟨T, sz, 0, true, cs⟩])) Γ.w0.heap.size (ρ ++ [⟨some w.heap.size, cap, 0, sz⟩]) :=
    { size := by simp
      blk := fun b hb _ => Below.heap_alloc w _ b hb
      lv := fun b hb hn h => by
        rcases Xd hl h with h | h
        · exact hn h
        · injection h with h; omega
      bb := Nat.le_refl _
      rho := fun id re h => ⟨re, by rw [List.getElem?_append_left (List.getElem?_eq_some_iff.1 h).1]; exact h, Nat.le_refl _, fun _ => rfl⟩ }
  refine ⟨⟨by simp [hl], ?_, ?_, ?_⟩, s.n, s.ds, fun t => (s.fr t).ev ev, ?_⟩
  · intro id ob h1 h2
    rcases Nat.lt_or_ge id H.length with hlt | hge
    · rw [List.getElem?_append_left hlt] at h1
      obtain ⟨re, h3, h4⟩ := s.hr.ob id ob h1 h2
      refine ⟨re, by rw [List.getElem?_append_left (by omega)]; exact h3, h4.ver, h4.sz, h4.nob, fun g hg => ?_⟩
      obtain ⟨cur, c1, c2, c3, c4, c5⟩ := h4.blk g hg
      refine ⟨cur, by rw [Below.heap_alloc w _ g (s.hr.lt h1 h2 h3 hg)]; exact c1, c2, c3, c4, fun j y hy => ?_⟩
      obtain ⟨u, d1, d2, d3⟩ := c5 j y hy
      exact ⟨u, d1, d2, d3.ev ev⟩
    · have hid : id = H.length := by
        rcases Nat.lt_or_ge H.length id with h | h
        · rw [List.getElem?_eq_none (by simp; omega)] at h1; cases h1
        · omega
      subst hid
      rw [List.getElem?_append_right (Nat.le_refl _)] at h1
      simp at h1
      subst h1
      refine ⟨⟨some w.heap.size, cap, 0, sz⟩, by rw [← hl, List.getElem?_append_right (Nat.le_refl _)]; simp, rfl, rfl, (fun h => by cases h), fun g hg => ?_⟩
      injection hg with hg; subst hg
      refine ⟨cells, heap_alloc_new w _, hlen, hcs, hcap, fun j y hy => ?_⟩
      obtain ⟨u, d1, d2, d3⟩ := hrel j y hy
      exact ⟨u, d1, d2, d3.ev ev⟩
  · intro i j oi oj ri rj g hij h1 h2 h3 h4 h5 h6 h7 h8
    have key : ∀ (i : Nat) (oi : Ob) (ri : Re), (H ++ [(⟨T, sz, 0, true, cs⟩ : Ob)])[i]? = some oi → (ρ ++ [(⟨some w.heap.size, cap, 0, sz⟩ : Re)])[i]? = some ri → (H[i]? = some oi ∧ ρ[i]? = some ri) ∨ (i = H.length ∧ ri.g = some w.heap.size) := by
      intro i oi ri ha hb
      rcases Nat.lt_or_ge i H.length with hlt | hge
      · rw [List.getElem?_append_left hlt] at ha
        rw [List.getElem?_append_left (by omega)] at hb
        exact .inl ⟨ha, hb⟩
      · have hid : i = H.length := by
          rcases Nat.lt_or_ge H.length i with h | h
          · rw [List.getElem?_eq_none (by simp; omega)] at ha; cases ha
          · omega
        subst hid
        rw [← hl, List.getElem?_append_right (Nat.le_refl _)] at hb
        simp at hb
        exact .inr ⟨rfl, by rw [← hb]⟩
    rcases key i oi ri h1 h5 with ⟨a1, a2⟩ | ⟨a1, a2⟩ <;> rcases key j oj rj h3 h6 with ⟨b1, b2⟩ | ⟨b1, b2⟩
    · exact s.hr.apart i j oi oj ri rj g hij a1 h2 b1 h4 a2 b2 h7 h8
    · have := s.hr.lt a1 h2 a2 h7
      rw [b2] at h8; injection h8 with h8; omega
    · have := s.hr.lt b1 h4 b2 h8
      rw [a2] at h7; injection h7 with h7; omega
    · omega
  · intro id ob re g h1 h2 h3 h4 hM
    rcases Nat.lt_or_ge id H.length with hlt | hge
    · rw [List.getElem?_append_left hlt] at h1
      rw [List.getElem?_append_left (by omega)] at h3
      exact s.hr.foreign id ob re g h1 h2 h3 h4 hM
    · have hg : g < Γ.w0.heap.size := s.fro.old g hM
      have hsz := s.fro.size
      have hid : id = H.length := by
        rcases Nat.lt_or_ge H.length id with h | h
        · rw [List.getElem?_eq_none (by simp; omega)] at h1; cases h1
        · omega
      subst hid
      rw [← hl, List.getElem?_append_right (Nat.le_refl _)] at h3
      simp at h3
      rw [← h3] at h4
      injection h4 with h4
      omega
  · refine ⟨s.fro.os, s.fro.tape, s.fro.output, Nat.le_trans s.fro.size (by simp), fun b hb hn => ?_, s.fro.old, ?_, fun id re h => ?_⟩
    · rw [Below.heap_alloc w _ b (Nat.lt_of_lt_of_le hb s.fro.size)]; exact s.fro.blk b hb hn
    · intro id ob re g h1 h2 h3 h4
      rcases Nat.lt_or_ge id H.length with hlt | hge
      · rw [List.getElem?_append_left hlt] at h1
        rw [List.getElem?_append_left (by omega)] at h3
        exact s.fro.mine id ob re g h1 h2 h3 h4
      · have hid : id = H.length := by
          rcases Nat.lt_or_ge H.length id with h | h
          · rw [List.getElem?_eq_none (by simp; omega)] at h1; cases h1
          · omega
        subst hid
        rw [← hl, List.getElem?_append_right (Nat.le_refl _)] at h3
        simp at h3
        rw [← h3] at h4
        injection h4 with h4
        exact .inl (by have := s.fro.size; omega)
    · obtain ⟨re', e1, e2, e3⟩ := s.fro.rho id re h
      exact ⟨re', by rw [List.getElem?_append_left (List.getElem?_eq_some_iff.1 e1).1]; exact e1, e2, e3⟩

def HY (P : Program) (Γ : Ctx) (op : Op) (F : Fr) (H : List Ob) (y : V) (H' : List Ob) : Prop :=
  ∀ ρ a w, StA Γ ρ F H a w → ∃ v w' ρ', Rel w' (Bb Γ.M ρ' H') Γ.w0.heap.size ρ' y v ∧ StA Γ ρ' F H' a w' ∧ Ext w w' ∧
    ∀ (dst : Option Tmp) (type : TypeId) (pos : String) (after : Array Edge) (g : Option (Nat × Bool)), (execOp a.eval ⟨dst, op, type, pos, after, g⟩).run P w = .ok (.value v) w'
theorem A1 {ops : Array Oper} {rest : List Oper} {d : Nat} {op : Op} {T : TypeId} {ps : String} {af : Array Edge} {y : V} {H' : List Ob} (h : HY P Γ op F H y H') (hd : d < Γ.N)
    (j : JO P ops rest Γ ((d, y) :: F) H' Q) : JO P ops (⟨some d, op, T, ps, af, none⟩ :: rest) Γ F H Q := fun a w ⟨ρ, s⟩ => by
  obtain ⟨v, w', ρ', r, s', _, hr⟩ := h ρ a w s
  refine wpList_plain rfl fun K hK => ?_
  unfold Oper.wp
  rw [hr _ _ _ _ _]
  exact hK _ _ (j _ _ ⟨ρ', s'.put hd r⟩)
theorem W4 {ρ : List Re} {B : Nat} {L : Nat → Prop} {w' : World} {re : Re} {g : Nat} (hg : re.g = some g) (hv : re.ver = 0) {id : Nat} (hid : ρ.length = id) : Rel w' L B (ρ ++ [re]) (.p id 0 0) (.pointer (some ⟨g, 0, none⟩)) := by
  subst hid
  exact ⟨re, by simp, Nat.zero_le _, fun _ => ⟨g, hg, rfl⟩⟩

def cV : Value → V
  | .int k n => .i k n
  | .bool x => .b x
  | .string x => .s x
  | v => .c v
theorem Uu (w : World) (L : Nat → Prop) (B : Nat) (ρ : List Re) (v : Value) : Rel w L B ρ (cV v) v := by cases v <;> rfl
def Alm (P : Program) (T : TypeId) (zs : List Value) : Bool :=
  match P.info? T with
  | some i => (match i.zero with | some z => z.cells.toList.length == zs.length && z.cells.all (·.oneCell') | none => false) && i.size == zs.length
  | none => false
theorem Aq {T n : Nat} {zs : List Value} {id : Nat} (hz : ((P.info? T).bind (·.zero)).map (·.cells.toList) = some zs) (hone : zs.all (·.oneCell') = true) (hn : zs.length = n) (h0 : n ≤ maxLen) (hid : H.length = id) :
    HY P Γ (.alloc T) F H (.p id 0 0) (H ++ [⟨T, n, 0, true, zs.map cV⟩]) := fun ρ a w s => by
  cases hi : P.info? T with
  | none => rw [hi] at hz; cases hz
  | some i =>
    rw [hi] at hz
    cases hz0 : i.zero with
    | none => simp [hz0] at hz
    | some z =>
      simp [hz0] at hz
      refine ⟨.pointer (some ⟨w.heap.size, 0, none⟩), w.alloc (.cells z.cells T), _, W4 rfl rfl (by rw [s.hr.len, hid]), s.alloc z.cells T (zs.map cV) n 1 (by rw [Nat.one_mul, ← hn, ← hz]; simp) (by simp [maxLen]) (by rw [List.length_map, ← hz]; simp) ?_, Gj w _, fun _ _ _ _ _ => ?_⟩
      · intro j y hy
        rw [List.getElem?_map] at hy
        cases hj : zs[j]? with
        | none => rw [hj] at hy; cases hy
        | some u =>
          rw [hj] at hy
          simp at hy
          subst hy
          refine ⟨u, by rw [← hz] at hj; simpa using hj, ?_, Uu _ _ _ _ _⟩
          have := List.all_eq_true.1 hone u (List.mem_of_getElem? hj)
          exact this
      · have e : (Instr.alloc T true (.tuple #[])).run P w = .ok (.pointer (some ⟨w.heap.size, 0, none⟩)) (w.alloc (.cells z.cells T)) := by
          simp [Instr.alloc, zeroValue, typeInfo, hi, hz0, newVar, newRow, newObj, Sem.run]
        exact El e

theorem Fw {w : World} {L : Nat → Prop} {B : Nat} {ρ : List Re} : ∀ (ys : List V) (us : List Value), RelL w L B ρ ys us → us.length = ys.length ∧ ∀ (j : Nat) (y : V), ys[j]? = some y → ∃ u, us[j]? = some u ∧ Rel w L B ρ y u
  | [], us, h => ⟨by rw [show us = [] from h]; rfl, by simp⟩
  | z :: ys, us, ⟨u, us', e, h1, h2⟩ => by
    obtain ⟨h3, h4⟩ := Fw ys us' h2
    refine ⟨by simp [e, h3], fun j y hy => ?_⟩
    cases j with
    | zero => simp at hy; subst hy; exact ⟨u, by simp [e], h1⟩
    | succ j => obtain ⟨u', h5, h6⟩ := h4 j y (by simpa using hy); exact ⟨u', by simp [e, h5], h6⟩
def Th : V → Bool
  | .i _ _ | .b _ | .s _ | .n _ _ _ | .l _ _ _ | .q _ | .f _ _ => true
  | .c v => v.oneCell'
  | _ => false
theorem Add {w : World} {L : Nat → Prop} {B : Nat} {ρ : List Re} : ∀ {y : V} {u : Value}, Th y = true → Rel w L B ρ y u → u.oneCell' = true
  | .i _ _, u, _, h => by rw [show u = _ from h]; rfl
  | .b _, u, _, h => by rw [show u = _ from h]; rfl
  | .s _, u, _, h => by rw [show u = _ from h]; rfl
  | .c _, u, h1, h => by rw [show u = _ from h]; exact h1
  | .n _ _ _, u, _, ⟨A, c, e, _⟩ => by rw [e]; rfl
  | .l _ _ _, u, _, ⟨A, c, e, _⟩ => by rw [e]; rfl
  | .q _, u, _, ⟨ad, e, _⟩ => by rw [e]; rfl
  | .f _ _, u, _, ⟨us, e, _⟩ => by rw [e]; rfl
def Ij (H : List Ob) : V → Bool
  | .p id ver _ | .o id ver _ _ => (H[id]?).any fun ob => ob.live && ob.ver == ver
  | y => Th y
theorem StA.one {ρ : List Re} {a : Act} {w : World} (s : StA Γ ρ F H a w) {y : V} {u : Value} (h : Ij H y = true) (r : Rel w (Bb Γ.M ρ H) Γ.w0.heap.size ρ y u) : u.oneCell' = true := by
  cases y with
  | p id ver off =>
    cases hH : H[id]? with
    | none => simp [Ij, hH] at h
    | some ob =>
      simp [Ij, hH] at h
      obtain ⟨re, o⟩ := s.own hH h.1
      obtain ⟨re', e1, _, hp⟩ := r
      obtain rfl : re' = re := by have := e1.symm.trans o.at_; injection this
      obtain ⟨g, _, rfl⟩ := hp (by rw [o.ok.ver, h.2])
      rfl
  | o id ver off len =>
    cases hH : H[id]? with
    | none => simp [Ij, hH] at h
    | some ob =>
      simp [Ij, hH] at h
      obtain ⟨re, o⟩ := s.own hH h.1
      obtain ⟨re', e1, _, hp⟩ := r
      obtain rfl : re' = re := by have := e1.symm.trans o.at_; injection this
      obtain ⟨_, ⟨g, ad, _, rfl, _⟩ | ⟨_, rfl, _⟩⟩ := hp (by rw [o.ok.ver, h.2]) <;> rfl
  | _ => exact Add (by simpa [Ij] using h) r

def cellsV : V → List V
  | .a ys => ys
  | y => [y]
theorem StA.cellsV {ρ : List Re} {a : Act} {w : World} (s : StA Γ ρ F H a w) {y : V} {u : Value} (h : (cellsV y).all (Ij H) = true) (r : Rel w (Bb Γ.M ρ H) Γ.w0.heap.size ρ y u) :
    u.cells.size = (Vc.cellsV y).length ∧ ∀ (j : Nat) (z : V), (Vc.cellsV y)[j]? = some z → ∃ c, u.cells[j]? = some c ∧ c.oneCell' = true ∧ Rel w (Bb Γ.M ρ H) Γ.w0.heap.size ρ z c := by
  have plain : (∀ ys, y ≠ .a ys) → Ij H y = true → u.oneCell' = true → u.cells.size = (Vc.cellsV y).length ∧ ∀ (j : Nat) (z : V), (Vc.cellsV y)[j]? = some z → ∃ c, u.cells[j]? = some c ∧ c.oneCell' = true ∧ Rel w (Bb Γ.M ρ H) Γ.w0.heap.size ρ z c := by
    intro hne _ h1
    have e1 : Vc.cellsV y = [y] := by cases y <;> first | rfl | exact absurd rfl (hne _)
    have e2 : u.cells = #[u] := by cases u <;> first | rfl | (simp [Value.oneCell'] at h1)
    rw [e1, e2]
    refine ⟨rfl, fun j z hz => ?_⟩
    cases j with
    | zero => simp at hz; subst hz; exact ⟨u, rfl, h1, r⟩
    | succ j => simp at hz
  cases y with
  | a ys =>
    obtain ⟨us, rfl, hr⟩ := r
    obtain ⟨hlen, hat⟩ := Fw ys us hr
    refine ⟨by simp [Value.cells, Vc.cellsV, hlen], fun j z hz => ?_⟩
    obtain ⟨c, hc, hr'⟩ := hat j z hz
    exact ⟨c, by simpa [Value.cells] using hc, s.one (List.all_eq_true.1 h z (List.mem_of_getElem? hz)) hr', hr'⟩
  | _ =>
    have h1 : Ij H _ = true := List.all_eq_true.1 h _ (List.mem_singleton.2 rfl)
    exact plain (by intro ys e; cases e) h1 (s.one h1 r)

theorem Bn {T : TypeId} {x : Operand} {y : V} {id n : Nat} (hx : ovO F x = some y) (h1 : (cellsV y).all (Ij H) = true) (hn : (cellsV y).length = n) (h0 : n ≤ maxLen) (hid : H.length = id) :
    HY P Γ (.box T x) F H (.p id 0 0) (H ++ [⟨T, n, 0, true, cellsV y⟩]) := fun ρ a w s => by
  obtain ⟨hs, hc⟩ := s.cellsV h1 (s.ov hx)
  refine ⟨.pointer (some ⟨w.heap.size, 0, none⟩), w.alloc (.cells (a.eval x).cells T), _, W4 rfl rfl (by rw [s.hr.len, hid]), s.alloc (a.eval x).cells T (cellsV y) n 1 (by rw [Nat.one_mul, hs, hn]) (by simp [maxLen]) (by rw [hs]; exact Nat.le_refl _) hc, Gj w _, fun _ _ _ _ _ => ?_⟩
  have e : (Instr.box T (a.eval x)).run P w = .ok (.pointer (some ⟨w.heap.size, 0, none⟩)) (w.alloc (.cells (a.eval x).cells T)) := by
    simp [Instr.box, newVar, newRow, newObj, Sem.run]
  exact El e

theorem C6 {α : Type} {l : List α} {i j : Nat} {x y : α} (h : (l.set i x)[j]? = some y) : (j = i ∧ y = x) ∨ (j ≠ i ∧ l[j]? = some y) := by
  rw [List.getElem?_set] at h
  by_cases e : i = j
  · rw [if_pos e] at h
    split at h
    · injection h with h; exact .inl ⟨e.symm, h.symm⟩
    · cases h
  · rw [if_neg e] at h; exact .inr ⟨Ne.symm e, h⟩
theorem StA.update {ρ : List Re} {a : Act} {w : World} (s : StA Γ ρ F H a w) {id : Nat} {ob ob' : Ob} {re re' : Re} {w' : World} (hH : H[id]? = some ob) (hlive : ob.live = true) (hre : ρ[id]? = some re)
    (hg : w.grownBy w' re.g) (hl' : ob'.live = true) (hver : re'.ver = ob'.ver) (hsz : re'.sz = ob'.sz) (hle : re.ver ≤ re'.ver) (hsame : re.ver = re'.ver → re' = re)
    (hblk : re'.g = re.g ∨ ∃ g', re'.g = some g' ∧ w.heap.size ≤ g')
    (hnob : re'.g = none → ob'.cs = [] ∧ re'.cap = 0)
    (hok : ∀ g', re'.g = some g' → ∃ cur, w'.heap[g']? = some (.cells cur ob'.t (0, 0)) ∧ cur.size = re'.cap * ob'.sz ∧ ob'.cs.length ≤ cur.size ∧ re'.cap ≤ maxLen ∧
      ∀ (j : Nat) (y : V), ob'.cs[j]? = some y → ∃ u, cur[j]? = some u ∧ u.oneCell' = true ∧ Rel w (Bb Γ.M ρ H) Γ.w0.heap.size ρ y u) :
    StA Γ (ρ.set id re') F (H.set id ob') a w' := by
  have hidH : id < H.length := (List.getElem?_eq_some_iff.1 hH).1
  have hidρ : id < ρ.length := (List.getElem?_eq_some_iff.1 hre).1
  have hrow : ∀ b, b < w.heap.size → ¬ Bb Γ.M ρ H b → some b ≠ re.g := fun b _ hn e => hn (.inr ⟨id, ob, re, hH, hlive, hre, e.symm⟩)
  have lsub : ∀ b, Bb Γ.M (ρ.set id re') (H.set id ob') b → Bb Γ.M ρ H b ∨ w.heap.size ≤ b := by
    rintro b (h | ⟨i, o, r, h1, h2, h3, h4⟩)
    · exact .inl (.inl h)
    · rcases C6 h1 with ⟨rfl, rfl⟩ | ⟨hne, h1'⟩
      · rcases C6 h3 with ⟨_, rfl⟩ | ⟨hne, _⟩
        · rcases hblk with hb | ⟨g', hb, hge⟩
          · rw [hb] at h4; exact .inl (.inr ⟨i, ob, re, hH, hlive, hre, h4⟩)
          · rw [hb] at h4; injection h4 with h4; subst h4; exact .inr hge
        · exact absurd rfl hne
      · rcases C6 h3 with ⟨e, _⟩ | ⟨_, h3'⟩
        · exact absurd e hne
        · exact .inl (.inr ⟨i, o, r, h1', h2, h3', h4⟩)
  have ev : Ev w (Bb Γ.M ρ H) Γ.w0.heap.size ρ w' (Bb Γ.M (ρ.set id re') (H.set id ob')) Γ.w0.heap.size (ρ.set id re') :=
    { size := hg.size
      blk := fun b hb hn => hg.block b hb (hrow b hb hn)
      lv := fun b hb hn h => by
        rcases lsub b h with h | h
        · exact hn h
        · omega
      bb := Nat.le_refl _
      rho := fun i r h => by
        by_cases e : i = id
        · subst e
          obtain rfl : re = r := by have := hre.symm.trans h; injection this
          exact ⟨re', by rw [List.getElem?_set]; simp [hidρ], hle, hsame⟩
        · exact ⟨r, by rw [List.getElem?_set, if_neg (Ne.symm e)]; exact h, Nat.le_refl _, fun _ => rfl⟩ }
  refine ⟨⟨by simp [s.hr.len], ?_, ?_, ?_⟩, s.n, s.ds, fun t => (s.fr t).ev ev, ?_⟩
  · intro i o h1 h2
    rcases C6 h1 with ⟨rfl, rfl⟩ | ⟨hne, h1'⟩
    · refine ⟨re', by rw [List.getElem?_set]; simp [hidρ], hver, hsz, hnob, fun g' hg' => ?_⟩
      obtain ⟨cur, c1, c2, c3, c4, c5⟩ := hok g' hg'
      refine ⟨cur, c1, c2, c3, c4, fun j y hy => ?_⟩
      obtain ⟨u, d1, d2, d3⟩ := c5 j y hy
      exact ⟨u, d1, d2, d3.ev ev⟩
    · obtain ⟨r, h3, h4⟩ := s.hr.ob i o h1' h2
      refine ⟨r, by rw [List.getElem?_set, if_neg (Ne.symm hne)]; exact h3, h4.ver, h4.sz, h4.nob, fun g hg' => ?_⟩
      obtain ⟨cur, c1, c2, c3, c4, c5⟩ := h4.blk g hg'
      have hne2 : some g ≠ re.g := fun e => by
        have := s.hr.apart i id o ob r re g hne h1' h2 hH hlive h3 hre hg'
        exact this e.symm
      refine ⟨cur, by rw [hg.block g (s.hr.lt h1' h2 h3 hg') hne2]; exact c1, c2, c3, c4, fun j y hy => ?_⟩
      obtain ⟨u, d1, d2, d3⟩ := c5 j y hy
      exact ⟨u, d1, d2, d3.ev ev⟩
  · intro i j oi oj ri rj g hij h1 h2 h3 h4 h5 h6 h7 h8
    rcases C6 h1 with ⟨rfl, rfl⟩ | ⟨hi, h1'⟩ <;> rcases C6 h3 with ⟨rfl, rfl⟩ | ⟨hj, h3'⟩
    · exact hij rfl
    · rcases C6 h5 with ⟨_, rfl⟩ | ⟨hne, _⟩
      · rcases C6 h6 with ⟨e, _⟩ | ⟨_, h6'⟩
        · exact hj e
        · rcases hblk with hb | ⟨g', hb, hge⟩
          · rw [hb] at h7; exact s.hr.apart i j ob oj re rj g hij hH hlive h3' h4 hre h6' h7 h8
          · rw [hb] at h7; injection h7 with h7; have := s.hr.lt h3' h4 h6' h8; omega
      · exact hne rfl
    · rcases C6 h6 with ⟨_, rfl⟩ | ⟨hne, _⟩
      · rcases C6 h5 with ⟨e, _⟩ | ⟨_, h5'⟩
        · exact hi e
        · rcases hblk with hb | ⟨g', hb, hge⟩
          · rw [hb] at h8; exact s.hr.apart i j oi ob ri re g hij h1' h2 hH hlive h5' hre h7 h8
          · rw [hb] at h8; injection h8 with h8; have := s.hr.lt h1' h2 h5' h7; omega
      · exact hne rfl
    · rcases C6 h5 with ⟨e, _⟩ | ⟨_, h5'⟩
      · exact hi e
      · rcases C6 h6 with ⟨e, _⟩ | ⟨_, h6'⟩
        · exact hj e
        · exact s.hr.apart i j oi oj ri rj g hij h1' h2 h3' h4 h5' h6' h7 h8
  · intro i o r g h1 h2 h3 h4 hM
    rcases C6 h1 with ⟨rfl, rfl⟩ | ⟨hne, h1'⟩
    · rcases C6 h3 with ⟨_, rfl⟩ | ⟨hne, _⟩
      · rcases hblk with hb | ⟨g', hb, hge⟩
        · rw [hb] at h4; exact s.hr.foreign i ob re g hH hlive hre h4 hM
        · rw [hb] at h4; injection h4 with h4
          have := s.fro.old g hM; have := s.fro.size; omega
      · exact hne rfl
    · rcases C6 h3 with ⟨e, _⟩ | ⟨_, h3'⟩
      · exact hne e
      · exact s.hr.foreign i o r g h1' h2 h3' h4 hM
  · refine ⟨hg.os.trans s.fro.os, hg.tape.trans s.fro.tape, hg.output.trans s.fro.output, Nat.le_trans s.fro.size hg.size, fun b hb hn => ?_, s.fro.old, ?_, fun i r h => ?_⟩
    · have hb' := Nat.lt_of_lt_of_le hb s.fro.size
      rw [hg.block b hb' (fun e => ?_)]
      · exact s.fro.blk b hb hn
      · rcases s.fro.mine id ob re b hH hlive hre e.symm with h | h
        · omega
        · exact hn h
    · intro i o r g h1 h2 h3 h4
      rcases C6 h1 with ⟨rfl, rfl⟩ | ⟨hne, h1'⟩
      · rcases C6 h3 with ⟨_, rfl⟩ | ⟨hne, _⟩
        · rcases hblk with hb | ⟨g', hb, hge⟩
          · rw [hb] at h4; exact s.fro.mine i ob re g hH hlive hre h4
          · rw [hb] at h4; injection h4 with h4; have := s.fro.size; exact .inl (by omega)
        · exact absurd rfl hne
      · rcases C6 h3 with ⟨e, _⟩ | ⟨_, h3'⟩
        · exact absurd e hne
        · exact s.fro.mine i o r g h1' h2 h3' h4
    · obtain ⟨r', e1, e2, e3⟩ := s.fro.rho i r h
      by_cases e : i = id
      · subst e
        obtain rfl : re = r' := by have := hre.symm.trans e1; injection this
        refine ⟨re', by rw [List.getElem?_set]; simp [hidρ], Nat.le_trans e2 hle, fun h => ?_⟩
        have e4 : r.ver = re.ver := by omega
        have e5 : re.ver = re'.ver := by omega
        rw [hsame e5]; exact e3 e4
      · exact ⟨r', by rw [List.getElem?_set, if_neg (Ne.symm e)]; exact e1, e2, e3⟩

def Gy : List V → Nat → List V → List V
  | [], _, _ => []
  | cs, _, [] => cs
  | _ :: cs, 0, y :: ys => y :: Gy cs 0 ys
  | c :: cs, o + 1, y :: ys => c :: Gy cs o (y :: ys)
theorem Dx : ∀ (cs : List V) (o : Nat) (ys : List V), (Gy cs o ys).length = cs.length
  | [], _, _ => by simp [Gy]
  | c :: cs, 0, [] => by simp [Gy]
  | c :: cs, o + 1, [] => by simp [Gy]
  | _ :: cs, 0, y :: ys => by simp [Gy, Dx cs 0 ys]
  | c :: cs, o + 1, y :: ys => by simp [Gy, Dx cs o (y :: ys)]
theorem Hz : ∀ (cs : List V) (o : Nat) (ys : List V) (j : Nat) (z : V), (Gy cs o ys)[j]? = some z → (o ≤ j ∧ j < o + ys.length ∧ ys[j - o]? = some z) ∨ ((j < o ∨ o + ys.length ≤ j) ∧ cs[j]? = some z)
  | [], _, _, j, z, h => by simp [Gy] at h
  | c :: cs, 0, [], j, z, h => .inr ⟨.inr (by simp), by simpa [Gy] using h⟩
  | c :: cs, o + 1, [], j, z, h => by
    refine .inr ⟨?_, by simpa [Gy] using h⟩
    simp; omega
  | c :: cs, 0, y :: ys, 0, z, h => .inl ⟨by simp, by simp, by simpa [Gy] using h⟩
  | c :: cs, 0, y :: ys, j + 1, z, h => by
    rcases Hz cs 0 ys j z (by simpa [Gy] using h) with ⟨_, h2, h3⟩ | ⟨h1, h2⟩
    · exact .inl ⟨by simp, by simp at h2 ⊢; omega, by simpa using h3⟩
    · exact .inr ⟨by simp at h1 ⊢; omega, by simpa using h2⟩
  | c :: cs, o + 1, y :: ys, 0, z, h => .inr ⟨.inl (by simp), by simpa [Gy] using h⟩
  | c :: cs, o + 1, y :: ys, j + 1, z, h => by
    rcases Hz cs o (y :: ys) j z (by simpa [Gy] using h) with ⟨h1, h2, h3⟩ | ⟨h1, h2⟩
    · exact .inl ⟨by omega, by simp at h2 ⊢; omega, by rwa [show j + 1 - (o + 1) = j - o by omega]⟩
    · exact .inr ⟨by simp at h1 ⊢; omega, by simpa using h2⟩

theorem F9 (w : World) (g : Nat) (cs : Array Value) : w.grownBy (w.setRow g cs) (some g) :=
  ⟨rfl, rfl, rfl, by simp, fun k _ hne => setRow_other w g k cs (fun e => hne (by rw [e]))⟩

def SY (P : Program) (Γ : Ctx) (op : Op) (F : Fr) (H H' : List Ob) : Prop :=
  ∀ ρ a w, StA Γ ρ F H a w → ∃ w' ρ', StA Γ ρ' F H' a w' ∧
    ∀ (dst : Option Tmp) (type : TypeId) (pos : String) (after : Array Edge) (g : Option (Nat × Bool)), (execOp a.eval ⟨dst, op, type, pos, after, g⟩).run P w = .ok .skip w'
theorem A3 {ops : Array Oper} {rest : List Oper} {op : Op} {T : TypeId} {ps : String} {af : Array Edge} {H' : List Ob} (h : SY P Γ op F H H')
    (j : JO P ops rest Γ F H' Q) : JO P ops (⟨none, op, T, ps, af, none⟩ :: rest) Γ F H Q := fun a w ⟨ρ, s⟩ => by
  obtain ⟨w', ρ', s', hr⟩ := h ρ a w s
  refine wpList_plain rfl fun K hK => ?_
  unfold Oper.wp
  rw [hr _ _ _ _ _]
  exact hK _ _ (j _ _ ⟨ρ', s'⟩)

theorem Ah {T : TypeId} {x z : Operand} {id ver off : Nat} {t sz n : Nat} {cs : List V} {y : V} (hx : ovO F x = some (.p id ver off)) (hz : ovO F z = some y) (hH : H[id]? = some ⟨t, sz, ver, true, cs⟩)
    (hT : (P.info? T).any (·.size == n) = true) (hn : (cellsV y).length = n) (h1 : (cellsV y).all (Ij H) = true) (hoff : off + n ≤ cs.length) :
    SY P Γ (.store T x z) F H (H.set id ⟨t, sz, ver, true, Gy cs off (cellsV y)⟩) := fun ρ a w s => by
  obtain ⟨re, g, ow, hg, hv⟩ := s.ptr hx hH
  obtain ⟨hs, hc⟩ := s.cellsV h1 (s.ov hz)
  obtain ⟨cur, c1, c2, c3, c4, c5⟩ := ow.ok.blk g hg
  have hone : ∀ v ∈ (a.eval z).cells.toList, v.oneCell' = true := fun v hv => by
    obtain ⟨j, hj⟩ := List.getElem?_of_mem hv
    have hlt : j < (a.eval z).cells.size := by have := (List.getElem?_eq_some_iff.1 hj).1; simpa using this
    obtain ⟨c, hc1, hc2, _⟩ := hc j ((cellsV y)[j]'(by omega)) (List.getElem?_eq_getElem (by omega))
    rw [Array.getElem?_toList] at hj
    rw [hc1] at hj; injection hj with hj; rw [← hj]; exact hc2
  have hc3 : cs.length ≤ cur.size := c3
  have hsz2 : (a.eval z).cells.size = n := by omega
  refine ⟨_, ρ.set id re, s.update (ob' := ⟨t, sz, ver, true, Gy cs off (cellsV y)⟩) (re' := re) hH rfl ow.at_ (by rw [hg]; exact F9 w g (cur.toList.take (off + 0) ++ (a.eval z).cells.toList ++ cur.toList.drop (off + 0 + (a.eval z).cells.toList.length)).toArray) rfl ow.ok.ver ow.ok.sz (Nat.le_refl _) (fun _ => rfl) (.inl rfl)
    (fun h => by rw [hg] at h; cases h) (fun g' hg' => ?_), fun _ _ _ _ _ => ?_⟩
  · obtain rfl : g = g' := by rw [hg] at hg'; injection hg'
    have hlen : (cur.toList.take (off + 0) ++ (a.eval z).cells.toList ++ cur.toList.drop (off + 0 + (a.eval z).cells.toList.length)).length = cur.size := by simp; omega
    refine ⟨_, setRow_heap w g cur _ t (0, 0) c1, by rw [List.size_toArray, hlen]; exact c2, by rw [List.size_toArray, hlen]; show (Gy cs off (cellsV y)).length ≤ _; rw [Dx]; exact hc3, c4, fun j y' hy' => ?_⟩
    rw [List.getElem?_toArray]
    rcases Hz cs off (cellsV y) j y' hy' with ⟨k1, k2, k3⟩ | ⟨k1, k2⟩
    · obtain ⟨c, d1, d2, d3⟩ := hc _ _ k3
      refine ⟨c, ?_, d2, d3⟩
      rw [List.append_assoc, List.getElem?_append_right (by simp; omega), List.getElem?_append_left (by simp; omega)]
      rw [← Array.getElem?_toList] at d1
      rw [← d1]; congr 1; simp; omega
    · obtain ⟨u, d1, d2, d3⟩ := c5 j y' k2
      refine ⟨u, ?_, d2, d3⟩
      rw [← Array.getElem?_toList] at d1
      rcases k1 with k1 | k1
      · rw [List.append_assoc, List.getElem?_append_left (by simp; omega), List.getElem?_take, if_pos (by omega)]; exact d1
      · rw [List.getElem?_append_right (by simp; omega), List.getElem?_drop, ← d1]; congr 1; simp; omega
  · have e1 := run_storeCells_at P g off t (a.eval z).cells.toList 0 cur w c1 (by simp; omega) hone
    have e : (Instr.storeAt T (a.eval x) (a.eval z)).run P w = .ok () (w.setRow g (cur.toList.take (off + 0) ++ (a.eval z).cells.toList ++ cur.toList.drop (off + 0 + (a.eval z).cells.toList.length)).toArray) := by
      rw [hv]
      simp only [Instr.storeAt, Instr.sureAddr, storeVar, Sem.run_bind, Sem.run_pure, Result.andThen_ok, Da hT]
      rw [if_neg (by simp [hsz2])]
      simpa using e1
    simp only [execOp, Sem.run_bind, e, Result.andThen_ok]
    rfl
end


def ints (k : IntKind) (l : List Int) : List V := l.map (V.i k)
theorem F8 (k : IntKind) (l : List Int) (j : Nat) : (ints k l)[j]? = (l[j]?).map (V.i k) := by simp [ints]
theorem C5 (k : IntKind) (l : List Int) : (ints k l).length = l.length := by simp [ints]
theorem En (k : IntKind) (l m : List Int) : ints k l ++ ints k m = ints k (l ++ m) := by simp [ints]
theorem Ko (k : IntKind) (n : Int) : ∀ (l : List Int) (i : Nat), Gy (ints k l) i [.i k n] = ints k (l.set i n)
  | [], i => by simp [ints, Gy]
  | x :: l, 0 => by
    show V.i k n :: Gy (ints k l) 0 [] = _
    cases l <;> simp [ints, Gy]
  | x :: l, i + 1 => by
    show V.i k x :: Gy (ints k l) i [.i k n] = _
    rw [Ko k n l i]; rfl

def elB (P : Program) (T E : TypeId) (sz bytes : Nat) (z : Value) : Bool :=
  (match P.underlying T with | some (.slice e) => e == E | _ => false) && (P.info? E).any (fun i => i.size == sz && i.bytes == bytes) && z.cells.size == sz
def elP (P : Program) (T E : TypeId) (sz bytes : Nat) (z : Value) : Prop := ∃ i, P.underlying T = some (.slice E) ∧ P.info? E = some i ∧ i.zero = some z ∧ i.size = sz ∧ i.bytes = bytes ∧ z.cells.size = sz ∧ 0 < sz
theorem La {P : Program} {T E sz bytes : Nat} {z : Value} (hu : P.underlying T = some (.slice E)) (hi : (P.info? E).map (fun i => (i.zero, i.size, i.bytes)) = some (some z, sz, bytes)) (hz : z.cells.size = sz) (h0 : 0 < sz) : elP P T E sz bytes z := by
  obtain ⟨i, h1, h2⟩ := Option.map_eq_some_iff.1 hi
  simp only [Prod.mk.injEq] at h2
  exact ⟨i, hu, h1, h2.1, h2.2.1, h2.2.2, hz, h0⟩

section
variable {P : Program} {Γ : Ctx} {F : Fr} {H : List Ob} {Q : Exit → Fr → List Ob → Prop}

theorem Ee {T : TypeId} {x : Operand} {id ver off t sz : Nat} {k : IntKind} {l : List Int} (hT : Iz P T = true) (hx : ovO F x = some (.p id ver off)) (hH : H[id]? = some ⟨t, sz, ver, true, ints k l⟩) (h : off < l.length) :
    LY P Γ (.load T x) F H (.i k (l.getD off 0)) := A9 hT hx hH (by rw [F8, List.getElem?_eq_getElem h, List.getD_eq_getElem?_getD, List.getElem?_eq_getElem h]; rfl)
theorem Cf {T : TypeId} {x z : Operand} {id ver off t sz : Nat} {k : IntKind} {l : List Int} {n : Int} (hx : ovO F x = some (.p id ver off)) (hz : ovO F z = some (.i k n)) (hH : H[id]? = some ⟨t, sz, ver, true, ints k l⟩)
    (hT : Iz P T = true) (h : off < l.length) : SY P Γ (.store T x z) F H (H.set id ⟨t, sz, ver, true, ints k (l.set off n)⟩) := by
  have := Ah (Γ := Γ) (T := T) (n := 1) hx hz hH (Ik hT) rfl rfl (by rw [C5]; omega)
  rwa [show cellsV (.i k n) = [.i k n] from rfl, Ko] at this

theorem Oq (z : Array Value) (n j : Nat) (h : j < n) : (madeCells z n)[j]? = some (z[j % z.size]!) := by simp [madeCells, h]
theorem Adt {ρ : List Re} {B : Nat} {L : Nat → Prop} {w' : World} {re : Re} {g : Nat} (hg : re.g = some g) (hv : re.ver = 0) {id len : Nat} (hid : ρ.length = id) (hlen : len ≤ re.cap) : Rel w' L B (ρ ++ [re]) (.o id 0 0 len) (.slice (some ⟨g, 0, none⟩) len re.cap) := by
  subst hid
  exact ⟨re, by simp, Nat.zero_le _, fun _ => ⟨by omega, .inl ⟨g, ⟨g, 0, none⟩, hg, by simp, fun _ => by simp⟩⟩⟩
theorem Gv {T E bytes m id : Nat} {k : IntKind} {x y : Operand} {n : Int} {kx ky : IntKind} (hT : elP P T E 1 bytes (.int k 0)) (hx : ovO F x = some (.i kx n)) (hy : ovO F y = some (.i ky n)) (hn : n = (m : Int)) (hb : bytes * m ≤ 281474976710656) (h63 : m ≤ maxLen) (hid : H.length = id) :
    HY P Γ (.makeSlice T x y) F H (.o id 0 0 m) (H ++ [⟨E, 1, 0, true, ints k (List.replicate m 0)⟩]) := fun ρ a w s => by
  obtain ⟨i, hu, hi, hz, hs, hby, hzs, _⟩ := hT
  have hb' : (i.bytes : Int) * n ≤ 281474976710656 := by rw [hn, hby, ← Int.natCast_mul]; omega
  have e1 := run_make (P := P) w T E i (.int k 0) hu hi hz kx ky n n (by omega) (Int.le_refl _) hb' (by simp only [maxLen] at h63; omega)
  have em : n.toNat = m := by omega
  rw [em, hs, Nat.mul_one] at e1
  refine ⟨_, _, _, Adt (re := ⟨some w.heap.size, m, 0, 1⟩) rfl rfl (by rw [s.hr.len, hid]) (Nat.le_refl _), s.alloc (madeCells (Value.int k 0).cells m) E (ints k (List.replicate m 0)) 1 m (by simp [size_madeCells]) h63 (by simp [size_madeCells, ints]) ?_, Gj w _, fun _ _ _ _ _ => ?_⟩
  · intro j y hy
    rw [F8] at hy
    rcases Nat.lt_or_ge j m with hlt | hge
    · rw [List.getElem?_replicate, if_pos hlt] at hy
      simp at hy; subst hy
      exact ⟨.int k 0, by rw [Oq _ _ _ hlt]; simp [Value.cells, Nat.mod_one], rfl, rfl⟩
    · rw [List.getElem?_replicate, if_neg (by omega)] at hy; cases hy
  · have e : (Instr.makeSlice T (a.eval x) (a.eval y)).run P w = .ok (.slice (some ⟨w.heap.size, 0, none⟩) m m) (w.alloc (.cells (madeCells (Value.int k 0).cells m) E)) := by rw [Dt s hx, Dt s hy]; exact e1
    exact El e
theorem Ahw {T E sz bytes m id : Nat} {z : Value} {x y : Operand} {n : Int} {kx ky : IntKind} (hT : elP P T E sz bytes z) (hx : ovO F x = some (.i kx 0)) (hy : ovO F y = some (.i ky n)) (hn : n = (m : Int)) (hb : bytes * m ≤ 281474976710656) (h63 : m ≤ maxLen) (hid : H.length = id) :
    HY P Γ (.makeSlice T x y) F H (.o id 0 0 0) (H ++ [⟨E, sz, 0, true, []⟩]) := fun ρ a w s => by
  obtain ⟨i, hu, hi, hz, hs, hby, hzs, _⟩ := hT
  have hb' : (i.bytes : Int) * n ≤ 281474976710656 := by rw [hn, hby, ← Int.natCast_mul]; omega
  have e1 := run_make (P := P) w T E i z hu hi hz kx ky 0 n (by omega) (by omega) hb' (by simp only [maxLen] at h63; omega)
  have em : n.toNat = m := by omega
  rw [em, hs] at e1
  refine ⟨_, _, _, Adt (re := ⟨some w.heap.size, m, 0, sz⟩) rfl rfl (by rw [s.hr.len, hid]) (Nat.zero_le _), s.alloc (madeCells z.cells (m * sz)) E [] sz m (by simp [size_madeCells]) h63 (by simp) (by simp), Gj w _, fun _ _ _ _ _ => ?_⟩
  have e : (Instr.makeSlice T (a.eval x) (a.eval y)).run P w = .ok (.slice (some ⟨w.heap.size, 0, none⟩) 0 m) (w.alloc (.cells (madeCells z.cells (m * sz)) E)) := by rw [Dt s hx, Dt s hy]; exact e1
  exact El e

theorem Ac4 {α : Type} (pre : List α) (m x : α) (rest : List α) : (pre ++ m :: rest).set pre.length x = pre ++ x :: rest := by
  rw [List.set_append_right _ _ (Nat.le_refl _)]; simp
theorem R6 : ∀ (v mid pre post : List Value) (off j0 : Nat), mid.length = v.length → pre.length = off + j0 →
    (((v.zipIdx j0).foldl (fun (cs : Array Value) (p : Value × Nat) => cs.setIfInBounds (off + p.2) p.1) (pre ++ mid ++ post).toArray)) = (pre ++ v ++ post).toArray
  | [], mid, pre, post, off, j0, h, _ => by have := List.eq_nil_of_length_eq_zero h; subst this; simp
  | x :: v, [], pre, post, off, j0, h, _ => by simp at h
  | x :: v, m :: mid, pre, post, off, j0, h, hp => by
    simp only [List.zipIdx_cons, List.foldl_cons]
    have e1 : (pre ++ (m :: mid) ++ post).toArray.setIfInBounds (off + j0) x = ((pre ++ [x]) ++ mid ++ post).toArray := by
      rw [List.setIfInBounds_toArray, List.append_assoc, List.cons_append, ← hp, Ac4]; simp
    rw [e1, R6 v mid (pre ++ [x]) post off (j0 + 1) (by simpa using h) (by simp [hp]; omega)]
    simp
theorem O4 (sz : Nat) : ∀ (vs : List Value) (mid pre : List Value) (k : Nat), (∀ v ∈ vs, v.cells.size = sz) → mid.length = vs.length * sz → pre.length = k * sz →
    Instr.fill (fun i => some (i * sz, sz)) (pre ++ mid).toArray ((vs.zipIdx k).map fun p => (p.2, p.1)) = some (pre ++ vs.flatMap fun v => v.cells.toList).toArray
  | [], mid, pre, k, _, h, _ => by have := List.eq_nil_of_length_eq_zero (by simpa using h); subst this; simp [Instr.fill]
  | v :: vs, mid, pre, k, hv, h, hp => by
    have h1 : v.cells.size = sz := hv v (by simp)
    have hm : mid.length = sz + vs.length * sz := by rw [h]; simp only [List.length_cons, Nat.add_mul, Nat.one_mul]; omega
    have e1 : pre ++ mid = pre ++ mid.take sz ++ mid.drop sz := by rw [List.append_assoc, List.take_append_drop]
    have hfold : (v.cells.zipIdx.foldl (fun (cs : Array Value) (p : Value × Nat) => cs.setIfInBounds (k * sz + p.2) p.1) (pre ++ mid).toArray) = (pre ++ v.cells.toList ++ mid.drop sz).toArray := by
      have : v.cells.zipIdx = (v.cells.toList.zipIdx).toArray := by
        apply Array.ext'
        rw [Array.toList_zipIdx]
      rw [this, List.foldl_toArray, e1]
      exact R6 v.cells.toList (mid.take sz) pre (mid.drop sz) (k * sz) 0 (by simp [h1]; omega) (by simpa using hp)
    have ih := O4 sz vs (mid.drop sz) (pre ++ v.cells.toList) (k + 1) (fun u hu => hv u (by simp [hu])) (by simp [hm]) (by simp [hp, h1, Nat.add_mul])
    simp only [List.zipIdx_cons, List.map_cons, Instr.fill]
    rw [if_neg (by simp [h1]; omega)]
    have hfold' : (Array.foldl (fun cs (x : Value × Nat) => match x with | (c, j) => cs.setIfInBounds (k * sz + j) c) (pre ++ mid).toArray v.cells.zipIdx) = (pre ++ v.cells.toList ++ mid.drop sz).toArray := hfold
    rw [hfold', ih]
    simp

def ovL (F : Fr) : List Operand → List V → Prop
  | [], ys => ys = []
  | x :: xs, ys => ∃ y ys', ys = y :: ys' ∧ ovO F x = some y ∧ ovL F xs ys'
theorem Ad : ovL F [] [] := rfl
theorem Aa {x : Operand} {xs : List Operand} {y : V} {ys : List V} (h : ovO F x = some y) (hs : ovL F xs ys) : ovL F (x :: xs) (y :: ys) := ⟨y, ys, rfl, h, hs⟩
theorem StA.ovL {ρ : List Re} {a : Act} {w : World} (s : StA Γ ρ F H a w) : ∀ {xs : List Operand} {ys : List V}, ovL F xs ys → RelL w (Bb Γ.M ρ H) Γ.w0.heap.size ρ ys (xs.map a.eval)
  | [], ys, h => by rw [show ys = [] from h]; rfl
  | x :: xs, ys, ⟨y, ys', e, h1, h2⟩ => by rw [e]; exact ⟨_, _, rfl, s.ov h1, s.ovL h2⟩
def cellsL (ys : List V) : List V := ys.flatMap cellsV
theorem StA.cellsL' {ρ : List Re} {a : Act} {w : World} (s : StA Γ ρ F H a w) (sz : Nat) : ∀ (ys : List V) (us : List Value), RelL w (Bb Γ.M ρ H) Γ.w0.heap.size ρ ys us → (∀ y ∈ ys, (Vc.cellsV y).length = sz ∧ (Vc.cellsV y).all (Ij H) = true) →
    us.length = ys.length ∧ (∀ v ∈ us, v.cells.size = sz) ∧ (us.flatMap fun v => v.cells.toList).length = (Vc.cellsL ys).length ∧
    ∀ (j : Nat) (z : V), (Vc.cellsL ys)[j]? = some z → ∃ c, (us.flatMap fun v => v.cells.toList)[j]? = some c ∧ c.oneCell' = true ∧ Rel w (Bb Γ.M ρ H) Γ.w0.heap.size ρ z c
  | [], us, h, _ => by rw [show us = [] from h]; exact ⟨rfl, by simp, rfl, by simp [Vc.cellsL]⟩
  | y :: ys, us, ⟨u, us', e, h1, h2⟩, hall => by
    obtain ⟨k1, k2⟩ := hall y (by simp)
    obtain ⟨c1, c2⟩ := s.cellsV k2 h1
    obtain ⟨d1, d2, d3, d4⟩ := StA.cellsL' s sz ys us' h2 (fun z hz => hall z (by simp [hz]))
    subst e
    refine ⟨by simp [d1], fun v hv => ?_, ?_, fun j z hz => ?_⟩
    · rcases List.mem_cons.1 hv with rfl | hv
      · omega
      · exact d2 v hv
    · simp only [List.flatMap_cons, List.length_append, Array.length_toList, d3, c1, Vc.cellsL]
    · have hz' : (Vc.cellsV y ++ Vc.cellsL ys)[j]? = some z := hz
      rcases Nat.lt_or_ge j (Vc.cellsV y).length with hlt | hge
      · rw [List.getElem?_append_left hlt] at hz'
        obtain ⟨c, f1, f2, f3⟩ := c2 j z hz'
        refine ⟨c, ?_, f2, f3⟩
        rw [List.flatMap_cons, List.getElem?_append_left (by simp; omega)]
        rw [← Array.getElem?_toList] at f1; exact f1
      · rw [List.getElem?_append_right hge] at hz'
        obtain ⟨c, f1, f2, f3⟩ := d4 _ z hz'
        refine ⟨c, ?_, f2, f3⟩
        rw [List.flatMap_cons, List.getElem?_append_right (by simp; omega)]
        rw [← f1]; congr 1; simp; omega
theorem Do {T E sz bytes n id : Nat} {z : Value} {parts : Array (Nat × Operand)} {xs : List Operand} {ys : List V} (hT : elP P T E sz bytes z) (hp : parts.toList = (xs.zipIdx 0).map (fun p => (p.2, p.1))) (hx : ovL F xs ys) (hn : xs.length = n)
    (hall : ∀ y ∈ ys, (cellsV y).length = sz ∧ (cellsV y).all (Ij H) = true) (hlim : n * sz ≤ 2 ^ 24) (hid : H.length = id) :
    HY P Γ (.buildSlice T n parts) F H (.o id 0 0 n) (H ++ [⟨E, sz, 0, true, cellsL ys⟩]) := fun ρ a w s => by
  obtain ⟨i, hu, hi, hz, hs, hby, hzs, hpos⟩ := hT
  obtain ⟨d1, d2, d3, d4⟩ := s.cellsL' sz ys (xs.map a.eval) (s.ovL hx) hall
  have hlen : (xs.map a.eval).length = n := by simpa using hn
  have hflat : ((xs.map a.eval).flatMap fun v => v.cells.toList).length = n * sz := by
    rw [← hlen]
    clear d3 d4 hlen
    generalize xs.map a.eval = us at d2
    clear d1
    induction us with
    | nil => simp
    | cons u us ih => simp only [List.flatMap_cons, List.length_append, Array.length_toList, List.length_cons, Nat.add_mul, Nat.one_mul]; rw [ih (fun v hv => d2 v (by simp [hv])), d2 u (by simp)]; omega
  have hfill : Instr.fill (fun i => some (i * sz, sz)) ((Array.range (n * sz)).map (z.cells[· % z.cells.size]!)) ((parts.map fun (i, x) => (i, a.eval x)).toList) = some ((xs.map a.eval).flatMap fun v => v.cells.toList).toArray := by
    have e1 : (parts.map fun (i, x) => (i, a.eval x)).toList = ((xs.map a.eval).zipIdx 0).map fun p => (p.2, p.1) := by
      rw [Array.toList_map, hp, List.map_map]
      simp [List.zipIdx_map, Function.comp_def]
    rw [e1]
    have := O4 sz (xs.map a.eval) ((Array.range (n * sz)).map (z.cells[· % z.cells.size]!)).toList [] 0 d2 (by rw [hlen]; simp) (by simp)
    rw [List.nil_append, List.nil_append, Array.toArray_toList] at this
    exact this
  refine ⟨_, _, _, Adt (re := ⟨some w.heap.size, n, 0, sz⟩) rfl rfl (by rw [s.hr.len, hid]) (Nat.le_refl _), s.alloc ((xs.map a.eval).flatMap fun v => v.cells.toList).toArray E (cellsL ys) sz n (by simpa using hflat) ?_ (by rw [List.size_toArray, d3]; exact Nat.le_refl _) ?_, Gj w _, fun _ _ _ _ _ => ?_⟩
  · have : n ≤ n * sz := Nat.le_mul_of_pos_right _ hpos
    unfold maxLen; omega
  · intro j y hy
    obtain ⟨c, f1, f2, f3⟩ := d4 j y hy
    exact ⟨c, by simpa using f1, f2, f3⟩
  · have e : (Instr.buildSlice T n (parts.map fun (i, x) => (i, a.eval x))).run P w = .ok (.slice (some ⟨w.heap.size, 0, none⟩) n n) (w.alloc (.cells ((xs.map a.eval).flatMap fun v => v.cells.toList).toArray E)) := by
      have hz' : (zeroValue E).run P w = .ok z w := by simp [zeroValue, typeInfo, hi, hz]
      have hs' : (sizeOf E).run P w = .ok sz w := by simp [sizeOf, typeInfo, hi, hs]
      simp only [Instr.buildSlice, Sem.run_bind, run_underlying hu, Result.andThen_ok, hs']
      rw [if_neg (by omega)]
      by_cases h0 : n * sz = 0
      · have hn0 : n = 0 := by rcases Nat.mul_eq_zero.1 h0 with h | h; exact h; omega
        rw [if_pos h0]
        rw [h0] at hfill ⊢
        have e2 : ∀ f : Nat → Value, Array.map f (Array.range 0) = #[] := fun f => by simp [Array.range_zero']
        rw [e2] at hfill
        simp only [pure_bind, e2, hfill]
        simp [newRow, newObj, Sem.run]
      · rw [if_neg h0]
        simp only [Sem.run_bind, hz', Result.andThen_ok, Sem.run_pure]
        rw [hfill]
        simp [newRow, newObj, Sem.run]
    exact El e

theorem StA.born {ρ : List Re} {a : Act} {w : World} (s : StA Γ ρ F H a w) {re : Re} {ob : Ob} {w' : World} (hg : w.grownBy w' none) (hl' : ob.live = true) (hver : re.ver = ob.ver) (hsz : re.sz = ob.sz)
    (hblk : ∀ g, re.g = some g → w.heap.size ≤ g) (hnob : re.g = none → ob.cs = [] ∧ re.cap = 0)
    (hok : ∀ g', re.g = some g' → ∃ cur, w'.heap[g']? = some (.cells cur ob.t (0, 0)) ∧ cur.size = re.cap * ob.sz ∧ ob.cs.length ≤ cur.size ∧ re.cap ≤ maxLen ∧
      ∀ (j : Nat) (y : V), ob.cs[j]? = some y → ∃ u, cur[j]? = some u ∧ u.oneCell' = true ∧ Rel w (Bb Γ.M ρ H) Γ.w0.heap.size ρ y u) :
    StA Γ (ρ ++ [re]) F (H ++ [ob]) a w' := by
  have hl := s.hr.len
  have split : ∀ (i : Nat) (o : Ob) (r : Re), (H ++ [ob])[i]? = some o → (ρ ++ [re])[i]? = some r → (H[i]? = some o ∧ ρ[i]? = some r) ∨ (i = H.length ∧ o = ob ∧ r = re) := by
    intro i o r ha hb
    rcases Nat.lt_or_ge i H.length with hlt | hge
    · rw [List.getElem?_append_left hlt] at ha
      rw [List.getElem?_append_left (by omega)] at hb
      exact .inl ⟨ha, hb⟩
    · have hid : i = H.length := by
        rcases Nat.lt_or_ge H.length i with h | h
        · rw [List.getElem?_eq_none (by simp; omega)] at ha; cases ha
        · omega
      subst hid
      rw [List.getElem?_append_right (Nat.le_refl _)] at ha
      rw [← hl, List.getElem?_append_right (Nat.le_refl _)] at hb
      simp at ha hb
      exact .inr ⟨rfl, ha.symm, hb.symm⟩
  have hre : ∀ (i : Nat) (o : Ob), (H ++ [ob])[i]? = some o → ∃ r, (ρ ++ [re])[i]? = some r := fun i o h => by
    have : i < (H ++ [ob]).length := (List.getElem?_eq_some_iff.1 h).1
    exact ⟨_, List.getElem?_eq_getElem (by simp at this ⊢; omega)⟩
  have lsub : ∀ b, Bb Γ.M (ρ ++ [re]) (H ++ [ob]) b → Bb Γ.M ρ H b ∨ w.heap.size ≤ b := by
    rintro b (h | ⟨i, o, r, h1, h2, h3, h4⟩)
    · exact .inl (.inl h)
    · rcases split i o r h1 h3 with ⟨a1, a2⟩ | ⟨_, _, rfl⟩
      · exact .inl (.inr ⟨i, o, r, a1, h2, a2, h4⟩)
      · exact .inr (hblk b h4)
  have ev : Ev w (Bb Γ.M ρ H) Γ.w0.heap.size ρ w' (Bb Γ.M (ρ ++ [re]) (H ++ [ob])) Γ.w0.heap.size (ρ ++ [re]) :=
    { size := hg.size
      blk := fun b hb _ => hg.block b hb (by simp)
      lv := fun b hb hn h => by
        rcases lsub b h with h | h
        · exact hn h
        · omega
      bb := Nat.le_refl _
      rho := fun i r h => ⟨r, by rw [List.getElem?_append_left (List.getElem?_eq_some_iff.1 h).1]; exact h, Nat.le_refl _, fun _ => rfl⟩ }
  refine ⟨⟨by simp [hl], ?_, ?_, ?_⟩, s.n, s.ds, fun t => (s.fr t).ev ev, ?_⟩
  · intro i o h1 h2
    obtain ⟨r, h3⟩ := hre i o h1
    rcases split i o r h1 h3 with ⟨a1, a2⟩ | ⟨rfl, rfl, rfl⟩
    · obtain ⟨r', h4, h5⟩ := s.hr.ob i o a1 h2
      obtain rfl : r' = r := by have := h4.symm.trans a2; injection this
      refine ⟨r', h3, h5.ver, h5.sz, h5.nob, fun g hg' => ?_⟩
      obtain ⟨cur, c1, c2, c3, c4, c5⟩ := h5.blk g hg'
      refine ⟨cur, by rw [hg.block g (s.hr.lt a1 h2 a2 hg') (by simp)]; exact c1, c2, c3, c4, fun j y hy => ?_⟩
      obtain ⟨u, d1, d2, d3⟩ := c5 j y hy
      exact ⟨u, d1, d2, d3.ev ev⟩
    · refine ⟨r, h3, hver, hsz, hnob, fun g hg' => ?_⟩
      obtain ⟨cur, c1, c2, c3, c4, c5⟩ := hok g hg'
      refine ⟨cur, c1, c2, c3, c4, fun j y hy => ?_⟩
      obtain ⟨u, d1, d2, d3⟩ := c5 j y hy
      exact ⟨u, d1, d2, d3.ev ev⟩
  · intro i j oi oj ri rj g hij h1 h2 h3 h4 h5 h6 h7 h8
    rcases split i oi ri h1 h5 with ⟨a1, a2⟩ | ⟨rfl, _, rfl⟩ <;> rcases split j oj rj h3 h6 with ⟨b1, b2⟩ | ⟨rfl, _, rfl⟩
    · exact s.hr.apart i j oi oj ri rj g hij a1 h2 b1 h4 a2 b2 h7 h8
    · have := s.hr.lt a1 h2 a2 h7; have := hblk g h8; omega
    · have := s.hr.lt b1 h4 b2 h8; have := hblk g h7; omega
    · exact hij rfl
  · intro i o r g h1 h2 h3 h4 hM
    rcases split i o r h1 h3 with ⟨a1, a2⟩ | ⟨_, _, rfl⟩
    · exact s.hr.foreign i o r g a1 h2 a2 h4 hM
    · have := s.fro.old g hM; have := s.fro.size; have := hblk g h4; omega
  · refine ⟨hg.os.trans s.fro.os, hg.tape.trans s.fro.tape, hg.output.trans s.fro.output, Nat.le_trans s.fro.size hg.size, fun b hb hn => ?_, s.fro.old, ?_, fun i r h => ?_⟩
    · rw [hg.block b (Nat.lt_of_lt_of_le hb s.fro.size) (by simp)]; exact s.fro.blk b hb hn
    · intro i o r g h1 h2 h3 h4
      rcases split i o r h1 h3 with ⟨a1, a2⟩ | ⟨_, _, rfl⟩
      · exact s.fro.mine i o r g a1 h2 a2 h4
      · have := s.fro.size; have := hblk g h4; exact .inl (by omega)
    · obtain ⟨r', e1, e2, e3⟩ := s.fro.rho i r h
      exact ⟨r', by rw [List.getElem?_append_left (List.getElem?_eq_some_iff.1 e1).1]; exact e1, e2, e3⟩

def Src (Γ : Ctx) (H : List Ob) (y : V) (sz m : Nat) (zs : List V) : Prop :=
  zs.length = m * sz ∧ ∀ ρ F a w, StA Γ ρ F H a w → ∀ v, Rel w (Bb Γ.M ρ H) Γ.w0.heap.size ρ y v → ∃ A c, ∃ us : List Value, v = .slice A m c ∧ us.length = m * sz ∧ (∀ u ∈ us, u.oneCell' = true) ∧
    (0 < m → ∃ ad : Addr, A = some ad ∧ ∀ j u, us[j]? = some u → w.cell? (ad.add j) = some u) ∧ ∀ (j : Nat) (z : V), zs[j]? = some z → ∃ u, us[j]? = some u ∧ Rel w (Bb Γ.M ρ H) Γ.w0.heap.size ρ z u
theorem Agj {fr : Bool} {k : IntKind} {l : List Int} : Src Γ H (.n fr k l) 1 l.length (ints k l) :=
  ⟨by simp [ints], fun ρ F a w s v ⟨A, c, e, _, _, h⟩ => ⟨A, c, l.map (Value.int k), e, by simp, by simp [Value.oneCell'], fun hm => by
    obtain ⟨ad, e1, _, hc⟩ := h (by intro e; simp [e] at hm)
    refine ⟨ad, e1, fun j u hu => ?_⟩
    rw [List.getElem?_map] at hu
    cases hj : l[j]? with
    | none => rw [hj] at hu; cases hu
    | some y => rw [hj] at hu; simp at hu; subst hu; exact hc j y hj, fun j z hz => by
    rw [F8] at hz
    cases hj : l[j]? with
    | none => rw [hj] at hz; cases hz
    | some y => rw [hj] at hz; simp at hz; subst hz; exact ⟨.int k y, by simp [hj], rfl⟩⟩⟩
theorem Pq {id ver len t sz : Nat} {cs : List V} (hH : H[id]? = some ⟨t, sz, ver, true, cs⟩) (hlen : cs.length = len * sz) (hone : cs.all (Ij H) = true) : Src Γ H (.o id ver 0 len) sz len cs :=
  ⟨hlen, fun ρ F a w s v r => by
    obtain ⟨re, o⟩ := s.own hH rfl
    obtain ⟨re', e1, hle, hp⟩ := r
    obtain rfl : re' = re := by have := e1.symm.trans o.at_; injection this
    obtain ⟨hcap, ⟨g, ad, hg, hv, had⟩ | ⟨hg, hv, _, hl0⟩⟩ := hp (o.ok.ver.symm)
    · obtain ⟨us, k1, k2, k3, k4⟩ := G9 o hg cs 0 (fun j y h => by rw [Nat.zero_add]; exact h)
      refine ⟨some ad, _, us, hv, by rw [k1, hlen], k3, fun hm => ⟨ad, rfl, fun j u hu => ?_⟩, fun j z hz => Fq cs us j z k2 hz⟩
      rw [had (by omega)]
      have := k4 j u hu
      rwa [show 0 * re'.sz = 0 by simp]
    · subst hl0
      have h0 : cs = [] := List.eq_nil_of_length_eq_zero (by simpa using hlen)
      subst h0
      exact ⟨none, 0, [], hv, by simp, by simp, by simp, by simp⟩⟩

theorem Ih {t ty e sz : Nat} {w : World} (base : Nat) (ht : P.underlying t = some (.slice e)) {i : TypeInfo} (hi : P.info? e = some i) {v : Value} {n : Nat} {xs : List Value} (hown : w.ownsRow base e sz v n xs) (c : Nat) :
    (Builtin.append_ #[t, t] ty #[v, .slice none 0 c]).run P w = .ok v w := by
  rcases hown.2 with ⟨rfl, rfl⟩ | ⟨g, cap, cur, rfl, _, _, hnc, _⟩
  · simp [Builtin.append_, run_underlying ht, sizeOf, typeInfo, hi, Builtin.lenOf, Builtin.firstCells]
  · simp [Builtin.append_, run_underlying ht, sizeOf, typeInfo, hi, Builtin.lenOf, Builtin.firstCells, hnc, storeCells]

theorem Ls {T E sz bytes : Nat} {z : Value} (hT : elP P T E sz bytes z) {w : World} {v : Value} {n m : Nat} {xs us : List Value} (hown : w.ownsRow 0 E sz v n xs) {A : Option Addr} {c : Nat} (hl : us.length = m * sz) (h1 : ∀ u ∈ us, u.oneCell' = true)
    (hsrc : 0 < m → ∃ ad : Addr, A = some ad ∧ ∀ j u, us[j]? = some u → w.cell? (ad.add j) = some u) (hlim : n + m ≤ maxLen) (hbytes : (n + m) * bytes ≤ 140737488355328) (ty : TypeId) :
    ∃ v' w', (Builtin.append_ #[T, T] ty #[v, .slice A m c]).run P w = .ok v' w' ∧ w'.ownsRow 0 E sz v' (n + m) (xs ++ us) ∧ w.grownBy w' v.ownBlock ∧ (v'.ownBlock = v.ownBlock ∨ v'.ownBlock = some w.heap.size) := by
  obtain ⟨i, hu, hi, hz, hs, hby, hzs, hpos⟩ := hT
  have nil : m = 0 → us = [] := fun h => List.eq_nil_of_length_eq_zero (by rw [hl, h]; simp)
  cases A with
  | none =>
    have hm : m = 0 := by
      rcases Nat.eq_zero_or_pos m with h | h
      · exact h
      · obtain ⟨ad, e, _⟩ := hsrc h; cases e
    rw [nil hm]; subst hm
    exact ⟨v, w, Ih 0 hu hi hown c, by simpa using hown, World.grownBy.refl w _, .inl rfl⟩
  | some ad =>
    have hcells : ∀ j u, us[j]? = some u → w.cell? (ad.add j) = some u := by
      rcases Nat.eq_zero_or_pos m with h | h
      · rw [nil h]; simp
      · obtain ⟨ad', e, hc⟩ := hsrc h; injection e with e; subst e; exact hc
    obtain ⟨v', w', r1, r2, r3, _, r5⟩ := run_append_own_at (P := P) w 0 T ty E i z sz bytes hu hi hz hs hby hzs hpos v n xs hown ad m c us hl hcells h1 hlim hbytes (Nat.zero_le _)
    exact ⟨v', w', r1, r2, r3, r5⟩

theorem Od {w : World} {E sz n : Nat} {v : Value} {xs : List Value} (h : w.ownsRow 0 E sz v n xs) (ver : Nat) : ∃ re : Re, re.ver = ver ∧ re.sz = sz ∧ re.g = v.ownBlock ∧ n ≤ re.cap ∧
    ((∃ g ad, re.g = some g ∧ v = .slice (some ad) n (re.cap - 0) ∧ (0 < re.cap ∨ 0 = 0 → ad = ⟨g, 0 * re.sz, none⟩)) ∨ (re.g = none ∧ v = .slice none 0 0 ∧ 0 = 0 ∧ n = 0)) ∧
    (re.g = none → n = 0 ∧ re.cap = 0 ∧ xs = []) ∧ ∀ g, re.g = some g → ∃ cur, w.heap[g]? = some (.cells cur E (0, 0)) ∧ cur.size = re.cap * sz ∧ re.cap ≤ maxLen ∧ n * sz ≤ cur.size ∧ ∀ (j : Nat) (u : Value), xs[j]? = some u → cur[j]? = some u := by
  obtain ⟨hx, ⟨rfl, rfl⟩ | ⟨g, cap, cur, rfl, _, hh, hn, hcap, hs, ht⟩⟩ := h
  · exact ⟨⟨none, 0, ver, sz⟩, rfl, rfl, rfl, Nat.le_refl _, .inr ⟨rfl, rfl, rfl, rfl⟩, fun _ => ⟨rfl, rfl, List.eq_nil_of_length_eq_zero (by simpa using hx)⟩, fun g hg => by cases hg⟩
  · refine ⟨⟨some g, cap, ver, sz⟩, rfl, rfl, rfl, hn, .inl ⟨g, ⟨g, 0, none⟩, rfl, by simp, fun _ => by simp⟩, (fun h => by cases h), fun g' hg => ?_⟩
    injection hg with hg; subst hg
    refine ⟨cur, hh, hs, hcap, by rw [hs]; exact Nat.mul_le_mul_right _ hn, fun j u hu => ?_⟩
    rw [← ht, List.getElem?_take] at hu
    split at hu
    · simpa using hu
    · cases hu

theorem Pa (ts : Array TypeId) (t t' : TypeId) (as : Array Value) : Builtin.append_ ts t as = Builtin.append_ ts t' as := rfl
theorem Qi {T E sz bytes m id : Nat} {z : Value} {x y : Operand} {yy : V} {zs : List V} (hT : elP P T E sz bytes z) (hx : ovO F x = some (.c (.slice none 0 0))) (hy : ovO F y = some yy) (hsrc : Src Γ H yy sz m zs) (hb : m * bytes ≤ 140737488355328) (h63 : m ≤ maxLen) (hid : H.length = id) :
    HY P Γ (.call { callee := .builtin .append, args := #[x, y], argTypes := #[T, T] }) F H (.o id 0 0 m) (H ++ [⟨E, sz, 0, true, zs⟩]) := fun ρ a w s => by
  obtain ⟨A, c, us, hv, k1, k2, k3, k4⟩ := hsrc.2 ρ F a w s _ (s.ov hy)
  obtain ⟨v', w', hrun, hown, hgr, hat⟩ := Ls (P := P) hT (w := w) (v := .slice none 0 0) (n := 0) (xs := []) (World.ownsRow_nil w 0 E sz) (A := A) (c := c) k1 k2 k3 (by omega) (by simpa using hb) 0
  obtain ⟨re, e1, e2, e3, e4, e5, e6, e7⟩ := Od hown 0
  rw [Nat.zero_add] at e4 e5
  have hg2 : ∀ g, re.g = some g → w.heap.size ≤ g := fun g hg => by
    rw [e3] at hg
    rcases hat with h | h
    · rw [h] at hg; cases hg
    · rw [h] at hg; injection hg with hg; omega
  have st := s.born (re := re) (ob := ⟨E, sz, 0, true, zs⟩) hgr rfl e1 e2 hg2 (fun h => by
      obtain ⟨f1, f2, _⟩ := e6 h
      refine ⟨List.eq_nil_of_length_eq_zero ?_, f2⟩
      have : m = 0 := by omega
      show zs.length = 0
      rw [hsrc.1, this, Nat.zero_mul]) (fun g hg => by
      obtain ⟨cur, f1, f2, f3, f4, f5⟩ := e7 g hg
      refine ⟨cur, f1, f2, by show zs.length ≤ _; rw [hsrc.1]; simpa using f4, f3, fun j y hy => ?_⟩
      obtain ⟨u, g1, g2⟩ := k4 j y hy
      exact ⟨u, f5 j u (by simpa using g1), k2 u (List.mem_of_getElem? g1), g2⟩)
  refine ⟨v', w', _, ⟨re, by rw [← hid, ← s.hr.len]; simp, Nat.zero_le _, fun _ => ⟨by omega, e5⟩⟩, st, ?_, fun dst type pos after g => ?_⟩
  · intro ad u hu
    rw [World.cell?_of_block (hgr.block ad.block (World.block_lt_of_cell? w ad hu) (by simp [Value.ownBlock]))]; exact hu
  · exact Ea (b := .append) (ts := #[T, T]) (T := type) (a := a) (args := #[x, y]) (vs := [.slice none 0 0, .slice A m c]) (by rw [show Array.map a.eval #[x, y] = #[a.eval x, a.eval y] by simp, R7 s hx, hv]) (fun ts t a_ => Builtin.append_ ts t a_) (fun _ _ => rfl) ((Pa _ _ _ _).symm ▸ hrun) dst pos after g

theorem Aaz {T E sz bytes m id ver len : Nat} {z : Value} {x y : Operand} {yy : V} {zs cs : List V} (hT : elP P T E sz bytes z) (hx : ovO F x = some (.o id ver 0 len)) (hH : H[id]? = some ⟨E, sz, ver, true, cs⟩) (hcs : cs.length = len * sz) (hy : ovO F y = some yy) (hsrc : Src Γ H yy sz m zs)
    (hb : (len + m) * bytes ≤ 140737488355328) (h63 : len + m ≤ maxLen) :
    ∀ ρ a w, StA Γ ρ F H a w → ∃ v w' ρ', Rel w' (Bb Γ.M ρ' (H.set id ⟨E, sz, ver + 1, true, cs ++ zs⟩)) Γ.w0.heap.size ρ' (.o id (ver + 1) 0 (len + m)) v ∧ StA Γ ρ' F (H.set id ⟨E, sz, ver + 1, true, cs ++ zs⟩) a w' ∧
      ∀ (dst : Option Tmp) (type : TypeId) (pos : String) (after : Array Edge) (g : Option (Nat × Bool)), (execOp a.eval ⟨dst, .call { callee := .builtin .append, args := #[x, y], argTypes := #[T, T] }, type, pos, after, g⟩).run P w = .ok (.value v) w' := fun ρ a w s => by
  obtain ⟨A, c, us, hv, k1, k2, k3, k4⟩ := hsrc.2 ρ F a w s _ (s.ov hy)
  obtain ⟨re, o⟩ := s.own hH rfl
  obtain ⟨re0, e1, hle, hp⟩ := s.ov hx
  obtain rfl : re0 = re := by have := e1.symm.trans o.at_; injection this
  obtain ⟨hcap, hq⟩ := hp (o.ok.ver.symm)
  have hszr : re0.sz = sz := o.ok.sz
  have hverr : re0.ver = ver := o.ok.ver
  -- the row as it stands
  have hrow : ∃ xs : List Value, w.ownsRow 0 E sz (a.eval x) len xs ∧ (∀ (j : Nat) (y : V), cs[j]? = some y → ∃ u, xs[j]? = some u ∧ u.oneCell' = true ∧ Rel w (Bb Γ.M ρ H) Γ.w0.heap.size ρ y u) ∧ (a.eval x).ownBlock = re0.g := by
    rcases hq with ⟨g, ad, hg, hv0, had⟩ | ⟨hg, hv0, _, hl0⟩
    · obtain ⟨cur, c1, c2, c3, c4, c5⟩ := o.ok.blk g hg
      have hc3 : cs.length ≤ cur.size := c3
      have hc2 : cur.size = re0.cap * sz := c2
      refine ⟨cur.toList.take (len * sz), ?_, ?_, ?_⟩
      · refine ⟨by simp; omega, ?_⟩
        exact .inr ⟨g, re0.cap, cur, by rw [hv0, had (by omega)]; simp, Nat.zero_le _, c1, by omega, c4, hc2, rfl⟩
      · intro j y hy
        obtain ⟨u, d1, d2, d3⟩ := c5 j y hy
        refine ⟨u, ?_, d2, d3⟩
        have hj : j < cs.length := (List.getElem?_eq_some_iff.1 hy).1
        rw [List.getElem?_take, if_pos (by omega)]; simpa using d1
      · rw [hv0, had (by omega), hg]; rfl
    · subst hl0
      have h0 : cs = [] := List.eq_nil_of_length_eq_zero (by simpa using hcs)
      subst h0
      exact ⟨[], by rw [hv0]; exact World.ownsRow_nil w 0 E sz, by simp, by rw [hv0, hg]; rfl⟩
  obtain ⟨xs, hown0, hxs, hblk⟩ := hrow
  obtain ⟨v', w', hrun, hown, hgr, hat⟩ := Ls (P := P) hT hown0 (A := A) (c := c) k1 k2 k3 h63 hb 0
  obtain ⟨re', e1', e2, e3, e4, e5, e6, e7⟩ := Od hown (ver + 1)
  have hxl : xs.length = cs.length := by rw [hown0.1, hcs]
  rw [hblk] at hgr hat
  refine ⟨v', w', ρ.set id re', ⟨re', by rw [List.getElem?_set]; simp [(List.getElem?_eq_some_iff.1 o.at_).1], by omega, fun _ => ⟨by omega, e5⟩⟩,
    s.update (ob' := ⟨E, sz, ver + 1, true, cs ++ zs⟩) hH rfl o.at_ hgr rfl e1' e2 (by omega) (fun h => by omega) ?_ (fun h => ?_) (fun g hg => ?_), fun dst type pos after g => ?_⟩
  · rcases hat with h | h
    · exact .inl (by rw [e3, h])
    · exact .inr ⟨w.heap.size, by rw [e3, h], Nat.le_refl _⟩
  · obtain ⟨f1, f2, _⟩ := e6 h
    refine ⟨List.eq_nil_of_length_eq_zero ?_, f2⟩
    show (cs ++ zs).length = 0
    rw [List.length_append, hcs, hsrc.1, ← Nat.add_mul, f1, Nat.zero_mul]
  · obtain ⟨cur, f1, f2, f3, f4, f5⟩ := e7 g hg
    refine ⟨cur, f1, f2, by show (cs ++ zs).length ≤ _; rw [List.length_append, hcs, hsrc.1, ← Nat.add_mul]; exact f4, f3, fun j y hy => ?_⟩
    have hy' : (cs ++ zs)[j]? = some y := hy
    rcases Nat.lt_or_ge j cs.length with hlt | hge
    · rw [List.getElem?_append_left hlt] at hy'
      obtain ⟨u, g1, g2, g3⟩ := hxs j y hy'
      exact ⟨u, f5 j u (by rw [List.getElem?_append_left (by omega)]; exact g1), g2, g3⟩
    · rw [List.getElem?_append_right hge] at hy'
      obtain ⟨u, g1, g2⟩ := k4 _ y hy'
      exact ⟨u, f5 j u (by rw [List.getElem?_append_right (by omega), hxl]; exact g1), k2 u (List.mem_of_getElem? g1), g2⟩
  · exact Ea (b := .append) (ts := #[T, T]) (T := type) (a := a) (args := #[x, y]) (vs := [a.eval x, .slice A m c]) (by rw [show Array.map a.eval #[x, y] = #[a.eval x, a.eval y] by simp, hv]) (fun ts t a_ => Builtin.append_ ts t a_) (fun _ _ => rfl) ((Pa _ _ _ _).symm ▸ hrun) dst pos after g
theorem O2 {ops : Array Oper} {rest : List Oper} {d T E sz bytes m id ver len : Nat} {ty : TypeId} {ps : String} {af : Array Edge} {z : Value} {x y : Operand} {yy : V} {zs cs : List V} (hT : elP P T E sz bytes z) (hx : ovO F x = some (.o id ver 0 len)) (hH : H[id]? = some ⟨E, sz, ver, true, cs⟩) (hcs : cs.length = len * sz) (hy : ovO F y = some yy) (hsrc : Src Γ H yy sz m zs)
    (hb : (len + m) * bytes ≤ 140737488355328) (h63 : len + m ≤ maxLen) (hd : d < Γ.N) (j : JO P ops rest Γ ((d, .o id (ver + 1) 0 (len + m)) :: F) (H.set id ⟨E, sz, ver + 1, true, cs ++ zs⟩) Q) :
    JO P ops (⟨some d, .call { callee := .builtin .append, args := #[x, y], argTypes := #[T, T] }, ty, ps, af, none⟩ :: rest) Γ F H Q := fun a w ⟨ρ, s⟩ => by
  obtain ⟨v, w', ρ', r, s', hr⟩ := Aaz hT hx hH hcs hy hsrc hb h63 ρ a w s
  refine wpList_plain rfl fun K hK => ?_
  unfold Oper.wp
  rw [hr _ _ _ _ _]
  exact hK _ _ (j _ _ ⟨ρ', s'.put hd r⟩)
end


section
variable {P : Program} {Γ : Ctx} {F : Fr} {H : List Ob} {Q : Exit → Fr → List Ob → Prop}

def bnd (F : Fr) (dflt : Nat) : Option Operand → Nat → Prop
  | none, n => n = dflt
  | some x, n => ∃ k z, ovO F x = some (.i k z) ∧ z = (n : Int)
theorem Gx {d : Nat} : bnd F d none d := rfl
theorem Dg {d : Nat} {x : Operand} {k : IntKind} {z : Int} {n : Nat} (h : ovO F x = some (.i k z)) (hz : z = (n : Int)) : bnd F d (some x) n := ⟨k, z, h, hz⟩
theorem I3 {ρ : List Re} {a : Act} {w : World} (s : StA Γ ρ F H a w) {isSlice : Bool} {len cap : Nat} {lo hi mx : Option Operand} {l h m : Nat} (hl : bnd F 0 lo l) (hh : bnd F len hi h) (hm : bnd F cap mx m) (hmh : mx.isSome = true → hi.isSome = true)
    (h1 : l ≤ h) (h2 : h ≤ m) (h3 : m ≤ cap) (w' : World) : (Instr.sliceBounds isSlice len cap (lo.map a.eval) (hi.map a.eval) (mx.map a.eval)).run P w' = .ok (l, h, m) w' := by
  have ev : ∀ {x : Operand} {k z} {n : Nat}, ovO F x = some (.i k z) → z = (n : Int) → a.eval x = .int k (n : Int) := fun hx hz => by rw [Dt s hx, hz]
  have e1 : ∀ (k : IntKind) (y n : Nat) (c : BoundsCode), n ≤ y → (Instr.sliceBound (.int k (n : Int)) y c).run P w' = .ok n w' := fun k y n c hle => by
    rw [run_sliceBound w' k n y c (by omega) (by omega)]; simp
  cases mx with
  | none =>
    have hm' : m = cap := hm
    subst hm'
    cases hi with
    | none =>
      have hh' : h = len := hh
      subst hh'
      cases lo with
      | none => have hl' : l = 0 := hl; subst hl'; simp [Instr.sliceBounds]
      | some x => obtain ⟨k, z, hx, hz⟩ := hl; simp [Instr.sliceBounds, ev hx hz, e1 _ _ _ _ h1]
    | some y =>
      obtain ⟨k', z', hy, hz'⟩ := hh
      cases lo with
      | none => have hl' : l = 0 := hl; subst hl'; simp [Instr.sliceBounds, ev hy hz', e1 _ _ _ _ h2]
      | some x => obtain ⟨k, z, hx, hz⟩ := hl; simp [Instr.sliceBounds, ev hx hz, ev hy hz', e1 _ _ _ _ h1, e1 _ _ _ _ h2]
  | some x' =>
    obtain ⟨k'', z'', hx', hz''⟩ := hm
    cases hi with
    | none => simp at hmh
    | some y =>
      obtain ⟨k', z', hy, hz'⟩ := hh
      cases lo with
      | none => have hl' : l = 0 := hl; subst hl'; simp [Instr.sliceBounds, ev hy hz', ev hx' hz'', e1 _ _ _ _ h2, e1 _ _ _ _ h3]
      | some x => obtain ⟨k, z, hx, hz⟩ := hl; simp [Instr.sliceBounds, ev hx hz, ev hy hz', ev hx' hz'', e1 _ _ _ _ h1, e1 _ _ _ _ h2, e1 _ _ _ _ h3]
theorem K3 {T E : Nat} {x : Operand} {lo hi mx : Option Operand} {fr : Bool} {k : IntKind} {ls : List Int} {l h : Nat} (hT : slB P T E 1 = true) (hx : ovO F x = some (.n fr k ls)) (hl : bnd F 0 lo l) (hh : bnd F ls.length hi h)
    (hm : mx = none ∨ ∃ m, (bnd F ls.length mx m ∧ h ≤ m ∧ m ≤ ls.length ∧ hi.isSome = true)) (h1 : l ≤ h) (h2 : h ≤ ls.length) : LY P Γ (.slice T x lo hi mx) F H (.n fr k ((ls.take h).drop l)) := fun ρ a w s => by
  obtain ⟨A, c, hv, hle, hcm, h3⟩ := s.ov hx
  -- the place where the capacity ends
  obtain ⟨m, hm1, hm2, hm3, hm4⟩ : ∃ m, bnd F c mx m ∧ h ≤ m ∧ m ≤ c ∧ (mx.isSome = true → hi.isSome = true) := by
    rcases hm with rfl | ⟨m, g1, g2, g3, g4⟩
    · exact ⟨c, rfl, by omega, Nat.le_refl _, by simp⟩
    · cases mx with
      | none => exact ⟨c, rfl, by omega, Nat.le_refl _, by simp⟩
      | some y => exact ⟨m, g1, g2, by omega, fun _ => g4⟩
  have hlen : ((ls.take h).drop l).length = h - l := by simp; omega
  refine ⟨.slice (if m = l then A else A.map (·.add (l * 1))) (h - l) (m - l), ⟨_, m - l, by rw [hlen], by rw [hlen]; omega, by omega, fun hne => ?_⟩, fun _ _ _ _ _ w' _ => ?_⟩
  · have hlt : l < h := by
      rcases Nat.lt_or_ge l h with g | g
      · exact g
      · exact absurd (List.eq_nil_of_length_eq_zero (by rw [hlen]; omega)) hne
    obtain ⟨ad, rfl, hb, hc⟩ := h3 (by intro e; rw [e] at h2; simp at h2; omega)
    rw [if_neg (by omega)]
    refine ⟨ad.add (l * 1), rfl, by rw [Gl]; exact hb, fun j y hy => ?_⟩
    have e : (ad.add (l * 1)).add j = ad.add (l + j) := by
      unfold Addr.add
      (repeat' split) <;> simp_all <;> omega
    rw [e]
    refine hc _ y ?_
    rw [List.getElem?_drop, List.getElem?_take] at hy
    split at hy
    · exact hy
    · cases hy
  · have e : (Instr.sliceAt T (a.eval x) (lo.map a.eval) (hi.map a.eval) (mx.map a.eval)).run P w' = .ok (.slice (if m = l then A else A.map (·.add (l * 1))) (h - l) (m - l)) w' := by
      rw [hv]
      simp [Instr.sliceAt, Instr.slice, run_underlying (Hx hT), I3 (P := P) s (isSlice := true) hl hh hm1 hm4 h1 hm2 hm3 w', Da (Jx hT)]
    exact El e
theorem Vg {T E sz : Nat} {x : Operand} {lo hi : Option Operand} {id ver off len t : Nat} {cs : List V} {l h r n : Nat} (hT : slB P T E sz = true) (hx : ovO F x = some (.o id ver off len)) (hH : H[id]? = some ⟨t, sz, ver, true, cs⟩) (hl : bnd F 0 lo l) (hh : bnd F len hi h)
    (h1 : l ≤ h) (h2 : h ≤ len) (hr : off + l = r) (hn : h - l = n) : LY P Γ (.slice T x lo hi none) F H (.o id ver r n) := fun ρ a w s => by
  obtain ⟨re, o⟩ := s.own hH rfl
  obtain ⟨re', e1, hle, hp⟩ := s.ov hx
  obtain rfl : re' = re := by have := e1.symm.trans o.at_; injection this
  obtain ⟨hcap, hq⟩ := hp (o.ok.ver.symm)
  have hsz : re'.sz = sz := o.ok.sz
  rcases hq with ⟨g, ad, hg, hv, had⟩ | ⟨hg, hv, ho, hl0⟩
  · refine ⟨.slice (if re'.cap - off = l then some ad else some (ad.add (l * sz))) n (re'.cap - off - l), ⟨re', o.at_, hle, fun _ => ⟨by omega, .inl ⟨g, if re'.cap - off = l then ad else ad.add (l * sz), hg, ?_, fun hc => ?_⟩⟩⟩, fun _ _ _ _ _ w' _ => ?_⟩
    · split <;> (congr 1; omega)
    · rcases hc with hc | hc
      · rw [if_neg (by omega), had (by omega), Cj, hsz, ← hr, Nat.add_mul]
      · have : l = 0 := by omega
        subst this
        have e3 : off = r := by omega
        subst e3
        split
        · rw [had (by omega)]
        · rw [had (by omega), Cj]; simp
    · have e : (Instr.sliceAt T (a.eval x) (lo.map a.eval) (hi.map a.eval) none).run P w' = .ok (.slice (if re'.cap - off = l then some ad else some (ad.add (l * sz))) n (re'.cap - off - l)) w' := by
        rw [hv]
        have eb := I3 (P := P) s (isSlice := true) (cap := re'.cap - off) (mx := none) hl hh rfl (by simp) h1 (by omega) (Nat.le_refl _) w'
        simp only [Option.map_none] at eb
        simp [Instr.sliceAt, Instr.slice, run_underlying (Hx hT), eb, Da (Jx hT), hn]
      exact El e
  · have : l = 0 := by omega
    subst this
    refine ⟨.slice none 0 0, ⟨re', o.at_, hle, fun _ => ⟨by omega, .inr ⟨hg, rfl, by omega, by omega⟩⟩⟩, fun _ _ _ _ _ w' _ => ?_⟩
    have e : (Instr.sliceAt T (a.eval x) (lo.map a.eval) (hi.map a.eval) none).run P w' = .ok (.slice none 0 0) w' := by
      rw [hv]
      subst hl0
      have eb := I3 (P := P) s (isSlice := true) (cap := 0) (mx := none) hl hh rfl (by simp) h1 (by omega) (Nat.le_refl _) w'
      simp only [Option.map_none] at eb
      have hh0 : h = 0 := by omega
      subst hh0
      simp [Instr.sliceAt, Instr.slice, run_underlying (Hx hT), eb, Da (Jx hT)]
    exact El e
def Sub (F' F : Fr) : Prop := ∀ t y, Cp F' t = some y → Cp F t = some y
theorem Sub.nil : Sub [] F := fun t y h => by simp [Cp] at h
theorem Sub.cons {F' : Fr} {t : Nat} {y : V} (h : Cp F t = some y) (hs : Sub F' F) : Sub ((t, y) :: F') F := fun k z hz => by
  simp only [Cp] at hz
  cases hb : Nat.beq k t
  · rw [hb] at hz; exact hs k z hz
  · rw [hb] at hz
    have := Nat.eq_of_beq_eq_true hb
    subst this
    simp at hz; subst hz; exact h
theorem StA.sub {ρ : List Re} {a : Act} {w : World} {F' : Fr} (h : Sub F' F) (s : StA Γ ρ F H a w) : StA Γ ρ F' H a w :=
  ⟨s.hr, s.n, s.ds, fun t => by
    have h1 := s.fr t
    unfold get at h1 ⊢
    cases h2 : Cp F' t with
    | none => exact trivial
    | some y => rw [h t y h2] at h1; exact h1, s.fro⟩
theorem St.sub {a : Act} {w : World} {F' : Fr} (h : Sub F' F) (s : St Γ F H a w) : St Γ F' H a w := by obtain ⟨ρ, s⟩ := s; exact ⟨ρ, s.sub h⟩
theorem Nv {c : Code} {H' : List Ob} (h : H = H') (j : JC P c Γ F H' Q) : JC P c Γ F H Q := h ▸ j

def D3 (H : List Ob) (id : Nat) : List Ob := H.modify id fun ob => { ob with live := false, cs := [] }
theorem D1 {id i : Nat} {o : Ob} (h : (D3 H id)[i]? = some o) (hl : o.live = true) : i ≠ id ∧ H[i]? = some o := by
  unfold D3 at h
  rw [List.getElem?_modify] at h
  cases hi : H[i]? with
  | none => rw [hi] at h; cases h
  | some o' =>
    rw [hi] at h
    by_cases e : id = i
    · simp [e] at h; rw [← h] at hl; cases hl
    · simp [e] at h; exact ⟨Ne.symm e, by rw [h]⟩
theorem StA.dead {ρ : List Re} {a : Act} {w : World} (s : StA Γ ρ F H a w) (id : Nat) : StA Γ ρ F (D3 H id) a w := by
  have lsub : ∀ b, Bb Γ.M ρ (D3 H id) b → Bb Γ.M ρ H b := by
    rintro b (h | ⟨i, o, r, h1, h2, h3, h4⟩)
    · exact .inl h
    · exact .inr ⟨i, o, r, (D1 h1 h2).2, h2, h3, h4⟩
  have ev : Ev w (Bb Γ.M ρ H) Γ.w0.heap.size ρ w (Bb Γ.M ρ (D3 H id)) Γ.w0.heap.size ρ :=
    ⟨Nat.le_refl _, fun _ _ _ => rfl, fun b _ hn h => hn (lsub b h), Nat.le_refl _, fun i r h => ⟨r, h, Nat.le_refl _, fun _ => rfl⟩⟩
  refine ⟨⟨by simp [D3, s.hr.len], fun i o h1 h2 => ?_, fun i j oi oj ri rj g hij h1 h2 h3 h4 => s.hr.apart i j oi oj ri rj g hij (D1 h1 h2).2 h2 (D1 h3 h4).2 h4, fun i o r g h1 h2 => s.hr.foreign i o r g (D1 h1 h2).2 h2⟩, s.n, s.ds, fun t => (s.fr t).ev ev,
    ⟨s.fro.os, s.fro.tape, s.fro.output, s.fro.size, s.fro.blk, s.fro.old, fun i o r g h1 h2 => s.fro.mine i o r g (D1 h1 h2).2 h2, s.fro.rho⟩⟩
  obtain ⟨r, h3, h4⟩ := s.hr.ob i o (D1 h1 h2).2 h2
  refine ⟨r, h3, h4.ver, h4.sz, h4.nob, fun g hg => ?_⟩
  obtain ⟨cur, c1, c2, c3, c4, c5⟩ := h4.blk g hg
  exact ⟨cur, c1, c2, c3, c4, fun j y hy => by obtain ⟨u, d1, d2, d3⟩ := c5 j y hy; exact ⟨u, d1, d2, d3.ev ev⟩⟩
theorem StA.frozen {ρ : List Re} {a : Act} {w : World} (s : StA Γ ρ F H a w) {id ver off len t : Nat} {k : IntKind} {l : List Int} (hH : H[id]? = some ⟨t, 1, ver, true, ints k l⟩) {v : Value} (r : Rel w (Bb Γ.M ρ H) Γ.w0.heap.size ρ (.o id ver off len) v) (hle : off + len ≤ l.length)
    (hp : ∀ b, ¬ Γ.L0 b) : Rel w (Bb Γ.M ρ (D3 H id)) Γ.w0.heap.size ρ (.n true k ((l.drop off).take len)) v := by
  obtain ⟨re, o⟩ := s.own hH rfl
  obtain ⟨re', e1, _, hq⟩ := r
  obtain rfl : re' = re := by have := e1.symm.trans o.at_; injection this
  obtain ⟨hcap, hq⟩ := hq (o.ok.ver.symm)
  have hsz : re'.sz = 1 := o.ok.sz
  have hlen : ((l.drop off).take len).length = len := by simp; omega
  rcases hq with ⟨g, ad, hg, hv, had⟩ | ⟨hg, hv, ho, hl0⟩
  · obtain ⟨cur, c1, c2, c3, c4, c5⟩ := o.ok.blk g hg
    refine ⟨some ad, re'.cap - off, by rw [hlen]; exact hv, by rw [hlen]; omega, by omega, fun hne => ⟨ad, rfl, ?_, fun j y hy => ?_⟩⟩
    · have hpos : 0 < len := by
        rcases Nat.eq_zero_or_pos len with h | h
        · exact absurd (List.eq_nil_of_length_eq_zero (by rw [hlen, h])) hne
        · exact h
      rw [had (by omega)]
      refine ⟨s.hr.lt hH rfl o.at_ hg, ?_, fun _ => ?_⟩
      · rintro (h | ⟨i, oi, ri, h1, h2, h3, h4⟩)
        · exact s.hr.foreign id _ re' g hH rfl o.at_ hg h
        · obtain ⟨hne, h1'⟩ := D1 h1 h2
          exact s.hr.apart i id oi _ ri re' g hne h1' h2 hH rfl h3 o.at_ h4 hg
      · rcases s.fro.mine id _ re' g hH rfl o.at_ hg with h | h
        · exact h
        · exact absurd h (hp g)
    · rw [List.getElem?_take] at hy
      split at hy
      · rename_i hj
        rw [List.getElem?_drop] at hy
        rw [had (by omega), Cj, hsz, Nat.mul_one]
        obtain ⟨u, d1, _, d3⟩ := o.cell hg (show (ints k l)[off + j]? = some (.i k y) by rw [F8, hy]; rfl)
        rw [d1, show u = .int k y from d3]
      · cases hy
  · subst hl0
    exact ⟨none, 0, by simpa using hv, by simp, by simp [maxLen], fun h => absurd (by simp) h⟩
def Ef : V → Bool
  | .i _ _ | .b _ | .s _ | .c _ | .n _ _ _ | .l _ _ _ | .q _ | .u => true
  | _ => false
theorem My {w : World} {L : Nat → Prop} {B : Nat} {ρ : List Re} : ∀ (y : V) (v : Value), Ef y = true → Rel w L B ρ y v → Rel w L 0 [] y v
  | .i _ _, _, _, h => h
  | .b _, _, _, h => h
  | .s _, _, _, h => h
  | .c _, _, _, h => h
  | .n _ _ _, _, _, ⟨A, c, e, h1, h2, h3⟩ => ⟨A, c, e, h1, h2, fun hl => by obtain ⟨ad, e1, hb, hc⟩ := h3 hl; exact ⟨ad, e1, ⟨hb.1, hb.2.1, fun _ => Nat.zero_le _⟩, hc⟩⟩
  | .l _ _ _, _, _, ⟨A, c, e, h1, h2, h3⟩ => ⟨A, c, e, h1, h2, fun hl => by obtain ⟨ad, e1, hb, hc⟩ := h3 hl; exact ⟨ad, e1, ⟨hb.1, hb.2.1, fun _ => Nat.zero_le _⟩, hc⟩⟩
  | .q _, _, _, ⟨ad, e, hb, hc⟩ => ⟨ad, e, ⟨hb.1, hb.2.1, by simp⟩, hc⟩
  | .u, _, _, _ => trivial
theorem StA.mine_dead {ρ : List Re} {a : Act} {w : World} (s : StA Γ ρ F H a w) {id g : Nat} {ob : Ob} {re : Re} (hH : H[id]? = some ob) (hl : ob.live = true) (hre : ρ[id]? = some re) (hg : re.g = some g) (hp : ∀ b, ¬ Γ.L0 b) (fr : Bool) :
    Okb w (Bb Γ.M ρ (D3 H id)) Γ.w0.heap.size fr g := by
  refine ⟨s.hr.lt hH hl hre hg, ?_, fun _ => ?_⟩
  · rintro (h | ⟨i, oi, ri, h1, h2, h3, h4⟩)
    · exact s.hr.foreign id _ re g hH hl hre hg h
    · obtain ⟨hne, h1'⟩ := D1 h1 h2
      exact s.hr.apart i id oi _ ri re g hne h1' h2 hH hl h3 hre h4 hg
  · rcases s.fro.mine id _ re g hH hl hre hg with h | h
    · exact h
    · exact absurd h (hp g)
theorem StA.dead_ev {ρ : List Re} {a : Act} {w : World} (s : StA Γ ρ F H a w) (id : Nat) : Ev w (Bb Γ.M ρ H) Γ.w0.heap.size ρ w (Bb Γ.M ρ (D3 H id)) Γ.w0.heap.size ρ :=
  ⟨Nat.le_refl _, fun _ _ _ => rfl, fun b _ hn h => hn (by
    rcases h with h | ⟨i, o, r, h1, h2, h3, h4⟩
    · exact .inl h
    · exact .inr ⟨i, o, r, (D1 h1 h2).2, h2, h3, h4⟩), Nat.le_refl _, fun i r h => ⟨r, h, Nat.le_refl _, fun _ => rfl⟩⟩
theorem M1 {w : World} {L : Nat → Prop} {B : Nat} {ρ : List Re} {ad : Addr} : ∀ (ys : List V) (k : Nat), (∀ (j : Nat) (y : V), ys[j]? = some y → ∃ u, w.cell? (ad.add (k + j)) = some u ∧ Rel w L B ρ y u) → RelC w L B ρ ad k ys
  | [], _, _ => trivial
  | y :: ys, k, h => ⟨by simpa using h 0 y rfl, M1 ys (k + 1) fun j z hz => by have := h (j + 1) z (by simpa using hz); rwa [show k + (j + 1) = k + 1 + j by omega] at this⟩
theorem StA.frozenC {ρ : List Re} {a : Act} {w : World} (s : StA Γ ρ F H a w) {id ver off t sz : Nat} {cs : List V} (hH : H[id]? = some ⟨t, sz, ver, true, cs⟩) {v : Value} (r : Rel w (Bb Γ.M ρ H) Γ.w0.heap.size ρ (.p id ver off) v) (hpu : cs.all Ef = true)
    (hp : ∀ b, ¬ Γ.L0 b) : Rel w (Bb Γ.M ρ (D3 H id)) Γ.w0.heap.size ρ (.q (cs.drop off)) v := by
  obtain ⟨re, o⟩ := s.own hH rfl
  obtain ⟨re', e1, _, hq⟩ := r
  obtain rfl : re' = re := by have := e1.symm.trans o.at_; injection this
  obtain ⟨g, hg, hv⟩ := hq (o.ok.ver.symm)
  have hok := s.mine_dead hH rfl o.at_ hg hp false
  refine ⟨⟨g, off, none⟩, hv, hok, M1 _ _ fun j y hy => ?_⟩
  rw [List.getElem?_drop] at hy
  obtain ⟨u, d1, _, d3⟩ := o.cell hg hy
  refine ⟨u, by rw [Cj, Nat.zero_add]; exact d1, My _ _ (List.all_eq_true.1 hpu _ (List.mem_of_getElem? hy)) (d3.ev (s.dead_ev id))⟩
theorem V1 {sz : Nat} : ∀ (rows : List (List V)) (i j : Nat) (r : List V) (y : V), (∀ r ∈ rows, r.length = sz) → rows[i]? = some r → r[j]? = some y → rows.flatten[i * sz + j]? = some y
  | [], i, j, r, y, _, h, _ => by simp at h
  | r0 :: rows, 0, j, r, y, hl, h, hy => by
    simp at h; subst h
    have : j < r0.length := (List.getElem?_eq_some_iff.1 hy).1
    simp [List.getElem?_append_left this, hy]
  | r0 :: rows, i + 1, j, r, y, hl, h, hy => by
    have h0 := hl r0 (List.mem_cons_self ..)
    have := V1 rows i j r y (fun r hr => hl r (List.mem_cons_of_mem _ hr)) (by simpa using h) hy
    rw [List.flatten_cons, List.getElem?_append_right (by rw [h0, Nat.add_mul]; omega), h0]
    rw [show (i + 1) * sz + j - sz = i * sz + j by rw [Nat.add_mul]; omega]
    exact this
theorem Uv {w : World} {L : Nat → Prop} {B : Nat} {ρ : List Re} {sz : Nat} {ad : Addr} : ∀ (rows : List (List V)) (k : Nat), (∀ r ∈ rows, r.length = sz) → (∀ (i : Nat) (r : List V), rows[i]? = some r → RelC w L B ρ ad (k + i * sz) r) → RelR w L B ρ sz ad k rows
  | [], _, _, _ => trivial
  | r :: rows, k, h1, h2 => ⟨h1 r (List.mem_cons_self ..), by simpa using h2 0 r rfl, Uv rows (k + sz) (fun r hr => h1 r (List.mem_cons_of_mem _ hr)) fun i r hr => by have := h2 (i + 1) r (by simpa using hr); rwa [show k + (i + 1) * sz = k + sz + i * sz by rw [Nat.add_mul]; omega] at this⟩
theorem StA.frozenR {ρ : List Re} {a : Act} {w : World} (s : StA Γ ρ F H a w) {id ver len t sz : Nat} {cs : List V} {rows : List (List V)} (hH : H[id]? = some ⟨t, sz, ver, true, cs⟩) {v : Value} (r : Rel w (Bb Γ.M ρ H) Γ.w0.heap.size ρ (.o id ver 0 len) v)
    (hcs : cs = rows.flatten) (hlen : rows.length = len) (hsz : ∀ r ∈ rows, r.length = sz) (hpu : ∀ r ∈ rows, r.all Ef = true) (h0 : 0 < sz)
    (hp : ∀ b, ¬ Γ.L0 b) : Rel w (Bb Γ.M ρ (D3 H id)) Γ.w0.heap.size ρ (.l true sz rows) v := by
  obtain ⟨re, o⟩ := s.own hH rfl
  obtain ⟨re', e1, _, hq⟩ := r
  obtain rfl : re' = re := by have := e1.symm.trans o.at_; injection this
  obtain ⟨hcap, hq⟩ := hq (o.ok.ver.symm)
  rcases hq with ⟨g, ad, hg, hv, had⟩ | ⟨hg, hv, ho, hl0⟩
  · obtain ⟨cur, c1, c2, c3, c4, c5⟩ := o.ok.blk g hg
    have had' := had (.inr rfl)
    rw [Nat.zero_mul] at had'
    refine ⟨some ad, re'.cap - 0, by rw [hlen]; exact hv, by rw [hlen]; omega, by omega, fun hne => ⟨ad, rfl, ?_, Uv rows 0 hsz fun i row hi => M1 _ _ fun j y hy => ?_⟩⟩
    · rw [had']; exact s.mine_dead hH rfl o.at_ hg hp true
    · have hy' := V1 rows i j row y hsz hi hy
      rw [← hcs] at hy'
      obtain ⟨u, d1, _, d3⟩ := o.cell hg hy'
      refine ⟨u, by rw [had', Cj, Nat.zero_add, Nat.zero_add]; exact d1, My _ _ (List.all_eq_true.1 (hpu row (List.mem_of_getElem? hi)) _ (List.mem_of_getElem? hy)) (d3.ev (s.dead_ev id))⟩
  · subst hl0
    have : rows = [] := List.eq_nil_of_length_eq_zero hlen
    subst this
    exact ⟨none, 0, by simpa using hv, by simp, by simp [maxLen], fun h => absurd rfl h⟩
theorem StA.frz {ρ : List Re} {a : Act} {w : World} (s : StA Γ ρ F H a w) (id t : Nat) {y z : V} (hx : Cp F t = some y) (h : ∀ v, Rel w (Bb Γ.M ρ H) Γ.w0.heap.size ρ y v → Rel w (Bb Γ.M ρ (D3 H id)) Γ.w0.heap.size ρ z v) : StA Γ ρ ((t, z) :: F) (D3 H id) a w := by
  refine ⟨(s.dead id).hr, s.n, s.ds, fun t' => ?_, (s.dead id).fro⟩
  rw [Iu]
  by_cases e : t' = t
  · subst e
    rw [if_pos rfl]
    have := s.fr t'
    unfold get at this
    rw [hx] at this
    exact h _ this
  · rw [if_neg e]; exact (s.dead id).fr t'
theorem Vu {c : Code} (t : Nat) {id ver off T sz : Nat} {cs zs : List V} (hx : Cp F t = some (.p id ver off)) (hH : H[id]? = some ⟨T, sz, ver, true, cs⟩) (hpu : cs.all Ef = true) (hz : cs.drop off = zs) (hp : ∀ b, ¬ Γ.L0 b)
    (j : JC P c Γ ((t, .q zs) :: F) (D3 H id) Q) : JC P c Γ F H Q := fun a w ⟨ρ, s⟩ =>
  j a w ⟨ρ, s.frz id t hx fun v r => hz ▸ s.frozenC hH r hpu hp⟩
theorem Jm {c : Code} (t : Nat) {id ver off len T : Nat} {k : IntKind} {l : List Int} (hx : Cp F t = some (.o id ver off len)) (hH : H[id]? = some ⟨T, 1, ver, true, ints k l⟩) (hle : off + len ≤ l.length) {l' : List Int} (hl : (l.drop off).take len = l') (hp : ∀ b, ¬ Γ.L0 b)
    (j : JC P c Γ ((t, .n true k l') :: F) (D3 H id) Q) : JC P c Γ F H Q := fun a w ⟨ρ, s⟩ =>
  j a w ⟨ρ, s.frz id t hx fun v r => hl ▸ s.frozen hH r hle hp⟩
theorem Jl {ops : Array Oper} {rest : List Oper} (t : Nat) {id ver off len T : Nat} {k : IntKind} {l l' : List Int} (hx : Cp F t = some (.o id ver off len)) (hH : H[id]? = some ⟨T, 1, ver, true, ints k l⟩) (hle : off + len ≤ l.length) (hl : (l.drop off).take len = l') (hp : ∀ b, ¬ Γ.L0 b)
    (j : JO P ops rest Γ ((t, .n true k l') :: F) (D3 H id) Q) : JO P ops rest Γ F H Q := fun a w ⟨ρ, s⟩ =>
  j a w ⟨ρ, s.frz id t hx fun v r => hl ▸ s.frozen hH r hle hp⟩
end


inductive Out where
  | ret (y : V)
  | pan (c : List PanicEntry)
def Hv (w : World) (L : Nat → Prop) (B : Nat) : Out → Ending → Prop
  | .ret y, e => ∃ v, e = .returned v ∧ Rel w L B [] y v
  | .pan c, e => e = .panicked c

def Spec (P : Program) (f : FuncId) (args : List V) (post : Out → Prop) : Prop :=
  ∀ (M : Nat → Prop) (w : World) (vals : List Value), (∀ b, M b → b < w.heap.size) → RelL w M w.heap.size [] args vals →
    Calls P f vals.toArray w fun e w' => ∃ o, post o ∧ Hv w' M w.heap.size o e ∧ Below w.heap.size w w'
theorem Spec.mono {P : Program} {f : FuncId} {args : List V} {post post' : Out → Prop} (h : Spec P f args post) (hp : ∀ o, post o → post' o) : Spec P f args post' :=
  fun M w vals hM hr => (h M w vals hM hr).mono fun e w' ⟨o, h1, h2, h3⟩ => ⟨o, hp o h1, h2, h3⟩

inductive ArgV : V → V → Prop
  | i {k : IntKind} {n : Int} : ArgV (.i k n) (.i k n)
  | b {x : Bool} : ArgV (.b x) (.b x)
  | s {x : ByteArray} : ArgV (.s x) (.s x)
  | c {v : Value} : ArgV (.c v) (.c v)
  | n {fr : Bool} {k : IntKind} {l : List Int} : ArgV (.n fr k l) (.n false k l)
  | nil {k : IntKind} : ArgV (.c (.slice none 0 0)) (.n false k [])
  | l {fr : Bool} {sz : Nat} {es : List (List V)} : ArgV (.l fr sz es) (.l false sz es)
  | nill {sz : Nat} : ArgV (.c (.slice none 0 0)) (.l false sz [])
  | q {es : List V} : ArgV (.q es) (.q es)
  | f {fn : FuncId} : ArgV (.f fn []) (.f fn [])
  | u {y : V} : ArgV y .u
  | a0 : ArgV (.a []) (.a [])
  | a1 {y z : V} {ys zs : List V} (h : ArgV y z) (hs : ArgV (.a ys) (.a zs)) : ArgV (.a (y :: ys)) (.a (z :: zs))
  | fc {fn : FuncId} {ys zs : List V} (h : ArgV (.a ys) (.a zs)) : ArgV (.f fn ys) (.f fn zs)
theorem Pz {w : World} {L : Nat → Prop} {B : Nat} {ρ : List Re} {fr : Bool} {k : IntKind} : Rel w L B ρ (.n fr k []) (.slice none 0 0) := ⟨none, 0, rfl, by simp, by simp [maxLen], by simp⟩
theorem Rj {w : World} {L : Nat → Prop} {B : Nat} {ρ : List Re} {fr : Bool} {sz : Nat} : Rel w L B ρ (.l fr sz []) (.slice none 0 0) := ⟨none, 0, rfl, by simp, by simp [maxLen], by simp⟩
theorem ArgV.rel {w : World} {L : Nat → Prop} {B B' : Nat} {ρ : List Re} {y z : V} (h : ArgV y z) : ∀ {v : Value}, Rel w L B ρ y v → Rel w L B' [] z v := by
  induction h with
  | i => exact fun h => h
  | b => exact fun h => h
  | s => exact fun h => h
  | c => exact fun h => h
  | n => rintro v ⟨A, c, e, h1, h2, h3⟩; exact ⟨A, c, e, h1, h2, fun hl => by obtain ⟨ad, e1, hb, hc⟩ := h3 hl; exact ⟨ad, e1, ⟨hb.1, hb.2.1, by simp⟩, hc⟩⟩
  | nil => rintro v rfl; exact Pz
  | l => rintro v ⟨A, c, e, h1, h2, h3⟩; exact ⟨A, c, e, h1, h2, fun hl => by obtain ⟨ad, e1, hb, hc⟩ := h3 hl; exact ⟨ad, e1, ⟨hb.1, hb.2.1, by simp⟩, hc⟩⟩
  | nill => rintro v rfl; exact Rj
  | q => rintro v ⟨ad, e, hb, hc⟩; exact ⟨ad, e, ⟨hb.1, hb.2.1, by simp⟩, hc⟩
  | f => rintro v ⟨us, e, hr⟩; exact ⟨us, e, hr⟩
  | u => exact fun _ => trivial
  | a0 => rintro v ⟨us, e, hr⟩; exact ⟨us, e, hr⟩
  | a1 h hs ih1 ih2 =>
    rintro v ⟨us, rfl, u, us', rfl, hr1, hr2⟩
    obtain ⟨us'', e2, hr3⟩ := ih2 ⟨us', rfl, hr2⟩
    have : us' = us'' := by
      injection e2 with e2
      have := congrArg Array.toList e2; simpa using this
    subst this
    exact ⟨_, rfl, u, us', rfl, ih1 hr1, hr3⟩
  | fc h ih =>
    rintro v ⟨us, rfl, hr⟩
    obtain ⟨us2, e2, hr2⟩ := ih ⟨us, rfl, hr⟩
    have : us = us2 := by
      injection e2 with e2
      have := congrArg Array.toList e2; simpa using this
    subst this
    exact ⟨us, rfl, hr2⟩
def ArgL : List V → List V → Prop
  | [], zs => zs = []
  | y :: ys, zs => ∃ z zs', zs = z :: zs' ∧ ArgV y z ∧ ArgL ys zs'
theorem ArgL.nil : ArgL [] [] := rfl
theorem ArgL.cons {y z : V} {ys zs : List V} (h : ArgV y z) (hs : ArgL ys zs) : ArgL (y :: ys) (z :: zs) := ⟨z, zs, rfl, h, hs⟩
theorem ArgL.rel {w : World} {L : Nat → Prop} {B B' : Nat} {ρ : List Re} : ∀ {ys zs : List V} (us : List Value), ArgL ys zs → RelL w L B ρ ys us → RelL w L B' [] zs us
  | [], zs, us, h, hr => by rw [show zs = [] from h]; exact hr
  | y :: ys, zs, us, ⟨z, zs', e, h1, h2⟩, ⟨u, us', e2, h3, h4⟩ => by rw [e]; exact ⟨u, us', e2, h1.rel h3, h2.rel us' h4⟩

section
variable {P : Program} {Γ : Ctx} {F : Fr} {H : List Ob} {Q : Exit → Fr → List Ob → Prop}

theorem Ns {ρ : List Re} {a : Act} {w : World} (s : StA Γ ρ F H a w) {b : Nat} (h : Bb Γ.M ρ H b) : b < w.heap.size := by
  rcases h with h | ⟨i, o, r, h1, h2, h3, h4⟩
  · exact Nat.lt_of_lt_of_le (s.fro.old b h) s.fro.size
  · exact s.hr.lt h1 h2 h3 h4
theorem StA.below {ρ : List Re} {a : Act} {w w' : World} (s : StA Γ ρ F H a w) (hb : Below w.heap.size w w') : StA Γ ρ F H a w' := by
  have ev : Ev w (Bb Γ.M ρ H) Γ.w0.heap.size ρ w' (Bb Γ.M ρ H) Γ.w0.heap.size ρ := ⟨hb.size, fun b hlt _ => hb.block b hlt, fun b _ hn => hn, Nat.le_refl _, fun i r h => ⟨r, h, Nat.le_refl _, fun _ => rfl⟩⟩
  refine ⟨⟨s.hr.len, fun i o h1 h2 => ?_, s.hr.apart, s.hr.foreign⟩, s.n, s.ds, fun t => (s.fr t).ev ev, ⟨hb.os.trans s.fro.os, hb.tape.trans s.fro.tape, hb.output.trans s.fro.output, Nat.le_trans s.fro.size hb.size, fun b hlt hn => ?_, s.fro.old, s.fro.mine, s.fro.rho⟩⟩
  · obtain ⟨r, h3, h4⟩ := s.hr.ob i o h1 h2
    refine ⟨r, h3, h4.ver, h4.sz, h4.nob, fun g hg => ?_⟩
    obtain ⟨cur, c1, c2, c3, c4, c5⟩ := h4.blk g hg
    exact ⟨cur, by rw [hb.block g (s.hr.lt h1 h2 h3 hg)]; exact c1, c2, c3, c4, fun j y hy => by obtain ⟨u, d1, d2, d3⟩ := c5 j y hy; exact ⟨u, d1, d2, d3.ev ev⟩⟩
  · rw [hb.block b (Nat.lt_of_lt_of_le hlt s.fro.size)]; exact s.fro.blk b hlt hn
theorem Hb {w w' : World} (hb : Below w.heap.size w w') : Ext w w' := fun a v h => (hb.cell (World.block_lt_of_cell? w a h)).trans h

mutual
theorem Lu {w : World} {L : Nat → Prop} {B B' : Nat} {ρ : List Re} (hB : B' ≤ B) : ∀ (y : V) (v : Value), Rel w L B [] y v → Rel w L B' ρ y v
  | .i _ _, _, h => h
  | .b _, _, h => h
  | .s _, _, h => h
  | .c _, _, h => h
  | .n _ _ _, _, ⟨A, c, e, h1, h2, h3⟩ => ⟨A, c, e, h1, h2, fun hl => by obtain ⟨ad, e1, hb, hc⟩ := h3 hl; exact ⟨ad, e1, ⟨hb.1, hb.2.1, fun e => Nat.le_trans hB (hb.2.2 e)⟩, hc⟩⟩
  | .l _ _ _, _, ⟨A, c, e, h1, h2, h3⟩ => ⟨A, c, e, h1, h2, fun hl => by obtain ⟨ad, e1, hb, hc⟩ := h3 hl; exact ⟨ad, e1, ⟨hb.1, hb.2.1, fun e => Nat.le_trans hB (hb.2.2 e)⟩, hc⟩⟩
  | .q _, _, ⟨ad, e, hb, hc⟩ => ⟨ad, e, ⟨hb.1, hb.2.1, by simp⟩, hc⟩
  | .p _ _ _, _, ⟨re, e, _⟩ => by simp at e
  | .o _ _ _ _, _, ⟨re, e, _⟩ => by simp at e
  | .f _ caps, _, ⟨us, e, h⟩ => ⟨us, e, Mz hB caps us h⟩
  | .u, _, _ => trivial
  | .a cs, _, ⟨us, e, h⟩ => ⟨us, e, Mz hB cs us h⟩
  | .t vs, _, ⟨us, e, h⟩ => ⟨us, e, Mz hB vs us h⟩
theorem Mz {w : World} {L : Nat → Prop} {B B' : Nat} {ρ : List Re} (hB : B' ≤ B) : ∀ (ys : List V) (us : List Value), RelL w L B [] ys us → RelL w L B' ρ ys us
  | [], _, h => h
  | y :: ys, _, ⟨u, us', e, h1, h2⟩ => ⟨u, us', e, Lu hB y u h1, Mz hB ys us' h2⟩
end

theorem Qz {f : FuncId} {fn : Func} {dst : Option Tmp} {T : TypeId} {ps : String} {af : Array Edge} {g : Option (Nat × Bool)} {c : Operand} {args : Array Operand} {ts : Array TypeId} {ys zs : List V} {post : Out → Prop}
    (hc : ovO F c = some (.f f [])) (hf : P.funcs[f]? = some fn) (hb : fn.body.isSome = true) (hn : (fn.name == "runtime.NumGoroutine") = false) (hx : ovL F args.toList ys) (ha : ArgL ys zs) {ρ : List Re} {a : Act} {w : World} (s : StA Γ ρ F H a w) (hs : ∀ vals, RelL w (Bb Γ.M ρ H) w.heap.size [] zs vals → Calls P f vals.toArray w fun e w' => ∃ o, post o ∧ Hv w' (Bb Γ.M ρ H) w.heap.size o e ∧ Below w.heap.size w w') {K : Act → World → Prop} {R : Exit → Act → World → Prop}
    (k : ∀ y v w', post (.ret y) → Rel w' (Bb Γ.M ρ H) Γ.w0.heap.size ρ y v → Below w.heap.size w w' → StA Γ ρ F H a w' → K (a.put dst v) w')
    (kp : ∀ ch w', post (.pan ch) → Below w.heap.size w w' → StA Γ ρ F H a w' → R (.panic ch) a w') :
    (⟨dst, .call { callee := .value c, args := args, argTypes := ts }, T, ps, af, g⟩ : Oper).wp P a w K R := by
  obtain ⟨us0, hcv, hcr⟩ := s.ov hc
  have hus0 : us0 = [] := hcr
  subst hus0
  have hr := s.ovL hx
  have hargs : args.map a.eval = (args.toList.map a.eval).toArray := by apply Array.ext'; rw [Array.toList_map]
  have hcall := hs (args.toList.map a.eval) (ha.rel _ hr)
  have hrun : (execOp a.eval ⟨dst, .call { callee := .value c, args := args, argTypes := ts }, T, ps, af, g⟩).run P w = .ok (.enter f (args.toList.map a.eval).toArray) w := by
    have hb' : ¬ fn.body = none := by intro h; rw [h] at hb; cases hb
    have hn' : ¬ fn.name = "runtime.NumGoroutine" := by simpa using hn
    simp [execOp, resolve, hcv, Deferred.ofValue, invoke, callFunc, program, Sem.run, hf]
    rw [if_neg hn', if_neg hb', hargs]
  unfold Oper.wp
  rw [hrun]
  show Calls P f _ w _
  refine hcall.mono fun e w' ⟨o, h1, h2, h3⟩ => ?_
  have s' := s.below h3
  cases o with
  | ret y =>
    obtain ⟨v, rfl, hr'⟩ := h2
    exact k y v w' h1 (Lu s.fro.size y v hr') h3 s'
  | pan ch =>
    have : e = .panicked ch := h2
    subst this
    exact kp ch w' h1 h3 s'
theorem Mh {f : FuncId} {fn : Func} {dst : Option Tmp} {T : TypeId} {ps : String} {af : Array Edge} {g : Option (Nat × Bool)} {c : Operand} {args : Array Operand} {ts : Array TypeId} {ys zs : List V} {post : Out → Prop}
    (hc : ovO F c = some (.f f [])) (hf : P.funcs[f]? = some fn) (hb : fn.body.isSome = true) (hn : (fn.name == "runtime.NumGoroutine") = false) (hx : ovL F args.toList ys) (ha : ArgL ys zs) (hs : Spec P f zs post) {ρ : List Re} {a : Act} {w : World} (s : StA Γ ρ F H a w) {K : Act → World → Prop} {R : Exit → Act → World → Prop}
    (k : ∀ y v w', post (.ret y) → Rel w' (Bb Γ.M ρ H) Γ.w0.heap.size ρ y v → Below w.heap.size w w' → StA Γ ρ F H a w' → K (a.put dst v) w')
    (kp : ∀ ch w', post (.pan ch) → Below w.heap.size w w' → StA Γ ρ F H a w' → R (.panic ch) a w') :
    (⟨dst, .call { callee := .value c, args := args, argTypes := ts }, T, ps, af, g⟩ : Oper).wp P a w K R :=
  Qz hc hf hb hn hx ha s (fun vals h => hs (Bb Γ.M ρ H) w vals (fun b h => Ns s h) h) k kp
theorem Ag {f : FuncId} (fn : Func) {ops : Array Oper} {rest : List Oper} {d : Nat} {T : TypeId} {ps : String} {af : Array Edge} {args : Array Operand} {ts : Array TypeId} {c : Operand} {ys zs : List V} {post : Out → Prop}
    (hs : Spec P f zs post) (hc : ovO F c = some (.f f [])) (hf : P.funcs[f]? = some fn) (hb : fn.body.isSome = true) (hn : (fn.name == "runtime.NumGoroutine") = false) (hx : ovL F args.toList ys) (ha : ArgL ys zs) (hd : d < Γ.N)
    (k : ∀ y, post (.ret y) → JO P ops rest Γ ((d, y) :: F) H Q) (kp : ∀ ch, post (.pan ch) → Q (.panic ch) F H) :
    JO P ops (⟨some d, .call { callee := .value c, args := args, argTypes := ts }, T, ps, af, none⟩ :: rest) Γ F H Q := fun a w ⟨ρ, s⟩ =>
  wpList_plain rfl fun K hK => Mh hc hf hb hn hx ha hs s (fun y v w' h1 h2 _ h4 => hK _ _ (k y h1 _ _ ⟨ρ, h4.put hd h2⟩)) (fun ch w' h1 _ h3 => ⟨F, H, kp ch h1, ρ, h3⟩)
theorem Ek {f : FuncId} (fn : Func) {ops : Array Oper} {rest : List Oper} {d : Nat} {T : TypeId} {ps : String} {af : Array Edge} {args : Array Operand} {ts : Array TypeId} {c : Operand} {ys zs : List V} {post : Out → Prop} {j0 : Nat} {b0 : Bool} (t0 : Nat) (ht : (ops[j0]?).bind (·.dst) = some t0) (hb0 : Cp F t0 = some (.b b0))
    (hs : Spec P f zs post) (hc : ovO F c = some (.f f [])) (hf : P.funcs[f]? = some fn) (hb : fn.body.isSome = true) (hn : (fn.name == "runtime.NumGoroutine") = false) (hx : ovL F args.toList ys) (ha : ArgL ys zs) (hd : d < Γ.N)
    (k : ∀ y, post (.ret y) → JO P ops rest Γ ((d, y) :: F) H Q) (kp : ∀ ch, post (.pan ch) → Q (.panic ch) F H) :
    JO P ops (⟨some d, .call { callee := .value c, args := args, argTypes := ts }, T, ps, af, some (j0, b0)⟩ :: rest) Γ F H Q := fun a w ⟨ρ, s⟩ =>
  wpList_step fun K hK => by
    rw [if_pos (Hh rfl (Fl s ht hb0))]
    exact Mh hc hf hb hn hx ha hs s (fun y v w' h1 h2 _ h4 => hK _ _ (k y h1 _ _ ⟨ρ, h4.put hd h2⟩)) (fun ch w' h1 _ h3 => ⟨F, H, kp ch h1, ρ, h3⟩)

theorem F7 {c : Operand} {x y : Code} {b : Bool} (h : ovO F c = some (.b b)) (ht : b = true → JC P x Γ F H Q) (hf : b = false → JC P y Γ F H Q) : JC P (.cond c x y) Γ F H Q := fun a w ⟨ρ, s⟩ =>
  wp_cond_split (Ix s h) (fun e => ht e a w ⟨ρ, s⟩) (fun e => hf e a w ⟨ρ, s⟩)
theorem J7 {ops : Array Oper} {l : List Oper} (t : Nat) {b : Bool} (h : Cp F t = some (.b b)) (ht : b = true → JO P ops l Γ ((t, .b true) :: F) H Q) (hf : b = false → JO P ops l Γ ((t, .b false) :: F) H Q) : JO P ops l Γ F H Q := fun a w s => by
  have sub : ∀ c : Bool, b = c → Sub ((t, .b c) :: F) F := fun c e => .cons (by rw [h, e]) fun t y h => h
  cases hb : b
  · exact hf hb a w (s.sub (sub false hb))
  · exact ht hb a w (s.sub (sub true hb))

inductive RetV (H : List Ob) : V → V → Prop
  | i {k : IntKind} {n : Int} : RetV H (.i k n) (.i k n)
  | b {x : Bool} : RetV H (.b x) (.b x)
  | s {x : ByteArray} : RetV H (.s x) (.s x)
  | c {v : Value} : RetV H (.c v) (.c v)
  | n {fr : Bool} {k : IntKind} {l : List Int} : RetV H (.n fr k l) (.n fr k l)
  | nn {fr : Bool} {k : IntKind} {l : List Int} : RetV H (.n fr k l) (.n false k l)
  | nil {fr : Bool} {k : IntKind} : RetV H (.c (.slice none 0 0)) (.n fr k [])
  | l {fr : Bool} {sz : Nat} {es : List (List V)} : RetV H (.l fr sz es) (.l fr sz es)
  | nill {fr : Bool} {sz : Nat} : RetV H (.c (.slice none 0 0)) (.l fr sz [])
  | o {id ver off len T : Nat} {k : IntKind} {l l' : List Int} (hH : H[id]? = some ⟨T, 1, ver, true, ints k l⟩) (hle : off + len ≤ l.length) (hl : (l.drop off).take len = l') : RetV H (.o id ver off len) (.n true k l')
  | ol {id ver len T sz : Nat} {cs : List V} {rows : List (List V)} (hH : H[id]? = some ⟨T, sz, ver, true, cs⟩) (hcs : cs = rows.flatten) (hlen : rows.length = len) (hsz : ∀ r ∈ rows, r.length = sz) (hpu : ∀ r ∈ rows, r.all Ef = true) (h0 : 0 < sz) : RetV H (.o id ver 0 len) (.l true sz rows)
  | pq {id ver off T sz : Nat} {cs zs : List V} (hH : H[id]? = some ⟨T, sz, ver, true, cs⟩) (hpu : cs.all Ef = true) (hz : cs.drop off = zs) : RetV H (.p id ver off) (.q zs)
  | q {es : List V} : RetV H (.q es) (.q es)
  | f {fn : FuncId} : RetV H (.f fn []) (.f fn [])
  | a0 : RetV H (.a []) (.a [])
  | a1 {y z : V} {ys zs : List V} (h : RetV H y z) (hs : RetV H (.a ys) (.a zs)) : RetV H (.a (y :: ys)) (.a (z :: zs))
  | t0 : RetV H (.t []) (.t [])
  | t1 {y z : V} {ys zs : List V} (h : RetV H y z) (hs : RetV H (.t ys) (.t zs)) : RetV H (.t (y :: ys)) (.t (z :: zs))
theorem StA.dead_rel {ρ : List Re} {a : Act} {w : World} (s : StA Γ ρ F H a w) {B : Nat} {ρ' : List Re} {y : V} {v : Value} {L : Nat → Prop} (hL : ∀ b, L b → Bb Γ.M ρ H b) (r : Rel w (Bb Γ.M ρ H) B ρ' y v) : Rel w L B ρ' y v :=
  r.ev ⟨Nat.le_refl _, fun _ _ _ => rfl, fun b _ hn h => hn (hL b h), Nat.le_refl _, fun i r h => ⟨r, h, Nat.le_refl _, fun _ => rfl⟩⟩
theorem RetV.rel {y z : V} (h : RetV H y z) {ρ : List Re} {a : Act} {w : World} (s : StA Γ ρ F H a w) (hp : ∀ b, ¬ Γ.L0 b) : ∀ {v : Value}, Rel w (Bb Γ.M ρ H) Γ.w0.heap.size ρ y v → Rel w Γ.M Γ.w0.heap.size [] z v := by
  have hM : ∀ b, Γ.M b → Bb Γ.M ρ H b := fun b h => .inl h
  induction h with
  | i => exact fun h => h
  | b => exact fun h => h
  | s => exact fun h => h
  | c => exact fun h => h
  | n => intro v h; exact s.dead_rel hM (ρ' := []) h
  | nn => rintro v ⟨A, c, e, h1, h2, h3⟩; exact ⟨A, c, e, h1, h2, fun hl => by obtain ⟨ad, e1, hb, hc⟩ := h3 hl; exact ⟨ad, e1, ⟨hb.1, fun h => hb.2.1 (hM _ h), by simp⟩, hc⟩⟩
  | nil => rintro v rfl; exact Pz
  | l => intro v h; exact s.dead_rel hM (ρ' := []) h
  | nill => rintro v rfl; exact Rj
  | o hH hle hl =>
    intro v h
    rw [← hl]
    obtain ⟨A, c, e, h1, h2, h3⟩ := s.frozen hH h hle hp
    exact ⟨A, c, e, h1, h2, fun hl => by obtain ⟨ad, e1, hb, hc⟩ := h3 hl; exact ⟨ad, e1, ⟨hb.1, fun h => hb.2.1 (.inl h), hb.2.2⟩, hc⟩⟩
  | ol hH hcs hlen hsz hpu h0 =>
    intro v h
    obtain ⟨A, c, e, h1, h2, h3⟩ := s.frozenR hH h hcs hlen hsz hpu h0 hp
    refine ⟨A, c, e, h1, h2, fun hl => by
      obtain ⟨ad, e1, hb, hc⟩ := h3 hl
      have hb' : Okb w Γ.M Γ.w0.heap.size true ad.block := ⟨hb.1, fun h => hb.2.1 (.inl h), hb.2.2⟩
      exact ⟨ad, e1, hb', RelR.ev (B := 0) (ρ := []) (L := Bb Γ.M ρ (D3 H _)) ⟨Nat.le_refl _, fun _ _ _ => rfl, fun b _ hn h => hn (.inl h), Nat.le_refl _, fun i r h => by simp at h⟩ ⟨hb.1, hb.2.1, fun _ => Nat.zero_le _⟩ _ _ hc⟩⟩
  | pq hH hpu hz =>
    intro v h
    rw [← hz]
    obtain ⟨ad, e, hb, hc⟩ := s.frozenC hH h hpu hp
    exact ⟨ad, e, ⟨hb.1, fun h => hb.2.1 (.inl h), by simp⟩, RelC.ev (B := 0) (ρ := []) (L := Bb Γ.M ρ (D3 H _)) ⟨Nat.le_refl _, fun _ _ _ => rfl, fun b _ hn h => hn (.inl h), Nat.le_refl _, fun i r h => by simp at h⟩ ⟨hb.1, hb.2.1, fun _ => Nat.zero_le _⟩ _ _ hc⟩
  | q => intro v h; exact s.dead_rel hM (ρ' := []) h
  | f => rintro v ⟨us, e, hr⟩; exact ⟨us, e, hr⟩
  | a0 => rintro v ⟨us, e, hr⟩; exact ⟨us, e, hr⟩
  | a1 h hs ih1 ih2 =>
    rintro v ⟨us, rfl, u, us', rfl, hr1, hr2⟩
    obtain ⟨us'', e2, hr3⟩ := ih2 ⟨us', rfl, hr2⟩
    have : us' = us'' := by injection e2 with e2; have := congrArg Array.toList e2; simpa using this
    subst this
    exact ⟨_, rfl, u, us', rfl, ih1 hr1, hr3⟩
  | t0 => rintro v ⟨us, e, hr⟩; exact ⟨us, e, hr⟩
  | t1 h hs ih1 ih2 =>
    rintro v ⟨us, rfl, u, us', rfl, hr1, hr2⟩
    obtain ⟨us'', e2, hr3⟩ := ih2 ⟨us', rfl, hr2⟩
    have : us' = us'' := by injection e2 with e2; have := congrArg Array.toList e2; simpa using this
    subst this
    exact ⟨_, rfl, u, us', rfl, ih1 hr1, hr3⟩

def ResV (P : Program) (F : Fr) (H : List Ob) : ResultVar → V → Prop
  | .tmp t, y => Cp F t = some y
  | .cell at_ T, y => ∃ id off ver t sz cs, Cp F at_ = some (.p id ver off) ∧ H[id]? = some ⟨t, sz, ver, true, cs⟩ ∧ ((Iz P T = true ∧ cs[off]? = some y) ∨ ∃ n ys, Sr P T n = true ∧ Km cs off n = ys ∧ ys.length = n ∧ y = .a ys)
def ResL (P : Program) (F : Fr) (H : List Ob) : List ResultVar → List V → Prop
  | [], ys => ys = []
  | r :: rs, ys => ∃ y ys', ys = y :: ys' ∧ ResV P F H r y ∧ ResL P F H rs ys'
theorem ResV.cell {at_ T n id off ver t sz : Nat} {cs ys : List V} (hT : Sr P T n = true) (h : Cp F at_ = some (.p id ver off)) (hH : H[id]? = some ⟨t, sz, ver, true, cs⟩) (hy : Km cs off n = ys) (hn : ys.length = n) : ResV P F H (.cell at_ T) (.a ys) :=
  ⟨id, off, ver, t, sz, cs, h, hH, .inr ⟨n, ys, hT, hy, hn, rfl⟩⟩
theorem ResV.cell1 {at_ T id off ver t sz : Nat} {cs : List V} {y : V} (hT : Iz P T = true) (h : Cp F at_ = some (.p id ver off)) (hH : H[id]? = some ⟨t, sz, ver, true, cs⟩) (hy : cs[off]? = some y) : ResV P F H (.cell at_ T) y :=
  ⟨id, off, ver, t, sz, cs, h, hH, .inl ⟨hT, hy⟩⟩
theorem ResL.nil : ResL P F H [] [] := rfl
theorem ResL.cons {r : ResultVar} {rs : List ResultVar} {y : V} {ys : List V} (h : ResV P F H r y) (hs : ResL P F H rs ys) : ResL P F H (r :: rs) (y :: ys) := ⟨y, ys, rfl, h, hs⟩
def Lt (tmps : Array Value) : ResultVar → Sem Value
  | .tmp t => pure (tmps.getD t undef)
  | .cell x t => do loadVar t (← asAddr (tmps.getD x undef))
theorem StA.resV {ρ : List Re} {a : Act} {w : World} (s : StA Γ ρ F H a w) {r : ResultVar} {y : V} (h : ResV P F H r y) : ∃ v, (Lt a.tmps r).run P w = .ok v w ∧ Rel w (Bb Γ.M ρ H) Γ.w0.heap.size ρ y v := by
  cases r with
  | tmp t =>
    have h1 := s.fr t
    unfold get at h1
    rw [show Cp F t = some y from h] at h1
    exact ⟨_, rfl, h1⟩
  | cell x T =>
    obtain ⟨id, off, ver, t, sz, cs, h1, hH, h2⟩ := h
    have hx : ovO F (.tmp x) = some (.p id ver off) := h1
    rcases h2 with ⟨hT, hy⟩ | ⟨n, ys, hT, hy, hn, rfl⟩
    · obtain ⟨v, r, hr⟩ := A9 (P := P) hT hx hH hy ρ a w s
      obtain ⟨re, g, ow, hg, hv⟩ := s.ptr hx hH
      obtain ⟨u, hc, _, hru⟩ := ow.cell hg hy
      refine ⟨u, ?_, hru⟩
      have e : a.tmps.getD x undef = .pointer (some ⟨g, off, none⟩) := hv
      simp only [Lt, e]
      simp [asAddr, loadVar, I7 hT, load, Sem.run, hc]
    · obtain ⟨re, g, ow, hg, hv⟩ := s.ptr hx hH
      obtain ⟨us, hlen, hrs, _, hcs⟩ := G9 ow hg ys off (fun j y h => by
        rw [← hy, Id] at h
        rw [List.getElem?_take] at h
        split at h
        · rw [List.getElem?_drop] at h; exact h
        · cases h)
      refine ⟨.agg us.toArray, ?_, us, rfl, hrs⟩
      have e : a.tmps.getD x undef = .pointer (some ⟨g, off, none⟩) := hv
      have hT' : Sr P T us.length = true := by rw [hlen, hn]; exact hT
      simp only [Lt, e]
      simp [asAddr, loadVar, Md hT', Da (Pb hT'), run_loadCells_list w ⟨g, off, none⟩ us hcs]
theorem StA.resL {ρ : List Re} {a : Act} {w : World} (s : StA Γ ρ F H a w) : ∀ {rs : List ResultVar} {ys : List V}, ResL P F H rs ys →
    ∃ us : List Value, (rs.mapM (Lt a.tmps)).run P w = .ok us w ∧ RelL w (Bb Γ.M ρ H) Γ.w0.heap.size ρ ys us
  | [], ys, h => ⟨[], by simp, by rw [show ys = [] from h]; rfl⟩
  | r :: rs, ys, ⟨y, ys', e, h1, h2⟩ => by
    obtain ⟨v, hv, hr⟩ := s.resV h1
    obtain ⟨us, hus, hrs⟩ := s.resL h2
    refine ⟨v :: us, ?_, by rw [e]; exact ⟨v, us, rfl, hr, hrs⟩⟩
    rw [List.mapM_cons, Sem.run_bind, hv]
    simp only [Result.andThen_ok, Sem.run_bind, hus, Sem.run_pure]
def Ii : List V → V
  | [y] => y
  | ys => .t ys
theorem StA.results {ρ : List Re} {a : Act} {w : World} (s : StA Γ ρ F H a w) {fn : Func} {ys : List V} (h : ResL P F H fn.results.toList ys) : ∃ v, (Go.results fn a.tmps).run P w = .ok v w ∧ Rel w (Bb Γ.M ρ H) Γ.w0.heap.size ρ (Ii ys) v := by
  obtain ⟨us, h1, h2⟩ := s.resL h
  have h3 : (fn.results.mapM (Lt a.tmps)).run P w = .ok us.toArray w := by
    rw [Array.mapM_eq_mapM_toList]
    simp [h1]
  refine ⟨if h : us.toArray.size = 1 then us.toArray[0] else .tuple us.toArray, ?_, ?_⟩
  · have e : Go.results fn a.tmps = (do let vs ← fn.results.mapM (Lt a.tmps); pure (if h : vs.size = 1 then vs[0] else .tuple vs)) := rfl
    rw [e, Sem.run_bind, h3]
    rfl
  · match ys, us, h2 with
    | [], us, h2 => have : us = [] := h2; subst this; exact ⟨[], rfl, rfl⟩
    | [y], us, ⟨u, us', e, hr, e2⟩ => have : us' = [] := e2; subst this; subst e; exact hr
    | y :: z :: ys, us, ⟨u, us', e, hr, u2, us2, e2, hr2, hr3⟩ =>
      subst e2; subst e
      rw [dif_neg (by simp)]
      exact ⟨_, rfl, u, _, rfl, hr, u2, us2, rfl, hr2, hr3⟩

def Adj (P : Program) (fn : Func) (post : Out → Prop) : Exit → Fr → List Ob → Prop
  | .ret, F, H | .normal, F, H => ∃ ys z, ResL P F H fn.results.toList ys ∧ RetV H (Ii ys) z ∧ post (.ret z)
  | .panic ch, _, _ => post (.pan ch)
  | _, _, _ => False
theorem T8 {f : FuncId} {fn : Func} {c : Code} {args : List V} {post : Out → Prop} (hf : P.funcs[f]? = some fn) (hb : fn.body = some c) (hn : args.length ≤ fn.ntmps)
    (M : Nat → Prop) (w : World) (vals : List Value) (hM : ∀ b, M b → b < w.heap.size) (hr : RelL w M w.heap.size [] args vals)
    (h : ∀ Γ : Ctx, Γ.w0 = w → Γ.M = M → Γ.N = fn.ntmps → Γ.ds = [] → (∀ b, ¬ Γ.L0 b) → Γ.ρ0 = [] → JC P c Γ ((args.zipIdx 0).map fun p => (p.2, p.1)) [] (Adj P fn post)) :
    Calls P f vals.toArray w fun e w' => ∃ o, post o ∧ Hv w' M w.heap.size o e ∧ Below w.heap.size w w' := by
  refine calls_of_wp hf hb ?_
  have hlen : vals.length = args.length := (Fw args vals hr).1
  let Γ : Ctx := ⟨fn.ntmps, w, M, [], fun _ => False, []⟩
  have Leq : ∀ b, Bb M [] [] b → M b := by
    rintro b (h | ⟨i, o, r, h1, _⟩)
    · exact h
    · simp at h1
  have s : StA Γ [] ((args.zipIdx 0).map fun p => (p.2, p.1)) [] ⟨vals.toArray ++ Array.replicate (fn.ntmps - vals.toArray.size) undef, []⟩ w := by
    refine ⟨⟨rfl, fun i o h => by simp at h, fun i j oi oj ri rj g _ h => by simp at h, fun i o r g h => by simp at h⟩, ?_, rfl, fun t => ?_, ⟨rfl, rfl, rfl, Nat.le_refl _, fun _ _ _ => rfl, hM, fun i o r g h => by simp at h, fun i r h => by have h' : ([] : List Re)[i]? = some r := h; simp at h'⟩⟩
    · show fn.ntmps ≤ (vals.toArray ++ Array.replicate (fn.ntmps - vals.toArray.size) undef).size
      simp; omega
    · have look : ∀ (ys : List V) (k t : Nat), Cp ((ys.zipIdx k).map fun p => (p.2, p.1)) t = if k ≤ t then ys[t - k]? else none := by
        intro ys
        induction ys with
        | nil => intro k t; simp [Cp]
        | cons y ys ih =>
          intro k t
          simp only [List.zipIdx_cons, List.map_cons, Cp]
          cases hb : Nat.beq t k
          · have hne : t ≠ k := by intro e; subst e; simp at hb
            rw [ih (k + 1) t]
            by_cases h1 : k ≤ t
            · rw [if_pos h1, if_pos (by omega), show t - k = (t - (k + 1)) + 1 by omega]; rfl
            · rw [if_neg h1, if_neg (by omega)]; rfl
          · have := Nat.eq_of_beq_eq_true hb
            subst this
            simp
      unfold get
      rw [look args 0 t, if_pos (Nat.zero_le _), Nat.sub_zero]
      cases ht : args[t]? with
      | none => exact trivial
      | some y =>
        obtain ⟨u, hu, hru⟩ := Fq args vals t y hr ht
        have hlt : t < vals.length := (List.getElem?_eq_some_iff.1 hu).1
        have e : ((vals.toArray ++ Array.replicate (fn.ntmps - vals.toArray.size) undef).getD t undef) = u := by
          rw [Array.getD_eq_getD_getElem?, Array.getElem?_append_left (by simpa using hlt)]
          simp [hu]
        show Rel w (Bb M [] []) w.heap.size [] y ((vals.toArray ++ Array.replicate (fn.ntmps - vals.toArray.size) undef).getD t undef)
        rw [e]
        exact hru.ev ⟨Nat.le_refl _, fun _ _ _ => rfl, fun b _ hn h => hn (Leq b h), Nat.le_refl _, fun i r h => by simp at h⟩
  refine Code.wp_mono (fun e a w' ⟨F, H, q, ρ, s'⟩ => ?_) (h Γ rfl rfl rfl rfl (fun _ h => h) rfl _ _ ⟨_, s⟩)
  have hbelow : Below w.heap.size w w' := ⟨s'.fro.os, s'.fro.tape, s'.fro.output, s'.fro.size, fun b hb => s'.fro.blk b hb (fun h => h)⟩
  have fin : ∀ ys z, ResL P F H fn.results.toList ys → RetV H (Ii ys) z → post (.ret z) → a.defers = [] ∧ ∃ v, (Go.results fn a.tmps).run P w' = .ok v w' ∧ ∃ o, post o ∧ Hv w' M w.heap.size o (.returned v) ∧ Below w.heap.size w w' := by
    intro ys z h1 h2 h3
    obtain ⟨v, hv, hr⟩ := s'.results h1
    exact ⟨s'.ds, v, hv, .ret z, h3, ⟨v, rfl, h2.rel s' (fun _ h => h) hr⟩, hbelow⟩
  cases e with
  | normal => obtain ⟨ys, z, h1, h2, h3⟩ := q; exact fin ys z h1 h2 h3
  | ret => obtain ⟨ys, z, h1, h2, h3⟩ := q; exact fin ys z h1 h2 h3
  | panic ch => exact ⟨s'.ds, .pan ch, q, rfl, hbelow⟩
  | _ => exact absurd q (by simp [Adj])
theorem Acw {f : FuncId} {fn : Func} {c : Code} {args : List V} {post : Out → Prop} (hf : P.funcs[f]? = some fn) (hb : fn.body = some c) (hn : args.length ≤ fn.ntmps)
    (h : ∀ Γ : Ctx, Γ.N = fn.ntmps → Γ.ds = [] → (∀ b, ¬ Γ.L0 b) → Γ.ρ0 = [] → JC P c Γ ((args.zipIdx 0).map fun p => (p.2, p.1)) [] (Adj P fn post)) : Spec P f args post := fun M w vals hM hr => T8 hf hb hn M w vals hM hr fun Γ _ _ => h Γ
theorem Aw {f : FuncId} {fn : Func} {c : Code} {args : List V} {post : Out → Prop} (F0 : Fr) (h0 : ((args.zipIdx 0).map fun p => (p.2, p.1)) = F0) (hf : P.funcs[f]? = some fn) (hb : fn.body = some c) (hn : args.length ≤ fn.ntmps)
    (h : ∀ Γ : Ctx, Γ.N = fn.ntmps → Γ.ds = [] → (∀ b, ¬ Γ.L0 b) → Γ.ρ0 = [] → JC P c Γ F0 [] (Adj P fn post)) : Spec P f args post := Acw hf hb hn (h0 ▸ h)
end
end Go.Proofs.YtnadmljoefecfaaGreatDoor.Vc
