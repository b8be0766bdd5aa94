/- The calculus, second part: own objects in a world, the state of a body, the judgements over operations and code, and the rules that need no type. -/
import Derived.Test.YtcdipmjgpimmdaaVcA
set_option linter.unusedVariables false
set_option linter.unusedSimpArgs false
namespace Go.Proofs.Ytcdipmjgpimmdaa.Vc
open Go Go.RowKit

abbrev Fr := List (Nat × V)
def getO : Fr → Nat → Option V
  | [], _ => none
  | (t, y) :: r, k => bif Nat.beq k t then some y else getO r k
def get (F : Fr) (k : Nat) : V := (getO F k).getD .u

/-- The blocks that are ours to write, and those that are somebody else's to write. -/
def Lset (M : Nat → Prop) (ρ : List Re) (H : List Ob) : Nat → Prop := fun b => M b ∨ ∃ (id : Nat) (ob : Ob) (re : Re), H[id]? = some ob ∧ ob.live = true ∧ ρ[id]? = some re ∧ re.g = some b

structure ObOk (w : World) (L : Nat → Prop) (B : Nat) (ρ : List Re) (re : Re) (ob : Ob) : Prop where
  ver : re.ver = ob.ver
  sz : re.sz = ob.sz
  nob : re.g = none → ob.cs = [] ∧ re.cap = 0
  blk : ∀ g, re.g = some g → ∃ cur, w.heap[g]? = some (.cells cur ob.t (0, 0)) ∧ cur.size = re.cap * ob.sz ∧ ob.cs.length ≤ cur.size ∧ re.cap ≤ maxLen ∧
    ∀ (j : Nat) (y : V), ob.cs[j]? = some y → ∃ u, cur[j]? = some u ∧ u.oneCell' = true ∧ Rel w L B ρ y u

structure HR (M : Nat → Prop) (w : World) (B : Nat) (ρ : List Re) (H : List Ob) : Prop where
  len : ρ.length = H.length
  ob : ∀ (id : Nat) (ob : Ob), H[id]? = some ob → ob.live = true → ∃ re, ρ[id]? = some re ∧ ObOk w (Lset M ρ H) B ρ re ob
  apart : ∀ (i j : Nat) (oi oj : Ob) (ri rj : Re) (g : Nat), i ≠ j → H[i]? = some oi → oi.live = true → H[j]? = some oj → oj.live = true → ρ[i]? = some ri → ρ[j]? = some rj → ri.g = some g → rj.g ≠ some g
  foreign : ∀ (id : Nat) (ob : Ob) (re : Re) (g : Nat), H[id]? = some ob → ob.live = true → ρ[id]? = some re → re.g = some g → ¬ M g

/-- What a body starts with: how many slots, the world, foreign blocks, where the objects that were handed in lie. -/
structure Ctx where
  N : Nat
  w0 : World
  M : Nat → Prop
  ρ0 : List Re
  L0 : Nat → Prop
  ds : List Deferred

/-- What has become of the world since the body started. -/
structure Fro (Γ : Ctx) (ρ : List Re) (H : List Ob) (w : World) : Prop where
  os : w.os = Γ.w0.os
  tape : w.tape = Γ.w0.tape
  output : w.output = Γ.w0.output
  size : Γ.w0.heap.size ≤ w.heap.size
  blk : ∀ b, b < Γ.w0.heap.size → ¬ Γ.L0 b → w.heap[b]? = Γ.w0.heap[b]?
  old : ∀ b, Γ.M b → b < Γ.w0.heap.size
  mine : ∀ (id : Nat) (ob : Ob) (re : Re) (g : Nat), H[id]? = some ob → ob.live = true → ρ[id]? = some re → re.g = some g → Γ.w0.heap.size ≤ g ∨ Γ.L0 g
  rho : ∀ (id : Nat) (re : Re), Γ.ρ0[id]? = some re → ∃ re', ρ[id]? = some re' ∧ re.ver ≤ re'.ver ∧ (re.ver = re'.ver → re' = re)

structure StA (Γ : Ctx) (ρ : List Re) (F : Fr) (H : List Ob) (a : Act) (w : World) : Prop where
  hr : HR Γ.M w Γ.w0.heap.size ρ H
  n : Γ.N ≤ a.tmps.size
  ds : a.defers = Γ.ds
  fr : ∀ t, Rel w (Lset Γ.M ρ H) Γ.w0.heap.size ρ (get F t) (a.tmps.getD t undef)
  fro : Fro Γ ρ H w

def St (Γ : Ctx) (F : Fr) (H : List Ob) (a : Act) (w : World) : Prop := ∃ ρ, StA Γ ρ F H a w

def toQ (Γ : Ctx) (Q : Exit → Fr → List Ob → Prop) : Exit → Act → World → Prop := fun e a w => ∃ F H, Q e F H ∧ St Γ F H a w
def JO (P : Program) (ops : Array Oper) (l : List Oper) (Γ : Ctx) (F : Fr) (H : List Ob) (Q : Exit → Fr → List Ob → Prop) : Prop :=
  ∀ a w, St Γ F H a w → wpList P ops (toQ Γ Q) l a w
def JC (P : Program) (c : Code) (Γ : Ctx) (F : Fr) (H : List Ob) (Q : Exit → Fr → List Ob → Prop) : Prop :=
  ∀ a w, St Γ F H a w → c.wp P (toQ Γ Q) a w

/-! ### Control -/
section
variable {P : Program} {Γ : Ctx} {F : Fr} {H : List Ob} {Q : Exit → Fr → List Ob → Prop}

theorem toQ_mono {Q Q' : Exit → Fr → List Ob → Prop} (h : ∀ e F H, Q e F H → Q' e F H) : ∀ e a w, toQ Γ Q e a w → toQ Γ Q' e a w :=
  fun e a w ⟨F, H, q, s⟩ => ⟨F, H, h e F H q, s⟩
theorem JC_mono {c : Code} {Q' : Exit → Fr → List Ob → Prop} (h : ∀ e F H, Q e F H → Q' e F H) (j : JC P c Γ F H Q) : JC P c Γ F H Q' :=
  fun a w s => Code.wp_mono (toQ_mono h) (j a w s)

def qThen (R : Fr → List Ob → Prop) (Q : Exit → Fr → List Ob → Prop) : Exit → Fr → List Ob → Prop
  | .normal, F, H => R F H
  | e, F, H => Q e F H
/-- Sequence, the middle said by a predicate. -/
theorem jc_seq_mid {x y : Code} (R : Fr → List Ob → Prop) (h1 : JC P x Γ F H (qThen R Q)) (h2 : ∀ F' H', R F' H' → JC P y Γ F' H' Q) : JC P (.seq x y) Γ F H Q := fun a w s =>
  wp_seq (Code.wp_mono (fun e a w ⟨F', H', q, s'⟩ => by
    cases e <;> first | exact h2 F' H' q a w s' | exact ⟨F', H', q, s'⟩) (h1 a w s))
/-- Sequence, walked on from where the first part comes out. -/
theorem jc_seq {x y : Code} (h : JC P x Γ F H (qThen (fun F' H' => JC P y Γ F' H' Q) Q)) : JC P (.seq x y) Γ F H Q :=
  jc_seq_mid _ h fun _ _ j => j
theorem jc_skip (h : Q .normal F H) : JC P .skip Γ F H Q := fun a w s => wp_skip ⟨F, H, h, s⟩
theorem jc_ret (h : Q .ret F H) : JC P .ret Γ F H Q := fun a w s => wp_ret ⟨F, H, h, s⟩
theorem jc_exit {id : Nat} (h : Q (.exit id) F H) : JC P (.exit id) Γ F H Q := fun a w s => wp_exit ⟨F, H, h, s⟩
def qBlock (id : Nat) (Q : Exit → Fr → List Ob → Prop) : Exit → Fr → List Ob → Prop
  | .exit id', F, H => if id' = id then Q .normal F H else Q (.exit id') F H
  | e, F, H => Q e F H
theorem jc_block {id : Nat} {c : Code} (h : JC P c Γ F H (qBlock id Q)) : JC P (.block id c) Γ F H Q := fun a w s =>
  wp_block (Code.wp_mono (fun e a w ⟨F', H', q, s'⟩ => by
    cases e with
    | exit id' =>
      simp only [qBlock] at q
      simp only [Exit.inBlock]
      split at q
      · rename_i e; rw [if_pos e]; exact ⟨F', H', q, s'⟩
      · rename_i e; rw [if_neg e]; exact ⟨F', H', q, s'⟩
    | _ => exact ⟨F', H', q, s'⟩) (h a w s))
theorem jc_region {id : Nat} {l : List Oper} (h : JO P l.toArray l Γ F H Q) : JC P (.region id l.toArray false) Γ F H Q := fun a w s => wp_region_lit (h a w s)
theorem jo_nil {ops : Array Oper} (h : Q .normal F H) : JO P ops [] Γ F H Q := fun a w s => ⟨F, H, h, s⟩

theorem least {p : Nat → Prop} (h : ∃ n, p n) : ∃ n, p n ∧ ∀ m, p m → n ≤ m := by
  obtain ⟨n, hn⟩ := h
  induction n using Nat.strongRecOn with
  | _ n ih =>
    by_cases hm : ∃ m, m < n ∧ p m
    · obtain ⟨m, hm, hp⟩ := hm
      exact ih m hm hp
    · exact ⟨n, hn, fun m hp => by
        rcases Nat.lt_or_ge m n with h | h
        · exact absurd ⟨m, h, hp⟩ hm
        · exact h⟩
open Classical in
noncomputable def leastOr (p : Nat → Prop) : Nat := if h : ∃ n, p n then Classical.choose (least h) else 0
theorem leastOr_spec {p : Nat → Prop} (h : ∃ n, p n) : p (leastOr p) ∧ ∀ m, p m → leastOr p ≤ m := by
  unfold leastOr
  rw [dif_pos h]
  exact Classical.choose_spec (least h)

/-- A loop: a ghost of any type, what holds of it, the frame and the objects of it, a measure. -/
theorem jc_loop {c : Code} {G : Type} (C : G → Prop) (Fg : G → Fr) (Hg : G → List Ob) (μ : G → Nat) (g0 : G) (h0 : C g0)
    (hF : ∀ a w, St Γ F H a w → St Γ (Fg g0) (Hg g0) a w)
    (round : ∀ g, C g → JC P c Γ (Fg g) (Hg g) (qThen (fun F' H' => ∃ g', C g' ∧ μ g' < μ g ∧ ∀ a w, St Γ F' H' a w → St Γ (Fg g') (Hg g') a w) Q)) : JC P (.loop c) Γ F H Q := by
  intro a w s
  refine wp_loop (fun a w => ∃ g, C g ∧ St Γ (Fg g) (Hg g) a w) (fun a w => leastOr fun n => ∃ g, C g ∧ St Γ (Fg g) (Hg g) a w ∧ μ g = n) ⟨g0, h0, hF a w s⟩ ?_
  intro a w ⟨g1, hg1, hs1⟩
  have hex : ∃ n g, C g ∧ St Γ (Fg g) (Hg g) a w ∧ μ g = n := ⟨_, g1, hg1, hs1, rfl⟩
  obtain ⟨⟨g, hg, hs, hμ⟩, _⟩ := leastOr_spec hex
  refine Code.wp_mono (fun e a' w' ⟨F', H', q, s'⟩ => ?_) (round g hg a w hs)
  cases e with
  | normal =>
    obtain ⟨g', hg', hlt, hs'⟩ := q
    refine ⟨⟨g', hg', hs' a' w' s'⟩, ?_⟩
    have hex' : ∃ n g, C g ∧ St Γ (Fg g) (Hg g) a' w' ∧ μ g = n := ⟨_, g', hg', hs' a' w' s', rfl⟩
    have := (leastOr_spec hex').2 _ ⟨g', hg', hs' a' w' s', rfl⟩
    show leastOr _ < leastOr _
    omega
  | _ => exact ⟨F', H', q, s'⟩
end
end Go.Proofs.Ytcdipmjgpimmdaa.Vc
