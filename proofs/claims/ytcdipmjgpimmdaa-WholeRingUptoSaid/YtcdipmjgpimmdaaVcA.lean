/- A calculus of verification conditions over the kit's 'Code.wp': abstract values, frames, own objects; what a value and a heap mean in a world; how these are kept from world to world. -/
import Derived.WalkKit
import Derived.Deep.Draws
import Derived.Orders
import Derived.Still
import Derived.Defers
set_option linter.unusedVariables false
set_option linter.unusedSimpArgs false
namespace Go.Proofs.Ytcdipmjgpimmdaa.Vc
open Go Go.RowKit

/-- Abstract values. 'n': a slice of whole numbers that nobody writes (fresh: its block is of this call's making); 'l': a slice of rows that nobody writes; 'q': a pointer to cells that nobody writes; 'p', 'o': a pointer into, a slice of an own object. -/
inductive V where
  | i (k : IntKind) (n : Int)
  | b (x : Bool)
  | s (x : ByteArray)
  | c (v : Value)
  | n (fr : Bool) (k : IntKind) (l : List Int)
  | l (fr : Bool) (sz : Nat) (es : List (List V))
  | q (es : List V)
  | p (id ver off : Nat)
  | o (id ver off len : Nat)
  | f (fn : FuncId) (caps : List V)
  | u
  | a (cs : List V)
  | t (vs : List V)

/-- Where an own object lies: its block (none: not born yet), how many elements have room, its version. -/
structure Re where
  g : Option Nat
  cap : Nat
  ver : Nat
  sz : Nat

/-- An own object: its element's type, cells an element, version, whether it is still ours, its cells. -/
structure Ob where
  t : TypeId
  sz : Nat
  ver : Nat
  live : Bool
  cs : List V

/-- A place that may be read for good: old enough, not ours to write; fresh: from block number B on. -/
def Okb (w : World) (L : Nat → Prop) (B : Nat) (fr : Bool) (b : Nat) : Prop := b < w.heap.size ∧ ¬ L b ∧ (fr = true → B ≤ b)

mutual
def Rel (w : World) (L : Nat → Prop) (B : Nat) (ρ : List Re) : V → Value → Prop
  | .i k n, v => v = .int k n
  | .b x, v => v = .bool x
  | .s x, v => v = .string x
  | .c u, v => v = u
  | .n fr k l, v => ∃ A c, v = .slice A l.length c ∧ l.length ≤ c ∧ c ≤ maxLen ∧ (l ≠ [] → ∃ ad : Addr, A = some ad ∧ Okb w L B fr ad.block ∧ ∀ j y, l[j]? = some y → w.cell? (ad.add j) = some (.int k y))
  | .l fr sz es, v => ∃ A c, v = .slice A es.length c ∧ es.length ≤ c ∧ c ≤ maxLen ∧ (es ≠ [] → ∃ ad : Addr, A = some ad ∧ Okb w L B fr ad.block ∧ RelR w L 0 [] sz ad 0 es)
  | .q es, v => ∃ ad : Addr, v = .pointer (some ad) ∧ Okb w L B false ad.block ∧ RelC w L 0 [] ad 0 es
  | .p id ver off, v => ∃ re, ρ[id]? = some re ∧ ver ≤ re.ver ∧ (ver = re.ver → ∃ g, re.g = some g ∧ v = .pointer (some ⟨g, off, none⟩))
  | .o id ver off len, v => ∃ re, ρ[id]? = some re ∧ ver ≤ re.ver ∧ (ver = re.ver → off + len ≤ re.cap ∧ ((∃ g ad, re.g = some g ∧ v = .slice (some ad) len (re.cap - off) ∧ (off < re.cap ∨ off = 0 → ad = ⟨g, off * re.sz, none⟩)) ∨ (re.g = none ∧ v = .slice none 0 0 ∧ off = 0 ∧ len = 0)))
  | .f fn caps, v => ∃ us : List Value, v = .func (.func fn) #[] us.toArray ∧ RelL w L B ρ caps us
  | .u, _ => True
  | .a cs, v => ∃ us : List Value, v = .agg us.toArray ∧ RelL w L B ρ cs us
  | .t vs, v => ∃ us : List Value, v = .tuple us.toArray ∧ RelL w L B ρ vs us
def RelL (w : World) (L : Nat → Prop) (B : Nat) (ρ : List Re) : List V → List Value → Prop
  | [], us => us = []
  | y :: ys, us => ∃ u us', us = u :: us' ∧ Rel w L B ρ y u ∧ RelL w L B ρ ys us'
def RelC (w : World) (L : Nat → Prop) (B : Nat) (ρ : List Re) (ad : Addr) : Nat → List V → Prop
  | _, [] => True
  | k, y :: ys => (∃ u, w.cell? (ad.add k) = some u ∧ Rel w L B ρ y u) ∧ RelC w L B ρ ad (k + 1) ys
def RelR (w : World) (L : Nat → Prop) (B : Nat) (ρ : List Re) (sz : Nat) (ad : Addr) : Nat → List (List V) → Prop
  | _, [] => True
  | k, r :: rs => r.length = sz ∧ RelC w L B ρ ad k r ∧ RelR w L B ρ sz ad (k + sz) rs
end

/-- What is kept from world to world: what is not ours, and was there, stays and does not become ours; versions go up, and an object of the same version lies where it lay. -/
structure Ev (w : World) (L : Nat → Prop) (B : Nat) (ρ : List Re) (w' : World) (L' : Nat → Prop) (B' : Nat) (ρ' : List Re) : Prop where
  size : w.heap.size ≤ w'.heap.size
  blk : ∀ b, b < w.heap.size → ¬ L b → w'.heap[b]? = w.heap[b]?
  lv : ∀ b, b < w.heap.size → ¬ L b → ¬ L' b
  bb : B' ≤ B
  rho : ∀ (id : Nat) (re : Re), ρ[id]? = some re → ∃ re', ρ'[id]? = some re' ∧ re.ver ≤ re'.ver ∧ (re.ver = re'.ver → re' = re)

theorem Ev.inner {w w' : World} {L L' : Nat → Prop} {B B' : Nat} {ρ ρ' : List Re} (h : Ev w L B ρ w' L' B' ρ') : Ev w L 0 [] w' L' 0 [] :=
  ⟨h.size, h.blk, h.lv, Nat.le_refl _, fun id re e => by simp at e⟩
theorem Okb.ev {w w' : World} {L L' : Nat → Prop} {B B' : Nat} {ρ ρ' : List Re} (h : Ev w L B ρ w' L' B' ρ') {fr : Bool} {b : Nat} (hb : Okb w L B fr b) : Okb w' L' B' fr b :=
  ⟨Nat.lt_of_lt_of_le hb.1 h.size, h.lv b hb.1 hb.2.1, fun e => Nat.le_trans h.bb (hb.2.2 e)⟩
theorem block_add (a : Addr) (n : Nat) : (a.add n).block = a.block := by unfold Addr.add; split <;> rfl
theorem Ev.cell {w w' : World} {L L' : Nat → Prop} {B B' : Nat} {ρ ρ' : List Re} (h : Ev w L B ρ w' L' B' ρ') {fr : Bool} {ad : Addr} (hb : Okb w L B fr ad.block) (k : Nat) : w'.cell? (ad.add k) = w.cell? (ad.add k) :=
  World.cell?_of_block (by rw [block_add]; exact h.blk _ hb.1 hb.2.1)

mutual
theorem Rel.ev {w w' : World} {L L' : Nat → Prop} {B B' : Nat} {ρ ρ' : List Re} (h : Ev w L B ρ w' L' B' ρ') : ∀ (x : V) (v : Value), Rel w L B ρ x v → Rel w' L' B' ρ' x v
  | .i k n, v, r => r
  | .b y, v, r => r
  | .s y, v, r => r
  | .c u, v, r => r
  | .n fr k l, v, r => by
    obtain ⟨A, c, e, h1, h2, h3⟩ := r
    refine ⟨A, c, e, h1, h2, fun hl => ?_⟩
    obtain ⟨ad, e1, hb, hc⟩ := h3 hl
    exact ⟨ad, e1, hb.ev h, fun j y hj => (h.cell hb j).trans (hc j y hj)⟩
  | .l fr sz es, v, r => by
    obtain ⟨A, c, e, h1, h2, h3⟩ := r
    refine ⟨A, c, e, h1, h2, fun hl => ?_⟩
    obtain ⟨ad, e1, hb, hc⟩ := h3 hl
    exact ⟨ad, e1, hb.ev h, RelR.ev h.inner ⟨hb.1, hb.2.1, fun _ => Nat.zero_le _⟩ es 0 hc⟩
  | .q es, v, r => by
    obtain ⟨ad, e, hb, hc⟩ := r
    exact ⟨ad, e, hb.ev h, RelC.ev h.inner ⟨hb.1, hb.2.1, fun _ => Nat.zero_le _⟩ es 0 hc⟩
  | .p id ver off, v, r => by
    obtain ⟨re, e, hv, hq⟩ := r
    obtain ⟨re', e', hle, hsame⟩ := h.rho id re e
    exact ⟨re', e', Nat.le_trans hv hle, fun hver => by
      have e2 : re.ver = re'.ver := by omega
      rw [hsame e2]; exact hq (by omega)⟩
  | .o id ver off len, v, r => by
    obtain ⟨re, e, hv, hq⟩ := r
    obtain ⟨re', e', hle, hsame⟩ := h.rho id re e
    exact ⟨re', e', Nat.le_trans hv hle, fun hver => by
      have e2 : re.ver = re'.ver := by omega
      rw [hsame e2]; exact hq (by omega)⟩
  | .f fn caps, v, r => by
    obtain ⟨us, e, hr⟩ := r
    exact ⟨us, e, RelL.ev h caps us hr⟩
  | .u, v, r => trivial
  | .a cs, v, r => by
    obtain ⟨us, e, hr⟩ := r
    exact ⟨us, e, RelL.ev h cs us hr⟩
  | .t vs, v, r => by
    obtain ⟨us, e, hr⟩ := r
    exact ⟨us, e, RelL.ev h vs us hr⟩
theorem RelL.ev {w w' : World} {L L' : Nat → Prop} {B B' : Nat} {ρ ρ' : List Re} (h : Ev w L B ρ w' L' B' ρ') : ∀ (ys : List V) (us : List Value), RelL w L B ρ ys us → RelL w' L' B' ρ' ys us
  | [], us, r => r
  | y :: ys, us, r => by
    obtain ⟨u, us', e, h1, h2⟩ := r
    exact ⟨u, us', e, Rel.ev h y u h1, RelL.ev h ys us' h2⟩
theorem RelC.ev {w w' : World} {L L' : Nat → Prop} {B B' : Nat} {ρ ρ' : List Re} (h : Ev w L B ρ w' L' B' ρ') {ad : Addr} (hb : Okb w L B true ad.block) : ∀ (ys : List V) (k : Nat), RelC w L B ρ ad k ys → RelC w' L' B' ρ' ad k ys
  | [], _, _ => trivial
  | y :: ys, k, r => by
    obtain ⟨⟨u, hc, hr⟩, r2⟩ := r
    exact ⟨⟨u, (h.cell hb k).trans hc, Rel.ev h y u hr⟩, RelC.ev h hb ys (k + 1) r2⟩
theorem RelR.ev {w w' : World} {L L' : Nat → Prop} {B B' : Nat} {ρ ρ' : List Re} (h : Ev w L B ρ w' L' B' ρ') {ad : Addr} {sz : Nat} (hb : Okb w L B true ad.block) : ∀ (es : List (List V)) (k : Nat), RelR w L B ρ sz ad k es → RelR w' L' B' ρ' sz ad k es
  | [], _, _ => trivial
  | r :: rs, k, ⟨h1, h2, h3⟩ => ⟨h1, RelC.ev h hb r k h2, RelR.ev h hb rs (k + sz) h3⟩
end

end Go.Proofs.Ytcdipmjgpimmdaa.Vc
