/- The calculus, twelfth part: a literal's bytes, places of arrays that nobody writes, text into pieces. -/
import Derived.Test.YtcdipmjgpimmdaaVcK
set_option linter.unusedVariables false
set_option linter.unusedSimpArgs false
namespace Go.Proofs.Ytcdipmjgpimmdaa.Vc
open Go Go.RowKit
section
variable {P : Program} {Γ : Ctx} {F : Fr} {H : List Ob} {Q : Exit → Fr → List Ob → Prop}

theorem StA.deadw {ρ : List Re} {a : Act} {w w' : World} (s : StA Γ ρ F H a w) {id g : Nat} {ob : Ob} {re : Re} (hH : H[id]? = some ob) (hl : ob.live = true) (hre : ρ[id]? = some re) (hg : re.g = some g)
    (h1 : w'.os = w.os) (h2 : w'.tape = w.tape) (h3 : w'.output = w.output) (hs : w'.heap.size = w.heap.size) (hb : ∀ b, b ≠ g → w'.heap[b]? = w.heap[b]?) :
    Ev w (Lset Γ.M ρ H) Γ.w0.heap.size ρ w' (Lset Γ.M ρ (deadAt H id)) Γ.w0.heap.size ρ ∧ StA Γ ρ F (deadAt H id) a w' := by
  have hgL : Lset Γ.M ρ H g := .inr ⟨id, ob, re, hH, hl, hre, hg⟩
  have ev : Ev w (Lset Γ.M ρ H) Γ.w0.heap.size ρ w' (Lset Γ.M ρ (deadAt H id)) Γ.w0.heap.size ρ :=
    ⟨by omega, fun b _ hn => hb b (fun e => hn (e ▸ hgL)), (s.dead_ev id).lv, Nat.le_refl _, fun i r h => ⟨r, h, Nat.le_refl _, fun _ => rfl⟩⟩
  refine ⟨ev, ⟨by simp [deadAt, s.hr.len], fun i o k1 k2 => ?_, (s.dead id).hr.apart, (s.dead id).hr.foreign⟩, s.n, s.ds, fun t => (s.fr t).ev ev, ⟨h1.trans s.fro.os, h2.trans s.fro.tape, h3.trans s.fro.output, by have := s.fro.size; omega, fun b hlt hn => ?_, s.fro.old, (s.dead id).fro.mine, s.fro.rho⟩⟩
  · obtain ⟨hne, k1'⟩ := deadAt_some k1 k2
    obtain ⟨r, k3, k4⟩ := s.hr.ob i o k1' k2
    refine ⟨r, k3, k4.ver, k4.sz, k4.nob, fun g' hg' => ?_⟩
    obtain ⟨cur, c1, c2, c3, c4, c5⟩ := k4.blk g' hg'
    have : g' ≠ g := fun e => s.hr.apart i id o ob r re g' hne k1' k2 hH hl k3 hre hg' (e ▸ hg)
    exact ⟨cur, by rw [hb g' this]; exact c1, c2, c3, c4, fun j y hy => by obtain ⟨u, d1, d2, d3⟩ := c5 j y hy; exact ⟨u, d1, d2, d3.ev ev⟩⟩
  · rw [hb b (by
      intro e
      subst e
      rcases s.fro.mine id ob re b hH hl hre hg with h | h
      · omega
      · exact hn h)]
    exact s.fro.blk b hlt hn
/-- A literal's bytes, converted to their own type: written no more. -/
theorem hy_convb {T E : TypeId} {x : Operand} {id ver len t : Nat} {k : IntKind} {l : List Int} (hT : P.underlying T = some (.slice E)) (hE : P.underlying E = some (.int .u8)) (hx : ovO F x = some (.o id ver 0 len)) (hH : H[id]? = some ⟨t, 1, ver, true, ints k l⟩) (hlen : l.length = len) (h0 : l.isEmpty = false)
    (hp : ∀ b, ¬ Γ.L0 b) : HY P Γ (.convert T T x) F H (.n true k l) (deadAt H id) := fun ρ a w s => by
  obtain ⟨re, o⟩ := s.own hH rfl
  obtain ⟨re', e1, hle, hq⟩ := s.ov hx
  obtain rfl : re' = re := by have := e1.symm.trans o.at_; injection this
  obtain ⟨hcap, ⟨g, ad, hg, hv, had⟩ | ⟨_, _, _, hl0⟩⟩ := hq (o.ok.ver.symm)
  · obtain ⟨cur, c1, c2, c3, c4, c5⟩ := o.ok.blk g hg
    have had' := had (.inr rfl)
    rw [Nat.zero_mul] at had'
    have hsh : w.shape? g = some (t, cur.size) := by simp [World.shape?, c1]
    have hglt : g < w.heap.size := (Array.getElem?_eq_some_iff.1 c1).1
    obtain ⟨ev, s'⟩ := s.deadw (w' := w.freeze ⟨g, cur.size, none⟩ 1) hH rfl o.at_ hg (by unfold World.freeze; split <;> rfl) (by unfold World.freeze; split <;> rfl) (by unfold World.freeze; split <;> rfl) (by unfold World.freeze; split <;> simp) (fun b hne => by
      unfold World.freeze
      split
      · rfl
      · show (w.heap.modify g _)[b]? = _
        rw [Array.getElem?_modify, if_neg (Ne.symm hne)])
    have hcell : ∀ ad, (w.freeze ⟨g, cur.size, none⟩ 1).cell? ad = w.cell? ad := fun ad => by
      unfold World.freeze
      split
      · rfl
      · simp only [World.cell?]
        show (match (w.heap.modify g _)[ad.block]? with | some (.cells c _ _) => if ad.spot.isSome then none else c[ad.off]? | _ => none) = _
        rw [Array.getElem?_modify]
        by_cases e : g = ad.block
        · rw [if_pos e, ← e, c1]; rfl
        · rw [if_neg e]; rfl
    have hfr := s.frozen (off := 0) (len := len) hH ⟨re', e1, hle, fun h => ⟨hcap, .inl ⟨g, ad, hg, rfl, had⟩⟩⟩ (by omega) hp
    rw [List.drop_zero, ← hlen, List.take_length] at hfr
    refine ⟨a.eval x, _, ρ, ?_, s', fun ad v h => by rw [hcell]; exact h, fun _ _ _ _ _ => ?_⟩
    · rw [hv]
      obtain ⟨A, c, e2, f1, f2, f3⟩ := hfr
      rw [hlen] at e2 f1
      refine ⟨A, c, by rw [hlen]; exact e2, by rw [hlen]; exact f1, f2, fun hne => ?_⟩
      obtain ⟨ad2, e3, hb, hc⟩ := f3 hne
      refine ⟨ad2, e3, ⟨?_, hb.2.1, hb.2.2⟩, fun j y hj => by rw [hcell]; exact hc j y hj⟩
      have := hb.1
      have e4 : (w.freeze ⟨g, cur.size, none⟩ 1).heap.size = w.heap.size := by unfold World.freeze; split <;> simp
      omega
    · have e : (convert T T (a.eval x)).run P w = .ok (a.eval x) (w.freeze ⟨g, cur.size, none⟩ 1) := by
        rw [hv, had']
        simp [convert, run_underlying hT, run_underlying hE, markStringish, hsh]
      exact run_v e
  · have : l = [] := List.eq_nil_of_length_eq_zero (by omega)
    rw [this] at h0; simp at h0
/-- The address of a place of an array that nobody writes. -/
theorem ly_iaq {T E l sz : Nat} {x ix : Operand} {ys zs : List V} {k : IntKind} {n : Int} {i : Nat} (hT : arB P T E l sz = true) (hx : ovO F x = some (.q ys)) (hi : ovO F ix = some (.i k n)) (hn : n = (i : Int))
    (h1 : i < l) (hz : ys.drop (i * sz) = zs) : LY P Γ (.indexAddr T x ix) F H (.q zs) := fun ρ a w s => by
  obtain ⟨ad, hv, hb, hc⟩ := s.ov hx
  refine ⟨.pointer (some (ad.add (i * sz))), ⟨ad.add (i * sz), rfl, by rw [block_add]; exact hb, ?_⟩, fun _ _ _ _ _ w' _ => ?_⟩
  · rw [relC_drop, ← hz]; have := relC_of_drop (i * sz) ys 0 hc; rwa [Nat.zero_add] at this
  · have e : (Instr.indexAt T (a.eval x) (a.eval ix)).run P w' = .ok (.pointer (some (ad.add (i * sz)))) w' := by
      rw [hv, eval_i s hi, hn]
      simp [Instr.indexAt, run_underlying (arB_und hT), asIntOf, run_sizeOf' (arB_size hT), Instr.sureAddr, h1]
    exact run_v e
/-- A load of the first of cells that nobody writes. -/
theorem ly_ldqz {T : TypeId} {x : Operand} {y z : V} {ys : List V} (hT : oneB P T = true) (hx : ovO F x = some (.q ys)) (hy : ys[0]? = some y) (hz : old y = z) : LY P Γ (.load T x) F H z := by
  cases ys with
  | nil => simp at hy
  | cons y0 us => simp at hy; subst hy; exact ly_ldq hT hx hz
end
end Go.Proofs.Ytcdipmjgpimmdaa.Vc
