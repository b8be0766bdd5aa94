/- The calculus: max, min, structs of whole numbers compared. -/
import Derived.Test.YtcdipmjgpimmdaaVcS
import Derived.Lib.MinMax
import Derived.Laws.StructEq
import Derived.ChangeKeysEq
set_option linter.unusedVariables false
set_option linter.unusedSimpArgs false
namespace Go.Proofs.Ytcdipmjgpimmdaa.Vc
open Go Go.RowKit
theorem relL_len {w : World} {L : Nat → Prop} {B : Nat} {ρ : List Re} : ∀ {cs : List V} {us : List Value}, RelL w L B ρ cs us → us.length = cs.length
  | [], us, h => by rw [show us = [] from h]; rfl
  | y :: ys, us, ⟨u, vs, e, _, h⟩ => by subst e; simp [relL_len h]
section
variable {P : Program} {Γ : Ctx} {F : Fr} {H : List Ob} {Q : Exit → Fr → List Ob → Prop}
/-- max, min of two whole numbers. -/
theorem ly_max {x y : Operand} {ts : Array TypeId} {k k' : IntKind} {m n : Int} (hx : ovO F x = some (.i k m)) (hy : ovO F y = some (.i k' n)) : LY P Γ (.call { callee := .builtin .max, args := #[x, y], argTypes := ts }) F H (.i k (max m n)) := fun ρ a w s =>
  ⟨.int k (max m n), rfl, fun _ U _ _ _ w' _ => run_builtin (b := .max) (vs := [a.eval x, a.eval y]) (by simp) (fun ts t as => Builtin.max_ ts t as) (fun _ _ => rfl) (by rw [eval_i s hx, eval_i s hy]; exact Lib.run_max_ints w' _ _ _ _ _ _) _ _ _ _⟩
theorem ly_min {x y : Operand} {ts : Array TypeId} {k k' : IntKind} {m n : Int} (hx : ovO F x = some (.i k m)) (hy : ovO F y = some (.i k' n)) : LY P Γ (.call { callee := .builtin .min, args := #[x, y], argTypes := ts }) F H (.i k (min m n)) := fun ρ a w s =>
  ⟨.int k (min m n), rfl, fun _ U _ _ _ w' _ => run_builtin (b := .min) (vs := [a.eval x, a.eval y]) (by simp) (fun ts t as => Builtin.min_ ts t as) (fun _ _ => rfl) (by rw [eval_i s hx, eval_i s hy]; exact Lib.run_min_ints w' _ _ _ _ _ _) _ _ _ _⟩
def isI : V → Bool | .i _ _ => true | _ => false
theorem relL_ints {w : World} {L : Nat → Prop} {B : Nat} {ρ : List Re} : ∀ (cs : List V) (us us' : List Value), cs.all isI = true → RelL w L B ρ cs us → RelL w L B ρ cs us' → us = us' ∧ ∀ u ∈ us, ∃ k n, u = .int k n
  | [], us, us', _, h, h' => by rw [show us = [] from h, show us' = [] from h']; exact ⟨rfl, by simp⟩
  | .i k n :: cs, us, us', hc, ⟨u, vs, e, h1, h2⟩, ⟨u', vs', e', h1', h2'⟩ => by
    simp only [List.all_cons, Bool.and_eq_true] at hc
    obtain ⟨e2, e3⟩ := relL_ints cs vs vs' hc.2 h2 h2'
    have hu : u = .int k n := h1
    have hu' : u' = .int k n := h1'
    subst e; subst e'; subst e2; subst hu; subst hu'
    refine ⟨rfl, fun u hu => ?_⟩
    rcases List.mem_cons.1 hu with rfl | hu
    · exact ⟨k, n, rfl⟩
    · exact e3 u hu
/-- A struct of whole numbers alone. -/
def flatB (P : Program) (T : TypeId) (n : Nat) : Bool := (P.fieldsOf T).toList.all fun f => P.plainKey f.type && (match P.underlying f.type with | some (.int _) => true | _ => false) && decide (f.offset < n)
theorem eqFields_same {d : Nat} {us : List Value} (hu : ∀ u ∈ us, ∃ k n, u = .int k n) : ∀ (fs : List Field) (w : World), (fs.all fun f => P.plainKey f.type && (match P.underlying f.type with | some (.int _) => true | _ => false) && decide (f.offset < us.length)) = true → (Op.eqFields (d + 1) us.toArray us.toArray fs).run P w = .ok true w
  | [], w, _ => rfl
  | f :: fs, w, h => by
    simp only [List.all_cons, Bool.and_eq_true, decide_eq_true_eq] at h
    obtain ⟨⟨⟨h1, h2⟩, h3⟩, h4⟩ := h
    have ih := eqFields_same (d := d) hu fs w h4
    obtain ⟨k, n, hk⟩ := hu us[f.offset] (List.getElem_mem h3)
    have hat : us.toArray[f.offset]? = some (.int k n) := by rw [← hk]; simp [h3]
    have hp : ∀ w, (part f.type us.toArray f.offset).run P w = .ok (.int k n) w := fun w => run_part_plain w h1 hat
    cases hu2 : P.underlying f.type with
    | none => rw [hu2] at h2; cases h2
    | some D =>
      cases D <;> first | (rw [hu2] at h2; cases h2; done) | skip
      rename_i k'
      simp only [Op.eqFields]
      split
      · simp only [Sem.run_bind, hp, Result.andThen_ok, run_equalIn_int w d f.type k k' n n hu2]
        simpa using ih
      · exact ih
theorem ly_eqaT {x y : Operand} {T T' : TypeId} {n : Nat} {cs cs' : List V} (hT : P.underlying T = some (.struct (P.fieldsOf T))) (hp : P.stoodInHeld T = false) (hm : P.eqGuardType P.depth T = false) (hf : flatB P T n = true) (hx : ovO F x = some (.a cs)) (hy : ovO F y = some (.a cs')) (he : cs' = cs) (hc : cs.all isI = true) (hn : cs.length = n) :
    LY P Γ (.binOp .eql T x y T') F H (.b true) := fun ρ a w s => by
  subst he
  subst hn
  obtain ⟨us, hv, hr⟩ := s.ov hx
  obtain ⟨us', hv', hr'⟩ := s.ov hy
  obtain ⟨e1, e2⟩ := relL_ints cs' us us' hc hr hr'
  subst e1
  refine ⟨.bool true, rfl, fun _ _ _ _ _ w' _ => ?_⟩
  have hlen := relL_len hr
  have e3 : (do eqGuard .eql T x y (a.eval x) (a.eval y); binOp .eql T (a.eval x) (a.eval y) : Sem Value).run P w' = .ok (.bool true) w' := by
    rw [hv, hv', Sem.run_bind, run_eqGuard_agg w' _ _ _ _ _ _ hm]
    show (binOp .eql T (.agg us.toArray) (.agg us.toArray)).run P w' = _
    rw [run_eql_struct, run_equalIn_agg w' 9999 T _ _ hT hp, eqFields_same e2 _ _ (by rw [hlen]; exact hf)]
    rfl
  exact run_v e3
end
end Go.Proofs.Ytcdipmjgpimmdaa.Vc
