/- The calculus, last part: from a contract to what a row asks. -/
import Derived.Test.YtcdipmjgpimmdaaVcM
import Derived.Test.YtcdipmjgpimmdaaRows
import Derived.ProofKit
import Derived.OpenShut
set_option linter.unusedVariables false
namespace Go.Proofs.Ytcdipmjgpimmdaa.Vc
open Go Go.RowKit Go.ChangeShapes Go.WideShapes Go.ChangeAt

theorem spec_calls {P : Program} {f : FuncId} {zs : List V} {vals : List Value} (h : Spec P f zs (fun o => o = .ret (.b true))) (w : World) (hr : RelL w (fun _ => False) w.heap.size [] zs vals) :
    Calls P f vals.toArray w fun e w' => e = .returned (.bool true) ∧ Below w.heap.size w w' :=
  (h (fun _ => False) w vals (fun _ h => h.elim) hr).mono fun e w' ⟨o, h1, h2, h3⟩ => by
    subst h1
    obtain ⟨v, rfl, hv⟩ := h2
    exact ⟨by rw [show v = .bool true from hv], h3⟩

theorem post_of_below {H : Type} {enc : TypeId × Value → H} {P : Program} {f : Func} {s : ChangeSpec} {apart fresh handsOn : Bool} {W W' : World} {args : Array Value} {v : Value} {ds gs : List (DataW H)} {before pa pv : List MemPlace}
    (hW : DataW.Whole enc P f.params.toList s.vars apart W args.toList ds gs before)
    (hres : ∀ (b : Nat) (sp : Nat → Bool) (hd : Bool), DataW.TrodAll enc P W' b sp hd f.resultTypes.toList (v.resultList f.resultTypes.size) (s.fn H (ds ++ gs)).results [])
    (hargs : ∀ sp : Nat → Bool, (∀ p ∈ before, sp p.block = true) → DataW.TrodAll enc P W' 0 sp true f.params.toList args.toList (s.fn H (ds ++ gs)).args pa)
    (hvars : ∀ sp : Nat → Bool, (∀ p ∈ before, sp p.block = true) → DataW.TrodVars enc P W' sp s.vars (s.fn H (ds ++ gs)).vars pv)
    (hps : before = pa ++ pv) (hb : Below W.heap.size W W') : s.post enc P f apart fresh handsOn false W args v W' := by
  have hold : ∀ p ∈ before, (fun b => decide (b < W.heap.size)) p.block = true := fun p hp => by simpa using hW.lt p hp
  refine ⟨ds, gs, before, [], pa, pv, hW, hres _ _ _, hargs _ hold, hvars _ hold, World.keptBut_mono (fun p hp => ⟨hp, ?_⟩) (hb.frame (· ∈ before)), fun h => by cases h⟩
  rw [hps, List.mem_append] at hp
  exact Or.inr hp
/-- What the bound gives of a text that is the first argument. -/
theorem short {H : Type} {s : ByteArray} {r : List (DataW H)} (hk : Rows.uptoSmall H (.lit (.string s.data.toList) :: r) = true) : s.size < 4294967296 := by
  have h : Rows.uptoBulkAll (DataW.lit (H := H) (.string s.data.toList) :: r) ≤ 1048576 := of_decide_eq_true hk
  simp only [Rows.uptoBulkAll, Rows.uptoBulk] at h
  have e : s.data.toList.length = s.size := by rw [Array.length_toList]; rfl
  omega
theorem short1 {H : Type} {s : ByteArray} {r : List (DataW H)} (hk : Rows.uptoSmall H (.lit (.string s.data.toList) :: r) = true) : s.size ≤ 1048576 := by
  have h : Rows.uptoBulkAll (DataW.lit (H := H) (.string s.data.toList) :: r) ≤ 1048576 := of_decide_eq_true hk
  simp only [Rows.uptoBulkAll, Rows.uptoBulk] at h
  have e : s.data.toList.length = s.size := by rw [Array.length_toList]; rfl
  omega
end Go.Proofs.Ytcdipmjgpimmdaa.Vc
