/- Rows of tokens that are handed in. -/
import Derived.Test.YtnpbpiommpgikaaXh
import Derived.Test.YtnpbpiommpgikaaVcX
set_option linter.unusedVariables false
set_option linter.unusedSimpArgs false
namespace Go.Proofs.Ytnpbpiommpgikaa.Vc
open Go Go.RowKit
theorem row40 {H : Type} {enc : TypeId × Value → H} {w : World} {sp : Nat → Bool} {held : Bool} (n : Nat) (cs : List Value) (x : DataW H × List MemPlace) (h : DataW.trod enc Try.prog w 0 sp held n 40 cs = some x) :
    ∃ τ : TokZ, cs.map cV = rowZ τ ∧ bkZ τ ≤ Rows.uptoBulk x.1 ∧ True := by
  obtain ⟨y0, y1, y2, n', rfl, hl, h0, h1, h2⟩ := Go.Deep.trod_struct3 Try.underlying40 h
  obtain ⟨k, e0, hy0, _⟩ := DataW.trod_int Try.underlying3 h0
  obtain ⟨s, e1, hy1, hs⟩ := DataW.trod_string Try.underlying9 h1
  obtain ⟨p, e2, hy2, _⟩ := DataW.trod_int Try.underlying3 h2
  have hl' : cs.length = 3 := hl
  obtain ⟨c0, c1, c2, rfl⟩ : ∃ c0 c1 c2, cs = [c0, c1, c2] := by
    match cs, hl' with
    | [a, b, c], _ => exact ⟨a, b, c, rfl⟩
  have e0' : [c0] = [Value.int .i64 k] := e0
  have e1' : [c1] = [Value.string s] := e1
  have e2' : [c2] = [Value.int .i64 p] := e2
  injection e0' with e0'
  injection e1' with e1'
  injection e2' with e2'
  subst e0'; subst e1'; subst e2'; subst hy0; subst hy1; subst hy2
  refine ⟨(k, s, p), rfl, ?_, trivial⟩
  simp only [Rows.uptoBulk, Rows.uptoBulkAll, bkZ]
  have : s.data.toList.length = s.size := by rw [Array.length_toList]; rfl
  omega
theorem short_l {H : Type} {d : DataW H} {l : List TokZ} (hk : Rows.uptoSmall H [d] = true) (hb : (l.map bkZ).sum + 1 ≤ Rows.uptoBulk d) : l.length ≤ 1048576 ∧ (jn false l).size ≤ 140737488355328 := by
  have h : Rows.uptoBulkAll [d] ≤ 1048576 := of_decide_eq_true hk
  simp only [Rows.uptoBulkAll] at h
  have := jnz_len l false
  omega
end Go.Proofs.Ytnpbpiommpgikaa.Vc
