/-
  No cell of these rows narrows 'for every input' (looked for: loops, veiled, ifaces, maps, wideKeys, modest, calm, conditions, laid).
  DERIVED. THE GIVEN ROWS OF THIS SEAT. 9 by the template 'for every input the law returns true; each argument reads behind the call as it read before'; 0 by the template 'total and deterministic' (their statements: YtnpbpiommpgikaaTotals.lean).
  GIVEN WITH THE SEED: the statements are not yours to turn. If you find one false, say at which input.
  Laid BY PROGRAM, IN A SANDBOX (cutbox-rows.mjs): the forced cells as the released guide's own fill.sh prints them over the translation 5a3aa64f5ce22359… (all of the seat's roots in one cut). By AI agents, Wed Nov 11 2026. No macro, syntax, notation, axiom, sorry.
-/
import Derived.Test.YtnpbpiommpgikaaChecked
import GoSem.Claim
import GoSem.ClaimJoined
import GoSem.ClaimMapViews
import Derived.JoinedTies
import Derived.KernelRfl
namespace Go.Proofs.Ytnpbpiommpgikaa
/- THE CELL 'sum', in the pinned program and in every row, IS THE sha256 OF THE DUMP (.gsa) THAT YtnpbpiommpgikaaProg.lean LOADS. Nothing in Lean hashes anything: it is a label: what it is worth is what the hold of that sum in a sandbox is worth. -/
noncomputable def Try.pinned : Pinned := { name := "ytnpbpiommpgikaa", sum := "5a3aa64f5ce22359be8104a4fb13cc5457e6bb158c502c2420101bce5944b6b9", checked := Try.checked }
namespace Rows
def none {H : Type} : Left H := { results := [], args := [] }

/-- 'surdlaw14.LexNames': WHATEVER THE INPUT: true; the input reads as it did. -/
def lexNamesSpec : ChangeSpec := { name := "lexNames", fn := fun _ => fun
  | [] => { results := [.lit (.bool true)], args := [] }
  | _ => none }
def lexNamesRow : OpenClaim := { program := "ytnpbpiommpgikaa", sum := "5a3aa64f5ce22359be8104a4fb13cc5457e6bb158c502c2420101bce5944b6b9", func := "surd/surdlaw14.LexNames", spec := "lexNames", apart := false }
def LexNamesSaid : Prop := lexNamesRow.holds Try.pinned (OpenSpec.ofChange lexNamesSpec)

/-- ITS FALSE NEIGHBOUR: 'it returns false'. Refute it at one input. -/
def lexNamesWrong : ChangeSpec := { name := "lexNames", fn := fun _ => fun
  | [] => { results := [.lit (.bool false)], args := [] }
  | _ => none }
def LexNamesWrongFalsely : Prop := lexNamesRow.holds Try.pinned (OpenSpec.ofChange lexNamesWrong)

/-- 'surdlaw14.LexKeeps': WHATEVER THE INPUT: true; the input reads as it did. -/
def lexKeepsSpec : ChangeSpec := { name := "lexKeeps", fn := fun _ => fun
  | [d] => { results := [.lit (.bool true)], args := [d] }
  | _ => none }
def lexKeepsRow : OpenClaim := { program := "ytnpbpiommpgikaa", sum := "5a3aa64f5ce22359be8104a4fb13cc5457e6bb158c502c2420101bce5944b6b9", func := "surd/surdlaw14.LexKeeps", spec := "lexKeeps", apart := false }
def LexKeepsSaid : Prop := lexKeepsRow.holds Try.pinned (OpenSpec.ofChange lexKeepsSpec)

/-- ITS FALSE NEIGHBOUR: 'it returns false'. Refute it at one input. -/
def lexKeepsWrong : ChangeSpec := { name := "lexKeeps", fn := fun _ => fun
  | [d] => { results := [.lit (.bool false)], args := [d] }
  | _ => none }
def LexKeepsWrongFalsely : Prop := lexKeepsRow.holds Try.pinned (OpenSpec.ofChange lexKeepsWrong)

/-- 'surdlaw14.LexBlanks': WHATEVER THE INPUT: true; the input reads as it did. -/
def lexBlanksSpec : ChangeSpec := { name := "lexBlanks", fn := fun _ => fun
  | [d1, d2, d3] => { results := [.lit (.bool true)], args := [d1, d2, d3] }
  | _ => none }
def lexBlanksRow : OpenClaim := { program := "ytnpbpiommpgikaa", sum := "5a3aa64f5ce22359be8104a4fb13cc5457e6bb158c502c2420101bce5944b6b9", func := "surd/surdlaw14.LexBlanks", spec := "lexBlanks", apart := false }
def LexBlanksSaid : Prop := lexBlanksRow.holds Try.pinned (OpenSpec.ofChange lexBlanksSpec)

/-- ITS FALSE NEIGHBOUR: 'it returns false'. Refute it at one input. -/
def lexBlanksWrong : ChangeSpec := { name := "lexBlanks", fn := fun _ => fun
  | [d1, d2, d3] => { results := [.lit (.bool false)], args := [d1, d2, d3] }
  | _ => none }
def LexBlanksWrongFalsely : Prop := lexBlanksRow.holds Try.pinned (OpenSpec.ofChange lexBlanksWrong)

/-- 'surdlaw14.LexNexts': WHATEVER THE INPUT: true; the input reads as it did. -/
def lexNextsSpec : ChangeSpec := { name := "lexNexts", fn := fun _ => fun
  | [d1, d2] => { results := [.lit (.bool true)], args := [d1, d2] }
  | _ => none }
def lexNextsRow : OpenClaim := { program := "ytnpbpiommpgikaa", sum := "5a3aa64f5ce22359be8104a4fb13cc5457e6bb158c502c2420101bce5944b6b9", func := "surd/surdlaw14.LexNexts", spec := "lexNexts", apart := false }
def LexNextsSaid : Prop := lexNextsRow.holds Try.pinned (OpenSpec.ofChange lexNextsSpec)

/-- ITS FALSE NEIGHBOUR: 'it returns false'. Refute it at one input. -/
def lexNextsWrong : ChangeSpec := { name := "lexNexts", fn := fun _ => fun
  | [d1, d2] => { results := [.lit (.bool false)], args := [d1, d2] }
  | _ => none }
def LexNextsWrongFalsely : Prop := lexNextsRow.holds Try.pinned (OpenSpec.ofChange lexNextsWrong)

/-- 'surdlaw14.LexSteps': WHATEVER THE INPUT: true; the input reads as it did. -/
def lexStepsSpec : ChangeSpec := { name := "lexSteps", fn := fun _ => fun
  | [d] => { results := [.lit (.bool true)], args := [d] }
  | _ => none }
def lexStepsRow : OpenClaim := { program := "ytnpbpiommpgikaa", sum := "5a3aa64f5ce22359be8104a4fb13cc5457e6bb158c502c2420101bce5944b6b9", func := "surd/surdlaw14.LexSteps", spec := "lexSteps", apart := false }
def LexStepsSaid : Prop := lexStepsRow.holds Try.pinned (OpenSpec.ofChange lexStepsSpec)

/-- ITS FALSE NEIGHBOUR: 'it returns false'. Refute it at one input. -/
def lexStepsWrong : ChangeSpec := { name := "lexSteps", fn := fun _ => fun
  | [d] => { results := [.lit (.bool false)], args := [d] }
  | _ => none }
def LexStepsWrongFalsely : Prop := lexStepsRow.holds Try.pinned (OpenSpec.ofChange lexStepsWrong)

/-- 'surdlaw14.LexTexts': WHATEVER THE INPUT: true; the input reads as it did. -/
def lexTextsSpec : ChangeSpec := { name := "lexTexts", fn := fun _ => fun
  | [d1, d2] => { results := [.lit (.bool true)], args := [d1, d2] }
  | _ => none }
def lexTextsRow : OpenClaim := { program := "ytnpbpiommpgikaa", sum := "5a3aa64f5ce22359be8104a4fb13cc5457e6bb158c502c2420101bce5944b6b9", func := "surd/surdlaw14.LexTexts", spec := "lexTexts", unfollowed := true, recurses := true, apart := false }
def LexTextsSaid : Prop := lexTextsRow.holds Try.pinned (OpenSpec.ofChange lexTextsSpec)

/-- ITS FALSE NEIGHBOUR: 'it returns false'. Refute it at one input. -/
def lexTextsWrong : ChangeSpec := { name := "lexTexts", fn := fun _ => fun
  | [d1, d2] => { results := [.lit (.bool false)], args := [d1, d2] }
  | _ => none }
def LexTextsWrongFalsely : Prop := lexTextsRow.holds Try.pinned (OpenSpec.ofChange lexTextsWrong)

/-- 'surdlaw14.LexJoins': WHATEVER THE INPUT: true; the input reads as it did. -/
def lexJoinsSpec : ChangeSpec := { name := "lexJoins", fn := fun _ => fun
  | [d] => { results := [.lit (.bool true)], args := [d] }
  | _ => none }
def lexJoinsRow : OpenClaim := { program := "ytnpbpiommpgikaa", sum := "5a3aa64f5ce22359be8104a4fb13cc5457e6bb158c502c2420101bce5944b6b9", func := "surd/surdlaw14.LexJoins", spec := "lexJoins", inPlace := ["internal/abi.NoEscape"], apart := false }
def LexJoinsSaid : Prop := lexJoinsRow.holds Try.pinned (OpenSpec.ofChange lexJoinsSpec)

/-- ITS FALSE NEIGHBOUR: 'it returns false'. Refute it at one input. -/
def lexJoinsWrong : ChangeSpec := { name := "lexJoins", fn := fun _ => fun
  | [d] => { results := [.lit (.bool false)], args := [d] }
  | _ => none }
def LexJoinsWrongFalsely : Prop := lexJoinsRow.holds Try.pinned (OpenSpec.ofChange lexJoinsWrong)

/-- 'surdlaw14.LexPlain': WHATEVER THE INPUT: true; the input reads as it did. -/
def lexPlainSpec : ChangeSpec := { name := "lexPlain", fn := fun _ => fun
  | [d] => { results := [.lit (.bool true)], args := [d] }
  | _ => none }
def lexPlainRow : OpenClaim := { program := "ytnpbpiommpgikaa", sum := "5a3aa64f5ce22359be8104a4fb13cc5457e6bb158c502c2420101bce5944b6b9", func := "surd/surdlaw14.LexPlain", spec := "lexPlain", inPlace := ["internal/abi.NoEscape"], apart := false }
def LexPlainSaid : Prop := lexPlainRow.holds Try.pinned (OpenSpec.ofChange lexPlainSpec)

/-- ITS FALSE NEIGHBOUR: 'it returns false'. Refute it at one input. -/
def lexPlainWrong : ChangeSpec := { name := "lexPlain", fn := fun _ => fun
  | [d] => { results := [.lit (.bool false)], args := [d] }
  | _ => none }
def LexPlainWrongFalsely : Prop := lexPlainRow.holds Try.pinned (OpenSpec.ofChange lexPlainWrong)

/-- 'surdlaw14.LexPlains': WHATEVER THE INPUT: true; the input reads as it did. -/
def lexPlainsSpec : ChangeSpec := { name := "lexPlains", fn := fun _ => fun
  | [d] => { results := [.lit (.bool true)], args := [d] }
  | _ => none }
def lexPlainsRow : OpenClaim := { program := "ytnpbpiommpgikaa", sum := "5a3aa64f5ce22359be8104a4fb13cc5457e6bb158c502c2420101bce5944b6b9", func := "surd/surdlaw14.LexPlains", spec := "lexPlains", inPlace := ["internal/abi.NoEscape"], apart := false }
def LexPlainsSaid : Prop := lexPlainsRow.holds Try.pinned (OpenSpec.ofChange lexPlainsSpec)

/-- ITS FALSE NEIGHBOUR: 'it returns false'. Refute it at one input. -/
def lexPlainsWrong : ChangeSpec := { name := "lexPlains", fn := fun _ => fun
  | [d] => { results := [.lit (.bool false)], args := [d] }
  | _ => none }
def LexPlainsWrongFalsely : Prop := lexPlainsRow.holds Try.pinned (OpenSpec.ofChange lexPlainsWrong)

/- THE SECOND FORM. 'bulk': how many values and letters a reading holds, each counted each time it is reached (what is shared counts as often as it is met; a slice's spare places count too). A statement '..UptoSaid' is the law's where the arguments, and the package variables that the reading takes, are together of bulk at most 1048576: NARROWER than '..Said'. Prove '..Said' where nothing that the law and all that it calls make is longer than what came in: it says more and counts as full. Else prove '..UptoSaid'. A law counts once. -/
mutual
def uptoBulk {H : Type} : DataW H → Nat
  | .lit (.string bytes) => bytes.length + 1
  | .lit _ => 1
  | .nil => 1
  | .ptr d => uptoBulk d + 1
  | .slice elems spare => uptoBulkAll elems + uptoBulkAll spare + 1
  | .agg parts => uptoBulkAll parts + 1
  | .iface _ d => uptoBulk d + 1
  | .map entries => uptoBulkEntries entries + 1
  | .held _ => 1
def uptoBulkAll {H : Type} : List (DataW H) → Nat
  | [] => 0
  | d :: r => uptoBulk d + uptoBulkAll r
def uptoBulkEntries {H : Type} : List (Lit × DataW H) → Nat
  | [] => 0
  | x :: r => uptoBulkEntry x + uptoBulkEntries r
def uptoBulkEntry {H : Type} : Lit × DataW H → Nat
  | (.string bytes, d) => bytes.length + uptoBulk d + 1
  | (_, d) => uptoBulk d + 1
 end
def uptoSmall : (H : Type) → List (DataW H) → Bool := fun _ ds => decide (uptoBulkAll ds ≤ 1048576)
def OpenSpec.upto (s : _root_.Go.ChangeSpec) : _root_.Go.OpenSpec := { _root_.Go.OpenSpec.ofChange s with cond := some uptoSmall }

/-- 'surdlaw14.LexNames', WHERE WHAT IT READS IS OF BULK AT MOST 1048576: true; the input reads as it did. -/
def lexNamesUptoRow : OpenClaim := { program := "ytnpbpiommpgikaa", sum := "5a3aa64f5ce22359be8104a4fb13cc5457e6bb158c502c2420101bce5944b6b9", func := "surd/surdlaw14.LexNames", spec := "lexNames", apart := false, narrowed := true }
def LexNamesUptoSaid : Prop := lexNamesUptoRow.holds Try.pinned (OpenSpec.upto lexNamesSpec)

/-- 'surdlaw14.LexKeeps', WHERE WHAT IT READS IS OF BULK AT MOST 1048576: true; the input reads as it did. -/
def lexKeepsUptoRow : OpenClaim := { program := "ytnpbpiommpgikaa", sum := "5a3aa64f5ce22359be8104a4fb13cc5457e6bb158c502c2420101bce5944b6b9", func := "surd/surdlaw14.LexKeeps", spec := "lexKeeps", apart := false, narrowed := true }
def LexKeepsUptoSaid : Prop := lexKeepsUptoRow.holds Try.pinned (OpenSpec.upto lexKeepsSpec)

/-- 'surdlaw14.LexBlanks', WHERE WHAT IT READS IS OF BULK AT MOST 1048576: true; the input reads as it did. -/
def lexBlanksUptoRow : OpenClaim := { program := "ytnpbpiommpgikaa", sum := "5a3aa64f5ce22359be8104a4fb13cc5457e6bb158c502c2420101bce5944b6b9", func := "surd/surdlaw14.LexBlanks", spec := "lexBlanks", apart := false, narrowed := true }
def LexBlanksUptoSaid : Prop := lexBlanksUptoRow.holds Try.pinned (OpenSpec.upto lexBlanksSpec)

/-- 'surdlaw14.LexNexts', WHERE WHAT IT READS IS OF BULK AT MOST 1048576: true; the input reads as it did. -/
def lexNextsUptoRow : OpenClaim := { program := "ytnpbpiommpgikaa", sum := "5a3aa64f5ce22359be8104a4fb13cc5457e6bb158c502c2420101bce5944b6b9", func := "surd/surdlaw14.LexNexts", spec := "lexNexts", apart := false, narrowed := true }
def LexNextsUptoSaid : Prop := lexNextsUptoRow.holds Try.pinned (OpenSpec.upto lexNextsSpec)

/-- 'surdlaw14.LexSteps', WHERE WHAT IT READS IS OF BULK AT MOST 1048576: true; the input reads as it did. -/
def lexStepsUptoRow : OpenClaim := { program := "ytnpbpiommpgikaa", sum := "5a3aa64f5ce22359be8104a4fb13cc5457e6bb158c502c2420101bce5944b6b9", func := "surd/surdlaw14.LexSteps", spec := "lexSteps", apart := false, narrowed := true }
def LexStepsUptoSaid : Prop := lexStepsUptoRow.holds Try.pinned (OpenSpec.upto lexStepsSpec)

/-- 'surdlaw14.LexTexts', WHERE WHAT IT READS IS OF BULK AT MOST 1048576: true; the input reads as it did. -/
def lexTextsUptoRow : OpenClaim := { program := "ytnpbpiommpgikaa", sum := "5a3aa64f5ce22359be8104a4fb13cc5457e6bb158c502c2420101bce5944b6b9", func := "surd/surdlaw14.LexTexts", spec := "lexTexts", unfollowed := true, recurses := true, apart := false, narrowed := true }
def LexTextsUptoSaid : Prop := lexTextsUptoRow.holds Try.pinned (OpenSpec.upto lexTextsSpec)

/-- 'surdlaw14.LexJoins', WHERE WHAT IT READS IS OF BULK AT MOST 1048576: true; the input reads as it did. -/
def lexJoinsUptoRow : OpenClaim := { program := "ytnpbpiommpgikaa", sum := "5a3aa64f5ce22359be8104a4fb13cc5457e6bb158c502c2420101bce5944b6b9", func := "surd/surdlaw14.LexJoins", spec := "lexJoins", inPlace := ["internal/abi.NoEscape"], apart := false, narrowed := true }
def LexJoinsUptoSaid : Prop := lexJoinsUptoRow.holds Try.pinned (OpenSpec.upto lexJoinsSpec)

/-- 'surdlaw14.LexPlain', WHERE WHAT IT READS IS OF BULK AT MOST 1048576: true; the input reads as it did. -/
def lexPlainUptoRow : OpenClaim := { program := "ytnpbpiommpgikaa", sum := "5a3aa64f5ce22359be8104a4fb13cc5457e6bb158c502c2420101bce5944b6b9", func := "surd/surdlaw14.LexPlain", spec := "lexPlain", inPlace := ["internal/abi.NoEscape"], apart := false, narrowed := true }
def LexPlainUptoSaid : Prop := lexPlainUptoRow.holds Try.pinned (OpenSpec.upto lexPlainSpec)

/-- 'surdlaw14.LexPlains', WHERE WHAT IT READS IS OF BULK AT MOST 1048576: true; the input reads as it did. -/
def lexPlainsUptoRow : OpenClaim := { program := "ytnpbpiommpgikaa", sum := "5a3aa64f5ce22359be8104a4fb13cc5457e6bb158c502c2420101bce5944b6b9", func := "surd/surdlaw14.LexPlains", spec := "lexPlains", inPlace := ["internal/abi.NoEscape"], apart := false, narrowed := true }
def LexPlainsUptoSaid : Prop := lexPlainsUptoRow.holds Try.pinned (OpenSpec.upto lexPlainsSpec)

end Rows
end Go.Proofs.Ytnpbpiommpgikaa
