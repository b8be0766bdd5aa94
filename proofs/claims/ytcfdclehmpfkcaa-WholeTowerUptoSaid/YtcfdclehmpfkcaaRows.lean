/-
  No cell of these rows narrows 'for every input' (looked for: loops, veiled, ifaces, maps, wideKeys, modest, calm, conditions, laid).
  DERIVED. THE GIVEN ROWS OF THIS SEAT. 12 by the template 'for every input the law returns true; each argument reads behind the call as it read before'; 0 by the template 'total and deterministic' (their statements: YtcfdclehmpfkcaaTotals.lean).
  GIVEN WITH THE SEED: the statements are not yours to turn. If you find one false, say at which input.
  Laid BY PROGRAM, IN A SANDBOX (cutbox-rows.mjs): the forced cells as the released guide's own fill.sh prints them over the translation 8f61d2336e9a000b… (all of the seat's roots in one cut). By AI agents, Wed Nov 11 2026. No macro, syntax, notation, axiom, sorry.
-/
import Derived.Test.YtcfdclehmpfkcaaChecked
import GoSem.Claim
import GoSem.ClaimJoined
import GoSem.ClaimMapViews
import Derived.JoinedTies
import Derived.KernelRfl
namespace Go.Proofs.Ytcfdclehmpfkcaa
/- THE CELL 'sum', in the pinned program and in every row, IS THE sha256 OF THE DUMP (.gsa) THAT YtcfdclehmpfkcaaProg.lean LOADS. Nothing in Lean hashes anything: it is a label: what it is worth is what the hold of that sum in a sandbox is worth. -/
noncomputable def Try.pinned : Pinned := { name := "ytcfdclehmpfkcaa", sum := "8f61d2336e9a000b0c9cc552e7b61c8980729018bffbdafc3ff56c0ce748f170", checked := Try.checked }
namespace Rows
def none {H : Type} : Left H := { results := [], args := [] }

/-- 'surdlaw05.NumeralNames': WHATEVER THE INPUT: true; the input reads as it did. -/
def numeralNamesSpec : ChangeSpec := { name := "numeralNames", fn := fun _ => fun
  | [] => { results := [.lit (.bool true)], args := [] }
  | _ => none }
def numeralNamesRow : OpenClaim := { program := "ytcfdclehmpfkcaa", sum := "8f61d2336e9a000b0c9cc552e7b61c8980729018bffbdafc3ff56c0ce748f170", func := "surd/surdlaw05.NumeralNames", spec := "numeralNames", inPlace := ["math/bits.Add64", "math/bits.Sub64"], unfollowed := true, recurses := true, named := ["math/bits.divideError", "math/bits.overflowError"], apart := false }
def NumeralNamesSaid : Prop := numeralNamesRow.holds Try.pinned (OpenSpec.ofChange numeralNamesSpec)

/-- ITS FALSE NEIGHBOUR: 'it returns false'. Refute it at one input. -/
def numeralNamesWrong : ChangeSpec := { name := "numeralNames", fn := fun _ => fun
  | [] => { results := [.lit (.bool false)], args := [] }
  | _ => none }
def NumeralNamesWrongFalsely : Prop := numeralNamesRow.holds Try.pinned (OpenSpec.ofChange numeralNamesWrong)

/-- 'surdlaw05.NumeralParses': WHATEVER THE INPUT: true; the input reads as it did. -/
def numeralParsesSpec : ChangeSpec := { name := "numeralParses", fn := fun _ => fun
  | [d1, d2] => { results := [.lit (.bool true)], args := [d1, d2] }
  | _ => none }
def numeralParsesRow : OpenClaim := { program := "ytcfdclehmpfkcaa", sum := "8f61d2336e9a000b0c9cc552e7b61c8980729018bffbdafc3ff56c0ce748f170", func := "surd/surdlaw05.NumeralParses", spec := "numeralParses", inPlace := ["math/bits.Add64", "math/bits.Sub64"], unfollowed := true, recurses := true, named := ["math/bits.divideError", "math/bits.overflowError"], apart := false }
def NumeralParsesSaid : Prop := numeralParsesRow.holds Try.pinned (OpenSpec.ofChange numeralParsesSpec)

/-- ITS FALSE NEIGHBOUR: 'it returns false'. Refute it at one input. -/
def numeralParsesWrong : ChangeSpec := { name := "numeralParses", fn := fun _ => fun
  | [d1, d2] => { results := [.lit (.bool false)], args := [d1, d2] }
  | _ => none }
def NumeralParsesWrongFalsely : Prop := numeralParsesRow.holds Try.pinned (OpenSpec.ofChange numeralParsesWrong)

/-- 'surdlaw05.NumeralOrders': WHATEVER THE INPUT: true; the input reads as it did. -/
def numeralOrdersSpec : ChangeSpec := { name := "numeralOrders", fn := fun _ => fun
  | [d1, d2, d3] => { results := [.lit (.bool true)], args := [d1, d2, d3] }
  | _ => none }
def numeralOrdersRow : OpenClaim := { program := "ytcfdclehmpfkcaa", sum := "8f61d2336e9a000b0c9cc552e7b61c8980729018bffbdafc3ff56c0ce748f170", func := "surd/surdlaw05.NumeralOrders", spec := "numeralOrders", inPlace := ["math/bits.Add64", "math/bits.Sub64"], unfollowed := true, recurses := true, named := ["math/bits.divideError", "math/bits.overflowError"], apart := false }
def NumeralOrdersSaid : Prop := numeralOrdersRow.holds Try.pinned (OpenSpec.ofChange numeralOrdersSpec)

/-- ITS FALSE NEIGHBOUR: 'it returns false'. Refute it at one input. -/
def numeralOrdersWrong : ChangeSpec := { name := "numeralOrders", fn := fun _ => fun
  | [d1, d2, d3] => { results := [.lit (.bool false)], args := [d1, d2, d3] }
  | _ => none }
def NumeralOrdersWrongFalsely : Prop := numeralOrdersRow.holds Try.pinned (OpenSpec.ofChange numeralOrdersWrong)

/-- 'surdlaw05.NumeralBuilds': WHATEVER THE INPUT: true; the input reads as it did. -/
def numeralBuildsSpec : ChangeSpec := { name := "numeralBuilds", fn := fun _ => fun
  | [d1, d2] => { results := [.lit (.bool true)], args := [d1, d2] }
  | _ => none }
def numeralBuildsRow : OpenClaim := { program := "ytcfdclehmpfkcaa", sum := "8f61d2336e9a000b0c9cc552e7b61c8980729018bffbdafc3ff56c0ce748f170", func := "surd/surdlaw05.NumeralBuilds", spec := "numeralBuilds", inPlace := ["math/bits.Add64", "math/bits.Sub64"], unfollowed := true, recurses := true, named := ["math/bits.divideError", "math/bits.overflowError"], apart := false }
def NumeralBuildsSaid : Prop := numeralBuildsRow.holds Try.pinned (OpenSpec.ofChange numeralBuildsSpec)

/-- ITS FALSE NEIGHBOUR: 'it returns false'. Refute it at one input. -/
def numeralBuildsWrong : ChangeSpec := { name := "numeralBuilds", fn := fun _ => fun
  | [d1, d2] => { results := [.lit (.bool false)], args := [d1, d2] }
  | _ => none }
def NumeralBuildsWrongFalsely : Prop := numeralBuildsRow.holds Try.pinned (OpenSpec.ofChange numeralBuildsWrong)

/-- 'surdlaw05.NumeralPrints': WHATEVER THE INPUT: true; the input reads as it did. -/
def numeralPrintsSpec : ChangeSpec := { name := "numeralPrints", fn := fun _ => fun
  | [d1, d2] => { results := [.lit (.bool true)], args := [d1, d2] }
  | _ => none }
def numeralPrintsRow : OpenClaim := { program := "ytcfdclehmpfkcaa", sum := "8f61d2336e9a000b0c9cc552e7b61c8980729018bffbdafc3ff56c0ce748f170", func := "surd/surdlaw05.NumeralPrints", spec := "numeralPrints", inPlace := ["math/bits.Add64", "math/bits.Sub64"], unfollowed := true, recurses := true, named := ["math/bits.divideError", "math/bits.overflowError"], apart := false }
def NumeralPrintsSaid : Prop := numeralPrintsRow.holds Try.pinned (OpenSpec.ofChange numeralPrintsSpec)

/-- ITS FALSE NEIGHBOUR: 'it returns false'. Refute it at one input. -/
def numeralPrintsWrong : ChangeSpec := { name := "numeralPrints", fn := fun _ => fun
  | [d1, d2] => { results := [.lit (.bool false)], args := [d1, d2] }
  | _ => none }
def NumeralPrintsWrongFalsely : Prop := numeralPrintsRow.holds Try.pinned (OpenSpec.ofChange numeralPrintsWrong)

/-- 'surdlaw05.NumeralBack': WHATEVER THE INPUT: true; the input reads as it did. -/
def numeralBackSpec : ChangeSpec := { name := "numeralBack", fn := fun _ => fun
  | [d1, d2, d3] => { results := [.lit (.bool true)], args := [d1, d2, d3] }
  | _ => none }
def numeralBackRow : OpenClaim := { program := "ytcfdclehmpfkcaa", sum := "8f61d2336e9a000b0c9cc552e7b61c8980729018bffbdafc3ff56c0ce748f170", func := "surd/surdlaw05.NumeralBack", spec := "numeralBack", inPlace := ["math/bits.Add64", "math/bits.Sub64"], unfollowed := true, recurses := true, named := ["math/bits.divideError", "math/bits.overflowError"], apart := false }
def NumeralBackSaid : Prop := numeralBackRow.holds Try.pinned (OpenSpec.ofChange numeralBackSpec)

/-- ITS FALSE NEIGHBOUR: 'it returns false'. Refute it at one input. -/
def numeralBackWrong : ChangeSpec := { name := "numeralBack", fn := fun _ => fun
  | [d1, d2, d3] => { results := [.lit (.bool false)], args := [d1, d2, d3] }
  | _ => none }
def NumeralBackWrongFalsely : Prop := numeralBackRow.holds Try.pinned (OpenSpec.ofChange numeralBackWrong)

/-- 'surdlaw05.NumeralPoints': WHATEVER THE INPUT: true; the input reads as it did. -/
def numeralPointsSpec : ChangeSpec := { name := "numeralPoints", fn := fun _ => fun
  | [d1, d2, d3] => { results := [.lit (.bool true)], args := [d1, d2, d3] }
  | _ => none }
def numeralPointsRow : OpenClaim := { program := "ytcfdclehmpfkcaa", sum := "8f61d2336e9a000b0c9cc552e7b61c8980729018bffbdafc3ff56c0ce748f170", func := "surd/surdlaw05.NumeralPoints", spec := "numeralPoints", inPlace := ["math/bits.Add64", "math/bits.Sub64"], unfollowed := true, recurses := true, named := ["math/bits.divideError", "math/bits.overflowError"], apart := false }
def NumeralPointsSaid : Prop := numeralPointsRow.holds Try.pinned (OpenSpec.ofChange numeralPointsSpec)

/-- ITS FALSE NEIGHBOUR: 'it returns false'. Refute it at one input. -/
def numeralPointsWrong : ChangeSpec := { name := "numeralPoints", fn := fun _ => fun
  | [d1, d2, d3] => { results := [.lit (.bool false)], args := [d1, d2, d3] }
  | _ => none }
def NumeralPointsWrongFalsely : Prop := numeralPointsRow.holds Try.pinned (OpenSpec.ofChange numeralPointsWrong)

/-- 'surdlaw06.WholeTexts': WHATEVER THE INPUT: true; the input reads as it did. -/
def wholeTextsSpec : ChangeSpec := { name := "wholeTexts", fn := fun _ => fun
  | [d1, d2] => { results := [.lit (.bool true)], args := [d1, d2] }
  | _ => none }
def wholeTextsRow : OpenClaim := { program := "ytcfdclehmpfkcaa", sum := "8f61d2336e9a000b0c9cc552e7b61c8980729018bffbdafc3ff56c0ce748f170", func := "surd/surdlaw06.WholeTexts", spec := "wholeTexts", inPlace := ["math/bits.Add64", "math/bits.Sub64"], unfollowed := true, recurses := true, named := ["math/bits.divideError", "math/bits.overflowError"], apart := false }
def WholeTextsSaid : Prop := wholeTextsRow.holds Try.pinned (OpenSpec.ofChange wholeTextsSpec)

/-- ITS FALSE NEIGHBOUR: 'it returns false'. Refute it at one input. -/
def wholeTextsWrong : ChangeSpec := { name := "wholeTexts", fn := fun _ => fun
  | [d1, d2] => { results := [.lit (.bool false)], args := [d1, d2] }
  | _ => none }
def WholeTextsWrongFalsely : Prop := wholeTextsRow.holds Try.pinned (OpenSpec.ofChange wholeTextsWrong)

/-- 'surdlaw06.WholeBack': WHATEVER THE INPUT: true; the input reads as it did. -/
def wholeBackSpec : ChangeSpec := { name := "wholeBack", fn := fun _ => fun
  | [d1, d2] => { results := [.lit (.bool true)], args := [d1, d2] }
  | _ => none }
def wholeBackRow : OpenClaim := { program := "ytcfdclehmpfkcaa", sum := "8f61d2336e9a000b0c9cc552e7b61c8980729018bffbdafc3ff56c0ce748f170", func := "surd/surdlaw06.WholeBack", spec := "wholeBack", inPlace := ["math/bits.Add64", "math/bits.Sub64"], unfollowed := true, recurses := true, named := ["math/bits.divideError", "math/bits.overflowError"], apart := false }
def WholeBackSaid : Prop := wholeBackRow.holds Try.pinned (OpenSpec.ofChange wholeBackSpec)

/-- ITS FALSE NEIGHBOUR: 'it returns false'. Refute it at one input. -/
def wholeBackWrong : ChangeSpec := { name := "wholeBack", fn := fun _ => fun
  | [d1, d2] => { results := [.lit (.bool false)], args := [d1, d2] }
  | _ => none }
def WholeBackWrongFalsely : Prop := wholeBackRow.holds Try.pinned (OpenSpec.ofChange wholeBackWrong)

/-- 'surdtop.WholeBezout': WHATEVER THE INPUT: true; the input reads as it did. -/
def wholeBezoutSpec : ChangeSpec := { name := "wholeBezout", fn := fun _ => fun
  | [d1, d2] => { results := [.lit (.bool true)], args := [d1, d2] }
  | _ => none }
def wholeBezoutRow : OpenClaim := { program := "ytcfdclehmpfkcaa", sum := "8f61d2336e9a000b0c9cc552e7b61c8980729018bffbdafc3ff56c0ce748f170", func := "surd/surdtop.WholeBezout", spec := "wholeBezout", inPlace := ["math/bits.Add64", "math/bits.Sub64"], unfollowed := true, recurses := true, named := ["math/bits.divideError", "math/bits.overflowError"], apart := false }
def WholeBezoutSaid : Prop := wholeBezoutRow.holds Try.pinned (OpenSpec.ofChange wholeBezoutSpec)

/-- ITS FALSE NEIGHBOUR: 'it returns false'. Refute it at one input. -/
def wholeBezoutWrong : ChangeSpec := { name := "wholeBezout", fn := fun _ => fun
  | [d1, d2] => { results := [.lit (.bool false)], args := [d1, d2] }
  | _ => none }
def WholeBezoutWrongFalsely : Prop := wholeBezoutRow.holds Try.pinned (OpenSpec.ofChange wholeBezoutWrong)

/-- 'surdtop.WholeTower': WHATEVER THE INPUT: true; the input reads as it did. -/
def wholeTowerSpec : ChangeSpec := { name := "wholeTower", fn := fun _ => fun
  | [d1, d2, d3] => { results := [.lit (.bool true)], args := [d1, d2, d3] }
  | _ => none }
def wholeTowerRow : OpenClaim := { program := "ytcfdclehmpfkcaa", sum := "8f61d2336e9a000b0c9cc552e7b61c8980729018bffbdafc3ff56c0ce748f170", func := "surd/surdtop.WholeTower", spec := "wholeTower", inPlace := ["math/bits.Add64", "math/bits.Sub64"], unfollowed := true, recurses := true, named := ["math/bits.divideError", "math/bits.overflowError"], apart := false }
def WholeTowerSaid : Prop := wholeTowerRow.holds Try.pinned (OpenSpec.ofChange wholeTowerSpec)

/-- ITS FALSE NEIGHBOUR: 'it returns false'. Refute it at one input. -/
def wholeTowerWrong : ChangeSpec := { name := "wholeTower", fn := fun _ => fun
  | [d1, d2, d3] => { results := [.lit (.bool false)], args := [d1, d2, d3] }
  | _ => none }
def WholeTowerWrongFalsely : Prop := wholeTowerRow.holds Try.pinned (OpenSpec.ofChange wholeTowerWrong)

/-- 'surdlaw06.WholeModulo': WHATEVER THE INPUT: true; the input reads as it did. -/
def wholeModuloSpec : ChangeSpec := { name := "wholeModulo", fn := fun _ => fun
  | [d1, d2, d3] => { results := [.lit (.bool true)], args := [d1, d2, d3] }
  | _ => none }
def wholeModuloRow : OpenClaim := { program := "ytcfdclehmpfkcaa", sum := "8f61d2336e9a000b0c9cc552e7b61c8980729018bffbdafc3ff56c0ce748f170", func := "surd/surdlaw06.WholeModulo", spec := "wholeModulo", inPlace := ["math/bits.Add64", "math/bits.Sub64"], unfollowed := true, recurses := true, named := ["math/bits.divideError", "math/bits.overflowError"], apart := false }
def WholeModuloSaid : Prop := wholeModuloRow.holds Try.pinned (OpenSpec.ofChange wholeModuloSpec)

/-- ITS FALSE NEIGHBOUR: 'it returns false'. Refute it at one input. -/
def wholeModuloWrong : ChangeSpec := { name := "wholeModulo", fn := fun _ => fun
  | [d1, d2, d3] => { results := [.lit (.bool false)], args := [d1, d2, d3] }
  | _ => none }
def WholeModuloWrongFalsely : Prop := wholeModuloRow.holds Try.pinned (OpenSpec.ofChange wholeModuloWrong)

/- THE SECOND FORM. 'bulk': how many values and letters a reading holds, each counted each time it is reached (what is shared counts as often as it is met; a slice's spare places count too). A statement '..UptoSaid' is the law's where the arguments, and the package variables that the reading takes, are together of bulk at most 1048576: NARROWER than '..Said'. Prove '..Said' where nothing that the law and all that it calls make is longer than what came in: it says more and counts as full. Else prove '..UptoSaid'. A law counts once. -/
mutual
def uptoBulk {H : Type} : DataW H → Nat
  | .lit (.string bytes) => bytes.length + 1
  | .lit _ => 1
  | .nil => 1
  | .ptr d => uptoBulk d + 1
  | .slice elems spare => uptoBulkAll elems + uptoBulkAll spare + 1
  | .agg parts => uptoBulkAll parts + 1
  | .iface _ d => uptoBulk d + 1
  | .map entries => uptoBulkEntries entries + 1
  | .held _ => 1
def uptoBulkAll {H : Type} : List (DataW H) → Nat
  | [] => 0
  | d :: r => uptoBulk d + uptoBulkAll r
def uptoBulkEntries {H : Type} : List (Lit × DataW H) → Nat
  | [] => 0
  | x :: r => uptoBulkEntry x + uptoBulkEntries r
def uptoBulkEntry {H : Type} : Lit × DataW H → Nat
  | (.string bytes, d) => bytes.length + uptoBulk d + 1
  | (_, d) => uptoBulk d + 1
 end
def uptoSmall : (H : Type) → List (DataW H) → Bool := fun _ ds => decide (uptoBulkAll ds ≤ 1048576)
def OpenSpec.upto (s : _root_.Go.ChangeSpec) : _root_.Go.OpenSpec := { _root_.Go.OpenSpec.ofChange s with cond := some uptoSmall }

/-- 'surdlaw05.NumeralNames', WHERE WHAT IT READS IS OF BULK AT MOST 1048576: true; the input reads as it did. -/
def numeralNamesUptoRow : OpenClaim := { program := "ytcfdclehmpfkcaa", sum := "8f61d2336e9a000b0c9cc552e7b61c8980729018bffbdafc3ff56c0ce748f170", func := "surd/surdlaw05.NumeralNames", spec := "numeralNames", inPlace := ["math/bits.Add64", "math/bits.Sub64"], unfollowed := true, recurses := true, named := ["math/bits.divideError", "math/bits.overflowError"], apart := false, narrowed := true }
def NumeralNamesUptoSaid : Prop := numeralNamesUptoRow.holds Try.pinned (OpenSpec.upto numeralNamesSpec)

/-- 'surdlaw05.NumeralParses', WHERE WHAT IT READS IS OF BULK AT MOST 1048576: true; the input reads as it did. -/
def numeralParsesUptoRow : OpenClaim := { program := "ytcfdclehmpfkcaa", sum := "8f61d2336e9a000b0c9cc552e7b61c8980729018bffbdafc3ff56c0ce748f170", func := "surd/surdlaw05.NumeralParses", spec := "numeralParses", inPlace := ["math/bits.Add64", "math/bits.Sub64"], unfollowed := true, recurses := true, named := ["math/bits.divideError", "math/bits.overflowError"], apart := false, narrowed := true }
def NumeralParsesUptoSaid : Prop := numeralParsesUptoRow.holds Try.pinned (OpenSpec.upto numeralParsesSpec)

/-- 'surdlaw05.NumeralOrders', WHERE WHAT IT READS IS OF BULK AT MOST 1048576: true; the input reads as it did. -/
def numeralOrdersUptoRow : OpenClaim := { program := "ytcfdclehmpfkcaa", sum := "8f61d2336e9a000b0c9cc552e7b61c8980729018bffbdafc3ff56c0ce748f170", func := "surd/surdlaw05.NumeralOrders", spec := "numeralOrders", inPlace := ["math/bits.Add64", "math/bits.Sub64"], unfollowed := true, recurses := true, named := ["math/bits.divideError", "math/bits.overflowError"], apart := false, narrowed := true }
def NumeralOrdersUptoSaid : Prop := numeralOrdersUptoRow.holds Try.pinned (OpenSpec.upto numeralOrdersSpec)

/-- 'surdlaw05.NumeralBuilds', WHERE WHAT IT READS IS OF BULK AT MOST 1048576: true; the input reads as it did. -/
def numeralBuildsUptoRow : OpenClaim := { program := "ytcfdclehmpfkcaa", sum := "8f61d2336e9a000b0c9cc552e7b61c8980729018bffbdafc3ff56c0ce748f170", func := "surd/surdlaw05.NumeralBuilds", spec := "numeralBuilds", inPlace := ["math/bits.Add64", "math/bits.Sub64"], unfollowed := true, recurses := true, named := ["math/bits.divideError", "math/bits.overflowError"], apart := false, narrowed := true }
def NumeralBuildsUptoSaid : Prop := numeralBuildsUptoRow.holds Try.pinned (OpenSpec.upto numeralBuildsSpec)

/-- 'surdlaw05.NumeralPrints', WHERE WHAT IT READS IS OF BULK AT MOST 1048576: true; the input reads as it did. -/
def numeralPrintsUptoRow : OpenClaim := { program := "ytcfdclehmpfkcaa", sum := "8f61d2336e9a000b0c9cc552e7b61c8980729018bffbdafc3ff56c0ce748f170", func := "surd/surdlaw05.NumeralPrints", spec := "numeralPrints", inPlace := ["math/bits.Add64", "math/bits.Sub64"], unfollowed := true, recurses := true, named := ["math/bits.divideError", "math/bits.overflowError"], apart := false, narrowed := true }
def NumeralPrintsUptoSaid : Prop := numeralPrintsUptoRow.holds Try.pinned (OpenSpec.upto numeralPrintsSpec)

/-- 'surdlaw05.NumeralBack', WHERE WHAT IT READS IS OF BULK AT MOST 1048576: true; the input reads as it did. -/
def numeralBackUptoRow : OpenClaim := { program := "ytcfdclehmpfkcaa", sum := "8f61d2336e9a000b0c9cc552e7b61c8980729018bffbdafc3ff56c0ce748f170", func := "surd/surdlaw05.NumeralBack", spec := "numeralBack", inPlace := ["math/bits.Add64", "math/bits.Sub64"], unfollowed := true, recurses := true, named := ["math/bits.divideError", "math/bits.overflowError"], apart := false, narrowed := true }
def NumeralBackUptoSaid : Prop := numeralBackUptoRow.holds Try.pinned (OpenSpec.upto numeralBackSpec)

/-- 'surdlaw05.NumeralPoints', WHERE WHAT IT READS IS OF BULK AT MOST 1048576: true; the input reads as it did. -/
def numeralPointsUptoRow : OpenClaim := { program := "ytcfdclehmpfkcaa", sum := "8f61d2336e9a000b0c9cc552e7b61c8980729018bffbdafc3ff56c0ce748f170", func := "surd/surdlaw05.NumeralPoints", spec := "numeralPoints", inPlace := ["math/bits.Add64", "math/bits.Sub64"], unfollowed := true, recurses := true, named := ["math/bits.divideError", "math/bits.overflowError"], apart := false, narrowed := true }
def NumeralPointsUptoSaid : Prop := numeralPointsUptoRow.holds Try.pinned (OpenSpec.upto numeralPointsSpec)

/-- 'surdlaw06.WholeTexts', WHERE WHAT IT READS IS OF BULK AT MOST 1048576: true; the input reads as it did. -/
def wholeTextsUptoRow : OpenClaim := { program := "ytcfdclehmpfkcaa", sum := "8f61d2336e9a000b0c9cc552e7b61c8980729018bffbdafc3ff56c0ce748f170", func := "surd/surdlaw06.WholeTexts", spec := "wholeTexts", inPlace := ["math/bits.Add64", "math/bits.Sub64"], unfollowed := true, recurses := true, named := ["math/bits.divideError", "math/bits.overflowError"], apart := false, narrowed := true }
def WholeTextsUptoSaid : Prop := wholeTextsUptoRow.holds Try.pinned (OpenSpec.upto wholeTextsSpec)

/-- 'surdlaw06.WholeBack', WHERE WHAT IT READS IS OF BULK AT MOST 1048576: true; the input reads as it did. -/
def wholeBackUptoRow : OpenClaim := { program := "ytcfdclehmpfkcaa", sum := "8f61d2336e9a000b0c9cc552e7b61c8980729018bffbdafc3ff56c0ce748f170", func := "surd/surdlaw06.WholeBack", spec := "wholeBack", inPlace := ["math/bits.Add64", "math/bits.Sub64"], unfollowed := true, recurses := true, named := ["math/bits.divideError", "math/bits.overflowError"], apart := false, narrowed := true }
def WholeBackUptoSaid : Prop := wholeBackUptoRow.holds Try.pinned (OpenSpec.upto wholeBackSpec)

/-- 'surdtop.WholeBezout', WHERE WHAT IT READS IS OF BULK AT MOST 1048576: true; the input reads as it did. -/
def wholeBezoutUptoRow : OpenClaim := { program := "ytcfdclehmpfkcaa", sum := "8f61d2336e9a000b0c9cc552e7b61c8980729018bffbdafc3ff56c0ce748f170", func := "surd/surdtop.WholeBezout", spec := "wholeBezout", inPlace := ["math/bits.Add64", "math/bits.Sub64"], unfollowed := true, recurses := true, named := ["math/bits.divideError", "math/bits.overflowError"], apart := false, narrowed := true }
def WholeBezoutUptoSaid : Prop := wholeBezoutUptoRow.holds Try.pinned (OpenSpec.upto wholeBezoutSpec)

/-- 'surdtop.WholeTower', WHERE WHAT IT READS IS OF BULK AT MOST 1048576: true; the input reads as it did. -/
def wholeTowerUptoRow : OpenClaim := { program := "ytcfdclehmpfkcaa", sum := "8f61d2336e9a000b0c9cc552e7b61c8980729018bffbdafc3ff56c0ce748f170", func := "surd/surdtop.WholeTower", spec := "wholeTower", inPlace := ["math/bits.Add64", "math/bits.Sub64"], unfollowed := true, recurses := true, named := ["math/bits.divideError", "math/bits.overflowError"], apart := false, narrowed := true }
def WholeTowerUptoSaid : Prop := wholeTowerUptoRow.holds Try.pinned (OpenSpec.upto wholeTowerSpec)

/-- 'surdlaw06.WholeModulo', WHERE WHAT IT READS IS OF BULK AT MOST 1048576: true; the input reads as it did. -/
def wholeModuloUptoRow : OpenClaim := { program := "ytcfdclehmpfkcaa", sum := "8f61d2336e9a000b0c9cc552e7b61c8980729018bffbdafc3ff56c0ce748f170", func := "surd/surdlaw06.WholeModulo", spec := "wholeModulo", inPlace := ["math/bits.Add64", "math/bits.Sub64"], unfollowed := true, recurses := true, named := ["math/bits.divideError", "math/bits.overflowError"], apart := false, narrowed := true }
def WholeModuloUptoSaid : Prop := wholeModuloUptoRow.holds Try.pinned (OpenSpec.upto wholeModuloSpec)

end Rows
end Go.Proofs.Ytcfdclehmpfkcaa
