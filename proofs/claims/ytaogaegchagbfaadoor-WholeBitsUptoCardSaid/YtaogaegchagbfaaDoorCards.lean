/-
  DERIVED. GIVEN WITH THE SEED: THE CARDS: each row of YtaogaegchagbfaaDoorRows.lean that lists a variable, with what it lists TIED to the program's text (the seventh form; the later family's looks); each row that meets fmt, with fmt's text TOLD by the authors' own Lean function (tested against real Go, not proved from fmt's source: count such statements apart). THE CARD IS WHAT COUNTS. Prove the row's statement (the work); the ties are given (YtaogaegchagbfaaDoorTie.lean); close each card by the builder's one call (the guide's Derived/Test/ToyasCard.lean, 'card_holds'). Laid BY PROGRAM, IN A SANDBOX (cutbox-door.mjs). By AI agents, Wed Nov 11 2026. No macro, syntax, notation, axiom, sorry.
-/
import Derived.Test.YtaogaegchagbfaaDoorRows
import GoSem.ClaimSeven
namespace Go.Proofs.YtaogaegchagbfaaDoor
namespace Rows

/-- THE TIED CARD OF 'surdlaw06.WholeBits'. -/
def wholeBitsCard : Claim7 := { stood := { row := wholeBitsRow, standIns := [], harness := (true, "6dc4e5d1b6d4ea9bf01a693bd4c840d840248a85561eb4a9d36d662385117c12"), looks := false }, kinds := [], alts := [], laidByText := true, laidKinds := [.data], laidTests := true, laidLooks := .later }
def WholeBitsCardSaid : Prop := Claim7.holds Tryd.pinned (.plain (OpenSpec.ofChange wholeBitsSpec)) wholeBitsCard

/-- THE TIED CARD OF 'surdlaw06.WholeMasks'. -/
def wholeMasksCard : Claim7 := { stood := { row := wholeMasksRow, standIns := [], harness := (true, "6dc4e5d1b6d4ea9bf01a693bd4c840d840248a85561eb4a9d36d662385117c12"), looks := false }, kinds := [], alts := [], laidByText := true, laidKinds := [.data], laidTests := true, laidLooks := .later }
def WholeMasksCardSaid : Prop := Claim7.holds Tryd.pinned (.plain (OpenSpec.ofChange wholeMasksSpec)) wholeMasksCard

/-- THE TIED CARD OF 'surdlaw06.WholeSymbols'. -/
def wholeSymbolsCard : Claim7 := { stood := { row := wholeSymbolsRow, standIns := [], harness := (true, "6dc4e5d1b6d4ea9bf01a693bd4c840d840248a85561eb4a9d36d662385117c12"), looks := false }, kinds := [], alts := [], laidByText := true, laidKinds := [.data], laidTests := true, laidLooks := .later }
def WholeSymbolsCardSaid : Prop := Claim7.holds Tryd.pinned (.plain (OpenSpec.ofChange wholeSymbolsSpec)) wholeSymbolsCard

/-- THE SECOND FORM's CARD OF 'surdlaw06.WholeBits'. -/
def wholeBitsUptoCard : Claim7 := { stood := { row := wholeBitsUptoRow, standIns := [], harness := (true, "6dc4e5d1b6d4ea9bf01a693bd4c840d840248a85561eb4a9d36d662385117c12"), looks := false }, kinds := [], alts := [], laidByText := true, laidKinds := [.data], laidTests := true, laidLooks := .later }
def WholeBitsUptoCardSaid : Prop := Claim7.holds Tryd.pinned (.plain (OpenSpec.upto wholeBitsSpec)) wholeBitsUptoCard

/-- THE SECOND FORM's CARD OF 'surdlaw06.WholeMasks'. -/
def wholeMasksUptoCard : Claim7 := { stood := { row := wholeMasksUptoRow, standIns := [], harness := (true, "6dc4e5d1b6d4ea9bf01a693bd4c840d840248a85561eb4a9d36d662385117c12"), looks := false }, kinds := [], alts := [], laidByText := true, laidKinds := [.data], laidTests := true, laidLooks := .later }
def WholeMasksUptoCardSaid : Prop := Claim7.holds Tryd.pinned (.plain (OpenSpec.upto wholeMasksSpec)) wholeMasksUptoCard

/-- THE SECOND FORM's CARD OF 'surdlaw06.WholeSymbols'. -/
def wholeSymbolsUptoCard : Claim7 := { stood := { row := wholeSymbolsUptoRow, standIns := [], harness := (true, "6dc4e5d1b6d4ea9bf01a693bd4c840d840248a85561eb4a9d36d662385117c12"), looks := false }, kinds := [], alts := [], laidByText := true, laidKinds := [.data], laidTests := true, laidLooks := .later }
def WholeSymbolsUptoCardSaid : Prop := Claim7.holds Tryd.pinned (.plain (OpenSpec.upto wholeSymbolsSpec)) wholeSymbolsUptoCard
end Rows
end Go.Proofs.YtaogaegchagbfaaDoor
