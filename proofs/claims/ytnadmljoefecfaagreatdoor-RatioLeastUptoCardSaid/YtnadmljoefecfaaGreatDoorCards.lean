/-
  DERIVED. GIVEN WITH THE SEED: THE CARDS: each row of YtnadmljoefecfaaGreatDoorRows.lean that lists a variable, with what it lists TIED to the program's text (the seventh form; the later family's looks); each row that meets fmt, with fmt's text TOLD by the authors' own Lean function (tested against real Go, not proved from fmt's source: count such statements apart). THE CARD IS WHAT COUNTS. Prove the row's statement (the work); the ties are given (YtnadmljoefecfaaGreatDoorTie.lean); close each card by the builder's one call (the guide's Derived/Test/ToyasCard.lean, 'card_holds'). Laid BY PROGRAM, IN A SANDBOX (cutbox-door.mjs). By AI agents, Wed Nov 11 2026. No macro, syntax, notation, axiom, sorry.
-/
import Derived.Test.YtnadmljoefecfaaGreatDoorRows
import GoSem.ClaimSeven
namespace Go.Proofs.YtnadmljoefecfaaGreatDoor
namespace Rows

/-- THE TIED CARD OF 'surdlaw07.RatioAts'. -/
def ratioAtsCard : Claim7 := { stood := { row := ratioAtsRow, standIns := [], harness := (true, "2e6890d0c207de5cab24aeb11b7ba17e318f7dd69f2c9918ca150c7641c9a670"), looks := true }, kinds := [], alts := [], laidByText := true, laidKinds := [.data], laidTests := true, laidLooks := .later }
def RatioAtsCardSaid : Prop := Claim7.holds Tryz.pinned (.plain (OpenSpec.ofChange ratioAtsSpec)) ratioAtsCard

/-- THE TIED CARD OF 'surdlaw07.RatioSimplests'. -/
def ratioSimplestsCard : Claim7 := { stood := { row := ratioSimplestsRow, standIns := [], harness := (true, "2e6890d0c207de5cab24aeb11b7ba17e318f7dd69f2c9918ca150c7641c9a670"), looks := true }, kinds := [], alts := [], laidByText := true, laidKinds := [.data], laidTests := true, laidLooks := .later }
def RatioSimplestsCardSaid : Prop := Claim7.holds Tryz.pinned (.plain (OpenSpec.ofChange ratioSimplestsSpec)) ratioSimplestsCard

/-- THE TIED CARD OF 'surdlaw07.RatioLeast'. -/
def ratioLeastCard : Claim7 := { stood := { row := ratioLeastRow, standIns := [], harness := (true, "2e6890d0c207de5cab24aeb11b7ba17e318f7dd69f2c9918ca150c7641c9a670"), looks := true }, kinds := [], alts := [], laidByText := true, laidKinds := [.data], laidTests := true, laidLooks := .later }
def RatioLeastCardSaid : Prop := Claim7.holds Tryz.pinned (.plain (OpenSpec.ofChange ratioLeastSpec)) ratioLeastCard

/-- THE SECOND FORM's CARD OF 'surdlaw07.RatioAts'. -/
def ratioAtsUptoCard : Claim7 := { stood := { row := ratioAtsUptoRow, standIns := [], harness := (true, "2e6890d0c207de5cab24aeb11b7ba17e318f7dd69f2c9918ca150c7641c9a670"), looks := true }, kinds := [], alts := [], laidByText := true, laidKinds := [.data], laidTests := true, laidLooks := .later }
def RatioAtsUptoCardSaid : Prop := Claim7.holds Tryz.pinned (.plain (OpenSpec.upto ratioAtsSpec)) ratioAtsUptoCard

/-- THE SECOND FORM's CARD OF 'surdlaw07.RatioSimplests'. -/
def ratioSimplestsUptoCard : Claim7 := { stood := { row := ratioSimplestsUptoRow, standIns := [], harness := (true, "2e6890d0c207de5cab24aeb11b7ba17e318f7dd69f2c9918ca150c7641c9a670"), looks := true }, kinds := [], alts := [], laidByText := true, laidKinds := [.data], laidTests := true, laidLooks := .later }
def RatioSimplestsUptoCardSaid : Prop := Claim7.holds Tryz.pinned (.plain (OpenSpec.upto ratioSimplestsSpec)) ratioSimplestsUptoCard

/-- THE SECOND FORM's CARD OF 'surdlaw07.RatioLeast'. -/
def ratioLeastUptoCard : Claim7 := { stood := { row := ratioLeastUptoRow, standIns := [], harness := (true, "2e6890d0c207de5cab24aeb11b7ba17e318f7dd69f2c9918ca150c7641c9a670"), looks := true }, kinds := [], alts := [], laidByText := true, laidKinds := [.data], laidTests := true, laidLooks := .later }
def RatioLeastUptoCardSaid : Prop := Claim7.holds Tryz.pinned (.plain (OpenSpec.upto ratioLeastSpec)) ratioLeastUptoCard
end Rows
end Go.Proofs.YtnadmljoefecfaaGreatDoor
