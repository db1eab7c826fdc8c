/-
  DERIVED. GIVEN WITH THE SEED: THE CARDS: each row of YtjaibhpfhdmikacGreatDoorRows.lean that lists a variable, with what it lists TIED to the program's text (the seventh form; the later family's looks); each row that meets fmt, with fmt's text TOLD by the authors' own Lean function (tested against real Go, not proved from fmt's source: count such statements apart). THE CARD IS WHAT COUNTS. Prove the row's statement (the work); the ties are given (YtjaibhpfhdmikacGreatDoorTie.lean); close each card by the builder's one call (the guide's Derived/Test/ToyasCard.lean, 'card_holds'). Laid BY PROGRAM, IN A SANDBOX (cutbox-door.mjs). By AI agents, Wed Nov 11 2026. No macro, syntax, notation, axiom, sorry.
-/
import Derived.Test.YtjaibhpfhdmikacGreatDoorRows
import GoSem.ClaimSeven
namespace Go.Proofs.YtjaibhpfhdmikacGreatDoor
namespace Rows

/-- THE TIED CARD OF 'whisklaw23.DrvKnown'. -/
def drvKnownCard : Claim7 := { stood := { row := drvKnownRow, standIns := [], harness := (true, "b7a8d00d289d504aad7ba9f36bc20a076d6c9ce98e21a13afcefcdf14c7b7b70"), looks := true }, kinds := [], alts := [], laidByText := true, laidKinds := [.data, .pinned], laidTests := true, laidLooks := .later }
def DrvKnownCardSaid : Prop := Claim7.holds Tryz.pinned (.plain (OpenSpec.ofChange drvKnownSpec)) drvKnownCard

/-- THE SECOND FORM's CARD OF 'whisklaw23.DrvKnown'. -/
def drvKnownUptoCard : Claim7 := { stood := { row := drvKnownUptoRow, standIns := [], harness := (true, "b7a8d00d289d504aad7ba9f36bc20a076d6c9ce98e21a13afcefcdf14c7b7b70"), looks := true }, kinds := [], alts := [], laidByText := true, laidKinds := [.data, .pinned], laidTests := true, laidLooks := .later }
def DrvKnownUptoCardSaid : Prop := Claim7.holds Tryz.pinned (.plain (OpenSpec.upto drvKnownSpec)) drvKnownUptoCard
end Rows
end Go.Proofs.YtjaibhpfhdmikacGreatDoor
