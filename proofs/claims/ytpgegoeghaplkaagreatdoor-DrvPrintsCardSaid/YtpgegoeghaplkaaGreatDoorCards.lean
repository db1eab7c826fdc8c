/-
  DERIVED. GIVEN WITH THE SEED: THE CARDS: each row of YtpgegoeghaplkaaGreatDoorRows.lean that lists a variable, with what it lists TIED to the program's text (the seventh form; the later family's looks); each row that meets fmt, with fmt's text TOLD by the authors' own Lean function (tested against real Go, not proved from fmt's source: count such statements apart). THE CARD IS WHAT COUNTS. Prove the row's statement (the work); the ties are given (YtpgegoeghaplkaaGreatDoorTie.lean); close each card by the builder's one call (the guide's Derived/Test/ToyasCard.lean, 'card_holds'). Laid BY PROGRAM, IN A SANDBOX (cutbox-door.mjs). By AI agents, Wed Nov 11 2026. No macro, syntax, notation, axiom, sorry.
-/
import Derived.Test.YtpgegoeghaplkaaGreatDoorRows
import GoSem.ClaimSeven
namespace Go.Proofs.YtpgegoeghaplkaaGreatDoor
namespace Rows

/-- THE TIED CARD OF 'whisklaw23.DrvPrints'. -/
def drvPrintsCard : Claim7 := { stood := { row := drvPrintsRow, standIns := [], harness := (true, "be6b92f036a38da34d7c157ca1ef6769682320e1a95516e11e06afe0462483b2"), looks := true }, kinds := [], alts := [], laidByText := true, laidKinds := [.data, .pinned], laidTests := true, laidLooks := .later }
def DrvPrintsCardSaid : Prop := Claim7.holds Tryz.pinned (.plain (OpenSpec.ofChange drvPrintsSpec)) drvPrintsCard

/-- THE TIED CARD OF 'whisklaw23.DrvBack'. -/
def drvBackCard : Claim7 := { stood := { row := drvBackRow, standIns := [], harness := (true, "be6b92f036a38da34d7c157ca1ef6769682320e1a95516e11e06afe0462483b2"), looks := true }, kinds := [], alts := [], laidByText := true, laidKinds := [.data, .pinned], laidTests := true, laidLooks := .later }
def DrvBackCardSaid : Prop := Claim7.holds Tryz.pinned (.plain (OpenSpec.ofChange drvBackSpec)) drvBackCard

/-- THE SECOND FORM's CARD OF 'whisklaw23.DrvPrints'. -/
def drvPrintsUptoCard : Claim7 := { stood := { row := drvPrintsUptoRow, standIns := [], harness := (true, "be6b92f036a38da34d7c157ca1ef6769682320e1a95516e11e06afe0462483b2"), looks := true }, kinds := [], alts := [], laidByText := true, laidKinds := [.data, .pinned], laidTests := true, laidLooks := .later }
def DrvPrintsUptoCardSaid : Prop := Claim7.holds Tryz.pinned (.plain (OpenSpec.upto drvPrintsSpec)) drvPrintsUptoCard

/-- THE SECOND FORM's CARD OF 'whisklaw23.DrvBack'. -/
def drvBackUptoCard : Claim7 := { stood := { row := drvBackUptoRow, standIns := [], harness := (true, "be6b92f036a38da34d7c157ca1ef6769682320e1a95516e11e06afe0462483b2"), looks := true }, kinds := [], alts := [], laidByText := true, laidKinds := [.data, .pinned], laidTests := true, laidLooks := .later }
def DrvBackUptoCardSaid : Prop := Claim7.holds Tryz.pinned (.plain (OpenSpec.upto drvBackSpec)) drvBackUptoCard
end Rows
end Go.Proofs.YtpgegoeghaplkaaGreatDoor
