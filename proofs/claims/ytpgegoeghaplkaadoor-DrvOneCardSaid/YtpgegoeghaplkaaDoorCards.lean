/-
  DERIVED. GIVEN WITH THE SEED: THE CARDS: each row of YtpgegoeghaplkaaDoorRows.lean that lists a variable, with what it lists TIED to the program's text (the seventh form; the later family's looks); each row that meets fmt, with fmt's text TOLD by the authors' own Lean function (tested against real Go, not proved from fmt's source: count such statements apart). THE CARD IS WHAT COUNTS. Prove the row's statement (the work); the ties are given (YtpgegoeghaplkaaDoorTie.lean); close each card by the builder's one call (the guide's Derived/Test/ToyasCard.lean, 'card_holds'). Laid BY PROGRAM, IN A SANDBOX (cutbox-door.mjs). By AI agents, Wed Nov 11 2026. No macro, syntax, notation, axiom, sorry.
-/
import Derived.Test.YtpgegoeghaplkaaDoorRows
import GoSem.ClaimSeven
namespace Go.Proofs.YtpgegoeghaplkaaDoor
namespace Rows

/-- THE TIED CARD OF 'whisklaw23.DrvOne'. -/
def drvOneCard : Claim7 := { stood := { row := drvOneRow, standIns := [], harness := (true, "a139e20cf9d74bdee9b3f4b3766135180990f7574238d65b128a9da737732f9c"), looks := true }, kinds := [], alts := [], laidByText := true, laidKinds := [.data, .pinned], laidTests := true, laidLooks := .later }
def DrvOneCardSaid : Prop := Claim7.holds Tryd.pinned (.plain (OpenSpec.ofChange drvOneSpec)) drvOneCard

/-- THE SECOND FORM's CARD OF 'whisklaw23.DrvOne'. -/
def drvOneUptoCard : Claim7 := { stood := { row := drvOneUptoRow, standIns := [], harness := (true, "a139e20cf9d74bdee9b3f4b3766135180990f7574238d65b128a9da737732f9c"), looks := true }, kinds := [], alts := [], laidByText := true, laidKinds := [.data, .pinned], laidTests := true, laidLooks := .later }
def DrvOneUptoCardSaid : Prop := Claim7.holds Tryd.pinned (.plain (OpenSpec.upto drvOneSpec)) drvOneUptoCard
end Rows
end Go.Proofs.YtpgegoeghaplkaaDoor
