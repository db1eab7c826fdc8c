/-
  No cell of these rows narrows 'for every input' (looked for: loops, veiled, ifaces, maps, wideKeys, modest, calm, conditions, laid).
  DERIVED. THE GIVEN ROWS OF THIS SEAT. 4 by the template 'for every input the law returns true; each argument reads behind the call as it read before'; 0 by the template 'total and deterministic' (their statements: YtbihlgcdnhoknaaTotals.lean).
  GIVEN WITH THE SEED: the statements are not yours to turn. If you find one false, say at which input.
  Laid BY PROGRAM, IN A SANDBOX (cutbox-rows.mjs): the forced cells as the released guide's own fill.sh prints them over the translation dfbb8dbf6f78d05f… (all of the seat's roots in one cut). By AI agents, Wed Nov 11 2026. No macro, syntax, notation, axiom, sorry.
-/
import Derived.Test.YtbihlgcdnhoknaaChecked
import GoSem.Claim
import GoSem.ClaimJoined
import GoSem.ClaimMapViews
import Derived.JoinedTies
import Derived.KernelRfl
namespace Go.Proofs.Ytbihlgcdnhoknaa
/- THE CELL 'sum', in the pinned program and in every row, IS THE sha256 OF THE DUMP (.gsa) THAT YtbihlgcdnhoknaaProg.lean LOADS. Nothing in Lean hashes anything: it is a label: what it is worth is what the hold of that sum in a sandbox is worth. -/
noncomputable def Try.pinned : Pinned := { name := "ytbihlgcdnhoknaa", sum := "dfbb8dbf6f78d05f45dd9dcab52794e1a6b0c4126302ce0133a69e25fd267760", checked := Try.checked }
namespace Rows
def none {H : Type} : Left H := { results := [], args := [] }

/-- 'whisklaw07.InodeLinks': WHATEVER THE INPUT: true; the input reads as it did. -/
def inodeLinksSpec : ChangeSpec := { name := "inodeLinks", fn := fun _ => fun
  | [d1, d2, d3] => { results := [.lit (.bool true)], args := [d1, d2, d3] }
  | _ => none }
def inodeLinksRow : OpenClaim := { program := "ytbihlgcdnhoknaa", sum := "dfbb8dbf6f78d05f45dd9dcab52794e1a6b0c4126302ce0133a69e25fd267760", func := "whisk/whisklaw07.InodeLinks", spec := "inodeLinks", inPlace := ["internal/bytealg.IndexByteString", "internal/bytealg.IndexString"], unfollowed := true, recurses := true, named := ["internal/bytealg.MaxLen"], apart := false }
def InodeLinksSaid : Prop := inodeLinksRow.holds Try.pinned (OpenSpec.ofChange inodeLinksSpec)

/-- ITS FALSE NEIGHBOUR: 'it returns false'. Refute it at one input. -/
def inodeLinksWrong : ChangeSpec := { name := "inodeLinks", fn := fun _ => fun
  | [d1, d2, d3] => { results := [.lit (.bool false)], args := [d1, d2, d3] }
  | _ => none }
def InodeLinksWrongFalsely : Prop := inodeLinksRow.holds Try.pinned (OpenSpec.ofChange inodeLinksWrong)

/-- 'whisklaw07.InodeUndone': WHATEVER THE INPUT: true; the input reads as it did. -/
def inodeUndoneSpec : ChangeSpec := { name := "inodeUndone", fn := fun _ => fun
  | [d1, d2, d3] => { results := [.lit (.bool true)], args := [d1, d2, d3] }
  | _ => none }
def inodeUndoneRow : OpenClaim := { program := "ytbihlgcdnhoknaa", sum := "dfbb8dbf6f78d05f45dd9dcab52794e1a6b0c4126302ce0133a69e25fd267760", func := "whisk/whisklaw07.InodeUndone", spec := "inodeUndone", inPlace := ["internal/bytealg.IndexByteString", "internal/bytealg.IndexString"], unfollowed := true, recurses := true, named := ["internal/bytealg.MaxLen"], apart := false }
def InodeUndoneSaid : Prop := inodeUndoneRow.holds Try.pinned (OpenSpec.ofChange inodeUndoneSpec)

/-- ITS FALSE NEIGHBOUR: 'it returns false'. Refute it at one input. -/
def inodeUndoneWrong : ChangeSpec := { name := "inodeUndone", fn := fun _ => fun
  | [d1, d2, d3] => { results := [.lit (.bool false)], args := [d1, d2, d3] }
  | _ => none }
def InodeUndoneWrongFalsely : Prop := inodeUndoneRow.holds Try.pinned (OpenSpec.ofChange inodeUndoneWrong)

/-- 'whisklaw07.InodeSound': WHATEVER THE INPUT: true; the input reads as it did. -/
def inodeSoundSpec : ChangeSpec := { name := "inodeSound", fn := fun _ => fun
  | [d1, d2] => { results := [.lit (.bool true)], args := [d1, d2] }
  | _ => none }
def inodeSoundRow : OpenClaim := { program := "ytbihlgcdnhoknaa", sum := "dfbb8dbf6f78d05f45dd9dcab52794e1a6b0c4126302ce0133a69e25fd267760", func := "whisk/whisklaw07.InodeSound", spec := "inodeSound", inPlace := ["internal/bytealg.IndexByteString", "internal/bytealg.IndexString"], unfollowed := true, recurses := true, named := ["internal/bytealg.MaxLen"], apart := false }
def InodeSoundSaid : Prop := inodeSoundRow.holds Try.pinned (OpenSpec.ofChange inodeSoundSpec)

/-- ITS FALSE NEIGHBOUR: 'it returns false'. Refute it at one input. -/
def inodeSoundWrong : ChangeSpec := { name := "inodeSound", fn := fun _ => fun
  | [d1, d2] => { results := [.lit (.bool false)], args := [d1, d2] }
  | _ => none }
def InodeSoundWrongFalsely : Prop := inodeSoundRow.holds Try.pinned (OpenSpec.ofChange inodeSoundWrong)

/-- 'whisklaw07.InodePlays': WHATEVER THE INPUT: true; the input reads as it did. -/
def inodePlaysSpec : ChangeSpec := { name := "inodePlays", fn := fun _ => fun
  | [d1, d2] => { results := [.lit (.bool true)], args := [d1, d2] }
  | _ => none }
def inodePlaysRow : OpenClaim := { program := "ytbihlgcdnhoknaa", sum := "dfbb8dbf6f78d05f45dd9dcab52794e1a6b0c4126302ce0133a69e25fd267760", func := "whisk/whisklaw07.InodePlays", spec := "inodePlays", inPlace := ["internal/bytealg.IndexByteString", "internal/bytealg.IndexString"], unfollowed := true, recurses := true, named := ["internal/bytealg.MaxLen"], apart := false }
def InodePlaysSaid : Prop := inodePlaysRow.holds Try.pinned (OpenSpec.ofChange inodePlaysSpec)

/-- ITS FALSE NEIGHBOUR: 'it returns false'. Refute it at one input. -/
def inodePlaysWrong : ChangeSpec := { name := "inodePlays", fn := fun _ => fun
  | [d1, d2] => { results := [.lit (.bool false)], args := [d1, d2] }
  | _ => none }
def InodePlaysWrongFalsely : Prop := inodePlaysRow.holds Try.pinned (OpenSpec.ofChange inodePlaysWrong)

/- THE SECOND FORM. 'bulk': how many values and letters a reading holds, each counted each time it is reached (what is shared counts as often as it is met; a slice's spare places count too). A statement '..UptoSaid' is the law's where the arguments, and the package variables that the reading takes, are together of bulk at most 1048576: NARROWER than '..Said'. Prove '..Said' where nothing that the law and all that it calls make is longer than what came in: it says more and counts as full. Else prove '..UptoSaid'. A law counts once. -/
mutual
def uptoBulk {H : Type} : DataW H → Nat
  | .lit (.string bytes) => bytes.length + 1
  | .lit _ => 1
  | .nil => 1
  | .ptr d => uptoBulk d + 1
  | .slice elems spare => uptoBulkAll elems + uptoBulkAll spare + 1
  | .agg parts => uptoBulkAll parts + 1
  | .iface _ d => uptoBulk d + 1
  | .map entries => uptoBulkEntries entries + 1
  | .held _ => 1
def uptoBulkAll {H : Type} : List (DataW H) → Nat
  | [] => 0
  | d :: r => uptoBulk d + uptoBulkAll r
def uptoBulkEntries {H : Type} : List (Lit × DataW H) → Nat
  | [] => 0
  | x :: r => uptoBulkEntry x + uptoBulkEntries r
def uptoBulkEntry {H : Type} : Lit × DataW H → Nat
  | (.string bytes, d) => bytes.length + uptoBulk d + 1
  | (_, d) => uptoBulk d + 1
 end
def uptoSmall : (H : Type) → List (DataW H) → Bool := fun _ ds => decide (uptoBulkAll ds ≤ 1048576)
def OpenSpec.upto (s : _root_.Go.ChangeSpec) : _root_.Go.OpenSpec := { _root_.Go.OpenSpec.ofChange s with cond := some uptoSmall }

/-- 'whisklaw07.InodeLinks', WHERE WHAT IT READS IS OF BULK AT MOST 1048576: true; the input reads as it did. -/
def inodeLinksUptoRow : OpenClaim := { program := "ytbihlgcdnhoknaa", sum := "dfbb8dbf6f78d05f45dd9dcab52794e1a6b0c4126302ce0133a69e25fd267760", func := "whisk/whisklaw07.InodeLinks", spec := "inodeLinks", inPlace := ["internal/bytealg.IndexByteString", "internal/bytealg.IndexString"], unfollowed := true, recurses := true, named := ["internal/bytealg.MaxLen"], apart := false, narrowed := true }
def InodeLinksUptoSaid : Prop := inodeLinksUptoRow.holds Try.pinned (OpenSpec.upto inodeLinksSpec)

/-- 'whisklaw07.InodeUndone', WHERE WHAT IT READS IS OF BULK AT MOST 1048576: true; the input reads as it did. -/
def inodeUndoneUptoRow : OpenClaim := { program := "ytbihlgcdnhoknaa", sum := "dfbb8dbf6f78d05f45dd9dcab52794e1a6b0c4126302ce0133a69e25fd267760", func := "whisk/whisklaw07.InodeUndone", spec := "inodeUndone", inPlace := ["internal/bytealg.IndexByteString", "internal/bytealg.IndexString"], unfollowed := true, recurses := true, named := ["internal/bytealg.MaxLen"], apart := false, narrowed := true }
def InodeUndoneUptoSaid : Prop := inodeUndoneUptoRow.holds Try.pinned (OpenSpec.upto inodeUndoneSpec)

/-- 'whisklaw07.InodeSound', WHERE WHAT IT READS IS OF BULK AT MOST 1048576: true; the input reads as it did. -/
def inodeSoundUptoRow : OpenClaim := { program := "ytbihlgcdnhoknaa", sum := "dfbb8dbf6f78d05f45dd9dcab52794e1a6b0c4126302ce0133a69e25fd267760", func := "whisk/whisklaw07.InodeSound", spec := "inodeSound", inPlace := ["internal/bytealg.IndexByteString", "internal/bytealg.IndexString"], unfollowed := true, recurses := true, named := ["internal/bytealg.MaxLen"], apart := false, narrowed := true }
def InodeSoundUptoSaid : Prop := inodeSoundUptoRow.holds Try.pinned (OpenSpec.upto inodeSoundSpec)

/-- 'whisklaw07.InodePlays', WHERE WHAT IT READS IS OF BULK AT MOST 1048576: true; the input reads as it did. -/
def inodePlaysUptoRow : OpenClaim := { program := "ytbihlgcdnhoknaa", sum := "dfbb8dbf6f78d05f45dd9dcab52794e1a6b0c4126302ce0133a69e25fd267760", func := "whisk/whisklaw07.InodePlays", spec := "inodePlays", inPlace := ["internal/bytealg.IndexByteString", "internal/bytealg.IndexString"], unfollowed := true, recurses := true, named := ["internal/bytealg.MaxLen"], apart := false, narrowed := true }
def InodePlaysUptoSaid : Prop := inodePlaysUptoRow.holds Try.pinned (OpenSpec.upto inodePlaysSpec)

end Rows
end Go.Proofs.Ytbihlgcdnhoknaa
