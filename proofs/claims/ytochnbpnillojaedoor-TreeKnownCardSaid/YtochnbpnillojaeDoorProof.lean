/-
  PROVED: 'whisk/whisklaw06.TreeKnown' returns true, in whatever world and on whatever tape, and leaves all that was there as it was. CONDITIONS: those that the given row prints, and none besides.
  The call is run by an evaluator that gives up wherever an answer would hang on the tape; that the evaluator is sound is proved in the texts Ev1 to Ev3.
-/
import Derived.Test.YtochnbpnillojaeDoorRows
import Derived.Test.YtochnbpnillojaeDoorEv3
import Derived.WalkKit
import Derived.ProofKit
import Derived.OpenShut
import Derived.Test.YtochnbpnillojaeDoorShelf
import Derived.Test.YtochnbpnillojaeDoorTie
import Derived.Test.YtochnbpnillojaeDoorCards
import Derived.LaidMore
import Derived.Lay
import Derived.SevenTiedAt
import Derived.Stop.Joined
namespace Go.Proofs.YtochnbpnillojaeDoor.treeKnown
open Go.ChangeShapes Go.WideShapes Go.ChangeAt Go.RowKit
open Go.Proofs.YtochnbpnillojaeDoor.Ev

theorem own : ownKnob Tryd.prog.godebug = none := by kernel_rfl

noncomputable def tables : Env := envOf Tryd.prog [7, 8, 24, 25, 44, 45, 89, 90, 97, 98, 99, 100, 104] [(53, 1)] [(4, knRepeat)]
theorem ext53 : ExtOk Tryd.prog 53 1 := ⟨fun _ args w => by kernel_rfl, fun h => by cases h⟩
theorem tables_ok : EnvOk Tryd.prog tables := envOf_ok (by kernel_rfl) (by kernel_rfl) (by kernel_rfl) (fun p hp => by
  simp only [List.mem_cons, List.not_mem_nil, or_false] at hp
  rcases hp with rfl
  · exact ext53
  ) (by kernel_rfl)
theorem known4 : KnWell Tryd.prog tables 4 knRepeat := repeat_well Tryd.strings_Repeat
theorem known : KnOk Tryd.prog tables := knOk_of fun p hp => by
  simp only [List.mem_cons, List.not_mem_nil, or_false] at hp
  rcases hp with rfl
  · exact known4
theorem runs : saysTrue ((ev tables 400).f 3 [] s0) = true := by decide +kernel
theorem walk (w : World) : Calls Tryd.prog 3 #[] w fun e w' => e = .returned (.bool true) ∧ Below w.heap.size w w' := closed_walk tables_ok known (fun _ => rfl) runs w

set_option maxRecDepth 100000 in
theorem lifted (os : Os) (started : os.Started) (H : Type) (enc : TypeId × Value → H) :
    ReturnsInHanded {} Tryd.checked os 3 .any (fun w args => (Rows.treeKnownSpec.pre enc Tryd.prog Tryd.f3 Rows.treeKnownRow.domain false w args ∧ laidMetH Tryd.prog Rows.treeKnownRow.laid w) ∧ sizedMet enc Tryd.prog Tryd.f3 (OpenSpec.ofChange Rows.treeKnownSpec) false w args)
      (Rows.treeKnownSpec.post enc Tryd.prog Tryd.f3 false true false false) := by
  refine returnsInHanded_of_change_and (C := Tryd.checked) (X := fun w _ => laidMetH Tryd.prog Rows.treeKnownRow.laid w) (fun _ _ _ hh h => h.of_heap hh) own started (by kernel_rfl) Tryd.func3
    (ChangeSpec.witness_shaped (enc := enc) (C := Tryd.checked) (os := os) (X := fun w _ => laidMetH Tryd.prog Rows.treeKnownRow.laid w) false (World.laidAll Tryd.prog os Rows.treeKnownRow.laid) #[] 8 (World.laidAll_os _ _ _)
      (World.shaped_of_ZipB (by kernel_rfl) (by kernel_rfl)) (by kernel_rfl) (by kernel_rfl) (by kernel_rfl)
      (by rw [MakeChecks.laidMetH_plain _ _ _ (by kernel_rfl)]; exact laidMet_laidAll _ (by kernel_rfl) (by kernel_rfl))) ?_
  intro W base args ds gs before hval0 hW hc _ hL _
  have hW' := hW
  obtain ⟨p, q, hA0, hV, rfl, hfz, hnd⟩ := hW
  have hA : DataW.TrodAll enc Tryd.prog W 0 (fun _ => true) true Tryd.f3.params.toList args.toList ds p := hA0
  rw [Tryd.params3] at hA
  obtain ⟨rfl, rfl, rfl⟩ := trodAll_none hA
  obtain ⟨rfl, rfl⟩ := trodVars_none hV
  clear hA0 hval0
  simp only [List.append_nil] at hW'
  refine (walk W).mono fun e W' ⟨he, hg⟩ => ?_
  subst he
  exact ⟨_, rfl, post_kept (pa := []) (pv := []) hW' (fun _ _ _ => (trodAll_cons_mk (shut_bool Tryd.underlying4 _) trodAll_mk0)) (fun sp _ => rfl) (fun _ _ => rfl) rfl
    hg (ok_one (by kernel_rfl) rfl (okWide_bool_mk Tryd.underlying4 _))⟩

theorem over : Rows.treeKnownRow.holds Tryd.pinned (OpenSpec.ofChange Rows.treeKnownSpec) :=
  OpenClaim.holds_of_wide 3 Tryd.f3 rfl rfl rfl rfl rfl rfl rfl ⟨rfl, rfl, rfl, rfl, rfl⟩ rfl rfl rfl rfl rfl (by kernel_rfl) Tryd.func3 (by kernel_rfl)
    (of_decide_eq_true (by kernel_rfl)) (by unfold Func.isWrapper; first | (rw [if_pos (by decide +kernel)]; kernel_rfl) | (rw [if_neg (by decide +kernel)]; exact ⟨rfl, rfl⟩))
    (fun os started H enc _ => lifted os started H enc)

theorem card_holds : Rows.TreeKnownCardSaid :=
  Claim7.holds_tied_plain_at .later [] [.data, .pinned] true (true, "a209f44ef5d02927ae08e7dc7692693659bedbc236f5fda1093bc697ce4610cd") false over (fun _ h => by cases h) (by kernel_rfl) (fun _ h => by cases h) treeKnown_row_tie rfl ⟨rfl, rfl⟩ (by kernel_rfl) rfl
    (fun f fn hf hfn => by
      obtain rfl : f = 3 := Option.some.inj ((show Tryd.prog.funcNamed "whisk/whisklaw06.TreeKnown" = some 3 by kernel_rfl).symm.trans hf) |>.symm
      obtain rfl : fn = Tryd.f3 := (Option.some.inj (Tryd.func3.symm.trans hfn)).symm
      exact ⟨by kernel_rfl, fun j t ht => by
        rw [Tryd.params3] at ht
        simp at ht⟩)
    (by kernel_rfl)
/-- the statement -/
theorem proved : Rows.TreeKnownCardSaid := card_holds
#print axioms proved
end Go.Proofs.YtochnbpnillojaeDoor.treeKnown
