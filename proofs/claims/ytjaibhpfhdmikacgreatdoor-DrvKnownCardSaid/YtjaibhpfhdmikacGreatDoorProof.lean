/-
  PROVED: 'whisk/whisklaw23.DrvKnown' returns true, in whatever world and on whatever tape, and leaves all that was there as it was. CONDITIONS: those that the given row prints, and none besides.
  The call is run by an evaluator that gives up wherever an answer would hang on the tape; that the evaluator is sound is proved in the texts Ev1 to Ev3.
-/
import Derived.Test.YtjaibhpfhdmikacGreatDoorRows
import Derived.Test.YtjaibhpfhdmikacGreatDoorEv3
import Derived.WalkKit
import Derived.ProofKit
import Derived.OpenShut
import Derived.Test.YtjaibhpfhdmikacGreatDoorTie
import Derived.Test.YtjaibhpfhdmikacGreatDoorCards
import Derived.LaidMore
import Derived.Lay
import Derived.SevenTiedAt
import Derived.Stop.Joined
namespace Go.Proofs.YtjaibhpfhdmikacGreatDoor.drvKnown
open Go.ChangeShapes Go.WideShapes Go.ChangeAt Go.RowKit
open Go.Proofs.YtjaibhpfhdmikacGreatDoor.Ev

theorem own : ownKnob Tryz.prog.godebug = none := by kernel_rfl

noncomputable def tables : Env := envOf Tryz.prog [7, 8, 25, 30, 31, 36, 37, 44, 45, 48, 49, 59, 60, 101, 102, 103, 114, 115, 141, 142, 143, 144, 148] [(68, 4), (88, 3), (90, 105), (97, 1)] [] [(60, 0, 60)]
theorem ext68 : ExtOk Tryz.prog 68 4 := ⟨fun h => absurd h (by decide), fun h => absurd h (by decide), fun h => absurd h (by decide), fun _ args w => by kernel_rfl, fun h => absurd h (by decide)⟩
theorem ext88 : ExtOk Tryz.prog 88 3 := ⟨fun h => absurd h (by decide), fun h => absurd h (by decide), fun _ args w => by kernel_rfl, fun h => absurd h (by decide), fun h => absurd h (by decide)⟩
theorem ext90 : ExtOk Tryz.prog 90 105 := ⟨fun h => absurd h (by decide), fun h => absurd h (by decide), fun h => absurd h (by decide), fun h => absurd h (by decide), fun _ => ⟨Tryz.f90.params, Tryz.f90.resultTypes, Tryz.f90.resultTypes.getD 0 0, by kernel_rfl, by kernel_rfl, fun args w => by kernel_rfl⟩⟩
theorem ext97 : ExtOk Tryz.prog 97 1 := ⟨fun _ args w => by kernel_rfl, fun h => absurd h (by decide), fun h => absurd h (by decide), fun h => absurd h (by decide), fun h => absurd h (by decide)⟩
theorem tables_ok : EnvOk Tryz.prog tables := envOf_ok (by kernel_rfl) (by kernel_rfl) (by kernel_rfl) (fun p hp => by
  simp only [List.mem_cons, List.not_mem_nil, or_false] at hp
  rcases hp with rfl | rfl | rfl | rfl
  · exact ext68
  · exact ext88
  · exact ext90
  · exact ext97
  ) (by kernel_rfl) (by kernel_rfl) (by kernel_rfl)
theorem known : KnOk Tryz.prog tables := knOk_of fun p hp => by
  cases hp
theorem runs : saysTrue ((ev tables 400).f 3 [] s0) = true := by decide +kernel
theorem walk (w : World) : Calls Tryz.prog 3 #[] w fun e w' => e = .returned (.bool true) ∧ Below w.heap.size w w' := closed_walk tables_ok known (fun _ => rfl) runs w

set_option maxRecDepth 100000 in
theorem lifted (os : Os) (started : os.Started) (H : Type) (enc : TypeId × Value → H) :
    ReturnsInHanded {} Tryz.checked os 3 .any (fun w args => (Rows.drvKnownSpec.pre enc Tryz.prog Tryz.f3 Rows.drvKnownRow.domain false w args ∧ laidMetH Tryz.prog Rows.drvKnownRow.laid w) ∧ sizedMet enc Tryz.prog Tryz.f3 (OpenSpec.ofChange Rows.drvKnownSpec) false w args)
      (Rows.drvKnownSpec.post enc Tryz.prog Tryz.f3 false true false false) := by
  refine returnsInHanded_of_change_and (C := Tryz.checked) (X := fun w _ => laidMetH Tryz.prog Rows.drvKnownRow.laid w) (fun _ _ _ hh h => h.of_heap hh) own started (by kernel_rfl) Tryz.func3
    (ChangeSpec.witness_shaped (enc := enc) (C := Tryz.checked) (os := os) (X := fun w _ => laidMetH Tryz.prog Rows.drvKnownRow.laid w) false (World.laidAll Tryz.prog os Rows.drvKnownRow.laid) #[] 8 (World.laidAll_os _ _ _)
      (World.shaped_of_ZipB (by kernel_rfl) (by kernel_rfl)) (by kernel_rfl) (by kernel_rfl) (by kernel_rfl)
      (by rw [MakeChecks.laidMetH_plain _ _ _ (by kernel_rfl)]; exact laidMet_laidAll _ (by kernel_rfl) (by kernel_rfl))) ?_
  intro W base args ds gs before hval0 hW hc _ hL _
  have hW' := hW
  obtain ⟨p, q, hA0, hV, rfl, hfz, hnd⟩ := hW
  have hA : DataW.TrodAll enc Tryz.prog W 0 (fun _ => true) true Tryz.f3.params.toList args.toList ds p := hA0
  rw [Tryz.params3] at hA
  obtain ⟨rfl, rfl, rfl⟩ := trodAll_none hA
  obtain ⟨rfl, rfl⟩ := trodVars_none hV
  clear hA0 hval0
  simp only [List.append_nil] at hW'
  refine (walk W).mono fun e W' ⟨he, hg⟩ => ?_
  subst he
  exact ⟨_, rfl, post_kept (pa := []) (pv := []) hW' (fun _ _ _ => (trodAll_cons_mk (shut_bool Tryz.underlying4 _) trodAll_mk0)) (fun sp _ => rfl) (fun _ _ => rfl) rfl
    hg (ok_one (by kernel_rfl) rfl (okWide_bool_mk Tryz.underlying4 _))⟩

theorem over : Rows.drvKnownRow.holds Tryz.pinned (OpenSpec.ofChange Rows.drvKnownSpec) :=
  OpenClaim.holds_of_wide 3 Tryz.f3 rfl rfl rfl rfl rfl rfl rfl ⟨rfl, rfl, rfl, rfl, rfl⟩ rfl rfl rfl rfl rfl (by kernel_rfl) Tryz.func3 (by kernel_rfl)
    (of_decide_eq_true (by kernel_rfl)) (by unfold Func.isWrapper; first | (rw [if_pos (by decide +kernel)]; kernel_rfl) | (rw [if_neg (by decide +kernel)]; exact ⟨rfl, rfl⟩))
    (fun os started H enc _ => lifted os started H enc)

theorem card_holds : Rows.DrvKnownCardSaid :=
  Claim7.holds_tied_plain_at .later [] [.data, .pinned] true (true, "b7a8d00d289d504aad7ba9f36bc20a076d6c9ce98e21a13afcefcdf14c7b7b70") true over (fun _ h => by cases h) (by kernel_rfl) (fun _ h => by cases h) drvKnown_row_tie rfl ⟨rfl, rfl⟩ (by kernel_rfl) rfl
    (fun f fn hf hfn => by
      obtain rfl : f = 3 := Option.some.inj ((show Tryz.prog.funcNamed "whisk/whisklaw23.DrvKnown" = some 3 by kernel_rfl).symm.trans hf) |>.symm
      obtain rfl : fn = Tryz.f3 := (Option.some.inj (Tryz.func3.symm.trans hfn)).symm
      exact ⟨by kernel_rfl, fun j t ht => by
        rw [Tryz.params3] at ht
        simp at ht⟩)
    (by kernel_rfl)
/-- the statement -/
theorem proved : Rows.DrvKnownCardSaid := card_holds
#print axioms proved
end Go.Proofs.YtjaibhpfhdmikacGreatDoor.drvKnown
