/-
  PROVED: 'whisk/whisklaw09.NarKnown' returns true, in whatever world and on whatever tape, and leaves all that was there as it was. CONDITIONS: those that the given row prints, and none besides.
  The call is run by an evaluator that gives up wherever an answer would hang on the tape; that the evaluator is sound is proved in the texts Ev1 to Ev3.
-/
import Derived.Test.YtochnbpnillojaaRows
import Derived.Test.YtochnbpnillojaaEv3
import Derived.WalkKit
import Derived.ProofKit
import Derived.OpenShut
namespace Go.Proofs.Ytochnbpnillojaa.narKnown
open Go.ChangeShapes Go.WideShapes Go.ChangeAt Go.RowKit
open Go.Proofs.Ytochnbpnillojaa.Ev

theorem own : ownKnob Try.prog.godebug = none := by kernel_rfl

noncomputable def tables : Env := envOf Try.prog [7, 8, 23, 24, 38, 39, 41, 42, 47, 48, 58, 59, 71, 81, 82, 92] [(50, 1)]
theorem ext50 : ExtOk Try.prog 50 1 := ⟨fun _ args w => by kernel_rfl, fun h => by cases h⟩
theorem tables_ok : EnvOk Try.prog tables := envOf_ok (by kernel_rfl) (by kernel_rfl) (by kernel_rfl) (fun p hp => by
  simp only [List.mem_cons, List.not_mem_nil, or_false] at hp
  rcases hp with rfl
  · exact ext50
  ) (by kernel_rfl)
theorem runs : saysTrue ((ev tables 60).f 3 [] s0) = true := by decide +kernel
theorem walk (w : World) : Calls Try.prog 3 #[] w fun e w' => e = .returned (.bool true) ∧ Below w.heap.size w w' := closed_walk tables_ok (fun _ => rfl) runs w

set_option maxRecDepth 100000 in
theorem lifted (os : Os) (started : os.Started) (H : Type) (enc : TypeId × Value → H) :
    ReturnsInHanded {} Try.checked os 3 .any (Rows.narKnownSpec.pre6 enc Try.prog Try.f3 Rows.narKnownRow.domain false) (Rows.narKnownSpec.post enc Try.prog Try.f3 false true false false) := by
  refine returnsInHanded_of_change (C := Try.checked) own started (by kernel_rfl) Try.func3
    (ChangeSpec.witness6 (enc := enc) (C := Try.checked) false ⟨#[], #[], []⟩ 8 (by kernel_rfl) (by kernel_rfl) (by kernel_rfl) (by kernel_rfl)) ?_
  intro W base args ds gs before hval0 hW hcnd _
  have hW' := hW
  obtain ⟨p, q, hA0, hV, rfl, hfz, hnd⟩ := hW
  have hA : DataW.TrodAll enc Try.prog W 0 (fun _ => true) true Try.f3.params.toList args.toList ds p := hA0
  rw [Try.params3] at hA
  obtain ⟨rfl, rfl, rfl⟩ := trodAll_none hA
  obtain ⟨rfl, rfl⟩ := trodVars_none hV
  clear hA0 hval0
  simp only [List.append_nil] at hW'
  refine (walk W).mono fun e W' ⟨he, hg⟩ => ?_
  subst he
  exact ⟨_, rfl, post_kept (pa := []) (pv := []) hW' (fun _ _ _ => (trodAll_cons_mk (shut_bool Try.underlying4 _) trodAll_mk0)) (fun sp _ => rfl) (fun _ _ => rfl) rfl
    hg (ok_one (by kernel_rfl) rfl (okWide_bool_mk Try.underlying4 _))⟩

theorem over : Rows.narKnownRow.holds Try.pinned (OpenSpec.ofChange Rows.narKnownSpec) :=
  OpenClaim.holds_of_wide 3 Try.f3 rfl rfl rfl rfl rfl rfl rfl ⟨rfl, rfl, rfl, rfl, rfl⟩ rfl rfl rfl rfl rfl (by kernel_rfl) Try.func3 (by kernel_rfl)
    (of_decide_eq_true (by kernel_rfl)) (by unfold Func.isWrapper; first | (rw [if_pos (by decide +kernel)]; kernel_rfl) | (rw [if_neg (by decide +kernel)]; exact ⟨rfl, rfl⟩))
    (fun os started H enc _ => lifted os started H enc)

/-- the statement -/
theorem proved : Rows.NarKnownSaid := over
#print axioms proved
end Go.Proofs.Ytochnbpnillojaa.narKnown
