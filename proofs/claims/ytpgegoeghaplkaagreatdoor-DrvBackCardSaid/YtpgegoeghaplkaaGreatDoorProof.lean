/-
  PROVED: THE TIED CARD of 'whisk/whisklaw23.DrvBack': it returns true, whatever the two derivations, in whatever world and on whatever tape, and qb9 all that was there as it was. CONDITIONS: those that the given row prints, and none besides.
-/
import Derived.Test.YtpgegoeghaplkaaGreatDoorW13
import Derived.Test.YtpgegoeghaplkaaGreatDoorRows
import Derived.WalkKit
import Derived.ProofKit
import Derived.OpenShut
import Derived.Carry
import Derived.ChangeMaps5
import Derived.Test.YtpgegoeghaplkaaGreatDoorTie
import Derived.Test.YtpgegoeghaplkaaGreatDoorCards
import Derived.LaidMore
import Derived.Lay
import Derived.SevenTiedAt
import Derived.Stop.Joined
namespace Go.Proofs.YtpgegoeghaplkaaGreatDoor.drvBack
open Go.ChangeShapes Go.WideShapes Go.ChangeAt Go.RowKit
open Go.Proofs.YtpgegoeghaplkaaGreatDoor.Ev Go.Proofs.YtpgegoeghaplkaaGreatDoor.W

theorem own : ownKnob Tryz.prog.godebug = none := by kernel_rfl
set_option maxRecDepth 100000 in
theorem lifted (os : Os) (started : os.Started) (H : Type) (enc : TypeId × Value → H) :
    ReturnsInHanded {} Tryz.checked os 4 .any (fun w args => (Rows.drvBackSpec.pre enc Tryz.prog Tryz.f4 Rows.drvBackRow.domain false w args ∧ laidMetH Tryz.prog Rows.drvBackRow.laid w) ∧ sizedMet enc Tryz.prog Tryz.f4 (OpenSpec.ofChange Rows.drvBackSpec) false w args)
      (Rows.drvBackSpec.post enc Tryz.prog Tryz.f4 false true false false) := by
  refine returnsInHanded_of_change_and (C := Tryz.checked) (X := fun w _ => laidMetH Tryz.prog Rows.drvBackRow.laid w) (fun _ _ _ hh h => h.of_heap hh) own started (by kernel_rfl) Tryz.func4
    (ChangeSpec.witness_shaped (enc := enc) (C := Tryz.checked) (os := os) (X := fun w _ => laidMetH Tryz.prog Rows.drvBackRow.laid w) false (World.laidAll Tryz.prog os Rows.drvBackRow.laid) #[.agg #[.string ⟨#[]⟩, .slice none 0 0, .slice none 0 0, .string ⟨#[]⟩], .agg #[.string ⟨#[]⟩, .slice none 0 0, .slice none 0 0, .string ⟨#[]⟩]] 8 (World.laidAll_os _ _ _)
      (World.shaped_of_ZipB (by kernel_rfl) (by kernel_rfl)) (by kernel_rfl) (by kernel_rfl) (by kernel_rfl)
      (by rw [MakeChecks.laidMetH_plain _ _ _ (by kernel_rfl)]; exact laidMet_laidAll _ (by kernel_rfl) (by kernel_rfl))) ?_
  intro W base args ds gs before hval0 hW hc _ hL _
  have hval : ∀ (j : Nat) t v, Tryz.f4.params[j]? = some t → args[j]? = some v → Value.okWide Tryz.prog W .any base t v := hval0
  have hW' := hW
  obtain ⟨p, q, hA0, hV, rfl, hfz, hnd⟩ := hW
  have hA : DataW.TrodAll enc Tryz.prog W 0 (fun _ => true) true Tryz.f4.params.toList args.toList ds p := hA0
  have hlt : ∀ x ∈ p, x.block < W.heap.size := fun x hx => hW'.lt x (by simp [hx])
  rw [Tryz.params4] at hA hval
  obtain ⟨v1, v2, d1, d2, p1, p2, rfl, rfl, rfl, h1, h2⟩ := trodAll_two hA
  obtain ⟨rfl, rfl⟩ := trodVars_none hV
  have hok1 := hval 0 25 v1 rfl rfl
  have hok2 := hval 1 25 v2 rfl rfl
  obtain ⟨cs1, rfl⟩ : ∃ cs, v1 = .agg cs := by
    unfold Value.okWide at hok1
    rw [Tryz.underlying25] at hok1
    obtain ⟨cs, h, _⟩ := hok1
    exact ⟨cs, h⟩
  obtain ⟨cs2, rfl⟩ : ∃ cs, v2 = .agg cs := by
    unfold Value.okWide at hok2
    rw [Tryz.underlying25] at hok2
    obtain ⟨cs, h, _⟩ := hok2
    exact ⟨cs, h⟩
  obtain ⟨fuel, hf⟩ := id h1
  obtain ⟨A, da, r1, r2⟩ := qmx hf
  obtain ⟨fuel2, hf2⟩ := id h2
  obtain ⟨B, db, r3, r4⟩ := qmx hf2
  refine (back_calls W (v := .agg cs1) (w := .agg cs2) (by simpa [Value.cells] using r1) r2 (by simpa [Value.cells] using r3) r4).mono fun e W' ⟨he, hg⟩ => ?_
  subst he
  exact ⟨_, rfl, post_kept (pa := p1 ++ p2) (pv := []) hW' (fun _ _ _ => (trodAll_cons_mk (shut_bool Tryz.underlying4 _) trodAll_mk0))
    (fun sp hsp => trodAll_mk2
      (Go.WideElems.Trod_stays (by kernel_rfl) (by kernel_rfl) (of_decide_eq_true (by kernel_rfl)) h1 (fun x hx => hg.same (hlt x (by simp [hx]))) fun x hx => hsp x (by simp [hx]))
      (Go.WideElems.Trod_stays (by kernel_rfl) (by kernel_rfl) (of_decide_eq_true (by kernel_rfl)) h2 (fun x hx => hg.same (hlt x (by simp [hx]))) fun x hx => hsp x (by simp [hx]))) (fun _ _ => rfl) rfl
    hg (ok_one (by kernel_rfl) rfl (okWide_bool_mk Tryz.underlying4 _))⟩

theorem over : Rows.drvBackRow.holds Tryz.pinned (OpenSpec.ofChange Rows.drvBackSpec) :=
  OpenClaim.holds_of_wide 4 Tryz.f4 rfl rfl rfl rfl rfl rfl rfl ⟨rfl, rfl, rfl, rfl, rfl⟩ rfl rfl rfl rfl rfl (by kernel_rfl) Tryz.func4 (by kernel_rfl)
    (of_decide_eq_true (by kernel_rfl)) (by unfold Func.isWrapper; first | (rw [if_pos (by decide +kernel)]; kernel_rfl) | (rw [if_neg (by decide +kernel)]; exact ⟨rfl, rfl⟩))
    (fun os started H enc _ => lifted os started H enc)

theorem card_holds : Rows.DrvBackCardSaid :=
  Claim7.holds_tied_plain_at .later [] [.data, .pinned] true (true, "be6b92f036a38da34d7c157ca1ef6769682320e1a95516e11e06afe0462483b2") true over (fun _ h => by cases h) (by kernel_rfl) (fun _ h => by cases h) drvBack_row_tie rfl ⟨rfl, rfl⟩ (by kernel_rfl) rfl
    (fun f fn hf hfn => by
      obtain rfl : f = 4 := Option.some.inj ((show Tryz.prog.funcNamed "whisk/whisklaw23.DrvBack" = some 4 by kernel_rfl).symm.trans hf) |>.symm
      obtain rfl : fn = Tryz.f4 := (Option.some.inj (Tryz.func4.symm.trans hfn)).symm
      exact ⟨by kernel_rfl, fun j t ht => by
        rw [Tryz.params4] at ht
        have hm : t ∈ [25, 25] := by simpa using Array.mem_of_getElem? ht
        have hall : ([25, 25].all fun u => !Tryz.prog.wantsStandIn u) = true := by kernel_rfl
        exact (show Tryz.prog.wantsStandIn t = false by simpa using List.all_eq_true.1 hall t hm)⟩)
    (by kernel_rfl)
/-- the statement -/
theorem proved : Rows.DrvBackCardSaid := card_holds
#print axioms proved
end Go.Proofs.YtpgegoeghaplkaaGreatDoor.drvBack
