/-
  PROVED: THE TIED CARD of 'whisk/whisklaw23.DrvOne': it returns true, whatever the two texts, in whatever world and on whatever tape, and qbe all that was there as it was. CONDITIONS: those that the given row prints, and none besides.
-/
import Derived.Test.YtpgegoeghaplkaaDoorW9
import Derived.Test.YtpgegoeghaplkaaDoorRows
import Derived.WalkKit
import Derived.ProofKit
import Derived.OpenShut
import Derived.Carry
import Derived.ChangeMaps5
import Derived.Test.YtpgegoeghaplkaaDoorTie
import Derived.Test.YtpgegoeghaplkaaDoorCards
import Derived.LaidMore
import Derived.Lay
import Derived.SevenTiedAt
import Derived.Stop.Joined
namespace Go.Proofs.YtpgegoeghaplkaaDoor.drvOne
open Go.ChangeShapes Go.WideShapes Go.ChangeAt Go.RowKit
open Go.Proofs.YtpgegoeghaplkaaDoor.Ev Go.Proofs.YtpgegoeghaplkaaDoor.W

theorem one_calls (W : World) (s text : ByteArray) (hs : s.size ≤ maxLen) (ht : text.size ≤ maxLen) : Calls Tryd.prog 3 #[.string s, .string text] W fun e w' => e = .returned (.bool true) ∧ Below W.heap.size W w' := by
  obtain ⟨U, h⟩ := one_run (S := s0) rfl 0 s.data.toList text.data.toList (by have : s.data.toList.length = s.size := rfl; unfold maxLen at hs; omega) (by have : text.data.toList.length = text.size := rfl; unfold maxLen at ht; omega)
  refine ((ev_sim E0_ok okD (0 + 13)).call (base0 W) _ s0 W 3 [sv s.data.toList, sv text.data.toList] #[.string s, .string text] _ U (rel0 glob0 W) (.cons (.str s) (.cons (.str text) .nil)) h).mono fun ce w' hce => ?_
  obtain ⟨ρ', cv, rfl, _, hv, hR⟩ := hce
  cases hv
  exact ⟨rfl, qjp hR⟩
theorem own : ownKnob Tryd.prog.godebug = none := by kernel_rfl
set_option maxRecDepth 100000 in
theorem lifted (os : Os) (started : os.Started) (H : Type) (enc : TypeId × Value → H) :
    ReturnsInHanded {} Tryd.checked os 3 .any (fun w args => (Rows.drvOneSpec.pre enc Tryd.prog Tryd.f3 Rows.drvOneRow.domain false w args ∧ laidMetH Tryd.prog Rows.drvOneRow.laid w) ∧ sizedMet enc Tryd.prog Tryd.f3 (OpenSpec.ofChange Rows.drvOneSpec) false w args)
      (Rows.drvOneSpec.post enc Tryd.prog Tryd.f3 false true false false) := by
  refine returnsInHanded_of_change_and (C := Tryd.checked) (X := fun w _ => laidMetH Tryd.prog Rows.drvOneRow.laid w) (fun _ _ _ hh h => h.of_heap hh) own started (by kernel_rfl) Tryd.func3
    (ChangeSpec.witness_shaped (enc := enc) (C := Tryd.checked) (os := os) (X := fun w _ => laidMetH Tryd.prog Rows.drvOneRow.laid w) false (World.laidAll Tryd.prog os Rows.drvOneRow.laid) #[.string ⟨#[]⟩, .string ⟨#[]⟩] 8 (World.laidAll_os _ _ _)
      (World.shaped_of_ZipB (by kernel_rfl) (by kernel_rfl)) (by kernel_rfl) (by kernel_rfl) (by kernel_rfl)
      (by rw [MakeChecks.laidMetH_plain _ _ _ (by kernel_rfl)]; exact laidMet_laidAll _ (by kernel_rfl) (by kernel_rfl))) ?_
  intro W base args ds gs before hval0 hW hc _ hL _
  have hval : ∀ (j : Nat) t v, Tryd.f3.params[j]? = some t → args[j]? = some v → Value.okWide Tryd.prog W .any base t v := hval0
  have hW' := hW
  obtain ⟨p, q, hA0, hV, rfl, hfz, hnd⟩ := hW
  have hA : DataW.TrodAll enc Tryd.prog W 0 (fun _ => true) true Tryd.f3.params.toList args.toList ds p := hA0
  have hlt : ∀ x ∈ p, x.block < W.heap.size := fun x hx => hW'.lt x (by simp [hx])
  rw [Tryd.params3] at hA hval
  obtain ⟨v1, v2, d1, d2, p1, p2, rfl, rfl, rfl, h1, h2⟩ := trodAll_two hA
  obtain ⟨rfl, rfl⟩ := trodVars_none hV
  obtain ⟨s, rfl, rfl, rfl, hsl⟩ := Go.ChangeMaps.open_string Tryd.underlying9 (hval 0 9 v1 rfl rfl) h1
  obtain ⟨s2, rfl, rfl, rfl, hsl2⟩ := Go.ChangeMaps.open_string Tryd.underlying9 (hval 1 9 v2 rfl rfl) h2
  refine (one_calls W s s2 hsl hsl2).mono fun e W' ⟨he, hg⟩ => ?_
  subst he
  exact ⟨_, rfl, post_kept (pa := []) (pv := []) hW' (fun _ _ _ => (trodAll_cons_mk (shut_bool Tryd.underlying4 _) trodAll_mk0))
    (fun sp hsp => trodAll_mk2
      (Go.WideElems.Trod_stays (by kernel_rfl) (by kernel_rfl) (of_decide_eq_true (by kernel_rfl)) h1 (fun x hx => (by cases hx)) fun x hx => (by cases hx))
      (Go.WideElems.Trod_stays (by kernel_rfl) (by kernel_rfl) (of_decide_eq_true (by kernel_rfl)) h2 (fun x hx => (by cases hx)) fun x hx => (by cases hx))) (fun _ _ => rfl) rfl
    hg (ok_one (by kernel_rfl) rfl (okWide_bool_mk Tryd.underlying4 _))⟩

theorem over : Rows.drvOneRow.holds Tryd.pinned (OpenSpec.ofChange Rows.drvOneSpec) :=
  OpenClaim.holds_of_wide 3 Tryd.f3 rfl rfl rfl rfl rfl rfl rfl ⟨rfl, rfl, rfl, rfl, rfl⟩ rfl rfl rfl rfl rfl (by kernel_rfl) Tryd.func3 (by kernel_rfl)
    (of_decide_eq_true (by kernel_rfl)) (by unfold Func.isWrapper; first | (rw [if_pos (by decide +kernel)]; kernel_rfl) | (rw [if_neg (by decide +kernel)]; exact ⟨rfl, rfl⟩))
    (fun os started H enc _ => lifted os started H enc)

theorem card_holds : Rows.DrvOneCardSaid :=
  Claim7.holds_tied_plain_at .later [] [.data, .pinned] true (true, "a139e20cf9d74bdee9b3f4b3766135180990f7574238d65b128a9da737732f9c") true over (fun _ h => by cases h) (by kernel_rfl) (fun _ h => by cases h) drvOne_row_tie rfl ⟨rfl, rfl⟩ (by kernel_rfl) rfl
    (fun f fn hf hfn => by
      obtain rfl : f = 3 := Option.some.inj ((show Tryd.prog.funcNamed "whisk/whisklaw23.DrvOne" = some 3 by kernel_rfl).symm.trans hf) |>.symm
      obtain rfl : fn = Tryd.f3 := (Option.some.inj (Tryd.func3.symm.trans hfn)).symm
      exact ⟨by kernel_rfl, fun j t ht => by
        rw [Tryd.params3] at ht
        have hm : t ∈ [9, 9] := by simpa using Array.mem_of_getElem? ht
        have hall : ([9, 9].all fun u => !Tryd.prog.wantsStandIn u) = true := by kernel_rfl
        exact (show Tryd.prog.wantsStandIn t = false by simpa using List.all_eq_true.1 hall t hm)⟩)
    (by kernel_rfl)
/-- the statement -/
theorem proved : Rows.DrvOneCardSaid := card_holds
#print axioms proved
end Go.Proofs.YtpgegoeghaplkaaDoor.drvOne
