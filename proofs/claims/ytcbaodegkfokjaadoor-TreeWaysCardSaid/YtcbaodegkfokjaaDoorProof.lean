/-
  PROVED: THE TIED CARD of 'whisk/whisklaw06.TreeWays': it returns true, whatever the tree and the two paths, in whatever world and on whatever tape, and leaves all that was there as it was. CONDITIONS: those that the given row prints, and none besides.
-/
import Derived.Test.YtcbaodegkfokjaaDoorW4
import Derived.Test.YtcbaodegkfokjaaDoorRows
import Derived.WalkKit
import Derived.ProofKit
import Derived.OpenShut
import Derived.Carry
import Derived.ChangeMaps5
import Derived.Test.YtcbaodegkfokjaaDoorTie
import Derived.Test.YtcbaodegkfokjaaDoorCards
import Derived.LaidMore
import Derived.Lay
import Derived.SevenTiedAt
import Derived.Stop.Joined
namespace Go.Proofs.YtcbaodegkfokjaaDoor.treeWays
open Go.ChangeShapes Go.WideShapes Go.ChangeAt Go.RowKit
open Go.Proofs.YtcbaodegkfokjaaDoor.Ev Go.Proofs.YtcbaodegkfokjaaDoor.W

theorem own : ownKnob Tryd.prog.godebug = none := by kernel_rfl
theorem ways_run (r : Rw) (h : AllOk r) (a b : List UInt8) (S : St) (ho : S.on = false) : ∃ S', (ev E0 K5 2).f 3 [rwV r, sv a, sv b] S = some (.ret (.bool true), S') := by
  obtain ⟨S', h⟩ := F3_spec r h a b S ho
  exact ⟨S', ev_read (c := C3) (d := B3) (by kernel_rfl) (by kernel_rfl) (annot_isOf C3 _ (by kernel_rfl)) (show K5 3 = none from rfl) h⟩
theorem ways_calls (W : World) {v : Value} {r : Rw} (hv : VRel (frz W) (rwV r) v) (hr : AllOk r) (a b : ByteArray) : Calls Tryd.prog 3 #[v, .string a, .string b] W fun e w' => e = .returned (.bool true) ∧ Below W.heap.size W w' := by
  obtain ⟨S', h⟩ := ways_run r hr a.data.toList b.data.toList s0 rfl
  refine ((ev_sim E0_ok ok5 2).call (base0 W) _ s0 W 3 [rwV r, sv a.data.toList, sv b.data.toList] #[v, .string a, .string b] _ S' (relF W) (.cons hv (.cons (.str a) (.cons (.str b) .nil))) h).mono fun ce w' hce => ?_
  obtain ⟨ρ', cv, rfl, _, hv, hR⟩ := hce
  cases hv
  exact ⟨rfl, below_of_rel hR⟩
set_option maxRecDepth 100000 in
theorem lifted (os : Os) (started : os.Started) (H : Type) (enc : TypeId × Value → H) :
    ReturnsInHanded {} Tryd.checked os 3 .any (fun w args => (Rows.treeWaysSpec.pre enc Tryd.prog Tryd.f3 Rows.treeWaysRow.domain false w args ∧ laidMetH Tryd.prog Rows.treeWaysRow.laid w) ∧ sizedMet enc Tryd.prog Tryd.f3 (OpenSpec.ofChange Rows.treeWaysSpec) false w args)
      (Rows.treeWaysSpec.post enc Tryd.prog Tryd.f3 false true false false) := by
  refine returnsInHanded_of_change_and (C := Tryd.checked) (X := fun w _ => laidMetH Tryd.prog Rows.treeWaysRow.laid w) (fun _ _ _ hh h => h.of_heap hh) own started (by kernel_rfl) Tryd.func3
    (ChangeSpec.witness_shaped (enc := enc) (C := Tryd.checked) (os := os) (X := fun w _ => laidMetH Tryd.prog Rows.treeWaysRow.laid w) false (World.laidAll Tryd.prog os Rows.treeWaysRow.laid) #[.agg #[.string ⟨#[]⟩, .int .i64 0, .bool false, .string ⟨#[]⟩, .slice none 0 0], .string ⟨#[]⟩, .string ⟨#[]⟩] 8 (World.laidAll_os _ _ _)
      (World.shaped_of_ZipB (by kernel_rfl) (by kernel_rfl)) (by kernel_rfl) (by kernel_rfl) (by kernel_rfl)
      (by rw [MakeChecks.laidMetH_plain _ _ _ (by kernel_rfl)]; exact laidMet_laidAll _ (by kernel_rfl) (by kernel_rfl))) ?_
  intro W base args ds gs before hval0 hW hc _ hL _
  have hval : ∀ (j : Nat) t v, Tryd.f3.params[j]? = some t → args[j]? = some v → Value.okWide Tryd.prog W .any base t v := hval0
  have hW' := hW
  obtain ⟨p, q, hA0, hV, rfl, hfz, hnd⟩ := hW
  have hA : DataW.TrodAll enc Tryd.prog W 0 (fun _ => true) true Tryd.f3.params.toList args.toList ds p := hA0
  have hlt : ∀ x ∈ p, x.block < W.heap.size := fun x hx => hW'.lt x (by simp [hx])
  rw [Tryd.params3] at hA hval
  obtain ⟨v1, v2, v3, d1, d2, d3, p1, p2, p3, rfl, rfl, rfl, h1, h2, h3⟩ := trodAll_three hA
  obtain ⟨rfl, rfl⟩ := trodVars_none hV
  have hok := hval 0 24 v1 rfl rfl
  obtain ⟨cs, rfl⟩ : ∃ cs, v1 = .agg cs := by
    unfold Value.okWide at hok
    rw [Tryd.underlying24] at hok
    obtain ⟨cs, h, _⟩ := hok
    exact ⟨cs, h⟩
  obtain ⟨a, rfl, rfl, rfl, _⟩ := Go.ChangeMaps.open_string Tryd.underlying9 (hval 1 9 v2 rfl rfl) h2
  obtain ⟨b, rfl, rfl, rfl, _⟩ := Go.ChangeMaps.open_string Tryd.underlying9 (hval 2 9 v3 rfl rfl) h3
  obtain ⟨fuel, hf⟩ := id h1
  obtain ⟨r, hr1, hr2, hr3⟩ := node_of_trod fuel _ _ hf
  refine (ways_calls W (v := .agg cs) (by simpa [Value.cells] using hr1) hr3 a b).mono fun e W' ⟨he, hg⟩ => ?_
  subst he
  simp only [List.append_assoc, List.nil_append] at hW'
  exact ⟨_, rfl, post_kept (pa := p1) (pv := []) hW' (fun _ _ _ => (trodAll_cons_mk (shut_bool Tryd.underlying4 _) trodAll_mk0))
    (fun sp hsp => by
      have h := trodAll_mk3
        (Go.WideElems.Trod_stays (by kernel_rfl) (by kernel_rfl) (of_decide_eq_true (by kernel_rfl)) h1 (fun x hx => hg.same (hlt x (by simp [hx]))) fun x hx => hsp x (by simp [hx]))
        (Go.WideElems.Trod_stays (by kernel_rfl) (by kernel_rfl) (of_decide_eq_true (by kernel_rfl)) h2 (fun x hx => (by cases hx)) fun x hx => (by cases hx))
        (Go.WideElems.Trod_stays (by kernel_rfl) (by kernel_rfl) (of_decide_eq_true (by kernel_rfl)) h3 (fun x hx => (by cases hx)) fun x hx => (by cases hx))
      rw [List.append_nil, List.append_nil] at h
      exact h) (fun _ _ => rfl) rfl
    hg (ok_one (by kernel_rfl) rfl (okWide_bool_mk Tryd.underlying4 _))⟩

theorem over : Rows.treeWaysRow.holds Tryd.pinned (OpenSpec.ofChange Rows.treeWaysSpec) :=
  OpenClaim.holds_of_wide 3 Tryd.f3 rfl rfl rfl rfl rfl rfl rfl ⟨rfl, rfl, rfl, rfl, rfl⟩ rfl rfl rfl rfl rfl (by kernel_rfl) Tryd.func3 (by kernel_rfl)
    (of_decide_eq_true (by kernel_rfl)) (by unfold Func.isWrapper; first | (rw [if_pos (by decide +kernel)]; kernel_rfl) | (rw [if_neg (by decide +kernel)]; exact ⟨rfl, rfl⟩))
    (fun os started H enc _ => lifted os started H enc)

theorem card_holds : Rows.TreeWaysCardSaid :=
  Claim7.holds_tied_plain_at .later [] [.data, .pinned] true (true, "7391dfa06f0d82009eeea8c2c3952341dd5eed1453a4ed14960f60d3c406cf4c") false over (fun _ h => by cases h) (by kernel_rfl) (fun _ h => by cases h) treeWays_row_tie rfl ⟨rfl, rfl⟩ (by kernel_rfl) rfl
    (fun f fn hf hfn => by
      obtain rfl : f = 3 := Option.some.inj ((show Tryd.prog.funcNamed "whisk/whisklaw06.TreeWays" = some 3 by kernel_rfl).symm.trans hf) |>.symm
      obtain rfl : fn = Tryd.f3 := (Option.some.inj (Tryd.func3.symm.trans hfn)).symm
      exact ⟨by kernel_rfl, fun j t ht => by
        rw [Tryd.params3] at ht
        have hm : t ∈ [24, 9, 9] := by simpa using Array.mem_of_getElem? ht
        have hall : ([24, 9, 9].all fun u => !Tryd.prog.wantsStandIn u) = true := by kernel_rfl
        exact (show Tryd.prog.wantsStandIn t = false by simpa using List.all_eq_true.1 hall t hm)⟩)
    (by kernel_rfl)
/-- the statement -/
theorem proved : Rows.TreeWaysCardSaid := card_holds
#print axioms proved
end Go.Proofs.YtcbaodegkfokjaaDoor.treeWays
