/-
  PROVED: 'whisk/whisklaw09.NarBack' returns true, whatever the two trees, in whatever world and on whatever tape, and leaves all that was there as it was. CONDITIONS: those that the given row prints, and none besides.
-/
import Derived.Test.YthmkdoaaciamlaaW13
import Derived.Test.YthmkdoaaciamlaaRows
import Derived.WalkKit
import Derived.ProofKit
import Derived.OpenShut
import Derived.Carry
namespace Go.Proofs.Ythmkdoaaciamlaa.narBack
open Go.ChangeShapes Go.WideShapes Go.ChangeAt Go.RowKit
open Go.Proofs.Ythmkdoaaciamlaa.Ev Go.Proofs.Ythmkdoaaciamlaa.W

theorem back_run (r1 r2 : Rw) (h1 : AllOk r1) (h2 : AllOk r2) (S : St) (ho : S.on = false) : ∃ S', (ev E0 K32 2).f 5 [rwV r1, rwV r2] S = some (.ret (.bool true), S') := by
  obtain ⟨S', h⟩ := F5_spec r1 r2 h1 h2 S ho
  exact ⟨S', ev_read (c := C5) (d := B5) (by kernel_rfl) (by kernel_rfl) (annot_isOf C5 _ (by kernel_rfl)) (show K32 5 = none from rfl) h⟩
theorem back_calls (W : World) {v1 v2 : Value} {r1 r2 : Rw} (hv1 : VRel (frz W) (rwV r1) v1) (hv2 : VRel (frz W) (rwV r2) v2) (hr1 : AllOk r1) (hr2 : AllOk r2) : Calls Try.prog 5 #[v1, v2] W fun e w' => e = .returned (.bool true) ∧ Below W.heap.size W w' := by
  obtain ⟨S', h⟩ := back_run r1 r2 hr1 hr2 s0 rfl
  refine ((ev_sim E0_ok ok32 2).call (base0 W) _ s0 W 5 [rwV r1, rwV r2] #[v1, v2] _ S' (relF W) (.cons hv1 (.cons hv2 .nil)) h).mono fun ce w' hce => ?_
  obtain ⟨ρ', cv, rfl, _, hv, hR⟩ := hce
  cases hv
  exact ⟨rfl, below_of_rel hR⟩

theorem own : ownKnob Try.prog.godebug = none := by kernel_rfl
set_option maxRecDepth 100000 in
theorem lifted (os : Os) (started : os.Started) (H : Type) (enc : TypeId × Value → H) :
    ReturnsInHanded {} Try.checked os 5 .any (Rows.narBackSpec.pre6 enc Try.prog Try.f5 Rows.narBackRow.domain false) (Rows.narBackSpec.post enc Try.prog Try.f5 false true false false) := by
  refine returnsInHanded_of_change (C := Try.checked) own started (by kernel_rfl) Try.func5
    (ChangeSpec.witness6 (enc := enc) (C := Try.checked) false ⟨#[], #[.agg #[.string ⟨#[]⟩, .int .i64 0, .bool false, .string ⟨#[]⟩, .slice none 0 0], .agg #[.string ⟨#[]⟩, .int .i64 0, .bool false, .string ⟨#[]⟩, .slice none 0 0]], []⟩ 8 (by kernel_rfl) (by kernel_rfl) (by kernel_rfl) (by kernel_rfl)) ?_
  intro W base args ds gs before hval0 hW hcnd _
  have hval : ∀ (j : Nat) t v, Try.f5.params[j]? = some t → args[j]? = some v → Value.okWide Try.prog W .any base t v := hval0
  have hW' := hW
  obtain ⟨p, q, hA0, hV, rfl, hfz, hnd⟩ := hW
  have hA : DataW.TrodAll enc Try.prog W 0 (fun _ => true) true Try.f5.params.toList args.toList ds p := hA0
  have hlt : ∀ x ∈ p, x.block < W.heap.size := fun x hx => hW'.lt x (by simp [hx])
  rw [Try.params5] at hA hval
  obtain ⟨v1, v2, d1, d2, p1, p2, rfl, rfl, rfl, h1, h2⟩ := trodAll_two hA
  obtain ⟨rfl, rfl⟩ := trodVars_none hV
  have open_ : ∀ (v : Value), Value.okWide Try.prog W .any base 24 v → ∃ cs, v = .agg cs := fun v hok => by
    unfold Value.okWide at hok
    rw [Try.underlying24] at hok
    obtain ⟨cs, h, _⟩ := hok
    exact ⟨cs, h⟩
  obtain ⟨c1, rfl⟩ := open_ v1 (hval 0 24 v1 rfl rfl)
  obtain ⟨c2, rfl⟩ := open_ v2 (hval 1 24 v2 rfl rfl)
  obtain ⟨fuel1, hf1⟩ := id h1
  obtain ⟨r1, a1, _, a3⟩ := node_of_trod fuel1 _ _ hf1
  obtain ⟨fuel2, hf2⟩ := id h2
  obtain ⟨r2, b1, _, b3⟩ := node_of_trod fuel2 _ _ hf2
  refine (back_calls W (v1 := .agg c1) (v2 := .agg c2) (by simpa [Value.cells] using a1) (by simpa [Value.cells] using b1) a3 b3).mono fun e W' ⟨he, hg⟩ => ?_
  subst he
  exact ⟨_, rfl, post_kept (pa := p1 ++ p2) (pv := []) hW' (fun _ _ _ => (trodAll_cons_mk (shut_bool Try.underlying4 _) trodAll_mk0))
    (fun sp hsp => trodAll_mk2
      (Go.WideElems.Trod_stays (by kernel_rfl) (by kernel_rfl) (of_decide_eq_true (by kernel_rfl)) h1 (fun x hx => hg.same (hlt x (List.mem_append_left _ hx))) fun x hx => hsp x (by simp [hx]))
      (Go.WideElems.Trod_stays (by kernel_rfl) (by kernel_rfl) (of_decide_eq_true (by kernel_rfl)) h2 (fun x hx => hg.same (hlt x (List.mem_append_right _ hx))) fun x hx => hsp x (by simp [hx]))) (fun _ _ => rfl) rfl
    hg (ok_one (by kernel_rfl) rfl (okWide_bool_mk Try.underlying4 _))⟩

theorem over : Rows.narBackRow.holds Try.pinned (OpenSpec.ofChange Rows.narBackSpec) :=
  OpenClaim.holds_of_wide 5 Try.f5 rfl rfl rfl rfl rfl rfl rfl ⟨rfl, rfl, rfl, rfl, rfl⟩ rfl rfl rfl rfl rfl (by kernel_rfl) Try.func5 (by kernel_rfl)
    (of_decide_eq_true (by kernel_rfl)) (by unfold Func.isWrapper; first | (rw [if_pos (by decide +kernel)]; kernel_rfl) | (rw [if_neg (by decide +kernel)]; exact ⟨rfl, rfl⟩))
    (fun os started H enc _ => lifted os started H enc)
/-- the statement -/
theorem proved : Rows.NarBackSaid := over
#print axioms proved
end Go.Proofs.Ythmkdoaaciamlaa.narBack
