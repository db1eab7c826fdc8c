/-
  PROVED: 'whisk/whisklaw07.InodePlays' returns true, whatever the quota and the acts, in whatever world and on whatever tape, and qcv all that was there as it was. CONDITIONS: those that the given row prints, and none besides.
-/
import Derived.Test.YtbihlgcdnhoknaaW14
import Derived.Test.YtbihlgcdnhoknaaRows
import Derived.WalkKit
import Derived.ProofKit
import Derived.OpenShut
import Derived.Carry
import Derived.ChangeMaps5
namespace Go.Proofs.Ytbihlgcdnhoknaa.inodePlays
open Go.ChangeShapes Go.WideShapes Go.ChangeAt Go.RowKit
open Go.Proofs.Ytbihlgcdnhoknaa.Ev Go.Proofs.Ytbihlgcdnhoknaa.W

theorem own : ownKnob Try.prog.godebug = none := by kernel_rfl
set_option maxRecDepth 100000 in
theorem lifted (os : Os) (started : os.Started) (H : Type) (enc : TypeId × Value → H) :
    ReturnsInHanded {} Try.checked os 6 .any (Rows.inodePlaysSpec.pre6 enc Try.prog Try.f6 Rows.inodePlaysRow.domain false) (Rows.inodePlaysSpec.post enc Try.prog Try.f6 false true false false) := by
  refine returnsInHanded_of_change (C := Try.checked) own started (by kernel_rfl) Try.func6
    (ChangeSpec.witness6 (enc := enc) (C := Try.checked) false ⟨#[], #[.agg #[.int .i64 0, .int .i64 0], .slice none 0 0], []⟩ 8 (by kernel_rfl) (by kernel_rfl) (by kernel_rfl) (by kernel_rfl)) ?_
  intro W base args ds gs before hval0 hW hcnd _
  have hval : ∀ (j : Nat) t v, Try.f6.params[j]? = some t → args[j]? = some v → Value.okWide Try.prog W .any base t v := hval0
  have hW' := hW
  obtain ⟨p, q, hA0, hV, rfl, hfz, hnd⟩ := hW
  have hA : DataW.TrodAll enc Try.prog W 0 (fun _ => true) true Try.f6.params.toList args.toList ds p := hA0
  have hlt : ∀ x ∈ p, x.block < W.heap.size := fun x hx => hW'.lt x (by simp [hx])
  rw [Try.params6] at hA hval
  obtain ⟨v1, v2, d1, d2, p1, p2, rfl, rfl, rfl, h1, h2⟩ := trodAll_two hA
  obtain ⟨rfl, rfl⟩ := trodVars_none hV
  have hok := hval 0 26 v1 rfl rfl
  obtain ⟨fuel, hf⟩ := id h1
  obtain ⟨qi, qb, hq⟩ := quota_of_trod hf
  obtain rfl : v1 = .agg #[.int .i64 qi, .int .i64 qb] := by
    obtain ⟨cs, rfl, _⟩ := okWide_struct Try.underlying26 hok
    exact congrArg Value.agg (Array.toList_inj.1 hq)
  have hok2 := hval 1 53 v2 rfl rfl
  obtain ⟨fuel2, hf2⟩ := id h2
  obtain ⟨cv, v, l, hcs, hv, hb, ad, len, cap, rfl⟩ := plays_of_trod hf2
  obtain rfl : v2 = .slice ad len cap := by
    obtain ⟨a', l', c', rfl⟩ := okWide_slice u53 hok2
    simp [Value.cells] at hcs
    simp [hcs]
  refine (plays_calls W qi qb (quota_rel qi qb) hv hb).mono fun e W' ⟨he, hg⟩ => ?_
  subst he
  exact ⟨_, rfl, post_kept (pa := p1 ++ p2) (pv := []) hW' (fun _ _ _ => (trodAll_cons_mk (shut_bool Try.underlying4 _) trodAll_mk0))
    (fun sp hsp => trodAll_mk2
      (Go.WideElems.Trod_stays (by kernel_rfl) (by kernel_rfl) (of_decide_eq_true (by kernel_rfl)) h1 (fun x hx => hg.same (hlt x (by simp [hx]))) fun x hx => hsp x (by simp [hx]))
      (Go.WideElems.Trod_stays (by kernel_rfl) (by kernel_rfl) (of_decide_eq_true (by kernel_rfl)) h2 (fun x hx => hg.same (hlt x (by simp [hx]))) fun x hx => hsp x (by simp [hx]))) (fun _ _ => rfl) (by simp)
    hg (ok_one (by kernel_rfl) rfl (okWide_bool_mk Try.underlying4 _))⟩

theorem over : Rows.inodePlaysRow.holds Try.pinned (OpenSpec.ofChange Rows.inodePlaysSpec) :=
  OpenClaim.holds_of_wide 6 Try.f6 rfl rfl rfl rfl rfl rfl rfl ⟨rfl, rfl, rfl, rfl, rfl⟩ rfl rfl rfl rfl rfl (by kernel_rfl) Try.func6 (by kernel_rfl)
    (of_decide_eq_true (by kernel_rfl)) (by unfold Func.isWrapper; first | (rw [if_pos (by decide +kernel)]; kernel_rfl) | (rw [if_neg (by decide +kernel)]; exact ⟨rfl, rfl⟩))
    (fun os started H enc _ => lifted os started H enc)
/-- the statement -/
theorem proved : Rows.InodePlaysSaid := over
#print axioms proved
end Go.Proofs.Ytbihlgcdnhoknaa.inodePlays
