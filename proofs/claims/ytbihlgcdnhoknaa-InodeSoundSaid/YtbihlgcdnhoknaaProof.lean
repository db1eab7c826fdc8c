/-
  PROVED: 'whisk/whisklaw07.InodeSound' returns true, whatever the acts and the quota, in whatever world and on whatever tape, and qch all that was there as it was. CONDITIONS: those that the given row prints, and none besides.
-/
import Derived.Test.YtbihlgcdnhoknaaW11
import Derived.Test.YtbihlgcdnhoknaaRows
import Derived.WalkKit
import Derived.ProofKit
import Derived.OpenShut
import Derived.Carry
import Derived.ChangeMaps5
namespace Go.Proofs.Ytbihlgcdnhoknaa.inodeSound
open Go.ChangeShapes Go.WideShapes Go.ChangeAt Go.RowKit
open Go.Proofs.Ytbihlgcdnhoknaa.Ev Go.Proofs.Ytbihlgcdnhoknaa.W

set_option maxRecDepth 100000
theorem u49 : Try.prog.underlying 49 = some (.array 2 5) := by kernel_rfl
theorem c49 : Try.prog.cellsOf 49 = 2 := by kernel_rfl
theorem okWide_array {w : World} {rc : Reach} {base : Nat} {t : TypeId} {v : Value} {n : Nat} {e : TypeId} (ht : Try.prog.underlying t = some (.array n e)) (h : Value.okWide Try.prog w rc base t v) : ∃ cs, v = .agg cs := by
  simp only [Value.okWide, ht] at h
  obtain ⟨cs, h1, _⟩ := h
  exact ⟨cs, h1⟩
theorem b2_of_trod {H : Type} {enc : TypeId × Value → H} {W : World} {fuel : Nat} {cs : List Value} {x : DataW H × List MemPlace} (h : DataW.trod enc Try.prog W 0 (fun _ => true) true fuel 49 cs = some x) : ∃ b0 b1 : UInt8, cs = [.int .u8 (b0.toNat : Int), .int .u8 (b1.toNat : Int)] := by
  obtain ⟨xs, m, _, _, hl, hn, hi⟩ := DataW.trod_array u49 h
  rw [c49] at hl
  rw [c5] at hi
  match cs, hl with
  | [w0, w1], _ =>
    have g : ∀ (i : Nat) w, i < 2 → (([w0, w1].drop (i * 1)).take 1) = [w] → ∃ b : UInt8, w = .int .u8 (b.toNat : Int) := fun i w h5 hw => by
      have := hi i h5
      rw [hw, List.getElem?_eq_getElem (by omega)] at this
      obtain ⟨b, hb⟩ := qlx this
      exact ⟨b, by simpa using hb⟩
    obtain ⟨b0, rfl⟩ := g 0 w0 (by omega) rfl
    obtain ⟨b1, rfl⟩ := g 1 w1 (by omega) rfl
    exact ⟨b0, b1, rfl⟩
theorem b2_rel {ρ : Rho} (b0 b1 : UInt8) : VRel ρ (u8L [b0, b1]) (.agg #[.int .u8 (b0.toNat : Int), .int .u8 (b1.toNat : Int)]) := by
  unfold u8L
  refine .agg rfl (fun i cv hcv => ?_) fun i v hv cv hcv => ?_
  · match i, hcv with
    | 0, h => cases h; rfl
    | 1, h => cases h; rfl
  · rw [Tr.get_ofList] at hv
    match i, hv, hcv with
    | 0, h, h' => cases h; cases h'; exact .int _ _
    | 1, h, h' => cases h; cases h'; exact .int _ _
theorem own : ownKnob Try.prog.godebug = none := by kernel_rfl
set_option maxRecDepth 100000 in
theorem lifted (os : Os) (started : os.Started) (H : Type) (enc : TypeId × Value → H) :
    ReturnsInHanded {} Try.checked os 5 .any (Rows.inodeSoundSpec.pre6 enc Try.prog Try.f5 Rows.inodeSoundRow.domain false) (Rows.inodeSoundSpec.post enc Try.prog Try.f5 false true false false) := by
  refine returnsInHanded_of_change (C := Try.checked) own started (by kernel_rfl) Try.func5
    (ChangeSpec.witness6 (enc := enc) (C := Try.checked) false ⟨#[], #[.slice none 0 0, .agg #[.int .u8 0, .int .u8 0]], []⟩ 8 (by kernel_rfl) (by kernel_rfl) (by kernel_rfl) (by kernel_rfl)) ?_
  intro W base args ds gs before hval0 hW hcnd _
  have hval : ∀ (j : Nat) t v, Try.f5.params[j]? = some t → args[j]? = some v → Value.okWide Try.prog W .any base t v := hval0
  have hW' := hW
  obtain ⟨p, q, hA0, hV, rfl, hfz, hnd⟩ := hW
  have hA : DataW.TrodAll enc Try.prog W 0 (fun _ => true) true Try.f5.params.toList args.toList ds p := hA0
  have hlt : ∀ x ∈ p, x.block < W.heap.size := fun x hx => hW'.lt x (by simp [hx])
  rw [Try.params5] at hA hval
  obtain ⟨v1, v2, d1, d2, p1, p2, rfl, rfl, rfl, h1, h2⟩ := trodAll_two hA
  obtain ⟨rfl, rfl⟩ := trodVars_none hV
  have hok := hval 0 42 v1 rfl rfl
  obtain ⟨fuel, hf⟩ := id h1
  obtain ⟨cv, v, l, hcs, hv, hb, ad, len, cap, rfl⟩ := acts_of_trod hf
  obtain rfl : v1 = .slice ad len cap := by
    obtain ⟨a', l', c', rfl⟩ := okWide_slice u42 hok
    simp [Value.cells] at hcs
    simp [hcs]
  have hok2 := hval 1 49 v2 rfl rfl
  obtain ⟨fuel2, hf2⟩ := id h2
  obtain ⟨b0, b1, hb2⟩ := b2_of_trod hf2
  obtain rfl : v2 = .agg #[.int .u8 (b0.toNat : Int), .int .u8 (b1.toNat : Int)] := by
    obtain ⟨cs, rfl⟩ := okWide_array u49 hok2
    exact congrArg Value.agg (Array.toList_inj.1 hb2)
  refine (sound_calls W hv hb b0 b1 (b2_rel b0 b1)).mono fun e W' ⟨he, hg⟩ => ?_
  subst he
  exact ⟨_, rfl, post_kept (pa := p1 ++ p2) (pv := []) hW' (fun _ _ _ => (trodAll_cons_mk (shut_bool Try.underlying4 _) trodAll_mk0))
    (fun sp hsp => trodAll_mk2
      (Go.WideElems.Trod_stays (by kernel_rfl) (by kernel_rfl) (of_decide_eq_true (by kernel_rfl)) h1 (fun x hx => hg.same (hlt x (by simp [hx]))) fun x hx => hsp x (by simp [hx]))
      (Go.WideElems.Trod_stays (by kernel_rfl) (by kernel_rfl) (of_decide_eq_true (by kernel_rfl)) h2 (fun x hx => hg.same (hlt x (by simp [hx]))) fun x hx => hsp x (by simp [hx]))) (fun _ _ => rfl) (by simp)
    hg (ok_one (by kernel_rfl) rfl (okWide_bool_mk Try.underlying4 _))⟩

theorem over : Rows.inodeSoundRow.holds Try.pinned (OpenSpec.ofChange Rows.inodeSoundSpec) :=
  OpenClaim.holds_of_wide 5 Try.f5 rfl rfl rfl rfl rfl rfl rfl ⟨rfl, rfl, rfl, rfl, rfl⟩ rfl rfl rfl rfl rfl (by kernel_rfl) Try.func5 (by kernel_rfl)
    (of_decide_eq_true (by kernel_rfl)) (by unfold Func.isWrapper; first | (rw [if_pos (by decide +kernel)]; kernel_rfl) | (rw [if_neg (by decide +kernel)]; exact ⟨rfl, rfl⟩))
    (fun os started H enc _ => lifted os started H enc)
/-- the statement -/
theorem proved : Rows.InodeSoundSaid := over
#print axioms proved
end Go.Proofs.Ytbihlgcdnhoknaa.inodeSound
