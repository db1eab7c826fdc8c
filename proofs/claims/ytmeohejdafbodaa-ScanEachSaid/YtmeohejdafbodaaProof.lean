/-
  PROVED: 'whisk/whisklaw11.ScanEach' returns true, whatever the texts, the numbers and the letters around, in whatever world and on whatever tape, and qbi all that was there as it was. CONDITIONS: those that the given row prints, and none besides.
-/
import Derived.Test.YtmeohejdafbodaaW12
import Derived.Test.YtmeohejdafbodaaRows
import Derived.WalkKit
import Derived.ProofKit
import Derived.OpenShut
import Derived.Carry
import Derived.ChangeMaps5
namespace Go.Proofs.Ytmeohejdafbodaa.W
open Go.Proofs.Ytmeohejdafbodaa.Ev Go.RowKit
section
variable {H : Type} {enc : TypeId × Value → H} {W : World}
theorem u34b : Try.prog.underlying 34 = some (.slice 5) := by kernel_rfl
theorem u5b : Try.prog.underlying 5 = some (.int .u8) := by kernel_rfl
theorem c5b : Try.prog.cellsOf 5 = 1 := by kernel_rfl
theorem u8_byte {n : Int} (h : (Lit.int .u8 n).wf = true) : ∃ b : UInt8, n = (b.toNat : Int) := by
  unfold Lit.wf at h
  simp only [Bool.and_eq_true, decide_eq_true_eq] at h
  have e1 : IntKind.u8.min = 0 := by decide
  have e2 : IntKind.u8.max = 255 := by decide
  rw [e1, e2] at h
  refine ⟨UInt8.ofNat n.toNat, ?_⟩
  rw [UInt8.toNat_ofNat']
  omega
theorem nums_of_trod {fuel : Nat} {cs : List Value} {x : DataW H × List MemPlace} (h : DataW.trod enc Try.prog W 0 (fun _ => true) true fuel 34 cs = some x) :
    ∃ (cv : Value) (v : V) (l : Bs), cs = [cv] ∧ VRel (frz W) v cv ∧ BV v l ∧ ∃ ad len cap, cv = .slice ad len cap := by
  obtain ⟨cv, v, l, h1, h2, h3, _, h4⟩ := qls (F := fun c : UInt8 => V.int .u8 (c.toNat : Int)) (Q := fun _ => True) u34b c5b (by omega) (fun fuel cs x hx => by
    obtain ⟨n, rfl, _, hw⟩ := DataW.trod_int u5b hx
    obtain ⟨b, rfl⟩ := u8_byte hw
    exact ⟨b, .int .u8 (b.toNat : Int), .int _ _, rfl, rfl, trivial⟩) h
  exact ⟨cv, v, l, h1, h2, h3, h4⟩
theorem each_calls (W : World) {v w : Value} {v0 v1 : V} {l : List Bs} {laid : Bs} (hv : VRel (frz W) v0 v) (hl : TV v0 l) (hw : VRel (frz W) v1 w) (hb : BV v1 laid) (s : ByteArray) : Calls Try.prog 5 #[v, w, .string s] W fun e w' => e = .returned (.bool true) ∧ Below W.heap.size W w' := by
  obtain ⟨n, U, hr⟩ := each_run2 (S := s0) (p := s.data.toList) rfl hl hb
  refine ((ev_sim qm4 okD n).call (base0 W) _ s0 W 5 [v0, v1, sv s.data.toList] #[v, w, .string s] _ U (relF W) (.cons hv (.cons hw (.cons (.str s) .nil))) hr).mono fun ce w' hce => ?_
  obtain ⟨ρ', cv, rfl, _, hv, hR⟩ := hce
  cases hv
  exact ⟨rfl, qhc hR⟩
end
end Go.Proofs.Ytmeohejdafbodaa.W
namespace Go.Proofs.Ytmeohejdafbodaa.scanEach
open Go.ChangeShapes Go.WideShapes Go.ChangeAt Go.RowKit
open Go.Proofs.Ytmeohejdafbodaa.Ev Go.Proofs.Ytmeohejdafbodaa.W

theorem own : ownKnob Try.prog.godebug = none := by kernel_rfl
set_option maxRecDepth 100000 in
theorem lifted (os : Os) (started : os.Started) (H : Type) (enc : TypeId × Value → H) :
    ReturnsInHanded {} Try.checked os 5 .any (Rows.scanEachSpec.pre6 enc Try.prog Try.f5 Rows.scanEachRow.domain false) (Rows.scanEachSpec.post enc Try.prog Try.f5 false true false false) := by
  refine returnsInHanded_of_change (C := Try.checked) own started (by kernel_rfl) Try.func5
    (ChangeSpec.witness6 (enc := enc) (C := Try.checked) false ⟨#[], #[.slice none 0 0, .slice none 0 0, .string ⟨#[]⟩], []⟩ 8 (by kernel_rfl) (by kernel_rfl) (by kernel_rfl) (by kernel_rfl)) ?_
  intro W base args ds gs before hval0 hW hcnd _
  have hval : ∀ (j : Nat) t v, Try.f5.params[j]? = some t → args[j]? = some v → Value.okWide Try.prog W .any base t v := hval0
  have hW' := hW
  obtain ⟨p, q, hA0, hV, rfl, hfz, hnd⟩ := hW
  have hA : DataW.TrodAll enc Try.prog W 0 (fun _ => true) true Try.f5.params.toList args.toList ds p := hA0
  have hlt : ∀ x ∈ p, x.block < W.heap.size := fun x hx => hW'.lt x (by simp [hx])
  rw [Try.params5] at hA hval
  obtain ⟨v1, v2, v3, d1, d2, d3, p1, p2, p3, rfl, rfl, rfl, h1, h2, h3⟩ := trodAll_three hA
  obtain ⟨rfl, rfl⟩ := trodVars_none hV
  have hok1 := hval 0 25 v1 rfl rfl
  have hok2 := hval 1 34 v2 rfl rfl
  obtain ⟨fuel, hf⟩ := id h1
  obtain ⟨cv, v, l, hcs, hv, hb, hs1, ad, len, cap, rfl⟩ := texts_of_trod hf
  obtain rfl : v1 = .slice ad len cap := by
    obtain ⟨a', l', c', rfl⟩ := okWide_slice Try.underlying25 hok1
    simp [Value.cells] at hcs
    simp [hcs]
  obtain ⟨fuel2, hf2⟩ := id h2
  obtain ⟨cw, w, f, hcs2, hw, hb2, ad2, len2, cap2, rfl⟩ := nums_of_trod hf2
  obtain rfl : v2 = .slice ad2 len2 cap2 := by
    obtain ⟨a', l', c', rfl⟩ := okWide_slice u34b hok2
    simp [Value.cells] at hcs2
    simp [hcs2]
  obtain ⟨s, rfl, rfl, rfl, hsl⟩ := Go.ChangeMaps.open_string Try.underlying9 (hval 2 9 v3 rfl rfl) h3
  refine (each_calls W hv hb hw hb2 s).mono fun e W' ⟨he, hg⟩ => ?_
  subst he
  exact ⟨_, rfl, post_kept (pa := p1 ++ (p2 ++ [])) (pv := []) hW' (fun _ _ _ => (trodAll_cons_mk (shut_bool Try.underlying4 _) trodAll_mk0))
    (fun sp hsp => trodAll_mk3
      (Go.WideElems.Trod_stays (by kernel_rfl) (by kernel_rfl) (of_decide_eq_true (by kernel_rfl)) h1 (fun x hx => hg.same (hlt x (by simp [hx]))) fun x hx => hsp x (by simp [hx]))
      (Go.WideElems.Trod_stays (by kernel_rfl) (by kernel_rfl) (of_decide_eq_true (by kernel_rfl)) h2 (fun x hx => hg.same (hlt x (by simp [hx]))) fun x hx => hsp x (by simp [hx]))
      (Go.WideElems.Trod_stays (by kernel_rfl) (by kernel_rfl) (of_decide_eq_true (by kernel_rfl)) h3 (fun x hx => (by cases hx)) fun x hx => (by cases hx))) (fun _ _ => rfl) (by simp)
    hg (ok_one (by kernel_rfl) rfl (okWide_bool_mk Try.underlying4 _))⟩

theorem over : Rows.scanEachRow.holds Try.pinned (OpenSpec.ofChange Rows.scanEachSpec) :=
  OpenClaim.holds_of_wide 5 Try.f5 rfl rfl rfl rfl rfl rfl rfl ⟨rfl, rfl, rfl, rfl, rfl⟩ rfl rfl rfl rfl rfl (by kernel_rfl) Try.func5 (by kernel_rfl)
    (of_decide_eq_true (by kernel_rfl)) (by unfold Func.isWrapper; first | (rw [if_pos (by decide +kernel)]; kernel_rfl) | (rw [if_neg (by decide +kernel)]; exact ⟨rfl, rfl⟩))
    (fun os started H enc _ => lifted os started H enc)
/-- the statement -/
theorem proved : Rows.ScanEachSaid := over
#print axioms proved
end Go.Proofs.Ytmeohejdafbodaa.scanEach
