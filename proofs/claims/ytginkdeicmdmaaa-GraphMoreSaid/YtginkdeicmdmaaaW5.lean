/-
  WHAT THE FUNCTIONS COME TO: each is read by the evaluator, printed, and told as a function of data, part 5 of 5 (no condition).
-/
import Derived.Test.YtginkdeicmdmaaaW4
import Derived.WalkKit
import Derived.ProofKit
import Derived.OpenShut
import Derived.Carry
import Derived.ChangeMaps5
namespace Go.Proofs.Ytginkdeicmdmaaa.W
open Go.Proofs.Ytginkdeicmdmaaa.Ev Go.RowKit
section
variable {S T U : St}
theorem more_run (ho : S.on = false) {v0 : V} {l : List Nat} (hl : U16V v0 l) (A B : Nat) : ∃ U, (ev E0 KD 24).f 4 [v0, .int .u16 (A : Int), .int .u16 (B : Int)] S = some (.ret (.bool true), U) := by
 obtain ⟨v2, X, ps, a1, a2, a3, a4⟩ := small_run 22 ho hl false
 have onX := a2.on.trans ho
 have hs : Small ps false l (min l.length 14) := ⟨a4, by omega⟩
 have hlen := hs.len
 have hp := a3.1
 obtain ⟨x, y, Y, b1, b2, b3⟩ := L4_spec (m := 23) (N := rounds) onX hp hs A B (R4_6 (ev E0 KD 23) rounds (finN E0 (ev E0 KD 23) Try.f4) noEx) (exB 0 (R4_6 (ev E0 KD 23) rounds (finN E0 (ev E0 KD 23) Try.f4) noEx) noEx) (min l.length 14) 0 rounds .nilslice .nilslice X (Nat.zero_add _) (by unfold rounds; omega) (Grew.refl _ _) ⟨.nil, .nil, fun r h => by cases h⟩
 have onY := b2.on.trans onX
 have hpY := hp.grew b2
 have hxl : (upTo A (min l.length 14)).length ≤ min l.length 14 := upTo_len _ _
 have hyl : (upTo B (min l.length 14)).length ≤ min l.length 14 := upTo_len _ _
 obtain ⟨w1, Z1, c1, c2, c3⟩ := closure_run (d := 20) onY hpY hs.fit (by omega) b3.tx.tl (by omega)
 have on1 := c3.on.trans onY
 obtain ⟨w2, Z2, d1, d2, d3⟩ := closure_run (d := 20) on1 (hpY.grew c3) hs.fit (by omega) (b3.ty.tl.grew0 c3) (by omega)
 have on2 := d3.on.trans on1
 have g2 := c3.trans d3
 obtain ⟨y0, W, v1, U1, v3, U2, e1, e2, e3, e4, e5⟩ := app_two on2 (b3.tx.tl.grew0 g2) (b3.ty.tl.grew0 g2) (by omega) (by omega)
 have on3 := e5.on.trans on2
 have g3 := g2.trans e5
 obtain ⟨w4, Z4, f1, f2, f3⟩ := closure_run (d := 20) on3 (hpY.grew g3) hs.fit (by omega) e4 (by rw [List.length_append]; omega)
 have on4 := f3.on.trans on3
 have g4 := g3.trans f3
 have hcl : ∀ f, (closL ps f).length < 1000 := fun f => by have := closL_len ps f; omega
 have hc1 : TL Z4 w1 (closL ps (upTo A (min l.length 14))) := ((c2.tl.grew0 d3).grew0 e5).grew0 f3
 have hc2 : TL Z4 w2 (closL ps (upTo B (min l.length 14))) := (d2.tl.grew0 e5).grew0 f3
 have hloop := L4b_spec (m := 22) (N := rounds) on4 (v8 := x) (v9 := y) (hpY.grew g4) hs hc1 hc2 f2.tl (hcl _) (hcl _) (hcl _) (fun a => by rw [mem_closL, mem_closL, mem_closL, rch_app]) (R4_23 (ev E0 KD 23) rounds (fun a s => projK [6] a fun a => finN E0 (ev E0 KD 23) Try.f4 a s) noEx) (exB 2 (R4_23 (ev E0 KD 23) rounds (fun a s => projK [6] a fun a => finN E0 (ev E0 KD 23) Try.f4 a s) noEx) noEx) (min l.length 14) 0 rounds (Nat.zero_add _) (by unfold rounds; omega)
 obtain ⟨Z, z1, z2⟩ := rest_run 0 on4 (hpY.grew g4) hs (b3.tx.grew g4) (b3.ty.grew g4) hc1 hc2 (fun a s => projK [6] a fun a => finN E0 (ev E0 KD 23) Try.f4 a s) noEx
 refine ⟨Z, rd4 ?_⟩
 show F4 (ev E0 KD 23) rounds v0 (.int .u16 (A : Int)) (.int .u16 (B : Int)) S = _
 rw [F4_eq, a1, callP_ret, show (V.int .i64 0) = .int .i64 ((0 : Nat) : Int) from rfl, b1, exB_same, R4_6_eq, c1, callP_ret, d1, callP_ret, e1, oB]
 dsimp only
 rw [e2, oB]
 dsimp only
 rw [e3, oB]
 dsimp only
 rw [f1, callP_ret, show (V.int .i64 0) = .int .i64 ((0 : Nat) : Int) from rfl, hloop, exB_same]
 exact z1
end
theorem u22 : Try.prog.underlying 22 = some (.slice 23) := by kernel_rfl
theorem u23 : Try.prog.underlying 23 = some (.int .u16) := by kernel_rfl
theorem c23 : Try.prog.cellsOf 23 = 1 := by kernel_rfl
theorem u16_nat {n : Int} (h : (Lit.int .u16 n).wf = true) : ∃ k : Nat, n = (k : Int) := by
 unfold Lit.wf at h
 simp only [Bool.and_eq_true, decide_eq_true_eq] at h
 have e1 : IntKind.u16.min = 0 := by decide
 rw [e1] at h
 exact ⟨n.toNat, by omega⟩
theorem mapM_range_some {α : Type} {f : Nat → Option α} : ∀ (n k : Nat) {r : List α}, ((List.range' k n).mapM f) = some r → r.length = n ∧ ∀ i, i < n → ∃ y, r[i]? = some y ∧ f (k + i) = some y
 | 0, k, r, h => by
  simp at h; subst h
  exact ⟨rfl, fun i hi => by omega⟩
 | n + 1, k, r, h => by
  rw [List.range'_succ, List.mapM_cons] at h
  simp only [Option.bind_eq_bind, oI, Option.pure_def, oS] at h
  obtain ⟨y, hy, r', hr', rfl⟩ := h
  obtain ⟨h1, h2⟩ := mapM_range_some n (k + 1) hr'
  refine ⟨by simp [h1], fun i hi => ?_⟩
  cases i with
  | zero => exact ⟨y, rfl, hy⟩
  | succ i =>
   obtain ⟨z, hz1, hz2⟩ := h2 i (by omega)
   exact ⟨z, by simpa using hz1, by rw [show k + (i + 1) = k + 1 + i by omega]; exact hz2⟩
theorem cells?_at {W : World} {a : Addr} {n : Nat} {cs : List Value} (h : W.cells? 0 a n = some cs) : cs.length = n ∧ ∀ i, i < n → ∃ y, cs[i]? = some y ∧ W.cell? (a.add i) = some y := by
 unfold World.cells? at h
 rw [if_pos (Nat.zero_le _), List.range_eq_range'] at h
 obtain ⟨h1, h2⟩ := mapM_range_some n 0 h
 exact ⟨h1, fun i hi => by
  obtain ⟨y, hy1, hy2⟩ := h2 i hi
  exact ⟨y, hy1, by rw [Nat.zero_add] at hy2; exact hy2⟩⟩
theorem add_eq {a : Addr} (h : a.spot = none) (n : Nat) : a.add n = ⟨a.block, a.off + n, none⟩ := by
 unfold Addr.add
 split
 · rename_i h0
   subst h0
   cases a
   simp only at h
   subst h
   rfl
 · rfl
theorem vrels_nums {ρ : Rho} : ∀ l : List Nat, VRels ρ (l.map fun n : Nat => V.int .u16 (n : Int)) (l.map fun c : Nat => Value.int .u16 (c : Int))
 | [] => .nil
 | _ :: l => .cons (.int _ _) (vrels_nums l)
theorem flat_nums (l : List Nat) : ((l.map fun c : Nat => Value.int .u16 (c : Int)).flatMap fun cv => cv.cells.toList) = l.map fun c : Nat => Value.int .u16 (c : Int) := by
 induction l with
 | nil => rfl
 | cons c l ih => rw [List.map_cons, List.flatMap_cons, ih]; rfl
theorem pick_nums {P : Nat → Nat → Prop} : ∀ (n : Nat), (∀ i, i < n → ∃ b, P i b) → ∃ l : List Nat, l.length = n ∧ ∀ i b, l[i]? = some b → P i b
 | 0, _ => ⟨[], rfl, fun i b h => by simp at h⟩
 | n + 1, h => by
  obtain ⟨l, h1, h2⟩ := pick_nums n fun i hi => h i (by omega)
  obtain ⟨b, hb⟩ := h n (by omega)
  refine ⟨l ++ [b], by simp [h1], fun i c hc => ?_⟩
  by_cases hi : i < n
  · rw [List.getElem?_append_left (by omega)] at hc
    exact h2 i c hc
  · have hi2 : i = n := by
     have := (List.getElem?_eq_some_iff.1 hc).1
     simp [h1] at this
     omega
    subst hi2
    rw [List.getElem?_append_right (by omega)] at hc
    simp [h1] at hc
    subst hc
    exact hb
theorem nums_of_trod {H : Type} {enc : TypeId × Value → H} {W : World} {fuel : Nat} {cs : List Value} {x : DataW H × List MemPlace} (h : DataW.trod enc Try.prog W 0 (fun _ => true) true fuel 22 cs = some x) : ∃ (cv : Value) (v : V) (l : List Nat), cs = [cv] ∧ VRel (frz W) v cv ∧ U16V v l ∧ ∃ ad len cap, cv = .slice ad len cap := by
 rcases DataW.trod_slice u22 h with ⟨hv, _⟩ | ⟨a, len, cap, elems, rest, m, hm, hv, _, _, hcap, hmax, hel, hat, _⟩
 · exact ⟨_, .nilslice, [], hv, .nilslice, .inl ⟨rfl, .inl rfl⟩, _, _, _, rfl⟩
 · by_cases h0 : len = 0
   · subst h0
     exact ⟨_, .eslice, [], hv, .eslice a cap, .inl ⟨rfl, .inr rfl⟩, _, _, _, rfl⟩
   · have hAt : ∀ i, i < len → ∃ b : Nat, W.cell? (a.add i) = some (.int .u16 (b : Int)) := fun i hi => by
      have := hat i hi
      rw [c23, List.getElem?_eq_getElem (by omega), oI] at this
      obtain ⟨cells, h1, h2⟩ := this
      obtain ⟨n, hn, _, hw⟩ := DataW.trod_int u23 h2
      obtain ⟨b, rfl⟩ := u16_nat hw
      obtain ⟨_, h3⟩ := cells?_at h1
      obtain ⟨y, hy1, hy2⟩ := h3 0 (by omega)
      rw [hn] at hy1
      simp only [List.getElem?_cons_zero, oS] at hy1
      subst hy1
      rw [Nat.mul_one, show (a.add i).add 0 = a.add i from rfl] at hy2
      exact ⟨b, hy2⟩
     obtain ⟨b0, hb0⟩ := hAt 0 (by omega)
     have hspot : a.spot = none ∧ ∃ bg ty fr, W.heap[a.block]? = some (.cells bg ty fr) := by
      rw [show a.add 0 = a from rfl] at hb0
      unfold World.cell? at hb0
      split at hb0
      · rename_i bg ty fr hh
        split at hb0
        · cases hb0
        · rename_i hsp
          exact ⟨by simpa using hsp, bg, ty, fr, hh⟩
      · cases hb0
     obtain ⟨hsp, bg, ty, fr, hheap⟩ := hspot
     obtain ⟨l, l1, l2⟩ := pick_nums (P := fun i b => bg[a.off + i]? = some (.int .u16 (b : Int))) len fun i hi => by
      obtain ⟨b, hb⟩ := hAt i hi
      rw [add_eq hsp] at hb
      unfold World.cell? at hb
      simp only at hb
      rw [hheap] at hb
      exact ⟨b, hb⟩
     refine ⟨_, .list 1 (l.map fun n : Nat => V.int .u16 (n : Int)), l, hv, ?_, .inr rfl, _, _, _, rfl⟩
     refine .list (vrels_nums l) (fun v hv => ?_) (by rw [List.length_map]; exact l1) hcap fun _ => ⟨fun cv hcv => ?_, hsp, bg, ty, fr, hheap, fun j c hj => ?_⟩
     · rw [List.mem_map] at hv
       obtain ⟨c, _, rfl⟩ := hv
       rfl
     · rw [List.mem_map] at hcv
       obtain ⟨c, _, rfl⟩ := hcv
       rfl
     · rw [flat_nums, List.getElem?_map, Option.map_eq_some_iff] at hj
       obtain ⟨b, hb, rfl⟩ := hj
       exact l2 j b hb
theorem more_calls (W : World) {v0 : V} {cv : Value} {l : List Nat} (hv : VRel (frz W) v0 cv) (h : U16V v0 l) (A B : Nat) : Calls Try.prog 4 #[cv, .int .u16 (A : Int), .int .u16 (B : Int)] W fun e w' => e = .returned (.bool true) ∧ Below W.heap.size W w' := by
 obtain ⟨U, hl⟩ := more_run (S := s0) rfl h A B
 refine ((ev_sim E0_ok okD 24).call (base0 W) _ s0 W 4 [v0, .int .u16 (A : Int), .int .u16 (B : Int)] #[cv, .int .u16 (A : Int), .int .u16 (B : Int)] _ U (relF W) (.cons hv (.cons (.int _ _) (.cons (.int _ _) .nil))) hl).mono fun ce w' hce => ?_
 obtain ⟨ρ', cv, rfl, _, hv, hR⟩ := hce
 cases hv
 exact ⟨rfl, below_of_rel hR⟩
end Go.Proofs.Ytginkdeicmdmaaa.W
