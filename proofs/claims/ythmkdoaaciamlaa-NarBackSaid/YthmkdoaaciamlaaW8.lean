/-
  WHAT THE FUNCTIONS COME TO: each is read by the evaluator, printed, and told as a function of data, part 8 of 13 (no condition).
-/
import Derived.Test.YthmkdoaaciamlaaW7
import Derived.WalkKit
import Derived.ProofKit
import Derived.OpenShut
namespace Go.Proofs.Ythmkdoaaciamlaa.W
open Go.Proofs.Ythmkdoaaciamlaa.Ev
def frz (W : World) : Rho := ⟨fun _ => none, fun k => W.heap[k]?⟩
theorem u24 : ∃ f0 f1 f2 f3 f4 : Field, Try.prog.underlying 24 = some (.struct #[f0, f1, f2, f3, f4]) ∧ (f0.type = 9 ∧ f0.offset = 0) ∧ (f1.type = 3 ∧ f1.offset = 1) ∧ (f2.type = 4 ∧ f2.offset = 2) ∧ (f3.type = 9 ∧ f3.offset = 3) ∧ (f4.type = 22 ∧ f4.offset = 4) :=
 ⟨_, _, _, _, _, Try.underlying24, ⟨rfl, rfl⟩, ⟨rfl, rfl⟩, ⟨rfl, rfl⟩, ⟨rfl, rfl⟩, ⟨rfl, rfl⟩⟩
theorem u22 : Try.prog.underlying 22 = some (.slice 24) := by kernel_rfl
theorem u9 : Try.prog.underlying 9 = some .string := by kernel_rfl
theorem u3 : Try.prog.underlying 3 = some (.int .i64) := by kernel_rfl
theorem u4 : Try.prog.underlying 4 = some .bool := by kernel_rfl
theorem c24 : Try.prog.cellsOf 24 = 5 := by kernel_rfl
theorem c9 : Try.prog.cellsOf 9 = 1 := by kernel_rfl
theorem c3 : Try.prog.cellsOf 3 = 1 := by kernel_rfl
theorem c4 : Try.prog.cellsOf 4 = 1 := by kernel_rfl
theorem c22 : Try.prog.cellsOf 22 = 1 := by kernel_rfl
mutual
def AllOk : Rw → Prop
 | .mk n k _ _ _ l => n.length < 9223372036854775808 ∧ (-9223372036854775808 ≤ k ∧ k < 9223372036854775808) ∧ AllOks l
def AllOks : List Rw → Prop
 | [] => True
 | x :: l => AllOk x ∧ AllOks l
end
theorem allOks_iff : ∀ l : List Rw, AllOks l ↔ ∀ x ∈ l, AllOk x
 | [] => by simp [AllOks]
 | x :: l => by simp [AllOks, allOks_iff l]
theorem allOk_deep : ∀ (d : Nat) (x : Rw), AllOk x → DeepOk d x
 | 0, .mk n k e a f l, h => by rw [AllOk] at h; exact ⟨h.1, h.2.1⟩
 | d + 1, .mk n k e a f l, h => by
  rw [AllOk] at h
  refine ⟨⟨h.1, h.2.1⟩, fun y hy => ?_⟩
  cases f with
  | nil => cases hy
  | empty => cases hy
  | list => exact allOk_deep d y ((allOks_iff l).1 h.2.2 y hy)
theorem mapM_range_some {α : Type} {f : Nat → Option α} : ∀ (n k : Nat) {r : List α}, ((List.range' k n).mapM f) = some r → r.length = n ∧ ∀ i, i < n → ∃ y, r[i]? = some y ∧ f (k + i) = some y
 | 0, k, r, h => by
  simp at h; subst h
  exact ⟨rfl, fun i hi => by omega⟩
 | n + 1, k, r, h => by
  rw [List.range'_succ, List.mapM_cons] at h
  simp only [Option.bind_eq_bind, oI, Option.pure_def, oS] at h
  obtain ⟨y, hy, r', hr', rfl⟩ := h
  obtain ⟨h1, h2⟩ := mapM_range_some n (k + 1) hr'
  refine ⟨by simp [h1], fun i hi => ?_⟩
  cases i with
  | zero => exact ⟨y, rfl, hy⟩
  | succ i =>
   obtain ⟨z, hz1, hz2⟩ := h2 i (by omega)
   exact ⟨z, by simpa using hz1, by rw [show k + (i + 1) = k + 1 + i by omega]; exact hz2⟩
theorem cells?_at {W : World} {a : Addr} {n : Nat} {cs : List Value} (h : W.cells? 0 a n = some cs) : cs.length = n ∧ ∀ i, i < n → ∃ y, cs[i]? = some y ∧ W.cell? (a.add i) = some y := by
 unfold World.cells? at h
 rw [if_pos (Nat.zero_le _), List.range_eq_range'] at h
 obtain ⟨h1, h2⟩ := mapM_range_some n 0 h
 exact ⟨h1, fun i hi => by
  obtain ⟨y, hy1, hy2⟩ := h2 i hi
  exact ⟨y, hy1, by rw [Nat.zero_add] at hy2; exact hy2⟩⟩
theorem add_eq {a : Addr} (h : a.spot = none) (n : Nat) : a.add n = ⟨a.block, a.off + n, none⟩ := by
 unfold Addr.add
 split
 · rename_i h0
   subst h0
   cases a
   simp only at h
   subst h
   rfl
 · rfl
theorem build {P : Nat → Rw → List Value → Prop} : ∀ (n : Nat), (∀ i, i < n → ∃ r c, P i r c) → ∃ (rs : List Rw) (cs : List (List Value)), rs.length = n ∧ cs.length = n ∧ ∀ i r c, rs[i]? = some r → cs[i]? = some c → P i r c
 | 0, _ => ⟨[], [], rfl, rfl, fun i r c h => by simp at h⟩
 | n + 1, h => by
  obtain ⟨rs, cs, h1, h2, h3⟩ := build n fun i hi => h i (by omega)
  obtain ⟨r, c, hrc⟩ := h n (by omega)
  refine ⟨rs ++ [r], cs ++ [c], by simp [h1], by simp [h2], fun i r' c' hr hc => ?_⟩
  by_cases hi : i < n
  · rw [List.getElem?_append_left (by omega)] at hr hc
    exact h3 i r' c' hr hc
  · have hi2 : i = n := by
     have := (List.getElem?_eq_some_iff.1 hr).1
     simp [h1] at this
     omega
    subst hi2
    rw [List.getElem?_append_right (by omega)] at hr hc
    simp [h1] at hr
    simp [h2] at hc
    subst hr; subst hc
    exact hrc
theorem vrels_of {ρ : Rho} : ∀ (l : List V) (m : List Value), l.length = m.length → (∀ (i : Nat) v cv, l[i]? = some v → m[i]? = some cv → VRel ρ v cv) → VRels ρ l m
 | [], [], _, _ => .nil
 | [], _ :: _, h, _ => by simp at h
 | _ :: _, [], h, _ => by simp at h
 | v :: l, c :: m, h, hr => .cons (hr 0 v c rfl rfl) (vrels_of l m (by simpa using h) fun i v cv h1 h2 => hr (i + 1) v cv (by simpa using h1) (by simpa using h2))
theorem flat_lies {big : Array Value} : ∀ (cs : List (List Value)) (off : Nat), (∀ (i : Nat) c, cs[i]? = some c → c.length = 5 ∧ ∀ (k : Nat) x, c[k]? = some x → big[off + i * 5 + k]? = some x) → ∀ (j : Nat) x, (cs.flatMap fun c => (Value.agg c.toArray).cells.toList)[j]? = some x → big[off + j]? = some x
 | [], off, _, j, x, h => by simp at h
 | c :: cs, off, hc, j, x, h => by
  obtain ⟨h1, h2⟩ := hc 0 c rfl
  have e : (Value.agg c.toArray).cells.toList = c := by simp [Value.cells]
  rw [List.flatMap_cons, e] at h
  by_cases hj : j < 5
  · rw [List.getElem?_append_left (by omega)] at h
    have := h2 j x h
    rwa [Nat.zero_mul, Nat.add_zero] at this
  · rw [List.getElem?_append_right (by omega), h1] at h
    have := flat_lies cs (off + 5) (fun i d hd => by
     obtain ⟨k1, k2⟩ := hc (i + 1) d (by simpa using hd)
     exact ⟨k1, fun k y hy => by
      have := k2 k y hy
      rw [show off + (i + 1) * 5 + k = off + 5 + i * 5 + k by omega] at this
      exact this⟩) (j - 5) x h
    rwa [show off + 5 + (j - 5) = off + j by omega] at this
theorem vrel_node {W : World} (s d : ByteArray) (k : Int) (e : Bool) (f : KForm) (l : List Rw) (kc : Value) (h1 : oneC kc = true) (hk : VRel (frz W) (kform f (rwVs l)) kc) :
 VRel (frz W) (rwV (.mk s.data.toList k e d.data.toList f l)) (.agg #[.string s, .int .i64 k, .bool e, .string d, kc]) := by
 rw [rwV]
 refine .agg rfl (fun i cv hi => ?_) fun i v hi cv hc => ?_
 · match i, hi with
   | 0, hi => simp at hi; subst hi; rfl
   | 1, hi => simp at hi; subst hi; rfl
   | 2, hi => simp at hi; subst hi; rfl
   | 3, hi => simp at hi; subst hi; rfl
   | 4, hi => simp at hi; subst hi; exact h1
   | i + 5, hi => simp at hi
 · rw [vAgg_get] at hi
   match i, hi, hc with
   | 0, hi, hc => simp at hi hc; subst hi; subst hc; exact .str s
   | 1, hi, hc => simp at hi hc; subst hi; subst hc; exact .int _ _
   | 2, hi, hc => simp at hi hc; subst hi; subst hc; exact .bool _
   | 3, hi, hc => simp at hi hc; subst hi; subst hc; exact .str d
   | 4, hi, hc => simp at hi hc; subst hi; subst hc; exact hk
   | i + 5, hi, hc => simp at hi
theorem five {α : Type} {l : List α} (h : l.length = 5) : ∃ a b c d e, l = [a, b, c, d, e] := by
 match l, h with
 | [a, b, c, d, e], _ => exact ⟨a, b, c, d, e, rfl⟩
set_option maxRecDepth 100000 in
theorem node_of_trod {H : Type} {enc : TypeId × Value → H} {W : World} : ∀ (fuel : Nat) (cs : List Value) (x : DataW H × List MemPlace), DataW.trod enc Try.prog W 0 (fun _ => true) true fuel 24 cs = some x → ∃ r : Rw, VRel (frz W) (rwV r) (.agg cs.toArray) ∧ cs.length = 5 ∧ AllOk r
 | fuel, cs, x, h => by
  obtain ⟨f0, f1, f2, f3, f4, hu, ⟨t0, o0⟩, ⟨t1, o1⟩, ⟨t2, o2⟩, ⟨t3, o3⟩, ⟨t4, o4⟩⟩ := u24
  obtain ⟨xs, n, hfuel, _, hl, hxl, hf⟩ := DataW.trod_struct hu h
  rw [c24] at hl
  have hx5 : xs.length = 5 := hxl
  obtain ⟨v0, v1, v2, v3, v4, rfl⟩ := five hl
  · have g0 := hf 0 f0 rfl
    have g1 := hf 1 f1 rfl
    have g2 := hf 2 f2 rfl
    have g3 := hf 3 f3 rfl
    have g4 := hf 4 f4 rfl
    rw [t0, o0, c9, List.getElem?_eq_getElem (by omega)] at g0
    rw [t1, o1, c3, List.getElem?_eq_getElem (by omega)] at g1
    rw [t2, o2, c4, List.getElem?_eq_getElem (by omega)] at g2
    rw [t3, o3, c9, List.getElem?_eq_getElem (by omega)] at g3
    rw [t4, o4, c22, List.getElem?_eq_getElem (by omega)] at g4
    obtain ⟨s, hs, _, hsl⟩ := DataW.trod_string u9 g0
    obtain ⟨k, hk, _, hkw⟩ := DataW.trod_int u3 g1
    obtain ⟨e, he, _⟩ := DataW.trod_bool u4 g2
    obtain ⟨d, hd, _, hdl⟩ := DataW.trod_string u9 g3
    simp only [List.drop_zero, List.take_succ_cons, List.take_zero, List.cons.injEq, and_true, List.drop_succ_cons] at hs hk he hd
    subst hs; subst hk; subst he; subst hd
    have hkr : -9223372036854775808 ≤ k ∧ k < 9223372036854775808 := by
     unfold Lit.wf at hkw
     simp only [Bool.and_eq_true, decide_eq_true_eq] at hkw
     have e1 : IntKind.i64.min = -9223372036854775808 := by decide
     have e2 : IntKind.i64.max = 9223372036854775807 := by decide
     rw [e1, e2] at hkw
     omega
    have hsn : s.data.toList.length < 9223372036854775808 := by
     have : s.data.toList.length = s.size := by rw [Array.length_toList]; rfl
     unfold maxLen at hsl
     omega
    rcases DataW.trod_slice u22 g4 with ⟨hv4, _⟩ | ⟨a, len, cap, elems, rest, m, hm, hv4, _, _, hcap, _, hel, hat, _⟩
    · simp only [List.drop_succ_cons, List.drop_zero, List.take_succ_cons, List.take_zero, List.cons.injEq, and_true] at hv4
      subst hv4
      exact ⟨.mk s.data.toList k e d.data.toList .nil [], vrel_node s d k e .nil [] _ rfl .nilslice, rfl, by rw [AllOk]; exact ⟨hsn, hkr, trivial⟩⟩
    · simp only [List.drop_succ_cons, List.drop_zero, List.take_succ_cons, List.take_zero, List.cons.injEq, and_true] at hv4
      subst hv4
      by_cases h0 : len = 0
      · subst h0
        exact ⟨.mk s.data.toList k e d.data.toList .empty [], vrel_node s d k e .empty [] _ rfl (.eslice a cap), rfl, by rw [AllOk]; exact ⟨hsn, hkr, trivial⟩⟩
      · have hAt : ∀ i, i < len → ∃ cells y, W.cells? 0 (a.add (i * 5)) 5 = some cells ∧ DataW.trod enc Try.prog W 0 (fun _ => true) true m 24 cells = some y := fun i hi => by
         have := hat i hi
         rw [c24, List.getElem?_eq_getElem (by omega), oI] at this
         obtain ⟨cells, h1, h2⟩ := this
         exact ⟨cells, _, h1, h2⟩
        have hspot : a.spot = none ∧ ∃ bg ty fr, W.heap[a.block]? = some (.cells bg ty fr) := by
         obtain ⟨cells, y, h1, _⟩ := hAt 0 (by omega)
         obtain ⟨_, h2⟩ := cells?_at h1
         obtain ⟨z, _, hz⟩ := h2 0 (by omega)
         rw [Nat.zero_mul, show (a.add 0).add 0 = a from rfl] at hz
         unfold World.cell? at hz
         split at hz
         · rename_i bg ty fr hh
           split at hz
           · cases hz
           · rename_i hsp
             refine ⟨by simpa using hsp, bg, ty, fr, hh⟩
         · cases hz
        obtain ⟨hsp, bg, ty, fr, hheap⟩ := hspot
        obtain ⟨rs, cls, r1, r2, r3⟩ := build (P := fun i r c => VRel (frz W) (rwV r) (.agg c.toArray) ∧ AllOk r ∧ c.length = 5 ∧ ∀ (k : Nat) x, c[k]? = some x → bg[a.off + i * 5 + k]? = some x) len fun i hi => by
         obtain ⟨cells, y, h1, h2⟩ := hAt i hi
         have hlt : m < fuel := by omega
         obtain ⟨r, q1, q2, q3⟩ := node_of_trod m cells y h2
         refine ⟨r, cells, q1, q3, q2, fun k z hz => ?_⟩
         obtain ⟨_, h4⟩ := cells?_at h1
         have hk5 : k < 5 := by rw [← q2]; exact (List.getElem?_eq_some_iff.1 hz).1
         obtain ⟨z', hz1, hz2⟩ := h4 k hk5
         rw [hz] at hz1
         obtain rfl := Option.some.inj hz1
         rw [add_eq hsp, add_eq rfl] at hz2
         unfold World.cell? at hz2
         simp only at hz2
         rw [hheap] at hz2
         exact hz2
        have hlist : VRel (frz W) (.list 5 (rwVs rs)) (.slice (some a) len cap) := by
         refine .list (cl := cls.map fun c => .agg c.toArray) (vrels_of _ _ (by rw [rwVs_map, List.length_map, List.length_map, r1, r2]) fun i v cv h1 h2 => ?_) (fun v hv => ?_) (by rw [rwVs_map, List.length_map, r1]) hcap fun _ => ⟨fun cv hcv => ?_, hsp, bg, ty, fr, hheap, fun j c hj => ?_⟩
         · rw [rwVs_map, List.getElem?_map, Option.map_eq_some_iff] at h1
           rw [List.getElem?_map, Option.map_eq_some_iff] at h2
           obtain ⟨r, hr, rfl⟩ := h1
           obtain ⟨c, hc, rfl⟩ := h2
           exact (r3 i r c hr hc).1
         · rw [rwVs_map, List.mem_map] at hv
           obtain ⟨r, _, rfl⟩ := hv
           rw [rwV_cells]; rfl
         · rw [List.mem_map] at hcv
           obtain ⟨c, hc, rfl⟩ := hcv
           obtain ⟨i, hi⟩ := List.getElem?_of_mem hc
           have hlt := (List.getElem?_eq_some_iff.1 hi).1
           have := (r3 i rs[i] c (List.getElem?_eq_getElem (by omega)) hi).2.2.1
           simp [Value.cells, this]
         · rw [List.flatMap_map] at hj
           exact flat_lies cls a.off (fun i c hc => by
            have hlt := (List.getElem?_eq_some_iff.1 hc).1
            exact (r3 i rs[i] c (List.getElem?_eq_getElem (by omega)) hc).2.2) j c hj
        refine ⟨.mk s.data.toList k e d.data.toList .list rs, vrel_node s d k e .list rs _ rfl hlist, rfl, ?_⟩
        rw [AllOk]
        refine ⟨hsn, hkr, (allOks_iff rs).2 fun r hr => ?_⟩
        obtain ⟨i, hi⟩ := List.getElem?_of_mem hr
        have hlt := (List.getElem?_eq_some_iff.1 hi).1
        exact (r3 i r cls[i] hi (List.getElem?_eq_getElem (by omega))).2.1
termination_by fuel => fuel
end Go.Proofs.Ythmkdoaaciamlaa.W
namespace Go.Proofs.Ythmkdoaaciamlaa.W
open Go.Proofs.Ythmkdoaaciamlaa.Ev Go.RowKit
theorem glob0 : ∀ g, E0.glob.get g = none := fun _ => rfl
theorem works_runs : saysTrue ((ev E0 (fun _ => none) 400).f 11 [] s0) = true := by decide +kernel
noncomputable def kfTrue : KF := specKF (fun _ : Unit => []) (fun _ => En.ret (.bool true))
theorem kfTrue_run (S : St) : kfTrue.run [] S = some (.ret (.bool true), S) := specKF_run (enc := fun _ : Unit => []) (out := fun _ => En.ret (.bool true)) (fun _ _ _ => rfl) () S
theorem kn11 : KnWell Try.prog E0 11 kfTrue := by
 refine ⟨specKF_loc, fun w0 ρ s w args cargs e t hR hv hg => ?_⟩
 unfold kfTrue specKF at hg
 simp only at hg
 by_cases hx : ∃ x : Unit, ([] : List V) = args
 · rw [dif_pos hx] at hg
   simp only [oS, pM] at hg
   obtain ⟨rfl, rfl⟩ := hg
   obtain ⟨_, rfl⟩ := hx
   obtain ⟨l⟩ := cargs
   cases hv
   exact (closed_walk E0_ok knOk_nil glob0 works_runs w).mono fun ce w' ⟨h1, h2⟩ => ⟨ρ, .bool true, h1, Rho.le_refl ρ, .bool true, hR.grown h2⟩
 · rw [dif_neg hx] at hg; cases hg
noncomputable def K1 := knAdd (knAdd (fun _ => none) 70 kfDeep) 57 kfDeep
theorem ok1 : KnOk Try.prog E0 K1 := (knOk_nil.add (kn70 knOk_nil)).add (kn57 (knOk_nil.add (kn70 knOk_nil)))
noncomputable def K2 := knAdd (knAdd K1 58 (kfNode gDeep)) 34 (kfNode gDeep)
theorem ok2 : KnOk Try.prog E0 K2 := (ok1.add (kn58 ok1 rfl)).add (kn34 (ok1.add (kn58 ok1 rfl)) rfl)
noncomputable def K3 := knAdd K2 35 (kfNode gTooDeep)
theorem ok3 : KnOk Try.prog E0 K3 := ok2.add (kn35 ok2 rfl)
noncomputable def K4 := knAdd K3 38 (kfNode gSize)
theorem ok4 : KnOk Try.prog E0 K4 := ok3.add (kn38 ok3 rfl)
noncomputable def K5 := knAdd K4 17 (kfNode gSizeT)
theorem ok5 : KnOk Try.prog E0 K5 := ok4.add (kn17 ok4 rfl rfl)
noncomputable def K6 := knAdd K5 45 (kfNode gSizeT)
theorem ok6 : KnOk Try.prog E0 K6 := ok5.add (kn45 ok5 rfl)
noncomputable def K7 := knAdd K6 68 (kfText gName)
theorem ok7 : KnOk Try.prog E0 K7 := ok6.add (kn68 ok6)
noncomputable def K8 := knAdd K7 44 (kfNode gMay)
theorem ok8 : KnOk Try.prog E0 K8 := ok7.add (kn44 ok7 rfl)
noncomputable def K9 := knAdd K8 63 kfIndexByte
theorem ok9 : KnOk Try.prog E0 K9 := ok8.add (kn63 ok8 rfl)
noncomputable def K10 := knAdd K9 78 kfIndexRune
theorem ok10 : KnOk Try.prog E0 K10 := ok9.add (kn78 ok9 rfl rfl)
noncomputable def K11 := knAdd K10 74 kfAny
theorem ok11 : KnOk Try.prog E0 K11 := ok10.add (kn74 ok10 rfl rfl rfl rfl rfl)
noncomputable def K12 := knAdd K11 66 (kfText gName)
theorem ok12 : KnOk Try.prog E0 K12 := ok11.add (kn66 ok11 rfl)
noncomputable def K13 := knAdd K12 36 (kfNode gMay)
theorem ok13 : KnOk Try.prog E0 K13 := ok12.add (kn36 ok12 rfl rfl rfl rfl rfl rfl rfl rfl rfl rfl rfl)
noncomputable def K14 := knAdd K13 15 (kfNode gCheck)
theorem ok14 : KnOk Try.prog E0 K14 := ok13.add (kn15 ok13 rfl rfl rfl)
noncomputable def K15 := knAdd K14 21 (kfNode gCheck)
theorem ok15 : KnOk Try.prog E0 K15 := ok14.add (kn21 ok14 rfl rfl rfl)
noncomputable def K16 := knAdd K15 46 kf46
theorem ok16 : KnOk Try.prog E0 K16 := ok15.add (kn46 ok15 rfl)
noncomputable def K17 := knAdd K16 23 kfPutText
theorem ok17 : KnOk Try.prog E0 K17 := ok16.add (kn23 ok16 rfl rfl)
noncomputable def K18 := knAdd K17 40 kf46
theorem ok18 : KnOk Try.prog E0 K18 := ok17.add (kn40 ok17)
noncomputable def K19 := knAdd K18 19 kfPutText
theorem ok19 : KnOk Try.prog E0 K19 := ok18.add (kn19 ok18 rfl)
noncomputable def K20 := knAdd K19 22 kfLay
theorem ok20 : KnOk Try.prog E0 K20 := ok19.add (kn22 ok19 rfl rfl)
noncomputable def K21 := knAdd K20 10 (kfNode gEncode)
theorem ok21 : KnOk Try.prog E0 K21 := ok20.add (kn10 ok20 rfl rfl rfl)
noncomputable def K22 := knAdd K21 9 (kfNode gEncode)
theorem ok22 : KnOk Try.prog E0 K22 := ok21.add (kn9 ok21 rfl rfl rfl rfl rfl rfl rfl)
noncomputable def K23 := knAdd K22 8 kfShort
theorem ok23 : KnOk Try.prog E0 K23 := ok22.add (kn8 ok22)
noncomputable def K24 := knAdd K23 11 kfTrue
theorem ok24 : KnOk Try.prog E0 K24 := ok23.add kn11
theorem relF (W : World) : Rel E0 (base0 W) (frz W) s0 W :=
 ⟨⟨rfl, rfl, rfl, Nat.le_refl _, fun _ _ => rfl⟩, fun _ _ => rfl, Nat.le_refl _, fun b o h => by simp [s0, Tr.get_nil] at h, fun b b' o o' cb sh sz sh' sz' h => by simp [s0, Tr.get_nil] at h, fun g b h => (by rw [glob0] at h; cases h), fun k o h => h, fun b o cb sh sz h => (by simp [s0, Tr.get_nil] at h), fun k o h _ => trivial⟩
end Go.Proofs.Ythmkdoaaciamlaa.W
namespace Go.Proofs.Ythmkdoaaciamlaa.W
open Go.Proofs.Ythmkdoaaciamlaa.Ev
structure RSt where
 left : List UInt8
 lost : Bool
noncomputable def rdO (q : RSt) : O := bxO 62 [sv q.left, .bool q.lost]
theorem rdO_inj {p q : RSt} (h : rdO p = rdO q) : p = q := by
 have h := bxO_inj h
 simp only [List.cons.injEq, V.bool.injEq, and_true] at h
 cases p; cases q
 simp only at h
 rw [sv_inj h.1, h.2]
structure RdAt (s : St) (b : Nat) (q : RSt) : Prop where
 on : s.on = false
 bx : Bx s b 62 [sv q.left, .bool q.lost]
theorem set_two0 (x y v : V) : (Tr.ofListFrom .nil [x, y] 0).set v 0 = Tr.ofListFrom .nil [v, y] 0 := by kernel_rfl
theorem set_two1 (x y v : V) : (Tr.ofListFrom .nil [x, y] 0).set v 1 = Tr.ofListFrom .nil [x, v] 0 := by kernel_rfl
section
variable {s : St}
theorem bx_st0 (ho : s.on = false) {b e : Nat} {x y v : V} (h : Bx s b e [x, y]) (h1 : v.size = 1) (h2 : v.cells = one v) (h3 : isTuple v = false) : stP 1 (.ptr b 0) v s = some (.tuple [], s.put b (bxO e [v, y])) := by
 show vu (bif Nat.beq v.size 1 && !isTuple v then stK s b 0 1 v.cells else none) = _
 rw [h1, h2, h3]
 have hst : stK s b 0 1 (one v) = some (s.put b (bxO e [v, y])) := by
  unfold stK
  rw [h]
  simp only [List.length_cons, List.length_nil, show Nat.ble (0 + 1) (2 * 1) = true from rfl, blt_true.2 (show 2 * 1 < big by unfold big; decide), Bool.and_self, Bool.not_false, cond_true]
  unfold elemTo
  rw [show Nat.beq 1 (0 + 1 + 1) = false from rfl]
  have hv0 : (one v).get 0 = some v := rfl
  simp only [Bool.false_and, cond_false, cellsTo, Tr.setC_eq, hv0, oB, Nat.add_zero, show 0 / (0 + 1 + 1) = 0 from rfl, show 0 % (0 + 1 + 1) = 0 from rfl]
  rw [Tr.get_ofList]
  simp only [List.getElem?_cons_zero, oB, set_two0, set_one, note_off ho]
  rfl
 rw [hst]; rfl
theorem bx_st1 (ho : s.on = false) {b e : Nat} {x y v : V} (h : Bx s b e [x, y]) (h1 : v.size = 1) (h2 : v.cells = one v) (h3 : isTuple v = false) : stP 1 (.ptr b 1) v s = some (.tuple [], s.put b (bxO e [x, v])) := by
 show vu (bif Nat.beq v.size 1 && !isTuple v then stK s b 1 1 v.cells else none) = _
 rw [h1, h2, h3]
 have hst : stK s b 1 1 (one v) = some (s.put b (bxO e [x, v])) := by
  unfold stK
  rw [h]
  simp only [List.length_cons, List.length_nil, show Nat.ble (1 + 1) (2 * 1) = true from rfl, blt_true.2 (show 2 * 1 < big by unfold big; decide), Bool.and_self, Bool.not_false, cond_true]
  unfold elemTo
  rw [show Nat.beq 1 (0 + 1 + 1) = false from rfl]
  have hv0 : (one v).get 0 = some v := rfl
  simp only [Bool.false_and, cond_false, cellsTo, Tr.setC_eq, hv0, oB, Nat.add_zero, show 1 / (0 + 1 + 1) = 0 from rfl, show 1 % (0 + 1 + 1) = 1 from rfl]
  rw [Tr.get_ofList]
  simp only [List.getElem?_cons_zero, oB, set_two1, set_one, note_off ho]
  rfl
 rw [hst]; rfl
theorem bx_put (b e : Nat) (l : List V) : Bx (s.put b (bxO e l)) b e l := by
 show (s.put b (bxO e l)).heap.get b = some (bxO e l)
 rw [put_get, if_pos rfl]
theorem big2 : 2 < big := by unfold big; decide
variable {b : Nat} {q : RSt}
theorem RdAt.ld0 (h : RdAt s b q) : ld1 (.ptr b 0) s = some (sv q.left, s) := Bx.ld1 h.on h.bx 0 (by show 0 < 2; decide) big2
theorem RdAt.ldl (h : RdAt s b q) : ld1 (.ptr b 1) s = some (.bool q.lost, s) := Bx.ld1 h.on h.bx 1 (by show 1 < 2; decide) big2
theorem RdAt.o0 (h : RdAt s b q) : ld1 (.ptr b 0) (onS s) = some (sv q.left, rd s b 0 1) := Bx.ld1On h.on h.bx 0 (by show 0 < 2; decide) big2
theorem RdAt.ol (h : RdAt s b q) : ld1 (.ptr b 1) (onS s) = some (.bool q.lost, rd s b 1 1) := Bx.ld1On h.on h.bx 1 (by show 1 < 2; decide) big2
theorem RdAt.grew {W : Nat → Prop} {u : St} (h : RdAt s b q) (hb : b < s.next) (hw : ¬ W b) (g : Grew W s u) : RdAt u b q := ⟨g.on.trans h.on, h.bx.grew hb hw g⟩
theorem RdAt.put (h : s.on = false) (b : Nat) (q : RSt) : RdAt (s.put b (rdO q)) b q := ⟨h, bx_put b 62 _⟩
theorem RdAt.st0 (h : RdAt s b q) (u : List UInt8) : stP 1 (.ptr b 0) (sv u) s = some (.tuple [], s.put b (rdO ⟨u, q.lost⟩)) := bx_st0 h.on h.bx rfl rfl rfl
theorem RdAt.st1 (h : RdAt s b q) (u : Bool) : stP 1 (.ptr b 1) (.bool u) s = some (.tuple [], s.put b (rdO ⟨q.left, u⟩)) := bx_st1 h.on h.bx rfl rfl rfl
theorem relog_onS (h : s.on = false) (ls : List (List LE)) : relog s (onS s) ls = s := by
 unfold relog
 rw [h]
 cases s
 simp only at h
 subst h
 rfl
end
structure RIn where
 b : Nat
 q : RSt
 fit : q.left.length < 100000000
noncomputable def encR (x : RIn) : List V := [.ptr x.b 0]
noncomputable def preR (x : RIn) : List (Nat × O) := [(x.b, rdO x.q)]
noncomputable def postR (nx : RSt → RSt) (x : RIn) : List (Nat × O) := [(x.b, rdO (nx x.q))]
theorem effU_R : EffU encR preR := fun x y s h1 h2 h3 => by
 simp only [encR, List.cons.injEq, V.ptr.injEq, and_true] at h1
 have h2 := h2 (x.b, rdO x.q) (List.mem_singleton.2 rfl)
 have h3 := h3 (y.b, rdO y.q) (List.mem_singleton.2 rfl)
 simp only at h2 h3
 rw [h1, h3] at h2
 simp only [oS] at h2
 have := rdO_inj h2
 cases x; cases y
 simp only at h1 this
 subst h1 this
 rfl
noncomputable def kfR (o : RSt → V) (nx : RSt → RSt) : KF := effKF encR preR (postR nx) fun x => .ret (o x.q)
theorem rdO_under (N : Nat) (q : RSt) : OUnder N (rdO q) := bxO_under fun v hv => by
 simp only [List.mem_cons, List.not_mem_nil, or_false] at hv
 rcases hv with rfl | rfl
 · exact under_sv _
 · exact .bool _
theorem kfR_run {o : RSt → V} {nx : RSt → RSt} {S : St} {b : Nat} {q : RSt} (hB : RdAt S b q) (fit : q.left.length < 100000000) : ∃ S', (kfR o nx).run [.ptr b 0] S = some (.ret (o q), S') ∧ RdAt S' b (nx q) ∧ Grew (fun x => x = b) S S' ∧ S'.next = S.next :=
 ⟨S.put b (rdO (nx q)), effKF_run (enc := encR) (pre := preR) (post := postR nx) (out := fun x => En.ret (o x.q)) effU_R hB.on ⟨b, q, fit⟩ (fun p hp => by
  rw [preR, List.mem_singleton] at hp
  subst hp
  exact hB.bx), RdAt.put hB.on b _, grew_put b _, rfl⟩
theorem knR {K : FuncId → Option KF} (hK : KnOk Try.prog E0 K) {f : FuncId} {fn : Func} {c : Code} {d : D} (o : RSt → V) (nx : RSt → RSt) (hu : ∀ N q, Under N (o q)) (hf : E0.fns.get f = some fn) (hb : fn.body = some c) (hd : isOf d c)
 (n : Nat) (h : ∀ b q S, q.left.length < 100000000 → b < S.next → RdAt S b q → ∃ S', runF E0 (ev E0 K n) rounds fn d [.ptr b 0] S = some (.ret (o q), S') ∧ RdAt S' b (nx q) ∧ Grew (fun x => x = b) S S') : KnWell Try.prog E0 f (kfR o nx) :=
 effKF_text effU_R (fun x N hx p hp => by
  rw [postR, List.mem_singleton] at hp
  subst hp
  exact ⟨hx (x.b, rdO x.q) (List.mem_singleton.2 rfl), rdO_under N _⟩) (fun x p hp => by
  rw [preR, List.mem_singleton] at hp
  subst hp
  rfl) E0_ok hK hf hb hd fun x S ho hh hl => by
  obtain ⟨S', h1, h2, h3⟩ := h x.b x.q S x.fit (hl (x.b, rdO x.q) (List.mem_singleton.2 rfl)) ⟨ho, hh (x.b, rdO x.q) (List.mem_singleton.2 rfl)⟩
  refine ⟨n, .ret (o x.q), S', h1, h3.mono fun y _ hy => ⟨(x.b, rdO (nx x.q)), List.mem_singleton.2 rfl, hy.symm⟩, fun p hp => ?_, Fz.same (hu _ _)⟩
  rw [postR, List.mem_singleton] at hp
  subst hp
  exact h2.bx
def losing (_ : RSt) : RSt := ⟨[], true⟩
noncomputable def kfLose : KF := kfR (fun _ => .tuple []) losing
theorem kn55 {K : FuncId → Option KF} (hK : KnOk Try.prog E0 K) : KnWell Try.prog E0 55 kfLose :=
 knR hK (fn := Try.f55) (c := C55) (d := B55) _ _ (fun _ _ => .tuple .nil) (by kernel_rfl) (by kernel_rfl) (annot_isOf C55 _ (by kernel_rfl)) 0 fun b q S fit hb hB => by
  refine ⟨(S.put b (rdO ⟨[], q.lost⟩)).put b (rdO ⟨[], true⟩), (?_ : F55 (ev E0 K 0) rounds (.ptr b 0) S = _), RdAt.put (s := S.put b (rdO ⟨[], q.lost⟩)) hB.on b ⟨[], true⟩, (grew_put b _).trans (grew_put b _)⟩
  rw [F55_eq, show nilCheckV (.ptr b 0) = some (.ptr b 0) from rfl, oB, faP_ptr, oB, Nat.zero_add, hB.st0, oB, oB, faP_ptr, oB, Nat.zero_add]
  dsimp only
  rw [(RdAt.put hB.on b ⟨[], q.lost⟩).st1 true, oB]
def numK (l : List UInt8) : Nat := (l.takeWhile fun c => decide (128 ≤ c.toNat)).length
def numV (l : List UInt8) (n : Nat) : Nat := l.foldl (fun n c => (128 * n + c.toNat % 128) % 18446744073709551616) n
def rNum (q : RSt) : Nat × RSt :=
 if q.left.length ≤ numK q.left ∨ 9 < numK q.left then (0, ⟨[], true⟩)
 else if digs (numV (q.left.take (numK q.left + 1)) 0) = q.left.take (numK q.left + 1) then (numV (q.left.take (numK q.left + 1)) 0, ⟨q.left.drop (numK q.left + 1), q.lost⟩) else (0, ⟨[], true⟩)
theorem numK_cons (c : UInt8) (l : List UInt8) : numK (c :: l) = if 128 ≤ c.toNat then numK l + 1 else 0 := by
 unfold numK
 rw [List.takeWhile_cons]
 by_cases h : 128 ≤ c.toNat
 · rw [decide_eq_true h, if_pos rfl, if_pos h]; rfl
 · rw [decide_eq_false h, if_neg (by simp), if_neg h]; rfl
theorem numK_le : ∀ l : List UInt8, numK l ≤ l.length
 | [] => Nat.le_refl _
 | c :: l => by
  rw [numK_cons, List.length_cons]
  have := numK_le l
  split <;> omega
theorem numV_lt : ∀ (l : List UInt8) (n : Nat), n < 18446744073709551616 → numV l n < 18446744073709551616
 | [], n, h => h
 | c :: l, n, _ => numV_lt l _ (Nat.mod_lt _ (by omega))
theorem wrapU (n : Nat) : IntKind.u64.wrap (n : Int) = ((n % 18446744073709551616 : Nat) : Int) := by
 show (n : Int) % (2 ^ 64 : Int) = _
 omega
theorem mod8 (c : UInt8) : IntKind.u64.wrap ((c.toNat : Int).tmod 128) = ((c.toNat % 128 : Nat) : Int) := by
 rw [Int.tmod_eq_emod_of_nonneg (by omega), show (c.toNat : Int) % 128 = ((c.toNat % 128 : Nat) : Int) by omega, wrap_u64 (by omega) (by omega)]
theorem L54k_spec (self : EV) (N : Nat) (nk : Ac → St → Rs) (ek : Nat → Ac → St → Rs) (b : Nat) (q : RSt) (fit : q.left.length < 100000000) (S : St) (hB : RdAt S b q) :
 ∀ (r : List UInt8) (i n : Nat), q.left.drop i = r → r.length < n →
 L54_66 self N nk ek n (.ptr b 0) (.int .i64 (i : Int)) S = ek 0 (fr 76 [(0, .ptr b 0), (3, .int .i64 ((i + numK r : Nat) : Int))]) S
 | r, i, 0, _, hn => by omega
 | [], i, n + 1, hi, hn => by
  rw [L54_66_eq]
  simp only [show nilCheckV (.ptr b 0) = some (.ptr b 0) from rfl, faP_ptr, Nat.zero_add, hB.ld0, lnStr_sv, oB, binV_ii, intsV_lss, dec_ge (drop_end hi), guardV_t, cond_false, pickV_bool, ifK_bool]
  rfl
 | c :: r, i, n + 1, hi, hn => by
  obtain ⟨hlt, hc, hr, _⟩ := drop_at hi
  rw [L54_66_eq]
  simp only [show nilCheckV (.ptr b 0) = some (.ptr b 0) from rfl, faP_ptr, Nat.zero_add, hB.ld0, lnStr_sv, oB, binV_ii, intsV_lss, dec_lt hlt, guardV_t, cond_true, pickV_bool]
  rw [ixS_sv _ _ i hlt, hc, oB, binV_ii, intsV_geq, oB, ifK_bool, numK_cons]
  by_cases h : 128 ≤ c.toNat
  · rw [decide_eq_true (show (128 : Int) ≤ (c.toNat : Int) by omega), cond_true, intsV_add, wrap_succ (by omega), oB, if_pos h]
    have := L54k_spec self N nk ek b q fit S hB r (i + 1) n hr (by simp at hn; omega)
    rw [this, show i + 1 + numK r = i + (numK r + 1) by omega]
  · rw [decide_eq_false (show ¬ (128 : Int) ≤ (c.toNat : Int) by omega), cond_false, if_neg h]
    rfl
theorem L54v_spec (self : EV) (N : Nat) (nk : Ac → St → Rs) (ek : Nat → Ac → St → Rs) (b : Nat) (q : RSt) (fit : q.left.length < 100000000) (S : St) (hB : RdAt S b q) (k : Nat) (hk : k < q.left.length) :
 ∀ (r : List UInt8) (i v n : Nat), (q.left.take (k + 1)).drop i = r → r.length < n → i ≤ k + 1 →
 L54_47 self N nk ek n (.ptr b 0) (.int .i64 (k : Int)) (.int .u64 (v : Int)) (.int .i64 (i : Int)) S = ek 2 (fr 76 [(0, .ptr b 0), (3, .int .i64 (k : Int)), (4, .int .u64 (numV r v : Int))]) S
 | r, i, v, 0, _, hn, _ => by omega
 | [], i, v, n + 1, hi, hn, hle => by
  have := drop_end hi
  rw [List.length_take] at this
  rw [L54_47_eq]
  simp only [binV_ii, intsV_leq, decide_eq_false (show ¬ (i : Int) ≤ (k : Int) by omega), oB, ifK_bool, cond_false]
  rfl
 | c :: r, i, v, n + 1, hi, hn, hle => by
  obtain ⟨hlt, hc, hr, _⟩ := drop_at hi
  rw [List.length_take] at hlt
  rw [List.getElem_take] at hc
  have hil : i < q.left.length := by omega
  rw [L54_47_eq]
  simp only [binV_ii, intsV_leq, decide_eq_true (show (i : Int) ≤ (k : Int) by omega), oB, ifK_bool, cond_true, intsV_mul, show nilCheckV (.ptr b 0) = some (.ptr b 0) from rfl, faP_ptr, Nat.zero_add, hB.ld0]
  rw [ixS_sv _ _ i hil, hc, oB, binV_ii, intsV_rem _ _ _ (by decide), oB, cvI_int, oB]
  dsimp only
  rw [mod8, show (128 : Int) * (v : Int) = ((128 * v : Nat) : Int) by omega, wrapU, binV_ii, intsV_add, show ((128 * v % 18446744073709551616 : Nat) : Int) + ((c.toNat % 128 : Nat) : Int) = ((128 * v % 18446744073709551616 + c.toNat % 128 : Nat) : Int) by omega, wrapU, oB, intsV_add, wrap_succ (by omega), oB]
  rw [show (128 * v % 18446744073709551616 + c.toNat % 128) % 18446744073709551616 = (128 * v + c.toNat % 128) % 18446744073709551616 by omega]
  exact L54v_spec self N nk ek b q fit S hB k hk r (i + 1) _ n hr (by simp at hn; omega) (by omega)
end Go.Proofs.Ythmkdoaaciamlaa.W
namespace Go.Proofs.Ythmkdoaaciamlaa.W
open Go.Proofs.Ythmkdoaaciamlaa.Ev
theorem rNum_left (q : RSt) : (rNum q).2.left.length ≤ q.left.length := by
 unfold rNum
 split
 · exact Nat.zero_le _
 · split
   · simp only [List.length_drop]; omega
   · exact Nat.zero_le _
theorem rNum_lt (q : RSt) : (rNum q).1 < 18446744073709551616 := by
 unfold rNum
 split
 · show 0 < _; omega
 · split
   · exact numV_lt _ _ (by omega)
   · show 0 < _; omega
noncomputable def kfNum : KF := kfR (fun q => .int .u64 ((rNum q).1 : Int)) fun q => (rNum q).2
theorem F54_spec {K : FuncId → Option KF} (h55 : K 55 = some kfLose) (h46 : K 46 = some kf46) (b : Nat) (q : RSt) (S : St) (fit : q.left.length < 100000000) (hB : RdAt S b q) :
 ∃ S', F54 (ev E0 K 1) rounds (.ptr b 0) S = some (.ret (.int .u64 ((rNum q).1 : Int)), S') ∧ RdAt S' b (rNum q).2 ∧ Grew (fun x => x = b) S S' := by
 have hkl := numK_le q.left
 have h1 := L54k_spec (ev E0 K 1) rounds (R54_2 (ev E0 K 1) rounds (finN E0 (ev E0 K 1) Try.f54) noEx) (exB 0 (R54_2 (ev E0 K 1) rounds (finN E0 (ev E0 K 1) Try.f54) noEx) noEx) b q fit S hB q.left 0 rounds rfl (by unfold rounds; omega)
 rw [show ((0 : Nat) : Int) = 0 from rfl, Nat.zero_add] at h1
 rw [F54_eq, h1, exB_same, R54_2_eq, show nilCheckV (.ptr b 0) = some (.ptr b 0) from rfl, oB, faP_ptr, oB, Nat.zero_add, hB.ld0, oB]
 dsimp only
 rw [lnStr_sv, oB]
 dsimp only
 rw [binV_ii, intsV_geq, oB, guardV_f, oB]
 have lose : ∃ S', callP ((ev E0 K 1).f 55 [.ptr b 0] S) (fun _ S15 => some (.ret (.int .u64 0), S15)) = some (.ret (.int .u64 0), S') ∧ RdAt S' b ⟨[], true⟩ ∧ Grew (fun x => x = b) S S' := by
  obtain ⟨S', k1, k2, k3, _⟩ := kfR_run (o := fun _ => .tuple []) (nx := losing) hB fit
  refine ⟨S', ?_, k2, k3⟩
  rw [ev_known h55]
  show callP (kfLose.run _ _) _ = _
  unfold kfLose
  rw [k1, callP_ret]
 by_cases hc1 : q.left.length ≤ numK q.left
 · obtain ⟨S', k1, k2, k3⟩ := lose
   refine ⟨S', ?_, ?_, k3⟩
   · rw [decide_eq_true (show (q.left.length : Int) ≤ (numK q.left : Int) by omega), Bool.not_true, cond_false, oB, oB, cond_false, oB, pickV_bool, cond_true, oB, ifK_bool, cond_true, k1]
     unfold rNum
     rw [if_pos (.inl hc1)]; rfl
   · unfold rNum
     rw [if_pos (.inl hc1)]; exact k2
 · rw [decide_eq_false (show ¬ (q.left.length : Int) ≤ (numK q.left : Int) by omega), Bool.not_false, cond_true, oB, oB, cond_true, binV_ii, intsV_gtr, oB, pickV_bool, cond_false, oB, ifK_bool]
   by_cases hc2 : 9 < numK q.left
   · obtain ⟨S', k1, k2, k3⟩ := lose
     refine ⟨S', ?_, ?_, k3⟩
     · rw [decide_eq_true (show (9 : Int) < (numK q.left : Int) by omega), cond_true, k1]
       unfold rNum
       rw [if_pos (.inr hc2)]; rfl
     · unfold rNum
       rw [if_pos (.inr hc2)]; exact k2
   · rw [decide_eq_false (show ¬ (9 : Int) < (numK q.left : Int) by omega), cond_false]
     have hlt : numK q.left < q.left.length := by omega
     have h2 := L54v_spec (ev E0 K 1) rounds (R54_18 (ev E0 K 1) rounds (fun a s => projK [2] a fun a => finN E0 (ev E0 K 1) Try.f54 a s) noEx) (exB 2 (R54_18 (ev E0 K 1) rounds (fun a s => projK [2] a fun a => finN E0 (ev E0 K 1) Try.f54 a s) noEx) noEx) b q fit S hB (numK q.left) hlt (q.left.take (numK q.left + 1)) 0 0 rounds (by rw [List.drop_zero]) (by rw [List.length_take]; unfold rounds; omega) (by omega)
     rw [show ((0 : Nat) : Int) = 0 from rfl] at h2
     have hv := numV_lt (q.left.take (numK q.left + 1)) 0 (by omega)
     have hnum : rNum q = if digs (numV (q.left.take (numK q.left + 1)) 0) = q.left.take (numK q.left + 1) then (numV (q.left.take (numK q.left + 1)) 0, ⟨q.left.drop (numK q.left + 1), q.lost⟩) else (0, ⟨[], true⟩) := by
      unfold rNum
      rw [if_neg (by omega)]
     generalize numV (q.left.take (numK q.left + 1)) 0 = v at h2 hv hnum
     rw [h2, exB_same, R54_18_eq, ev_known h46, show (sv []) = sv ([] : List UInt8) from rfl, kf46_run [] v hv (by simp), callD_ret, List.nil_append, show nilCheckV (.ptr b 0) = some (.ptr b 0) from rfl, oB, faP_ptr, oB, Nat.zero_add, onS_onS, hB.o0, oB, binV_ii, intsV_add, wrap_succ (by omega), oB]
     dsimp only
     rw [onS_rd, slice_sv und9 q.left (bounds_hi .i64 (by omega)) (by omega), oB]
     dsimp only
     rw [List.drop_zero, Nat.sub_zero, binV_ss, strOp_neq, oB, endP_sel (by rfl), onS_onS, relog_onS hB.on, ifK_bool]
     by_cases he : digs v = q.left.take (numK q.left + 1)
     · rw [if_pos he] at hnum
       rw [hnum, he, beq_self_eq_true, Bool.not_true, cond_false, oB, faP_ptr, oB, Nat.zero_add, hB.ld0, oB, oB]
       dsimp only
       rw [slice_sv und9 q.left (bounds_lo .i64 (by omega)) (by omega), oB]
       dsimp only
       rw [oB, faP_ptr, oB, Nat.zero_add, show (q.left.drop (numK q.left + 1)).take (q.left.length - (numK q.left + 1)) = q.left.drop (numK q.left + 1) by rw [List.take_of_length_le (by rw [List.length_drop]; omega)], hB.st0, oB]
       exact ⟨_, rfl, RdAt.put hB.on b _, grew_put b _⟩
     · rw [if_neg he] at hnum
       rw [hnum, beq_false_of_ne he, Bool.not_false, cond_true]
       exact lose
theorem kn54 {K : FuncId → Option KF} (hK : KnOk Try.prog E0 K) (h55 : K 55 = some kfLose) (h46 : K 46 = some kf46) : KnWell Try.prog E0 54 kfNum :=
 knR hK (fn := Try.f54) (c := C54) (d := B54) _ _ (fun _ _ => .int _ _) (by kernel_rfl) (by kernel_rfl) (annot_isOf C54 _ (by kernel_rfl)) 1 fun b q S fit _ hB => F54_spec h55 h46 b q S fit hB
def rText (q : RSt) : List UInt8 × RSt := if (rNum q).2.left.length < (rNum q).1 then ([], ⟨[], true⟩) else ((rNum q).2.left.take (rNum q).1, ⟨(rNum q).2.left.drop (rNum q).1, (rNum q).2.lost⟩)
theorem rText_left (q : RSt) : (rText q).2.left.length ≤ q.left.length := by
 have := rNum_left q
 unfold rText
 split
 · exact Nat.zero_le _
 · simp only [List.length_drop]; omega
theorem rText_len (q : RSt) : (rText q).1.length ≤ q.left.length := by
 have := rNum_left q
 unfold rText
 split
 · exact Nat.zero_le _
 · simp only [List.length_take]; omega
noncomputable def kfText' : KF := kfR (fun q => sv (rText q).1) fun q => (rText q).2
theorem kn31 {K : FuncId → Option KF} (hK : KnOk Try.prog E0 K) (h54 : K 54 = some kfNum) (h55 : K 55 = some kfLose) : KnWell Try.prog E0 31 kfText' :=
 knR hK (fn := Try.f31) (c := C31) (d := B31) _ _ (fun _ _ => under_sv _) (by kernel_rfl) (by kernel_rfl) (annot_isOf C31 _ (by kernel_rfl)) 1 fun b q S fit hb hB => by
  obtain ⟨S1, k1, k2, k3, k4⟩ := kfR_run (o := fun q => .int .u64 ((rNum q).1 : Int)) (nx := fun q => (rNum q).2) hB fit
  have hl := rNum_left q
  have hn := rNum_lt q
  suffices h : ∃ S', F31 (ev E0 K 1) rounds (.ptr b 0) S = some (.ret (sv (rText q).1), S') ∧ RdAt S' b (rText q).2 ∧ Grew (fun x => x = b) S S' from h
  rw [F31_eq, ev_known h54]
  unfold kfNum rText
  rw [k1, callP_ret, show nilCheckV (.ptr b 0) = some (.ptr b 0) from rfl, oB, faP_ptr, oB, Nat.zero_add, k2.ld0, oB]
  dsimp only
  rw [lnStr_sv, oB]
  dsimp only
  rw [cvI_int, oB]
  dsimp only
  rw [wrap_u64 (by omega) (by omega), binV_ii, intsV_gtr, oB, ifK_bool]
  by_cases h : (rNum q).2.left.length < (rNum q).1
  · rw [decide_eq_true (show ((rNum q).2.left.length : Int) < ((rNum q).1 : Int) by omega), cond_true, if_pos h, ev_known h55]
    obtain ⟨S2, m1, m2, m3, m4⟩ := kfR_run (o := fun _ => .tuple []) (nx := losing) k2 (by omega)
    unfold kfLose
    rw [m1, callP_ret]
    exact ⟨S2, rfl, m2, k3.trans m3⟩
  · rw [decide_eq_false (show ¬ ((rNum q).2.left.length : Int) < ((rNum q).1 : Int) by omega), cond_false, if_neg h, oB, faP_ptr, oB, Nat.zero_add, k2.ld0, oB]
    dsimp only
    rw [slice_sv und9 _ (bounds_hi .u64 (by omega)) (by omega), oB, oB, faP_ptr, oB, Nat.zero_add]
    dsimp only
    rw [k2.ld0, oB]
    dsimp only
    rw [slice_sv und9 _ (bounds_lo .u64 (by omega)) (by omega), oB, oB, faP_ptr, oB, Nat.zero_add]
    dsimp only
    rw [List.drop_zero, Nat.sub_zero, show ((rNum q).2.left.drop (rNum q).1).take ((rNum q).2.left.length - (rNum q).1) = (rNum q).2.left.drop (rNum q).1 by rw [List.take_of_length_le (by rw [List.length_drop]; omega)], k2.st0, oB]
    exact ⟨_, rfl, RdAt.put k2.on b _, k3.trans (grew_put b _)⟩
end Go.Proofs.Ythmkdoaaciamlaa.W
namespace Go.Proofs.Ythmkdoaaciamlaa.W
open Go.Proofs.Ythmkdoaaciamlaa.Ev
noncomputable def c5 (nm : List UInt8) (k : Int) (x : Bool) (d : List UInt8) (v : V) : List V := [sv nm, .int .i64 k, .bool x, sv d, v]
theorem encN_c5 (nm : List UInt8) (k : Int) (x : Bool) (d : List UInt8) : encN (.mk nm k x d []) = vAgg (c5 nm k x d .nilslice) := by
 rw [encN, encL]; rfl
theorem build24 (k : Int) : buildV E0 24 [(1, .int .i64 k)] = some (vAgg (c5 [] k false [] .nilslice)) := by kernel_rfl
theorem build24_nil : buildV E0 24 [] = some (vAgg (c5 [] 0 false [] .nilslice)) := by kernel_rfl
theorem set5_0 (a b c d e v : V) : (Tr.ofListFrom .nil [a, b, c, d, e] 0).set v 0 = Tr.ofListFrom .nil [v, b, c, d, e] 0 := by kernel_rfl
theorem set5_2 (a b c d e v : V) : (Tr.ofListFrom .nil [a, b, c, d, e] 0).set v 2 = Tr.ofListFrom .nil [a, b, v, d, e] 0 := by kernel_rfl
theorem set5_3 (a b c d e v : V) : (Tr.ofListFrom .nil [a, b, c, d, e] 0).set v 3 = Tr.ofListFrom .nil [a, b, c, v, e] 0 := by kernel_rfl
theorem set5_4 (a b c d e v : V) : (Tr.ofListFrom .nil [a, b, c, d, e] 0).set v 4 = Tr.ofListFrom .nil [a, b, c, d, v] 0 := by kernel_rfl
section
variable {s : St}
theorem bx_st5 (ho : s.on = false) {b e i : Nat} {l m : List V} {v : V} (h : Bx s b e l) (hl : l.length = 5) (hm : m.length = 5) (hi : i < 5) (hset : (Tr.ofListFrom .nil l 0).set v i = Tr.ofListFrom .nil m 0) (h1 : v.size = 1) (h2 : v.cells = one v) (h3 : isTuple v = false) :
 stP 1 (.ptr b i) v s = some (.tuple [], s.put b (bxO e m)) := by
 show vu (bif Nat.beq v.size 1 && !isTuple v then stK s b i 1 v.cells else none) = _
 rw [h1, h2, h3]
 have hst : stK s b i 1 (one v) = some (s.put b (bxO e m)) := by
  unfold stK
  rw [h, hl]
  simp only [ble_true.2 (show i + 1 ≤ 5 * 1 by omega), blt_true.2 (show 5 * 1 < big by unfold big; decide), Bool.and_self, Bool.not_false, cond_true]
  unfold elemTo
  rw [show Nat.beq 1 5 = false from rfl]
  have hv0 : (one v).get 0 = some v := rfl
  simp only [Bool.false_and, cond_false, cellsTo, Tr.setC_eq, hv0, oB, Nat.add_zero, Nat.div_eq_of_lt hi, Nat.mod_eq_of_lt hi]
  rw [Tr.get_ofList]
  simp only [List.getElem?_cons_zero, oB, hset, set_one, note_off ho]
  unfold bxO
  rw [hm]
 rw [hst]; rfl
theorem AgAt.stAOn (ho : s.on = false) {b e z : Nat} {t : Tr V} (h : AgAt s b e z t) (hz : z < big) (u : Tr V) : ∃ w l, stP z (.ptr b 0) (.agg z u) (onS s) = some (.tuple [], w.lg l) ∧ AgAt w b e z u ∧ Grew (fun x => x = b) s w ∧ w.next = s.next := by
 obtain ⟨c, h1, h2⟩ := h
 have hst : stK s b 0 z u = some (s.put b (.cells e z 1 false (c.set u 0))) := by
  unfold stK
  rw [h1]
  simp only [ble_true.2 (show 0 + z ≤ z * 1 by omega), blt_true.2 (show z * 1 < big by omega), Bool.and_self, Bool.not_false, cond_true]
  unfold elemTo
  rw [show Nat.beq z z = true from beq_true.2 rfl, Nat.zero_mod, show Nat.beq 0 0 = true from rfl]
  simp only [Bool.and_self, cond_true, Nat.zero_div, Tr.setC_eq, oB, note_off ho]
 obtain ⟨_, l', hl⟩ := stK_lg ho hst []
 refine ⟨s.put b (.cells e z 1 false (c.set u 0)), l', ?_, ⟨c.set u 0, by rw [put_get, if_pos rfl], by rw [Tr.get_set, if_pos rfl]⟩, grew_put b _, rfl⟩
 show vu (bif Nat.beq z z && !false then stK (onS s) b 0 z u else none) = _
 rw [show Nat.beq z z = true from beq_true.2 rfl]
 simp only [Bool.not_false, Bool.and_self, cond_true]
 rw [show onS s = s.lg [] from rfl, hl]; rfl
theorem AgAt.relog {s0 w : St} (h0 : s0.on = false) {b e z : Nat} {t : Tr V} (h : AgAt w b e z t) (hon : w.on = false) (hn : w.next = s0.next) (g : Grew (fun x => x = b) s0 w) (l : List LE) (ls : List (List LE)) :
 AgAt (relog s0 (w.lg l) ls) b e z t ∧ (Go.Proofs.Ythmkdoaaciamlaa.Ev.relog s0 (w.lg l) ls).next = s0.next ∧ Grew (fun x => x = b) s0 (Go.Proofs.Ythmkdoaaciamlaa.Ev.relog s0 (w.lg l) ls) := by
 obtain ⟨r1, r2, r3⟩ := relog_lg h0 l ls hon
 obtain ⟨c, h1, h2⟩ := h
 exact ⟨⟨c, by rw [r1]; exact h1, h2⟩, by rw [r2, hn], ⟨by rw [r2, hn]; exact Nat.le_refl _, by rw [r3, h0], fun x hx hne => by rw [r1]; exact g.keep x hx hne⟩⟩
end
theorem fz_node {S : St} {N N0 : Nat} {v5 : V} {acc : List Nd} (h : SliceIs S N0 v5 acc) (hN : N ≤ N0) (nm : List UInt8) (k : Int) (x : Bool) (d : List UInt8) : Fz S N (vAgg (c5 nm k x d v5)) (encN (.mk nm k x d acc)) := by
 rw [encN_tree]
 have hg : ∀ (i : Nat) v, (c5 nm k x d v5)[i]? = some v → (Tr.ofListFrom .nil (c5 nm k x d v5) 0).get i = some v := fun i v h => by rw [Tr.get_ofList]; exact h
 refine .agg (fun i => ((c5 nm k x d v5)[i]?).getD .nilptr) (fun i v' _ hi => ?_) fun i v' hv' hi => ?_
 · have hi : i < 5 := hi
   match i, hi with
   | 0, _ => exact hg 0 _ rfl
   | 1, _ => exact hg 1 _ rfl
   | 2, _ => exact hg 2 _ rfl
   | 3, _ => exact hg 3 _ rfl
   | 4, _ => exact hg 4 _ rfl
 · have hi : i < 5 := hi
   have hv2 : (cellsN (.mk nm k x d acc))[i]? = some v' := by
    have : (Tr.ofListFrom .nil (cellsN (.mk nm k x d acc)) 0).get i = some v' := hv'
    rwa [Tr.get_ofList] at this
   unfold cellsN at hv2
   simp only [Nd.name, Nd.kind, Nd.exec, Nd.data, Nd.kids] at hv2
   match i, hi, hv2 with
   | 0, _, hv2 => simp at hv2; subst hv2; exact .same (under_sv _)
   | 1, _, hv2 => simp at hv2; subst hv2; exact .same (.int _ _)
   | 2, _, hv2 => simp at hv2; subst hv2; exact .same (.bool _)
   | 3, _, hv2 => simp at hv2; subst hv2; exact .same (under_sv _)
   | 4, _, hv2 =>
    simp at hv2; subst hv2
    show Fz S N v5 (kidsV (encL acc))
    rcases h with ⟨h1, rfl⟩ | ⟨h1, r, rfl, hrow, hNr, hrn⟩
    · rw [h1, encL]; exact .same .nilslice
    · obtain ⟨c, hc1, hc2⟩ := hrow.row
      have hne : kidsV (encL acc) = .list 5 (encL acc) := by
       cases h : acc with
       | nil => exact absurd h h1
       | cons a l => rw [encL]; rfl
      rw [hne, encL_map]
      refine .oslice hc1 (by omega) (by omega) rfl (by rw [List.length_map]) (by rw [List.length_map]; omega) ?_
      rw [Nat.zero_div]
      exact fzRow_nodes _ 0 fun j y hj => by
       rw [Nat.zero_add]
       exact hc2 j _ (by rw [List.getElem?_map, hj]; rfl)
def nameIt (y : Nd) (nm : List UInt8) : Nd := .mk nm y.kind y.exec y.data y.kids
def kidsN (f : RSt → Option Nd × RSt) : Nat → RSt → List Nd → Option (List Nd) × RSt
 | 0, q, acc => (some acc, q)
 | n + 1, q, acc => match f (rText q).2 with
  | (none, q') => (none, q')
  | (some y, q') => kidsN f n q' (acc ++ [nameIt y (rText q).1])
def fileN (q : RSt) : Option Nd × RSt := (if (rNum q).1 ≤ 1 ∧ (rText (rNum q).2).2.lost = false then some (.mk [] 1 (decide ((rNum q).1 = 1)) (rText (rNum q).2).1 []) else none, (rText (rNum q).2).2)
def linkN (q : RSt) : Option Nd × RSt := (if (rText q).2.lost = false then some (.mk [] 3 false (rText q).1 []) else none, (rText q).2)
def dirN (f : Option (RSt → Option Nd × RSt)) (q : RSt) : Option Nd × RSt := match f with
 | none => (none, (rNum q).2)
 | some f => if 2000 < (rNum q).1 ∨ (rNum q).2.lost = true then (none, (rNum q).2) else match kidsN f (rNum q).1 (rNum q).2 [] with
  | (none, q') => (none, q')
  | (some l, q') => (if q'.lost = false then some (.mk [] 2 false [] l) else none, q')
def oneN (f : Option (RSt → Option Nd × RSt)) (q : RSt) : Option Nd × RSt :=
 if (rNum q).1 % 1000 = 1 then fileN (rNum q).2 else if (rNum q).1 % 1000 = 3 then linkN (rNum q).2 else if (rNum q).1 % 1000 = 2 then dirN f (rNum q).2 else (none, (rNum q).2)
def readN : Nat → RSt → Option Nd × RSt
 | 0 => oneN none
 | d + 1 => oneN (some (readN d))
noncomputable def outN : Option Nd → V
 | some y => .tuple [encN y, .bool true]
 | none => .tuple [.agg 5 .nil, .bool false]
theorem kidsN_left {f : RSt → Option Nd × RSt} (hf : ∀ q, (f q).2.left.length ≤ q.left.length) : ∀ (n : Nat) (q : RSt) (acc : List Nd), (kidsN f n q acc).2.left.length ≤ q.left.length
 | 0, q, acc => Nat.le_refl _
 | n + 1, q, acc => by
  have h1 := rText_left q
  have h2 := hf (rText q).2
  rw [kidsN]
  split
  · rename_i q' h; rw [h] at h2; exact Nat.le_trans h2 h1
  · rename_i y q' h; rw [h] at h2; exact Nat.le_trans (kidsN_left hf n q' _) (Nat.le_trans h2 h1)
theorem oneN_left {f : Option (RSt → Option Nd × RSt)} (hf : ∀ g, f = some g → ∀ q, (g q).2.left.length ≤ q.left.length) (q : RSt) : (oneN f q).2.left.length ≤ q.left.length := by
 have h0 := rNum_left q
 unfold oneN
 split
 · exact Nat.le_trans (rText_left _) (Nat.le_trans (rNum_left _) h0)
 · split
   · exact Nat.le_trans (rText_left _) h0
   · split
     · refine Nat.le_trans ?_ h0
       have h1 := rNum_left (rNum q).2
       unfold dirN
       split
       · exact h1
       · rename_i g
         split
         · exact h1
         · have h2 := kidsN_left (hf g rfl) (rNum (rNum q).2).1 (rNum (rNum q).2).2 []
           split
           · rename_i q' h; rw [h] at h2; exact Nat.le_trans h2 h1
           · rename_i l q' h; rw [h] at h2; exact Nat.le_trans h2 h1
     · exact h0
theorem readN_left : ∀ (d : Nat) (q : RSt), (readN d q).2.left.length ≤ q.left.length
 | 0, q => oneN_left (fun g h => by cases h) q
 | d + 1, q => oneN_left (fun g h => by cases h; exact readN_left d) q
end Go.Proofs.Ythmkdoaaciamlaa.W
