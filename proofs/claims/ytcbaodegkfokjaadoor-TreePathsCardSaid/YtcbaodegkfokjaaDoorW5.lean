/-
  WHAT THE FUNCTIONS COME TO: each is read by the evaluator, printed, and told as a function of data, part 5 of 8 (no condition).
-/
import Derived.Test.YtcbaodegkfokjaaDoorW4
import Derived.WalkKit
import Derived.ProofKit
import Derived.OpenShut
namespace Go.Proofs.YtcbaodegkfokjaaDoor.W
open Go.Proofs.YtcbaodegkfokjaaDoor.Ev
def frz (W : World) : Rho := ⟨fun _ => none, fun k => W.heap[k]?⟩
theorem u24 : ∃ f0 f1 f2 f3 f4 : Field, Tryd.prog.underlying 24 = some (.struct #[f0, f1, f2, f3, f4]) ∧ (f0.type = 9 ∧ f0.offset = 0) ∧ (f1.type = 3 ∧ f1.offset = 1) ∧ (f2.type = 4 ∧ f2.offset = 2) ∧ (f3.type = 9 ∧ f3.offset = 3) ∧ (f4.type = 22 ∧ f4.offset = 4) :=
 ⟨_, _, _, _, _, Tryd.underlying24, ⟨rfl, rfl⟩, ⟨rfl, rfl⟩, ⟨rfl, rfl⟩, ⟨rfl, rfl⟩, ⟨rfl, rfl⟩⟩
theorem u22 : Tryd.prog.underlying 22 = some (.slice 24) := by kernel_rfl
theorem u9 : Tryd.prog.underlying 9 = some .string := by kernel_rfl
theorem u3 : Tryd.prog.underlying 3 = some (.int .i64) := by kernel_rfl
theorem u4 : Tryd.prog.underlying 4 = some .bool := by kernel_rfl
theorem c24 : Tryd.prog.cellsOf 24 = 5 := by kernel_rfl
theorem c9 : Tryd.prog.cellsOf 9 = 1 := by kernel_rfl
theorem c3 : Tryd.prog.cellsOf 3 = 1 := by kernel_rfl
theorem c4 : Tryd.prog.cellsOf 4 = 1 := by kernel_rfl
theorem c22 : Tryd.prog.cellsOf 22 = 1 := by kernel_rfl
mutual
def AllOk : Rw → Prop
 | .mk n k _ _ _ l => n.length < 9223372036854775808 ∧ (-9223372036854775808 ≤ k ∧ k < 9223372036854775808) ∧ AllOks l
def AllOks : List Rw → Prop
 | [] => True
 | x :: l => AllOk x ∧ AllOks l
end
theorem allOks_iff : ∀ l : List Rw, AllOks l ↔ ∀ x ∈ l, AllOk x
 | [] => by simp [AllOks]
 | x :: l => by simp [AllOks, allOks_iff l]
theorem allOk_deep : ∀ (d : Nat) (x : Rw), AllOk x → DeepOk d x
 | 0, .mk n k e a f l, h => by rw [AllOk] at h; exact ⟨h.1, h.2.1⟩
 | d + 1, .mk n k e a f l, h => by
  rw [AllOk] at h
  refine ⟨⟨h.1, h.2.1⟩, fun y hy => ?_⟩
  cases f with
  | nil => cases hy
  | empty => cases hy
  | list => exact allOk_deep d y ((allOks_iff l).1 h.2.2 y hy)
theorem mapM_range_some {α : Type} {f : Nat → Option α} : ∀ (n k : Nat) {r : List α}, ((List.range' k n).mapM f) = some r → r.length = n ∧ ∀ i, i < n → ∃ y, r[i]? = some y ∧ f (k + i) = some y
 | 0, k, r, h => by
  simp at h; subst h
  exact ⟨rfl, fun i hi => by omega⟩
 | n + 1, k, r, h => by
  rw [List.range'_succ, List.mapM_cons] at h
  simp only [Option.bind_eq_bind, oI, Option.pure_def, oS] at h
  obtain ⟨y, hy, r', hr', rfl⟩ := h
  obtain ⟨h1, h2⟩ := mapM_range_some n (k + 1) hr'
  refine ⟨by simp [h1], fun i hi => ?_⟩
  cases i with
  | zero => exact ⟨y, rfl, hy⟩
  | succ i =>
   obtain ⟨z, hz1, hz2⟩ := h2 i (by omega)
   exact ⟨z, by simpa using hz1, by rw [show k + (i + 1) = k + 1 + i by omega]; exact hz2⟩
theorem cells?_at {W : World} {a : Addr} {n : Nat} {cs : List Value} (h : W.cells? 0 a n = some cs) : cs.length = n ∧ ∀ i, i < n → ∃ y, cs[i]? = some y ∧ W.cell? (a.add i) = some y := by
 unfold World.cells? at h
 rw [if_pos (Nat.zero_le _), List.range_eq_range'] at h
 obtain ⟨h1, h2⟩ := mapM_range_some n 0 h
 exact ⟨h1, fun i hi => by
  obtain ⟨y, hy1, hy2⟩ := h2 i hi
  exact ⟨y, hy1, by rw [Nat.zero_add] at hy2; exact hy2⟩⟩
theorem add_eq {a : Addr} (h : a.spot = none) (n : Nat) : a.add n = ⟨a.block, a.off + n, none⟩ := by
 unfold Addr.add
 split
 · rename_i h0
   subst h0
   cases a
   simp only at h
   subst h
   rfl
 · rfl
theorem build {P : Nat → Rw → List Value → Prop} : ∀ (n : Nat), (∀ i, i < n → ∃ r c, P i r c) → ∃ (rs : List Rw) (cs : List (List Value)), rs.length = n ∧ cs.length = n ∧ ∀ i r c, rs[i]? = some r → cs[i]? = some c → P i r c
 | 0, _ => ⟨[], [], rfl, rfl, fun i r c h => by simp at h⟩
 | n + 1, h => by
  obtain ⟨rs, cs, h1, h2, h3⟩ := build n fun i hi => h i (by omega)
  obtain ⟨r, c, hrc⟩ := h n (by omega)
  refine ⟨rs ++ [r], cs ++ [c], by simp [h1], by simp [h2], fun i r' c' hr hc => ?_⟩
  by_cases hi : i < n
  · rw [List.getElem?_append_left (by omega)] at hr hc
    exact h3 i r' c' hr hc
  · have hi2 : i = n := by
     have := (List.getElem?_eq_some_iff.1 hr).1
     simp [h1] at this
     omega
    subst hi2
    rw [List.getElem?_append_right (by omega)] at hr hc
    simp [h1] at hr
    simp [h2] at hc
    subst hr; subst hc
    exact hrc
theorem vrels_of {ρ : Rho} : ∀ (l : List V) (m : List Value), l.length = m.length → (∀ (i : Nat) v cv, l[i]? = some v → m[i]? = some cv → VRel ρ v cv) → VRels ρ l m
 | [], [], _, _ => .nil
 | [], _ :: _, h, _ => by simp at h
 | _ :: _, [], h, _ => by simp at h
 | v :: l, c :: m, h, hr => .cons (hr 0 v c rfl rfl) (vrels_of l m (by simpa using h) fun i v cv h1 h2 => hr (i + 1) v cv (by simpa using h1) (by simpa using h2))
theorem flat_lies {big : Array Value} : ∀ (cs : List (List Value)) (off : Nat), (∀ (i : Nat) c, cs[i]? = some c → c.length = 5 ∧ ∀ (k : Nat) x, c[k]? = some x → big[off + i * 5 + k]? = some x) → ∀ (j : Nat) x, (cs.flatMap fun c => (Value.agg c.toArray).cells.toList)[j]? = some x → big[off + j]? = some x
 | [], off, _, j, x, h => by simp at h
 | c :: cs, off, hc, j, x, h => by
  obtain ⟨h1, h2⟩ := hc 0 c rfl
  have e : (Value.agg c.toArray).cells.toList = c := by simp [Value.cells]
  rw [List.flatMap_cons, e] at h
  by_cases hj : j < 5
  · rw [List.getElem?_append_left (by omega)] at h
    have := h2 j x h
    rwa [Nat.zero_mul, Nat.add_zero] at this
  · rw [List.getElem?_append_right (by omega), h1] at h
    have := flat_lies cs (off + 5) (fun i d hd => by
     obtain ⟨k1, k2⟩ := hc (i + 1) d (by simpa using hd)
     exact ⟨k1, fun k y hy => by
      have := k2 k y hy
      rw [show off + (i + 1) * 5 + k = off + 5 + i * 5 + k by omega] at this
      exact this⟩) (j - 5) x h
    rwa [show off + 5 + (j - 5) = off + j by omega] at this
theorem vrel_node {W : World} (s d : ByteArray) (k : Int) (e : Bool) (f : KForm) (l : List Rw) (kc : Value) (h1 : oneC kc = true) (hk : VRel (frz W) (kform f (rwVs l)) kc) :
 VRel (frz W) (rwV (.mk s.data.toList k e d.data.toList f l)) (.agg #[.string s, .int .i64 k, .bool e, .string d, kc]) := by
 rw [rwV]
 refine .agg rfl (fun i cv hi => ?_) fun i v hi cv hc => ?_
 · match i, hi with
   | 0, hi => simp at hi; subst hi; rfl
   | 1, hi => simp at hi; subst hi; rfl
   | 2, hi => simp at hi; subst hi; rfl
   | 3, hi => simp at hi; subst hi; rfl
   | 4, hi => simp at hi; subst hi; exact h1
   | i + 5, hi => simp at hi
 · rw [vAgg_get] at hi
   match i, hi, hc with
   | 0, hi, hc => simp at hi hc; subst hi; subst hc; exact .str s
   | 1, hi, hc => simp at hi hc; subst hi; subst hc; exact .int _ _
   | 2, hi, hc => simp at hi hc; subst hi; subst hc; exact .bool _
   | 3, hi, hc => simp at hi hc; subst hi; subst hc; exact .str d
   | 4, hi, hc => simp at hi hc; subst hi; subst hc; exact hk
   | i + 5, hi, hc => simp at hi
theorem five {α : Type} {l : List α} (h : l.length = 5) : ∃ a b c d e, l = [a, b, c, d, e] := by
 match l, h with
 | [a, b, c, d, e], _ => exact ⟨a, b, c, d, e, rfl⟩
set_option maxRecDepth 100000 in
theorem node_of_trod {H : Type} {enc : TypeId × Value → H} {W : World} : ∀ (fuel : Nat) (cs : List Value) (x : DataW H × List MemPlace), DataW.trod enc Tryd.prog W 0 (fun _ => true) true fuel 24 cs = some x → ∃ r : Rw, VRel (frz W) (rwV r) (.agg cs.toArray) ∧ cs.length = 5 ∧ AllOk r
 | fuel, cs, x, h => by
  obtain ⟨f0, f1, f2, f3, f4, hu, ⟨t0, o0⟩, ⟨t1, o1⟩, ⟨t2, o2⟩, ⟨t3, o3⟩, ⟨t4, o4⟩⟩ := u24
  obtain ⟨xs, n, hfuel, _, hl, hxl, hf⟩ := DataW.trod_struct hu h
  rw [c24] at hl
  have hx5 : xs.length = 5 := hxl
  obtain ⟨v0, v1, v2, v3, v4, rfl⟩ := five hl
  · have g0 := hf 0 f0 rfl
    have g1 := hf 1 f1 rfl
    have g2 := hf 2 f2 rfl
    have g3 := hf 3 f3 rfl
    have g4 := hf 4 f4 rfl
    rw [t0, o0, c9, List.getElem?_eq_getElem (by omega)] at g0
    rw [t1, o1, c3, List.getElem?_eq_getElem (by omega)] at g1
    rw [t2, o2, c4, List.getElem?_eq_getElem (by omega)] at g2
    rw [t3, o3, c9, List.getElem?_eq_getElem (by omega)] at g3
    rw [t4, o4, c22, List.getElem?_eq_getElem (by omega)] at g4
    obtain ⟨s, hs, _, hsl⟩ := DataW.trod_string u9 g0
    obtain ⟨k, hk, _, hkw⟩ := DataW.trod_int u3 g1
    obtain ⟨e, he, _⟩ := DataW.trod_bool u4 g2
    obtain ⟨d, hd, _, hdl⟩ := DataW.trod_string u9 g3
    simp only [List.drop_zero, List.take_succ_cons, List.take_zero, List.cons.injEq, and_true, List.drop_succ_cons] at hs hk he hd
    subst hs; subst hk; subst he; subst hd
    have hkr : -9223372036854775808 ≤ k ∧ k < 9223372036854775808 := by
     unfold Lit.wf at hkw
     simp only [Bool.and_eq_true, decide_eq_true_eq] at hkw
     have e1 : IntKind.i64.min = -9223372036854775808 := by decide
     have e2 : IntKind.i64.max = 9223372036854775807 := by decide
     rw [e1, e2] at hkw
     omega
    have hsn : s.data.toList.length < 9223372036854775808 := by
     have : s.data.toList.length = s.size := by rw [Array.length_toList]; rfl
     unfold maxLen at hsl
     omega
    rcases DataW.trod_slice u22 g4 with ⟨hv4, _⟩ | ⟨a, len, cap, elems, rest, m, hm, hv4, _, _, hcap, _, hel, hat, _⟩
    · simp only [List.drop_succ_cons, List.drop_zero, List.take_succ_cons, List.take_zero, List.cons.injEq, and_true] at hv4
      subst hv4
      exact ⟨.mk s.data.toList k e d.data.toList .nil [], vrel_node s d k e .nil [] _ rfl .nilslice, rfl, by rw [AllOk]; exact ⟨hsn, hkr, trivial⟩⟩
    · simp only [List.drop_succ_cons, List.drop_zero, List.take_succ_cons, List.take_zero, List.cons.injEq, and_true] at hv4
      subst hv4
      by_cases h0 : len = 0
      · subst h0
        exact ⟨.mk s.data.toList k e d.data.toList .empty [], vrel_node s d k e .empty [] _ rfl (.eslice a cap), rfl, by rw [AllOk]; exact ⟨hsn, hkr, trivial⟩⟩
      · have hAt : ∀ i, i < len → ∃ cells y, W.cells? 0 (a.add (i * 5)) 5 = some cells ∧ DataW.trod enc Tryd.prog W 0 (fun _ => true) true m 24 cells = some y := fun i hi => by
         have := hat i hi
         rw [c24, List.getElem?_eq_getElem (by omega), oI] at this
         obtain ⟨cells, h1, h2⟩ := this
         exact ⟨cells, _, h1, h2⟩
        have hspot : a.spot = none ∧ ∃ bg ty fr, W.heap[a.block]? = some (.cells bg ty fr) := by
         obtain ⟨cells, y, h1, _⟩ := hAt 0 (by omega)
         obtain ⟨_, h2⟩ := cells?_at h1
         obtain ⟨z, _, hz⟩ := h2 0 (by omega)
         rw [Nat.zero_mul, show (a.add 0).add 0 = a from rfl] at hz
         unfold World.cell? at hz
         split at hz
         · rename_i bg ty fr hh
           split at hz
           · cases hz
           · rename_i hsp
             refine ⟨by simpa using hsp, bg, ty, fr, hh⟩
         · cases hz
        obtain ⟨hsp, bg, ty, fr, hheap⟩ := hspot
        obtain ⟨rs, cls, r1, r2, r3⟩ := build (P := fun i r c => VRel (frz W) (rwV r) (.agg c.toArray) ∧ AllOk r ∧ c.length = 5 ∧ ∀ (k : Nat) x, c[k]? = some x → bg[a.off + i * 5 + k]? = some x) len fun i hi => by
         obtain ⟨cells, y, h1, h2⟩ := hAt i hi
         have hlt : m < fuel := by omega
         obtain ⟨r, q1, q2, q3⟩ := node_of_trod m cells y h2
         refine ⟨r, cells, q1, q3, q2, fun k z hz => ?_⟩
         obtain ⟨_, h4⟩ := cells?_at h1
         have hk5 : k < 5 := by rw [← q2]; exact (List.getElem?_eq_some_iff.1 hz).1
         obtain ⟨z', hz1, hz2⟩ := h4 k hk5
         rw [hz] at hz1
         obtain rfl := Option.some.inj hz1
         rw [add_eq hsp, add_eq rfl] at hz2
         unfold World.cell? at hz2
         simp only at hz2
         rw [hheap] at hz2
         exact hz2
        have hlist : VRel (frz W) (.list 5 (rwVs rs)) (.slice (some a) len cap) := by
         refine .list (cl := cls.map fun c => .agg c.toArray) (vrels_of _ _ (by rw [rwVs_map, List.length_map, List.length_map, r1, r2]) fun i v cv h1 h2 => ?_) (fun v hv => ?_) (by rw [rwVs_map, List.length_map, r1]) hcap fun _ => ⟨fun cv hcv => ?_, hsp, bg, ty, fr, hheap, fun j c hj => ?_⟩
         · rw [rwVs_map, List.getElem?_map, Option.map_eq_some_iff] at h1
           rw [List.getElem?_map, Option.map_eq_some_iff] at h2
           obtain ⟨r, hr, rfl⟩ := h1
           obtain ⟨c, hc, rfl⟩ := h2
           exact (r3 i r c hr hc).1
         · rw [rwVs_map, List.mem_map] at hv
           obtain ⟨r, _, rfl⟩ := hv
           rw [rwV_cells]; rfl
         · rw [List.mem_map] at hcv
           obtain ⟨c, hc, rfl⟩ := hcv
           obtain ⟨i, hi⟩ := List.getElem?_of_mem hc
           have hlt := (List.getElem?_eq_some_iff.1 hi).1
           have := (r3 i rs[i] c (List.getElem?_eq_getElem (by omega)) hi).2.2.1
           simp [Value.cells, this]
         · rw [List.flatMap_map] at hj
           exact flat_lies cls a.off (fun i c hc => by
            have hlt := (List.getElem?_eq_some_iff.1 hc).1
            exact (r3 i rs[i] c (List.getElem?_eq_getElem (by omega)) hc).2.2) j c hj
        refine ⟨.mk s.data.toList k e d.data.toList .list rs, vrel_node s d k e .list rs _ rfl hlist, rfl, ?_⟩
        rw [AllOk]
        refine ⟨hsn, hkr, (allOks_iff rs).2 fun r hr => ?_⟩
        obtain ⟨i, hi⟩ := List.getElem?_of_mem hr
        have hlt := (List.getElem?_eq_some_iff.1 hi).1
        exact (r3 i r cls[i] hi (List.getElem?_eq_getElem (by omega))).2.1
termination_by fuel => fuel
end Go.Proofs.YtcbaodegkfokjaaDoor.W
namespace Go.Proofs.YtcbaodegkfokjaaDoor.W
open Go.Proofs.YtcbaodegkfokjaaDoor.Ev Go.RowKit
theorem glob0 : ∀ g, E0.glob.get g = none := fun _ => rfl
noncomputable def kfTrue : KF := specKF (fun _ : Unit => []) (fun _ => En.ret (.bool true))
theorem kfTrue_run (S : St) : kfTrue.run [] S = some (.ret (.bool true), S) := specKF_run (enc := fun _ : Unit => []) (out := fun _ => En.ret (.bool true)) (fun _ _ _ => rfl) () S
theorem relF (W : World) : Rel E0 (base0 W) (frz W) s0 W :=
 ⟨⟨rfl, rfl, rfl, Nat.le_refl _, fun _ _ => rfl⟩, fun _ _ => rfl, Nat.le_refl _, fun b o h => by simp [s0, Tr.get_nil] at h, fun b b' o o' cb sh sz sh' sz' h => by simp [s0, Tr.get_nil] at h, fun g b h => (by rw [glob0] at h; cases h), fun k o h => h, fun b o cb sh sz h => (by simp [s0, Tr.get_nil] at h), fun k o h _ => trivial⟩
end Go.Proofs.YtcbaodegkfokjaaDoor.W
namespace Go.Proofs.YtcbaodegkfokjaaDoor.W
open Go.Proofs.YtcbaodegkfokjaaDoor.Ev
structure RSt where
 left : List UInt8
 lost : Bool
noncomputable def rdO (q : RSt) : O := bxO 99962 [sv q.left, .bool q.lost]
structure RdAt (s : St) (b : Nat) (q : RSt) : Prop where
 on : s.on = false
 bx : Bx s b 99962 [sv q.left, .bool q.lost]
theorem set_two1 (x y v : V) : (Tr.ofListFrom .nil [x, y] 0).set v 1 = Tr.ofListFrom .nil [x, v] 0 := by kernel_rfl
section
variable {s : St}
theorem bx_st1 (ho : s.on = false) {b e : Nat} {x y v : V} (h : Bx s b e [x, y]) (h1 : v.size = 1) (h2 : v.cells = one v) (h3 : isTuple v = false) : stP 1 (.ptr b 1) v s = some (.tuple [], s.put b (bxO e [x, v])) := by
 show vu (bif Nat.beq v.size 1 && !isTuple v then stK s b 1 1 v.cells else none) = _
 rw [h1, h2, h3]
 have hst : stK s b 1 1 (one v) = some (s.put b (bxO e [x, v])) := by
  unfold stK
  rw [h]
  simp only [List.length_cons, List.length_nil, show Nat.ble (1 + 1) (2 * 1) = true from rfl, blt_true.2 (show 2 * 1 < big by unfold big; decide), Bool.and_self, Bool.not_false, cond_true]
  unfold elemTo
  rw [show Nat.beq 1 (0 + 1 + 1) = false from rfl]
  have hv0 : (one v).get 0 = some v := rfl
  simp only [Bool.false_and, cond_false, cellsTo, Tr.setC_eq, hv0, oB, Nat.add_zero, show 1 / (0 + 1 + 1) = 0 from rfl, show 1 % (0 + 1 + 1) = 1 from rfl]
  rw [Tr.get_ofList]
  simp only [List.getElem?_cons_zero, oB, set_two1, set_one, note_off ho]
  rfl
 rw [hst]; rfl
theorem bx_put (b e : Nat) (l : List V) : Bx (s.put b (bxO e l)) b e l := by
 show (s.put b (bxO e l)).heap.get b = some (bxO e l)
 rw [put_get, if_pos rfl]
theorem big2 : 2 < big := by unfold big; decide
variable {b : Nat} {q : RSt}
theorem RdAt.o0 (h : RdAt s b q) : ld1 (.ptr b 0) (onS s) = some (sv q.left, rd s b 0 1) := Bx.ld1On h.on h.bx 0 (by show 0 < 2; decide) big2
theorem RdAt.grew {W : Nat → Prop} {u : St} (h : RdAt s b q) (hb : b < s.next) (hw : ¬ W b) (g : Grew W s u) : RdAt u b q := ⟨g.on.trans h.on, h.bx.grew hb hw g⟩
theorem RdAt.put (h : s.on = false) (b : Nat) (q : RSt) : RdAt (s.put b (rdO q)) b q := ⟨h, bx_put b 99962 _⟩
theorem RdAt.st1 (h : RdAt s b q) (u : Bool) : stP 1 (.ptr b 1) (.bool u) s = some (.tuple [], s.put b (rdO ⟨q.left, u⟩)) := bx_st1 h.on h.bx rfl rfl rfl
theorem relog_onS (h : s.on = false) (ls : List (List LE)) : relog s (onS s) ls = s := by
 unfold relog
 rw [h]
 cases s
 simp only at h
 subst h
 rfl
end
end Go.Proofs.YtcbaodegkfokjaaDoor.W
namespace Go.Proofs.YtcbaodegkfokjaaDoor.W
open Go.Proofs.YtcbaodegkfokjaaDoor.Ev
noncomputable def c5 (nm : List UInt8) (k : Int) (x : Bool) (d : List UInt8) (v : V) : List V := [sv nm, .int .i64 k, .bool x, sv d, v]
section
variable {s : St}
theorem AgAt.relog {s0 w : St} (h0 : s0.on = false) {b e z : Nat} {t : Tr V} (h : AgAt w b e z t) (hon : w.on = false) (hn : w.next = s0.next) (g : Grew (fun x => x = b) s0 w) (l : List LE) (ls : List (List LE)) :
 AgAt (relog s0 (w.lg l) ls) b e z t ∧ (Go.Proofs.YtcbaodegkfokjaaDoor.Ev.relog s0 (w.lg l) ls).next = s0.next ∧ Grew (fun x => x = b) s0 (Go.Proofs.YtcbaodegkfokjaaDoor.Ev.relog s0 (w.lg l) ls) := by
 obtain ⟨r1, r2, r3⟩ := relog_lg h0 l ls hon
 obtain ⟨c, h1, h2⟩ := h
 exact ⟨⟨c, by rw [r1]; exact h1, h2⟩, by rw [r2, hn], ⟨by rw [r2, hn]; exact Nat.le_refl _, by rw [r3, h0], fun x hx hne => by rw [r1]; exact g.keep x hx hne⟩⟩
end
end Go.Proofs.YtcbaodegkfokjaaDoor.W
namespace Go.Proofs.YtcbaodegkfokjaaDoor.W
open Go.Proofs.YtcbaodegkfokjaaDoor.Ev
inductive Lf where
 | pos (off : Nat)
 | empty
 | nil
def Lf.left (full : List UInt8) : Lf → List UInt8
 | .pos off => full.drop off
 | _ => []
noncomputable def Lf.v (r : Nat) (full : List UInt8) : Lf → V
 | .pos off => .oslice r off (full.length - off) 1
 | .empty => .eslice
 | .nil => .nilslice
def Lf.ok (full : List UInt8) : Lf → Prop
 | .pos off => off ≤ full.length
 | _ => True
structure WSt where
 at_ : Lf
 lost : Bool
noncomputable def wO (r : Nat) (full : List UInt8) (w : WSt) : O := bxO 99974 [w.at_.v r full, .bool w.lost]
structure RowFor (s : St) (b r : Nat) (full : List UInt8) : Prop where
 row : RowAt s r 5 1 (full.map byteC)
 ne : r ≠ b
 rlt : r < s.next
def Lf.isPos : Lf → Prop
 | .pos _ => True
 | _ => False
structure WAt (s : St) (b r : Nat) (full : List UInt8) (w : WSt) : Prop where
 on : s.on = false
 bx : Bx s b 99974 [w.at_.v r full, .bool w.lost]
 ok : w.at_.ok full
 fit : full.length ≤ 100000
 src : w.at_.isPos → RowFor s b r full
section
variable {s : St} {b r : Nat} {full : List UInt8} {w : WSt}
theorem WAt.grew {W : Nat → Prop} {u : St} (h : WAt s b r full w) (hb : b < s.next) (hw : ¬ W b) (hr : w.at_.isPos → r < s.next → r ≠ b → ¬ W r) (g : Grew W s u) : WAt u b r full w :=
 ⟨g.on.trans h.on, h.bx.grew hb hw g, h.ok, h.fit, fun hp => ⟨(h.src hp).row.grew (h.src hp).rlt (hr hp (h.src hp).rlt (h.src hp).ne) g, (h.src hp).ne, Nat.lt_of_lt_of_le (h.src hp).rlt g.next⟩⟩
theorem WAt.put (h : WAt s b r full w) (u : WSt) (hu : u.at_.ok full) (hp : u.at_.isPos → w.at_.isPos) : WAt (s.put b (wO r full u)) b r full u :=
 ⟨h.on, bx_put b 99974 _, hu, h.fit, fun hu => ⟨(h.src (hp hu)).row.grew (h.src (hp hu)).rlt (h.src (hp hu)).ne (grew_put b _), (h.src (hp hu)).ne, (h.src (hp hu)).rlt⟩⟩
theorem WAt.st1 (h : WAt s b r full w) (u : Bool) : stP 1 (.ptr b 1) (.bool u) s = some (.tuple [], s.put b (wO r full ⟨w.at_, u⟩)) := bx_st1 h.on h.bx rfl rfl rfl
end
end Go.Proofs.YtcbaodegkfokjaaDoor.W
namespace Go.Proofs.YtcbaodegkfokjaaDoor.W
open Go.Proofs.YtcbaodegkfokjaaDoor.Ev
def WSt.left (full : List UInt8) (w : WSt) : List UInt8 := w.at_.left full
end Go.Proofs.YtcbaodegkfokjaaDoor.W
namespace Go.Proofs.YtcbaodegkfokjaaDoor.W
open Go.Proofs.YtcbaodegkfokjaaDoor.Ev
def RowO (o : O) (full : List UInt8) : Prop := ∃ cc, o = .cells 5 1 (full.map byteC).length false cc ∧ ∀ (i : Nat) t, (full.map byteC)[i]? = some t → cc.get i = some t
theorem RowO.same {o : O} {f g : List UInt8} (h : RowO o f) (k : RowO o g) : f = g := by
 obtain ⟨c1, e1, h1⟩ := h
 obtain ⟨c2, e2, h2⟩ := k
 rw [e1] at e2
 simp only [O.cells.injEq, true_and] at e2
 obtain ⟨hl, rfl⟩ := e2
 rw [List.length_map, List.length_map] at hl
 refine List.ext_getElem hl fun i hi hj => ?_
 have a1 := h1 i (byteC f[i]) (by rw [List.getElem?_map, List.getElem?_eq_getElem hi]; rfl)
 have a2 := h2 i (byteC g[i]) (by rw [List.getElem?_map, List.getElem?_eq_getElem hj]; rfl)
 rw [a1] at a2
 simp only [oS] at a2
 have h0 : (byteC f[i]).get 0 = (byteC g[i]).get 0 := by rw [a2]
 have h0' : some (V.int .u8 (.ofNat f[i].toNat)) = some (V.int .u8 (.ofNat g[i].toNat)) := h0
 simp only [oS, V.int.injEq, true_and] at h0'
 exact UInt8.toNat_inj.1 (Int.ofNat.inj h0')
end Go.Proofs.YtcbaodegkfokjaaDoor.W
namespace Go.Proofs.YtcbaodegkfokjaaDoor.W
open Go.Proofs.YtcbaodegkfokjaaDoor.Ev
theorem putText_acc (s t : List UInt8) : putText s t = s ++ putText [] t := by
 unfold putText
 simp only [List.nil_append, List.append_assoc]
mutual
theorem layN_acc : ∀ (x : Nd) (s : List UInt8), layN s x = s ++ layN [] x
 | .mk n k e d l, s => by
  rw [layN, layN]
  split
  · rw [putText_acc, putText_acc ([] ++ _ ++ _)]
    simp only [List.nil_append, List.append_assoc]
  · split
    · rw [putText_acc, putText_acc ([] ++ _)]
      simp only [List.nil_append, List.append_assoc]
    · rw [layL_acc l, layL_acc l ([] ++ _ ++ _)]
      simp only [List.nil_append, List.append_assoc]
theorem layL_acc : ∀ (l : List Nd) (s : List UInt8), layL s l = s ++ layL [] l
 | [], s => by rw [layL, layL, List.append_nil]
 | x :: l, s => by
  rw [layL, layL, layL_acc l, layL_acc l (layN (putText [] x.name) x), layN_acc x, layN_acc x (putText [] x.name), putText_acc]
  simp only [List.append_assoc]
end
end Go.Proofs.YtcbaodegkfokjaaDoor.W
namespace Go.Proofs.YtcbaodegkfokjaaDoor.W
open Go.Proofs.YtcbaodegkfokjaaDoor.Ev
end Go.Proofs.YtcbaodegkfokjaaDoor.W
namespace Go.Proofs.YtcbaodegkfokjaaDoor.W
open Go.Proofs.YtcbaodegkfokjaaDoor.Ev
structure Taken (x : Nd) (s : List UInt8) : Prop where
 name : x.name = []
 may : mayN x = true
 deep : deepN 14 x ≤ 12
 cnt : cntN x ≤ 2000
 bytes : s = putText [] magicN ++ layN [] x
 fit : s.length ≤ 60000
theorem check_parts {x : Nd} (h : checkN x = 0) : x.name = [] ∧ deepN 14 x ≤ 12 := by
 unfold checkN at h
 cases ht : tooDeepN x with
 | true => rw [ht, if_pos rfl] at h; omega
 | false =>
  rw [ht, if_neg (by simp)] at h
  cases hn : (x.name == [] && mayN x) with
  | false => rw [hn, if_neg (by simp)] at h; omega
  | true =>
   rw [Bool.and_eq_true, beq_iff_eq] at hn
   unfold tooDeepN at ht
   exact ⟨hn.1, by simpa using ht⟩
theorem taken {x : Nd} {s : List UInt8} (ok : x.ok) (h0 : (encodeN x).2 = 0) (hs : (encodeN x).1 = s) : Taken x s := by
 unfold encodeN at h0 hs
 by_cases hc : checkN x = 0
 · rw [if_pos hc] at h0 hs
   obtain ⟨may, cnt⟩ := check_ok ok hc
   obtain ⟨nm, dp⟩ := check_parts hc
   by_cases hf : (layN (putText [] magicN) x).length ≤ 60000
   · rw [if_pos hf] at hs
     simp only at hs
     exact ⟨nm, may, dp, cnt, by rw [← hs, layN_acc], by rw [← hs]; exact hf⟩
   · rw [if_neg hf] at h0
     simp at h0
 · rw [if_neg hc] at h0
   exact absurd h0 hc
end Go.Proofs.YtcbaodegkfokjaaDoor.W
namespace Go.Proofs.YtcbaodegkfokjaaDoor.W
open Go.Proofs.YtcbaodegkfokjaaDoor.Ev
section
variable {s : St}
theorem AgAt.st_one (ho : s.on = false) {b e : Nat} {t : Tr V} (h : AgAt s b e 1 t) (v : V) (hs : v.size = 1) (hc : v.cells = one v) (hv : isTuple v = false) : ∃ w, stP 1 (.ptr b 0) v s = some (.tuple [], w) ∧ AgAt w b e 1 (one v) ∧ Grew (fun x => x = b) s w ∧ w.next = s.next := by
 obtain ⟨w, h1, h2, h3, h4⟩ := h.stA ho big1 (one v)
 refine ⟨w, ?_, h2, h3, h4⟩
 have e1 : stP 1 (.ptr b 0) (.agg 1 (one v)) s = vu (stK s b 0 1 (one v)) := rfl
 have e2 : stP 1 (.ptr b 0) v s = vu (bif Nat.beq v.size 1 && !isTuple v then stK s b 0 1 v.cells else none) := rfl
 rw [e2, hs, hc, hv, ← h1, e1]
 rfl
theorem AgAt.ldr_one (ho : s.on = false) {b e : Nat} {v : V} (h : AgAt s b e 1 (one v)) : ldr1 (.ptr b 0) s = some (v, s) := AgAt.ld1 ho h big1 (by decide) rfl
end
section
variable {self : EV} {a : Ac} {p0 p1 : Nat} {S : St}
end
end Go.Proofs.YtcbaodegkfokjaaDoor.W
namespace Go.Proofs.YtcbaodegkfokjaaDoor.W
open Go.Proofs.YtcbaodegkfokjaaDoor.Ev
mutual
def sameN : Nd → Nd → Bool
 | .mk n k e d l, y => (!(tooDeepN (.mk n k e d l)) && !(tooDeepN y)) && ((n == y.name) && (decide (k = y.kind) && ((e == y.exec) && ((d == y.data) && sameL l y.kids))))
def sameL : List Nd → List Nd → Bool
 | [], [] => true
 | x :: l, y :: m => sameN x y && sameL l m
 | _, _ => false
end
theorem sameN_eq (x y : Nd) : sameN x y = ((!(tooDeepN x) && !(tooDeepN y)) && ((x.name == y.name) && (decide (x.kind = y.kind) && ((x.exec == y.exec) && ((x.data == y.data) && sameL x.kids y.kids))))) := by
 cases x; rw [sameN]; rfl
theorem sameL_len : ∀ {l m : List Nd}, l.length ≠ m.length → sameL l m = false
 | [], [], h => absurd rfl h
 | [], _ :: _, _ => rfl
 | _ :: _, [], _ => rfl
 | x :: l, y :: m, h => by rw [sameL, sameL_len (l := l) (m := m) (fun e => h (by simp [e]))]; exact Bool.and_false _
structure TwoIn where
 x : Nd
 y : Nd
 okx : x.ok
 oky : y.ok
noncomputable def encTwo (p : TwoIn) : List V := [encN p.x, encN p.y]
theorem encTwo_inj {p q : TwoIn} (h : encTwo p = encTwo q) : p.x = q.x ∧ p.y = q.y := by
 simp only [encTwo, List.cons.injEq, and_true] at h
 exact ⟨encN_inj h.1, encN_inj h.2⟩
noncomputable def outSame (p : TwoIn) : En := .ret (.bool (sameN p.x p.y))
noncomputable def kfSame : KF := specKF encTwo outSame
theorem kid_size {x y : Nd} (hy : y ∈ x.kids) : SizeOf.sizeOf y < SizeOf.sizeOf x := by
 have := List.sizeOf_lt_of_mem hy
 cases hp : x with
 | mk n k e d l =>
  rw [hp] at this
  simp only [Nd.kids] at this
  simp only [Nd.mk.sizeOf_spec]
  omega
theorem eqv_bool (a b : Bool) : binV E0 .eql 4 false false (.bool a) (.bool b) = some (.bool (a == b)) := by cases a <;> cases b <;> kernel_rfl
theorem L37_spec (self : EV) (N : Nat) (nk : Ac → St → Rs) (ek : Nat → Ac → St → Rs) (l m : List Nd) (hfew : l.length ≤ 3000) (hlen : l.length = m.length)
 (hself : ∀ u ∈ l, ∀ v ∈ m, ∀ s, callK E0 self (.fn (.func 14) [] []) [encN u, encN v] s = some (.ret (.bool (sameN u v)), s)) :
 ∀ (r t : List Nd) (i n : Nat) (S : St), l.drop i = r → m.drop i = t → r.length < n → S.on = false →
 ∃ S', L30_12 self N nk ek n (kidsV (encL m)) (.fn (.func 14) [] []) (kidsV (encL l)) (.int .i64 (l.length : Int)) (.int .i64 (i : Int)) S = (bif sameL r t then ek 0 (fr 32 []) S' else some (.ret (.bool false), S')) ∧ Grew (fun _ => False) S S'
 | r, t, i, 0, S, _, _, hn, _ => by omega
 | [], t, i, n + 1, S, hi, hj, hn, ho => by
  have h1 := drop_end hi
  rw [List.drop_eq_nil_of_le (by omega)] at hj
  subst hj
  rw [L30_12_eq]
  simp only [binV_ii, intsV_lss, dec_ge h1, sameL]
  exact ⟨S, rfl, Grew.refl _ _⟩
 | u :: r, t, i, n + 1, S, hi, hj, hn, ho => by
  obtain ⟨hlt, hu, hr, hmem⟩ := drop_at hi
  have hlt2 : i < m.length := by omega
  rw [List.drop_eq_getElem_cons hlt2] at hj
  subst hj
  have hmem2 : m[i] ∈ m := List.getElem_mem hlt2
  obtain ⟨S1, k1, k2, k3, k4⟩ := node_new ho (Tr.ofListFrom .nil [(sv []), (.int .i64 0), (.bool false), (sv []), .nilslice] 0) u
  obtain ⟨S2, m1, m2, m3, m4⟩ := node_new k2.on (Tr.ofListFrom .nil [(sv []), (.int .i64 0), (.bool false), (sv []), .nilslice] 0) m[i]
  have k2' := k2.grew (by omega) (fun h => h) m3
  rw [L30_12_eq, sameL]
  simp only [binV_ii, intsV_lss, dec_lt hlt, oB, ifK_bool, cond_true, ixP_kids l i hlt, ixP_kids m i hlt2, hu, ldA_kid, nwP_fst, k1, m1, k2'.fA, m2.fA, hself u hmem _ hmem2, callP_ret, unV_not]
  cases sameN u m[i] with
  | false => exact ⟨S2, rfl, k3.trans m3⟩
  | true =>
   rw [Bool.true_and, Bool.not_true, cond_false, intsV_add, wrap_succ (show i < 9223372036854775807 by omega), oB]
   obtain ⟨S', h1, h2⟩ := L37_spec self N nk ek l m hfew hlen hself r _ (i + 1) n S2 hr rfl (by simp at hn; omega) m2.on
   exact ⟨S', h1, (k3.trans m3).trans h2⟩
theorem F37_spec (self : EV) (l m : List Nd) (hfew : l.length ≤ 3000) (S : St) (ho : S.on = false)
 (hself : ∀ u ∈ l, ∀ v ∈ m, ∀ s, callK E0 self (.fn (.func 14) [] []) [encN u, encN v] s = some (.ret (.bool (sameN u v)), s)) :
 ∃ S', F30 self rounds (kidsV (encL l)) (kidsV (encL m)) (.fn (.func 14) [] []) S = some (.ret (.bool (sameL l m)), S') ∧ Grew (fun _ => False) S S' := by
 rw [F30_eq]
 simp only [lnS_kids, oB, binV_ii, intsV_neq, ifK_bool]
 by_cases hl : l.length = m.length
 · rw [decide_eq_true (show (l.length : Int) = (m.length : Int) by omega), Bool.not_true, cond_false]
   obtain ⟨S', h1, h2⟩ := L37_spec self rounds (R30_7 self rounds (finN E0 self Tryd.f30) noEx) (exB 0 (R30_7 self rounds (finN E0 self Tryd.f30) noEx) noEx) l m hfew hl hself l m 0 rounds S rfl rfl (by unfold rounds; omega) ho
   refine ⟨S', ?_, h2⟩
   rw [show (V.int .i64 0) = .int .i64 ((0 : Nat) : Int) from rfl, h1, exB_same, R30_7_eq]
   cases sameL l m <;> rfl
 · rw [decide_eq_false (show ¬ (l.length : Int) = (m.length : Int) by omega), sameL_len hl]
   exact ⟨S, rfl, Grew.refl _ _⟩
theorem F16_spec (self : EV) (x y : Nd) (S : St) (ho : S.on = false) (hdx : ∀ s, self.f 24 [encN x] s = some (.ret (gTooDeep x), s)) (hdy : ∀ s, self.f 24 [encN y] s = some (.ret (gTooDeep y), s))
 (h37 : ∀ s, s.on = false → ∃ S', self.f 30 [kidsV (encL x.kids), kidsV (encL y.kids), .fn (.func 14) [] []] s = some (.ret (.bool (sameL x.kids y.kids)), S') ∧ Grew (fun _ => False) s S') :
 ∃ S', F14 self rounds (encN x) (encN y) S = some (.ret (.bool (sameN x y)), S') ∧ Grew (fun _ => False) S S' := by
 obtain ⟨S1, a1, a2, a3, a4⟩ := node_box ho x
 obtain ⟨S2, b1, b2, b3, b4⟩ := node_box a2.on y
 have hx := a2.grew (by omega) (fun h => h) b3
 have g := a3.trans b3
 rw [F14_eq, a1, sameN_eq]
 simp only [oB, b1, hx.fA, hdx, callP_ret, gTooDeep, guardV_f]
 cases tooDeepN x with
 | true => exact ⟨S2, rfl, g⟩
 | false =>
  simp only [Bool.not_false, cond_true, b2.fA, oB, hdy, callP_ret, gTooDeep, pickV_bool, cond_false, Bool.true_and, ifK_bool]
  cases tooDeepN y with
  | true => exact ⟨S2, rfl, g⟩
  | false =>
   simp only [Bool.not_false, cond_false, Bool.true_and, faP_ptr, oB, Nat.zero_add, hx.f0, b2.f0, binV_ss, strOp_eql, guardV_t]
   cases x.name == y.name with
   | false => exact ⟨S2, rfl, g⟩
   | true =>
    simp only [cond_true, oB, hx.f1, b2.f1, binV_ii, intsV_eql, pickV_bool, guardV_t, Bool.true_and]
    by_cases hk : x.kind = y.kind
    · rw [decide_eq_true hk]
      simp only [cond_true, oB, hx.f2, b2.f2, eqv_bool, pickV_bool, guardV_t, Bool.true_and]
      cases x.exec == y.exec with
      | false => exact ⟨S2, rfl, g⟩
      | true =>
       simp only [cond_true, oB, hx.f3, b2.f3, binV_ss, strOp_eql, pickV_bool, guardV_t, Bool.true_and]
       cases x.data == y.data with
       | false => exact ⟨S2, rfl, g⟩
       | true =>
        obtain ⟨S3, c1, c2⟩ := h37 S2 b2.on
        simp only [cond_true, oB, hx.f4, b2.f4, c1, callP_ret, pickV_bool, Bool.true_and]
        exact ⟨S3, rfl, g.trans c2⟩
    · rw [decide_eq_false hk]
      exact ⟨S2, rfl, g⟩
theorem kn16 {K : FuncId → Option KF} (hK : KnOk Tryd.prog E0 K) (h35 : K 24 = some (kfNode gTooDeep)) (h37 : K 30 = none) : KnWell Tryd.prog E0 14 kfSame :=
 specKF_rec (fn := Tryd.f14) (c := C14) (d := B14) (fun p : TwoIn => SizeOf.sizeOf p.x) (fun p q h => by obtain ⟨h1, h2⟩ := encTwo_inj h; unfold outSame; rw [h1, h2]; exact ⟨rfl, rfl⟩) E0_ok hK (by kernel_rfl) (by kernel_rfl) (annot_isOf C14 _ (by kernel_rfl)) fun K' hK' p s hself ho => by
  have h35' : K' 24 = some (kfNode gTooDeep) := by rw [hK' 24 (by decide)]; exact h35
  have h37' : K' 30 = none := by rw [hK' 30 (by decide)]; exact h37
  obtain ⟨S', h1, h2⟩ := F16_spec (ev E0 K' 2) p.x p.y s ho (fun s => by rw [ev_known (n := 1) h35']; exact kfNode_run _ _ p.okx s) (fun s => by rw [ev_known (n := 1) h35']; exact kfNode_run _ _ p.oky s)
   (fun s ho => by
    obtain ⟨S', k1, k2⟩ := F37_spec (ev E0 K' 1) p.x.kids p.y.kids p.okx.at.few s ho fun u hu v hv s => by
     have := hself ⟨u, v, p.okx.at.kids u hu, p.oky.at.kids v hv⟩ s 0 (kid_size hu)
     show (ev E0 K' 1).f 14 [encN u, encN v] s = _
     exact this
    exact ⟨S', ev_read (c := C30) (d := B30) (by kernel_rfl) (by kernel_rfl) (annot_isOf C30 _ (by kernel_rfl)) h37' k1, k2⟩)
  exact ⟨2, _, S', h1, h2, Fz.same (.bool _)⟩
end Go.Proofs.YtcbaodegkfokjaaDoor.W
namespace Go.Proofs.YtcbaodegkfokjaaDoor.W
open Go.Proofs.YtcbaodegkfokjaaDoor.Ev
theorem foldmax_ge {α : Type} (f : α → Nat) : ∀ (l : List α) (d : Nat), d ≤ l.foldl (fun d y => max d (1 + f y)) d ∧ ∀ y ∈ l, 1 + f y ≤ l.foldl (fun d y => max d (1 + f y)) d
 | [], d => ⟨Nat.le_refl _, fun _ h => (by cases h)⟩
 | x :: l, d => by
  obtain ⟨h1, h2⟩ := foldmax_ge f l (max d (1 + f x))
  refine ⟨Nat.le_trans (Nat.le_max_left _ _) h1, fun y hy => ?_⟩
  rcases List.mem_cons.1 hy with rfl | hy
  · exact Nat.le_trans (Nat.le_max_right _ _) h1
  · exact h2 y hy
theorem deep_kid {m : Nat} {x y : Nd} (h2 : x.kind = 2) (hy : y ∈ x.kids) (h : deepN (m + 1) x < m + 1) : deepN m y < deepN (m + 1) x := by
 rw [deepN] at h ⊢
 by_cases hm : m = 0
 · rw [if_pos (.inr hm)] at h; omega
 · rw [if_neg (by omega)] at h ⊢
   have := (foldmax_ge (fun y => deepN m y) x.kids 1).2 y hy
   have this := this
   omega
end Go.Proofs.YtcbaodegkfokjaaDoor.W
namespace Go.Proofs.YtcbaodegkfokjaaDoor.W
open Go.Proofs.YtcbaodegkfokjaaDoor.Ev
def pathOf (p : List UInt8) (y : Nd) : List UInt8 := if p = [] then y.name else p ++ [47] ++ y.name
mutual
def pathsN : Nd → List UInt8 → List (List UInt8)
 | .mk _ k _ _ l, p => p :: (if k = 2 then pathsL l p else [])
def pathsL : List Nd → List UInt8 → List (List UInt8)
 | [], _ => []
 | y :: l, p => pathsN y (pathOf p y) ++ pathsL l p
end
theorem pathsN_eq (x : Nd) (p : List UInt8) : pathsN x p = p :: (if x.kind = 2 then pathsL x.kids p else []) := by cases x; rw [pathsN]; rfl
structure Yd (K : FuncId → Option KF) (n0 : Nat) (y : V) (I : (Nat → Prop) → List (List UInt8) → St → Prop) : Prop where
 on : ∀ {O acc S}, I O acc S → S.on = false
 lt : ∀ {O acc S b}, I O acc S → O b → b < S.next
 keep : ∀ {O acc S S'}, I O acc S → Grew O S S' → I (fun b => O b ∨ (S.next ≤ b ∧ b < S'.next)) acc S'
 weak : ∀ {O O' acc S}, I O acc S → (∀ b, O' b → O b) → I O' acc S
 one : OneV y
 call : ∀ {O acc S q x}, I O acc S → x.ok → q.length ≤ 100000 → acc.length < 3000 → ∀ n, n0 ≤ n → ∃ S', callK E0 (ev E0 K n) y [sv q, encN x] S = some (.ret (.bool true), S') ∧ I O (acc ++ [q]) S' ∧ Grew (fun b => ¬ O b) S S'
section
variable {K : FuncId → Option KF} {n0 : Nat} {y : V} {I : (Nat → Prop) → List (List UInt8) → St → Prop}
theorem Yd.keepO (h : Yd K n0 y I) {O acc S S'} (hI : I O acc S) (g : Grew O S S') : I O acc S' := h.weak (h.keep hI g) fun _ hb => .inl hb
def Inner (I : (Nat → Prop) → List (List UInt8) → St → Prop) (l p0 : Nat) (y : V) (O : Nat → Prop) (acc : List (List UInt8)) (S : St) : Prop :=
 ∃ O1, I O1 acc S ∧ (∀ b, O b → O1 b) ∧ O1 l ∧ O1 p0 ∧ ¬ O l ∧ ¬ O p0 ∧ l ≠ p0 ∧ S.heap.get l = some (O40_38 0 none (.ptr p0 0)) ∧ Bx S p0 60 [y]
theorem yd_inner (h : Yd K n0 y I) (l p0 : Nat) : Yd K (n0 + 1) (.yield l) (Inner I l p0 y) where
 on := fun ⟨_, h1, _⟩ => h.on h1
 lt := fun ⟨_, h1, h2, _⟩ hb => h.lt h1 (h2 _ hb)
 one := ⟨rfl, rfl, rfl, rfl⟩
 weak := fun ⟨O1, h1, h2, h3, h4, h5, h6, h7⟩ hw => ⟨O1, h1, fun b hb => h2 b (hw b hb), h3, h4, fun hb => h5 (hw _ hb), fun hb => h6 (hw _ hb), h7⟩
 keep := fun {O acc S S'} ⟨O1, h1, h2, h3, h4, h5, h6, h7, h8, h9⟩ g => by
  have l3 := h.lt h1 h3
  have l4 := h.lt h1 h4
  have g1 : Grew O1 S S' := g.mono fun b _ hb => h2 b hb
  refine ⟨fun b => O1 b ∨ (S.next ≤ b ∧ b < S'.next), h.keep h1 g1, fun b hb => hb.imp (h2 b) id, .inl h3, .inl h4, fun hb => ?_, fun hb => ?_, h7, by rw [g.keep l l3 h5]; exact h8, h9.grew l4 h6 g⟩
  · rcases hb with hb | hb
    · exact h5 hb
    · omega
  · rcases hb with hb | hb
    · exact h6 hb
    · omega
 call := fun {O acc S q x} ⟨O1, h1, h2, h3, h4, h5, h6, h7, h8, h9⟩ okx hq hacc n hn => by
  obtain ⟨k, rfl⟩ : ∃ k, n = k + 1 := ⟨n - 1, by omega⟩
  have ho := h.on h1
  have l3 := h.lt h1 h3
  have l4 := h.lt h1 h4
  obtain ⟨S1, a1, a2, a3, a4⟩ := node_new ho (Tr.ofListFrom .nil [(sv []), (.int .i64 0), (.bool false), (sv []), .nilslice] 0) x
  have g1 : Grew O1 S S1 := a3.mono fun _ _ h => h.elim
  have i1 := h.keepO h1 g1
  have hl1 : S1.heap.get l = some (O40_38 0 none (.ptr p0 0)) := by rw [a3.keep l l3 (fun h => h)]; exact h8
  have g2 : Grew (fun b => b = l) S1 (S1.put l (O40_38 2 none (.ptr p0 0))) := grew_put l _
  have hl2 : (S1.put l (O40_38 2 none (.ptr p0 0))).heap.get l = some (O40_38 2 none (.ptr p0 0)) := by rw [put_get, if_pos rfl]
  have n2 : (S1.put l (O40_38 2 none (.ptr p0 0))).next = S1.next := rfl
  have hmid : midR l (frR 46 [(3, .ptr p0 0), (7, sv q), (8, .ptr S.next 0), (38, sv q), (39, encN x)] l) S1 = fun k => k (S1.put l (O40_38 2 none (.ptr p0 0))) := funext fun k => midR_of a2.on hl1 rfl
  generalize S1.put l (O40_38 2 none (.ptr p0 0)) = S2 at g2 hl2 n2 hmid
  have on2 := g2.on.trans a2.on
  have i2 := h.keepO i1 (g2.mono fun b _ hb => by rw [hb]; exact h3)
  have hp2 : Bx S2 p0 60 [y] := (h9.grew l4 (fun h => h) a3).grew (by have := a3.next; omega) (fun e => h7 e.symm) g2
  have hn2 := a2.grew (by omega) (by omega) g2
  obtain ⟨S3, c1, c2, c3⟩ := h.call i2 okx hq hacc k (by omega)
  have on3 := c3.on.trans on2
  have hl3 : S3.heap.get l = some (O40_38 2 none (.ptr p0 0)) := by rw [c3.keep l (by have := a3.next; omega) (fun h => h h3)]; exact hl2
  have hp3 := hp2.grew (by have := a3.next; omega) (fun h => h h4) c3
  have g4 : Grew (fun b => b = l) S3 (S3.put l (O40_38 0 none (.ptr p0 0))) := grew_put l _
  refine ⟨S3.put l (O40_38 0 none (.ptr p0 0)), ?_, ⟨O1, h.keepO c2 (g4.mono fun b _ hb => by rw [hb]; exact h3), h2, h3, h4, h5, h6, h7, by rw [put_get, if_pos rfl], hp3.grew (by have := c3.next; have := a3.next; omega) (fun e => h7 e.symm) g4⟩, ?_⟩
  · refine round_run (da := DA40_38) (db := DB40_38) ho h8 (annot_isOf YA40_38 _ (by kernel_rfl)) (annot_isOf YB40_38 _ (by kernel_rfl)) (?_ : Y40_38 (ev E0 K k) rounds l (.ptr p0 0) (sv q) (encN x) S = _)
    rw [Y40_38_eq, oB, nwP_fst, a1, oB]
    dsimp only
    rw [hmid]
    dsimp only
    rw [Bx.ld1 on2 hp2 0 (by show 0 < 1; decide) big1, oB]
    dsimp only
    rw [hn2.fA, oB]
    dsimp only
    rw [show ([y] : List V)[0]'(by show 0 < 1; decide) = y from rfl, c1]
    rw [callE_ret, unV_not, oB, ifK_bool, Bool.not_true, cond_false]
    exact endRound_of on3 hl3
  · refine (((a3.mono fun _ _ h => h.elim).trans (g2.mono fun b _ hb => ?_)).trans (c3.mono fun b _ hb => fun hO => hb (h2 b hO))).trans (g4.mono fun b _ hb => ?_)
    · rw [hb]; exact h5
    · rw [hb]; exact h5
end
end Go.Proofs.YtcbaodegkfokjaaDoor.W
namespace Go.Proofs.YtcbaodegkfokjaaDoor.W
open Go.Proofs.YtcbaodegkfokjaaDoor.Ev
theorem body67 : E0.ext.get 40 = none ∧ hasBody E0 40 = true := ⟨by kernel_rfl, by kernel_rfl⟩
theorem f39_run {K : FuncId → Option KF} (h39 : K 26 = none) (m : Nat) (x : Nd) (q : List UInt8) (S : St) (ho : S.on = false) :
 ∃ S', (ev E0 K (m + 1)).f 26 [encN x, sv q] S = some (.ret (.fn (.func 40) [] [.ptr (S.next + 1) 0, .ptr S.next 0]), S') ∧ NodeAt S' S.next x ∧ Bx S' (S.next + 1) 9 [sv q] ∧ Grew (fun _ => False) S S' ∧ S'.next = S.next + 2 := by
 obtain ⟨S1, a1, a2, a3, a4⟩ := node_box ho x
 obtain ⟨S2, b1, b2, b3, b4⟩ := box_one a2.on 9 (oneV_sv q)
 rw [a4] at b1 b2
 refine ⟨S2, ev_read (c := C26) (d := B26) (by kernel_rfl) (by kernel_rfl) (annot_isOf C26 _ (by kernel_rfl)) h39 (?_ : F26 (ev E0 K m) rounds (encN x) (sv q) S = _), a2.grew (by omega) (fun h => h) b3, b2, a3.trans b3, by omega⟩
 rw [F26_eq, a1, oB]
 dsimp only
 rw [b1, oB]
theorem fin67 {self : EV} {a : Ac} (S : St) (ho : S.on = false) (bs : List Nat) (hd : a.defers = bs.map mkR) (hn : bs.Nodup) (h : ∀ b ∈ bs, S.heap.get b = some .defb) : ∃ S', finR E0 self Tryd.f40 a S = some (.ret (.tuple []), S') ∧ Grew (fun b => b ∈ bs) S S' := by
 have hl : ∀ S, leaves E0 self Tryd.f40 a [] .ret S = some (.ret (.tuple []), S) := fun S => by kernel_rfl
 cases bs with
 | nil =>
  refine ⟨S, ?_, Grew.refl _ _⟩
  unfold finR
  rw [hd]
  show resK E0 a Tryd.f40.results.toList _ S = _
  kernel_rfl
 | cons b bs =>
  obtain ⟨S', h1, h2, _⟩ := leaves_marks (E := E0) (self := self) (fn := Tryd.f40) (a := a) (m := .ret) (b :: bs) ho hn h
  refine ⟨S', ?_, h2⟩
  rw [finR_defer (d := mkR b) (ds := bs.map mkR) (by rw [hd]; rfl)]
  rw [List.map_cons] at h1
  rw [h1, hl]
section
variable {K : FuncId → Option KF}
def Walked (K : FuncId → Option KF) (d : Nat) : Prop :=
 ∀ (x : Nd), deepN d x < d → x.ok → mayN x = true → ∀ (p : List UInt8) (n0 : Nat) (y : V) (I : (Nat → Prop) → List (List UInt8) → St → Prop), Yd K n0 y I →
 ∀ (O : Nat → Prop) (acc : List (List UInt8)) (S : St) (pp px : Nat), I O acc S → O pp → O px → Bx S pp 9 [sv p] → NodeAt S px x → acc.length + (pathsN x p).length ≤ 3000 → p.length + 60 * d ≤ 10000 →
 ∀ n, n0 + 4 * d ≤ n → ∃ S', (ev E0 K n).f 40 [y, .ptr pp 0, .ptr px 0] S = some (.ret (.tuple []), S') ∧ I O (acc ++ pathsN x p) S' ∧ Grew (fun b => ¬ O b) S S'
theorem L67_spec (h39 : K 26 = none) {d : Nat} (ih : Walked K d) (m N : Nat) (x : Nd) (hk : ∀ z ∈ x.kids, z.ok ∧ mayN z = true ∧ z.name.length ≤ 56 ∧ deepN d z < d) (hfew : x.kids.length ≤ 3000) (p : List UInt8) (hp : p.length + 60 * (d + 1) ≤ 10000) (n0 : Nat) (hm : n0 + 4 * d + 1 ≤ m) (y : V) (I : (Nat → Prop) → List (List UInt8) → St → Prop) (hY : Yd K n0 y I)
 (nk : Ac → St → Rs) (O0 : Nat → Prop) (N0 p0 pp : Nat) (hO0 : ∀ b, O0 b → b < N0) (hp0 : ¬ O0 p0) :
 ∀ (r : List Nd) (i n : Nat) (O : Nat → Prop) (acc : List (List UInt8)) (bs : List Nat) (S : St), x.kids.drop i = r → r.length < n → I O acc S → O p0 → O pp → (∀ b, O0 b → O b) → N0 ≤ S.next →
 (∀ b ∈ bs, O b ∧ N0 ≤ b ∧ S.heap.get b = some .defb) → bs.Nodup → Bx S p0 60 [y] → Bx S pp 9 [sv p] → acc.length + (pathsL r p).length ≤ 3000 →
 ∃ S', L40_15 (ev E0 K m) N (finN E0 (ev E0 K m) Tryd.f40) (exB 0 (finN E0 (ev E0 K m) Tryd.f40) noEx) n (bs.map mkR) (.ptr pp 0) (.ptr p0 0) (kidsV (encL x.kids)) (.int .i64 (x.kids.length : Int)) (.int .i64 (i : Int)) S = some (.ret (.tuple []), S') ∧ I O0 (acc ++ pathsL r p) S' ∧ Grew (fun b => ¬ O0 b) S S'
 | r, i, 0, O, acc, bs, S, _, hn, _, _, _, _, _, _, _, _, _, _ => by omega
 | [], i, n + 1, O, acc, bs, S, hi, hn, hI, o0, op, oO, hN, hbs, hnd, b0, bp, hl => by
  rw [L40_15_eq, binV_ii, intsV_lss, dec_ge (drop_end hi), oB, ifK_bool, cond_false, exB_same]
  obtain ⟨S', h1, h2⟩ := fin67 (self := ev E0 K m) (a := frD 46 [] (bs.map mkR)) S (hY.on hI) bs rfl hnd fun b hb => (hbs b hb).2.2
  refine ⟨S', h1, ?_, h2.mono fun b _ hb hO => ?_⟩
  · rw [pathsL, List.append_nil]
    exact hY.weak (hY.keepO hI (h2.mono fun b _ hb => (hbs b hb).1)) oO
  · have := (hbs b hb).2.1
    have := hO0 b hO
    omega
 | z :: r, i, n + 1, O, acc, bs, S, hi, hn, hI, o0, op, oO, hN, hbs, hnd, b0, bp, hl => by
  obtain ⟨hlt, hz, hr, hmem⟩ := drop_at hi
  obtain ⟨okz, mayz, nmz, dz⟩ := hk z hmem
  have ho := hY.on hI
  have l0 := hY.lt hI o0
  have lp := hY.lt hI op
  obtain ⟨m', rfl⟩ : ∃ m', m = m' + 1 := ⟨m - 1, by omega⟩
  obtain ⟨S1, a1, a2, a3, a4⟩ := node_new ho (Tr.ofListFrom .nil [(sv []), (.int .i64 0), (.bool false), (sv []), .nilslice] 0) z
  have bp1 := bp.grew lp (fun h => h) a3
  have b01 := b0.grew l0 (fun h => h) a3
  obtain ⟨S2, c1, c2, c3, c4, c5⟩ := f39_run h39 m' z (pathOf p z) S1 a2.on
  have on2 := c4.on.trans a2.on
  have b02 := b01.grew (by omega) (fun h => h) c4
  have bp2 := bp1.grew (by omega) (fun h => h) c4
  have g3 : Grew (fun _ => False) S2 (nw (nw S2 .defb) (O40_38 0 none (.ptr p0 0))) := (grew_nw on2 _ _).trans (grew_nw (nw_on on2 _) _ _)
  have n3 : (nw (nw S2 .defb) (O40_38 0 none (.ptr p0 0))).next = S2.next + 2 := rfl
  have hd3 : (nw (nw S2 .defb) (O40_38 0 none (.ptr p0 0))).heap.get S2.next = some .defb := by
   rw [nw_get, if_neg (by show S2.next ≠ S2.next + 1; omega), nw_get, if_pos rfl]
  have hl3 : (nw (nw S2 .defb) (O40_38 0 none (.ptr p0 0))).heap.get (S2.next + 1) = some (O40_38 0 none (.ptr p0 0)) := by
   rw [nw_get]; exact if_pos rfl
  have hrange := fun (self : EV) (kn kr : St → Rs) (ke : Nat → St → Rs) (kp : V → St → Rs) => rangeP_fn (s := S2) (self := self) (first := []) (captured := [.ptr (S1.next + 1) 0, .ptr S1.next 0]) (o := O40_38 0 none (.ptr p0 0)) (kn := kn) (kr := kr) (ke := ke) (kp := kp) body67.1 body67.2
  generalize nw (nw S2 .defb) (O40_38 0 none (.ptr p0 0)) = S3 at g3 n3 hd3 hl3 hrange
  have on3 := g3.on.trans on2
  have g03 : Grew (fun _ => False) S S3 := (a3.trans c4).trans g3
  have i3 := hY.keep hI (g03.mono fun _ _ h => h.elim)
  have hO3 : ∀ b, S.next ≤ b → b < S3.next → (O b ∨ (S.next ≤ b ∧ b < S3.next)) := fun b h1 h2 => .inr ⟨h1, h2⟩
  have b03 := b02.grew (by omega) (fun h => h) g3
  have bp3 := bp2.grew (by omega) (fun h => h) g3
  have c2' := c2.grew (by omega) (fun h => h) g3
  have c3' := c3.grew (by omega) (fun h => h) g3
  have hO1 : ∀ b, O b → b < S.next := fun b hb => hY.lt hI hb
  have iin : Inner I (S2.next + 1) p0 y (fun b => (O b ∨ (S.next ≤ b ∧ b < S3.next)) ∧ b ≠ S2.next + 1 ∧ b ≠ p0) acc S3 :=
   ⟨_, i3, fun b hb => hb.1, .inr ⟨by omega, by omega⟩, .inl o0, fun hb => hb.2.1 rfl, fun hb => hb.2.2 rfl, by omega, hl3, b03⟩
  have hpl : (pathOf p z).length + 60 * d ≤ 10000 := by
   unfold pathOf
   split
   · omega
   · rw [List.length_append, List.length_append, List.length_singleton]; omega
  rw [pathsL, List.length_append] at hl
  obtain ⟨S4, e1, e2, e3⟩ := ih z dz okz mayz (pathOf p z) (n0 + 1) (.yield (S2.next + 1)) _ (yd_inner hY (S2.next + 1) p0) _ acc S3 (S1.next + 1) S1.next iin
   ⟨.inr ⟨by omega, by omega⟩, by omega, by omega⟩ ⟨.inr ⟨by omega, by omega⟩, by omega, by omega⟩ c3' c2' (by omega) hpl (m' + 1) (by omega)
  obtain ⟨O4, j1, j2, j3, j4, _, _, _, j8, j9⟩ := e2
  have on4 := e3.on.trans on3
  have n34 := e3.next
  have g5 : Grew (fun b => b = S2.next + 1) S4 (S4.put (S2.next + 1) (O40_38 3 none (.ptr p0 0))) := grew_put _ _
  have n5 : (S4.put (S2.next + 1) (O40_38 3 none (.ptr p0 0))).next = S4.next := rfl
  have hend := fun (kn kr : St → Rs) (ke : Nat → St → Rs) => endLP_norm (kn := kn) (kr := kr) (ke := ke) on4 j8 (by decide)
  have hend' : ∀ (kn kr : St → Rs) (ke : Nat → St → Rs), endLP (S2.next + 1) S4 kn kr ke = kn (S4.put (S2.next + 1) (O40_38 3 none (.ptr p0 0))) := hend
  clear hend
  generalize S4.put (S2.next + 1) (O40_38 3 none (.ptr p0 0)) = S5 at g5 n5 hend'
  have i5 := hY.keepO j1 (g5.mono fun b _ hb => by rw [hb]; exact j3)
  have hO4 : ∀ b, (O b ∨ (S.next ≤ b ∧ b < S3.next)) → O4 b := fun b hb => by
   by_cases h1 : b = S2.next + 1
   · rw [h1]; exact j3
   · by_cases h2 : b = p0
     · rw [h2]; exact j4
     · exact j2 b ⟨hb, h1, h2⟩
  have hkeep : ∀ b, (O b ∨ (S.next ≤ b ∧ b < S3.next)) → b ≠ S2.next + 1 → b ≠ p0 → S5.heap.get b = S3.heap.get b := fun b hb h1 h2 => by
   have hlt : b < S3.next := by
    rcases hb with hb | hb
    · have := hO1 b hb; omega
    · exact hb.2
   rw [g5.keep b (by omega) h1, e3.keep b hlt (fun h => h ⟨hb, h1, h2⟩)]
  have bp5 : Bx S5 pp 9 [sv p] := by
   by_cases e : pp = p0
   · exfalso
     rw [e] at bp
     unfold Bx at bp b0
     rw [bp] at b0
     simp at b0
   · unfold Bx
     rw [hkeep pp (.inl op) (by omega) e]; exact bp3
  have b05 : Bx S5 p0 60 [y] := j9.grew (by omega) (by omega) g5
  have hbs5 : ∀ b ∈ S2.next :: bs, O4 b ∧ N0 ≤ b ∧ S5.heap.get b = some .defb := fun b hb => by
   rcases List.mem_cons.1 hb with rfl | hb
   · refine ⟨hO4 _ (.inr ⟨by omega, by omega⟩), by omega, ?_⟩
     rw [hkeep _ (.inr ⟨by omega, by omega⟩) (by omega) (by omega)]
     exact hd3
   · obtain ⟨q1, q2, q3⟩ := hbs b hb
     have q4 := hO1 b q1
     refine ⟨hO4 b (.inl q1), q2, ?_⟩
     have hne : b ≠ p0 := fun e => by
      unfold Bx at b0
      rw [e, b0] at q3
      cases q3
     rw [hkeep b (.inl q1) (by omega) hne, g03.keep b q4 (fun h => h)]
     exact q3
  have hnd5 : (S2.next :: bs).Nodup := List.nodup_cons.2 ⟨fun hb => by
   have := hO1 _ (hbs _ hb).1
   omega, hnd⟩
  obtain ⟨S6, k1, k2, k3⟩ := L67_spec h39 ih (m' + 1) N x hk hfew p hp n0 hm y I hY nk O0 N0 p0 pp hO0 hp0 r (i + 1) n O4 (acc ++ pathsN z (pathOf p z)) (S2.next :: bs) S5 hr (by simp at hn; omega) i5 (hO4 _ (.inl o0)) (hO4 _ (.inl op)) (fun b hb => hO4 b (.inl (oO b hb))) (by omega) hbs5 hnd5 b05 bp5 (by rw [List.length_append]; omega)
  refine ⟨S6, ?_, by rw [pathsL, ← List.append_assoc]; exact k2, ?_⟩
  · -- the text
    have tail : ∀ (a1 : Ac) (a2 a3 : V → St → Ac), (callPF E0 (ev E0 K (m' + 1)) Tryd.f40 a1 ((ev E0 K (m' + 1)).f 26 [encN z, sv (pathOf p z)] S1) fun t51 S51 =>
     rangeP E0 (ev E0 K (m' + 1)) t51 (O40_38 0 none (.ptr p0 0)) S51 (fun S53 =>
     R40_17 (ev E0 K (m' + 1)) N (N40_15 (ev E0 K (m' + 1)) N (finN E0 (ev E0 K (m' + 1)) Tryd.f40) (exB 0 (finN E0 (ev E0 K (m' + 1)) Tryd.f40) noEx) n) (exB 0 (finN E0 (ev E0 K (m' + 1)) Tryd.f40) noEx) (frD 46 [(1, .ptr pp 0), (3, .ptr p0 0), (20, kidsV (encL x.kids)), (21, .int .i64 (x.kids.length : Int)), (22, .int .i64 (i : Int))] (mkR S51.next :: bs.map mkR)) S53) (fun s => finR E0 (ev E0 K (m' + 1)) Tryd.f40 (a2 t51 S51) s) (fun i s => (exB 2 (R40_17 (ev E0 K (m' + 1)) N (N40_15 (ev E0 K (m' + 1)) N (finN E0 (ev E0 K (m' + 1)) Tryd.f40) (exB 0 (finN E0 (ev E0 K (m' + 1)) Tryd.f40) noEx) n) (exB 0 (finN E0 (ev E0 K (m' + 1)) Tryd.f40) noEx)) (exB 1 (R40_17 (ev E0 K (m' + 1)) N (N40_15 (ev E0 K (m' + 1)) N (finN E0 (ev E0 K (m' + 1)) Tryd.f40) (exB 0 (finN E0 (ev E0 K (m' + 1)) Tryd.f40) noEx) n) (exB 0 (finN E0 (ev E0 K (m' + 1)) Tryd.f40) noEx)) (exB 0 (finN E0 (ev E0 K (m' + 1)) Tryd.f40) noEx))) i (a2 t51 S51) s) (fun v s => leaves E0 (ev E0 K (m' + 1)) Tryd.f40 (a3 t51 S51) (mkR S51.next :: bs.map mkR) (.pan v) s)) = some (.ret (.tuple []), S6) := fun a1 a2 a3 => by
     rw [c1, callPF_ret, hrange]
     show onEn ((ev E0 K (m' + 1)).f 40 [.yield (S2.next + 1), .ptr (S1.next + 1) 0, .ptr S1.next 0] S3) _ _ = _
     rw [e1]
     show endLP (S2.next + 1) S4 _ _ _ = _
     rw [hend', R40_17_eq, binV_ii, intsV_add, wrap_succ (show i < 9223372036854775807 by omega), oB, N40_15_eq]
     exact k1
    rw [L40_15_eq, binV_ii, intsV_lss, dec_lt hlt, oB, ifK_bool, cond_true, ixP_kids x.kids i hlt, hz, oB, ldA_kid, oB, oB, nwP_fst, a1, oB]
    dsimp only
    rw [faP_ptr, oB, Nat.zero_add, a2.f0, oB]
    dsimp only
    rw [Bx.ld1 a2.on bp1 0 (by show 0 < 1; decide) big1, oB]
    dsimp only
    rw [show ([sv p] : List V)[0]'(by show 0 < 1; decide) = sv p from rfl, show (sv []) = sv ([] : List UInt8) from rfl, binV_ss, strOp_neq, oB, ifK_bool]
    by_cases hpe : p = []
    · have : pathOf p z = z.name := by unfold pathOf; rw [if_pos hpe]
      rw [beq_iff_eq.2 hpe, Bool.not_true, cond_false, a2.fA, oB]
      dsimp only
      rw [this] at tail
      exact tail _ _ _
    · have : pathOf p z = p ++ [47] ++ z.name := by unfold pathOf; rw [if_neg hpe]
      rw [beq_false_of_ne hpe, Bool.not_false, cond_true, Bx.ld1 a2.on bp1 0 (by show 0 < 1; decide) big1, oB]
      dsimp only
      rw [show ([sv p] : List V)[0]'(by show 0 < 1; decide) = sv p from rfl, binV_ss, strOp_add _ _ (by rw [show ([47] : List UInt8).length = 1 from rfl]; omega), oB, oB, a2.f0, oB]
      dsimp only
      rw [binV_ss, strOp_add _ _ (by rw [List.length_append, show ([47] : List UInt8).length = 1 from rfl]; omega), oB, a2.fA, oB]
      dsimp only
      rw [this] at tail
      exact tail _ _ _
  · refine ((g03.mono fun _ _ h => h.elim).trans ((e3.mono fun b hb hnb hO => ?_).trans (g5.mono fun b _ hb hO => ?_))).trans k3
    · refine hnb ⟨.inl (oO b hO), ?_, ?_⟩
      · have := hO0 b hO; omega
      · intro e; rw [e] at hO; exact hp0 hO
    · rw [hb] at hO
      have := hO0 _ hO
      omega
theorem may_names {x : Nd} (h : mayN x = true) (hk : x.kind = 2) : ∀ z ∈ x.kids, mayN z = true ∧ nameOk z.name = true := by
 rw [mayN_eq, if_neg (by omega), if_neg (by omega), if_pos hk] at h
 simp only [Bool.and_eq_true] at h
 have key : ∀ (l : List Nd) (p : Option (List UInt8)), mayL p l = true → ∀ z ∈ l, mayN z = true ∧ nameOk z.name = true := fun l => by
  induction l with
  | nil => intro p _ z hz; cases hz
  | cons x l ih =>
   intro p h z hz
   rw [mayL] at h
   simp only [Bool.and_eq_true] at h
   rcases List.mem_cons.1 hz with rfl | hz
   · exact ⟨h.1.1.2, h.1.1.1⟩
   · exact ih _ h.2 z hz
 exact key _ _ h.1
theorem nameOk_all {s : List UInt8} (h : nameOk s = true) : 1 ≤ s.length ∧ s.length ≤ 56 ∧ s.any badByte = false := by
 unfold nameOk at h
 simp only [Bool.and_eq_true, decide_eq_true_eq, Bool.not_eq_true'] at h
 exact ⟨h.1.1.1.1, h.1.1.1.2, h.1.1.2⟩
theorem walked (h39 : K 26 = none) (h67 : K 40 = none) : ∀ d, Walked K d
 | 0 => fun x hd => by omega
 | d + 1 => fun x hd ok may p n0 y I hY O acc S pp px hI op ox bp nx hl hp n hn => by
  have ih := walked h39 h67 d
  obtain ⟨m, rfl⟩ : ∃ m, n = m + 1 := ⟨n - 1, by omega⟩
  have ho := hY.on hI
  have lp := hY.lt hI op
  have lx := hY.lt hI ox
  have hO : ∀ b, O b → b < S.next := fun b hb => hY.lt hI hb
  suffices h : ∃ S', F40 (ev E0 K m) rounds y (.ptr pp 0) (.ptr px 0) S = some (.ret (.tuple []), S') ∧ I O (acc ++ pathsN x p) S' ∧ Grew (fun b => ¬ O b) S S' by
   obtain ⟨S', h1, h2, h3⟩ := h
   exact ⟨S', ev_read (c := C40) (d := B40) (by kernel_rfl) (by kernel_rfl) (annot_isOf C40 _ (by kernel_rfl)) h67 h1, h2, h3⟩
  obtain ⟨S1, a1, a2, a3, a4⟩ := box_one ho 60 hY.one
  have on1 := a3.on.trans ho
  have i1 := hY.keep hI (a3.mono fun _ _ h => h.elim)
  have bp1 := bp.grew lp (fun h => h) a3
  have nx1 := nx.grew lx (fun h => h) a3
  rw [pathsN_eq, List.length_cons] at hl
  obtain ⟨S2, b1, b2, b3⟩ := hY.call i1 ok (q := p) (by omega) (by omega) m (by omega)
  have on2 := b3.on.trans on1
  have c0 : Bx S2 S.next 60 [y] := a2.grew (by omega) (fun h => h (.inr ⟨by omega, by omega⟩)) b3
  have bp2 := bp1.grew (by omega) (fun h => h (.inl op)) b3
  have nx2 := nx1.grew (by omega) (fun h => h (.inl ox)) b3
  have n2 := b3.next
  have g02 : Grew (fun b => ¬ O b) S S2 := (a3.mono fun _ _ h => h.elim).trans (b3.mono fun b _ hb h => hb (.inl h))
  rw [F40_eq, a1, oB]
  dsimp only
  rw [Bx.ld1 on1 a2 0 (by show 0 < 1; decide) big1, oB]
  dsimp only
  rw [Bx.ld1 on1 bp1 0 (by show 0 < 1; decide) big1, oB]
  dsimp only
  rw [nx1.fA, oB]
  dsimp only
  rw [show ([y] : List V)[0]'(by show 0 < 1; decide) = y from rfl, show ([sv p] : List V)[0]'(by show 0 < 1; decide) = sv p from rfl, b1, callPF_ret, unV_not, oB, Bool.not_true, show guardV false (.bool false) = some true from rfl, oB, cond_true, faP_ptr, oB, oB, cond_true, Nat.zero_add, nx2.f1, oB, oB, cond_true]
  dsimp only
  rw [binV_ii, intsV_neq, oB, pickV_bool, cond_false, oB, ifK_bool]
  by_cases hk : x.kind = 2
  · rw [decide_eq_true hk, Bool.not_true, cond_false, faP_ptr, oB, Nat.zero_add, nx2.f4, oB]
    dsimp only
    rw [lnS_kids, oB]
    dsimp only
    have hnm := may_names may hk
    rw [if_pos hk] at hl
    obtain ⟨S3, c1, c2, c3⟩ := L67_spec h39 ih m rounds x (fun z hz => ⟨ok.at.kids z hz, (hnm z hz).1, (nameOk_all (hnm z hz).2).2.1, by have := deep_kid hk hz hd; omega⟩) ok.at.few p hp n0 (by omega) y I hY (fun _ _ => none) O S.next S.next pp hO (fun h => by have := hO _ h; omega)
     x.kids 0 rounds _ (acc ++ [p]) [] S2 rfl (by have := ok.at.few; unfold rounds; omega) b2 (.inr ⟨by omega, by omega⟩) (.inl op) (fun b hb => .inl hb) (by omega) (fun _ h => by cases h) List.nodup_nil c0 bp2 (by rw [List.length_append, List.length_singleton]; omega)
    rw [show ((0 : Nat) : Int) = 0 from rfl] at c1
    refine ⟨S3, c1, ?_, g02.trans c3⟩
    rw [pathsN_eq, if_pos hk]
    rw [List.append_assoc] at c2
    exact c2
  · rw [decide_eq_false hk, Bool.not_false, cond_true]
    obtain ⟨S3, c1, c2⟩ := fin67 (self := ev E0 K m) (a := frD 46 [(0, y), (1, .ptr pp 0), (2, .ptr px 0), (3, .ptr S.next 0), (9, y), (10, sv p), (11, encN x), (12, .bool true), (13, .bool false), (14, .bool false), (15, .ptr px 1), (16, .int .i64 x.kind), (17, .bool true), (18, .bool true)] []) S2 on2 [] rfl List.nodup_nil (fun _ h => by cases h)
    refine ⟨S3, c1, ?_, g02.trans (c2.mono fun _ _ h => by cases h)⟩
    rw [pathsN_eq, if_neg hk]
    exact hY.weak (hY.keepO b2 (c2.mono fun _ _ h => by cases h)) fun b hb => .inl hb
end
end Go.Proofs.YtcbaodegkfokjaaDoor.W
namespace Go.Proofs.YtcbaodegkfokjaaDoor.W
open Go.Proofs.YtcbaodegkfokjaaDoor.Ev
end Go.Proofs.YtcbaodegkfokjaaDoor.W
