/-
  WHAT THE FUNCTIONS COME TO: each is read by the evaluator, printed, and told as a function of data, part 2 of 4 (no condition).
-/
import Derived.Test.YtcbaodegkfokjaaDoorW1
import Derived.WalkKit
import Derived.ProofKit
import Derived.OpenShut
namespace Go.Proofs.YtcbaodegkfokjaaDoor.W
open Go.Proofs.YtcbaodegkfokjaaDoor.Ev
inductive KForm where
 | nil
 | empty
 | list
mutual
inductive Rw where
 | mk (name : List UInt8) (kind : Int) (exec : Bool) (data : List UInt8) (form : KForm) (kids : List Rw)
end
noncomputable def kform : KForm → List V → V
 | .nil, _ => .nilslice
 | .empty, _ => .eslice
 | .list, l => .list 5 l
mutual
noncomputable def rwV : Rw → V
 | .mk n k e d f l => vAgg [sv n, .int .i64 k, .bool e, sv d, kform f (rwVs l)]
noncomputable def rwVs : List Rw → List V
 | [] => []
 | x :: l => rwV x :: rwVs l
end
def Rw.kids : Rw → List Rw
 | .mk _ _ _ _ .list l => l
 | .mk _ _ _ _ _ _ => []
def Rw.form : Rw → KForm | .mk _ _ _ _ f _ => f
def Rw.name : Rw → List UInt8 | .mk n _ _ _ _ _ => n
def Rw.kind : Rw → Int | .mk _ k _ _ _ _ => k
def Rw.exec : Rw → Bool | .mk _ _ e _ _ _ => e
def Rw.data : Rw → List UInt8 | .mk _ _ _ d _ _ => d
theorem rwVs_map : ∀ l : List Rw, rwVs l = l.map rwV
 | [] => rfl
 | x :: l => by rw [rwVs, rwVs_map l]; rfl
noncomputable def kidsR (x : Rw) : V := match x with | .mk _ _ _ _ f l => kform f (rwVs l)
noncomputable def cellsR (x : Rw) : List V := [sv x.name, .int .i64 x.kind, .bool x.exec, sv x.data, kidsR x]
theorem rwV_cells (x : Rw) : rwV x = vAgg (cellsR x) := by cases x; rw [rwV]; rfl
def RwOk (x : Rw) : Prop := x.name.length < 9223372036854775808 ∧ (-9223372036854775808 ≤ x.kind ∧ x.kind < 9223372036854775808)
def DeepOk : Nat → Rw → Prop
 | 0, x => RwOk x
 | d + 1, x => RwOk x ∧ ∀ y ∈ x.kids, DeepOk d y
theorem cntL_le (B : Nat) : ∀ l : List Nd, (∀ y ∈ l, cntN y ≤ B) → cntL l ≤ l.length * B
 | [], _ => by rw [cntL]; omega
 | x :: l, h => by
  have h1 := h x (List.mem_cons_self ..)
  have h2 := cntL_le B l fun y hy => h y (List.mem_cons_of_mem _ hy)
  rw [cntL, List.length_cons, Nat.succ_mul]
  omega
mutual
theorem under_encN (N : Nat) : ∀ x : Nd, Under N (encN x)
 | .mk n k e d l => by
  rw [encN]
  refine .agg fun i v hi => ?_
  rw [vAgg_get] at hi
  have hk : Under N (kidsV (encL l)) := by
   have := under_encL N l
   cases hl : encL l with
   | nil => exact .nilslice
   | cons a m => rw [hl] at this; exact .list this
  match i, hi with
  | 0, hi => simp at hi; subst hi; exact under_sv _
  | 1, hi => simp at hi; subst hi; exact .int _ _
  | 2, hi => simp at hi; subst hi; exact .bool _
  | 3, hi => simp at hi; subst hi; exact under_sv _
  | 4, hi => simp at hi; subst hi; exact hk
  | i + 5, hi => simp at hi
theorem under_encL (N : Nat) : ∀ l : List Nd, Unders N (encL l)
 | [] => by rw [encL]; exact .nil
 | x :: l => by rw [encL]; exact .cons (under_encN N x) (under_encL N l)
end
noncomputable def treeN (x : Nd) : Tr V := Tr.ofListFrom .nil (cellsN x) 0
theorem encN_tree (x : Nd) : encN x = .agg 5 (treeN x) := by rw [encN_cells]; rfl
section
variable {s : St}
theorem bsP_node (ho : s.on = false) (z : Tr V) (x : Nd) : ∃ t, bsP 24 5 1 z [(0, encN x)] s = some (.slice s.next 0 1 1, t) ∧ RowAt t s.next 24 5 [treeN x] ∧ Grew (fun _ => False) s t ∧ t.next = s.next + 1 := by
 rw [encN_tree]
 refine ⟨nw s (.cells 24 5 1 false ((Tr.tab 1 1 fun _ => z).set (treeN x) 0)), ?_, ?_, grew_nw ho _ _, rfl⟩
 · unfold bsP fillE fillE
   simp only [V.size, isTuple, V.cells, show Nat.beq 5 5 = true from rfl, Bool.not_false, Bool.and_true, show Nat.blt 0 1 = true from rfl, cond_true, Tr.setC_eq, oB]
 · refine rowAt_nw ho (by omega) rfl (by unfold big; omega) fun i t h => ?_
   rw [Tr.get_set]
   cases i with
   | zero => simpa using h
   | succ i => simp at h
theorem ap_first (ho : s.on = false) {b : Nat} {t : Tr V} (h : RowAt s b 24 5 [t]) : ∃ u, apP 24 5 72 .nilslice (.slice b 0 1 1) s = some (.oslice s.next 0 1 5, u) ∧ RowAt u s.next 24 5 [t] ∧ Grew (fun _ => False) s u ∧ u.next = s.next + 1 := by
 refine ⟨newCells s 24 5 [t], ?_, rowAt_newCells ho (by omega) (by unfold big; simp), grew_nw ho _ _, rfl⟩
 unfold apP
 simp only [lenV, oB, show Nat.blt ((0 + 1) * (72 + 5 + 1)) maxCells = true from rfl, cond_true]
 unfold appendV firstV
 have := h.ldN ho 1 0 (by simp)
 simp only [Nat.zero_mul, List.drop_zero] at this
 simp only [this, oB, show Nat.beq 1 0 = false from rfl, cond_false]
 rfl
theorem ap_more (ho : s.on = false) {b r : Nat} {t : Tr V} {l : List (Tr V)} (h : RowAt s b 24 5 [t]) (hr : RowAt s r 24 5 l) (hl : l.length ≤ 3000) : ∃ u, apP 24 5 72 (.oslice r 0 l.length 5) (.slice b 0 1 1) s = some (.oslice s.next 0 (l.length + 1) 5, u) ∧ RowAt u s.next 24 5 (l ++ [t]) ∧ Grew (fun x => x = r) s u ∧ u.next = s.next + 1 := by
 obtain ⟨c, hc1, hc2⟩ := hr.row
 have hfit := hr.fit
 refine ⟨nw (s.put r .dead) (.cells 24 5 (l.length + 1) false (c.set t l.length)), ?_, ?_, ?_, rfl⟩
 · unfold apP
   have hm : Nat.blt ((l.length + 1) * (72 + 5 + 1)) maxCells = true := by rw [blt_true]; unfold maxCells; omega
   simp only [lenV, oB, hm, cond_true]
   unfold appendV firstV
   have := h.ldN ho 1 0 (by simp)
   simp only [Nat.zero_mul, List.drop_zero] at this
   simp only [this, oB, show Nat.beq 5 5 = true from rfl, cond_true]
   unfold sizeB
   rw [hc1]
   have hb : Nat.ble (0 + (l.length + 1) * 5) (5 * l.length) = false := by
    cases hh : Nat.ble (0 + (l.length + 1) * 5) (5 * l.length) with
    | false => rfl
    | true => rw [ble_true] at hh; omega
   simp only [blt_true.2 hfit, cond_true, oB, note_off ho, hb, cond_false]
   unfold growV
   rw [hc1]
   simp only [show Nat.beq 24 24 = true from rfl, Bool.not_true, Bool.or_self, cond_false, show Nat.beq 5 5 = true from rfl, show Nat.beq 0 0 = true from rfl, Nat.beq_refl, blt_true.2 hfit, Bool.and_self, cond_true]
   rw [show List.take 1 [t] = [t] from rfl]
   unfold addLC addLC
   rw [Tr.setC_eq]
   unfold setO
   rw [note_off ho]
 · have hnx : (s.put r .dead).next = s.next := rfl
   have := rowAt_nw (s := s.put r .dead) (e := 24) (z := 5) (n := l.length + 1) (c := c.set t l.length) (l := l ++ [t]) ho (by omega) (by simp) (by unfold big; omega) fun i u h => by
    rw [Tr.get_set]
    by_cases hi : i = l.length
    · subst hi
      rw [if_pos rfl]
      simpa using h
    · rw [if_neg hi]
      have hlt := (List.getElem?_eq_some_iff.1 h).1
      rw [List.length_append, List.length_singleton] at hlt
      rw [List.getElem?_append_left (by omega)] at h
      exact hc2 i u h
   exact this
 · exact ⟨by show s.next ≤ s.next + 1; omega, (nw_on (s := s.put r .dead) ho _).trans ho.symm, fun x hx hw => by
    rw [nw_get, if_neg (by show x ≠ s.next; omega), put_get, if_neg hw]⟩
end
end Go.Proofs.YtcbaodegkfokjaaDoor.W
namespace Go.Proofs.YtcbaodegkfokjaaDoor.W
open Go.Proofs.YtcbaodegkfokjaaDoor.Ev
section
variable {s : St}
theorem Bx.var {b e : Nat} {l : List V} (h : Bx s b e l) (h0 : 0 < l.length) (hl : l.length < big) : VarAt s b e l.length l := by
 refine ⟨h0, hl, rfl, _, h, fun i v hi => ?_⟩
 have hlt := (List.getElem?_eq_some_iff.1 hi).1
 rw [tr_two, if_pos hlt]; exact hi
theorem VarAt.agg {b e z : Nat} {l : List V} (h : VarAt s b e z l) : ∃ t, AgAt s b e z t ∧ ∀ (i : Nat) v, l[i]? = some v → t.get i = some v := by
 obtain ⟨c, h1, h2⟩ := h.row
 have hl := h.len
 obtain ⟨u, hu⟩ : ∃ u, l[0]? = some u := ⟨_, List.getElem?_eq_getElem (by have := h.pos; omega)⟩
 have h0 := h2 0 u hu
 rw [cellOf_zero h.pos, oI] at h0
 obtain ⟨t, ht, _⟩ := h0
 refine ⟨t, ⟨c, h1, ht⟩, fun i v hi => ?_⟩
 have hlt := (List.getElem?_eq_some_iff.1 hi).1
 have := h2 i v hi
 rw [cellOf_zero (by omega), ht] at this
 exact this
def SliceIs (s : St) (N0 : Nat) (v : V) (acc : List Nd) : Prop := (acc = [] ∧ v = .nilslice) ∨ (acc ≠ [] ∧ ∃ r, v = .oslice r 0 acc.length 5 ∧ RowAt s r 24 5 (acc.map treeN) ∧ N0 ≤ r ∧ r < s.next)
theorem SliceIs.grew {W : Nat → Prop} {t : St} {N0 : Nat} {v : V} {acc : List Nd} (h : SliceIs s N0 v acc) (hw : ∀ r, N0 ≤ r → r < s.next → ¬ W r) (g : Grew W s t) : SliceIs t N0 v acc := by
 rcases h with h | ⟨h1, r, h2, h3, h4, h5⟩
 · exact .inl h
 · exact .inr ⟨h1, r, h2, h3.grew h5 (hw r h4 h5) g, h4, Nat.lt_of_lt_of_le h5 g.next⟩
theorem SliceIs.add (ho : s.on = false) {N0 : Nat} {v : V} {acc : List Nd} (h : SliceIs s N0 v acc) (hN : N0 ≤ s.next) (hl : acc.length ≤ 3000) (z : Tr V) (y : Nd) :
 ∃ t v' u, bsP 24 5 1 z [(0, encN y)] s = some (.slice s.next 0 1 1, t) ∧ apP 24 5 72 v (.slice s.next 0 1 1) t = some (v', u) ∧ SliceIs u N0 v' (acc ++ [y]) ∧ Grew (fun x => N0 ≤ x) s u := by
 obtain ⟨t, h1, h2, h3, h4⟩ := bsP_node ho z y
 have on1 := h3.on.trans ho
 rcases h with ⟨rfl, rfl⟩ | ⟨hne, r, rfl, hr, hNr, hrn⟩
 · obtain ⟨u, k1, k2, k3, k4⟩ := ap_first on1 h2
   refine ⟨t, _, u, h1, k1, .inr ⟨by simp, t.next, rfl, k2, by omega, by omega⟩, (Grew.of0 h3).trans (Grew.of0 k3)⟩
 · have hr1 := hr.grew hrn (fun h => h) h3
   obtain ⟨u, k1, k2, k3, k4⟩ := ap_more on1 h2 hr1 (by simpa using hl)
   rw [List.length_map] at k1
   refine ⟨t, _, u, h1, k1, .inr ⟨by simp, t.next, by rw [List.length_append]; rfl, by rw [List.map_append]; exact k2, by omega, by omega⟩, (Grew.of0 h3).trans (k3.mono fun x _ hx => by rw [hx]; exact hNr)⟩
end
theorem lnS_kidsR (x : Rw) (S : St) : lnS (kidsR x) S = some (.int .i64 (x.kids.length : Int), S) := by
 cases x with
 | mk n k e d f l =>
  cases f with
  | nil => rfl
  | empty => rfl
  | list =>
   show some (V.int .i64 (.ofNat (rwVs l).length), S) = _
   rw [rwVs_map, List.length_map]; rfl
theorem ixP_kidsR (x : Rw) (i : Nat) (h : i < x.kids.length) : ixP 5 (kidsR x) (.int .i64 (i : Int)) = some (.cptr (rwV x.kids[i])) := by
 cases x with
 | mk n k e d f l =>
  cases f with
  | nil => simp [Rw.kids] at h
  | empty => simp [Rw.kids] at h
  | list =>
   have h' : i < l.length := h
   show ixP 5 (.list 5 (rwVs l)) _ = _
   rw [ixP_list 5 (rwVs l) .i64 i (by rw [rwVs_map, List.length_map]; exact h') (by decide)]
   congr 2
   simp only [rwVs_map, List.getElem_map]
   rfl
theorem ldA_kidR (x : Rw) (S : St) : ldA 5 (.cptr (rwV x)) S = some (rwV x, S) := by rw [rwV_cells]; exact ldA_cptr (cellsR x)
end Go.Proofs.YtcbaodegkfokjaaDoor.W
namespace Go.Proofs.YtcbaodegkfokjaaDoor.W
open Go.Proofs.YtcbaodegkfokjaaDoor.Ev
theorem rwV_fields {x y : Rw} (h : rwV x = rwV y) : x.name = y.name ∧ x.kind = y.kind ∧ x.exec = y.exec ∧ x.data = y.data ∧ kidsR x = kidsR y := by
 rw [rwV_cells, rwV_cells] at h
 have h := vAgg_inj h
 simp only [cellsR, List.cons.injEq, V.int.injEq, V.bool.injEq, true_and, and_true] at h
 obtain ⟨h1, h2, h3, h4, h5⟩ := h
 exact ⟨sv_inj h1, h2, h3, sv_inj h4, h5⟩
theorem kidsR_map {x y : Rw} (h : kidsR x = kidsR y) : x.kids.map rwV = y.kids.map rwV := by
 cases x with
 | mk n k e d f l =>
  cases y with
  | mk n' k' e' d' f' l' =>
   cases f <;> cases f' <;> simp only [kidsR, kform, reduceCtorEq, V.list.injEq, true_and] at h
   · rfl
   · rfl
   · rw [rwVs_map, rwVs_map] at h; exact h
theorem map_eq_of {f : Rw → Nd} : ∀ {l m : List Rw}, (∀ x y, rwV x = rwV y → f x = f y) → l.map rwV = m.map rwV → l.map f = m.map f
 | [], [], _, _ => rfl
 | [], _ :: _, _, h => by simp at h
 | _ :: _, [], _, h => by simp at h
 | x :: l, y :: m, hf, h => by
  simp only [List.map_cons, List.cons.injEq] at h ⊢
  exact ⟨hf x y h.1, map_eq_of hf h.2⟩
end Go.Proofs.YtcbaodegkfokjaaDoor.W
namespace Go.Proofs.YtcbaodegkfokjaaDoor.W
open Go.Proofs.YtcbaodegkfokjaaDoor.Ev
def frz (W : World) : Rho := ⟨fun _ => none, fun k => W.heap[k]?⟩
theorem u24 : ∃ f0 f1 f2 f3 f4 : Field, Tryd.prog.underlying 24 = some (.struct #[f0, f1, f2, f3, f4]) ∧ (f0.type = 9 ∧ f0.offset = 0) ∧ (f1.type = 3 ∧ f1.offset = 1) ∧ (f2.type = 4 ∧ f2.offset = 2) ∧ (f3.type = 9 ∧ f3.offset = 3) ∧ (f4.type = 22 ∧ f4.offset = 4) :=
 ⟨_, _, _, _, _, Tryd.underlying24, ⟨rfl, rfl⟩, ⟨rfl, rfl⟩, ⟨rfl, rfl⟩, ⟨rfl, rfl⟩, ⟨rfl, rfl⟩⟩
theorem u22 : Tryd.prog.underlying 22 = some (.slice 24) := by kernel_rfl
theorem u9 : Tryd.prog.underlying 9 = some .string := by kernel_rfl
theorem u3 : Tryd.prog.underlying 3 = some (.int .i64) := by kernel_rfl
theorem u4 : Tryd.prog.underlying 4 = some .bool := by kernel_rfl
theorem c24 : Tryd.prog.cellsOf 24 = 5 := by kernel_rfl
theorem c9 : Tryd.prog.cellsOf 9 = 1 := by kernel_rfl
theorem c3 : Tryd.prog.cellsOf 3 = 1 := by kernel_rfl
theorem c4 : Tryd.prog.cellsOf 4 = 1 := by kernel_rfl
theorem c22 : Tryd.prog.cellsOf 22 = 1 := by kernel_rfl
mutual
def AllOk : Rw → Prop
 | .mk n k _ _ _ l => n.length < 9223372036854775808 ∧ (-9223372036854775808 ≤ k ∧ k < 9223372036854775808) ∧ AllOks l
def AllOks : List Rw → Prop
 | [] => True
 | x :: l => AllOk x ∧ AllOks l
end
theorem allOks_iff : ∀ l : List Rw, AllOks l ↔ ∀ x ∈ l, AllOk x
 | [] => by simp [AllOks]
 | x :: l => by simp [AllOks, allOks_iff l]
theorem allOk_deep : ∀ (d : Nat) (x : Rw), AllOk x → DeepOk d x
 | 0, .mk n k e a f l, h => by rw [AllOk] at h; exact ⟨h.1, h.2.1⟩
 | d + 1, .mk n k e a f l, h => by
  rw [AllOk] at h
  refine ⟨⟨h.1, h.2.1⟩, fun y hy => ?_⟩
  cases f with
  | nil => cases hy
  | empty => cases hy
  | list => exact allOk_deep d y ((allOks_iff l).1 h.2.2 y hy)
theorem mapM_range_some {α : Type} {f : Nat → Option α} : ∀ (n k : Nat) {r : List α}, ((List.range' k n).mapM f) = some r → r.length = n ∧ ∀ i, i < n → ∃ y, r[i]? = some y ∧ f (k + i) = some y
 | 0, k, r, h => by
  simp at h; subst h
  exact ⟨rfl, fun i hi => by omega⟩
 | n + 1, k, r, h => by
  rw [List.range'_succ, List.mapM_cons] at h
  simp only [Option.bind_eq_bind, oI, Option.pure_def, oS] at h
  obtain ⟨y, hy, r', hr', rfl⟩ := h
  obtain ⟨h1, h2⟩ := mapM_range_some n (k + 1) hr'
  refine ⟨by simp [h1], fun i hi => ?_⟩
  cases i with
  | zero => exact ⟨y, rfl, hy⟩
  | succ i =>
   obtain ⟨z, hz1, hz2⟩ := h2 i (by omega)
   exact ⟨z, by simpa using hz1, by rw [show k + (i + 1) = k + 1 + i by omega]; exact hz2⟩
theorem cells?_at {W : World} {a : Addr} {n : Nat} {cs : List Value} (h : W.cells? 0 a n = some cs) : cs.length = n ∧ ∀ i, i < n → ∃ y, cs[i]? = some y ∧ W.cell? (a.add i) = some y := by
 unfold World.cells? at h
 rw [if_pos (Nat.zero_le _), List.range_eq_range'] at h
 obtain ⟨h1, h2⟩ := mapM_range_some n 0 h
 exact ⟨h1, fun i hi => by
  obtain ⟨y, hy1, hy2⟩ := h2 i hi
  exact ⟨y, hy1, by rw [Nat.zero_add] at hy2; exact hy2⟩⟩
theorem add_eq {a : Addr} (h : a.spot = none) (n : Nat) : a.add n = ⟨a.block, a.off + n, none⟩ := by
 unfold Addr.add
 split
 · rename_i h0
   subst h0
   cases a
   simp only at h
   subst h
   rfl
 · rfl
theorem build {P : Nat → Rw → List Value → Prop} : ∀ (n : Nat), (∀ i, i < n → ∃ r c, P i r c) → ∃ (rs : List Rw) (cs : List (List Value)), rs.length = n ∧ cs.length = n ∧ ∀ i r c, rs[i]? = some r → cs[i]? = some c → P i r c
 | 0, _ => ⟨[], [], rfl, rfl, fun i r c h => by simp at h⟩
 | n + 1, h => by
  obtain ⟨rs, cs, h1, h2, h3⟩ := build n fun i hi => h i (by omega)
  obtain ⟨r, c, hrc⟩ := h n (by omega)
  refine ⟨rs ++ [r], cs ++ [c], by simp [h1], by simp [h2], fun i r' c' hr hc => ?_⟩
  by_cases hi : i < n
  · rw [List.getElem?_append_left (by omega)] at hr hc
    exact h3 i r' c' hr hc
  · have hi2 : i = n := by
     have := (List.getElem?_eq_some_iff.1 hr).1
     simp [h1] at this
     omega
    subst hi2
    rw [List.getElem?_append_right (by omega)] at hr hc
    simp [h1] at hr
    simp [h2] at hc
    subst hr; subst hc
    exact hrc
theorem vrels_of {ρ : Rho} : ∀ (l : List V) (m : List Value), l.length = m.length → (∀ (i : Nat) v cv, l[i]? = some v → m[i]? = some cv → VRel ρ v cv) → VRels ρ l m
 | [], [], _, _ => .nil
 | [], _ :: _, h, _ => by simp at h
 | _ :: _, [], h, _ => by simp at h
 | v :: l, c :: m, h, hr => .cons (hr 0 v c rfl rfl) (vrels_of l m (by simpa using h) fun i v cv h1 h2 => hr (i + 1) v cv (by simpa using h1) (by simpa using h2))
theorem flat_lies {big : Array Value} : ∀ (cs : List (List Value)) (off : Nat), (∀ (i : Nat) c, cs[i]? = some c → c.length = 5 ∧ ∀ (k : Nat) x, c[k]? = some x → big[off + i * 5 + k]? = some x) → ∀ (j : Nat) x, (cs.flatMap fun c => (Value.agg c.toArray).cells.toList)[j]? = some x → big[off + j]? = some x
 | [], off, _, j, x, h => by simp at h
 | c :: cs, off, hc, j, x, h => by
  obtain ⟨h1, h2⟩ := hc 0 c rfl
  have e : (Value.agg c.toArray).cells.toList = c := by simp [Value.cells]
  rw [List.flatMap_cons, e] at h
  by_cases hj : j < 5
  · rw [List.getElem?_append_left (by omega)] at h
    have := h2 j x h
    rwa [Nat.zero_mul, Nat.add_zero] at this
  · rw [List.getElem?_append_right (by omega), h1] at h
    have := flat_lies cs (off + 5) (fun i d hd => by
     obtain ⟨k1, k2⟩ := hc (i + 1) d (by simpa using hd)
     exact ⟨k1, fun k y hy => by
      have := k2 k y hy
      rw [show off + (i + 1) * 5 + k = off + 5 + i * 5 + k by omega] at this
      exact this⟩) (j - 5) x h
    rwa [show off + 5 + (j - 5) = off + j by omega] at this
theorem vrel_node {W : World} (s d : ByteArray) (k : Int) (e : Bool) (f : KForm) (l : List Rw) (kc : Value) (h1 : oneC kc = true) (hk : VRel (frz W) (kform f (rwVs l)) kc) :
 VRel (frz W) (rwV (.mk s.data.toList k e d.data.toList f l)) (.agg #[.string s, .int .i64 k, .bool e, .string d, kc]) := by
 rw [rwV]
 refine .agg rfl (fun i cv hi => ?_) fun i v hi cv hc => ?_
 · match i, hi with
   | 0, hi => simp at hi; subst hi; rfl
   | 1, hi => simp at hi; subst hi; rfl
   | 2, hi => simp at hi; subst hi; rfl
   | 3, hi => simp at hi; subst hi; rfl
   | 4, hi => simp at hi; subst hi; exact h1
   | i + 5, hi => simp at hi
 · rw [vAgg_get] at hi
   match i, hi, hc with
   | 0, hi, hc => simp at hi hc; subst hi; subst hc; exact .str s
   | 1, hi, hc => simp at hi hc; subst hi; subst hc; exact .int _ _
   | 2, hi, hc => simp at hi hc; subst hi; subst hc; exact .bool _
   | 3, hi, hc => simp at hi hc; subst hi; subst hc; exact .str d
   | 4, hi, hc => simp at hi hc; subst hi; subst hc; exact hk
   | i + 5, hi, hc => simp at hi
theorem five {α : Type} {l : List α} (h : l.length = 5) : ∃ a b c d e, l = [a, b, c, d, e] := by
 match l, h with
 | [a, b, c, d, e], _ => exact ⟨a, b, c, d, e, rfl⟩
set_option maxRecDepth 100000 in
theorem node_of_trod {H : Type} {enc : TypeId × Value → H} {W : World} : ∀ (fuel : Nat) (cs : List Value) (x : DataW H × List MemPlace), DataW.trod enc Tryd.prog W 0 (fun _ => true) true fuel 24 cs = some x → ∃ r : Rw, VRel (frz W) (rwV r) (.agg cs.toArray) ∧ cs.length = 5 ∧ AllOk r
 | fuel, cs, x, h => by
  obtain ⟨f0, f1, f2, f3, f4, hu, ⟨t0, o0⟩, ⟨t1, o1⟩, ⟨t2, o2⟩, ⟨t3, o3⟩, ⟨t4, o4⟩⟩ := u24
  obtain ⟨xs, n, hfuel, _, hl, hxl, hf⟩ := DataW.trod_struct hu h
  rw [c24] at hl
  have hx5 : xs.length = 5 := hxl
  obtain ⟨v0, v1, v2, v3, v4, rfl⟩ := five hl
  · have g0 := hf 0 f0 rfl
    have g1 := hf 1 f1 rfl
    have g2 := hf 2 f2 rfl
    have g3 := hf 3 f3 rfl
    have g4 := hf 4 f4 rfl
    rw [t0, o0, c9, List.getElem?_eq_getElem (by omega)] at g0
    rw [t1, o1, c3, List.getElem?_eq_getElem (by omega)] at g1
    rw [t2, o2, c4, List.getElem?_eq_getElem (by omega)] at g2
    rw [t3, o3, c9, List.getElem?_eq_getElem (by omega)] at g3
    rw [t4, o4, c22, List.getElem?_eq_getElem (by omega)] at g4
    obtain ⟨s, hs, _, hsl⟩ := DataW.trod_string u9 g0
    obtain ⟨k, hk, _, hkw⟩ := DataW.trod_int u3 g1
    obtain ⟨e, he, _⟩ := DataW.trod_bool u4 g2
    obtain ⟨d, hd, _, hdl⟩ := DataW.trod_string u9 g3
    simp only [List.drop_zero, List.take_succ_cons, List.take_zero, List.cons.injEq, and_true, List.drop_succ_cons] at hs hk he hd
    subst hs; subst hk; subst he; subst hd
    have hkr : -9223372036854775808 ≤ k ∧ k < 9223372036854775808 := by
     unfold Lit.wf at hkw
     simp only [Bool.and_eq_true, decide_eq_true_eq] at hkw
     have e1 : IntKind.i64.min = -9223372036854775808 := by decide
     have e2 : IntKind.i64.max = 9223372036854775807 := by decide
     rw [e1, e2] at hkw
     omega
    have hsn : s.data.toList.length < 9223372036854775808 := by
     have : s.data.toList.length = s.size := by rw [Array.length_toList]; rfl
     unfold maxLen at hsl
     omega
    rcases DataW.trod_slice u22 g4 with ⟨hv4, _⟩ | ⟨a, len, cap, elems, rest, m, hm, hv4, _, _, hcap, _, hel, hat, _⟩
    · simp only [List.drop_succ_cons, List.drop_zero, List.take_succ_cons, List.take_zero, List.cons.injEq, and_true] at hv4
      subst hv4
      exact ⟨.mk s.data.toList k e d.data.toList .nil [], vrel_node s d k e .nil [] _ rfl .nilslice, rfl, by rw [AllOk]; exact ⟨hsn, hkr, trivial⟩⟩
    · simp only [List.drop_succ_cons, List.drop_zero, List.take_succ_cons, List.take_zero, List.cons.injEq, and_true] at hv4
      subst hv4
      by_cases h0 : len = 0
      · subst h0
        exact ⟨.mk s.data.toList k e d.data.toList .empty [], vrel_node s d k e .empty [] _ rfl (.eslice a cap), rfl, by rw [AllOk]; exact ⟨hsn, hkr, trivial⟩⟩
      · have hAt : ∀ i, i < len → ∃ cells y, W.cells? 0 (a.add (i * 5)) 5 = some cells ∧ DataW.trod enc Tryd.prog W 0 (fun _ => true) true m 24 cells = some y := fun i hi => by
         have := hat i hi
         rw [c24, List.getElem?_eq_getElem (by omega), oI] at this
         obtain ⟨cells, h1, h2⟩ := this
         exact ⟨cells, _, h1, h2⟩
        have hspot : a.spot = none ∧ ∃ bg ty fr, W.heap[a.block]? = some (.cells bg ty fr) := by
         obtain ⟨cells, y, h1, _⟩ := hAt 0 (by omega)
         obtain ⟨_, h2⟩ := cells?_at h1
         obtain ⟨z, _, hz⟩ := h2 0 (by omega)
         rw [Nat.zero_mul, show (a.add 0).add 0 = a from rfl] at hz
         unfold World.cell? at hz
         split at hz
         · rename_i bg ty fr hh
           split at hz
           · cases hz
           · rename_i hsp
             refine ⟨by simpa using hsp, bg, ty, fr, hh⟩
         · cases hz
        obtain ⟨hsp, bg, ty, fr, hheap⟩ := hspot
        obtain ⟨rs, cls, r1, r2, r3⟩ := build (P := fun i r c => VRel (frz W) (rwV r) (.agg c.toArray) ∧ AllOk r ∧ c.length = 5 ∧ ∀ (k : Nat) x, c[k]? = some x → bg[a.off + i * 5 + k]? = some x) len fun i hi => by
         obtain ⟨cells, y, h1, h2⟩ := hAt i hi
         have hlt : m < fuel := by omega
         obtain ⟨r, q1, q2, q3⟩ := node_of_trod m cells y h2
         refine ⟨r, cells, q1, q3, q2, fun k z hz => ?_⟩
         obtain ⟨_, h4⟩ := cells?_at h1
         have hk5 : k < 5 := by rw [← q2]; exact (List.getElem?_eq_some_iff.1 hz).1
         obtain ⟨z', hz1, hz2⟩ := h4 k hk5
         rw [hz] at hz1
         obtain rfl := Option.some.inj hz1
         rw [add_eq hsp, add_eq rfl] at hz2
         unfold World.cell? at hz2
         simp only at hz2
         rw [hheap] at hz2
         exact hz2
        have hlist : VRel (frz W) (.list 5 (rwVs rs)) (.slice (some a) len cap) := by
         refine .list (cl := cls.map fun c => .agg c.toArray) (vrels_of _ _ (by rw [rwVs_map, List.length_map, List.length_map, r1, r2]) fun i v cv h1 h2 => ?_) (fun v hv => ?_) (by rw [rwVs_map, List.length_map, r1]) hcap fun _ => ⟨fun cv hcv => ?_, hsp, bg, ty, fr, hheap, fun j c hj => ?_⟩
         · rw [rwVs_map, List.getElem?_map, Option.map_eq_some_iff] at h1
           rw [List.getElem?_map, Option.map_eq_some_iff] at h2
           obtain ⟨r, hr, rfl⟩ := h1
           obtain ⟨c, hc, rfl⟩ := h2
           exact (r3 i r c hr hc).1
         · rw [rwVs_map, List.mem_map] at hv
           obtain ⟨r, _, rfl⟩ := hv
           rw [rwV_cells]; rfl
         · rw [List.mem_map] at hcv
           obtain ⟨c, hc, rfl⟩ := hcv
           obtain ⟨i, hi⟩ := List.getElem?_of_mem hc
           have hlt := (List.getElem?_eq_some_iff.1 hi).1
           have := (r3 i rs[i] c (List.getElem?_eq_getElem (by omega)) hi).2.2.1
           simp [Value.cells, this]
         · rw [List.flatMap_map] at hj
           exact flat_lies cls a.off (fun i c hc => by
            have hlt := (List.getElem?_eq_some_iff.1 hc).1
            exact (r3 i rs[i] c (List.getElem?_eq_getElem (by omega)) hc).2.2) j c hj
        refine ⟨.mk s.data.toList k e d.data.toList .list rs, vrel_node s d k e .list rs _ rfl hlist, rfl, ?_⟩
        rw [AllOk]
        refine ⟨hsn, hkr, (allOks_iff rs).2 fun r hr => ?_⟩
        obtain ⟨i, hi⟩ := List.getElem?_of_mem hr
        have hlt := (List.getElem?_eq_some_iff.1 hi).1
        exact (r3 i r cls[i] hi (List.getElem?_eq_getElem (by omega))).2.1
termination_by fuel => fuel
end Go.Proofs.YtcbaodegkfokjaaDoor.W
namespace Go.Proofs.YtcbaodegkfokjaaDoor.W
open Go.Proofs.YtcbaodegkfokjaaDoor.Ev Go.RowKit
theorem glob0 : ∀ g, E0.glob.get g = none := fun _ => rfl
noncomputable def kfTrue : KF := specKF (fun _ : Unit => []) (fun _ => En.ret (.bool true))
theorem kfTrue_run (S : St) : kfTrue.run [] S = some (.ret (.bool true), S) := specKF_run (enc := fun _ : Unit => []) (out := fun _ => En.ret (.bool true)) (fun _ _ _ => rfl) () S
theorem relF (W : World) : Rel E0 (base0 W) (frz W) s0 W :=
 ⟨⟨rfl, rfl, rfl, Nat.le_refl _, fun _ _ => rfl⟩, fun _ _ => rfl, Nat.le_refl _, fun b o h => by simp [s0, Tr.get_nil] at h, fun b b' o o' cb sh sz sh' sz' h => by simp [s0, Tr.get_nil] at h, fun g b h => (by rw [glob0] at h; cases h), fun k o h => h, fun b o cb sh sz h => (by simp [s0, Tr.get_nil] at h), fun k o h _ => trivial⟩
end Go.Proofs.YtcbaodegkfokjaaDoor.W
namespace Go.Proofs.YtcbaodegkfokjaaDoor.W
open Go.Proofs.YtcbaodegkfokjaaDoor.Ev
structure RSt where
 left : List UInt8
 lost : Bool
noncomputable def rdO (q : RSt) : O := bxO 99962 [sv q.left, .bool q.lost]
structure RdAt (s : St) (b : Nat) (q : RSt) : Prop where
 on : s.on = false
 bx : Bx s b 99962 [sv q.left, .bool q.lost]
theorem set_two1 (x y v : V) : (Tr.ofListFrom .nil [x, y] 0).set v 1 = Tr.ofListFrom .nil [x, v] 0 := by kernel_rfl
section
variable {s : St}
theorem bx_st1 (ho : s.on = false) {b e : Nat} {x y v : V} (h : Bx s b e [x, y]) (h1 : v.size = 1) (h2 : v.cells = one v) (h3 : isTuple v = false) : stP 1 (.ptr b 1) v s = some (.tuple [], s.put b (bxO e [x, v])) := by
 show vu (bif Nat.beq v.size 1 && !isTuple v then stK s b 1 1 v.cells else none) = _
 rw [h1, h2, h3]
 have hst : stK s b 1 1 (one v) = some (s.put b (bxO e [x, v])) := by
  unfold stK
  rw [h]
  simp only [List.length_cons, List.length_nil, show Nat.ble (1 + 1) (2 * 1) = true from rfl, blt_true.2 (show 2 * 1 < big by unfold big; decide), Bool.and_self, Bool.not_false, cond_true]
  unfold elemTo
  rw [show Nat.beq 1 (0 + 1 + 1) = false from rfl]
  have hv0 : (one v).get 0 = some v := rfl
  simp only [Bool.false_and, cond_false, cellsTo, Tr.setC_eq, hv0, oB, Nat.add_zero, show 1 / (0 + 1 + 1) = 0 from rfl, show 1 % (0 + 1 + 1) = 1 from rfl]
  rw [Tr.get_ofList]
  simp only [List.getElem?_cons_zero, oB, set_two1, set_one, note_off ho]
  rfl
 rw [hst]; rfl
theorem bx_put (b e : Nat) (l : List V) : Bx (s.put b (bxO e l)) b e l := by
 show (s.put b (bxO e l)).heap.get b = some (bxO e l)
 rw [put_get, if_pos rfl]
theorem big2 : 2 < big := by unfold big; decide
variable {b : Nat} {q : RSt}
theorem RdAt.o0 (h : RdAt s b q) : ld1 (.ptr b 0) (onS s) = some (sv q.left, rd s b 0 1) := Bx.ld1On h.on h.bx 0 (by show 0 < 2; decide) big2
theorem RdAt.grew {W : Nat → Prop} {u : St} (h : RdAt s b q) (hb : b < s.next) (hw : ¬ W b) (g : Grew W s u) : RdAt u b q := ⟨g.on.trans h.on, h.bx.grew hb hw g⟩
theorem RdAt.put (h : s.on = false) (b : Nat) (q : RSt) : RdAt (s.put b (rdO q)) b q := ⟨h, bx_put b 99962 _⟩
theorem RdAt.st1 (h : RdAt s b q) (u : Bool) : stP 1 (.ptr b 1) (.bool u) s = some (.tuple [], s.put b (rdO ⟨q.left, u⟩)) := bx_st1 h.on h.bx rfl rfl rfl
end
end Go.Proofs.YtcbaodegkfokjaaDoor.W
namespace Go.Proofs.YtcbaodegkfokjaaDoor.W
open Go.Proofs.YtcbaodegkfokjaaDoor.Ev
section
variable {s : St}
theorem AgAt.relog {s0 w : St} (h0 : s0.on = false) {b e z : Nat} {t : Tr V} (h : AgAt w b e z t) (hon : w.on = false) (hn : w.next = s0.next) (g : Grew (fun x => x = b) s0 w) (l : List LE) (ls : List (List LE)) :
 AgAt (relog s0 (w.lg l) ls) b e z t ∧ (Go.Proofs.YtcbaodegkfokjaaDoor.Ev.relog s0 (w.lg l) ls).next = s0.next ∧ Grew (fun x => x = b) s0 (Go.Proofs.YtcbaodegkfokjaaDoor.Ev.relog s0 (w.lg l) ls) := by
 obtain ⟨r1, r2, r3⟩ := relog_lg h0 l ls hon
 obtain ⟨c, h1, h2⟩ := h
 exact ⟨⟨c, by rw [r1]; exact h1, h2⟩, by rw [r2, hn], ⟨by rw [r2, hn]; exact Nat.le_refl _, by rw [r3, h0], fun x hx hne => by rw [r1]; exact g.keep x hx hne⟩⟩
end
end Go.Proofs.YtcbaodegkfokjaaDoor.W
namespace Go.Proofs.YtcbaodegkfokjaaDoor.W
open Go.Proofs.YtcbaodegkfokjaaDoor.Ev
inductive Lf where
 | pos (off : Nat)
 | empty
 | nil
def Lf.left (full : List UInt8) : Lf → List UInt8
 | .pos off => full.drop off
 | _ => []
noncomputable def Lf.v (r : Nat) (full : List UInt8) : Lf → V
 | .pos off => .oslice r off (full.length - off) 1
 | .empty => .eslice
 | .nil => .nilslice
def Lf.ok (full : List UInt8) : Lf → Prop
 | .pos off => off ≤ full.length
 | _ => True
structure WSt where
 at_ : Lf
 lost : Bool
noncomputable def wO (r : Nat) (full : List UInt8) (w : WSt) : O := bxO 99974 [w.at_.v r full, .bool w.lost]
structure RowFor (s : St) (b r : Nat) (full : List UInt8) : Prop where
 row : RowAt s r 5 1 (full.map byteC)
 ne : r ≠ b
 rlt : r < s.next
def Lf.isPos : Lf → Prop
 | .pos _ => True
 | _ => False
structure WAt (s : St) (b r : Nat) (full : List UInt8) (w : WSt) : Prop where
 on : s.on = false
 bx : Bx s b 99974 [w.at_.v r full, .bool w.lost]
 ok : w.at_.ok full
 fit : full.length ≤ 100000
 src : w.at_.isPos → RowFor s b r full
section
variable {s : St} {b r : Nat} {full : List UInt8} {w : WSt}
theorem WAt.grew {W : Nat → Prop} {u : St} (h : WAt s b r full w) (hb : b < s.next) (hw : ¬ W b) (hr : w.at_.isPos → r < s.next → r ≠ b → ¬ W r) (g : Grew W s u) : WAt u b r full w :=
 ⟨g.on.trans h.on, h.bx.grew hb hw g, h.ok, h.fit, fun hp => ⟨(h.src hp).row.grew (h.src hp).rlt (hr hp (h.src hp).rlt (h.src hp).ne) g, (h.src hp).ne, Nat.lt_of_lt_of_le (h.src hp).rlt g.next⟩⟩
theorem WAt.put (h : WAt s b r full w) (u : WSt) (hu : u.at_.ok full) (hp : u.at_.isPos → w.at_.isPos) : WAt (s.put b (wO r full u)) b r full u :=
 ⟨h.on, bx_put b 99974 _, hu, h.fit, fun hu => ⟨(h.src (hp hu)).row.grew (h.src (hp hu)).rlt (h.src (hp hu)).ne (grew_put b _), (h.src (hp hu)).ne, (h.src (hp hu)).rlt⟩⟩
theorem WAt.st1 (h : WAt s b r full w) (u : Bool) : stP 1 (.ptr b 1) (.bool u) s = some (.tuple [], s.put b (wO r full ⟨w.at_, u⟩)) := bx_st1 h.on h.bx rfl rfl rfl
end
end Go.Proofs.YtcbaodegkfokjaaDoor.W
namespace Go.Proofs.YtcbaodegkfokjaaDoor.W
open Go.Proofs.YtcbaodegkfokjaaDoor.Ev
def WSt.left (full : List UInt8) (w : WSt) : List UInt8 := w.at_.left full
end Go.Proofs.YtcbaodegkfokjaaDoor.W
namespace Go.Proofs.YtcbaodegkfokjaaDoor.W
open Go.Proofs.YtcbaodegkfokjaaDoor.Ev
def RowO (o : O) (full : List UInt8) : Prop := ∃ cc, o = .cells 5 1 (full.map byteC).length false cc ∧ ∀ (i : Nat) t, (full.map byteC)[i]? = some t → cc.get i = some t
theorem RowO.same {o : O} {f g : List UInt8} (h : RowO o f) (k : RowO o g) : f = g := by
 obtain ⟨c1, e1, h1⟩ := h
 obtain ⟨c2, e2, h2⟩ := k
 rw [e1] at e2
 simp only [O.cells.injEq, true_and] at e2
 obtain ⟨hl, rfl⟩ := e2
 rw [List.length_map, List.length_map] at hl
 refine List.ext_getElem hl fun i hi hj => ?_
 have a1 := h1 i (byteC f[i]) (by rw [List.getElem?_map, List.getElem?_eq_getElem hi]; rfl)
 have a2 := h2 i (byteC g[i]) (by rw [List.getElem?_map, List.getElem?_eq_getElem hj]; rfl)
 rw [a1] at a2
 simp only [oS] at a2
 have h0 : (byteC f[i]).get 0 = (byteC g[i]).get 0 := by rw [a2]
 have h0' : some (V.int .u8 (.ofNat f[i].toNat)) = some (V.int .u8 (.ofNat g[i].toNat)) := h0
 simp only [oS, V.int.injEq, true_and] at h0'
 exact UInt8.toNat_inj.1 (Int.ofNat.inj h0')
end Go.Proofs.YtcbaodegkfokjaaDoor.W
namespace Go.Proofs.YtcbaodegkfokjaaDoor.W
open Go.Proofs.YtcbaodegkfokjaaDoor.Ev
theorem putText_acc (s t : List UInt8) : putText s t = s ++ putText [] t := by
 unfold putText
 simp only [List.nil_append, List.append_assoc]
mutual
theorem layN_acc : ∀ (x : Nd) (s : List UInt8), layN s x = s ++ layN [] x
 | .mk n k e d l, s => by
  rw [layN, layN]
  split
  · rw [putText_acc, putText_acc ([] ++ _ ++ _)]
    simp only [List.nil_append, List.append_assoc]
  · split
    · rw [putText_acc, putText_acc ([] ++ _)]
      simp only [List.nil_append, List.append_assoc]
    · rw [layL_acc l, layL_acc l ([] ++ _ ++ _)]
      simp only [List.nil_append, List.append_assoc]
theorem layL_acc : ∀ (l : List Nd) (s : List UInt8), layL s l = s ++ layL [] l
 | [], s => by rw [layL, layL, List.append_nil]
 | x :: l, s => by
  rw [layL, layL, layL_acc l, layL_acc l (layN (putText [] x.name) x), layN_acc x, layN_acc x (putText [] x.name), putText_acc]
  simp only [List.append_assoc]
end
end Go.Proofs.YtcbaodegkfokjaaDoor.W
namespace Go.Proofs.YtcbaodegkfokjaaDoor.W
open Go.Proofs.YtcbaodegkfokjaaDoor.Ev
end Go.Proofs.YtcbaodegkfokjaaDoor.W
namespace Go.Proofs.YtcbaodegkfokjaaDoor.W
open Go.Proofs.YtcbaodegkfokjaaDoor.Ev
structure Taken (x : Nd) (s : List UInt8) : Prop where
 name : x.name = []
 may : mayN x = true
 deep : deepN 14 x ≤ 12
 cnt : cntN x ≤ 2000
 bytes : s = putText [] magicN ++ layN [] x
 fit : s.length ≤ 60000
theorem check_parts {x : Nd} (h : checkN x = 0) : x.name = [] ∧ deepN 14 x ≤ 12 := by
 unfold checkN at h
 cases ht : tooDeepN x with
 | true => rw [ht, if_pos rfl] at h; omega
 | false =>
  rw [ht, if_neg (by simp)] at h
  cases hn : (x.name == [] && mayN x) with
  | false => rw [hn, if_neg (by simp)] at h; omega
  | true =>
   rw [Bool.and_eq_true, beq_iff_eq] at hn
   unfold tooDeepN at ht
   exact ⟨hn.1, by simpa using ht⟩
theorem taken {x : Nd} {s : List UInt8} (ok : x.ok) (h0 : (encodeN x).2 = 0) (hs : (encodeN x).1 = s) : Taken x s := by
 unfold encodeN at h0 hs
 by_cases hc : checkN x = 0
 · rw [if_pos hc] at h0 hs
   obtain ⟨may, cnt⟩ := check_ok ok hc
   obtain ⟨nm, dp⟩ := check_parts hc
   by_cases hf : (layN (putText [] magicN) x).length ≤ 60000
   · rw [if_pos hf] at hs
     simp only at hs
     exact ⟨nm, may, dp, cnt, by rw [← hs, layN_acc], by rw [← hs]; exact hf⟩
   · rw [if_neg hf] at h0
     simp at h0
 · rw [if_neg hc] at h0
   exact absurd h0 hc
end Go.Proofs.YtcbaodegkfokjaaDoor.W
namespace Go.Proofs.YtcbaodegkfokjaaDoor.W
open Go.Proofs.YtcbaodegkfokjaaDoor.Ev
section
variable {s : St}
theorem AgAt.st_one (ho : s.on = false) {b e : Nat} {t : Tr V} (h : AgAt s b e 1 t) (v : V) (hs : v.size = 1) (hc : v.cells = one v) (hv : isTuple v = false) : ∃ w, stP 1 (.ptr b 0) v s = some (.tuple [], w) ∧ AgAt w b e 1 (one v) ∧ Grew (fun x => x = b) s w ∧ w.next = s.next := by
 obtain ⟨w, h1, h2, h3, h4⟩ := h.stA ho big1 (one v)
 refine ⟨w, ?_, h2, h3, h4⟩
 have e1 : stP 1 (.ptr b 0) (.agg 1 (one v)) s = vu (stK s b 0 1 (one v)) := rfl
 have e2 : stP 1 (.ptr b 0) v s = vu (bif Nat.beq v.size 1 && !isTuple v then stK s b 0 1 v.cells else none) := rfl
 rw [e2, hs, hc, hv, ← h1, e1]
 rfl
theorem AgAt.ldr_one (ho : s.on = false) {b e : Nat} {v : V} (h : AgAt s b e 1 (one v)) : ldr1 (.ptr b 0) s = some (v, s) := AgAt.ld1 ho h big1 (by decide) rfl
end
section
variable {self : EV} {a : Ac} {p0 p1 : Nat} {S : St}
end
end Go.Proofs.YtcbaodegkfokjaaDoor.W
namespace Go.Proofs.YtcbaodegkfokjaaDoor.W
open Go.Proofs.YtcbaodegkfokjaaDoor.Ev
theorem kid_size {x y : Nd} (hy : y ∈ x.kids) : SizeOf.sizeOf y < SizeOf.sizeOf x := by
 have := List.sizeOf_lt_of_mem hy
 cases hp : x with
 | mk n k e d l =>
  rw [hp] at this
  simp only [Nd.kids] at this
  simp only [Nd.mk.sizeOf_spec]
  omega
theorem eqv_bool (a b : Bool) : binV E0 .eql 4 false false (.bool a) (.bool b) = some (.bool (a == b)) := by cases a <;> cases b <;> kernel_rfl
end Go.Proofs.YtcbaodegkfokjaaDoor.W
namespace Go.Proofs.YtcbaodegkfokjaaDoor.W
open Go.Proofs.YtcbaodegkfokjaaDoor.Ev
end Go.Proofs.YtcbaodegkfokjaaDoor.W
namespace Go.Proofs.YtcbaodegkfokjaaDoor.W
open Go.Proofs.YtcbaodegkfokjaaDoor.Ev
structure Yd (K : FuncId → Option KF) (n0 : Nat) (y : V) (I : (Nat → Prop) → List (List UInt8) → St → Prop) : Prop where
 on : ∀ {O acc S}, I O acc S → S.on = false
 lt : ∀ {O acc S b}, I O acc S → O b → b < S.next
 keep : ∀ {O acc S S'}, I O acc S → Grew O S S' → I (fun b => O b ∨ (S.next ≤ b ∧ b < S'.next)) acc S'
 weak : ∀ {O O' acc S}, I O acc S → (∀ b, O' b → O b) → I O' acc S
 one : OneV y
 call : ∀ {O acc S q x}, I O acc S → x.ok → q.length ≤ 100000 → acc.length < 3000 → ∀ n, n0 ≤ n → ∃ S', callK E0 (ev E0 K n) y [sv q, encN x] S = some (.ret (.bool true), S') ∧ I O (acc ++ [q]) S' ∧ Grew (fun b => ¬ O b) S S'
section
variable {K : FuncId → Option KF} {n0 : Nat} {y : V} {I : (Nat → Prop) → List (List UInt8) → St → Prop}
theorem Yd.keepO (h : Yd K n0 y I) {O acc S S'} (hI : I O acc S) (g : Grew O S S') : I O acc S' := h.weak (h.keep hI g) fun _ hb => .inl hb
end
end Go.Proofs.YtcbaodegkfokjaaDoor.W
namespace Go.Proofs.YtcbaodegkfokjaaDoor.W
open Go.Proofs.YtcbaodegkfokjaaDoor.Ev
section
variable {K : FuncId → Option KF}
end
end Go.Proofs.YtcbaodegkfokjaaDoor.W
namespace Go.Proofs.YtcbaodegkfokjaaDoor.W
open Go.Proofs.YtcbaodegkfokjaaDoor.Ev
end Go.Proofs.YtcbaodegkfokjaaDoor.W
namespace Go.Proofs.YtcbaodegkfokjaaDoor.W
open Go.Proofs.YtcbaodegkfokjaaDoor.Ev
def rowOf (v : V) (b : Nat) : Prop := ∃ n, v = .oslice b 0 n 1
theorem ListAt.row {s : St} {F : Nat → Prop} {e : Nat} {v : V} {acc : List V} (h : ListAt s F e v acc) : ListAt s (rowOf v) e v acc ∧ ∀ b, rowOf v b → F b ∧ b < s.next := by
 rcases h with ⟨h1, rfl⟩ | ⟨h1, r, rfl, h3, h4, h5⟩
 · exact ⟨.inl ⟨h1, rfl⟩, fun b ⟨n, h⟩ => by cases h⟩
 · refine ⟨.inr ⟨h1, r, rfl, h3, ⟨_, rfl⟩, h5⟩, fun b ⟨n, h⟩ => ?_⟩
   cases h
   exact ⟨h4, h5⟩
end Go.Proofs.YtcbaodegkfokjaaDoor.W
namespace Go.Proofs.YtcbaodegkfokjaaDoor.W
open Go.Proofs.YtcbaodegkfokjaaDoor.Ev
end Go.Proofs.YtcbaodegkfokjaaDoor.W
namespace Go.Proofs.YtcbaodegkfokjaaDoor.W
open Go.Proofs.YtcbaodegkfokjaaDoor.Ev
end Go.Proofs.YtcbaodegkfokjaaDoor.W
namespace Go.Proofs.YtcbaodegkfokjaaDoor.W
open Go.Proofs.YtcbaodegkfokjaaDoor.Ev
section
variable {s : St}
theorem slice_one {N0 : Nat} {v : V} {acc : List Nd} (h : SliceIs s N0 v acc) : v.size = 1 ∧ isTuple v = false ∧ v.cells = one v := by
 rcases h with ⟨_, rfl⟩ | ⟨_, r, rfl, _⟩ <;> exact ⟨rfl, rfl, rfl⟩
theorem fzRow_nds {N : Nat} {c : Tr (Tr V)} : ∀ (l : List Nd) (i : Nat), (∀ (j : Nat) y, l[j]? = some y → c.get (i + j) = some (treeN y)) → FzRow s N c i 5 (l.map encN)
 | [], i, _ => .nil
 | y :: l, i, h => by
  have h0 := h 0 y rfl
  rw [List.map_cons, encN_tree]
  refine .row h0 ?_ (fzRow_nds l (i + 1) fun j z hj => ?_)
  · rw [← encN_tree]
    exact .same (under_encN _ _)
  · have := h (j + 1) z (by simpa using hj)
    rw [show i + 1 + j = i + (j + 1) by omega]; exact this
theorem fin_node (ho : s.on = false) {b0 b1 N0 N : Nat} {nm d : List UInt8} {k : Int} {e : Bool} {w v5 : V} {t1 : Tr V} {kids : List Nd} (hv : VarAt s b0 24 5 [sv nm, .int .i64 k, .bool e, sv d, w]) (hg : AgAt s b1 24 5 t1) (hs : SliceIs s N0 v5 kids) (h01 : b0 ≠ b1) (l0 : b0 < N0) (l1 : b1 < N0) (hN : N ≤ N0) (m0 : b0 < s.next) (m1 : b1 < s.next) :
 ∃ t S5 S6, stP 1 (.ptr b0 4) v5 s = some (.tuple [], S5) ∧ ldA 5 (.ptr b0 0) S5 = some (.agg 5 t, S5) ∧ stP 5 (.ptr b1 0) (.agg 5 t) S5 = some (.tuple [], S6) ∧ ldrA 5 (.ptr b1 0) S6 = some (.agg 5 t, S6) ∧ Fz S6 N (.agg 5 t) (encN (.mk nm k e d kids)) ∧ Grew (fun x => x = b0 ∨ x = b1) s S6 := by
 have hv5 := slice_one hs
 obtain ⟨S5, c1, c2, c3, c4⟩ := hv.st ho (i := 4) (by decide) v5
 have on5 := c3.on.trans ho
 have hst5 : stP 1 (.ptr b0 4) v5 s = some (.tuple [], S5) := by
  show vu (bif Nat.beq v5.size 1 && !isTuple v5 then stK s b0 4 1 v5.cells else none) = _
  rw [hv5.1, hv5.2.1, hv5.2.2, c1]; rfl
 have hg' := hg.grew m1 (fun h => h01 h.symm) c3
 have hs' := hs.grew (fun r hr _ => by omega) c3
 obtain ⟨t, ht, hget⟩ := VarAt.agg c2
 obtain ⟨S6, e1, e2, e3, e4⟩ := hg'.stA on5 big5 t
 have on6 := e3.on.trans on5
 have hs'' := hs'.grew (fun r hr _ => by omega) e3
 refine ⟨t, S5, S6, hst5, ht.ldA on5 big5, e1, e2.ldrA on6 big5, ?_, (c3.mono fun x _ hx => .inl hx).trans (e3.mono fun x _ hx => .inr hx)⟩
 rw [encN_tree]
 have hg : ∀ (i : Nat) v, ([sv nm, .int .i64 k, .bool e, sv d, v5] : List V)[i]? = some v → t.get i = some v := hget
 refine .agg (fun i => (([sv nm, .int .i64 k, .bool e, sv d, v5] : List V)[i]?).getD .nilptr) (fun i v' _ hi => ?_) fun i v' hv' hi => ?_
 · match i, hi with
   | 0, _ => exact hg 0 _ rfl
   | 1, _ => exact hg 1 _ rfl
   | 2, _ => exact hg 2 _ rfl
   | 3, _ => exact hg 3 _ rfl
   | 4, _ => exact hg 4 _ rfl
 · have hv2 : ([sv nm, .int .i64 k, .bool e, sv d, kidsV (encL kids)] : List V)[i]? = some v' := by
    have : (Tr.ofListFrom .nil (cellsN (.mk nm k e d kids)) 0).get i = some v' := hv'
    rwa [Tr.get_ofList] at this
   match i, hi, hv2 with
   | 0, _, hv2 => simp at hv2; subst hv2; exact .same (under_sv _)
   | 1, _, hv2 => simp at hv2; subst hv2; exact .same (.int _ _)
   | 2, _, hv2 => simp at hv2; subst hv2; exact .same (.bool _)
   | 3, _, hv2 => simp at hv2; subst hv2; exact .same (under_sv _)
   | 4, _, hv2 =>
    simp at hv2; subst hv2
    show Fz S6 N v5 (kidsV (encL kids))
    rcases hs'' with ⟨h1, rfl⟩ | ⟨h1, r, rfl, hrow, hNr, hrn⟩
    · rw [h1, encL]; exact .same .nilslice
    · obtain ⟨c, hc1, hc2⟩ := hrow.row
      have hne : kidsV (encL kids) = .list 5 (encL kids) := by
       cases kids with
       | nil => exact absurd rfl h1
       | cons a l => rw [encL]; rfl
      rw [hne, encL_map]
      refine .oslice hc1 (by omega) (by omega) rfl (by rw [List.length_map]) (by rw [List.length_map]; omega) ?_
      rw [Nat.zero_div]
      exact fzRow_nds _ 0 fun j y hj => by
       rw [Nat.zero_add]
       exact hc2 j _ (by rw [List.getElem?_map, hj]; rfl)
end
def cutN : Nat → Rw → Nd
 | 0, x => .mk (x.name.take 30) x.kind x.exec (x.data.take 300) []
 | d + 1, x => .mk (x.name.take 30) x.kind x.exec (x.data.take 300) ((x.kids.take 6).map (cutN d))
def most6 : Nat → Nat
 | 0 => 1
 | d + 1 => 1 + 6 * most6 d
theorem cut_cnt : ∀ (d : Nat) (x : Rw), cntN (cutN d x) ≤ most6 d
 | 0, x => by rw [cutN, cntN, cntL]; exact Nat.le_refl _
 | d + 1, x => by
  rw [cutN, cntN, most6]
  have h := cntL_le (most6 d) ((x.kids.take 6).map (cutN d)) fun y hy => by
   rw [List.mem_map] at hy
   obtain ⟨z, _, rfl⟩ := hy
   exact cut_cnt d z
  rw [List.length_map, List.length_take] at h
  have h2 : min 6 x.kids.length * most6 d ≤ 6 * most6 d := Nat.mul_le_mul_right _ (Nat.min_le_left ..)
  omega
theorem most6_mono {a b : Nat} (h : a ≤ b) : most6 a ≤ most6 b := by
 induction h with
 | refl => exact Nat.le_refl _
 | step _ ih => exact Nat.le_trans ih (by rw [most6]; omega)
theorem cut_ok : ∀ (d : Nat) (x : Rw), d ≤ 16 → DeepOk d x → (cutN d x).ok
 | 0, x, _, h => by
  rw [cutN, Nd.ok]
  exact ⟨by rw [List.length_take]; omega, h.2, by simp; omega, by simp, by simp [cntL], by simp [okL]⟩
 | d + 1, x, hd, h => by
  have hc := cut_cnt (d + 1) x
  have hm := most6_mono hd
  have h16 : most6 16 < 4611686018427387904 := by decide
  rw [cutN, cntN] at hc
  rw [cutN, Nd.ok]
  refine ⟨by rw [List.length_take]; omega, h.1.2, by simp; omega, by simp; omega, by omega, (okL_iff _).2 fun y hy => ?_⟩
  rw [List.mem_map] at hy
  obtain ⟨z, hz, rfl⟩ := hy
  exact cut_ok d z (by omega) (h.2 z (List.mem_of_mem_take hz))
theorem cut_eq : ∀ (d : Nat) (x y : Rw), rwV x = rwV y → cutN d x = cutN d y
 | 0, x, y, h => by
  obtain ⟨h1, h2, h3, h4, _⟩ := rwV_fields h
  rw [cutN, cutN, h1, h2, h3, h4]
 | d + 1, x, y, h => by
  obtain ⟨h1, h2, h3, h4, h5⟩ := rwV_fields h
  rw [cutN, cutN, h1, h2, h3, h4]
  congr 1
  refine map_eq_of (fun a b => cut_eq d a b) ?_
  rw [List.map_take, List.map_take, kidsR_map h5]
structure CutIn where
 d : Nat
 x : Rw
 hd : d ≤ 16
noncomputable def encCut (p : CutIn) : List V := [rwV p.x, .int .i64 (p.d : Int)]
theorem encCut_inj {p q : CutIn} (h : encCut p = encCut q) : rwV p.x = rwV q.x ∧ p.d = q.d := by
 simp only [encCut, List.cons.injEq, V.int.injEq, true_and, and_true] at h
 exact ⟨h.1, by omega⟩
noncomputable def kfCut : KF := specKF encCut (fun p => En.ret (encN (cutN p.d p.x)))
theorem kfCut_run (d : Nat) (x : Rw) (hd : d ≤ 16) (S : St) : kfCut.run [rwV x, .int .i64 (d : Int)] S = some (.ret (encN (cutN d x)), S) :=
 specKF_run (enc := encCut) (out := fun p => En.ret (encN (cutN p.d p.x))) (fun p q h => by obtain ⟨h1, h2⟩ := encCut_inj h; rw [h2, cut_eq q.d _ _ h1]) ⟨d, x, hd⟩ S
def cutKids (d : Nat) (x : Rw) : List Nd := match d with | 0 => [] | d + 1 => (x.kids.take 6).map (cutN d)
theorem cut_fields (d : Nat) (x : Rw) : cutN d x = .mk (x.name.take 30) x.kind x.exec (x.data.take 300) (cutKids d x) := by
 cases d <;> rfl
theorem L19_stop (self : EV) (N : Nat) (nk : Ac → St → Rs) (ek : Nat → Ac → St → Rs) (n : Nat) (x : Rw) (b0 b1 : Nat) (cs : List V) (hcs : cs[4]? = some (kidsR x)) (S : St) (ho : S.on = false) (hv : VarAt S b0 24 5 cs) (d i : Nat) (v5 : V) (h : ¬ (i < x.kids.length ∧ i < 6 ∧ 0 < d)) :
 L19_29 self N nk ek (n + 1) (.int .i64 (d : Int)) (.ptr b0 0) (.ptr b1 0) v5 (.int .i64 (i : Int)) S = ek 0 (fr 52 [(2, .ptr b0 0), (4, .ptr b1 0), (5, v5)]) S := by
 rw [L19_29_eq, faP_ptr, oB, Nat.zero_add, ld1_ptr, hv.ld ho hcs, oB]
 dsimp only
 rw [lnS_kidsR, oB]
 dsimp only
 rw [binV_ii, intsV_lss, oB, guardV_t, oB]
 by_cases h1 : i < x.kids.length
 · rw [dec_lt h1, cond_true, oB, oB, cond_true, binV_ii, intsV_lss, oB]
   by_cases h2 : i < 6
   · rw [show decide ((i : Int) < 6) = true by simp; omega, pickV_bool, cond_true, oB, guardV_t, oB, cond_true, oB, oB, cond_true, binV_ii, intsV_gtr, oB]
     rw [show decide ((0 : Int) < (d : Int)) = false by simp; omega, pickV_bool, cond_true, oB, ifK_bool, cond_false]
   · rw [show decide ((i : Int) < 6) = false by simp; omega, pickV_bool, cond_true, oB, guardV_t, oB, cond_false, oB, oB, cond_false, oB, pickV_bool, cond_false, oB, ifK_bool, cond_false]
 · rw [dec_ge (by omega), cond_false, oB, oB, cond_false, oB, pickV_bool, cond_false, oB, guardV_t, oB, cond_false, oB, oB, cond_false, oB, pickV_bool, cond_false, oB, ifK_bool, cond_false]
theorem L19_spec (self : EV) (N : Nat) (nk : Ac → St → Rs) (ek : Nat → Ac → St → Rs) (x : Rw) (b0 b1 N0 d : Nat) (hd : d < 16) (cs : List V) (hcs : cs[4]? = some (kidsR x)) (hb0 : b0 < N0) (hb1 : b1 < N0)
 (h8 : ∀ y ∈ x.kids, ∀ S, self.f 19 [rwV y, .int .i64 (d : Int)] S = some (.ret (encN (cutN d y)), S)) (t1 : Tr V) :
 ∀ (r : List Rw) (i n : Nat) (S : St) (acc : List Nd) (v5 : V), (x.kids.take 6).drop i = r → r.length < n → i ≤ 6 → acc.length = i → S.on = false → N0 ≤ S.next → VarAt S b0 24 5 cs → AgAt S b1 24 5 t1 → SliceIs S N0 v5 acc →
 ∃ S' v5', L19_29 self N nk ek n (.int .i64 ((d + 1 : Nat) : Int)) (.ptr b0 0) (.ptr b1 0) v5 (.int .i64 (i : Int)) S = ek 0 (fr 52 [(2, .ptr b0 0), (4, .ptr b1 0), (5, v5')]) S' ∧ SliceIs S' N0 v5' (acc ++ r.map (cutN d)) ∧ VarAt S' b0 24 5 cs ∧ AgAt S' b1 24 5 t1 ∧ Grew (fun y => N0 ≤ y) S S'
 | r, i, 0, S, acc, v5, _, hn, _, _, _, _, _, _, _ => by omega
 | [], i, n + 1, S, acc, v5, hi, hn, h20, ha, ho, hN, hv, hg, hs => by
  have hlen := drop_end hi
  rw [List.length_take] at hlen
  exact ⟨S, v5, L19_stop self N nk ek n x b0 b1 cs hcs S ho hv (d + 1) i v5 (by omega), by simpa using hs, hv, hg, Grew.refl _ _⟩
 | y :: r, i, n + 1, S, acc, v5, hi, hn, h20, ha, ho, hN, hv, hg, hs => by
  obtain ⟨hlt, hy, hr, hmem⟩ := drop_at hi
  have hlt2 := hlt
  rw [List.length_take] at hlt2
  have hik : i < x.kids.length := by omega
  have hy2 : x.kids[i] = y := by rw [← hy, List.getElem_take]
  obtain ⟨t, v', u, k1, k2, k3, k4⟩ := hs.add ho hN (by omega) (Tr.ofListFrom .nil [(sv []), (.int .i64 0), (.bool false), (sv []), .nilslice] 0) (cutN d y)
  have hv' := hv.grew (by omega) (by omega) k4
  have hg' := hg.grew (by omega) (by omega) k4
  obtain ⟨S', v5', z1, z2, z3, z4, z5⟩ := L19_spec self N nk ek x b0 b1 N0 d hd cs hcs hb0 hb1 h8 t1 r (i + 1) n u (acc ++ [cutN d y]) v' hr (by simp at hn; omega) (by omega) (by simp [ha]) (k4.on.trans ho) (by have := k4.next; omega) hv' hg' k3
  refine ⟨S', v5', ?_, by simpa using z2, z3, z4, k4.trans z5⟩
  rw [L19_29_eq, faP_ptr, oB, Nat.zero_add, ld1_ptr, hv.ld ho hcs, oB]
  dsimp only
  rw [lnS_kidsR, oB]
  dsimp only
  rw [binV_ii, intsV_lss, oB, guardV_t, oB, dec_lt hik, cond_true, oB, oB, cond_true, binV_ii, intsV_lss, oB]
  rw [show decide ((i : Int) < 6) = true by simp; omega, pickV_bool, cond_true, oB, guardV_t, oB, cond_true, oB, oB, cond_true, binV_ii, intsV_gtr, oB]
  rw [show decide ((0 : Int) < ((d + 1 : Nat) : Int)) = true by simp, pickV_bool, cond_true, oB, ifK_bool, cond_true, oB, ld1_ptr, hv.ld ho hcs, oB]
  dsimp only
  rw [ixP_kidsR x i hik, hy2, oB, ldA_kidR, oB]
  dsimp only
  rw [binV_ii, intsV_sub, show ((d + 1 : Nat) : Int) - 1 = (d : Int) by omega, wrap_i64 (by omega) (by omega), oB, h8 y (List.mem_of_mem_take hmem), callP_ret, k1, oB]
  dsimp only
  rw [k2, oB, binV_ii, intsV_add, wrap_succ (by omega), oB]
  exact z1
theorem take_min (l : List UInt8) (n : Nat) : List.take (min l.length n) l = l.take n := by
 rcases Nat.le_total l.length n with h | h
 · rw [Nat.min_eq_left h, List.take_length, List.take_of_length_le h]
 · rw [Nat.min_eq_right h]
theorem F19_spec (self : EV) (x : Rw) (d : Nat) (hd : d ≤ 16) (S : St) (ho : S.on = false) (h8 : ∀ (m : Nat) y, d = m + 1 → ∀ S, self.f 19 [rwV y, .int .i64 (m : Int)] S = some (.ret (encN (cutN m y)), S)) :
 ∃ (v : V) (S' : St), F19 self rounds (rwV x) (.int .i64 (d : Int)) S = some (.ret v, S') ∧ Fz S' S.next v (encN (cutN d x)) ∧ Grew (fun _ => False) S S' := by
 obtain ⟨S1, k1, k2, k3, k4⟩ := box_new ho 24 (cellsR x)
 have on1 := k3.on.trans ho
 have hv1 := Bx.var k2 (by show 0 < 5; decide) big5
 obtain ⟨a1, a2, a3⟩ := ag_new on1 24 5 (Tr.ofListFrom .nil [(sv []), (.int .i64 0), (.bool false), (sv []), .nilslice] 0)
 generalize hS2 : (nwP 24 5 (Tr.ofListFrom .nil [(sv []), (.int .i64 0), (.bool false), (sv []), .nilslice] 0) S1).2 = S2 at a1 a2 a3
 have on2 := a2.on.trans on1
 have hv2 := hv1.grew (by omega) (fun h => h) a2
 obtain ⟨S2b, d1, d2, d3, d4⟩ := hv2.st on2 (i := 0) (by show 0 < 5; decide) (sv (x.name.take 30))
 have on2b := d3.on.trans on2
 have ha2b := a1.grew (by omega) (by omega) d3
 have hst0 : stP 1 (.ptr S.next 0) (sv (x.name.take 30)) S2 = some (.tuple [], S2b) := by
  show vu (stK S2 S.next 0 1 (one (sv _))) = _
  rw [d1]; rfl
 obtain ⟨S3, b1, b2, b3, b4⟩ := d2.st on2b (i := 3) (by show 3 < 5; decide) (sv (x.data.take 300))
 have on3 := b3.on.trans on2b
 have ha3 := ha2b.grew (by omega) (by omega) b3
 have hst : stP 1 (.ptr S.next 3) (sv (x.data.take 300)) S2b = some (.tuple [], S3) := by
  show vu (stK S2b S.next 3 1 (one (sv _))) = _
  rw [b1]; rfl
 have b2 : VarAt S3 S.next 24 5 [sv (x.name.take 30), .int .i64 x.kind, .bool x.exec, sv (x.data.take 300), kidsR x] := b2
 have hloop : ∃ S4 v5, L19_29 self rounds (R19_21 self rounds (finN E0 self Tryd.f19) noEx) (exB 0 (R19_21 self rounds (finN E0 self Tryd.f19) noEx) noEx) rounds (.int .i64 (d : Int)) (.ptr S.next 0) (.ptr S1.next 0) .nilslice (.int .i64 0) S3 = exB 0 (R19_21 self rounds (finN E0 self Tryd.f19) noEx) noEx 0 (fr 52 [(2, .ptr S.next 0), (4, .ptr S1.next 0), (5, v5)]) S4 ∧
  SliceIs S4 S2.next v5 (cutKids d x) ∧ VarAt S4 S.next 24 5 [sv (x.name.take 30), .int .i64 x.kind, .bool x.exec, sv (x.data.take 300), kidsR x] ∧ AgAt S4 S1.next 24 5 (Tr.ofListFrom .nil [(sv []), (.int .i64 0), (.bool false), (sv []), .nilslice] 0) ∧ Grew (fun y => S2.next ≤ y) S3 S4 := by
  cases d with
  | zero =>
   have := L19_stop self rounds (R19_21 self rounds (finN E0 self Tryd.f19) noEx) (exB 0 (R19_21 self rounds (finN E0 self Tryd.f19) noEx) noEx) (rounds - 1) x S.next S1.next _ rfl S3 on3 b2 0 0 .nilslice (by omega)
   rw [show rounds - 1 + 1 = rounds by unfold rounds; omega] at this
   exact ⟨S3, .nilslice, this, .inl ⟨rfl, rfl⟩, b2, ha3, Grew.refl _ _⟩
  | succ m =>
   obtain ⟨S4, v5, z1, z2, z3, z4, z5⟩ := L19_spec self rounds (R19_21 self rounds (finN E0 self Tryd.f19) noEx) (exB 0 (R19_21 self rounds (finN E0 self Tryd.f19) noEx) noEx) x S.next S1.next S2.next m (by omega) _ rfl (by omega) (by omega) (fun y hy S => h8 m y rfl S) _ (x.kids.take 6) 0 rounds S3 [] .nilslice rfl (by rw [List.length_take]; unfold rounds; omega) (by omega) rfl on3 (by omega) b2 ha3 (.inl ⟨rfl, rfl⟩)
   exact ⟨S4, v5, z1, by rw [List.nil_append] at z2; exact z2, z3, z4, z5⟩
 obtain ⟨S4, v5, z1, z2, z3, z4, z5⟩ := hloop
 have on4 := z5.on.trans on3
 have n5 := z5.next
 obtain ⟨t, S5, S6, f1, f2, f3, f4, f5, f6⟩ := fin_node (N := S.next) on4 z3 z4 z2 (by omega) (by omega) (by omega) (by omega) (by omega) (by omega)
 refine ⟨.agg 5 t, S6, ?_, by rw [cut_fields]; exact f5, ?_⟩
 · rw [F19_eq, rwV_cells, k1, oB, oB]
   dsimp only
   rw [faP_ptr, oB, Nat.zero_add, ld1_ptr, hS2, hv2.ld on2 (show (cellsR x)[0]? = some (sv x.name) from rfl), oB, oB]
   dsimp only
   rw [ld1_ptr, hv2.ld on2 (show (cellsR x)[0]? = some (sv x.name) from rfl), oB]
   dsimp only
   rw [lnStr_sv, oB]
   dsimp only
   rw [foldK_min, show min (x.name.length : Int) 30 = ((min x.name.length 30 : Nat) : Int) by omega, oB]
   dsimp only
   rw [slice_sv und9 x.name (bounds_hi .i64 (Nat.min_le_left ..)) (Nat.min_le_left ..), oB, oB]
   dsimp only
   rw [List.drop_zero, Nat.sub_zero, take_min, hst0, oB]
   dsimp only
   rw [faP_ptr, oB, Nat.zero_add, ld1_ptr, d2.ld on2b (show ((cellsR x).set 0 (sv (x.name.take 30)))[3]? = some (sv x.data) from rfl), oB, oB]
   dsimp only
   rw [ld1_ptr, d2.ld on2b (show ((cellsR x).set 0 (sv (x.name.take 30)))[3]? = some (sv x.data) from rfl), oB]
   dsimp only
   rw [lnStr_sv, oB]
   dsimp only
   rw [foldK_min, show min (x.data.length : Int) 300 = ((min x.data.length 300 : Nat) : Int) by omega, oB]
   dsimp only
   rw [slice_sv und9 x.data (bounds_hi .i64 (Nat.min_le_left ..)) (Nat.min_le_left ..), oB, oB]
   dsimp only
   rw [List.drop_zero, Nat.sub_zero, take_min, hst, oB, nwP_fst]
   dsimp only
   rw [z1, exB_same, R19_21_eq, faP_ptr, oB, Nat.zero_add, f1, oB]
   dsimp only
   rw [f2, oB]
   dsimp only
   rw [f3, oB]
   dsimp only
   rw [f4]
   rfl
 · have n6 := f6.next
   refine ⟨by omega, by rw [f6.on, on4, ho], fun y hy _ => ?_⟩
   rw [f6.keep y (by omega) (by omega), z5.keep y (by omega) (by omega), b3.keep y (by omega) (by omega), d3.keep y (by omega) (by omega), a2.keep y (by omega) (fun h => h), k3.keep y hy (fun h => h)]
theorem kn19 {K : FuncId → Option KF} (hK : KnOk Tryd.prog E0 K) : KnWell Tryd.prog E0 19 kfCut :=
 specKF_rec (fn := Tryd.f19) (c := C19) (d := B19) (fun p : CutIn => p.d) (fun p q h => by obtain ⟨h1, h2⟩ := encCut_inj h; rw [h2, cut_eq q.d _ _ h1]; exact ⟨rfl, rfl⟩) E0_ok hK (by kernel_rfl) (by kernel_rfl) (annot_isOf C19 _ (by kernel_rfl)) fun K' _ p S hself ho => by
  obtain ⟨d, x, hd⟩ := p
  obtain ⟨v, S', h1, h2, h3⟩ := F19_spec (ev E0 K' 1) x d hd S ho fun m y hm S => hself ⟨m, y, by omega⟩ S 0 (by show m < d; omega)
  exact ⟨1, .ret v, S', h1, h3, h2⟩
end Go.Proofs.YtcbaodegkfokjaaDoor.W
