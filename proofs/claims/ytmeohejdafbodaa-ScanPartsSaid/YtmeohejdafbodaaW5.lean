/-
  WHAT THE FUNCTIONS COME TO: each is read by the evaluator, printed, and told as a function of data, part 5 of 8 (no condition).
-/
import Derived.Test.YtmeohejdafbodaaW4
import Derived.OpenShut
import Derived.ProofKit
import Derived.WalkKit
import Derived.Carry
import Derived.ChangeMaps5
namespace Go.Proofs.Ytmeohejdafbodaa.W
open Go.Proofs.Ytmeohejdafbodaa.Ev
theorem Grew.of0 {W : Nat → Prop} {a b : St} (h : Grew (fun _ => False) a b) : Grew W a b := h.mono fun _ _ h => h.elim
inductive KForm where
 | nil
 | empty
 | list
mutual
inductive Rw where
 | mk (name : List UInt8) (kind : Int) (exec : Bool) (data : List UInt8) (form : KForm) (kids : List Rw)
end
noncomputable def kform : KForm → List V → V
 | .nil, _ => .nilslice
 | .empty, _ => .eslice
 | .list, l => .list 5 l
mutual
noncomputable def rwV : Rw → V
 | .mk n k e d f l => vAgg [sv n, .int .i64 k, .bool e, sv d, kform f (rwVs l)]
noncomputable def rwVs : List Rw → List V
 | [] => []
 | x :: l => rwV x :: rwVs l
end
def Rw.kids : Rw → List Rw
 | .mk _ _ _ _ .list l => l
 | .mk _ _ _ _ _ _ => []
def Rw.form : Rw → KForm | .mk _ _ _ _ f _ => f
def Rw.name : Rw → List UInt8 | .mk n _ _ _ _ _ => n
def Rw.kind : Rw → Int | .mk _ k _ _ _ _ => k
def Rw.exec : Rw → Bool | .mk _ _ e _ _ _ => e
def Rw.data : Rw → List UInt8 | .mk _ _ _ d _ _ => d
theorem qdu : ∀ l : List Rw, rwVs l = l.map rwV
 | [] => rfl
 | x :: l => by rw [rwVs, qdu l]; rfl
noncomputable def qn4 (x : Rw) : V := match x with | .mk _ _ _ _ f l => kform f (rwVs l)
noncomputable def qi0 (x : Rw) : List V := [sv x.name, .int .i64 x.kind, .bool x.exec, sv x.data, qn4 x]
theorem qfs (x : Rw) : rwV x = vAgg (qi0 x) := by cases x; rw [rwV]; rfl
def qb3 : Nat → Rw → Nd
 | 0, x => .mk x.name x.kind x.exec (x.data.take 400) []
 | d + 1, x => .mk x.name x.kind x.exec (x.data.take 400) ((x.kids.take 20).map (qb3 d))
def RwOk (x : Rw) : Prop := x.name.length < 9223372036854775808 ∧ (-9223372036854775808 ≤ x.kind ∧ x.kind < 9223372036854775808)
def DeepOk : Nat → Rw → Prop
 | 0, x => RwOk x
 | d + 1, x => RwOk x ∧ ∀ y ∈ x.kids, DeepOk d y
theorem cntL_le (B : Nat) : ∀ l : List Nd, (∀ y ∈ l, qei y ≤ B) → cntL l ≤ l.length * B
 | [], _ => by rw [cntL]; omega
 | x :: l, h => by
  have h1 := h x (List.mem_cons_self ..)
  have h2 := cntL_le B l fun y hy => h y (List.mem_cons_of_mem _ hy)
  rw [cntL, List.length_cons, Nat.succ_mul]
  omega
def most : Nat → Nat
 | 0 => 1
 | d + 1 => 1 + 20 * most d
theorem qo6 : ∀ (d : Nat) (x : Rw), qei (qb3 d x) ≤ most d
 | 0, x => by rw [qb3, qei, cntL]; exact Nat.le_refl _
 | d + 1, x => by
  rw [qb3, qei, most]
  have h := cntL_le (most d) ((x.kids.take 20).map (qb3 d)) fun y hy => by
   rw [List.mem_map] at hy
   obtain ⟨z, _, rfl⟩ := hy
   exact qo6 d z
  rw [List.length_map, List.length_take] at h
  have h2 : min 20 x.kids.length * most d ≤ 20 * most d := Nat.mul_le_mul_right _ (Nat.min_le_left ..)
  omega
theorem most_mono {a b : Nat} (h : a ≤ b) : most a ≤ most b := by
 induction h with
 | refl => exact Nat.le_refl _
 | step _ ih => exact Nat.le_trans ih (by rw [most]; omega)
theorem short_ok : ∀ (d : Nat) (x : Rw), d ≤ 14 → DeepOk d x → (qb3 d x).ok
 | 0, x, _, h => by
  rw [qb3, Nd.ok]
  exact ⟨h.1, h.2, by simp; omega, by simp, by simp [cntL], by simp [okL]⟩
 | d + 1, x, hd, h => by
  have hc := qo6 (d + 1) x
  have hm := most_mono hd
  have h14 : most 14 < 4611686018427387904 := by decide
  rw [qb3, qei] at hc
  rw [qb3, Nd.ok]
  refine ⟨h.1.1, h.1.2, by simp; omega, by simp; omega, by omega, (okL_iff _).2 fun y hy => ?_⟩
  rw [List.mem_map] at hy
  obtain ⟨z, hz, rfl⟩ := hy
  exact short_ok d z (by omega) (h.2 z (List.mem_of_mem_take hz))
mutual
theorem qko (N : Nat) : ∀ x : Nd, Under N (qc7 x)
 | .mk n k e d l => by
  rw [qc7]
  refine .agg fun i v hi => ?_
  rw [qk1] at hi
  have hk : Under N (qe2 (qfv l)) := by
   have := under_encL N l
   cases hl : qfv l with
   | nil => exact .nilslice
   | cons a m => rw [hl] at this; exact .list this
  match i, hi with
  | 0, hi => simp at hi; subst hi; exact qlz _
  | 1, hi => simp at hi; subst hi; exact .int _ _
  | 2, hi => simp at hi; subst hi; exact .bool _
  | 3, hi => simp at hi; subst hi; exact qlz _
  | 4, hi => simp at hi; subst hi; exact hk
  | i + 5, hi => simp at hi
theorem under_encL (N : Nat) : ∀ l : List Nd, Unders N (qfv l)
 | [] => by rw [qfv]; exact .nil
 | x :: l => by rw [qfv]; exact .cons (qko N x) (under_encL N l)
end
noncomputable def qet (x : Nd) : Tr V := Tr.ofListFrom .nil (qe5 x) 0
theorem qbz (x : Nd) : qc7 x = .agg 5 (qet x) := by rw [qdn]; rfl
section
variable {s : St}
theorem bsP_node (ho : s.on = false) (z : Tr V) (x : Nd) : ∃ t, bsP 24 5 1 z [(0, qc7 x)] s = some (.slice s.next 0 1 1, t) ∧ RowAt t s.next 24 5 [qet x] ∧ Grew (fun _ => False) s t ∧ t.next = s.next + 1 := by
 rw [qbz]
 refine ⟨nw s (.cells 24 5 1 false ((Tr.tab 1 1 fun _ => z).set (qet x) 0)), ?_, ?_, qc6 ho _ _, rfl⟩
 · unfold bsP qfh qfh
   simp only [V.size, qa9, V.cells, show Nat.beq 5 5 = true from rfl, Bool.not_false, Bool.and_true, show Nat.blt 0 1 = true from rfl, cond_true, Tr.setC_eq, oB]
 · refine qf2 ho (by omega) rfl (by unfold big; omega) fun i t h => ?_
   rw [Tr.get_set]
   cases i with
   | zero => simpa using h
   | succ i => simp at h
theorem ap_first (ho : s.on = false) {b : Nat} {t : Tr V} (h : RowAt s b 24 5 [t]) : ∃ u, apP 24 5 72 .nilslice (.slice b 0 1 1) s = some (.oslice s.next 0 1 5, u) ∧ RowAt u s.next 24 5 [t] ∧ Grew (fun _ => False) s u ∧ u.next = s.next + 1 := by
 refine ⟨qaj s 24 5 [t], ?_, qfb ho (by omega) (by unfold big; simp), qc6 ho _ _, rfl⟩
 unfold apP
 simp only [lenV, oB, show Nat.blt ((0 + 1) * (72 + 5 + 1)) qai = true from rfl, cond_true]
 unfold qd8 qb7
 have := h.ldN ho 1 0 (by simp)
 simp only [Nat.zero_mul, List.drop_zero] at this
 simp only [this, oB, show Nat.beq 1 0 = false from rfl, cond_false]
 rfl
theorem ap_more (ho : s.on = false) {b r : Nat} {t : Tr V} {l : List (Tr V)} (h : RowAt s b 24 5 [t]) (hr : RowAt s r 24 5 l) (hl : l.length ≤ 3000) : ∃ u, apP 24 5 72 (.oslice r 0 l.length 5) (.slice b 0 1 1) s = some (.oslice s.next 0 (l.length + 1) 5, u) ∧ RowAt u s.next 24 5 (l ++ [t]) ∧ Grew (fun x => x = r) s u ∧ u.next = s.next + 1 := by
 obtain ⟨c, hc1, hc2⟩ := hr.row
 have hfit := hr.fit
 refine ⟨nw (s.put r .dead) (.cells 24 5 (l.length + 1) false (c.set t l.length)), ?_, ?_, ?_, rfl⟩
 · unfold apP
   have hm : Nat.blt ((l.length + 1) * (72 + 5 + 1)) qai = true := by rw [blt_true]; unfold qai; omega
   simp only [lenV, oB, hm, cond_true]
   unfold qd8 qb7
   have := h.ldN ho 1 0 (by simp)
   simp only [Nat.zero_mul, List.drop_zero] at this
   simp only [this, oB, show Nat.beq 5 5 = true from rfl, cond_true]
   unfold qlg
   rw [hc1]
   have hb : Nat.ble (0 + (l.length + 1) * 5) (5 * l.length) = false := by
    cases hh : Nat.ble (0 + (l.length + 1) * 5) (5 * l.length) with
    | false => rfl
    | true => rw [ble_true] at hh; omega
   simp only [blt_true.2 hfit, cond_true, oB, qat ho, hb, cond_false]
   unfold qhy
   rw [hc1]
   simp only [show Nat.beq 24 24 = true from rfl, Bool.not_true, Bool.or_self, cond_false, show Nat.beq 5 5 = true from rfl, show Nat.beq 0 0 = true from rfl, Nat.beq_refl, blt_true.2 hfit, Bool.and_self, cond_true]
   rw [show List.take 1 [t] = [t] from rfl]
   unfold addLC addLC
   rw [Tr.setC_eq]
   unfold setO
   rw [qat ho]
 · have hnx : (s.put r .dead).next = s.next := rfl
   have := qf2 (s := s.put r .dead) (e := 24) (z := 5) (n := l.length + 1) (c := c.set t l.length) (l := l ++ [t]) ho (by omega) (by simp) (by unfold big; omega) fun i u h => by
    rw [Tr.get_set]
    by_cases hi : i = l.length
    · subst hi
      rw [if_pos rfl]
      simpa using h
    · rw [if_neg hi]
      have hlt := (List.getElem?_eq_some_iff.1 h).1
      rw [List.length_append, List.length_singleton] at hlt
      rw [List.getElem?_append_left (by omega)] at h
      exact hc2 i u h
   exact this
 · exact ⟨by show s.next ≤ s.next + 1; omega, (nw_on (s := s.put r .dead) ho _).trans ho.symm, fun x hx hw => by
    rw [qem, if_neg (by show x ≠ s.next; omega), qbp, if_neg hw]⟩
end
section
variable {s : St}
theorem Bx.var {b e : Nat} {l : List V} (h : Bx s b e l) (h0 : 0 < l.length) (hl : l.length < big) : VarAt s b e l.length l := by
 refine ⟨h0, hl, rfl, _, h, fun i v hi => ?_⟩
 have hlt := (List.getElem?_eq_some_iff.1 hi).1
 rw [tr_two, if_pos hlt]; exact hi
theorem VarAt.agg {b e z : Nat} {l : List V} (h : VarAt s b e z l) : ∃ t, AgAt s b e z t ∧ ∀ (i : Nat) v, l[i]? = some v → t.get i = some v := by
 obtain ⟨c, h1, h2⟩ := h.row
 have hl := h.len
 obtain ⟨u, hu⟩ : ∃ u, l[0]? = some u := ⟨_, List.getElem?_eq_getElem (by have := h.pos; omega)⟩
 have h0 := h2 0 u hu
 rw [qca h.pos, oI] at h0
 obtain ⟨t, ht, _⟩ := h0
 refine ⟨t, ⟨c, h1, ht⟩, fun i v hi => ?_⟩
 have hlt := (List.getElem?_eq_some_iff.1 hi).1
 have := h2 i v hi
 rw [qca (by omega), ht] at this
 exact this
def SliceIs (s : St) (N0 : Nat) (v : V) (acc : List Nd) : Prop := (acc = [] ∧ v = .nilslice) ∨ (acc ≠ [] ∧ ∃ r, v = .oslice r 0 acc.length 5 ∧ RowAt s r 24 5 (acc.map qet) ∧ N0 ≤ r ∧ r < s.next)
theorem SliceIs.grew {W : Nat → Prop} {t : St} {N0 : Nat} {v : V} {acc : List Nd} (h : SliceIs s N0 v acc) (hw : ∀ r, N0 ≤ r → r < s.next → ¬ W r) (g : Grew W s t) : SliceIs t N0 v acc := by
 rcases h with h | ⟨h1, r, h2, h3, h4, h5⟩
 · exact .inl h
 · exact .inr ⟨h1, r, h2, h3.grew h5 (hw r h4 h5) g, h4, Nat.lt_of_lt_of_le h5 g.next⟩
theorem SliceIs.add (ho : s.on = false) {N0 : Nat} {v : V} {acc : List Nd} (h : SliceIs s N0 v acc) (hN : N0 ≤ s.next) (hl : acc.length ≤ 3000) (z : Tr V) (y : Nd) :
 ∃ t v' u, bsP 24 5 1 z [(0, qc7 y)] s = some (.slice s.next 0 1 1, t) ∧ apP 24 5 72 v (.slice s.next 0 1 1) t = some (v', u) ∧ SliceIs u N0 v' (acc ++ [y]) ∧ Grew (fun x => N0 ≤ x) s u := by
 obtain ⟨t, h1, h2, h3, h4⟩ := bsP_node ho z y
 have on1 := h3.on.trans ho
 rcases h with ⟨rfl, rfl⟩ | ⟨hne, r, rfl, hr, hNr, hrn⟩
 · obtain ⟨u, k1, k2, k3, k4⟩ := ap_first on1 h2
   refine ⟨t, _, u, h1, k1, .inr ⟨by simp, t.next, rfl, k2, by omega, by omega⟩, (Grew.of0 h3).trans (Grew.of0 k3)⟩
 · have hr1 := hr.grew hrn (fun h => h) h3
   obtain ⟨u, k1, k2, k3, k4⟩ := ap_more on1 h2 hr1 (by simpa using hl)
   rw [List.length_map] at k1
   refine ⟨t, _, u, h1, k1, .inr ⟨by simp, t.next, by rw [List.length_append]; rfl, by rw [List.map_append]; exact k2, by omega, by omega⟩, (Grew.of0 h3).trans (k3.mono fun x _ hx => by rw [hx]; exact hNr)⟩
end
theorem lnS_kidsR (x : Rw) (S : St) : lnS (qn4 x) S = some (.int .i64 (x.kids.length : Int), S) := by
 cases x with
 | mk n k e d f l =>
  cases f with
  | nil => rfl
  | empty => rfl
  | list =>
   show some (V.int .i64 (.ofNat (rwVs l).length), S) = _
   rw [qdu, List.length_map]; rfl
theorem ixP_kidsR (x : Rw) (i : Nat) (h : i < x.kids.length) : ixP 5 (qn4 x) (.int .i64 (i : Int)) = some (.cptr (rwV x.kids[i])) := by
 cases x with
 | mk n k e d f l =>
  cases f with
  | nil => simp [Rw.kids] at h
  | empty => simp [Rw.kids] at h
  | list =>
   have h' : i < l.length := h
   show ixP 5 (.list 5 (rwVs l)) _ = _
   rw [ixP_list 5 (rwVs l) .i64 i (by rw [qdu, List.length_map]; exact h') (by decide)]
   congr 2
   simp only [qdu, List.getElem_map]
   rfl
theorem ldA_kidR (x : Rw) (S : St) : ldA 5 (.cptr (rwV x)) S = some (rwV x, S) := by rw [qfs]; exact ldA_cptr (qi0 x)
theorem L8_stop (self : EV) (N : Nat) (nk : Ac → St → Rs) (ek : Nat → Ac → St → Rs) (n : Nat) (x : Rw) (b0 b1 : Nat) (cs : List V) (hcs : cs[4]? = some (qn4 x)) (S : St) (ho : S.on = false) (hv : VarAt S b0 24 5 cs) (d i : Nat) (v5 : V) (h : ¬ (i < x.kids.length ∧ i < 20 ∧ 0 < d)) :
 L6_20 self N nk ek (n + 1) (.int .i64 (d : Int)) (.ptr b0 0) (.ptr b1 0) v5 (.int .i64 (i : Int)) S = ek 0 (fr 44 [(2, .ptr b0 0), (4, .ptr b1 0), (5, v5)]) S := by
 rw [L6_20_eq, faP_ptr, oB, Nat.zero_add, ld1_ptr, hv.ld ho hcs, oB]
 dsimp only
 rw [lnS_kidsR, oB]
 dsimp only
 rw [binV_ii, intsV_lss, oB, qa7, oB]
 by_cases h1 : i < x.kids.length
 · rw [qfe h1, cond_true, oB, oB, cond_true, binV_ii, intsV_lss, oB]
   by_cases h2 : i < 20
   · rw [show decide ((i : Int) < 20) = true by simp; omega, show qag (.bool true) (some (.bool true)) (some (.bool false)) = some (.bool true) from rfl, oB, qa7, oB, cond_true, oB, oB, cond_true, binV_ii, intsV_gtr, oB]
     rw [show decide ((0 : Int) < (d : Int)) = false by simp; omega, show qag (.bool true) (some (.bool false)) (some (.bool false)) = some (.bool false) from rfl, oB, ifK_bool, cond_false]
   · rw [show decide ((i : Int) < 20) = false by simp; omega, show qag (.bool true) (some (.bool false)) (some (.bool false)) = some (.bool false) from rfl, oB, qa7, oB, cond_false, oB, oB, cond_false, oB, show qag (.bool false) (some (.tuple [])) (some (.bool false)) = some (.bool false) from rfl, oB, ifK_bool, cond_false]
 · rw [qga (by omega), cond_false, oB, oB, cond_false, oB, show qag (.bool false) (some (.tuple [])) (some (.bool false)) = some (.bool false) from rfl, oB, qa7, oB, cond_false, oB, oB, cond_false, oB, show qag (.bool false) (some (.tuple [])) (some (.bool false)) = some (.bool false) from rfl, oB, ifK_bool, cond_false]
theorem L8_spec (self : EV) (N : Nat) (nk : Ac → St → Rs) (ek : Nat → Ac → St → Rs) (x : Rw) (b0 b1 N0 d : Nat) (hd : d < 14) (cs : List V) (hcs : cs[4]? = some (qn4 x)) (hb0 : b0 < N0) (hb1 : b1 < N0)
 (h8 : ∀ y ∈ x.kids, ∀ S, self.f 6 [rwV y, .int .i64 (d : Int)] S = some (.ret (qc7 (qb3 d y)), S)) (t1 : Tr V) :
 ∀ (r : List Rw) (i n : Nat) (S : St) (acc : List Nd) (v5 : V), (x.kids.take 20).drop i = r → r.length < n → i ≤ 20 → acc.length = i → S.on = false → N0 ≤ S.next → VarAt S b0 24 5 cs → AgAt S b1 24 5 t1 → SliceIs S N0 v5 acc →
 ∃ S' v5', L6_20 self N nk ek n (.int .i64 ((d + 1 : Nat) : Int)) (.ptr b0 0) (.ptr b1 0) v5 (.int .i64 (i : Int)) S = ek 0 (fr 44 [(2, .ptr b0 0), (4, .ptr b1 0), (5, v5')]) S' ∧ SliceIs S' N0 v5' (acc ++ r.map (qb3 d)) ∧ VarAt S' b0 24 5 cs ∧ AgAt S' b1 24 5 t1 ∧ Grew (fun y => N0 ≤ y) S S'
 | r, i, 0, S, acc, v5, _, hn, _, _, _, _, _, _, _ => by omega
 | [], i, n + 1, S, acc, v5, hi, hn, h20, ha, ho, hN, hv, hg, hs => by
  have hlen := qbq hi
  rw [List.length_take] at hlen
  exact ⟨S, v5, L8_stop self N nk ek n x b0 b1 cs hcs S ho hv (d + 1) i v5 (by omega), by simpa using hs, hv, hg, Grew.refl _ _⟩
 | y :: r, i, n + 1, S, acc, v5, hi, hn, h20, ha, ho, hN, hv, hg, hs => by
  obtain ⟨hlt, hy, hr, hmem⟩ := qd0 hi
  have hlt2 := hlt
  rw [List.length_take] at hlt2
  have hik : i < x.kids.length := by omega
  have hy2 : x.kids[i] = y := by rw [← hy, List.getElem_take]
  obtain ⟨t, v', u, k1, k2, k3, k4⟩ := hs.add ho hN (by omega) (Tr.ofListFrom .nil [(sv []), (.int .i64 0), (.bool false), (sv []), .nilslice] 0) (qb3 d y)
  have hv' := hv.grew (by omega) (by omega) k4
  have hg' := hg.grew (by omega) (by omega) k4
  obtain ⟨S', v5', z1, z2, z3, z4, z5⟩ := L8_spec self N nk ek x b0 b1 N0 d hd cs hcs hb0 hb1 h8 t1 r (i + 1) n u (acc ++ [qb3 d y]) v' hr (by simp at hn; omega) (by omega) (by simp [ha]) (k4.on.trans ho) (by have := k4.next; omega) hv' hg' k3
  refine ⟨S', v5', ?_, by simpa using z2, z3, z4, k4.trans z5⟩
  rw [L6_20_eq, faP_ptr, oB, Nat.zero_add, ld1_ptr, hv.ld ho hcs, oB]
  dsimp only
  rw [lnS_kidsR, oB]
  dsimp only
  rw [binV_ii, intsV_lss, oB, qa7, oB, qfe hik, cond_true, oB, oB, cond_true, binV_ii, intsV_lss, oB]
  rw [show decide ((i : Int) < 20) = true by simp; omega, show qag (.bool true) (some (.bool true)) (some (.bool false)) = some (.bool true) from rfl, oB, qa7, oB, cond_true, oB, oB, cond_true, binV_ii, intsV_gtr, oB]
  rw [show decide ((0 : Int) < ((d + 1 : Nat) : Int)) = true by simp, show qag (.bool true) (some (.bool true)) (some (.bool false)) = some (.bool true) from rfl, oB, ifK_bool, cond_true, oB, ld1_ptr, hv.ld ho hcs, oB]
  dsimp only
  rw [ixP_kidsR x i hik, hy2, oB, ldA_kidR, oB]
  dsimp only
  rw [binV_ii, intsV_sub, show ((d + 1 : Nat) : Int) - 1 = (d : Int) by omega, qby (by omega) (by omega), oB, h8 y (List.mem_of_mem_take hmem), callP_ret, k1, oB]
  dsimp only
  rw [k2, oB, binV_ii, intsV_add, qbk (by omega), oB]
  exact z1
theorem rwV_fields {x y : Rw} (h : rwV x = rwV y) : x.name = y.name ∧ x.kind = y.kind ∧ x.exec = y.exec ∧ x.data = y.data ∧ qn4 x = qn4 y := by
 rw [qfs, qfs] at h
 have h := vAgg_inj h
 simp only [qi0, List.cons.injEq, V.int.injEq, V.bool.injEq, true_and, and_true] at h
 obtain ⟨h1, h2, h3, h4, h5⟩ := h
 exact ⟨qk0 h1, h2, h3, qk0 h4, h5⟩
theorem kidsR_map {x y : Rw} (h : qn4 x = qn4 y) : x.kids.map rwV = y.kids.map rwV := by
 cases x with
 | mk n k e d f l =>
  cases y with
  | mk n' k' e' d' f' l' =>
   cases f <;> cases f' <;> simp only [qn4, kform, reduceCtorEq, V.list.injEq, true_and] at h
   · rfl
   · rfl
   · rw [qdu, qdu] at h; exact h
theorem map_eq_of {f : Rw → Nd} : ∀ {l m : List Rw}, (∀ x y, rwV x = rwV y → f x = f y) → l.map rwV = m.map rwV → l.map f = m.map f
 | [], [], _, _ => rfl
 | [], _ :: _, _, h => by simp at h
 | _ :: _, [], _, h => by simp at h
 | x :: l, y :: m, hf, h => by
  simp only [List.map_cons, List.cons.injEq] at h ⊢
  exact ⟨hf x y h.1, map_eq_of hf h.2⟩
theorem short_eq : ∀ (d : Nat) (x y : Rw), rwV x = rwV y → qb3 d x = qb3 d y
 | 0, x, y, h => by
  obtain ⟨h1, h2, h3, h4, _⟩ := rwV_fields h
  rw [qb3, qb3, h1, h2, h3, h4]
 | d + 1, x, y, h => by
  obtain ⟨h1, h2, h3, h4, h5⟩ := rwV_fields h
  rw [qb3, qb3, h1, h2, h3, h4]
  congr 1
  refine map_eq_of (fun a b => short_eq d a b) ?_
  rw [List.map_take, List.map_take, kidsR_map h5]
structure ShortIn where
 d : Nat
 x : Rw
 hd : d ≤ 14
noncomputable def qj4 (p : ShortIn) : List V := [rwV p.x, .int .i64 (p.d : Int)]
theorem qku {p q : ShortIn} (h : qj4 p = qj4 q) : rwV p.x = rwV q.x ∧ p.d = q.d := by
 simp only [qj4, List.cons.injEq, V.int.injEq, true_and, and_true] at h
 exact ⟨h.1, by omega⟩
noncomputable def kfShort : KF := qd6 qj4 (fun p => En.ret (qc7 (qb3 p.d p.x)))
theorem qn3 (d : Nat) (x : Rw) (hd : d ≤ 14) (S : St) : kfShort.run [rwV x, .int .i64 (d : Int)] S = some (.ret (qc7 (qb3 d x)), S) :=
 qc5 (enc := qj4) (out := fun p => En.ret (qc7 (qb3 p.d p.x))) (fun p q h => by obtain ⟨h1, h2⟩ := qku h; rw [h2, short_eq q.d _ _ h1]) ⟨d, x, hd⟩ S
def qkd (d : Nat) (x : Rw) : List Nd := match d with | 0 => [] | d + 1 => (x.kids.take 20).map (qb3 d)
theorem short_fields (d : Nat) (x : Rw) : (qb3 d x).name = x.name ∧ (qb3 d x).kind = x.kind ∧ (qb3 d x).exec = x.exec ∧ (qb3 d x).data = x.data.take 400 ∧ (qb3 d x).kids = qkd d x := by
 cases d <;> exact ⟨rfl, rfl, rfl, rfl, rfl⟩
theorem qmw {s : St} {N : Nat} {c : Tr (Tr V)} : ∀ (l : List Nd) (i : Nat), (∀ (j : Nat) y, l[j]? = some y → c.get (i + j) = some (qet y)) → FzRow s N c i 5 (l.map qc7)
 | [], i, _ => .nil
 | y :: l, i, h => by
  have h0 := h 0 y rfl
  rw [List.map_cons, qbz]
  refine .row h0 ?_ (qmw l (i + 1) fun j z hj => ?_)
  · rw [← qbz]
    exact .same (qko _ _)
  · have := h (j + 1) z (by simpa using hj)
    rw [show i + 1 + j = i + (j + 1) by omega]; exact this
theorem F8_spec (self : EV) (x : Rw) (d : Nat) (hd : d ≤ 14) (S : St) (ho : S.on = false) (h8 : ∀ (m : Nat) y, d = m + 1 → ∀ S, self.f 6 [rwV y, .int .i64 (m : Int)] S = some (.ret (qc7 (qb3 m y)), S)) :
 ∃ (v : V) (S' : St), F6 self qa1 (rwV x) (.int .i64 (d : Int)) S = some (.ret v, S') ∧ Fz S' S.next v (qc7 (qb3 d x)) ∧ Grew (fun _ => False) S S' := by
 obtain ⟨S1, k1, k2, k3, k4⟩ := box_new ho 24 (qi0 x)
 have on1 := k3.on.trans ho
 have hv1 := Bx.var k2 (by show 0 < 5; decide) big5
 obtain ⟨a1, a2, a3⟩ := ag_new on1 24 5 (Tr.ofListFrom .nil [(sv []), (.int .i64 0), (.bool false), (sv []), .nilslice] 0)
 generalize hS2 : (nwP 24 5 (Tr.ofListFrom .nil [(sv []), (.int .i64 0), (.bool false), (sv []), .nilslice] 0) S1).2 = S2 at a1 a2 a3
 have on2 := a2.on.trans on1
 have hv2 := hv1.grew (by omega) (fun h => h) a2
 obtain ⟨S3, b1, b2, b3, b4⟩ := hv2.st on2 (i := 3) (by show 3 < 5; decide) (sv (x.data.take 400))
 have on3 := b3.on.trans on2
 have ha3 := a1.grew (by omega) (by omega) b3
 have hst : stP 1 (.ptr S.next 3) (sv (x.data.take 400)) S2 = some (.tuple [], S3) := by
  show vu (stK S2 S.next 3 1 (Go.Proofs.Ytmeohejdafbodaa.Ev.one (sv _))) = _
  rw [b1]; rfl
 have hcs : ((qi0 x).set 3 (sv (x.data.take 400)))[4]? = some (qn4 x) := rfl
 have hloop : ∃ S4 v5, L6_20 self qa1 (R6_12 self qa1 (qaw E0 self Try.f6) qad) (exB 0 (R6_12 self qa1 (qaw E0 self Try.f6) qad) qad) qa1 (.int .i64 (d : Int)) (.ptr S.next 0) (.ptr S1.next 0) .nilslice (.int .i64 0) S3 = exB 0 (R6_12 self qa1 (qaw E0 self Try.f6) qad) qad 0 (fr 44 [(2, .ptr S.next 0), (4, .ptr S1.next 0), (5, v5)]) S4 ∧
  SliceIs S4 S2.next v5 (qkd d x) ∧ VarAt S4 S.next 24 5 ((qi0 x).set 3 (sv (x.data.take 400))) ∧ AgAt S4 S1.next 24 5 (Tr.ofListFrom .nil [(sv []), (.int .i64 0), (.bool false), (sv []), .nilslice] 0) ∧ Grew (fun y => S2.next ≤ y) S3 S4 := by
  cases d with
  | zero =>
   have := L8_stop self qa1 (R6_12 self qa1 (qaw E0 self Try.f6) qad) (exB 0 (R6_12 self qa1 (qaw E0 self Try.f6) qad) qad) (qa1 - 1) x S.next S1.next _ hcs S3 on3 b2 0 0 .nilslice (by omega)
   rw [show qa1 - 1 + 1 = qa1 by unfold qa1; omega] at this
   exact ⟨S3, .nilslice, this, .inl ⟨rfl, rfl⟩, b2, ha3, Grew.refl _ _⟩
  | succ m =>
   obtain ⟨S4, v5, z1, z2, z3, z4, z5⟩ := L8_spec self qa1 (R6_12 self qa1 (qaw E0 self Try.f6) qad) (exB 0 (R6_12 self qa1 (qaw E0 self Try.f6) qad) qad) x S.next S1.next S2.next m (by omega) _ hcs (by omega) (by omega) (fun y hy S => h8 m y rfl S) _ (x.kids.take 20) 0 qa1 S3 [] .nilslice rfl (by rw [List.length_take]; unfold qa1; omega) (by omega) rfl on3 (by omega) b2 ha3 (.inl ⟨rfl, rfl⟩)
   exact ⟨S4, v5, z1, by rw [List.nil_append] at z2; exact z2, z3, z4, z5⟩
 obtain ⟨S4, v5, z1, z2, z3, z4, z5⟩ := hloop
 have on4 := z5.on.trans on3
 have hv5 : v5.size = 1 ∧ qa9 v5 = false ∧ v5.cells = Go.Proofs.Ytmeohejdafbodaa.Ev.one v5 := by
  rcases z2 with ⟨_, rfl⟩ | ⟨_, r, rfl, _⟩ <;> exact ⟨rfl, rfl, rfl⟩
 obtain ⟨S5, c1, c2, c3, c4⟩ := z3.st on4 (i := 4) (by decide) v5
 have on5 := c3.on.trans on4
 have hst5 : stP 1 (.ptr S.next 4) v5 S4 = some (.tuple [], S5) := by
  show vu (bif Nat.beq v5.size 1 && !qa9 v5 then stK S4 S.next 4 1 v5.cells else none) = _
  rw [hv5.1, hv5.2.1, hv5.2.2, c1]; rfl
 have z4' := z4.grew (by have := z5.next; omega) (by omega) c3
 have z2' := z2.grew (by omega) c3
 obtain ⟨t, ht, hget⟩ := VarAt.agg c2
 obtain ⟨S6, e1, e2, e3, e4⟩ := z4'.stA on5 big5 t
 have on6 := e3.on.trans on5
 have z2'' := z2'.grew (by omega) e3
 refine ⟨.agg 5 t, S6, ?_, ?_, ?_⟩
 · rw [F6_eq, qfs, k1, oB, oB]
   dsimp only
   rw [faP_ptr, oB, Nat.zero_add, ld1_ptr, hS2, hv2.ld on2 (show (qi0 x)[3]? = some (sv x.data) from rfl), oB, oB]
   dsimp only
   rw [ld1_ptr, hv2.ld on2 (show (qi0 x)[3]? = some (sv x.data) from rfl), oB]
   dsimp only
   rw [lnStr_sv, oB]
   dsimp only
   rw [foldK_min, show min (x.data.length : Int) 400 = ((min x.data.length 400 : Nat) : Int) by omega, oB]
   dsimp only
   rw [qly und9 x.data (bounds_hi .i64 (Nat.min_le_left ..)) (Nat.min_le_left ..), oB, oB]
   dsimp only
   rw [List.drop_zero, Nat.sub_zero, show List.take (min x.data.length 400) x.data = x.data.take 400 by
    rcases Nat.le_total x.data.length 400 with h | h
    · rw [Nat.min_eq_left h, List.take_length, List.take_of_length_le h]
    · rw [Nat.min_eq_right h], hst, oB, qel]
   dsimp only
   rw [z1, exB_same, R6_12_eq, faP_ptr, oB, Nat.zero_add, hst5, oB]
   dsimp only
   rw [ht.ldA on5 big5, oB]
   dsimp only
   rw [e1, oB]
   dsimp only
   rw [e2.ldrA on6 big5]
   rfl
 · obtain ⟨f1, f2, f3, f4, f5⟩ := short_fields d x
   rw [qbz]
   have hcell : ∀ (i : Nat) v, (qe5 (qb3 d x))[i]? = some v → (Tr.ofListFrom .nil (qe5 (qb3 d x)) 0).get i = some v := fun i v h => by rw [Tr.get_ofList]; exact h
   have hg : ∀ (i : Nat) v, (((qi0 x).set 3 (sv (x.data.take 400))).set 4 v5)[i]? = some v → t.get i = some v := hget
   refine .agg (fun i => ((((qi0 x).set 3 (sv (x.data.take 400))).set 4 v5)[i]?).getD .nilptr) (fun i v' _ hi => ?_) fun i v' hv' hi => ?_
   · match i, hi with
     | 0, _ => exact hg 0 _ rfl
     | 1, _ => exact hg 1 _ rfl
     | 2, _ => exact hg 2 _ rfl
     | 3, _ => exact hg 3 _ rfl
     | 4, _ => exact hg 4 _ rfl
   · have hv2 : (qe5 (qb3 d x))[i]? = some v' := by
      have : (Tr.ofListFrom .nil (qe5 (qb3 d x)) 0).get i = some v' := hv'
      rwa [Tr.get_ofList] at this
     unfold qe5 at hv2
     rw [f1, f2, f3, f4, f5] at hv2
     match i, hi, hv2 with
     | 0, _, hv2 => simp at hv2; subst hv2; exact .same (qlz _)
     | 1, _, hv2 => simp at hv2; subst hv2; exact .same (.int _ _)
     | 2, _, hv2 => simp at hv2; subst hv2; exact .same (.bool _)
     | 3, _, hv2 => simp at hv2; subst hv2; exact .same (qlz _)
     | 4, _, hv2 =>
      simp at hv2; subst hv2
      show Fz S6 S.next v5 (qe2 (qfv (qkd d x)))
      rcases z2'' with ⟨h1, rfl⟩ | ⟨h1, r, rfl, hrow, hNr, hrn⟩
      · rw [h1, qfv]; exact .same .nilslice
      · obtain ⟨c, hc1, hc2⟩ := hrow.row
        have hne : qe2 (qfv (qkd d x)) = .list 5 (qfv (qkd d x)) := by
         cases h : qkd d x with
         | nil => exact absurd h h1
         | cons a l => rw [qfv]; rfl
        rw [hne, qj3]
        refine .oslice hc1 (by omega) (by omega) rfl (by rw [List.length_map]) (by rw [List.length_map]; omega) ?_
        rw [Nat.zero_div]
        exact qmw _ 0 fun j y hj => by
         rw [Nat.zero_add]
         exact hc2 j _ (by rw [List.getElem?_map, hj]; rfl)
 · have n5 := z5.next
   refine ⟨by omega, by rw [on6, ho], fun y hy _ => ?_⟩
   rw [e3.keep y (by omega) (by omega), c3.keep y (by omega) (by omega), z5.keep y (by omega) (by omega), b3.keep y (by omega) (by omega), a2.keep y (by omega) (fun h => h), k3.keep y hy (fun h => h)]
theorem kn8 {K : FuncId → Option KF} (hK : KnOk Try.prog E0 K) : KnWell Try.prog E0 6 kfShort :=
 qhs (fn := Try.f6) (c := C6) (d := B6) (fun p : ShortIn => p.d) (fun p q h => by obtain ⟨h1, h2⟩ := qku h; rw [h2, short_eq q.d _ _ h1]; exact ⟨rfl, rfl⟩) qm1 hK (by kernel_rfl) (by kernel_rfl) (qa3 C6 _ (by kernel_rfl)) fun K' _ p S hself ho => by
  obtain ⟨d, x, hd⟩ := p
  obtain ⟨v, S', h1, h2, h3⟩ := F8_spec (ev E0 K' 1) x d hd S ho fun m y hm S => hself ⟨m, y, by omega⟩ S 0 (by show m < d; omega)
  exact ⟨1, .ret v, S', h1, h3, h2⟩
def frz (W : World) : Rho := ⟨fun _ => none, fun k => W.heap[k]?⟩
theorem u24 : ∃ f0 f1 f2 f3 f4 : Field, Try.prog.underlying 24 = some (.struct #[f0, f1, f2, f3, f4]) ∧ (f0.type = 9 ∧ f0.offset = 0) ∧ (f1.type = 3 ∧ f1.offset = 1) ∧ (f2.type = 4 ∧ f2.offset = 2) ∧ (f3.type = 9 ∧ f3.offset = 3) ∧ (f4.type = 22 ∧ f4.offset = 4) :=
 ⟨_, _, _, _, _, Try.underlying24, ⟨rfl, rfl⟩, ⟨rfl, rfl⟩, ⟨rfl, rfl⟩, ⟨rfl, rfl⟩, ⟨rfl, rfl⟩⟩
theorem u22 : Try.prog.underlying 22 = some (.slice 24) := by kernel_rfl
theorem u9 : Try.prog.underlying 9 = some .string := by kernel_rfl
theorem u3 : Try.prog.underlying 3 = some (.int .i64) := by kernel_rfl
theorem u4 : Try.prog.underlying 4 = some .bool := by kernel_rfl
theorem c24 : Try.prog.cellsOf 24 = 5 := by kernel_rfl
theorem c9 : Try.prog.cellsOf 9 = 1 := by kernel_rfl
theorem c3 : Try.prog.cellsOf 3 = 1 := by kernel_rfl
theorem c4 : Try.prog.cellsOf 4 = 1 := by kernel_rfl
theorem c22 : Try.prog.cellsOf 22 = 1 := by kernel_rfl
mutual
def qgj : Rw → Prop
 | .mk n k _ _ _ l => n.length < 9223372036854775808 ∧ (-9223372036854775808 ≤ k ∧ k < 9223372036854775808) ∧ AllOks l
def AllOks : List Rw → Prop
 | [] => True
 | x :: l => qgj x ∧ AllOks l
end
theorem qk4 : ∀ l : List Rw, AllOks l ↔ ∀ x ∈ l, qgj x
 | [] => by simp [AllOks]
 | x :: l => by simp [AllOks, qk4 l]
theorem allOk_deep : ∀ (d : Nat) (x : Rw), qgj x → DeepOk d x
 | 0, .mk n k e a f l, h => by rw [qgj] at h; exact ⟨h.1, h.2.1⟩
 | d + 1, .mk n k e a f l, h => by
  rw [qgj] at h
  refine ⟨⟨h.1, h.2.1⟩, fun y hy => ?_⟩
  cases f with
  | nil => cases hy
  | empty => cases hy
  | list => exact allOk_deep d y ((qk4 l).1 h.2.2 y hy)
theorem qgy {α : Type} {f : Nat → Option α} : ∀ (n k : Nat) {r : List α}, ((List.range' k n).mapM f) = some r → r.length = n ∧ ∀ i, i < n → ∃ y, r[i]? = some y ∧ f (k + i) = some y
 | 0, k, r, h => by
  simp at h; subst h
  exact ⟨rfl, fun i hi => by omega⟩
 | n + 1, k, r, h => by
  rw [List.range'_succ, List.mapM_cons] at h
  simp only [Option.bind_eq_bind, oI, Option.pure_def, oS] at h
  obtain ⟨y, hy, r', hr', rfl⟩ := h
  obtain ⟨h1, h2⟩ := qgy n (k + 1) hr'
  refine ⟨by simp [h1], fun i hi => ?_⟩
  cases i with
  | zero => exact ⟨y, rfl, hy⟩
  | succ i =>
   obtain ⟨z, hz1, hz2⟩ := h2 i (by omega)
   exact ⟨z, by simpa using hz1, by rw [show k + (i + 1) = k + 1 + i by omega]; exact hz2⟩
theorem cells?_at {W : World} {a : Addr} {n : Nat} {cs : List Value} (h : W.cells? 0 a n = some cs) : cs.length = n ∧ ∀ i, i < n → ∃ y, cs[i]? = some y ∧ W.cell? (a.add i) = some y := by
 unfold World.cells? at h
 rw [if_pos (Nat.zero_le _), List.range_eq_range'] at h
 obtain ⟨h1, h2⟩ := qgy n 0 h
 exact ⟨h1, fun i hi => by
  obtain ⟨y, hy1, hy2⟩ := h2 i hi
  exact ⟨y, hy1, by rw [Nat.zero_add] at hy2; exact hy2⟩⟩
theorem add_eq {a : Addr} (h : a.spot = none) (n : Nat) : a.add n = ⟨a.block, a.off + n, none⟩ := by
 unfold Addr.add
 split
 · rename_i h0
   subst h0
   cases a
   simp only at h
   subst h
   rfl
 · rfl
theorem build {P : Nat → Rw → List Value → Prop} : ∀ (n : Nat), (∀ i, i < n → ∃ r c, P i r c) → ∃ (rs : List Rw) (cs : List (List Value)), rs.length = n ∧ cs.length = n ∧ ∀ i r c, rs[i]? = some r → cs[i]? = some c → P i r c
 | 0, _ => ⟨[], [], rfl, rfl, fun i r c h => by simp at h⟩
 | n + 1, h => by
  obtain ⟨rs, cs, h1, h2, h3⟩ := build n fun i hi => h i (by omega)
  obtain ⟨r, c, hrc⟩ := h n (by omega)
  refine ⟨rs ++ [r], cs ++ [c], by simp [h1], by simp [h2], fun i r' c' hr hc => ?_⟩
  by_cases hi : i < n
  · rw [List.getElem?_append_left (by omega)] at hr hc
    exact h3 i r' c' hr hc
  · have hi2 : i = n := by
     have := (List.getElem?_eq_some_iff.1 hr).1
     simp [h1] at this
     omega
    subst hi2
    rw [List.getElem?_append_right (by omega)] at hr hc
    simp [h1] at hr
    simp [h2] at hc
    subst hr; subst hc
    exact hrc
theorem vrels_of {ρ : Rho} : ∀ (l : List V) (m : List Value), l.length = m.length → (∀ (i : Nat) v cv, l[i]? = some v → m[i]? = some cv → VRel ρ v cv) → VRels ρ l m
 | [], [], _, _ => .nil
 | [], _ :: _, h, _ => by simp at h
 | _ :: _, [], h, _ => by simp at h
 | v :: l, c :: m, h, hr => .cons (hr 0 v c rfl rfl) (vrels_of l m (by simpa using h) fun i v cv h1 h2 => hr (i + 1) v cv (by simpa using h1) (by simpa using h2))
theorem flat_lies {big : Array Value} : ∀ (cs : List (List Value)) (off : Nat), (∀ (i : Nat) c, cs[i]? = some c → c.length = 5 ∧ ∀ (k : Nat) x, c[k]? = some x → big[off + i * 5 + k]? = some x) → ∀ (j : Nat) x, (cs.flatMap fun c => (Value.agg c.toArray).cells.toList)[j]? = some x → big[off + j]? = some x
 | [], off, _, j, x, h => by simp at h
 | c :: cs, off, hc, j, x, h => by
  obtain ⟨h1, h2⟩ := hc 0 c rfl
  have e : (Value.agg c.toArray).cells.toList = c := by simp [Value.cells]
  rw [List.flatMap_cons, e] at h
  by_cases hj : j < 5
  · rw [List.getElem?_append_left (by omega)] at h
    have := h2 j x h
    rwa [Nat.zero_mul, Nat.add_zero] at this
  · rw [List.getElem?_append_right (by omega), h1] at h
    have := flat_lies cs (off + 5) (fun i d hd => by
     obtain ⟨k1, k2⟩ := hc (i + 1) d (by simpa using hd)
     exact ⟨k1, fun k y hy => by
      have := k2 k y hy
      rw [show off + (i + 1) * 5 + k = off + 5 + i * 5 + k by omega] at this
      exact this⟩) (j - 5) x h
    rwa [show off + 5 + (j - 5) = off + j by omega] at this
theorem qoj {W : World} (s d : ByteArray) (k : Int) (e : Bool) (f : KForm) (l : List Rw) (kc : Value) (h1 : oneC kc = true) (hk : VRel (frz W) (kform f (rwVs l)) kc) :
 VRel (frz W) (rwV (.mk s.data.toList k e d.data.toList f l)) (.agg #[.string s, .int .i64 k, .bool e, .string d, kc]) := by
 rw [rwV]
 refine .agg rfl (fun i cv hi => ?_) fun i v hi cv hc => ?_
 · match i, hi with
   | 0, hi => simp at hi; subst hi; rfl
   | 1, hi => simp at hi; subst hi; rfl
   | 2, hi => simp at hi; subst hi; rfl
   | 3, hi => simp at hi; subst hi; rfl
   | 4, hi => simp at hi; subst hi; exact h1
   | i + 5, hi => simp at hi
 · rw [qk1] at hi
   match i, hi, hc with
   | 0, hi, hc => simp at hi hc; subst hi; subst hc; exact .str s
   | 1, hi, hc => simp at hi hc; subst hi; subst hc; exact .int _ _
   | 2, hi, hc => simp at hi hc; subst hi; subst hc; exact .bool _
   | 3, hi, hc => simp at hi hc; subst hi; subst hc; exact .str d
   | 4, hi, hc => simp at hi hc; subst hi; subst hc; exact hk
   | i + 5, hi, hc => simp at hi
theorem five {α : Type} {l : List α} (h : l.length = 5) : ∃ a b c d e, l = [a, b, c, d, e] := by
 match l, h with
 | [a, b, c, d, e], _ => exact ⟨a, b, c, d, e, rfl⟩
set_option maxRecDepth 100000 in
theorem qky {H : Type} {enc : TypeId × Value → H} {W : World} : ∀ (fuel : Nat) (cs : List Value) (x : DataW H × List MemPlace), DataW.trod enc Try.prog W 0 (fun _ => true) true fuel 24 cs = some x → ∃ r : Rw, VRel (frz W) (rwV r) (.agg cs.toArray) ∧ cs.length = 5 ∧ qgj r
 | fuel, cs, x, h => by
  obtain ⟨f0, f1, f2, f3, f4, hu, ⟨t0, o0⟩, ⟨t1, o1⟩, ⟨t2, o2⟩, ⟨t3, o3⟩, ⟨t4, o4⟩⟩ := u24
  obtain ⟨xs, n, hfuel, _, hl, hxl, hf⟩ := DataW.trod_struct hu h
  rw [c24] at hl
  have hx5 : xs.length = 5 := hxl
  obtain ⟨v0, v1, v2, v3, v4, rfl⟩ := five hl
  · have g0 := hf 0 f0 rfl
    have g1 := hf 1 f1 rfl
    have g2 := hf 2 f2 rfl
    have g3 := hf 3 f3 rfl
    have g4 := hf 4 f4 rfl
    rw [t0, o0, c9, List.getElem?_eq_getElem (by omega)] at g0
    rw [t1, o1, c3, List.getElem?_eq_getElem (by omega)] at g1
    rw [t2, o2, c4, List.getElem?_eq_getElem (by omega)] at g2
    rw [t3, o3, c9, List.getElem?_eq_getElem (by omega)] at g3
    rw [t4, o4, c22, List.getElem?_eq_getElem (by omega)] at g4
    obtain ⟨s, hs, _, hsl⟩ := DataW.trod_string u9 g0
    obtain ⟨k, hk, _, hkw⟩ := DataW.trod_int u3 g1
    obtain ⟨e, he, _⟩ := DataW.trod_bool u4 g2
    obtain ⟨d, hd, _, hdl⟩ := DataW.trod_string u9 g3
    simp only [List.drop_zero, List.take_succ_cons, List.take_zero, List.cons.injEq, and_true, List.drop_succ_cons] at hs hk he hd
    subst hs; subst hk; subst he; subst hd
    have hkr : -9223372036854775808 ≤ k ∧ k < 9223372036854775808 := by
     unfold Lit.wf at hkw
     simp only [Bool.and_eq_true, decide_eq_true_eq] at hkw
     have e1 : IntKind.i64.min = -9223372036854775808 := by decide
     have e2 : IntKind.i64.max = 9223372036854775807 := by decide
     rw [e1, e2] at hkw
     omega
    have hsn : s.data.toList.length < 9223372036854775808 := by
     have : s.data.toList.length = s.size := by rw [Array.length_toList]; rfl
     unfold maxLen at hsl
     omega
    rcases DataW.trod_slice u22 g4 with ⟨hv4, _⟩ | ⟨a, len, cap, elems, rest, m, hm, hv4, _, _, hcap, _, hel, hat, _⟩
    · simp only [List.drop_succ_cons, List.drop_zero, List.take_succ_cons, List.take_zero, List.cons.injEq, and_true] at hv4
      subst hv4
      exact ⟨.mk s.data.toList k e d.data.toList .nil [], qoj s d k e .nil [] _ rfl .nilslice, rfl, by rw [qgj]; exact ⟨hsn, hkr, trivial⟩⟩
    · simp only [List.drop_succ_cons, List.drop_zero, List.take_succ_cons, List.take_zero, List.cons.injEq, and_true] at hv4
      subst hv4
      by_cases h0 : len = 0
      · subst h0
        exact ⟨.mk s.data.toList k e d.data.toList .empty [], qoj s d k e .empty [] _ rfl (.eslice a cap), rfl, by rw [qgj]; exact ⟨hsn, hkr, trivial⟩⟩
      · have hAt : ∀ i, i < len → ∃ cells y, W.cells? 0 (a.add (i * 5)) 5 = some cells ∧ DataW.trod enc Try.prog W 0 (fun _ => true) true m 24 cells = some y := fun i hi => by
         have := hat i hi
         rw [c24, List.getElem?_eq_getElem (by omega), oI] at this
         obtain ⟨cells, h1, h2⟩ := this
         exact ⟨cells, _, h1, h2⟩
        have hspot : a.spot = none ∧ ∃ bg ty fr, W.heap[a.block]? = some (.cells bg ty fr) := by
         obtain ⟨cells, y, h1, _⟩ := hAt 0 (by omega)
         obtain ⟨_, h2⟩ := cells?_at h1
         obtain ⟨z, _, hz⟩ := h2 0 (by omega)
         rw [Nat.zero_mul, show (a.add 0).add 0 = a from rfl] at hz
         unfold World.cell? at hz
         split at hz
         · rename_i bg ty fr hh
           split at hz
           · cases hz
           · rename_i hsp
             refine ⟨by simpa using hsp, bg, ty, fr, hh⟩
         · cases hz
        obtain ⟨hsp, bg, ty, fr, hheap⟩ := hspot
        obtain ⟨rs, cls, r1, r2, r3⟩ := build (P := fun i r c => VRel (frz W) (rwV r) (.agg c.toArray) ∧ qgj r ∧ c.length = 5 ∧ ∀ (k : Nat) x, c[k]? = some x → bg[a.off + i * 5 + k]? = some x) len fun i hi => by
         obtain ⟨cells, y, h1, h2⟩ := hAt i hi
         have hlt : m < fuel := by omega
         obtain ⟨r, q1, q2, q3⟩ := qky m cells y h2
         refine ⟨r, cells, q1, q3, q2, fun k z hz => ?_⟩
         obtain ⟨_, h4⟩ := cells?_at h1
         have hk5 : k < 5 := by rw [← q2]; exact (List.getElem?_eq_some_iff.1 hz).1
         obtain ⟨z', hz1, hz2⟩ := h4 k hk5
         rw [hz] at hz1
         obtain rfl := Option.some.inj hz1
         rw [add_eq hsp, add_eq rfl] at hz2
         unfold World.cell? at hz2
         simp only at hz2
         rw [hheap] at hz2
         exact hz2
        have hlist : VRel (frz W) (.list 5 (rwVs rs)) (.slice (some a) len cap) := by
         refine .list (cl := cls.map fun c => .agg c.toArray) (vrels_of _ _ (by rw [qdu, List.length_map, List.length_map, r1, r2]) fun i v cv h1 h2 => ?_) (fun v hv => ?_) (by rw [qdu, List.length_map, r1]) hcap fun _ => ⟨fun cv hcv => ?_, hsp, bg, ty, fr, hheap, fun j c hj => ?_⟩
         · rw [qdu, List.getElem?_map, Option.map_eq_some_iff] at h1
           rw [List.getElem?_map, Option.map_eq_some_iff] at h2
           obtain ⟨r, hr, rfl⟩ := h1
           obtain ⟨c, hc, rfl⟩ := h2
           exact (r3 i r c hr hc).1
         · rw [qdu, List.mem_map] at hv
           obtain ⟨r, _, rfl⟩ := hv
           rw [qfs]; rfl
         · rw [List.mem_map] at hcv
           obtain ⟨c, hc, rfl⟩ := hcv
           obtain ⟨i, hi⟩ := List.getElem?_of_mem hc
           have hlt := (List.getElem?_eq_some_iff.1 hi).1
           have := (r3 i rs[i] c (List.getElem?_eq_getElem (by omega)) hi).2.2.1
           simp [Value.cells, this]
         · rw [List.flatMap_map] at hj
           exact flat_lies cls a.off (fun i c hc => by
            have hlt := (List.getElem?_eq_some_iff.1 hc).1
            exact (r3 i rs[i] c (List.getElem?_eq_getElem (by omega)) hc).2.2) j c hj
        refine ⟨.mk s.data.toList k e d.data.toList .list rs, qoj s d k e .list rs _ rfl hlist, rfl, ?_⟩
        rw [qgj]
        refine ⟨hsn, hkr, (qk4 rs).2 fun r hr => ?_⟩
        obtain ⟨i, hi⟩ := List.getElem?_of_mem hr
        have hlt := (List.getElem?_eq_some_iff.1 hi).1
        exact (r3 i r cls[i] hi (List.getElem?_eq_getElem (by omega))).2.1
termination_by fuel => fuel
end Go.Proofs.Ytmeohejdafbodaa.W
