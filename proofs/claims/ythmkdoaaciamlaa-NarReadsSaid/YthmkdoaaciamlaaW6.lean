/-
  WHAT THE FUNCTIONS COME TO: each is read by the evaluator, printed, and told as a function of data, part 6 of 12 (no condition).
-/
import Derived.Test.YthmkdoaaciamlaaW5
import Derived.WalkKit
import Derived.ProofKit
import Derived.OpenShut
import Derived.Test.YthmkdoaaciamlaaProg
import Derived.KernelRfl
namespace Go.Proofs.Ythmkdoaaciamlaa.W
open Go.Proofs.Ythmkdoaaciamlaa.Ev
theorem foldl_congr_max {f g : Nd → Nat} : ∀ (l : List Nd) (d : Nat), (∀ y ∈ l, f y = g y) → l.foldl (fun d y => max d (1 + f y)) d = l.foldl (fun d y => max d (1 + g y)) d
 | [], _, _ => rfl
 | y :: l, d, h => by
  simp only [List.foldl_cons]
  rw [h y (List.mem_cons_self ..)]
  exact foldl_congr_max l _ fun z hz => h z (List.mem_cons_of_mem _ hz)
theorem foldl_max_ge {f : Nd → Nat} : ∀ (l : List Nd) (d : Nat), d ≤ l.foldl (fun d y => max d (1 + f y)) d ∧ ∀ y ∈ l, 1 + f y ≤ l.foldl (fun d y => max d (1 + f y)) d
 | [], d => ⟨Nat.le_refl _, fun y h => by cases h⟩
 | x :: l, d => by
  simp only [List.foldl_cons]
  obtain ⟨h1, h2⟩ := foldl_max_ge (f := f) l (max d (1 + f x))
  refine ⟨Nat.le_trans (Nat.le_max_left ..) h1, fun y hy => ?_⟩
  rcases List.mem_cons.1 hy with rfl | hy
  · exact Nat.le_trans (Nat.le_max_right ..) h1
  · exact h2 y hy
theorem deep_dir {m : Nat} {x : Nd} (h2 : x.kind = 2) (hm : m ≠ 0) : deepN (m + 1) x = x.kids.foldl (fun d y => max d (1 + deepN m y)) 1 := by
 rw [deepN, if_neg (by rw [h2]; simp [hm])]
theorem deep_stable : ∀ (m : Nat) (x : Nd), deepN m x < m → deepN (m + 1) x = deepN m x
 | 0, x, h => by omega
 | m + 1, x, h => by
  by_cases h2 : x.kind = 2
  · by_cases hm : m = 0
    · subst hm
      rw [deepN, if_pos (.inr rfl)] at h
      omega
    · rw [deep_dir h2 hm] at h
      rw [deep_dir h2 hm, deep_dir h2 (by omega)]
      exact foldl_congr_max _ _ fun y hy => deep_stable m y (by have := (foldl_max_ge (f := deepN m) x.kids 1).2 y hy; omega)
  · rw [deepN, if_pos (.inl h2), deepN, if_pos (.inl h2)]
theorem deep_stable' {m : Nat} {x : Nd} (h : deepN m x < m) : ∀ k, deepN (m + k) x = deepN m x
 | 0 => rfl
 | k + 1 => by
  have := deep_stable' h k
  rw [show m + (k + 1) = m + k + 1 by omega, deep_stable _ _ (by omega), this]
theorem sizeL_cnt : ∀ (l : List Nd) (a : Int × Int) (c : Nat), a.1 = (c : Int) → (∀ y ∈ l, tooDeepN y = false ∧ (sizeN y).1 = (cntN y : Int)) → c + cntL l < 9223372036854775808 → (sizeL l a).1 = ((c + cntL l : Nat) : Int)
 | [], a, c, ha, _, _ => by rw [sizeL, cntL]; exact ha
 | x :: l, a, c, ha, h, hb => by
  obtain ⟨h1, h2⟩ := h x (List.mem_cons_self ..)
  rw [cntL] at hb ⊢
  rw [sizeL, h1]
  simp only [Bool.false_eq_true, if_false]
  rw [sizeL_cnt l _ (c + cntN x) (by
   show wr (a.1 + (sizeN x).1) = _
   rw [ha, h2]
   show IntKind.i64.wrap _ = _
   rw [wrap_i64 (by omega) (by omega)]; omega) (fun y hy => h y (List.mem_cons_of_mem _ hy)) (by omega)]
  congr 1
  omega
theorem size_cnt : ∀ (m : Nat) (x : Nd), m ≤ 14 → x.ok → mayN x = true → deepN m x < m → deepN m x ≤ 12 → (sizeN x).1 = (cntN x : Int)
 | 0, x, _, _, _, h, _ => by omega
 | m + 1, x, hm, ok, may, h, h12 => by
  have hok := ok.at
  have hcnt := hok.cnt
  rcases mayCase may with ⟨hk, hkids⟩ | ⟨hk, hkids⟩ | ⟨hk, hkids⟩
  · rw [sizeN_eq, cntN_eq, hkids, sizeL, cntL]
    rfl
  · rw [sizeN_eq, cntN_eq, hkids, sizeL, cntL]
    rfl
  · have hm0 : m ≠ 0 := by
     intro h0
     subst h0
     rw [deepN, if_pos (.inr rfl)] at h
     omega
    rw [deep_dir hk hm0] at h h12
    have hkid : ∀ y ∈ x.kids, (sizeN y).1 = (cntN y : Int) ∧ tooDeepN y = false := fun y hy => by
     have hle := (foldl_max_ge (f := deepN m) x.kids 1).2 y hy
     refine ⟨size_cnt m y (by omega) (hok.kids y hy) (mayL_all hkids y hy).2 (by omega) (by omega), ?_⟩
     have hst := deep_stable' (m := m) (x := y) (by omega) (14 - m)
     rw [show m + (14 - m) = 14 by omega] at hst
     unfold tooDeepN
     rw [hst]
     simp; omega
    rw [sizeN_eq, cntN_eq]
    exact sizeL_cnt x.kids _ 1 rfl (fun y hy => ⟨(hkid y hy).2, (hkid y hy).1⟩) (by omega)
theorem check_ok {x : Nd} (ok : x.ok) (h : checkN x = 0) : mayN x = true ∧ cntN x ≤ 2000 := by
 unfold checkN at h
 cases ht : tooDeepN x with
 | true => rw [ht, if_pos rfl] at h; omega
 | false =>
  rw [ht, if_neg (by simp)] at h
  cases hn : (x.name == [] && mayN x) with
  | false => rw [hn, if_neg (by simp)] at h; omega
  | true =>
   rw [hn, if_pos rfl] at h
   rw [Bool.and_eq_true] at hn
   refine ⟨hn.2, ?_⟩
   unfold tooDeepN at ht
   have hd : deepN 14 x ≤ 12 := by simpa using ht
   have hs := size_cnt 14 x (by omega) ok hn.2 (by omega) hd
   have hT : sizeT x = sizeN x := by unfold sizeT tooDeepN; rw [if_neg (by simp; omega)]
   by_cases hb : 2000 < (sizeT x).1
   · rw [decide_eq_true hb, Bool.true_or, if_pos rfl] at h; omega
   · rw [hT, hs] at hb; omega
def magicN : List UInt8 := [119, 104, 105, 115, 107, 45, 116, 114, 101, 101]
def encodeN (x : Nd) : List UInt8 × Int := if checkN x = 0 then if (layN (putText [] magicN) x).length ≤ 60000 then (layN (putText [] magicN) x, 0) else ([], 3) else ([], checkN x)
noncomputable def gEncode (x : Nd) : V := .tuple [sv (encodeN x).1, .int .i64 (encodeN x).2]
theorem magic_len : (putText [] magicN).length ≤ 21 := by
 have := putText_len [] magicN (by decide)
 simp only [magicN, List.length_nil, List.length_cons] at this ⊢
 omega
theorem build46 (t : List UInt8) : buildV E0 46 [(0, sv t)] = some (vAgg [sv t]) := by kernel_rfl
theorem kn10 {K : FuncId → Option KF} (hK : KnOk Try.prog E0 K) (h21 : K 21 = some (kfNode gCheck)) (h23 : K 23 = some kfPutText) (h22 : K 22 = some kfLay) : KnWell Try.prog E0 10 (kfNode gEncode) :=
 knNode hK (fn := Try.f10) (c := C10) (d := B10) gEncode (fun _ _ => under_two _ _ _ (under_sv _) (.int _ _)) (by kernel_rfl) (by kernel_rfl) (annot_isOf C10 _ (by kernel_rfl)) 1 fun x S ok ho => by
  obtain ⟨S1, k1, k2, k3, k4⟩ := node_box ho x
  have hml := magic_len
  refine ⟨S1, (?_ : F10 (ev E0 K 1) rounds (encN x) S = _), k3⟩
  rw [F10_eq, k1, oB, k2.fA, oB]
  dsimp only
  rw [ev_known h21, kfNode_run _ x ok, callP_ret, gCheck, binV_ii, intsV_neq, oB, ifK_bool, gEncode, encodeN]
  by_cases hc : checkN x = 0
  · obtain ⟨may, hcnt⟩ := check_ok ok hc
    have hll := layN_len x (putText [] magicN) ok may
    rw [decide_eq_true hc, Bool.not_true, cond_false, if_pos hc, show (sv [119, 104, 105, 115, 107, 45, 116, 114, 101, 101]) = sv magicN from rfl, ev_known h23, kfPutText_run [] magicN (by decide) (by decide), callD_ret, onS_onS, k2.oA, oB]
    dsimp only
    rw [ev_known h22, kfLay_run _ x ok may (by omega), callD_ret, endP_rd]
    · simp only [onS_rd, onS_onS, relog_onS k2.on, lnStr_sv, oB, binV_ii]
      rw [intsV_gtr, oB, ifK_bool]
      by_cases hb : (layN (putText [] magicN) x).length ≤ 60000
      · rw [show decide ((60000 : Int) < ((layN (putText [] magicN) x).length : Int)) = false by rw [decide_eq_false_iff_not]; omega, cond_false, if_pos hb]
      · rw [show decide ((60000 : Int) < ((layN (putText [] magicN) x).length : Int)) = true by rw [decide_eq_true_eq]; omega, cond_true, if_neg hb]
    · rfl
  · rw [decide_eq_false hc, Bool.not_false, cond_true, if_neg hc]
theorem kn9 {K : FuncId → Option KF} (hK : KnOk Try.prog E0 K) (h15 : K 15 = some (kfNode gCheck)) (h40 : K 40 = some kf46) (h19 : K 19 = some kfPutText) (h20 : K 20 = none) (h41 : K 41 = none) (h42 : K 42 = none) (h43 : K 43 = none) : KnWell Try.prog E0 9 (kfNode gEncode) :=
 specKF_text (fn := Try.f9) (c := C9) (d := B9) E0_ok hK (by kernel_rfl) (by kernel_rfl) (annot_isOf C9 _ (by kernel_rfl)) fun p S ho => by
  obtain ⟨x, ok⟩ := p
  obtain ⟨S1, k1, k2, k3, k4⟩ := node_box ho x
  have hml := magic_len
  suffices h : ∃ S', F9 (ev E0 K (3 * SizeOf.sizeOf x + 1)) rounds (encN x) S = some (.ret (gEncode x), S') ∧ Grew (fun _ => False) S S' by
   obtain ⟨S', h1, h2⟩ := h
   exact ⟨3 * SizeOf.sizeOf x + 1, .ret (gEncode x), S', h1, h2, Fz.same (under_two _ _ _ (under_sv _) (.int _ _))⟩
  rw [F9_eq, k1, oB, k2.fA, oB]
  dsimp only
  rw [ev_known h15, kfNode_run _ x ok, callP_ret, gCheck, binV_ii, intsV_neq, oB, ifK_bool, gEncode, encodeN]
  by_cases hc : checkN x = 0
  · obtain ⟨may, hcnt⟩ := check_ok ok hc
    have hll := layN_len x (putText [] magicN) ok may
    obtain ⟨S2, b1, b2, b3, b4⟩ := box_new k2.on 46 [sv (putText [] magicN)]
    have hB : BoxAt S2 S1.next (putText [] magicN) := ⟨b3.on.trans k2.on, b2⟩
    have k2' := k2.grew (by omega) (fun h => h) b3
    obtain ⟨S3, c1, c2, c3⟩ := node_at h40 h19 h20 h41 h42 h43 S1.next (SizeOf.sizeOf x) x (3 * SizeOf.sizeOf x + 1) (putText [] magicN) S2 (Nat.le_refl _) (by omega) ok may (by omega) hB (by omega)
    refine ⟨S3, ?_, k3.trans (b3.own (Nat.le_refl _) c3)⟩
    rw [decide_eq_true hc, Bool.not_true, cond_false, if_pos hc, show (sv [119, 104, 105, 115, 107, 45, 116, 114, 101, 101]) = sv magicN from rfl, ev_known h19, kfPutText_run [] magicN (by decide) (by decide), callP_ret, build46, oB, b1, oB]
    dsimp only
    rw [k2'.fA, oB]
    dsimp only
    rw [c1, callP_ret, show nilCheckV (.ptr S1.next 0) = some (.ptr S1.next 0) from rfl, oB, faP_ptr, oB, Nat.add_zero, c2.ld, oB]
    dsimp only
    rw [lnStr_sv, oB]
    dsimp only
    rw [binV_ii, intsV_gtr, oB, ifK_bool]
    by_cases hb : (layN (putText [] magicN) x).length ≤ 60000
    · rw [show decide ((60000 : Int) < ((layN (putText [] magicN) x).length : Int)) = false by rw [decide_eq_false_iff_not]; omega, cond_false, if_pos hb, oB, faP_ptr, oB, Nat.add_zero, c2.ld]
      rfl
    · rw [show decide ((60000 : Int) < ((layN (putText [] magicN) x).length : Int)) = true by rw [decide_eq_true_eq]; omega, cond_true, if_neg hb]
  · refine ⟨S1, ?_, k3⟩
    rw [decide_eq_false hc, Bool.not_false, cond_true, if_neg hc]
end Go.Proofs.Ythmkdoaaciamlaa.W
namespace Go.Proofs.Ythmkdoaaciamlaa.W
open Go.Proofs.Ythmkdoaaciamlaa.Ev
inductive KForm where
 | nil
 | empty
 | list
mutual
inductive Rw where
 | mk (name : List UInt8) (kind : Int) (exec : Bool) (data : List UInt8) (form : KForm) (kids : List Rw)
end
noncomputable def kform : KForm → List V → V
 | .nil, _ => .nilslice
 | .empty, _ => .eslice
 | .list, l => .list 5 l
mutual
noncomputable def rwV : Rw → V
 | .mk n k e d f l => vAgg [sv n, .int .i64 k, .bool e, sv d, kform f (rwVs l)]
noncomputable def rwVs : List Rw → List V
 | [] => []
 | x :: l => rwV x :: rwVs l
end
def Rw.kids : Rw → List Rw
 | .mk _ _ _ _ .list l => l
 | .mk _ _ _ _ _ _ => []
def Rw.form : Rw → KForm | .mk _ _ _ _ f _ => f
def Rw.name : Rw → List UInt8 | .mk n _ _ _ _ _ => n
def Rw.kind : Rw → Int | .mk _ k _ _ _ _ => k
def Rw.exec : Rw → Bool | .mk _ _ e _ _ _ => e
def Rw.data : Rw → List UInt8 | .mk _ _ _ d _ _ => d
theorem rwVs_map : ∀ l : List Rw, rwVs l = l.map rwV
 | [] => rfl
 | x :: l => by rw [rwVs, rwVs_map l]; rfl
noncomputable def kidsR (x : Rw) : V := match x with | .mk _ _ _ _ f l => kform f (rwVs l)
noncomputable def cellsR (x : Rw) : List V := [sv x.name, .int .i64 x.kind, .bool x.exec, sv x.data, kidsR x]
theorem rwV_cells (x : Rw) : rwV x = vAgg (cellsR x) := by cases x; rw [rwV]; rfl
def shortN : Nat → Rw → Nd
 | 0, x => .mk x.name x.kind x.exec (x.data.take 300) []
 | d + 1, x => .mk x.name x.kind x.exec (x.data.take 300) ((x.kids.take 20).map (shortN d))
mutual
theorem under_encN (N : Nat) : ∀ x : Nd, Under N (encN x)
 | .mk n k e d l => by
  rw [encN]
  refine .agg fun i v hi => ?_
  rw [vAgg_get] at hi
  have hk : Under N (kidsV (encL l)) := by
   have := under_encL N l
   cases hl : encL l with
   | nil => exact .nilslice
   | cons a m => rw [hl] at this; exact .list this
  match i, hi with
  | 0, hi => simp at hi; subst hi; exact under_sv _
  | 1, hi => simp at hi; subst hi; exact .int _ _
  | 2, hi => simp at hi; subst hi; exact .bool _
  | 3, hi => simp at hi; subst hi; exact under_sv _
  | 4, hi => simp at hi; subst hi; exact hk
  | i + 5, hi => simp at hi
theorem under_encL (N : Nat) : ∀ l : List Nd, Unders N (encL l)
 | [] => by rw [encL]; exact .nil
 | x :: l => by rw [encL]; exact .cons (under_encN N x) (under_encL N l)
end
noncomputable def treeN (x : Nd) : Tr V := Tr.ofListFrom .nil (cellsN x) 0
theorem encN_tree (x : Nd) : encN x = .agg 5 (treeN x) := by rw [encN_cells]; rfl
section
variable {s : St}
theorem bsP_node (ho : s.on = false) (z : Tr V) (x : Nd) : ∃ t, bsP 24 5 1 z [(0, encN x)] s = some (.slice s.next 0 1 1, t) ∧ RowAt t s.next 24 5 [treeN x] ∧ Grew (fun _ => False) s t ∧ t.next = s.next + 1 := by
 rw [encN_tree]
 refine ⟨nw s (.cells 24 5 1 false ((Tr.tab 1 1 fun _ => z).set (treeN x) 0)), ?_, ?_, grew_nw ho _ _, rfl⟩
 · unfold bsP fillE fillE
   simp only [V.size, isTuple, V.cells, show Nat.beq 5 5 = true from rfl, Bool.not_false, Bool.and_true, show Nat.blt 0 1 = true from rfl, cond_true, Tr.setC_eq, oB]
 · refine rowAt_nw ho (by omega) rfl (by unfold big; omega) fun i t h => ?_
   rw [Tr.get_set]
   cases i with
   | zero => simpa using h
   | succ i => simp at h
theorem ap_first (ho : s.on = false) {b : Nat} {t : Tr V} (h : RowAt s b 24 5 [t]) : ∃ u, apP 24 5 72 .nilslice (.slice b 0 1 1) s = some (.oslice s.next 0 1 5, u) ∧ RowAt u s.next 24 5 [t] ∧ Grew (fun _ => False) s u ∧ u.next = s.next + 1 := by
 refine ⟨newCells s 24 5 [t], ?_, rowAt_newCells ho (by omega) (by unfold big; simp), grew_nw ho _ _, rfl⟩
 unfold apP
 simp only [lenV, oB, show Nat.blt ((0 + 1) * (72 + 5 + 1)) maxCells = true from rfl, cond_true]
 unfold appendV firstV
 have := h.ldN ho 1 0 (by simp)
 simp only [Nat.zero_mul, List.drop_zero] at this
 simp only [this, oB, show Nat.beq 1 0 = false from rfl, cond_false]
 rfl
theorem ap_more (ho : s.on = false) {b r : Nat} {t : Tr V} {l : List (Tr V)} (h : RowAt s b 24 5 [t]) (hr : RowAt s r 24 5 l) (hl : l.length ≤ 3000) : ∃ u, apP 24 5 72 (.oslice r 0 l.length 5) (.slice b 0 1 1) s = some (.oslice s.next 0 (l.length + 1) 5, u) ∧ RowAt u s.next 24 5 (l ++ [t]) ∧ Grew (fun x => x = r) s u ∧ u.next = s.next + 1 := by
 obtain ⟨c, hc1, hc2⟩ := hr.row
 have hfit := hr.fit
 refine ⟨nw (s.put r .dead) (.cells 24 5 (l.length + 1) false (c.set t l.length)), ?_, ?_, ?_, rfl⟩
 · unfold apP
   have hm : Nat.blt ((l.length + 1) * (72 + 5 + 1)) maxCells = true := by rw [blt_true]; unfold maxCells; omega
   simp only [lenV, oB, hm, cond_true]
   unfold appendV firstV
   have := h.ldN ho 1 0 (by simp)
   simp only [Nat.zero_mul, List.drop_zero] at this
   simp only [this, oB, show Nat.beq 5 5 = true from rfl, cond_true]
   unfold sizeB
   rw [hc1]
   have hb : Nat.ble (0 + (l.length + 1) * 5) (5 * l.length) = false := by
    cases hh : Nat.ble (0 + (l.length + 1) * 5) (5 * l.length) with
    | false => rfl
    | true => rw [ble_true] at hh; omega
   simp only [blt_true.2 hfit, cond_true, oB, note_off ho, hb, cond_false]
   unfold growV
   rw [hc1]
   simp only [show Nat.beq 24 24 = true from rfl, Bool.not_true, Bool.or_self, cond_false, show Nat.beq 5 5 = true from rfl, show Nat.beq 0 0 = true from rfl, Nat.beq_refl, blt_true.2 hfit, Bool.and_self, cond_true]
   rw [show List.take 1 [t] = [t] from rfl]
   unfold addLC addLC
   rw [Tr.setC_eq]
   unfold setO
   rw [note_off ho]
 · have hnx : (s.put r .dead).next = s.next := rfl
   have := rowAt_nw (s := s.put r .dead) (e := 24) (z := 5) (n := l.length + 1) (c := c.set t l.length) (l := l ++ [t]) ho (by omega) (by simp) (by unfold big; omega) fun i u h => by
    rw [Tr.get_set]
    by_cases hi : i = l.length
    · subst hi
      rw [if_pos rfl]
      simpa using h
    · rw [if_neg hi]
      have hlt := (List.getElem?_eq_some_iff.1 h).1
      rw [List.length_append, List.length_singleton] at hlt
      rw [List.getElem?_append_left (by omega)] at h
      exact hc2 i u h
   exact this
 · exact ⟨by show s.next ≤ s.next + 1; omega, (nw_on (s := s.put r .dead) ho _).trans ho.symm, fun x hx hw => by
    rw [nw_get, if_neg (by show x ≠ s.next; omega), put_get, if_neg hw]⟩
end
end Go.Proofs.Ythmkdoaaciamlaa.W
namespace Go.Proofs.Ythmkdoaaciamlaa.W
open Go.Proofs.Ythmkdoaaciamlaa.Ev
section
variable {s : St}
theorem Bx.var {b e : Nat} {l : List V} (h : Bx s b e l) (h0 : 0 < l.length) (hl : l.length < big) : VarAt s b e l.length l := by
 refine ⟨h0, hl, rfl, _, h, fun i v hi => ?_⟩
 have hlt := (List.getElem?_eq_some_iff.1 hi).1
 rw [tr_two, if_pos hlt]; exact hi
theorem VarAt.agg {b e z : Nat} {l : List V} (h : VarAt s b e z l) : ∃ t, AgAt s b e z t ∧ ∀ (i : Nat) v, l[i]? = some v → t.get i = some v := by
 obtain ⟨c, h1, h2⟩ := h.row
 have hl := h.len
 obtain ⟨u, hu⟩ : ∃ u, l[0]? = some u := ⟨_, List.getElem?_eq_getElem (by have := h.pos; omega)⟩
 have h0 := h2 0 u hu
 rw [cellOf_zero h.pos, oI] at h0
 obtain ⟨t, ht, _⟩ := h0
 refine ⟨t, ⟨c, h1, ht⟩, fun i v hi => ?_⟩
 have hlt := (List.getElem?_eq_some_iff.1 hi).1
 have := h2 i v hi
 rw [cellOf_zero (by omega), ht] at this
 exact this
def SliceIs (s : St) (N0 : Nat) (v : V) (acc : List Nd) : Prop := (acc = [] ∧ v = .nilslice) ∨ (acc ≠ [] ∧ ∃ r, v = .oslice r 0 acc.length 5 ∧ RowAt s r 24 5 (acc.map treeN) ∧ N0 ≤ r ∧ r < s.next)
theorem SliceIs.grew {W : Nat → Prop} {t : St} {N0 : Nat} {v : V} {acc : List Nd} (h : SliceIs s N0 v acc) (hw : ∀ r, N0 ≤ r → r < s.next → ¬ W r) (g : Grew W s t) : SliceIs t N0 v acc := by
 rcases h with h | ⟨h1, r, h2, h3, h4, h5⟩
 · exact .inl h
 · exact .inr ⟨h1, r, h2, h3.grew h5 (hw r h4 h5) g, h4, Nat.lt_of_lt_of_le h5 g.next⟩
theorem SliceIs.add (ho : s.on = false) {N0 : Nat} {v : V} {acc : List Nd} (h : SliceIs s N0 v acc) (hN : N0 ≤ s.next) (hl : acc.length ≤ 3000) (z : Tr V) (y : Nd) :
 ∃ t v' u, bsP 24 5 1 z [(0, encN y)] s = some (.slice s.next 0 1 1, t) ∧ apP 24 5 72 v (.slice s.next 0 1 1) t = some (v', u) ∧ SliceIs u N0 v' (acc ++ [y]) ∧ Grew (fun x => N0 ≤ x) s u := by
 obtain ⟨t, h1, h2, h3, h4⟩ := bsP_node ho z y
 have on1 := h3.on.trans ho
 rcases h with ⟨rfl, rfl⟩ | ⟨hne, r, rfl, hr, hNr, hrn⟩
 · obtain ⟨u, k1, k2, k3, k4⟩ := ap_first on1 h2
   refine ⟨t, _, u, h1, k1, .inr ⟨by simp, t.next, rfl, k2, by omega, by omega⟩, (Grew.of0 h3).trans (Grew.of0 k3)⟩
 · have hr1 := hr.grew hrn (fun h => h) h3
   obtain ⟨u, k1, k2, k3, k4⟩ := ap_more on1 h2 hr1 (by simpa using hl)
   rw [List.length_map] at k1
   refine ⟨t, _, u, h1, k1, .inr ⟨by simp, t.next, by rw [List.length_append]; rfl, by rw [List.map_append]; exact k2, by omega, by omega⟩, (Grew.of0 h3).trans (k3.mono fun x _ hx => by rw [hx]; exact hNr)⟩
end
theorem lnS_kidsR (x : Rw) (S : St) : lnS (kidsR x) S = some (.int .i64 (x.kids.length : Int), S) := by
 cases x with
 | mk n k e d f l =>
  cases f with
  | nil => rfl
  | empty => rfl
  | list =>
   show some (V.int .i64 (.ofNat (rwVs l).length), S) = _
   rw [rwVs_map, List.length_map]; rfl
theorem ixP_kidsR (x : Rw) (i : Nat) (h : i < x.kids.length) : ixP 5 (kidsR x) (.int .i64 (i : Int)) = some (.cptr (rwV x.kids[i])) := by
 cases x with
 | mk n k e d f l =>
  cases f with
  | nil => simp [Rw.kids] at h
  | empty => simp [Rw.kids] at h
  | list =>
   have h' : i < l.length := h
   show ixP 5 (.list 5 (rwVs l)) _ = _
   rw [ixP_list 5 (rwVs l) .i64 i (by rw [rwVs_map, List.length_map]; exact h') (by decide)]
   congr 2
   simp only [rwVs_map, List.getElem_map]
   rfl
theorem ldA_kidR (x : Rw) (S : St) : ldA 5 (.cptr (rwV x)) S = some (rwV x, S) := by rw [rwV_cells]; exact ldA_cptr (cellsR x)
theorem L8_stop (self : EV) (N : Nat) (nk : Ac → St → Rs) (ek : Nat → Ac → St → Rs) (n : Nat) (x : Rw) (b0 b1 : Nat) (cs : List V) (hcs : cs[4]? = some (kidsR x)) (S : St) (ho : S.on = false) (hv : VarAt S b0 24 5 cs) (d i : Nat) (v5 : V) (h : ¬ (i < x.kids.length ∧ i < 20 ∧ 0 < d)) :
 L8_20 self N nk ek (n + 1) (.int .i64 (d : Int)) (.ptr b0 0) (.ptr b1 0) v5 (.int .i64 (i : Int)) S = ek 0 (fr 44 [(2, .ptr b0 0), (4, .ptr b1 0), (5, v5)]) S := by
 rw [L8_20_eq, faP_ptr, oB, Nat.zero_add, ld1_ptr, hv.ld ho hcs, oB]
 dsimp only
 rw [lnS_kidsR, oB]
 dsimp only
 rw [binV_ii, intsV_lss, oB, guardV_t, oB]
 by_cases h1 : i < x.kids.length
 · rw [dec_lt h1, cond_true, oB, oB, cond_true, binV_ii, intsV_lss, oB]
   by_cases h2 : i < 20
   · rw [show decide ((i : Int) < 20) = true by simp; omega, show pickV (.bool true) (some (.bool true)) (some (.bool false)) = some (.bool true) from rfl, oB, guardV_t, oB, cond_true, oB, oB, cond_true, binV_ii, intsV_gtr, oB]
     rw [show decide ((0 : Int) < (d : Int)) = false by simp; omega, show pickV (.bool true) (some (.bool false)) (some (.bool false)) = some (.bool false) from rfl, oB, ifK_bool, cond_false]
   · rw [show decide ((i : Int) < 20) = false by simp; omega, show pickV (.bool true) (some (.bool false)) (some (.bool false)) = some (.bool false) from rfl, oB, guardV_t, oB, cond_false, oB, oB, cond_false, oB, show pickV (.bool false) (some (.tuple [])) (some (.bool false)) = some (.bool false) from rfl, oB, ifK_bool, cond_false]
 · rw [dec_ge (by omega), cond_false, oB, oB, cond_false, oB, show pickV (.bool false) (some (.tuple [])) (some (.bool false)) = some (.bool false) from rfl, oB, guardV_t, oB, cond_false, oB, oB, cond_false, oB, show pickV (.bool false) (some (.tuple [])) (some (.bool false)) = some (.bool false) from rfl, oB, ifK_bool, cond_false]
theorem L8_spec (self : EV) (N : Nat) (nk : Ac → St → Rs) (ek : Nat → Ac → St → Rs) (x : Rw) (b0 b1 N0 d : Nat) (hd : d < 14) (cs : List V) (hcs : cs[4]? = some (kidsR x)) (hb0 : b0 < N0) (hb1 : b1 < N0)
 (h8 : ∀ y ∈ x.kids, ∀ S, self.f 8 [rwV y, .int .i64 (d : Int)] S = some (.ret (encN (shortN d y)), S)) (t1 : Tr V) :
 ∀ (r : List Rw) (i n : Nat) (S : St) (acc : List Nd) (v5 : V), (x.kids.take 20).drop i = r → r.length < n → i ≤ 20 → acc.length = i → S.on = false → N0 ≤ S.next → VarAt S b0 24 5 cs → AgAt S b1 24 5 t1 → SliceIs S N0 v5 acc →
 ∃ S' v5', L8_20 self N nk ek n (.int .i64 ((d + 1 : Nat) : Int)) (.ptr b0 0) (.ptr b1 0) v5 (.int .i64 (i : Int)) S = ek 0 (fr 44 [(2, .ptr b0 0), (4, .ptr b1 0), (5, v5')]) S' ∧ SliceIs S' N0 v5' (acc ++ r.map (shortN d)) ∧ VarAt S' b0 24 5 cs ∧ AgAt S' b1 24 5 t1 ∧ Grew (fun y => N0 ≤ y) S S'
 | r, i, 0, S, acc, v5, _, hn, _, _, _, _, _, _, _ => by omega
 | [], i, n + 1, S, acc, v5, hi, hn, h20, ha, ho, hN, hv, hg, hs => by
  have hlen := drop_end hi
  rw [List.length_take] at hlen
  exact ⟨S, v5, L8_stop self N nk ek n x b0 b1 cs hcs S ho hv (d + 1) i v5 (by omega), by simpa using hs, hv, hg, Grew.refl _ _⟩
 | y :: r, i, n + 1, S, acc, v5, hi, hn, h20, ha, ho, hN, hv, hg, hs => by
  obtain ⟨hlt, hy, hr, hmem⟩ := drop_at hi
  have hlt2 := hlt
  rw [List.length_take] at hlt2
  have hik : i < x.kids.length := by omega
  have hy2 : x.kids[i] = y := by rw [← hy, List.getElem_take]
  obtain ⟨t, v', u, k1, k2, k3, k4⟩ := hs.add ho hN (by omega) (Tr.ofListFrom .nil [(sv []), (.int .i64 0), (.bool false), (sv []), .nilslice] 0) (shortN d y)
  have hv' := hv.grew (by omega) (by omega) k4
  have hg' := hg.grew (by omega) (by omega) k4
  obtain ⟨S', v5', z1, z2, z3, z4, z5⟩ := L8_spec self N nk ek x b0 b1 N0 d hd cs hcs hb0 hb1 h8 t1 r (i + 1) n u (acc ++ [shortN d y]) v' hr (by simp at hn; omega) (by omega) (by simp [ha]) (k4.on.trans ho) (by have := k4.next; omega) hv' hg' k3
  refine ⟨S', v5', ?_, by simpa using z2, z3, z4, k4.trans z5⟩
  rw [L8_20_eq, faP_ptr, oB, Nat.zero_add, ld1_ptr, hv.ld ho hcs, oB]
  dsimp only
  rw [lnS_kidsR, oB]
  dsimp only
  rw [binV_ii, intsV_lss, oB, guardV_t, oB, dec_lt hik, cond_true, oB, oB, cond_true, binV_ii, intsV_lss, oB]
  rw [show decide ((i : Int) < 20) = true by simp; omega, show pickV (.bool true) (some (.bool true)) (some (.bool false)) = some (.bool true) from rfl, oB, guardV_t, oB, cond_true, oB, oB, cond_true, binV_ii, intsV_gtr, oB]
  rw [show decide ((0 : Int) < ((d + 1 : Nat) : Int)) = true by simp, show pickV (.bool true) (some (.bool true)) (some (.bool false)) = some (.bool true) from rfl, oB, ifK_bool, cond_true, oB, ld1_ptr, hv.ld ho hcs, oB]
  dsimp only
  rw [ixP_kidsR x i hik, hy2, oB, ldA_kidR, oB]
  dsimp only
  rw [binV_ii, intsV_sub, show ((d + 1 : Nat) : Int) - 1 = (d : Int) by omega, wrap_i64 (by omega) (by omega), oB, h8 y (List.mem_of_mem_take hmem), callP_ret, k1, oB]
  dsimp only
  rw [k2, oB, binV_ii, intsV_add, wrap_succ (by omega), oB]
  exact z1
end Go.Proofs.Ythmkdoaaciamlaa.W
namespace Go.Proofs.Ythmkdoaaciamlaa.W
open Go.Proofs.Ythmkdoaaciamlaa.Ev
theorem rwV_fields {x y : Rw} (h : rwV x = rwV y) : x.name = y.name ∧ x.kind = y.kind ∧ x.exec = y.exec ∧ x.data = y.data ∧ kidsR x = kidsR y := by
 rw [rwV_cells, rwV_cells] at h
 have h := vAgg_inj h
 simp only [cellsR, List.cons.injEq, V.int.injEq, V.bool.injEq, true_and, and_true] at h
 obtain ⟨h1, h2, h3, h4, h5⟩ := h
 exact ⟨sv_inj h1, h2, h3, sv_inj h4, h5⟩
theorem kidsR_map {x y : Rw} (h : kidsR x = kidsR y) : x.kids.map rwV = y.kids.map rwV := by
 cases x with
 | mk n k e d f l =>
  cases y with
  | mk n' k' e' d' f' l' =>
   cases f <;> cases f' <;> simp only [kidsR, kform, reduceCtorEq, V.list.injEq, true_and] at h
   · rfl
   · rfl
   · rw [rwVs_map, rwVs_map] at h; exact h
theorem map_eq_of {f : Rw → Nd} : ∀ {l m : List Rw}, (∀ x y, rwV x = rwV y → f x = f y) → l.map rwV = m.map rwV → l.map f = m.map f
 | [], [], _, _ => rfl
 | [], _ :: _, _, h => by simp at h
 | _ :: _, [], _, h => by simp at h
 | x :: l, y :: m, hf, h => by
  simp only [List.map_cons, List.cons.injEq] at h ⊢
  exact ⟨hf x y h.1, map_eq_of hf h.2⟩
theorem short_eq : ∀ (d : Nat) (x y : Rw), rwV x = rwV y → shortN d x = shortN d y
 | 0, x, y, h => by
  obtain ⟨h1, h2, h3, h4, _⟩ := rwV_fields h
  rw [shortN, shortN, h1, h2, h3, h4]
 | d + 1, x, y, h => by
  obtain ⟨h1, h2, h3, h4, h5⟩ := rwV_fields h
  rw [shortN, shortN, h1, h2, h3, h4]
  congr 1
  refine map_eq_of (fun a b => short_eq d a b) ?_
  rw [List.map_take, List.map_take, kidsR_map h5]
structure ShortIn where
 d : Nat
 x : Rw
 hd : d ≤ 14
noncomputable def encShort (p : ShortIn) : List V := [rwV p.x, .int .i64 (p.d : Int)]
theorem encShort_inj {p q : ShortIn} (h : encShort p = encShort q) : rwV p.x = rwV q.x ∧ p.d = q.d := by
 simp only [encShort, List.cons.injEq, V.int.injEq, true_and, and_true] at h
 exact ⟨h.1, by omega⟩
noncomputable def kfShort : KF := specKF encShort (fun p => En.ret (encN (shortN p.d p.x)))
def outKids (d : Nat) (x : Rw) : List Nd := match d with | 0 => [] | d + 1 => (x.kids.take 20).map (shortN d)
theorem short_fields (d : Nat) (x : Rw) : (shortN d x).name = x.name ∧ (shortN d x).kind = x.kind ∧ (shortN d x).exec = x.exec ∧ (shortN d x).data = x.data.take 300 ∧ (shortN d x).kids = outKids d x := by
 cases d <;> exact ⟨rfl, rfl, rfl, rfl, rfl⟩
theorem fzRow_nodes {s : St} {N : Nat} {c : Tr (Tr V)} : ∀ (l : List Nd) (i : Nat), (∀ (j : Nat) y, l[j]? = some y → c.get (i + j) = some (treeN y)) → FzRow s N c i 5 (l.map encN)
 | [], i, _ => .nil
 | y :: l, i, h => by
  have h0 := h 0 y rfl
  rw [List.map_cons, encN_tree]
  refine .row h0 ?_ (fzRow_nodes l (i + 1) fun j z hj => ?_)
  · rw [← encN_tree]
    exact .same (under_encN _ _)
  · have := h (j + 1) z (by simpa using hj)
    rw [show i + 1 + j = i + (j + 1) by omega]; exact this
theorem F8_spec (self : EV) (x : Rw) (d : Nat) (hd : d ≤ 14) (S : St) (ho : S.on = false) (h8 : ∀ (m : Nat) y, d = m + 1 → ∀ S, self.f 8 [rwV y, .int .i64 (m : Int)] S = some (.ret (encN (shortN m y)), S)) :
 ∃ (v : V) (S' : St), F8 self rounds (rwV x) (.int .i64 (d : Int)) S = some (.ret v, S') ∧ Fz S' S.next v (encN (shortN d x)) ∧ Grew (fun _ => False) S S' := by
 obtain ⟨S1, k1, k2, k3, k4⟩ := box_new ho 24 (cellsR x)
 have on1 := k3.on.trans ho
 have hv1 := Bx.var k2 (by show 0 < 5; decide) big5
 obtain ⟨a1, a2, a3⟩ := ag_new on1 24 5 (Tr.ofListFrom .nil [(sv []), (.int .i64 0), (.bool false), (sv []), .nilslice] 0)
 generalize hS2 : (nwP 24 5 (Tr.ofListFrom .nil [(sv []), (.int .i64 0), (.bool false), (sv []), .nilslice] 0) S1).2 = S2 at a1 a2 a3
 have on2 := a2.on.trans on1
 have hv2 := hv1.grew (by omega) (fun h => h) a2
 obtain ⟨S3, b1, b2, b3, b4⟩ := hv2.st on2 (i := 3) (by show 3 < 5; decide) (sv (x.data.take 300))
 have on3 := b3.on.trans on2
 have ha3 := a1.grew (by omega) (by omega) b3
 have hst : stP 1 (.ptr S.next 3) (sv (x.data.take 300)) S2 = some (.tuple [], S3) := by
  show vu (stK S2 S.next 3 1 (one (sv _))) = _
  rw [b1]; rfl
 have hcs : ((cellsR x).set 3 (sv (x.data.take 300)))[4]? = some (kidsR x) := rfl
 have hloop : ∃ S4 v5, L8_20 self rounds (R8_12 self rounds (finN E0 self Try.f8) noEx) (exB 0 (R8_12 self rounds (finN E0 self Try.f8) noEx) noEx) rounds (.int .i64 (d : Int)) (.ptr S.next 0) (.ptr S1.next 0) .nilslice (.int .i64 0) S3 = exB 0 (R8_12 self rounds (finN E0 self Try.f8) noEx) noEx 0 (fr 44 [(2, .ptr S.next 0), (4, .ptr S1.next 0), (5, v5)]) S4 ∧
  SliceIs S4 S2.next v5 (outKids d x) ∧ VarAt S4 S.next 24 5 ((cellsR x).set 3 (sv (x.data.take 300))) ∧ AgAt S4 S1.next 24 5 (Tr.ofListFrom .nil [(sv []), (.int .i64 0), (.bool false), (sv []), .nilslice] 0) ∧ Grew (fun y => S2.next ≤ y) S3 S4 := by
  cases d with
  | zero =>
   have := L8_stop self rounds (R8_12 self rounds (finN E0 self Try.f8) noEx) (exB 0 (R8_12 self rounds (finN E0 self Try.f8) noEx) noEx) (rounds - 1) x S.next S1.next _ hcs S3 on3 b2 0 0 .nilslice (by omega)
   rw [show rounds - 1 + 1 = rounds by unfold rounds; omega] at this
   exact ⟨S3, .nilslice, this, .inl ⟨rfl, rfl⟩, b2, ha3, Grew.refl _ _⟩
  | succ m =>
   obtain ⟨S4, v5, z1, z2, z3, z4, z5⟩ := L8_spec self rounds (R8_12 self rounds (finN E0 self Try.f8) noEx) (exB 0 (R8_12 self rounds (finN E0 self Try.f8) noEx) noEx) x S.next S1.next S2.next m (by omega) _ hcs (by omega) (by omega) (fun y hy S => h8 m y rfl S) _ (x.kids.take 20) 0 rounds S3 [] .nilslice rfl (by rw [List.length_take]; unfold rounds; omega) (by omega) rfl on3 (by omega) b2 ha3 (.inl ⟨rfl, rfl⟩)
   exact ⟨S4, v5, z1, by rw [List.nil_append] at z2; exact z2, z3, z4, z5⟩
 obtain ⟨S4, v5, z1, z2, z3, z4, z5⟩ := hloop
 have on4 := z5.on.trans on3
 have hv5 : v5.size = 1 ∧ isTuple v5 = false ∧ v5.cells = one v5 := by
  rcases z2 with ⟨_, rfl⟩ | ⟨_, r, rfl, _⟩ <;> exact ⟨rfl, rfl, rfl⟩
 obtain ⟨S5, c1, c2, c3, c4⟩ := z3.st on4 (i := 4) (by decide) v5
 have on5 := c3.on.trans on4
 have hst5 : stP 1 (.ptr S.next 4) v5 S4 = some (.tuple [], S5) := by
  show vu (bif Nat.beq v5.size 1 && !isTuple v5 then stK S4 S.next 4 1 v5.cells else none) = _
  rw [hv5.1, hv5.2.1, hv5.2.2, c1]; rfl
 have z4' := z4.grew (by have := z5.next; omega) (by omega) c3
 have z2' := z2.grew (by omega) c3
 obtain ⟨t, ht, hget⟩ := VarAt.agg c2
 obtain ⟨S6, e1, e2, e3, e4⟩ := z4'.stA on5 big5 t
 have on6 := e3.on.trans on5
 have z2'' := z2'.grew (by omega) e3
 refine ⟨.agg 5 t, S6, ?_, ?_, ?_⟩
 · rw [F8_eq, rwV_cells, k1, oB, oB]
   dsimp only
   rw [faP_ptr, oB, Nat.zero_add, ld1_ptr, hS2, hv2.ld on2 (show (cellsR x)[3]? = some (sv x.data) from rfl), oB, oB]
   dsimp only
   rw [ld1_ptr, hv2.ld on2 (show (cellsR x)[3]? = some (sv x.data) from rfl), oB]
   dsimp only
   rw [lnStr_sv, oB]
   dsimp only
   rw [foldK_min, show min (x.data.length : Int) 300 = ((min x.data.length 300 : Nat) : Int) by omega, oB]
   dsimp only
   rw [slice_sv und9 x.data (bounds_hi .i64 (Nat.min_le_left ..)) (Nat.min_le_left ..), oB, oB]
   dsimp only
   rw [List.drop_zero, Nat.sub_zero, show List.take (min x.data.length 300) x.data = x.data.take 300 by
    rcases Nat.le_total x.data.length 300 with h | h
    · rw [Nat.min_eq_left h, List.take_length, List.take_of_length_le h]
    · rw [Nat.min_eq_right h], hst, oB, nwP_fst]
   dsimp only
   rw [z1, exB_same, R8_12_eq, faP_ptr, oB, Nat.zero_add, hst5, oB]
   dsimp only
   rw [ht.ldA on5 big5, oB]
   dsimp only
   rw [e1, oB]
   dsimp only
   rw [e2.ldrA on6 big5]
   rfl
 · obtain ⟨f1, f2, f3, f4, f5⟩ := short_fields d x
   rw [encN_tree]
   have hcell : ∀ (i : Nat) v, (cellsN (shortN d x))[i]? = some v → (Tr.ofListFrom .nil (cellsN (shortN d x)) 0).get i = some v := fun i v h => by rw [Tr.get_ofList]; exact h
   have hg : ∀ (i : Nat) v, (((cellsR x).set 3 (sv (x.data.take 300))).set 4 v5)[i]? = some v → t.get i = some v := hget
   refine .agg (fun i => ((((cellsR x).set 3 (sv (x.data.take 300))).set 4 v5)[i]?).getD .nilptr) (fun i v' _ hi => ?_) fun i v' hv' hi => ?_
   · match i, hi with
     | 0, _ => exact hg 0 _ rfl
     | 1, _ => exact hg 1 _ rfl
     | 2, _ => exact hg 2 _ rfl
     | 3, _ => exact hg 3 _ rfl
     | 4, _ => exact hg 4 _ rfl
   · have hv2 : (cellsN (shortN d x))[i]? = some v' := by
      have : (Tr.ofListFrom .nil (cellsN (shortN d x)) 0).get i = some v' := hv'
      rwa [Tr.get_ofList] at this
     unfold cellsN at hv2
     rw [f1, f2, f3, f4, f5] at hv2
     match i, hi, hv2 with
     | 0, _, hv2 => simp at hv2; subst hv2; exact .same (under_sv _)
     | 1, _, hv2 => simp at hv2; subst hv2; exact .same (.int _ _)
     | 2, _, hv2 => simp at hv2; subst hv2; exact .same (.bool _)
     | 3, _, hv2 => simp at hv2; subst hv2; exact .same (under_sv _)
     | 4, _, hv2 =>
      simp at hv2; subst hv2
      show Fz S6 S.next v5 (kidsV (encL (outKids d x)))
      rcases z2'' with ⟨h1, rfl⟩ | ⟨h1, r, rfl, hrow, hNr, hrn⟩
      · rw [h1, encL]; exact .same .nilslice
      · obtain ⟨c, hc1, hc2⟩ := hrow.row
        have hne : kidsV (encL (outKids d x)) = .list 5 (encL (outKids d x)) := by
         cases h : outKids d x with
         | nil => exact absurd h h1
         | cons a l => rw [encL]; rfl
        rw [hne, encL_map]
        refine .oslice hc1 (by omega) (by omega) rfl (by rw [List.length_map]) (by rw [List.length_map]; omega) ?_
        rw [Nat.zero_div]
        exact fzRow_nodes _ 0 fun j y hj => by
         rw [Nat.zero_add]
         exact hc2 j _ (by rw [List.getElem?_map, hj]; rfl)
 · have n5 := z5.next
   refine ⟨by omega, by rw [on6, ho], fun y hy _ => ?_⟩
   rw [e3.keep y (by omega) (by omega), c3.keep y (by omega) (by omega), z5.keep y (by omega) (by omega), b3.keep y (by omega) (by omega), a2.keep y (by omega) (fun h => h), k3.keep y hy (fun h => h)]
theorem kn8 {K : FuncId → Option KF} (hK : KnOk Try.prog E0 K) : KnWell Try.prog E0 8 kfShort :=
 specKF_rec (fn := Try.f8) (c := C8) (d := B8) (fun p : ShortIn => p.d) (fun p q h => by obtain ⟨h1, h2⟩ := encShort_inj h; rw [h2, short_eq q.d _ _ h1]; exact ⟨rfl, rfl⟩) E0_ok hK (by kernel_rfl) (by kernel_rfl) (annot_isOf C8 _ (by kernel_rfl)) fun K' _ p S hself ho => by
  obtain ⟨d, x, hd⟩ := p
  obtain ⟨v, S', h1, h2, h3⟩ := F8_spec (ev E0 K' 1) x d hd S ho fun m y hm S => hself ⟨m, y, by omega⟩ S 0 (by show m < d; omega)
  exact ⟨1, .ret v, S', h1, h3, h2⟩
end Go.Proofs.Ythmkdoaaciamlaa.W
namespace Go.Proofs.Ythmkdoaaciamlaa.W
open Go.Proofs.Ythmkdoaaciamlaa.Ev
def frz (W : World) : Rho := ⟨fun _ => none, fun k => W.heap[k]?⟩
theorem u3 : Try.prog.underlying 3 = some (.int .i64) := by kernel_rfl
theorem u4 : Try.prog.underlying 4 = some .bool := by kernel_rfl
theorem c3 : Try.prog.cellsOf 3 = 1 := by kernel_rfl
theorem c4 : Try.prog.cellsOf 4 = 1 := by kernel_rfl
theorem add_eq {a : Addr} (h : a.spot = none) (n : Nat) : a.add n = ⟨a.block, a.off + n, none⟩ := by
 unfold Addr.add
 split
 · rename_i h0
   subst h0
   cases a
   simp only at h
   subst h
   rfl
 · rfl
theorem build {P : Nat → Rw → List Value → Prop} : ∀ (n : Nat), (∀ i, i < n → ∃ r c, P i r c) → ∃ (rs : List Rw) (cs : List (List Value)), rs.length = n ∧ cs.length = n ∧ ∀ i r c, rs[i]? = some r → cs[i]? = some c → P i r c
 | 0, _ => ⟨[], [], rfl, rfl, fun i r c h => by simp at h⟩
 | n + 1, h => by
  obtain ⟨rs, cs, h1, h2, h3⟩ := build n fun i hi => h i (by omega)
  obtain ⟨r, c, hrc⟩ := h n (by omega)
  refine ⟨rs ++ [r], cs ++ [c], by simp [h1], by simp [h2], fun i r' c' hr hc => ?_⟩
  by_cases hi : i < n
  · rw [List.getElem?_append_left (by omega)] at hr hc
    exact h3 i r' c' hr hc
  · have hi2 : i = n := by
     have := (List.getElem?_eq_some_iff.1 hr).1
     simp [h1] at this
     omega
    subst hi2
    rw [List.getElem?_append_right (by omega)] at hr hc
    simp [h1] at hr
    simp [h2] at hc
    subst hr; subst hc
    exact hrc
end Go.Proofs.Ythmkdoaaciamlaa.W
namespace Go.Proofs.Ythmkdoaaciamlaa.W
open Go.Proofs.Ythmkdoaaciamlaa.Ev Go.RowKit
theorem glob0 : ∀ g, E0.glob.get g = none := fun _ => rfl
theorem works_runs : saysTrue ((ev E0 (fun _ => none) 400).f 11 [] s0) = true := by decide +kernel
noncomputable def kfTrue : KF := specKF (fun _ : Unit => []) (fun _ => En.ret (.bool true))
theorem kfTrue_run (S : St) : kfTrue.run [] S = some (.ret (.bool true), S) := specKF_run (enc := fun _ : Unit => []) (out := fun _ => En.ret (.bool true)) (fun _ _ _ => rfl) () S
theorem kn11 : KnWell Try.prog E0 11 kfTrue := by
 refine ⟨specKF_loc, fun w0 ρ s w args cargs e t hR hv hg => ?_⟩
 unfold kfTrue specKF at hg
 simp only at hg
 by_cases hx : ∃ x : Unit, ([] : List V) = args
 · rw [dif_pos hx] at hg
   simp only [oS, pM] at hg
   obtain ⟨rfl, rfl⟩ := hg
   obtain ⟨_, rfl⟩ := hx
   obtain ⟨l⟩ := cargs
   cases hv
   exact (closed_walk E0_ok knOk_nil glob0 works_runs w).mono fun ce w' ⟨h1, h2⟩ => ⟨ρ, .bool true, h1, Rho.le_refl ρ, .bool true, hR.grown h2⟩
 · rw [dif_neg hx] at hg; cases hg
noncomputable def K1 := knAdd (knAdd (fun _ => none) 70 kfDeep) 57 kfDeep
theorem ok1 : KnOk Try.prog E0 K1 := (knOk_nil.add (kn70 knOk_nil)).add (kn57 (knOk_nil.add (kn70 knOk_nil)))
noncomputable def K2 := knAdd (knAdd K1 58 (kfNode gDeep)) 34 (kfNode gDeep)
theorem ok2 : KnOk Try.prog E0 K2 := (ok1.add (kn58 ok1 rfl)).add (kn34 (ok1.add (kn58 ok1 rfl)) rfl)
noncomputable def K3 := knAdd K2 35 (kfNode gTooDeep)
theorem ok3 : KnOk Try.prog E0 K3 := ok2.add (kn35 ok2 rfl)
noncomputable def K4 := knAdd K3 38 (kfNode gSize)
theorem ok4 : KnOk Try.prog E0 K4 := ok3.add (kn38 ok3 rfl)
noncomputable def K5 := knAdd K4 17 (kfNode gSizeT)
theorem ok5 : KnOk Try.prog E0 K5 := ok4.add (kn17 ok4 rfl rfl)
noncomputable def K6 := knAdd K5 45 (kfNode gSizeT)
theorem ok6 : KnOk Try.prog E0 K6 := ok5.add (kn45 ok5 rfl)
noncomputable def K7 := knAdd K6 68 (kfText gName)
theorem ok7 : KnOk Try.prog E0 K7 := ok6.add (kn68 ok6)
noncomputable def K8 := knAdd K7 44 (kfNode gMay)
theorem ok8 : KnOk Try.prog E0 K8 := ok7.add (kn44 ok7 rfl)
noncomputable def K9 := knAdd K8 63 kfIndexByte
theorem ok9 : KnOk Try.prog E0 K9 := ok8.add (kn63 ok8 rfl)
noncomputable def K10 := knAdd K9 78 kfIndexRune
theorem ok10 : KnOk Try.prog E0 K10 := ok9.add (kn78 ok9 rfl rfl)
noncomputable def K11 := knAdd K10 74 kfAny
theorem ok11 : KnOk Try.prog E0 K11 := ok10.add (kn74 ok10 rfl rfl rfl rfl rfl)
noncomputable def K12 := knAdd K11 66 (kfText gName)
theorem ok12 : KnOk Try.prog E0 K12 := ok11.add (kn66 ok11 rfl)
noncomputable def K13 := knAdd K12 36 (kfNode gMay)
theorem ok13 : KnOk Try.prog E0 K13 := ok12.add (kn36 ok12 rfl rfl rfl rfl rfl rfl rfl rfl rfl rfl rfl)
noncomputable def K14 := knAdd K13 15 (kfNode gCheck)
theorem ok14 : KnOk Try.prog E0 K14 := ok13.add (kn15 ok13 rfl rfl rfl)
noncomputable def K15 := knAdd K14 21 (kfNode gCheck)
theorem ok15 : KnOk Try.prog E0 K15 := ok14.add (kn21 ok14 rfl rfl rfl)
noncomputable def K16 := knAdd K15 46 kf46
theorem ok16 : KnOk Try.prog E0 K16 := ok15.add (kn46 ok15 rfl)
noncomputable def K17 := knAdd K16 23 kfPutText
theorem ok17 : KnOk Try.prog E0 K17 := ok16.add (kn23 ok16 rfl rfl)
noncomputable def K18 := knAdd K17 40 kf46
theorem ok18 : KnOk Try.prog E0 K18 := ok17.add (kn40 ok17)
noncomputable def K19 := knAdd K18 19 kfPutText
theorem ok19 : KnOk Try.prog E0 K19 := ok18.add (kn19 ok18 rfl)
noncomputable def K20 := knAdd K19 22 kfLay
theorem ok20 : KnOk Try.prog E0 K20 := ok19.add (kn22 ok19 rfl rfl)
noncomputable def K21 := knAdd K20 10 (kfNode gEncode)
theorem ok21 : KnOk Try.prog E0 K21 := ok20.add (kn10 ok20 rfl rfl rfl)
noncomputable def K22 := knAdd K21 9 (kfNode gEncode)
theorem ok22 : KnOk Try.prog E0 K22 := ok21.add (kn9 ok21 rfl rfl rfl rfl rfl rfl rfl)
noncomputable def K23 := knAdd K22 8 kfShort
theorem ok23 : KnOk Try.prog E0 K23 := ok22.add (kn8 ok22)
noncomputable def K24 := knAdd K23 11 kfTrue
theorem ok24 : KnOk Try.prog E0 K24 := ok23.add kn11
theorem relF (W : World) : Rel E0 (base0 W) (frz W) s0 W :=
 ⟨⟨rfl, rfl, rfl, Nat.le_refl _, fun _ _ => rfl⟩, fun _ _ => rfl, Nat.le_refl _, fun b o h => by simp [s0, Tr.get_nil] at h, fun b b' o o' cb sh sz sh' sz' h => by simp [s0, Tr.get_nil] at h, fun g b h => (by rw [glob0] at h; cases h), fun k o h => h, fun b o cb sh sz h => (by simp [s0, Tr.get_nil] at h), fun k o h _ => trivial⟩
end Go.Proofs.Ythmkdoaaciamlaa.W
namespace Go.Proofs.Ythmkdoaaciamlaa.W
open Go.Proofs.Ythmkdoaaciamlaa.Ev
set_option maxRecDepth 100000
noncomputable section
noncomputable def C54 : Code := Try.f54.body.getD .skip
noncomputable def B54 : D := (annot C54 [[], [], [0, 3], [], [0, 3], [], [0, 0, 3], [2], [], [], [], [], [], [], [0, 3, 4, 5], [], [0, 3, 4], [], [], [0, 0, 3, 4], [2], [], [], [], [], [], []]).1
noncomputable def RL54 : List Nat := cellsOf Try.f54.results.toList
noncomputable def R54_2 (self : EV) (N : Nat) (nk : Ac → St → Rs) (ek : Nat → Ac → St → Rs) (a : Ac) (S : St) : Rs := projK [0, 3] a fun a => dr E0 self RL54 N (B54.r.r).r (mkK E0 self Try.f54 nk ek) a S
noncomputable def R54_18 (self : EV) (N : Nat) (nk : Ac → St → Rs) (ek : Nat → Ac → St → Rs) (a : Ac) (S : St) : Rs := projK [0, 3, 4] a fun a => dr E0 self RL54 N (B54.r.r.r.l.r.r).r (mkK E0 self Try.f54 nk ek) a S
theorem R54_18_eq (self : EV) (N : Nat) (nk : Ac → St → Rs) (ek : Nat → Ac → St → Rs) ( v0 v3 v4 : V) (S : St) : R54_18 self N nk ek (fr 76 [(0, v0), (3, v3), (4, v4)]) S =
callD (planOf E0 (B54.r.r.r.l.r.r.r.l.l.l).ops) S 1 [[]] (self.f 46 [(sv []), v4] (onS S)) fun t20 S20 =>
(nilCheckV v0).bind fun t22 =>
(faP 0 false 1 t22).bind fun t23 =>
(ld1 t23 (onS S20)).bind fun p24 =>
(binV E0 .add 3 false true v3 (.int .i64 1)).bind fun t26 =>
(sliceV E0 9 p24.1 none (some t26) none (onS p24.2)).bind fun p27 =>
(binV E0 .neq 9 false false t20 p27.1).bind fun t28 =>
endP [(1, [5, 8])] S [[], S20.log, [], [], [], p24.2.log, [], [], p27.2.log, []] (onS p27.2) fun S29 =>
ifK t28 (
callP (self.f 55 [v0] S29) fun t31 S31 =>
some (.ret (.int .u64 0), S31)) (
(nilCheckV v0).bind fun t35 =>
(faP 0 false 1 t35).bind fun t36 =>
(ld1 t36 S29).bind fun p37 =>
(binV E0 .add 3 false true v3 (.int .i64 1)).bind fun t39 =>
(sliceV E0 9 p37.1 (some t39) none none p37.2).bind fun p40 =>
(nilCheckV v0).bind fun t41 =>
(faP 0 false 1 t41).bind fun t42 =>
(stP 1 t42 p40.1 p40.2).bind fun p43 =>
some (.ret v4, p43.2)) := by kernel_rfl
noncomputable def L54_47 (self : EV) (N : Nat) (nk : Ac → St → Rs) (ek : Nat → Ac → St → Rs) (n : Nat) ( v0 v3 v4 v5 : V) (S : St) : Rs := loopK [0, 3, 4, 5] (dr E0 self RL54 N (B54.r.r.r.l.r.r.l.r.l).l) (mkK E0 self Try.f54 nk ek) n (fr 76 [(0, v0), (3, v3), (4, v4), (5, v5)]) S
theorem L54_47_eq (self : EV) (N : Nat) (nk : Ac → St → Rs) (ek : Nat → Ac → St → Rs) (n : Nat) ( v0 v3 v4 v5 : V) (S : St) : L54_47 self N nk ek (n + 1) v0 v3 v4 v5 S =
(binV E0 .leq 3 false false v5 v3).bind fun t50 =>
ifK t50 (
(binV E0 .mul 71 true false (.int .u64 128) v4).bind fun t52 =>
(nilCheckV v0).bind fun t54 =>
(faP 0 false 1 t54).bind fun t55 =>
(ld1 t55 S).bind fun p56 =>
(ixS p56.1 v5).bind fun t58 =>
(binV E0 .rem 5 false true t58 (.int .u8 128)).bind fun t59 =>
(cvI .u64 t59 p56.2).bind fun p60 =>
(binV E0 .add 71 false false t52 p60.1).bind fun t61 =>
(binV E0 .add 3 false true v5 (.int .i64 1)).bind fun t64 =>
L54_47 self N nk ek n v0 v3 t61 t64 p60.2) (
ek 2 (fr 76 [(0, v0), (3, v3), (4, v4)]) S) := by kernel_rfl
theorem R54_2_eq (self : EV) (N : Nat) (nk : Ac → St → Rs) (ek : Nat → Ac → St → Rs) ( v0 v3 : V) (S : St) : R54_2 self N nk ek (fr 76 [(0, v0), (3, v3)]) S =
(nilCheckV v0).bind fun t5 =>
(faP 0 false 1 t5).bind fun t6 =>
(ld1 t6 S).bind fun p7 =>
(lnStr p7.1 p7.2).bind fun p8 =>
(binV E0 .geq 3 false false v3 p8.1).bind fun t9 =>
(guardV false t9).bind fun g11 => (bif g11 then some v3 else some (.tuple [])).bind fun t11 =>
(guardV false t9).bind fun g12 => (bif g12 then binV E0 .gtr 3 false true t11 (.int .i64 9) else some (.tuple [])).bind fun t12 =>
(pickV t9 (some (.bool true)) (some t12)).bind fun t13 =>
ifK t13 (
callP (self.f 55 [v0] p8.2) fun t15 S15 =>
some (.ret (.int .u64 0), S15)) (
L54_47 self N (R54_18 self N (fun a s => projK [2] a fun a => nk a s) ek) (exB 2 (R54_18 self N (fun a s => projK [2] a fun a => nk a s) ek) ek) N v0 v3 (.int .u64 0) (.int .i64 0) p8.2) := by kernel_rfl
noncomputable def L54_66 (self : EV) (N : Nat) (nk : Ac → St → Rs) (ek : Nat → Ac → St → Rs) (n : Nat) ( v0 v3 : V) (S : St) : Rs := loopK [0, 3] (dr E0 self RL54 N (B54.r.r.l.l).l) (mkK E0 self Try.f54 nk ek) n (fr 76 [(0, v0), (3, v3)]) S
theorem L54_66_eq (self : EV) (N : Nat) (nk : Ac → St → Rs) (ek : Nat → Ac → St → Rs) (n : Nat) ( v0 v3 : V) (S : St) : L54_66 self N nk ek (n + 1) v0 v3 S =
(nilCheckV v0).bind fun t69 =>
(faP 0 false 1 t69).bind fun t70 =>
(ld1 t70 S).bind fun p71 =>
(lnStr p71.1 p71.2).bind fun p72 =>
(binV E0 .lss 3 false false v3 p72.1).bind fun t73 =>
(guardV true t73).bind fun g75 => (bif g75 then some v0 else some (.tuple [])).bind fun t75 =>
(guardV true t73).bind fun g76 => (bif g76 then nilCheckV t75 else some (.tuple [])).bind fun t76 =>
(guardV true t73).bind fun g77 => (bif g77 then faP 0 false 1 t76 else some (.tuple [])).bind fun t77 =>
(guardV true t73).bind fun g78 => (bif g78 then ld1 t77 p72.2 else some (.tuple [], p72.2)).bind fun p78 =>
(guardV true t73).bind fun g79 => (bif g79 then some v3 else some (.tuple [])).bind fun t79 =>
(guardV true t73).bind fun g80 => (bif g80 then ixS p78.1 t79 else some (.tuple [])).bind fun t80 =>
(guardV true t73).bind fun g81 => (bif g81 then binV E0 .geq 5 false true t80 (.int .u8 128) else some (.tuple [])).bind fun t81 =>
(pickV t73 (some t81) (some (.bool false))).bind fun t82 =>
ifK t82 (
(binV E0 .add 3 false true v3 (.int .i64 1)).bind fun t84 =>
L54_66 self N nk ek n v0 t84 p78.2) (
ek 0 (fr 76 [(0, v0), (3, v3)]) p78.2) := by kernel_rfl
noncomputable def F54 (self : EV) (N : Nat) (x0 : V) (S : St) : Rs := runF E0 self N Try.f54 B54 [x0] S
theorem F54_eq (self : EV) (N : Nat) (x0 : V) (S : St) : F54 self N x0 S =
L54_66 self N (R54_2 self N (finN E0 self Try.f54) noEx) (exB 0 (R54_2 self N (finN E0 self Try.f54) noEx) noEx) N x0 (.int .i64 0) S := by kernel_rfl
noncomputable def C55 : Code := Try.f55.body.getD .skip
noncomputable def B55 : D := (annot C55 [[]]).1
noncomputable def F55 (self : EV) (N : Nat) (x0 : V) (S : St) : Rs := runF E0 self N Try.f55 B55 [x0] S
theorem F55_eq (self : EV) (N : Nat) (x0 : V) (S : St) : F55 self N x0 S =
(nilCheckV x0).bind fun t1 =>
(faP 0 false 1 t1).bind fun t2 =>
(stP 1 t2 (sv []) S).bind fun p3 =>
(nilCheckV x0).bind fun t5 =>
(faP 1 false 1 t5).bind fun t6 =>
(stP 1 t6 (.bool true) p3.2).bind fun p7 =>
some (.ret (.tuple []), p7.2) := by kernel_rfl
noncomputable def C56 : Code := Try.f56.body.getD .skip
noncomputable def B56 : D := (annot C56 [[], []]).1
noncomputable def F56 (self : EV) (N : Nat) (x0 : V) (S : St) : Rs := runF E0 self N Try.f56 B56 [x0] S
theorem F56_eq (self : EV) (N : Nat) (x0 : V) (S : St) : F56 self N x0 S =
(nilCheckV x0).bind fun t2 =>
(faP 1 false 1 t2).bind fun t3 =>
(ld1 t3 S).bind fun p4 =>
(unV .not p4.1).bind fun t5 =>
some (.ret t5, p4.2) := by kernel_rfl
noncomputable def C31 : Code := Try.f31.body.getD .skip
noncomputable def B31 : D := (annot C31 [[], [], [], [], [], [], [], [], []]).1
noncomputable def F31 (self : EV) (N : Nat) (x0 : V) (S : St) : Rs := runF E0 self N Try.f31 B31 [x0] S
theorem F31_eq (self : EV) (N : Nat) (x0 : V) (S : St) : F31 self N x0 S =
callP (self.f 54 [x0] S) fun t2 S2 =>
(nilCheckV x0).bind fun t6 =>
(faP 0 false 1 t6).bind fun t7 =>
(ld1 t7 S2).bind fun p8 =>
(lnStr p8.1 p8.2).bind fun p9 =>
(cvI .u64 p9.1 p9.2).bind fun p10 =>
(binV E0 .gtr 71 false false t2 p10.1).bind fun t11 =>
ifK t11 (
callP (self.f 55 [x0] p10.2) fun t13 S13 =>
some (.ret (sv []), S13)) (
(nilCheckV x0).bind fun t16 =>
(faP 0 false 1 t16).bind fun t17 =>
(ld1 t17 p10.2).bind fun p18 =>
(sliceV E0 9 p18.1 none (some t2) none p18.2).bind fun p20 =>
(nilCheckV x0).bind fun t24 =>
(faP 0 false 1 t24).bind fun t25 =>
(ld1 t25 p20.2).bind fun p26 =>
(sliceV E0 9 p26.1 (some t2) none none p26.2).bind fun p28 =>
(nilCheckV x0).bind fun t29 =>
(faP 0 false 1 t29).bind fun t30 =>
(stP 1 t30 p28.1 p28.2).bind fun p31 =>
some (.ret p20.1, p31.2)) := by kernel_rfl
noncomputable def C33 : Code := Try.f33.body.getD .skip
noncomputable def B33 : D := (annot C33 [[], []]).1
noncomputable def F33 (self : EV) (N : Nat) (x0 : V) (S : St) : Rs := runF E0 self N Try.f33 B33 [x0] S
theorem F33_eq (self : EV) (N : Nat) (x0 : V) (S : St) : F33 self N x0 S =
(nilCheckV x0).bind fun t2 =>
(faP 1 false 1 t2).bind fun t3 =>
(ld1 t3 S).bind fun p4 =>
(unV .not p4.1).bind fun t5 =>
(guardV true t5).bind fun g7 => (bif g7 then some x0 else some (.tuple [])).bind fun t7 =>
(guardV true t5).bind fun g8 => (bif g8 then nilCheckV t7 else some (.tuple [])).bind fun t8 =>
(guardV true t5).bind fun g9 => (bif g9 then faP 0 false 1 t8 else some (.tuple [])).bind fun t9 =>
(guardV true t5).bind fun g10 => (bif g10 then ld1 t9 p4.2 else some (.tuple [], p4.2)).bind fun p10 =>
(guardV true t5).bind fun g11 => (bif g11 then binV E0 .eql 9 false true p10.1 (sv []) else some (.tuple [])).bind fun t11 =>
(pickV t5 (some t11) (some (.bool false))).bind fun t12 =>
some (.ret t12, p10.2) := by kernel_rfl
noncomputable def C32 : Code := Try.f32.body.getD .skip
noncomputable def B32 : D := (annot C32 [[], [], [], [], [], [], [], [], [], [], [], [], [], [], [], [], [], [0, 1, 4, 6, 8, 9], [], [0, 4, 6], [], [], [], [], [], [], [], [], [0, 0, 4, 6], [4, 6], [], [0, 4, 6], [4, 5], []]).1
noncomputable def RL32 : List Nat := cellsOf Try.f32.results.toList
noncomputable def R32_9 (self : EV) (N : Nat) (nk : Ac → St → Rs) (ek : Nat → Ac → St → Rs) (a : Ac) (S : St) : Rs := projK [4, 6] a fun a => dr E0 self RL32 N (B32.r.r).r (mkK E0 self Try.f32 nk ek) a S
theorem R32_9_eq (self : EV) (N : Nat) (nk : Ac → St → Rs) (ek : Nat → Ac → St → Rs) ( v4 v6 : V) (S : St) : R32_9 self N nk ek (fr 90 [(4, v4), (6, v6)]) S =
(ldA 5 v6 S).bind fun p10 =>
(stP 5 v4 p10.1 p10.2).bind fun p11 =>
(ldrA 5 v4 p11.2).bind fun p13 =>
some (.ret (.tuple [p13.1, (.bool false)]), p13.2) := by kernel_rfl
noncomputable def R32_73 (self : EV) (N : Nat) (nk : Ac → St → Rs) (ek : Nat → Ac → St → Rs) (a : Ac) (S : St) : Rs := projK [0, 4, 6] a fun a => dr E0 self RL32 N (B32.r.r.l.r.l.r.r.r.r.r.l.r.r).r (mkK E0 self Try.f32 nk ek) a S
theorem R32_73_eq (self : EV) (N : Nat) (nk : Ac → St → Rs) (ek : Nat → Ac → St → Rs) ( v0 v4 v6 : V) (S : St) : R32_73 self N nk ek (fr 90 [(0, v0), (4, v4), (6, v6)]) S =
(ldA 5 v6 (onS S)).bind fun p74 =>
callD (planOf E0 (B32.r.r.l.r.l.r.r.r.r.r.l.r.r.r.l.l).ops) S 2 [p74.2.log, []] (self.f 56 [v0] (onS p74.2)) fun t76 S76 =>
(stP 5 v4 p74.1 (onS S76)).bind fun p77 =>
endP [(0, [2])] S [p74.2.log, [], S76.log, p77.2.log, []] (onS p77.2) fun S79 =>
(ldrA 5 v4 S79).bind fun p80 =>
some (.ret (.tuple [p80.1, t76]), p80.2) := by kernel_rfl
noncomputable def L32_82 (self : EV) (N : Nat) (nk : Ac → St → Rs) (ek : Nat → Ac → St → Rs) (n : Nat) ( v0 v1 v4 v6 v8 v9 : V) (S : St) : Rs := loopK [0, 1, 4, 6, 8, 9] (dr E0 self RL32 N (B32.r.r.l.r.l.r.r.r.r.r.l.r.r.l.r.l).l) (mkK E0 self Try.f32 nk ek) n (fr 90 [(0, v0), (1, v1), (4, v4), (6, v6), (8, v8), (9, v9)]) S
theorem L32_82_eq (self : EV) (N : Nat) (nk : Ac → St → Rs) (ek : Nat → Ac → St → Rs) (n : Nat) ( v0 v1 v4 v6 v8 v9 : V) (S : St) : L32_82 self N nk ek (n + 1) v0 v1 v4 v6 v8 v9 S =
(binV E0 .lss 71 false false v9 v8).bind fun t85 =>
ifK t85 (
callP (self.f 31 [v0] S) fun t87 S87 =>
(binV E0 .sub 3 false true v1 (.int .i64 1)).bind fun t91 =>
callP (self.f 32 [v0, t91] S87) fun t92 S92 =>
(extractV t92 0).bind fun t94 =>
(extractV t92 1).bind fun t95 =>
(some (nwP 24 5 (Tr.ofListFrom .nil [(sv []), (.int .i64 0), (.bool false), (sv []), .nilslice] 0) S92)).bind fun p96 =>
(stP 5 p96.1 t94 p96.2).bind fun p97 =>
(unV .not t95).bind fun t100 =>
ifK t100 (
(ldA 5 v6 p97.2).bind fun p101 =>
(stP 5 v4 p101.1 p101.2).bind fun p102 =>
(ldrA 5 v4 p102.2).bind fun p104 =>
some (.ret (.tuple [p104.1, (.bool false)]), p104.2)) (
(faP 0 false 1 p96.1).bind fun t106 =>
(stP 1 t106 t87 p97.2).bind fun p107 =>
(faP 4 false 1 v6).bind fun t108 =>
(ld1 t108 p107.2).bind fun p109 =>
(ldA 5 p96.1 p109.2).bind fun p110 =>
(bsP 24 5 1 (Tr.ofListFrom .nil [(sv []), (.int .i64 0), (.bool false), (sv []), .nilslice] 0) [(0, p110.1)] p110.2).bind fun p111 =>
(apP 24 5 72 p109.1 p111.1 p111.2).bind fun p112 =>
(faP 4 false 1 v6).bind fun t113 =>
(stP 1 t113 p112.1 p112.2).bind fun p114 =>
(binV E0 .add 71 false true v9 (.int .u64 1)).bind fun t116 =>
L32_82 self N nk ek n v0 v1 v4 v6 v8 t116 p114.2)) (
ek 1 (fr 90 [(0, v0), (4, v4), (6, v6)]) S) := by kernel_rfl
noncomputable def F32 (self : EV) (N : Nat) (x0 x1 : V) (S : St) : Rs := runF E0 self N Try.f32 B32 [x0, x1] S
theorem F32_eq (self : EV) (N : Nat) (x0 x1 : V) (S : St) : F32 self N x0 x1 S =
(some (nwP 24 5 (Tr.ofListFrom .nil [(sv []), (.int .i64 0), (.bool false), (sv []), .nilslice] 0) S)).bind fun p0 =>
callP (self.f 54 [x0] p0.2) fun t3 S3 =>
(binV E0 .rem 71 false true t3 (.int .u64 1000)).bind fun t4 =>
(cvI .i64 t4 S3).bind fun p5 =>
(buildV E0 24 [(1, p5.1)]).bind fun t6 =>
(some (nwP 24 5 (Tr.ofListFrom .nil [(sv []), (.int .i64 0), (.bool false), (sv []), .nilslice] 0) p5.2)).bind fun p7 =>
(stP 5 p7.1 t6 p7.2).bind fun p8 =>
(faP 1 false 1 p7.1).bind fun t14 =>
(ld1 t14 p8.2).bind fun p15 =>
(binV E0 .eql 3 false true p15.1 (.int .i64 1)).bind fun t16 =>
ifK t16 (
callP (self.f 54 [x0] p15.2) fun t19 S19 =>
(binV E0 .eql 71 false true t19 (.int .u64 1)).bind fun t22 =>
(faP 2 false 1 p7.1).bind fun t23 =>
(stP 1 t23 t22 S19).bind fun p24 =>
callP (self.f 31 [x0] p24.2) fun t26 S26 =>
(faP 3 false 1 p7.1).bind fun t27 =>
(stP 1 t27 t26 S26).bind fun p28 =>
(ldA 5 p7.1 (onS p28.2)).bind fun p29 =>
(binV E0 .leq 71 false true t19 (.int .u64 1)).bind fun t31 =>
(guardV true t31).bind fun g33 => (bif g33 then some x0 else some (.tuple [])).bind fun t33 =>
(guardV true t31).bind fun g34 => callD (planOf E0 (B32.r.r.l.r.l.r.l.r.r.r.l).ops) p28.2 5 [p29.2.log, [], [], [], []] (bif g34 then self.f 56 [t33] (onS p29.2) else some (.ret (.tuple []), (onS p29.2))) fun t34 S34 =>
(pickV t31 (some t34) (some (.bool false))).bind fun t35 =>
(stP 5 p0.1 p29.1 (onS S34)).bind fun p36 =>
endP [(0, [5])] p28.2 [p29.2.log, [], [], [], [], S34.log, [], p36.2.log, []] (onS p36.2) fun S38 =>
(ldrA 5 p0.1 S38).bind fun p39 =>
some (.ret (.tuple [p39.1, t35]), p39.2)) (
(binV E0 .eql 3 false true p15.1 (.int .i64 3)).bind fun t40 =>
ifK t40 (
callP (self.f 31 [x0] p15.2) fun t43 S43 =>
(faP 3 false 1 p7.1).bind fun t44 =>
(stP 1 t44 t43 S43).bind fun p45 =>
(ldA 5 p7.1 (onS p45.2)).bind fun p46 =>
callD (planOf E0 (B32.r.r.l.r.l.r.r.r.l.r.l).ops) p45.2 2 [p46.2.log, []] (self.f 56 [x0] (onS p46.2)) fun t48 S48 =>
(stP 5 p0.1 p46.1 (onS S48)).bind fun p49 =>
endP [(0, [2])] p45.2 [p46.2.log, [], S48.log, p49.2.log, []] (onS p49.2) fun S51 =>
(ldrA 5 p0.1 S51).bind fun p52 =>
some (.ret (.tuple [p52.1, t48]), p52.2)) (
(binV E0 .eql 3 false true p15.1 (.int .i64 2)).bind fun t53 =>
ifK t53 (
callP (self.f 54 [x0] p15.2) fun t56 S56 =>
(binV E0 .eql 3 false true x1 (.int .i64 0)).bind fun t59 =>
(guardV false t59).bind fun g61 => (bif g61 then some t56 else some (.tuple [])).bind fun t61 =>
(guardV false t59).bind fun g62 => (bif g62 then binV E0 .gtr 71 false true t61 (.int .u64 2000) else some (.tuple [])).bind fun t62 =>
(pickV t59 (some (.bool true)) (some t62)).bind fun t63 =>
(guardV false t63).bind fun g65 => (bif g65 then some x0 else some (.tuple [])).bind fun t65 =>
(guardV false t63).bind fun g66 => callP (bif g66 then self.f 56 [t65] S56 else some (.ret (.tuple []), S56)) fun t66 S66 =>
(guardV false t63).bind fun g67 => (bif g67 then unV .not t66 else some (.tuple [])).bind fun t67 =>
(pickV t63 (some (.bool true)) (some t67)).bind fun t68 =>
ifK t68 (
(ldA 5 p7.1 S66).bind fun p69 =>
(stP 5 p0.1 p69.1 p69.2).bind fun p70 =>
(ldrA 5 p0.1 p70.2).bind fun p72 =>
some (.ret (.tuple [p72.1, (.bool false)]), p72.2)) (
L32_82 self N (R32_73 self N (R32_9 self N (finN E0 self Try.f32) noEx) (exB 0 (R32_9 self N (finN E0 self Try.f32) noEx) noEx)) (exB 1 (R32_73 self N (R32_9 self N (finN E0 self Try.f32) noEx) (exB 0 (R32_9 self N (finN E0 self Try.f32) noEx) noEx)) (exB 0 (R32_9 self N (finN E0 self Try.f32) noEx) noEx)) N x0 x1 p0.1 p7.1 t56 (.int .u64 0) S66)) (
R32_9 self N (finN E0 self Try.f32) noEx (fr 90 [(4, p0.1), (6, p7.1)]) p15.2))) := by kernel_rfl
noncomputable def C13 : Code := Try.f13.body.getD .skip
noncomputable def B13 : D := (annot C13 [[], [], [], [], [], [], [], [], [], [], [], []]).1
noncomputable def F13 (self : EV) (N : Nat) (x0 : V) (S : St) : Rs := runF E0 self N Try.f13 B13 [x0] S
theorem F13_eq (self : EV) (N : Nat) (x0 : V) (S : St) : F13 self N x0 S =
(some (nwP 24 5 (Tr.ofListFrom .nil [(sv []), (.int .i64 0), (.bool false), (sv []), .nilslice] 0) S)).bind fun p0 =>
(buildV E0 62 [(0, x0)]).bind fun t3 =>
(boxK 62 t3 p0.2).bind fun p4 =>
callP (self.f 31 [p4.1] p4.2) fun t7 S7 =>
callP (self.f 32 [p4.1, (.int .i64 13)] S7) fun t10 S10 =>
(extractV t10 0).bind fun t12 =>
(extractV t10 1).bind fun t13 =>
(some (nwP 24 5 (Tr.ofListFrom .nil [(sv []), (.int .i64 0), (.bool false), (sv []), .nilslice] 0) S10)).bind fun p14 =>
(stP 5 p14.1 t12 p14.2).bind fun p15 =>
(binV E0 .neq 9 false true t7 (sv [119, 104, 105, 115, 107, 45, 116, 114, 101, 101])).bind fun t18 =>
(guardV false t18).bind fun g20 => (bif g20 then some t13 else some (.tuple [])).bind fun t20 =>
(guardV false t18).bind fun g21 => (bif g21 then unV .not t20 else some (.tuple [])).bind fun t21 =>
(pickV t18 (some (.bool true)) (some t21)).bind fun t22 =>
(guardV false t22).bind fun g24 => (bif g24 then some p4.1 else some (.tuple [])).bind fun t24 =>
(guardV false t22).bind fun g25 => callP (bif g25 then self.f 33 [t24] p15.2 else some (.ret (.tuple []), p15.2)) fun t25 S25 =>
(guardV false t22).bind fun g26 => (bif g26 then unV .not t25 else some (.tuple [])).bind fun t26 =>
(pickV t22 (some (.bool true)) (some t26)).bind fun t27 =>
ifK t27 (
(buildV E0 24 []).bind fun t28 =>
(stP 5 p0.1 t28 S25).bind fun p29 =>
(ldrA 5 p0.1 p29.2).bind fun p31 =>
some (.ret (.tuple [p31.1, (.int .i64 4)]), p31.2)) (
(ldA 5 p14.1 S25).bind fun p32 =>
callP (self.f 10 [p32.1] p32.2) fun t33 S33 =>
(extractV t33 0).bind fun t35 =>
(extractV t33 1).bind fun t36 =>
(binV E0 .neq 26 false true t36 (.int .i64 0)).bind fun t40 =>
(guardV false t40).bind fun g42 => (bif g42 then some t35 else some (.tuple [])).bind fun t42 =>
(guardV false t40).bind fun g43 => (bif g43 then some x0 else some (.tuple [])).bind fun t43 =>
(guardV false t40).bind fun g44 => (bif g44 then binV E0 .neq 9 false false t42 t43 else some (.tuple [])).bind fun t44 =>
(pickV t40 (some (.bool true)) (some t44)).bind fun t45 =>
ifK t45 (
(buildV E0 24 []).bind fun t46 =>
(stP 5 p0.1 t46 S33).bind fun p47 =>
(ldrA 5 p0.1 p47.2).bind fun p49 =>
some (.ret (.tuple [p49.1, (.int .i64 4)]), p49.2)) (
(ldA 5 p14.1 S33).bind fun p50 =>
(stP 5 p0.1 p50.1 p50.2).bind fun p51 =>
(ldrA 5 p0.1 p51.2).bind fun p53 =>
some (.ret (.tuple [p53.1, (.int .i64 0)]), p53.2))) := by kernel_rfl
end
end Go.Proofs.Ythmkdoaaciamlaa.W
