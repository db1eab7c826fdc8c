/-
  WHAT THE FUNCTIONS COME TO: each is read by the evaluator, printed, and told as a function of data, part 5 of 7 (no condition).
-/
import Derived.Test.YtachpdpmoihjmaaW4
namespace Go.Proofs.Ytachpdpmoihjmaa.W
open Go.Proofs.Ytachpdpmoihjmaa.Ev
noncomputable def mid14 (self : EV) (N : Nat) (nk : Ac → St → Rs) (ek : Nat → Ac → St → Rs) (n : Nat) (v0 v1 v6 v7 v8 v9 : V) (S30 : St) : Rs :=
(nilCheckV v0).bind fun t33 =>
(faP 0 false 1 t33).bind fun t34 =>
(ld1 t34 S30).bind fun p35 =>
(lnS p35.1 p35.2).bind fun p36 =>
(binV E0 .sub 3 false true p36.1 (.int .i64 1)).bind fun t37 =>
(ixP 1 v8 t37).bind fun t38 =>
(ld1 t38 p36.2).bind fun p39 =>
(binV E0 .geq 3 false true p39.1 (.int .i64 0)).bind fun t42 =>
(guardV true t42).bind fun g44 => (bif g44 then some v7 else some (.tuple [])).bind fun t44 =>
(guardV true t42).bind fun g45 => (bif g45 then unV .not t44 else some (.tuple [])).bind fun t45 =>
(guardV true t42).bind fun g46 => (bif g46 then some t45 else some (.tuple [])).bind fun t46 =>
(guardV false t46).bind fun g47 => (bif g47 then some p39.1 else some (.tuple [])).bind fun t47 =>
(guardV false t46).bind fun g48 => (bif g48 then ixA 2 1 false 1 v6 (.int .i64 0) else some (.tuple [])).bind fun t48 =>
(guardV false t46).bind fun g49 => (bif g49 then ld1 t48 p39.2 else some (.tuple [], p39.2)).bind fun p49 =>
(guardV false t46).bind fun g50 => (bif g50 then binV E0 .leq 3 false false t47 p49.1 else some (.tuple [])).bind fun t50 =>
(guardV true t42).bind fun g51 => (bif g51 then pickV t46 (some (.bool true)) (some t50) else some (.tuple [])).bind fun t51 =>
(pickV t42 (some t51) (some (.bool false))).bind fun t52 =>
ifK t52 (
(buildV E0 30 [(0, p39.1), (1, v9)]).bind fun t55 =>
(stP 2 v6 t55 p49.2).bind fun p56 =>
(lnStr v1 p56.2).bind fun p60 =>
(binV E0 .eql 3 false false v9 p60.1).bind fun t61 =>
ifK t61 (
ek 0 (fr 116 [(6, v6), (7, (.bool true))]) p60.2) (
tail14 self N nk ek n v0 v1 v6 (.bool true) v8 v9 p60.2)) (
(lnStr v1 p49.2).bind fun p128 =>
(binV E0 .eql 3 false false v9 p128.1).bind fun t129 =>
ifK t129 (
ek 0 (fr 116 [(6, v6), (7, v7)]) p128.2) (
tail14 self N nk ek n v0 v1 v6 v7 v8 v9 p128.2))
theorem L14_13_t (self : EV) (N : Nat) (nk : Ac → St → Rs) (ek : Nat → Ac → St → Rs) (n : Nat) (v0 v1 v6 v7 v8 v9 : V) (S : St) : L14_13 self N nk ek (n + 1) v0 v1 v6 v7 v8 v9 S =
(lnStr v1 S).bind fun p16 =>
(binV E0 .leq 3 false false v9 p16.1).bind fun t17 =>
ifK t17 (
(unV .not v7).bind fun t23 =>
ifK t23 (
(lnStr v1 p16.2).bind fun p29 =>
callP (self.f 21 [v0, v8, (.int .i64 0), v9, v9, p29.1] p29.2) fun t30 S30 =>
mid14 self N nk ek n v0 v1 v6 v7 v8 v9 S30) (
mid14 self N nk ek n v0 v1 v6 v7 v8 v9 p16.2)) (
ek 0 (fr 116 [(6, v6), (7, v7)]) p16.2) := L14_13_eq self N nk ek n v0 v1 v6 v7 v8 v9 S
section
variable {S : St} {b r : Nat} {t : List Sp}
theorem mid_run (self : EV) (N : Nat) (nk : Ac → St → Rs) (ek : Nat → Ac → St → Rs) (n : Nat) {T : List UInt8} {at_ : Nat} {x p : Nat} {F : List Int} (o : Option (Int × Int)) (hlen : F.length = t.length + 1) (ht : t.length ≤ 100)
 (h : Rx S b r t) (hF : RowAt S x 3 1 (intsT F)) (hp : AgAt S p 30 2 (spT o)) (hxp : x ≠ p) (hpb : b ≠ p) (hpr : r ≠ p) :
 ∃ U, mid14 self N nk ek n (.ptr b 0) (sv T) (.ptr p 0) (.bool o.isSome) (.slice x 0 (t.length + 1) (t.length + 1)) (.int .i64 (at_ : Int)) S = (bif decide ((at_ : Int) = (T.length : Int)) then ek 0 (fr 116 [(6, .ptr p 0), (7, .bool (hit t.length (at_ : Int) F o).isSome)]) U else
  tail14 self N nk ek n (.ptr b 0) (sv T) (.ptr p 0) (.bool (hit t.length (at_ : Int) F o).isSome) (.slice x 0 (t.length + 1) (t.length + 1)) (.int .i64 (at_ : Int)) U) ∧
  AgAt U p 30 2 (spT (hit t.length (at_ : Int) F o)) ∧ Grew (fun z => z = p) S U ∧ U.next = S.next := by
 have ho := h.on
 have hkl : t.length < F.length := by omega
 have hz : F[t.length]? = some F[t.length] := List.getElem?_eq_getElem hkl
 have hgd : F.getD t.length (-1) = F[t.length] := by rw [List.getD_eq_getElem?_getD, hz]; rfl
 unfold hit
 rw [hgd]
 unfold mid14
 simp only [nilP, faPg, Nat.zero_add, oB]
 rw [h.l0, oB]
 dsimp only
 rw [show lnS (.oslice r 0 (t.length + 1) 258) S = some (.int .i64 ((t.length + 1 : Nat) : Int), S) from rfl, oB]
 dsimp only
 rw [binV_ii, intsV_sub, wrap_i64 (by omega) (by omega), show ((t.length + 1 : Nat) : Int) - 1 = (t.length : Int) by omega, oB, ixP_sl x _ _ (by omega), oB, fr_ld ho hF hz, oB]
 dsimp only
 rw [binV_ii, intsV_geq, oB]
 have yes : ∃ U, ((buildV E0 30 [(0, .int .i64 F[t.length]), (1, .int .i64 (at_ : Int))]).bind fun t55 =>
(stP 2 (.ptr p 0) t55 S).bind fun p56 =>
(lnStr (sv T) p56.2).bind fun p60 =>
(binV E0 .eql 3 false false (.int .i64 (at_ : Int)) p60.1).bind fun t61 =>
ifK t61 (
ek 0 (fr 116 [(6, .ptr p 0), (7, (.bool true))]) p60.2) (
tail14 self N nk ek n (.ptr b 0) (sv T) (.ptr p 0) (.bool true) (.slice x 0 (t.length + 1) (t.length + 1)) (.int .i64 (at_ : Int)) p60.2)) = (bif decide ((at_ : Int) = (T.length : Int)) then ek 0 (fr 116 [(6, .ptr p 0), (7, .bool (some (F[t.length], (at_ : Int))).isSome)]) U else
  tail14 self N nk ek n (.ptr b 0) (sv T) (.ptr p 0) (.bool (some (F[t.length], (at_ : Int))).isSome) (.slice x 0 (t.length + 1) (t.length + 1)) (.int .i64 (at_ : Int)) U) ∧
  AgAt U p 30 2 (spT (some (F[t.length], (at_ : Int)))) ∧ Grew (fun z => z = p) S U ∧ U.next = S.next := by
  obtain ⟨U, a1, a2, a3, a4⟩ := hp.stA ho big2 (tr2 F[t.length] (at_ : Int))
  refine ⟨U, ?_, a2, a3, a4⟩
  rw [build_30, oB, a1, oB]
  dsimp only
  rw [lnStr_sv, oB]
  dsimp only
  rw [binV_ii, intsV_eql, oB, ifK_bool]
  rfl
 have nope : ∃ U, ((lnStr (sv T) S).bind fun p128 =>
(binV E0 .eql 3 false false (.int .i64 (at_ : Int)) p128.1).bind fun t129 =>
ifK t129 (
ek 0 (fr 116 [(6, .ptr p 0), (7, (.bool o.isSome))]) p128.2) (
tail14 self N nk ek n (.ptr b 0) (sv T) (.ptr p 0) (.bool o.isSome) (.slice x 0 (t.length + 1) (t.length + 1)) (.int .i64 (at_ : Int)) p128.2)) = (bif decide ((at_ : Int) = (T.length : Int)) then ek 0 (fr 116 [(6, .ptr p 0), (7, .bool o.isSome)]) U else
  tail14 self N nk ek n (.ptr b 0) (sv T) (.ptr p 0) (.bool o.isSome) (.slice x 0 (t.length + 1) (t.length + 1)) (.int .i64 (at_ : Int)) U) ∧
  AgAt U p 30 2 (spT o) ∧ Grew (fun z => z = p) S U ∧ U.next = S.next := by
  refine ⟨S, ?_, hp, Grew.refl _ _, rfl⟩
  rw [lnStr_sv, oB]
  dsimp only
  rw [binV_ii, intsV_eql, oB, ifK_bool]
 by_cases h0 : 0 ≤ F[t.length]
 · rw [decide_eq_true h0]
   cases o with
   | none =>
    rw [if_pos ⟨h0, rfl⟩]
    simp only [guardV_t, guardV_f, oB, cond_true, cond_false, unV_not, Option.isSome_none, Bool.not_false, Bool.not_true, pickV_bool, ifK_bool]
    exact yes
   | some q =>
    have hld := hp.ld1 ho big2 (i := 0) (by decide) (tr2_0 q.1 q.2)
    have hix := ixA_ptr 2 1 false 1 .i64 (b := p) (off := 0) (n := 0) (by decide)
    rw [show ((0 : Nat) : Int) = 0 from rfl] at hix
    simp only [guardV_t, guardV_f, oB, cond_true, cond_false, unV_not, Option.isSome_some, Bool.not_false, Bool.not_true, pickV_bool, hix, Nat.zero_mul, Nat.add_zero, hld, binV_ii, intsV_leq, ifK_bool]
    by_cases h1 : F[t.length] ≤ q.1
    · rw [if_pos ⟨h0, show decide (F[t.length] ≤ q.1) = true from decide_eq_true h1⟩, decide_eq_true h1, cond_true]
      exact yes
    · rw [if_neg (fun hh => h1 (of_decide_eq_true (show decide (F[t.length] ≤ q.1) = true from hh.2))), decide_eq_false h1, cond_false]
      exact nope
 · rw [decide_eq_false h0, if_neg (fun hh => h0 hh.1)]
   simp only [guardV_t, guardV_f, guardV_no, oB, cond_true, cond_false, pickV_bool, ifK_bool]
   exact nope
end
end Go.Proofs.Ytachpdpmoihjmaa.W
namespace Go.Proofs.Ytachpdpmoihjmaa.W
open Go.Proofs.Ytachpdpmoihjmaa.Ev
section
variable {S : St} {b r : Nat} {t : List Sp}
theorem L13_spec {K : FuncId → Option KF} (h20 : K 20 = none) (h21 : K 21 = none) (h28 : K 28 = none) (m N : Nat) (hN : 300 < N) (nk : Ac → St → Rs) (ek : Nat → Ac → St → Rs) {T : List UInt8} {N0 p : Nat} (hT : T.length ≤ 100) (ht : t.length ≤ 100) (hb : b < N0) (hr : r < N0) (hp0 : N0 ≤ p) :
 ∀ (q : List UInt8) (at_ : Nat) (F : List Int) (o : Option (Int × Int)) (x j : Nat) (S : St), Rx S b r t → RowAt S x 3 1 (intsT F) → AgAt S p 30 2 (spT o) → x < S.next → p < S.next → N0 ≤ x → x ≠ p → F.length = t.length + 1 → T.drop at_ = q → at_ ≤ T.length → q.length < j →
 ∃ U, L14_13 (ev E0 K (m + 2)) N nk ek j (.ptr b 0) (sv T) (.ptr p 0) (.bool o.isSome) (.slice x 0 (t.length + 1) (t.length + 1)) (.int .i64 (at_ : Int)) S = ek 0 (fr 116 [(6, .ptr p 0), (7, .bool (whM t q at_ F o).isSome)]) U ∧ AgAt U p 30 2 (spT (whM t q at_ F o)) ∧ p < U.next ∧ Grew (fun z => N0 ≤ z) S U
 | q, at_, F, o, x, 0, S, _, _, _, _, _, _, _, _, _, _, hj => by omega
 | q, at_, F, o, x, j + 1, S, h, hF, hp, hxn, hpn, hx0, hxp, hlen, hq, hat, hj => by
  have ent : ∃ S1, L14_13 (ev E0 K (m + 2)) N nk ek (j + 1) (.ptr b 0) (sv T) (.ptr p 0) (.bool o.isSome) (.slice x 0 (t.length + 1) (t.length + 1)) (.int .i64 (at_ : Int)) S = mid14 (ev E0 K (m + 2)) N nk ek j (.ptr b 0) (sv T) (.ptr p 0) (.bool o.isSome) (.slice x 0 (t.length + 1) (t.length + 1)) (.int .i64 (at_ : Int)) S1 ∧ RowAt S1 x 3 1 (intsT (entO o F (at_ : Int))) ∧ Grew (fun z => z = x) S S1 := by
   rw [L14_13_t, lnStr_sv, oB]
   dsimp only
   rw [binV_ii, intsV_leq, decide_eq_true (show (at_ : Int) ≤ (T.length : Int) by omega), oB, ifK_bool, cond_true, unV_not, oB, ifK_bool]
   cases o with
   | some w =>
    rw [show (!(some w).isSome) = false from rfl, cond_false]
    exact ⟨S, rfl, hF, Grew.refl _ _⟩
   | none =>
    obtain ⟨S1, a1, a2, a3⟩ := enter_run h21 h28 m h hF hxn (by omega) (by omega) hlen (k := 0) (Nat.zero_le _) (at_ : Int) (.int .i64 (at_ : Int)) (.int .i64 (T.length : Int))
    refine ⟨S1, ?_, a2, a3⟩
    rw [show ((0 : Nat) : Int) = 0 from rfl] at a1
    rw [show (!(none : Option (Int × Int)).isSome) = true from rfl, cond_true, lnStr_sv, oB]
    dsimp only
    rw [a1, callP_ret]
  obtain ⟨S1, e1, e2, e3⟩ := ent
  have h1 : Rx S1 b r t := h.grew (by omega) (by omega) e3
  have hlen1 : (entO o F (at_ : Int)).length = t.length + 1 := by
   cases o with
   | some w => exact hlen
   | none => exact (entF_len F 0 (at_ : Int)).trans hlen
  obtain ⟨S2, c1, c2, c3, c4⟩ := mid_run (ev E0 K (m + 2)) N nk ek j o (T := T) (at_ := at_) hlen1 ht h1 e2 (hp.grew hpn (fun e => hxp e.symm) e3) hxp (by omega) (by omega)
  have hpn2 : p < S2.next := by have := e3.next; omega
  have g12 : Grew (fun z => N0 ≤ z) S S2 := (e3.mono fun z _ hz => by omega).trans (c3.mono fun z _ hz => by omega)
  cases q with
  | nil =>
   have hle : T.length ≤ at_ := List.drop_eq_nil_iff.1 hq
   refine ⟨S2, ?_, c2, hpn2, g12⟩
   rw [e1, c1, decide_eq_true (show (at_ : Int) = (T.length : Int) by omega), cond_true, whM]
  | cons c q =>
   obtain ⟨hlt, hc, hd, _⟩ := drop_at hq
   obtain ⟨U, y, d1, d2, d3, d4, d5, d6, d7, d8, d9⟩ := tail_run h20 h21 h28 m N hN nk ek j hlt hT ht (hit t.length (at_ : Int) (entO o F (at_ : Int)) o) hlen1 (h1.grew (by omega) (by omega) c3) hb hr (e2.grew (Nat.lt_of_lt_of_le hxn e3.next) hxp c3) c2 (by have := e3.next; omega) hpn2 hx0 hp0
   rw [e1, c1, decide_eq_false (show ¬ (at_ : Int) = (T.length : Int) by omega), cond_false, d1, whM]
   rw [hc] at d3 ⊢
   cases hcc : (!(hit t.length (at_ : Int) (entO o F (at_ : Int)) o).isSome || lvL c t (entO o F (at_ : Int))) with
   | false =>
    rw [cond_false, cond_false]
    exact ⟨U, rfl, d4, d8, g12.trans d9⟩
   | true =>
    rw [cond_true, cond_true]
    obtain ⟨V, f1, f2, f3, f4⟩ := L13_spec h20 h21 h28 m N hN nk ek hT ht hb hr hp0 q (at_ + 1) (nx c t (entO o F (at_ : Int))) (hit t.length (at_ : Int) (entO o F (at_ : Int)) o) y j U d2 d3 d4 d5 d8 d6 d7 (nx_len hlen1) hd hlt (by simp at hj; omega)
    exact ⟨V, f1, f2, f3, (g12.trans d9).trans f4⟩
def whole (t : List Sp) (T : List UInt8) (from_ : Nat) : Option (Int × Int) := whM t (T.drop from_) from_ (List.replicate (t.length + 1) (-1)) none
theorem whole_run {K : FuncId → Option KF} (h14 : K 14 = none) (h20 : K 20 = none) (h21 : K 21 = none) (h28 : K 28 = none) (m : Nat) {T : List UInt8} {from_ : Nat} (hT : T.length ≤ 100) (ht : t.length ≤ 100) (hf : from_ ≤ T.length) (h : Rx S b r t) :
 ∃ U, (ev E0 K (m + 3)).f 14 [.ptr b 0, sv T, .int .i64 (from_ : Int)] S = some (.ret (.tuple [.agg 2 (spT (whole t T from_)), .bool (whole t T from_).isSome]), U) ∧ Grew (fun z => S.next ≤ z) S U := by
 have ho := h.on
 obtain ⟨a1, a2, a3⟩ := ag_new ho 30 2 (tr2 0 0)
 have on1 : (nwP 30 2 (tr2 0 0) S).2.on = false := nw_on ho _
 have h1 : Rx (nwP 30 2 (tr2 0 0) S).2 b r t := h.grew (fun h => h) (fun h => h) a2
 obtain ⟨S2, b1, b2, b3, b4⟩ := blank_run h20 (m + 1) h1 ht
 have h2 : Rx S2 b r t := h1.grew (fun h => h) (fun h => h) b3
 have hp2 := a1.grew (by omega) (fun h => h) b3
 have hb := h.hb
 have hr := h.hr
 obtain ⟨U, c1, c2, c3, c4⟩ := L13_spec h20 h21 h28 m rounds (by unfold rounds; omega) (R14_5 (ev E0 K (m + 2)) rounds (finN E0 (ev E0 K (m + 2)) Try.f14) noEx) (exB 0 (R14_5 (ev E0 K (m + 2)) rounds (finN E0 (ev E0 K (m + 2)) Try.f14) noEx) noEx) (N0 := S.next) (p := S.next) hT ht hb hr (Nat.le_refl _) (T.drop from_) from_ (List.replicate (t.length + 1) (-1)) none (nwP 30 2 (tr2 0 0) S).2.next rounds S2 h2 b2 hp2 b4 (by omega) (by omega) (by omega) (by simp) rfl hf (by rw [List.length_drop]; unfold rounds; omega)
 have g : Grew (fun z => S.next ≤ z) S U := ((a2.trans b3).mono fun _ _ h => h.elim).trans c4
 have onU := g.on.trans ho
 obtain ⟨V, d1, d2, d3, d4⟩ := c2.stA onU big2 (spT (whole t T from_))
 have onV := d3.on.trans onU
 refine ⟨V, ev_read (c := C14) (d := B14) (by kernel_rfl) (by kernel_rfl) (annot_isOf C14 _ (by kernel_rfl)) h14 (?_ : F14 (ev E0 K (m + 2)) rounds (.ptr b 0) (sv T) (.int .i64 (from_ : Int)) S = _), g.trans (d3.mono fun z _ hz => by omega)⟩
 rw [F14_eq, oB]
 show callP ((ev E0 K (m + 2)).f 20 [.ptr b 0] (nwP 30 2 (tr2 0 0) S).2) _ = _
 rw [show ev E0 K (m + 2) = ev E0 K (m + 1 + 1) from rfl, b1, callP_ret]
 refine c1.trans ?_
 rw [exB_same, R14_5_eq]
 rw [show whM t (T.drop from_) from_ (List.replicate (t.length + 1) (-1)) none = whole t T from_ from rfl] at c2 ⊢
 rw [c2.ldA onU big2, oB]
 dsimp only
 rw [d1, oB]
 dsimp only
 rw [d2.ldrA onV big2, oB]
end
end Go.Proofs.Ytachpdpmoihjmaa.W
namespace Go.Proofs.Ytachpdpmoihjmaa.W
open Go.Proofs.Ytachpdpmoihjmaa.Ev
section
variable {S : St}
theorem ld1_lg (ho : S.on = false) {b i : Nat} {v : V} (h : ld1 (.ptr b i) S = some (v, S)) (l : List LE) : ld1 (.ptr b i) (S.lg l) = some (v, S.lg (⟨b, i, i + 1, false⟩ :: l)) := by
 have h' : ld S b i = some (v, S) := h
 show ld (S.lg l) b i = _
 unfold ld at h' ⊢
 rw [show (S.lg l).heap = S.heap from rfl]
 split at h'
 · rename_i e esz n ro c hb
   cases hc : (Nat.blt i (esz * n) && Nat.blt (esz * n) big) with
   | false => rw [hc] at h'; cases h'
   | true =>
    rw [hc] at h'
    simp only [cond_true, oI, oS, pM] at h' ⊢
    obtain ⟨t, h1, w, h2, rfl, _⟩ := h'
    exact ⟨t, h1, w, h2, rfl, rfl⟩
 · cases h'
def BR (S : St) (n x : Nat) : Prop := x < S.next ∧ ∃ L : List Bool, L.length = n + 1 ∧ RowAt S x 4 1 (L.map fun q => one (.bool q))
theorem BR.grew {W : Nat → Prop} {T : St} {n x : Nat} (h : BR S n x) (hw : ¬ W x) (g : Grew W S T) : BR T n x := by
 obtain ⟨h1, L, h2, h3⟩ := h
 exact ⟨Nat.lt_of_lt_of_le h1 g.next, L, h2, h3.grew h1 hw g⟩
theorem BR.ld (ho : S.on = false) {n x k : Nat} (h : BR S n x) (hk : k ≤ n) : ∃ q, ld1 (.ptr x k) S = some (.bool q, S) := by
 obtain ⟨h1, L, h2, h3⟩ := h
 have hlt : k < L.length := by omega
 exact ⟨L[k], h3.ld1 ho (by rw [List.getElem?_map, List.getElem?_eq_getElem hlt]; rfl)⟩
theorem BR.st (ho : S.on = false) {n x k : Nat} (h : BR S n x) (hk : k ≤ n) (q : Bool) : ∃ T, stP 1 (.ptr x k) (.bool q) S = some (.tuple [], T) ∧ BR T n x ∧ Grew (fun y => y = x) S T ∧ T.next = S.next := by
 obtain ⟨h1, L, h2, h3⟩ := h
 obtain ⟨T, a1, a2, a3, a4⟩ := h3.stK ho (i := k) (by rw [List.length_map]; omega) (one (.bool q))
 rw [Nat.mul_one] at a1
 refine ⟨T, ?_, ⟨by omega, L.set k q, by rw [List.length_set]; exact h2, by rw [List.map_set]; exact a2⟩, a3, a4⟩
 show vu (stK S x k 1 (one (.bool q))) = _
 rw [a1]; rfl
theorem make65 (ho : S.on = false) (n : Nat) (hn : n + 1 ≤ 20000) : ∃ T, makeSliceK E0 65 (.int .i64 ((n + 1 : Nat) : Int)) (.int .i64 ((n + 1 : Nat) : Int)) S = some (.slice S.next 0 (n + 1) (n + 1), T) ∧ BR T n S.next ∧ Grew (fun _ => False) S T ∧ T.next = S.next + 1 := by
 have hr := rowAt_makeRow (s := S) (e := 4) (z := 1) (n := n + 1) (v := .bool false) ho (by decide) (by unfold big; omega)
 refine ⟨makeRow S 4 1 (.bool false) (n + 1), ?_, ⟨Nat.lt_succ_self _, List.replicate (n + 1) false, by simp, by rw [List.map_replicate]; exact hr⟩, grew_nw ho _ _, rfl⟩
 unfold makeSliceK
 rw [show sliceElem E0 65 = some (4, 1, 1) by kernel_rfl, oB, show natOf (.int .i64 ((n + 1 : Nat) : Int)) = some (n + 1) from rfl, oB, oB]
 unfold makeAtK
 rw [show Nat.ble (n + 1) (n + 1) = true from ble_true.2 (Nat.le_refl _), blt_true.2 (show (n + 1) * (1 + 1 + 1) < maxCells by unfold maxCells; omega), Bool.and_self, cond_true, show zeroT E0 4 = some (.bool false) by kernel_rfl, oB]
 rfl
theorem make63 (ho : S.on = false) (n : Nat) (hn : n ≤ 20000) : ∃ T, makeSliceK E0 63 (.int .i64 (n : Int)) (.int .i64 (n : Int)) S = some (.slice S.next 0 n n, T) ∧ RowAt T S.next 65 1 ((List.replicate n V.nilslice).map one) ∧ Grew (fun _ => False) S T ∧ T.next = S.next + 1 := by
 have hr := rowAt_makeRow (s := S) (e := 65) (z := 1) (n := n) (v := .nilslice) ho (by decide) (by unfold big; omega)
 refine ⟨makeRow S 65 1 .nilslice n, ?_, by rw [List.map_replicate]; exact hr, grew_nw ho _ _, rfl⟩
 unfold makeSliceK
 rw [show sliceElem E0 63 = some (65, 1, 24) by kernel_rfl, oB, show natOf (.int .i64 (n : Int)) = some n from rfl, oB, oB]
 unfold makeAtK
 rw [show Nat.ble n n = true from ble_true.2 (Nat.le_refl _), blt_true.2 (show n * (24 + 1 + 1) < maxCells by unfold maxCells; omega), Bool.and_self, cond_true, show zeroT E0 65 = some .nilslice by kernel_rfl, oB]
 rfl
end
structure Rch (S : St) (b r N1 p3 p4 p5 p7 ro : Nat) (t : List Sp) (T : List UInt8) (s0 s1 : Nat) (outL : List V) : Prop where
 rx : Rx S b r t
 hb : b < N1
 hr : r < N1
 h3 : p3 < N1
 h4 : p4 < N1
 h5 : p5 < N1
 h7 : p7 < N1
 h8 : ro < N1
 hN : N1 ≤ S.next
 le : s0 ≤ s1
 hs : s1 ≤ T.length
 ht : t.length ≤ 100
 hT : T.length ≤ 100
 len : outL.length = s1 - s0 + 1
 b3 : Bx S p3 22 [.ptr b 0]
 b4 : Bx S p4 9 [sv T]
 b5 : AgAt S p5 30 2 (tr2 s0 s1)
 b7 : AgAt S p7 63 1 (one (.slice ro 0 (s1 - s0 + 1) (s1 - s0 + 1)))
 out : RowAt S ro 65 1 (outL.map one)
def RowsAt (S : St) (N1 n j : Nat) (outL : List V) : Prop := ∀ i, j ≤ i → i < outL.length → ∃ x, outL[i]? = some (.slice x 0 (n + 1) (n + 1)) ∧ N1 ≤ x ∧ BR S n x
section
variable {S : St} {b r N1 p3 p4 p5 p7 ro : Nat} {t : List Sp} {T : List UInt8} {s0 s1 : Nat} {outL : List V}
theorem Rch.grew {W : Nat → Prop} {U : St} (h : Rch S b r N1 p3 p4 p5 p7 ro t T s0 s1 outL) (hw : ∀ x, x < N1 → ¬ W x) (g : Grew W S U) : Rch U b r N1 p3 p4 p5 p7 ro t T s0 s1 outL :=
 ⟨h.rx.grew (hw b h.hb) (hw r h.hr) g, h.hb, h.hr, h.h3, h.h4, h.h5, h.h7, h.h8, Nat.le_trans h.hN g.next, h.le, h.hs, h.ht, h.hT, h.len,
  h.b3.grew (Nat.lt_of_lt_of_le h.h3 h.hN) (hw _ h.h3) g, h.b4.grew (Nat.lt_of_lt_of_le h.h4 h.hN) (hw _ h.h4) g, h.b5.grew (Nat.lt_of_lt_of_le h.h5 h.hN) (hw _ h.h5) g, h.b7.grew (Nat.lt_of_lt_of_le h.h7 h.hN) (hw _ h.h7) g, h.out.grew (Nat.lt_of_lt_of_le h.h8 h.hN) (hw _ h.h8) g⟩
theorem can_spec (self : EV) (N : Nat) (h : Rch S b r N1 p3 p4 p5 p7 ro t T s0 s1 outL) {a : Nat} (ha0 : s0 ≤ a) (ha1 : a ≤ s1) {p8 : Nat} (h8 : AgAt S p8 3 1 (one (.int .i64 (a : Int)))) (hrows : RowsAt S N1 t.length (a - s0 + 1) outL) {k : Nat} (hk : k ≤ t.length) (x6 : V) :
 ∃ q L, F29 self N (.int .i64 (k : Int)) (.ptr p3 0) (.ptr p8 0) (.ptr p5 0) (.ptr p4 0) (.ptr p7 0) x6 (S.lg []) = some (.ret (.bool q), S.lg L) ∧ (L.all fun e => !e.w) = true := by
 have ho := h.rx.on
 have hT := h.hT
 have hs := h.hs
 have ht := h.ht
 have r3 := Bx.ld1 ho h.b3 0 (by show 0 < 1; decide) big1
 have r4 := Bx.ld1 ho h.b4 0 (by show 0 < 1; decide) big1
 have r7 := h.b7.ld1 ho big1 (i := 0) (v := .slice ro 0 (s1 - s0 + 1) (s1 - s0 + 1)) (by decide) rfl
 have r8 := h8.ld1 ho big1 (i := 0) (v := .int .i64 (a : Int)) (by decide) rfl
 simp only [List.getElem_cons_zero] at r3 r4
 have rs0 := h.b5.ld1 ho big2 (i := 0) (by decide) (tr2_0 s0 s1)
 have rs1 := h.b5.ld1 ho big2 (i := 1) (v := .int .i64 (s1 : Int)) (by decide) rfl
 have i0 : ixA 2 1 false 1 (.ptr p5 0) (.int .i64 0) = some (.ptr p5 0) := rfl
 have i1 : ixA 2 1 false 1 (.ptr p5 0) (.int .i64 1) = some (.ptr p5 1) := rfl
 obtain ⟨u, hu1, hu2⟩ := kind_at t k hk
 have rk := row_ld ho h.rx.row hu1 (j := 256) (by omega) hu2
 have ixk := ixP_st r (t.length + 1) k (by omega)
 rw [F29_eq, ld1_lg ho r3, oB]
 dsimp only
 simp only [nilP, faPg, Nat.zero_add, Nat.add_zero, oB]
 rw [ld1_lg ho h.rx.l0, oB]
 dsimp only
 rw [ixk, oB, faPg, oB, ld1_lg ho rk, oB]
 dsimp only
 rw [binV_ii, intsV_eql, oB, ifK_bool]
 have on_ : ∀ l : List LE, onS (S.lg l) = S.lg [] := fun _ => rfl
 have R3 := fun l => ld1_lg ho r3 l
 have R4 := fun l => ld1_lg ho r4 l
 have R7 := fun l => ld1_lg ho r7 l
 have R8 := fun l => ld1_lg ho r8 l
 have R0 := fun l => ld1_lg ho rs0 l
 have R1 := fun l => ld1_lg ho rs1 l
 have Rl := fun l => ld1_lg ho h.rx.l0 l
 by_cases hkt : k < t.length
 · rw [if_pos hkt, show decide ((0 : Int) = 0) = true from rfl, cond_true]
   have hu3 := stepsT_take hkt
   simp only [on_, R8, i1, R1, oB, binV_ii, intsV_lss, guardV_t]
   by_cases hlt : a < s1
   · have haT : a < T.length := by omega
     have hB : T[a].toNat < 256 := T[a].toNat_lt
     have hB2 : T[a].toNat < 258 := Nat.lt_of_lt_of_le hB (by decide)
     have hix := ixA_ptr 256 1 false 1 .u8 (b := r) (off := k * 258) hB
     have hD2 := fun l => ld1_lg ho (row_ld ho h.rx.row hu3 hB2 (take_has T[a] t[k])) l
     rw [dec_lt hlt]
     simp only [cond_true, oB, on_, R3, nilP, faPg, Nat.add_zero, Rl, R4, R8, ixS_sv T .i64 a haT, ixk, hix, Nat.mul_one, hD2, pickV_bool, guardV_t]
     cases hq : t[k].p T[a] with
     | false =>
      simp only [cond_false, oB, guardV_no, pickV_bool, on_]
      rw [endP_rd (by rfl)]
      exact ⟨_, _, rfl, rfl⟩
     | true =>
      have hj : a + 1 - s0 < outL.length := by rw [h.len]; omega
      obtain ⟨x, hx1, hx2, hx3⟩ := hrows (a + 1 - s0) (by omega) hj
      obtain ⟨q, hq2⟩ := hx3.ld ho (k := k + 1) hkt
      have e1 := wrap_succ (i := a) (by omega)
      have e2 : IntKind.i64.wrap (((a + 1 : Nat) : Int) - (s0 : Int)) = ((a + 1 - s0 : Nat) : Int) := by
       rw [wrap_i64 (by omega) (by omega)]; omega
      have e3 := wrap_succ (i := k) (by omega)
      have ix2 := ixP_sl ro (s1 - s0 + 1) (a + 1 - s0) (by rw [← h.len]; exact hj)
      have Ro := fun l => ld1_lg ho (show ld1 (.ptr ro (a + 1 - s0)) S = _ from h.out.ld1 ho (by rw [List.getElem?_map, hx1]; rfl)) l
      have ix3 := ixP_sl x (t.length + 1) (k + 1) (by omega)
      have Rx' := fun l => ld1_lg ho hq2 l
      simp only [cond_true, oB, guardV_t, on_, R7, R8, binV_ii, intsV_add, e1, i0, R0, intsV_sub, e2, ix2, Ro, e3, ix3, Rx', pickV_bool]
      rw [endP_rd (by rfl)]
      exact ⟨_, _, rfl, rfl⟩
   · rw [dec_ge (by omega)]
     simp only [cond_false, oB, guardV_no, guardV_t, pickV_bool, on_]
     rw [endP_rd (by rfl)]
     exact ⟨_, _, rfl, rfl⟩
 · rw [if_neg hkt, show decide ((6 : Int) = 0) = false from rfl, cond_false, binV_ii, intsV_eql, show decide ((6 : Int) = 6) = true from rfl, oB, ifK_bool, cond_true]
   simp only [R8, i1, R1, oB, binV_ii, intsV_eql]
   exact ⟨_, _, rfl, rfl⟩
end
end Go.Proofs.Ytachpdpmoihjmaa.W
namespace Go.Proofs.Ytachpdpmoihjmaa.W
open Go.Proofs.Ytachpdpmoihjmaa.Ev
section
variable {S : St} {b r N1 p3 p4 p5 p7 ro : Nat} {t : List Sp} {T : List UInt8} {s0 s1 : Nat} {outL : List V}
theorem RowsAt.st {U : St} {n j x : Nat} (h : RowsAt S N1 n j outL) (hx : BR U n x) (g : Grew (fun y => y = x) S U) : RowsAt U N1 n j outL := fun i h1 h2 => by
 obtain ⟨y, a1, a2, a3⟩ := h i h1 h2
 refine ⟨y, a1, a2, ?_⟩
 by_cases e : y = x
 · rw [e]; exact hx
 · exact a3.grew e g
theorem RowsAt.grew {W : Nat → Prop} {U : St} {n j : Nat} (h : RowsAt S N1 n j outL) (hw : ∀ x, x < S.next → N1 ≤ x → ¬ W x) (g : Grew W S U) : RowsAt U N1 n j outL := fun i h1 h2 => by
 obtain ⟨y, a1, a2, a3⟩ := h i h1 h2
 exact ⟨y, a1, a2, a3.grew (hw y a3.1 a2) g⟩
theorem can_run {K : FuncId → Option KF} (h29 : K 29 = none) (m : Nat) (h : Rch S b r N1 p3 p4 p5 p7 ro t T s0 s1 outL) {a : Nat} (ha0 : s0 ≤ a) (ha1 : a ≤ s1) {p8 : Nat} (h8 : AgAt S p8 3 1 (one (.int .i64 (a : Int)))) (hrows : RowsAt S N1 t.length (a - s0 + 1) outL) {k : Nat} (hk : k ≤ t.length) (x6 : V) :
 ∃ q L, callK E0 (ev E0 K (m + 1)) (.fn (.func 29) [] [.ptr p3 0, .ptr p8 0, .ptr p5 0, .ptr p4 0, .ptr p7 0, x6]) [.int .i64 (k : Int)] (onS S) = some (.ret (.bool q), S.lg L) ∧ (L.all fun e => !e.w) = true := by
 obtain ⟨q, L, h1, h2⟩ := can_spec (ev E0 K m) rounds h ha0 ha1 h8 hrows hk x6
 refine ⟨q, L, ?_, h2⟩
 rw [callK_fn (by kernel_rfl) (by kernel_rfl)]
 exact ev_read (c := C29) (d := B29) (by kernel_rfl) (by kernel_rfl) (annot_isOf C29 _ (by kernel_rfl)) h29 h1
theorem L63_spec {K : FuncId → Option KF} (h29 : K 29 = none) (m N : Nat) (nk : Ac → St → Rs) (ek : Nat → Ac → St → Rs) {a : Nat} (ha0 : s0 ≤ a) (ha1 : a ≤ s1) {p8 p9 x : Nat} (hx8 : p8 ≠ x) (hx9 : p9 ≠ x) (hxN : N1 ≤ x) (v41 : V) :
 ∀ (j f : Nat) (S : St), Rch S b r N1 p3 p4 p5 p7 ro t T s0 s1 outL → AgAt S p8 3 1 (one (.int .i64 (a : Int))) → AgAt S p9 65 1 (one (.slice x 0 (t.length + 1) (t.length + 1))) → p8 < S.next → p9 < S.next → RowsAt S N1 t.length (a - s0 + 1) outL → BR S t.length x → j ≤ t.length + 1 → j < f →
 ∃ U, L22_63 (ev E0 K (m + 1)) N nk ek f (.ptr p3 0) (.ptr p4 0) (.ptr p5 0) (.ptr p7 0) (.ptr p8 0) (.ptr p9 0) (.fn (.func 29) [] [.ptr p3 0, .ptr p8 0, .ptr p5 0, .ptr p4 0, .ptr p7 0, .ptr p9 0]) (.int .i64 ((j : Int) - 1)) v41 S
  = ek 4 (fr 68 [(3, .ptr p3 0), (4, .ptr p4 0), (5, .ptr p5 0), (7, .ptr p7 0), (8, .ptr p8 0), (9, .ptr p9 0), (10, .fn (.func 29) [] [.ptr p3 0, .ptr p8 0, .ptr p5 0, .ptr p4 0, .ptr p7 0, .ptr p9 0]), (41, v41)]) U ∧ BR U t.length x ∧ Grew (fun y => y = x) S U
 | j, 0, S, _, _, _, _, _, _, _, _, hj => by omega
 | 0, f + 1, S, h, h8, h9, hn8, hn9, hrows, hx, hjn, hj => by
  refine ⟨S, ?_, hx, Grew.refl _ _⟩
  rw [L22_63_eq, binV_ii, intsV_geq, show decide ((0 : Int) ≤ ((0 : Nat) : Int) - 1) = false by rw [decide_eq_false_iff_not]; omega, oB, ifK_bool, cond_false]
 | j + 1, f + 1, S, h, h8, h9, hn8, hn9, hrows, hx, hjn, hj => by
  have ho := h.rx.on
  have ht := h.ht
  have r9 := h9.ld1 ho big1 (i := 0) (v := .slice x 0 (t.length + 1) (t.length + 1)) (by decide) rfl
  have R9 := fun l => ld1_lg ho r9 l
  have on_ : ∀ l : List LE, onS (S.lg l) = S.lg [] := fun _ => rfl
  have on0 : onS S = S.lg [] := rfl
  obtain ⟨q0, hq0⟩ := hx.ld ho (k := j) (by omega)
  have Rq := fun l => ld1_lg ho hq0 l
  have ixx := ixP_sl x (t.length + 1) j (by omega)
  have main : ∀ (q : Bool) (L : List LE), (L.all fun e => !e.w) = true → ∃ U, ((ixP 1 (.slice x 0 (t.length + 1) (t.length + 1)) (.int .i64 (j : Int))).bind fun t77 =>
(stP 1 t77 (.bool q) (onS (S.lg L))).bind fun p78 =>
endP [(0, [2, 5, 9])] S [[⟨p9, 0, 0 + 1, false⟩], [], [⟨p9, 0, 0 + 1, false⟩], [], [], [⟨x, j, j + 1, false⟩], [], [], [], L, [], [], p78.2.log] p78.2 fun S79 =>
(binV E0 .sub 3 false true (.int .i64 (j : Int)) (.int .i64 1)).bind fun t81 =>
L22_63 (ev E0 K (m + 1)) N nk ek f (.ptr p3 0) (.ptr p4 0) (.ptr p5 0) (.ptr p7 0) (.ptr p8 0) (.ptr p9 0) (.fn (.func 29) [] [.ptr p3 0, .ptr p8 0, .ptr p5 0, .ptr p4 0, .ptr p7 0, .ptr p9 0]) t81 v41 S79) = ek 4 (fr 68 [(3, .ptr p3 0), (4, .ptr p4 0), (5, .ptr p5 0), (7, .ptr p7 0), (8, .ptr p8 0), (9, .ptr p9 0), (10, .fn (.func 29) [] [.ptr p3 0, .ptr p8 0, .ptr p5 0, .ptr p4 0, .ptr p7 0, .ptr p9 0]), (41, v41)]) U ∧ BR U t.length x ∧ Grew (fun y => y = x) S U := fun q L hL => by
   obtain ⟨S1, a1, a2, a3, a4⟩ := hx.st ho (k := j) (by omega) q
   have on1 := a3.on.trans ho
   obtain ⟨l1, b1⟩ := stP_lg ho a1
   rw [ixx, oB, on_, b1, oB]
   dsimp only
   rw [endP_sel (by
    show ((true && (true && (true && ((L.all fun e => !e.w) && true)))) && true) = true
    rw [hL]; rfl)]
   obtain ⟨u1, u2, u3⟩ := relog_lg ho l1 [[⟨p9, 0, 0 + 1, false⟩], [], [⟨p9, 0, 0 + 1, false⟩], [], [], [⟨x, j, j + 1, false⟩], [], [], [], L, [], [], (S1.lg l1).log] (s' := S1) on1
   generalize relog S (S1.lg l1) _ = S2 at u1 u2 u3 ⊢
   have g2 : Grew (fun y => y = x) S S2 := ⟨by rw [u2]; exact a3.next, u3.trans ho.symm, fun y hy hw => by rw [u1]; exact a3.keep y hy hw⟩
   have hx2 : BR S2 t.length x := by
    obtain ⟨c1, M, c2, c3⟩ := a2
    exact ⟨by rw [u2]; exact c1, M, c2, c3.same u1⟩
   obtain ⟨U, d1, d2, d3⟩ := L63_spec h29 m N nk ek ha0 ha1 hx8 hx9 hxN v41 j f S2 (h.grew (fun y hy => by omega) g2) (h8.grew hn8 hx8 g2) (h9.grew hn9 hx9 g2) (by rw [u2]; omega) (by rw [u2]; omega) (hrows.st hx2 g2) hx2 (by omega) (by omega)
   refine ⟨U, ?_, d2, g2.trans d3⟩
   rw [binV_ii, intsV_sub, wrap_i64 (by omega) (by omega), oB]
   exact d1
  obtain ⟨q1, L1, c1, c2⟩ := can_run h29 m h ha0 ha1 h8 hrows (k := j) (by omega) (.ptr p9 0)
  have hsub : ((j + 1 : Nat) : Int) - 1 = (j : Int) := by omega
  rw [hsub, L22_63_eq, binV_ii, intsV_geq, show decide ((0 : Int) ≤ (j : Int)) = true by rw [decide_eq_true_eq]; omega, oB, ifK_bool, cond_true]
  rw [on0, R9, oB]
  dsimp only
  rw [on_, R9, oB]
  dsimp only
  rw [ixx, oB, on_, Rq, oB]
  dsimp only
  rw [on_, guardV_f, oB]
  cases q0 with
  | true =>
   simp only [Bool.not_true, cond_false, oB, guardV_f, callD_ret, pickV_bool, cond_true]
   have := main true [] rfl
   rw [ixx, oB] at this
   exact this
  | false =>
   simp only [Bool.not_false, cond_true, oB, guardV_f]
   rw [show S.lg [] = onS S from rfl, c1, callD_ret, pickV_bool, cond_false, oB]
   have := main q1 L1 c2
   rw [ixx, oB] at this
   exact this
end
end Go.Proofs.Ytachpdpmoihjmaa.W
namespace Go.Proofs.Ytachpdpmoihjmaa.W
open Go.Proofs.Ytachpdpmoihjmaa.Ev
section
variable {S : St} {b r N1 p3 p4 p5 p7 ro : Nat} {t : List Sp} {T : List UInt8} {s0 s1 : Nat} {outL : List V}
theorem L51_spec {K : FuncId → Option KF} (h29 : K 29 = none) (m N : Nat) (hN : 300 < N) (nk : Ac → St → Rs) (ek : Nat → Ac → St → Rs) {a : Nat} (ha0 : s0 ≤ a) (ha1 : a ≤ s1) {p8 p9 x : Nat} (hx8 : p8 ≠ x) (hx9 : p9 ≠ x) (hxN : N1 ≤ x) :
 ∀ (c d f : Nat) (S : St), Rch S b r N1 p3 p4 p5 p7 ro t T s0 s1 outL → AgAt S p8 3 1 (one (.int .i64 (a : Int))) → AgAt S p9 65 1 (one (.slice x 0 (t.length + 1) (t.length + 1))) → p8 < S.next → p9 < S.next → RowsAt S N1 t.length (a - s0 + 1) outL → BR S t.length x → c + d = 11 → d < f →
 ∃ U, L22_51 (ev E0 K (m + 1)) N nk ek f (.ptr p3 0) (.ptr p4 0) (.ptr p5 0) (.ptr p7 0) (.ptr p8 0) (.ptr p9 0) (.fn (.func 29) [] [.ptr p3 0, .ptr p8 0, .ptr p5 0, .ptr p4 0, .ptr p7 0, .ptr p9 0]) (.int .i64 (c : Int)) S
  = ek 2 (fr 68 [(3, .ptr p3 0), (4, .ptr p4 0), (5, .ptr p5 0), (7, .ptr p7 0), (8, .ptr p8 0)]) U ∧ BR U t.length x ∧ Grew (fun y => y = x) S U
 | c, d, 0, S, _, _, _, _, _, _, _, _, hf => by omega
 | c, 0, f + 1, S, h, h8, h9, hn8, hn9, hrows, hx, hc, hf => by
  refine ⟨S, ?_, hx, Grew.refl _ _⟩
  rw [L22_51_eq, binV_ii, intsV_lss, show decide ((c : Int) < 11) = false by rw [decide_eq_false_iff_not]; omega, oB, ifK_bool, cond_false]
 | c, d + 1, f + 1, S, h, h8, h9, hn8, hn9, hrows, hx, hc, hf => by
  have ho := h.rx.on
  have ht := h.ht
  have r3 := Bx.ld1 ho h.b3 0 (by show 0 < 1; decide) big1
  simp only [List.getElem_cons_zero] at r3
  obtain ⟨S1, a1, a2, a3⟩ := L63_spec h29 m N (R22_53 (ev E0 K (m + 1)) N (N22_51 (ev E0 K (m + 1)) N nk ek f) ek) (exB 4 (R22_53 (ev E0 K (m + 1)) N (N22_51 (ev E0 K (m + 1)) N nk ek f) ek) (exB 3 (R22_53 (ev E0 K (m + 1)) N (N22_51 (ev E0 K (m + 1)) N nk ek f) ek) ek)) ha0 ha1 hx8 hx9 hxN (.int .i64 (c : Int)) (t.length + 1) N S h h8 h9 hn8 hn9 hrows hx (Nat.le_refl _) (by omega)
  obtain ⟨U, b1, b2, b3⟩ := L51_spec h29 m N hN nk ek ha0 ha1 hx8 hx9 hxN (c + 1) d f S1 (h.grew (fun y hy => by omega) a3) (h8.grew hn8 hx8 a3) (h9.grew hn9 hx9 a3) (Nat.lt_of_lt_of_le hn8 a3.next) (Nat.lt_of_lt_of_le hn9 a3.next) (hrows.st a2 a3) a2 (by omega) (by omega)
  refine ⟨U, ?_, b2, a3.trans b3⟩
  rw [L22_51_eq, binV_ii, intsV_lss, show decide ((c : Int) < 11) = true by rw [decide_eq_true_eq]; omega, oB, ifK_bool, cond_true, r3, oB]
  dsimp only
  rw [nilP, oB, faPg, oB, Nat.zero_add, h.rx.l0, oB]
  dsimp only
  rw [show lnS (.oslice r 0 (t.length + 1) 258) S = some (.int .i64 ((t.length + 1 : Nat) : Int), S) from rfl, oB]
  dsimp only
  rw [binV_ii, intsV_sub, wrap_i64 (by omega) (by omega), oB, a1, exB_same, R22_53_eq, binV_ii, intsV_add, wrap_succ (by omega), oB, N22_51_eq, b1]
theorem L20r_spec {K : FuncId → Option KF} (h29 : K 29 = none) (m N : Nat) (hN : 300 < N) (nk : Ac → St → Rs) (ek : Nat → Ac → St → Rs) :
 ∀ (d f p8 : Nat) (outL : List V) (S : St), Rch S b r N1 p3 p4 p5 p7 ro t T s0 s1 outL → AgAt S p8 3 1 (one (.int .i64 ((s0 : Int) + (d : Int) - 1))) → N1 ≤ p8 → p8 < S.next → RowsAt S N1 t.length d outL → d ≤ s1 - s0 + 1 → d < f →
 ∃ U, L22_20 (ev E0 K (m + 1)) N nk ek f (.ptr p3 0) (.ptr p4 0) (.ptr p5 0) (.ptr p7 0) (.ptr p8 0) S
  = ek 0 (fr 68 [(7, .ptr p7 0)]) U ∧ AgAt U p7 63 1 (one (.slice ro 0 (s1 - s0 + 1) (s1 - s0 + 1))) ∧ Grew (fun y => ro ≤ y) S U
 | d, 0, p8, outL, S, _, _, _, _, _, _, hf => by omega
 | 0, f + 1, p8, outL, S, h, h8, h8N, hn8, hrows, hd, hf => by
  have ho := h.rx.on
  refine ⟨S, ?_, h.b7, Grew.refl _ _⟩
  have r8 := h8.ld1 ho big1 (i := 0) (v := .int .i64 ((s0 : Int) + ((0 : Nat) : Int) - 1)) (by decide) rfl
  have rs0 := h.b5.ld1 ho big2 (i := 0) (by decide) (tr2_0 s0 s1)
  rw [L22_20_eq, r8, oB]
  dsimp only
  rw [show ixA 2 1 false 1 (.ptr p5 0) (.int .i64 0) = some (.ptr p5 0) from rfl, oB, rs0, oB]
  dsimp only
  rw [binV_ii, intsV_geq, show decide ((s0 : Int) ≤ (s0 : Int) + ((0 : Nat) : Int) - 1) = false by rw [decide_eq_false_iff_not]; omega, oB, ifK_bool, cond_false]
 | d + 1, f + 1, p8, outL, S, h, h8, h8N, hn8, hrows, hd, hf => by
  have ho := h.rx.on
  have ht := h.ht
  have hT := h.hT
  have hs := h.hs
  have hle := h.le
  have h7 := h.h7
  have hN1 := h.hN
  have hro := h.h8
  have hcast : (s0 : Int) + ((d + 1 : Nat) : Int) - 1 = ((s0 + d : Nat) : Int) := by omega
  rw [hcast] at h8
  have r8 := h8.ld1 ho big1 (i := 0) (v := .int .i64 ((s0 + d : Nat) : Int)) (by decide) rfl
  have rs0 := h.b5.ld1 ho big2 (i := 0) (by decide) (tr2_0 s0 s1)
  have r3 := Bx.ld1 ho h.b3 0 (by show 0 < 1; decide) big1
  simp only [List.getElem_cons_zero] at r3
  have i0 : ixA 2 1 false 1 (.ptr p5 0) (.int .i64 0) = some (.ptr p5 0) := rfl
  obtain ⟨S1, a1, a2, a3, a4⟩ := make65 ho t.length (by omega)
  have on1 := a3.on.trans ho
  obtain ⟨b1, b2, b3⟩ := ag_new on1 65 1 (one .nilslice)
  have on2 : (nwP 65 1 (one .nilslice) S1).2.on = false := nw_on on1 _
  obtain ⟨S3, c1, c2, c3, c4⟩ := b1.st_one on2 (.slice S.next 0 (t.length + 1) (t.length + 1)) rfl rfl rfl
  have on3 := c3.on.trans on2
  have g3 : Grew (fun _ => False) S S3 := (a3.trans b2).own (by omega) c3
  have n3 : S3.next = S.next + 2 := by omega
  have x3 : BR S3 t.length S.next := (a2.grew (fun h => h) b2).grew (by omega) c3
  have h3 := h.grew (fun _ _ h => h) g3
  have r7 := h3.b7.ld1 on3 big1 (i := 0) (v := .slice ro 0 (s1 - s0 + 1) (s1 - s0 + 1)) (by decide) rfl
  have h83 := h8.grew hn8 (fun h => h) g3
  have r83 := h83.ld1 on3 big1 (i := 0) (v := .int .i64 ((s0 + d : Nat) : Int)) (by decide) rfl
  have rs03 := h3.b5.ld1 on3 big2 (i := 0) (by decide) (tr2_0 s0 s1)
  have r93 := c2.ld1 on3 big1 (i := 0) (v := .slice S.next 0 (t.length + 1) (t.length + 1)) (by decide) rfl
  have hdl : d < outL.length := by rw [h.len]; omega
  obtain ⟨S4, d1, d2, d3, d4⟩ := h3.out.stK on3 (i := d) (by rw [List.length_map]; exact hdl) (one (.slice S.next 0 (t.length + 1) (t.length + 1)))
  rw [Nat.mul_one] at d1
  have on4 := d3.on.trans on3
  have d1' : stP 1 (.ptr ro d) (.slice S.next 0 (t.length + 1) (t.length + 1)) S3 = some (.tuple [], S4) := by
   show vu (stK S3 ro d 1 (one (.slice S.next 0 (t.length + 1) (t.length + 1)))) = _
   rw [d1]; rfl
  have hb7 : p7 ≠ ro := fun e => by
   obtain ⟨c, q1, _⟩ := h.b7
   obtain ⟨c', q2, _⟩ := h.out.row
   rw [e, q2] at q1
   simp at q1
  have nro : ∀ {p e z : Nat} {c : Tr V}, AgAt S p e z c → e ≠ 65 → p ≠ ro := fun {p e z c} q hne e' => by
   obtain ⟨c, q1, _⟩ := q
   obtain ⟨c', q2, _⟩ := h.out.row
   rw [e', q2] at q1
   simp at q1
   exact hne q1.1.symm
  have nbx : ∀ {p e : Nat} {l : List V}, Bx S p e l → e ≠ 65 → p ≠ ro := fun {p e l} q hne e' => by
   obtain ⟨c', q2, _⟩ := h.out.row
   unfold Bx at q
   rw [e', q2] at q
   simp at q
   exact hne q.1.symm
  obtain ⟨ss, si, sf, hbx⟩ := h.rx.bx
  have hbro : b ≠ ro := nbx hbx (by decide)
  have hrro : r ≠ ro := fun e' => by
   obtain ⟨c, q1, _⟩ := h.rx.row.row
   obtain ⟨c', q2, _⟩ := h.out.row
   rw [e', q2] at q1
   simp at q1
  have h4 : Rch S4 b r N1 p3 p4 p5 p7 ro t T s0 s1 (outL.set d (.slice S.next 0 (t.length + 1) (t.length + 1))) := by
   refine ⟨h3.rx.grew hbro hrro d3, h.hb, h.hr, h.h3, h.h4, h.h5, h.h7, h.h8, by omega, h.le, h.hs, h.ht, h.hT, by rw [List.length_set]; exact h.len, h3.b3.grew (by have := h.h3; have := h.h4; have := h.h5; omega) (nbx h.b3 (by decide)) d3, h3.b4.grew (by have := h.h3; have := h.h4; have := h.h5; omega) (nbx h.b4 (by decide)) d3, h3.b5.grew (by have := h.h3; have := h.h4; have := h.h5; omega) (nro h.b5 (by decide)) d3, h3.b7.grew (by omega) hb7 d3, by rw [List.map_set]; exact d2⟩
  have hr4 : RowsAt S4 N1 t.length d (outL.set d (.slice S.next 0 (t.length + 1) (t.length + 1))) := fun i hi1 hi2 => by
   rw [List.length_set] at hi2
   by_cases hid : i = d
   · subst hid
     exact ⟨S.next, by rw [List.getElem?_set_self hdl], by omega, x3.grew (by omega) d3⟩
   · obtain ⟨y, y1, y2, y3⟩ := hrows i (by omega) hi2
     exact ⟨y, by rw [List.getElem?_set_ne (by omega)]; exact y1, y2, (y3.grew (fun h => h) g3).grew (by omega) d3⟩
  have h84 := h83.grew (by omega) (show ¬ p8 = ro by omega) d3
  have h94 := c2.grew (by omega) (show ¬ S1.next = ro by omega) d3
  obtain ⟨S5, e1, e2, e3⟩ := L51_spec h29 m N hN (R22_25 (ev E0 K (m + 1)) N (N22_20 (ev E0 K (m + 1)) N nk ek f) ek) (exB 2 (R22_25 (ev E0 K (m + 1)) N (N22_20 (ev E0 K (m + 1)) N nk ek f) ek) (exB 1 (R22_25 (ev E0 K (m + 1)) N (N22_20 (ev E0 K (m + 1)) N nk ek f) ek) ek)) (a := s0 + d) (by omega) (by omega) (p8 := p8) (p9 := S1.next) (x := S.next) (by omega) (by omega) (by omega) 0 11 N S4 h4 h84 h94 (by omega) (by omega) (fun i hi1 hi2 => hr4 i (by omega) hi2) (x3.grew (by omega) d3) rfl (by omega)
  have h5 := h4.grew (fun y hy => by omega) e3
  have hr5 := hr4.st e2 e3
  have on5 := h5.rx.on
  have h85 := h84.grew (by omega) (show ¬ p8 = S.next by omega) e3
  have r85 := h85.ld1 on5 big1 (i := 0) (v := .int .i64 ((s0 + d : Nat) : Int)) (by decide) rfl
  have n5 := e3.next
  obtain ⟨f1, f2, f3⟩ := ag_new on5 3 1 (one (.int .i64 0))
  have on6 : (nwP 3 1 (one (.int .i64 0)) S5).2.on = false := nw_on on5 _
  obtain ⟨S7, k1, k2, k3, k4⟩ := f1.st_one on6 (.int .i64 ((s0 + d : Nat) : Int)) rfl rfl rfl
  have on7 := k3.on.trans on6
  have r7' := k2.ld1 on7 big1 (i := 0) (v := .int .i64 ((s0 + d : Nat) : Int)) (by decide) rfl
  obtain ⟨S8, l1, l2, l3, l4⟩ := k2.st_one on7 (.int .i64 ((s0 : Int) + (d : Int) - 1)) rfl rfl rfl
  have g58 : Grew (fun _ => False) S5 S8 := ((f2.own (Nat.le_refl _) k3).own (Nat.le_refl _) l3)
  obtain ⟨U, q1, q2, q3⟩ := L20r_spec h29 m N hN nk ek d f S5.next (outL.set d (.slice S.next 0 (t.length + 1) (t.length + 1))) S8 (h5.grew (fun _ _ h => h) g58) l2 (by omega) (by omega) (hr5.grew (fun _ _ _ h => h) g58) (by omega) (by omega)
  have gall : Grew (fun y => ro ≤ y) S U := ((((g3.mono fun _ _ h => h.elim).trans (d3.mono fun y _ hy => by omega)).trans (e3.mono fun y _ hy => by omega)).trans (g58.mono fun _ _ h => h.elim)).trans q3
  refine ⟨U, ?_, q2, gall⟩
  rw [L22_20_eq, r8, oB]
  dsimp only
  rw [i0, oB, rs0, oB]
  dsimp only
  rw [binV_ii, intsV_geq, show decide ((s0 : Int) ≤ ((s0 + d : Nat) : Int)) = true by rw [decide_eq_true_eq]; omega, oB, ifK_bool, cond_true, r3, oB]
  dsimp only
  rw [nilP, oB, faPg, oB, Nat.zero_add, h.rx.l0, oB]
  dsimp only
  rw [show lnS (.oslice r 0 (t.length + 1) 258) S = some (.int .i64 ((t.length + 1 : Nat) : Int), S) from rfl, oB]
  dsimp only
  rw [a1, oB, oB]
  dsimp only
  rw [nwP_fst, c1, oB]
  dsimp only
  rw [r7, oB]
  dsimp only
  rw [r83, oB]
  dsimp only
  rw [oB, rs03, oB]
  dsimp only
  rw [binV_ii, intsV_sub, wrap_i64 (by omega) (by omega), show ((s0 + d : Nat) : Int) - (s0 : Int) = (d : Int) by omega, oB, r93, oB]
  dsimp only
  rw [ixP_sl ro _ d (by omega), oB, d1', oB]
  dsimp only
  rw [show ((0 : Nat) : Int) = 0 from rfl] at e1
  rw [e1, exB_same, R22_25_eq, r85, oB]
  dsimp only
  rw [oB]
  rw [nwP_fst, k1, oB]
  dsimp only
  rw [r7', oB]
  dsimp only
  rw [binV_ii, intsV_sub, wrap_i64 (by omega) (by omega), show ((s0 + d : Nat) : Int) - 1 = (s0 : Int) + (d : Int) - 1 by omega, oB, l1, oB]
  dsimp only
  rw [N22_20_eq, q1]
end
end Go.Proofs.Ytachpdpmoihjmaa.W
namespace Go.Proofs.Ytachpdpmoihjmaa.W
open Go.Proofs.Ytachpdpmoihjmaa.Ev
theorem L15_z : ∃ Z : Tr V, ∀ (self : EV) (N : Nat) (nk : Ac → St → Rs) (ek : Nat → Ac → St → Rs) (n : Nat) (v0 v5 v7 v9 v10 v11 : V) (S : St), L15_26 self N nk ek (n + 1) v0 v5 v7 v9 v10 v11 S =
(nilCheckV v0).bind fun t28 =>
(faP 0 false 1 t28).bind fun t29 =>
(ld1 t29 S).bind fun p30 =>
(ixP 258 p30.1 v10).bind fun t32 =>
(faP 256 false 1 t32).bind fun t33 =>
(ld1 t33 p30.2).bind fun p34 =>
(binV E0 .neq 3 false true p34.1 (.int .i64 6)).bind fun t35 =>
ifK t35 (
(nilCheckV v0).bind fun t37 =>
(faP 0 false 1 t37).bind fun t38 =>
(ld1 t38 p34.2).bind fun p39 =>
(ixP 258 p39.1 v10).bind fun t41 =>
(ldA 258 t41 p39.2).bind fun p42 =>
(some (nwP 50 258 Z p42.2)).bind fun p43 =>
(stP 258 p43.1 p42.1 p43.2).bind fun p44 =>
(faP 256 false 1 p43.1).bind fun t45 =>
(ld1 t45 p44.2).bind fun p46 =>
(binV E0 .eql 3 false true p46.1 (.int .i64 0)).bind fun t47 =>
ifK t47 (
(binV E0 .add 3 false true v11 (.int .i64 1)).bind fun t50 =>
(binV E0 .add 3 false true v10 (.int .i64 1)).bind fun t53 =>
L15_26 self N nk ek n v0 v5 v7 v9 t53 t50 p46.2) (
(binV E0 .eql 3 false true p46.1 (.int .i64 5)).bind fun t55 =>
ifK t55 (
(faP 257 false 1 p43.1).bind fun t58 =>
(ld1 t58 (onS p46.2)).bind fun p59 =>
(binV E0 .quo 3 false true p59.1 (.int .i64 2)).bind fun t60 =>
(faP 257 false 1 p43.1).bind fun t61 =>
(ld1 t61 (onS p59.2)).bind fun p62 =>
(binV E0 .rem 3 false true p62.1 (.int .i64 2)).bind fun t63 =>
(ixP 2 v7 t60).bind fun t65 =>
(ixA 2 1 false 1 t65 t63).bind fun t66 =>
(stP 1 t66 v11 (onS p62.2)).bind fun p67 =>
endP [(2, [5])] p46.2 [[], [], p59.2.log, [], [], p62.2.log, [], [], [], [], p67.2.log] p67.2 fun S68 =>
(binV E0 .add 3 false true v10 (.int .i64 1)).bind fun t70 =>
L15_26 self N nk ek n v0 v5 v7 v9 t70 v11 S68) (
(binV E0 .eql 3 false true p46.1 (.int .i64 3)).bind fun t72 =>
ifK t72 (
(binV E0 .add 3 false true v10 (.int .i64 1)).bind fun t75 =>
(ixA 2 1 false 1 v5 (.int .i64 0)).bind fun t79 =>
(ld1 t79 p46.2).bind fun p80 =>
(binV E0 .sub 3 false false v11 p80.1).bind fun t81 =>
(ixP 1 v9 t81).bind fun t82 =>
(ld1 t82 p80.2).bind fun p83 =>
(ixP 1 p83.1 t75).bind fun t85 =>
(ld1 t85 p83.2).bind fun p86 =>
(unV .not p86.1).bind fun t87 =>
ifK t87 (
(faP 257 false 1 p43.1).bind fun t88 =>
(ld1 t88 p86.2).bind fun p89 =>
L15_26 self N nk ek n v0 v5 v7 v9 p89.1 v11 p89.2) (
L15_26 self N nk ek n v0 v5 v7 v9 t75 v11 p86.2)) (
(binV E0 .eql 3 false true p46.1 (.int .i64 4)).bind fun t91 =>
ifK t91 (
(faP 257 false 1 p43.1).bind fun t93 =>
(ld1 t93 p46.2).bind fun p94 =>
L15_26 self N nk ek n v0 v5 v7 v9 p94.1 v11 p94.2) (
(binV E0 .add 3 false true v10 (.int .i64 1)).bind fun t97 =>
L15_26 self N nk ek n v0 v5 v7 v9 t97 v11 p46.2))))) (
ek 2 (fr 100 [(7, v7)]) p34.2) := ⟨_, fun self N nk ek n v0 v5 v7 v9 v10 v11 S => L15_26_eq self N nk ek n v0 v5 v7 v9 v10 v11 S⟩
section
variable {S : St} {b r : Nat} {t : List Sp} {T : List UInt8}
theorem L15_spec (self : EV) (N : Nat) (nk : Ac → St → Rs) (ek : Nat → Ac → St → Rs) (v5 v7 v9 : V) (ht : t.length ≤ 100) :
 ∀ (d k a f : Nat) (S : St), Rx S b r t → k + d = t.length → a + d ≤ 1000 → d < f →
 ∃ U, L15_26 self N nk ek f (.ptr b 0) v5 v7 v9 (.int .i64 (k : Int)) (.int .i64 (a : Int)) S = ek 2 (fr 100 [(7, v7)]) U ∧ Grew (fun _ => False) S U
 | d, k, a, 0, S, _, _, _, hf => by omega
 | 0, k, a, f + 1, S, h, hk, _, hf => by
  have ho := h.on
  obtain ⟨Z, hZ⟩ := L15_z
  obtain rfl : k = t.length := by omega
  refine ⟨S, ?_, Grew.refl _ _⟩
  have rk := row_ld ho h.row (stepsT_done t) (j := 256) (by omega) kind_6
  rw [hZ, nilP, oB, faPg, oB, Nat.zero_add, h.l0, oB]
  dsimp only
  rw [ixP_st r _ _ (by omega), oB, faPg, oB, rk, oB]
  dsimp only
  rw [binV_ii, intsV_neq, show (!decide ((6 : Int) = 6)) = false from rfl, oB, ifK_bool, cond_false]
 | d + 1, k, a, f + 1, S, h, hk, ha, hf => by
  have ho := h.on
  obtain ⟨Z, hZ⟩ := L15_z
  have hlt : k < t.length := by omega
  have hu := stepsT_take hlt
  have rk := row_ld ho h.row hu (j := 256) (by omega) (t[k].ok).kind
  obtain ⟨a1, a2, a3⟩ := ag_new ho 50 258 Z
  have on1 : (nwP 50 258 Z S).2.on = false := nw_on ho _
  obtain ⟨S2, b1, b2, b3, b4⟩ := a1.stA on1 big258 t[k].tr
  have on2 := b3.on.trans on1
  have g2 : Grew (fun _ => False) S S2 := a2.own (Nat.le_refl _) b3
  obtain ⟨U, c1, c2⟩ := L15_spec self N nk ek v5 v7 v9 ht d (k + 1) (a + 1) f S2 (h.grew (fun h => h) (fun h => h) g2) (by omega) (by omega) (by omega)
  refine ⟨U, ?_, g2.trans c2⟩
  rw [hZ, nilP, oB, faPg, oB, Nat.zero_add, h.l0, oB]
  dsimp only
  rw [ixP_st r _ _ (by omega), oB, faPg, oB, rk, oB]
  dsimp only
  rw [binV_ii, intsV_neq, show (!decide ((0 : Int) = 6)) = true from rfl, oB, ifK_bool, cond_true, oB, faPg, oB, Nat.zero_add, h.l0, oB]
  dsimp only
  rw [ixP_st r _ _ (by omega), oB, row_ldA ho h.row hu, oB]
  dsimp only
  rw [oB]
  rw [nwP_fst, b1, oB]
  dsimp only
  rw [faPg, oB, Nat.zero_add, b2.ld1 on2 big258 (by decide) (t[k].ok).kind, oB]
  dsimp only
  rw [binV_ii, intsV_eql, show decide ((0 : Int) = 0) = true from rfl, oB, ifK_bool, cond_true, binV_ii, intsV_add, wrap_succ (by omega), oB, binV_ii, intsV_add, wrap_succ (by omega), oB, c1]
theorem box_ag2 (ho : S.on = false) (tr : Tr V) : ∃ T, boxK 30 (.agg 2 tr) S = some (.ptr S.next 0, T) ∧ AgAt T S.next 30 2 tr ∧ Grew (fun _ => False) S T ∧ T.next = S.next + 1 := by
 refine ⟨newCells S 30 2 [tr], rfl, ⟨Tr.ofListFrom .nil [tr] 0, ?_, by rw [Tr.get_ofList]; rfl⟩, grew_nw ho _ _, rfl⟩
 unfold newCells
 rw [nw_get, if_pos rfl]; rfl
theorem reach_run {K : FuncId → Option KF} (h22 : K 22 = none) (h29 : K 29 = none) (m : Nat) {s0 s1 : Nat} (hT : T.length ≤ 100) (ht : t.length ≤ 100) (hle : s0 ≤ s1) (hs : s1 ≤ T.length) (h : Rx S b r t) :
 ∃ U v, (ev E0 K (m + 2)).f 22 [.ptr b 0, sv T, .agg 2 (tr2 s0 s1)] S = some (.ret v, U) ∧ Grew (fun z => S.next ≤ z) S U := by
 have ho := h.on
 have hb := h.hb
 have hr := h.hr
 obtain ⟨S1, a1, a2, a3, a4⟩ := box_one ho 22 (v := .ptr b 0) ⟨rfl, rfl, rfl, rfl⟩
 have on1 := a3.on.trans ho
 obtain ⟨S2, b1, b2, b3, b4⟩ := box_one on1 9 (oneV_sv T)
 have on2 := b3.on.trans on1
 obtain ⟨S3, c1, c2, c3, c4⟩ := box_ag2 on2 (tr2 s0 s1)
 have on3 := c3.on.trans on2
 have q1 := c2.ld1 on3 big2 (i := 1) (v := .int .i64 (s1 : Int)) (by decide) rfl
 have q0 := c2.ld1 on3 big2 (i := 0) (v := .int .i64 (s0 : Int)) (by decide) rfl
 obtain ⟨S4, d1, d2, d3, d4⟩ := make63 on3 (s1 - s0 + 1) (by omega)
 have on4 := d3.on.trans on3
 obtain ⟨e1, e2, e3⟩ := ag_new on4 63 1 (one .nilslice)
 have on5 : (nwP 63 1 (one .nilslice) S4).2.on = false := nw_on on4 _
 obtain ⟨S6, f1, f2, f3, f4⟩ := e1.st_one on5 (.slice S3.next 0 (s1 - s0 + 1) (s1 - s0 + 1)) rfl rfl rfl
 have on6 := f3.on.trans on5
 have g46 : Grew (fun _ => False) S4 S6 := e2.own (Nat.le_refl _) f3
 have c6 := (c2.grew (by omega) (fun h => h) d3).grew (by omega) (fun h => h) g46
 have q16 := c6.ld1 on6 big2 (i := 1) (v := .int .i64 (s1 : Int)) (by decide) rfl
 obtain ⟨k1, k2, k3⟩ := ag_new on6 3 1 (one (.int .i64 0))
 have on7 : (nwP 3 1 (one (.int .i64 0)) S6).2.on = false := nw_on on6 _
 obtain ⟨S8, l1, l2, l3, l4⟩ := k1.st_one on7 (.int .i64 (s1 : Int)) rfl rfl rfl
 have on8 := l3.on.trans on7
 have g68 : Grew (fun _ => False) S6 S8 := k2.own (Nat.le_refl _) l3
 have n8 : S8.next = S6.next + 1 := by omega
 have g48 := g46.trans g68
 have g38 := d3.trans g48
 have g28 := c3.trans g38
 have g18 := b3.trans g28
 have g08 := a3.trans g18
 have F : ¬ False := fun h => h
 have hR : Rch S8 b r S6.next S.next S1.next S2.next S4.next S3.next t T s0 s1 (List.replicate (s1 - s0 + 1) V.nilslice) :=
  ⟨h.grew F F g08, by omega, by omega, by omega, by omega, by omega, by omega, by omega, by omega, hle, hs, ht, hT, by simp, a2.grew (by omega) F g18, b2.grew (by omega) F g28, c2.grew (by omega) F g38, f2.grew (by omega) F g68, d2.grew (by omega) F g48⟩
 obtain ⟨U, m1, m2, m3⟩ := L20r_spec h29 m rounds (by unfold rounds; omega) (R22_13 (ev E0 K (m + 1)) rounds (finN E0 (ev E0 K (m + 1)) Try.f22) noEx) (exB 0 (R22_13 (ev E0 K (m + 1)) rounds (finN E0 (ev E0 K (m + 1)) Try.f22) noEx) noEx) (s1 - s0 + 1) rounds S6.next (List.replicate (s1 - s0 + 1) V.nilslice) S8 hR (by rw [show (s0 : Int) + ((s1 - s0 + 1 : Nat) : Int) - 1 = (s1 : Int) by omega]; exact l2) (Nat.le_refl _) (by omega) (fun i hi1 hi2 => by rw [List.length_replicate] at hi2; omega) (Nat.le_refl _) (by unfold rounds; omega)
 have gU : Grew (fun z => S.next ≤ z) S U := (g08.mono fun _ _ h => h.elim).trans (m3.mono fun z _ hz => by omega)
 have onU := gU.on.trans ho
 refine ⟨U, .slice S3.next 0 (s1 - s0 + 1) (s1 - s0 + 1), ev_read (c := C22) (d := B22) (by kernel_rfl) (by kernel_rfl) (annot_isOf C22 _ (by kernel_rfl)) h22 (?_ : F22 (ev E0 K (m + 1)) rounds (.ptr b 0) (sv T) (.agg 2 (tr2 s0 s1)) S = _), gU⟩
 rw [F22_eq, a1, oB]
 dsimp only
 rw [b1, oB]
 dsimp only
 rw [c1, oB]
 dsimp only
 rw [show ∀ p, ixA 2 1 false 1 (.ptr p 0) (.int .i64 1) = some (.ptr p 1) from fun _ => rfl, oB, q1, oB]
 dsimp only
 rw [show ∀ p, ixA 2 1 false 1 (.ptr p 0) (.int .i64 0) = some (.ptr p 0) from fun _ => rfl, oB, q0, oB]
 dsimp only
 rw [binV_ii, intsV_sub, wrap_i64 (by omega) (by omega), oB, binV_ii, intsV_add, wrap_i64 (by omega) (by omega), show (s1 : Int) - (s0 : Int) + 1 = ((s1 - s0 + 1 : Nat) : Int) by omega, oB, d1, oB, oB]
 dsimp only
 rw [nwP_fst, f1, oB]
 dsimp only
 rw [oB, q16, oB, oB]
 dsimp only
 rw [nwP_fst, l1, oB]
 dsimp only
 rw [m1, exB_same, R22_13_eq, m2.ld1 onU big1 (i := 0) (v := .slice S3.next 0 (s1 - s0 + 1) (s1 - s0 + 1)) (by decide) rfl, oB]
end
end Go.Proofs.Ytachpdpmoihjmaa.W
