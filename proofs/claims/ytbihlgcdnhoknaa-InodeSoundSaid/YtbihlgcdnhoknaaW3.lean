/-
  WHAT THE FUNCTIONS COME TO: each is read by the evaluator, printed, and told as a function of data, part 3 of 11 (no condition).
-/
import Derived.Test.YtbihlgcdnhoknaaW2
import Derived.Test.YtbihlgcdnhoknaaShelf
import Derived.OpenShut
import Derived.ProofKit
import Derived.WalkKit
namespace Go.Proofs.Ytbihlgcdnhoknaa.W
open Go.Proofs.Ytbihlgcdnhoknaa.Ev
theorem und9 : und E0 9 = some .string := by kernel_rfl
theorem und21 : und E0 21 = some (.int .i32) := by kernel_rfl
section
variable {s : St}
theorem nextK_at (ho : s.on = false) {b l n pos : Nat} (h : s.heap.get b = some (.siter l n pos)) (hlt : pos < l) : nextK (.ptr b 0) true s = some (.tuple [.bool true, .int .i64 (pos : Int), .int .i32 ((decP l n pos).1 : Int)], s.put b (.siter l n (pos + (decP l n pos).2))) := by
 unfold nextK qhn
 simp only [cond_true, show Nat.beq 0 0 = true from rfl, h, oB, qb3 ho, blt_true.2 hlt]
 unfold setO
 rw [qb3 ho]; rfl
theorem nextK_end (ho : s.on = false) {b l n pos : Nat} (h : s.heap.get b = some (.siter l n pos)) (hge : l ≤ pos) : nextK (.ptr b 0) true s = some (.tuple [.bool false], s) := by
 unfold nextK qhn
 have hb : Nat.blt pos l = false := by
  cases hc : Nat.blt pos l with
  | false => rfl
  | true => rw [blt_true] at hc; omega
 simp only [cond_true, show Nat.beq 0 0 = true from rfl, h, oB, qb3 ho, hb, cond_false]
theorem qou (l : List UInt8) : qgi E0 9 (sv l) s = some (.ptr s.next 0, nw s (.siter l.length (qax l) 0)) := by
 unfold qgi
 rw [und9]; rfl
theorem put_on {b : Nat} {o : O} (ho : s.on = false) : (s.put b o).on = false := ho
end
theorem dec_bad0 : decP 2 (qax bad2) 0 = (47, 1) := by decide +kernel
theorem dec_bad1 : decP 2 (qax bad2) 1 = (0, 1) := by decide +kernel
theorem L78_bad (self : EV) (N : Nat) (nk : Ac → St → Rs) (ek : Nat → Ac → St → Rs) (n : Nat) (b : Nat) (S : St) (ho : S.on = false) (h : S.heap.get b = some (.siter 2 (qax bad2) 0)) (hb : b < S.next) :
 ∃ S', L82_20 self N nk ek (n + 3) (.ptr b 0) S = ek 9 (fr 187 []) S' ∧ Grew (fun x => x = b) S S' := by
 have g0 : (S.put b (.siter 2 (qax bad2) (0 + (decP 2 (qax bad2) 0).2))).heap.get b = some (.siter 2 (qax bad2) 1) := by rw [qbr, if_pos rfl, dec_bad0]; rfl
 have g1 : ((S.put b (.siter 2 (qax bad2) (0 + (decP 2 (qax bad2) 0).2))).put b (.siter 2 (qax bad2) (1 + (decP 2 (qax bad2) 1).2))).heap.get b = some (.siter 2 (qax bad2) 2) := by rw [qbr, if_pos rfl, dec_bad1]; rfl
 refine ⟨_, ?_, (qb6 (s := S) b (.siter 2 (qax bad2) (0 + (decP 2 (qax bad2) 0).2))).trans (qb6 b (.siter 2 (qax bad2) (1 + (decP 2 (qax bad2) 1).2)))⟩
 rw [qn7, nextK_at ho h (by omega), dec_bad0]
 simp only [oB, qa6, List.getElem?_cons_zero, List.getElem?_cons_succ, ifK_bool, cond_true, binV_ii]
 rw [intsV_eql, show decide (((47 : Nat) : Int) = 65533) = false by decide]
 simp only [oB, ifK_bool, cond_false]
 rw [dec_bad0] at g0 g1
 rw [qn7, nextK_at (put_on ho) g0 (by omega), dec_bad1]
 simp only [oB, qa6, List.getElem?_cons_zero, List.getElem?_cons_succ, ifK_bool, cond_true, binV_ii]
 rw [intsV_eql, show decide (((0 : Nat) : Int) = 65533) = false by decide]
 simp only [oB, ifK_bool, cond_false]
 rw [dec_bad1] at g1
 rw [qn7, nextK_end (put_on (put_on ho)) g1 (by omega)]
 simp only [oB, qa6, List.getElem?_cons_zero, ifK_bool, cond_false]
theorem L78_enc (self : EV) (N : Nat) (nk : Ac → St → Rs) (ek : Nat → Ac → St → Rs) (n : Nat) (a : List UInt8) (l : UInt8) (h1 : 1 ≤ a.length) (h3 : a.length ≤ 3) (hl : 128 ≤ l.toNat) (S : St) (ho : S.on = false)
 (h63 : ∀ (s : List UInt8) (c : UInt8) S, self.f 24 [sv s, .int .u8 (c.toNat : Int)] S = some (.ret (.int .i64 (ixB s c)), S)) :
 L82_48 self N nk ek (n + 1) (sv bad2) (sv (a ++ [l])) (.int .i64 (a.length : Int)) (.int .i64 (a.length : Int)) S = some (.ret (.int .i64 (-1)), S) ∨ L82_48 self N nk ek (n + 1) (sv bad2) (sv (a ++ [l])) (.int .i64 (a.length : Int)) (.int .i64 (a.length : Int)) S = ek 1 (fr 187 []) S := by
 rw [L82_48_eq]
 simp only [lnStr_sv, oB, binV_ii, intsV_lss, show bad2.length = 2 from rfl]
 by_cases h2 : a.length = 1
 · left
   have hlast : (a ++ [l])[1]'(by simp; omega) = l := by rw [List.getElem_append_right (by omega)]; simp [h2]
   rw [h2]
   simp only [show decide (((1 : Nat) : Int) < ((2 : Nat) : Int)) = true by decide, ifK_bool, cond_true, ixS_sv bad2 .i64 1 (by decide), ixS_sv (a ++ [l]) .i64 1 (by simp; omega), hlast, oB, binV_ii, intsV_neq, qcq ho]
   have hne : decide (((bad2[1]'(by decide)).toNat : Int) = (l.toNat : Int)) = false := by
    rw [decide_eq_false_iff_not]
    show ¬ ((0 : Nat) : Int) = (l.toNat : Int)
    omega
   rw [hne]
   simp only [Bool.not_false, cond_true, intsV_add, oB]
   rw [show IntKind.i64.wrap (((1 : Nat) : Int) + 1) = ((2 : Nat) : Int) by decide, slice_sv und9 bad2 (bounds_lo .i64 (show 2 ≤ bad2.length by decide)) (Nat.le_refl _)]
   simp only [oB, ixS_sv (a ++ [l]) .i64 1 (by simp; omega), hlast]
   rw [show List.take (bad2.length - 2) (List.drop 2 bad2) = [] from rfl, h63 [] l, show ixB [] l = -1 from rfl]
   simp only [qak, binV_ii, intsV_lss, show decide ((-1 : Int) < 0) = true by decide, oB, ifK_bool, cond_true, qcq ho, qe4]
 · right
   rw [show decide ((a.length : Int) < ((2 : Nat) : Int)) = false by simp; omega]
   rfl
theorem convertV_rune {E : Env} {src dst : TypeId} {k k' : IntKind} (hs : und E src = some (.int k)) (hd : und E dst = some .string) (n : Int) (S : St) : qaz E src dst (.int k' n) S = some (sv (Utf8.encode n).data.toList, S) := by
 unfold qaz sv
 rw [hs, hd]
 rfl
structure RuneIn where
 r : Nat
 hr : r ≤ 1114111
noncomputable def kfIndexRune : KF := qfd (fun p : RuneIn => [sv bad2, .int .i32 (p.r : Int)]) (fun p => En.ret (.int .i64 (ixR p.r)))
theorem qo5 (r : Nat) (hr : r ≤ 1114111) (S : St) : kfIndexRune.run [sv bad2, .int .i32 (r : Int)] S = some (.ret (.int .i64 (ixR r)), S) :=
 qio (enc := fun p : RuneIn => [sv bad2, .int .i32 (p.r : Int)]) (out := fun p => En.ret (.int .i64 (ixR p.r))) (fun p q h => by
  simp only [List.cons.injEq, V.int.injEq, true_and, and_true] at h
  rw [show p.r = q.r by omega]) ⟨r, hr⟩ S
theorem F78_far (self : EV) (m : Nat) (x : V) (b1 v : Bool) (a : List UInt8) (l : UInt8) (h1 : 1 ≤ a.length) (h3 : a.length ≤ 3) (hl : 128 ≤ l.toNat) (S : St) (ho : S.on = false)
 (h63 : ∀ (s : List UInt8) (c : UInt8) S, self.f 24 [sv s, .int .u8 (c.toNat : Int)] S = some (.ret (.int .i64 (ixB s c)), S))
 (e0 : qab E0 .leq 21 true false (.int .i32 0) x = some (.bool true)) (e1 : qab E0 .lss 21 false true x (.int .i32 128) = some (.bool false)) (e2 : qab E0 .eql 21 false true x (.int .i32 65533) = some (.bool b1))
 (h82 : self.f 97 [x] S = some (.ret (.bool v), S)) (hcv : qaz E0 21 9 x S = some (sv (a ++ [l]), S)) :
 ∃ S', F82 self (m + 3) (sv bad2) x S = some (.ret (.int .i64 (-1)), S') ∧ Grew (fun _ => False) S S' := by
 rw [F82_eq, e0]
 simp only [oB, qmu, cond_true]
 rw [e1]
 simp only [oB, qbg, cond_true, ifK_bool, cond_false]
 rw [e2]
 cases b1 with
 | true =>
  simp only [oB, ifK_bool, cond_true, qou]
  have hg := qce ho (fun _ => False) (.siter bad2.length (qax bad2) 0)
  obtain ⟨S', h1, h2⟩ := L78_bad self (m + 3) (R82_16 self (m + 3) (qdw E0 self Try.f82) (exB 0 (qdw E0 self Try.f82) qda)) (exB 9 (R82_16 self (m + 3) (qdw E0 self Try.f82) (exB 0 (qdw E0 self Try.f82) qda)) (exB 0 (qdw E0 self Try.f82) qda)) m S.next (nw S (.siter bad2.length (qax bad2) 0)) (qoe ho _) (by rw [qf8, if_pos rfl]; rfl) (by show S.next < S.next + 1; omega)
  refine ⟨S', ?_, hg.own (Nat.le_refl _) h2⟩
  rw [h1, exB_same, R82_16_eq]
 | false =>
  simp only [oB, ifK_bool, cond_false]
  rw [h82]
  simp only [callP_ret, unV, oB, ifK_bool]
  cases v with
  | false => exact ⟨S, rfl, Grew.refl _ _⟩
  | true =>
   refine ⟨S, ?_, Grew.refl _ _⟩
   rw [Bool.not_true, cond_false, hcv, oB, lnStr_sv, oB, binV_ii, intsV_sub]
   rw [show (((a ++ [l]).length : Nat) : Int) - 1 = (a.length : Int) by simp, qes (by omega) (by omega), oB]
   have hL := L78_enc self (m + 3) (R82_46 self (m + 3) (qdw E0 self Try.f82) (exB 0 (qdw E0 self Try.f82) qda)) (exB 1 (R82_46 self (m + 3) (qdw E0 self Try.f82) (exB 0 (qdw E0 self Try.f82) qda)) (exB 0 (qdw E0 self Try.f82) qda)) (m + 2) a l h1 h3 hl S ho h63
   rcases hL with hL | hL
   · exact hL
   · exact hL.trans (by rw [exB_same, R82_46_eq])
theorem F78_spec (self : EV) (m r : Nat) (S : St) (ho : S.on = false)
 (h63 : ∀ (s : List UInt8) (c : UInt8) S, self.f 24 [sv s, .int .u8 (c.toNat : Int)] S = some (.ret (.int .i64 (ixB s c)), S))
 (h82 : ∀ S, ∃ v : Bool, self.f 97 [.int .i32 (r : Int)] S = some (.ret (.bool v), S)) :
 ∃ S', F82 self (m + 3) (sv bad2) (.int .i32 (r : Int)) S = some (.ret (.int .i64 (ixR r)), S') ∧ Grew (fun _ => False) S S' := by
 have e0 : qab E0 .leq 21 true false (.int .i32 0) (.int .i32 (r : Int)) = some (.bool true) := by rw [binV_ii, intsV_leq, show decide ((0 : Int) ≤ (r : Int)) = true by simp]
 by_cases h128 : r < 128
 · have hc : (UInt8.ofNat r).toNat = r := qp5 (by omega)
   have h := h63 bad2 (UInt8.ofNat r) S
   rw [ixB_bad2, hc] at h
   refine ⟨S, ?_, Grew.refl _ _⟩
   rw [F82_eq, e0]
   simp only [oB, qmu, cond_true, binV_ii, intsV_lss]
   rw [show decide ((r : Int) < 128) = true by simp; omega]
   simp only [oB, qbg, cond_true, ifK_bool, cvI_int]
   rw [wrap_u8 (by omega) (by omega), h]
   rfl
 · have e1 : qab E0 .lss 21 false true (.int .i32 (r : Int)) (.int .i32 128) = some (.bool false) := by rw [binV_ii, intsV_lss, show decide ((r : Int) < 128) = false by simp; omega]
   have e2 : qab E0 .eql 21 false true (.int .i32 (r : Int)) (.int .i32 65533) = some (.bool (decide ((r : Int) = 65533))) := by rw [binV_ii, intsV_eql]
   obtain ⟨v, hv⟩ := h82 S
   obtain ⟨a, l, ha, h1, h3, hl⟩ := enc_last r (by omega)
   have hcv : qaz E0 21 9 (.int .i32 (r : Int)) S = some (sv (a ++ [l]), S) := by
    rw [← ha]
    exact convertV_rune und21 und9 _ S
   have hx : ixR r = -1 := by unfold ixR; rw [if_neg (by omega), if_neg (by omega)]
   rw [hx]
   exact F78_far self m _ _ v a l h1 h3 hl S ho h63 e0 e1 e2 hv hcv
theorem kn78 {K : FuncId → Option KF} (hK : KnOk Try.prog E0 K) (h63 : K 24 = some kfIndexByte) (h82 : K 97 = none) : KnWell Try.prog E0 82 kfIndexRune :=
 qjs (fn := Try.f82) (c := C82) (d := B82) E0_ok hK (by kernel_rfl) (by kernel_rfl) (qa5 C82 _ (by kernel_rfl)) fun p S ho => by
  obtain ⟨S', h1, h2⟩ := F78_spec (ev E0 K 1) (qa4 - 3) p.r S ho (fun s c S => by rw [qgp h63, qhr]) (fun S => by
   obtain ⟨v, hv⟩ := F82_spec (ev E0 K 0) qa4 p.r S
   exact ⟨v, qao (c := C97) (d := B97) (by kernel_rfl) (by kernel_rfl) (qa5 C97 _ (by kernel_rfl)) h82 hv⟩)
  rw [show qa4 - 3 + 3 = qa4 by unfold qa4; omega] at h1
  exact ⟨1, .ret (.int .i64 (ixR p.r)), S', h1, h2, Fz.same (.int _ _)⟩
theorem byteP_at {l : List UInt8} {i : Nat} (h : i < l.length) : qct (qax l) i = l[i].toNat := qoo i l l[i] (List.getElem?_eq_getElem h)
theorem decP_ascii {l : List UInt8} {i : Nat} (h : i < l.length) (hc : l[i].toNat < 128) : decP l.length (qax l) i = (l[i].toNat, 1) := by
 unfold decP
 rw [byteP_at h, blt_true.2 hc]; rfl
theorem qia {l : List UInt8} {j : Nat} (h : qis l.length (qax l) j = true) : ∃ hj : j < l.length, 128 ≤ l[j].toNat := by
 unfold qis at h
 rw [Bool.and_eq_true, blt_true, Go.Proofs.Ytbihlgcdnhoknaa.Ev.beq_true] at h
 obtain ⟨h1, h2⟩ := h
 rw [byteP_at h1] at h2
 exact ⟨h1, by omega⟩
structure Far (l : List UInt8) (i : Nat) (p : Nat × Nat) : Prop where
 lo : 128 ≤ p.1
 hi : p.1 ≤ 1114111
 pos : 1 ≤ p.2
 fit : i + p.2 ≤ l.length
 all : ∀ j, j < p.2 → ∃ hj : i + j < l.length, 128 ≤ l[i + j].toNat
theorem far_one {l : List UInt8} {i : Nat} (h : i < l.length) (hc : 128 ≤ l[i].toNat) {r : Nat} (h1 : 128 ≤ r) (h2 : r ≤ 1114111) : Far l i (r, 1) :=
 ⟨h1, h2, Nat.le_refl _, by show i + 1 ≤ _; omega, fun j hj => by
  have hj' : j < 1 := hj
  obtain rfl : j = 0 := by omega
  exact ⟨h, hc⟩⟩
theorem far_if {l : List UInt8} {i : Nat} (h : i < l.length) (hc : 128 ≤ l[i].toNat) {w X : Nat} (b : Bool) (hb : b = true → 128 ≤ X ∧ X ≤ 1114111) (h1 : 1 ≤ w) (hfit : i + w ≤ l.length)
 (hall : ∀ j, j < w → ∃ hj : i + j < l.length, 128 ≤ l[i + j].toNat) : Far l i (bif b then (X, w) else (65533, 1)) := by
 cases b with
 | true => exact ⟨(hb rfl).1, (hb rfl).2, h1, hfit, hall⟩
 | false => exact far_one h hc (by omega) (by omega)
theorem validP_le {X : Nat} (h : validP X = true) : X ≤ 1114111 := by
 unfold validP at h
 rw [Bool.or_eq_true, blt_true, Bool.and_eq_true, ble_true, ble_true] at h
 omega
theorem decP_far {l : List UInt8} {i : Nat} (h : i < l.length) (hc : 128 ≤ l[i].toNat) : Far l i (decP l.length (qax l) i) := by
 unfold decP
 rw [byteP_at h]
 have hlt := l[i].toNat_lt
 have h0 : Nat.blt l[i].toNat 128 = false := by
  cases hb : Nat.blt l[i].toNat 128 with
  | false => rfl
  | true => rw [blt_true] at hb; omega
 rw [h0, cond_false]
 cases h2 : (Nat.beq (l[i].toNat / 32) 6 && qis l.length (qax l) (i + 1)) with
 | true =>
  rw [Bool.and_eq_true, Go.Proofs.Ytbihlgcdnhoknaa.Ev.beq_true] at h2
  obtain ⟨c1, c2⟩ := qia h2.2
  rw [cond_true]
  refine far_if h hc _ (fun hb => ?_) (by omega) (by omega) fun j hj => ?_
  · rw [ble_true] at hb; omega
  · match j, hj with
    | 0, _ => exact ⟨h, hc⟩
    | 1, _ => exact ⟨c1, c2⟩
 | false =>
 rw [cond_false]
 cases h3 : (Nat.beq (l[i].toNat / 16) 14 && qis l.length (qax l) (i + 1) && qis l.length (qax l) (i + 2)) with
 | true =>
  rw [Bool.and_eq_true, Bool.and_eq_true] at h3
  obtain ⟨c1, c2⟩ := qia h3.1.2
  obtain ⟨d1, d2⟩ := qia h3.2
  rw [cond_true]
  refine far_if h hc _ (fun hb => ?_) (by omega) (by omega) fun j hj => ?_
  · rw [Bool.and_eq_true, ble_true] at hb
    exact ⟨Nat.le_trans (by omega) hb.1, validP_le hb.2⟩
  · match j, hj with
    | 0, _ => exact ⟨h, hc⟩
    | 1, _ => exact ⟨c1, c2⟩
    | 2, _ => exact ⟨d1, d2⟩
 | false =>
 rw [cond_false]
 cases h4 : (Nat.beq (l[i].toNat / 8) 30 && qis l.length (qax l) (i + 1) && qis l.length (qax l) (i + 2) && qis l.length (qax l) (i + 3)) with
 | true =>
  rw [Bool.and_eq_true, Bool.and_eq_true, Bool.and_eq_true] at h4
  obtain ⟨c1, c2⟩ := qia h4.1.1.2
  obtain ⟨d1, d2⟩ := qia h4.1.2
  obtain ⟨e1, e2⟩ := qia h4.2
  rw [cond_true]
  refine far_if h hc _ (fun hb => ?_) (by omega) (by omega) fun j hj => ?_
  · rw [Bool.and_eq_true, ble_true] at hb
    exact ⟨Nat.le_trans (by omega) hb.1, validP_le hb.2⟩
  · match j, hj with
    | 0, _ => exact ⟨h, hc⟩
    | 1, _ => exact ⟨c1, c2⟩
    | 2, _ => exact ⟨d1, d2⟩
    | 3, _ => exact ⟨e1, e2⟩
 | false =>
  rw [cond_false]
  exact far_one h hc (by omega) (by omega)
def qft (s : List UInt8) (pos : Nat) : Option Nat := ((s.drop pos).findIdx? qbq).map fun j => pos + j
theorem anyAt_end {s : List UInt8} {pos : Nat} (h : s.length ≤ pos) : qft s pos = none := by unfold qft; rw [List.drop_eq_nil_of_le h]; rfl
theorem anyAt_hit {s : List UInt8} {pos : Nat} (h : pos < s.length) (hb : qbq s[pos] = true) : qft s pos = some pos := by
 unfold qft
 rw [List.drop_eq_getElem_cons h, List.findIdx?_cons, if_pos hb]; rfl
theorem qnb {s : List UInt8} {pos : Nat} (h : pos < s.length) (hb : qbq s[pos] = false) : qft s pos = qft s (pos + 1) := by
 unfold qft
 rw [List.drop_eq_getElem_cons h, List.findIdx?_cons, if_neg (by rw [hb]; simp), Option.map_map]
 congr 1
 funext j
 show pos + (j + 1) = pos + 1 + j
 omega
theorem anyAt_skip {s : List UInt8} : ∀ (w pos : Nat), (∀ j, j < w → ∃ hj : pos + j < s.length, qbq s[pos + j] = false) → qft s pos = qft s (pos + w)
 | 0, pos, _ => rfl
 | w + 1, pos, h => by
  obtain ⟨h0, hb⟩ := h 0 (by omega)
  rw [qnb (pos := pos) h0 hb, anyAt_skip w (pos + 1) fun j hj => by
   obtain ⟨h1, h2⟩ := h (j + 1) (by omega)
   have e : pos + 1 + j = pos + (j + 1) := by omega
   exact ⟨by omega, by simp only [e]; exact h2⟩]
  congr 1
  omega
theorem bad_iff (c : UInt8) : qbq c = decide (0 ≤ ixR c.toNat) := by
 unfold qbq ixR
 rw [u8_eq c 47, u8_eq c 0, show UInt8.toNat 47 = 47 from rfl, show UInt8.toNat 0 = 0 from rfl]
 by_cases h1 : c.toNat = 47
 · simp [h1]
 · by_cases h2 : c.toNat = 0
   · simp [h2]
   · simp only [h1, h2, if_false]
     rw [Bool.eq_iff_iff]
     simp
     omega
theorem far_ok {c : UInt8} (h : 128 ≤ c.toNat) : qbq c = false := by
 rw [bad_iff]
 unfold ixR
 rw [if_neg (by omega), if_neg (by omega)]; rfl
theorem ixR_far {r : Nat} (h : 128 ≤ r) : ixR r = -1 := by unfold ixR; rw [if_neg (by omega), if_neg (by omega)]
def outAny (L : Rs) (E : St → Rs) (o : Option Nat) (S' : St) : Prop :=
 match o with
 | some j => L = some (.ret (.int .i64 (j : Int)), S')
 | none => L = E S'
theorem L77_spec (self : EV) (N : Nat) (nk : Ac → St → Rs) (ek : Nat → Ac → St → Rs) (s : List UInt8) (b : Nat)
 (h78 : ∀ (r : Nat) S, r ≤ 1114111 → self.f 82 [sv bad2, .int .i32 (r : Int)] S = some (.ret (.int .i64 (ixR r)), S)) :
 ∀ (k pos n : Nat) (S : St), s.length ≤ pos + k → k < n → pos ≤ s.length → S.on = false → S.heap.get b = some (.siter s.length (qax s) pos) →
 ∃ S', outAny (L78_27 self N nk ek n (sv bad2) (.ptr b 0) S) (fun S' => ek 2 (fr 55 []) S') (qft s pos) S' ∧ Grew (fun x => x = b) S S'
 | k, pos, 0, S, hk, hn, hp, ho, hb => by omega
 | k, pos, n + 1, S, hk, hn, hp, ho, hb => by
  by_cases hend : pos = s.length
  · subst hend
    refine ⟨S, ?_, Grew.refl _ _⟩
    rw [anyAt_end (Nat.le_refl _), L78_27_eq, nextK_end ho hb (Nat.le_refl _)]
    rfl
  · have hlt : pos < s.length := by omega
    obtain ⟨k, rfl⟩ : ∃ k', k = k' + 1 := ⟨k - 1, by omega⟩
    have hstep : ∀ r w : Nat, decP s.length (qax s) pos = (r, w) → r ≤ 1114111 → 1 ≤ w → pos + w ≤ s.length →
     (ixR r = -1 → qft s pos = qft s (pos + w)) → (0 ≤ ixR r → qft s pos = some pos) → (ixR r = -1 ∨ 0 ≤ ixR r) →
     ∃ S', outAny (L78_27 self N nk ek (n + 1) (sv bad2) (.ptr b 0) S) (fun S' => ek 2 (fr 55 []) S') (qft s pos) S' ∧ Grew (fun x => x = b) S S' := by
     intro r w hd hr hw hfit hno hyes hor
     have hgr := qb6 (s := S) b (.siter s.length (qax s) (pos + w))
     rw [L78_27_eq, nextK_at ho hb hlt, hd]
     rw [oB]
     simp only [qa6, List.getElem?_cons_zero, List.getElem?_cons_succ]
     rw [oB, ifK_bool, cond_true, oB, oB, h78 r _ hr, callP_ret, binV_ii, intsV_geq, oB, ifK_bool]
     rcases hor with hneg | hge
     · rw [hneg, show decide ((0 : Int) ≤ -1) = false by decide, cond_false, hno hneg]
       obtain ⟨S', h1, h2⟩ := L77_spec self N nk ek s b h78 k (pos + w) n (S.put b (.siter s.length (qax s) (pos + w))) (by omega) (by omega) hfit ho (by rw [qbr, if_pos rfl])
       exact ⟨S', h1, hgr.trans h2⟩
     · rw [decide_eq_true hge, cond_true, hyes hge]
       exact ⟨_, rfl, hgr⟩
    by_cases hc : s[pos].toNat < 128
    · refine hstep _ 1 (decP_ascii hlt hc) (by omega) (by omega) (by omega) (fun h => qnb hlt ?_) (fun h => anyAt_hit hlt ?_) ?_
      · rw [bad_iff, h]; rfl
      · rw [bad_iff]; exact decide_eq_true h
      · unfold ixR; split
        · right; omega
        · split
          · right; omega
          · left; rfl
    · have hf := decP_far hlt (by omega)
      have hx := ixR_far hf.lo
      exact hstep (decP s.length (qax s) pos).1 (decP s.length (qax s) pos).2 rfl hf.hi hf.pos hf.fit (fun _ => anyAt_skip _ _ fun j hj => by
       obtain ⟨h1, h2⟩ := hf.all j hj
       exact ⟨h1, far_ok h2⟩) (fun h => absurd h (by rw [hx]; decide)) (.inl hx)
theorem ixA_ptr (len z : Nat) (g : Bool) (k : Nat) (ik : IntKind) {b off n : Nat} (h : n < len) : ixA len z g k (.ptr b off) (.int ik (n : Int)) = some (.ptr b (off + n * z)) := by
 show (bif Nat.blt n len then some (V.ptr b (off + n * z)) else none) = _
 rw [blt_true.2 h]; rfl
theorem big256 : 256 < big := by unfold big; decide
theorem F81_spec (self : EV) (N : Nat) {b e : Nat} {t : Tr V} (c : UInt8) (S : St) (ho : S.on = false) (h : AgAt S b e 256 t) {v : V} (ht : t.get c.toNat = some v) : F85 self N (.ptr b 0) (.int .u8 (c.toNat : Int)) S = some (.ret v, S) := by
 have hc := c.toNat_lt
 rw [F85_eq, show qa3 (.ptr b 0) = some (.ptr b 0) from rfl, oB, ixA_ptr 256 1 false 1 .u8 hc, oB, Nat.zero_add, Nat.mul_one, h.ld1 ho big256 hc ht]
 rfl
def IsSet (t : Tr V) : Prop := ∀ c : UInt8, t.get c.toNat = some (.bool (qbq c))
theorem F80_new (self : EV) (N : Nat) (x0 : V) (S : St) : F84 self N x0 S = (some (nwP 109 256 (Tr.ofListFrom .nil (List.replicate 256 (.bool false)) 0) S)).bind fun p0 =>
 L84_8 self N (R84_2 self N (qdw E0 self Try.f84) qda) (exB 0 (R84_2 self N (qdw E0 self Try.f84) qda) qda) N x0 p0.1 (.int .i64 0) p0.2 := by kernel_rfl
theorem isSet_made : IsSet (((Tr.ofListFrom .nil (List.replicate 256 (.bool false)) 0).set (.bool true) 47).set (.bool true) 0) := fun c => by
 have hc := c.toNat_lt
 rw [Tr.get_set, Tr.get_set, Tr.get_ofList]
 unfold qbq
 rw [u8_eq c 47, u8_eq c 0, show UInt8.toNat 47 = 47 from rfl, show UInt8.toNat 0 = 0 from rfl]
 by_cases h0 : c.toNat = 0
 · rw [if_pos h0, h0]; rfl
 · rw [if_neg h0]
   by_cases h1 : c.toNat = 47
   · rw [if_pos h1, h1]; rfl
   · rw [if_neg h1, List.getElem?_replicate, if_pos hc]
     have e1 : decide ((c.toNat : Int) = ((47 : Nat) : Int)) = false := by simp; omega
     have e2 : decide ((c.toNat : Int) = ((0 : Nat) : Int)) = false := by simp; omega
     rw [e1, e2]; rfl
theorem L80_step (self : EV) (N : Nat) (nk : Ac → St → Rs) (ek : Nat → Ac → St → Rs) (n i : Nat) (hi : i < 2) {b e : Nat} {t : Tr V} (S : St) (ho : S.on = false) (h : AgAt S b e 256 t) :
 ∃ S', L84_8 self N nk ek (n + 1) (sv bad2) (.ptr b 0) (.int .i64 (i : Int)) S = L84_8 self N nk ek n (sv bad2) (.ptr b 0) (.int .i64 ((i + 1 : Nat) : Int)) S' ∧ AgAt S' b e 256 (t.set (.bool true) (bad2[i]'hi).toNat) ∧ Grew (fun x => x = b) S S' := by
 obtain ⟨S', h1, h2, h3, _⟩ := h.st1 (i := (bad2[i]'hi).toNat) (v := .bool true) ho big256 (by omega) (bad2[i]'hi).toNat_lt rfl rfl rfl
 refine ⟨S', ?_, h2, h3⟩
 have hlt : decide (((bad2[i]'hi).toNat : Int) ≥ 128) = false := by
  match i, hi with
  | 0, _ => rfl
  | 1, _ => rfl
 rw [L84_8_eq, lnStr_sv, oB, binV_ii, intsV_lss, dec_lt (show i < bad2.length from hi), oB, ifK_bool, cond_true, ixS_sv bad2 .i64 i hi, oB, binV_ii, intsV_geq]
 rw [show decide ((128 : Int) ≤ ((bad2[i]'hi).toNat : Int)) = false from hlt, oB, ifK_bool, cond_false, ixA_ptr 256 1 false 1 .u8 (bad2[i]'hi).toNat_lt, oB, Nat.zero_add, Nat.mul_one, h1, oB, binV_ii, intsV_add, qpe (by omega), oB]
theorem AgAt.stSame {s : St} (ho : s.on = false) {b e z : Nat} {t : Tr V} (h : AgAt s b e z t) (hz : z < big) : ∃ w, stP z (.ptr b 0) (.agg z t) s = some (.tuple [], w) ∧ AgAt w b e z t ∧ Grew (fun x => x = b) s w := by
 obtain ⟨w, h1, h2, h3, _⟩ := h.stA ho hz t
 exact ⟨w, h1, h2, h3⟩
theorem F80_spec (self : EV) (m : Nat) (S : St) (ho : S.on = false) : ∃ t S', F84 self (m + 3) (sv bad2) S = some (.ret (.tuple [.agg 256 t, .bool true]), S') ∧ IsSet t ∧ Grew (fun _ => False) S S' := by
 obtain ⟨k1, k2, k3⟩ := ag_new ho 109 256 (Tr.ofListFrom .nil (List.replicate 256 (.bool false)) 0)
 have hset := isSet_made
 have hon : (nwP 109 256 (Tr.ofListFrom .nil (List.replicate 256 (.bool false)) 0) S).2.on = false := qoe ho _
 rw [F80_new, oB, qdc]
 generalize (nwP 109 256 (Tr.ofListFrom .nil (List.replicate 256 (.bool false)) 0) S).2 = S1 at *
 obtain ⟨S2, a1, a2, a3⟩ := L80_step self (m + 3) (R84_2 self (m + 3) (qdw E0 self Try.f84) qda) (exB 0 (R84_2 self (m + 3) (qdw E0 self Try.f84) qda) qda) (m + 2) 0 (by decide) S1 hon k1
 obtain ⟨S3, b1, b2, b3⟩ := L80_step self (m + 3) (R84_2 self (m + 3) (qdw E0 self Try.f84) qda) (exB 0 (R84_2 self (m + 3) (qdw E0 self Try.f84) qda) qda) (m + 1) 1 (by decide) S2 (a3.on.trans hon) a2
 have on3 := b3.on.trans (a3.on.trans hon)
 obtain ⟨S4, c1, c2, c3⟩ := b2.stSame on3 big256
 refine ⟨_, S4, ?_, hset, k2.own (Nat.le_refl _) (a3.trans (b3.trans c3))⟩
 rw [show (V.int .i64 0) = .int .i64 ((0 : Nat) : Int) from rfl, a1, b1, L84_8_eq, lnStr_sv, oB, binV_ii, intsV_lss, dec_ge (show bad2.length ≤ 1 + 1 by decide), oB, ifK_bool, cond_false, exB_same, R84_2_eq, b2.ldA on3 big256, oB]
 dsimp only
 rw [c1, oB]
 dsimp only
 rw [c2.ldrA (c3.on.trans on3) big256]
 rfl
theorem qn6 (self : EV) (N : Nat) (nk : Ac → St → Rs) (ek : Nat → Ac → St → Rs) (s : List UInt8) (hs : s.length < 9223372036854775808) (b : Nat) (S : St) (h81 : ∀ c : UInt8, self.f 85 [.ptr b 0, .int .u8 (c.toNat : Int)] S = some (.ret (.bool (qbq c)), S)) :
 ∀ (r : List UInt8) (i n : Nat), s.drop i = r → r.length < n → outAny (L78_55 self N nk ek n (sv s) (.ptr b 0) (.int .i64 (i : Int)) S) (fun S => ek 0 (fr 55 []) S) (qft s i) S
 | r, i, 0, _, hn => by omega
 | [], i, n + 1, hi, hn => by
  rw [anyAt_end (drop_end hi), L78_55_eq, lnStr_sv, oB, binV_ii, intsV_lss, dec_ge (drop_end hi)]
  rfl
 | c :: r, i, n + 1, hi, hn => by
  obtain ⟨hlt, hc, hr, hmem⟩ := drop_at hi
  rw [L78_55_eq, lnStr_sv, oB, binV_ii, intsV_lss, dec_lt hlt, oB, ifK_bool, cond_true, ixS_sv s .i64 i hlt, hc, oB, h81 c, callP_ret, ifK_bool]
  cases hb : qbq c with
  | true =>
   rw [anyAt_hit hlt (by rw [hc]; exact hb)]
   rfl
  | false =>
   rw [qnb hlt (by rw [hc]; exact hb), cond_false, binV_ii, intsV_add, qpe (by omega), oB]
   exact qn6 self N nk ek s hs b S h81 r (i + 1) n hr (by simp at hn; omega)
def outI (o : Option Nat) : Int := match o with | some j => (j : Int) | none => -1
theorem F77_short (self : EV) (m : Nat) (s : List UInt8) (hs : s.length < m) (S : St) (ho : S.on = false)
 (h78 : ∀ (r : Nat) S, r ≤ 1114111 → self.f 82 [sv bad2, .int .i32 (r : Int)] S = some (.ret (.int .i64 (ixR r)), S)) :
 ∃ S', qlu self m (qdw E0 self Try.f78) qda (fr 55 [(0, sv s), (1, sv bad2)]) S = some (.ret (.int .i64 (outI (qft s 0))), S') ∧ Grew (fun _ => False) S S' := by
 have hg := qce ho (fun _ => False) (.siter s.length (qax s) 0)
 obtain ⟨S', h1, h2⟩ := L77_spec self m (R78_23 self m (fun a s => qc5 [4] a fun a => qdw E0 self Try.f78 a s) qda) (exB 2 (R78_23 self m (fun a s => qc5 [4] a fun a => qdw E0 self Try.f78 a s) qda) qda) s S.next h78 s.length 0 m (nw S (.siter s.length (qax s) 0)) (by omega) hs (by omega) (qoe ho _) (by rw [qf8, if_pos rfl])
 refine ⟨S', ?_, hg.own (Nat.le_refl _) h2⟩
 rw [R78_22_eq, qou, oB]
 unfold outAny at h1
 unfold outI
 cases hx : qft s 0 with
 | some j => rw [hx] at h1; exact h1
 | none =>
  rw [hx] at h1
  exact h1.trans (by dsimp only; rw [exB_same, R78_23_eq])
theorem F77_new (self : EV) (N : Nat) (x0 x1 : V) (S : St) : F78 self N x0 x1 S =
(qab E0 .eql 9 false true x1 (sv [])).bind fun t2 =>
ifK t2 (
some (.ret (.int .i64 (-1)), S)) (
(qha x1 S).bind fun p5 =>
(qab E0 .eql 3 false true p5.1 (.int .i64 1)).bind fun t6 =>
ifK t6 (
(ixS x1 (.int .i64 0)).bind fun t8 =>
(cvI .i32 t8 p5.2).bind fun p9 =>
(qab E0 .geq 21 false true p9.1 (.int .i32 128)).bind fun t12 =>
ifK t12 (
qaj (self.f 82 [x0, (.int .i32 65533)] p9.2) fun t16 S16 =>
some (.ret t16, S16)) (
qaj (self.f 82 [x0, p9.1] p9.2) fun t20 S20 =>
some (.ret t20, S20))) (
(qha x0 p5.2).bind fun p41 =>
qaj (self.f 83 [p41.1] p41.2) fun t42 S42 =>
ifK t42 (
qaj (self.f 84 [x1] S42) fun t44 S44 =>
(qa6 t44 0).bind fun t46 =>
(qa6 t44 1).bind fun t47 =>
(some (nwP 109 256 (Tr.ofListFrom .nil (List.replicate 256 (V.bool false)) 0) S44)).bind fun p48 =>
(stP 256 p48.1 t46 p48.2).bind fun p49 =>
ifK t47 (
L78_55 self N (R78_52 self N (qlu self N (qdw E0 self Try.f78) qda) qda) (exB 0 (R78_52 self N (qlu self N (qdw E0 self Try.f78) qda) qda) qda) N x0 p48.1 (.int .i64 0) p49.2) (
qlu self N (qdw E0 self Try.f78) qda (fr 55 [(0, x0), (1, x1)]) p49.2)) (
qlu self N (qdw E0 self Try.f78) qda (fr 55 [(0, x0), (1, x1)]) S42))) := by kernel_rfl
theorem ag_lay {s : St} (ho : s.on = false) (e : Nat) (t0 u : Tr V) : ∃ w, stP 256 (.ptr s.next 0) (.agg 256 u) (nwP e 256 t0 s).2 = some (.tuple [], w) ∧ AgAt w s.next e 256 u ∧ Grew (fun _ => False) s w := by
 obtain ⟨k1, k2, _⟩ := ag_new ho e 256 t0
 obtain ⟨w, h1, h2, h3, _⟩ := k1.stA (qoe ho _) big256 u
 exact ⟨w, h1, h2, k2.own (Nat.le_refl _) h3⟩
theorem F77_spec (self : EV) (m : Nat) (s : List UInt8) (hs : s.length < m + 3) (hs2 : s.length < 9223372036854775808) (S : St) (ho : S.on = false)
 (h78 : ∀ (r : Nat) S, r ≤ 1114111 → self.f 82 [sv bad2, .int .i32 (r : Int)] S = some (.ret (.int .i64 (ixR r)), S))
 (h79 : ∀ S, self.f 83 [.int .i64 (s.length : Int)] S = some (.ret (.bool (decide ((8 : Int) < (s.length : Int)))), S))
 (h80 : ∀ S, S.on = false → ∃ t S', self.f 84 [sv bad2] S = some (.ret (.tuple [.agg 256 t, .bool true]), S') ∧ IsSet t ∧ Grew (fun _ => False) S S')
 (h81 : ∀ (c : UInt8) S b e t, S.on = false → AgAt S b e 256 t → IsSet t → self.f 85 [.ptr b 0, .int .u8 (c.toNat : Int)] S = some (.ret (.bool (qbq c)), S)) :
 ∃ S', F78 self (m + 3) (sv s) (sv bad2) S = some (.ret (.int .i64 (outI (qft s 0))), S') ∧ Grew (fun _ => False) S S' := by
 rw [F77_new, binV_ss, strOp_eql, show (bad2 == []) = false from rfl, oB, ifK_bool, cond_false, lnStr_sv, oB, binV_ii, intsV_eql, show decide ((bad2.length : Int) = 1) = false by decide, oB, ifK_bool, cond_false, lnStr_sv, oB, h79, callP_ret, ifK_bool]
 cases decide ((8 : Int) < (s.length : Int)) with
 | false =>
  rw [cond_false]
  exact F77_short self (m + 3) s hs S ho h78
 | true =>
  obtain ⟨t, S1, k1, k2, k3⟩ := h80 S ho
  have on1 := k3.on.trans ho
  obtain ⟨S2, l1, l2, l3⟩ := ag_lay on1 109 (Tr.ofListFrom .nil (List.replicate 256 (V.bool false)) 0) t
  have on2 := l3.on.trans on1
  have hL := qn6 self (m + 3) (R78_52 self (m + 3) (qlu self (m + 3) (qdw E0 self Try.f78) qda) qda) (exB 0 (R78_52 self (m + 3) (qlu self (m + 3) (qdw E0 self Try.f78) qda) qda) qda) s hs2 S1.next S2 (fun c => h81 c S2 _ _ t on2 l2 k2) s 0 (m + 3) rfl hs
  refine ⟨S2, ?_, k3.trans l3⟩
  rw [cond_true, k1, callP_ret, show qa6 (.tuple [.agg 256 t, .bool true]) 0 = some (.agg 256 t) from rfl, oB, show qa6 (.tuple [.agg 256 t, .bool true]) 1 = some (.bool true) from rfl, oB, oB, qdc, l1, oB, ifK_bool, cond_true]
  unfold outAny at hL
  unfold outI
  cases hx : qft s 0 with
  | some j => rw [hx] at hL; exact hL
  | none =>
   rw [hx] at hL
   exact hL.trans (by dsimp only; rw [exB_same, R78_52_eq])
theorem outI_any (s : List UInt8) : decide (0 ≤ outI (qft s 0)) = s.any qbq := by
 unfold qft outI
 rw [List.drop_zero]
 cases h : s.findIdx? qbq with
 | none =>
  rw [List.findIdx?_eq_none_iff] at h
  have : s.any qbq = false := by
   rw [List.any_eq_false]
   intro x hx
   rw [h x hx]; simp
  rw [this]; rfl
 | some j =>
  have : s.any qbq = true := by
   rw [List.any_eq_true]
   rw [List.findIdx?_eq_some_iff_getElem] at h
   obtain ⟨h1, h2, _⟩ := h
   exact ⟨_, List.getElem_mem h1, h2⟩
  rw [this]
  simp
noncomputable def kfAny : KF := qfd (fun p : TextIn => [sv p.s, sv bad2]) (fun p => En.ret (.bool (p.s.any qbq)))
theorem kfAny_run (s : List UInt8) (hs : s.length < 9223372036854775808) (S : St) : kfAny.run [sv s, sv bad2] S = some (.ret (.bool (s.any qbq)), S) :=
 qio (enc := fun p : TextIn => [sv p.s, sv bad2]) (out := fun p => En.ret (.bool (p.s.any qbq))) (fun p q h => by
  simp only [List.cons.injEq, and_true] at h
  rw [sv_inj h]) ⟨s, hs⟩ S
theorem kn74 {K : FuncId → Option KF} (hK : KnOk Try.prog E0 K) (h78 : K 82 = some kfIndexRune) (h77 : K 78 = none) (h79 : K 83 = none) (h80 : K 84 = none) (h81 : K 85 = none) : KnWell Try.prog E0 59 kfAny :=
 qjs (fn := Try.f59) (c := C59) (d := B59) E0_ok hK (by kernel_rfl) (by kernel_rfl) (qa5 C59 _ (by kernel_rfl)) fun p S ho => by
  obtain ⟨S', h1, h2⟩ := F77_spec (ev E0 K 1) (qa4 - 3) p.s (by have := p.hs; unfold qa4; omega) p.hs S ho (fun r S hr => by rw [qgp h78, qo5 r hr])
   (fun S => qao (c := C83) (d := B83) (by kernel_rfl) (by kernel_rfl) (qa5 C83 _ (by kernel_rfl)) h79 (show F83 (ev E0 K 0) qa4 _ S = _ by rw [F83_eq, binV_ii, intsV_gtr]; rfl))
   (fun S ho => by
    obtain ⟨t, S', h1, h2, h3⟩ := F80_spec (ev E0 K 0) (qa4 - 3) S ho
    rw [show qa4 - 3 + 3 = qa4 by unfold qa4; omega] at h1
    exact ⟨t, S', qao (c := C84) (d := B84) (by kernel_rfl) (by kernel_rfl) (qa5 C84 _ (by kernel_rfl)) h80 h1, h2, h3⟩)
   (fun c S b e t ho h hs => qao (c := C85) (d := B85) (by kernel_rfl) (by kernel_rfl) (qa5 C85 _ (by kernel_rfl)) h81 (F81_spec (ev E0 K 0) qa4 c S ho h (hs c)))
  rw [show qa4 - 3 + 3 = qa4 by unfold qa4; omega] at h1
  refine ⟨2, .ret (.bool (p.s.any qbq)), S', (?_ : F59 (ev E0 K 2) qa4 (sv p.s) (sv bad2) S = _), h2, Fz.same (.bool _)⟩
  rw [F59_eq, qao (c := C78) (d := B78) (by kernel_rfl) (by kernel_rfl) (qa5 C78 _ (by kernel_rfl)) h77 h1, callP_ret, binV_ii, intsV_geq, outI_any]
  rfl
open Go.RowKit Go.Proofs
def frz (W : World) : Rho := ⟨fun _ => none, fun k => W.heap[k]?⟩
theorem glob0 : ∀ g, E0.glob.get g = none := fun _ => rfl
noncomputable def kfTrue : KF := qfd (fun _ : Unit => []) (fun _ => En.ret (.bool true))
theorem kfTrue_run (S : St) : kfTrue.run [] S = some (.ret (.bool true), S) := qio (enc := fun _ : Unit => []) (out := fun _ => En.ret (.bool true)) (fun _ _ _ => rfl) () S
theorem relF (W : World) : Rel E0 (base0 W) (frz W) s0 W :=
 ⟨⟨rfl, rfl, rfl, Nat.le_refl _, fun _ _ => rfl⟩, fun _ _ => rfl, Nat.le_refl _, fun b o h => by simp [s0, Tr.get_nil] at h, fun b b' o o' cb sh sz sh' sz' h => by simp [s0, Tr.get_nil] at h, fun g b h => (by rw [glob0] at h; cases h), fun k o h => h, fun b o cb sh sz h => (by simp [s0, Tr.get_nil] at h), fun k o h _ => trivial⟩
theorem works_runs : saysTrue ((ev E0 (fun _ => none) 400).f 15 [] s0) = true := by decide +kernel
theorem kn15 : KnWell Try.prog E0 15 kfTrue := by
 refine ⟨specKF_loc, fun w0 ρ s w args cargs e t hR hv hg => ?_⟩
 unfold kfTrue qfd at hg
 simp only at hg
 by_cases hx : ∃ x : Unit, ([] : List V) = args
 · rw [dif_pos hx] at hg
   simp only [oS, pM] at hg
   obtain ⟨rfl, rfl⟩ := hg
   obtain ⟨_, rfl⟩ := hx
   obtain ⟨l⟩ := cargs
   cases hv
   exact (closed_walk E0_ok knOk_nil glob0 works_runs w).mono fun ce w' ⟨h1, h2⟩ => ⟨ρ, .bool true, h1, Rho.le_refl ρ, .bool true, hR.grown h2⟩
 · rw [dif_neg hx] at hg; cases hg
theorem sok38 : SortedOk Try.prog 38 [66] 9 := sortedOk_of Try.sorted38 Try.sort65 rfl [66] fun g hg => by
 simp only [List.mem_cons, List.not_mem_nil, or_false] at hg
 subst hg
 exact ⟨Try.keys39_ren, { Try.keys39 with }, rfl, rfl⟩
noncomputable def KO := qkg (fun _ => none) 38 (qcw [66] 9)
theorem okO : KnOk Try.prog E0 KO := knOk_nil.add (sorted_well sok38)
noncomputable def KA := qkg KO 15 kfTrue
theorem okA : KnOk Try.prog E0 KA := okO.add kn15
noncomputable def KB := qkg KA 24 kfIndexByte
theorem okB : KnOk Try.prog E0 KB := okA.add (kn63 okA rfl)
noncomputable def KC := qkg KB 82 kfIndexRune
theorem okC : KnOk Try.prog E0 KC := okB.add (kn78 okB rfl rfl)
noncomputable def KD := qkg KC 59 kfAny
theorem okD : KnOk Try.prog E0 KD := okC.add (kn74 okC rfl rfl rfl rfl rfl)
theorem lgD : Lg.KnLoc KD := (((((Lg.knLoc_nil).add 38 fun _ => kfSorted_lg _ _ _).add 15 fun _ => Lg.specKF_lg _).add 24 fun _ => Lg.specKF_lg _).add 82 fun _ => Lg.specKF_lg _).add 59 fun _ => Lg.specKF_lg _
section
variable {s : St}
theorem big1 : 1 < big := by unfold big; decide
theorem bx_put (b e : Nat) (l : List V) : Bx (s.put b (bxO e l)) b e l := by
 show (s.put b (bxO e l)).heap.get b = some (bxO e l)
 rw [qbr, if_pos rfl]
def selRd (logs : List (List LE)) (prs : List (Nat × List Nat)) : Bool := prs.all fun p => (qe2 p.1 logs).all (fun e => !e.w) && p.2.all fun j => (qe2 j logs).all fun e => !e.w
theorem selRd_ok {logs : List (List LE)} : ∀ {prs : List (Nat × List Nat)}, selRd logs prs = true → qb4 logs prs = true
 | [], _ => rfl
 | (i, js) :: l, h => by
  unfold selRd at h
  rw [List.all_cons, Bool.and_eq_true, Bool.and_eq_true] at h
  obtain ⟨⟨h1, h2⟩, h3⟩ := h
  have r : ∀ {L : List LE}, (L.all fun e => !e.w) = true → ∀ f ∈ L, f.w = false := fun {L} hL f hf => by simpa using List.all_eq_true.1 hL f hf
  have key : ∀ js : List Nat, (js.all fun j => (qe2 j logs).all fun e => !e.w) = true → qep (qe2 i logs) logs js = false := fun js => by
   induction js with
   | nil => intro _; rfl
   | cons j js ih =>
    intro hj
    rw [List.all_cons, Bool.and_eq_true] at hj
    unfold qep
    rw [clash_rd _ _ (r h1) (r hj.1)]
    exact ih hj.2
  unfold qb4
  rw [key js h2]
  exact selRd_ok h3
theorem qc6 {prs : List (Nat × List Nat)} {s0 s : St} {logs : List (List LE)} {k : St → Rs} (h : selRd logs prs = true) : qid prs s0 logs s k = k (qbf s0 s logs) := qlb (selRd_ok h)
end
end Go.Proofs.Ytbihlgcdnhoknaa.W
namespace Go.Proofs.Ytbihlgcdnhoknaa.W
open Go.Proofs.Ytbihlgcdnhoknaa.Ev
section
variable {s : St}
theorem nw_lg (ho : s.on = false) (l : List LE) (o : O) : nw (s.lg l) o = (nw s o).lg ({ b := s.next, lo := 0, hi := big, w := true } :: l) := by
 unfold nw
 rw [qb3 ho, note_lg]
 rfl
theorem newCells_lg (ho : s.on = false) (l : List LE) (e z : Nat) (ts : List (Tr V)) : qac (s.lg l) e z ts = (qac s e z ts).lg ({ b := s.next, lo := 0, hi := big, w := true } :: l) := by
 unfold qac
 exact nw_lg ho l _
theorem stP_lg (ho : s.on = false) {n b off : Nat} {v : V} {t : St} (h : stP n (.ptr b off) v s = some (.tuple [], t)) : ∃ l, stP n (.ptr b off) v (s.lg []) = some (.tuple [], t.lg l) := by
 have h' : vu (bif Nat.beq v.size n && !qai v then stK s b off n v.cells else none) = some (.tuple [], t) := h
 show ∃ l, vu (bif Nat.beq v.size n && !qai v then stK (s.lg []) b off n v.cells else none) = some (.tuple [], t.lg l)
 cases hc : (Nat.beq v.size n && !qai v) with
 | false => rw [hc] at h'; cases h'
 | true =>
  rw [hc] at h'
  simp only [cond_true] at h' ⊢
  unfold vu at h' ⊢
  simp only [oI, oS, pM, true_and] at h'
  obtain ⟨u, hu, rfl⟩ := h'
  obtain ⟨_, l, hl⟩ := stK_lg ho hu []
  exact ⟨l, by rw [hl]; rfl⟩
theorem bx_st6 (ho : s.on = false) {b e i : Nat} {l m : List V} {v : V} (h : Bx s b e l) (hl : l.length = 6) (hm : m.length = 6) (hi : i < 6) (hset : (Tr.ofListFrom .nil l 0).set v i = Tr.ofListFrom .nil m 0) (h1 : v.size = 1) (h2 : v.cells = Go.Proofs.Ytbihlgcdnhoknaa.Ev.one v) (h3 : qai v = false) :
 stP 1 (.ptr b i) v s = some (.tuple [], s.put b (bxO e m)) := by
 show vu (bif Nat.beq v.size 1 && !qai v then stK s b i 1 v.cells else none) = _
 rw [h1, h2, h3]
 have hst : stK s b i 1 (Go.Proofs.Ytbihlgcdnhoknaa.Ev.one v) = some (s.put b (bxO e m)) := by
  unfold stK
  rw [h, hl]
  simp only [ble_true.2 (show i + 1 ≤ 6 * 1 by omega), blt_true.2 (show 6 * 1 < big by unfold big; decide), Bool.and_self, Bool.not_false, cond_true]
  unfold qef
  rw [show Nat.beq 1 6 = false from rfl]
  have hv0 : (Go.Proofs.Ytbihlgcdnhoknaa.Ev.one v).get 0 = some v := rfl
  simp only [Bool.false_and, cond_false, qhg, Tr.setC_eq, hv0, oB, Nat.add_zero, Nat.div_eq_of_lt hi, Nat.mod_eq_of_lt hi]
  rw [Tr.get_ofList]
  simp only [List.getElem?_cons_zero, oB, hset, set_one, qb3 ho]
  unfold bxO
  rw [hm]
 rw [hst]; rfl
theorem set6_2 (a b c d e f v : V) : (Tr.ofListFrom .nil [a, b, c, d, e, f] 0).set v 2 = Tr.ofListFrom .nil [a, b, v, d, e, f] 0 := by kernel_rfl
theorem set6_3 (a b c d e f v : V) : (Tr.ofListFrom .nil [a, b, c, d, e, f] 0).set v 3 = Tr.ofListFrom .nil [a, b, c, v, e, f] 0 := by kernel_rfl
theorem set6_4 (a b c d e f v : V) : (Tr.ofListFrom .nil [a, b, c, d, e, f] 0).set v 4 = Tr.ofListFrom .nil [a, b, c, d, v, f] 0 := by kernel_rfl
theorem set6_5 (a b c d e f v : V) : (Tr.ofListFrom .nil [a, b, c, d, e, f] 0).set v 5 = Tr.ofListFrom .nil [a, b, c, d, e, v] 0 := by kernel_rfl
theorem ld1_lg (ho : s.on = false) {b i : Nat} {v : V} (h : ld1 (.ptr b i) s = some (v, s)) (l : List LE) : ld1 (.ptr b i) (s.lg l) = some (v, s.lg (⟨b, i, i + 1, false⟩ :: l)) := by
 have h' : ld s b i = some (v, s) := h
 show ld (s.lg l) b i = _
 unfold ld at h' ⊢
 rw [show (s.lg l).heap = s.heap from rfl]
 split at h'
 · rename_i e esz n ro c hb
   cases hc : (Nat.blt i (esz * n) && Nat.blt (esz * n) big) with
   | false => rw [hc] at h'; cases h'
   | true =>
    rw [hc] at h'
    simp only [cond_true, oI, oS, pM] at h' ⊢
    obtain ⟨t, h1, w, h2, rfl, _⟩ := h'
    exact ⟨t, h1, w, h2, rfl, rfl⟩
 · cases h'
end
def stt (S : St) : Option (List LE) → St
 | none => S
 | some l => S.lg l
section
variable {S : St}
theorem ql7 (ho : S.on = false) (e : Nat) {v : V} (hv : OneV v) : ∃ T, (∀ m, qd7 e v (stt S m) = some (.ptr S.next 0, stt T (m.map fun l => ⟨S.next, 0, big, true⟩ :: l))) ∧ Bx T S.next e [v] ∧ Grew (fun _ => False) S T ∧ T.next = S.next + 1 := by
 obtain ⟨T, h1, h2, h3, h4⟩ := qhf ho e hv
 refine ⟨T, fun m => ?_, h2, h3, h4⟩
 cases m with
 | none => exact h1
 | some l =>
  have hT : qac S e 1 [Go.Proofs.Ytbihlgcdnhoknaa.Ev.one v] = T := by
   unfold qd7 at h1
   simp only [hv.size, hv.cells, hv.tup, cond_false, oS, pM] at h1
   exact h1.2
  show qd7 e v (S.lg l) = some (.ptr S.next 0, T.lg _)
  unfold qd7
  simp only [hv.size, hv.cells, hv.tup, cond_false]
  rw [newCells_lg ho, hT]
  rfl
def kvI (kv : List (Int × V)) : List (V × V) := kv.map fun p => (.int .i64 p.1, p.2)
def kvS (kv : List (List UInt8 × Int)) : List (V × V) := kv.map fun p => (sv p.1, .int .i64 p.2)
def qf3 (es : List ME) : List (V × V) := es.map fun e => (e.k, e.v)
def MapOk (es : List ME) (c : Nat) (kv : List (V × V)) : Prop := qf3 es = kv ∧ qbp 0 es = true ∧ qba es 0 ≤ c
def MapAt (S : St) (r : Nat) (kv : List (V × V)) : Prop := ∃ es clock, S.heap.get r = some (.map es clock) ∧ MapOk es clock kv
theorem qmb : ∀ (es : List ME) (m c : Nat) (k v : V), qbp m es = true → qba es m ≤ c → qbp m (es ++ [{ k := k, v := v, born := c }]) = true ∧ qba (es ++ [{ k := k, v := v, born := c }]) m = c + 1
 | [], m, c, k, v, _, h => by
  unfold qba at h
  refine ⟨?_, rfl⟩
  show (Nat.ble m c && true) = true
  rw [ble_true.2 h]; rfl
 | e :: es, m, c, k, v, h1, h2 => by
  unfold qbp at h1
  unfold qba at h2
  simp only [Bool.and_eq_true] at h1
  obtain ⟨q1, q2⟩ := qmb es (e.born + 1) c k v h1.2 h2
  rw [List.cons_append]
  unfold qbp qba
  exact ⟨by rw [h1.1, q1]; rfl, q2⟩
theorem qp3 (k v : V) : ∀ (i : Nat) (es : List ME) (m : Nat), qbp m (qfg i k v es) = qbp m es ∧ qba (qfg i k v es) m = qba es m
 | _, [], _ => ⟨rfl, rfl⟩
 | 0, e :: es, m => ⟨rfl, rfl⟩
 | i + 1, e :: es, m => by
  obtain ⟨h1, h2⟩ := qp3 k v i es (e.born + 1)
  refine ⟨?_, h2⟩
  show (Nat.ble m e.born && qbp (e.born + 1) (qfg i k v es)) = _
  rw [h1]; rfl
theorem stampsR_less : ∀ (es : List ME) (m m' : Nat), m ≤ m' → qbp m' es = true → qbp m es = true ∧ qba es m ≤ qba es m'
 | [], m, m', h, _ => ⟨rfl, h⟩
 | e :: es, m, m', h, h2 => by
  unfold qbp at h2 ⊢
  simp only [Bool.and_eq_true] at h2 ⊢
  exact ⟨⟨ble_true.2 (Nat.le_trans h (ble_true.1 h2.1)), h2.2⟩, Nat.le_refl _⟩
theorem qma : ∀ (i : Nat) (es : List ME) (m : Nat), qbp m es = true → qbp m (qdl i es) = true ∧ qba (qdl i es) m ≤ qba es m
 | _, [], _, h => ⟨h, Nat.le_refl _⟩
 | 0, e :: es, m, h => by
  unfold qbp at h
  simp only [Bool.and_eq_true] at h
  exact stampsR_less es m (e.born + 1) (Nat.le_succ_of_le (ble_true.1 h.1)) h.2
 | i + 1, e :: es, m, h => by
  unfold qbp at h
  simp only [Bool.and_eq_true] at h
  obtain ⟨h1, h2⟩ := qma i es (e.born + 1) h.2
  refine ⟨?_, h2⟩
  show (Nat.ble m e.born && qbp (e.born + 1) (qdl i es)) = true
  rw [h.1, h1]; rfl
theorem MapOk.push {es : List ME} {c : Nat} {kv kv' : List (V × V)} (h : MapOk es c kv) (k v : V) (e : qf3 (es ++ [{ k := k, v := v, born := c }]) = kv') : MapOk (es ++ [{ k := k, v := v, born := c }]) (c + 1) kv' :=
 let ⟨q1, q2⟩ := qmb es 0 c k v h.2.1 h.2.2
 ⟨e, q1, by rw [q2]; exact Nat.le_refl _⟩
theorem MapOk.set {es : List ME} {c : Nat} {kv kv' : List (V × V)} (h : MapOk es c kv) (i : Nat) (k v : V) (e : qf3 (qfg i k v es) = kv') : MapOk (qfg i k v es) c kv' :=
 let ⟨q1, q2⟩ := qp3 k v i es 0
 ⟨e, q1.trans h.2.1, by rw [q2]; exact h.2.2⟩
theorem MapOk.drop {es : List ME} {c : Nat} {kv kv' : List (V × V)} (h : MapOk es c kv) (i : Nat) (e : qf3 (qdl i es) = kv') : MapOk (qdl i es) c kv' :=
 let ⟨q1, q2⟩ := qma i es 0 h.2.1
 ⟨e, q1, Nat.le_trans q2 h.2.2⟩
theorem MapOk.new : MapOk [] 0 [] := ⟨rfl, rfl, Nat.le_refl _⟩
theorem MapAt.grew {W : Nat → Prop} {T : St} {r : Nat} {kv : List (V × V)} (h : MapAt S r kv) (hr : r < S.next) (hw : ¬ W r) (g : Grew W S T) : MapAt T r kv := by
 obtain ⟨es, c, h1, h2⟩ := h
 exact ⟨es, c, by rw [g.keep r hr hw]; exact h1, h2⟩
def lkI (a : Int) : List (Int × V) → Option V
 | [] => none
 | p :: l => if a = p.1 then some p.2 else lkI a l
def lkS (a : List UInt8) : List (List UInt8 × Int) → Option Int
 | [] => none
 | p :: l => if a = p.1 then some p.2 else lkS a l
def ixI (a : Int) : List (Int × V) → Nat
 | [] => 0
 | p :: l => if a = p.1 then 0 else ixI a l + 1
def ixS_ (a : List UInt8) : List (List UInt8 × Int) → Nat
 | [] => 0
 | p :: l => if a = p.1 then 0 else ixS_ a l + 1
theorem qkl (a : Int) : ∀ (kv : List (Int × V)) (es : List ME) (i : Nat), qf3 es = kvI kv → qff (.int .i64 a) es i = some ((lkI a kv).map fun v => (i + ixI a kv, v))
 | [], es, i, h => by
  cases es with
  | nil => rfl
  | cons e es => simp [qf3, kvI] at h
 | p :: kv, [], i, h => by simp [qf3, kvI] at h
 | p :: kv, e :: es, i, h => by
  simp only [qf3, kvI, List.map_cons, List.cons.injEq, pM] at h
  obtain ⟨⟨h1, h2⟩, h3⟩ := h
  rw [qff, h1]
  simp only [qcn, cond_true, qh6]
  unfold lkI ixI
  by_cases hc : a = p.1
  · rw [if_pos hc, if_pos hc, show (a == p.1) = true by simp [hc], cond_true, h2]; rfl
  · rw [if_neg hc, if_neg hc, show (a == p.1) = false from beq_false_of_ne hc, cond_false, qkl a kv es (i + 1) h3]
    cases lkI a kv with
    | none => rfl
    | some v => simp only [Option.map_some, show i + 1 + ixI a kv = i + (ixI a kv + 1) by omega]
theorem qkn (a : List UInt8) : ∀ (kv : List (List UInt8 × Int)) (es : List ME) (i : Nat), qf3 es = kvS kv → qff (sv a) es i = some ((lkS a kv).map fun v => (i + ixS_ a kv, .int .i64 v))
 | [], es, i, h => by
  cases es with
  | nil => rfl
  | cons e es => simp [qf3, kvS] at h
 | p :: kv, [], i, h => by simp [qf3, kvS] at h
 | p :: kv, e :: es, i, h => by
  simp only [qf3, kvS, List.map_cons, List.cons.injEq, pM] at h
  obtain ⟨⟨h1, h2⟩, h3⟩ := h
  have hm : qff (sv a) (e :: es) i = bif a == p.1 then some (some (i, e.v)) else qff (sv a) es (i + 1) := by
   show (match e.k with | .str l' b => bif sEq a.length (qax a) l' b then some (some (i, e.v)) else qff (sv a) es (i + 1) | _ => none) = _
   rw [h1]
   show (bif sEq a.length (qax a) p.1.length (qax p.1) then some (some (i, e.v)) else qff (sv a) es (i + 1)) = _
   rw [sEq_eq]
  rw [hm]
  unfold lkS ixS_
  by_cases hc : a = p.1
  · rw [if_pos hc, if_pos hc, show (a == p.1) = true by simp [hc], cond_true, h2]; rfl
  · rw [if_neg hc, if_neg hc, show (a == p.1) = false from beq_false_of_ne hc, cond_false, qkn a kv es (i + 1) h3]
    cases lkS a kv with
    | none => rfl
    | some v => simp only [Option.map_some, show i + 1 + ixS_ a kv = i + (ixS_ a kv + 1) by omega]
theorem qih (ho : S.on = false) {r : Nat} {o : O} (h : S.heap.get r = some o) (m : Option (List LE)) : qhn (stt S m) r = some (o, stt S (m.map fun l => ⟨r, 0, big, false⟩ :: l)) := by
 cases m with
 | none => exact qmt ho h
 | some l =>
  show qhn (S.lg l) r = _
  unfold qhn
  rw [show (S.lg l).heap.get r = some o from h]
  rfl
theorem qin (ho : S.on = false) (r : Nat) (o : O) (m : Option (List LE)) : setO (stt S m) r o = stt (S.put r o) (m.map fun l => ⟨r, 0, big, true⟩ :: l) := by
 cases m with
 | none => exact setO_off ho r o
 | some l => rfl
theorem und66 : und E0 66 = some (.map 3 62) := by kernel_rfl
theorem und63 : und E0 63 = some (.map 9 3) := by kernel_rfl
theorem und70 : und E0 70 = some (.map 3 4) := by kernel_rfl
theorem und3 : und E0 3 = some (.int .i64) := by kernel_rfl
theorem und9' : und E0 9 = some .string := by kernel_rfl
theorem zero62 : qfi E0 62 = some .nilptr := by kernel_rfl
theorem zero3 : qfi E0 3 = some (.int .i64 0) := by kernel_rfl
theorem zero4 : qfi E0 4 = some (.bool false) := by kernel_rfl
theorem look_int (ho : S.on = false) {t et : TypeId} {z : V} (ht : und E0 t = some (.map 3 et)) (hz : qfi E0 et = some z) {r : Nat} {kv : List (Int × V)} (h : MapAt S r (kvI kv)) (a : Int) (m : Option (List LE)) :
 qae E0 t (.map r) (.int .i64 a) false (stt S m) = some ((lkI a kv).getD z, stt S (m.map fun l => ⟨r, 0, big, false⟩ :: l)) := by
 obtain ⟨es, c, h1, h2, _⟩ := h
 unfold qae
 rw [ht, oB]
 simp only
 rw [und3, oB]
 simp only [qgb, cond_true]
 rw [qih ho h1 m, oB]
 simp only
 rw [oB]
 dsimp only
 rw [qkl a kv es 0 h2, oB]
 cases lkI a kv with
 | none => simp only [Option.map_none]; rw [hz]; rfl
 | some v => rfl
theorem look_str (ho : S.on = false) {r : Nat} {kv : List (List UInt8 × Int)} (h : MapAt S r (kvS kv)) (a : List UInt8) (m : Option (List LE)) :
 qae E0 63 (.map r) (sv a) true (stt S m) = some (.tuple [.int .i64 ((lkS a kv).getD 0), .bool (lkS a kv).isSome], stt S (m.map fun l => ⟨r, 0, big, false⟩ :: l)) := by
 obtain ⟨es, c, h1, h2, _⟩ := h
 unfold qae
 rw [und63, oB]
 simp only
 rw [und9', oB]
 simp only [sv, qgb, cond_true]
 rw [qih ho h1 m, oB]
 simp only
 rw [oB]
 dsimp only
 have hm := qkn a kv es 0 h2
 unfold sv at hm
 rw [hm, oB]
 cases lkS a kv with
 | none => simp only [Option.map_none]; rw [zero3]; rfl
 | some v => rfl
theorem look_nil (a : List UInt8) (s : St) : qae E0 63 .nilmap (sv a) true s = some (.tuple [.int .i64 0, .bool false], s) := by
 unfold qae
 rw [und63, oB]
 simp only
 rw [und9', oB]
 simp only [sv, qgb, cond_true, oB, qff]
 rw [zero3]; rfl
def qmk (a : Int) (v : V) : List (Int × V) → List (Int × V)
 | [] => [(a, v)]
 | p :: l => if a = p.1 then (a, v) :: l else p :: qmk a v l
def qat (a : List UInt8) (v : Int) : List (List UInt8 × Int) → List (List UInt8 × Int)
 | [] => [(a, v)]
 | p :: l => if a = p.1 then (a, v) :: l else p :: qat a v l
def qnq (a : Int) : List (Int × V) → List (Int × V)
 | [] => []
 | p :: l => if a = p.1 then l else p :: qnq a l
def qa7 (a : List UInt8) : List (List UInt8 × Int) → List (List UInt8 × Int)
 | [] => []
 | p :: l => if a = p.1 then l else p :: qa7 a l
theorem setME_int (a : Int) (v : V) : ∀ (kv : List (Int × V)) (es : List ME), qf3 es = kvI kv → ∀ w, lkI a kv = some w → qf3 (qfg (ixI a kv) (.int .i64 a) v es) = kvI (qmk a v kv)
 | [], es, h, w, hw => by simp [lkI] at hw
 | p :: kv, [], h, w, hw => by simp [qf3, kvI] at h
 | p :: kv, e :: es, h, w, hw => by
  simp only [qf3, kvI, List.map_cons, List.cons.injEq, pM] at h
  obtain ⟨⟨h1, h2⟩, h3⟩ := h
  unfold ixI qmk
  unfold lkI at hw
  by_cases hc : a = p.1
  · rw [if_pos hc, if_pos hc]
    show (V.int .i64 a, v) :: qf3 es = _
    rw [show qf3 es = kvI kv from h3]; rfl
  · rw [if_neg hc, if_neg hc]
    rw [if_neg hc] at hw
    unfold qfg
    rw [show Nat.beq (ixI a kv + 1) 0 = false from rfl, cond_false, Nat.add_sub_cancel]
    show (e.k, e.v) :: qf3 _ = (V.int .i64 p.1, p.2) :: kvI _
    rw [h1, h2, setME_int a v kv es h3 w hw]
theorem setME_str (a : List UInt8) (v : Int) : ∀ (kv : List (List UInt8 × Int)) (es : List ME), qf3 es = kvS kv → ∀ w, lkS a kv = some w → qf3 (qfg (ixS_ a kv) (sv a) (.int .i64 v) es) = kvS (qat a v kv)
 | [], es, h, w, hw => by simp [lkS] at hw
 | p :: kv, [], h, w, hw => by simp [qf3, kvS] at h
 | p :: kv, e :: es, h, w, hw => by
  simp only [qf3, kvS, List.map_cons, List.cons.injEq, pM] at h
  obtain ⟨⟨h1, h2⟩, h3⟩ := h
  unfold ixS_ qat
  unfold lkS at hw
  by_cases hc : a = p.1
  · rw [if_pos hc, if_pos hc]
    show (sv a, V.int .i64 v) :: qf3 es = _
    rw [show qf3 es = kvS kv from h3]; rfl
  · rw [if_neg hc, if_neg hc]
    rw [if_neg hc] at hw
    unfold qfg
    rw [show Nat.beq (ixS_ a kv + 1) 0 = false from rfl, cond_false, Nat.add_sub_cancel]
    show (e.k, e.v) :: qf3 _ = (sv p.1, V.int .i64 p.2) :: kvS _
    rw [h1, h2, setME_str a v kv es h3 w hw]
theorem qln (a : Int) (v : V) : ∀ kv, lkI a kv = none → qmk a v kv = kv ++ [(a, v)]
 | [], _ => rfl
 | p :: kv, h => by
  unfold lkI at h
  unfold qmk
  by_cases hc : a = p.1
  · rw [if_pos hc] at h; cases h
  · rw [if_neg hc] at h ⊢
    rw [qln a v kv h]; rfl
theorem qlo (a : List UInt8) (v : Int) : ∀ kv, lkS a kv = none → qat a v kv = kv ++ [(a, v)]
 | [], _ => rfl
 | p :: kv, h => by
  unfold lkS at h
  unfold qat
  by_cases hc : a = p.1
  · rw [if_pos hc] at h; cases h
  · rw [if_neg hc] at h ⊢
    rw [qlo a v kv h]; rfl
theorem dropME_int (a : Int) : ∀ (kv : List (Int × V)) (es : List ME), qf3 es = kvI kv → ∀ w, lkI a kv = some w → qf3 (qdl (ixI a kv) es) = kvI (qnq a kv)
 | [], es, h, w, hw => by simp [lkI] at hw
 | p :: kv, [], h, w, hw => by simp [qf3, kvI] at h
 | p :: kv, e :: es, h, w, hw => by
  simp only [qf3, kvI, List.map_cons, List.cons.injEq, pM] at h
  obtain ⟨⟨h1, h2⟩, h3⟩ := h
  unfold ixI qnq
  unfold lkI at hw
  by_cases hc : a = p.1
  · rw [if_pos hc, if_pos hc]
    exact h3
  · rw [if_neg hc, if_neg hc]
    rw [if_neg hc] at hw
    unfold qdl
    rw [show Nat.beq (ixI a kv + 1) 0 = false from rfl, cond_false, Nat.add_sub_cancel]
    show (e.k, e.v) :: qf3 _ = (V.int .i64 p.1, p.2) :: kvI _
    rw [h1, h2, dropME_int a kv es h3 w hw]
theorem dropME_str (a : List UInt8) : ∀ (kv : List (List UInt8 × Int)) (es : List ME), qf3 es = kvS kv → ∀ w, lkS a kv = some w → qf3 (qdl (ixS_ a kv) es) = kvS (qa7 a kv)
 | [], es, h, w, hw => by simp [lkS] at hw
 | p :: kv, [], h, w, hw => by simp [qf3, kvS] at h
 | p :: kv, e :: es, h, w, hw => by
  simp only [qf3, kvS, List.map_cons, List.cons.injEq, pM] at h
  obtain ⟨⟨h1, h2⟩, h3⟩ := h
  unfold ixS_ qa7
  unfold lkS at hw
  by_cases hc : a = p.1
  · rw [if_pos hc, if_pos hc]
    exact h3
  · rw [if_neg hc, if_neg hc]
    rw [if_neg hc] at hw
    unfold qdl
    rw [show Nat.beq (ixS_ a kv + 1) 0 = false from rfl, cond_false, Nat.add_sub_cancel]
    show (e.k, e.v) :: qf3 _ = (sv p.1, V.int .i64 p.2) :: kvS _
    rw [h1, h2, dropME_str a kv es h3 w hw]
theorem qer (T : St) (m : Option (List LE)) (f g : List LE → List LE) : stt T ((m.map f).map g) = stt T (m.map fun l => g (f l)) := by cases m <;> rfl
theorem qp8 (ho : S.on = false) {t et : TypeId} (ht : und E0 t = some (.map 3 et)) {r : Nat} {kv : List (Int × V)} (h : MapAt S r (kvI kv)) (a : Int) (v : V) : ∃ es c, MapOk es c (kvI (qmk a v kv)) ∧ ∀ m, qag E0 t (.map r) (.int .i64 a) v (stt S m) = some (stt (S.put r (.map es c)) (m.map fun l => ⟨r, 0, big, true⟩ :: ⟨r, 0, big, false⟩ :: l)) := by
 obtain ⟨es, c, h1, hok⟩ := h
 have h2 := hok.1
 have hu : ∀ m, qag E0 t (.map r) (.int .i64 a) v (stt S m) = (qff (.int .i64 a) es 0).bind fun
  | some (i, _) => some (setO (stt S (m.map fun l => ⟨r, 0, big, false⟩ :: l)) r (.map (qfg i (.int .i64 a) v es) c))
  | none => some (setO (stt S (m.map fun l => ⟨r, 0, big, false⟩ :: l)) r (.map (es ++ [{ k := .int .i64 a, v := v, born := c }]) (c + 1))) := fun m => by
  unfold qag
  rw [ht, oB]
  simp only
  rw [und3, oB]
  simp only [qgb, cond_true]
  rw [qih ho h1 m, oB]
  rfl
 rw [qkl a kv es 0 h2] at hu
 cases hl : lkI a kv with
 | none =>
  refine ⟨es ++ [{ k := .int .i64 a, v := v, born := c }], c + 1, hok.push _ _ ?_, fun m => ?_⟩
  · rw [qln a v kv hl]
    unfold qf3 kvI at h2 ⊢
    rw [List.map_append, List.map_append, h2]; rfl
  · rw [hu m, hl]
    show some (setO _ _ _) = _
    rw [qin ho, qer]
 | some w =>
  refine ⟨qfg (ixI a kv) (.int .i64 a) v es, c, hok.set _ _ _ (setME_int a v kv es h2 w hl), fun m => ?_⟩
  rw [hu m, hl]
  show some (setO _ _ (.map (qfg (0 + ixI a kv) _ _ _) _)) = _
  rw [qin ho, Nat.zero_add, qer]
theorem upd_str (ho : S.on = false) {r : Nat} {kv : List (List UInt8 × Int)} (h : MapAt S r (kvS kv)) (a : List UInt8) (v : Int) : ∃ es c, MapOk es c (kvS (qat a v kv)) ∧ ∀ m, qag E0 63 (.map r) (sv a) (.int .i64 v) (stt S m) = some (stt (S.put r (.map es c)) (m.map fun l => ⟨r, 0, big, true⟩ :: ⟨r, 0, big, false⟩ :: l)) := by
 obtain ⟨es, c, h1, hok⟩ := h
 have h2 := hok.1
 have hu : ∀ m, qag E0 63 (.map r) (sv a) (.int .i64 v) (stt S m) = (qff (sv a) es 0).bind fun
  | some (i, _) => some (setO (stt S (m.map fun l => ⟨r, 0, big, false⟩ :: l)) r (.map (qfg i (sv a) (.int .i64 v) es) c))
  | none => some (setO (stt S (m.map fun l => ⟨r, 0, big, false⟩ :: l)) r (.map (es ++ [{ k := sv a, v := .int .i64 v, born := c }]) (c + 1))) := fun m => by
  unfold qag
  rw [und63, oB]
  simp only
  rw [und9', oB]
  simp only [sv, qgb, cond_true]
  rw [qih ho h1 m, oB]
  rfl
 rw [qkn a kv es 0 h2] at hu
 cases hl : lkS a kv with
 | none =>
  refine ⟨es ++ [{ k := sv a, v := .int .i64 v, born := c }], c + 1, hok.push _ _ ?_, fun m => ?_⟩
  · rw [qlo a v kv hl]
    unfold qf3 kvS at h2 ⊢
    rw [List.map_append, List.map_append, h2]; rfl
  · rw [hu m, hl]
    show some (setO _ _ _) = _
    rw [qin ho, qer]
 | some w =>
  refine ⟨qfg (ixS_ a kv) (sv a) (.int .i64 v) es, c, hok.set _ _ _ (setME_str a v kv es h2 w hl), fun m => ?_⟩
  rw [hu m, hl]
  show some (setO _ _ (.map (qfg (0 + ixS_ a kv) _ _ _) _)) = _
  rw [qin ho, Nat.zero_add, qer]
theorem del_str (ho : S.on = false) {r : Nat} {kv : List (List UInt8 × Int)} (h : MapAt S r (kvS kv)) (a : List UInt8) {w : Int} (hl : lkS a kv = some w) : ∃ es c, MapOk es c (kvS (qa7 a kv)) ∧ ∀ m, qbm E0 63 (.map r) (sv a) (stt S m) = some (stt (S.put r (.map es c)) (m.map fun l => ⟨r, 0, big, true⟩ :: ⟨r, 0, big, false⟩ :: l)) := by
 obtain ⟨es, c, h1, hok⟩ := h
 have h2 := hok.1
 refine ⟨qdl (ixS_ a kv) es, c, hok.drop _ (dropME_str a kv es h2 w hl), fun m => ?_⟩
 unfold qbm
 rw [und63, oB]
 simp only
 rw [und9', oB]
 simp only [sv, qgb, cond_true]
 rw [qih ho h1 m, oB]
 simp only
 have hm := qkn a kv es 0 h2
 unfold sv at hm
 rw [hm, hl]
 show some (setO _ _ (.map (qdl (0 + ixS_ a kv) _) _)) = _
 rw [qin ho, Nat.zero_add, qer]
theorem del_int (ho : S.on = false) {t et : TypeId} (ht : und E0 t = some (.map 3 et)) {r : Nat} {kv : List (Int × V)} (h : MapAt S r (kvI kv)) (a : Int) {w : V} (hl : lkI a kv = some w) : ∃ es c, MapOk es c (kvI (qnq a kv)) ∧ ∀ m, qbm E0 t (.map r) (.int .i64 a) (stt S m) = some (stt (S.put r (.map es c)) (m.map fun l => ⟨r, 0, big, true⟩ :: ⟨r, 0, big, false⟩ :: l)) := by
 obtain ⟨es, c, h1, hok⟩ := h
 have h2 := hok.1
 refine ⟨qdl (ixI a kv) es, c, hok.drop _ (dropME_int a kv es h2 w hl), fun m => ?_⟩
 unfold qbm
 rw [ht, oB]
 simp only
 rw [und3, oB]
 simp only [qgb, cond_true]
 rw [qih ho h1 m, oB]
 simp only
 rw [qkl a kv es 0 h2, hl]
 show some (setO _ _ (.map (qdl (0 + ixI a kv) _) _)) = _
 rw [qin ho, Nat.zero_add, qer]
theorem qge (r : Nat) {es : List ME} {c : Nat} {kv : List (V × V)} (h : MapOk es c kv) : MapAt (S.put r (.map es c)) r kv := ⟨es, c, by rw [qbr, if_pos rfl], h⟩
theorem lnMap_of (ho : S.on = false) {r : Nat} {kv : List (V × V)} (h : MapAt S r kv) : lnMap (.map r) S = some (.int .i64 (kv.length : Int), S) := by
 obtain ⟨es, c, h1, hok⟩ := h
 have h2 := hok.1
 have hl : es.length = kv.length := by rw [← h2]; exact (List.length_map ..).symm
 unfold lnMap
 simp only
 rw [qmt ho h1]
 simp only [oB, hl]
 rfl
end
end Go.Proofs.Ytbihlgcdnhoknaa.W
