/-
  WHAT THE FUNCTIONS COME TO: each is read by the evaluator, printed, and told as a function of data, part 4 of 8 (no condition).
-/
import Derived.Test.YtmeohejdafbodaaW3
namespace Go.Proofs.Ytmeohejdafbodaa.W
open Go.Proofs.Ytmeohejdafbodaa.Ev
theorem und9 : und E0 9 = some .string := by kernel_rfl
theorem und21 : und E0 21 = some (.int .i32) := by kernel_rfl
section
variable {s : St}
theorem nextK_at (ho : s.on = false) {b l n pos : Nat} (h : s.heap.get b = some (.siter l n pos)) (hlt : pos < l) : nextK (.ptr b 0) true s = some (.tuple [.bool true, .int .i64 (pos : Int), .int .i32 ((decP l n pos).1 : Int)], s.put b (.siter l n (pos + (decP l n pos).2))) := by
 unfold nextK qgb
 simp only [cond_true, show Nat.beq 0 0 = true from rfl, h, oB, qat ho, blt_true.2 hlt]
 unfold setO
 rw [qat ho]; rfl
theorem nextK_end (ho : s.on = false) {b l n pos : Nat} (h : s.heap.get b = some (.siter l n pos)) (hge : l ≤ pos) : nextK (.ptr b 0) true s = some (.tuple [.bool false], s) := by
 unfold nextK qgb
 have hb : Nat.blt pos l = false := by
  cases hc : Nat.blt pos l with
  | false => rfl
  | true => rw [blt_true] at hc; omega
 simp only [cond_true, show Nat.beq 0 0 = true from rfl, h, oB, qat ho, hb, cond_false]
theorem qnw (l : List UInt8) : qfr E0 9 (sv l) s = some (.ptr s.next 0, nw s (.siter l.length (qal l) 0)) := by
 unfold qfr
 rw [und9]; rfl
theorem put_on {b : Nat} {o : O} (ho : s.on = false) : (s.put b o).on = false := ho
end
theorem dec_bad0 : decP 2 (qal bad2) 0 = (47, 1) := by decide +kernel
theorem dec_bad1 : decP 2 (qal bad2) 1 = (0, 1) := by decide +kernel
theorem L78_bad (self : EV) (N : Nat) (nk : Ac → St → Rs) (ek : Nat → Ac → St → Rs) (n : Nat) (b : Nat) (S : St) (ho : S.on = false) (h : S.heap.get b = some (.siter 2 (qal bad2) 0)) (hb : b < S.next) :
 ∃ S', L99_20 self N nk ek (n + 3) (.ptr b 0) S = ek 9 (fr 187 []) S' ∧ Grew (fun x => x = b) S S' := by
 have g0 : (S.put b (.siter 2 (qal bad2) (0 + (decP 2 (qal bad2) 0).2))).heap.get b = some (.siter 2 (qal bad2) 1) := by rw [qbp, if_pos rfl, dec_bad0]; rfl
 have g1 : ((S.put b (.siter 2 (qal bad2) (0 + (decP 2 (qal bad2) 0).2))).put b (.siter 2 (qal bad2) (1 + (decP 2 (qal bad2) 1).2))).heap.get b = some (.siter 2 (qal bad2) 2) := by rw [qbp, if_pos rfl, dec_bad1]; rfl
 refine ⟨_, ?_, (qbl (s := S) b (.siter 2 (qal bad2) (0 + (decP 2 (qal bad2) 0).2))).trans (qbl b (.siter 2 (qal bad2) (1 + (decP 2 (qal bad2) 1).2)))⟩
 rw [qm6, nextK_at ho h (by omega), dec_bad0]
 simp only [oB, qa8, List.getElem?_cons_zero, List.getElem?_cons_succ, ifK_bool, cond_true, binV_ii]
 rw [intsV_eql, show decide (((47 : Nat) : Int) = 65533) = false by decide]
 simp only [oB, ifK_bool, cond_false]
 rw [dec_bad0] at g0 g1
 rw [qm6, nextK_at (put_on ho) g0 (by omega), dec_bad1]
 simp only [oB, qa8, List.getElem?_cons_zero, List.getElem?_cons_succ, ifK_bool, cond_true, binV_ii]
 rw [intsV_eql, show decide (((0 : Nat) : Int) = 65533) = false by decide]
 simp only [oB, ifK_bool, cond_false]
 rw [dec_bad1] at g1
 rw [qm6, nextK_end (put_on (put_on ho)) g1 (by omega)]
 simp only [oB, qa8, List.getElem?_cons_zero, ifK_bool, cond_false]
theorem L78_enc (self : EV) (N : Nat) (nk : Ac → St → Rs) (ek : Nat → Ac → St → Rs) (n : Nat) (a : List UInt8) (l : UInt8) (h1 : 1 ≤ a.length) (h3 : a.length ≤ 3) (hl : 128 ≤ l.toNat) (S : St) (ho : S.on = false)
 (h63 : ∀ (s : List UInt8) (c : UInt8) S, self.f 47 [sv s, .int .u8 (c.toNat : Int)] S = some (.ret (.int .i64 (ixB s c)), S)) :
 L99_48 self N nk ek (n + 1) (sv bad2) (sv (a ++ [l])) (.int .i64 (a.length : Int)) (.int .i64 (a.length : Int)) S = some (.ret (.int .i64 (-1)), S) ∨ L99_48 self N nk ek (n + 1) (sv bad2) (sv (a ++ [l])) (.int .i64 (a.length : Int)) (.int .i64 (a.length : Int)) S = ek 1 (fr 187 []) S := by
 rw [L99_48_eq]
 simp only [lnStr_sv, oB, binV_ii, intsV_lss, show bad2.length = 2 from rfl]
 by_cases h2 : a.length = 1
 · left
   have hlast : (a ++ [l])[1]'(by simp; omega) = l := by rw [List.getElem_append_right (by omega)]; simp [h2]
   rw [h2]
   simp only [show decide (((1 : Nat) : Int) < ((2 : Nat) : Int)) = true by decide, ifK_bool, cond_true, qi2 bad2 .i64 1 (by decide), qi2 (a ++ [l]) .i64 1 (by simp; omega), hlast, oB, binV_ii, intsV_neq, qbv ho]
   have hne : decide (((bad2[1]'(by decide)).toNat : Int) = (l.toNat : Int)) = false := by
    rw [decide_eq_false_iff_not]
    show ¬ ((0 : Nat) : Int) = (l.toNat : Int)
    omega
   rw [hne]
   simp only [Bool.not_false, cond_true, intsV_add, oB]
   rw [show IntKind.i64.wrap (((1 : Nat) : Int) + 1) = ((2 : Nat) : Int) by decide, qly und9 bad2 (bounds_lo .i64 (show 2 ≤ bad2.length by decide)) (Nat.le_refl _)]
   simp only [oB, qi2 (a ++ [l]) .i64 1 (by simp; omega), hlast]
   rw [show List.take (bad2.length - 2) (List.drop 2 bad2) = [] from rfl, h63 [] l, show ixB [] l = -1 from rfl]
   simp only [qeg, binV_ii, intsV_lss, show decide ((-1 : Int) < 0) = true by decide, oB, ifK_bool, cond_true, qbv ho, qcn]
 · right
   rw [show decide ((a.length : Int) < ((2 : Nat) : Int)) = false by simp; omega]
   rfl
theorem convertV_rune {E : Env} {src dst : TypeId} {k k' : IntKind} (hs : und E src = some (.int k)) (hd : und E dst = some .string) (n : Int) (S : St) : qb8 E src dst (.int k' n) S = some (sv (Utf8.encode n).data.toList, S) := by
 unfold qb8 sv
 rw [hs, hd]
 rfl
structure RuneIn where
 r : Nat
 hr : r ≤ 1114111
noncomputable def kfIndexRune : KF := qd6 (fun p : RuneIn => [sv bad2, .int .i32 (p.r : Int)]) (fun p => En.ret (.int .i64 (ixR p.r)))
theorem qn2 (r : Nat) (hr : r ≤ 1114111) (S : St) : kfIndexRune.run [sv bad2, .int .i32 (r : Int)] S = some (.ret (.int .i64 (ixR r)), S) :=
 qc5 (enc := fun p : RuneIn => [sv bad2, .int .i32 (p.r : Int)]) (out := fun p => En.ret (.int .i64 (ixR p.r))) (fun p q h => by
  simp only [List.cons.injEq, V.int.injEq, true_and, and_true] at h
  rw [show p.r = q.r by omega]) ⟨r, hr⟩ S
theorem F78_far (self : EV) (m : Nat) (x : V) (b1 v : Bool) (a : List UInt8) (l : UInt8) (h1 : 1 ≤ a.length) (h3 : a.length ≤ 3) (hl : 128 ≤ l.toNat) (S : St) (ho : S.on = false)
 (h63 : ∀ (s : List UInt8) (c : UInt8) S, self.f 47 [sv s, .int .u8 (c.toNat : Int)] S = some (.ret (.int .i64 (ixB s c)), S))
 (e0 : qab E0 .leq 21 true false (.int .i32 0) x = some (.bool true)) (e1 : qab E0 .lss 21 false true x (.int .i32 128) = some (.bool false)) (e2 : qab E0 .eql 21 false true x (.int .i32 65533) = some (.bool b1))
 (h82 : self.f 103 [x] S = some (.ret (.bool v), S)) (hcv : qb8 E0 21 9 x S = some (sv (a ++ [l]), S)) :
 ∃ S', F99 self (m + 3) (sv bad2) x S = some (.ret (.int .i64 (-1)), S') ∧ Grew (fun _ => False) S S' := by
 rw [F99_eq, e0]
 simp only [oB, qa7, cond_true]
 rw [e1]
 simp only [oB, qag, cond_true, ifK_bool, cond_false]
 rw [e2]
 cases b1 with
 | true =>
  simp only [oB, ifK_bool, cond_true, qnw]
  have hg := qc6 ho (fun _ => False) (.siter bad2.length (qal bad2) 0)
  obtain ⟨S', h1, h2⟩ := L78_bad self (m + 3) (R99_16 self (m + 3) (qaw E0 self Try.f99) (exB 0 (qaw E0 self Try.f99) qad)) (exB 9 (R99_16 self (m + 3) (qaw E0 self Try.f99) (exB 0 (qaw E0 self Try.f99) qad)) (exB 0 (qaw E0 self Try.f99) qad)) m S.next (nw S (.siter bad2.length (qal bad2) 0)) (nw_on ho _) (by rw [qem, if_pos rfl]; rfl) (by show S.next < S.next + 1; omega)
  refine ⟨S', ?_, hg.own (Nat.le_refl _) h2⟩
  rw [h1, exB_same, R99_16_eq]
 | false =>
  simp only [oB, ifK_bool, cond_false]
  rw [h82]
  simp only [callP_ret, unV, oB, ifK_bool]
  cases v with
  | false => exact ⟨S, rfl, Grew.refl _ _⟩
  | true =>
   refine ⟨S, ?_, Grew.refl _ _⟩
   rw [Bool.not_true, cond_false, hcv, oB, lnStr_sv, oB, binV_ii, intsV_sub]
   rw [show (((a ++ [l]).length : Nat) : Int) - 1 = (a.length : Int) by simp, qby (by omega) (by omega), oB]
   have hL := L78_enc self (m + 3) (R99_46 self (m + 3) (qaw E0 self Try.f99) (exB 0 (qaw E0 self Try.f99) qad)) (exB 1 (R99_46 self (m + 3) (qaw E0 self Try.f99) (exB 0 (qaw E0 self Try.f99) qad)) (exB 0 (qaw E0 self Try.f99) qad)) (m + 2) a l h1 h3 hl S ho h63
   rcases hL with hL | hL
   · exact hL
   · exact hL.trans (by rw [exB_same, R99_46_eq])
theorem F78_spec (self : EV) (m r : Nat) (S : St) (ho : S.on = false)
 (h63 : ∀ (s : List UInt8) (c : UInt8) S, self.f 47 [sv s, .int .u8 (c.toNat : Int)] S = some (.ret (.int .i64 (ixB s c)), S))
 (h82 : ∀ S, ∃ v : Bool, self.f 103 [.int .i32 (r : Int)] S = some (.ret (.bool v), S)) :
 ∃ S', F99 self (m + 3) (sv bad2) (.int .i32 (r : Int)) S = some (.ret (.int .i64 (ixR r)), S') ∧ Grew (fun _ => False) S S' := by
 have e0 : qab E0 .leq 21 true false (.int .i32 0) (.int .i32 (r : Int)) = some (.bool true) := by rw [binV_ii, intsV_leq, show decide ((0 : Int) ≤ (r : Int)) = true by simp]
 by_cases h128 : r < 128
 · have hc : (UInt8.ofNat r).toNat = r := qoe (by omega)
   have h := h63 bad2 (UInt8.ofNat r) S
   rw [ixB_bad2, hc] at h
   refine ⟨S, ?_, Grew.refl _ _⟩
   rw [F99_eq, e0]
   simp only [oB, qa7, cond_true, binV_ii, intsV_lss]
   rw [show decide ((r : Int) < 128) = true by simp; omega]
   simp only [oB, qag, cond_true, ifK_bool, cvI_int]
   rw [wrap_u8 (by omega) (by omega), h]
   rfl
 · have e1 : qab E0 .lss 21 false true (.int .i32 (r : Int)) (.int .i32 128) = some (.bool false) := by rw [binV_ii, intsV_lss, show decide ((r : Int) < 128) = false by simp; omega]
   have e2 : qab E0 .eql 21 false true (.int .i32 (r : Int)) (.int .i32 65533) = some (.bool (decide ((r : Int) = 65533))) := by rw [binV_ii, intsV_eql]
   obtain ⟨v, hv⟩ := h82 S
   obtain ⟨a, l, ha, h1, h3, hl⟩ := enc_last r (by omega)
   have hcv : qb8 E0 21 9 (.int .i32 (r : Int)) S = some (sv (a ++ [l]), S) := by
    rw [← ha]
    exact convertV_rune und21 und9 _ S
   have hx : ixR r = -1 := by unfold ixR; rw [if_neg (by omega), if_neg (by omega)]
   rw [hx]
   exact F78_far self m _ _ v a l h1 h3 hl S ho h63 e0 e1 e2 hv hcv
theorem kn78 {K : FuncId → Option KF} (hK : KnOk Try.prog E0 K) (h63 : K 47 = some kfIndexByte) (h82 : K 103 = none) : KnWell Try.prog E0 99 kfIndexRune :=
 qd2 (fn := Try.f99) (c := C99) (d := B99) qm1 hK (by kernel_rfl) (by kernel_rfl) (qa3 C99 _ (by kernel_rfl)) fun p S ho => by
  obtain ⟨S', h1, h2⟩ := F78_spec (ev E0 K 1) (qa1 - 3) p.r S ho (fun s c S => by rw [qaq h63, qgv]) (fun S => by
   obtain ⟨v, hv⟩ := F82_spec (ev E0 K 0) qa1 p.r S
   exact ⟨v, qb5 (c := C103) (d := B103) (by kernel_rfl) (by kernel_rfl) (qa3 C103 _ (by kernel_rfl)) h82 hv⟩)
  rw [show qa1 - 3 + 3 = qa1 by unfold qa1; omega] at h1
  exact ⟨1, .ret (.int .i64 (ixR p.r)), S', h1, h2, Fz.same (.int _ _)⟩
theorem byteP_at {l : List UInt8} {i : Nat} (h : i < l.length) : qci (qal l) i = l[i].toNat := qnq i l l[i] (List.getElem?_eq_getElem h)
theorem decP_ascii {l : List UInt8} {i : Nat} (h : i < l.length) (hc : l[i].toNat < 128) : decP l.length (qal l) i = (l[i].toNat, 1) := by
 unfold decP
 rw [byteP_at h, blt_true.2 hc]; rfl
theorem qhg {l : List UInt8} {j : Nat} (h : qhw l.length (qal l) j = true) : ∃ hj : j < l.length, 128 ≤ l[j].toNat := by
 unfold qhw at h
 rw [Bool.and_eq_true, blt_true, Go.Proofs.Ytmeohejdafbodaa.Ev.beq_true] at h
 obtain ⟨h1, h2⟩ := h
 rw [byteP_at h1] at h2
 exact ⟨h1, by omega⟩
structure Far (l : List UInt8) (i : Nat) (p : Nat × Nat) : Prop where
 lo : 128 ≤ p.1
 hi : p.1 ≤ 1114111
 pos : 1 ≤ p.2
 fit : i + p.2 ≤ l.length
 all : ∀ j, j < p.2 → ∃ hj : i + j < l.length, 128 ≤ l[i + j].toNat
theorem far_one {l : List UInt8} {i : Nat} (h : i < l.length) (hc : 128 ≤ l[i].toNat) {r : Nat} (h1 : 128 ≤ r) (h2 : r ≤ 1114111) : Far l i (r, 1) :=
 ⟨h1, h2, Nat.le_refl _, by show i + 1 ≤ _; omega, fun j hj => by
  have hj' : j < 1 := hj
  obtain rfl : j = 0 := by omega
  exact ⟨h, hc⟩⟩
theorem far_if {l : List UInt8} {i : Nat} (h : i < l.length) (hc : 128 ≤ l[i].toNat) {w X : Nat} (b : Bool) (hb : b = true → 128 ≤ X ∧ X ≤ 1114111) (h1 : 1 ≤ w) (hfit : i + w ≤ l.length)
 (hall : ∀ j, j < w → ∃ hj : i + j < l.length, 128 ≤ l[i + j].toNat) : Far l i (bif b then (X, w) else (65533, 1)) := by
 cases b with
 | true => exact ⟨(hb rfl).1, (hb rfl).2, h1, hfit, hall⟩
 | false => exact far_one h hc (by omega) (by omega)
theorem validP_le {X : Nat} (h : validP X = true) : X ≤ 1114111 := by
 unfold validP at h
 rw [Bool.or_eq_true, blt_true, Bool.and_eq_true, ble_true, ble_true] at h
 omega
theorem decP_far {l : List UInt8} {i : Nat} (h : i < l.length) (hc : 128 ≤ l[i].toNat) : Far l i (decP l.length (qal l) i) := by
 unfold decP
 rw [byteP_at h]
 have hlt := l[i].toNat_lt
 have h0 : Nat.blt l[i].toNat 128 = false := by
  cases hb : Nat.blt l[i].toNat 128 with
  | false => rfl
  | true => rw [blt_true] at hb; omega
 rw [h0, cond_false]
 cases h2 : (Nat.beq (l[i].toNat / 32) 6 && qhw l.length (qal l) (i + 1)) with
 | true =>
  rw [Bool.and_eq_true, Go.Proofs.Ytmeohejdafbodaa.Ev.beq_true] at h2
  obtain ⟨c1, c2⟩ := qhg h2.2
  rw [cond_true]
  refine far_if h hc _ (fun hb => ?_) (by omega) (by omega) fun j hj => ?_
  · rw [ble_true] at hb; omega
  · match j, hj with
    | 0, _ => exact ⟨h, hc⟩
    | 1, _ => exact ⟨c1, c2⟩
 | false =>
 rw [cond_false]
 cases h3 : (Nat.beq (l[i].toNat / 16) 14 && qhw l.length (qal l) (i + 1) && qhw l.length (qal l) (i + 2)) with
 | true =>
  rw [Bool.and_eq_true, Bool.and_eq_true] at h3
  obtain ⟨c1, c2⟩ := qhg h3.1.2
  obtain ⟨d1, d2⟩ := qhg h3.2
  rw [cond_true]
  refine far_if h hc _ (fun hb => ?_) (by omega) (by omega) fun j hj => ?_
  · rw [Bool.and_eq_true, ble_true] at hb
    exact ⟨Nat.le_trans (by omega) hb.1, validP_le hb.2⟩
  · match j, hj with
    | 0, _ => exact ⟨h, hc⟩
    | 1, _ => exact ⟨c1, c2⟩
    | 2, _ => exact ⟨d1, d2⟩
 | false =>
 rw [cond_false]
 cases h4 : (Nat.beq (l[i].toNat / 8) 30 && qhw l.length (qal l) (i + 1) && qhw l.length (qal l) (i + 2) && qhw l.length (qal l) (i + 3)) with
 | true =>
  rw [Bool.and_eq_true, Bool.and_eq_true, Bool.and_eq_true] at h4
  obtain ⟨c1, c2⟩ := qhg h4.1.1.2
  obtain ⟨d1, d2⟩ := qhg h4.1.2
  obtain ⟨e1, e2⟩ := qhg h4.2
  rw [cond_true]
  refine far_if h hc _ (fun hb => ?_) (by omega) (by omega) fun j hj => ?_
  · rw [Bool.and_eq_true, ble_true] at hb
    exact ⟨Nat.le_trans (by omega) hb.1, validP_le hb.2⟩
  · match j, hj with
    | 0, _ => exact ⟨h, hc⟩
    | 1, _ => exact ⟨c1, c2⟩
    | 2, _ => exact ⟨d1, d2⟩
    | 3, _ => exact ⟨e1, e2⟩
 | false =>
  rw [cond_false]
  exact far_one h hc (by omega) (by omega)
def qf5 (s : List UInt8) (pos : Nat) : Option Nat := ((s.drop pos).findIdx? qba).map fun j => pos + j
theorem anyAt_end {s : List UInt8} {pos : Nat} (h : s.length ≤ pos) : qf5 s pos = none := by unfold qf5; rw [List.drop_eq_nil_of_le h]; rfl
theorem anyAt_hit {s : List UInt8} {pos : Nat} (h : pos < s.length) (hb : qba s[pos] = true) : qf5 s pos = some pos := by
 unfold qf5
 rw [List.drop_eq_getElem_cons h, List.findIdx?_cons, if_pos hb]; rfl
theorem qma {s : List UInt8} {pos : Nat} (h : pos < s.length) (hb : qba s[pos] = false) : qf5 s pos = qf5 s (pos + 1) := by
 unfold qf5
 rw [List.drop_eq_getElem_cons h, List.findIdx?_cons, if_neg (by rw [hb]; simp), Option.map_map]
 congr 1
 funext j
 show pos + (j + 1) = pos + 1 + j
 omega
theorem anyAt_skip {s : List UInt8} : ∀ (w pos : Nat), (∀ j, j < w → ∃ hj : pos + j < s.length, qba s[pos + j] = false) → qf5 s pos = qf5 s (pos + w)
 | 0, pos, _ => rfl
 | w + 1, pos, h => by
  obtain ⟨h0, hb⟩ := h 0 (by omega)
  rw [qma (pos := pos) h0 hb, anyAt_skip w (pos + 1) fun j hj => by
   obtain ⟨h1, h2⟩ := h (j + 1) (by omega)
   have e : pos + 1 + j = pos + (j + 1) := by omega
   exact ⟨by omega, by simp only [e]; exact h2⟩]
  congr 1
  omega
theorem bad_iff (c : UInt8) : qba c = decide (0 ≤ ixR c.toNat) := by
 unfold qba ixR
 rw [u8_eq c 47, u8_eq c 0, show UInt8.toNat 47 = 47 from rfl, show UInt8.toNat 0 = 0 from rfl]
 by_cases h1 : c.toNat = 47
 · simp [h1]
 · by_cases h2 : c.toNat = 0
   · simp [h2]
   · simp only [h1, h2, if_false]
     rw [Bool.eq_iff_iff]
     simp
     omega
theorem far_ok {c : UInt8} (h : 128 ≤ c.toNat) : qba c = false := by
 rw [bad_iff]
 unfold ixR
 rw [if_neg (by omega), if_neg (by omega)]; rfl
theorem ixR_far {r : Nat} (h : 128 ≤ r) : ixR r = -1 := by unfold ixR; rw [if_neg (by omega), if_neg (by omega)]
def outAny (L : Rs) (E : St → Rs) (o : Option Nat) (S' : St) : Prop :=
 match o with
 | some j => L = some (.ret (.int .i64 (j : Int)), S')
 | none => L = E S'
theorem L77_spec (self : EV) (N : Nat) (nk : Ac → St → Rs) (ek : Nat → Ac → St → Rs) (s : List UInt8) (b : Nat)
 (h78 : ∀ (r : Nat) S, r ≤ 1114111 → self.f 99 [sv bad2, .int .i32 (r : Int)] S = some (.ret (.int .i64 (ixR r)), S)) :
 ∀ (k pos n : Nat) (S : St), s.length ≤ pos + k → k < n → pos ≤ s.length → S.on = false → S.heap.get b = some (.siter s.length (qal s) pos) →
 ∃ S', outAny (L95_27 self N nk ek n (sv bad2) (.ptr b 0) S) (fun S' => ek 2 (fr 55 []) S') (qf5 s pos) S' ∧ Grew (fun x => x = b) S S'
 | k, pos, 0, S, hk, hn, hp, ho, hb => by omega
 | k, pos, n + 1, S, hk, hn, hp, ho, hb => by
  by_cases hend : pos = s.length
  · subst hend
    refine ⟨S, ?_, Grew.refl _ _⟩
    rw [anyAt_end (Nat.le_refl _), L95_27_eq, nextK_end ho hb (Nat.le_refl _)]
    rfl
  · have hlt : pos < s.length := by omega
    obtain ⟨k, rfl⟩ : ∃ k', k = k' + 1 := ⟨k - 1, by omega⟩
    have hstep : ∀ r w : Nat, decP s.length (qal s) pos = (r, w) → r ≤ 1114111 → 1 ≤ w → pos + w ≤ s.length →
     (ixR r = -1 → qf5 s pos = qf5 s (pos + w)) → (0 ≤ ixR r → qf5 s pos = some pos) → (ixR r = -1 ∨ 0 ≤ ixR r) →
     ∃ S', outAny (L95_27 self N nk ek (n + 1) (sv bad2) (.ptr b 0) S) (fun S' => ek 2 (fr 55 []) S') (qf5 s pos) S' ∧ Grew (fun x => x = b) S S' := by
     intro r w hd hr hw hfit hno hyes hor
     have hgr := qbl (s := S) b (.siter s.length (qal s) (pos + w))
     rw [L95_27_eq, nextK_at ho hb hlt, hd]
     rw [oB]
     simp only [qa8, List.getElem?_cons_zero, List.getElem?_cons_succ]
     rw [oB, ifK_bool, cond_true, oB, oB, h78 r _ hr, callP_ret, binV_ii, intsV_geq, oB, ifK_bool]
     rcases hor with hneg | hge
     · rw [hneg, show decide ((0 : Int) ≤ -1) = false by decide, cond_false, hno hneg]
       obtain ⟨S', h1, h2⟩ := L77_spec self N nk ek s b h78 k (pos + w) n (S.put b (.siter s.length (qal s) (pos + w))) (by omega) (by omega) hfit ho (by rw [qbp, if_pos rfl])
       exact ⟨S', h1, hgr.trans h2⟩
     · rw [decide_eq_true hge, cond_true, hyes hge]
       exact ⟨_, rfl, hgr⟩
    by_cases hc : s[pos].toNat < 128
    · refine hstep _ 1 (decP_ascii hlt hc) (by omega) (by omega) (by omega) (fun h => qma hlt ?_) (fun h => anyAt_hit hlt ?_) ?_
      · rw [bad_iff, h]; rfl
      · rw [bad_iff]; exact decide_eq_true h
      · unfold ixR; split
        · right; omega
        · split
          · right; omega
          · left; rfl
    · have hf := decP_far hlt (by omega)
      have hx := ixR_far hf.lo
      exact hstep (decP s.length (qal s) pos).1 (decP s.length (qal s) pos).2 rfl hf.hi hf.pos hf.fit (fun _ => anyAt_skip _ _ fun j hj => by
       obtain ⟨h1, h2⟩ := hf.all j hj
       exact ⟨h1, far_ok h2⟩) (fun h => absurd h (by rw [hx]; decide)) (.inl hx)
theorem ixA_ptr (len z : Nat) (g : Bool) (k : Nat) (ik : IntKind) {b off n : Nat} (h : n < len) : ixA len z g k (.ptr b off) (.int ik (n : Int)) = some (.ptr b (off + n * z)) := by
 show (bif Nat.blt n len then some (V.ptr b (off + n * z)) else none) = _
 rw [blt_true.2 h]; rfl
theorem big256 : 256 < big := by unfold big; decide
theorem F81_spec (self : EV) (N : Nat) {b e : Nat} {t : Tr V} (c : UInt8) (S : St) (ho : S.on = false) (h : AgAt S b e 256 t) {v : V} (ht : t.get c.toNat = some v) : F102 self N (.ptr b 0) (.int .u8 (c.toNat : Int)) S = some (.ret v, S) := by
 have hc := c.toNat_lt
 rw [F102_eq, show qji (.ptr b 0) = some (.ptr b 0) from rfl, oB, ixA_ptr 256 1 false 1 .u8 hc, oB, Nat.zero_add, Nat.mul_one, h.ld1 ho big256 hc ht]
 rfl
def IsSet (t : Tr V) : Prop := ∀ c : UInt8, t.get c.toNat = some (.bool (qba c))
theorem F80_new (self : EV) (N : Nat) (x0 : V) (S : St) : F101 self N x0 S = (some (nwP 127 256 (Tr.ofListFrom .nil (List.replicate 256 (.bool false)) 0) S)).bind fun p0 =>
 L101_8 self N (qm8 self N (qaw E0 self Try.f101) qad) (exB 0 (qm8 self N (qaw E0 self Try.f101) qad) qad) N x0 p0.1 (.int .i64 0) p0.2 := by kernel_rfl
theorem isSet_made : IsSet (((Tr.ofListFrom .nil (List.replicate 256 (.bool false)) 0).set (.bool true) 47).set (.bool true) 0) := fun c => by
 have hc := c.toNat_lt
 rw [Tr.get_set, Tr.get_set, Tr.get_ofList]
 unfold qba
 rw [u8_eq c 47, u8_eq c 0, show UInt8.toNat 47 = 47 from rfl, show UInt8.toNat 0 = 0 from rfl]
 by_cases h0 : c.toNat = 0
 · rw [if_pos h0, h0]; rfl
 · rw [if_neg h0]
   by_cases h1 : c.toNat = 47
   · rw [if_pos h1, h1]; rfl
   · rw [if_neg h1, List.getElem?_replicate, if_pos hc]
     have e1 : decide ((c.toNat : Int) = ((47 : Nat) : Int)) = false := by simp; omega
     have e2 : decide ((c.toNat : Int) = ((0 : Nat) : Int)) = false := by simp; omega
     rw [e1, e2]; rfl
theorem L80_step (self : EV) (N : Nat) (nk : Ac → St → Rs) (ek : Nat → Ac → St → Rs) (n i : Nat) (hi : i < 2) {b e : Nat} {t : Tr V} (S : St) (ho : S.on = false) (h : AgAt S b e 256 t) :
 ∃ S', L101_8 self N nk ek (n + 1) (sv bad2) (.ptr b 0) (.int .i64 (i : Int)) S = L101_8 self N nk ek n (sv bad2) (.ptr b 0) (.int .i64 ((i + 1 : Nat) : Int)) S' ∧ AgAt S' b e 256 (t.set (.bool true) (bad2[i]'hi).toNat) ∧ Grew (fun x => x = b) S S' := by
 obtain ⟨S', h1, h2, h3, _⟩ := h.st1 (i := (bad2[i]'hi).toNat) (v := .bool true) ho big256 (by omega) (bad2[i]'hi).toNat_lt rfl rfl rfl
 refine ⟨S', ?_, h2, h3⟩
 have hlt : decide (((bad2[i]'hi).toNat : Int) ≥ 128) = false := by
  match i, hi with
  | 0, _ => rfl
  | 1, _ => rfl
 rw [L101_8_eq, lnStr_sv, oB, binV_ii, intsV_lss, qfe (show i < bad2.length from hi), oB, ifK_bool, cond_true, qi2 bad2 .i64 i hi, oB, binV_ii, intsV_geq]
 rw [show decide ((128 : Int) ≤ ((bad2[i]'hi).toNat : Int)) = false from hlt, oB, ifK_bool, cond_false, ixA_ptr 256 1 false 1 .u8 (bad2[i]'hi).toNat_lt, oB, Nat.zero_add, Nat.mul_one, h1, oB, binV_ii, intsV_add, qbk (by omega), oB]
theorem AgAt.stSame {s : St} (ho : s.on = false) {b e z : Nat} {t : Tr V} (h : AgAt s b e z t) (hz : z < big) : ∃ w, stP z (.ptr b 0) (.agg z t) s = some (.tuple [], w) ∧ AgAt w b e z t ∧ Grew (fun x => x = b) s w := by
 obtain ⟨w, h1, h2, h3, _⟩ := h.stA ho hz t
 exact ⟨w, h1, h2, h3⟩
theorem F80_spec (self : EV) (m : Nat) (S : St) (ho : S.on = false) : ∃ t S', F101 self (m + 3) (sv bad2) S = some (.ret (.tuple [.agg 256 t, .bool true]), S') ∧ IsSet t ∧ Grew (fun _ => False) S S' := by
 obtain ⟨k1, k2, k3⟩ := ag_new ho 127 256 (Tr.ofListFrom .nil (List.replicate 256 (.bool false)) 0)
 have hset := isSet_made
 have hon : (nwP 127 256 (Tr.ofListFrom .nil (List.replicate 256 (.bool false)) 0) S).2.on = false := nw_on ho _
 rw [F80_new, oB, qel]
 generalize (nwP 127 256 (Tr.ofListFrom .nil (List.replicate 256 (.bool false)) 0) S).2 = S1 at *
 obtain ⟨S2, a1, a2, a3⟩ := L80_step self (m + 3) (qm8 self (m + 3) (qaw E0 self Try.f101) qad) (exB 0 (qm8 self (m + 3) (qaw E0 self Try.f101) qad) qad) (m + 2) 0 (by decide) S1 hon k1
 obtain ⟨S3, b1, b2, b3⟩ := L80_step self (m + 3) (qm8 self (m + 3) (qaw E0 self Try.f101) qad) (exB 0 (qm8 self (m + 3) (qaw E0 self Try.f101) qad) qad) (m + 1) 1 (by decide) S2 (a3.on.trans hon) a2
 have on3 := b3.on.trans (a3.on.trans hon)
 obtain ⟨S4, c1, c2, c3⟩ := b2.stSame on3 big256
 refine ⟨_, S4, ?_, hset, k2.own (Nat.le_refl _) (a3.trans (b3.trans c3))⟩
 rw [show (V.int .i64 0) = .int .i64 ((0 : Nat) : Int) from rfl, a1, b1, L101_8_eq, lnStr_sv, oB, binV_ii, intsV_lss, qga (show bad2.length ≤ 1 + 1 by decide), oB, ifK_bool, cond_false, exB_same, R101_2_eq, b2.ldA on3 big256, oB]
 dsimp only
 rw [c1, oB]
 dsimp only
 rw [c2.ldrA (c3.on.trans on3) big256]
 rfl
theorem qm5 (self : EV) (N : Nat) (nk : Ac → St → Rs) (ek : Nat → Ac → St → Rs) (s : List UInt8) (hs : s.length < 9223372036854775808) (b : Nat) (S : St) (h81 : ∀ c : UInt8, self.f 102 [.ptr b 0, .int .u8 (c.toNat : Int)] S = some (.ret (.bool (qba c)), S)) :
 ∀ (r : List UInt8) (i n : Nat), s.drop i = r → r.length < n → outAny (L95_55 self N nk ek n (sv s) (.ptr b 0) (.int .i64 (i : Int)) S) (fun S => ek 0 (fr 55 []) S) (qf5 s i) S
 | r, i, 0, _, hn => by omega
 | [], i, n + 1, hi, hn => by
  rw [anyAt_end (qbq hi), L95_55_eq, lnStr_sv, oB, binV_ii, intsV_lss, qga (qbq hi)]
  rfl
 | c :: r, i, n + 1, hi, hn => by
  obtain ⟨hlt, hc, hr, hmem⟩ := qd0 hi
  rw [L95_55_eq, lnStr_sv, oB, binV_ii, intsV_lss, qfe hlt, oB, ifK_bool, cond_true, qi2 s .i64 i hlt, hc, oB, h81 c, callP_ret, ifK_bool]
  cases hb : qba c with
  | true =>
   rw [anyAt_hit hlt (by rw [hc]; exact hb)]
   rfl
  | false =>
   rw [qma hlt (by rw [hc]; exact hb), cond_false, binV_ii, intsV_add, qbk (by omega), oB]
   exact qm5 self N nk ek s hs b S h81 r (i + 1) n hr (by simp at hn; omega)
def outI (o : Option Nat) : Int := match o with | some j => (j : Int) | none => -1
theorem F77_short (self : EV) (m : Nat) (s : List UInt8) (hs : s.length < m) (S : St) (ho : S.on = false)
 (h78 : ∀ (r : Nat) S, r ≤ 1114111 → self.f 99 [sv bad2, .int .i32 (r : Int)] S = some (.ret (.int .i64 (ixR r)), S)) :
 ∃ S', qkp self m (qaw E0 self Try.f95) qad (fr 55 [(0, sv s), (1, sv bad2)]) S = some (.ret (.int .i64 (outI (qf5 s 0))), S') ∧ Grew (fun _ => False) S S' := by
 have hg := qc6 ho (fun _ => False) (.siter s.length (qal s) 0)
 obtain ⟨S', h1, h2⟩ := L77_spec self m (R95_23 self m (fun a s => qaz [4] a fun a => qaw E0 self Try.f95 a s) qad) (exB 2 (R95_23 self m (fun a s => qaz [4] a fun a => qaw E0 self Try.f95 a s) qad) qad) s S.next h78 s.length 0 m (nw S (.siter s.length (qal s) 0)) (by omega) hs (by omega) (nw_on ho _) (by rw [qem, if_pos rfl])
 refine ⟨S', ?_, hg.own (Nat.le_refl _) h2⟩
 rw [R95_22_eq, qnw, oB]
 unfold outAny at h1
 unfold outI
 cases hx : qf5 s 0 with
 | some j => rw [hx] at h1; exact h1
 | none =>
  rw [hx] at h1
  exact h1.trans (by dsimp only; rw [exB_same, R95_23_eq])
theorem F77_new (self : EV) (N : Nat) (x0 x1 : V) (S : St) : F95 self N x0 x1 S =
(qab E0 .eql 9 false true x1 (sv [])).bind fun t2 =>
ifK t2 (
some (.ret (.int .i64 (-1)), S)) (
(qdp x1 S).bind fun p5 =>
(qab E0 .eql 3 false true p5.1 (.int .i64 1)).bind fun t6 =>
ifK t6 (
(ixS x1 (.int .i64 0)).bind fun t8 =>
(cvI .i32 t8 p5.2).bind fun p9 =>
(qab E0 .geq 21 false true p9.1 (.int .i32 128)).bind fun t12 =>
ifK t12 (
qay (self.f 99 [x0, (.int .i32 65533)] p9.2) fun t16 S16 =>
some (.ret t16, S16)) (
qay (self.f 99 [x0, p9.1] p9.2) fun t20 S20 =>
some (.ret t20, S20))) (
(qdp x0 p5.2).bind fun p41 =>
qay (self.f 100 [p41.1] p41.2) fun t42 S42 =>
ifK t42 (
qay (self.f 101 [x1] S42) fun t44 S44 =>
(qa8 t44 0).bind fun t46 =>
(qa8 t44 1).bind fun t47 =>
(some (nwP 127 256 (Tr.ofListFrom .nil (List.replicate 256 (V.bool false)) 0) S44)).bind fun p48 =>
(stP 256 p48.1 t46 p48.2).bind fun p49 =>
ifK t47 (
L95_55 self N (R95_52 self N (qkp self N (qaw E0 self Try.f95) qad) qad) (exB 0 (R95_52 self N (qkp self N (qaw E0 self Try.f95) qad) qad) qad) N x0 p48.1 (.int .i64 0) p49.2) (
qkp self N (qaw E0 self Try.f95) qad (fr 55 [(0, x0), (1, x1)]) p49.2)) (
qkp self N (qaw E0 self Try.f95) qad (fr 55 [(0, x0), (1, x1)]) S42))) := by kernel_rfl
theorem ag_lay {s : St} (ho : s.on = false) (e : Nat) (t0 u : Tr V) : ∃ w, stP 256 (.ptr s.next 0) (.agg 256 u) (nwP e 256 t0 s).2 = some (.tuple [], w) ∧ AgAt w s.next e 256 u ∧ Grew (fun _ => False) s w := by
 obtain ⟨k1, k2, _⟩ := ag_new ho e 256 t0
 obtain ⟨w, h1, h2, h3, _⟩ := k1.stA (nw_on ho _) big256 u
 exact ⟨w, h1, h2, k2.own (Nat.le_refl _) h3⟩
theorem F77_spec (self : EV) (m : Nat) (s : List UInt8) (hs : s.length < m + 3) (hs2 : s.length < 9223372036854775808) (S : St) (ho : S.on = false)
 (h78 : ∀ (r : Nat) S, r ≤ 1114111 → self.f 99 [sv bad2, .int .i32 (r : Int)] S = some (.ret (.int .i64 (ixR r)), S))
 (h79 : ∀ S, self.f 100 [.int .i64 (s.length : Int)] S = some (.ret (.bool (decide ((8 : Int) < (s.length : Int)))), S))
 (h80 : ∀ S, S.on = false → ∃ t S', self.f 101 [sv bad2] S = some (.ret (.tuple [.agg 256 t, .bool true]), S') ∧ IsSet t ∧ Grew (fun _ => False) S S')
 (h81 : ∀ (c : UInt8) S b e t, S.on = false → AgAt S b e 256 t → IsSet t → self.f 102 [.ptr b 0, .int .u8 (c.toNat : Int)] S = some (.ret (.bool (qba c)), S)) :
 ∃ S', F95 self (m + 3) (sv s) (sv bad2) S = some (.ret (.int .i64 (outI (qf5 s 0))), S') ∧ Grew (fun _ => False) S S' := by
 rw [F77_new, binV_ss, strOp_eql, show (bad2 == []) = false from rfl, oB, ifK_bool, cond_false, lnStr_sv, oB, binV_ii, intsV_eql, show decide ((bad2.length : Int) = 1) = false by decide, oB, ifK_bool, cond_false, lnStr_sv, oB, h79, callP_ret, ifK_bool]
 cases decide ((8 : Int) < (s.length : Int)) with
 | false =>
  rw [cond_false]
  exact F77_short self (m + 3) s hs S ho h78
 | true =>
  obtain ⟨t, S1, k1, k2, k3⟩ := h80 S ho
  have on1 := k3.on.trans ho
  obtain ⟨S2, l1, l2, l3⟩ := ag_lay on1 127 (Tr.ofListFrom .nil (List.replicate 256 (V.bool false)) 0) t
  have on2 := l3.on.trans on1
  have hL := qm5 self (m + 3) (R95_52 self (m + 3) (qkp self (m + 3) (qaw E0 self Try.f95) qad) qad) (exB 0 (R95_52 self (m + 3) (qkp self (m + 3) (qaw E0 self Try.f95) qad) qad) qad) s hs2 S1.next S2 (fun c => h81 c S2 _ _ t on2 l2 k2) s 0 (m + 3) rfl hs
  refine ⟨S2, ?_, k3.trans l3⟩
  rw [cond_true, k1, callP_ret, show qa8 (.tuple [.agg 256 t, .bool true]) 0 = some (.agg 256 t) from rfl, oB, show qa8 (.tuple [.agg 256 t, .bool true]) 1 = some (.bool true) from rfl, oB, oB, qel, l1, oB, ifK_bool, cond_true]
  unfold outAny at hL
  unfold outI
  cases hx : qf5 s 0 with
  | some j => rw [hx] at hL; exact hL
  | none =>
   rw [hx] at hL
   exact hL.trans (by dsimp only; rw [exB_same, R95_52_eq])
theorem outI_any (s : List UInt8) : decide (0 ≤ outI (qf5 s 0)) = s.any qba := by
 unfold qf5 outI
 rw [List.drop_zero]
 cases h : s.findIdx? qba with
 | none =>
  rw [List.findIdx?_eq_none_iff] at h
  have : s.any qba = false := by
   rw [List.any_eq_false]
   intro x hx
   rw [h x hx]; simp
  rw [this]; rfl
 | some j =>
  have : s.any qba = true := by
   rw [List.any_eq_true]
   rw [List.findIdx?_eq_some_iff_getElem] at h
   obtain ⟨h1, h2, _⟩ := h
   exact ⟨_, List.getElem_mem h1, h2⟩
  rw [this]
  simp
noncomputable def kfAny : KF := qd6 (fun p : TextIn => [sv p.s, sv bad2]) (fun p => En.ret (.bool (p.s.any qba)))
theorem kfAny_run (s : List UInt8) (hs : s.length < 9223372036854775808) (S : St) : kfAny.run [sv s, sv bad2] S = some (.ret (.bool (s.any qba)), S) :=
 qc5 (enc := fun p : TextIn => [sv p.s, sv bad2]) (out := fun p => En.ret (.bool (p.s.any qba))) (fun p q h => by
  simp only [List.cons.injEq, and_true] at h
  rw [qk0 h]) ⟨s, hs⟩ S
theorem kn74 {K : FuncId → Option KF} (hK : KnOk Try.prog E0 K) (h78 : K 99 = some kfIndexRune) (h77 : K 95 = none) (h79 : K 100 = none) (h80 : K 101 = none) (h81 : K 102 = none) : KnWell Try.prog E0 79 kfAny :=
 qd2 (fn := Try.f79) (c := C79) (d := B79) qm1 hK (by kernel_rfl) (by kernel_rfl) (qa3 C79 _ (by kernel_rfl)) fun p S ho => by
  obtain ⟨S', h1, h2⟩ := F77_spec (ev E0 K 1) (qa1 - 3) p.s (by have := p.hs; unfold qa1; omega) p.hs S ho (fun r S hr => by rw [qaq h78, qn2 r hr])
   (fun S => qb5 (c := C100) (d := B100) (by kernel_rfl) (by kernel_rfl) (qa3 C100 _ (by kernel_rfl)) h79 (show F100 (ev E0 K 0) qa1 _ S = _ by rw [F100_eq, binV_ii, intsV_gtr]; rfl))
   (fun S ho => by
    obtain ⟨t, S', h1, h2, h3⟩ := F80_spec (ev E0 K 0) (qa1 - 3) S ho
    rw [show qa1 - 3 + 3 = qa1 by unfold qa1; omega] at h1
    exact ⟨t, S', qb5 (c := C101) (d := B101) (by kernel_rfl) (by kernel_rfl) (qa3 C101 _ (by kernel_rfl)) h80 h1, h2, h3⟩)
   (fun c S b e t ho h hs => qb5 (c := C102) (d := B102) (by kernel_rfl) (by kernel_rfl) (qa3 C102 _ (by kernel_rfl)) h81 (F81_spec (ev E0 K 0) qa1 c S ho h (hs c)))
  rw [show qa1 - 3 + 3 = qa1 by unfold qa1; omega] at h1
  refine ⟨2, .ret (.bool (p.s.any qba)), S', (?_ : F79 (ev E0 K 2) qa1 (sv p.s) (sv bad2) S = _), h2, Fz.same (.bool _)⟩
  rw [F79_eq, qb5 (c := C95) (d := B95) (by kernel_rfl) (by kernel_rfl) (qa3 C95 _ (by kernel_rfl)) h77 h1, callP_ret, binV_ii, intsV_geq, outI_any]
  rfl
theorem kn66 {K : FuncId → Option KF} (hK : KnOk Try.prog E0 K) (h74 : K 79 = some kfAny) : KnWell Try.prog E0 50 (qi3 qgs) :=
 knText hK (fn := Try.f50) (c := C50) (d := B50) qgs (fun _ _ => .bool _) (by kernel_rfl) (by kernel_rfl) (qa3 C50 _ (by kernel_rfl)) 1 fun s S hs ho => by
  refine ⟨S, (?_ : F50 (ev E0 K 1) qa1 (sv s) S = _), Grew.refl _ _⟩
  have h := kfAny_run s hs S
  rw [F50_eq, lnStr_sv, oB, binV_ii, intsV_geq, oB, qa7, oB, qgs, nameOk]
  rw [show decide ((1 : Int) ≤ (s.length : Int)) = decide (1 ≤ s.length) by rw [decide_eq_decide]; omega]
  cases decide (1 ≤ s.length) with
  | false => rfl
  | true =>
   simp only [cond_true, lnStr_sv, oB, binV_ii, intsV_leq, qag, qa7, Bool.true_and]
   rw [show decide ((s.length : Int) ≤ 56) = decide (s.length ≤ 56) by rw [decide_eq_decide]; omega]
   cases decide (s.length ≤ 56) with
   | false => rfl
   | true =>
    simp only [cond_true, oB, Bool.true_and]
    rw [show (sv [47, 0]) = sv bad2 from rfl, qaq h74, h, callP_ret]
    simp only [unV, oB, qag, qa7, cond_true]
    cases s.any qba with
    | true => rfl
    | false =>
     simp only [Bool.not_false, cond_true, oB, binV_ss, strOp_neq, qag, qa7, Bool.true_and]
     cases (s == [46]) with
     | true => rfl
     | false =>
      simp only [Bool.not_false, cond_true, oB, binV_ss, strOp_neq, qag, qa7, Bool.true_and]
theorem L65_spec (self : EV) (N : Nat) (nk : Ac → St → Rs) (ek : Nat → Ac → St → Rs) (x : Nd) (b : Nat) (ok : NdOk x) (h66 : ∀ y ∈ x.kids, ∀ s, self.f 50 [sv y.name] s = some (.ret (qgs y.name), s))
 (h36 : ∀ y ∈ x.kids, ∀ s, self.f 25 [qc7 y] s = some (.ret (gMay y), s)) :
 ∀ (r : List Nd) (i n : Nat) (S : St), x.kids.drop i = r → r.length < n → NodeAt S b x → b < S.next →
 ∃ S', L49_7 self N nk ek n (.ptr b 0) (qe2 (qfv x.kids)) (.int .i64 (x.kids.length : Int)) (.int .i64 (i : Int)) S = (bif mayL (qkg x.kids i) r then ek 0 (fr 38 []) S' else some (.ret (.bool false), S')) ∧ Grew (fun _ => False) S S'
 | r, i, 0, S, _, hn, _, _ => by omega
 | [], i, n + 1, S, hi, hn, hx, hb => by
  refine ⟨S, ?_, Grew.refl _ _⟩
  rw [L49_7_eq, binV_ii, intsV_lss, qga (qbq hi), mayL]
  rfl
 | y :: r, i, n + 1, S, hi, hn, hx, hb => by
  obtain ⟨hlt, hy, hr, hmem⟩ := qd0 hi
  have hfew := ok.few
  obtain ⟨S1, k1, k2, k3, k4⟩ := qhn hx.on (Tr.ofListFrom .nil [(sv []), (.int .i64 0), (.bool false), (sv []), .nilslice] 0) y
  have hx1 := hx.grew hb (fun h => h) k3
  rw [L49_7_eq, mayL, binV_ii, intsV_lss, qfe hlt]
  simp only [oB, ifK_bool, cond_true]
  rw [qcy x.kids i hlt, hy]
  simp only [oB, qgw, qel]
  rw [k1]
  simp only [oB, faP_ptr, Nat.zero_add, k2.o0, qge, h66 y hmem, qeg, qgs, unV]
  cases hnm : nameOk y.name with
  | false =>
   simp only [qah, qa7, qao, Bool.not_false, Bool.not_true, oB, cond_true, cond_false, qeg, qag, qcn]
   rw [qgq]
   · refine ⟨S1, ?_, k3⟩
     simp only [qbv k2.on, ifK_bool, cond_true, Bool.false_and, cond_false]
   · rfl
  | true =>
   simp only [qah, qa7, qao, Bool.not_false, Bool.not_true, oB, cond_true, cond_false, k2.oA, qcn, qge, h36 y hmem, qeg, gMay, unV, qag]
   cases hmy : mayN y with
   | false =>
    simp only [qah, qa7, qao, Bool.not_false, Bool.not_true, oB, cond_true, cond_false, qag, qcn, qge]
    rw [qgq]
    · refine ⟨S1, ?_, k3⟩
      simp only [qbv k2.on, qlv k2.on, ifK_bool, cond_true, Bool.false_and, Bool.and_false, cond_false]
    · rfl
   | true =>
    simp only [qah, qa7, qao, Bool.not_false, Bool.not_true, oB, cond_true, cond_false, qag, binV_ii, intsV_gtr, Bool.and_self, Bool.true_and, qcn, qge]
    cases i with
    | zero =>
     simp only [show decide ((0 : Int) < ((0 : Nat) : Int)) = false from rfl, cond_false, oB, qcn, qge, qa7, qah]
     rw [qgq]
     · obtain ⟨S', h1, h2⟩ := L65_spec self N nk ek x b ok h66 h36 r (0 + 1) n S1 hr (by simp at hn; omega) hx1 (by omega)
       refine ⟨S', ?_, k3.trans h2⟩
       simp only [qbv k2.on, qlv k2.on, ifK_bool, cond_false, oB, binV_ii, intsV_add, qbk (show 0 < 9223372036854775807 by omega), qkg, qhp, Bool.true_and]
       rw [h1]
       simp only [qkg, List.getElem?_eq_getElem hlt, hy, Option.map_some]
     · rfl
    | succ j =>
     have hj : j < x.kids.length := by omega
     simp only [show decide ((0 : Int) < ((j + 1 : Nat) : Int)) = true by simp, cond_true, oB, qa7, qah, hx1.o4, qcn, qge, binV_ii, intsV_sub]
     rw [show ((j + 1 : Nat) : Int) - 1 = (j : Int) by omega, qby (by omega) (by omega)]
     simp only [oB, qcy x.kids j hj, faP_kid, qge, ld1_csv, k2.o0, qcn, binV_ss, strOp_geq]
     rw [qgq]
     · cases hbl : Op.bytesLess x.kids[j].name y.name with
       | false =>
        refine ⟨S1, ?_, k3⟩
        simp only [qbv k2.on, qlv k2.on, ifK_bool, qkg, qhp, List.getElem?_eq_getElem hj, Option.map_some, hbl, Bool.not_false, cond_true, Bool.false_and, cond_false]
       | true =>
        obtain ⟨S', h1, h2⟩ := L65_spec self N nk ek x b ok h66 h36 r (j + 1 + 1) n S1 hr (by simp at hn; omega) hx1 (by omega)
        refine ⟨S', ?_, k3.trans h2⟩
        simp only [qbv k2.on, qlv k2.on, ifK_bool, qkg, qhp, List.getElem?_eq_getElem hj, Option.map_some, hbl, Bool.not_true, cond_false, Bool.true_and, binV_ii, intsV_add, qbk (show j + 1 < 9223372036854775807 by omega), oB]
        rw [h1]
        simp only [qkg, List.getElem?_eq_getElem hlt, hy, Option.map_some]
     · rfl
section
variable {self : EV} {N : Nat} {x : Nd} {b : Nat} {S : St}
theorem isEmpty_dec (l : List Nd) : decide ((l.length : Int) = 0) = l.isEmpty := by
 cases l with
 | nil => rfl
 | cons y l => simp; omega
theorem F59_spec (hx : NodeAt S b x) : F43 self N (.ptr b 0) S = some (.ret (.bool x.kids.isEmpty), S) := by
 rw [F43_eq]
 simp only [faP_ptr, Nat.zero_add, oB, hx.f4, qc8, binV_ii, intsV_eql, isEmpty_dec]
theorem F60_spec (hx : NodeAt S b x) : F44 self N (.ptr b 0) S = some (.ret (.bool (!x.exec)), S) := by
 rw [F44_eq]
 simp only [faP_ptr, Nat.zero_add, oB, hx.f2, unV]
theorem F64_spec (hx : NodeAt S b x) : F48 self N (.ptr b 0) S = some (.ret (.bool (x.data == [])), S) := by
 rw [F48_eq]
 simp only [faP_ptr, Nat.zero_add, oB, hx.f3, binV_ss, strOp_eql]
def dataOk (d : List UInt8) : Bool := decide (1 ≤ d.length) && decide (d.length ≤ 255) && !(d.any (· == 0))
theorem ixB_none (d : List UInt8) (c : UInt8) : decide (ixB d c < 0) = !(d.any (· == c)) := by
 unfold ixB
 cases h : d.findIdx? (fun x => x == c) with
 | none =>
  rw [List.findIdx?_eq_none_iff] at h
  have : d.any (fun x => x == c) = false := by
   rw [List.any_eq_false]
   intro x hx
   rw [h x hx]; simp
  rw [this]; rfl
 | some j =>
  have : d.any (fun x => x == c) = true := by
   rw [List.any_eq_true]
   rw [List.findIdx?_eq_some_iff_getElem] at h
   obtain ⟨h1, h2, _⟩ := h
   exact ⟨_, List.getElem_mem h1, h2⟩
  rw [this]
  simp
theorem F62_spec (hx : NodeAt S b x) (h63 : ∀ s, self.f 47 [sv x.data, .int .u8 0] s = some (.ret (.int .i64 (ixB x.data 0)), s)) : F46 self N (.ptr b 0) S = some (.ret (.bool (dataOk x.data)), S) := by
 rw [F46_eq]
 simp only [faP_ptr, Nat.zero_add, oB, hx.f3, lnStr_sv, binV_ii, intsV_geq, qa7]
 unfold dataOk
 rw [show decide ((1 : Int) ≤ (x.data.length : Int)) = decide (1 ≤ x.data.length) by rw [decide_eq_decide]; omega]
 cases decide (1 ≤ x.data.length) with
 | false => rfl
 | true =>
  simp only [cond_true, oB, hx.f3, lnStr_sv, binV_ii, intsV_leq, qa7, qag, Bool.true_and]
  rw [show decide ((x.data.length : Int) ≤ 255) = decide (x.data.length ≤ 255) by rw [decide_eq_decide]; omega]
  cases decide (x.data.length ≤ 255) with
  | false => rfl
  | true =>
   simp only [cond_true, oB, hx.f3, h63, callP_ret, binV_ii, intsV_lss, ixB_none, qa7, qag, Bool.true_and]
end
theorem F65_spec (self : EV) (x : Nd) (b : Nat) (ok : NdOk x) (h66 : ∀ y ∈ x.kids, ∀ s, self.f 50 [sv y.name] s = some (.ret (qgs y.name), s))
 (h36 : ∀ y ∈ x.kids, ∀ s, self.f 25 [qc7 y] s = some (.ret (gMay y), s)) (S : St) (hx : NodeAt S b x) (hb : b < S.next) :
 ∃ S', F49 self qa1 (.ptr b 0) S = some (.ret (.bool (mayL none x.kids)), S') ∧ Grew (fun _ => False) S S' := by
 obtain ⟨S', h1, h2⟩ := L65_spec self qa1 (R49_1 self qa1 (qaw E0 self Try.f49) qad) (exB 0 (R49_1 self qa1 (qaw E0 self Try.f49) qad) qad) x b ok h66 h36 x.kids 0 qa1 S rfl (by have := ok.few; unfold qa1; omega) hx hb
 refine ⟨S', ?_, h2⟩
 rw [F49_eq, faP_ptr, oB, Nat.zero_add, hx.f4, oB, qc8, oB, show (V.int .i64 0) = .int .i64 ((0 : Nat) : Int) from rfl, h1, show qkg x.kids 0 = none from rfl]
 cases mayL none x.kids with
 | true => rw [cond_true, exB_same, R49_1_eq]
 | false => rfl
theorem bsP_three (s : St) (ho : s.on = false) (e : Nat) (z a b c : V) (ha : a.size = 1 ∧ qa9 a = false ∧ a.cells = Go.Proofs.Ytmeohejdafbodaa.Ev.one a) (hb : b.size = 1 ∧ qa9 b = false ∧ b.cells = Go.Proofs.Ytmeohejdafbodaa.Ev.one b) (hc : c.size = 1 ∧ qa9 c = false ∧ c.cells = Go.Proofs.Ytmeohejdafbodaa.Ev.one c) :
 ∃ t, bsP e 1 3 (Go.Proofs.Ytmeohejdafbodaa.Ev.one z) [(0, a), (1, b), (2, c)] s = some (.slice s.next 0 3 3, t) ∧ RowAt t s.next e 1 [Go.Proofs.Ytmeohejdafbodaa.Ev.one a, Go.Proofs.Ytmeohejdafbodaa.Ev.one b, Go.Proofs.Ytmeohejdafbodaa.Ev.one c] ∧ Grew (fun _ => False) s t ∧ t.next = s.next + 1 := by
 refine ⟨nw s (.cells e 1 3 false ((((Tr.tab 3 3 fun _ => Go.Proofs.Ytmeohejdafbodaa.Ev.one z).set (Go.Proofs.Ytmeohejdafbodaa.Ev.one a) 0).set (Go.Proofs.Ytmeohejdafbodaa.Ev.one b) 1).set (Go.Proofs.Ytmeohejdafbodaa.Ev.one c) 2)), ?_, ?_, qc6 ho _ _, rfl⟩
 · unfold bsP qfh qfh qfh qfh
   rw [ha.1, ha.2.1, ha.2.2, hb.1, hb.2.1, hb.2.2, hc.1, hc.2.1, hc.2.2]
   simp only [Nat.beq_refl, Bool.not_false, Bool.and_true, show Nat.blt 0 3 = true from rfl, show Nat.blt 1 3 = true from rfl, show Nat.blt 2 3 = true from rfl, cond_true, Tr.setC_eq, oB]
 · refine qf2 ho (by omega) rfl (by unfold big; omega) fun i t h => ?_
   simp only [Tr.get_set]
   match i, h with
   | 0, h => simpa using h
   | 1, h => simpa using h
   | 2, h => simpa using h
   | i + 3, h => simp at h
def Ans (self : EV) (b : Nat) (x : Nd) (f : FuncId) (v : Bool) : Prop := ∀ S, NodeAt S b x → b < S.next → ∃ S', qfx E0 self (.fn (.func f) [] [.ptr b 0]) [] S = some (.ret (.bool v), S') ∧ Grew (fun _ => False) S S'
theorem qeu {E : Env} {self : EV} {f : FuncId} (h : E.ext.get f = none) (hb : qbm E f = true) (x y args : List V) (S : St) : qfx E self (.fn (.func f) x y) args S = self.f f (x ++ args ++ y) S := by
 show (match E.ext.get f with | some k => _ | none => _) = _
 rw [h]
 show (bif qbm E f then self.f f (x ++ args ++ y) S else none) = _
 rw [hb]; rfl
theorem L75_step (self : EV) (N : Nat) (nk : Ac → St → Rs) (ek : Nat → Ac → St → Rs) (n i : Nat) (hi : i < 3) (b r : Nat) (x : Nd) (l : List (Tr V)) (fs : FuncId) (v : Bool) (hl : l.length = 3) (hf : l[i]? = some (Go.Proofs.Ytmeohejdafbodaa.Ev.one (.fn (.func fs) [] [.ptr b 0])))
 (h72 : ∀ S, NodeAt S b x → b < S.next → ∃ S', qfx E0 self (.fn (.func 77) [] []) [.fn (.func fs) [] [.ptr b 0]] S = some (.ret (.bool (!v)), S') ∧ Grew (fun _ => False) S S')
 (S : St) (hx : NodeAt S b x) (hb : b < S.next) (hrow : RowAt S r 29 1 l) :
 ∃ S', L93_6 self N nk ek (n + 1) (.slice r 0 3 3) (.fn (.func 77) [] []) (.int .i64 3) (.int .i64 (i : Int)) S = (bif v then L93_6 self N nk ek n (.slice r 0 3 3) (.fn (.func 77) [] []) (.int .i64 3) (.int .i64 ((i + 1 : Nat) : Int)) S' else some (.ret (.int .i64 (i : Int)), S')) ∧ Grew (fun _ => False) S S' := by
 obtain ⟨S', h1, h2⟩ := h72 S hx hb
 refine ⟨S', ?_, h2⟩
 have hix : ixP 1 (.slice r 0 3 3) (.int .i64 (i : Int)) = some (.ptr r i) := by
  show (bif Nat.blt i 3 then some (V.ptr r (0 + i * 1)) else none) = _
  rw [blt_true.2 hi, Nat.zero_add, Nat.mul_one]; rfl
 rw [L93_6_eq, binV_ii, intsV_lss, show decide ((i : Int) < 3) = true by simp; omega, oB, ifK_bool, cond_true, hix, oB, ld1_ptr, hrow.ld1 hx.on hf, oB]
 dsimp only
 rw [h1, callP_ret, ifK_bool]
 cases v with
 | true => rw [Bool.not_true, cond_false, cond_true, binV_ii, intsV_add, qbk (by omega), oB]
 | false => rfl
theorem body59 : E0.ext.get 43 = none ∧ qbm E0 43 = true := ⟨by kernel_rfl, by kernel_rfl⟩
theorem body60 : E0.ext.get 44 = none ∧ qbm E0 44 = true := ⟨by kernel_rfl, by kernel_rfl⟩
theorem body62 : E0.ext.get 46 = none ∧ qbm E0 46 = true := ⟨by kernel_rfl, by kernel_rfl⟩
theorem body64 : E0.ext.get 48 = none ∧ qbm E0 48 = true := ⟨by kernel_rfl, by kernel_rfl⟩
theorem body65 : E0.ext.get 49 = none ∧ qbm E0 49 = true := ⟨by kernel_rfl, by kernel_rfl⟩
theorem body72 : E0.ext.get 77 = none ∧ qbm E0 77 = true := ⟨by kernel_rfl, by kernel_rfl⟩
section
variable {K : FuncId → Option KF}
theorem call72 (h : K 77 = none) (n : Nat) {b : Nat} {x : Nd} {f : FuncId} {v : Bool} (ha : Ans (ev E0 K n) b x f v) (S : St) (hx : NodeAt S b x) (hb : b < S.next) :
 ∃ S', qfx E0 (ev E0 K (n + 1)) (.fn (.func 77) [] []) [.fn (.func f) [] [.ptr b 0]] S = some (.ret (.bool (!v)), S') ∧ Grew (fun _ => False) S S' := by
 obtain ⟨S', h1, h2⟩ := ha S hx hb
 refine ⟨S', ?_, h2⟩
 rw [qeu body72.1 body72.2, List.nil_append, List.append_nil]
 exact qb5 (c := C77) (d := B77) (by kernel_rfl) (by kernel_rfl) (qa3 C77 _ (by kernel_rfl)) h (show F77 (ev E0 K n) qa1 _ S = _ by rw [F77_eq, h1]; rfl)
def first3 (v0 v1 v2 : Bool) : Int := if v0 then if v1 then if v2 then -1 else 2 else 1 else 0
theorem F75_spec (h72 : K 77 = none) (n : Nat) {b r : Nat} {x : Nd} {f0 f1 f2 : FuncId} {v0 v1 v2 : Bool} (a0 : Ans (ev E0 K n) b x f0 v0) (a1 : Ans (ev E0 K n) b x f1 v1) (a2 : Ans (ev E0 K n) b x f2 v2) (m : Nat) (S : St) (hx : NodeAt S b x) (hb : b < S.next) (hr : r < S.next)
 (hrow : RowAt S r 29 1 [Go.Proofs.Ytmeohejdafbodaa.Ev.one (.fn (.func f0) [] [.ptr b 0]), Go.Proofs.Ytmeohejdafbodaa.Ev.one (.fn (.func f1) [] [.ptr b 0]), Go.Proofs.Ytmeohejdafbodaa.Ev.one (.fn (.func f2) [] [.ptr b 0])]) :
 ∃ S', F93 (ev E0 K (n + 1)) (m + 4) (.slice r 0 3 3) (.fn (.func 77) [] []) S = some (.ret (.int .i64 (first3 v0 v1 v2)), S') ∧ Grew (fun _ => False) S S' := by
 rw [F93_eq, lnS_slice, oB]
 generalize hnk : R93_1 (ev E0 K (n + 1)) (m + 4) (qaw E0 (ev E0 K (n + 1)) Try.f93) qad = nk
 obtain ⟨S1, s1, g1⟩ := L75_step (ev E0 K (n + 1)) (m + 4) nk (exB 0 nk qad) (m + 3) 0 (by decide) b r x _ f0 v0 rfl rfl (fun S => call72 h72 n a0 S) S hx hb hrow
 rw [show (V.int .i64 ((3 : Nat) : Int)) = .int .i64 3 from rfl, show (V.int .i64 0) = .int .i64 ((0 : Nat) : Int) from rfl, s1]
 unfold first3
 cases v0 with
 | false => exact ⟨S1, rfl, g1⟩
 | true =>
 have hx1 := hx.grew hb (fun h => h) g1
 have hb1 := Nat.lt_of_lt_of_le hb g1.next
 have hr1 := Nat.lt_of_lt_of_le hr g1.next
 have hrow1 := hrow.grew hr (fun h => h) g1
 obtain ⟨S2, s2, g2⟩ := L75_step (ev E0 K (n + 1)) (m + 4) nk (exB 0 nk qad) (m + 2) 1 (by decide) b r x _ f1 v1 rfl rfl (fun S => call72 h72 n a1 S) S1 hx1 hb1 hrow1
 rw [cond_true, show 0 + 1 = 1 from rfl, s2]
 cases v1 with
 | false => exact ⟨S2, rfl, g1.trans g2⟩
 | true =>
 have hx2 := hx1.grew hb1 (fun h => h) g2
 have hb2 := Nat.lt_of_lt_of_le hb1 g2.next
 have hrow2 := hrow1.grew hr1 (fun h => h) g2
 obtain ⟨S3, s3, g3⟩ := L75_step (ev E0 K (n + 1)) (m + 4) nk (exB 0 nk qad) (m + 1) 2 (by decide) b r x _ f2 v2 rfl rfl (fun S => call72 h72 n a2 S) S2 hx2 hb2 hrow2
 rw [cond_true, show 1 + 1 = 2 from rfl, s3]
 cases v2 with
 | false => exact ⟨S3, rfl, g1.trans (g2.trans g3)⟩
 | true =>
 refine ⟨S3, ?_, g1.trans (g2.trans g3)⟩
 rw [cond_true, show 2 + 1 = 3 from rfl, L93_6_eq, binV_ii, intsV_lss, show decide (((3 : Nat) : Int) < 3) = false by decide, oB, ifK_bool, cond_false, exB_same, ← hnk, R93_1_eq]
 rfl
theorem first3_all (v0 v1 v2 : Bool) : (!decide (0 ≤ first3 v0 v1 v2)) = (v0 && v1 && v2) := by cases v0 <;> cases v1 <;> cases v2 <;> rfl
theorem all3 (h61 : K 45 = none) (h71 : K 76 = none) (h72 : K 77 = none) (h75 : K 93 = none) (n : Nat) {b r : Nat} {x : Nd} {f0 f1 f2 : FuncId} {v0 v1 v2 : Bool} (a0 : Ans (ev E0 K n) b x f0 v0) (a1 : Ans (ev E0 K n) b x f1 v1) (a2 : Ans (ev E0 K n) b x f2 v2) (S : St) (hx : NodeAt S b x) (hb : b < S.next) (hr : r < S.next)
 (hrow : RowAt S r 29 1 [Go.Proofs.Ytmeohejdafbodaa.Ev.one (.fn (.func f0) [] [.ptr b 0]), Go.Proofs.Ytmeohejdafbodaa.Ev.one (.fn (.func f1) [] [.ptr b 0]), Go.Proofs.Ytmeohejdafbodaa.Ev.one (.fn (.func f2) [] [.ptr b 0])]) :
 ∃ S', (ev E0 K (n + 4)).f 45 [.slice r 0 3 3] S = some (.ret (.bool (v0 && v1 && v2)), S') ∧ Grew (fun _ => False) S S' := by
 obtain ⟨S', h1, h2⟩ := F75_spec h72 n a0 a1 a2 (qa1 - 4) S hx hb hr hrow
 rw [show qa1 - 4 + 4 = qa1 by unfold qa1; omega] at h1
 have e75 := qb5 (c := C93) (d := B93) (by kernel_rfl) (by kernel_rfl) (qa3 C93 _ (by kernel_rfl)) h75 h1
 have h71' : F76 (ev E0 K (n + 2)) qa1 (.slice r 0 3 3) (.fn (.func 77) [] []) S = some (.ret (.bool (decide (0 ≤ first3 v0 v1 v2))), S') := by
  rw [F76_eq, e75, callP_ret, binV_ii, intsV_geq]
  rfl
 have e71 := qb5 (c := C76) (d := B76) (by kernel_rfl) (by kernel_rfl) (qa3 C76 _ (by kernel_rfl)) h71 h71'
 have h61' : F45 (ev E0 K (n + 3)) qa1 (.slice r 0 3 3) S = some (.ret (.bool (v0 && v1 && v2)), S') := by
  rw [F45_eq, e71, callP_ret, ← first3_all]
  rfl
 exact ⟨S', qb5 (c := C45) (d := B45) (by kernel_rfl) (by kernel_rfl) (qa3 C45 _ (by kernel_rfl)) h61 h61', h2⟩
theorem ans59 (h : K 43 = none) (n : Nat) (b : Nat) (x : Nd) : Ans (ev E0 K (n + 1)) b x 43 x.kids.isEmpty := fun S hx hb => by
 refine ⟨S, ?_, Grew.refl _ _⟩
 rw [qeu body59.1 body59.2]
 exact qb5 (c := C43) (d := B43) (by kernel_rfl) (by kernel_rfl) (qa3 C43 _ (by kernel_rfl)) h (F59_spec (self := ev E0 K n) (N := qa1) hx)
theorem ans60 (h : K 44 = none) (n : Nat) (b : Nat) (x : Nd) : Ans (ev E0 K (n + 1)) b x 44 (!x.exec) := fun S hx hb => by
 refine ⟨S, ?_, Grew.refl _ _⟩
 rw [qeu body60.1 body60.2]
 exact qb5 (c := C44) (d := B44) (by kernel_rfl) (by kernel_rfl) (qa3 C44 _ (by kernel_rfl)) h (F60_spec (self := ev E0 K n) (N := qa1) hx)
theorem ans64 (h : K 48 = none) (n : Nat) (b : Nat) (x : Nd) : Ans (ev E0 K (n + 1)) b x 48 (x.data == []) := fun S hx hb => by
 refine ⟨S, ?_, Grew.refl _ _⟩
 rw [qeu body64.1 body64.2]
 exact qb5 (c := C48) (d := B48) (by kernel_rfl) (by kernel_rfl) (qa3 C48 _ (by kernel_rfl)) h (F64_spec (self := ev E0 K n) (N := qa1) hx)
theorem ans62 (h : K 46 = none) (h63 : K 47 = some kfIndexByte) (n : Nat) (b : Nat) (x : Nd) : Ans (ev E0 K (n + 2)) b x 46 (dataOk x.data) := fun S hx hb => by
 refine ⟨S, ?_, Grew.refl _ _⟩
 rw [qeu body62.1 body62.2]
 exact qb5 (c := C46) (d := B46) (by kernel_rfl) (by kernel_rfl) (qa3 C46 _ (by kernel_rfl)) h (F62_spec (self := ev E0 K (n + 1)) (N := qa1) hx fun s => by
  rw [qaq h63]
  exact qgv x.data 0 s)
theorem ans65 (h : K 49 = none) (h66 : K 50 = some (qi3 qgs)) (n : Nat) (b : Nat) (x : Nd) (ok : x.ok) (h36 : ∀ y s m, y ∈ x.kids → (ev E0 K (m + 1)).f 25 [qc7 y] s = some (.ret (gMay y), s)) : Ans (ev E0 K (n + 2)) b x 49 (mayL none x.kids) := fun S hx hb => by
 obtain ⟨S', h1, h2⟩ := F65_spec (ev E0 K (n + 1)) x b ok.at (fun y hy s => by rw [qaq h66, kfText_run _ _ (ok.at.kids y hy).at.name]) (fun y hy s => h36 y s n hy) S hx hb
 refine ⟨S', ?_, h2⟩
 rw [qeu body65.1 body65.2]
 exact qb5 (c := C49) (d := B49) (by kernel_rfl) (by kernel_rfl) (qa3 C49 _ (by kernel_rfl)) h h1
end
theorem kn36 {K : FuncId → Option KF} (hK : KnOk Try.prog E0 K) (h63 : K 47 = some kfIndexByte) (h66 : K 50 = some (qi3 qgs)) (h59 : K 43 = none) (h60 : K 44 = none) (h61 : K 45 = none) (h62 : K 46 = none) (h64 : K 48 = none) (h65 : K 49 = none) (h71 : K 76 = none) (h72 : K 77 = none) (h75 : K 93 = none) : KnWell Try.prog E0 25 (qb9 gMay) :=
 qhm hK (fn := Try.f25) (c := C25) (d := B25) gMay (fun _ _ => .bool _) (by kernel_rfl) (by kernel_rfl) (qa3 C25 _ (by kernel_rfl)) 6 fun K' hK' x S ok hself ho => by
  have e59 : K' 43 = none := by rw [hK' 43 (by decide)]; exact h59
  have e60 : K' 44 = none := by rw [hK' 44 (by decide)]; exact h60
  have e61 : K' 45 = none := by rw [hK' 45 (by decide)]; exact h61
  have e62 : K' 46 = none := by rw [hK' 46 (by decide)]; exact h62
  have e64 : K' 48 = none := by rw [hK' 48 (by decide)]; exact h64
  have e65 : K' 49 = none := by rw [hK' 49 (by decide)]; exact h65
  have e71 : K' 76 = none := by rw [hK' 76 (by decide)]; exact h71
  have e72 : K' 77 = none := by rw [hK' 77 (by decide)]; exact h72
  have e75 : K' 93 = none := by rw [hK' 93 (by decide)]; exact h75
  have e63 : K' 47 = some kfIndexByte := by rw [hK' 47 (by decide)]; exact h63
  have e66 : K' 50 = some (qi3 qgs) := by rw [hK' 50 (by decide)]; exact h66
  obtain ⟨S1, k1, k2, k3, k4⟩ := qcm ho x
  have hb : S.next < S1.next := by omega
  show ∃ S', F25 (ev E0 K' 6) qa1 (qc7 x) S = _ ∧ _
  rw [F25_eq, k1, gMay, mayN_eq, oB, faP_ptr, oB, Nat.zero_add, k2.f1, oB, binV_ii, intsV_eql, oB, ifK_bool]
  by_cases c1 : x.kind = 1
  · obtain ⟨S', h1, h2⟩ := ans59 e59 5 S.next x S1 k2 hb
    refine ⟨S', ?_, k3.trans h2⟩
    rw [decide_eq_true c1, cond_true, if_pos c1, h1]
    rfl
  · rw [decide_eq_false c1, cond_false, if_neg c1, binV_ii, intsV_eql, oB, ifK_bool]
    by_cases c3 : x.kind = 3
    · obtain ⟨S2, m1, m2, m3, m4⟩ := bsP_three S1 k2.on 29 .nilfn (.fn (.func 43) [] [.ptr S.next 0]) (.fn (.func 44) [] [.ptr S.next 0]) (.fn (.func 46) [] [.ptr S.next 0]) ⟨rfl, rfl, rfl⟩ ⟨rfl, rfl, rfl⟩ ⟨rfl, rfl, rfl⟩
      have hx2 := k2.grew hb (fun h => h) m3
      obtain ⟨S', h1, h2⟩ := all3 e61 e71 e72 e75 2 (ans59 e59 1 S.next x) (ans60 e60 1 S.next x) (ans62 e62 e63 0 S.next x) S2 hx2 (by omega) (by omega) m2
      refine ⟨S', ?_, k3.trans (m3.trans h2)⟩
      rw [decide_eq_true c3, cond_true, if_pos c3, m1, oB, h1, callP_ret]
      unfold dataOk
      generalize decide (1 ≤ x.data.length) = p1
      generalize decide (x.data.length ≤ 255) = p2
      generalize (x.data.any fun x => x == 0) = p3
      generalize x.kids.isEmpty = p4
      cases x.exec <;> cases p1 <;> cases p2 <;> cases p3 <;> cases p4 <;> rfl
    · rw [decide_eq_false c3, cond_false, if_neg c3, binV_ii, intsV_eql, oB, ifK_bool]
      by_cases c2 : x.kind = 2
      · obtain ⟨S2, m1, m2, m3, m4⟩ := bsP_three S1 k2.on 29 .nilfn (.fn (.func 44) [] [.ptr S.next 0]) (.fn (.func 48) [] [.ptr S.next 0]) (.fn (.func 49) [] [.ptr S.next 0]) ⟨rfl, rfl, rfl⟩ ⟨rfl, rfl, rfl⟩ ⟨rfl, rfl, rfl⟩
        have hx2 := k2.grew hb (fun h => h) m3
        obtain ⟨S', h1, h2⟩ := all3 e61 e71 e72 e75 2 (ans60 e60 1 S.next x) (ans64 e64 1 S.next x) (ans65 e65 e66 0 S.next x ok (fun y s m hy => hself y s m hy)) S2 hx2 (by omega) (by omega) m2
        refine ⟨S', ?_, k3.trans (m3.trans h2)⟩
        rw [decide_eq_true c2, cond_true, if_pos c2, m1, oB, h1, callP_ret]
        generalize (x.data == []) = p3
        generalize mayL none x.kids = p4
        cases x.exec <;> cases p3 <;> cases p4 <;> rfl
      · rw [decide_eq_false c2, cond_false, if_neg c2]
        exact ⟨S1, rfl, k3⟩
def qev (x : Nd) : Int := if qbx x then 3 else if x.name == [] && mayN x then if decide (2000 < (sizeT x).1) || decide (100000 < (sizeT x).2) then 3 else 0 else 2
noncomputable def qmy (x : Nd) : V := .int .i64 (qev x)
theorem kn15 {K : FuncId → Option KF} (hK : KnOk Try.prog E0 K) (h35 : K 24 = some (qb9 qde)) (h36 : K 25 = some (qb9 gMay)) (h17 : K 26 = some (qb9 qew)) : KnWell Try.prog E0 11 (qb9 qmy) :=
 knNode hK (fn := Try.f11) (c := C11) (d := B11) qmy (fun _ _ => .int _ _) (by kernel_rfl) (by kernel_rfl) (qa3 C11 _ (by kernel_rfl)) 1 fun x S ok ho => by
  obtain ⟨S1, k1, k2, k3, k4⟩ := qcm ho x
  refine ⟨S1, (?_ : F11 (ev E0 K 1) qa1 (qc7 x) S = _), k3⟩
  rw [F11_eq, k1, oB, k2.fA, oB, qaq h35, qbg _ x ok, callP_ret, qde, ifK_bool, qmy, qev]
  cases qbx x with
  | true => rfl
  | false =>
   rw [cond_false, if_neg (by simp), faP_ptr, oB, Nat.zero_add, k2.f0, oB, binV_ss, strOp_neq, oB, qah, oB]
   cases hn : (x.name == []) with
   | false => rfl
   | true =>
    simp only [Bool.not_true, Bool.not_false, cond_true, k2.fA, oB, qah, Bool.true_and]
    rw [qaq h36, qbg _ x ok, callP_ret, gMay]
    simp only [unV, oB, qag, cond_false, ifK_bool]
    cases mayN x with
    | false => rfl
    | true =>
     simp only [Bool.not_true, cond_false, k2.fA, oB, if_true]
     rw [qaq h17, qbg _ x ok, callP_ret, qew]
     simp only [qa8, List.getElem?_cons_zero, List.getElem?_cons_succ, oB, binV_ii]
     rw [intsV_gtr]
     generalize decide (2000 < (sizeT x).1) = p1
     cases p1 with
     | true => rfl
     | false =>
      simp only [oB, qah, Bool.not_false, cond_true, binV_ii]
      rw [intsV_gtr]
      generalize decide (100000 < (sizeT x).2) = p2
      cases p2 <;> rfl
theorem kn21 {K : FuncId → Option KF} (hK : KnOk Try.prog E0 K) (h34 : K 36 = some (qb9 qlc)) (h44 : K 37 = some (qb9 gMay)) (h45 : K 38 = some (qb9 qew)) : KnWell Try.prog E0 18 (qb9 qmy) :=
 knNode hK (fn := Try.f18) (c := C18) (d := B18) qmy (fun _ _ => .int _ _) (by kernel_rfl) (by kernel_rfl) (qa3 C18 _ (by kernel_rfl)) 1 fun x S ok ho => by
  obtain ⟨S1, k1, k2, k3, k4⟩ := qcm ho x
  refine ⟨S1, (?_ : F18 (ev E0 K 1) qa1 (qc7 x) S = _), k3⟩
  rw [F18_eq, k1, oB, k2.fA, oB, qaq h34, qbg _ x ok, callP_ret, qlc, binV_ii, intsV_gtr]
  rw [show decide ((12 : Int) < (qcj 14 x : Int)) = qbx x by unfold qbx; rw [decide_eq_decide]; omega]
  rw [oB, ifK_bool, qmy, qev]
  cases qbx x with
  | true => rfl
  | false =>
   rw [cond_false, if_neg (by simp), faP_ptr, oB, Nat.zero_add, k2.f0, oB, binV_ss, strOp_neq, oB, qah, oB]
   cases hn : (x.name == []) with
   | false => rfl
   | true =>
    simp only [Bool.not_true, Bool.not_false, cond_true, k2.fA, oB, qah, Bool.true_and]
    rw [qaq h44, qbg _ x ok, callP_ret, gMay]
    simp only [unV, oB, qag, cond_false, ifK_bool]
    cases mayN x with
    | false => rfl
    | true =>
     simp only [Bool.not_true, cond_false, k2.fA, oB, if_true]
     rw [qaq h45, qbg _ x ok, callP_ret, qew]
     simp only [qa8, List.getElem?_cons_zero, List.getElem?_cons_succ, oB, binV_ii]
     rw [intsV_gtr]
     generalize decide (2000 < (sizeT x).1) = p1
     cases p1 with
     | true => rfl
     | false =>
      simp only [oB, qah, Bool.not_false, cond_true, binV_ii]
      rw [intsV_gtr]
      generalize decide (100000 < (sizeT x).2) = p2
      cases p2 <;> rfl
section
variable {s : St}
structure BoxAt (s : St) (b : Nat) (t : List UInt8) : Prop where
 on : s.on = false
 bx : Bx s b 99946 [sv t]
theorem big1 : 1 < big := by unfold big; decide
variable {b : Nat} {t : List UInt8}
theorem BoxAt.ld (h : BoxAt s b t) : ld1 (.ptr b 0) s = some (sv t, s) := Bx.ld1 h.on h.bx 0 (by show 0 < 1; decide) big1
theorem BoxAt.grew {W : Nat → Prop} {u : St} (h : BoxAt s b t) (hb : b < s.next) (hw : ¬ W b) (g : Grew W s u) : BoxAt u b t := ⟨g.on.trans h.on, h.bx.grew hb hw g⟩
end
end Go.Proofs.Ytmeohejdafbodaa.W
