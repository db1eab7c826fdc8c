/-
  WHAT THE FUNCTIONS COME TO: each is read by the evaluator, printed, and told as a function of data, part 5 of 12 (no condition).
-/
import Derived.Test.YthmkdoaaciamlaaW4
namespace Go.Proofs.Ythmkdoaaciamlaa.W
open Go.Proofs.Ythmkdoaaciamlaa.Ev
theorem und9 : und E0 9 = some .string := by kernel_rfl
theorem und21 : und E0 21 = some (.int .i32) := by kernel_rfl
section
variable {s : St}
theorem nextK_at (ho : s.on = false) {b l n pos : Nat} (h : s.heap.get b = some (.siter l n pos)) (hlt : pos < l) : nextK (.ptr b 0) true s = some (.tuple [.bool true, .int .i64 (pos : Int), .int .i32 ((decP l n pos).1 : Int)], s.put b (.siter l n (pos + (decP l n pos).2))) := by
 unfold nextK getO
 simp only [cond_true, show Nat.beq 0 0 = true from rfl, h, oB, note_off ho, blt_true.2 hlt]
 unfold setO
 rw [note_off ho]; rfl
theorem nextK_end (ho : s.on = false) {b l n pos : Nat} (h : s.heap.get b = some (.siter l n pos)) (hge : l ≤ pos) : nextK (.ptr b 0) true s = some (.tuple [.bool false], s) := by
 unfold nextK getO
 have hb : Nat.blt pos l = false := by
  cases hc : Nat.blt pos l with
  | false => rfl
  | true => rw [blt_true] at hc; omega
 simp only [cond_true, show Nat.beq 0 0 = true from rfl, h, oB, note_off ho, hb, cond_false]
theorem rangeStr_sv (l : List UInt8) : rangeStrK E0 9 (sv l) s = some (.ptr s.next 0, nw s (.siter l.length (pack l) 0)) := by
 unfold rangeStrK
 rw [und9]; rfl
theorem put_on {b : Nat} {o : O} (ho : s.on = false) : (s.put b o).on = false := ho
end
theorem dec_bad0 : decP 2 (pack bad2) 0 = (47, 1) := by decide +kernel
theorem dec_bad1 : decP 2 (pack bad2) 1 = (0, 1) := by decide +kernel
theorem L78_bad (self : EV) (N : Nat) (nk : Ac → St → Rs) (ek : Nat → Ac → St → Rs) (n : Nat) (b : Nat) (S : St) (ho : S.on = false) (h : S.heap.get b = some (.siter 2 (pack bad2) 0)) (hb : b < S.next) :
 ∃ S', L78_20 self N nk ek (n + 3) (.ptr b 0) S = ek 9 (fr 187 []) S' ∧ Grew (fun x => x = b) S S' := by
 have g0 : (S.put b (.siter 2 (pack bad2) (0 + (decP 2 (pack bad2) 0).2))).heap.get b = some (.siter 2 (pack bad2) 1) := by rw [put_get, if_pos rfl, dec_bad0]; rfl
 have g1 : ((S.put b (.siter 2 (pack bad2) (0 + (decP 2 (pack bad2) 0).2))).put b (.siter 2 (pack bad2) (1 + (decP 2 (pack bad2) 1).2))).heap.get b = some (.siter 2 (pack bad2) 2) := by rw [put_get, if_pos rfl, dec_bad1]; rfl
 refine ⟨_, ?_, (grew_put (s := S) b (.siter 2 (pack bad2) (0 + (decP 2 (pack bad2) 0).2))).trans (grew_put b (.siter 2 (pack bad2) (1 + (decP 2 (pack bad2) 1).2)))⟩
 rw [L78_20_eq, nextK_at ho h (by omega), dec_bad0]
 simp only [oB, extractV, List.getElem?_cons_zero, List.getElem?_cons_succ, ifK_bool, cond_true, binV_ii]
 rw [intsV_eql, show decide (((47 : Nat) : Int) = 65533) = false by decide]
 simp only [oB, ifK_bool, cond_false]
 rw [dec_bad0] at g0 g1
 rw [L78_20_eq, nextK_at (put_on ho) g0 (by omega), dec_bad1]
 simp only [oB, extractV, List.getElem?_cons_zero, List.getElem?_cons_succ, ifK_bool, cond_true, binV_ii]
 rw [intsV_eql, show decide (((0 : Nat) : Int) = 65533) = false by decide]
 simp only [oB, ifK_bool, cond_false]
 rw [dec_bad1] at g1
 rw [L78_20_eq, nextK_end (put_on (put_on ho)) g1 (by omega)]
 simp only [oB, extractV, List.getElem?_cons_zero, ifK_bool, cond_false]
theorem L78_enc (self : EV) (N : Nat) (nk : Ac → St → Rs) (ek : Nat → Ac → St → Rs) (n : Nat) (a : List UInt8) (l : UInt8) (h1 : 1 ≤ a.length) (h3 : a.length ≤ 3) (hl : 128 ≤ l.toNat) (S : St) (ho : S.on = false)
 (h63 : ∀ (s : List UInt8) (c : UInt8) S, self.f 63 [sv s, .int .u8 (c.toNat : Int)] S = some (.ret (.int .i64 (ixB s c)), S)) :
 L78_48 self N nk ek (n + 1) (sv bad2) (sv (a ++ [l])) (.int .i64 (a.length : Int)) (.int .i64 (a.length : Int)) S = some (.ret (.int .i64 (-1)), S) ∨ L78_48 self N nk ek (n + 1) (sv bad2) (sv (a ++ [l])) (.int .i64 (a.length : Int)) (.int .i64 (a.length : Int)) S = ek 1 (fr 187 []) S := by
 rw [L78_48_eq]
 simp only [lnStr_sv, oB, binV_ii, intsV_lss, show bad2.length = 2 from rfl]
 by_cases h2 : a.length = 1
 · left
   have hlast : (a ++ [l])[1]'(by simp; omega) = l := by rw [List.getElem_append_right (by omega)]; simp [h2]
   rw [h2]
   simp only [show decide (((1 : Nat) : Int) < ((2 : Nat) : Int)) = true by decide, ifK_bool, cond_true, ixS_sv bad2 .i64 1 (by decide), ixS_sv (a ++ [l]) .i64 1 (by simp; omega), hlast, oB, binV_ii, intsV_neq, relog_onS ho]
   have hne : decide (((bad2[1]'(by decide)).toNat : Int) = (l.toNat : Int)) = false := by
    rw [decide_eq_false_iff_not]
    show ¬ ((0 : Nat) : Int) = (l.toNat : Int)
    omega
   rw [hne]
   simp only [Bool.not_false, cond_true, intsV_add, oB]
   rw [show IntKind.i64.wrap (((1 : Nat) : Int) + 1) = ((2 : Nat) : Int) by decide, slice_sv und9 bad2 (bounds_lo .i64 (show 2 ≤ bad2.length by decide)) (Nat.le_refl _)]
   simp only [oB, ixS_sv (a ++ [l]) .i64 1 (by simp; omega), hlast]
   rw [show List.take (bad2.length - 2) (List.drop 2 bad2) = [] from rfl, h63 [] l, show ixB [] l = -1 from rfl]
   simp only [callD_ret, binV_ii, intsV_lss, show decide ((-1 : Int) < 0) = true by decide, oB, ifK_bool, cond_true, relog_onS ho, onS_onS]
 · right
   rw [show decide ((a.length : Int) < ((2 : Nat) : Int)) = false by simp; omega]
   rfl
theorem convertV_rune {E : Env} {src dst : TypeId} {k k' : IntKind} (hs : und E src = some (.int k)) (hd : und E dst = some .string) (n : Int) (S : St) : convertV E src dst (.int k' n) S = some (sv (Utf8.encode n).data.toList, S) := by
 unfold convertV sv
 rw [hs, hd]
 rfl
structure RuneIn where
 r : Nat
 hr : r ≤ 1114111
noncomputable def kfIndexRune : KF := specKF (fun p : RuneIn => [sv bad2, .int .i32 (p.r : Int)]) (fun p => En.ret (.int .i64 (ixR p.r)))
theorem kfIndexRune_run (r : Nat) (hr : r ≤ 1114111) (S : St) : kfIndexRune.run [sv bad2, .int .i32 (r : Int)] S = some (.ret (.int .i64 (ixR r)), S) :=
 specKF_run (enc := fun p : RuneIn => [sv bad2, .int .i32 (p.r : Int)]) (out := fun p => En.ret (.int .i64 (ixR p.r))) (fun p q h => by
  simp only [List.cons.injEq, V.int.injEq, true_and, and_true] at h
  rw [show p.r = q.r by omega]) ⟨r, hr⟩ S
theorem F78_far (self : EV) (m : Nat) (x : V) (b1 v : Bool) (a : List UInt8) (l : UInt8) (h1 : 1 ≤ a.length) (h3 : a.length ≤ 3) (hl : 128 ≤ l.toNat) (S : St) (ho : S.on = false)
 (h63 : ∀ (s : List UInt8) (c : UInt8) S, self.f 63 [sv s, .int .u8 (c.toNat : Int)] S = some (.ret (.int .i64 (ixB s c)), S))
 (e0 : binV E0 .leq 21 true false (.int .i32 0) x = some (.bool true)) (e1 : binV E0 .lss 21 false true x (.int .i32 128) = some (.bool false)) (e2 : binV E0 .eql 21 false true x (.int .i32 65533) = some (.bool b1))
 (h82 : self.f 82 [x] S = some (.ret (.bool v), S)) (hcv : convertV E0 21 9 x S = some (sv (a ++ [l]), S)) :
 ∃ S', F78 self (m + 3) (sv bad2) x S = some (.ret (.int .i64 (-1)), S') ∧ Grew (fun _ => False) S S' := by
 rw [F78_eq, e0]
 simp only [oB, guardV_t, cond_true]
 rw [e1]
 simp only [oB, pickV, cond_true, ifK_bool, cond_false]
 rw [e2]
 cases b1 with
 | true =>
  simp only [oB, ifK_bool, cond_true, rangeStr_sv]
  have hg := grew_nw ho (fun _ => False) (.siter bad2.length (pack bad2) 0)
  obtain ⟨S', h1, h2⟩ := L78_bad self (m + 3) (R78_16 self (m + 3) (finN E0 self Try.f78) (exB 0 (finN E0 self Try.f78) noEx)) (exB 9 (R78_16 self (m + 3) (finN E0 self Try.f78) (exB 0 (finN E0 self Try.f78) noEx)) (exB 0 (finN E0 self Try.f78) noEx)) m S.next (nw S (.siter bad2.length (pack bad2) 0)) (nw_on ho _) (by rw [nw_get, if_pos rfl]; rfl) (by show S.next < S.next + 1; omega)
  refine ⟨S', ?_, hg.own (Nat.le_refl _) h2⟩
  rw [h1, exB_same, R78_16_eq]
 | false =>
  simp only [oB, ifK_bool, cond_false]
  rw [h82]
  simp only [callP_ret, unV, oB, ifK_bool]
  cases v with
  | false => exact ⟨S, rfl, Grew.refl _ _⟩
  | true =>
   refine ⟨S, ?_, Grew.refl _ _⟩
   rw [Bool.not_true, cond_false, hcv, oB, lnStr_sv, oB, binV_ii, intsV_sub]
   rw [show (((a ++ [l]).length : Nat) : Int) - 1 = (a.length : Int) by simp, wrap_i64 (by omega) (by omega), oB]
   have hL := L78_enc self (m + 3) (R78_46 self (m + 3) (finN E0 self Try.f78) (exB 0 (finN E0 self Try.f78) noEx)) (exB 1 (R78_46 self (m + 3) (finN E0 self Try.f78) (exB 0 (finN E0 self Try.f78) noEx)) (exB 0 (finN E0 self Try.f78) noEx)) (m + 2) a l h1 h3 hl S ho h63
   rcases hL with hL | hL
   · exact hL
   · exact hL.trans (by rw [exB_same, R78_46_eq])
theorem F78_spec (self : EV) (m r : Nat) (S : St) (ho : S.on = false)
 (h63 : ∀ (s : List UInt8) (c : UInt8) S, self.f 63 [sv s, .int .u8 (c.toNat : Int)] S = some (.ret (.int .i64 (ixB s c)), S))
 (h82 : ∀ S, ∃ v : Bool, self.f 82 [.int .i32 (r : Int)] S = some (.ret (.bool v), S)) :
 ∃ S', F78 self (m + 3) (sv bad2) (.int .i32 (r : Int)) S = some (.ret (.int .i64 (ixR r)), S') ∧ Grew (fun _ => False) S S' := by
 have e0 : binV E0 .leq 21 true false (.int .i32 0) (.int .i32 (r : Int)) = some (.bool true) := by rw [binV_ii, intsV_leq, show decide ((0 : Int) ≤ (r : Int)) = true by simp]
 by_cases h128 : r < 128
 · have hc : (UInt8.ofNat r).toNat = r := toNat_ofNat (by omega)
   have h := h63 bad2 (UInt8.ofNat r) S
   rw [ixB_bad2, hc] at h
   refine ⟨S, ?_, Grew.refl _ _⟩
   rw [F78_eq, e0]
   simp only [oB, guardV_t, cond_true, binV_ii, intsV_lss]
   rw [show decide ((r : Int) < 128) = true by simp; omega]
   simp only [oB, pickV, cond_true, ifK_bool, cvI_int]
   rw [wrap_u8 (by omega) (by omega), h]
   rfl
 · have e1 : binV E0 .lss 21 false true (.int .i32 (r : Int)) (.int .i32 128) = some (.bool false) := by rw [binV_ii, intsV_lss, show decide ((r : Int) < 128) = false by simp; omega]
   have e2 : binV E0 .eql 21 false true (.int .i32 (r : Int)) (.int .i32 65533) = some (.bool (decide ((r : Int) = 65533))) := by rw [binV_ii, intsV_eql]
   obtain ⟨v, hv⟩ := h82 S
   obtain ⟨a, l, ha, h1, h3, hl⟩ := enc_last r (by omega)
   have hcv : convertV E0 21 9 (.int .i32 (r : Int)) S = some (sv (a ++ [l]), S) := by
    rw [← ha]
    exact convertV_rune und21 und9 _ S
   have hx : ixR r = -1 := by unfold ixR; rw [if_neg (by omega), if_neg (by omega)]
   rw [hx]
   exact F78_far self m _ _ v a l h1 h3 hl S ho h63 e0 e1 e2 hv hcv
theorem kn78 {K : FuncId → Option KF} (hK : KnOk Try.prog E0 K) (h63 : K 63 = some kfIndexByte) (h82 : K 82 = none) : KnWell Try.prog E0 78 kfIndexRune :=
 specKF_text (fn := Try.f78) (c := C78) (d := B78) E0_ok hK (by kernel_rfl) (by kernel_rfl) (annot_isOf C78 _ (by kernel_rfl)) fun p S ho => by
  obtain ⟨S', h1, h2⟩ := F78_spec (ev E0 K 1) (rounds - 3) p.r S ho (fun s c S => by rw [ev_known h63, kfIndexByte_run]) (fun S => by
   obtain ⟨v, hv⟩ := F82_spec (ev E0 K 0) rounds p.r S
   exact ⟨v, ev_read (c := C82) (d := B82) (by kernel_rfl) (by kernel_rfl) (annot_isOf C82 _ (by kernel_rfl)) h82 hv⟩)
  rw [show rounds - 3 + 3 = rounds by unfold rounds; omega] at h1
  exact ⟨1, .ret (.int .i64 (ixR p.r)), S', h1, h2, Fz.same (.int _ _)⟩
end Go.Proofs.Ythmkdoaaciamlaa.W
namespace Go.Proofs.Ythmkdoaaciamlaa.W
open Go.Proofs.Ythmkdoaaciamlaa.Ev
theorem byteP_at {l : List UInt8} {i : Nat} (h : i < l.length) : byteP (pack l) i = l[i].toNat := pack_at i l l[i] (List.getElem?_eq_getElem h)
theorem decP_ascii {l : List UInt8} {i : Nat} (h : i < l.length) (hc : l[i].toNat < 128) : decP l.length (pack l) i = (l[i].toNat, 1) := by
 unfold decP
 rw [byteP_at h, blt_true.2 hc]; rfl
theorem contP_at {l : List UInt8} {j : Nat} (h : contP l.length (pack l) j = true) : ∃ hj : j < l.length, 128 ≤ l[j].toNat := by
 unfold contP at h
 rw [Bool.and_eq_true, blt_true, Go.Proofs.Ythmkdoaaciamlaa.Ev.beq_true] at h
 obtain ⟨h1, h2⟩ := h
 rw [byteP_at h1] at h2
 exact ⟨h1, by omega⟩
structure Far (l : List UInt8) (i : Nat) (p : Nat × Nat) : Prop where
 lo : 128 ≤ p.1
 hi : p.1 ≤ 1114111
 pos : 1 ≤ p.2
 fit : i + p.2 ≤ l.length
 all : ∀ j, j < p.2 → ∃ hj : i + j < l.length, 128 ≤ l[i + j].toNat
theorem far_one {l : List UInt8} {i : Nat} (h : i < l.length) (hc : 128 ≤ l[i].toNat) {r : Nat} (h1 : 128 ≤ r) (h2 : r ≤ 1114111) : Far l i (r, 1) :=
 ⟨h1, h2, Nat.le_refl _, by show i + 1 ≤ _; omega, fun j hj => by
  have hj' : j < 1 := hj
  obtain rfl : j = 0 := by omega
  exact ⟨h, hc⟩⟩
theorem far_if {l : List UInt8} {i : Nat} (h : i < l.length) (hc : 128 ≤ l[i].toNat) {w X : Nat} (b : Bool) (hb : b = true → 128 ≤ X ∧ X ≤ 1114111) (h1 : 1 ≤ w) (hfit : i + w ≤ l.length)
 (hall : ∀ j, j < w → ∃ hj : i + j < l.length, 128 ≤ l[i + j].toNat) : Far l i (bif b then (X, w) else (65533, 1)) := by
 cases b with
 | true => exact ⟨(hb rfl).1, (hb rfl).2, h1, hfit, hall⟩
 | false => exact far_one h hc (by omega) (by omega)
theorem validP_le {X : Nat} (h : validP X = true) : X ≤ 1114111 := by
 unfold validP at h
 rw [Bool.or_eq_true, blt_true, Bool.and_eq_true, ble_true, ble_true] at h
 omega
theorem decP_far {l : List UInt8} {i : Nat} (h : i < l.length) (hc : 128 ≤ l[i].toNat) : Far l i (decP l.length (pack l) i) := by
 unfold decP
 rw [byteP_at h]
 have hlt := l[i].toNat_lt
 have h0 : Nat.blt l[i].toNat 128 = false := by
  cases hb : Nat.blt l[i].toNat 128 with
  | false => rfl
  | true => rw [blt_true] at hb; omega
 rw [h0, cond_false]
 cases h2 : (Nat.beq (l[i].toNat / 32) 6 && contP l.length (pack l) (i + 1)) with
 | true =>
  rw [Bool.and_eq_true, Go.Proofs.Ythmkdoaaciamlaa.Ev.beq_true] at h2
  obtain ⟨c1, c2⟩ := contP_at h2.2
  rw [cond_true]
  refine far_if h hc _ (fun hb => ?_) (by omega) (by omega) fun j hj => ?_
  · rw [ble_true] at hb; omega
  · match j, hj with
    | 0, _ => exact ⟨h, hc⟩
    | 1, _ => exact ⟨c1, c2⟩
 | false =>
 rw [cond_false]
 cases h3 : (Nat.beq (l[i].toNat / 16) 14 && contP l.length (pack l) (i + 1) && contP l.length (pack l) (i + 2)) with
 | true =>
  rw [Bool.and_eq_true, Bool.and_eq_true] at h3
  obtain ⟨c1, c2⟩ := contP_at h3.1.2
  obtain ⟨d1, d2⟩ := contP_at h3.2
  rw [cond_true]
  refine far_if h hc _ (fun hb => ?_) (by omega) (by omega) fun j hj => ?_
  · rw [Bool.and_eq_true, ble_true] at hb
    exact ⟨Nat.le_trans (by omega) hb.1, validP_le hb.2⟩
  · match j, hj with
    | 0, _ => exact ⟨h, hc⟩
    | 1, _ => exact ⟨c1, c2⟩
    | 2, _ => exact ⟨d1, d2⟩
 | false =>
 rw [cond_false]
 cases h4 : (Nat.beq (l[i].toNat / 8) 30 && contP l.length (pack l) (i + 1) && contP l.length (pack l) (i + 2) && contP l.length (pack l) (i + 3)) with
 | true =>
  rw [Bool.and_eq_true, Bool.and_eq_true, Bool.and_eq_true] at h4
  obtain ⟨c1, c2⟩ := contP_at h4.1.1.2
  obtain ⟨d1, d2⟩ := contP_at h4.1.2
  obtain ⟨e1, e2⟩ := contP_at h4.2
  rw [cond_true]
  refine far_if h hc _ (fun hb => ?_) (by omega) (by omega) fun j hj => ?_
  · rw [Bool.and_eq_true, ble_true] at hb
    exact ⟨Nat.le_trans (by omega) hb.1, validP_le hb.2⟩
  · match j, hj with
    | 0, _ => exact ⟨h, hc⟩
    | 1, _ => exact ⟨c1, c2⟩
    | 2, _ => exact ⟨d1, d2⟩
    | 3, _ => exact ⟨e1, e2⟩
 | false =>
  rw [cond_false]
  exact far_one h hc (by omega) (by omega)
def anyAt (s : List UInt8) (pos : Nat) : Option Nat := ((s.drop pos).findIdx? badByte).map fun j => pos + j
theorem anyAt_end {s : List UInt8} {pos : Nat} (h : s.length ≤ pos) : anyAt s pos = none := by unfold anyAt; rw [List.drop_eq_nil_of_le h]; rfl
theorem anyAt_hit {s : List UInt8} {pos : Nat} (h : pos < s.length) (hb : badByte s[pos] = true) : anyAt s pos = some pos := by
 unfold anyAt
 rw [List.drop_eq_getElem_cons h, List.findIdx?_cons, if_pos hb]; rfl
theorem anyAt_one {s : List UInt8} {pos : Nat} (h : pos < s.length) (hb : badByte s[pos] = false) : anyAt s pos = anyAt s (pos + 1) := by
 unfold anyAt
 rw [List.drop_eq_getElem_cons h, List.findIdx?_cons, if_neg (by rw [hb]; simp), Option.map_map]
 congr 1
 funext j
 show pos + (j + 1) = pos + 1 + j
 omega
theorem anyAt_skip {s : List UInt8} : ∀ (w pos : Nat), (∀ j, j < w → ∃ hj : pos + j < s.length, badByte s[pos + j] = false) → anyAt s pos = anyAt s (pos + w)
 | 0, pos, _ => rfl
 | w + 1, pos, h => by
  obtain ⟨h0, hb⟩ := h 0 (by omega)
  rw [anyAt_one (pos := pos) h0 hb, anyAt_skip w (pos + 1) fun j hj => by
   obtain ⟨h1, h2⟩ := h (j + 1) (by omega)
   have e : pos + 1 + j = pos + (j + 1) := by omega
   exact ⟨by omega, by simp only [e]; exact h2⟩]
  congr 1
  omega
theorem bad_iff (c : UInt8) : badByte c = decide (0 ≤ ixR c.toNat) := by
 unfold badByte ixR
 rw [u8_eq c 47, u8_eq c 0, show UInt8.toNat 47 = 47 from rfl, show UInt8.toNat 0 = 0 from rfl]
 by_cases h1 : c.toNat = 47
 · simp [h1]
 · by_cases h2 : c.toNat = 0
   · simp [h2]
   · simp only [h1, h2, if_false]
     rw [Bool.eq_iff_iff]
     simp
     omega
theorem far_ok {c : UInt8} (h : 128 ≤ c.toNat) : badByte c = false := by
 rw [bad_iff]
 unfold ixR
 rw [if_neg (by omega), if_neg (by omega)]; rfl
theorem ixR_far {r : Nat} (h : 128 ≤ r) : ixR r = -1 := by unfold ixR; rw [if_neg (by omega), if_neg (by omega)]
def outAny (L : Rs) (E : St → Rs) (o : Option Nat) (S' : St) : Prop :=
 match o with
 | some j => L = some (.ret (.int .i64 (j : Int)), S')
 | none => L = E S'
theorem L77_spec (self : EV) (N : Nat) (nk : Ac → St → Rs) (ek : Nat → Ac → St → Rs) (s : List UInt8) (b : Nat)
 (h78 : ∀ (r : Nat) S, r ≤ 1114111 → self.f 78 [sv bad2, .int .i32 (r : Int)] S = some (.ret (.int .i64 (ixR r)), S)) :
 ∀ (k pos n : Nat) (S : St), s.length ≤ pos + k → k < n → pos ≤ s.length → S.on = false → S.heap.get b = some (.siter s.length (pack s) pos) →
 ∃ S', outAny (L77_27 self N nk ek n (sv bad2) (.ptr b 0) S) (fun S' => ek 2 (fr 55 []) S') (anyAt s pos) S' ∧ Grew (fun x => x = b) S S'
 | k, pos, 0, S, hk, hn, hp, ho, hb => by omega
 | k, pos, n + 1, S, hk, hn, hp, ho, hb => by
  by_cases hend : pos = s.length
  · subst hend
    refine ⟨S, ?_, Grew.refl _ _⟩
    rw [anyAt_end (Nat.le_refl _), L77_27_eq, nextK_end ho hb (Nat.le_refl _)]
    rfl
  · have hlt : pos < s.length := by omega
    obtain ⟨k, rfl⟩ : ∃ k', k = k' + 1 := ⟨k - 1, by omega⟩
    have hstep : ∀ r w : Nat, decP s.length (pack s) pos = (r, w) → r ≤ 1114111 → 1 ≤ w → pos + w ≤ s.length →
     (ixR r = -1 → anyAt s pos = anyAt s (pos + w)) → (0 ≤ ixR r → anyAt s pos = some pos) → (ixR r = -1 ∨ 0 ≤ ixR r) →
     ∃ S', outAny (L77_27 self N nk ek (n + 1) (sv bad2) (.ptr b 0) S) (fun S' => ek 2 (fr 55 []) S') (anyAt s pos) S' ∧ Grew (fun x => x = b) S S' := by
     intro r w hd hr hw hfit hno hyes hor
     have hgr := grew_put (s := S) b (.siter s.length (pack s) (pos + w))
     rw [L77_27_eq, nextK_at ho hb hlt, hd]
     rw [oB]
     simp only [extractV, List.getElem?_cons_zero, List.getElem?_cons_succ]
     rw [oB, ifK_bool, cond_true, oB, oB, h78 r _ hr, callP_ret, binV_ii, intsV_geq, oB, ifK_bool]
     rcases hor with hneg | hge
     · rw [hneg, show decide ((0 : Int) ≤ -1) = false by decide, cond_false, hno hneg]
       obtain ⟨S', h1, h2⟩ := L77_spec self N nk ek s b h78 k (pos + w) n (S.put b (.siter s.length (pack s) (pos + w))) (by omega) (by omega) hfit ho (by rw [put_get, if_pos rfl])
       exact ⟨S', h1, hgr.trans h2⟩
     · rw [decide_eq_true hge, cond_true, hyes hge]
       exact ⟨_, rfl, hgr⟩
    by_cases hc : s[pos].toNat < 128
    · refine hstep _ 1 (decP_ascii hlt hc) (by omega) (by omega) (by omega) (fun h => anyAt_one hlt ?_) (fun h => anyAt_hit hlt ?_) ?_
      · rw [bad_iff, h]; rfl
      · rw [bad_iff]; exact decide_eq_true h
      · unfold ixR; split
        · right; omega
        · split
          · right; omega
          · left; rfl
    · have hf := decP_far hlt (by omega)
      have hx := ixR_far hf.lo
      exact hstep (decP s.length (pack s) pos).1 (decP s.length (pack s) pos).2 rfl hf.hi hf.pos hf.fit (fun _ => anyAt_skip _ _ fun j hj => by
       obtain ⟨h1, h2⟩ := hf.all j hj
       exact ⟨h1, far_ok h2⟩) (fun h => absurd h (by rw [hx]; decide)) (.inl hx)
end Go.Proofs.Ythmkdoaaciamlaa.W
namespace Go.Proofs.Ythmkdoaaciamlaa.W
open Go.Proofs.Ythmkdoaaciamlaa.Ev
theorem ixA_ptr (len z : Nat) (g : Bool) (k : Nat) (ik : IntKind) {b off n : Nat} (h : n < len) : ixA len z g k (.ptr b off) (.int ik (n : Int)) = some (.ptr b (off + n * z)) := by
 show (bif Nat.blt n len then some (V.ptr b (off + n * z)) else none) = _
 rw [blt_true.2 h]; rfl
theorem big256 : 256 < big := by unfold big; decide
theorem F81_spec (self : EV) (N : Nat) {b e : Nat} {t : Tr V} (c : UInt8) (S : St) (ho : S.on = false) (h : AgAt S b e 256 t) {v : V} (ht : t.get c.toNat = some v) : F81 self N (.ptr b 0) (.int .u8 (c.toNat : Int)) S = some (.ret v, S) := by
 have hc := c.toNat_lt
 rw [F81_eq, show nilCheckV (.ptr b 0) = some (.ptr b 0) from rfl, oB, ixA_ptr 256 1 false 1 .u8 hc, oB, Nat.zero_add, Nat.mul_one, h.ld1 ho big256 hc ht]
 rfl
def IsSet (t : Tr V) : Prop := ∀ c : UInt8, t.get c.toNat = some (.bool (badByte c))
theorem F80_new (self : EV) (N : Nat) (x0 : V) (S : St) : F80 self N x0 S = (some (nwP 96 256 (Tr.ofListFrom .nil (List.replicate 256 (.bool false)) 0) S)).bind fun p0 =>
 L80_8 self N (R80_2 self N (finN E0 self Try.f80) noEx) (exB 0 (R80_2 self N (finN E0 self Try.f80) noEx) noEx) N x0 p0.1 (.int .i64 0) p0.2 := by kernel_rfl
theorem isSet_made : IsSet (((Tr.ofListFrom .nil (List.replicate 256 (.bool false)) 0).set (.bool true) 47).set (.bool true) 0) := fun c => by
 have hc := c.toNat_lt
 rw [Tr.get_set, Tr.get_set, Tr.get_ofList]
 unfold badByte
 rw [u8_eq c 47, u8_eq c 0, show UInt8.toNat 47 = 47 from rfl, show UInt8.toNat 0 = 0 from rfl]
 by_cases h0 : c.toNat = 0
 · rw [if_pos h0, h0]; rfl
 · rw [if_neg h0]
   by_cases h1 : c.toNat = 47
   · rw [if_pos h1, h1]; rfl
   · rw [if_neg h1, List.getElem?_replicate, if_pos hc]
     have e1 : decide ((c.toNat : Int) = ((47 : Nat) : Int)) = false := by simp; omega
     have e2 : decide ((c.toNat : Int) = ((0 : Nat) : Int)) = false := by simp; omega
     rw [e1, e2]; rfl
theorem L80_step (self : EV) (N : Nat) (nk : Ac → St → Rs) (ek : Nat → Ac → St → Rs) (n i : Nat) (hi : i < 2) {b e : Nat} {t : Tr V} (S : St) (ho : S.on = false) (h : AgAt S b e 256 t) :
 ∃ S', L80_8 self N nk ek (n + 1) (sv bad2) (.ptr b 0) (.int .i64 (i : Int)) S = L80_8 self N nk ek n (sv bad2) (.ptr b 0) (.int .i64 ((i + 1 : Nat) : Int)) S' ∧ AgAt S' b e 256 (t.set (.bool true) (bad2[i]'hi).toNat) ∧ Grew (fun x => x = b) S S' := by
 obtain ⟨S', h1, h2, h3, _⟩ := h.st1 (i := (bad2[i]'hi).toNat) (v := .bool true) ho big256 (by omega) (bad2[i]'hi).toNat_lt rfl rfl rfl
 refine ⟨S', ?_, h2, h3⟩
 have hlt : decide (((bad2[i]'hi).toNat : Int) ≥ 128) = false := by
  match i, hi with
  | 0, _ => rfl
  | 1, _ => rfl
 rw [L80_8_eq, lnStr_sv, oB, binV_ii, intsV_lss, dec_lt (show i < bad2.length from hi), oB, ifK_bool, cond_true, ixS_sv bad2 .i64 i hi, oB, binV_ii, intsV_geq]
 rw [show decide ((128 : Int) ≤ ((bad2[i]'hi).toNat : Int)) = false from hlt, oB, ifK_bool, cond_false, ixA_ptr 256 1 false 1 .u8 (bad2[i]'hi).toNat_lt, oB, Nat.zero_add, Nat.mul_one, h1, oB, binV_ii, intsV_add, wrap_succ (by omega), oB]
theorem AgAt.stSame {s : St} (ho : s.on = false) {b e z : Nat} {t : Tr V} (h : AgAt s b e z t) (hz : z < big) : ∃ w, stP z (.ptr b 0) (.agg z t) s = some (.tuple [], w) ∧ AgAt w b e z t ∧ Grew (fun x => x = b) s w := by
 obtain ⟨w, h1, h2, h3, _⟩ := h.stA ho hz t
 exact ⟨w, h1, h2, h3⟩
theorem F80_spec (self : EV) (m : Nat) (S : St) (ho : S.on = false) : ∃ t S', F80 self (m + 3) (sv bad2) S = some (.ret (.tuple [.agg 256 t, .bool true]), S') ∧ IsSet t ∧ Grew (fun _ => False) S S' := by
 obtain ⟨k1, k2, k3⟩ := ag_new ho 96 256 (Tr.ofListFrom .nil (List.replicate 256 (.bool false)) 0)
 have hset := isSet_made
 have hon : (nwP 96 256 (Tr.ofListFrom .nil (List.replicate 256 (.bool false)) 0) S).2.on = false := nw_on ho _
 rw [F80_new, oB, nwP_fst]
 generalize (nwP 96 256 (Tr.ofListFrom .nil (List.replicate 256 (.bool false)) 0) S).2 = S1 at *
 obtain ⟨S2, a1, a2, a3⟩ := L80_step self (m + 3) (R80_2 self (m + 3) (finN E0 self Try.f80) noEx) (exB 0 (R80_2 self (m + 3) (finN E0 self Try.f80) noEx) noEx) (m + 2) 0 (by decide) S1 hon k1
 obtain ⟨S3, b1, b2, b3⟩ := L80_step self (m + 3) (R80_2 self (m + 3) (finN E0 self Try.f80) noEx) (exB 0 (R80_2 self (m + 3) (finN E0 self Try.f80) noEx) noEx) (m + 1) 1 (by decide) S2 (a3.on.trans hon) a2
 have on3 := b3.on.trans (a3.on.trans hon)
 obtain ⟨S4, c1, c2, c3⟩ := b2.stSame on3 big256
 refine ⟨_, S4, ?_, hset, k2.own (Nat.le_refl _) (a3.trans (b3.trans c3))⟩
 rw [show (V.int .i64 0) = .int .i64 ((0 : Nat) : Int) from rfl, a1, b1, L80_8_eq, lnStr_sv, oB, binV_ii, intsV_lss, dec_ge (show bad2.length ≤ 1 + 1 by decide), oB, ifK_bool, cond_false, exB_same, R80_2_eq, b2.ldA on3 big256, oB]
 dsimp only
 rw [c1, oB]
 dsimp only
 rw [c2.ldrA (c3.on.trans on3) big256]
 rfl
theorem L77_55_spec (self : EV) (N : Nat) (nk : Ac → St → Rs) (ek : Nat → Ac → St → Rs) (s : List UInt8) (hs : s.length < 9223372036854775808) (b : Nat) (S : St) (h81 : ∀ c : UInt8, self.f 81 [.ptr b 0, .int .u8 (c.toNat : Int)] S = some (.ret (.bool (badByte c)), S)) :
 ∀ (r : List UInt8) (i n : Nat), s.drop i = r → r.length < n → outAny (L77_55 self N nk ek n (sv s) (.ptr b 0) (.int .i64 (i : Int)) S) (fun S => ek 0 (fr 55 []) S) (anyAt s i) S
 | r, i, 0, _, hn => by omega
 | [], i, n + 1, hi, hn => by
  rw [anyAt_end (drop_end hi), L77_55_eq, lnStr_sv, oB, binV_ii, intsV_lss, dec_ge (drop_end hi)]
  rfl
 | c :: r, i, n + 1, hi, hn => by
  obtain ⟨hlt, hc, hr, hmem⟩ := drop_at hi
  rw [L77_55_eq, lnStr_sv, oB, binV_ii, intsV_lss, dec_lt hlt, oB, ifK_bool, cond_true, ixS_sv s .i64 i hlt, hc, oB, h81 c, callP_ret, ifK_bool]
  cases hb : badByte c with
  | true =>
   rw [anyAt_hit hlt (by rw [hc]; exact hb)]
   rfl
  | false =>
   rw [anyAt_one hlt (by rw [hc]; exact hb), cond_false, binV_ii, intsV_add, wrap_succ (by omega), oB]
   exact L77_55_spec self N nk ek s hs b S h81 r (i + 1) n hr (by simp at hn; omega)
def outI (o : Option Nat) : Int := match o with | some j => (j : Int) | none => -1
theorem F77_short (self : EV) (m : Nat) (s : List UInt8) (hs : s.length < m) (S : St) (ho : S.on = false)
 (h78 : ∀ (r : Nat) S, r ≤ 1114111 → self.f 78 [sv bad2, .int .i32 (r : Int)] S = some (.ret (.int .i64 (ixR r)), S)) :
 ∃ S', R77_22 self m (finN E0 self Try.f77) noEx (fr 55 [(0, sv s), (1, sv bad2)]) S = some (.ret (.int .i64 (outI (anyAt s 0))), S') ∧ Grew (fun _ => False) S S' := by
 have hg := grew_nw ho (fun _ => False) (.siter s.length (pack s) 0)
 obtain ⟨S', h1, h2⟩ := L77_spec self m (R77_23 self m (fun a s => projK [4] a fun a => finN E0 self Try.f77 a s) noEx) (exB 2 (R77_23 self m (fun a s => projK [4] a fun a => finN E0 self Try.f77 a s) noEx) noEx) s S.next h78 s.length 0 m (nw S (.siter s.length (pack s) 0)) (by omega) hs (by omega) (nw_on ho _) (by rw [nw_get, if_pos rfl])
 refine ⟨S', ?_, hg.own (Nat.le_refl _) h2⟩
 rw [R77_22_eq, rangeStr_sv, oB]
 unfold outAny at h1
 unfold outI
 cases hx : anyAt s 0 with
 | some j => rw [hx] at h1; exact h1
 | none =>
  rw [hx] at h1
  exact h1.trans (by dsimp only; rw [exB_same, R77_23_eq])
theorem F77_new (self : EV) (N : Nat) (x0 x1 : V) (S : St) : F77 self N x0 x1 S =
(binV E0 .eql 9 false true x1 (sv [])).bind fun t2 =>
ifK t2 (
some (.ret (.int .i64 (-1)), S)) (
(lnStr x1 S).bind fun p5 =>
(binV E0 .eql 3 false true p5.1 (.int .i64 1)).bind fun t6 =>
ifK t6 (
(ixS x1 (.int .i64 0)).bind fun t8 =>
(cvI .i32 t8 p5.2).bind fun p9 =>
(binV E0 .geq 21 false true p9.1 (.int .i32 128)).bind fun t12 =>
ifK t12 (
callP (self.f 78 [x0, (.int .i32 65533)] p9.2) fun t16 S16 =>
some (.ret t16, S16)) (
callP (self.f 78 [x0, p9.1] p9.2) fun t20 S20 =>
some (.ret t20, S20))) (
(lnStr x0 p5.2).bind fun p41 =>
callP (self.f 79 [p41.1] p41.2) fun t42 S42 =>
ifK t42 (
callP (self.f 80 [x1] S42) fun t44 S44 =>
(extractV t44 0).bind fun t46 =>
(extractV t44 1).bind fun t47 =>
(some (nwP 96 256 (Tr.ofListFrom .nil (List.replicate 256 (V.bool false)) 0) S44)).bind fun p48 =>
(stP 256 p48.1 t46 p48.2).bind fun p49 =>
ifK t47 (
L77_55 self N (R77_52 self N (R77_22 self N (finN E0 self Try.f77) noEx) noEx) (exB 0 (R77_52 self N (R77_22 self N (finN E0 self Try.f77) noEx) noEx) noEx) N x0 p48.1 (.int .i64 0) p49.2) (
R77_22 self N (finN E0 self Try.f77) noEx (fr 55 [(0, x0), (1, x1)]) p49.2)) (
R77_22 self N (finN E0 self Try.f77) noEx (fr 55 [(0, x0), (1, x1)]) S42))) := by kernel_rfl
theorem ag_lay {s : St} (ho : s.on = false) (e : Nat) (t0 u : Tr V) : ∃ w, stP 256 (.ptr s.next 0) (.agg 256 u) (nwP e 256 t0 s).2 = some (.tuple [], w) ∧ AgAt w s.next e 256 u ∧ Grew (fun _ => False) s w := by
 obtain ⟨k1, k2, _⟩ := ag_new ho e 256 t0
 obtain ⟨w, h1, h2, h3, _⟩ := k1.stA (nw_on ho _) big256 u
 exact ⟨w, h1, h2, k2.own (Nat.le_refl _) h3⟩
theorem F77_spec (self : EV) (m : Nat) (s : List UInt8) (hs : s.length < m + 3) (hs2 : s.length < 9223372036854775808) (S : St) (ho : S.on = false)
 (h78 : ∀ (r : Nat) S, r ≤ 1114111 → self.f 78 [sv bad2, .int .i32 (r : Int)] S = some (.ret (.int .i64 (ixR r)), S))
 (h79 : ∀ S, self.f 79 [.int .i64 (s.length : Int)] S = some (.ret (.bool (decide ((8 : Int) < (s.length : Int)))), S))
 (h80 : ∀ S, S.on = false → ∃ t S', self.f 80 [sv bad2] S = some (.ret (.tuple [.agg 256 t, .bool true]), S') ∧ IsSet t ∧ Grew (fun _ => False) S S')
 (h81 : ∀ (c : UInt8) S b e t, S.on = false → AgAt S b e 256 t → IsSet t → self.f 81 [.ptr b 0, .int .u8 (c.toNat : Int)] S = some (.ret (.bool (badByte c)), S)) :
 ∃ S', F77 self (m + 3) (sv s) (sv bad2) S = some (.ret (.int .i64 (outI (anyAt s 0))), S') ∧ Grew (fun _ => False) S S' := by
 rw [F77_new, binV_ss, strOp_eql, show (bad2 == []) = false from rfl, oB, ifK_bool, cond_false, lnStr_sv, oB, binV_ii, intsV_eql, show decide ((bad2.length : Int) = 1) = false by decide, oB, ifK_bool, cond_false, lnStr_sv, oB, h79, callP_ret, ifK_bool]
 cases decide ((8 : Int) < (s.length : Int)) with
 | false =>
  rw [cond_false]
  exact F77_short self (m + 3) s hs S ho h78
 | true =>
  obtain ⟨t, S1, k1, k2, k3⟩ := h80 S ho
  have on1 := k3.on.trans ho
  obtain ⟨S2, l1, l2, l3⟩ := ag_lay on1 96 (Tr.ofListFrom .nil (List.replicate 256 (V.bool false)) 0) t
  have on2 := l3.on.trans on1
  have hL := L77_55_spec self (m + 3) (R77_52 self (m + 3) (R77_22 self (m + 3) (finN E0 self Try.f77) noEx) noEx) (exB 0 (R77_52 self (m + 3) (R77_22 self (m + 3) (finN E0 self Try.f77) noEx) noEx) noEx) s hs2 S1.next S2 (fun c => h81 c S2 _ _ t on2 l2 k2) s 0 (m + 3) rfl hs
  refine ⟨S2, ?_, k3.trans l3⟩
  rw [cond_true, k1, callP_ret, show extractV (.tuple [.agg 256 t, .bool true]) 0 = some (.agg 256 t) from rfl, oB, show extractV (.tuple [.agg 256 t, .bool true]) 1 = some (.bool true) from rfl, oB, oB, nwP_fst, l1, oB, ifK_bool, cond_true]
  unfold outAny at hL
  unfold outI
  cases hx : anyAt s 0 with
  | some j => rw [hx] at hL; exact hL
  | none =>
   rw [hx] at hL
   exact hL.trans (by dsimp only; rw [exB_same, R77_52_eq])
theorem outI_any (s : List UInt8) : decide (0 ≤ outI (anyAt s 0)) = s.any badByte := by
 unfold anyAt outI
 rw [List.drop_zero]
 cases h : s.findIdx? badByte with
 | none =>
  rw [List.findIdx?_eq_none_iff] at h
  have : s.any badByte = false := by
   rw [List.any_eq_false]
   intro x hx
   rw [h x hx]; simp
  rw [this]; rfl
 | some j =>
  have : s.any badByte = true := by
   rw [List.any_eq_true]
   rw [List.findIdx?_eq_some_iff_getElem] at h
   obtain ⟨h1, h2, _⟩ := h
   exact ⟨_, List.getElem_mem h1, h2⟩
  rw [this]
  simp
noncomputable def kfAny : KF := specKF (fun p : TextIn => [sv p.s, sv bad2]) (fun p => En.ret (.bool (p.s.any badByte)))
theorem kfAny_run (s : List UInt8) (hs : s.length < 9223372036854775808) (S : St) : kfAny.run [sv s, sv bad2] S = some (.ret (.bool (s.any badByte)), S) :=
 specKF_run (enc := fun p : TextIn => [sv p.s, sv bad2]) (out := fun p => En.ret (.bool (p.s.any badByte))) (fun p q h => by
  simp only [List.cons.injEq, and_true] at h
  rw [sv_inj h]) ⟨s, hs⟩ S
theorem kn74 {K : FuncId → Option KF} (hK : KnOk Try.prog E0 K) (h78 : K 78 = some kfIndexRune) (h77 : K 77 = none) (h79 : K 79 = none) (h80 : K 80 = none) (h81 : K 81 = none) : KnWell Try.prog E0 74 kfAny :=
 specKF_text (fn := Try.f74) (c := C74) (d := B74) E0_ok hK (by kernel_rfl) (by kernel_rfl) (annot_isOf C74 _ (by kernel_rfl)) fun p S ho => by
  obtain ⟨S', h1, h2⟩ := F77_spec (ev E0 K 1) (rounds - 3) p.s (by have := p.hs; unfold rounds; omega) p.hs S ho (fun r S hr => by rw [ev_known h78, kfIndexRune_run r hr])
   (fun S => ev_read (c := C79) (d := B79) (by kernel_rfl) (by kernel_rfl) (annot_isOf C79 _ (by kernel_rfl)) h79 (show F79 (ev E0 K 0) rounds _ S = _ by rw [F79_eq, binV_ii, intsV_gtr]; rfl))
   (fun S ho => by
    obtain ⟨t, S', h1, h2, h3⟩ := F80_spec (ev E0 K 0) (rounds - 3) S ho
    rw [show rounds - 3 + 3 = rounds by unfold rounds; omega] at h1
    exact ⟨t, S', ev_read (c := C80) (d := B80) (by kernel_rfl) (by kernel_rfl) (annot_isOf C80 _ (by kernel_rfl)) h80 h1, h2, h3⟩)
   (fun c S b e t ho h hs => ev_read (c := C81) (d := B81) (by kernel_rfl) (by kernel_rfl) (annot_isOf C81 _ (by kernel_rfl)) h81 (F81_spec (ev E0 K 0) rounds c S ho h (hs c)))
  rw [show rounds - 3 + 3 = rounds by unfold rounds; omega] at h1
  refine ⟨2, .ret (.bool (p.s.any badByte)), S', (?_ : F74 (ev E0 K 2) rounds (sv p.s) (sv bad2) S = _), h2, Fz.same (.bool _)⟩
  rw [F74_eq, ev_read (c := C77) (d := B77) (by kernel_rfl) (by kernel_rfl) (annot_isOf C77 _ (by kernel_rfl)) h77 h1, callP_ret, binV_ii, intsV_geq, outI_any]
  rfl
end Go.Proofs.Ythmkdoaaciamlaa.W
namespace Go.Proofs.Ythmkdoaaciamlaa.W
open Go.Proofs.Ythmkdoaaciamlaa.Ev
theorem kn66 {K : FuncId → Option KF} (hK : KnOk Try.prog E0 K) (h74 : K 74 = some kfAny) : KnWell Try.prog E0 66 (kfText gName) :=
 knText hK (fn := Try.f66) (c := C66) (d := B66) gName (fun _ _ => .bool _) (by kernel_rfl) (by kernel_rfl) (annot_isOf C66 _ (by kernel_rfl)) 1 fun s S hs ho => by
  refine ⟨S, (?_ : F66 (ev E0 K 1) rounds (sv s) S = _), Grew.refl _ _⟩
  have h := kfAny_run s hs S
  rw [F66_eq, lnStr_sv, oB, binV_ii, intsV_geq, oB, guardV_t, oB, gName, nameOk]
  rw [show decide ((1 : Int) ≤ (s.length : Int)) = decide (1 ≤ s.length) by rw [decide_eq_decide]; omega]
  cases decide (1 ≤ s.length) with
  | false => rfl
  | true =>
   simp only [cond_true, lnStr_sv, oB, binV_ii, intsV_leq, pickV, guardV_t, Bool.true_and]
   rw [show decide ((s.length : Int) ≤ 56) = decide (s.length ≤ 56) by rw [decide_eq_decide]; omega]
   cases decide (s.length ≤ 56) with
   | false => rfl
   | true =>
    simp only [cond_true, oB, Bool.true_and]
    rw [show (sv [47, 0]) = sv bad2 from rfl, ev_known h74, h, callP_ret]
    simp only [unV, oB, pickV, guardV_t, cond_true]
    cases s.any badByte with
    | true => rfl
    | false =>
     simp only [Bool.not_false, cond_true, oB, binV_ss, strOp_neq, pickV, guardV_t, Bool.true_and]
     cases (s == [46]) with
     | true => rfl
     | false =>
      simp only [Bool.not_false, cond_true, oB, binV_ss, strOp_neq, pickV, guardV_t, Bool.true_and]
end Go.Proofs.Ythmkdoaaciamlaa.W
namespace Go.Proofs.Ythmkdoaaciamlaa.W
open Go.Proofs.Ythmkdoaaciamlaa.Ev
theorem L65_spec (self : EV) (N : Nat) (nk : Ac → St → Rs) (ek : Nat → Ac → St → Rs) (x : Nd) (b : Nat) (ok : NdOk x) (h66 : ∀ y ∈ x.kids, ∀ s, self.f 66 [sv y.name] s = some (.ret (gName y.name), s))
 (h36 : ∀ y ∈ x.kids, ∀ s, self.f 36 [encN y] s = some (.ret (gMay y), s)) :
 ∀ (r : List Nd) (i n : Nat) (S : St), x.kids.drop i = r → r.length < n → NodeAt S b x → b < S.next →
 ∃ S', L65_7 self N nk ek n (.ptr b 0) (kidsV (encL x.kids)) (.int .i64 (x.kids.length : Int)) (.int .i64 (i : Int)) S = (bif mayL (prevN x.kids i) r then ek 0 (fr 38 []) S' else some (.ret (.bool false), S')) ∧ Grew (fun _ => False) S S'
 | r, i, 0, S, _, hn, _, _ => by omega
 | [], i, n + 1, S, hi, hn, hx, hb => by
  refine ⟨S, ?_, Grew.refl _ _⟩
  rw [L65_7_eq, binV_ii, intsV_lss, dec_ge (drop_end hi), mayL]
  rfl
 | y :: r, i, n + 1, S, hi, hn, hx, hb => by
  obtain ⟨hlt, hy, hr, hmem⟩ := drop_at hi
  have hfew := ok.few
  obtain ⟨S1, k1, k2, k3, k4⟩ := node_new hx.on (Tr.ofListFrom .nil [(sv []), (.int .i64 0), (.bool false), (sv []), .nilslice] 0) y
  have hx1 := hx.grew hb (fun h => h) k3
  rw [L65_7_eq, mayL, binV_ii, intsV_lss, dec_lt hlt]
  simp only [oB, ifK_bool, cond_true]
  rw [ixP_kids x.kids i hlt, hy]
  simp only [oB, ldA_kid, nwP_fst]
  rw [k1]
  simp only [oB, faP_ptr, Nat.zero_add, k2.o0, onS_rd, h66 y hmem, callD_ret, gName, unV]
  cases hnm : nameOk y.name with
  | false =>
   simp only [guardV_f, guardV_t, guardV_no, Bool.not_false, Bool.not_true, oB, cond_true, cond_false, callD_ret, pickV, onS_onS]
   rw [endP_rd]
   · refine ⟨S1, ?_, k3⟩
     simp only [relog_onS k2.on, ifK_bool, cond_true, Bool.false_and, cond_false]
   · rfl
  | true =>
   simp only [guardV_f, guardV_t, guardV_no, Bool.not_false, Bool.not_true, oB, cond_true, cond_false, k2.oA, onS_onS, onS_rd, h36 y hmem, callD_ret, gMay, unV, pickV]
   cases hmy : mayN y with
   | false =>
    simp only [guardV_f, guardV_t, guardV_no, Bool.not_false, Bool.not_true, oB, cond_true, cond_false, pickV, onS_onS, onS_rd]
    rw [endP_rd]
    · refine ⟨S1, ?_, k3⟩
      simp only [relog_onS k2.on, relog_rd k2.on, ifK_bool, cond_true, Bool.false_and, Bool.and_false, cond_false]
    · rfl
   | true =>
    simp only [guardV_f, guardV_t, guardV_no, Bool.not_false, Bool.not_true, oB, cond_true, cond_false, pickV, binV_ii, intsV_gtr, Bool.and_self, Bool.true_and, onS_onS, onS_rd]
    cases i with
    | zero =>
     simp only [show decide ((0 : Int) < ((0 : Nat) : Int)) = false from rfl, cond_false, oB, onS_onS, onS_rd, guardV_t, guardV_f]
     rw [endP_rd]
     · obtain ⟨S', h1, h2⟩ := L65_spec self N nk ek x b ok h66 h36 r (0 + 1) n S1 hr (by simp at hn; omega) hx1 (by omega)
       refine ⟨S', ?_, k3.trans h2⟩
       simp only [relog_onS k2.on, relog_rd k2.on, ifK_bool, cond_false, oB, binV_ii, intsV_add, wrap_succ (show 0 < 9223372036854775807 by omega), prevN, prevLess, Bool.true_and]
       rw [h1]
       simp only [prevN, List.getElem?_eq_getElem hlt, hy, Option.map_some]
     · rfl
    | succ j =>
     have hj : j < x.kids.length := by omega
     simp only [show decide ((0 : Int) < ((j + 1 : Nat) : Int)) = true by simp, cond_true, oB, guardV_t, guardV_f, hx1.o4, onS_onS, onS_rd, binV_ii, intsV_sub]
     rw [show ((j + 1 : Nat) : Int) - 1 = (j : Int) by omega, wrap_i64 (by omega) (by omega)]
     simp only [oB, ixP_kids x.kids j hj, faP_kid, onS_rd, ld1_csv, k2.o0, onS_onS, binV_ss, strOp_geq]
     rw [endP_rd]
     · cases hbl : Op.bytesLess x.kids[j].name y.name with
       | false =>
        refine ⟨S1, ?_, k3⟩
        simp only [relog_onS k2.on, relog_rd k2.on, ifK_bool, prevN, prevLess, List.getElem?_eq_getElem hj, Option.map_some, hbl, Bool.not_false, cond_true, Bool.false_and, cond_false]
       | true =>
        obtain ⟨S', h1, h2⟩ := L65_spec self N nk ek x b ok h66 h36 r (j + 1 + 1) n S1 hr (by simp at hn; omega) hx1 (by omega)
        refine ⟨S', ?_, k3.trans h2⟩
        simp only [relog_onS k2.on, relog_rd k2.on, ifK_bool, prevN, prevLess, List.getElem?_eq_getElem hj, Option.map_some, hbl, Bool.not_true, cond_false, Bool.true_and, binV_ii, intsV_add, wrap_succ (show j + 1 < 9223372036854775807 by omega), oB]
        rw [h1]
        simp only [prevN, List.getElem?_eq_getElem hlt, hy, Option.map_some]
     · rfl
section
variable {self : EV} {N : Nat} {x : Nd} {b : Nat} {S : St}
theorem isEmpty_dec (l : List Nd) : decide ((l.length : Int) = 0) = l.isEmpty := by
 cases l with
 | nil => rfl
 | cons y l => simp; omega
theorem F59_spec (hx : NodeAt S b x) : F59 self N (.ptr b 0) S = some (.ret (.bool x.kids.isEmpty), S) := by
 rw [F59_eq]
 simp only [faP_ptr, Nat.zero_add, oB, hx.f4, lnS_kids, binV_ii, intsV_eql, isEmpty_dec]
theorem F60_spec (hx : NodeAt S b x) : F60 self N (.ptr b 0) S = some (.ret (.bool (!x.exec)), S) := by
 rw [F60_eq]
 simp only [faP_ptr, Nat.zero_add, oB, hx.f2, unV]
theorem F64_spec (hx : NodeAt S b x) : F64 self N (.ptr b 0) S = some (.ret (.bool (x.data == [])), S) := by
 rw [F64_eq]
 simp only [faP_ptr, Nat.zero_add, oB, hx.f3, binV_ss, strOp_eql]
def dataOk (d : List UInt8) : Bool := decide (1 ≤ d.length) && decide (d.length ≤ 255) && !(d.any (· == 0))
theorem ixB_none (d : List UInt8) (c : UInt8) : decide (ixB d c < 0) = !(d.any (· == c)) := by
 unfold ixB
 cases h : d.findIdx? (fun x => x == c) with
 | none =>
  rw [List.findIdx?_eq_none_iff] at h
  have : d.any (fun x => x == c) = false := by
   rw [List.any_eq_false]
   intro x hx
   rw [h x hx]; simp
  rw [this]; rfl
 | some j =>
  have : d.any (fun x => x == c) = true := by
   rw [List.any_eq_true]
   rw [List.findIdx?_eq_some_iff_getElem] at h
   obtain ⟨h1, h2, _⟩ := h
   exact ⟨_, List.getElem_mem h1, h2⟩
  rw [this]
  simp
theorem F62_spec (hx : NodeAt S b x) (h63 : ∀ s, self.f 63 [sv x.data, .int .u8 0] s = some (.ret (.int .i64 (ixB x.data 0)), s)) : F62 self N (.ptr b 0) S = some (.ret (.bool (dataOk x.data)), S) := by
 rw [F62_eq]
 simp only [faP_ptr, Nat.zero_add, oB, hx.f3, lnStr_sv, binV_ii, intsV_geq, guardV_t]
 unfold dataOk
 rw [show decide ((1 : Int) ≤ (x.data.length : Int)) = decide (1 ≤ x.data.length) by rw [decide_eq_decide]; omega]
 cases decide (1 ≤ x.data.length) with
 | false => rfl
 | true =>
  simp only [cond_true, oB, hx.f3, lnStr_sv, binV_ii, intsV_leq, guardV_t, pickV, Bool.true_and]
  rw [show decide ((x.data.length : Int) ≤ 255) = decide (x.data.length ≤ 255) by rw [decide_eq_decide]; omega]
  cases decide (x.data.length ≤ 255) with
  | false => rfl
  | true =>
   simp only [cond_true, oB, hx.f3, h63, callP_ret, binV_ii, intsV_lss, ixB_none, guardV_t, pickV, Bool.true_and]
end
theorem F65_spec (self : EV) (x : Nd) (b : Nat) (ok : NdOk x) (h66 : ∀ y ∈ x.kids, ∀ s, self.f 66 [sv y.name] s = some (.ret (gName y.name), s))
 (h36 : ∀ y ∈ x.kids, ∀ s, self.f 36 [encN y] s = some (.ret (gMay y), s)) (S : St) (hx : NodeAt S b x) (hb : b < S.next) :
 ∃ S', F65 self rounds (.ptr b 0) S = some (.ret (.bool (mayL none x.kids)), S') ∧ Grew (fun _ => False) S S' := by
 obtain ⟨S', h1, h2⟩ := L65_spec self rounds (R65_1 self rounds (finN E0 self Try.f65) noEx) (exB 0 (R65_1 self rounds (finN E0 self Try.f65) noEx) noEx) x b ok h66 h36 x.kids 0 rounds S rfl (by have := ok.few; unfold rounds; omega) hx hb
 refine ⟨S', ?_, h2⟩
 rw [F65_eq, faP_ptr, oB, Nat.zero_add, hx.f4, oB, lnS_kids, oB, show (V.int .i64 0) = .int .i64 ((0 : Nat) : Int) from rfl, h1, show prevN x.kids 0 = none from rfl]
 cases mayL none x.kids with
 | true => rw [cond_true, exB_same, R65_1_eq]
 | false => rfl
theorem bsP_three (s : St) (ho : s.on = false) (e : Nat) (z a b c : V) (ha : a.size = 1 ∧ isTuple a = false ∧ a.cells = one a) (hb : b.size = 1 ∧ isTuple b = false ∧ b.cells = one b) (hc : c.size = 1 ∧ isTuple c = false ∧ c.cells = one c) :
 ∃ t, bsP e 1 3 (one z) [(0, a), (1, b), (2, c)] s = some (.slice s.next 0 3 3, t) ∧ RowAt t s.next e 1 [one a, one b, one c] ∧ Grew (fun _ => False) s t ∧ t.next = s.next + 1 := by
 refine ⟨nw s (.cells e 1 3 false ((((Tr.tab 3 3 fun _ => one z).set (one a) 0).set (one b) 1).set (one c) 2)), ?_, ?_, grew_nw ho _ _, rfl⟩
 · unfold bsP fillE fillE fillE fillE
   rw [ha.1, ha.2.1, ha.2.2, hb.1, hb.2.1, hb.2.2, hc.1, hc.2.1, hc.2.2]
   simp only [Nat.beq_refl, Bool.not_false, Bool.and_true, show Nat.blt 0 3 = true from rfl, show Nat.blt 1 3 = true from rfl, show Nat.blt 2 3 = true from rfl, cond_true, Tr.setC_eq, oB]
 · refine rowAt_nw ho (by omega) rfl (by unfold big; omega) fun i t h => ?_
   simp only [Tr.get_set]
   match i, h with
   | 0, h => simpa using h
   | 1, h => simpa using h
   | 2, h => simpa using h
   | i + 3, h => simp at h
def Ans (self : EV) (b : Nat) (x : Nd) (f : FuncId) (v : Bool) : Prop := ∀ S, NodeAt S b x → b < S.next → ∃ S', callK E0 self (.fn (.func f) [] [.ptr b 0]) [] S = some (.ret (.bool v), S') ∧ Grew (fun _ => False) S S'
theorem callK_fn {E : Env} {self : EV} {f : FuncId} (h : E.ext.get f = none) (hb : hasBody E f = true) (x y args : List V) (S : St) : callK E self (.fn (.func f) x y) args S = self.f f (x ++ args ++ y) S := by
 show (match E.ext.get f with | some k => _ | none => _) = _
 rw [h]
 show (bif hasBody E f then self.f f (x ++ args ++ y) S else none) = _
 rw [hb]; rfl
theorem L75_step (self : EV) (N : Nat) (nk : Ac → St → Rs) (ek : Nat → Ac → St → Rs) (n i : Nat) (hi : i < 3) (b r : Nat) (x : Nd) (l : List (Tr V)) (fs : FuncId) (v : Bool) (hl : l.length = 3) (hf : l[i]? = some (one (.fn (.func fs) [] [.ptr b 0])))
 (h72 : ∀ S, NodeAt S b x → b < S.next → ∃ S', callK E0 self (.fn (.func 72) [] []) [.fn (.func fs) [] [.ptr b 0]] S = some (.ret (.bool (!v)), S') ∧ Grew (fun _ => False) S S')
 (S : St) (hx : NodeAt S b x) (hb : b < S.next) (hrow : RowAt S r 29 1 l) :
 ∃ S', L75_6 self N nk ek (n + 1) (.slice r 0 3 3) (.fn (.func 72) [] []) (.int .i64 3) (.int .i64 (i : Int)) S = (bif v then L75_6 self N nk ek n (.slice r 0 3 3) (.fn (.func 72) [] []) (.int .i64 3) (.int .i64 ((i + 1 : Nat) : Int)) S' else some (.ret (.int .i64 (i : Int)), S')) ∧ Grew (fun _ => False) S S' := by
 obtain ⟨S', h1, h2⟩ := h72 S hx hb
 refine ⟨S', ?_, h2⟩
 have hix : ixP 1 (.slice r 0 3 3) (.int .i64 (i : Int)) = some (.ptr r i) := by
  show (bif Nat.blt i 3 then some (V.ptr r (0 + i * 1)) else none) = _
  rw [blt_true.2 hi, Nat.zero_add, Nat.mul_one]; rfl
 rw [L75_6_eq, binV_ii, intsV_lss, show decide ((i : Int) < 3) = true by simp; omega, oB, ifK_bool, cond_true, hix, oB, ld1_ptr, hrow.ld1 hx.on hf, oB]
 dsimp only
 rw [h1, callP_ret, ifK_bool]
 cases v with
 | true => rw [Bool.not_true, cond_false, cond_true, binV_ii, intsV_add, wrap_succ (by omega), oB]
 | false => rfl
end Go.Proofs.Ythmkdoaaciamlaa.W
namespace Go.Proofs.Ythmkdoaaciamlaa.W
open Go.Proofs.Ythmkdoaaciamlaa.Ev
theorem body59 : E0.ext.get 59 = none ∧ hasBody E0 59 = true := ⟨by kernel_rfl, by kernel_rfl⟩
theorem body60 : E0.ext.get 60 = none ∧ hasBody E0 60 = true := ⟨by kernel_rfl, by kernel_rfl⟩
theorem body62 : E0.ext.get 62 = none ∧ hasBody E0 62 = true := ⟨by kernel_rfl, by kernel_rfl⟩
theorem body64 : E0.ext.get 64 = none ∧ hasBody E0 64 = true := ⟨by kernel_rfl, by kernel_rfl⟩
theorem body65 : E0.ext.get 65 = none ∧ hasBody E0 65 = true := ⟨by kernel_rfl, by kernel_rfl⟩
theorem body72 : E0.ext.get 72 = none ∧ hasBody E0 72 = true := ⟨by kernel_rfl, by kernel_rfl⟩
section
variable {K : FuncId → Option KF}
theorem call72 (h : K 72 = none) (n : Nat) {b : Nat} {x : Nd} {f : FuncId} {v : Bool} (ha : Ans (ev E0 K n) b x f v) (S : St) (hx : NodeAt S b x) (hb : b < S.next) :
 ∃ S', callK E0 (ev E0 K (n + 1)) (.fn (.func 72) [] []) [.fn (.func f) [] [.ptr b 0]] S = some (.ret (.bool (!v)), S') ∧ Grew (fun _ => False) S S' := by
 obtain ⟨S', h1, h2⟩ := ha S hx hb
 refine ⟨S', ?_, h2⟩
 rw [callK_fn body72.1 body72.2, List.nil_append, List.append_nil]
 exact ev_read (c := C72) (d := B72) (by kernel_rfl) (by kernel_rfl) (annot_isOf C72 _ (by kernel_rfl)) h (show F72 (ev E0 K n) rounds _ S = _ by rw [F72_eq, h1]; rfl)
def first3 (v0 v1 v2 : Bool) : Int := if v0 then if v1 then if v2 then -1 else 2 else 1 else 0
theorem F75_spec (h72 : K 72 = none) (n : Nat) {b r : Nat} {x : Nd} {f0 f1 f2 : FuncId} {v0 v1 v2 : Bool} (a0 : Ans (ev E0 K n) b x f0 v0) (a1 : Ans (ev E0 K n) b x f1 v1) (a2 : Ans (ev E0 K n) b x f2 v2) (m : Nat) (S : St) (hx : NodeAt S b x) (hb : b < S.next) (hr : r < S.next)
 (hrow : RowAt S r 29 1 [one (.fn (.func f0) [] [.ptr b 0]), one (.fn (.func f1) [] [.ptr b 0]), one (.fn (.func f2) [] [.ptr b 0])]) :
 ∃ S', F75 (ev E0 K (n + 1)) (m + 4) (.slice r 0 3 3) (.fn (.func 72) [] []) S = some (.ret (.int .i64 (first3 v0 v1 v2)), S') ∧ Grew (fun _ => False) S S' := by
 rw [F75_eq, lnS_slice, oB]
 generalize hnk : R75_1 (ev E0 K (n + 1)) (m + 4) (finN E0 (ev E0 K (n + 1)) Try.f75) noEx = nk
 obtain ⟨S1, s1, g1⟩ := L75_step (ev E0 K (n + 1)) (m + 4) nk (exB 0 nk noEx) (m + 3) 0 (by decide) b r x _ f0 v0 rfl rfl (fun S => call72 h72 n a0 S) S hx hb hrow
 rw [show (V.int .i64 ((3 : Nat) : Int)) = .int .i64 3 from rfl, show (V.int .i64 0) = .int .i64 ((0 : Nat) : Int) from rfl, s1]
 unfold first3
 cases v0 with
 | false => exact ⟨S1, rfl, g1⟩
 | true =>
 have hx1 := hx.grew hb (fun h => h) g1
 have hb1 := Nat.lt_of_lt_of_le hb g1.next
 have hr1 := Nat.lt_of_lt_of_le hr g1.next
 have hrow1 := hrow.grew hr (fun h => h) g1
 obtain ⟨S2, s2, g2⟩ := L75_step (ev E0 K (n + 1)) (m + 4) nk (exB 0 nk noEx) (m + 2) 1 (by decide) b r x _ f1 v1 rfl rfl (fun S => call72 h72 n a1 S) S1 hx1 hb1 hrow1
 rw [cond_true, show 0 + 1 = 1 from rfl, s2]
 cases v1 with
 | false => exact ⟨S2, rfl, g1.trans g2⟩
 | true =>
 have hx2 := hx1.grew hb1 (fun h => h) g2
 have hb2 := Nat.lt_of_lt_of_le hb1 g2.next
 have hrow2 := hrow1.grew hr1 (fun h => h) g2
 obtain ⟨S3, s3, g3⟩ := L75_step (ev E0 K (n + 1)) (m + 4) nk (exB 0 nk noEx) (m + 1) 2 (by decide) b r x _ f2 v2 rfl rfl (fun S => call72 h72 n a2 S) S2 hx2 hb2 hrow2
 rw [cond_true, show 1 + 1 = 2 from rfl, s3]
 cases v2 with
 | false => exact ⟨S3, rfl, g1.trans (g2.trans g3)⟩
 | true =>
 refine ⟨S3, ?_, g1.trans (g2.trans g3)⟩
 rw [cond_true, show 2 + 1 = 3 from rfl, L75_6_eq, binV_ii, intsV_lss, show decide (((3 : Nat) : Int) < 3) = false by decide, oB, ifK_bool, cond_false, exB_same, ← hnk, R75_1_eq]
 rfl
theorem first3_all (v0 v1 v2 : Bool) : (!decide (0 ≤ first3 v0 v1 v2)) = (v0 && v1 && v2) := by cases v0 <;> cases v1 <;> cases v2 <;> rfl
theorem all3 (h61 : K 61 = none) (h71 : K 71 = none) (h72 : K 72 = none) (h75 : K 75 = none) (n : Nat) {b r : Nat} {x : Nd} {f0 f1 f2 : FuncId} {v0 v1 v2 : Bool} (a0 : Ans (ev E0 K n) b x f0 v0) (a1 : Ans (ev E0 K n) b x f1 v1) (a2 : Ans (ev E0 K n) b x f2 v2) (S : St) (hx : NodeAt S b x) (hb : b < S.next) (hr : r < S.next)
 (hrow : RowAt S r 29 1 [one (.fn (.func f0) [] [.ptr b 0]), one (.fn (.func f1) [] [.ptr b 0]), one (.fn (.func f2) [] [.ptr b 0])]) :
 ∃ S', (ev E0 K (n + 4)).f 61 [.slice r 0 3 3] S = some (.ret (.bool (v0 && v1 && v2)), S') ∧ Grew (fun _ => False) S S' := by
 obtain ⟨S', h1, h2⟩ := F75_spec h72 n a0 a1 a2 (rounds - 4) S hx hb hr hrow
 rw [show rounds - 4 + 4 = rounds by unfold rounds; omega] at h1
 have e75 := ev_read (c := C75) (d := B75) (by kernel_rfl) (by kernel_rfl) (annot_isOf C75 _ (by kernel_rfl)) h75 h1
 have h71' : F71 (ev E0 K (n + 2)) rounds (.slice r 0 3 3) (.fn (.func 72) [] []) S = some (.ret (.bool (decide (0 ≤ first3 v0 v1 v2))), S') := by
  rw [F71_eq, e75, callP_ret, binV_ii, intsV_geq]
  rfl
 have e71 := ev_read (c := C71) (d := B71) (by kernel_rfl) (by kernel_rfl) (annot_isOf C71 _ (by kernel_rfl)) h71 h71'
 have h61' : F61 (ev E0 K (n + 3)) rounds (.slice r 0 3 3) S = some (.ret (.bool (v0 && v1 && v2)), S') := by
  rw [F61_eq, e71, callP_ret, ← first3_all]
  rfl
 exact ⟨S', ev_read (c := C61) (d := B61) (by kernel_rfl) (by kernel_rfl) (annot_isOf C61 _ (by kernel_rfl)) h61 h61', h2⟩
theorem ans59 (h : K 59 = none) (n : Nat) (b : Nat) (x : Nd) : Ans (ev E0 K (n + 1)) b x 59 x.kids.isEmpty := fun S hx hb => by
 refine ⟨S, ?_, Grew.refl _ _⟩
 rw [callK_fn body59.1 body59.2]
 exact ev_read (c := C59) (d := B59) (by kernel_rfl) (by kernel_rfl) (annot_isOf C59 _ (by kernel_rfl)) h (F59_spec (self := ev E0 K n) (N := rounds) hx)
theorem ans60 (h : K 60 = none) (n : Nat) (b : Nat) (x : Nd) : Ans (ev E0 K (n + 1)) b x 60 (!x.exec) := fun S hx hb => by
 refine ⟨S, ?_, Grew.refl _ _⟩
 rw [callK_fn body60.1 body60.2]
 exact ev_read (c := C60) (d := B60) (by kernel_rfl) (by kernel_rfl) (annot_isOf C60 _ (by kernel_rfl)) h (F60_spec (self := ev E0 K n) (N := rounds) hx)
theorem ans64 (h : K 64 = none) (n : Nat) (b : Nat) (x : Nd) : Ans (ev E0 K (n + 1)) b x 64 (x.data == []) := fun S hx hb => by
 refine ⟨S, ?_, Grew.refl _ _⟩
 rw [callK_fn body64.1 body64.2]
 exact ev_read (c := C64) (d := B64) (by kernel_rfl) (by kernel_rfl) (annot_isOf C64 _ (by kernel_rfl)) h (F64_spec (self := ev E0 K n) (N := rounds) hx)
theorem ans62 (h : K 62 = none) (h63 : K 63 = some kfIndexByte) (n : Nat) (b : Nat) (x : Nd) : Ans (ev E0 K (n + 2)) b x 62 (dataOk x.data) := fun S hx hb => by
 refine ⟨S, ?_, Grew.refl _ _⟩
 rw [callK_fn body62.1 body62.2]
 exact ev_read (c := C62) (d := B62) (by kernel_rfl) (by kernel_rfl) (annot_isOf C62 _ (by kernel_rfl)) h (F62_spec (self := ev E0 K (n + 1)) (N := rounds) hx fun s => by
  rw [ev_known h63]
  exact kfIndexByte_run x.data 0 s)
theorem ans65 (h : K 65 = none) (h66 : K 66 = some (kfText gName)) (n : Nat) (b : Nat) (x : Nd) (ok : x.ok) (h36 : ∀ y s m, y ∈ x.kids → (ev E0 K (m + 1)).f 36 [encN y] s = some (.ret (gMay y), s)) : Ans (ev E0 K (n + 2)) b x 65 (mayL none x.kids) := fun S hx hb => by
 obtain ⟨S', h1, h2⟩ := F65_spec (ev E0 K (n + 1)) x b ok.at (fun y hy s => by rw [ev_known h66, kfText_run _ _ (ok.at.kids y hy).at.name]) (fun y hy s => h36 y s n hy) S hx hb
 refine ⟨S', ?_, h2⟩
 rw [callK_fn body65.1 body65.2]
 exact ev_read (c := C65) (d := B65) (by kernel_rfl) (by kernel_rfl) (annot_isOf C65 _ (by kernel_rfl)) h h1
end
theorem kn36 {K : FuncId → Option KF} (hK : KnOk Try.prog E0 K) (h63 : K 63 = some kfIndexByte) (h66 : K 66 = some (kfText gName)) (h59 : K 59 = none) (h60 : K 60 = none) (h61 : K 61 = none) (h62 : K 62 = none) (h64 : K 64 = none) (h65 : K 65 = none) (h71 : K 71 = none) (h72 : K 72 = none) (h75 : K 75 = none) : KnWell Try.prog E0 36 (kfNode gMay) :=
 knNode_rec hK (fn := Try.f36) (c := C36) (d := B36) gMay (fun _ _ => .bool _) (by kernel_rfl) (by kernel_rfl) (annot_isOf C36 _ (by kernel_rfl)) 6 fun K' hK' x S ok hself ho => by
  have e59 : K' 59 = none := by rw [hK' 59 (by decide)]; exact h59
  have e60 : K' 60 = none := by rw [hK' 60 (by decide)]; exact h60
  have e61 : K' 61 = none := by rw [hK' 61 (by decide)]; exact h61
  have e62 : K' 62 = none := by rw [hK' 62 (by decide)]; exact h62
  have e64 : K' 64 = none := by rw [hK' 64 (by decide)]; exact h64
  have e65 : K' 65 = none := by rw [hK' 65 (by decide)]; exact h65
  have e71 : K' 71 = none := by rw [hK' 71 (by decide)]; exact h71
  have e72 : K' 72 = none := by rw [hK' 72 (by decide)]; exact h72
  have e75 : K' 75 = none := by rw [hK' 75 (by decide)]; exact h75
  have e63 : K' 63 = some kfIndexByte := by rw [hK' 63 (by decide)]; exact h63
  have e66 : K' 66 = some (kfText gName) := by rw [hK' 66 (by decide)]; exact h66
  obtain ⟨S1, k1, k2, k3, k4⟩ := node_box ho x
  have hb : S.next < S1.next := by omega
  show ∃ S', F36 (ev E0 K' 6) rounds (encN x) S = _ ∧ _
  rw [F36_eq, k1, gMay, mayN_eq, oB, faP_ptr, oB, Nat.zero_add, k2.f1, oB, binV_ii, intsV_eql, oB, ifK_bool]
  by_cases c1 : x.kind = 1
  · obtain ⟨S', h1, h2⟩ := ans59 e59 5 S.next x S1 k2 hb
    refine ⟨S', ?_, k3.trans h2⟩
    rw [decide_eq_true c1, cond_true, if_pos c1, h1]
    rfl
  · rw [decide_eq_false c1, cond_false, if_neg c1, binV_ii, intsV_eql, oB, ifK_bool]
    by_cases c3 : x.kind = 3
    · obtain ⟨S2, m1, m2, m3, m4⟩ := bsP_three S1 k2.on 29 .nilfn (.fn (.func 59) [] [.ptr S.next 0]) (.fn (.func 60) [] [.ptr S.next 0]) (.fn (.func 62) [] [.ptr S.next 0]) ⟨rfl, rfl, rfl⟩ ⟨rfl, rfl, rfl⟩ ⟨rfl, rfl, rfl⟩
      have hx2 := k2.grew hb (fun h => h) m3
      obtain ⟨S', h1, h2⟩ := all3 e61 e71 e72 e75 2 (ans59 e59 1 S.next x) (ans60 e60 1 S.next x) (ans62 e62 e63 0 S.next x) S2 hx2 (by omega) (by omega) m2
      refine ⟨S', ?_, k3.trans (m3.trans h2)⟩
      rw [decide_eq_true c3, cond_true, if_pos c3, m1, oB, h1, callP_ret]
      unfold dataOk
      generalize decide (1 ≤ x.data.length) = p1
      generalize decide (x.data.length ≤ 255) = p2
      generalize (x.data.any fun x => x == 0) = p3
      generalize x.kids.isEmpty = p4
      cases x.exec <;> cases p1 <;> cases p2 <;> cases p3 <;> cases p4 <;> rfl
    · rw [decide_eq_false c3, cond_false, if_neg c3, binV_ii, intsV_eql, oB, ifK_bool]
      by_cases c2 : x.kind = 2
      · obtain ⟨S2, m1, m2, m3, m4⟩ := bsP_three S1 k2.on 29 .nilfn (.fn (.func 60) [] [.ptr S.next 0]) (.fn (.func 64) [] [.ptr S.next 0]) (.fn (.func 65) [] [.ptr S.next 0]) ⟨rfl, rfl, rfl⟩ ⟨rfl, rfl, rfl⟩ ⟨rfl, rfl, rfl⟩
        have hx2 := k2.grew hb (fun h => h) m3
        obtain ⟨S', h1, h2⟩ := all3 e61 e71 e72 e75 2 (ans60 e60 1 S.next x) (ans64 e64 1 S.next x) (ans65 e65 e66 0 S.next x ok (fun y s m hy => hself y s m hy)) S2 hx2 (by omega) (by omega) m2
        refine ⟨S', ?_, k3.trans (m3.trans h2)⟩
        rw [decide_eq_true c2, cond_true, if_pos c2, m1, oB, h1, callP_ret]
        generalize (x.data == []) = p3
        generalize mayL none x.kids = p4
        cases x.exec <;> cases p3 <;> cases p4 <;> rfl
      · rw [decide_eq_false c2, cond_false, if_neg c2]
        exact ⟨S1, rfl, k3⟩
end Go.Proofs.Ythmkdoaaciamlaa.W
