/-
  WHAT THE FUNCTIONS COME TO: each is read by the evaluator, printed, and told as a function of data, part 4 of 6 (no condition).
-/
import Derived.Test.YtachpdpmoihjmaaW3
namespace Go.Proofs.Ytachpdpmoihjmaa.W
open Go.Proofs.Ytachpdpmoihjmaa.Ev
def esc : List UInt8 → List UInt8
 | [] => []
 | c :: t => if special c then 92 :: c :: esc t else c :: esc t
theorem esc_len : ∀ t, (esc t).length ≤ 2 * t.length
 | [] => by simp [esc]
 | c :: t => by
  have := esc_len t
  rw [esc]
  split <;> simp only [List.length_cons] <;> omega
theorem esc_star : ∀ t, hasPre (esc t) [42] = false
 | [] => rfl
 | c :: t => by
  rw [esc]
  unfold hasPre
  by_cases h : special c = true
  · rw [if_pos h]
    simp
  · rw [if_neg h]
    have hc : c ≠ 42 := fun e => h (by rw [e]; decide)
    simp [hc]
theorem esc_head {s r : List UInt8} {c : UInt8} {i : Nat} (h : s.drop i = esc (c :: r)) : ∃ (hi : i < s.length) (j : Nat), ((s[i] = 92 ∧ j = i + 2 ∧ ∃ h1 : i + 1 < s.length, s[i + 1] = c ∧ special c = true) ∨ (special s[i] = false ∧ j = i + 1 ∧ s[i] = c)) ∧ s.drop j = esc r ∧ j ≤ s.length := by
 rw [esc] at h
 by_cases hc : special c = true
 · rw [if_pos hc] at h
   obtain ⟨hi, h1, h2, _⟩ := drop_at h
   obtain ⟨hi2, h3, h4, _⟩ := drop_at h2
   exact ⟨hi, i + 2, .inl ⟨h1, rfl, hi2, h3, hc⟩, h4, by omega⟩
 · rw [if_neg hc] at h
   obtain ⟨hi, h1, h2, _⟩ := drop_at h
   rw [Bool.not_eq_true] at hc
   exact ⟨hi, i + 1, .inr ⟨by rw [h1]; exact hc, rfl, h1⟩, h2, by omega⟩
section
variable {S : St} {b N0 i : Nat} {s : List UInt8} {f : Bool} {lv : V} {acc : List (Tr V)}
theorem L12_spec {K : FuncId → Option KF} (h16 : K 16 = none) (h23 : K 23 = none) (h30 : K 30 = none) (h17 : K 17 = none) (h26 : K 26 = none) (h18 : K 18 = none) (h13 : K 13 = none) (h27 : K 27 = none) (h31 : K 31 = none) (h33 : K 33 = none) (m N : Nat) (hs : s.length ≤ 300) :
 ∀ (r : List UInt8) (i k : Nat) (f v3 : Bool) (lv : V) (acc : List (Tr V)) (S : St), Rdr S b N0 s i f lv acc → s.drop i = esc r → i ≤ s.length → acc.length + r.length ≤ 3000 → r.length < k →
 ∃ T i' lv' v', L12_13 (ev E0 K (m + 4)) N (R12_6 (ev E0 K (m + 4)) N (finN E0 (ev E0 K (m + 4)) Try.f12) noEx) (exB 0 (R12_6 (ev E0 K (m + 4)) N (finN E0 (ev E0 K (m + 4)) Try.f12) noEx) noEx) k (.ptr b 0) (.bool v3) S = some (.ret (.bool v'), T) ∧ Rdr T b N0 s i' false lv' (acc ++ r.map takeT) ∧ Grew (fun x => N0 ≤ x) S T
 | r, i, 0, f, v3, lv, acc, S, _, _, _, _, hk => by omega
 | [], i, k + 1, f, v3, lv, acc, S, h, hr, hi, hl, hk => by
  have ho := h.on
  have hge : s.length ≤ i := drop_end (by rw [hr]; rfl)
  obtain ⟨T, a1, a2, a3⟩ := h.putF false
  refine ⟨T, i, lv, v3, ?_, by simpa using a2, a3⟩
  rw [L12_13_eq]
  simp only [nilP, faPg, Nat.zero_add, oB]
  rw [h.o3, oB]
  dsimp only
  rw [onS_rd, h.o2, oB]
  dsimp only
  rw [lnStr_sv, oB]
  dsimp only
  rw [binV_ii, intsV_lss, dec_ge hge, oB]
  simp only [guardV_t, guardV_f, guardV_no, oB, cond_false, pickV_bool, callD_ret, onS_onS, onS_rd]
  rw [endP_rd (by rfl), relog_onS ho, ifK_bool, cond_false, exB_same, R12_6_eq]
  simp only [nilP, faPg, Nat.zero_add, oB]
  rw [a1, oB]
 | c :: r, i, k + 1, f, v3, lv, acc, S, h, hr, hi, hl, hk => by
  have ho := h.on
  obtain ⟨hlt, j, hd, hj, hjl⟩ := esc_head hr
  rw [List.length_cons] at hl
  obtain ⟨S1, lv1, a1, a2, a3⟩ := piece_run h17 h26 h18 h13 h27 h31 h33 m h (by omega) hlt hs j c hd
  obtain ⟨T, i', lv', v', b1, b2, b3⟩ := L12_spec h16 h23 h30 h17 h26 h18 h13 h27 h31 h33 m N hs r j k false false lv1 (acc ++ [takeT c]) S1 a2 hj hjl (by rw [List.length_append, List.length_singleton]; omega) (by simp at hk; omega)
  refine ⟨T, i', lv', v', ?_, by rw [List.map_cons]; simpa using b2, a3.trans b3⟩
  rw [L12_13_eq]
  simp only [nilP, faPg, Nat.zero_add, oB, Nat.add_zero]
  rw [h.o3, oB]
  dsimp only
  rw [onS_rd, h.o2, oB]
  dsimp only
  rw [lnStr_sv, oB]
  dsimp only
  rw [binV_ii, intsV_lss, dec_lt hlt, oB, guardV_t, oB, cond_true, oB, oB, cond_true, nilP, oB, oB, cond_true, faPg, Nat.zero_add, oB, oB, cond_true]
  simp only [onS_rd, onS_onS]
  rw [h.o4, oB, oB, cond_true]
  dsimp only
  rw [binV_ii, intsV_eql, decide_eq_true rfl, oB]
  simp only [guardV_t, guardV_f, guardV_no, oB, cond_false, cond_true, pickV_bool, callD_ret, onS_onS, onS_rd, Bool.not_true]
  rw [endP_rd (by rfl), relog_onS ho, ifK_bool, cond_true, h.l0, oB]
  dsimp only
  rw [h.steps.len, oB]
  dsimp only
  rw [a1, callP_ret, extractV_tuple, extractV_tuple, show ([.bool false, .bool true] : List V)[0]? = some (.bool false) from rfl, show ([.bool false, .bool true] : List V)[1]? = some (.bool true) from rfl, oB, oB, guardV_t, oB, cond_true, oB, oB, cond_true, show ev E0 K (m + 4) = ev E0 K (m + 1 + 3) from rfl, at_run h16 h23 h30 (m + 1) a2 hjl, hj, esc_star, callP_ret, pickV_bool, cond_true, oB, ifK_bool, cond_false]
  cases v3 with
  | true =>
   rw [cond_true, oB, cond_true, oB]
   exact b1
  | false =>
   rw [cond_false, oB, cond_false, oB]
   exact b1
theorem pieces_run {K : FuncId → Option KF} (h12 : K 12 = none) (h16 : K 16 = none) (h23 : K 23 = none) (h30 : K 30 = none) (h17 : K 17 = none) (h26 : K 26 = none) (h18 : K 18 = none) (h13 : K 13 = none) (h27 : K 27 = none) (h31 : K 31 = none) (h33 : K 33 = none) (m : Nat) (t : List UInt8) (ht : t.length ≤ 100) (h : Rdr S b N0 (esc t) 0 f .nilslice []) :
 ∃ T i' lv' v', (ev E0 K (m + 5)).f 12 [.ptr b 0] S = some (.ret (.bool v'), T) ∧ Rdr T b N0 (esc t) i' false lv' (t.map takeT) ∧ Grew (fun x => N0 ≤ x) S T := by
 have hel := esc_len t
 obtain ⟨S1, a1, a2, a3⟩ := h.putF true
 obtain ⟨T, i', lv', v', b1, b2, b3⟩ := L12_spec h16 h23 h30 h17 h26 h18 h13 h27 h31 h33 m rounds (by omega) t 0 rounds true true .nilslice [] S1 a2 rfl (by omega) (by rw [List.length_nil]; omega) (by unfold rounds; omega)
 refine ⟨T, i', lv', v', ev_read (c := C12) (d := B12) (by kernel_rfl) (by kernel_rfl) (annot_isOf C12 _ (by kernel_rfl)) h12 (?_ : F12 (ev E0 K (m + 4)) rounds (.ptr b 0) S = _), by simpa using b2, a3.trans b3⟩
 rw [F12_eq]
 simp only [nilP, faPg, Nat.zero_add, oB]
 rw [a1, oB]
 exact b1
end
section
variable {self : EV} {a : Ac} {p0 p1 : Nat} {S : St}
theorem lv6 (h2 : evO E0 a (.tmp 2) = some (.ptr p0 0)) (h3 : evO E0 a (.tmp 3) = some (.ptr p1 0)) (ho : S.on = false) {u v : V} (hp0 : AgAt S p0 22 1 (one u)) (hp1 : AgAt S p1 23 1 (one v)) :
 lvK E0 self Try.f6 a [] .ret S = some (.ret (.tuple [u, v]), S) := by
 have h : lvK E0 self Try.f6 a [] .ret S = (evO E0 a (.tmp 2)).bind fun v => (ldRes E0 22 v S).bind fun p => (evO E0 a (.tmp 3)).bind fun w => (ldRes E0 23 w p.2).bind fun q => some (.ret (.tuple [p.1, q.1]), q.2) := by kernel_rfl
 rw [h, h2, oB, show ldRes E0 22 (.ptr p0 0) S = ldr1 (.ptr p0 0) S by kernel_rfl, hp0.ldr_one ho, oB, h3, oB]
 dsimp only
 rw [show ldRes E0 23 (.ptr p1 0) S = ldr1 (.ptr p1 0) S by kernel_rfl, hp1.ldr_one ho, oB]
theorem fin6 (hd : a.defers = [ad 11 [] [.ptr p0 0, .ptr p1 0]]) (h2 : evO E0 a (.tmp 2) = some (.ptr p0 0)) (h3 : evO E0 a (.tmp 3) = some (.ptr p1 0)) (ho : S.on = false) {u v : V} (hp0 : AgAt S p0 22 1 (one u)) (hp1 : AgAt S p1 23 1 (one v)) :
 finR E0 self Try.f6 a S = some (.ret (.tuple [u, v]), S) := by
 rw [finR_defer hd]
 refine lvK_sound (ALe.refl a) ?_
 rw [E11r, show binV E0 .neq 20 false true .niliface .niliface = some (.bool false) by kernel_rfl, oB, ifK_bool, cond_false]
 exact lv6 h2 h3 ho hp0 hp1
end
theorem build44 (s : List UInt8) : buildV E0 44 [(1, sv s)] = some (vAgg (r6 .nilslice s 0 false)) := by kernel_rfl
theorem compile_run {K : FuncId → Option KF} (h6 : K 6 = none) (h12 : K 12 = none) (h16 : K 16 = none) (h23 : K 23 = none) (h30 : K 30 = none) (h17 : K 17 = none) (h26 : K 26 = none) (h18 : K 18 = none) (h13 : K 13 = none) (h27 : K 27 = none) (h31 : K 31 = none) (h33 : K 33 = none) (m : Nat) (t : List UInt8) (ht : t.length ≤ 100) (S : St) (ho : S.on = false) :
 ∃ T b i lv, (ev E0 K (m + 6)).f 6 [sv (esc t)] S = some (.ret (.tuple [.ptr b 0, .int .i64 0]), T) ∧ Rdr T b S.next (esc t) i false lv (t.map takeT ++ [TK 6]) ∧ Grew (fun x => S.next ≤ x) S T := by
 have hel := esc_len t
 obtain ⟨a1, a2, a3⟩ := ag_new ho 22 1 (one .nilptr)
 have on1 : (nwP 22 1 (one .nilptr) S).2.on = false := nw_on ho _
 have hF := F6_eq (ev E0 K (m + 5)) rounds (sv (esc t)) S
 rw [oB, nwP_fst] at hF
 generalize (nwP 22 1 (one .nilptr) S).2 = S1 at a1 a2 a3 on1 hF
 obtain ⟨b1, b2, b3⟩ := ag_new on1 23 1 (one (.int .i64 0))
 have on2 : (nwP 23 1 (one (.int .i64 0)) S1).2.on = false := nw_on on1 _
 rw [oB, nwP_fst] at hF
 generalize (nwP 23 1 (one (.int .i64 0)) S1).2 = S2 at b1 b2 b3 on2 hF
 obtain ⟨S3, c1, c2, c3, c4⟩ := box_new on2 44 (r6 .nilslice (esc t) 0 false)
 have on3 := c3.on.trans on2
 have hR : Rdr S3 S2.next (S2.next) (esc t) 0 false .nilslice [] := ⟨on3, Nat.le_refl _, by omega, c2, .inl ⟨rfl, rfl⟩⟩
 obtain ⟨S4, i', lv', v', d1, d2, d3⟩ := pieces_run h12 h16 h23 h30 h17 h26 h18 h13 h27 h31 h33 m t ht hR
 obtain ⟨S5, lv5, e1, e2, e3⟩ := add_run h13 (m + 4) d2 (by rw [List.length_map]; omega) (TK 6)
 have on5 := e2.on
 have ga := (((a1.grew (by omega) (fun h => h) b2).grew (by omega) (fun h => h) c3).grew (by omega) (by omega) d3).grew (by have := d3.next; omega) (by omega) e3
 have gb := ((b1.grew (by omega) (fun h => h) c3).grew (by omega) (by omega) d3).grew (by have := d3.next; omega) (by omega) e3
 have n5 : S2.next < S5.next := by have := d3.next; have := e3.next; omega
 obtain ⟨S6, f1, f2, f3, f4⟩ := ga.st_one on5 (.ptr S2.next 0) rfl rfl rfl
 have on6 := f3.on.trans on5
 have gb6 := gb.grew (by omega) (by omega) f3
 obtain ⟨S7, g1, g2, g3, g4⟩ := gb6.st_one on6 (.int .i64 0) rfl rfl rfl
 have on7 := g3.on.trans on6
 have f2' := f2.grew (by omega) (by omega) g3
 have e2' : Rdr S7 S2.next S2.next (esc t) i' false lv5 (t.map takeT ++ [TK 6]) := (e2.grew (fun x _ h1 h2 => by omega) f3).grew (fun x _ h1 h2 => by omega) g3
 refine ⟨S7, S2.next, i', lv5, ev_read (c := C6) (d := B6) (by kernel_rfl) (by kernel_rfl) (annot_isOf C6 _ (by kernel_rfl)) h6 (hF.trans ?_), ⟨e2'.on, by omega, e2'.hi, e2'.bx, ?_⟩, ?_⟩
 · rw [lnStr_sv, oB]
   dsimp only
   rw [binV_ii, intsV_gtr, show decide ((255 : Int) < ((esc t).length : Int)) = false by rw [decide_eq_false_iff_not]; omega, oB, ifK_bool, cond_false, build44, oB, c1, oB]
   dsimp only
   rw [d1, callPF_ret, build_6, oB, show ev E0 K (m + 5) = ev E0 K (m + 4 + 1) from rfl, e1, callPF_ret, nilP, oB, faPg, oB, Nat.add_zero, f1, oB]
   dsimp only
   rw [g1, oB]
   exact fin6 rfl (by kernel_rfl) (by kernel_rfl) on7 f2' g2
 · rcases e2'.steps with h | ⟨h1, r, h2, h3, h4, h5⟩
   · exact .inl h
   · exact .inr ⟨h1, r, h2, h3, by omega, h5⟩
 · have k1 : Grew (fun x => S.next ≤ x) S S3 := ((a2.trans b2).trans c3).mono fun _ _ h => h.elim
   exact (((k1.trans (d3.mono fun x _ hx => by omega)).trans (e3.mono fun x _ hx => by omega)).trans (f3.mono fun x _ hx => by omega)).trans (g3.mono fun x _ hx => by omega)
end Go.Proofs.Ytachpdpmoihjmaa.W
namespace Go.Proofs.Ytachpdpmoihjmaa.W
open Go.Proofs.Ytachpdpmoihjmaa.Ev
noncomputable def stepsT (t : List UInt8) : List (Tr V) := t.map takeT ++ [TK 6]
theorem stepsT_take {t : List UInt8} {k : Nat} (h : k < t.length) : (stepsT t)[k]? = some (takeT t[k]) := by
 unfold stepsT
 rw [List.getElem?_append_left (by rw [List.length_map]; exact h), List.getElem?_map, List.getElem?_eq_getElem h]; rfl
theorem stepsT_done (t : List UInt8) : (stepsT t)[t.length]? = some (TK 6) := by
 unfold stepsT
 rw [List.getElem?_append_right (by rw [List.length_map]; exact Nat.le_refl _), List.length_map, Nat.sub_self]; rfl
structure Rx (S : St) (b r : Nat) (t : List UInt8) : Prop where
 on : S.on = false
 hb : b < S.next
 hr : r < S.next
 bx : ∃ s i f, Bx S b 44 (r6 (.oslice r 0 (t.length + 1) 258) s i f)
 row : RowAt S r 50 258 (stepsT t)
theorem Rx.of {S : St} {b N0 i : Nat} {s : List UInt8} {f : Bool} {lv : V} {t : List UInt8} (h : Rdr S b N0 s i f lv (t.map takeT ++ [TK 6])) : ∃ r, Rx S b r t ∧ N0 ≤ r := by
 rcases h.steps with ⟨h1, _⟩ | ⟨_, r, h2, h3, h4, h5⟩
 · simp at h1
 · refine ⟨r, ⟨h.on, h.hi, h5, ⟨s, i, f, ?_⟩, h3⟩, h4⟩
   have := h.bx
   rw [h2] at this
   rw [show (t.map takeT ++ [TK 6]).length = t.length + 1 by simp] at this
   exact this
section
variable {S : St} {b r : Nat} {t : List UInt8}
theorem Rx.grew {W : Nat → Prop} {T : St} (h : Rx S b r t) (hw1 : ¬ W b) (hw2 : ¬ W r) (g : Grew W S T) : Rx T b r t := by
 obtain ⟨s, i, f, hbx⟩ := h.bx
 exact ⟨g.on.trans h.on, Nat.lt_of_lt_of_le h.hb g.next, Nat.lt_of_lt_of_le h.hr g.next, ⟨s, i, f, hbx.grew h.hb hw1 g⟩, h.row.grew h.hr hw2 g⟩
theorem Rx.l0 (h : Rx S b r t) : ld1 (.ptr b 0) S = some (.oslice r 0 (t.length + 1) 258, S) := by
 obtain ⟨s, i, f, hbx⟩ := h.bx
 exact Bx.ld1 h.on hbx 0 (by show 0 < 6; decide) big6
theorem Rx.l1 (h : Rx S b r t) : ld1 (.ptr b 1) S = some (.int .i64 0, S) := by
 obtain ⟨s, i, f, hbx⟩ := h.bx
 exact Bx.ld1 h.on hbx 1 (by show 1 < 6; decide) big6
theorem Rx.o0 (h : Rx S b r t) : ld1 (.ptr b 0) (onS S) = some (.oslice r 0 (t.length + 1) 258, rd S b 0 1) := by
 obtain ⟨s, i, f, hbx⟩ := h.bx
 exact Bx.ld1On h.on hbx 0 (by show 0 < 6; decide) big6
theorem ixP_st (r n k : Nat) (h : k < n) : ixP 258 (.oslice r 0 n 258) (.int .i64 (k : Int)) = some (.ptr r (k * 258)) := by
 have h0 : ixP 258 (.oslice r 0 n 258) (.int .i64 (k : Int)) = bif Nat.blt k n then some (.ptr r (0 + k * 258)) else none := rfl
 rw [h0, blt_true.2 h, cond_true, Nat.zero_add]
theorem row_ld {e : Nat} {l : List (Tr V)} (ho : S.on = false) (h : RowAt S r e 258 l) {k j : Nat} {u : Tr V} {v : V} (hk : l[k]? = some u) (hj : j < 258) (hv : u.get j = some v) : ld1 (.ptr r (k * 258 + j)) S = some (v, S) := by
 obtain ⟨c, h1, h2⟩ := h.row
 have hlt := (List.getElem?_eq_some_iff.1 hk).1
 have hfit := h.fit
 show ld S r (k * 258 + j) = _
 unfold ld
 rw [h1]
 simp only
 rw [blt_true.2 (show k * 258 + j < 258 * l.length by
  have : (k + 1) * 258 ≤ l.length * 258 := Nat.mul_le_mul_right _ hlt
  omega), blt_true.2 hfit, Bool.and_self, cond_true, show (k * 258 + j) / 258 = k by omega, show (k * 258 + j) % 258 = j by omega, h2 k u hk, oB, hv, oB, note_off ho]
theorem row_ldOn {e : Nat} {l : List (Tr V)} (h : RowAt S r e 258 l) {k j : Nat} {u : Tr V} {v : V} (hk : l[k]? = some u) (hj : j < 258) (hv : u.get j = some v) : ld1 (.ptr r (k * 258 + j)) (onS S) = some (v, rd S r (k * 258 + j) 1) := by
 obtain ⟨c, h1, h2⟩ := h.row
 have hlt := (List.getElem?_eq_some_iff.1 hk).1
 have hfit := h.fit
 show ld (onS S) r (k * 258 + j) = _
 unfold ld
 rw [show (onS S).heap.get r = _ from h1]
 simp only
 rw [blt_true.2 (show k * 258 + j < 258 * l.length by
  have : (k + 1) * 258 ≤ l.length * 258 := Nat.mul_le_mul_right _ hlt
  omega), blt_true.2 hfit, Bool.and_self, cond_true, show (k * 258 + j) / 258 = k by omega, show (k * 258 + j) % 258 = j by omega, h2 k u hk, oB, hv, oB]
 rfl
theorem row_ldA {e : Nat} {l : List (Tr V)} (ho : S.on = false) (h : RowAt S r e 258 l) {k : Nat} {u : Tr V} (hk : l[k]? = some u) : ldA 258 (.ptr r (k * 258)) S = some (.agg 258 u, S) := by
 show (ldK S r (k * 258) 258).bind _ = _
 rw [h.ldK ho hk, oB]
theorem ixP_sl (x n i : Nat) (h : i < n) : ixP 1 (.slice x 0 n n) (.int .i64 (i : Int)) = some (.ptr x i) := by
 have h0 : ixP 1 (.slice x 0 n n) (.int .i64 (i : Int)) = bif Nat.blt i n then some (.ptr x (0 + i * 1)) else none := rfl
 rw [h0, blt_true.2 h, cond_true, Nat.mul_one, Nat.zero_add]
theorem lnS_sl (x n : Nat) : lnS (.slice x 0 n n) S = some (.int .i64 (n : Int), S) := rfl
def intsT (F : List Int) : List (Tr V) := F.map fun z => one (.int .i64 z)
theorem fr_ld (ho : S.on = false) {x e : Nat} {F : List Int} (h : RowAt S x e 1 (intsT F)) {k : Nat} {z : Int} (hk : F[k]? = some z) : ld1 (.ptr x k) S = some (.int .i64 z, S) := by
 show ld S x k = _
 exact h.ld1 ho (by unfold intsT; rw [List.getElem?_map, hk]; rfl)
theorem fr_st (ho : S.on = false) {x e : Nat} {F : List Int} (h : RowAt S x e 1 (intsT F)) {k : Nat} (hk : k < F.length) (z : Int) : ∃ T, stP 1 (.ptr x k) (.int .i64 z) S = some (.tuple [], T) ∧ RowAt T x e 1 (intsT (F.set k z)) ∧ Grew (fun y => y = x) S T ∧ T.next = S.next := by
 obtain ⟨T, a1, a2, a3, a4⟩ := h.stK ho (i := k) (by unfold intsT; rw [List.length_map]; exact hk) (one (.int .i64 z))
 rw [Nat.mul_one] at a1
 refine ⟨T, ?_, ?_, a3, a4⟩
 · show vu (stK S x k 1 (one (.int .i64 z))) = _
   rw [a1]; rfl
 · unfold intsT at a2 ⊢
   rw [List.map_set]
   exact a2
theorem make60 (ho : S.on = false) (n : Nat) (hn : n ≤ 20000) : ∃ T, makeSliceK E0 60 (.int .i64 (n : Int)) (.int .i64 (n : Int)) S = some (.slice S.next 0 n n, T) ∧ RowAt T S.next 3 1 (intsT (List.replicate n 0)) ∧ Grew (fun _ => False) S T ∧ T.next = S.next + 1 := by
 have hr := rowAt_makeRow (s := S) (e := 3) (z := 1) (n := n) (v := .int .i64 0) ho (by decide) (by unfold big; omega)
 refine ⟨makeRow S 3 1 (.int .i64 0) n, ?_, by unfold intsT; rw [List.map_replicate]; exact hr, grew_nw ho _ _, rfl⟩
 unfold makeSliceK
 rw [show sliceElem E0 60 = some (3, 1, 8) by kernel_rfl, oB, show natOf (.int .i64 (n : Int)) = some n from rfl, oB, oB]
 unfold makeAtK
 rw [show Nat.ble n n = true from ble_true.2 (Nat.le_refl _), blt_true.2 (show n * (8 + 1 + 1) < maxCells by unfold maxCells; omega), Bool.and_self, cond_true, show zeroT E0 3 = some (.int .i64 0) by kernel_rfl, oB]
 rfl
theorem L20_spec (self : EV) (N : Nat) (nk : Ac → St → Rs) (ek : Nat → Ac → St → Rs) (x n : Nat) : ∀ (m i k : Nat) (S : St), i + m = n → m < k → S.on = false → x < S.next → RowAt S x 3 1 (intsT (List.replicate i (-1) ++ List.replicate m 0)) →
 ∃ T, L20_14 self N nk ek k (.slice x 0 n n) (.int .i64 (n : Int)) (.int .i64 (i : Int)) S = ek 0 (fr 21 [(3, .slice x 0 n n)]) T ∧ RowAt T x 3 1 (intsT (List.replicate n (-1))) ∧ Grew (fun y => y = x) S T
 | m, i, 0, S, _, hk, _, _, _ => by omega
 | 0, i, k + 1, S, hi, _, ho, _, hr => by
  refine ⟨S, ?_, by rw [← hi]; simpa using hr, Grew.refl _ _⟩
  rw [L20_14_eq, binV_ii, intsV_lss, dec_ge (by omega), oB, ifK_bool, cond_false]
 | m + 1, i, k + 1, S, hi, hk, ho, hx, hr => by
  obtain ⟨S1, a1, a2, a3, a4⟩ := fr_st ho hr (k := i) (by simp) (-1)
  have he : (List.replicate i (-1) ++ List.replicate (m + 1) 0 : List Int).set i (-1) = List.replicate (i + 1) (-1) ++ List.replicate m 0 := by
   rw [List.set_append, if_neg (by simp), List.length_replicate, Nat.sub_self, List.replicate_succ, List.set_cons_zero, List.replicate_succ', List.append_assoc]
   rfl
  rw [he] at a2
  obtain ⟨T, b1, b2, b3⟩ := L20_spec self N nk ek x n m (i + 1) k S1 (by omega) (by omega) (a3.on.trans ho) (by omega) a2
  refine ⟨T, ?_, b2, a3.trans b3⟩
  rw [L20_14_eq, binV_ii, intsV_lss, dec_lt (by omega), oB, ifK_bool, cond_true, ixP_sl x n i (by omega), oB, a1, oB, binV_ii, intsV_add]
  by_cases hbig : i < 9223372036854775807
  · rw [wrap_succ hbig, oB]
    exact b1
  · exfalso
    have := hr.fit
    unfold intsT big at this
    simp at this
    omega
theorem blank_run {K : FuncId → Option KF} (h20 : K 20 = none) (m : Nat) (h : Rx S b r t) (ht : t.length ≤ 100) :
 ∃ T, (ev E0 K (m + 1)).f 20 [.ptr b 0] S = some (.ret (.slice S.next 0 (t.length + 1) (t.length + 1)), T) ∧ RowAt T S.next 3 1 (intsT (List.replicate (t.length + 1) (-1))) ∧ Grew (fun _ => False) S T ∧ S.next < T.next := by
 obtain ⟨S1, a1, a2, a3, a4⟩ := make60 h.on (t.length + 1) (by omega)
 obtain ⟨T, b1, b2, b3⟩ := L20_spec (ev E0 K m) rounds (R20_8 (ev E0 K m) rounds (finN E0 (ev E0 K m) Try.f20) noEx) (exB 0 (R20_8 (ev E0 K m) rounds (finN E0 (ev E0 K m) Try.f20) noEx) noEx) S.next (t.length + 1) (t.length + 1) 0 rounds S1 (by omega) (by unfold rounds; omega) (a3.on.trans h.on) (by omega) (by simpa using a2)
 refine ⟨T, ev_read (c := C20) (d := B20) (by kernel_rfl) (by kernel_rfl) (annot_isOf C20 _ (by kernel_rfl)) h20 (?_ : F20 (ev E0 K m) rounds (.ptr b 0) S = _), b2, a3.own (Nat.le_refl _) b3, by have := b3.next; omega⟩
 rw [F20_eq]
 simp only [nilP, faPg, Nat.zero_add, oB]
 rw [h.l0, oB]
 dsimp only
 rw [show lnS (.oslice r 0 (t.length + 1) 258) S = some (.int .i64 ((t.length + 1 : Nat) : Int), S) from rfl, oB]
 dsimp only
 rw [a1, oB]
 dsimp only
 rw [lnS_sl, oB]
 dsimp only
 rw [show ((0 : Nat) : Int) = 0 from rfl] at b1
 rw [b1, exB_same, R20_8_eq]
theorem F28_z : ∃ Z : Tr V, ∀ (self : EV) (N : Nat) (x0 x1 x2 x3 : V) (S : St), F28 self N x0 x1 x2 x3 S =
(nilCheckV x0).bind fun t7 =>
(faP 0 false 1 t7).bind fun t8 =>
(ld1 t8 S).bind fun p9 =>
(ixP 258 p9.1 x1).bind fun t11 =>
(ldA 258 t11 p9.2).bind fun p12 =>
(some (nwP 50 258 Z p12.2)).bind fun p13 =>
(stP 258 p13.1 p12.1 p13.2).bind fun p14 =>
(faP 256 false 1 p13.1).bind fun t15 =>
(ld1 t15 p14.2).bind fun p16 =>
(binV E0 .eql 3 false true p16.1 (.int .i64 1)).bind fun t17 =>
ifK t17 (
(binV E0 .gtr 3 false true x2 (.int .i64 0)).bind fun t20 =>
ifK t20 (
some (.ret .nilslice, p16.2)) (
(binV E0 .add 3 false true x1 (.int .i64 1)).bind fun t24 =>
(bsP 3 1 1 (one (.int .i64 0)) [(0, t24)] p16.2).bind fun p25 =>
some (.ret p25.1, p25.2))) (
(binV E0 .eql 3 false true p16.1 (.int .i64 2)).bind fun t22 =>
ifK t22 (
(binV E0 .lss 3 false false x2 x3).bind fun t26 =>
ifK t26 (
some (.ret .nilslice, p16.2)) (
(binV E0 .add 3 false true x1 (.int .i64 1)).bind fun t24 =>
(bsP 3 1 1 (one (.int .i64 0)) [(0, t24)] p16.2).bind fun p25 =>
some (.ret p25.1, p25.2))) (
(binV E0 .eql 3 false true p16.1 (.int .i64 3)).bind fun t28 =>
ifK t28 (
(binV E0 .add 3 false true x1 (.int .i64 1)).bind fun t31 =>
(faP 257 false 1 p13.1).bind fun t32 =>
(ld1 t32 p16.2).bind fun p33 =>
(bsP 3 1 2 (one (.int .i64 0)) [(0, t31), (1, p33.1)] p33.2).bind fun p34 =>
some (.ret p34.1, p34.2)) (
(binV E0 .eql 3 false true p16.1 (.int .i64 4)).bind fun t36 =>
ifK t36 (
(faP 257 false 1 p13.1).bind fun t38 =>
(ld1 t38 p16.2).bind fun p39 =>
(bsP 3 1 1 (one (.int .i64 0)) [(0, p39.1)] p39.2).bind fun p40 =>
some (.ret p40.1, p40.2)) (
(binV E0 .eql 3 false true p16.1 (.int .i64 0)).bind fun t42 =>
ifK t42 (
ifK t42 (
some (.ret .nilslice, p16.2)) (
(binV E0 .add 3 false true x1 (.int .i64 1)).bind fun t24 =>
(bsP 3 1 1 (one (.int .i64 0)) [(0, t24)] p16.2).bind fun p25 =>
some (.ret p25.1, p25.2))) (
(binV E0 .eql 3 false true p16.1 (.int .i64 6)).bind fun t45 =>
ifK t45 (
some (.ret .nilslice, p16.2)) (
(binV E0 .add 3 false true x1 (.int .i64 1)).bind fun t24 =>
(bsP 3 1 1 (one (.int .i64 0)) [(0, t24)] p16.2).bind fun p25 =>
some (.ret p25.1, p25.2))))))) := ⟨_, fun self N x0 x1 x2 x3 S => F28_eq self N x0 x1 x2 x3 S⟩
theorem kind_at (t : List UInt8) (k : Nat) (hk : k ≤ t.length) : ∃ u, (stepsT t)[k]? = some u ∧ u.get 256 = some (.int .i64 (if k < t.length then 0 else 6)) := by
 by_cases h : k < t.length
 · exact ⟨_, stepsT_take h, by rw [if_pos h]; exact (stp_take t[k]).kind⟩
 · have : k = t.length := by omega
   subst this
   exact ⟨_, stepsT_done t, by rw [if_neg h]; exact kind_6⟩
theorem goes_run {K : FuncId → Option KF} (h28 : K 28 = none) (m : Nat) (h : Rx S b r t) {k : Nat} (hk : k ≤ t.length) (x2 x3 : V) :
 ∃ T, (ev E0 K (m + 1)).f 28 [.ptr b 0, .int .i64 (k : Int), x2, x3] S = some (.ret .nilslice, T) ∧ Grew (fun _ => False) S T := by
 obtain ⟨Z, hZ⟩ := F28_z
 have ho := h.on
 obtain ⟨u, hu1, hu2⟩ := kind_at t k hk
 obtain ⟨a1, a2, a3⟩ := ag_new ho 50 258 Z
 have on1 : (nwP 50 258 Z S).2.on = false := nw_on ho _
 obtain ⟨S2, b1, b2, b3, b4⟩ := a1.stA on1 big258 u
 have on2 := b3.on.trans on1
 have g2 : Grew (fun _ => False) S S2 := a2.own (Nat.le_refl _) b3
 refine ⟨S2, ev_read (c := C28) (d := B28) (by kernel_rfl) (by kernel_rfl) (annot_isOf C28 _ (by kernel_rfl)) h28 (?_ : F28 (ev E0 K m) rounds (.ptr b 0) (.int .i64 (k : Int)) x2 x3 S = _), g2⟩
 rw [hZ]
 simp only [nilP, faPg, Nat.zero_add, oB]
 rw [h.l0, oB]
 dsimp only
 rw [ixP_st r (t.length + 1) k (by omega), oB, row_ldA ho h.row hu1, oB]
 dsimp only
 rw [nwP_fst, b1, oB]
 dsimp only
 rw [faPg, oB, Nat.zero_add, b2.ld1 on2 big258 (by decide) hu2, oB]
 dsimp only
 by_cases hlt : k < t.length
 · rw [if_pos hlt]; rfl
 · rw [if_neg hlt]; rfl
def entF (F : List Int) (k : Nat) (bg : Int) : List Int := if 0 ≤ F.getD k (-1) ∧ F.getD k (-1) ≤ bg then F else F.set k bg
theorem enter_run {K : FuncId → Option KF} (h21 : K 21 = none) (h28 : K 28 = none) (m : Nat) (h : Rx S b r t) {x : Nat} {F : List Int} (hF : RowAt S x 3 1 (intsT F)) (hx : x < S.next) (hxb : x ≠ b) (hxr : x ≠ r) (hl : F.length = t.length + 1) {k : Nat} (hk : k ≤ t.length) (bg : Int) (x4 x5 : V) :
 ∃ T, (ev E0 K (m + 2)).f 21 [.ptr b 0, .slice x 0 (t.length + 1) (t.length + 1), .int .i64 (k : Int), .int .i64 bg, x4, x5] S = some (.ret (.tuple []), T) ∧ RowAt T x 3 1 (intsT (entF F k bg)) ∧ Grew (fun y => y = x) S T := by
 have ho := h.on
 have hkl : k < F.length := by omega
 have hz : F[k]? = some F[k] := List.getElem?_eq_getElem hkl
 have hgd : F.getD k (-1) = F[k] := by rw [List.getD_eq_getElem?_getD, hz]; rfl
 suffices hm : ∃ T, F21 (ev E0 K (m + 1)) rounds (.ptr b 0) (.slice x 0 (t.length + 1) (t.length + 1)) (.int .i64 (k : Int)) (.int .i64 bg) x4 x5 S = some (.ret (.tuple []), T) ∧ RowAt T x 3 1 (intsT (entF F k bg)) ∧ Grew (fun y => y = x) S T by
  obtain ⟨T, q1, q2, q3⟩ := hm
  exact ⟨T, ev_read (c := C21) (d := B21) (by kernel_rfl) (by kernel_rfl) (annot_isOf C21 _ (by kernel_rfl)) h21 q1, q2, q3⟩
 unfold entF
 rw [hgd]
 have go : ¬ (0 ≤ F[k] ∧ F[k] ≤ bg) → ∃ T, ((ixP 1 (.slice x 0 (t.length + 1) (t.length + 1)) (.int .i64 (k : Int))).bind fun t16 =>
(stP 1 t16 (.int .i64 bg) S).bind fun p17 =>
callP ((ev E0 K (m + 1)).f 28 [.ptr b 0, .int .i64 (k : Int), x4, x5] p17.2) fun t22 S22 =>
(lnS t22 S22).bind fun p23 =>
L21_25 (ev E0 K (m + 1)) rounds (finN E0 (ev E0 K (m + 1)) Try.f21) (exB 0 (finN E0 (ev E0 K (m + 1)) Try.f21) noEx) rounds (.ptr b 0) (.slice x 0 (t.length + 1) (t.length + 1)) (.int .i64 bg) x4 x5 t22 p23.1 (.int .i64 0) p23.2) = some (.ret (.tuple []), T) ∧ RowAt T x 3 1 (intsT (F.set k bg)) ∧ Grew (fun y => y = x) S T := fun _ => by
  obtain ⟨S1, a1, a2, a3, a4⟩ := fr_st ho hF hkl bg
  have h1 : Rx S1 b r t := h.grew (fun e => hxb e.symm) (fun e => hxr e.symm) a3
  obtain ⟨S2, b1, b2⟩ := goes_run h28 m h1 hk x4 x5
  refine ⟨S2, ?_, a2.grew (by omega) (fun h => h) b2, a3.trans (b2.mono fun _ _ h => h.elim)⟩
  rw [ixP_sl x _ k (by omega), oB, a1, oB]
  dsimp only
  rw [b1, callP_ret, show lnS .nilslice S2 = some (.int .i64 0, S2) from rfl, oB]
  dsimp only
  rw [show rounds = rounds - 1 + 1 by unfold rounds; omega, L21_25_eq, binV_ii, intsV_lss, show decide ((0 : Int) < 0) = false from rfl, oB, ifK_bool, cond_false, exB_same]
  rfl
 rw [F21_eq, ixP_sl x _ k (by omega), oB, fr_ld ho hF hz, oB]
 dsimp only
 rw [binV_ii, intsV_geq, oB, guardV_t, oB]
 by_cases h0 : 0 ≤ F[k]
 · rw [decide_eq_true h0, cond_true, oB, oB, cond_true, oB, oB, cond_true, ixP_sl x _ k (by omega), oB, oB, cond_true, fr_ld ho hF hz, oB, oB, cond_true, oB, oB, cond_true]
   dsimp only
   rw [binV_ii, intsV_leq, oB, pickV_bool, cond_true, oB, ifK_bool]
   by_cases h1 : F[k] ≤ bg
   · rw [decide_eq_true h1, cond_true, if_pos ⟨h0, h1⟩]
     exact ⟨S, rfl, hF, Grew.refl _ _⟩
   · rw [decide_eq_false h1, cond_false, if_neg (fun h => h1 h.2)]
     have := go (fun h => h1 h.2)
     rw [ixP_sl x _ k (by omega)] at this
     exact this
 · rw [decide_eq_false h0, cond_false, oB, oB, cond_false, oB, oB, cond_false, oB, oB, cond_false, oB, oB, cond_false, oB, oB, cond_false, oB, pickV_bool, cond_false, oB, ifK_bool, cond_false, if_neg (fun h => h0 h.1)]
   have := go (fun h => h0 h.1)
   rw [ixP_sl x _ k (by omega)] at this
   exact this
end
end Go.Proofs.Ytachpdpmoihjmaa.W
namespace Go.Proofs.Ytachpdpmoihjmaa.W
open Go.Proofs.Ytachpdpmoihjmaa.Ev
def nxL (c : UInt8) : List UInt8 → List Int → List Int
 | x :: t, z :: F => (if 0 ≤ z ∧ c = x then z else -1) :: nxL c t F
 | _, _ => []
def nx (c : UInt8) (t : List UInt8) (F : List Int) : List Int := -1 :: nxL c t F
def lvL (c : UInt8) : List UInt8 → List Int → Bool
 | x :: t, z :: F => (decide (0 ≤ z) && (c == x)) || lvL c t F
 | _, _ => false
theorem nxL_len (c : UInt8) : ∀ (t : List UInt8) (F : List Int), t.length ≤ F.length → (nxL c t F).length = t.length
 | [], F, _ => rfl
 | x :: t, [], h => by simp at h
 | x :: t, z :: F, h => by rw [nxL, List.length_cons, nxL_len c t F (by simpa using h), List.length_cons]
theorem entF_set (A B : List Int) (z : Int) (bg : Int) (hz : z < 0) : entF (A ++ z :: B) A.length bg = A ++ bg :: B := by
 unfold entF
 rw [show (A ++ z :: B).getD A.length (-1) = z by simp [List.getD_eq_getElem?_getD], if_neg (by omega), List.set_append, if_neg (by omega), Nat.sub_self]
 rfl
section
variable {S : St} {b r : Nat} {t : List UInt8}
theorem take_has (c x : UInt8) : (takeT x).get c.toNat = some (.bool (c == x)) := (stp_take x).has c
theorem L14_spec {K : FuncId → Option KF} (h21 : K 21 = none) (h28 : K 28 = none) (m N : Nat) (nk : Ac → St → Rs) (ek : Nat → Ac → St → Rs) {T : List UInt8} {at_ : Nat} (hat : at_ < T.length) (hT : T.length ≤ 100) (v6 v7 : V) {x y : Nat} {F : List Int} (hlen : F.length = t.length + 1) (ht : t.length ≤ 100) :
 ∀ (q : List UInt8) (G A : List Int) (k j : Nat) (lv : Bool) (S : St), Rx S b r t → RowAt S x 3 1 (intsT F) → RowAt S y 3 1 (intsT (A ++ List.replicate q.length (-1))) → x < S.next → y < S.next → x ≠ y → y ≠ b → y ≠ r → t.drop k = q → F.drop k = G → A.length = k + 1 → k ≤ t.length → q.length + 1 < j →
 ∃ U, L14_76 (ev E0 K (m + 2)) N nk ek j (.ptr b 0) (sv T) v6 v7 (.int .i64 (at_ : Int)) (.slice y 0 (t.length + 1) (t.length + 1)) (.bool lv) (.slice x 0 (t.length + 1) (t.length + 1)) (.int .i64 ((t.length + 1 : Nat) : Int)) (.int .i64 (k : Int)) S
  = ek 2 (fr 116 [(0, .ptr b 0), (1, sv T), (6, v6), (7, v7), (9, .int .i64 (at_ : Int)), (11, .slice y 0 (t.length + 1) (t.length + 1)), (12, .bool (lv || lvL T[at_] q G))]) U ∧ RowAt U y 3 1 (intsT (A ++ nxL T[at_] q G)) ∧ Grew (fun z => z = y) S U
 | q, G, A, k, 0, lv, S, _, _, _, _, _, _, _, _, _, _, _, _, hj => by omega
 | [], G, A, k, j + 1, lv, S, h, hx, hy, hxn, hyn, hxy, hyb, hyr, hq, hG, hA, hk, hj => by
  have ho := h.on
  have hkn : k = t.length := by have := List.drop_eq_nil_iff.1 hq; omega
  subst hkn
  have hzk : t.length < F.length := by omega
  have hG1 : G = [F[t.length]] := by
   rw [← hG, List.drop_eq_getElem_cons hzk, List.drop_eq_nil_of_le (by omega)]
  have hz : F[t.length]? = some F[t.length] := List.getElem?_eq_getElem hzk
  obtain ⟨u, hu1, hu2⟩ := kind_at t t.length (Nat.le_refl _)
  rw [if_neg (by omega)] at hu2
  have fin : ∀ j, 0 < j → L14_76 (ev E0 K (m + 2)) N nk ek j (.ptr b 0) (sv T) v6 v7 (.int .i64 (at_ : Int)) (.slice y 0 (t.length + 1) (t.length + 1)) (.bool lv) (.slice x 0 (t.length + 1) (t.length + 1)) (.int .i64 ((t.length + 1 : Nat) : Int)) (.int .i64 ((t.length + 1 : Nat) : Int)) S
   = ek 2 (fr 116 [(0, .ptr b 0), (1, sv T), (6, v6), (7, v7), (9, .int .i64 (at_ : Int)), (11, .slice y 0 (t.length + 1) (t.length + 1)), (12, .bool lv)]) S := fun j hj => by
   rw [show j = j - 1 + 1 by omega, L14_76_eq, binV_ii, intsV_lss, dec_ge (Nat.le_refl _), oB, ifK_bool, cond_false]
  refine ⟨S, ?_, by simpa [nxL] using hy, Grew.refl _ _⟩
  rw [show (lv || lvL T[at_] [] G) = lv by simp [lvL], ← fin j (by simp at hj; omega)]
  rw [L14_76_eq, binV_ii, intsV_lss, dec_lt (by omega), oB, ifK_bool, cond_true, ixP_sl x _ _ (by omega), oB, fr_ld ho hx hz, oB]
  dsimp only
  rw [binV_ii, intsV_geq, oB]
  by_cases h0 : 0 ≤ F[t.length]
  · rw [decide_eq_true h0]
    simp only [guardV_t, oB, cond_true, nilP, faPg, Nat.zero_add, h.o0, ixP_st r (t.length + 1) t.length (by omega), onS_rd, row_ldOn h.row hu1 (j := 256) (by omega) hu2, binV_ii, intsV_eql, pickV_bool, show decide ((6 : Int) = 0) = false from rfl, cond_false, guardV_no, onS_onS, ifK_bool]
    rw [relog_onS ho, intsV_add, wrap_succ (by omega), oB]
  · rw [decide_eq_false h0]
    simp only [guardV_t, oB, cond_false, pickV_bool, guardV_no, onS_onS, ifK_bool]
    rw [relog_onS ho, binV_ii, intsV_add, wrap_succ (by omega), oB]
 | c :: q, G, A, k, j + 1, lv, S, h, hx, hy, hxn, hyn, hxy, hyb, hyr, hq, hG, hA, hk, hj => by
  have ho := h.on
  obtain ⟨hkt, hc, hd, _⟩ := drop_at hq
  have hzk : k < F.length := by omega
  have hz : F[k]? = some F[k] := List.getElem?_eq_getElem hzk
  have hG1 : G = F[k] :: F.drop (k + 1) := by rw [← hG, List.drop_eq_getElem_cons hzk]
  have hu1 := stepsT_take hkt
  have hu2 : (takeT t[k]).get 256 = some (.int .i64 0) := (stp_take t[k]).kind
  have hu3 : (takeT t[k]).get T[at_].toNat = some (.bool (T[at_] == c)) := (take_has T[at_] t[k]).trans (by rw [hc])
  have hdz : decide ((0 : Int) = 0) = true := rfl
  have hD := row_ldOn h.row hu1 (j := 256) (by omega) hu2
  have hB : T[at_].toNat < 256 := T[at_].toNat_lt
  have hB2 : T[at_].toNat < 258 := Nat.lt_of_lt_of_le hB (by decide)
  have hD2 := row_ldOn h.row hu1 hB2 hu3
  have hix := ixA_ptr 256 1 false 1 .u8 (b := r) (off := k * 258) hB
  have hA2 : A ++ List.replicate (c :: q).length (-1) = A ++ (-1) :: List.replicate q.length (-1) := by rw [List.length_cons, List.replicate_succ]
  have no : (decide (0 ≤ F[k]) && (T[at_] == c)) = false → ∃ U, L14_76 (ev E0 K (m + 2)) N nk ek j (.ptr b 0) (sv T) v6 v7 (.int .i64 (at_ : Int)) (.slice y 0 (t.length + 1) (t.length + 1)) (.bool lv) (.slice x 0 (t.length + 1) (t.length + 1)) (.int .i64 ((t.length + 1 : Nat) : Int)) (.int .i64 ((k + 1 : Nat) : Int)) S
   = ek 2 (fr 116 [(0, .ptr b 0), (1, sv T), (6, v6), (7, v7), (9, .int .i64 (at_ : Int)), (11, .slice y 0 (t.length + 1) (t.length + 1)), (12, .bool (lv || lvL T[at_] (c :: q) G))]) U ∧ RowAt U y 3 1 (intsT (A ++ nxL T[at_] (c :: q) G)) ∧ Grew (fun z => z = y) S U := fun hno => by
   obtain ⟨U, a1, a2, a3⟩ := L14_spec h21 h28 m N nk ek hat hT v6 v7 hlen ht q (F.drop (k + 1)) (A ++ [-1]) (k + 1) j lv S h hx (by rw [List.append_assoc]; rw [hA2] at hy; exact hy) hxn hyn hxy hyb hyr hd rfl (by simp [hA]) (by omega) (by simp at hj; omega)
   refine ⟨U, ?_, ?_, a3⟩
   · rw [a1, hG1, lvL, hno, Bool.false_or]
   · rw [hG1, nxL, if_neg (by
      intro hh
      rw [decide_eq_true hh.1, Bool.true_and] at hno
      exact absurd hh.2 (by simpa using hno))]
     rw [List.append_assoc] at a2
     exact a2
  rw [L14_76_eq, binV_ii, intsV_lss, dec_lt (by omega), oB, ifK_bool, cond_true, ixP_sl x _ _ (by omega), oB, fr_ld ho hx hz, oB]
  dsimp only
  rw [binV_ii, intsV_geq, oB]
  by_cases h0 : 0 ≤ F[k]
  · rw [decide_eq_true h0]
    simp only [guardV_t, oB, cond_true, nilP, faPg, Nat.zero_add, Nat.add_zero, h.o0, ixP_st r (t.length + 1) k (by omega), onS_rd, hD, binV_ii, intsV_eql, pickV_bool, hdz, decide_true, ixS_sv T .i64 at_ hat, hix, Nat.mul_one, hD2, onS_onS, ifK_bool]
    rw [relog_onS ho]
    by_cases he : (T[at_] == c) = true
    · rw [he, cond_true, intsV_add, wrap_succ (by omega), oB, intsV_add, wrap_succ (by omega), oB, lnStr_sv, oB]
      dsimp only
      obtain ⟨S1, b1, b2, b3⟩ := enter_run h21 h28 m h hy hyn hyb hyr (by simp [hA]; have := congrArg List.length hq; simp at this; omega) (k := k + 1) (by omega) F[k] (.int .i64 ((at_ + 1 : Nat) : Int)) (.int .i64 (T.length : Int))
      rw [hA2, ← hA, entF_set _ _ _ _ (by omega)] at b2
      obtain ⟨U, a1, a2, a3⟩ := L14_spec h21 h28 m N nk ek hat hT v6 v7 hlen ht q (F.drop (k + 1)) (A ++ [F[k]]) (k + 1) j true S1 (h.grew (fun e => hyb e.symm) (fun e => hyr e.symm) b3) (hx.grew hxn hxy b3) (by rw [List.append_assoc]; exact b2) (Nat.lt_of_lt_of_le hxn b3.next) (Nat.lt_of_lt_of_le hyn b3.next) hxy hyb hyr hd rfl (by simp [hA]) (by omega) (by simp at hj; omega)
      refine ⟨U, ?_, ?_, b3.trans a3⟩
      · rw [b1, callP_ret, oB, a1, hG1, lvL, he, decide_eq_true h0]
        simp
      · rw [hG1, nxL, if_pos ⟨h0, by simpa using he⟩]
        rw [List.append_assoc] at a2
        exact a2
    · rw [Bool.not_eq_true] at he
      rw [he, cond_false, intsV_add, wrap_succ (by omega), oB]
      exact no (by rw [he]; simp)
  · rw [decide_eq_false h0]
    simp only [guardV_t, oB, cond_false, pickV_bool, guardV_no, onS_onS, ifK_bool]
    rw [relog_onS ho, binV_ii, intsV_add, wrap_succ (by omega), oB]
    exact no (by rw [decide_eq_false h0]; rfl)
end
end Go.Proofs.Ytachpdpmoihjmaa.W
namespace Go.Proofs.Ytachpdpmoihjmaa.W
open Go.Proofs.Ytachpdpmoihjmaa.Ev
theorem big2 : 2 < big := by unfold big; decide
noncomputable def tr2 (a e : Int) : Tr V := Tr.ofListFrom .nil [.int .i64 a, .int .i64 e] 0
noncomputable def spT : Option (Int × Int) → Tr V
 | none => tr2 0 0
 | some p => tr2 p.1 p.2
theorem build_30 (a e : Int) : buildV E0 30 [(0, .int .i64 a), (1, .int .i64 e)] = some (.agg 2 (tr2 a e)) := by kernel_rfl
theorem tr2_0 (a e : Int) : (tr2 a e).get 0 = some (.int .i64 a) := rfl
def okB : Option (Int × Int) → Int → Bool
 | none, _ => true
 | some p, z => decide (z ≤ p.1)
def hit (n : Nat) (at_ : Int) (F : List Int) (o : Option (Int × Int)) : Option (Int × Int) := if 0 ≤ F.getD n (-1) ∧ okB o (F.getD n (-1)) = true then some (F.getD n (-1), at_) else o
def entO (o : Option (Int × Int)) (F : List Int) (at_ : Int) : List Int := match o with | none => entF F 0 at_ | some _ => F
def whM (t : List UInt8) : List UInt8 → Nat → List Int → Option (Int × Int) → Option (Int × Int)
 | [], a, F, o => hit t.length (a : Int) (entO o F (a : Int)) o
 | c :: q, a, F, o =>
  let F1 := entO o F (a : Int)
  let o1 := hit t.length (a : Int) F1 o
  bif (!o1.isSome || lvL c t F1) then whM t q (a + 1) (nx c t F1) o1 else o1
theorem entF_len (F : List Int) (k : Nat) (bg : Int) : (entF F k bg).length = F.length := by
 unfold entF
 split
 · rfl
 · exact List.length_set
theorem nx_len {c : UInt8} {t : List UInt8} {F : List Int} (h : F.length = t.length + 1) : (nx c t F).length = t.length + 1 := by
 unfold nx
 rw [List.length_cons, nxL_len c t F (by omega)]
section
variable {S : St} {b r : Nat} {t : List UInt8}
noncomputable def tail14 (self : EV) (N : Nat) (nk : Ac → St → Rs) (ek : Nat → Ac → St → Rs) (n : Nat) (v0 v1 v6 v7 v8 v9 : V) (S : St) : Rs :=
 callP (self.f 20 [v0] S) fun t63 S63 =>
 (unV .not v7).bind fun t65 =>
 (lnS v8 S63).bind fun p74 =>
 L14_76 self N (R14_68 self N (fun a s => projK [0, 1, 6, 7, 8, 9] a fun a => (fun a s => projK [0, 1, 6, 7, 8, 9] a fun a => (R14_18 self N (N14_13 self N nk ek n) ek) a s) a s) (exB 1 (R14_18 self N (N14_13 self N nk ek n) ek) ek)) (exB 2 (R14_68 self N (fun a s => projK [0, 1, 6, 7, 8, 9] a fun a => (fun a s => projK [0, 1, 6, 7, 8, 9] a fun a => (R14_18 self N (N14_13 self N nk ek n) ek) a s) a s) (exB 1 (R14_18 self N (N14_13 self N nk ek n) ek) ek)) (exB 1 (R14_18 self N (N14_13 self N nk ek n) ek) ek)) N v0 v1 v6 v7 v9 t63 t65 v8 p74.1 (.int .i64 0) p74.2
theorem tail_eq (self : EV) (N : Nat) (nk : Ac → St → Rs) (ek : Nat → Ac → St → Rs) (n : Nat) (v0 v1 v6 v7 v8 v9 : V) (S : St) : tail14 self N nk ek n v0 v1 v6 v7 v8 v9 S =
 callP (self.f 20 [v0] S) fun t63 S63 =>
 (unV .not v7).bind fun t65 =>
 (lnS v8 S63).bind fun p74 =>
 L14_76 self N (R14_68 self N (fun a s => projK [0, 1, 6, 7, 8, 9] a fun a => (fun a s => projK [0, 1, 6, 7, 8, 9] a fun a => (R14_18 self N (N14_13 self N nk ek n) ek) a s) a s) (exB 1 (R14_18 self N (N14_13 self N nk ek n) ek) ek)) (exB 2 (R14_68 self N (fun a s => projK [0, 1, 6, 7, 8, 9] a fun a => (fun a s => projK [0, 1, 6, 7, 8, 9] a fun a => (R14_18 self N (N14_13 self N nk ek n) ek) a s) a s) (exB 1 (R14_18 self N (N14_13 self N nk ek n) ek) ek)) (exB 1 (R14_18 self N (N14_13 self N nk ek n) ek) ek)) N v0 v1 v6 v7 v9 t63 t65 v8 p74.1 (.int .i64 0) p74.2 := rfl
theorem exB1_0 (nk : Ac → St → Rs) (ek : Nat → Ac → St → Rs) (a : Ac) (s : St) : exB 1 nk ek 0 a s = ek 0 a s := rfl
theorem proj14 (f : Ac → St → Rs) (v0 v1 v6 v7 v8 v9 : V) (S : St) : (fun a s => projK [0, 1, 6, 7, 8, 9] a fun a => (fun a s => projK [0, 1, 6, 7, 8, 9] a fun a => f a s) a s) (fr 116 [(0, v0), (1, v1), (6, v6), (7, v7), (8, v8), (9, v9)]) S = f (fr 116 [(0, v0), (1, v1), (6, v6), (7, v7), (8, v8), (9, v9)]) S := by kernel_rfl
theorem tail_run {K : FuncId → Option KF} (h20 : K 20 = none) (h21 : K 21 = none) (h28 : K 28 = none) (m N : Nat) (hN : 300 < N) (nk : Ac → St → Rs) (ek : Nat → Ac → St → Rs) (j : Nat) {T : List UInt8} {at_ N0 : Nat} (hat : at_ < T.length) (hT : T.length ≤ 100) (ht : t.length ≤ 100) {x p : Nat} {F : List Int} (o : Option (Int × Int)) (hlen : F.length = t.length + 1)
 (h : Rx S b r t) (hb : b < N0) (hr : r < N0) (hF : RowAt S x 3 1 (intsT F)) (hp : AgAt S p 30 2 (spT o)) (hxn : x < S.next) (hpn : p < S.next) (hx0 : N0 ≤ x) (hp0 : N0 ≤ p) :
 ∃ U y, tail14 (ev E0 K (m + 2)) N nk ek j (.ptr b 0) (sv T) (.ptr p 0) (.bool o.isSome) (.slice x 0 (t.length + 1) (t.length + 1)) (.int .i64 (at_ : Int)) S = (bif (!o.isSome || lvL T[at_] t F) then L14_13 (ev E0 K (m + 2)) N nk ek j (.ptr b 0) (sv T) (.ptr p 0) (.bool o.isSome) (.slice y 0 (t.length + 1) (t.length + 1)) (.int .i64 ((at_ + 1 : Nat) : Int)) U else ek 0 (fr 116 [(6, .ptr p 0), (7, .bool o.isSome)]) U) ∧
  Rx U b r t ∧ RowAt U y 3 1 (intsT (nx T[at_] t F)) ∧ AgAt U p 30 2 (spT o) ∧ y < U.next ∧ N0 ≤ y ∧ y ≠ p ∧ p < U.next ∧ Grew (fun z => N0 ≤ z) S U := by
 have hS0 : N0 ≤ S.next := by omega
 obtain ⟨S1, a1, a2, a3, a4⟩ := blank_run h20 (m + 1) h ht
 have h1 : Rx S1 b r t := h.grew (fun h => h) (fun h => h) a3
 obtain ⟨U, b1, b2, b3⟩ := L14_spec h21 h28 m N (R14_68 (ev E0 K (m + 2)) N (fun a s => projK [0, 1, 6, 7, 8, 9] a fun a => (fun a s => projK [0, 1, 6, 7, 8, 9] a fun a => (R14_18 (ev E0 K (m + 2)) N (N14_13 (ev E0 K (m + 2)) N nk ek j) ek) a s) a s) (exB 1 (R14_18 (ev E0 K (m + 2)) N (N14_13 (ev E0 K (m + 2)) N nk ek j) ek) ek)) (exB 2 (R14_68 (ev E0 K (m + 2)) N (fun a s => projK [0, 1, 6, 7, 8, 9] a fun a => (fun a s => projK [0, 1, 6, 7, 8, 9] a fun a => (R14_18 (ev E0 K (m + 2)) N (N14_13 (ev E0 K (m + 2)) N nk ek j) ek) a s) a s) (exB 1 (R14_18 (ev E0 K (m + 2)) N (N14_13 (ev E0 K (m + 2)) N nk ek j) ek) ek)) (exB 1 (R14_18 (ev E0 K (m + 2)) N (N14_13 (ev E0 K (m + 2)) N nk ek j) ek) ek)) hat hT (.ptr p 0) (.bool o.isSome) (x := x) (y := S.next) (F := F) hlen ht t F [-1] 0 N (!o.isSome) S1 h1 (hF.grew hxn (fun h => h) a3) (by simpa [List.replicate_succ] using a2) (Nat.lt_of_lt_of_le hxn a3.next) a4 (by omega) (by omega) (by omega) rfl rfl rfl (by omega) (by omega)
 have g : Grew (fun z => N0 ≤ z) S U := (a3.mono fun _ _ h => h.elim).trans (b3.mono fun z _ hz => by omega)
 refine ⟨U, S.next, ?_, h1.grew (by omega) (by omega) b3, b2, (hp.grew hpn (fun h => h) a3).grew (by omega) (by omega) b3, Nat.lt_of_lt_of_le a4 b3.next, hS0, by omega, Nat.lt_of_lt_of_le hpn g.next, g⟩
 rw [tail_eq, show ev E0 K (m + 2) = ev E0 K (m + 1 + 1) from rfl, a1, callP_ret, unV_not, oB, lnS_sl, oB]
 dsimp only
 rw [show ((0 : Nat) : Int) = 0 from rfl] at b1
 rw [b1, exB_same, R14_68_eq, unV_not, oB, ifK_bool]
 cases hc : (!o.isSome || lvL T[at_] t F) with
 | true =>
  rw [Bool.not_true, cond_false, cond_true]
  refine (proj14 (R14_18 (ev E0 K (m + 2)) N (N14_13 (ev E0 K (m + 2)) N nk ek j) ek) _ _ _ _ _ _ U).trans ?_
  rw [R14_18_eq, binV_ii, intsV_add, wrap_succ (by omega), oB, N14_13_eq]
 | false =>
  rw [Bool.not_false, cond_true, cond_false, exB1_0]
end
end Go.Proofs.Ytachpdpmoihjmaa.W
namespace Go.Proofs.Ytachpdpmoihjmaa.W
open Go.Proofs.Ytachpdpmoihjmaa.Ev
noncomputable def mid14 (self : EV) (N : Nat) (nk : Ac → St → Rs) (ek : Nat → Ac → St → Rs) (n : Nat) (v0 v1 v6 v7 v8 v9 : V) (S30 : St) : Rs :=
(nilCheckV v0).bind fun t33 =>
(faP 0 false 1 t33).bind fun t34 =>
(ld1 t34 S30).bind fun p35 =>
(lnS p35.1 p35.2).bind fun p36 =>
(binV E0 .sub 3 false true p36.1 (.int .i64 1)).bind fun t37 =>
(ixP 1 v8 t37).bind fun t38 =>
(ld1 t38 p36.2).bind fun p39 =>
(binV E0 .geq 3 false true p39.1 (.int .i64 0)).bind fun t42 =>
(guardV true t42).bind fun g44 => (bif g44 then some v7 else some (.tuple [])).bind fun t44 =>
(guardV true t42).bind fun g45 => (bif g45 then unV .not t44 else some (.tuple [])).bind fun t45 =>
(guardV true t42).bind fun g46 => (bif g46 then some t45 else some (.tuple [])).bind fun t46 =>
(guardV false t46).bind fun g47 => (bif g47 then some p39.1 else some (.tuple [])).bind fun t47 =>
(guardV false t46).bind fun g48 => (bif g48 then ixA 2 1 false 1 v6 (.int .i64 0) else some (.tuple [])).bind fun t48 =>
(guardV false t46).bind fun g49 => (bif g49 then ld1 t48 p39.2 else some (.tuple [], p39.2)).bind fun p49 =>
(guardV false t46).bind fun g50 => (bif g50 then binV E0 .leq 3 false false t47 p49.1 else some (.tuple [])).bind fun t50 =>
(guardV true t42).bind fun g51 => (bif g51 then pickV t46 (some (.bool true)) (some t50) else some (.tuple [])).bind fun t51 =>
(pickV t42 (some t51) (some (.bool false))).bind fun t52 =>
ifK t52 (
(buildV E0 30 [(0, p39.1), (1, v9)]).bind fun t55 =>
(stP 2 v6 t55 p49.2).bind fun p56 =>
(lnStr v1 p56.2).bind fun p60 =>
(binV E0 .eql 3 false false v9 p60.1).bind fun t61 =>
ifK t61 (
ek 0 (fr 116 [(6, v6), (7, (.bool true))]) p60.2) (
tail14 self N nk ek n v0 v1 v6 (.bool true) v8 v9 p60.2)) (
(lnStr v1 p49.2).bind fun p128 =>
(binV E0 .eql 3 false false v9 p128.1).bind fun t129 =>
ifK t129 (
ek 0 (fr 116 [(6, v6), (7, v7)]) p128.2) (
tail14 self N nk ek n v0 v1 v6 v7 v8 v9 p128.2))
theorem L14_13_t (self : EV) (N : Nat) (nk : Ac → St → Rs) (ek : Nat → Ac → St → Rs) (n : Nat) (v0 v1 v6 v7 v8 v9 : V) (S : St) : L14_13 self N nk ek (n + 1) v0 v1 v6 v7 v8 v9 S =
(lnStr v1 S).bind fun p16 =>
(binV E0 .leq 3 false false v9 p16.1).bind fun t17 =>
ifK t17 (
(unV .not v7).bind fun t23 =>
ifK t23 (
(lnStr v1 p16.2).bind fun p29 =>
callP (self.f 21 [v0, v8, (.int .i64 0), v9, v9, p29.1] p29.2) fun t30 S30 =>
mid14 self N nk ek n v0 v1 v6 v7 v8 v9 S30) (
mid14 self N nk ek n v0 v1 v6 v7 v8 v9 p16.2)) (
ek 0 (fr 116 [(6, v6), (7, v7)]) p16.2) := L14_13_eq self N nk ek n v0 v1 v6 v7 v8 v9 S
section
variable {S : St} {b r : Nat} {t : List UInt8}
theorem mid_run (self : EV) (N : Nat) (nk : Ac → St → Rs) (ek : Nat → Ac → St → Rs) (n : Nat) {T : List UInt8} {at_ : Nat} {x p : Nat} {F : List Int} (o : Option (Int × Int)) (hlen : F.length = t.length + 1) (ht : t.length ≤ 100)
 (h : Rx S b r t) (hF : RowAt S x 3 1 (intsT F)) (hp : AgAt S p 30 2 (spT o)) (hxp : x ≠ p) (hpb : b ≠ p) (hpr : r ≠ p) :
 ∃ U, mid14 self N nk ek n (.ptr b 0) (sv T) (.ptr p 0) (.bool o.isSome) (.slice x 0 (t.length + 1) (t.length + 1)) (.int .i64 (at_ : Int)) S = (bif decide ((at_ : Int) = (T.length : Int)) then ek 0 (fr 116 [(6, .ptr p 0), (7, .bool (hit t.length (at_ : Int) F o).isSome)]) U else
  tail14 self N nk ek n (.ptr b 0) (sv T) (.ptr p 0) (.bool (hit t.length (at_ : Int) F o).isSome) (.slice x 0 (t.length + 1) (t.length + 1)) (.int .i64 (at_ : Int)) U) ∧
  AgAt U p 30 2 (spT (hit t.length (at_ : Int) F o)) ∧ Grew (fun z => z = p) S U ∧ U.next = S.next := by
 have ho := h.on
 have hkl : t.length < F.length := by omega
 have hz : F[t.length]? = some F[t.length] := List.getElem?_eq_getElem hkl
 have hgd : F.getD t.length (-1) = F[t.length] := by rw [List.getD_eq_getElem?_getD, hz]; rfl
 unfold hit
 rw [hgd]
 unfold mid14
 simp only [nilP, faPg, Nat.zero_add, oB]
 rw [h.l0, oB]
 dsimp only
 rw [show lnS (.oslice r 0 (t.length + 1) 258) S = some (.int .i64 ((t.length + 1 : Nat) : Int), S) from rfl, oB]
 dsimp only
 rw [binV_ii, intsV_sub, wrap_i64 (by omega) (by omega), show ((t.length + 1 : Nat) : Int) - 1 = (t.length : Int) by omega, oB, ixP_sl x _ _ (by omega), oB, fr_ld ho hF hz, oB]
 dsimp only
 rw [binV_ii, intsV_geq, oB]
 have yes : ∃ U, ((buildV E0 30 [(0, .int .i64 F[t.length]), (1, .int .i64 (at_ : Int))]).bind fun t55 =>
(stP 2 (.ptr p 0) t55 S).bind fun p56 =>
(lnStr (sv T) p56.2).bind fun p60 =>
(binV E0 .eql 3 false false (.int .i64 (at_ : Int)) p60.1).bind fun t61 =>
ifK t61 (
ek 0 (fr 116 [(6, .ptr p 0), (7, (.bool true))]) p60.2) (
tail14 self N nk ek n (.ptr b 0) (sv T) (.ptr p 0) (.bool true) (.slice x 0 (t.length + 1) (t.length + 1)) (.int .i64 (at_ : Int)) p60.2)) = (bif decide ((at_ : Int) = (T.length : Int)) then ek 0 (fr 116 [(6, .ptr p 0), (7, .bool (some (F[t.length], (at_ : Int))).isSome)]) U else
  tail14 self N nk ek n (.ptr b 0) (sv T) (.ptr p 0) (.bool (some (F[t.length], (at_ : Int))).isSome) (.slice x 0 (t.length + 1) (t.length + 1)) (.int .i64 (at_ : Int)) U) ∧
  AgAt U p 30 2 (spT (some (F[t.length], (at_ : Int)))) ∧ Grew (fun z => z = p) S U ∧ U.next = S.next := by
  obtain ⟨U, a1, a2, a3, a4⟩ := hp.stA ho big2 (tr2 F[t.length] (at_ : Int))
  refine ⟨U, ?_, a2, a3, a4⟩
  rw [build_30, oB, a1, oB]
  dsimp only
  rw [lnStr_sv, oB]
  dsimp only
  rw [binV_ii, intsV_eql, oB, ifK_bool]
  rfl
 have nope : ∃ U, ((lnStr (sv T) S).bind fun p128 =>
(binV E0 .eql 3 false false (.int .i64 (at_ : Int)) p128.1).bind fun t129 =>
ifK t129 (
ek 0 (fr 116 [(6, .ptr p 0), (7, (.bool o.isSome))]) p128.2) (
tail14 self N nk ek n (.ptr b 0) (sv T) (.ptr p 0) (.bool o.isSome) (.slice x 0 (t.length + 1) (t.length + 1)) (.int .i64 (at_ : Int)) p128.2)) = (bif decide ((at_ : Int) = (T.length : Int)) then ek 0 (fr 116 [(6, .ptr p 0), (7, .bool o.isSome)]) U else
  tail14 self N nk ek n (.ptr b 0) (sv T) (.ptr p 0) (.bool o.isSome) (.slice x 0 (t.length + 1) (t.length + 1)) (.int .i64 (at_ : Int)) U) ∧
  AgAt U p 30 2 (spT o) ∧ Grew (fun z => z = p) S U ∧ U.next = S.next := by
  refine ⟨S, ?_, hp, Grew.refl _ _, rfl⟩
  rw [lnStr_sv, oB]
  dsimp only
  rw [binV_ii, intsV_eql, oB, ifK_bool]
 by_cases h0 : 0 ≤ F[t.length]
 · rw [decide_eq_true h0]
   cases o with
   | none =>
    rw [if_pos ⟨h0, rfl⟩]
    simp only [guardV_t, guardV_f, oB, cond_true, cond_false, unV_not, Option.isSome_none, Bool.not_false, Bool.not_true, pickV_bool, ifK_bool]
    exact yes
   | some q =>
    have hld := hp.ld1 ho big2 (i := 0) (by decide) (tr2_0 q.1 q.2)
    have hix := ixA_ptr 2 1 false 1 .i64 (b := p) (off := 0) (n := 0) (by decide)
    rw [show ((0 : Nat) : Int) = 0 from rfl] at hix
    simp only [guardV_t, guardV_f, oB, cond_true, cond_false, unV_not, Option.isSome_some, Bool.not_false, Bool.not_true, pickV_bool, hix, Nat.zero_mul, Nat.add_zero, hld, binV_ii, intsV_leq, ifK_bool]
    by_cases h1 : F[t.length] ≤ q.1
    · rw [if_pos ⟨h0, show decide (F[t.length] ≤ q.1) = true from decide_eq_true h1⟩, decide_eq_true h1, cond_true]
      exact yes
    · rw [if_neg (fun hh => h1 (of_decide_eq_true (show decide (F[t.length] ≤ q.1) = true from hh.2))), decide_eq_false h1, cond_false]
      exact nope
 · rw [decide_eq_false h0, if_neg (fun hh => h0 hh.1)]
   simp only [guardV_t, guardV_f, guardV_no, oB, cond_true, cond_false, pickV_bool, ifK_bool]
   exact nope
end
end Go.Proofs.Ytachpdpmoihjmaa.W
namespace Go.Proofs.Ytachpdpmoihjmaa.W
open Go.Proofs.Ytachpdpmoihjmaa.Ev
section
variable {S : St} {b r : Nat} {t : List UInt8}
theorem L13_spec {K : FuncId → Option KF} (h20 : K 20 = none) (h21 : K 21 = none) (h28 : K 28 = none) (m N : Nat) (hN : 300 < N) (nk : Ac → St → Rs) (ek : Nat → Ac → St → Rs) {T : List UInt8} {N0 p : Nat} (hT : T.length ≤ 100) (ht : t.length ≤ 100) (hb : b < N0) (hr : r < N0) (hp0 : N0 ≤ p) :
 ∀ (q : List UInt8) (at_ : Nat) (F : List Int) (o : Option (Int × Int)) (x j : Nat) (S : St), Rx S b r t → RowAt S x 3 1 (intsT F) → AgAt S p 30 2 (spT o) → x < S.next → p < S.next → N0 ≤ x → x ≠ p → F.length = t.length + 1 → T.drop at_ = q → at_ ≤ T.length → q.length < j →
 ∃ U, L14_13 (ev E0 K (m + 2)) N nk ek j (.ptr b 0) (sv T) (.ptr p 0) (.bool o.isSome) (.slice x 0 (t.length + 1) (t.length + 1)) (.int .i64 (at_ : Int)) S = ek 0 (fr 116 [(6, .ptr p 0), (7, .bool (whM t q at_ F o).isSome)]) U ∧ AgAt U p 30 2 (spT (whM t q at_ F o)) ∧ p < U.next ∧ Grew (fun z => N0 ≤ z) S U
 | q, at_, F, o, x, 0, S, _, _, _, _, _, _, _, _, _, _, hj => by omega
 | q, at_, F, o, x, j + 1, S, h, hF, hp, hxn, hpn, hx0, hxp, hlen, hq, hat, hj => by
  have ent : ∃ S1, L14_13 (ev E0 K (m + 2)) N nk ek (j + 1) (.ptr b 0) (sv T) (.ptr p 0) (.bool o.isSome) (.slice x 0 (t.length + 1) (t.length + 1)) (.int .i64 (at_ : Int)) S = mid14 (ev E0 K (m + 2)) N nk ek j (.ptr b 0) (sv T) (.ptr p 0) (.bool o.isSome) (.slice x 0 (t.length + 1) (t.length + 1)) (.int .i64 (at_ : Int)) S1 ∧ RowAt S1 x 3 1 (intsT (entO o F (at_ : Int))) ∧ Grew (fun z => z = x) S S1 := by
   rw [L14_13_t, lnStr_sv, oB]
   dsimp only
   rw [binV_ii, intsV_leq, decide_eq_true (show (at_ : Int) ≤ (T.length : Int) by omega), oB, ifK_bool, cond_true, unV_not, oB, ifK_bool]
   cases o with
   | some w =>
    rw [show (!(some w).isSome) = false from rfl, cond_false]
    exact ⟨S, rfl, hF, Grew.refl _ _⟩
   | none =>
    obtain ⟨S1, a1, a2, a3⟩ := enter_run h21 h28 m h hF hxn (by omega) (by omega) hlen (k := 0) (Nat.zero_le _) (at_ : Int) (.int .i64 (at_ : Int)) (.int .i64 (T.length : Int))
    refine ⟨S1, ?_, a2, a3⟩
    rw [show ((0 : Nat) : Int) = 0 from rfl] at a1
    rw [show (!(none : Option (Int × Int)).isSome) = true from rfl, cond_true, lnStr_sv, oB]
    dsimp only
    rw [a1, callP_ret]
  obtain ⟨S1, e1, e2, e3⟩ := ent
  have h1 : Rx S1 b r t := h.grew (by omega) (by omega) e3
  have hlen1 : (entO o F (at_ : Int)).length = t.length + 1 := by
   cases o with
   | some w => exact hlen
   | none => exact (entF_len F 0 (at_ : Int)).trans hlen
  obtain ⟨S2, c1, c2, c3, c4⟩ := mid_run (ev E0 K (m + 2)) N nk ek j o (T := T) (at_ := at_) hlen1 ht h1 e2 (hp.grew hpn (fun e => hxp e.symm) e3) hxp (by omega) (by omega)
  have hpn2 : p < S2.next := by have := e3.next; omega
  have g12 : Grew (fun z => N0 ≤ z) S S2 := (e3.mono fun z _ hz => by omega).trans (c3.mono fun z _ hz => by omega)
  cases q with
  | nil =>
   have hle : T.length ≤ at_ := List.drop_eq_nil_iff.1 hq
   refine ⟨S2, ?_, c2, hpn2, g12⟩
   rw [e1, c1, decide_eq_true (show (at_ : Int) = (T.length : Int) by omega), cond_true, whM]
  | cons c q =>
   obtain ⟨hlt, hc, hd, _⟩ := drop_at hq
   obtain ⟨U, y, d1, d2, d3, d4, d5, d6, d7, d8, d9⟩ := tail_run h20 h21 h28 m N hN nk ek j hlt hT ht (hit t.length (at_ : Int) (entO o F (at_ : Int)) o) hlen1 (h1.grew (by omega) (by omega) c3) hb hr (e2.grew (Nat.lt_of_lt_of_le hxn e3.next) hxp c3) c2 (by have := e3.next; omega) hpn2 hx0 hp0
   rw [e1, c1, decide_eq_false (show ¬ (at_ : Int) = (T.length : Int) by omega), cond_false, d1, whM]
   rw [hc] at d3 ⊢
   cases hcc : (!(hit t.length (at_ : Int) (entO o F (at_ : Int)) o).isSome || lvL c t (entO o F (at_ : Int))) with
   | false =>
    rw [cond_false, cond_false]
    exact ⟨U, rfl, d4, d8, g12.trans d9⟩
   | true =>
    rw [cond_true, cond_true]
    obtain ⟨V, f1, f2, f3, f4⟩ := L13_spec h20 h21 h28 m N hN nk ek hT ht hb hr hp0 q (at_ + 1) (nx c t (entO o F (at_ : Int))) (hit t.length (at_ : Int) (entO o F (at_ : Int)) o) y j U d2 d3 d4 d5 d8 d6 d7 (nx_len hlen1) hd hlt (by simp at hj; omega)
    exact ⟨V, f1, f2, f3, (g12.trans d9).trans f4⟩
def whole (t T : List UInt8) (from_ : Nat) : Option (Int × Int) := whM t (T.drop from_) from_ (List.replicate (t.length + 1) (-1)) none
theorem whole_run {K : FuncId → Option KF} (h14 : K 14 = none) (h20 : K 20 = none) (h21 : K 21 = none) (h28 : K 28 = none) (m : Nat) {T : List UInt8} {from_ : Nat} (hT : T.length ≤ 100) (ht : t.length ≤ 100) (hf : from_ ≤ T.length) (h : Rx S b r t) :
 ∃ U, (ev E0 K (m + 3)).f 14 [.ptr b 0, sv T, .int .i64 (from_ : Int)] S = some (.ret (.tuple [.agg 2 (spT (whole t T from_)), .bool (whole t T from_).isSome]), U) ∧ Grew (fun z => S.next ≤ z) S U := by
 have ho := h.on
 obtain ⟨a1, a2, a3⟩ := ag_new ho 30 2 (tr2 0 0)
 have on1 : (nwP 30 2 (tr2 0 0) S).2.on = false := nw_on ho _
 have h1 : Rx (nwP 30 2 (tr2 0 0) S).2 b r t := h.grew (fun h => h) (fun h => h) a2
 obtain ⟨S2, b1, b2, b3, b4⟩ := blank_run h20 (m + 1) h1 ht
 have h2 : Rx S2 b r t := h1.grew (fun h => h) (fun h => h) b3
 have hp2 := a1.grew (by omega) (fun h => h) b3
 have hb := h.hb
 have hr := h.hr
 obtain ⟨U, c1, c2, c3, c4⟩ := L13_spec h20 h21 h28 m rounds (by unfold rounds; omega) (R14_5 (ev E0 K (m + 2)) rounds (finN E0 (ev E0 K (m + 2)) Try.f14) noEx) (exB 0 (R14_5 (ev E0 K (m + 2)) rounds (finN E0 (ev E0 K (m + 2)) Try.f14) noEx) noEx) (N0 := S.next) (p := S.next) hT ht hb hr (Nat.le_refl _) (T.drop from_) from_ (List.replicate (t.length + 1) (-1)) none (nwP 30 2 (tr2 0 0) S).2.next rounds S2 h2 b2 hp2 b4 (by omega) (by omega) (by omega) (by simp) rfl hf (by rw [List.length_drop]; unfold rounds; omega)
 have g : Grew (fun z => S.next ≤ z) S U := ((a2.trans b3).mono fun _ _ h => h.elim).trans c4
 have onU := g.on.trans ho
 obtain ⟨V, d1, d2, d3, d4⟩ := c2.stA onU big2 (spT (whole t T from_))
 have onV := d3.on.trans onU
 refine ⟨V, ev_read (c := C14) (d := B14) (by kernel_rfl) (by kernel_rfl) (annot_isOf C14 _ (by kernel_rfl)) h14 (?_ : F14 (ev E0 K (m + 2)) rounds (.ptr b 0) (sv T) (.int .i64 (from_ : Int)) S = _), g.trans (d3.mono fun z _ hz => by omega)⟩
 rw [F14_eq, oB]
 show callP ((ev E0 K (m + 2)).f 20 [.ptr b 0] (nwP 30 2 (tr2 0 0) S).2) _ = _
 rw [show ev E0 K (m + 2) = ev E0 K (m + 1 + 1) from rfl, b1, callP_ret]
 refine c1.trans ?_
 rw [exB_same, R14_5_eq]
 rw [show whM t (T.drop from_) from_ (List.replicate (t.length + 1) (-1)) none = whole t T from_ from rfl] at c2 ⊢
 rw [c2.ldA onU big2, oB]
 dsimp only
 rw [d1, oB]
 dsimp only
 rw [d2.ldrA onV big2, oB]
end
end Go.Proofs.Ytachpdpmoihjmaa.W
