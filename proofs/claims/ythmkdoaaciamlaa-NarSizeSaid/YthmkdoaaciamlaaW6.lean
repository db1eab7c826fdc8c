/-
  WHAT THE FUNCTIONS COME TO: each is read by the evaluator, printed, and told as a function of data, part 6 of 9 (no condition).
-/
import Derived.Test.YthmkdoaaciamlaaW5
namespace Go.Proofs.Ythmkdoaaciamlaa.W
open Go.Proofs.Ythmkdoaaciamlaa.Ev
theorem und72 : und E0 72 = some (.map 3 47) := by kernel_rfl
theorem und3 : und E0 3 = some (.int .i64) := by kernel_rfl
section
variable {s : St}
theorem upd_map (ho : s.on = false) {r cl : Nat} {es : List ME} (h : s.heap.get r = some (.map es cl)) (k : Int) (v : V) (hf : mfind (.int .i64 k) es 0 = some none) : updateV E0 72 (.map r) (.int .i64 k) v s = some (s.put r (.map (es ++ [{ k := .int .i64 k, v := v, born := cl }]) (cl + 1))) := by
 unfold updateV
 rw [und72]
 simp only [oB]
 rw [und3]
 simp only [oB, keyOk, cond_true, getO, h, note_off ho, hf]
 unfold setO
 rw [note_off ho]
theorem look_map (ho : s.on = false) {r cl : Nat} {es : List ME} (h : s.heap.get r = some (.map es cl)) (k : Int) {i : Nat} {v : V} (hf : mfind (.int .i64 k) es 0 = some (some (i, v))) : lookupV E0 72 (.map r) (.int .i64 k) false s = some (v, s) := by
 unfold lookupV
 rw [und72]
 simp only [oB]
 rw [und3]
 simp only [oB, keyOk, cond_true, getO, h, note_off ho, hf, cond_false]
theorem dispatch (ho : s.on = false) (f1 f3 f2 : V) : ∃ s1 s2 s3 s4, makeMapK E0 72 none s = some (.map s.next, s1) ∧ updateV E0 72 (.map s.next) (.int .i64 1) f1 s1 = some s2 ∧ updateV E0 72 (.map s.next) (.int .i64 3) f3 s2 = some s3 ∧ updateV E0 72 (.map s.next) (.int .i64 2) f2 s3 = some s4 ∧
 (lookupV E0 72 (.map s.next) (.int .i64 1) false s4 = some (f1, s4) ∧ lookupV E0 72 (.map s.next) (.int .i64 3) false s4 = some (f3, s4) ∧ lookupV E0 72 (.map s.next) (.int .i64 2) false s4 = some (f2, s4)) ∧ Grew (fun _ => False) s s4 ∧ s4.next = s.next + 1 := by
 have h1 : (nw s (.map [] 0)).heap.get s.next = some (.map [] 0) := by rw [nw_get, if_pos rfl]
 have u1 := upd_map (nw_on ho _) h1 1 f1 rfl
 have h2 : ((nw s (.map [] 0)).put s.next (.map ([] ++ [{ k := .int .i64 1, v := f1, born := 0 }]) (0 + 1))).heap.get s.next = some (.map ([] ++ [{ k := .int .i64 1, v := f1, born := 0 }]) (0 + 1)) := by rw [put_get, if_pos rfl]
 have u2 := upd_map (s := (nw s (.map [] 0)).put s.next (.map ([] ++ [{ k := .int .i64 1, v := f1, born := 0 }]) (0 + 1))) (put_on (nw_on ho (.map [] 0))) h2 3 f3 rfl
 generalize hs2 : ((nw s (.map [] 0)).put s.next (.map ([] ++ [{ k := .int .i64 1, v := f1, born := 0 }]) (0 + 1))).put s.next (.map ([] ++ [{ k := .int .i64 1, v := f1, born := 0 }] ++ [{ k := .int .i64 3, v := f3, born := 0 + 1 }]) (0 + 1 + 1)) = s3 at u2
 have h3 : s3.heap.get s.next = some (.map ([] ++ [{ k := .int .i64 1, v := f1, born := 0 }] ++ [{ k := .int .i64 3, v := f3, born := 0 + 1 }]) (0 + 1 + 1)) := by rw [← hs2, put_get, if_pos rfl]
 have on3 : s3.on = false := by rw [← hs2]; exact put_on (put_on (nw_on ho (.map [] 0)))
 have u3 := upd_map on3 h3 2 f2 rfl
 have g3 : Grew (fun _ => False) s s3 := by rw [← hs2]; exact (grew_nw ho _ _).own (Nat.le_refl _) ((grew_put _ _).trans (grew_put _ _))
 have n3 : s3.next = s.next + 1 := by rw [← hs2]; rfl
 generalize hs4 : s3.put s.next (.map ([] ++ [{ k := .int .i64 1, v := f1, born := 0 }] ++ [{ k := .int .i64 3, v := f3, born := 0 + 1 }] ++ [{ k := .int .i64 2, v := f2, born := 0 + 1 + 1 }]) (0 + 1 + 1 + 1)) = s4 at u3
 have h4 : s4.heap.get s.next = some (.map ([] ++ [{ k := .int .i64 1, v := f1, born := 0 }] ++ [{ k := .int .i64 3, v := f3, born := 0 + 1 }] ++ [{ k := .int .i64 2, v := f2, born := 0 + 1 + 1 }]) (0 + 1 + 1 + 1)) := by rw [← hs4, put_get, if_pos rfl]
 have on4 : s4.on = false := by rw [← hs4]; exact on3
 refine ⟨_, _, s3, s4, rfl, u1, u2, u3, ⟨look_map on4 h4 1 (i := 0) rfl, look_map on4 h4 3 (i := 1) rfl, look_map on4 h4 2 (i := 2) rfl⟩, ?_, ?_⟩
 · rw [← hs4]; exact g3.own (Nat.le_refl _) (grew_put _ _)
 · rw [← hs4]; exact n3
structure BoxAt (s : St) (b : Nat) (t : List UInt8) : Prop where
 on : s.on = false
 bx : Bx s b 46 [sv t]
theorem big1 : 1 < big := by unfold big; decide
variable {b : Nat} {t : List UInt8}
theorem BoxAt.ld (h : BoxAt s b t) : ld1 (.ptr b 0) s = some (sv t, s) := Bx.ld1 h.on h.bx 0 (by show 0 < 1; decide) big1
theorem BoxAt.ldo (h : BoxAt s b t) : ld1 (.ptr b 0) (onS s) = some (sv t, rd s b 0 1) := Bx.ld1On h.on h.bx 0 (by show 0 < 1; decide) big1
theorem BoxAt.grew {W : Nat → Prop} {u : St} (h : BoxAt s b t) (hb : b < s.next) (hw : ¬ W b) (g : Grew W s u) : BoxAt u b t := ⟨g.on.trans h.on, h.bx.grew hb hw g⟩
theorem BoxAt.sto (h : BoxAt s b t) (u : List UInt8) : ∃ w l, stP 1 (.ptr b 0) (sv u) (onS s) = some (.tuple [], w.lg l) ∧ BoxAt w b u ∧ Grew (fun x => x = b) s w ∧ w.next = s.next := by
 have hb := h.bx
 unfold Bx at hb
 have hst : stK s b 0 1 (one (sv u)) = some (s.put b (.cells 46 1 1 false (Tr.ofListFrom .nil [Tr.ofListFrom .nil [sv u] 0] 0))) := by
  unfold stK
  rw [hb]
  simp only [List.length_cons, List.length_nil, show Nat.ble (0 + 1) (1 * 1) = true from rfl, blt_true.2 (show 1 * 1 < big by unfold big; decide), Bool.and_self, Bool.not_false, cond_true]
  unfold elemTo
  simp only [show Nat.beq 1 1 = true from rfl, Nat.zero_mod, show Nat.beq 0 0 = true from rfl, Bool.and_self, cond_true, Nat.zero_div, Tr.setC_eq, set_one, oB, note_off h.on]
  rw [show one (sv u) = Tr.ofListFrom .nil [sv u] 0 by kernel_rfl]
 obtain ⟨_, l', hl⟩ := stK_lg h.on hst []
 refine ⟨s.put b (.cells 46 1 1 false (Tr.ofListFrom .nil [Tr.ofListFrom .nil [sv u] 0] 0)), l', ?_, ⟨h.on, ?_⟩, grew_put b _, rfl⟩
 · show vu (stK (onS s) b 0 1 (one (sv u))) = _
   rw [show onS s = s.lg [] from rfl, hl]; rfl
 · unfold Bx
   rw [put_get, if_pos rfl]; rfl
end
def selRd (logs : List (List LE)) (prs : List (Nat × List Nat)) : Bool := prs.all fun p => (logOf p.1 logs).all (fun e => !e.w) && p.2.all fun j => (logOf j logs).all fun e => !e.w
theorem selRd_ok {logs : List (List LE)} : ∀ {prs : List (Nat × List Nat)}, selRd logs prs = true → pairsOk logs prs = true
 | [], _ => rfl
 | (i, js) :: l, h => by
  unfold selRd at h
  rw [List.all_cons, Bool.and_eq_true, Bool.and_eq_true] at h
  obtain ⟨⟨h1, h2⟩, h3⟩ := h
  have r : ∀ {L : List LE}, (L.all fun e => !e.w) = true → ∀ f ∈ L, f.w = false := fun {L} hL f hf => by simpa using List.all_eq_true.1 hL f hf
  have key : ∀ js : List Nat, (js.all fun j => (logOf j logs).all fun e => !e.w) = true → clashAny (logOf i logs) logs js = false := fun js => by
   induction js with
   | nil => intro _; rfl
   | cons j js ih =>
    intro hj
    rw [List.all_cons, Bool.and_eq_true] at hj
    unfold clashAny
    rw [clash_rd _ _ (r h1) (r hj.1)]
    exact ih hj.2
  unfold pairsOk
  rw [key js h2]
  exact selRd_ok h3
theorem endP_sel {prs : List (Nat × List Nat)} {s0 s : St} {logs : List (List LE)} {k : St → Rs} (h : selRd logs prs = true) : endP prs s0 logs s k = k (relog s0 s logs) := endP_of (selRd_ok h)
theorem relog_box {s0 w : St} {l : List LE} (h0 : s0.on = false) {b : Nat} {u : List UInt8} (hw : BoxAt w b u) (hn : w.next = s0.next) (g : Grew (fun x => x = b) s0 w) (ls : List (List LE)) :
 BoxAt (relog s0 (w.lg l) ls) b u ∧ (relog s0 (w.lg l) ls).next = s0.next ∧ Grew (fun x => x = b) s0 (relog s0 (w.lg l) ls) := by
 obtain ⟨r1, r2, r3⟩ := relog_lg h0 l ls hw.on
 refine ⟨⟨r3, ?_⟩, by rw [r2, hn], ⟨by rw [r2, hn]; exact Nat.le_refl _, by rw [r3, h0], fun x hx hne => by rw [r1]; exact g.keep x hx hne⟩⟩
 unfold Bx
 rw [r1]; exact hw.bx
end Go.Proofs.Ythmkdoaaciamlaa.W
namespace Go.Proofs.Ythmkdoaaciamlaa.W
open Go.Proofs.Ythmkdoaaciamlaa.Ev
theorem Grew.of0 {W : Nat → Prop} {a b : St} (h : Grew (fun _ => False) a b) : Grew W a b := h.mono fun _ _ h => h.elim
structure Lays (e : EV) : Prop where
 num : ∀ (s : List UInt8) (n : Nat), n < 18446744073709551616 → s.length < 200000000 → ∀ S, e.f 40 [sv s, .int .u64 (n : Int)] S = some (.ret (sv (s ++ digs n)), S)
 text : ∀ s t : List UInt8, s.length < 100000000 → t.length < 100000000 → ∀ S, e.f 19 [sv s, sv t] S = some (.ret (sv (putText s t)), S)
theorem lays_known {K : FuncId → Option KF} (h40 : K 40 = some kf46) (h19 : K 19 = some kfPutText) (n : Nat) : Lays (ev E0 K (n + 1)) :=
 ⟨fun s n hn hs S => by rw [ev_known h40, kf46_run s n hn hs], fun s t hs ht S => by rw [ev_known h19, kfPutText_run s t hs ht]⟩
def Laid (r : Rs) (S : St) (b : Nat) (t : List UInt8) : Prop := ∃ S', r = some (.ret (.tuple []), S') ∧ BoxAt S' b t ∧ Grew (fun x => x = b) S S'
theorem F42_spec (self : EV) (N : Nat) (hl : Lays self) (s : List UInt8) (x : Nd) (ok : NdOk x) (b : Nat) (S : St) (hB : BoxAt S b s) (hb : b < S.next) (hs : s.length < 100000000) :
 Laid (F42 self N (.ptr b 0) (encN x) S) S b (putText s x.data) := by
 obtain ⟨S1, k1, k2, k3, k4⟩ := node_box hB.on x
 have hB1 := hB.grew hb (fun h => h) k3
 have hd := ok.data
 obtain ⟨w, l, m1, m2, m3, m4⟩ := hB1.sto (putText s x.data)
 obtain ⟨r1, r2, r3⟩ := relog_box (l := l) k2.on m2 m4 m3 [[], [], [], [], [{ b := b, lo := 0, hi := 0 + 1, w := false }], [], [{ b := S.next, lo := 3, hi := 3 + 1, w := false }], [], [], [], (w.lg l).log]
 refine ⟨_, ?_, r1, (Grew.of0 k3).trans r3⟩
 rw [F42_eq, k1]
 simp only [oB, show nilCheckV (.ptr b 0) = some (.ptr b 0) from rfl, faP_ptr, Nat.zero_add, Nat.add_zero, hB1.ldo, onS_rd, k2.o3]
 rw [hl.text s x.data hs (by omega), callD_ret]
 simp only [oB, onS_onS, onS_rd, m1]
 rw [endP_sel]
 · rfl
 · rfl
theorem F41_spec (self : EV) (N : Nat) (hl : Lays self) (s : List UInt8) (x : Nd) (ok : NdOk x) (b : Nat) (S : St) (hB : BoxAt S b s) (hb : b < S.next) (hs : s.length < 90000000) :
 Laid (F41 self N (.ptr b 0) (encN x) S) S b (putText (s ++ digs (if x.exec then 1 else 0)) x.data) := by
 obtain ⟨S1, k1, k2, k3, k4⟩ := node_box hB.on x
 have hB1 := hB.grew hb (fun h => h) k3
 have hd := ok.data
 have hdg : (digs (if x.exec then 1 else 0)).length ≤ 11 := digs_len (by split <;> omega)
 have hlen : (s ++ digs (if x.exec then 1 else 0)).length < 100000000 := by rw [List.length_append]; omega
 obtain ⟨w, l, m1, m2, m3, m4⟩ := hB1.sto (putText (s ++ digs (if x.exec then 1 else 0)) x.data)
 obtain ⟨r1, r2, r3⟩ := relog_box (l := l) k2.on m2 m4 m3 [[], [], [], [], [{ b := b, lo := 0, hi := 0 + 1, w := false }], [], [], [], [{ b := S.next, lo := 3, hi := 3 + 1, w := false }], [], [], [], (w.lg l).log]
 refine ⟨_, ?_, r1, (Grew.of0 k3).trans r3⟩
 rw [F41_eq, k1]
 simp only [oB, faP_ptr, Nat.zero_add, k2.f2, ifK_bool]
 cases hx : x.exec with
 | true =>
  rw [hx] at m1 hlen
  simp only [if_true] at m1 hlen
  simp only [cond_true, oB, show nilCheckV (.ptr b 0) = some (.ptr b 0) from rfl, faP_ptr, Nat.zero_add, Nat.add_zero, hB1.ldo, onS_rd, k2.o3]
  rw [show (V.int .u64 1) = .int .u64 ((1 : Nat) : Int) from rfl, hl.num s 1 (by omega) (by omega), callD_ret]
  simp only [oB, onS_onS, onS_rd, k2.o3]
  rw [hl.text _ x.data hlen (by omega), callD_ret]
  simp only [oB, onS_onS, onS_rd, m1]
  rw [endP_sel]
  · rfl
  · rfl
 | false =>
  rw [hx] at m1 hlen
  simp only [Bool.false_eq_true, if_false] at m1 hlen
  simp only [cond_false, oB, show nilCheckV (.ptr b 0) = some (.ptr b 0) from rfl, faP_ptr, Nat.zero_add, Nat.add_zero, hB1.ldo, onS_rd, k2.o3]
  rw [show (V.int .u64 0) = .int .u64 ((0 : Nat) : Int) from rfl, hl.num s 0 (by omega) (by omega), callD_ret]
  simp only [oB, onS_onS, onS_rd, k2.o3]
  rw [hl.text _ x.data hlen (by omega), callD_ret]
  simp only [oB, onS_onS, onS_rd, m1]
  rw [endP_sel]
  · rfl
  · rfl
theorem L43_spec (self : EV) (N : Nat) (nk : Ac → St → Rs) (ek : Nat → Ac → St → Rs) (hl : Lays self) (x : Nd) (ok : NdOk x) (b : Nat)
 (h20 : ∀ y ∈ x.kids, ∀ (s : List UInt8) S, mayN y = true → s.length + 3180 * cntN y ≤ 90000000 → BoxAt S b s → b < S.next → Laid (self.f 20 [.ptr b 0, encN y] S) S b (layN s y)) :
 ∀ (r : List Nd) (i n : Nat) (s : List UInt8) (p : Option (List UInt8)) (S : St), x.kids.drop i = r → r.length < n → mayL p r = true → s.length + 3180 * cntL r + 80 ≤ 90000000 → BoxAt S b s → b < S.next →
 ∃ S', L43_19 self N nk ek n (.ptr b 0) (kidsV (encL x.kids)) (.int .i64 (x.kids.length : Int)) (.int .i64 (i : Int)) S = ek 0 (fr 39 []) S' ∧ BoxAt S' b (layL s r) ∧ Grew (fun x => x = b) S S'
 | r, i, 0, s, p, S, _, hn, _, _, _, _ => by omega
 | [], i, n + 1, s, p, S, hi, hn, hm, hf, hB, hb => by
  refine ⟨S, ?_, by rw [layL]; exact hB, Grew.refl _ _⟩
  rw [L43_19_eq, binV_ii, intsV_lss, dec_ge (drop_end hi)]
  rfl
 | y :: r, i, n + 1, s, p, S, hi, hn, hm, hf, hB, hb => by
  obtain ⟨hlt, hy, hr, hmem⟩ := drop_at hi
  have hfew := ok.few
  have hc := mayL_cons hm
  have hnl := nameOk_len hc.name
  have hpt := putText_len s y.name (by omega)
  have hcnt : 1 ≤ cntN y := by rw [cntN_eq]; omega
  rw [cntL] at hf
  have hll := layN_len y (putText s y.name) (ok.kids y hmem) hc.may
  obtain ⟨S1, k1, k2, k3, k4⟩ := node_new hB.on (Tr.ofListFrom .nil [(sv []), (.int .i64 0), (.bool false), (sv []), .nilslice] 0) y
  have hB1 := hB.grew hb (fun h => h) k3
  obtain ⟨w, l, m1, m2, m3, m4⟩ := hB1.sto (putText s y.name)
  obtain ⟨r1, r2, r3⟩ := relog_box (l := l) k2.on m2 m4 m3 [[], [], [], [], [{ b := b, lo := 0, hi := 0 + 1, w := false }], [], [{ b := S.next, lo := 0, hi := 0 + 1, w := false }], [], [], [], (w.lg l).log]
  generalize hS2 : relog S1 (w.lg l) [[], [], [], [], [{ b := b, lo := 0, hi := 0 + 1, w := false }], [], [{ b := S.next, lo := 0, hi := 0 + 1, w := false }], [], [], [], (w.lg l).log] = S2 at r1 r2 r3
  have k2' := k2.grew (by omega) (by omega) r3
  obtain ⟨S3, q1, q2, q3⟩ := h20 y hmem (putText s y.name) S2 hc.may (by omega) r1 (by omega)
  obtain ⟨S', z1, z2, z3⟩ := L43_spec self N nk ek hl x ok b h20 r (i + 1) n (layN (putText s y.name) y) (some y.name) S3 hr (by simp at hn; omega) hc.rest (by omega) q2 (by have := q3.next; omega)
  refine ⟨S', ?_, by rw [layL]; exact z2, (Grew.of0 k3).trans (r3.trans (q3.trans z3))⟩
  rw [L43_19_eq, binV_ii, intsV_lss, dec_lt hlt, oB, ifK_bool, cond_true, ixP_kids x.kids i hlt, hy, oB, ldA_kid, oB, oB, nwP_fst]
  dsimp only
  rw [k1, oB]
  simp only [oB, show nilCheckV (.ptr b 0) = some (.ptr b 0) from rfl, faP_ptr, Nat.zero_add, Nat.add_zero, hB1.ldo, onS_rd, k2.o0]
  rw [hl.text s y.name (by omega) (by omega), callD_ret]
  simp only [oB, onS_onS, onS_rd, m1]
  rw [endP_sel]
  · have e : relog S1 (w.lg l) [[], [], [], [], (rd S1 b 0 1).log, [], (rd S1 S.next 0 1).log, (onS S1).log, [], [], (w.lg l).log] = S2 := hS2
    rw [e, k2'.fA, oB]
    dsimp only
    rw [q1, callP_ret, binV_ii, intsV_add, wrap_succ (by omega), oB]
    exact z1
  · rfl
theorem F43_spec (self : EV) (hl : Lays self) (s : List UInt8) (x : Nd) (ok : NdOk x) (b : Nat) (S : St) (hB : BoxAt S b s) (hb : b < S.next) (hm : mayL none x.kids = true) (hf : s.length + 3180 * cntL x.kids + 100 ≤ 90000000)
 (h20 : ∀ y ∈ x.kids, ∀ (s : List UInt8) S, mayN y = true → s.length + 3180 * cntN y ≤ 90000000 → BoxAt S b s → b < S.next → Laid (self.f 20 [.ptr b 0, encN y] S) S b (layN s y)) :
 Laid (F43 self rounds (.ptr b 0) (encN x) S) S b (layL (s ++ digs x.kids.length) x.kids) := by
 obtain ⟨S1, k1, k2, k3, k4⟩ := node_box hB.on x
 have hB1 := hB.grew hb (fun h => h) k3
 have hfew := ok.few
 have hdg := digs_len (n := x.kids.length) (by omega)
 obtain ⟨w, l, m1, m2, m3, m4⟩ := hB1.sto (s ++ digs x.kids.length)
 obtain ⟨r1, r2, r3⟩ := relog_box (l := l) k2.on m2 m4 m3 [[], [], [], [], [{ b := b, lo := 0, hi := 0 + 1, w := false }], [], [{ b := S.next, lo := 4, hi := 4 + 1, w := false }], [], [], [], [], [], (w.lg l).log]
 generalize hS2 : relog S1 (w.lg l) [[], [], [], [], [{ b := b, lo := 0, hi := 0 + 1, w := false }], [], [{ b := S.next, lo := 4, hi := 4 + 1, w := false }], [], [], [], [], [], (w.lg l).log] = S2 at r1 r2 r3
 have k2' := k2.grew (by omega) (by omega) r3
 obtain ⟨S', z1, z2, z3⟩ := L43_spec self rounds (finN E0 self Try.f43) (exB 0 (finN E0 self Try.f43) noEx) hl x ok b h20 x.kids 0 rounds (s ++ digs x.kids.length) none S2 rfl (by unfold rounds; omega) hm (by rw [List.length_append]; omega) r1 (by omega)
 refine ⟨S', ?_, z2, (Grew.of0 k3).trans (r3.trans z3)⟩
 rw [F43_eq, k1]
 simp only [oB, show nilCheckV (.ptr b 0) = some (.ptr b 0) from rfl, faP_ptr, Nat.zero_add, Nat.add_zero, hB1.ldo, onS_rd, k2.o4, lnS_kids, cvI_int, onS_onS]
 rw [wrap_u64 (by omega) (by omega), hl.num s x.kids.length (by omega) (by omega), callD_ret]
 simp only [oB, onS_onS, onS_rd, m1]
 rw [endP_sel]
 · have e : relog S1 (w.lg l) [[], [], [], [], (rd S1 b 0 1).log, [], (rd S1 S.next 4 1).log, (onS S1).log, (onS S1).log, (onS S1).log, [], [], (w.lg l).log] = S2 := hS2
   rw [e, k2'.f4, oB]
   dsimp only
   rw [lnS_kids, oB]
   rw [show ((0 : Nat) : Int) = 0 from rfl] at z1
   dsimp only
   rw [z1, exB_same]
   rfl
 · rfl
end Go.Proofs.Ythmkdoaaciamlaa.W
namespace Go.Proofs.Ythmkdoaaciamlaa.W
open Go.Proofs.Ythmkdoaaciamlaa.Ev
theorem body41 : E0.ext.get 41 = none ∧ hasBody E0 41 = true := ⟨by kernel_rfl, by kernel_rfl⟩
theorem body42 : E0.ext.get 42 = none ∧ hasBody E0 42 = true := ⟨by kernel_rfl, by kernel_rfl⟩
theorem body43 : E0.ext.get 43 = none ∧ hasBody E0 43 = true := ⟨by kernel_rfl, by kernel_rfl⟩
theorem F20_spec (self : EV) (N : Nat) (hl : Lays self) (s : List UInt8) (x : Nd) (ok : NdOk x) (may : mayN x = true) (b : Nat) (S : St) (hB : BoxAt S b s) (hb : b < S.next) (hs : s.length < 90000000) (t : List UInt8)
 (hfile : x.kind = 1 → ∀ S, BoxAt S b (s ++ digs 1) → b < S.next → Laid (self.f 41 [.ptr b 0, encN x] S) S b t)
 (hlink : x.kind = 3 → ∀ S, BoxAt S b (s ++ digs 3) → b < S.next → Laid (self.f 42 [.ptr b 0, encN x] S) S b t)
 (hdir : x.kind = 2 → ∀ S, BoxAt S b (s ++ digs 2) → b < S.next → Laid (self.f 43 [.ptr b 0, encN x] S) S b t) : Laid (F20 self N (.ptr b 0) (encN x) S) S b t := by
 obtain ⟨S1, k1, k2, k3, k4⟩ := node_box hB.on x
 have hB1 := hB.grew hb (fun h => h) k3
 obtain ⟨k, hk, hk3⟩ : ∃ k : Nat, x.kind = (k : Int) ∧ (k = 1 ∨ k = 3 ∨ k = 2) := by
  rcases mayCase may with ⟨h, _⟩ | ⟨h, _⟩ | ⟨h, _⟩ <;> rw [h]
  · exact ⟨1, rfl, .inl rfl⟩
  · exact ⟨3, rfl, .inr (.inl rfl)⟩
  · exact ⟨2, rfl, .inr (.inr rfl)⟩
 have hcv : ∀ S : St, cvI .u64 (.int .i64 x.kind) S = some (.int .u64 (k : Int), S) := fun S => by rw [cvI_int, hk, wrap_u64 (by omega) (by omega)]
 obtain ⟨w, l, m1, m2, m3, m4⟩ := hB1.sto (s ++ digs k)
 obtain ⟨r1, r2, r3⟩ := relog_box (l := l) k2.on m2 m4 m3 [[], [], [], [], [{ b := b, lo := 0, hi := 0 + 1, w := false }], [], [{ b := S.next, lo := 1, hi := 1 + 1, w := false }], [], [], [], [], (w.lg l).log]
 generalize hS2 : relog S1 (w.lg l) [[], [], [], [], [{ b := b, lo := 0, hi := 0 + 1, w := false }], [], [{ b := S.next, lo := 1, hi := 1 + 1, w := false }], [], [], [], [], (w.lg l).log] = S2 at r1 r2 r3
 have k2' := k2.grew (by omega) (by omega) r3
 obtain ⟨s1, s2, s3, S3, u0, u1, u2, u3, ⟨lk1, lk3, lk2⟩, g3, n3⟩ := dispatch k2'.on (.fn (.func 41) [.ptr b 0] []) (.fn (.func 42) [.ptr b 0] []) (.fn (.func 43) [.ptr b 0] [])
 have k2'' := k2'.grew (by omega) (fun h => h) g3
 have r1' := r1.grew (by omega) (fun h => h) g3
 have hb3 : b < S3.next := by omega
 have main : ∃ S', (callP (callK E0 self ((fun j : Nat => V.fn (.func (if j = 1 then 41 else if j = 3 then 42 else 43)) [.ptr b 0] []) k) [encN x] S3) fun t29 S29 => some (.ret (.tuple []), S29)) = some (.ret (.tuple []), S') ∧ BoxAt S' b t ∧ Grew (fun x => x = b) S3 S' := by
  rcases hk3 with rfl | rfl | rfl
  · obtain ⟨S', h1, h2, h3⟩ := hfile hk S3 r1' hb3
    refine ⟨S', ?_, h2, h3⟩
    show callP (callK E0 self (.fn (.func 41) [.ptr b 0] []) [encN x] S3) _ = _
    rw [callK_fn body41.1 body41.2, List.append_nil]
    show callP (self.f 41 [.ptr b 0, encN x] S3) _ = _
    rw [h1]; rfl
  · obtain ⟨S', h1, h2, h3⟩ := hlink hk S3 r1' hb3
    refine ⟨S', ?_, h2, h3⟩
    show callP (callK E0 self (.fn (.func 42) [.ptr b 0] []) [encN x] S3) _ = _
    rw [callK_fn body42.1 body42.2, List.append_nil]
    show callP (self.f 42 [.ptr b 0, encN x] S3) _ = _
    rw [h1]; rfl
  · obtain ⟨S', h1, h2, h3⟩ := hdir hk S3 r1' hb3
    refine ⟨S', ?_, h2, h3⟩
    show callP (callK E0 self (.fn (.func 43) [.ptr b 0] []) [encN x] S3) _ = _
    rw [callK_fn body43.1 body43.2, List.append_nil]
    show callP (self.f 43 [.ptr b 0, encN x] S3) _ = _
    rw [h1]; rfl
 have look : lookupV E0 72 (.map S2.next) (.int .i64 x.kind) false S3 = some ((fun j : Nat => V.fn (.func (if j = 1 then 41 else if j = 3 then 42 else 43)) [.ptr b 0] []) k, S3) := by
  rw [hk]
  rcases hk3 with rfl | rfl | rfl
  · exact lk1
  · exact lk3
  · exact lk2
 obtain ⟨S', z1, z2, z3⟩ := main
 refine ⟨S', ?_, z2, (Grew.of0 k3).trans (r3.trans ((Grew.of0 g3).trans z3))⟩
 rw [F20_eq, k1]
 simp only [oB, show nilCheckV (.ptr b 0) = some (.ptr b 0) from rfl, faP_ptr, Nat.zero_add, Nat.add_zero, hB1.ldo, onS_rd, k2.o1, hcv, onS_onS]
 rw [hl.num s k (by omega) (by omega), callD_ret]
 simp only [oB, onS_onS, onS_rd, m1]
 rw [endP_sel]
 · have e : relog S1 (w.lg l) [[], [], [], [], (rd S1 b 0 1).log, [], (rd S1 S.next 1 1).log, (onS S1).log, (onS S1).log, [], [], (w.lg l).log] = S2 := hS2
   rw [e, u0, oB]
   dsimp only
   rw [u1, show vu (some s2) = some (V.tuple [], s2) from rfl, oB]
   dsimp only
   rw [u2, show vu (some s3) = some (V.tuple [], s3) from rfl, oB]
   dsimp only
   rw [u3, show vu (some S3) = some (V.tuple [], S3) from rfl, oB]
   dsimp only
   rw [k2''.f1, oB]
   dsimp only
   rw [look, oB]
   dsimp only
   rw [k2''.fA, oB]
   exact z1
 · rfl
theorem node_at {K : FuncId → Option KF} (h40 : K 40 = some kf46) (h19 : K 19 = some kfPutText) (h20 : K 20 = none) (h41 : K 41 = none) (h42 : K 42 = none) (h43 : K 43 = none) (b : Nat) : ∀ (m : Nat) (x : Nd) (n : Nat) (s : List UInt8) (S : St), SizeOf.sizeOf x ≤ m → 3 * m ≤ n → x.ok → mayN x = true → s.length + 3180 * cntN x ≤ 90000000 → BoxAt S b s → b < S.next →
 Laid ((ev E0 K n).f 20 [.ptr b 0, encN x] S) S b (layN s x)
 | 0, x, n, s, S, hm, _, _, _, _, _, _ => by
  cases x with
  | mk a1 a2 a3 a4 a5 => simp only [Nd.mk.sizeOf_spec] at hm; omega
 | m + 1, x, n, s, S, hm, hn, ok, may, fit, hB, hb => by
  obtain ⟨q, rfl⟩ : ∃ q, n = q + 3 := ⟨n - 3, by omega⟩
  have hok := ok.at
  have hcnt := cntN_eq x
  have d1 := digs_len (n := 1) (by omega)
  have d3 := digs_len (n := 3) (by omega)
  have d2 := digs_len (n := 2) (by omega)
  have hl1 : ∀ t : List UInt8, t.length ≤ 11 → (s ++ t).length ≤ s.length + 11 := fun t h => by rw [List.length_append]; omega
  have a1 := hl1 _ d1
  have a3 := hl1 _ d3
  have a2 := hl1 _ d2
  have hL := lays_known h40 h19
  obtain ⟨S', z1, z2, z3⟩ := F20_spec (ev E0 K (q + 2)) rounds (hL (q + 1)) s x hok may b S hB hb (by omega) (layN s x)
   (fun h S hB hb => by
    obtain ⟨S', y1, y2, y3⟩ := F41_spec (ev E0 K (q + 1)) rounds (hL q) (s ++ digs 1) x hok b S hB hb (by omega)
    refine ⟨S', ev_read (c := C41) (d := B41) (by kernel_rfl) (by kernel_rfl) (annot_isOf C41 _ (by kernel_rfl)) h41 y1, ?_, y3⟩
    rw [layN_eq, if_pos h, h]; exact y2)
   (fun h S hB hb => by
    obtain ⟨S', y1, y2, y3⟩ := F42_spec (ev E0 K (q + 1)) rounds (hL q) (s ++ digs 3) x hok b S hB hb (by omega)
    refine ⟨S', ev_read (c := C42) (d := B42) (by kernel_rfl) (by kernel_rfl) (annot_isOf C42 _ (by kernel_rfl)) h42 y1, ?_, y3⟩
    rw [layN_eq, if_neg (by rw [h]; decide), if_pos h, h]; exact y2)
   (fun h S hB hb => by
    have hkids : mayL none x.kids = true := by
     rcases mayCase may with ⟨h', _⟩ | ⟨h', _⟩ | ⟨_, h'⟩
     · rw [h] at h'; exact absurd h' (by decide)
     · rw [h] at h'; exact absurd h' (by decide)
     · exact h'
    obtain ⟨S', y1, y2, y3⟩ := F43_spec (ev E0 K (q + 1)) (hL q) (s ++ digs 2) x hok b S hB hb hkids (by omega) (fun y hy s S hmy hf hB hb => node_at h40 h19 h20 h41 h42 h43 b m y (q + 1) s S (by
     have := List.sizeOf_lt_of_mem hy
     cases x with
     | mk n k e d l =>
      simp only [Nd.kids] at this
      simp only [Nd.mk.sizeOf_spec] at hm
      omega) (by omega) (hok.kids y hy) hmy hf hB hb)
    refine ⟨S', ev_read (c := C43) (d := B43) (by kernel_rfl) (by kernel_rfl) (annot_isOf C43 _ (by kernel_rfl)) h43 y1, ?_, y3⟩
    rw [layN_eq, if_neg (by rw [h]; decide), if_neg (by rw [h]; decide), h]; exact y2)
  exact ⟨S', ev_read (c := C20) (d := B20) (by kernel_rfl) (by kernel_rfl) (annot_isOf C20 _ (by kernel_rfl)) h20 z1, z2, z3⟩
end Go.Proofs.Ythmkdoaaciamlaa.W
namespace Go.Proofs.Ythmkdoaaciamlaa.W
open Go.Proofs.Ythmkdoaaciamlaa.Ev
theorem foldl_congr_max {f g : Nd → Nat} : ∀ (l : List Nd) (d : Nat), (∀ y ∈ l, f y = g y) → l.foldl (fun d y => max d (1 + f y)) d = l.foldl (fun d y => max d (1 + g y)) d
 | [], _, _ => rfl
 | y :: l, d, h => by
  simp only [List.foldl_cons]
  rw [h y (List.mem_cons_self ..)]
  exact foldl_congr_max l _ fun z hz => h z (List.mem_cons_of_mem _ hz)
theorem foldl_max_ge {f : Nd → Nat} : ∀ (l : List Nd) (d : Nat), d ≤ l.foldl (fun d y => max d (1 + f y)) d ∧ ∀ y ∈ l, 1 + f y ≤ l.foldl (fun d y => max d (1 + f y)) d
 | [], d => ⟨Nat.le_refl _, fun y h => by cases h⟩
 | x :: l, d => by
  simp only [List.foldl_cons]
  obtain ⟨h1, h2⟩ := foldl_max_ge (f := f) l (max d (1 + f x))
  refine ⟨Nat.le_trans (Nat.le_max_left ..) h1, fun y hy => ?_⟩
  rcases List.mem_cons.1 hy with rfl | hy
  · exact Nat.le_trans (Nat.le_max_right ..) h1
  · exact h2 y hy
theorem deep_dir {m : Nat} {x : Nd} (h2 : x.kind = 2) (hm : m ≠ 0) : deepN (m + 1) x = x.kids.foldl (fun d y => max d (1 + deepN m y)) 1 := by
 rw [deepN, if_neg (by rw [h2]; simp [hm])]
theorem deep_stable : ∀ (m : Nat) (x : Nd), deepN m x < m → deepN (m + 1) x = deepN m x
 | 0, x, h => by omega
 | m + 1, x, h => by
  by_cases h2 : x.kind = 2
  · by_cases hm : m = 0
    · subst hm
      rw [deepN, if_pos (.inr rfl)] at h
      omega
    · rw [deep_dir h2 hm] at h
      rw [deep_dir h2 hm, deep_dir h2 (by omega)]
      exact foldl_congr_max _ _ fun y hy => deep_stable m y (by have := (foldl_max_ge (f := deepN m) x.kids 1).2 y hy; omega)
  · rw [deepN, if_pos (.inl h2), deepN, if_pos (.inl h2)]
theorem deep_stable' {m : Nat} {x : Nd} (h : deepN m x < m) : ∀ k, deepN (m + k) x = deepN m x
 | 0 => rfl
 | k + 1 => by
  have := deep_stable' h k
  rw [show m + (k + 1) = m + k + 1 by omega, deep_stable _ _ (by omega), this]
theorem sizeL_cnt : ∀ (l : List Nd) (a : Int × Int) (c : Nat), a.1 = (c : Int) → (∀ y ∈ l, tooDeepN y = false ∧ (sizeN y).1 = (cntN y : Int)) → c + cntL l < 9223372036854775808 → (sizeL l a).1 = ((c + cntL l : Nat) : Int)
 | [], a, c, ha, _, _ => by rw [sizeL, cntL]; exact ha
 | x :: l, a, c, ha, h, hb => by
  obtain ⟨h1, h2⟩ := h x (List.mem_cons_self ..)
  rw [cntL] at hb ⊢
  rw [sizeL, h1]
  simp only [Bool.false_eq_true, if_false]
  rw [sizeL_cnt l _ (c + cntN x) (by
   show wr (a.1 + (sizeN x).1) = _
   rw [ha, h2]
   show IntKind.i64.wrap _ = _
   rw [wrap_i64 (by omega) (by omega)]; omega) (fun y hy => h y (List.mem_cons_of_mem _ hy)) (by omega)]
  congr 1
  omega
theorem size_cnt : ∀ (m : Nat) (x : Nd), m ≤ 14 → x.ok → mayN x = true → deepN m x < m → deepN m x ≤ 12 → (sizeN x).1 = (cntN x : Int)
 | 0, x, _, _, _, h, _ => by omega
 | m + 1, x, hm, ok, may, h, h12 => by
  have hok := ok.at
  have hcnt := hok.cnt
  rcases mayCase may with ⟨hk, hkids⟩ | ⟨hk, hkids⟩ | ⟨hk, hkids⟩
  · rw [sizeN_eq, cntN_eq, hkids, sizeL, cntL]
    rfl
  · rw [sizeN_eq, cntN_eq, hkids, sizeL, cntL]
    rfl
  · have hm0 : m ≠ 0 := by
     intro h0
     subst h0
     rw [deepN, if_pos (.inr rfl)] at h
     omega
    rw [deep_dir hk hm0] at h h12
    have hkid : ∀ y ∈ x.kids, (sizeN y).1 = (cntN y : Int) ∧ tooDeepN y = false := fun y hy => by
     have hle := (foldl_max_ge (f := deepN m) x.kids 1).2 y hy
     refine ⟨size_cnt m y (by omega) (hok.kids y hy) (mayL_all hkids y hy).2 (by omega) (by omega), ?_⟩
     have hst := deep_stable' (m := m) (x := y) (by omega) (14 - m)
     rw [show m + (14 - m) = 14 by omega] at hst
     unfold tooDeepN
     rw [hst]
     simp; omega
    rw [sizeN_eq, cntN_eq]
    exact sizeL_cnt x.kids _ 1 rfl (fun y hy => ⟨(hkid y hy).2, (hkid y hy).1⟩) (by omega)
theorem check_ok {x : Nd} (ok : x.ok) (h : checkN x = 0) : mayN x = true ∧ cntN x ≤ 2000 := by
 unfold checkN at h
 cases ht : tooDeepN x with
 | true => rw [ht, if_pos rfl] at h; omega
 | false =>
  rw [ht, if_neg (by simp)] at h
  cases hn : (x.name == [] && mayN x) with
  | false => rw [hn, if_neg (by simp)] at h; omega
  | true =>
   rw [hn, if_pos rfl] at h
   rw [Bool.and_eq_true] at hn
   refine ⟨hn.2, ?_⟩
   unfold tooDeepN at ht
   have hd : deepN 14 x ≤ 12 := by simpa using ht
   have hs := size_cnt 14 x (by omega) ok hn.2 (by omega) hd
   have hT : sizeT x = sizeN x := by unfold sizeT tooDeepN; rw [if_neg (by simp; omega)]
   by_cases hb : 2000 < (sizeT x).1
   · rw [decide_eq_true hb, Bool.true_or, if_pos rfl] at h; omega
   · rw [hT, hs] at hb; omega
def magicN : List UInt8 := [119, 104, 105, 115, 107, 45, 116, 114, 101, 101]
def encodeN (x : Nd) : List UInt8 × Int := if checkN x = 0 then if (layN (putText [] magicN) x).length ≤ 60000 then (layN (putText [] magicN) x, 0) else ([], 3) else ([], checkN x)
noncomputable def gEncode (x : Nd) : V := .tuple [sv (encodeN x).1, .int .i64 (encodeN x).2]
theorem magic_len : (putText [] magicN).length ≤ 21 := by
 have := putText_len [] magicN (by decide)
 simp only [magicN, List.length_nil, List.length_cons] at this ⊢
 omega
theorem build46 (t : List UInt8) : buildV E0 46 [(0, sv t)] = some (vAgg [sv t]) := by kernel_rfl
theorem kn10 {K : FuncId → Option KF} (hK : KnOk Try.prog E0 K) (h21 : K 21 = some (kfNode gCheck)) (h23 : K 23 = some kfPutText) (h22 : K 22 = some kfLay) : KnWell Try.prog E0 10 (kfNode gEncode) :=
 knNode hK (fn := Try.f10) (c := C10) (d := B10) gEncode (fun _ _ => under_two _ _ _ (under_sv _) (.int _ _)) (by kernel_rfl) (by kernel_rfl) (annot_isOf C10 _ (by kernel_rfl)) 1 fun x S ok ho => by
  obtain ⟨S1, k1, k2, k3, k4⟩ := node_box ho x
  have hml := magic_len
  refine ⟨S1, (?_ : F10 (ev E0 K 1) rounds (encN x) S = _), k3⟩
  rw [F10_eq, k1, oB, k2.fA, oB]
  dsimp only
  rw [ev_known h21, kfNode_run _ x ok, callP_ret, gCheck, binV_ii, intsV_neq, oB, ifK_bool, gEncode, encodeN]
  by_cases hc : checkN x = 0
  · obtain ⟨may, hcnt⟩ := check_ok ok hc
    have hll := layN_len x (putText [] magicN) ok may
    rw [decide_eq_true hc, Bool.not_true, cond_false, if_pos hc, show (sv [119, 104, 105, 115, 107, 45, 116, 114, 101, 101]) = sv magicN from rfl, ev_known h23, kfPutText_run [] magicN (by decide) (by decide), callD_ret, onS_onS, k2.oA, oB]
    dsimp only
    rw [ev_known h22, kfLay_run _ x ok may (by omega), callD_ret, endP_rd]
    · simp only [onS_rd, onS_onS, relog_onS k2.on, lnStr_sv, oB, binV_ii]
      rw [intsV_gtr, oB, ifK_bool]
      by_cases hb : (layN (putText [] magicN) x).length ≤ 60000
      · rw [show decide ((60000 : Int) < ((layN (putText [] magicN) x).length : Int)) = false by rw [decide_eq_false_iff_not]; omega, cond_false, if_pos hb]
      · rw [show decide ((60000 : Int) < ((layN (putText [] magicN) x).length : Int)) = true by rw [decide_eq_true_eq]; omega, cond_true, if_neg hb]
    · rfl
  · rw [decide_eq_false hc, Bool.not_false, cond_true, if_neg hc]
theorem kn9 {K : FuncId → Option KF} (hK : KnOk Try.prog E0 K) (h15 : K 15 = some (kfNode gCheck)) (h40 : K 40 = some kf46) (h19 : K 19 = some kfPutText) (h20 : K 20 = none) (h41 : K 41 = none) (h42 : K 42 = none) (h43 : K 43 = none) : KnWell Try.prog E0 9 (kfNode gEncode) :=
 specKF_text (fn := Try.f9) (c := C9) (d := B9) E0_ok hK (by kernel_rfl) (by kernel_rfl) (annot_isOf C9 _ (by kernel_rfl)) fun p S ho => by
  obtain ⟨x, ok⟩ := p
  obtain ⟨S1, k1, k2, k3, k4⟩ := node_box ho x
  have hml := magic_len
  suffices h : ∃ S', F9 (ev E0 K (3 * SizeOf.sizeOf x + 1)) rounds (encN x) S = some (.ret (gEncode x), S') ∧ Grew (fun _ => False) S S' by
   obtain ⟨S', h1, h2⟩ := h
   exact ⟨3 * SizeOf.sizeOf x + 1, .ret (gEncode x), S', h1, h2, Fz.same (under_two _ _ _ (under_sv _) (.int _ _))⟩
  rw [F9_eq, k1, oB, k2.fA, oB]
  dsimp only
  rw [ev_known h15, kfNode_run _ x ok, callP_ret, gCheck, binV_ii, intsV_neq, oB, ifK_bool, gEncode, encodeN]
  by_cases hc : checkN x = 0
  · obtain ⟨may, hcnt⟩ := check_ok ok hc
    have hll := layN_len x (putText [] magicN) ok may
    obtain ⟨S2, b1, b2, b3, b4⟩ := box_new k2.on 46 [sv (putText [] magicN)]
    have hB : BoxAt S2 S1.next (putText [] magicN) := ⟨b3.on.trans k2.on, b2⟩
    have k2' := k2.grew (by omega) (fun h => h) b3
    obtain ⟨S3, c1, c2, c3⟩ := node_at h40 h19 h20 h41 h42 h43 S1.next (SizeOf.sizeOf x) x (3 * SizeOf.sizeOf x + 1) (putText [] magicN) S2 (Nat.le_refl _) (by omega) ok may (by omega) hB (by omega)
    refine ⟨S3, ?_, k3.trans (b3.own (Nat.le_refl _) c3)⟩
    rw [decide_eq_true hc, Bool.not_true, cond_false, if_pos hc, show (sv [119, 104, 105, 115, 107, 45, 116, 114, 101, 101]) = sv magicN from rfl, ev_known h19, kfPutText_run [] magicN (by decide) (by decide), callP_ret, build46, oB, b1, oB]
    dsimp only
    rw [k2'.fA, oB]
    dsimp only
    rw [c1, callP_ret, show nilCheckV (.ptr S1.next 0) = some (.ptr S1.next 0) from rfl, oB, faP_ptr, oB, Nat.add_zero, c2.ld, oB]
    dsimp only
    rw [lnStr_sv, oB]
    dsimp only
    rw [binV_ii, intsV_gtr, oB, ifK_bool]
    by_cases hb : (layN (putText [] magicN) x).length ≤ 60000
    · rw [show decide ((60000 : Int) < ((layN (putText [] magicN) x).length : Int)) = false by rw [decide_eq_false_iff_not]; omega, cond_false, if_pos hb, oB, faP_ptr, oB, Nat.add_zero, c2.ld]
      rfl
    · rw [show decide ((60000 : Int) < ((layN (putText [] magicN) x).length : Int)) = true by rw [decide_eq_true_eq]; omega, cond_true, if_neg hb]
  · refine ⟨S1, ?_, k3⟩
    rw [decide_eq_false hc, Bool.not_false, cond_true, if_neg hc]
end Go.Proofs.Ythmkdoaaciamlaa.W
namespace Go.Proofs.Ythmkdoaaciamlaa.W
open Go.Proofs.Ythmkdoaaciamlaa.Ev
inductive KForm where
 | nil
 | empty
 | list
mutual
inductive Rw where
 | mk (name : List UInt8) (kind : Int) (exec : Bool) (data : List UInt8) (form : KForm) (kids : List Rw)
end
noncomputable def kform : KForm → List V → V
 | .nil, _ => .nilslice
 | .empty, _ => .eslice
 | .list, l => .list 5 l
mutual
noncomputable def rwV : Rw → V
 | .mk n k e d f l => vAgg [sv n, .int .i64 k, .bool e, sv d, kform f (rwVs l)]
noncomputable def rwVs : List Rw → List V
 | [] => []
 | x :: l => rwV x :: rwVs l
end
def Rw.kids : Rw → List Rw
 | .mk _ _ _ _ .list l => l
 | .mk _ _ _ _ _ _ => []
def Rw.form : Rw → KForm | .mk _ _ _ _ f _ => f
def Rw.name : Rw → List UInt8 | .mk n _ _ _ _ _ => n
def Rw.kind : Rw → Int | .mk _ k _ _ _ _ => k
def Rw.exec : Rw → Bool | .mk _ _ e _ _ _ => e
def Rw.data : Rw → List UInt8 | .mk _ _ _ d _ _ => d
theorem rwVs_map : ∀ l : List Rw, rwVs l = l.map rwV
 | [] => rfl
 | x :: l => by rw [rwVs, rwVs_map l]; rfl
noncomputable def kidsR (x : Rw) : V := match x with | .mk _ _ _ _ f l => kform f (rwVs l)
noncomputable def cellsR (x : Rw) : List V := [sv x.name, .int .i64 x.kind, .bool x.exec, sv x.data, kidsR x]
theorem rwV_cells (x : Rw) : rwV x = vAgg (cellsR x) := by cases x; rw [rwV]; rfl
def shortN : Nat → Rw → Nd
 | 0, x => .mk x.name x.kind x.exec (x.data.take 300) []
 | d + 1, x => .mk x.name x.kind x.exec (x.data.take 300) ((x.kids.take 20).map (shortN d))
def RwOk (x : Rw) : Prop := x.name.length < 9223372036854775808 ∧ (-9223372036854775808 ≤ x.kind ∧ x.kind < 9223372036854775808)
def DeepOk : Nat → Rw → Prop
 | 0, x => RwOk x
 | d + 1, x => RwOk x ∧ ∀ y ∈ x.kids, DeepOk d y
theorem cntL_le (B : Nat) : ∀ l : List Nd, (∀ y ∈ l, cntN y ≤ B) → cntL l ≤ l.length * B
 | [], _ => by rw [cntL]; omega
 | x :: l, h => by
  have h1 := h x (List.mem_cons_self ..)
  have h2 := cntL_le B l fun y hy => h y (List.mem_cons_of_mem _ hy)
  rw [cntL, List.length_cons, Nat.succ_mul]
  omega
def most : Nat → Nat
 | 0 => 1
 | d + 1 => 1 + 20 * most d
theorem short_cnt : ∀ (d : Nat) (x : Rw), cntN (shortN d x) ≤ most d
 | 0, x => by rw [shortN, cntN, cntL]; exact Nat.le_refl _
 | d + 1, x => by
  rw [shortN, cntN, most]
  have h := cntL_le (most d) ((x.kids.take 20).map (shortN d)) fun y hy => by
   rw [List.mem_map] at hy
   obtain ⟨z, _, rfl⟩ := hy
   exact short_cnt d z
  rw [List.length_map, List.length_take] at h
  have h2 : min 20 x.kids.length * most d ≤ 20 * most d := Nat.mul_le_mul_right _ (Nat.min_le_left ..)
  omega
theorem most_mono {a b : Nat} (h : a ≤ b) : most a ≤ most b := by
 induction h with
 | refl => exact Nat.le_refl _
 | step _ ih => exact Nat.le_trans ih (by rw [most]; omega)
theorem short_ok : ∀ (d : Nat) (x : Rw), d ≤ 14 → DeepOk d x → (shortN d x).ok
 | 0, x, _, h => by
  rw [shortN, Nd.ok]
  exact ⟨h.1, h.2, by simp; omega, by simp, by simp [cntL], by simp [okL]⟩
 | d + 1, x, hd, h => by
  have hc := short_cnt (d + 1) x
  have hm := most_mono hd
  have h14 : most 14 < 4611686018427387904 := by decide
  rw [shortN, cntN] at hc
  rw [shortN, Nd.ok]
  refine ⟨h.1.1, h.1.2, by simp; omega, by simp; omega, by omega, (okL_iff _).2 fun y hy => ?_⟩
  rw [List.mem_map] at hy
  obtain ⟨z, hz, rfl⟩ := hy
  exact short_ok d z (by omega) (h.2 z (List.mem_of_mem_take hz))
mutual
theorem under_encN (N : Nat) : ∀ x : Nd, Under N (encN x)
 | .mk n k e d l => by
  rw [encN]
  refine .agg fun i v hi => ?_
  rw [vAgg_get] at hi
  have hk : Under N (kidsV (encL l)) := by
   have := under_encL N l
   cases hl : encL l with
   | nil => exact .nilslice
   | cons a m => rw [hl] at this; exact .list this
  match i, hi with
  | 0, hi => simp at hi; subst hi; exact under_sv _
  | 1, hi => simp at hi; subst hi; exact .int _ _
  | 2, hi => simp at hi; subst hi; exact .bool _
  | 3, hi => simp at hi; subst hi; exact under_sv _
  | 4, hi => simp at hi; subst hi; exact hk
  | i + 5, hi => simp at hi
theorem under_encL (N : Nat) : ∀ l : List Nd, Unders N (encL l)
 | [] => by rw [encL]; exact .nil
 | x :: l => by rw [encL]; exact .cons (under_encN N x) (under_encL N l)
end
noncomputable def treeN (x : Nd) : Tr V := Tr.ofListFrom .nil (cellsN x) 0
theorem encN_tree (x : Nd) : encN x = .agg 5 (treeN x) := by rw [encN_cells]; rfl
section
variable {s : St}
theorem bsP_node (ho : s.on = false) (z : Tr V) (x : Nd) : ∃ t, bsP 24 5 1 z [(0, encN x)] s = some (.slice s.next 0 1 1, t) ∧ RowAt t s.next 24 5 [treeN x] ∧ Grew (fun _ => False) s t ∧ t.next = s.next + 1 := by
 rw [encN_tree]
 refine ⟨nw s (.cells 24 5 1 false ((Tr.tab 1 1 fun _ => z).set (treeN x) 0)), ?_, ?_, grew_nw ho _ _, rfl⟩
 · unfold bsP fillE fillE
   simp only [V.size, isTuple, V.cells, show Nat.beq 5 5 = true from rfl, Bool.not_false, Bool.and_true, show Nat.blt 0 1 = true from rfl, cond_true, Tr.setC_eq, oB]
 · refine rowAt_nw ho (by omega) rfl (by unfold big; omega) fun i t h => ?_
   rw [Tr.get_set]
   cases i with
   | zero => simpa using h
   | succ i => simp at h
theorem ap_first (ho : s.on = false) {b : Nat} {t : Tr V} (h : RowAt s b 24 5 [t]) : ∃ u, apP 24 5 72 .nilslice (.slice b 0 1 1) s = some (.oslice s.next 0 1 5, u) ∧ RowAt u s.next 24 5 [t] ∧ Grew (fun _ => False) s u ∧ u.next = s.next + 1 := by
 refine ⟨newCells s 24 5 [t], ?_, rowAt_newCells ho (by omega) (by unfold big; simp), grew_nw ho _ _, rfl⟩
 unfold apP
 simp only [lenV, oB, show Nat.blt ((0 + 1) * (72 + 5 + 1)) maxCells = true from rfl, cond_true]
 unfold appendV firstV
 have := h.ldN ho 1 0 (by simp)
 simp only [Nat.zero_mul, List.drop_zero] at this
 simp only [this, oB, show Nat.beq 1 0 = false from rfl, cond_false]
 rfl
theorem ap_more (ho : s.on = false) {b r : Nat} {t : Tr V} {l : List (Tr V)} (h : RowAt s b 24 5 [t]) (hr : RowAt s r 24 5 l) (hl : l.length ≤ 3000) : ∃ u, apP 24 5 72 (.oslice r 0 l.length 5) (.slice b 0 1 1) s = some (.oslice s.next 0 (l.length + 1) 5, u) ∧ RowAt u s.next 24 5 (l ++ [t]) ∧ Grew (fun x => x = r) s u ∧ u.next = s.next + 1 := by
 obtain ⟨c, hc1, hc2⟩ := hr.row
 have hfit := hr.fit
 refine ⟨nw (s.put r .dead) (.cells 24 5 (l.length + 1) false (c.set t l.length)), ?_, ?_, ?_, rfl⟩
 · unfold apP
   have hm : Nat.blt ((l.length + 1) * (72 + 5 + 1)) maxCells = true := by rw [blt_true]; unfold maxCells; omega
   simp only [lenV, oB, hm, cond_true]
   unfold appendV firstV
   have := h.ldN ho 1 0 (by simp)
   simp only [Nat.zero_mul, List.drop_zero] at this
   simp only [this, oB, show Nat.beq 5 5 = true from rfl, cond_true]
   unfold sizeB
   rw [hc1]
   have hb : Nat.ble (0 + (l.length + 1) * 5) (5 * l.length) = false := by
    cases hh : Nat.ble (0 + (l.length + 1) * 5) (5 * l.length) with
    | false => rfl
    | true => rw [ble_true] at hh; omega
   simp only [blt_true.2 hfit, cond_true, oB, note_off ho, hb, cond_false]
   unfold growV
   rw [hc1]
   simp only [show Nat.beq 24 24 = true from rfl, Bool.not_true, Bool.or_self, cond_false, show Nat.beq 5 5 = true from rfl, show Nat.beq 0 0 = true from rfl, Nat.beq_refl, blt_true.2 hfit, Bool.and_self, cond_true]
   rw [show List.take 1 [t] = [t] from rfl]
   unfold addLC addLC
   rw [Tr.setC_eq]
   unfold setO
   rw [note_off ho]
 · have hnx : (s.put r .dead).next = s.next := rfl
   have := rowAt_nw (s := s.put r .dead) (e := 24) (z := 5) (n := l.length + 1) (c := c.set t l.length) (l := l ++ [t]) ho (by omega) (by simp) (by unfold big; omega) fun i u h => by
    rw [Tr.get_set]
    by_cases hi : i = l.length
    · subst hi
      rw [if_pos rfl]
      simpa using h
    · rw [if_neg hi]
      have hlt := (List.getElem?_eq_some_iff.1 h).1
      rw [List.length_append, List.length_singleton] at hlt
      rw [List.getElem?_append_left (by omega)] at h
      exact hc2 i u h
   exact this
 · exact ⟨by show s.next ≤ s.next + 1; omega, (nw_on (s := s.put r .dead) ho _).trans ho.symm, fun x hx hw => by
    rw [nw_get, if_neg (by show x ≠ s.next; omega), put_get, if_neg hw]⟩
end
end Go.Proofs.Ythmkdoaaciamlaa.W
namespace Go.Proofs.Ythmkdoaaciamlaa.W
open Go.Proofs.Ythmkdoaaciamlaa.Ev
section
variable {s : St}
theorem Bx.var {b e : Nat} {l : List V} (h : Bx s b e l) (h0 : 0 < l.length) (hl : l.length < big) : VarAt s b e l.length l := by
 refine ⟨h0, hl, rfl, _, h, fun i v hi => ?_⟩
 have hlt := (List.getElem?_eq_some_iff.1 hi).1
 rw [tr_two, if_pos hlt]; exact hi
theorem VarAt.agg {b e z : Nat} {l : List V} (h : VarAt s b e z l) : ∃ t, AgAt s b e z t ∧ ∀ (i : Nat) v, l[i]? = some v → t.get i = some v := by
 obtain ⟨c, h1, h2⟩ := h.row
 have hl := h.len
 obtain ⟨u, hu⟩ : ∃ u, l[0]? = some u := ⟨_, List.getElem?_eq_getElem (by have := h.pos; omega)⟩
 have h0 := h2 0 u hu
 rw [cellOf_zero h.pos, oI] at h0
 obtain ⟨t, ht, _⟩ := h0
 refine ⟨t, ⟨c, h1, ht⟩, fun i v hi => ?_⟩
 have hlt := (List.getElem?_eq_some_iff.1 hi).1
 have := h2 i v hi
 rw [cellOf_zero (by omega), ht] at this
 exact this
def SliceIs (s : St) (N0 : Nat) (v : V) (acc : List Nd) : Prop := (acc = [] ∧ v = .nilslice) ∨ (acc ≠ [] ∧ ∃ r, v = .oslice r 0 acc.length 5 ∧ RowAt s r 24 5 (acc.map treeN) ∧ N0 ≤ r ∧ r < s.next)
theorem SliceIs.grew {W : Nat → Prop} {t : St} {N0 : Nat} {v : V} {acc : List Nd} (h : SliceIs s N0 v acc) (hw : ∀ r, N0 ≤ r → r < s.next → ¬ W r) (g : Grew W s t) : SliceIs t N0 v acc := by
 rcases h with h | ⟨h1, r, h2, h3, h4, h5⟩
 · exact .inl h
 · exact .inr ⟨h1, r, h2, h3.grew h5 (hw r h4 h5) g, h4, Nat.lt_of_lt_of_le h5 g.next⟩
theorem SliceIs.add (ho : s.on = false) {N0 : Nat} {v : V} {acc : List Nd} (h : SliceIs s N0 v acc) (hN : N0 ≤ s.next) (hl : acc.length ≤ 3000) (z : Tr V) (y : Nd) :
 ∃ t v' u, bsP 24 5 1 z [(0, encN y)] s = some (.slice s.next 0 1 1, t) ∧ apP 24 5 72 v (.slice s.next 0 1 1) t = some (v', u) ∧ SliceIs u N0 v' (acc ++ [y]) ∧ Grew (fun x => N0 ≤ x) s u := by
 obtain ⟨t, h1, h2, h3, h4⟩ := bsP_node ho z y
 have on1 := h3.on.trans ho
 rcases h with ⟨rfl, rfl⟩ | ⟨hne, r, rfl, hr, hNr, hrn⟩
 · obtain ⟨u, k1, k2, k3, k4⟩ := ap_first on1 h2
   refine ⟨t, _, u, h1, k1, .inr ⟨by simp, t.next, rfl, k2, by omega, by omega⟩, (Grew.of0 h3).trans (Grew.of0 k3)⟩
 · have hr1 := hr.grew hrn (fun h => h) h3
   obtain ⟨u, k1, k2, k3, k4⟩ := ap_more on1 h2 hr1 (by simpa using hl)
   rw [List.length_map] at k1
   refine ⟨t, _, u, h1, k1, .inr ⟨by simp, t.next, by rw [List.length_append]; rfl, by rw [List.map_append]; exact k2, by omega, by omega⟩, (Grew.of0 h3).trans (k3.mono fun x _ hx => by rw [hx]; exact hNr)⟩
end
theorem lnS_kidsR (x : Rw) (S : St) : lnS (kidsR x) S = some (.int .i64 (x.kids.length : Int), S) := by
 cases x with
 | mk n k e d f l =>
  cases f with
  | nil => rfl
  | empty => rfl
  | list =>
   show some (V.int .i64 (.ofNat (rwVs l).length), S) = _
   rw [rwVs_map, List.length_map]; rfl
theorem ixP_kidsR (x : Rw) (i : Nat) (h : i < x.kids.length) : ixP 5 (kidsR x) (.int .i64 (i : Int)) = some (.cptr (rwV x.kids[i])) := by
 cases x with
 | mk n k e d f l =>
  cases f with
  | nil => simp [Rw.kids] at h
  | empty => simp [Rw.kids] at h
  | list =>
   have h' : i < l.length := h
   show ixP 5 (.list 5 (rwVs l)) _ = _
   rw [ixP_list 5 (rwVs l) .i64 i (by rw [rwVs_map, List.length_map]; exact h') (by decide)]
   congr 2
   simp only [rwVs_map, List.getElem_map]
   rfl
theorem ldA_kidR (x : Rw) (S : St) : ldA 5 (.cptr (rwV x)) S = some (rwV x, S) := by rw [rwV_cells]; exact ldA_cptr (cellsR x)
theorem L8_stop (self : EV) (N : Nat) (nk : Ac → St → Rs) (ek : Nat → Ac → St → Rs) (n : Nat) (x : Rw) (b0 b1 : Nat) (cs : List V) (hcs : cs[4]? = some (kidsR x)) (S : St) (ho : S.on = false) (hv : VarAt S b0 24 5 cs) (d i : Nat) (v5 : V) (h : ¬ (i < x.kids.length ∧ i < 20 ∧ 0 < d)) :
 L8_20 self N nk ek (n + 1) (.int .i64 (d : Int)) (.ptr b0 0) (.ptr b1 0) v5 (.int .i64 (i : Int)) S = ek 0 (fr 44 [(2, .ptr b0 0), (4, .ptr b1 0), (5, v5)]) S := by
 rw [L8_20_eq, faP_ptr, oB, Nat.zero_add, ld1_ptr, hv.ld ho hcs, oB]
 dsimp only
 rw [lnS_kidsR, oB]
 dsimp only
 rw [binV_ii, intsV_lss, oB, guardV_t, oB]
 by_cases h1 : i < x.kids.length
 · rw [dec_lt h1, cond_true, oB, oB, cond_true, binV_ii, intsV_lss, oB]
   by_cases h2 : i < 20
   · rw [show decide ((i : Int) < 20) = true by simp; omega, show pickV (.bool true) (some (.bool true)) (some (.bool false)) = some (.bool true) from rfl, oB, guardV_t, oB, cond_true, oB, oB, cond_true, binV_ii, intsV_gtr, oB]
     rw [show decide ((0 : Int) < (d : Int)) = false by simp; omega, show pickV (.bool true) (some (.bool false)) (some (.bool false)) = some (.bool false) from rfl, oB, ifK_bool, cond_false]
   · rw [show decide ((i : Int) < 20) = false by simp; omega, show pickV (.bool true) (some (.bool false)) (some (.bool false)) = some (.bool false) from rfl, oB, guardV_t, oB, cond_false, oB, oB, cond_false, oB, show pickV (.bool false) (some (.tuple [])) (some (.bool false)) = some (.bool false) from rfl, oB, ifK_bool, cond_false]
 · rw [dec_ge (by omega), cond_false, oB, oB, cond_false, oB, show pickV (.bool false) (some (.tuple [])) (some (.bool false)) = some (.bool false) from rfl, oB, guardV_t, oB, cond_false, oB, oB, cond_false, oB, show pickV (.bool false) (some (.tuple [])) (some (.bool false)) = some (.bool false) from rfl, oB, ifK_bool, cond_false]
theorem L8_spec (self : EV) (N : Nat) (nk : Ac → St → Rs) (ek : Nat → Ac → St → Rs) (x : Rw) (b0 b1 N0 d : Nat) (hd : d < 14) (cs : List V) (hcs : cs[4]? = some (kidsR x)) (hb0 : b0 < N0) (hb1 : b1 < N0)
 (h8 : ∀ y ∈ x.kids, ∀ S, self.f 8 [rwV y, .int .i64 (d : Int)] S = some (.ret (encN (shortN d y)), S)) (t1 : Tr V) :
 ∀ (r : List Rw) (i n : Nat) (S : St) (acc : List Nd) (v5 : V), (x.kids.take 20).drop i = r → r.length < n → i ≤ 20 → acc.length = i → S.on = false → N0 ≤ S.next → VarAt S b0 24 5 cs → AgAt S b1 24 5 t1 → SliceIs S N0 v5 acc →
 ∃ S' v5', L8_20 self N nk ek n (.int .i64 ((d + 1 : Nat) : Int)) (.ptr b0 0) (.ptr b1 0) v5 (.int .i64 (i : Int)) S = ek 0 (fr 44 [(2, .ptr b0 0), (4, .ptr b1 0), (5, v5')]) S' ∧ SliceIs S' N0 v5' (acc ++ r.map (shortN d)) ∧ VarAt S' b0 24 5 cs ∧ AgAt S' b1 24 5 t1 ∧ Grew (fun y => N0 ≤ y) S S'
 | r, i, 0, S, acc, v5, _, hn, _, _, _, _, _, _, _ => by omega
 | [], i, n + 1, S, acc, v5, hi, hn, h20, ha, ho, hN, hv, hg, hs => by
  have hlen := drop_end hi
  rw [List.length_take] at hlen
  exact ⟨S, v5, L8_stop self N nk ek n x b0 b1 cs hcs S ho hv (d + 1) i v5 (by omega), by simpa using hs, hv, hg, Grew.refl _ _⟩
 | y :: r, i, n + 1, S, acc, v5, hi, hn, h20, ha, ho, hN, hv, hg, hs => by
  obtain ⟨hlt, hy, hr, hmem⟩ := drop_at hi
  have hlt2 := hlt
  rw [List.length_take] at hlt2
  have hik : i < x.kids.length := by omega
  have hy2 : x.kids[i] = y := by rw [← hy, List.getElem_take]
  obtain ⟨t, v', u, k1, k2, k3, k4⟩ := hs.add ho hN (by omega) (Tr.ofListFrom .nil [(sv []), (.int .i64 0), (.bool false), (sv []), .nilslice] 0) (shortN d y)
  have hv' := hv.grew (by omega) (by omega) k4
  have hg' := hg.grew (by omega) (by omega) k4
  obtain ⟨S', v5', z1, z2, z3, z4, z5⟩ := L8_spec self N nk ek x b0 b1 N0 d hd cs hcs hb0 hb1 h8 t1 r (i + 1) n u (acc ++ [shortN d y]) v' hr (by simp at hn; omega) (by omega) (by simp [ha]) (k4.on.trans ho) (by have := k4.next; omega) hv' hg' k3
  refine ⟨S', v5', ?_, by simpa using z2, z3, z4, k4.trans z5⟩
  rw [L8_20_eq, faP_ptr, oB, Nat.zero_add, ld1_ptr, hv.ld ho hcs, oB]
  dsimp only
  rw [lnS_kidsR, oB]
  dsimp only
  rw [binV_ii, intsV_lss, oB, guardV_t, oB, dec_lt hik, cond_true, oB, oB, cond_true, binV_ii, intsV_lss, oB]
  rw [show decide ((i : Int) < 20) = true by simp; omega, show pickV (.bool true) (some (.bool true)) (some (.bool false)) = some (.bool true) from rfl, oB, guardV_t, oB, cond_true, oB, oB, cond_true, binV_ii, intsV_gtr, oB]
  rw [show decide ((0 : Int) < ((d + 1 : Nat) : Int)) = true by simp, show pickV (.bool true) (some (.bool true)) (some (.bool false)) = some (.bool true) from rfl, oB, ifK_bool, cond_true, oB, ld1_ptr, hv.ld ho hcs, oB]
  dsimp only
  rw [ixP_kidsR x i hik, hy2, oB, ldA_kidR, oB]
  dsimp only
  rw [binV_ii, intsV_sub, show ((d + 1 : Nat) : Int) - 1 = (d : Int) by omega, wrap_i64 (by omega) (by omega), oB, h8 y (List.mem_of_mem_take hmem), callP_ret, k1, oB]
  dsimp only
  rw [k2, oB, binV_ii, intsV_add, wrap_succ (by omega), oB]
  exact z1
end Go.Proofs.Ythmkdoaaciamlaa.W
