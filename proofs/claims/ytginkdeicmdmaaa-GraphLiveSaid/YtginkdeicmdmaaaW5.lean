/-
  WHAT THE FUNCTIONS COME TO: each is read by the evaluator, printed, and told as a function of data, part 5 of 5 (no condition).
-/
import Derived.Test.YtginkdeicmdmaaaW4
namespace Go.Proofs.Ytginkdeicmdmaaa.W
open Go.Proofs.Ytginkdeicmdmaaa.Ev Go.RowKit
section
variable {F : Fz.Fz}
theorem kfSorted_fz (kfs : List FuncId) (et : TypeId) (args : List V) : Fz.LocP F fun s => (kfSorted kfs et).run args s := by
 unfold kfSorted
 dsimp only
 split
 · refine Fz.Loc.cond ?_ Fz.Loc.none
   refine Fz.Loc.bind (Fz.loc_ld _ _) fun m => ?_
   unfold sortedK
   cases m <;> try exact Fz.Loc.none
   case nilmap => exact Fz.LocP.ret _
   case map r =>
    refine Fz.Loc.bindGet r (fun _ _ _ _ _ _ => rfl) fun hb o => ?_
    cases o <;> try exact Fz.Loc.none
    refine Fz.Loc.opt fun l => ?_
    cases l with
    | nil => exact Fz.LocP.ret _
    | cons x l => exact Fz.LocP.nw (fun k => En.ret (V.oslice k 0 (l.length + 1) 1)) fun _ => _
 · exact Fz.Loc.none
theorem fz_lookAll (es : List ME) (v : V) : ∀ (k i : Nat), Fz.LocP F fun s => lookAll es v k i s
 | 0, _ => Fz.LocP.ret _
 | k + 1, i => by
  unfold lookAll
  refine Fz.Loc.opt fun p => ?_
  cases p <;> try exact Fz.Loc.none
  refine Fz.Loc.bind (Fz.loc_ld _ _) fun q => ?_
  dsimp only
  refine Fz.Loc.cond (Fz.Loc.opt fun o => ?_) Fz.Loc.none
  cases o with
  | none => exact Fz.LocP.ret _
  | some _ => exact fz_lookAll es v k (i + 1)
theorem fz_rowIn (es : List ME) (v : V) : Fz.LocP F fun s => rowIn es v s := by
 unfold rowIn
 cases v <;> first | exact Fz.Loc.none | (refine Fz.Loc.opt fun n => Fz.Loc.cond ?_ Fz.Loc.none; exact fz_lookAll es _ n 0)
theorem fz_closedAll (es : List ME) : ∀ l, Fz.LocP F fun s => closedAll es l s
 | [] => Fz.LocP.ret _
 | e :: l => by
  unfold closedAll
  refine Fz.Loc.bind (fz_rowIn es e.v) fun p => ?_
  dsimp only
  refine Fz.Loc.bind (fz_closedAll es l) fun q => ?_
  exact Fz.LocP.ret (p && q)
theorem fz_closedK (v : V) : Fz.LocP F fun s => closedK v s := by
 unfold closedK
 cases v <;> try exact Fz.Loc.none
 refine Fz.Loc.bindGet _ (fun _ _ _ _ _ _ => rfl) fun hb o => ?_
 cases o <;> try exact Fz.Loc.none
 refine Fz.Loc.cond (Fz.Loc.bind (Fz.LocP.nw (fun _ => ()) fun _ => .dead) fun _ => ?_) Fz.Loc.none
 dsimp only
 refine Fz.Loc.bind (fz_closedAll _ _) fun z => ?_
 exact Fz.LocP.ret (En.ret (.bool z))
theorem kfClosed_fz (args : List V) : Fz.LocP F fun s => kfClosed.run args s := by
 unfold kfClosed
 dsimp only
 split
 · rename_i l
   refine Fz.Loc.bind ((Fz.loc_ev E0 Fz.knLoc_nil 5).1 28 [l]) fun e => ?_
   cases e with
   | ret v => exact fz_closedK v
   | pan v => exact Fz.Loc.none
 · exact Fz.Loc.none
theorem fzD : Fz.KnLoc F KD := (((Fz.knLoc_nil).add 44 fun _ => kfSorted_fz _ _ _).add 12 fun _ => kfClosed_fz _).add 14 fun _ => Fz.specKF_fz _
end
section
variable {S T U : St}
noncomputable def icy (S : St) (b e z n : Nat) (c : Tr (Tr V)) : St := S.put b (.cells e z n true c)
theorem icy_same {b e z n : Nat} {c : Tr (Tr V)} (h : S.heap.get b = some (.cells e z n false c)) (hb : b < S.next) : Fz.Same ⟨b, e, z, n, c⟩ (icy S b e z n c) S :=
 ⟨rfl, fun x hx => by show S.heap.get x = (S.put b _).heap.get x; rw [put_get, if_neg hx], by show (S.put b _).heap.get b = _; rw [put_get, if_pos rfl], h, hb⟩
theorem TL.icy {v : V} {l : List Bs} (h : TL S v l) {b e z n : Nat} {c : Tr (Tr V)} {m : List (Tr V)} (hb : RowAt S b e z m) (he : e ≠ 9) : TL (icy S b e z n c) v l :=
 h.grew (fun r _ _ hr hx => by subst hx; exact he (row_ne hb hr)) (grew_put (s := S) b _)
theorem PL.icy {v : V} {l : List Pth} (h : PL S v l) {b : Nat} {c : Tr (Tr V)} (hv : v = .oslice b 0 l.length 4) (hr : RowAt S b 28 4 (l.map treeP)) (hc : S.heap.get b = some (.cells 28 4 (l.map treeP).length false c)) (hc2 : ∀ (i : Nat) t, (l.map treeP)[i]? = some t → c.get i = some t) : PL (icy S b 28 4 (l.map treeP).length c) v l := by
 refine ⟨?_, fun p hp => (h.2 p hp).icy hr (by decide)⟩
 rcases h.1 with h | ⟨r, rfl, h1, h2, h3⟩
 · exact .inl h
 · cases hv
   exact .inr ⟨b, rfl, ⟨hr.pos, hr.fit, true, c, by show (S.put b _).heap.get b = _; rw [put_get, if_pos rfl], hc2⟩, h2, h3⟩
theorem closure_on {d : Nat} (ho : S.on = false) {v fv : V} {l : List Pth} {f : List Bs} (hp : PL S v l) {b : Nat} (hv : v = .oslice b 0 l.length 4) (hr : RowAt S b 28 4 (l.map treeP)) (hb : b < S.next) (hF : Fit l) (hd : l.length ≤ d) (hf : TL S fv f) (hfl : f.length < 1000000) :
 ∃ w U L, (ev E0 KD (d + 3)).f 9 [v, fv] (S.lg []) = some (.ret w, U.lg L) ∧ TLo U w (closL l f) S.next ∧ Grew (fun _ => False) S U ∧ ∀ e ∈ L, e.w = false ∨ e.b ≠ b := by
 obtain ⟨w, U, h1, h2, h3⟩ := closure_run (d := d) ho hp hF hd hf hfl
 obtain ⟨c, hc, hc2⟩ := hr.row
 obtain ⟨w', U', k1, _, _⟩ := closure_run (d := d) (S := icy S b 28 4 (l.map treeP).length c) ho (hp.icy hv hr hc hc2) hF hd (hf.icy hr (by decide)) hfl
 obtain ⟨L, q1, q2⟩ := Fz.ev_log fzD lgD (icy_same hc hb) k1 h1
 exact ⟨w, U, L, q1, h2, h3, q2⟩
theorem meet_ne {e f : LE} (h : e.b ≠ f.b) : meet e f = false := by
 unfold meet
 rw [show Nat.beq e.b f.b = false from by rw [Bool.eq_false_iff]; exact fun hb => h (Nat.eq_of_beq_eq_true hb)]; rfl
theorem meet_or {e f : LE} (h : e.b ≠ f.b ∨ (e.w = false ∧ f.w = false)) : meet e f = false := by
 rcases h with h | ⟨h1, h2⟩
 · exact meet_ne h
 · unfold meet
   rw [h1, h2]; cases Nat.beq e.b f.b <;> rfl
theorem clash1_or {e : LE} : ∀ {l : List LE}, (∀ f ∈ l, e.b ≠ f.b ∨ (e.w = false ∧ f.w = false)) → clash1 e l = false
 | [], _ => rfl
 | f :: l, h => by
  unfold clash1
  rw [meet_or (h f (List.mem_cons_self ..))]
  exact clash1_or fun g hg => h g (List.mem_cons_of_mem _ hg)
theorem clash_or : ∀ {a b : List LE}, (∀ e ∈ a, ∀ f ∈ b, e.b ≠ f.b ∨ (e.w = false ∧ f.w = false)) → clash a b = false
 | [], _, _ => rfl
 | e :: a, b, h => by
  unfold clash
  rw [clash1_or (h e (List.mem_cons_self ..))]
  exact clash_or fun g hg => h g (List.mem_cons_of_mem _ hg)
theorem pairs_one {logs : List (List LE)} {i j b : Nat} {rest : List (Nat × List Nat)} (h1 : ∀ e ∈ logOf i logs, e.w = false ∨ e.b ≠ b) (h2 : ∀ f ∈ logOf j logs, f.w = false ∧ f.b = b) (h3 : pairsOk logs rest = true) : pairsOk logs ((i, [j]) :: rest) = true := by
 unfold pairsOk
 have : clashAny (logOf i logs) logs [j] = false := by
  unfold clashAny
  rw [clash_or fun e he f hf => ?_]
  · rfl
  · obtain ⟨f1, f2⟩ := h2 f hf
    rcases h1 e he with h | h
    · exact .inr ⟨h, f1⟩
    · exact .inl (by rw [f2]; exact h)
 rw [this]
 exact h3
theorem relog_any (ho : S.on = false) (U : St) (l : List LE) (ls : List (List LE)) : ∃ U', relog S (U.lg l) ls = U' ∧ U'.heap = U.heap ∧ U'.next = U.next ∧ U'.on = false := by
 refine ⟨_, rfl, ?_, ?_, ?_⟩ <;> (unfold relog; rw [ho]; rfl)
theorem Grew.same {W : Nat → Prop} {a b c : St} (h : Grew W a b) (h1 : c.heap = b.heap) (h2 : c.next = b.next) (h3 : c.on = b.on) : Grew W a c := ⟨by rw [h2]; exact h.next, h3.trans h.on, fun x hx hw => by rw [h1]; exact h.keep x hx hw⟩
theorem und26 : und E0 26 = some (.slice 9) := by kernel_rfl
theorem size9 : sizeT E0 9 = some 1 := by kernel_rfl
theorem sizeB_row {r e : Nat} {l : List (Tr V)} (h : RowAt S r e 1 l) (L : List LE) : sizeB (S.lg L) r = some (l.length, S.lg (⟨r, big - 1, big, false⟩ :: L)) := by
 obtain ⟨c, h1, _⟩ := h.row
 unfold sizeB
 rw [show (S.lg L).heap.get r = _ from h1]
 simp only [show 1 * l.length = l.length from Nat.one_mul _, blt_true.2 h.len, cond_true]
 rfl
theorem slice_one {v : V} {l : List Bs} {N : Nat} (h : TLo S v l N) {k : Nat} {a : Bs} (ha : l[k]? = some a) : ∃ y L, sliceV E0 26 v (some (.int .i64 (k : Int))) (some (.int .i64 ((k + 1 : Nat) : Int))) none (S.lg []) = some (y, S.lg L) ∧ TL S y [a] ∧ ∀ e ∈ L, e.w = false := by
 obtain ⟨hk, hak⟩ := List.getElem?_eq_some_iff.1 ha
 rcases h with ⟨rfl, _⟩ | ⟨r, rfl, h1, h2, h3, h4⟩
 · cases hk
 · have hb : boundsV l.length l.length (some (.int .i64 (k : Int))) (some (.int .i64 ((k + 1 : Nat) : Int))) none = some (k, k + 1, l.length) := by
    unfold boundsV
    simp only [oB, natOf_cast]
    rw [ble_true.2 (show k + 1 ≤ l.length by omega)]
    simp only [cond_true, oB]
    rw [ble_true.2 (show k ≤ k + 1 by omega)]; rfl
   refine ⟨.oslice r (0 + k * 1) (k + 1 - k) 1, [⟨r, big - 1, big, false⟩], ?_, ?_, fun e he => by cases List.mem_singleton.1 he; rfl⟩
   · unfold sliceV
     rw [und26, oB]
     simp only
     rw [size9, oB, show (Nat.beq 1 1 && Nat.blt 0 1) = true from rfl, cond_true, sizeB_row h1, oB]
     simp only [rowOf_length, Nat.sub_zero, Nat.div_one]
     rw [hb, oB]
     simp only
     rw [blt_true.2 (show k < l.length by omega)]; rfl
   · refine .inr ⟨r, 0 + k * 1, l, h1, h2, by show 0 + k * 1 + 1 ≤ _; omega, ?_, .inl (by show V.oslice r (0 + k * 1) (k + 1 - k) 1 = .oslice r (0 + k * 1) 1 1; rw [show k + 1 - k = 1 by omega])⟩
     rw [Nat.mul_one, Nat.zero_add, List.drop_eq_getElem_cons hk, hak]; rfl
end
end Go.Proofs.Ytginkdeicmdmaaa.W
namespace Go.Proofs.Ytginkdeicmdmaaa.W
open Go.Proofs.Ytginkdeicmdmaaa.Ev Go.RowKit
theorem rd3 {n : Nat} {args : List V} {s : St} {r : En × St} (e : runF E0 (ev E0 KD n) rounds Try.f3 B3 args s = some r) : (ev E0 KD (n + 1)).f 3 args s = some r := ev_read (c := C3) (d := B3) (by kernel_rfl) (by kernel_rfl) (annot_isOf C3 _ (by kernel_rfl)) rfl e
section
variable {S T U : St}
theorem L3_spec {m N : Nat} (ho : S.on = false) {v5 : V} {ps : List Pth} {b : Bool} {l : List Nat} {n : Nat} (hp : PL S v5 ps) (hs : Small ps b l n) (A : Nat) (nk : Ac → St → Rs) (ek : Nat → Ac → St → Rs) :
 ∀ (d i q : Nat) (x : V) (U : St), i + d = n → d < q → Grew (fun _ => False) S U → TLo U x (upTo A i) S.next →
 ∃ x' T, L3_166 (ev E0 KD m) N nk ek q (.int .u16 (A : Int)) v5 x (.int .i64 (i : Int)) U = ek 0 (fr 171 [(5, v5), (6, x')]) T ∧ Grew (fun _ => False) S T ∧ TLo T x' (upTo A n) S.next
 | d, i, 0, x, U, _, hq, _, _ => by omega
 | 0, i, q + 1, x, U, hi, hq, g, ht => by
  refine ⟨x, U, ?_, g, by rw [show n = i by omega]; exact ht⟩
  rw [L3_166_eq, (hp.grew g).len, oB]
  dsimp only
  rw [hs.len, binV_ii, intsV_lss, dec_ge (by omega), oB, ifK_bool, cond_false]
 | d + 1, i, q + 1, x, U, hi, hq, g, ht => by
  have onU := g.on.trans ho
  have hin : i < n := by omega
  have h14 := hs.n14
  obtain ⟨p, p1, p2, p3⟩ := hs.get hin
  have hadd : binV E0 .add 3 false true (.int .i64 (i : Int)) (.int .i64 1) = some (.int .i64 ((i + 1 : Nat) : Int)) := by
   rw [binV_ii, intsV_add, wrap_succ (by omega)]
  rw [L3_166_eq, (hp.grew g).len, oB]
  dsimp only
  rw [hs.len, binV_ii, intsV_lss, dec_lt hin, oB, ifK_bool, cond_true, bit_if (by omega)]
  cases ha : bit A i with
  | false =>
   rw [cond_false, hadd, oB]
   exact L3_spec ho hp hs A nk ek d (i + 1) q x U (by omega) (by omega) g (by rw [upTo_succ, ha, if_neg (by simp), List.append_nil]; exact ht)
  | true =>
   obtain ⟨r, x1, x2⟩ := (hp.grew g).ix p1
   have hnm := PL.name onU p1 x2
   obtain ⟨y0, W, x', X, a1, a2, a3, a4⟩ := ht.push onU g.next (Nat.lt_of_le_of_lt (upTo_len _ _) (by omega)) (ltr i)
   rw [cond_true, x1, oB, faPg, oB, hnm, oB]
   dsimp only
   rw [p2, a1, oB]
   dsimp only
   rw [a2, oB]
   dsimp only
   rw [hadd, oB]
   exact L3_spec ho hp hs A nk ek d (i + 1) q x' X (by omega) (by omega) (Grew.fresh g (Nat.le_refl _) a4) (by rw [upTo_succ A, ha, if_pos rfl]; exact a3)
structure Rowed (S : St) (v : V) (l : List Pth) (b : Nat) : Prop where
 pl : PL S v l
 v : v = .oslice b 0 l.length 4
 row : RowAt S b 28 4 (l.map treeP)
 lt : b < S.next
theorem Rowed.grew {v : V} {l : List Pth} {b : Nat} (h : Rowed S v l b) (g : Grew (fun _ => False) S U) : Rowed U v l b := ⟨h.pl.grew g, h.v, h.row.grew h.lt (fun h => h) g, Nat.lt_of_lt_of_le h.lt g.next⟩
theorem Rowed.ix {v : V} {l : List Pth} {b : Nat} (h : Rowed S v l b) {i : Nat} (hi : i < l.length) : ixP 4 v (.int .i64 (i : Int)) = some (.ptr b (i * 4)) := by
 rw [h.v]
 show (bif Nat.blt i l.length then some (V.ptr b (0 + i * 4)) else none) = _
 rw [blt_true.2 hi, Nat.zero_add]; rfl
theorem rowed_of {v : V} {l : List Pth} {N : Nat} (h : PLo S v l N) (h0 : 0 < l.length) : ∃ b, Rowed S v l b := by
 rcases h.1.1 with ⟨rfl, _⟩ | ⟨r, rfl, h1, h2, h3⟩
 · cases h0
 · exact ⟨r, h.1, rfl, (h.2 r rfl).2, h2⟩
theorem lglg (S : St) (L M : List LE) : (S.lg L).lg M = S.lg M := rfl
theorem ons (S : St) : onS S = S.lg [] := rfl
def anyRch (ps : List Pth) (rl : List Bs) (nm : Bs) : Bool := rl.any fun r => decide (nm ∈ closL ps [r])
theorem L139_spec {d N : Nat} (ho : S.on = false) {v5 v6 v8 v9 v10 v11 v12 : V} {ps : List Pth} {b i : Nat} {p : Pth} {rl : List Bs} {M : Nat} (hp : Rowed S v5 ps b) (hF : Fit ps) (hd : ps.length ≤ d) (hi : ps[i]? = some p) (hv : v11 = .int .i64 (i : Int)) (hr : TLo S v6 rl M) (hrl : rl.length < 1000) (hcl : ∀ f, (closL ps f).length < 1000) (nk : Ac → St → Rs) (ek : Nat → Ac → St → Rs) :
 ∀ (rest : List Bs) (k q : Nat) (x : Bool) (U : St), rl.drop k = rest → rest.length < q → Grew (fun _ => False) S U →
 ∃ T, L3_139 (ev E0 KD (d + 3)) N nk ek q v5 v6 v8 v9 v10 v11 v12 (.bool x) (.int .i64 (k : Int)) U = ek 4 (fr 171 [(5, v5), (6, v6), (8, v8), (9, v9), (10, v10), (11, v11), (12, v12), (13, .bool (x || anyRch ps rest p.nm))]) T ∧ Grew (fun _ => False) S T
 | rest, k, 0, x, U, _, hq, _ => by omega
 | [], k, q + 1, x, U, hk, hq, g => by
  refine ⟨U, ?_, g⟩
  rw [L3_139_eq, (hr.grew g).tl.len, oB]
  dsimp only
  rw [binV_ii, intsV_lss, dec_ge (drop_end hk), oB, ifK_bool, cond_false]
  rw [show anyRch ps [] p.nm = false from rfl, Bool.or_false]
 | r :: rest, k, q + 1, x, U, hk, hq, g => by
  have onU := g.on.trans ho
  obtain ⟨hlt, hf, hrest, _⟩ := drop_at hk
  have hadd : binV E0 .add 3 false true (.int .i64 (k : Int)) (.int .i64 1) = some (.int .i64 ((k + 1 : Nat) : Int)) := by
   rw [binV_ii, intsV_add, wrap_succ (by omega)]
  cases x with
  | true =>
   obtain ⟨T, t1, t2⟩ := L139_spec (N := N) (v8 := v8) (v9 := v9) (v10 := v10) (v12 := v12) ho hp hF hd hi hv hr hrl hcl nk ek rest (k + 1) q true U hrest (by simp at hq; omega) g
   refine ⟨T, ?_, t2⟩
   rw [L3_139_eq, (hr.grew g).tl.len, oB]
   dsimp only
   rw [binV_ii, intsV_lss, dec_lt hlt, oB, ifK_bool, cond_true]
   simp only [gFT, oB, cond_false, callD_ret, pickV_bool, cond_true, ons, lglg]
   rw [endP_of (pairs_one (b := 0) (fun e he => by cases he) (fun e he => by cases he) (pairs_one (b := 0) (fun e he => by cases he) (fun e he => by cases he) rfl)), relog_same onU onU rfl, hadd, oB, t1]
   rfl
  | false =>
   have hpU := hp.grew g
   obtain ⟨y, Ly, y1, y2, y3⟩ := slice_one (hr.grew g) (k := k) (a := r) (by rw [List.getElem?_eq_getElem hlt, hf])
   obtain ⟨w, W, Lw, w1, w2, w3, w4⟩ := closure_on (d := d) onU hpU.pl hpU.v hpU.row hpU.lt hF hd y2 (by show 1 < _; omega)
   have onW := w3.on.trans onU
   have hpW := hpU.grew w3
   have hl1 : ld1 (.ptr b (i * 4 + 0)) (W.lg []) = some (sv p.nm, W.lg [⟨b, i * 4 + 0, i * 4 + 0 + 1, false⟩]) := ld1_lg onW (PL.name onW hi (.of hpW.row)) []
   obtain ⟨Lh, z1, z2⟩ := has_on (d + 2) onW w2.tl (by have := hcl [r]; omega) p.nm
   have hprs : pairsOk [[], [], [], [], [], [], [], (U.lg Ly).log, (W.lg Lw).log, [], [], [], [], (W.lg [⟨b, i * 4 + 0, i * 4 + 0 + 1, false⟩]).log, (W.lg Lh).log, [], []] [(7, [13]), (8, [13])] = true := by
    refine pairs_one (b := b) (fun e he => .inl (y3 e he)) (fun e he => ?_) (pairs_one (b := b) w4 (fun e he => ?_) rfl)
    · have he' : e ∈ [(⟨b, i * 4 + 0, i * 4 + 0 + 1, false⟩ : LE)] := he
      rw [List.mem_singleton.1 he']; exact ⟨rfl, rfl⟩
    · have he' : e ∈ [(⟨b, i * 4 + 0, i * 4 + 0 + 1, false⟩ : LE)] := he
      rw [List.mem_singleton.1 he']; exact ⟨rfl, rfl⟩
   obtain ⟨U', u1, u2, u3, u4⟩ := relog_any onU W [] [[], [], [], [], [], [], [], (U.lg Ly).log, (W.lg Lw).log, [], [], [], [], (W.lg [⟨b, i * 4 + 0, i * 4 + 0 + 1, false⟩]).log, (W.lg Lh).log, [], []]
   have gU' : Grew (fun _ => False) S U' := Grew.same (g.trans w3) u2 u3 (u4.trans onW.symm)
   obtain ⟨T, t1, t2⟩ := L139_spec (N := N) (v8 := v8) (v9 := v9) (v10 := v10) (v12 := v12) ho hp hF hd hi hv hr hrl hcl nk ek rest (k + 1) q (decide (p.nm ∈ closL ps [r])) U' hrest (by simp at hq; omega) gU'
   refine ⟨T, ?_, t2⟩
   have hil : i < ps.length := (List.getElem?_eq_some_iff.1 hi).1
   rw [L3_139_eq, (hr.grew g).tl.len, oB]
   dsimp only
   rw [binV_ii, intsV_lss, dec_lt hlt, oB, ifK_bool, cond_true]
   simp only [gFF, oB, cond_true, hadd, ons, lglg]
   rw [y1, oB]
   simp only [ons, lglg]
   rw [w1, callD_ret, hv, hpW.ix hil, oB, faPg, oB]
   simp only [ons, lglg]
   rw [hl1, oB]
   simp only [ons, lglg]
   rw [z1, callD_ret, pickV_bool, cond_false, oB]
   simp only [ons, lglg]
   rw [endP_of hprs, u1, ← hv, t1]
   rw [show anyRch ps (r :: rest) p.nm = (decide (p.nm ∈ closL ps [r]) || anyRch ps rest p.nm) from rfl, Bool.false_or]
theorem L111_spec {m N : Nat} (ho : S.on = false) {v5 v6 v8 v9 v10 v11 : V} {ps : List Pth} {b i : Nat} {p : Pth} {live : List Bs} (x : Bool) (hp : Rowed S v5 ps b) (hi : ps[i]? = some p) (hv : v11 = .int .i64 (i : Int)) (hl : TL S v8 live) (hll : live.length < 1000) (hrl : p.refs.length < 1000) (hx : x = true → ∀ r ∈ p.refs, r ∈ live) (nk : Ac → St → Rs) (ek : Nat → Ac → St → Rs) :
 ∀ (rest : List Bs) (k q : Nat), p.refs.drop k = rest → rest.length < q →
 L3_111 (ev E0 KD (m + 1)) N nk ek q v5 v6 v8 v9 v10 v11 (.bool x) (.int .i64 (k : Int)) S = ek 6 (fr 171 [(5, v5), (6, v6), (8, v8), (9, v9), (10, v10), (11, v11), (12, .bool x)]) S
 | rest, k, 0, _, hq => by omega
 | rest, k, q + 1, hk, hq => by
  have hil : i < ps.length := (List.getElem?_eq_some_iff.1 hi).1
  have hrv : ld1 (.ptr b (i * 4 + 1)) S = some (p.rv, S) := PL.refs ho hi (.of hp.row)
  have hT := hp.pl.2 p (List.mem_of_getElem? hi)
  rw [L3_111_eq]
  cases x with
  | false =>
   simp only [gTF, oB, cond_false, pickV_bool, ifK_bool]
  | true =>
   simp only [gTT, oB, cond_true]
   rw [hv, hp.ix hil, oB, faPg, oB, hrv, oB]
   dsimp only
   rw [hT.len, oB]
   dsimp only
   rw [binV_ii, intsV_lss]
   cases rest with
   | nil =>
    rw [dec_ge (drop_end hk), oB, pickV_bool, cond_true, oB, ifK_bool, cond_false]
   | cons r rest =>
    obtain ⟨hlt, hf, hrest, hmem⟩ := drop_at hk
    obtain ⟨a, a1, a2⟩ := hT.ld ho (show p.refs[k]? = some r by rw [List.getElem?_eq_getElem hlt, hf])
    rw [dec_lt hlt, oB, pickV_bool, cond_true, oB, ifK_bool, cond_true, oB, faPg, oB, hrv, oB]
    dsimp only
    rw [a1, oB, a2, oB]
    dsimp only
    rw [has_run m ho hl (by omega), callP_ret, decide_eq_true (hx rfl r hmem), unV_not, oB, Bool.not_true, ifK_bool, cond_false, binV_ii, intsV_add, wrap_succ (by omega), oB, ← hv]
    exact L111_spec ho true hp hi hv hl hll hrl hx nk ek rest (k + 1) q hrest (by simp at hq; omega)
end
end Go.Proofs.Ytginkdeicmdmaaa.W
namespace Go.Proofs.Ytginkdeicmdmaaa.W
open Go.Proofs.Ytginkdeicmdmaaa.Ev Go.RowKit
theorem lkP_nd {p : Pth} : ∀ {l : List Pth}, (W.names l).Nodup → p ∈ l → lkP p.nm l = some p
 | [], _, h => by cases h
 | q :: l, hn, h => by
  have hn' : (q.nm :: W.names l).Nodup := hn
  rw [List.nodup_cons] at hn'
  unfold lkP
  rcases List.mem_cons.1 h with rfl | h
  · rw [if_pos rfl]
  · rw [if_neg (fun e => hn'.1 (by rw [← e]; exact mem_names.2 ⟨p, h, rfl⟩))]
    exact lkP_nd hn'.2 h
section
variable {ps : List Pth} {b : Bool} {l : List Nat} {n : Nat}
theorem anyRch_eq (h : Small ps b l n) (rl : List Bs) (nm : Bs) : anyRch ps rl nm = decide (nm ∈ closL ps rl) := by
 rw [Bool.eq_iff_iff, decide_eq_true_eq, mem_closL, rch_one]
 unfold anyRch
 rw [List.any_eq_true]
 simp only [decide_eq_true_eq, mem_closL]
theorem dead_eq (h : Small ps b l n) (rl : List Bs) {p : Pth} (hp : p ∈ ps) : decide (p.nm ∈ deadL ps rl) = !decide (p.nm ∈ closL ps rl) := by
 have hn : p.nm ∈ W.names (refsOf ps) := by rw [h.refs]; exact mem_names.2 ⟨p, hp, rfl⟩
 rw [Bool.eq_iff_iff, decide_eq_true_eq, mem_deadL, ← mem_closL]
 simp [hn]
theorem root_in (h : Small ps b l n) {rl : List Bs} {p : Pth} (hp : p ∈ ps) (hr : p.nm ∈ rl) : p.nm ∈ closL ps rl :=
 mem_closL.2 (.root hr (by rw [h.refs]; exact mem_names.2 ⟨p, hp, rfl⟩))
theorem ref_in (h : Small ps b l n) {rl : List Bs} {p : Pth} (hp : p ∈ ps) (hl : p.nm ∈ closL ps rl) {r : Bs} (hr : r ∈ p.refs) : r ∈ closL ps rl := by
 rw [mem_closL] at hl ⊢
 refine .step hl (q := p) ?_ hr (by rw [h.refs]; exact h.closed hp hr)
 rw [h.refs]
 exact lkP_nd h.nd hp
def liveB (ps : List Pth) (rl : List Bs) (p : Pth) : Bool := decide (p.nm ∈ closL ps rl)
theorem lkP_filter (f : Pth → Bool) {a : Bs} {q : Pth} : ∀ {l : List Pth}, lkP a l = some q → f q = true → lkP a (l.filter f) = some q
 | [], h, _ => by cases h
 | p :: l, h, hf => by
  unfold lkP at h
  by_cases hc : a = p.nm
  · rw [if_pos hc] at h
    cases h
    rw [List.filter_cons_of_pos hf]
    unfold lkP
    rw [if_pos hc]
  · rw [if_neg hc] at h
    have ih := lkP_filter f h hf
    by_cases hp : f p = true
    · rw [List.filter_cons_of_pos hp]
      unfold lkP
      rw [if_neg hc]; exact ih
    · rw [List.filter_cons_of_neg hp]; exact ih
theorem rest_nd (h : Small ps b l n) (f : Pth → Bool) : (W.names (ps.filter f)).Nodup := by
 unfold W.names
 exact (List.Sublist.map _ List.filter_sublist).nodup h.nd
theorem rest_names (h : Small ps b l n) {rl : List Bs} {a : Bs} (ha : a ∈ closL ps rl) : a ∈ W.names (ps.filter (liveB ps rl)) := by
 have hm := (mem_closL.1 ha).mem
 rw [h.refs] at hm
 obtain ⟨p, hp, rfl⟩ := mem_names.1 hm
 exact mem_names.2 ⟨p, List.mem_filter.2 ⟨hp, by unfold liveB; exact decide_eq_true ha⟩, rfl⟩
theorem rest_closed (h : Small ps b l n) (rl : List Bs) : closedB (refsOf (ps.filter (liveB ps rl))) = true := by
 rw [refsOf_id (rest_nd h _)]
 unfold closedB
 rw [List.all_eq_true]
 intro p hp
 rw [List.all_eq_true]
 intro r hr
 obtain ⟨h1, h2⟩ := List.mem_filter.1 hp
 exact decide_eq_true (rest_names h (ref_in h h1 (by unfold liveB at h2; exact of_decide_eq_true h2) hr))
theorem rest_rch (h : Small ps b l n) {rl : List Bs} {a : Bs} (ha : Rch ps rl a) : Rch (ps.filter (liveB ps rl)) rl a := by
 have hcl : ∀ {a}, Rch ps rl a → a ∈ W.names (ps.filter (liveB ps rl)) := fun ha => rest_names h (mem_closL.2 (by rw [h.refs]; exact ha))
 induction ha with
 | root h1 h2 => exact .root h1 (hcl (.root h1 h2))
 | step h1 hq hr hn ih =>
  refine .step ih (lkP_filter _ hq ?_) hr (hcl (.step h1 hq hr hn))
  unfold liveB
  refine decide_eq_true (mem_closL.2 ?_)
  rw [h.refs, (lkP_mem hq).2]
  exact h1
theorem rest_dead (h : Small ps b l n) (rl : List Bs) : deadL (ps.filter (liveB ps rl)) rl = [] := by
 rw [List.eq_nil_iff_forall_not_mem]
 intro a ha
 obtain ⟨h1, h2⟩ := mem_deadL.1 ha
 rw [refsOf_id (rest_nd h _)] at h1 h2
 obtain ⟨p, hp, rfl⟩ := mem_names.1 h1
 refine h2 (rest_rch h ?_)
 have := of_decide_eq_true (List.mem_filter.1 hp).2
 rw [mem_closL, h.refs] at this
 exact this
theorem small_closed (h : Small ps b l n) : closedB (refsOf ps) = true := by
 rw [h.refs]
 unfold closedB
 rw [List.all_eq_true]
 intro p hp
 rw [List.all_eq_true]
 intro r hr
 exact decide_eq_true (h.closed hp hr)
theorem clos_clos (l : List Pth) (f : List Bs) : closL l (closL l f) = closL l f := closL_ext fun a => rch_clos
theorem Fit.filter (h : Fit ps) (f : Pth → Bool) : Fit (ps.filter f) :=
 ⟨Nat.lt_of_le_of_lt (List.length_filter_le _ _) h.len, fun p hp => h.nm p (List.mem_filter.1 hp).1, fun p hp => h.refs p (List.mem_filter.1 hp).1⟩
end
section
variable {S T U : St}
theorem proj6 (nk : Ac → St → Rs) (v5 v6 v8 v9 v10 v11 : V) (S : St) : projK [5, 6, 8, 9, 10, 11] (fr 171 [(5, v5), (6, v6), (8, v8), (9, v9), (10, v10), (11, v11)]) (fun a => nk a S) = nk (fr 171 [(5, v5), (6, v6), (8, v8), (9, v9), (10, v10), (11, v11)]) S := by kernel_rfl
theorem R71_cond {self : EV} {S : St} {v5 v6 v9 v11 : V} {b o : Nat} {nm : Bs} {x y : Bool} (hix : ixP 4 v5 v11 = some (.ptr b o)) (hnm : ld1 (.ptr b (o + 0)) S = some (sv nm, S)) (h9 : self.f 13 [v9, sv nm] S = some (.ret (.bool (!x)), S)) (h6 : self.f 13 [v6, sv nm] S = some (.ret (.bool y), S)) (hy : y = true → x = true) (K : St → Rs) :
((ixP 4 v5 v11).bind fun t76 =>
(faP 0 false 1 t76).bind fun t77 =>
(ld1 t77 S).bind fun p78 =>
callP (self.f 13 [v9, p78.1] p78.2) fun t79 S79 =>
(binV E0 .eql 4 false false (.bool x) t79).bind fun t80 =>
(guardV false t80).bind fun g82 => (bif g82 then some (.bool x) else some (.tuple [])).bind fun t82 =>
(guardV false t80).bind fun g83 => (bif g83 then some (.bool x) else some (.tuple [])).bind fun t83 =>
(guardV false t80).bind fun g84 => (bif g84 then binV E0 .neq 4 false false t82 t83 else some (.tuple [])).bind fun t84 =>
(pickV t80 (some (.bool true)) (some t84)).bind fun t85 =>
(guardV false t85).bind fun g87 => (bif g87 then some v6 else some (.tuple [])).bind fun t87 =>
(guardV false t85).bind fun g88 => (bif g88 then some v5 else some (.tuple [])).bind fun t88 =>
(guardV false t85).bind fun g89 => (bif g89 then some v11 else some (.tuple [])).bind fun t89 =>
(guardV false t85).bind fun g90 => (bif g90 then ixP 4 t88 t89 else some (.tuple [])).bind fun t90 =>
(guardV false t85).bind fun g91 => (bif g91 then faP 0 false 1 t90 else some (.tuple [])).bind fun t91 =>
(guardV false t85).bind fun g92 => (bif g92 then ld1 t91 S79 else some (.tuple [], S79)).bind fun p92 =>
(guardV false t85).bind fun g93 => callP (bif g93 then self.f 13 [t87, p92.1] p92.2 else some (.ret (.tuple []), p92.2)) fun t93 S93 =>
(guardV false t85).bind fun g94 => (bif g94 then some t93 else some (.tuple [])).bind fun t94 =>
(guardV true t94).bind fun g95 => (bif g95 then some (.bool x) else some (.tuple [])).bind fun t95 =>
(guardV true t94).bind fun g96 => (bif g96 then unV .not t95 else some (.tuple [])).bind fun t96 =>
(guardV false t85).bind fun g97 => (bif g97 then pickV t94 (some t96) (some (.bool false)) else some (.tuple [])).bind fun t97 =>
(pickV t85 (some (.bool true)) (some t97)).bind fun t98 =>
ifK t98 (
some (.ret (.bool false), S93)) (
K S93)) = K S := by
 rw [hix, oB, faPg, oB, hnm, oB]
 dsimp only
 rw [h9, callP_ret, eqBool, oB]
 rw [show (x == !x) = false from by cases x <;> rfl]
 simp only [gFF, oB, cond_true, neBool, pickV_bool, cond_false]
 rw [show (x != x) = false from by cases x <;> rfl]
 simp only [gFF, oB, cond_true]
 rw [hix, oB, faPg, oB, hnm, oB]
 dsimp only
 rw [h6, callP_ret]
 cases y with
 | true =>
  rw [hy rfl]
  simp only [gTT, oB, cond_true, unV_not, Bool.not_true, pickV_bool, cond_false, ifK_bool]
 | false =>
  simp only [gTF, oB, cond_false, pickV_bool, ifK_bool]
theorem R71_spec {d : Nat} (ho : S.on = false) {v5 v6 v8 v9 v10 : V} {ps restP : List Pth} {bb : Bool} {l : List Nat} {n b i : Nat} {p : Pth} {rl : List Bs} {M N0 : Nat} (hs : Small ps bb l n) (hp : Rowed S v5 ps b) (hi : ps[i]? = some p) (hr : TLo S v6 rl M) (hrl : rl.length < 1000) (hl : TL S v8 (closL ps rl)) (hd : TL S v9 (deadL ps rl)) (hdl : (deadL ps rl).length < 1000) (hcl : (closL ps rl).length < 1000) (hq : PLo S v10 restP N0) (hN : N0 ≤ S.next) (hql : restP.length ≤ 100) (nk : Ac → St → Rs) (ek : Nat → Ac → St → Rs) :
 ∃ v10' U, R3_71 (ev E0 KD (d + 3)) rounds nk ek (fr 171 [(5, v5), (6, v6), (8, v8), (9, v9), (10, v10), (11, .int .i64 (i : Int)), (12, .bool (decide (p.nm ∈ closL ps rl))), (13, .bool (decide (p.nm ∈ closL ps rl)))]) S =
  nk (fr 171 [(5, v5), (6, v6), (8, v8), (9, v9), (10, v10'), (11, .int .i64 (i : Int))]) U ∧ Grew (fun x => N0 ≤ x) S U ∧ PLo U v10' (restP ++ (if liveB ps rl p then [p] else [])) N0 := by
 have hil : i < ps.length := (List.getElem?_eq_some_iff.1 hi).1
 have hpm := List.mem_of_getElem? hi
 have hnm : ld1 (.ptr b (i * 4 + 0)) S = some (sv p.nm, S) := PL.name ho hi (.of hp.row)
 have hrefl := hs.fit.refs p hpm
 have h111 := L111_spec (m := d + 2) (N := rounds) (v6 := v6) (v9 := v9) (v10 := v10) (v11 := .int .i64 (i : Int)) ho (decide (p.nm ∈ closL ps rl)) hp hi rfl hl hcl hrefl (fun hx r hr => ref_in hs hpm (of_decide_eq_true hx) hr) (R3_100 (ev E0 KD (d + 3)) rounds (fun a s => projK [5, 6, 8, 9, 10, 11] a fun a => nk a s) ek) (exB 6 (R3_100 (ev E0 KD (d + 3)) rounds (fun a s => projK [5, 6, 8, 9, 10, 11] a fun a => nk a s) ek) ek) p.refs 0 rounds rfl (by unfold rounds; omega)
 have hmain : R3_71 (ev E0 KD (d + 3)) rounds nk ek (fr 171 [(5, v5), (6, v6), (8, v8), (9, v9), (10, v10), (11, .int .i64 (i : Int)), (12, .bool (decide (p.nm ∈ closL ps rl))), (13, .bool (decide (p.nm ∈ closL ps rl)))]) S =
  R3_100 (ev E0 KD (d + 3)) rounds (fun a s => projK [5, 6, 8, 9, 10, 11] a fun a => nk a s) ek (fr 171 [(5, v5), (6, v6), (8, v8), (9, v9), (10, v10), (11, .int .i64 (i : Int)), (12, .bool (decide (p.nm ∈ closL ps rl)))]) S := by
  rw [R3_71_eq]
  refine (R71_cond (x := decide (p.nm ∈ closL ps rl)) (y := decide (p.nm ∈ rl)) (hp.ix hil) hnm (by rw [has_run (d + 2) ho hd (by omega), dead_eq hs rl hpm]) (has_run (d + 2) ho hr.tl (by omega) p.nm) (fun h => decide_eq_true (root_in hs hpm (of_decide_eq_true h))) _).trans ?_
  rw [show (V.int .i64 0) = .int .i64 ((0 : Nat) : Int) from rfl]
  exact h111.trans (exB_same _ _ _ _)
 rw [hmain, R3_100_eq, ifK_bool]
 by_cases hx : p.nm ∈ closL ps rl
 · rw [decide_eq_true hx, cond_true]
   have hlv : liveB ps rl p = true := decide_eq_true hx
   obtain ⟨y, W, v', U, a1, a2, a3, a4⟩ := hq.push ho hN (by omega) (p := p) (hp.pl.2 p hpm)
   refine ⟨v', U, ?_, a4.mono fun z _ h => (hq.2 z h).1, by rw [hlv, if_pos rfl]; exact a3⟩
   rw [hp.ix hil, oB, PL.all ho hi (.of hp.row), oB]
   dsimp only
   rw [a1, oB]
   dsimp only
   rw [a2, oB]
   dsimp only
   rw [proj6]
 · rw [decide_eq_false hx, cond_false]
   have hlv : liveB ps rl p = false := decide_eq_false hx
   refine ⟨v10, S, ?_, Grew.refl _ _, by rw [hlv, if_neg (by simp), List.append_nil]; exact hq⟩
   rw [proj6]
theorem L53_spec {d : Nat} (ho : S.on = false) {v5 v6 v8 v9 : V} {ps : List Pth} {bb : Bool} {l : List Nat} {n b : Nat} {rl : List Bs} {M : Nat} (hs : Small ps bb l n) (hd' : ps.length ≤ d) (hp : Rowed S v5 ps b) (hr : TLo S v6 rl M) (hrl : rl.length < 1000) (hl : TL S v8 (closL ps rl)) (hd : TL S v9 (deadL ps rl)) (hdl : (deadL ps rl).length < 1000) (hcl : ∀ f, (closL ps f).length < 1000) (nk : Ac → St → Rs) (ek : Nat → Ac → St → Rs) :
 ∀ (k i q : Nat) (v10 : V) (U : St), i + k = n → k < q → Grew (fun _ => False) S U → PLo U v10 ((ps.take i).filter (liveB ps rl)) S.next →
 ∃ v10' T, L3_53 (ev E0 KD (d + 3)) rounds nk ek q v5 v6 v8 v9 v10 (.int .i64 (i : Int)) U = ek 2 (fr 171 [(6, v6), (10, v10')]) T ∧ Grew (fun _ => False) S T ∧ PLo T v10' (ps.filter (liveB ps rl)) S.next
 | k, i, 0, v10, U, _, hq, _, _ => by omega
 | 0, i, q + 1, v10, U, hi, hq, g, hw => by
  have hlen := hs.len
  refine ⟨v10, U, ?_, g, by rw [List.take_of_length_le (by omega)] at hw; exact hw⟩
  rw [L3_53_eq, (hp.pl.grew g).len, oB]
  dsimp only
  rw [binV_ii, intsV_lss, dec_ge (by omega), oB, ifK_bool, cond_false]
 | k + 1, i, q + 1, v10, U, hi, hq, g, hw => by
  have onU := g.on.trans ho
  have hlen := hs.len
  have h14 := hs.n14
  have hil : i < ps.length := by omega
  have hpi : ps[i]? = some ps[i] := List.getElem?_eq_getElem hil
  have hpU := hp.grew g
  have hnm : ld1 (.ptr b (i * 4 + 0)) U = some (sv ps[i].nm, U) := PL.name onU hpi (.of hpU.row)
  have hpm := List.getElem_mem hil
  obtain ⟨T, t1, t2⟩ := L139_spec (d := d) (N := rounds) (v8 := v8) (v9 := v9) (v10 := v10) (v11 := .int .i64 (i : Int)) (v12 := .bool (decide (ps[i].nm ∈ closL ps rl))) onU hpU hs.fit hd' hpi rfl (hr.grew g) hrl hcl
   (R3_71 (ev E0 KD (d + 3)) rounds (R3_58 (ev E0 KD (d + 3)) rounds (N3_53 (ev E0 KD (d + 3)) rounds nk ek q) ek) (exB 3 (R3_58 (ev E0 KD (d + 3)) rounds (N3_53 (ev E0 KD (d + 3)) rounds nk ek q) ek) ek))
   (exB 4 (R3_71 (ev E0 KD (d + 3)) rounds (R3_58 (ev E0 KD (d + 3)) rounds (N3_53 (ev E0 KD (d + 3)) rounds nk ek q) ek) (exB 3 (R3_58 (ev E0 KD (d + 3)) rounds (N3_53 (ev E0 KD (d + 3)) rounds nk ek q) ek) ek)) (exB 3 (R3_58 (ev E0 KD (d + 3)) rounds (N3_53 (ev E0 KD (d + 3)) rounds nk ek q) ek) ek))
   rl 0 rounds false U rfl (by unfold rounds; omega) (Grew.refl _ _)
  have onT := t2.on.trans onU
  have gT := g.trans t2
  have hwl : ((ps.take i).filter (liveB ps rl)).length ≤ 100 := Nat.le_trans (List.length_filter_le _ _) (by rw [List.length_take]; omega)
  obtain ⟨v10', X, x1, x2, x3⟩ := R71_spec (d := d) onT hs (hp.grew gT) hpi (hr.grew gT) hrl (hl.grew0 gT) (hd.grew0 gT) hdl (hcl rl) (hw.grew t2) gT.next hwl
   (R3_58 (ev E0 KD (d + 3)) rounds (N3_53 (ev E0 KD (d + 3)) rounds nk ek q) ek) (exB 3 (R3_58 (ev E0 KD (d + 3)) rounds (N3_53 (ev E0 KD (d + 3)) rounds nk ek q) ek) ek)
  obtain ⟨v, Y, y1, y2, y3⟩ := L53_spec ho hs hd' hp hr hrl hl hd hdl hcl nk ek k (i + 1) q v10' X (by omega) (by omega) (Grew.fresh gT (Nat.le_refl _) x2) (by
   rw [take_push hil, filter_push]; exact x3)
  refine ⟨v, Y, ?_, y2, y3⟩
  rw [L3_53_eq, (hp.pl.grew g).len, oB]
  dsimp only
  rw [binV_ii, intsV_lss, dec_lt hil, oB, ifK_bool, cond_true, hpU.ix hil, oB, faPg, oB, hnm, oB]
  dsimp only
  rw [has_run (d + 2) onU (hl.grew0 g) (by have := hcl rl; omega), callP_ret, show (V.int .i64 0) = .int .i64 ((0 : Nat) : Int) from rfl, t1, exB_same, Bool.false_or, anyRch_eq hs, x1, R3_58_eq, binV_ii, intsV_add, wrap_succ (by omega), oB, N3_53_eq]
  exact y1
end
end Go.Proofs.Ytginkdeicmdmaaa.W
namespace Go.Proofs.Ytginkdeicmdmaaa.W
open Go.Proofs.Ytginkdeicmdmaaa.Ev Go.RowKit
section
variable {S T U : St}
theorem R5_cond {self : EV} {S S25 S33 : St} {v5 t8 t11 t25' : V} {a c n : Nat} {x : Bs} (h15 : ∀ U, lnS t8 U = some (.int .i64 (a : Int), U)) (h17 : ∀ U, lnS t11 U = some (.int .i64 (c : Int), U)) (h20 : ∀ U, lnS v5 U = some (.int .i64 (n : Int), U)) (hs : a + c = n) (hn : n < 1000000)
 (h9 : self.f 9 [v5, t8] S = some (.ret t25', S25)) (h11 : self.f 11 [t25'] S25 = some (.ret (sv x), S25)) (h11' : self.f 11 [t8] S25 = some (.ret (sv x), S25)) (h12 : self.f 12 [v5] S25 = some (.ret (.bool true), S33)) (K : St → Rs) :
((lnS t8 S).bind fun p15 =>
(lnS t11 p15.2).bind fun p17 =>
(binV E0 .add 3 false false p15.1 p17.1).bind fun t18 =>
(lnS v5 p17.2).bind fun p20 =>
(binV E0 .neq 3 false false t18 p20.1).bind fun t21 =>
(guardV false t21).bind fun g23 => (bif g23 then some v5 else some (.tuple [])).bind fun t23 =>
(guardV false t21).bind fun g24 => (bif g24 then some t8 else some (.tuple [])).bind fun t24 =>
(guardV false t21).bind fun g25 => callP (bif g25 then self.f 9 [t23, t24] p20.2 else some (.ret (.tuple []), p20.2)) fun t25 S25 =>
(guardV false t21).bind fun g26 => callP (bif g26 then self.f 11 [t25] S25 else some (.ret (.tuple []), S25)) fun t26 S26 =>
(guardV false t21).bind fun g27 => (bif g27 then some t8 else some (.tuple [])).bind fun t27 =>
(guardV false t21).bind fun g28 => callP (bif g28 then self.f 11 [t27] S26 else some (.ret (.tuple []), S26)) fun t28 S28 =>
(guardV false t21).bind fun g29 => (bif g29 then binV E0 .neq 9 false false t26 t28 else some (.tuple [])).bind fun t29 =>
(pickV t21 (some (.bool true)) (some t29)).bind fun t30 =>
(guardV false t30).bind fun g32 => (bif g32 then some v5 else some (.tuple [])).bind fun t32 =>
(guardV false t30).bind fun g33 => callP (bif g33 then self.f 12 [t32] S28 else some (.ret (.tuple []), S28)) fun t33 S33 =>
(guardV false t30).bind fun g34 => (bif g34 then unV .not t33 else some (.tuple [])).bind fun t34 =>
(pickV t30 (some (.bool true)) (some t34)).bind fun t35 =>
ifK t35 (
some (.ret (.bool false), S33)) (
K S33)) = K S33 := by
 have hadd : binV E0 .add 3 false false (.int .i64 (a : Int)) (.int .i64 (c : Int)) = some (.int .i64 (n : Int)) := by
  rw [binV_ii, intsV_add, wrap_i64 (by omega) (by omega)]
  congr 2; omega
 rw [h15, oB]
 dsimp only
 rw [h17, oB]
 dsimp only
 rw [hadd, oB, h20, oB]
 dsimp only
 rw [neqInt, oB, decide_eq_true rfl, Bool.not_true]
 simp only [gFF, oB, cond_true]
 rw [h9, callP_ret, h11, callP_ret]
 try simp only [gFF, oB, cond_true]
 rw [h11', callP_ret, neStr, beq_self_eq_true, Bool.not_true]
 simp only [gFF, oB, cond_true, pickV_bool, cond_false]
 rw [h12, callP_ret]
 simp only [unV_not, Bool.not_true, oB, pickV_bool, cond_false, ifK_bool]
theorem R38_spec {d : Nat} (ho : S.on = false) {v6 v10 : V} {ps : List Pth} {bb : Bool} {l : List Nat} {n : Nat} {rl : List Bs} {M : Nat} (hs : Small ps bb l n) (hr : TLo S v6 rl M) (hrl : rl.length < 1000) (hp : PL S v10 (ps.filter (liveB ps rl))) (hd : ps.length ≤ d) (nk : Ac → St → Rs) (ek : Nat → Ac → St → Rs) :
 ∃ U, R3_38 (ev E0 KD (d + 3)) rounds nk ek (fr 171 [(6, v6), (10, v10)]) S = some (.ret (.bool true), U) := by
 have hF := hs.fit.filter (liveB ps rl)
 have hfl : (ps.filter (liveB ps rl)).length ≤ d := Nat.le_trans (List.length_filter_le _ _) hd
 obtain ⟨A, a1, a2⟩ := closed_run (d + 2) ho hp hF
 rw [rest_closed hs] at a1
 have onA := a2.on.trans ho
 obtain ⟨w, B, b1, b2, b3⟩ := dead_run (d := d) onA (hp.grew a2) hF hfl (hr.tl.grew0 a2) (by omega)
 rw [rest_dead hs] at b2
 refine ⟨B, ?_⟩
 rw [R3_38_eq, a1, callP_ret]
 simp only [gTT, oB, cond_true]
 rw [b1, callP_ret, b2.tl.len, oB]
 dsimp only
 rw [show binV E0 .eql 3 false true (.int .i64 (([] : List Bs).length : Int)) (.int .i64 0) = some (.bool true) from eq30, oB, pickV_bool, cond_true, oB]
 simp only [gTT, oB, cond_true]
 rw [works_run, callP_ret, pickV_bool, cond_true, oB]
theorem live_run (ho : S.on = false) {v0 : V} {l : List Nat} (hl : U16V v0 l) (A : Nat) : ∃ U, (ev E0 KD 24).f 3 [v0, .int .u16 (A : Int)] S = some (.ret (.bool true), U) := by
 obtain ⟨v2, X, ps, a1, a2, a3, a4⟩ := small_run 22 ho hl false
 have onX := a2.on.trans ho
 have hs : Small ps false l (min l.length 14) := ⟨a4, by omega⟩
 have hlen := hs.len
 have hp := a3.1
 obtain ⟨x, Y, b1, b2, b3⟩ := L3_spec (m := 23) (N := rounds) onX hp hs A (R3_5 (ev E0 KD 23) rounds (finN E0 (ev E0 KD 23) Try.f3) noEx) (exB 0 (R3_5 (ev E0 KD 23) rounds (finN E0 (ev E0 KD 23) Try.f3) noEx) noEx) (min l.length 14) 0 rounds .nilslice X (Nat.zero_add _) (by unfold rounds; omega) (Grew.refl _ _) .nil
 have onY := b2.on.trans onX
 have hpY := hp.grew b2
 have hxl : (upTo A (min l.length 14)).length ≤ min l.length 14 := upTo_len _ _
 obtain ⟨w1, Z1, c1, c2, c3⟩ := closure_run (d := 20) onY hpY hs.fit (by omega) b3.tl (by omega)
 have on1 := c3.on.trans onY
 obtain ⟨w2, Z2, d1, d2, d3⟩ := dead_run (d := 20) on1 (hpY.grew c3) hs.fit (by omega) (b3.tl.grew0 c3) (by omega)
 have on2 := d3.on.trans on1
 have g2 := c3.trans d3
 have hcl : ∀ f, (closL ps f).length < 1000 := fun f => by have := closL_len ps f; omega
 have hsum := clos_dead_len ps (upTo A (min l.length 14))
 rw [hs.refs] at hsum
 have hdl : (deadL ps (upTo A (min l.length 14))).length < 1000 := by omega
 obtain ⟨w3, Z3, e1, e2, e3⟩ := closure_run (d := 20) on2 (hpY.grew g2) hs.fit (by omega) (c2.tl.grew0 d3) (by have := hcl (upTo A (min l.length 14)); omega)
 have on3 := e3.on.trans on2
 have g3 := g2.trans e3
 rw [clos_clos] at e2
 have bnd : (saidL (closL ps (upTo A (min l.length 14)))).length < 1000000 := by
  have := saidL_len (closL_short (f := upTo A (min l.length 14)) hs.short)
  have := closL_len ps (upTo A (min l.length 14))
  omega
 have s1 := said_run 22 on3 e2.tl (by have := hcl (upTo A (min l.length 14)); omega) bnd
 have s2 := said_run 22 on3 ((c2.tl.grew0 d3).grew0 e3) (by have := hcl (upTo A (min l.length 14)); omega) bnd
 obtain ⟨Z4, f1, f2⟩ := closed_run 22 on3 (hpY.grew g3) hs.fit
 rw [small_closed hs] at f1
 have on4 := f2.on.trans on3
 have g4 := g3.trans f2
 have hcond := R5_cond (self := ev E0 KD 23) (fun U => c2.tl.len U) (fun U => d2.tl.len U) (fun U => hp.len U) hsum (by omega) e1 s1 s2 f1
 have hL8 : TL Z4 w1 (closL ps (upTo A (min l.length 14))) := ((c2.tl.grew0 d3).grew0 e3).grew0 f2
 have hD11 : TL Z4 w2 (deadL ps (upTo A (min l.length 14))) := (d2.tl.grew0 e3).grew0 f2
 have hend : ∃ v T, L3_53 (ev E0 KD 23) rounds (R3_38 (ev E0 KD 23) rounds (fun a s => projK [4] a fun a => finN E0 (ev E0 KD 23) Try.f3 a s) noEx) (exB 2 (R3_38 (ev E0 KD 23) rounds (fun a s => projK [4] a fun a => finN E0 (ev E0 KD 23) Try.f3 a s) noEx) noEx) rounds v2 x w1 w2 .nilslice (.int .i64 ((0 : Nat) : Int)) Z4 = exB 2 (R3_38 (ev E0 KD 23) rounds (fun a s => projK [4] a fun a => finN E0 (ev E0 KD 23) Try.f3 a s) noEx) noEx 2 (fr 171 [(6, x), (10, v)]) T ∧ Grew (fun _ => False) Z4 T ∧ PL T v (ps.filter (liveB ps (upTo A (min l.length 14)))) := by
  rcases Nat.eq_zero_or_pos ps.length with h0 | h0
  · have hps : ps = [] := List.eq_nil_of_length_eq_zero h0
    refine ⟨.nilslice, Z4, ?_, Grew.refl _ _, by rw [hps]; exact .nil⟩
    show L3_53 (ev E0 KD 23) rounds _ _ (rounds - 1 + 1) _ _ _ _ _ _ _ = _
    rw [L3_53_eq, hp.len, oB]
    dsimp only
    rw [binV_ii, intsV_lss, dec_ge (by omega), oB, ifK_bool, cond_false]
  · obtain ⟨b, hb⟩ := rowed_of a3 h0
    obtain ⟨v, T, t1, t2, t3⟩ := L53_spec (d := 20) on4 hs (by omega) (hb.grew (b2.trans g4)) (b3.grew g4) (by omega) hL8 hD11 hdl hcl (R3_38 (ev E0 KD 23) rounds (fun a s => projK [4] a fun a => finN E0 (ev E0 KD 23) Try.f3 a s) noEx) (exB 2 (R3_38 (ev E0 KD 23) rounds (fun a s => projK [4] a fun a => finN E0 (ev E0 KD 23) Try.f3 a s) noEx) noEx) (min l.length 14) 0 rounds .nilslice Z4 (Nat.zero_add _) (by unfold rounds; omega) (Grew.refl _ _) .nil
    exact ⟨v, T, t1, t2, t3.1⟩
 obtain ⟨v, T, t1, t2, t3⟩ := hend
 obtain ⟨E, z1⟩ := R38_spec (d := 20) (t2.on.trans on4) hs ((b3.grew g4).grew t2) (by omega) t3 (by omega) (fun a s => projK [4] a fun a => finN E0 (ev E0 KD 23) Try.f3 a s) noEx
 refine ⟨E, rd3 ?_⟩
 show F3 (ev E0 KD 23) rounds v0 (.int .u16 (A : Int)) S = _
 rw [F3_eq, a1, callP_ret, show (V.int .i64 0) = .int .i64 ((0 : Nat) : Int) from rfl, b1, exB_same, R3_5_eq, c1, callP_ret, d1, callP_ret]
 refine (hcond _).trans ?_
 rw [show (V.int .i64 0) = .int .i64 ((0 : Nat) : Int) from rfl, t1, exB_same]
 exact z1
end
theorem live_calls (W : World) {v0 : V} {cv : Value} {l : List Nat} (hv : VRel (frz W) v0 cv) (h : U16V v0 l) (A : Nat) : Calls Try.prog 3 #[cv, .int .u16 (A : Int)] W fun e w' => e = .returned (.bool true) ∧ Below W.heap.size W w' := by
 obtain ⟨U, hl⟩ := live_run (S := s0) rfl h A
 refine ((ev_sim E0_ok okD 24).call (base0 W) _ s0 W 3 [v0, .int .u16 (A : Int)] #[cv, .int .u16 (A : Int)] _ U (relF W) (.cons hv (.cons (.int _ _) .nil)) hl).mono fun ce w' hce => ?_
 obtain ⟨ρ', cv, rfl, _, hv, hR⟩ := hce
 cases hv
 exact ⟨rfl, below_of_rel hR⟩
end Go.Proofs.Ytginkdeicmdmaaa.W
