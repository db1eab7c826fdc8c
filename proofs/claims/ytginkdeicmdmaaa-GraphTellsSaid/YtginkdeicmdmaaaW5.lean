/-
  WHAT THE FUNCTIONS COME TO: each is read by the evaluator, printed, and told as a function of data, part 5 of 7 (no condition).
-/
import Derived.Test.YtginkdeicmdmaaaW4
namespace Go.Proofs.Ytginkdeicmdmaaa.W
open Go.Proofs.Ytginkdeicmdmaaa.Ev Go.RowKit
section
variable {F : Fz.Fz}
theorem kfSorted_fz (kfs : List FuncId) (et : TypeId) (args : List V) : Fz.LocP F fun s => (kfSorted kfs et).run args s := by
 unfold kfSorted
 dsimp only
 split
 · refine Fz.Loc.cond ?_ Fz.Loc.none
   refine Fz.Loc.bind (Fz.loc_ld _ _) fun m => ?_
   unfold sortedK
   cases m <;> try exact Fz.Loc.none
   case nilmap => exact Fz.LocP.ret _
   case map r =>
    refine Fz.Loc.bindGet r (fun _ _ _ _ _ _ => rfl) fun hb o => ?_
    cases o <;> try exact Fz.Loc.none
    refine Fz.Loc.opt fun l => ?_
    cases l with
    | nil => exact Fz.LocP.ret _
    | cons x l => exact Fz.LocP.nw (fun k => En.ret (V.oslice k 0 (l.length + 1) 1)) fun _ => _
 · exact Fz.Loc.none
theorem fz_lookAll (es : List ME) (v : V) : ∀ (k i : Nat), Fz.LocP F fun s => lookAll es v k i s
 | 0, _ => Fz.LocP.ret _
 | k + 1, i => by
  unfold lookAll
  refine Fz.Loc.opt fun p => ?_
  cases p <;> try exact Fz.Loc.none
  refine Fz.Loc.bind (Fz.loc_ld _ _) fun q => ?_
  dsimp only
  refine Fz.Loc.cond (Fz.Loc.opt fun o => ?_) Fz.Loc.none
  cases o with
  | none => exact Fz.LocP.ret _
  | some _ => exact fz_lookAll es v k (i + 1)
theorem fz_rowIn (es : List ME) (v : V) : Fz.LocP F fun s => rowIn es v s := by
 unfold rowIn
 cases v <;> first | exact Fz.Loc.none | (refine Fz.Loc.opt fun n => Fz.Loc.cond ?_ Fz.Loc.none; exact fz_lookAll es _ n 0)
theorem fz_closedAll (es : List ME) : ∀ l, Fz.LocP F fun s => closedAll es l s
 | [] => Fz.LocP.ret _
 | e :: l => by
  unfold closedAll
  refine Fz.Loc.bind (fz_rowIn es e.v) fun p => ?_
  dsimp only
  refine Fz.Loc.bind (fz_closedAll es l) fun q => ?_
  exact Fz.LocP.ret (p && q)
theorem fz_closedK (v : V) : Fz.LocP F fun s => closedK v s := by
 unfold closedK
 cases v <;> try exact Fz.Loc.none
 refine Fz.Loc.bindGet _ (fun _ _ _ _ _ _ => rfl) fun hb o => ?_
 cases o <;> try exact Fz.Loc.none
 refine Fz.Loc.cond (Fz.Loc.bind (Fz.LocP.nw (fun _ => ()) fun _ => .dead) fun _ => ?_) Fz.Loc.none
 dsimp only
 refine Fz.Loc.bind (fz_closedAll _ _) fun z => ?_
 exact Fz.LocP.ret (En.ret (.bool z))
theorem kfClosed_fz (args : List V) : Fz.LocP F fun s => kfClosed.run args s := by
 unfold kfClosed
 dsimp only
 split
 · rename_i l
   refine Fz.Loc.bind ((Fz.loc_ev E0 Fz.knLoc_nil 5).1 28 [l]) fun e => ?_
   cases e with
   | ret v => exact fz_closedK v
   | pan v => exact Fz.Loc.none
 · exact Fz.Loc.none
theorem fzD : Fz.KnLoc F KD := (((Fz.knLoc_nil).add 44 fun _ => kfSorted_fz _ _ _).add 12 fun _ => kfClosed_fz _).add 14 fun _ => Fz.specKF_fz _
end
section
variable {S T U : St}
noncomputable def icy (S : St) (b e z n : Nat) (c : Tr (Tr V)) : St := S.put b (.cells e z n true c)
theorem icy_same {b e z n : Nat} {c : Tr (Tr V)} (h : S.heap.get b = some (.cells e z n false c)) (hb : b < S.next) : Fz.Same ⟨b, e, z, n, c⟩ (icy S b e z n c) S :=
 ⟨rfl, fun x hx => by show S.heap.get x = (S.put b _).heap.get x; rw [put_get, if_neg hx], by show (S.put b _).heap.get b = _; rw [put_get, if_pos rfl], h, hb⟩
theorem TL.icy {v : V} {l : List Bs} (h : TL S v l) {b e z n : Nat} {c : Tr (Tr V)} {m : List (Tr V)} (hb : RowAt S b e z m) (he : e ≠ 9) : TL (icy S b e z n c) v l :=
 h.grew (fun r _ _ hr hx => by subst hx; exact he (row_ne hb hr)) (grew_put (s := S) b _)
theorem PL.icy {v : V} {l : List Pth} (h : PL S v l) {b : Nat} {c : Tr (Tr V)} (hv : v = .oslice b 0 l.length 4) (hr : RowAt S b 28 4 (l.map treeP)) (hc : S.heap.get b = some (.cells 28 4 (l.map treeP).length false c)) (hc2 : ∀ (i : Nat) t, (l.map treeP)[i]? = some t → c.get i = some t) : PL (icy S b 28 4 (l.map treeP).length c) v l := by
 refine ⟨?_, fun p hp => (h.2 p hp).icy hr (by decide)⟩
 rcases h.1 with h | ⟨r, rfl, h1, h2, h3⟩
 · exact .inl h
 · cases hv
   exact .inr ⟨b, rfl, ⟨hr.pos, hr.fit, true, c, by show (S.put b _).heap.get b = _; rw [put_get, if_pos rfl], hc2⟩, h2, h3⟩
theorem meet_ne {e f : LE} (h : e.b ≠ f.b) : meet e f = false := by
 unfold meet
 rw [show Nat.beq e.b f.b = false from by rw [Bool.eq_false_iff]; exact fun hb => h (Nat.eq_of_beq_eq_true hb)]; rfl
theorem meet_or {e f : LE} (h : e.b ≠ f.b ∨ (e.w = false ∧ f.w = false)) : meet e f = false := by
 rcases h with h | ⟨h1, h2⟩
 · exact meet_ne h
 · unfold meet
   rw [h1, h2]; cases Nat.beq e.b f.b <;> rfl
theorem clash1_or {e : LE} : ∀ {l : List LE}, (∀ f ∈ l, e.b ≠ f.b ∨ (e.w = false ∧ f.w = false)) → clash1 e l = false
 | [], _ => rfl
 | f :: l, h => by
  unfold clash1
  rw [meet_or (h f (List.mem_cons_self ..))]
  exact clash1_or fun g hg => h g (List.mem_cons_of_mem _ hg)
theorem clash_or : ∀ {a b : List LE}, (∀ e ∈ a, ∀ f ∈ b, e.b ≠ f.b ∨ (e.w = false ∧ f.w = false)) → clash a b = false
 | [], _, _ => rfl
 | e :: a, b, h => by
  unfold clash
  rw [clash1_or (h e (List.mem_cons_self ..))]
  exact clash_or fun g hg => h g (List.mem_cons_of_mem _ hg)
theorem pairs_one {logs : List (List LE)} {i j b : Nat} {rest : List (Nat × List Nat)} (h1 : ∀ e ∈ logOf i logs, e.w = false ∨ e.b ≠ b) (h2 : ∀ f ∈ logOf j logs, f.w = false ∧ f.b = b) (h3 : pairsOk logs rest = true) : pairsOk logs ((i, [j]) :: rest) = true := by
 unfold pairsOk
 have : clashAny (logOf i logs) logs [j] = false := by
  unfold clashAny
  rw [clash_or fun e he f hf => ?_]
  · rfl
  · obtain ⟨f1, f2⟩ := h2 f hf
    rcases h1 e he with h | h
    · exact .inr ⟨h, f1⟩
    · exact .inl (by rw [f2]; exact h)
 rw [this]
 exact h3
theorem relog_any (ho : S.on = false) (U : St) (l : List LE) (ls : List (List LE)) : ∃ U', relog S (U.lg l) ls = U' ∧ U'.heap = U.heap ∧ U'.next = U.next ∧ U'.on = false := by
 refine ⟨_, rfl, ?_, ?_, ?_⟩ <;> (unfold relog; rw [ho]; rfl)
theorem Grew.same {W : Nat → Prop} {a b c : St} (h : Grew W a b) (h1 : c.heap = b.heap) (h2 : c.next = b.next) (h3 : c.on = b.on) : Grew W a c := ⟨by rw [h2]; exact h.next, h3.trans h.on, fun x hx hw => by rw [h1]; exact h.keep x hx hw⟩
theorem und26 : und E0 26 = some (.slice 9) := by kernel_rfl
theorem size9 : sizeT E0 9 = some 1 := by kernel_rfl
end
end Go.Proofs.Ytginkdeicmdmaaa.W
namespace Go.Proofs.Ytginkdeicmdmaaa.W
open Go.Proofs.Ytginkdeicmdmaaa.Ev Go.RowKit
section
variable {S T U : St}
structure Rowed (S : St) (v : V) (l : List Pth) (b : Nat) : Prop where
 pl : PL S v l
 v : v = .oslice b 0 l.length 4
 row : RowAt S b 28 4 (l.map treeP)
 lt : b < S.next
theorem Rowed.grew {v : V} {l : List Pth} {b : Nat} (h : Rowed S v l b) (g : Grew (fun _ => False) S U) : Rowed U v l b := ⟨h.pl.grew g, h.v, h.row.grew h.lt (fun h => h) g, Nat.lt_of_lt_of_le h.lt g.next⟩
theorem Rowed.ix {v : V} {l : List Pth} {b : Nat} (h : Rowed S v l b) {i : Nat} (hi : i < l.length) : ixP 4 v (.int .i64 (i : Int)) = some (.ptr b (i * 4)) := by
 rw [h.v]
 show (bif Nat.blt i l.length then some (V.ptr b (0 + i * 4)) else none) = _
 rw [blt_true.2 hi, Nat.zero_add]; rfl
theorem rowed_of {v : V} {l : List Pth} {N : Nat} (h : PLo S v l N) (h0 : 0 < l.length) : ∃ b, Rowed S v l b := by
 rcases h.1.1 with ⟨rfl, _⟩ | ⟨r, rfl, h1, h2, h3⟩
 · cases h0
 · exact ⟨r, h.1, rfl, (h.2 r rfl).2, h2⟩
theorem lglg (S : St) (L M : List LE) : (S.lg L).lg M = S.lg M := rfl
theorem ons (S : St) : onS S = S.lg [] := rfl
end
end Go.Proofs.Ytginkdeicmdmaaa.W
namespace Go.Proofs.Ytginkdeicmdmaaa.W
open Go.Proofs.Ytginkdeicmdmaaa.Ev Go.RowKit
theorem lkP_nd {p : Pth} : ∀ {l : List Pth}, (W.names l).Nodup → p ∈ l → lkP p.nm l = some p
 | [], _, h => by cases h
 | q :: l, hn, h => by
  have hn' : (q.nm :: W.names l).Nodup := hn
  rw [List.nodup_cons] at hn'
  unfold lkP
  rcases List.mem_cons.1 h with rfl | h
  · rw [if_pos rfl]
  · rw [if_neg (fun e => hn'.1 (by rw [← e]; exact mem_names.2 ⟨p, h, rfl⟩))]
    exact lkP_nd hn'.2 h
section
variable {ps : List Pth} {b : Bool} {l : List Nat} {n : Nat}
theorem Fit.filter (h : Fit ps) (f : Pth → Bool) : Fit (ps.filter f) :=
 ⟨Nat.lt_of_le_of_lt (List.length_filter_le _ _) h.len, fun p hp => h.nm p (List.mem_filter.1 hp).1, fun p hp => h.refs p (List.mem_filter.1 hp).1⟩
end
section
variable {S T U : St}
end
end Go.Proofs.Ytginkdeicmdmaaa.W
namespace Go.Proofs.Ytginkdeicmdmaaa.W
open Go.Proofs.Ytginkdeicmdmaaa.Ev Go.RowKit
section
variable {S T U : St}
end
end Go.Proofs.Ytginkdeicmdmaaa.W
namespace Go.Proofs.Ytginkdeicmdmaaa.W
open Go.Proofs.Ytginkdeicmdmaaa.Ev Go.RowKit
theorem rd36 {n : Nat} {args : List V} {s : St} {r : En × St} (e : runF E0 (ev E0 KD n) rounds Try.f36 B36 args s = some r) : (ev E0 KD (n + 1)).f 36 args s = some r := ev_read (c := C36) (d := B36) (by kernel_rfl) (by kernel_rfl) (annot_isOf C36 _ (by kernel_rfl)) rfl e
theorem rd37 {n : Nat} {args : List V} {s : St} {r : En × St} (e : runF E0 (ev E0 KD n) rounds Try.f37 B37 args s = some r) : (ev E0 KD (n + 1)).f 37 args s = some r := ev_read (c := C37) (d := B37) (by kernel_rfl) (by kernel_rfl) (annot_isOf C37 _ (by kernel_rfl)) rfl e
theorem rd38 {n : Nat} {args : List V} {s : St} {r : En × St} (e : runF E0 (ev E0 KD n) rounds Try.f38 B38 args s = some r) : (ev E0 KD (n + 1)).f 38 args s = some r := ev_read (c := C38) (d := B38) (by kernel_rfl) (by kernel_rfl) (annot_isOf C38 _ (by kernel_rfl)) rfl e
theorem rd39 {n : Nat} {args : List V} {s : St} {r : En × St} (e : runF E0 (ev E0 KD n) rounds Try.f39 B39 args s = some r) : (ev E0 KD (n + 1)).f 39 args s = some r := ev_read (c := C39) (d := B39) (by kernel_rfl) (by kernel_rfl) (annot_isOf C39 _ (by kernel_rfl)) rfl e
theorem rd40 {n : Nat} {args : List V} {s : St} {r : En × St} (e : runF E0 (ev E0 KD n) rounds Try.f40 B40 args s = some r) : (ev E0 KD (n + 1)).f 40 args s = some r := ev_read (c := C40) (d := B40) (by kernel_rfl) (by kernel_rfl) (annot_isOf C40 _ (by kernel_rfl)) rfl e
theorem rd42 {n : Nat} {args : List V} {s : St} {r : En × St} (e : runF E0 (ev E0 KD n) rounds Try.f42 B42 args s = some r) : (ev E0 KD (n + 1)).f 42 args s = some r := ev_read (c := C42) (d := B42) (by kernel_rfl) (by kernel_rfl) (annot_isOf C42 _ (by kernel_rfl)) rfl e
theorem rd43 {n : Nat} {args : List V} {s : St} {r : En × St} (e : runF E0 (ev E0 KD n) rounds Try.f43 B43 args s = some r) : (ev E0 KD (n + 1)).f 43 args s = some r := ev_read (c := C43) (d := B43) (by kernel_rfl) (by kernel_rfl) (annot_isOf C43 _ (by kernel_rfl)) rfl e
theorem rd49 {n : Nat} {args : List V} {s : St} {r : En × St} (e : runF E0 (ev E0 KD n) rounds Try.f49 B49 args s = some r) : (ev E0 KD (n + 1)).f 49 args s = some r := ev_read (c := C49) (d := B49) (by kernel_rfl) (by kernel_rfl) (annot_isOf C49 _ (by kernel_rfl)) rfl e
theorem rd50 {n : Nat} {args : List V} {s : St} {r : En × St} (e : runF E0 (ev E0 KD n) rounds Try.f50 B50 args s = some r) : (ev E0 KD (n + 1)).f 50 args s = some r := ev_read (c := C50) (d := B50) (by kernel_rfl) (by kernel_rfl) (annot_isOf C50 _ (by kernel_rfl)) rfl e
theorem rd21 {n : Nat} {args : List V} {s : St} {r : En × St} (e : runF E0 (ev E0 KD n) rounds Try.f21 B21 args s = some r) : (ev E0 KD (n + 1)).f 21 args s = some r := ev_read (c := C21) (d := B21) (by kernel_rfl) (by kernel_rfl) (annot_isOf C21 _ (by kernel_rfl)) rfl e
theorem rd23 {n : Nat} {args : List V} {s : St} {r : En × St} (e : runF E0 (ev E0 KD n) rounds Try.f23 B23 args s = some r) : (ev E0 KD (n + 1)).f 23 args s = some r := ev_read (c := C23) (d := B23) (by kernel_rfl) (by kernel_rfl) (annot_isOf C23 _ (by kernel_rfl)) rfl e
def refsAt (ps : List Pth) (k : Bs) : List Bs := match lkP k ps with
 | some q => q.refs
 | none => []
section
variable {S T U : St}
theorem geq0 (n : Int) : binV E0 .geq 3 false true (.int .i64 n) (.int .i64 0) = some (.bool (decide (0 ≤ n))) := by rw [binV_ii, intsV_geq]
theorem L50_spec {m N : Nat} (ho : S.on = false) {v : V} {l : List Bs} (hl : TL S v l) (hlen : l.length < 1000000) (x : Bs) (nk : Ac → St → Rs) (ek : Nat → Ac → St → Rs) (hek : ek 0 (fr 19 []) S = some (.ret (.int .i64 (-1)), S)) :
 ∀ (rest : List Bs) (i q : Nat), l.drop i = rest → rest.length < q →
 ∃ j : Int, L50_6 (ev E0 KD m) N nk ek q v (sv x) (.int .i64 (l.length : Int)) (.int .i64 (i : Int)) S = some (.ret (.int .i64 j), S) ∧ (0 ≤ j ↔ x ∈ rest)
 | rest, i, 0, _, hq => by omega
 | [], i, q + 1, hi, hq => by
  refine ⟨-1, ?_, by simp⟩
  rw [L50_6_eq, binV_ii, intsV_lss, dec_ge (drop_end hi), oB, ifK_bool, cond_false, hek]
 | a :: rest, i, q + 1, hi, hq => by
  obtain ⟨hlt, hf, hrest, hmem⟩ := drop_at hi
  obtain ⟨p, p1, p2⟩ := hl.ld ho (show l[i]? = some a by rw [List.getElem?_eq_getElem hlt, hf])
  rw [L50_6_eq, binV_ii, intsV_lss, dec_lt hlt, oB, ifK_bool, cond_true, p1, oB, p2, oB]
  dsimp only
  rw [eqStr, oB, ifK_bool]
  by_cases h : x = a
  · rw [show (x == a) = true by simp [h], cond_true]
    exact ⟨_, rfl, by constructor <;> intro _ <;> first | omega | simp [h]⟩
  · rw [show (x == a) = false from beq_false_of_ne h, cond_false, binV_ii, intsV_add, wrap_succ (by omega), oB]
    obtain ⟨j, j1, j2⟩ := L50_spec (m := m) (N := N) ho hl hlen x nk ek hek rest (i + 1) q hrest (by simp at hq; omega)
    exact ⟨j, j1, by rw [j2]; simp [h]⟩
theorem contains_run (m : Nat) (ho : S.on = false) {v : V} {l : List Bs} (hl : TL S v l) (hlen : l.length < 1000000) (x : Bs) : (ev E0 KD (m + 2)).f 43 [v, sv x] S = some (.ret (.bool (decide (x ∈ l))), S) := by
 obtain ⟨j, j1, j2⟩ := L50_spec (m := m) (N := rounds) ho hl hlen x (R50_1 (ev E0 KD m) rounds (finN E0 (ev E0 KD m) Try.f50) noEx) (exB 0 (R50_1 (ev E0 KD m) rounds (finN E0 (ev E0 KD m) Try.f50) noEx) noEx) (by rw [exB_same, R50_1_eq]) l 0 rounds rfl (by unfold rounds; omega)
 have h50 : (ev E0 KD (m + 1)).f 50 [v, sv x] S = some (.ret (.int .i64 j), S) := rd50 (by
  show F50 (ev E0 KD m) rounds v (sv x) S = _
  rw [F50_eq, hl.len, oB]
  exact j1)
 refine rd43 ?_
 show F43 (ev E0 KD (m + 1)) rounds v (sv x) S = _
 rw [F43_eq, h50, callP_ret, geq0, oB]
 congr 4
 rw [decide_eq_decide]; exact j2
theorem L49_spec {m N : Nat} (ho : S.on = false) {v fv : V} {l : List Bs} {f : Bs → Bool} (hl : TL S v l) (hlen : l.length < 1000000) (hf : ∀ k ∈ l, callK E0 (ev E0 KD m) fv [sv k] S = some (.ret (.bool (f k)), S)) (nk : Ac → St → Rs) (ek : Nat → Ac → St → Rs) (hek : ek 0 (fr 19 []) S = some (.ret (.int .i64 (-1)), S)) :
 ∀ (rest : List Bs) (i q : Nat), l.drop i = rest → rest.length < q →
 ∃ j : Int, L49_6 (ev E0 KD m) N nk ek q v fv (.int .i64 (l.length : Int)) (.int .i64 (i : Int)) S = some (.ret (.int .i64 j), S) ∧ (0 ≤ j ↔ rest.any f = true)
 | rest, i, 0, _, hq => by omega
 | [], i, q + 1, hi, hq => by
  refine ⟨-1, ?_, by simp⟩
  rw [L49_6_eq, binV_ii, intsV_lss, dec_ge (drop_end hi), oB, ifK_bool, cond_false, hek]
 | a :: rest, i, q + 1, hi, hq => by
  obtain ⟨hlt, hf', hrest, hmem⟩ := drop_at hi
  obtain ⟨p, p1, p2⟩ := hl.ld ho (show l[i]? = some a by rw [List.getElem?_eq_getElem hlt, hf'])
  rw [L49_6_eq, binV_ii, intsV_lss, dec_lt hlt, oB, ifK_bool, cond_true, p1, oB, p2, oB]
  dsimp only
  rw [hf a hmem, callP_ret, ifK_bool, List.any_cons]
  cases h : f a with
  | true =>
   rw [cond_true, Bool.true_or]
   exact ⟨_, rfl, by constructor <;> intro _ <;> first | rfl | omega⟩
  | false =>
   rw [cond_false, binV_ii, intsV_add, wrap_succ (by omega), oB, Bool.false_or]
   exact L49_spec ho hl hlen hf nk ek hek rest (i + 1) q hrest (by simp at hq; omega)
theorem containsF_run (m : Nat) (ho : S.on = false) {v fv : V} {l : List Bs} {f : Bs → Bool} (hl : TL S v l) (hlen : l.length < 1000000) (hf : ∀ k ∈ l, callK E0 (ev E0 KD m) fv [sv k] S = some (.ret (.bool (f k)), S)) : (ev E0 KD (m + 2)).f 38 [v, fv] S = some (.ret (.bool (l.any f)), S) := by
 obtain ⟨j, j1, j2⟩ := L49_spec (m := m) (N := rounds) ho hl hlen hf (R49_1 (ev E0 KD m) rounds (finN E0 (ev E0 KD m) Try.f49) noEx) (exB 0 (R49_1 (ev E0 KD m) rounds (finN E0 (ev E0 KD m) Try.f49) noEx) noEx) (by rw [exB_same, R49_1_eq]) l 0 rounds rfl (by unfold rounds; omega)
 have h49 : (ev E0 KD (m + 1)).f 49 [v, fv] S = some (.ret (.int .i64 j), S) := rd49 (by
  show F49 (ev E0 KD m) rounds v fv S = _
  rw [F49_eq, hl.len, oB]
  exact j1)
 refine rd38 ?_
 show F38 (ev E0 KD (m + 1)) rounds v fv S = _
 rw [F38_eq, h49, callP_ret, geq0, oB]
 congr 4
 rw [Bool.eq_iff_iff, decide_eq_true_eq]; exact j2
theorem look_row (ho : S.on = false) {r : Nat} {kv : List (Bs × V)} (h : MapS S r kv) (a : Bs) :
 lookupV E0 48 (.map r) (sv a) false S = some ((lkS a kv).getD .nilslice, S) := by
 obtain ⟨es, c, h1, h2, _⟩ := h
 unfold lookupV
 rw [und48, oB]
 simp only
 rw [und9, oB]
 simp only [sv, keyOk, cond_true]
 rw [getO_off ho h1, oB]
 simp only
 rw [oB]
 dsimp only
 have hm := mfind_str a kv es 0 h2
 unfold sv at hm
 rw [hm, oB]
 cases lkS a kv with
 | none => simp only [Option.map_none]; rw [zero26]; rfl
 | some v => rfl
theorem row_tl {ps : List Pth} (hrow : ∀ p ∈ ps, TL S p.rv p.refs) (k : Bs) : TL S ((lkS k (ps.map Pth.kv)).getD .nilslice) (refsAt ps k) := by
 rw [lkS_kv]
 unfold refsAt
 cases h : lkP k ps with
 | none => exact .nil
 | some q => exact hrow q (lkP_mem h).1
theorem refsAt_len {ps : List Pth} (h : ∀ p ∈ ps, p.refs.length < 1000) (k : Bs) : (refsAt ps k).length < 1000 := by
 unfold refsAt
 cases hq : lkP k ps with
 | none => decide
 | some q => exact h q (lkP_mem hq).1
def referL (l : List Pth) (path : Bs) : List Bs := (sortB (names (refsOf l))).filter fun k => !(k == path) && decide (path ∈ refsAt (refsOf l) k)
theorem referrers_run {d : Nat} (ho : S.on = false) {v : V} {l : List Pth} (hp : PL S v l) (hF : Fit l) (path : Bs) :
 ∃ w U, (ev E0 KD (d + 5)).f 23 [v, sv path] S = some (.ret w, U) ∧ TLo U w (referL l path) S.next ∧ Grew (fun _ => False) S U := by
 have hF1 := hF.len
 obtain ⟨A, a1, a2, a3, a4⟩ := box_one ho 9 (oneV_sv path)
 have onA := a3.on.trans ho
 obtain ⟨B, m, b1, b2, b3, b4, b5⟩ := refs_run (d + 3) onA (hp.grew a3) (by omega)
 have onB := b2.on.trans onA
 obtain ⟨C, c1, c2, c3, c4⟩ := var_one onB 48 (Go.Proofs.Ytginkdeicmdmaaa.Ev.one .nilmap) (v := .map m) ⟨rfl, rfl, rfl, rfl⟩
 have onC := c3.on.trans onB
 have gB := a3.trans b2
 have gC := gB.trans c3
 have hMC := b5.grew b4 (fun h => h) c3
 have hlen := refsOf_len l
 have l1 : ld1 (.ptr B.next 0) C = some (.map m, C) := Bx.ldv onC c2 big1 rfl
 have hbC := (a2.grew (by omega) (fun h => h) b2).grew (show S.next < B.next by have := b2.next; omega) (fun h => h) c3
 have hc : ∀ U, Grew (fun _ => False) C U → ∀ k ∈ ((refsOf l).map Pth.kv).map (·.1), ∃ U', callK E0 (ev E0 KD (d + 3)) (.fn (.func 42) [] [.ptr S.next 0, .ptr B.next 0]) [sv k] U = some (.ret (.bool (!(k == path) && decide (path ∈ refsAt (refsOf l) k))), U') ∧ Grew (fun _ => False) U U' := fun U g k _ => by
  refine ⟨U, ?_, Grew.refl _ _⟩
  have onU := g.on.trans onC
  have hx := hbC.grew (by have := b2.next; omega) (fun h => h) g
  have hy := c2.grew (by omega) (fun h => h) g
  have hm2 := hMC.grew (by omega) (fun h => h) g
  have q1 : ld1 (.ptr S.next 0) U = some (sv path, U) := Bx.ldv onU hx big1 rfl
  have q2 : ld1 (.ptr B.next 0) U = some (.map m, U) := Bx.ldv onU hy big1 rfl
  have hrow : ∀ p ∈ refsOf l, TL U p.rv p.refs := fun p hq => ((hp.2 p (refsOf_mem hq)).grew0 gC).grew0 g
  rw [callK_fn (ext_none (by decide)) (by kernel_rfl)]
  refine rd42 ?_
  show F42 (ev E0 KD (d + 2)) rounds (sv k) (.ptr S.next 0) (.ptr B.next 0) U = _
  rw [F42_eq, q1, oB]
  dsimp only
  rw [neStr, oB]
  cases hkp : (k == path) with
  | true => rfl
  | false =>
   rw [Bool.not_false]
   simp only [gTT, oB, cond_true]
   rw [q2, oB]
   dsimp only
   rw [look_row onU hm2, oB]
   dsimp only
   rw [q1, oB]
   dsimp only
   rw [contains_run d onU (row_tl hrow k) (by have := refsAt_len (fun p hq => hF.refs p (refsOf_mem hq)) k; omega), callP_ret, pickV_bool, cond_true, oB, Bool.true_and]
 obtain ⟨w, U, u1, u2, u3⟩ := kept30_run (d + 2) onC hMC (by omega) (by rw [kv_names]; exact refsOf_nd _) (fun p hq => by
  rw [List.mem_map] at hq
  obtain ⟨q, q1, rfl⟩ := hq
  exact Nat.lt_trans (hF.nm q (refsOf_mem q1)) (by decide)) (by rw [List.length_map]; omega) hc
 refine ⟨w, U, rd23 ?_, ?_, gC.trans u3⟩
 · show F23 (ev E0 KD (d + 4)) rounds v (sv path) S = _
   rw [F23_eq, a1, oB]
   dsimp only
   rw [b1, callP_ret, oB, nwP_fst, c1, oB]
   dsimp only
   rw [l1, oB]
   dsimp only
   rw [u1, callP_ret]
 · rw [kv_names] at u2
   rcases u2 with h | ⟨r, h0, h1, h2, h3, h4⟩
   · exact .inl h
   · exact .inr ⟨r, h0, h1, h2, Nat.le_trans gC.next h3, h4⟩
end
end Go.Proofs.Ytginkdeicmdmaaa.W
namespace Go.Proofs.Ytginkdeicmdmaaa.W
open Go.Proofs.Ytginkdeicmdmaaa.Ev Go.RowKit
def dropS (a : Bs) : List (Bs × V) → List (Bs × V)
 | [] => []
 | p :: l => if a = p.1 then l else p :: dropS a l
theorem dropME_str (a : Bs) : ∀ (kv : List (Bs × V)) (es : List ME), esKV es = kvS kv → ∀ w, lkS a kv = some w → esKV (dropME (ixB a kv) es) = kvS (dropS a kv)
 | [], es, h, w, hw => by simp [lkS] at hw
 | p :: kv, [], h, w, hw => by simp [esKV, kvS] at h
 | p :: kv, e :: es, h, w, hw => by
  simp only [esKV, kvS, List.map_cons, List.cons.injEq, pM] at h
  obtain ⟨⟨h1, h2⟩, h3⟩ := h
  unfold ixB dropS
  unfold lkS at hw
  by_cases hc : a = p.1
  · rw [if_pos hc, if_pos hc]
    exact h3
  · rw [if_neg hc, if_neg hc]
    rw [if_neg hc] at hw
    unfold dropME
    rw [show Nat.beq (ixB a kv + 1) 0 = false from rfl, cond_false, Nat.add_sub_cancel]
    show (e.k, e.v) :: esKV _ = (sv p.1, p.2) :: kvS _
    rw [h1, h2, dropME_str a kv es h3 w hw]
theorem stampsR_mono : ∀ {es : List ME} {m k : Nat}, m ≤ k → stampsR k es = true → stampsR m es = true
 | [], _, _, _, _ => rfl
 | e :: es, m, k, h, hs => by
  unfold stampsR at hs ⊢
  simp only [Bool.and_eq_true, ble_true] at hs ⊢
  exact ⟨Nat.le_trans h hs.1, hs.2⟩
theorem lastStamp_mono : ∀ {es : List ME} {m k : Nat}, m ≤ k → lastStamp es m ≤ lastStamp es k
 | [], _, _, h => h
 | _ :: _, _, _, _ => Nat.le_refl _
theorem drop_stamps : ∀ (es : List ME) (i m : Nat), stampsR m es = true → stampsR m (dropME i es) = true ∧ lastStamp (dropME i es) m ≤ lastStamp es m
 | [], _, _, h => ⟨h, Nat.le_refl _⟩
 | e :: es, i, m, h => by
  unfold stampsR at h
  simp only [Bool.and_eq_true, ble_true] at h
  unfold dropME
  cases hb : Nat.beq i 0 with
  | true =>
   rw [cond_true]
   exact ⟨stampsR_mono (Nat.le_succ_of_le h.1) h.2, lastStamp_mono (Nat.le_succ_of_le h.1)⟩
  | false =>
   rw [cond_false]
   obtain ⟨q1, q2⟩ := drop_stamps es (i - 1) (e.born + 1) h.2
   unfold stampsR lastStamp
   exact ⟨by rw [ble_true.2 h.1, q1]; rfl, q2⟩
def dropP (k : Bs) (l : List Pth) : List Pth := l.filter fun p => !(p.nm == k)
theorem dropS_kv (k : Bs) : ∀ {l : List Pth}, (names l).Nodup → dropS k (l.map Pth.kv) = (dropP k l).map Pth.kv
 | [], _ => rfl
 | p :: l, h => by
  have h' : (p.nm :: names l).Nodup := h
  rw [List.nodup_cons] at h'
  rw [List.map_cons]
  unfold dropS dropP
  by_cases hc : k = p.nm
  · rw [if_pos (show k = p.kv.1 from hc), List.filter_cons_of_neg (by simp [hc])]
    rw [List.filter_eq_self.2 fun q hq => ?_]
    simp only [Bool.not_eq_true', beq_eq_false_iff_ne]
    exact fun e => h'.1 (by rw [← hc, ← e]; exact mem_names.2 ⟨q, hq, rfl⟩)
  · rw [if_neg (show ¬ k = p.kv.1 from hc), List.filter_cons_of_pos (by simp [Ne.symm hc]), List.map_cons, dropS_kv k h'.2]
    rfl
section
variable {S T U : St}
theorem del_str (ho : S.on = false) {r : Nat} {kv : List (Bs × V)} (h : MapS S r kv) {a : Bs} {w : V} (hl : lkS a kv = some w) : ∃ o, (∀ L, ∃ L', vu (deleteV E0 48 (.map r) (sv a) (S.lg L)) = some (.tuple [], (S.put r o).lg L')) ∧ MapS (S.put r o) r (dropS a kv) := by
 obtain ⟨es, c, h1, h2, h3, h4⟩ := h
 obtain ⟨q1, q2⟩ := drop_stamps es (ixB a kv) 0 h3
 refine ⟨.map (dropME (ixB a kv) es) c, fun L => ⟨⟨r, 0, big, true⟩ :: ⟨r, 0, big, false⟩ :: L, ?_⟩, _, c, by rw [put_get, if_pos rfl], dropME_str a kv es h2 w hl, q1, Nat.le_trans q2 h4⟩
 have hd : deleteV E0 48 (.map r) (sv a) (S.lg L) = some ((S.put r (.map (dropME (ixB a kv) es) c)).lg (⟨r, 0, big, true⟩ :: ⟨r, 0, big, false⟩ :: L)) := by
  unfold deleteV
  rw [und48, oB]
  simp only
  rw [und9, oB]
  simp only [sv, keyOk, cond_true]
  have hg : getO (S.lg L) r = some (.map es c, S.lg (⟨r, 0, big, false⟩ :: L)) := by
   unfold getO
   rw [show (S.lg L).heap.get r = some (.map es c) from h1]; rfl
  rw [hg, oB]
  simp only
  have hm := mfind_str a kv es 0 h2
  unfold sv at hm
  rw [hm, hl]
  show some (setO _ _ (.map (dropME (0 + ixB a kv) _) _)) = _
  rw [Nat.zero_add]
  rfl
 rw [hd]; rfl
theorem lnMap_of (ho : S.on = false) {r : Nat} {kv : List (Bs × V)} (h : MapS S r kv) : lnMap (.map r) S = some (.int .i64 (kv.length : Int), S) := by
 obtain ⟨es, c, h1, h2, _⟩ := h
 have hl : es.length = kv.length := by
  have := congrArg List.length h2
  simpa [esKV, kvS] using this
 unfold lnMap
 simp only
 rw [getO_off ho h1]
 simp only [oB, hl]
 rfl
theorem clone_run (n : Nat) (ho : S.on = false) {r : Nat} {kv : List (Bs × V)} (h : MapS S r kv) : ∃ U, (ev E0 KD (n + 1)).f 36 [.map r] S = some (.ret (.map S.next), U) ∧ MapS U S.next kv ∧ Grew (fun _ => False) S U ∧ U.next = S.next + 1 := by
 obtain ⟨es, c, h1, h2, h3, h4⟩ := h
 refine ⟨nw S (.map es c), rd36 ?_, ⟨es, c, by rw [nw_get, if_pos rfl], h2, h3, h4⟩, grew_nw ho _ _, rfl⟩
 show F36 (ev E0 KD n) rounds (.map r) S = _
 rw [F36_eq, show binV E0 .eql 48 false true (.map r) .nilmap = some (.bool false) from by kernel_rfl, oB, ifK_bool, cond_false]
 have hc : callK E0 (ev E0 KD n) (.fn (.func 48) [] []) [.iface 48 (.map r)] S = some (.ret (.iface 48 (.map S.next)), nw S (.map es c)) := by
  have hx : E0.ext.get 48 = some 2 := by kernel_rfl
  unfold callK
  simp only
  rw [hx]
  show ((extV 2 [.iface 48 (.map r)] S).bind _) = _
  have : extV 2 [.iface 48 (.map r)] S = some (.val (.iface 48 (.map S.next)) (nw S (.map es c))) := by
   show ((getO S r).bind _) = _
   rw [getO_off ho h1]; rfl
  rw [this]; rfl
 rw [hc, callP_ret, show assertK E0 48 false (.iface 48 (.map S.next)) = some (.map S.next) from by kernel_rfl, oB]
def readyF (ps left : List Pth) (k : Bs) : Bool := !((refsAt ps k).any fun r => decide (r ∈ names left) && !(r == k))
structure OC (S : St) (bt bl mt ml : Nat) (ps left : List Pth) : Prop where
 on : S.on = false
 xt : Bx S bt 48 [.map mt]
 xl : Bx S bl 48 [.map ml]
 lt : bt < S.next ∧ bl < S.next ∧ mt < S.next ∧ ml < S.next
 ne : bt ≠ ml ∧ bl ≠ ml ∧ mt ≠ ml
 mp : MapS S mt (ps.map Pth.kv)
 lf : MapS S ml (left.map Pth.kv)
theorem OC.grew {bt bl mt ml : Nat} {ps left : List Pth} (h : OC S bt bl mt ml ps left) (g : Grew (fun _ => False) S U) : OC U bt bl mt ml ps left := by
 obtain ⟨l1, l2, l3, l4⟩ := h.lt
 have gn := g.next
 exact ⟨g.on.trans h.on, h.xt.grew l1 (fun h => h) g, h.xl.grew l2 (fun h => h) g, ⟨by omega, by omega, by omega, by omega⟩, h.ne, h.mp.grew l3 (fun h => h) g, h.lf.grew l4 (fun h => h) g⟩
theorem OC.push {bt bl mt ml : Nat} {ps left : List Pth} (h : OC S bt bl mt ml ps left) {v : V} {l : List Bs} {N : Nat} (hv : TLo S v l N) (g : Grew (fun x => blkOf v = some x) S U) : OC U bt bl mt ml ps left := by
 obtain ⟨l1, l2, l3, l4⟩ := h.lt
 have gn := g.next
 exact ⟨g.on.trans h.on, h.xt.grew l1 (fun e => absurd (row_bx (hv.blk e).2 h.xt) (by decide)) g, h.xl.grew l2 (fun e => absurd (row_bx (hv.blk e).2 h.xl) (by decide)) g, ⟨by omega, by omega, by omega, by omega⟩, h.ne, h.mp.grew l3 (fun e => h.mp.noRow (hv.blk e).2) g, h.lf.grew l4 (fun e => h.lf.noRow (hv.blk e).2) g⟩
theorem OC.same {bt bl mt ml : Nat} {ps left : List Pth} (h : OC S bt bl mt ml ps left) (h1 : U.heap = S.heap) (h2 : U.next = S.next) (h3 : U.on = false) : OC U bt bl mt ml ps left :=
 ⟨h3, by show U.heap.get bt = _; rw [h1]; exact h.xt, by show U.heap.get bl = _; rw [h1]; exact h.xl, by rw [h2]; exact h.lt, h.ne, h.mp.same h1, h.lf.same h1⟩
theorem OC.del {bt bl mt ml : Nat} {ps left left' : List Pth} (h : OC S bt bl mt ml ps left) {o : O} (hm : MapS (S.put ml o) ml (left'.map Pth.kv)) : OC (S.put ml o) bt bl mt ml ps left' := by
 obtain ⟨l1, l2, l3, l4⟩ := h.lt
 obtain ⟨n1, n2, n3⟩ := h.ne
 have g := grew_put (s := S) ml o
 exact ⟨h.on, h.xt.grew l1 n1 g, h.xl.grew l2 n2 g, h.lt, h.ne, h.mp.grew l3 n3 g, hm⟩
theorem close39 (n : Nat) {bt bl mt ml : Nat} {ps left : List Pth} (h : OC S bt bl mt ml ps left) {bk : Nat} {k : Bs} (hk : Bx S bk 9 [sv k]) (r : Bs) : callK E0 (ev E0 KD (n + 1)) (.fn (.func 39) [] [.ptr bl 0, .ptr bk 0]) [sv r] S = some (.ret (.bool (decide (r ∈ names left) && !(r == k))), S) := by
 have q1 : ld1 (.ptr bl 0) S = some (.map ml, S) := Bx.ldv h.on h.xl big1 rfl
 have q2 : ld1 (.ptr bk 0) S = some (sv k, S) := Bx.ldv h.on hk big1 rfl
 rw [callK_fn (ext_none (by decide)) (by kernel_rfl)]
 refine rd39 ?_
 show F39 (ev E0 KD n) rounds (sv r) (.ptr bl 0) (.ptr bk 0) S = _
 rw [F39_eq, q1, oB]
 dsimp only
 rw [look_two h.on h.lf, oB]
 dsimp only
 rw [tup0, oB, tup1, oB, lkS_kv, lkP_dec]
 cases lkP r left with
 | none => rfl
 | some q =>
  simp only [Option.map_some, Option.isSome_some, gTT, oB, cond_true]
  rw [q2, oB]
  dsimp only
  rw [neStr, oB, pickV_bool, cond_true, oB, Bool.true_and]
theorem close37 (n : Nat) {bt bl mt ml : Nat} {ps left : List Pth} (h : OC S bt bl mt ml ps left) (hrow : ∀ p ∈ ps, TL S p.rv p.refs) (hlen : ∀ p ∈ ps, p.refs.length < 1000) (k : Bs) : ∃ U, callK E0 (ev E0 KD (n + 4)) (.fn (.func 37) [] [.ptr bt 0, .ptr bl 0]) [sv k] S = some (.ret (.bool (readyF ps left k)), U) ∧ Grew (fun _ => False) S U := by
 obtain ⟨A, a1, a2, a3, a4⟩ := box_one h.on 9 (oneV_sv k)
 have hA := h.grew a3
 have q1 : ld1 (.ptr bt 0) A = some (.map mt, A) := Bx.ldv hA.on hA.xt big1 rfl
 have q2 : ld1 (.ptr S.next 0) A = some (sv k, A) := Bx.ldv hA.on a2 big1 rfl
 have hc := containsF_run (n + 1) hA.on (row_tl (fun p hp => (hrow p hp).grew0 a3) k) (by have := refsAt_len hlen k; omega) (fv := .fn (.func 39) [] [.ptr bl 0, .ptr S.next 0]) (f := fun r => decide (r ∈ names left) && !(r == k)) fun r _ => close39 n hA a2 r
 refine ⟨A, ?_, a3⟩
 rw [callK_fn (ext_none (by decide)) (by kernel_rfl)]
 refine rd37 ?_
 show F37 (ev E0 KD (n + 3)) rounds (sv k) (.ptr bt 0) (.ptr bl 0) S = _
 rw [F37_eq, a1, oB]
 dsimp only
 rw [q1, oB]
 dsimp only
 rw [q2, oB]
 dsimp only
 rw [look_row hA.on hA.mp, oB]
 dsimp only
 rw [hc, callP_ret, unV_not, oB]
 rfl
end
end Go.Proofs.Ytginkdeicmdmaaa.W
namespace Go.Proofs.Ytginkdeicmdmaaa.W
open Go.Proofs.Ytginkdeicmdmaaa.Ev Go.RowKit
def readyL (ps left : List Pth) : List Bs := (sortB (names left)).filter (readyF ps left)
def nextP (ps left : List Pth) : Bs := match readyL ps left with
 | [] => (sortB (names left)).headD []
 | a :: _ => a
def orderL (ps : List Pth) : Nat → List Pth → List Bs
 | 0, _ => []
 | n + 1, left => nextP ps left :: orderL ps n (dropP (nextP ps left) left)
theorem nextP_mem {ps left : List Pth} (h : left ≠ []) : nextP ps left ∈ names left := by
 have hs : sortB (names left) ≠ [] := fun e => by
  have := (sortB_perm (names left)).length_eq
  rw [e] at this
  unfold names at this
  rw [List.length_map] at this
  exact h (List.eq_nil_of_length_eq_zero this.symm)
 unfold nextP
 cases hr : readyL ps left with
 | nil =>
  cases hq : sortB (names left) with
  | nil => exact absurd hq hs
  | cons a l =>
   have : a ∈ sortB (names left) := by rw [hq]; exact List.mem_cons_self ..
   exact mem_sortB.1 this
 | cons a l =>
  have : a ∈ readyL ps left := by rw [hr]; exact List.mem_cons_self ..
  exact mem_sortB.1 (List.mem_filter.1 this).1
theorem dropP_sub {k : Bs} {l : List Pth} {p : Pth} (h : p ∈ dropP k l) : p ∈ l := (List.mem_filter.1 h).1
theorem dropP_nd {k : Bs} {l : List Pth} (h : (names l).Nodup) : (names (dropP k l)).Nodup := by
 unfold names dropP
 exact (List.Sublist.map _ List.filter_sublist).nodup h
theorem dropP_len {k : Bs} : ∀ {l : List Pth}, (names l).Nodup → k ∈ names l → (dropP k l).length + 1 = l.length
 | [], _, h => by cases h
 | p :: l, hn, h => by
  have hn' : (p.nm :: names l).Nodup := hn
  rw [List.nodup_cons] at hn'
  unfold dropP
  by_cases hc : p.nm = k
  · rw [List.filter_cons_of_neg (by simp [hc]), List.filter_eq_self.2 fun q hq => ?_]
    · rfl
    · simp only [Bool.not_eq_true', beq_eq_false_iff_ne]
      exact fun e => hn'.1 (by rw [hc, ← e]; exact mem_names.2 ⟨q, hq, rfl⟩)
  · rw [List.filter_cons_of_pos (by simp [hc]), List.length_cons, List.length_cons]
    have hk : k ∈ names l := by
     have h' : k ∈ p.nm :: names l := h
     rcases List.mem_cons.1 h' with e | e
     · exact absurd e.symm hc
     · exact e
    have ih := dropP_len hn'.2 hk
    unfold dropP at ih
    omega
section
variable {S T U : St}
theorem tail21 {bt bl mt ml : Nat} {ps left : List Pth} (hO : OC U bt bl mt ml ps left) {v5 wl : V} {out rest : List Bs} {a : Bs} {N M : Nat} (h5 : TLo U v5 out N) (hN : N ≤ U.next) (hol : out.length < 10000) (hw : TLo U wl (a :: rest) M) (hM : ∀ r, blkOf v5 = some r → r < M) (hnd : (names left).Nodup) (ha : a ∈ names left) (hml : N ≤ ml) :
 ∃ v5' T, (∀ K : V → St → Rs, ((ixP 1 wl (.int .i64 0)).bind fun t42 =>
(ld1 t42 U).bind fun p43 =>
(bsP 9 1 1 (Go.Proofs.Ytginkdeicmdmaaa.Ev.one (sv [])) [(0, p43.1)] p43.2).bind fun p44 =>
(apP 9 1 16 v5 p44.1 p44.2).bind fun p45 =>
(ld1 (.ptr bl 0) (onS p45.2)).bind fun p47 =>
(ixP 1 wl (.int .i64 0)).bind fun t49 =>
(ld1 t49 (onS p47.2)).bind fun p50 =>
(vu (deleteV E0 48 p47.1 p50.1 (onS p50.2))).bind fun p51 =>
endP [(0, [3])] p45.2 [p47.2.log, [], [], p50.2.log, p51.2.log] p51.2 fun S52 => K p45.1 S52) = K v5' T) ∧ OC T bt bl mt ml ps (dropP a left) ∧ TLo T v5' (out ++ [a]) N ∧ Grew (fun x => N ≤ x) U T := by
 obtain ⟨r0, x1, x2⟩ := hw.tl.ld hO.on (i := 0) (a := a) rfl
 obtain ⟨y, W, v5', X, p1, p2, p3, p4, p5⟩ := h5.push3 hO.on hN (by omega) a
 have hOX := hO.push h5 p4
 have onX := hOX.on
 have hwX : TLo X wl (a :: rest) M := hw.grewW p4 fun r hr h => by
  have h1 := (hw.blk hr).1
  have h2 := hM r h
  omega
 obtain ⟨r1, o1, L1, z1, z2, z3⟩ := hwX.tl.ix (i := 0) (a := a) rfl
 have hr0 : r0 = .ptr r1 o1 := by rw [show ((0 : Nat) : Int) = 0 from rfl] at x1 z1; rw [x1] at z1; exact Option.some.inj z1
 have hl1 : ld1 (.ptr bl 0) (X.lg []) = some (.map ml, X.lg [⟨bl, 0, 1, false⟩]) := ld1_lg onX (Bx.ldv onX hOX.xl big1 rfl) []
 have hl2 : ld1 (.ptr r1 o1) (X.lg []) = some (sv a, X.lg [⟨r1, o1, o1 + 1, false⟩]) := ld1_lg onX (show ld1 (.ptr r1 o1) X = _ from z2.ld1 onX z3) []
 obtain ⟨w, hlk⟩ : ∃ w, lkS a (left.map Pth.kv) = some w := by
  rw [lkS_kv]
  cases hq : lkP a left with
  | none => exact absurd ha (lkP_none.1 hq)
  | some q => exact ⟨_, rfl⟩
 obtain ⟨o, d1, d2⟩ := del_str onX hOX.lf hlk
 obtain ⟨L', d3⟩ := d1 []
 rw [dropS_kv a hnd] at d2
 obtain ⟨U', u1, u2, u3, u4⟩ := relog_any onX (X.put ml o) L' [[⟨bl, 0, 1, false⟩], [], [], [⟨r1, o1, o1 + 1, false⟩], L']
 have hOT := (hOX.del d2).same u2 u3 u4
 have gP := grew_put (s := X) ml o
 have h5P : TLo (X.put ml o) v5' (out ++ [a]) N := p3.grewW gP fun r hr e => by subst e; exact hOX.lf.noRow (p3.blk hr).2
 have h5T : TLo U' v5' (out ++ [a]) N := by
  rcases h5P with h | ⟨r, h0, h1, h2, h3⟩
  · exact .inl h
  · exact .inr ⟨r, h0, h1.same u2, by rw [u3]; exact h2, h3⟩
 refine ⟨v5', U', fun K => ?_, hOT, h5T, ?_⟩
 · rw [show (V.int .i64 0) = .int .i64 ((0 : Nat) : Int) from rfl, x1, oB, x2, oB]
   dsimp only
   rw [p1, oB]
   dsimp only
   rw [p2, oB]
   simp only [ons, lglg]
   rw [hl1, oB, oB, hr0]
   simp only [ons, lglg]
   rw [hl2, oB]
   simp only [ons, lglg]
   rw [d3, oB]
   have hp : pairsOk [[⟨bl, 0, 1, false⟩], [], [], [⟨r1, o1, o1 + 1, false⟩], L'] [(0, [3])] = true := by
    unfold pairsOk
    have : clashAny (logOf 0 [[(⟨bl, 0, 1, false⟩ : LE)], [], [], [⟨r1, o1, o1 + 1, false⟩], L']) [[⟨bl, 0, 1, false⟩], [], [], [⟨r1, o1, o1 + 1, false⟩], L'] [3] = false := by
     unfold clashAny
     rw [clash_or fun e he f hf => ?_]
     · rfl
     · have he' : e ∈ [(⟨bl, 0, 1, false⟩ : LE)] := he
       have hf' : f ∈ [(⟨r1, o1, o1 + 1, false⟩ : LE)] := hf
       rw [List.mem_singleton.1 he', List.mem_singleton.1 hf']
       exact .inr ⟨rfl, rfl⟩
    rw [this]; rfl
   show endP [(0, [3])] X [[⟨bl, 0, 1, false⟩], [], [], [⟨r1, o1, o1 + 1, false⟩], L'] ((X.put ml o).lg L') (fun S52 => K v5' S52) = _
   rw [endP_of hp, u1]
 · have gX : Grew (fun x => N ≤ x) U X := p4.mono fun z _ hz => (h5.blk hz).1
   exact Grew.same (gX.trans (gP.mono fun z _ e => by subst e; exact hml)) u2 u3 (u4.trans onX.symm)
theorem L21_spec {n N : Nat} (ho : S.on = false) {bt bl mt ml : Nat} {ps : List Pth} (hrow : ∀ p ∈ ps, TL S p.rv p.refs) (hlen : ∀ p ∈ ps, p.refs.length < 1000) (hml : S.next ≤ ml) (nk : Ac → St → Rs) (ek : Nat → Ac → St → Rs) :
 ∀ (d : Nat) (left : List Pth) (q : Nat) (v5 : V) (out : List Bs) (U : St), left.length = d → d < q → (names left).Nodup → (∀ p ∈ left, p.nm.length < 1000000) → Grew (fun _ => False) S U → OC U bt bl mt ml ps left → TLo U v5 out S.next → out.length + d < 5000 →
 ∃ w T, L21_13 (ev E0 KD (n + 5)) N nk ek q (.ptr bt 0) (.ptr bl 0) v5 U = ek 0 (fr 33 [(5, w)]) T ∧ Grew (fun _ => False) S T ∧ TLo T w (out ++ orderL ps d left) S.next
 | d, left, 0, v5, out, U, _, hq, _, _, _, _, _, _ => by omega
 | 0, left, q + 1, v5, out, U, hd, hq, hn, hs, g, hO, h5, hb => by
  have q1 : ld1 (.ptr bl 0) U = some (.map ml, U) := Bx.ldv hO.on hO.xl big1 rfl
  refine ⟨v5, U, ?_, g, by unfold orderL; rw [List.append_nil]; exact h5⟩
  rw [L21_13_eq, q1, oB]
  dsimp only
  rw [lnMap_of hO.on hO.lf, oB]
  dsimp only
  rw [List.length_map, hd, binGtr, oB, decide_eq_false (by decide), ifK_bool, cond_false]
 | d + 1, left, q + 1, v5, out, U, hd, hq, hn, hs, g, hO, h5, hb => by
  have onU := hO.on
  obtain ⟨l1, l2, l3, l4⟩ := hO.lt
  have q1 : ld1 (.ptr bl 0) U = some (.map ml, U) := Bx.ldv hO.on hO.xl big1 rfl
  have hne : left ≠ [] := fun e => by rw [e] at hd; cases hd
  obtain ⟨w1, U1, k1, k2, k3⟩ := kept30_run (n + 3) onU hO.lf l4 (by rw [kv_names]; exact hn) (fun p hq => by
   rw [List.mem_map] at hq
   obtain ⟨r, r1, rfl⟩ := hq
   exact Nat.lt_trans (hs r r1) (by decide)) (by rw [List.length_map]; omega) (fv := .fn (.func 37) [] [.ptr bt 0, .ptr bl 0]) (f := readyF ps left) fun V gV k _ => close37 n (hO.grew gV) (fun p hp => ((hrow p hp).grew0 g).grew0 gV) hlen k
  have hO1 := hO.grew k3
  have on1 := hO1.on
  rw [kv_names] at k2
  have k2' : TLo U1 w1 (readyL ps left) U.next := k2
  have q2 : ld1 (.ptr bl 0) U1 = some (.map ml, U1) := Bx.ldv hO1.on hO1.xl big1 rfl
  have h51 := h5.grew k3
  have g1 := g.trans k3
  have hM : ∀ r, blkOf v5 = some r → r < U.next := fun r hr => h5.lt hr
  have hnx := nextP_mem (ps := ps) hne
  have hdl := dropP_len hn hnx
  rw [L21_13_eq, q1, oB]
  dsimp only
  rw [lnMap_of hO.on hO.lf, oB]
  dsimp only
  rw [List.length_map, hd, binGtr, oB, decide_eq_true (by omega), ifK_bool, cond_true, q1, oB]
  dsimp only
  rw [k1, callP_ret, k2'.tl.len, oB]
  dsimp only
  rw [binV_ii, intsV_eql, oB, ifK_bool]
  cases hr : readyL ps left with
  | cons a rest =>
   have hnp : nextP ps left = a := by unfold nextP; rw [hr]
   rw [hr] at k2'
   obtain ⟨v5', T, t1, t2, t3, t4⟩ := tail21 hO1 h51 g1.next (by omega) k2' hM hn (by rw [← hnp]; exact hnx) hml
   obtain ⟨w, E, e1, e2, e3⟩ := L21_spec (n := n) (N := N) ho hrow hlen hml nk ek d (dropP a left) q v5' (out ++ [a]) T (by rw [hnp] at hdl; omega) (by omega) (dropP_nd hn) (fun p hp => hs p (dropP_sub hp)) (Grew.fresh g1 (Nat.le_refl _) t4) t2 t3 (by rw [List.length_append, List.length_singleton]; omega)
   refine ⟨w, E, ?_, e2, ?_⟩
   · rw [decide_eq_false (by rw [List.length_cons]; omega), cond_false]
     exact (t1 fun x s => L21_13 (ev E0 KD (n + 5)) N nk ek q (.ptr bt 0) (.ptr bl 0) x s).trans e1
   · unfold orderL
     rw [hnp]
     rw [List.append_assoc] at e3
     exact e3
  | nil =>
   obtain ⟨w2, U2, m1, m2, m3⟩ := kept30_run (n + 3) on1 hO1.lf (Nat.lt_of_lt_of_le l4 k3.next) (by rw [kv_names]; exact hn) (fun p hq => by
    rw [List.mem_map] at hq
    obtain ⟨r, r1, rfl⟩ := hq
    exact Nat.lt_trans (hs r r1) (by decide)) (by rw [List.length_map]; omega) (fv := .fn (.func 40) [] []) (f := fun _ => true) fun V gV k _ => ⟨V, by
     rw [callK_fn (ext_none (by decide)) (by kernel_rfl)]
     exact rd40 (by
      show F40 (ev E0 KD (n + 3)) rounds (sv k) V = _
      rw [F40_eq]), Grew.refl _ _⟩
   rw [kv_names, List.filter_eq_self.2 (fun _ _ => rfl)] at m2
   have hO2 := hO1.grew m3
   have h52 := h51.grew m3
   have g2 := g1.trans m3
   cases hsrt : sortB (names left) with
   | nil =>
    exfalso
    rw [← mem_sortB, hsrt] at hnx
    cases hnx
   | cons a rest =>
    have hnp : nextP ps left = a := by unfold nextP; rw [hr, hsrt]; rfl
    rw [hsrt] at m2
    obtain ⟨v5', T, t1, t2, t3, t4⟩ := tail21 hO2 h52 g2.next (by omega) m2 (fun r hr => Nat.lt_of_lt_of_le (hM r hr) k3.next) hn (by rw [← hnp]; exact hnx) hml
    obtain ⟨w, E, e1, e2, e3⟩ := L21_spec (n := n) (N := N) ho hrow hlen hml nk ek d (dropP a left) q v5' (out ++ [a]) T (by rw [hnp] at hdl; omega) (by omega) (dropP_nd hn) (fun p hp => hs p (dropP_sub hp)) (Grew.fresh g2 (Nat.le_refl _) t4) t2 t3 (by rw [List.length_append, List.length_singleton]; omega)
    refine ⟨w, E, ?_, e2, ?_⟩
    · rw [decide_eq_true (by rfl), cond_true, q2, oB]
      dsimp only
      rw [m1, callP_ret]
      exact (t1 fun x s => L21_13 (ev E0 KD (n + 5)) N nk ek q (.ptr bt 0) (.ptr bl 0) x s).trans e1
    · unfold orderL
      rw [hnp]
      rw [List.append_assoc] at e3
      exact e3
theorem order_run {n : Nat} (ho : S.on = false) {v : V} {l : List Pth} (hp : PL S v l) (hF : Fit l) :
 ∃ w U, (ev E0 KD (n + 6)).f 21 [v] S = some (.ret w, U) ∧ TLo U w (orderL (refsOf l) (refsOf l).length (refsOf l)) S.next ∧ Grew (fun _ => False) S U := by
 have hF1 := hF.len
 have hlen := refsOf_len l
 obtain ⟨A, mt, a1, a2, a3, a4, a5⟩ := refs_run (n + 4) ho hp (by omega)
 have onA := a2.on.trans ho
 obtain ⟨B, b1, b2, b3, b4⟩ := var_one onA 48 (Go.Proofs.Ytginkdeicmdmaaa.Ev.one .nilmap) (v := .map mt) ⟨rfl, rfl, rfl, rfl⟩
 have onB := b3.on.trans onA
 have hMB := a5.grew a4 (fun h => h) b3
 have l1 : ld1 (.ptr A.next 0) B = some (.map mt, B) := Bx.ldv onB b2 big1 rfl
 obtain ⟨C, c1, c2, c3, c4⟩ := clone_run (n + 4) onB hMB
 have onC := c3.on.trans onB
 obtain ⟨D, d1, d2, d3, d4⟩ := var_one onC 48 (Go.Proofs.Ytginkdeicmdmaaa.Ev.one .nilmap) (v := .map B.next) ⟨rfl, rfl, rfl, rfl⟩
 have onD := d3.on.trans onC
 have gD := ((a2.trans b3).trans c3).trans d3
 have hO : OC D A.next C.next mt B.next (refsOf l) (refsOf l) := by
  refine ⟨onD, (b2.grew (by omega) (fun h => h) c3).grew (by omega) (fun h => h) d3, d2, ⟨by omega, by omega, by omega, by omega⟩, ⟨by omega, by omega, by omega⟩, ((hMB.grew (by omega) (fun h => h) c3).grew (by omega) (fun h => h) d3), c2.grew (by omega) (fun h => h) d3⟩
 obtain ⟨w, T, t1, t2, t3⟩ := L21_spec (n := n) (N := rounds) ho (bt := A.next) (bl := C.next) (mt := mt) (ml := B.next) (fun p hq => hp.2 p (refsOf_mem hq)) (fun p hq => hF.refs p (refsOf_mem hq)) (by have := a2.next; omega) (R21_10 (ev E0 KD (n + 5)) rounds (finN E0 (ev E0 KD (n + 5)) Try.f21) noEx) (exB 0 (R21_10 (ev E0 KD (n + 5)) rounds (finN E0 (ev E0 KD (n + 5)) Try.f21) noEx) noEx) (refsOf l).length (refsOf l) rounds .nilslice [] D rfl (by unfold rounds; omega) (refsOf_nd l) (fun p hq => hF.nm p (refsOf_mem hq)) gD hO .nil (by simp; omega)
 refine ⟨w, T, rd21 ?_, t3, t2⟩
 show F21 (ev E0 KD (n + 5)) rounds v S = _
 rw [F21_eq, a1, callP_ret, oB, nwP_fst, b1, oB]
 dsimp only
 rw [l1, oB]
 dsimp only
 rw [c1, callP_ret, oB, nwP_fst, d1, oB]
 dsimp only
 rw [t1, exB_same, R21_10_eq]
end
end Go.Proofs.Ytginkdeicmdmaaa.W
namespace Go.Proofs.Ytginkdeicmdmaaa.W
section
variable {ps : List Pth} {l : List Nat} {n : Nat}
structure Left (ps left : List Pth) : Prop where
 sub : ∀ p ∈ left, p ∈ ps
 nd : (W.names left).Nodup
theorem Left.drop {left : List Pth} (h : Left ps left) (k : Bs) : Left ps (dropP k left) := ⟨fun p hp => h.sub p (dropP_sub hp), dropP_nd h.nd⟩
theorem order_len (qs : List Pth) : ∀ (d : Nat) (left : List Pth), (orderL qs d left).length = d
 | 0, _ => rfl
 | d + 1, left => by unfold orderL; rw [List.length_cons, order_len qs d]
def own (p : Pth) : Nat := (p.refs.filter fun r => !(r == p.nm)).length
end
end Go.Proofs.Ytginkdeicmdmaaa.W
namespace Go.Proofs.Ytginkdeicmdmaaa.W
open Go.Proofs.Ytginkdeicmdmaaa.Ev Go.RowKit
section
variable {S T U X : St}
end
end Go.Proofs.Ytginkdeicmdmaaa.W
namespace Go.Proofs.Ytginkdeicmdmaaa.W
open Go.Proofs.Ytginkdeicmdmaaa.Ev Go.RowKit
section
variable {S T U X Y : St}
theorem TLo.weak {v : V} {l : List Bs} {M N : Nat} (h : TLo S v l N) (hM : M ≤ N) : TLo S v l M := by
 rcases h with h | ⟨r, h0, h1, h2, h3, h4⟩
 · exact .inl h
 · exact .inr ⟨r, h0, h1, h2, by omega, h4⟩
theorem subOne (n : Nat) (h : n < 1000) : binV E0 .sub 3 false true (.int .i64 (n : Int)) (.int .i64 1) = some (.int .i64 ((n : Int) - 1)) := by
 rw [binV_ii, intsV_sub, wrap_i64 (by omega) (by omega)]
end
end Go.Proofs.Ytginkdeicmdmaaa.W
namespace Go.Proofs.Ytginkdeicmdmaaa.W
open Go.Proofs.Ytginkdeicmdmaaa.Ev Go.RowKit
theorem rd32 {n : Nat} {args : List V} {s : St} {r : En × St} (e : runF E0 (ev E0 KD n) rounds Try.f32 B32 args s = some r) : (ev E0 KD (n + 1)).f 32 args s = some r := ev_read (c := C32) (d := B32) (by kernel_rfl) (by kernel_rfl) (annot_isOf C32 _ (by kernel_rfl)) rfl e
theorem rd33 {n : Nat} {args : List V} {s : St} {r : En × St} (e : runF E0 (ev E0 KD n) rounds Try.f33 B33 args s = some r) : (ev E0 KD (n + 1)).f 33 args s = some r := ev_read (c := C33) (d := B33) (by kernel_rfl) (by kernel_rfl) (annot_isOf C33 _ (by kernel_rfl)) rfl e
theorem rd34 {n : Nat} {args : List V} {s : St} {r : En × St} (e : runF E0 (ev E0 KD n) rounds Try.f34 B34 args s = some r) : (ev E0 KD (n + 1)).f 34 args s = some r := ev_read (c := C34) (d := B34) (by kernel_rfl) (by kernel_rfl) (annot_isOf C34 _ (by kernel_rfl)) rfl e
theorem rd35 {n : Nat} {args : List V} {s : St} {r : En × St} (e : runF E0 (ev E0 KD n) rounds Try.f35 B35 args s = some r) : (ev E0 KD (n + 1)).f 35 args s = some r := ev_read (c := C35) (d := B35) (by kernel_rfl) (by kernel_rfl) (annot_isOf C35 _ (by kernel_rfl)) rfl e
theorem rd41 {n : Nat} {args : List V} {s : St} {r : En × St} (e : runF E0 (ev E0 KD n) rounds Try.f41 B41 args s = some r) : (ev E0 KD (n + 1)).f 41 args s = some r := ev_read (c := C41) (d := B41) (by kernel_rfl) (by kernel_rfl) (annot_isOf C41 _ (by kernel_rfl)) rfl e
theorem rd19 {n : Nat} {args : List V} {s : St} {r : En × St} (e : runF E0 (ev E0 KD n) rounds Try.f19 B19 args s = some r) : (ev E0 KD (n + 1)).f 19 args s = some r := ev_read (c := C19) (d := B19) (by kernel_rfl) (by kernel_rfl) (annot_isOf C19 _ (by kernel_rfl)) rfl e
theorem rd20 {n : Nat} {args : List V} {s : St} {r : En × St} (e : runF E0 (ev E0 KD n) rounds Try.f20 B20 args s = some r) : (ev E0 KD (n + 1)).f 20 args s = some r := ev_read (c := C20) (d := B20) (by kernel_rfl) (by kernel_rfl) (annot_isOf C20 _ (by kernel_rfl)) rfl e
theorem rd22 {n : Nat} {args : List V} {s : St} {r : En × St} (e : runF E0 (ev E0 KD n) rounds Try.f22 B22 args s = some r) : (ev E0 KD (n + 1)).f 22 args s = some r := ev_read (c := C22) (d := B22) (by kernel_rfl) (by kernel_rfl) (annot_isOf C22 _ (by kernel_rfl)) rfl e
theorem rd24 {n : Nat} {args : List V} {s : St} {r : En × St} (e : runF E0 (ev E0 KD n) rounds Try.f24 B24 args s = some r) : (ev E0 KD (n + 1)).f 24 args s = some r := ev_read (c := C24) (d := B24) (by kernel_rfl) (by kernel_rfl) (annot_isOf C24 _ (by kernel_rfl)) rfl e
theorem rd5 {n : Nat} {args : List V} {s : St} {r : En × St} (e : runF E0 (ev E0 KD n) rounds Try.f5 B5 args s = some r) : (ev E0 KD (n + 1)).f 5 args s = some r := ev_read (c := C5) (d := B5) (by kernel_rfl) (by kernel_rfl) (annot_isOf C5 _ (by kernel_rfl)) rfl e
theorem rd15 {n : Nat} {args : List V} {s : St} {r : En × St} (e : runF E0 (ev E0 KD n) rounds Try.f15 B15 args s = some r) : (ev E0 KD (n + 1)).f 15 args s = some r := ev_read (c := C15) (d := B15) (by kernel_rfl) (by kernel_rfl) (annot_isOf C15 _ (by kernel_rfl)) rfl e
theorem rd16 {n : Nat} {args : List V} {s : St} {r : En × St} (e : runF E0 (ev E0 KD n) rounds Try.f16 B16 args s = some r) : (ev E0 KD (n + 1)).f 16 args s = some r := ev_read (c := C16) (d := B16) (by kernel_rfl) (by kernel_rfl) (annot_isOf C16 _ (by kernel_rfl)) rfl e
theorem rd17 {n : Nat} {args : List V} {s : St} {r : En × St} (e : runF E0 (ev E0 KD n) rounds Try.f17 B17 args s = some r) : (ev E0 KD (n + 1)).f 17 args s = some r := ev_read (c := C17) (d := B17) (by kernel_rfl) (by kernel_rfl) (annot_isOf C17 _ (by kernel_rfl)) rfl e
theorem rd18 {n : Nat} {args : List V} {s : St} {r : En × St} (e : runF E0 (ev E0 KD n) rounds Try.f18 B18 args s = some r) : (ev E0 KD (n + 1)).f 18 args s = some r := ev_read (c := C18) (d := B18) (by kernel_rfl) (by kernel_rfl) (annot_isOf C18 _ (by kernel_rfl)) rfl e
def fixP (a : Bs) : List Pth → Option Nat
 | [] => none
 | p :: l => if p.nm = a then some 0 else (fixP a l).map (· + 1)
def fixI (a : Bs) (l : List Pth) : Int := match fixP a l with
 | some i => (i : Int)
 | none => -1
theorem fixP_some {a : Bs} : ∀ {l : List Pth} {i : Nat}, fixP a l = some i → ∃ p, l[i]? = some p ∧ lkP a l = some p
 | [], i, h => by cases h
 | p :: l, i, h => by
  unfold fixP at h
  unfold lkP
  by_cases hc : p.nm = a
  · rw [if_pos hc] at h
    cases h
    exact ⟨p, rfl, by rw [if_pos hc.symm]⟩
  · rw [if_neg hc] at h
    rw [if_neg (fun e => hc e.symm)]
    cases hq : fixP a l with
    | none => rw [hq] at h; cases h
    | some j =>
     rw [hq] at h
     cases h
     obtain ⟨q, q1, q2⟩ := fixP_some hq
     exact ⟨q, by simpa using q1, q2⟩
theorem fixP_none {a : Bs} : ∀ {l : List Pth}, fixP a l = none ↔ a ∉ names l
 | [] => by simp [fixP, names]
 | p :: l => by
  unfold fixP
  by_cases hc : p.nm = a
  · rw [if_pos hc]; simp [names, hc]
  · rw [if_neg hc, Option.map_eq_none_iff, fixP_none]
    simp [names, Ne.symm hc]
theorem fixI_geq (a : Bs) (l : List Pth) : (0 ≤ fixI a l) ↔ a ∈ names l := by
 unfold fixI
 cases h : fixP a l with
 | none => simp only [fixP_none.1 h, iff_false]; omega
 | some i =>
  have : a ∈ names l := by
   by_cases hn : a ∈ names l
   · exact hn
   · rw [fixP_none.2 hn] at h; cases h
  simp only [this, iff_true]; omega
def putB (s : Bs) : List Bs → List Bs
 | [] => [s]
 | x :: l => if x < s then x :: putB s l else if x = s then x :: l else s :: x :: l
def atB (s : Bs) : List Bs → Nat
 | [] => 0
 | x :: l => if x < s then atB s l + 1 else 0
theorem atB_le (s : Bs) : ∀ l : List Bs, atB s l ≤ l.length
 | [] => Nat.le_refl _
 | x :: l => by
  unfold atB
  split
  · have := atB_le s l; simp; omega
  · omega
theorem putB_at (s : Bs) : ∀ l : List Bs, putB s l = if l[atB s l]? = some s then l else l.take (atB s l) ++ [s] ++ l.drop (atB s l)
 | [] => by simp [putB, atB]
 | x :: l => by
  unfold putB atB
  by_cases h : x < s
  · rw [if_pos h, if_pos h, List.getElem?_cons_succ, putB_at s l]
    by_cases h2 : l[atB s l]? = some s
    · rw [if_pos h2, if_pos h2]
    · rw [if_neg h2, if_neg h2]; simp
  · rw [if_neg h, if_neg h, List.getElem?_cons_zero]
    by_cases h2 : x = s
    · rw [if_pos h2, if_pos (by rw [h2])]
    · rw [if_neg h2, if_neg (by simpa using h2)]; rfl
theorem mem_putB {s a : Bs} : ∀ {l : List Bs}, a ∈ putB s l ↔ a = s ∨ a ∈ l
 | [] => by simp [putB]
 | x :: l => by
  unfold putB
  split
  · rw [List.mem_cons, mem_putB, List.mem_cons]
    constructor
    · rintro (h | h | h) <;> simp [h]
    · rintro (h | h | h) <;> simp [h]
  · split
    · rename_i h; subst h; simp
    · simp
theorem putB_pw {s : Bs} : ∀ {l : List Bs}, l.Pairwise (· < ·) → (putB s l).Pairwise (· < ·)
 | [], _ => by simp [putB]
 | x :: l, h => by
  rw [List.pairwise_cons] at h
  unfold putB
  split
  · rename_i hlt
    refine List.pairwise_cons.2 ⟨fun z hz => ?_, putB_pw h.2⟩
    rcases mem_putB.1 hz with rfl | hz
    · exact hlt
    · exact h.1 z hz
  · rename_i hlt
    split
    · exact List.pairwise_cons.2 h
    · rename_i hne
      have hsx : s < x := by
       rcases List.le_iff_lt_or_eq.1 (List.not_lt.1 hlt) with h' | h'
       · exact h'
       · exact absurd h'.symm hne
      refine List.pairwise_cons.2 ⟨fun z hz => ?_, List.pairwise_cons.2 h⟩
      rcases List.mem_cons.1 hz with rfl | hz
      · exact hsx
      · exact List.lt_trans hsx (h.1 z hz)
theorem putB_len (s : Bs) : ∀ l : List Bs, (putB s l).length ≤ l.length + 1
 | [] => by simp [putB]
 | x :: l => by
  unfold putB
  split
  · have := putB_len s l; simp; omega
  · split <;> simp
section
variable {S T U : St}
theorem L32_spec {m N : Nat} (ho : S.on = false) {v : V} {ps : List Pth} (hp : PL S v ps) (hlen : ps.length < 1000000) (a : Bs) (nk : Ac → St → Rs) (ek : Nat → Ac → St → Rs) (hek : ek 0 (fr 20 []) S = some (.ret (.int .i64 (-1)), S)) :
 ∀ (rest : List Pth) (i q : Nat), ps.drop i = rest → rest.length < q →
 L32_4 (ev E0 KD m) N nk ek q v (sv a) (.int .i64 (i : Int)) S = some (.ret (.int .i64 (match fixP a rest with | some j => ((i + j : Nat) : Int) | none => -1)), S)
 | rest, i, 0, _, hq => by omega
 | [], i, q + 1, hi, hq => by
  rw [L32_4_eq, hp.len, oB]
  dsimp only
  rw [binV_ii, intsV_lss, dec_ge (drop_end hi), oB, ifK_bool, cond_false, hek]
  rfl
 | p :: rest, i, q + 1, hi, hq => by
  obtain ⟨hlt, hf, hrest, hmem⟩ := drop_at hi
  have hpi : ps[i]? = some p := by rw [List.getElem?_eq_getElem hlt, hf]
  obtain ⟨r, x1, x2⟩ := hp.ix hpi
  rw [L32_4_eq, hp.len, oB]
  dsimp only
  rw [binV_ii, intsV_lss, dec_lt hlt, oB, ifK_bool, cond_true, x1, oB, faPg, oB, PL.name ho hpi x2, oB]
  dsimp only
  rw [eqStr, oB, ifK_bool]
  unfold fixP
  by_cases h : p.nm = a
  · rw [show (p.nm == a) = true by simp [h], cond_true, if_pos h]
    rfl
  · rw [show (p.nm == a) = false from beq_false_of_ne h, cond_false, if_neg h, binV_ii, intsV_add, wrap_succ (by omega), oB, L32_spec ho hp hlen a nk ek hek rest (i + 1) q hrest (by simp at hq; omega)]
    cases fixP a rest with
    | none => rfl
    | some j => simp only [Option.map_some, show i + 1 + j = i + (j + 1) by omega]
theorem find_run (m : Nat) (ho : S.on = false) {v : V} {ps : List Pth} (hp : PL S v ps) (hlen : ps.length < 1000000) (a : Bs) : (ev E0 KD (m + 1)).f 32 [v, sv a] S = some (.ret (.int .i64 (fixI a ps)), S) := rd32 (by
 show F32 (ev E0 KD m) rounds v (sv a) S = _
 rw [F32_eq, show (V.int .i64 0) = .int .i64 ((0 : Nat) : Int) from rfl, L32_spec ho hp hlen a _ _ (by rw [exB_same, R32_1_eq]) ps 0 rounds rfl (by unfold rounds; omega)]
 unfold fixI
 cases fixP a ps with
 | none => rfl
 | some j => simp only [Nat.zero_add])
theorem L35_spec {m N : Nat} (ho : S.on = false) {v : V} {l : List Bs} (hl : TL S v l) (hlen : l.length < 1000000) (x : Bs) (nk : Ac → St → Rs) (ek : Nat → Ac → St → Rs) :
 ∀ (rest : List Bs) (i q : Nat), l.drop i = rest → rest.length < q →
 L35_4 (ev E0 KD m) N nk ek q v (sv x) (.int .i64 (i : Int)) S = if x ∈ rest then some (.ret (.bool true), S) else ek 0 (fr 18 []) S
 | rest, i, 0, _, hq => by omega
 | [], i, q + 1, hi, hq => by
  rw [L35_4_eq, hl.len, oB]
  dsimp only
  rw [binV_ii, intsV_lss, dec_ge (drop_end hi), oB, ifK_bool, cond_false, if_neg (by simp)]
 | a :: rest, i, q + 1, hi, hq => by
  obtain ⟨hlt, hf, hrest, hmem⟩ := drop_at hi
  obtain ⟨p, p1, p2⟩ := hl.ld ho (show l[i]? = some a by rw [List.getElem?_eq_getElem hlt, hf])
  rw [L35_4_eq, hl.len, oB]
  dsimp only
  rw [binV_ii, intsV_lss, dec_lt hlt, oB, ifK_bool, cond_true, p1, oB, p2, oB]
  dsimp only
  rw [eqStr, oB, ifK_bool]
  by_cases h : a = x
  · rw [show (a == x) = true by simp [h], cond_true, if_pos (by simp [h])]
  · rw [show (a == x) = false from beq_false_of_ne h, cond_false, binV_ii, intsV_add, wrap_succ (by omega), oB, L35_spec ho hl hlen x nk ek rest (i + 1) q hrest (by simp at hq; omega)]
    by_cases h2 : x ∈ rest
    · rw [if_pos h2, if_pos (by simp [h2])]
    · rw [if_neg h2, if_neg (by simp [h2, Ne.symm h])]
theorem hasR_run (m : Nat) (ho : S.on = false) {v : V} {l : List Bs} (hl : TL S v l) (hlen : l.length < 1000000) (x : Bs) : (ev E0 KD (m + 1)).f 35 [v, sv x] S = some (.ret (.bool (decide (x ∈ l))), S) := rd35 (by
 show F35 (ev E0 KD m) rounds v (sv x) S = _
 rw [F35_eq, show (V.int .i64 0) = .int .i64 ((0 : Nat) : Int) from rfl, L35_spec ho hl hlen x _ _ l 0 rounds rfl (by unfold rounds; omega)]
 by_cases h : x ∈ l
 · rw [if_pos h, decide_eq_true h]
 · rw [if_neg h, exB_same, R35_1_eq, decide_eq_false h])
theorem ltStr (c d : Bool) (a b : Bs) : binV E0 .lss 9 c d (sv a) (sv b) = some (.bool (decide (a < b))) := by
 rw [binV_ss]
 show some (V.bool (sLess a.length a.length (pack a) b.length (pack b))) = _
 rw [sLess_eq]
 congr 2
 rw [Bool.eq_iff_iff, decide_eq_true_eq]
 exact bless_iff
theorem L33_spec {m N : Nat} (ho : S.on = false) {v : V} {l : List Bs} (hl : TL S v l) (hlen : l.length < 1000000) (s : Bs) (nk : Ac → St → Rs) (ek : Nat → Ac → St → Rs) :
 ∀ (rest : List Bs) (i q : Nat), l.drop i = rest → rest.length < q →
 L33_35 (ev E0 KD m) N nk ek q v (sv s) (.int .i64 (i : Int)) S = ek 0 (fr 48 [(0, v), (1, sv s), (5, .int .i64 ((i + atB s rest : Nat) : Int))]) S
 | rest, i, 0, _, hq => by omega
 | [], i, q + 1, hi, hq => by
  rw [L33_35_eq, hl.len, oB]
  dsimp only
  rw [binV_ii, intsV_lss, dec_ge (drop_end hi), oB]
  simp only [gTF, oB, cond_false, pickV_bool, ifK_bool]
  rfl
 | a :: rest, i, q + 1, hi, hq => by
  obtain ⟨hlt, hf, hrest, hmem⟩ := drop_at hi
  obtain ⟨p, p1, p2⟩ := hl.ld ho (show l[i]? = some a by rw [List.getElem?_eq_getElem hlt, hf])
  rw [L33_35_eq, hl.len, oB]
  dsimp only
  rw [binV_ii, intsV_lss, dec_lt hlt, oB]
  simp only [gTT, oB, cond_true]
  rw [p1, oB, p2, oB]
  dsimp only
  rw [ltStr, oB, pickV_bool, cond_true, oB, ifK_bool]
  unfold atB
  by_cases h : a < s
  · rw [decide_eq_true h, cond_true, if_pos h, binV_ii, intsV_add, wrap_succ (by omega), oB, L33_spec ho hl hlen s nk ek rest (i + 1) q hrest (by simp at hq; omega), show i + 1 + atB s rest = i + (atB s rest + 1) by omega]
  · rw [decide_eq_false h, cond_false, if_neg h, Nat.add_zero]
end
end Go.Proofs.Ytginkdeicmdmaaa.W
