/-
  WHAT THE FUNCTIONS COME TO: each is read by the evaluator, printed, and told as a function of data, part 3 of 6 (no condition).
-/
import Derived.Test.YtbfdabjcgcbimaaRW2
namespace Go.Proofs.YtbfdabjcgcbimaaR.W
open Go.Proofs.YtbfdabjcgcbimaaR.Ev Go.RowKit
section
variable {s S T U X Y : St}
theorem TL.ldOn (ho : S.on = false) {v : V} {l : List Bs} (h : TL S v l) {i : Nat} {a : Bs} (ha : l[i]? = some a) (L : List LE) : ∃ p r o, ixP 1 v (.int .i64 (i : Int)) = some p ∧ ld1 p (S.lg L) = some (sv a, S.lg (⟨r, o, o + 1, false⟩ :: L)) := by
 obtain ⟨r, o, M, h1, h2, h3⟩ := h.ix ha
 exact ⟨_, r, o, h1, ld1_lg ho (show ld1 (.ptr r o) S = _ from h2.ld1 ho h3) L⟩
theorem min300 (n : Nat) (S : St) : foldK minV (.int .i64 (n : Int)) [(.int .i64 300)] S = some (.int .i64 ((min n 300 : Nat) : Int), S) := by
 rw [foldK_min]
 congr 3
 omega
def fewL (l : List Bs) : List Bs := (l.take 8).map fun a => a.take 300
theorem L6_spec {m N : Nat} (ho : X.on = false) {v0 : V} {l : List Bs} (hl : TV v0 l) (nk : Ac → St → Rs) (ek : Nat → Ac → St → Rs) :
 ∀ (d i q : Nat) (v3 : V) (U : St), i + d = min l.length 8 → d < q → Grew (fun _ => False) X U → TLo U v3 (((l.take 8).take i).map fun a => a.take 300) X.next →
 ∃ w T, L6_6 (ev E0 KD m) N nk ek q v0 v3 (.int .i64 (i : Int)) U = ek 0 (fr 30 [(3, w)]) T ∧ TLo T w (fewL l) X.next ∧ Grew (fun _ => False) X T
 | d, i, 0, v3, U, _, hq, _, _ => by omega
 | 0, i, q + 1, v3, U, hi, hq, g, ht => by
  refine ⟨v3, U, ?_, ?_, g⟩
  · rw [L6_6_eq, hl.len, oB]
    dsimp only
    rw [show (V.int .i64 8) = .int .i64 ((8 : Nat) : Int) from rfl, lim_cond i l.length 8 (by omega), show (decide (i < l.length) && decide (i < 8)) = false from by
     rw [Bool.and_eq_false_iff, decide_eq_false_iff_not, decide_eq_false_iff_not]; omega, ifK_bool, cond_false]
  · rw [List.take_of_length_le (l := l.take 8) (by rw [List.length_take]; omega)] at ht
    exact ht
 | d + 1, i, q + 1, v3, U, hi, hq, g, ht => by
  have onU := g.on.trans ho
  have h1 : i < l.length := by omega
  have h2 : i < 8 := by omega
  have hix := hl.ix (List.getElem?_eq_getElem h1)
  obtain ⟨y, W, v', V1, b1, b2, b3, b4⟩ := ht.push onU g.next (by rw [List.length_map, List.length_take, List.length_take]; omega) (l[i].take 300)
  obtain ⟨L1, c1⟩ := lg_of (lg_bsP _ _ _ _ _) b1 []
  obtain ⟨L2, c2⟩ := lg_of (lg_apP _ _ _ _ _) b2 []
  obtain ⟨U', u1, u2, u3, u4⟩ := relog_any onU V1 [] [[], [], [], [], (U.lg []).log, [], [], [], (U.lg []).log, (U.lg []).log, (U.lg []).log, (U.lg []).log, (W.lg L1).log, (V1.lg L2).log, []]
  have gV : Grew (fun _ => False) X V1 := Grew.fresh g (Nat.le_refl _) b4
  have gU' : Grew (fun _ => False) X U' := Grew.same gV u2 u3 (u4.trans (gV.on.trans ho).symm)
  have ht' : TLo U' v' (((l.take 8).take (i + 1)).map fun a => a.take 300) X.next := by
   rw [map_take_push l _ h1 h2]
   rcases b3 with h | ⟨r, k0, k1, k2, k3⟩
   · exact .inl h
   · exact .inr ⟨r, k0, k1.same u2, by rw [u3]; exact k2, k3⟩
  obtain ⟨w, T, t1, t2, t3⟩ := L6_spec (m := m) (N := N) ho hl nk ek d (i + 1) q v' U' (by omega) (by omega) gU' ht'
  refine ⟨w, T, ?_, t2, t3⟩
  rw [L6_6_eq, hl.len, oB]
  dsimp only
  rw [show (V.int .i64 8) = .int .i64 ((8 : Nat) : Int) from rfl, lim_cond i l.length 8 (by omega), decide_eq_true h1, decide_eq_true h2, Bool.and_self, ifK_bool, cond_true, hix, oB]
  simp only [ons, lglg, ldc, oB, lnStr_sv]
  rw [min300, oB]
  simp only [ons, lglg]
  rw [cutN, oB]
  simp only [ons, lglg]
  rw [c1, oB]
  simp only [ons, lglg]
  rw [c2, oB]
  simp only [ons, lglg]
  have hp : pairsOk [[], [], [], [], (U.lg []).log, [], [], [], (U.lg []).log, (U.lg []).log, (U.lg []).log, (U.lg []).log, (W.lg L1).log, (V1.lg L2).log, []] [(4, [8, 9, 10])] = true := rfl
  rw [endP_of hp]
  refine Eq.trans (b := L6_6 (ev E0 KD m) N nk ek q v0 v' (.int .i64 ((i + 1 : Nat) : Int)) U') ?_ t1
  rw [binV_ii, intsV_add, wrap_succ (by omega), oB]
  rw [← u1]
theorem few_run (m : Nat) (ho : X.on = false) {v0 : V} {l : List Bs} (hl : TV v0 l) : ∃ w T, (ev E0 KD (m + 1)).f 6 [v0] X = some (.ret w, T) ∧ TLo T w (fewL l) X.next ∧ Grew (fun _ => False) X T := by
 obtain ⟨w, T, t1, t2, t3⟩ := L6_spec (m := m) (N := rounds) ho hl (R6_2 (ev E0 KD m) rounds (finN E0 (ev E0 KD m) Try.f6) noEx) (exB 0 (R6_2 (ev E0 KD m) rounds (finN E0 (ev E0 KD m) Try.f6) noEx) noEx) (min l.length 8) 0 rounds .nilslice X (Nat.zero_add _) (by unfold rounds; omega) (Grew.refl _ _) .nil
 refine ⟨w, T, rd6 ?_, t2, t3⟩
 show F6 (ev E0 KD m) rounds v0 X = _
 rw [F6_eq, show (V.int .i64 0) = .int .i64 ((0 : Nat) : Int) from rfl, t1, exB_same, R6_2_eq]
theorem L9t_spec {m N : Nat} (ho : S.on = false) {v w : V} {l k : List Bs} (hl : TL S v l) (hk : TL S w k) (hlen : l.length = k.length) (hb : l.length < 1000000) (nk : Ac → St → Rs) (ek : Nat → Ac → St → Rs) :
 ∀ (d i q : Nat), i + d = l.length → d < q →
 L9_10 (ev E0 KD m) N nk ek q v w (.int .i64 (i : Int)) S = if l.drop i = k.drop i then ek 0 (fr 26 []) S else some (.ret (.bool false), S)
 | d, i, 0, _, hq => by omega
 | 0, i, q + 1, hi, hq => by
  rw [L9_10_eq, hl.len, oB]
  dsimp only
  rw [binV_ii, intsV_lss, dec_ge (by omega), oB, ifK_bool, cond_false, List.drop_of_length_le (by omega), List.drop_of_length_le (by omega), if_pos rfl]
 | d + 1, i, q + 1, hi, hq => by
  have h1 : i < l.length := by omega
  have h2 : i < k.length := by omega
  obtain ⟨p, r, o, p1, p2⟩ := hl.ldOn ho (List.getElem?_eq_getElem h1) []
  obtain ⟨p', r', o', p1', p2'⟩ := hk.ldOn ho (List.getElem?_eq_getElem h2) []
  rw [L9_10_eq, hl.len, oB]
  dsimp only
  rw [binV_ii, intsV_lss, dec_lt h1, oB, ifK_bool, cond_true, p1, oB]
  simp only [ons, lglg]
  rw [p2, oB, p1', oB]
  simp only [ons, lglg]
  rw [p2', oB, neStr, oB]
  simp only [ons, lglg]
  rw [endP_rd (rds_of ?_), relog_same ho ho rfl, ifK_bool, List.drop_eq_getElem_cons h1, List.drop_eq_getElem_cons h2]
  · by_cases he : l[i] = k[i]
    · rw [show (l[i] == k[i]) = true by simp [he], Bool.not_true, cond_false, binV_ii, intsV_add, wrap_succ (by omega), oB, L9t_spec ho hl hk hlen hb nk ek d (i + 1) q (by omega) (by omega)]
      by_cases h3 : l.drop (i + 1) = k.drop (i + 1)
      · rw [if_pos h3, if_pos (by rw [he, h3])]
      · rw [if_neg h3, if_neg (fun e => h3 (List.cons.inj e).2)]
    · rw [show (l[i] == k[i]) = false from beq_false_of_ne he, Bool.not_false, cond_true, if_neg (fun e => he (List.cons.inj e).1)]
  · intro L hL e he
    simp only [List.mem_cons, List.not_mem_nil, or_false] at hL
    rcases hL with rfl | rfl | rfl | rfl | rfl | rfl | rfl | rfl | rfl <;> first | (cases he; done) | (cases List.mem_singleton.1 he; rfl)
theorem same_run (m : Nat) (ho : S.on = false) {v w : V} {l : List Bs} (hl : TL S v l) (hk : TL S w l) (hb : l.length < 1000000) : (ev E0 KD (m + 1)).f 9 [v, w] S = some (.ret (.bool true), S) := rd9 (by
 show F9 (ev E0 KD m) rounds v w S = _
 rw [F9_eq, hl.len, oB]
 dsimp only
 rw [hk.len, oB]
 dsimp only
 rw [neqInt, oB, decide_eq_true rfl, Bool.not_true, ifK_bool, cond_false, show (V.int .i64 0) = .int .i64 ((0 : Nat) : Int) from rfl, L9t_spec ho hl hk rfl hb _ _ l.length 0 rounds (Nat.zero_add _) (by unfold rounds; omega), if_pos rfl, exB_same, R9_7_eq])
theorem und28 : und E0 28 = some (.slice 9) := by kernel_rfl
theorem size9 : sizeT E0 9 = some 1 := by kernel_rfl
theorem zero9 : zeroT E0 9 = some (sv []) := by kernel_rfl
theorem eqnil_o (r n : Nat) : binV E0 .eql 28 false true (.oslice r 0 n 1) .nilslice = some (.bool false) := by kernel_rfl
theorem eqnil_n : binV E0 .eql 28 false true .nilslice .nilslice = some (.bool true) := by kernel_rfl
theorem clone_run (m : Nat) (ho : S.on = false) {v : V} {l : List Bs} {N : Nat} (h : TLo S v l N) (hl : l.length < 1000000) : ∃ w U, (ev E0 KD (m + 1)).f 17 [v] S = some (.ret w, U) ∧ TLo U w l S.next ∧ Grew (fun _ => False) S U := by
 rcases h with ⟨rfl, rfl⟩ | ⟨r, rfl, h1, h2, h3, h0⟩
 · refine ⟨.nilslice, S, rd17 ?_, .nil, Grew.refl _ _⟩
   show F17 (ev E0 KD m) rounds .nilslice S = _
   rw [F17_eq, eqnil_n, oB, ifK_bool, cond_true]
 · have g1 := grew_nw ho (fun _ => False) (.cells 9 1 0 false (Tr.tab 0 0 fun _ => Go.Proofs.YtbfdabjcgcbimaaR.Ev.one (sv [])))
   generalize hA : nw S (.cells 9 1 0 false (Tr.tab 0 0 fun _ => Go.Proofs.YtbfdabjcgcbimaaR.Ev.one (sv []))) = A at g1
   have nA : A.next = S.next + 1 := by rw [← hA]; rfl
   have onA := g1.on.trans ho
   have hr := h1.grew h2 (fun h => h) g1
   have hld := hr.ldN onA l.length 0 (by rw [rowOf_length]; omega)
   rw [Nat.zero_mul, List.drop_zero, List.take_of_length_le (by rw [rowOf_length]; exact Nat.le_refl _)] at hld
   have g2 := grew_nw onA (fun _ => False) (.cells 9 1 (rowOf l).length false (Tr.ofListFrom .nil (rowOf l) 0))
   refine ⟨.oslice A.next 0 l.length 1, newCells A 9 1 (rowOf l), rd17 ?_, .inr ⟨A.next, rfl, rowAt_newCells onA (by omega) (by rw [rowOf_length]; unfold big; omega), by show A.next < A.next + 1; omega, by omega, h0⟩, g1.trans g2⟩
   show F17 (ev E0 KD m) rounds (.oslice r 0 l.length 1) S = _
   rw [F17_eq, eqnil_o, oB, ifK_bool, cond_false]
   have hb : bsP 9 1 0 (Go.Proofs.YtbfdabjcgcbimaaR.Ev.one (sv [])) [] S = some (.slice S.next 0 0 0, A) := by rw [← hA]; rfl
   rw [hb, oB]
   dsimp only
   have ha : apP 9 1 16 (.slice S.next 0 0 0) (.oslice r 0 l.length 1) A = some (.oslice A.next 0 l.length 1, newCells A 9 1 (rowOf l)) := by
    unfold apP
    simp only [Go.Proofs.YtbfdabjcgcbimaaR.Ev.lenV, oB, blt_true.2 (show (0 + l.length) * (16 + 1 + 1) < maxCells by unfold maxCells; omega), cond_true]
    unfold appendV firstV
    simp only [hld, oB]
    rw [show Nat.ble (0 + l.length) 0 = false from by
     cases hh : Nat.ble (0 + l.length) 0 with
     | false => rfl
     | true => rw [ble_true] at hh; omega, cond_false]
    show some (V.oslice A.next 0 (0 + l.length) 1, _) = _
    rw [Nat.zero_add]; rfl
   rw [ha, oB]
theorem grow_run (m : Nat) (ho : S.on = false) {n : Nat} (h0 : 0 < n) (hn : n < 1000000) : ∃ U, (ev E0 KD (m + 1)).f 36 [.nilslice, .int .i64 (n : Int)] S = some (.ret (.oslice S.next 0 0 1), U) ∧ RowAt U S.next 9 1 (List.replicate n (Go.Proofs.YtbfdabjcgcbimaaR.Ev.one (sv []))) ∧ Grew (fun _ => False) S U ∧ U.next = S.next + 1 := by
 have hrow : RowAt (makeRow S 9 1 (sv []) n) S.next 9 1 (List.replicate n (sv []).cells) := rowAt_makeRow ho (by omega) (by unfold big; omega)
 have g := grew_nw ho (fun _ => False) (.cells 9 1 n false (.all (sv []).cells))
 refine ⟨makeRow S 9 1 (sv []) n, rd36 ?_, hrow, g, rfl⟩
 show F36 (ev E0 KD m) rounds .nilslice (.int .i64 (n : Int)) S = _
 have c1 : ∀ U, capP .nilslice U = some (.int .i64 0, U) := fun _ => rfl
 have c2 : ∀ U, lnS .nilslice U = some (.int .i64 0, U) := fun _ => rfl
 have c3 : ∀ U, sliceV E0 28 .nilslice none (some (.int .i64 0)) none U = some (.nilslice, U) := fun U => by
  unfold sliceV
  rw [und28]; rfl
 have c4 : extendAt E0 9 1 16 .nilslice (.int .i64 (n : Int)) S = some (.oslice S.next 0 n 1, makeRow S 9 1 (sv []) n) := by
  unfold extendAt
  show (bif Nat.blt 0 n && Nat.blt (n * (16 + 1 + 1)) maxCells then _ else none) = _
  rw [blt_true.2 h0, blt_true.2 (show n * (16 + 1 + 1) < maxCells by unfold maxCells; omega), zero9]
  rfl
 have c5 : sliceV E0 28 (.oslice S.next 0 n 1) none (some (.int .i64 0)) none (makeRow S 9 1 (sv []) n) = some (.oslice S.next 0 0 1, makeRow S 9 1 (sv []) n) := by
  unfold sliceV
  rw [und28]
  simp only [oB, size9, Nat.beq_refl, show Nat.blt 0 1 = true from rfl, Bool.and_self, cond_true]
  obtain ⟨c, hc, _⟩ := hrow.row
  have hon : (makeRow S 9 1 (sv []) n).on = false := g.on.trans ho
  unfold sizeB
  rw [hc]
  simp only [List.length_replicate, Nat.one_mul, blt_true.2 (show n < big by unfold big; omega), cond_true, oB, note_off hon]
  rw [show (n - 0) / 1 = n by omega, show (V.int .i64 0) = .int .i64 ((0 : Nat) : Int) from rfl, bounds_hi .i64 (by omega), oB]
  simp only [blt_true.2 h0, cond_true]
 rw [F36_eq, binV_ii, intsV_lss, show decide ((n : Int) < 0) = false from by simp, oB, ifK_bool, cond_false]
 rw [R36_1_eq, c1, oB]
 dsimp only
 rw [c2, oB]
 dsimp only
 rw [show binV E0 .sub 3 false false (.int .i64 0) (.int .i64 0) = some (.int .i64 0) from rfl, oB, binV_ii, intsV_sub, wrap_i64 (by omega) (by omega), oB, Int.sub_zero, binV_ii, intsV_gtr, show decide ((0 : Int) < (n : Int)) = true from by simp; omega, oB, ifK_bool, cond_true, c1, oB]
 dsimp only
 rw [c3, oB]
 dsimp only
 rw [c4, oB]
 dsimp only
 rw [c2, oB]
 dsimp only
 rw [c5, oB]
theorem ap_in (ho : S.on = false) {r k N : Nat} {L : List (Tr V)} (hr : RowAt S r 9 1 L) {y : V} {m : List Bs} (hy : TLo S y m N) (hkm : k + m.length ≤ L.length) (hL : L.length < 1000000) :
 ∃ U, apP 9 1 16 (.oslice r 0 k 1) y S = some (.oslice r 0 (k + m.length) 1, U) ∧ RowAt U r 9 1 (L.take k ++ rowOf m ++ L.drop (k + m.length)) ∧ Grew (fun x => x = r) S U ∧ U.next = S.next := by
 obtain ⟨U, u1, u2, u3, u4⟩ := hr.stN (rowOf m) ho k (by rw [rowOf_length]; exact hkm)
 rw [rowOf_length] at u2
 refine ⟨U, ?_, u2, u3, u4⟩
 have hf : Go.Proofs.YtbfdabjcgcbimaaR.Ev.lenV y = some m.length ∧ firstV 1 m.length y S = some (rowOf m, S) := by
  rcases hy with ⟨rfl, rfl⟩ | ⟨r', rfl, h1, h2, h3, h0⟩
  · exact ⟨rfl, rfl⟩
  · refine ⟨rfl, ?_⟩
    have := h1.ldN ho m.length 0 (by rw [rowOf_length]; omega)
    rw [Nat.zero_mul, List.drop_zero, List.take_of_length_le (by rw [rowOf_length]; exact Nat.le_refl _)] at this
    exact this
 obtain ⟨c, hc, _⟩ := hr.row
 unfold apP
 rw [hf.1]
 simp only [Go.Proofs.YtbfdabjcgcbimaaR.Ev.lenV, oB, blt_true.2 (show (k + m.length) * (16 + 1 + 1) < maxCells by unfold maxCells; omega), cond_true]
 unfold appendV
 rw [hf.2]
 simp only [oB, Nat.beq_refl, cond_true]
 unfold sizeB
 rw [hc]
 simp only [Nat.one_mul, blt_true.2 hr.len, cond_true, oB, note_off ho, Nat.mul_one, Nat.zero_add, ble_true.2 hkm]
 rw [Nat.mul_one] at u1
 rw [u1]; rfl
theorem addNat {a c : Nat} (h : a + c < 4611686018427387904) : binV E0 .add 3 false false (.int .i64 (a : Int)) (.int .i64 (c : Int)) = some (.int .i64 ((a + c : Nat) : Int)) := by
 rw [binV_ii, intsV_add, wrap_i64 (by omega) (by omega)]
 rfl
theorem succNat {a : Nat} (h : a < 4611686018427387904) : binV E0 .add 3 false true (.int .i64 (a : Int)) (.int .i64 1) = some (.int .i64 ((a + 1 : Nat) : Int)) := by
 rw [binV_ii, intsV_add, wrap_succ (by omega)]
theorem lssNat (a c : Nat) : binV E0 .lss 3 false false (.int .i64 (a : Int)) (.int .i64 (c : Int)) = some (.bool (decide (a < c))) := by
 rw [binV_ii, intsV_lss]
 congr 2
 rw [decide_eq_decide]; omega
theorem TLo.oneV {v : V} {l : List Bs} {N : Nat} (h : TLo S v l N) : OneV v := by
 rcases h with ⟨_, rfl⟩ | ⟨r, rfl, _⟩ <;> exact ⟨rfl, rfl, rfl, rfl⟩
theorem ix_two (b : Nat) {i : Nat} (h : i < 2) : ixP 1 (.slice b 0 2 2) (.int .i64 (i : Int)) = some (.ptr b i) := by
 show (bif Nat.blt i 2 then some (V.ptr b (0 + i * 1)) else none) = _
 rw [blt_true.2 h, Nat.zero_add, Nat.mul_one]; rfl
theorem concat_run (m : Nat) (ho : S.on = false) {v w : V} {l k : List Bs} {N M b : Nat} (hb : RowAt S b 28 1 [Go.Proofs.YtbfdabjcgcbimaaR.Ev.one v, Go.Proofs.YtbfdabjcgcbimaaR.Ev.one w]) (hbl : b < S.next) (hv : TLo S v l N) (hw : TLo S w k M) (h0 : 0 < l.length + k.length) (hl : l.length + k.length < 100000) :
 ∃ z U, (ev E0 KD (m + 2)).f 20 [.slice b 0 2 2] S = some (.ret z, U) ∧ TLo U z (l ++ k) S.next ∧ Grew (fun _ => False) S U := by
 obtain ⟨A, a1, a2, a3, a4⟩ := grow_run m ho h0 (by omega)
 have onA := a3.on.trans ho
 have hvA := hv.grew a3
 have hwA := hw.grew a3
 have ltA : S.next < A.next := by omega
 obtain ⟨B, b1, b2, b3, b4⟩ := ap_in onA a2 (k := 0) hvA (by rw [List.length_replicate]; omega) (by rw [List.length_replicate]; omega)
 have onB := b3.on.trans onA
 rw [List.take_zero, List.nil_append, Nat.zero_add] at b2
 rw [Nat.zero_add] at b1
 have gB : Grew (fun _ => False) S B := Grew.own a3 (Nat.le_refl _) b3
 have hwB := hw.grew gB
 have hlen : (rowOf l ++ (List.replicate (l.length + k.length) (Go.Proofs.YtbfdabjcgcbimaaR.Ev.one (sv []))).drop l.length).length = l.length + k.length := by
  rw [List.length_append, rowOf_length, List.length_drop, List.length_replicate]; omega
 obtain ⟨C, c1, c2, c3, c4⟩ := ap_in onB b2 (k := l.length) hwB (by rw [hlen]; omega) (by rw [hlen]; omega)
 have gC : Grew (fun _ => False) S C := Grew.own gB (Nat.le_refl _) c3
 have hrow : RowAt C S.next 9 1 (rowOf (l ++ k)) := by
  rw [rowOf_append]
  have e1 : (rowOf l ++ (List.replicate (l.length + k.length) (Go.Proofs.YtbfdabjcgcbimaaR.Ev.one (sv []))).drop l.length).take l.length = rowOf l := by
   rw [List.take_append_of_le_length (by rw [rowOf_length]; exact Nat.le_refl _), List.take_of_length_le (by rw [rowOf_length]; exact Nat.le_refl _)]
  have e2 : (rowOf l ++ (List.replicate (l.length + k.length) (Go.Proofs.YtbfdabjcgcbimaaR.Ev.one (sv []))).drop l.length).drop (l.length + k.length) = [] := List.drop_of_length_le (by rw [hlen]; exact Nat.le_refl _)
  rw [e1, e2, List.append_nil] at c2
  exact c2
 refine ⟨.oslice S.next 0 (l.length + k.length) 1, C, rd20 ?_, .inr ⟨S.next, by rw [List.length_append], hrow, by omega, Nat.le_refl _, by rw [List.length_append]; omega⟩, gC⟩
 show F20 (ev E0 KD (m + 1)) rounds (.slice b 0 2 2) S = _
 have lds : ∀ {U : St}, U.on = false → Grew (fun _ => False) S U → ld1 (.ptr b 0) U = some (v, U) ∧ ld1 (.ptr b 1) U = some (w, U) := fun hU g => by
  have h := hb.grew hbl (fun h => h) g
  exact ⟨h.ld1 hU (i := 0) rfl, h.ld1 hU (i := 1) rfl⟩
 obtain ⟨s1, s2⟩ := lds ho (Grew.refl _ _)
 obtain ⟨s3, _⟩ := lds onA a3
 obtain ⟨_, s4⟩ := lds onB gB
 have L26 : ∀ (q : Nat) (nk : Ac → St → Rs) (ek : Nat → Ac → St → Rs), L20_26 (ev E0 KD (m + 1)) rounds nk ek (q + 3) (.slice b 0 2 2) (.int .i64 0) (.slice b 0 2 2) (.int .i64 2) (.int .i64 0) S = ek 0 (fr 36 [(0, .slice b 0 2 2), (3, .int .i64 ((l.length + k.length : Nat) : Int))]) S := fun q nk ek => by
  have neg : ∀ a : Nat, binV E0 .lss 3 false true (.int .i64 (a : Int)) (.int .i64 0) = some (.bool false) := fun a => by
   rw [binV_ii, intsV_lss]
   congr 2
  have neg' : ∀ a : Nat, binV E0 .lss 3 false true (.int .i64 (a : Int)) (.int .i64 ((0 : Nat) : Int)) = some (.bool false) := neg
  rw [L20_26_eq, show binV E0 .lss 3 false false (.int .i64 0) (.int .i64 2) = some (.bool true) from rfl, oB, ifK_bool, cond_true, show (V.int .i64 0) = .int .i64 ((0 : Nat) : Int) from rfl, ix_two b (by omega), oB, s1, oB]
  dsimp only
  rw [hv.tl.len, oB]
  dsimp only
  rw [addNat (by omega), oB, neg', oB, ifK_bool, cond_false, succNat (by omega), oB]
  rw [L20_26_eq, show binV E0 .lss 3 false false (.int .i64 ((0 + 1 : Nat) : Int)) (.int .i64 2) = some (.bool true) from rfl, oB, ifK_bool, cond_true, ix_two b (by omega), oB, s2, oB]
  dsimp only
  rw [hw.tl.len, oB]
  dsimp only
  rw [addNat (by omega), oB, neg, oB, ifK_bool, cond_false, succNat (by omega), oB]
  rw [L20_26_eq, show binV E0 .lss 3 false false (.int .i64 ((0 + 1 + 1 : Nat) : Int)) (.int .i64 2) = some (.bool false) from rfl, oB, ifK_bool, cond_false, Nat.zero_add]
 have L12 : ∀ (q : Nat) (nk : Ac → St → Rs) (ek : Nat → Ac → St → Rs), L20_12 (ev E0 KD (m + 1)) rounds nk ek (q + 3) (.oslice S.next 0 0 1) (.slice b 0 2 2) (.int .i64 2) (.int .i64 0) A = ek 2 (fr 36 [(6, .oslice S.next 0 (l.length + k.length) 1)]) C := fun q nk ek => by
  rw [L20_12_eq, show binV E0 .lss 3 false false (.int .i64 0) (.int .i64 2) = some (.bool true) from rfl, oB, ifK_bool, cond_true, show (V.int .i64 0) = .int .i64 ((0 : Nat) : Int) from rfl, ix_two b (by omega), oB, s3, oB]
  dsimp only
  rw [b1, oB]
  dsimp only
  rw [succNat (by omega), oB]
  rw [L20_12_eq, show binV E0 .lss 3 false false (.int .i64 ((0 + 1 : Nat) : Int)) (.int .i64 2) = some (.bool true) from rfl, oB, ifK_bool, cond_true, ix_two b (by omega), oB, s4, oB]
  dsimp only
  rw [c1, oB]
  dsimp only
  rw [succNat (by omega), oB]
  rw [L20_12_eq, show binV E0 .lss 3 false false (.int .i64 ((0 + 1 + 1 : Nat) : Int)) (.int .i64 2) = some (.bool false) from rfl, oB, ifK_bool, cond_false]
 have lnb : ∀ U, lnS (.slice b 0 2 2) U = some (.int .i64 2, U) := fun _ => rfl
 rw [F20_eq, lnb, oB]
 dsimp only
 refine (L26 18446744073709551613 _ _).trans ?_
 rw [exB_same, R20_2_eq, a1, callP_ret, lnb, oB]
 dsimp only
 refine (L12 18446744073709551613 _ _).trans ?_
 rw [exB_same, R20_6_eq]
end
end Go.Proofs.YtbfdabjcgcbimaaR.W
namespace Go.Proofs.YtbfdabjcgcbimaaR.W
open Go.Proofs.YtbfdabjcgcbimaaR.Ev Go.RowKit
section
variable {s S T U X Y : St} {α : Type}
theorem on_fz {f : St → Option (α × St)} (hL : Lg.LocP f) (hF : ∀ F : Fz.Fz, Fz.LocP F f) {a : α} (h : f S = some (a, U)) {b e z n : Nat} {c : Tr (Tr V)} (hc : S.heap.get b = some (.cells e z n false c)) (hb : b < S.next) {r : α × St} (k : f (icy S b e z n c) = some r) :
 ∃ L, f (S.lg []) = some (a, U.lg L) ∧ ∀ e ∈ L, e.w = false ∨ e.b ≠ b := by
 obtain ⟨L, h1⟩ := lg_of hL h []
 obtain ⟨t', h2, h3⟩ := hF ⟨b, e, z, n, c⟩ (icy S b e z n c) r k (S.lg []) ⟨(icy_same hc hb).next, (icy_same hc hb).heap, (icy_same hc hb).fs, (icy_same hc hb).ft, (icy_same hc hb).lt⟩
 refine ⟨L, h1, ?_⟩
 have e1 : upP r t' = (a, U.lg L) := Option.some.inj (h2.symm.trans h1)
 have e2 : t' = U.lg L := (Prod.mk.inj e1).2
 obtain ⟨d, _, l2, l3⟩ := h3.log
 have := l2 rfl
 rw [e2] at this
 have hd : L = d := by
  have h' : L = d ++ [] := this
  rw [List.append_nil] at h'
  exact h'
 rw [hd]; exact l3
theorem fz_apP {F : Fz.Fz} (e z B : Nat) (x y : V) : Fz.LocP F fun s => apP e z B x y s := by
 unfold apP
 exact Fz.Loc.opt fun n => Fz.Loc.opt fun m => Fz.Loc.cond (Fz.loc_appendV _ _ _ _ _) Fz.Loc.none
theorem pairs_any {logs : List (List LE)} : ∀ {prs : List (Nat × List Nat)}, (∀ p ∈ prs, ∀ j ∈ p.2, ∀ e ∈ logOf p.1 logs, ∀ f ∈ logOf j logs, e.b ≠ f.b ∨ (e.w = false ∧ f.w = false)) → pairsOk logs prs = true
 | [], _ => rfl
 | (i, js) :: prs, h => by
  unfold pairsOk
  have hany : ∀ js' : List Nat, (∀ j ∈ js', j ∈ js) → clashAny (logOf i logs) logs js' = false := fun js' => by
   induction js' with
   | nil => intro _; rfl
   | cons j js' ih =>
    intro hj
    unfold clashAny
    rw [clash_or fun e he f hf => h (i, js) (List.mem_cons_self ..) j (hj j (List.mem_cons_self ..)) e he f hf]
    exact ih fun j' hj' => hj j' (List.mem_cons_of_mem _ hj')
  rw [hany js fun j hj => hj]
  exact pairs_any fun p hp => h p (List.mem_cons_of_mem _ hp)
theorem row_ldf (ho : S.on = false) {b e z i j : Nat} {l : List (Tr V)} {t : Tr V} {v : V} (h : RowAt S b e z l) (hi : l[i]? = some t) (hj : j < z) (hv : t.get j = some v) : ld S b (i * z + j) = some (v, S) := by
 obtain ⟨c, h1, h2⟩ := h.row
 have hlt := (List.getElem?_eq_some_iff.1 hi).1
 have hlt2 : i * z + j < z * l.length := by
  calc i * z + j < i * z + z := by omega
   _ = (i + 1) * z := by rw [Nat.add_mul, Nat.one_mul]
   _ ≤ l.length * z := Nat.mul_le_mul_right _ hlt
   _ = z * l.length := Nat.mul_comm ..
 have hc : (c.get ((i * z + j) / z)).bind (fun t => t.get ((i * z + j) % z)) = some v := by
  rw [Nat.mul_comm i z, Nat.mul_add_div h.pos, Nat.div_eq_of_lt hj, Nat.add_zero, Nat.mul_add_mod, Nat.mod_eq_of_lt hj, h2 i _ hi]
  exact hv
 unfold ld
 rw [h1]
 simp only [blt_true.2 hlt2, blt_true.2 h.fit, Bool.and_self, cond_true]
 simp only [oI] at hc
 obtain ⟨u, hu, hv'⟩ := hc
 rw [hu, oB, hv', oB, note_off ho]
theorem row_fld (ho : S.on = false) {b e z j : Nat} {t : Tr V} {v : V} (h : RowAt S b e z [t]) (hj : j < z) (hv : t.get j = some v) : ld1 (.ptr b j) S = some (v, S) := by
 have := row_ldf ho h (i := 0) rfl hj hv
 rw [Nat.zero_mul, Nat.zero_add] at this
 exact this
theorem row_part (ho : S.on = false) {b e z off k : Nat} {t : Tr V} (h : RowAt S b e z [t]) (hle : off + k ≤ z) (hk : k ≠ z) : ∃ u, ldK S b off k = some (u, S) ∧ ∀ j v, j < k → t.get (off + j) = some v → u.get j = some v := by
 obtain ⟨c, h1, h2⟩ := h.row
 refine ⟨cellsAt c z off k 0 .nil, ?_, fun j v hj hv => ?_⟩
 · unfold Go.Proofs.YtbfdabjcgcbimaaR.Ev.ldK
   rw [h1]
   have := h.fit
   rw [List.length_singleton, Nat.mul_one] at this
   simp only [List.length_singleton, Nat.mul_one, ble_true.2 hle, blt_true.2 this, Bool.and_self, cond_true]
   unfold elemIn
   rw [show Nat.beq k z = false from beq_false.2 hk]
   simp only [Bool.false_and, cond_false, oB, note_off ho]
 · have hc : cellOf c z (off + j) = some v := by
    unfold cellOf
    rw [Nat.div_eq_of_lt (by omega), Nat.mod_eq_of_lt (by omega), h2 0 t rfl]
    exact hv
   have key : ∀ (m i : Nat) (acc : Tr V), (∀ x w, x < i → acc.get x = some w → (cellsAt c z off m i acc).get x = some w) ∧ (i ≤ j → j < i + m → (cellsAt c z off m i acc).get j = some v) := fun m => by
    induction m with
    | zero => exact fun i acc => ⟨fun x w _ h => h, fun h1 h2 => by omega⟩
    | succ m ih =>
     intro i acc
     unfold cellsAt
     cases hcc : cellOf c z (off + i) with
     | none =>
      have e1 : (c.get ((off + i) / z)).bind (fun t => t.get ((off + i) % z)) = none := hcc
      rw [e1]
      refine ⟨fun x w hx hw => (ih (i + 1) acc).1 x w (by omega) hw, fun h3 h4 => ?_⟩
      by_cases hij : i = j
      · subst hij
        rw [hc] at hcc; cases hcc
      · exact (ih (i + 1) acc).2 (by omega) (by omega)
     | some w0 =>
      have e1 : (c.get ((off + i) / z)).bind (fun t => t.get ((off + i) % z)) = some w0 := hcc
      rw [e1]
      simp only [Tr.setC_eq]
      refine ⟨fun x w hx hw => (ih (i + 1) _).1 x w (by omega) (by rw [Tr.get_set, if_neg (by omega)]; exact hw), fun h3 h4 => ?_⟩
      by_cases hij : i = j
      · subst hij
        rw [hc] at hcc
        cases hcc
        exact (ih (i + 1) _).1 i v (by omega) (by rw [Tr.get_set, if_pos rfl])
      · exact (ih (i + 1) _).2 (by omega) (by omega)
   exact (key k 0 .nil).2 (by omega) (by omega)
theorem row_st1 (ho : S.on = false) {b e z i : Nat} {t : Tr V} (h : RowAt S b e z [t]) (hi : i < z) (hz : 1 < z) (v : V) : ∃ U, stK S b i 1 (Go.Proofs.YtbfdabjcgcbimaaR.Ev.one v) = some U ∧ RowAt U b e z [t.set v i] ∧ Grew (fun x => x = b) S U ∧ U.next = S.next := by
 obtain ⟨c, h1, h2⟩ := h.row
 have hf := h.fit
 rw [List.length_singleton, Nat.mul_one] at hf
 have ht := h2 0 t rfl
 refine ⟨S.put b (.cells e z 1 false (c.set (t.set v i) 0)), ?_, ⟨h.pos, h.fit, c.set (t.set v i) 0, by rw [put_get, if_pos rfl]; rfl, fun j u hj => ?_⟩, grew_put b _, rfl⟩
 · unfold Go.Proofs.YtbfdabjcgcbimaaR.Ev.stK
   rw [h1]
   simp only [List.length_singleton, Nat.mul_one, ble_true.2 (show i + 1 ≤ z by omega), blt_true.2 hf, Bool.and_self, Bool.not_false, cond_true]
   unfold elemTo
   rw [show Nat.beq 1 z = false from beq_false.2 (by omega)]
   simp only [Bool.false_and, cond_false, cellsTo, Tr.setC_eq, show (Go.Proofs.YtbfdabjcgcbimaaR.Ev.one v).get 0 = some v from rfl, oB, Nat.add_zero, Nat.div_eq_of_lt hi, Nat.mod_eq_of_lt hi, ht, note_off ho]
 · cases j with
   | zero => rw [Tr.get_set_same]; simpa using hj
   | succ j => simp at hj
theorem row_stN : ∀ (ms : List V) {S : St} (_ : S.on = false) {b e z : Nat} {t : Tr V} (_ : RowAt S b e z [t]) (_ : 1 < z) (i : Nat), 1 ≤ i → i + ms.length ≤ z → ∃ U t', stN b 1 (ms.map Go.Proofs.YtbfdabjcgcbimaaR.Ev.one) i S = some U ∧ RowAt U b e z [t'] ∧ t'.get 0 = t.get 0 ∧ Grew (fun x => x = b) S U ∧ U.next = S.next
 | [], S, _, b, e, z, t, h, _, i, _, _ => ⟨S, t, rfl, h, rfl, Grew.refl _ _, rfl⟩
 | v :: ms, S, ho, b, e, z, t, h, hz, i, hi, hle => by
  rw [List.length_cons] at hle
  obtain ⟨A, a1, a2, a3, a4⟩ := row_st1 ho h (i := i) (by omega) hz v
  obtain ⟨U, t', b1, b2, b3, b4, b5⟩ := row_stN ms (a3.on.trans ho) a2 hz (i + 1) (by omega) (by omega)
  refine ⟨U, t', ?_, b2, by rw [b3, Tr.get_set, if_neg (by omega)], a3.trans b4, b5.trans a4⟩
  rw [List.map_cons]
  unfold Go.Proofs.YtbfdabjcgcbimaaR.Ev.stN
  rw [a1, oB, b1]
theorem unpack_ones : ∀ (len n : Nat), ∃ ms : List V, unpackV len n = ms.map Go.Proofs.YtbfdabjcgcbimaaR.Ev.one ∧ ms.length = len
 | 0, n => ⟨[], rfl, rfl⟩
 | len + 1, n => by
  obtain ⟨ms, h1, h2⟩ := unpack_ones len (n / 256)
  refine ⟨.int .u8 (.ofNat (n % 256)) :: ms, ?_, by rw [List.length_cons, h2]⟩
  rw [List.map_cons, ← h1]
  show Go.Proofs.YtbfdabjcgcbimaaR.Ev.one (V.int .u8 (.ofNat (n % 256))) :: forceN (n / 256) (fun m => unpackV len m) = _
  congr 1
  generalize n / 256 = m
  show forceN m (fun m => unpackV len m) = unpackV len m
  generalize unpackV len = K
  cases m <;> rfl
theorem cp_fld (ho : S.on = false) {b e z off len : Nat} {t : Tr V} (h : RowAt S b e z [t]) (hz : 1 < z) (hoff : 1 ≤ off) (hle : off + len ≤ z) (x : Bs) : ∃ w U t' L, cpP 1 (.slice b off len len) (sv x) (S.lg []) = some (w, U.lg L) ∧ RowAt U b e z [t'] ∧ t'.get 0 = t.get 0 ∧ Grew (fun x => x = b) S U ∧ U.next = S.next := by
 obtain ⟨ms, m1, m2⟩ := unpack_ones (Nat.min x.length len) (pack x)
 have hmin : Nat.min x.length len ≤ len := Nat.min_le_right ..
 obtain ⟨U, t', u1, u2, u3, u4, u5⟩ := row_stN ms ho h hz off hoff (by omega)
 obtain ⟨_, L, u6⟩ := stN_lg b 1 (ms.map Go.Proofs.YtbfdabjcgcbimaaR.Ev.one) off ho u1 []
 refine ⟨.int .i64 (.ofNat (Nat.min x.length len)), U, t', L, ?_, u2, u3, u4, u5⟩
 unfold cpP
 simp only [Go.Proofs.YtbfdabjcgcbimaaR.Ev.lenV, sv, oB, firstV]
 rw [ble_true.2 (show Nat.min x.length len ≤ x.length from Nat.min_le_left ..)]
 simp only [Nat.beq_refl, Bool.and_self, cond_true, oB]
 rw [m1]
 unfold copyIntoK
 simp only
 rw [u6]; rfl
theorem var_agg (ho : S.on = false) (e n : Nat) (z t : Tr V) (h0 : 0 < n) (hn : n < big) : ∃ U, stP n (.ptr S.next 0) (.agg n t) (nwP e n z S).2 = some (.tuple [], U) ∧ RowAt U S.next e n [t] ∧ Grew (fun _ => False) S U ∧ U.next = S.next + 1 := by
 have hg := grew_nw ho (fun _ => False) (.cells e n 1 false (Tr.ofListFrom .nil [z] 0))
 have hr : RowAt (nwP e n z S).2 S.next e n [z] := rowAt_newCells ho h0 (by rw [List.length_singleton, Nat.mul_one]; exact hn)
 have hon : (nwP e n z S).2.on = false := nw_on ho _
 obtain ⟨U, u1, u2, u3, u4⟩ := hr.stK hon (i := 0) (by simp) t
 refine ⟨U, ?_, u2, hg.own (Nat.le_refl _) u3, u4⟩
 show vu (bif Nat.beq n n && !isTuple (.agg n t) then stK (nwP e n z S).2 S.next 0 n t else none) = _
 rw [Nat.beq_refl]
 rw [Nat.zero_mul] at u1
 simp only [isTuple, Bool.not_false, Bool.and_self, cond_true]
 rw [u1]; rfl
theorem box_agg (ho : S.on = false) (e n : Nat) (t : Tr V) (h0 : 0 < n) (hn : n < big) : ∃ U, boxK e (.agg n t) S = some (.ptr S.next 0, U) ∧ RowAt U S.next e n [t] ∧ Grew (fun _ => False) S U ∧ U.next = S.next + 1 :=
 ⟨newCells S e n [t], rfl, rowAt_newCells ho h0 (by rw [List.length_singleton, Nat.mul_one]; exact hn), grew_nw ho _ _, rfl⟩
theorem VarAt.rowAt {b e z : Nat} {l : List V} (h : VarAt S b e z l) : ∃ t, RowAt S b e z [t] ∧ ∀ i v, l[i]? = some v → t.get i = some v := by
 obtain ⟨c, h1, h2⟩ := h.row
 have hp := h.pos
 have hl := h.len
 obtain ⟨u, hu⟩ : ∃ u, l[0]? = some u := ⟨_, List.getElem?_eq_getElem (by omega)⟩
 have h0 := h2 0 u hu
 rw [cellOf_zero hp, oI] at h0
 obtain ⟨t, ht, _⟩ := h0
 refine ⟨t, ⟨hp, by rw [List.length_singleton, Nat.mul_one]; exact h.fit, c, h1, fun i u hi => ?_⟩, fun i v hi => ?_⟩
 · cases i with
   | zero => simp at hi; subst hi; exact ht
   | succ i => simp at hi
 · have hlt := (List.getElem?_eq_some_iff.1 hi).1
   have := h2 i v hi
   rw [cellOf_zero (by omega), ht] at this
   exact this
theorem VarAt.same {b e z : Nat} {l : List V} (h : VarAt S b e z l) (hh : U.heap = S.heap) : VarAt U b e z l := by
 obtain ⟨c, h1, h2⟩ := h.row
 exact ⟨h.pos, h.fit, h.len, c, by rw [hh]; exact h1, h2⟩
theorem VarAt.ldv (ho : S.on = false) {b e z i : Nat} {l : List V} {v : V} (h : VarAt S b e z l) (hi : l[i]? = some v) : ld1 (.ptr b i) S = some (v, S) := h.ld ho hi
theorem VarAt.stv (ho : S.on = false) {b e z i : Nat} {l : List V} (h : VarAt S b e z l) (hi : i < z) {v : V} (hv : OneV v) : ∃ U, stP 1 (.ptr b i) v S = some (.tuple [], U) ∧ VarAt U b e z (l.set i v) ∧ Grew (fun x => x = b) S U ∧ U.next = S.next := by
 obtain ⟨U, u1, u2, u3, u4⟩ := h.st ho hi v
 refine ⟨U, ?_, u2, u3, u4⟩
 show vu (bif Nat.beq v.size 1 && !isTuple v then stK S b i 1 v.cells else none) = _
 rw [hv.size, hv.tup, hv.cells, Nat.beq_refl]
 simp only [Bool.not_false, Bool.and_self, cond_true]
 rw [u1]; rfl
theorem apW_first (ho : S.on = false) {b : Nat} {t : Tr V} (h : RowAt S b 82 129 [t]) : ∃ U, apP 82 129 136 .nilslice (.slice b 0 1 1) S = some (.oslice S.next 0 1 129, U) ∧ RowAt U S.next 82 129 [t] ∧ Grew (fun _ => False) S U ∧ U.next = S.next + 1 := by
 refine ⟨newCells S 82 129 [t], ?_, rowAt_newCells ho (by omega) (by unfold big; simp), grew_nw ho _ _, rfl⟩
 unfold apP
 simp only [Go.Proofs.YtbfdabjcgcbimaaR.Ev.lenV, oB, show Nat.blt ((0 + 1) * (136 + 129 + 1)) maxCells = true from rfl, cond_true]
 unfold appendV firstV
 have := h.ldN ho 1 0 (by simp)
 simp only [Nat.zero_mul, List.drop_zero] at this
 simp only [this, oB, show Nat.beq 1 0 = false from rfl, cond_false]
 rfl
theorem apW_more (ho : S.on = false) {b r : Nat} {t : Tr V} {l : List (Tr V)} (h : RowAt S b 82 129 [t]) (hr : RowAt S r 82 129 l) (hl : l.length ≤ 3000) : ∃ U, apP 82 129 136 (.oslice r 0 l.length 129) (.slice b 0 1 1) S = some (.oslice S.next 0 (l.length + 1) 129, U) ∧ RowAt U S.next 82 129 (l ++ [t]) ∧ Grew (fun x => x = r) S U ∧ U.next = S.next + 1 := by
 obtain ⟨c, hc1, hc2⟩ := hr.row
 have hfit := hr.fit
 refine ⟨nw (S.put r .dead) (.cells 82 129 (l.length + 1) false (c.set t l.length)), ?_, ?_, ?_, rfl⟩
 · unfold apP
   have hm : Nat.blt ((l.length + 1) * (136 + 129 + 1)) maxCells = true := by rw [blt_true]; unfold maxCells; omega
   simp only [Go.Proofs.YtbfdabjcgcbimaaR.Ev.lenV, oB, hm, cond_true]
   unfold appendV firstV
   have := h.ldN ho 1 0 (by simp)
   simp only [Nat.zero_mul, List.drop_zero] at this
   simp only [this, oB, show Nat.beq 129 129 = true from rfl, cond_true]
   unfold sizeB
   rw [hc1]
   have hb : Nat.ble (0 + (l.length + 1) * 129) (129 * l.length) = false := by
    cases hh : Nat.ble (0 + (l.length + 1) * 129) (129 * l.length) with
    | false => rfl
    | true => rw [ble_true] at hh; omega
   simp only [blt_true.2 hfit, cond_true, oB, note_off ho, hb, cond_false]
   unfold growV
   rw [hc1]
   simp only [show Nat.beq 82 82 = true from rfl, Bool.not_true, Bool.or_self, cond_false, show Nat.beq 129 129 = true from rfl, show Nat.beq 0 0 = true from rfl, Nat.beq_refl, blt_true.2 hfit, Bool.and_self, cond_true]
   rw [show List.take 1 [t] = [t] from rfl]
   unfold addLC addLC
   rw [Tr.setC_eq]
   unfold setO
   rw [note_off ho]
 · have hnx : (S.put r .dead).next = S.next := rfl
   have := rowAt_nw (s := S.put r .dead) (e := 82) (z := 129) (n := l.length + 1) (c := c.set t l.length) (l := l ++ [t]) ho (by omega) (by simp) (by unfold big; omega) fun i u h => by
    rw [Tr.get_set]
    by_cases hi : i = l.length
    · subst hi
      rw [if_pos rfl]
      simpa using h
    · rw [if_neg hi]
      have hlt := (List.getElem?_eq_some_iff.1 h).1
      rw [List.length_append, List.length_singleton] at hlt
      rw [List.getElem?_append_left (by omega)] at h
      exact hc2 i u h
   exact this
 · exact ⟨by show S.next ≤ S.next + 1; omega, (nw_on (s := S.put r .dead) ho _).trans ho.symm, fun x hx hw => by
    rw [nw_get, if_neg (by show x ≠ S.next; omega), put_get, if_neg hw]⟩
theorem bsW (ho : S.on = false) (z t : Tr V) : ∃ U L, bsP 82 129 1 z [(0, .agg 129 t)] S = some (.slice S.next 0 1 1, U) ∧ bsP 82 129 1 z [(0, .agg 129 t)] (S.lg []) = some (.slice S.next 0 1 1, U.lg L) ∧ (∀ e ∈ L, e.b = S.next) ∧ RowAt U S.next 82 129 [t] ∧ Grew (fun _ => False) S U ∧ U.next = S.next + 1 := by
 refine ⟨nw S (.cells 82 129 1 false ((Tr.tab 1 1 fun _ => z).set t 0)), [⟨S.next, 0, big, true⟩], ?_, ?_, fun e he => by cases List.mem_singleton.1 he; rfl, ?_, grew_nw ho _ _, rfl⟩
 · unfold bsP fillE fillE
   simp only [V.size, isTuple, V.cells, show Nat.beq 129 129 = true from rfl, Bool.not_false, Bool.and_true, show Nat.blt 0 1 = true from rfl, cond_true, Tr.setC_eq, oB]
 · unfold bsP fillE fillE
   simp only [V.size, isTuple, V.cells, show Nat.beq 129 129 = true from rfl, Bool.not_false, Bool.and_true, show Nat.blt 0 1 = true from rfl, cond_true, Tr.setC_eq, oB]
   unfold nw
   rw [note_off ho, note_lg]
   rfl
 · refine rowAt_nw ho (by omega) rfl (by unfold big; omega) fun i u h => ?_
   rw [Tr.get_set]
   cases i with
   | zero => simpa using h
   | succ i => simp at h
end
end Go.Proofs.YtbfdabjcgcbimaaR.W
namespace Go.Proofs.YtbfdabjcgcbimaaR.W
open Go.Proofs.YtbfdabjcgcbimaaR.Ev Go.RowKit
section
variable {s S T U X Y : St}
theorem ldK_on (ho : S.on = false) {b off k : Nat} {t : Tr V} {S' : St} (h : Go.Proofs.YtbfdabjcgcbimaaR.Ev.ldK S b off k = some (t, S')) (L : List LE) : Go.Proofs.YtbfdabjcgcbimaaR.Ev.ldK (S.lg L) b off k = some (t, S.lg (⟨b, off, off + k, false⟩ :: L)) := by
 unfold Go.Proofs.YtbfdabjcgcbimaaR.Ev.ldK at h ⊢
 rw [show (S.lg L).heap.get b = S.heap.get b from rfl]
 cases hg : S.heap.get b with
 | none => rw [hg] at h; cases h
 | some o =>
  rw [hg] at h
  cases o <;> try (cases h; done)
  rename_i e z n ro c
  simp only at h ⊢
  cases hb : (Nat.ble (off + k) (z * n) && Nat.blt (z * n) big) with
  | false => rw [hb] at h; cases h
  | true =>
   rw [hb] at h
   simp only [cond_true, oI] at h ⊢
   obtain ⟨u, hu, h⟩ := h
   cases h
   exact ⟨t, hu, by rw [note_lg]⟩
theorem blk_ne {a b e e' z z' n n' : Nat} {r r' : Bool} {c c' : Tr (Tr V)} (h : S.heap.get a = some (.cells e z n r c)) (h' : S.heap.get b = some (.cells e' z' n' r' c')) (he : e ≠ e') : a ≠ b := fun hab => by
 subst hab
 rw [h] at h'
 cases h'
 exact he rfl
def dCells (fb : Nat) (wv : V) (ops : Int) : List V := [.slice fb 0 8 8, wv, .bool false, .int .i64 0, .int .u64 ops]
def WAt (S : St) (wv : V) (k : Nat) : Prop := (k = 0 ∧ wv = .nilslice) ∨
 ∃ r l, wv = .oslice r 0 l.length 129 ∧ l.length = k ∧ 0 < k ∧ RowAt S r 82 129 l ∧ r < S.next ∧ ∀ t ∈ l, ∃ a : Nat, a < 8 ∧ t.get 0 = some (.int .i64 (a : Int))
theorem WAt.grew {W : Nat → Prop} {wv : V} {k : Nat} (h : WAt S wv k) (g : Grew W S U) (hw : ∀ r l, RowAt S r 82 129 l → ¬ W r) : WAt U wv k := by
 rcases h with h | ⟨r, l, h1, h2, h3, h4, h5, h6⟩
 · exact .inl h
 · exact .inr ⟨r, l, h1, h2, h3, h4.grew h5 (hw r l h4) g, Nat.lt_of_lt_of_le h5 g.next, h6⟩
theorem WAt.len {wv : V} {k : Nat} (h : WAt S wv k) (U : St) : lnS wv U = some (.int .i64 (k : Int), U) := by
 rcases h with ⟨rfl, rfl⟩ | ⟨r, l, rfl, h2, _⟩
 · rfl
 · rw [← h2]; rfl
theorem WAt.oneV {wv : V} {k : Nat} (h : WAt S wv k) : OneV wv := by
 rcases h with ⟨_, rfl⟩ | ⟨r, l, rfl, _⟩ <;> exact ⟨rfl, rfl, rfl, rfl⟩
theorem WAt.push (ho : S.on = false) {wv : V} {k b : Nat} {t : Tr V} (h : WAt S wv k) (hk : k ≤ 1000) (hb : RowAt S b 82 129 [t]) {a : Nat} (ha : a < 8) (ht : t.get 0 = some (.int .i64 (a : Int))) :
 ∃ wv' U, apP 82 129 136 wv (.slice b 0 1 1) S = some (wv', U) ∧ WAt U wv' (k + 1) ∧ Grew (fun x => blkOf wv = some x) S U ∧ U.next = S.next + 1 := by
 rcases h with ⟨rfl, rfl⟩ | ⟨r, l, rfl, h2, h3, h4, h5, h6⟩
 · obtain ⟨U, u1, u2, u3, u4⟩ := apW_first ho hb
   exact ⟨_, U, u1, .inr ⟨S.next, [t], rfl, rfl, by omega, u2, by omega, fun t' ht' => by rw [List.mem_singleton.1 ht']; exact ⟨a, ha, ht⟩⟩, u3.mono fun _ _ h => h.elim, u4⟩
 · obtain ⟨U, u1, u2, u3, u4⟩ := apW_more ho hb h4 (by omega)
   refine ⟨_, U, u1, .inr ⟨S.next, l ++ [t], by rw [List.length_append, List.length_singleton], by rw [List.length_append, List.length_singleton, h2], by omega, u2, by omega, fun t' ht' => ?_⟩, u3.mono fun x _ e => by subst e; rfl, u4⟩
   rcases List.mem_append.1 ht' with h | h
   · exact h6 t' h
   · rw [List.mem_singleton.1 h]; exact ⟨a, ha, ht⟩
structure DAt (S : St) (db fb : Nat) (wv : V) (k : Nat) : Prop where
 on : S.on = false
 bx : ∃ ops : Int, VarAt S db 52 5 (dCells fb wv ops)
 fl : ∃ l : List (Tr V), l.length = 8 ∧ RowAt S fb 80 128 l
 wr : WAt S wv k
 ld : db < S.next
 lf : fb < S.next
def DW (db fb : Nat) (S : St) (x : Nat) : Prop := x = db ∨ x = fb ∨ ∃ l, RowAt S x 82 129 l
theorem RowAt.get {b e z : Nat} {l : List (Tr V)} (h : RowAt S b e z l) : ∃ c, S.heap.get b = some (.cells e z l.length false c) := let ⟨c, h1, _⟩ := h.row; ⟨c, h1⟩
theorem VarAt.get {b e z : Nat} {l : List V} (h : VarAt S b e z l) : ∃ c, S.heap.get b = some (.cells e z 1 false c) := let ⟨c, h1, _⟩ := h.row; ⟨c, h1⟩
theorem not_dw {db fb : Nat} {wv : V} {k : Nat} (h : DAt S db fb wv k) {x e z n : Nat} {c : Tr (Tr V)} (hx : S.heap.get x = some (.cells e z n false c)) (h1 : e ≠ 52) (h2 : e ≠ 80) (h3 : e ≠ 82) : ¬ DW db fb S x := by
 obtain ⟨ops, hb⟩ := h.bx
 obtain ⟨c1, g1⟩ := VarAt.get hb
 obtain ⟨l, _, hf⟩ := h.fl
 obtain ⟨c2, g2⟩ := RowAt.get hf
 rintro (rfl | rfl | ⟨l', hr⟩)
 · exact blk_ne hx g1 h1 rfl
 · exact blk_ne hx g2 h2 rfl
 · obtain ⟨c3, g3⟩ := RowAt.get hr
   exact blk_ne hx g3 h3 rfl
theorem dgrew {db fb : Nat} (g : Grew (DW db fb S) S U) (g' : Grew (DW db fb U) U T) : Grew (DW db fb S) S T :=
 ⟨Nat.le_trans g.next g'.next, g'.on.trans g.on, fun x hx hw => by
  have h1 := g.keep x hx hw
  refine (g'.keep x (Nat.lt_of_lt_of_le hx g.next) fun hw' => hw ?_).trans h1
  rcases hw' with h | h | ⟨l, hr⟩
  · exact .inl h
  · exact .inr (.inl h)
  · obtain ⟨c, c1, c2⟩ := hr.row
    exact .inr (.inr ⟨l, hr.pos, hr.fit, c, by rw [← h1]; exact c1, c2⟩)⟩
theorem dgrew0 {db fb : Nat} (g : Grew (fun _ => False) S U) : Grew (DW db fb S) S U := g.mono fun _ _ h => h.elim
theorem DAt.grew {db fb : Nat} {wv : V} {k : Nat} (h : DAt S db fb wv k) (g : Grew (fun _ => False) S U) : DAt U db fb wv k := by
 obtain ⟨ops, hb⟩ := h.bx
 obtain ⟨l, hl, hf⟩ := h.fl
 exact ⟨g.on.trans h.on, ⟨ops, hb.grew h.ld (fun h => h) g⟩, ⟨l, hl, hf.grew h.lf (fun h => h) g⟩, h.wr.grew g (fun _ _ _ h => h), Nat.lt_of_lt_of_le h.ld g.next, Nat.lt_of_lt_of_le h.lf g.next⟩
theorem DAt.put {db fb : Nat} {wv : V} {k : Nat} (h : DAt S db fb wv k) (g : Grew (fun x => x = db) S U) (hb : ∃ ops, VarAt U db 52 5 (dCells fb wv ops)) : DAt U db fb wv k := by
 obtain ⟨ops, hb0⟩ := h.bx
 obtain ⟨c1, g1⟩ := VarAt.get hb0
 obtain ⟨l, hl, hf⟩ := h.fl
 obtain ⟨c2, g2⟩ := RowAt.get hf
 exact ⟨g.on.trans h.on, hb, ⟨l, hl, hf.grew h.lf (show ¬ (fb = db) from blk_ne g2 g1 (by decide)) g⟩, h.wr.grew g (fun r l hr => let ⟨c3, g3⟩ := RowAt.get hr; (show ¬ (r = db) from blk_ne g3 g1 (by decide))), Nat.lt_of_lt_of_le h.ld g.next, Nat.lt_of_lt_of_le h.lf g.next⟩
theorem bx_get {b e : Nat} {l : List V} (h : Bx S b e l) : ∃ c, S.heap.get b = some (.cells e l.length 1 false c) := ⟨_, h⟩
theorem ncp (b o : Nat) : nilCheckV (.ptr b o) = some (.ptr b o) := rfl
theorem op1_run (m : Nat) {db fb : Nat} {wv : V} {k xb : Nat} (h : DAt S db fb wv k) (hx : Bx S xb 23 [.ptr db 0]) (hxl : xb < S.next) : ∃ U, (ev E0 KD (m + 1)).f 49 [.ptr xb 0] S = some (.ret (.bool true), U) ∧ DAt U db fb wv k ∧ Grew (fun x => x = db) S U := by
 obtain ⟨ops, hb⟩ := h.bx
 obtain ⟨c1, g1⟩ := VarAt.get hb
 have hne : xb ≠ db := by
  obtain ⟨c, g⟩ := bx_get hx
  exact blk_ne g g1 (by decide)
 have lx : ∀ {Y : St}, Y.on = false → Grew (fun x => x = db) S Y → ld1 (.ptr xb 0) Y = some (.ptr db 0, Y) := fun hY g => Bx.ldv hY (hx.grew hxl hne g) big1 rfl
 obtain ⟨U, u1, u2, u3, u4⟩ := VarAt.stv h.on hb (i := 4) (by omega) (oneV_int .u64 (IntKind.u64.wrap (ops + 1)))
 have onU := u3.on.trans h.on
 refine ⟨U, rd49 ?_, h.put u3 ⟨_, u2⟩, u3⟩
 show F49 (ev E0 KD m) rounds (.ptr xb 0) S = _
 rw [F49_eq, lx h.on (Grew.refl _ _), oB]
 dsimp only
 rw [ncp, oB, faPg, oB, VarAt.ldv h.on hb (i := 0 + 2) rfl, oB]
 dsimp only
 rw [ifK_bool, cond_false, lx h.on (Grew.refl _ _), oB]
 dsimp only
 rw [ncp, oB, faPg, oB, VarAt.ldv h.on hb (i := 0 + 4) rfl, oB]
 dsimp only
 rw [binV_ii, intsV_add, oB, oB, faPg, oB, u1, oB]
 dsimp only
 rw [lx onU u3, oB]
 dsimp only
 rw [ncp, oB, faPg, oB, VarAt.ldv onU u2 (i := 0 + 3) rfl, oB]
 dsimp only
 rw [show binV E0 .gtr 3 false true (.int .i64 0) (.int .i64 0) = some (.bool false) from rfl, oB, ifK_bool, cond_false, lx onU u3, oB]
 dsimp only
 rw [ncp, oB, faPg, oB, VarAt.ldv onU u2 (i := 0 + 2) rfl, oB]
 dsimp only
 rw [unV_not, oB]
 rfl
theorem op_run (m : Nat) {db fb : Nat} {wv : V} {k : Nat} (h : DAt S db fb wv k) (x : V) {P : St → Prop}
 (hx : ∀ Y, DAt Y db fb wv k → Grew (fun x => x = db) S Y → ∃ U, callK E0 (ev E0 KD (m + 1)) x [] Y = some (.ret (.tuple []), U) ∧ P U) : ∃ U, (ev E0 KD (m + 2)).f 40 [.ptr db 0, x] S = some (.ret (.int .i64 0), U) ∧ P U := by
 obtain ⟨A, a1, a2, a3, a4⟩ := box_one h.on 23 (v := .ptr db 0) ⟨rfl, rfl, rfl, rfl⟩
 obtain ⟨B, b1, b2, b3⟩ := op1_run m (h.grew a3) a2 (by omega)
 obtain ⟨U, u1, u2⟩ := hx B b2 ((a3.mono fun _ _ h => h.elim).trans b3)
 refine ⟨U, rd40 ?_, u2⟩
 show F40 (ev E0 KD (m + 1)) rounds (.ptr db 0) x S = _
 rw [F40_eq, a1, oB]
 dsimp only
 rw [callK_fn ext_none (by kernel_rfl)]
 simp only [List.nil_append, List.append_nil]
 rw [b1, callP_ret, unV_not, oB, Bool.not_true, ifK_bool, cond_false, u1, callP_ret]
end
end Go.Proofs.YtbfdabjcgcbimaaR.W
namespace Go.Proofs.YtbfdabjcgcbimaaR.W
open Go.Proofs.YtbfdabjcgcbimaaR.Ev Go.RowKit
section
variable {s S T U X Y : St}
noncomputable def tb (a : Int) : Tr V := match buildV E0 82 [(0, .int .i64 a)] with
 | some (.agg _ t) => t
 | _ => .nil
theorem build82 (a : Int) : buildV E0 82 [(0, .int .i64 a)] = some (.agg 129 (tb a)) := by kernel_rfl
theorem tb0 (a : Int) : (tb a).get 0 = some (.int .i64 a) := by kernel_rfl
theorem und80 : und E0 80 = some (.array 128 5) := by kernel_rfl
theorem sl80 (b : Nat) (S : St) : sliceV E0 80 (.ptr b (0 + 1)) none none none S = some (.slice b 1 128 128, S) := by
 unfold sliceV
 rw [und80]
 simp only [oB]
 rw [size5]
 rfl
theorem stP_on (ho : S.on = false) {b i : Nat} {v w : V} {U : St} (h : stP 1 (.ptr b i) v S = some (w, U)) : ∃ L, stP 1 (.ptr b i) v (S.lg []) = some (w, U.lg L) := by
 have h' : vu (bif Nat.beq v.size 1 && !isTuple v then Go.Proofs.YtbfdabjcgcbimaaR.Ev.stK S b i 1 v.cells else none) = some (w, U) := h
 show ∃ L, vu (bif Nat.beq v.size 1 && !isTuple v then Go.Proofs.YtbfdabjcgcbimaaR.Ev.stK (S.lg []) b i 1 v.cells else none) = some (w, U.lg L)
 cases hc : (Nat.beq v.size 1 && !isTuple v) with
 | false => rw [hc] at h'; cases h'
 | true =>
  rw [hc] at h'
  simp only [cond_true] at h' ⊢
  cases hs : Go.Proofs.YtbfdabjcgcbimaaR.Ev.stK S b i 1 v.cells with
  | none => rw [hs] at h'; cases h'
  | some Z =>
   rw [hs] at h'
   have h2 : some (V.tuple [], Z) = some (w, U) := h'
   cases h2
   obtain ⟨_, L, h3⟩ := stK_lg ho hs []
   exact ⟨L, by rw [h3]; rfl⟩
theorem write1_body (zz1 zz2 : Tr V) {db fb : Nat} {wv : V} {k ab sb xb a : Nat} {x : Bs} (h : DAt S db fb wv k) (hk : k ≤ 1000) (ha : a < 8) (h1 : Bx S ab 3 [.int .i64 (a : Int)]) (h2 : Bx S sb 9 [sv x]) (h3 : Bx S xb 23 [.ptr db 0]) (l1 : ab < S.next) (l2 : sb < S.next) (l3 : xb < S.next) :
 ∃ U wv', (
(ld1 (.ptr ab 0) S).bind fun p0 =>
(buildV E0 82 [(0, p0.1)]).bind fun t1 =>
(some (nwP 82 129 zz1 p0.2)).bind fun p2 =>
(stP 129 p2.1 t1 p2.2).bind fun p3 =>
(faP 1 true 128 p2.1).bind fun t4 =>
(sliceV E0 80 t4 none none none (onS p3.2)).bind fun p5 =>
(ld1 (.ptr sb 0) (onS p5.2)).bind fun p6 =>
(cpP 1 p5.1 p6.1 (onS p6.2)).bind fun p7 =>
endP [(1, [2])] p3.2 [[], p5.2.log, p6.2.log, p7.2.log] p7.2 fun S8 =>
(ld1 (.ptr xb 0) (onS S8)).bind fun p9 =>
(ld1 (.ptr xb 0) (onS p9.2)).bind fun p10 =>
(nilCheckV p10.1).bind fun t11 =>
(faP 1 false 1 t11).bind fun t12 =>
(ld1 t12 (onS p10.2)).bind fun p13 =>
(ldA 129 p2.1 (onS p13.2)).bind fun p14 =>
(bsP 82 129 1 zz2 [(0, p14.1)] (onS p14.2)).bind fun p15 =>
(apP 82 129 136 p13.1 p15.1 (onS p15.2)).bind fun p16 =>
(nilCheckV p9.1).bind fun t17 =>
(faP 1 false 1 t17).bind fun t18 =>
(stP 1 t18 p16.1 (onS p16.2)).bind fun p19 =>
endP [(0, [1, 4, 5, 6, 7]), (1, [5, 6]), (4, [5, 6])] S8 [p9.2.log, p10.2.log, [], [], p13.2.log, p14.2.log, p15.2.log, p16.2.log, [], [], p19.2.log] p19.2 fun S20 =>
some (.ret (.tuple []), S20) : Rs) = some (.ret (.tuple []), U) ∧ DAt U db fb wv' (k + 1) ∧ Grew (DW db fb S) S U := by
 have ho := h.on
 obtain ⟨ops, hdb⟩ := h.bx
 obtain ⟨cd, gd⟩ := VarAt.get hdb
 obtain ⟨lf, lfl, hfb⟩ := h.fl
 obtain ⟨cf, gf⟩ := RowAt.get hfb
 obtain ⟨cx, gx⟩ := bx_get h3
 have ld := h.ld
 have lfn := h.lf
 obtain ⟨A, a1, a2, a3, a4⟩ := var_agg ho 82 129 zz1 (tb (a : Int)) (by omega) (by unfold big; decide)
 have onA := a3.on.trans ho
 obtain ⟨w, B, t2, L7, b1, b2, b3, b4, b5⟩ := cp_fld onA a2 (by omega) (off := 1) (len := 128) (by omega) (by omega) x
 have onB := b4.on.trans onA
 have gB : Grew (fun _ => False) S B := Grew.own a3 (Nat.le_refl _) b4
 have e2 : ld1 (.ptr sb 0) (A.lg []) = some (sv x, A.lg [⟨sb, 0, 0 + 1, false⟩]) := ld1_lg onA (Bx.ldv onA (h2.grew l2 (fun h => h) a3) big1 rfl) []
 obtain ⟨C, u1, u2, u3, u4⟩ := relog_any onA B L7 [[], (A.lg []).log, (A.lg [⟨sb, 0, 0 + 1, false⟩]).log, (B.lg L7).log]
 have gC : Grew (fun _ => False) S C := Grew.same gB u2 u3 (u4.trans onB.symm)
 have hC := h.grew gC
 have onC := hC.on
 obtain ⟨opsC, hdbC⟩ := hC.bx
 have hxC := h3.grew l3 (fun h => h) gC
 have rC : RowAt C S.next 82 129 [t2] := b2.same u2
 have nxt : C.next = S.next + 1 := by rw [u3, b5, a4]
 have e3 : ld1 (.ptr xb 0) (C.lg []) = some (.ptr db 0, C.lg [⟨xb, 0, 0 + 1, false⟩]) := ld1_lg onC (Bx.ldv onC hxC big1 rfl) []
 have e4 : ld1 (.ptr db (0 + 1)) (C.lg []) = some (wv, C.lg [⟨db, 0 + 1, 0 + 1 + 1, false⟩]) := ld1_lg onC (VarAt.ldv onC hdbC (i := 0 + 1) rfl) []
 have hld := rC.ldK onC (i := 0) rfl
 rw [Nat.zero_mul] at hld
 have e5 : ldA 129 (.ptr S.next 0) (C.lg []) = some (.agg 129 t2, C.lg [⟨S.next, 0, 0 + 129, false⟩]) := by
  unfold Go.Proofs.YtbfdabjcgcbimaaR.Ev.ldA
  simp only
  rw [ldK_on onC hld []]; rfl
 obtain ⟨D, LD, d1, d1', d2, d3, d4, d5⟩ := bsW onC zz2 t2
 have hD := hC.grew d4
 have onD := hD.on
 have ht2 : t2.get 0 = some (.int .i64 (a : Int)) := b3.trans (tb0 _)
 obtain ⟨wv', E, f1, f2, f3, f4⟩ := hD.wr.push onD hk d3 ha ht2
 have hxD := hxC.grew (show xb < C.next by omega) (fun h => h) d4
 obtain ⟨c0, gx0⟩ := bx_get hxD
 have gI := grew_put (s := D) xb (.cells 23 1 1 true c0)
 have hfrz : ∃ q, apP 82 129 136 wv (.slice C.next 0 1 1) (icy D xb 23 1 1 c0) = some q := by
  have hw : WAt (icy D xb 23 1 1 c0) wv k := hD.wr.grew gI (fun r l hr => let ⟨c3, g3⟩ := RowAt.get hr; (show ¬ (r = xb) from blk_ne g3 gx0 (by decide)))
  have hr : RowAt (icy D xb 23 1 1 c0) C.next 82 129 [t2] := d3.grew (by omega) (show ¬ (C.next = xb) by omega) gI
  obtain ⟨v, Z, z1, _⟩ := hw.push (show (icy D xb 23 1 1 c0).on = false from onD) hk hr ha ht2
  exact ⟨_, z1⟩
 obtain ⟨q, hq⟩ := hfrz
 obtain ⟨LE1, f1', f5⟩ := on_fz (f := fun s => apP 82 129 136 wv (.slice C.next 0 1 1) s) (lg_apP _ _ _ _ _) (fun F => fz_apP _ _ _ _ _) f1 gx0 (show xb < D.next by omega) hq
 have onE := f3.on.trans onD
 obtain ⟨opsD, hdbD⟩ := hD.bx
 obtain ⟨cd2, gd2⟩ := VarAt.get hdbD
 have hne : ∀ z, blkOf wv = some z → ∃ l, RowAt D z 82 129 l ∧ z < S.next := fun z hz => by
  rcases hD.wr with ⟨_, rfl⟩ | ⟨r, l, rfl, _, _, h4, _⟩
  · cases hz
  · cases hz
    refine ⟨l, h4, ?_⟩
    rcases h.wr with ⟨_, e⟩ | ⟨r', l', e, _, _, _, h5, _⟩
    · cases e
    · simp only [V.oslice.injEq] at e
      rw [e.1]; exact h5
 have hdbE : VarAt E db 52 5 (dCells fb wv opsD) := hdbD.grew hD.ld (fun hz => by
  obtain ⟨l, hl, _⟩ := hne db hz
  obtain ⟨c3, g3⟩ := RowAt.get hl
  exact blk_ne gd2 g3 (by decide) rfl) f3
 obtain ⟨G, p1, p2, p3, p4⟩ := VarAt.stv onE hdbE (i := 0 + 1) (by omega) f2.oneV
 obtain ⟨LG, p1'⟩ := stP_on onE p1
 have onG := p3.on.trans onE
 obtain ⟨H, q1, q2, q3, q4⟩ := relog_any onC G LG [(C.lg [⟨xb, 0, 0 + 1, false⟩]).log, (C.lg [⟨xb, 0, 0 + 1, false⟩]).log, [], [], (C.lg [⟨db, 0 + 1, 0 + 1 + 1, false⟩]).log, (C.lg [⟨S.next, 0, 0 + 129, false⟩]).log, (D.lg LD).log, (E.lg LE1).log, [], [], (G.lg LG).log]
 have hprs : pairsOk [(C.lg [⟨xb, 0, 0 + 1, false⟩]).log, (C.lg [⟨xb, 0, 0 + 1, false⟩]).log, [], [], (C.lg [⟨db, 0 + 1, 0 + 1 + 1, false⟩]).log, (C.lg [⟨S.next, 0, 0 + 129, false⟩]).log, (D.lg LD).log, (E.lg LE1).log, [], [], (G.lg LG).log] [(0, [1, 4, 5, 6, 7]), (1, [5, 6]), (4, [5, 6])] = true := by
  refine pairs_any fun p hp j hj e he f hf => ?_
  simp only [List.mem_cons, List.not_mem_nil, or_false] at hp
  rcases hp with rfl | rfl | rfl
  · have he' : e ∈ [(⟨xb, 0, 0 + 1, false⟩ : LE)] := he
    rw [List.mem_singleton.1 he']
    simp only [List.mem_cons, List.not_mem_nil, or_false] at hj
    rcases hj with rfl | rfl | rfl | rfl | rfl
    · have hf' : f ∈ [(⟨xb, 0, 0 + 1, false⟩ : LE)] := hf
      rw [List.mem_singleton.1 hf']; exact .inr ⟨rfl, rfl⟩
    · have hf' : f ∈ [(⟨db, 0 + 1, 0 + 1 + 1, false⟩ : LE)] := hf
      rw [List.mem_singleton.1 hf']; exact .inr ⟨rfl, rfl⟩
    · have hf' : f ∈ [(⟨S.next, 0, 0 + 129, false⟩ : LE)] := hf
      rw [List.mem_singleton.1 hf']; exact .inr ⟨rfl, rfl⟩
    · have hf' : f ∈ LD := hf
      exact .inl (by rw [d2 f hf']; show xb ≠ C.next; omega)
    · have hf' : f ∈ LE1 := hf
      rcases f5 f hf' with h | h
      · exact .inr ⟨rfl, h⟩
      · exact .inl fun hh => h hh.symm
  · have he' : e ∈ [(⟨xb, 0, 0 + 1, false⟩ : LE)] := he
    rw [List.mem_singleton.1 he']
    simp only [List.mem_cons, List.not_mem_nil, or_false] at hj
    rcases hj with rfl | rfl
    · have hf' : f ∈ [(⟨S.next, 0, 0 + 129, false⟩ : LE)] := hf
      rw [List.mem_singleton.1 hf']; exact .inr ⟨rfl, rfl⟩
    · have hf' : f ∈ LD := hf
      exact .inl (by rw [d2 f hf']; show xb ≠ C.next; omega)
  · have he' : e ∈ [(⟨db, 0 + 1, 0 + 1 + 1, false⟩ : LE)] := he
    rw [List.mem_singleton.1 he']
    simp only [List.mem_cons, List.not_mem_nil, or_false] at hj
    rcases hj with rfl | rfl
    · have hf' : f ∈ [(⟨S.next, 0, 0 + 129, false⟩ : LE)] := hf
      rw [List.mem_singleton.1 hf']; exact .inr ⟨rfl, rfl⟩
    · have hf' : f ∈ LD := hf
      exact .inl (by rw [d2 f hf']; show db ≠ C.next; omega)
 have gD : Grew (fun _ => False) S D := gC.trans d4
 have gE : Grew (fun x => blkOf wv = some x) S E := (gD.mono fun _ _ h => h.elim).trans f3
 have gG : Grew (DW db fb S) S G := by
  have g1 : Grew (DW db fb S) S E := gE.mono fun z hz hh => by
   rcases h.wr with ⟨_, rfl⟩ | ⟨r, l, rfl, _, _, h4, _⟩
   · cases hh
   · cases hh; exact .inr (.inr ⟨l, h4⟩)
  exact g1.trans (p3.mono fun z _ hh => .inl hh)
 have gH : Grew (DW db fb S) S H := Grew.same gG q2 q3 (q4.trans onG.symm)
 have hwH : WAt H wv' (k + 1) := by
  have hwG : WAt G wv' (k + 1) := f2.grew p3 (fun r l hr => let ⟨c3, g3⟩ := RowAt.get hr; let ⟨c4, g4⟩ := VarAt.get hdbE; (show ¬ (r = db) from blk_ne g3 g4 (by decide)))
  rcases hwG with hw | ⟨r, l, w1, w2, w3, w4, w5, w6⟩
  · exact .inl hw
  · exact .inr ⟨r, l, w1, w2, w3, w4.same q2, by rw [q3]; exact w5, w6⟩
 have hfH : RowAt H fb 80 128 lf := by
  have hfE : RowAt E fb 80 128 lf := hfb.grew h.lf (fun hz => by
   rcases h.wr with ⟨_, rfl⟩ | ⟨r, l, rfl, _, _, h4, _⟩
   · cases hz
   · cases hz
     obtain ⟨c3, g3⟩ := RowAt.get h4
     exact blk_ne gf g3 (by decide) rfl) gE
  exact (hfE.grew (by have := gE.next; omega) (show ¬ (fb = db) from blk_ne gf gd (by decide)) p3).same q2
 refine ⟨H, wv', ?_, ⟨q4, ⟨opsD, (VarAt.same p2 q2)⟩, ⟨lf, lfl, hfH⟩, hwH, by rw [q3, p4, f4]; omega, by rw [q3, p4, f4]; omega⟩, gH⟩
 rw [Bx.ldv ho h1 big1 rfl, oB]
 dsimp only
 rw [build82, oB, oB, nwP_fst, a1, oB]
 dsimp only
 rw [faPg 1 127 0 true S.next, oB]
 simp only [ons, lglg]
 rw [sl80, oB]
 simp only [ons, lglg]
 rw [e2, oB]
 simp only [ons, lglg]
 rw [b1, oB]
 simp only [ons, lglg]
 rw [endP_of (pairs_any fun p hp j hj e he f hf => ?_), u1]
 · try simp only [ons, lglg]
   rw [e3, oB]
   try simp only [ons, lglg]
   rw [e3, oB]
   try simp only [ons, lglg]
   rw [ncp, oB, faPg, oB, e4, oB]
   simp only [ons, lglg]
   rw [e5, oB]
   simp only [ons, lglg]
   rw [d1', oB]
   simp only [ons, lglg]
   rw [f1', oB]
   simp only [ons, lglg]
   rw [oB, faPg, oB, p1', oB]
   dsimp only
   rw [endP_of hprs, q1]
 · simp only [List.mem_cons, List.not_mem_nil, or_false] at hp
   subst hp
   have he' : e ∈ ([] : List LE) := he
   cases he'
theorem write1_run (m : Nat) {db fb : Nat} {wv : V} {k ab sb xb a : Nat} {x : Bs} (h : DAt S db fb wv k) (hk : k ≤ 1000) (ha : a < 8) (h1 : Bx S ab 3 [.int .i64 (a : Int)]) (h2 : Bx S sb 9 [sv x]) (h3 : Bx S xb 23 [.ptr db 0]) (l1 : ab < S.next) (l2 : sb < S.next) (l3 : xb < S.next) :
 ∃ U wv', (ev E0 KD (m + 1)).f 48 [.ptr ab 0, .ptr sb 0, .ptr xb 0] S = some (.ret (.tuple []), U) ∧ DAt U db fb wv' (k + 1) ∧ Grew (DW db fb S) S U := by
 obtain ⟨U, wv', u1, u2, u3⟩ := write1_body _ _ h hk ha h1 h2 h3 l1 l2 l3
 refine ⟨U, wv', rd48 ?_, u2, u3⟩
 show F48 (ev E0 KD m) rounds (.ptr ab 0) (.ptr sb 0) (.ptr xb 0) S = _
 rw [F48_eq]
 exact u1
end
end Go.Proofs.YtbfdabjcgcbimaaR.W
