/-
  WHAT THE FUNCTIONS COME TO: each is read by the evaluator, printed, and told as a function of data, part 5 of 6 (no condition).
-/
import Derived.Test.YtbfdabjcgcbimaaRW4
namespace Go.Proofs.YtbfdabjcgcbimaaR.W
open Go.Proofs.YtbfdabjcgcbimaaR.Ev Go.RowKit
section
variable {s S T U X Y : St}
theorem subF (c d : Bool) (a b : Nat) (h : b ≤ a) (ha : a < 1000) : binV E0 .sub 3 c d (.int .i64 (a : Int)) (.int .i64 (b : Int)) = some (.int .i64 ((a - b : Nat) : Int)) := by
 rw [binV_ii, intsV_sub, wrap_i64 (by omega) (by omega), Int.ofNat_sub h]
theorem fn_one (x : Nat) (a b : List V) : OneV (.fn (.func x) a b) := ⟨rfl, rfl, rfl, rfl⟩
theorem R5_spec {m jb db fb w h0 k : Nat} {lv nv v wv : V} {num : Int} {w0 : Nat} {x : Bs} {new : List Bs} {fs : List V} {K : Nat} (hj : VarAt X jb 44 8 (jCells db lv num w0 h0)) (hlt : jb < X.next) (hw : w ≤ 1) (hh : h0 ≤ 1) (hd : DAt X db fb wv k) (hk : k ≤ K) (hK : K + 100 ≤ 900) (gY : Grew (fun _ => False) Y X) (hv : VL X v fs Y.next) (ht : ∀ f ∈ fs, Todo X db f) (hf : fs.length ≤ 20) (hn : TLo X nv new 0) (hc : costL new ≤ 384) (nk : Ac → St → Rs) (ek : Nat → Ac → St → Rs) :
 ∃ T, R19_5 (ev E0 KD (m + 5)) rounds nk ek (fr 121 [(0, .ptr jb 0), (1, .int .i64 (w : Int)), (3, nv), (9, sv x), (10, v)]) X = some (.ret (.int .i64 0), T) ∧ JAt T jb db fb nv new (K + 30) ∧ Grew (JW jb db fb Y) Y T := by
 have ho := hd.on
 obtain ⟨u, p1, p2, p3, p4, p5⟩ := j_place ho hj
 have r0 : ∀ {Y : St} (_ : Y.on = false) (_ : VarAt Y jb 44 8 (jCells db lv num w0 h0)), ld1 (.ptr jb (0 + 0 + 0)) (Y.lg []) = some (.ptr db 0, Y.lg [⟨jb, 0 + 0 + 0, 0 + 0 + 0 + 1, false⟩]) := fun hY h => j_fld hY (o := 0 + 0) (i := 0) h rfl
 have r1 : ld1 (.ptr jb (0 + 0 + 1)) (X.lg []) = some (.int .i64 0, X.lg [⟨jb, 0 + 0 + 1, 0 + 0 + 1 + 1, false⟩]) := j_fld ho (o := 0 + 0) (i := 1) hj rfl
 have r6 : ld1 (.ptr jb (0 + 6)) (X.lg []) = some (.int .i64 (h0 : Int), X.lg [⟨jb, 0 + 6, 0 + 6 + 1, false⟩]) := j_fld ho (o := 0) (i := 6) hj rfl
 have r4 : ld1 (.ptr jb (0 + 4)) (X.lg []) = some (.int .u64 num, X.lg [⟨jb, 0 + 4, 0 + 4 + 1, false⟩]) := j_fld ho (o := 0) (i := 4) hj rfl
 obtain ⟨A, y, a1, a2, a3⟩ := sector_run (m + 4) ho (IntKind.u64.wrap (num + 1)) (w : Int) (x.length : Int)
 obtain ⟨LA, a1', a4⟩ := on_jb hj hlt a1 (fun c => let ⟨_, _, z, _⟩ := sector_run (m + 4) (icy_on (c := c) ho) (IntKind.u64.wrap (num + 1)) (w : Int) (x.length : Int); ⟨_, z⟩)
 have onA := a3.on.trans ho
 have hjA := hj.grew hlt (fun h => h) a3
 have ltA : jb < A.next := Nat.lt_of_lt_of_le hlt a3.next
 obtain ⟨f, B, b1, b2, b3⟩ := put_run (m + 4) onA (db := db) (a := 0 + 1 - h0) (x := y) p3 (by omega) (by omega)
 obtain ⟨LB, b1', b4⟩ := on_jb hjA ltA b1 (fun c => let ⟨_, _, z, _⟩ := put_run (m + 4) (icy_on (c := c) onA) (db := db) (a := 0 + 1 - h0) (x := y) p3 (by omega) (by omega); ⟨_, z⟩)
 have onB := b3.on.trans onA
 have gB := a3.trans b3
 have hjB := hjA.grew ltA (fun h => h) b3
 have hvB : VL B v fs Y.next := hv.grew gB (fun _ _ h => h)
 obtain ⟨y2, W, v', C, c1, c2, c3, c4⟩ := hvB.push3 onB (Nat.le_trans gY.next gB.next) (by omega) (fn_one 25 [.ptr db 0] []) b2.oneV (fn_one 25 [.ptr db 0] [])
 obtain ⟨L1, c1'⟩ := lg_of (lg_bsP _ _ _ _ _) c1 []
 obtain ⟨L2, c2'⟩ := lg_of (lg_apP _ _ _ _ _) c2 []
 have onC := c4.on.trans onB
 obtain ⟨U', u1, u2, u3, u4⟩ := relog_any ho C [] [[], [], [], [], [], (X.lg [⟨jb, 0 + 0 + 0, 0 + 0 + 0 + 1, false⟩]).log, [], [], [], [], (X.lg [⟨jb, 0 + 0, 0 + 0 + 3, false⟩]).log, [], [], [], [], (X.lg [⟨jb, 0 + 0 + 1, 0 + 0 + 1 + 1, false⟩]).log, [], [], [], [], (X.lg [⟨jb, 0 + 6, 0 + 6 + 1, false⟩]).log, [], [], [], [], (X.lg [⟨jb, 0 + 4, 0 + 4 + 1, false⟩]).log, [], [], [], (X.lg []).log, (A.lg LA).log, (B.lg LB).log, [], [], [], [], (B.lg [⟨jb, 0 + 0 + 0, 0 + 0 + 0 + 1, false⟩]).log, [], (W.lg L1).log, (C.lg L2).log, []]
 have hprs : pairsOk [[], [], [], [], [], (X.lg [⟨jb, 0 + 0 + 0, 0 + 0 + 0 + 1, false⟩]).log, [], [], [], [], (X.lg [⟨jb, 0 + 0, 0 + 0 + 3, false⟩]).log, [], [], [], [], (X.lg [⟨jb, 0 + 0 + 1, 0 + 0 + 1 + 1, false⟩]).log, [], [], [], [], (X.lg [⟨jb, 0 + 6, 0 + 6 + 1, false⟩]).log, [], [], [], [], (X.lg [⟨jb, 0 + 4, 0 + 4 + 1, false⟩]).log, [], [], [], (X.lg []).log, (A.lg LA).log, (B.lg LB).log, [], [], [], [], (B.lg [⟨jb, 0 + 0 + 0, 0 + 0 + 0 + 1, false⟩]).log, [], (W.lg L1).log, (C.lg L2).log, []] [(5, [10, 15, 20, 25, 29, 30, 31, 36]), (10, [15, 20, 25, 29, 30, 36]), (15, [20, 25, 29, 30, 36]), (20, [25, 29, 30, 36]), (25, [29, 36]), (29, [36]), (30, [36]), (31, [36])] = true := by
  refine pairs_any fun p hp j hj e he f hf => ?_
  have no : ∀ {f : LE}, f ∈ ([] : List LE) → False := fun h => by cases h
  simp only [List.mem_cons, List.not_mem_nil, or_false] at hp
  rcases hp with rfl | rfl | rfl | rfl | rfl | rfl | rfl | rfl <;> simp only [List.mem_cons, List.not_mem_nil, or_false] at hj
  · rcases hj with rfl | rfl | rfl | rfl | rfl | rfl | rfl | rfl
    · exact cf (one_rd e he) (.inl (one_rd (jb := jb) f hf).1)
    · exact cf (one_rd e he) (.inl (one_rd (jb := jb) f hf).1)
    · exact cf (one_rd e he) (.inl (one_rd (jb := jb) f hf).1)
    · exact cf (one_rd e he) (.inl (one_rd (jb := jb) f hf).1)
    · exact (no hf).elim
    · exact cf (one_rd e he) (a4 f hf)
    · exact cf (one_rd e he) (b4 f hf)
    · exact cf (one_rd e he) (.inl (one_rd (jb := jb) f hf).1)
  · rcases hj with rfl | rfl | rfl | rfl | rfl | rfl
    · exact cf (one_rd e he) (.inl (one_rd (jb := jb) f hf).1)
    · exact cf (one_rd e he) (.inl (one_rd (jb := jb) f hf).1)
    · exact cf (one_rd e he) (.inl (one_rd (jb := jb) f hf).1)
    · exact (no hf).elim
    · exact cf (one_rd e he) (a4 f hf)
    · exact cf (one_rd e he) (.inl (one_rd (jb := jb) f hf).1)
  · rcases hj with rfl | rfl | rfl | rfl | rfl
    · exact cf (one_rd e he) (.inl (one_rd (jb := jb) f hf).1)
    · exact cf (one_rd e he) (.inl (one_rd (jb := jb) f hf).1)
    · exact (no hf).elim
    · exact cf (one_rd e he) (a4 f hf)
    · exact cf (one_rd e he) (.inl (one_rd (jb := jb) f hf).1)
  · rcases hj with rfl | rfl | rfl | rfl
    · exact cf (one_rd e he) (.inl (one_rd (jb := jb) f hf).1)
    · exact (no hf).elim
    · exact cf (one_rd e he) (a4 f hf)
    · exact cf (one_rd e he) (.inl (one_rd (jb := jb) f hf).1)
  · rcases hj with rfl | rfl
    · exact (no hf).elim
    · exact cf (one_rd e he) (.inl (one_rd (jb := jb) f hf).1)
  · exact (no he).elim
  · subst hj
    exact cf' (a4 e he) (one_rd f hf)
  · subst hj
    exact cf' (b4 e he) (one_rd f hf)
 have hvb : ∀ {z e zz n : Nat} {c : Tr (Tr V)}, B.heap.get z = some (.cells e zz n false c) → e ≠ 56 → ¬ (blkOf v = some z) := fun hg he hb => by
  obtain ⟨_, hr⟩ := hvB.blk hb
  obtain ⟨_, g'⟩ := RowAt.get hr
  exact blk_ne hg g' he rfl
 have gC : Grew (fun x => blkOf v = some x) X C := (gB.mono fun _ _ h => h.elim).trans c4
 have gU : Grew (fun x => blkOf v = some x) X U' := Grew.same gC u2 u3 (u4.trans onC.symm)
 have onU := gU.on.trans ho
 have hvx : ∀ {z e zz n : Nat} {c : Tr (Tr V)}, X.heap.get z = some (.cells e zz n false c) → e ≠ 56 → ¬ (blkOf v = some z) := fun hg he hb => by
  obtain ⟨_, hr⟩ := hv.blk hb
  obtain ⟨_, g'⟩ := RowAt.get hr
  exact blk_ne hg g' he rfl
 have hjU : VarAt U' jb 44 8 (jCells db lv num w0 h0) := let ⟨_, g⟩ := VarAt.get hj; hj.grew hlt (hvx g (by decide)) gU
 have hdU : DAt U' db fb wv k := by
  obtain ⟨ops, hb⟩ := hd.bx
  obtain ⟨_, g1⟩ := VarAt.get hb
  obtain ⟨l, hl, hfl⟩ := hd.fl
  obtain ⟨_, g2⟩ := RowAt.get hfl
  exact ⟨onU, ⟨ops, hb.grew hd.ld (hvx g1 (by decide)) gU⟩, ⟨l, hl, hfl.grew hd.lf (hvx g2 (by decide)) gU⟩, hd.wr.grew gU (fun r l hr => let ⟨_, g3⟩ := RowAt.get hr; hvx g3 (by decide)), Nat.lt_of_lt_of_le hd.ld gU.next, Nat.lt_of_lt_of_le hd.lf gU.next⟩
 have hnU : TLo U' nv new 0 := hn.grewW gU (fun r hr => let ⟨_, g⟩ := RowAt.get hr; hvx g (by decide))
 have hB2 : ∀ f', Todo B db f' → Todo U' db f' := fun f' hT => Todo.same (Todo.grew hT c4 (fun x e z n c hg he => hvb hg (by rcases he with rfl | rfl | rfl <;> decide))) u2 u3
 have htU : ∀ f' ∈ fs ++ [.fn (.func 25) [.ptr db 0] [], f, .fn (.func 25) [.ptr db 0] []], Todo U' db f' := fun f' hf' => by
  rcases List.mem_append.1 hf' with h | h
  · exact hB2 f' (Todo.grew (ht f' h) gB (fun _ _ _ _ _ _ _ h => h))
  · simp only [List.mem_cons, List.not_mem_nil, or_false] at h
    rcases h with rfl | rfl | rfl
    · exact .inl rfl
    · exact hB2 _ b2
    · exact .inl rfl
 have hlen : (fs ++ [.fn (.func 25) [.ptr db 0] [], f, .fn (.func 25) [.ptr db 0] []]).length = fs.length + 3 := by rw [List.length_append]; rfl
 obtain ⟨Z, wv', k', z1, z2, z3, z4⟩ := inOrder_run m (c3.same u2 u3) htU hdU (by rw [hlen]; omega)
 rw [hlen] at z3
 have onZ := z2.on
 have ltU : jb < U'.next := Nat.lt_of_lt_of_le hlt gU.next
 have hjZ : VarAt Z jb 44 8 (jCells db lv num w0 h0) := let ⟨_, g⟩ := VarAt.get hjU; hjU.grew ltU (not_dw hdU g (by decide) (by decide) (by decide)) z4
 have hnZ : TLo Z nv new 0 := hnU.grewW z4 (fun r hr => let ⟨_, g⟩ := RowAt.get hr; not_dw hdU g (by decide) (by decide) (by decide))
 obtain ⟨Z1, q1, q2, q3, q4⟩ := VarAt.stv onZ hjZ (i := 0 + 3) (by omega) hn.oneV
 have on1 := q3.on.trans onZ
 obtain ⟨Z2, s1, s2, s3, s4⟩ := VarAt.stv on1 q2 (i := 0 + 5) (by omega) (oneV_int .i64 (w : Int))
 have on2 := s3.on.trans on1
 obtain ⟨Z3, t1, t2, t3, t4⟩ := VarAt.stv on2 s2 (i := 0 + 6) (by omega) (oneV_int .i64 ((1 - h0 : Nat) : Int))
 have on3 := t3.on.trans on2
 obtain ⟨Z4, v1, v2, v3, v4⟩ := VarAt.stv on3 t2 (i := 0 + 4) (by omega) (oneV_int .u64 (IntKind.u64.wrap (num + 1)))
 have on4 := v3.on.trans on3
 have g4 : Grew (fun x => x = jb) Z Z4 := ((q3.trans s3).trans t3).trans v3
 have hgj := VarAt.get hjZ
 obtain ⟨cj, gj⟩ := hgj
 have hnj : ∀ {z e zz n : Nat} {c : Tr (Tr V)}, Z.heap.get z = some (.cells e zz n false c) → e ≠ 44 → ¬ (z = jb) := fun hg he => blk_ne hg gj he
 have hdZ : DAt Z4 db fb wv' k' := by
  obtain ⟨ops, hb⟩ := z2.bx
  obtain ⟨_, g1⟩ := VarAt.get hb
  obtain ⟨l, hl, hfl⟩ := z2.fl
  obtain ⟨_, g2⟩ := RowAt.get hfl
  exact ⟨on4, ⟨ops, hb.grew z2.ld (hnj g1 (by decide)) g4⟩, ⟨l, hl, hfl.grew z2.lf (hnj g2 (by decide)) g4⟩, z2.wr.grew g4 (fun r l hr => let ⟨_, g3⟩ := RowAt.get hr; hnj g3 (by decide)), Nat.lt_of_lt_of_le z2.ld g4.next, Nat.lt_of_lt_of_le z2.lf g4.next⟩
 refine ⟨Z4, ?_, ⟨⟨IntKind.u64.wrap (num + 1), w, 1 - h0, hw, by omega, v2⟩, hnZ.grewW g4 (fun r hr => let ⟨_, g⟩ := RowAt.get hr; hnj g (by decide)), ⟨wv', k', hdZ, by omega⟩, Nat.lt_of_lt_of_le ltU (Nat.le_trans z4.next g4.next), hc⟩, ?_⟩
 · rw [R19_5_eq, ncp, oB, faPg 0 2 0 true jb, oB, faPg 0 0 (0 + 0) false jb, oB]
   simp only [ons, lglg]
   rw [r0 ho hj, oB, oB, faPg 0 2 0 true jb, oB]
   simp only [ons, lglg]
   rw [p2, oB, oB, faPg 0 2 0 true jb, oB, faPg 1 0 (0 + 0) false jb, oB]
   simp only [ons, lglg]
   rw [r1, oB, show (V.int .i64 0) = .int .i64 ((0 : Nat) : Int) from rfl, succNat (by omega), oB, oB, faPg 6 0 0 false jb, oB]
   simp only [ons, lglg]
   rw [r6, oB]
   dsimp only
   rw [subF false false (0 + 1) h0 (by omega) (by omega), oB, oB, faPg 4 0 0 false jb, oB]
   simp only [ons, lglg]
   rw [r4, oB]
   dsimp only
   rw [binV_ii, intsV_add, oB]
   simp only [ons, lglg]
   rw [lnStr_sv, oB]
   simp only [ons, lglg]
   rw [a1', callD_ret]
   simp only [ons, lglg]
   rw [b1', callD_ret, oB, faPg 0 2 0 true jb, oB, faPg 0 0 (0 + 0) false jb, oB]
   simp only [ons, lglg]
   rw [r0 onB hjB, oB]
   simp only [ons, lglg]
   rw [c1', oB]
   simp only [ons, lglg]
   rw [c2', oB]
   simp only [ons, lglg]
   rw [endP_of hprs, u1, z1, callP_ret]
   rw [show binV E0 .neq 31 false true (.int .i64 0) (.int .i64 ((0 : Nat) : Int)) = some (.bool false) from rfl, oB, ifK_bool, cond_false, oB, faPg 6 0 0 false jb, oB, VarAt.ldv onZ hjZ (i := 0 + 6) rfl, oB]
   dsimp only
   rw [show (V.int .i64 1) = .int .i64 ((1 : Nat) : Int) from rfl, subF true false 1 h0 (by omega) (by omega), oB, oB, faPg 3 0 0 false jb, oB, q1, oB]
   dsimp only
   rw [oB, faPg 5 0 0 false jb, oB, s1, oB]
   dsimp only
   rw [oB, faPg 6 0 0 false jb, oB, t1, oB]
   dsimp only
   rw [oB, faPg 4 0 0 false jb, oB, VarAt.ldv on3 t2 (i := 0 + 4) rfl, oB]
   dsimp only
   rw [binV_ii, intsV_add, oB, oB, faPg 4 0 0 false jb, oB, v1, oB]
 · have g1 : Grew (fun _ => False) Y U' := Grew.fresh gY (Nat.le_refl _) (gU.mono fun z _ h => (hv.blk h).1)
   exact jgrew (jgrew (jgrew0 g1) (z4.mono fun z _ h => .inr h)) (g4.mono fun z _ h => .inl h)
theorem lay_run (m : Nat) {jb db fb w there K : Nat} {lv nv : V} {recs new : List Bs} (h : JAt S jb db fb lv recs K) (hK : K + 100 ≤ 900) (hw : w ≤ 1) (hth : there ≤ 384) (hn : TLo S nv new 0) (hc : costL new ≤ 384) :
 ∃ U, (ev E0 KD (m + 6)).f 19 [.ptr jb 0, .int .i64 (w : Int), .int .i64 (there : Int), nv] S = some (.ret (.int .i64 0), U) ∧ JAt U jb db fb nv new (K + 30) ∧ Grew (JW jb db fb S) S U := by
 have ho := h.on
 have hcl := cost_len new
 have hsm : ∀ t ∈ new, t.length < 16384 := fun t ht => by have := cost_mem ht; omega
 obtain ⟨A, a1, a2⟩ : ∃ A, (ev E0 KD (m + 5)).f 16 [nv] S = some (.ret (sv (laidL new)), A) ∧ Grew (fun _ => False) S A := ⟨S, laid_run (m + 3) ho hn.tl (by omega) hsm (by omega), Grew.refl _ _⟩
 have onA := a2.on.trans ho
 have hA := h.grew a2
 obtain ⟨num, w0, h0, hw0, hh0, hjA⟩ := hA.bx
 obtain ⟨v', fs', B, b1, b2, b3, b4, b5⟩ := L90_spec (m := m + 4) (N := rounds) (db := db) (nv := nv) onA hjA hA.lj hw (show (laidL new).length ≤ 384 by rw [laid_len hsm]; exact hc) (R19_5 (ev E0 KD (m + 5)) rounds (finN E0 (ev E0 KD (m + 5)) Try.f19) noEx) (exB 0 (R19_5 (ev E0 KD (m + 5)) rounds (finN E0 (ev E0 KD (m + 5)) Try.f19) noEx) noEx) 4 (there / 128) rounds .nilslice [] A (by rw [laid_len hsm]; omega) (by omega) (by unfold rounds; omega) (by simp) (Grew.refl _ _) .nil (fun f hf => by cases hf)
 have hB := hA.grew b5
 obtain ⟨wv, k, hd, hk⟩ := hB.dk
 have hjB := hjA.grew hA.lj (fun h => h) b5
 obtain ⟨T, t1, t2, t3⟩ := R5_spec (m := m) (w := w) (x := laidL new) hjB hB.lj hw hh0 hd hk hK b5 b2 b3 (by simp at b4; omega) ((hn.grew a2).grew b5) hc (finN E0 (ev E0 KD (m + 5)) Try.f19) noEx
 refine ⟨T, rd19 ?_, t2, jgrew (jgrew0 a2) t3⟩
 show F19 (ev E0 KD (m + 5)) rounds (.ptr jb 0) (.int .i64 (w : Int)) (.int .i64 (there : Int)) nv S = _
 rw [F19_eq, a1, callP_ret, show binV E0 .quo 3 false true (.int .i64 (there : Int)) (.int .i64 128) = some (.int .i64 ((there / 128 : Nat) : Int)) from by
  rw [binV_ii, intsV_quo _ _ _ (by decide), Int.tdiv_eq_ediv_of_nonneg (by omega), wrap_i64 (by omega) (by omega)]; rfl, oB, b1, exB_same, t1]
end
end Go.Proofs.YtbfdabjcgcbimaaR.W
namespace Go.Proofs.YtbfdabjcgcbimaaR.W
open Go.Proofs.YtbfdabjcgcbimaaR.Ev Go.RowKit
section
variable {s S T U X Y : St}
theorem eqJ (b : Nat) : binV E0 .eql 24 false true (.ptr b 0) .nilptr = some (.bool false) := by kernel_rfl
theorem JAt.same {jb db fb : Nat} {lv : V} {recs : List Bs} {K : Nat} (h : JAt S jb db fb lv recs K) (h1 : U.heap = S.heap) (h2 : U.next = S.next) (h3 : U.on = false) : JAt U jb db fb lv recs K := h.grew (Grew.same (Grew.refl _ _) h1 h2 (h3.trans h.on.symm))
theorem JAt.small {jb db fb : Nat} {lv : V} {recs : List Bs} {K : Nat} (h : JAt S jb db fb lv recs K) : recs.length < 1000 ∧ (∀ t ∈ recs, t.length < 16384) ∧ costL recs < 90000000 := by
 have h1 := h.cost
 have h2 := cost_len recs
 exact ⟨by omega, fun t ht => by have := cost_mem ht; omega, by omega⟩
theorem room384 (m : Nat) (ho : S.on = false) {u : Tr V} (h : u.get 2 = some (.int .i64 ((3 : Nat) : Int))) : ∃ U, (ev E0 KD (m + 1)).f 15 [.agg 3 u] S = some (.ret (.int .i64 ((384 : Nat) : Int)), U) ∧ Grew (fun _ => False) S U := room_run m ho h (by omega)
theorem jroom_run (m : Nat) {jb db fb K : Nat} {lv : V} {recs : List Bs} (h : JAt S jb db fb lv recs K) : ∃ U, (ev E0 KD (m + 3)).f 5 [.ptr jb 0] S = some (.ret (.int .i64 ((384 - costL recs : Nat) : Int)), U) ∧ Grew (fun _ => False) S U := by
 have ho := h.on
 obtain ⟨num, w, hh, hw, hh1, hj⟩ := h.bx
 obtain ⟨s1, s2, s3⟩ := h.small
 have hc := h.cost
 obtain ⟨u, p1, p2, p3, p4, p5⟩ := j_place ho hj
 obtain ⟨A, a1, a2⟩ := room384 (m + 1) ho p5
 obtain ⟨LA, a1', a3⟩ := on_jb hj h.lj a1 (fun c => let ⟨_, z, _⟩ := room384 (m + 1) (icy_on (c := c) ho) p5; ⟨_, z⟩)
 have onA := a2.on.trans ho
 have hA := h.grew a2
 have hjA := hj.grew h.lj (fun h => h) a2
 have r3 : ld1 (.ptr jb (0 + 3)) (A.lg []) = some (lv, A.lg [⟨jb, 0 + 3, 0 + 3 + 1, false⟩]) := j_fld onA (o := 0) (i := 3) hjA rfl
 obtain ⟨L, b1, b2⟩ := laid_on m onA hA.l.tl s1 s2 s3
 obtain ⟨U, u1, u2, u3, u4⟩ := relog_any ho A [] [[], [], [], (S.lg [⟨jb, 0 + 0, 0 + 0 + 3, false⟩]).log, (A.lg LA).log, [], [], [], (A.lg [⟨jb, 0 + 3, 0 + 3 + 1, false⟩]).log, (A.lg L).log, (A.lg []).log, [], []]
 refine ⟨U, rd5 ?_, Grew.same a2 u2 u3 (u4.trans onA.symm)⟩
 show F5 (ev E0 KD (m + 2)) rounds (.ptr jb 0) S = _
 rw [F5_eq, eqJ, oB, ifK_bool, cond_false, ncp, oB, faPg 0 2 0 true jb, oB]
 simp only [ons, lglg]
 rw [p2, oB]
 simp only [ons, lglg]
 rw [a1', callD_ret, oB, faPg 3 0 0 false jb, oB]
 simp only [ons, lglg]
 rw [r3, oB]
 simp only [ons, lglg]
 rw [b1, callD_ret]
 simp only [ons, lglg]
 rw [lnStr_sv, oB]
 simp only [ons, lglg]
 rw [laid_len s2, subF false false 384 (costL recs) hc (by omega), oB]
 rw [endP_of (pairs_any fun p hp j hj e he f hf => ?_), u1]
 simp only [List.mem_cons, List.not_mem_nil, or_false] at hp
 rcases hp with rfl | rfl <;> simp only [List.mem_cons, List.not_mem_nil, or_false] at hj
 · subst hj
   exact cf (one_rd e he) (.inl (one_rd (jb := jb) f hf).1)
 · subst hj
   exact cf' (a3 e he) (one_rd f hf)
theorem records_run (m : Nat) {jb db fb K : Nat} {lv : V} {recs : List Bs} (h : JAt S jb db fb lv recs K) : ∃ w U, (ev E0 KD (m + 2)).f 7 [.ptr jb 0] S = some (.ret w, U) ∧ TLo U w recs S.next ∧ Grew (fun _ => False) S U := by
 obtain ⟨num, w, hh, hw, hh1, hj⟩ := h.bx
 obtain ⟨z, U, u1, u2, u3⟩ := clone_run m h.on h.l (by have := h.small.1; omega)
 refine ⟨z, U, rd7 ?_, u2, u3⟩
 show F7 (ev E0 KD (m + 1)) rounds (.ptr jb 0) S = _
 rw [F7_eq, eqJ, oB, ifK_bool, cond_false, ncp, oB, faPg 3 0 0 false jb, oB, VarAt.ldv h.on hj (i := 0 + 3) rfl, oB]
 dsimp only
 rw [u1, callP_ret]
theorem mayj_run (m : Nat) {jb db fb K room : Nat} {lv xv : V} {recs x : List Bs} (h : JAt S jb db fb lv recs K) (hx : TL S xv x) (h1 : x.length < 1000) (h2 : ∀ t ∈ x, t.length < 16384) (h3 : costL x < 90000000) :
 (ev E0 KD (m + 3)).f 18 [.ptr jb 0, xv, .int .i64 (room : Int)] S = some (.ret (.int .i64 (if room < costL x then 10 else 0)), S) := by
 obtain ⟨num, w, hh, hw, hh1, hj⟩ := h.bx
 refine rd18 ?_
 show F18 (ev E0 KD (m + 2)) rounds (.ptr jb 0) xv (.int .i64 (room : Int)) S = _
 rw [F18_eq, ncp, oB, faPg 7 0 0 false jb, oB, VarAt.ldv h.on hj (i := 0 + 7) rfl, oB]
 dsimp only
 rw [ifK_bool, cond_false, laid_run m h.on hx h1 h2 h3, callP_ret, lnStr_sv, oB]
 dsimp only
 rw [laid_len h2, binV_ii, intsV_gtr, oB, ifK_bool]
 by_cases hc : room < costL x
 · rw [show decide ((room : Int) < (costL x : Int)) = true from by simp; omega, cond_true, if_pos hc]
 · rw [show decide ((room : Int) < (costL x : Int)) = false from by simp; omega, cond_false, if_neg hc]
theorem bsT (ho : S.on = false) {v w : V} (hv : OneV v) (hw : OneV w) : ∃ U L, bsP 28 1 2 (Go.Proofs.YtbfdabjcgcbimaaR.Ev.one .nilslice) [(0, v), (1, w)] (S.lg []) = some (.slice S.next 0 2 2, U.lg L) ∧ (∀ e ∈ L, e.b = S.next) ∧ RowAt U S.next 28 1 [Go.Proofs.YtbfdabjcgcbimaaR.Ev.one v, Go.Proofs.YtbfdabjcgcbimaaR.Ev.one w] ∧ Grew (fun _ => False) S U ∧ U.next = S.next + 1 := by
 refine ⟨nw S (.cells 28 1 2 false (((Tr.tab 2 2 fun _ => Go.Proofs.YtbfdabjcgcbimaaR.Ev.one .nilslice).set (Go.Proofs.YtbfdabjcgcbimaaR.Ev.one v) 0).set (Go.Proofs.YtbfdabjcgcbimaaR.Ev.one w) 1)), [⟨S.next, 0, big, true⟩], ?_, fun e he => by cases List.mem_singleton.1 he; rfl, ?_, grew_nw ho _ _, rfl⟩
 · unfold bsP fillE fillE fillE
   simp only [hv.size, hv.tup, hv.cells, hw.size, hw.tup, hw.cells, Nat.beq_refl, Bool.not_false, Bool.and_true, show Nat.blt 0 2 = true from rfl, show Nat.blt 1 2 = true from rfl, cond_true, Tr.setC_eq, oB]
   unfold nw
   rw [note_off ho, note_lg]
   rfl
 · refine rowAt_nw ho (by omega) rfl (by unfold big; omega) fun i t h => ?_
   rw [Tr.get_set, Tr.get_set]
   match i, h with
   | 0, h => simpa using h
   | 1, h => simpa using h
   | i + 2, h => simp at h
theorem eqlen0 (a : Nat) : binV E0 .eql 3 false true (.int .i64 (a : Int)) (.int .i64 0) = some (.bool (decide (a = 0))) := by
 rw [binV_ii, intsV_eql]
 congr 2
 rw [decide_eq_decide]; omega
theorem commit_run (m : Nat) {jb db fb K M : Nat} {lv xv : V} {recs x : List Bs} (h : JAt S jb db fb lv recs K) (hK : K + 100 ≤ 900) (hx : TLo S xv x M) (h1 : x.length ≤ 8) (h2 : ∀ t ∈ x, t.length ≤ 300) (h3 : costL x < 10000) :
 ∃ U, (384 - costL recs < costL x ∧ (ev E0 KD (m + 7)).f 8 [.ptr jb 0, xv] S = some (.ret (.int .i64 10), U) ∧ JAt U jb db fb lv recs K ∧ Grew (JW jb db fb S) S U) ∨
  (costL x ≤ 384 - costL recs ∧ (ev E0 KD (m + 7)).f 8 [.ptr jb 0, xv] S = some (.ret (.int .i64 0), U) ∧ (∃ lv', JAt U jb db fb lv' (recs ++ x) (K + 30)) ∧ Grew (JW jb db fb S) S U) := by
 have hsx : ∀ t ∈ x, t.length < 16384 := fun t ht => by have := h2 t ht; omega
 have hc := h.cost
 obtain ⟨A, a1, a2⟩ := jroom_run (m + 3) h
 have hA := h.grew a2
 have hxA := hx.grew a2
 have hmay := mayj_run (m + 3) (room := 384 - costL recs) hA hxA.tl (by omega) hsx (by omega)
 by_cases hfull : 384 - costL recs < costL x
 · rw [if_pos hfull] at hmay
   refine ⟨A, .inl ⟨hfull, rd8 ?_, hA, jgrew0 a2⟩⟩
   show F8 (ev E0 KD (m + 6)) rounds (.ptr jb 0) xv S = _
   rw [F8_eq, eqJ, oB, ifK_bool, cond_false, a1, callP_ret, hmay, callP_ret, show binV E0 .neq 31 false true (.int .i64 10) (.int .i64 0) = some (.bool true) from rfl, oB]
   simp only [gFT, oB, cond_false, pickV_bool, cond_true, ifK_bool]
 · rw [if_neg hfull] at hmay
   by_cases he : x.length = 0
   · have hx0 : x = [] := List.length_eq_zero_iff.1 he
     subst hx0
     refine ⟨A, .inr ⟨by omega, rd8 ?_, ⟨lv, ?_⟩, jgrew0 a2⟩⟩
     · show F8 (ev E0 KD (m + 6)) rounds (.ptr jb 0) xv S = _
       rw [F8_eq, eqJ, oB, ifK_bool, cond_false, a1, callP_ret, hmay, callP_ret, show binV E0 .neq 31 false true (.int .i64 0) (.int .i64 0) = some (.bool false) from rfl, oB]
       simp only [gFF, oB, cond_true]
       rw [hxA.tl.len, oB]
       dsimp only
       rw [eqlen0, oB, pickV_bool, cond_false, oB, decide_eq_true he, ifK_bool, cond_true]
     · rw [List.append_nil]
       obtain ⟨wv, k, hd, hk⟩ := hA.dk
       exact ⟨hA.bx, hA.l, ⟨wv, k, hd, by omega⟩, hA.lj, hA.cost⟩
   · have onA := hA.on
     obtain ⟨num, w, hh, hw, hh1, hj⟩ := hA.bx
     obtain ⟨s1, s2, s3⟩ := hA.small
     have r5 : ld1 (.ptr jb (0 + 5)) (A.lg []) = some (.int .i64 (w : Int), A.lg [⟨jb, 0 + 5, 0 + 5 + 1, false⟩]) := j_fld onA (o := 0) (i := 5) hj rfl
     have r3 : ld1 (.ptr jb (0 + 3)) (A.lg []) = some (lv, A.lg [⟨jb, 0 + 3, 0 + 3 + 1, false⟩]) := j_fld onA (o := 0) (i := 3) hj rfl
     obtain ⟨L28, b1, b2⟩ := laid_on (m + 4) onA hA.l.tl s1 s2 s3
     obtain ⟨B, LB, c1, c2, c3, c4, c5⟩ := bsT onA hA.l.oneV hxA.oneV
     have onB := c4.on.trans onA
     have hB := hA.grew c4
     have hjB := hj.grew hA.lj (fun h => h) c4
     have hxB := hxA.grew c4
     obtain ⟨z, C, d1, d2, d3⟩ := concat_run (m + 4) onB c3 (by omega) hB.l hxB (by omega) (by omega)
     obtain ⟨LC, d1', d4⟩ := on_jb hjB hB.lj d1 (fun c => by
      have hb : RowAt (icy B jb 44 8 1 c) A.next 28 1 [Go.Proofs.YtbfdabjcgcbimaaR.Ev.one lv, Go.Proofs.YtbfdabjcgcbimaaR.Ev.one xv] := c3.grew (by omega) (show ¬ (A.next = jb) by have := hA.lj; omega) (grew_put (s := B) jb _)
      obtain ⟨z', C', e1, _⟩ := concat_run (m + 4) (icy_on (c := c) onB) hb (show A.next < B.next by omega) (TLo.icy hB.l hjB) (TLo.icy hxB hjB) (by omega) (by omega)
      exact ⟨_, e1⟩)
     have hC := hB.grew d3
     have onC := hC.on
     have hcost : costL (recs ++ x) ≤ 384 := by rw [costL_app]; omega
     obtain ⟨T, t1, t2, t3⟩ := lay_run m (w := w) (there := (laidL recs).length) hC hK hw (by rw [laid_len s2]; exact hc) (TLo.weak d2 (Nat.zero_le _)) hcost
     obtain ⟨LT, t1'⟩ := Lg.ev_lg lgD t1 []
     obtain ⟨U, u1, u2, u3, u4⟩ := relog_any onA T [] [[], [], [], [], (A.lg [⟨jb, 0 + 5, 0 + 5 + 1, false⟩]).log, [], [], [], (A.lg [⟨jb, 0 + 3, 0 + 3 + 1, false⟩]).log, (A.lg L28).log, (A.lg []).log, [], [], [], (A.lg [⟨jb, 0 + 3, 0 + 3 + 1, false⟩]).log, [], (B.lg LB).log, (C.lg LC).log, (T.lg LT).log, []]
     have hprs : pairsOk [[], [], [], [], (A.lg [⟨jb, 0 + 5, 0 + 5 + 1, false⟩]).log, [], [], [], (A.lg [⟨jb, 0 + 3, 0 + 3 + 1, false⟩]).log, (A.lg L28).log, (A.lg []).log, [], [], [], (A.lg [⟨jb, 0 + 3, 0 + 3 + 1, false⟩]).log, [], (B.lg LB).log, (C.lg LC).log, (T.lg LT).log, []] [(4, [8, 9, 10, 14, 16, 17]), (8, [14, 16]), (9, [14, 16]), (10, [14, 16, 17])] = true := by
      have ljA := hA.lj
      have hN : ∀ f ∈ LB, f.w = false ∨ f.b ≠ jb := fun f hf => .inr (by rw [c2 f hf]; omega)
      refine pairs_any fun p hp j hj e he f hf => ?_
      have no : ∀ {f : LE}, f ∈ ([] : List LE) → False := fun h => by cases h
      simp only [List.mem_cons, List.not_mem_nil, or_false] at hp
      rcases hp with rfl | rfl | rfl | rfl <;> simp only [List.mem_cons, List.not_mem_nil, or_false] at hj
      · rcases hj with rfl | rfl | rfl | rfl | rfl | rfl
        · exact cf (one_rd e he) (.inl (one_rd (jb := jb) f hf).1)
        · exact cf (one_rd e he) (.inl (b2 f hf).1)
        · exact (no hf).elim
        · exact cf (one_rd e he) (.inl (one_rd (jb := jb) f hf).1)
        · exact cf (one_rd e he) (hN f hf)
        · exact cf (one_rd e he) (d4 f hf)
      · rcases hj with rfl | rfl
        · exact cf (one_rd e he) (.inl (one_rd (jb := jb) f hf).1)
        · exact cf (one_rd e he) (hN f hf)
      · rcases hj with rfl | rfl
        · exact .inr ⟨(b2 e he).1, (one_rd (jb := jb) f hf).1⟩
        · exact .inl (by rw [c2 f hf]; exact Nat.ne_of_lt (b2 e he).2)
      · exact (no he).elim
     refine ⟨U, .inr ⟨by omega, rd8 ?_, ⟨z, t2.same u2 u3 u4⟩, ?_⟩⟩
     · show F8 (ev E0 KD (m + 6)) rounds (.ptr jb 0) xv S = _
       rw [F8_eq, eqJ, oB, ifK_bool, cond_false, a1, callP_ret, hmay, callP_ret, show binV E0 .neq 31 false true (.int .i64 0) (.int .i64 0) = some (.bool false) from rfl, oB]
       simp only [gFF, oB, cond_true]
       rw [hxA.tl.len, oB]
       dsimp only
       rw [eqlen0, oB, pickV_bool, cond_false, oB, decide_eq_false he, ifK_bool, cond_false, ncp, oB, faPg 5 0 0 false jb, oB]
       simp only [ons, lglg]
       rw [r5, oB, oB, faPg 3 0 0 false jb, oB]
       simp only [ons, lglg]
       rw [r3, oB]
       simp only [ons, lglg]
       rw [b1, callD_ret]
       simp only [ons, lglg]
       rw [lnStr_sv, oB, oB, faPg 3 0 0 false jb, oB]
       simp only [ons, lglg]
       rw [r3, oB]
       simp only [ons, lglg]
       rw [c1, oB]
       simp only [ons, lglg]
       rw [d1', callD_ret]
       simp only [ons, lglg]
       rw [t1', callD_ret]
       simp only [ons, lglg]
       rw [endP_of hprs, u1]
     · have g1 : Grew (JW jb db fb S) S C := jgrew0 ((a2.trans c4).trans d3)
       exact Grew.same (jgrew g1 t3) u2 u3 (u4.trans t2.on.symm)
theorem rewrite_run (m : Nat) {jb db fb K M : Nat} {lv xv : V} {recs x : List Bs} (h : JAt S jb db fb lv recs K) (hK : K + 100 ≤ 900) (hx : TLo S xv x M) (h1 : x.length ≤ 8) (h2 : ∀ t ∈ x, t.length ≤ 300) (h3 : costL x < 10000) :
 ∃ U, (384 < costL x ∧ (ev E0 KD (m + 7)).f 10 [.ptr jb 0, xv] S = some (.ret (.int .i64 10), U) ∧ JAt U jb db fb lv recs K ∧ Grew (JW jb db fb S) S U) ∨
  (costL x ≤ 384 ∧ (ev E0 KD (m + 7)).f 10 [.ptr jb 0, xv] S = some (.ret (.int .i64 0), U) ∧ (∃ lv', JAt U jb db fb lv' x (K + 30)) ∧ Grew (JW jb db fb S) S U) := by
 have hsx : ∀ t ∈ x, t.length < 16384 := fun t ht => by have := h2 t ht; omega
 have ho := h.on
 obtain ⟨num0, w0, hh0, hw0, hh10, hj0⟩ := h.bx
 obtain ⟨u, p1, p2, p3, p4, p5⟩ := j_place ho hj0
 obtain ⟨A, a1, a2⟩ := room384 (m + 5) ho p5
 have hA := h.grew a2
 have hxA := hx.grew a2
 have hmay := mayj_run (m + 3) (room := 384) hA hxA.tl (by omega) hsx (by omega)
 by_cases hfull : 384 < costL x
 · rw [if_pos hfull] at hmay
   refine ⟨A, .inl ⟨hfull, rd10 ?_, hA, jgrew0 a2⟩⟩
   show F10 (ev E0 KD (m + 6)) rounds (.ptr jb 0) xv S = _
   rw [F10_eq, eqJ, oB, ifK_bool, cond_false, ncp, oB, faPg 0 2 0 true jb, oB, p1, oB]
   dsimp only
   rw [a1, callP_ret, hmay, callP_ret, show binV E0 .neq 31 false true (.int .i64 10) (.int .i64 0) = some (.bool true) from rfl, oB, ifK_bool, cond_true]
 · rw [if_neg hfull] at hmay
   have onA := hA.on
   obtain ⟨num, w, hh, hw, hh1, hj⟩ := hA.bx
   have r5 : ld1 (.ptr jb (0 + 5)) (A.lg []) = some (.int .i64 (w : Int), A.lg [⟨jb, 0 + 5, 0 + 5 + 1, false⟩]) := j_fld onA (o := 0) (i := 5) hj rfl
   obtain ⟨z, C, d1, d2, d3⟩ := clone_run (m + 5) onA hxA (by omega)
   obtain ⟨LC, d1', d4⟩ := on_jb hj hA.lj d1 (fun c => by
    obtain ⟨z', C', e1, _⟩ := clone_run (m + 5) (icy_on (c := c) onA) (TLo.icy hxA hj) (by omega)
    exact ⟨_, e1⟩)
   have hC := hA.grew d3
   obtain ⟨T, t1, t2, t3⟩ := lay_run m (w := 1 - w) (there := 0) hC hK (by omega) (by omega) (TLo.weak d2 (Nat.zero_le _)) (show costL x ≤ 384 by omega)
   obtain ⟨LT, t1'⟩ := Lg.ev_lg lgD t1 []
   have t1z : (ev E0 KD (m + 6)).f 19 [.ptr jb 0, .int .i64 ((1 - w : Nat) : Int), .int .i64 0, z] (C.lg []) = some (.ret (.int .i64 0), T.lg LT) := t1'
   obtain ⟨U, u1, u2, u3, u4⟩ := relog_any onA T [] [[], [], [], [], (A.lg [⟨jb, 0 + 5, 0 + 5 + 1, false⟩]).log, [], [], (C.lg LC).log, (T.lg LT).log, []]
   refine ⟨U, .inr ⟨by omega, rd10 ?_, ⟨z, t2.same u2 u3 u4⟩, ?_⟩⟩
   · show F10 (ev E0 KD (m + 6)) rounds (.ptr jb 0) xv S = _
     rw [F10_eq, eqJ, oB, ifK_bool, cond_false, ncp, oB, faPg 0 2 0 true jb, oB, p1, oB]
     dsimp only
     rw [a1, callP_ret, hmay, callP_ret, show binV E0 .neq 31 false true (.int .i64 0) (.int .i64 0) = some (.bool false) from rfl, oB, ifK_bool, cond_false, oB, faPg 5 0 0 false jb, oB]
     simp only [ons, lglg]
     rw [r5, oB]
     dsimp only
     rw [show (V.int .i64 1) = .int .i64 ((1 : Nat) : Int) from rfl, subF true false 1 w hw (by omega), oB]
     simp only [ons, lglg]
     rw [d1', callD_ret]
     simp only [ons, lglg]
     rw [t1z, callD_ret]
     simp only [ons, lglg]
     rw [endP_of (pairs_any fun p hp j hj e he f hf => ?_), u1]
     simp only [List.mem_cons, List.not_mem_nil, or_false] at hp
     subst hp
     simp only [List.mem_cons, List.not_mem_nil, or_false] at hj
     subst hj
     exact cf (one_rd e he) (d4 f hf)
   · exact Grew.same (jgrew (jgrew0 (a2.trans d3)) t3) u2 u3 (u4.trans t2.on.symm)
end
end Go.Proofs.YtbfdabjcgcbimaaR.W
namespace Go.Proofs.YtbfdabjcgcbimaaR.W
open Go.Proofs.YtbfdabjcgcbimaaR.Ev Go.RowKit
section
variable {s S T U X Y : St}
theorem gtrNat (a b : Nat) : binV E0 .gtr 3 false false (.int .i64 (a : Int)) (.int .i64 (b : Int)) = some (.bool (decide (b < a))) := by
 rw [binV_ii, intsV_gtr]
 congr 2
 rw [decide_eq_decide]; omega
theorem leqNat (c d : Bool) (a b : Nat) : binV E0 .leq 3 c d (.int .i64 (a : Int)) (.int .i64 (b : Int)) = some (.bool (decide (a ≤ b))) := by
 rw [binV_ii, intsV_leq]
 congr 2
 rw [decide_eq_decide]; omega
theorem neBool (a b : Bool) : binV E0 .neq 4 false false (.bool a) (.bool b) = some (.bool (a != b)) := by cases a <;> cases b <;> kernel_rfl
theorem eq00 : binV E0 .eql 31 false true (.int .i64 0) (.int .i64 0) = some (.bool true) := rfl
theorem eqT0 : binV E0 .eql 31 false true (.int .i64 10) (.int .i64 0) = some (.bool false) := rfl
theorem eq0T : binV E0 .eql 31 false true (.int .i64 0) (.int .i64 10) = some (.bool false) := rfl
theorem eqTT : binV E0 .eql 31 false true (.int .i64 10) (.int .i64 10) = some (.bool true) := rfl
theorem ne00 : binV E0 .neq 31 false true (.int .i64 0) (.int .i64 0) = some (.bool false) := rfl
theorem neT0 : binV E0 .neq 31 false true (.int .i64 10) (.int .i64 0) = some (.bool true) := rfl
theorem neTT : binV E0 .neq 31 false true (.int .i64 10) (.int .i64 10) = some (.bool false) := rfl
set_option maxRecDepth 100000 in
theorem R39_ok {self : EV} {N : Nat} {nk : Ac → St → Rs} {ek : Nat → Ac → St → Rs} {A B C D E : St} {v0 v4 v5 xv had w2 : V} {room size a b : Nat}
 (h1 : self.f 7 [v4] X = some (.ret had, A)) (h2 : self.f 5 [v4] A = some (.ret (.int .i64 (room : Int)), B)) (h3 : self.f 8 [v4, xv] B = some (.ret (.int .i64 0), C)) (hs : size ≤ room) (hr : room ≤ 384)
 (h4 : self.f 5 [v4] C = some (.ret (.int .i64 ((room - size : Nat) : Int)), D)) (h5 : self.f 7 [v4] D = some (.ret w2, E)) (l1 : ∀ U, lnS had U = some (.int .i64 (a : Int), U)) (l2 : ∀ U, lnS xv U = some (.int .i64 (b : Int), U)) (l3 : ∀ U, lnS w2 U = some (.int .i64 ((a + b : Nat) : Int), U)) (hab : a + b < 100000) :
 R3_39 self N nk ek (fr 149 [(0, v0), (4, v4), (5, v5), (6, xv), (7, .int .i64 (size : Int))]) X = nk (fr 149 [(0, v0), (4, v4), (5, v5)]) E := by
 rw [R3_39_eq, h1, callP_ret, h2, callP_ret, h3, callP_ret, eq00]
 try simp only [guardV_t, oB, cond_true]
 rw [gtrNat, decide_eq_false (show ¬ room < size by omega)]
 try simp only [guardV_f, oB, cond_true, Bool.not_false]
 rw [h4, callP_ret]
 try simp only [guardV_t, guardV_f, guardV_no, oB, cond_true, cond_false, Bool.not_true, Bool.not_false]
 rw [subF false false room size hs (by omega)]
 try simp only [oB]
 rw [neqInt, decide_eq_true rfl]
 try simp only [guardV_f, oB, cond_true, cond_false, Bool.not_true, Bool.not_false, pickV_bool]
 rw [h5, callP_ret]
 try simp only [guardV_t, guardV_f, guardV_no, oB, cond_true, cond_false, Bool.not_true, Bool.not_false, pickV_bool]
 rw [l3]
 try simp only [oB]
 rw [l1]
 try simp only [oB]
 rw [l2]
 try simp only [oB]
 rw [addNat (by omega)]
 try simp only [oB]
 rw [neqInt, decide_eq_true rfl]
 try simp only [guardV_t, guardV_f, guardV_no, oB, cond_true, cond_false, Bool.not_true, Bool.not_false, pickV_bool, ne00, callP_ret, ifK_bool, eq0T]
set_option maxRecDepth 100000 in
theorem R39_full {self : EV} {N : Nat} {nk : Ac → St → Rs} {ek : Nat → Ac → St → Rs} {A B C D E F G H : St} {v0 v4 v5 xv had w2 w3 : V} {room size : Nat}
 (h1 : self.f 7 [v4] X = some (.ret had, A)) (h2 : self.f 5 [v4] A = some (.ret (.int .i64 (room : Int)), B)) (h3 : self.f 8 [v4, xv] B = some (.ret (.int .i64 10), C)) (hs : room < size)
 (h4 : self.f 5 [v4] C = some (.ret (.int .i64 (room : Int)), D)) (h5 : self.f 7 [v4] D = some (.ret w2, E)) (h6 : self.f 9 [w2, had] E = some (.ret (.bool true), E))
 (h7 : (384 < size ∧ self.f 10 [v4, xv] E = some (.ret (.int .i64 10), H)) ∨ (size ≤ 384 ∧ self.f 10 [v4, xv] E = some (.ret (.int .i64 0), F) ∧ self.f 5 [v4] F = some (.ret (.int .i64 ((384 - size : Nat) : Int)), G) ∧ self.f 7 [v4] G = some (.ret w3, H) ∧ self.f 9 [w3, xv] H = some (.ret (.bool true), H))) :
 R3_39 self N nk ek (fr 149 [(0, v0), (4, v4), (5, v5), (6, xv), (7, .int .i64 (size : Int))]) X = nk (fr 149 [(0, v0), (4, v4), (5, v5)]) H := by
 rw [R3_39_eq, h1, callP_ret, h2, callP_ret, h3, callP_ret, eqT0]
 try simp only [guardV_t, guardV_f, guardV_no, oB, cond_true, cond_false, Bool.not_false, callP_ret, pickV_bool, neT0, neTT]
 rw [leqNat, decide_eq_false (show ¬ size ≤ room by omega)]
 try simp only [guardV_f, oB, cond_true, cond_false, Bool.not_false, pickV_bool]
 rw [h4, callP_ret]
 try simp only [guardV_t, guardV_f, guardV_no, oB, cond_true, cond_false, Bool.not_true, Bool.not_false, pickV_bool]
 rw [neqInt, decide_eq_true rfl]
 try simp only [guardV_f, oB, cond_true, cond_false, Bool.not_true, Bool.not_false, pickV_bool]
 rw [h5, callP_ret]
 try simp only [guardV_t, guardV_f, guardV_no, oB, cond_true, cond_false, Bool.not_true, Bool.not_false, pickV_bool]
 rw [h6, callP_ret]
 try simp only [oB, cond_true, cond_false, Bool.not_true, unV_not, ifK_bool, eqTT]
 have e384 : (V.int .i64 384) = .int .i64 ((384 : Nat) : Int) := rfl
 rcases h7 with ⟨hb, h7⟩ | ⟨hb, h7, h8, h9, h10⟩
 · rw [h7, callP_ret, eqT0, oB, e384, leqNat, decide_eq_false (show ¬ size ≤ 384 by omega), oB, neBool]
   try simp only [guardV_t, guardV_f, guardV_no, oB, cond_true, cond_false, Bool.not_false, pickV_bool, bne_self_eq_false, eqT0, callP_ret, ifK_bool]
 · rw [h7, callP_ret, eq00, oB, e384, leqNat, decide_eq_true hb, oB, neBool]
   try simp only [guardV_t, guardV_f, oB, cond_true, cond_false, Bool.not_false, pickV_bool, bne_self_eq_false, eq00]
   rw [h8, callP_ret]
   try simp only [guardV_t, guardV_f, guardV_no, oB, cond_true, cond_false, Bool.not_true, Bool.not_false, pickV_bool]
   rw [subF true false 384 size hb (by omega)]
   try simp only [oB]
   rw [neqInt, decide_eq_true rfl]
   try simp only [guardV_f, oB, cond_true, cond_false, Bool.not_true, Bool.not_false, pickV_bool]
   rw [h9, callP_ret]
   try simp only [guardV_t, guardV_f, guardV_no, oB, cond_true, cond_false, Bool.not_true, Bool.not_false, pickV_bool]
   rw [h10, callP_ret]
   try simp only [oB, cond_false, Bool.not_true, unV_not, ifK_bool]
end
end Go.Proofs.YtbfdabjcgcbimaaR.W
namespace Go.Proofs.YtbfdabjcgcbimaaR.W
open Go.Proofs.YtbfdabjcgcbimaaR.Ev Go.RowKit
noncomputable def isPtr (b : Nat) : V → Bool
 | .ptr x o => Nat.beq x b && Nat.beq o 0
 | _ => false
noncomputable def isI (n : Nat) : V → Bool
 | .int .i64 (.ofNat m) => Nat.beq m n
 | _ => false
noncomputable def isI1 : V → Bool
 | .int .i64 (.ofNat m) => Nat.ble m 1
 | _ => false
noncomputable def isU : V → Bool
 | .int .u64 _ => true
 | _ => false
noncomputable def isNil : V → Bool
 | .nilslice => true
 | _ => false
noncomputable def isF : V → Bool
 | .bool b => !b
 | _ => false
noncomputable def cellIs (c : Tr (Tr V)) (z i : Nat) (p : V → Bool) : Bool := match cellOf c z i with
 | some v => p v
 | none => false
noncomputable def rowIs (o : Option O) : Bool := match o with
 | some (.cells e z n ro c) => Nat.beq e 80 && Nat.beq z 128 && Nat.beq n 8 && !ro && (List.range 8).all fun i => (c.get i).isSome
 | _ => false
noncomputable def okD (U : St) (db : Nat) : Bool := match U.heap.get db with
 | some (.cells e z n ro c) => Nat.beq e 52 && Nat.beq z 5 && Nat.beq n 1 && !ro && cellIs c 5 1 isNil && cellIs c 5 2 isF && cellIs c 5 3 (isI 0) && cellIs c 5 4 isU && (match cellOf c 5 0 with
  | some (.slice fb o l k) => Nat.beq o 0 && Nat.beq l 8 && Nat.beq k 8 && Nat.blt fb U.next && rowIs (U.heap.get fb)
  | _ => false)
 | _ => false
noncomputable def okJ (U : St) (db jb : Nat) : Bool := match U.heap.get jb with
 | some (.cells e z n ro c) => Nat.beq e 44 && Nat.beq z 8 && Nat.beq n 1 && !ro && cellIs c 8 0 (isPtr db) && cellIs c 8 1 (isI 0) && cellIs c 8 2 (isI 3) && cellIs c 8 3 isNil && cellIs c 8 4 isU && cellIs c 8 5 isI1 && cellIs c 8 6 isI1 && cellIs c 8 7 isF
 | _ => false
noncomputable def okFresh (r : Option (En × St)) : Bool := match r with
 | some (.ret (.tuple [.ptr db o, .ptr jb o']), U) => Nat.beq o 0 && Nat.beq o' 0 && !U.on && Nat.blt db U.next && Nat.blt jb U.next && okJ U db jb && okD U db
 | _ => false
theorem fresh_ok : okFresh ((ev E0 KD 60).f 4 [.int .i64 8] s0) = true := by decide +kernel
theorem isPtr_of {b : Nat} {v : V} (h : isPtr b v = true) : v = .ptr b 0 := by
 unfold isPtr at h
 split at h
 · simp only [Bool.and_eq_true, Go.Proofs.YtbfdabjcgcbimaaR.Ev.beq_true] at h
   obtain ⟨rfl, rfl⟩ := h; rfl
 · cases h
theorem isI_of {n : Nat} {v : V} (h : isI n v = true) : v = .int .i64 (n : Int) := by
 unfold isI at h
 split at h
 · rw [Go.Proofs.YtbfdabjcgcbimaaR.Ev.beq_true] at h; subst h; rfl
 · cases h
theorem isI1_of {v : V} (h : isI1 v = true) : ∃ w : Nat, w ≤ 1 ∧ v = .int .i64 (w : Int) := by
 unfold isI1 at h
 split at h
 · rw [ble_true] at h; exact ⟨_, h, rfl⟩
 · cases h
theorem isU_of {v : V} (h : isU v = true) : ∃ n, v = .int .u64 n := by
 unfold isU at h
 split at h
 · exact ⟨_, rfl⟩
 · cases h
theorem isNil_of {v : V} (h : isNil v = true) : v = .nilslice := by
 unfold isNil at h
 split at h
 · rfl
 · cases h
theorem isF_of {v : V} (h : isF v = true) : v = .bool false := by
 unfold isF at h
 split at h
 · rename_i b
   cases b
   · rfl
   · cases h
 · cases h
theorem cellIs_of {c : Tr (Tr V)} {z i : Nat} {p : V → Bool} (h : cellIs c z i p = true) : ∃ v, cellOf c z i = some v ∧ p v = true := by
 unfold cellIs at h
 split at h
 · rename_i v hv; exact ⟨v, hv, h⟩
 · cases h
theorem rowIs_of {U : St} {b : Nat} (h : rowIs (U.heap.get b) = true) : ∃ l : List (Tr V), l.length = 8 ∧ RowAt U b 80 128 l := by
 unfold rowIs at h
 split at h
 · rename_i e z n ro c hg
   simp only [Bool.and_eq_true, Go.Proofs.YtbfdabjcgcbimaaR.Ev.beq_true, Bool.not_eq_true', List.all_eq_true, List.mem_range] at h
   obtain ⟨⟨⟨⟨rfl, rfl⟩, rfl⟩, rfl⟩, hall⟩ := h
   have key : ∀ m, m ≤ 8 → ∃ l : List (Tr V), l.length = m ∧ ∀ (i : Nat) t, l[i]? = some t → c.get i = some t := fun m => by
    induction m with
    | zero => exact fun _ => ⟨[], rfl, fun i t h => by simp at h⟩
    | succ m ih =>
     intro hm
     obtain ⟨l, h1, h2⟩ := ih (by omega)
     obtain ⟨t, ht⟩ := Option.isSome_iff_exists.1 (hall m (by omega))
     refine ⟨l ++ [t], by rw [List.length_append, h1]; rfl, fun i u hu => ?_⟩
     by_cases hi : i < m
     · rw [List.getElem?_append_left (by omega)] at hu
       exact h2 i u hu
     · have hlt := (List.getElem?_eq_some_iff.1 hu).1
       rw [List.length_append, List.length_singleton] at hlt
       have e : i = m := by omega
       subst e
       rw [List.getElem?_append_right (by omega), h1, Nat.sub_self] at hu
       simp at hu
       subst hu
       exact ht
   obtain ⟨l, h1, h2⟩ := key 8 (Nat.le_refl _)
   exact ⟨l, h1, by omega, by rw [h1]; unfold big; decide, c, by rw [h1]; exact hg, h2⟩
 · cases h
theorem okD_of {U : St} {db : Nat} (ho : U.on = false) (hl : db < U.next) (h : okD U db = true) : ∃ fb, DAt U db fb .nilslice 0 := by
 unfold okD at h
 split at h
 · rename_i e z n ro c hg
   simp only [Bool.and_eq_true, Go.Proofs.YtbfdabjcgcbimaaR.Ev.beq_true, Bool.not_eq_true'] at h
   obtain ⟨⟨⟨⟨⟨⟨⟨⟨rfl, rfl⟩, rfl⟩, rfl⟩, k1⟩, k2⟩, k3⟩, k4⟩, k5⟩ := h
   obtain ⟨v1, g1, k1⟩ := cellIs_of k1
   obtain ⟨v2, g2, k2⟩ := cellIs_of k2
   obtain ⟨v3, g3, k3⟩ := cellIs_of k3
   obtain ⟨v4, g4, k4⟩ := cellIs_of k4
   obtain rfl := isNil_of k1
   obtain rfl := isF_of k2
   obtain rfl := isI_of k3
   obtain ⟨ops, rfl⟩ := isU_of k4
   split at k5
   · rename_i fb o l k g0
     simp only [Bool.and_eq_true, Go.Proofs.YtbfdabjcgcbimaaR.Ev.beq_true, blt_true] at k5
     obtain ⟨⟨⟨⟨rfl, rfl⟩, rfl⟩, hf⟩, hr⟩ := k5
     refine ⟨fb, ho, ⟨ops, by omega, by unfold big; decide, rfl, c, hg, fun i v hi => ?_⟩, rowIs_of hr, .inl ⟨rfl, rfl⟩, hl, hf⟩
     match i, hi with
     | 0, hi => cases hi; exact g0
     | 1, hi => cases hi; exact g1
     | 2, hi => cases hi; exact g2
     | 3, hi => cases hi; exact g3
     | 4, hi => cases hi; exact g4
   · cases k5
 · cases h
theorem okJ_of {U : St} {db jb : Nat} (h : okJ U db jb = true) : ∃ (num : Int) (w hh : Nat), w ≤ 1 ∧ hh ≤ 1 ∧ VarAt U jb 44 8 (jCells db .nilslice num w hh) := by
 unfold okJ at h
 split at h
 · rename_i e z n ro c hg
   simp only [Bool.and_eq_true, Go.Proofs.YtbfdabjcgcbimaaR.Ev.beq_true, Bool.not_eq_true'] at h
   obtain ⟨⟨⟨⟨⟨⟨⟨⟨⟨⟨⟨rfl, rfl⟩, rfl⟩, rfl⟩, k0⟩, k1⟩, k2⟩, k3⟩, k4⟩, k5⟩, k6⟩, k7⟩ := h
   obtain ⟨v0, g0, k0⟩ := cellIs_of k0
   obtain ⟨v1, g1, k1⟩ := cellIs_of k1
   obtain ⟨v2, g2, k2⟩ := cellIs_of k2
   obtain ⟨v3, g3, k3⟩ := cellIs_of k3
   obtain ⟨v4, g4, k4⟩ := cellIs_of k4
   obtain ⟨v5, g5, k5⟩ := cellIs_of k5
   obtain ⟨v6, g6, k6⟩ := cellIs_of k6
   obtain ⟨v7, g7, k7⟩ := cellIs_of k7
   obtain rfl := isPtr_of k0
   obtain rfl := isI_of k1
   obtain rfl := isI_of k2
   obtain rfl := isNil_of k3
   obtain ⟨num, rfl⟩ := isU_of k4
   obtain ⟨w, hw, rfl⟩ := isI1_of k5
   obtain ⟨hh, hw2, rfl⟩ := isI1_of k6
   obtain rfl := isF_of k7
   refine ⟨num, w, hh, hw, hw2, by omega, by unfold big; decide, rfl, c, hg, fun i v hi => ?_⟩
   match i, hi with
   | 0, hi => cases hi; exact g0
   | 1, hi => cases hi; exact g1
   | 2, hi => cases hi; exact g2
   | 3, hi => cases hi; exact g3
   | 4, hi => cases hi; exact g4
   | 5, hi => cases hi; exact g5
   | 6, hi => cases hi; exact g6
   | 7, hi => cases hi; exact g7
 · cases h
theorem fresh_of {r : Option (En × St)} (h : okFresh r = true) : ∃ db jb fb U, r = some (.ret (.tuple [.ptr db 0, .ptr jb 0]), U) ∧ JAt U jb db fb .nilslice [] 0 := by
 unfold okFresh at h
 split at h
 · simp only [Bool.and_eq_true, Go.Proofs.YtbfdabjcgcbimaaR.Ev.beq_true, blt_true, Bool.not_eq_true'] at h
   obtain ⟨⟨⟨⟨⟨⟨rfl, rfl⟩, ho⟩, h1⟩, h2⟩, h3⟩, h4⟩ := h
   obtain ⟨fb, hd⟩ := okD_of ho h1 h4
   exact ⟨_, _, fb, _, rfl, okJ_of h3, .nil, ⟨_, 0, hd, Nat.le_refl _⟩, h2, by decide⟩
 · cases h
theorem fresh_run : ∃ db jb fb U, (ev E0 KD 60).f 4 [.int .i64 8] s0 = some (.ret (.tuple [.ptr db 0, .ptr jb 0]), U) ∧ JAt U jb db fb .nilslice [] 0 := fresh_of fresh_ok
end Go.Proofs.YtbfdabjcgcbimaaR.W
namespace Go.Proofs.YtbfdabjcgcbimaaR.W
open Go.Proofs.YtbfdabjcgcbimaaR.Ev Go.RowKit
theorem cost_bound : ∀ {l : List Bs}, (∀ t ∈ l, t.length ≤ 300) → costL l ≤ 302 * l.length
 | [], _ => by decide
 | a :: l, h => by
  have h1 := cost_bound (l := l) fun t ht => h t (List.mem_cons_of_mem _ ht)
  have h2 := h a (List.mem_cons_self ..)
  have e : costL (a :: l) = costT a + costL l := by unfold costL; rw [List.map_cons, List.sum_cons]
  have h3 : costT a ≤ 302 := by
   unfold costT
   split <;> omega
  rw [e, List.length_cons]
  omega
structure RawL where
 v : V
 l : List Bs
def LV (v : V) (ls : List RawL) : Prop := ((ls = [] ∧ (v = .nilslice ∨ v = .eslice)) ∨ v = .list 1 (ls.map (·.v))) ∧ ∀ a ∈ ls, TV a.v a.l
theorem LV.len {v : V} {ls : List RawL} (h : LV v ls) (S : St) : lnS v S = some (.int .i64 (ls.length : Int), S) := by
 rcases h.1 with ⟨rfl, rfl | rfl⟩ | rfl
 · rfl
 · rfl
 · show some (V.int .i64 (Int.ofNat (ls.map (·.v)).length), S) = _
   rw [List.length_map]; rfl
theorem LV.ix {v : V} {ls : List RawL} (h : LV v ls) {i : Nat} {a : RawL} (ha : ls[i]? = some a) : ixP 1 v (.int .i64 (i : Int)) = some (.cptr a.v) := by
 rcases h.1 with ⟨rfl, _⟩ | rfl
 · simp at ha
 · show (bif Nat.beq 1 1 && Nat.blt 0 1 then ((ls.map (·.v))[i]?).bind fun v => some (V.cptr v) else none) = _
   rw [List.getElem?_map, ha]; rfl
section
variable {s S T U X Y : St}
theorem few_small (l : List Bs) : (fewL l).length ≤ 8 ∧ ∀ t ∈ fewL l, t.length ≤ 300 := by
 unfold fewL
 refine ⟨by rw [List.length_map, List.length_take]; omega, fun t ht => ?_⟩
 rw [List.mem_map] at ht
 obtain ⟨a, _, rfl⟩ := ht
 rw [List.length_take]; omega
theorem geq128 (a : Nat) : binV E0 .geq 3 false true (.int .i64 (a : Int)) (.int .i64 128) = some (.bool (decide (128 ≤ a))) := by
 rw [binV_ii, intsV_geq]
 congr 2
 rw [decide_eq_decide]; omega
theorem L134_spec {self : EV} {N : Nat} (ho : S.on = false) {v0 v4 v5 v6 : V} {x : List Bs} (hx : TL S v6 x) (hb : x.length < 1000) (nk : Ac → St → Rs) (ek : Nat → Ac → St → Rs) :
 ∀ (rest : List Bs) (i q acc : Nat), x.drop i = rest → rest.length < q → acc + costL rest < 100000 →
 L3_134 self N nk ek q v0 v4 v5 v6 (.int .i64 (acc : Int)) (.int .i64 (i : Int)) S = ek 2 (fr 149 [(0, v0), (4, v4), (5, v5), (6, v6), (7, .int .i64 ((acc + costL rest : Nat) : Int))]) S
 | rest, i, 0, acc, _, hq, _ => by omega
 | [], i, q + 1, acc, hi, hq, _ => by
  rw [L3_134_eq, hx.len, oB]
  dsimp only
  rw [binV_ii, intsV_lss, dec_ge (drop_end hi), oB, ifK_bool, cond_false]
  rfl
 | a :: rest, i, q + 1, acc, hi, hq, hc => by
  obtain ⟨hlt, hf, hrest, hmem⟩ := drop_at hi
  obtain ⟨p, p1, p2⟩ := hx.ld ho (show x[i]? = some a by rw [List.getElem?_eq_getElem hlt, hf])
  have e : costL (a :: rest) = costT a + costL rest := by unfold costL; rw [List.map_cons, List.sum_cons]
  have ea : costT a = a.length + 1 + if 128 ≤ a.length then 1 else 0 := rfl
  rw [L3_134_eq, hx.len, oB]
  dsimp only
  rw [binV_ii, intsV_lss, dec_lt hlt, oB, ifK_bool, cond_true, p1, oB, p2, oB]
  dsimp only
  rw [lnStr_sv, oB]
  dsimp only
  rw [addNat (by omega), oB, succNat (by omega), oB, oB, p2, oB]
  dsimp only
  rw [lnStr_sv, oB]
  dsimp only
  rw [geq128, oB, ifK_bool]
  by_cases h : 128 ≤ a.length
  · rw [if_pos h] at ea
    rw [decide_eq_true h, cond_true, succNat (by omega), oB, succNat (by omega), oB, L134_spec (self := self) (N := N) ho hx hb nk ek rest (i + 1) q (acc + a.length + 1 + 1) hrest (by simp at hq; omega) (by omega), e, ea]
    rw [show acc + a.length + 1 + 1 + costL rest = acc + (a.length + 1 + 1 + costL rest) by omega]
  · rw [if_neg h] at ea
    rw [decide_eq_false h, cond_false, succNat (by omega), oB, L134_spec (self := self) (N := N) ho hx hb nk ek rest (i + 1) q (acc + a.length + 1) hrest (by simp at hq; omega) (by omega), e, ea]
    rw [show acc + a.length + 1 + costL rest = acc + (a.length + 1 + 0 + costL rest) by omega]
theorem JAt.weak {jb db fb : Nat} {lv : V} {recs : List Bs} {K K' : Nat} (h : JAt S jb db fb lv recs K) (hK : K ≤ K') : JAt S jb db fb lv recs K' := by
 obtain ⟨wv, k, hd, hk⟩ := h.dk
 exact ⟨h.bx, h.l, ⟨wv, k, hd, by omega⟩, h.lj, h.cost⟩
theorem round_run (m : Nat) {N jb db fb K : Nat} {lv v0 v5 xv : V} {recs x : List Bs} {M : Nat} (h : JAt X jb db fb lv recs K) (hK : K + 100 ≤ 900) (hx : TLo X xv x M) (hx1 : x.length ≤ 8) (hx2 : ∀ t ∈ x, t.length ≤ 300) (nk : Ac → St → Rs) (ek : Nat → Ac → St → Rs) :
 ∃ lv' recs' T, R3_39 (ev E0 KD (m + 7)) N nk ek (fr 149 [(0, v0), (4, .ptr jb 0), (5, v5), (6, xv), (7, .int .i64 (costL x : Int))]) X = nk (fr 149 [(0, v0), (4, .ptr jb 0), (5, v5)]) T ∧ JAt T jb db fb lv' recs' (K + 30) := by
 have hcx := cost_bound hx2
 have hrl := h.small.1
 obtain ⟨had, A, a1, a2, a3⟩ := records_run (m + 5) h
 have hA := h.grew a3
 obtain ⟨B, b1, b2⟩ := jroom_run (m + 4) hA
 have hB := hA.grew b2
 have hxB := (hx.grew a3).grew b2
 have hadB := a2.grew b2
 obtain ⟨C, hc⟩ := commit_run m hB hK hxB hx1 hx2 (by omega)
 rcases hc with ⟨c1, c2, c3, c4⟩ | ⟨c1, c2, ⟨lv', c3⟩, c4⟩
 · -- full
   obtain ⟨D, d1, d2⟩ := jroom_run (m + 4) c3
   have hD := c3.grew d2
   obtain ⟨w2, E, e1, e2, e3⟩ := records_run (m + 5) hD
   have hE := hD.grew e3
   have hadE : TLo E had recs X.next := ((TLo.jgrew hB hadB c4).grew d2).grew e3
   have hxE : TLo E xv x M := ((TLo.jgrew hB hxB c4).grew d2).grew e3
   have s1 := same_run (m + 6) hE.on e2.tl hadE.tl (by omega)
   obtain ⟨F, hf⟩ := rewrite_run m hE hK hxE hx1 hx2 (by omega)
   rcases hf with ⟨f1, f2, f3, f4⟩ | ⟨f1, f2, ⟨lv', f3⟩, f4⟩
   · exact ⟨lv, recs, F, R39_full a1 b1 c2 c1 d1 e1 s1 (.inl ⟨f1, f2⟩) (F := F) (G := F) (w3 := had), f3.weak (by omega)⟩
   · obtain ⟨G, g1, g2⟩ := jroom_run (m + 4) f3
     have hG := f3.grew g2
     obtain ⟨w3, H, h1, h2, h3⟩ := records_run (m + 5) hG
     have hH := hG.grew h3
     have hxH : TLo H xv x M := ((TLo.jgrew hE hxE f4).grew g2).grew h3
     have s2 := same_run (m + 6) hH.on h2.tl hxH.tl (by omega)
     exact ⟨lv', x, H, R39_full a1 b1 c2 c1 d1 e1 s1 (.inr ⟨f1, f2, g1, h1, s2⟩), hH⟩
 · obtain ⟨D, d1, d2⟩ := jroom_run (m + 4) c3
   have hD := c3.grew d2
   obtain ⟨w2, E, e1, e2, e3⟩ := records_run (m + 5) hD
   have hE := hD.grew e3
   rw [costL_app, show 384 - (costL recs + costL x) = (384 - costL recs) - costL x by omega] at d1
   exact ⟨lv', recs ++ x, E, R39_ok a1 b1 c2 c1 (by omega) d1 e1 (fun U => a2.tl.len U) (fun U => hx.tl.len U) (fun U => by rw [e2.tl.len U, List.length_append]) (by omega), hE⟩
theorem L19_spec {m jb db fb : Nat} {v0 : V} {ls : List RawL} (hl : LV v0 ls) (nk : Ac → St → Rs) (ek : Nat → Ac → St → Rs) :
 ∀ (d i q : Nat) (lv : V) (recs : List Bs) (U : St), i + d = min ls.length 20 → d < q → JAt U jb db fb lv recs (30 * i) →
 ∃ T, L3_19 (ev E0 KD (m + 7)) rounds nk ek q v0 (.ptr jb 0) (.int .i64 (i : Int)) U = ek 0 (fr 149 []) T
 | d, i, 0, lv, recs, U, _, hq, _ => by omega
 | 0, i, q + 1, lv, recs, U, hi, hq, h => by
  refine ⟨U, ?_⟩
  rw [L3_19_eq, hl.len, oB]
  dsimp only
  rw [show (V.int .i64 20) = .int .i64 ((20 : Nat) : Int) from rfl, lim_cond i ls.length 20 (by omega), show (decide (i < ls.length) && decide (i < 20)) = false from by
   rw [Bool.and_eq_false_iff, decide_eq_false_iff_not, decide_eq_false_iff_not]; omega, ifK_bool, cond_false]
 | d + 1, i, q + 1, lv, recs, U, hi, hq, h => by
  have h1 : i < ls.length := by omega
  have h2 : i < 20 := by omega
  have htv := hl.2 ls[i] (List.getElem_mem h1)
  obtain ⟨xv, A, a1, a2, a3⟩ := few_run (m + 6) h.on htv
  obtain ⟨f1, f2⟩ := few_small ls[i].l
  have hA := h.grew a3
  have hcx := cost_bound f2
  have hsz := L134_spec (self := ev E0 KD (m + 7)) (N := rounds) (v0 := v0) (v4 := .ptr jb 0) (v5 := .int .i64 (i : Int)) hA.on a2.tl (by omega) (R3_39 (ev E0 KD (m + 7)) rounds (R3_28 (ev E0 KD (m + 7)) rounds (N3_19 (ev E0 KD (m + 7)) rounds nk ek q) ek) (exB 1 (R3_28 (ev E0 KD (m + 7)) rounds (N3_19 (ev E0 KD (m + 7)) rounds nk ek q) ek) ek)) (exB 2 (R3_39 (ev E0 KD (m + 7)) rounds (R3_28 (ev E0 KD (m + 7)) rounds (N3_19 (ev E0 KD (m + 7)) rounds nk ek q) ek) (exB 1 (R3_28 (ev E0 KD (m + 7)) rounds (N3_19 (ev E0 KD (m + 7)) rounds nk ek q) ek) ek)) (exB 1 (R3_28 (ev E0 KD (m + 7)) rounds (N3_19 (ev E0 KD (m + 7)) rounds nk ek q) ek) ek)) (fewL ls[i].l) 0 rounds 0 rfl (by unfold rounds; omega) (by omega)
  rw [Nat.zero_add, exB_same] at hsz
  obtain ⟨lv', recs', B, b1, b2⟩ := round_run m (N := rounds) (v0 := v0) (v5 := .int .i64 (i : Int)) hA (by omega) a2 f1 f2 (R3_28 (ev E0 KD (m + 7)) rounds (N3_19 (ev E0 KD (m + 7)) rounds nk ek q) ek) (exB 1 (R3_28 (ev E0 KD (m + 7)) rounds (N3_19 (ev E0 KD (m + 7)) rounds nk ek q) ek) ek)
  obtain ⟨T, t1⟩ := L19_spec (m := m) hl nk ek d (i + 1) q lv' recs' B (by omega) (by omega) (by rw [show 30 * (i + 1) = 30 * i + 30 by omega]; exact b2)
  refine ⟨T, ?_⟩
  rw [L3_19_eq, hl.len, oB]
  dsimp only
  rw [show (V.int .i64 20) = .int .i64 ((20 : Nat) : Int) from rfl, lim_cond i ls.length 20 (by omega), decide_eq_true h1, decide_eq_true h2, Bool.and_self, ifK_bool, cond_true, hl.ix (List.getElem?_eq_getElem h1), oB, ldcv htv.one, oB]
  dsimp only
  rw [a1, callP_ret]
  refine hsz.trans (b1.trans ?_)
  rw [R3_28_eq, succNat (by omega), oB, N3_19_eq, t1]
theorem works_runs : saysTrue ((ev E0 (fun _ => none) 400).f 11 [] s0) = true := by decide +kernel
theorem works_run (n : Nat) (S : St) : (ev E0 KD (n + 1)).f 11 [] S = some (.ret (.bool true), S) := by
 rw [ev_known (g := kfTrue) rfl]
 exact kfTrue_run S
theorem rooml_run {v0 : V} {ls : List RawL} (hl : LV v0 ls) : ∃ U, (ev E0 KD 61).f 3 [v0] s0 = some (.ret (.bool true), U) := by
 obtain ⟨db, jb, fb, A, a1, hA⟩ := fresh_run
 obtain ⟨B, b1, b2⟩ := jroom_run 57 hA
 obtain ⟨T, t1⟩ := L19_spec (m := 53) hl (R3_15 (ev E0 KD 60) rounds (finN E0 (ev E0 KD 60) Try.f3) noEx) (exB 0 (R3_15 (ev E0 KD 60) rounds (finN E0 (ev E0 KD 60) Try.f3) noEx) noEx) (min ls.length 20) 0 rounds .nilslice [] B (Nat.zero_add _) (by unfold rounds; omega) (hA.grew b2)
 refine ⟨T, rd3 ?_⟩
 show F3 (ev E0 KD 60) rounds v0 s0 = _
 rw [F3_eq, a1, callP_ret, show extractV (.tuple [.ptr db 0, .ptr jb 0]) 0 = some (.ptr db 0) from rfl, oB, show extractV (.tuple [.ptr db 0, .ptr jb 0]) 1 = some (.ptr jb 0) from rfl, oB, eqJ, oB]
 simp only [gFF, oB, cond_true]
 rw [b1, callP_ret]
 try simp only [gFF, oB, cond_true]
 rw [show binV E0 .neq 3 false true (.int .i64 ((384 - costL [] : Nat) : Int)) (.int .i64 384) = some (.bool false) from rfl, oB, pickV_bool, cond_false, oB, ifK_bool, cond_false, show (V.int .i64 0) = .int .i64 ((0 : Nat) : Int) from rfl, t1, exB_same, R3_15_eq, works_run, callP_ret]
end
end Go.Proofs.YtbfdabjcgcbimaaR.W
