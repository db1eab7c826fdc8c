/-
  WHAT THE FUNCTIONS COME TO: each is read by the evaluator, printed, and told as a function of data, part 4 of 5 (no condition).
-/
import Derived.Test.YtginkdeicmdmaaaW3
import Derived.Test.YtginkdeicmdmaaaShelf
namespace Go.Proofs.Ytginkdeicmdmaaa.W
open Go.Proofs.Ytginkdeicmdmaaa.Ev Go.RowKit
theorem smallG_len (b : Bool) (l : List Nat) (n : Nat) : ∀ i, (smallG b l n i).length = i
 | 0 => rfl
 | i + 1 => by
  unfold smallG
  rw [List.length_append, smallG_len b l n i]; rfl
theorem gOf_len {ps : List Pth} {g : List (Bs × List Bs)} (h : gOf ps = g) : ps.length = g.length := by
 rw [← h]; unfold gOf; rw [List.length_map]
section
variable {S T U : St}
theorem build28 (x : Bs) : buildV E0 28 [(0, sv x)] = some (vAgg [sv x, .nilslice, sv [], sv []]) := by kernel_rfl
theorem L8_spec {m : Nat} (ho : S.on = false) {v0 : V} {l : List Nat} (hl : U16V v0 l) (b : Bool) {n : Nat} (hn : n ≤ 14) (hln : n ≤ l.length) (nk : Ac → St → Rs) (ek : Nat → Ac → St → Rs) :
 ∀ (d i q : Nat) (v5 : V) (U : St) (ps : List Pth), i + d = n → d < q → Grew (fun _ => False) S U → PLo U v5 ps S.next → gOf ps = smallG b l n i →
 ∃ v T ps', L8_10 (ev E0 KD m) rounds nk ek q v0 (.bool b) v5 (.int .i64 (n : Int)) (.int .i64 (i : Int)) U = ek 0 (fr 61 [(5, v)]) T ∧ Grew (fun _ => False) S T ∧ PLo T v ps' S.next ∧ gOf ps' = smallG b l n n
 | d, i, 0, v5, U, ps, _, hq, _, _, _ => by omega
 | 0, i, q + 1, v5, U, ps, hi, hq, g, hp, hg => by
  refine ⟨v5, U, ps, ?_, g, hp, ?_⟩
  · rw [L8_10_eq, binV_ii, intsV_lss, dec_ge (by omega), oB, ifK_bool, cond_false]
  · rw [hg, show i = n by omega]
 | d + 1, i, q + 1, v5, U, ps, hi, hq, g, hp, hg => by
  have onU := g.on.trans ho
  have hin : i < n := by omega
  obtain ⟨W, w1, w2, t, y, w3, w4, w5⟩ := letter_parts onU (k := i) (by omega)
  have onW := w1.on.trans onU
  obtain ⟨X, x1, x2, x3, x4⟩ := var_new onW 28 4 (Tr.ofListFrom .nil [(sv []), .nilslice, (sv []), (sv [])] 0) [sv (ltr i), .nilslice, sv [], sv []] rfl (by omega) big4
  have gX := w1.trans x3
  obtain ⟨rv', T, t1, t2, t3, t4, t5⟩ := L8i_spec (m := m) (N := rounds) (v5 := v5) (x := W.next) (nmv := sv (ltr i)) onU hl b hn hln hin w1.next (R8_26 (ev E0 KD m) rounds (R8_14 (ev E0 KD m) rounds (N8_10 (ev E0 KD m) rounds nk ek q) ek) (exB 1 (R8_14 (ev E0 KD m) rounds (N8_10 (ev E0 KD m) rounds nk ek q) ek) ek))
   (exB 2 (R8_26 (ev E0 KD m) rounds (R8_14 (ev E0 KD m) rounds (N8_10 (ev E0 KD m) rounds nk ek q) ek) (exB 1 (R8_14 (ev E0 KD m) rounds (N8_10 (ev E0 KD m) rounds nk ek q) ek) ek)) (exB 1 (R8_14 (ev E0 KD m) rounds (N8_10 (ev E0 KD m) rounds nk ek q) ek) ek)) (if b then i + 1 else n) 0 rounds .nilslice X (Nat.zero_add _) (by unfold rounds; split <;> omega) gX (by omega) x2 .nil
  have onT := t2.on.trans onU
  obtain ⟨y2, W2, v', Y, p1, p2, p3, p4⟩ := (hp.grew t2).push onT (Nat.le_trans g.next t2.next) (by rw [gOf_len hg, smallG_len]; omega) (p := ⟨ltr i, rv', refsS b n i (l.getD i 0)⟩) t5.tl
  have gY : Grew (fun _ => False) S Y := Grew.fresh (g.trans t2) (Nat.le_refl _) (p4.mono fun z _ h => hp.2 z h)
  obtain ⟨v, Z, ps', z1, z2, z3, z4⟩ := L8_spec ho hl b hn hln nk ek d (i + 1) q v' Y (ps ++ [⟨ltr i, rv', refsS b n i (l.getD i 0)⟩]) (by omega) (by omega) gY p3 (by
   unfold gOf smallG
   rw [List.map_append, ← hg]; rfl)
  refine ⟨v, Z, ps', ?_, z2, z3, z4⟩
  have hlA : ldA 4 (.ptr W.next 0) T = some (vAgg [sv (ltr i), rv', sv [], sv []], T) := t4.ldA onT rfl big4
  rw [L8_10_eq, binV_ii, intsV_lss, dec_lt hin, oB, ifK_bool, cond_true, w2, oB]
  dsimp only
  rw [w3, oB, w4, oB]
  dsimp only
  rw [w5, oB]
  dsimp only
  rw [build28, oB, oB, nwP_fst, x1, oB]
  dsimp only
  rw [show (V.int .i64 0) = .int .i64 ((0 : Nat) : Int) from rfl, t1, exB_same, R8_26_eq, hlA, oB]
  dsimp only
  rw [show vAgg [sv (ltr i), rv', sv [], sv []] = vAgg (Pth.cells ⟨ltr i, rv', refsS b n i (l.getD i 0)⟩) from rfl, p1, oB]
  dsimp only
  rw [p2, oB, R8_14_eq, binV_ii, intsV_add, wrap_succ (by omega), oB, N8_10_eq]
  exact z1
theorem min14 (n : Nat) (S : St) : foldK minV (.int .i64 (n : Int)) [(.int .i64 14)] S = some (.int .i64 ((min n 14 : Nat) : Int), S) := by
 rw [foldK_min]
 congr 3
 omega
theorem small_run (m : Nat) (ho : S.on = false) {v0 : V} {l : List Nat} (hl : U16V v0 l) (b : Bool) :
 ∃ v U ps, (ev E0 KD (m + 1)).f 8 [v0, .bool b] S = some (.ret v, U) ∧ Grew (fun _ => False) S U ∧ PLo U v ps S.next ∧ gOf ps = smallG b l (min l.length 14) (min l.length 14) := by
 obtain ⟨v, T, ps', z1, z2, z3, z4⟩ := L8_spec (m := m) ho hl b (n := min l.length 14) (by omega) (by omega) (R8_6 (ev E0 KD m) rounds (finN E0 (ev E0 KD m) Try.f8) noEx) (exB 0 (R8_6 (ev E0 KD m) rounds (finN E0 (ev E0 KD m) Try.f8) noEx) noEx) (min l.length 14) 0 rounds .nilslice S [] (Nat.zero_add _) (by unfold rounds; omega) (Grew.refl _ _) .nil rfl
 refine ⟨v, T, ps', rd8 ?_, z2, z3, z4⟩
 show F8 (ev E0 KD m) rounds v0 (.bool b) S = _
 rw [F8_eq, u16_len hl, oB]
 dsimp only
 rw [min14, oB]
 dsimp only
 rw [show (V.int .i64 0) = .int .i64 ((0 : Nat) : Int) from rfl, z1, exB_same, R8_6_eq]
def saidL (l : List Bs) : Bs := l.flatMap fun a => a ++ [32]
theorem addStr (c d : Bool) {a b : Bs} (h : a.length + b.length < 4611686018427387904) : binV E0 .add 9 c d (sv a) (sv b) = some (sv (a ++ b)) := by
 rw [binV_ss, strOp_add _ _ h]
theorem saidL_cons (a : Bs) (l : List Bs) : saidL (a :: l) = a ++ [32] ++ saidL l := by unfold saidL; rw [List.flatMap_cons]
theorem eqStr (c d : Bool) (a b : Bs) : binV E0 .eql 9 c d (sv a) (sv b) = some (.bool (a == b)) := by
 rw [binV_ss]
 show (some (V.bool (sEq a.length (pack a) b.length (pack b)))) = _
 rw [sEq_eq]
theorem neStr (c d : Bool) (a b : Bs) : binV E0 .neq 9 c d (sv a) (sv b) = some (.bool (!(a == b))) := by
 rw [binV_ss]
 show (some (V.bool (!sEq a.length (pack a) b.length (pack b)))) = _
 rw [sEq_eq]
theorem L11_spec {m N : Nat} (ho : S.on = false) {v : V} {l : List Bs} (hl : TL S v l) (hlen : l.length < 1000000) (nk : Ac → St → Rs) (ek : Nat → Ac → St → Rs) :
 ∀ (rest : List Bs) (i q : Nat) (acc : Bs), l.drop i = rest → rest.length < q → acc.length + (saidL rest).length < 4611686018427387904 →
 L11_6 (ev E0 KD m) N nk ek q v (sv acc) (.int .i64 (i : Int)) S = ek 0 (fr 19 [(3, sv (acc ++ saidL rest))]) S
 | rest, i, 0, acc, _, hq, _ => by omega
 | [], i, q + 1, acc, hi, hq, _ => by
  rw [L11_6_eq, hl.len, oB]
  dsimp only
  rw [binV_ii, intsV_lss, dec_ge (drop_end hi), oB, ifK_bool, cond_false]
  unfold saidL
  rw [List.flatMap_nil, List.append_nil]
 | a :: rest, i, q + 1, acc, hi, hq, hs => by
  obtain ⟨hlt, hf, hrest, hmem⟩ := drop_at hi
  obtain ⟨p, p1, p2⟩ := hl.ld ho (show l[i]? = some a by rw [List.getElem?_eq_getElem hlt, hf])
  rw [saidL_cons, List.length_append, List.length_append, List.length_singleton] at hs
  rw [L11_6_eq, hl.len, oB]
  dsimp only
  rw [binV_ii, intsV_lss, dec_lt hlt, oB, ifK_bool, cond_true, p1, oB, p2, oB]
  dsimp only
  rw [addStr _ _ (by omega), oB, addStr _ _ (by rw [List.length_append]; show _ + 1 < _; omega), oB, binV_ii, intsV_add, wrap_succ (by omega), oB]
  rw [L11_spec ho hl hlen nk ek rest (i + 1) q _ hrest (by simp at hq; omega) (by rw [List.length_append, List.length_append, List.length_singleton]; omega)]
  rw [saidL_cons]
  simp only [List.append_assoc]
theorem said_run (m : Nat) (ho : S.on = false) {v : V} {l : List Bs} (hl : TL S v l) (hlen : l.length < 1000000) (hs : (saidL l).length < 1000000) : (ev E0 KD (m + 1)).f 11 [v] S = some (.ret (sv (saidL l)), S) := rd11 (by
 show F11 (ev E0 KD m) rounds v S = _
 rw [F11_eq, show (V.int .i64 0) = .int .i64 ((0 : Nat) : Int) from rfl, L11_spec ho hl hlen _ _ l 0 rounds [] rfl (by unfold rounds; omega) (by show 0 + _ < _; omega), exB_same, R11_2_eq, List.nil_append])
end
end Go.Proofs.Ytginkdeicmdmaaa.W
namespace Go.Proofs.Ytginkdeicmdmaaa.W
open Go.Proofs.Ytginkdeicmdmaaa.Ev Go.RowKit
def closedB (ps : List Pth) : Bool := ps.all fun p => p.refs.all fun r => decide (r ∈ names ps)
section
variable {S T U : St}
theorem works_run (n : Nat) (S : St) : (ev E0 KD (n + 1)).f 14 [] S = some (.ret (.bool true), S) := by
 rw [ev_known (K := KD) (f := 14) (g := kfTrue) (by rfl)]
 exact kfTrue_run S
end
end Go.Proofs.Ytginkdeicmdmaaa.W
namespace Go.Proofs.Ytginkdeicmdmaaa.W
open Go.Proofs.Ytginkdeicmdmaaa.Ev Go.RowKit
section
variable {S T U : St}
def Rw (S : St) (v : V) (z : Nat) (L : List (Tr V)) : Prop := lenV v = some L.length ∧ firstV z L.length v S = some (L, S)
theorem TL.rw (ho : S.on = false) {v : V} {l : List Bs} (h : TL S v l) : Rw S v 1 (rowOf l) := by
 refine ⟨by rw [rowOf_length]; exact h.lenV, ?_⟩
 rw [rowOf_length]
 rcases h with ⟨rfl, rfl | rfl | ⟨r, c, rfl⟩⟩ | ⟨r, off, L, h1, h2, h3, h4, h5⟩
 · rfl
 · rfl
 · rfl
 · have := h1.ldN ho l.length off (by rw [rowOf_length]; exact h3)
   rw [Nat.mul_one] at this
   have e : ((rowOf L).drop off).take l.length = rowOf l := by
    unfold rowOf
    rw [← List.map_drop, ← List.map_take, h4]
   rw [e] at this
   rcases h5 with rfl | ⟨c, rfl⟩ <;> exact this
theorem PL.rw (ho : S.on = false) {v : V} {l : List Pth} (h : PL S v l) : Rw S v 4 (l.map treeP) := by
 refine ⟨by rw [List.length_map]; exact h.lenV, ?_⟩
 rcases h.1 with ⟨rfl, rfl⟩ | ⟨r, rfl, h1, h2, h3⟩
 · rfl
 · have := h1.ldN ho (l.map treeP).length 0 (by omega)
   rw [Nat.zero_mul, List.drop_zero, List.take_of_length_le (Nat.le_refl _)] at this
   exact this
theorem app_empty {e z B n0 : Nat} {y : V} {L : List (Tr V)} (h : Rw S y z L) (hB : L.length * (B + z + 1) < maxCells) : apP e z B (.slice n0 0 0 0) y S = some (if L = [] then (.slice n0 0 0 0, S) else (.oslice S.next 0 L.length z, newCells S e z L)) := by
 unfold apP
 rw [h.1, oB, show lenV (.slice n0 0 0 0) = some 0 from rfl, oB, Nat.zero_add, blt_true.2 hB, cond_true]
 unfold appendV
 rw [h.2, oB]
 simp only
 cases L with
 | nil => rw [if_pos rfl]; rfl
 | cons t L =>
  rw [if_neg (by simp), show Nat.ble (0 + (t :: L).length) 0 = false from by rw [ble_false, List.length_cons]; omega, cond_false, show firstV z 0 (.slice n0 0 0 0) S = some ([], S) from rfl, oB]
  simp only [List.nil_append, Nat.zero_add]
theorem app_none {e z B r : Nat} (ho : S.on = false) {y : V} {M : List (Tr V)} (hr : RowAt S r e z M) (h : Rw S y z []) (hB : M.length * (B + z + 1) < maxCells) : apP e z B (.oslice r 0 M.length z) y S = some (.oslice r 0 M.length z, S) := by
 unfold apP
 have h1 : lenV y = some 0 := h.1
 have h2 : firstV z 0 y S = some ([], S) := h.2
 rw [h1, oB, show lenV (.oslice r 0 M.length z) = some M.length from rfl, oB, Nat.add_zero, blt_true.2 hB, cond_true]
 unfold appendV
 rw [h2, oB]
 simp only
 obtain ⟨c, hc1, hc2⟩ := hr.row
 rw [Nat.beq_refl, cond_true]
 unfold sizeB
 rw [hc1]
 simp only [blt_true.2 hr.fit, cond_true, oB, note_off ho, Nat.add_zero, Nat.zero_add]
 rw [show Nat.ble (M.length * z) (z * M.length) = true from by rw [ble_true, Nat.mul_comm]; exact Nat.le_refl _, cond_true]
 rfl
theorem app_more {e z B r : Nat} (ho : S.on = false) {y : V} {M L : List (Tr V)} (hr : RowAt S r e z M) (h : Rw S y z L) (hL : L ≠ []) (hB : (M.length + L.length) * (B + z + 1) < maxCells) (hbig : z * (M.length + L.length) < big) :
 ∃ U, apP e z B (.oslice r 0 M.length z) y S = some (.oslice S.next 0 (M.length + L.length) z, U) ∧ RowAt U S.next e z (M ++ L) ∧ Grew (fun x => x = r) S U ∧ U.next = S.next + 1 := by
 obtain ⟨c, hc1, hc2⟩ := hr.row
 have hfit := hr.fit
 have hz := hr.pos
 have hLp : 0 < L.length := List.length_pos_iff.2 hL
 refine ⟨nw (S.put r .dead) (.cells e z (M.length + L.length) false (Go.Proofs.Ytginkdeicmdmaaa.Ev.addL c L M.length)), ?_, ?_, ?_, rfl⟩
 · unfold apP
   rw [h.1, oB, show lenV (.oslice r 0 M.length z) = some M.length from rfl, oB, blt_true.2 hB, cond_true]
   unfold appendV
   rw [h.2, oB]
   simp only
   rw [Nat.beq_refl, cond_true]
   unfold sizeB
   rw [hc1]
   simp only [blt_true.2 hfit, cond_true, oB, note_off ho]
   rw [show Nat.ble (0 + (M.length + L.length) * z) (z * M.length) = false from by
    rw [ble_false, Nat.zero_add, Nat.mul_comm z, Nat.add_mul]
    have : 0 < L.length * z := Nat.mul_pos hLp hz
    omega, cond_false]
   unfold growV
   rw [hc1]
   simp only [Nat.beq_refl, Bool.not_true, Bool.or_self, cond_false, show Nat.beq 0 0 = true from rfl, blt_true.2 hfit, Bool.and_self, cond_true]
   rw [addLC_eq, setO_off ho]
 · refine rowAt_nw (s := S.put r .dead) ho hz (by rw [List.length_append]) hbig fun i t hi => ?_
   rw [Go.Proofs.Ytginkdeicmdmaaa.Ev.addL_get]
   have hlt := (List.getElem?_eq_some_iff.1 hi).1
   rw [List.length_append] at hlt
   by_cases hc : M.length ≤ i
   · rw [if_pos ⟨hc, hlt⟩]
     rw [List.getElem?_append_right hc] at hi
     exact hi
   · rw [if_neg (fun h => hc h.1)]
     rw [List.getElem?_append_left (by omega)] at hi
     exact hc2 i t hi
 · exact ⟨by show S.next ≤ S.next + 1; omega, (nw_on (s := S.put r .dead) ho _).trans ho.symm, fun x hx hw => by
    rw [nw_get, if_neg (by show x ≠ S.next; omega), put_get, if_neg hw]⟩
theorem bsP_none (e z : Nat) (t : Tr V) (S : St) : bsP e z 0 t [] S = some (.slice S.next 0 0 0, nw S (.cells e z 0 false (Tr.tab 0 0 fun _ => t))) := rfl
theorem app_two (ho : S.on = false) {x y : V} {lx ly : List Bs} (hx : TL S x lx) (hy : TL S y ly) (h1 : lx.length < 10000) (h2 : ly.length < 10000) :
 ∃ y0 W v1 U1 v2 U2, bsP 9 1 0 (Go.Proofs.Ytginkdeicmdmaaa.Ev.one (sv [])) [] S = some (y0, W) ∧ apP 9 1 16 y0 x W = some (v1, U1) ∧ apP 9 1 16 v1 y U1 = some (v2, U2) ∧ TL U2 v2 (lx ++ ly) ∧ Grew (fun _ => False) S U2 := by
 have gW := grew_nw ho (fun _ => False) (.cells 9 1 0 false (Tr.tab 0 0 fun _ => Go.Proofs.Ytginkdeicmdmaaa.Ev.one (sv [])))
 have onW := gW.on.trans ho
 have hb := bsP_none 9 1 (Go.Proofs.Ytginkdeicmdmaaa.Ev.one (sv [])) S
 generalize nw S (.cells 9 1 0 false (Tr.tab 0 0 fun _ => Go.Proofs.Ytginkdeicmdmaaa.Ev.one (sv []))) = W at gW onW hb
 have hxW := (hx.grew0 gW).rw onW
 have e1 := app_empty (e := 9) (B := 16) (n0 := S.next) hxW (by rw [rowOf_length]; unfold maxCells; omega)
 cases lx with
 | nil =>
  rw [if_pos (show rowOf [] = [] from rfl)] at e1
  have hyW := (hy.grew0 gW).rw onW
  have e2 := app_empty (e := 9) (B := 16) (n0 := S.next) hyW (by rw [rowOf_length]; unfold maxCells; omega)
  cases ly with
  | nil =>
   rw [if_pos (show rowOf [] = [] from rfl)] at e2
   exact ⟨_, W, _, W, _, W, hb, e1, e2, .inl ⟨rfl, .inr (.inr ⟨_, _, rfl⟩)⟩, gW⟩
  | cons a ly =>
   rw [if_neg (by simp [rowOf])] at e2
   refine ⟨_, W, _, W, _, _, hb, e1, e2, ?_, gW.trans (grew_nw onW _ _)⟩
   rw [rowOf_length, List.nil_append]
   exact .own (rowAt_newCells onW (by omega) (by rw [rowOf_length]; unfold big; omega)) (by show W.next < W.next + 1; omega)
 | cons b lx =>
  rw [if_neg (by simp [rowOf])] at e1
  have gN := grew_nw onW (fun _ => False) (.cells 9 1 (rowOf (b :: lx)).length false (Tr.ofListFrom .nil (rowOf (b :: lx)) 0))
  have hrow := rowAt_newCells (e := 9) (z := 1) (l := rowOf (b :: lx)) onW (by omega) (by rw [rowOf_length]; unfold big; omega)
  have gN' : Grew (fun _ => False) W (newCells W 9 1 (rowOf (b :: lx))) := grew_nw onW _ _
  have onN := gN'.on.trans onW
  have hnx : (newCells W 9 1 (rowOf (b :: lx))).next = W.next + 1 := rfl
  generalize newCells W 9 1 (rowOf (b :: lx)) = N at e1 hrow gN' onN hnx
  have hyN := ((hy.grew0 gW).grew0 gN').rw onN
  cases ly with
  | nil =>
   have e2 := app_none (e := 9) (B := 16) onN hrow hyN (by rw [rowOf_length]; unfold maxCells; omega)
   refine ⟨_, W, _, N, _, N, hb, e1, e2, ?_, gW.trans gN'⟩
   rw [rowOf_length, List.append_nil]
   exact .own hrow (by omega)
  | cons a ly =>
   obtain ⟨U, u1, u2, u3, u4⟩ := app_more (e := 9) (B := 16) onN hrow hyN (by simp [rowOf]) (by rw [rowOf_length, rowOf_length]; unfold maxCells; omega) (by rw [rowOf_length, rowOf_length]; unfold big; omega)
   refine ⟨_, W, _, N, _, U, hb, e1, u1, ?_, Grew.own (gW.trans gN') gW.next u3⟩
   rw [rowOf_length, rowOf_length, ← List.length_append]
   rw [← rowOf_append] at u2
   exact .own u2 (by omega)
theorem app_path (ho : S.on = false) {v : V} {ps : List Pth} (hv : PL S v ps) (h1 : ps.length < 1000) (q : Pth) (hq : TL S q.rv q.refs) (z : Tr V) :
 ∃ y0 W v1 U1 y2 U2 v3 U3, bsP 28 4 0 z [] S = some (y0, W) ∧ apP 28 4 72 y0 v W = some (v1, U1) ∧ bsP 28 4 1 z [(0, vAgg q.cells)] U1 = some (y2, U2) ∧ apP 28 4 72 v1 y2 U2 = some (v3, U3) ∧ PL U3 v3 (ps ++ [q]) ∧ Grew (fun _ => False) S U3 := by
 have gW := grew_nw ho (fun _ => False) (.cells 28 4 0 false (Tr.tab 0 0 fun _ => z))
 have onW := gW.on.trans ho
 have hb := bsP_none 28 4 z S
 generalize nw S (.cells 28 4 0 false (Tr.tab 0 0 fun _ => z)) = W at gW onW hb
 have hvW := (hv.grew gW).rw onW
 have e1 := app_empty (e := 28) (B := 72) (n0 := S.next) hvW (by rw [List.length_map]; unfold maxCells; omega)
 cases ps with
 | nil =>
  rw [if_pos (show List.map treeP [] = [] from rfl)] at e1
  obtain ⟨X, x1, x2, x3, x4⟩ := bsP_path onW z q.cells rfl
  have onX := x3.on.trans onW
  have hR : Rw X (.slice W.next 0 1 1) 4 [treeP q] := ⟨rfl, by
   have := x2.ldN onX 1 0 (by simp)
   rw [Nat.zero_mul] at this
   exact this⟩
  have e2 := app_empty (e := 28) (B := 72) (n0 := S.next) hR (by unfold maxCells; simp)
  rw [if_neg (by simp)] at e2
  refine ⟨_, W, _, W, _, X, _, _, hb, e1, x1, e2, ⟨.inr ⟨X.next, rfl, rowAt_newCells onX (by omega) (by unfold big; simp), by show X.next < X.next + 1; omega, by simp⟩, fun p hp => ?_⟩, (gW.trans x3).trans (grew_nw onX _ _)⟩
  simp at hp; subst hp
  exact ((hq.grew0 gW).grew0 x3).grew0 (grew_nw onX _ _)
 | cons p0 ps =>
  rw [if_neg (by simp)] at e1
  have hrow := rowAt_newCells (e := 28) (z := 4) (l := (p0 :: ps).map treeP) onW (by omega) (by rw [List.length_map]; unfold big; omega)
  have gN' : Grew (fun _ => False) W (newCells W 28 4 ((p0 :: ps).map treeP)) := grew_nw onW _ _
  have onN := gN'.on.trans onW
  have hnx : (newCells W 28 4 ((p0 :: ps).map treeP)).next = W.next + 1 := rfl
  generalize newCells W 28 4 ((p0 :: ps).map treeP) = N at e1 hrow gN' onN hnx
  obtain ⟨X, x1, x2, x3, x4⟩ := bsP_path onN z q.cells rfl
  have onX := x3.on.trans onN
  have hrowX := hrow.grew (by omega) (fun h => h) x3
  obtain ⟨U, u1, u2, u3, u4⟩ := ap4_more onX x2 hrowX (by rw [List.length_map]; omega)
  refine ⟨_, W, _, N, _, X, _, U, hb, e1, x1, u1, ⟨.inr ⟨X.next, by rw [List.length_map, List.length_append]; rfl, by rw [List.map_append]; exact u2, by omega, by simp⟩, fun p hp => ?_⟩, Grew.own ((gW.trans gN').trans x3) gW.next u3⟩
  have hT : TL X p.rv p.refs := by
   rcases List.mem_append.1 hp with h | h
   · exact ((hv.2 p h).grew0 gW).grew0 gN' |>.grew0 x3
   · simp at h; subst h
     exact ((hq.grew0 gW).grew0 gN').grew0 x3
  exact hT.grew (fun r e _ hr hx => by subst hx; exact absurd (row_ne hr hrowX) (by decide)) u3
end
end Go.Proofs.Ytginkdeicmdmaaa.W
namespace Go.Proofs.Ytginkdeicmdmaaa.W
theorem foldl_addP : ∀ (l out : List Pth), (names (out ++ l)).Nodup → l.foldl addP out = out ++ l
 | [], out, _ => by simp
 | p :: l, out, h => by
  have hp : lkP p.nm out = none := by
   rw [lkP_none]
   intro hm
   unfold names at h hm
   rw [List.map_append, List.nodup_append] at h
   exact h.2.2 _ hm p.nm (by simp) rfl
  have e : addP out p = out ++ [p] := by unfold addP; rw [hp]; rfl
  rw [List.foldl_cons, e, foldl_addP l (out ++ [p]) (by rw [List.append_assoc]; exact h), List.append_assoc]; rfl
theorem refsOf_id {l : List Pth} (h : (names l).Nodup) : refsOf l = l := by
 unfold refsOf
 rw [foldl_addP l [] (by exact h), List.nil_append]
theorem mem_closL {l : List Pth} {f : List Bs} {a : Bs} : a ∈ closL l f ↔ Rch (refsOf l) f a := by
 unfold closL
 rw [mem_sortB, mem_reachL]
theorem closL_pw (l : List Pth) (f : List Bs) : (closL l f).Pairwise (· < ·) := sortB_pw (reachL_nd _ _)
theorem mem_deadL {l : List Pth} {f : List Bs} {a : Bs} : a ∈ deadL l f ↔ a ∈ names (refsOf l) ∧ ¬ Rch (refsOf l) f a := by
 unfold deadL
 rw [List.mem_filter, mem_sortB]
 simp only [Bool.not_eq_true', decide_eq_false_iff_not, mem_reachL]
theorem deadL_pw (l : List Pth) (f : List Bs) : (deadL l f).Pairwise (· < ·) := (sortB_pw (refsOf_nd l)).filter _
theorem closL_ext {l m : List Pth} {f g : List Bs} (h : ∀ a, Rch (refsOf l) f a ↔ Rch (refsOf m) g a) : closL l f = closL m g :=
 rise_eq (closL_pw _ _) (closL_pw _ _) fun a => by rw [mem_closL, mem_closL, h]
theorem lt_nodup {l : List Bs} (h : l.Pairwise (· < ·)) : l.Nodup := h.imp fun hab e => by subst e; exact List.lt_irrefl _ hab
theorem clos_dead_len (l : List Pth) (f : List Bs) : (closL l f).length + (deadL l f).length = (refsOf l).length := by
 have h1 : (closL l f ++ deadL l f).Perm (names (refsOf l)) := by
  refine (List.perm_ext_iff_of_nodup ?_ (refsOf_nd l)).2 fun a => ?_
  · rw [List.nodup_append]
    exact ⟨lt_nodup (closL_pw l f), lt_nodup (deadL_pw l f), fun a ha b hb e => by subst e; exact (mem_deadL.1 hb).2 (mem_closL.1 ha)⟩
  · rw [List.mem_append, mem_closL, mem_deadL]
    by_cases h : Rch (refsOf l) f a
    · simp [h, h.mem]
    · simp [h]
 have := h1.length_eq
 rw [List.length_append] at this
 unfold names at this
 rwa [List.length_map] at this
theorem Rch.mono {ps : List Pth} {f g : List Bs} (h : ∀ a ∈ f, a ∈ names ps → Rch ps g a) {a : Bs} (ha : Rch ps f a) : Rch ps g a := by
 induction ha with
 | root h1 h2 => exact h _ h1 h2
 | step _ hq hr hn ih => exact .step ih hq hr hn
theorem rch_app {ps : List Pth} {f g : List Bs} {a : Bs} : Rch ps (f ++ g) a ↔ Rch ps f a ∨ Rch ps g a := by
 constructor
 · intro h
   induction h with
   | root h1 h2 =>
    rcases List.mem_append.1 h1 with h | h
    · exact .inl (.root h h2)
    · exact .inr (.root h h2)
   | step _ hq hr hn ih =>
    rcases ih with h | h
    · exact .inl (.step h hq hr hn)
    · exact .inr (.step h hq hr hn)
 · rintro (h | h)
   · exact h.mono fun a ha hn => .root (List.mem_append_left _ ha) hn
   · exact h.mono fun a ha hn => .root (List.mem_append_right _ ha) hn
theorem names_app (l m : List Pth) : names (l ++ m) = names l ++ names m := by unfold names; rw [List.map_append]
theorem lkP_old {a : Bs} {l : List Pth} {p : Pth} (h : a ≠ p.nm) : lkP a (l ++ [p]) = lkP a l := by
 induction l with
 | nil => show lkP a [p] = none; unfold lkP; rw [if_neg h]; rfl
 | cons q l ih =>
  rw [List.cons_append]
  unfold lkP
  rw [ih]
theorem rch_more {l : List Pth} {p : Pth} {f : List Bs} (hf : p.nm ∉ f) (hr : ∀ q ∈ l, p.nm ∉ q.refs) {a : Bs} : Rch (l ++ [p]) f a ↔ Rch l f a := by
 constructor
 · intro h
   have : Rch l f a ∧ a ≠ p.nm := by
    induction h with
    | root h1 h2 =>
     have hne : ∀ {b}, b ∈ f → b ≠ p.nm := fun hb e => hf (e ▸ hb)
     rw [names_app] at h2
     rcases List.mem_append.1 h2 with h | h
     · exact ⟨.root h1 h, hne h1⟩
     · simp [names] at h; exact absurd h (hne h1)
    | step _ hq hr' hn ih =>
     rw [lkP_old ih.2] at hq
     rename_i b r q _
     have hne : r ≠ p.nm := fun e => hr _ (lkP_mem hq).1 (by rw [← e]; exact hr')
     rw [names_app] at hn
     rcases List.mem_append.1 hn with h | h
     · exact ⟨.step ih.1 hq hr' h, hne⟩
     · simp [names] at h; exact absurd h hne
   exact this.1
 · intro h
   induction h with
   | root h1 h2 => exact .root h1 (by rw [names_app]; exact List.mem_append_left _ h2)
   | step h0 hq hr' hn ih =>
    rename_i a r q
    refine .step ih (q := q) ?_ hr' (by rw [names_app]; exact List.mem_append_left _ hn)
    by_cases e : a = p.nm
    · subst e
      exfalso
      clear ih
      cases h0 with
      | root h1 h2 => exact hf h1
      | step _ hq2 hr2 _ => exact hr _ (lkP_mem hq2).1 hr2
    · rw [lkP_old e]; exact hq
theorem rch_new {l : List Pth} {p : Pth} (hp : p.nm ∉ names l) (hf : p.nm ∉ p.refs) (hr : ∀ q ∈ l, p.nm ∉ q.refs) {a : Bs} : Rch (l ++ [p]) [p.nm] a ↔ a = p.nm ∨ Rch l p.refs a := by
 have hl : lkP p.nm (l ++ [p]) = some p := by
  rw [lkP_app (lkP_none.2 hp), if_pos rfl]
 constructor
 · intro h
   induction h with
   | root h1 _ => simp at h1; exact .inl h1
   | step _ hq hr' hn ih =>
    rename_i b r q _
    right
    rcases ih with rfl | ih
    · rw [hl] at hq
      cases hq
      rw [names_app] at hn
      rcases List.mem_append.1 hn with h | h
      · exact .root hr' h
      · simp [names] at h; subst h; exact absurd hr' hf
    · have hb : b ≠ p.nm := fun e => by subst e; exact hp ih.mem
      rw [lkP_old hb] at hq
      rw [names_app] at hn
      rcases List.mem_append.1 hn with h | h
      · exact .step ih hq hr' h
      · simp [names] at h; subst h; exact absurd hr' (hr _ (lkP_mem hq).1)
 · rintro (rfl | h)
   · exact .root (by simp) (by rw [names_app]; simp [names])
   · have h2 := (rch_more hf hr).2 h
     refine h2.mono fun b hb hn => .step (.root (by simp) (by rw [names_app]; simp [names])) hl hb hn
end Go.Proofs.Ytginkdeicmdmaaa.W
namespace Go.Proofs.Ytginkdeicmdmaaa.W
open Go.Proofs.Ytginkdeicmdmaaa.Ev Go.RowKit
theorem smallG_names (b : Bool) (l : List Nat) (n : Nat) : ∀ i, (smallG b l n i).map (·.1) = (List.range i).map ltr
 | 0 => rfl
 | i + 1 => by
  unfold smallG
  rw [List.map_append, smallG_names b l n i, List.range_succ, List.map_append]; rfl
theorem smallG_mem {b : Bool} {l : List Nat} {n : Nat} : ∀ {i : Nat} {g : Bs × List Bs}, g ∈ smallG b l n i → ∃ j, j < i ∧ g = (ltr j, refsS b n j (l.getD j 0))
 | 0, g, h => by cases h
 | i + 1, g, h => by
  unfold smallG at h
  rcases List.mem_append.1 h with h | h
  · obtain ⟨j, h1, h2⟩ := smallG_mem h
    exact ⟨j, by omega, h2⟩
  · simp at h; exact ⟨i, by omega, h⟩
theorem smallG_get (b : Bool) (l : List Nat) (n : Nat) {j : Nat} : ∀ {i : Nat}, j < i → (smallG b l n i)[j]? = some (ltr j, refsS b n j (l.getD j 0))
 | 0, h => by omega
 | i + 1, h => by
  unfold smallG
  by_cases hj : j < i
  · rw [List.getElem?_append_left (by rw [smallG_len]; exact hj), smallG_get b l n hj]
  · have : j = i := by omega
    subst this
    rw [List.getElem?_append_right (by rw [smallG_len]; exact Nat.le_refl _), smallG_len, Nat.sub_self]; rfl
structure Small (ps : List Pth) (b : Bool) (l : List Nat) (n : Nat) : Prop where
 g : gOf ps = smallG b l n n
 n14 : n ≤ 14
section
variable {ps : List Pth} {b : Bool} {l : List Nat} {n : Nat}
theorem Small.len (h : Small ps b l n) : ps.length = n := by rw [gOf_len h.g, smallG_len]
theorem Small.names (h : Small ps b l n) : names ps = (List.range n).map ltr := by
 rw [← smallG_names b l n n, ← h.g]
 unfold gOf W.names
 rw [List.map_map]; rfl
theorem Small.nd (h : Small ps b l n) : (W.names ps).Nodup := by
 have h14 := h.n14
 rw [h.names]
 unfold List.Nodup
 rw [List.pairwise_map]
 refine List.Pairwise.imp_of_mem (fun {x y} hx hy hlt e => ?_) List.pairwise_lt_range
 rw [List.mem_range] at hx hy
 have := ltr_inj (by omega) (by omega) e
 omega
theorem Small.get (h : Small ps b l n) {i : Nat} (hi : i < n) : ∃ p, ps[i]? = some p ∧ p.nm = ltr i ∧ p.refs = refsS b n i (l.getD i 0) := by
 have h1 := smallG_get b l n (j := i) (i := n) hi
 rw [← h.g] at h1
 unfold gOf at h1
 rw [List.getElem?_map] at h1
 cases hp : ps[i]? with
 | none => rw [hp] at h1; cases h1
 | some p =>
  rw [hp] at h1
  simp only [Option.map_some, oS, pM] at h1
  exact ⟨p, rfl, h1.1, h1.2⟩
theorem Small.mem (h : Small ps b l n) {p : Pth} (hp : p ∈ ps) : ∃ i, i < n ∧ p.nm = ltr i ∧ p.refs = refsS b n i (l.getD i 0) := by
 have : (p.nm, p.refs) ∈ gOf ps := by unfold gOf; exact List.mem_map.2 ⟨p, hp, rfl⟩
 rw [h.g] at this
 obtain ⟨j, h1, h2⟩ := smallG_mem this
 simp only [pM] at h2
 exact ⟨j, h1, h2.1, h2.2⟩
theorem mem_refsS {b : Bool} {n i x : Nat} {r : Bs} (hi : i < n) (h : r ∈ refsS b n i x) : ∃ k, k < n ∧ r = ltr k ∧ (b = true → k ≤ i) ∧ bit x k = true := by
 unfold refsS at h
 rw [List.mem_map] at h
 obtain ⟨k, h1, rfl⟩ := h
 rw [List.mem_filter, List.mem_range] at h1
 cases b with
 | false => exact ⟨k, by simpa using h1.1, rfl, by simp, h1.2⟩
 | true => exact ⟨k, by simp at h1; omega, rfl, fun _ => by simp at h1; omega, h1.2⟩
theorem refsS_len {b : Bool} {n i x : Nat} (hi : i < n) : (refsS b n i x).length ≤ n := by
 unfold refsS
 rw [List.length_map]
 refine Nat.le_trans (List.length_filter_le _ _) ?_
 rw [List.length_range]
 cases b <;> simp <;> omega
theorem Small.closed (h : Small ps b l n) {p : Pth} (hp : p ∈ ps) {r : Bs} (hr : r ∈ p.refs) : r ∈ W.names ps := by
 obtain ⟨i, h1, h2, h3⟩ := h.mem hp
 rw [h3] at hr
 obtain ⟨k, k1, rfl, _⟩ := mem_refsS h1 hr
 rw [h.names]
 exact List.mem_map.2 ⟨k, List.mem_range.2 k1, rfl⟩
theorem Small.fit (h : Small ps b l n) : Fit ps := by
 have h14 := h.n14
 refine ⟨by rw [h.len]; omega, fun p hp => ?_, fun p hp => ?_⟩
 · obtain ⟨i, _, h2, _⟩ := h.mem hp
   rw [h2]; show 1 < _; omega
 · obtain ⟨i, h1, _, h3⟩ := h.mem hp
   rw [h3]
   have := refsS_len (b := b) (x := l.getD i 0) h1
   omega
theorem Small.refs (h : Small ps b l n) : refsOf ps = ps := refsOf_id h.nd
theorem mem_names {ps : List Pth} {a : Bs} : a ∈ W.names ps ↔ ∃ p ∈ ps, p.nm = a := by unfold W.names; rw [List.mem_map]
end
section
variable {S T U : St}
theorem TLo.push3 (ho : S.on = false) {v : V} {l : List Bs} {N : Nat} (h : TLo S v l N) (hN : N ≤ S.next) (hl : l.length < 100000) (a : Bs) :
 ∃ y W v' U, bsP 9 1 1 (Go.Proofs.Ytginkdeicmdmaaa.Ev.one (sv [])) [(0, sv a)] S = some (y, W) ∧ apP 9 1 16 v y W = some (v', U) ∧ TLo U v' (l ++ [a]) N ∧ Grew (fun x => blkOf v = some x) S U ∧ ∀ r, blkOf v' = some r → S.next ≤ r := by
 obtain ⟨W, h1, h2, h3, h4⟩ := bsP_one ho 9 (Go.Proofs.Ytginkdeicmdmaaa.Ev.one (sv [])) (oneV_sv a)
 have on1 := h3.on.trans ho
 have hlm : (l ++ [a]).length = l.length + 1 := by rw [List.length_append]; rfl
 rcases h with ⟨rfl, rfl⟩ | ⟨r, rfl, hr, hr2, hr3, h0⟩
 · obtain ⟨U, k1, k2, k3, k4⟩ := ap1_first (B := 16) on1 h2 (by unfold maxCells; omega)
   exact ⟨_, W, _, U, h1, k1, .inr ⟨W.next, rfl, k2, by omega, by omega, by simp⟩, (h3.trans k3).mono fun _ _ h => h.elim, fun r hr => by cases hr; omega⟩
 · have hrow := hr.grew hr2 (fun h => h) h3
   obtain ⟨U, k1, k2, k3, k4⟩ := ap1_more (B := 16) on1 h2 hrow (by rw [rowOf_length]; unfold maxCells; omega) (by rw [rowOf_length]; unfold big; omega)
   rw [rowOf_length] at k1
   refine ⟨_, W, _, U, h1, k1, .inr ⟨W.next, by rw [hlm], ?_, by omega, by omega, by omega⟩, (h3.mono fun _ _ h => h.elim).trans (k3.mono fun x _ e => by subst e; rfl), fun r hr => by cases hr; omega⟩
   rw [rowOf_append]
   exact k2
theorem TLo.lt {v : V} {l : List Bs} {N r : Nat} (h : TLo S v l N) (hr : blkOf v = some r) : r < S.next := by
 rcases h with ⟨_, rfl⟩ | ⟨r', rfl, _, h2, _⟩
 · cases hr
 · cases hr; exact h2
theorem TLo.grewW {W : Nat → Prop} {v : V} {l : List Bs} {N : Nat} (h : TLo S v l N) (g : Grew W S U) (hw : ∀ r, blkOf v = some r → ¬ W r) : TLo U v l N := by
 rcases h with h | ⟨r, rfl, h1, h2, h3⟩
 · exact .inl h
 · exact .inr ⟨r, rfl, h1.grew h2 (hw r rfl) g, Nat.lt_of_lt_of_le h2 g.next, h3⟩
structure Two (S : St) (x y : V) (lx ly : List Bs) (N : Nat) : Prop where
 tx : TLo S x lx N
 ty : TLo S y ly N
 ne : ∀ r, blkOf x = some r → blkOf y ≠ some r
theorem Two.symm {x y : V} {lx ly : List Bs} {N : Nat} (h : Two S x y lx ly N) : Two S y x ly lx N := ⟨h.ty, h.tx, fun r h1 h2 => h.ne r h2 h1⟩
theorem Two.push (ho : S.on = false) {x y : V} {lx ly : List Bs} {N : Nat} (h : Two S x y lx ly N) (hN : N ≤ S.next) (hl : lx.length < 100000) (a : Bs) :
 ∃ y0 W x' U, bsP 9 1 1 (Go.Proofs.Ytginkdeicmdmaaa.Ev.one (sv [])) [(0, sv a)] S = some (y0, W) ∧ apP 9 1 16 x y0 W = some (x', U) ∧ Two U x' y (lx ++ [a]) ly N ∧ Grew (fun x => N ≤ x) S U := by
 obtain ⟨y0, W, x', U, h1, h2, h3, h4, h5⟩ := h.tx.push3 ho hN hl a
 refine ⟨y0, W, x', U, h1, h2, ⟨h3, h.ty.grewW h4 fun r hr hx => h.ne r hx hr, fun r hr hy => ?_⟩, h4.mono fun z _ hz => (h.tx.blk hz).1⟩
 have := h5 r hr
 have := h.ty.lt hy
 omega
theorem ld1_lg (ho : S.on = false) {b i : Nat} {v : V} (h : ld1 (.ptr b i) S = some (v, S)) (l : List LE) : ld1 (.ptr b i) (S.lg l) = some (v, S.lg (⟨b, i, i + 1, false⟩ :: l)) := by
 have h' : ld S b i = some (v, S) := h
 show ld (S.lg l) b i = _
 unfold ld at h' ⊢
 rw [show (S.lg l).heap = S.heap from rfl]
 split at h'
 · rename_i e esz n ro c hb
   cases hc : (Nat.blt i (esz * n) && Nat.blt (esz * n) big) with
   | false => rw [hc] at h'; cases h'
   | true =>
    rw [hc] at h'
    simp only [cond_true, oI, oS, pM] at h' ⊢
    obtain ⟨t, h1, w, h2, rfl, _⟩ := h'
    exact ⟨t, h1, w, h2, rfl, rfl⟩
 · cases h'
theorem TL.ldOn (ho : S.on = false) {v : V} {l : List Bs} (h : TL S v l) {i : Nat} {a : Bs} (ha : l[i]? = some a) (L : List LE) : ∃ p r o, ixP 1 v (.int .i64 (i : Int)) = some p ∧ ld1 p (S.lg L) = some (sv a, S.lg (⟨r, o, o + 1, false⟩ :: L)) := by
 obtain ⟨r, o, M, h1, h2, h3⟩ := h.ix ha
 exact ⟨_, r, o, h1, ld1_lg ho (show ld1 (.ptr r o) S = _ from h2.ld1 ho h3) L⟩
def Rd (L L' : List LE) : Prop := ∀ e ∈ L', e ∈ L ∨ e.w = false
theorem L13_on {m N : Nat} (ho : S.on = false) {v : V} {l : List Bs} (hl : TL S v l) (hlen : l.length < 1000000) (x : Bs) (nk : Ac → St → Rs) (ek : Nat → Ac → St → Rs) :
 ∀ (rest : List Bs) (i q : Nat) (L : List LE), l.drop i = rest → rest.length < q →
 ∃ L', L13_4 (ev E0 KD m) N nk ek q v (sv x) (.int .i64 (i : Int)) (S.lg L) = (if x ∈ rest then some (.ret (.bool true), S.lg L') else ek 0 (fr 18 []) (S.lg L')) ∧ Rd L L'
 | rest, i, 0, L, _, hq => by omega
 | [], i, q + 1, L, hi, hq => by
  refine ⟨L, ?_, fun e h => .inl h⟩
  rw [L13_4_eq, hl.len, oB]
  dsimp only
  rw [binV_ii, intsV_lss, dec_ge (drop_end hi), oB, ifK_bool, cond_false, if_neg (by simp)]
 | a :: rest, i, q + 1, L, hi, hq => by
  obtain ⟨hlt, hf, hrest, hmem⟩ := drop_at hi
  obtain ⟨p, r, o, p1, p2⟩ := hl.ldOn ho (show l[i]? = some a by rw [List.getElem?_eq_getElem hlt, hf]) L
  rw [L13_4_eq, hl.len, oB]
  dsimp only
  rw [binV_ii, intsV_lss, dec_lt hlt, oB, ifK_bool, cond_true, p1, oB, p2, oB]
  dsimp only
  rw [eqStr, oB, ifK_bool]
  by_cases h : a = x
  · rw [show (a == x) = true by simp [h], cond_true]
    refine ⟨_, by rw [if_pos (by simp [h])], fun e he => ?_⟩
    rcases List.mem_cons.1 he with rfl | he
    · exact .inr rfl
    · exact .inl he
  · rw [show (a == x) = false from beq_false_of_ne h, cond_false, binV_ii, intsV_add, wrap_succ (by omega), oB]
    obtain ⟨L', h1, h2⟩ := L13_on ho hl hlen x nk ek rest (i + 1) q (⟨r, o, o + 1, false⟩ :: L) hrest (by simp at hq; omega)
    refine ⟨L', ?_, fun e he => ?_⟩
    · rw [h1]
      by_cases h2 : x ∈ rest
      · rw [if_pos h2, if_pos (by simp [h2])]
      · rw [if_neg h2, if_neg (by simp [h2, Ne.symm h])]
    · rcases h2 e he with h3 | h3
      · rcases List.mem_cons.1 h3 with rfl | h3
        · exact .inr rfl
        · exact .inl h3
      · exact .inr h3
theorem has_on (m : Nat) (ho : S.on = false) {v : V} {l : List Bs} (hl : TL S v l) (hlen : l.length < 1000000) (x : Bs) : ∃ L', (ev E0 KD (m + 1)).f 13 [v, sv x] (S.lg []) = some (.ret (.bool (decide (x ∈ l))), S.lg L') ∧ ∀ e ∈ L', e.w = false := by
 obtain ⟨L', h1, h2⟩ := L13_on (m := m) (N := rounds) ho hl hlen x (R13_1 (ev E0 KD m) rounds (finN E0 (ev E0 KD m) Try.f13) noEx) (exB 0 (R13_1 (ev E0 KD m) rounds (finN E0 (ev E0 KD m) Try.f13) noEx) noEx) l 0 rounds [] rfl (by unfold rounds; omega)
 refine ⟨L', rd13 ?_, fun e he => (h2 e he).resolve_left (by simp)⟩
 show F13 (ev E0 KD m) rounds v (sv x) (S.lg []) = _
 rw [F13_eq, show (V.int .i64 0) = .int .i64 ((0 : Nat) : Int) from rfl, h1]
 by_cases h : x ∈ l
 · rw [if_pos h, decide_eq_true h]
 · rw [if_neg h, exB_same, R13_1_eq, decide_eq_false h]
theorem relog_same {T : St} (ho : S.on = false) (hT : T.on = false) (hl : T.log = S.log) (l : List LE) (ls : List (List LE)) : relog S (T.lg l) ls = T := by
 unfold relog
 rw [ho]
 cases T
 simp only at hT hl
 subst hT; subst hl
 rfl
theorem rds_of {logs : List (List LE)} (h : ∀ L ∈ logs, ∀ e ∈ L, e.w = false) : rds logs = true := by
 unfold rds
 rw [List.all_eq_true]
 intro L hL
 rw [List.all_eq_true]
 intro e he
 rw [h L hL e he]; rfl
end
end Go.Proofs.Ytginkdeicmdmaaa.W
namespace Go.Proofs.Ytginkdeicmdmaaa.W
open Go.Proofs.Ytginkdeicmdmaaa.Ev Go.RowKit
theorem rd4 {n : Nat} {args : List V} {s : St} {r : En × St} (e : runF E0 (ev E0 KD n) rounds Try.f4 B4 args s = some r) : (ev E0 KD (n + 1)).f 4 args s = some r := ev_read (c := C4) (d := B4) (by kernel_rfl) (by kernel_rfl) (annot_isOf C4 _ (by kernel_rfl)) rfl e
theorem neBool (a b : Bool) : binV E0 .neq 4 false false (.bool a) (.bool b) = some (.bool (a != b)) := by cases a <;> cases b <;> kernel_rfl
section
variable {S T U : St}
theorem L4_spec {m N : Nat} (ho : S.on = false) {v7 : V} {ps : List Pth} {b : Bool} {l : List Nat} {n : Nat} (hp : PL S v7 ps) (hs : Small ps b l n) (A B : Nat) (nk : Ac → St → Rs) (ek : Nat → Ac → St → Rs) :
 ∀ (d i q : Nat) (x y : V) (U : St), i + d = n → d < q → Grew (fun _ => False) S U → Two U x y (upTo A i) (upTo B i) S.next →
 ∃ x' y' T, L4_100 (ev E0 KD m) N nk ek q (.int .u16 (A : Int)) (.int .u16 (B : Int)) v7 x y (.int .i64 (i : Int)) U = ek 0 (fr 130 [(7, v7), (8, x'), (9, y')]) T ∧ Grew (fun _ => False) S T ∧ Two T x' y' (upTo A n) (upTo B n) S.next
 | d, i, 0, x, y, U, _, hq, _, _ => by omega
 | 0, i, q + 1, x, y, U, hi, hq, g, ht => by
  refine ⟨x, y, U, ?_, g, by rw [show n = i by omega]; exact ht⟩
  rw [L4_100_eq, (hp.grew g).len, oB]
  dsimp only
  rw [hs.len, binV_ii, intsV_lss, dec_ge (by omega), oB, ifK_bool, cond_false]
 | d + 1, i, q + 1, x, y, U, hi, hq, g, ht => by
  have onU := g.on.trans ho
  have hin : i < n := by omega
  have h14 := hs.n14
  obtain ⟨p, p1, p2, p3⟩ := hs.get hin
  have hadd : binV E0 .add 3 false true (.int .i64 (i : Int)) (.int .i64 1) = some (.int .i64 ((i + 1 : Nat) : Int)) := by
   rw [binV_ii, intsV_add, wrap_succ (by omega)]
  obtain ⟨r, x1, x2⟩ := (hp.grew g).ix p1
  have hnm := PL.name onU p1 x2
  rw [L4_100_eq, (hp.grew g).len, oB]
  dsimp only
  rw [hs.len, binV_ii, intsV_lss, dec_lt hin, oB, ifK_bool, cond_true, bit_if (by omega)]
  cases ha : bit A i with
  | false =>
   rw [cond_false, bit_if (by omega)]
   cases hb : bit B i with
   | false =>
    rw [cond_false, hadd, oB]
    exact L4_spec ho hp hs A B nk ek d (i + 1) q x y U (by omega) (by omega) g (by rw [upTo_succ, upTo_succ, ha, hb, if_neg (by simp), List.append_nil, List.append_nil]; exact ht)
   | true =>
    obtain ⟨y0, W, y', Y, b1, b2, b3, b4⟩ := ht.symm.push onU g.next (Nat.lt_of_le_of_lt (upTo_len _ _) (by omega)) (ltr i)
    rw [cond_true, x1, oB, faPg, oB, hnm, oB]
    dsimp only
    rw [p2, b1, oB]
    dsimp only
    rw [b2, oB]
    dsimp only
    rw [hadd, oB]
    exact L4_spec ho hp hs A B nk ek d (i + 1) q x y' Y (by omega) (by omega) (Grew.fresh g (Nat.le_refl _) b4) (by rw [upTo_succ A, upTo_succ B, ha, hb, if_neg (by simp), if_pos rfl, List.append_nil]; exact b3.symm)
  | true =>
   obtain ⟨y0, W, x', X, a1, a2, a3, a4⟩ := ht.push onU g.next (Nat.lt_of_le_of_lt (upTo_len _ _) (by omega)) (ltr i)
   have gX := Grew.fresh g (Nat.le_refl _) a4
   have onX := gX.on.trans ho
   rw [cond_true, x1, oB, faPg, oB, hnm, oB]
   dsimp only
   rw [p2, a1, oB]
   dsimp only
   rw [a2, oB]
   dsimp only
   rw [bit_if (by omega)]
   cases hb : bit B i with
   | false =>
    rw [cond_false, hadd, oB]
    exact L4_spec ho hp hs A B nk ek d (i + 1) q x' y X (by omega) (by omega) gX (by rw [upTo_succ A, upTo_succ B, ha, hb, if_pos rfl, if_neg (by simp), List.append_nil]; exact a3)
   | true =>
    obtain ⟨y1, W1, y', Y, b1, b2, b3, b4⟩ := a3.symm.push onX gX.next (Nat.lt_of_le_of_lt (upTo_len _ _) (by omega)) (ltr i)
    obtain ⟨r', z1, z2⟩ := (hp.grew gX).ix p1
    obtain rfl : r' = r := by rw [x1] at z1; cases z1; rfl
    have hnm' := PL.name onX p1 z2
    rw [cond_true, oB, faPg, oB, hnm', oB]
    dsimp only
    rw [p2, b1, oB]
    dsimp only
    rw [b2, oB]
    dsimp only
    rw [hadd, oB]
    exact L4_spec ho hp hs A B nk ek d (i + 1) q x' y' Y (by omega) (by omega) (Grew.fresh gX (Nat.le_refl _) b4) (by rw [upTo_succ A, upTo_succ B, ha, hb, if_pos rfl]; exact b3.symm)
theorem L4b_spec {m N : Nat} (ho : S.on = false) {v7 v8 v9 v11 v12 v13 : V} {ps : List Pth} {b : Bool} {l : List Nat} {n : Nat} {c1 c2 c3 : List Bs} (hp : PL S v7 ps) (hs : Small ps b l n) (h1 : TL S v11 c1) (h2 : TL S v12 c2) (h3 : TL S v13 c3)
 (l1 : c1.length < 1000) (l2 : c2.length < 1000) (l3 : c3.length < 1000) (hc : ∀ a, a ∈ c3 ↔ a ∈ c1 ∨ a ∈ c2) (nk : Ac → St → Rs) (ek : Nat → Ac → St → Rs) :
 ∀ (d i q : Nat), i + d = n → d < q →
 L4_65 (ev E0 KD (m + 1)) N nk ek q v7 v8 v9 v11 v12 v13 (.int .i64 (i : Int)) S = ek 2 (fr 130 [(7, v7), (8, v8), (9, v9), (11, v11), (12, v12)]) S
 | d, i, 0, _, hq => by omega
 | 0, i, q + 1, hi, hq => by
  rw [L4_65_eq, hp.len, oB]
  dsimp only
  rw [hs.len, binV_ii, intsV_lss, dec_ge (by omega), oB, ifK_bool, cond_false]
 | d + 1, i, q + 1, hi, hq => by
  have hin : i < n := by omega
  have h14 := hs.n14
  obtain ⟨p, p1, p2, p3⟩ := hs.get hin
  obtain ⟨r, x1, x2⟩ := hp.ix p1
  have hnm : ∀ L, ld1 (.ptr r (i * 4 + 0)) (S.lg L) = some (sv p.nm, S.lg (⟨r, i * 4 + 0, i * 4 + 0 + 1, false⟩ :: L)) := fun L => ld1_lg ho (PL.name ho p1 x2) L
  have hadd : binV E0 .add 3 false true (.int .i64 (i : Int)) (.int .i64 1) = some (.int .i64 ((i + 1 : Nat) : Int)) := by
   rw [binV_ii, intsV_add, wrap_succ (by omega)]
  obtain ⟨La, a1, a2⟩ := has_on m ho h3 (by omega) p.nm
  obtain ⟨Lb, b1, b2⟩ := has_on m ho h1 (by omega) p.nm
  obtain ⟨Lc, d1, d2⟩ := has_on m ho h2 (by omega) p.nm
  have on1 : onS S = S.lg [] := rfl
  have on2 : ∀ L, onS (S.lg L) = S.lg [] := fun _ => rfl
  rw [L4_65_eq, hp.len, oB]
  dsimp only
  rw [hs.len, binV_ii, intsV_lss, dec_lt hin, oB, ifK_bool, cond_true, x1, oB, faPg, oB, on1, hnm, oB]
  dsimp only
  rw [on2, a1, callD_ret, on2, oB, faPg, oB, hnm, oB]
  dsimp only
  rw [on2, b1, callD_ret]
  cases hB : decide (p.nm ∈ c1) with
  | true =>
   have hC : decide (p.nm ∈ c3) = true := by
    rw [decide_eq_true_eq] at hB ⊢
    exact (hc _).2 (.inl hB)
   rw [hC]
   simp only [gFT, oB, cond_false, callD_ret, pickV_bool, cond_true]
   rw [neBool, oB, endP_rd (rds_of ?_)]
   · simp only [on2]
     rw [relog_same ho ho rfl, show ((true != true)) = false from rfl, ifK_bool, cond_false, hadd, oB]
     exact L4b_spec ho hp hs h1 h2 h3 l1 l2 l3 hc nk ek d (i + 1) q (by omega) (by omega)
   · intro L hL e he
     simp only [List.mem_cons, List.not_mem_nil, or_false] at hL
     rcases hL with rfl | rfl | rfl | rfl | rfl | rfl | rfl | rfl | rfl | rfl | rfl | rfl | rfl | rfl | rfl | rfl | rfl | rfl | rfl | rfl | rfl | rfl | rfl | rfl <;> first | (cases he; done) | exact a2 e he | exact b2 e he | (cases List.mem_singleton.1 he; rfl)
  | false =>
   simp only [gFF, oB, cond_true]
   rw [x1, oB, faPg, oB, on2, hnm, oB]
   dsimp only
   rw [on2, d1, callD_ret, pickV_bool, cond_false, oB, neBool, oB, endP_rd (rds_of ?_)]
   · simp only [on2]
     rw [relog_same ho ho rfl]
     have hC : (decide (p.nm ∈ c3) != decide (p.nm ∈ c2)) = false := by
      have : decide (p.nm ∈ c3) = decide (p.nm ∈ c2) := by
       rw [decide_eq_decide, hc]
       rw [decide_eq_false_iff_not] at hB
       exact ⟨fun h => h.resolve_left hB, .inr⟩
      rw [this]; cases decide (p.nm ∈ c2) <;> rfl
     rw [hC, ifK_bool, cond_false, hadd, oB]
     exact L4b_spec ho hp hs h1 h2 h3 l1 l2 l3 hc nk ek d (i + 1) q (by omega) (by omega)
   · intro L hL e he
     simp only [List.mem_cons, List.not_mem_nil, or_false] at hL
     rcases hL with rfl | rfl | rfl | rfl | rfl | rfl | rfl | rfl | rfl | rfl | rfl | rfl | rfl | rfl | rfl | rfl | rfl | rfl | rfl | rfl | rfl | rfl | rfl | rfl <;> first | (cases he; done) | exact a2 e he | exact b2 e he | exact d2 e he | (cases List.mem_singleton.1 he; rfl)
end
end Go.Proofs.Ytginkdeicmdmaaa.W
namespace Go.Proofs.Ytginkdeicmdmaaa.W
open Go.Proofs.Ytginkdeicmdmaaa.Ev Go.RowKit
theorem saidL_len : ∀ {l : List Bs}, (∀ a ∈ l, a.length ≤ 2) → (saidL l).length ≤ 3 * l.length
 | [], _ => by simp [saidL]
 | a :: l, h => by
  have h1 := h a (List.mem_cons_self ..)
  have h2 := saidL_len (l := l) fun b hb => h b (List.mem_cons_of_mem _ hb)
  rw [saidL_cons, List.length_append, List.length_append, List.length_cons]
  simp only [List.length_cons, List.length_nil]
  omega
theorem saidL_app (l m : List Bs) : saidL (l ++ m) = saidL l ++ saidL m := by unfold saidL; rw [List.flatMap_append]
theorem closL_len (l : List Pth) (f : List Bs) : (closL l f).length ≤ l.length := by
 have h1 := clos_dead_len l f
 have h2 := refsOf_len l
 omega
theorem closL_short {l : List Pth} {f : List Bs} (h : ∀ p ∈ l, p.nm.length ≤ 2) : ∀ a ∈ closL l f, a.length ≤ 2 := fun a ha => by
 obtain ⟨p, hp, rfl⟩ := mem_names.1 (mem_closL.1 ha).mem
 exact h p (refsOf_mem hp)
def zz : Bs := [122, 122]
theorem ltr_zz {k : Nat} (hk : k < 14) : ltr k < zz := by
 unfold ltr zz
 rw [List.cons_lt_cons_iff]
 left
 rw [UInt8.lt_iff_toNat_lt, ltr_nat (by omega)]
 show 97 + k < 122
 omega
theorem mem_upTo {x n : Nat} {a : Bs} (h : a ∈ upTo x n) : ∃ k, k < n ∧ a = ltr k := by
 unfold upTo at h
 rw [List.mem_map] at h
 obtain ⟨k, h1, rfl⟩ := h
 rw [List.mem_filter, List.mem_range] at h1
 exact ⟨k, h1.1, rfl⟩
section
variable {ps : List Pth} {b : Bool} {l : List Nat} {n : Nat}
theorem Small.short (h : Small ps b l n) : ∀ p ∈ ps, p.nm.length ≤ 2 := fun p hp => by
 obtain ⟨i, _, h2, _⟩ := h.mem hp
 rw [h2]; show 1 ≤ 2; omega
theorem Small.nozz (h : Small ps b l n) : zz ∉ W.names ps := fun hm => by
 rw [h.names, List.mem_map] at hm
 obtain ⟨k, hk, e⟩ := hm
 rw [List.mem_range] at hk
 have h14 := h.n14
 have := ltr_zz (k := k) (by omega)
 rw [e] at this
 exact List.lt_irrefl _ this
theorem Small.nozzr (h : Small ps b l n) : ∀ p ∈ ps, zz ∉ p.refs := fun p hp hm => h.nozz (h.closed hp hm)
theorem upTo_nozz {x : Nat} (hn : n ≤ 14) : zz ∉ upTo x n := fun hm => by
 obtain ⟨k, hk, e⟩ := mem_upTo hm
 have := ltr_zz (k := k) (by omega)
 rw [← e] at this
 exact List.lt_irrefl _ this
theorem more_nd (h : Small ps b l n) {q : Pth} (hq : q.nm = zz) : (W.names (ps ++ [q])).Nodup := by
 rw [names_app, List.nodup_append]
 refine ⟨h.nd, by simp [W.names], fun x hx y hy e => ?_⟩
 simp [W.names] at hy
 subst hy; subst e
 rw [hq] at hx
 exact h.nozz hx
theorem more_clos (h : Small ps b l n) {q : Pth} (hq : q.nm = zz) {f : List Bs} (hf : zz ∉ f) : closL (ps ++ [q]) f = closL ps f :=
 closL_ext fun a => by
  rw [refsOf_id (more_nd h hq), h.refs]
  exact rch_more (by rw [hq]; exact hf) (fun p hp => by rw [hq]; exact h.nozzr p hp)
theorem more_dead (h : Small ps b l n) {q : Pth} (hq : q.nm = zz) {f : List Bs} (hf : zz ∉ f) : (deadL (ps ++ [q]) f).length = (deadL ps f).length + 1 := by
 have h1 := clos_dead_len (ps ++ [q]) f
 have h2 := clos_dead_len ps f
 rw [more_clos h hq hf, refsOf_id (more_nd h hq), List.length_append, List.length_singleton] at h1
 rw [h.refs] at h2
 omega
theorem more_zz (h : Small ps b l n) {q : Pth} (hq : q.nm = zz) (hf : zz ∉ q.refs) : closL (ps ++ [q]) [zz] = closL ps q.refs ++ [zz] := by
 refine rise_eq (closL_pw _ _) ?_ fun a => ?_
 · rw [List.pairwise_append]
   refine ⟨closL_pw _ _, by simp, fun a ha c hc => ?_⟩
   simp at hc; subst hc
   have := (mem_closL.1 ha).mem
   rw [h.refs, h.names, List.mem_map] at this
   obtain ⟨k, hk, rfl⟩ := this
   rw [List.mem_range] at hk
   have h14 := h.n14
   exact ltr_zz (by omega)
 · rw [mem_closL, refsOf_id (more_nd h hq), List.mem_append, mem_closL, h.refs, List.mem_singleton]
   have := rch_new (l := ps) (p := q) (by rw [hq]; exact h.nozz) (by rw [hq]; exact hf) (fun p hp => by rw [hq]; exact h.nozzr p hp) (a := a)
   rw [hq] at this
   rw [this]
   exact Or.comm
end
section
variable {S T U : St}
theorem build28r {v : V} {l : List Bs} {N : Nat} (h : TLo S v l N) : buildV E0 28 [(0, sv [122, 122]), (1, v)] = some (vAgg [sv [122, 122], v, sv [], sv []]) := by
 rcases h with ⟨_, rfl⟩ | ⟨r, rfl, _⟩
 · kernel_rfl
 · generalize l.length = k
   kernel_rfl
theorem neqInt (a c : Nat) : binV E0 .neq 3 false false (.int .i64 (a : Int)) (.int .i64 (c : Int)) = some (.bool (!decide (a = c))) := by
 rw [binV_ii, intsV_neq]
 congr 3
 rw [decide_eq_decide]; omega
theorem rest_run (d : Nat) (ho : S.on = false) {v7 v8 v9 v11 v12 : V} {ps : List Pth} {b : Bool} {l : List Nat} {n A B N : Nat} (hp : PL S v7 ps) (hs : Small ps b l n) (hx : TLo S v8 (upTo A n) N) (hy : TLo S v9 (upTo B n) N) (h1 : TL S v11 (closL ps (upTo A n))) (h2 : TL S v12 (closL ps (upTo B n))) (nk : Ac → St → Rs) (ek : Nat → Ac → St → Rs) :
 ∃ U, R4_23 (ev E0 KD (d + 23)) rounds nk ek (fr 130 [(7, v7), (8, v8), (9, v9), (11, v11), (12, v12)]) S = some (.ret (.bool true), U) ∧ Grew (fun _ => False) S U := by
 have h14 := hs.n14
 have hlen := hs.len
 have hxl : (upTo A n).length ≤ n := upTo_len _ _
 have hyl : (upTo B n).length ≤ n := upTo_len _ _
 obtain ⟨y0, W, v1, U1, y2, U2, v3, U3, e1, e2, e3, e4, e5, g3⟩ := app_path ho hp (by omega) ⟨zz, v8, upTo A n⟩ hx.tl (Tr.ofListFrom .nil [(sv []), .nilslice, (sv []), (sv [])] 0)
 have on3 := g3.on.trans ho
 have hfit := hs.fit
 have hF : Fit (ps ++ [⟨zz, v8, upTo A n⟩]) := by
  refine ⟨by rw [List.length_append, List.length_singleton]; omega, fun p hp' => ?_, fun p hp' => ?_⟩
  · rcases List.mem_append.1 hp' with h | h
    · exact hfit.nm p h
    · simp at h; subst h; show 2 < _; omega
  · rcases List.mem_append.1 hp' with h | h
    · exact hfit.refs p h
    · simp at h; subst h; show (upTo A n).length < _; omega
 have hml : (ps ++ [(⟨zz, v8, upTo A n⟩ : Pth)]).length ≤ d + 20 := by rw [List.length_append, List.length_singleton]; omega
 have hshort : ∀ p ∈ ps ++ [(⟨zz, v8, upTo A n⟩ : Pth)], p.nm.length ≤ 2 := fun p hp' => by
  rcases List.mem_append.1 hp' with h | h
  · exact hs.short p h
  · simp at h; subst h; show 2 ≤ 2; omega
 have bnd : ∀ f, (saidL (closL (ps ++ [(⟨zz, v8, upTo A n⟩ : Pth)]) f)).length < 1000000 := fun f => by
  have := saidL_len (closL_short (f := f) hshort)
  have := closL_len (ps ++ [(⟨zz, v8, upTo A n⟩ : Pth)]) f
  rw [List.length_append, List.length_singleton] at this
  omega
 have bnd0 : ∀ f, (saidL (closL ps f)).length < 1000000 ∧ (closL ps f).length < 1000 := fun f => by
  have := saidL_len (closL_short (f := f) hs.short)
  have := closL_len ps f
  exact ⟨by omega, by omega⟩
 obtain ⟨w1, A1, a1, a2, a3⟩ := closure_run (d := d + 20) on3 e5 hF hml (hy.grew g3).tl (by omega)
 have onA := a3.on.trans on3
 rw [more_clos hs rfl (upTo_nozz h14)] at a2
 have s1 := said_run (d + 22) onA a2.tl (by have := (bnd0 (upTo B n)).2; omega) (bnd0 _).1
 have gA := g3.trans a3
 have s2 := said_run (d + 22) onA (h2.grew0 gA) (by have := (bnd0 (upTo B n)).2; omega) (bnd0 _).1
 obtain ⟨w2, A2, b1, b2, b3⟩ := dead_run (d := d + 20) onA (e5.grew a3) hF hml ((hy.grew g3).grew a3).tl (by omega)
 have onB := b3.on.trans onA
 have gB := gA.trans b3
 obtain ⟨w3, A3, c1, c2, c3⟩ := dead_run (d := d + 20) onB (hp.grew gB) hfit (by omega) (hy.grew gB).tl (by omega)
 have onC := c3.on.trans onB
 have gC := gB.trans c3
 have hdd := more_dead hs (q := ⟨zz, v8, upTo A n⟩) rfl (f := upTo B n) (upTo_nozz h14)
 have hdl : (deadL ps (upTo B n)).length ≤ 1000 := by
  have h3 := clos_dead_len ps (upTo B n)
  rw [hs.refs] at h3
  omega
 obtain ⟨Z, z1, z2, z3, z4⟩ := bsP_one onC 9 (Go.Proofs.Ytginkdeicmdmaaa.Ev.one (sv [])) (oneV_sv [122, 122])
 have onZ := z3.on.trans onC
 have hzz : TL Z (.slice A3.next 0 1 1) [zz] := TL.sli (l := [zz]) z2 (by omega)
 obtain ⟨w4, A4, d1, d2, d3⟩ := closure_run (d := d + 20) onZ (((e5.grew a3).grew b3).grew c3 |>.grew z3) hF hml hzz (by show 1 < _; omega)
 have onD := d3.on.trans onZ
 have gD := (gC.trans z3).trans d3
 have s3 := said_run (d + 22) onD d2.tl (by have := closL_len (ps ++ [(⟨zz, v8, upTo A n⟩ : Pth)]) [zz]; rw [List.length_append, List.length_singleton] at this; omega) (bnd _)
 have s4 := said_run (d + 22) onD (h1.grew0 gD) (by have := (bnd0 (upTo A n)).2; omega) (bnd0 _).1
 have hz := more_zz hs (q := ⟨zz, v8, upTo A n⟩) rfl (upTo_nozz h14)
 have hsz : saidL (closL (ps ++ [(⟨zz, v8, upTo A n⟩ : Pth)]) [zz]) = saidL (closL ps (upTo A n)) ++ [122, 122, 32] := by
  rw [hz, saidL_app]; rfl
 refine ⟨A4, ?_, gD⟩
 rw [R4_23_eq, e1, oB]
 dsimp only
 rw [e2, oB]
 dsimp only
 rw [build28r hx, oB, show vAgg [sv [122, 122], v8, sv [], sv []] = vAgg (Pth.cells ⟨zz, v8, upTo A n⟩) from rfl, e3, oB]
 dsimp only
 rw [e4, oB]
 dsimp only
 rw [a1, callP_ret, s1, callP_ret, s2, callP_ret, neStr, oB, beq_self_eq_true, Bool.not_true]
 simp only [gFF, oB, cond_true]
 rw [b1, callP_ret, b2.tl.len, oB]
 dsimp only
 rw [c1, callP_ret, c2.tl.len, oB]
 dsimp only
 rw [binV_ii, intsV_add, wrap_succ (by omega), oB, neqInt, oB, hdd, decide_eq_true rfl, Bool.not_true, pickV_bool, cond_false, oB, ifK_bool, cond_false, z1, oB]
 dsimp only
 rw [d1, callP_ret, s3, callP_ret, s4, callP_ret, addStr _ _ (by have := (bnd0 (upTo A n)).1; show _ + 3 < _; omega), oB, eqStr, hsz, beq_self_eq_true, oB]
 simp only [gTT, oB, cond_true]
 rw [works_run, callP_ret, pickV_bool, cond_true, oB]
end
end Go.Proofs.Ytginkdeicmdmaaa.W
namespace Go.Proofs.Ytginkdeicmdmaaa.W
open Go.Proofs.Ytginkdeicmdmaaa.Ev Go.RowKit Go.Proofs
theorem sok44 : SortedOk Try.prog 44 [53, 54] 9 := sortedOk_of Try.sorted44 Try.sort52 rfl [53, 54] fun g hg => by
 simp only [List.mem_cons, List.not_mem_nil, or_false] at hg
 rcases hg with rfl | rfl
 · exact ⟨Try.keys45_ren, { Try.keys45 with }, rfl, rfl⟩
 · exact ⟨Try.keys47_ren, { Try.keys47 with }, rfl, rfl⟩
theorem okA : KnOk Try.prog E0 KA := knOk_nil.add (sorted_well sok44)
theorem okB : KnOk Try.prog E0 KB := okA.add closed_well
theorem glob0 : ∀ g, E0.glob.get g = none := fun _ => rfl
theorem works_runs : saysTrue ((ev E0 KB 400).f 14 [] s0) = true := by decide +kernel
theorem kn14 : KnWell Try.prog E0 14 kfTrue := by
 refine ⟨specKF_loc, fun w0 ρ s w args cargs e t hR hv hg => ?_⟩
 unfold kfTrue specKF at hg
 simp only at hg
 by_cases hx : ∃ x : Unit, ([] : List V) = args
 · rw [dif_pos hx] at hg
   simp only [oS, pM] at hg
   obtain ⟨rfl, rfl⟩ := hg
   obtain ⟨_, rfl⟩ := hx
   obtain ⟨l⟩ := cargs
   cases hv
   exact (closed_walk E0_ok okB glob0 works_runs w).mono fun ce w' ⟨h1, h2⟩ => ⟨ρ, .bool true, h1, Rho.le_refl ρ, .bool true, hR.grown h2⟩
 · rw [dif_neg hx] at hg; cases hg
theorem okD : KnOk Try.prog E0 KD := okB.add kn14
def frz (W : World) : Rho := ⟨fun _ => none, fun k => W.heap[k]?⟩
theorem relF (W : World) : Rel E0 (base0 W) (frz W) s0 W :=
 ⟨⟨rfl, rfl, rfl, Nat.le_refl _, fun _ _ => rfl⟩, fun _ _ => rfl, Nat.le_refl _, fun b o h => by simp [s0, Tr.get_nil] at h, fun b b' o o' cb sh sz sh' sz' h => by simp [s0, Tr.get_nil] at h, fun g b h => (by rw [glob0] at h; cases h), fun k o h => h, fun b o cb sh sz h => (by simp [s0, Tr.get_nil] at h), fun k o h _ => trivial⟩
end Go.Proofs.Ytginkdeicmdmaaa.W
