/-
  WHAT THE FUNCTIONS COME TO: each is read by the evaluator, printed, and told as a function of data, part 4 of 5 (no condition).
-/
import Derived.Test.YtginkdeicmdmaaaW3
import Derived.Test.YtginkdeicmdmaaaShelf
import Derived.WalkKit
import Derived.ProofKit
import Derived.OpenShut
import Derived.Carry
import Derived.ChangeMaps5
namespace Go.Proofs.Ytginkdeicmdmaaa.W
open Go.Proofs.Ytginkdeicmdmaaa.Ev Go.RowKit
section
variable {s S T U : St}
theorem bsP_path (ho : s.on = false) (z : Tr V) (l : List V) (hl : l.length = 4) : ∃ t, bsP 28 4 1 z [(0, vAgg l)] s = some (.slice s.next 0 1 1, t) ∧ RowAt t s.next 28 4 [Tr.ofListFrom .nil l 0] ∧ Grew (fun _ => False) s t ∧ t.next = s.next + 1 := by
 refine ⟨nw s (.cells 28 4 1 false ((Tr.tab 1 1 fun _ => z).set (Tr.ofListFrom .nil l 0) 0)), ?_, ?_, grew_nw ho _ _, rfl⟩
 · unfold bsP fillE fillE
   simp only [vAgg, V.size, isTuple, V.cells, hl, show Nat.beq 4 4 = true from rfl, Bool.not_false, Bool.and_true, show Nat.blt 0 1 = true from rfl, cond_true, Tr.setC_eq, oB]
 · refine rowAt_nw ho (by omega) rfl (by unfold big; omega) fun i t h => ?_
   rw [Tr.get_set]
   cases i with
   | zero => simpa using h
   | succ i => simp at h
theorem ap4_first (ho : s.on = false) {b : Nat} {t : Tr V} (h : RowAt s b 28 4 [t]) : ∃ u, apP 28 4 72 .nilslice (.slice b 0 1 1) s = some (.oslice s.next 0 1 4, u) ∧ RowAt u s.next 28 4 [t] ∧ Grew (fun _ => False) s u ∧ u.next = s.next + 1 := by
 refine ⟨newCells s 28 4 [t], ?_, rowAt_newCells ho (by omega) (by unfold big; simp), grew_nw ho _ _, rfl⟩
 unfold apP
 simp only [lenV, oB, show Nat.blt ((0 + 1) * (72 + 4 + 1)) maxCells = true from rfl, cond_true]
 unfold appendV firstV
 have := h.ldN ho 1 0 (by simp)
 simp only [Nat.zero_mul, List.drop_zero] at this
 simp only [this, oB, show Nat.beq 1 0 = false from rfl, cond_false]
 rfl
theorem ap4_more (ho : s.on = false) {b r : Nat} {t : Tr V} {l : List (Tr V)} (h : RowAt s b 28 4 [t]) (hr : RowAt s r 28 4 l) (hl : l.length ≤ 3000) : ∃ u, apP 28 4 72 (.oslice r 0 l.length 4) (.slice b 0 1 1) s = some (.oslice s.next 0 (l.length + 1) 4, u) ∧ RowAt u s.next 28 4 (l ++ [t]) ∧ Grew (fun x => x = r) s u ∧ u.next = s.next + 1 := by
 obtain ⟨c, hc1, hc2⟩ := hr.row
 have hfit := hr.fit
 refine ⟨nw (s.put r .dead) (.cells 28 4 (l.length + 1) false (c.set t l.length)), ?_, ?_, ?_, rfl⟩
 · unfold apP
   have hm : Nat.blt ((l.length + 1) * (72 + 4 + 1)) maxCells = true := by rw [blt_true]; unfold maxCells; omega
   simp only [lenV, oB, hm, cond_true]
   unfold appendV firstV
   have := h.ldN ho 1 0 (by simp)
   simp only [Nat.zero_mul, List.drop_zero] at this
   simp only [this, oB, show Nat.beq 4 4 = true from rfl, cond_true]
   unfold sizeB
   rw [hc1]
   have hb : Nat.ble (0 + (l.length + 1) * 4) (4 * l.length) = false := by
    cases hh : Nat.ble (0 + (l.length + 1) * 4) (4 * l.length) with
    | false => rfl
    | true => rw [ble_true] at hh; omega
   simp only [blt_true.2 hfit, cond_true, oB, note_off ho, hb, cond_false]
   unfold growV
   rw [hc1]
   simp only [show Nat.beq 28 28 = true from rfl, Bool.not_true, Bool.or_self, cond_false, show Nat.beq 4 4 = true from rfl, show Nat.beq 0 0 = true from rfl, Nat.beq_refl, blt_true.2 hfit, Bool.and_self, cond_true]
   rw [show List.take 1 [t] = [t] from rfl]
   unfold addLC addLC
   rw [Tr.setC_eq]
   unfold setO
   rw [note_off ho]
 · have hnx : (s.put r .dead).next = s.next := rfl
   have := rowAt_nw (s := s.put r .dead) (e := 28) (z := 4) (n := l.length + 1) (c := c.set t l.length) (l := l ++ [t]) ho (by omega) (by simp) (by unfold big; omega) fun i u h => by
    rw [Tr.get_set]
    by_cases hi : i = l.length
    · subst hi
      rw [if_pos rfl]
      simpa using h
    · rw [if_neg hi]
      have hlt := (List.getElem?_eq_some_iff.1 h).1
      rw [List.length_append, List.length_singleton] at hlt
      rw [List.getElem?_append_left (by omega)] at h
      exact hc2 i u h
   exact this
 · exact ⟨by show s.next ≤ s.next + 1; omega, (nw_on (s := s.put r .dead) ho _).trans ho.symm, fun x hx hw => by
    rw [nw_get, if_neg (by show x ≠ s.next; omega), put_get, if_neg hw]⟩
theorem row_ne {b e e' z z' : Nat} {l l' : List (Tr V)} (h : RowAt S b e z l) (h' : RowAt S b e' z' l') : e = e' := by
 obtain ⟨c, h1, _⟩ := h.row
 obtain ⟨c', h2, _⟩ := h'.row
 rw [h1] at h2
 simp only [oS, O.cells.injEq] at h2
 exact h2.1
theorem row_bx {b e e' z : Nat} {l : List (Tr V)} {m : List V} (h : RowAt S b e z l) (h' : Bx S b e' m) : e = e' := by
 obtain ⟨c, h1, _⟩ := h.row
 have h2 : S.heap.get b = some _ := h'
 rw [h1] at h2
 simp only [oS, O.cells.injEq] at h2
 exact h2.1
def PLo (S : St) (v : V) (l : List Pth) (N : Nat) : Prop := PL S v l ∧ ∀ r, blkOf v = some r → N ≤ r ∧ RowAt S r 28 4 (l.map treeP)
theorem PL.lt {v : V} {l : List Pth} {r : Nat} (h : PL S v l) (hr : blkOf v = some r) : r < S.next := by
 rcases h.1 with ⟨_, rfl⟩ | ⟨r', rfl, _, h2, _⟩
 · cases hr
 · cases hr; exact h2
theorem PLo.nil {N : Nat} : PLo S .nilslice [] N := ⟨.nil, fun r h => by cases h⟩
theorem PLo.grew {v : V} {l : List Pth} {N : Nat} (h : PLo S v l N) (g : Grew (fun _ => False) S U) : PLo U v l N := ⟨h.1.grew g, fun r hr => ⟨(h.2 r hr).1, (h.2 r hr).2.grew (h.1.lt hr) (fun h => h) g⟩⟩
theorem PL.grewW {W : Nat → Prop} {v : V} {l : List Pth} (h : PL S v l) (g : Grew W S U) (h1 : ∀ r m, blkOf v = some r → RowR S r 28 4 m → ¬ W r) (h2 : ∀ p ∈ l, ∀ r m, blkOf p.rv = some r → RowAt S r 9 1 m → ¬ W r) : PL U v l := by
 refine ⟨?_, fun p hp => (h.2 p hp).grew (h2 p hp) g⟩
 rcases h.1 with h | ⟨r, rfl, h3, h4, h5⟩
 · exact .inl h
 · exact .inr ⟨r, rfl, h3.grew h4 (h1 r _ rfl h3) g, Nat.lt_of_lt_of_le h4 g.next, h5⟩
theorem PLo.push (ho : S.on = false) {v : V} {l : List Pth} {N : Nat} (h : PLo S v l N) (hN : N ≤ S.next) (hl : l.length ≤ 3000) {p : Pth} (hp : TL S p.rv p.refs) :
 ∃ y W v' U, bsP 28 4 1 (Tr.ofListFrom .nil [(sv []), .nilslice, (sv []), (sv [])] 0) [(0, vAgg p.cells)] S = some (y, W) ∧ apP 28 4 72 v y W = some (v', U) ∧ PLo U v' (l ++ [p]) N ∧ Grew (fun x => blkOf v = some x) S U := by
 obtain ⟨W, w1, w2, w3, w4⟩ := bsP_path ho (Tr.ofListFrom .nil [(sv []), .nilslice, (sv []), (sv [])] 0) p.cells rfl
 have onW := w3.on.trans ho
 have hW := h.1.grew w3
 rcases h.1.1 with ⟨rfl, rfl⟩ | ⟨r, rfl, hrR, hr2, h0⟩
 · obtain ⟨U, k1, k2, k3, k4⟩ := ap4_first onW w2
   refine ⟨_, W, _, U, w1, k1, ⟨⟨.inr ⟨W.next, rfl, .of k2, by omega, by simp⟩, fun q hq => ?_⟩, fun x hx => ?_⟩, (w3.trans k3).mono fun _ _ h => h.elim⟩
   · simp at hq; subst hq
     exact (hp.grew0 w3).grew0 k3
   · cases hx; exact ⟨by omega, k2⟩
 · have hr := (h.2 r rfl).2
   have hrow := hr.grew hr2 (fun h => h) w3
   obtain ⟨U, k1, k2, k3, k4⟩ := ap4_more onW w2 hrow (by rw [List.length_map]; exact hl)
   rw [List.length_map] at k1
   have hlm : (l ++ [p]).length = l.length + 1 := by rw [List.length_append]; rfl
   have k2' : RowAt U W.next 28 4 ((l ++ [p]).map treeP) := by rw [List.map_append]; exact k2
   refine ⟨_, W, _, U, w1, k1, ⟨⟨.inr ⟨W.next, by rw [hlm], .of k2', by omega, by omega⟩, fun q hq => ?_⟩, fun x hx => ?_⟩, (w3.mono fun _ _ h => h.elim).trans (k3.mono fun x _ e => by subst e; rfl)⟩
   · have hq' : TL W q.rv q.refs := by
      rcases List.mem_append.1 hq with h' | h'
      · exact hW.2 q h'
      · simp at h'; subst h'; exact hp.grew0 w3
     exact hq'.grew (fun x e _ hx he => by
      subst he
      exact absurd (row_ne hx hrow) (by decide)) k3
   · cases hx; exact ⟨by omega, k2'⟩
theorem TLo.push2 (ho : S.on = false) {v : V} {l : List Bs} {N : Nat} (h : TLo S v l N) (hN : N ≤ S.next) (hl : l.length < 100000) (a : Bs) :
 ∃ y W v' U, bsP 9 1 1 (Go.Proofs.Ytginkdeicmdmaaa.Ev.one (sv [])) [(0, sv a)] S = some (y, W) ∧ apP 9 1 16 v y W = some (v', U) ∧ TLo U v' (l ++ [a]) N ∧ Grew (fun x => blkOf v = some x) S U := by
 obtain ⟨W, h1, h2, h3, h4⟩ := bsP_one ho 9 (Go.Proofs.Ytginkdeicmdmaaa.Ev.one (sv [])) (oneV_sv a)
 have on1 := h3.on.trans ho
 have hlm : (l ++ [a]).length = l.length + 1 := by rw [List.length_append]; rfl
 rcases h with ⟨rfl, rfl⟩ | ⟨r, rfl, hr, hr2, hr3, h0⟩
 · obtain ⟨U, k1, k2, k3, k4⟩ := ap1_first (B := 16) on1 h2 (by unfold maxCells; omega)
   exact ⟨_, W, _, U, h1, k1, .inr ⟨W.next, rfl, k2, by omega, by omega, by simp⟩, (h3.trans k3).mono fun _ _ h => h.elim⟩
 · have hrow := hr.grew hr2 (fun h => h) h3
   obtain ⟨U, k1, k2, k3, k4⟩ := ap1_more (B := 16) on1 h2 hrow (by rw [rowOf_length]; unfold maxCells; omega) (by rw [rowOf_length]; unfold big; omega)
   rw [rowOf_length] at k1
   refine ⟨_, W, _, U, h1, k1, .inr ⟨W.next, by rw [hlm], ?_, by omega, by omega, by omega⟩, (h3.mono fun _ _ h => h.elim).trans (k3.mono fun x _ e => by subst e; rfl)⟩
   rw [rowOf_append]
   exact k2
theorem TLo.blk {v : V} {l : List Bs} {N r : Nat} (h : TLo S v l N) (hr : blkOf v = some r) : N ≤ r ∧ RowAt S r 9 1 (rowOf l) := by
 rcases h with ⟨_, rfl⟩ | ⟨r', rfl, h1, h2, h3, _⟩
 · cases hr
 · cases hr; exact ⟨h3, h1⟩
def ltr (k : Nat) : Bs := [UInt8.ofNat (97 + k)]
theorem ltr_nat {k : Nat} (h : k < 100) : (UInt8.ofNat (97 + k)).toNat = 97 + k := by rw [UInt8.toNat_ofNat']; omega
theorem ltr_inj {i k : Nat} (hi : i < 100) (hk : k < 100) (h : ltr i = ltr k) : i = k := by
 unfold ltr at h
 have := congrArg UInt8.toNat (List.cons.inj h).1
 rw [ltr_nat hi, ltr_nat hk] at this
 omega
theorem und44 : und E0 44 = some (.slice 5) := by kernel_rfl
theorem und5 : und E0 5 = some (.int .u8) := by kernel_rfl
theorem conv_row (ho : S.on = false) {r : Nat} {b : UInt8} (h : RowAt S r 5 1 ([b].map byteC)) : convertV E0 44 9 (.slice r 0 1 1) S = some (sv [b], S) :=
 convert_row ho und44 und5 und9 h (off := 0) (len := 1) (cap := 1) (by simp)
def bit (n k : Nat) : Bool := decide (n / 2 ^ k % 2 = 1)
end
end Go.Proofs.Ytginkdeicmdmaaa.W
namespace Go.Proofs.Ytginkdeicmdmaaa.W
open Go.Proofs.Ytginkdeicmdmaaa.Ev Go.RowKit
def U16V (v : V) (l : List Nat) : Prop := (l = [] ∧ (v = .nilslice ∨ v = .eslice)) ∨ v = .list 1 (l.map fun n : Nat => V.int .u16 (n : Int))
def refsS (b : Bool) (n i x : Nat) : List Bs := ((List.range (if b then i + 1 else n)).filter (bit x)).map ltr
def gOf (ps : List Pth) : List (Bs × List Bs) := ps.map fun p => (p.nm, p.refs)
def smallG (b : Bool) (l : List Nat) (n : Nat) : Nat → List (Bs × List Bs)
 | 0 => []
 | i + 1 => smallG b l n i ++ [(ltr i, refsS b n i (l.getD i 0))]
section
variable {S T U : St}
theorem u16_len {v : V} {l : List Nat} (h : U16V v l) : lnS v S = some (.int .i64 (l.length : Int), S) := by
 rcases h with ⟨rfl, rfl | rfl⟩ | rfl
 · rfl
 · rfl
 · show some (V.int .i64 (Int.ofNat (l.map fun n : Nat => V.int .u16 (n : Int)).length), S) = _
   rw [List.length_map]; rfl
theorem u16_ix {v : V} {l : List Nat} (h : U16V v l) {i : Nat} (hi : i < l.length) : ixP 1 v (.int .i64 (i : Int)) = some (.cptr (.int .u16 (l.getD i 0 : Int))) := by
 rcases h with ⟨rfl, _⟩ | rfl
 · cases hi
 · show (bif Nat.beq 1 1 && Nat.blt 0 1 then ((l.map fun n : Nat => V.int .u16 (n : Int))[i]?).bind fun v => some (V.cptr v) else none) = _
   rw [List.getElem?_map, List.getElem?_eq_getElem hi, List.getD_eq_getElem?_getD, List.getElem?_eq_getElem hi]
   rfl
theorem bit_if {n k : Nat} (hk : k < 16) (A B : Rs) : ((binV E0 .shr 23 false false (.int .u16 (n : Int)) (.int .i64 (k : Int))).bind fun t51 =>
(binV E0 .rem 23 false true t51 (.int .u16 2)).bind fun t52 =>
(binV E0 .eql 23 false true t52 (.int .u16 1)).bind fun t53 => ifK t53 A B) = bif bit n k then A else B := by
 have h1 : binV E0 .shr 23 false false (.int .u16 (n : Int)) (.int .i64 (k : Int)) = some (.int .u16 ((n / 2 ^ k : Nat) : Int)) := by
  rw [binV_ii]
  show some (V.int .u16 ((n : Int).fdiv (.ofNat (2 ^ min k (ikBits .u16))))) = _
  rw [Nat.min_eq_left (show k ≤ ikBits .u16 from Nat.le_of_lt hk), Int.ofNat_fdiv]
  rfl
 have h2 : binV E0 .rem 23 false true (.int .u16 ((n / 2 ^ k : Nat) : Int)) (.int .u16 2) = some (.int .u16 ((n / 2 ^ k % 2 : Nat) : Int)) := by
  rw [binV_ii, intsV_rem _ _ _ (by decide)]; rfl
 rw [h1, oB, h2, oB, binV_ii, intsV_eql, oB, ifK_bool]
 have : decide (((n / 2 ^ k % 2 : Nat) : Int) = 1) = bit n k := by
  unfold bit
  rw [decide_eq_decide]
  omega
 rw [this]
theorem letter_parts (ho : S.on = false) {k : Nat} (hk : k < 100) : ∃ W, Grew (fun _ => False) S W ∧ cvI .u8 (.int .i64 (k : Int)) S = some (.int .u8 (k : Int), S) ∧
 ∃ t y, binV E0 .add 5 true false (.int .u8 97) (.int .u8 (k : Int)) = some t ∧ bsP 5 1 1 (Go.Proofs.Ytginkdeicmdmaaa.Ev.one (.int .u8 0)) [(0, t)] S = some (y, W) ∧ convertV E0 44 9 y W = some (sv (ltr k), W) := by
 obtain ⟨W, w1, w2, w3, w4⟩ := bsP_byte ho 5 (UInt8.ofNat (97 + k))
 refine ⟨W, w3, ?_, _, _, ?_, w1, conv_row (w3.on.trans ho) w2⟩
 · rw [cvI_int, wrap_u8 (by omega) (by omega)]
 · rw [binV_ii, intsV_add, wrap_u8 (by omega) (by omega), show ((97 : Int) + (k : Int)) = ((UInt8.ofNat (97 + k)).toNat : Int) from by rw [ltr_nat hk]; omega]
theorem cond_eq (b : Bool) (k n i : Nat) (K : V → Rs) :
 ((binV E0 .lss 3 false false (.int .i64 (k : Int)) (.int .i64 (n : Int))).bind fun t36 =>
(guardV true t36).bind fun g38 => (bif g38 then some (V.bool b) else some (.tuple [])).bind fun t38 =>
(guardV true t36).bind fun g39 => (bif g39 then unV .not t38 else some (.tuple [])).bind fun t39 =>
(guardV true t36).bind fun g40 => (bif g40 then some t39 else some (.tuple [])).bind fun t40 =>
(guardV false t40).bind fun g41 => (bif g41 then some (V.int .i64 (k : Int)) else some (.tuple [])).bind fun t41 =>
(guardV false t40).bind fun g42 => (bif g42 then some (V.int .i64 (i : Int)) else some (.tuple [])).bind fun t42 =>
(guardV false t40).bind fun g43 => (bif g43 then binV E0 .leq 3 false false t41 t42 else some (.tuple [])).bind fun t43 =>
(guardV true t36).bind fun g44 => (bif g44 then pickV t40 (some (.bool true)) (some t43) else some (.tuple [])).bind fun t44 =>
(pickV t36 (some t44) (some (.bool false))).bind fun t45 => K t45) = K (.bool (decide (k < n) && (!b || decide (k ≤ i)))) := by
 have hle : binV E0 .leq 3 false false (.int .i64 (k : Int)) (.int .i64 (i : Int)) = some (.bool (decide (k ≤ i))) := by
  rw [binV_ii, intsV_leq]
  congr 2
  rw [decide_eq_decide]; omega
 rw [binV_ii, intsV_lss, oB]
 by_cases h : k < n
 · rw [dec_lt h, decide_eq_true h]
   cases b
   · rfl
   · simp only [gTT, gFF, oB, cond_true, cond_false, unV_not, Bool.not_true, hle, pickV_bool, Bool.true_and, Bool.false_or]
 · rw [dec_ge (by omega), decide_eq_false h]
   rfl
theorem set4_1 (a b c d v : V) : (Tr.ofListFrom .nil [a, b, c, d] 0).set v 1 = Tr.ofListFrom .nil [a, v, c, d] 0 := by kernel_rfl
theorem bx_st4 (ho : S.on = false) {x e : Nat} {a b c d v : V} (h : Bx S x e [a, b, c, d]) (hv : OneV v) : stP 1 (.ptr x (0 + 1)) v S = some (.tuple [], S.put x (bxO e [a, v, c, d])) := by
 show vu (bif Nat.beq v.size 1 && !isTuple v then stK S x 1 1 v.cells else none) = _
 rw [hv.size, hv.cells, hv.tup]
 have hst : stK S x 1 1 (Go.Proofs.Ytginkdeicmdmaaa.Ev.one v) = some (S.put x (bxO e [a, v, c, d])) := by
  have h' : S.heap.get x = some (.cells e 4 1 false (Tr.ofListFrom .nil [Tr.ofListFrom .nil [a, b, c, d] 0] 0)) := h
  unfold stK
  rw [h']
  simp only [show Nat.ble (1 + 1) (4 * 1) = true from rfl, blt_true.2 (show 4 * 1 < big by unfold big; decide), Bool.and_self, Bool.not_false, cond_true]
  unfold elemTo
  rw [show Nat.beq 1 4 = false from rfl]
  have hv0 : (Go.Proofs.Ytginkdeicmdmaaa.Ev.one v).get 0 = some v := rfl
  simp only [Bool.false_and, cond_false, cellsTo, Tr.setC_eq, hv0, oB, show (1 + 0) / 4 = 0 from rfl, show (1 + 0) % 4 = 1 from rfl]
  rw [Tr.get_ofList]
  simp only [List.getElem?_cons_zero, oB, set4_1, set_one, note_off ho]
  rfl
 rw [hst]; rfl
theorem bx_put4 (x e : Nat) (l : List V) : Bx (S.put x (bxO e l)) x e l := by
 show (S.put x (bxO e l)).heap.get x = some (bxO e l)
 rw [put_get, if_pos rfl]
theorem TLo.oneV {v : V} {l : List Bs} {N : Nat} (h : TLo S v l N) : OneV v := by
 rcases h with ⟨_, rfl⟩ | ⟨r, rfl, _⟩ <;> exact ⟨rfl, rfl, rfl, rfl⟩
def upTo (x k : Nat) : List Bs := ((List.range k).filter (bit x)).map ltr
theorem upTo_succ (x k : Nat) : upTo x (k + 1) = upTo x k ++ (if bit x k then [ltr k] else []) := by
 unfold upTo
 rw [List.range_succ, filter_push, List.map_append]
 by_cases h : bit x k = true
 · rw [if_pos h, if_pos h]; rfl
 · rw [if_neg h, if_neg h]; rfl
theorem upTo_len (x k : Nat) : (upTo x k).length ≤ k := by
 unfold upTo
 rw [List.length_map]
 refine Nat.le_trans (List.length_filter_le _ _) ?_
 rw [List.length_range]; exact Nat.le_refl _
theorem L8i_spec {m N : Nat} (ho : S.on = false) {v0 v5 : V} {l : List Nat} (hl : U16V v0 l) (b : Bool) {n i x : Nat} (hn : n ≤ 14) (hln : n ≤ l.length) (hi : i < n) {nmv : V} (hx : S.next ≤ x) (nk : Ac → St → Rs) (ek : Nat → Ac → St → Rs) :
 ∀ (d k q : Nat) (rv : V) (U : St), k + d = (if b then i + 1 else n) → d < q → Grew (fun _ => False) S U → x < U.next → Bx U x 28 [nmv, rv, sv [], sv []] → TLo U rv (upTo (l.getD i 0) k) S.next →
 ∃ rv' T, L8_33 (ev E0 KD m) N nk ek q v0 (.bool b) v5 (.int .i64 (n : Int)) (.int .i64 (i : Int)) (.ptr x 0) (.int .i64 (k : Int)) U = ek 2 (fr 61 [(0, v0), (1, .bool b), (5, v5), (6, .int .i64 (n : Int)), (7, .int .i64 (i : Int)), (8, .ptr x 0)]) T ∧
  Grew (fun _ => False) S T ∧ x < T.next ∧ Bx T x 28 [nmv, rv', sv [], sv []] ∧ TLo T rv' (refsS b n i (l.getD i 0)) S.next
 | d, k, 0, rv, U, _, hq, _, _, _, _ => by omega
 | 0, k, q + 1, rv, U, hk, hq, g, hxU, hb, ht => by
  refine ⟨rv, U, ?_, g, hxU, hb, ?_⟩
  · have hc : (decide (k < n) && (!b || decide (k ≤ i))) = false := by
     cases b
     · rw [decide_eq_false (show ¬ k < n by simp at hk; omega)]; rfl
     · rw [decide_eq_false (show ¬ k ≤ i by simp at hk; omega)]; simp
    rw [L8_33_eq, cond_eq, hc, ifK_bool, cond_false]
  · have : k = (if b then i + 1 else n) := by omega
    rw [this] at ht
    exact ht
 | d + 1, k, q + 1, rv, U, hk, hq, g, hxU, hb, ht => by
  have onU := g.on.trans ho
  have hkn : k < n := by cases b <;> simp at hk <;> omega
  have hc : (decide (k < n) && (!b || decide (k ≤ i))) = true := by
   rw [decide_eq_true hkn]
   cases b
   · rfl
   · rw [decide_eq_true (show k ≤ i by simp at hk; omega)]; rfl
  have hadd : binV E0 .add 3 false true (.int .i64 (k : Int)) (.int .i64 1) = some (.int .i64 ((k + 1 : Nat) : Int)) := by
   rw [binV_ii, intsV_add, wrap_succ (by omega)]
  have hld : ld1 (.cptr (.int .u16 (l.getD i 0 : Int))) U = some (.int .u16 (l.getD i 0 : Int), U) := rfl
  rw [L8_33_eq, cond_eq, hc, ifK_bool, cond_true, u16_ix hl (by omega), oB, hld, oB]
  dsimp only
  rw [bit_if (by omega)]
  cases hbit : bit (l.getD i 0) k with
  | false =>
   rw [cond_false, hadd, oB]
   exact L8i_spec ho hl b hn hln hi hx nk ek d (k + 1) q rv U (by omega) (by omega) g hxU hb (by rw [upTo_succ, hbit, if_neg (by simp), List.append_nil]; exact ht)
  | true =>
   have l1 : ld1 (.ptr x (0 + 1)) U = some (rv, U) := Bx.ldv onU hb big4 rfl
   obtain ⟨W, w1, w2, t, y, w3, w4, w5⟩ := letter_parts onU (k := k) (by omega)
   have onW := w1.on.trans onU
   obtain ⟨y2, W2, rv', X, p1, p2, p3, p4⟩ := (ht.grew w1).push2 onW (Nat.le_trans g.next w1.next) (Nat.lt_of_le_of_lt (upTo_len _ _) (by omega)) (ltr k)
   have onX := p4.on.trans onW
   have hbW := hb.grew hxU (fun h => h) w1
   have hbX : Bx X x 28 [nmv, rv, sv [], sv []] := hbW.grew (Nat.lt_of_lt_of_le hxU w1.next) (fun h => absurd (row_bx ((ht.grew w1).blk h).2 hbW) (by decide)) p4
   have hst := bx_st4 onX hbX p3.oneV
   have gX : Grew (fun _ => False) S X := Grew.fresh (g.trans w1) (Nat.le_refl _) (p4.mono fun z _ h => ((ht.grew w1).blk h).1)
   have gP := grew_put (s := X) x (bxO 28 [nmv, rv', sv [], sv []])
   have htP : TLo (X.put x (bxO 28 [nmv, rv', sv [], sv []])) rv' (upTo (l.getD i 0) (k + 1)) S.next := by
    rw [upTo_succ, hbit, if_pos rfl]
    rcases p3 with h | ⟨r, h0, h1, h2, h3, h4⟩
    · exact .inl h
    · exact .inr ⟨r, h0, h1.grew h2 (fun e => by subst e; exact absurd (row_bx h1 hbX) (by decide)) gP, h2, h3, h4⟩
   obtain ⟨rv'', T, t1, t2, t3, t4, t5⟩ := L8i_spec (m := m) (N := N) (v5 := v5) ho hl b hn hln hi hx nk ek d (k + 1) q rv' (X.put x (bxO 28 [nmv, rv', sv [], sv []])) (by omega) (by omega) (Grew.own gX hx gP) (Nat.lt_of_lt_of_le (Nat.lt_of_lt_of_le hxU w1.next) p4.next) (bx_put4 x 28 _) htP
   refine ⟨rv'', T, ?_, t2, t3, t4, t5⟩
   rw [cond_true, faPg, oB, l1, oB]
   dsimp only
   rw [w2, oB]
   dsimp only
   rw [w3, oB, w4, oB]
   dsimp only
   rw [w5, oB]
   dsimp only
   rw [p1, oB]
   dsimp only
   rw [p2, oB]
   dsimp only
   rw [oB, hst, oB]
   dsimp only
   rw [hadd, oB]
   exact t1
end
end Go.Proofs.Ytginkdeicmdmaaa.W
namespace Go.Proofs.Ytginkdeicmdmaaa.W
open Go.Proofs.Ytginkdeicmdmaaa.Ev Go.RowKit
theorem smallG_len (b : Bool) (l : List Nat) (n : Nat) : ∀ i, (smallG b l n i).length = i
 | 0 => rfl
 | i + 1 => by
  unfold smallG
  rw [List.length_append, smallG_len b l n i]; rfl
theorem gOf_len {ps : List Pth} {g : List (Bs × List Bs)} (h : gOf ps = g) : ps.length = g.length := by
 rw [← h]; unfold gOf; rw [List.length_map]
section
variable {S T U : St}
theorem build28 (x : Bs) : buildV E0 28 [(0, sv x)] = some (vAgg [sv x, .nilslice, sv [], sv []]) := by kernel_rfl
theorem L8_spec {m : Nat} (ho : S.on = false) {v0 : V} {l : List Nat} (hl : U16V v0 l) (b : Bool) {n : Nat} (hn : n ≤ 14) (hln : n ≤ l.length) (nk : Ac → St → Rs) (ek : Nat → Ac → St → Rs) :
 ∀ (d i q : Nat) (v5 : V) (U : St) (ps : List Pth), i + d = n → d < q → Grew (fun _ => False) S U → PLo U v5 ps S.next → gOf ps = smallG b l n i →
 ∃ v T ps', L8_10 (ev E0 KD m) rounds nk ek q v0 (.bool b) v5 (.int .i64 (n : Int)) (.int .i64 (i : Int)) U = ek 0 (fr 61 [(5, v)]) T ∧ Grew (fun _ => False) S T ∧ PLo T v ps' S.next ∧ gOf ps' = smallG b l n n
 | d, i, 0, v5, U, ps, _, hq, _, _, _ => by omega
 | 0, i, q + 1, v5, U, ps, hi, hq, g, hp, hg => by
  refine ⟨v5, U, ps, ?_, g, hp, ?_⟩
  · rw [L8_10_eq, binV_ii, intsV_lss, dec_ge (by omega), oB, ifK_bool, cond_false]
  · rw [hg, show i = n by omega]
 | d + 1, i, q + 1, v5, U, ps, hi, hq, g, hp, hg => by
  have onU := g.on.trans ho
  have hin : i < n := by omega
  obtain ⟨W, w1, w2, t, y, w3, w4, w5⟩ := letter_parts onU (k := i) (by omega)
  have onW := w1.on.trans onU
  obtain ⟨X, x1, x2, x3, x4⟩ := var_new onW 28 4 (Tr.ofListFrom .nil [(sv []), .nilslice, (sv []), (sv [])] 0) [sv (ltr i), .nilslice, sv [], sv []] rfl (by omega) big4
  have gX := w1.trans x3
  obtain ⟨rv', T, t1, t2, t3, t4, t5⟩ := L8i_spec (m := m) (N := rounds) (v5 := v5) (x := W.next) (nmv := sv (ltr i)) onU hl b hn hln hin w1.next (R8_26 (ev E0 KD m) rounds (R8_14 (ev E0 KD m) rounds (N8_10 (ev E0 KD m) rounds nk ek q) ek) (exB 1 (R8_14 (ev E0 KD m) rounds (N8_10 (ev E0 KD m) rounds nk ek q) ek) ek))
   (exB 2 (R8_26 (ev E0 KD m) rounds (R8_14 (ev E0 KD m) rounds (N8_10 (ev E0 KD m) rounds nk ek q) ek) (exB 1 (R8_14 (ev E0 KD m) rounds (N8_10 (ev E0 KD m) rounds nk ek q) ek) ek)) (exB 1 (R8_14 (ev E0 KD m) rounds (N8_10 (ev E0 KD m) rounds nk ek q) ek) ek)) (if b then i + 1 else n) 0 rounds .nilslice X (Nat.zero_add _) (by unfold rounds; split <;> omega) gX (by omega) x2 .nil
  have onT := t2.on.trans onU
  obtain ⟨y2, W2, v', Y, p1, p2, p3, p4⟩ := (hp.grew t2).push onT (Nat.le_trans g.next t2.next) (by rw [gOf_len hg, smallG_len]; omega) (p := ⟨ltr i, rv', refsS b n i (l.getD i 0)⟩) t5.tl
  have gY : Grew (fun _ => False) S Y := Grew.fresh (g.trans t2) (Nat.le_refl _) (p4.mono fun z _ h => (hp.2 z h).1)
  obtain ⟨v, Z, ps', z1, z2, z3, z4⟩ := L8_spec ho hl b hn hln nk ek d (i + 1) q v' Y (ps ++ [⟨ltr i, rv', refsS b n i (l.getD i 0)⟩]) (by omega) (by omega) gY p3 (by
   unfold gOf smallG
   rw [List.map_append, ← hg]; rfl)
  refine ⟨v, Z, ps', ?_, z2, z3, z4⟩
  have hlA : ldA 4 (.ptr W.next 0) T = some (vAgg [sv (ltr i), rv', sv [], sv []], T) := t4.ldA onT rfl big4
  rw [L8_10_eq, binV_ii, intsV_lss, dec_lt hin, oB, ifK_bool, cond_true, w2, oB]
  dsimp only
  rw [w3, oB, w4, oB]
  dsimp only
  rw [w5, oB]
  dsimp only
  rw [build28, oB, oB, nwP_fst, x1, oB]
  dsimp only
  rw [show (V.int .i64 0) = .int .i64 ((0 : Nat) : Int) from rfl, t1, exB_same, R8_26_eq, hlA, oB]
  dsimp only
  rw [show vAgg [sv (ltr i), rv', sv [], sv []] = vAgg (Pth.cells ⟨ltr i, rv', refsS b n i (l.getD i 0)⟩) from rfl, p1, oB]
  dsimp only
  rw [p2, oB, R8_14_eq, binV_ii, intsV_add, wrap_succ (by omega), oB, N8_10_eq]
  exact z1
theorem min14 (n : Nat) (S : St) : foldK minV (.int .i64 (n : Int)) [(.int .i64 14)] S = some (.int .i64 ((min n 14 : Nat) : Int), S) := by
 rw [foldK_min]
 congr 3
 omega
theorem small_run (m : Nat) (ho : S.on = false) {v0 : V} {l : List Nat} (hl : U16V v0 l) (b : Bool) :
 ∃ v U ps, (ev E0 KD (m + 1)).f 8 [v0, .bool b] S = some (.ret v, U) ∧ Grew (fun _ => False) S U ∧ PLo U v ps S.next ∧ gOf ps = smallG b l (min l.length 14) (min l.length 14) := by
 obtain ⟨v, T, ps', z1, z2, z3, z4⟩ := L8_spec (m := m) ho hl b (n := min l.length 14) (by omega) (by omega) (R8_6 (ev E0 KD m) rounds (finN E0 (ev E0 KD m) Try.f8) noEx) (exB 0 (R8_6 (ev E0 KD m) rounds (finN E0 (ev E0 KD m) Try.f8) noEx) noEx) (min l.length 14) 0 rounds .nilslice S [] (Nat.zero_add _) (by unfold rounds; omega) (Grew.refl _ _) .nil rfl
 refine ⟨v, T, ps', rd8 ?_, z2, z3, z4⟩
 show F8 (ev E0 KD m) rounds v0 (.bool b) S = _
 rw [F8_eq, u16_len hl, oB]
 dsimp only
 rw [min14, oB]
 dsimp only
 rw [show (V.int .i64 0) = .int .i64 ((0 : Nat) : Int) from rfl, z1, exB_same, R8_6_eq]
def saidL (l : List Bs) : Bs := l.flatMap fun a => a ++ [32]
theorem addStr (c d : Bool) {a b : Bs} (h : a.length + b.length < 4611686018427387904) : binV E0 .add 9 c d (sv a) (sv b) = some (sv (a ++ b)) := by
 rw [binV_ss, strOp_add _ _ h]
theorem saidL_cons (a : Bs) (l : List Bs) : saidL (a :: l) = a ++ [32] ++ saidL l := by unfold saidL; rw [List.flatMap_cons]
theorem eqStr (c d : Bool) (a b : Bs) : binV E0 .eql 9 c d (sv a) (sv b) = some (.bool (a == b)) := by
 rw [binV_ss]
 show (some (V.bool (sEq a.length (pack a) b.length (pack b)))) = _
 rw [sEq_eq]
theorem neStr (c d : Bool) (a b : Bs) : binV E0 .neq 9 c d (sv a) (sv b) = some (.bool (!(a == b))) := by
 rw [binV_ss]
 show (some (V.bool (!sEq a.length (pack a) b.length (pack b)))) = _
 rw [sEq_eq]
theorem L11_spec {m N : Nat} (ho : S.on = false) {v : V} {l : List Bs} (hl : TL S v l) (hlen : l.length < 1000000) (nk : Ac → St → Rs) (ek : Nat → Ac → St → Rs) :
 ∀ (rest : List Bs) (i q : Nat) (acc : Bs), l.drop i = rest → rest.length < q → acc.length + (saidL rest).length < 4611686018427387904 →
 L11_6 (ev E0 KD m) N nk ek q v (sv acc) (.int .i64 (i : Int)) S = ek 0 (fr 19 [(3, sv (acc ++ saidL rest))]) S
 | rest, i, 0, acc, _, hq, _ => by omega
 | [], i, q + 1, acc, hi, hq, _ => by
  rw [L11_6_eq, hl.len, oB]
  dsimp only
  rw [binV_ii, intsV_lss, dec_ge (drop_end hi), oB, ifK_bool, cond_false]
  unfold saidL
  rw [List.flatMap_nil, List.append_nil]
 | a :: rest, i, q + 1, acc, hi, hq, hs => by
  obtain ⟨hlt, hf, hrest, hmem⟩ := drop_at hi
  obtain ⟨p, p1, p2⟩ := hl.ld ho (show l[i]? = some a by rw [List.getElem?_eq_getElem hlt, hf])
  rw [saidL_cons, List.length_append, List.length_append, List.length_singleton] at hs
  rw [L11_6_eq, hl.len, oB]
  dsimp only
  rw [binV_ii, intsV_lss, dec_lt hlt, oB, ifK_bool, cond_true, p1, oB, p2, oB]
  dsimp only
  rw [addStr _ _ (by omega), oB, addStr _ _ (by rw [List.length_append]; show _ + 1 < _; omega), oB, binV_ii, intsV_add, wrap_succ (by omega), oB]
  rw [L11_spec ho hl hlen nk ek rest (i + 1) q _ hrest (by simp at hq; omega) (by rw [List.length_append, List.length_append, List.length_singleton]; omega)]
  rw [saidL_cons]
  simp only [List.append_assoc]
theorem said_run (m : Nat) (ho : S.on = false) {v : V} {l : List Bs} (hl : TL S v l) (hlen : l.length < 1000000) (hs : (saidL l).length < 1000000) : (ev E0 KD (m + 1)).f 11 [v] S = some (.ret (sv (saidL l)), S) := rd11 (by
 show F11 (ev E0 KD m) rounds v S = _
 rw [F11_eq, show (V.int .i64 0) = .int .i64 ((0 : Nat) : Int) from rfl, L11_spec ho hl hlen _ _ l 0 rounds [] rfl (by unfold rounds; omega) (by show 0 + _ < _; omega), exB_same, R11_2_eq, List.nil_append])
theorem L13_spec {m N : Nat} (ho : S.on = false) {v : V} {l : List Bs} (hl : TL S v l) (hlen : l.length < 1000000) (x : Bs) (nk : Ac → St → Rs) (ek : Nat → Ac → St → Rs) :
 ∀ (rest : List Bs) (i q : Nat), l.drop i = rest → rest.length < q →
 L13_4 (ev E0 KD m) N nk ek q v (sv x) (.int .i64 (i : Int)) S = if x ∈ rest then some (.ret (.bool true), S) else ek 0 (fr 18 []) S
 | rest, i, 0, _, hq => by omega
 | [], i, q + 1, hi, hq => by
  rw [L13_4_eq, hl.len, oB]
  dsimp only
  rw [binV_ii, intsV_lss, dec_ge (drop_end hi), oB, ifK_bool, cond_false, if_neg (by simp)]
 | a :: rest, i, q + 1, hi, hq => by
  obtain ⟨hlt, hf, hrest, hmem⟩ := drop_at hi
  obtain ⟨p, p1, p2⟩ := hl.ld ho (show l[i]? = some a by rw [List.getElem?_eq_getElem hlt, hf])
  rw [L13_4_eq, hl.len, oB]
  dsimp only
  rw [binV_ii, intsV_lss, dec_lt hlt, oB, ifK_bool, cond_true, p1, oB, p2, oB]
  dsimp only
  rw [eqStr, oB, ifK_bool]
  by_cases h : a = x
  · rw [show (a == x) = true by simp [h], cond_true, if_pos (by simp [h])]
  · rw [show (a == x) = false from beq_false_of_ne h, cond_false, binV_ii, intsV_add, wrap_succ (by omega), oB, L13_spec ho hl hlen x nk ek rest (i + 1) q hrest (by simp at hq; omega)]
    by_cases h2 : x ∈ rest
    · rw [if_pos h2, if_pos (by simp [h2])]
    · rw [if_neg h2, if_neg (by simp [h2, Ne.symm h])]
theorem has_run (m : Nat) (ho : S.on = false) {v : V} {l : List Bs} (hl : TL S v l) (hlen : l.length < 1000000) (x : Bs) : (ev E0 KD (m + 1)).f 13 [v, sv x] S = some (.ret (.bool (decide (x ∈ l))), S) := rd13 (by
 show F13 (ev E0 KD m) rounds v (sv x) S = _
 rw [F13_eq, show (V.int .i64 0) = .int .i64 ((0 : Nat) : Int) from rfl, L13_spec ho hl hlen x _ _ l 0 rounds rfl (by unfold rounds; omega)]
 by_cases h : x ∈ l
 · rw [if_pos h, decide_eq_true h]
 · rw [if_neg h, exB_same, R13_1_eq, decide_eq_false h])
end
end Go.Proofs.Ytginkdeicmdmaaa.W
namespace Go.Proofs.Ytginkdeicmdmaaa.W
open Go.Proofs.Ytginkdeicmdmaaa.Ev Go.RowKit
def closedB (ps : List Pth) : Bool := ps.all fun p => p.refs.all fun r => decide (r ∈ names ps)
theorem lkP_dec (r : Bs) (ps : List Pth) : decide (r ∈ names ps) = (lkP r ps).isSome := by
 cases h : lkP r ps with
 | none => rw [decide_eq_false (lkP_none.1 h)]; rfl
 | some q => rw [decide_eq_true (lk_names h)]; rfl
section
variable {S T U : St}
theorem lookAll_run (ho : S.on = false) {es : List ME} {ps : List Pth} (hm : esKV es = kvS (ps.map Pth.kv)) {v : V} {l : List Bs} (hl : TL S v l) : ∀ (d i : Nat), i + d = l.length → lookAll es v d i S = some ((l.drop i).all fun r => decide (r ∈ names ps), S)
 | 0, i, hi => by
  rw [List.drop_of_length_le (by omega)]
  rfl
 | d + 1, i, hi => by
  have hlt : i < l.length := by omega
  obtain ⟨r, o, L, h1, h2, h3⟩ := hl.ix (List.getElem?_eq_getElem hlt)
  have hel : elemPtr 1 i v = some (.ptr r o) := by
   have : ixP 1 v (.int .i64 (i : Int)) = elemPtr 1 i v := by unfold ixP; rw [natOf_cast]; rfl
   rw [← this]; exact h1
  have hld : ld S r o = some (sv l[i], S) := h2.ld1 ho h3
  unfold lookAll
  rw [hel, oB]
  simp only
  rw [hld, oB]
  dsimp only
  rw [show keyOk .string (sv l[i]) = true from rfl, cond_true, mfind_str l[i] (ps.map Pth.kv) es 0 hm, lkS_kv, oB, List.drop_eq_getElem_cons hlt, List.all_cons, lkP_dec]
  cases hq : lkP l[i] ps with
  | none => rfl
  | some q =>
   simp only [Option.map_some, Option.isSome_some, Bool.true_and]
   exact lookAll_run ho hm hl d (i + 1) (by omega)
theorem rowIn_run (ho : S.on = false) {es : List ME} {ps : List Pth} (hm : esKV es = kvS (ps.map Pth.kv)) {v : V} {l : List Bs} (hl : TL S v l) (hlen : l.length < 1000000) : rowIn es v S = some (l.all fun r => decide (r ∈ names ps), S) := by
 have h := lookAll_run ho hm hl l.length 0 (Nat.zero_add _)
 have hn := hl.notStr
 have hL := hl.lenV
 rw [List.drop_zero] at h
 unfold rowIn
 cases v <;> first
  | exact absurd rfl (hn _ _)
  | (simp only [hL, oB]; rw [blt_true.2 (by omega), cond_true]; exact h)
theorem closedAll_run (ho : S.on = false) {es : List ME} {ps : List Pth} (hm : esKV es = kvS (ps.map Pth.kv)) : ∀ (qs : List Pth) (l : List ME), esKV l = kvS (qs.map Pth.kv) → (∀ p ∈ qs, TL S p.rv p.refs) → (∀ p ∈ qs, p.refs.length < 1000000) →
 closedAll es l S = some (qs.all fun p => p.refs.all fun r => decide (r ∈ names ps), S)
 | [], [], _, _, _ => rfl
 | [], e :: l, h, _, _ => by simp [esKV, kvS] at h
 | p :: qs, [], h, _, _ => by simp [esKV, kvS] at h
 | p :: qs, e :: l, h, hr, hs => by
  simp only [esKV, kvS, List.map_cons, List.cons.injEq, pM] at h
  obtain ⟨⟨_, h2⟩, h3⟩ := h
  have h2' : e.v = p.rv := h2
  unfold closedAll
  rw [h2', rowIn_run ho hm (hr p (List.mem_cons_self ..)) (hs p (List.mem_cons_self ..)), oB]
  dsimp only
  rw [closedAll_run ho hm qs l h3 (fun q hq => hr q (List.mem_cons_of_mem _ hq)) (fun q hq => hs q (List.mem_cons_of_mem _ hq)), oB]
  rfl
theorem closed_run (n : Nat) (ho : S.on = false) {v : V} {l : List Pth} (hp : PL S v l) (hF : Fit l) : ∃ U, (ev E0 KD (n + 1)).f 12 [v] S = some (.ret (.bool (closedB (refsOf l))), U) ∧ Grew (fun _ => False) S U := by
 have hF1 := hF.len
 obtain ⟨A, m, a1, a2, a3, a4, a5⟩ := refs_runK (K := fun _ => none) rfl 4 ho hp (by omega)
 have onA := a2.on.trans ho
 obtain ⟨es, c, h1, h2, h3, h4⟩ := a5
 have gD := grew_nw onA (fun _ => False) .dead
 have onD : (nw A .dead).on = false := nw_on onA _
 have hall := closedAll_run (S := nw A .dead) onD h2 (refsOf l) es h2 (fun p hq => ((hp.2 p (refsOf_mem hq)).grew0 a2).grew0 gD) (fun p hq => Nat.lt_trans (hF.refs p (refsOf_mem hq)) (by decide))
 refine ⟨nw A .dead, ?_, a2.trans gD⟩
 rw [ev_known (K := KD) (f := 12) (g := kfClosed) (by rfl)]
 show ((ev E0 (fun _ => none) 5).f 28 [v] S).bind _ = _
 rw [a1, oB]
 show closedK (.map m) A = _
 unfold closedK
 simp only
 rw [getO_off onA h1, oB]
 simp only
 rw [h3, ble_true.2 h4, Bool.and_self, cond_true, oB]
 dsimp only
 rw [hall, oB]
 rfl
theorem works_run (n : Nat) (S : St) : (ev E0 KD (n + 1)).f 14 [] S = some (.ret (.bool true), S) := by
 rw [ev_known (K := KD) (f := 14) (g := kfTrue) (by rfl)]
 exact kfTrue_run S
end
end Go.Proofs.Ytginkdeicmdmaaa.W
namespace Go.Proofs.Ytginkdeicmdmaaa.W
open Go.Proofs.Ytginkdeicmdmaaa.Ev Go.RowKit
section
variable {S T U : St}
def Rw (S : St) (v : V) (z : Nat) (L : List (Tr V)) : Prop := lenV v = some L.length ∧ firstV z L.length v S = some (L, S)
theorem TL.rw (ho : S.on = false) {v : V} {l : List Bs} (h : TL S v l) : Rw S v 1 (rowOf l) := by
 refine ⟨by rw [rowOf_length]; exact h.lenV, ?_⟩
 rw [rowOf_length]
 rcases h with ⟨rfl, rfl | rfl | ⟨r, c, rfl⟩⟩ | ⟨r, off, L, h1, h2, h3, h4, h5⟩
 · rfl
 · rfl
 · rfl
 · have := h1.ldN ho l.length off (by rw [rowOf_length]; exact h3)
   rw [Nat.mul_one] at this
   have e : ((rowOf L).drop off).take l.length = rowOf l := by
    unfold rowOf
    rw [← List.map_drop, ← List.map_take, h4]
   rw [e] at this
   rcases h5 with rfl | ⟨c, rfl⟩ <;> exact this
theorem PL.rw (ho : S.on = false) {v : V} {l : List Pth} (h : PL S v l) : Rw S v 4 (l.map treeP) := by
 refine ⟨by rw [List.length_map]; exact h.lenV, ?_⟩
 rcases h.1 with ⟨rfl, rfl⟩ | ⟨r, rfl, h1, h2, h3⟩
 · rfl
 · have := h1.ldN ho (l.map treeP).length 0 (by omega)
   rw [Nat.zero_mul, List.drop_zero, List.take_of_length_le (Nat.le_refl _)] at this
   exact this
end
end Go.Proofs.Ytginkdeicmdmaaa.W
namespace Go.Proofs.Ytginkdeicmdmaaa.W
theorem foldl_addP : ∀ (l out : List Pth), (names (out ++ l)).Nodup → l.foldl addP out = out ++ l
 | [], out, _ => by simp
 | p :: l, out, h => by
  have hp : lkP p.nm out = none := by
   rw [lkP_none]
   intro hm
   unfold names at h hm
   rw [List.map_append, List.nodup_append] at h
   exact h.2.2 _ hm p.nm (by simp) rfl
  have e : addP out p = out ++ [p] := by unfold addP; rw [hp]; rfl
  rw [List.foldl_cons, e, foldl_addP l (out ++ [p]) (by rw [List.append_assoc]; exact h), List.append_assoc]; rfl
theorem refsOf_id {l : List Pth} (h : (names l).Nodup) : refsOf l = l := by
 unfold refsOf
 rw [foldl_addP l [] (by exact h), List.nil_append]
theorem mem_closL {l : List Pth} {f : List Bs} {a : Bs} : a ∈ closL l f ↔ Rch (refsOf l) f a := by
 unfold closL
 rw [mem_sortB, mem_reachL]
theorem closL_pw (l : List Pth) (f : List Bs) : (closL l f).Pairwise (· < ·) := sortB_pw (reachL_nd _ _)
theorem mem_deadL {l : List Pth} {f : List Bs} {a : Bs} : a ∈ deadL l f ↔ a ∈ names (refsOf l) ∧ ¬ Rch (refsOf l) f a := by
 unfold deadL
 rw [List.mem_filter, mem_sortB]
 simp only [Bool.not_eq_true', decide_eq_false_iff_not, mem_reachL]
theorem deadL_pw (l : List Pth) (f : List Bs) : (deadL l f).Pairwise (· < ·) := (sortB_pw (refsOf_nd l)).filter _
theorem closL_ext {l m : List Pth} {f g : List Bs} (h : ∀ a, Rch (refsOf l) f a ↔ Rch (refsOf m) g a) : closL l f = closL m g :=
 rise_eq (closL_pw _ _) (closL_pw _ _) fun a => by rw [mem_closL, mem_closL, h]
theorem lt_nodup {l : List Bs} (h : l.Pairwise (· < ·)) : l.Nodup := h.imp fun hab e => by subst e; exact List.lt_irrefl _ hab
theorem clos_dead_len (l : List Pth) (f : List Bs) : (closL l f).length + (deadL l f).length = (refsOf l).length := by
 have h1 : (closL l f ++ deadL l f).Perm (names (refsOf l)) := by
  refine (List.perm_ext_iff_of_nodup ?_ (refsOf_nd l)).2 fun a => ?_
  · rw [List.nodup_append]
    exact ⟨lt_nodup (closL_pw l f), lt_nodup (deadL_pw l f), fun a ha b hb e => by subst e; exact (mem_deadL.1 hb).2 (mem_closL.1 ha)⟩
  · rw [List.mem_append, mem_closL, mem_deadL]
    by_cases h : Rch (refsOf l) f a
    · simp [h, h.mem]
    · simp [h]
 have := h1.length_eq
 rw [List.length_append] at this
 unfold names at this
 rwa [List.length_map] at this
theorem Rch.mono {ps : List Pth} {f g : List Bs} (h : ∀ a ∈ f, a ∈ names ps → Rch ps g a) {a : Bs} (ha : Rch ps f a) : Rch ps g a := by
 induction ha with
 | root h1 h2 => exact h _ h1 h2
 | step _ hq hr hn ih => exact .step ih hq hr hn
theorem rch_one {ps : List Pth} {f : List Bs} {a : Bs} : Rch ps f a ↔ ∃ r ∈ f, Rch ps [r] a := by
 constructor
 · intro h
   induction h with
   | root h1 h2 => exact ⟨_, h1, .root (by simp) h2⟩
   | step _ hq hr hn ih =>
    obtain ⟨r, h1, h2⟩ := ih
    exact ⟨r, h1, .step h2 hq hr hn⟩
 · rintro ⟨r, h1, h2⟩
   exact h2.mono fun a ha hn => .root (by simp at ha; subst ha; exact h1) hn
theorem rch_clos {l : List Pth} {f : List Bs} {a : Bs} : Rch (refsOf l) (closL l f) a ↔ Rch (refsOf l) f a := by
 constructor
 · intro h
   exact h.mono fun b hb _ => mem_closL.1 hb
 · intro h
   exact .root (mem_closL.2 h) h.mem
end Go.Proofs.Ytginkdeicmdmaaa.W
namespace Go.Proofs.Ytginkdeicmdmaaa.W
open Go.Proofs.Ytginkdeicmdmaaa.Ev Go.RowKit
theorem smallG_names (b : Bool) (l : List Nat) (n : Nat) : ∀ i, (smallG b l n i).map (·.1) = (List.range i).map ltr
 | 0 => rfl
 | i + 1 => by
  unfold smallG
  rw [List.map_append, smallG_names b l n i, List.range_succ, List.map_append]; rfl
theorem smallG_mem {b : Bool} {l : List Nat} {n : Nat} : ∀ {i : Nat} {g : Bs × List Bs}, g ∈ smallG b l n i → ∃ j, j < i ∧ g = (ltr j, refsS b n j (l.getD j 0))
 | 0, g, h => by cases h
 | i + 1, g, h => by
  unfold smallG at h
  rcases List.mem_append.1 h with h | h
  · obtain ⟨j, h1, h2⟩ := smallG_mem h
    exact ⟨j, by omega, h2⟩
  · simp at h; exact ⟨i, by omega, h⟩
theorem smallG_get (b : Bool) (l : List Nat) (n : Nat) {j : Nat} : ∀ {i : Nat}, j < i → (smallG b l n i)[j]? = some (ltr j, refsS b n j (l.getD j 0))
 | 0, h => by omega
 | i + 1, h => by
  unfold smallG
  by_cases hj : j < i
  · rw [List.getElem?_append_left (by rw [smallG_len]; exact hj), smallG_get b l n hj]
  · have : j = i := by omega
    subst this
    rw [List.getElem?_append_right (by rw [smallG_len]; exact Nat.le_refl _), smallG_len, Nat.sub_self]; rfl
structure Small (ps : List Pth) (b : Bool) (l : List Nat) (n : Nat) : Prop where
 g : gOf ps = smallG b l n n
 n14 : n ≤ 14
section
variable {ps : List Pth} {b : Bool} {l : List Nat} {n : Nat}
theorem Small.len (h : Small ps b l n) : ps.length = n := by rw [gOf_len h.g, smallG_len]
theorem Small.names (h : Small ps b l n) : names ps = (List.range n).map ltr := by
 rw [← smallG_names b l n n, ← h.g]
 unfold gOf W.names
 rw [List.map_map]; rfl
theorem Small.nd (h : Small ps b l n) : (W.names ps).Nodup := by
 have h14 := h.n14
 rw [h.names]
 unfold List.Nodup
 rw [List.pairwise_map]
 refine List.Pairwise.imp_of_mem (fun {x y} hx hy hlt e => ?_) List.pairwise_lt_range
 rw [List.mem_range] at hx hy
 have := ltr_inj (by omega) (by omega) e
 omega
theorem Small.get (h : Small ps b l n) {i : Nat} (hi : i < n) : ∃ p, ps[i]? = some p ∧ p.nm = ltr i ∧ p.refs = refsS b n i (l.getD i 0) := by
 have h1 := smallG_get b l n (j := i) (i := n) hi
 rw [← h.g] at h1
 unfold gOf at h1
 rw [List.getElem?_map] at h1
 cases hp : ps[i]? with
 | none => rw [hp] at h1; cases h1
 | some p =>
  rw [hp] at h1
  simp only [Option.map_some, oS, pM] at h1
  exact ⟨p, rfl, h1.1, h1.2⟩
theorem Small.mem (h : Small ps b l n) {p : Pth} (hp : p ∈ ps) : ∃ i, i < n ∧ p.nm = ltr i ∧ p.refs = refsS b n i (l.getD i 0) := by
 have : (p.nm, p.refs) ∈ gOf ps := by unfold gOf; exact List.mem_map.2 ⟨p, hp, rfl⟩
 rw [h.g] at this
 obtain ⟨j, h1, h2⟩ := smallG_mem this
 simp only [pM] at h2
 exact ⟨j, h1, h2.1, h2.2⟩
theorem mem_refsS {b : Bool} {n i x : Nat} {r : Bs} (hi : i < n) (h : r ∈ refsS b n i x) : ∃ k, k < n ∧ r = ltr k ∧ (b = true → k ≤ i) ∧ bit x k = true := by
 unfold refsS at h
 rw [List.mem_map] at h
 obtain ⟨k, h1, rfl⟩ := h
 rw [List.mem_filter, List.mem_range] at h1
 cases b with
 | false => exact ⟨k, by simpa using h1.1, rfl, by simp, h1.2⟩
 | true => exact ⟨k, by simp at h1; omega, rfl, fun _ => by simp at h1; omega, h1.2⟩
theorem refsS_len {b : Bool} {n i x : Nat} (hi : i < n) : (refsS b n i x).length ≤ n := by
 unfold refsS
 rw [List.length_map]
 refine Nat.le_trans (List.length_filter_le _ _) ?_
 rw [List.length_range]
 cases b <;> simp <;> omega
theorem Small.closed (h : Small ps b l n) {p : Pth} (hp : p ∈ ps) {r : Bs} (hr : r ∈ p.refs) : r ∈ W.names ps := by
 obtain ⟨i, h1, h2, h3⟩ := h.mem hp
 rw [h3] at hr
 obtain ⟨k, k1, rfl, _⟩ := mem_refsS h1 hr
 rw [h.names]
 exact List.mem_map.2 ⟨k, List.mem_range.2 k1, rfl⟩
theorem Small.fit (h : Small ps b l n) : Fit ps := by
 have h14 := h.n14
 refine ⟨by rw [h.len]; omega, fun p hp => ?_, fun p hp => ?_⟩
 · obtain ⟨i, _, h2, _⟩ := h.mem hp
   rw [h2]; show 1 < _; omega
 · obtain ⟨i, h1, _, h3⟩ := h.mem hp
   rw [h3]
   have := refsS_len (b := b) (x := l.getD i 0) h1
   omega
theorem Small.refs (h : Small ps b l n) : refsOf ps = ps := refsOf_id h.nd
theorem mem_names {ps : List Pth} {a : Bs} : a ∈ W.names ps ↔ ∃ p ∈ ps, p.nm = a := by unfold W.names; rw [List.mem_map]
end
section
variable {S T U : St}
theorem TLo.push3 (ho : S.on = false) {v : V} {l : List Bs} {N : Nat} (h : TLo S v l N) (hN : N ≤ S.next) (hl : l.length < 100000) (a : Bs) :
 ∃ y W v' U, bsP 9 1 1 (Go.Proofs.Ytginkdeicmdmaaa.Ev.one (sv [])) [(0, sv a)] S = some (y, W) ∧ apP 9 1 16 v y W = some (v', U) ∧ TLo U v' (l ++ [a]) N ∧ Grew (fun x => blkOf v = some x) S U ∧ ∀ r, blkOf v' = some r → S.next ≤ r := by
 obtain ⟨W, h1, h2, h3, h4⟩ := bsP_one ho 9 (Go.Proofs.Ytginkdeicmdmaaa.Ev.one (sv [])) (oneV_sv a)
 have on1 := h3.on.trans ho
 have hlm : (l ++ [a]).length = l.length + 1 := by rw [List.length_append]; rfl
 rcases h with ⟨rfl, rfl⟩ | ⟨r, rfl, hr, hr2, hr3, h0⟩
 · obtain ⟨U, k1, k2, k3, k4⟩ := ap1_first (B := 16) on1 h2 (by unfold maxCells; omega)
   exact ⟨_, W, _, U, h1, k1, .inr ⟨W.next, rfl, k2, by omega, by omega, by simp⟩, (h3.trans k3).mono fun _ _ h => h.elim, fun r hr => by cases hr; omega⟩
 · have hrow := hr.grew hr2 (fun h => h) h3
   obtain ⟨U, k1, k2, k3, k4⟩ := ap1_more (B := 16) on1 h2 hrow (by rw [rowOf_length]; unfold maxCells; omega) (by rw [rowOf_length]; unfold big; omega)
   rw [rowOf_length] at k1
   refine ⟨_, W, _, U, h1, k1, .inr ⟨W.next, by rw [hlm], ?_, by omega, by omega, by omega⟩, (h3.mono fun _ _ h => h.elim).trans (k3.mono fun x _ e => by subst e; rfl), fun r hr => by cases hr; omega⟩
   rw [rowOf_append]
   exact k2
theorem TLo.lt {v : V} {l : List Bs} {N r : Nat} (h : TLo S v l N) (hr : blkOf v = some r) : r < S.next := by
 rcases h with ⟨_, rfl⟩ | ⟨r', rfl, _, h2, _⟩
 · cases hr
 · cases hr; exact h2
theorem TLo.grewW {W : Nat → Prop} {v : V} {l : List Bs} {N : Nat} (h : TLo S v l N) (g : Grew W S U) (hw : ∀ r, blkOf v = some r → ¬ W r) : TLo U v l N := by
 rcases h with h | ⟨r, rfl, h1, h2, h3⟩
 · exact .inl h
 · exact .inr ⟨r, rfl, h1.grew h2 (hw r rfl) g, Nat.lt_of_lt_of_le h2 g.next, h3⟩
structure Two (S : St) (x y : V) (lx ly : List Bs) (N : Nat) : Prop where
 tx : TLo S x lx N
 ty : TLo S y ly N
 ne : ∀ r, blkOf x = some r → blkOf y ≠ some r
theorem Two.symm {x y : V} {lx ly : List Bs} {N : Nat} (h : Two S x y lx ly N) : Two S y x ly lx N := ⟨h.ty, h.tx, fun r h1 h2 => h.ne r h2 h1⟩
theorem Two.push (ho : S.on = false) {x y : V} {lx ly : List Bs} {N : Nat} (h : Two S x y lx ly N) (hN : N ≤ S.next) (hl : lx.length < 100000) (a : Bs) :
 ∃ y0 W x' U, bsP 9 1 1 (Go.Proofs.Ytginkdeicmdmaaa.Ev.one (sv [])) [(0, sv a)] S = some (y0, W) ∧ apP 9 1 16 x y0 W = some (x', U) ∧ Two U x' y (lx ++ [a]) ly N ∧ Grew (fun x => N ≤ x) S U := by
 obtain ⟨y0, W, x', U, h1, h2, h3, h4, h5⟩ := h.tx.push3 ho hN hl a
 refine ⟨y0, W, x', U, h1, h2, ⟨h3, h.ty.grewW h4 fun r hr hx => h.ne r hx hr, fun r hr hy => ?_⟩, h4.mono fun z _ hz => (h.tx.blk hz).1⟩
 have := h5 r hr
 have := h.ty.lt hy
 omega
theorem ld1_lg (ho : S.on = false) {b i : Nat} {v : V} (h : ld1 (.ptr b i) S = some (v, S)) (l : List LE) : ld1 (.ptr b i) (S.lg l) = some (v, S.lg (⟨b, i, i + 1, false⟩ :: l)) := by
 have h' : ld S b i = some (v, S) := h
 show ld (S.lg l) b i = _
 unfold ld at h' ⊢
 rw [show (S.lg l).heap = S.heap from rfl]
 split at h'
 · rename_i e esz n ro c hb
   cases hc : (Nat.blt i (esz * n) && Nat.blt (esz * n) big) with
   | false => rw [hc] at h'; cases h'
   | true =>
    rw [hc] at h'
    simp only [cond_true, oI, oS, pM] at h' ⊢
    obtain ⟨t, h1, w, h2, rfl, _⟩ := h'
    exact ⟨t, h1, w, h2, rfl, rfl⟩
 · cases h'
theorem TL.ldOn (ho : S.on = false) {v : V} {l : List Bs} (h : TL S v l) {i : Nat} {a : Bs} (ha : l[i]? = some a) (L : List LE) : ∃ p r o, ixP 1 v (.int .i64 (i : Int)) = some p ∧ ld1 p (S.lg L) = some (sv a, S.lg (⟨r, o, o + 1, false⟩ :: L)) := by
 obtain ⟨r, o, M, h1, h2, h3⟩ := h.ix ha
 exact ⟨_, r, o, h1, ld1_lg ho (show ld1 (.ptr r o) S = _ from h2.ld1 ho h3) L⟩
def Rd (L L' : List LE) : Prop := ∀ e ∈ L', e ∈ L ∨ e.w = false
theorem L13_on {m N : Nat} (ho : S.on = false) {v : V} {l : List Bs} (hl : TL S v l) (hlen : l.length < 1000000) (x : Bs) (nk : Ac → St → Rs) (ek : Nat → Ac → St → Rs) :
 ∀ (rest : List Bs) (i q : Nat) (L : List LE), l.drop i = rest → rest.length < q →
 ∃ L', L13_4 (ev E0 KD m) N nk ek q v (sv x) (.int .i64 (i : Int)) (S.lg L) = (if x ∈ rest then some (.ret (.bool true), S.lg L') else ek 0 (fr 18 []) (S.lg L')) ∧ Rd L L'
 | rest, i, 0, L, _, hq => by omega
 | [], i, q + 1, L, hi, hq => by
  refine ⟨L, ?_, fun e h => .inl h⟩
  rw [L13_4_eq, hl.len, oB]
  dsimp only
  rw [binV_ii, intsV_lss, dec_ge (drop_end hi), oB, ifK_bool, cond_false, if_neg (by simp)]
 | a :: rest, i, q + 1, L, hi, hq => by
  obtain ⟨hlt, hf, hrest, hmem⟩ := drop_at hi
  obtain ⟨p, r, o, p1, p2⟩ := hl.ldOn ho (show l[i]? = some a by rw [List.getElem?_eq_getElem hlt, hf]) L
  rw [L13_4_eq, hl.len, oB]
  dsimp only
  rw [binV_ii, intsV_lss, dec_lt hlt, oB, ifK_bool, cond_true, p1, oB, p2, oB]
  dsimp only
  rw [eqStr, oB, ifK_bool]
  by_cases h : a = x
  · rw [show (a == x) = true by simp [h], cond_true]
    refine ⟨_, by rw [if_pos (by simp [h])], fun e he => ?_⟩
    rcases List.mem_cons.1 he with rfl | he
    · exact .inr rfl
    · exact .inl he
  · rw [show (a == x) = false from beq_false_of_ne h, cond_false, binV_ii, intsV_add, wrap_succ (by omega), oB]
    obtain ⟨L', h1, h2⟩ := L13_on ho hl hlen x nk ek rest (i + 1) q (⟨r, o, o + 1, false⟩ :: L) hrest (by simp at hq; omega)
    refine ⟨L', ?_, fun e he => ?_⟩
    · rw [h1]
      by_cases h2 : x ∈ rest
      · rw [if_pos h2, if_pos (by simp [h2])]
      · rw [if_neg h2, if_neg (by simp [h2, Ne.symm h])]
    · rcases h2 e he with h3 | h3
      · rcases List.mem_cons.1 h3 with rfl | h3
        · exact .inr rfl
        · exact .inl h3
      · exact .inr h3
theorem has_on (m : Nat) (ho : S.on = false) {v : V} {l : List Bs} (hl : TL S v l) (hlen : l.length < 1000000) (x : Bs) : ∃ L', (ev E0 KD (m + 1)).f 13 [v, sv x] (S.lg []) = some (.ret (.bool (decide (x ∈ l))), S.lg L') ∧ ∀ e ∈ L', e.w = false := by
 obtain ⟨L', h1, h2⟩ := L13_on (m := m) (N := rounds) ho hl hlen x (R13_1 (ev E0 KD m) rounds (finN E0 (ev E0 KD m) Try.f13) noEx) (exB 0 (R13_1 (ev E0 KD m) rounds (finN E0 (ev E0 KD m) Try.f13) noEx) noEx) l 0 rounds [] rfl (by unfold rounds; omega)
 refine ⟨L', rd13 ?_, fun e he => (h2 e he).resolve_left (by simp)⟩
 show F13 (ev E0 KD m) rounds v (sv x) (S.lg []) = _
 rw [F13_eq, show (V.int .i64 0) = .int .i64 ((0 : Nat) : Int) from rfl, h1]
 by_cases h : x ∈ l
 · rw [if_pos h, decide_eq_true h]
 · rw [if_neg h, exB_same, R13_1_eq, decide_eq_false h]
theorem relog_same {T : St} (ho : S.on = false) (hT : T.on = false) (hl : T.log = S.log) (l : List LE) (ls : List (List LE)) : relog S (T.lg l) ls = T := by
 unfold relog
 rw [ho]
 cases T
 simp only at hT hl
 subst hT; subst hl
 rfl
end
end Go.Proofs.Ytginkdeicmdmaaa.W
namespace Go.Proofs.Ytginkdeicmdmaaa.W
open Go.Proofs.Ytginkdeicmdmaaa.Ev Go.RowKit
theorem neBool (a b : Bool) : binV E0 .neq 4 false false (.bool a) (.bool b) = some (.bool (a != b)) := by cases a <;> cases b <;> kernel_rfl
theorem eqBool (a b : Bool) : binV E0 .eql 4 false false (.bool a) (.bool b) = some (.bool (a == b)) := by cases a <;> cases b <;> kernel_rfl
section
variable {S T U : St}
end
end Go.Proofs.Ytginkdeicmdmaaa.W
namespace Go.Proofs.Ytginkdeicmdmaaa.W
open Go.Proofs.Ytginkdeicmdmaaa.Ev Go.RowKit
theorem saidL_len : ∀ {l : List Bs}, (∀ a ∈ l, a.length ≤ 2) → (saidL l).length ≤ 3 * l.length
 | [], _ => by simp [saidL]
 | a :: l, h => by
  have h1 := h a (List.mem_cons_self ..)
  have h2 := saidL_len (l := l) fun b hb => h b (List.mem_cons_of_mem _ hb)
  rw [saidL_cons, List.length_append, List.length_append, List.length_cons]
  simp only [List.length_cons, List.length_nil]
  omega
theorem closL_len (l : List Pth) (f : List Bs) : (closL l f).length ≤ l.length := by
 have h1 := clos_dead_len l f
 have h2 := refsOf_len l
 omega
theorem closL_short {l : List Pth} {f : List Bs} (h : ∀ p ∈ l, p.nm.length ≤ 2) : ∀ a ∈ closL l f, a.length ≤ 2 := fun a ha => by
 obtain ⟨p, hp, rfl⟩ := mem_names.1 (mem_closL.1 ha).mem
 exact h p (refsOf_mem hp)
section
variable {ps : List Pth} {b : Bool} {l : List Nat} {n : Nat}
theorem Small.short (h : Small ps b l n) : ∀ p ∈ ps, p.nm.length ≤ 2 := fun p hp => by
 obtain ⟨i, _, h2, _⟩ := h.mem hp
 rw [h2]; show 1 ≤ 2; omega
end
section
variable {S T U : St}
theorem neqInt (a c : Nat) : binV E0 .neq 3 false false (.int .i64 (a : Int)) (.int .i64 (c : Int)) = some (.bool (!decide (a = c))) := by
 rw [binV_ii, intsV_neq]
 congr 3
 rw [decide_eq_decide]; omega
end
end Go.Proofs.Ytginkdeicmdmaaa.W
namespace Go.Proofs.Ytginkdeicmdmaaa.W
open Go.Proofs.Ytginkdeicmdmaaa.Ev Go.RowKit Go.Proofs
theorem sok44 : SortedOk Try.prog 44 [53, 54] 9 := sortedOk_of Try.sorted44 Try.sort52 rfl [53, 54] fun g hg => by
 simp only [List.mem_cons, List.not_mem_nil, or_false] at hg
 rcases hg with rfl | rfl
 · exact ⟨Try.keys45_ren, { Try.keys45 with }, rfl, rfl⟩
 · exact ⟨Try.keys47_ren, { Try.keys47 with }, rfl, rfl⟩
theorem okA : KnOk Try.prog E0 KA := knOk_nil.add (sorted_well sok44)
theorem okB : KnOk Try.prog E0 KB := okA.add closed_well
theorem glob0 : ∀ g, E0.glob.get g = none := fun _ => rfl
theorem works_runs : saysTrue ((ev E0 KB 400).f 14 [] s0) = true := by decide +kernel
theorem kn14 : KnWell Try.prog E0 14 kfTrue := by
 refine ⟨specKF_loc, fun w0 ρ s w args cargs e t hR hv hg => ?_⟩
 unfold kfTrue specKF at hg
 simp only at hg
 by_cases hx : ∃ x : Unit, ([] : List V) = args
 · rw [dif_pos hx] at hg
   simp only [oS, pM] at hg
   obtain ⟨rfl, rfl⟩ := hg
   obtain ⟨_, rfl⟩ := hx
   obtain ⟨l⟩ := cargs
   cases hv
   exact (closed_walk E0_ok okB glob0 works_runs w).mono fun ce w' ⟨h1, h2⟩ => ⟨ρ, .bool true, h1, Rho.le_refl ρ, .bool true, hR.grown h2⟩
 · rw [dif_neg hx] at hg; cases hg
theorem okD : KnOk Try.prog E0 KD := okB.add kn14
def frz (W : World) : Rho := ⟨fun _ => none, fun k => W.heap[k]?⟩
theorem relF (W : World) : Rel E0 (base0 W) (frz W) s0 W :=
 ⟨⟨rfl, rfl, rfl, Nat.le_refl _, fun _ _ => rfl⟩, fun _ _ => rfl, Nat.le_refl _, fun b o h => by simp [s0, Tr.get_nil] at h, fun b b' o o' cb sh sz sh' sz' h => by simp [s0, Tr.get_nil] at h, fun g b h => (by rw [glob0] at h; cases h), fun k o h => h, fun b o cb sh sz h => (by simp [s0, Tr.get_nil] at h), fun k o h _ => trivial⟩
end Go.Proofs.Ytginkdeicmdmaaa.W
namespace Go.Proofs.Ytginkdeicmdmaaa.W
open Go.Proofs.Ytginkdeicmdmaaa.Ev Go.RowKit
section
variable {S T U : St}
end
theorem u22 : Try.prog.underlying 22 = some (.slice 23) := by kernel_rfl
theorem u23 : Try.prog.underlying 23 = some (.int .u16) := by kernel_rfl
theorem c23 : Try.prog.cellsOf 23 = 1 := by kernel_rfl
theorem u16_nat {n : Int} (h : (Lit.int .u16 n).wf = true) : ∃ k : Nat, n = (k : Int) := by
 unfold Lit.wf at h
 simp only [Bool.and_eq_true, decide_eq_true_eq] at h
 have e1 : IntKind.u16.min = 0 := by decide
 rw [e1] at h
 exact ⟨n.toNat, by omega⟩
theorem mapM_range_some {α : Type} {f : Nat → Option α} : ∀ (n k : Nat) {r : List α}, ((List.range' k n).mapM f) = some r → r.length = n ∧ ∀ i, i < n → ∃ y, r[i]? = some y ∧ f (k + i) = some y
 | 0, k, r, h => by
  simp at h; subst h
  exact ⟨rfl, fun i hi => by omega⟩
 | n + 1, k, r, h => by
  rw [List.range'_succ, List.mapM_cons] at h
  simp only [Option.bind_eq_bind, oI, Option.pure_def, oS] at h
  obtain ⟨y, hy, r', hr', rfl⟩ := h
  obtain ⟨h1, h2⟩ := mapM_range_some n (k + 1) hr'
  refine ⟨by simp [h1], fun i hi => ?_⟩
  cases i with
  | zero => exact ⟨y, rfl, hy⟩
  | succ i =>
   obtain ⟨z, hz1, hz2⟩ := h2 i (by omega)
   exact ⟨z, by simpa using hz1, by rw [show k + (i + 1) = k + 1 + i by omega]; exact hz2⟩
theorem cells?_at {W : World} {a : Addr} {n : Nat} {cs : List Value} (h : W.cells? 0 a n = some cs) : cs.length = n ∧ ∀ i, i < n → ∃ y, cs[i]? = some y ∧ W.cell? (a.add i) = some y := by
 unfold World.cells? at h
 rw [if_pos (Nat.zero_le _), List.range_eq_range'] at h
 obtain ⟨h1, h2⟩ := mapM_range_some n 0 h
 exact ⟨h1, fun i hi => by
  obtain ⟨y, hy1, hy2⟩ := h2 i hi
  exact ⟨y, hy1, by rw [Nat.zero_add] at hy2; exact hy2⟩⟩
theorem add_eq {a : Addr} (h : a.spot = none) (n : Nat) : a.add n = ⟨a.block, a.off + n, none⟩ := by
 unfold Addr.add
 split
 · rename_i h0
   subst h0
   cases a
   simp only at h
   subst h
   rfl
 · rfl
theorem vrels_nums {ρ : Rho} : ∀ l : List Nat, VRels ρ (l.map fun n : Nat => V.int .u16 (n : Int)) (l.map fun c : Nat => Value.int .u16 (c : Int))
 | [] => .nil
 | _ :: l => .cons (.int _ _) (vrels_nums l)
theorem flat_nums (l : List Nat) : ((l.map fun c : Nat => Value.int .u16 (c : Int)).flatMap fun cv => cv.cells.toList) = l.map fun c : Nat => Value.int .u16 (c : Int) := by
 induction l with
 | nil => rfl
 | cons c l ih => rw [List.map_cons, List.flatMap_cons, ih]; rfl
theorem pick_nums {P : Nat → Nat → Prop} : ∀ (n : Nat), (∀ i, i < n → ∃ b, P i b) → ∃ l : List Nat, l.length = n ∧ ∀ i b, l[i]? = some b → P i b
 | 0, _ => ⟨[], rfl, fun i b h => by simp at h⟩
 | n + 1, h => by
  obtain ⟨l, h1, h2⟩ := pick_nums n fun i hi => h i (by omega)
  obtain ⟨b, hb⟩ := h n (by omega)
  refine ⟨l ++ [b], by simp [h1], fun i c hc => ?_⟩
  by_cases hi : i < n
  · rw [List.getElem?_append_left (by omega)] at hc
    exact h2 i c hc
  · have hi2 : i = n := by
     have := (List.getElem?_eq_some_iff.1 hc).1
     simp [h1] at this
     omega
    subst hi2
    rw [List.getElem?_append_right (by omega)] at hc
    simp [h1] at hc
    subst hc
    exact hb
theorem nums_of_trod {H : Type} {enc : TypeId × Value → H} {W : World} {fuel : Nat} {cs : List Value} {x : DataW H × List MemPlace} (h : DataW.trod enc Try.prog W 0 (fun _ => true) true fuel 22 cs = some x) : ∃ (cv : Value) (v : V) (l : List Nat), cs = [cv] ∧ VRel (frz W) v cv ∧ U16V v l ∧ ∃ ad len cap, cv = .slice ad len cap := by
 rcases DataW.trod_slice u22 h with ⟨hv, _⟩ | ⟨a, len, cap, elems, rest, m, hm, hv, _, _, hcap, hmax, hel, hat, _⟩
 · exact ⟨_, .nilslice, [], hv, .nilslice, .inl ⟨rfl, .inl rfl⟩, _, _, _, rfl⟩
 · by_cases h0 : len = 0
   · subst h0
     exact ⟨_, .eslice, [], hv, .eslice a cap, .inl ⟨rfl, .inr rfl⟩, _, _, _, rfl⟩
   · have hAt : ∀ i, i < len → ∃ b : Nat, W.cell? (a.add i) = some (.int .u16 (b : Int)) := fun i hi => by
      have := hat i hi
      rw [c23, List.getElem?_eq_getElem (by omega), oI] at this
      obtain ⟨cells, h1, h2⟩ := this
      obtain ⟨n, hn, _, hw⟩ := DataW.trod_int u23 h2
      obtain ⟨b, rfl⟩ := u16_nat hw
      obtain ⟨_, h3⟩ := cells?_at h1
      obtain ⟨y, hy1, hy2⟩ := h3 0 (by omega)
      rw [hn] at hy1
      simp only [List.getElem?_cons_zero, oS] at hy1
      subst hy1
      rw [Nat.mul_one, show (a.add i).add 0 = a.add i from rfl] at hy2
      exact ⟨b, hy2⟩
     obtain ⟨b0, hb0⟩ := hAt 0 (by omega)
     have hspot : a.spot = none ∧ ∃ bg ty fr, W.heap[a.block]? = some (.cells bg ty fr) := by
      rw [show a.add 0 = a from rfl] at hb0
      unfold World.cell? at hb0
      split at hb0
      · rename_i bg ty fr hh
        split at hb0
        · cases hb0
        · rename_i hsp
          exact ⟨by simpa using hsp, bg, ty, fr, hh⟩
      · cases hb0
     obtain ⟨hsp, bg, ty, fr, hheap⟩ := hspot
     obtain ⟨l, l1, l2⟩ := pick_nums (P := fun i b => bg[a.off + i]? = some (.int .u16 (b : Int))) len fun i hi => by
      obtain ⟨b, hb⟩ := hAt i hi
      rw [add_eq hsp] at hb
      unfold World.cell? at hb
      simp only at hb
      rw [hheap] at hb
      exact ⟨b, hb⟩
     refine ⟨_, .list 1 (l.map fun n : Nat => V.int .u16 (n : Int)), l, hv, ?_, .inr rfl, _, _, _, rfl⟩
     refine .list (vrels_nums l) (fun v hv => ?_) (by rw [List.length_map]; exact l1) hcap fun _ => ⟨fun cv hcv => ?_, hsp, bg, ty, fr, hheap, fun j c hj => ?_⟩
     · rw [List.mem_map] at hv
       obtain ⟨c, _, rfl⟩ := hv
       rfl
     · rw [List.mem_map] at hcv
       obtain ⟨c, _, rfl⟩ := hcv
       rfl
     · rw [flat_nums, List.getElem?_map, Option.map_eq_some_iff] at hj
       obtain ⟨b, hb, rfl⟩ := hj
       exact l2 j b hb
end Go.Proofs.Ytginkdeicmdmaaa.W
