/-
  WHAT THE FUNCTIONS COME TO: each is read by the evaluator, printed, and told as a function of data, part 12 of 12 (no condition).
-/
import Derived.Test.YtmeohejdafbodaaW11
namespace Go.Proofs.Ytmeohejdafbodaa.W
open Go.Proofs.Ytmeohejdafbodaa.Ev Go.RowKit
section
variable {S T U : St} {kv : V}
theorem KidsD.grew1 {W : Nat->Prop} {M : Nat} {l : List Nd} (h : KidsD 1 S kv M l) (hw : ∀ k, qc7 kv = some k->¬ W k) (g : Grew W S T) : KidsD 1 T kv M l := by
 rcases h with h | ⟨h0, k, ts, h1, h2, h3, h4, h5⟩
 . exact .inl h
 . exact .inr ⟨h0, k, ts, h1, h2.grew h3 (hw k (by rcases h1 with rfl | rfl <;> rfl)) g, Nat.lt_of_lt_of_le h3 g.next, h4, h5⟩
theorem KidsD.blk1 {M k : Nat} {l : List Nd} (h : KidsD 1 S kv M l) (hk : qc7 kv = some k) : k < M/\k < S.next/\∃ ts, RowAt S k 24 5 ts := by
 rcases h with h | ⟨h0, k', ts, h1, h2, h3, h4, h5⟩
 . subst h
   cases hl : qd3 l with
   | nil => rw [hl] at hk; cases hk
   | cons a m => rw [hl] at hk; cases hk
 . have : k' = k := by rcases h1 with rfl | rfl <;> (cases hk; rfl)
   subst this;exact ⟨h4, h3, ts, h2⟩
def Ky (S : St) (N0 r : Nat) (kv : V) (l : List Nd) : Prop := KidsD 1 S kv r l/\∀ k, qc7 kv = some k->N0<=k
def Kx (S : St) (N0 M : Nat) (kv : V) (ps : List Nd) : Prop := M<=S.next/\((ps = []/\kv = .nilslice)\/(ps ≠ []/\∃ r ts, kv = .oslice r 0 ps.length 5/\RowAt S r 24 5 ts/\N0<=r/\r < M/\RowsD (Ky S N0 r) ts ps))
theorem Kx.D {N0 M : Nat} {ps : List Nd} (h : Kx S N0 M kv ps) : KidsD 2 S kv S.next ps := by
 obtain ⟨hM, ⟨rfl, rfl⟩ | ⟨h0, r, ts, h1, h2, h3, h4, h5⟩⟩ := h
 . exact .inl rfl
 . exact .inr ⟨List.length_pos_iff.2 h0, r, ts, .inl h1, h2, by omega, by omega, h5.mono fun _ _ h => h.1⟩
theorem Kx.grew {W : Nat->Prop} {N0 M : Nat} {ps : List Nd} (h : Kx S N0 M kv ps) (hw : ∀ k ts, N0<=k->k < M->RowAt S k 24 5 ts->¬ W k) (g : Grew W S T) : Kx T N0 M kv ps := by
 obtain ⟨hM, h | ⟨h0, r, ts, h1, h2, h3, h4, h5⟩⟩ := h
 . exact ⟨Nat.le_trans hM g.next, .inl h⟩
 . exact ⟨Nat.le_trans hM g.next, .inr ⟨h0, r, ts, h1, h2.grew (by omega) (hw r ts h3 h4 h2) g, h3, h4, h5.mono fun kv l h => ⟨h.1.grew1 (fun k hk => by
    obtain ⟨q1, q2, ts', q3⟩ := h.1.blk1 hk
    exact hw k ts' (h.2 k hk) (by omega) q3) g, h.2⟩⟩⟩
theorem Kx.grew0 {N0 M : Nat} {ps : List Nd} (h : Kx S N0 M kv ps) (g : Grew (fun _ => False) S T) : Kx T N0 M kv ps := h.grew (fun _ _ _ _ _ h => h) g
theorem Kx.up {N0 M M' : Nat} {ps : List Nd} (h : Kx S N0 M kv ps) (hM : M<=M') (hS : M'<=S.next) : Kx S N0 M' kv ps := by
 obtain ⟨_, h | ⟨h0, r, ts, h1, h2, h3, h4, h5⟩⟩ := h
 . exact ⟨hS, .inl h⟩
 . exact ⟨hS, .inr ⟨h0, r, ts, h1, h2, h3, by omega, h5⟩⟩
theorem Kx.blk {N0 M r : Nat} {ps : List Nd} (h : Kx S N0 M kv ps) (hr : qc7 kv = some r) : N0<=r/\r < M/\∃ ts, RowAt S r 24 5 ts := by
 obtain ⟨_, ⟨_, rfl⟩ | ⟨_, r', ts, rfl, h2, h3, h4, _⟩⟩ := h
 . cases hr
 . cases hr; exact ⟨h3, h4, ts, h2⟩
theorem Kx.one {N0 M : Nat} {ps : List Nd} (h : Kx S N0 M kv ps) : OneV kv := by
 obtain ⟨_, ⟨_, rfl⟩ | ⟨_, r, ts, rfl, _⟩⟩ := h <;> exact ⟨rfl, rfl, rfl, rfl⟩
theorem bsP_row (ho : S.on = false) (z : Tr V) (x : Nd) (kv : V) : ∃ t, (bsP 24 5 1 z [(0, qd7 x kv)] S = some (.slice S.next 0 1 1, t))/\(bsP 24 5 1 z [(0, qd7 x kv)] (S.lg []) = some (.slice S.next 0 1 1, t.lg [⟨S.next, 0, big, true⟩]))/\RowAt t S.next 24 5 [qpd x kv]/\Grew (fun _ => False) S t/\t.next = S.next + 1 := by
 refine ⟨nw S (.cells 24 5 1 false ((Tr.tab 1 1 fun _ => z).set (qpd x kv) 0)), ?_, ?_, ?_, qbe ho _ _, rfl⟩
 . unfold bsP qe7 qe7 qd7
   simp only [V.size, qa8, V.cells, show Nat.beq 5 5 = true from rfl, nF, Bool.and_true, show Nat.blt 0 1 = true from rfl, cT, Tr.setC_eq, oB]
 . unfold bsP qe7 qe7 qd7
   simp only [V.size, qa8, V.cells, show Nat.beq 5 5 = true from rfl, nF, Bool.and_true, show Nat.blt 0 1 = true from rfl, cT, Tr.setC_eq, oB];rw [nw_lg ho];rfl
 . refine qdv ho (by omega) rfl (by unfold big; omega) fun i t h => ?_
   rw [Tr.get_set];cases i with
   | zero => simpa using h
   | succ i => simp at h
theorem Kx.add (ho : S.on = false) {N0 M : Nat} {ps : List Nd} (h : Kx S N0 M kv ps) (hN : N0<=S.next) (hl : ps.length<=3000) (z : Tr V) (y : Nd) {kvy : V} (hy : Ky S N0 S.next kvy y.kids) (hap : ∀ k, qc7 kvy = some k->qc7 kv ≠ some k) :
 ∃ t v' u, bsP 24 5 1 z [(0, qd7 y kvy)] S = some (.slice S.next 0 1 1, t)/\apP 24 5 72 kv (.slice S.next 0 1 1) t = some (v', u)/\Kx u N0 u.next v' (ps ++ [y])/\Grew (fun x => qc7 kv = some x) S u := by
 obtain ⟨t, h1, _, h2, h3, h4⟩ := bsP_row ho z y kvy;have on1 := h3.on.trans ho;obtain ⟨hM, ⟨rfl, rfl⟩ | ⟨hne, r, ts, rfl, hr, hNr, hrn, hR⟩⟩ := h
 . obtain ⟨u, k1, k2, k3, k4⟩ := ap_first on1 h2
   have g := h3.trans k3;refine ⟨t, _, u, h1, k1, ⟨lR _, .inr ⟨by simp, t.next, _, rfl, k2, by omega, by omega, ⟨⟨kvy, rfl, (hy.1.grew1 (fun _ _ h => h) g).more (by omega), hy.2⟩, trivial⟩⟩⟩, g.mono fun _ _ h => h.elim⟩
 . have hr1 := hr.grew (by omega) (fun h => h) h3
   have hlen := hR.length;obtain ⟨u, k1, k2, k3, k4⟩ := ap_more on1 h2 hr1 (by omega);have g : Grew (fun x => qc7 (.oslice r 0 ps.length 5) = some x) S u := (h3.mono fun _ _ h => h.elim).trans (k3.mono fun x _ hx => by rw [hx]; rfl);rw [hlen] at k1;refine ⟨t, _, u, h1, k1, ⟨lR _, .inr ⟨by simp, t.next, _, by rw [lA]; rfl, k2, by omega, by omega, RowsD.app ⟨(hy.1.grew1 (fun k hk e => hap k hk e) g).more (by omega), hy.2⟩ (hR.mono fun kv l hk => ⟨?_, hk.2⟩)⟩⟩, g⟩;exact (hk.1.grew1 (fun x hx e => by cases e; have := (hk.1.blk1 hx).1; omega) g).more (by omega)
theorem bx_stA (ho : S.on = false) {b e n : Nat} {l m : List V} (h : Bx S b e l) (hl : l.length = n) (hm : m.length = n) (hb : n < big) : stP n (.ptr b 0) (qmc m) S = some (.tuple [], S.put b (bxO e m)) := by
 subst hl
 have hst : stK S b 0 l.length (Tr.ofListFrom .nil m 0) = some (S.put b (bxO e m)) := by
  unfold stK;rw [h];have h1 : Nat.ble (0 + l.length) (l.length * 1) = true := ble_true.2 (by omega);have h2 : Nat.blt (l.length * 1) big = true := blt_true.2 (by omega);simp only [h1, h2, Bool.and_self, nF, cT];unfold qe6;rw [show Nat.beq l.length l.length = true from Ev.beq_true.2 rfl, Nat.zero_mod, show Nat.beq 0 0 = true from rfl];simp only [Bool.and_self, cT, Nat.zero_div, Tr.setC_eq, set_one, oB, qai ho];unfold bxO;rw [hm]
 show vu (bif Nat.beq (qmc m).size l.length && !qa8 (qmc m) then stK S b 0 l.length (Tr.ofListFrom .nil m 0) else none) = _;rw [vAgg_size, hm, show Nat.beq l.length l.length = true from Ev.beq_true.2 rfl, qlr, hst];rfl
theorem NodeR.put {b : Nat} {x : Nd} (h : NodeR S b x kv) (y : Nd) (kv' : V) : ∃ U, stP 5 (.ptr b 0) (qd7 y kv') S = some (.tuple [], U)/\NodeR U b y kv'/\Grew (fun z => z = b) S U/\U.next = S.next := by
 have g : Grew (fun z => z = b) S (S.put b (bxO 24 (qjs y kv'))) := qb2 _ _;exact ⟨_, by rw [qf4]; exact bx_stA h.on h.bx rfl rfl qm5, ⟨g.on.trans h.on, bx_putO _ _ _⟩, g, rfl⟩
theorem NodeR.f0 {b : Nat} {x : Nd} (h : NodeR S b x kv) : ld1 (.ptr b 0) S = some (sv x.name, S) := Bx.ld1 h.on h.bx 0 (by show 0 < 5; decide) qm5
theorem NodeR.o0 {b : Nat} {x : Nd} (h : NodeR S b x kv) : ld1 (.ptr b 0) (S.lg []) = some (sv x.name, S.lg [⟨b, 0, 1, false⟩]) := ld1_lg h.on h.f0 []
theorem NodeR.oA {b : Nat} {x : Nd} (h : NodeR S b x kv) : ldA 5 (.ptr b 0) (S.lg []) = some (qd7 x kv, S.lg [⟨b, 0, 5, false⟩]) := by
 rw [qf4];exact Bx.ldAOn (l := qjs x kv) h.bx rfl qm5
theorem build1 (a d : Bs) : qey E0 24 [(0, sv a), (1, (.int .i64 1)), (3, sv d)] = some (qd7 (.mk a 1 false d []) .nilslice) := by kernel_rfl
theorem build3 (a d : Bs) : qey E0 24 [(0, sv a), (1, (.int .i64 3)), (3, sv d)] = some (qd7 (.mk a 3 false d []) .nilslice) := by kernel_rfl
theorem build2 (a : Bs) (k : Nat) (l : List Nd) : qey E0 24 [(0, sv a), (1, (.int .i64 2)), (4, .slice k 0 1 1)] = some (qd7 (.mk a 2 false [] l) (.slice k 0 1 1)) := by kernel_rfl
def BV (v : V) (l : Bs) : Prop := (l = []/\(v = .nilslice\/v = .eslice))\/v = .list 1 (l.map fun c => V.int .u8 (c.toNat : Int))
theorem BV.len {v : V} {l : Bs} (h : BV v l) : lnS v S = some (.int .i64 (l.length : Int), S) := by
 rcases h with ⟨rfl, rfl | rfl⟩ | rfl
 . rfl
 . rfl
 . show some (V.int .i64 (Int.ofNat (l.map _).length), S) = _
   rw [lM]; rfl
theorem BV.ix {v : V} {l : Bs} (h : BV v l) {i : Nat} (hi : i < l.length) : ixP 1 v (.int .i64 (i : Int)) = some (.cptr (.int .u8 (l[i].toNat : Int))) := by
 rcases h with ⟨rfl, _⟩ | rfl
 . simp at hi
 . show (bif Nat.beq 1 1 && Nat.blt 0 1 then ((l.map _)[i]?).bind fun v => some (V.cptr v) else none) = _
   rw [List.getElem?_map, List.getElem?_eq_getElem hi]; rfl
theorem rem4 (c : UInt8) : qa4 E0 .rem 5 false true (.int .u8 (c.toNat : Int)) (.int .u8 4) = some (.int .u8 ((c.toNat % 4 : Nat) : Int)) := by
 rw [binV_ii, qoi _ _ _ (by decide), Int.tmod_eq_emod_of_nonneg (by omega)]
 congr 2
theorem eqlC (a b : Nat) : qa4 E0 .eql 5 false true (.int .u8 (a : Int)) (.int .u8 (b : Int)) = some (.bool (decide (a = b))) := by
 rw [binV_ii, intsV_eql]
 congr 2
 rw [decide_eq_decide];omega
theorem from1 (s : Bs) (h : 1<=s.length) (S : St) : qbl E0 9 (sv s) (some (.int .i64 1)) none none S = some (sv (s.drop 1), S) := by
 rw [show (V.int .i64 1) = .int .i64 ((1 : Nat) : Int) from rfl, qko und9 s (qnm .i64 h) (lR _), List.take_of_length_le (by rw [List.length_drop]; exact lR _)]
end
section
variable {S T U : St} {kv : V} {pad : Bs} {ab kb N0 : Nat} {L : List Laid}
theorem treeOf_push (pad : Bs) (L : List Laid) (e : Laid) : topN (L.map (kidOf pad) ++ [kidOf pad e]) = qb0 pad (L ++ [e]) := by
 unfold qb0;rw [List.map_append, List.map_singleton]
theorem tail_run (ho : S.on = false) (hbox : NodeR S ab (qb0 pad L) kv) {M : Nat} (hK : Kx S N0 M kv (L.map (kidOf pad))) (hf : L.length<=8) {y : Nd} {kvy : V} (hkb : NodeR S kb y kvy) (hy : Ky S N0 S.next kvy y.kids) (hap : ∀ k, qc7 kvy = some k->qc7 kv ≠ some k) (ha : ab < N0) (hN : N0<=S.next) (e : Laid) (he : y = kidOf pad e) :
 ∃ kv' U, (∀ K : St->Rs, ((faP 4 false 1 (.ptr ab 0)).bind fun t => (ld1 t S).bind fun p => (ldA 5 (.ptr kb 0) p.2).bind fun q => (bsP 24 5 1 (Tr.ofListFrom .nil [(sv []), (.int .i64 0), (.bool false), (sv []), .nilslice] 0) [(0, q.1)] q.2).bind fun r => (apP 24 5 72 p.1 r.1 r.2).bind fun s => (faP 4 false 1 (.ptr ab 0)).bind fun t' => (stP 1 t' s.1 s.2).bind fun u => K u.2) = K U) /\
  NodeR U ab (qb0 pad (L ++ [e])) kv'/\Kx U N0 U.next kv' ((L ++ [e]).map (kidOf pad))/\Grew (fun x => x = ab\/qc7 kv = some x) S U := by
 obtain ⟨T, kv', S1, a1, a2, a3, a4⟩ := hK.add ho hN (by rw [lM]; omega) (Tr.ofListFrom .nil [(sv []), (.int .i64 0), (.bool false), (sv []), .nilslice] 0) y hy hap;have n1 := a4.next
 have hab : ¬ qc7 kv = some ab := fun h => by have := (hK.blk h).1; omega
 have box1 : NodeR S1 ab (qb0 pad L) kv := hbox.grew (by omega) hab a4;obtain ⟨U, b1, b2, b3, b4⟩ := NodeR.setKids (m := L.map (kidOf pad) ++ [y]) box1 a3.one
 have b2' : NodeR U ab (qb0 pad (L ++ [e])) kv' := by
  rw [he, treeOf_push] at b2; exact b2
 refine ⟨kv', U, fun K => ?_, b2', ?_, (a4.mono fun x _ h => .inr h).trans (b3.mono fun x _ h => .inl h)⟩
 . rw [faP4, oB, hbox.f4, oB]
   dsimp only;have hA := hkb.fA;rw [hA, oB];dsimp only;rw [a1, oB];dsimp only;rw [a2, oB];dsimp only;rw [oB, b1, oB]
 . rw [List.map_append, List.map_singleton, <- he]
   have := a3.grew (W := fun x => x = ab) (fun k ts h1 h2 h3 e' => by omega) b3;exact this.up b3.next (lR _)
theorem pairs_r186 {a b : Nat} (h : a ≠ b) {l1 l2 l3 l4 : List LE} : qav [[], [⟨a, 0, 1, false⟩], l1, [], l2, l3, l4, [⟨b, 0, big, true⟩], l1, l2] [(1, [3, 7])] = true := by
 have h1 : Nat.beq a b = false := Ev.beq_false.2 h;show (bif qdn [⟨a, 0, 1, false⟩] _ [3, 7] then false else true) = true;show (bif (bif qed [⟨a, 0, 1, false⟩] [] then true else bif qed [⟨a, 0, 1, false⟩] [⟨b, 0, big, true⟩] then true else false) then false else true) = true;simp only [qed, qez, meet, h1, cF]
theorem NodeR.same {b : Nat} {x : Nd} (h : NodeR S b x kv) (ho : U.on = false) (hh : U.heap = S.heap) : NodeR U b x kv := ⟨ho, by have := h.bx; unfold Bx at this ⊢; rw [hh]; exact this⟩
theorem R186_spec {self : EV} {N : Nat} (nk : Ac->St->Rs) (ek : Nat->Ac->St->Rs) {v0 v1 v2 v7 v8 : V} {laid : Bs} (hv : BV v1 laid) {i : Nat} (hi : i < laid.length) {h : Bs} (hh : h.length = 32)
 (ho : S.on = false) (hbox : NodeR S ab (qb0 pad L) kv) {M : Nat} (hK : Kx S N0 M kv (L.map (kidOf pad))) (hf : L.length<=8) {y : Nd} (hkb : NodeR S kb y .nilslice) (hyk : y.kids = []) (hyn : y.name = ltr i) (hy : laid[i].toNat % 4 ≠ 2->y = kidOf pad (i, laid[i].toNat % 4, h)) (ha : ab < N0) (hkN : N0<=kb) (hMk : M<=kb) (hks : kb < S.next) :
 ∃ kv' U, qll self N nk ek (fr 199 [(0, v0), (1, v1), (2, v2), (7, v7), (8, v8), (9, .ptr ab 0), (10, .int .i64 (i : Int)), (11, sv h), (12, .ptr kb 0)]) S = nk (fr 199 [(0, v0), (1, v1), (2, v2), (7, v7), (8, v8), (9, .ptr ab 0), (10, .int .i64 (i : Int))]) U /\
  NodeR U ab (qb0 pad (L ++ [(i, laid[i].toNat % 4, h)])) kv'/\Kx U N0 U.next kv' ((L ++ [(i, laid[i].toNat % 4, h)]).map (kidOf pad))/\Grew (fun x => x = ab\/x = kb\/qc7 kv = some x) S U := by
 by_cases hc : laid[i].toNat % 4 = 2
 . obtain ⟨T, a1, a2, a3, a4, a5⟩ := bsP_row ho (Tr.ofListFrom .nil [(sv []), (.int .i64 0), (.bool false), (sv []), .nilslice] 0) (inN h) .nilslice
   have onT := a4.on.trans ho;have kbT : NodeR T kb y .nilslice := hkb.grew hks (fun h => h) a4;obtain ⟨U1, b1, b2, b3, b4⟩ := kbT.put (.mk (ltr i) 2 false [] [inN h]) (.slice S.next 0 1 1);obtain ⟨lg1, b1'⟩ := stP_lg onT b1;have onU1 := b3.on.trans onT;obtain ⟨U2, u1, u2, u3, u4⟩ := qhu ho U1 lg1 [[], [⟨kb, 0, 1, false⟩], [], [], [], [], [], [⟨S.next, 0, big, true⟩], [], lg1];have gSU2 : Grew (fun x => x = kb) S U2 := Grew.same ((a4.mono fun _ _ h => h.elim).trans b3) u2 u3 (u4.trans onU1.symm);have box2 : NodeR U2 ab (qb0 pad L) kv := hbox.grew (by omega) (by omega) gSU2;have K2 : Kx U2 N0 M kv (L.map (kidOf pad)) := hK.grew (fun k ts h1 h2 h3 e => by omega) gSU2;have kb2 : NodeR U2 kb (.mk (ltr i) 2 false [] [inN h]) (.slice S.next 0 1 1) := b2.same u4 u2;have row2 : RowAt U2 S.next 24 5 [qpd (inN h) .nilslice] := a3.grew (by omega) (W := fun x => x = kb) (by omega) (Grew.same b3 u2 u3 (u4.trans onU1.symm))
   have hky : Ky U2 N0 U2.next (.slice S.next 0 1 1) (Nd.mk (ltr i) 2 false [] [inN h]).kids := by
    have hn := gSU2.next
    have : U2.next = S.next + 1 := by rw [u3, b4, a5]
    refine ⟨.inr ⟨by simp [Nd.kids], S.next, _, .inr rfl, row2, by omega, by omega, ⟨⟨.nilslice, rfl, rfl⟩, trivial⟩⟩, fun k hk => by cases hk; omega⟩
   have hM := hK.1;obtain ⟨kv', U, c1, c2, c3, c4⟩ := tail_run u4 box2 K2 hf kb2 hky (fun k hk e => by cases hk; have := (hK.blk e).2.1; omega) ha (by have := gSU2.next; omega) (i, laid[i].toNat % 4, h) (by unfold kidOf; rw [iN (by dsimp only; omega), iP (by dsimp only; omega)]);refine ⟨kv', U, ?_, c2, c3, (gSU2.mono fun x _ e => .inr (.inl e)).trans (c4.mono fun x _ e => by rcases e with e | e; exact .inl e; exact .inr (.inr e))⟩;rw [R5_186_eq, hv.ix hi, oB, ldcv ⟨rfl, rfl, rfl, rfl⟩, oB];dsimp only;rw [rem4, oB, show V.int .u8 2 = .int .u8 ((2 : Nat) : Int) from rfl, eqlC, dT hc, oB, ifK_bool, cT, faP0, oB, ons, hkb.o0, oB];simp only [ons, qc4];rw [from1 h (by omega), oB];simp only [ons, qc4];rw [qnd _ _ (by rw [List.length_drop]; omega), oB, build1, oB, show (Nd.mk [105, 110] 1 false (h.drop 1 ++ h) []) = inN h from rfl, a2, oB];simp only [ons, qc4];rw [hyn, build2 _ _ [inN h], oB, b1', oB];have hp : qav [[], [⟨kb, 0, 1, false⟩], [], [], [], [], [], [⟨S.next, 0, big, true⟩], [], lg1] [(1, [3, 7])] = true := pairs_r186 (by omega);show qm8 [(1, [3, 7])] S [[], [⟨kb, 0, 1, false⟩], [], [], [], [], [], [⟨S.next, 0, big, true⟩], [], lg1] (U1.lg lg1) _ = _;rw [qcg hp, u1];exact c1 _
 . have hyy := hy hc
   have hky : Ky S N0 S.next .nilslice y.kids := by rw [hyk]; exact ⟨.inl rfl, fun k hk => by cases hk⟩
   obtain ⟨kv', U, c1, c2, c3, c4⟩ := tail_run ho hbox hK hf hkb hky (fun k hk => by cases hk) ha (by omega) _ hyy;refine ⟨kv', U, ?_, c2, c3, c4.mono fun x _ e => by rcases e with e | e; exact .inl e; exact .inr (.inr e)⟩;rw [R5_186_eq, hv.ix hi, oB, ldcv ⟨rfl, rfl, rfl, rfl⟩, oB];dsimp only;rw [rem4, oB, show V.int .u8 2 = .int .u8 ((2 : Nat) : Int) from rfl, eqlC, dF hc, oB, ifK_bool, cF];exact c1 _
end
section
variable {S T U : St} {kv v7 : V} {pad : Bs} {ab wr N0 : Nat} {hs ks : List Bs} {L : List Laid}
structure Pe (S : St) (ab wr N0 : Nat) (kv v7 : V) (pad : Bs) (hs ks : List Bs) (L : List Laid) : Prop where
 box : NodeR S ab (qb0 pad L) kv
 kids : Kx S N0 S.next kv (L.map (kidOf pad))
 map : MapAt S wr (kvS (qex ks))
 txt : TLo S v7 hs N0
 wa : wr < ab
 aN : ab < N0
 nx : N0<=S.next
structure Il (pad : Bs) (i : Nat) (hs ks : List Bs) (L : List Laid) : Prop where
 hh : ∀ h ∈ hs, isH h = true
 len : hs.length = i
 ok : LaidOk pad L
 lt : ∀ e ∈ L, e.1 < i
 few : L.length<=i
 ks : ∀ h ∈ ks, ∃ e ∈ L, e.2.2 = h
theorem Pe.grew0 (P : Pe S ab wr N0 kv v7 pad hs ks L) (g : Grew (fun _ => False) S T) : Pe T ab wr N0 kv v7 pad hs ks L := by
 have := P.wa; have := P.aN; have := P.nx; have := g.next
 exact ⟨P.box.grew (by omega) (fun h => h) g, (P.kids.grew0 g).up g.next (lR _), P.map.grew (by omega) (fun h => h) g, P.txt.grew g, P.wa, P.aN, by omega⟩
theorem blk_ne {N0 M r : Nat} {ps : List Nd} (hK : Kx S N0 M kv ps) (ht : TLo S v7 hs N0) (h1 : qc7 kv = some r) (h2 : qc7 v7 = some r) : False := by
 obtain ⟨_, _, ts, hr⟩ := hK.blk h1;obtain ⟨_, hr2⟩ := ht.blk h2;obtain ⟨c, q1, _⟩ := hr.row;obtain ⟨c', q2, _⟩ := hr2.row;rw [q1] at q2;simp only [oS, O.cells.injEq] at q2;exact absurd q2.1 (by decide)
theorem row_txt {r : Nat} {ts : List (Tr V)} (hr : RowAt S r 24 5 ts) (ht : TLo S v7 hs N0) (h2 : qc7 v7 = some r) : False := by
 obtain ⟨_, hr2⟩ := ht.blk h2;obtain ⟨c, q1, _⟩ := hr.row;obtain ⟨c', q2, _⟩ := hr2.row;rw [q1] at q2;simp only [oS, O.cells.injEq] at q2;exact absurd q2.1 (by decide)
theorem head_run (m : Nat) (ho : S.on = false) {v0 : V} {l : List Bs} (hl : TV v0 l) {i : Nat} (hi : i < l.length) :
 ∃ h S1, isH h = true/\Grew (fun _ => False) S S1/\∀ (pl : Plan) (K : V->St->Rs), ((ixP 1 v0 (.int .i64 (i : Int))).bind fun t141 =>
  (ld1 t141 (onS S)).bind fun p142 =>
  (ixP 1 v0 (.int .i64 (i : Int))).bind fun t145 =>
  (ld1 t145 (onS p142.2)).bind fun p146 =>
  (qd1 p146.1 (onS p146.2)).bind fun p147 =>
  (qhg minV p147.1 [(.int .i64 40)] (onS p147.2)).bind fun p148 =>
  (qbl E0 9 p142.1 none (some p148.1) none (onS p148.2)).bind fun p149 =>
  qjr pl S 11 [[], [], [], p142.2.log, [], [], [], p146.2.log, p147.2.log, p148.2.log, p149.2.log] ((ev E0 KD (m + 9)).f 12 [p149.1] (onS p149.2)) fun t150 S150 =>
  qm8 [(3, [7, 8, 9])] S [[], [], [], p142.2.log, [], [], [], p146.2.log, p147.2.log, p148.2.log, p149.2.log, S150.log, []] (onS S150) fun S152 => K t150 S152) = K (sv h) S1 := by
 obtain ⟨h, U1, a1, a2, a3⟩ := hash_run consts m ho (l[i].take 40) (by rw [List.length_take]; omega);obtain ⟨lg, a1'⟩ := Lg.ev_onS lgD a1;have hix := hl.ix (List.getElem?_eq_getElem hi);obtain ⟨U2, u1, u2, u3, u4⟩ := qhu ho U1 [] [[], [], [], [], [], [], [], [], [], [], [], (U1.lg lg).log, []];refine ⟨h, U2, a2, Grew.same a3 u2 u3 (u4.trans (a3.on.trans ho).symm), fun pl K => ?_⟩;rw [hix, oB];simp only [ons, qc4, ldc, oB, lnStr_sv];rw [min40, oB];simp only [ons, qc4];rw [cutN, oB];simp only [ons, qc4];rw [show S.lg [] = onS S from rfl, a1', qbg];simp only [ons, qc4];have hp : qav [[], [], [], (S.lg []).log, [], [], [], (S.lg []).log, (S.lg []).log, (S.lg []).log, (S.lg []).log, (U1.lg lg).log, []] [(3, [7, 8, 9])] = true := rfl;rw [qcg hp];show K (sv h) (qb3 S (U1.lg []) [[], [], [], [], [], [], [], [], [], [], [], (U1.lg lg).log, []]) = _;rw [u1]
theorem geqNN (a b : Nat) : qa4 E0 .geq 3 false false (.int .i64 (a : Int)) (.int .i64 (b : Int)) = some (.bool (decide (b<=a))) := by
 rw [binV_ii, intsV_geq]; congr 2; rw [decide_eq_decide]; omega
def laidC (laid : Bs) (i : Nat) : Bool := match laid[i]? with
 | none => true
 | some c => decide (c.toNat % 4 = 0)
theorem laid_cond {v1 : V} {laid : Bs} (hv : BV v1 laid) (i : Nat) (S : St) : ∃ x : V, ∀ K : V->V × St->Rs,
 ((lnS v1 S).bind fun p160 =>
   (qa4 E0 .geq 3 false false (.int .i64 (i : Int)) p160.1).bind fun t161 =>
   (qa2 false t161).bind fun g163 => (bif g163 then some v1 else some (.tuple [])).bind fun t163 =>
   (qa2 false t161).bind fun g164 => (bif g164 then some (.int .i64 (i : Int)) else some (.tuple [])).bind fun t164 =>
   (qa2 false t161).bind fun g165 => (bif g165 then ixP 1 t163 t164 else some (.tuple [])).bind fun t165 =>
   (qa2 false t161).bind fun g166 => (bif g166 then ld1 t165 p160.2 else some (.tuple [], p160.2)).bind fun p166 =>
   (qa2 false t161).bind fun g167 => (bif g167 then qa4 E0 .rem 5 false true p166.1 (.int .u8 4) else some (.tuple [])).bind fun t167 =>
   (qa2 false t161).bind fun g168 => (bif g168 then qa4 E0 .eql 5 false true t167 (.int .u8 0) else some (.tuple [])).bind fun t168 =>
   (qag t161 (some (.bool true)) (some t168)).bind fun t169 => K t169 p166) = K (.bool (laidC laid i)) (x, S) := by
 by_cases h : i < laid.length
 . refine ⟨.int .u8 (laid[i].toNat : Int), fun K => ?_⟩
   rw [hv.len, oB];dsimp only;rw [geqNN, oB, dF (by omega)];simp only [gFF, oB, cT];rw [hv.ix h, oB, ldcv ⟨rfl, rfl, rfl, rfl⟩, oB];dsimp only;rw [rem4, oB, show V.int .u8 0 = .int .u8 ((0 : Nat) : Int) from rfl, eqlC, oB];unfold laidC;rw [List.getElem?_eq_getElem h];rfl
 . refine ⟨.tuple [], fun K => ?_⟩
   rw [hv.len, oB];dsimp only;rw [geqNN, oB, dT (by omega)];simp only [gFT, oB, cF];unfold laidC;rw [List.getElem?_eq_none (by omega)];rfl
set_option maxHeartbeats 1000000 in
theorem qn1 {m N : Nat} {v0 v1 : V} {l : List Bs} (hl : TV v0 l) {laid : Bs} (hv : BV v1 laid) (hpad : pad.length<=20) (nk : Ac->St->Rs) (ek : Nat->Ac->St->Rs) :
 ∀ (d i q : Nat) (kv v7 : V) (hs ks : List Bs) (L : List Laid) (S : St), i + d = min l.length 8->d < q->Pe S ab wr N0 kv v7 pad hs ks L->Il pad i hs ks L ->
 ∃ kv' v7' hs' ks' L' U n, L5_126 (ev E0 KD (m + 9)) N nk ek q v0 v1 (sv pad) v7 (.map wr) (.ptr ab 0) (.int .i64 (i : Int)) S = ek 0 (fr 199 [(7, v7'), (8, .map wr), (9, .ptr ab 0)]) U/\Pe U ab wr N0 kv' v7' pad hs' ks' L'/\Il pad n hs' ks' L'/\n<=8
 | _, _, 0, _, _, _, _, _, _, _, hq, _, _ => by omega
 | 0, i, q + 1, kv, v7, hs, ks, L, S, hi, hq, P, I => by
  refine ⟨kv, v7, hs, ks, L, S, i, ?_, P, I, by omega⟩;rw [qn6, hl.len, oB];dsimp only
  rw [show (V.int .i64 8) = .int .i64 ((8 : Nat) : Int) from rfl, lim_cond i l.length 8 (by omega), show (decide (i < l.length) && decide (i < 8)) = false from by
   rw [Bool.and_eq_false_iff, decide_eq_false_iff_not, decide_eq_false_iff_not]; omega, ifK_bool, cF]
 | d + 1, i, q + 1, kv, v7, hs, ks, L, S, hi, hq, P, I => by
  have h1 : i < l.length := by omega
  have h2 : i < 8 := by omega
  have hwa := P.wa; have haN := P.aN; have hnx := P.nx;obtain ⟨h, S1, a1, a2, a3⟩ := head_run m P.box.on hl h1;have P1 := P.grew0 a2;have on1 := P1.box.on;have hlen := I.len;obtain ⟨y, W, v7', S2, b1, b2, b3, b4, b5⟩ := P1.txt.push3 on1 P1.nx (by omega) h;have n2 := b4.next
  have hv7 : ∀ r, qc7 v7 = some r->N0<=r := fun r hr => (P1.txt.blk hr).1
  have P2 : Pe S2 ab wr N0 kv v7' pad (hs ++ [h]) ks L :=
   ⟨P1.box.grew (by have := P1.nx; omega) (fun e => by have := hv7 _ e; omega) b4, (P1.kids.grew (fun k ts _ _ hr e => row_txt hr P1.txt e) b4).up n2 (lR _), P1.map.grew (by have := P1.nx; omega) (fun e => by have := hv7 _ e; omega) b4, b3, hwa, haN, by have := P1.nx; omega⟩
  have hhs : ∀ x ∈ hs ++ [h], isH x = true := fun x hx => by
   rcases List.mem_append.1 hx with e | e
   . exact I.hh x e
   . rw [List.mem_singleton.1 e]; exact a1
  obtain ⟨x, hx⟩ := laid_cond hv i S2;cases hc : laidC laid i with
  | true =>
   rw [hc] at hx;obtain ⟨kv', v7'', hs', ks', L', U, n, t1, t2, t3, t4⟩ := qn1 (m := m) (N := N) hl hv hpad nk ek d (i + 1) q kv v7' (hs ++ [h]) ks L S2 (by omega) (by omega) P2 ⟨hhs, by rw [lA, List.length_singleton]; omega, I.ok, fun e he => Nat.lt_succ_of_lt (I.lt e he), by have := I.few; omega, I.ks⟩;refine ⟨kv', v7'', hs', ks', L', U, n, ?_, t2, t3, t4⟩;rw [qn6, hl.len, oB];dsimp only;rw [show (V.int .i64 8) = .int .i64 ((8 : Nat) : Int) from rfl, lim_cond i l.length 8 (by omega), dT h1, dT h2, Bool.and_self, ifK_bool, cT];refine (a3 _ _).trans ?_;rw [b1, oB];dsimp only;rw [b2, oB];dsimp only;refine (hx _).trans ?_;rw [ifK_bool, cT, R5_135_eq, qgp (by omega), oB, N5_126_eq, t1]
  | false =>
   rw [hc] at hx
   have hil : i < laid.length := by
    rcases Nat.lt_or_ge i laid.length with h | h
    . exact h
    . unfold laidC at hc; rw [List.getElem?_eq_none h] at hc; cases hc
   have hc0 : laid[i].toNat % 4 ≠ 0 := by
    unfold laidC at hc;rw [List.getElem?_eq_getElem hil] at hc;exact of_decide_eq_false hc
   have on2 := P2.box.on;have hh := qj8 a1;obtain ⟨es, cl, c1, c2⟩ := upd_str on2 P2.map h 1;have c2 := c2 none;have g3 : Grew (fun x => x = wr) S2 (S2.put wr (.map es cl)) := qb2 _ _;have hm3 := qop (S := S2) wr c1;rw [qpj] at hm3;have n3 : (S2.put wr (.map es cl)).next = S2.next := rfl
   have nx2 := P2.nx;have box3 := P2.box.grew (by omega) (by omega) g3;have kids3 := P2.kids.grew (fun k ts h1 h2 _ e => by omega) g3;have txt3 : TLo (S2.put wr (.map es cl)) v7' (hs ++ [h]) N0 := P2.txt.grewW (fun r hr e => by have := (P2.txt.blk hr).1; omega) g3;have on3 := g3.on.trans on2;generalize S2.put wr (.map es cl) = S3 at c2 g3 hm3 n3 box3 kids3 txt3 on3;obtain ⟨W4, d1, d2, t4, y4, d3, d4, d5⟩ := letter_parts on3 (k := i) (by omega);have on4 := d1.on.trans on3;have n4 := d1.next
   have hsum : (pad ++ h).length = pad.length + 32 := by rw [lA, hh]
   obtain ⟨S5, e1, e2, e3, e4⟩ := nodeR_new on4 (Tr.ofListFrom .nil [(sv []), (.int .i64 0), (.bool false), (sv []), .nilslice] 0) (.mk (ltr i) 1 false ((pad ++ h) ++ pad) []) .nilslice;have g35 := d1.trans e3;have box5 := box3.grew (by omega) (fun h => h) g35;have kids5 := (kids3.grew0 g35)
   have ko : KidOk pad (i, laid[i].toNat % 4, h) := ⟨by omega, a1, hpad⟩
   have last : ∀ (S6 : St) (y : Nd), S6.on = false->Grew (fun x => x = W4.next) S5 S6->NodeR S6 W4.next y .nilslice->y.kids = []->y.name = ltr i->(laid[i].toNat % 4 ≠ 2->y = kidOf pad (i, laid[i].toNat % 4, h)) ->
    ∃ kv' v7'' hs' ks' L' U n, qll (ev E0 KD (m + 9)) N (qel (ev E0 KD (m + 9)) N (qek (ev E0 KD (m + 9)) N nk ek q) ek) (exB 1 (qel (ev E0 KD (m + 9)) N (qek (ev E0 KD (m + 9)) N nk ek q) ek) ek) (fr 199 [(0, v0), (1, v1), (2, sv pad), (7, v7'), (8, .map wr), (9, .ptr ab 0), (10, .int .i64 (i : Int)), (11, sv h), (12, .ptr W4.next 0)]) S6 = ek 0 (fr 199 [(7, v7''), (8, .map wr), (9, .ptr ab 0)]) U/\Pe U ab wr N0 kv' v7'' pad hs' ks' L'/\Il pad n hs' ks' L'/\n<=8 := fun S6 y ho6 g6 hk6 hy1 hy2 hy3 => by
    have n6 := g6.next
    have box6 := box5.grew (by omega) (by omega) g6;have kids6 := kids5.grew (fun k ts _ h2 _ e => by omega) g6;have few := I.few;obtain ⟨kv6, U6, f1, f2, f3, f4⟩ := R186_spec (self := ev E0 KD (m + 9)) (N := N) (v0 := v0) (v2 := sv pad) (v7 := v7') (v8 := .map wr) (qel (ev E0 KD (m + 9)) N (qek (ev E0 KD (m + 9)) N nk ek q) ek) (exB 1 (qel (ev E0 KD (m + 9)) N (qek (ev E0 KD (m + 9)) N nk ek q) ek) ek) hv hil hh ho6 box6 kids6 (by omega) hk6 hy1 hy2 hy3 haN (by omega) (by omega) (by omega);have nU := f4.next
    have hkv : ∀ r, qc7 kv = some r->N0<=r/\r < S2.next := fun r hr => by have := P2.kids.blk hr; exact ⟨this.1, this.2.1⟩
    have txt6 : TLo S6 v7' (hs ++ [h]) N0 := (txt3.grew g35).grewW (fun r hr e => by have := txt3.lt hr; omega) g6
    have P7 : Pe U6 ab wr N0 kv6 v7' pad (hs ++ [h]) (if h ∈ ks then ks else ks ++ [h]) (L ++ [(i, laid[i].toNat % 4, h)]) :=
     ⟨f2, f3, ((hm3.grew (by omega) (fun h => h) g35).grew (by omega) (by omega) g6).grew (by omega) (fun e => by rcases e with e | e | e; omega; omega; have := hkv _ e; omega) f4, txt6.grewW (fun r hr e => by
      rcases e with e | e | e
      . have := (txt6.blk hr).1; omega
      . have := txt3.lt hr; omega
      . exact blk_ne P2.kids P2.txt e hr) f4, hwa, haN, by omega⟩
    obtain ⟨kv', v7'', hs', ks', L', U, n, t1, t2, t3, t4⟩ := qn1 (m := m) (N := N) hl hv hpad nk ek d (i + 1) q kv6 v7' (hs ++ [h]) _ _ U6 (by omega) (by omega) P7 ⟨hhs, by rw [lA, List.length_singleton]; omega, I.ok.push ko (fun x hx => I.lt x hx) (by omega), fun e he => by
     rcases List.mem_append.1 he with e' | e'
     . exact Nat.lt_succ_of_lt (I.lt e e')
     . rw [List.mem_singleton.1 e']; exact Nat.lt_succ_self i, by rw [lA, List.length_singleton]; omega, fun z hz => by
     have hz' : z ∈ ks\/z = h := by
      split at hz
      . exact .inl hz
      . rcases List.mem_append.1 hz with e' | e'
        . exact .inl e'
        . exact .inr (List.mem_singleton.1 e')
     rcases hz' with e' | e'
     . obtain ⟨e, h1, h2⟩ := I.ks z e'
       exact ⟨e, List.mem_append_left _ h1, h2⟩
     . exact ⟨_, List.mem_append_right _ (List.mem_singleton.2 rfl), e'.symm⟩⟩
    refine ⟨kv', v7'', hs', ks', L', U, n, ?_, t2, t3, t4⟩;rw [f1, R5_135_eq, qgp (by omega), oB, N5_126_eq, t1]
   have step : ∃ S6 y, S6.on = false/\Grew (fun x => x = W4.next) S5 S6/\NodeR S6 W4.next y .nilslice/\y.kids = []/\y.name = ltr i/\(laid[i].toNat % 4 ≠ 2->y = kidOf pad (i, laid[i].toNat % 4, h))/\L5_126 (ev E0 KD (m + 9)) N nk ek (q + 1) v0 v1 (sv pad) v7 (.map wr) (.ptr ab 0) (.int .i64 (i : Int)) S = qll (ev E0 KD (m + 9)) N (qel (ev E0 KD (m + 9)) N (qek (ev E0 KD (m + 9)) N nk ek q) ek) (exB 1 (qel (ev E0 KD (m + 9)) N (qek (ev E0 KD (m + 9)) N nk ek q) ek) ek) (fr 199 [(0, v0), (1, v1), (2, sv pad), (7, v7'), (8, .map wr), (9, .ptr ab 0), (10, .int .i64 (i : Int)), (11, sv h), (12, .ptr W4.next 0)]) S6 := by
    have main : ∀ R : Rs, (ifK (.bool (decide (laid[i].toNat % 4 = 1))) (
     (faP 0 false 1 (.ptr W4.next 0)).bind fun t224 =>
     (ld1 t224 S5).bind fun p225 =>
     (qa4 E0 .add 9 true false (sv [46, 46, 47]) (sv h)).bind fun t227 =>
     (qa4 E0 .add 9 false true t227 (sv [45, 120])).bind fun t228 =>
     (qey E0 24 [(0, p225.1), (1, (.int .i64 3)), (3, t228)]).bind fun t229 =>
     (stP 5 (.ptr W4.next 0) t229 p225.2).bind fun p230 =>
     qll (ev E0 KD (m + 9)) N (qel (ev E0 KD (m + 9)) N (qek (ev E0 KD (m + 9)) N nk ek q) ek) (exB 1 (qel (ev E0 KD (m + 9)) N (qek (ev E0 KD (m + 9)) N nk ek q) ek) ek) (fr 199 [(0, v0), (1, v1), (2, sv pad), (7, v7'), (8, .map wr), (9, .ptr ab 0), (10, .int .i64 (i : Int)), (11, sv h), (12, .ptr W4.next 0)]) p230.2) (
     qll (ev E0 KD (m + 9)) N (qel (ev E0 KD (m + 9)) N (qek (ev E0 KD (m + 9)) N nk ek q) ek) (exB 1 (qel (ev E0 KD (m + 9)) N (qek (ev E0 KD (m + 9)) N nk ek q) ek) ek) (fr 199 [(0, v0), (1, v1), (2, sv pad), (7, v7'), (8, .map wr), (9, .ptr ab 0), (10, .int .i64 (i : Int)), (11, sv h), (12, .ptr W4.next 0)]) S5)) = R->L5_126 (ev E0 KD (m + 9)) N nk ek (q + 1) v0 v1 (sv pad) v7 (.map wr) (.ptr ab 0) (.int .i64 (i : Int)) S = R := fun R hR => by
     rw [qn6, hl.len, oB];dsimp only;rw [show (V.int .i64 8) = .int .i64 ((8 : Nat) : Int) from rfl, lim_cond i l.length 8 (by omega), dT h1, dT h2, Bool.and_self, ifK_bool, cT];refine (a3 _ _).trans ?_;rw [b1, oB];dsimp only;rw [b2, oB];dsimp only;refine (hx _).trans ?_;rw [ifK_bool, cF];dsimp only;rw [show qbp E0 31 (.map wr) (sv h) (.int .i64 1) S2 = some S3 from c2, show vu (some S3) = some (V.tuple [], S3) from rfl, oB];dsimp only;rw [d2, oB];dsimp only;rw [d3, oB, d4, oB];dsimp only;rw [d5, oB];dsimp only;rw [qnd _ _ (by omega), oB, qnd _ _ (by rw [hsum]; omega), oB, build1, oB, oB, qfv, e1, oB];dsimp only;rw [hv.ix hil, oB, ldcv ⟨rfl, rfl, rfl, rfl⟩, oB];dsimp only;rw [rem4, oB, show V.int .u8 1 = .int .u8 ((1 : Nat) : Int) from rfl, eqlC, oB];exact hR
    by_cases hc1 : laid[i].toNat % 4 = 1
    . obtain ⟨S6, k1, k2, k3, k4⟩ := e2.put (.mk (ltr i) 3 false (([46, 46, 47] ++ h) ++ [45, 120]) []) .nilslice
      refine ⟨S6, _, k2.on, k3, k2, rfl, rfl, fun _ => by unfold kidOf; rw [iP hc1], main _ ?_⟩;rw [dT hc1, ifK_bool, cT, faP0, oB, e2.f0, oB];dsimp only;rw [qnd _ _ (by simp; omega), oB, qnd _ _ (by simp; omega), oB];rw [show (Nd.mk (ltr i) 1 false ((pad ++ h) ++ pad) []).name = ltr i from rfl, build3, oB, k1, oB]
    . refine ⟨S5, _, e2.on, Grew.refl _ _, e2, rfl, rfl, fun hc2 => by unfold kidOf; rw [iN hc1, iN hc2], main _ ?_⟩
      rw [dF hc1, ifK_bool, cF]
   obtain ⟨S6, y, q1, q2, q3, q4, q5, q6, q7⟩ := step;obtain ⟨kv', v7'', hs', ks', L', U, n, t1, t2⟩ := last S6 y q1 q2 q3 q4 q5 q6;exact ⟨kv', v7'', hs', ks', L', U, n, q7.trans t1, t2⟩
end
section
variable {S T U : St} {kv v7 : V} {pad : Bs} {ab wr N0 : Nat} {hs ks gl : List Bs} {L : List Laid}
theorem und25' : und E0 25 = some (.slice 9) := by kernel_rfl
theorem size9' : Ev.sizeT E0 9 = some 1 := by kernel_rfl
theorem look_strFL (ho : S.on = false) {r : Nat} {kv : List (List UInt8 × Int)} (h : MapAt S r (kvS kv)) (a : List UInt8) : ∃ lg, qch E0 31 (.map r) (sv a) false (S.lg []) = some (.int .i64 ((lkS a kv).getD 0), S.lg lg) :=
 lg_of (Lg.loc_lookupV _ _ _ _ _) (qom ho h a) []
theorem slice_one (ho : S.on = false) {N : Nat} (h : TLo S v7 hs N) {i : Nat} (hi : i < hs.length) : ∃ r, qc7 v7 = some r/\qbl E0 25 v7 (some (.int .i64 (i : Int))) (some (.int .i64 ((i + 1 : Nat) : Int))) none (S.lg []) = some (.oslice r i 1 1, S.lg [⟨r, big - 1, big, false⟩])/\TL S (.oslice r i 1 1) [hs[i]] := by
 rcases h with ⟨rfl, _⟩ | ⟨r, rfl, h1, h2, h3, h4⟩
 . simp at hi
 . refine ⟨r, rfl, ?_, .inr ⟨r, i, hs, h1, h2, by simp; omega, ?_, .inl rfl⟩⟩
   . obtain ⟨c, q1, _⟩ := h1.row
     have hfit := h1.fit;rw [qaw, Nat.one_mul] at hfit;rw [qaw] at q1;unfold qbl;rw [und25', oB];simp only;rw [size9', oB, show (Nat.beq 1 1 && Nat.blt 0 1) = true from rfl, cT];unfold qkn;rw [show (S.lg []).heap = S.heap from rfl, q1];simp only [Nat.one_mul, blt_true.2 hfit, cT, oB, Nat.sub_zero, Nat.div_one];rw [qnn .i64 .i64 (Nat.le_succ i) hi, oB];simp only [blt_true.2 hi, cT, Nat.zero_add, Nat.mul_one, Nat.add_sub_cancel_left, show i.succ - i = 1 by omega];rfl
   . rw [List.drop_eq_getElem_cons hi]
     rfl
theorem one_len (x : Nd) (h : Bs) : (qgj x [] [h]).length = if hit x h then 1 else 0 := by
 rw [qgj, qgj];split <;> rfl
theorem geqStr (c d : Bool) (a b : Bs) : qa4 E0 .geq 9 c d (sv a) (sv b) = some (.bool (!Op.bytesLess a b)) := by rw [binV_ss, strOp_geq]
theorem eql1 (n : Nat) : qa4 E0 .eql 3 false true (.int .i64 (n : Int)) (.int .i64 1) = some (.bool (decide (n = 1))) := by
 rw [binV_ii, intsV_eql]; congr 2; rw [decide_eq_decide]; omega
theorem neqBB (a b : Bool) : qa4 E0 .neq 4 false false (.bool a) (.bool b) = some (.bool (a != b)) := by cases a <;> cases b <;> rfl
theorem gtrZ0 (n : Int) : qa4 E0 .gtr 3 false true (.int .i64 n) (.int .i64 0) = some (.bool (decide (0 < n))) := by rw [binV_ii, intsV_gtr]
theorem eql0 (n : Int) : qa4 E0 .eql 3 false true (.int .i64 n) (.int .i64 0) = some (.bool (decide (n = 0))) := by rw [binV_ii, intsV_eql]
theorem notB (b : Bool) : unV .not (.bool b) = some (.bool (!b)) := rfl
theorem qld (ho : S.on = false) (l : List LE) (ls : List (List LE)) : qb3 S (S.lg l) ls = S := relog_same ho ho rfl l ls
theorem look_ks (ho : S.on = false) (hm : MapAt S wr (kvS (qex ks))) (h : Bs) : ∃ lg, qch E0 31 (.map wr) (sv h) false (S.lg []) = some (.int .i64 (if h ∈ ks then 1 else 0), S.lg lg) := by
 obtain ⟨lg, e⟩ := look_strFL ho hm h;refine ⟨lg, e.trans ?_⟩;rw [qk5];by_cases hk : h ∈ ks
 . rw [iP hk, iP hk]; rfl
 . rw [iN hk, iN hk]; rfl
theorem R44_spec {n N : Nat} (hn : 30<=n) (P : Pe S ab wr N0 kv v7 pad hs ks L) (hL : LaidOk pad L) (hk : ∀ h ∈ ks, ∃ e ∈ L, e.2.2 = h) {v13 w : V} {i : Nat} (hi : i < hs.length) (hh : isH hs[i] = true) (hw : TL S w (qgj (qb0 pad L) [] [hs[i]])) (nk : Ac->St->Rs) (ek : Nat->Ac->St->Rs) :
 ∃ U, R5_44 (ev E0 KD n) N nk ek (fr 199 [(7, v7), (8, .map wr), (9, .ptr ab 0), (13, v13), (14, .int .i64 (i : Int)), (15, w), (16, .bool (hit (qb0 pad L) hs[i]))]) S = nk (fr 199 [(7, v7), (8, .map wr), (9, .ptr ab 0), (13, v13), (14, .int .i64 (i : Int))]) U/\Grew (fun _ => False) S U := by
 have ho := P.box.on;obtain ⟨q, r, o, x1, x2⟩ := P.txt.tl.ldOn ho (show hs[i]? = some hs[i] from List.getElem?_eq_getElem hi) [];obtain ⟨lg, x3⟩ := look_ks ho P.map hs[i]
 have hlaid : hs[i] ∈ ks->hit (qb0 pad L) hs[i] = true := fun h => by
  obtain ⟨e, he, h2⟩ := hk _ h;rw [<- h2]; exact hL.hit he
 cases his : hit (qb0 pad L) hs[i] with
 | false =>
  have hnk : hs[i] ∉ ks := fun h => by have := hlaid h; rw [his] at this; cases this
  rw [iN hnk] at x3;refine ⟨S, ?_, Grew.refl _ _⟩;rw [R5_44_eq, hw.len, oB];dsimp only;rw [one_len, his, iN (by simp), eql1, oB, neqBB, oB, show (false != decide (0 = 1)) = false from rfl];simp only [gFF, oB, cT, x1, ons, qc4];rw [x2, oB];simp only [ons, qc4];rw [x3, oB];dsimp only;rw [gtrZ0, oB, show decide ((0 : Int) < 0) = false from rfl];simp only [gFF, gTF, oB, cT, cF, pickV_bool, ons, qc4, qao, qbg];rw [qcg (by rfl), qld ho, ifK_bool, cF]
 | true =>
  have hwin : (qej (qb0 pad L)).contains hs[i] = true := by
   unfold hit at his;exact (Bool.and_eq_true_iff.1 his).2
  by_cases hks : hs[i] ∈ ks
  . rw [iP hks] at x3
    refine ⟨S, ?_, Grew.refl _ _⟩;rw [R5_44_eq, hw.len, oB];dsimp only;rw [one_len, his, iP rfl, eql1, oB, neqBB, oB, show (true != decide (1 = 1)) = false from rfl];simp only [gFF, oB, cT, x1, ons, qc4];rw [x2, oB];simp only [ons, qc4];rw [x3, oB];dsimp only;rw [gtrZ0, oB, show decide ((0 : Int) < 1) = true from rfl];simp only [gFF, gTT, oB, cT, cF, pickV_bool, ons, qc4, notB, Bool.not_true, x1];rw [x2, oB];simp only [ons, qc4];rw [x3, oB];dsimp only;rw [eql0, oB, show decide ((1 : Int) = 0) = false from rfl];simp only [gFF, gTF, oB, cT, cF, pickV_bool, ons, qc4, qao, qbg];rw [qcg (by rfl), qld ho, ifK_bool, cF]
  . rw [iN hks] at x3
    obtain ⟨U, f1, f2⟩ := f13_run hs[i] (qj8 hh) (n - 18) 17 (qb0 pad L) hL.ok.2 hL.ok.1 2 kv S.next S ho P.kids.D
    rw [hwin, show n - 18 + 17 + 1 = n by omega] at f1;obtain ⟨lg2, f1'⟩ := Lg.ev_onS lgD f1;rw [ons] at f1';obtain ⟨U2, u1, u2, u3, u4⟩ := qhu ho U [] [[], [], (S.lg []).log, [], [], [], [], [], [], [], (S.lg [⟨r, o, o + 1, false⟩]).log, (S.lg lg).log, [], [], [], [], [], [], [], [], [], [], [], [], [], (S.lg [⟨r, o, o + 1, false⟩]).log, (S.lg lg).log, [], [], [], (S.lg [⟨ab, 0, 5, false⟩]).log, [], [], [], (S.lg [⟨r, o, o + 1, false⟩]).log, (U.lg lg2).log, [], [], []];refine ⟨U2, ?_, Grew.same f2 u2 u3 (u4.trans (f2.on.trans ho).symm)⟩;rw [R5_44_eq, hw.len, oB];dsimp only;rw [one_len, his, iP rfl, eql1, oB, neqBB, oB, show (true != decide (1 = 1)) = false from rfl];simp only [gFF, oB, cT, x1, ons, qc4];rw [x2, oB];simp only [ons, qc4];rw [x3, oB];dsimp only;rw [gtrZ0, oB, show decide ((0 : Int) < 0) = false from rfl];simp only [gFF, gTF, gTT, oB, cT, cF, pickV_bool, ons, qc4, x1];rw [x2, oB];simp only [ons, qc4];rw [x3, oB];dsimp only;rw [eql0, oB, show decide ((0 : Int) = 0) = true from rfl];simp only [gFF, gTF, gTT, oB, cT, cF, pickV_bool, ons, qc4, x1];rw [P.box.oA, oB];simp only [ons, qc4];rw [x2, oB];simp only [ons, qc4];rw [f1', qbg];simp only [notB, Bool.not_true, oB, pickV_bool, cT, cF, ons, qc4]
    rw [qcg (by
     show (bif (bif qed [⟨ab, 0, 5, false⟩] [⟨r, o, o + 1, false⟩] then true else false) then false else true) = true
     simp only [qed, qez, qk7, cF, cT])]
    show ifK (.bool false) _ (nk _ (qb3 S (U.lg []) _)) = _;rw [ifK_bool, cF];exact congrArg _ u1
end
section
variable {S T U : St} {kv v7 : V} {pad : Bs} {ab wr N0 : Nat} {hs ks gl : List Bs} {L : List Laid}
theorem L87_spec {self : EV} {N : Nat} (ho : S.on = false) {v8 v9 v13 v15 : V} (hg : TL S v13 gl) (hpw : gl.Pairwise (· < ·)) (hfew : gl.length < 1000) (ht : TL S v7 hs) {i : Nat} (hi : i < hs.length) (nk : Ac->St->Rs) (ek : Nat->Ac->St->Rs) :
 ∀ (rest : List Bs) (k q : Nat) (b : Bool), gl.drop k = rest->rest.length < q ->
 L5_87 self N nk ek q v7 v8 v9 v13 (.int .i64 (i : Int)) v15 (.bool b) (.int .i64 (k : Int)) S = ek 4 (fr 199 [(7, v7), (8, v8), (9, v9), (13, v13), (14, .int .i64 (i : Int)), (15, v15), (16, .bool (b || rest.contains hs[i]))]) S
 | _, _, 0, _, _, hq => by omega
 | [], k, q + 1, b, hk, hq => by
  rw [L5_87_eq, hg.len, oB];dsimp only;rw [lssN, dF (Nat.not_lt.2 (qbm hk)), oB, ifK_bool, cF];simp
 | g :: rest, k, q + 1, b, hk, hq => by
  obtain ⟨hkl, hf, hrest, hmem⟩ := qcn hk;have hkg : gl[k]? = some g := by rw [List.getElem?_eq_getElem hkl, hf]
  obtain ⟨p1, r1, o1, x1, x2⟩ := hg.ldOn ho hkg [];obtain ⟨p2, r2, o2, y1, y2⟩ := ht.ldOn ho (show hs[i]? = some hs[i] from List.getElem?_eq_getElem hi) [];have ih := fun b => L87_spec (self := self) (N := N) ho (v8 := v8) (v9 := v9) (v15 := v15) hg hpw hfew ht hi nk ek rest (k + 1) q b hrest (by simpa using hq)
  have hfirst : ∀ K : V->St->Rs, ((qa2 false (.bool b)).bind fun g94 => (bif g94 then some v13 else some (.tuple [])).bind fun t94 =>
   (qa2 false (.bool b)).bind fun g95 => (bif g95 then some (V.int .i64 (k : Int)) else some (.tuple [])).bind fun t95 =>
   (qa2 false (.bool b)).bind fun g96 => (bif g96 then ixP 1 t94 t95 else some (.tuple [])).bind fun t96 =>
   (qa2 false (.bool b)).bind fun g97 => (bif g97 then ld1 t96 (onS S) else some (.tuple [], (onS S))).bind fun p97 =>
   (qa2 false (.bool b)).bind fun g98 => (bif g98 then some v7 else some (.tuple [])).bind fun t98 =>
   (qa2 false (.bool b)).bind fun g99 => (bif g99 then some (V.int .i64 (i : Int)) else some (.tuple [])).bind fun t99 =>
   (qa2 false (.bool b)).bind fun g100 => (bif g100 then ixP 1 t98 t99 else some (.tuple [])).bind fun t100 =>
   (qa2 false (.bool b)).bind fun g101 => (bif g101 then ld1 t100 (onS p97.2) else some (.tuple [], (onS p97.2))).bind fun p101 =>
   (qa2 false (.bool b)).bind fun g102 => (bif g102 then qa4 E0 .eql 9 false false p97.1 p101.1 else some (.tuple [])).bind fun t102 =>
   (qag (.bool b) (some (.bool true)) (some t102)).bind fun t103 =>
   qm8 [(5, [9])] S [[], [], [], [], [], p97.2.log, [], [], [], p101.2.log, [], [], []] (onS p101.2) fun S105 => K t103 S105) = K (.bool (b || g == hs[i])) S := fun K => by
   cases b with
   | true =>
    simp only [gFT, oB, cF, pickV_bool, cT, ons, qc4];rw [qcg (by rfl), qld ho];rfl
   | false =>
    simp only [gFF, oB, cT, x1, ons, qc4];rw [x2, oB];simp only [y1, oB, ons, qc4];rw [y2, oB];dsimp only;rw [eqStr, oB, pickV_bool, cF, oB];simp only [ons, qc4]
    rw [qcg (by
     show (bif (bif qed [⟨r1, o1, o1 + 1, false⟩] [⟨r2, o2, o2 + 1, false⟩] then true else false) then false else true) = true
     simp only [qed, qez, qk7, cF, cT]), qld ho]
    rfl
  have hsecond : ∀ K : V->St->Rs, ((qa4 E0 .gtr 3 false true (.int .i64 (k : Int)) (.int .i64 0)).bind fun t107 =>
   (qa2 true t107).bind fun g109 => (bif g109 then some v13 else some (.tuple [])).bind fun t109 =>
   (qa2 true t107).bind fun g110 => (bif g110 then some (V.int .i64 (k : Int)) else some (.tuple [])).bind fun t110 =>
   (qa2 true t107).bind fun g111 => (bif g111 then qa4 E0 .sub 3 false true t110 (.int .i64 1) else some (.tuple [])).bind fun t111 =>
   (qa2 true t107).bind fun g112 => (bif g112 then ixP 1 t109 t111 else some (.tuple [])).bind fun t112 =>
   (qa2 true t107).bind fun g113 => (bif g113 then ld1 t112 (onS S) else some (.tuple [], (onS S))).bind fun p113 =>
   (qa2 true t107).bind fun g114 => (bif g114 then some v13 else some (.tuple [])).bind fun t114 =>
   (qa2 true t107).bind fun g115 => (bif g115 then some (V.int .i64 (k : Int)) else some (.tuple [])).bind fun t115 =>
   (qa2 true t107).bind fun g116 => (bif g116 then ixP 1 t114 t115 else some (.tuple [])).bind fun t116 =>
   (qa2 true t107).bind fun g117 => (bif g117 then ld1 t116 (onS p113.2) else some (.tuple [], (onS p113.2))).bind fun p117 =>
   (qa2 true t107).bind fun g118 => (bif g118 then qa4 E0 .geq 9 false false p113.1 p117.1 else some (.tuple [])).bind fun t118 =>
   (qag t107 (some t118) (some (.bool false))).bind fun t119 =>
   qm8 [(7, [11])] S [[], [], [], [], [], [], [], p113.2.log, [], [], [], p117.2.log, [], []] (onS p117.2) fun S120 => K t119 S120) = K (.bool false) S := fun K => by
   rw [gtrZ0, oB];by_cases h0 : 0 < k
   . have hk1 : k - 1 < gl.length := by omega
     obtain ⟨p3, r3, o3, z1, z2⟩ := hg.ldOn ho (show gl[k - 1]? = some gl[k - 1] from List.getElem?_eq_getElem hk1) []
     have hlt : gl[k - 1] < g := by
      rw [<- hf];exact List.pairwise_iff_getElem.1 hpw (k - 1) k hk1 hkl (by omega)
     rw [dT (by omega)];simp only [gTT, oB, cT];rw [show V.int .i64 1 = .int .i64 ((1 : Nat) : Int) from rfl, subC 1 (by omega) (by omega), oB];simp only [z1, oB, ons, qc4];rw [z2, oB];simp only [x1, oB, ons, qc4];rw [x2, oB];dsimp only;rw [geqStr, bless_iff.2 hlt, oB, pickV_bool, cT, oB];simp only [ons, qc4]
     rw [qcg (by
      show (bif (bif qed [⟨r3, o3, o3 + 1, false⟩] [⟨r1, o1, o1 + 1, false⟩] then true else false) then false else true) = true
      simp only [qed, qez, qk7, cF, cT]), qld ho]
     rfl
   . rw [dF (by omega)]
     simp only [gTF, oB, cF, pickV_bool, ons, qc4];rw [qcg (by rfl), qld ho]
  rw [L5_87_eq, hg.len, oB];dsimp only;rw [lssN, dT hkl, oB, ifK_bool, cT];refine (hfirst _).trans ?_;refine (hsecond _).trans ?_;rw [ifK_bool, cF, qgp (by omega), oB, ih, List.contains_cons, Bool.or_assoc, show (g == hs[i]) = (hs[i] == g) from by rw [Bool.beq_comm]]
theorem hit_in (x : Nd) {h : Bs} (hh : h ∈ hs) : (qgj x [] hs).contains h = hit x h := by
 rw [Bool.eq_iff_iff, List.contains_iff_mem, qor];simp [hh]
theorem L25e_spec {n N : Nat} (hn : 30<=n) (hN : 1000 < N) (hL : LaidOk pad L) (hk : ∀ h ∈ ks, ∃ e ∈ L, e.2.2 = h) (hh : ∀ h ∈ hs, isH h = true) (hf : hs.length<=8) {v13 : V} (nk : Ac->St->Rs) (ek : Nat->Ac->St->Rs) :
 ∀ (d i q : Nat) (S : St), i + d = hs.length->d < q->Pe S ab wr N0 kv v7 pad hs ks L->TL S v13 (qgj (qb0 pad L) [] hs) ->
 ∃ U, L5_25 (ev E0 KD n) N nk ek q v7 (.map wr) (.ptr ab 0) v13 (.int .i64 (i : Int)) S = ek 2 (fr 199 []) U
 | _, _, 0, _, _, hq, _, _ => by omega
 | 0, i, q + 1, S, hi, hq, P, hg => by
  refine ⟨S, ?_⟩;rw [L5_25_eq, P.txt.tl.len, oB];dsimp only;rw [lssN, dF (by omega), oB, ifK_bool, cF]
 | d + 1, i, q + 1, S, hi, hq, P, hg => by
  have hil : i < hs.length := by omega
  have ho := P.box.on;have hone := hh hs[i] (List.getElem_mem hil);have hmi : hs[i] ∈ hs := List.getElem_mem hil;obtain ⟨r, s1, s2, s3⟩ := slice_one ho P.txt hil;obtain ⟨w, T1, f1, f2, f3⟩ := f8D_run (n - qgh (qb0 pad L) - 5) ho (qb0 pad L) hL.ok.1 (d := 2) (by omega) P.kids.D s3 (fun h hm => by rw [List.mem_singleton.1 hm]; have := qj8 hone; omega) (by simp);have hcnt := hL.ok.2;rw [show n - qgh (qb0 pad L) - 5 + qgh (qb0 pad L) + 5 = n by omega] at f1;rw [iP hL.check] at f2;obtain ⟨lg, f1'⟩ := Lg.ev_onS lgD f1;rw [ons] at f1';obtain ⟨U1, u1, u2, u3, u4⟩ := qhu ho T1 [] [(S.lg [⟨ab, 0, 5, false⟩]).log, [], [], [], [], (S.lg [⟨r, big - 1, big, false⟩]).log, (T1.lg lg).log, []];have gU1 : Grew (fun _ => False) S U1 := Grew.same f3 u2 u3 (u4.trans (f3.on.trans ho).symm);have P1 := P.grew0 gU1;have hg1 := hg.grew0 gU1;have hw1 : TL U1 w (qgj (qb0 pad L) [] [hs[i]]) := f2.same u2 u3
  have hklen : (qgj (qb0 pad L) [] hs).length < 1000 := by
   have := keepB_len (qb0 pad L) hs [];simp at this; omega
  have hin := hit_in (qb0 pad L) hmi;have c87 := fun nk ek => L87_spec (self := ev E0 KD n) (N := N) u4 (v8 := .map wr) (v9 := .ptr ab 0) (v15 := w) hg1 (keepB_pw (qb0 pad L) hs [] .nil) hklen P1.txt.tl hil nk ek (qgj (qb0 pad L) [] hs) 0 N false rfl (by omega);obtain ⟨U2, d1, d2⟩ := R44_spec (N := N) hn P1 hL hk (v13 := v13) hil hone hw1 (qky (ev E0 KD n) N (qkx (ev E0 KD n) N nk ek q) ek) (exB 3 (qky (ev E0 KD n) N (qkx (ev E0 KD n) N nk ek q) ek) ek);obtain ⟨U, t1⟩ := L25e_spec hn hN hL hk hh hf nk ek d (i + 1) q U2 (by omega) (by omega) (P1.grew0 d2) (hg1.grew0 d2);refine ⟨U, ?_⟩;rw [L5_25_eq, P.txt.tl.len, oB];dsimp only;rw [lssN, dT hil, oB, ifK_bool, cT, ons, P.box.oA, oB];simp only [ons, qc4];rw [qgp (by omega), oB, s2, oB];simp only [ons, qc4];rw [f1', qbg];simp only [ons, qc4]
  rw [qcg (by
   show (bif (bif qed [⟨ab, 0, 5, false⟩] [⟨r, big - 1, big, false⟩] then true else false) then false else true) = true
   simp only [qed, qez, qk7, cF, cT])]
  refine Eq.trans (b := L5_87 (ev E0 KD n) N (R5_44 (ev E0 KD n) N (qky (ev E0 KD n) N (qkx (ev E0 KD n) N nk ek q) ek) (exB 3 (qky (ev E0 KD n) N (qkx (ev E0 KD n) N nk ek q) ek) ek)) (exB 4 (R5_44 (ev E0 KD n) N (qky (ev E0 KD n) N (qkx (ev E0 KD n) N nk ek q) ek) (exB 3 (qky (ev E0 KD n) N (qkx (ev E0 KD n) N nk ek q) ek) ek)) (exB 3 (qky (ev E0 KD n) N (qkx (ev E0 KD n) N nk ek q) ek) ek)) N v7 (.map wr) (.ptr ab 0) v13 (.int .i64 (i : Int)) w (.bool false) (.int .i64 ((0 : Nat) : Int)) U1) (by rw [<- u1]; rfl) ?_;rw [c87, exB_same, Bool.false_or, hin, d1, R5_30_eq, qgp (by omega), oB, N5_25_eq, t1]
theorem rd5 {n : Nat} {args : List V} {s : St} {r : En × St} (e : qbu E0 (ev E0 KD n) qa1 Try.f5 B5 args s = some r) : (ev E0 KD (n + 1)).f 5 args s = some r := qar (c := C5) (d := B5) (by kernel_rfl) (by kernel_rfl) (qa3 C5 _ (by kernel_rfl)) rfl e
theorem each_run2 (ho : S.on = false) {v0 v1 : V} {l : List Bs} {laid p : Bs} (hl : TV v0 l) (hv : BV v1 laid) : ∃ n U, (ev E0 KD n).f 5 [v0, v1, sv p] S = some (.ret (.bool true), U) := by
 have gm : Grew (fun _ => False) S (nw S (.map [] 0)) := qbe ho _ _;have hm1 : MapAt (nw S (.map [] 0)) S.next (kvS (qex [])) := ⟨[], 0, by rw [qdt, iP rfl], MapOk.new⟩
 have n1 : (nw S (.map [] 0)).next = S.next + 1 := rfl
 have emk : qfh E0 31 none S = some (.map S.next, nw S (.map [] 0)) := rfl;generalize nw S (.map [] 0) = S1 at gm hm1 n1 emk;have on1 := gm.on.trans ho;obtain ⟨S2, a1, a2, a3, a4⟩ := var_new on1 24 5 (Tr.ofListFrom .nil [(sv []), (.int .i64 0), (.bool false), (sv []), .nilslice] 0) (qjs (topN []) .nilslice) rfl (by decide) qm5
 have P : Pe S2 S1.next S.next S2.next .nilslice .nilslice (p.take 20) [] [] [] :=
  ⟨⟨a3.on.trans on1, a2⟩, ⟨lR _, .inl ⟨rfl, rfl⟩⟩, hm1.grew (by omega) (fun h => h) a3, .nil, by omega, by omega, lR _⟩
 have I : Il (p.take 20) 0 [] [] [] := ⟨(fun _ hh => nomatch hh), rfl, ⟨(fun _ he => nomatch he), .nil, by simp⟩, (fun _ he => nomatch he), lR _, (fun _ hh => nomatch hh)⟩
 have hpl : (p.take 20).length<=20 := by rw [List.length_take]; omega
 obtain ⟨kv', v7', hs', ks', L', U, n, t1, t2, t3, t4⟩ := qn1 (m := 21) (N := qa1) hl hv hpl (R5_16 (ev E0 KD 30) qa1 (qak E0 (ev E0 KD 30) Try.f5) qa9) (exB 0 (R5_16 (ev E0 KD 30) qa1 (qak E0 (ev E0 KD 30) Try.f5) qa9) qa9) (min l.length 8) 0 qa1 .nilslice .nilslice [] [] [] S2 (Nat.zero_add _) (by unfold qa1; omega) P I;have hlen := t3.len;have hcnt := t3.ok.ok.2;obtain ⟨w, T1, f1, f2, f3⟩ := f8D_run (30 - qgh (qb0 (p.take 20) L') - 5) t2.box.on (qb0 (p.take 20) L') t3.ok.ok.1 (d := 2) (by omega) t2.kids.D t2.txt.tl (fun h hm => by have := qj8 (t3.hh h hm); omega) (by omega);rw [show 30 - qgh (qb0 (p.take 20) L') - 5 + qgh (qb0 (p.take 20) L') + 5 = 30 by omega] at f1;rw [iP t3.ok.check] at f2;obtain ⟨U2, z1⟩ := L25e_spec (n := 30) (N := qa1) (by omega) (by unfold qa1; omega) t3.ok t3.ks t3.hh (by omega) (v13 := w) (R5_21 (ev E0 KD 30) qa1 (fun a s => qaa [6] a fun a => qak E0 (ev E0 KD 30) Try.f5 a s) qa9) (exB 2 (R5_21 (ev E0 KD 30) qa1 (fun a s => qaa [6] a fun a => qak E0 (ev E0 KD 30) Try.f5 a s) qa9) qa9) hs'.length 0 qa1 T1 (Nat.zero_add _) (by unfold qa1; omega) (t2.grew0 f3) f2;refine ⟨31, U2, rd5 ?_⟩;show F5 (ev E0 KD 30) qa1 v0 v1 (sv p) S = _;rw [F5_eq, true_run, callP_ret, unV_not, oB, ifK_bool, Bool.not_true, cF, qc9, oB];dsimp only;rw [min20, oB];dsimp only;rw [cutN, oB];dsimp only;rw [emk, oB];dsimp only;rw [build24, oB, oB, qfv, a1, oB];dsimp only;rw [show V.int .i64 0 = .int .i64 ((0 : Nat) : Int) from rfl];refine t1.trans ?_
 rw [exB_same, R5_16_eq, t2.box.fA, oB];dsimp only;rw [f1, callP_ret, show V.int .i64 0 = .int .i64 ((0 : Nat) : Int) from rfl];refine z1.trans ?_;rw [exB_same, R5_21_eq, true_run, callP_ret]
end
end Go.Proofs.Ytmeohejdafbodaa.W
