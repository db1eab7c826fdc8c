/-
  WHAT THE FUNCTIONS COME TO: each is read by the evaluator, printed, and told as a function of data, part 9 of 12 (no condition).
-/
import Derived.Test.YtmeohejdafbodaaW8
import Derived.Lib.SmallJoins
namespace Go.Proofs.Ytmeohejdafbodaa.W
open Go.Proofs.Ytmeohejdafbodaa.Ev Go.RowKit
section
variable {S T U X : St}
theorem faP4 (b : Nat) : faP 4 false 1 (.ptr b 0) = some (.ptr b 4) := by rw [show (1 : Nat) = 0 + 1 from rfl, faP_ptr]
theorem faP3 (b : Nat) : faP 3 false 1 (.ptr b 0) = some (.ptr b 3) := by rw [show (1 : Nat) = 0 + 1 from rfl, faP_ptr]
theorem cntL_mem {y : Nd} : ∀ {l : List Nd}, y ∈ l->qgh y<=qkt l
 | z :: l, h => by
  rw [qkt];rcases List.mem_cons.1 h with rfl | h
  . omega
  . have := cntL_mem h; omega
theorem qfq (x : Nd) : qgh x = 1 + qkt x.kids := by cases x; rw [qgh]; rfl
end
section
variable {S T U X : St}
theorem neqE (a : Int) : qa4 E0 .neq 32 false true (.int .i64 a) (.int .i64 0) = some (.bool (!decide (a = 0))) := by rw [binV_ii, intsV_neq]
end
section
variable {S T U X : St}
def hit (x : Nd) (h : Bs) : Bool := isH h && (qej x).contains h
def qgj (x : Nd) (acc : List Bs) : List Bs->List Bs
 | [] => acc
 | h :: hs => qgj x (if hit x h then putB h acc else acc) hs
def Short (hs : List Bs) : Prop := ∀ h ∈ hs, h.length < 9223372036854775808
end
section
variable {S T U X : St}
theorem kd11 : KD 11 = some (qfu 3 qgw) := rfl
theorem kd17 : KD 17 = some kfSort := rfl
theorem kd10 : KD 10 = some kfTrue := rfl
end
section
variable {S T U X : St}
def One (S : St) (b e : Nat) (v : V) : Prop := RowAt S b e 1 [Ev.one v]
theorem One.ld {b e : Nat} {v : V} (h : One S b e v) (ho : S.on = false) : ld1 (.ptr b 0) S = some (v, S) := RowAt.ld1 ho h rfl
theorem One.ldOn {b e : Nat} {v : V} (h : One S b e v) (ho : S.on = false) (l : List LE) : ld1 (.ptr b 0) (S.lg l) = some (v, S.lg (⟨b, 0, 1, false⟩ :: l)) := ld1_lg ho (h.ld ho) l
theorem One.st {b e : Nat} {x v : V} (h : One S b e x) (ho : S.on = false) (hv : OneV v) : ∃ U, stP 1 (.ptr b 0) v S = some (.tuple [], U)/\One U b e v/\Grew (fun x => x = b) S U/\U.next = S.next := by
 obtain ⟨U, h1, h2, h3, h4⟩ := RowAt.stK ho h (i := 0) (by show 0 < 1; decide) (Ev.one v);refine ⟨U, ?_, h2, h3, h4⟩;show vu (bif Nat.beq v.size 1 && !qa8 v then stK S b 0 1 v.cells else none) = _;rw [hv.size, hv.cells, hv.tup, show stK S b 0 1 (Ev.one v) = some U from h1];rfl
theorem one_new (ho : S.on = false) (e : Nat) (v : V) : One (nwP e 1 (Ev.one v) S).2 S.next e v/\Grew (fun _ => False) S (nwP e 1 (Ev.one v) S).2/\(nwP e 1 (Ev.one v) S).2.next = S.next + 1 :=
 ⟨qce ho (by omega) (by show 1 * 1 < big; unfold big; decide), qbe ho _ _, rfl⟩
theorem One.grew {W : Nat->Prop} {b e : Nat} {v : V} (h : One S b e v) (hb : b < S.next) (hw : ¬ W b) (g : Grew W S T) : One T b e v := RowAt.grew h hb hw g
theorem Grew.then {W W' : Nat->Prop} {a b c : St} (h : Grew W a b) (k : Grew W' b c) (hw : ∀ x, x < a.next->W' x->W x) : Grew W a c :=
 ⟨Nat.le_trans h.next k.next, k.on.trans h.on, fun x hx hn => (k.keep x (Nat.lt_of_lt_of_le hx h.next) fun e => hn (hw x hx e)).trans (h.keep x hx hn)⟩
theorem TLo.grewW {W : Nat->Prop} {v : V} {l : List Bs} {N : Nat} (h : TLo S v l N) (hw : ∀ r, qc7 v = some r->¬ W r) (g : Grew W S U) : TLo U v l N := by
 rcases h with h | ⟨r, rfl, h1, h2, h3, h4⟩
 . exact .inl h
 . exact .inr ⟨r, rfl, h1.grew h2 (hw r rfl) g, Nat.lt_of_lt_of_le h2 g.next, h3, h4⟩
theorem TLo.lt {v : V} {l : List Bs} {N r : Nat} (h : TLo S v l N) (hr : qc7 v = some r) : r < S.next := by
 rcases h with ⟨_, rfl⟩ | ⟨r', rfl, h1, h2, h3, _⟩
 . cases hr
 . cases hr; exact h2
theorem TLo.oneV {v : V} {l : List Bs} {N : Nat} (h : TLo S v l N) : OneV v := by
 rcases h with ⟨_, rfl⟩ | ⟨r', rfl, h1, h2, h3, _⟩ <;> exact ⟨rfl, rfl, rfl, rfl⟩
theorem TLo.push3 (ho : S.on = false) {v : V} {l : List Bs} {N : Nat} (h : TLo S v l N) (hN : N<=S.next) (hl : l.length < 100000) (a : Bs) :
 ∃ y W v' U, bsP 9 1 1 (Ev.one (sv [])) [(0, sv a)] S = some (y, W)/\apP 9 1 16 v y W = some (v', U)/\TLo U v' (l ++ [a]) N/\Grew (fun x => qc7 v = some x) S U/\(∀ b, qc7 v' = some b->S.next<=b) := by
 obtain ⟨W, h1, h2, h3, h4⟩ := bsP_one ho 9 (Ev.one (sv [])) (oneV_sv a);have on1 := h3.on.trans ho;have hlm : (l ++ [a]).length = l.length + 1 := by rw [lA]; rfl
 rcases h with ⟨rfl, rfl⟩ | ⟨r, rfl, hr, hr2, hr3, h0⟩
 . obtain ⟨U, k1, k2, k3, k4⟩ := qnh (B := 16) on1 h2 (by unfold qae; omega)
   exact ⟨_, W, _, U, h1, k1, .inr ⟨W.next, rfl, k2, by omega, by omega, by simp⟩, (h3.trans k3).mono fun _ _ h => h.elim, fun b hb => by cases hb; exact h3.next⟩
 . have hrow := hr.grew hr2 (fun h => h) h3
   obtain ⟨U, k1, k2, k3, k4⟩ := ap1_more (B := 16) on1 h2 hrow (by rw [qaw]; unfold qae; omega) (by rw [qaw]; unfold big; omega);rw [qaw] at k1;refine ⟨_, W, _, U, h1, k1, .inr ⟨W.next, by rw [hlm], ?_, by omega, by omega, by omega⟩, (h3.mono fun _ _ h => h.elim).trans (k3.mono fun x _ e => by subst e; rfl), fun b hb => by cases hb; exact h3.next⟩;rw [rowOf_append];exact k2
def qex (ks : List Bs) : List (List UInt8 × Int) := ks.map fun k => (k, 1)
theorem qk5 (h : Bs) : ∀ ks, lkS h (qex ks) = if h ∈ ks then some 1 else none
 | [] => rfl
 | k :: ks => by
  show (if h = k then some 1 else lkS h (qex ks)) = _;rw [qk5 h ks];by_cases e : h = k
  . rw [iP e, iP (by rw [e]; exact List.mem_cons_self ..)]
  . rw [iN e]
    by_cases m : h ∈ ks
    . rw [iP m, iP (mO _ m)]
    . rw [iN m, iN (fun q => (List.mem_cons.1 q).elim e m)]
theorem qpj (h : Bs) : ∀ ks, setKS h 1 (qex ks) = qex (if h ∈ ks then ks else ks ++ [h])
 | [] => rfl
 | k :: ks => by
  show (if h = k then (h, 1) :: qex ks else (k, 1) :: setKS h 1 (qex ks)) = _;rw [qpj h ks];by_cases e : h = k
  . rw [iP e, iP (by rw [e]; exact List.mem_cons_self ..), e]; rfl
  . rw [iN e]
    by_cases m : h ∈ ks
    . rw [iP m, iP (mO _ m)]; rfl
    . rw [iN m, iN (fun q => (List.mem_cons.1 q).elim e m)]; rfl
theorem drop_asked (h : Bs) : ∀ ks, dropKS h (qex ks) = qex (ks.erase h)
 | [] => rfl
 | k :: ks => by
  show (if h = k then qex ks else (k, 1) :: dropKS h (qex ks)) = _;rw [drop_asked h ks];by_cases e : h = k
  . rw [iP e, e, List.erase_cons_head]
  . rw [iN e, List.erase_cons_tail (by simp [Ne.symm e])]; rfl
theorem qom (ho : S.on = false) {r : Nat} {kv : List (List UInt8 × Int)} (h : MapAt S r (kvS kv)) (a : List UInt8) :
 qch E0 31 (.map r) (sv a) false S = some (.int .i64 ((lkS a kv).getD 0), S) := by
 obtain ⟨es, c, h1, h2, _⟩ := h;unfold qch;rw [und31, oB];simp only;rw [und9', oB];simp only [sv, qhl, cT];have hg := qk1 ho h1 none;rw [show stt S none = S from rfl] at hg;rw [hg, oB];simp only;rw [oB];dsimp only;have hm := qk9 a kv es 0 h2;unfold sv at hm;rw [hm, oB];cases lkS a kv with
 | none => simp only [Option.map_none]; rw [zero3]; rfl
 | some v => rfl
def stepF (p : List Bs × List Bs) (h : Bs) : List Bs × List Bs := if h ∈ p.1 then (p.1.erase h, p.2 ++ [h]) else p
noncomputable def fnF (a o : Nat) : V := .fn (.func 15) [] [.ptr a 0, .ptr o 0]
structure Fd (S : St) (r a o f N : Nat) (v : V) (p : List Bs × List Bs) : Prop where
 on : S.on = false
 map : MapAt S r (kvS (qex p.1))
 ptr : One S a 31 (.map r)
 out : One S o 25 v
 tl : TLo S v p.2 N
 fn : One S f 41 (fnF a o)
 ra : r < a
 ao : a < o
 of : o < f
 fN : f < N
 nx : N<=S.next
 few : p.1.length + p.2.length<=1000
variable {r a o f N : Nat} {v : V} {p : List Bs × List Bs}
theorem Fd.grew {W : Nat->Prop} (h : Fd S r a o f N v p) (g : Grew W S T) (h1 : ¬ W r) (h2 : ¬ W a) (h3 : ¬ W o) (h4 : ¬ W f) (h5 : ∀ b, qc7 v = some b->¬ W b) : Fd T r a o f N v p := by
 have := h.ra; have := h.ao; have := h.of; have := h.fN; have := h.nx;exact ⟨g.on.trans h.on, h.map.grew (by omega) h1 g, RowAt.grew h.ptr (by omega) h2 g, RowAt.grew h.out (by omega) h3 g, h.tl.grewW h5 g, RowAt.grew h.fn (by omega) h4 g, h.ra, h.ao, h.of, h.fN, Nat.le_trans h.nx g.next, h.few⟩
theorem gtrI0 (x : Int) : qa4 E0 .gtr 3 false true (.int .i64 x) (.int .i64 0) = some (.bool (decide (0 < x))) := by rw [binV_ii, intsV_gtr]
theorem f15_run (m : Nat) (F : Fd S r a o f N v p) (h : Bs) : ∃ v' U, (ev E0 KD (m + 1)).f 15 [sv h, .ptr a 0, .ptr o 0] S = some (.ret (.tuple []), U)/\Fd U r a o f N v' (stepF p h)/\Grew (fun b => b = r\/b = o\/qc7 v = some b) S U/\(∀ b, qc7 v' = some b->qc7 v = some b\/S.next<=b) := by
 obtain ⟨ks, acc⟩ := p;have ho := F.on;have hra := F.ra; have hao := F.ao; have hof := F.of; have hfN := F.fN; have hnx := F.nx;have few : ks.length + acc.length<=1000 := F.few;by_cases hm : h ∈ ks
 . obtain ⟨y, W, v', U1, b1, b2, b3, b4, b5⟩ := F.tl.push3 ho F.nx (by show acc.length < 100000; omega) h
   have gb : ∀ x, x < N->¬ (qc7 v = some x) := fun x hx e => by have := (F.tl.blk e).1; omega
   have on1 := b4.on.trans ho;have n1 := b4.next
   obtain ⟨U2, c1, c2, c3, c4⟩ := (F.out.grew (by omega) (gb o (by omega)) b4).st on1 b3.oneV;have on2 := c3.on.trans on1;have hmap2 : MapAt U2 r (kvS (qex ks)) := (F.map.grew (by omega) (gb r (by omega)) b4).grew (by omega) (by omega) c3;have hlk : lkS h (qex ks) = some 1 := by rw [qk5, iP hm]
   obtain ⟨es, cl, d1, d2⟩ := del_str on2 hmap2 h hlk;have hd := d2 none;have g3 : Grew (fun x => x = r) U2 (U2.put r (.map es cl)) := qb2 _ _;have hmap3 := qop (S := U2) r d1;rw [drop_asked] at hmap3;have hptr2 : One U2 a 31 (.map r) := (F.ptr.grew (by omega) (gb a (by omega)) b4).grew (by omega) (by omega) c3;have htl : TLo (U2.put r (.map es cl)) v' (acc ++ [h]) N := (b3.grewW (fun x e => by have := (b3.blk e).1; omega) c3).grewW (fun x e => by have := (b3.blk e).1; omega) g3;refine ⟨v', U2.put r (.map es cl), rd15 ?_, ?_, ?_, ?_⟩
   . show F15 (ev E0 KD m) qa1 (sv h) (.ptr a 0) (.ptr o 0) S = _
     rw [F15_eq, F.ptr.ld ho, oB];dsimp only;rw [qom ho F.map, oB];dsimp only;rw [hlk, show (some (1 : Int)).getD 0 = 1 from rfl, gtrI0, oB, ifK_bool, show decide ((0 : Int) < 1) = true from rfl, cT, F.out.ld ho, oB];dsimp only;rw [b1, oB];dsimp only;rw [b2, oB];dsimp only;rw [c1, oB];dsimp only;rw [hptr2.ld on2, oB];dsimp only;rw [show qee E0 31 (.map r) (sv h) U2 = _ from hd];rfl
   . have hs : stepF (ks, acc) h = (ks.erase h, acc ++ [h]) := by unfold stepF; rw [iP hm]
     rw [hs];refine ⟨g3.on.trans on2, hmap3, hptr2.grew (by omega) (by omega) g3, c2.grew (by omega) (by omega) g3, htl, ((F.fn.grew (by omega) (gb f (by omega)) b4).grew (by omega) (by omega) c3).grew (by omega) (by omega) g3, hra, hao, hof, hfN, ?_, ?_⟩
     . have := g3.next; omega
     . show (ks.erase h).length + (acc ++ [h]).length<=1000
       rw [List.length_erase_of_mem hm, lA];have := List.length_pos_of_mem hm;simp; omega
   . exact ((b4.mono fun x _ e => .inr (.inr e)).trans ((c3.mono fun x _ e => .inr (.inl e)).trans (g3.mono fun x _ e => .inl e)))
   . intro b hb
     exact .inr (b5 b hb)
 . have hs : stepF (ks, acc) h = (ks, acc) := by unfold stepF; rw [iN hm]
   refine ⟨v, S, rd15 ?_, by rw [hs]; exact F, Grew.refl _ _, fun b hb => .inl hb⟩;show F15 (ev E0 KD m) qa1 (sv h) (.ptr a 0) (.ptr o 0) S = _;have hlk : lkS h (qex ks) = none := by rw [qk5, iN hm]
   rw [F15_eq, F.ptr.ld ho, oB];dsimp only;rw [qom ho F.map, oB];dsimp only;rw [hlk, show (none : Option Int).getD 0 = 0 from rfl, gtrI0, oB, ifK_bool, show decide ((0 : Int) < 0) = false from rfl, cF]
end
section
variable {S T U X : St} {r a o f N l : Nat} {v : V} {p : List Bs × List Bs}
def askL (ks : List Bs) : List Bs->List Bs
 | [] => ks
 | h :: hs => askL (if isH h then (if h ∈ ks then ks else ks ++ [h]) else ks) hs
theorem eqE (x : Int) : qa4 E0 .eql 32 false true (.int .i64 x) (.int .i64 0) = some (.bool (decide (x = 0))) := by rw [binV_ii, intsV_eql]
theorem ext0 (x y : V) : qac (.tuple [x, y]) 0 = some x := rfl
theorem ext1 (x y : V) : qac (.tuple [x, y]) 1 = some y := rfl
theorem foldF_nil : ∀ (ws : List Bs) (acc : List Bs), ws.foldl stepF ([], acc) = ([], acc)
 | [], _ => rfl
 | w :: ws, acc => by
  rw [List.foldl_cons, show stepF ([], acc) w = ([], acc) from iN (by simp), foldF_nil ws acc]
def Wf (r o l : Nat) (v : V) (b : Nat) : Prop := b = r\/b = o\/b = l\/qc7 v = some b
def Fr (v v' : V) (S : St) : Prop := ∀ b, qc7 v' = some b->qc7 v = some b\/S.next<=b
theorem Wf.then {v v' : V} (g : Grew (Wf r o l v) S T) (h : Fr v v' S) (k : Grew (Wf r o l v') T U) : Grew (Wf r o l v) S U :=
 Grew.then g k fun x hx hw => by
  rcases hw with e | e | e | e
  . exact .inl e
  . exact .inr (.inl e)
  . exact .inr (.inr (.inl e))
  . rcases h x e with q | q
    . exact .inr (.inr (.inr q))
    . omega
theorem Fr.trans {v v' v'' : V} (h : Fr v v' S) (g : S.next<=T.next) (k : Fr v' v'' T) : Fr v v'' S := fun b hb => by
 rcases k b hb with q | q
 . exact h b q
 . exact .inr (by omega)
theorem body15 : E0.ext.get 15 = none/\qb9 E0 15 = true := ⟨by kernel_rfl, by kernel_rfl⟩
theorem callDR_ret {a : Ac} {pl : Plan} {s0 : St} {i : Nat} {logs : List (List LE)} {v : V} {t : St} {k : V->St->Rs} : callDR a pl s0 i logs (some (.ret v, t)) k = k v t := rfl
theorem L25_spec {m Nn : Nat} (w : Bs) (hw : w.length<=100000) (nk : Ac->St->Rs) (ek : Nat->Ac->St->Rs) :
 ∀ (k i q : Nat) (v : V) (p : List Bs × List Bs) (S : St), w.length - i = k->k < q->i<=w.length->Fd S r a o f N v p ->
 ∃ v' U, L8_25 (ev E0 KD (m + 1)) Nn nk ek q l (.ptr a 0) (.ptr f 0) (sv w) (.int .i64 (i : Int)) S = ek 4 (frR 60 [] l) U/\Fd U r a o f N v' ((wins (w.drop i)).foldl stepF p)/\Grew (Wf r o r v) S U/\Fr v v' S
 | _, _, 0, _, _, _, _, hq, _, _ => by omega
 | k, i, q + 1, v, p, S, hi, hq, hle, F => by
  have ho := F.on;obtain ⟨ks, acc⟩ := p;have few : ks.length + acc.length<=1000 := F.few;have hmap : MapAt S r (kvS (qex ks)) := F.map
  have hln : lnMap (.map r) S = some (.int .i64 (ks.length : Int), S) := by
   have := lnMap_of ho hmap;rw [this]; unfold kvS qex; rw [lM, lM]
  by_cases hc : i + 32<=w.length
  . have hhead : ∀ R, ifK (.bool (decide (0 < (ks.length : Int)))) (
(ld1 (.ptr f 0) (onS S)).bind fun p36 =>
(qbl E0 9 (sv w) (some (.int .i64 (i : Int))) (some (.int .i64 ((i + 32 : Nat) : Int))) none (onS p36.2)).bind fun p41 =>
callDR (frR 60 [(5, .ptr a 0), (11, .ptr f 0), (12, sv w), (13, .int .i64 (i : Int)), (38, .int .i64 (i : Int)), (39, .int .i64 ((i + 32 : Nat) : Int)), (40, sv w), (41, .int .i64 (w.length : Int)), (42, .bool true), (43, .bool true), (44, .map r), (45, .int .i64 (ks.length : Int)), (46, .bool (decide (0 < (ks.length : Int)))), (47, .bool (decide (0 < (ks.length : Int)))), (50, p36.1), (51, sv w), (52, .int .i64 (i : Int)), (53, .int .i64 (i : Int)), (54, .int .i64 ((i + 32 : Nat) : Int)), (55, p41.1)] l) (qat E0 (DB8_21.l.r.l.l.r.l.l).ops) S 6 [p36.2.log, [], [], [], [], p41.2.log] (qdl E0 (ev E0 KD (m + 1)) p36.1 [p41.1] (onS p41.2)) fun t42 S42 =>
qm8 [(0, [5])] S [p36.2.log, [], [], [], [], p41.2.log, S42.log] S42 fun S43 =>
(qa4 E0 .add 3 false true (.int .i64 (i : Int)) (.int .i64 1)).bind fun t45 =>
L8_25 (ev E0 KD (m + 1)) Nn nk ek q l (.ptr a 0) (.ptr f 0) (sv w) t45 S43) (
ek 4 (frR 60 [] l) S) = R->L8_25 (ev E0 KD (m + 1)) Nn nk ek (q + 1) l (.ptr a 0) (.ptr f 0) (sv w) (.int .i64 (i : Int)) S = R := fun R hR => by
     rw [L8_25_eq, show V.int .i64 32 = .int .i64 ((32 : Nat) : Int) from rfl, addN _ _ (by omega), oB, qc9, oB];dsimp only;rw [leqN, dT hc, oB];simp only [gTT, oB, cT];rw [F.ptr.ld ho, oB];dsimp only;rw [hln, oB];dsimp only;rw [gtrI0, oB, pickV_bool, cT, oB];exact hR
    cases ks with
    | nil =>
     refine ⟨v, S, hhead _ ?_, by rw [foldF_nil]; exact F, Grew.refl _ _, fun b hb => .inl hb⟩;rw [ifK_bool]; rfl
    | cons k0 ks =>
     obtain ⟨k', rfl⟩ : ∃ k', k = k' + 1 := ⟨k - 1, by omega⟩
     obtain ⟨v1, U1, b1, b2, b3, b4⟩ := f15_run m F ((w.drop i).take 32);obtain ⟨L, b1'⟩ := Lg.ev_lg lgD b1 [];obtain ⟨U', u1, u2, u3, u4⟩ := qhu ho U1 [] [(S.lg [⟨f, 0, 1, false⟩]).log, [], [], [], [], (S.lg []).log, (U1.lg L).log];have g0 : Grew (fun _ => False) U1 U' := Grew.same (Grew.refl _ _) u2 u3 (u4.trans b2.on.symm);have F' : Fd U' r a o f N v1 (stepF (k0 :: ks, acc) ((w.drop i).take 32)) := b2.grew g0 (fun h => h) (fun h => h) (fun h => h) (fun h => h) (fun _ _ h => h)
     have gW : Grew (Wf r o r v) S U' := (b3.mono fun x _ e => by
      rcases e with e | e | e
      . exact .inl e
      . exact .inr (.inl e)
      . exact .inr (.inr (.inr e))).trans (g0.mono fun _ _ h => h.elim)
     obtain ⟨v', U, c1, c2, c3, c4⟩ := L25_spec (m := m) (Nn := Nn) w hw nk ek k' (i + 1) q v1 _ U' (by omega) (by omega) (by omega) F';refine ⟨v', U, hhead _ ?_, by rw [wins_at hc, List.foldl_cons]; exact c2, Wf.then gW b4 c3, Fr.trans b4 gW.next c4⟩;rw [ifK_bool, dT (by rw [List.length_cons]; omega), cT];simp only [ons, qc4];rw [F.fn.ldOn ho, oB];simp only [ons, qc4];rw [win_sv w hc, oB];simp only [ons, qc4];unfold fnF;rw [qdm body15.1 body15.2];rw [show (([] : List V) ++ [sv ((w.drop i).take 32)] ++ [.ptr a 0, .ptr o 0]) = [sv ((w.drop i).take 32), .ptr a 0, .ptr o 0] from rfl, b1', callDR_ret, qcg rfl, qgp (by omega), oB];rw [<- u1] at c1;exact c1
  . refine ⟨v, S, ?_, by rw [wins_lt (by rw [List.length_drop]; omega)]; exact F, Grew.refl _ _, fun b hb => .inl hb⟩
    rw [L8_25_eq, show V.int .i64 32 = .int .i64 ((32 : Nat) : Int) from rfl, addN _ _ (by omega), oB, qc9, oB];dsimp only;rw [leqN, dF hc, oB];simp only [gTF, oB, cF, pickV_bool, ifK_bool]
end
section
variable {S T U X : St} {r a o f N l : Nat} {v : V} {p : List Bs × List Bs}
structure Lp (S : St) (r a o f N l : Nat) (v : V) (p : List Bs × List Bs) : Prop where
 fd : Fd S r a o f N v p
 fl : f < l
 lN : l < N
 rcd : S.heap.get l = some (qfa 0 none (.ptr a 0) (.ptr f 0))
theorem Lp.grew {W : Nat->Prop} (h : Lp S r a o f N l v p) (g : Grew W S T) (h1 : ¬ W r) (h2 : ¬ W a) (h3 : ¬ W o) (h4 : ¬ W f) (h5 : ∀ b, qc7 v = some b->¬ W b) (h6 : ¬ W l) : Lp T r a o f N l v p :=
 ⟨h.fd.grew g h1 h2 h3 h4 h5, h.fl, h.lN, by rw [g.keep l (Nat.lt_of_lt_of_le h.lN h.fd.nx) h6]; exact h.rcd⟩
theorem Lp.grew0 (h : Lp S r a o f N l v p) (g : Grew (fun _ => False) S T) : Lp T r a o f N l v p := h.grew g (fun h => h) (fun h => h) (fun h => h) (fun h => h) (fun _ _ h => h) (fun h => h)
theorem round8 (m : Nat) (L : Lp S r a o f N l v p) (w : Bs) (hw : w.length<=100000) : ∃ v' U, qdl E0 (ev E0 KD (m + 2)) (.yield l) [sv w] S = some (.ret (.bool true), U)/\Lp U r a o f N l v' ((wins w).foldl stepF p)/\Grew (Wf r o l v) S U/\Fr v v' S := by
 have F := L.fd;have ho := F.on;have hra := F.ra; have hao := F.ao; have hof := F.of; have hfN := F.fN; have hnx := F.nx;have hfl := L.fl; have hlN := L.lN;have g1 : Grew (fun x => x = l) S (S.put l (qfa 2 none (.ptr a 0) (.ptr f 0))) := qb2 _ _;have hr1 : (S.put l (qfa 2 none (.ptr a 0) (.ptr f 0))).heap.get l = some (qfa 2 none (.ptr a 0) (.ptr f 0)) := by rw [qby, iP rfl]
 have hmid : midR l (frR 60 [(5, .ptr a 0), (11, .ptr f 0), (12, sv w), (37, sv w)] l) S = fun k => k (S.put l (qfa 2 none (.ptr a 0) (.ptr f 0))) := funext fun k => midR_of ho L.rcd rfl;have n1 : (S.put l (qfa 2 none (.ptr a 0) (.ptr f 0))).next = S.next := rfl
 generalize S.put l (qfa 2 none (.ptr a 0) (.ptr f 0)) = S1 at g1 hr1 hmid n1;have hbl : ∀ {v : V} {q : List Bs} {S : St} (_ : TLo S v q N) (b : Nat), qc7 v = some b->N<=b := fun h b e => (h.blk e).1;have F1 : Fd S1 r a o f N v p := F.grew g1 (by omega) (by omega) (by omega) (by omega) fun b hb => by have := hbl F.tl b hb; omega
 obtain ⟨v', S2, c1, c2, c3, c4⟩ := L25_spec (m := m) (Nn := qa1) (l := l) w hw (qjy l 0 none true) (exB 4 (qjy l 0 none true) (exB 3 (qjy l 0 none true) (fun i => qjy l 1 (some (.exit i)) false))) w.length 0 qa1 v p S1 rfl (by unfold qa1; omega) (by omega) F1
 have hr2 : S2.heap.get l = some (qfa 2 none (.ptr a 0) (.ptr f 0)) := by
  rw [c3.keep l (by omega) (fun e => by
   rcases e with e | e | e | e
   . omega
   . omega
   . omega
   . have := hbl F.tl l e; omega)]
  exact hr1
 have n2 := c3.next
 have g3 : Grew (fun x => x = l) S2 (S2.put l (qfa 0 none (.ptr a 0) (.ptr f 0))) := qb2 _ _;refine ⟨v', S2.put l (qfa 0 none (.ptr a 0) (.ptr f 0)), ?_, ⟨c2.grew g3 (by omega) (by omega) (by omega) (by omega) fun b hb => by have := hbl c2.tl b hb; omega, hfl, hlN, by rw [qby, iP rfl]⟩, ?_, fun b hb => by have := c4 b hb; rw [n1] at this; exact this⟩
 . refine round_run (da := DA8_21) (db := DB8_21) ho L.rcd (qa3 YA8_21 _ (by kernel_rfl)) (qa3 YB8_21 _ (by kernel_rfl)) (?_ : Y8_21 (ev E0 KD (m + 1)) qa1 l (.ptr a 0) (.ptr f 0) (sv w) S = _)
   rw [Y8_21_eq, hmid];dsimp only;rw [show V.int .i64 0 = .int .i64 ((0 : Nat) : Int) from rfl, c1, exB_same];exact endRK_of c2.on hr2 rfl
 . exact ((g1.mono fun x _ e => .inr (.inr (.inl e))).trans (c3.mono fun x _ e => by
    rcases e with e | e | e | e
    . exact .inl e
    . exact .inr (.inl e)
    . exact .inl e
    . exact .inr (.inr (.inr e)))).trans (g3.mono fun x _ e => .inr (.inr (.inl e)))
end
section
variable {S T U X : St} {r a o f N l : Nat} {v : V} {p : List Bs × List Bs}
theorem sortT_kp : ∀ l : List Bs, sortT (l.map kp) = (qkp l).map kp
 | [] => rfl
 | x :: l => by
  show insS (kp x).1 (kp x).2 (sortT (l.map kp)) = _;rw [sortT_kp l];exact insS_ins x _
theorem qpq : ∀ l : List Bs, qjj (qer l) = some (l.map kp)
 | [] => rfl
 | x :: l => by
  show ((qjj (qer l)).bind fun q => some ((x.length, qan x) :: q)) = _;rw [qpq l]; rfl
theorem qkq (l : List Bs) : (qkp l).length = l.length := (qih l).length_eq
theorem sort_run (n : Nat) (ho : S.on = false) {l : List Bs} (h : TLo S v l N) (hn : l.Nodup) (hl : l.length < 1000000) : ∃ U, (ev E0 KD (n + 1)).f 17 [v] S = some (.ret (.tuple []), U)/\TLo U v (qkp l) N/\Grew (fun x => qc7 v = some x) S U := by
 rcases h with ⟨rfl, rfl⟩ | ⟨r, rfl, h1, h2, h3, h4⟩
 . exact ⟨S, by rw [qaq kd17]; rfl, .nil, Grew.refl _ _⟩
 . obtain ⟨U, k1, k2, k3, k4⟩ := RowAt.stN (qer (qkp l)) ho h1 0 (by rw [qaw, qaw, qkq]; omega)
   have hld := h1.ldN ho l.length 0 (by rw [qaw]; omega);rw [List.drop_zero, List.take_of_length_le (by rw [qaw]; omega), Nat.zero_mul] at hld;rw [Nat.zero_mul] at k1;refine ⟨U, ?_, .inr ⟨r, by rw [qkq], ?_, by rw [k4]; exact h2, h3, by rw [qkq]; exact h4⟩, k3.mono fun x _ e => by subst e; rfl⟩
   . rw [qaq kd17]
     show (bif Nat.beq 1 1 then qj1 r 0 l.length S else none) = _;rw [show Nat.beq 1 1 = true from rfl, cT];unfold qj1;rw [show Nat.beq l.length 0 = false from Ev.beq_false.2 (by omega), cF, hld, oB];dsimp only;rw [qpq, oB];rw [sortT_kp, blt_true.2 hl, rising_of (sortB_pw hn), Bool.and_self, cT, show qlf ((qkp l).map kp) = qer (qkp l) from by unfold qlf qer; rw [List.map_map]; rfl, k1];rfl
   . have hlen : (qer (qkp l)).length = (qer l).length := by rw [qaw, qaw, qkq]
     rw [List.take_zero, List.nil_append, Nat.zero_add, List.drop_of_length_le (by rw [hlen]; exact lR _), List.append_nil] at k2;exact k2
theorem askL_len : ∀ (hs ks : List Bs), (askL ks hs).length<=ks.length + hs.length
 | [], ks => lR _
 | h :: hs, ks => by
  rw [askL];refine Nat.le_trans (askL_len hs _) ?_;rw [List.length_cons];split
  . split
    . omega
    . rw [lA, List.length_singleton]; omega
  . omega
theorem askL_nodup : ∀ (hs ks : List Bs), ks.Nodup->(askL ks hs).Nodup
 | [], ks, h => h
 | h :: hs, ks, hk => by
  rw [askL];refine askL_nodup hs _ ?_;split
  . split
    . exact hk
    . next hm => exact List.nodup_append.2 ⟨hk, List.pairwise_singleton _ h, fun x hx y hy e => hm (by rw [List.mem_singleton.1 hy] at e; rw [<- e]; exact hx)⟩
  . exact hk
theorem mem_askL {x : Bs} : ∀ (hs ks : List Bs), x ∈ askL ks hs ↔ x ∈ ks\/(x ∈ hs/\isH x = true)
 | [], ks => by simp [askL]
 | h :: hs, ks => by
  rw [askL, mem_askL hs];cases hi : isH h with
  | false =>
   rw [iN (by simp)];constructor
   . rintro (e | ⟨e, e'⟩)
     . exact .inl e
     . exact .inr ⟨mO _ e, e'⟩
   . rintro (e | ⟨e, e'⟩)
     . exact .inl e
     . rcases List.mem_cons.1 e with q | q
       . rw [q, hi] at e'; cases e'
       . exact .inr ⟨q, e'⟩
  | true =>
   rw [iP rfl];by_cases hm : h ∈ ks
   . rw [iP hm]
     constructor
     . rintro (e | ⟨e, e'⟩)
       . exact .inl e
       . exact .inr ⟨mO _ e, e'⟩
     . rintro (e | ⟨e, e'⟩)
       . exact .inl e
       . rcases List.mem_cons.1 e with q | q
         . rw [q]; exact .inl hm
         . exact .inr ⟨q, e'⟩
   . rw [iN hm]
     constructor
     . rintro (e | ⟨e, e'⟩)
       . rcases List.mem_append.1 e with q | q
         . exact .inl q
         . rw [List.mem_singleton.1 q]; exact .inr ⟨List.mem_cons_self .., hi⟩
       . exact .inr ⟨mO _ e, e'⟩
     . rintro (e | ⟨e, e'⟩)
       . exact .inl (List.mem_append_left _ e)
       . rcases List.mem_cons.1 e with q | q
         . rw [q]; exact .inl (List.mem_append_right _ (List.mem_singleton_self _))
         . exact .inr ⟨q, e'⟩
structure Split (ks0 : List Bs) (seen : List Bs) (p : List Bs × List Bs) : Prop where
 nd1 : p.1.Nodup
 nd2 : p.2.Nodup
 left : ∀ x, x ∈ p.1 ↔ x ∈ ks0/\x ∉ seen
 got : ∀ x, x ∈ p.2 ↔ x ∈ ks0/\x ∈ seen
theorem Split.step {ks0 seen : List Bs} {p : List Bs × List Bs} (h : Split ks0 seen p) (w : Bs) : Split ks0 (seen ++ [w]) (stepF p w) := by
 unfold stepF;by_cases hm : w ∈ p.1
 . rw [iP hm]
   have h1 := (h.left w).1 hm;refine ⟨h.nd1.erase w, List.nodup_append.2 ⟨h.nd2, List.pairwise_singleton _ w, fun x hx y hy e => ?_⟩, fun x => ?_, fun x => ?_⟩
   . rw [List.mem_singleton.1 hy] at e
     rw [e] at hx;exact h1.2 ((h.got w).1 hx).2
   . rw [h.nd1.mem_erase_iff, h.left x, List.mem_append, List.mem_singleton]
     constructor
     . rintro ⟨a, b, c⟩; exact ⟨b, fun e => e.elim c a⟩
     . rintro ⟨a, b⟩; exact ⟨fun e => b (.inr e), a, fun e => b (.inl e)⟩
   . rw [List.mem_append, List.mem_append, List.mem_singleton, h.got x]
     constructor
     . rintro (⟨a, b⟩ | e)
       . exact ⟨a, .inl b⟩
       . rw [e]; exact ⟨h1.1, .inr rfl⟩
     . rintro ⟨a, b | b⟩
       . exact .inl ⟨a, b⟩
       . exact .inr b
 . rw [iN hm]
   refine ⟨h.nd1, h.nd2, fun x => ?_, fun x => ?_⟩
   . rw [h.left x, List.mem_append, List.mem_singleton]
     constructor
     . rintro ⟨a, b⟩
       exact ⟨a, fun e => e.elim b fun e => hm (by rw [<- e]; exact (h.left x).2 ⟨a, b⟩)⟩
     . rintro ⟨a, b⟩; exact ⟨a, fun e => b (.inl e)⟩
   . rw [h.got x, List.mem_append, List.mem_singleton]
     constructor
     . rintro ⟨a, b⟩; exact ⟨a, .inl b⟩
     . rintro ⟨a, b | b⟩
       . exact ⟨a, b⟩
       . refine ⟨a, Classical.byContradiction fun hn => hm ?_⟩
         rw [<- b]; exact (h.left x).2 ⟨a, hn⟩
theorem Split.fold {ks0 : List Bs} : ∀ (ws seen : List Bs) (p : List Bs × List Bs), Split ks0 seen p->Split ks0 (seen ++ ws) (ws.foldl stepF p)
 | [], seen, p, h => by rw [List.append_nil]; exact h
 | w :: ws, seen, p, h => by
  have := Split.fold ws (seen ++ [w]) _ (h.step w);rw [List.append_assoc] at this;exact this
def foundB (x : Nd) (hs : List Bs) : List Bs := ((qej x).foldl stepF (askL [] hs, [])).2
theorem qj6 (x : Nd) (hs : List Bs) : Split (askL [] hs) (qej x) ((qej x).foldl stepF (askL [] hs, [])) := by
 have := Split.fold (ks0 := askL [] hs) (qej x) [] (askL [] hs, []) ⟨askL_nodup hs [] .nil, .nil, fun x => by simp, fun x => by simp⟩
 rwa [List.nil_append] at this
theorem mem_found {x : Nd} {hs : List Bs} {h : Bs} : h ∈ foundB x hs ↔ h ∈ hs/\hit x h = true := by
 unfold foundB hit;rw [(qj6 x hs).got h, mem_askL];simp only [List.not_mem_nil, false_or, bA, List.contains_iff_mem];constructor
 . rintro ⟨⟨a, b⟩, c⟩; exact ⟨a, b, c⟩
 . rintro ⟨a, b, c⟩; exact ⟨⟨a, b⟩, c⟩
theorem keepB_pw (x : Nd) : ∀ (hs acc : List Bs), acc.Pairwise (· < ·)->(qgj x acc hs).Pairwise (· < ·)
 | [], _, h => h
 | h :: hs, acc, ha => by
  rw [qgj];refine keepB_pw x hs _ ?_;split
  . exact putB_pw ha
  . exact ha
theorem qor (x : Nd) {h : Bs} : ∀ (hs acc : List Bs), h ∈ qgj x acc hs ↔ h ∈ acc\/(h ∈ hs/\hit x h = true)
 | [], acc => by simp [qgj]
 | k :: hs, acc => by
  rw [qgj, qor x hs];cases hk : hit x k with
  | false =>
   rw [iN (by simp)];constructor
   . rintro (e | ⟨e, e'⟩)
     . exact .inl e
     . exact .inr ⟨mO _ e, e'⟩
   . rintro (e | ⟨e, e'⟩)
     . exact .inl e
     . rcases List.mem_cons.1 e with q | q
       . rw [q, hk] at e'; cases e'
       . exact .inr ⟨q, e'⟩
  | true =>
   rw [iP rfl, mem_putB];constructor
   . rintro ((e | e) | ⟨e, e'⟩)
     . rw [e]; exact .inr ⟨List.mem_cons_self .., hk⟩
     . exact .inl e
     . exact .inr ⟨mO _ e, e'⟩
   . rintro (e | ⟨e, e'⟩)
     . exact .inl (.inr e)
     . rcases List.mem_cons.1 e with q | q
       . exact .inl (.inl q)
       . exact .inr ⟨q, e'⟩
theorem pw_eq : ∀ {l m : List Bs}, l.Pairwise (· < ·)->m.Pairwise (· < ·)->(∀ x, x ∈ l ↔ x ∈ m)->l = m
 | [], [], _, _, _ => rfl
 | [], y :: m, _, _, h => by have := (h y).2 (List.mem_cons_self ..); cases this
 | x :: l, [], _, _, h => by have := (h x).1 (List.mem_cons_self ..); cases this
 | x :: l, y :: m, h1, h2, h => by
  rw [List.pairwise_cons] at h1 h2
  have e : x = y := by
   rcases List.mem_cons.1 ((h x).1 (List.mem_cons_self ..)) with e | e
   . exact e
   . rcases List.mem_cons.1 ((h y).2 (List.mem_cons_self ..)) with e' | e'
     . exact e'.symm
     . exact absurd (h1.1 y e') (List.lt_asymm (h2.1 x e))
  subst e
  congr 1
  refine pw_eq h1.2 h2.2 fun z => ?_;constructor
  . intro hz
    rcases List.mem_cons.1 ((h z).1 (mO _ hz)) with e | e
    . rw [e] at hz; exact absurd (h1.1 x hz) (List.lt_irrefl x)
    . exact e
  . intro hz
    rcases List.mem_cons.1 ((h z).2 (mO _ hz)) with e | e
    . rw [e] at hz; exact absurd (h2.1 x hz) (List.lt_irrefl x)
    . exact e
theorem same_found (x : Nd) (hs : List Bs) : qkp (foundB x hs) = qgj x [] hs :=
 pw_eq (sortB_pw (qj6 x hs).nd2) (keepB_pw x hs [] .nil) fun h => by
  rw [mem_sortB, mem_found, qor];simp
end
section
variable {S T U X : St} {r a o f N l : Nat} {v : V} {p : List Bs × List Bs}
theorem oneV_map (r : Nat) : OneV (.map r) := ⟨rfl, rfl, rfl, rfl⟩
theorem oneV_fn (a o : Nat) : OneV (fnF a o) := ⟨rfl, rfl, rfl, rfl⟩
theorem body32 : E0.ext.get 32 = none/\qb9 E0 32 = true := ⟨by kernel_rfl, by kernel_rfl⟩
theorem fin8_none {self : EV} (x0 x1 p0 v c d e : V) (S : St) : finR E0 self Try.f8 (frD 60 [(0, x0), (1, x1), (2, p0), (4, v), (14, c), (15, d), (16, e)] []) S = some (.ret v, S) := by kernel_rfl
theorem lv8 {self : EV} (v x y z : V) (S : St) (ds : List AD) : qbi E0 self Try.f8 (frD 60 [(4, v), (10, x), (57, y), (58, z), (59, v)] ds) [] .ret S = some (.ret v, S) := by kernel_rfl
end
theorem u25 : Try.prog.underlying 25 = some (.slice 9) := by kernel_rfl
theorem flat_at {β : Type} {z : Nat} (hz : 0 < z) : ∀ (ls : List (List β)), (∀ l ∈ ls, l.length = z)->∀ (j : Nat) c, ls.flatten[j]? = some c->∃ l, ls[j / z]? = some l/\l[j % z]? = some c
 | [], _, j, c, h => by simp at h
 | l :: ls, hl, j, c, h => by
  rw [List.flatten_cons] at h;have h0 := hl l (List.mem_cons_self ..);by_cases hj : j < z
  . rw [List.getElem?_append_left (by omega)] at h
    exact ⟨l, by rw [Nat.div_eq_of_lt hj]; rfl, by rw [Nat.mod_eq_of_lt hj]; exact h⟩
  . rw [List.getElem?_append_right (by omega), h0] at h
    obtain ⟨l', h1, h2⟩ := flat_at hz ls (fun x hx => hl x (mO _ hx)) (j - z) c h;refine ⟨l', ?_, ?_⟩
    . rw [show j = (j - z) + z by omega, Nat.add_div_right _ hz]; exact h1
    . rw [show j = (j - z) + z by omega, Nat.add_mod_right]; exact h2
theorem pick_any {α : Type} {P : Nat->α->Prop} : ∀ (n : Nat), (∀ i, i < n->∃ b, P i b)->∃ l : List α, l.length = n/\∀ i b, l[i]? = some b->P i b
 | 0, _ => ⟨[], rfl, fun i b h => by simp at h⟩
 | n + 1, h => by
  obtain ⟨l, h1, h2⟩ := pick_any n fun i hi => h i (by omega);obtain ⟨b, hb⟩ := h n (by omega);refine ⟨l ++ [b], by simp [h1], fun i c hc => ?_⟩;by_cases hi : i < n
  . rw [List.getElem?_append_left (by omega)] at hc
    exact h2 i c hc
  . have hi2 : i = n := by
     have := (List.getElem?_eq_some_iff.1 hc).1;simp [h1] at this;omega
    subst hi2;rw [List.getElem?_append_right (by omega)] at hc;simp [h1] at hc;subst hc;exact hb
theorem vrels_map {ρ : Rho} {α : Type} (f : α->V) (g : α->Value) : ∀ l : List α, (∀ a ∈ l, VRel ρ (f a) (g a))->VRels ρ (l.map f) (l.map g)
 | [], _ => .nil
 | a :: l, h => .cons (h a (List.mem_cons_self ..)) (vrels_map f g l fun b hb => h b (mO _ hb))
section
variable {H : Type} {enc : TypeId × Value->H} {W : World}
theorem qls {α : Type} {t e z : Nat} {F : α->V} {Q : α->Prop} (ht : Try.prog.underlying t = some (.slice e)) (hz : Try.prog.cellsOf e = z) (hz0 : 0 < z)
 (el : ∀ fuel cs (x : DataW H × List MemPlace), DataW.trod enc Try.prog W 0 (fun _ => true) true fuel e cs = some x->∃ (a : α) (cv : Value), VRel (frz W) (F a) cv/\qa8 (F a) = false/\cv.cells.toList = cs/\Q a)
 {fuel : Nat} {cs : List Value} {x : DataW H × List MemPlace} (h : DataW.trod enc Try.prog W 0 (fun _ => true) true fuel t cs = some x) :
 ∃ (cv : Value) (v : V) (l : List α), cs = [cv]/\VRel (frz W) v cv/\((l = []/\(v = .nilslice\/v = .eslice))\/v = .list z (l.map F))/\(∀ a ∈ l, Q a)/\∃ ad len cap, cv = .slice ad len cap := by
 rcases DataW.trod_slice ht h with ⟨hv, _⟩ | ⟨a, len, cap, elems, rest, m, hm, hv, _, _, hcap, hmax, hel, hat, _⟩
 . exact ⟨_, .nilslice, [], hv, .nilslice, .inl ⟨rfl, .inl rfl⟩, fun _ h => by simp at h, _, _, _, rfl⟩
 . by_cases h0 : len = 0
   . subst h0
     exact ⟨_, .eslice, [], hv, .eslice a cap, .inl ⟨rfl, .inr rfl⟩, fun _ h => by simp at h, _, _, _, rfl⟩
   . have hAt : ∀ i, i < len->∃ p : α × Value, VRel (frz W) (F p.1) p.2/\qa8 (F p.1) = false/\Q p.1/\p.2.cells.toList.length = z/\∀ k, k < z->∃ y, p.2.cells.toList[k]? = some y/\W.cell? ((a.add (i * z)).add k) = some y := fun i hi => by
      have := hat i hi;rw [hz, List.getElem?_eq_getElem (by omega), oI] at this;obtain ⟨cells, h1, h2⟩ := this;obtain ⟨b, cv, b1, b2, b3, b4⟩ := el _ _ _ h2;obtain ⟨c1, c2⟩ := cells?_at h1;exact ⟨(b, cv), b1, b2, b4, by rw [b3]; exact c1, by rw [b3]; exact c2⟩
     obtain ⟨p0, _, _, _, _, q0⟩ := hAt 0 (by omega);obtain ⟨y0, _, hb0⟩ := q0 0 hz0
     have hspot : a.spot = none/\∃ bg ty fr, W.heap[a.block]? = some (.cells bg ty fr) := by
      rw [Nat.zero_mul, show (a.add 0).add 0 = a from rfl] at hb0;unfold World.cell? at hb0;split at hb0
      . rename_i bg ty fr hh
        split at hb0
        . cases hb0
        . rename_i hsp
          exact ⟨by simpa using hsp, bg, ty, fr, hh⟩
      . cases hb0
     obtain ⟨hsp, bg, ty, fr, hheap⟩ := hspot;obtain ⟨l, l1, l2⟩ := pick_any len hAt;have hin : ∀ p ∈ l, ∃ i, l[i]? = some p := fun p hp => List.mem_iff_getElem?.1 hp;refine ⟨_, .list z ((l.map (·.1)).map F), l.map (·.1), hv, ?_, .inr rfl, fun b hb => ?_, _, _, _, rfl⟩
     . rw [List.map_map]
       refine .list (vrels_map _ (·.2) l fun p hp => ?_) (fun v hv => ?_) (by rw [lM]; exact l1) hcap fun _ => ⟨fun cv hcv => ?_, hsp, bg, ty, fr, hheap, fun j c hj => ?_⟩
       . obtain ⟨i, hi⟩ := hin p hp
         exact (l2 i p hi).1
       . rw [List.mem_map] at hv
         obtain ⟨p, hp, rfl⟩ := hv;obtain ⟨i, hi⟩ := hin p hp;exact (l2 i p hi).2.1
       . rw [List.mem_map] at hcv
         obtain ⟨p, hp, rfl⟩ := hcv;obtain ⟨i, hi⟩ := hin p hp;have := (l2 i p hi).2.2.2.1
         rwa [Array.length_toList] at this
       . rw [List.flatMap_def, List.map_map] at hj
         obtain ⟨cl, h1, h2⟩ := flat_at hz0 _ (fun cl hcl => by
          rw [List.mem_map] at hcl;obtain ⟨p, hp, rfl⟩ := hcl;obtain ⟨i, hi⟩ := hin p hp
          exact (l2 i p hi).2.2.2.1) j c hj
         rw [List.getElem?_map, Option.map_eq_some_iff] at h1;obtain ⟨p, hp, rfl⟩ := h1;obtain ⟨y, y1, y2⟩ := (l2 _ p hp).2.2.2.2 (j % z) (Nat.mod_lt _ hz0)
         have hc : c = y := by
          have := h2.symm.trans y1;simpa using this
         subst hc;rw [add_eq hsp, add_eq rfl] at y2;unfold World.cell? at y2;simp only at y2;rw [hheap] at y2
         have he : a.off + j / z * z + j % z = a.off + j := by
          have := Nat.div_add_mod j z;rw [Nat.mul_comm] at this;omega
         rw [he] at y2;exact y2
     . rw [List.mem_map] at hb
       obtain ⟨p, hp, rfl⟩ := hb;obtain ⟨i, hi⟩ := hin p hp;exact (l2 i p hi).2.2.1
theorem texts_of_trod {fuel : Nat} {cs : List Value} {x : DataW H × List MemPlace} (h : DataW.trod enc Try.prog W 0 (fun _ => true) true fuel 25 cs = some x) :
 ∃ (cv : Value) (v : V) (l : List Bs), cs = [cv]/\VRel (frz W) v cv/\TV v l/\Short l/\∃ ad len cap, cv = .slice ad len cap := by
 obtain ⟨cv, v, l, h1, h2, h3, hq, h4⟩ := qls (F := sv) (Q := fun a => a.length < 9223372036854775808) u25 c9 (by omega) (fun fuel cs x hx => by
  obtain ⟨s, rfl, _, hs⟩ := DataW.trod_string u9 hx
  exact ⟨s.data.toList, .string s, .str s, rfl, rfl, by
   have h1 : s.data.toList.length = s.size := by rw [Array.length_toList]; rfl
   unfold maxLen at hs
   omega⟩) h
 exact ⟨cv, v, l, h1, h2, h3, hq, h4⟩
end
section
variable {S T U : St}
theorem min20 (n : Nat) (S : St) : qhg minV (.int .i64 (n : Int)) [(.int .i64 20)] S = some (.int .i64 ((min n 20 : Nat) : Int), S) := by
 rw [qo8]
 congr 3
 omega
theorem keepB_len (x : Nd) : ∀ (hs acc : List Bs), (qgj x acc hs).length<=acc.length + hs.length
 | [], acc => lR _
 | h :: hs, acc => by
  rw [qgj];refine Nat.le_trans (keepB_len x hs _) ?_;rw [List.length_cons];have := putB_len h acc;split <;> omega
end
section
variable {S T U X S0 : St} {r a o f N l : Nat} {v kv : V} {p : List Bs × List Bs}
def qjs (x : Nd) (kv : V) : List V := [sv x.name, .int .i64 x.kind, .bool x.exec, sv x.data, kv]
theorem qf4 (x : Nd) (kv : V) : qd7 x kv = qmc (qjs x kv) := rfl
structure NodeR (S : St) (b : Nat) (x : Nd) (kv : V) : Prop where
 on : S.on = false
 bx : Bx S b 24 (qjs x kv)
theorem NodeR.f3 {b : Nat} {x : Nd} (h : NodeR S b x kv) : ld1 (.ptr b 3) S = some (sv x.data, S) := Bx.ld1 h.on h.bx 3 (by show 3 < 5; decide) qm5
theorem NodeR.f4 {b : Nat} {x : Nd} (h : NodeR S b x kv) : ld1 (.ptr b 4) S = some (kv, S) := Bx.ld1 h.on h.bx 4 (by show 4 < 5; decide) qm5
theorem NodeR.fA {b : Nat} {x : Nd} (h : NodeR S b x kv) : ldA 5 (.ptr b 0) S = some (qd7 x kv, S) := by rw [qf4]; exact Bx.ldA h.on h.bx rfl qm5
theorem NodeR.grew {W : Nat->Prop} {b : Nat} {x : Nd} (h : NodeR S b x kv) (hb : b < S.next) (hw : ¬ W b) (g : Grew W S T) : NodeR T b x kv := ⟨g.on.trans h.on, h.bx.grew hb hw g⟩
theorem qka (ho : S.on = false) (x : Nd) (kv : V) : ∃ t, qm6 24 (qd7 x kv) S = some (.ptr S.next 0, t)/\NodeR t S.next x kv/\Grew (fun _ => False) S t/\t.next = S.next + 1 := by
 obtain ⟨t, h1, h2, h3, h4⟩ := box_new ho 24 (qjs x kv);rw [qf4];exact ⟨t, h1, ⟨h3.on.trans ho, h2⟩, h3, h4⟩
theorem check_runR (n : Nat) (x : Nd) (ok : x.ok) {d M : Nat} (hd : d<=3) (ho : S.on = false) (hk : KidsD d S kv M x.kids) : (ev E0 KD (n + 1)).f 11 [qd7 x kv] S = some (.ret (.int .i64 (qgw x)), S) := by
 have h3 : KidsD 3 S kv M x.kids := by
  match d, hd, hk with
  | 0, _, hk => exact hk.up.up.up
  | 1, _, hk => exact hk.up.up
  | 2, _, hk => exact hk.up
  | 3, _, hk => exact hk
 rw [qaq kd11];exact kfNodeT_run 3 qgw x ok ho h3
theorem nodeR_new (ho : S.on = false) (z : Tr V) (x : Nd) (kv : V) : ∃ t, stP 5 (.ptr S.next 0) (qd7 x kv) (nwP 24 5 z S).2 = some (.tuple [], t)/\NodeR t S.next x kv/\Grew (fun _ => False) S t/\t.next = S.next + 1 := by
 obtain ⟨t, h1, h2, h3, h4⟩ := var_new ho 24 5 z (qjs x kv) rfl (by omega) qm5;rw [qf4];exact ⟨t, h1, ⟨h3.on.trans ho, h2⟩, h3, h4⟩
theorem L33R_spec {self : EV} {Nn : Nat} (nk : Ac->St->Rs) (ek : Nat->Ac->St->Rs) (x : Nd) (ok : x.ok) {d : Nat}
 (hself : ∀ y ∈ x.kids, ∀ (kv v : V) (p : List Bs × List Bs) (S : St), Lp S r a o f N l v p->KidsD (d - 1) S kv r y.kids->∃ v' U, self.f 33 [qd7 y kv, .yield l] S = some (.ret (.bool true), U)/\Lp U r a o f N l v' ((qej y).foldl stepF p)/\Grew (Wf r o l v) S U/\Fr v v' S) :
 ∀ (rest : List Nd) (i q : Nat) (v : V) (p : List Bs × List Bs) (S : St), x.kids.drop i = rest->rest.length < q->Lp S r a o f N l v p->KidsD d S kv r x.kids ->
 ∃ v' U, L33_14 self Nn nk ek q (.yield l) kv (.int .i64 (x.kids.length : Int)) (.int .i64 (i : Int)) S = ek 0 (fr 24 []) U/\Lp U r a o f N l v' ((qgt rest).foldl stepF p)/\Grew (Wf r o l v) S U/\Fr v v' S
 | _, _, 0, _, _, _, _, hq, _, _ => by omega
 | [], i, q + 1, v, p, S, hi, hq, L, K => by
  refine ⟨v, S, ?_, by rw [qgt]; exact L, Grew.refl _ _, fun b hb => .inl hb⟩;rw [L33_14_eq, lssN, dF (Nat.not_lt.2 (qbm hi)), oB, ifK_bool, cF]
 | y :: rest, i, q + 1, v, p, S, hi, hq, L, K => by
  obtain ⟨hil, hy, hr, hmem⟩ := qcn hi;have few := ok.at.few;obtain ⟨q', kv', x1, x2, x3⟩ := K.at L.fd.on hil;rw [hy] at x2 x3;obtain ⟨S1, a1, a2, a3, a4⟩ := nodeR_new L.fd.on (Tr.ofListFrom .nil [(sv []), (.int .i64 0), (.bool false), (sv []), .nilslice] 0) y kv';obtain ⟨v1, U1, b1, b2, b3, b4⟩ := hself y hmem kv' v p S1 (L.grew0 a3) (x3.grew (fun _ _ h => h) a3)
  have f1 : Fr v v1 S := fun b hb => by
   rcases b4 b hb with e | e
   . exact .inl e
   . exact .inr (by omega)
  have g1 : Grew (Wf r o l v) S U1 := (a3.mono fun _ _ h => h.elim).trans b3;have hra := L.fd.ra; have hao := L.fd.ao; have hof := L.fd.of; have hfN := L.fd.fN; have hfl := L.fl
  have K1 : KidsD d U1 kv r x.kids := K.grew (fun k hk e => by
   rcases e with e | e | e | e
   . omega
   . omega
   . omega
   . have := (L.fd.tl.blk e).1; omega) g1
  obtain ⟨v', U, c1, c2, c3, c4⟩ := L33R_spec (self := self) (Nn := Nn) nk ek x ok hself rest (i + 1) q v1 _ U1 hr (by simpa using hq) b2 K1;refine ⟨v', U, ?_, by rw [qgt, List.foldl_append]; exact c2, Wf.then g1 f1 c3, Fr.trans f1 g1.next c4⟩;rw [L33_14_eq, lssN, dT hil, oB, ifK_bool, cT, x1, oB, x2, oB];dsimp only;rw [oB, qfv, a1, oB];dsimp only;rw [a2.fA, oB];dsimp only;rw [b1, callP_ret, unV_not, oB, ifK_bool, Bool.not_true, cF, qgp (by omega), oB, c1]
theorem each_runD (m : Nat) : ∀ (k : Nat) (x : Nd), qgh x<=k->x.ok->∀ (d : Nat) (kv v : V) (p : List Bs × List Bs) (S : St), Lp S r a o f N l v p->KidsD d S kv r x.kids->∃ v' U, (ev E0 KD (m + k + 2)).f 33 [qd7 x kv, .yield l] S = some (.ret (.bool true), U)/\Lp U r a o f N l v' ((qej x).foldl stepF p)/\Grew (Wf r o l v) S U/\Fr v v' S
 | 0, x, hc, _, _, _, _, _, _, _, _ => by have := qfq x; omega
 | k + 1, x, hc, ok, d, kv, v, p, S, L, K => by
  have hcx := qfq x;obtain ⟨S1, k1, k2, k3, k4⟩ := qka L.fd.on x kv;have L1 := L.grew0 k3;obtain ⟨v1, S2, a1, a2, a3, a4⟩ := round8 (m + k) L1 x.data (by have := ok.at.data; omega);have hnx := L.fd.nx; have hra := L.fd.ra; have hao := L.fd.ao; have hof := L.fd.of; have hfl := L.fl; have hlN := L.lN
  have k2' : NodeR S2 S.next x kv := k2.grew (by omega) (fun e => by
   rcases e with e | e | e | e
   . omega
   . omega
   . omega
   . have := L.fd.tl.lt e; omega) a3
  have K2 : KidsD d S2 kv r x.kids := (K.grew (fun _ _ h => h) k3).grew (fun k hk e => by
   rcases e with e | e | e | e
   . omega
   . omega
   . omega
   . have := (L.fd.tl.blk e).1; omega) a3
  have f1 : Fr v v1 S := fun b hb => by
   rcases a4 b hb with e | e
   . exact .inl e
   . exact .inr (by omega)
  have g1 : Grew (Wf r o l v) S S2 := (k3.mono fun _ _ h => h.elim).trans a3
  obtain ⟨v', U, b1, b2, b3, b4⟩ := L33R_spec (self := ev E0 KD (m + k + 2)) (Nn := qa1) (R33_8 (ev E0 KD (m + k + 2)) qa1 (qak E0 (ev E0 KD (m + k + 2)) Try.f33) qa9) (exB 0 (R33_8 (ev E0 KD (m + k + 2)) qa1 (qak E0 (ev E0 KD (m + k + 2)) Try.f33) qa9) qa9) x ok
   (d := d) (fun y hy kv v p S hL hK => each_runD m k y (by have := cntL_mem hy; omega) (ok.at.kids y hy) (d - 1) kv v p S hL hK) x.kids 0 qa1 v1 _ S2 rfl (by have := ok.at.few; unfold qa1; omega) a2 K2
  refine ⟨v', U, rd33 ?_, by rw [qgu, List.foldl_append]; exact b2, Wf.then g1 f1 b3, Fr.trans f1 g1.next b4⟩;show F33 (ev E0 KD (m + k + 2)) qa1 (qd7 x kv) (.yield l) S = _;rw [F33_eq, k1, oB];dsimp only;rw [faP3, oB, k2.f3, oB];dsimp only;rw [a1, callP_ret, unV_not, oB, ifK_bool, Bool.not_true, cF, faP4, oB, k2'.f4, oB];dsimp only;rw [K.len, oB];dsimp only;rw [show V.int .i64 0 = .int .i64 ((0 : Nat) : Int) from rfl, b1, exB_same, R33_8_eq]
theorem each_runR (m : Nat) (x : Nd) (ok : x.ok) {d : Nat} (L : Lp S r a o f N l v p) (K : KidsD d S kv r x.kids) : ∃ v' U, (ev E0 KD (m + qgh x + 2)).f 33 [qd7 x kv, .yield l] S = some (.ret (.bool true), U)/\Lp U r a o f N l v' ((qej x).foldl stepF p)/\Grew (Wf r o l v) S U/\Fr v v' S :=
 each_runD m (qgh x) x (lR _) ok d kv v p S L K
theorem f32R_run (m : Nat) (x : Nd) (ok : x.ok) {d b : Nat} (L : Lp S r a o f N l v p) (hb : NodeR S b x kv) (K : KidsD d S kv r x.kids) : ∃ v' U, (ev E0 KD (m + qgh x + 3)).f 32 [.yield l, .ptr b 0] S = some (.ret (.tuple []), U)/\Lp U r a o f N l v' ((qej x).foldl stepF p)/\Grew (Wf r o l v) S U/\Fr v v' S := by
 obtain ⟨v', U, b1, b2, b3, b4⟩ := each_runR m x ok L K;refine ⟨v', U, rd32 ?_, b2, b3, b4⟩;show F32 (ev E0 KD (m + qgh x + 2)) qa1 (.yield l) (.ptr b 0) S = _;rw [F32_eq, hb.fA, oB];dsimp only;rw [b1, callP_ret]
theorem f16R_run (m : Nat) (x : Nd) (kv : V) (ho : S.on = false) : ∃ U, (ev E0 KD (m + 1)).f 16 [qd7 x kv] S = some (.ret (.fn (.func 32) [] [.ptr S.next 0]), U)/\NodeR U S.next x kv/\Grew (fun _ => False) S U/\U.next = S.next + 1 := by
 obtain ⟨S1, k1, k2, k3, k4⟩ := qka ho x kv;refine ⟨S1, rd16 ?_, k2, k3, k4⟩;show F16 (ev E0 KD m) qa1 (qd7 x kv) S = _;rw [F16_eq, k1, oB]
theorem qn4 {m N : Nat} {v1 v2 v4 : V} {hs : List Bs} (hv : TL S0 v1 hs) (hS0 : S0.on = false) (hr0 : S0.next<=r) (hsh : Short hs) (hfew : hs.length<=1000) (nk : Ac->St->Rs) (ek : Nat->Ac->St->Rs) :
 ∀ (rest : List Bs) (i q : Nat) (ks : List Bs) (S : St), hs.drop i = rest->rest.length < q->S.on = false->MapAt S r (kvS (qex ks))->One S a 31 (.map r)->r < a->a < S.next->Grew (fun _ => False) S0 S ->
 ∃ U, L8_51 (ev E0 KD (m + 4)) N nk ek q [] v2 v4 (.ptr a 0) v1 (.int .i64 (hs.length : Int)) (.int .i64 (i : Int)) S = ek 0 (frD 60 [(2, v2), (4, v4), (5, .ptr a 0)] []) U/\MapAt U r (kvS (qex (askL ks rest)))/\Grew (fun x => x = r) S U
 | _, _, 0, _, _, _, hq, _, _, _, _, _, _ => by omega
 | [], i, q + 1, ks, S, hi, hq, ho, hm, hp, hra, ha, g0 => by
  refine ⟨S, ?_, hm, Grew.refl _ _⟩;rw [L8_51_eq, lssN, dF (Nat.not_lt.2 (qbm hi)), oB, ifK_bool, cF]
 | h :: rest, i, q + 1, ks, S, hi, hq, ho, hm, hp, hra, ha, g0 => by
  obtain ⟨hil, hf, hrest, hmem⟩ := qcn hi;rw [List.length_cons] at hq;have hih : hs[i]? = some h := by rw [List.getElem?_eq_getElem hil, hf]
  obtain ⟨q', x1, x2⟩ := (hv.grew0 g0).ld ho hih;obtain ⟨U1, a1, a2⟩ := f14_run ho m h (hsh h hmem);have on1 := a2.on.trans ho;have hm1 := hm.grew (by omega) (fun h => h) a2;have hp1 := hp.grew ha (fun h => h) a2;have n1 := a2.next
  cases hx : isH h with
  | false =>
   obtain ⟨U, b1, b2, b3⟩ := qn4 (m := m) (N := N) hv hS0 hr0 hsh hfew nk ek rest (i + 1) q ks U1 hrest (by omega) on1 hm1 hp1 hra (by omega) (g0.trans a2);refine ⟨U, ?_, by rw [askL, hx, iN (by simp)]; exact b2, (a2.mono fun _ _ h => h.elim).trans b3⟩;rw [L8_51_eq, lssN, dT hil, oB, ifK_bool, cT, x1, oB, x2, oB];dsimp only;rw [a1, qdg, hx, iN (by simp), ext0, oB, ext1, oB, eqE, oB, ifK_bool, show decide ((2 : Int) = 0) = false from rfl, cF, qgp (by omega), oB, b1]
  | true =>
   obtain ⟨es, cl, d1, d2⟩ := upd_str on1 hm1 h 1;have hd := d2 none;have g3 : Grew (fun x => x = r) U1 (U1.put r (.map es cl)) := qb2 _ _;have hm2 := qop (S := U1) r d1;rw [qpj] at hm2;obtain ⟨U, b1, b2, b3⟩ := qn4 (m := m) (N := N) hv hS0 hr0 hsh hfew nk ek rest (i + 1) q _ (U1.put r (.map es cl)) hrest (by omega) (g3.on.trans on1) hm2 (hp1.grew (by omega) (by omega) g3) hra (by have := g3.next; omega) (Grew.then (g0.trans a2) g3 fun x hx e => by omega);refine ⟨U, ?_, by rw [askL, hx, iP rfl]; exact b2, ((a2.mono fun _ _ h => h.elim).trans g3).trans b3⟩;rw [L8_51_eq, lssN, dT hil, oB, ifK_bool, cT, x1, oB, x2, oB];dsimp only;rw [a1, qdg, hx, iP rfl, ext0, oB, ext1, oB, eqE, oB, ifK_bool, show decide ((0 : Int) = 0) = true from rfl, cT, hp1.ld on1, oB];dsimp only;rw [show qbp E0 31 (.map r) (sv h) (.int .i64 1) U1 = _ from hd];show ((qa4 E0 .add 3 false true (.int .i64 (i : Int)) (.int .i64 1)).bind fun t68 => _) = _;rw [qgp (by omega), oB];exact b1
theorem R9R_spec (m : Nat) (nk : Ac->St->Rs) (ek : Nat->Ac->St->Rs) (x : Nd) (ok : x.ok) {nb : Nat} (hb : NodeR S nb x kv) (hnb : nb < S.next) {d : Nat} (K : KidsD d S kv r x.kids) {ks : List Bs} (hks : ks.length<=1000) (hnd : ((qej x).foldl stepF (ks, [])).2.Nodup) (hm : MapAt S r (kvS (qex ks))) (hp : One S a 31 (.map r)) (hra : r < a) (ha : a < S.next) :
 ∃ w U M, R8_9 (ev E0 KD (m + qgh x + 4)) qa1 nk ek (frD 60 [(2, .ptr nb 0), (4, .nilslice), (5, .ptr a 0)] []) S = some (.ret w, U)/\TLo U w (qkp ((qej x).foldl stepF (ks, [])).2) M/\S.next<=M/\Grew (fun b => b = r) S U := by
 have ho := hb.on;obtain ⟨o1, g1, n1⟩ := one_new ho 25 .nilslice;have e10 : (nwP 25 1 (Ev.one .nilslice) S) = (.ptr S.next 0, (nwP 25 1 (Ev.one .nilslice) S).2) := rfl;generalize (nwP 25 1 (Ev.one .nilslice) S).2 = S1 at o1 g1 n1 e10;have on1 := g1.on.trans ho;obtain ⟨o2, g2, n2⟩ := one_new on1 41 .nilfn;have e12 : (nwP 41 1 (Ev.one .nilfn) S1) = (.ptr S1.next 0, (nwP 41 1 (Ev.one .nilfn) S1).2) := rfl;generalize (nwP 41 1 (Ev.one .nilfn) S1).2 = S2 at o2 g2 n2 e12;have on2 := g2.on.trans on1;obtain ⟨S3, c1, c2, c3, c4⟩ := o2.st on2 (oneV_fn a S.next);have on3 := c3.on.trans on2;have g12 := g1.trans g2;have hb3 : NodeR S3 nb x kv := (hb.grew hnb (fun h => h) g12).grew (by omega) (by omega) c3;obtain ⟨S4, d1, d2, d3, d4⟩ := f16R_run (m + qgh x + 3) x kv on3;have on4 := d3.on.trans on3;have g5 : Grew (fun _ => False) S4 (nw (nw S4 .defb) (qfa 0 none (.ptr a 0) (.ptr S1.next 0))) := (qbe on4 _ _).trans (qbe (qov on4 _) _ _);have n5 : (nw (nw S4 .defb) (qfa 0 none (.ptr a 0) (.ptr S1.next 0))).next = S4.next + 2 := rfl
 have hd5 : (nw (nw S4 .defb) (qfa 0 none (.ptr a 0) (.ptr S1.next 0))).heap.get S4.next = some .defb := by
  rw [qdt, iN (by show S4.next ≠ S4.next + 1; omega), qdt, iP rfl]
 have hl5 : (nw (nw S4 .defb) (qfa 0 none (.ptr a 0) (.ptr S1.next 0))).heap.get (S4.next + 1) = some (qfa 0 none (.ptr a 0) (.ptr S1.next 0)) := by
  rw [qdt]; exact iP rfl
 have hrange := fun (self : EV) (kn kr : St->Rs) (ke : Nat->St->Rs) (kp : V->St->Rs) => rangeP_fn (s := S4) (self := self) (first := []) (captured := [.ptr S3.next 0]) (o := qfa 0 none (.ptr a 0) (.ptr S1.next 0)) (kn := kn) (kr := kr) (ke := ke) (kp := kp) body32.1 body32.2;generalize nw (nw S4 .defb) (qfa 0 none (.ptr a 0) (.ptr S1.next 0)) = S5 at g5 n5 hd5 hl5 hrange;have on5 := g5.on.trans on4;have g35 := d3.trans g5
 have L : Lp S5 r a S.next S1.next S5.next (S4.next + 1) .nilslice (ks, []) :=
  ⟨⟨on5, (((hm.grew (by omega) (fun h => h) g12).grew (by omega) (by omega) c3).grew (by omega) (fun h => h) g35),
    ((hp.grew ha (fun h => h) g12).grew (by omega) (by omega) c3).grew (by omega) (fun h => h) g35,
    ((o1.grew (by omega) (fun h => h) g2).grew (by omega) (by omega) c3).grew (by omega) (fun h => h) g35,
    .nil, c2.grew (by omega) (fun h => h) g35, hra, ha, by omega, by omega, lR _, by simpa using hks⟩, by omega, by omega, hl5⟩
 have K5 : KidsD d S5 kv r x.kids := ((K.grew (fun _ _ h => h) g12).grew (fun k hk e => by omega) c3).grew (fun _ _ h => h) g35;obtain ⟨v', S6, f1, f2, f3, f4⟩ := f32R_run (m + 1) x ok L (d2.grew (by omega) (fun h => h) g5) K5;rw [show m + 1 + qgh x + 3 = m + qgh x + 4 by omega] at f1;have F := f2.fd;have n6 := f3.next
 have hbl : ∀ b, qc7 v' = some b->S5.next<=b := fun b hb => (F.tl.blk hb).1
 have g7 : Grew (fun b => b = S4.next + 1) S6 (S6.put (S4.next + 1) (qfa 3 none (.ptr a 0) (.ptr S1.next 0))) := qb2 _ _;have n7 : (S6.put (S4.next + 1) (qfa 3 none (.ptr a 0) (.ptr S1.next 0))).next = S6.next := rfl
 have hend : ∀ (kn kr : St->Rs) (ke : Nat->St->Rs), endLP (S4.next + 1) S6 kn kr ke = kn (S6.put (S4.next + 1) (qfa 3 none (.ptr a 0) (.ptr S1.next 0))) := fun kn kr ke => endLP_norm (kn := kn) (kr := kr) (ke := ke) F.on f2.rcd (by decide);generalize S6.put (S4.next + 1) (qfa 3 none (.ptr a 0) (.ptr S1.next 0)) = S7 at g7 n7 hend;have on7 := g7.on.trans F.on;have out7 : One S7 S.next 25 v' := F.out.grew (by omega) (by omega) g7
 have tl7 : TLo S7 v' ((qej x).foldl stepF (ks, [])).2 S5.next := F.tl.grewW (fun b hb e => by have := hbl b hb; omega) g7
 have few := F.few;obtain ⟨S8, h1, h2, h3⟩ := sort_run (m + qgh x + 3) on7 tl7 hnd (by omega);have on8 := h3.on.trans on7;have out8 : One S8 S.next 25 v' := out7.grew (by omega) (fun e => by have := hbl _ e; omega) h3
 have hdef : S8.heap.get S4.next = some .defb := by
  rw [h3.keep S4.next (by omega) (fun e => by have := hbl _ e; omega), g7.keep S4.next (by omega) (by omega), f3.keep S4.next (by omega) (fun e => by
   rcases e with e | e | e | e
   . omega
   . omega
   . omega
   . cases e)]
  exact hd5
 obtain ⟨S9, k1, k2, k3⟩ := qho (E := E0) (self := ev E0 KD (m + qgh x + 4)) (fn := Try.f8) (a := frD 60 [(4, v'), (10, .ptr S.next 0), (57, v'), (58, .tuple []), (59, v')] [mkR S4.next]) (m := .ret) [S4.next] on8 (List.pairwise_singleton _ _) (fun b hb => by rw [List.mem_singleton.1 hb]; exact hdef);have n8 := h3.next
 have n9 := k2.next
 refine ⟨v', S9, S5.next, ?_, h2.grewW (fun b hb e => by have := hbl b hb; have := List.mem_singleton.1 e; omega) k2, by omega, ?_⟩
 . rw [R8_9_eq, e10, oB]
   dsimp only;rw [e12, oB];dsimp only;rw [show (V.fn (.func 15) [] [.ptr a 0, .ptr S.next 0]) = fnF a S.next from rfl, c1, oB];dsimp only;rw [hb3.fA, oB];dsimp only;rw [show m + qgh x + 3 + 1 = m + qgh x + 4 from rfl] at d1;rw [d1, qdg, hrange];show onEn ((ev E0 KD (m + qgh x + 4)).f 32 [.yield (S4.next + 1), .ptr S3.next 0] S5) _ _ = _;rw [f1];show endLP (S4.next + 1) S6 _ _ _ = _;rw [hend, R8_14_eq, out7.ld on7, oB];dsimp only;rw [show m + qgh x + 3 + 1 = m + qgh x + 4 from rfl] at h1;rw [h1, qdg, out8.ld on8, oB];dsimp only;rw [finR_defer (d := mkR S4.next) (ds := []) rfl];rw [show [mkR S4.next] = List.map mkR [S4.next] from rfl];exact k1.trans (lv8 _ _ _ _ _ _)
 . refine ⟨by omega, by rw [k2.on, on8, ho], fun b hb hw => ?_⟩
   rw [k2.keep b (by omega) (fun e => by have := List.mem_singleton.1 e; omega), h3.keep b (by omega) (fun e => by have := hbl _ e; omega), g7.keep b (by omega) (by omega), f3.keep b (by omega) (fun e => by
    rcases e with e | e | e | e
    . exact hw e
    . omega
    . omega
    . cases e), g35.keep b (by omega) (fun h => h), c3.keep b (by omega) (by omega), g12.keep b hb (fun h => h)]
theorem f8D_run (m : Nat) (ho : S.on = false) (x : Nd) (ok : x.ok) {v1 : V} {hs : List Bs} {d : Nat} (hd : d<=3) (K : KidsD d S kv S.next x.kids) (hv : TL S v1 hs) (hsh : Short hs) (hfew : hs.length<=1000) : ∃ w T, (ev E0 KD (m + qgh x + 5)).f 8 [qd7 x kv, v1] S = some (.ret w, T)/\TL T w (if qgw x = 0 then qgj x [] hs else [])/\Grew (fun _ => False) S T := by
 obtain ⟨S1, k1, k2, k3, k4⟩ := qka ho x kv;by_cases hc : qgw x = 0
 . -- the map, and the variable that holds it
   have gm : Grew (fun _ => False) S1 (nw S1 (.map [] 0)) := qbe k2.on _ _;have hm2 : MapAt (nw S1 (.map [] 0)) S1.next (kvS (qex [])) := ⟨[], 0, by rw [qdt, iP rfl], MapOk.new⟩
   have n2 : (nw S1 (.map [] 0)).next = S1.next + 1 := rfl
   have emk : qfh E0 31 none S1 = some (.map S1.next, nw S1 (.map [] 0)) := rfl;generalize nw S1 (.map [] 0) = S2 at gm hm2 n2 emk;have on2 := gm.on.trans k2.on;obtain ⟨o1, g1, n3⟩ := one_new on2 31 .nilmap;have e7 : (nwP 31 1 (Ev.one .nilmap) S2) = (.ptr S2.next 0, (nwP 31 1 (Ev.one .nilmap) S2).2) := rfl;generalize (nwP 31 1 (Ev.one .nilmap) S2).2 = S3 at o1 g1 n3 e7;have on3 := g1.on.trans on2;obtain ⟨S4, c1, c2, c3, c4⟩ := o1.st on3 (oneV_map S1.next);have on4 := c3.on.trans on3;have hm4 := (hm2.grew (by omega) (fun h => h) g1).grew (by omega) (by omega) c3;obtain ⟨S5, d1, d2, d3⟩ := qn4 (m := m + qgh x) (S0 := S) (N := qa1) (v2 := .ptr S.next 0) (v4 := .nilslice) hv ho (by omega) hsh hfew (R8_9 (ev E0 KD (m + qgh x + 4)) qa1 (qak E0 (ev E0 KD (m + qgh x + 4)) Try.f8) qa9) (exB 0 (R8_9 (ev E0 KD (m + qgh x + 4)) qa1 (qak E0 (ev E0 KD (m + qgh x + 4)) Try.f8) qa9) qa9) hs 0 qa1 [] S4 rfl (by unfold qa1; omega) on4 hm4 c2 (by omega) (by omega) (Grew.then ((k3.trans gm).trans g1) c3 fun x hx e => by omega);have n5 := d3.next
   have hb5 : NodeR S5 S.next x kv := (((k2.grew (by omega) (fun h => h) gm).grew (by omega) (fun h => h) g1).grew (by omega) (by omega) c3).grew (by omega) (by omega) d3
   have K5 : KidsD d S5 kv S1.next x.kids := (((((K.grew (fun _ _ h => h) k3).grew (fun _ _ h => h) gm).grew (fun _ _ h => h) g1).grew (fun k hk e => by omega) c3).grew (fun k hk e => by omega) d3).more (by omega)
   obtain ⟨w, U, M, q1, q2, q3, q4⟩ := R9R_spec m (qak E0 (ev E0 KD (m + qgh x + 4)) Try.f8) qa9 x ok hb5 (by omega) K5 (ks := askL [] hs) (by have := askL_len hs []; simp at this; omega) (qj6 x hs).nd2 d2 (c2.grew (by omega) (by omega) d3) (by omega) (by omega);refine ⟨w, U, rd8 ?_, ?_, ?_⟩
   . show F8 (ev E0 KD (m + qgh x + 4)) qa1 (qd7 x kv) v1 S = _
     rw [F8_eq, k1, oB];dsimp only;rw [k2.fA, oB];dsimp only;rw [check_runR _ x ok hd k2.on (K.grew (fun _ _ h => h) k3), qdg, neqE, oB, dT hc, Bool.not_true, ifK_bool, cF, emk, oB];dsimp only;rw [e7, oB];dsimp only;rw [c1, oB];dsimp only;rw [hv.len, oB];dsimp only;rw [show V.int .i64 0 = .int .i64 ((0 : Nat) : Int) from rfl, d1, exB_same, q1]
   . rw [iP hc, <- same_found]
     exact q2.tl
   . refine ⟨?_, ?_, fun b hb _ => ?_⟩
     . have := q4.next; have := k3.next; omega
     . rw [q4.on, d3.on, on4, ho]
     . rw [q4.keep b (by omega) (by omega), d3.keep b (by omega) (by omega), c3.keep b (by omega) (by omega), g1.keep b (by omega) (fun h => h), gm.keep b (by omega) (fun h => h), k3.keep b hb (fun h => h)]
 . refine ⟨.nilslice, S1, rd8 ?_, by rw [iN hc]; exact .nil, k3⟩
   show F8 (ev E0 KD (m + qgh x + 4)) qa1 (qd7 x kv) v1 S = _;rw [F8_eq, k1, oB];dsimp only;rw [k2.fA, oB];dsimp only;rw [check_runR _ x ok hd k2.on (K.grew (fun _ _ h => h) k3), qdg, neqE, oB, dF hc, nF, ifK_bool, cT, fin8_none]
end
end Go.Proofs.Ytmeohejdafbodaa.W
