/-
  WHAT THE FUNCTIONS COME TO: each is read by the evaluator, printed, and told as a function of data, part 7 of 12 (no condition).
-/
import Derived.Test.YtmeohejdafbodaaW6
import Derived.Test.YtmeohejdafbodaaShelf
import Derived.Test.YtmeohejdafbodaaProg
import Derived.Test.YtmeohejdafbodaaChecked
import Derived.WalkKit
import Derived.ProofKit
namespace Go.Proofs.Ytmeohejdafbodaa.W
open Go.Proofs.Ytmeohejdafbodaa.Ev Go.RowKit
abbrev Bs := List UInt8
section
variable {s S T U X Y : St} {α : Type}
theorem qk6 {v : V} {s : St} {n : Nat} (hv : ∀ l k, v ≠ .str l k) (h : lenV v = some n) : lnS v s = some (.int .i64 (n : Int), s) := by
 unfold lnS;split
 . exact absurd rfl (hv _ _)
 . rw [h]; rfl
noncomputable def kfTrue : KF := qdb (fun _ : Unit => []) (fun _ => En.ret (.bool true))
theorem kfTrue_run (S : St) : kfTrue.run [] S = some (.ret (.bool true), S) := qcf (enc := fun _ : Unit => []) (out := fun _ => En.ret (.bool true)) (fun _ _ _ => rfl) () S
theorem gTT : qa2 true (.bool true) = some true := rfl
theorem gTF : qa2 true (.bool false) = some false := rfl
theorem gFT : qa2 false (.bool true) = some false := rfl
theorem gFF : qa2 false (.bool false) = some true := rfl
theorem zero3 : qh5 E0 3 = some (.int .i64 0) := by kernel_rfl
theorem bless_iff : ∀ {x y : Bs}, Op.bytesLess x y = true ↔ x < y
 | [], [] => by simp [Op.bytesLess]
 | _ :: _, [] => by simp [Op.bytesLess]
 | [], _ :: _ => by simp [Op.bytesLess]
 | a :: x, b :: y => by
  simp only [Op.bytesLess, Bool.or_eq_true, decide_eq_true_eq, bA, beq_iff_eq];rw [List.cons_lt_cons_iff, bless_iff (x := x) (y := y)]
def insB (x : Bs) : List Bs->List Bs
 | [] => [x]
 | y :: l => if y < x then y :: insB x l else x :: y :: l
def qkp : List Bs->List Bs
 | [] => []
 | x :: l => insB x (qkp l)
theorem qog (x : Bs) : ∀ l : List Bs, (insB x l).Perm (x :: l)
 | [] => .refl _
 | y :: l => by
  unfold insB;split
  . exact ((qog x l).cons y).trans (.swap x y l)
  . exact .refl _
theorem qih : ∀ l : List Bs, (qkp l).Perm l
 | [] => .refl _
 | x :: l => (qog x (qkp l)).trans ((qih l).cons x)
theorem insB_pw {x : Bs} : ∀ {l : List Bs}, l.Pairwise (· < ·)->x ∉ l->(insB x l).Pairwise (· < ·)
 | [], _, _ => by simp [insB]
 | y :: l, h, hx => by
  unfold insB;rw [List.pairwise_cons] at h;simp only [List.mem_cons, not_or] at hx;split
  . rename_i hlt
    refine List.pairwise_cons.2 ⟨fun z hz => ?_, insB_pw h.2 hx.2⟩;rcases List.mem_cons.1 ((qog x l).mem_iff.1 hz) with rfl | hz
    . exact hlt
    . exact h.1 z hz
  . rename_i hlt
    have hxy : x < y := by
     rcases List.le_iff_lt_or_eq.1 (List.not_lt.1 hlt) with h | h
     . exact h
     . exact absurd h hx.1
    refine List.pairwise_cons.2 ⟨fun z hz => ?_, List.pairwise_cons.2 h⟩;rcases List.mem_cons.1 hz with rfl | hz
    . exact hxy
    . exact List.lt_trans hxy (h.1 z hz)
theorem sortB_pw : ∀ {l : List Bs}, l.Nodup->(qkp l).Pairwise (· < ·)
 | [], _ => .nil
 | x :: l, h => by
  rw [List.nodup_cons] at h;exact insB_pw (sortB_pw h.2) fun hm => h.1 ((qih l).mem_iff.1 hm)
theorem mem_sortB {l : List Bs} {x : Bs} : x ∈ qkp l ↔ x ∈ l := (qih l).mem_iff
theorem insS_ins (x : Bs) : ∀ l : List Bs, insS x.length (qan x) (l.map kp) = (insB x l).map kp
 | [] => rfl
 | y :: l => by
  rw [List.map_cons];unfold insS insB;rw [show qio (kp y).1 (kp y).1 (kp y).2 x.length (qan x) = Op.bytesLess y x from qe4 y x];by_cases h : y < x
  . rw [bless_iff.2 h, iP h, cT, insS_ins x l]; rfl
  . rw [iN h, show Op.bytesLess y x = false from by rw [Bool.eq_false_iff]; exact fun e => h (bless_iff.1 e)]; rfl
theorem rising_of : ∀ {l : List Bs}, l.Pairwise (· < ·)->qpc (l.map kp) = true
 | [], _ => rfl
 | [x], _ => rfl
 | x :: y :: l, h => by
  rw [List.pairwise_cons] at h;have h2 := rising_of h.2;rw [List.map_cons] at h2;rw [List.map_cons, List.map_cons];unfold qpc;rw [h2, show qio (kp x).1 (kp x).1 (kp x).2 (kp y).1 (kp y).2 = Op.bytesLess x y from qe4 x y, bless_iff.2 (h.1 y (List.mem_cons_self ..))];rfl
def qer (l : List Bs) : List (Tr V) := l.map fun a => Ev.one (sv a)
theorem qaw (l : List Bs) : (qer l).length = l.length := by unfold qer; rw [lM]
theorem rowOf_get {l : List Bs} {i : Nat} {a : Bs} (h : l[i]? = some a) : (qer l)[i]? = some (Ev.one (sv a)) := by unfold qer; rw [List.getElem?_map, h]; rfl
theorem rowOf_append (l m : List Bs) : qer (l ++ m) = qer l ++ qer m := by unfold qer; rw [List.map_append]
def qc7 : V->Option Nat
 | .slice r _ _ _ => some r
 | .oslice r _ _ _ => some r
 | _ => none
def TL (S : St) (v : V) (l : List Bs) : Prop := (l = []/\(v = .nilslice\/v = .eslice\/∃ r c, v = .slice r 0 0 c)) \/
 ∃ r off L, RowAt S r 9 1 (qer L)/\r < S.next/\off + l.length<=L.length/\(L.drop off).take l.length = l/\(v = .oslice r off l.length 1\/∃ c, v = .slice r off l.length c)
theorem TL.nil : TL S .nilslice [] := .inl ⟨rfl, .inl rfl⟩
theorem TL.own {r : Nat} {l : List Bs} (h : RowAt S r 9 1 (qer l)) (hr : r < S.next) : TL S (.oslice r 0 l.length 1) l := .inr ⟨r, 0, l, h, hr, by omega, by simp, .inl rfl⟩
theorem TL.grew {W : Nat->Prop} {v : V} {l : List Bs} (h : TL S v l) (hw : ∀ r e, qc7 v = some r->RowAt S r 9 1 e->¬ W r) (g : Grew W S U) : TL U v l := by
 rcases h with h | ⟨r, off, L, h1, h2, h3, h4, h5⟩
 . exact .inl h
 . have hb : qc7 v = some r := by rcases h5 with rfl | ⟨c, rfl⟩ <;> rfl
   exact .inr ⟨r, off, L, h1.grew h2 (hw r _ hb h1) g, Nat.lt_of_lt_of_le h2 g.next, h3, h4, h5⟩
theorem TL.grew0 {v : V} {l : List Bs} (h : TL S v l) (g : Grew (fun _ => False) S U) : TL U v l := h.grew (fun _ _ _ _ h => h) g
theorem TL.same {v : V} {l : List Bs} (h : TL S v l) (h1 : U.heap = S.heap) (h2 : U.next = S.next) : TL U v l := by
 rcases h with h | ⟨r, off, L, a1, a2, a3, a4, a5⟩
 . exact .inl h
 . exact .inr ⟨r, off, L, a1.same h1, by omega, a3, a4, a5⟩
theorem TL.lenV {v : V} {l : List Bs} (h : TL S v l) : Ev.lenV v = some l.length := by
 rcases h with ⟨rfl, rfl | rfl | ⟨r, c, rfl⟩⟩ | ⟨r, off, L, h1, h2, h3, h4, rfl | ⟨c, rfl⟩⟩ <;> rfl
theorem TL.notStr {v : V} {l : List Bs} (h : TL S v l) : ∀ a b, v ≠ .str a b := by
 rcases h with ⟨rfl, rfl | rfl | ⟨r, c, rfl⟩⟩ | ⟨r, off, L, h1, h2, h3, h4, rfl | ⟨c, rfl⟩⟩ <;> intro a b e <;> cases e
theorem TL.len {v : V} {l : List Bs} (h : TL S v l) (U : St) : lnS v U = some (.int .i64 (l.length : Int), U) := qk6 h.notStr h.lenV
theorem TL.ix {v : V} {l : List Bs} (h : TL S v l) {i : Nat} {a : Bs} (ha : l[i]? = some a) : ∃ r o L, ixP 1 v (.int .i64 (i : Int)) = some (.ptr r o)/\RowAt S r 9 1 L/\L[o]? = some (Ev.one (sv a)) := by
 obtain ⟨hi, he⟩ := List.getElem?_eq_some_iff.1 ha;rcases h with ⟨rfl, _⟩ | ⟨r, off, L, h1, h2, h3, h4, h5⟩
 . cases hi
 . refine ⟨r, off + i * 1, qer L, ?_, h1, ?_⟩
   . have : ixP 1 v (.int .i64 (i : Int)) = bif Nat.blt i l.length then some (V.ptr r (off + i * 1)) else none := by rcases h5 with rfl | ⟨c, rfl⟩ <;> rfl
     rw [this, blt_true.2 hi]; rfl
   . refine rowOf_get ?_
     rw [Nat.mul_one];have : ((L.drop off).take l.length)[i]? = some a := by rw [h4]; exact ha
     rw [List.getElem?_take, iP hi, List.getElem?_drop] at this;exact this
theorem TL.ld {v : V} {l : List Bs} (h : TL S v l) (ho : S.on = false) {i : Nat} {a : Bs} (ha : l[i]? = some a) : ∃ p, ixP 1 v (.int .i64 (i : Int)) = some p/\ld1 p S = some (sv a, S) := by
 obtain ⟨r, o, L, h1, h2, h3⟩ := h.ix ha;exact ⟨_, h1, h2.ld1 ho h3⟩
def TLo (S : St) (v : V) (l : List Bs) (N : Nat) : Prop := (l = []/\v = .nilslice)\/∃ r, v = .oslice r 0 l.length 1/\RowAt S r 9 1 (qer l)/\r < S.next/\N<=r/\0 < l.length
theorem TLo.nil {N : Nat} : TLo S .nilslice [] N := .inl ⟨rfl, rfl⟩
theorem TLo.tl {v : V} {l : List Bs} {N : Nat} (h : TLo S v l N) : TL S v l := by
 rcases h with ⟨rfl, rfl⟩ | ⟨r, rfl, h1, h2, _⟩
 . exact .nil
 . exact .own h1 h2
theorem TLo.grew {v : V} {l : List Bs} {N : Nat} (h : TLo S v l N) (g : Grew (fun _ => False) S U) : TLo U v l N := by
 rcases h with h | ⟨r, h0, h1, h2, h3⟩
 . exact .inl h
 . exact .inr ⟨r, h0, h1.grew h2 (fun h => h) g, Nat.lt_of_lt_of_le h2 g.next, h3⟩
theorem Grew.fresh {a b c : St} {N : Nat} (h : Grew (fun _ => False) a b) (hN : a.next<=N) (k : Grew (fun x => N<=x) b c) : Grew (fun _ => False) a c :=
 ⟨Nat.le_trans h.next k.next, k.on.trans h.on, fun x hx hw => (k.keep x (Nat.lt_of_lt_of_le hx h.next) (by omega)).trans (h.keep x hx hw)⟩
theorem take_push {α : Type} {l : List α} {i : Nat} (h : i < l.length) : l.take (i + 1) = l.take i ++ [l[i]] := (List.take_append_getElem h).symm
theorem eqStr (c d : Bool) (a b : Bs) : qa4 E0 .eql 9 c d (sv a) (sv b) = some (.bool (a == b)) := by
 rw [binV_ss];show (some (V.bool (sEq a.length (qan a) b.length (qan b)))) = _;rw [qpf]
theorem ld1_lg (ho : S.on = false) {b i : Nat} {v : V} (h : ld1 (.ptr b i) S = some (v, S)) (l : List LE) : ld1 (.ptr b i) (S.lg l) = some (v, S.lg (⟨b, i, i + 1, false⟩ :: l)) := by
 have h' : ld S b i = some (v, S) := h;show ld (S.lg l) b i = _;unfold ld at h' ⊢;rw [show (S.lg l).heap = S.heap from rfl];split at h'
 . rename_i e esz n ro c hb
   cases hc : (Nat.blt i (esz * n) && Nat.blt (esz * n) big) with
   | false => rw [hc] at h'; cases h'
   | true =>
    rw [hc] at h';simp only [cT, oI, oS, pM] at h' ⊢;obtain ⟨t, h1, w, h2, rfl, _⟩ := h';exact ⟨t, h1, w, h2, rfl, rfl⟩
 . cases h'
theorem TL.ldOn (ho : S.on = false) {v : V} {l : List Bs} (h : TL S v l) {i : Nat} {a : Bs} (ha : l[i]? = some a) (L : List LE) : ∃ p r o, ixP 1 v (.int .i64 (i : Int)) = some p/\ld1 p (S.lg L) = some (sv a, S.lg (⟨r, o, o + 1, false⟩ :: L)) := by
 obtain ⟨r, o, M, h1, h2, h3⟩ := h.ix ha;exact ⟨_, r, o, h1, ld1_lg ho (show ld1 (.ptr r o) S = _ from h2.ld1 ho h3) L⟩
theorem relog_same {T : St} (ho : S.on = false) (hT : T.on = false) (hl : T.log = S.log) (l : List LE) (ls : List (List LE)) : qb3 S (T.lg l) ls = T := by
 unfold qb3;rw [ho];cases T;simp only at hT hl;subst hT; subst hl;rfl
theorem TLo.blk {v : V} {l : List Bs} {N r : Nat} (h : TLo S v l N) (hr : qc7 v = some r) : N<=r/\RowAt S r 9 1 (qer l) := by
 rcases h with ⟨_, rfl⟩ | ⟨r', rfl, h1, h2, h3, _⟩
 . cases hr
 . cases hr; exact ⟨h3, h1⟩
def RwS (S : St) (v : V) (z : Nat) (L : List (Tr V)) : Prop := lenV v = some L.length/\qbn z L.length v S = some (L, S)
theorem TL.rw (ho : S.on = false) {v : V} {l : List Bs} (h : TL S v l) : RwS S v 1 (qer l) := by
 refine ⟨by rw [qaw]; exact h.lenV, ?_⟩;rw [qaw];rcases h with ⟨rfl, rfl | rfl | ⟨r, c, rfl⟩⟩ | ⟨r, off, L, h1, h2, h3, h4, h5⟩
 . rfl
 . rfl
 . rfl
 . have := h1.ldN ho l.length off (by rw [qaw]; exact h3)
   rw [Nat.mul_one] at this
   have e : ((qer L).drop off).take l.length = qer l := by
    unfold qer;rw [<- List.map_drop, <- List.map_take, h4]
   rw [e] at this;rcases h5 with rfl | ⟨c, rfl⟩ <;> exact this
theorem app_more {e z B r : Nat} (ho : S.on = false) {y : V} {M L : List (Tr V)} (hr : RowAt S r e z M) (h : RwS S y z L) (hL : L ≠ []) (hB : (M.length + L.length) * (B + z + 1) < qae) (hbig : z * (M.length + L.length) < big) :
 ∃ U, apP e z B (.oslice r 0 M.length z) y S = some (.oslice S.next 0 (M.length + L.length) z, U)/\RowAt U S.next e z (M ++ L)/\Grew (fun x => x = r) S U/\U.next = S.next + 1 := by
 obtain ⟨c, hc1, hc2⟩ := hr.row;have hfit := hr.fit;have hz := hr.pos;have hLp : 0 < L.length := List.length_pos_iff.2 hL;refine ⟨nw (S.put r .dead) (.cells e z (M.length + L.length) false (Ev.addL c L M.length)), ?_, ?_, ?_, rfl⟩
 . unfold apP
   rw [h.1, oB, show lenV (.oslice r 0 M.length z) = some M.length from rfl, oB, blt_true.2 hB, cT];unfold qdk;rw [h.2, oB];simp only;rw [Nat.beq_refl, cT];unfold qkn;rw [hc1];simp only [blt_true.2 hfit, cT, oB, qai ho]
   rw [show Nat.ble (0 + (M.length + L.length) * z) (z * M.length) = false from by
    rw [ble_false, Nat.zero_add, Nat.mul_comm z, Nat.add_mul];have : 0 < L.length * z := Nat.mul_pos hLp hz
    omega, cF]
   unfold ql1;rw [hc1];simp only [Nat.beq_refl, Bool.not_true, Bool.or_self, cF, show Nat.beq 0 0 = true from rfl, blt_true.2 hfit, Bool.and_self, cT];rw [qen, qig ho]
 . refine qdv (s := S.put r .dead) ho hz (by rw [lA]) hbig fun i t hi => ?_
   rw [Ev.addL_get];have hlt := (List.getElem?_eq_some_iff.1 hi).1;rw [lA] at hlt;by_cases hc : M.length<=i
   . rw [iP ⟨hc, hlt⟩]
     rw [List.getElem?_append_right hc] at hi;exact hi
   . rw [iN (fun h => hc h.1)]
     rw [List.getElem?_append_left (by omega)] at hi;exact hc2 i t hi
 . exact ⟨by show S.next<=S.next + 1; omega, (qov (s := S.put r .dead) ho _).trans ho.symm, fun x hx hw => by
    rw [qdt, iN (by show x ≠ S.next; omega), qby, iN hw]⟩
theorem meet_ne {e f : LE} (h : e.b ≠ f.b) : meet e f = false := by
 unfold meet;rw [show Nat.beq e.b f.b = false from by rw [Bool.eq_false_iff]; exact fun hb => h (Nat.eq_of_beq_eq_true hb)]; rfl
theorem meet_or {e f : LE} (h : e.b ≠ f.b\/(e.w = false/\f.w = false)) : meet e f = false := by
 rcases h with h | ⟨h1, h2⟩
 . exact meet_ne h
 . unfold meet
   rw [h1, h2]; cases Nat.beq e.b f.b <;> rfl
theorem clash1_or {e : LE} : ∀ {l : List LE}, (∀ f ∈ l, e.b ≠ f.b\/(e.w = false/\f.w = false))->qez e l = false
 | [], _ => rfl
 | f :: l, h => by
  unfold qez;rw [meet_or (h f (List.mem_cons_self ..))];exact clash1_or fun g hg => h g (mO _ hg)
theorem clash_or : ∀ {a b : List LE}, (∀ e ∈ a, ∀ f ∈ b, e.b ≠ f.b\/(e.w = false/\f.w = false))->qed a b = false
 | [], _, _ => rfl
 | e :: a, b, h => by
  unfold qed;rw [clash1_or (h e (List.mem_cons_self ..))];exact clash_or fun g hg => h g (mO _ hg)
theorem qhu (ho : S.on = false) (U : St) (l : List LE) (ls : List (List LE)) : ∃ U', qb3 S (U.lg l) ls = U'/\U'.heap = U.heap/\U'.next = U.next/\U'.on = false := by
 refine ⟨_, rfl, ?_, ?_, ?_⟩ <;> (unfold qb3; rw [ho]; rfl)
theorem Grew.same {W : Nat->Prop} {a b c : St} (h : Grew W a b) (h1 : c.heap = b.heap) (h2 : c.next = b.next) (h3 : c.on = b.on) : Grew W a c := ⟨by rw [h2]; exact h.next, h3.trans h.on, fun x hx hw => by rw [h1]; exact h.keep x hx hw⟩
theorem ons (S : St) : onS S = S.lg [] := rfl
theorem qc4 (S : St) (L M : List LE) : (S.lg L).lg M = S.lg M := rfl
theorem lg_of {f : St->Option (α × St)} (h : Lg.LocP f) {a : α} (hf : f S = some (a, U)) (l : List LE) : ∃ l', f (S.lg l) = some (a, U.lg l') := by
 obtain ⟨_, h2⟩ := h S (a, U) hf;obtain ⟨t', h3, h4, h5⟩ := h2 (S.lg l) ⟨rfl, rfl⟩;refine ⟨t'.log, h3.trans ?_⟩;obtain ⟨hp, nx, on, lg⟩ := t';obtain ⟨k1, k2⟩ := h4;simp only at k1 k2 h5;have h5' : on = true := h5;subst h5'; subst k1; subst k2;rfl
def TV (v : V) (l : List Bs) : Prop := (l = []/\(v = .nilslice\/v = .eslice))\/v = .list 1 (l.map sv)
theorem TV.len {v : V} {l : List Bs} (h : TV v l) : lnS v S = some (.int .i64 (l.length : Int), S) := by
 rcases h with ⟨rfl, rfl | rfl⟩ | rfl
 . rfl
 . rfl
 . show some (V.int .i64 (Int.ofNat (l.map sv).length), S) = _
   rw [lM]; rfl
theorem TV.ix {v : V} {l : List Bs} (h : TV v l) {i : Nat} {a : Bs} (ha : l[i]? = some a) : ixP 1 v (.int .i64 (i : Int)) = some (.cptr (sv a)) := by
 rcases h with ⟨rfl, _⟩ | rfl
 . simp at ha
 . show (bif Nat.beq 1 1 && Nat.blt 0 1 then ((l.map sv)[i]?).bind fun v => some (V.cptr v) else none) = _
   rw [List.getElem?_map, ha]; rfl
theorem ldc (a : Bs) (S : St) : ld1 (.cptr (sv a)) S = some (sv a, S) := rfl
theorem ldcv {v : V} (h : OneV v) (S : St) : ld1 (.cptr v) S = some (v, S) := by
 obtain ⟨h1, h2, h3, h4⟩ := h;unfold ld1;show (bif !Ev.isAgg v && !qa8 v then some (v, S) else none) = _;rw [h3, h4]; rfl
theorem take_min (l : List UInt8) (n : Nat) : List.take (min l.length n) l = l.take n := by
 rcases Nat.le_total l.length n with h | h
 . rw [Nat.min_eq_left h, List.take_length, List.take_of_length_le h]
 . rw [Nat.min_eq_right h]
theorem cutN (s : List UInt8) (n : Nat) (S : St) : qbl E0 9 (sv s) none (some (.int .i64 ((min s.length n : Nat) : Int))) none S = some (sv (s.take n), S) := by
 rw [qko und9 s (qnl .i64 (Nat.min_le_left ..)) (Nat.min_le_left ..), List.drop_zero, Nat.sub_zero, take_min]
theorem lim_cond (i n : Nat) (c : Nat) (hc : c < 100) (K : V->Rs) : ((qa4 E0 .lss 3 false false (.int .i64 (i : Int)) (.int .i64 (n : Int))).bind fun t10 =>
(qa2 true t10).bind fun g12 => (bif g12 then some (V.int .i64 (i : Int)) else some (.tuple [])).bind fun t12 =>
(qa2 true t10).bind fun g13 => (bif g13 then qa4 E0 .lss 3 false true t12 (.int .i64 (c : Int)) else some (.tuple [])).bind fun t13 =>
(qag t10 (some t13) (some (.bool false))).bind fun t14 => K t14) = K (.bool (decide (i < n) && decide (i < c))) := by
 rw [binV_ii, intsV_lss, oB];by_cases h : i < n
 . rw [qfz h, dT h]
   simp only [gTT, oB, cT, pickV_bool, Bool.true_and];rw [binV_ii, intsV_lss];by_cases h2 : i < c
   . rw [qfz h2, dT h2]; rfl
   . rw [qgx (by omega), dF h2]; rfl
 . rw [qgx (by omega), dF h]
   rfl
def putB (s : Bs) : List Bs->List Bs
 | [] => [s]
 | x :: l => if x < s then x :: putB s l else if x = s then x :: l else s :: x :: l
theorem mem_putB {s a : Bs} : ∀ {l : List Bs}, a ∈ putB s l ↔ a = s\/a ∈ l
 | [] => by simp [putB]
 | x :: l => by
  unfold putB;split
  . rw [List.mem_cons, mem_putB, List.mem_cons]
    constructor
    . rintro (h | h | h) <;> simp [h]
    . rintro (h | h | h) <;> simp [h]
  . split
    . rename_i h; subst h; simp
    . simp
theorem putB_pw {s : Bs} : ∀ {l : List Bs}, l.Pairwise (· < ·)->(putB s l).Pairwise (· < ·)
 | [], _ => by simp [putB]
 | x :: l, h => by
  rw [List.pairwise_cons] at h;unfold putB;split
  . rename_i hlt
    refine List.pairwise_cons.2 ⟨fun z hz => ?_, putB_pw h.2⟩;rcases mem_putB.1 hz with rfl | hz
    . exact hlt
    . exact h.1 z hz
  . rename_i hlt
    split
    . exact List.pairwise_cons.2 h
    . rename_i hne
      have hsx : s < x := by
       rcases List.le_iff_lt_or_eq.1 (List.not_lt.1 hlt) with h' | h'
       . exact h'
       . exact absurd h'.symm hne
      refine List.pairwise_cons.2 ⟨fun z hz => ?_, List.pairwise_cons.2 h⟩;rcases List.mem_cons.1 hz with rfl | hz
      . exact hsx
      . exact List.lt_trans hsx (h.1 z hz)
theorem putB_len (s : Bs) : ∀ l : List Bs, (putB s l).length<=l.length + 1
 | [] => by simp [putB]
 | x :: l => by
  unfold putB;split
  . have := putB_len s l; simp; omega
  . split <;> simp
theorem sizeB_off (ho : S.on = false) {r e : Nat} {l : List (Tr V)} (h : RowAt S r e 1 l) : qkn S r = some (l.length, S) := by
 obtain ⟨c, h1, _⟩ := h.row;unfold qkn;rw [h1];simp only [show 1 * l.length = l.length from Nat.one_mul _, blt_true.2 h.len, cT, qai ho]
theorem nw_lg (ho : s.on = false) (l : List LE) (o : O) : nw (s.lg l) o = (nw s o).lg ({ b := s.next, lo := 0, hi := big, w := true } :: l) := by
 unfold nw;rw [qai ho, note_lg];rfl
theorem stP_lg (ho : s.on = false) {n b off : Nat} {v : V} {t : St} (h : stP n (.ptr b off) v s = some (.tuple [], t)) : ∃ l, stP n (.ptr b off) v (s.lg []) = some (.tuple [], t.lg l) := by
 have h' : vu (bif Nat.beq v.size n && !qa8 v then stK s b off n v.cells else none) = some (.tuple [], t) := h;show ∃ l, vu (bif Nat.beq v.size n && !qa8 v then stK (s.lg []) b off n v.cells else none) = some (.tuple [], t.lg l);cases hc : (Nat.beq v.size n && !qa8 v) with
 | false => rw [hc] at h'; cases h'
 | true =>
  rw [hc] at h';simp only [cT] at h' ⊢;unfold vu at h' ⊢;simp only [oI, oS, pM, true_and] at h';obtain ⟨u, hu, rfl⟩ := h';obtain ⟨_, l, hl⟩ := stK_lg ho hu [];exact ⟨l, by rw [hl]; rfl⟩
def stt (S : St) : Option (List LE)->St
 | none => S
 | some l => S.lg l
theorem und5 : und E0 5 = some (.int .u8) := by kernel_rfl
def kvB (kv : List (Int × V)) : List (V × V) := kv.map fun p => (.int .u8 p.1, p.2)
def kvS (kv : List (List UInt8 × Int)) : List (V × V) := kv.map fun p => (sv p.1, .int .i64 p.2)
def qim (es : List ME) : List (V × V) := es.map fun e => (e.k, e.v)
def MapOk (es : List ME) (c : Nat) (kv : List (V × V)) : Prop := qim es = kv/\qct 0 es = true/\qc2 es 0<=c
def MapAt (S : St) (r : Nat) (kv : List (V × V)) : Prop := ∃ es clock, S.heap.get r = some (.map es clock)/\MapOk es clock kv
theorem qlz : ∀ (es : List ME) (m c : Nat) (k v : V), qct m es = true->qc2 es m<=c->qct m (es ++ [{ k := k, v := v, born := c }]) = true/\qc2 (es ++ [{ k := k, v := v, born := c }]) m = c + 1
 | [], m, c, k, v, _, h => by
  unfold qc2 at h;refine ⟨?_, rfl⟩;show (Nat.ble m c && true) = true;rw [ble_true.2 h]; rfl
 | e :: es, m, c, k, v, h1, h2 => by
  unfold qct at h1;unfold qc2 at h2;simp only [bA] at h1;obtain ⟨q1, q2⟩ := qlz es (e.born + 1) c k v h1.2 h2;rw [List.cons_append];unfold qct qc2;exact ⟨by rw [h1.1, q1]; rfl, q2⟩
theorem qpp (k v : V) : ∀ (i : Nat) (es : List ME) (m : Nat), qct m (qfc i k v es) = qct m es/\qc2 (qfc i k v es) m = qc2 es m
 | _, [], _ => ⟨rfl, rfl⟩
 | 0, e :: es, m => ⟨rfl, rfl⟩
 | i + 1, e :: es, m => by
  obtain ⟨h1, h2⟩ := qpp k v i es (e.born + 1);refine ⟨?_, h2⟩;show (Nat.ble m e.born && qct (e.born + 1) (qfc i k v es)) = _;rw [h1]; rfl
theorem stampsR_less : ∀ (es : List ME) (m m' : Nat), m<=m'->qct m' es = true->qct m es = true/\qc2 es m<=qc2 es m'
 | [], m, m', h, _ => ⟨rfl, h⟩
 | e :: es, m, m', h, h2 => by
  unfold qct at h2 ⊢;simp only [bA] at h2 ⊢;exact ⟨⟨ble_true.2 (Nat.le_trans h (ble_true.1 h2.1)), h2.2⟩, lR _⟩
theorem qly : ∀ (i : Nat) (es : List ME) (m : Nat), qct m es = true->qct m (qf0 i es) = true/\qc2 (qf0 i es) m<=qc2 es m
 | _, [], _, h => ⟨h, lR _⟩
 | 0, e :: es, m, h => by
  unfold qct at h;simp only [bA] at h;exact stampsR_less es m (e.born + 1) (Nat.le_succ_of_le (ble_true.1 h.1)) h.2
 | i + 1, e :: es, m, h => by
  unfold qct at h;simp only [bA] at h;obtain ⟨h1, h2⟩ := qly i es (e.born + 1) h.2;refine ⟨?_, h2⟩;show (Nat.ble m e.born && qct (e.born + 1) (qf0 i es)) = true;rw [h.1, h1]; rfl
theorem MapOk.push {es : List ME} {c : Nat} {kv kv' : List (V × V)} (h : MapOk es c kv) (k v : V) (e : qim (es ++ [{ k := k, v := v, born := c }]) = kv') : MapOk (es ++ [{ k := k, v := v, born := c }]) (c + 1) kv' :=
 let ⟨q1, q2⟩ := qlz es 0 c k v h.2.1 h.2.2
 ⟨e, q1, by rw [q2]; exact lR _⟩
theorem MapOk.set {es : List ME} {c : Nat} {kv kv' : List (V × V)} (h : MapOk es c kv) (i : Nat) (k v : V) (e : qim (qfc i k v es) = kv') : MapOk (qfc i k v es) c kv' :=
 let ⟨q1, q2⟩ := qpp k v i es 0
 ⟨e, q1.trans h.2.1, by rw [q2]; exact h.2.2⟩
theorem MapOk.drop {es : List ME} {c : Nat} {kv kv' : List (V × V)} (h : MapOk es c kv) (i : Nat) (e : qim (qf0 i es) = kv') : MapOk (qf0 i es) c kv' :=
 let ⟨q1, q2⟩ := qly i es 0 h.2.1
 ⟨e, q1, Nat.le_trans q2 h.2.2⟩
theorem MapOk.new : MapOk [] 0 [] := ⟨rfl, rfl, lR _⟩
theorem MapAt.grew {W : Nat->Prop} {T : St} {r : Nat} {kv : List (V × V)} (h : MapAt S r kv) (hr : r < S.next) (hw : ¬ W r) (g : Grew W S T) : MapAt T r kv := by
 obtain ⟨es, c, h1, h2⟩ := h;exact ⟨es, c, by rw [g.keep r hr hw]; exact h1, h2⟩
def lkI (a : Int) : List (Int × V)->Option V
 | [] => none
 | p :: l => if a = p.1 then some p.2 else lkI a l
def lkS (a : List UInt8) : List (List UInt8 × Int)->Option Int
 | [] => none
 | p :: l => if a = p.1 then some p.2 else lkS a l
def ixI (a : Int) : List (Int × V)->Nat
 | [] => 0
 | p :: l => if a = p.1 then 0 else ixI a l + 1
def ixS_ (a : List UInt8) : List (List UInt8 × Int)->Nat
 | [] => 0
 | p :: l => if a = p.1 then 0 else ixS_ a l + 1
theorem mfind_u8 (a : Int) : ∀ (kv : List (Int × V)) (es : List ME) (i : Nat), qim es = kvB kv->qg5 (.int .u8 a) es i = some ((lkI a kv).map fun v => (i + ixI a kv, v))
 | [], es, i, h => by
  cases es with
  | nil => rfl
  | cons e es => simp [qim, kvB] at h
 | p :: kv, [], i, h => by simp [qim, kvB] at h
 | p :: kv, e :: es, i, h => by
  simp only [qim, kvB, List.map_cons, List.cons.injEq, pM] at h;obtain ⟨⟨h1, h2⟩, h3⟩ := h;rw [qg5, h1];simp only [qbr, cT, qhj];unfold lkI ixI;by_cases hc : a = p.1
  . rw [iP hc, iP hc, show (a == p.1) = true by simp [hc], cT, h2]; rfl
  . rw [iN hc, iN hc, show (a == p.1) = false from beq_false_of_ne hc, cF, mfind_u8 a kv es (i + 1) h3]
    cases lkI a kv with
    | none => rfl
    | some v => simp only [Option.map_some, show i + 1 + ixI a kv = i + (ixI a kv + 1) by omega]
theorem qk9 (a : List UInt8) : ∀ (kv : List (List UInt8 × Int)) (es : List ME) (i : Nat), qim es = kvS kv->qg5 (sv a) es i = some ((lkS a kv).map fun v => (i + ixS_ a kv, .int .i64 v))
 | [], es, i, h => by
  cases es with
  | nil => rfl
  | cons e es => simp [qim, kvS] at h
 | p :: kv, [], i, h => by simp [qim, kvS] at h
 | p :: kv, e :: es, i, h => by
  simp only [qim, kvS, List.map_cons, List.cons.injEq, pM] at h;obtain ⟨⟨h1, h2⟩, h3⟩ := h
  have hm : qg5 (sv a) (e :: es) i = bif a == p.1 then some (some (i, e.v)) else qg5 (sv a) es (i + 1) := by
   show (match e.k with | .str l' b => bif sEq a.length (qan a) l' b then some (some (i, e.v)) else qg5 (sv a) es (i + 1) | _ => none) = _;rw [h1];show (bif sEq a.length (qan a) p.1.length (qan p.1) then some (some (i, e.v)) else qg5 (sv a) es (i + 1)) = _;rw [qpf]
  rw [hm];unfold lkS ixS_;by_cases hc : a = p.1
  . rw [iP hc, iP hc, show (a == p.1) = true by simp [hc], cT, h2]; rfl
  . rw [iN hc, iN hc, show (a == p.1) = false from beq_false_of_ne hc, cF, qk9 a kv es (i + 1) h3]
    cases lkS a kv with
    | none => rfl
    | some v => simp only [Option.map_some, show i + 1 + ixS_ a kv = i + (ixS_ a kv + 1) by omega]
theorem qk1 (ho : S.on = false) {r : Nat} {o : O} (h : S.heap.get r = some o) (m : Option (List LE)) : qh6 (stt S m) r = some (o, stt S (m.map fun l => ⟨r, 0, big, false⟩ :: l)) := by
 cases m with
 | none => exact qia ho h
 | some l =>
  show qh6 (S.lg l) r = _;unfold qh6;rw [show (S.lg l).heap.get r = some o from h];rfl
theorem qkl (ho : S.on = false) (r : Nat) (o : O) (m : Option (List LE)) : setO (stt S m) r o = stt (S.put r o) (m.map fun l => ⟨r, 0, big, true⟩ :: l) := by
 cases m with
 | none => exact qig ho r o
 | some l => rfl
theorem und31 : und E0 31 = some (.map 9 3) := by kernel_rfl
theorem und9' : und E0 9 = some .string := by kernel_rfl
def setKI (a : Int) (v : V) : List (Int × V)->List (Int × V)
 | [] => [(a, v)]
 | p :: l => if a = p.1 then (a, v) :: l else p :: setKI a v l
def setKS (a : List UInt8) (v : Int) : List (List UInt8 × Int)->List (List UInt8 × Int)
 | [] => [(a, v)]
 | p :: l => if a = p.1 then (a, v) :: l else p :: setKS a v l
def dropKS (a : List UInt8) : List (List UInt8 × Int)->List (List UInt8 × Int)
 | [] => []
 | p :: l => if a = p.1 then l else p :: dropKS a l
theorem setME_u8 (a : Int) (v : V) : ∀ (kv : List (Int × V)) (es : List ME), qim es = kvB kv->∀ w, lkI a kv = some w->qim (qfc (ixI a kv) (.int .u8 a) v es) = kvB (setKI a v kv)
 | [], es, h, w, hw => by simp [lkI] at hw
 | p :: kv, [], h, w, hw => by simp [qim, kvB] at h
 | p :: kv, e :: es, h, w, hw => by
  simp only [qim, kvB, List.map_cons, List.cons.injEq, pM] at h;obtain ⟨⟨h1, h2⟩, h3⟩ := h;unfold ixI setKI;unfold lkI at hw;by_cases hc : a = p.1
  . rw [iP hc, iP hc]
    show (V.int .u8 a, v) :: qim es = _;rw [show qim es = kvB kv from h3]; rfl
  . rw [iN hc, iN hc]
    rw [iN hc] at hw;unfold qfc;rw [show Nat.beq (ixI a kv + 1) 0 = false from rfl, cF, Nat.add_sub_cancel];show (e.k, e.v) :: qim _ = (V.int .u8 p.1, p.2) :: kvB _;rw [h1, h2, setME_u8 a v kv es h3 w hw]
theorem setME_str (a : List UInt8) (v : Int) : ∀ (kv : List (List UInt8 × Int)) (es : List ME), qim es = kvS kv->∀ w, lkS a kv = some w->qim (qfc (ixS_ a kv) (sv a) (.int .i64 v) es) = kvS (setKS a v kv)
 | [], es, h, w, hw => by simp [lkS] at hw
 | p :: kv, [], h, w, hw => by simp [qim, kvS] at h
 | p :: kv, e :: es, h, w, hw => by
  simp only [qim, kvS, List.map_cons, List.cons.injEq, pM] at h;obtain ⟨⟨h1, h2⟩, h3⟩ := h;unfold ixS_ setKS;unfold lkS at hw;by_cases hc : a = p.1
  . rw [iP hc, iP hc]
    show (sv a, V.int .i64 v) :: qim es = _;rw [show qim es = kvS kv from h3]; rfl
  . rw [iN hc, iN hc]
    rw [iN hc] at hw;unfold qfc;rw [show Nat.beq (ixS_ a kv + 1) 0 = false from rfl, cF, Nat.add_sub_cancel];show (e.k, e.v) :: qim _ = (sv p.1, V.int .i64 p.2) :: kvS _;rw [h1, h2, setME_str a v kv es h3 w hw]
theorem setKI_none (a : Int) (v : V) : ∀ kv, lkI a kv = none->setKI a v kv = kv ++ [(a, v)]
 | [], _ => rfl
 | p :: kv, h => by
  unfold lkI at h;unfold setKI;by_cases hc : a = p.1
  . rw [iP hc] at h; cases h
  . rw [iN hc] at h ⊢
    rw [setKI_none a v kv h]; rfl
theorem setKS_none (a : List UInt8) (v : Int) : ∀ kv, lkS a kv = none->setKS a v kv = kv ++ [(a, v)]
 | [], _ => rfl
 | p :: kv, h => by
  unfold lkS at h;unfold setKS;by_cases hc : a = p.1
  . rw [iP hc] at h; cases h
  . rw [iN hc] at h ⊢
    rw [setKS_none a v kv h]; rfl
theorem dropME_str (a : List UInt8) : ∀ (kv : List (List UInt8 × Int)) (es : List ME), qim es = kvS kv->∀ w, lkS a kv = some w->qim (qf0 (ixS_ a kv) es) = kvS (dropKS a kv)
 | [], es, h, w, hw => by simp [lkS] at hw
 | p :: kv, [], h, w, hw => by simp [qim, kvS] at h
 | p :: kv, e :: es, h, w, hw => by
  simp only [qim, kvS, List.map_cons, List.cons.injEq, pM] at h;obtain ⟨⟨h1, h2⟩, h3⟩ := h;unfold ixS_ dropKS;unfold lkS at hw;by_cases hc : a = p.1
  . rw [iP hc, iP hc]
    exact h3
  . rw [iN hc, iN hc]
    rw [iN hc] at hw;unfold qf0;rw [show Nat.beq (ixS_ a kv + 1) 0 = false from rfl, cF, Nat.add_sub_cancel];show (e.k, e.v) :: qim _ = (sv p.1, V.int .i64 p.2) :: kvS _;rw [h1, h2, dropME_str a kv es h3 w hw]
theorem qkr (T : St) (m : Option (List LE)) (f g : List LE->List LE) : stt T ((m.map f).map g) = stt T (m.map fun l => g (f l)) := by cases m <;> rfl
theorem upd_u8 (ho : S.on = false) {t et : TypeId} (ht : und E0 t = some (.map 5 et)) {r : Nat} {kv : List (Int × V)} (h : MapAt S r (kvB kv)) (a : Int) (v : V) : ∃ es c, MapOk es c (kvB (setKI a v kv))/\∀ m, qbp E0 t (.map r) (.int .u8 a) v (stt S m) = some (stt (S.put r (.map es c)) (m.map fun l => ⟨r, 0, big, true⟩ :: ⟨r, 0, big, false⟩ :: l)) := by
 obtain ⟨es, c, h1, hok⟩ := h;have h2 := hok.1
 have hu : ∀ m, qbp E0 t (.map r) (.int .u8 a) v (stt S m) = (qg5 (.int .u8 a) es 0).bind fun
  | some (i, _) => some (setO (stt S (m.map fun l => ⟨r, 0, big, false⟩ :: l)) r (.map (qfc i (.int .u8 a) v es) c))
  | none => some (setO (stt S (m.map fun l => ⟨r, 0, big, false⟩ :: l)) r (.map (es ++ [{ k := .int .u8 a, v := v, born := c }]) (c + 1))) := fun m => by
  unfold qbp;rw [ht, oB];simp only;rw [und5, oB];simp only [qhl, cT];rw [qk1 ho h1 m, oB];rfl
 rw [mfind_u8 a kv es 0 h2] at hu;cases hl : lkI a kv with
 | none =>
  refine ⟨es ++ [{ k := .int .u8 a, v := v, born := c }], c + 1, hok.push _ _ ?_, fun m => ?_⟩
  . rw [setKI_none a v kv hl]
    unfold qim kvB at h2 ⊢;rw [List.map_append, List.map_append, h2]; rfl
  . rw [hu m, hl]
    show some (setO _ _ _) = _;rw [qkl ho, qkr]
 | some w =>
  refine ⟨qfc (ixI a kv) (.int .u8 a) v es, c, hok.set _ _ _ (setME_u8 a v kv es h2 w hl), fun m => ?_⟩;rw [hu m, hl];show some (setO _ _ (.map (qfc (0 + ixI a kv) _ _ _) _)) = _;rw [qkl ho, Nat.zero_add, qkr]
theorem upd_str (ho : S.on = false) {r : Nat} {kv : List (List UInt8 × Int)} (h : MapAt S r (kvS kv)) (a : List UInt8) (v : Int) : ∃ es c, MapOk es c (kvS (setKS a v kv))/\∀ m, qbp E0 31 (.map r) (sv a) (.int .i64 v) (stt S m) = some (stt (S.put r (.map es c)) (m.map fun l => ⟨r, 0, big, true⟩ :: ⟨r, 0, big, false⟩ :: l)) := by
 obtain ⟨es, c, h1, hok⟩ := h;have h2 := hok.1
 have hu : ∀ m, qbp E0 31 (.map r) (sv a) (.int .i64 v) (stt S m) = (qg5 (sv a) es 0).bind fun
  | some (i, _) => some (setO (stt S (m.map fun l => ⟨r, 0, big, false⟩ :: l)) r (.map (qfc i (sv a) (.int .i64 v) es) c))
  | none => some (setO (stt S (m.map fun l => ⟨r, 0, big, false⟩ :: l)) r (.map (es ++ [{ k := sv a, v := .int .i64 v, born := c }]) (c + 1))) := fun m => by
  unfold qbp;rw [und31, oB];simp only;rw [und9', oB];simp only [sv, qhl, cT];rw [qk1 ho h1 m, oB];rfl
 rw [qk9 a kv es 0 h2] at hu;cases hl : lkS a kv with
 | none =>
  refine ⟨es ++ [{ k := sv a, v := .int .i64 v, born := c }], c + 1, hok.push _ _ ?_, fun m => ?_⟩
  . rw [setKS_none a v kv hl]
    unfold qim kvS at h2 ⊢;rw [List.map_append, List.map_append, h2]; rfl
  . rw [hu m, hl]
    show some (setO _ _ _) = _;rw [qkl ho, qkr]
 | some w =>
  refine ⟨qfc (ixS_ a kv) (sv a) (.int .i64 v) es, c, hok.set _ _ _ (setME_str a v kv es h2 w hl), fun m => ?_⟩;rw [hu m, hl];show some (setO _ _ (.map (qfc (0 + ixS_ a kv) _ _ _) _)) = _;rw [qkl ho, Nat.zero_add, qkr]
theorem del_str (ho : S.on = false) {r : Nat} {kv : List (List UInt8 × Int)} (h : MapAt S r (kvS kv)) (a : List UInt8) {w : Int} (hl : lkS a kv = some w) : ∃ es c, MapOk es c (kvS (dropKS a kv))/\∀ m, qee E0 31 (.map r) (sv a) (stt S m) = some (stt (S.put r (.map es c)) (m.map fun l => ⟨r, 0, big, true⟩ :: ⟨r, 0, big, false⟩ :: l)) := by
 obtain ⟨es, c, h1, hok⟩ := h;have h2 := hok.1;refine ⟨qf0 (ixS_ a kv) es, c, hok.drop _ (dropME_str a kv es h2 w hl), fun m => ?_⟩;unfold qee;rw [und31, oB];simp only;rw [und9', oB];simp only [sv, qhl, cT];rw [qk1 ho h1 m, oB];simp only;have hm := qk9 a kv es 0 h2;unfold sv at hm;rw [hm, hl];show some (setO _ _ (.map (qf0 (0 + ixS_ a kv) _) _)) = _;rw [qkl ho, Nat.zero_add, qkr]
theorem qop (r : Nat) {es : List ME} {c : Nat} {kv : List (V × V)} (h : MapOk es c kv) : MapAt (S.put r (.map es c)) r kv := ⟨es, c, by rw [qby, iP rfl], h⟩
theorem lnMap_of (ho : S.on = false) {r : Nat} {kv : List (V × V)} (h : MapAt S r kv) : lnMap (.map r) S = some (.int .i64 (kv.length : Int), S) := by
 obtain ⟨es, c, h1, hok⟩ := h;have h2 := hok.1;have hl : es.length = kv.length := by rw [<- h2]; exact (lM ..).symm
 unfold lnMap;simp only;rw [qia ho h1];simp only [oB, hl];rfl
end
end Go.Proofs.Ytmeohejdafbodaa.W
namespace Go.Proofs.Ytmeohejdafbodaa.W
open Go.Proofs.Ytmeohejdafbodaa.Ev
noncomputable def qpd (x : Nd) (v : V) : Tr V := Tr.ofListFrom .nil [sv x.name, .int .i64 x.kind, .bool x.exec, sv x.data, v] 0
open Classical in
open Classical in
theorem qki (x : Nd) (v : V) (i : Nat) : (qpd x v).get i = [sv x.name, .int .i64 x.kind, .bool x.exec, sv x.data, v][i]? := by unfold qpd; rw [Tr.get_ofList]
section
variable {w0 : Base} {ρ : Rho} {s : St} {w w' : World}
theorem keep_frz (hR : Rel E0 w0 ρ s w) : Keep ρ (frz w) 0 := ⟨fun b x hb => absurd hb (by omega), fun k o h => hR.fz k o h⟩
theorem glob0' : ∀ g, E0.glob.get g = none := fun _ => rfl
theorem relF (W : World) : Rel E0 (base0 W) (frz W) s0 W :=
 ⟨⟨rfl, rfl, rfl, lR _, fun _ _ => rfl⟩, fun _ _ => rfl, lR _, fun b o h => by simp [s0, Tr.get_nil] at h, fun b b' o o' cb sh sz sh' sz' h => by simp [s0, Tr.get_nil] at h, fun g b h => (by rw [glob0'] at h; cases h), fun k o h => h, fun b o cb sh sz h => (by simp [s0, Tr.get_nil] at h), fun k o h _ => trivial⟩
end
open Classical
def qc6 (x : Nd) (l : List Nd) : Nd := .mk x.name x.kind x.exec x.data l
noncomputable def qgq (th : V->St->Option (List Nd × St)) : List (Tr V)->St->Option (List Nd × St)
 | [], s => some ([], s)
 | t :: l, s => if h : ∃ q : Nd × V, t = qpd q.1 q.2 then (th h.choose.2 s).bind fun p => (qgq th l p.2).bind fun q => some (qc6 h.choose.1 p.1 :: q.1, q.2) else none
noncomputable def thawR (th : V->St->Option (List Nd × St)) : V->St->Option (List Nd × St)
 | .oslice r off n z, s => bif Nat.beq off 0 && Nat.beq z 5 && Nat.blt 0 n then (ldN r 5 n 0 s).bind fun p => qgq th p.1 p.2 else none
 | .slice r off n _, s => bif Nat.beq off 0 && Nat.blt 0 n then (ldN r 5 n 0 s).bind fun p => qgq th p.1 p.2 else none
 | _, _ => none
noncomputable def qec : Nat->V->St->Option (List Nd × St)
 | 0, v, s => if h : ∃ l, qbh (qd3 l) = v then some (h.choose, s) else none
 | k + 1, v, s => if h : ∃ l, qbh (qd3 l) = v then some (h.choose, s) else thawR (qec k) v s
noncomputable def thawE (g : Nd->Int) (x : Nd) : Option En := if x.ok then some (.ret (.int .i64 (g x))) else none
noncomputable def qfu (d : Nat) (g : Nd->Int) : KF := ⟨fun args s => match args with
 | [.agg k t] => if h : k = 5/\∃ q : Nd × V, t = qpd q.1 q.2 then (qec d h.2.choose.2 s).bind fun p => (thawE g (qc6 h.2.choose.1 p.1)).bind fun e => some (e, p.2) else none
 | _ => none⟩
theorem qli {th : V->St->Option (List Nd × St)} (h : ∀ v, LocP fun s => th v s) : ∀ ts, LocP fun s => qgq th ts s
 | [] => LocP.ret _
 | t :: l => by
  by_cases hx : ∃ q : Nd × V, t = qpd q.1 q.2
  . simp only [qgq, dif_pos hx]
    refine Loc.bind (h _) fun a => ?_;have := Loc.bind (st := Prod.snd) (up := upP) (g := fun q => some (qc6 hx.choose.1 a :: q.1, q.2)) (qli h l) fun b => LocP.ret (qc6 hx.choose.1 a :: b);exact this
  . simp only [qgq, dif_neg hx]
    exact Loc.none
theorem thawR_locp {th : V->St->Option (List Nd × St)} (h : ∀ v, LocP fun s => th v s) (v : V) : LocP fun s => thawR th v s := by
 cases v with
 | oslice r off n z => exact Loc.cond (Loc.bind (loc_ldN _ _ _ _) fun l => qli h l) Loc.none
 | slice r off n c => exact Loc.cond (Loc.bind (loc_ldN _ _ _ _) fun l => qli h l) Loc.none
 | _ => exact Loc.none
theorem thawN_locp : ∀ (d : Nat) (v : V), LocP fun s => qec d v s
 | 0, v => by
  by_cases hx : ∃ l, qbh (qd3 l) = v
  . simp only [qec, dif_pos hx]; exact LocP.ret _
  . simp only [qec, dif_neg hx]; exact Loc.none
 | d + 1, v => by
  by_cases hx : ∃ l, qbh (qd3 l) = v
  . simp only [qec, dif_pos hx]; exact LocP.ret _
  . simp only [qec, dif_neg hx]; exact thawR_locp (thawN_locp d) v
theorem kfNodeT_locp (d : Nat) (g : Nd->Int) (args : List V) : LocP fun s => (qfu d g).run args s := by
 unfold qfu;dsimp only;split
 . split
   . rename_i hx
     exact Loc.bind (thawN_locp d _) fun a => Loc.opt (o := thawE g (qc6 hx.2.choose.1 a)) fun e => LocP.ret e
   . exact Loc.none
 . exact Loc.none
theorem thawL_lg {th : V->St->Option (List Nd × St)} (h : ∀ v, Lg.LocP fun s => th v s) : ∀ ts, Lg.LocP fun s => qgq th ts s
 | [] => Lg.LocP.ret _
 | t :: l => by
  by_cases hx : ∃ q : Nd × V, t = qpd q.1 q.2
  . simp only [qgq, dif_pos hx]
    refine Lg.Loc.bind (h _) fun a => ?_;have := Lg.Loc.bind (st := Prod.snd) (up := upP) (g := fun q => some (qc6 hx.choose.1 a :: q.1, q.2)) (thawL_lg h l) fun b => Lg.LocP.ret (qc6 hx.choose.1 a :: b);exact this
  . simp only [qgq, dif_neg hx]
    exact Lg.Loc.none
theorem thawR_lg {th : V->St->Option (List Nd × St)} (h : ∀ v, Lg.LocP fun s => th v s) (v : V) : Lg.LocP fun s => thawR th v s := by
 cases v with
 | oslice r off n z => exact Lg.Loc.cond (Lg.Loc.bind (Lg.loc_ldN _ _ _ _) fun l => thawL_lg h l) Lg.Loc.none
 | slice r off n c => exact Lg.Loc.cond (Lg.Loc.bind (Lg.loc_ldN _ _ _ _) fun l => thawL_lg h l) Lg.Loc.none
 | _ => exact Lg.Loc.none
theorem thawN_lg : ∀ (d : Nat) (v : V), Lg.LocP fun s => qec d v s
 | 0, v => by
  by_cases hx : ∃ l, qbh (qd3 l) = v
  . simp only [qec, dif_pos hx]; exact Lg.LocP.ret _
  . simp only [qec, dif_neg hx]; exact Lg.Loc.none
 | d + 1, v => by
  by_cases hx : ∃ l, qbh (qd3 l) = v
  . simp only [qec, dif_pos hx]; exact Lg.LocP.ret _
  . simp only [qec, dif_neg hx]; exact thawR_lg (thawN_lg d) v
theorem kfNodeT_lg (d : Nat) (g : Nd->Int) (args : List V) : Lg.LocP fun s => (qfu d g).run args s := by
 unfold qfu;dsimp only;split
 . split
   . rename_i hx
     exact Lg.Loc.bind (thawN_lg d _) fun a => Lg.Loc.opt (o := thawE g (qc6 hx.2.choose.1 a)) fun e => Lg.LocP.ret e
   . exact Lg.Loc.none
 . exact Lg.Loc.none
section
end
section
variable {w0 : Base} {ρ : Rho} {s : St} {w w' : World}
theorem under_kidsV (N : Nat) (l : List Nd) : Under N (qbh (qd3 l)) := by
 have := qlk N l;cases hl : qd3 l with
 | nil => exact .nilslice
 | cons a m => rw [hl] at this; exact .list this
theorem row_rel (hK : Keep ρ (frz w) 0) {x : Nd} {kv : V} {l : List Nd} {cv : Value} (hv : VRel ρ (.agg 5 (qpd x kv)) cv) (hk : ∀ c4, VRel ρ kv c4->VRel (frz w) (qbh (qd3 l)) c4) : VRel (frz w) (qde (qc6 x l)) cv := by
 cases hv with
 | @agg _ _ cs hn h1 h =>
  have hg := qki x kv;rw [qf1];refine .agg hn h1 fun i v hi cv hcv => ?_
  have hi' : [sv x.name, .int .i64 x.kind, .bool x.exec, sv x.data, qbh (qd3 l)][i]? = some v := by
   rw [<- hi]; unfold treeN qfd; rw [Tr.get_ofList]; rfl
  match i, hi' with
  | 0, e => cases e; exact VRel.under hK (h 0 (sv x.name) (by rw [hg]; rfl) cv hcv) (.str _ _)
  | 1, e => cases e; exact VRel.under hK (h 1 (.int .i64 x.kind) (by rw [hg]; rfl) cv hcv) (.int _ _)
  | 2, e => cases e; exact VRel.under hK (h 2 (.bool x.exec) (by rw [hg]; rfl) cv hcv) (.bool _)
  | 3, e => cases e; exact VRel.under hK (h 3 (sv x.data) (by rw [hg]; rfl) cv hcv) (.str _ _)
  | 4, e => cases e; exact hk cv (h 4 kv (by rw [hg]; rfl) cv hcv)
def ThOk (w0 : Base) (ρ : Rho) (w : World) (th : V->St->Option (List Nd × St)) : Prop := ∀ v s l s1 cv, Rel E0 w0 ρ s w->th v s = some (l, s1)->VRel ρ v cv->VRel (frz w) (qbh (qd3 l)) cv/\Ev.Same s s1
theorem thawL_rel (hK : Keep ρ (frz w) 0) {th : V->St->Option (List Nd × St)} (hth : ThOk w0 ρ w th) : ∀ {ts : List (Tr V)} {c : List Value} {s s1 : St} {l : List Nd}, Rel E0 w0 ρ s w->qgq th ts s = some (l, s1)->ERels ρ 5 ts c->∃ cl : List Value, VRels (frz w) (l.map qde) cl/\cl.length = l.length/\l.length = ts.length/\(∀ cv ∈ cl, cv.cells.size = 5)/\cl.flatMap (fun cv => cv.cells.toList) = c/\Ev.Same s s1
 | [], _, s, s1, l, hR, h, .nil => by
  simp only [qgq, oS, pM] at h;obtain ⟨rfl, rfl⟩ := h;exact ⟨[], .nil, rfl, rfl, fun _ h => (by cases h), rfl, Ev.Same.refl _⟩
 | t :: ts, _, s, s1, l, hR, h, .cons (c := c) he r => by
  by_cases hx : ∃ q : Nd × V, t = qpd q.1 q.2
  . simp only [qgq, dif_pos hx, oI, oS, pM] at h
    obtain ⟨⟨l1, s2⟩, h1, ⟨l2, s3⟩, h2, rfl, rfl⟩ := h;have ht := hx.choose_spec;generalize hx.choose = q at h1 ht;obtain ⟨x, kv⟩ := q;dsimp only at h1 ht h2 ⊢;subst ht
    have hsame : Ev.Same s s2 := by
     have hag := he.agg;cases hag with
     | agg hn _ hh =>
      have h4 := hh 4 kv (by rw [qki]; rfl) (c.toArray[4]'(by rw [hn]; omega)) (by rw [Array.getElem?_eq_getElem]);exact (hth _ _ _ _ _ hR h1 h4).2
    obtain ⟨cl, k1, k2, k3, k4, k5, k6⟩ := thawL_rel hK hth (hR.same hsame) h2 r;have hv : VRel (frz w) (qde (qc6 x l1)) (.agg c.toArray) := row_rel hK he.agg fun c4 hc => (hth _ _ _ _ _ hR h1 hc).1;refine ⟨.agg c.toArray :: cl, .cons hv k1, by rw [List.length_cons, k2, List.length_cons], by rw [List.length_cons, k3, List.length_cons], fun cv hcv => ?_, ?_, hsame.trans k6⟩
    . rcases List.mem_cons.1 hcv with rfl | hcv
      . show c.toArray.size = 5
        simpa using he.len
      . exact k4 cv hcv
    . rw [List.flatMap_cons, k5]
      rfl
  . simp only [qgq, dif_neg hx] at h
    cases h
theorem thaw_row (hR : Rel E0 w0 ρ s w) {th : V->St->Option (List Nd × St)} (hth : ThOk w0 ρ w th) {r n cb sh sz cap : Nat} (hρ : ρ r = some (cb, sh, sz)) {p : List (Tr V) × St} {l : List Nd} {s1 : St} (h0 : 0 < n) (hl : n<=cap) (hld : ldN r 5 n 0 s = some p) (ht : qgq th p.1 p.2 = some (l, s1)) {a : Addr} (ha : a = ⟨cb, sh + 0, none⟩) : VRel (frz w) (qbh (qd3 l)) (.slice (some a) n cap)/\Ev.Same s s1 := by
 have hK := keep_frz hR;obtain ⟨ts, s2⟩ := p;obtain ⟨c, hcell, hER, hlen, hsame⟩ := ql2 hρ n 0 s s2 _ hR hld;obtain ⟨cl, q1, q2, q2', q3, q4, q5⟩ := thawL_rel hK hth (hR.same hsame) ht hER;have q2'' : l.length = ts.length := q2';have hlen : ts.length = n := hlen
 have hclen : 0 < c.length := by
  have := hER.length;omega
 have hhp : ∃ bg ty fr, w.heap[cb]? = some (.cells bg ty fr) := by
  have := hcell 0 c[0] (List.getElem?_eq_getElem hclen);unfold World.cell? at this;simp only at this;split at this
  . rename_i bg ty fr hh
    exact ⟨bg, ty, fr, hh⟩
  . cases this
 obtain ⟨bg, ty, fr, hheap⟩ := hhp;refine ⟨?_, hsame.trans q5⟩
 have hkv : qbh (qd3 l) = .list 5 (l.map qde) := by
  rw [qjx];cases hk : l with
  | nil => rw [hk] at q2'; simp at q2'; omega
  | cons y l => rfl
 rw [hkv];refine .list q1 (fun v hv => ?_) (by rw [lM]; omega) hl fun _ => ⟨q3, by rw [ha], bg, ty, fr, by rw [ha]; exact hheap, fun j x hj => ?_⟩
 . rw [List.mem_map] at hv
   obtain ⟨y, _, rfl⟩ := hv;rw [qf1]; rfl
 . rw [q4] at hj
   have := hcell j x hj;unfold World.cell? at this;simp only at this;rw [hheap] at this;rw [ha];exact this
theorem thawR_ok {th : V->St->Option (List Nd × St)} (hth : ThOk w0 ρ w th) : ThOk w0 ρ w (thawR th) := fun v s l s1 cv hR h hv => by
 unfold thawR at h;split at h
 . rename_i r off n z
   cases hc : (Nat.beq off 0 && Nat.beq z 5 && Nat.blt 0 n) with
   | false => rw [hc] at h; cases h
   | true =>
    rw [hc, cT] at h;simp only [bA, Ev.beq_true, blt_true] at hc;obtain ⟨⟨rfl, rfl⟩, h0⟩ := hc;simp only [oI] at h;obtain ⟨p, hld, ht⟩ := h;cases hv with
    | oslice hρ hl hz hc ha => exact thaw_row hR hth hρ h0 hl hld ht (ha (by omega))
 . rename_i r off n c
   cases hc : (Nat.beq off 0 && Nat.blt 0 n) with
   | false => rw [hc] at h; cases h
   | true =>
    rw [hc, cT] at h;simp only [bA, Ev.beq_true, blt_true] at hc;obtain ⟨rfl, h0⟩ := hc;simp only [oI] at h;obtain ⟨p, hld, ht⟩ := h;cases hv with
    | slice hρ hl ha => exact thaw_row hR hth hρ h0 hl hld ht (ha (by omega))
 . cases h
theorem qpr (hR : Rel E0 w0 ρ s w) {v : V} {cv : Value} (hx : ∃ l, qbh (qd3 l) = v) (hv : VRel ρ v cv) : VRel (frz w) (qbh (qd3 hx.choose)) cv := by
 have h := hx.choose_spec;generalize hx.choose = l at h;subst h;exact VRel.under (keep_frz hR) hv (under_kidsV 0 l)
theorem thawN_ok : ∀ d : Nat, ThOk w0 ρ w (qec d)
 | 0 => fun v s l s1 cv hR h hv => by
  by_cases hx : ∃ l, qbh (qd3 l) = v
  . simp only [qec, dif_pos hx, oS, pM] at h
    obtain ⟨rfl, rfl⟩ := h;exact ⟨qpr hR hx hv, Ev.Same.refl _⟩
  . simp only [qec, dif_neg hx] at h
    cases h
 | d + 1 => fun v s l s1 cv hR h hv => by
  by_cases hx : ∃ l, qbh (qd3 l) = v
  . simp only [qec, dif_pos hx, oS, pM] at h
    obtain ⟨rfl, rfl⟩ := h;exact ⟨qpr hR hx hv, Ev.Same.refl _⟩
  . simp only [qec, dif_neg hx] at h
    exact thawR_ok (thawN_ok d) v s l s1 cv hR h hv
theorem kfNodeT_well {f : FuncId} (d : Nat) (g : Nd->Int) (h : KnWell Try.prog E0 f (qbc fun x => .int .i64 (g x))) : KnWell Try.prog E0 f (qfu d g) := by
 refine ⟨kfNodeT_locp d g, fun w0 ρ s w args cargs e s' hR hv hg => ?_⟩;unfold qfu at hg;dsimp only at hg;split at hg
 . rename_i k t
   by_cases hx : k = 5/\∃ q : Nd × V, t = qpd q.1 q.2
   . rw [dif_pos hx] at hg
     have ht := hx.2.choose_spec;generalize hx.2.choose = q at hg ht;obtain ⟨rfl, _⟩ := hx;obtain ⟨x, kv⟩ := q;simp only [oI, oS, pM] at hg;obtain ⟨⟨l, s1⟩, h1, e', h2, rfl, rfl⟩ := hg;dsimp only at ht h1 h2 ⊢;subst ht;unfold thawE at h2;split at h2
     . rename_i hok
       simp only [oS] at h2;subst h2;obtain ⟨cargs⟩ := cargs;cases hv with
       | cons hv1 ht =>
       cases ht;have hk4 : ∀ c4, VRel ρ kv c4->VRel (frz w) (qbh (qd3 l)) c4/\Ev.Same s s1 := fun c4 hc => thawN_ok d _ _ _ _ _ hR h1 hc
       have hsame : Ev.Same s s1 := by
        cases hv1 with
        | @agg _ _ cs hn _ hh =>
         exact (hk4 cs[4] (hh 4 kv (by rw [qki]; rfl) cs[4] (by rw [Array.getElem?_eq_getElem]))).2
       have hv2 := row_rel (keep_frz hR) hv1 fun c4 hc => (hk4 c4 hc).1;refine (h.sim (base0 w) (frz w) s0 w [qde (qc6 x l)] #[_] _ s0 (relF w) (.cons hv2 .nil) (qbq _ _ hok s0)).mono fun ce w' hce => ?_;obtain ⟨ρ', cv, rfl, _, hv, hR'⟩ := hce;cases hv;exact ⟨ρ, _, rfl, Rho.le_refl ρ, .int _ _, (hR.same hsame).grown (qhc hR')⟩
     . cases h2
   . rw [dif_neg hx] at hg; cases hg
 . cases hg
end
end Go.Proofs.Ytmeohejdafbodaa.W
namespace Go.Proofs.Ytmeohejdafbodaa.W
open Go.Proofs.Ytmeohejdafbodaa.Ev Go.RowKit
section
variable {S T U : St} {kv : V}
noncomputable def qd7 (x : Nd) (kv : V) : V := .agg 5 (qpd x kv)
theorem nodeV_enc (x : Nd) : qd7 x (qbh (qd3 x.kids)) = qde x := by rw [qf1]; rfl
def RowsD (P : V->List Nd->Prop) : List (Tr V)->List Nd->Prop
 | [], [] => True
 | t :: ts, y :: l => (∃ kv, t = qpd y kv/\P kv y.kids)/\RowsD P ts l
 | _, _ => False
def KidsD : Nat->St->V->Nat->List Nd->Prop
 | 0, _, kv, _, l => kv = qbh (qd3 l)
 | d + 1, S, kv, M, l => kv = qbh (qd3 l)\/(0 < l.length/\∃ k ts, (kv = .oslice k 0 l.length 5\/kv = .slice k 0 l.length l.length)/\RowAt S k 24 5 ts/\k < S.next/\k < M/\RowsD (fun kv l => KidsD d S kv k l) ts l)
theorem RowsD.mono {P Q : V->List Nd->Prop} (h : ∀ kv l, P kv l->Q kv l) : ∀ {ts : List (Tr V)} {l : List Nd}, RowsD P ts l->RowsD Q ts l
 | [], [], _ => trivial
 | t :: ts, y :: l, ⟨⟨kv, h1, h2⟩, h3⟩ => ⟨⟨kv, h1, h _ _ h2⟩, RowsD.mono h h3⟩
 | [], _ :: _, h => h.elim
 | _ :: _, [], h => h.elim
theorem RowsD.length {P : V->List Nd->Prop} : ∀ {ts : List (Tr V)} {l : List Nd}, RowsD P ts l->ts.length = l.length
 | [], [], _ => rfl
 | t :: ts, y :: l, ⟨_, h3⟩ => by rw [List.length_cons, List.length_cons, RowsD.length h3]
 | [], _ :: _, h => h.elim
 | _ :: _, [], h => h.elim
theorem RowsD.at {P : V->List Nd->Prop} : ∀ {ts : List (Tr V)} {l : List Nd}, RowsD P ts l->∀ {i : Nat} (hi : i < l.length), ∃ kv, ts[i]? = some (qpd l[i] kv)/\P kv l[i].kids
 | [], [], _, i, hi => by simp at hi
 | t :: ts, y :: l, ⟨⟨kv, h1, h2⟩, h3⟩, 0, _ => ⟨kv, by rw [h1]; rfl, h2⟩
 | t :: ts, y :: l, ⟨_, h3⟩, i + 1, hi => by
  obtain ⟨kv, k1, k2⟩ := RowsD.at h3 (i := i) (by simpa using hi);exact ⟨kv, by simpa using k1, by simpa using k2⟩
 | [], _ :: _, h, _, _ => h.elim
 | _ :: _, [], h, _, _ => h.elim
theorem RowsD.app {P : V->List Nd->Prop} {kv : V} {y : Nd} (hp : P kv y.kids) : ∀ {ts : List (Tr V)} {l : List Nd}, RowsD P ts l->RowsD P (ts ++ [qpd y kv]) (l ++ [y])
 | [], [], _ => ⟨⟨kv, rfl, hp⟩, trivial⟩
 | t :: ts, y :: l, ⟨h1, h3⟩ => ⟨h1, RowsD.app hp h3⟩
 | [], _ :: _, h => h.elim
 | _ :: _, [], h => h.elim
theorem KidsD.frozen (d : Nat) {M : Nat} (l : List Nd) : KidsD d S (qbh (qd3 l)) M l := by
 cases d with
 | zero => rfl
 | succ d => exact .inl rfl
theorem KidsD.grew {W : Nat->Prop} : ∀ {d : Nat} {kv : V} {M : Nat} {l : List Nd}, KidsD d S kv M l->(∀ k, k < M->¬ W k)->Grew W S T->KidsD d T kv M l
 | 0, _, _, _, h, _, _ => h
 | d + 1, kv, M, l, h, hw, g => by
  rcases h with h | ⟨h0, k, ts, h1, h2, h3, h4, h5⟩
  . exact .inl h
  . exact .inr ⟨h0, k, ts, h1, h2.grew h3 (hw k h4) g, Nat.lt_of_lt_of_le h3 g.next, h4, h5.mono fun kv l h => KidsD.grew h (fun x hx => hw x (by omega)) g⟩
theorem KidsD.more : ∀ {d : Nat} {kv : V} {M M' : Nat} {l : List Nd}, KidsD d S kv M l->M<=M'->KidsD d S kv M' l
 | 0, _, _, _, _, h, _ => h
 | d + 1, kv, M, M', l, h, hM => by
  rcases h with h | ⟨h0, k, ts, h1, h2, h3, h4, h5⟩
  . exact .inl h
  . exact .inr ⟨h0, k, ts, h1, h2, h3, by omega, h5⟩
theorem KidsD.up : ∀ {d : Nat} {kv : V} {M : Nat} {l : List Nd}, KidsD d S kv M l->KidsD (d + 1) S kv M l
 | 0, _, _, _, h => .inl h
 | d + 1, kv, M, l, h => by
  rcases h with h | ⟨h0, k, ts, h1, h2, h3, h4, h5⟩
  . exact .inl h
  . exact .inr ⟨h0, k, ts, h1, h2, h3, h4, h5.mono fun kv l h => h.up⟩
theorem KidsD.len {d M : Nat} {l : List Nd} (h : KidsD d S kv M l) (U : St) : lnS kv U = some (.int .i64 (l.length : Int), U) := by
 cases d with
 | zero => rw [show kv = qbh (qd3 l) from h]; exact qcj l
 | succ d =>
  rcases h with rfl | ⟨h0, k, ts, rfl | rfl, _⟩
  . exact qcj l
  . exact qk6 (fun _ _ e => by cases e) rfl
  . exact qk6 (fun _ _ e => by cases e) rfl
theorem KidsD.at {d M : Nat} {l : List Nd} (h : KidsD d S kv M l) (ho : S.on = false) {i : Nat} (hi : i < l.length) : ∃ q kv', ixP 5 kv (.int .i64 (i : Int)) = some q/\ldA 5 q S = some (qd7 l[i] kv', S)/\KidsD (d - 1) S kv' M l[i].kids := by
 have hfr : kv = qbh (qd3 l)->∃ q kv', ixP 5 kv (.int .i64 (i : Int)) = some q/\ldA 5 q S = some (qd7 l[i] kv', S)/\KidsD (d - 1) S kv' M l[i].kids := fun e => by
  subst e;exact ⟨_, qbh (qd3 l[i].kids), qds l i hi, by rw [nodeV_enc]; exact qj9 _, KidsD.frozen _ _⟩
 cases d with
 | zero => exact hfr h
 | succ d =>
  rcases h with h | ⟨h0, k, ts, h1, h2, h3, h4, h5⟩
  . exact hfr h
  . obtain ⟨kv', k1, k2⟩ := h5.at hi
    refine ⟨.ptr k (0 + i * 5), kv', ?_, ?_, KidsD.more k2 (by omega)⟩
    . rcases h1 with rfl | rfl
      . show (bif Nat.blt i l.length then some (V.ptr k (0 + i * 5)) else none) = _
        rw [blt_true.2 hi]; rfl
      . show (bif Nat.blt i l.length then some (V.ptr k (0 + i * 5)) else none) = _
        rw [blt_true.2 hi]; rfl
    . have := h2.ldK ho (i := i) (t := qpd l[i] kv') k1
      rw [Nat.zero_add];show ((ldK S k (i * 5) 5).bind fun p => some (V.agg 5 p.1, p.2)) = _;rw [this]; rfl
theorem row_head {x y : Nd} {u v : V} (h : qpd x u = qpd y v) (l : List Nd) : qc6 x l = qc6 y l/\u = v := by
 have g := fun i => (qki x u i).symm.trans ((congrArg (·.get i) h).trans (qki y v i));have h0 := g 0; have h1 := g 1; have h2 := g 2; have h3 := g 3; have h4 := g 4;simp only [List.getElem?_cons_zero, List.getElem?_cons_succ, oS] at h0 h1 h2 h3 h4;have e0 := qks h0;have e3 := qks h3;simp only [V.int.injEq, V.bool.injEq] at h1 h2;unfold qc6;exact ⟨by rw [e0, h1.2, h2, e3], h4⟩
theorem qm3 (x : Nd) : qc6 x x.kids = x := by cases x; rfl
theorem thawL_run {th : V->St->Option (List Nd × St)} {P : V->List Nd->Prop} (hth : ∀ kv l, P kv l->th kv S = some (l, S)) : ∀ {ts : List (Tr V)} {l : List Nd}, RowsD P ts l->qgq th ts S = some (l, S)
 | [], [], _ => rfl
 | t :: ts, y :: l, ⟨⟨kv, h1, h2⟩, h3⟩ => by
  subst h1;have hx : ∃ q : Nd × V, qpd y kv = qpd q.1 q.2 := ⟨(y, kv), rfl⟩
  have he := hx.choose_spec;simp only [qgq, dif_pos hx];generalize hx.choose = q at he;obtain ⟨q1, q2⟩ := q;obtain ⟨e1, e2⟩ := row_head he y.kids;dsimp only at e1 e2 ⊢;rw [<- e2, hth kv _ h2, oB];dsimp only;rw [thawL_run hth h3, oB, <- e1, qm3]
 | [], _ :: _, h => h.elim
 | _ :: _, [], h => h.elim
theorem not_kids_o {l : List Nd} {r n z : Nat} : ¬ qbh (qd3 l) = .oslice r 0 n z := by
 cases qd3 l <;> (intro h; cases h)
theorem not_kids_s {l : List Nd} {r n z : Nat} : ¬ qbh (qd3 l) = .slice r 0 n z := by
 cases qd3 l <;> (intro h; cases h)
theorem qm1 (d : Nat) (l : List Nd) : qec d (qbh (qd3 l)) S = some (l, S) := by
 have hx : ∃ m, qbh (qd3 m) = qbh (qd3 l) := ⟨l, rfl⟩
 have := encL_inj (kidsV_inj hx.choose_spec);cases d with
 | zero => simp only [qec, dif_pos hx, this]
 | succ d => simp only [qec, dif_pos hx, this]
theorem thawN_run (ho : S.on = false) : ∀ {d M : Nat} {kv : V} {l : List Nd}, KidsD d S kv M l->qec d kv S = some (l, S)
 | 0, _, kv, l, h => by rw [show kv = qbh (qd3 l) from h]; exact qm1 0 l
 | d + 1, M, kv, l, h => by
  rcases h with rfl | ⟨h0, k, ts, h1, h2, h3, h4, h5⟩
  . exact qm1 _ l
  . have hlen := h5.length
    have hld := h2.ldN ho l.length 0 (by omega);rw [List.drop_zero, List.take_of_length_le (by omega), Nat.zero_mul] at hld;have hL : qgq (qec d) ts S = some (l, S) := thawL_run (fun kv l h => thawN_run ho h) h5;rcases h1 with rfl | rfl
    . have hx : ¬ ∃ m, qbh (qd3 m) = .oslice k 0 l.length 5 := fun ⟨m, hm⟩ => not_kids_o hm
      simp only [qec, dif_neg hx];show (bif Nat.beq 0 0 && Nat.beq 5 5 && Nat.blt 0 l.length then (ldN k 5 l.length 0 S).bind fun p => qgq (qec d) p.1 p.2 else none) = _;rw [show Nat.beq 0 0 = true from rfl, show Nat.beq 5 5 = true from rfl, blt_true.2 h0, Bool.and_self, Bool.and_self, cT, hld, oB];exact hL
    . have hx : ¬ ∃ m, qbh (qd3 m) = .slice k 0 l.length l.length := fun ⟨m, hm⟩ => not_kids_s hm
      simp only [qec, dif_neg hx];show (bif Nat.beq 0 0 && Nat.blt 0 l.length then (ldN k 5 l.length 0 S).bind fun p => qgq (qec d) p.1 p.2 else none) = _;rw [show Nat.beq 0 0 = true from rfl, blt_true.2 h0, Bool.and_self, cT, hld, oB];exact hL
theorem kfNodeT_run (d : Nat) (g : Nd->Int) (x : Nd) (ok : x.ok) (ho : S.on = false) {M : Nat} (h : KidsD d S kv M x.kids) : (qfu d g).run [qd7 x kv] S = some (.ret (.int .i64 (g x)), S) := by
 have hx : (5 : Nat) = 5/\∃ q : Nd × V, qpd x kv = qpd q.1 q.2 := ⟨rfl, (x, kv), rfl⟩
 unfold qfu qd7;dsimp only;rw [dif_pos hx];have he := hx.2.choose_spec;generalize hx.2.choose = q at he;obtain ⟨q1, q2⟩ := q;obtain ⟨e1, e2⟩ := row_head he x.kids;dsimp only at e1 e2 ⊢;rw [<- e2, thawN_run ho h, oB];dsimp only;rw [<- e1, qm3];unfold thawE;rw [iP ok, oB]
end
open Go.Proofs
set_option maxHeartbeats 1000000 in
set_option maxRecDepth 100000 in
theorem copyUsed (b o : Nat) (w : World) (h0 : w.cell? ⟨b, o, none⟩ = some (.pointer (some ⟨b, o, none⟩))) :
 Calls Try.prog 55 #[.pointer (some ⟨b, o, none⟩)] w fun e w' => e = .returned (.tuple #[])/\w' = w := by
 have hj : (Try.prog.info? 55).map (·.size) = some 2 := by kernel_rfl
 obtain ⟨j, hj, _⟩ := Option.map_eq_some_iff.1 hj
 go_enter Try.func55, Try.ntmps55
 go_wp2
 rw [Lib.run_neq_ptr_same w _ Try.underlying53 hj]
 go_wp2
 go_end0
 exact ⟨rfl, rfl⟩
set_option maxHeartbeats 1000000 in
set_option maxRecDepth 100000 in
theorem copyFresh (b o n : Nat) (w : World) (h0 : w.cell? ⟨b, o, none⟩ = some (.pointer none)) (hsh : w.shape? b = some (55, n)) (ho : o < n) (hli : liesAt Try.prog Try.prog.depth 55 (n / Try.prog.cellsOf 55) o 55 1 = true) (hfz : w.frozen? ⟨b, o, none⟩ = false) :
 Calls Try.prog 55 #[.pointer (some ⟨b, o, none⟩)] w fun e w' => e = .returned (.tuple #[])/\w' = w.setCell ⟨b, o, none⟩ (.pointer (some ⟨b, o, none⟩)) := by
 have hj : (Try.prog.info? 55).map (·.size) = some 2 := by kernel_rfl
 obtain ⟨j, hj, hjs⟩ := Option.map_eq_some_iff.1 hj
 go_enter Try.func55, Try.ntmps55
 go_wp2
 rw [Lib.run_to_unsafe w ⟨b, o, none⟩ Try.underlying53 Try.underlying108 hj (by rw [hjs]; decide) hsh ho];simp only [Result.andThen];rw [Oper.upon_value]
 go_wp2
 rw [run_callFunc_extern Try.func86 (by kernel_rfl) (by kernel_rfl) (by kernel_rfl) (e := Extern.AbiNoEscape.same) (by kernel_rfl)];rw [Lib.run_noEscape];simp only [Result.andThen];rw [Oper.upon_value]
 go_wp2
 rw [Lib.run_from_unsafe w ⟨b, o, none⟩ Try.underlying108 Try.underlying53 hj hsh hli];simp only [Result.andThen];rw [Oper.upon_value]
 go_wp2
 go_end0
 exact ⟨rfl, rfl⟩
theorem build55 : BuildOk Try.prog 55 55 :=
 ⟨copyUsed, fun b o n w h hsh ho hn hf => copyFresh b o n w h hsh (by omega) (lies_at (d := 2 * (Try.prog.types.size + Made.depth) + 1) rfl (by kernel_rfl) ho hn) hf⟩
theorem string29 : StringOk Try.prog 5 29 := stringOk_of Try.lays169 Try.builderExtra
end Go.Proofs.Ytmeohejdafbodaa.W
