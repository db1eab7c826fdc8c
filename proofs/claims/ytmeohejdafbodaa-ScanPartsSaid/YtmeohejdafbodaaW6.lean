/-
  WHAT THE FUNCTIONS COME TO: each is read by the evaluator, printed, and told as a function of data, part 6 of 8 (no condition).
-/
import Derived.Test.YtmeohejdafbodaaW5
import Derived.Test.YtmeohejdafbodaaShelf
namespace Go.Proofs.Ytmeohejdafbodaa.W
open Go.Proofs.Ytmeohejdafbodaa.Ev Go.RowKit
abbrev Bs := List UInt8
section
variable {s S T U X Y : St} {α : Type}
theorem lnS_of {v : V} {s : St} {n : Nat} (hv : ∀ l k, v ≠ .str l k) (h : lenV v = some n) : lnS v s = some (.int .i64 (n : Int), s) := by
 unfold lnS
 split
 · exact absurd rfl (hv _ _)
 · rw [h]; rfl
noncomputable def kfTrue : KF := qd6 (fun _ : Unit => []) (fun _ => En.ret (.bool true))
theorem kfTrue_run (S : St) : kfTrue.run [] S = some (.ret (.bool true), S) := qc5 (enc := fun _ : Unit => []) (out := fun _ => En.ret (.bool true)) (fun _ _ _ => rfl) () S
theorem gTT : qa2 true (.bool true) = some true := rfl
theorem gTF : qa2 true (.bool false) = some false := rfl
theorem zero3 : qgi E0 3 = some (.int .i64 0) := by kernel_rfl
theorem bless_iff : ∀ {x y : Bs}, Op.bytesLess x y = true ↔ x < y
 | [], [] => by simp [Op.bytesLess]
 | _ :: _, [] => by simp [Op.bytesLess]
 | [], _ :: _ => by simp [Op.bytesLess]
 | a :: x, b :: y => by
  simp only [Op.bytesLess, Bool.or_eq_true, decide_eq_true_eq, Bool.and_eq_true, beq_iff_eq]
  rw [List.cons_lt_cons_iff, bless_iff (x := x) (y := y)]
def insB (x : Bs) : List Bs → List Bs
 | [] => [x]
 | y :: l => if y < x then y :: insB x l else x :: y :: l
def qjx : List Bs → List Bs
 | [] => []
 | x :: l => insB x (qjx l)
theorem qmz (x : Bs) : ∀ l : List Bs, (insB x l).Perm (x :: l)
 | [] => .refl _
 | y :: l => by
  unfold insB
  split
  · exact ((qmz x l).cons y).trans (.swap x y l)
  · exact .refl _
theorem qhr : ∀ l : List Bs, (qjx l).Perm l
 | [] => .refl _
 | x :: l => (qmz x (qjx l)).trans ((qhr l).cons x)
theorem insB_pw {x : Bs} : ∀ {l : List Bs}, l.Pairwise (· < ·) → x ∉ l → (insB x l).Pairwise (· < ·)
 | [], _, _ => by simp [insB]
 | y :: l, h, hx => by
  unfold insB
  rw [List.pairwise_cons] at h
  simp only [List.mem_cons, not_or] at hx
  split
  · rename_i hlt
    refine List.pairwise_cons.2 ⟨fun z hz => ?_, insB_pw h.2 hx.2⟩
    rcases List.mem_cons.1 ((qmz x l).mem_iff.1 hz) with rfl | hz
    · exact hlt
    · exact h.1 z hz
  · rename_i hlt
    have hxy : x < y := by
     rcases List.le_iff_lt_or_eq.1 (List.not_lt.1 hlt) with h | h
     · exact h
     · exact absurd h hx.1
    refine List.pairwise_cons.2 ⟨fun z hz => ?_, List.pairwise_cons.2 h⟩
    rcases List.mem_cons.1 hz with rfl | hz
    · exact hxy
    · exact List.lt_trans hxy (h.1 z hz)
theorem sortB_pw : ∀ {l : List Bs}, l.Nodup → (qjx l).Pairwise (· < ·)
 | [], _ => .nil
 | x :: l, h => by
  rw [List.nodup_cons] at h
  exact insB_pw (sortB_pw h.2) fun hm => h.1 ((qhr l).mem_iff.1 hm)
theorem mem_sortB {l : List Bs} {x : Bs} : x ∈ qjx l ↔ x ∈ l := (qhr l).mem_iff
theorem insS_ins (x : Bs) : ∀ l : List Bs, insS x.length (qal x) (l.map kp) = (insB x l).map kp
 | [] => rfl
 | y :: l => by
  rw [List.map_cons]
  unfold insS insB
  rw [show qhz (kp y).1 (kp y).1 (kp y).2 x.length (qal x) = Op.bytesLess y x from qdv y x]
  by_cases h : y < x
  · rw [bless_iff.2 h, if_pos h, cond_true, insS_ins x l]; rfl
  · rw [if_neg h, show Op.bytesLess y x = false from by rw [Bool.eq_false_iff]; exact fun e => h (bless_iff.1 e)]; rfl
theorem rising_of : ∀ {l : List Bs}, l.Pairwise (· < ·) → qny (l.map kp) = true
 | [], _ => rfl
 | [x], _ => rfl
 | x :: y :: l, h => by
  rw [List.pairwise_cons] at h
  have h2 := rising_of h.2
  rw [List.map_cons] at h2
  rw [List.map_cons, List.map_cons]
  unfold qny
  rw [h2, show qhz (kp x).1 (kp x).1 (kp x).2 (kp y).1 (kp y).2 = Op.bytesLess x y from qdv x y, bless_iff.2 (h.1 y (List.mem_cons_self ..))]
  rfl
def qe9 (l : List Bs) : List (Tr V) := l.map fun a => Go.Proofs.Ytmeohejdafbodaa.Ev.one (sv a)
theorem qap (l : List Bs) : (qe9 l).length = l.length := by unfold qe9; rw [List.length_map]
theorem rowOf_get {l : List Bs} {i : Nat} {a : Bs} (h : l[i]? = some a) : (qe9 l)[i]? = some (Go.Proofs.Ytmeohejdafbodaa.Ev.one (sv a)) := by unfold qe9; rw [List.getElem?_map, h]; rfl
theorem ql4 (l m : List Bs) : qe9 (l ++ m) = qe9 l ++ qe9 m := by unfold qe9; rw [List.map_append]
def qfd : V → Option Nat
 | .slice r _ _ _ => some r
 | .oslice r _ _ _ => some r
 | _ => none
def TL (S : St) (v : V) (l : List Bs) : Prop := (l = [] ∧ (v = .nilslice ∨ v = .eslice ∨ ∃ r c, v = .slice r 0 0 c)) ∨
 ∃ r off L, RowAt S r 9 1 (qe9 L) ∧ r < S.next ∧ off + l.length ≤ L.length ∧ (L.drop off).take l.length = l ∧ (v = .oslice r off l.length 1 ∨ ∃ c, v = .slice r off l.length c)
theorem TL.nil : TL S .nilslice [] := .inl ⟨rfl, .inl rfl⟩
theorem TL.own {r : Nat} {l : List Bs} (h : RowAt S r 9 1 (qe9 l)) (hr : r < S.next) : TL S (.oslice r 0 l.length 1) l := .inr ⟨r, 0, l, h, hr, by omega, by simp, .inl rfl⟩
theorem TL.grew {W : Nat → Prop} {v : V} {l : List Bs} (h : TL S v l) (hw : ∀ r e, qfd v = some r → RowAt S r 9 1 e → ¬ W r) (g : Grew W S U) : TL U v l := by
 rcases h with h | ⟨r, off, L, h1, h2, h3, h4, h5⟩
 · exact .inl h
 · have hb : qfd v = some r := by rcases h5 with rfl | ⟨c, rfl⟩ <;> rfl
   exact .inr ⟨r, off, L, h1.grew h2 (hw r _ hb h1) g, Nat.lt_of_lt_of_le h2 g.next, h3, h4, h5⟩
theorem TL.grew0 {v : V} {l : List Bs} (h : TL S v l) (g : Grew (fun _ => False) S U) : TL U v l := h.grew (fun _ _ _ _ h => h) g
theorem TL.same {v : V} {l : List Bs} (h : TL S v l) (h1 : U.heap = S.heap) (h2 : U.next = S.next) : TL U v l := by
 rcases h with h | ⟨r, off, L, a1, a2, a3, a4, a5⟩
 · exact .inl h
 · exact .inr ⟨r, off, L, a1.same h1, by omega, a3, a4, a5⟩
theorem TL.lenV {v : V} {l : List Bs} (h : TL S v l) : Go.Proofs.Ytmeohejdafbodaa.Ev.lenV v = some l.length := by
 rcases h with ⟨rfl, rfl | rfl | ⟨r, c, rfl⟩⟩ | ⟨r, off, L, h1, h2, h3, h4, rfl | ⟨c, rfl⟩⟩ <;> rfl
theorem TL.notStr {v : V} {l : List Bs} (h : TL S v l) : ∀ a b, v ≠ .str a b := by
 rcases h with ⟨rfl, rfl | rfl | ⟨r, c, rfl⟩⟩ | ⟨r, off, L, h1, h2, h3, h4, rfl | ⟨c, rfl⟩⟩ <;> intro a b e <;> cases e
theorem TL.len {v : V} {l : List Bs} (h : TL S v l) (U : St) : lnS v U = some (.int .i64 (l.length : Int), U) := lnS_of h.notStr h.lenV
theorem TL.ix {v : V} {l : List Bs} (h : TL S v l) {i : Nat} {a : Bs} (ha : l[i]? = some a) : ∃ r o L, ixP 1 v (.int .i64 (i : Int)) = some (.ptr r o) ∧ RowAt S r 9 1 L ∧ L[o]? = some (Go.Proofs.Ytmeohejdafbodaa.Ev.one (sv a)) := by
 obtain ⟨hi, he⟩ := List.getElem?_eq_some_iff.1 ha
 rcases h with ⟨rfl, _⟩ | ⟨r, off, L, h1, h2, h3, h4, h5⟩
 · cases hi
 · refine ⟨r, off + i * 1, qe9 L, ?_, h1, ?_⟩
   · have : ixP 1 v (.int .i64 (i : Int)) = bif Nat.blt i l.length then some (V.ptr r (off + i * 1)) else none := by rcases h5 with rfl | ⟨c, rfl⟩ <;> rfl
     rw [this, blt_true.2 hi]; rfl
   · refine rowOf_get ?_
     rw [Nat.mul_one]
     have : ((L.drop off).take l.length)[i]? = some a := by rw [h4]; exact ha
     rw [List.getElem?_take, if_pos hi, List.getElem?_drop] at this
     exact this
theorem TL.ld {v : V} {l : List Bs} (h : TL S v l) (ho : S.on = false) {i : Nat} {a : Bs} (ha : l[i]? = some a) : ∃ p, ixP 1 v (.int .i64 (i : Int)) = some p ∧ ld1 p S = some (sv a, S) := by
 obtain ⟨r, o, L, h1, h2, h3⟩ := h.ix ha
 exact ⟨_, h1, h2.ld1 ho h3⟩
def TLo (S : St) (v : V) (l : List Bs) (N : Nat) : Prop := (l = [] ∧ v = .nilslice) ∨ ∃ r, v = .oslice r 0 l.length 1 ∧ RowAt S r 9 1 (qe9 l) ∧ r < S.next ∧ N ≤ r ∧ 0 < l.length
theorem TLo.nil {N : Nat} : TLo S .nilslice [] N := .inl ⟨rfl, rfl⟩
theorem TLo.tl {v : V} {l : List Bs} {N : Nat} (h : TLo S v l N) : TL S v l := by
 rcases h with ⟨rfl, rfl⟩ | ⟨r, rfl, h1, h2, _⟩
 · exact .nil
 · exact .own h1 h2
theorem TLo.grew {v : V} {l : List Bs} {N : Nat} (h : TLo S v l N) (g : Grew (fun _ => False) S U) : TLo U v l N := by
 rcases h with h | ⟨r, h0, h1, h2, h3⟩
 · exact .inl h
 · exact .inr ⟨r, h0, h1.grew h2 (fun h => h) g, Nat.lt_of_lt_of_le h2 g.next, h3⟩
theorem TLo.push (ho : S.on = false) {v : V} {l : List Bs} {N : Nat} (h : TLo S v l N) (hN : N ≤ S.next) (hl : l.length < 100000) (a : Bs) :
 ∃ y W v' U, bsP 9 1 1 (Go.Proofs.Ytmeohejdafbodaa.Ev.one (sv [])) [(0, sv a)] S = some (y, W) ∧ apP 9 1 16 v y W = some (v', U) ∧ TLo U v' (l ++ [a]) N ∧ Grew (fun x => N ≤ x) S U := by
 obtain ⟨W, h1, h2, h3, h4⟩ := bsP_one ho 9 (Go.Proofs.Ytmeohejdafbodaa.Ev.one (sv [])) (oneV_sv a)
 have on1 := h3.on.trans ho
 have hlm : (l ++ [a]).length = l.length + 1 := by rw [List.length_append]; rfl
 rcases h with ⟨rfl, rfl⟩ | ⟨r, rfl, hr, hr2, hr3, h0⟩
 · obtain ⟨U, k1, k2, k3, k4⟩ := qmb (B := 16) on1 h2 (by unfold qai; omega)
   exact ⟨_, W, _, U, h1, k1, .inr ⟨W.next, rfl, k2, by omega, by omega, by simp⟩, (h3.trans k3).mono fun _ _ h => h.elim⟩
 · have hrow := hr.grew hr2 (fun h => h) h3
   obtain ⟨U, k1, k2, k3, k4⟩ := ap1_more (B := 16) on1 h2 hrow (by rw [qap]; unfold qai; omega) (by rw [qap]; unfold big; omega)
   rw [qap] at k1
   refine ⟨_, W, _, U, h1, k1, .inr ⟨W.next, by rw [hlm], ?_, by omega, by omega, by omega⟩, (h3.mono fun _ _ h => h.elim).trans (k3.mono fun x _ e => by subst e; exact hr3)⟩
   rw [ql4]
   exact k2
theorem Grew.fresh {a b c : St} {N : Nat} (h : Grew (fun _ => False) a b) (hN : a.next ≤ N) (k : Grew (fun x => N ≤ x) b c) : Grew (fun _ => False) a c :=
 ⟨Nat.le_trans h.next k.next, k.on.trans h.on, fun x hx hw => (k.keep x (Nat.lt_of_lt_of_le hx h.next) (by omega)).trans (h.keep x hx hw)⟩
theorem take_push {α : Type} {l : List α} {i : Nat} (h : i < l.length) : l.take (i + 1) = l.take i ++ [l[i]] := (List.take_append_getElem h).symm
theorem neqInt (a c : Nat) : qab E0 .neq 3 false false (.int .i64 (a : Int)) (.int .i64 (c : Int)) = some (.bool (!decide (a = c))) := by
 rw [binV_ii, intsV_neq]
 congr 3
 rw [decide_eq_decide]; omega
theorem ld1_lg (ho : S.on = false) {b i : Nat} {v : V} (h : ld1 (.ptr b i) S = some (v, S)) (l : List LE) : ld1 (.ptr b i) (S.lg l) = some (v, S.lg (⟨b, i, i + 1, false⟩ :: l)) := by
 have h' : ld S b i = some (v, S) := h
 show ld (S.lg l) b i = _
 unfold ld at h' ⊢
 rw [show (S.lg l).heap = S.heap from rfl]
 split at h'
 · rename_i e esz n ro c hb
   cases hc : (Nat.blt i (esz * n) && Nat.blt (esz * n) big) with
   | false => rw [hc] at h'; cases h'
   | true =>
    rw [hc] at h'
    simp only [cond_true, oI, oS, pM] at h' ⊢
    obtain ⟨t, h1, w, h2, rfl, _⟩ := h'
    exact ⟨t, h1, w, h2, rfl, rfl⟩
 · cases h'
theorem TL.ldOn (ho : S.on = false) {v : V} {l : List Bs} (h : TL S v l) {i : Nat} {a : Bs} (ha : l[i]? = some a) (L : List LE) : ∃ p r o, ixP 1 v (.int .i64 (i : Int)) = some p ∧ ld1 p (S.lg L) = some (sv a, S.lg (⟨r, o, o + 1, false⟩ :: L)) := by
 obtain ⟨r, o, M, h1, h2, h3⟩ := h.ix ha
 exact ⟨_, r, o, h1, ld1_lg ho (show ld1 (.ptr r o) S = _ from h2.ld1 ho h3) L⟩
theorem TLo.blk {v : V} {l : List Bs} {N r : Nat} (h : TLo S v l N) (hr : qfd v = some r) : N ≤ r ∧ RowAt S r 9 1 (qe9 l) := by
 rcases h with ⟨_, rfl⟩ | ⟨r', rfl, h1, h2, h3, _⟩
 · cases hr
 · cases hr; exact ⟨h3, h1⟩
def RwS (S : St) (v : V) (z : Nat) (L : List (Tr V)) : Prop := lenV v = some L.length ∧ qb7 z L.length v S = some (L, S)
theorem TL.rw (ho : S.on = false) {v : V} {l : List Bs} (h : TL S v l) : RwS S v 1 (qe9 l) := by
 refine ⟨by rw [qap]; exact h.lenV, ?_⟩
 rw [qap]
 rcases h with ⟨rfl, rfl | rfl | ⟨r, c, rfl⟩⟩ | ⟨r, off, L, h1, h2, h3, h4, h5⟩
 · rfl
 · rfl
 · rfl
 · have := h1.ldN ho l.length off (by rw [qap]; exact h3)
   rw [Nat.mul_one] at this
   have e : ((qe9 L).drop off).take l.length = qe9 l := by
    unfold qe9
    rw [← List.map_drop, ← List.map_take, h4]
   rw [e] at this
   rcases h5 with rfl | ⟨c, rfl⟩ <;> exact this
theorem relog_any (ho : S.on = false) (U : St) (l : List LE) (ls : List (List LE)) : ∃ U', qb2 S (U.lg l) ls = U' ∧ U'.heap = U.heap ∧ U'.next = U.next ∧ U'.on = false := by
 refine ⟨_, rfl, ?_, ?_, ?_⟩ <;> (unfold qb2; rw [ho]; rfl)
theorem Grew.same {W : Nat → Prop} {a b c : St} (h : Grew W a b) (h1 : c.heap = b.heap) (h2 : c.next = b.next) (h3 : c.on = b.on) : Grew W a c := ⟨by rw [h2]; exact h.next, h3.trans h.on, fun x hx hw => by rw [h1]; exact h.keep x hx hw⟩
theorem ons (S : St) : onS S = S.lg [] := rfl
theorem lglg (S : St) (L M : List LE) : (S.lg L).lg M = S.lg M := rfl
theorem lg_of {f : St → Option (α × St)} (h : Lg.LocP f) {a : α} (hf : f S = some (a, U)) (l : List LE) : ∃ l', f (S.lg l) = some (a, U.lg l') := by
 obtain ⟨_, h2⟩ := h S (a, U) hf
 obtain ⟨t', h3, h4, h5⟩ := h2 (S.lg l) ⟨rfl, rfl⟩
 refine ⟨t'.log, h3.trans ?_⟩
 obtain ⟨hp, nx, on, lg⟩ := t'
 obtain ⟨k1, k2⟩ := h4
 simp only at k1 k2 h5
 have h5' : on = true := h5
 subst h5'; subst k1; subst k2
 rfl
theorem lg_apP (e z B : Nat) (x y : V) : Lg.LocP fun s => apP e z B x y s := by
 unfold apP
 exact Lg.Loc.opt fun n => Lg.Loc.opt fun m => Lg.Loc.cond (Lg.loc_appendV _ _ _ _ _) Lg.Loc.none
theorem lg_bsP (e z n : Nat) (t : Tr V) (ps : List (Nat × V)) : Lg.LocP fun s => bsP e z n t ps s := by
 unfold bsP
 exact Lg.Loc.opt fun l => Lg.LocP.nw (fun k => V.slice k 0 n n) fun _ => _
def TV (v : V) (l : List Bs) : Prop := (l = [] ∧ (v = .nilslice ∨ v = .eslice)) ∨ v = .list 1 (l.map sv)
theorem TV.len {v : V} {l : List Bs} (h : TV v l) : lnS v S = some (.int .i64 (l.length : Int), S) := by
 rcases h with ⟨rfl, rfl | rfl⟩ | rfl
 · rfl
 · rfl
 · show some (V.int .i64 (Int.ofNat (l.map sv).length), S) = _
   rw [List.length_map]; rfl
theorem TV.ix {v : V} {l : List Bs} (h : TV v l) {i : Nat} {a : Bs} (ha : l[i]? = some a) : ixP 1 v (.int .i64 (i : Int)) = some (.cptr (sv a)) := by
 rcases h with ⟨rfl, _⟩ | rfl
 · simp at ha
 · show (bif Nat.beq 1 1 && Nat.blt 0 1 then ((l.map sv)[i]?).bind fun v => some (V.cptr v) else none) = _
   rw [List.getElem?_map, ha]; rfl
theorem TV.one {v : V} {l : List Bs} (h : TV v l) : OneV v := by
 rcases h with ⟨_, rfl | rfl⟩ | rfl <;> exact ⟨rfl, rfl, rfl, rfl⟩
theorem ldc (a : Bs) (S : St) : ld1 (.cptr (sv a)) S = some (sv a, S) := rfl
theorem take_min (l : List UInt8) (n : Nat) : List.take (min l.length n) l = l.take n := by
 rcases Nat.le_total l.length n with h | h
 · rw [Nat.min_eq_left h, List.take_length, List.take_of_length_le h]
 · rw [Nat.min_eq_right h]
theorem cutN (s : List UInt8) (n : Nat) (S : St) : qdk E0 9 (sv s) none (some (.int .i64 ((min s.length n : Nat) : Int))) none S = some (sv (s.take n), S) := by
 rw [qly und9 s (bounds_hi .i64 (Nat.min_le_left ..)) (Nat.min_le_left ..), List.drop_zero, Nat.sub_zero, take_min]
theorem qjd (i n : Nat) (c : Nat) (hc : c < 100) (K : V → Rs) : ((qab E0 .lss 3 false false (.int .i64 (i : Int)) (.int .i64 (n : Int))).bind fun t10 =>
(qa2 true t10).bind fun g12 => (bif g12 then some (V.int .i64 (i : Int)) else some (.tuple [])).bind fun t12 =>
(qa2 true t10).bind fun g13 => (bif g13 then qab E0 .lss 3 false true t12 (.int .i64 (c : Int)) else some (.tuple [])).bind fun t13 =>
(qag t10 (some t13) (some (.bool false))).bind fun t14 => K t14) = K (.bool (decide (i < n) && decide (i < c))) := by
 rw [binV_ii, intsV_lss, oB]
 by_cases h : i < n
 · rw [qfe h, decide_eq_true h]
   simp only [gTT, oB, cond_true, pickV_bool, Bool.true_and]
   rw [binV_ii, intsV_lss]
   by_cases h2 : i < c
   · rw [qfe h2, decide_eq_true h2]; rfl
   · rw [qga (by omega), decide_eq_false h2]; rfl
 · rw [qga (by omega), decide_eq_false h]
   rfl
theorem map_take_push (l : List Bs) (f : Bs → Bs) {i c : Nat} (hi : i < l.length) (hc : i < c) : ((l.take c).take (i + 1)).map f = ((l.take c).take i).map f ++ [f l[i]] := by
 have h1 : i < (l.take c).length := by rw [List.length_take]; omega
 rw [take_push h1, List.map_append, List.getElem_take]; rfl
def putB (s : Bs) : List Bs → List Bs
 | [] => [s]
 | x :: l => if x < s then x :: putB s l else if x = s then x :: l else s :: x :: l
theorem mem_putB {s a : Bs} : ∀ {l : List Bs}, a ∈ putB s l ↔ a = s ∨ a ∈ l
 | [] => by simp [putB]
 | x :: l => by
  unfold putB
  split
  · rw [List.mem_cons, mem_putB, List.mem_cons]
    constructor
    · rintro (h | h | h) <;> simp [h]
    · rintro (h | h | h) <;> simp [h]
  · split
    · rename_i h; subst h; simp
    · simp
theorem putB_pw {s : Bs} : ∀ {l : List Bs}, l.Pairwise (· < ·) → (putB s l).Pairwise (· < ·)
 | [], _ => by simp [putB]
 | x :: l, h => by
  rw [List.pairwise_cons] at h
  unfold putB
  split
  · rename_i hlt
    refine List.pairwise_cons.2 ⟨fun z hz => ?_, putB_pw h.2⟩
    rcases mem_putB.1 hz with rfl | hz
    · exact hlt
    · exact h.1 z hz
  · rename_i hlt
    split
    · exact List.pairwise_cons.2 h
    · rename_i hne
      have hsx : s < x := by
       rcases List.le_iff_lt_or_eq.1 (List.not_lt.1 hlt) with h' | h'
       · exact h'
       · exact absurd h'.symm hne
      refine List.pairwise_cons.2 ⟨fun z hz => ?_, List.pairwise_cons.2 h⟩
      rcases List.mem_cons.1 hz with rfl | hz
      · exact hsx
      · exact List.lt_trans hsx (h.1 z hz)
theorem putB_len (s : Bs) : ∀ l : List Bs, (putB s l).length ≤ l.length + 1
 | [] => by simp [putB]
 | x :: l => by
  unfold putB
  split
  · have := putB_len s l; simp; omega
  · split <;> simp
theorem nw_lg (ho : s.on = false) (l : List LE) (o : O) : nw (s.lg l) o = (nw s o).lg ({ b := s.next, lo := 0, hi := big, w := true } :: l) := by
 unfold nw
 rw [qat ho, note_lg]
 rfl
def stt (S : St) : Option (List LE) → St
 | none => S
 | some l => S.lg l
theorem und5 : und E0 5 = some (.int .u8) := by kernel_rfl
def kvB (kv : List (Int × V)) : List (V × V) := kv.map fun p => (.int .u8 p.1, p.2)
def kvS (kv : List (List UInt8 × Int)) : List (V × V) := kv.map fun p => (sv p.1, .int .i64 p.2)
def qhx (es : List ME) : List (V × V) := es.map fun e => (e.k, e.v)
def MapOk (es : List ME) (c : Nat) (kv : List (V × V)) : Prop := qhx es = kv ∧ qcf 0 es = true ∧ qbu es 0 ≤ c
def MapAt (S : St) (r : Nat) (kv : List (V × V)) : Prop := ∃ es clock, S.heap.get r = some (.map es clock) ∧ MapOk es clock kv
theorem ql6 : ∀ (es : List ME) (m c : Nat) (k v : V), qcf m es = true → qbu es m ≤ c → qcf m (es ++ [{ k := k, v := v, born := c }]) = true ∧ qbu (es ++ [{ k := k, v := v, born := c }]) m = c + 1
 | [], m, c, k, v, _, h => by
  unfold qbu at h
  refine ⟨?_, rfl⟩
  show (Nat.ble m c && true) = true
  rw [ble_true.2 h]; rfl
 | e :: es, m, c, k, v, h1, h2 => by
  unfold qcf at h1
  unfold qbu at h2
  simp only [Bool.and_eq_true] at h1
  obtain ⟨q1, q2⟩ := ql6 es (e.born + 1) c k v h1.2 h2
  rw [List.cons_append]
  unfold qcf qbu
  exact ⟨by rw [h1.1, q1]; rfl, q2⟩
theorem qob (k v : V) : ∀ (i : Nat) (es : List ME) (m : Nat), qcf m (qes i k v es) = qcf m es ∧ qbu (qes i k v es) m = qbu es m
 | _, [], _ => ⟨rfl, rfl⟩
 | 0, e :: es, m => ⟨rfl, rfl⟩
 | i + 1, e :: es, m => by
  obtain ⟨h1, h2⟩ := qob k v i es (e.born + 1)
  refine ⟨?_, h2⟩
  show (Nat.ble m e.born && qcf (e.born + 1) (qes i k v es)) = _
  rw [h1]; rfl
theorem stampsR_less : ∀ (es : List ME) (m m' : Nat), m ≤ m' → qcf m' es = true → qcf m es = true ∧ qbu es m ≤ qbu es m'
 | [], m, m', h, _ => ⟨rfl, h⟩
 | e :: es, m, m', h, h2 => by
  unfold qcf at h2 ⊢
  simp only [Bool.and_eq_true] at h2 ⊢
  exact ⟨⟨ble_true.2 (Nat.le_trans h (ble_true.1 h2.1)), h2.2⟩, Nat.le_refl _⟩
theorem ql5 : ∀ (i : Nat) (es : List ME) (m : Nat), qcf m es = true → qcf m (qej i es) = true ∧ qbu (qej i es) m ≤ qbu es m
 | _, [], _, h => ⟨h, Nat.le_refl _⟩
 | 0, e :: es, m, h => by
  unfold qcf at h
  simp only [Bool.and_eq_true] at h
  exact stampsR_less es m (e.born + 1) (Nat.le_succ_of_le (ble_true.1 h.1)) h.2
 | i + 1, e :: es, m, h => by
  unfold qcf at h
  simp only [Bool.and_eq_true] at h
  obtain ⟨h1, h2⟩ := ql5 i es (e.born + 1) h.2
  refine ⟨?_, h2⟩
  show (Nat.ble m e.born && qcf (e.born + 1) (qej i es)) = true
  rw [h.1, h1]; rfl
theorem MapOk.push {es : List ME} {c : Nat} {kv kv' : List (V × V)} (h : MapOk es c kv) (k v : V) (e : qhx (es ++ [{ k := k, v := v, born := c }]) = kv') : MapOk (es ++ [{ k := k, v := v, born := c }]) (c + 1) kv' :=
 let ⟨q1, q2⟩ := ql6 es 0 c k v h.2.1 h.2.2
 ⟨e, q1, by rw [q2]; exact Nat.le_refl _⟩
theorem MapOk.set {es : List ME} {c : Nat} {kv kv' : List (V × V)} (h : MapOk es c kv) (i : Nat) (k v : V) (e : qhx (qes i k v es) = kv') : MapOk (qes i k v es) c kv' :=
 let ⟨q1, q2⟩ := qob k v i es 0
 ⟨e, q1.trans h.2.1, by rw [q2]; exact h.2.2⟩
theorem MapOk.drop {es : List ME} {c : Nat} {kv kv' : List (V × V)} (h : MapOk es c kv) (i : Nat) (e : qhx (qej i es) = kv') : MapOk (qej i es) c kv' :=
 let ⟨q1, q2⟩ := ql5 i es 0 h.2.1
 ⟨e, q1, Nat.le_trans q2 h.2.2⟩
theorem MapOk.new : MapOk [] 0 [] := ⟨rfl, rfl, Nat.le_refl _⟩
theorem MapAt.grew {W : Nat → Prop} {T : St} {r : Nat} {kv : List (V × V)} (h : MapAt S r kv) (hr : r < S.next) (hw : ¬ W r) (g : Grew W S T) : MapAt T r kv := by
 obtain ⟨es, c, h1, h2⟩ := h
 exact ⟨es, c, by rw [g.keep r hr hw]; exact h1, h2⟩
def lkI (a : Int) : List (Int × V) → Option V
 | [] => none
 | p :: l => if a = p.1 then some p.2 else lkI a l
def lkS (a : List UInt8) : List (List UInt8 × Int) → Option Int
 | [] => none
 | p :: l => if a = p.1 then some p.2 else lkS a l
def ixI (a : Int) : List (Int × V) → Nat
 | [] => 0
 | p :: l => if a = p.1 then 0 else ixI a l + 1
def ixS_ (a : List UInt8) : List (List UInt8 × Int) → Nat
 | [] => 0
 | p :: l => if a = p.1 then 0 else ixS_ a l + 1
theorem mfind_u8 (a : Int) : ∀ (kv : List (Int × V)) (es : List ME) (i : Nat), qhx es = kvB kv → qfn (.int .u8 a) es i = some ((lkI a kv).map fun v => (i + ixI a kv, v))
 | [], es, i, h => by
  cases es with
  | nil => rfl
  | cons e es => simp [qhx, kvB] at h
 | p :: kv, [], i, h => by simp [qhx, kvB] at h
 | p :: kv, e :: es, i, h => by
  simp only [qhx, kvB, List.map_cons, List.cons.injEq, pM] at h
  obtain ⟨⟨h1, h2⟩, h3⟩ := h
  rw [qfn, h1]
  simp only [qc0, cond_true, qj9]
  unfold lkI ixI
  by_cases hc : a = p.1
  · rw [if_pos hc, if_pos hc, show (a == p.1) = true by simp [hc], cond_true, h2]; rfl
  · rw [if_neg hc, if_neg hc, show (a == p.1) = false from beq_false_of_ne hc, cond_false, mfind_u8 a kv es (i + 1) h3]
    cases lkI a kv with
    | none => rfl
    | some v => simp only [Option.map_some, show i + 1 + ixI a kv = i + (ixI a kv + 1) by omega]
theorem qjh (a : List UInt8) : ∀ (kv : List (List UInt8 × Int)) (es : List ME) (i : Nat), qhx es = kvS kv → qfn (sv a) es i = some ((lkS a kv).map fun v => (i + ixS_ a kv, .int .i64 v))
 | [], es, i, h => by
  cases es with
  | nil => rfl
  | cons e es => simp [qhx, kvS] at h
 | p :: kv, [], i, h => by simp [qhx, kvS] at h
 | p :: kv, e :: es, i, h => by
  simp only [qhx, kvS, List.map_cons, List.cons.injEq, pM] at h
  obtain ⟨⟨h1, h2⟩, h3⟩ := h
  have hm : qfn (sv a) (e :: es) i = bif a == p.1 then some (some (i, e.v)) else qfn (sv a) es (i + 1) := by
   show (match e.k with | .str l' b => bif sEq a.length (qal a) l' b then some (some (i, e.v)) else qfn (sv a) es (i + 1) | _ => none) = _
   rw [h1]
   show (bif sEq a.length (qal a) p.1.length (qal p.1) then some (some (i, e.v)) else qfn (sv a) es (i + 1)) = _
   rw [sEq_eq]
  rw [hm]
  unfold lkS ixS_
  by_cases hc : a = p.1
  · rw [if_pos hc, if_pos hc, show (a == p.1) = true by simp [hc], cond_true, h2]; rfl
  · rw [if_neg hc, if_neg hc, show (a == p.1) = false from beq_false_of_ne hc, cond_false, qjh a kv es (i + 1) h3]
    cases lkS a kv with
    | none => rfl
    | some v => simp only [Option.map_some, show i + 1 + ixS_ a kv = i + (ixS_ a kv + 1) by omega]
theorem qj8 (ho : S.on = false) {r : Nat} {o : O} (h : S.heap.get r = some o) (m : Option (List LE)) : qgb (stt S m) r = some (o, stt S (m.map fun l => ⟨r, 0, big, false⟩ :: l)) := by
 cases m with
 | none => exact qhk ho h
 | some l =>
  show qgb (S.lg l) r = _
  unfold qgb
  rw [show (S.lg l).heap.get r = some o from h]
  rfl
theorem qjv (ho : S.on = false) (r : Nat) (o : O) (m : Option (List LE)) : setO (stt S m) r o = stt (S.put r o) (m.map fun l => ⟨r, 0, big, true⟩ :: l) := by
 cases m with
 | none => exact qju ho r o
 | some l => rfl
theorem und31 : und E0 31 = some (.map 9 3) := by kernel_rfl
theorem und9' : und E0 9 = some .string := by kernel_rfl
def setKI (a : Int) (v : V) : List (Int × V) → List (Int × V)
 | [] => [(a, v)]
 | p :: l => if a = p.1 then (a, v) :: l else p :: setKI a v l
def setKS (a : List UInt8) (v : Int) : List (List UInt8 × Int) → List (List UInt8 × Int)
 | [] => [(a, v)]
 | p :: l => if a = p.1 then (a, v) :: l else p :: setKS a v l
def dropKS (a : List UInt8) : List (List UInt8 × Int) → List (List UInt8 × Int)
 | [] => []
 | p :: l => if a = p.1 then l else p :: dropKS a l
theorem setME_u8 (a : Int) (v : V) : ∀ (kv : List (Int × V)) (es : List ME), qhx es = kvB kv → ∀ w, lkI a kv = some w → qhx (qes (ixI a kv) (.int .u8 a) v es) = kvB (setKI a v kv)
 | [], es, h, w, hw => by simp [lkI] at hw
 | p :: kv, [], h, w, hw => by simp [qhx, kvB] at h
 | p :: kv, e :: es, h, w, hw => by
  simp only [qhx, kvB, List.map_cons, List.cons.injEq, pM] at h
  obtain ⟨⟨h1, h2⟩, h3⟩ := h
  unfold ixI setKI
  unfold lkI at hw
  by_cases hc : a = p.1
  · rw [if_pos hc, if_pos hc]
    show (V.int .u8 a, v) :: qhx es = _
    rw [show qhx es = kvB kv from h3]; rfl
  · rw [if_neg hc, if_neg hc]
    rw [if_neg hc] at hw
    unfold qes
    rw [show Nat.beq (ixI a kv + 1) 0 = false from rfl, cond_false, Nat.add_sub_cancel]
    show (e.k, e.v) :: qhx _ = (V.int .u8 p.1, p.2) :: kvB _
    rw [h1, h2, setME_u8 a v kv es h3 w hw]
theorem setME_str (a : List UInt8) (v : Int) : ∀ (kv : List (List UInt8 × Int)) (es : List ME), qhx es = kvS kv → ∀ w, lkS a kv = some w → qhx (qes (ixS_ a kv) (sv a) (.int .i64 v) es) = kvS (setKS a v kv)
 | [], es, h, w, hw => by simp [lkS] at hw
 | p :: kv, [], h, w, hw => by simp [qhx, kvS] at h
 | p :: kv, e :: es, h, w, hw => by
  simp only [qhx, kvS, List.map_cons, List.cons.injEq, pM] at h
  obtain ⟨⟨h1, h2⟩, h3⟩ := h
  unfold ixS_ setKS
  unfold lkS at hw
  by_cases hc : a = p.1
  · rw [if_pos hc, if_pos hc]
    show (sv a, V.int .i64 v) :: qhx es = _
    rw [show qhx es = kvS kv from h3]; rfl
  · rw [if_neg hc, if_neg hc]
    rw [if_neg hc] at hw
    unfold qes
    rw [show Nat.beq (ixS_ a kv + 1) 0 = false from rfl, cond_false, Nat.add_sub_cancel]
    show (e.k, e.v) :: qhx _ = (sv p.1, V.int .i64 p.2) :: kvS _
    rw [h1, h2, setME_str a v kv es h3 w hw]
theorem setKI_none (a : Int) (v : V) : ∀ kv, lkI a kv = none → setKI a v kv = kv ++ [(a, v)]
 | [], _ => rfl
 | p :: kv, h => by
  unfold lkI at h
  unfold setKI
  by_cases hc : a = p.1
  · rw [if_pos hc] at h; cases h
  · rw [if_neg hc] at h ⊢
    rw [setKI_none a v kv h]; rfl
theorem setKS_none (a : List UInt8) (v : Int) : ∀ kv, lkS a kv = none → setKS a v kv = kv ++ [(a, v)]
 | [], _ => rfl
 | p :: kv, h => by
  unfold lkS at h
  unfold setKS
  by_cases hc : a = p.1
  · rw [if_pos hc] at h; cases h
  · rw [if_neg hc] at h ⊢
    rw [setKS_none a v kv h]; rfl
theorem dropME_str (a : List UInt8) : ∀ (kv : List (List UInt8 × Int)) (es : List ME), qhx es = kvS kv → ∀ w, lkS a kv = some w → qhx (qej (ixS_ a kv) es) = kvS (dropKS a kv)
 | [], es, h, w, hw => by simp [lkS] at hw
 | p :: kv, [], h, w, hw => by simp [qhx, kvS] at h
 | p :: kv, e :: es, h, w, hw => by
  simp only [qhx, kvS, List.map_cons, List.cons.injEq, pM] at h
  obtain ⟨⟨h1, h2⟩, h3⟩ := h
  unfold ixS_ dropKS
  unfold lkS at hw
  by_cases hc : a = p.1
  · rw [if_pos hc, if_pos hc]
    exact h3
  · rw [if_neg hc, if_neg hc]
    rw [if_neg hc] at hw
    unfold qej
    rw [show Nat.beq (ixS_ a kv + 1) 0 = false from rfl, cond_false, Nat.add_sub_cancel]
    show (e.k, e.v) :: qhx _ = (sv p.1, V.int .i64 p.2) :: kvS _
    rw [h1, h2, dropME_str a kv es h3 w hw]
theorem qjz (T : St) (m : Option (List LE)) (f g : List LE → List LE) : stt T ((m.map f).map g) = stt T (m.map fun l => g (f l)) := by cases m <;> rfl
theorem upd_u8 (ho : S.on = false) {t et : TypeId} (ht : und E0 t = some (.map 5 et)) {r : Nat} {kv : List (Int × V)} (h : MapAt S r (kvB kv)) (a : Int) (v : V) : ∃ es c, MapOk es c (kvB (setKI a v kv)) ∧ ∀ m, qbe E0 t (.map r) (.int .u8 a) v (stt S m) = some (stt (S.put r (.map es c)) (m.map fun l => ⟨r, 0, big, true⟩ :: ⟨r, 0, big, false⟩ :: l)) := by
 obtain ⟨es, c, h1, hok⟩ := h
 have h2 := hok.1
 have hu : ∀ m, qbe E0 t (.map r) (.int .u8 a) v (stt S m) = (qfn (.int .u8 a) es 0).bind fun
  | some (i, _) => some (setO (stt S (m.map fun l => ⟨r, 0, big, false⟩ :: l)) r (.map (qes i (.int .u8 a) v es) c))
  | none => some (setO (stt S (m.map fun l => ⟨r, 0, big, false⟩ :: l)) r (.map (es ++ [{ k := .int .u8 a, v := v, born := c }]) (c + 1))) := fun m => by
  unfold qbe
  rw [ht, oB]
  simp only
  rw [und5, oB]
  simp only [qgu, cond_true]
  rw [qj8 ho h1 m, oB]
  rfl
 rw [mfind_u8 a kv es 0 h2] at hu
 cases hl : lkI a kv with
 | none =>
  refine ⟨es ++ [{ k := .int .u8 a, v := v, born := c }], c + 1, hok.push _ _ ?_, fun m => ?_⟩
  · rw [setKI_none a v kv hl]
    unfold qhx kvB at h2 ⊢
    rw [List.map_append, List.map_append, h2]; rfl
  · rw [hu m, hl]
    show some (setO _ _ _) = _
    rw [qjv ho, qjz]
 | some w =>
  refine ⟨qes (ixI a kv) (.int .u8 a) v es, c, hok.set _ _ _ (setME_u8 a v kv es h2 w hl), fun m => ?_⟩
  rw [hu m, hl]
  show some (setO _ _ (.map (qes (0 + ixI a kv) _ _ _) _)) = _
  rw [qjv ho, Nat.zero_add, qjz]
theorem upd_str (ho : S.on = false) {r : Nat} {kv : List (List UInt8 × Int)} (h : MapAt S r (kvS kv)) (a : List UInt8) (v : Int) : ∃ es c, MapOk es c (kvS (setKS a v kv)) ∧ ∀ m, qbe E0 31 (.map r) (sv a) (.int .i64 v) (stt S m) = some (stt (S.put r (.map es c)) (m.map fun l => ⟨r, 0, big, true⟩ :: ⟨r, 0, big, false⟩ :: l)) := by
 obtain ⟨es, c, h1, hok⟩ := h
 have h2 := hok.1
 have hu : ∀ m, qbe E0 31 (.map r) (sv a) (.int .i64 v) (stt S m) = (qfn (sv a) es 0).bind fun
  | some (i, _) => some (setO (stt S (m.map fun l => ⟨r, 0, big, false⟩ :: l)) r (.map (qes i (sv a) (.int .i64 v) es) c))
  | none => some (setO (stt S (m.map fun l => ⟨r, 0, big, false⟩ :: l)) r (.map (es ++ [{ k := sv a, v := .int .i64 v, born := c }]) (c + 1))) := fun m => by
  unfold qbe
  rw [und31, oB]
  simp only
  rw [und9', oB]
  simp only [sv, qgu, cond_true]
  rw [qj8 ho h1 m, oB]
  rfl
 rw [qjh a kv es 0 h2] at hu
 cases hl : lkS a kv with
 | none =>
  refine ⟨es ++ [{ k := sv a, v := .int .i64 v, born := c }], c + 1, hok.push _ _ ?_, fun m => ?_⟩
  · rw [setKS_none a v kv hl]
    unfold qhx kvS at h2 ⊢
    rw [List.map_append, List.map_append, h2]; rfl
  · rw [hu m, hl]
    show some (setO _ _ _) = _
    rw [qjv ho, qjz]
 | some w =>
  refine ⟨qes (ixS_ a kv) (sv a) (.int .i64 v) es, c, hok.set _ _ _ (setME_str a v kv es h2 w hl), fun m => ?_⟩
  rw [hu m, hl]
  show some (setO _ _ (.map (qes (0 + ixS_ a kv) _ _ _) _)) = _
  rw [qjv ho, Nat.zero_add, qjz]
theorem del_str (ho : S.on = false) {r : Nat} {kv : List (List UInt8 × Int)} (h : MapAt S r (kvS kv)) (a : List UInt8) {w : Int} (hl : lkS a kv = some w) : ∃ es c, MapOk es c (kvS (dropKS a kv)) ∧ ∀ m, qdc E0 31 (.map r) (sv a) (stt S m) = some (stt (S.put r (.map es c)) (m.map fun l => ⟨r, 0, big, true⟩ :: ⟨r, 0, big, false⟩ :: l)) := by
 obtain ⟨es, c, h1, hok⟩ := h
 have h2 := hok.1
 refine ⟨qej (ixS_ a kv) es, c, hok.drop _ (dropME_str a kv es h2 w hl), fun m => ?_⟩
 unfold qdc
 rw [und31, oB]
 simp only
 rw [und9', oB]
 simp only [sv, qgu, cond_true]
 rw [qj8 ho h1 m, oB]
 simp only
 have hm := qjh a kv es 0 h2
 unfold sv at hm
 rw [hm, hl]
 show some (setO _ _ (.map (qej (0 + ixS_ a kv) _) _)) = _
 rw [qjv ho, Nat.zero_add, qjz]
theorem qnb (r : Nat) {es : List ME} {c : Nat} {kv : List (V × V)} (h : MapOk es c kv) : MapAt (S.put r (.map es c)) r kv := ⟨es, c, by rw [qbp, if_pos rfl], h⟩
theorem lnMap_of (ho : S.on = false) {r : Nat} {kv : List (V × V)} (h : MapAt S r kv) : lnMap (.map r) S = some (.int .i64 (kv.length : Int), S) := by
 obtain ⟨es, c, h1, hok⟩ := h
 have h2 := hok.1
 have hl : es.length = kv.length := by rw [← h2]; exact (List.length_map ..).symm
 unfold lnMap
 simp only
 rw [qhk ho h1]
 simp only [oB, hl]
 rfl
end
end Go.Proofs.Ytmeohejdafbodaa.W
namespace Go.Proofs.Ytmeohejdafbodaa.W
open Go.Proofs.Ytmeohejdafbodaa.Ev
noncomputable def rowN (x : Nd) (v : V) : Tr V := Tr.ofListFrom .nil [sv x.name, .int .i64 x.kind, .bool x.exec, sv x.data, v] 0
open Classical in
noncomputable def rowE (g : Nd → Int) (ts : List (Tr V)) (t : Tr V) (r n : Nat) : Option En :=
 if h : ∃ q : NodeIn, q.x.kids.map qet = ts ∧ t = rowN q.x (.oslice r 0 n 5) then some (.ret (.int .i64 (g h.choose.x))) else none
noncomputable def rowK (g : Nd → Int) (t : Tr V) (s : St) : Option (En × St) := match t.get 4 with
 | some (.oslice r off n z) => bif Nat.beq off 0 && Nat.beq z 5 && Nat.blt 0 n then (ldN r 5 n 0 s).bind fun p => (rowE g p.1 t r n).bind fun e => some (e, p.2) else none
 | _ => none
open Classical in
noncomputable def qe1 (g : Nd → Int) : KF := ⟨fun args s =>
 if h : ∃ p : NodeIn, qg0 p = args then some (.ret (.int .i64 (g h.choose.x)), s) else match args with
 | [.agg k t] => bif Nat.beq k 5 then rowK g t s else none
 | _ => none⟩
theorem treeN_inj {x y : Nd} (h : qet x = qet y) : x = y := qlk (by rw [qbz, qbz, h])
theorem qjs (x : Nd) (v : V) (i : Nat) : (rowN x v).get i = [sv x.name, .int .i64 x.kind, .bool x.exec, sv x.data, v][i]? := by unfold rowN; rw [Tr.get_ofList]
theorem row_same {x y : Nd} {v : V} (hk : x.kids.map qet = y.kids.map qet) (h : rowN x v = rowN y v) : x = y := by
 have g := fun i => (qjs x v i).symm.trans ((congrArg (·.get i) h).trans (qjs y v i))
 have h0 := g 0; have h1 := g 1; have h2 := g 2; have h3 := g 3
 simp only [List.getElem?_cons_zero, List.getElem?_cons_succ, oS] at h0 h1 h2 h3
 have hkk : ∀ l m : List Nd, l.map qet = m.map qet → l = m := fun l => by
  induction l with
  | nil => intro m hm; cases m with
   | nil => rfl
   | cons => cases hm
  | cons a l ih => intro m hm; cases m with
   | nil => cases hm
   | cons b m =>
    simp only [List.map_cons, List.cons.injEq] at hm
    rw [treeN_inj hm.1, ih m hm.2]
 cases x with
 | mk n k e d l => cases y with
  | mk n' k' e' d' l' =>
   simp only [Nd.name, Nd.kind, Nd.exec, Nd.data, Nd.kids] at *
   have e0 := qk0 h0
   have e3 := qk0 h3
   simp only [V.int.injEq, V.bool.injEq] at h1 h2
   rw [e0, h1.2, h2, e3, hkk _ _ hk]
theorem rowK_locp (g : Nd → Int) (t : Tr V) : LocP fun s => rowK g t s := by
 unfold rowK
 split
 · refine Loc.cond (Loc.bind (loc_ldN _ _ _ _) fun l => ?_) Loc.none
   exact Loc.opt (o := rowE g l t _ _) fun e => LocP.ret e
 · exact Loc.none
theorem rowK_lg (g : Nd → Int) (t : Tr V) : Lg.LocP fun s => rowK g t s := by
 unfold rowK
 split
 · refine Lg.Loc.cond (Lg.Loc.bind (Lg.loc_ldN _ _ _ _) fun l => ?_) Lg.Loc.none
   exact Lg.Loc.opt (o := rowE g l t _ _) fun e => Lg.LocP.ret e
 · exact Lg.Loc.none
theorem kfNodeR_locp (g : Nd → Int) (args : List V) : LocP fun s => (qe1 g).run args s := by
 unfold qe1
 dsimp only
 split
 · exact LocP.ret _
 · split
   · exact Loc.cond (rowK_locp _ _) Loc.none
   · exact Loc.none
theorem kfNodeR_lg (g : Nd → Int) (args : List V) : Lg.LocP fun s => (qe1 g).run args s := by
 unfold qe1
 dsimp only
 split
 · exact Lg.LocP.ret _
 · split
   · exact Lg.Loc.cond (rowK_lg _ _) Lg.Loc.none
   · exact Lg.Loc.none
theorem kfNodeR_run (g : Nd → Int) (x : Nd) (ok : x.ok) (S : St) : (qe1 g).run [qc7 x] S = some (.ret (.int .i64 (g x)), S) := by
 have h : ∃ p : NodeIn, qg0 p = [qc7 x] := ⟨⟨x, ok⟩, rfl⟩
 unfold qe1
 dsimp only
 rw [dif_pos h]
 have : h.choose.x = x := qif (p := h.choose) (q := ⟨x, ok⟩) h.choose_spec
 rw [this]
theorem not_enc {x : Nd} {r n : Nat} : ¬ ∃ p : NodeIn, qg0 p = [.agg 5 (rowN x (.oslice r 0 n 5))] := fun ⟨p, hp⟩ => by
 unfold qg0 at hp
 rw [qbz] at hp
 simp only [List.cons.injEq, V.agg.injEq, and_true, true_and] at hp
 have h4 := congrArg (·.get 4) hp
 have h4' : (rowN x (.oslice r 0 n 5)).get 4 = some (.oslice r 0 n 5) := by rw [qjs]; rfl
 have h5 : (qet p.x).get 4 = some (qe2 (qfv p.x.kids)) := by unfold qet qe5; rw [Tr.get_ofList]; rfl
 have h6 := h5.symm.trans (h4.trans h4')
 cases hk : qfv p.x.kids with
 | nil => rw [hk] at h6; cases h6
 | cons a l => rw [hk] at h6; cases h6
theorem kfNodeR_row (g : Nd → Int) (x : Nd) (ok : x.ok) (S : St) (ho : S.on = false) {r : Nat} (h0 : 0 < x.kids.length) (hr : RowAt S r 24 5 (x.kids.map qet)) : (qe1 g).run [.agg 5 (rowN x (.oslice r 0 x.kids.length 5))] S = some (.ret (.int .i64 (g x)), S) := by
 unfold qe1
 dsimp only
 rw [dif_neg not_enc, show Nat.beq 5 5 = true from rfl, cond_true]
 unfold rowK
 have h4' : (rowN x (.oslice r 0 x.kids.length 5)).get 4 = some (.oslice r 0 x.kids.length 5) := by rw [qjs]; rfl
 rw [h4']
 have hld := hr.ldN ho x.kids.length 0 (by rw [List.length_map]; omega)
 rw [List.drop_zero, List.take_of_length_le (by rw [List.length_map]; exact Nat.le_refl _), Nat.zero_mul] at hld
 dsimp only
 rw [show Nat.beq 0 0 = true from rfl, show Nat.beq 5 5 = true from rfl, blt_true.2 h0, Bool.and_self, Bool.and_self, cond_true, hld, oB]
 dsimp only
 unfold rowE
 have h : ∃ q : NodeIn, q.x.kids.map qet = x.kids.map qet ∧ rowN x (.oslice r 0 x.kids.length 5) = rowN q.x (.oslice r 0 x.kids.length 5) := ⟨⟨x, ok⟩, rfl, rfl⟩
 rw [dif_pos h]
 have : h.choose.x = x := row_same h.choose_spec.1 h.choose_spec.2.symm
 rw [this, oB]
section
variable {w0 : Base} {ρ : Rho} {s : St} {w w' : World}
theorem keep_frz (hR : Rel E0 w0 ρ s w) : Keep ρ (frz w) 0 := ⟨fun b x hb => absurd hb (by omega), fun k o h => hR.fz k o h⟩
theorem glob0' : ∀ g, E0.glob.get g = none := fun _ => rfl
theorem relF (W : World) : Rel E0 (base0 W) (frz W) s0 W :=
 ⟨⟨rfl, rfl, rfl, Nat.le_refl _, fun _ _ => rfl⟩, fun _ _ => rfl, Nat.le_refl _, fun b o h => by simp [s0, Tr.get_nil] at h, fun b b' o o' cb sh sz sh' sz' h => by simp [s0, Tr.get_nil] at h, fun g b h => (by rw [glob0'] at h; cases h), fun k o h => h, fun b o cb sh sz h => (by simp [s0, Tr.get_nil] at h), fun k o h _ => trivial⟩
theorem rows_rel (hK : Keep ρ (frz w) 0) : ∀ {l : List Nd} {c : List Value}, ERels ρ 5 (l.map qet) c → ∃ cl : List Value, VRels (frz w) (l.map qc7) cl ∧ cl.length = l.length ∧ (∀ cv ∈ cl, cv.cells.size = 5) ∧ cl.flatMap (fun cv => cv.cells.toList) = c
 | [], _, .nil => ⟨[], .nil, rfl, fun _ h => (by cases h), rfl⟩
 | y :: l, _, .cons (c := c) h r => by
  obtain ⟨cl, h1, h2, h3, h4⟩ := rows_rel hK r
  have hv : VRel (frz w) (qc7 y) (.agg c.toArray) := by
   have := h.agg
   rw [← qbz] at this
   exact VRel.under hK this (qko 0 y)
  refine ⟨.agg c.toArray :: cl, .cons hv h1, by rw [List.length_cons, h2, List.length_cons], fun cv hcv => ?_, ?_⟩
  · rcases List.mem_cons.1 hcv with rfl | hcv
    · show c.toArray.size = 5
      simpa using h.len
    · exact h3 cv hcv
  · rw [List.flatMap_cons, h4]
    rfl
theorem thaw_rel (hR : Rel E0 w0 ρ s w) {x : Nd} {r n : Nat} (h0 : 0 < n) {s1 : St} (hld : ldN r 5 n 0 s = some (x.kids.map qet, s1)) {cv : Value} (hv : VRel ρ (.agg 5 (rowN x (.oslice r 0 n 5))) cv) : VRel (frz w) (qc7 x) cv ∧ Go.Proofs.Ytmeohejdafbodaa.Ev.Same s s1 := by
 have hK := keep_frz hR
 cases hv with
 | @agg _ _ cs hn h1 h =>
  have hg := qjs x (.oslice r 0 n 5)
  have h4 := h 4 (.oslice r 0 n 5) (by rw [hg]; rfl) cs[4] (by rw [Array.getElem?_eq_getElem])
  have h4e : cs[4]? = some cs[4] := by rw [Array.getElem?_eq_getElem]
  generalize cs[4] = k4 at h4 h4e
  cases h4 with
  | @oslice _ _ _ _ cap cb sh sz a hρ hl hz hc ha =>
   obtain ⟨c, hcell, hER, hlen, hsame⟩ := qn6 hρ n 0 s s1 _ hR hld
   rw [List.length_map] at hlen
   obtain ⟨cl, q1, q2, q3, q4⟩ := rows_rel hK hER
   have haa := ha (by omega)
   have hclen : 0 < c.length := by
    have := hER.length
    rw [List.length_map] at this
    omega
   have hhp : ∃ bg ty fr, w.heap[cb]? = some (.cells bg ty fr) := by
    have := hcell 0 c[0] (List.getElem?_eq_getElem hclen)
    unfold World.cell? at this
    simp only at this
    split at this
    · rename_i bg ty fr hh
      exact ⟨bg, ty, fr, hh⟩
    · cases this
   obtain ⟨bg, ty, fr, hheap⟩ := hhp
   have hlist : VRel (frz w) (qe2 (qfv x.kids)) (.slice (some a) n cap) := by
    have hkv : qe2 (qfv x.kids) = .list 5 (x.kids.map qc7) := by
     rw [qj3]
     cases hk : x.kids with
     | nil => rw [hk] at hlen; simp at hlen; omega
     | cons y l => rfl
    rw [hkv]
    refine .list q1 (fun v hv => ?_) (by rw [List.length_map]; exact hlen) hl fun _ => ⟨q3, by rw [haa], bg, ty, fr, by rw [haa]; exact hheap, fun j x hj => ?_⟩
    · rw [List.mem_map] at hv
      obtain ⟨y, _, rfl⟩ := hv
      rw [qbz]; rfl
    · rw [q4] at hj
      have := hcell j x hj
      unfold World.cell? at this
      simp only at this
      rw [hheap] at this
      rw [haa]
      exact this
   refine ⟨?_, hsame⟩
   rw [qbz]
   refine .agg hn h1 fun i v hi cv hcv => ?_
   have hi' : [sv x.name, .int .i64 x.kind, .bool x.exec, sv x.data, qe2 (qfv x.kids)][i]? = some v := by
    rw [← hi]; unfold qet qe5; rw [Tr.get_ofList]
   match i, hi' with
   | 0, e => cases e; exact VRel.under hK (h 0 (sv x.name) (by rw [hg]; rfl) cv hcv) (.str _ _)
   | 1, e => cases e; exact VRel.under hK (h 1 (.int .i64 x.kind) (by rw [hg]; rfl) cv hcv) (.int _ _)
   | 2, e => cases e; exact VRel.under hK (h 2 (.bool x.exec) (by rw [hg]; rfl) cv hcv) (.bool _)
   | 3, e => cases e; exact VRel.under hK (h 3 (sv x.data) (by rw [hg]; rfl) cv hcv) (.str _ _)
   | 4, e =>
    cases e
    rw [h4e] at hcv
    cases hcv
    exact hlist
theorem kfNodeR_well {f : FuncId} (g : Nd → Int) (h : KnWell Try.prog E0 f (qb9 fun x => .int .i64 (g x))) : KnWell Try.prog E0 f (qe1 g) := by
 refine ⟨kfNodeR_locp g, fun w0 ρ s w args cargs e s' hR hv hg => ?_⟩
 unfold qe1 at hg
 dsimp only at hg
 split at hg
 · rename_i hx
   simp only [oS, pM] at hg
   obtain ⟨rfl, rfl⟩ := hg
   have hk := qbg (fun x => .int .i64 (g x)) hx.choose.x hx.choose.ok s
   have he : [qc7 hx.choose.x] = args := hx.choose_spec
   rw [he] at hk
   exact h.sim w0 ρ s w args cargs _ s hR hv hk
 · split at hg
   · rename_i k t _
     cases hk5 : Nat.beq k 5 with
     | false => rw [hk5] at hg; cases hg
     | true =>
     rw [hk5, cond_true] at hg
     rw [Go.Proofs.Ytmeohejdafbodaa.Ev.beq_true] at hk5
     subst hk5
     unfold rowK at hg
     split at hg
     · rename_i r off n z h4
       cases hc : (Nat.beq off 0 && Nat.beq z 5 && Nat.blt 0 n) with
       | false => rw [hc] at hg; cases hg
       | true =>
        rw [hc] at hg
        simp only [Bool.and_eq_true, Go.Proofs.Ytmeohejdafbodaa.Ev.beq_true, blt_true] at hc
        obtain ⟨⟨rfl, rfl⟩, h0⟩ := hc
        simp only [cond_true, oI, oS, pM] at hg
        obtain ⟨⟨ts, s1⟩, hld, e', he, rfl, rfl⟩ := hg
        dsimp only at he
        unfold rowE at he
        split at he
        · rename_i hx
          simp only [oS] at he
          subst he
          obtain ⟨e1, e2⟩ := hx.choose_spec
          generalize hx.choose = q at e1 e2
          subst e1
          subst e2
          obtain ⟨cargs⟩ := cargs
          cases hv with
          | cons hv1 ht =>
          cases ht
          obtain ⟨hv2, hsame⟩ := thaw_rel hR h0 hld hv1
          refine (h.sim (base0 w) (frz w) s0 w [qc7 q.x] #[_] _ s0 (relF w) (.cons hv2 .nil) (qbg _ q.x q.ok s0)).mono fun ce w' hce => ?_
          obtain ⟨ρ', cv, rfl, _, hv, hR'⟩ := hce
          cases hv
          exact ⟨ρ, _, rfl, Rho.le_refl ρ, .int _ _, (hR.same hsame).grown (qgn hR')⟩
        · cases he
     · cases hg
   · cases hg
end
open Go.RowKit
theorem glob0 : ∀ g, E0.glob.get g = none := fun _ => rfl
theorem works_runs : saysTrue ((ev E0 (fun _ => none) 400).f 10 [] s0) = true := by decide +kernel
theorem kn10 : KnWell Try.prog E0 10 kfTrue := by
 refine ⟨qkl, fun w0 ρ s w args cargs e t hR hv hg => ?_⟩
 unfold kfTrue qd6 at hg
 simp only at hg
 by_cases hx : ∃ x : Unit, ([] : List V) = args
 · rw [dif_pos hx] at hg
   simp only [oS, pM] at hg
   obtain ⟨rfl, rfl⟩ := hg
   obtain ⟨_, rfl⟩ := hx
   obtain ⟨l⟩ := cargs
   cases hv
   exact (closed_walk qm1 knOk_nil glob0 works_runs w).mono fun ce w' ⟨h1, h2⟩ => ⟨ρ, .bool true, h1, Rho.le_refl ρ, .bool true, hR.grown h2⟩
 · rw [dif_neg hx] at hg; cases hg
noncomputable def K1 := qd1 (fun _ => none) 75 kfDeep
theorem ok1 : KnOk Try.prog E0 K1 := knOk_nil.add (kn70 knOk_nil)
noncomputable def K2 := qd1 K1 73 kfDeep
theorem ok2 : KnOk Try.prog E0 K2 := ok1.add (kn57 ok1)
noncomputable def K3 := qd1 K2 42 (qb9 qlc)
theorem ok3 : KnOk Try.prog E0 K3 := ok2.add (kn58 ok2 rfl)
noncomputable def K4 := qd1 K3 36 (qb9 qlc)
theorem ok4 : KnOk Try.prog E0 K4 := ok3.add (kn34 ok3 rfl)
noncomputable def K5 := qd1 K4 24 (qb9 qde)
theorem ok5 : KnOk Try.prog E0 K5 := ok4.add (kn35 ok4 rfl)
noncomputable def K6 := qd1 K5 51 (qb9 gSize)
theorem ok6 : KnOk Try.prog E0 K6 := ok5.add (kn38 ok5 rfl)
noncomputable def K7 := qd1 K6 26 (qb9 qew)
theorem ok7 : KnOk Try.prog E0 K7 := ok6.add (kn17 ok6 rfl rfl)
noncomputable def K8 := qd1 K7 38 (qb9 qew)
theorem ok8 : KnOk Try.prog E0 K8 := ok7.add (kn45 ok7 rfl)
noncomputable def K9 := qd1 K8 74 (qi3 qgs)
theorem ok9 : KnOk Try.prog E0 K9 := ok8.add (kn68 ok8)
noncomputable def K10 := qd1 K9 37 (qb9 gMay)
theorem ok10 : KnOk Try.prog E0 K10 := ok9.add (kn44 ok9 rfl)
noncomputable def K11 := qd1 K10 47 kfIndexByte
theorem ok11 : KnOk Try.prog E0 K11 := ok10.add (kn63 ok10 rfl)
noncomputable def K12 := qd1 K11 99 kfIndexRune
theorem ok12 : KnOk Try.prog E0 K12 := ok11.add (kn78 ok11 rfl rfl)
noncomputable def K13 := qd1 K12 79 kfAny
theorem ok13 : KnOk Try.prog E0 K13 := ok12.add (kn74 ok12 rfl rfl rfl rfl rfl)
noncomputable def K14 := qd1 K13 50 (qi3 qgs)
theorem ok14 : KnOk Try.prog E0 K14 := ok13.add (kn66 ok13 rfl)
noncomputable def K15 := qd1 K14 25 (qb9 gMay)
theorem ok15 : KnOk Try.prog E0 K15 := ok14.add (kn36 ok14 rfl rfl rfl rfl rfl rfl rfl rfl rfl rfl rfl)
noncomputable def K16 := qd1 K15 11 (qe1 qev)
theorem ok16 : KnOk Try.prog E0 K16 := ok15.add (kfNodeR_well qev (kn15 ok15 rfl rfl rfl))
noncomputable def K17 := qd1 K16 18 (qb9 qmy)
theorem ok17 : KnOk Try.prog E0 K17 := ok16.add (kn21 ok16 rfl rfl rfl)
noncomputable def K18 := qd1 K17 6 kfShort
theorem ok18 : KnOk Try.prog E0 K18 := ok17.add (kn8 ok17)
noncomputable def K19 := qd1 K18 17 kfSort
theorem ok19 : KnOk Try.prog E0 K19 := ok18.add (sort_well (sortOk_of Try.sort17))
noncomputable def KD := qd1 K19 10 kfTrue
theorem okD : KnOk Try.prog E0 KD := ok19.add kn10
theorem rd8 {n : Nat} {args : List V} {s : St} {r : En × St} (e : qco E0 (ev E0 KD n) qa1 Try.f8 B8 args s = some r) : (ev E0 KD (n + 1)).f 8 args s = some r := qb5 (c := C8) (d := B8) (by kernel_rfl) (by kernel_rfl) (qa3 C8 _ (by kernel_rfl)) rfl e
theorem rd14 {n : Nat} {args : List V} {s : St} {r : En × St} (e : qco E0 (ev E0 KD n) qa1 Try.f14 B14 args s = some r) : (ev E0 KD (n + 1)).f 14 args s = some r := qb5 (c := C14) (d := B14) (by kernel_rfl) (by kernel_rfl) (qa3 C14 _ (by kernel_rfl)) rfl e
theorem rd15 {n : Nat} {args : List V} {s : St} {r : En × St} (e : qco E0 (ev E0 KD n) qa1 Try.f15 B15 args s = some r) : (ev E0 KD (n + 1)).f 15 args s = some r := qb5 (c := C15) (d := B15) (by kernel_rfl) (by kernel_rfl) (qa3 C15 _ (by kernel_rfl)) rfl e
theorem rd16 {n : Nat} {args : List V} {s : St} {r : En × St} (e : qco E0 (ev E0 KD n) qa1 Try.f16 B16 args s = some r) : (ev E0 KD (n + 1)).f 16 args s = some r := qb5 (c := C16) (d := B16) (by kernel_rfl) (by kernel_rfl) (qa3 C16 _ (by kernel_rfl)) rfl e
theorem rd30 {n : Nat} {args : List V} {s : St} {r : En × St} (e : qco E0 (ev E0 KD n) qa1 Try.f30 B30 args s = some r) : (ev E0 KD (n + 1)).f 30 args s = some r := qb5 (c := C30) (d := B30) (by kernel_rfl) (by kernel_rfl) (qa3 C30 _ (by kernel_rfl)) rfl e
theorem rd31 {n : Nat} {args : List V} {s : St} {r : En × St} (e : qco E0 (ev E0 KD n) qa1 Try.f31 B31 args s = some r) : (ev E0 KD (n + 1)).f 31 args s = some r := qb5 (c := C31) (d := B31) (by kernel_rfl) (by kernel_rfl) (qa3 C31 _ (by kernel_rfl)) rfl e
theorem rd32 {n : Nat} {args : List V} {s : St} {r : En × St} (e : qco E0 (ev E0 KD n) qa1 Try.f32 B32 args s = some r) : (ev E0 KD (n + 1)).f 32 args s = some r := qb5 (c := C32) (d := B32) (by kernel_rfl) (by kernel_rfl) (qa3 C32 _ (by kernel_rfl)) rfl e
theorem rd33 {n : Nat} {args : List V} {s : St} {r : En × St} (e : qco E0 (ev E0 KD n) qa1 Try.f33 B33 args s = some r) : (ev E0 KD (n + 1)).f 33 args s = some r := qb5 (c := C33) (d := B33) (by kernel_rfl) (by kernel_rfl) (qa3 C33 _ (by kernel_rfl)) rfl e
theorem rd56 {n : Nat} {args : List V} {s : St} {r : En × St} (e : qco E0 (ev E0 KD n) qa1 Try.f56 B56 args s = some r) : (ev E0 KD (n + 1)).f 56 args s = some r := qb5 (c := C56) (d := B56) (by kernel_rfl) (by kernel_rfl) (qa3 C56 _ (by kernel_rfl)) rfl e
theorem rd57 {n : Nat} {args : List V} {s : St} {r : En × St} (e : qco E0 (ev E0 KD n) qa1 Try.f57 B57 args s = some r) : (ev E0 KD (n + 1)).f 57 args s = some r := qb5 (c := C57) (d := B57) (by kernel_rfl) (by kernel_rfl) (qa3 C57 _ (by kernel_rfl)) rfl e
theorem rd61 {n : Nat} {args : List V} {s : St} {r : En × St} (e : qco E0 (ev E0 KD n) qa1 Try.f61 B61 args s = some r) : (ev E0 KD (n + 1)).f 61 args s = some r := qb5 (c := C61) (d := B61) (by kernel_rfl) (by kernel_rfl) (qa3 C61 _ (by kernel_rfl)) rfl e
section
variable {S T U : St}
def ltrs : Bs := [48, 49, 50, 51, 52, 53, 54, 55, 56, 57, 97, 98, 99, 100, 102, 103, 104, 105, 106, 107, 108, 109, 110, 112, 113, 114, 115, 118, 119, 120, 121, 122]
theorem ltrs_len : ltrs.length = 32 := rfl
def isH (h : Bs) : Bool := decide (h.length = 32) && h.all fun c => ltrs.contains c
theorem isH_len {h : Bs} (e : isH h = true) : h.length = 32 := of_decide_eq_true (Bool.and_eq_true_iff.1 e).1
theorem qfm (l : Bs) : qdp (sv l) S = some (.int .i64 (l.length : Int), S) := lnStr_sv l
theorem und82 : und E0 82 = some (.map 5 3) := by kernel_rfl
theorem lssN (a b : Nat) : qab E0 .lss 3 false false (.int .i64 (a : Int)) (.int .i64 (b : Int)) = some (.bool (decide (a < b))) := by
 rw [binV_ii, intsV_lss]
 congr 2
 simp
theorem qli {i : Nat} (h : i < 9223372036854775807) : qab E0 .add 3 false true (.int .i64 (i : Int)) (.int .i64 1) = some (.int .i64 ((i + 1 : Nat) : Int)) := by
 rw [binV_ii, intsV_add, qbk h]
theorem look_u8t (ho : S.on = false) {t et : TypeId} {z : V} (ht : und E0 t = some (.map 5 et)) (hz : qgi E0 et = some z) {r : Nat} {kv : List (Int × V)} (h : MapAt S r (kvB kv)) (a : Int) :
 qcc E0 t (.map r) (.int .u8 a) true S = some (.tuple [(lkI a kv).getD z, .bool (lkI a kv).isSome], S) := by
 obtain ⟨es, c, h1, h2, _⟩ := h
 unfold qcc
 rw [ht, oB]
 simp only
 rw [und5, oB]
 simp only [qgu, cond_true]
 have hg := qj8 ho h1 none
 rw [show stt S none = S from rfl] at hg
 rw [hg, oB]
 simp only
 rw [oB]
 dsimp only
 rw [mfind_u8 a kv es 0 h2, oB]
 cases lkI a kv with
 | none => simp only [Option.map_none]; rw [hz]; rfl
 | some v => rfl
theorem lkI_setI (i : Int) (w : V) (j : Int) : ∀ kv, lkI j (setKI i w kv) = if j = i then some w else lkI j kv
 | [] => by show (if j = i then some w else none) = _; rfl
 | p :: kv => by
  unfold setKI
  by_cases hc : i = p.1
  · rw [if_pos hc]
    show (if j = i then some w else lkI j kv) = if j = i then some w else if j = p.1 then some p.2 else lkI j kv
    by_cases hj : j = i
    · rw [if_pos hj, if_pos hj]
    · rw [if_neg hj, if_neg hj, if_neg (fun e => hj (e.trans hc.symm))]
  · rw [if_neg hc]
    show (if j = p.1 then some p.2 else lkI j (setKI i w kv)) = if j = i then some w else if j = p.1 then some p.2 else lkI j kv
    rw [lkI_setI i w j kv]
    by_cases hj : j = p.1
    · rw [if_pos hj, if_pos hj, if_neg (fun e => hc (e.symm.trans hj))]
    · rw [if_neg hj, if_neg hj]
def Keys (S : St) (r : Nat) (l : Bs) : Prop := r < S.next ∧ ∃ kv, MapAt S r (kvB kv) ∧ ∀ a : UInt8, (lkI (a.toNat : Int) kv).isSome = l.contains a
theorem Keys.grew {W : Nat → Prop} {r : Nat} {l : Bs} (h : Keys S r l) (hw : ¬ W r) (g : Grew W S T) : Keys T r l := by
 obtain ⟨h1, kv, h2, h3⟩ := h
 exact ⟨Nat.lt_of_lt_of_le h1 g.next, kv, h2.grew h1 hw g, h3⟩
theorem Keys.put {r : Nat} {l : Bs} (h : Keys S r l) (ho : S.on = false) (c : UInt8) (v : V) : ∃ U, vu (qbe E0 82 (.map r) (.int .u8 (c.toNat : Int)) v S) = some (.tuple [], U) ∧ Keys U r (l ++ [c]) ∧ Grew (fun x => x = r) S U := by
 obtain ⟨h1, kv, h2, h3⟩ := h
 obtain ⟨es, k, k1, k2⟩ := upd_u8 ho und82 h2 (c.toNat : Int) v
 have hu := k2 none
 refine ⟨S.put r (.map es k), ?_, ⟨h1, setKI (c.toNat : Int) v kv, ⟨es, k, by rw [qbp, if_pos rfl], k1⟩, fun a => ?_⟩, qbl _ _⟩
 · rw [show qbe E0 82 (.map r) (.int .u8 (c.toNat : Int)) v S = _ from hu]; rfl
 · rw [lkI_setI]
   by_cases e : a = c
   · subst e; simp
   · have : ¬ ((a.toNat : Int) = (c.toNat : Int)) := fun q => e (UInt8.toNat_inj.1 (Int.ofNat_inj.1 q))
     rw [if_neg this, h3 a]
     simp [List.contains_iff_mem, e]
theorem L56_spec {self : EV} {N : Nat} (nk : Ac → St → Rs) (ek : Nat → Ac → St → Rs) {r : Nat} : ∀ (k i n : Nat) (S : St), S.on = false → i + k = 32 → k < n → Keys S r (ltrs.take i) →
 ∃ U, L56_7 self N nk ek n (.map r) (.int .i64 (i : Int)) S = ek 0 (fr 13 [(1, .map r)]) U ∧ Keys U r ltrs ∧ Grew (fun x => x = r) S U
 | _, _, 0, _, _, _, hn, _ => by omega
 | 0, i, n + 1, S, ho, hi, _, hK => by
  refine ⟨S, ?_, ?_, Grew.refl _ _⟩
  · rw [L56_7_eq, show V.int .i64 32 = .int .i64 ((32 : Nat) : Int) from rfl, binV_ii, intsV_lss, qga (by omega), oB, ifK_bool, cond_false]
  · rwa [List.take_of_length_le (by rw [ltrs_len]; omega)] at hK
 | k + 1, i, n + 1, S, ho, hi, hn, hK => by
  have hl : i < ltrs.length := by rw [ltrs_len]; omega
  obtain ⟨U1, a1, a2, a3⟩ := hK.put ho ltrs[i] (.int .i64 (i : Int))
  rw [← take_push hl] at a2
  obtain ⟨U, b1, b2, b3⟩ := L56_spec (self := self) (N := N) nk ek k (i + 1) n U1 (a3.on.trans ho) (by omega) (by omega) a2
  refine ⟨U, ?_, b2, a3.trans b3⟩
  rw [L56_7_eq, show V.int .i64 32 = .int .i64 ((32 : Nat) : Int) from rfl, binV_ii, intsV_lss, qfe (by omega), oB, ifK_bool, cond_true]
  have hx : ixS (sv [48, 49, 50, 51, 52, 53, 54, 55, 56, 57, 97, 98, 99, 100, 102, 103, 104, 105, 106, 107, 108, 109, 110, 112, 113, 114, 115, 118, 119, 120, 121, 122]) (.int .i64 (i : Int)) = some (.int .u8 (ltrs[i].toNat : Int)) := qi2 ltrs .i64 i hl
  rw [hx, oB, a1, oB]
  dsimp only
  rw [qli (by omega), oB, b1]
theorem f56_run (m : Nat) (S : St) (ho : S.on = false) : ∃ U r, (ev E0 KD (m + 1)).f 56 [] S = some (.ret (.map r), U) ∧ Keys U r ltrs ∧ S.next ≤ r ∧ Grew (fun _ => False) S U := by
 have g1 : Grew (fun _ => False) S (nw S (.map [] 0)) := qc6 ho _ _
 have k1 : Keys (nw S (.map [] 0)) S.next (ltrs.take 0) := ⟨by show S.next < S.next + 1; omega, [], ⟨[], 0, by rw [qem, if_pos rfl], MapOk.new⟩, fun _ => rfl⟩
 obtain ⟨U, b1, b2, b3⟩ := L56_spec (self := ev E0 KD m) (N := qa1) (R56_3 (ev E0 KD m) qa1 (qaw E0 (ev E0 KD m) Try.f56) qad) (exB 0 (R56_3 (ev E0 KD m) qa1 (qaw E0 (ev E0 KD m) Try.f56) qad) qad) 32 0 qa1 _ (g1.on.trans ho) rfl (by unfold qa1; omega) k1
 refine ⟨U, S.next, rd56 ?_, b2, Nat.le_refl _, Grew.fresh g1 (Nat.le_refl _) (b3.mono fun x _ hx => by omega)⟩
 show F56 (ev E0 KD m) qa1 S = _
 rw [F56_eq, show qex E0 82 none S = some (.map S.next, nw S (.map [] 0)) from rfl, oB]
 dsimp only
 rw [show V.int .i64 0 = .int .i64 ((0 : Nat) : Int) from rfl, b1, exB_same, R56_3_eq]
theorem L30_spec {self : EV} {N : Nat} (nk : Ac → St → Rs) (ek : Nat → Ac → St → Rs) {r : Nat} (h : Bs) (hh : h.length < 9223372036854775808) (hK : Keys S r ltrs) (ho : S.on = false) : ∀ (q : Bs) (i n : Nat), h.drop i = q → q.length < n →
 L30_11 self N nk ek n (sv h) (.map r) (.int .i64 (h.length : Int)) (.int .i64 (i : Int)) S = if q.all (fun c => ltrs.contains c) then ek 0 (fr 27 [(0, sv h)]) S else some (.ret (.bool false), S)
 | _, _, 0, _, hn => by omega
 | [], i, n + 1, hi, _ => by
  rw [L30_11_eq, lssN, decide_eq_false (Nat.not_lt.2 (qbq hi)), oB, ifK_bool, cond_false]
  rfl
 | c :: q, i, n + 1, hi, hn => by
  obtain ⟨hlt, hc, hr, _⟩ := qd0 hi
  have ih := L30_spec (self := self) (N := N) nk ek h hh hK ho q (i + 1) n hr (by simpa using hn)
  obtain ⟨h1, kv, h2, h3⟩ := hK
  rw [L30_11_eq, lssN, decide_eq_true hlt, oB, ifK_bool, cond_true, qi2 h .i64 i hlt, oB, look_u8t ho und82 zero3 h2, oB]
  dsimp only
  rw [hc, h3 c]
  rw [show ∀ a b, qa8 (.tuple [a, b]) 0 = some a from fun _ _ => rfl, oB, show ∀ a b, qa8 (.tuple [a, b]) 1 = some b from fun _ _ => rfl, oB, unV_not, oB, ifK_bool, List.all_cons]
  cases ltrs.contains c with
  | false => rfl
  | true =>
   rw [Bool.not_true, cond_false, qli (by omega), oB, ih, Bool.true_and]
theorem f30_run (m : Nat) (S : St) (ho : S.on = false) (h : Bs) (hh : h.length < 9223372036854775808) : ∃ U, (ev E0 KD (m + 2)).f 30 [sv h] S = some (.ret (.bool (isH h)), U) ∧ Grew (fun _ => False) S U := by
 obtain ⟨U, r, a1, a2, a3, a4⟩ := f56_run m S ho
 refine ⟨U, rd30 ?_, a4⟩
 show F30 (ev E0 KD (m + 1)) qa1 (sv h) S = _
 rw [F30_eq, a1, callP_ret, qfm, oB]
 dsimp only
 rw [show V.int .i64 0 = .int .i64 ((0 : Nat) : Int) from rfl, L30_spec _ _ h (by omega) a2 (a4.on.trans ho) h 0 qa1 rfl (by unfold qa1; omega)]
 unfold isH
 cases hb : h.all (fun c => ltrs.contains c) with
 | false => rw [if_neg (by simp), Bool.and_false]
 | true =>
  rw [if_pos rfl, exB_same, R30_3_eq, qfm, oB]
  dsimp only
  rw [show V.int .i64 32 = .int .i64 ((32 : Nat) : Int) from rfl, binV_ii, intsV_eql, oB, Bool.and_true]
  congr 5
  simp
  omega
end
end Go.Proofs.Ytmeohejdafbodaa.W
