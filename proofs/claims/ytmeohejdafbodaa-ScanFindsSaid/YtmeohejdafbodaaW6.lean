/-
  WHAT THE FUNCTIONS COME TO: each is read by the evaluator, printed, and told as a function of data, part 6 of 8 (no condition).
-/
import Derived.Test.YtmeohejdafbodaaW5
import Derived.Test.YtmeohejdafbodaaShelf
namespace Go.Proofs.Ytmeohejdafbodaa.W
open Go.Proofs.Ytmeohejdafbodaa.Ev Go.RowKit
abbrev Bs := List UInt8
section
variable {s S T U X Y : St} {α : Type}
theorem lnS_of {v : V} {s : St} {n : Nat} (hv : ∀ l k, v ≠ .str l k) (h : lenV v = some n) : lnS v s = some (.int .i64 (n : Int), s) := by
 unfold lnS
 split
 · exact absurd rfl (hv _ _)
 · rw [h]; rfl
noncomputable def kfTrue : KF := qcs (fun _ : Unit => []) (fun _ => En.ret (.bool true))
theorem kfTrue_run (S : St) : kfTrue.run [] S = some (.ret (.bool true), S) := qcc (enc := fun _ : Unit => []) (out := fun _ => En.ret (.bool true)) (fun _ _ _ => rfl) () S
theorem gTT : qa2 true (.bool true) = some true := rfl
theorem gTF : qa2 true (.bool false) = some false := rfl
theorem gFT : qa2 false (.bool true) = some false := rfl
theorem gFF : qa2 false (.bool false) = some true := rfl
theorem zero3 : qgb E0 3 = some (.int .i64 0) := by kernel_rfl
theorem bless_iff : ∀ {x y : Bs}, Op.bytesLess x y = true ↔ x < y
 | [], [] => by simp [Op.bytesLess]
 | _ :: _, [] => by simp [Op.bytesLess]
 | [], _ :: _ => by simp [Op.bytesLess]
 | a :: x, b :: y => by
  simp only [Op.bytesLess, Bool.or_eq_true, decide_eq_true_eq, Bool.and_eq_true, beq_iff_eq]
  rw [List.cons_lt_cons_iff, bless_iff (x := x) (y := y)]
def insB (x : Bs) : List Bs → List Bs
 | [] => [x]
 | y :: l => if y < x then y :: insB x l else x :: y :: l
def qjn : List Bs → List Bs
 | [] => []
 | x :: l => insB x (qjn l)
theorem qmi (x : Bs) : ∀ l : List Bs, (insB x l).Perm (x :: l)
 | [] => .refl _
 | y :: l => by
  unfold insB
  split
  · exact ((qmi x l).cons y).trans (.swap x y l)
  · exact .refl _
theorem qhl : ∀ l : List Bs, (qjn l).Perm l
 | [] => .refl _
 | x :: l => (qmi x (qjn l)).trans ((qhl l).cons x)
theorem insB_pw {x : Bs} : ∀ {l : List Bs}, l.Pairwise (· < ·) → x ∉ l → (insB x l).Pairwise (· < ·)
 | [], _, _ => by simp [insB]
 | y :: l, h, hx => by
  unfold insB
  rw [List.pairwise_cons] at h
  simp only [List.mem_cons, not_or] at hx
  split
  · rename_i hlt
    refine List.pairwise_cons.2 ⟨fun z hz => ?_, insB_pw h.2 hx.2⟩
    rcases List.mem_cons.1 ((qmi x l).mem_iff.1 hz) with rfl | hz
    · exact hlt
    · exact h.1 z hz
  · rename_i hlt
    have hxy : x < y := by
     rcases List.le_iff_lt_or_eq.1 (List.not_lt.1 hlt) with h | h
     · exact h
     · exact absurd h hx.1
    refine List.pairwise_cons.2 ⟨fun z hz => ?_, List.pairwise_cons.2 h⟩
    rcases List.mem_cons.1 hz with rfl | hz
    · exact hxy
    · exact List.lt_trans hxy (h.1 z hz)
theorem sortB_pw : ∀ {l : List Bs}, l.Nodup → (qjn l).Pairwise (· < ·)
 | [], _ => .nil
 | x :: l, h => by
  rw [List.nodup_cons] at h
  exact insB_pw (sortB_pw h.2) fun hm => h.1 ((qhl l).mem_iff.1 hm)
theorem mem_sortB {l : List Bs} {x : Bs} : x ∈ qjn l ↔ x ∈ l := (qhl l).mem_iff
theorem insS_ins (x : Bs) : ∀ l : List Bs, insS x.length (qal x) (l.map kp) = (insB x l).map kp
 | [] => rfl
 | y :: l => by
  rw [List.map_cons]
  unfold insS insB
  rw [show qh2 (kp y).1 (kp y).1 (kp y).2 x.length (qal x) = Op.bytesLess y x from qdl y x]
  by_cases h : y < x
  · rw [bless_iff.2 h, if_pos h, cond_true, insS_ins x l]; rfl
  · rw [if_neg h, show Op.bytesLess y x = false from by rw [Bool.eq_false_iff]; exact fun e => h (bless_iff.1 e)]; rfl
theorem rising_of : ∀ {l : List Bs}, l.Pairwise (· < ·) → qnb (l.map kp) = true
 | [], _ => rfl
 | [x], _ => rfl
 | x :: y :: l, h => by
  rw [List.pairwise_cons] at h
  have h2 := rising_of h.2
  rw [List.map_cons] at h2
  rw [List.map_cons, List.map_cons]
  unfold qnb
  rw [h2, show qh2 (kp x).1 (kp x).1 (kp x).2 (kp y).1 (kp y).2 = Op.bytesLess x y from qdl x y, bless_iff.2 (h.1 y (List.mem_cons_self ..))]
  rfl
def qdt (l : List Bs) : List (Tr V) := l.map fun a => Go.Proofs.Ytmeohejdafbodaa.Ev.one (sv a)
theorem qa6 (l : List Bs) : (qdt l).length = l.length := by unfold qdt; rw [List.length_map]
theorem rowOf_get {l : List Bs} {i : Nat} {a : Bs} (h : l[i]? = some a) : (qdt l)[i]? = some (Go.Proofs.Ytmeohejdafbodaa.Ev.one (sv a)) := by unfold qdt; rw [List.getElem?_map, h]; rfl
theorem qgz (l m : List Bs) : qdt (l ++ m) = qdt l ++ qdt m := by unfold qdt; rw [List.map_append]
def qfo : V → Option Nat
 | .slice r _ _ _ => some r
 | .oslice r _ _ _ => some r
 | _ => none
def TL (S : St) (v : V) (l : List Bs) : Prop := (l = [] ∧ (v = .nilslice ∨ v = .eslice ∨ ∃ r c, v = .slice r 0 0 c)) ∨
 ∃ r off L, RowAt S r 9 1 (qdt L) ∧ r < S.next ∧ off + l.length ≤ L.length ∧ (L.drop off).take l.length = l ∧ (v = .oslice r off l.length 1 ∨ ∃ c, v = .slice r off l.length c)
theorem TL.nil : TL S .nilslice [] := .inl ⟨rfl, .inl rfl⟩
theorem TL.own {r : Nat} {l : List Bs} (h : RowAt S r 9 1 (qdt l)) (hr : r < S.next) : TL S (.oslice r 0 l.length 1) l := .inr ⟨r, 0, l, h, hr, by omega, by simp, .inl rfl⟩
theorem TL.grew {W : Nat → Prop} {v : V} {l : List Bs} (h : TL S v l) (hw : ∀ r e, qfo v = some r → RowAt S r 9 1 e → ¬ W r) (g : Grew W S U) : TL U v l := by
 rcases h with h | ⟨r, off, L, h1, h2, h3, h4, h5⟩
 · exact .inl h
 · have hb : qfo v = some r := by rcases h5 with rfl | ⟨c, rfl⟩ <;> rfl
   exact .inr ⟨r, off, L, h1.grew h2 (hw r _ hb h1) g, Nat.lt_of_lt_of_le h2 g.next, h3, h4, h5⟩
theorem TL.grew0 {v : V} {l : List Bs} (h : TL S v l) (g : Grew (fun _ => False) S U) : TL U v l := h.grew (fun _ _ _ _ h => h) g
theorem TL.same {v : V} {l : List Bs} (h : TL S v l) (h1 : U.heap = S.heap) (h2 : U.next = S.next) : TL U v l := by
 rcases h with h | ⟨r, off, L, a1, a2, a3, a4, a5⟩
 · exact .inl h
 · exact .inr ⟨r, off, L, a1.same h1, by omega, a3, a4, a5⟩
theorem TL.lenV {v : V} {l : List Bs} (h : TL S v l) : Go.Proofs.Ytmeohejdafbodaa.Ev.lenV v = some l.length := by
 rcases h with ⟨rfl, rfl | rfl | ⟨r, c, rfl⟩⟩ | ⟨r, off, L, h1, h2, h3, h4, rfl | ⟨c, rfl⟩⟩ <;> rfl
theorem TL.notStr {v : V} {l : List Bs} (h : TL S v l) : ∀ a b, v ≠ .str a b := by
 rcases h with ⟨rfl, rfl | rfl | ⟨r, c, rfl⟩⟩ | ⟨r, off, L, h1, h2, h3, h4, rfl | ⟨c, rfl⟩⟩ <;> intro a b e <;> cases e
theorem TL.len {v : V} {l : List Bs} (h : TL S v l) (U : St) : lnS v U = some (.int .i64 (l.length : Int), U) := lnS_of h.notStr h.lenV
theorem TL.ix {v : V} {l : List Bs} (h : TL S v l) {i : Nat} {a : Bs} (ha : l[i]? = some a) : ∃ r o L, ixP 1 v (.int .i64 (i : Int)) = some (.ptr r o) ∧ RowAt S r 9 1 L ∧ L[o]? = some (Go.Proofs.Ytmeohejdafbodaa.Ev.one (sv a)) := by
 obtain ⟨hi, he⟩ := List.getElem?_eq_some_iff.1 ha
 rcases h with ⟨rfl, _⟩ | ⟨r, off, L, h1, h2, h3, h4, h5⟩
 · cases hi
 · refine ⟨r, off + i * 1, qdt L, ?_, h1, ?_⟩
   · have : ixP 1 v (.int .i64 (i : Int)) = bif Nat.blt i l.length then some (V.ptr r (off + i * 1)) else none := by rcases h5 with rfl | ⟨c, rfl⟩ <;> rfl
     rw [this, blt_true.2 hi]; rfl
   · refine rowOf_get ?_
     rw [Nat.mul_one]
     have : ((L.drop off).take l.length)[i]? = some a := by rw [h4]; exact ha
     rw [List.getElem?_take, if_pos hi, List.getElem?_drop] at this
     exact this
theorem TL.ld {v : V} {l : List Bs} (h : TL S v l) (ho : S.on = false) {i : Nat} {a : Bs} (ha : l[i]? = some a) : ∃ p, ixP 1 v (.int .i64 (i : Int)) = some p ∧ ld1 p S = some (sv a, S) := by
 obtain ⟨r, o, L, h1, h2, h3⟩ := h.ix ha
 exact ⟨_, h1, h2.ld1 ho h3⟩
def TLo (S : St) (v : V) (l : List Bs) (N : Nat) : Prop := (l = [] ∧ v = .nilslice) ∨ ∃ r, v = .oslice r 0 l.length 1 ∧ RowAt S r 9 1 (qdt l) ∧ r < S.next ∧ N ≤ r ∧ 0 < l.length
theorem TLo.nil {N : Nat} : TLo S .nilslice [] N := .inl ⟨rfl, rfl⟩
theorem TLo.tl {v : V} {l : List Bs} {N : Nat} (h : TLo S v l N) : TL S v l := by
 rcases h with ⟨rfl, rfl⟩ | ⟨r, rfl, h1, h2, _⟩
 · exact .nil
 · exact .own h1 h2
theorem TLo.grew {v : V} {l : List Bs} {N : Nat} (h : TLo S v l N) (g : Grew (fun _ => False) S U) : TLo U v l N := by
 rcases h with h | ⟨r, h0, h1, h2, h3⟩
 · exact .inl h
 · exact .inr ⟨r, h0, h1.grew h2 (fun h => h) g, Nat.lt_of_lt_of_le h2 g.next, h3⟩
theorem TLo.push (ho : S.on = false) {v : V} {l : List Bs} {N : Nat} (h : TLo S v l N) (hN : N ≤ S.next) (hl : l.length < 100000) (a : Bs) :
 ∃ y W v' U, bsP 9 1 1 (Go.Proofs.Ytmeohejdafbodaa.Ev.one (sv [])) [(0, sv a)] S = some (y, W) ∧ apP 9 1 16 v y W = some (v', U) ∧ TLo U v' (l ++ [a]) N ∧ Grew (fun x => N ≤ x) S U := by
 obtain ⟨W, h1, h2, h3, h4⟩ := bsP_one ho 9 (Go.Proofs.Ytmeohejdafbodaa.Ev.one (sv [])) (oneV_sv a)
 have on1 := h3.on.trans ho
 have hlm : (l ++ [a]).length = l.length + 1 := by rw [List.length_append]; rfl
 rcases h with ⟨rfl, rfl⟩ | ⟨r, rfl, hr, hr2, hr3, h0⟩
 · obtain ⟨U, k1, k2, k3, k4⟩ := qls (B := 16) on1 h2 (by unfold qac; omega)
   exact ⟨_, W, _, U, h1, k1, .inr ⟨W.next, rfl, k2, by omega, by omega, by simp⟩, (h3.trans k3).mono fun _ _ h => h.elim⟩
 · have hrow := hr.grew hr2 (fun h => h) h3
   obtain ⟨U, k1, k2, k3, k4⟩ := ap1_more (B := 16) on1 h2 hrow (by rw [qa6]; unfold qac; omega) (by rw [qa6]; unfold big; omega)
   rw [qa6] at k1
   refine ⟨_, W, _, U, h1, k1, .inr ⟨W.next, by rw [hlm], ?_, by omega, by omega, by omega⟩, (h3.mono fun _ _ h => h.elim).trans (k3.mono fun x _ e => by subst e; exact hr3)⟩
   rw [qgz]
   exact k2
theorem Grew.fresh {a b c : St} {N : Nat} (h : Grew (fun _ => False) a b) (hN : a.next ≤ N) (k : Grew (fun x => N ≤ x) b c) : Grew (fun _ => False) a c :=
 ⟨Nat.le_trans h.next k.next, k.on.trans h.on, fun x hx hw => (k.keep x (Nat.lt_of_lt_of_le hx h.next) (by omega)).trans (h.keep x hx hw)⟩
theorem take_push {α : Type} {l : List α} {i : Nat} (h : i < l.length) : l.take (i + 1) = l.take i ++ [l[i]] := (List.take_append_getElem h).symm
theorem eqStr (c d : Bool) (a b : Bs) : qad E0 .eql 9 c d (sv a) (sv b) = some (.bool (a == b)) := by
 rw [binV_ss]
 show (some (V.bool (sEq a.length (qal a) b.length (qal b)))) = _
 rw [qkq]
theorem neStr (c d : Bool) (a b : Bs) : qad E0 .neq 9 c d (sv a) (sv b) = some (.bool (!(a == b))) := by
 rw [binV_ss]
 show (some (V.bool (!sEq a.length (qal a) b.length (qal b)))) = _
 rw [qkq]
theorem neqInt (a c : Nat) : qad E0 .neq 3 false false (.int .i64 (a : Int)) (.int .i64 (c : Int)) = some (.bool (!decide (a = c))) := by
 rw [binV_ii, intsV_neq]
 congr 3
 rw [decide_eq_decide]; omega
theorem ld1_lg (ho : S.on = false) {b i : Nat} {v : V} (h : ld1 (.ptr b i) S = some (v, S)) (l : List LE) : ld1 (.ptr b i) (S.lg l) = some (v, S.lg (⟨b, i, i + 1, false⟩ :: l)) := by
 have h' : ld S b i = some (v, S) := h
 show ld (S.lg l) b i = _
 unfold ld at h' ⊢
 rw [show (S.lg l).heap = S.heap from rfl]
 split at h'
 · rename_i e esz n ro c hb
   cases hc : (Nat.blt i (esz * n) && Nat.blt (esz * n) big) with
   | false => rw [hc] at h'; cases h'
   | true =>
    rw [hc] at h'
    simp only [cond_true, oI, oS, pM] at h' ⊢
    obtain ⟨t, h1, w, h2, rfl, _⟩ := h'
    exact ⟨t, h1, w, h2, rfl, rfl⟩
 · cases h'
theorem TL.ldOn (ho : S.on = false) {v : V} {l : List Bs} (h : TL S v l) {i : Nat} {a : Bs} (ha : l[i]? = some a) (L : List LE) : ∃ p r o, ixP 1 v (.int .i64 (i : Int)) = some p ∧ ld1 p (S.lg L) = some (sv a, S.lg (⟨r, o, o + 1, false⟩ :: L)) := by
 obtain ⟨r, o, M, h1, h2, h3⟩ := h.ix ha
 exact ⟨_, r, o, h1, ld1_lg ho (show ld1 (.ptr r o) S = _ from h2.ld1 ho h3) L⟩
theorem qds {T : St} (ho : S.on = false) (hT : T.on = false) (hl : T.log = S.log) (l : List LE) (ls : List (List LE)) : qaz S (T.lg l) ls = T := by
 unfold qaz
 rw [ho]
 cases T
 simp only at hT hl
 subst hT; subst hl
 rfl
theorem rds_of {logs : List (List LE)} (h : ∀ L ∈ logs, ∀ e ∈ L, e.w = false) : rds logs = true := by
 unfold rds
 rw [List.all_eq_true]
 intro L hL
 rw [List.all_eq_true]
 intro e he
 rw [h L hL e he]; rfl
theorem row_ne {b e e' z z' : Nat} {l l' : List (Tr V)} (h : RowAt S b e z l) (h' : RowAt S b e' z' l') : e = e' := by
 obtain ⟨c, h1, _⟩ := h.row
 obtain ⟨c', h2, _⟩ := h'.row
 rw [h1] at h2
 simp only [oS, O.cells.injEq] at h2
 exact h2.1
theorem TLo.blk {v : V} {l : List Bs} {N r : Nat} (h : TLo S v l N) (hr : qfo v = some r) : N ≤ r ∧ RowAt S r 9 1 (qdt l) := by
 rcases h with ⟨_, rfl⟩ | ⟨r', rfl, h1, h2, h3, _⟩
 · cases hr
 · cases hr; exact ⟨h3, h1⟩
def RwS (S : St) (v : V) (z : Nat) (L : List (Tr V)) : Prop := lenV v = some L.length ∧ qb8 z L.length v S = some (L, S)
theorem TL.rw (ho : S.on = false) {v : V} {l : List Bs} (h : TL S v l) : RwS S v 1 (qdt l) := by
 refine ⟨by rw [qa6]; exact h.lenV, ?_⟩
 rw [qa6]
 rcases h with ⟨rfl, rfl | rfl | ⟨r, c, rfl⟩⟩ | ⟨r, off, L, h1, h2, h3, h4, h5⟩
 · rfl
 · rfl
 · rfl
 · have := h1.ldN ho l.length off (by rw [qa6]; exact h3)
   rw [Nat.mul_one] at this
   have e : ((qdt L).drop off).take l.length = qdt l := by
    unfold qdt
    rw [← List.map_drop, ← List.map_take, h4]
   rw [e] at this
   rcases h5 with rfl | ⟨c, rfl⟩ <;> exact this
theorem app_none {e z B r : Nat} (ho : S.on = false) {y : V} {M : List (Tr V)} (hr : RowAt S r e z M) (h : RwS S y z []) (hB : M.length * (B + z + 1) < qac) : apP e z B (.oslice r 0 M.length z) y S = some (.oslice r 0 M.length z, S) := by
 unfold apP
 have h1 : lenV y = some 0 := h.1
 have h2 : qb8 z 0 y S = some ([], S) := h.2
 rw [h1, oB, show lenV (.oslice r 0 M.length z) = some M.length from rfl, oB, Nat.add_zero, blt_true.2 hB, cond_true]
 unfold qcd
 rw [h2, oB]
 simp only
 obtain ⟨c, hc1, hc2⟩ := hr.row
 rw [Nat.beq_refl, cond_true]
 unfold qht
 rw [hc1]
 simp only [blt_true.2 hr.fit, cond_true, oB, qax ho, Nat.add_zero, Nat.zero_add]
 rw [show Nat.ble (M.length * z) (z * M.length) = true from by rw [ble_true, Nat.mul_comm]; exact Nat.le_refl _, cond_true]
 rfl
theorem app_more {e z B r : Nat} (ho : S.on = false) {y : V} {M L : List (Tr V)} (hr : RowAt S r e z M) (h : RwS S y z L) (hL : L ≠ []) (hB : (M.length + L.length) * (B + z + 1) < qac) (hbig : z * (M.length + L.length) < big) :
 ∃ U, apP e z B (.oslice r 0 M.length z) y S = some (.oslice S.next 0 (M.length + L.length) z, U) ∧ RowAt U S.next e z (M ++ L) ∧ Grew (fun x => x = r) S U ∧ U.next = S.next + 1 := by
 obtain ⟨c, hc1, hc2⟩ := hr.row
 have hfit := hr.fit
 have hz := hr.pos
 have hLp : 0 < L.length := List.length_pos_iff.2 hL
 refine ⟨nw (S.put r .dead) (.cells e z (M.length + L.length) false (Go.Proofs.Ytmeohejdafbodaa.Ev.addL c L M.length)), ?_, ?_, ?_, rfl⟩
 · unfold apP
   rw [h.1, oB, show lenV (.oslice r 0 M.length z) = some M.length from rfl, oB, blt_true.2 hB, cond_true]
   unfold qcd
   rw [h.2, oB]
   simp only
   rw [Nat.beq_refl, cond_true]
   unfold qht
   rw [hc1]
   simp only [blt_true.2 hfit, cond_true, oB, qax ho]
   rw [show Nat.ble (0 + (M.length + L.length) * z) (z * M.length) = false from by
    rw [ble_false, Nat.zero_add, Nat.mul_comm z, Nat.add_mul]
    have : 0 < L.length * z := Nat.mul_pos hLp hz
    omega, cond_false]
   unfold qgj
   rw [hc1]
   simp only [Nat.beq_refl, Bool.not_true, Bool.or_self, cond_false, show Nat.beq 0 0 = true from rfl, blt_true.2 hfit, Bool.and_self, cond_true]
   rw [qd5, qhk ho]
 · refine qf0 (s := S.put r .dead) ho hz (by rw [List.length_append]) hbig fun i t hi => ?_
   rw [Go.Proofs.Ytmeohejdafbodaa.Ev.addL_get]
   have hlt := (List.getElem?_eq_some_iff.1 hi).1
   rw [List.length_append] at hlt
   by_cases hc : M.length ≤ i
   · rw [if_pos ⟨hc, hlt⟩]
     rw [List.getElem?_append_right hc] at hi
     exact hi
   · rw [if_neg (fun h => hc h.1)]
     rw [List.getElem?_append_left (by omega)] at hi
     exact hc2 i t hi
 · exact ⟨by show S.next ≤ S.next + 1; omega, (nw_on (s := S.put r .dead) ho _).trans ho.symm, fun x hx hw => by
    rw [qem, if_neg (by show x ≠ S.next; omega), qbk, if_neg hw]⟩
theorem TLo.weak {v : V} {l : List Bs} {M N : Nat} (h : TLo S v l N) (hM : M ≤ N) : TLo S v l M := by
 rcases h with h | ⟨r, h0, h1, h2, h3, h4⟩
 · exact .inl h
 · exact .inr ⟨r, h0, h1, h2, by omega, h4⟩
noncomputable def icy (S : St) (b e z n : Nat) (c : Tr (Tr V)) : St := S.put b (.cells e z n true c)
theorem icy_same {b e z n : Nat} {c : Tr (Tr V)} (h : S.heap.get b = some (.cells e z n false c)) (hb : b < S.next) : Fz.Same ⟨b, e, z, n, c⟩ (icy S b e z n c) S :=
 ⟨rfl, fun x hx => by show S.heap.get x = (S.put b _).heap.get x; rw [qbk, if_neg hx], by show (S.put b _).heap.get b = _; rw [qbk, if_pos rfl], h, hb⟩
theorem TL.icy {v : V} {l : List Bs} (h : TL S v l) {b e z n : Nat} {c : Tr (Tr V)} {m : List (Tr V)} (hb : RowAt S b e z m) (he : e ≠ 9) : TL (icy S b e z n c) v l :=
 h.grew (fun r _ _ hr hx => by subst hx; exact he (row_ne hb hr)) (qbu (s := S) b _)
theorem meet_ne {e f : LE} (h : e.b ≠ f.b) : meet e f = false := by
 unfold meet
 rw [show Nat.beq e.b f.b = false from by rw [Bool.eq_false_iff]; exact fun hb => h (Nat.eq_of_beq_eq_true hb)]; rfl
theorem meet_or {e f : LE} (h : e.b ≠ f.b ∨ (e.w = false ∧ f.w = false)) : meet e f = false := by
 rcases h with h | ⟨h1, h2⟩
 · exact meet_ne h
 · unfold meet
   rw [h1, h2]; cases Nat.beq e.b f.b <;> rfl
theorem clash1_or {e : LE} : ∀ {l : List LE}, (∀ f ∈ l, e.b ≠ f.b ∨ (e.w = false ∧ f.w = false)) → qiw e l = false
 | [], _ => rfl
 | f :: l, h => by
  unfold qiw
  rw [meet_or (h f (List.mem_cons_self ..))]
  exact clash1_or fun g hg => h g (List.mem_cons_of_mem _ hg)
theorem clash_or : ∀ {a b : List LE}, (∀ e ∈ a, ∀ f ∈ b, e.b ≠ f.b ∨ (e.w = false ∧ f.w = false)) → qkw a b = false
 | [], _, _ => rfl
 | e :: a, b, h => by
  unfold qkw
  rw [clash1_or (h e (List.mem_cons_self ..))]
  exact clash_or fun g hg => h g (List.mem_cons_of_mem _ hg)
theorem pairs_one {logs : List (List LE)} {i j b : Nat} {rest : List (Nat × List Nat)} (h1 : ∀ e ∈ qf7 i logs, e.w = false ∨ e.b ≠ b) (h2 : ∀ f ∈ qf7 j logs, f.w = false ∧ f.b = b) (h3 : qat logs rest = true) : qat logs ((i, [j]) :: rest) = true := by
 unfold qat
 have : qea (qf7 i logs) logs [j] = false := by
  unfold qea
  rw [clash_or fun e he f hf => ?_]
  · rfl
  · obtain ⟨f1, f2⟩ := h2 f hf
    rcases h1 e he with h | h
    · exact .inr ⟨h, f1⟩
    · exact .inl (by rw [f2]; exact h)
 rw [this]
 exact h3
theorem relog_any (ho : S.on = false) (U : St) (l : List LE) (ls : List (List LE)) : ∃ U', qaz S (U.lg l) ls = U' ∧ U'.heap = U.heap ∧ U'.next = U.next ∧ U'.on = false := by
 refine ⟨_, rfl, ?_, ?_, ?_⟩ <;> (unfold qaz; rw [ho]; rfl)
theorem Grew.same {W : Nat → Prop} {a b c : St} (h : Grew W a b) (h1 : c.heap = b.heap) (h2 : c.next = b.next) (h3 : c.on = b.on) : Grew W a c := ⟨by rw [h2]; exact h.next, h3.trans h.on, fun x hx hw => by rw [h1]; exact h.keep x hx hw⟩
theorem ons (S : St) : onS S = S.lg [] := rfl
theorem qie (S : St) (L M : List LE) : (S.lg L).lg M = S.lg M := rfl
def TV (v : V) (l : List Bs) : Prop := (l = [] ∧ (v = .nilslice ∨ v = .eslice)) ∨ v = .list 1 (l.map sv)
theorem TV.len {v : V} {l : List Bs} (h : TV v l) : lnS v S = some (.int .i64 (l.length : Int), S) := by
 rcases h with ⟨rfl, rfl | rfl⟩ | rfl
 · rfl
 · rfl
 · show some (V.int .i64 (Int.ofNat (l.map sv).length), S) = _
   rw [List.length_map]; rfl
theorem TV.ix {v : V} {l : List Bs} (h : TV v l) {i : Nat} {a : Bs} (ha : l[i]? = some a) : ixP 1 v (.int .i64 (i : Int)) = some (.cptr (sv a)) := by
 rcases h with ⟨rfl, _⟩ | rfl
 · simp at ha
 · show (bif Nat.beq 1 1 && Nat.blt 0 1 then ((l.map sv)[i]?).bind fun v => some (V.cptr v) else none) = _
   rw [List.getElem?_map, ha]; rfl
theorem TV.one {v : V} {l : List Bs} (h : TV v l) : OneV v := by
 rcases h with ⟨_, rfl | rfl⟩ | rfl <;> exact ⟨rfl, rfl, rfl, rfl⟩
theorem ldc (a : Bs) (S : St) : ld1 (.cptr (sv a)) S = some (sv a, S) := rfl
theorem und25 : und E0 25 = some (.slice 9) := by kernel_rfl
theorem size9 : Go.Proofs.Ytmeohejdafbodaa.Ev.sizeT E0 9 = some 1 := by kernel_rfl
def putB (s : Bs) : List Bs → List Bs
 | [] => [s]
 | x :: l => if x < s then x :: putB s l else if x = s then x :: l else s :: x :: l
def atB (s : Bs) : List Bs → Nat
 | [] => 0
 | x :: l => if x < s then atB s l + 1 else 0
theorem atB_le (s : Bs) : ∀ l : List Bs, atB s l ≤ l.length
 | [] => Nat.le_refl _
 | x :: l => by
  unfold atB
  split
  · have := atB_le s l; simp; omega
  · omega
theorem putB_at (s : Bs) : ∀ l : List Bs, putB s l = if l[atB s l]? = some s then l else l.take (atB s l) ++ [s] ++ l.drop (atB s l)
 | [] => by simp [putB, atB]
 | x :: l => by
  unfold putB atB
  by_cases h : x < s
  · rw [if_pos h, if_pos h, List.getElem?_cons_succ, putB_at s l]
    by_cases h2 : l[atB s l]? = some s
    · rw [if_pos h2, if_pos h2]
    · rw [if_neg h2, if_neg h2]; simp
  · rw [if_neg h, if_neg h, List.getElem?_cons_zero]
    by_cases h2 : x = s
    · rw [if_pos h2, if_pos (by rw [h2])]
    · rw [if_neg h2, if_neg (by simpa using h2)]; rfl
theorem mem_putB {s a : Bs} : ∀ {l : List Bs}, a ∈ putB s l ↔ a = s ∨ a ∈ l
 | [] => by simp [putB]
 | x :: l => by
  unfold putB
  split
  · rw [List.mem_cons, mem_putB, List.mem_cons]
    constructor
    · rintro (h | h | h) <;> simp [h]
    · rintro (h | h | h) <;> simp [h]
  · split
    · rename_i h; subst h; simp
    · simp
theorem putB_pw {s : Bs} : ∀ {l : List Bs}, l.Pairwise (· < ·) → (putB s l).Pairwise (· < ·)
 | [], _ => by simp [putB]
 | x :: l, h => by
  rw [List.pairwise_cons] at h
  unfold putB
  split
  · rename_i hlt
    refine List.pairwise_cons.2 ⟨fun z hz => ?_, putB_pw h.2⟩
    rcases mem_putB.1 hz with rfl | hz
    · exact hlt
    · exact h.1 z hz
  · rename_i hlt
    split
    · exact List.pairwise_cons.2 h
    · rename_i hne
      have hsx : s < x := by
       rcases List.le_iff_lt_or_eq.1 (List.not_lt.1 hlt) with h' | h'
       · exact h'
       · exact absurd h'.symm hne
      refine List.pairwise_cons.2 ⟨fun z hz => ?_, List.pairwise_cons.2 h⟩
      rcases List.mem_cons.1 hz with rfl | hz
      · exact hsx
      · exact List.lt_trans hsx (h.1 z hz)
theorem putB_len (s : Bs) : ∀ l : List Bs, (putB s l).length ≤ l.length + 1
 | [] => by simp [putB]
 | x :: l => by
  unfold putB
  split
  · have := putB_len s l; simp; omega
  · split <;> simp
theorem ltStr (c d : Bool) (a b : Bs) : qad E0 .lss 9 c d (sv a) (sv b) = some (.bool (decide (a < b))) := by
 rw [binV_ss]
 show some (V.bool (qh2 a.length a.length (qal a) b.length (qal b))) = _
 rw [qdl]
 congr 2
 rw [Bool.eq_iff_iff, decide_eq_true_eq]
 exact bless_iff
theorem sizeB_off (ho : S.on = false) {r e : Nat} {l : List (Tr V)} (h : RowAt S r e 1 l) : qht S r = some (l.length, S) := by
 obtain ⟨c, h1, _⟩ := h.row
 unfold qht
 rw [h1]
 simp only [show 1 * l.length = l.length from Nat.one_mul _, blt_true.2 h.len, cond_true, qax ho]
theorem slice_take (ho : S.on = false) {v : V} {l : List Bs} {N : Nat} (h : TLo S v l N) {k : Nat} (hk : k ≤ l.length) : ∃ y, qb4 E0 25 v none (some (.int .i64 (k : Int))) none S = some (y, S) ∧ TL S y (l.take k) := by
 rcases h with ⟨rfl, rfl⟩ | ⟨r, rfl, h1, h2, h3, h4⟩
 · have hk0 : k = 0 := by simpa using hk
   subst hk0
   refine ⟨.nilslice, ?_, .nil⟩
   unfold qb4
   rw [und25, oB]
   simp only
   rw [size9, oB]
   rfl
 · have hb : qbr l.length l.length none (some (.int .i64 (k : Int))) none = some (0, k, l.length) := by
    unfold qbr
    simp only [oB, natOf_cast]
    rw [ble_true.2 hk]; rfl
   refine ⟨.oslice r (0 + 0 * 1) (k - 0) 1, ?_, ?_⟩
   · unfold qb4
     rw [und25, oB]
     simp only
     rw [size9, oB, show (Nat.beq 1 1 && Nat.blt 0 1) = true from rfl, cond_true, sizeB_off ho h1, oB]
     simp only [qa6, Nat.sub_zero, Nat.div_one]
     rw [hb, oB]
     simp only
     rw [blt_true.2 h4]; rfl
   · have hl : (l.take k).length = k := by rw [List.length_take]; omega
     refine .inr ⟨r, 0, l, h1, h2, by rw [hl]; omega, by rw [hl, List.drop_zero], .inl ?_⟩
     rw [hl]; rfl
theorem slice_drop (ho : S.on = false) {v : V} {l : List Bs} {N : Nat} (h : TLo S v l N) {k : Nat} (hk : k ≤ l.length) : ∃ y, qb4 E0 25 v (some (.int .i64 (k : Int))) none none S = some (y, S) ∧ TL S y (l.drop k) := by
 rcases h with ⟨rfl, rfl⟩ | ⟨r, rfl, h1, h2, h3, h4⟩
 · have hk0 : k = 0 := by simpa using hk
   subst hk0
   refine ⟨.nilslice, ?_, .nil⟩
   unfold qb4
   rw [und25, oB]
   simp only
   rw [size9, oB]
   rfl
 · have hb : qbr l.length l.length (some (.int .i64 (k : Int))) none none = some (k, l.length, l.length) := by
    unfold qbr
    simp only [oB, natOf_cast]
    rw [ble_true.2 hk]; rfl
   have hs : qb4 E0 25 (.oslice r 0 l.length 1) (some (.int .i64 (k : Int))) none none S = (bif Nat.blt k l.length then some (V.oslice r (0 + k * 1) (l.length - k) 1, S) else bif Nat.beq k l.length then some (.eslice, S) else none) := by
    unfold qb4
    rw [und25, oB]
    simp only
    rw [size9, oB, show (Nat.beq 1 1 && Nat.blt 0 1) = true from rfl, cond_true, sizeB_off ho h1, oB]
    simp only [qa6, Nat.sub_zero, Nat.div_one]
    rw [hb, oB]
   rcases Nat.lt_or_ge k l.length with hlt | hge
   · refine ⟨.oslice r (0 + k * 1) (l.length - k) 1, by rw [hs, blt_true.2 hlt]; rfl, ?_⟩
     have hl : (l.drop k).length = l.length - k := by rw [List.length_drop]
     refine .inr ⟨r, k, l, h1, h2, by rw [hl]; omega, by rw [hl, List.take_of_length_le (by rw [List.length_drop]; exact Nat.le_refl _)], .inl ?_⟩
     rw [hl, Nat.mul_one, Nat.zero_add]
   · have e : k = l.length := by omega
     refine ⟨.eslice, by rw [hs, blt_false.2 hge, e, Nat.beq_refl]; rfl, .inl ⟨by rw [e, List.drop_length], .inr (.inl rfl)⟩⟩
theorem app_nil (ho : S.on = false) {y : V} {l : List Bs} (hy : TL S y l) (hl : l.length < 10000) : ∃ w U, apP 9 1 16 .nilslice y S = some (w, U) ∧ TLo U w l S.next ∧ Grew (fun _ => False) S U := by
 have hR := hy.rw ho
 have hap : apP 9 1 16 .nilslice y S = qcd 9 1 (qdt l).length .nilslice y S := by
  unfold apP
  rw [hR.1, oB, show lenV .nilslice = some 0 from rfl, oB, Nat.zero_add, blt_true.2 (show (qdt l).length * (16 + 1 + 1) < qac by rw [qa6]; unfold qac; omega), cond_true]
 rw [hap]
 unfold qcd
 rw [hR.2, oB]
 simp only
 cases l with
 | nil => exact ⟨_, S, rfl, .nil, Grew.refl _ _⟩
 | cons a l =>
  refine ⟨_, _, rfl, .inr ⟨S.next, by rw [qa6], qdz ho (by omega) (by rw [qa6]; unfold big; omega), by show S.next < S.next + 1; omega, Nat.le_refl _, by simp⟩, qch ho _ _⟩
theorem app_own (ho : S.on = false) {x y : V} {lx ly : List Bs} {N : Nat} (hx : TLo S x lx N) (hN : N ≤ S.next) (h0 : 0 < lx.length) (hy : TL S y ly) (h1 : lx.length < 10000) (h2 : ly.length < 10000) : ∃ w U, apP 9 1 16 x y S = some (w, U) ∧ TLo U w (lx ++ ly) N ∧ Grew (fun z => N ≤ z) S U := by
 rcases hx with ⟨rfl, _⟩ | ⟨r, rfl, hr, hr2, hr3, hr4⟩
 · cases h0
 · have hR := hy.rw ho
   cases ly with
   | nil =>
    have := app_none (e := 9) (B := 16) ho hr hR (by rw [qa6]; unfold qac; omega)
    rw [qa6] at this
    exact ⟨_, S, this, by rw [List.append_nil]; exact .inr ⟨r, rfl, hr, hr2, hr3, hr4⟩, Grew.refl _ _⟩
   | cons a ly =>
    obtain ⟨U, u1, u2, u3, u4⟩ := app_more (e := 9) (B := 16) ho hr hR (by simp [qdt]) (by rw [qa6, qa6]; unfold qac; omega) (by rw [qa6, qa6]; unfold big; omega)
    rw [qa6, qa6] at u1
    refine ⟨_, U, u1, .inr ⟨S.next, by rw [List.length_append], by rw [qgz]; exact u2, by omega, hN, by rw [List.length_append]; omega⟩, u3.mono fun z _ e => by subst e; exact hr3⟩
theorem nw_lg (ho : s.on = false) (l : List LE) (o : O) : nw (s.lg l) o = (nw s o).lg ({ b := s.next, lo := 0, hi := big, w := true } :: l) := by
 unfold nw
 rw [qax ho, note_lg]
 rfl
def stt (S : St) : Option (List LE) → St
 | none => S
 | some l => S.lg l
theorem und5 : und E0 5 = some (.int .u8) := by kernel_rfl
def kvB (kv : List (Int × V)) : List (V × V) := kv.map fun p => (.int .u8 p.1, p.2)
def kvS (kv : List (List UInt8 × Int)) : List (V × V) := kv.map fun p => (sv p.1, .int .i64 p.2)
def qhs (es : List ME) : List (V × V) := es.map fun e => (e.k, e.v)
def MapOk (es : List ME) (c : Nat) (kv : List (V × V)) : Prop := qhs es = kv ∧ qcl 0 es = true ∧ qby es 0 ≤ c
def MapAt (S : St) (r : Nat) (kv : List (V × V)) : Prop := ∃ es clock, S.heap.get r = some (.map es clock) ∧ MapOk es clock kv
theorem qks : ∀ (es : List ME) (m c : Nat) (k v : V), qcl m es = true → qby es m ≤ c → qcl m (es ++ [{ k := k, v := v, born := c }]) = true ∧ qby (es ++ [{ k := k, v := v, born := c }]) m = c + 1
 | [], m, c, k, v, _, h => by
  unfold qby at h
  refine ⟨?_, rfl⟩
  show (Nat.ble m c && true) = true
  rw [ble_true.2 h]; rfl
 | e :: es, m, c, k, v, h1, h2 => by
  unfold qcl at h1
  unfold qby at h2
  simp only [Bool.and_eq_true] at h1
  obtain ⟨q1, q2⟩ := qks es (e.born + 1) c k v h1.2 h2
  rw [List.cons_append]
  unfold qcl qby
  exact ⟨by rw [h1.1, q1]; rfl, q2⟩
theorem qnm (k v : V) : ∀ (i : Nat) (es : List ME) (m : Nat), qcl m (qet i k v es) = qcl m es ∧ qby (qet i k v es) m = qby es m
 | _, [], _ => ⟨rfl, rfl⟩
 | 0, e :: es, m => ⟨rfl, rfl⟩
 | i + 1, e :: es, m => by
  obtain ⟨h1, h2⟩ := qnm k v i es (e.born + 1)
  refine ⟨?_, h2⟩
  show (Nat.ble m e.born && qcl (e.born + 1) (qet i k v es)) = _
  rw [h1]; rfl
theorem stampsR_less : ∀ (es : List ME) (m m' : Nat), m ≤ m' → qcl m' es = true → qcl m es = true ∧ qby es m ≤ qby es m'
 | [], m, m', h, _ => ⟨rfl, h⟩
 | e :: es, m, m', h, h2 => by
  unfold qcl at h2 ⊢
  simp only [Bool.and_eq_true] at h2 ⊢
  exact ⟨⟨ble_true.2 (Nat.le_trans h (ble_true.1 h2.1)), h2.2⟩, Nat.le_refl _⟩
theorem qkr : ∀ (i : Nat) (es : List ME) (m : Nat), qcl m es = true → qcl m (qej i es) = true ∧ qby (qej i es) m ≤ qby es m
 | _, [], _, h => ⟨h, Nat.le_refl _⟩
 | 0, e :: es, m, h => by
  unfold qcl at h
  simp only [Bool.and_eq_true] at h
  exact stampsR_less es m (e.born + 1) (Nat.le_succ_of_le (ble_true.1 h.1)) h.2
 | i + 1, e :: es, m, h => by
  unfold qcl at h
  simp only [Bool.and_eq_true] at h
  obtain ⟨h1, h2⟩ := qkr i es (e.born + 1) h.2
  refine ⟨?_, h2⟩
  show (Nat.ble m e.born && qcl (e.born + 1) (qej i es)) = true
  rw [h.1, h1]; rfl
theorem MapOk.push {es : List ME} {c : Nat} {kv kv' : List (V × V)} (h : MapOk es c kv) (k v : V) (e : qhs (es ++ [{ k := k, v := v, born := c }]) = kv') : MapOk (es ++ [{ k := k, v := v, born := c }]) (c + 1) kv' :=
 let ⟨q1, q2⟩ := qks es 0 c k v h.2.1 h.2.2
 ⟨e, q1, by rw [q2]; exact Nat.le_refl _⟩
theorem MapOk.set {es : List ME} {c : Nat} {kv kv' : List (V × V)} (h : MapOk es c kv) (i : Nat) (k v : V) (e : qhs (qet i k v es) = kv') : MapOk (qet i k v es) c kv' :=
 let ⟨q1, q2⟩ := qnm k v i es 0
 ⟨e, q1.trans h.2.1, by rw [q2]; exact h.2.2⟩
theorem MapOk.drop {es : List ME} {c : Nat} {kv kv' : List (V × V)} (h : MapOk es c kv) (i : Nat) (e : qhs (qej i es) = kv') : MapOk (qej i es) c kv' :=
 let ⟨q1, q2⟩ := qkr i es 0 h.2.1
 ⟨e, q1, Nat.le_trans q2 h.2.2⟩
theorem MapOk.new : MapOk [] 0 [] := ⟨rfl, rfl, Nat.le_refl _⟩
theorem MapAt.grew {W : Nat → Prop} {T : St} {r : Nat} {kv : List (V × V)} (h : MapAt S r kv) (hr : r < S.next) (hw : ¬ W r) (g : Grew W S T) : MapAt T r kv := by
 obtain ⟨es, c, h1, h2⟩ := h
 exact ⟨es, c, by rw [g.keep r hr hw]; exact h1, h2⟩
def lkI (a : Int) : List (Int × V) → Option V
 | [] => none
 | p :: l => if a = p.1 then some p.2 else lkI a l
def lkS (a : List UInt8) : List (List UInt8 × Int) → Option Int
 | [] => none
 | p :: l => if a = p.1 then some p.2 else lkS a l
def ixI (a : Int) : List (Int × V) → Nat
 | [] => 0
 | p :: l => if a = p.1 then 0 else ixI a l + 1
def ixS_ (a : List UInt8) : List (List UInt8 × Int) → Nat
 | [] => 0
 | p :: l => if a = p.1 then 0 else ixS_ a l + 1
theorem mfind_u8 (a : Int) : ∀ (kv : List (Int × V)) (es : List ME) (i : Nat), qhs es = kvB kv → qfi (.int .u8 a) es i = some ((lkI a kv).map fun v => (i + ixI a kv, v))
 | [], es, i, h => by
  cases es with
  | nil => rfl
  | cons e es => simp [qhs, kvB] at h
 | p :: kv, [], i, h => by simp [qhs, kvB] at h
 | p :: kv, e :: es, i, h => by
  simp only [qhs, kvB, List.map_cons, List.cons.injEq, pM] at h
  obtain ⟨⟨h1, h2⟩, h3⟩ := h
  rw [qfi, h1]
  simp only [qc7, cond_true, qj4]
  unfold lkI ixI
  by_cases hc : a = p.1
  · rw [if_pos hc, if_pos hc, show (a == p.1) = true by simp [hc], cond_true, h2]; rfl
  · rw [if_neg hc, if_neg hc, show (a == p.1) = false from beq_false_of_ne hc, cond_false, mfind_u8 a kv es (i + 1) h3]
    cases lkI a kv with
    | none => rfl
    | some v => simp only [Option.map_some, show i + 1 + ixI a kv = i + (ixI a kv + 1) by omega]
theorem qja (a : List UInt8) : ∀ (kv : List (List UInt8 × Int)) (es : List ME) (i : Nat), qhs es = kvS kv → qfi (sv a) es i = some ((lkS a kv).map fun v => (i + ixS_ a kv, .int .i64 v))
 | [], es, i, h => by
  cases es with
  | nil => rfl
  | cons e es => simp [qhs, kvS] at h
 | p :: kv, [], i, h => by simp [qhs, kvS] at h
 | p :: kv, e :: es, i, h => by
  simp only [qhs, kvS, List.map_cons, List.cons.injEq, pM] at h
  obtain ⟨⟨h1, h2⟩, h3⟩ := h
  have hm : qfi (sv a) (e :: es) i = bif a == p.1 then some (some (i, e.v)) else qfi (sv a) es (i + 1) := by
   show (match e.k with | .str l' b => bif sEq a.length (qal a) l' b then some (some (i, e.v)) else qfi (sv a) es (i + 1) | _ => none) = _
   rw [h1]
   show (bif sEq a.length (qal a) p.1.length (qal p.1) then some (some (i, e.v)) else qfi (sv a) es (i + 1)) = _
   rw [qkq]
  rw [hm]
  unfold lkS ixS_
  by_cases hc : a = p.1
  · rw [if_pos hc, if_pos hc, show (a == p.1) = true by simp [hc], cond_true, h2]; rfl
  · rw [if_neg hc, if_neg hc, show (a == p.1) = false from beq_false_of_ne hc, cond_false, qja a kv es (i + 1) h3]
    cases lkS a kv with
    | none => rfl
    | some v => simp only [Option.map_some, show i + 1 + ixS_ a kv = i + (ixS_ a kv + 1) by omega]
theorem qj3 (ho : S.on = false) {r : Nat} {o : O} (h : S.heap.get r = some o) (m : Option (List LE)) : qg1 (stt S m) r = some (o, stt S (m.map fun l => ⟨r, 0, big, false⟩ :: l)) := by
 cases m with
 | none => exact qhd ho h
 | some l =>
  show qg1 (S.lg l) r = _
  unfold qg1
  rw [show (S.lg l).heap.get r = some o from h]
  rfl
theorem qjl (ho : S.on = false) (r : Nat) (o : O) (m : Option (List LE)) : setO (stt S m) r o = stt (S.put r o) (m.map fun l => ⟨r, 0, big, true⟩ :: l) := by
 cases m with
 | none => exact qhk ho r o
 | some l => rfl
theorem und31 : und E0 31 = some (.map 9 3) := by kernel_rfl
theorem und9' : und E0 9 = some .string := by kernel_rfl
def setKI (a : Int) (v : V) : List (Int × V) → List (Int × V)
 | [] => [(a, v)]
 | p :: l => if a = p.1 then (a, v) :: l else p :: setKI a v l
def setKS (a : List UInt8) (v : Int) : List (List UInt8 × Int) → List (List UInt8 × Int)
 | [] => [(a, v)]
 | p :: l => if a = p.1 then (a, v) :: l else p :: setKS a v l
def dropKS (a : List UInt8) : List (List UInt8 × Int) → List (List UInt8 × Int)
 | [] => []
 | p :: l => if a = p.1 then l else p :: dropKS a l
theorem setME_u8 (a : Int) (v : V) : ∀ (kv : List (Int × V)) (es : List ME), qhs es = kvB kv → ∀ w, lkI a kv = some w → qhs (qet (ixI a kv) (.int .u8 a) v es) = kvB (setKI a v kv)
 | [], es, h, w, hw => by simp [lkI] at hw
 | p :: kv, [], h, w, hw => by simp [qhs, kvB] at h
 | p :: kv, e :: es, h, w, hw => by
  simp only [qhs, kvB, List.map_cons, List.cons.injEq, pM] at h
  obtain ⟨⟨h1, h2⟩, h3⟩ := h
  unfold ixI setKI
  unfold lkI at hw
  by_cases hc : a = p.1
  · rw [if_pos hc, if_pos hc]
    show (V.int .u8 a, v) :: qhs es = _
    rw [show qhs es = kvB kv from h3]; rfl
  · rw [if_neg hc, if_neg hc]
    rw [if_neg hc] at hw
    unfold qet
    rw [show Nat.beq (ixI a kv + 1) 0 = false from rfl, cond_false, Nat.add_sub_cancel]
    show (e.k, e.v) :: qhs _ = (V.int .u8 p.1, p.2) :: kvB _
    rw [h1, h2, setME_u8 a v kv es h3 w hw]
theorem setME_str (a : List UInt8) (v : Int) : ∀ (kv : List (List UInt8 × Int)) (es : List ME), qhs es = kvS kv → ∀ w, lkS a kv = some w → qhs (qet (ixS_ a kv) (sv a) (.int .i64 v) es) = kvS (setKS a v kv)
 | [], es, h, w, hw => by simp [lkS] at hw
 | p :: kv, [], h, w, hw => by simp [qhs, kvS] at h
 | p :: kv, e :: es, h, w, hw => by
  simp only [qhs, kvS, List.map_cons, List.cons.injEq, pM] at h
  obtain ⟨⟨h1, h2⟩, h3⟩ := h
  unfold ixS_ setKS
  unfold lkS at hw
  by_cases hc : a = p.1
  · rw [if_pos hc, if_pos hc]
    show (sv a, V.int .i64 v) :: qhs es = _
    rw [show qhs es = kvS kv from h3]; rfl
  · rw [if_neg hc, if_neg hc]
    rw [if_neg hc] at hw
    unfold qet
    rw [show Nat.beq (ixS_ a kv + 1) 0 = false from rfl, cond_false, Nat.add_sub_cancel]
    show (e.k, e.v) :: qhs _ = (sv p.1, V.int .i64 p.2) :: kvS _
    rw [h1, h2, setME_str a v kv es h3 w hw]
theorem setKI_none (a : Int) (v : V) : ∀ kv, lkI a kv = none → setKI a v kv = kv ++ [(a, v)]
 | [], _ => rfl
 | p :: kv, h => by
  unfold lkI at h
  unfold setKI
  by_cases hc : a = p.1
  · rw [if_pos hc] at h; cases h
  · rw [if_neg hc] at h ⊢
    rw [setKI_none a v kv h]; rfl
theorem setKS_none (a : List UInt8) (v : Int) : ∀ kv, lkS a kv = none → setKS a v kv = kv ++ [(a, v)]
 | [], _ => rfl
 | p :: kv, h => by
  unfold lkS at h
  unfold setKS
  by_cases hc : a = p.1
  · rw [if_pos hc] at h; cases h
  · rw [if_neg hc] at h ⊢
    rw [setKS_none a v kv h]; rfl
theorem dropME_str (a : List UInt8) : ∀ (kv : List (List UInt8 × Int)) (es : List ME), qhs es = kvS kv → ∀ w, lkS a kv = some w → qhs (qej (ixS_ a kv) es) = kvS (dropKS a kv)
 | [], es, h, w, hw => by simp [lkS] at hw
 | p :: kv, [], h, w, hw => by simp [qhs, kvS] at h
 | p :: kv, e :: es, h, w, hw => by
  simp only [qhs, kvS, List.map_cons, List.cons.injEq, pM] at h
  obtain ⟨⟨h1, h2⟩, h3⟩ := h
  unfold ixS_ dropKS
  unfold lkS at hw
  by_cases hc : a = p.1
  · rw [if_pos hc, if_pos hc]
    exact h3
  · rw [if_neg hc, if_neg hc]
    rw [if_neg hc] at hw
    unfold qej
    rw [show Nat.beq (ixS_ a kv + 1) 0 = false from rfl, cond_false, Nat.add_sub_cancel]
    show (e.k, e.v) :: qhs _ = (sv p.1, V.int .i64 p.2) :: kvS _
    rw [h1, h2, dropME_str a kv es h3 w hw]
theorem qjp (T : St) (m : Option (List LE)) (f g : List LE → List LE) : stt T ((m.map f).map g) = stt T (m.map fun l => g (f l)) := by cases m <;> rfl
theorem upd_u8 (ho : S.on = false) {t et : TypeId} (ht : und E0 t = some (.map 5 et)) {r : Nat} {kv : List (Int × V)} (h : MapAt S r (kvB kv)) (a : Int) (v : V) : ∃ es c, MapOk es c (kvB (setKI a v kv)) ∧ ∀ m, qbn E0 t (.map r) (.int .u8 a) v (stt S m) = some (stt (S.put r (.map es c)) (m.map fun l => ⟨r, 0, big, true⟩ :: ⟨r, 0, big, false⟩ :: l)) := by
 obtain ⟨es, c, h1, hok⟩ := h
 have h2 := hok.1
 have hu : ∀ m, qbn E0 t (.map r) (.int .u8 a) v (stt S m) = (qfi (.int .u8 a) es 0).bind fun
  | some (i, _) => some (setO (stt S (m.map fun l => ⟨r, 0, big, false⟩ :: l)) r (.map (qet i (.int .u8 a) v es) c))
  | none => some (setO (stt S (m.map fun l => ⟨r, 0, big, false⟩ :: l)) r (.map (es ++ [{ k := .int .u8 a, v := v, born := c }]) (c + 1))) := fun m => by
  unfold qbn
  rw [ht, oB]
  simp only
  rw [und5, oB]
  simp only [qgm, cond_true]
  rw [qj3 ho h1 m, oB]
  rfl
 rw [mfind_u8 a kv es 0 h2] at hu
 cases hl : lkI a kv with
 | none =>
  refine ⟨es ++ [{ k := .int .u8 a, v := v, born := c }], c + 1, hok.push _ _ ?_, fun m => ?_⟩
  · rw [setKI_none a v kv hl]
    unfold qhs kvB at h2 ⊢
    rw [List.map_append, List.map_append, h2]; rfl
  · rw [hu m, hl]
    show some (setO _ _ _) = _
    rw [qjl ho, qjp]
 | some w =>
  refine ⟨qet (ixI a kv) (.int .u8 a) v es, c, hok.set _ _ _ (setME_u8 a v kv es h2 w hl), fun m => ?_⟩
  rw [hu m, hl]
  show some (setO _ _ (.map (qet (0 + ixI a kv) _ _ _) _)) = _
  rw [qjl ho, Nat.zero_add, qjp]
theorem upd_str (ho : S.on = false) {r : Nat} {kv : List (List UInt8 × Int)} (h : MapAt S r (kvS kv)) (a : List UInt8) (v : Int) : ∃ es c, MapOk es c (kvS (setKS a v kv)) ∧ ∀ m, qbn E0 31 (.map r) (sv a) (.int .i64 v) (stt S m) = some (stt (S.put r (.map es c)) (m.map fun l => ⟨r, 0, big, true⟩ :: ⟨r, 0, big, false⟩ :: l)) := by
 obtain ⟨es, c, h1, hok⟩ := h
 have h2 := hok.1
 have hu : ∀ m, qbn E0 31 (.map r) (sv a) (.int .i64 v) (stt S m) = (qfi (sv a) es 0).bind fun
  | some (i, _) => some (setO (stt S (m.map fun l => ⟨r, 0, big, false⟩ :: l)) r (.map (qet i (sv a) (.int .i64 v) es) c))
  | none => some (setO (stt S (m.map fun l => ⟨r, 0, big, false⟩ :: l)) r (.map (es ++ [{ k := sv a, v := .int .i64 v, born := c }]) (c + 1))) := fun m => by
  unfold qbn
  rw [und31, oB]
  simp only
  rw [und9', oB]
  simp only [sv, qgm, cond_true]
  rw [qj3 ho h1 m, oB]
  rfl
 rw [qja a kv es 0 h2] at hu
 cases hl : lkS a kv with
 | none =>
  refine ⟨es ++ [{ k := sv a, v := .int .i64 v, born := c }], c + 1, hok.push _ _ ?_, fun m => ?_⟩
  · rw [setKS_none a v kv hl]
    unfold qhs kvS at h2 ⊢
    rw [List.map_append, List.map_append, h2]; rfl
  · rw [hu m, hl]
    show some (setO _ _ _) = _
    rw [qjl ho, qjp]
 | some w =>
  refine ⟨qet (ixS_ a kv) (sv a) (.int .i64 v) es, c, hok.set _ _ _ (setME_str a v kv es h2 w hl), fun m => ?_⟩
  rw [hu m, hl]
  show some (setO _ _ (.map (qet (0 + ixS_ a kv) _ _ _) _)) = _
  rw [qjl ho, Nat.zero_add, qjp]
theorem del_str (ho : S.on = false) {r : Nat} {kv : List (List UInt8 × Int)} (h : MapAt S r (kvS kv)) (a : List UInt8) {w : Int} (hl : lkS a kv = some w) : ∃ es c, MapOk es c (kvS (dropKS a kv)) ∧ ∀ m, qdf E0 31 (.map r) (sv a) (stt S m) = some (stt (S.put r (.map es c)) (m.map fun l => ⟨r, 0, big, true⟩ :: ⟨r, 0, big, false⟩ :: l)) := by
 obtain ⟨es, c, h1, hok⟩ := h
 have h2 := hok.1
 refine ⟨qej (ixS_ a kv) es, c, hok.drop _ (dropME_str a kv es h2 w hl), fun m => ?_⟩
 unfold qdf
 rw [und31, oB]
 simp only
 rw [und9', oB]
 simp only [sv, qgm, cond_true]
 rw [qj3 ho h1 m, oB]
 simp only
 have hm := qja a kv es 0 h2
 unfold sv at hm
 rw [hm, hl]
 show some (setO _ _ (.map (qej (0 + ixS_ a kv) _) _)) = _
 rw [qjl ho, Nat.zero_add, qjp]
theorem mapAt_put (r : Nat) {es : List ME} {c : Nat} {kv : List (V × V)} (h : MapOk es c kv) : MapAt (S.put r (.map es c)) r kv := ⟨es, c, by rw [qbk, if_pos rfl], h⟩
theorem lnMap_of (ho : S.on = false) {r : Nat} {kv : List (V × V)} (h : MapAt S r kv) : lnMap (.map r) S = some (.int .i64 (kv.length : Int), S) := by
 obtain ⟨es, c, h1, hok⟩ := h
 have h2 := hok.1
 have hl : es.length = kv.length := by rw [← h2]; exact (List.length_map ..).symm
 unfold lnMap
 simp only
 rw [qhd ho h1]
 simp only [oB, hl]
 rfl
end
theorem glob0 : ∀ g, E0.glob.get g = none := fun _ => rfl
theorem works_runs : saysTrue ((ev E0 (fun _ => none) 400).f 10 [] s0) = true := by decide +kernel
theorem kn10 : KnWell Try.prog E0 10 kfTrue := by
 refine ⟨qk7, fun w0 ρ s w args cargs e t hR hv hg => ?_⟩
 unfold kfTrue qcs at hg
 simp only at hg
 by_cases hx : ∃ x : Unit, ([] : List V) = args
 · rw [dif_pos hx] at hg
   simp only [oS, pM] at hg
   obtain ⟨rfl, rfl⟩ := hg
   obtain ⟨_, rfl⟩ := hx
   obtain ⟨l⟩ := cargs
   cases hv
   exact (closed_walk qlj knOk_nil glob0 works_runs w).mono fun ce w' ⟨h1, h2⟩ => ⟨ρ, .bool true, h1, Rho.le_refl ρ, .bool true, hR.grown h2⟩
 · rw [dif_neg hx] at hg; cases hg
noncomputable def K1 := qd8 (fun _ => none) 75 kfDeep
theorem ok1 : KnOk Try.prog E0 K1 := knOk_nil.add (kn70 knOk_nil)
noncomputable def K2 := qd8 K1 73 kfDeep
theorem ok2 : KnOk Try.prog E0 K2 := ok1.add (kn57 ok1)
noncomputable def K3 := qd8 K2 42 (qb3 qkx)
theorem ok3 : KnOk Try.prog E0 K3 := ok2.add (kn58 ok2 rfl)
noncomputable def K4 := qd8 K3 36 (qb3 qkx)
theorem ok4 : KnOk Try.prog E0 K4 := ok3.add (kn34 ok3 rfl)
noncomputable def K5 := qd8 K4 24 (qb3 qdh)
theorem ok5 : KnOk Try.prog E0 K5 := ok4.add (kn35 ok4 rfl)
noncomputable def K6 := qd8 K5 51 (qb3 gSize)
theorem ok6 : KnOk Try.prog E0 K6 := ok5.add (kn38 ok5 rfl)
noncomputable def K7 := qd8 K6 26 (qb3 qev)
theorem ok7 : KnOk Try.prog E0 K7 := ok6.add (kn17 ok6 rfl rfl)
noncomputable def K8 := qd8 K7 38 (qb3 qev)
theorem ok8 : KnOk Try.prog E0 K8 := ok7.add (kn45 ok7 rfl)
noncomputable def K9 := qd8 K8 74 (qhy qgi)
theorem ok9 : KnOk Try.prog E0 K9 := ok8.add (kn68 ok8)
noncomputable def K10 := qd8 K9 37 (qb3 gMay)
theorem ok10 : KnOk Try.prog E0 K10 := ok9.add (kn44 ok9 rfl)
noncomputable def K11 := qd8 K10 47 kfIndexByte
theorem ok11 : KnOk Try.prog E0 K11 := ok10.add (kn63 ok10 rfl)
noncomputable def K12 := qd8 K11 99 kfIndexRune
theorem ok12 : KnOk Try.prog E0 K12 := ok11.add (kn78 ok11 rfl rfl)
noncomputable def K13 := qd8 K12 79 kfAny
theorem ok13 : KnOk Try.prog E0 K13 := ok12.add (kn74 ok12 rfl rfl rfl rfl rfl)
noncomputable def K14 := qd8 K13 50 (qhy qgi)
theorem ok14 : KnOk Try.prog E0 K14 := ok13.add (kn66 ok13 rfl)
noncomputable def K15 := qd8 K14 25 (qb3 gMay)
theorem ok15 : KnOk Try.prog E0 K15 := ok14.add (kn36 ok14 rfl rfl rfl rfl rfl rfl rfl rfl rfl rfl rfl)
noncomputable def K16 := qd8 K15 11 (qb3 qhx)
theorem ok16 : KnOk Try.prog E0 K16 := ok15.add (kn15 ok15 rfl rfl rfl)
noncomputable def K17 := qd8 K16 18 (qb3 qhx)
theorem ok17 : KnOk Try.prog E0 K17 := ok16.add (kn21 ok16 rfl rfl rfl)
noncomputable def K18 := qd8 K17 6 kfShort
theorem ok18 : KnOk Try.prog E0 K18 := ok17.add (kn8 ok17)
noncomputable def K19 := qd8 K18 17 kfSort
theorem ok19 : KnOk Try.prog E0 K19 := ok18.add (sort_well (sortOk_of Try.sort17))
noncomputable def KD := qd8 K19 10 kfTrue
theorem okD : KnOk Try.prog E0 KD := ok19.add kn10
theorem rd7 {n : Nat} {args : List V} {s : St} {r : En × St} (e : qc0 E0 (ev E0 KD n) qa1 Try.f7 B7 args s = some r) : (ev E0 KD (n + 1)).f 7 args s = some r := qar (c := C7) (d := B7) (by kernel_rfl) (by kernel_rfl) (qa3 C7 _ (by kernel_rfl)) rfl e
theorem rd8 {n : Nat} {args : List V} {s : St} {r : En × St} (e : qc0 E0 (ev E0 KD n) qa1 Try.f8 B8 args s = some r) : (ev E0 KD (n + 1)).f 8 args s = some r := qar (c := C8) (d := B8) (by kernel_rfl) (by kernel_rfl) (qa3 C8 _ (by kernel_rfl)) rfl e
theorem rd9 {n : Nat} {args : List V} {s : St} {r : En × St} (e : qc0 E0 (ev E0 KD n) qa1 Try.f9 B9 args s = some r) : (ev E0 KD (n + 1)).f 9 args s = some r := qar (c := C9) (d := B9) (by kernel_rfl) (by kernel_rfl) (qa3 C9 _ (by kernel_rfl)) rfl e
theorem rd14 {n : Nat} {args : List V} {s : St} {r : En × St} (e : qc0 E0 (ev E0 KD n) qa1 Try.f14 B14 args s = some r) : (ev E0 KD (n + 1)).f 14 args s = some r := qar (c := C14) (d := B14) (by kernel_rfl) (by kernel_rfl) (qa3 C14 _ (by kernel_rfl)) rfl e
theorem rd15 {n : Nat} {args : List V} {s : St} {r : En × St} (e : qc0 E0 (ev E0 KD n) qa1 Try.f15 B15 args s = some r) : (ev E0 KD (n + 1)).f 15 args s = some r := qar (c := C15) (d := B15) (by kernel_rfl) (by kernel_rfl) (qa3 C15 _ (by kernel_rfl)) rfl e
theorem rd16 {n : Nat} {args : List V} {s : St} {r : En × St} (e : qc0 E0 (ev E0 KD n) qa1 Try.f16 B16 args s = some r) : (ev E0 KD (n + 1)).f 16 args s = some r := qar (c := C16) (d := B16) (by kernel_rfl) (by kernel_rfl) (qa3 C16 _ (by kernel_rfl)) rfl e
theorem rd19 {n : Nat} {args : List V} {s : St} {r : En × St} (e : qc0 E0 (ev E0 KD n) qa1 Try.f19 B19 args s = some r) : (ev E0 KD (n + 1)).f 19 args s = some r := qar (c := C19) (d := B19) (by kernel_rfl) (by kernel_rfl) (qa3 C19 _ (by kernel_rfl)) rfl e
theorem rd20 {n : Nat} {args : List V} {s : St} {r : En × St} (e : qc0 E0 (ev E0 KD n) qa1 Try.f20 B20 args s = some r) : (ev E0 KD (n + 1)).f 20 args s = some r := qar (c := C20) (d := B20) (by kernel_rfl) (by kernel_rfl) (qa3 C20 _ (by kernel_rfl)) rfl e
theorem rd30 {n : Nat} {args : List V} {s : St} {r : En × St} (e : qc0 E0 (ev E0 KD n) qa1 Try.f30 B30 args s = some r) : (ev E0 KD (n + 1)).f 30 args s = some r := qar (c := C30) (d := B30) (by kernel_rfl) (by kernel_rfl) (qa3 C30 _ (by kernel_rfl)) rfl e
theorem rd31 {n : Nat} {args : List V} {s : St} {r : En × St} (e : qc0 E0 (ev E0 KD n) qa1 Try.f31 B31 args s = some r) : (ev E0 KD (n + 1)).f 31 args s = some r := qar (c := C31) (d := B31) (by kernel_rfl) (by kernel_rfl) (qa3 C31 _ (by kernel_rfl)) rfl e
theorem rd32 {n : Nat} {args : List V} {s : St} {r : En × St} (e : qc0 E0 (ev E0 KD n) qa1 Try.f32 B32 args s = some r) : (ev E0 KD (n + 1)).f 32 args s = some r := qar (c := C32) (d := B32) (by kernel_rfl) (by kernel_rfl) (qa3 C32 _ (by kernel_rfl)) rfl e
theorem rd33 {n : Nat} {args : List V} {s : St} {r : En × St} (e : qc0 E0 (ev E0 KD n) qa1 Try.f33 B33 args s = some r) : (ev E0 KD (n + 1)).f 33 args s = some r := qar (c := C33) (d := B33) (by kernel_rfl) (by kernel_rfl) (qa3 C33 _ (by kernel_rfl)) rfl e
theorem rd39 {n : Nat} {args : List V} {s : St} {r : En × St} (e : qc0 E0 (ev E0 KD n) qa1 Try.f39 B39 args s = some r) : (ev E0 KD (n + 1)).f 39 args s = some r := qar (c := C39) (d := B39) (by kernel_rfl) (by kernel_rfl) (qa3 C39 _ (by kernel_rfl)) rfl e
theorem rd40 {n : Nat} {args : List V} {s : St} {r : En × St} (e : qc0 E0 (ev E0 KD n) qa1 Try.f40 B40 args s = some r) : (ev E0 KD (n + 1)).f 40 args s = some r := qar (c := C40) (d := B40) (by kernel_rfl) (by kernel_rfl) (qa3 C40 _ (by kernel_rfl)) rfl e
theorem rd41 {n : Nat} {args : List V} {s : St} {r : En × St} (e : qc0 E0 (ev E0 KD n) qa1 Try.f41 B41 args s = some r) : (ev E0 KD (n + 1)).f 41 args s = some r := qar (c := C41) (d := B41) (by kernel_rfl) (by kernel_rfl) (qa3 C41 _ (by kernel_rfl)) rfl e
theorem rd56 {n : Nat} {args : List V} {s : St} {r : En × St} (e : qc0 E0 (ev E0 KD n) qa1 Try.f56 B56 args s = some r) : (ev E0 KD (n + 1)).f 56 args s = some r := qar (c := C56) (d := B56) (by kernel_rfl) (by kernel_rfl) (qa3 C56 _ (by kernel_rfl)) rfl e
theorem rd57 {n : Nat} {args : List V} {s : St} {r : En × St} (e : qc0 E0 (ev E0 KD n) qa1 Try.f57 B57 args s = some r) : (ev E0 KD (n + 1)).f 57 args s = some r := qar (c := C57) (d := B57) (by kernel_rfl) (by kernel_rfl) (qa3 C57 _ (by kernel_rfl)) rfl e
theorem rd61 {n : Nat} {args : List V} {s : St} {r : En × St} (e : qc0 E0 (ev E0 KD n) qa1 Try.f61 B61 args s = some r) : (ev E0 KD (n + 1)).f 61 args s = some r := qar (c := C61) (d := B61) (by kernel_rfl) (by kernel_rfl) (qa3 C61 _ (by kernel_rfl)) rfl e
section
variable {S T U : St}
def ltrs : Bs := [48, 49, 50, 51, 52, 53, 54, 55, 56, 57, 97, 98, 99, 100, 102, 103, 104, 105, 106, 107, 108, 109, 110, 112, 113, 114, 115, 118, 119, 120, 121, 122]
theorem ltrs_len : ltrs.length = 32 := rfl
def isH (h : Bs) : Bool := decide (h.length = 32) && h.all fun c => ltrs.contains c
theorem isH_len {h : Bs} (e : isH h = true) : h.length = 32 := of_decide_eq_true (Bool.and_eq_true_iff.1 e).1
theorem qbp (l : Bs) : qcz (sv l) S = some (.int .i64 (l.length : Int), S) := lnStr_sv l
theorem und82 : und E0 82 = some (.map 5 3) := by kernel_rfl
theorem qmq (a b : Nat) : qad E0 .lss 3 false false (.int .i64 (a : Int)) (.int .i64 (b : Int)) = some (.bool (decide (a < b))) := by
 rw [binV_ii, intsV_lss]
 congr 2
 simp
theorem qk9 {i : Nat} (h : i < 9223372036854775807) : qad E0 .add 3 false true (.int .i64 (i : Int)) (.int .i64 1) = some (.int .i64 ((i + 1 : Nat) : Int)) := by
 rw [binV_ii, intsV_add, qbl h]
theorem look_u8t (ho : S.on = false) {t et : TypeId} {z : V} (ht : und E0 t = some (.map 5 et)) (hz : qgb E0 et = some z) {r : Nat} {kv : List (Int × V)} (h : MapAt S r (kvB kv)) (a : Int) :
 qcu E0 t (.map r) (.int .u8 a) true S = some (.tuple [(lkI a kv).getD z, .bool (lkI a kv).isSome], S) := by
 obtain ⟨es, c, h1, h2, _⟩ := h
 unfold qcu
 rw [ht, oB]
 simp only
 rw [und5, oB]
 simp only [qgm, cond_true]
 have hg := qj3 ho h1 none
 rw [show stt S none = S from rfl] at hg
 rw [hg, oB]
 simp only
 rw [oB]
 dsimp only
 rw [mfind_u8 a kv es 0 h2, oB]
 cases lkI a kv with
 | none => simp only [Option.map_none]; rw [hz]; rfl
 | some v => rfl
theorem lkI_setI (i : Int) (w : V) (j : Int) : ∀ kv, lkI j (setKI i w kv) = if j = i then some w else lkI j kv
 | [] => by show (if j = i then some w else none) = _; rfl
 | p :: kv => by
  unfold setKI
  by_cases hc : i = p.1
  · rw [if_pos hc]
    show (if j = i then some w else lkI j kv) = if j = i then some w else if j = p.1 then some p.2 else lkI j kv
    by_cases hj : j = i
    · rw [if_pos hj, if_pos hj]
    · rw [if_neg hj, if_neg hj, if_neg (fun e => hj (e.trans hc.symm))]
  · rw [if_neg hc]
    show (if j = p.1 then some p.2 else lkI j (setKI i w kv)) = if j = i then some w else if j = p.1 then some p.2 else lkI j kv
    rw [lkI_setI i w j kv]
    by_cases hj : j = p.1
    · rw [if_pos hj, if_pos hj, if_neg (fun e => hc (e.symm.trans hj))]
    · rw [if_neg hj, if_neg hj]
def Keys (S : St) (r : Nat) (l : Bs) : Prop := r < S.next ∧ ∃ kv, MapAt S r (kvB kv) ∧ ∀ a : UInt8, (lkI (a.toNat : Int) kv).isSome = l.contains a
theorem Keys.grew {W : Nat → Prop} {r : Nat} {l : Bs} (h : Keys S r l) (hw : ¬ W r) (g : Grew W S T) : Keys T r l := by
 obtain ⟨h1, kv, h2, h3⟩ := h
 exact ⟨Nat.lt_of_lt_of_le h1 g.next, kv, h2.grew h1 hw g, h3⟩
theorem Keys.put {r : Nat} {l : Bs} (h : Keys S r l) (ho : S.on = false) (c : UInt8) (v : V) : ∃ U, vu (qbn E0 82 (.map r) (.int .u8 (c.toNat : Int)) v S) = some (.tuple [], U) ∧ Keys U r (l ++ [c]) ∧ Grew (fun x => x = r) S U := by
 obtain ⟨h1, kv, h2, h3⟩ := h
 obtain ⟨es, k, k1, k2⟩ := upd_u8 ho und82 h2 (c.toNat : Int) v
 have hu := k2 none
 refine ⟨S.put r (.map es k), ?_, ⟨h1, setKI (c.toNat : Int) v kv, ⟨es, k, by rw [qbk, if_pos rfl], k1⟩, fun a => ?_⟩, qbu _ _⟩
 · rw [show qbn E0 82 (.map r) (.int .u8 (c.toNat : Int)) v S = _ from hu]; rfl
 · rw [lkI_setI]
   by_cases e : a = c
   · subst e; simp
   · have : ¬ ((a.toNat : Int) = (c.toNat : Int)) := fun q => e (UInt8.toNat_inj.1 (Int.ofNat_inj.1 q))
     rw [if_neg this, h3 a]
     simp [List.contains_iff_mem, e]
theorem L56_spec {self : EV} {N : Nat} (nk : Ac → St → Rs) (ek : Nat → Ac → St → Rs) {r : Nat} : ∀ (k i n : Nat) (S : St), S.on = false → i + k = 32 → k < n → Keys S r (ltrs.take i) →
 ∃ U, L56_7 self N nk ek n (.map r) (.int .i64 (i : Int)) S = ek 0 (fr 13 [(1, .map r)]) U ∧ Keys U r ltrs ∧ Grew (fun x => x = r) S U
 | _, _, 0, _, _, _, hn, _ => by omega
 | 0, i, n + 1, S, ho, hi, _, hK => by
  refine ⟨S, ?_, ?_, Grew.refl _ _⟩
  · rw [L56_7_eq, show V.int .i64 32 = .int .i64 ((32 : Nat) : Int) from rfl, binV_ii, intsV_lss, qgf (by omega), oB, ifK_bool, cond_false]
  · rwa [List.take_of_length_le (by rw [ltrs_len]; omega)] at hK
 | k + 1, i, n + 1, S, ho, hi, hn, hK => by
  have hl : i < ltrs.length := by rw [ltrs_len]; omega
  obtain ⟨U1, a1, a2, a3⟩ := hK.put ho ltrs[i] (.int .i64 (i : Int))
  rw [← take_push hl] at a2
  obtain ⟨U, b1, b2, b3⟩ := L56_spec (self := self) (N := N) nk ek k (i + 1) n U1 (a3.on.trans ho) (by omega) (by omega) a2
  refine ⟨U, ?_, b2, a3.trans b3⟩
  rw [L56_7_eq, show V.int .i64 32 = .int .i64 ((32 : Nat) : Int) from rfl, binV_ii, intsV_lss, qg0 (by omega), oB, ifK_bool, cond_true]
  have hx : ixS (sv [48, 49, 50, 51, 52, 53, 54, 55, 56, 57, 97, 98, 99, 100, 102, 103, 104, 105, 106, 107, 108, 109, 110, 112, 113, 114, 115, 118, 119, 120, 121, 122]) (.int .i64 (i : Int)) = some (.int .u8 (ltrs[i].toNat : Int)) := qg3 ltrs .i64 i hl
  rw [hx, oB, a1, oB]
  dsimp only
  rw [qk9 (by omega), oB, b1]
theorem f56_run (m : Nat) (S : St) (ho : S.on = false) : ∃ U r, (ev E0 KD (m + 1)).f 56 [] S = some (.ret (.map r), U) ∧ Keys U r ltrs ∧ S.next ≤ r ∧ Grew (fun _ => False) S U := by
 have g1 : Grew (fun _ => False) S (nw S (.map [] 0)) := qch ho _ _
 have k1 : Keys (nw S (.map [] 0)) S.next (ltrs.take 0) := ⟨by show S.next < S.next + 1; omega, [], ⟨[], 0, by rw [qem, if_pos rfl], MapOk.new⟩, fun _ => rfl⟩
 obtain ⟨U, b1, b2, b3⟩ := L56_spec (self := ev E0 KD m) (N := qa1) (R56_3 (ev E0 KD m) qa1 (qay E0 (ev E0 KD m) Try.f56) qae) (exB 0 (R56_3 (ev E0 KD m) qa1 (qay E0 (ev E0 KD m) Try.f56) qae) qae) 32 0 qa1 _ (g1.on.trans ho) rfl (by unfold qa1; omega) k1
 refine ⟨U, S.next, rd56 ?_, b2, Nat.le_refl _, Grew.fresh g1 (Nat.le_refl _) (b3.mono fun x _ hx => by omega)⟩
 show F56 (ev E0 KD m) qa1 S = _
 rw [F56_eq, show qhg E0 82 none S = some (.map S.next, nw S (.map [] 0)) from rfl, oB]
 dsimp only
 rw [show V.int .i64 0 = .int .i64 ((0 : Nat) : Int) from rfl, b1, exB_same, R56_3_eq]
theorem L30_spec {self : EV} {N : Nat} (nk : Ac → St → Rs) (ek : Nat → Ac → St → Rs) {r : Nat} (h : Bs) (hh : h.length < 9223372036854775808) (hK : Keys S r ltrs) (ho : S.on = false) : ∀ (q : Bs) (i n : Nat), h.drop i = q → q.length < n →
 L30_11 self N nk ek n (sv h) (.map r) (.int .i64 (h.length : Int)) (.int .i64 (i : Int)) S = if q.all (fun c => ltrs.contains c) then ek 0 (fr 27 [(0, sv h)]) S else some (.ret (.bool false), S)
 | _, _, 0, _, hn => by omega
 | [], i, n + 1, hi, _ => by
  rw [L30_11_eq, qmq, decide_eq_false (Nat.not_lt.2 (qbo hi)), oB, ifK_bool, cond_false]
  rfl
 | c :: q, i, n + 1, hi, hn => by
  obtain ⟨hlt, hc, hr, _⟩ := qct hi
  have ih := L30_spec (self := self) (N := N) nk ek h hh hK ho q (i + 1) n hr (by simpa using hn)
  obtain ⟨h1, kv, h2, h3⟩ := hK
  rw [L30_11_eq, qmq, decide_eq_true hlt, oB, ifK_bool, cond_true, qg3 h .i64 i hlt, oB, look_u8t ho und82 zero3 h2, oB]
  dsimp only
  rw [hc, h3 c]
  rw [show ∀ a b, qa9 (.tuple [a, b]) 0 = some a from fun _ _ => rfl, oB, show ∀ a b, qa9 (.tuple [a, b]) 1 = some b from fun _ _ => rfl, oB, unV_not, oB, ifK_bool, List.all_cons]
  cases ltrs.contains c with
  | false => rfl
  | true =>
   rw [Bool.not_true, cond_false, qk9 (by omega), oB, ih, Bool.true_and]
theorem f30_run (m : Nat) (S : St) (ho : S.on = false) (h : Bs) (hh : h.length < 9223372036854775808) : ∃ U, (ev E0 KD (m + 2)).f 30 [sv h] S = some (.ret (.bool (isH h)), U) ∧ Grew (fun _ => False) S U := by
 obtain ⟨U, r, a1, a2, a3, a4⟩ := f56_run m S ho
 refine ⟨U, rd30 ?_, a4⟩
 show F30 (ev E0 KD (m + 1)) qa1 (sv h) S = _
 rw [F30_eq, a1, callP_ret, qbp, oB]
 dsimp only
 rw [show V.int .i64 0 = .int .i64 ((0 : Nat) : Int) from rfl, L30_spec _ _ h (by omega) a2 (a4.on.trans ho) h 0 qa1 rfl (by unfold qa1; omega)]
 unfold isH
 cases hb : h.all (fun c => ltrs.contains c) with
 | false => rw [if_neg (by simp), Bool.and_false]
 | true =>
  rw [if_pos rfl, exB_same, R30_3_eq, qbp, oB]
  dsimp only
  rw [show V.int .i64 32 = .int .i64 ((32 : Nat) : Int) from rfl, binV_ii, intsV_eql, oB, Bool.and_true]
  congr 5
  simp
  omega
end
end Go.Proofs.Ytmeohejdafbodaa.W
