/-
  WHAT THE FUNCTIONS COME TO: each is read by the evaluator, printed, and told as a function of data, part 3 of 7 (no condition).
-/
import Derived.Test.YtginkdeicmdmaaaW2
import Derived.Test.YtginkdeicmdmaaaShelf
namespace Go.Proofs.Ytginkdeicmdmaaa.W
open Go.Proofs.Ytginkdeicmdmaaa.Ev Go.RowKit
abbrev Bs := List UInt8
noncomputable def kfTrue : KF := specKF (fun _ : Unit => []) (fun _ => En.ret (.bool true))
theorem kfTrue_run (S : St) : kfTrue.run [] S = some (.ret (.bool true), S) := specKF_run (enc := fun _ : Unit => []) (out := fun _ => En.ret (.bool true)) (fun _ _ _ => rfl) () S
noncomputable def KA := knAdd (fun _ => none) 44 (kfSorted [53, 54] 9)
noncomputable def KB := knAdd KA 12 kfClosed
noncomputable def KD := knAdd KB 14 kfTrue
theorem lgD : Lg.KnLoc KD := (((Lg.knLoc_nil).add 44 fun _ => kfSorted_lg _ _ _).add 12 fun _ => kfClosed_lg _).add 14 fun _ => Lg.specKF_lg _
theorem ext_none {f : FuncId} (h : f ≠ 48) : E0.ext.get f = none := by
 cases hx : E0.ext.get f with
 | none => rfl
 | some k =>
  have : (f, k) ∈ [(48, 2)] := kinds_get (l := [(48, 2)]) hx
  simp at this
  exact absurd this.1 h
theorem callK_fn {E : Env} {self : EV} {f : FuncId} (h : E.ext.get f = none) (hb : hasBody E f = true) (x y args : List V) (S : St) : callK E self (.fn (.func f) x y) args S = self.f f (x ++ args ++ y) S := by
 show (match E.ext.get f with | some k => _ | none => _) = _
 rw [h]
 show (bif hasBody E f then self.f f (x ++ args ++ y) S else none) = _
 rw [hb]; rfl
theorem drop_at {α : Type} {l r : List α} {i : Nat} {y : α} (h : l.drop i = y :: r) : ∃ hlt : i < l.length, l[i] = y ∧ l.drop (i + 1) = r ∧ y ∈ l := by
 have hlt : i < l.length := by
  by_cases hh : i < l.length
  · exact hh
  · rw [List.drop_of_length_le (by omega)] at h; cases h
 rw [List.drop_eq_getElem_cons hlt] at h
 injection h with h1 h2
 exact ⟨hlt, h1, h2, by rw [← h1]; exact List.getElem_mem hlt⟩
theorem drop_end {α : Type} {l : List α} {i : Nat} (h : l.drop i = []) : l.length ≤ i := List.drop_eq_nil_iff.1 h
theorem dec_lt {a b : Nat} (h : a < b) : decide ((a : Int) < (b : Int)) = true := by simp; omega
theorem dec_ge {a b : Nat} (h : b ≤ a) : decide ((a : Int) < (b : Int)) = false := by simp; omega
theorem wrap_succ {i : Nat} (h : i < 9223372036854775807) : IntKind.i64.wrap ((i : Int) + 1) = ((i + 1 : Nat) : Int) := by
 rw [wrap_i64 (by omega) (by omega)]; omega
theorem gTT : guardV true (.bool true) = some true := rfl
theorem gTF : guardV true (.bool false) = some false := rfl
theorem gFF : guardV false (.bool false) = some true := rfl
theorem big1 : 1 < big := by unfold big; decide
theorem und46 : und E0 46 = some (.map 9 3) := by kernel_rfl
theorem zero3 : zeroT E0 3 = some (.int .i64 0) := by kernel_rfl
theorem faPg (off k o : Nat) (g : Bool) (b : Nat) : faP off g (k + 1) (.ptr b o) = some (.ptr b (o + off)) := faP_ptr off g k b o
section
variable {S T U : St}
theorem Bx.ldv (ho : S.on = false) {x e : Nat} {l : List V} (h : Bx S x e l) (hl : l.length < big) {i : Nat} {v : V} (hv : l[i]? = some v) : ld1 (.ptr x i) S = some (v, S) := by
 obtain ⟨hi, he⟩ := List.getElem?_eq_some_iff.1 hv
 rw [h.ld1 ho i hi hl, he]
def rowOf (l : List Bs) : List (Tr V) := l.map fun a => Go.Proofs.Ytginkdeicmdmaaa.Ev.one (sv a)
theorem rowOf_length (l : List Bs) : (rowOf l).length = l.length := by unfold rowOf; rw [List.length_map]
theorem rowOf_get {l : List Bs} {i : Nat} {a : Bs} (h : l[i]? = some a) : (rowOf l)[i]? = some (Go.Proofs.Ytginkdeicmdmaaa.Ev.one (sv a)) := by unfold rowOf; rw [List.getElem?_map, h]; rfl
theorem rowOf_append (l m : List Bs) : rowOf (l ++ m) = rowOf l ++ rowOf m := by unfold rowOf; rw [List.map_append]
def blkOf : V → Option Nat
 | .slice r _ _ _ => some r
 | .oslice r _ _ _ => some r
 | _ => none
def TL (S : St) (v : V) (l : List Bs) : Prop := (l = [] ∧ (v = .nilslice ∨ v = .eslice ∨ ∃ r c, v = .slice r 0 0 c)) ∨
 ∃ r off L, RowAt S r 9 1 (rowOf L) ∧ r < S.next ∧ off + l.length ≤ L.length ∧ (L.drop off).take l.length = l ∧ (v = .oslice r off l.length 1 ∨ ∃ c, v = .slice r off l.length c)
theorem TL.nil : TL S .nilslice [] := .inl ⟨rfl, .inl rfl⟩
theorem TL.own {r : Nat} {l : List Bs} (h : RowAt S r 9 1 (rowOf l)) (hr : r < S.next) : TL S (.oslice r 0 l.length 1) l := .inr ⟨r, 0, l, h, hr, by omega, by simp, .inl rfl⟩
theorem TL.grew {W : Nat → Prop} {v : V} {l : List Bs} (h : TL S v l) (hw : ∀ r e, blkOf v = some r → RowAt S r 9 1 e → ¬ W r) (g : Grew W S U) : TL U v l := by
 rcases h with h | ⟨r, off, L, h1, h2, h3, h4, h5⟩
 · exact .inl h
 · have hb : blkOf v = some r := by rcases h5 with rfl | ⟨c, rfl⟩ <;> rfl
   exact .inr ⟨r, off, L, h1.grew h2 (hw r _ hb h1) g, Nat.lt_of_lt_of_le h2 g.next, h3, h4, h5⟩
theorem TL.grew0 {v : V} {l : List Bs} (h : TL S v l) (g : Grew (fun _ => False) S U) : TL U v l := h.grew (fun _ _ _ _ h => h) g
theorem TL.same {v : V} {l : List Bs} (h : TL S v l) (h1 : U.heap = S.heap) (h2 : U.next = S.next) : TL U v l := by
 rcases h with h | ⟨r, off, L, a1, a2, a3, a4, a5⟩
 · exact .inl h
 · exact .inr ⟨r, off, L, a1.same h1, by omega, a3, a4, a5⟩
theorem TL.lenV {v : V} {l : List Bs} (h : TL S v l) : Go.Proofs.Ytginkdeicmdmaaa.Ev.lenV v = some l.length := by
 rcases h with ⟨rfl, rfl | rfl | ⟨r, c, rfl⟩⟩ | ⟨r, off, L, h1, h2, h3, h4, rfl | ⟨c, rfl⟩⟩ <;> rfl
theorem TL.notStr {v : V} {l : List Bs} (h : TL S v l) : ∀ a b, v ≠ .str a b := by
 rcases h with ⟨rfl, rfl | rfl | ⟨r, c, rfl⟩⟩ | ⟨r, off, L, h1, h2, h3, h4, rfl | ⟨c, rfl⟩⟩ <;> intro a b e <;> cases e
theorem TL.len {v : V} {l : List Bs} (h : TL S v l) (U : St) : lnS v U = some (.int .i64 (l.length : Int), U) := lnS_of h.notStr h.lenV
theorem TL.ix {v : V} {l : List Bs} (h : TL S v l) {i : Nat} {a : Bs} (ha : l[i]? = some a) : ∃ r o L, ixP 1 v (.int .i64 (i : Int)) = some (.ptr r o) ∧ RowAt S r 9 1 L ∧ L[o]? = some (Go.Proofs.Ytginkdeicmdmaaa.Ev.one (sv a)) := by
 obtain ⟨hi, he⟩ := List.getElem?_eq_some_iff.1 ha
 rcases h with ⟨rfl, _⟩ | ⟨r, off, L, h1, h2, h3, h4, h5⟩
 · cases hi
 · refine ⟨r, off + i * 1, rowOf L, ?_, h1, ?_⟩
   · have : ixP 1 v (.int .i64 (i : Int)) = bif Nat.blt i l.length then some (V.ptr r (off + i * 1)) else none := by rcases h5 with rfl | ⟨c, rfl⟩ <;> rfl
     rw [this, blt_true.2 hi]; rfl
   · refine rowOf_get ?_
     rw [Nat.mul_one]
     have : ((L.drop off).take l.length)[i]? = some a := by rw [h4]; exact ha
     rw [List.getElem?_take, if_pos hi, List.getElem?_drop] at this
     exact this
theorem TL.ld {v : V} {l : List Bs} (h : TL S v l) (ho : S.on = false) {i : Nat} {a : Bs} (ha : l[i]? = some a) : ∃ p, ixP 1 v (.int .i64 (i : Int)) = some p ∧ ld1 p S = some (sv a, S) := by
 obtain ⟨r, o, L, h1, h2, h3⟩ := h.ix ha
 exact ⟨_, h1, h2.ld1 ho h3⟩
def TLo (S : St) (v : V) (l : List Bs) (N : Nat) : Prop := (l = [] ∧ v = .nilslice) ∨ ∃ r, v = .oslice r 0 l.length 1 ∧ RowAt S r 9 1 (rowOf l) ∧ r < S.next ∧ N ≤ r ∧ 0 < l.length
theorem TLo.nil {N : Nat} : TLo S .nilslice [] N := .inl ⟨rfl, rfl⟩
theorem TLo.tl {v : V} {l : List Bs} {N : Nat} (h : TLo S v l N) : TL S v l := by
 rcases h with ⟨rfl, rfl⟩ | ⟨r, rfl, h1, h2, _⟩
 · exact .nil
 · exact .own h1 h2
theorem TLo.grew {v : V} {l : List Bs} {N : Nat} (h : TLo S v l N) (g : Grew (fun _ => False) S U) : TLo U v l N := by
 rcases h with h | ⟨r, h0, h1, h2, h3⟩
 · exact .inl h
 · exact .inr ⟨r, h0, h1.grew h2 (fun h => h) g, Nat.lt_of_lt_of_le h2 g.next, h3⟩
theorem TLo.push (ho : S.on = false) {v : V} {l : List Bs} {N : Nat} (h : TLo S v l N) (hN : N ≤ S.next) (hl : l.length < 100000) (a : Bs) :
 ∃ y W v' U, bsP 9 1 1 (Go.Proofs.Ytginkdeicmdmaaa.Ev.one (sv [])) [(0, sv a)] S = some (y, W) ∧ apP 9 1 16 v y W = some (v', U) ∧ TLo U v' (l ++ [a]) N ∧ Grew (fun x => N ≤ x) S U := by
 obtain ⟨W, h1, h2, h3, h4⟩ := bsP_one ho 9 (Go.Proofs.Ytginkdeicmdmaaa.Ev.one (sv [])) (oneV_sv a)
 have on1 := h3.on.trans ho
 have hlm : (l ++ [a]).length = l.length + 1 := by rw [List.length_append]; rfl
 rcases h with ⟨rfl, rfl⟩ | ⟨r, rfl, hr, hr2, hr3, h0⟩
 · obtain ⟨U, k1, k2, k3, k4⟩ := ap1_first (B := 16) on1 h2 (by unfold maxCells; omega)
   exact ⟨_, W, _, U, h1, k1, .inr ⟨W.next, rfl, k2, by omega, by omega, by simp⟩, (h3.trans k3).mono fun _ _ h => h.elim⟩
 · have hrow := hr.grew hr2 (fun h => h) h3
   obtain ⟨U, k1, k2, k3, k4⟩ := ap1_more (B := 16) on1 h2 hrow (by rw [rowOf_length]; unfold maxCells; omega) (by rw [rowOf_length]; unfold big; omega)
   rw [rowOf_length] at k1
   refine ⟨_, W, _, U, h1, k1, .inr ⟨W.next, by rw [hlm], ?_, by omega, by omega, by omega⟩, (h3.mono fun _ _ h => h.elim).trans (k3.mono fun x _ e => by subst e; exact hr3)⟩
   rw [rowOf_append]
   exact k2
end
end Go.Proofs.Ytginkdeicmdmaaa.W
namespace Go.Proofs.Ytginkdeicmdmaaa.W
open Go.Proofs.Ytginkdeicmdmaaa.Ev Go.RowKit
theorem bless_iff : ∀ {x y : Bs}, Op.bytesLess x y = true ↔ x < y
 | [], [] => by simp [Op.bytesLess]
 | _ :: _, [] => by simp [Op.bytesLess]
 | [], _ :: _ => by simp [Op.bytesLess]
 | a :: x, b :: y => by
  simp only [Op.bytesLess, Bool.or_eq_true, decide_eq_true_eq, Bool.and_eq_true, beq_iff_eq]
  rw [List.cons_lt_cons_iff, bless_iff (x := x) (y := y)]
def insB (x : Bs) : List Bs → List Bs
 | [] => [x]
 | y :: l => if y < x then y :: insB x l else x :: y :: l
def sortB : List Bs → List Bs
 | [] => []
 | x :: l => insB x (sortB l)
theorem insB_perm (x : Bs) : ∀ l : List Bs, (insB x l).Perm (x :: l)
 | [] => .refl _
 | y :: l => by
  unfold insB
  split
  · exact ((insB_perm x l).cons y).trans (.swap x y l)
  · exact .refl _
theorem sortB_perm : ∀ l : List Bs, (sortB l).Perm l
 | [] => .refl _
 | x :: l => (insB_perm x (sortB l)).trans ((sortB_perm l).cons x)
theorem insB_pw {x : Bs} : ∀ {l : List Bs}, l.Pairwise (· < ·) → x ∉ l → (insB x l).Pairwise (· < ·)
 | [], _, _ => by simp [insB]
 | y :: l, h, hx => by
  unfold insB
  rw [List.pairwise_cons] at h
  simp only [List.mem_cons, not_or] at hx
  split
  · rename_i hlt
    refine List.pairwise_cons.2 ⟨fun z hz => ?_, insB_pw h.2 hx.2⟩
    rcases List.mem_cons.1 ((insB_perm x l).mem_iff.1 hz) with rfl | hz
    · exact hlt
    · exact h.1 z hz
  · rename_i hlt
    have hxy : x < y := by
     rcases List.le_iff_lt_or_eq.1 (List.not_lt.1 hlt) with h | h
     · exact h
     · exact absurd h hx.1
    refine List.pairwise_cons.2 ⟨fun z hz => ?_, List.pairwise_cons.2 h⟩
    rcases List.mem_cons.1 hz with rfl | hz
    · exact hxy
    · exact List.lt_trans hxy (h.1 z hz)
theorem sortB_pw : ∀ {l : List Bs}, l.Nodup → (sortB l).Pairwise (· < ·)
 | [], _ => .nil
 | x :: l, h => by
  rw [List.nodup_cons] at h
  exact insB_pw (sortB_pw h.2) fun hm => h.1 ((sortB_perm l).mem_iff.1 hm)
theorem mem_sortB {l : List Bs} {x : Bs} : x ∈ sortB l ↔ x ∈ l := (sortB_perm l).mem_iff
theorem rise_eq : ∀ {l m : List Bs}, l.Pairwise (· < ·) → m.Pairwise (· < ·) → (∀ x, x ∈ l ↔ x ∈ m) → l = m
 | [], [], _, _, _ => rfl
 | [], y :: m, _, _, h => absurd ((h y).2 (List.mem_cons_self ..)) (by simp)
 | x :: l, [], _, _, h => absurd ((h x).1 (List.mem_cons_self ..)) (by simp)
 | x :: l, y :: m, hl, hm, h => by
  rw [List.pairwise_cons] at hl hm
  have hxy : x = y := by
   rcases List.mem_cons.1 ((h x).1 (List.mem_cons_self ..)) with e | e
   · exact e
   · rcases List.mem_cons.1 ((h y).2 (List.mem_cons_self ..)) with e2 | e2
     · exact e2.symm
     · exact absurd (List.lt_trans (hm.1 x e) (hl.1 y e2)) (List.lt_irrefl _)
  subst hxy
  rw [rise_eq hl.2 hm.2 fun z => ⟨fun hz => ?_, fun hz => ?_⟩]
  · rcases List.mem_cons.1 ((h z).1 (List.mem_cons_of_mem _ hz)) with e | e
    · subst e; exact absurd (hl.1 z hz) (List.lt_irrefl _)
    · exact e
  · rcases List.mem_cons.1 ((h z).2 (List.mem_cons_of_mem _ hz)) with e | e
    · subst e; exact absurd (hm.1 z hz) (List.lt_irrefl _)
    · exact e
def esKV (es : List ME) : List (V × V) := es.map fun e => (e.k, e.v)
def kvS (kv : List (Bs × V)) : List (V × V) := kv.map fun p => (sv p.1, p.2)
theorem insS_ins (x : Bs) : ∀ l : List Bs, insS x.length (pack x) (l.map kp) = (insB x l).map kp
 | [] => rfl
 | y :: l => by
  rw [List.map_cons]
  unfold insS insB
  rw [show sLess (kp y).1 (kp y).1 (kp y).2 x.length (pack x) = Op.bytesLess y x from sLess_eq y x]
  by_cases h : y < x
  · rw [bless_iff.2 h, if_pos h, cond_true, insS_ins x l]; rfl
  · rw [if_neg h, show Op.bytesLess y x = false from by rw [Bool.eq_false_iff]; exact fun e => h (bless_iff.1 e)]; rfl
theorem keysS_sort : ∀ {kv : List (Bs × V)} {es : List ME}, esKV es = kvS kv → keysS es = some ((sortB (kv.map (·.1))).map kp)
 | [], [], _ => rfl
 | [], e :: es, h => by simp [esKV, kvS] at h
 | p :: kv, [], h => by simp [esKV, kvS] at h
 | p :: kv, e :: es, h => by
  simp only [esKV, kvS, List.map_cons, List.cons.injEq, pM] at h
  obtain ⟨⟨h1, _⟩, h3⟩ := h
  unfold keysS
  rw [h1, keysS_sort (kv := kv) (es := es) h3]
  show ((some ((sortB (kv.map (·.1))).map kp)).bind fun q => some (insS p.1.length (pack p.1) q)) = _
  rw [oB, insS_ins]; rfl
theorem rising_of : ∀ {l : List Bs}, l.Pairwise (· < ·) → rising (l.map kp) = true
 | [], _ => rfl
 | [x], _ => rfl
 | x :: y :: l, h => by
  rw [List.pairwise_cons] at h
  have h2 := rising_of h.2
  rw [List.map_cons] at h2
  rw [List.map_cons, List.map_cons]
  unfold rising
  rw [h2, show sLess (kp x).1 (kp x).1 (kp x).2 (kp y).1 (kp y).2 = Op.bytesLess x y from sLess_eq x y, bless_iff.2 (h.1 y (List.mem_cons_self ..))]
  rfl
theorem shortKeys_of : ∀ {kv : List (Bs × V)} {es : List ME}, esKV es = kvS kv → (∀ p ∈ kv, p.1.length < 4611686018427387904) → shortKeys es = true
 | [], [], _, _ => rfl
 | [], e :: es, h, _ => by simp [esKV, kvS] at h
 | p :: kv, [], h, _ => by simp [esKV, kvS] at h
 | p :: kv, e :: es, h, hs => by
  simp only [esKV, kvS, List.map_cons, List.cons.injEq, pM] at h
  obtain ⟨⟨h1, _⟩, h3⟩ := h
  unfold shortKeys
  rw [h1, shortKeys_of (kv := kv) (es := es) h3 fun q hq => hs q (List.mem_cons_of_mem _ hq)]
  show (Nat.blt p.1.length 4611686018427387904 && true) = true
  rw [blt_true.2 (hs p (List.mem_cons_self ..))]; rfl
section
variable {S T U : St}
def MapS (S : St) (r : Nat) (kv : List (Bs × V)) : Prop := ∃ es clock, S.heap.get r = some (.map es clock) ∧ esKV es = kvS kv ∧ stampsR 0 es = true ∧ lastStamp es 0 ≤ clock
theorem MapS.grew {W : Nat → Prop} {r : Nat} {kv : List (Bs × V)} (h : MapS S r kv) (hr : r < S.next) (hw : ¬ W r) (g : Grew W S T) : MapS T r kv := by
 obtain ⟨es, c, h1, h2⟩ := h
 exact ⟨es, c, by rw [g.keep r hr hw]; exact h1, h2⟩
theorem MapS.same {r : Nat} {kv : List (Bs × V)} (h : MapS S r kv) (hh : T.heap = S.heap) : MapS T r kv := by
 obtain ⟨es, c, h1, h2⟩ := h
 exact ⟨es, c, by rw [hh]; exact h1, h2⟩
theorem MapS.noRow {r e z : Nat} {kv : List (Bs × V)} {l : List (Tr V)} (h : MapS S r kv) (hr : RowAt S r e z l) : False := by
 obtain ⟨es, c, h1, _⟩ := h
 obtain ⟨c, h2, _⟩ := hr.row
 rw [h1] at h2; cases h2
def lkS (a : Bs) : List (Bs × V) → Option V
 | [] => none
 | p :: l => if a = p.1 then some p.2 else lkS a l
def ixB (a : Bs) : List (Bs × V) → Nat
 | [] => 0
 | p :: l => if a = p.1 then 0 else ixB a l + 1
theorem mfind_str (a : Bs) : ∀ (kv : List (Bs × V)) (es : List ME) (i : Nat), esKV es = kvS kv → mfind (sv a) es i = some ((lkS a kv).map fun v => (i + ixB a kv, v))
 | [], es, i, h => by
  cases es with
  | nil => rfl
  | cons e es => simp [esKV, kvS] at h
 | p :: kv, [], i, h => by simp [esKV, kvS] at h
 | p :: kv, e :: es, i, h => by
  simp only [esKV, kvS, List.map_cons, List.cons.injEq, pM] at h
  obtain ⟨⟨h1, h2⟩, h3⟩ := h
  have hm : mfind (sv a) (e :: es) i = bif a == p.1 then some (some (i, e.v)) else mfind (sv a) es (i + 1) := by
   show (match e.k with | .str l' b => bif sEq a.length (pack a) l' b then some (some (i, e.v)) else mfind (sv a) es (i + 1) | _ => none) = _
   rw [h1]
   show (bif sEq a.length (pack a) p.1.length (pack p.1) then some (some (i, e.v)) else mfind (sv a) es (i + 1)) = _
   rw [sEq_eq]
  rw [hm]
  unfold lkS ixB
  by_cases hc : a = p.1
  · rw [if_pos hc, if_pos hc, show (a == p.1) = true by simp [hc], cond_true, h2]; rfl
  · rw [if_neg hc, if_neg hc, show (a == p.1) = false from beq_false_of_ne hc, cond_false, mfind_str a kv es (i + 1) h3]
    cases lkS a kv with
    | none => rfl
    | some v => simp only [Option.map_some, show i + 1 + ixB a kv = i + (ixB a kv + 1) by omega]
theorem look_two (ho : S.on = false) {r : Nat} {kv : List (Bs × V)} (h : MapS S r kv) (a : Bs) :
 lookupV E0 48 (.map r) (sv a) true S = some (.tuple [(lkS a kv).getD .nilslice, .bool (lkS a kv).isSome], S) := by
 obtain ⟨es, c, h1, h2, _⟩ := h
 unfold lookupV
 rw [und48, oB]
 simp only
 rw [und9, oB]
 simp only [sv, keyOk, cond_true]
 rw [getO_off ho h1, oB]
 simp only
 rw [oB]
 dsimp only
 have hm := mfind_str a kv es 0 h2
 unfold sv at hm
 rw [hm, oB]
 cases lkS a kv with
 | none => simp only [Option.map_none]; rw [zero26]; rfl
 | some v => rfl
theorem look_one (ho : S.on = false) {r : Nat} {kv : List (Bs × V)} (h : MapS S r kv) (a : Bs) :
 lookupV E0 46 (.map r) (sv a) false S = some ((lkS a kv).getD (.int .i64 0), S) := by
 obtain ⟨es, c, h1, h2, _⟩ := h
 unfold lookupV
 rw [und46, oB]
 simp only
 rw [und9, oB]
 simp only [sv, keyOk, cond_true]
 rw [getO_off ho h1, oB]
 simp only
 rw [oB]
 dsimp only
 have hm := mfind_str a kv es 0 h2
 unfold sv at hm
 rw [hm, oB]
 cases lkS a kv with
 | none => simp only [Option.map_none]; rw [zero3]; rfl
 | some v => rfl
theorem stampsR_push : ∀ (es : List ME) (m c : Nat) (k v : V), stampsR m es = true → lastStamp es m ≤ c → stampsR m (es ++ [{ k := k, v := v, born := c }]) = true ∧ lastStamp (es ++ [{ k := k, v := v, born := c }]) m = c + 1
 | [], m, c, k, v, _, h => by
  unfold lastStamp at h
  refine ⟨?_, rfl⟩
  show (Nat.ble m c && true) = true
  rw [ble_true.2 h]; rfl
 | e :: es, m, c, k, v, h1, h2 => by
  unfold stampsR at h1
  unfold lastStamp at h2
  simp only [Bool.and_eq_true] at h1
  obtain ⟨q1, q2⟩ := stampsR_push es (e.born + 1) c k v h1.2 h2
  rw [List.cons_append]
  unfold stampsR lastStamp
  exact ⟨by rw [h1.1, q1]; rfl, q2⟩
theorem upd_new (ho : S.on = false) {t et : TypeId} (ht : und E0 t = some (.map 9 et)) {r : Nat} {kv : List (Bs × V)} (h : MapS S r kv) {a : Bs} (ha : lkS a kv = none) (v : V) :
 ∃ o, updateV E0 t (.map r) (sv a) v S = some (S.put r o) ∧ MapS (S.put r o) r (kv ++ [(a, v)]) := by
 obtain ⟨es, c, h1, h2, h3, h4⟩ := h
 have hm := mfind_str a kv es 0 h2
 rw [ha] at hm
 obtain ⟨q1, q2⟩ := stampsR_push es 0 c (sv a) v h3 h4
 refine ⟨.map (es ++ [{ k := sv a, v := v, born := c }]) (c + 1), ?_, es ++ [{ k := sv a, v := v, born := c }], c + 1, by rw [put_get, if_pos rfl], ?_, q1, by rw [q2]; exact Nat.le_refl _⟩
 · unfold updateV
   rw [ht, oB]
   simp only
   rw [und9, oB]
   simp only [sv, keyOk, cond_true]
   rw [getO_off ho h1, oB]
   unfold sv at hm
   simp only
   rw [hm, Option.map_none, oB]
   simp only
   rw [setO_off ho]
 · unfold esKV kvS at h2 ⊢
   rw [List.map_append, List.map_append, h2]; rfl
theorem MapS.new (ho : S.on = false) : MapS (nw S (.map [] 0)) S.next [] := ⟨[], 0, by rw [nw_get, if_pos rfl], rfl, rfl, Nat.le_refl _⟩
theorem sorted_run (n : Nat) (ho : S.on = false) {g b r e : Nat} (hg : g = 53 ∨ g = 54) (hb : Bx S b e [.map r]) {kv : List (Bs × V)} (h : MapS S r kv) (hn : (kv.map (·.1)).Nodup) (hs : ∀ p ∈ kv, p.1.length < 4611686018427387904) (hl : kv.length < 1000000) :
 ∃ v U, (ev E0 KD (n + 1)).f 44 [.fn (.func g) [] [.ptr b 0]] S = some (.ret v, U) ∧ TL U v (sortB (kv.map (·.1))) ∧ Grew (fun _ => False) S U := by
 obtain ⟨es, c, h1, h2, h3, h4⟩ := h
 have hlen : es.length = kv.length := by
  have := congrArg List.length h2
  simpa [esKV, kvS] using this
 have hso : sortedOf es c = some ((sortB (kv.map (·.1))).map kp) := by
  unfold sortedOf
  rw [h3, ble_true.2 h4, shortKeys_of h2 hs, blt_true.2 (by omega : es.length < 1000000)]
  simp only [Bool.and_self, cond_true]
  rw [keysS_sort h2, oB, rising_of (sortB_pw hn)]; rfl
 have hk : (kfSorted [53, 54] 9).run [.fn (.func g) [] [.ptr b 0]] S = sortedK 9 (.map r) S := by
  show (bif memN g [53, 54] && Nat.beq 0 0 then (ld S b 0).bind fun q => sortedK 9 q.1 q.2 else none) = _
  have hl := Bx.ldv ho hb big1 (i := 0) rfl
  rw [show ld S b 0 = some (.map r, S) from hl]
  rcases hg with rfl | rfl <;> rfl
 have hev : ∀ R, (kfSorted [53, 54] 9).run [.fn (.func g) [] [.ptr b 0]] S = some R → (ev E0 KD (n + 1)).f 44 [.fn (.func g) [] [.ptr b 0]] S = some R := fun R hR => by
  rw [ev_known (K := KD) (f := 44) (g := kfSorted [53, 54] 9) (by rfl)]
  exact hR
 have hsk : sortedK 9 (.map r) S = (match (sortB (kv.map (·.1))).map kp with
  | [] => some (.ret .nilslice, S)
  | x :: l => some (.ret (.oslice S.next 0 (l.length + 1) 1), newCells S 9 1 (rowKeys (x :: l)))) := by
  unfold sortedK
  simp only
  rw [getO_off ho h1, oB]
  simp only
  rw [hso, oB]
  generalize (sortB (kv.map (·.1))).map kp = L
  cases L <;> rfl
 rw [hsk] at hk
 cases hq : sortB (kv.map (·.1)) with
 | nil =>
  rw [hq] at hk
  exact ⟨_, S, hev _ hk, .nil, Grew.refl _ _⟩
 | cons x l =>
  rw [hq] at hk
  refine ⟨_, _, hev _ hk, ?_, grew_nw ho _ _⟩
  have hll : (x :: l).length = (l.map kp).length + 1 := by rw [List.length_map]; rfl
  rw [← hll]
  refine .own ?_ (by show S.next < S.next + 1; omega)
  have hrk : rowKeys ((x :: l).map kp) = rowOf (x :: l) := by
   unfold rowKeys rowOf
   rw [List.map_map]; rfl
  have hlt : (x :: l).length < 1000000 := by rw [← hq, (sortB_perm _).length_eq, List.length_map]; exact hl
  have := rowAt_newCells (e := 9) (z := 1) (l := rowOf (x :: l)) ho (by omega) (by rw [rowOf_length, Nat.one_mul]; unfold big; omega)
  rw [← hrk] at this
  rw [← hrk]
  exact this
end
end Go.Proofs.Ytginkdeicmdmaaa.W
namespace Go.Proofs.Ytginkdeicmdmaaa.W
open Go.Proofs.Ytginkdeicmdmaaa.Ev Go.RowKit
theorem rd28K {K : FuncId → Option KF} (hK : K 28 = none) {n : Nat} {args : List V} {s : St} {r : En × St} (e : runF E0 (ev E0 K n) rounds Try.f28 B28 args s = some r) : (ev E0 K (n + 1)).f 28 args s = some r := ev_read (c := C28) (d := B28) (by kernel_rfl) (by kernel_rfl) (annot_isOf C28 _ (by kernel_rfl)) hK e
theorem rd26 {n : Nat} {args : List V} {s : St} {r : En × St} (e : runF E0 (ev E0 KD n) rounds Try.f26 B26 args s = some r) : (ev E0 KD (n + 1)).f 26 args s = some r := ev_read (c := C26) (d := B26) (by kernel_rfl) (by kernel_rfl) (annot_isOf C26 _ (by kernel_rfl)) rfl e
theorem rd30 {n : Nat} {args : List V} {s : St} {r : En × St} (e : runF E0 (ev E0 KD n) rounds Try.f30 B30 args s = some r) : (ev E0 KD (n + 1)).f 30 args s = some r := ev_read (c := C30) (d := B30) (by kernel_rfl) (by kernel_rfl) (annot_isOf C30 _ (by kernel_rfl)) rfl e
theorem rd27 {n : Nat} {args : List V} {s : St} {r : En × St} (e : runF E0 (ev E0 KD n) rounds Try.f27 B27 args s = some r) : (ev E0 KD (n + 1)).f 27 args s = some r := ev_read (c := C27) (d := B27) (by kernel_rfl) (by kernel_rfl) (annot_isOf C27 _ (by kernel_rfl)) rfl e
theorem rd46 {n : Nat} {args : List V} {s : St} {r : En × St} (e : runF E0 (ev E0 KD n) rounds Try.f46 B46 args s = some r) : (ev E0 KD (n + 1)).f 46 args s = some r := ev_read (c := C46) (d := B46) (by kernel_rfl) (by kernel_rfl) (annot_isOf C46 _ (by kernel_rfl)) rfl e
theorem rd29 {n : Nat} {args : List V} {s : St} {r : En × St} (e : runF E0 (ev E0 KD n) rounds Try.f29 B29 args s = some r) : (ev E0 KD (n + 1)).f 29 args s = some r := ev_read (c := C29) (d := B29) (by kernel_rfl) (by kernel_rfl) (annot_isOf C29 _ (by kernel_rfl)) rfl e
theorem rd31 {n : Nat} {args : List V} {s : St} {r : En × St} (e : runF E0 (ev E0 KD n) rounds Try.f31 B31 args s = some r) : (ev E0 KD (n + 1)).f 31 args s = some r := ev_read (c := C31) (d := B31) (by kernel_rfl) (by kernel_rfl) (annot_isOf C31 _ (by kernel_rfl)) rfl e
theorem rd45 {n : Nat} {args : List V} {s : St} {r : En × St} (e : runF E0 (ev E0 KD n) rounds Try.f45 B45 args s = some r) : (ev E0 KD (n + 1)).f 45 args s = some r := ev_read (c := C45) (d := B45) (by kernel_rfl) (by kernel_rfl) (annot_isOf C45 _ (by kernel_rfl)) rfl e
theorem rd47 {n : Nat} {args : List V} {s : St} {r : En × St} (e : runF E0 (ev E0 KD n) rounds Try.f47 B47 args s = some r) : (ev E0 KD (n + 1)).f 47 args s = some r := ev_read (c := C47) (d := B47) (by kernel_rfl) (by kernel_rfl) (annot_isOf C47 _ (by kernel_rfl)) rfl e
theorem rd9 {n : Nat} {args : List V} {s : St} {r : En × St} (e : runF E0 (ev E0 KD n) rounds Try.f9 B9 args s = some r) : (ev E0 KD (n + 1)).f 9 args s = some r := ev_read (c := C9) (d := B9) (by kernel_rfl) (by kernel_rfl) (annot_isOf C9 _ (by kernel_rfl)) rfl e
theorem rd10 {n : Nat} {args : List V} {s : St} {r : En × St} (e : runF E0 (ev E0 KD n) rounds Try.f10 B10 args s = some r) : (ev E0 KD (n + 1)).f 10 args s = some r := ev_read (c := C10) (d := B10) (by kernel_rfl) (by kernel_rfl) (annot_isOf C10 _ (by kernel_rfl)) rfl e
structure Pth where
 nm : Bs
 rv : V
 refs : List Bs
def Pth.cells (p : Pth) : List V := [sv p.nm, p.rv, sv [], sv []]
noncomputable def treeP (p : Pth) : Tr V := Tr.ofListFrom .nil p.cells 0
def Pth.kv (p : Pth) : Bs × V := (p.nm, p.rv)
def names (l : List Pth) : List Bs := l.map (·.nm)
def lkP (a : Bs) : List Pth → Option Pth
 | [] => none
 | p :: l => if a = p.nm then some p else lkP a l
theorem lkS_kv (a : Bs) : ∀ l : List Pth, lkS a (l.map Pth.kv) = (lkP a l).map (·.rv)
 | [] => rfl
 | p :: l => by
  rw [List.map_cons]
  unfold lkS lkP
  by_cases h : a = p.nm
  · rw [if_pos h, if_pos (show a = p.kv.1 from h)]; rfl
  · rw [if_neg h, if_neg (show ¬ a = p.kv.1 from h), lkS_kv a l]
theorem lkP_mem {a : Bs} {p : Pth} : ∀ {l : List Pth}, lkP a l = some p → p ∈ l ∧ p.nm = a
 | [], h => by cases h
 | q :: l, h => by
  unfold lkP at h
  by_cases hc : a = q.nm
  · rw [if_pos hc] at h
    cases h
    exact ⟨List.mem_cons_self .., hc.symm⟩
  · rw [if_neg hc] at h
    exact ⟨List.mem_cons_of_mem _ (lkP_mem h).1, (lkP_mem h).2⟩
theorem lkP_none {a : Bs} : ∀ {l : List Pth}, lkP a l = none ↔ a ∉ names l
 | [] => by simp [lkP, names]
 | q :: l => by
  unfold lkP
  by_cases hc : a = q.nm
  · rw [if_pos hc]; simp [names, hc]
  · rw [if_neg hc, lkP_none]
    simp [names, hc]
def addP (out : List Pth) (p : Pth) : List Pth := if (lkP p.nm out).isSome then out else out ++ [p]
def refsOf (l : List Pth) : List Pth := l.foldl addP []
section
variable {S T U : St}
structure RowR (s : St) (b e z : Nat) (l : List (Tr V)) : Prop where
 pos : 0 < z
 fit : z * l.length < big
 row : ∃ ro c, s.heap.get b = some (.cells e z l.length ro c) ∧ ∀ (i : Nat) t, l[i]? = some t → c.get i = some t
theorem RowR.of {b e z : Nat} {l : List (Tr V)} (h : RowAt S b e z l) : RowR S b e z l := ⟨h.pos, h.fit, let ⟨c, h1, h2⟩ := h.row; ⟨false, c, h1, h2⟩⟩
theorem RowR.grew {W : Nat → Prop} {b e z : Nat} {l : List (Tr V)} (h : RowR S b e z l) (hb : b < S.next) (hw : ¬ W b) (g : Grew W S T) : RowR T b e z l := by
 obtain ⟨ro, c, h1, h2⟩ := h.row
 exact ⟨h.pos, h.fit, ro, c, by rw [g.keep b hb hw]; exact h1, h2⟩
theorem RowR.ldK (ho : S.on = false) {b e z i : Nat} {l : List (Tr V)} {t : Tr V} (h : RowR S b e z l) (hi : l[i]? = some t) : ldK S b (i * z) z = some (t, S) := by
 obtain ⟨ro, c, h1, h2⟩ := h.row
 have hlt := (List.getElem?_eq_some_iff.1 hi).1
 unfold Go.Proofs.Ytginkdeicmdmaaa.Ev.ldK
 rw [h1]
 have hle : i * z + z ≤ z * l.length := by
  calc i * z + z = (i + 1) * z := by rw [Nat.add_mul, Nat.one_mul]
   _ ≤ l.length * z := Nat.mul_le_mul_right _ hlt
   _ = z * l.length := Nat.mul_comm ..
 simp only [ble_true.2 hle, blt_true.2 h.fit, Bool.and_self, cond_true]
 unfold elemIn
 rw [Nat.beq_refl, show Nat.beq (i * z % z) 0 = true from beq_true.2 (Nat.mul_mod_left ..)]
 simp only [Bool.and_self, cond_true, Nat.mul_div_cancel _ h.pos, h2 i t hi, oB, note_off ho]
theorem RowR.ldN (ho : S.on = false) {b e z : Nat} {l : List (Tr V)} (h : RowR S b e z l) : ∀ (n i : Nat), i + n ≤ l.length → ldN b z n (i * z) S = some ((l.drop i).take n, S)
 | 0, i, _ => by simp [Go.Proofs.Ytginkdeicmdmaaa.Ev.ldN]
 | n + 1, i, hle => by
  have hlt : i < l.length := by omega
  unfold Go.Proofs.Ytginkdeicmdmaaa.Ev.ldN
  rw [h.ldK ho (List.getElem?_eq_getElem hlt)]
  simp only [oB]
  rw [show i * z + z = (i + 1) * z by rw [Nat.add_mul, Nat.one_mul], RowR.ldN ho h n (i + 1) (by omega)]
  simp only [oB]
  rw [List.drop_eq_getElem_cons hlt, List.take_succ_cons]
theorem RowR.ldf (ho : S.on = false) {b e z i j : Nat} {l : List (Tr V)} {t : Tr V} {v : V} (h : RowR S b e z l) (hi : l[i]? = some t) (hj : j < z) (hv : t.get j = some v) : ld S b (i * z + j) = some (v, S) := by
 obtain ⟨ro, c, h1, h2⟩ := h.row
 have hlt := (List.getElem?_eq_some_iff.1 hi).1
 have hlt2 : i * z + j < z * l.length := by
  calc i * z + j < i * z + z := by omega
   _ = (i + 1) * z := by rw [Nat.add_mul, Nat.one_mul]
   _ ≤ l.length * z := Nat.mul_le_mul_right _ hlt
   _ = z * l.length := Nat.mul_comm ..
 have hc : (c.get ((i * z + j) / z)).bind (fun t => t.get ((i * z + j) % z)) = some v := by
  rw [Nat.mul_comm i z, Nat.mul_add_div h.pos, Nat.div_eq_of_lt hj, Nat.add_zero, Nat.mul_add_mod, Nat.mod_eq_of_lt hj, h2 i _ hi]
  exact hv
 unfold ld
 rw [h1]
 simp only [blt_true.2 hlt2, blt_true.2 h.fit, Bool.and_self, cond_true]
 simp only [oI] at hc
 obtain ⟨u, hu, hv'⟩ := hc
 rw [hu, oB, hv', oB, note_off ho]
def PL (S : St) (v : V) (l : List Pth) : Prop := ((l = [] ∧ v = .nilslice) ∨ ∃ r, v = .oslice r 0 l.length 4 ∧ RowR S r 28 4 (l.map treeP) ∧ r < S.next ∧ 0 < l.length) ∧ ∀ p ∈ l, TL S p.rv p.refs
theorem PL.nil : PL S .nilslice [] := ⟨.inl ⟨rfl, rfl⟩, fun _ h => by cases h⟩
theorem PL.grew {v : V} {l : List Pth} (h : PL S v l) (g : Grew (fun _ => False) S U) : PL U v l := by
 refine ⟨?_, fun p hp => (h.2 p hp).grew0 g⟩
 rcases h.1 with h | ⟨r, h0, h1, h2, h3⟩
 · exact .inl h
 · exact .inr ⟨r, h0, h1.grew h2 (fun h => h) g, Nat.lt_of_lt_of_le h2 g.next, h3⟩
theorem PL.lenV {v : V} {l : List Pth} (h : PL S v l) : Go.Proofs.Ytginkdeicmdmaaa.Ev.lenV v = some l.length := by
 rcases h.1 with ⟨rfl, rfl⟩ | ⟨r, rfl, _⟩ <;> rfl
theorem PL.len {v : V} {l : List Pth} (h : PL S v l) (U : St) : lnS v U = some (.int .i64 (l.length : Int), U) := by
 rcases h.1 with ⟨rfl, rfl⟩ | ⟨r, rfl, _⟩ <;> rfl
theorem PL.ix {v : V} {l : List Pth} (h : PL S v l) {i : Nat} {p : Pth} (hp : l[i]? = some p) : ∃ r, ixP 4 v (.int .i64 (i : Int)) = some (.ptr r (i * 4)) ∧ RowR S r 28 4 (l.map treeP) := by
 obtain ⟨hi, he⟩ := List.getElem?_eq_some_iff.1 hp
 rcases h.1 with ⟨rfl, _⟩ | ⟨r, rfl, h1, h2, h3⟩
 · cases hi
 · refine ⟨r, ?_, h1⟩
   show (bif Nat.blt i l.length then some (V.ptr r (0 + i * 4)) else none) = _
   rw [blt_true.2 hi, Nat.zero_add]; rfl
theorem PL.name (ho : S.on = false) {l : List Pth} {i r : Nat} {p : Pth} (hp : l[i]? = some p) (h : RowR S r 28 4 (l.map treeP)) : ld1 (.ptr r (i * 4 + 0)) S = some (sv p.nm, S) :=
 RowR.ldf ho h (by rw [List.getElem?_map, hp]; rfl) (by omega) rfl
theorem PL.refs (ho : S.on = false) {l : List Pth} {i r : Nat} {p : Pth} (hp : l[i]? = some p) (h : RowR S r 28 4 (l.map treeP)) : ld1 (.ptr r (i * 4 + 1)) S = some (p.rv, S) :=
 RowR.ldf ho h (by rw [List.getElem?_map, hp]; rfl) (by omega) rfl
theorem PL.all (ho : S.on = false) {l : List Pth} {i r : Nat} {p : Pth} (hp : l[i]? = some p) (h : RowR S r 28 4 (l.map treeP)) : ldA 4 (.ptr r (i * 4)) S = some (vAgg p.cells, S) := by
 have := h.ldK ho (i := i) (t := treeP p) (by rw [List.getElem?_map, hp]; rfl)
 show ((ldK S r (i * 4) 4).bind fun q => some (V.agg 4 q.1, q.2)) = _
 rw [this]; rfl
theorem vu_some (s : St) : vu (some s) = some (.tuple [], s) := rfl
theorem tup0 (a b : V) : extractV (.tuple [a, b]) 0 = some a := rfl
theorem tup1 (a b : V) : extractV (.tuple [a, b]) 1 = some b := rfl
theorem big4 : 4 < big := by unfold big; decide
theorem L28_spec {self : EV} {N : Nat} (ho : S.on = false) {v9 : V} {ps : List Pth} (hp : PL S v9 ps) (hlen : ps.length < 1000000) (nk : Ac → St → Rs) (ek : Nat → Ac → St → Rs) {m : Nat} (hm : S.next ≤ m) :
 ∀ (rest : List Pth) (i k : Nat) (out : List Pth) (U : St), ps.drop i = rest → rest.length < k → Grew (fun _ => False) S U → m < U.next → MapS U m (out.map Pth.kv) →
 ∃ T, L28_9 self N nk ek k (.map m) v9 (.int .i64 (ps.length : Int)) (.int .i64 (i : Int)) U = ek 0 (fr 31 [(3, .map m)]) T ∧ Grew (fun _ => False) S T ∧ m < T.next ∧ MapS T m ((rest.foldl addP out).map Pth.kv)
 | rest, i, 0, out, U, _, hk, _, _, _ => by omega
 | [], i, k + 1, out, U, hi, hk, g, hmn, hM => by
  refine ⟨U, ?_, g, hmn, hM⟩
  rw [L28_9_eq, binV_ii, intsV_lss, dec_ge (drop_end hi), oB, ifK_bool, cond_false]
 | p :: rest, i, k + 1, out, U, hi, hk, g, hmn, hM => by
  obtain ⟨hlt, hf, hrest, hmem⟩ := drop_at hi
  have onU := g.on.trans ho
  have hpi : ps[i]? = some p := by rw [List.getElem?_eq_getElem hlt, hf]
  have hpU := hp.grew g
  obtain ⟨r, x1, x2⟩ := hpU.ix hpi
  obtain ⟨A, a1, a2, a3, a4⟩ := var_new onU 28 4 (Tr.ofListFrom .nil [(sv []), .nilslice, (sv []), (sv [])] 0) p.cells rfl (by omega) big4
  have onA := a3.on.trans onU
  have l0 : ld1 (.ptr U.next (0 + 0)) A = some (sv p.nm, A) := Bx.ldv onA a2 big4 rfl
  have l1 : ld1 (.ptr U.next (0 + 1)) A = some (p.rv, A) := Bx.ldv onA a2 big4 rfl
  have hMA := hM.grew hmn (fun h => h) a3
  rw [L28_9_eq, binV_ii, intsV_lss, dec_lt hlt, oB, ifK_bool, cond_true, x1, oB, PL.all onU hpi x2, oB]
  dsimp only
  rw [oB, nwP_fst, a1, oB]
  dsimp only
  rw [faPg, oB, l0, oB]
  dsimp only
  rw [look_two onA hMA, oB]
  dsimp only
  rw [tup0, oB, tup1, oB, unV_not, oB, ifK_bool, lkS_kv]
  cases hq : lkP p.nm out with
  | some q =>
   rw [Option.map_some, Option.isSome_some, Bool.not_true, cond_false, binV_ii, intsV_add, wrap_succ (by omega), oB]
   have e : addP out p = out := by unfold addP; rw [hq]; rfl
   rw [List.foldl_cons, e]
   exact L28_spec ho hp hlen nk ek hm rest (i + 1) k out A hrest (by simp at hk; omega) (g.trans a3) (by omega) hMA
  | none =>
   obtain ⟨o, u1, u2⟩ := upd_new onA und48 hMA (a := p.nm) (by rw [lkS_kv, hq]; rfl) p.rv
   have gP := grew_put (s := A) m o
   have e : addP out p = out ++ [p] := by unfold addP; rw [hq]; rfl
   rw [Option.map_none, Option.isSome_none, Bool.not_false, cond_true, oB, l0, oB]
   dsimp only
   rw [faPg, oB, l1, oB]
   dsimp only
   rw [u1, vu_some, oB]
   dsimp only
   rw [binV_ii, intsV_add, wrap_succ (by omega), oB]
   rw [List.foldl_cons, e]
   exact L28_spec ho hp hlen nk ek hm rest (i + 1) k (out ++ [p]) (A.put m o) hrest (by simp at hk; omega) (Grew.own (g.trans a3) hm gP) (by show m < A.next; omega) (by rw [List.map_append]; exact u2)
theorem refs_runK {K : FuncId → Option KF} (hK : K 28 = none) (n : Nat) (ho : S.on = false) {v : V} {ps : List Pth} (hp : PL S v ps) (hlen : ps.length < 1000000) :
 ∃ U m, (ev E0 K (n + 1)).f 28 [v] S = some (.ret (.map m), U) ∧ Grew (fun _ => False) S U ∧ S.next ≤ m ∧ m < U.next ∧ MapS U m ((refsOf ps).map Pth.kv) := by
 have g1 := grew_nw ho (fun _ => False) (.map [] 0)
 have hM := MapS.new ho
 obtain ⟨T, t1, t2, t3, t4⟩ := L28_spec (self := ev E0 K n) (N := rounds) ho hp hlen (R28_3 (ev E0 K n) rounds (finN E0 (ev E0 K n) Try.f28) noEx) (exB 0 (R28_3 (ev E0 K n) rounds (finN E0 (ev E0 K n) Try.f28) noEx) noEx) (m := S.next) (Nat.le_refl _) ps 0 rounds [] (nw S (.map [] 0)) rfl (by unfold rounds; omega) g1 (by show S.next < S.next + 1; omega) hM
 refine ⟨T, S.next, rd28K hK ?_, t2, Nat.le_refl _, t3, t4⟩
 show F28 (ev E0 K n) rounds v S = _
 have hk : makeMapK E0 48 none S = some (.map S.next, nw S (.map [] 0)) := rfl
 rw [F28_eq, hk, oB]
 dsimp only
 rw [hp.len, oB]
 dsimp only
 rw [show (V.int .i64 0) = .int .i64 ((0 : Nat) : Int) from rfl, t1, exB_same, R28_3_eq]
theorem refs_run (n : Nat) (ho : S.on = false) {v : V} {ps : List Pth} (hp : PL S v ps) (hlen : ps.length < 1000000) :
 ∃ U m, (ev E0 KD (n + 1)).f 28 [v] S = some (.ret (.map m), U) ∧ Grew (fun _ => False) S U ∧ S.next ≤ m ∧ m < U.next ∧ MapS U m ((refsOf ps).map Pth.kv) := refs_runK rfl n ho hp hlen
end
end Go.Proofs.Ytginkdeicmdmaaa.W
namespace Go.Proofs.Ytginkdeicmdmaaa.W
open Go.Proofs.Ytginkdeicmdmaaa.Ev Go.RowKit
section
variable {S T U : St}
theorem Grew.fresh {a b c : St} {N : Nat} (h : Grew (fun _ => False) a b) (hN : a.next ≤ N) (k : Grew (fun x => N ≤ x) b c) : Grew (fun _ => False) a c :=
 ⟨Nat.le_trans h.next k.next, k.on.trans h.on, fun x hx hw => (k.keep x (Nat.lt_of_lt_of_le hx h.next) (by omega)).trans (h.keep x hx hw)⟩
theorem box_map (ho : S.on = false) (e m : Nat) : ∃ t, boxK e (.map m) S = some (.ptr S.next 0, t) ∧ Bx t S.next e [.map m] ∧ Grew (fun _ => False) S t ∧ t.next = S.next + 1 := box_one ho e ⟨rfl, rfl, rfl, rfl⟩
theorem take_push {α : Type} {l : List α} {i : Nat} (h : i < l.length) : l.take (i + 1) = l.take i ++ [l[i]] := (List.take_append_getElem h).symm
theorem filter_push {α : Type} (f : α → Bool) (l : List α) (a : α) : (l ++ [a]).filter f = l.filter f ++ (if f a then [a] else []) := by
 rw [List.filter_append]
 by_cases h : f a = true
 · simp [h]
 · simp [h]
theorem L26_spec {n N : Nat} (ho : S.on = false) {v10 fv : V} {ks : List Bs} {f : Bs → Bool} (hk : TL S v10 ks) (hlen : ks.length < 100000) (hf : ∀ U, Grew (fun _ => False) S U → ∀ k ∈ ks, ∃ U', callK E0 (ev E0 KD n) fv [sv k] U = some (.ret (.bool (f k)), U') ∧ Grew (fun _ => False) U U') (nk : Ac → St → Rs) (ek : Nat → Ac → St → Rs) :
 ∀ (d i k : Nat) (v5 : V) (U : St), i + d = ks.length → d < k → Grew (fun _ => False) S U → TLo U v5 ((ks.take i).filter f) S.next →
 ∃ v T, L26_10 (ev E0 KD n) N nk ek k fv v5 v10 (.int .i64 (ks.length : Int)) (.int .i64 (i : Int)) U = ek 0 (fr 25 [(5, v)]) T ∧ Grew (fun _ => False) S T ∧ TLo T v (ks.filter f) S.next
 | d, i, 0, v5, U, _, hk, _, _ => by omega
 | 0, i, k + 1, v5, U, hi, hkk, g, ht => by
  refine ⟨v5, U, ?_, g, ?_⟩
  · rw [L26_10_eq, binV_ii, intsV_lss, dec_ge (by omega), oB, ifK_bool, cond_false]
  · rw [List.take_of_length_le (by omega)] at ht; exact ht
 | d + 1, i, k + 1, v5, U, hi, hkk, g, ht => by
  have onU := g.on.trans ho
  have hlt : i < ks.length := by omega
  obtain ⟨p, p1, p2⟩ := (hk.grew0 g).ld onU (List.getElem?_eq_getElem hlt)
  rw [L26_10_eq, binV_ii, intsV_lss, dec_lt hlt, oB, ifK_bool, cond_true, p1, oB, p2, oB]
  dsimp only
  obtain ⟨U1, hf1, gf⟩ := hf U g _ (List.getElem_mem hlt)
  have g1 := g.trans gf
  have on1 := gf.on.trans onU
  rw [hf1, callP_ret, ifK_bool]
  have hadd : binV E0 .add 3 false true (.int .i64 (i : Int)) (.int .i64 1) = some (.int .i64 ((i + 1 : Nat) : Int)) := by
   rw [binV_ii, intsV_add, wrap_succ (by omega)]
  cases hq : f ks[i] with
  | true =>
   have hl : ((ks.take i).filter f).length < 100000 := Nat.lt_of_le_of_lt (List.length_filter_le _ _) (by rw [List.length_take]; omega)
   obtain ⟨y, W, v', T, b1, b2, b3, b4⟩ := (ht.grew gf).push on1 g1.next hl ks[i]
   rw [cond_true, b1, oB]
   dsimp only
   rw [b2, oB]
   dsimp only
   rw [hadd, oB]
   exact L26_spec ho hk hlen hf nk ek d (i + 1) k v' T (by omega) (by omega) (Grew.fresh g1 (Nat.le_refl _) b4) (by rw [take_push hlt, filter_push, hq, if_pos rfl]; exact b3)
  | false =>
   rw [cond_false, hadd, oB]
   exact L26_spec ho hk hlen hf nk ek d (i + 1) k v5 U1 (by omega) (by omega) g1 (by rw [take_push hlt, filter_push, hq, if_neg (by simp), List.append_nil]; exact ht.grew gf)
theorem kept26_run (n : Nat) (ho : S.on = false) {m : Nat} {kv : List (Bs × V)} (hM : MapS S m kv) (hm : m < S.next) (hn : (kv.map (·.1)).Nodup) (hs : ∀ p ∈ kv, p.1.length < 4611686018427387904) (hl : kv.length < 100000) {fv : V} {f : Bs → Bool}
 (hf : ∀ U, Grew (fun _ => False) S U → ∀ k ∈ kv.map (·.1), ∃ U', callK E0 (ev E0 KD (n + 1)) fv [sv k] U = some (.ret (.bool (f k)), U') ∧ Grew (fun _ => False) U U') :
 ∃ v U, (ev E0 KD (n + 2)).f 26 [.map m, fv] S = some (.ret v, U) ∧ TLo U v ((sortB (kv.map (·.1))).filter f) S.next ∧ Grew (fun _ => False) S U := by
 obtain ⟨A, a1, a2, a3, a4⟩ := box_map ho 46 m
 have onA := a3.on.trans ho
 have hk : (ev E0 KD (n + 1)).f 45 [.map m] S = some (.ret (.fn (.func 53) [] [.ptr S.next 0]), A) := rd45 (by
  show F45 (ev E0 KD n) rounds (.map m) S = _
  rw [F45_eq, a1]; rfl)
 obtain ⟨v7, B, b1, b2, b3⟩ := sorted_run n onA (g := 53) (by decide) a2 (hM.grew hm (fun h => h) a3) hn hs (by omega)
 have onB := b3.on.trans onA
 have gB := a3.trans b3
 have hlen : (sortB (kv.map (·.1))).length < 100000 := by rw [(sortB_perm _).length_eq, List.length_map]; exact hl
 obtain ⟨v, T, t1, t2, t3⟩ := L26_spec (n := n + 1) (N := rounds) onB b2 hlen (fun U g k hk => hf U (gB.trans g) k (mem_sortB.1 hk)) (R26_2 (ev E0 KD (n + 1)) rounds (finN E0 (ev E0 KD (n + 1)) Try.f26) noEx) (exB 0 (R26_2 (ev E0 KD (n + 1)) rounds (finN E0 (ev E0 KD (n + 1)) Try.f26) noEx) noEx) _ 0 rounds .nilslice B (Nat.zero_add _) (by unfold rounds; omega) (Grew.refl _ _) .nil
 refine ⟨v, T, rd26 ?_, ?_, gB.trans t2⟩
 · show F26 (ev E0 KD (n + 1)) rounds (.map m) fv S = _
   rw [F26_eq, hk, callP_ret, b1, callP_ret, b2.len, oB]
   dsimp only
   rw [show (V.int .i64 0) = .int .i64 ((0 : Nat) : Int) from rfl, t1, exB_same, R26_2_eq]
 · rcases t3 with h | ⟨r, h0, h1, h2, h3, h4⟩
   · exact .inl h
   · exact .inr ⟨r, h0, h1, h2, Nat.le_trans gB.next h3, h4⟩
theorem L30_spec {n N : Nat} (ho : S.on = false) {v10 fv : V} {ks : List Bs} {f : Bs → Bool} (hk : TL S v10 ks) (hlen : ks.length < 100000) (hf : ∀ U, Grew (fun _ => False) S U → ∀ k ∈ ks, ∃ U', callK E0 (ev E0 KD n) fv [sv k] U = some (.ret (.bool (f k)), U') ∧ Grew (fun _ => False) U U') (nk : Ac → St → Rs) (ek : Nat → Ac → St → Rs) :
 ∀ (d i k : Nat) (v5 : V) (U : St), i + d = ks.length → d < k → Grew (fun _ => False) S U → TLo U v5 ((ks.take i).filter f) S.next →
 ∃ v T, L30_10 (ev E0 KD n) N nk ek k fv v5 v10 (.int .i64 (ks.length : Int)) (.int .i64 (i : Int)) U = ek 0 (fr 25 [(5, v)]) T ∧ Grew (fun _ => False) S T ∧ TLo T v (ks.filter f) S.next
 | d, i, 0, v5, U, _, hk, _, _ => by omega
 | 0, i, k + 1, v5, U, hi, hkk, g, ht => by
  refine ⟨v5, U, ?_, g, ?_⟩
  · rw [L30_10_eq, binV_ii, intsV_lss, dec_ge (by omega), oB, ifK_bool, cond_false]
  · rw [List.take_of_length_le (by omega)] at ht; exact ht
 | d + 1, i, k + 1, v5, U, hi, hkk, g, ht => by
  have onU := g.on.trans ho
  have hlt : i < ks.length := by omega
  obtain ⟨p, p1, p2⟩ := (hk.grew0 g).ld onU (List.getElem?_eq_getElem hlt)
  rw [L30_10_eq, binV_ii, intsV_lss, dec_lt hlt, oB, ifK_bool, cond_true, p1, oB, p2, oB]
  dsimp only
  obtain ⟨U1, hf1, gf⟩ := hf U g _ (List.getElem_mem hlt)
  have g1 := g.trans gf
  have on1 := gf.on.trans onU
  rw [hf1, callP_ret, ifK_bool]
  have hadd : binV E0 .add 3 false true (.int .i64 (i : Int)) (.int .i64 1) = some (.int .i64 ((i + 1 : Nat) : Int)) := by
   rw [binV_ii, intsV_add, wrap_succ (by omega)]
  cases hq : f ks[i] with
  | true =>
   have hl : ((ks.take i).filter f).length < 100000 := Nat.lt_of_le_of_lt (List.length_filter_le _ _) (by rw [List.length_take]; omega)
   obtain ⟨y, W, v', T, b1, b2, b3, b4⟩ := (ht.grew gf).push on1 g1.next hl ks[i]
   rw [cond_true, b1, oB]
   dsimp only
   rw [b2, oB]
   dsimp only
   rw [hadd, oB]
   exact L30_spec ho hk hlen hf nk ek d (i + 1) k v' T (by omega) (by omega) (Grew.fresh g1 (Nat.le_refl _) b4) (by rw [take_push hlt, filter_push, hq, if_pos rfl]; exact b3)
  | false =>
   rw [cond_false, hadd, oB]
   exact L30_spec ho hk hlen hf nk ek d (i + 1) k v5 U1 (by omega) (by omega) g1 (by rw [take_push hlt, filter_push, hq, if_neg (by simp), List.append_nil]; exact ht.grew gf)
theorem kept30_run (n : Nat) (ho : S.on = false) {m : Nat} {kv : List (Bs × V)} (hM : MapS S m kv) (hm : m < S.next) (hn : (kv.map (·.1)).Nodup) (hs : ∀ p ∈ kv, p.1.length < 4611686018427387904) (hl : kv.length < 100000) {fv : V} {f : Bs → Bool}
 (hf : ∀ U, Grew (fun _ => False) S U → ∀ k ∈ kv.map (·.1), ∃ U', callK E0 (ev E0 KD (n + 1)) fv [sv k] U = some (.ret (.bool (f k)), U') ∧ Grew (fun _ => False) U U') :
 ∃ v U, (ev E0 KD (n + 2)).f 30 [.map m, fv] S = some (.ret v, U) ∧ TLo U v ((sortB (kv.map (·.1))).filter f) S.next ∧ Grew (fun _ => False) S U := by
 obtain ⟨A, a1, a2, a3, a4⟩ := box_map ho 48 m
 have onA := a3.on.trans ho
 have hk : (ev E0 KD (n + 1)).f 47 [.map m] S = some (.ret (.fn (.func 54) [] [.ptr S.next 0]), A) := rd47 (by
  show F47 (ev E0 KD n) rounds (.map m) S = _
  rw [F47_eq, a1]; rfl)
 obtain ⟨v7, B, b1, b2, b3⟩ := sorted_run n onA (g := 54) (by decide) a2 (hM.grew hm (fun h => h) a3) hn hs (by omega)
 have onB := b3.on.trans onA
 have gB := a3.trans b3
 have hlen : (sortB (kv.map (·.1))).length < 100000 := by rw [(sortB_perm _).length_eq, List.length_map]; exact hl
 obtain ⟨v, T, t1, t2, t3⟩ := L30_spec (n := n + 1) (N := rounds) onB b2 hlen (fun U g k hk => hf U (gB.trans g) k (mem_sortB.1 hk)) (R30_2 (ev E0 KD (n + 1)) rounds (finN E0 (ev E0 KD (n + 1)) Try.f30) noEx) (exB 0 (R30_2 (ev E0 KD (n + 1)) rounds (finN E0 (ev E0 KD (n + 1)) Try.f30) noEx) noEx) _ 0 rounds .nilslice B (Nat.zero_add _) (by unfold rounds; omega) (Grew.refl _ _) .nil
 refine ⟨v, T, rd30 ?_, ?_, gB.trans t2⟩
 · show F30 (ev E0 KD (n + 1)) rounds (.map m) fv S = _
   rw [F30_eq, hk, callP_ret, b1, callP_ret, b2.len, oB]
   dsimp only
   rw [show (V.int .i64 0) = .int .i64 ((0 : Nat) : Int) from rfl, t1, exB_same, R30_2_eq]
 · rcases t3 with h | ⟨r, h0, h1, h2, h3, h4⟩
   · exact .inl h
   · exact .inr ⟨r, h0, h1, h2, Nat.le_trans gB.next h3, h4⟩
end
end Go.Proofs.Ytginkdeicmdmaaa.W
namespace Go.Proofs.Ytginkdeicmdmaaa.W
theorem filt_lt {α : Type} {p q : α → Bool} : ∀ {l : List α}, (∀ x ∈ l, q x = true → p x = true) → (∃ x ∈ l, p x = true ∧ q x = false) → (l.filter q).length < (l.filter p).length
 | [], _, ⟨x, hx, _⟩ => by cases hx
 | a :: l, h, ⟨x, hx, h1, h2⟩ => by
  have hle : (l.filter q).length ≤ (l.filter p).length := by
   rw [← List.countP_eq_length_filter, ← List.countP_eq_length_filter]
   exact List.countP_mono_left fun x hx => h x (List.mem_cons_of_mem _ hx)
  rcases List.mem_cons.1 hx with rfl | hx
  · rw [List.filter_cons_of_pos h1, List.filter_cons_of_neg (by simp [h2]), List.length_cons]; omega
  · have := filt_lt (l := l) (fun x hx => h x (List.mem_cons_of_mem _ hx)) ⟨x, hx, h1, h2⟩
    cases hq : q a with
    | true =>
     have hp := h a (List.mem_cons_self ..) hq
     rw [List.filter_cons_of_pos hp, List.filter_cons_of_pos hq, List.length_cons, List.length_cons]; omega
    | false =>
     rw [List.filter_cons_of_neg (by simp [hq])]
     cases hp : p a with
     | true => rw [List.filter_cons_of_pos hp, List.length_cons]; omega
     | false => rw [List.filter_cons_of_neg (by simp [hp])]; exact this
def unv (ps : List Pth) (out : List Bs) : Nat := ((names ps).filter fun k => !decide (k ∈ out)).length
theorem unv_mono {ps : List Pth} {a b : List Bs} (h : ∀ x ∈ a, x ∈ b) : unv ps b ≤ unv ps a := by
 unfold unv
 rw [← List.countP_eq_length_filter, ← List.countP_eq_length_filter]
 refine List.countP_mono_left fun x _ hx => ?_
 simp only [Bool.not_eq_true', decide_eq_false_iff_not] at hx ⊢
 exact fun e => hx (h x e)
theorem unv_push {ps : List Pth} {out : List Bs} {p : Bs} (hp : p ∈ names ps) (hn : p ∉ out) : unv ps (out ++ [p]) < unv ps out := by
 refine filt_lt (fun x _ hx => ?_) ⟨p, hp, by simp [hn], by simp⟩
 simp only [Bool.not_eq_true', decide_eq_false_iff_not] at hx ⊢
 exact fun e => hx (List.mem_append_left _ e)
def dfs (ps : List Pth) : Nat → List Bs → Bs → List Bs
 | 0, out, _ => out
 | n + 1, out, p => match lkP p ps with
  | none => out
  | some q => if p ∈ out then out else q.refs.foldl (dfs ps n) (out ++ [p])
def Cl (ps : List Pth) (X : Bs → Prop) : Prop := ∀ a q, X a → lkP a ps = some q → ∀ r ∈ q.refs, X r
structure Dfs (ps : List Pth) (out : List Bs) (qs : List Bs) (o : List Bs) : Prop where
 sub : ∀ x ∈ out, x ∈ o
 ask : ∀ p ∈ qs, p ∈ names ps → p ∈ o
 cl : ∀ x ∈ o, x ∈ out ∨ (x ∈ names ps ∧ ∀ q, lkP x ps = some q → ∀ r ∈ q.refs, r ∈ names ps → r ∈ o)
 least : ∀ X : Bs → Prop, Cl ps X → (∀ p ∈ qs, X p) → ∀ x ∈ o, x ∈ out ∨ X x
 nd : out.Nodup → o.Nodup
theorem lk_names {ps : List Pth} {p : Bs} {q : Pth} (h : lkP p ps = some q) : p ∈ names ps := by
 by_cases hp : p ∈ names ps
 · exact hp
 · rw [lkP_none.2 hp] at h; cases h
theorem fold_spec {ps : List Pth} {n : Nat} (ih : ∀ out p, unv ps out ≤ n → Dfs ps out [p] (dfs ps (n + 1) out p)) : ∀ (l : List Bs) (out : List Bs), unv ps out ≤ n → Dfs ps out l (l.foldl (dfs ps (n + 1)) out)
 | [], out, _ => ⟨fun x h => h, fun p h => by (cases h), fun x h => .inl h, fun X _ _ x h => .inl h, fun h => h⟩
 | p :: l, out, hu => by
  have h1 := ih out p hu
  have h2 := fold_spec ih l (dfs ps (n + 1) out p) (Nat.le_trans (unv_mono h1.sub) hu)
  rw [List.foldl_cons]
  refine ⟨fun x hx => h2.sub x (h1.sub x hx), fun a ha hn => ?_, fun x hx => ?_, fun X hX ha x hx => ?_, fun h => h2.nd (h1.nd h)⟩
  · rcases List.mem_cons.1 ha with rfl | ha
    · exact h2.sub _ (h1.ask _ (by simp) hn)
    · exact h2.ask a ha hn
  · rcases h2.cl x hx with h | h
    · rcases h1.cl x h with h | ⟨h, h'⟩
      · exact .inl h
      · exact .inr ⟨h, fun q hq r hr hn => h2.sub _ (h' q hq r hr hn)⟩
    · exact .inr h
  · rcases h2.least X hX (fun a h => ha a (List.mem_cons_of_mem _ h)) x hx with h | h
    · exact h1.least X hX (fun a h => ha a (by simp at h; simp [h])) x h
    · exact .inr h
theorem dfs_spec {ps : List Pth} : ∀ (n : Nat) (out : List Bs) (p : Bs), unv ps out ≤ n → Dfs ps out [p] (dfs ps (n + 1) out p) := by
 intro n
 induction n with
 | zero =>
  intro out p hu
  unfold dfs
  cases hl : lkP p ps with
  | none => exact ⟨fun x h => h, fun a h hn => by (simp at h; subst h; exact absurd hn (lkP_none.1 hl)), fun x h => .inl h, fun X _ _ x h => .inl h, fun h => h⟩
  | some q =>
   by_cases ho : p ∈ out
   · simp only [if_pos ho]
     exact ⟨fun x h => h, fun a h hn => by (simp at h; subst h; exact ho), fun x h => .inl h, fun X _ _ x h => .inl h, fun h => h⟩
   · have := unv_push (lk_names hl) ho
     omega
 | succ n ih =>
  intro out p hu
  unfold dfs
  cases hl : lkP p ps with
  | none => exact ⟨fun x h => h, fun a h hn => by (simp at h; subst h; exact absurd hn (lkP_none.1 hl)), fun x h => .inl h, fun X _ _ x h => .inl h, fun h => h⟩
  | some q =>
   by_cases ho : p ∈ out
   · simp only [if_pos ho]
     exact ⟨fun x h => h, fun a h hn => by (simp at h; subst h; exact ho), fun x h => .inl h, fun X _ _ x h => .inl h, fun h => h⟩
   · simp only [if_neg ho]
     have hlt := unv_push (lk_names hl) ho
     have h2 := fold_spec ih q.refs (out ++ [p]) (by omega)
     refine ⟨fun x hx => h2.sub x (List.mem_append_left _ hx), fun a ha hn => ?_, fun x hx => ?_, fun X hX ha x hx => ?_, fun h => h2.nd ?_⟩
     · simp at ha; subst ha
       exact h2.sub _ (by simp)
     · rcases h2.cl x hx with h | h
       · rcases List.mem_append.1 h with h | h
         · exact .inl h
         · simp at h; subst h
           refine .inr ⟨lk_names hl, fun q' hq' r hr hn => ?_⟩
           rw [hl] at hq'
           cases hq'
           exact h2.ask r hr hn
       · exact .inr h
     · have hp : X p := ha p (by simp)
       rcases h2.least X hX (fun r hr => hX p q hp hl r hr) x hx with h | h
       · rcases List.mem_append.1 h with h | h
         · exact .inl h
         · simp at h; subst h; exact .inr hp
       · exact .inr h
     · rw [List.nodup_append]
       refine ⟨h, by simp, fun a ha b hb e => ?_⟩
       simp at hb; subst hb; subst e; exact ho ha
inductive Rch (ps : List Pth) (from_ : List Bs) : Bs → Prop where
 | root {a : Bs} (h : a ∈ from_) (hn : a ∈ names ps) : Rch ps from_ a
 | step {a r : Bs} {q : Pth} (h : Rch ps from_ a) (hq : lkP a ps = some q) (hr : r ∈ q.refs) (hn : r ∈ names ps) : Rch ps from_ r
def reachL (ps : List Pth) (from_ : List Bs) : List Bs := from_.foldl (dfs ps (ps.length + 1)) []
theorem unv_le (ps : List Pth) (out : List Bs) : unv ps out ≤ ps.length := by
 unfold unv
 refine Nat.le_trans (List.length_filter_le _ _) ?_
 unfold names
 rw [List.length_map]; exact Nat.le_refl _
theorem reachL_dfs (ps : List Pth) (from_ : List Bs) : Dfs ps [] from_ (reachL ps from_) := fold_spec (fun out p h => dfs_spec _ out p h) from_ [] (unv_le _ _)
theorem Rch.mem {ps : List Pth} {f : List Bs} {a : Bs} (h : Rch ps f a) : a ∈ names ps := by cases h <;> assumption
theorem mem_reachL {ps : List Pth} {f : List Bs} {a : Bs} : a ∈ reachL ps f ↔ Rch ps f a := by
 have h := reachL_dfs ps f
 constructor
 · intro ha
   rcases h.least (fun x => x ∈ names ps → Rch ps f x) (fun a q hx hq r hr hn => .step (hx (lk_names hq)) hq hr hn) (fun p hp hn => .root hp hn) a ha with h' | h'
   · cases h'
   · rcases h.cl a ha with h2 | ⟨h2, _⟩
     · cases h2
     · exact h' h2
 · intro ha
   induction ha with
   | root hf hn => exact h.ask _ hf hn
   | step h1 hq hr hn ih =>
    rcases h.cl _ ih with h2 | ⟨_, h2⟩
    · cases h2
    · exact h2 _ hq _ hr hn
theorem reachL_nd (ps : List Pth) (f : List Bs) : (reachL ps f).Nodup := (reachL_dfs ps f).nd .nil
end Go.Proofs.Ytginkdeicmdmaaa.W
