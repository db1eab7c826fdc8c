/-
  WHAT THE FUNCTIONS COME TO: each is read by the evaluator, printed, and told as a function of data, part 10 of 11 (no condition).
-/
import Derived.Test.YtbihlgcdnhoknaaW9
namespace Go.Proofs.Ytbihlgcdnhoknaa.W
open Go.Proofs.Ytbihlgcdnhoknaa.Ev Go.RowKit
abbrev Ents' := List (List UInt8 × Int)
def qh8 (f : Int → Nat) (P : List Int) : Nat := (P.map f).sum
theorem qi4 (f : Int → Nat) (x : Int) (P) : qh8 f (x :: P) = f x + qh8 f P := by unfold qh8; rw [List.map_cons, List.sum_cons]
theorem sumN_app (f : Int → Nat) (P Q : List Int) : qh8 f (P ++ Q) = qh8 f P + qh8 f Q := by unfold qh8; rw [List.map_append, List.sum_append]
theorem qls (f : Int → Nat) {x : Int} : ∀ {Q : List Int}, x ∈ Q → qh8 f Q = f x + qh8 f (Q.erase x)
 | [], h => by cases h
 | y :: Q, h => by
  by_cases hy : y = x
  · subst hy
    rw [List.erase_cons_head, qi4]
  · rw [List.erase_cons_tail (by simpa using hy), qi4, qi4]
    rcases List.mem_cons.1 h with rfl | h
    · exact absurd rfl hy
    · rw [qls f h]; omega
theorem qfs (f : Int → Nat) : ∀ {P Q : List Int}, P.Nodup → (∀ x ∈ P, x ∈ Q) → qh8 f P ≤ qh8 f Q
 | [], Q, _, _ => Nat.zero_le _
 | x :: P, Q, hn, h => by
  rw [List.nodup_cons] at hn
  rw [qi4, qls f (h x (List.mem_cons_self ..))]
  have := qfs f (P := P) (Q := Q.erase x) hn.2 fun y hy => by
   have hne : y ≠ x := fun e => hn.1 (e ▸ hy)
   exact (List.mem_erase_of_ne hne).2 (h y (List.mem_cons_of_mem _ hy))
  omega
theorem sumN_mem (f : Int → Nat) {x : Int} {P : List Int} (h : x ∈ P) : f x ≤ qh8 f P := by rw [qls f h]; omega
theorem len_sub {P Q : List Int} (hn : P.Nodup) (h : ∀ x ∈ P, x ∈ Q) : P.length ≤ Q.length := by
 have e : ∀ L : List Int, qh8 (fun _ => 1) L = L.length := fun L => by
  induction L with
  | nil => rfl
  | cons x L ih => rw [qi4, ih, List.length_cons]; omega
 have := qfs (fun _ => 1) hn h
 rw [e, e] at this
 exact this
def cE (T : Tab) (i j : Int) : Nat := match T.get j with
 | some p => qgk i p.ino.ents
 | none => 0
def dE (T : Tab) (j : Int) : Nat := match T.get j with
 | some p => p.ino.data.length
 | none => 0
def nums (T : Tab) : List Int := T.nodes.map (·.no)
theorem cntT_nums {T : Tab} (h : (T.nodes.map (·.no)).Nodup) (i : Int) : qdu i T.nodes = qh8 (cE T i) (nums T) := by
 unfold qdu qh8 nums
 rw [List.map_map]
 congr 1
 refine List.map_congr_left fun p hp => ?_
 show _ = cE T i p.no
 unfold cE
 rw [show T.get p.no = some p from qf4 h hp]
theorem sumD_nums {T : Tab} (h : (T.nodes.map (·.no)).Nodup) : qi3 T.nodes = qh8 (dE T) (nums T) := by
 unfold qi3 qh8 nums
 rw [List.map_map]
 congr 1
 refine List.map_congr_left fun p hp => ?_
 show _ = dE T p.no
 unfold dE
 rw [show T.get p.no = some p from qf4 h hp]
theorem qkk {T : Tab} {i : Int} (h : (T.get i).isSome) : i ∈ nums T := by
 cases hg : T.get i with
 | none => rw [hg] at h; cases h
 | some p => exact List.mem_map.2 ⟨p, (qan hg).1, (qan hg).2⟩
theorem nums_get {T : Tab} (h : (T.nodes.map (·.no)).Nodup) {i : Int} (hi : i ∈ nums T) : ∃ p, T.get i = some p := by
 obtain ⟨p, hp, rfl⟩ := List.mem_map.1 hi
 exact ⟨p, qf4 h hp⟩
def cN (i : Int) (E : Ents') (ns : List Bs) : Nat := (ns.map fun a => if lkS a E = some i then 1 else 0).sum
theorem cN_app (i : Int) (E : Ents') (ns ms : List Bs) : cN i E (ns ++ ms) = cN i E ns + cN i E ms := by unfold cN; rw [List.map_append, List.sum_append]
theorem cN_perm (i : Int) (E : Ents') {ns ms : List Bs} (h : ns.Perm ms) : cN i E ns = cN i E ms := by
 induction h with
 | nil => rfl
 | cons x _ ih => unfold cN at ih ⊢; rw [List.map_cons, List.map_cons, List.sum_cons, List.sum_cons, ih]
 | swap x y l => unfold cN; simp only [List.map_cons, List.sum_cons]; omega
 | trans _ _ h1 h2 => exact h1.trans h2
theorem lkS_of {E : Ents'} : (E.map (·.1)).Nodup → ∀ e ∈ E, lkS e.1 E = some e.2 := by
 induction E with
 | nil => intro _ e he; cases he
 | cons p E ih =>
  intro hn e he
  rw [List.map_cons, List.nodup_cons] at hn
  unfold lkS
  rcases List.mem_cons.1 he with rfl | he
  · rw [if_pos rfl]
  · rw [if_neg (fun h => hn.1 (List.mem_map.2 ⟨e, he, h⟩))]
    exact ih hn.2 e he
theorem cN_all (i : Int) {E : Ents'} (hn : (E.map (·.1)).Nodup) : cN i E (qfh (E.map (·.1))) = qgk i E := by
 rw [cN_perm i E (qf0 _)]
 unfold cN qgk
 rw [List.map_map]
 congr 1
 refine List.map_congr_left fun e he => ?_
 show (if lkS e.1 E = some i then 1 else 0) = _
 rw [lkS_of hn e he]
 by_cases h : e.2 = i
 · rw [if_pos h, if_pos (by rw [h])]
 · rw [if_neg h, if_neg (fun hh => h (Option.some.inj hh))]
theorem cN_le (i : Int) (E : Ents') (ns : List Bs) (j : Nat) : cN i E (ns.take j) ≤ cN i E ns := by
 conv => rhs; rw [← List.take_append_drop j ns, cN_app]
 omega
structure Bfi (T : Tab) (todo : List Int) (n : Nat) (C : Int → Nat) (E : Ents') (ns : List Bs) (j : Nat) : Prop where
 nd : todo.Nodup
 hd : 1 ∈ todo
 lt : ∀ i ∈ todo, (T.get i).isSome
 cn : ∀ i, C i = qh8 (cE T i) (todo.take n) + cN i E (ns.take j)
 mem : ∀ i, i ∈ todo ↔ i = 1 ∨ 1 ≤ C i
structure Bfs (T : Tab) (todo : List Int) (n : Nat) (C : Int → Nat) : Prop where
 nd : todo.Nodup
 hd : 1 ∈ todo
 lt : ∀ i ∈ todo, (T.get i).isSome
 cn : ∀ i, C i = qh8 (cE T i) (todo.take n)
 mem : ∀ i, i ∈ todo ↔ i = 1 ∨ 1 ≤ C i
def bump (C : Int → Nat) (i : Int) : Int → Nat := fun x => if x = i then C x + 1 else C x
section
variable {T : Tab} {k : Nat} {todo : List Int} {n j : Nat} {C : Int → Nat} {E : Ents'} {ns : List Bs}
theorem Bfs.start (ok : Ok T k) : Bfs T [1] 0 fun _ => 0 := by
 refine ⟨by simp, by simp, fun i hi => ?_, fun i => rfl, fun i => by simp⟩
 rw [List.mem_singleton] at hi
 subst hi
 obtain ⟨p, hp, _⟩ := ok.sd.root
 rw [hp]; rfl
theorem Bfs.inner (h : Bfs T todo n C) (E : Ents') (ns : List Bs) : Bfi T todo n C E ns 0 := ⟨h.nd, h.hd, h.lt, fun i => by rw [h.cn i]; rfl, h.mem⟩
theorem Bfi.outer (h : Bfi T todo n C E ns ns.length) (hn : n < todo.length) {p : Nod} (hp : T.get todo[n] = some p) (hE : p.ino.ents = E) (hns : ns = qfh (E.map (·.1))) (hk : (E.map (·.1)).Nodup) : Bfs T todo (n + 1) C :=
 ⟨h.nd, h.hd, h.lt, fun i => by
  rw [h.cn i, List.take_length, hns, cN_all i hk, List.take_add_one, List.getElem?_eq_getElem hn, Option.toList, sumN_app]
  congr 1
  show _ = cE T i todo[n] + 0
  unfold cE
  rw [hp]
  show _ = qgk i p.ino.ents + 0
  rw [hE]; rfl, h.mem⟩
theorem Bfi.le (ok : Ok T k) (h : Bfi T todo n C E ns j) (hn : n < todo.length) {p : Nod} (hp : T.get todo[n] = some p) (hE : p.ino.ents = E) (hns : ns = qfh (E.map (·.1))) (hk : (E.map (·.1)).Nodup) (i : Int) : C i ≤ qdu i T.nodes := by
 have h1 : qh8 (cE T i) (todo.take (n + 1)) ≤ qdu i T.nodes := by
  rw [cntT_nums ok.sd.key i]
  exact qfs _ (h.nd.sublist (List.take_sublist ..)) fun x hx => qkk (h.lt x (List.mem_of_mem_take hx))
 rw [List.take_add_one, List.getElem?_eq_getElem hn, Option.toList, sumN_app] at h1
 have h2 : qh8 (cE T i) [todo[n]] = qgk i E := by
  show cE T i todo[n] + 0 = _
  unfold cE
  rw [hp]
  show qgk i p.ino.ents + 0 = _
  rw [hE]; rfl
 have h3 := cN_le i E ns j
 rw [hns, cN_all i hk, ← hns] at h3
 rw [h.cn i]
 omega
theorem cN_step {a : Bs} (ha : ns[j]? = some a) {i : Int} (hl : lkS a E = some i) (x : Int) : cN x E (ns.take (j + 1)) = cN x E (ns.take j) + if x = i then 1 else 0 := by
 rw [List.take_add_one, ha, Option.toList, cN_app]
 congr 1
 show (if lkS a E = some x then 1 else 0) + 0 = _
 rw [hl]
 by_cases h : x = i
 · rw [if_pos h, if_pos (by rw [h])]; rfl
 · rw [if_neg h, if_neg (fun hh => h (Option.some.inj hh).symm)]; rfl
theorem qnh (C : Int → Nat) (i : Int) : bump C i i = C i + 1 := by unfold bump; rw [if_pos rfl]
theorem Bfi.bump_cn (h : Bfi T todo n C E ns j) {a : Bs} (ha : ns[j]? = some a) {i : Int} (hl : lkS a E = some i) (x : Int) : bump C i x = qh8 (cE T x) (todo.take n) + cN x E (ns.take (j + 1)) := by
 rw [cN_step ha hl x]
 unfold bump
 have := h.cn x
 by_cases hx : x = i
 · rw [if_pos hx, if_pos hx]; omega
 · rw [if_neg hx, if_neg hx]; omega
theorem Bfi.new (h : Bfi T todo n C E ns j) (hn : n < todo.length) {a : Bs} (ha : ns[j]? = some a) {i : Int} (hl : lkS a E = some i) (hi1 : i ≠ 1) (hg : (T.get i).isSome) (h0 : C i = 0) : Bfi T (todo ++ [i]) n (bump C i) E ns (j + 1) := by
 have hni : i ∉ todo := fun hm => by
  rcases (h.mem i).1 hm with e | e
  · exact hi1 e
  · omega
 have ht : (todo ++ [i]).take n = todo.take n := List.take_append_of_le_length (by omega)
 refine ⟨?_, List.mem_append_left _ h.hd, fun x hx => ?_, fun x => ?_, fun x => ?_⟩
 · rw [List.nodup_append]
   exact ⟨h.nd, by simp, fun x hx y hy e => hni (by rw [List.mem_singleton] at hy; rw [← hy, ← e]; exact hx)⟩
 · rcases List.mem_append.1 hx with hx | hx
   · exact h.lt x hx
   · rw [List.mem_singleton] at hx; rw [hx]; exact hg
 · rw [ht]; exact h.bump_cn ha hl x
 · rw [List.mem_append, List.mem_singleton, h.mem x]
   unfold bump
   by_cases hx : x = i
   · subst hx
     rw [if_pos rfl]
     exact ⟨fun _ => .inr (by omega), fun _ => .inr rfl⟩
   · rw [if_neg hx]
     exact ⟨fun hh => hh.elim id fun e => absurd e hx, .inl⟩
theorem Bfi.again (ok : Ok T k) (h : Bfi T todo n C E ns j) (hn : n < todo.length) {p : Nod} (hp : T.get todo[n] = some p) (hE : p.ino.ents = E) (hns : ns = qfh (E.map (·.1))) (hk : (E.map (·.1)).Nodup) {a : Bs} (ha : ns[j]? = some a) {i : Int} (hl : lkS a E = some i) (hi1 : i ≠ 1) {q : Nod} (hq : T.get i = some q) (h0 : C i ≠ 0) :
 Bfi T todo n (bump C i) E ns (j + 1) ∧ q.ino.kind = 1 := by
 have h' : Bfi T todo n (bump C i) E ns (j + 1) := by
  refine ⟨h.nd, h.hd, h.lt, fun x => h.bump_cn ha hl x, fun x => ?_⟩
  rw [h.mem x]
  unfold bump
  by_cases hx : x = i
  · subst hx
    rw [if_pos rfl]
    exact ⟨fun _ => .inr (by omega), fun _ => .inr (by omega)⟩
  · rw [if_neg hx]
 refine ⟨h', ?_⟩
 have h2 := h'.le ok hn hp hE hns hk i
 rw [qnh] at h2
 have h3 := ok.sd.cnt i q hq hi1
 have h4 := ok.nd i q hq
 rcases h4.knd with e | e | e
 · exact e
 · have := ok.sd.one i q hq e hi1
   omega
 · have := h4.lnk e
   omega
theorem Bfs.all (ok : Ok T k) (h : Bfs T todo todo.length C) : ∀ i p, T.get i = some p → i ∈ todo := by
 have step : ∀ i p, T.get i = some p → i ≠ 1 → (∀ x ∈ T.nodes, (∃ e ∈ x.ino.ents, e.2 = i) → x.no ∈ todo) → i ∈ todo := fun i p hp h1 hx => by
  have hc := ok.sd.cnt i p hp h1
  have hpos := (ok.nd i p hp).pos h1
  obtain ⟨x, hx1, e, he, he2⟩ := qk2 (i := i) (l := T.nodes) (by omega)
  have hxt := hx x hx1 ⟨e, he, he2⟩
  refine (h.mem i).2 (.inr ?_)
  rw [h.cn i, List.take_length]
  have h2 := sumN_mem (cE T i) hxt
  have h3 : 1 ≤ cE T i x.no := by
   unfold cE
   rw [show T.get x.no = some x from qf4 ok.sd.key hx1]
   exact qmo he he2
  omega
 have hup : ∀ {i m}, Up T i m → i ∈ todo := fun {i m} hU => by
  induction hU with
  | root => exact h.hd
  | @step i m q h1 h2 h3 h4 ih =>
   refine step i q h1 h3 fun x hx ⟨e, he, he2⟩ => ?_
   obtain ⟨_, y, m2, m3⟩ := ok.sd.ent x.no x (qf4 ok.sd.key hx) e he
   rw [he2, h1] at m2; cases m2
   rw [← m3 h2]; exact ih
 intro i p hp
 by_cases hk : p.ino.kind = 2
 · obtain ⟨m, _, hU⟩ := ok.sd.chn i p hp hk
   exact hup hU
 · have h1 : i ≠ 1 := fun e => by
    subst e
    obtain ⟨r, r1, r2, _⟩ := ok.sd.root
    rw [hp] at r1; cases r1
    exact hk r2
   refine step i p hp h1 fun x hx ⟨e, he, he2⟩ => ?_
   have hxg := qf4 ok.sd.key hx
   have hxk : x.ino.kind = 2 := by
    by_cases hk2 : x.ino.kind = 2
    · exact hk2
    · have := (ok.sd.fil x.no x hxg hk2).1
      rw [this] at he; cases he
   obtain ⟨m, _, hU⟩ := ok.sd.chn x.no x hxg hxk
   exact hup hU
theorem Bfs.len (ok : Ok T k) (h : Bfs T todo n C) : todo.length ≤ T.nodes.length := by
 have := len_sub h.nd (Q := nums T) fun x hx => qkk (h.lt x hx)
 unfold nums at this
 rw [List.length_map] at this
 exact this
theorem Bfi.len (h : Bfi T todo n C E ns j) : todo.length ≤ T.nodes.length := by
 have := len_sub h.nd (Q := nums T) fun x hx => qkk (h.lt x hx)
 unfold nums at this
 rw [List.length_map] at this
 exact this
theorem Bfs.fin (ok : Ok T k) (h : Bfs T todo todo.length C) : todo.length = T.nodes.length ∧ qh8 (dE T) todo = qi3 T.nodes ∧ ∀ i, C i = qdu i T.nodes := by
 have hsub : ∀ x ∈ todo, x ∈ nums T := fun x hx => qkk (h.lt x hx)
 have hsup : ∀ x ∈ nums T, x ∈ todo := fun x hx => by
  obtain ⟨p, hp⟩ := nums_get ok.sd.key hx
  exact h.all ok x p hp
 have hl := h.len ok
 have hl2 := len_sub ok.sd.key hsup
 have e1 : (T.nodes.map (·.no)).length = T.nodes.length := List.length_map ..
 refine ⟨by omega, ?_, fun i => ?_⟩
 · rw [sumD_nums ok.sd.key]
   exact Nat.le_antisymm (qfs _ h.nd hsub) (qfs _ ok.sd.key hsup)
 · rw [h.cn i, List.take_length, cntT_nums ok.sd.key i]
   exact Nat.le_antisymm (qfs _ h.nd hsub) (qfs _ ok.sd.key hsup)
theorem cnt_none (ok : Ok T k) {i : Int} (h : T.get i = none) : qdu i T.nodes = 0 := by
 rcases Nat.eq_zero_or_pos (qdu i T.nodes) with h0 | h0
 · exact h0
 · obtain ⟨x, hx, e, he, he2⟩ := qk2 (i := i) (l := T.nodes) h0
   obtain ⟨_, y, m2, _⟩ := ok.sd.ent x.no x (qf4 ok.sd.key hx) e he
   rw [he2, h] at m2; cases m2
end
set_option maxRecDepth 100000
section
variable {S U A : St} {b r : Nat} {T : Tab}
theorem Grew.into {W W' : Nat → Prop} {a c d : St} (h : Grew W a c) (k : Grew W' c d) (hw : ∀ x, x < a.next → W' x → W x) : Grew W a d :=
 ⟨Nat.le_trans h.next k.next, k.on.trans h.on, fun x hx hn => (k.keep x (Nat.lt_of_lt_of_le hx h.next) fun hh => hn (hw x hx hh)).trans (h.keep x hx hn)⟩
def rowI (l : List Int) : List (Tr V) := l.map fun a => Go.Proofs.Ytbihlgcdnhoknaa.Ev.one (.int .i64 a)
inductive IL (S : St) (r : Nat) : V → List Int → Prop where
 | slice {l : List Int} (h : RowAt S r 3 1 (rowI l)) (hr : r < S.next) : IL S r (.slice r 0 l.length l.length) l
 | oslice {l : List Int} (h : RowAt S r 3 1 (rowI l)) (hr : r < S.next) (h0 : 0 < l.length) : IL S r (.oslice r 0 l.length 1) l
theorem qe5 (l : List Int) : (rowI l).length = l.length := by unfold rowI; rw [List.length_map]
variable {x : Nat} {v : V} {l : List Int}
theorem IL.row (h : IL S x v l) : RowAt S x 3 1 (rowI l) ∧ x < S.next := by cases h <;> exact ⟨by assumption, by assumption⟩
theorem IL.inv (h : IL S x v l) : v = .slice x 0 l.length l.length ∨ (v = .oslice x 0 l.length 1 ∧ 0 < l.length) := by
 cases h with
 | slice => exact .inl rfl
 | oslice _ _ h0 => exact .inr ⟨rfl, h0⟩
theorem IL.grew {W : Nat → Prop} (h : IL S x v l) (hw : ¬ W x) (g : Grew W S U) : IL U x v l := by
 cases h with
 | slice h hr => exact .slice (h.grew hr hw g) (Nat.lt_of_lt_of_le hr g.next)
 | oslice h hr h0 => exact .oslice (h.grew hr hw g) (Nat.lt_of_lt_of_le hr g.next) h0
theorem IL.len (h : IL S x v l) (W : St) : lnS v W = some (.int .i64 (l.length : Int), W) := by cases h <;> rfl
theorem IL.ix (h : IL S x v l) {i : Nat} (hi : i < l.length) : ixP 1 v (.int .i64 (i : Int)) = some (.ptr x i) := by
 have h1 : ixP 1 v (.int .i64 (i : Int)) = bif Nat.blt i l.length then some (V.ptr x (0 + i * 1)) else none := by cases h <;> rfl
 rw [h1, blt_true.2 hi, cond_true, Nat.zero_add, Nat.mul_one]
theorem IL.ld (h : IL S x v l) (ho : S.on = false) {i : Nat} (hi : i < l.length) : ld1 (.ptr x i) S = some (.int .i64 l[i], S) := by
 show Go.Proofs.Ytbihlgcdnhoknaa.Ev.ld S x i = _
 exact h.row.1.ld1 ho (by unfold rowI; rw [List.getElem?_map, List.getElem?_eq_getElem hi]; rfl)
theorem IL.ldL (h : IL S x v l) (ho : S.on = false) {i : Nat} (hi : i < l.length) : ld1 (.ptr x i) (onS S) = some (.int .i64 l[i], S.lg [⟨x, i, i + 1, false⟩]) := ld1_lg ho (h.ld ho hi) []
theorem IL.push (ho : S.on = false) (h : IL S x v l) (hl : l.length < 1000) (a : Int) : ∃ v' U y W, bsP 3 1 1 (Go.Proofs.Ytbihlgcdnhoknaa.Ev.one (.int .i64 0)) [(0, .int .i64 a)] S = some (y, W) ∧ apP 3 1 8 v y W = some (v', U) ∧ IL U (S.next + 1) v' (l ++ [a]) ∧ Grew (fun z => z = x) S U := by
 obtain ⟨W, h1, h2, h3, h4⟩ := bsP_one ho 3 (Go.Proofs.Ytbihlgcdnhoknaa.Ev.one (.int .i64 0)) (qb5 .i64 a)
 have on1 := h3.on.trans ho
 have hx := h.row.2
 have hrow := h.row.1.grew hx (fun h => h) h3
 have hlm : (l ++ [a]).length = l.length + 1 := by rw [List.length_append]; rfl
 have hra : rowI (l ++ [a]) = rowI l ++ [Go.Proofs.Ytbihlgcdnhoknaa.Ev.one (.int .i64 a)] := by unfold rowI; rw [List.map_append]; rfl
 rcases h.inv with rfl | ⟨rfl, _⟩
 · have hld := hrow.ldN on1 l.length 0 (by rw [qe5]; omega)
   rw [Nat.zero_mul, List.drop_zero, List.take_of_length_le (by rw [qe5]; exact Nat.le_refl _)] at hld
   have hl1 := h2.ldN on1 1 0 (by simp)
   rw [Nat.zero_mul, List.drop_zero, List.take_of_length_le (by simp)] at hl1
   refine ⟨.oslice W.next 0 (l.length + 1) 1, qac W 3 1 (rowI l ++ [Go.Proofs.Ytbihlgcdnhoknaa.Ev.one (.int .i64 a)]), _, W, h1, ?_, ?_, ?_⟩
   · unfold apP
     rw [show lenV (.slice S.next 0 1 1) = some 1 from rfl, oB, show lenV (.slice x 0 l.length l.length) = some l.length from rfl, oB, blt_true.2 (show (l.length + 1) * (8 + 1 + 1) < qal by unfold qal; omega), cond_true]
     unfold qdi
     rw [show qb9 1 1 (.slice S.next 0 1 1) W = _ from hl1, oB]
     simp only
     rw [show Nat.ble (l.length + 1) l.length = false from by rw [qne]; omega, cond_false, show qb9 1 l.length (.slice x 0 l.length l.length) W = _ from hld, oB]
   · rw [h4]
     have := qea (e := 3) (z := 1) (l := rowI (l ++ [a])) on1 (by omega) (by rw [qe5, hlm]; unfold big; omega)
     rw [← hra, ← hlm]
     rw [h4] at this
     exact .oslice this (by show S.next + 1 < W.next + 1; omega) (by omega)
   · exact (h3.mono fun _ _ h => h.elim).trans (qce on1 _ _)
 · obtain ⟨U, k1, k2, k3, k4⟩ := ap1_more (B := 8) on1 h2 hrow (by rw [qe5]; unfold qal; omega) (by rw [qe5]; unfold big; omega)
   rw [qe5] at k1
   refine ⟨_, U, _, W, h1, k1, ?_, (h3.mono fun _ _ h => h.elim).trans k3⟩
   rw [h4] at k2 ⊢
   rw [← hra] at k2
   rw [← hlm]
   exact .oslice k2 (by omega) (by omega)
theorem und50 : und E0 50 = some (.map 3 3) := by kernel_rfl
def Cnt (S : St) (m : Nat) (C : Int → Nat) : Prop := m < S.next ∧ ∃ kv, MapAt S m (kvI kv) ∧ ∀ i, (lkI i kv).getD (.int .i64 0) = .int .i64 (C i)
variable {m : Nat} {C : Int → Nat}
theorem Cnt.grew {W : Nat → Prop} (h : Cnt S m C) (hw : ¬ W m) (g : Grew W S U) : Cnt U m C := by
 obtain ⟨h1, kv, h2, h3⟩ := h
 exact ⟨Nat.lt_of_lt_of_le h1 g.next, kv, h2.grew h1 hw g, h3⟩
theorem Cnt.look (h : Cnt S m C) (ho : S.on = false) (i : Int) : qae E0 50 (.map m) (.int .i64 i) false S = some (.int .i64 (C i), S) := by
 obtain ⟨_, kv, h2, h3⟩ := h
 have := look_int ho und50 zero3 h2 i none
 rw [h3 i] at this
 exact this
theorem lkI_setI (i : Int) (w : V) (j : Int) : ∀ kv, lkI j (qmk i w kv) = if j = i then some w else lkI j kv
 | [] => by show (if j = i then some w else none) = _; rfl
 | p :: kv => by
  unfold qmk
  by_cases hc : i = p.1
  · rw [if_pos hc]
    show (if j = i then some w else lkI j kv) = if j = i then some w else if j = p.1 then some p.2 else lkI j kv
    by_cases hj : j = i
    · rw [if_pos hj, if_pos hj]
    · rw [if_neg hj, if_neg hj, if_neg (fun e => hj (e.trans hc.symm))]
  · rw [if_neg hc]
    show (if j = p.1 then some p.2 else lkI j (qmk i w kv)) = if j = i then some w else if j = p.1 then some p.2 else lkI j kv
    rw [lkI_setI i w j kv]
    by_cases hj : j = p.1
    · rw [if_pos hj, if_pos hj, if_neg (fun e => hc (e.symm.trans hj))]
    · rw [if_neg hj, if_neg hj]
theorem Cnt.bump (h : Cnt S m C) (ho : S.on = false) (i : Int) : ∃ U, vu (qag E0 50 (.map m) (.int .i64 i) (.int .i64 ((C i + 1 : Nat) : Int)) S) = some (.tuple [], U) ∧ Cnt U m (bump C i) ∧ Grew (fun x => x = m) S U := by
 obtain ⟨h1, kv, h2, h3⟩ := h
 obtain ⟨es, c, k1, k2⟩ := qp8 ho und50 h2 i (.int .i64 ((C i + 1 : Nat) : Int))
 have hu := k2 none
 refine ⟨S.put m (.map es c), ?_, ⟨h1, qmk i (.int .i64 ((C i + 1 : Nat) : Int)) kv, ⟨es, c, by rw [qbr, if_pos rfl], k1⟩, fun j => ?_⟩, qb6 _ _⟩
 · rw [show qag E0 50 (.map m) (.int .i64 i) (.int .i64 ((C i + 1 : Nat) : Int)) S = _ from hu]; rfl
 · rw [lkI_setI]
   unfold Go.Proofs.Ytbihlgcdnhoknaa.W.bump
   by_cases hj : j = i
   · rw [if_pos hj, if_pos hj, hj]; rfl
   · rw [if_neg hj, if_neg hj]; exact h3 j
theorem cnt_new (ho : S.on = false) : ∃ U, qbz E0 50 none S = some (.map S.next, U) ∧ Cnt U S.next (fun _ => 0) ∧ Grew (fun _ => False) S U ∧ U.next = S.next + 1 :=
 ⟨nw S (.map [] 0), rfl, ⟨by show S.next < S.next + 1; omega, [], ⟨[], 0, by rw [qf8, if_pos rfl], MapOk.new⟩, fun _ => rfl⟩, qce ho _ _, rfl⟩
theorem neqB (p q : Bool) : qab E0 .neq 4 false false (.bool p) (.bool q) = some (.bool (p != q)) := by cases p <;> cases q <;> kernel_rfl
theorem geqS (t : TypeId) (c d : Bool) (a e : List UInt8) : qab E0 .geq t c d (sv a) (sv e) = some (.bool (!Op.bytesLess a e)) := by rw [binV_ss, strOp_geq]
theorem lssI (t : TypeId) (c d : Bool) (x y : Int) : qab E0 .lss t c d (.int .i64 x) (.int .i64 y) = some (.bool (decide (x < y))) := by rw [binV_ii, intsV_lss]
theorem gtrI' (t : TypeId) (c d : Bool) (x y : Int) : qab E0 .gtr t c d (.int .i64 x) (.int .i64 y) = some (.bool (decide (y < x))) := by rw [binV_ii, intsV_gtr]
theorem up_on (h : TabAt S b r T) (m : Nat) (i : Int) (hx : ¬ Own b r T x) {ls : List (Tr V)} {e : Nat} (hb : RowAt S x e 1 ls) (hlt : x < S.next) : ∃ L, (ev E0 KD (m + 2)).f 17 [.ptr b 0, .int .i64 i] (onS S) = some (.ret (.int .i64 (match T.get i with | some p => p.ino.up | none => 0)), S.lg L) ∧ ∀ e ∈ L, e.w = false ∨ e.b ≠ x := by
 obtain ⟨c, hc, _⟩ := hb.row
 have k1 := up_run (h.icy (e := e) (z := 1) (n := ls.length) (c := c) hx) m i
 obtain ⟨L, q1, q2⟩ := Fz.ev_log fzD lgD (icy_same hc hlt) k1 (up_run h m i)
 exact ⟨L, q1, q2⟩
theorem row_ne {b e e' z z' : Nat} {l l' : List (Tr V)} (h : RowAt S b e z l) (h' : RowAt S b e' z' l') : e = e' := by
 obtain ⟨c, h1, _⟩ := h.row
 obtain ⟨c', h2, _⟩ := h'.row
 rw [h1] at h2
 simp only [oS, O.cells.injEq] at h2
 exact h2.1
theorem row_map {b e z : Nat} {l : List (Tr V)} (h : RowAt S b e z l) (h' : Cnt S b C) : False := by
 obtain ⟨c, h1, _⟩ := h.row
 obtain ⟨_, kv, ⟨es, cl, h2, _⟩, _⟩ := h'
 rw [h1] at h2; cases h2
theorem TL.ldL {w : V} {ns : List Bs} (h : TL S w ns) (ho : S.on = false) {i : Nat} (hi : i < ns.length) : ∃ p L, ixP 1 w (.int .i64 (i : Int)) = some p ∧ ld1 p (onS S) = some (sv ns[i], S.lg [L]) ∧ L.w = false := by
 obtain ⟨r, o, ls, h1, h2, h3⟩ := h.ix (List.getElem?_eq_getElem hi)
 exact ⟨_, ⟨r, o, o + 1, false⟩, h1, ld1_lg ho (show ld1 (.ptr r o) S = _ from h2.ld1 ho h3) [], rfl⟩
end
section
variable {S U A : St} {b r : Nat} {T : Tab} {k : Nat} {mp : Nat} {C : Int → Nat}
theorem count_is (ok : Ok T k) {i : Int} (h2 : 2 ≤ i) (hC : C i = qdu i T.nodes) : (T.get i = none ∧ C i = 0) ∨ ∃ p, T.get i = some p ∧ p.ino.links = C i ∧ 1 ≤ C i := by
 cases hg : T.get i with
 | none => exact .inl ⟨rfl, by rw [hC]; exact cnt_none ok hg⟩
 | some p =>
  have h1 : i ≠ 1 := by omega
  have := ok.sd.cnt i p hg h1
  have := (ok.nd i p hg).pos h1
  exact .inr ⟨p, rfl, by omega, by omega⟩
theorem L85_run (ok : Ok T k) (hC : ∀ i, C i = qdu i T.nodes) (m N : Nat) (nk : Ac → St → Rs) (ek : Nat → Ac → St → Rs) (v0 v5 v7 v12 v13 : V) :
 ∀ (d f i : Nat) {S : St}, i + d = 70 → d < f → 2 ≤ i → TabAt S b r T → Cnt S mp C → ∃ U, L5_85 (ev E0 KD (m + 2)) N nk ek f v0 v5 (.ptr b 0) v7 (.map mp) v12 v13 (.int .i64 (i : Int)) S = ek 6 (fr 242 [(0, v0), (5, v5), (6, .ptr b 0), (7, v7), (12, v12), (13, v13)]) U ∧ TabAt U b r T ∧ Cnt U mp C ∧ Grew (fun _ => False) S U
 | d, 0, i, S, hid, hd, _, _, _ => by omega
 | 0, f + 1, i, S, hid, hd, h2, h, hc => by
  refine ⟨S, ?_, h, hc, Grew.refl _ _⟩
  rw [L5_85_eq, lssI, oB, ifK_bool, decide_eq_false (show ¬ (i : Int) < 70 by omega), cond_false]
 | d + 1, f + 1, i, S, hid, hd, h2, h, hc => by
  rcases count_is ok (i := (i : Int)) (by omega) (hC i) with ⟨hg, h0⟩ | ⟨p, hg, hl, h1⟩
  · obtain ⟨A, a1, a2, a3⟩ := node_none h m (i : Int) hg
    obtain ⟨B, b1, b2, b3, b4⟩ := agg4 A a2.on (.int .i64 0) (.int .i64 0) (sv []) (.int .i64 0)
    have hB := a2.grewF b3
    have cB := (hc.grew (fun h => h) a3).grew (fun h => h) b3
    obtain ⟨U, u1, u2, u3, u4⟩ := L85_run ok hC m N nk ek v0 v5 v7 v12 v13 d f (i + 1) (by omega) (by omega) (by omega) hB cB
    refine ⟨U, ?_, u2, u3, (a3.trans b3).trans u4⟩
    rw [L5_85_eq, lssI, oB, ifK_bool, decide_eq_true (show (i : Int) < 70 by omega), cond_true]
    rw [show (ev E0 KD (m + 2)).f 12 [.ptr b 0, .int .i64 (i : Int)] S = _ from a1, callP_ret, qk8, oB, qk9, oB, oB, qdc, b1, oB]
    dsimp only
    rw [cB.look hB.on, oB]
    dsimp only
    rw [h0]
    simp only [gtrI', oB, show decide ((0 : Int) < ((0 : Nat) : Int)) = false from rfl, neqB, bne_self_eq_false, gFF, cond_true, gTF, cond_false, pickV_bool, ifK_bool]
    rw [addI 3 false true _ _ (by unfold qau; omega) (by unfold qau; omega), oB]
    exact u1
  · obtain ⟨A, a1, a2, a3⟩ := node_run h m (i : Int) hg
    obtain ⟨B, b1, b2, b3, b4⟩ := agg4 A a2.on (.int .i64 p.ino.kind) (.int .i64 p.ino.mode) (sv p.ino.data) (.int .i64 p.ino.links)
    have hB := a2.grewF b3
    have cB := (hc.grew (fun h => h) a3).grew (fun h => h) b3
    obtain ⟨U, u1, u2, u3, u4⟩ := L85_run ok hC m N nk ek v0 v5 v7 v12 v13 d f (i + 1) (by omega) (by omega) (by omega) hB cB
    refine ⟨U, ?_, u2, u3, (a3.trans b3).trans u4⟩
    rw [L5_85_eq, lssI, oB, ifK_bool, decide_eq_true (show (i : Int) < 70 by omega), cond_true]
    rw [show (ev E0 KD (m + 2)).f 12 [.ptr b 0, .int .i64 (i : Int)] S = _ from a1, callP_ret, qk8, oB, qk9, oB, oB, qdc, b1, oB]
    dsimp only
    rw [cB.look hB.on, oB]
    dsimp only
    simp only [gtrI', oB, decide_eq_true (show (0 : Int) < (C (i : Int) : Int) by omega), neqB, bne_self_eq_false, gFF, cond_true, gTT, qcy, Nat.zero_add]
    rw [show ld1 (.ptr A.next 3) B = some (.int .i64 p.ino.links, B) from Bx6.ld hB.on b2 big4 rfl, oB]
    dsimp only
    rw [cB.look hB.on, oB]
    dsimp only
    rw [hl]
    simp only [neq3, beq_self_eq_true, Bool.not_true, oB, pickV_bool, cond_true, cond_false, ifK_bool]
    rw [addI 3 false true _ _ (by unfold qau; omega) (by unfold qau; omega), oB]
    exact u1
theorem R64_run (h : TabAt S b r T) (ok : Ok T k) (m N : Nat) (nk : Ac → St → Rs) (ek : Nat → Ac → St → Rs) (v0 v7 : V) {q : Nat} (hq : Bx S q 26 [.int .i64 T.qi, .int .i64 T.qb]) (hlt : q < S.next) {n : Nat} {s : Nat} (hn : n = T.nodes.length) (hs : s = qi3 T.nodes) :
 ∃ U, R5_64 (ev E0 KD (m + 1)) N nk ek (fr 242 [(0, v0), (5, .ptr q 0), (6, .ptr b 0), (7, v7), (12, .int .i64 (n : Int)), (13, .int .i64 (s : Int))]) S = nk (fr 242 [(0, v0), (5, .ptr q 0), (6, .ptr b 0), (7, v7)]) U ∧ TabAt U b r T ∧ Grew (fun _ => False) S U := by
 obtain ⟨A, a1, a2, a3⟩ := qn4 h m
 have hqA := hq.grew hlt (fun h => h) a3
 refine ⟨A, ?_, a2, a3⟩
 have e1 : T.ui = (n : Int) := by rw [hn]; exact ok.num
 have e2 : T.ub = (s : Int) := by rw [hs]; exact ok.byt
 have e3 := ok.qi
 have e4 := ok.qb
 rw [R5_64_eq, show (ev E0 KD (m + 1)).f 11 [.ptr b 0] S = _ from a1, callP_ret, build26, oB, e1, e2, qky, oB]
 simp only [gFF, oB, cond_true, qcy, Nat.zero_add]
 rw [show ld1 (.ptr q 0) A = some (.int .i64 T.qi, A) from Bx6.ld a2.on hqA big2 rfl, oB]
 dsimp only
 rw [gtrI', decide_eq_false (show ¬ T.qi < (n : Int) by omega)]
 simp only [gFF, oB, cond_true, pickV_bool, cond_false]
 rw [show ld1 (.ptr q 1) A = some (.int .i64 T.qb, A) from Bx6.ld a2.on hqA big2 rfl, oB]
 dsimp only
 rw [gtrI', decide_eq_false (show ¬ T.qb < (s : Int) by omega)]
 simp only [gFF, oB, cond_true, pickV_bool, cond_false, ifK_bool]
end
noncomputable def sd1 (self : EV) (N : Nat) (nk : Ac → St → Rs) (ek : Nat → Ac → St → Rs) (n : Nat) (v0 v5 v6 v7 v10 v11 v12 v13 v14 v17 v18 t199 q : V) (S250 : St) : Rs :=
(qae E0 50 v10 t199 false S250).bind fun p254 =>
(qab E0 .add 3 false true p254.1 (.int .i64 1)).bind fun t255 =>
(vu (qag E0 50 v10 t199 t255 p254.2)).bind fun p256 =>
(qae E0 50 v10 t199 false p256.2).bind fun p259 =>
(qab E0 .eql 3 false true p259.1 (.int .i64 1)).bind fun t260 =>
ifK t260 (
(bsP 3 1 1 (Go.Proofs.Ytbihlgcdnhoknaa.Ev.one (.int .i64 0)) [(0, t199)] p259.2).bind fun p263 =>
(apP 3 1 8 v11 p263.1 p263.2).bind fun p264 =>
(qab E0 .add 3 false true v18 (.int .i64 1)).bind fun t267 =>
qiv self N nk ek n v0 v5 v6 v7 v10 p264.1 v12 v13 v14 v17 t267 p264.2) (
(faP 0 false 1 q).bind fun t269 =>
(ld1 t269 p259.2).bind fun p270 =>
(qab E0 .neq 3 false true p270.1 (.int .i64 1)).bind fun t271 =>
ifK t271 (
some (.ret (.bool false), p270.2)) (
(qab E0 .add 3 false true v18 (.int .i64 1)).bind fun t274 =>
qiv self N nk ek n v0 v5 v6 v7 v10 v11 v12 v13 v14 v17 t274 p270.2))
theorem L5_183_cut (self : EV) (N : Nat) (nk : Ac → St → Rs) (ek : Nat → Ac → St → Rs) (n : Nat) ( v0 v5 v6 v7 v10 v11 v12 v13 v14 v17 v18 : V) (S : St) : qiv self N nk ek (n + 1) v0 v5 v6 v7 v10 v11 v12 v13 v14 v17 v18 S =
(lnS v17 S).bind fun p186 =>
(qab E0 .lss 3 false false v18 p186.1).bind fun t187 =>
ifK t187 (
(ixP 1 v11 v14).bind fun t191 =>
(ld1 t191 (onS p186.2)).bind fun p192 =>
(ixP 1 v17 v18).bind fun t195 =>
(ld1 t195 (onS p192.2)).bind fun p196 =>
qd1 (qah E0 (B5.r.r.r.r.l.r.l.l.r.l.l.r.r.r.r.r.r.l.r.l.l.r.l.l.r.r.r.r.r.r.r.l.l.r.l.l.l).ops) p186.2 9 [[], [], [], [], p192.2.log, [], [], [], p196.2.log] (self.f 13 [v6, p192.1, p196.1] (onS p196.2)) fun t197 S197 =>
(qa6 t197 0).bind fun t199 =>
(qa6 t197 1).bind fun t200 =>
qid [(4, [8])] p186.2 [[], [], [], [], p192.2.log, [], [], [], p196.2.log, S197.log, [], [], [], [], []] (onS S197) fun S203 =>
qaj (self.f 12 [v6, t199] S203) fun t206 S206 =>
(qa6 t206 0).bind fun t208 =>
(qa6 t206 1).bind fun t209 =>
(some (nwP 35 4 (Tr.ofListFrom .nil [(.int .i64 0), (.int .i64 0), (sv []), (.int .i64 0)] 0) S206)).bind fun p210 =>
(stP 4 p210.1 t208 p210.2).bind fun p211 =>
(unV .not t200).bind fun t214 =>
(qa2 false t214).bind fun g216 => (bif g216 then some t209 else some (.tuple [])).bind fun t216 =>
(qa2 false t214).bind fun g217 => (bif g217 then unV .not t216 else some (.tuple [])).bind fun t217 =>
(qbg t214 (some (.bool true)) (some t217)).bind fun t218 =>
(qa2 false t218).bind fun g220 => (bif g220 then some v18 else some (.tuple [])).bind fun t220 =>
(qa2 false t218).bind fun g221 => (bif g221 then qab E0 .gtr 3 false true t220 (.int .i64 0) else some (.tuple [])).bind fun t221 =>
(qa2 false t218).bind fun g222 => (bif g222 then some t221 else some (.tuple [])).bind fun t222 =>
(qa2 true t222).bind fun g223 => (bif g223 then some v17 else some (.tuple [])).bind fun t223 =>
(qa2 true t222).bind fun g224 => (bif g224 then some v18 else some (.tuple [])).bind fun t224 =>
(qa2 true t222).bind fun g225 => (bif g225 then qab E0 .sub 3 false true t224 (.int .i64 1) else some (.tuple [])).bind fun t225 =>
(qa2 true t222).bind fun g226 => (bif g226 then ixP 1 t223 t225 else some (.tuple [])).bind fun t226 =>
(qa2 true t222).bind fun g227 => (bif g227 then ld1 t226 (onS p211.2) else some (.tuple [], (onS p211.2))).bind fun p227 =>
(qa2 true t222).bind fun g228 => (bif g228 then some v17 else some (.tuple [])).bind fun t228 =>
(qa2 true t222).bind fun g229 => (bif g229 then some v18 else some (.tuple [])).bind fun t229 =>
(qa2 true t222).bind fun g230 => (bif g230 then ixP 1 t228 t229 else some (.tuple [])).bind fun t230 =>
(qa2 true t222).bind fun g231 => (bif g231 then ld1 t230 (onS p227.2) else some (.tuple [], (onS p227.2))).bind fun p231 =>
(qa2 true t222).bind fun g232 => (bif g232 then qab E0 .geq 9 false false p227.1 p231.1 else some (.tuple [])).bind fun t232 =>
(qa2 false t218).bind fun g233 => (bif g233 then qbg t222 (some t232) (some (.bool false)) else some (.tuple [])).bind fun t233 =>
(qbg t218 (some (.bool true)) (some t233)).bind fun t234 =>
(qa2 false t234).bind fun g236 => (bif g236 then faP 0 false 1 p210.1 else some (.tuple [])).bind fun t236 =>
(qa2 false t234).bind fun g237 => (bif g237 then ld1 t236 (onS p231.2) else some (.tuple [], (onS p231.2))).bind fun p237 =>
(qa2 false t234).bind fun g238 => (bif g238 then qab E0 .eql 3 false true p237.1 (.int .i64 2) else some (.tuple [])).bind fun t238 =>
(qa2 false t234).bind fun g239 => (bif g239 then some t238 else some (.tuple [])).bind fun t239 =>
(qa2 true t239).bind fun g240 => (bif g240 then some v6 else some (.tuple [])).bind fun t240 =>
(qa2 true t239).bind fun g241 => (bif g241 then some t199 else some (.tuple [])).bind fun t241 =>
(qa2 true t239).bind fun g242 => qd1 (qah E0 (B5.r.r.r.r.l.r.l.l.r.l.l.r.r.r.r.r.r.l.r.l.l.r.l.l.r.r.r.r.r.r.r.l.l.r.l.l.r.r.l.l).ops) p211.2 29 [[], [], [], [], [], [], [], [], [], [], [], [], [], [], p227.2.log, [], [], [], p231.2.log, [], [], [], [], [], p237.2.log, [], [], [], []] (bif g242 then self.f 17 [t240, t241] (onS p237.2) else some (.ret (.tuple []), (onS p237.2))) fun t242 S242 =>
(qa2 true t239).bind fun g243 => (bif g243 then some v11 else some (.tuple [])).bind fun t243 =>
(qa2 true t239).bind fun g244 => (bif g244 then some v14 else some (.tuple [])).bind fun t244 =>
(qa2 true t239).bind fun g245 => (bif g245 then ixP 1 t243 t244 else some (.tuple [])).bind fun t245 =>
(qa2 true t239).bind fun g246 => (bif g246 then ld1 t245 (onS S242) else some (.tuple [], (onS S242))).bind fun p246 =>
(qa2 true t239).bind fun g247 => (bif g247 then qab E0 .neq 3 false false t242 p246.1 else some (.tuple [])).bind fun t247 =>
(qa2 false t234).bind fun g248 => (bif g248 then qbg t239 (some t247) (some (.bool false)) else some (.tuple [])).bind fun t248 =>
(qbg t234 (some (.bool true)) (some t248)).bind fun t249 =>
qid [(14, [18]), (29, [33])] p211.2 [[], [], [], [], [], [], [], [], [], [], [], [], [], [], p227.2.log, [], [], [], p231.2.log, [], [], [], [], [], p237.2.log, [], [], [], [], S242.log, [], [], [], p246.2.log, [], [], []] (onS p246.2) fun S250 =>
ifK t249 (
some (.ret (.bool false), S250)) (sd1 self N nk ek n v0 v5 v6 v7 v10 v11 v12 v13 v14 v17 v18 t199 p210.1 S250)) (
ek 4 (fr 242 [(0, v0), (5, v5), (6, v6), (7, v7), (10, v10), (11, v11), (12, v12), (13, v13), (14, v14)]) p186.2) := L5_183_eq self N nk ek n v0 v5 v6 v7 v10 v11 v12 v13 v14 v17 v18 S
section
variable {S U A : St} {b r : Nat} {T : Tab} {k : Nat} {mp rt : Nat} {C : Int → Nat} {todo : List Int} {n j : Nat} {E : Ents'} {ns : List Bs} {w11 w17 : V}
theorem name_head (h : TabAt S b r T) (m N : Nat) (nk : Ac → St → Rs) (ek : Nat → Ac → St → Rs) (f : Nat) (v0 v5 v7 v10 v12 v13 : V) (hI : IL S rt w11 todo) (hrt : ¬ Own b r T rt) (hn : n < todo.length) (hN : TL S w17 ns) (hs : ns.Pairwise (· < ·)) (hj : j < ns.length) (hj2 : ns.length ≤ 1000) {i : Int} {q : Nod} (hfind : T.find todo[n] ns[j] = some i) (hq : T.get i = some q) (hup : q.ino.kind = 2 → q.ino.up = todo[n]) :
 ∃ B x, qiv (ev E0 KD (m + 2)) N nk ek (f + 1) v0 v5 (.ptr b 0) v7 v10 w11 v12 v13 (.int .i64 (n : Int)) w17 (.int .i64 (j : Int)) S = sd1 (ev E0 KD (m + 2)) N nk ek f v0 v5 (.ptr b 0) v7 v10 w11 v12 v13 (.int .i64 (n : Int)) w17 (.int .i64 (j : Int)) (.int .i64 i) (.ptr x 0) B ∧ Grew (fun _ => False) S B ∧ x < B.next ∧ Bx B x 35 [.int .i64 q.ino.kind, .int .i64 q.ino.mode, sv q.ino.data, .int .i64 q.ino.links] := by
 obtain ⟨l1, f1⟩ := Lg.ev_onS lgD (qig h m todo[n] ns[j])
 rw [hfind] at f1
 obtain ⟨A, a1, a2, a3⟩ := node_run h m i hq
 obtain ⟨B, b1, b2, b3, b4⟩ := agg4 A a2.on (.int .i64 q.ino.kind) (.int .i64 q.ino.mode) (sv q.ino.data) (.int .i64 q.ino.links)
 have hB := a2.grewF b3
 have gB := a3.trans b3
 have iB := hI.grew (fun h => h) gB
 have nB := hN.grew0 gB
 obtain ⟨pj, Lj, j1, j2, j3⟩ := hN.ldL h.on hj
 obtain ⟨pj', Lj', j1', j2', j3'⟩ := nB.ldL hB.on hj
 obtain ⟨L, u1, u2⟩ := up_on hB m i hrt iB.row.1 iB.row.2
 have gat : Grew (fun _ => False) B (atS B B) := qcm (Grew.refl _ _) hB.on
 refine ⟨B, A.next, ?_, gB, by omega, b2⟩
 rw [L5_183_cut, hN.len, oB]
 dsimp only
 rw [lssI, oB, ifK_bool, decide_eq_true (show (j : Int) < (ns.length : Int) by omega), cond_true]
 rw [hI.ix hn, oB, hI.ldL h.on hn, oB]
 dsimp only
 rw [j1, oB, qa1, j2, oB]
 dsimp only
 rw [qa1, show (ev E0 KD (m + 2)).f 13 [.ptr b 0, .int .i64 todo[n], sv ns[j]] (onS S) = _ from f1, qak, qk8, oB, qk9, oB]
 rw [qc6 (by
  show selRd [[], [], [], [], [⟨rt, n, n + 1, false⟩], [], [], [], [Lj], l1, [], [], [], [], []] [(4, [8])] = true
  unfold selRd
  show ((!false && true) && ((!Lj.w && true) && true) && true) = true
  rw [j3]; rfl), qa1, qcq h.on]
 rw [show (V.int .i64 ((some i).getD 0)) = .int .i64 i from rfl, show (ev E0 KD (m + 2)).f 12 [.ptr b 0, .int .i64 i] S = _ from a1, callP_ret, qk8, oB, qk9, oB, oB, qdc, b1, oB]
 dsimp only
 rw [show (some i).isSome = true from rfl, notV, oB]
 simp only [Bool.not_true, gFF, oB, cond_true, notV, pickV_bool, cond_false]
 have hk : ld1 (.ptr A.next 0) (onS B) = some (.int .i64 q.ino.kind, B.lg [⟨A.next, 0, 1, false⟩]) := Bx6.ldL hB.on b2 big4 rfl
 have tail : ∀ (L14 L18 : List LE), (∀ e ∈ L14, e.w = false) → (∀ e ∈ L18, e.w = false) →
  ((Option.bind (ld1 (.ptr A.next 0) (onS B)) fun p237 =>
    (qab E0 .eql 3 false true p237.1 (.int .i64 2)).bind fun t238 =>
    (qa2 true t238).bind fun g240 => (bif g240 then some (.ptr b 0) else some (.tuple [])).bind fun t240 =>
    (qa2 true t238).bind fun g241 => (bif g241 then some (.int .i64 i) else some (.tuple [])).bind fun t241 =>
    (qa2 true t238).bind fun g242 => qd1 (qah E0 (B5.r.r.r.r.l.r.l.l.r.l.l.r.r.r.r.r.r.l.r.l.l.r.l.l.r.r.r.r.r.r.r.l.l.r.l.l.r.r.l.l).ops) B 29 [[], [], [], [], [], [], [], [], [], [], [], [], [], [], L14, [], [], [], L18, [], [], [], [], [], p237.2.log, [], [], [], []] (bif g242 then (ev E0 KD (m + 2)).f 17 [t240, t241] (onS p237.2) else some (.ret (.tuple []), (onS p237.2))) fun t242 S242 =>
    (qa2 true t238).bind fun g243 => (bif g243 then some w11 else some (.tuple [])).bind fun t243 =>
    (qa2 true t238).bind fun g244 => (bif g244 then some (.int .i64 (n : Int)) else some (.tuple [])).bind fun t244 =>
    (qa2 true t238).bind fun g245 => (bif g245 then ixP 1 t243 t244 else some (.tuple [])).bind fun t245 =>
    (qa2 true t238).bind fun g246 => (bif g246 then ld1 t245 (onS S242) else some (.tuple [], (onS S242))).bind fun p246 =>
    (qa2 true t238).bind fun g247 => (bif g247 then qab E0 .neq 3 false false t242 p246.1 else some (.tuple [])).bind fun t247 =>
    (qbg t238 (some t247) (some (.bool false))).bind fun t248 =>
    qid [(14, [18]), (29, [33])] B [[], [], [], [], [], [], [], [], [], [], [], [], [], [], L14, [], [], [], L18, [], [], [], [], [], p237.2.log, [], [], [], [], S242.log, [], [], [], p246.2.log, [], [], []] (onS p246.2) fun S250 =>
    ifK t248 (some (.ret (.bool false), S250)) (sd1 (ev E0 KD (m + 2)) N nk ek f v0 v5 (.ptr b 0) v7 v10 w11 v12 v13 (.int .i64 (n : Int)) w17 (.int .i64 (j : Int)) (.int .i64 i) (.ptr A.next 0) S250)) = sd1 (ev E0 KD (m + 2)) N nk ek f v0 v5 (.ptr b 0) v7 v10 w11 v12 v13 (.int .i64 (n : Int)) w17 (.int .i64 (j : Int)) (.int .i64 i) (.ptr A.next 0) B) := fun L14 L18 h14 h18 => by
  rw [hk, oB]
  dsimp only
  rw [qhl, oB]
  by_cases hkd : q.ino.kind = 2
  · rw [decide_eq_true hkd]
    simp only [gTT, oB, cond_true, qa1]
    rw [show (ev E0 KD (m + 2)).f 17 [.ptr b 0, .int .i64 i] (onS B) = _ from u1, qak, hq]
    dsimp only
    simp only [gTT, oB, cond_true, qa1]
    rw [iB.ix hn, oB, iB.ldL hB.on hn, oB]
    dsimp only
    simp only [gTT, oB, cond_true, qa1, hup hkd, neq3, beq_self_eq_true, Bool.not_true, pickV_bool]
    rw [qlb (qik fun p hp j' hj' => qk1 ?_), qcq hB.on, ifK_bool, cond_false]
    simp only [List.mem_cons, List.not_mem_nil, or_false] at hp
    rcases hp with rfl | rfl
    · simp only [List.mem_cons, List.not_mem_nil, or_false] at hj'
      subst hj'
      intro e he f' hf'
      exact .inr ⟨h14 e he, h18 f' hf'⟩
    · simp only [List.mem_cons, List.not_mem_nil, or_false] at hj'
      subst hj'
      intro e he f' hf'
      have hf2 := List.mem_singleton.1 hf'
      subst hf2
      rcases u2 e he with h | h
      · exact .inr ⟨h, rfl⟩
      · exact .inl h
  · rw [decide_eq_false hkd]
    simp only [gTF, oB, cond_false, qa1, qak, pickV_bool, qe4]
    rw [qlb (qik fun p hp j' hj' => qk1 ?_), qcq hB.on, ifK_bool, cond_false]
    simp only [List.mem_cons, List.not_mem_nil, or_false] at hp
    rcases hp with rfl | rfl
    · simp only [List.mem_cons, List.not_mem_nil, or_false] at hj'
      subst hj'
      intro e he f' hf'
      exact .inr ⟨h14 e he, h18 f' hf'⟩
    · simp only [List.mem_cons, List.not_mem_nil, or_false] at hj'
      subst hj'
      intro e he f' hf'
      cases hf'
 rcases Nat.eq_zero_or_pos j with h0 | h0
 · subst h0
   simp only [gtrI', show decide ((0 : Int) < ((0 : Nat) : Int)) = false from rfl, gTF, gFF, oB, cond_true, cond_false, pickV_bool, qe4, qcy, Nat.zero_add]
   exact tail [] [] (fun e he => by cases he) fun e he => by cases he
 · have hj1 : j - 1 < ns.length := by omega
   obtain ⟨pk, Lk, k1, k2, k3⟩ := nB.ldL hB.on hj1
   have hlt : ns[j - 1] < ns[j] := List.pairwise_iff_getElem.1 hs (j - 1) j hj1 hj (by omega)
   simp only [gtrI', decide_eq_true (show (0 : Int) < (j : Int) by omega), gTT, gFF, oB, cond_true]
   rw [subI 3 false true _ _ (by unfold qau; omega) (by unfold qau; omega), show (j : Int) - 1 = ((j - 1 : Nat) : Int) by omega]
   simp only [gTT, gFF, oB, cond_true]
   rw [k1, oB, k2, oB]
   dsimp only
   simp only [gTT, gFF, oB, cond_true, qa1]
   rw [j1', oB, j2', oB]
   dsimp only
   rw [geqS, bless_iff.2 hlt]
   simp only [Bool.not_true, gFF, oB, cond_true, pickV_bool, cond_false, qa1, qcy, Nat.zero_add]
   exact tail [Lk] [Lj'] (fun e he => by rw [List.mem_singleton.1 he]; exact k3) fun e he => by rw [List.mem_singleton.1 he]; exact j3'
end
section
variable {S U A : St} {b r : Nat} {T : Tab} {k : Nat}
theorem TL.keep {W : Nat → Prop} {w : V} {ns : List Bs} (h : TL S w ns) (hw : ∀ r e, RowAt S r 9 1 e → ¬ W r) (g : Grew W S U) : TL U w ns := h.grew (fun r e _ hr => hw r e hr) g
structure Names (T : Tab) (d : Int) (p : Nod) (E : Ents') (ns : List Bs) : Prop where
 get : T.get d = some p
 ents : p.ino.ents = E
 is : ns = qfh (E.map (·.1))
 key : (E.map (·.1)).Nodup
 len : ns.length ≤ 1000
theorem Names.at {d : Int} {p : Nod} {E : Ents'} {ns : List Bs} (h : Names T d p E ns) (ok : Ok T k) {j : Nat} (hj : j < ns.length) : ∃ i q, lkS ns[j] E = some i ∧ T.find d ns[j] = some i ∧ i ≠ 1 ∧ T.get i = some q ∧ (q.ino.kind = 2 → q.ino.up = d) := by
 have hm : ns[j] ∈ E.map (·.1) := by
  have : ns[j] ∈ ns := List.getElem_mem hj
  have h2 : ∀ x, x ∈ ns → x ∈ E.map (·.1) := fun x hx => by
   rw [h.is] at hx
   exact mem_sortB.1 hx
  exact h2 _ this
 obtain ⟨e, he, hee⟩ := List.mem_map.1 hm
 have hl : lkS ns[j] E = some e.2 := by rw [← hee]; exact lkS_of h.key e he
 obtain ⟨h1, q, hq, hqu⟩ := ok.sd.ent d p h.get e (by rw [h.ents]; exact he)
 refine ⟨e.2, q, hl, ?_, h1, hq, hqu⟩
 unfold Tab.find
 rw [h.get, oB, h.ents]; exact hl
theorem Names.rise {d : Int} {p : Nod} {E : Ents'} {ns : List Bs} (h : Names T d p E ns) : ns.Pairwise (· < ·) := by rw [h.is]; exact sortB_pw h.key
theorem L183_run (ok : Ok T k) (hk : k ≤ 63) (m N : Nat) (nk : Ac → St → Rs) (ek : Nat → Ac → St → Rs) (v0 v5 v7 v12 v13 w17 : V) {mp n : Nat} {d0 : Int} {p : Nod} {E : Ents'} {ns : List Bs} (hN : Names T d0 p E ns) :
 ∀ (d f j : Nat) {S : St} {C : Int → Nat} {todo : List Int} {rt : Nat} {w11 : V}, j + d = ns.length → d < f → TabAt S b r T → Cnt S mp C → ¬ Own b r T mp → IL S rt w11 todo → ¬ Own b r T rt → mp ≠ rt → TL S w17 ns → todo[n]? = some d0 → Bfi T todo n C E ns j →
 ∃ U C' todo' rt' w11', qiv (ev E0 KD (m + 2)) N nk ek f v0 v5 (.ptr b 0) v7 (.map mp) w11 v12 v13 (.int .i64 (n : Int)) w17 (.int .i64 (j : Int)) S = ek 4 (fr 242 [(0, v0), (5, v5), (6, .ptr b 0), (7, v7), (10, .map mp), (11, w11'), (12, v12), (13, v13), (14, .int .i64 (n : Int))]) U ∧ TabAt U b r T ∧ Cnt U mp C' ∧ IL U rt' w11' todo' ∧ ¬ Own b r T rt' ∧ mp ≠ rt' ∧ todo'[n]? = some d0 ∧ Bfi T todo' n C' E ns ns.length ∧ Grew (fun x => x = mp ∨ x = rt) S U ∧ (rt' = rt ∨ S.next ≤ rt') ∧ ∃ l, todo' = todo ++ l
 | d, 0, j, S, C, todo, rt, w11, hjd, hd, _, _, _, _, _, _, _, _, _ => by omega
 | 0, f + 1, j, S, C, todo, rt, w11, hjd, hd, h, hc, hmo, hI, hro, hmr, hT, hn0, hB => by
  have hj : j = ns.length := by omega
  refine ⟨S, C, todo, rt, w11, ?_, h, hc, hI, hro, hmr, hn0, hj ▸ hB, Grew.refl _ _, .inl rfl, [], by simp⟩
  rw [L5_183_cut, hT.len, oB]
  dsimp only
  rw [lssI, oB, ifK_bool, decide_eq_false (show ¬ (j : Int) < (ns.length : Int) by omega), cond_false]
 | d + 1, f + 1, j, S, C, todo, rt, w11, hjd, hd, h, hc, hmo, hI, hro, hmr, hT, hn0, hB => by
  have hj : j < ns.length := by omega
  obtain ⟨hn, hnd⟩ := List.getElem?_eq_some_iff.1 hn0
  obtain ⟨i, q, hl, hf, hi1, hq, hqu⟩ := hN.at ok hj
  obtain ⟨A, x, a1, a2, a3, a4⟩ := name_head h m N nk ek f v0 v5 v7 (.map mp) v12 v13 hI hro hn hT hN.rise hj hN.len (i := i) (q := q) (by rw [hnd]; exact hf) hq (by rw [hnd]; exact hqu)
  have hA := h.grewF a2
  have cA := hc.grew (fun h => h) a2
  have iA := hI.grew (fun h => h) a2
  have tA := hT.grew0 a2
  obtain ⟨B, b1, b2, b3⟩ := cA.bump hA.on i
  have hB2 := hA.grew b3 fun y hy => by
   subst hy
   exact ⟨fun e => hmo (.inl e), fun e => hmo (.inr (.inl e)), fun p hp => ⟨fun e => hmo (.inr (.inr ⟨p, hp, .inl e⟩)), fun e => hmo (.inr (.inr ⟨p, hp, .inr e⟩))⟩⟩
  have iB := iA.grew (fun e => hmr e.symm) b3
  have tB := tA.keep (fun y e hy hh => by
   subst hh
   exact row_map hy cA) b3
  have hxm : x ≠ mp := fun e => by
   subst e
   obtain ⟨_, kv, ⟨es, cl, h2, _⟩, _⟩ := cA
   have a4' : A.heap.get x = _ := a4
   rw [h2] at a4'; cases a4'
  have xB := a4.grew a3 (fun e => hxm e) b3
  have hadd : qab E0 .add 3 false true (.int .i64 (C i : Int)) (.int .i64 1) = some (.int .i64 ((C i + 1 : Nat) : Int)) := by
   have h1 := hB.le ok hn (by rw [hnd]; exact hN.get) hN.ents hN.is hN.key i
   have h2 := ok.sd.cnt i q hq hi1
   have h3 := (ok.nd i q hq).l1
   rw [addI 3 false true _ _ (by unfold qau; omega) (by unfold qau; omega)]; congr 2
  have ha : ns[j]? = some ns[j] := List.getElem?_eq_getElem hj
  have hj1000 : (j : Int) < 1000 := by have := hN.len; omega
  by_cases h0 : C i = 0
  · have hB3 := hB.new hn ha hl hi1 (by rw [hq]; rfl) h0
    have hlen := hB.len
    have hcnt := ok.cnt
    obtain ⟨w11', D, y, W, d1, d2, d3, d4⟩ := iB.push hB2.on (by omega) i
    have hD := hB2.grew d4 fun z hz => by
     subst hz
     exact ⟨fun e => hro (.inl e), fun e => hro (.inr (.inl e)), fun p hp => ⟨fun e => hro (.inr (.inr ⟨p, hp, .inl e⟩)), fun e => hro (.inr (.inr ⟨p, hp, .inr e⟩))⟩⟩
    have cD := b2.grew hmr d4
    have tD := tB.keep (fun y e hy hh => by
     subst hh
     exact absurd (row_ne hy iB.row.1) (by decide)) d4
    have hro' : ¬ Own b r T (B.next + 1) := fun e => by
     have := own_lt hB2 e
     omega
    obtain ⟨U, C', todo', rt', w', u1, u2, u3, u4, u5, u6, u7, u8, u9, u10, l', hl'⟩ := L183_run ok hk m N nk ek v0 v5 v7 v12 v13 w17 hN d f (j + 1) (by omega) (by omega) hD cD hmo d3 hro' (by have := b2.1; omega) tD (by rw [List.getElem?_append_left hn]; exact hn0) hB3
    have gSB : Grew (fun x => x = mp ∨ x = rt) S B := (a2.mono fun _ _ h => h.elim).trans (b3.mono fun _ _ h => .inl h)
    have gSD : Grew (fun x => x = mp ∨ x = rt) S D := gSB.trans (d4.mono fun _ _ h => .inr h)
    refine ⟨U, C', todo', rt', w', ?_, u2, u3, u4, u5, u6, u7, u8, Grew.into gSD u9 fun y hy hh => ?_, ?_, i :: l', by rw [hl', List.append_assoc]; rfl⟩
    · rw [a1]
      unfold sd1
      rw [cA.look hA.on, oB]
      dsimp only
      rw [hadd, oB, b1, oB]
      dsimp only
      rw [b2.look hB2.on, oB, qnh, h0]
      dsimp only
      rw [qhl, oB, ifK_bool, show decide (((0 + 1 : Nat) : Int) = 1) = true from rfl, cond_true, d1, oB]
      dsimp only
      rw [d2, oB]
      dsimp only
      rw [addI 3 false true _ _ (by unfold qau; omega) (by unfold qau; omega), oB]
      exact u1
    · rcases hh with hh | hh
      · exact .inl hh
      · have := gSB.next
        omega
    · right
      have := gSB.next
      have := gSD.next
      rcases u10 with e | e <;> omega
  · obtain ⟨hB3, hkd⟩ := hB.again ok hn (by rw [hnd]; exact hN.get) hN.ents hN.is hN.key ha hl hi1 hq h0
    obtain ⟨U, C', todo', rt', w', u1, u2, u3, u4, u5, u6, u7, u8, u9, u10, l', hl'⟩ := L183_run ok hk m N nk ek v0 v5 v7 v12 v13 w17 hN d f (j + 1) (by omega) (by omega) hB2 b2 hmo iB hro hmr tB hn0 hB3
    have gSB : Grew (fun x => x = mp ∨ x = rt) S B := (a2.mono fun _ _ h => h.elim).trans (b3.mono fun _ _ h => .inl h)
    refine ⟨U, C', todo', rt', w', ?_, u2, u3, u4, u5, u6, u7, u8, gSB.trans u9, ?_, l', hl'⟩
    · rw [a1]
      unfold sd1
      rw [cA.look hA.on, oB]
      dsimp only
      rw [hadd, oB, b1, oB]
      dsimp only
      rw [b2.look hB2.on, oB, qnh]
      dsimp only
      rw [qhl, oB, ifK_bool, decide_eq_false (show ¬ (((C i + 1 : Nat) : Int) = 1) by omega), cond_false, qcy, oB, Nat.zero_add]
      rw [show ld1 (.ptr x 0) B = some (.int .i64 q.ino.kind, B) from Bx6.ld hB2.on xB big4 rfl, oB]
      dsimp only
      rw [neq3, hkd, oB, ifK_bool, show (!((1 : Int) == 1)) = false from rfl, cond_false]
      rw [addI 3 false true _ _ (by unfold qau; omega) (by unfold qau; omega), oB]
      exact u1
    · have := gSB.next
      rcases u10 with e | e
      · exact .inl e
      · right; omega
end
section
variable {S U A : St} {b r : Nat} {T : Tab} {k : Nat}
theorem sum_le (ok : Ok T k) {todo : List Int} (hnd : todo.Nodup) (hlt : ∀ i ∈ todo, (T.get i).isSome) (n : Nat) : qh8 (dE T) (todo.take n) ≤ 19 * (1 + k) := by
 have h1 : qh8 (dE T) (todo.take n) ≤ qi3 T.nodes := by
  rw [sumD_nums ok.sd.key]
  exact qfs _ (hnd.sublist (List.take_sublist ..)) fun x hx => qkk (hlt x (List.mem_of_mem_take hx))
 have h2 := ok.ub
 have h3 := ok.byt
 omega
theorem sum_next {todo : List Int} {n : Nat} {d : Int} {p : Nod} (h : todo[n]? = some d) (hp : T.get d = some p) : qh8 (dE T) (todo.take (n + 1)) = qh8 (dE T) (todo.take n) + p.ino.data.length := by
 rw [List.take_add_one, h, Option.toList, sumN_app]
 congr 1
 show dE T d + 0 = _
 unfold dE
 rw [hp]; rfl
theorem L119_run (ok : Ok T k) (hk : k ≤ 63) (m N : Nat) (nk : Ac → St → Rs) (ek : Nat → Ac → St → Rs) (v0 v5 v7 : V) {mp : Nat} :
 ∀ (d f n : Nat) {S : St} {C : Int → Nat} {todo : List Int} {rt : Nat} {w11 : V}, T.nodes.length ≤ n + d → d < f → f ≤ N → 100000 ≤ N → n ≤ todo.length → TabAt S b r T → Cnt S mp C → ¬ Own b r T mp → IL S rt w11 todo → ¬ Own b r T rt → mp ≠ rt → Bfs T todo n C →
 ∃ U C' todo', L5_119 (ev E0 KD (m + 2)) N nk ek f v0 v5 (.ptr b 0) v7 (.map mp) w11 (.int .i64 (n : Int)) (.int .i64 (qh8 (dE T) (todo.take n) : Int)) (.int .i64 (n : Int)) S = ek 2 (fr 242 [(0, v0), (5, v5), (6, .ptr b 0), (7, v7), (10, .map mp), (12, .int .i64 (todo'.length : Int)), (13, .int .i64 (qh8 (dE T) todo' : Int))]) U ∧ TabAt U b r T ∧ Cnt U mp C' ∧ Bfs T todo' todo'.length C' ∧ Grew (fun x => x = mp ∨ x = rt) S U
 | d, 0, n, S, C, todo, rt, w11, _, hd, _, _, _, _, _, _, _, _, _, _ => by omega
 | d, f + 1, n, S, C, todo, rt, w11, hnd, hd, hfN, hN0, hnt, h, hc, hmo, hI, hro, hmr, hB => by
  have hlen := hB.len ok
  have hcnt := ok.cnt
  by_cases hn : n < todo.length
  · have hn0 : todo[n]? = some todo[n] := List.getElem?_eq_getElem hn
    cases hgp : T.get todo[n] with
    | none =>
     have := hB.lt todo[n] (List.getElem_mem hn)
     rw [hgp] at this; cases this
    | some p =>
     generalize todo[n] = d0 at hn0 hgp
     have hnode := ok.nd d0 p hgp
     have hNames : Names T d0 p p.ino.ents (qfh (p.ino.ents.map (·.1))) := ⟨hgp, rfl, rfl, ok.sd.nod d0 p hgp, by rw [(qf0 _).length_eq, List.length_map]; have := hnode.len; omega⟩
     obtain ⟨A, a1, a2, a3⟩ := node_run h m d0 hgp
     obtain ⟨B, b1, b2, b3, b4⟩ := agg4 A a2.on (.int .i64 p.ino.kind) (.int .i64 p.ino.mode) (sv p.ino.data) (.int .i64 p.ino.links)
     have hB1 := a2.grewF b3
     obtain ⟨v, D, d1, d2, d3⟩ := names_run hB1 m d0 fun p' hp' => by
      rw [hgp] at hp'; cases hp'
      exact ⟨ok.sd.nod d0 p hgp, fun e he => by obtain ⟨c, hc, _⟩ := hnode.nam e he; rw [hc]; simp, by have := hnode.len; omega⟩
     have hnm : T.names d0 = qfh (p.ino.ents.map (·.1)) := by unfold Tab.names; rw [hgp]
     rw [hnm] at d2
     have hD := hB1.grewF d3
     have gSB := a3.trans b3
     have gSD := gSB.trans d3
     have iB := hI.grew (fun h => h) gSB
     have iD := hI.grew (fun h => h) gSD
     have cD := hc.grew (fun h => h) gSD
     have xD := b2.grew (by omega) (fun h => h) d3
     have hsum := sum_le ok hB.nd hB.lt n
     have hdat := hnode.dat
     obtain ⟨U1, C1, todo1, rt1, w1, u1, u2, u3, u4, u5, u6, u7, u8, u9, u10, l', hl'⟩ := L183_run ok hk m N (qix (ev E0 KD (m + 2)) N (qiw (ev E0 KD (m + 2)) N nk ek f) ek) (exB 4 (qix (ev E0 KD (m + 2)) N (qiw (ev E0 KD (m + 2)) N nk ek f) ek) (exB 3 (qix (ev E0 KD (m + 2)) N (qiw (ev E0 KD (m + 2)) N nk ek f) ek) ek)) v0 v5 v7 (.int .i64 ((n + 1 : Nat) : Int)) (.int .i64 (qh8 (dE T) (todo.take n) + p.ino.data.length : Nat)) v hNames (qfh (p.ino.ents.map (·.1))).length N 0 (by omega) (by have := hNames.len; omega) hD cD hmo iD hro hmr d2 hn0 (hB.inner p.ino.ents (qfh (p.ino.ents.map (·.1))))
     obtain ⟨hn1, hn1e⟩ := List.getElem?_eq_some_iff.1 u7
     have hB2 := u8.outer hn1 (by rw [hn1e]; exact hgp) rfl rfl hNames.key
     have hsum1 : qh8 (dE T) (todo1.take (n + 1)) = qh8 (dE T) (todo.take n) + p.ino.data.length := by
      rw [sum_next u7 hgp, hl', List.take_append_of_le_length (by omega)]
     obtain ⟨U, C', todo', w2, w3, w4, w5, w6⟩ := L119_run ok hk m N nk ek v0 v5 v7 (d - 1) f (n + 1) (by omega) (by omega) (by omega) hN0 (by omega) u2 u3 hmo u4 u5 u6 hB2
     have gSU1 : Grew (fun x => x = mp ∨ x = rt) S U1 := (gSD.mono fun _ _ h => h.elim).trans u9
     refine ⟨U, C', todo', ?_, w3, w4, w5, Grew.into gSU1 w6 fun y hy hh => ?_⟩
     · have fin : qiv (ev E0 KD (m + 2)) N (qix (ev E0 KD (m + 2)) N (qiw (ev E0 KD (m + 2)) N nk ek f) ek) (exB 4 (qix (ev E0 KD (m + 2)) N (qiw (ev E0 KD (m + 2)) N nk ek f) ek) (exB 3 (qix (ev E0 KD (m + 2)) N (qiw (ev E0 KD (m + 2)) N nk ek f) ek) ek)) N v0 v5 (.ptr b 0) v7 (.map mp) w11 (.int .i64 ((n + 1 : Nat) : Int)) (.int .i64 (qh8 (dE T) (todo.take n) + p.ino.data.length : Nat)) (.int .i64 (n : Int)) v (.int .i64 ((0 : Nat) : Int)) D = ek 2 (fr 242 [(0, v0), (5, v5), (6, .ptr b 0), (7, v7), (10, .map mp), (12, .int .i64 (todo'.length : Int)), (13, .int .i64 (qh8 (dE T) todo' : Int))]) U := by
        rw [u1, exB_same, R5_128_eq, addI 3 false true _ _ (by unfold qau; omega) (by unfold qau; omega), oB, N5_119_eq, ← w2, hsum1]
        rfl
       rw [L5_119_eq, hI.len, oB]
       dsimp only
       rw [lssI, oB, decide_eq_true (show (n : Int) < (todo.length : Int) by omega)]
       simp only [gTT, oB, cond_true]
       rw [lssI, oB, decide_eq_true (show (n : Int) < 300 by omega), pickV_bool, cond_true, oB, ifK_bool, cond_true]
       rw [hI.ix hn, oB, hI.ld h.on hn, oB]
       dsimp only
       have hdn : todo[n] = d0 := (List.getElem?_eq_some_iff.1 hn0).2
       rw [hdn, show (ev E0 KD (m + 2)).f 12 [.ptr b 0, .int .i64 d0] S = _ from a1, callP_ret, qk8, oB, qk9, oB]
       first | rw [oB, qdc, b1, oB] | rw [qdc, b1, oB]
       dsimp only
       rw [notV, oB, ifK_bool, Bool.not_true, cond_false, addI 3 false true _ _ (by unfold qau; omega) (by unfold qau; omega), oB, qcy, oB, Nat.zero_add]
       rw [show ld1 (.ptr A.next 2) B = some (sv p.ino.data, B) from Bx6.ld hB1.on b2 big4 rfl, oB]
       dsimp only
       rw [lnStr_sv, oB]
       dsimp only
       rw [addI 3 false false _ _ (by unfold qau; omega) (by unfold qau; omega), oB]
       rw [oB, iB.ld hB1.on hn, hdn, oB]
       dsimp only
       rw [show (ev E0 KD (m + 2)).f 18 [.ptr b 0, .int .i64 d0] B = _ from d1, callP_ret]
       have hkd : ld1 (.ptr A.next 0) D = some (.int .i64 p.ino.kind, D) := Bx6.ld hD.on xD big4 rfl
       have hdt : ld1 (.ptr A.next 2) D = some (sv p.ino.data, D) := Bx6.ld hD.on xD big4 rfl
       rw [qcy, oB, Nat.zero_add, hkd, oB]
       dsimp only
       rw [neq3, oB]
       have fin2 := fin
       rw [show (.int .i64 ((n + 1 : Nat) : Int) : V) = .int .i64 ((n : Int) + 1) from by congr 1, show (.int .i64 ((qh8 (dE T) (todo.take n) + p.ino.data.length : Nat) : Int) : V) = .int .i64 ((qh8 (dE T) (todo.take n) : Int) + (p.ino.data.length : Int)) from by congr 1] at fin2
       by_cases hk2 : p.ino.kind = 2
       · rw [hk2, show (!((2 : Int) == 2)) = false from rfl]
         simp only [gTF, gFF, oB, cond_false, cond_true, pickV_bool, hkd, hk2, qhl, decide_true, gTT, hdt, hnode.ddir hk2, strEq, qcy, Nat.zero_add]
         rw [show (!(([] : List UInt8) == [])) = false from rfl, ifK_bool, cond_false]
         rw [hnode.ddir hk2] at fin2
         exact fin2
       · have he : p.ino.ents = [] := (ok.sd.fil d0 p hgp hk2).1
         have hl0 : lnS v D = some (.int .i64 (0 : Int), D) := by
          rw [d2.len D, he]; rfl
         rw [show (!(p.ino.kind == 2)) = true from by simp [hk2]]
         simp only [gTT, oB, cond_true, hl0, gtrI', show decide ((0 : Int) < 0) = false from rfl, pickV_bool, gFF, hkd, qhl, decide_eq_false hk2, gTF, cond_false, qcy, Nat.zero_add]
         rw [ifK_bool, cond_false]
         exact fin2
     · rcases hh with hh | hh
       · exact .inl hh
       · rcases u10 with e | e
         · exact .inr (hh.trans e)
         · have := gSD.next
           omega
  · have hne : n = todo.length := by omega
    subst hne
    refine ⟨S, C, todo, ?_, h, hc, hB, Grew.refl _ _⟩
    rw [L5_119_eq, hI.len, oB]
    dsimp only
    rw [lssI, oB, decide_eq_false (show ¬ ((todo.length : Int)) < (todo.length : Int) by omega)]
    simp only [gTF, oB, cond_false, pickV_bool, ifK_bool, List.take_length]
end
end Go.Proofs.Ytbihlgcdnhoknaa.W
