/-
  WHAT THE FUNCTIONS COME TO: each is read by the evaluator, printed, and told as a function of data, part 4 of 11 (no condition).
-/
import Derived.Test.YtbihlgcdnhoknaaW3
namespace Go.Proofs.Ytbihlgcdnhoknaa.W
open Go.Proofs.Ytbihlgcdnhoknaa.Ev
structure Ino where
 kind : Int
 mode : Int
 data : List UInt8
 links : Int
 up : Int
 map : Option Nat
 ents : List (List UInt8 × Int)
def qb2 (kv : List (List UInt8 × Int)) (n : Ino) : Ino := { n with ents := kv }
structure Nod where
 no : Int
 box : Nat
 ino : Ino
structure Tab where
 qi : Int
 qb : Int
 ui : Int
 ub : Int
 last : Int
 nodes : List Nod
def mapV : Option Nat → V
 | none => .nilmap
 | some m => .map m
def Ino.cells (i : Ino) : List V := [.int .i64 i.kind, .int .i64 i.mode, sv i.data, .int .i64 i.links, .int .i64 i.up, mapV i.map]
def Tab.cells (T : Tab) (r : Nat) : List V := [.int .i64 T.qi, .int .i64 T.qb, .int .i64 T.ui, .int .i64 T.ub, .map r, .int .i64 T.last]
def kvN (l : List Nod) : List (Int × V) := l.map fun p => (p.no, V.ptr p.box 0)
def qfk (i : Int) : List Nod → Option Nod
 | [] => none
 | p :: l => if i = p.no then some p else qfk i l
def Tab.get (T : Tab) (i : Int) : Option Nod := qfk i T.nodes
theorem lkI_kvN (i : Int) : ∀ l, lkI i (kvN l) = (qfk i l).map fun p => V.ptr p.box 0
 | [] => rfl
 | p :: l => by
  show (if i = p.no then some (V.ptr p.box 0) else lkI i (kvN l)) = _
  unfold qfk
  by_cases h : i = p.no
  · rw [if_pos h, if_pos h]; rfl
  · rw [if_neg h, if_neg h, lkI_kvN i l]
theorem qan {i : Int} : ∀ {l : List Nod} {p : Nod}, qfk i l = some p → p ∈ l ∧ p.no = i
 | [], p, h => by cases h
 | q :: l, p, h => by
  unfold qfk at h
  by_cases hc : i = q.no
  · rw [if_pos hc] at h
    simp only [oS] at h
    subst h
    exact ⟨List.mem_cons_self .., hc.symm⟩
  · rw [if_neg hc] at h
    obtain ⟨h1, h2⟩ := qan h
    exact ⟨List.mem_cons_of_mem _ h1, h2⟩
theorem qo2 {i : Int} : ∀ {l : List Nod}, qfk i l = none → ∀ p ∈ l, p.no ≠ i
 | [], _, p, hp => by cases hp
 | q :: l, h, p, hp => by
  unfold qfk at h
  by_cases hc : i = q.no
  · rw [if_pos hc] at h; cases h
  · rw [if_neg hc] at h
    rcases List.mem_cons.1 hp with rfl | hp
    · exact fun e => hc e.symm
    · exact qo2 h p hp
theorem qgr (i : Int) (p : Nod) : ∀ l : List Nod, qfk i (l ++ [p]) = match qfk i l with | some q => some q | none => if i = p.no then some p else none
 | [] => rfl
 | q :: l => by
  rw [List.cons_append]
  unfold qfk
  by_cases hc : i = q.no
  · rw [if_pos hc, if_pos hc]
  · rw [if_neg hc, if_neg hc, qgr i p l]
structure TabAt (S : St) (b r : Nat) (T : Tab) : Prop where
 on : S.on = false
 tb : Bx S b 68 (T.cells r)
 nm : MapAt S r (kvI (kvN T.nodes))
 nd : ∀ p ∈ T.nodes, Bx S p.box 65 p.ino.cells
 em : ∀ p ∈ T.nodes, ∀ m, p.ino.map = some m → MapAt S m (kvS p.ino.ents)
 no : ∀ p ∈ T.nodes, p.ino.map = none → p.ino.ents = []
 br : b ≠ r
 nb : ∀ p ∈ T.nodes, p.box ≠ b ∧ p.box ≠ r
 mb : ∀ p ∈ T.nodes, ∀ m, p.ino.map = some m → m ≠ b ∧ m ≠ r ∧ ∀ q ∈ T.nodes, m ≠ q.box
 bb : ∀ p ∈ T.nodes, ∀ q ∈ T.nodes, p.box = q.box → p.no = q.no
 mm : ∀ p ∈ T.nodes, ∀ q ∈ T.nodes, ∀ m, p.ino.map = some m → q.ino.map = some m → p.no = q.no
 key : (T.nodes.map (·.no)).Nodup
 hb : b < S.next
 hr : r < S.next
 hn : ∀ p ∈ T.nodes, p.box < S.next
 hm : ∀ p ∈ T.nodes, ∀ m, p.ino.map = some m → m < S.next
theorem key_eq {l : List Nod} (h : (l.map (·.no)).Nodup) {p q : Nod} (hp : p ∈ l) (hq : q ∈ l) (e : p.no = q.no) : p = q := by
 induction l with
 | nil => cases hp
 | cons x l ih =>
  rw [List.map_cons, List.nodup_cons] at h
  rcases List.mem_cons.1 hp with rfl | hp'
  · rcases List.mem_cons.1 hq with rfl | hq'
    · rfl
    · exact absurd (List.mem_map.2 ⟨q, hq', e.symm⟩) h.1
  · rcases List.mem_cons.1 hq with rfl | hq'
    · exact absurd (List.mem_map.2 ⟨p, hp', e⟩) h.1
    · exact ih h.2 hp' hq'
theorem qf4 {l : List Nod} (h : (l.map (·.no)).Nodup) {p : Nod} (hp : p ∈ l) : qfk p.no l = some p := by
 cases hg : qfk p.no l with
 | none => exact absurd rfl (qo2 hg p hp)
 | some q =>
  obtain ⟨h1, h2⟩ := qan hg
  rw [key_eq h h1 hp h2]
section
variable {S U : St} {b r : Nat} {T : Tab}
theorem bx_same {e : Nat} {l : List V} {x : Nat} (h : Bx S x e l) (hh : U.heap = S.heap) : Bx U x e l := by unfold Bx at h ⊢; rw [hh]; exact h
theorem MapAt.same {kv : List (V × V)} {x : Nat} (h : MapAt S x kv) (hh : U.heap = S.heap) : MapAt U x kv := by
 obtain ⟨es, c, h1, h2⟩ := h
 exact ⟨es, c, by rw [hh]; exact h1, h2⟩
theorem TabAt.same (h : TabAt S b r T) (ho : U.on = false) (hh : U.heap = S.heap) (hn : U.next = S.next) : TabAt U b r T :=
 ⟨ho, bx_same h.tb hh, h.nm.same hh, fun p hp => bx_same (h.nd p hp) hh, fun p hp m hm => (h.em p hp m hm).same hh, h.no, h.br, h.nb, h.mb, h.bb, h.mm, h.key, hn ▸ h.hb, hn ▸ h.hr, fun p hp => hn ▸ h.hn p hp, fun p hp m hm => hn ▸ h.hm p hp m hm⟩
theorem TabAt.grew {W : Nat → Prop} (h : TabAt S b r T) (g : Grew W S U) (hw : ∀ x, W x → x ≠ b ∧ x ≠ r ∧ ∀ p ∈ T.nodes, x ≠ p.box ∧ p.ino.map ≠ some x) : TabAt U b r T :=
 ⟨g.on.trans h.on, h.tb.grew h.hb (fun w => (hw b w).1 rfl) g, h.nm.grew h.hr (fun w => (hw r w).2.1 rfl) g,
  fun p hp => (h.nd p hp).grew (h.hn p hp) (fun w => ((hw _ w).2.2 p hp).1 rfl) g, fun p hp m hm => (h.em p hp m hm).grew (h.hm p hp m hm) (fun w => ((hw _ w).2.2 p hp).2 hm) g,
  h.no, h.br, h.nb, h.mb, h.bb, h.mm, h.key, Nat.lt_of_lt_of_le h.hb g.next, Nat.lt_of_lt_of_le h.hr g.next, fun p hp => Nat.lt_of_lt_of_le (h.hn p hp) g.next, fun p hp m hm => Nat.lt_of_lt_of_le (h.hm p hp m hm) g.next⟩
theorem TabAt.grewF (h : TabAt S b r T) (g : Grew (fun _ => False) S U) : TabAt U b r T := h.grew g fun _ w => w.elim
theorem qd0 {x y e : Nat} {l : List V} {o : O} (h : Bx S x e l) (hne : x ≠ y) : Bx (S.put y o) x e l := by
 unfold Bx at h ⊢
 rw [qbr, if_neg hne]; exact h
theorem qcx {x y : Nat} {kv : List (V × V)} {o : O} (h : MapAt S x kv) (hne : x ≠ y) : MapAt (S.put y o) x kv := by
 obtain ⟨es, c, h1, h2⟩ := h
 exact ⟨es, c, by rw [qbr, if_neg hne]; exact h1, h2⟩
theorem TabAt.putT (h : TabAt S b r T) {T' : Tab} (hn : T'.nodes = T.nodes) : TabAt (S.put b (bxO 68 (T'.cells r))) b r T' := by
 refine ⟨h.on, bx_put _ _ _, ?_, ?_, ?_, ?_, h.br, ?_, ?_, ?_, ?_, ?_, h.hb, h.hr, ?_, ?_⟩
 all_goals rw [hn]
 · exact qcx h.nm (fun e => h.br e.symm)
 · exact fun p hp => qd0 (h.nd p hp) (h.nb p hp).1
 · exact fun p hp m hm => qcx (h.em p hp m hm) (h.mb p hp m hm).1
 · exact h.no
 · exact h.nb
 · exact h.mb
 · exact h.bb
 · exact h.mm
 · exact h.key
 · exact h.hn
 · exact h.hm
end
def qbs (i : Int) (f : Ino → Ino) (l : List Nod) : List Nod := l.map fun p => if p.no = i then { p with ino := f p.ino } else p
def Tab.upd (T : Tab) (i : Int) (f : Ino → Ino) : Tab := { T with nodes := qbs i f T.nodes }
theorem updN_mem {i : Int} {f : Ino → Ino} {l : List Nod} {q : Nod} : q ∈ qbs i f l ↔ ∃ p ∈ l, q = if p.no = i then { p with ino := f p.ino } else p := by
 unfold qbs
 rw [List.mem_map]
 exact ⟨fun ⟨p, h1, h2⟩ => ⟨p, h1, h2.symm⟩, fun ⟨p, h1, h2⟩ => ⟨p, h1, h2.symm⟩⟩
theorem qcf (i : Int) (f : Ino → Ino) (l : List Nod) : (qbs i f l).map (·.no) = l.map (·.no) := by
 unfold qbs
 rw [List.map_map]
 refine List.map_congr_left fun p _ => ?_
 show (if p.no = i then ({ p with ino := f p.ino } : Nod) else p).no = p.no
 split <;> rfl
theorem updN_kv (i : Int) (f : Ino → Ino) (l : List Nod) : kvN (qbs i f l) = kvN l := by
 unfold qbs kvN
 rw [List.map_map]
 refine List.map_congr_left fun p _ => ?_
 show ((if p.no = i then ({ p with ino := f p.ino } : Nod) else p).no, V.ptr (if p.no = i then ({ p with ino := f p.ino } : Nod) else p).box 0) = _
 split <;> rfl
theorem qkb (i j : Int) (f : Ino → Ino) : ∀ l : List Nod, qfk j (qbs i f l) = (qfk j l).map fun p => if p.no = i then { p with ino := f p.ino } else p
 | [] => rfl
 | p :: l => by
  show qfk j ((if p.no = i then ({ p with ino := f p.ino } : Nod) else p) :: qbs i f l) = _
  unfold qfk
  have hno : (if p.no = i then ({ p with ino := f p.ino } : Nod) else p).no = p.no := by split <;> rfl
  rw [hno]
  by_cases hc : j = p.no
  · rw [if_pos hc, if_pos hc]; rfl
  · rw [if_neg hc, if_neg hc, qkb i j f l]
theorem qbu {T : Tab} {i : Int} {f : Ino → Ino} {p : Nod} (h : T.get i = some p) : (T.upd i f).get i = some { p with ino := f p.ino } := by
 show qfk i (qbs i f T.nodes) = _
 rw [qkb, show qfk i T.nodes = some p from h, Option.map_some, if_pos (qan h).2]
theorem qar {T : Tab} {i j : Int} {f : Ino → Ino} (h : j ≠ i) : (T.upd i f).get j = T.get j := by
 show qfk j (qbs i f T.nodes) = _
 rw [qkb]
 show (T.get j).map _ = _
 cases hg : T.get j with
 | none => rfl
 | some p => rw [Option.map_some, if_neg (by rw [(qan hg).2]; exact h)]
section
variable {S U : St} {b r : Nat} {T : Tab}
theorem TabAt.putN (h : TabAt S b r T) {i : Int} {p : Nod} (hp : T.get i = some p) (f : Ino → Ino) (hf : (f p.ino).map = p.ino.map) (hf2 : (f p.ino).ents = p.ino.ents) : TabAt (S.put p.box (bxO 65 (f p.ino).cells)) b r (T.upd i f) := by
 obtain ⟨hp1, hp2⟩ := qan hp
 have cases_ : ∀ q ∈ (T.upd i f).nodes, ∃ q0 ∈ T.nodes, q.no = q0.no ∧ q.box = q0.box ∧ q.ino.map = q0.ino.map ∧ q.ino.ents = q0.ino.ents ∧ ((q0 = p ∧ q.ino = f p.ino) ∨ (q0.box ≠ p.box ∧ q.ino = q0.ino)) := fun q hq => by
  obtain ⟨q0, h1, rfl⟩ := updN_mem.1 hq
  refine ⟨q0, h1, ?_⟩
  by_cases e : q0.no = i
  · have : q0 = p := key_eq h.key h1 hp1 (e.trans hp2.symm)
    subst this
    rw [if_pos e]
    exact ⟨rfl, rfl, hf, hf2, .inl ⟨rfl, rfl⟩⟩
  · rw [if_neg e]
    exact ⟨rfl, rfl, rfl, rfl, .inr ⟨fun e2 => e ((h.bb q0 h1 p hp1 e2).trans hp2), rfl⟩⟩
 refine ⟨h.on, qd0 h.tb (Ne.symm (h.nb p hp1).1), ?_, fun q hq => ?_, fun q hq m hm => ?_, fun q hq hm => ?_, h.br, fun q hq => ?_, fun q hq m hm => ?_, fun q hq q' hq' e => ?_, fun q hq q' hq' m e e' => ?_, ?_, h.hb, h.hr, fun q hq => ?_, fun q hq m hm => ?_⟩
 · show MapAt _ r (kvI (kvN (qbs i f T.nodes)))
   rw [updN_kv]
   exact qcx h.nm (Ne.symm (h.nb p hp1).2)
 · obtain ⟨q0, h1, e1, e2, e3, e4, h2 | h2⟩ := cases_ q hq
   · rw [e2, h2.2, h2.1]; exact bx_put _ _ _
   · rw [e2, h2.2]; exact qd0 (h.nd q0 h1) h2.1
 · obtain ⟨q0, h1, e1, e2, e3, e4, _⟩ := cases_ q hq
   rw [e4]
   rw [e3] at hm
   exact qcx (h.em q0 h1 m hm) ((h.mb q0 h1 m hm).2.2 p hp1)
 · obtain ⟨q0, h1, e1, e2, e3, e4, _⟩ := cases_ q hq
   rw [e4]; exact h.no q0 h1 (e3 ▸ hm)
 · obtain ⟨q0, h1, e1, e2, _⟩ := cases_ q hq
   rw [e2]; exact h.nb q0 h1
 · obtain ⟨q0, h1, e1, e2, e3, e4, _⟩ := cases_ q hq
   obtain ⟨k1, k2, k3⟩ := h.mb q0 h1 m (e3 ▸ hm)
   refine ⟨k1, k2, fun x hx => ?_⟩
   obtain ⟨x0, g1, _, g2, _⟩ := cases_ x hx
   rw [g2]; exact k3 x0 g1
 · obtain ⟨q0, h1, e1, e2, _⟩ := cases_ q hq
   obtain ⟨x0, g1, g3, g2, _⟩ := cases_ q' hq'
   rw [e1, g3]; exact h.bb q0 h1 x0 g1 (by rw [← e2, ← g2]; exact e)
 · obtain ⟨q0, h1, e1, e2, e3, _⟩ := cases_ q hq
   obtain ⟨x0, g1, g3, g2, g4, _⟩ := cases_ q' hq'
   rw [e1, g3]; exact h.mm q0 h1 x0 g1 m (e3 ▸ e) (g4 ▸ e')
 · show ((qbs i f T.nodes).map (·.no)).Nodup
   rw [qcf]; exact h.key
 · obtain ⟨q0, h1, e1, e2, _⟩ := cases_ q hq
   rw [e2]; exact h.hn q0 h1
 · obtain ⟨q0, h1, e1, e2, e3, _⟩ := cases_ q hq
   exact h.hm q0 h1 m (e3 ▸ hm)
theorem TabAt.putE (h : TabAt S b r T) {i : Int} {p : Nod} (hp : T.get i = some p) {m0 : Nat} (hm0 : p.ino.map = some m0) {es : List ME} {c : Nat} {kv : List (List UInt8 × Int)} (he : MapOk es c (kvS kv)) : TabAt (S.put m0 (.map es c)) b r (T.upd i (qb2 kv)) := by
 obtain ⟨hp1, hp2⟩ := qan hp
 have cases_ : ∀ q ∈ (T.upd i (qb2 kv)).nodes, ∃ q0 ∈ T.nodes, q.no = q0.no ∧ q.box = q0.box ∧ q.ino.map = q0.ino.map ∧ q.ino.cells = q0.ino.cells ∧ ((q0 = p ∧ q.ino.ents = kv) ∨ (q0.ino.map ≠ some m0 ∧ q.ino.ents = q0.ino.ents)) := fun q hq => by
  obtain ⟨q0, h1, rfl⟩ := updN_mem.1 hq
  refine ⟨q0, h1, ?_⟩
  by_cases e : q0.no = i
  · have : q0 = p := key_eq h.key h1 hp1 (e.trans hp2.symm)
    subst this
    rw [if_pos e]
    exact ⟨rfl, rfl, rfl, rfl, .inl ⟨rfl, rfl⟩⟩
  · rw [if_neg e]
    exact ⟨rfl, rfl, rfl, rfl, .inr ⟨fun e2 => e ((h.mm q0 h1 p hp1 m0 e2 hm0).trans hp2), rfl⟩⟩
 obtain ⟨m1, m2, m3⟩ := h.mb p hp1 m0 hm0
 refine ⟨h.on, qd0 h.tb (Ne.symm m1), ?_, fun q hq => ?_, fun q hq m hm => ?_, fun q hq hm => ?_, h.br, fun q hq => ?_, fun q hq m hm => ?_, fun q hq q' hq' e => ?_, fun q hq q' hq' m e e' => ?_, ?_, h.hb, h.hr, fun q hq => ?_, fun q hq m hm => ?_⟩
 · show MapAt _ r (kvI (kvN (qbs i _ T.nodes)))
   rw [updN_kv]
   exact qcx h.nm (Ne.symm m2)
 · obtain ⟨q0, h1, e1, e2, e3, e4, _⟩ := cases_ q hq
   rw [e2, e4]; exact qd0 (h.nd q0 h1) (Ne.symm (m3 q0 h1))
 · obtain ⟨q0, h1, e1, e2, e3, e4, h2 | h2⟩ := cases_ q hq
   · rw [h2.2]
     rw [e3, h2.1, hm0] at hm
     simp only [oS] at hm
     subst hm
     exact qge _ he
   · rw [h2.2]
     rw [e3] at hm
     exact qcx (h.em q0 h1 m hm) fun e => h2.1 (e ▸ hm)
 · obtain ⟨q0, h1, e1, e2, e3, e4, h2 | h2⟩ := cases_ q hq
   · rw [e3, h2.1, hm0] at hm; cases hm
   · rw [h2.2]; exact h.no q0 h1 (e3 ▸ hm)
 · obtain ⟨q0, h1, e1, e2, _⟩ := cases_ q hq
   rw [e2]; exact h.nb q0 h1
 · obtain ⟨q0, h1, e1, e2, e3, e4, _⟩ := cases_ q hq
   obtain ⟨k1, k2, k3⟩ := h.mb q0 h1 m (e3 ▸ hm)
   refine ⟨k1, k2, fun x hx => ?_⟩
   obtain ⟨x0, g1, _, g2, _⟩ := cases_ x hx
   rw [g2]; exact k3 x0 g1
 · obtain ⟨q0, h1, e1, e2, _⟩ := cases_ q hq
   obtain ⟨x0, g1, g3, g2, _⟩ := cases_ q' hq'
   rw [e1, g3]; exact h.bb q0 h1 x0 g1 (by rw [← e2, ← g2]; exact e)
 · obtain ⟨q0, h1, e1, e2, e3, _⟩ := cases_ q hq
   obtain ⟨x0, g1, g3, g2, g4, _⟩ := cases_ q' hq'
   rw [e1, g3]; exact h.mm q0 h1 x0 g1 m (e3 ▸ e) (g4 ▸ e')
 · show ((qbs i _ T.nodes).map (·.no)).Nodup
   rw [qcf]; exact h.key
 · obtain ⟨q0, h1, e1, e2, _⟩ := cases_ q hq
   rw [e2]; exact h.hn q0 h1
 · obtain ⟨q0, h1, e1, e2, e3, _⟩ := cases_ q hq
   exact h.hm q0 h1 m (e3 ▸ hm)
end
def delN (i : Int) : List Nod → List Nod
 | [] => []
 | p :: l => if i = p.no then l else p :: delN i l
def Tab.del (T : Tab) (i : Int) : Tab := { T with nodes := delN i T.nodes }
theorem delN_kv (i : Int) : ∀ l, qnq i (kvN l) = kvN (delN i l)
 | [] => rfl
 | p :: l => by
  show (if i = p.no then kvN l else (p.no, V.ptr p.box 0) :: qnq i (kvN l)) = _
  unfold delN
  by_cases h : i = p.no
  · rw [if_pos h, if_pos h]
  · rw [if_neg h, if_neg h, delN_kv i l]; rfl
theorem qk5 (i : Int) : ∀ l : List Nod, (delN i l).Sublist l
 | [] => List.Sublist.refl _
 | p :: l => by
  unfold delN
  by_cases h : i = p.no
  · rw [if_pos h]; exact List.sublist_cons_self ..
  · rw [if_neg h]; exact (qk5 i l).cons_cons _
theorem qgs {i : Int} : ∀ {l : List Nod}, (l.map (·.no)).Nodup → qfk i (delN i l) = none
 | [], _ => rfl
 | p :: l, h => by
  rw [List.map_cons, List.nodup_cons] at h
  unfold delN
  by_cases hc : i = p.no
  · rw [if_pos hc]
    cases hg : qfk i l with
    | none => rfl
    | some q =>
     obtain ⟨h1, h2⟩ := qan hg
     exact absurd (List.mem_map.2 ⟨q, h1, h2.trans hc⟩) h.1
  · rw [if_neg hc]
    unfold qfk
    rw [if_neg hc]; exact qgs h.2
theorem qfx {i j : Int} (hij : j ≠ i) : ∀ l : List Nod, qfk j (delN i l) = qfk j l
 | [] => rfl
 | p :: l => by
  unfold delN
  by_cases hc : i = p.no
  · rw [if_pos hc]
    show _ = (if j = p.no then some p else qfk j l)
    rw [if_neg (by rw [← hc]; exact hij)]
  · rw [if_neg hc]
    show (if j = p.no then some p else qfk j (delN i l)) = (if j = p.no then some p else qfk j l)
    rw [qfx hij l]
section
variable {S U : St} {b r : Nat} {T : Tab}
theorem TabAt.putD (h : TabAt S b r T) (i : Int) {es : List ME} {c : Nat} (he : MapOk es c (kvI (qnq i (kvN T.nodes)))) : TabAt (S.put r (.map es c)) b r (T.del i) := by
 have hs : ∀ p ∈ (T.del i).nodes, p ∈ T.nodes := fun p hp => (qk5 i T.nodes).subset hp
 refine ⟨h.on, qd0 h.tb h.br, ?_, fun q hq => qd0 (h.nd q (hs q hq)) (h.nb q (hs q hq)).2, fun q hq m hm => qcx (h.em q (hs q hq) m hm) (h.mb q (hs q hq) m hm).2.1, fun q hq => h.no q (hs q hq), h.br, fun q hq => h.nb q (hs q hq), fun q hq m hm => ⟨(h.mb q (hs q hq) m hm).1, (h.mb q (hs q hq) m hm).2.1, fun x hx => (h.mb q (hs q hq) m hm).2.2 x (hs x hx)⟩, fun q hq q' hq' => h.bb q (hs q hq) q' (hs q' hq'), fun q hq q' hq' => h.mm q (hs q hq) q' (hs q' hq'), ?_, h.hb, h.hr, fun q hq => h.hn q (hs q hq), fun q hq => h.hm q (hs q hq)⟩
 · refine qge _ ?_
   rw [delN_kv] at he
   exact he
 · exact h.key.sublist ((qk5 i T.nodes).map _)
theorem TabAt.putA (h : TabAt S b r T) (p : Nod) (hk : ∀ q ∈ T.nodes, q.no ≠ p.no) (hbx : Bx S p.box 65 p.ino.cells) (hmp : ∀ m, p.ino.map = some m → MapAt S m (kvS p.ino.ents)) (hno : p.ino.map = none → p.ino.ents = [])
 (N : Nat) (hN : b < N ∧ r < N ∧ ∀ q ∈ T.nodes, q.box < N ∧ ∀ m, q.ino.map = some m → m < N) (hp1 : N ≤ p.box ∧ p.box < S.next) (hp2 : ∀ m, p.ino.map = some m → N ≤ m ∧ m < S.next ∧ m ≠ p.box)
 {es : List ME} {c : Nat} (he : MapOk es c (kvI (kvN T.nodes ++ [(p.no, V.ptr p.box 0)]))) : TabAt (S.put r (.map es c)) b r { T with nodes := T.nodes ++ [p] } := by
 obtain ⟨N1, N2, N3⟩ := hN
 have cs : ∀ q ∈ T.nodes ++ [p], q ∈ T.nodes ∨ q = p := fun q hq => by simpa using hq
 refine ⟨h.on, qd0 h.tb h.br, ?_, fun q hq => ?_, fun q hq m hm => ?_, fun q hq hm => ?_, h.br, fun q hq => ?_, fun q hq m hm => ?_, fun q hq q' hq' e => ?_, fun q hq q' hq' m e e' => ?_, ?_, h.hb, h.hr, fun q hq => ?_, fun q hq m hm => ?_⟩
 · refine qge _ ?_
   show MapOk es c (kvI (kvN (T.nodes ++ [p])))
   unfold kvN at he ⊢
   rw [List.map_append]; exact he
 · rcases cs q hq with hq | rfl
   · exact qd0 (h.nd q hq) (h.nb q hq).2
   · exact qd0 hbx (by omega)
 · rcases cs q hq with hq | rfl
   · exact qcx (h.em q hq m hm) (h.mb q hq m hm).2.1
   · exact qcx (hmp m hm) (by have := hp2 m hm; omega)
 · rcases cs q hq with hq | rfl
   · exact h.no q hq hm
   · exact hno hm
 · rcases cs q hq with hq | rfl
   · exact h.nb q hq
   · exact ⟨by omega, by omega⟩
 · rcases cs q hq with hq0 | rfl
   · obtain ⟨k1, k2, k3⟩ := h.mb q hq0 m hm
     refine ⟨k1, k2, fun x hx => ?_⟩
     rcases cs x hx with hx | rfl
     · exact k3 x hx
     · have := (N3 q hq0).2 m hm; omega
   · have h2 := hp2 m hm
     refine ⟨by omega, by omega, fun x hx => ?_⟩
     rcases cs x hx with hx | rfl
     · have := (N3 x hx).1; omega
     · exact h2.2.2
 · rcases cs q hq with k1 | rfl <;> rcases cs q' hq' with k2 | rfl
   · exact h.bb q k1 q' k2 e
   · have := (N3 q k1).1; omega
   · have := (N3 q' k2).1; omega
   · rfl
 · rcases cs q hq with k1 | rfl <;> rcases cs q' hq' with k2 | rfl
   · exact h.mm q k1 q' k2 m e e'
   · have := (N3 q k1).2 m e; have := hp2 m e'; omega
   · have := (N3 q' k2).2 m e'; have := hp2 m e; omega
   · rfl
 · show ((T.nodes ++ [p]).map (·.no)).Nodup
   rw [List.map_append, List.nodup_append]
   refine ⟨h.key, by simp, fun a ha c hc => ?_⟩
   obtain ⟨q, hq, rfl⟩ := List.mem_map.1 ha
   simp only [List.map_cons, List.map_nil, List.mem_singleton] at hc
   rw [hc]; exact hk q hq
 · rcases cs q hq with hq | rfl
   · exact h.hn q hq
   · exact hp1.2
 · rcases cs q hq with hq | rfl
   · exact h.hm q hq m hm
   · exact (hp2 m hm).2.1
end
theorem rd25 {n : Nat} {args : List V} {s : St} {r : En × St} (e : qc0 E0 (ev E0 KD n) qa4 Try.f25 B25 args s = some r) : (ev E0 KD (n + 1)).f 25 args s = some r := qao (c := C25) (d := B25) (by kernel_rfl) (by kernel_rfl) (qa5 C25 _ (by kernel_rfl)) rfl e
theorem rd27 {n : Nat} {args : List V} {s : St} {r : En × St} (e : qc0 E0 (ev E0 KD n) qa4 Try.f27 B27 args s = some r) : (ev E0 KD (n + 1)).f 27 args s = some r := qao (c := C27) (d := B27) (by kernel_rfl) (by kernel_rfl) (qa5 C27 _ (by kernel_rfl)) rfl e
theorem rd28 {n : Nat} {args : List V} {s : St} {r : En × St} (e : qc0 E0 (ev E0 KD n) qa4 Try.f28 B28 args s = some r) : (ev E0 KD (n + 1)).f 28 args s = some r := qao (c := C28) (d := B28) (by kernel_rfl) (by kernel_rfl) (qa5 C28 _ (by kernel_rfl)) rfl e
theorem rd29 {n : Nat} {args : List V} {s : St} {r : En × St} (e : qc0 E0 (ev E0 KD n) qa4 Try.f29 B29 args s = some r) : (ev E0 KD (n + 1)).f 29 args s = some r := qao (c := C29) (d := B29) (by kernel_rfl) (by kernel_rfl) (qa5 C29 _ (by kernel_rfl)) rfl e
theorem rd30 {n : Nat} {args : List V} {s : St} {r : En × St} (e : qc0 E0 (ev E0 KD n) qa4 Try.f30 B30 args s = some r) : (ev E0 KD (n + 1)).f 30 args s = some r := qao (c := C30) (d := B30) (by kernel_rfl) (by kernel_rfl) (qa5 C30 _ (by kernel_rfl)) rfl e
theorem rd32 {n : Nat} {args : List V} {s : St} {r : En × St} (e : qc0 E0 (ev E0 KD n) qa4 Try.f32 B32 args s = some r) : (ev E0 KD (n + 1)).f 32 args s = some r := qao (c := C32) (d := B32) (by kernel_rfl) (by kernel_rfl) (qa5 C32 _ (by kernel_rfl)) rfl e
theorem rd33 {n : Nat} {args : List V} {s : St} {r : En × St} (e : qc0 E0 (ev E0 KD n) qa4 Try.f33 B33 args s = some r) : (ev E0 KD (n + 1)).f 33 args s = some r := qao (c := C33) (d := B33) (by kernel_rfl) (by kernel_rfl) (qa5 C33 _ (by kernel_rfl)) rfl e
theorem rd37 {n : Nat} {args : List V} {s : St} {r : En × St} (e : qc0 E0 (ev E0 KD n) qa4 Try.f37 B37 args s = some r) : (ev E0 KD (n + 1)).f 37 args s = some r := qao (c := C37) (d := B37) (by kernel_rfl) (by kernel_rfl) (qa5 C37 _ (by kernel_rfl)) rfl e
theorem rd26 {n : Nat} {args : List V} {s : St} {r : En × St} (e : qc0 E0 (ev E0 KD n) qa4 Try.f26 B26 args s = some r) : (ev E0 KD (n + 1)).f 26 args s = some r := qao (c := C26) (d := B26) (by kernel_rfl) (by kernel_rfl) (qa5 C26 _ (by kernel_rfl)) rfl e
theorem rd35 {n : Nat} {args : List V} {s : St} {r : En × St} (e : qc0 E0 (ev E0 KD n) qa4 Try.f35 B35 args s = some r) : (ev E0 KD (n + 1)).f 35 args s = some r := qao (c := C35) (d := B35) (by kernel_rfl) (by kernel_rfl) (qa5 C35 _ (by kernel_rfl)) rfl e
theorem rd17 {n : Nat} {args : List V} {s : St} {r : En × St} (e : qc0 E0 (ev E0 KD n) qa4 Try.f17 B17 args s = some r) : (ev E0 KD (n + 1)).f 17 args s = some r := qao (c := C17) (d := B17) (by kernel_rfl) (by kernel_rfl) (qa5 C17 _ (by kernel_rfl)) rfl e
theorem rd57 {n : Nat} {args : List V} {s : St} {r : En × St} (e : qc0 E0 (ev E0 KD n) qa4 Try.f57 B57 args s = some r) : (ev E0 KD (n + 1)).f 57 args s = some r := qao (c := C57) (d := B57) (by kernel_rfl) (by kernel_rfl) (qa5 C57 _ (by kernel_rfl)) rfl e
theorem rd58 {n : Nat} {args : List V} {s : St} {r : En × St} (e : qc0 E0 (ev E0 KD n) qa4 Try.f58 B58 args s = some r) : (ev E0 KD (n + 1)).f 58 args s = some r := qao (c := C58) (d := B58) (by kernel_rfl) (by kernel_rfl) (qa5 C58 _ (by kernel_rfl)) rfl e
theorem rd60 {n : Nat} {args : List V} {s : St} {r : En × St} (e : qc0 E0 (ev E0 KD n) qa4 Try.f60 B60 args s = some r) : (ev E0 KD (n + 1)).f 60 args s = some r := qao (c := C60) (d := B60) (by kernel_rfl) (by kernel_rfl) (qa5 C60 _ (by kernel_rfl)) rfl e
theorem rd61 {n : Nat} {args : List V} {s : St} {r : En × St} (e : qc0 E0 (ev E0 KD n) qa4 Try.f61 B61 args s = some r) : (ev E0 KD (n + 1)).f 61 args s = some r := qao (c := C61) (d := B61) (by kernel_rfl) (by kernel_rfl) (qa5 C61 _ (by kernel_rfl)) rfl e
theorem rd62 {n : Nat} {args : List V} {s : St} {r : En × St} (e : qc0 E0 (ev E0 KD n) qa4 Try.f62 B62 args s = some r) : (ev E0 KD (n + 1)).f 62 args s = some r := qao (c := C62) (d := B62) (by kernel_rfl) (by kernel_rfl) (qa5 C62 _ (by kernel_rfl)) rfl e
theorem rd63 {n : Nat} {args : List V} {s : St} {r : En × St} (e : qc0 E0 (ev E0 KD n) qa4 Try.f63 B63 args s = some r) : (ev E0 KD (n + 1)).f 63 args s = some r := qao (c := C63) (d := B63) (by kernel_rfl) (by kernel_rfl) (qa5 C63 _ (by kernel_rfl)) rfl e
theorem rd34 {n : Nat} {args : List V} {s : St} {r : En × St} (e : qc0 E0 (ev E0 KD n) qa4 Try.f34 B34 args s = some r) : (ev E0 KD (n + 1)).f 34 args s = some r := qao (c := C34) (d := B34) (by kernel_rfl) (by kernel_rfl) (qa5 C34 _ (by kernel_rfl)) rfl e
theorem rd31 {n : Nat} {args : List V} {s : St} {r : En × St} (e : qc0 E0 (ev E0 KD n) qa4 Try.f31 B31 args s = some r) : (ev E0 KD (n + 1)).f 31 args s = some r := qao (c := C31) (d := B31) (by kernel_rfl) (by kernel_rfl) (qa5 C31 _ (by kernel_rfl)) rfl e
theorem rd36 {n : Nat} {args : List V} {s : St} {r : En × St} (e : qc0 E0 (ev E0 KD n) qa4 Try.f36 B36 args s = some r) : (ev E0 KD (n + 1)).f 36 args s = some r := qao (c := C36) (d := B36) (by kernel_rfl) (by kernel_rfl) (qa5 C36 _ (by kernel_rfl)) rfl e
theorem rd23 {n : Nat} {args : List V} {s : St} {r : En × St} (e : qc0 E0 (ev E0 KD n) qa4 Try.f23 B23 args s = some r) : (ev E0 KD (n + 1)).f 23 args s = some r := qao (c := C23) (d := B23) (by kernel_rfl) (by kernel_rfl) (qa5 C23 _ (by kernel_rfl)) rfl e
theorem rd7 {n : Nat} {args : List V} {s : St} {r : En × St} (e : qc0 E0 (ev E0 KD n) qa4 Try.f7 B7 args s = some r) : (ev E0 KD (n + 1)).f 7 args s = some r := qao (c := C7) (d := B7) (by kernel_rfl) (by kernel_rfl) (qa5 C7 _ (by kernel_rfl)) rfl e
theorem rd11 {n : Nat} {args : List V} {s : St} {r : En × St} (e : qc0 E0 (ev E0 KD n) qa4 Try.f11 B11 args s = some r) : (ev E0 KD (n + 1)).f 11 args s = some r := qao (c := C11) (d := B11) (by kernel_rfl) (by kernel_rfl) (qa5 C11 _ (by kernel_rfl)) rfl e
theorem rd12 {n : Nat} {args : List V} {s : St} {r : En × St} (e : qc0 E0 (ev E0 KD n) qa4 Try.f12 B12 args s = some r) : (ev E0 KD (n + 1)).f 12 args s = some r := qao (c := C12) (d := B12) (by kernel_rfl) (by kernel_rfl) (qa5 C12 _ (by kernel_rfl)) rfl e
theorem rd13 {n : Nat} {args : List V} {s : St} {r : En × St} (e : qc0 E0 (ev E0 KD n) qa4 Try.f13 B13 args s = some r) : (ev E0 KD (n + 1)).f 13 args s = some r := qao (c := C13) (d := B13) (by kernel_rfl) (by kernel_rfl) (qa5 C13 _ (by kernel_rfl)) rfl e
theorem rd8 {n : Nat} {args : List V} {s : St} {r : En × St} (e : qc0 E0 (ev E0 KD n) qa4 Try.f8 B8 args s = some r) : (ev E0 KD (n + 1)).f 8 args s = some r := qao (c := C8) (d := B8) (by kernel_rfl) (by kernel_rfl) (qa5 C8 _ (by kernel_rfl)) rfl e
theorem rd9 {n : Nat} {args : List V} {s : St} {r : En × St} (e : qc0 E0 (ev E0 KD n) qa4 Try.f9 B9 args s = some r) : (ev E0 KD (n + 1)).f 9 args s = some r := qao (c := C9) (d := B9) (by kernel_rfl) (by kernel_rfl) (qa5 C9 _ (by kernel_rfl)) rfl e
theorem rd10 {n : Nat} {args : List V} {s : St} {r : En × St} (e : qc0 E0 (ev E0 KD n) qa4 Try.f10 B10 args s = some r) : (ev E0 KD (n + 1)).f 10 args s = some r := qao (c := C10) (d := B10) (by kernel_rfl) (by kernel_rfl) (qa5 C10 _ (by kernel_rfl)) rfl e
theorem rd14 {n : Nat} {args : List V} {s : St} {r : En × St} (e : qc0 E0 (ev E0 KD n) qa4 Try.f14 B14 args s = some r) : (ev E0 KD (n + 1)).f 14 args s = some r := qao (c := C14) (d := B14) (by kernel_rfl) (by kernel_rfl) (qa5 C14 _ (by kernel_rfl)) rfl e
theorem qek (b : Nat) : qa3 (.ptr b 0) = some (.ptr b 0) := rfl
theorem qcy (off k o : Nat) (g : Bool) (b : Nat) : faP off g (k + 1) (.ptr b o) = some (.ptr b (o + off)) := faP_ptr off g k b o
theorem eq62p (b : Nat) : qab E0 .eql 62 false true (.ptr b 0) .nilptr = some (.bool false) := by kernel_rfl
theorem eq62n : qab E0 .eql 62 false true .nilptr .nilptr = some (.bool true) := by kernel_rfl
theorem eq23p (b : Nat) : qab E0 .eql 23 false true (.ptr b 0) .nilptr = some (.bool false) := by kernel_rfl
theorem ne23p (b : Nat) : qab E0 .neq 23 false true (.ptr b 0) .nilptr = some (.bool true) := by kernel_rfl
theorem qcu {f : FuncId} (h : f ≠ 77) : E0.ext.get f = none := by
 cases hx : E0.ext.get f with
 | none => rfl
 | some k =>
  have : (f, k) ∈ [(77, 1)] := qkf (l := [(77, 1)]) hx
  simp at this
  exact absurd this.1 h
theorem qci (m : Nat) (is : Bool) (e : Int) (S : St) : (ev E0 KD (m + 1)).f 25 [.bool is, .int .i64 e] S = some (.ret (.int .i64 (if is then 0 else e)), S) :=
 rd25 (by
  show F25 (ev E0 KD m) qa4 (.bool is) (.int .i64 e) S = _
  rw [F25_eq]
  cases is <;> rfl)
section
variable {S : St} {b r : Nat} {T : Tab}
theorem big6 : 6 < big := by unfold big; decide
theorem Bx6.ld (ho : S.on = false) {x e : Nat} {l : List V} (h : Bx S x e l) (hl : l.length < big) {i : Nat} {v : V} (hv : l[i]? = some v) : ld1 (.ptr x i) S = some (v, S) := by
 obtain ⟨hi, he⟩ := List.getElem?_eq_some_iff.1 hv
 rw [h.ld1 ho i hi hl, he]
theorem TabAt.ld (h : TabAt S b r T) {i : Nat} {v : V} (hv : (T.cells r)[i]? = some v) : ld1 (.ptr b i) S = some (v, S) := Bx6.ld h.on h.tb big6 hv
theorem there_run (m : Nat) (S : St) (b : Nat) : (ev E0 KD (m + 2)).f 27 [.ptr b 0] S = some (.ret (.int .i64 0), S) :=
 rd27 (by
  show F27 (ev E0 KD (m + 1)) qa4 (.ptr b 0) S = _
  rw [F27_eq, ne23p, oB, qci, callP_ret]; rfl)
def qkw : Option Nod → V
 | some p => .ptr p.box 0
 | none => .nilptr
theorem look_tab (h : TabAt S b r T) (i : Int) (m : Option (List LE)) : qae E0 66 (.map r) (.int .i64 i) false (stt S m) = some (qkw (T.get i), stt S (m.map fun l => ⟨r, 0, big, false⟩ :: l)) := by
 rw [look_int h.on und66 zero62 h.nm i m, lkI_kvN]
 show some (((T.get i).map fun p => V.ptr p.box 0).getD V.nilptr, _) = _
 cases T.get i <;> rfl
theorem qeg (h : TabAt S b r T) (i : Int) : qae E0 66 (.map r) (.int .i64 i) false S = some (qkw (T.get i), S) := look_tab h i none
theorem qho (h : TabAt S b r T) (m : Nat) (i : Int) : (ev E0 KD (m + 1)).f 35 [.ptr b 0, .int .i64 i] S = some (.ret (qkw (T.get i)), S) :=
 rd35 (by
  show F35 (ev E0 KD m) qa4 (.ptr b 0) (.int .i64 i) S = _
  rw [F35_eq, eq23p, oB, ifK_bool, cond_false, qek, oB, qcy, oB, Nat.zero_add, h.ld (v := .map r) rfl, oB]
  dsimp only
  rw [qeg h i, oB])
theorem TabAt.nd1 (h : TabAt S b r T) {i : Int} {p : Nod} (hp : T.get i = some p) {k : Nat} {v : V} (hv : p.ino.cells[k]? = some v) : ld1 (.ptr p.box k) S = some (v, S) := Bx6.ld h.on (h.nd p (qan hp).1) big6 hv
theorem TabAt.ents (h : TabAt S b r T) {i : Int} {p : Nod} (hp : T.get i = some p) (a : List UInt8) : qae E0 63 (mapV p.ino.map) (sv a) true S = some (.tuple [.int .i64 ((lkS a p.ino.ents).getD 0), .bool (lkS a p.ino.ents).isSome], S) := by
 cases hm : p.ino.map with
 | none =>
  rw [h.no p (qan hp).1 hm]
  exact look_nil a S
 | some m => exact look_str h.on (h.em p (qan hp).1 m hm) a none
def Tab.find (T : Tab) (d : Int) (a : List UInt8) : Option Int := (T.get d).bind fun p => lkS a p.ino.ents
theorem qig (h : TabAt S b r T) (m : Nat) (d : Int) (a : List UInt8) : (ev E0 KD (m + 2)).f 13 [.ptr b 0, .int .i64 d, sv a] S = some (.ret (.tuple [.int .i64 ((T.find d a).getD 0), .bool (T.find d a).isSome]), S) :=
 rd13 (by
  show F13 (ev E0 KD (m + 1)) qa4 (.ptr b 0) (.int .i64 d) (sv a) S = _
  rw [F13_eq, qho h m d, callP_ret]
  unfold Tab.find
  cases hg : T.get d with
  | none =>
   unfold qkw
   rw [eq62n, oB, ifK_bool, cond_true]; rfl
  | some p =>
   unfold qkw
   dsimp only
   rw [eq62p, oB, ifK_bool, cond_false, qek, oB, qcy, oB, Nat.zero_add, h.nd1 hg (v := mapV p.ino.map) rfl, oB]
   dsimp only
   rw [h.ents hg, oB]
   rfl)
theorem build_35 (a c : Int) (d : List UInt8) (l : Int) : qck E0 35 [(0, .int .i64 a), (1, .int .i64 c), (2, sv d), (3, .int .i64 l)] = some (qh4 [.int .i64 a, .int .i64 c, sv d, .int .i64 l]) := by kernel_rfl
theorem cells_4 (a b c d e f : V) : qgm (Tr.ofListFrom .nil [Tr.ofListFrom .nil [a, b, c, d, e, f] 0] 0) 6 0 4 0 .nil = Tr.ofListFrom .nil [a, b, c, d] 0 := by kernel_rfl
theorem cells_22 (a b c d e f : V) : qgm (Tr.ofListFrom .nil [Tr.ofListFrom .nil [a, b, c, d, e, f] 0] 0) 6 2 2 0 .nil = Tr.ofListFrom .nil [c, d] 0 := by kernel_rfl
theorem TabAt.node4 (h : TabAt S b r T) {i : Int} {p : Nod} (hp : T.get i = some p) : Go.Proofs.Ytbihlgcdnhoknaa.Ev.ldA 4 (.ptr p.box 0) S = some (qh4 [.int .i64 p.ino.kind, .int .i64 p.ino.mode, sv p.ino.data, .int .i64 p.ino.links], S) := by
 have hb := h.nd p (qan hp).1
 unfold Bx at hb
 have hl : p.ino.cells.length = 6 := rfl
 rw [hl] at hb
 show ((ldK S p.box 0 4).bind fun q => some (V.agg 4 q.1, q.2)) = _
 unfold ldK
 rw [hb]
 simp only [show Nat.ble (0 + 4) (6 * 1) = true from rfl, show Nat.blt (6 * 1) big = true from by unfold big; decide, Bool.and_self, cond_true]
 unfold qf2
 rw [show Nat.beq 4 6 = false from rfl]
 simp only [Bool.false_and, cond_false, oB, qb3 h.on]
 unfold Ino.cells
 rw [cells_4]; rfl
theorem TabAt.used2 (h : TabAt S b r T) : Go.Proofs.Ytbihlgcdnhoknaa.Ev.ldA 2 (.ptr b 2) S = some (qh4 [.int .i64 T.ui, .int .i64 T.ub], S) := by
 have hb := h.tb
 unfold Bx at hb
 have hl : (T.cells r).length = 6 := rfl
 rw [hl] at hb
 show ((ldK S b 2 2).bind fun q => some (V.agg 2 q.1, q.2)) = _
 unfold ldK
 rw [hb]
 simp only [show Nat.ble (2 + 2) (6 * 1) = true from rfl, show Nat.blt (6 * 1) big = true from by unfold big; decide, Bool.and_self, cond_true]
 unfold qf2
 rw [show Nat.beq 2 6 = false from rfl]
 simp only [Bool.false_and, cond_false, oB, qb3 h.on]
 unfold Tab.cells
 rw [cells_22]; rfl
theorem big2 : 2 < big := by unfold big; decide
theorem big4 : 4 < big := by unfold big; decide
theorem qn4 (h : TabAt S b r T) (m : Nat) : ∃ U, (ev E0 KD (m + 1)).f 11 [.ptr b 0] S = some (.ret (qh4 [.int .i64 T.ui, .int .i64 T.ub]), U) ∧ TabAt U b r T ∧ Grew (fun _ => False) S U := by
 have h1 := h.grewF (ag_new h.on 26 2 (Tr.ofListFrom .nil [(.int .i64 0), (.int .i64 0)] 0)).2.1
 obtain ⟨U, s1, s2, s3, s4⟩ := qjt h.on 26 2 (Tr.ofListFrom .nil [(.int .i64 0), (.int .i64 0)] 0) [.int .i64 T.ui, .int .i64 T.ub] rfl (by decide) big2
 have h2 := h.grewF s3
 refine ⟨U, rd11 ?_, h2, s3⟩
 show F11 (ev E0 KD m) qa4 (.ptr b 0) S = _
 rw [F11_eq, oB, eq23p, oB, ifK_bool, cond_false, qek, oB, qcy, oB, Nat.zero_add, h1.used2, oB]
 dsimp only
 rw [qdc, s1, oB]
 dsimp only
 rw [show Go.Proofs.Ytbihlgcdnhoknaa.Ev.ldrA 2 (.ptr S.next 0) U = some (qh4 [.int .i64 T.ui, .int .i64 T.ub], U) from s2.ldA h2.on rfl big2, oB]
theorem node_run (h : TabAt S b r T) (m : Nat) (i : Int) {p : Nod} (hp : T.get i = some p) : ∃ U, (ev E0 KD (m + 2)).f 12 [.ptr b 0, .int .i64 i] S = some (.ret (.tuple [qh4 [.int .i64 p.ino.kind, .int .i64 p.ino.mode, sv p.ino.data, .int .i64 p.ino.links], .bool true]), U) ∧ TabAt U b r T ∧ Grew (fun _ => False) S U := by
 have h1 := h.grewF (ag_new h.on 35 4 (Tr.ofListFrom .nil [(.int .i64 0), (.int .i64 0), (sv []), (.int .i64 0)] 0)).2.1
 obtain ⟨U, s1, s2, s3, s4⟩ := qjt h.on 35 4 (Tr.ofListFrom .nil [(.int .i64 0), (.int .i64 0), (sv []), (.int .i64 0)] 0) [.int .i64 p.ino.kind, .int .i64 p.ino.mode, sv p.ino.data, .int .i64 p.ino.links] rfl (by decide) big4
 have h2 := h.grewF s3
 refine ⟨U, rd12 ?_, h2, s3⟩
 show F12 (ev E0 KD (m + 1)) qa4 (.ptr b 0) (.int .i64 i) S = _
 rw [F12_eq, oB, qho h1 m i, callP_ret, hp]
 unfold qkw
 dsimp only
 rw [eq62p, oB, ifK_bool, cond_false, qek, oB, qcy, oB, Nat.zero_add, h1.node4 hp, oB]
 dsimp only
 rw [qdc, s1, oB]
 dsimp only
 rw [show Go.Proofs.Ytbihlgcdnhoknaa.Ev.ldrA 4 (.ptr S.next 0) U = some (qh4 [.int .i64 p.ino.kind, .int .i64 p.ino.mode, sv p.ino.data, .int .i64 p.ino.links], U) from s2.ldA h2.on rfl big4, oB]
theorem build35 : qck E0 35 [] = some (qh4 [.int .i64 0, .int .i64 0, sv [], .int .i64 0]) := by kernel_rfl
theorem node_none (h : TabAt S b r T) (m : Nat) (i : Int) (hp : T.get i = none) : ∃ U, (ev E0 KD (m + 2)).f 12 [.ptr b 0, .int .i64 i] S = some (.ret (.tuple [qh4 [.int .i64 0, .int .i64 0, sv [], .int .i64 0], .bool false]), U) ∧ TabAt U b r T ∧ Grew (fun _ => False) S U := by
 have h1 := h.grewF (ag_new h.on 35 4 (Tr.ofListFrom .nil [(.int .i64 0), (.int .i64 0), (sv []), (.int .i64 0)] 0)).2.1
 obtain ⟨U, s1, s2, s3, s4⟩ := qjt h.on 35 4 (Tr.ofListFrom .nil [(.int .i64 0), (.int .i64 0), (sv []), (.int .i64 0)] 0) [.int .i64 0, .int .i64 0, sv [], .int .i64 0] rfl (by decide) big4
 have h2 := h.grewF s3
 refine ⟨U, rd12 ?_, h2, s3⟩
 show F12 (ev E0 KD (m + 1)) qa4 (.ptr b 0) (.int .i64 i) S = _
 rw [F12_eq, oB, qho h1 m i, callP_ret, hp]
 unfold qkw
 dsimp only
 rw [eq62n, oB, ifK_bool, cond_true, build35, oB, qdc, s1, oB]
 dsimp only
 rw [show Go.Proofs.Ytbihlgcdnhoknaa.Ev.ldrA 4 (.ptr S.next 0) U = some (qh4 [.int .i64 0, .int .i64 0, sv [], .int .i64 0], U) from s2.ldA h2.on rfl big4, oB]
theorem up_run (h : TabAt S b r T) (m : Nat) (i : Int) : (ev E0 KD (m + 2)).f 17 [.ptr b 0, .int .i64 i] S = some (.ret (.int .i64 (match T.get i with | some p => p.ino.up | none => 0)), S) :=
 rd17 (by
  show F17 (ev E0 KD (m + 1)) qa4 (.ptr b 0) (.int .i64 i) S = _
  rw [F17_eq, qho h m i, callP_ret]
  cases hg : T.get i with
  | none =>
   unfold qkw
   rw [eq62n, oB, ifK_bool, cond_true]
  | some p =>
   unfold qkw
   dsimp only
   rw [eq62p, oB, ifK_bool, cond_false, qek, oB, qcy, oB, Nat.zero_add, h.nd1 hg (v := .int .i64 p.ino.up) rfl, oB])
end
def numb : Nat → List V → List (Nat × V)
 | _, [] => []
 | i, v :: l => (i, v) :: numb (i + 1) l
theorem fillE_numb (n : Nat) : ∀ (vs : List V) (i : Nat) (c : Tr (Tr V)), (∀ v ∈ vs, OneV v) → i + vs.length ≤ n → ∃ c', qmh n 1 c (numb i vs) = some c' ∧ ∀ j, (∀ v, i ≤ j → vs[j - i]? = some v → c'.get j = some (Go.Proofs.Ytbihlgcdnhoknaa.Ev.one v)) ∧ (j < i → c'.get j = c.get j)
 | [], i, c, _, _ => ⟨c, rfl, fun j => ⟨fun v _ h => by simp at h, fun _ => rfl⟩⟩
 | v :: vs, i, c, hv, hn => by
  have h1 := hv v (List.mem_cons_self ..)
  rw [List.length_cons] at hn
  obtain ⟨c', h2, h3⟩ := fillE_numb n vs (i + 1) (c.set (Go.Proofs.Ytbihlgcdnhoknaa.Ev.one v) i) (fun w hw => hv w (List.mem_cons_of_mem _ hw)) (by omega)
  refine ⟨c', ?_, fun j => ⟨fun w hj hw => ?_, fun hj => ?_⟩⟩
  · show qmh n 1 c ((i, v) :: numb (i + 1) vs) = _
    unfold qmh
    rw [h1.size, h1.tup, h1.cells, show Nat.blt i n = true from blt_true.2 (by omega)]
    simp only [Nat.beq_refl, Bool.not_false, Bool.and_self, cond_true, Tr.setC_eq]
    exact h2
  · by_cases e : j = i
    · subst e
      rw [Nat.sub_self] at hw
      simp only [List.getElem?_cons_zero, oS] at hw
      rw [(h3 j).2 (by omega), Tr.get_set, if_pos rfl, hw]
    · refine (h3 j).1 w (by omega) ?_
      rw [show j - i = (j - (i + 1)) + 1 by omega, List.getElem?_cons_succ] at hw
      exact hw
  · rw [(h3 j).2 (by omega), Tr.get_set, if_neg (by omega)]
section
variable {S : St}
theorem bsP_ones (ho : S.on = false) (e : Nat) (z : Tr V) (vs : List V) (hv : ∀ v ∈ vs, OneV v) (hf : vs.length < big) : ∃ U, (∀ m, bsP e 1 vs.length z (numb 0 vs) (stt S m) = some (.slice S.next 0 vs.length vs.length, stt U (m.map fun l => ⟨S.next, 0, big, true⟩ :: l))) ∧ RowAt U S.next e 1 (vs.map Go.Proofs.Ytbihlgcdnhoknaa.Ev.one) ∧ Grew (fun _ => False) S U ∧ U.next = S.next + 1 := by
 obtain ⟨c, h1, h2⟩ := fillE_numb vs.length vs 0 (Tr.tab vs.length vs.length fun _ => z) hv (by omega)
 refine ⟨nw S (.cells e 1 vs.length false c), fun m => ?_, ?_, qce ho _ _, rfl⟩
 · unfold bsP
   rw [h1, oB]
   cases m with
   | none => rfl
   | some l =>
    show some (V.slice S.next 0 vs.length vs.length, nw (S.lg l) _) = _
    rw [nw_lg ho]; rfl
 · refine ql1 ho (by omega) (by rw [List.length_map]) (by omega) fun i t h => ?_
   rw [List.getElem?_map] at h
   cases hg : vs[i]? with
   | none => rw [hg] at h; cases h
   | some v =>
    rw [hg] at h
    simp only [Option.map_some, oS] at h
    rw [← h]
    exact (h2 i).1 v (Nat.zero_le _) hg
def Asks (S : St) (n : Nat) (f : V) (e : Int) : Prop := ∀ U, Grew (fun _ => False) S U → ∃ U', qjb E0 (ev E0 KD n) f [] U = some (.ret (.int .i64 e), U') ∧ Grew (fun _ => False) U U'
theorem Asks.mono {S S2 : St} {n : Nat} {f : V} {e : Int} (h : Asks S n f e) (g : Grew (fun _ => False) S S2) : Asks S2 n f e := fun U gU => h U (g.trans gU)
def AsksAll (S : St) (n : Nat) : List V → Int → Prop
 | [], e => e = 0
 | f :: fs, e => ∃ e1, Asks S n f e1 ∧ ((e1 ≠ 0 ∧ e = e1) ∨ (e1 = 0 ∧ AsksAll S n fs e))
theorem AsksAll.mono {S S2 : St} {n : Nat} (g : Grew (fun _ => False) S S2) : ∀ {fs : List V} {e : Int}, AsksAll S n fs e → AsksAll S2 n fs e
 | [], _, h => h
 | _ :: _, _, ⟨e1, h1, .inl h2⟩ => ⟨e1, h1.mono g, .inl h2⟩
 | _ :: _, _, ⟨e1, h1, .inr ⟨h2, h3⟩⟩ => ⟨e1, h1.mono g, .inr ⟨h2, AsksAll.mono g h3⟩⟩
theorem qob (e : Int) : qab E0 .neq 27 false true (.int .i64 e) (.int .i64 0) = some (.bool (!(e == 0))) := by
 rw [binV_ii, intsV_neq]
 rfl
theorem L26_spec {n N : Nat} (ho : S.on = false) {x : Nat} (hx : x < S.next) {row : List V} (hr : RowAt S x 72 1 (row.map Go.Proofs.Ytbihlgcdnhoknaa.Ev.one)) (nk : Ac → St → Rs) (ek : Nat → Ac → St → Rs) (e : Int) :
 ∀ (fs : List V) (i k : Nat) (U : St), row.drop i = fs → fs.length < k → row.length < 1000000 → Grew (fun _ => False) S U → AsksAll S n fs e →
 ∃ U', L26_6 (ev E0 KD n) N nk ek k (.slice x 0 row.length row.length) (.int .i64 (row.length : Int)) (.int .i64 (i : Int)) U = (if e = 0 then ek 0 (fr 18 []) U' else some (.ret (.int .i64 e), U')) ∧ Grew (fun _ => False) S U'
 | fs, i, 0, U, _, hk, _, _, _ => by omega
 | [], i, k + 1, U, hi, hk, hb, g, ha => by
  refine ⟨U, ?_, g⟩
  have he : e = 0 := ha
  rw [L26_6_eq, binV_ii, intsV_lss, dec_ge (drop_end hi), oB, ifK_bool, cond_false, if_pos he]
 | f :: fs, i, k + 1, U, hi, hk, hb, g, ha => by
  obtain ⟨hlt, hf, hrest, _⟩ := drop_at hi
  obtain ⟨e1, h1, h2⟩ := ha
  obtain ⟨U', q1, q2'⟩ := h1 U g
  have q2 := g.trans q2'
  have hrow := hr.grew hx (fun h => h) g
  have hgi : (row.map Go.Proofs.Ytbihlgcdnhoknaa.Ev.one)[i]? = some (Go.Proofs.Ytbihlgcdnhoknaa.Ev.one f) := by rw [List.getElem?_map, List.getElem?_eq_getElem hlt, hf]; rfl
  have hl : ld1 (.ptr x (0 + i * 1)) U = some (f, U) := by
   show ld U x (0 + i * 1) = _
   rw [show 0 + i * 1 = i by omega]
   exact hrow.ld1 (g.on.trans ho) hgi
  have hix : ixP 1 (.slice x 0 row.length row.length) (.int .i64 (i : Int)) = some (.ptr x (0 + i * 1)) := by
   show (bif Nat.blt i row.length then some (V.ptr x (0 + i * 1)) else none) = _
   rw [blt_true.2 hlt]; rfl
  rw [L26_6_eq, binV_ii, intsV_lss, dec_lt hlt, oB, ifK_bool, cond_true, hix, oB, hl, oB]
  dsimp only
  rw [q1, callP_ret, qob, oB, ifK_bool]
  rcases h2 with ⟨h3, rfl⟩ | ⟨rfl, h3⟩
  · rw [beq_false_of_ne h3]
    exact ⟨U', by rw [if_neg h3]; rfl, q2⟩
  · rw [beq_self_eq_true, Bool.not_true, cond_false, binV_ii, intsV_add, qpe (by omega), oB]
    exact L26_spec ho hx hr nk ek e fs (i + 1) k U' hrest (by simp at hk; omega) hb q2 h3
theorem first_run {n : Nat} (ho : S.on = false) {x : Nat} (hx : x < S.next) {row : List V} (hr : RowAt S x 72 1 (row.map Go.Proofs.Ytbihlgcdnhoknaa.Ev.one)) (hb : row.length < 1000000) {e : Int} (ha : AsksAll S n row e) :
 ∃ U', (ev E0 KD (n + 1)).f 26 [.slice x 0 row.length row.length] S = some (.ret (.int .i64 e), U') ∧ Grew (fun _ => False) S U' := by
 obtain ⟨U', h1, h2⟩ := L26_spec (N := qa4) ho hx hr (R26_1 (ev E0 KD n) qa4 (qdw E0 (ev E0 KD n) Try.f26) qda) (exB 0 (R26_1 (ev E0 KD n) qa4 (qdw E0 (ev E0 KD n) Try.f26) qda) qda) e row 0 qa4 S rfl (by unfold qa4; omega) hb (Grew.refl _ _) ha
 refine ⟨U', rd26 ?_, h2⟩
 show F26 (ev E0 KD n) qa4 (.slice x 0 row.length row.length) S = _
 rw [F26_eq, lnS_slice, oB]
 dsimp only
 rw [show (V.int .i64 0) = .int .i64 ((0 : Nat) : Int) from rfl, h1]
 by_cases h : e = 0
 · rw [if_pos h, exB_same, R26_1_eq, h]
 · rw [if_neg h]
structure Cap (S : St) (x e : Nat) (v : V) : Prop where
 bx : Bx S x e [v]
 lt : x < S.next
theorem Cap.grew {U : St} {x e : Nat} {v : V} (h : Cap S x e v) (g : Grew (fun _ => False) S U) : Cap U x e v := ⟨h.bx.grew h.lt (fun h => h) g, Nat.lt_of_lt_of_le h.lt g.next⟩
theorem Cap.ld {x e : Nat} {v : V} (h : Cap S x e v) (ho : S.on = false) : ld1 (.ptr x 0) S = some (v, S) := Bx6.ld ho h.bx big1 rfl
theorem qd8 {E : Env} {self : EV} {f : FuncId} (h : E.ext.get f = none) (hb : qdb E f = true) (x y args : List V) (S : St) : qjb E self (.fn (.func f) x y) args S = self.f f (x ++ args ++ y) S := by
 show (match E.ext.get f with | some k => _ | none => _) = _
 rw [h]
 show (bif qdb E f then self.f f (x ++ args ++ y) S else none) = _
 rw [hb]; rfl
end
def qmf (T : Tab) (d : Int) : Int := match T.get d with
 | none => 5
 | some p => if p.ino.kind = 2 then 0 else 8
def eFile (T : Tab) (d : Int) : Int := match T.get d with
 | none => 5
 | some p => if p.ino.kind = 2 then 7 else if p.ino.kind = 1 then 0 else 2
def eFree (T : Tab) (d : Int) (a : List UInt8) : Int := if (T.find d a).isSome then 6 else 0
def qg6 (T : Tab) (d : Int) (a : List UInt8) : Int := if (T.find d a).isSome then 0 else 5
def mayBe (s : List UInt8) : Bool := !(s == []) && !(s == [46]) && !(s == [46, 46]) && !(s.any qbq)
def eNamed (s : List UInt8) : Int := if 56 < s.length then 3 else if mayBe s then 0 else 2
section
variable {S : St} {b r : Nat} {T : Tab}
theorem qhl (t : TypeId) (c d : Bool) (k : IntKind) (x y : Int) : qab E0 .eql t c d (.int k x) (.int k y) = some (.bool (decide (x = y))) := by rw [binV_ii, intsV_eql]
theorem qee (h : TabAt S b r T) (m : Nat) {x y : Nat} {d : Int} (hx : Cap S x 23 (.ptr b 0)) (hy : Cap S y 3 (.int .i64 d)) : Asks S (m + 2) (.fn (.func 57) [] [.ptr x 0, .ptr y 0]) (qmf T d) := fun U g => by
 have h1 := h.grewF g
 refine ⟨U, ?_, Grew.refl _ _⟩
 rw [qd8 (qcu (by decide)) (by kernel_rfl)]
 refine rd57 ?_
 show F57 (ev E0 KD (m + 1)) qa4 (.ptr x 0) (.ptr y 0) U = _
 rw [F57_eq, (hx.grew g).ld h1.on, oB]
 dsimp only
 rw [(hy.grew g).ld h1.on, oB]
 dsimp only
 rw [qho h1 m d, callP_ret]
 unfold qmf
 cases hg : T.get d with
 | none =>
  unfold qkw
  rw [eq62n, oB, ifK_bool, cond_true]
 | some p =>
  unfold qkw
  dsimp only
  rw [eq62p, oB, ifK_bool, cond_false, qek, oB, qcy, oB, qcy, oB, Nat.zero_add, h1.nd1 hg (v := .int .i64 p.ino.kind) rfl, oB]
  dsimp only
  rw [qhl, oB, qci, callP_ret]
  by_cases hk : p.ino.kind = 2
  · rw [if_pos hk, decide_eq_true hk]; rfl
  · rw [if_neg hk, decide_eq_false hk]; rfl
theorem qif (h : TabAt S b r T) (m : Nat) {x y : Nat} {d : Int} (hx : Cap S x 23 (.ptr b 0)) (hy : Cap S y 3 (.int .i64 d)) : Asks S (m + 2) (.fn (.func 62) [] [.ptr x 0, .ptr y 0]) (eFile T d) := fun U g => by
 have h1 := h.grewF g
 refine ⟨U, ?_, Grew.refl _ _⟩
 rw [qd8 (qcu (by decide)) (by kernel_rfl)]
 refine rd62 ?_
 show F62 (ev E0 KD (m + 1)) qa4 (.ptr x 0) (.ptr y 0) U = _
 rw [F62_eq, (hx.grew g).ld h1.on, oB]
 dsimp only
 rw [(hy.grew g).ld h1.on, oB]
 dsimp only
 rw [qho h1 m d, callP_ret]
 unfold eFile
 cases hg : T.get d with
 | none =>
  unfold qkw
  rw [eq62n, oB, ifK_bool, cond_true]
 | some p =>
  unfold qkw
  dsimp only
  rw [eq62p, oB, ifK_bool, cond_false, qek, oB, qcy, oB, qcy, oB, Nat.zero_add, h1.nd1 hg (v := .int .i64 p.ino.kind) rfl, oB]
  dsimp only
  rw [qhl, oB, ifK_bool]
  by_cases hk : p.ino.kind = 2
  · rw [if_pos hk, decide_eq_true hk]; rfl
  · rw [if_neg hk, decide_eq_false hk, cond_false]
    simp only [qek, qcy, oB, Nat.zero_add]
    rw [h1.nd1 hg (v := .int .i64 p.ino.kind) rfl, oB]
    dsimp only
    rw [qhl, oB, qci, callP_ret]
    by_cases hk1 : p.ino.kind = 1
    · rw [if_pos hk1, decide_eq_true hk1]; rfl
    · rw [if_neg hk1, decide_eq_false hk1]; rfl
theorem qk8 (a c : V) : qa6 (.tuple [a, c]) 0 = some a := rfl
theorem qk9 (a c : V) : qa6 (.tuple [a, c]) 1 = some c := rfl
theorem gTT : qa2 true (.bool true) = some true := rfl
theorem gTF : qa2 true (.bool false) = some false := rfl
theorem gFT : qa2 false (.bool true) = some false := rfl
theorem gFF : qa2 false (.bool false) = some true := rfl
theorem notV (c : Bool) : unV .not (.bool c) = some (.bool (!c)) := rfl
theorem qlc (h : TabAt S b r T) (m : Nat) {x y z : Nat} {d : Int} {a : List UInt8} (hx : Cap S x 23 (.ptr b 0)) (hy : Cap S y 3 (.int .i64 d)) (hz : Cap S z 9 (sv a)) : Asks S (m + 3) (.fn (.func 60) [] [.ptr x 0, .ptr y 0, .ptr z 0]) (eFree T d a) := fun U g => by
 have h1 := h.grewF g
 refine ⟨U, ?_, Grew.refl _ _⟩
 rw [qd8 (qcu (by decide)) (by kernel_rfl)]
 refine rd60 ?_
 show F60 (ev E0 KD (m + 2)) qa4 (.ptr x 0) (.ptr y 0) (.ptr z 0) U = _
 rw [F60_eq, (hx.grew g).ld h1.on, oB]
 dsimp only
 rw [(hy.grew g).ld h1.on, oB]
 dsimp only
 rw [(hz.grew g).ld h1.on, oB]
 dsimp only
 rw [qig h1 m d a, callP_ret, qk8, oB, qk9, oB, notV, oB, qci, callP_ret]
 unfold eFree
 cases (T.find d a).isSome <;> rfl
theorem qgo (h : TabAt S b r T) (m : Nat) {x y z : Nat} {d : Int} {a : List UInt8} (hx : Cap S x 23 (.ptr b 0)) (hy : Cap S y 3 (.int .i64 d)) (hz : Cap S z 9 (sv a)) : Asks S (m + 3) (.fn (.func 63) [] [.ptr x 0, .ptr y 0, .ptr z 0]) (qg6 T d a) := fun U g => by
 have h1 := h.grewF g
 refine ⟨U, ?_, Grew.refl _ _⟩
 rw [qd8 (qcu (by decide)) (by kernel_rfl)]
 refine rd63 ?_
 show F63 (ev E0 KD (m + 2)) qa4 (.ptr x 0) (.ptr y 0) (.ptr z 0) U = _
 rw [F63_eq, (hx.grew g).ld h1.on, oB]
 dsimp only
 rw [(hy.grew g).ld h1.on, oB]
 dsimp only
 rw [(hz.grew g).ld h1.on, oB]
 dsimp only
 rw [qig h1 m d a, callP_ret, qk8, oB, qk9, oB, qci, callP_ret]
 unfold qg6
 cases (T.find d a).isSome <;> rfl
theorem qnt (h : TabAt S b r T) (m : Nat) {x y z : Nat} {d i : Int} {a : List UInt8} {p : Nod} (hf : T.find d a = some i) (hp : T.get i = some p) (hl : p.ino.ents.length < 1000000) (hx : Cap S x 23 (.ptr b 0)) (hy : Cap S y 3 (.int .i64 d)) (hz : Cap S z 9 (sv a)) : Asks S (m + 3) (.fn (.func 36) [] [.ptr x 0, .ptr y 0, .ptr z 0]) (if p.ino.ents = [] then 0 else 20) := fun U g => by
 have h1 := h.grewF g
 refine ⟨U, ?_, Grew.refl _ _⟩
 rw [qd8 (qcu (by decide)) (by kernel_rfl)]
 refine rd36 ?_
 show F36 (ev E0 KD (m + 2)) qa4 (.ptr x 0) (.ptr y 0) (.ptr z 0) U = _
 rw [F36_eq, (hx.grew g).ld h1.on, oB]
 dsimp only
 rw [(hy.grew g).ld h1.on, oB]
 dsimp only
 rw [(hz.grew g).ld h1.on, oB]
 dsimp only
 rw [qig h1 m d a, callP_ret, qk8, oB, qk9, oB, (hx.grew g).ld h1.on, oB]
 dsimp only
 rw [qek, oB, qcy, oB, Nat.zero_add, h1.ld (v := .map r) rfl, oB]
 dsimp only
 rw [hf, show (some i).getD 0 = i from rfl, qeg h1 i, oB, hp]
 unfold qkw
 dsimp only
 rw [qek, oB, qcy, oB, Nat.zero_add, h1.nd1 hp (v := mapV p.ino.map) rfl, oB]
 dsimp only
 have hln : lnMap (mapV p.ino.map) U = some (.int .i64 (p.ino.ents.length : Int), U) := by
  cases hm : p.ino.map with
  | none => rw [h1.no p (qan hp).1 hm]; rfl
  | some m0 =>
   have := lnMap_of h1.on (h1.em p (qan hp).1 m0 hm)
   rw [show (kvS p.ino.ents).length = p.ino.ents.length by unfold kvS; rw [List.length_map]] at this
   exact this
 rw [hln, oB]
 dsimp only
 rw [qhl, oB, qci, callP_ret]
 cases he : p.ino.ents with
 | nil => rfl
 | cons q l =>
  have hne : decide (((q :: l).length : Int) = 0) = false := decide_eq_false (by rw [List.length_cons]; omega)
  rw [hne]
  rfl
theorem strEq (c d : Bool) (a e : List UInt8) : qab E0 .neq 9 c d (sv a) (sv e) = some (.bool (!(a == e))) := by rw [binV_ss, strOp_neq]
theorem qji (m : Nat) {z : Nat} {a : List UInt8} (ho : S.on = false) (hz : Cap S z 9 (sv a)) (hl : a.length < 9223372036854775808) : Asks S (m + 2) (.fn (.func 58) [] [.ptr z 0]) (eNamed a) := fun U g => by
 have on1 := g.on.trans ho
 refine ⟨U, ?_, Grew.refl _ _⟩
 rw [qd8 (qcu (by decide)) (by kernel_rfl)]
 refine rd58 ?_
 show F58 (ev E0 KD (m + 1)) qa4 (.ptr z 0) U = _
 have hc : ∀ n, (ev E0 KD (n + 1)).f 59 [sv a, sv [47, 0]] U = some (.ret (.bool (a.any qbq)), U) := fun n => by
  rw [qgp (show KD 59 = some kfAny from knAdd_same)]
  exact kfAny_run a hl U
 have hld := (hz.grew g).ld on1
 rw [F58_eq, hld, oB]
 dsimp only
 rw [lnStr_sv, oB]
 dsimp only
 rw [binV_ii, intsV_gtr, oB, ifK_bool]
 unfold eNamed
 by_cases h56 : 56 < a.length
 · rw [if_pos h56, decide_eq_true (by omega : (56 : Int) < (a.length : Int)), cond_true]
 · rw [if_neg h56, decide_eq_false (by omega : ¬ (56 : Int) < (a.length : Int)), cond_false, hld, oB]
   dsimp only
   rw [strEq, oB]
   unfold mayBe
   cases h0 : (a == []) with
   | true =>
    simp only [Bool.not_true, gTF, oB, cond_false, pickV_bool, Bool.false_and, callP_ret, qci]
   | false =>
    simp only [Bool.not_false, gTT, oB, cond_true, hld, strEq, pickV_bool, Bool.true_and]
    cases h1 : (a == [46]) with
    | true =>
     simp only [Bool.not_true, gTF, oB, cond_false, pickV_bool, Bool.false_and, callP_ret, qci]
    | false =>
     simp only [Bool.not_false, gTT, oB, cond_true, hld, strEq, pickV_bool, Bool.true_and]
     cases h2 : (a == [46, 46]) with
     | true =>
      simp only [Bool.not_true, gTF, oB, cond_false, pickV_bool, Bool.false_and, callP_ret, qci]
     | false =>
      simp only [Bool.not_false, gTT, oB, cond_true, hld, hc, callP_ret, notV, pickV_bool, Bool.true_and, qci]
end
end Go.Proofs.Ytbihlgcdnhoknaa.W
