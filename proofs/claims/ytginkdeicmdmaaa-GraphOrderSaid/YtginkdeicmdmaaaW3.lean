/-
  WHAT THE FUNCTIONS COME TO: each is read by the evaluator, printed, and told as a function of data, part 3 of 5 (no condition).
-/
import Derived.Test.YtginkdeicmdmaaaW2
namespace Go.Proofs.Ytginkdeicmdmaaa.W
open Go.Proofs.Ytginkdeicmdmaaa.Ev Go.RowKit
theorem rd28K {K : FuncId → Option KF} (hK : K 28 = none) {n : Nat} {args : List V} {s : St} {r : En × St} (e : runF E0 (ev E0 K n) rounds Try.f28 B28 args s = some r) : (ev E0 K (n + 1)).f 28 args s = some r := ev_read (c := C28) (d := B28) (by kernel_rfl) (by kernel_rfl) (annot_isOf C28 _ (by kernel_rfl)) hK e
theorem rd30 {n : Nat} {args : List V} {s : St} {r : En × St} (e : runF E0 (ev E0 KD n) rounds Try.f30 B30 args s = some r) : (ev E0 KD (n + 1)).f 30 args s = some r := ev_read (c := C30) (d := B30) (by kernel_rfl) (by kernel_rfl) (annot_isOf C30 _ (by kernel_rfl)) rfl e
theorem rd47 {n : Nat} {args : List V} {s : St} {r : En × St} (e : runF E0 (ev E0 KD n) rounds Try.f47 B47 args s = some r) : (ev E0 KD (n + 1)).f 47 args s = some r := ev_read (c := C47) (d := B47) (by kernel_rfl) (by kernel_rfl) (annot_isOf C47 _ (by kernel_rfl)) rfl e
theorem rd8 {n : Nat} {args : List V} {s : St} {r : En × St} (e : runF E0 (ev E0 KD n) rounds Try.f8 B8 args s = some r) : (ev E0 KD (n + 1)).f 8 args s = some r := ev_read (c := C8) (d := B8) (by kernel_rfl) (by kernel_rfl) (annot_isOf C8 _ (by kernel_rfl)) rfl e
theorem rd13 {n : Nat} {args : List V} {s : St} {r : En × St} (e : runF E0 (ev E0 KD n) rounds Try.f13 B13 args s = some r) : (ev E0 KD (n + 1)).f 13 args s = some r := ev_read (c := C13) (d := B13) (by kernel_rfl) (by kernel_rfl) (annot_isOf C13 _ (by kernel_rfl)) rfl e
structure Pth where
 nm : Bs
 rv : V
 refs : List Bs
def Pth.cells (p : Pth) : List V := [sv p.nm, p.rv, sv [], sv []]
noncomputable def treeP (p : Pth) : Tr V := Tr.ofListFrom .nil p.cells 0
def Pth.kv (p : Pth) : Bs × V := (p.nm, p.rv)
def names (l : List Pth) : List Bs := l.map (·.nm)
def lkP (a : Bs) : List Pth → Option Pth
 | [] => none
 | p :: l => if a = p.nm then some p else lkP a l
theorem lkS_kv (a : Bs) : ∀ l : List Pth, lkS a (l.map Pth.kv) = (lkP a l).map (·.rv)
 | [] => rfl
 | p :: l => by
  rw [List.map_cons]
  unfold lkS lkP
  by_cases h : a = p.nm
  · rw [if_pos h, if_pos (show a = p.kv.1 from h)]; rfl
  · rw [if_neg h, if_neg (show ¬ a = p.kv.1 from h), lkS_kv a l]
theorem lkP_mem {a : Bs} {p : Pth} : ∀ {l : List Pth}, lkP a l = some p → p ∈ l ∧ p.nm = a
 | [], h => by cases h
 | q :: l, h => by
  unfold lkP at h
  by_cases hc : a = q.nm
  · rw [if_pos hc] at h
    cases h
    exact ⟨List.mem_cons_self .., hc.symm⟩
  · rw [if_neg hc] at h
    exact ⟨List.mem_cons_of_mem _ (lkP_mem h).1, (lkP_mem h).2⟩
theorem lkP_none {a : Bs} : ∀ {l : List Pth}, lkP a l = none ↔ a ∉ names l
 | [] => by simp [lkP, names]
 | q :: l => by
  unfold lkP
  by_cases hc : a = q.nm
  · rw [if_pos hc]; simp [names, hc]
  · rw [if_neg hc, lkP_none]
    simp [names, hc]
def addP (out : List Pth) (p : Pth) : List Pth := if (lkP p.nm out).isSome then out else out ++ [p]
def refsOf (l : List Pth) : List Pth := l.foldl addP []
section
variable {S T U : St}
structure RowR (s : St) (b e z : Nat) (l : List (Tr V)) : Prop where
 pos : 0 < z
 fit : z * l.length < big
 row : ∃ ro c, s.heap.get b = some (.cells e z l.length ro c) ∧ ∀ (i : Nat) t, l[i]? = some t → c.get i = some t
theorem RowR.of {b e z : Nat} {l : List (Tr V)} (h : RowAt S b e z l) : RowR S b e z l := ⟨h.pos, h.fit, let ⟨c, h1, h2⟩ := h.row; ⟨false, c, h1, h2⟩⟩
theorem RowR.grew {W : Nat → Prop} {b e z : Nat} {l : List (Tr V)} (h : RowR S b e z l) (hb : b < S.next) (hw : ¬ W b) (g : Grew W S T) : RowR T b e z l := by
 obtain ⟨ro, c, h1, h2⟩ := h.row
 exact ⟨h.pos, h.fit, ro, c, by rw [g.keep b hb hw]; exact h1, h2⟩
theorem RowR.ldK (ho : S.on = false) {b e z i : Nat} {l : List (Tr V)} {t : Tr V} (h : RowR S b e z l) (hi : l[i]? = some t) : ldK S b (i * z) z = some (t, S) := by
 obtain ⟨ro, c, h1, h2⟩ := h.row
 have hlt := (List.getElem?_eq_some_iff.1 hi).1
 unfold Go.Proofs.Ytginkdeicmdmaaa.Ev.ldK
 rw [h1]
 have hle : i * z + z ≤ z * l.length := by
  calc i * z + z = (i + 1) * z := by rw [Nat.add_mul, Nat.one_mul]
   _ ≤ l.length * z := Nat.mul_le_mul_right _ hlt
   _ = z * l.length := Nat.mul_comm ..
 simp only [ble_true.2 hle, blt_true.2 h.fit, Bool.and_self, cond_true]
 unfold elemIn
 rw [Nat.beq_refl, show Nat.beq (i * z % z) 0 = true from beq_true.2 (Nat.mul_mod_left ..)]
 simp only [Bool.and_self, cond_true, Nat.mul_div_cancel _ h.pos, h2 i t hi, oB, note_off ho]
theorem RowR.ldN (ho : S.on = false) {b e z : Nat} {l : List (Tr V)} (h : RowR S b e z l) : ∀ (n i : Nat), i + n ≤ l.length → ldN b z n (i * z) S = some ((l.drop i).take n, S)
 | 0, i, _ => by simp [Go.Proofs.Ytginkdeicmdmaaa.Ev.ldN]
 | n + 1, i, hle => by
  have hlt : i < l.length := by omega
  unfold Go.Proofs.Ytginkdeicmdmaaa.Ev.ldN
  rw [h.ldK ho (List.getElem?_eq_getElem hlt)]
  simp only [oB]
  rw [show i * z + z = (i + 1) * z by rw [Nat.add_mul, Nat.one_mul], RowR.ldN ho h n (i + 1) (by omega)]
  simp only [oB]
  rw [List.drop_eq_getElem_cons hlt, List.take_succ_cons]
theorem RowR.ldf (ho : S.on = false) {b e z i j : Nat} {l : List (Tr V)} {t : Tr V} {v : V} (h : RowR S b e z l) (hi : l[i]? = some t) (hj : j < z) (hv : t.get j = some v) : ld S b (i * z + j) = some (v, S) := by
 obtain ⟨ro, c, h1, h2⟩ := h.row
 have hlt := (List.getElem?_eq_some_iff.1 hi).1
 have hlt2 : i * z + j < z * l.length := by
  calc i * z + j < i * z + z := by omega
   _ = (i + 1) * z := by rw [Nat.add_mul, Nat.one_mul]
   _ ≤ l.length * z := Nat.mul_le_mul_right _ hlt
   _ = z * l.length := Nat.mul_comm ..
 have hc : (c.get ((i * z + j) / z)).bind (fun t => t.get ((i * z + j) % z)) = some v := by
  rw [Nat.mul_comm i z, Nat.mul_add_div h.pos, Nat.div_eq_of_lt hj, Nat.add_zero, Nat.mul_add_mod, Nat.mod_eq_of_lt hj, h2 i _ hi]
  exact hv
 unfold ld
 rw [h1]
 simp only [blt_true.2 hlt2, blt_true.2 h.fit, Bool.and_self, cond_true]
 simp only [oI] at hc
 obtain ⟨u, hu, hv'⟩ := hc
 rw [hu, oB, hv', oB, note_off ho]
def PL (S : St) (v : V) (l : List Pth) : Prop := ((l = [] ∧ v = .nilslice) ∨ ∃ r, v = .oslice r 0 l.length 4 ∧ RowR S r 28 4 (l.map treeP) ∧ r < S.next ∧ 0 < l.length) ∧ ∀ p ∈ l, TL S p.rv p.refs
theorem PL.nil : PL S .nilslice [] := ⟨.inl ⟨rfl, rfl⟩, fun _ h => by cases h⟩
theorem PL.grew {v : V} {l : List Pth} (h : PL S v l) (g : Grew (fun _ => False) S U) : PL U v l := by
 refine ⟨?_, fun p hp => (h.2 p hp).grew0 g⟩
 rcases h.1 with h | ⟨r, h0, h1, h2, h3⟩
 · exact .inl h
 · exact .inr ⟨r, h0, h1.grew h2 (fun h => h) g, Nat.lt_of_lt_of_le h2 g.next, h3⟩
theorem PL.lenV {v : V} {l : List Pth} (h : PL S v l) : Go.Proofs.Ytginkdeicmdmaaa.Ev.lenV v = some l.length := by
 rcases h.1 with ⟨rfl, rfl⟩ | ⟨r, rfl, _⟩ <;> rfl
theorem PL.len {v : V} {l : List Pth} (h : PL S v l) (U : St) : lnS v U = some (.int .i64 (l.length : Int), U) := by
 rcases h.1 with ⟨rfl, rfl⟩ | ⟨r, rfl, _⟩ <;> rfl
theorem PL.ix {v : V} {l : List Pth} (h : PL S v l) {i : Nat} {p : Pth} (hp : l[i]? = some p) : ∃ r, ixP 4 v (.int .i64 (i : Int)) = some (.ptr r (i * 4)) ∧ RowR S r 28 4 (l.map treeP) := by
 obtain ⟨hi, he⟩ := List.getElem?_eq_some_iff.1 hp
 rcases h.1 with ⟨rfl, _⟩ | ⟨r, rfl, h1, h2, h3⟩
 · cases hi
 · refine ⟨r, ?_, h1⟩
   show (bif Nat.blt i l.length then some (V.ptr r (0 + i * 4)) else none) = _
   rw [blt_true.2 hi, Nat.zero_add]; rfl
theorem PL.name (ho : S.on = false) {l : List Pth} {i r : Nat} {p : Pth} (hp : l[i]? = some p) (h : RowR S r 28 4 (l.map treeP)) : ld1 (.ptr r (i * 4 + 0)) S = some (sv p.nm, S) :=
 RowR.ldf ho h (by rw [List.getElem?_map, hp]; rfl) (by omega) rfl
theorem PL.refs (ho : S.on = false) {l : List Pth} {i r : Nat} {p : Pth} (hp : l[i]? = some p) (h : RowR S r 28 4 (l.map treeP)) : ld1 (.ptr r (i * 4 + 1)) S = some (p.rv, S) :=
 RowR.ldf ho h (by rw [List.getElem?_map, hp]; rfl) (by omega) rfl
theorem PL.all (ho : S.on = false) {l : List Pth} {i r : Nat} {p : Pth} (hp : l[i]? = some p) (h : RowR S r 28 4 (l.map treeP)) : ldA 4 (.ptr r (i * 4)) S = some (vAgg p.cells, S) := by
 have := h.ldK ho (i := i) (t := treeP p) (by rw [List.getElem?_map, hp]; rfl)
 show ((ldK S r (i * 4) 4).bind fun q => some (V.agg 4 q.1, q.2)) = _
 rw [this]; rfl
theorem vu_some (s : St) : vu (some s) = some (.tuple [], s) := rfl
theorem tup0 (a b : V) : extractV (.tuple [a, b]) 0 = some a := rfl
theorem tup1 (a b : V) : extractV (.tuple [a, b]) 1 = some b := rfl
theorem big4 : 4 < big := by unfold big; decide
theorem L28_spec {self : EV} {N : Nat} (ho : S.on = false) {v9 : V} {ps : List Pth} (hp : PL S v9 ps) (hlen : ps.length < 1000000) (nk : Ac → St → Rs) (ek : Nat → Ac → St → Rs) {m : Nat} (hm : S.next ≤ m) :
 ∀ (rest : List Pth) (i k : Nat) (out : List Pth) (U : St), ps.drop i = rest → rest.length < k → Grew (fun _ => False) S U → m < U.next → MapS U m (out.map Pth.kv) →
 ∃ T, L28_9 self N nk ek k (.map m) v9 (.int .i64 (ps.length : Int)) (.int .i64 (i : Int)) U = ek 0 (fr 31 [(3, .map m)]) T ∧ Grew (fun _ => False) S T ∧ m < T.next ∧ MapS T m ((rest.foldl addP out).map Pth.kv)
 | rest, i, 0, out, U, _, hk, _, _, _ => by omega
 | [], i, k + 1, out, U, hi, hk, g, hmn, hM => by
  refine ⟨U, ?_, g, hmn, hM⟩
  rw [L28_9_eq, binV_ii, intsV_lss, dec_ge (drop_end hi), oB, ifK_bool, cond_false]
 | p :: rest, i, k + 1, out, U, hi, hk, g, hmn, hM => by
  obtain ⟨hlt, hf, hrest, hmem⟩ := drop_at hi
  have onU := g.on.trans ho
  have hpi : ps[i]? = some p := by rw [List.getElem?_eq_getElem hlt, hf]
  have hpU := hp.grew g
  obtain ⟨r, x1, x2⟩ := hpU.ix hpi
  obtain ⟨A, a1, a2, a3, a4⟩ := var_new onU 28 4 (Tr.ofListFrom .nil [(sv []), .nilslice, (sv []), (sv [])] 0) p.cells rfl (by omega) big4
  have onA := a3.on.trans onU
  have l0 : ld1 (.ptr U.next (0 + 0)) A = some (sv p.nm, A) := Bx.ldv onA a2 big4 rfl
  have l1 : ld1 (.ptr U.next (0 + 1)) A = some (p.rv, A) := Bx.ldv onA a2 big4 rfl
  have hMA := hM.grew hmn (fun h => h) a3
  rw [L28_9_eq, binV_ii, intsV_lss, dec_lt hlt, oB, ifK_bool, cond_true, x1, oB, PL.all onU hpi x2, oB]
  dsimp only
  rw [oB, nwP_fst, a1, oB]
  dsimp only
  rw [faPg, oB, l0, oB]
  dsimp only
  rw [look_two onA hMA, oB]
  dsimp only
  rw [tup0, oB, tup1, oB, unV_not, oB, ifK_bool, lkS_kv]
  cases hq : lkP p.nm out with
  | some q =>
   rw [Option.map_some, Option.isSome_some, Bool.not_true, cond_false, binV_ii, intsV_add, wrap_succ (by omega), oB]
   have e : addP out p = out := by unfold addP; rw [hq]; rfl
   rw [List.foldl_cons, e]
   exact L28_spec ho hp hlen nk ek hm rest (i + 1) k out A hrest (by simp at hk; omega) (g.trans a3) (by omega) hMA
  | none =>
   obtain ⟨o, u1, u2⟩ := upd_new onA und48 hMA (a := p.nm) (by rw [lkS_kv, hq]; rfl) p.rv
   have gP := grew_put (s := A) m o
   have e : addP out p = out ++ [p] := by unfold addP; rw [hq]; rfl
   rw [Option.map_none, Option.isSome_none, Bool.not_false, cond_true, oB, l0, oB]
   dsimp only
   rw [faPg, oB, l1, oB]
   dsimp only
   rw [u1, vu_some, oB]
   dsimp only
   rw [binV_ii, intsV_add, wrap_succ (by omega), oB]
   rw [List.foldl_cons, e]
   exact L28_spec ho hp hlen nk ek hm rest (i + 1) k (out ++ [p]) (A.put m o) hrest (by simp at hk; omega) (Grew.own (g.trans a3) hm gP) (by show m < A.next; omega) (by rw [List.map_append]; exact u2)
theorem refs_runK {K : FuncId → Option KF} (hK : K 28 = none) (n : Nat) (ho : S.on = false) {v : V} {ps : List Pth} (hp : PL S v ps) (hlen : ps.length < 1000000) :
 ∃ U m, (ev E0 K (n + 1)).f 28 [v] S = some (.ret (.map m), U) ∧ Grew (fun _ => False) S U ∧ S.next ≤ m ∧ m < U.next ∧ MapS U m ((refsOf ps).map Pth.kv) := by
 have g1 := grew_nw ho (fun _ => False) (.map [] 0)
 have hM := MapS.new ho
 obtain ⟨T, t1, t2, t3, t4⟩ := L28_spec (self := ev E0 K n) (N := rounds) ho hp hlen (R28_3 (ev E0 K n) rounds (finN E0 (ev E0 K n) Try.f28) noEx) (exB 0 (R28_3 (ev E0 K n) rounds (finN E0 (ev E0 K n) Try.f28) noEx) noEx) (m := S.next) (Nat.le_refl _) ps 0 rounds [] (nw S (.map [] 0)) rfl (by unfold rounds; omega) g1 (by show S.next < S.next + 1; omega) hM
 refine ⟨T, S.next, rd28K hK ?_, t2, Nat.le_refl _, t3, t4⟩
 show F28 (ev E0 K n) rounds v S = _
 have hk : makeMapK E0 48 none S = some (.map S.next, nw S (.map [] 0)) := rfl
 rw [F28_eq, hk, oB]
 dsimp only
 rw [hp.len, oB]
 dsimp only
 rw [show (V.int .i64 0) = .int .i64 ((0 : Nat) : Int) from rfl, t1, exB_same, R28_3_eq]
theorem refs_run (n : Nat) (ho : S.on = false) {v : V} {ps : List Pth} (hp : PL S v ps) (hlen : ps.length < 1000000) :
 ∃ U m, (ev E0 KD (n + 1)).f 28 [v] S = some (.ret (.map m), U) ∧ Grew (fun _ => False) S U ∧ S.next ≤ m ∧ m < U.next ∧ MapS U m ((refsOf ps).map Pth.kv) := refs_runK rfl n ho hp hlen
end
end Go.Proofs.Ytginkdeicmdmaaa.W
namespace Go.Proofs.Ytginkdeicmdmaaa.W
open Go.Proofs.Ytginkdeicmdmaaa.Ev Go.RowKit
section
variable {S T U : St}
theorem Grew.fresh {a b c : St} {N : Nat} (h : Grew (fun _ => False) a b) (hN : a.next ≤ N) (k : Grew (fun x => N ≤ x) b c) : Grew (fun _ => False) a c :=
 ⟨Nat.le_trans h.next k.next, k.on.trans h.on, fun x hx hw => (k.keep x (Nat.lt_of_lt_of_le hx h.next) (by omega)).trans (h.keep x hx hw)⟩
theorem box_map (ho : S.on = false) (e m : Nat) : ∃ t, boxK e (.map m) S = some (.ptr S.next 0, t) ∧ Bx t S.next e [.map m] ∧ Grew (fun _ => False) S t ∧ t.next = S.next + 1 := box_one ho e ⟨rfl, rfl, rfl, rfl⟩
theorem take_push {α : Type} {l : List α} {i : Nat} (h : i < l.length) : l.take (i + 1) = l.take i ++ [l[i]] := (List.take_append_getElem h).symm
theorem filter_push {α : Type} (f : α → Bool) (l : List α) (a : α) : (l ++ [a]).filter f = l.filter f ++ (if f a then [a] else []) := by
 rw [List.filter_append]
 by_cases h : f a = true
 · simp [h]
 · simp [h]
theorem L30_spec {n N : Nat} (ho : S.on = false) {v10 fv : V} {ks : List Bs} {f : Bs → Bool} (hk : TL S v10 ks) (hlen : ks.length < 100000) (hf : ∀ U, Grew (fun _ => False) S U → ∀ k ∈ ks, ∃ U', callK E0 (ev E0 KD n) fv [sv k] U = some (.ret (.bool (f k)), U') ∧ Grew (fun _ => False) U U') (nk : Ac → St → Rs) (ek : Nat → Ac → St → Rs) :
 ∀ (d i k : Nat) (v5 : V) (U : St), i + d = ks.length → d < k → Grew (fun _ => False) S U → TLo U v5 ((ks.take i).filter f) S.next →
 ∃ v T, L30_10 (ev E0 KD n) N nk ek k fv v5 v10 (.int .i64 (ks.length : Int)) (.int .i64 (i : Int)) U = ek 0 (fr 25 [(5, v)]) T ∧ Grew (fun _ => False) S T ∧ TLo T v (ks.filter f) S.next
 | d, i, 0, v5, U, _, hk, _, _ => by omega
 | 0, i, k + 1, v5, U, hi, hkk, g, ht => by
  refine ⟨v5, U, ?_, g, ?_⟩
  · rw [L30_10_eq, binV_ii, intsV_lss, dec_ge (by omega), oB, ifK_bool, cond_false]
  · rw [List.take_of_length_le (by omega)] at ht; exact ht
 | d + 1, i, k + 1, v5, U, hi, hkk, g, ht => by
  have onU := g.on.trans ho
  have hlt : i < ks.length := by omega
  obtain ⟨p, p1, p2⟩ := (hk.grew0 g).ld onU (List.getElem?_eq_getElem hlt)
  rw [L30_10_eq, binV_ii, intsV_lss, dec_lt hlt, oB, ifK_bool, cond_true, p1, oB, p2, oB]
  dsimp only
  obtain ⟨U1, hf1, gf⟩ := hf U g _ (List.getElem_mem hlt)
  have g1 := g.trans gf
  have on1 := gf.on.trans onU
  rw [hf1, callP_ret, ifK_bool]
  have hadd : binV E0 .add 3 false true (.int .i64 (i : Int)) (.int .i64 1) = some (.int .i64 ((i + 1 : Nat) : Int)) := by
   rw [binV_ii, intsV_add, wrap_succ (by omega)]
  cases hq : f ks[i] with
  | true =>
   have hl : ((ks.take i).filter f).length < 100000 := Nat.lt_of_le_of_lt (List.length_filter_le _ _) (by rw [List.length_take]; omega)
   obtain ⟨y, W, v', T, b1, b2, b3, b4⟩ := (ht.grew gf).push on1 g1.next hl ks[i]
   rw [cond_true, b1, oB]
   dsimp only
   rw [b2, oB]
   dsimp only
   rw [hadd, oB]
   exact L30_spec ho hk hlen hf nk ek d (i + 1) k v' T (by omega) (by omega) (Grew.fresh g1 (Nat.le_refl _) b4) (by rw [take_push hlt, filter_push, hq, if_pos rfl]; exact b3)
  | false =>
   rw [cond_false, hadd, oB]
   exact L30_spec ho hk hlen hf nk ek d (i + 1) k v5 U1 (by omega) (by omega) g1 (by rw [take_push hlt, filter_push, hq, if_neg (by simp), List.append_nil]; exact ht.grew gf)
theorem kept30_run (n : Nat) (ho : S.on = false) {m : Nat} {kv : List (Bs × V)} (hM : MapS S m kv) (hm : m < S.next) (hn : (kv.map (·.1)).Nodup) (hs : ∀ p ∈ kv, p.1.length < 4611686018427387904) (hl : kv.length < 100000) {fv : V} {f : Bs → Bool}
 (hf : ∀ U, Grew (fun _ => False) S U → ∀ k ∈ kv.map (·.1), ∃ U', callK E0 (ev E0 KD (n + 1)) fv [sv k] U = some (.ret (.bool (f k)), U') ∧ Grew (fun _ => False) U U') :
 ∃ v U, (ev E0 KD (n + 2)).f 30 [.map m, fv] S = some (.ret v, U) ∧ TLo U v ((sortB (kv.map (·.1))).filter f) S.next ∧ Grew (fun _ => False) S U := by
 obtain ⟨A, a1, a2, a3, a4⟩ := box_map ho 48 m
 have onA := a3.on.trans ho
 have hk : (ev E0 KD (n + 1)).f 47 [.map m] S = some (.ret (.fn (.func 54) [] [.ptr S.next 0]), A) := rd47 (by
  show F47 (ev E0 KD n) rounds (.map m) S = _
  rw [F47_eq, a1]; rfl)
 obtain ⟨v7, B, b1, b2, b3⟩ := sorted_run n onA (g := 54) (by decide) a2 (hM.grew hm (fun h => h) a3) hn hs (by omega)
 have onB := b3.on.trans onA
 have gB := a3.trans b3
 have hlen : (sortB (kv.map (·.1))).length < 100000 := by rw [(sortB_perm _).length_eq, List.length_map]; exact hl
 obtain ⟨v, T, t1, t2, t3⟩ := L30_spec (n := n + 1) (N := rounds) onB b2 hlen (fun U g k hk => hf U (gB.trans g) k (mem_sortB.1 hk)) (R30_2 (ev E0 KD (n + 1)) rounds (finN E0 (ev E0 KD (n + 1)) Try.f30) noEx) (exB 0 (R30_2 (ev E0 KD (n + 1)) rounds (finN E0 (ev E0 KD (n + 1)) Try.f30) noEx) noEx) _ 0 rounds .nilslice B (Nat.zero_add _) (by unfold rounds; omega) (Grew.refl _ _) .nil
 refine ⟨v, T, rd30 ?_, ?_, gB.trans t2⟩
 · show F30 (ev E0 KD (n + 1)) rounds (.map m) fv S = _
   rw [F30_eq, hk, callP_ret, b1, callP_ret, b2.len, oB]
   dsimp only
   rw [show (V.int .i64 0) = .int .i64 ((0 : Nat) : Int) from rfl, t1, exB_same, R30_2_eq]
 · rcases t3 with h | ⟨r, h0, h1, h2, h3, h4⟩
   · exact .inl h
   · exact .inr ⟨r, h0, h1, h2, Nat.le_trans gB.next h3, h4⟩
end
end Go.Proofs.Ytginkdeicmdmaaa.W
namespace Go.Proofs.Ytginkdeicmdmaaa.W
theorem lk_names {ps : List Pth} {p : Bs} {q : Pth} (h : lkP p ps = some q) : p ∈ names ps := by
 by_cases hp : p ∈ names ps
 · exact hp
 · rw [lkP_none.2 hp] at h; cases h
inductive Rch (ps : List Pth) (from_ : List Bs) : Bs → Prop where
 | root {a : Bs} (h : a ∈ from_) (hn : a ∈ names ps) : Rch ps from_ a
 | step {a r : Bs} {q : Pth} (h : Rch ps from_ a) (hq : lkP a ps = some q) (hr : r ∈ q.refs) (hn : r ∈ names ps) : Rch ps from_ r
theorem Rch.mem {ps : List Pth} {f : List Bs} {a : Bs} (h : Rch ps f a) : a ∈ names ps := by cases h <;> assumption
end Go.Proofs.Ytginkdeicmdmaaa.W
namespace Go.Proofs.Ytginkdeicmdmaaa.W
open Go.Proofs.Ytginkdeicmdmaaa.Ev Go.RowKit
def fnv46 (bt bo br : Nat) : V := .fn (.func 46) [] [.ptr bt 0, .ptr bo 0, .ptr br 0]
section
variable {S T U : St}
theorem var_one (ho : S.on = false) (e : Nat) (z : Tr V) {v : V} (hv : OneV v) : ∃ t, stP 1 (.ptr S.next 0) v (nwP e 1 z S).2 = some (.tuple [], t) ∧ Bx t S.next e [v] ∧ Grew (fun _ => False) S t ∧ t.next = S.next + 1 := by
 obtain ⟨t, h1, h2, h3, h4⟩ := var_new ho e 1 z [v] rfl (by omega) big1
 refine ⟨t, ?_, h2, h3, h4⟩
 rw [← h1]
 show vu (bif Nat.beq v.size 1 && !isTuple v then stK _ _ _ 1 v.cells else none) = _
 rw [hv.size, hv.tup, hv.cells]; rfl
structure RC (S : St) (bt bo br mt mo : Nat) (ps : List Pth) : Prop where
 on : S.on = false
 xt : Bx S bt 48 [.map mt]
 xo : Bx S bo 46 [.map mo]
 xr : Bx S br 62 [fnv46 bt bo br]
 lt : bt < S.next ∧ bo < S.next ∧ br < S.next ∧ mt < S.next ∧ mo < S.next
 ne : bt ≠ mo ∧ bo ≠ mo ∧ br ≠ mo ∧ mt ≠ mo
 mp : MapS S mt (ps.map Pth.kv)
 row : ∀ p ∈ ps, TL S p.rv p.refs
 mo : ∃ kv, MapS S mo kv
theorem RC.grew {bt bo br mt mo : Nat} {ps : List Pth} (h : RC S bt bo br mt mo ps) (g : Grew (fun x => x = mo) S U) {kv : List (Bs × V)} (hm : MapS U mo kv) : RC U bt bo br mt mo ps := by
 obtain ⟨l1, l2, l3, l4, l5⟩ := h.lt
 obtain ⟨n1, n2, n3, n4⟩ := h.ne
 obtain ⟨kv0, hm0⟩ := h.mo
 have gn := g.next
 exact ⟨g.on.trans h.on, h.xt.grew l1 n1 g, h.xo.grew l2 n2 g, h.xr.grew l3 n3 g, ⟨by omega, by omega, by omega, by omega, by omega⟩, h.ne, h.mp.grew l4 n4 g,
  fun p hp => (h.row p hp).grew (fun r e _ hr hx => by subst hx; exact hm0.noRow hr) g, ⟨kv, hm⟩⟩
theorem binGtr (n : Int) : binV E0 .gtr 3 false true (.int .i64 n) (.int .i64 0) = some (.bool (decide (0 < n))) := by
 rw [binV_ii, intsV_gtr]
end
end Go.Proofs.Ytginkdeicmdmaaa.W
namespace Go.Proofs.Ytginkdeicmdmaaa.W
open Go.Proofs.Ytginkdeicmdmaaa.Ev Go.RowKit
section
variable {S T U : St}
theorem addP_spec : ∀ (l out : List Pth), (names out).Nodup → (names (l.foldl addP out)).Nodup ∧ (∀ p ∈ l.foldl addP out, p ∈ out ∨ p ∈ l) ∧ (l.foldl addP out).length ≤ out.length + l.length
 | [], out, h => ⟨h, fun p hp => .inl hp, by simp⟩
 | p :: l, out, h => by
  rw [List.foldl_cons]
  have hn : (names (addP out p)).Nodup ∧ (∀ q ∈ addP out p, q ∈ out ∨ q = p) ∧ (addP out p).length ≤ out.length + 1 := by
   unfold addP
   cases hq : lkP p.nm out with
   | some q => exact ⟨h, fun q hq => .inl hq, by simp⟩
   | none =>
    refine ⟨?_, fun q hq => ?_, by simp⟩
    · show (names (out ++ [p])).Nodup
      unfold names at h ⊢
      rw [List.map_append, List.nodup_append]
      refine ⟨h, by simp, fun a ha b hb e => ?_⟩
      simp at hb; subst hb; subst e
      exact lkP_none.1 hq ha
    · have hq' : q ∈ out ++ [p] := hq
      rcases List.mem_append.1 hq' with h | h
      · exact .inl h
      · simp at h; exact .inr h
  obtain ⟨h1, h2, h3⟩ := addP_spec l (addP out p) hn.1
  refine ⟨h1, fun q hq => ?_, by simp; omega⟩
  rcases h2 q hq with h | h
  · rcases hn.2.1 q h with h | rfl
    · exact .inl h
    · exact .inr (List.mem_cons_self ..)
  · exact .inr (List.mem_cons_of_mem _ h)
theorem refsOf_nd (l : List Pth) : (names (refsOf l)).Nodup := (addP_spec l [] .nil).1
theorem refsOf_mem {l : List Pth} {p : Pth} (h : p ∈ refsOf l) : p ∈ l := by
 rcases (addP_spec l [] .nil).2.1 p h with h | h
 · cases h
 · exact h
theorem refsOf_len (l : List Pth) : (refsOf l).length ≤ l.length := by
 have := (addP_spec l [] .nil).2.2
 unfold refsOf
 simpa using this
structure Fit (l : List Pth) : Prop where
 len : l.length < 1000
 nm : ∀ p ∈ l, p.nm.length < 1000000
 refs : ∀ p ∈ l, p.refs.length < 1000
theorem kv_names (l : List Pth) : (l.map Pth.kv).map (·.1) = names l := by unfold names; rw [List.map_map]; rfl
end
end Go.Proofs.Ytginkdeicmdmaaa.W
namespace Go.Proofs.Ytginkdeicmdmaaa.W
open Go.Proofs.Ytginkdeicmdmaaa.Ev Go.RowKit
section
variable {s S T U : St}
theorem bsP_path (ho : s.on = false) (z : Tr V) (l : List V) (hl : l.length = 4) : ∃ t, bsP 28 4 1 z [(0, vAgg l)] s = some (.slice s.next 0 1 1, t) ∧ RowAt t s.next 28 4 [Tr.ofListFrom .nil l 0] ∧ Grew (fun _ => False) s t ∧ t.next = s.next + 1 := by
 refine ⟨nw s (.cells 28 4 1 false ((Tr.tab 1 1 fun _ => z).set (Tr.ofListFrom .nil l 0) 0)), ?_, ?_, grew_nw ho _ _, rfl⟩
 · unfold bsP fillE fillE
   simp only [vAgg, V.size, isTuple, V.cells, hl, show Nat.beq 4 4 = true from rfl, Bool.not_false, Bool.and_true, show Nat.blt 0 1 = true from rfl, cond_true, Tr.setC_eq, oB]
 · refine rowAt_nw ho (by omega) rfl (by unfold big; omega) fun i t h => ?_
   rw [Tr.get_set]
   cases i with
   | zero => simpa using h
   | succ i => simp at h
theorem ap4_first (ho : s.on = false) {b : Nat} {t : Tr V} (h : RowAt s b 28 4 [t]) : ∃ u, apP 28 4 72 .nilslice (.slice b 0 1 1) s = some (.oslice s.next 0 1 4, u) ∧ RowAt u s.next 28 4 [t] ∧ Grew (fun _ => False) s u ∧ u.next = s.next + 1 := by
 refine ⟨newCells s 28 4 [t], ?_, rowAt_newCells ho (by omega) (by unfold big; simp), grew_nw ho _ _, rfl⟩
 unfold apP
 simp only [lenV, oB, show Nat.blt ((0 + 1) * (72 + 4 + 1)) maxCells = true from rfl, cond_true]
 unfold appendV firstV
 have := h.ldN ho 1 0 (by simp)
 simp only [Nat.zero_mul, List.drop_zero] at this
 simp only [this, oB, show Nat.beq 1 0 = false from rfl, cond_false]
 rfl
theorem ap4_more (ho : s.on = false) {b r : Nat} {t : Tr V} {l : List (Tr V)} (h : RowAt s b 28 4 [t]) (hr : RowAt s r 28 4 l) (hl : l.length ≤ 3000) : ∃ u, apP 28 4 72 (.oslice r 0 l.length 4) (.slice b 0 1 1) s = some (.oslice s.next 0 (l.length + 1) 4, u) ∧ RowAt u s.next 28 4 (l ++ [t]) ∧ Grew (fun x => x = r) s u ∧ u.next = s.next + 1 := by
 obtain ⟨c, hc1, hc2⟩ := hr.row
 have hfit := hr.fit
 refine ⟨nw (s.put r .dead) (.cells 28 4 (l.length + 1) false (c.set t l.length)), ?_, ?_, ?_, rfl⟩
 · unfold apP
   have hm : Nat.blt ((l.length + 1) * (72 + 4 + 1)) maxCells = true := by rw [blt_true]; unfold maxCells; omega
   simp only [lenV, oB, hm, cond_true]
   unfold appendV firstV
   have := h.ldN ho 1 0 (by simp)
   simp only [Nat.zero_mul, List.drop_zero] at this
   simp only [this, oB, show Nat.beq 4 4 = true from rfl, cond_true]
   unfold sizeB
   rw [hc1]
   have hb : Nat.ble (0 + (l.length + 1) * 4) (4 * l.length) = false := by
    cases hh : Nat.ble (0 + (l.length + 1) * 4) (4 * l.length) with
    | false => rfl
    | true => rw [ble_true] at hh; omega
   simp only [blt_true.2 hfit, cond_true, oB, note_off ho, hb, cond_false]
   unfold growV
   rw [hc1]
   simp only [show Nat.beq 28 28 = true from rfl, Bool.not_true, Bool.or_self, cond_false, show Nat.beq 4 4 = true from rfl, show Nat.beq 0 0 = true from rfl, Nat.beq_refl, blt_true.2 hfit, Bool.and_self, cond_true]
   rw [show List.take 1 [t] = [t] from rfl]
   unfold addLC addLC
   rw [Tr.setC_eq]
   unfold setO
   rw [note_off ho]
 · have hnx : (s.put r .dead).next = s.next := rfl
   have := rowAt_nw (s := s.put r .dead) (e := 28) (z := 4) (n := l.length + 1) (c := c.set t l.length) (l := l ++ [t]) ho (by omega) (by simp) (by unfold big; omega) fun i u h => by
    rw [Tr.get_set]
    by_cases hi : i = l.length
    · subst hi
      rw [if_pos rfl]
      simpa using h
    · rw [if_neg hi]
      have hlt := (List.getElem?_eq_some_iff.1 h).1
      rw [List.length_append, List.length_singleton] at hlt
      rw [List.getElem?_append_left (by omega)] at h
      exact hc2 i u h
   exact this
 · exact ⟨by show s.next ≤ s.next + 1; omega, (nw_on (s := s.put r .dead) ho _).trans ho.symm, fun x hx hw => by
    rw [nw_get, if_neg (by show x ≠ s.next; omega), put_get, if_neg hw]⟩
theorem row_ne {b e e' z z' : Nat} {l l' : List (Tr V)} (h : RowAt S b e z l) (h' : RowAt S b e' z' l') : e = e' := by
 obtain ⟨c, h1, _⟩ := h.row
 obtain ⟨c', h2, _⟩ := h'.row
 rw [h1] at h2
 simp only [oS, O.cells.injEq] at h2
 exact h2.1
theorem row_bx {b e e' z : Nat} {l : List (Tr V)} {m : List V} (h : RowAt S b e z l) (h' : Bx S b e' m) : e = e' := by
 obtain ⟨c, h1, _⟩ := h.row
 have h2 : S.heap.get b = some _ := h'
 rw [h1] at h2
 simp only [oS, O.cells.injEq] at h2
 exact h2.1
def PLo (S : St) (v : V) (l : List Pth) (N : Nat) : Prop := PL S v l ∧ ∀ r, blkOf v = some r → N ≤ r ∧ RowAt S r 28 4 (l.map treeP)
theorem PL.lt {v : V} {l : List Pth} {r : Nat} (h : PL S v l) (hr : blkOf v = some r) : r < S.next := by
 rcases h.1 with ⟨_, rfl⟩ | ⟨r', rfl, _, h2, _⟩
 · cases hr
 · cases hr; exact h2
theorem PLo.nil {N : Nat} : PLo S .nilslice [] N := ⟨.nil, fun r h => by cases h⟩
theorem PLo.grew {v : V} {l : List Pth} {N : Nat} (h : PLo S v l N) (g : Grew (fun _ => False) S U) : PLo U v l N := ⟨h.1.grew g, fun r hr => ⟨(h.2 r hr).1, (h.2 r hr).2.grew (h.1.lt hr) (fun h => h) g⟩⟩
theorem PL.grewW {W : Nat → Prop} {v : V} {l : List Pth} (h : PL S v l) (g : Grew W S U) (h1 : ∀ r m, blkOf v = some r → RowR S r 28 4 m → ¬ W r) (h2 : ∀ p ∈ l, ∀ r m, blkOf p.rv = some r → RowAt S r 9 1 m → ¬ W r) : PL U v l := by
 refine ⟨?_, fun p hp => (h.2 p hp).grew (h2 p hp) g⟩
 rcases h.1 with h | ⟨r, rfl, h3, h4, h5⟩
 · exact .inl h
 · exact .inr ⟨r, rfl, h3.grew h4 (h1 r _ rfl h3) g, Nat.lt_of_lt_of_le h4 g.next, h5⟩
theorem PLo.push (ho : S.on = false) {v : V} {l : List Pth} {N : Nat} (h : PLo S v l N) (hN : N ≤ S.next) (hl : l.length ≤ 3000) {p : Pth} (hp : TL S p.rv p.refs) :
 ∃ y W v' U, bsP 28 4 1 (Tr.ofListFrom .nil [(sv []), .nilslice, (sv []), (sv [])] 0) [(0, vAgg p.cells)] S = some (y, W) ∧ apP 28 4 72 v y W = some (v', U) ∧ PLo U v' (l ++ [p]) N ∧ Grew (fun x => blkOf v = some x) S U := by
 obtain ⟨W, w1, w2, w3, w4⟩ := bsP_path ho (Tr.ofListFrom .nil [(sv []), .nilslice, (sv []), (sv [])] 0) p.cells rfl
 have onW := w3.on.trans ho
 have hW := h.1.grew w3
 rcases h.1.1 with ⟨rfl, rfl⟩ | ⟨r, rfl, hrR, hr2, h0⟩
 · obtain ⟨U, k1, k2, k3, k4⟩ := ap4_first onW w2
   refine ⟨_, W, _, U, w1, k1, ⟨⟨.inr ⟨W.next, rfl, .of k2, by omega, by simp⟩, fun q hq => ?_⟩, fun x hx => ?_⟩, (w3.trans k3).mono fun _ _ h => h.elim⟩
   · simp at hq; subst hq
     exact (hp.grew0 w3).grew0 k3
   · cases hx; exact ⟨by omega, k2⟩
 · have hr := (h.2 r rfl).2
   have hrow := hr.grew hr2 (fun h => h) w3
   obtain ⟨U, k1, k2, k3, k4⟩ := ap4_more onW w2 hrow (by rw [List.length_map]; exact hl)
   rw [List.length_map] at k1
   have hlm : (l ++ [p]).length = l.length + 1 := by rw [List.length_append]; rfl
   have k2' : RowAt U W.next 28 4 ((l ++ [p]).map treeP) := by rw [List.map_append]; exact k2
   refine ⟨_, W, _, U, w1, k1, ⟨⟨.inr ⟨W.next, by rw [hlm], .of k2', by omega, by omega⟩, fun q hq => ?_⟩, fun x hx => ?_⟩, (w3.mono fun _ _ h => h.elim).trans (k3.mono fun x _ e => by subst e; rfl)⟩
   · have hq' : TL W q.rv q.refs := by
      rcases List.mem_append.1 hq with h' | h'
      · exact hW.2 q h'
      · simp at h'; subst h'; exact hp.grew0 w3
     exact hq'.grew (fun x e _ hx he => by
      subst he
      exact absurd (row_ne hx hrow) (by decide)) k3
   · cases hx; exact ⟨by omega, k2'⟩
theorem TLo.push2 (ho : S.on = false) {v : V} {l : List Bs} {N : Nat} (h : TLo S v l N) (hN : N ≤ S.next) (hl : l.length < 100000) (a : Bs) :
 ∃ y W v' U, bsP 9 1 1 (Go.Proofs.Ytginkdeicmdmaaa.Ev.one (sv [])) [(0, sv a)] S = some (y, W) ∧ apP 9 1 16 v y W = some (v', U) ∧ TLo U v' (l ++ [a]) N ∧ Grew (fun x => blkOf v = some x) S U := by
 obtain ⟨W, h1, h2, h3, h4⟩ := bsP_one ho 9 (Go.Proofs.Ytginkdeicmdmaaa.Ev.one (sv [])) (oneV_sv a)
 have on1 := h3.on.trans ho
 have hlm : (l ++ [a]).length = l.length + 1 := by rw [List.length_append]; rfl
 rcases h with ⟨rfl, rfl⟩ | ⟨r, rfl, hr, hr2, hr3, h0⟩
 · obtain ⟨U, k1, k2, k3, k4⟩ := ap1_first (B := 16) on1 h2 (by unfold maxCells; omega)
   exact ⟨_, W, _, U, h1, k1, .inr ⟨W.next, rfl, k2, by omega, by omega, by simp⟩, (h3.trans k3).mono fun _ _ h => h.elim⟩
 · have hrow := hr.grew hr2 (fun h => h) h3
   obtain ⟨U, k1, k2, k3, k4⟩ := ap1_more (B := 16) on1 h2 hrow (by rw [rowOf_length]; unfold maxCells; omega) (by rw [rowOf_length]; unfold big; omega)
   rw [rowOf_length] at k1
   refine ⟨_, W, _, U, h1, k1, .inr ⟨W.next, by rw [hlm], ?_, by omega, by omega, by omega⟩, (h3.mono fun _ _ h => h.elim).trans (k3.mono fun x _ e => by subst e; rfl)⟩
   rw [rowOf_append]
   exact k2
theorem TLo.blk {v : V} {l : List Bs} {N r : Nat} (h : TLo S v l N) (hr : blkOf v = some r) : N ≤ r ∧ RowAt S r 9 1 (rowOf l) := by
 rcases h with ⟨_, rfl⟩ | ⟨r', rfl, h1, h2, h3, _⟩
 · cases hr
 · cases hr; exact ⟨h3, h1⟩
def ltr (k : Nat) : Bs := [UInt8.ofNat (97 + k)]
theorem ltr_nat {k : Nat} (h : k < 100) : (UInt8.ofNat (97 + k)).toNat = 97 + k := by rw [UInt8.toNat_ofNat']; omega
theorem ltr_inj {i k : Nat} (hi : i < 100) (hk : k < 100) (h : ltr i = ltr k) : i = k := by
 unfold ltr at h
 have := congrArg UInt8.toNat (List.cons.inj h).1
 rw [ltr_nat hi, ltr_nat hk] at this
 omega
theorem und44 : und E0 44 = some (.slice 5) := by kernel_rfl
theorem und5 : und E0 5 = some (.int .u8) := by kernel_rfl
theorem conv_row (ho : S.on = false) {r : Nat} {b : UInt8} (h : RowAt S r 5 1 ([b].map byteC)) : convertV E0 44 9 (.slice r 0 1 1) S = some (sv [b], S) :=
 convert_row ho und44 und5 und9 h (off := 0) (len := 1) (cap := 1) (by simp)
def bit (n k : Nat) : Bool := decide (n / 2 ^ k % 2 = 1)
end
end Go.Proofs.Ytginkdeicmdmaaa.W
namespace Go.Proofs.Ytginkdeicmdmaaa.W
open Go.Proofs.Ytginkdeicmdmaaa.Ev Go.RowKit
def U16V (v : V) (l : List Nat) : Prop := (l = [] ∧ (v = .nilslice ∨ v = .eslice)) ∨ v = .list 1 (l.map fun n : Nat => V.int .u16 (n : Int))
def refsS (b : Bool) (n i x : Nat) : List Bs := ((List.range (if b then i + 1 else n)).filter (bit x)).map ltr
def gOf (ps : List Pth) : List (Bs × List Bs) := ps.map fun p => (p.nm, p.refs)
def smallG (b : Bool) (l : List Nat) (n : Nat) : Nat → List (Bs × List Bs)
 | 0 => []
 | i + 1 => smallG b l n i ++ [(ltr i, refsS b n i (l.getD i 0))]
section
variable {S T U : St}
theorem u16_len {v : V} {l : List Nat} (h : U16V v l) : lnS v S = some (.int .i64 (l.length : Int), S) := by
 rcases h with ⟨rfl, rfl | rfl⟩ | rfl
 · rfl
 · rfl
 · show some (V.int .i64 (Int.ofNat (l.map fun n : Nat => V.int .u16 (n : Int)).length), S) = _
   rw [List.length_map]; rfl
theorem u16_ix {v : V} {l : List Nat} (h : U16V v l) {i : Nat} (hi : i < l.length) : ixP 1 v (.int .i64 (i : Int)) = some (.cptr (.int .u16 (l.getD i 0 : Int))) := by
 rcases h with ⟨rfl, _⟩ | rfl
 · cases hi
 · show (bif Nat.beq 1 1 && Nat.blt 0 1 then ((l.map fun n : Nat => V.int .u16 (n : Int))[i]?).bind fun v => some (V.cptr v) else none) = _
   rw [List.getElem?_map, List.getElem?_eq_getElem hi, List.getD_eq_getElem?_getD, List.getElem?_eq_getElem hi]
   rfl
theorem bit_if {n k : Nat} (hk : k < 16) (A B : Rs) : ((binV E0 .shr 23 false false (.int .u16 (n : Int)) (.int .i64 (k : Int))).bind fun t51 =>
(binV E0 .rem 23 false true t51 (.int .u16 2)).bind fun t52 =>
(binV E0 .eql 23 false true t52 (.int .u16 1)).bind fun t53 => ifK t53 A B) = bif bit n k then A else B := by
 have h1 : binV E0 .shr 23 false false (.int .u16 (n : Int)) (.int .i64 (k : Int)) = some (.int .u16 ((n / 2 ^ k : Nat) : Int)) := by
  rw [binV_ii]
  show some (V.int .u16 ((n : Int).fdiv (.ofNat (2 ^ min k (ikBits .u16))))) = _
  rw [Nat.min_eq_left (show k ≤ ikBits .u16 from Nat.le_of_lt hk), Int.ofNat_fdiv]
  rfl
 have h2 : binV E0 .rem 23 false true (.int .u16 ((n / 2 ^ k : Nat) : Int)) (.int .u16 2) = some (.int .u16 ((n / 2 ^ k % 2 : Nat) : Int)) := by
  rw [binV_ii, intsV_rem _ _ _ (by decide)]; rfl
 rw [h1, oB, h2, oB, binV_ii, intsV_eql, oB, ifK_bool]
 have : decide (((n / 2 ^ k % 2 : Nat) : Int) = 1) = bit n k := by
  unfold bit
  rw [decide_eq_decide]
  omega
 rw [this]
theorem letter_parts (ho : S.on = false) {k : Nat} (hk : k < 100) : ∃ W, Grew (fun _ => False) S W ∧ cvI .u8 (.int .i64 (k : Int)) S = some (.int .u8 (k : Int), S) ∧
 ∃ t y, binV E0 .add 5 true false (.int .u8 97) (.int .u8 (k : Int)) = some t ∧ bsP 5 1 1 (Go.Proofs.Ytginkdeicmdmaaa.Ev.one (.int .u8 0)) [(0, t)] S = some (y, W) ∧ convertV E0 44 9 y W = some (sv (ltr k), W) := by
 obtain ⟨W, w1, w2, w3, w4⟩ := bsP_byte ho 5 (UInt8.ofNat (97 + k))
 refine ⟨W, w3, ?_, _, _, ?_, w1, conv_row (w3.on.trans ho) w2⟩
 · rw [cvI_int, wrap_u8 (by omega) (by omega)]
 · rw [binV_ii, intsV_add, wrap_u8 (by omega) (by omega), show ((97 : Int) + (k : Int)) = ((UInt8.ofNat (97 + k)).toNat : Int) from by rw [ltr_nat hk]; omega]
theorem cond_eq (b : Bool) (k n i : Nat) (K : V → Rs) :
 ((binV E0 .lss 3 false false (.int .i64 (k : Int)) (.int .i64 (n : Int))).bind fun t36 =>
(guardV true t36).bind fun g38 => (bif g38 then some (V.bool b) else some (.tuple [])).bind fun t38 =>
(guardV true t36).bind fun g39 => (bif g39 then unV .not t38 else some (.tuple [])).bind fun t39 =>
(guardV true t36).bind fun g40 => (bif g40 then some t39 else some (.tuple [])).bind fun t40 =>
(guardV false t40).bind fun g41 => (bif g41 then some (V.int .i64 (k : Int)) else some (.tuple [])).bind fun t41 =>
(guardV false t40).bind fun g42 => (bif g42 then some (V.int .i64 (i : Int)) else some (.tuple [])).bind fun t42 =>
(guardV false t40).bind fun g43 => (bif g43 then binV E0 .leq 3 false false t41 t42 else some (.tuple [])).bind fun t43 =>
(guardV true t36).bind fun g44 => (bif g44 then pickV t40 (some (.bool true)) (some t43) else some (.tuple [])).bind fun t44 =>
(pickV t36 (some t44) (some (.bool false))).bind fun t45 => K t45) = K (.bool (decide (k < n) && (!b || decide (k ≤ i)))) := by
 have hle : binV E0 .leq 3 false false (.int .i64 (k : Int)) (.int .i64 (i : Int)) = some (.bool (decide (k ≤ i))) := by
  rw [binV_ii, intsV_leq]
  congr 2
  rw [decide_eq_decide]; omega
 rw [binV_ii, intsV_lss, oB]
 by_cases h : k < n
 · rw [dec_lt h, decide_eq_true h]
   cases b
   · rfl
   · simp only [gTT, gFF, oB, cond_true, cond_false, unV_not, Bool.not_true, hle, pickV_bool, Bool.true_and, Bool.false_or]
 · rw [dec_ge (by omega), decide_eq_false h]
   rfl
theorem set4_1 (a b c d v : V) : (Tr.ofListFrom .nil [a, b, c, d] 0).set v 1 = Tr.ofListFrom .nil [a, v, c, d] 0 := by kernel_rfl
theorem bx_st4 (ho : S.on = false) {x e : Nat} {a b c d v : V} (h : Bx S x e [a, b, c, d]) (hv : OneV v) : stP 1 (.ptr x (0 + 1)) v S = some (.tuple [], S.put x (bxO e [a, v, c, d])) := by
 show vu (bif Nat.beq v.size 1 && !isTuple v then stK S x 1 1 v.cells else none) = _
 rw [hv.size, hv.cells, hv.tup]
 have hst : stK S x 1 1 (Go.Proofs.Ytginkdeicmdmaaa.Ev.one v) = some (S.put x (bxO e [a, v, c, d])) := by
  have h' : S.heap.get x = some (.cells e 4 1 false (Tr.ofListFrom .nil [Tr.ofListFrom .nil [a, b, c, d] 0] 0)) := h
  unfold stK
  rw [h']
  simp only [show Nat.ble (1 + 1) (4 * 1) = true from rfl, blt_true.2 (show 4 * 1 < big by unfold big; decide), Bool.and_self, Bool.not_false, cond_true]
  unfold elemTo
  rw [show Nat.beq 1 4 = false from rfl]
  have hv0 : (Go.Proofs.Ytginkdeicmdmaaa.Ev.one v).get 0 = some v := rfl
  simp only [Bool.false_and, cond_false, cellsTo, Tr.setC_eq, hv0, oB, show (1 + 0) / 4 = 0 from rfl, show (1 + 0) % 4 = 1 from rfl]
  rw [Tr.get_ofList]
  simp only [List.getElem?_cons_zero, oB, set4_1, set_one, note_off ho]
  rfl
 rw [hst]; rfl
theorem bx_put4 (x e : Nat) (l : List V) : Bx (S.put x (bxO e l)) x e l := by
 show (S.put x (bxO e l)).heap.get x = some (bxO e l)
 rw [put_get, if_pos rfl]
theorem TLo.oneV {v : V} {l : List Bs} {N : Nat} (h : TLo S v l N) : OneV v := by
 rcases h with ⟨_, rfl⟩ | ⟨r, rfl, _⟩ <;> exact ⟨rfl, rfl, rfl, rfl⟩
def upTo (x k : Nat) : List Bs := ((List.range k).filter (bit x)).map ltr
theorem upTo_succ (x k : Nat) : upTo x (k + 1) = upTo x k ++ (if bit x k then [ltr k] else []) := by
 unfold upTo
 rw [List.range_succ, filter_push, List.map_append]
 by_cases h : bit x k = true
 · rw [if_pos h, if_pos h]; rfl
 · rw [if_neg h, if_neg h]; rfl
theorem upTo_len (x k : Nat) : (upTo x k).length ≤ k := by
 unfold upTo
 rw [List.length_map]
 refine Nat.le_trans (List.length_filter_le _ _) ?_
 rw [List.length_range]; exact Nat.le_refl _
theorem L8i_spec {m N : Nat} (ho : S.on = false) {v0 v5 : V} {l : List Nat} (hl : U16V v0 l) (b : Bool) {n i x : Nat} (hn : n ≤ 14) (hln : n ≤ l.length) (hi : i < n) {nmv : V} (hx : S.next ≤ x) (nk : Ac → St → Rs) (ek : Nat → Ac → St → Rs) :
 ∀ (d k q : Nat) (rv : V) (U : St), k + d = (if b then i + 1 else n) → d < q → Grew (fun _ => False) S U → x < U.next → Bx U x 28 [nmv, rv, sv [], sv []] → TLo U rv (upTo (l.getD i 0) k) S.next →
 ∃ rv' T, L8_33 (ev E0 KD m) N nk ek q v0 (.bool b) v5 (.int .i64 (n : Int)) (.int .i64 (i : Int)) (.ptr x 0) (.int .i64 (k : Int)) U = ek 2 (fr 61 [(0, v0), (1, .bool b), (5, v5), (6, .int .i64 (n : Int)), (7, .int .i64 (i : Int)), (8, .ptr x 0)]) T ∧
  Grew (fun _ => False) S T ∧ x < T.next ∧ Bx T x 28 [nmv, rv', sv [], sv []] ∧ TLo T rv' (refsS b n i (l.getD i 0)) S.next
 | d, k, 0, rv, U, _, hq, _, _, _, _ => by omega
 | 0, k, q + 1, rv, U, hk, hq, g, hxU, hb, ht => by
  refine ⟨rv, U, ?_, g, hxU, hb, ?_⟩
  · have hc : (decide (k < n) && (!b || decide (k ≤ i))) = false := by
     cases b
     · rw [decide_eq_false (show ¬ k < n by simp at hk; omega)]; rfl
     · rw [decide_eq_false (show ¬ k ≤ i by simp at hk; omega)]; simp
    rw [L8_33_eq, cond_eq, hc, ifK_bool, cond_false]
  · have : k = (if b then i + 1 else n) := by omega
    rw [this] at ht
    exact ht
 | d + 1, k, q + 1, rv, U, hk, hq, g, hxU, hb, ht => by
  have onU := g.on.trans ho
  have hkn : k < n := by cases b <;> simp at hk <;> omega
  have hc : (decide (k < n) && (!b || decide (k ≤ i))) = true := by
   rw [decide_eq_true hkn]
   cases b
   · rfl
   · rw [decide_eq_true (show k ≤ i by simp at hk; omega)]; rfl
  have hadd : binV E0 .add 3 false true (.int .i64 (k : Int)) (.int .i64 1) = some (.int .i64 ((k + 1 : Nat) : Int)) := by
   rw [binV_ii, intsV_add, wrap_succ (by omega)]
  have hld : ld1 (.cptr (.int .u16 (l.getD i 0 : Int))) U = some (.int .u16 (l.getD i 0 : Int), U) := rfl
  rw [L8_33_eq, cond_eq, hc, ifK_bool, cond_true, u16_ix hl (by omega), oB, hld, oB]
  dsimp only
  rw [bit_if (by omega)]
  cases hbit : bit (l.getD i 0) k with
  | false =>
   rw [cond_false, hadd, oB]
   exact L8i_spec ho hl b hn hln hi hx nk ek d (k + 1) q rv U (by omega) (by omega) g hxU hb (by rw [upTo_succ, hbit, if_neg (by simp), List.append_nil]; exact ht)
  | true =>
   have l1 : ld1 (.ptr x (0 + 1)) U = some (rv, U) := Bx.ldv onU hb big4 rfl
   obtain ⟨W, w1, w2, t, y, w3, w4, w5⟩ := letter_parts onU (k := k) (by omega)
   have onW := w1.on.trans onU
   obtain ⟨y2, W2, rv', X, p1, p2, p3, p4⟩ := (ht.grew w1).push2 onW (Nat.le_trans g.next w1.next) (Nat.lt_of_le_of_lt (upTo_len _ _) (by omega)) (ltr k)
   have onX := p4.on.trans onW
   have hbW := hb.grew hxU (fun h => h) w1
   have hbX : Bx X x 28 [nmv, rv, sv [], sv []] := hbW.grew (Nat.lt_of_lt_of_le hxU w1.next) (fun h => absurd (row_bx ((ht.grew w1).blk h).2 hbW) (by decide)) p4
   have hst := bx_st4 onX hbX p3.oneV
   have gX : Grew (fun _ => False) S X := Grew.fresh (g.trans w1) (Nat.le_refl _) (p4.mono fun z _ h => ((ht.grew w1).blk h).1)
   have gP := grew_put (s := X) x (bxO 28 [nmv, rv', sv [], sv []])
   have htP : TLo (X.put x (bxO 28 [nmv, rv', sv [], sv []])) rv' (upTo (l.getD i 0) (k + 1)) S.next := by
    rw [upTo_succ, hbit, if_pos rfl]
    rcases p3 with h | ⟨r, h0, h1, h2, h3, h4⟩
    · exact .inl h
    · exact .inr ⟨r, h0, h1.grew h2 (fun e => by subst e; exact absurd (row_bx h1 hbX) (by decide)) gP, h2, h3, h4⟩
   obtain ⟨rv'', T, t1, t2, t3, t4, t5⟩ := L8i_spec (m := m) (N := N) (v5 := v5) ho hl b hn hln hi hx nk ek d (k + 1) q rv' (X.put x (bxO 28 [nmv, rv', sv [], sv []])) (by omega) (by omega) (Grew.own gX hx gP) (Nat.lt_of_lt_of_le (Nat.lt_of_lt_of_le hxU w1.next) p4.next) (bx_put4 x 28 _) htP
   refine ⟨rv'', T, ?_, t2, t3, t4, t5⟩
   rw [cond_true, faPg, oB, l1, oB]
   dsimp only
   rw [w2, oB]
   dsimp only
   rw [w3, oB, w4, oB]
   dsimp only
   rw [w5, oB]
   dsimp only
   rw [p1, oB]
   dsimp only
   rw [p2, oB]
   dsimp only
   rw [oB, hst, oB]
   dsimp only
   rw [hadd, oB]
   exact t1
end
end Go.Proofs.Ytginkdeicmdmaaa.W
namespace Go.Proofs.Ytginkdeicmdmaaa.W
open Go.Proofs.Ytginkdeicmdmaaa.Ev Go.RowKit
theorem smallG_len (b : Bool) (l : List Nat) (n : Nat) : ∀ i, (smallG b l n i).length = i
 | 0 => rfl
 | i + 1 => by
  unfold smallG
  rw [List.length_append, smallG_len b l n i]; rfl
theorem gOf_len {ps : List Pth} {g : List (Bs × List Bs)} (h : gOf ps = g) : ps.length = g.length := by
 rw [← h]; unfold gOf; rw [List.length_map]
section
variable {S T U : St}
theorem build28 (x : Bs) : buildV E0 28 [(0, sv x)] = some (vAgg [sv x, .nilslice, sv [], sv []]) := by kernel_rfl
theorem L8_spec {m : Nat} (ho : S.on = false) {v0 : V} {l : List Nat} (hl : U16V v0 l) (b : Bool) {n : Nat} (hn : n ≤ 14) (hln : n ≤ l.length) (nk : Ac → St → Rs) (ek : Nat → Ac → St → Rs) :
 ∀ (d i q : Nat) (v5 : V) (U : St) (ps : List Pth), i + d = n → d < q → Grew (fun _ => False) S U → PLo U v5 ps S.next → gOf ps = smallG b l n i →
 ∃ v T ps', L8_10 (ev E0 KD m) rounds nk ek q v0 (.bool b) v5 (.int .i64 (n : Int)) (.int .i64 (i : Int)) U = ek 0 (fr 61 [(5, v)]) T ∧ Grew (fun _ => False) S T ∧ PLo T v ps' S.next ∧ gOf ps' = smallG b l n n
 | d, i, 0, v5, U, ps, _, hq, _, _, _ => by omega
 | 0, i, q + 1, v5, U, ps, hi, hq, g, hp, hg => by
  refine ⟨v5, U, ps, ?_, g, hp, ?_⟩
  · rw [L8_10_eq, binV_ii, intsV_lss, dec_ge (by omega), oB, ifK_bool, cond_false]
  · rw [hg, show i = n by omega]
 | d + 1, i, q + 1, v5, U, ps, hi, hq, g, hp, hg => by
  have onU := g.on.trans ho
  have hin : i < n := by omega
  obtain ⟨W, w1, w2, t, y, w3, w4, w5⟩ := letter_parts onU (k := i) (by omega)
  have onW := w1.on.trans onU
  obtain ⟨X, x1, x2, x3, x4⟩ := var_new onW 28 4 (Tr.ofListFrom .nil [(sv []), .nilslice, (sv []), (sv [])] 0) [sv (ltr i), .nilslice, sv [], sv []] rfl (by omega) big4
  have gX := w1.trans x3
  obtain ⟨rv', T, t1, t2, t3, t4, t5⟩ := L8i_spec (m := m) (N := rounds) (v5 := v5) (x := W.next) (nmv := sv (ltr i)) onU hl b hn hln hin w1.next (R8_26 (ev E0 KD m) rounds (R8_14 (ev E0 KD m) rounds (N8_10 (ev E0 KD m) rounds nk ek q) ek) (exB 1 (R8_14 (ev E0 KD m) rounds (N8_10 (ev E0 KD m) rounds nk ek q) ek) ek))
   (exB 2 (R8_26 (ev E0 KD m) rounds (R8_14 (ev E0 KD m) rounds (N8_10 (ev E0 KD m) rounds nk ek q) ek) (exB 1 (R8_14 (ev E0 KD m) rounds (N8_10 (ev E0 KD m) rounds nk ek q) ek) ek)) (exB 1 (R8_14 (ev E0 KD m) rounds (N8_10 (ev E0 KD m) rounds nk ek q) ek) ek)) (if b then i + 1 else n) 0 rounds .nilslice X (Nat.zero_add _) (by unfold rounds; split <;> omega) gX (by omega) x2 .nil
  have onT := t2.on.trans onU
  obtain ⟨y2, W2, v', Y, p1, p2, p3, p4⟩ := (hp.grew t2).push onT (Nat.le_trans g.next t2.next) (by rw [gOf_len hg, smallG_len]; omega) (p := ⟨ltr i, rv', refsS b n i (l.getD i 0)⟩) t5.tl
  have gY : Grew (fun _ => False) S Y := Grew.fresh (g.trans t2) (Nat.le_refl _) (p4.mono fun z _ h => (hp.2 z h).1)
  obtain ⟨v, Z, ps', z1, z2, z3, z4⟩ := L8_spec ho hl b hn hln nk ek d (i + 1) q v' Y (ps ++ [⟨ltr i, rv', refsS b n i (l.getD i 0)⟩]) (by omega) (by omega) gY p3 (by
   unfold gOf smallG
   rw [List.map_append, ← hg]; rfl)
  refine ⟨v, Z, ps', ?_, z2, z3, z4⟩
  have hlA : ldA 4 (.ptr W.next 0) T = some (vAgg [sv (ltr i), rv', sv [], sv []], T) := t4.ldA onT rfl big4
  rw [L8_10_eq, binV_ii, intsV_lss, dec_lt hin, oB, ifK_bool, cond_true, w2, oB]
  dsimp only
  rw [w3, oB, w4, oB]
  dsimp only
  rw [w5, oB]
  dsimp only
  rw [build28, oB, oB, nwP_fst, x1, oB]
  dsimp only
  rw [show (V.int .i64 0) = .int .i64 ((0 : Nat) : Int) from rfl, t1, exB_same, R8_26_eq, hlA, oB]
  dsimp only
  rw [show vAgg [sv (ltr i), rv', sv [], sv []] = vAgg (Pth.cells ⟨ltr i, rv', refsS b n i (l.getD i 0)⟩) from rfl, p1, oB]
  dsimp only
  rw [p2, oB, R8_14_eq, binV_ii, intsV_add, wrap_succ (by omega), oB, N8_10_eq]
  exact z1
theorem min14 (n : Nat) (S : St) : foldK minV (.int .i64 (n : Int)) [(.int .i64 14)] S = some (.int .i64 ((min n 14 : Nat) : Int), S) := by
 rw [foldK_min]
 congr 3
 omega
theorem small_run (m : Nat) (ho : S.on = false) {v0 : V} {l : List Nat} (hl : U16V v0 l) (b : Bool) :
 ∃ v U ps, (ev E0 KD (m + 1)).f 8 [v0, .bool b] S = some (.ret v, U) ∧ Grew (fun _ => False) S U ∧ PLo U v ps S.next ∧ gOf ps = smallG b l (min l.length 14) (min l.length 14) := by
 obtain ⟨v, T, ps', z1, z2, z3, z4⟩ := L8_spec (m := m) ho hl b (n := min l.length 14) (by omega) (by omega) (R8_6 (ev E0 KD m) rounds (finN E0 (ev E0 KD m) Try.f8) noEx) (exB 0 (R8_6 (ev E0 KD m) rounds (finN E0 (ev E0 KD m) Try.f8) noEx) noEx) (min l.length 14) 0 rounds .nilslice S [] (Nat.zero_add _) (by unfold rounds; omega) (Grew.refl _ _) .nil rfl
 refine ⟨v, T, ps', rd8 ?_, z2, z3, z4⟩
 show F8 (ev E0 KD m) rounds v0 (.bool b) S = _
 rw [F8_eq, u16_len hl, oB]
 dsimp only
 rw [min14, oB]
 dsimp only
 rw [show (V.int .i64 0) = .int .i64 ((0 : Nat) : Int) from rfl, z1, exB_same, R8_6_eq]
theorem eqStr (c d : Bool) (a b : Bs) : binV E0 .eql 9 c d (sv a) (sv b) = some (.bool (a == b)) := by
 rw [binV_ss]
 show (some (V.bool (sEq a.length (pack a) b.length (pack b)))) = _
 rw [sEq_eq]
theorem neStr (c d : Bool) (a b : Bs) : binV E0 .neq 9 c d (sv a) (sv b) = some (.bool (!(a == b))) := by
 rw [binV_ss]
 show (some (V.bool (!sEq a.length (pack a) b.length (pack b)))) = _
 rw [sEq_eq]
theorem L13_spec {m N : Nat} (ho : S.on = false) {v : V} {l : List Bs} (hl : TL S v l) (hlen : l.length < 1000000) (x : Bs) (nk : Ac → St → Rs) (ek : Nat → Ac → St → Rs) :
 ∀ (rest : List Bs) (i q : Nat), l.drop i = rest → rest.length < q →
 L13_4 (ev E0 KD m) N nk ek q v (sv x) (.int .i64 (i : Int)) S = if x ∈ rest then some (.ret (.bool true), S) else ek 0 (fr 18 []) S
 | rest, i, 0, _, hq => by omega
 | [], i, q + 1, hi, hq => by
  rw [L13_4_eq, hl.len, oB]
  dsimp only
  rw [binV_ii, intsV_lss, dec_ge (drop_end hi), oB, ifK_bool, cond_false, if_neg (by simp)]
 | a :: rest, i, q + 1, hi, hq => by
  obtain ⟨hlt, hf, hrest, hmem⟩ := drop_at hi
  obtain ⟨p, p1, p2⟩ := hl.ld ho (show l[i]? = some a by rw [List.getElem?_eq_getElem hlt, hf])
  rw [L13_4_eq, hl.len, oB]
  dsimp only
  rw [binV_ii, intsV_lss, dec_lt hlt, oB, ifK_bool, cond_true, p1, oB, p2, oB]
  dsimp only
  rw [eqStr, oB, ifK_bool]
  by_cases h : a = x
  · rw [show (a == x) = true by simp [h], cond_true, if_pos (by simp [h])]
  · rw [show (a == x) = false from beq_false_of_ne h, cond_false, binV_ii, intsV_add, wrap_succ (by omega), oB, L13_spec ho hl hlen x nk ek rest (i + 1) q hrest (by simp at hq; omega)]
    by_cases h2 : x ∈ rest
    · rw [if_pos h2, if_pos (by simp [h2])]
    · rw [if_neg h2, if_neg (by simp [h2, Ne.symm h])]
theorem has_run (m : Nat) (ho : S.on = false) {v : V} {l : List Bs} (hl : TL S v l) (hlen : l.length < 1000000) (x : Bs) : (ev E0 KD (m + 1)).f 13 [v, sv x] S = some (.ret (.bool (decide (x ∈ l))), S) := rd13 (by
 show F13 (ev E0 KD m) rounds v (sv x) S = _
 rw [F13_eq, show (V.int .i64 0) = .int .i64 ((0 : Nat) : Int) from rfl, L13_spec ho hl hlen x _ _ l 0 rounds rfl (by unfold rounds; omega)]
 by_cases h : x ∈ l
 · rw [if_pos h, decide_eq_true h]
 · rw [if_neg h, exB_same, R13_1_eq, decide_eq_false h])
end
end Go.Proofs.Ytginkdeicmdmaaa.W
namespace Go.Proofs.Ytginkdeicmdmaaa.W
open Go.Proofs.Ytginkdeicmdmaaa.Ev Go.RowKit
def closedB (ps : List Pth) : Bool := ps.all fun p => p.refs.all fun r => decide (r ∈ names ps)
theorem lkP_dec (r : Bs) (ps : List Pth) : decide (r ∈ names ps) = (lkP r ps).isSome := by
 cases h : lkP r ps with
 | none => rw [decide_eq_false (lkP_none.1 h)]; rfl
 | some q => rw [decide_eq_true (lk_names h)]; rfl
section
variable {S T U : St}
theorem works_run (n : Nat) (S : St) : (ev E0 KD (n + 1)).f 14 [] S = some (.ret (.bool true), S) := by
 rw [ev_known (K := KD) (f := 14) (g := kfTrue) (by rfl)]
 exact kfTrue_run S
end
end Go.Proofs.Ytginkdeicmdmaaa.W
namespace Go.Proofs.Ytginkdeicmdmaaa.W
open Go.Proofs.Ytginkdeicmdmaaa.Ev Go.RowKit
section
variable {S T U : St}
def Rw (S : St) (v : V) (z : Nat) (L : List (Tr V)) : Prop := lenV v = some L.length ∧ firstV z L.length v S = some (L, S)
theorem TL.rw (ho : S.on = false) {v : V} {l : List Bs} (h : TL S v l) : Rw S v 1 (rowOf l) := by
 refine ⟨by rw [rowOf_length]; exact h.lenV, ?_⟩
 rw [rowOf_length]
 rcases h with ⟨rfl, rfl | rfl | ⟨r, c, rfl⟩⟩ | ⟨r, off, L, h1, h2, h3, h4, h5⟩
 · rfl
 · rfl
 · rfl
 · have := h1.ldN ho l.length off (by rw [rowOf_length]; exact h3)
   rw [Nat.mul_one] at this
   have e : ((rowOf L).drop off).take l.length = rowOf l := by
    unfold rowOf
    rw [← List.map_drop, ← List.map_take, h4]
   rw [e] at this
   rcases h5 with rfl | ⟨c, rfl⟩ <;> exact this
theorem PL.rw (ho : S.on = false) {v : V} {l : List Pth} (h : PL S v l) : Rw S v 4 (l.map treeP) := by
 refine ⟨by rw [List.length_map]; exact h.lenV, ?_⟩
 rcases h.1 with ⟨rfl, rfl⟩ | ⟨r, rfl, h1, h2, h3⟩
 · rfl
 · have := h1.ldN ho (l.map treeP).length 0 (by omega)
   rw [Nat.zero_mul, List.drop_zero, List.take_of_length_le (Nat.le_refl _)] at this
   exact this
end
end Go.Proofs.Ytginkdeicmdmaaa.W
namespace Go.Proofs.Ytginkdeicmdmaaa.W
theorem foldl_addP : ∀ (l out : List Pth), (names (out ++ l)).Nodup → l.foldl addP out = out ++ l
 | [], out, _ => by simp
 | p :: l, out, h => by
  have hp : lkP p.nm out = none := by
   rw [lkP_none]
   intro hm
   unfold names at h hm
   rw [List.map_append, List.nodup_append] at h
   exact h.2.2 _ hm p.nm (by simp) rfl
  have e : addP out p = out ++ [p] := by unfold addP; rw [hp]; rfl
  rw [List.foldl_cons, e, foldl_addP l (out ++ [p]) (by rw [List.append_assoc]; exact h), List.append_assoc]; rfl
theorem refsOf_id {l : List Pth} (h : (names l).Nodup) : refsOf l = l := by
 unfold refsOf
 rw [foldl_addP l [] (by exact h), List.nil_append]
theorem Rch.mono {ps : List Pth} {f g : List Bs} (h : ∀ a ∈ f, a ∈ names ps → Rch ps g a) {a : Bs} (ha : Rch ps f a) : Rch ps g a := by
 induction ha with
 | root h1 h2 => exact h _ h1 h2
 | step _ hq hr hn ih => exact .step ih hq hr hn
end Go.Proofs.Ytginkdeicmdmaaa.W
