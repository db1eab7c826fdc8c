/-
  WHAT THE FUNCTIONS COME TO: each is read by the evaluator, printed, and told as a function of data, part 3 of 5 (no condition).
-/
import Derived.Test.YtginkdeicmdmaaaW2
namespace Go.Proofs.Ytginkdeicmdmaaa.W
open Go.Proofs.Ytginkdeicmdmaaa.Ev Go.RowKit
theorem rd28K {K : FuncId → Option KF} (hK : K 28 = none) {n : Nat} {args : List V} {s : St} {r : En × St} (e : runF E0 (ev E0 K n) rounds Try.f28 B28 args s = some r) : (ev E0 K (n + 1)).f 28 args s = some r := ev_read (c := C28) (d := B28) (by kernel_rfl) (by kernel_rfl) (annot_isOf C28 _ (by kernel_rfl)) hK e
theorem rd26 {n : Nat} {args : List V} {s : St} {r : En × St} (e : runF E0 (ev E0 KD n) rounds Try.f26 B26 args s = some r) : (ev E0 KD (n + 1)).f 26 args s = some r := ev_read (c := C26) (d := B26) (by kernel_rfl) (by kernel_rfl) (annot_isOf C26 _ (by kernel_rfl)) rfl e
theorem rd30 {n : Nat} {args : List V} {s : St} {r : En × St} (e : runF E0 (ev E0 KD n) rounds Try.f30 B30 args s = some r) : (ev E0 KD (n + 1)).f 30 args s = some r := ev_read (c := C30) (d := B30) (by kernel_rfl) (by kernel_rfl) (annot_isOf C30 _ (by kernel_rfl)) rfl e
theorem rd27 {n : Nat} {args : List V} {s : St} {r : En × St} (e : runF E0 (ev E0 KD n) rounds Try.f27 B27 args s = some r) : (ev E0 KD (n + 1)).f 27 args s = some r := ev_read (c := C27) (d := B27) (by kernel_rfl) (by kernel_rfl) (annot_isOf C27 _ (by kernel_rfl)) rfl e
theorem rd46 {n : Nat} {args : List V} {s : St} {r : En × St} (e : runF E0 (ev E0 KD n) rounds Try.f46 B46 args s = some r) : (ev E0 KD (n + 1)).f 46 args s = some r := ev_read (c := C46) (d := B46) (by kernel_rfl) (by kernel_rfl) (annot_isOf C46 _ (by kernel_rfl)) rfl e
theorem rd29 {n : Nat} {args : List V} {s : St} {r : En × St} (e : runF E0 (ev E0 KD n) rounds Try.f29 B29 args s = some r) : (ev E0 KD (n + 1)).f 29 args s = some r := ev_read (c := C29) (d := B29) (by kernel_rfl) (by kernel_rfl) (annot_isOf C29 _ (by kernel_rfl)) rfl e
theorem rd31 {n : Nat} {args : List V} {s : St} {r : En × St} (e : runF E0 (ev E0 KD n) rounds Try.f31 B31 args s = some r) : (ev E0 KD (n + 1)).f 31 args s = some r := ev_read (c := C31) (d := B31) (by kernel_rfl) (by kernel_rfl) (annot_isOf C31 _ (by kernel_rfl)) rfl e
theorem rd45 {n : Nat} {args : List V} {s : St} {r : En × St} (e : runF E0 (ev E0 KD n) rounds Try.f45 B45 args s = some r) : (ev E0 KD (n + 1)).f 45 args s = some r := ev_read (c := C45) (d := B45) (by kernel_rfl) (by kernel_rfl) (annot_isOf C45 _ (by kernel_rfl)) rfl e
theorem rd47 {n : Nat} {args : List V} {s : St} {r : En × St} (e : runF E0 (ev E0 KD n) rounds Try.f47 B47 args s = some r) : (ev E0 KD (n + 1)).f 47 args s = some r := ev_read (c := C47) (d := B47) (by kernel_rfl) (by kernel_rfl) (annot_isOf C47 _ (by kernel_rfl)) rfl e
theorem rd9 {n : Nat} {args : List V} {s : St} {r : En × St} (e : runF E0 (ev E0 KD n) rounds Try.f9 B9 args s = some r) : (ev E0 KD (n + 1)).f 9 args s = some r := ev_read (c := C9) (d := B9) (by kernel_rfl) (by kernel_rfl) (annot_isOf C9 _ (by kernel_rfl)) rfl e
theorem rd10 {n : Nat} {args : List V} {s : St} {r : En × St} (e : runF E0 (ev E0 KD n) rounds Try.f10 B10 args s = some r) : (ev E0 KD (n + 1)).f 10 args s = some r := ev_read (c := C10) (d := B10) (by kernel_rfl) (by kernel_rfl) (annot_isOf C10 _ (by kernel_rfl)) rfl e
theorem rd8 {n : Nat} {args : List V} {s : St} {r : En × St} (e : runF E0 (ev E0 KD n) rounds Try.f8 B8 args s = some r) : (ev E0 KD (n + 1)).f 8 args s = some r := ev_read (c := C8) (d := B8) (by kernel_rfl) (by kernel_rfl) (annot_isOf C8 _ (by kernel_rfl)) rfl e
theorem rd11 {n : Nat} {args : List V} {s : St} {r : En × St} (e : runF E0 (ev E0 KD n) rounds Try.f11 B11 args s = some r) : (ev E0 KD (n + 1)).f 11 args s = some r := ev_read (c := C11) (d := B11) (by kernel_rfl) (by kernel_rfl) (annot_isOf C11 _ (by kernel_rfl)) rfl e
theorem rd13 {n : Nat} {args : List V} {s : St} {r : En × St} (e : runF E0 (ev E0 KD n) rounds Try.f13 B13 args s = some r) : (ev E0 KD (n + 1)).f 13 args s = some r := ev_read (c := C13) (d := B13) (by kernel_rfl) (by kernel_rfl) (annot_isOf C13 _ (by kernel_rfl)) rfl e
structure Pth where
 nm : Bs
 rv : V
 refs : List Bs
def Pth.cells (p : Pth) : List V := [sv p.nm, p.rv, sv [], sv []]
noncomputable def treeP (p : Pth) : Tr V := Tr.ofListFrom .nil p.cells 0
def Pth.kv (p : Pth) : Bs × V := (p.nm, p.rv)
def names (l : List Pth) : List Bs := l.map (·.nm)
def lkP (a : Bs) : List Pth → Option Pth
 | [] => none
 | p :: l => if a = p.nm then some p else lkP a l
theorem lkS_kv (a : Bs) : ∀ l : List Pth, lkS a (l.map Pth.kv) = (lkP a l).map (·.rv)
 | [] => rfl
 | p :: l => by
  rw [List.map_cons]
  unfold lkS lkP
  by_cases h : a = p.nm
  · rw [if_pos h, if_pos (show a = p.kv.1 from h)]; rfl
  · rw [if_neg h, if_neg (show ¬ a = p.kv.1 from h), lkS_kv a l]
theorem lkP_mem {a : Bs} {p : Pth} : ∀ {l : List Pth}, lkP a l = some p → p ∈ l ∧ p.nm = a
 | [], h => by cases h
 | q :: l, h => by
  unfold lkP at h
  by_cases hc : a = q.nm
  · rw [if_pos hc] at h
    cases h
    exact ⟨List.mem_cons_self .., hc.symm⟩
  · rw [if_neg hc] at h
    exact ⟨List.mem_cons_of_mem _ (lkP_mem h).1, (lkP_mem h).2⟩
theorem lkP_none {a : Bs} : ∀ {l : List Pth}, lkP a l = none ↔ a ∉ names l
 | [] => by simp [lkP, names]
 | q :: l => by
  unfold lkP
  by_cases hc : a = q.nm
  · rw [if_pos hc]; simp [names, hc]
  · rw [if_neg hc, lkP_none]
    simp [names, hc]
def addP (out : List Pth) (p : Pth) : List Pth := if (lkP p.nm out).isSome then out else out ++ [p]
def refsOf (l : List Pth) : List Pth := l.foldl addP []
section
variable {S T U : St}
structure RowR (s : St) (b e z : Nat) (l : List (Tr V)) : Prop where
 pos : 0 < z
 fit : z * l.length < big
 row : ∃ ro c, s.heap.get b = some (.cells e z l.length ro c) ∧ ∀ (i : Nat) t, l[i]? = some t → c.get i = some t
theorem RowR.of {b e z : Nat} {l : List (Tr V)} (h : RowAt S b e z l) : RowR S b e z l := ⟨h.pos, h.fit, let ⟨c, h1, h2⟩ := h.row; ⟨false, c, h1, h2⟩⟩
theorem RowR.grew {W : Nat → Prop} {b e z : Nat} {l : List (Tr V)} (h : RowR S b e z l) (hb : b < S.next) (hw : ¬ W b) (g : Grew W S T) : RowR T b e z l := by
 obtain ⟨ro, c, h1, h2⟩ := h.row
 exact ⟨h.pos, h.fit, ro, c, by rw [g.keep b hb hw]; exact h1, h2⟩
theorem RowR.ldK (ho : S.on = false) {b e z i : Nat} {l : List (Tr V)} {t : Tr V} (h : RowR S b e z l) (hi : l[i]? = some t) : ldK S b (i * z) z = some (t, S) := by
 obtain ⟨ro, c, h1, h2⟩ := h.row
 have hlt := (List.getElem?_eq_some_iff.1 hi).1
 unfold Go.Proofs.Ytginkdeicmdmaaa.Ev.ldK
 rw [h1]
 have hle : i * z + z ≤ z * l.length := by
  calc i * z + z = (i + 1) * z := by rw [Nat.add_mul, Nat.one_mul]
   _ ≤ l.length * z := Nat.mul_le_mul_right _ hlt
   _ = z * l.length := Nat.mul_comm ..
 simp only [ble_true.2 hle, blt_true.2 h.fit, Bool.and_self, cond_true]
 unfold elemIn
 rw [Nat.beq_refl, show Nat.beq (i * z % z) 0 = true from beq_true.2 (Nat.mul_mod_left ..)]
 simp only [Bool.and_self, cond_true, Nat.mul_div_cancel _ h.pos, h2 i t hi, oB, note_off ho]
theorem RowR.ldN (ho : S.on = false) {b e z : Nat} {l : List (Tr V)} (h : RowR S b e z l) : ∀ (n i : Nat), i + n ≤ l.length → ldN b z n (i * z) S = some ((l.drop i).take n, S)
 | 0, i, _ => by simp [Go.Proofs.Ytginkdeicmdmaaa.Ev.ldN]
 | n + 1, i, hle => by
  have hlt : i < l.length := by omega
  unfold Go.Proofs.Ytginkdeicmdmaaa.Ev.ldN
  rw [h.ldK ho (List.getElem?_eq_getElem hlt)]
  simp only [oB]
  rw [show i * z + z = (i + 1) * z by rw [Nat.add_mul, Nat.one_mul], RowR.ldN ho h n (i + 1) (by omega)]
  simp only [oB]
  rw [List.drop_eq_getElem_cons hlt, List.take_succ_cons]
theorem RowR.ldf (ho : S.on = false) {b e z i j : Nat} {l : List (Tr V)} {t : Tr V} {v : V} (h : RowR S b e z l) (hi : l[i]? = some t) (hj : j < z) (hv : t.get j = some v) : ld S b (i * z + j) = some (v, S) := by
 obtain ⟨ro, c, h1, h2⟩ := h.row
 have hlt := (List.getElem?_eq_some_iff.1 hi).1
 have hlt2 : i * z + j < z * l.length := by
  calc i * z + j < i * z + z := by omega
   _ = (i + 1) * z := by rw [Nat.add_mul, Nat.one_mul]
   _ ≤ l.length * z := Nat.mul_le_mul_right _ hlt
   _ = z * l.length := Nat.mul_comm ..
 have hc : (c.get ((i * z + j) / z)).bind (fun t => t.get ((i * z + j) % z)) = some v := by
  rw [Nat.mul_comm i z, Nat.mul_add_div h.pos, Nat.div_eq_of_lt hj, Nat.add_zero, Nat.mul_add_mod, Nat.mod_eq_of_lt hj, h2 i _ hi]
  exact hv
 unfold ld
 rw [h1]
 simp only [blt_true.2 hlt2, blt_true.2 h.fit, Bool.and_self, cond_true]
 simp only [oI] at hc
 obtain ⟨u, hu, hv'⟩ := hc
 rw [hu, oB, hv', oB, note_off ho]
def PL (S : St) (v : V) (l : List Pth) : Prop := ((l = [] ∧ v = .nilslice) ∨ ∃ r, v = .oslice r 0 l.length 4 ∧ RowR S r 28 4 (l.map treeP) ∧ r < S.next ∧ 0 < l.length) ∧ ∀ p ∈ l, TL S p.rv p.refs
theorem PL.nil : PL S .nilslice [] := ⟨.inl ⟨rfl, rfl⟩, fun _ h => by cases h⟩
theorem PL.grew {v : V} {l : List Pth} (h : PL S v l) (g : Grew (fun _ => False) S U) : PL U v l := by
 refine ⟨?_, fun p hp => (h.2 p hp).grew0 g⟩
 rcases h.1 with h | ⟨r, h0, h1, h2, h3⟩
 · exact .inl h
 · exact .inr ⟨r, h0, h1.grew h2 (fun h => h) g, Nat.lt_of_lt_of_le h2 g.next, h3⟩
theorem PL.lenV {v : V} {l : List Pth} (h : PL S v l) : Go.Proofs.Ytginkdeicmdmaaa.Ev.lenV v = some l.length := by
 rcases h.1 with ⟨rfl, rfl⟩ | ⟨r, rfl, _⟩ <;> rfl
theorem PL.len {v : V} {l : List Pth} (h : PL S v l) (U : St) : lnS v U = some (.int .i64 (l.length : Int), U) := by
 rcases h.1 with ⟨rfl, rfl⟩ | ⟨r, rfl, _⟩ <;> rfl
theorem PL.ix {v : V} {l : List Pth} (h : PL S v l) {i : Nat} {p : Pth} (hp : l[i]? = some p) : ∃ r, ixP 4 v (.int .i64 (i : Int)) = some (.ptr r (i * 4)) ∧ RowR S r 28 4 (l.map treeP) := by
 obtain ⟨hi, he⟩ := List.getElem?_eq_some_iff.1 hp
 rcases h.1 with ⟨rfl, _⟩ | ⟨r, rfl, h1, h2, h3⟩
 · cases hi
 · refine ⟨r, ?_, h1⟩
   show (bif Nat.blt i l.length then some (V.ptr r (0 + i * 4)) else none) = _
   rw [blt_true.2 hi, Nat.zero_add]; rfl
theorem PL.name (ho : S.on = false) {l : List Pth} {i r : Nat} {p : Pth} (hp : l[i]? = some p) (h : RowR S r 28 4 (l.map treeP)) : ld1 (.ptr r (i * 4 + 0)) S = some (sv p.nm, S) :=
 RowR.ldf ho h (by rw [List.getElem?_map, hp]; rfl) (by omega) rfl
theorem PL.refs (ho : S.on = false) {l : List Pth} {i r : Nat} {p : Pth} (hp : l[i]? = some p) (h : RowR S r 28 4 (l.map treeP)) : ld1 (.ptr r (i * 4 + 1)) S = some (p.rv, S) :=
 RowR.ldf ho h (by rw [List.getElem?_map, hp]; rfl) (by omega) rfl
theorem PL.all (ho : S.on = false) {l : List Pth} {i r : Nat} {p : Pth} (hp : l[i]? = some p) (h : RowR S r 28 4 (l.map treeP)) : ldA 4 (.ptr r (i * 4)) S = some (vAgg p.cells, S) := by
 have := h.ldK ho (i := i) (t := treeP p) (by rw [List.getElem?_map, hp]; rfl)
 show ((ldK S r (i * 4) 4).bind fun q => some (V.agg 4 q.1, q.2)) = _
 rw [this]; rfl
theorem vu_some (s : St) : vu (some s) = some (.tuple [], s) := rfl
theorem tup0 (a b : V) : extractV (.tuple [a, b]) 0 = some a := rfl
theorem tup1 (a b : V) : extractV (.tuple [a, b]) 1 = some b := rfl
theorem big4 : 4 < big := by unfold big; decide
theorem L28_spec {self : EV} {N : Nat} (ho : S.on = false) {v9 : V} {ps : List Pth} (hp : PL S v9 ps) (hlen : ps.length < 1000000) (nk : Ac → St → Rs) (ek : Nat → Ac → St → Rs) {m : Nat} (hm : S.next ≤ m) :
 ∀ (rest : List Pth) (i k : Nat) (out : List Pth) (U : St), ps.drop i = rest → rest.length < k → Grew (fun _ => False) S U → m < U.next → MapS U m (out.map Pth.kv) →
 ∃ T, L28_9 self N nk ek k (.map m) v9 (.int .i64 (ps.length : Int)) (.int .i64 (i : Int)) U = ek 0 (fr 31 [(3, .map m)]) T ∧ Grew (fun _ => False) S T ∧ m < T.next ∧ MapS T m ((rest.foldl addP out).map Pth.kv)
 | rest, i, 0, out, U, _, hk, _, _, _ => by omega
 | [], i, k + 1, out, U, hi, hk, g, hmn, hM => by
  refine ⟨U, ?_, g, hmn, hM⟩
  rw [L28_9_eq, binV_ii, intsV_lss, dec_ge (drop_end hi), oB, ifK_bool, cond_false]
 | p :: rest, i, k + 1, out, U, hi, hk, g, hmn, hM => by
  obtain ⟨hlt, hf, hrest, hmem⟩ := drop_at hi
  have onU := g.on.trans ho
  have hpi : ps[i]? = some p := by rw [List.getElem?_eq_getElem hlt, hf]
  have hpU := hp.grew g
  obtain ⟨r, x1, x2⟩ := hpU.ix hpi
  obtain ⟨A, a1, a2, a3, a4⟩ := var_new onU 28 4 (Tr.ofListFrom .nil [(sv []), .nilslice, (sv []), (sv [])] 0) p.cells rfl (by omega) big4
  have onA := a3.on.trans onU
  have l0 : ld1 (.ptr U.next (0 + 0)) A = some (sv p.nm, A) := Bx.ldv onA a2 big4 rfl
  have l1 : ld1 (.ptr U.next (0 + 1)) A = some (p.rv, A) := Bx.ldv onA a2 big4 rfl
  have hMA := hM.grew hmn (fun h => h) a3
  rw [L28_9_eq, binV_ii, intsV_lss, dec_lt hlt, oB, ifK_bool, cond_true, x1, oB, PL.all onU hpi x2, oB]
  dsimp only
  rw [oB, nwP_fst, a1, oB]
  dsimp only
  rw [faPg, oB, l0, oB]
  dsimp only
  rw [look_two onA hMA, oB]
  dsimp only
  rw [tup0, oB, tup1, oB, unV_not, oB, ifK_bool, lkS_kv]
  cases hq : lkP p.nm out with
  | some q =>
   rw [Option.map_some, Option.isSome_some, Bool.not_true, cond_false, binV_ii, intsV_add, wrap_succ (by omega), oB]
   have e : addP out p = out := by unfold addP; rw [hq]; rfl
   rw [List.foldl_cons, e]
   exact L28_spec ho hp hlen nk ek hm rest (i + 1) k out A hrest (by simp at hk; omega) (g.trans a3) (by omega) hMA
  | none =>
   obtain ⟨o, u1, u2⟩ := upd_new onA und48 hMA (a := p.nm) (by rw [lkS_kv, hq]; rfl) p.rv
   have gP := grew_put (s := A) m o
   have e : addP out p = out ++ [p] := by unfold addP; rw [hq]; rfl
   rw [Option.map_none, Option.isSome_none, Bool.not_false, cond_true, oB, l0, oB]
   dsimp only
   rw [faPg, oB, l1, oB]
   dsimp only
   rw [u1, vu_some, oB]
   dsimp only
   rw [binV_ii, intsV_add, wrap_succ (by omega), oB]
   rw [List.foldl_cons, e]
   exact L28_spec ho hp hlen nk ek hm rest (i + 1) k (out ++ [p]) (A.put m o) hrest (by simp at hk; omega) (Grew.own (g.trans a3) hm gP) (by show m < A.next; omega) (by rw [List.map_append]; exact u2)
theorem refs_runK {K : FuncId → Option KF} (hK : K 28 = none) (n : Nat) (ho : S.on = false) {v : V} {ps : List Pth} (hp : PL S v ps) (hlen : ps.length < 1000000) :
 ∃ U m, (ev E0 K (n + 1)).f 28 [v] S = some (.ret (.map m), U) ∧ Grew (fun _ => False) S U ∧ S.next ≤ m ∧ m < U.next ∧ MapS U m ((refsOf ps).map Pth.kv) := by
 have g1 := grew_nw ho (fun _ => False) (.map [] 0)
 have hM := MapS.new ho
 obtain ⟨T, t1, t2, t3, t4⟩ := L28_spec (self := ev E0 K n) (N := rounds) ho hp hlen (R28_3 (ev E0 K n) rounds (finN E0 (ev E0 K n) Try.f28) noEx) (exB 0 (R28_3 (ev E0 K n) rounds (finN E0 (ev E0 K n) Try.f28) noEx) noEx) (m := S.next) (Nat.le_refl _) ps 0 rounds [] (nw S (.map [] 0)) rfl (by unfold rounds; omega) g1 (by show S.next < S.next + 1; omega) hM
 refine ⟨T, S.next, rd28K hK ?_, t2, Nat.le_refl _, t3, t4⟩
 show F28 (ev E0 K n) rounds v S = _
 have hk : makeMapK E0 48 none S = some (.map S.next, nw S (.map [] 0)) := rfl
 rw [F28_eq, hk, oB]
 dsimp only
 rw [hp.len, oB]
 dsimp only
 rw [show (V.int .i64 0) = .int .i64 ((0 : Nat) : Int) from rfl, t1, exB_same, R28_3_eq]
theorem refs_run (n : Nat) (ho : S.on = false) {v : V} {ps : List Pth} (hp : PL S v ps) (hlen : ps.length < 1000000) :
 ∃ U m, (ev E0 KD (n + 1)).f 28 [v] S = some (.ret (.map m), U) ∧ Grew (fun _ => False) S U ∧ S.next ≤ m ∧ m < U.next ∧ MapS U m ((refsOf ps).map Pth.kv) := refs_runK rfl n ho hp hlen
end
end Go.Proofs.Ytginkdeicmdmaaa.W
namespace Go.Proofs.Ytginkdeicmdmaaa.W
open Go.Proofs.Ytginkdeicmdmaaa.Ev Go.RowKit
section
variable {S T U : St}
theorem Grew.fresh {a b c : St} {N : Nat} (h : Grew (fun _ => False) a b) (hN : a.next ≤ N) (k : Grew (fun x => N ≤ x) b c) : Grew (fun _ => False) a c :=
 ⟨Nat.le_trans h.next k.next, k.on.trans h.on, fun x hx hw => (k.keep x (Nat.lt_of_lt_of_le hx h.next) (by omega)).trans (h.keep x hx hw)⟩
theorem box_map (ho : S.on = false) (e m : Nat) : ∃ t, boxK e (.map m) S = some (.ptr S.next 0, t) ∧ Bx t S.next e [.map m] ∧ Grew (fun _ => False) S t ∧ t.next = S.next + 1 := box_one ho e ⟨rfl, rfl, rfl, rfl⟩
theorem take_push {α : Type} {l : List α} {i : Nat} (h : i < l.length) : l.take (i + 1) = l.take i ++ [l[i]] := (List.take_append_getElem h).symm
theorem filter_push {α : Type} (f : α → Bool) (l : List α) (a : α) : (l ++ [a]).filter f = l.filter f ++ (if f a then [a] else []) := by
 rw [List.filter_append]
 by_cases h : f a = true
 · simp [h]
 · simp [h]
theorem L26_spec {n N : Nat} (ho : S.on = false) {v10 fv : V} {ks : List Bs} {f : Bs → Bool} (hk : TL S v10 ks) (hlen : ks.length < 100000) (hf : ∀ U, Grew (fun _ => False) S U → ∀ k ∈ ks, callK E0 (ev E0 KD n) fv [sv k] U = some (.ret (.bool (f k)), U)) (nk : Ac → St → Rs) (ek : Nat → Ac → St → Rs) :
 ∀ (d i k : Nat) (v5 : V) (U : St), i + d = ks.length → d < k → Grew (fun _ => False) S U → TLo U v5 ((ks.take i).filter f) S.next →
 ∃ v T, L26_10 (ev E0 KD n) N nk ek k fv v5 v10 (.int .i64 (ks.length : Int)) (.int .i64 (i : Int)) U = ek 0 (fr 25 [(5, v)]) T ∧ Grew (fun _ => False) S T ∧ TLo T v (ks.filter f) S.next
 | d, i, 0, v5, U, _, hk, _, _ => by omega
 | 0, i, k + 1, v5, U, hi, hkk, g, ht => by
  refine ⟨v5, U, ?_, g, ?_⟩
  · rw [L26_10_eq, binV_ii, intsV_lss, dec_ge (by omega), oB, ifK_bool, cond_false]
  · rw [List.take_of_length_le (by omega)] at ht; exact ht
 | d + 1, i, k + 1, v5, U, hi, hkk, g, ht => by
  have onU := g.on.trans ho
  have hlt : i < ks.length := by omega
  obtain ⟨p, p1, p2⟩ := (hk.grew0 g).ld onU (List.getElem?_eq_getElem hlt)
  rw [L26_10_eq, binV_ii, intsV_lss, dec_lt hlt, oB, ifK_bool, cond_true, p1, oB, p2, oB]
  dsimp only
  rw [hf U g _ (List.getElem_mem hlt), callP_ret, ifK_bool]
  have hadd : binV E0 .add 3 false true (.int .i64 (i : Int)) (.int .i64 1) = some (.int .i64 ((i + 1 : Nat) : Int)) := by
   rw [binV_ii, intsV_add, wrap_succ (by omega)]
  cases hq : f ks[i] with
  | true =>
   have hl : ((ks.take i).filter f).length < 100000 := Nat.lt_of_le_of_lt (List.length_filter_le _ _) (by rw [List.length_take]; omega)
   obtain ⟨y, W, v', T, b1, b2, b3, b4⟩ := ht.push onU g.next hl ks[i]
   rw [cond_true, b1, oB]
   dsimp only
   rw [b2, oB]
   dsimp only
   rw [hadd, oB]
   exact L26_spec ho hk hlen hf nk ek d (i + 1) k v' T (by omega) (by omega) (Grew.fresh g (Nat.le_refl _) b4) (by rw [take_push hlt, filter_push, hq, if_pos rfl]; exact b3)
  | false =>
   rw [cond_false, hadd, oB]
   exact L26_spec ho hk hlen hf nk ek d (i + 1) k v5 U (by omega) (by omega) g (by rw [take_push hlt, filter_push, hq, if_neg (by simp), List.append_nil]; exact ht)
theorem kept26_run (n : Nat) (ho : S.on = false) {m : Nat} {kv : List (Bs × V)} (hM : MapS S m kv) (hm : m < S.next) (hn : (kv.map (·.1)).Nodup) (hs : ∀ p ∈ kv, p.1.length < 4611686018427387904) (hl : kv.length < 100000) {fv : V} {f : Bs → Bool}
 (hf : ∀ U, Grew (fun _ => False) S U → ∀ k ∈ kv.map (·.1), callK E0 (ev E0 KD (n + 1)) fv [sv k] U = some (.ret (.bool (f k)), U)) :
 ∃ v U, (ev E0 KD (n + 2)).f 26 [.map m, fv] S = some (.ret v, U) ∧ TLo U v ((sortB (kv.map (·.1))).filter f) S.next ∧ Grew (fun _ => False) S U := by
 obtain ⟨A, a1, a2, a3, a4⟩ := box_map ho 46 m
 have onA := a3.on.trans ho
 have hk : (ev E0 KD (n + 1)).f 45 [.map m] S = some (.ret (.fn (.func 53) [] [.ptr S.next 0]), A) := rd45 (by
  show F45 (ev E0 KD n) rounds (.map m) S = _
  rw [F45_eq, a1]; rfl)
 obtain ⟨v7, B, b1, b2, b3⟩ := sorted_run n onA (g := 53) (by decide) a2 (hM.grew hm (fun h => h) a3) hn hs (by omega)
 have onB := b3.on.trans onA
 have gB := a3.trans b3
 have hlen : (sortB (kv.map (·.1))).length < 100000 := by rw [(sortB_perm _).length_eq, List.length_map]; exact hl
 obtain ⟨v, T, t1, t2, t3⟩ := L26_spec (n := n + 1) (N := rounds) onB b2 hlen (fun U g k hk => hf U (gB.trans g) k (mem_sortB.1 hk)) (R26_2 (ev E0 KD (n + 1)) rounds (finN E0 (ev E0 KD (n + 1)) Try.f26) noEx) (exB 0 (R26_2 (ev E0 KD (n + 1)) rounds (finN E0 (ev E0 KD (n + 1)) Try.f26) noEx) noEx) _ 0 rounds .nilslice B (Nat.zero_add _) (by unfold rounds; omega) (Grew.refl _ _) .nil
 refine ⟨v, T, rd26 ?_, ?_, gB.trans t2⟩
 · show F26 (ev E0 KD (n + 1)) rounds (.map m) fv S = _
   rw [F26_eq, hk, callP_ret, b1, callP_ret, b2.len, oB]
   dsimp only
   rw [show (V.int .i64 0) = .int .i64 ((0 : Nat) : Int) from rfl, t1, exB_same, R26_2_eq]
 · rcases t3 with h | ⟨r, h0, h1, h2, h3, h4⟩
   · exact .inl h
   · exact .inr ⟨r, h0, h1, h2, Nat.le_trans gB.next h3, h4⟩
theorem L30_spec {n N : Nat} (ho : S.on = false) {v10 fv : V} {ks : List Bs} {f : Bs → Bool} (hk : TL S v10 ks) (hlen : ks.length < 100000) (hf : ∀ U, Grew (fun _ => False) S U → ∀ k ∈ ks, callK E0 (ev E0 KD n) fv [sv k] U = some (.ret (.bool (f k)), U)) (nk : Ac → St → Rs) (ek : Nat → Ac → St → Rs) :
 ∀ (d i k : Nat) (v5 : V) (U : St), i + d = ks.length → d < k → Grew (fun _ => False) S U → TLo U v5 ((ks.take i).filter f) S.next →
 ∃ v T, L30_10 (ev E0 KD n) N nk ek k fv v5 v10 (.int .i64 (ks.length : Int)) (.int .i64 (i : Int)) U = ek 0 (fr 25 [(5, v)]) T ∧ Grew (fun _ => False) S T ∧ TLo T v (ks.filter f) S.next
 | d, i, 0, v5, U, _, hk, _, _ => by omega
 | 0, i, k + 1, v5, U, hi, hkk, g, ht => by
  refine ⟨v5, U, ?_, g, ?_⟩
  · rw [L30_10_eq, binV_ii, intsV_lss, dec_ge (by omega), oB, ifK_bool, cond_false]
  · rw [List.take_of_length_le (by omega)] at ht; exact ht
 | d + 1, i, k + 1, v5, U, hi, hkk, g, ht => by
  have onU := g.on.trans ho
  have hlt : i < ks.length := by omega
  obtain ⟨p, p1, p2⟩ := (hk.grew0 g).ld onU (List.getElem?_eq_getElem hlt)
  rw [L30_10_eq, binV_ii, intsV_lss, dec_lt hlt, oB, ifK_bool, cond_true, p1, oB, p2, oB]
  dsimp only
  rw [hf U g _ (List.getElem_mem hlt), callP_ret, ifK_bool]
  have hadd : binV E0 .add 3 false true (.int .i64 (i : Int)) (.int .i64 1) = some (.int .i64 ((i + 1 : Nat) : Int)) := by
   rw [binV_ii, intsV_add, wrap_succ (by omega)]
  cases hq : f ks[i] with
  | true =>
   have hl : ((ks.take i).filter f).length < 100000 := Nat.lt_of_le_of_lt (List.length_filter_le _ _) (by rw [List.length_take]; omega)
   obtain ⟨y, W, v', T, b1, b2, b3, b4⟩ := ht.push onU g.next hl ks[i]
   rw [cond_true, b1, oB]
   dsimp only
   rw [b2, oB]
   dsimp only
   rw [hadd, oB]
   exact L30_spec ho hk hlen hf nk ek d (i + 1) k v' T (by omega) (by omega) (Grew.fresh g (Nat.le_refl _) b4) (by rw [take_push hlt, filter_push, hq, if_pos rfl]; exact b3)
  | false =>
   rw [cond_false, hadd, oB]
   exact L30_spec ho hk hlen hf nk ek d (i + 1) k v5 U (by omega) (by omega) g (by rw [take_push hlt, filter_push, hq, if_neg (by simp), List.append_nil]; exact ht)
theorem kept30_run (n : Nat) (ho : S.on = false) {m : Nat} {kv : List (Bs × V)} (hM : MapS S m kv) (hm : m < S.next) (hn : (kv.map (·.1)).Nodup) (hs : ∀ p ∈ kv, p.1.length < 4611686018427387904) (hl : kv.length < 100000) {fv : V} {f : Bs → Bool}
 (hf : ∀ U, Grew (fun _ => False) S U → ∀ k ∈ kv.map (·.1), callK E0 (ev E0 KD (n + 1)) fv [sv k] U = some (.ret (.bool (f k)), U)) :
 ∃ v U, (ev E0 KD (n + 2)).f 30 [.map m, fv] S = some (.ret v, U) ∧ TLo U v ((sortB (kv.map (·.1))).filter f) S.next ∧ Grew (fun _ => False) S U := by
 obtain ⟨A, a1, a2, a3, a4⟩ := box_map ho 48 m
 have onA := a3.on.trans ho
 have hk : (ev E0 KD (n + 1)).f 47 [.map m] S = some (.ret (.fn (.func 54) [] [.ptr S.next 0]), A) := rd47 (by
  show F47 (ev E0 KD n) rounds (.map m) S = _
  rw [F47_eq, a1]; rfl)
 obtain ⟨v7, B, b1, b2, b3⟩ := sorted_run n onA (g := 54) (by decide) a2 (hM.grew hm (fun h => h) a3) hn hs (by omega)
 have onB := b3.on.trans onA
 have gB := a3.trans b3
 have hlen : (sortB (kv.map (·.1))).length < 100000 := by rw [(sortB_perm _).length_eq, List.length_map]; exact hl
 obtain ⟨v, T, t1, t2, t3⟩ := L30_spec (n := n + 1) (N := rounds) onB b2 hlen (fun U g k hk => hf U (gB.trans g) k (mem_sortB.1 hk)) (R30_2 (ev E0 KD (n + 1)) rounds (finN E0 (ev E0 KD (n + 1)) Try.f30) noEx) (exB 0 (R30_2 (ev E0 KD (n + 1)) rounds (finN E0 (ev E0 KD (n + 1)) Try.f30) noEx) noEx) _ 0 rounds .nilslice B (Nat.zero_add _) (by unfold rounds; omega) (Grew.refl _ _) .nil
 refine ⟨v, T, rd30 ?_, ?_, gB.trans t2⟩
 · show F30 (ev E0 KD (n + 1)) rounds (.map m) fv S = _
   rw [F30_eq, hk, callP_ret, b1, callP_ret, b2.len, oB]
   dsimp only
   rw [show (V.int .i64 0) = .int .i64 ((0 : Nat) : Int) from rfl, t1, exB_same, R30_2_eq]
 · rcases t3 with h | ⟨r, h0, h1, h2, h3, h4⟩
   · exact .inl h
   · exact .inr ⟨r, h0, h1, h2, Nat.le_trans gB.next h3, h4⟩
end
end Go.Proofs.Ytginkdeicmdmaaa.W
namespace Go.Proofs.Ytginkdeicmdmaaa.W
theorem filt_lt {α : Type} {p q : α → Bool} : ∀ {l : List α}, (∀ x ∈ l, q x = true → p x = true) → (∃ x ∈ l, p x = true ∧ q x = false) → (l.filter q).length < (l.filter p).length
 | [], _, ⟨x, hx, _⟩ => by cases hx
 | a :: l, h, ⟨x, hx, h1, h2⟩ => by
  have hle : (l.filter q).length ≤ (l.filter p).length := by
   rw [← List.countP_eq_length_filter, ← List.countP_eq_length_filter]
   exact List.countP_mono_left fun x hx => h x (List.mem_cons_of_mem _ hx)
  rcases List.mem_cons.1 hx with rfl | hx
  · rw [List.filter_cons_of_pos h1, List.filter_cons_of_neg (by simp [h2]), List.length_cons]; omega
  · have := filt_lt (l := l) (fun x hx => h x (List.mem_cons_of_mem _ hx)) ⟨x, hx, h1, h2⟩
    cases hq : q a with
    | true =>
     have hp := h a (List.mem_cons_self ..) hq
     rw [List.filter_cons_of_pos hp, List.filter_cons_of_pos hq, List.length_cons, List.length_cons]; omega
    | false =>
     rw [List.filter_cons_of_neg (by simp [hq])]
     cases hp : p a with
     | true => rw [List.filter_cons_of_pos hp, List.length_cons]; omega
     | false => rw [List.filter_cons_of_neg (by simp [hp])]; exact this
def unv (ps : List Pth) (out : List Bs) : Nat := ((names ps).filter fun k => !decide (k ∈ out)).length
theorem unv_mono {ps : List Pth} {a b : List Bs} (h : ∀ x ∈ a, x ∈ b) : unv ps b ≤ unv ps a := by
 unfold unv
 rw [← List.countP_eq_length_filter, ← List.countP_eq_length_filter]
 refine List.countP_mono_left fun x _ hx => ?_
 simp only [Bool.not_eq_true', decide_eq_false_iff_not] at hx ⊢
 exact fun e => hx (h x e)
theorem unv_push {ps : List Pth} {out : List Bs} {p : Bs} (hp : p ∈ names ps) (hn : p ∉ out) : unv ps (out ++ [p]) < unv ps out := by
 refine filt_lt (fun x _ hx => ?_) ⟨p, hp, by simp [hn], by simp⟩
 simp only [Bool.not_eq_true', decide_eq_false_iff_not] at hx ⊢
 exact fun e => hx (List.mem_append_left _ e)
def dfs (ps : List Pth) : Nat → List Bs → Bs → List Bs
 | 0, out, _ => out
 | n + 1, out, p => match lkP p ps with
  | none => out
  | some q => if p ∈ out then out else q.refs.foldl (dfs ps n) (out ++ [p])
def Cl (ps : List Pth) (X : Bs → Prop) : Prop := ∀ a q, X a → lkP a ps = some q → ∀ r ∈ q.refs, X r
structure Dfs (ps : List Pth) (out : List Bs) (qs : List Bs) (o : List Bs) : Prop where
 sub : ∀ x ∈ out, x ∈ o
 ask : ∀ p ∈ qs, p ∈ names ps → p ∈ o
 cl : ∀ x ∈ o, x ∈ out ∨ (x ∈ names ps ∧ ∀ q, lkP x ps = some q → ∀ r ∈ q.refs, r ∈ names ps → r ∈ o)
 least : ∀ X : Bs → Prop, Cl ps X → (∀ p ∈ qs, X p) → ∀ x ∈ o, x ∈ out ∨ X x
 nd : out.Nodup → o.Nodup
theorem lk_names {ps : List Pth} {p : Bs} {q : Pth} (h : lkP p ps = some q) : p ∈ names ps := by
 by_cases hp : p ∈ names ps
 · exact hp
 · rw [lkP_none.2 hp] at h; cases h
theorem fold_spec {ps : List Pth} {n : Nat} (ih : ∀ out p, unv ps out ≤ n → Dfs ps out [p] (dfs ps (n + 1) out p)) : ∀ (l : List Bs) (out : List Bs), unv ps out ≤ n → Dfs ps out l (l.foldl (dfs ps (n + 1)) out)
 | [], out, _ => ⟨fun x h => h, fun p h => by (cases h), fun x h => .inl h, fun X _ _ x h => .inl h, fun h => h⟩
 | p :: l, out, hu => by
  have h1 := ih out p hu
  have h2 := fold_spec ih l (dfs ps (n + 1) out p) (Nat.le_trans (unv_mono h1.sub) hu)
  rw [List.foldl_cons]
  refine ⟨fun x hx => h2.sub x (h1.sub x hx), fun a ha hn => ?_, fun x hx => ?_, fun X hX ha x hx => ?_, fun h => h2.nd (h1.nd h)⟩
  · rcases List.mem_cons.1 ha with rfl | ha
    · exact h2.sub _ (h1.ask _ (by simp) hn)
    · exact h2.ask a ha hn
  · rcases h2.cl x hx with h | h
    · rcases h1.cl x h with h | ⟨h, h'⟩
      · exact .inl h
      · exact .inr ⟨h, fun q hq r hr hn => h2.sub _ (h' q hq r hr hn)⟩
    · exact .inr h
  · rcases h2.least X hX (fun a h => ha a (List.mem_cons_of_mem _ h)) x hx with h | h
    · exact h1.least X hX (fun a h => ha a (by simp at h; simp [h])) x h
    · exact .inr h
theorem dfs_spec {ps : List Pth} : ∀ (n : Nat) (out : List Bs) (p : Bs), unv ps out ≤ n → Dfs ps out [p] (dfs ps (n + 1) out p) := by
 intro n
 induction n with
 | zero =>
  intro out p hu
  unfold dfs
  cases hl : lkP p ps with
  | none => exact ⟨fun x h => h, fun a h hn => by (simp at h; subst h; exact absurd hn (lkP_none.1 hl)), fun x h => .inl h, fun X _ _ x h => .inl h, fun h => h⟩
  | some q =>
   by_cases ho : p ∈ out
   · simp only [if_pos ho]
     exact ⟨fun x h => h, fun a h hn => by (simp at h; subst h; exact ho), fun x h => .inl h, fun X _ _ x h => .inl h, fun h => h⟩
   · have := unv_push (lk_names hl) ho
     omega
 | succ n ih =>
  intro out p hu
  unfold dfs
  cases hl : lkP p ps with
  | none => exact ⟨fun x h => h, fun a h hn => by (simp at h; subst h; exact absurd hn (lkP_none.1 hl)), fun x h => .inl h, fun X _ _ x h => .inl h, fun h => h⟩
  | some q =>
   by_cases ho : p ∈ out
   · simp only [if_pos ho]
     exact ⟨fun x h => h, fun a h hn => by (simp at h; subst h; exact ho), fun x h => .inl h, fun X _ _ x h => .inl h, fun h => h⟩
   · simp only [if_neg ho]
     have hlt := unv_push (lk_names hl) ho
     have h2 := fold_spec ih q.refs (out ++ [p]) (by omega)
     refine ⟨fun x hx => h2.sub x (List.mem_append_left _ hx), fun a ha hn => ?_, fun x hx => ?_, fun X hX ha x hx => ?_, fun h => h2.nd ?_⟩
     · simp at ha; subst ha
       exact h2.sub _ (by simp)
     · rcases h2.cl x hx with h | h
       · rcases List.mem_append.1 h with h | h
         · exact .inl h
         · simp at h; subst h
           refine .inr ⟨lk_names hl, fun q' hq' r hr hn => ?_⟩
           rw [hl] at hq'
           cases hq'
           exact h2.ask r hr hn
       · exact .inr h
     · have hp : X p := ha p (by simp)
       rcases h2.least X hX (fun r hr => hX p q hp hl r hr) x hx with h | h
       · rcases List.mem_append.1 h with h | h
         · exact .inl h
         · simp at h; subst h; exact .inr hp
       · exact .inr h
     · rw [List.nodup_append]
       refine ⟨h, by simp, fun a ha b hb e => ?_⟩
       simp at hb; subst hb; subst e; exact ho ha
inductive Rch (ps : List Pth) (from_ : List Bs) : Bs → Prop where
 | root {a : Bs} (h : a ∈ from_) (hn : a ∈ names ps) : Rch ps from_ a
 | step {a r : Bs} {q : Pth} (h : Rch ps from_ a) (hq : lkP a ps = some q) (hr : r ∈ q.refs) (hn : r ∈ names ps) : Rch ps from_ r
def reachL (ps : List Pth) (from_ : List Bs) : List Bs := from_.foldl (dfs ps (ps.length + 1)) []
theorem unv_le (ps : List Pth) (out : List Bs) : unv ps out ≤ ps.length := by
 unfold unv
 refine Nat.le_trans (List.length_filter_le _ _) ?_
 unfold names
 rw [List.length_map]; exact Nat.le_refl _
theorem reachL_dfs (ps : List Pth) (from_ : List Bs) : Dfs ps [] from_ (reachL ps from_) := fold_spec (fun out p h => dfs_spec _ out p h) from_ [] (unv_le _ _)
theorem Rch.mem {ps : List Pth} {f : List Bs} {a : Bs} (h : Rch ps f a) : a ∈ names ps := by cases h <;> assumption
theorem mem_reachL {ps : List Pth} {f : List Bs} {a : Bs} : a ∈ reachL ps f ↔ Rch ps f a := by
 have h := reachL_dfs ps f
 constructor
 · intro ha
   rcases h.least (fun x => x ∈ names ps → Rch ps f x) (fun a q hx hq r hr hn => .step (hx (lk_names hq)) hq hr hn) (fun p hp hn => .root hp hn) a ha with h' | h'
   · cases h'
   · rcases h.cl a ha with h2 | ⟨h2, _⟩
     · cases h2
     · exact h' h2
 · intro ha
   induction ha with
   | root hf hn => exact h.ask _ hf hn
   | step h1 hq hr hn ih =>
    rcases h.cl _ ih with h2 | ⟨_, h2⟩
    · cases h2
    · exact h2 _ hq _ hr hn
theorem reachL_nd (ps : List Pth) (f : List Bs) : (reachL ps f).Nodup := (reachL_dfs ps f).nd .nil
end Go.Proofs.Ytginkdeicmdmaaa.W
namespace Go.Proofs.Ytginkdeicmdmaaa.W
open Go.Proofs.Ytginkdeicmdmaaa.Ev Go.RowKit
def okv (out : List Bs) : List (Bs × V) := out.map fun k => (k, V.int .i64 1)
theorem lkS_okv (a : Bs) : ∀ out : List Bs, lkS a (okv out) = if a ∈ out then some (V.int .i64 1) else none
 | [] => rfl
 | k :: out => by
  show lkS a ((k, V.int .i64 1) :: okv out) = _
  unfold lkS
  by_cases h : a = k
  · rw [if_pos h, if_pos (by simp [h])]
  · rw [if_neg h, lkS_okv a out]
    by_cases h2 : a ∈ out
    · rw [if_pos h2, if_pos (by simp [h2])]
    · rw [if_neg h2, if_neg (by simp [h, h2])]
def fnv46 (bt bo br : Nat) : V := .fn (.func 46) [] [.ptr bt 0, .ptr bo 0, .ptr br 0]
section
variable {S T U : St}
theorem var_one (ho : S.on = false) (e : Nat) (z : Tr V) {v : V} (hv : OneV v) : ∃ t, stP 1 (.ptr S.next 0) v (nwP e 1 z S).2 = some (.tuple [], t) ∧ Bx t S.next e [v] ∧ Grew (fun _ => False) S t ∧ t.next = S.next + 1 := by
 obtain ⟨t, h1, h2, h3, h4⟩ := var_new ho e 1 z [v] rfl (by omega) big1
 refine ⟨t, ?_, h2, h3, h4⟩
 rw [← h1]
 show vu (bif Nat.beq v.size 1 && !isTuple v then stK _ _ _ 1 v.cells else none) = _
 rw [hv.size, hv.tup, hv.cells]; rfl
structure RC (S : St) (bt bo br mt mo : Nat) (ps : List Pth) : Prop where
 on : S.on = false
 xt : Bx S bt 48 [.map mt]
 xo : Bx S bo 46 [.map mo]
 xr : Bx S br 62 [fnv46 bt bo br]
 lt : bt < S.next ∧ bo < S.next ∧ br < S.next ∧ mt < S.next ∧ mo < S.next
 ne : bt ≠ mo ∧ bo ≠ mo ∧ br ≠ mo ∧ mt ≠ mo
 mp : MapS S mt (ps.map Pth.kv)
 row : ∀ p ∈ ps, TL S p.rv p.refs
 mo : ∃ kv, MapS S mo kv
theorem RC.grew {bt bo br mt mo : Nat} {ps : List Pth} (h : RC S bt bo br mt mo ps) (g : Grew (fun x => x = mo) S U) {kv : List (Bs × V)} (hm : MapS U mo kv) : RC U bt bo br mt mo ps := by
 obtain ⟨l1, l2, l3, l4, l5⟩ := h.lt
 obtain ⟨n1, n2, n3, n4⟩ := h.ne
 obtain ⟨kv0, hm0⟩ := h.mo
 have gn := g.next
 exact ⟨g.on.trans h.on, h.xt.grew l1 n1 g, h.xo.grew l2 n2 g, h.xr.grew l3 n3 g, ⟨by omega, by omega, by omega, by omega, by omega⟩, h.ne, h.mp.grew l4 n4 g,
  fun p hp => (h.row p hp).grew (fun r e _ hr hx => by subst hx; exact hm0.noRow hr) g, ⟨kv, hm⟩⟩
theorem binGtr (n : Int) : binV E0 .gtr 3 false true (.int .i64 n) (.int .i64 0) = some (.bool (decide (0 < n))) := by
 rw [binV_ii, intsV_gtr]
theorem call46 (n : Nat) (bt bo br : Nat) (p : Bs) (S : St) : callK E0 (ev E0 KD n) (fnv46 bt bo br) [sv p] S = (ev E0 KD n).f 46 [sv p, .ptr bt 0, .ptr bo 0, .ptr br 0] S :=
 callK_fn (ext_none (by decide)) (by kernel_rfl) [] [.ptr bt 0, .ptr bo 0, .ptr br 0] [sv p] S
theorem fin46 (n : Nat) (S : St) : finN E0 (ev E0 KD n) Try.f46 (fr 35 []) S = some (.ret (.tuple []), S) := by kernel_rfl
theorem L46_spec {n N : Nat} {bt bo br mt mo : Nat} {ps : List Pth} (u : Nat)
 (ih : ∀ (out : List Bs) (p : Bs) (S : St), unv ps out ≤ u → RC S bt bo br mt mo ps → MapS S mo (okv out) → ∃ U, (ev E0 KD n).f 46 [sv p, .ptr bt 0, .ptr bo 0, .ptr br 0] S = some (.ret (.tuple []), U) ∧ MapS U mo (okv (dfs ps (u + 1) out p)) ∧ Grew (fun x => x = mo) S U)
 (nk : Ac → St → Rs) (ek : Nat → Ac → St → Rs) {rv : V} {l : List Bs} (hlen : l.length < 1000000) :
 ∀ (rest : List Bs) (i k : Nat) (out : List Bs) (S : St), l.drop i = rest → rest.length < k → unv ps out ≤ u → RC S bt bo br mt mo ps → TL S rv l → MapS S mo (okv out) →
 ∃ U, L46_22 (ev E0 KD n) N nk ek k (.ptr br 0) rv (.int .i64 (l.length : Int)) (.int .i64 (i : Int)) S = ek 0 (fr 35 []) U ∧ MapS U mo (okv (rest.foldl (dfs ps (u + 1)) out)) ∧ Grew (fun x => x = mo) S U
 | rest, i, 0, out, S, _, hk, _, _, _, _ => by omega
 | [], i, k + 1, out, S, hi, hk, hu, hR, hl, hM => by
  refine ⟨S, ?_, hM, Grew.refl _ _⟩
  rw [L46_22_eq, binV_ii, intsV_lss, dec_ge (drop_end hi), oB, ifK_bool, cond_false]
 | p :: rest, i, k + 1, out, S, hi, hk, hu, hR, hl, hM => by
  obtain ⟨hlt, hf, hrest, hmem⟩ := drop_at hi
  obtain ⟨q, q1, q2⟩ := hl.ld hR.on (show l[i]? = some p by rw [List.getElem?_eq_getElem hlt, hf])
  have l3 : ld1 (.ptr br 0) S = some (fnv46 bt bo br, S) := Bx.ldv hR.on hR.xr big1 rfl
  obtain ⟨U, u1, u2, u3⟩ := ih out p S hu hR hM
  have hd := dfs_spec u out p hu
  obtain ⟨T, t1, t2, t3⟩ := L46_spec (N := N) u ih nk ek hlen rest (i + 1) k (dfs ps (u + 1) out p) U hrest (by simp at hk; omega) (Nat.le_trans (unv_mono hd.sub) hu) (hR.grew u3 u2) (hl.grew (fun r e _ hr hx => by subst hx; exact hM.noRow hr) u3) u2
  refine ⟨T, ?_, t2, u3.trans t3⟩
  rw [L46_22_eq, binV_ii, intsV_lss, dec_lt hlt, oB, ifK_bool, cond_true, q1, oB, q2, oB]
  dsimp only
  rw [l3, oB]
  dsimp only
  rw [call46, u1, callP_ret, binV_ii, intsV_add, wrap_succ (by omega), oB]
  exact t1
theorem reach_run {bt bo br mt mo : Nat} {ps : List Pth} (hsm : ∀ p ∈ ps, p.refs.length < 1000000) (k : Nat) : ∀ (u : Nat) (out : List Bs) (p : Bs) (S : St), unv ps out ≤ u → RC S bt bo br mt mo ps → MapS S mo (okv out) →
 ∃ U, (ev E0 KD (k + u + 1)).f 46 [sv p, .ptr bt 0, .ptr bo 0, .ptr br 0] S = some (.ret (.tuple []), U) ∧ MapS U mo (okv (dfs ps (u + 1) out p)) ∧ Grew (fun x => x = mo) S U := by
 intro u
 induction u with
 | zero =>
  intro out p S hu hR hM
  refine ⟨S, rd46 ?_, ?_, Grew.refl _ _⟩
  · show F46 (ev E0 KD (k + 0)) rounds (sv p) (.ptr bt 0) (.ptr bo 0) (.ptr br 0) S = _
    have l1 : ld1 (.ptr bt 0) S = some (.map mt, S) := Bx.ldv hR.on hR.xt big1 rfl
    have l2 : ld1 (.ptr bo 0) S = some (.map mo, S) := Bx.ldv hR.on hR.xo big1 rfl
    rw [F46_eq, l1, oB]
    dsimp only
    rw [look_two hR.on hR.mp, oB]
    dsimp only
    rw [tup0, oB, tup1, oB, unV_not, oB, lkS_kv]
    cases hq : lkP p ps with
    | none =>
     rw [Option.map_none, Option.isSome_none, Bool.not_false]
     rfl
    | some q =>
     have hin : p ∈ out := by
      by_cases h : p ∈ out
      · exact h
      · have := unv_push (lk_names hq) h; omega
     rw [Option.map_some, Option.isSome_some, Bool.not_true]
     simp only [gFF, oB, cond_true]
     rw [l2, oB]
     dsimp only
     rw [look_one hR.on hM, lkS_okv, if_pos hin, oB]
     dsimp only
     rw [Option.getD_some, binGtr, oB, decide_eq_true (by decide)]
     rfl
  · unfold dfs
    cases hq : lkP p ps with
    | none => exact hM
    | some q =>
     have hin : p ∈ out := by
      by_cases h : p ∈ out
      · exact h
      · have := unv_push (lk_names hq) h; omega
     simp only [if_pos hin]; exact hM
 | succ u ih =>
  intro out p S hu hR hM
  have l1 : ld1 (.ptr bt 0) S = some (.map mt, S) := Bx.ldv hR.on hR.xt big1 rfl
  have l2 : ld1 (.ptr bo 0) S = some (.map mo, S) := Bx.ldv hR.on hR.xo big1 rfl
  have key : ∀ (V1 : St), F46 (ev E0 KD (k + (u + 1))) rounds (sv p) (.ptr bt 0) (.ptr bo 0) (.ptr br 0) S = some (.ret (.tuple []), V1) → (ev E0 KD (k + (u + 1) + 1)).f 46 [sv p, .ptr bt 0, .ptr bo 0, .ptr br 0] S = some (.ret (.tuple []), V1) := fun V1 h => rd46 h
  rw [F46_eq, l1, oB] at key
  dsimp only at key
  rw [look_two hR.on hR.mp, oB] at key
  dsimp only at key
  rw [tup0, oB, tup1, oB, unV_not, oB, lkS_kv] at key
  unfold dfs
  cases hq : lkP p ps with
  | none =>
   rw [hq, Option.map_none, Option.isSome_none, Bool.not_false] at key
   exact ⟨S, key S rfl, hM, Grew.refl _ _⟩
  | some q =>
   rw [hq, Option.map_some, Option.isSome_some, Bool.not_true] at key
   simp only [gFF, oB, cond_true] at key
   rw [l2, oB] at key
   dsimp only at key
   rw [look_one hR.on hM, lkS_okv, oB] at key
   dsimp only at key
   by_cases hin : p ∈ out
   · simp only [if_pos hin]
     rw [if_pos hin, Option.getD_some, binGtr, oB, decide_eq_true (by decide)] at key
     exact ⟨S, key S rfl, hM, Grew.refl _ _⟩
   · simp only [if_neg hin]
     rw [if_neg hin, Option.getD_none, binGtr, oB, decide_eq_false (by decide), pickV_bool, cond_false, oB, ifK_bool, cond_false, l2, oB] at key
     dsimp only at key
     obtain ⟨o, u1, u2⟩ := upd_new hR.on und46 hM (a := p) (by rw [lkS_okv, if_neg hin]) (.int .i64 1)
     have gP := grew_put (s := S) mo o
     have hok : okv out ++ [(p, V.int .i64 1)] = okv (out ++ [p]) := by unfold okv; rw [List.map_append]; rfl
     rw [hok] at u2
     have hmem := (lkP_mem hq).1
     have hTL := (hR.row q hmem).grew (fun r e _ hr hx => by subst hx; exact hM.noRow hr) gP
     rw [u1, vu_some, oB] at key
     dsimp only at key
     rw [Option.getD_some, hTL.len, oB] at key
     dsimp only at key
     have hlt := unv_push (lk_names hq) hin
     obtain ⟨T, t1, t2, t3⟩ := L46_spec (n := k + u + 1) (N := rounds) u ih (finN E0 (ev E0 KD (k + (u + 1))) Try.f46) (exB 0 (finN E0 (ev E0 KD (k + (u + 1))) Try.f46) noEx) (hsm q hmem) q.refs 0 rounds (out ++ [p]) (S.put mo o) rfl (by have := hsm q hmem; unfold rounds; omega) (by omega) (hR.grew gP u2) hTL u2
     refine ⟨T, key T ?_, t2, gP.trans t3⟩
     rw [show (V.int .i64 0) = .int .i64 ((0 : Nat) : Int) from rfl]
     refine t1.trans ?_
     rw [exB_same, fin46]
end
end Go.Proofs.Ytginkdeicmdmaaa.W
namespace Go.Proofs.Ytginkdeicmdmaaa.W
open Go.Proofs.Ytginkdeicmdmaaa.Ev Go.RowKit
section
variable {S T U : St}
theorem L27_spec {n N : Nat} {bt bo br mt mo : Nat} {ps : List Pth} (u : Nat)
 (ih : ∀ (out : List Bs) (p : Bs) (S : St), unv ps out ≤ u → RC S bt bo br mt mo ps → MapS S mo (okv out) → ∃ U, (ev E0 KD n).f 46 [sv p, .ptr bt 0, .ptr bo 0, .ptr br 0] S = some (.ret (.tuple []), U) ∧ MapS U mo (okv (dfs ps (u + 1) out p)) ∧ Grew (fun x => x = mo) S U)
 (nk : Ac → St → Rs) (ek : Nat → Ac → St → Rs) {rv : V} {l : List Bs} (hlen : l.length < 1000000) :
 ∀ (rest : List Bs) (i k : Nat) (out : List Bs) (S : St), l.drop i = rest → rest.length < k → unv ps out ≤ u → RC S bt bo br mt mo ps → TL S rv l → MapS S mo (okv out) →
 ∃ U, L27_14 (ev E0 KD n) N nk ek k (.ptr bo 0) (.ptr br 0) rv (.int .i64 (l.length : Int)) (.int .i64 (i : Int)) S = ek 0 (fr 22 [(5, .ptr bo 0)]) U ∧ MapS U mo (okv (rest.foldl (dfs ps (u + 1)) out)) ∧ Grew (fun x => x = mo) S U ∧ RC U bt bo br mt mo ps
 | rest, i, 0, out, S, _, hk, _, _, _, _ => by omega
 | [], i, k + 1, out, S, hi, hk, hu, hR, hl, hM => by
  refine ⟨S, ?_, hM, Grew.refl _ _, hR⟩
  rw [L27_14_eq, binV_ii, intsV_lss, dec_ge (drop_end hi), oB, ifK_bool, cond_false]
 | p :: rest, i, k + 1, out, S, hi, hk, hu, hR, hl, hM => by
  obtain ⟨hlt, hf, hrest, hmem⟩ := drop_at hi
  obtain ⟨q, q1, q2⟩ := hl.ld hR.on (show l[i]? = some p by rw [List.getElem?_eq_getElem hlt, hf])
  have l3 : ld1 (.ptr br 0) S = some (fnv46 bt bo br, S) := Bx.ldv hR.on hR.xr big1 rfl
  obtain ⟨U, u1, u2, u3⟩ := ih out p S hu hR hM
  have hd := dfs_spec u out p hu
  obtain ⟨T, t1, t2, t3, t4⟩ := L27_spec (N := N) u ih nk ek hlen rest (i + 1) k (dfs ps (u + 1) out p) U hrest (by simp at hk; omega) (Nat.le_trans (unv_mono hd.sub) hu) (hR.grew u3 u2) (hl.grew (fun r e _ hr hx => by subst hx; exact hM.noRow hr) u3) u2
  refine ⟨T, ?_, t2, u3.trans t3, t4⟩
  rw [L27_14_eq, binV_ii, intsV_lss, dec_lt hlt, oB, ifK_bool, cond_true, q1, oB, q2, oB]
  dsimp only
  rw [l3, oB]
  dsimp only
  rw [call46, u1, callP_ret, binV_ii, intsV_add, wrap_succ (by omega), oB]
  exact t1
theorem reached_run (k : Nat) (ho : S.on = false) {mt : Nat} {ps : List Pth} (hM : MapS S mt (ps.map Pth.kv)) (hm : mt < S.next) (hrow : ∀ p ∈ ps, TL S p.rv p.refs) (hsm : ∀ p ∈ ps, p.refs.length < 1000000) {fv : V} {f : List Bs} (hf : TL S fv f) (hfl : f.length < 1000000) :
 ∃ U mo, (ev E0 KD (k + ps.length + 2)).f 27 [.map mt, fv] S = some (.ret (.map mo), U) ∧ MapS U mo (okv (reachL ps f)) ∧ Grew (fun _ => False) S U ∧ S.next ≤ mo ∧ mo < U.next := by
 obtain ⟨A, a1, a2, a3, a4⟩ := box_map ho 48 mt
 have onA := a3.on.trans ho
 have g1 := grew_nw onA (fun _ => False) (.map [] 0)
 have onB : (nw A (.map [] 0)).on = false := nw_on onA _
 have hM0 : MapS (nw A (.map [] 0)) A.next (okv []) := MapS.new onA
 have hnB : (nw A (.map [] 0)).next = A.next + 1 := rfl
 have hk : makeMapK E0 46 none A = some (.map A.next, nw A (.map [] 0)) := rfl
 generalize nw A (.map [] 0) = B at g1 onB hM0 hnB hk
 obtain ⟨C, c1, c2, c3, c4⟩ := var_one onB 46 (Go.Proofs.Ytginkdeicmdmaaa.Ev.one .nilmap) (v := .map A.next) ⟨rfl, rfl, rfl, rfl⟩
 have onC := c3.on.trans onB
 obtain ⟨D, d1, d2, d3, d4⟩ := var_one onC 62 (Go.Proofs.Ytginkdeicmdmaaa.Ev.one .nilfn) (v := fnv46 S.next B.next C.next) ⟨rfl, rfl, rfl, rfl⟩
 have onD := d3.on.trans onC
 have gB := a3.trans g1
 have gD := (gB.trans c3).trans d3
 have hMoD : MapS D A.next (okv []) := (hM0.grew (by omega) (fun h => h) c3).grew (by omega) (fun h => h) d3
 have hR : RC D S.next B.next C.next mt A.next ps := by
  refine ⟨onD, ?_, c2.grew (by omega) (fun h => h) d3, d2, ⟨by omega, by omega, by omega, by omega, by omega⟩, ⟨by omega, by omega, by omega, by omega⟩, hM.grew hm (fun h => h) gD, fun p hp => (hrow p hp).grew0 gD, _, hMoD⟩
  exact ((a2.grew (by omega) (fun h => h) g1).grew (show S.next < B.next by omega) (fun h => h) c3).grew (show S.next < C.next by omega) (fun h => h) d3
 obtain ⟨U, u1, u2, u3, u4⟩ := L27_spec (n := k + ps.length + 1) (N := rounds) ps.length (fun out p S h1 h2 h3 => reach_run hsm k ps.length out p S h1 h2 h3) (R27_8 (ev E0 KD (k + ps.length + 1)) rounds (finN E0 (ev E0 KD (k + ps.length + 1)) Try.f27) noEx) (exB 0 (R27_8 (ev E0 KD (k + ps.length + 1)) rounds (finN E0 (ev E0 KD (k + ps.length + 1)) Try.f27) noEx) noEx) hfl f 0 rounds [] D rfl (by unfold rounds; omega) (unv_le _ _) hR (hf.grew0 gD) hMoD
 have l2 : ld1 (.ptr B.next 0) U = some (.map A.next, U) := Bx.ldv u4.on u4.xo big1 rfl
 refine ⟨U, A.next, rd27 ?_, u2, Grew.own gD (by omega) u3, by omega, by have := u4.lt; omega⟩
 show F27 (ev E0 KD (k + ps.length + 1)) rounds (.map mt) fv S = _
 rw [F27_eq, a1, oB]
 dsimp only
 rw [hk, oB]
 dsimp only
 rw [oB, nwP_fst, c1, oB]
 dsimp only
 rw [oB, nwP_fst, show V.fn (.func 46) [] [V.ptr S.next 0, V.ptr B.next 0, V.ptr C.next 0] = fnv46 S.next B.next C.next from rfl, d1, oB]
 dsimp only
 rw [(hf.grew0 gD).len, oB]
 dsimp only
 rw [show (V.int .i64 0) = .int .i64 ((0 : Nat) : Int) from rfl, u1, exB_same, R27_8_eq, l2, oB]
theorem addP_spec : ∀ (l out : List Pth), (names out).Nodup → (names (l.foldl addP out)).Nodup ∧ (∀ p ∈ l.foldl addP out, p ∈ out ∨ p ∈ l) ∧ (l.foldl addP out).length ≤ out.length + l.length
 | [], out, h => ⟨h, fun p hp => .inl hp, by simp⟩
 | p :: l, out, h => by
  rw [List.foldl_cons]
  have hn : (names (addP out p)).Nodup ∧ (∀ q ∈ addP out p, q ∈ out ∨ q = p) ∧ (addP out p).length ≤ out.length + 1 := by
   unfold addP
   cases hq : lkP p.nm out with
   | some q => exact ⟨h, fun q hq => .inl hq, by simp⟩
   | none =>
    refine ⟨?_, fun q hq => ?_, by simp⟩
    · show (names (out ++ [p])).Nodup
      unfold names at h ⊢
      rw [List.map_append, List.nodup_append]
      refine ⟨h, by simp, fun a ha b hb e => ?_⟩
      simp at hb; subst hb; subst e
      exact lkP_none.1 hq ha
    · have hq' : q ∈ out ++ [p] := hq
      rcases List.mem_append.1 hq' with h | h
      · exact .inl h
      · simp at h; exact .inr h
  obtain ⟨h1, h2, h3⟩ := addP_spec l (addP out p) hn.1
  refine ⟨h1, fun q hq => ?_, by simp; omega⟩
  rcases h2 q hq with h | h
  · rcases hn.2.1 q h with h | rfl
    · exact .inl h
    · exact .inr (List.mem_cons_self ..)
  · exact .inr (List.mem_cons_of_mem _ h)
theorem refsOf_nd (l : List Pth) : (names (refsOf l)).Nodup := (addP_spec l [] .nil).1
theorem refsOf_mem {l : List Pth} {p : Pth} (h : p ∈ refsOf l) : p ∈ l := by
 rcases (addP_spec l [] .nil).2.1 p h with h | h
 · cases h
 · exact h
theorem refsOf_len (l : List Pth) : (refsOf l).length ≤ l.length := by
 have := (addP_spec l [] .nil).2.2
 unfold refsOf
 simpa using this
structure Fit (l : List Pth) : Prop where
 len : l.length < 1000
 nm : ∀ p ∈ l, p.nm.length < 1000000
 refs : ∀ p ∈ l, p.refs.length < 1000
theorem kv_names (l : List Pth) : (l.map Pth.kv).map (·.1) = names l := by unfold names; rw [List.map_map]; rfl
def closL (l : List Pth) (f : List Bs) : List Bs := sortB (reachL (refsOf l) f)
theorem okv_keys (out : List Bs) : (okv out).map (·.1) = out := by
 unfold okv
 rw [List.map_map]
 exact List.map_id _
theorem reachL_mem {ps : List Pth} {f : List Bs} {a : Bs} (h : a ∈ reachL ps f) : ∃ p ∈ ps, p.nm = a := by
 have := (mem_reachL.1 h).mem
 unfold names at this
 simpa using this
theorem reachL_len (ps : List Pth) (f : List Bs) : (reachL ps f).length ≤ ps.length := by
 have h1 : (reachL ps f).length ≤ (names ps).length := List.Nodup.length_le_of_subset (reachL_nd ps f) fun a ha => (mem_reachL.1 ha).mem
 unfold names at h1
 rwa [List.length_map] at h1
theorem closure_run {d : Nat} (ho : S.on = false) {v fv : V} {l : List Pth} {f : List Bs} (hp : PL S v l) (hF : Fit l) (hd : l.length ≤ d) (hf : TL S fv f) (hfl : f.length < 1000000) :
 ∃ w U, (ev E0 KD (d + 3)).f 9 [v, fv] S = some (.ret w, U) ∧ TLo U w (closL l f) S.next ∧ Grew (fun _ => False) S U := by
 have hF1 := hF.len
 have hlen := refsOf_len l
 obtain ⟨A, m, a1, a2, a3, a4, a5⟩ := refs_run (d + 1) ho hp (by omega)
 have onA := a2.on.trans ho
 have hrow : ∀ p ∈ refsOf l, TL A p.rv p.refs := fun p hq => (hp.2 p (refsOf_mem hq)).grew0 a2
 obtain ⟨B, mo, b1, b2, b3, b4, b5⟩ := reached_run (d - (refsOf l).length) onA a5 a4 hrow (fun p hq => Nat.lt_trans (hF.refs p (refsOf_mem hq)) (by decide)) (hf.grew0 a2) hfl
 have onB := b3.on.trans onA
 rw [show d - (refsOf l).length + (refsOf l).length + 2 = d + 2 by omega] at b1
 have hrl := reachL_len (refsOf l) f
 have hc : ∀ U, Grew (fun _ => False) B U → ∀ k ∈ (okv (reachL (refsOf l) f)).map (·.1), callK E0 (ev E0 KD (d + 1)) (.fn (.func 29) [] []) [sv k] U = some (.ret (.bool true), U) := fun U _ k _ => by
  rw [callK_fn (ext_none (by decide)) (by kernel_rfl)]
  exact rd29 (by
   show F29 (ev E0 KD d) rounds (sv k) U = _
   rw [F29_eq])
 obtain ⟨w, U, u1, u2, u3⟩ := kept26_run d onB b2 b5 (by rw [okv_keys]; exact reachL_nd _ _) (fun p hq => by
  unfold okv at hq
  rw [List.mem_map] at hq
  obtain ⟨k, hk, rfl⟩ := hq
  obtain ⟨q, q1, q2⟩ := reachL_mem hk
  subst q2
  exact Nat.lt_trans (hF.nm q (refsOf_mem q1)) (by decide)) (by unfold okv; rw [List.length_map]; omega) hc
 refine ⟨w, U, rd9 ?_, ?_, (a2.trans b3).trans u3⟩
 · show F9 (ev E0 KD (d + 2)) rounds v fv S = _
   rw [F9_eq, a1, callP_ret, b1, callP_ret, u1, callP_ret]
 · rw [okv_keys, List.filter_eq_self.2 (fun _ _ => rfl)] at u2
   rcases u2 with h | ⟨r, h0, h1, h2, h3, h4⟩
   · exact .inl h
   · exact .inr ⟨r, h0, h1, h2, Nat.le_trans (a2.trans b3).next h3, h4⟩
def deadL (l : List Pth) (f : List Bs) : List Bs := (sortB (names (refsOf l))).filter fun k => !decide (k ∈ reachL (refsOf l) f)
theorem eq31 : binV E0 .eql 3 false true (.int .i64 1) (.int .i64 0) = some (.bool false) := by kernel_rfl
theorem eq30 : binV E0 .eql 3 false true (.int .i64 0) (.int .i64 0) = some (.bool true) := by kernel_rfl
theorem dead_run {d : Nat} (ho : S.on = false) {v fv : V} {l : List Pth} {f : List Bs} (hp : PL S v l) (hF : Fit l) (hd : l.length ≤ d) (hf : TL S fv f) (hfl : f.length < 1000000) :
 ∃ w U, (ev E0 KD (d + 3)).f 10 [v, fv] S = some (.ret w, U) ∧ TLo U w (deadL l f) S.next ∧ Grew (fun _ => False) S U := by
 have hF1 := hF.len
 have hlen := refsOf_len l
 obtain ⟨A, m, a1, a2, a3, a4, a5⟩ := refs_run (d + 1) ho hp (by omega)
 have onA := a2.on.trans ho
 have hrow : ∀ p ∈ refsOf l, TL A p.rv p.refs := fun p hq => (hp.2 p (refsOf_mem hq)).grew0 a2
 obtain ⟨B, mo, b1, b2, b3, b4, b5⟩ := reached_run (d - (refsOf l).length) onA a5 a4 hrow (fun p hq => Nat.lt_trans (hF.refs p (refsOf_mem hq)) (by decide)) (hf.grew0 a2) hfl
 have onB := b3.on.trans onA
 rw [show d - (refsOf l).length + (refsOf l).length + 2 = d + 2 by omega] at b1
 obtain ⟨C, c1, c2, c3, c4⟩ := var_one onB 46 (Go.Proofs.Ytginkdeicmdmaaa.Ev.one .nilmap) (v := .map mo) ⟨rfl, rfl, rfl, rfl⟩
 have onC := c3.on.trans onB
 have hMC := (a5.grew a4 (fun h => h) b3).grew (Nat.lt_of_lt_of_le a4 b3.next) (fun h => h) c3
 have hc : ∀ U, Grew (fun _ => False) C U → ∀ k ∈ ((refsOf l).map Pth.kv).map (·.1), callK E0 (ev E0 KD (d + 1)) (.fn (.func 31) [] [.ptr B.next 0]) [sv k] U = some (.ret (.bool (!decide (k ∈ reachL (refsOf l) f))), U) := fun U g k _ => by
  have onU := g.on.trans onC
  have hb := c2.grew (by omega) (fun h => h) g
  have hm2 := (b2.grew b5 (fun h => h) c3).grew (by omega) (fun h => h) g
  have l1 : ld1 (.ptr B.next 0) U = some (.map mo, U) := Bx.ldv onU hb big1 rfl
  rw [callK_fn (ext_none (by decide)) (by kernel_rfl)]
  refine rd31 ?_
  show F31 (ev E0 KD d) rounds (sv k) (.ptr B.next 0) U = _
  rw [F31_eq, l1, oB]
  dsimp only
  rw [look_one onU hm2, lkS_okv, oB]
  dsimp only
  by_cases h : k ∈ reachL (refsOf l) f
  · rw [if_pos h, Option.getD_some, eq31, oB, decide_eq_true h]; rfl
  · rw [if_neg h, Option.getD_none, eq30, oB, decide_eq_false h]; rfl
 obtain ⟨w, U, u1, u2, u3⟩ := kept30_run d onC hMC (by have := b3.next; omega) (by rw [kv_names]; exact refsOf_nd _) (fun p hq => by
  rw [List.mem_map] at hq
  obtain ⟨q, q1, rfl⟩ := hq
  exact Nat.lt_trans (hF.nm q (refsOf_mem q1)) (by decide)) (by rw [List.length_map]; omega) hc
 refine ⟨w, U, rd10 ?_, ?_, ((a2.trans b3).trans c3).trans u3⟩
 · show F10 (ev E0 KD (d + 2)) rounds v fv S = _
   rw [F10_eq, a1, callP_ret, b1, callP_ret, oB, nwP_fst, c1, oB]
   dsimp only
   rw [u1, callP_ret]
 · rw [kv_names] at u2
   rcases u2 with h | ⟨r, h0, h1, h2, h3, h4⟩
   · exact .inl h
   · exact .inr ⟨r, h0, h1, h2, Nat.le_trans ((a2.trans b3).trans c3).next h3, h4⟩
end
end Go.Proofs.Ytginkdeicmdmaaa.W
