/-
  WHAT THE FUNCTIONS COME TO: each is read by the evaluator, printed, and told as a function of data, part 4 of 5 (no condition).
-/
import Derived.Test.YtginkdeicmdmaaaW3
import Derived.Test.YtginkdeicmdmaaaShelf
import Derived.WalkKit
import Derived.ProofKit
import Derived.OpenShut
import Derived.Carry
import Derived.ChangeMaps5
namespace Go.Proofs.Ytginkdeicmdmaaa.W
open Go.Proofs.Ytginkdeicmdmaaa.Ev Go.RowKit
theorem smallG_names (b : Bool) (l : List Nat) (n : Nat) : ∀ i, (smallG b l n i).map (·.1) = (List.range i).map ltr
 | 0 => rfl
 | i + 1 => by
  unfold smallG
  rw [List.map_append, smallG_names b l n i, List.range_succ, List.map_append]; rfl
theorem smallG_mem {b : Bool} {l : List Nat} {n : Nat} : ∀ {i : Nat} {g : Bs × List Bs}, g ∈ smallG b l n i → ∃ j, j < i ∧ g = (ltr j, refsS b n j (l.getD j 0))
 | 0, g, h => by cases h
 | i + 1, g, h => by
  unfold smallG at h
  rcases List.mem_append.1 h with h | h
  · obtain ⟨j, h1, h2⟩ := smallG_mem h
    exact ⟨j, by omega, h2⟩
  · simp at h; exact ⟨i, by omega, h⟩
theorem smallG_get (b : Bool) (l : List Nat) (n : Nat) {j : Nat} : ∀ {i : Nat}, j < i → (smallG b l n i)[j]? = some (ltr j, refsS b n j (l.getD j 0))
 | 0, h => by omega
 | i + 1, h => by
  unfold smallG
  by_cases hj : j < i
  · rw [List.getElem?_append_left (by rw [smallG_len]; exact hj), smallG_get b l n hj]
  · have : j = i := by omega
    subst this
    rw [List.getElem?_append_right (by rw [smallG_len]; exact Nat.le_refl _), smallG_len, Nat.sub_self]; rfl
structure Small (ps : List Pth) (b : Bool) (l : List Nat) (n : Nat) : Prop where
 g : gOf ps = smallG b l n n
 n14 : n ≤ 14
section
variable {ps : List Pth} {b : Bool} {l : List Nat} {n : Nat}
theorem Small.len (h : Small ps b l n) : ps.length = n := by rw [gOf_len h.g, smallG_len]
theorem Small.names (h : Small ps b l n) : names ps = (List.range n).map ltr := by
 rw [← smallG_names b l n n, ← h.g]
 unfold gOf W.names
 rw [List.map_map]; rfl
theorem Small.nd (h : Small ps b l n) : (W.names ps).Nodup := by
 have h14 := h.n14
 rw [h.names]
 unfold List.Nodup
 rw [List.pairwise_map]
 refine List.Pairwise.imp_of_mem (fun {x y} hx hy hlt e => ?_) List.pairwise_lt_range
 rw [List.mem_range] at hx hy
 have := ltr_inj (by omega) (by omega) e
 omega
theorem Small.get (h : Small ps b l n) {i : Nat} (hi : i < n) : ∃ p, ps[i]? = some p ∧ p.nm = ltr i ∧ p.refs = refsS b n i (l.getD i 0) := by
 have h1 := smallG_get b l n (j := i) (i := n) hi
 rw [← h.g] at h1
 unfold gOf at h1
 rw [List.getElem?_map] at h1
 cases hp : ps[i]? with
 | none => rw [hp] at h1; cases h1
 | some p =>
  rw [hp] at h1
  simp only [Option.map_some, oS, pM] at h1
  exact ⟨p, rfl, h1.1, h1.2⟩
theorem Small.mem (h : Small ps b l n) {p : Pth} (hp : p ∈ ps) : ∃ i, i < n ∧ p.nm = ltr i ∧ p.refs = refsS b n i (l.getD i 0) := by
 have : (p.nm, p.refs) ∈ gOf ps := by unfold gOf; exact List.mem_map.2 ⟨p, hp, rfl⟩
 rw [h.g] at this
 obtain ⟨j, h1, h2⟩ := smallG_mem this
 simp only [pM] at h2
 exact ⟨j, h1, h2.1, h2.2⟩
theorem mem_refsS {b : Bool} {n i x : Nat} {r : Bs} (hi : i < n) (h : r ∈ refsS b n i x) : ∃ k, k < n ∧ r = ltr k ∧ (b = true → k ≤ i) ∧ bit x k = true := by
 unfold refsS at h
 rw [List.mem_map] at h
 obtain ⟨k, h1, rfl⟩ := h
 rw [List.mem_filter, List.mem_range] at h1
 cases b with
 | false => exact ⟨k, by simpa using h1.1, rfl, by simp, h1.2⟩
 | true => exact ⟨k, by simp at h1; omega, rfl, fun _ => by simp at h1; omega, h1.2⟩
theorem refsS_len {b : Bool} {n i x : Nat} (hi : i < n) : (refsS b n i x).length ≤ n := by
 unfold refsS
 rw [List.length_map]
 refine Nat.le_trans (List.length_filter_le _ _) ?_
 rw [List.length_range]
 cases b <;> simp <;> omega
theorem Small.closed (h : Small ps b l n) {p : Pth} (hp : p ∈ ps) {r : Bs} (hr : r ∈ p.refs) : r ∈ W.names ps := by
 obtain ⟨i, h1, h2, h3⟩ := h.mem hp
 rw [h3] at hr
 obtain ⟨k, k1, rfl, _⟩ := mem_refsS h1 hr
 rw [h.names]
 exact List.mem_map.2 ⟨k, List.mem_range.2 k1, rfl⟩
theorem Small.fit (h : Small ps b l n) : Fit ps := by
 have h14 := h.n14
 refine ⟨by rw [h.len]; omega, fun p hp => ?_, fun p hp => ?_⟩
 · obtain ⟨i, _, h2, _⟩ := h.mem hp
   rw [h2]; show 1 < _; omega
 · obtain ⟨i, h1, _, h3⟩ := h.mem hp
   rw [h3]
   have := refsS_len (b := b) (x := l.getD i 0) h1
   omega
theorem Small.refs (h : Small ps b l n) : refsOf ps = ps := refsOf_id h.nd
theorem mem_names {ps : List Pth} {a : Bs} : a ∈ W.names ps ↔ ∃ p ∈ ps, p.nm = a := by unfold W.names; rw [List.mem_map]
end
section
variable {S T U : St}
theorem TLo.push3 (ho : S.on = false) {v : V} {l : List Bs} {N : Nat} (h : TLo S v l N) (hN : N ≤ S.next) (hl : l.length < 100000) (a : Bs) :
 ∃ y W v' U, bsP 9 1 1 (Go.Proofs.Ytginkdeicmdmaaa.Ev.one (sv [])) [(0, sv a)] S = some (y, W) ∧ apP 9 1 16 v y W = some (v', U) ∧ TLo U v' (l ++ [a]) N ∧ Grew (fun x => blkOf v = some x) S U ∧ ∀ r, blkOf v' = some r → S.next ≤ r := by
 obtain ⟨W, h1, h2, h3, h4⟩ := bsP_one ho 9 (Go.Proofs.Ytginkdeicmdmaaa.Ev.one (sv [])) (oneV_sv a)
 have on1 := h3.on.trans ho
 have hlm : (l ++ [a]).length = l.length + 1 := by rw [List.length_append]; rfl
 rcases h with ⟨rfl, rfl⟩ | ⟨r, rfl, hr, hr2, hr3, h0⟩
 · obtain ⟨U, k1, k2, k3, k4⟩ := ap1_first (B := 16) on1 h2 (by unfold maxCells; omega)
   exact ⟨_, W, _, U, h1, k1, .inr ⟨W.next, rfl, k2, by omega, by omega, by simp⟩, (h3.trans k3).mono fun _ _ h => h.elim, fun r hr => by cases hr; omega⟩
 · have hrow := hr.grew hr2 (fun h => h) h3
   obtain ⟨U, k1, k2, k3, k4⟩ := ap1_more (B := 16) on1 h2 hrow (by rw [rowOf_length]; unfold maxCells; omega) (by rw [rowOf_length]; unfold big; omega)
   rw [rowOf_length] at k1
   refine ⟨_, W, _, U, h1, k1, .inr ⟨W.next, by rw [hlm], ?_, by omega, by omega, by omega⟩, (h3.mono fun _ _ h => h.elim).trans (k3.mono fun x _ e => by subst e; rfl), fun r hr => by cases hr; omega⟩
   rw [rowOf_append]
   exact k2
theorem TLo.lt {v : V} {l : List Bs} {N r : Nat} (h : TLo S v l N) (hr : blkOf v = some r) : r < S.next := by
 rcases h with ⟨_, rfl⟩ | ⟨r', rfl, _, h2, _⟩
 · cases hr
 · cases hr; exact h2
theorem TLo.grewW {W : Nat → Prop} {v : V} {l : List Bs} {N : Nat} (h : TLo S v l N) (g : Grew W S U) (hw : ∀ r, blkOf v = some r → ¬ W r) : TLo U v l N := by
 rcases h with h | ⟨r, rfl, h1, h2, h3⟩
 · exact .inl h
 · exact .inr ⟨r, rfl, h1.grew h2 (hw r rfl) g, Nat.lt_of_lt_of_le h2 g.next, h3⟩
structure Two (S : St) (x y : V) (lx ly : List Bs) (N : Nat) : Prop where
 tx : TLo S x lx N
 ty : TLo S y ly N
 ne : ∀ r, blkOf x = some r → blkOf y ≠ some r
theorem Two.symm {x y : V} {lx ly : List Bs} {N : Nat} (h : Two S x y lx ly N) : Two S y x ly lx N := ⟨h.ty, h.tx, fun r h1 h2 => h.ne r h2 h1⟩
theorem Two.push (ho : S.on = false) {x y : V} {lx ly : List Bs} {N : Nat} (h : Two S x y lx ly N) (hN : N ≤ S.next) (hl : lx.length < 100000) (a : Bs) :
 ∃ y0 W x' U, bsP 9 1 1 (Go.Proofs.Ytginkdeicmdmaaa.Ev.one (sv [])) [(0, sv a)] S = some (y0, W) ∧ apP 9 1 16 x y0 W = some (x', U) ∧ Two U x' y (lx ++ [a]) ly N ∧ Grew (fun x => N ≤ x) S U := by
 obtain ⟨y0, W, x', U, h1, h2, h3, h4, h5⟩ := h.tx.push3 ho hN hl a
 refine ⟨y0, W, x', U, h1, h2, ⟨h3, h.ty.grewW h4 fun r hr hx => h.ne r hx hr, fun r hr hy => ?_⟩, h4.mono fun z _ hz => (h.tx.blk hz).1⟩
 have := h5 r hr
 have := h.ty.lt hy
 omega
theorem ld1_lg (ho : S.on = false) {b i : Nat} {v : V} (h : ld1 (.ptr b i) S = some (v, S)) (l : List LE) : ld1 (.ptr b i) (S.lg l) = some (v, S.lg (⟨b, i, i + 1, false⟩ :: l)) := by
 have h' : ld S b i = some (v, S) := h
 show ld (S.lg l) b i = _
 unfold ld at h' ⊢
 rw [show (S.lg l).heap = S.heap from rfl]
 split at h'
 · rename_i e esz n ro c hb
   cases hc : (Nat.blt i (esz * n) && Nat.blt (esz * n) big) with
   | false => rw [hc] at h'; cases h'
   | true =>
    rw [hc] at h'
    simp only [cond_true, oI, oS, pM] at h' ⊢
    obtain ⟨t, h1, w, h2, rfl, _⟩ := h'
    exact ⟨t, h1, w, h2, rfl, rfl⟩
 · cases h'
theorem TL.ldOn (ho : S.on = false) {v : V} {l : List Bs} (h : TL S v l) {i : Nat} {a : Bs} (ha : l[i]? = some a) (L : List LE) : ∃ p r o, ixP 1 v (.int .i64 (i : Int)) = some p ∧ ld1 p (S.lg L) = some (sv a, S.lg (⟨r, o, o + 1, false⟩ :: L)) := by
 obtain ⟨r, o, M, h1, h2, h3⟩ := h.ix ha
 exact ⟨_, r, o, h1, ld1_lg ho (show ld1 (.ptr r o) S = _ from h2.ld1 ho h3) L⟩
def Rd (L L' : List LE) : Prop := ∀ e ∈ L', e ∈ L ∨ e.w = false
theorem L13_on {m N : Nat} (ho : S.on = false) {v : V} {l : List Bs} (hl : TL S v l) (hlen : l.length < 1000000) (x : Bs) (nk : Ac → St → Rs) (ek : Nat → Ac → St → Rs) :
 ∀ (rest : List Bs) (i q : Nat) (L : List LE), l.drop i = rest → rest.length < q →
 ∃ L', L13_4 (ev E0 KD m) N nk ek q v (sv x) (.int .i64 (i : Int)) (S.lg L) = (if x ∈ rest then some (.ret (.bool true), S.lg L') else ek 0 (fr 18 []) (S.lg L')) ∧ Rd L L'
 | rest, i, 0, L, _, hq => by omega
 | [], i, q + 1, L, hi, hq => by
  refine ⟨L, ?_, fun e h => .inl h⟩
  rw [L13_4_eq, hl.len, oB]
  dsimp only
  rw [binV_ii, intsV_lss, dec_ge (drop_end hi), oB, ifK_bool, cond_false, if_neg (by simp)]
 | a :: rest, i, q + 1, L, hi, hq => by
  obtain ⟨hlt, hf, hrest, hmem⟩ := drop_at hi
  obtain ⟨p, r, o, p1, p2⟩ := hl.ldOn ho (show l[i]? = some a by rw [List.getElem?_eq_getElem hlt, hf]) L
  rw [L13_4_eq, hl.len, oB]
  dsimp only
  rw [binV_ii, intsV_lss, dec_lt hlt, oB, ifK_bool, cond_true, p1, oB, p2, oB]
  dsimp only
  rw [eqStr, oB, ifK_bool]
  by_cases h : a = x
  · rw [show (a == x) = true by simp [h], cond_true]
    refine ⟨_, by rw [if_pos (by simp [h])], fun e he => ?_⟩
    rcases List.mem_cons.1 he with rfl | he
    · exact .inr rfl
    · exact .inl he
  · rw [show (a == x) = false from beq_false_of_ne h, cond_false, binV_ii, intsV_add, wrap_succ (by omega), oB]
    obtain ⟨L', h1, h2⟩ := L13_on ho hl hlen x nk ek rest (i + 1) q (⟨r, o, o + 1, false⟩ :: L) hrest (by simp at hq; omega)
    refine ⟨L', ?_, fun e he => ?_⟩
    · rw [h1]
      by_cases h2 : x ∈ rest
      · rw [if_pos h2, if_pos (by simp [h2])]
      · rw [if_neg h2, if_neg (by simp [h2, Ne.symm h])]
    · rcases h2 e he with h3 | h3
      · rcases List.mem_cons.1 h3 with rfl | h3
        · exact .inr rfl
        · exact .inl h3
      · exact .inr h3
theorem has_on (m : Nat) (ho : S.on = false) {v : V} {l : List Bs} (hl : TL S v l) (hlen : l.length < 1000000) (x : Bs) : ∃ L', (ev E0 KD (m + 1)).f 13 [v, sv x] (S.lg []) = some (.ret (.bool (decide (x ∈ l))), S.lg L') ∧ ∀ e ∈ L', e.w = false := by
 obtain ⟨L', h1, h2⟩ := L13_on (m := m) (N := rounds) ho hl hlen x (R13_1 (ev E0 KD m) rounds (finN E0 (ev E0 KD m) Try.f13) noEx) (exB 0 (R13_1 (ev E0 KD m) rounds (finN E0 (ev E0 KD m) Try.f13) noEx) noEx) l 0 rounds [] rfl (by unfold rounds; omega)
 refine ⟨L', rd13 ?_, fun e he => (h2 e he).resolve_left (by simp)⟩
 show F13 (ev E0 KD m) rounds v (sv x) (S.lg []) = _
 rw [F13_eq, show (V.int .i64 0) = .int .i64 ((0 : Nat) : Int) from rfl, h1]
 by_cases h : x ∈ l
 · rw [if_pos h, decide_eq_true h]
 · rw [if_neg h, exB_same, R13_1_eq, decide_eq_false h]
theorem relog_same {T : St} (ho : S.on = false) (hT : T.on = false) (hl : T.log = S.log) (l : List LE) (ls : List (List LE)) : relog S (T.lg l) ls = T := by
 unfold relog
 rw [ho]
 cases T
 simp only at hT hl
 subst hT; subst hl
 rfl
theorem rds_of {logs : List (List LE)} (h : ∀ L ∈ logs, ∀ e ∈ L, e.w = false) : rds logs = true := by
 unfold rds
 rw [List.all_eq_true]
 intro L hL
 rw [List.all_eq_true]
 intro e he
 rw [h L hL e he]; rfl
end
end Go.Proofs.Ytginkdeicmdmaaa.W
namespace Go.Proofs.Ytginkdeicmdmaaa.W
open Go.Proofs.Ytginkdeicmdmaaa.Ev Go.RowKit
section
variable {S T U : St}
end
end Go.Proofs.Ytginkdeicmdmaaa.W
namespace Go.Proofs.Ytginkdeicmdmaaa.W
open Go.Proofs.Ytginkdeicmdmaaa.Ev Go.RowKit
section
variable {ps : List Pth} {b : Bool} {l : List Nat} {n : Nat}
end
section
variable {S T U : St}
theorem neqInt (a c : Nat) : binV E0 .neq 3 false false (.int .i64 (a : Int)) (.int .i64 (c : Int)) = some (.bool (!decide (a = c))) := by
 rw [binV_ii, intsV_neq]
 congr 3
 rw [decide_eq_decide]; omega
end
end Go.Proofs.Ytginkdeicmdmaaa.W
namespace Go.Proofs.Ytginkdeicmdmaaa.W
open Go.Proofs.Ytginkdeicmdmaaa.Ev Go.RowKit Go.Proofs
theorem sok44 : SortedOk Try.prog 44 [53, 54] 9 := sortedOk_of Try.sorted44 Try.sort52 rfl [53, 54] fun g hg => by
 simp only [List.mem_cons, List.not_mem_nil, or_false] at hg
 rcases hg with rfl | rfl
 · exact ⟨Try.keys45_ren, { Try.keys45 with }, rfl, rfl⟩
 · exact ⟨Try.keys47_ren, { Try.keys47 with }, rfl, rfl⟩
theorem okA : KnOk Try.prog E0 KA := knOk_nil.add (sorted_well sok44)
theorem okB : KnOk Try.prog E0 KB := okA.add closed_well
theorem glob0 : ∀ g, E0.glob.get g = none := fun _ => rfl
theorem works_runs : saysTrue ((ev E0 KB 400).f 14 [] s0) = true := by decide +kernel
theorem kn14 : KnWell Try.prog E0 14 kfTrue := by
 refine ⟨specKF_loc, fun w0 ρ s w args cargs e t hR hv hg => ?_⟩
 unfold kfTrue specKF at hg
 simp only at hg
 by_cases hx : ∃ x : Unit, ([] : List V) = args
 · rw [dif_pos hx] at hg
   simp only [oS, pM] at hg
   obtain ⟨rfl, rfl⟩ := hg
   obtain ⟨_, rfl⟩ := hx
   obtain ⟨l⟩ := cargs
   cases hv
   exact (closed_walk E0_ok okB glob0 works_runs w).mono fun ce w' ⟨h1, h2⟩ => ⟨ρ, .bool true, h1, Rho.le_refl ρ, .bool true, hR.grown h2⟩
 · rw [dif_neg hx] at hg; cases hg
theorem okD : KnOk Try.prog E0 KD := okB.add kn14
def frz (W : World) : Rho := ⟨fun _ => none, fun k => W.heap[k]?⟩
theorem relF (W : World) : Rel E0 (base0 W) (frz W) s0 W :=
 ⟨⟨rfl, rfl, rfl, Nat.le_refl _, fun _ _ => rfl⟩, fun _ _ => rfl, Nat.le_refl _, fun b o h => by simp [s0, Tr.get_nil] at h, fun b b' o o' cb sh sz sh' sz' h => by simp [s0, Tr.get_nil] at h, fun g b h => (by rw [glob0] at h; cases h), fun k o h => h, fun b o cb sh sz h => (by simp [s0, Tr.get_nil] at h), fun k o h _ => trivial⟩
end Go.Proofs.Ytginkdeicmdmaaa.W
namespace Go.Proofs.Ytginkdeicmdmaaa.W
open Go.Proofs.Ytginkdeicmdmaaa.Ev Go.RowKit
section
variable {S T U : St}
end
theorem u22 : Try.prog.underlying 22 = some (.slice 23) := by kernel_rfl
theorem u23 : Try.prog.underlying 23 = some (.int .u16) := by kernel_rfl
theorem c23 : Try.prog.cellsOf 23 = 1 := by kernel_rfl
theorem u16_nat {n : Int} (h : (Lit.int .u16 n).wf = true) : ∃ k : Nat, n = (k : Int) := by
 unfold Lit.wf at h
 simp only [Bool.and_eq_true, decide_eq_true_eq] at h
 have e1 : IntKind.u16.min = 0 := by decide
 rw [e1] at h
 exact ⟨n.toNat, by omega⟩
theorem mapM_range_some {α : Type} {f : Nat → Option α} : ∀ (n k : Nat) {r : List α}, ((List.range' k n).mapM f) = some r → r.length = n ∧ ∀ i, i < n → ∃ y, r[i]? = some y ∧ f (k + i) = some y
 | 0, k, r, h => by
  simp at h; subst h
  exact ⟨rfl, fun i hi => by omega⟩
 | n + 1, k, r, h => by
  rw [List.range'_succ, List.mapM_cons] at h
  simp only [Option.bind_eq_bind, oI, Option.pure_def, oS] at h
  obtain ⟨y, hy, r', hr', rfl⟩ := h
  obtain ⟨h1, h2⟩ := mapM_range_some n (k + 1) hr'
  refine ⟨by simp [h1], fun i hi => ?_⟩
  cases i with
  | zero => exact ⟨y, rfl, hy⟩
  | succ i =>
   obtain ⟨z, hz1, hz2⟩ := h2 i (by omega)
   exact ⟨z, by simpa using hz1, by rw [show k + (i + 1) = k + 1 + i by omega]; exact hz2⟩
theorem cells?_at {W : World} {a : Addr} {n : Nat} {cs : List Value} (h : W.cells? 0 a n = some cs) : cs.length = n ∧ ∀ i, i < n → ∃ y, cs[i]? = some y ∧ W.cell? (a.add i) = some y := by
 unfold World.cells? at h
 rw [if_pos (Nat.zero_le _), List.range_eq_range'] at h
 obtain ⟨h1, h2⟩ := mapM_range_some n 0 h
 exact ⟨h1, fun i hi => by
  obtain ⟨y, hy1, hy2⟩ := h2 i hi
  exact ⟨y, hy1, by rw [Nat.zero_add] at hy2; exact hy2⟩⟩
theorem add_eq {a : Addr} (h : a.spot = none) (n : Nat) : a.add n = ⟨a.block, a.off + n, none⟩ := by
 unfold Addr.add
 split
 · rename_i h0
   subst h0
   cases a
   simp only at h
   subst h
   rfl
 · rfl
theorem vrels_nums {ρ : Rho} : ∀ l : List Nat, VRels ρ (l.map fun n : Nat => V.int .u16 (n : Int)) (l.map fun c : Nat => Value.int .u16 (c : Int))
 | [] => .nil
 | _ :: l => .cons (.int _ _) (vrels_nums l)
theorem flat_nums (l : List Nat) : ((l.map fun c : Nat => Value.int .u16 (c : Int)).flatMap fun cv => cv.cells.toList) = l.map fun c : Nat => Value.int .u16 (c : Int) := by
 induction l with
 | nil => rfl
 | cons c l ih => rw [List.map_cons, List.flatMap_cons, ih]; rfl
theorem pick_nums {P : Nat → Nat → Prop} : ∀ (n : Nat), (∀ i, i < n → ∃ b, P i b) → ∃ l : List Nat, l.length = n ∧ ∀ i b, l[i]? = some b → P i b
 | 0, _ => ⟨[], rfl, fun i b h => by simp at h⟩
 | n + 1, h => by
  obtain ⟨l, h1, h2⟩ := pick_nums n fun i hi => h i (by omega)
  obtain ⟨b, hb⟩ := h n (by omega)
  refine ⟨l ++ [b], by simp [h1], fun i c hc => ?_⟩
  by_cases hi : i < n
  · rw [List.getElem?_append_left (by omega)] at hc
    exact h2 i c hc
  · have hi2 : i = n := by
     have := (List.getElem?_eq_some_iff.1 hc).1
     simp [h1] at this
     omega
    subst hi2
    rw [List.getElem?_append_right (by omega)] at hc
    simp [h1] at hc
    subst hc
    exact hb
theorem nums_of_trod {H : Type} {enc : TypeId × Value → H} {W : World} {fuel : Nat} {cs : List Value} {x : DataW H × List MemPlace} (h : DataW.trod enc Try.prog W 0 (fun _ => true) true fuel 22 cs = some x) : ∃ (cv : Value) (v : V) (l : List Nat), cs = [cv] ∧ VRel (frz W) v cv ∧ U16V v l ∧ ∃ ad len cap, cv = .slice ad len cap := by
 rcases DataW.trod_slice u22 h with ⟨hv, _⟩ | ⟨a, len, cap, elems, rest, m, hm, hv, _, _, hcap, hmax, hel, hat, _⟩
 · exact ⟨_, .nilslice, [], hv, .nilslice, .inl ⟨rfl, .inl rfl⟩, _, _, _, rfl⟩
 · by_cases h0 : len = 0
   · subst h0
     exact ⟨_, .eslice, [], hv, .eslice a cap, .inl ⟨rfl, .inr rfl⟩, _, _, _, rfl⟩
   · have hAt : ∀ i, i < len → ∃ b : Nat, W.cell? (a.add i) = some (.int .u16 (b : Int)) := fun i hi => by
      have := hat i hi
      rw [c23, List.getElem?_eq_getElem (by omega), oI] at this
      obtain ⟨cells, h1, h2⟩ := this
      obtain ⟨n, hn, _, hw⟩ := DataW.trod_int u23 h2
      obtain ⟨b, rfl⟩ := u16_nat hw
      obtain ⟨_, h3⟩ := cells?_at h1
      obtain ⟨y, hy1, hy2⟩ := h3 0 (by omega)
      rw [hn] at hy1
      simp only [List.getElem?_cons_zero, oS] at hy1
      subst hy1
      rw [Nat.mul_one, show (a.add i).add 0 = a.add i from rfl] at hy2
      exact ⟨b, hy2⟩
     obtain ⟨b0, hb0⟩ := hAt 0 (by omega)
     have hspot : a.spot = none ∧ ∃ bg ty fr, W.heap[a.block]? = some (.cells bg ty fr) := by
      rw [show a.add 0 = a from rfl] at hb0
      unfold World.cell? at hb0
      split at hb0
      · rename_i bg ty fr hh
        split at hb0
        · cases hb0
        · rename_i hsp
          exact ⟨by simpa using hsp, bg, ty, fr, hh⟩
      · cases hb0
     obtain ⟨hsp, bg, ty, fr, hheap⟩ := hspot
     obtain ⟨l, l1, l2⟩ := pick_nums (P := fun i b => bg[a.off + i]? = some (.int .u16 (b : Int))) len fun i hi => by
      obtain ⟨b, hb⟩ := hAt i hi
      rw [add_eq hsp] at hb
      unfold World.cell? at hb
      simp only at hb
      rw [hheap] at hb
      exact ⟨b, hb⟩
     refine ⟨_, .list 1 (l.map fun n : Nat => V.int .u16 (n : Int)), l, hv, ?_, .inr rfl, _, _, _, rfl⟩
     refine .list (vrels_nums l) (fun v hv => ?_) (by rw [List.length_map]; exact l1) hcap fun _ => ⟨fun cv hcv => ?_, hsp, bg, ty, fr, hheap, fun j c hj => ?_⟩
     · rw [List.mem_map] at hv
       obtain ⟨c, _, rfl⟩ := hv
       rfl
     · rw [List.mem_map] at hcv
       obtain ⟨c, _, rfl⟩ := hcv
       rfl
     · rw [flat_nums, List.getElem?_map, Option.map_eq_some_iff] at hj
       obtain ⟨b, hb, rfl⟩ := hj
       exact l2 j b hb
end Go.Proofs.Ytginkdeicmdmaaa.W
namespace Go.Proofs.Ytginkdeicmdmaaa.W
open Go.Proofs.Ytginkdeicmdmaaa.Ev Go.RowKit
section
variable {F : Fz.Fz}
theorem kfSorted_fz (kfs : List FuncId) (et : TypeId) (args : List V) : Fz.LocP F fun s => (kfSorted kfs et).run args s := by
 unfold kfSorted
 dsimp only
 split
 · refine Fz.Loc.cond ?_ Fz.Loc.none
   refine Fz.Loc.bind (Fz.loc_ld _ _) fun m => ?_
   unfold sortedK
   cases m <;> try exact Fz.Loc.none
   case nilmap => exact Fz.LocP.ret _
   case map r =>
    refine Fz.Loc.bindGet r (fun _ _ _ _ _ _ => rfl) fun hb o => ?_
    cases o <;> try exact Fz.Loc.none
    refine Fz.Loc.opt fun l => ?_
    cases l with
    | nil => exact Fz.LocP.ret _
    | cons x l => exact Fz.LocP.nw (fun k => En.ret (V.oslice k 0 (l.length + 1) 1)) fun _ => _
 · exact Fz.Loc.none
theorem fz_lookAll (es : List ME) (v : V) : ∀ (k i : Nat), Fz.LocP F fun s => lookAll es v k i s
 | 0, _ => Fz.LocP.ret _
 | k + 1, i => by
  unfold lookAll
  refine Fz.Loc.opt fun p => ?_
  cases p <;> try exact Fz.Loc.none
  refine Fz.Loc.bind (Fz.loc_ld _ _) fun q => ?_
  dsimp only
  refine Fz.Loc.cond (Fz.Loc.opt fun o => ?_) Fz.Loc.none
  cases o with
  | none => exact Fz.LocP.ret _
  | some _ => exact fz_lookAll es v k (i + 1)
theorem fz_rowIn (es : List ME) (v : V) : Fz.LocP F fun s => rowIn es v s := by
 unfold rowIn
 cases v <;> first | exact Fz.Loc.none | (refine Fz.Loc.opt fun n => Fz.Loc.cond ?_ Fz.Loc.none; exact fz_lookAll es _ n 0)
theorem fz_closedAll (es : List ME) : ∀ l, Fz.LocP F fun s => closedAll es l s
 | [] => Fz.LocP.ret _
 | e :: l => by
  unfold closedAll
  refine Fz.Loc.bind (fz_rowIn es e.v) fun p => ?_
  dsimp only
  refine Fz.Loc.bind (fz_closedAll es l) fun q => ?_
  exact Fz.LocP.ret (p && q)
theorem fz_closedK (v : V) : Fz.LocP F fun s => closedK v s := by
 unfold closedK
 cases v <;> try exact Fz.Loc.none
 refine Fz.Loc.bindGet _ (fun _ _ _ _ _ _ => rfl) fun hb o => ?_
 cases o <;> try exact Fz.Loc.none
 refine Fz.Loc.cond (Fz.Loc.bind (Fz.LocP.nw (fun _ => ()) fun _ => .dead) fun _ => ?_) Fz.Loc.none
 dsimp only
 refine Fz.Loc.bind (fz_closedAll _ _) fun z => ?_
 exact Fz.LocP.ret (En.ret (.bool z))
theorem kfClosed_fz (args : List V) : Fz.LocP F fun s => kfClosed.run args s := by
 unfold kfClosed
 dsimp only
 split
 · rename_i l
   refine Fz.Loc.bind ((Fz.loc_ev E0 Fz.knLoc_nil 5).1 28 [l]) fun e => ?_
   cases e with
   | ret v => exact fz_closedK v
   | pan v => exact Fz.Loc.none
 · exact Fz.Loc.none
theorem fzD : Fz.KnLoc F KD := (((Fz.knLoc_nil).add 44 fun _ => kfSorted_fz _ _ _).add 12 fun _ => kfClosed_fz _).add 14 fun _ => Fz.specKF_fz _
end
section
variable {S T U : St}
noncomputable def icy (S : St) (b e z n : Nat) (c : Tr (Tr V)) : St := S.put b (.cells e z n true c)
theorem icy_same {b e z n : Nat} {c : Tr (Tr V)} (h : S.heap.get b = some (.cells e z n false c)) (hb : b < S.next) : Fz.Same ⟨b, e, z, n, c⟩ (icy S b e z n c) S :=
 ⟨rfl, fun x hx => by show S.heap.get x = (S.put b _).heap.get x; rw [put_get, if_neg hx], by show (S.put b _).heap.get b = _; rw [put_get, if_pos rfl], h, hb⟩
theorem TL.icy {v : V} {l : List Bs} (h : TL S v l) {b e z n : Nat} {c : Tr (Tr V)} {m : List (Tr V)} (hb : RowAt S b e z m) (he : e ≠ 9) : TL (icy S b e z n c) v l :=
 h.grew (fun r _ _ hr hx => by subst hx; exact he (row_ne hb hr)) (grew_put (s := S) b _)
theorem PL.icy {v : V} {l : List Pth} (h : PL S v l) {b : Nat} {c : Tr (Tr V)} (hv : v = .oslice b 0 l.length 4) (hr : RowAt S b 28 4 (l.map treeP)) (hc : S.heap.get b = some (.cells 28 4 (l.map treeP).length false c)) (hc2 : ∀ (i : Nat) t, (l.map treeP)[i]? = some t → c.get i = some t) : PL (icy S b 28 4 (l.map treeP).length c) v l := by
 refine ⟨?_, fun p hp => (h.2 p hp).icy hr (by decide)⟩
 rcases h.1 with h | ⟨r, rfl, h1, h2, h3⟩
 · exact .inl h
 · cases hv
   exact .inr ⟨b, rfl, ⟨hr.pos, hr.fit, true, c, by show (S.put b _).heap.get b = _; rw [put_get, if_pos rfl], hc2⟩, h2, h3⟩
theorem meet_ne {e f : LE} (h : e.b ≠ f.b) : meet e f = false := by
 unfold meet
 rw [show Nat.beq e.b f.b = false from by rw [Bool.eq_false_iff]; exact fun hb => h (Nat.eq_of_beq_eq_true hb)]; rfl
theorem meet_or {e f : LE} (h : e.b ≠ f.b ∨ (e.w = false ∧ f.w = false)) : meet e f = false := by
 rcases h with h | ⟨h1, h2⟩
 · exact meet_ne h
 · unfold meet
   rw [h1, h2]; cases Nat.beq e.b f.b <;> rfl
theorem clash1_or {e : LE} : ∀ {l : List LE}, (∀ f ∈ l, e.b ≠ f.b ∨ (e.w = false ∧ f.w = false)) → clash1 e l = false
 | [], _ => rfl
 | f :: l, h => by
  unfold clash1
  rw [meet_or (h f (List.mem_cons_self ..))]
  exact clash1_or fun g hg => h g (List.mem_cons_of_mem _ hg)
theorem clash_or : ∀ {a b : List LE}, (∀ e ∈ a, ∀ f ∈ b, e.b ≠ f.b ∨ (e.w = false ∧ f.w = false)) → clash a b = false
 | [], _, _ => rfl
 | e :: a, b, h => by
  unfold clash
  rw [clash1_or (h e (List.mem_cons_self ..))]
  exact clash_or fun g hg => h g (List.mem_cons_of_mem _ hg)
theorem pairs_one {logs : List (List LE)} {i j b : Nat} {rest : List (Nat × List Nat)} (h1 : ∀ e ∈ logOf i logs, e.w = false ∨ e.b ≠ b) (h2 : ∀ f ∈ logOf j logs, f.w = false ∧ f.b = b) (h3 : pairsOk logs rest = true) : pairsOk logs ((i, [j]) :: rest) = true := by
 unfold pairsOk
 have : clashAny (logOf i logs) logs [j] = false := by
  unfold clashAny
  rw [clash_or fun e he f hf => ?_]
  · rfl
  · obtain ⟨f1, f2⟩ := h2 f hf
    rcases h1 e he with h | h
    · exact .inr ⟨h, f1⟩
    · exact .inl (by rw [f2]; exact h)
 rw [this]
 exact h3
theorem relog_any (ho : S.on = false) (U : St) (l : List LE) (ls : List (List LE)) : ∃ U', relog S (U.lg l) ls = U' ∧ U'.heap = U.heap ∧ U'.next = U.next ∧ U'.on = false := by
 refine ⟨_, rfl, ?_, ?_, ?_⟩ <;> (unfold relog; rw [ho]; rfl)
theorem Grew.same {W : Nat → Prop} {a b c : St} (h : Grew W a b) (h1 : c.heap = b.heap) (h2 : c.next = b.next) (h3 : c.on = b.on) : Grew W a c := ⟨by rw [h2]; exact h.next, h3.trans h.on, fun x hx hw => by rw [h1]; exact h.keep x hx hw⟩
end
end Go.Proofs.Ytginkdeicmdmaaa.W
namespace Go.Proofs.Ytginkdeicmdmaaa.W
open Go.Proofs.Ytginkdeicmdmaaa.Ev Go.RowKit
section
variable {S T U : St}
structure Rowed (S : St) (v : V) (l : List Pth) (b : Nat) : Prop where
 pl : PL S v l
 v : v = .oslice b 0 l.length 4
 row : RowAt S b 28 4 (l.map treeP)
 lt : b < S.next
theorem Rowed.grew {v : V} {l : List Pth} {b : Nat} (h : Rowed S v l b) (g : Grew (fun _ => False) S U) : Rowed U v l b := ⟨h.pl.grew g, h.v, h.row.grew h.lt (fun h => h) g, Nat.lt_of_lt_of_le h.lt g.next⟩
theorem Rowed.ix {v : V} {l : List Pth} {b : Nat} (h : Rowed S v l b) {i : Nat} (hi : i < l.length) : ixP 4 v (.int .i64 (i : Int)) = some (.ptr b (i * 4)) := by
 rw [h.v]
 show (bif Nat.blt i l.length then some (V.ptr b (0 + i * 4)) else none) = _
 rw [blt_true.2 hi, Nat.zero_add]; rfl
theorem rowed_of {v : V} {l : List Pth} {N : Nat} (h : PLo S v l N) (h0 : 0 < l.length) : ∃ b, Rowed S v l b := by
 rcases h.1.1 with ⟨rfl, _⟩ | ⟨r, rfl, h1, h2, h3⟩
 · cases h0
 · exact ⟨r, h.1, rfl, (h.2 r rfl).2, h2⟩
theorem lglg (S : St) (L M : List LE) : (S.lg L).lg M = S.lg M := rfl
theorem ons (S : St) : onS S = S.lg [] := rfl
end
end Go.Proofs.Ytginkdeicmdmaaa.W
namespace Go.Proofs.Ytginkdeicmdmaaa.W
open Go.Proofs.Ytginkdeicmdmaaa.Ev Go.RowKit
theorem lkP_nd {p : Pth} : ∀ {l : List Pth}, (W.names l).Nodup → p ∈ l → lkP p.nm l = some p
 | [], _, h => by cases h
 | q :: l, hn, h => by
  have hn' : (q.nm :: W.names l).Nodup := hn
  rw [List.nodup_cons] at hn'
  unfold lkP
  rcases List.mem_cons.1 h with rfl | h
  · rw [if_pos rfl]
  · rw [if_neg (fun e => hn'.1 (by rw [← e]; exact mem_names.2 ⟨p, h, rfl⟩))]
    exact lkP_nd hn'.2 h
section
variable {ps : List Pth} {b : Bool} {l : List Nat} {n : Nat}
theorem Fit.filter (h : Fit ps) (f : Pth → Bool) : Fit (ps.filter f) :=
 ⟨Nat.lt_of_le_of_lt (List.length_filter_le _ _) h.len, fun p hp => h.nm p (List.mem_filter.1 hp).1, fun p hp => h.refs p (List.mem_filter.1 hp).1⟩
end
section
variable {S T U : St}
end
end Go.Proofs.Ytginkdeicmdmaaa.W
namespace Go.Proofs.Ytginkdeicmdmaaa.W
open Go.Proofs.Ytginkdeicmdmaaa.Ev Go.RowKit
section
variable {S T U : St}
end
end Go.Proofs.Ytginkdeicmdmaaa.W
namespace Go.Proofs.Ytginkdeicmdmaaa.W
open Go.Proofs.Ytginkdeicmdmaaa.Ev Go.RowKit
theorem rd36 {n : Nat} {args : List V} {s : St} {r : En × St} (e : runF E0 (ev E0 KD n) rounds Try.f36 B36 args s = some r) : (ev E0 KD (n + 1)).f 36 args s = some r := ev_read (c := C36) (d := B36) (by kernel_rfl) (by kernel_rfl) (annot_isOf C36 _ (by kernel_rfl)) rfl e
theorem rd37 {n : Nat} {args : List V} {s : St} {r : En × St} (e : runF E0 (ev E0 KD n) rounds Try.f37 B37 args s = some r) : (ev E0 KD (n + 1)).f 37 args s = some r := ev_read (c := C37) (d := B37) (by kernel_rfl) (by kernel_rfl) (annot_isOf C37 _ (by kernel_rfl)) rfl e
theorem rd38 {n : Nat} {args : List V} {s : St} {r : En × St} (e : runF E0 (ev E0 KD n) rounds Try.f38 B38 args s = some r) : (ev E0 KD (n + 1)).f 38 args s = some r := ev_read (c := C38) (d := B38) (by kernel_rfl) (by kernel_rfl) (annot_isOf C38 _ (by kernel_rfl)) rfl e
theorem rd39 {n : Nat} {args : List V} {s : St} {r : En × St} (e : runF E0 (ev E0 KD n) rounds Try.f39 B39 args s = some r) : (ev E0 KD (n + 1)).f 39 args s = some r := ev_read (c := C39) (d := B39) (by kernel_rfl) (by kernel_rfl) (annot_isOf C39 _ (by kernel_rfl)) rfl e
theorem rd40 {n : Nat} {args : List V} {s : St} {r : En × St} (e : runF E0 (ev E0 KD n) rounds Try.f40 B40 args s = some r) : (ev E0 KD (n + 1)).f 40 args s = some r := ev_read (c := C40) (d := B40) (by kernel_rfl) (by kernel_rfl) (annot_isOf C40 _ (by kernel_rfl)) rfl e
theorem rd42 {n : Nat} {args : List V} {s : St} {r : En × St} (e : runF E0 (ev E0 KD n) rounds Try.f42 B42 args s = some r) : (ev E0 KD (n + 1)).f 42 args s = some r := ev_read (c := C42) (d := B42) (by kernel_rfl) (by kernel_rfl) (annot_isOf C42 _ (by kernel_rfl)) rfl e
theorem rd43 {n : Nat} {args : List V} {s : St} {r : En × St} (e : runF E0 (ev E0 KD n) rounds Try.f43 B43 args s = some r) : (ev E0 KD (n + 1)).f 43 args s = some r := ev_read (c := C43) (d := B43) (by kernel_rfl) (by kernel_rfl) (annot_isOf C43 _ (by kernel_rfl)) rfl e
theorem rd49 {n : Nat} {args : List V} {s : St} {r : En × St} (e : runF E0 (ev E0 KD n) rounds Try.f49 B49 args s = some r) : (ev E0 KD (n + 1)).f 49 args s = some r := ev_read (c := C49) (d := B49) (by kernel_rfl) (by kernel_rfl) (annot_isOf C49 _ (by kernel_rfl)) rfl e
theorem rd50 {n : Nat} {args : List V} {s : St} {r : En × St} (e : runF E0 (ev E0 KD n) rounds Try.f50 B50 args s = some r) : (ev E0 KD (n + 1)).f 50 args s = some r := ev_read (c := C50) (d := B50) (by kernel_rfl) (by kernel_rfl) (annot_isOf C50 _ (by kernel_rfl)) rfl e
theorem rd21 {n : Nat} {args : List V} {s : St} {r : En × St} (e : runF E0 (ev E0 KD n) rounds Try.f21 B21 args s = some r) : (ev E0 KD (n + 1)).f 21 args s = some r := ev_read (c := C21) (d := B21) (by kernel_rfl) (by kernel_rfl) (annot_isOf C21 _ (by kernel_rfl)) rfl e
theorem rd23 {n : Nat} {args : List V} {s : St} {r : En × St} (e : runF E0 (ev E0 KD n) rounds Try.f23 B23 args s = some r) : (ev E0 KD (n + 1)).f 23 args s = some r := ev_read (c := C23) (d := B23) (by kernel_rfl) (by kernel_rfl) (annot_isOf C23 _ (by kernel_rfl)) rfl e
theorem rd6 {n : Nat} {args : List V} {s : St} {r : En × St} (e : runF E0 (ev E0 KD n) rounds Try.f6 B6 args s = some r) : (ev E0 KD (n + 1)).f 6 args s = some r := ev_read (c := C6) (d := B6) (by kernel_rfl) (by kernel_rfl) (annot_isOf C6 _ (by kernel_rfl)) rfl e
def refsAt (ps : List Pth) (k : Bs) : List Bs := match lkP k ps with
 | some q => q.refs
 | none => []
section
variable {S T U : St}
theorem geq0 (n : Int) : binV E0 .geq 3 false true (.int .i64 n) (.int .i64 0) = some (.bool (decide (0 ≤ n))) := by rw [binV_ii, intsV_geq]
theorem L50_spec {m N : Nat} (ho : S.on = false) {v : V} {l : List Bs} (hl : TL S v l) (hlen : l.length < 1000000) (x : Bs) (nk : Ac → St → Rs) (ek : Nat → Ac → St → Rs) (hek : ek 0 (fr 19 []) S = some (.ret (.int .i64 (-1)), S)) :
 ∀ (rest : List Bs) (i q : Nat), l.drop i = rest → rest.length < q →
 ∃ j : Int, L50_6 (ev E0 KD m) N nk ek q v (sv x) (.int .i64 (l.length : Int)) (.int .i64 (i : Int)) S = some (.ret (.int .i64 j), S) ∧ (0 ≤ j ↔ x ∈ rest)
 | rest, i, 0, _, hq => by omega
 | [], i, q + 1, hi, hq => by
  refine ⟨-1, ?_, by simp⟩
  rw [L50_6_eq, binV_ii, intsV_lss, dec_ge (drop_end hi), oB, ifK_bool, cond_false, hek]
 | a :: rest, i, q + 1, hi, hq => by
  obtain ⟨hlt, hf, hrest, hmem⟩ := drop_at hi
  obtain ⟨p, p1, p2⟩ := hl.ld ho (show l[i]? = some a by rw [List.getElem?_eq_getElem hlt, hf])
  rw [L50_6_eq, binV_ii, intsV_lss, dec_lt hlt, oB, ifK_bool, cond_true, p1, oB, p2, oB]
  dsimp only
  rw [eqStr, oB, ifK_bool]
  by_cases h : x = a
  · rw [show (x == a) = true by simp [h], cond_true]
    exact ⟨_, rfl, by constructor <;> intro _ <;> first | omega | simp [h]⟩
  · rw [show (x == a) = false from beq_false_of_ne h, cond_false, binV_ii, intsV_add, wrap_succ (by omega), oB]
    obtain ⟨j, j1, j2⟩ := L50_spec (m := m) (N := N) ho hl hlen x nk ek hek rest (i + 1) q hrest (by simp at hq; omega)
    exact ⟨j, j1, by rw [j2]; simp [h]⟩
theorem contains_run (m : Nat) (ho : S.on = false) {v : V} {l : List Bs} (hl : TL S v l) (hlen : l.length < 1000000) (x : Bs) : (ev E0 KD (m + 2)).f 43 [v, sv x] S = some (.ret (.bool (decide (x ∈ l))), S) := by
 obtain ⟨j, j1, j2⟩ := L50_spec (m := m) (N := rounds) ho hl hlen x (R50_1 (ev E0 KD m) rounds (finN E0 (ev E0 KD m) Try.f50) noEx) (exB 0 (R50_1 (ev E0 KD m) rounds (finN E0 (ev E0 KD m) Try.f50) noEx) noEx) (by rw [exB_same, R50_1_eq]) l 0 rounds rfl (by unfold rounds; omega)
 have h50 : (ev E0 KD (m + 1)).f 50 [v, sv x] S = some (.ret (.int .i64 j), S) := rd50 (by
  show F50 (ev E0 KD m) rounds v (sv x) S = _
  rw [F50_eq, hl.len, oB]
  exact j1)
 refine rd43 ?_
 show F43 (ev E0 KD (m + 1)) rounds v (sv x) S = _
 rw [F43_eq, h50, callP_ret, geq0, oB]
 congr 4
 rw [decide_eq_decide]; exact j2
theorem L49_spec {m N : Nat} (ho : S.on = false) {v fv : V} {l : List Bs} {f : Bs → Bool} (hl : TL S v l) (hlen : l.length < 1000000) (hf : ∀ k ∈ l, callK E0 (ev E0 KD m) fv [sv k] S = some (.ret (.bool (f k)), S)) (nk : Ac → St → Rs) (ek : Nat → Ac → St → Rs) (hek : ek 0 (fr 19 []) S = some (.ret (.int .i64 (-1)), S)) :
 ∀ (rest : List Bs) (i q : Nat), l.drop i = rest → rest.length < q →
 ∃ j : Int, L49_6 (ev E0 KD m) N nk ek q v fv (.int .i64 (l.length : Int)) (.int .i64 (i : Int)) S = some (.ret (.int .i64 j), S) ∧ (0 ≤ j ↔ rest.any f = true)
 | rest, i, 0, _, hq => by omega
 | [], i, q + 1, hi, hq => by
  refine ⟨-1, ?_, by simp⟩
  rw [L49_6_eq, binV_ii, intsV_lss, dec_ge (drop_end hi), oB, ifK_bool, cond_false, hek]
 | a :: rest, i, q + 1, hi, hq => by
  obtain ⟨hlt, hf', hrest, hmem⟩ := drop_at hi
  obtain ⟨p, p1, p2⟩ := hl.ld ho (show l[i]? = some a by rw [List.getElem?_eq_getElem hlt, hf'])
  rw [L49_6_eq, binV_ii, intsV_lss, dec_lt hlt, oB, ifK_bool, cond_true, p1, oB, p2, oB]
  dsimp only
  rw [hf a hmem, callP_ret, ifK_bool, List.any_cons]
  cases h : f a with
  | true =>
   rw [cond_true, Bool.true_or]
   exact ⟨_, rfl, by constructor <;> intro _ <;> first | rfl | omega⟩
  | false =>
   rw [cond_false, binV_ii, intsV_add, wrap_succ (by omega), oB, Bool.false_or]
   exact L49_spec ho hl hlen hf nk ek hek rest (i + 1) q hrest (by simp at hq; omega)
theorem containsF_run (m : Nat) (ho : S.on = false) {v fv : V} {l : List Bs} {f : Bs → Bool} (hl : TL S v l) (hlen : l.length < 1000000) (hf : ∀ k ∈ l, callK E0 (ev E0 KD m) fv [sv k] S = some (.ret (.bool (f k)), S)) : (ev E0 KD (m + 2)).f 38 [v, fv] S = some (.ret (.bool (l.any f)), S) := by
 obtain ⟨j, j1, j2⟩ := L49_spec (m := m) (N := rounds) ho hl hlen hf (R49_1 (ev E0 KD m) rounds (finN E0 (ev E0 KD m) Try.f49) noEx) (exB 0 (R49_1 (ev E0 KD m) rounds (finN E0 (ev E0 KD m) Try.f49) noEx) noEx) (by rw [exB_same, R49_1_eq]) l 0 rounds rfl (by unfold rounds; omega)
 have h49 : (ev E0 KD (m + 1)).f 49 [v, fv] S = some (.ret (.int .i64 j), S) := rd49 (by
  show F49 (ev E0 KD m) rounds v fv S = _
  rw [F49_eq, hl.len, oB]
  exact j1)
 refine rd38 ?_
 show F38 (ev E0 KD (m + 1)) rounds v fv S = _
 rw [F38_eq, h49, callP_ret, geq0, oB]
 congr 4
 rw [Bool.eq_iff_iff, decide_eq_true_eq]; exact j2
theorem look_row (ho : S.on = false) {r : Nat} {kv : List (Bs × V)} (h : MapS S r kv) (a : Bs) :
 lookupV E0 48 (.map r) (sv a) false S = some ((lkS a kv).getD .nilslice, S) := by
 obtain ⟨es, c, h1, h2, _⟩ := h
 unfold lookupV
 rw [und48, oB]
 simp only
 rw [und9, oB]
 simp only [sv, keyOk, cond_true]
 rw [getO_off ho h1, oB]
 simp only
 rw [oB]
 dsimp only
 have hm := mfind_str a kv es 0 h2
 unfold sv at hm
 rw [hm, oB]
 cases lkS a kv with
 | none => simp only [Option.map_none]; rw [zero26]; rfl
 | some v => rfl
theorem row_tl {ps : List Pth} (hrow : ∀ p ∈ ps, TL S p.rv p.refs) (k : Bs) : TL S ((lkS k (ps.map Pth.kv)).getD .nilslice) (refsAt ps k) := by
 rw [lkS_kv]
 unfold refsAt
 cases h : lkP k ps with
 | none => exact .nil
 | some q => exact hrow q (lkP_mem h).1
theorem refsAt_len {ps : List Pth} (h : ∀ p ∈ ps, p.refs.length < 1000) (k : Bs) : (refsAt ps k).length < 1000 := by
 unfold refsAt
 cases hq : lkP k ps with
 | none => decide
 | some q => exact h q (lkP_mem hq).1
def referL (l : List Pth) (path : Bs) : List Bs := (sortB (names (refsOf l))).filter fun k => !(k == path) && decide (path ∈ refsAt (refsOf l) k)
theorem referrers_run {d : Nat} (ho : S.on = false) {v : V} {l : List Pth} (hp : PL S v l) (hF : Fit l) (path : Bs) :
 ∃ w U, (ev E0 KD (d + 5)).f 23 [v, sv path] S = some (.ret w, U) ∧ TLo U w (referL l path) S.next ∧ Grew (fun _ => False) S U := by
 have hF1 := hF.len
 obtain ⟨A, a1, a2, a3, a4⟩ := box_one ho 9 (oneV_sv path)
 have onA := a3.on.trans ho
 obtain ⟨B, m, b1, b2, b3, b4, b5⟩ := refs_run (d + 3) onA (hp.grew a3) (by omega)
 have onB := b2.on.trans onA
 obtain ⟨C, c1, c2, c3, c4⟩ := var_one onB 48 (Go.Proofs.Ytginkdeicmdmaaa.Ev.one .nilmap) (v := .map m) ⟨rfl, rfl, rfl, rfl⟩
 have onC := c3.on.trans onB
 have gB := a3.trans b2
 have gC := gB.trans c3
 have hMC := b5.grew b4 (fun h => h) c3
 have hlen := refsOf_len l
 have l1 : ld1 (.ptr B.next 0) C = some (.map m, C) := Bx.ldv onC c2 big1 rfl
 have hbC := (a2.grew (by omega) (fun h => h) b2).grew (show S.next < B.next by have := b2.next; omega) (fun h => h) c3
 have hc : ∀ U, Grew (fun _ => False) C U → ∀ k ∈ ((refsOf l).map Pth.kv).map (·.1), ∃ U', callK E0 (ev E0 KD (d + 3)) (.fn (.func 42) [] [.ptr S.next 0, .ptr B.next 0]) [sv k] U = some (.ret (.bool (!(k == path) && decide (path ∈ refsAt (refsOf l) k))), U') ∧ Grew (fun _ => False) U U' := fun U g k _ => by
  refine ⟨U, ?_, Grew.refl _ _⟩
  have onU := g.on.trans onC
  have hx := hbC.grew (by have := b2.next; omega) (fun h => h) g
  have hy := c2.grew (by omega) (fun h => h) g
  have hm2 := hMC.grew (by omega) (fun h => h) g
  have q1 : ld1 (.ptr S.next 0) U = some (sv path, U) := Bx.ldv onU hx big1 rfl
  have q2 : ld1 (.ptr B.next 0) U = some (.map m, U) := Bx.ldv onU hy big1 rfl
  have hrow : ∀ p ∈ refsOf l, TL U p.rv p.refs := fun p hq => ((hp.2 p (refsOf_mem hq)).grew0 gC).grew0 g
  rw [callK_fn (ext_none (by decide)) (by kernel_rfl)]
  refine rd42 ?_
  show F42 (ev E0 KD (d + 2)) rounds (sv k) (.ptr S.next 0) (.ptr B.next 0) U = _
  rw [F42_eq, q1, oB]
  dsimp only
  rw [neStr, oB]
  cases hkp : (k == path) with
  | true => rfl
  | false =>
   rw [Bool.not_false]
   simp only [gTT, oB, cond_true]
   rw [q2, oB]
   dsimp only
   rw [look_row onU hm2, oB]
   dsimp only
   rw [q1, oB]
   dsimp only
   rw [contains_run d onU (row_tl hrow k) (by have := refsAt_len (fun p hq => hF.refs p (refsOf_mem hq)) k; omega), callP_ret, pickV_bool, cond_true, oB, Bool.true_and]
 obtain ⟨w, U, u1, u2, u3⟩ := kept30_run (d + 2) onC hMC (by omega) (by rw [kv_names]; exact refsOf_nd _) (fun p hq => by
  rw [List.mem_map] at hq
  obtain ⟨q, q1, rfl⟩ := hq
  exact Nat.lt_trans (hF.nm q (refsOf_mem q1)) (by decide)) (by rw [List.length_map]; omega) hc
 refine ⟨w, U, rd23 ?_, ?_, gC.trans u3⟩
 · show F23 (ev E0 KD (d + 4)) rounds v (sv path) S = _
   rw [F23_eq, a1, oB]
   dsimp only
   rw [b1, callP_ret, oB, nwP_fst, c1, oB]
   dsimp only
   rw [l1, oB]
   dsimp only
   rw [u1, callP_ret]
 · rw [kv_names] at u2
   rcases u2 with h | ⟨r, h0, h1, h2, h3, h4⟩
   · exact .inl h
   · exact .inr ⟨r, h0, h1, h2, Nat.le_trans gC.next h3, h4⟩
end
end Go.Proofs.Ytginkdeicmdmaaa.W
namespace Go.Proofs.Ytginkdeicmdmaaa.W
open Go.Proofs.Ytginkdeicmdmaaa.Ev Go.RowKit
def dropS (a : Bs) : List (Bs × V) → List (Bs × V)
 | [] => []
 | p :: l => if a = p.1 then l else p :: dropS a l
theorem dropME_str (a : Bs) : ∀ (kv : List (Bs × V)) (es : List ME), esKV es = kvS kv → ∀ w, lkS a kv = some w → esKV (dropME (ixB a kv) es) = kvS (dropS a kv)
 | [], es, h, w, hw => by simp [lkS] at hw
 | p :: kv, [], h, w, hw => by simp [esKV, kvS] at h
 | p :: kv, e :: es, h, w, hw => by
  simp only [esKV, kvS, List.map_cons, List.cons.injEq, pM] at h
  obtain ⟨⟨h1, h2⟩, h3⟩ := h
  unfold ixB dropS
  unfold lkS at hw
  by_cases hc : a = p.1
  · rw [if_pos hc, if_pos hc]
    exact h3
  · rw [if_neg hc, if_neg hc]
    rw [if_neg hc] at hw
    unfold dropME
    rw [show Nat.beq (ixB a kv + 1) 0 = false from rfl, cond_false, Nat.add_sub_cancel]
    show (e.k, e.v) :: esKV _ = (sv p.1, p.2) :: kvS _
    rw [h1, h2, dropME_str a kv es h3 w hw]
theorem stampsR_mono : ∀ {es : List ME} {m k : Nat}, m ≤ k → stampsR k es = true → stampsR m es = true
 | [], _, _, _, _ => rfl
 | e :: es, m, k, h, hs => by
  unfold stampsR at hs ⊢
  simp only [Bool.and_eq_true, ble_true] at hs ⊢
  exact ⟨Nat.le_trans h hs.1, hs.2⟩
theorem lastStamp_mono : ∀ {es : List ME} {m k : Nat}, m ≤ k → lastStamp es m ≤ lastStamp es k
 | [], _, _, h => h
 | _ :: _, _, _, _ => Nat.le_refl _
theorem drop_stamps : ∀ (es : List ME) (i m : Nat), stampsR m es = true → stampsR m (dropME i es) = true ∧ lastStamp (dropME i es) m ≤ lastStamp es m
 | [], _, _, h => ⟨h, Nat.le_refl _⟩
 | e :: es, i, m, h => by
  unfold stampsR at h
  simp only [Bool.and_eq_true, ble_true] at h
  unfold dropME
  cases hb : Nat.beq i 0 with
  | true =>
   rw [cond_true]
   exact ⟨stampsR_mono (Nat.le_succ_of_le h.1) h.2, lastStamp_mono (Nat.le_succ_of_le h.1)⟩
  | false =>
   rw [cond_false]
   obtain ⟨q1, q2⟩ := drop_stamps es (i - 1) (e.born + 1) h.2
   unfold stampsR lastStamp
   exact ⟨by rw [ble_true.2 h.1, q1]; rfl, q2⟩
def dropP (k : Bs) (l : List Pth) : List Pth := l.filter fun p => !(p.nm == k)
theorem dropS_kv (k : Bs) : ∀ {l : List Pth}, (names l).Nodup → dropS k (l.map Pth.kv) = (dropP k l).map Pth.kv
 | [], _ => rfl
 | p :: l, h => by
  have h' : (p.nm :: names l).Nodup := h
  rw [List.nodup_cons] at h'
  rw [List.map_cons]
  unfold dropS dropP
  by_cases hc : k = p.nm
  · rw [if_pos (show k = p.kv.1 from hc), List.filter_cons_of_neg (by simp [hc])]
    rw [List.filter_eq_self.2 fun q hq => ?_]
    simp only [Bool.not_eq_true', beq_eq_false_iff_ne]
    exact fun e => h'.1 (by rw [← hc, ← e]; exact mem_names.2 ⟨q, hq, rfl⟩)
  · rw [if_neg (show ¬ k = p.kv.1 from hc), List.filter_cons_of_pos (by simp [Ne.symm hc]), List.map_cons, dropS_kv k h'.2]
    rfl
section
variable {S T U : St}
theorem del_str (ho : S.on = false) {r : Nat} {kv : List (Bs × V)} (h : MapS S r kv) {a : Bs} {w : V} (hl : lkS a kv = some w) : ∃ o, (∀ L, ∃ L', vu (deleteV E0 48 (.map r) (sv a) (S.lg L)) = some (.tuple [], (S.put r o).lg L')) ∧ MapS (S.put r o) r (dropS a kv) := by
 obtain ⟨es, c, h1, h2, h3, h4⟩ := h
 obtain ⟨q1, q2⟩ := drop_stamps es (ixB a kv) 0 h3
 refine ⟨.map (dropME (ixB a kv) es) c, fun L => ⟨⟨r, 0, big, true⟩ :: ⟨r, 0, big, false⟩ :: L, ?_⟩, _, c, by rw [put_get, if_pos rfl], dropME_str a kv es h2 w hl, q1, Nat.le_trans q2 h4⟩
 have hd : deleteV E0 48 (.map r) (sv a) (S.lg L) = some ((S.put r (.map (dropME (ixB a kv) es) c)).lg (⟨r, 0, big, true⟩ :: ⟨r, 0, big, false⟩ :: L)) := by
  unfold deleteV
  rw [und48, oB]
  simp only
  rw [und9, oB]
  simp only [sv, keyOk, cond_true]
  have hg : getO (S.lg L) r = some (.map es c, S.lg (⟨r, 0, big, false⟩ :: L)) := by
   unfold getO
   rw [show (S.lg L).heap.get r = some (.map es c) from h1]; rfl
  rw [hg, oB]
  simp only
  have hm := mfind_str a kv es 0 h2
  unfold sv at hm
  rw [hm, hl]
  show some (setO _ _ (.map (dropME (0 + ixB a kv) _) _)) = _
  rw [Nat.zero_add]
  rfl
 rw [hd]; rfl
theorem lnMap_of (ho : S.on = false) {r : Nat} {kv : List (Bs × V)} (h : MapS S r kv) : lnMap (.map r) S = some (.int .i64 (kv.length : Int), S) := by
 obtain ⟨es, c, h1, h2, _⟩ := h
 have hl : es.length = kv.length := by
  have := congrArg List.length h2
  simpa [esKV, kvS] using this
 unfold lnMap
 simp only
 rw [getO_off ho h1]
 simp only [oB, hl]
 rfl
theorem clone_run (n : Nat) (ho : S.on = false) {r : Nat} {kv : List (Bs × V)} (h : MapS S r kv) : ∃ U, (ev E0 KD (n + 1)).f 36 [.map r] S = some (.ret (.map S.next), U) ∧ MapS U S.next kv ∧ Grew (fun _ => False) S U ∧ U.next = S.next + 1 := by
 obtain ⟨es, c, h1, h2, h3, h4⟩ := h
 refine ⟨nw S (.map es c), rd36 ?_, ⟨es, c, by rw [nw_get, if_pos rfl], h2, h3, h4⟩, grew_nw ho _ _, rfl⟩
 show F36 (ev E0 KD n) rounds (.map r) S = _
 rw [F36_eq, show binV E0 .eql 48 false true (.map r) .nilmap = some (.bool false) from by kernel_rfl, oB, ifK_bool, cond_false]
 have hc : callK E0 (ev E0 KD n) (.fn (.func 48) [] []) [.iface 48 (.map r)] S = some (.ret (.iface 48 (.map S.next)), nw S (.map es c)) := by
  have hx : E0.ext.get 48 = some 2 := by kernel_rfl
  unfold callK
  simp only
  rw [hx]
  show ((extV 2 [.iface 48 (.map r)] S).bind _) = _
  have : extV 2 [.iface 48 (.map r)] S = some (.val (.iface 48 (.map S.next)) (nw S (.map es c))) := by
   show ((getO S r).bind _) = _
   rw [getO_off ho h1]; rfl
  rw [this]; rfl
 rw [hc, callP_ret, show assertK E0 48 false (.iface 48 (.map S.next)) = some (.map S.next) from by kernel_rfl, oB]
def readyF (ps left : List Pth) (k : Bs) : Bool := !((refsAt ps k).any fun r => decide (r ∈ names left) && !(r == k))
structure OC (S : St) (bt bl mt ml : Nat) (ps left : List Pth) : Prop where
 on : S.on = false
 xt : Bx S bt 48 [.map mt]
 xl : Bx S bl 48 [.map ml]
 lt : bt < S.next ∧ bl < S.next ∧ mt < S.next ∧ ml < S.next
 ne : bt ≠ ml ∧ bl ≠ ml ∧ mt ≠ ml
 mp : MapS S mt (ps.map Pth.kv)
 lf : MapS S ml (left.map Pth.kv)
theorem OC.grew {bt bl mt ml : Nat} {ps left : List Pth} (h : OC S bt bl mt ml ps left) (g : Grew (fun _ => False) S U) : OC U bt bl mt ml ps left := by
 obtain ⟨l1, l2, l3, l4⟩ := h.lt
 have gn := g.next
 exact ⟨g.on.trans h.on, h.xt.grew l1 (fun h => h) g, h.xl.grew l2 (fun h => h) g, ⟨by omega, by omega, by omega, by omega⟩, h.ne, h.mp.grew l3 (fun h => h) g, h.lf.grew l4 (fun h => h) g⟩
theorem OC.push {bt bl mt ml : Nat} {ps left : List Pth} (h : OC S bt bl mt ml ps left) {v : V} {l : List Bs} {N : Nat} (hv : TLo S v l N) (g : Grew (fun x => blkOf v = some x) S U) : OC U bt bl mt ml ps left := by
 obtain ⟨l1, l2, l3, l4⟩ := h.lt
 have gn := g.next
 exact ⟨g.on.trans h.on, h.xt.grew l1 (fun e => absurd (row_bx (hv.blk e).2 h.xt) (by decide)) g, h.xl.grew l2 (fun e => absurd (row_bx (hv.blk e).2 h.xl) (by decide)) g, ⟨by omega, by omega, by omega, by omega⟩, h.ne, h.mp.grew l3 (fun e => h.mp.noRow (hv.blk e).2) g, h.lf.grew l4 (fun e => h.lf.noRow (hv.blk e).2) g⟩
theorem OC.same {bt bl mt ml : Nat} {ps left : List Pth} (h : OC S bt bl mt ml ps left) (h1 : U.heap = S.heap) (h2 : U.next = S.next) (h3 : U.on = false) : OC U bt bl mt ml ps left :=
 ⟨h3, by show U.heap.get bt = _; rw [h1]; exact h.xt, by show U.heap.get bl = _; rw [h1]; exact h.xl, by rw [h2]; exact h.lt, h.ne, h.mp.same h1, h.lf.same h1⟩
theorem OC.del {bt bl mt ml : Nat} {ps left left' : List Pth} (h : OC S bt bl mt ml ps left) {o : O} (hm : MapS (S.put ml o) ml (left'.map Pth.kv)) : OC (S.put ml o) bt bl mt ml ps left' := by
 obtain ⟨l1, l2, l3, l4⟩ := h.lt
 obtain ⟨n1, n2, n3⟩ := h.ne
 have g := grew_put (s := S) ml o
 exact ⟨h.on, h.xt.grew l1 n1 g, h.xl.grew l2 n2 g, h.lt, h.ne, h.mp.grew l3 n3 g, hm⟩
theorem close39 (n : Nat) {bt bl mt ml : Nat} {ps left : List Pth} (h : OC S bt bl mt ml ps left) {bk : Nat} {k : Bs} (hk : Bx S bk 9 [sv k]) (r : Bs) : callK E0 (ev E0 KD (n + 1)) (.fn (.func 39) [] [.ptr bl 0, .ptr bk 0]) [sv r] S = some (.ret (.bool (decide (r ∈ names left) && !(r == k))), S) := by
 have q1 : ld1 (.ptr bl 0) S = some (.map ml, S) := Bx.ldv h.on h.xl big1 rfl
 have q2 : ld1 (.ptr bk 0) S = some (sv k, S) := Bx.ldv h.on hk big1 rfl
 rw [callK_fn (ext_none (by decide)) (by kernel_rfl)]
 refine rd39 ?_
 show F39 (ev E0 KD n) rounds (sv r) (.ptr bl 0) (.ptr bk 0) S = _
 rw [F39_eq, q1, oB]
 dsimp only
 rw [look_two h.on h.lf, oB]
 dsimp only
 rw [tup0, oB, tup1, oB, lkS_kv, lkP_dec]
 cases lkP r left with
 | none => rfl
 | some q =>
  simp only [Option.map_some, Option.isSome_some, gTT, oB, cond_true]
  rw [q2, oB]
  dsimp only
  rw [neStr, oB, pickV_bool, cond_true, oB, Bool.true_and]
theorem close37 (n : Nat) {bt bl mt ml : Nat} {ps left : List Pth} (h : OC S bt bl mt ml ps left) (hrow : ∀ p ∈ ps, TL S p.rv p.refs) (hlen : ∀ p ∈ ps, p.refs.length < 1000) (k : Bs) : ∃ U, callK E0 (ev E0 KD (n + 4)) (.fn (.func 37) [] [.ptr bt 0, .ptr bl 0]) [sv k] S = some (.ret (.bool (readyF ps left k)), U) ∧ Grew (fun _ => False) S U := by
 obtain ⟨A, a1, a2, a3, a4⟩ := box_one h.on 9 (oneV_sv k)
 have hA := h.grew a3
 have q1 : ld1 (.ptr bt 0) A = some (.map mt, A) := Bx.ldv hA.on hA.xt big1 rfl
 have q2 : ld1 (.ptr S.next 0) A = some (sv k, A) := Bx.ldv hA.on a2 big1 rfl
 have hc := containsF_run (n + 1) hA.on (row_tl (fun p hp => (hrow p hp).grew0 a3) k) (by have := refsAt_len hlen k; omega) (fv := .fn (.func 39) [] [.ptr bl 0, .ptr S.next 0]) (f := fun r => decide (r ∈ names left) && !(r == k)) fun r _ => close39 n hA a2 r
 refine ⟨A, ?_, a3⟩
 rw [callK_fn (ext_none (by decide)) (by kernel_rfl)]
 refine rd37 ?_
 show F37 (ev E0 KD (n + 3)) rounds (sv k) (.ptr bt 0) (.ptr bl 0) S = _
 rw [F37_eq, a1, oB]
 dsimp only
 rw [q1, oB]
 dsimp only
 rw [q2, oB]
 dsimp only
 rw [look_row hA.on hA.mp, oB]
 dsimp only
 rw [hc, callP_ret, unV_not, oB]
 rfl
end
end Go.Proofs.Ytginkdeicmdmaaa.W
