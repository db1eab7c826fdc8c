/-
  WHAT THE FUNCTIONS COME TO: each is read by the evaluator, printed, and told as a function of data, part 4 of 7 (no condition).
-/
import Derived.Test.YtginkdeicmdmaaaW3
import Derived.Test.YtginkdeicmdmaaaShelf
import Derived.WalkKit
import Derived.ProofKit
import Derived.OpenShut
import Derived.Carry
import Derived.ChangeMaps5
namespace Go.Proofs.Ytginkdeicmdmaaa.W
open Go.Proofs.Ytginkdeicmdmaaa.Ev Go.RowKit
def okv (out : List Bs) : List (Bs × V) := out.map fun k => (k, V.int .i64 1)
theorem lkS_okv (a : Bs) : ∀ out : List Bs, lkS a (okv out) = if a ∈ out then some (V.int .i64 1) else none
 | [] => rfl
 | k :: out => by
  show lkS a ((k, V.int .i64 1) :: okv out) = _
  unfold lkS
  by_cases h : a = k
  · rw [if_pos h, if_pos (by simp [h])]
  · rw [if_neg h, lkS_okv a out]
    by_cases h2 : a ∈ out
    · rw [if_pos h2, if_pos (by simp [h2])]
    · rw [if_neg h2, if_neg (by simp [h, h2])]
def fnv46 (bt bo br : Nat) : V := .fn (.func 46) [] [.ptr bt 0, .ptr bo 0, .ptr br 0]
section
variable {S T U : St}
theorem var_one (ho : S.on = false) (e : Nat) (z : Tr V) {v : V} (hv : OneV v) : ∃ t, stP 1 (.ptr S.next 0) v (nwP e 1 z S).2 = some (.tuple [], t) ∧ Bx t S.next e [v] ∧ Grew (fun _ => False) S t ∧ t.next = S.next + 1 := by
 obtain ⟨t, h1, h2, h3, h4⟩ := var_new ho e 1 z [v] rfl (by omega) big1
 refine ⟨t, ?_, h2, h3, h4⟩
 rw [← h1]
 show vu (bif Nat.beq v.size 1 && !isTuple v then stK _ _ _ 1 v.cells else none) = _
 rw [hv.size, hv.tup, hv.cells]; rfl
structure RC (S : St) (bt bo br mt mo : Nat) (ps : List Pth) : Prop where
 on : S.on = false
 xt : Bx S bt 48 [.map mt]
 xo : Bx S bo 46 [.map mo]
 xr : Bx S br 62 [fnv46 bt bo br]
 lt : bt < S.next ∧ bo < S.next ∧ br < S.next ∧ mt < S.next ∧ mo < S.next
 ne : bt ≠ mo ∧ bo ≠ mo ∧ br ≠ mo ∧ mt ≠ mo
 mp : MapS S mt (ps.map Pth.kv)
 row : ∀ p ∈ ps, TL S p.rv p.refs
 mo : ∃ kv, MapS S mo kv
theorem RC.grew {bt bo br mt mo : Nat} {ps : List Pth} (h : RC S bt bo br mt mo ps) (g : Grew (fun x => x = mo) S U) {kv : List (Bs × V)} (hm : MapS U mo kv) : RC U bt bo br mt mo ps := by
 obtain ⟨l1, l2, l3, l4, l5⟩ := h.lt
 obtain ⟨n1, n2, n3, n4⟩ := h.ne
 obtain ⟨kv0, hm0⟩ := h.mo
 have gn := g.next
 exact ⟨g.on.trans h.on, h.xt.grew l1 n1 g, h.xo.grew l2 n2 g, h.xr.grew l3 n3 g, ⟨by omega, by omega, by omega, by omega, by omega⟩, h.ne, h.mp.grew l4 n4 g,
  fun p hp => (h.row p hp).grew (fun r e _ hr hx => by subst hx; exact hm0.noRow hr) g, ⟨kv, hm⟩⟩
theorem binGtr (n : Int) : binV E0 .gtr 3 false true (.int .i64 n) (.int .i64 0) = some (.bool (decide (0 < n))) := by
 rw [binV_ii, intsV_gtr]
theorem call46 (n : Nat) (bt bo br : Nat) (p : Bs) (S : St) : callK E0 (ev E0 KD n) (fnv46 bt bo br) [sv p] S = (ev E0 KD n).f 46 [sv p, .ptr bt 0, .ptr bo 0, .ptr br 0] S :=
 callK_fn (ext_none (by decide)) (by kernel_rfl) [] [.ptr bt 0, .ptr bo 0, .ptr br 0] [sv p] S
theorem fin46 (n : Nat) (S : St) : finN E0 (ev E0 KD n) Try.f46 (fr 35 []) S = some (.ret (.tuple []), S) := by kernel_rfl
theorem L46_spec {n N : Nat} {bt bo br mt mo : Nat} {ps : List Pth} (u : Nat)
 (ih : ∀ (out : List Bs) (p : Bs) (S : St), unv ps out ≤ u → RC S bt bo br mt mo ps → MapS S mo (okv out) → ∃ U, (ev E0 KD n).f 46 [sv p, .ptr bt 0, .ptr bo 0, .ptr br 0] S = some (.ret (.tuple []), U) ∧ MapS U mo (okv (dfs ps (u + 1) out p)) ∧ Grew (fun x => x = mo) S U)
 (nk : Ac → St → Rs) (ek : Nat → Ac → St → Rs) {rv : V} {l : List Bs} (hlen : l.length < 1000000) :
 ∀ (rest : List Bs) (i k : Nat) (out : List Bs) (S : St), l.drop i = rest → rest.length < k → unv ps out ≤ u → RC S bt bo br mt mo ps → TL S rv l → MapS S mo (okv out) →
 ∃ U, L46_22 (ev E0 KD n) N nk ek k (.ptr br 0) rv (.int .i64 (l.length : Int)) (.int .i64 (i : Int)) S = ek 0 (fr 35 []) U ∧ MapS U mo (okv (rest.foldl (dfs ps (u + 1)) out)) ∧ Grew (fun x => x = mo) S U
 | rest, i, 0, out, S, _, hk, _, _, _, _ => by omega
 | [], i, k + 1, out, S, hi, hk, hu, hR, hl, hM => by
  refine ⟨S, ?_, hM, Grew.refl _ _⟩
  rw [L46_22_eq, binV_ii, intsV_lss, dec_ge (drop_end hi), oB, ifK_bool, cond_false]
 | p :: rest, i, k + 1, out, S, hi, hk, hu, hR, hl, hM => by
  obtain ⟨hlt, hf, hrest, hmem⟩ := drop_at hi
  obtain ⟨q, q1, q2⟩ := hl.ld hR.on (show l[i]? = some p by rw [List.getElem?_eq_getElem hlt, hf])
  have l3 : ld1 (.ptr br 0) S = some (fnv46 bt bo br, S) := Bx.ldv hR.on hR.xr big1 rfl
  obtain ⟨U, u1, u2, u3⟩ := ih out p S hu hR hM
  have hd := dfs_spec u out p hu
  obtain ⟨T, t1, t2, t3⟩ := L46_spec (N := N) u ih nk ek hlen rest (i + 1) k (dfs ps (u + 1) out p) U hrest (by simp at hk; omega) (Nat.le_trans (unv_mono hd.sub) hu) (hR.grew u3 u2) (hl.grew (fun r e _ hr hx => by subst hx; exact hM.noRow hr) u3) u2
  refine ⟨T, ?_, t2, u3.trans t3⟩
  rw [L46_22_eq, binV_ii, intsV_lss, dec_lt hlt, oB, ifK_bool, cond_true, q1, oB, q2, oB]
  dsimp only
  rw [l3, oB]
  dsimp only
  rw [call46, u1, callP_ret, binV_ii, intsV_add, wrap_succ (by omega), oB]
  exact t1
theorem reach_run {bt bo br mt mo : Nat} {ps : List Pth} (hsm : ∀ p ∈ ps, p.refs.length < 1000000) (k : Nat) : ∀ (u : Nat) (out : List Bs) (p : Bs) (S : St), unv ps out ≤ u → RC S bt bo br mt mo ps → MapS S mo (okv out) →
 ∃ U, (ev E0 KD (k + u + 1)).f 46 [sv p, .ptr bt 0, .ptr bo 0, .ptr br 0] S = some (.ret (.tuple []), U) ∧ MapS U mo (okv (dfs ps (u + 1) out p)) ∧ Grew (fun x => x = mo) S U := by
 intro u
 induction u with
 | zero =>
  intro out p S hu hR hM
  refine ⟨S, rd46 ?_, ?_, Grew.refl _ _⟩
  · show F46 (ev E0 KD (k + 0)) rounds (sv p) (.ptr bt 0) (.ptr bo 0) (.ptr br 0) S = _
    have l1 : ld1 (.ptr bt 0) S = some (.map mt, S) := Bx.ldv hR.on hR.xt big1 rfl
    have l2 : ld1 (.ptr bo 0) S = some (.map mo, S) := Bx.ldv hR.on hR.xo big1 rfl
    rw [F46_eq, l1, oB]
    dsimp only
    rw [look_two hR.on hR.mp, oB]
    dsimp only
    rw [tup0, oB, tup1, oB, unV_not, oB, lkS_kv]
    cases hq : lkP p ps with
    | none =>
     rw [Option.map_none, Option.isSome_none, Bool.not_false]
     rfl
    | some q =>
     have hin : p ∈ out := by
      by_cases h : p ∈ out
      · exact h
      · have := unv_push (lk_names hq) h; omega
     rw [Option.map_some, Option.isSome_some, Bool.not_true]
     simp only [gFF, oB, cond_true]
     rw [l2, oB]
     dsimp only
     rw [look_one hR.on hM, lkS_okv, if_pos hin, oB]
     dsimp only
     rw [Option.getD_some, binGtr, oB, decide_eq_true (by decide)]
     rfl
  · unfold dfs
    cases hq : lkP p ps with
    | none => exact hM
    | some q =>
     have hin : p ∈ out := by
      by_cases h : p ∈ out
      · exact h
      · have := unv_push (lk_names hq) h; omega
     simp only [if_pos hin]; exact hM
 | succ u ih =>
  intro out p S hu hR hM
  have l1 : ld1 (.ptr bt 0) S = some (.map mt, S) := Bx.ldv hR.on hR.xt big1 rfl
  have l2 : ld1 (.ptr bo 0) S = some (.map mo, S) := Bx.ldv hR.on hR.xo big1 rfl
  have key : ∀ (V1 : St), F46 (ev E0 KD (k + (u + 1))) rounds (sv p) (.ptr bt 0) (.ptr bo 0) (.ptr br 0) S = some (.ret (.tuple []), V1) → (ev E0 KD (k + (u + 1) + 1)).f 46 [sv p, .ptr bt 0, .ptr bo 0, .ptr br 0] S = some (.ret (.tuple []), V1) := fun V1 h => rd46 h
  rw [F46_eq, l1, oB] at key
  dsimp only at key
  rw [look_two hR.on hR.mp, oB] at key
  dsimp only at key
  rw [tup0, oB, tup1, oB, unV_not, oB, lkS_kv] at key
  unfold dfs
  cases hq : lkP p ps with
  | none =>
   rw [hq, Option.map_none, Option.isSome_none, Bool.not_false] at key
   exact ⟨S, key S rfl, hM, Grew.refl _ _⟩
  | some q =>
   rw [hq, Option.map_some, Option.isSome_some, Bool.not_true] at key
   simp only [gFF, oB, cond_true] at key
   rw [l2, oB] at key
   dsimp only at key
   rw [look_one hR.on hM, lkS_okv, oB] at key
   dsimp only at key
   by_cases hin : p ∈ out
   · simp only [if_pos hin]
     rw [if_pos hin, Option.getD_some, binGtr, oB, decide_eq_true (by decide)] at key
     exact ⟨S, key S rfl, hM, Grew.refl _ _⟩
   · simp only [if_neg hin]
     rw [if_neg hin, Option.getD_none, binGtr, oB, decide_eq_false (by decide), pickV_bool, cond_false, oB, ifK_bool, cond_false, l2, oB] at key
     dsimp only at key
     obtain ⟨o, u1, u2⟩ := upd_new hR.on und46 hM (a := p) (by rw [lkS_okv, if_neg hin]) (.int .i64 1)
     have gP := grew_put (s := S) mo o
     have hok : okv out ++ [(p, V.int .i64 1)] = okv (out ++ [p]) := by unfold okv; rw [List.map_append]; rfl
     rw [hok] at u2
     have hmem := (lkP_mem hq).1
     have hTL := (hR.row q hmem).grew (fun r e _ hr hx => by subst hx; exact hM.noRow hr) gP
     rw [u1, vu_some, oB] at key
     dsimp only at key
     rw [Option.getD_some, hTL.len, oB] at key
     dsimp only at key
     have hlt := unv_push (lk_names hq) hin
     obtain ⟨T, t1, t2, t3⟩ := L46_spec (n := k + u + 1) (N := rounds) u ih (finN E0 (ev E0 KD (k + (u + 1))) Try.f46) (exB 0 (finN E0 (ev E0 KD (k + (u + 1))) Try.f46) noEx) (hsm q hmem) q.refs 0 rounds (out ++ [p]) (S.put mo o) rfl (by have := hsm q hmem; unfold rounds; omega) (by omega) (hR.grew gP u2) hTL u2
     refine ⟨T, key T ?_, t2, gP.trans t3⟩
     rw [show (V.int .i64 0) = .int .i64 ((0 : Nat) : Int) from rfl]
     refine t1.trans ?_
     rw [exB_same, fin46]
end
end Go.Proofs.Ytginkdeicmdmaaa.W
namespace Go.Proofs.Ytginkdeicmdmaaa.W
open Go.Proofs.Ytginkdeicmdmaaa.Ev Go.RowKit
section
variable {S T U : St}
theorem L27_spec {n N : Nat} {bt bo br mt mo : Nat} {ps : List Pth} (u : Nat)
 (ih : ∀ (out : List Bs) (p : Bs) (S : St), unv ps out ≤ u → RC S bt bo br mt mo ps → MapS S mo (okv out) → ∃ U, (ev E0 KD n).f 46 [sv p, .ptr bt 0, .ptr bo 0, .ptr br 0] S = some (.ret (.tuple []), U) ∧ MapS U mo (okv (dfs ps (u + 1) out p)) ∧ Grew (fun x => x = mo) S U)
 (nk : Ac → St → Rs) (ek : Nat → Ac → St → Rs) {rv : V} {l : List Bs} (hlen : l.length < 1000000) :
 ∀ (rest : List Bs) (i k : Nat) (out : List Bs) (S : St), l.drop i = rest → rest.length < k → unv ps out ≤ u → RC S bt bo br mt mo ps → TL S rv l → MapS S mo (okv out) →
 ∃ U, L27_14 (ev E0 KD n) N nk ek k (.ptr bo 0) (.ptr br 0) rv (.int .i64 (l.length : Int)) (.int .i64 (i : Int)) S = ek 0 (fr 22 [(5, .ptr bo 0)]) U ∧ MapS U mo (okv (rest.foldl (dfs ps (u + 1)) out)) ∧ Grew (fun x => x = mo) S U ∧ RC U bt bo br mt mo ps
 | rest, i, 0, out, S, _, hk, _, _, _, _ => by omega
 | [], i, k + 1, out, S, hi, hk, hu, hR, hl, hM => by
  refine ⟨S, ?_, hM, Grew.refl _ _, hR⟩
  rw [L27_14_eq, binV_ii, intsV_lss, dec_ge (drop_end hi), oB, ifK_bool, cond_false]
 | p :: rest, i, k + 1, out, S, hi, hk, hu, hR, hl, hM => by
  obtain ⟨hlt, hf, hrest, hmem⟩ := drop_at hi
  obtain ⟨q, q1, q2⟩ := hl.ld hR.on (show l[i]? = some p by rw [List.getElem?_eq_getElem hlt, hf])
  have l3 : ld1 (.ptr br 0) S = some (fnv46 bt bo br, S) := Bx.ldv hR.on hR.xr big1 rfl
  obtain ⟨U, u1, u2, u3⟩ := ih out p S hu hR hM
  have hd := dfs_spec u out p hu
  obtain ⟨T, t1, t2, t3, t4⟩ := L27_spec (N := N) u ih nk ek hlen rest (i + 1) k (dfs ps (u + 1) out p) U hrest (by simp at hk; omega) (Nat.le_trans (unv_mono hd.sub) hu) (hR.grew u3 u2) (hl.grew (fun r e _ hr hx => by subst hx; exact hM.noRow hr) u3) u2
  refine ⟨T, ?_, t2, u3.trans t3, t4⟩
  rw [L27_14_eq, binV_ii, intsV_lss, dec_lt hlt, oB, ifK_bool, cond_true, q1, oB, q2, oB]
  dsimp only
  rw [l3, oB]
  dsimp only
  rw [call46, u1, callP_ret, binV_ii, intsV_add, wrap_succ (by omega), oB]
  exact t1
theorem reached_run (k : Nat) (ho : S.on = false) {mt : Nat} {ps : List Pth} (hM : MapS S mt (ps.map Pth.kv)) (hm : mt < S.next) (hrow : ∀ p ∈ ps, TL S p.rv p.refs) (hsm : ∀ p ∈ ps, p.refs.length < 1000000) {fv : V} {f : List Bs} (hf : TL S fv f) (hfl : f.length < 1000000) :
 ∃ U mo, (ev E0 KD (k + ps.length + 2)).f 27 [.map mt, fv] S = some (.ret (.map mo), U) ∧ MapS U mo (okv (reachL ps f)) ∧ Grew (fun _ => False) S U ∧ S.next ≤ mo ∧ mo < U.next := by
 obtain ⟨A, a1, a2, a3, a4⟩ := box_map ho 48 mt
 have onA := a3.on.trans ho
 have g1 := grew_nw onA (fun _ => False) (.map [] 0)
 have onB : (nw A (.map [] 0)).on = false := nw_on onA _
 have hM0 : MapS (nw A (.map [] 0)) A.next (okv []) := MapS.new onA
 have hnB : (nw A (.map [] 0)).next = A.next + 1 := rfl
 have hk : makeMapK E0 46 none A = some (.map A.next, nw A (.map [] 0)) := rfl
 generalize nw A (.map [] 0) = B at g1 onB hM0 hnB hk
 obtain ⟨C, c1, c2, c3, c4⟩ := var_one onB 46 (Go.Proofs.Ytginkdeicmdmaaa.Ev.one .nilmap) (v := .map A.next) ⟨rfl, rfl, rfl, rfl⟩
 have onC := c3.on.trans onB
 obtain ⟨D, d1, d2, d3, d4⟩ := var_one onC 62 (Go.Proofs.Ytginkdeicmdmaaa.Ev.one .nilfn) (v := fnv46 S.next B.next C.next) ⟨rfl, rfl, rfl, rfl⟩
 have onD := d3.on.trans onC
 have gB := a3.trans g1
 have gD := (gB.trans c3).trans d3
 have hMoD : MapS D A.next (okv []) := (hM0.grew (by omega) (fun h => h) c3).grew (by omega) (fun h => h) d3
 have hR : RC D S.next B.next C.next mt A.next ps := by
  refine ⟨onD, ?_, c2.grew (by omega) (fun h => h) d3, d2, ⟨by omega, by omega, by omega, by omega, by omega⟩, ⟨by omega, by omega, by omega, by omega⟩, hM.grew hm (fun h => h) gD, fun p hp => (hrow p hp).grew0 gD, _, hMoD⟩
  exact ((a2.grew (by omega) (fun h => h) g1).grew (show S.next < B.next by omega) (fun h => h) c3).grew (show S.next < C.next by omega) (fun h => h) d3
 obtain ⟨U, u1, u2, u3, u4⟩ := L27_spec (n := k + ps.length + 1) (N := rounds) ps.length (fun out p S h1 h2 h3 => reach_run hsm k ps.length out p S h1 h2 h3) (R27_8 (ev E0 KD (k + ps.length + 1)) rounds (finN E0 (ev E0 KD (k + ps.length + 1)) Try.f27) noEx) (exB 0 (R27_8 (ev E0 KD (k + ps.length + 1)) rounds (finN E0 (ev E0 KD (k + ps.length + 1)) Try.f27) noEx) noEx) hfl f 0 rounds [] D rfl (by unfold rounds; omega) (unv_le _ _) hR (hf.grew0 gD) hMoD
 have l2 : ld1 (.ptr B.next 0) U = some (.map A.next, U) := Bx.ldv u4.on u4.xo big1 rfl
 refine ⟨U, A.next, rd27 ?_, u2, Grew.own gD (by omega) u3, by omega, by have := u4.lt; omega⟩
 show F27 (ev E0 KD (k + ps.length + 1)) rounds (.map mt) fv S = _
 rw [F27_eq, a1, oB]
 dsimp only
 rw [hk, oB]
 dsimp only
 rw [oB, nwP_fst, c1, oB]
 dsimp only
 rw [oB, nwP_fst, show V.fn (.func 46) [] [V.ptr S.next 0, V.ptr B.next 0, V.ptr C.next 0] = fnv46 S.next B.next C.next from rfl, d1, oB]
 dsimp only
 rw [(hf.grew0 gD).len, oB]
 dsimp only
 rw [show (V.int .i64 0) = .int .i64 ((0 : Nat) : Int) from rfl, u1, exB_same, R27_8_eq, l2, oB]
theorem lkP_app {a : Bs} {l : List Pth} {p : Pth} (h : lkP a l = none) : lkP a (l ++ [p]) = if a = p.nm then some p else none := by
 induction l with
 | nil => rfl
 | cons q l ih =>
  unfold lkP at h
  by_cases hc : a = q.nm
  · rw [if_pos hc] at h; cases h
  · rw [if_neg hc] at h
    rw [List.cons_append]
    unfold lkP
    rw [if_neg hc, ih h]
theorem addP_spec : ∀ (l out : List Pth), (names out).Nodup → (names (l.foldl addP out)).Nodup ∧ (∀ p ∈ l.foldl addP out, p ∈ out ∨ p ∈ l) ∧ (l.foldl addP out).length ≤ out.length + l.length
 | [], out, h => ⟨h, fun p hp => .inl hp, by simp⟩
 | p :: l, out, h => by
  rw [List.foldl_cons]
  have hn : (names (addP out p)).Nodup ∧ (∀ q ∈ addP out p, q ∈ out ∨ q = p) ∧ (addP out p).length ≤ out.length + 1 := by
   unfold addP
   cases hq : lkP p.nm out with
   | some q => exact ⟨h, fun q hq => .inl hq, by simp⟩
   | none =>
    refine ⟨?_, fun q hq => ?_, by simp⟩
    · show (names (out ++ [p])).Nodup
      unfold names at h ⊢
      rw [List.map_append, List.nodup_append]
      refine ⟨h, by simp, fun a ha b hb e => ?_⟩
      simp at hb; subst hb; subst e
      exact lkP_none.1 hq ha
    · have hq' : q ∈ out ++ [p] := hq
      rcases List.mem_append.1 hq' with h | h
      · exact .inl h
      · simp at h; exact .inr h
  obtain ⟨h1, h2, h3⟩ := addP_spec l (addP out p) hn.1
  refine ⟨h1, fun q hq => ?_, by simp; omega⟩
  rcases h2 q hq with h | h
  · rcases hn.2.1 q h with h | rfl
    · exact .inl h
    · exact .inr (List.mem_cons_self ..)
  · exact .inr (List.mem_cons_of_mem _ h)
theorem refsOf_nd (l : List Pth) : (names (refsOf l)).Nodup := (addP_spec l [] .nil).1
theorem refsOf_mem {l : List Pth} {p : Pth} (h : p ∈ refsOf l) : p ∈ l := by
 rcases (addP_spec l [] .nil).2.1 p h with h | h
 · cases h
 · exact h
theorem refsOf_len (l : List Pth) : (refsOf l).length ≤ l.length := by
 have := (addP_spec l [] .nil).2.2
 unfold refsOf
 simpa using this
structure Fit (l : List Pth) : Prop where
 len : l.length < 1000
 nm : ∀ p ∈ l, p.nm.length < 1000000
 refs : ∀ p ∈ l, p.refs.length < 1000
theorem kv_names (l : List Pth) : (l.map Pth.kv).map (·.1) = names l := by unfold names; rw [List.map_map]; rfl
def closL (l : List Pth) (f : List Bs) : List Bs := sortB (reachL (refsOf l) f)
theorem okv_keys (out : List Bs) : (okv out).map (·.1) = out := by
 unfold okv
 rw [List.map_map]
 exact List.map_id _
theorem reachL_mem {ps : List Pth} {f : List Bs} {a : Bs} (h : a ∈ reachL ps f) : ∃ p ∈ ps, p.nm = a := by
 have := (mem_reachL.1 h).mem
 unfold names at this
 simpa using this
theorem reachL_len (ps : List Pth) (f : List Bs) : (reachL ps f).length ≤ ps.length := by
 have h1 : (reachL ps f).length ≤ (names ps).length := List.Nodup.length_le_of_subset (reachL_nd ps f) fun a ha => (mem_reachL.1 ha).mem
 unfold names at h1
 rwa [List.length_map] at h1
theorem closure_run {d : Nat} (ho : S.on = false) {v fv : V} {l : List Pth} {f : List Bs} (hp : PL S v l) (hF : Fit l) (hd : l.length ≤ d) (hf : TL S fv f) (hfl : f.length < 1000000) :
 ∃ w U, (ev E0 KD (d + 3)).f 9 [v, fv] S = some (.ret w, U) ∧ TLo U w (closL l f) S.next ∧ Grew (fun _ => False) S U := by
 have hF1 := hF.len
 have hlen := refsOf_len l
 obtain ⟨A, m, a1, a2, a3, a4, a5⟩ := refs_run (d + 1) ho hp (by omega)
 have onA := a2.on.trans ho
 have hrow : ∀ p ∈ refsOf l, TL A p.rv p.refs := fun p hq => (hp.2 p (refsOf_mem hq)).grew0 a2
 obtain ⟨B, mo, b1, b2, b3, b4, b5⟩ := reached_run (d - (refsOf l).length) onA a5 a4 hrow (fun p hq => Nat.lt_trans (hF.refs p (refsOf_mem hq)) (by decide)) (hf.grew0 a2) hfl
 have onB := b3.on.trans onA
 rw [show d - (refsOf l).length + (refsOf l).length + 2 = d + 2 by omega] at b1
 have hrl := reachL_len (refsOf l) f
 have hc : ∀ U, Grew (fun _ => False) B U → ∀ k ∈ (okv (reachL (refsOf l) f)).map (·.1), ∃ U', callK E0 (ev E0 KD (d + 1)) (.fn (.func 29) [] []) [sv k] U = some (.ret (.bool true), U') ∧ Grew (fun _ => False) U U' := fun U _ k _ => by
  refine ⟨U, ?_, Grew.refl _ _⟩
  rw [callK_fn (ext_none (by decide)) (by kernel_rfl)]
  exact rd29 (by
   show F29 (ev E0 KD d) rounds (sv k) U = _
   rw [F29_eq])
 obtain ⟨w, U, u1, u2, u3⟩ := kept26_run d onB b2 b5 (by rw [okv_keys]; exact reachL_nd _ _) (fun p hq => by
  unfold okv at hq
  rw [List.mem_map] at hq
  obtain ⟨k, hk, rfl⟩ := hq
  obtain ⟨q, q1, q2⟩ := reachL_mem hk
  subst q2
  exact Nat.lt_trans (hF.nm q (refsOf_mem q1)) (by decide)) (by unfold okv; rw [List.length_map]; omega) hc
 refine ⟨w, U, rd9 ?_, ?_, (a2.trans b3).trans u3⟩
 · show F9 (ev E0 KD (d + 2)) rounds v fv S = _
   rw [F9_eq, a1, callP_ret, b1, callP_ret, u1, callP_ret]
 · rw [okv_keys, List.filter_eq_self.2 (fun _ _ => rfl)] at u2
   rcases u2 with h | ⟨r, h0, h1, h2, h3, h4⟩
   · exact .inl h
   · exact .inr ⟨r, h0, h1, h2, Nat.le_trans (a2.trans b3).next h3, h4⟩
def deadL (l : List Pth) (f : List Bs) : List Bs := (sortB (names (refsOf l))).filter fun k => !decide (k ∈ reachL (refsOf l) f)
theorem eq31 : binV E0 .eql 3 false true (.int .i64 1) (.int .i64 0) = some (.bool false) := by kernel_rfl
theorem eq30 : binV E0 .eql 3 false true (.int .i64 0) (.int .i64 0) = some (.bool true) := by kernel_rfl
theorem dead_run {d : Nat} (ho : S.on = false) {v fv : V} {l : List Pth} {f : List Bs} (hp : PL S v l) (hF : Fit l) (hd : l.length ≤ d) (hf : TL S fv f) (hfl : f.length < 1000000) :
 ∃ w U, (ev E0 KD (d + 3)).f 10 [v, fv] S = some (.ret w, U) ∧ TLo U w (deadL l f) S.next ∧ Grew (fun _ => False) S U := by
 have hF1 := hF.len
 have hlen := refsOf_len l
 obtain ⟨A, m, a1, a2, a3, a4, a5⟩ := refs_run (d + 1) ho hp (by omega)
 have onA := a2.on.trans ho
 have hrow : ∀ p ∈ refsOf l, TL A p.rv p.refs := fun p hq => (hp.2 p (refsOf_mem hq)).grew0 a2
 obtain ⟨B, mo, b1, b2, b3, b4, b5⟩ := reached_run (d - (refsOf l).length) onA a5 a4 hrow (fun p hq => Nat.lt_trans (hF.refs p (refsOf_mem hq)) (by decide)) (hf.grew0 a2) hfl
 have onB := b3.on.trans onA
 rw [show d - (refsOf l).length + (refsOf l).length + 2 = d + 2 by omega] at b1
 obtain ⟨C, c1, c2, c3, c4⟩ := var_one onB 46 (Go.Proofs.Ytginkdeicmdmaaa.Ev.one .nilmap) (v := .map mo) ⟨rfl, rfl, rfl, rfl⟩
 have onC := c3.on.trans onB
 have hMC := (a5.grew a4 (fun h => h) b3).grew (Nat.lt_of_lt_of_le a4 b3.next) (fun h => h) c3
 have hc : ∀ U, Grew (fun _ => False) C U → ∀ k ∈ ((refsOf l).map Pth.kv).map (·.1), ∃ U', callK E0 (ev E0 KD (d + 1)) (.fn (.func 31) [] [.ptr B.next 0]) [sv k] U = some (.ret (.bool (!decide (k ∈ reachL (refsOf l) f))), U') ∧ Grew (fun _ => False) U U' := fun U g k _ => by
  refine ⟨U, ?_, Grew.refl _ _⟩
  have onU := g.on.trans onC
  have hb := c2.grew (by omega) (fun h => h) g
  have hm2 := (b2.grew b5 (fun h => h) c3).grew (by omega) (fun h => h) g
  have l1 : ld1 (.ptr B.next 0) U = some (.map mo, U) := Bx.ldv onU hb big1 rfl
  rw [callK_fn (ext_none (by decide)) (by kernel_rfl)]
  refine rd31 ?_
  show F31 (ev E0 KD d) rounds (sv k) (.ptr B.next 0) U = _
  rw [F31_eq, l1, oB]
  dsimp only
  rw [look_one onU hm2, lkS_okv, oB]
  dsimp only
  by_cases h : k ∈ reachL (refsOf l) f
  · rw [if_pos h, Option.getD_some, eq31, oB, decide_eq_true h]; rfl
  · rw [if_neg h, Option.getD_none, eq30, oB, decide_eq_false h]; rfl
 obtain ⟨w, U, u1, u2, u3⟩ := kept30_run d onC hMC (by have := b3.next; omega) (by rw [kv_names]; exact refsOf_nd _) (fun p hq => by
  rw [List.mem_map] at hq
  obtain ⟨q, q1, rfl⟩ := hq
  exact Nat.lt_trans (hF.nm q (refsOf_mem q1)) (by decide)) (by rw [List.length_map]; omega) hc
 refine ⟨w, U, rd10 ?_, ?_, ((a2.trans b3).trans c3).trans u3⟩
 · show F10 (ev E0 KD (d + 2)) rounds v fv S = _
   rw [F10_eq, a1, callP_ret, b1, callP_ret, oB, nwP_fst, c1, oB]
   dsimp only
   rw [u1, callP_ret]
 · rw [kv_names] at u2
   rcases u2 with h | ⟨r, h0, h1, h2, h3, h4⟩
   · exact .inl h
   · exact .inr ⟨r, h0, h1, h2, Nat.le_trans ((a2.trans b3).trans c3).next h3, h4⟩
end
end Go.Proofs.Ytginkdeicmdmaaa.W
namespace Go.Proofs.Ytginkdeicmdmaaa.W
open Go.Proofs.Ytginkdeicmdmaaa.Ev Go.RowKit
section
variable {s S T U : St}
theorem bsP_path (ho : s.on = false) (z : Tr V) (l : List V) (hl : l.length = 4) : ∃ t, bsP 28 4 1 z [(0, vAgg l)] s = some (.slice s.next 0 1 1, t) ∧ RowAt t s.next 28 4 [Tr.ofListFrom .nil l 0] ∧ Grew (fun _ => False) s t ∧ t.next = s.next + 1 := by
 refine ⟨nw s (.cells 28 4 1 false ((Tr.tab 1 1 fun _ => z).set (Tr.ofListFrom .nil l 0) 0)), ?_, ?_, grew_nw ho _ _, rfl⟩
 · unfold bsP fillE fillE
   simp only [vAgg, V.size, isTuple, V.cells, hl, show Nat.beq 4 4 = true from rfl, Bool.not_false, Bool.and_true, show Nat.blt 0 1 = true from rfl, cond_true, Tr.setC_eq, oB]
 · refine rowAt_nw ho (by omega) rfl (by unfold big; omega) fun i t h => ?_
   rw [Tr.get_set]
   cases i with
   | zero => simpa using h
   | succ i => simp at h
theorem ap4_first (ho : s.on = false) {b : Nat} {t : Tr V} (h : RowAt s b 28 4 [t]) : ∃ u, apP 28 4 72 .nilslice (.slice b 0 1 1) s = some (.oslice s.next 0 1 4, u) ∧ RowAt u s.next 28 4 [t] ∧ Grew (fun _ => False) s u ∧ u.next = s.next + 1 := by
 refine ⟨newCells s 28 4 [t], ?_, rowAt_newCells ho (by omega) (by unfold big; simp), grew_nw ho _ _, rfl⟩
 unfold apP
 simp only [lenV, oB, show Nat.blt ((0 + 1) * (72 + 4 + 1)) maxCells = true from rfl, cond_true]
 unfold appendV firstV
 have := h.ldN ho 1 0 (by simp)
 simp only [Nat.zero_mul, List.drop_zero] at this
 simp only [this, oB, show Nat.beq 1 0 = false from rfl, cond_false]
 rfl
theorem ap4_more (ho : s.on = false) {b r : Nat} {t : Tr V} {l : List (Tr V)} (h : RowAt s b 28 4 [t]) (hr : RowAt s r 28 4 l) (hl : l.length ≤ 3000) : ∃ u, apP 28 4 72 (.oslice r 0 l.length 4) (.slice b 0 1 1) s = some (.oslice s.next 0 (l.length + 1) 4, u) ∧ RowAt u s.next 28 4 (l ++ [t]) ∧ Grew (fun x => x = r) s u ∧ u.next = s.next + 1 := by
 obtain ⟨c, hc1, hc2⟩ := hr.row
 have hfit := hr.fit
 refine ⟨nw (s.put r .dead) (.cells 28 4 (l.length + 1) false (c.set t l.length)), ?_, ?_, ?_, rfl⟩
 · unfold apP
   have hm : Nat.blt ((l.length + 1) * (72 + 4 + 1)) maxCells = true := by rw [blt_true]; unfold maxCells; omega
   simp only [lenV, oB, hm, cond_true]
   unfold appendV firstV
   have := h.ldN ho 1 0 (by simp)
   simp only [Nat.zero_mul, List.drop_zero] at this
   simp only [this, oB, show Nat.beq 4 4 = true from rfl, cond_true]
   unfold sizeB
   rw [hc1]
   have hb : Nat.ble (0 + (l.length + 1) * 4) (4 * l.length) = false := by
    cases hh : Nat.ble (0 + (l.length + 1) * 4) (4 * l.length) with
    | false => rfl
    | true => rw [ble_true] at hh; omega
   simp only [blt_true.2 hfit, cond_true, oB, note_off ho, hb, cond_false]
   unfold growV
   rw [hc1]
   simp only [show Nat.beq 28 28 = true from rfl, Bool.not_true, Bool.or_self, cond_false, show Nat.beq 4 4 = true from rfl, show Nat.beq 0 0 = true from rfl, Nat.beq_refl, blt_true.2 hfit, Bool.and_self, cond_true]
   rw [show List.take 1 [t] = [t] from rfl]
   unfold addLC addLC
   rw [Tr.setC_eq]
   unfold setO
   rw [note_off ho]
 · have hnx : (s.put r .dead).next = s.next := rfl
   have := rowAt_nw (s := s.put r .dead) (e := 28) (z := 4) (n := l.length + 1) (c := c.set t l.length) (l := l ++ [t]) ho (by omega) (by simp) (by unfold big; omega) fun i u h => by
    rw [Tr.get_set]
    by_cases hi : i = l.length
    · subst hi
      rw [if_pos rfl]
      simpa using h
    · rw [if_neg hi]
      have hlt := (List.getElem?_eq_some_iff.1 h).1
      rw [List.length_append, List.length_singleton] at hlt
      rw [List.getElem?_append_left (by omega)] at h
      exact hc2 i u h
   exact this
 · exact ⟨by show s.next ≤ s.next + 1; omega, (nw_on (s := s.put r .dead) ho _).trans ho.symm, fun x hx hw => by
    rw [nw_get, if_neg (by show x ≠ s.next; omega), put_get, if_neg hw]⟩
theorem row_ne {b e e' z z' : Nat} {l l' : List (Tr V)} (h : RowAt S b e z l) (h' : RowAt S b e' z' l') : e = e' := by
 obtain ⟨c, h1, _⟩ := h.row
 obtain ⟨c', h2, _⟩ := h'.row
 rw [h1] at h2
 simp only [oS, O.cells.injEq] at h2
 exact h2.1
theorem row_bx {b e e' z : Nat} {l : List (Tr V)} {m : List V} (h : RowAt S b e z l) (h' : Bx S b e' m) : e = e' := by
 obtain ⟨c, h1, _⟩ := h.row
 have h2 : S.heap.get b = some _ := h'
 rw [h1] at h2
 simp only [oS, O.cells.injEq] at h2
 exact h2.1
def PLo (S : St) (v : V) (l : List Pth) (N : Nat) : Prop := PL S v l ∧ ∀ r, blkOf v = some r → N ≤ r ∧ RowAt S r 28 4 (l.map treeP)
theorem PL.lt {v : V} {l : List Pth} {r : Nat} (h : PL S v l) (hr : blkOf v = some r) : r < S.next := by
 rcases h.1 with ⟨_, rfl⟩ | ⟨r', rfl, _, h2, _⟩
 · cases hr
 · cases hr; exact h2
theorem PLo.nil {N : Nat} : PLo S .nilslice [] N := ⟨.nil, fun r h => by cases h⟩
theorem PLo.grew {v : V} {l : List Pth} {N : Nat} (h : PLo S v l N) (g : Grew (fun _ => False) S U) : PLo U v l N := ⟨h.1.grew g, fun r hr => ⟨(h.2 r hr).1, (h.2 r hr).2.grew (h.1.lt hr) (fun h => h) g⟩⟩
theorem PL.grewW {W : Nat → Prop} {v : V} {l : List Pth} (h : PL S v l) (g : Grew W S U) (h1 : ∀ r m, blkOf v = some r → RowR S r 28 4 m → ¬ W r) (h2 : ∀ p ∈ l, ∀ r m, blkOf p.rv = some r → RowAt S r 9 1 m → ¬ W r) : PL U v l := by
 refine ⟨?_, fun p hp => (h.2 p hp).grew (h2 p hp) g⟩
 rcases h.1 with h | ⟨r, rfl, h3, h4, h5⟩
 · exact .inl h
 · exact .inr ⟨r, rfl, h3.grew h4 (h1 r _ rfl h3) g, Nat.lt_of_lt_of_le h4 g.next, h5⟩
theorem PLo.push (ho : S.on = false) {v : V} {l : List Pth} {N : Nat} (h : PLo S v l N) (hN : N ≤ S.next) (hl : l.length ≤ 3000) {p : Pth} (hp : TL S p.rv p.refs) :
 ∃ y W v' U, bsP 28 4 1 (Tr.ofListFrom .nil [(sv []), .nilslice, (sv []), (sv [])] 0) [(0, vAgg p.cells)] S = some (y, W) ∧ apP 28 4 72 v y W = some (v', U) ∧ PLo U v' (l ++ [p]) N ∧ Grew (fun x => blkOf v = some x) S U := by
 obtain ⟨W, w1, w2, w3, w4⟩ := bsP_path ho (Tr.ofListFrom .nil [(sv []), .nilslice, (sv []), (sv [])] 0) p.cells rfl
 have onW := w3.on.trans ho
 have hW := h.1.grew w3
 rcases h.1.1 with ⟨rfl, rfl⟩ | ⟨r, rfl, hrR, hr2, h0⟩
 · obtain ⟨U, k1, k2, k3, k4⟩ := ap4_first onW w2
   refine ⟨_, W, _, U, w1, k1, ⟨⟨.inr ⟨W.next, rfl, .of k2, by omega, by simp⟩, fun q hq => ?_⟩, fun x hx => ?_⟩, (w3.trans k3).mono fun _ _ h => h.elim⟩
   · simp at hq; subst hq
     exact (hp.grew0 w3).grew0 k3
   · cases hx; exact ⟨by omega, k2⟩
 · have hr := (h.2 r rfl).2
   have hrow := hr.grew hr2 (fun h => h) w3
   obtain ⟨U, k1, k2, k3, k4⟩ := ap4_more onW w2 hrow (by rw [List.length_map]; exact hl)
   rw [List.length_map] at k1
   have hlm : (l ++ [p]).length = l.length + 1 := by rw [List.length_append]; rfl
   have k2' : RowAt U W.next 28 4 ((l ++ [p]).map treeP) := by rw [List.map_append]; exact k2
   refine ⟨_, W, _, U, w1, k1, ⟨⟨.inr ⟨W.next, by rw [hlm], .of k2', by omega, by omega⟩, fun q hq => ?_⟩, fun x hx => ?_⟩, (w3.mono fun _ _ h => h.elim).trans (k3.mono fun x _ e => by subst e; rfl)⟩
   · have hq' : TL W q.rv q.refs := by
      rcases List.mem_append.1 hq with h' | h'
      · exact hW.2 q h'
      · simp at h'; subst h'; exact hp.grew0 w3
     exact hq'.grew (fun x e _ hx he => by
      subst he
      exact absurd (row_ne hx hrow) (by decide)) k3
   · cases hx; exact ⟨by omega, k2'⟩
theorem TLo.blk {v : V} {l : List Bs} {N r : Nat} (h : TLo S v l N) (hr : blkOf v = some r) : N ≤ r ∧ RowAt S r 9 1 (rowOf l) := by
 rcases h with ⟨_, rfl⟩ | ⟨r', rfl, h1, h2, h3, _⟩
 · cases hr
 · cases hr; exact ⟨h3, h1⟩
def ltr (k : Nat) : Bs := [UInt8.ofNat (97 + k)]
theorem ltr_nat {k : Nat} (h : k < 100) : (UInt8.ofNat (97 + k)).toNat = 97 + k := by rw [UInt8.toNat_ofNat']; omega
theorem ltr_inj {i k : Nat} (hi : i < 100) (hk : k < 100) (h : ltr i = ltr k) : i = k := by
 unfold ltr at h
 have := congrArg UInt8.toNat (List.cons.inj h).1
 rw [ltr_nat hi, ltr_nat hk] at this
 omega
def bit (n k : Nat) : Bool := decide (n / 2 ^ k % 2 = 1)
end
end Go.Proofs.Ytginkdeicmdmaaa.W
namespace Go.Proofs.Ytginkdeicmdmaaa.W
open Go.Proofs.Ytginkdeicmdmaaa.Ev Go.RowKit
def refsS (b : Bool) (n i x : Nat) : List Bs := ((List.range (if b then i + 1 else n)).filter (bit x)).map ltr
def gOf (ps : List Pth) : List (Bs × List Bs) := ps.map fun p => (p.nm, p.refs)
def smallG (b : Bool) (l : List Nat) (n : Nat) : Nat → List (Bs × List Bs)
 | 0 => []
 | i + 1 => smallG b l n i ++ [(ltr i, refsS b n i (l.getD i 0))]
section
variable {S T U : St}
end
end Go.Proofs.Ytginkdeicmdmaaa.W
namespace Go.Proofs.Ytginkdeicmdmaaa.W
open Go.Proofs.Ytginkdeicmdmaaa.Ev Go.RowKit
theorem smallG_len (b : Bool) (l : List Nat) (n : Nat) : ∀ i, (smallG b l n i).length = i
 | 0 => rfl
 | i + 1 => by
  unfold smallG
  rw [List.length_append, smallG_len b l n i]; rfl
theorem gOf_len {ps : List Pth} {g : List (Bs × List Bs)} (h : gOf ps = g) : ps.length = g.length := by
 rw [← h]; unfold gOf; rw [List.length_map]
section
variable {S T U : St}
theorem eqStr (c d : Bool) (a b : Bs) : binV E0 .eql 9 c d (sv a) (sv b) = some (.bool (a == b)) := by
 rw [binV_ss]
 show (some (V.bool (sEq a.length (pack a) b.length (pack b)))) = _
 rw [sEq_eq]
theorem neStr (c d : Bool) (a b : Bs) : binV E0 .neq 9 c d (sv a) (sv b) = some (.bool (!(a == b))) := by
 rw [binV_ss]
 show (some (V.bool (!sEq a.length (pack a) b.length (pack b)))) = _
 rw [sEq_eq]
end
end Go.Proofs.Ytginkdeicmdmaaa.W
namespace Go.Proofs.Ytginkdeicmdmaaa.W
open Go.Proofs.Ytginkdeicmdmaaa.Ev Go.RowKit
def closedB (ps : List Pth) : Bool := ps.all fun p => p.refs.all fun r => decide (r ∈ names ps)
theorem lkP_dec (r : Bs) (ps : List Pth) : decide (r ∈ names ps) = (lkP r ps).isSome := by
 cases h : lkP r ps with
 | none => rw [decide_eq_false (lkP_none.1 h)]; rfl
 | some q => rw [decide_eq_true (lk_names h)]; rfl
section
variable {S T U : St}
theorem lookAll_run (ho : S.on = false) {es : List ME} {ps : List Pth} (hm : esKV es = kvS (ps.map Pth.kv)) {v : V} {l : List Bs} (hl : TL S v l) : ∀ (d i : Nat), i + d = l.length → lookAll es v d i S = some ((l.drop i).all fun r => decide (r ∈ names ps), S)
 | 0, i, hi => by
  rw [List.drop_of_length_le (by omega)]
  rfl
 | d + 1, i, hi => by
  have hlt : i < l.length := by omega
  obtain ⟨r, o, L, h1, h2, h3⟩ := hl.ix (List.getElem?_eq_getElem hlt)
  have hel : elemPtr 1 i v = some (.ptr r o) := by
   have : ixP 1 v (.int .i64 (i : Int)) = elemPtr 1 i v := by unfold ixP; rw [natOf_cast]; rfl
   rw [← this]; exact h1
  have hld : ld S r o = some (sv l[i], S) := h2.ld1 ho h3
  unfold lookAll
  rw [hel, oB]
  simp only
  rw [hld, oB]
  dsimp only
  rw [show keyOk .string (sv l[i]) = true from rfl, cond_true, mfind_str l[i] (ps.map Pth.kv) es 0 hm, lkS_kv, oB, List.drop_eq_getElem_cons hlt, List.all_cons, lkP_dec]
  cases hq : lkP l[i] ps with
  | none => rfl
  | some q =>
   simp only [Option.map_some, Option.isSome_some, Bool.true_and]
   exact lookAll_run ho hm hl d (i + 1) (by omega)
theorem rowIn_run (ho : S.on = false) {es : List ME} {ps : List Pth} (hm : esKV es = kvS (ps.map Pth.kv)) {v : V} {l : List Bs} (hl : TL S v l) (hlen : l.length < 1000000) : rowIn es v S = some (l.all fun r => decide (r ∈ names ps), S) := by
 have h := lookAll_run ho hm hl l.length 0 (Nat.zero_add _)
 have hn := hl.notStr
 have hL := hl.lenV
 rw [List.drop_zero] at h
 unfold rowIn
 cases v <;> first
  | exact absurd rfl (hn _ _)
  | (simp only [hL, oB]; rw [blt_true.2 (by omega), cond_true]; exact h)
theorem closedAll_run (ho : S.on = false) {es : List ME} {ps : List Pth} (hm : esKV es = kvS (ps.map Pth.kv)) : ∀ (qs : List Pth) (l : List ME), esKV l = kvS (qs.map Pth.kv) → (∀ p ∈ qs, TL S p.rv p.refs) → (∀ p ∈ qs, p.refs.length < 1000000) →
 closedAll es l S = some (qs.all fun p => p.refs.all fun r => decide (r ∈ names ps), S)
 | [], [], _, _, _ => rfl
 | [], e :: l, h, _, _ => by simp [esKV, kvS] at h
 | p :: qs, [], h, _, _ => by simp [esKV, kvS] at h
 | p :: qs, e :: l, h, hr, hs => by
  simp only [esKV, kvS, List.map_cons, List.cons.injEq, pM] at h
  obtain ⟨⟨_, h2⟩, h3⟩ := h
  have h2' : e.v = p.rv := h2
  unfold closedAll
  rw [h2', rowIn_run ho hm (hr p (List.mem_cons_self ..)) (hs p (List.mem_cons_self ..)), oB]
  dsimp only
  rw [closedAll_run ho hm qs l h3 (fun q hq => hr q (List.mem_cons_of_mem _ hq)) (fun q hq => hs q (List.mem_cons_of_mem _ hq)), oB]
  rfl
theorem closed_run (n : Nat) (ho : S.on = false) {v : V} {l : List Pth} (hp : PL S v l) (hF : Fit l) : ∃ U, (ev E0 KD (n + 1)).f 12 [v] S = some (.ret (.bool (closedB (refsOf l))), U) ∧ Grew (fun _ => False) S U := by
 have hF1 := hF.len
 obtain ⟨A, m, a1, a2, a3, a4, a5⟩ := refs_runK (K := fun _ => none) rfl 4 ho hp (by omega)
 have onA := a2.on.trans ho
 obtain ⟨es, c, h1, h2, h3, h4⟩ := a5
 have gD := grew_nw onA (fun _ => False) .dead
 have onD : (nw A .dead).on = false := nw_on onA _
 have hall := closedAll_run (S := nw A .dead) onD h2 (refsOf l) es h2 (fun p hq => ((hp.2 p (refsOf_mem hq)).grew0 a2).grew0 gD) (fun p hq => Nat.lt_trans (hF.refs p (refsOf_mem hq)) (by decide))
 refine ⟨nw A .dead, ?_, a2.trans gD⟩
 rw [ev_known (K := KD) (f := 12) (g := kfClosed) (by rfl)]
 show ((ev E0 (fun _ => none) 5).f 28 [v] S).bind _ = _
 rw [a1, oB]
 show closedK (.map m) A = _
 unfold closedK
 simp only
 rw [getO_off onA h1, oB]
 simp only
 rw [h3, ble_true.2 h4, Bool.and_self, cond_true, oB]
 dsimp only
 rw [hall, oB]
 rfl
theorem works_run (n : Nat) (S : St) : (ev E0 KD (n + 1)).f 14 [] S = some (.ret (.bool true), S) := by
 rw [ev_known (K := KD) (f := 14) (g := kfTrue) (by rfl)]
 exact kfTrue_run S
end
end Go.Proofs.Ytginkdeicmdmaaa.W
namespace Go.Proofs.Ytginkdeicmdmaaa.W
open Go.Proofs.Ytginkdeicmdmaaa.Ev Go.RowKit
section
variable {S T U : St}
def Rw (S : St) (v : V) (z : Nat) (L : List (Tr V)) : Prop := lenV v = some L.length ∧ firstV z L.length v S = some (L, S)
theorem TL.rw (ho : S.on = false) {v : V} {l : List Bs} (h : TL S v l) : Rw S v 1 (rowOf l) := by
 refine ⟨by rw [rowOf_length]; exact h.lenV, ?_⟩
 rw [rowOf_length]
 rcases h with ⟨rfl, rfl | rfl | ⟨r, c, rfl⟩⟩ | ⟨r, off, L, h1, h2, h3, h4, h5⟩
 · rfl
 · rfl
 · rfl
 · have := h1.ldN ho l.length off (by rw [rowOf_length]; exact h3)
   rw [Nat.mul_one] at this
   have e : ((rowOf L).drop off).take l.length = rowOf l := by
    unfold rowOf
    rw [← List.map_drop, ← List.map_take, h4]
   rw [e] at this
   rcases h5 with rfl | ⟨c, rfl⟩ <;> exact this
theorem PL.rw (ho : S.on = false) {v : V} {l : List Pth} (h : PL S v l) : Rw S v 4 (l.map treeP) := by
 refine ⟨by rw [List.length_map]; exact h.lenV, ?_⟩
 rcases h.1 with ⟨rfl, rfl⟩ | ⟨r, rfl, h1, h2, h3⟩
 · rfl
 · have := h1.ldN ho (l.map treeP).length 0 (by omega)
   rw [Nat.zero_mul, List.drop_zero, List.take_of_length_le (Nat.le_refl _)] at this
   exact this
theorem app_none {e z B r : Nat} (ho : S.on = false) {y : V} {M : List (Tr V)} (hr : RowAt S r e z M) (h : Rw S y z []) (hB : M.length * (B + z + 1) < maxCells) : apP e z B (.oslice r 0 M.length z) y S = some (.oslice r 0 M.length z, S) := by
 unfold apP
 have h1 : lenV y = some 0 := h.1
 have h2 : firstV z 0 y S = some ([], S) := h.2
 rw [h1, oB, show lenV (.oslice r 0 M.length z) = some M.length from rfl, oB, Nat.add_zero, blt_true.2 hB, cond_true]
 unfold appendV
 rw [h2, oB]
 simp only
 obtain ⟨c, hc1, hc2⟩ := hr.row
 rw [Nat.beq_refl, cond_true]
 unfold sizeB
 rw [hc1]
 simp only [blt_true.2 hr.fit, cond_true, oB, note_off ho, Nat.add_zero, Nat.zero_add]
 rw [show Nat.ble (M.length * z) (z * M.length) = true from by rw [ble_true, Nat.mul_comm]; exact Nat.le_refl _, cond_true]
 rfl
theorem app_more {e z B r : Nat} (ho : S.on = false) {y : V} {M L : List (Tr V)} (hr : RowAt S r e z M) (h : Rw S y z L) (hL : L ≠ []) (hB : (M.length + L.length) * (B + z + 1) < maxCells) (hbig : z * (M.length + L.length) < big) :
 ∃ U, apP e z B (.oslice r 0 M.length z) y S = some (.oslice S.next 0 (M.length + L.length) z, U) ∧ RowAt U S.next e z (M ++ L) ∧ Grew (fun x => x = r) S U ∧ U.next = S.next + 1 := by
 obtain ⟨c, hc1, hc2⟩ := hr.row
 have hfit := hr.fit
 have hz := hr.pos
 have hLp : 0 < L.length := List.length_pos_iff.2 hL
 refine ⟨nw (S.put r .dead) (.cells e z (M.length + L.length) false (Go.Proofs.Ytginkdeicmdmaaa.Ev.addL c L M.length)), ?_, ?_, ?_, rfl⟩
 · unfold apP
   rw [h.1, oB, show lenV (.oslice r 0 M.length z) = some M.length from rfl, oB, blt_true.2 hB, cond_true]
   unfold appendV
   rw [h.2, oB]
   simp only
   rw [Nat.beq_refl, cond_true]
   unfold sizeB
   rw [hc1]
   simp only [blt_true.2 hfit, cond_true, oB, note_off ho]
   rw [show Nat.ble (0 + (M.length + L.length) * z) (z * M.length) = false from by
    rw [ble_false, Nat.zero_add, Nat.mul_comm z, Nat.add_mul]
    have : 0 < L.length * z := Nat.mul_pos hLp hz
    omega, cond_false]
   unfold growV
   rw [hc1]
   simp only [Nat.beq_refl, Bool.not_true, Bool.or_self, cond_false, show Nat.beq 0 0 = true from rfl, blt_true.2 hfit, Bool.and_self, cond_true]
   rw [addLC_eq, setO_off ho]
 · refine rowAt_nw (s := S.put r .dead) ho hz (by rw [List.length_append]) hbig fun i t hi => ?_
   rw [Go.Proofs.Ytginkdeicmdmaaa.Ev.addL_get]
   have hlt := (List.getElem?_eq_some_iff.1 hi).1
   rw [List.length_append] at hlt
   by_cases hc : M.length ≤ i
   · rw [if_pos ⟨hc, hlt⟩]
     rw [List.getElem?_append_right hc] at hi
     exact hi
   · rw [if_neg (fun h => hc h.1)]
     rw [List.getElem?_append_left (by omega)] at hi
     exact hc2 i t hi
 · exact ⟨by show S.next ≤ S.next + 1; omega, (nw_on (s := S.put r .dead) ho _).trans ho.symm, fun x hx hw => by
    rw [nw_get, if_neg (by show x ≠ S.next; omega), put_get, if_neg hw]⟩
end
end Go.Proofs.Ytginkdeicmdmaaa.W
namespace Go.Proofs.Ytginkdeicmdmaaa.W
theorem foldl_addP : ∀ (l out : List Pth), (names (out ++ l)).Nodup → l.foldl addP out = out ++ l
 | [], out, _ => by simp
 | p :: l, out, h => by
  have hp : lkP p.nm out = none := by
   rw [lkP_none]
   intro hm
   unfold names at h hm
   rw [List.map_append, List.nodup_append] at h
   exact h.2.2 _ hm p.nm (by simp) rfl
  have e : addP out p = out ++ [p] := by unfold addP; rw [hp]; rfl
  rw [List.foldl_cons, e, foldl_addP l (out ++ [p]) (by rw [List.append_assoc]; exact h), List.append_assoc]; rfl
theorem refsOf_id {l : List Pth} (h : (names l).Nodup) : refsOf l = l := by
 unfold refsOf
 rw [foldl_addP l [] (by exact h), List.nil_append]
theorem mem_closL {l : List Pth} {f : List Bs} {a : Bs} : a ∈ closL l f ↔ Rch (refsOf l) f a := by
 unfold closL
 rw [mem_sortB, mem_reachL]
theorem closL_pw (l : List Pth) (f : List Bs) : (closL l f).Pairwise (· < ·) := sortB_pw (reachL_nd _ _)
theorem mem_deadL {l : List Pth} {f : List Bs} {a : Bs} : a ∈ deadL l f ↔ a ∈ names (refsOf l) ∧ ¬ Rch (refsOf l) f a := by
 unfold deadL
 rw [List.mem_filter, mem_sortB]
 simp only [Bool.not_eq_true', decide_eq_false_iff_not, mem_reachL]
theorem deadL_pw (l : List Pth) (f : List Bs) : (deadL l f).Pairwise (· < ·) := (sortB_pw (refsOf_nd l)).filter _
theorem lt_nodup {l : List Bs} (h : l.Pairwise (· < ·)) : l.Nodup := h.imp fun hab e => by subst e; exact List.lt_irrefl _ hab
theorem clos_dead_len (l : List Pth) (f : List Bs) : (closL l f).length + (deadL l f).length = (refsOf l).length := by
 have h1 : (closL l f ++ deadL l f).Perm (names (refsOf l)) := by
  refine (List.perm_ext_iff_of_nodup ?_ (refsOf_nd l)).2 fun a => ?_
  · rw [List.nodup_append]
    exact ⟨lt_nodup (closL_pw l f), lt_nodup (deadL_pw l f), fun a ha b hb e => by subst e; exact (mem_deadL.1 hb).2 (mem_closL.1 ha)⟩
  · rw [List.mem_append, mem_closL, mem_deadL]
    by_cases h : Rch (refsOf l) f a
    · simp [h, h.mem]
    · simp [h]
 have := h1.length_eq
 rw [List.length_append] at this
 unfold names at this
 rwa [List.length_map] at this
theorem Rch.mono {ps : List Pth} {f g : List Bs} (h : ∀ a ∈ f, a ∈ names ps → Rch ps g a) {a : Bs} (ha : Rch ps f a) : Rch ps g a := by
 induction ha with
 | root h1 h2 => exact h _ h1 h2
 | step _ hq hr hn ih => exact .step ih hq hr hn
theorem lkP_old {a : Bs} {l : List Pth} {p : Pth} (h : a ≠ p.nm) : lkP a (l ++ [p]) = lkP a l := by
 induction l with
 | nil => show lkP a [p] = none; unfold lkP; rw [if_neg h]; rfl
 | cons q l ih =>
  rw [List.cons_append]
  unfold lkP
  rw [ih]
end Go.Proofs.Ytginkdeicmdmaaa.W
namespace Go.Proofs.Ytginkdeicmdmaaa.W
open Go.Proofs.Ytginkdeicmdmaaa.Ev Go.RowKit
theorem smallG_names (b : Bool) (l : List Nat) (n : Nat) : ∀ i, (smallG b l n i).map (·.1) = (List.range i).map ltr
 | 0 => rfl
 | i + 1 => by
  unfold smallG
  rw [List.map_append, smallG_names b l n i, List.range_succ, List.map_append]; rfl
theorem smallG_mem {b : Bool} {l : List Nat} {n : Nat} : ∀ {i : Nat} {g : Bs × List Bs}, g ∈ smallG b l n i → ∃ j, j < i ∧ g = (ltr j, refsS b n j (l.getD j 0))
 | 0, g, h => by cases h
 | i + 1, g, h => by
  unfold smallG at h
  rcases List.mem_append.1 h with h | h
  · obtain ⟨j, h1, h2⟩ := smallG_mem h
    exact ⟨j, by omega, h2⟩
  · simp at h; exact ⟨i, by omega, h⟩
theorem smallG_get (b : Bool) (l : List Nat) (n : Nat) {j : Nat} : ∀ {i : Nat}, j < i → (smallG b l n i)[j]? = some (ltr j, refsS b n j (l.getD j 0))
 | 0, h => by omega
 | i + 1, h => by
  unfold smallG
  by_cases hj : j < i
  · rw [List.getElem?_append_left (by rw [smallG_len]; exact hj), smallG_get b l n hj]
  · have : j = i := by omega
    subst this
    rw [List.getElem?_append_right (by rw [smallG_len]; exact Nat.le_refl _), smallG_len, Nat.sub_self]; rfl
structure Small (ps : List Pth) (b : Bool) (l : List Nat) (n : Nat) : Prop where
 g : gOf ps = smallG b l n n
 n14 : n ≤ 14
section
variable {ps : List Pth} {b : Bool} {l : List Nat} {n : Nat}
theorem Small.len (h : Small ps b l n) : ps.length = n := by rw [gOf_len h.g, smallG_len]
theorem Small.names (h : Small ps b l n) : names ps = (List.range n).map ltr := by
 rw [← smallG_names b l n n, ← h.g]
 unfold gOf W.names
 rw [List.map_map]; rfl
theorem Small.nd (h : Small ps b l n) : (W.names ps).Nodup := by
 have h14 := h.n14
 rw [h.names]
 unfold List.Nodup
 rw [List.pairwise_map]
 refine List.Pairwise.imp_of_mem (fun {x y} hx hy hlt e => ?_) List.pairwise_lt_range
 rw [List.mem_range] at hx hy
 have := ltr_inj (by omega) (by omega) e
 omega
theorem Small.get (h : Small ps b l n) {i : Nat} (hi : i < n) : ∃ p, ps[i]? = some p ∧ p.nm = ltr i ∧ p.refs = refsS b n i (l.getD i 0) := by
 have h1 := smallG_get b l n (j := i) (i := n) hi
 rw [← h.g] at h1
 unfold gOf at h1
 rw [List.getElem?_map] at h1
 cases hp : ps[i]? with
 | none => rw [hp] at h1; cases h1
 | some p =>
  rw [hp] at h1
  simp only [Option.map_some, oS, pM] at h1
  exact ⟨p, rfl, h1.1, h1.2⟩
theorem Small.mem (h : Small ps b l n) {p : Pth} (hp : p ∈ ps) : ∃ i, i < n ∧ p.nm = ltr i ∧ p.refs = refsS b n i (l.getD i 0) := by
 have : (p.nm, p.refs) ∈ gOf ps := by unfold gOf; exact List.mem_map.2 ⟨p, hp, rfl⟩
 rw [h.g] at this
 obtain ⟨j, h1, h2⟩ := smallG_mem this
 simp only [pM] at h2
 exact ⟨j, h1, h2.1, h2.2⟩
theorem mem_refsS {b : Bool} {n i x : Nat} {r : Bs} (hi : i < n) (h : r ∈ refsS b n i x) : ∃ k, k < n ∧ r = ltr k ∧ (b = true → k ≤ i) ∧ bit x k = true := by
 unfold refsS at h
 rw [List.mem_map] at h
 obtain ⟨k, h1, rfl⟩ := h
 rw [List.mem_filter, List.mem_range] at h1
 cases b with
 | false => exact ⟨k, by simpa using h1.1, rfl, by simp, h1.2⟩
 | true => exact ⟨k, by simp at h1; omega, rfl, fun _ => by simp at h1; omega, h1.2⟩
theorem refsS_len {b : Bool} {n i x : Nat} (hi : i < n) : (refsS b n i x).length ≤ n := by
 unfold refsS
 rw [List.length_map]
 refine Nat.le_trans (List.length_filter_le _ _) ?_
 rw [List.length_range]
 cases b <;> simp <;> omega
theorem Small.closed (h : Small ps b l n) {p : Pth} (hp : p ∈ ps) {r : Bs} (hr : r ∈ p.refs) : r ∈ W.names ps := by
 obtain ⟨i, h1, h2, h3⟩ := h.mem hp
 rw [h3] at hr
 obtain ⟨k, k1, rfl, _⟩ := mem_refsS h1 hr
 rw [h.names]
 exact List.mem_map.2 ⟨k, List.mem_range.2 k1, rfl⟩
theorem Small.fit (h : Small ps b l n) : Fit ps := by
 have h14 := h.n14
 refine ⟨by rw [h.len]; omega, fun p hp => ?_, fun p hp => ?_⟩
 · obtain ⟨i, _, h2, _⟩ := h.mem hp
   rw [h2]; show 1 < _; omega
 · obtain ⟨i, h1, _, h3⟩ := h.mem hp
   rw [h3]
   have := refsS_len (b := b) (x := l.getD i 0) h1
   omega
theorem Small.refs (h : Small ps b l n) : refsOf ps = ps := refsOf_id h.nd
theorem mem_names {ps : List Pth} {a : Bs} : a ∈ W.names ps ↔ ∃ p ∈ ps, p.nm = a := by unfold W.names; rw [List.mem_map]
end
section
variable {S T U : St}
theorem TLo.push3 (ho : S.on = false) {v : V} {l : List Bs} {N : Nat} (h : TLo S v l N) (hN : N ≤ S.next) (hl : l.length < 100000) (a : Bs) :
 ∃ y W v' U, bsP 9 1 1 (Go.Proofs.Ytginkdeicmdmaaa.Ev.one (sv [])) [(0, sv a)] S = some (y, W) ∧ apP 9 1 16 v y W = some (v', U) ∧ TLo U v' (l ++ [a]) N ∧ Grew (fun x => blkOf v = some x) S U ∧ ∀ r, blkOf v' = some r → S.next ≤ r := by
 obtain ⟨W, h1, h2, h3, h4⟩ := bsP_one ho 9 (Go.Proofs.Ytginkdeicmdmaaa.Ev.one (sv [])) (oneV_sv a)
 have on1 := h3.on.trans ho
 have hlm : (l ++ [a]).length = l.length + 1 := by rw [List.length_append]; rfl
 rcases h with ⟨rfl, rfl⟩ | ⟨r, rfl, hr, hr2, hr3, h0⟩
 · obtain ⟨U, k1, k2, k3, k4⟩ := ap1_first (B := 16) on1 h2 (by unfold maxCells; omega)
   exact ⟨_, W, _, U, h1, k1, .inr ⟨W.next, rfl, k2, by omega, by omega, by simp⟩, (h3.trans k3).mono fun _ _ h => h.elim, fun r hr => by cases hr; omega⟩
 · have hrow := hr.grew hr2 (fun h => h) h3
   obtain ⟨U, k1, k2, k3, k4⟩ := ap1_more (B := 16) on1 h2 hrow (by rw [rowOf_length]; unfold maxCells; omega) (by rw [rowOf_length]; unfold big; omega)
   rw [rowOf_length] at k1
   refine ⟨_, W, _, U, h1, k1, .inr ⟨W.next, by rw [hlm], ?_, by omega, by omega, by omega⟩, (h3.mono fun _ _ h => h.elim).trans (k3.mono fun x _ e => by subst e; rfl), fun r hr => by cases hr; omega⟩
   rw [rowOf_append]
   exact k2
theorem TLo.lt {v : V} {l : List Bs} {N r : Nat} (h : TLo S v l N) (hr : blkOf v = some r) : r < S.next := by
 rcases h with ⟨_, rfl⟩ | ⟨r', rfl, _, h2, _⟩
 · cases hr
 · cases hr; exact h2
theorem TLo.grewW {W : Nat → Prop} {v : V} {l : List Bs} {N : Nat} (h : TLo S v l N) (g : Grew W S U) (hw : ∀ r, blkOf v = some r → ¬ W r) : TLo U v l N := by
 rcases h with h | ⟨r, rfl, h1, h2, h3⟩
 · exact .inl h
 · exact .inr ⟨r, rfl, h1.grew h2 (hw r rfl) g, Nat.lt_of_lt_of_le h2 g.next, h3⟩
structure Two (S : St) (x y : V) (lx ly : List Bs) (N : Nat) : Prop where
 tx : TLo S x lx N
 ty : TLo S y ly N
 ne : ∀ r, blkOf x = some r → blkOf y ≠ some r
theorem Two.symm {x y : V} {lx ly : List Bs} {N : Nat} (h : Two S x y lx ly N) : Two S y x ly lx N := ⟨h.ty, h.tx, fun r h1 h2 => h.ne r h2 h1⟩
theorem Two.push (ho : S.on = false) {x y : V} {lx ly : List Bs} {N : Nat} (h : Two S x y lx ly N) (hN : N ≤ S.next) (hl : lx.length < 100000) (a : Bs) :
 ∃ y0 W x' U, bsP 9 1 1 (Go.Proofs.Ytginkdeicmdmaaa.Ev.one (sv [])) [(0, sv a)] S = some (y0, W) ∧ apP 9 1 16 x y0 W = some (x', U) ∧ Two U x' y (lx ++ [a]) ly N ∧ Grew (fun x => N ≤ x) S U := by
 obtain ⟨y0, W, x', U, h1, h2, h3, h4, h5⟩ := h.tx.push3 ho hN hl a
 refine ⟨y0, W, x', U, h1, h2, ⟨h3, h.ty.grewW h4 fun r hr hx => h.ne r hx hr, fun r hr hy => ?_⟩, h4.mono fun z _ hz => (h.tx.blk hz).1⟩
 have := h5 r hr
 have := h.ty.lt hy
 omega
theorem ld1_lg (ho : S.on = false) {b i : Nat} {v : V} (h : ld1 (.ptr b i) S = some (v, S)) (l : List LE) : ld1 (.ptr b i) (S.lg l) = some (v, S.lg (⟨b, i, i + 1, false⟩ :: l)) := by
 have h' : ld S b i = some (v, S) := h
 show ld (S.lg l) b i = _
 unfold ld at h' ⊢
 rw [show (S.lg l).heap = S.heap from rfl]
 split at h'
 · rename_i e esz n ro c hb
   cases hc : (Nat.blt i (esz * n) && Nat.blt (esz * n) big) with
   | false => rw [hc] at h'; cases h'
   | true =>
    rw [hc] at h'
    simp only [cond_true, oI, oS, pM] at h' ⊢
    obtain ⟨t, h1, w, h2, rfl, _⟩ := h'
    exact ⟨t, h1, w, h2, rfl, rfl⟩
 · cases h'
theorem TL.ldOn (ho : S.on = false) {v : V} {l : List Bs} (h : TL S v l) {i : Nat} {a : Bs} (ha : l[i]? = some a) (L : List LE) : ∃ p r o, ixP 1 v (.int .i64 (i : Int)) = some p ∧ ld1 p (S.lg L) = some (sv a, S.lg (⟨r, o, o + 1, false⟩ :: L)) := by
 obtain ⟨r, o, M, h1, h2, h3⟩ := h.ix ha
 exact ⟨_, r, o, h1, ld1_lg ho (show ld1 (.ptr r o) S = _ from h2.ld1 ho h3) L⟩
theorem relog_same {T : St} (ho : S.on = false) (hT : T.on = false) (hl : T.log = S.log) (l : List LE) (ls : List (List LE)) : relog S (T.lg l) ls = T := by
 unfold relog
 rw [ho]
 cases T
 simp only at hT hl
 subst hT; subst hl
 rfl
theorem rds_of {logs : List (List LE)} (h : ∀ L ∈ logs, ∀ e ∈ L, e.w = false) : rds logs = true := by
 unfold rds
 rw [List.all_eq_true]
 intro L hL
 rw [List.all_eq_true]
 intro e he
 rw [h L hL e he]; rfl
end
end Go.Proofs.Ytginkdeicmdmaaa.W
namespace Go.Proofs.Ytginkdeicmdmaaa.W
open Go.Proofs.Ytginkdeicmdmaaa.Ev Go.RowKit
theorem neBool (a b : Bool) : binV E0 .neq 4 false false (.bool a) (.bool b) = some (.bool (a != b)) := by cases a <;> cases b <;> kernel_rfl
section
variable {S T U : St}
end
end Go.Proofs.Ytginkdeicmdmaaa.W
namespace Go.Proofs.Ytginkdeicmdmaaa.W
open Go.Proofs.Ytginkdeicmdmaaa.Ev Go.RowKit
theorem closL_len (l : List Pth) (f : List Bs) : (closL l f).length ≤ l.length := by
 have h1 := clos_dead_len l f
 have h2 := refsOf_len l
 omega
section
variable {ps : List Pth} {b : Bool} {l : List Nat} {n : Nat}
end
section
variable {S T U : St}
theorem neqInt (a c : Nat) : binV E0 .neq 3 false false (.int .i64 (a : Int)) (.int .i64 (c : Int)) = some (.bool (!decide (a = c))) := by
 rw [binV_ii, intsV_neq]
 congr 3
 rw [decide_eq_decide]; omega
end
end Go.Proofs.Ytginkdeicmdmaaa.W
namespace Go.Proofs.Ytginkdeicmdmaaa.W
open Go.Proofs.Ytginkdeicmdmaaa.Ev Go.RowKit Go.Proofs
theorem sok44 : SortedOk Try.prog 44 [53, 54] 9 := sortedOk_of Try.sorted44 Try.sort52 rfl [53, 54] fun g hg => by
 simp only [List.mem_cons, List.not_mem_nil, or_false] at hg
 rcases hg with rfl | rfl
 · exact ⟨Try.keys45_ren, { Try.keys45 with }, rfl, rfl⟩
 · exact ⟨Try.keys47_ren, { Try.keys47 with }, rfl, rfl⟩
theorem okA : KnOk Try.prog E0 KA := knOk_nil.add (sorted_well sok44)
theorem okB : KnOk Try.prog E0 KB := okA.add closed_well
theorem glob0 : ∀ g, E0.glob.get g = none := fun _ => rfl
theorem works_runs : saysTrue ((ev E0 KB 400).f 14 [] s0) = true := by decide +kernel
theorem kn14 : KnWell Try.prog E0 14 kfTrue := by
 refine ⟨specKF_loc, fun w0 ρ s w args cargs e t hR hv hg => ?_⟩
 unfold kfTrue specKF at hg
 simp only at hg
 by_cases hx : ∃ x : Unit, ([] : List V) = args
 · rw [dif_pos hx] at hg
   simp only [oS, pM] at hg
   obtain ⟨rfl, rfl⟩ := hg
   obtain ⟨_, rfl⟩ := hx
   obtain ⟨l⟩ := cargs
   cases hv
   exact (closed_walk E0_ok okB glob0 works_runs w).mono fun ce w' ⟨h1, h2⟩ => ⟨ρ, .bool true, h1, Rho.le_refl ρ, .bool true, hR.grown h2⟩
 · rw [dif_neg hx] at hg; cases hg
theorem okD : KnOk Try.prog E0 KD := okB.add kn14
def frz (W : World) : Rho := ⟨fun _ => none, fun k => W.heap[k]?⟩
theorem relF (W : World) : Rel E0 (base0 W) (frz W) s0 W :=
 ⟨⟨rfl, rfl, rfl, Nat.le_refl _, fun _ _ => rfl⟩, fun _ _ => rfl, Nat.le_refl _, fun b o h => by simp [s0, Tr.get_nil] at h, fun b b' o o' cb sh sz sh' sz' h => by simp [s0, Tr.get_nil] at h, fun g b h => (by rw [glob0] at h; cases h), fun k o h => h, fun b o cb sh sz h => (by simp [s0, Tr.get_nil] at h), fun k o h _ => trivial⟩
end Go.Proofs.Ytginkdeicmdmaaa.W
namespace Go.Proofs.Ytginkdeicmdmaaa.W
open Go.Proofs.Ytginkdeicmdmaaa.Ev Go.RowKit
section
variable {S T U : St}
end
theorem u23 : Try.prog.underlying 23 = some (.int .u16) := by kernel_rfl
theorem mapM_range_some {α : Type} {f : Nat → Option α} : ∀ (n k : Nat) {r : List α}, ((List.range' k n).mapM f) = some r → r.length = n ∧ ∀ i, i < n → ∃ y, r[i]? = some y ∧ f (k + i) = some y
 | 0, k, r, h => by
  simp at h; subst h
  exact ⟨rfl, fun i hi => by omega⟩
 | n + 1, k, r, h => by
  rw [List.range'_succ, List.mapM_cons] at h
  simp only [Option.bind_eq_bind, oI, Option.pure_def, oS] at h
  obtain ⟨y, hy, r', hr', rfl⟩ := h
  obtain ⟨h1, h2⟩ := mapM_range_some n (k + 1) hr'
  refine ⟨by simp [h1], fun i hi => ?_⟩
  cases i with
  | zero => exact ⟨y, rfl, hy⟩
  | succ i =>
   obtain ⟨z, hz1, hz2⟩ := h2 i (by omega)
   exact ⟨z, by simpa using hz1, by rw [show k + (i + 1) = k + 1 + i by omega]; exact hz2⟩
theorem cells?_at {W : World} {a : Addr} {n : Nat} {cs : List Value} (h : W.cells? 0 a n = some cs) : cs.length = n ∧ ∀ i, i < n → ∃ y, cs[i]? = some y ∧ W.cell? (a.add i) = some y := by
 unfold World.cells? at h
 rw [if_pos (Nat.zero_le _), List.range_eq_range'] at h
 obtain ⟨h1, h2⟩ := mapM_range_some n 0 h
 exact ⟨h1, fun i hi => by
  obtain ⟨y, hy1, hy2⟩ := h2 i hi
  exact ⟨y, hy1, by rw [Nat.zero_add] at hy2; exact hy2⟩⟩
theorem add_eq {a : Addr} (h : a.spot = none) (n : Nat) : a.add n = ⟨a.block, a.off + n, none⟩ := by
 unfold Addr.add
 split
 · rename_i h0
   subst h0
   cases a
   simp only at h
   subst h
   rfl
 · rfl
end Go.Proofs.Ytginkdeicmdmaaa.W
