/-
  WHAT THE FUNCTIONS COME TO: each is read by the evaluator, printed, and told as a function of data, part 7 of 8 (no condition).
-/
import Derived.Test.YtmeohejdafbodaaW6
namespace Go.Proofs.Ytmeohejdafbodaa.W
open Go.Proofs.Ytmeohejdafbodaa.Ev Go.RowKit
def numb : Nat → List V → List (Nat × V)
 | _, [] => []
 | i, v :: l => (i, v) :: numb (i + 1) l
theorem fillE_numb (n : Nat) : ∀ (vs : List V) (i : Nat) (c : Tr (Tr V)), (∀ v ∈ vs, OneV v) → i + vs.length ≤ n → ∃ c', qg8 n 1 c (numb i vs) = some c' ∧ ∀ j, (∀ v, i ≤ j → vs[j - i]? = some v → c'.get j = some (Go.Proofs.Ytmeohejdafbodaa.Ev.one v)) ∧ (j < i → c'.get j = c.get j)
 | [], i, c, _, _ => ⟨c, rfl, fun j => ⟨fun v _ h => by simp at h, fun _ => rfl⟩⟩
 | v :: vs, i, c, hv, hn => by
  have h1 := hv v (List.mem_cons_self ..)
  rw [List.length_cons] at hn
  obtain ⟨c', h2, h3⟩ := fillE_numb n vs (i + 1) (c.set (Go.Proofs.Ytmeohejdafbodaa.Ev.one v) i) (fun w hw => hv w (List.mem_cons_of_mem _ hw)) (by omega)
  refine ⟨c', ?_, fun j => ⟨fun w hj hw => ?_, fun hj => ?_⟩⟩
  · show qg8 n 1 c ((i, v) :: numb (i + 1) vs) = _
    unfold qg8
    rw [h1.size, h1.tup, h1.cells, show Nat.blt i n = true from blt_true.2 (by omega)]
    simp only [Nat.beq_refl, Bool.not_false, Bool.and_self, cond_true, Tr.setC_eq]
    exact h2
  · by_cases e : j = i
    · subst e
      rw [Nat.sub_self] at hw
      simp only [List.getElem?_cons_zero, oS] at hw
      rw [(h3 j).2 (by omega), Tr.get_set, if_pos rfl, hw]
    · refine (h3 j).1 w (by omega) ?_
      rw [show j - i = (j - (i + 1)) + 1 by omega, List.getElem?_cons_succ] at hw
      exact hw
  · rw [(h3 j).2 (by omega), Tr.get_set, if_neg (by omega)]
section
variable {S : St}
theorem bsP_ones (ho : S.on = false) (e : Nat) (z : Tr V) (vs : List V) (hv : ∀ v ∈ vs, OneV v) (hf : vs.length < big) : ∃ U, (∀ m, bsP e 1 vs.length z (numb 0 vs) (stt S m) = some (.slice S.next 0 vs.length vs.length, stt U (m.map fun l => ⟨S.next, 0, big, true⟩ :: l))) ∧ RowAt U S.next e 1 (vs.map Go.Proofs.Ytmeohejdafbodaa.Ev.one) ∧ Grew (fun _ => False) S U ∧ U.next = S.next + 1 := by
 obtain ⟨c, h1, h2⟩ := fillE_numb vs.length vs 0 (Tr.tab vs.length vs.length fun _ => z) hv (by omega)
 refine ⟨nw S (.cells e 1 vs.length false c), fun m => ?_, ?_, qch ho _ _, rfl⟩
 · unfold bsP
   rw [h1, oB]
   cases m with
   | none => rfl
   | some l =>
    show some (V.slice S.next 0 vs.length vs.length, nw (S.lg l) _) = _
    rw [nw_lg ho]; rfl
 · refine qf0 ho (by omega) (by rw [List.length_map]) (by omega) fun i t h => ?_
   rw [List.getElem?_map] at h
   cases hg : vs[i]? with
   | none => rw [hg] at h; cases h
   | some v =>
    rw [hg] at h
    simp only [Option.map_some, oS] at h
    rw [← h]
    exact (h2 i).1 v (Nat.zero_le _) hg
variable {T U : St}
theorem addStr (c d : Bool) {a b : Bs} (h : a.length + b.length < 4611686018427387904) : qad E0 .add 9 c d (sv a) (sv b) = some (sv (a ++ b)) := by
 rw [binV_ss, strOp_add _ _ h]
theorem body57 : E0.ext.get 57 = none ∧ qbm E0 57 = true := ⟨by kernel_rfl, by kernel_rfl⟩
theorem f57_run (m : Nat) (S : St) : (ev E0 KD (m + 1)).f 57 [.int .u8 120] S = some (.ret (.bool true), S) := rd57 (by
 show F57 (ev E0 KD m) qa1 (.int .u8 120) S = _
 rw [F57_eq]
 kernel_rfl)
theorem f61_run (ho : S.on = false) (m : Nat) {r c : Nat} {l : List (Tr V)} (h : RowAt S r 85 1 l) (h0 : l[0]? = some (Go.Proofs.Ytmeohejdafbodaa.Ev.one (.fn (.func 57) [] []))) : (ev E0 KD (m + 2)).f 61 [.int .u8 120, .slice r 0 4 c] S = some (.ret (.bool true), S) := rd61 (by
 show F61 (ev E0 KD (m + 1)) qa1 (.int .u8 120) (.slice r 0 4 c) S = _
 obtain ⟨n, hn⟩ : ∃ n, qa1 = n + 1 := ⟨qa1 - 1, by unfold qa1; omega⟩
 rw [F61_eq, lnS_of (n := 4) (fun _ _ e => by cases e) rfl, oB]
 dsimp only
 rw [hn, L61_6_eq, show V.int .i64 0 = .int .i64 ((0 : Nat) : Int) from rfl, qmq, decide_eq_true (by omega), oB, ifK_bool, cond_true, show ixP 1 (.slice r 0 4 c) (.int .i64 ((0 : Nat) : Int)) = some (.ptr r 0) from rfl, oB, show ld1 (.ptr r 0) S = some (_, S) from h.ld1 ho h0, oB]
 dsimp only
 rw [qeu body57.1 body57.2]
 show qb6 ((ev E0 KD (m + 1)).f 57 [.int .u8 120] S) _ = _
 rw [f57_run, callP_ret, ifK_bool, cond_true])
theorem f31_run (ho : S.on = false) (m : Nat) : ∃ U, (ev E0 KD (m + 3)).f 31 [sv [120]] S = some (.ret (.int .i64 0), U) ∧ Grew (fun _ => False) S U := by
 obtain ⟨U, a1, a2, a3, a4⟩ := bsP_ones ho 85 (Go.Proofs.Ytmeohejdafbodaa.Ev.one .nilfn) [.fn (.func 57) [] [], .fn (.func 58) [] [], .fn (.func 59) [] [], .fn (.func 60) [] []] (fun v hv => by
  simp only [List.mem_cons, List.not_mem_nil, or_false] at hv
  rcases hv with rfl | rfl | rfl | rfl <;> exact ⟨rfl, rfl, rfl, rfl⟩) (by show 4 < big; unfold big; decide)
 have a1' : bsP 85 1 4 (Go.Proofs.Ytmeohejdafbodaa.Ev.one .nilfn) [(0, .fn (.func 57) [] []), (1, .fn (.func 58) [] []), (2, .fn (.func 59) [] []), (3, .fn (.func 60) [] [])] S = some (.slice S.next 0 4 4, U) := a1 none
 refine ⟨U, rd31 ?_, a3⟩
 obtain ⟨n, hn⟩ : ∃ n, qa1 = n + 2 := ⟨qa1 - 2, by unfold qa1; omega⟩
 show F31 (ev E0 KD (m + 2)) qa1 (sv [120]) S = _
 rw [F31_eq, qbp, oB]
 dsimp only
 rw [show qad E0 .gtr 3 false true (.int .i64 (([120] : Bs).length : Int)) (.int .i64 20) = some (.bool false) from rfl, oB, ifK_bool, cond_false, qbp, oB]
 dsimp only
 rw [hn, L31_22_eq, show V.int .i64 0 = .int .i64 ((0 : Nat) : Int) from rfl, qmq, decide_eq_true (by decide), oB, ifK_bool, cond_true, show ixS (sv [120]) (.int .i64 ((0 : Nat) : Int)) = some (.int .u8 120) from rfl, oB, a1', oB]
 dsimp only
 rw [f61_run (a3.on.trans ho) m a2 rfl, callP_ret, unV_not, oB, ifK_bool, Bool.not_true, cond_false, qk9 (by decide), oB, L31_22_eq, qmq, decide_eq_false (by decide), oB, ifK_bool, cond_false, exB_same, R31_9_eq]
 kernel_rfl
theorem f14_run (ho : S.on = false) (m : Nat) (h : Bs) (hh : h.length < 9223372036854775808) : ∃ U, (ev E0 KD (m + 4)).f 14 [sv h, sv [120]] S = some (.ret (.tuple (if isH h then [sv (h ++ [45] ++ [120]), .int .i64 0] else [sv [], .int .i64 2])), U) ∧ Grew (fun _ => False) S U := by
 obtain ⟨U1, a1, a2⟩ := f30_run (m + 1) S ho h hh
 cases hi : isH h with
 | false =>
  refine ⟨U1, rd14 ?_, a2⟩
  show F14 (ev E0 KD (m + 3)) qa1 (sv h) (sv [120]) S = _
  rw [F14_eq, a1, callP_ret, unV_not, oB, ifK_bool, hi, Bool.not_false, cond_true]
  rfl
 | true =>
  have h32 := isH_len hi
  obtain ⟨U2, b1, b2⟩ := f31_run (a2.on.trans ho) m
  refine ⟨U2, rd14 ?_, a2.trans b2⟩
  show F14 (ev E0 KD (m + 3)) qa1 (sv h) (sv [120]) S = _
  rw [F14_eq, a1, callP_ret, unV_not, oB, ifK_bool, hi, Bool.not_true, cond_false, b1, callP_ret, show qad E0 .neq 32 false true (.int .i64 0) (.int .i64 0) = some (.bool false) from by kernel_rfl, oB, ifK_bool, cond_false, addStr _ _ (by show h.length + 1 < _; omega), oB, addStr _ _ (by rw [List.length_append]; show h.length + 1 + 1 < _; omega), oB, if_pos rfl]
end
theorem lgD : Lg.KnLoc KD :=
 ((((((((((((((((((((Lg.knLoc_nil).add 75 fun _ => Lg.specKF_lg _).add 73 fun _ => Lg.specKF_lg _).add 42 fun _ => Lg.specKF_lg _).add 36 fun _ => Lg.specKF_lg _).add 24 fun _ => Lg.specKF_lg _).add 51 fun _ => Lg.specKF_lg _).add 26 fun _ => Lg.specKF_lg _).add 38 fun _ => Lg.specKF_lg _).add 74 fun _ => Lg.specKF_lg _).add 37 fun _ => Lg.specKF_lg _).add 47 fun _ => Lg.specKF_lg _).add 99 fun _ => Lg.specKF_lg _).add 79 fun _ => Lg.specKF_lg _).add 50 fun _ => Lg.specKF_lg _).add 25 fun _ => Lg.specKF_lg _).add 11 fun _ => Lg.specKF_lg _).add 18 fun _ => Lg.specKF_lg _).add 6 fun _ => Lg.specKF_lg _).add 17 fun _ => kfSort_lg _).add 10 fun _ => Lg.specKF_lg _
section
variable {F : Fz.Fz}
theorem fzD : Fz.KnLoc F KD :=
 ((((((((((((((((((((Fz.knLoc_nil).add 75 fun _ => Fz.specKF_fz _).add 73 fun _ => Fz.specKF_fz _).add 42 fun _ => Fz.specKF_fz _).add 36 fun _ => Fz.specKF_fz _).add 24 fun _ => Fz.specKF_fz _).add 51 fun _ => Fz.specKF_fz _).add 26 fun _ => Fz.specKF_fz _).add 38 fun _ => Fz.specKF_fz _).add 74 fun _ => Fz.specKF_fz _).add 37 fun _ => Fz.specKF_fz _).add 47 fun _ => Fz.specKF_fz _).add 99 fun _ => Fz.specKF_fz _).add 79 fun _ => Fz.specKF_fz _).add 50 fun _ => Fz.specKF_fz _).add 25 fun _ => Fz.specKF_fz _).add 11 fun _ => Fz.specKF_fz _).add 18 fun _ => Fz.specKF_fz _).add 6 fun _ => Fz.specKF_fz _).add 17 fun _ => kfSort_fz _).add 10 fun _ => Fz.specKF_fz _
end
section
variable {S T U : St}
theorem eqlB (c d : Bool) (a b : UInt8) : qad E0 .eql 5 c d (.int .u8 (a.toNat : Int)) (.int .u8 (b.toNat : Int)) = some (.bool (a == b)) := by
 rw [binV_ii, intsV_eql]
 congr 2
 by_cases e : a = b
 · subst e; simp
 · have : ¬ ((a.toNat : Int) = (b.toNat : Int)) := fun q => e (UInt8.toNat_inj.1 (Int.ofNat_inj.1 q))
   rw [decide_eq_false this]; simp [e]
theorem L39_spec {self : EV} {N : Nat} (nk : Ac → St → Rs) (ek : Nat → Ac → St → Rs) (c : UInt8) (l : Bs) (hl : l.length < 1000000000) (S : St) : ∀ (q : Bs) (i n : Nat), l.drop i = q → q.length < n →
 L39_4 self N nk ek n (.int .u8 (c.toNat : Int)) (sv l) (.int .i64 (i : Int)) S = if q.contains c then some (.ret (.bool true), S) else ek 0 (fr 17 []) S
 | _, _, 0, _, hn => by omega
 | [], i, n + 1, hi, _ => by
  rw [L39_4_eq, qbp, oB]
  dsimp only
  rw [qmq, decide_eq_false (Nat.not_lt.2 (qbo hi)), oB, ifK_bool, cond_false]
  rfl
 | a :: q, i, n + 1, hi, hn => by
  obtain ⟨hlt, hc, hr, _⟩ := qct hi
  have ih := L39_spec (self := self) (N := N) nk ek c l hl S q (i + 1) n hr (by simpa using hn)
  rw [L39_4_eq, qbp, oB]
  dsimp only
  rw [qmq, decide_eq_true hlt, oB, ifK_bool, cond_true, qg3 l .i64 i hlt, oB, eqlB, oB, ifK_bool, hc]
  by_cases e : a = c
  · subst e
    rw [show (a == a) = true by simp, cond_true, if_pos (by simp)]
  · rw [show (a == c) = false by simp [e], cond_false, qk9 (by omega), oB, ih]
    have : ((a :: q).contains c) = q.contains c := by
     rw [List.contains_cons, show (c == a) = false by simp [Ne.symm e], Bool.false_or]
    rw [this]
theorem f39_run (m : Nat) (c : UInt8) (l : Bs) (hl : l.length < 1000000) (S : St) : (ev E0 KD (m + 1)).f 39 [.int .u8 (c.toNat : Int), sv l] S = some (.ret (.bool (l.contains c)), S) := rd39 (by
 show F39 (ev E0 KD m) qa1 _ (sv l) S = _
 rw [F39_eq, show V.int .i64 0 = .int .i64 ((0 : Nat) : Int) from rfl, L39_spec _ _ c l (by omega) S l 0 qa1 rfl (by unfold qa1; omega), exB_same, R39_1_eq]
 cases l.contains c <;> rfl)
theorem f40_run (m : Nat) (S : St) : (ev E0 KD (m + 1)).f 40 [] S = some (.ret (sv ltrs), S) := rd40 (by
 show F40 (ev E0 KD m) qa1 S = _
 rw [F40_eq]; rfl)
theorem L19_spec (m : Nat) {N : Nat} (nk : Ac → St → Rs) (ek : Nat → Ac → St → Rs) (h : Bs) (hh : h.length < 9223372036854775808) (ho : S.on = false) : ∀ (q : Bs) (i n : Nat), h.drop i = q → q.length < n →
 L19_7 (ev E0 KD (m + 1)) N nk ek n (sv h) (.int .i64 (i : Int)) S = if q.all (fun c => ltrs.contains c) then ek 0 (fr 19 [(0, sv h)]) S else some (.ret (.bool false), S)
 | _, _, 0, _, hn => by omega
 | [], i, n + 1, hi, _ => by
  rw [L19_7_eq, qbp, oB]
  dsimp only
  rw [qmq, decide_eq_false (Nat.not_lt.2 (qbo hi)), oB, ifK_bool, cond_false]
  rfl
 | c :: q, i, n + 1, hi, hn => by
  obtain ⟨hlt, hc, hr, _⟩ := qct hi
  have ih := L19_spec m (N := N) nk ek h hh ho q (i + 1) n hr (by simpa using hn)
  rw [L19_7_eq, qbp, oB]
  dsimp only
  rw [qmq, decide_eq_true hlt, oB, ifK_bool, cond_true, qg3 h .i64 i hlt, oB, f40_run, qb7, hc]
  rw [f39_run m c ltrs (by decide), qb7, unV_not, oB, ifK_bool, List.all_cons]
  simp only [ons, qie]
  rw [qds ho ho rfl]
  cases ltrs.contains c with
  | false => rfl
  | true =>
   rw [Bool.not_true, cond_false, qk9 (by omega), oB, ih, Bool.true_and]
theorem f19_run (m : Nat) (ho : S.on = false) (h : Bs) (hh : h.length < 9223372036854775808) : (ev E0 KD (m + 2)).f 19 [sv h] S = some (.ret (.bool (isH h)), S) := rd19 (by
 show F19 (ev E0 KD (m + 1)) qa1 (sv h) S = _
 rw [F19_eq, show V.int .i64 0 = .int .i64 ((0 : Nat) : Int) from rfl, L19_spec m _ _ h (by omega) ho h 0 qa1 rfl (by unfold qa1; omega)]
 unfold isH
 cases hb : h.all (fun c => ltrs.contains c) with
 | false => rw [if_neg (by simp), Bool.and_false]
 | true =>
  rw [if_pos rfl, exB_same, R19_1_eq, qbp, oB]
  dsimp only
  rw [show V.int .i64 32 = .int .i64 ((32 : Nat) : Int) from rfl, binV_ii, intsV_eql, oB, Bool.and_true]
  congr 5
  simp
  omega)
def wins : Bs → List Bs
 | [] => []
 | c :: w => if 32 ≤ (c :: w).length then (c :: w).take 32 :: wins w else []
theorem wins_lt {w : Bs} (h : w.length < 32) : wins w = [] := by
 cases w with
 | nil => rfl
 | cons c w => rw [wins, if_neg (by omega)]
theorem wins_at {w : Bs} {i : Nat} (h : i + 32 ≤ w.length) : wins (w.drop i) = (w.drop i).take 32 :: wins (w.drop (i + 1)) := by
 have hlt : i < w.length := by omega
 rw [List.drop_eq_getElem_cons hlt, wins, if_pos (by rw [List.length_cons, List.length_drop]; omega)]
mutual
def qeq : Nd → List Bs
 | .mk _ _ _ d l => wins d ++ qip l
def qip : List Nd → List Bs
 | [] => []
 | x :: l => qeq x ++ qip l
end
theorem winsN_eq (x : Nd) : qeq x = wins x.data ++ qip x.kids := by cases x; rw [qeq]; rfl
theorem addN (c d : Bool) {a b : Nat} (h : a + b < 4611686018427387904) : qad E0 .add 3 c d (.int .i64 (a : Int)) (.int .i64 (b : Int)) = some (.int .i64 ((a + b : Nat) : Int)) := by
 rw [binV_ii, intsV_add, show ((a : Int) + (b : Int)) = ((a + b : Nat) : Int) by omega, qc5 (by omega) (by omega)]
theorem leqN (c d : Bool) (a b : Nat) : qad E0 .leq 3 c d (.int .i64 (a : Int)) (.int .i64 (b : Int)) = some (.bool (decide (a ≤ b))) := by
 rw [binV_ii, intsV_leq]
 congr 2
 simp
theorem win_sv (w : Bs) {i : Nat} (h : i + 32 ≤ w.length) (S : St) : qb4 E0 9 (sv w) (some (.int .i64 (i : Int))) (some (.int .i64 ((i + 32 : Nat) : Int))) none S = some (sv ((w.drop i).take 32), S) := by
 rw [slice_sv und9' w (bounds_lohi .i64 .i64 (Nat.le_add_right ..) h) h, show i + 32 - i = 32 by omega]
theorem L41_spec {self : EV} {N : Nat} (nk : Ac → St → Rs) (ek : Nat → Ac → St → Rs) (p : Bs) (hp : p.length = 32) (w : Bs) (hw : w.length < 1000000000) (S : St) : ∀ (k i n : Nat), w.length - i = k → k + 1 < n → i ≤ w.length →
 L41_4 self N nk ek n (sv p) (sv w) (.int .i64 (i : Int)) S = if (wins (w.drop i)).contains p then some (.ret (.bool true), S) else ek 0 (fr 24 []) S
 | _, _, 0, _, hn, _ => by omega
 | k, i, n + 1, hi, hn, hle => by
  rw [L41_4_eq, qbp, oB]
  dsimp only
  rw [hp, addN _ _ (by omega), oB, qbp, oB]
  dsimp only
  rw [leqN, oB, ifK_bool]
  by_cases hc : i + 32 ≤ w.length
  · rw [decide_eq_true hc, cond_true, qbp, oB]
    dsimp only
    rw [hp, addN _ _ (by omega), oB, win_sv w hc, oB]
    dsimp only
    rw [eqStr, oB, ifK_bool, qk9 (by omega), wins_at hc, List.contains_cons]
    obtain ⟨k', rfl⟩ : ∃ k', k = k' + 1 := ⟨k - 1, by omega⟩
    by_cases e : (w.drop i).take 32 = p
    · rw [e]; simp
    · rw [show ((w.drop i).take 32 == p) = false by simp [e], show (p == (w.drop i).take 32) = false by simp [Ne.symm e], cond_false, Bool.false_or, oB, L41_spec (self := self) (N := N) nk ek p hp w hw S k' (i + 1) n (by omega) (by omega) (by omega)]
  · rw [decide_eq_false hc, cond_false, wins_lt (by rw [List.length_drop]; omega)]
    rfl
theorem f41_run (m : Nat) (p : Bs) (hp : p.length = 32) (w : Bs) (hw : w.length < 1000000) (S : St) : (ev E0 KD (m + 1)).f 41 [sv p, sv w] S = some (.ret (.bool ((wins w).contains p)), S) := rd41 (by
 show F41 (ev E0 KD m) qa1 (sv p) (sv w) S = _
 rw [F41_eq, show V.int .i64 0 = .int .i64 ((0 : Nat) : Int) from rfl, L41_spec _ _ p hp w (by omega) S w.length 0 qa1 rfl (by unfold qa1; omega) (by omega), exB_same, R41_1_eq, List.drop_zero]
 cases (wins w).contains p <;> rfl)
end
section
variable {S T U X : St}
theorem faP4 (b : Nat) : faP 4 false 1 (.ptr b 0) = some (.ptr b 4) := by rw [show (1 : Nat) = 0 + 1 from rfl, faP_ptr]
theorem faP3 (b : Nat) : faP 3 false 1 (.ptr b 0) = some (.ptr b 3) := by rw [show (1 : Nat) = 0 + 1 from rfl, faP_ptr]
theorem L20_spec {self : EV} {N : Nat} (nk : Ac → St → Rs) (ek : Nat → Ac → St → Rs) (x : Nd) (hx : x.ok) (b : Nat) (p : Bs)
 (hself : ∀ y ∈ x.kids, ∀ S, S.on = false → ∃ U, self.f 20 [qce y, sv p] S = some (.ret (.bool ((qeq y).contains p)), U) ∧ Grew (fun _ => False) S U) :
 ∀ (r : List Nd) (i n : Nat) (S : St), x.kids.drop i = r → r.length < n → NodeAt S b x → b < S.next → ∃ U, L20_10 self N nk ek n (sv p) (.ptr b 0) (.int .i64 (i : Int)) S = (if (qip r).contains p then some (.ret (.bool true), U) else ek 0 (fr 24 []) U) ∧ Grew (fun _ => False) S U
 | _, _, 0, _, _, hn, _, _ => by omega
 | [], i, n + 1, S, hi, _, hb, _ => by
  refine ⟨S, ?_, Grew.refl _ _⟩
  rw [L20_10_eq, faP4, oB, hb.f4, oB]
  dsimp only
  rw [qc2, oB]
  dsimp only
  rw [qmq, decide_eq_false (Nat.not_lt.2 (qbo hi)), oB, ifK_bool, cond_false, qip]
  rfl
 | y :: r, i, n + 1, S, hi, hn, hb, hlt => by
  obtain ⟨hil, hy, hr, hmem⟩ := qct hi
  have few := hx.at.few
  obtain ⟨U1, a1, a2⟩ := hself y hmem S hb.on
  obtain ⟨U, b1, b2⟩ := L20_spec (self := self) (N := N) nk ek x hx b p hself r (i + 1) n U1 hr (by simpa using hn) (hb.grew hlt (fun h => h) a2) (Nat.lt_of_lt_of_le hlt a2.next)
  have hh : L20_10 self N nk ek (n + 1) (sv p) (.ptr b 0) (.int .i64 (i : Int)) S = (if (qeq y).contains p then some (.ret (.bool true), U1) else if (qip r).contains p then some (.ret (.bool true), U) else ek 0 (fr 24 []) U) := by
   rw [L20_10_eq, faP4, oB, hb.f4, oB]
   dsimp only
   rw [qc2, oB]
   dsimp only
   rw [qmq, decide_eq_true hil, oB, ifK_bool, cond_true, oB, hb.f4, oB]
   dsimp only
   rw [qd6 x.kids i hil, hy, oB, qgo, oB]
   dsimp only
   rw [a1, callP_ret, ifK_bool]
   cases (qeq y).contains p with
   | true => rfl
   | false =>
    rw [cond_false, qk9 (by omega), oB, b1]
    rfl
  have hw : (qip (y :: r)).contains p = ((qeq y).contains p || (qip r).contains p) := by
   rw [qip]
   simp
  rw [hw]
  cases hc : (qeq y).contains p with
  | true =>
   rw [hc, if_pos rfl] at hh
   exact ⟨U1, by rw [hh, Bool.true_or, if_pos rfl], a2⟩
  | false =>
   rw [hc, if_neg (by simp)] at hh
   exact ⟨U, by rw [hh, Bool.false_or], a2.trans b2⟩
theorem cntL_mem {y : Nd} : ∀ {l : List Nd}, y ∈ l → qc6 y ≤ cntL l
 | z :: l, h => by
  rw [cntL]
  rcases List.mem_cons.1 h with rfl | h
  · omega
  · have := cntL_mem h; omega
theorem cntN_eq (x : Nd) : qc6 x = 1 + cntL x.kids := by cases x; rw [qc6]; rfl
theorem f20_run (p : Bs) (hp : p.length = 32) (m : Nat) : ∀ (k : Nat) (x : Nd), qc6 x ≤ k → x.ok → ∀ S, S.on = false → ∃ U, (ev E0 KD (m + k + 1)).f 20 [qce x, sv p] S = some (.ret (.bool ((qeq x).contains p)), U) ∧ Grew (fun _ => False) S U
 | 0, x, hc, _, _, _ => by have := cntN_eq x; omega
 | k + 1, x, hc, ok, S, ho => by
  have hcx := cntN_eq x
  obtain ⟨S1, k1, k2, k3, k4⟩ := qbq ho x
  have hl : S.next < S1.next := by omega
  obtain ⟨U, b1, b2⟩ := L20_spec (self := ev E0 KD (m + k + 1)) (N := qa1) (R20_7 (ev E0 KD (m + k + 1)) qa1 (qay E0 (ev E0 KD (m + k + 1)) Try.f20) qae) (exB 0 (R20_7 (ev E0 KD (m + k + 1)) qa1 (qay E0 (ev E0 KD (m + k + 1)) Try.f20) qae) qae) x ok S.next p
   (fun y hy T hT => f20_run p hp m k y (by have := cntL_mem hy; omega) (ok.at.kids y hy) T hT) x.kids 0 qa1 S1 rfl (by have := ok.at.few; unfold qa1; omega) k2 hl
  have hh : F20 (ev E0 KD (m + (k + 1))) qa1 (qce x) (sv p) S = (if (wins x.data).contains p then some (.ret (.bool true), S1) else if (qip x.kids).contains p then some (.ret (.bool true), U) else some (.ret (.bool false), U)) := by
   rw [F20_eq, k1, oB]
   dsimp only
   rw [faP3, oB, k2.f3, oB]
   dsimp only
   rw [show m + (k + 1) = m + k + 1 from rfl, f41_run (m + k) p hp x.data (by have := ok.at.data; omega), callP_ret, ifK_bool]
   cases (wins x.data).contains p with
   | true => rfl
   | false =>
    rw [cond_false, show V.int .i64 0 = .int .i64 ((0 : Nat) : Int) from rfl, b1, exB_same, R20_7_eq]
    rfl
  have hw : (qeq x).contains p = ((wins x.data).contains p || (qip x.kids).contains p) := by
   rw [winsN_eq]; simp
  rw [hw]
  cases hc : (wins x.data).contains p with
  | true =>
   rw [hc, if_pos rfl] at hh
   exact ⟨S1, rd20 hh, k3⟩
  | false =>
   rw [hc, if_neg (by simp)] at hh
   refine ⟨U, rd20 (hh.trans ?_), k3.trans b2⟩
   rw [Bool.false_or]
   cases (qip x.kids).contains p <;> rfl
end
section
variable {S T U X : St}
theorem neqE (a : Int) : qad E0 .neq 32 false true (.int .i64 a) (.int .i64 0) = some (.bool (!decide (a = 0))) := by rw [binV_ii, intsV_neq]
theorem rd_lg (b o k : Nat) : rd S b o k = S.lg [⟨b, o, o + k, false⟩] := rfl
theorem L75_spec {self : EV} {N : Nat} (ho : S.on = false) {v1 v2 : V} {hs : List Bs} (hv : TV v1 hs) {j : Nat} {s : Bs} (hj : hs[j]? = some s) {v : V} {l : List Bs} (hl : TL S v l) (hlen : l.length < 1000000) (nk : Ac → St → Rs) (ek : Nat → Ac → St → Rs) :
 ∀ (rest : List Bs) (i q : Nat), l.drop i = rest → rest.length < q →
 L9_75 self N nk ek q v1 v2 v (.int .i64 (j : Int)) (.int .i64 (i : Int)) S = ek 2 (fr 83 [(1, v1), (2, v2), (5, v), (6, .int .i64 (j : Int)), (7, .int .i64 ((i + atB s rest : Nat) : Int))]) S
 | rest, i, 0, _, hq => by omega
 | [], i, q + 1, hi, hq => by
  rw [L9_75_eq, hl.len, oB]
  dsimp only
  rw [qmq, decide_eq_false (Nat.not_lt.2 (qbo hi)), oB]
  simp only [gTF, oB, cond_false, pickV_bool]
  simp only [ons, qie]
  rw [qdp (rds_of ?_), qds ho ho rfl, ifK_bool, cond_false]
  · rfl
  · intro L hL e he
    simp only [List.mem_cons, List.not_mem_nil, or_false] at hL
    rcases hL with rfl | rfl | rfl | rfl | rfl | rfl | rfl | rfl | rfl | rfl | rfl | rfl | rfl | rfl | rfl <;> cases he
 | a :: rest, i, q + 1, hi, hq => by
  obtain ⟨hlt, hf, hrest, hmem⟩ := qct hi
  obtain ⟨p, r, o, p1, p2⟩ := hl.ldOn ho (show l[i]? = some a by rw [List.getElem?_eq_getElem hlt, hf]) []
  rw [L9_75_eq, hl.len, oB]
  dsimp only
  rw [qmq, decide_eq_true hlt, oB]
  simp only [gTT, oB, cond_true]
  rw [p1, oB]
  simp only [ons, qie]
  rw [p2, oB, hv.ix hj, oB]
  simp only [ons, qie]
  rw [ldc, oB]
  dsimp only
  rw [ltStr, oB, pickV_bool, cond_true, oB]
  simp only [ons, qie]
  rw [qdp (rds_of ?_), qds ho ho rfl, ifK_bool]
  · unfold atB
    by_cases h : a < s
    · rw [decide_eq_true h, cond_true, if_pos h, qk9 (by omega), oB, L75_spec (self := self) (N := N) ho hv hj hl hlen nk ek rest (i + 1) q hrest (by simp at hq; omega), show i + 1 + atB s rest = i + (atB s rest + 1) by omega]
    · rw [decide_eq_false h, cond_false, if_neg h, Nat.add_zero]
  · intro L hL e he
    simp only [List.mem_cons, List.not_mem_nil, or_false] at hL
    rcases hL with rfl | rfl | rfl | rfl | rfl | rfl | rfl | rfl | rfl | rfl | rfl | rfl | rfl | rfl | rfl <;> first | (cases he; done) | (cases List.mem_singleton.1 he; rfl)
theorem R37_spec {self : EV} {N : Nat} (ho : S.on = false) {v1 v2 : V} {hs : List Bs} (hv : TV v1 hs) {j : Nat} {s : Bs} (hj : hs[j]? = some s) {v : V} {l : List Bs} {M : Nat} (h : TLo S v l M) (hM : M ≤ S.next) (hlen : l.length < 5000) (nk : Ac → St → Rs) (ek : Nat → Ac → St → Rs) :
 ∃ w U, TLo U w (putB s l) M ∧ Grew (fun _ => False) S U ∧ R9_37 self N nk ek (fr 83 [(1, v1), (2, v2), (5, v), (6, .int .i64 (j : Int)), (7, .int .i64 (atB s l : Int))]) S = (if l[atB s l]? = some s then ek 1 (fr 83 [(1, v1), (2, v2), (5, w), (6, .int .i64 (j : Int))]) U else nk (fr 83 [(1, v1), (2, v2), (5, w), (6, .int .i64 (j : Int))]) U) := by
 have hat := atB_le s l
 have hput := putB_at s l
 have hnew : l[atB s l]? ≠ some s → ∃ w U, ((qb4 E0 25 v none (some (.int .i64 (atB s l : Int))) none S).bind fun p58 =>
(apP 9 1 16 .nilslice p58.1 p58.2).bind fun p59 =>
(ixP 1 v1 (.int .i64 (j : Int))).bind fun t64 =>
(ld1 t64 p59.2).bind fun p65 =>
(bsP 9 1 1 (Go.Proofs.Ytmeohejdafbodaa.Ev.one (sv [])) [(0, p65.1)] p65.2).bind fun p66 =>
(apP 9 1 16 p59.1 p66.1 p66.2).bind fun p67 =>
(qb4 E0 25 v (some (.int .i64 (atB s l : Int))) none none p67.2).bind fun p72 =>
(apP 9 1 16 p67.1 p72.1 p72.2).bind fun p73 =>
nk (fr 83 [(1, v1), (2, v2), (5, p73.1), (6, .int .i64 (j : Int))]) p73.2) = nk (fr 83 [(1, v1), (2, v2), (5, w), (6, .int .i64 (j : Int))]) U ∧ TLo U w (putB s l) M ∧ Grew (fun _ => False) S U := fun hne => by
    rw [if_neg hne] at hput
    obtain ⟨y, y1, y2⟩ := slice_take ho h hat
    obtain ⟨w1, U1, a1, a2, a3⟩ := app_nil ho y2 (by rw [List.length_take]; omega)
    have on1 := a3.on.trans ho
    obtain ⟨z, W, w2, U2, b1, b2, b3, b4⟩ := a2.push on1 a3.next (by rw [List.length_take]; omega) s
    have g2 := Grew.fresh a3 (Nat.le_refl _) b4
    have on2 := g2.on.trans ho
    obtain ⟨y', z1, z2⟩ := slice_drop on2 (h.grew g2) hat
    obtain ⟨w3, U3, c1, c2, c3⟩ := app_own on2 b3 g2.next (by rw [List.length_append]; simp) z2 (by rw [List.length_append, List.length_take]; simp; omega) (by rw [List.length_drop]; omega)
    refine ⟨w3, U3, ?_, ?_, Grew.fresh g2 (Nat.le_refl _) c3⟩
    · rw [y1, oB]
      dsimp only
      rw [a1, oB, hv.ix hj, oB]
      dsimp only
      rw [ldc, oB]
      dsimp only
      rw [b1, oB]
      dsimp only
      rw [b2, oB]
      dsimp only
      rw [z1, oB]
      dsimp only
      rw [c1, oB]
    · rw [hput]
      exact c2.weak hM
 by_cases hlt : atB s l < l.length
 · obtain ⟨p, r, o, p1, p2⟩ := h.tl.ldOn ho (List.getElem?_eq_getElem hlt) []
   have key : R9_37 self N nk ek (fr 83 [(1, v1), (2, v2), (5, v), (6, .int .i64 (j : Int)), (7, .int .i64 (atB s l : Int))]) S = bif l[atB s l] == s then ek 1 (fr 83 [(1, v1), (2, v2), (5, v), (6, .int .i64 (j : Int))]) S else ((qb4 E0 25 v none (some (.int .i64 (atB s l : Int))) none S).bind fun p58 =>
(apP 9 1 16 .nilslice p58.1 p58.2).bind fun p59 =>
(ixP 1 v1 (.int .i64 (j : Int))).bind fun t64 =>
(ld1 t64 p59.2).bind fun p65 =>
(bsP 9 1 1 (Go.Proofs.Ytmeohejdafbodaa.Ev.one (sv [])) [(0, p65.1)] p65.2).bind fun p66 =>
(apP 9 1 16 p59.1 p66.1 p66.2).bind fun p67 =>
(qb4 E0 25 v (some (.int .i64 (atB s l : Int))) none none p67.2).bind fun p72 =>
(apP 9 1 16 p67.1 p72.1 p72.2).bind fun p73 =>
nk (fr 83 [(1, v1), (2, v2), (5, p73.1), (6, .int .i64 (j : Int))]) p73.2) := by
    rw [R9_37_eq, h.tl.len, oB]
    dsimp only
    rw [qmq, decide_eq_true hlt, oB]
    simp only [gTT, oB, cond_true]
    rw [p1, oB]
    simp only [ons, qie]
    rw [p2, oB]
    conv => lhs; arg 1; rw [hv.ix hj]
    rw [oB]
    simp only [ons, qie]
    rw [ldc, oB]
    dsimp only
    rw [eqStr, oB, pickV_bool, cond_true, oB]
    simp only [ons, qie]
    rw [qdp (rds_of ?_), qds ho ho rfl, ifK_bool]
    intro L hL e he
    simp only [List.mem_cons, List.not_mem_nil, or_false] at hL
    rcases hL with rfl | rfl | rfl | rfl | rfl | rfl | rfl | rfl | rfl | rfl | rfl | rfl | rfl | rfl | rfl <;> first | (cases he; done) | (cases List.mem_singleton.1 he; rfl)
   by_cases he : l[atB s l] = s
   · refine ⟨v, S, ?_, Grew.refl _ _, ?_⟩
     · rw [hput, if_pos (by rw [List.getElem?_eq_getElem hlt, he])]; exact h
     · rw [key, show (l[atB s l] == s) = true by simp [he], cond_true, if_pos (by rw [List.getElem?_eq_getElem hlt, he])]
   · have hne : l[atB s l]? ≠ some s := by rw [List.getElem?_eq_getElem hlt]; simpa using he
     obtain ⟨w, U, w1, w2, w3⟩ := hnew hne
     exact ⟨w, U, w2, w3, by rw [key, show (l[atB s l] == s) = false from beq_false_of_ne he, cond_false, w1, if_neg hne]⟩
 · have hne : l[atB s l]? ≠ some s := by rw [List.getElem?_eq_none (by omega)]; simp
   obtain ⟨w, U, w1, w2, w3⟩ := hnew hne
   refine ⟨w, U, w2, w3, ?_⟩
   rw [R9_37_eq, h.tl.len, oB]
   dsimp only
   rw [qmq, decide_eq_false (by omega), oB]
   simp only [gTF, oB, cond_false, pickV_bool]
   simp only [ons, qie]
   rw [qdp (rds_of ?_), qds ho ho rfl, ifK_bool, cond_false, w1, if_neg hne]
   intro L hL e he
   simp only [List.mem_cons, List.not_mem_nil, or_false] at hL
   rcases hL with rfl | rfl | rfl | rfl | rfl | rfl | rfl | rfl | rfl | rfl | rfl | rfl | rfl | rfl | rfl <;> cases he
end
section
variable {S T U X : St}
def hit (x : Nd) (h : Bs) : Bool := isH h && (qeq x).contains h
def qgl (x : Nd) (acc : List Bs) : List Bs → List Bs
 | [] => acc
 | h :: hs => qgl x (if hit x h then putB h acc else acc) hs
def Short (hs : List Bs) : Prop := ∀ h ∈ hs, h.length < 9223372036854775808
theorem L11_spec {m N : Nat} (x : Nd) (ok : x.ok) {b M : Nat} {v1 : V} {hs : List Bs} (hv : TV v1 hs) (hsh : Short hs) (hfew : hs.length ≤ 1000) (nk : Ac → St → Rs) (ek : Nat → Ac → St → Rs) (hN : 1000000 < N) :
 ∀ (r : List Bs) (j q : Nat) (v : V) (acc : List Bs) (S : St), hs.drop j = r → r.length < q → acc.length + r.length < 4000 → S.on = false → NodeAt S b x → b < S.next → TLo S v acc M → M ≤ S.next →
 ∃ w T, L9_11 (ev E0 KD (m + qc6 x + 2)) N nk ek q v1 (.ptr b 0) v (.int .i64 (j : Int)) S = ek 0 (fr 83 [(5, w)]) T ∧ TLo T w (qgl x acc r) M ∧ Grew (fun _ => False) S T
 | _, _, 0, _, _, _, _, hq, _, _, _, _, _, _ => by omega
 | [], j, q + 1, v, acc, S, hj, hq, hl, ho, hb, hlt, ht, hM => by
  refine ⟨v, S, ?_, ht, Grew.refl _ _⟩
  rw [L9_11_eq, hv.len, oB]
  dsimp only
  rw [qmq, decide_eq_false (Nat.not_lt.2 (qbo hj)), oB, ifK_bool, cond_false]
 | h :: r, j, q + 1, v, acc, S, hj, hq, hl, ho, hb, hlt, ht, hM => by
  obtain ⟨hjl, hf, hrest, hmem⟩ := qct hj
  rw [List.length_cons] at hl hq
  have hjh : hs[j]? = some h := by rw [List.getElem?_eq_getElem hjl, hf]
  have hlong := hsh h hmem
  have k0 := f19_run (m + qc6 x) ho h hlong
  obtain ⟨L1, k1⟩ := Lg.ev_lg lgD k0 []
  have step : ∀ (w : V) (acc' : List Bs) (U : St), acc'.length ≤ acc.length + 1 → Grew (fun _ => False) S U → TLo U w acc' M → ∃ w' T, qhq (ev E0 KD (m + qc6 x + 2)) N (qhp (ev E0 KD (m + qc6 x + 2)) N nk ek q) ek (fr 83 [(1, v1), (2, .ptr b 0), (5, w), (6, .int .i64 (j : Int))]) U = ek 0 (fr 83 [(5, w')]) T ∧ TLo T w' (qgl x acc' r) M ∧ Grew (fun _ => False) S T := fun w acc' U hacc g hw => by
   obtain ⟨w', T, t1, t2, t3⟩ := L11_spec (m := m) (N := N) x ok hv hsh hfew nk ek hN r (j + 1) q w acc' U hrest (by omega) (by omega) (g.on.trans ho) (hb.grew hlt (fun h => h) g) (Nat.lt_of_lt_of_le hlt g.next) hw (Nat.le_trans hM g.next)
   refine ⟨w', T, ?_, t2, g.trans t3⟩
   rw [R9_16_eq, qk9 (by omega), oB, N9_11_eq, t1]
  cases hi : isH h with
  | false =>
   obtain ⟨w', T, t1, t2, t3⟩ := step v acc S (by omega) (Grew.refl _ _) ht
   refine ⟨w', T, ?_, by rw [qgl, hit, hi, Bool.false_and, if_neg (by simp)]; exact t2, t3⟩
   rw [L9_11_eq, hv.len, oB]
   dsimp only
   rw [qmq, decide_eq_true hjl, oB, ifK_bool, cond_true, hv.ix hjh, oB]
   simp only [ons, qie]
   rw [ldc, oB]
   simp only [ons, qie]
   rw [k1, qb7, unV_not, oB, hi, Bool.not_false]
   simp only [gFT, oB, cond_false, qb7, pickV_bool, cond_true]
   simp only [ons, qie]
   rw [qm9 rfl, qds ho ho rfl, ifK_bool, cond_true]
   exact t1
  | true =>
   obtain ⟨U, a1, a2⟩ := f20_run h (isH_len hi) (m + 1) (qc6 x) x (Nat.le_refl _) ok S ho
   rw [show m + 1 + qc6 x + 1 = m + qc6 x + 2 by omega] at a1
   obtain ⟨L2, a1'⟩ := Lg.ev_lg lgD a1 []
   have onU := a2.on.trans ho
   have hoA := hb.oA
   rw [rd_lg, ons] at hoA
   obtain ⟨U', u1, u2, u3, u4⟩ := relog_any ho U [] [[], [], [], (S.lg []).log, (S.lg L1).log, [], [], (S.lg [⟨b, 0, 0 + 5, false⟩]).log, [], [], [], (S.lg []).log, (U.lg L2).log, [], []]
   have gU : Grew (fun _ => False) S U' := Grew.same a2 u2 u3 (u4.trans onU.symm)
   have onU' := gU.on.trans ho
   have main : ∀ R, ifK (.bool (!(qeq x).contains h)) (
qhq (ev E0 KD (m + qc6 x + 2)) N (qhp (ev E0 KD (m + qc6 x + 2)) N nk ek q) ek (fr 83 [(1, v1), (2, .ptr b 0), (5, v), (6, .int .i64 (j : Int))]) U') (
L9_75 (ev E0 KD (m + qc6 x + 2)) N (R9_37 (ev E0 KD (m + qc6 x + 2)) N (qhq (ev E0 KD (m + qc6 x + 2)) N (qhp (ev E0 KD (m + qc6 x + 2)) N nk ek q) ek) (exB 1 (qhq (ev E0 KD (m + qc6 x + 2)) N (qhp (ev E0 KD (m + qc6 x + 2)) N nk ek q) ek) ek)) (exB 2 (R9_37 (ev E0 KD (m + qc6 x + 2)) N (qhq (ev E0 KD (m + qc6 x + 2)) N (qhp (ev E0 KD (m + qc6 x + 2)) N nk ek q) ek) (exB 1 (qhq (ev E0 KD (m + qc6 x + 2)) N (qhp (ev E0 KD (m + qc6 x + 2)) N nk ek q) ek) ek)) (exB 1 (qhq (ev E0 KD (m + qc6 x + 2)) N (qhp (ev E0 KD (m + qc6 x + 2)) N nk ek q) ek) ek)) N v1 (.ptr b 0) v (.int .i64 (j : Int)) (.int .i64 0) U') = R → L9_11 (ev E0 KD (m + qc6 x + 2)) N nk ek (q + 1) v1 (.ptr b 0) v (.int .i64 (j : Int)) S = R := fun R hR => by
    rw [L9_11_eq, hv.len, oB]
    dsimp only
    rw [qmq, decide_eq_true hjl, oB, ifK_bool, cond_true, hv.ix hjh, oB]
    simp only [ons, qie]
    rw [ldc, oB]
    simp only [ons, qie]
    rw [k1, qb7, unV_not, oB, hi, Bool.not_true]
    simp only [gFF, oB, cond_true]
    simp only [ons, qie]
    rw [hoA, oB, hv.ix hjh, oB]
    simp only [ons, qie]
    rw [ldc, oB]
    simp only [ons, qie]
    rw [a1', qb7, unV_not, oB, pickV_bool, cond_false, oB]
    simp only [ons, qie]
    rw [qm9 rfl]
    rw [← u1] at hR
    exact hR
   cases hc : (qeq x).contains h with
   | false =>
    obtain ⟨w', T, t1, t2, t3⟩ := step v acc U' (by omega) gU (ht.grew gU)
    refine ⟨w', T, main _ ?_, by rw [qgl, hit, hi, hc, Bool.true_and, if_neg (by simp)]; exact t2, t3⟩
    rw [hc, Bool.not_false, ifK_bool, cond_true]
    exact t1
   | true =>
    have hput := R37_spec (self := ev E0 KD (m + qc6 x + 2)) (N := N) onU' hv hjh (v2 := .ptr b 0) (ht.grew gU) (Nat.le_trans hM gU.next) (by omega) (qhq (ev E0 KD (m + qc6 x + 2)) N (qhp (ev E0 KD (m + qc6 x + 2)) N nk ek q) ek) (exB 1 (qhq (ev E0 KD (m + qc6 x + 2)) N (qhp (ev E0 KD (m + qc6 x + 2)) N nk ek q) ek) ek)
    obtain ⟨w, V1, p1, p2, p3⟩ := hput
    obtain ⟨w', T, t1, t2, t3⟩ := step w (putB h acc) V1 (putB_len h acc) (gU.trans p2) p1
    refine ⟨w', T, main _ ?_, by rw [qgl, hit, hi, hc, Bool.and_self, if_pos rfl]; exact t2, t3⟩
    rw [hc, Bool.not_true, ifK_bool, cond_false, show V.int .i64 0 = .int .i64 ((0 : Nat) : Int) from rfl, L75_spec onU' hv hjh ((ht.grew gU).tl) (by omega) _ _ acc 0 N rfl (by omega), exB_same, Nat.zero_add, p3, exB_same]
    split <;> exact t1
end
section
variable {S T U X : St}
theorem kd18 : KD 18 = some (qb3 qhx) := rfl
theorem kd11 : KD 11 = some (qb3 qhx) := rfl
theorem kd17 : KD 17 = some kfSort := rfl
theorem kd10 : KD 10 = some kfTrue := rfl
theorem kd6 : KD 6 = some kfShort := rfl
theorem check_run (n : Nat) (x : Nd) (ok : x.ok) (S : St) : (ev E0 KD (n + 1)).f 18 [qce x] S = some (.ret (.int .i64 (qhu x)), S) := by
 rw [qau kd18, qbg _ x ok]; rfl
theorem check_run' (n : Nat) (x : Nd) (ok : x.ok) (S : St) : (ev E0 KD (n + 1)).f 11 [qce x] S = some (.ret (.int .i64 (qhu x)), S) := by
 rw [qau kd11, qbg _ x ok]; rfl
theorem f9_run (m : Nat) (ho : S.on = false) (x : Nd) (ok : x.ok) {v1 : V} {hs : List Bs} (hv : TV v1 hs) (hsh : Short hs) (hfew : hs.length ≤ 1000) : ∃ w T, (ev E0 KD (m + qc6 x + 3)).f 9 [qce x, v1] S = some (.ret w, T) ∧ TLo T w (if qhu x = 0 then qgl x [] hs else []) S.next ∧ Grew (fun _ => False) S T := by
 obtain ⟨S1, k1, k2, k3, k4⟩ := qbq ho x
 have hl : S.next < S1.next := by omega
 by_cases hc : qhu x = 0
 · obtain ⟨w, T, t1, t2, t3⟩ := L11_spec (m := m) (N := qa1) x ok (b := S.next) (M := S.next) hv hsh hfew (R9_7 (ev E0 KD (m + qc6 x + 2)) qa1 (qay E0 (ev E0 KD (m + qc6 x + 2)) Try.f9) qae) (exB 0 (R9_7 (ev E0 KD (m + qc6 x + 2)) qa1 (qay E0 (ev E0 KD (m + qc6 x + 2)) Try.f9) qae) qae) (by unfold qa1; omega) hs 0 qa1 .nilslice [] S1 rfl (by unfold qa1; omega) (by simp; omega) k2.on k2 hl .nil (by omega)
   refine ⟨w, T, rd9 ?_, by rw [if_pos hc]; exact t2, k3.trans t3⟩
   show F9 (ev E0 KD (m + qc6 x + 2)) qa1 (qce x) v1 S = _
   rw [F9_eq, k1, oB]
   dsimp only
   rw [k2.fA, oB]
   dsimp only
   rw [check_run _ x ok, callP_ret, neqE, oB, decide_eq_true hc, Bool.not_true, ifK_bool, cond_false, show V.int .i64 0 = .int .i64 ((0 : Nat) : Int) from rfl, t1, exB_same, R9_7_eq]
 · refine ⟨.nilslice, S1, rd9 ?_, by rw [if_neg hc]; exact .nil, k3⟩
   show F9 (ev E0 KD (m + qc6 x + 2)) qa1 (qce x) v1 S = _
   rw [F9_eq, k1, oB]
   dsimp only
   rw [k2.fA, oB]
   dsimp only
   rw [check_run _ x ok, callP_ret, neqE, oB, decide_eq_false hc, Bool.not_false, ifK_bool, cond_true]
theorem L7t_spec {m N : Nat} (ho : S.on = false) {v w : V} {l k : List Bs} (hl : TL S v l) (hk : TL S w k) (hlen : l.length = k.length) (hb : l.length < 1000000) (nk : Ac → St → Rs) (ek : Nat → Ac → St → Rs) :
 ∀ (d i q : Nat), i + d = l.length → d < q →
 L7_10 (ev E0 KD m) N nk ek q v w (.int .i64 (i : Int)) S = if l.drop i = k.drop i then ek 0 (fr 26 []) S else some (.ret (.bool false), S)
 | d, i, 0, _, hq => by omega
 | 0, i, q + 1, hi, hq => by
  rw [L7_10_eq, hl.len, oB]
  dsimp only
  rw [binV_ii, intsV_lss, qgf (by omega), oB, ifK_bool, cond_false, List.drop_of_length_le (by omega), List.drop_of_length_le (by omega), if_pos rfl]
 | d + 1, i, q + 1, hi, hq => by
  have h1 : i < l.length := by omega
  have h2 : i < k.length := by omega
  obtain ⟨p, r, o, p1, p2⟩ := hl.ldOn ho (List.getElem?_eq_getElem h1) []
  obtain ⟨p', r', o', p1', p2'⟩ := hk.ldOn ho (List.getElem?_eq_getElem h2) []
  rw [L7_10_eq, hl.len, oB]
  dsimp only
  rw [binV_ii, intsV_lss, qg0 h1, oB, ifK_bool, cond_true, p1, oB]
  simp only [ons, qie]
  rw [p2, oB, p1', oB]
  simp only [ons, qie]
  rw [p2', oB, neStr, oB]
  simp only [ons, qie]
  rw [qdp (rds_of ?_), qds ho ho rfl, ifK_bool, List.drop_eq_getElem_cons h1, List.drop_eq_getElem_cons h2]
  · by_cases he : l[i] = k[i]
    · rw [show (l[i] == k[i]) = true by simp [he], Bool.not_true, cond_false, binV_ii, intsV_add, qbl (by omega), oB, L7t_spec ho hl hk hlen hb nk ek d (i + 1) q (by omega) (by omega)]
      by_cases h3 : l.drop (i + 1) = k.drop (i + 1)
      · rw [if_pos h3, if_pos (by rw [he, h3])]
      · rw [if_neg h3, if_neg (fun e => h3 (List.cons.inj e).2)]
    · rw [show (l[i] == k[i]) = false from beq_false_of_ne he, Bool.not_false, cond_true, if_neg (fun e => he (List.cons.inj e).1)]
  · intro L hL e he
    simp only [List.mem_cons, List.not_mem_nil, or_false] at hL
    rcases hL with rfl | rfl | rfl | rfl | rfl | rfl | rfl | rfl | rfl <;> first | (cases he; done) | (cases List.mem_singleton.1 he; rfl)
theorem same_run (m : Nat) (ho : S.on = false) {v w : V} {l : List Bs} (hl : TL S v l) (hk : TL S w l) (hb : l.length < 1000000) : (ev E0 KD (m + 1)).f 7 [v, w] S = some (.ret (.bool true), S) := rd7 (by
 show F7 (ev E0 KD m) qa1 v w S = _
 rw [F7_eq, hl.len, oB]
 dsimp only
 rw [hk.len, oB]
 dsimp only
 rw [neqInt, oB, decide_eq_true rfl, Bool.not_true, ifK_bool, cond_false, show (V.int .i64 0) = .int .i64 ((0 : Nat) : Int) from rfl, L7t_spec ho hl hk rfl hb _ _ l.length 0 qa1 (Nat.zero_add _) (by unfold qa1; omega), if_pos rfl, exB_same, R7_7_eq])
end
section
variable {S T U X : St}
def One (S : St) (b e : Nat) (v : V) : Prop := RowAt S b e 1 [Go.Proofs.Ytmeohejdafbodaa.Ev.one v]
theorem One.ld {b e : Nat} {v : V} (h : One S b e v) (ho : S.on = false) : ld1 (.ptr b 0) S = some (v, S) := RowAt.ld1 ho h rfl
theorem One.ldOn {b e : Nat} {v : V} (h : One S b e v) (ho : S.on = false) (l : List LE) : ld1 (.ptr b 0) (S.lg l) = some (v, S.lg (⟨b, 0, 1, false⟩ :: l)) := ld1_lg ho (h.ld ho) l
theorem One.st {b e : Nat} {x v : V} (h : One S b e x) (ho : S.on = false) (hv : OneV v) : ∃ U, stP 1 (.ptr b 0) v S = some (.tuple [], U) ∧ One U b e v ∧ Grew (fun x => x = b) S U ∧ U.next = S.next := by
 obtain ⟨U, h1, h2, h3, h4⟩ := RowAt.stK ho h (i := 0) (by show 0 < 1; decide) (Go.Proofs.Ytmeohejdafbodaa.Ev.one v)
 refine ⟨U, ?_, h2, h3, h4⟩
 show vu (bif Nat.beq v.size 1 && !qab v then stK S b 0 1 v.cells else none) = _
 rw [hv.size, hv.cells, hv.tup, show stK S b 0 1 (Go.Proofs.Ytmeohejdafbodaa.Ev.one v) = some U from h1]
 rfl
theorem one_new (ho : S.on = false) (e : Nat) (v : V) : One (nwP e 1 (Go.Proofs.Ytmeohejdafbodaa.Ev.one v) S).2 S.next e v ∧ Grew (fun _ => False) S (nwP e 1 (Go.Proofs.Ytmeohejdafbodaa.Ev.one v) S).2 ∧ (nwP e 1 (Go.Proofs.Ytmeohejdafbodaa.Ev.one v) S).2.next = S.next + 1 :=
 ⟨qdz ho (by omega) (by show 1 * 1 < big; unfold big; decide), qch ho _ _, rfl⟩
theorem One.grew {W : Nat → Prop} {b e : Nat} {v : V} (h : One S b e v) (hb : b < S.next) (hw : ¬ W b) (g : Grew W S T) : One T b e v := RowAt.grew h hb hw g
theorem Grew.then {W W' : Nat → Prop} {a b c : St} (h : Grew W a b) (k : Grew W' b c) (hw : ∀ x, x < a.next → W' x → W x) : Grew W a c :=
 ⟨Nat.le_trans h.next k.next, k.on.trans h.on, fun x hx hn => (k.keep x (Nat.lt_of_lt_of_le hx h.next) fun e => hn (hw x hx e)).trans (h.keep x hx hn)⟩
theorem TLo.grewW {W : Nat → Prop} {v : V} {l : List Bs} {N : Nat} (h : TLo S v l N) (hw : ∀ r, qfo v = some r → ¬ W r) (g : Grew W S U) : TLo U v l N := by
 rcases h with h | ⟨r, rfl, h1, h2, h3, h4⟩
 · exact .inl h
 · exact .inr ⟨r, rfl, h1.grew h2 (hw r rfl) g, Nat.lt_of_lt_of_le h2 g.next, h3, h4⟩
theorem TLo.lt {v : V} {l : List Bs} {N r : Nat} (h : TLo S v l N) (hr : qfo v = some r) : r < S.next := by
 rcases h with ⟨_, rfl⟩ | ⟨r', rfl, h1, h2, h3, _⟩
 · cases hr
 · cases hr; exact h2
theorem TLo.oneV {v : V} {l : List Bs} {N : Nat} (h : TLo S v l N) : OneV v := by
 rcases h with ⟨_, rfl⟩ | ⟨r', rfl, h1, h2, h3, _⟩ <;> exact ⟨rfl, rfl, rfl, rfl⟩
theorem TLo.push3 (ho : S.on = false) {v : V} {l : List Bs} {N : Nat} (h : TLo S v l N) (hN : N ≤ S.next) (hl : l.length < 100000) (a : Bs) :
 ∃ y W v' U, bsP 9 1 1 (Go.Proofs.Ytmeohejdafbodaa.Ev.one (sv [])) [(0, sv a)] S = some (y, W) ∧ apP 9 1 16 v y W = some (v', U) ∧ TLo U v' (l ++ [a]) N ∧ Grew (fun x => qfo v = some x) S U ∧ (∀ b, qfo v' = some b → S.next ≤ b) := by
 obtain ⟨W, h1, h2, h3, h4⟩ := bsP_one ho 9 (Go.Proofs.Ytmeohejdafbodaa.Ev.one (sv [])) (oneV_sv a)
 have on1 := h3.on.trans ho
 have hlm : (l ++ [a]).length = l.length + 1 := by rw [List.length_append]; rfl
 rcases h with ⟨rfl, rfl⟩ | ⟨r, rfl, hr, hr2, hr3, h0⟩
 · obtain ⟨U, k1, k2, k3, k4⟩ := qls (B := 16) on1 h2 (by unfold qac; omega)
   exact ⟨_, W, _, U, h1, k1, .inr ⟨W.next, rfl, k2, by omega, by omega, by simp⟩, (h3.trans k3).mono fun _ _ h => h.elim, fun b hb => by cases hb; exact h3.next⟩
 · have hrow := hr.grew hr2 (fun h => h) h3
   obtain ⟨U, k1, k2, k3, k4⟩ := ap1_more (B := 16) on1 h2 hrow (by rw [qa6]; unfold qac; omega) (by rw [qa6]; unfold big; omega)
   rw [qa6] at k1
   refine ⟨_, W, _, U, h1, k1, .inr ⟨W.next, by rw [hlm], ?_, by omega, by omega, by omega⟩, (h3.mono fun _ _ h => h.elim).trans (k3.mono fun x _ e => by subst e; rfl), fun b hb => by cases hb; exact h3.next⟩
   rw [qgz]
   exact k2
def qfb (ks : List Bs) : List (List UInt8 × Int) := ks.map fun k => (k, 1)
theorem qmo (h : Bs) : ∀ ks, lkS h (qfb ks) = if h ∈ ks then some 1 else none
 | [] => rfl
 | k :: ks => by
  show (if h = k then some 1 else lkS h (qfb ks)) = _
  rw [qmo h ks]
  by_cases e : h = k
  · rw [if_pos e, if_pos (by rw [e]; exact List.mem_cons_self ..)]
  · rw [if_neg e]
    by_cases m : h ∈ ks
    · rw [if_pos m, if_pos (List.mem_cons_of_mem _ m)]
    · rw [if_neg m, if_neg (fun q => (List.mem_cons.1 q).elim e m)]
theorem set_asked (h : Bs) : ∀ ks, setKS h 1 (qfb ks) = qfb (if h ∈ ks then ks else ks ++ [h])
 | [] => rfl
 | k :: ks => by
  show (if h = k then (h, 1) :: qfb ks else (k, 1) :: setKS h 1 (qfb ks)) = _
  rw [set_asked h ks]
  by_cases e : h = k
  · rw [if_pos e, if_pos (by rw [e]; exact List.mem_cons_self ..), e]; rfl
  · rw [if_neg e]
    by_cases m : h ∈ ks
    · rw [if_pos m, if_pos (List.mem_cons_of_mem _ m)]; rfl
    · rw [if_neg m, if_neg (fun q => (List.mem_cons.1 q).elim e m)]; rfl
theorem drop_asked (h : Bs) : ∀ ks, dropKS h (qfb ks) = qfb (ks.erase h)
 | [] => rfl
 | k :: ks => by
  show (if h = k then qfb ks else (k, 1) :: dropKS h (qfb ks)) = _
  rw [drop_asked h ks]
  by_cases e : h = k
  · rw [if_pos e, e, List.erase_cons_head]
  · rw [if_neg e, List.erase_cons_tail (by simp [Ne.symm e])]; rfl
theorem look_strF (ho : S.on = false) {r : Nat} {kv : List (List UInt8 × Int)} (h : MapAt S r (kvS kv)) (a : List UInt8) :
 qcu E0 31 (.map r) (sv a) false S = some (.int .i64 ((lkS a kv).getD 0), S) := by
 obtain ⟨es, c, h1, h2, _⟩ := h
 unfold qcu
 rw [und31, oB]
 simp only
 rw [und9', oB]
 simp only [sv, qgm, cond_true]
 have hg := qj3 ho h1 none
 rw [show stt S none = S from rfl] at hg
 rw [hg, oB]
 simp only
 rw [oB]
 dsimp only
 have hm := qja a kv es 0 h2
 unfold sv at hm
 rw [hm, oB]
 cases lkS a kv with
 | none => simp only [Option.map_none]; rw [zero3]; rfl
 | some v => rfl
def stepF (p : List Bs × List Bs) (h : Bs) : List Bs × List Bs := if h ∈ p.1 then (p.1.erase h, p.2 ++ [h]) else p
noncomputable def fnF (a o : Nat) : V := .fn (.func 15) [] [.ptr a 0, .ptr o 0]
structure Fd (S : St) (r a o f N : Nat) (v : V) (p : List Bs × List Bs) : Prop where
 on : S.on = false
 map : MapAt S r (kvS (qfb p.1))
 ptr : One S a 31 (.map r)
 out : One S o 25 v
 tl : TLo S v p.2 N
 fn : One S f 41 (fnF a o)
 ra : r < a
 ao : a < o
 of : o < f
 fN : f < N
 nx : N ≤ S.next
 few : p.1.length + p.2.length ≤ 1000
variable {r a o f N : Nat} {v : V} {p : List Bs × List Bs}
theorem Fd.grew {W : Nat → Prop} (h : Fd S r a o f N v p) (g : Grew W S T) (h1 : ¬ W r) (h2 : ¬ W a) (h3 : ¬ W o) (h4 : ¬ W f) (h5 : ∀ b, qfo v = some b → ¬ W b) : Fd T r a o f N v p := by
 have := h.ra; have := h.ao; have := h.of; have := h.fN; have := h.nx
 exact ⟨g.on.trans h.on, h.map.grew (by omega) h1 g, RowAt.grew h.ptr (by omega) h2 g, RowAt.grew h.out (by omega) h3 g, h.tl.grewW h5 g, RowAt.grew h.fn (by omega) h4 g, h.ra, h.ao, h.of, h.fN, Nat.le_trans h.nx g.next, h.few⟩
theorem gtrI0 (x : Int) : qad E0 .gtr 3 false true (.int .i64 x) (.int .i64 0) = some (.bool (decide (0 < x))) := by rw [binV_ii, intsV_gtr]
theorem f15_run (m : Nat) (F : Fd S r a o f N v p) (h : Bs) : ∃ v' U, (ev E0 KD (m + 1)).f 15 [sv h, .ptr a 0, .ptr o 0] S = some (.ret (.tuple []), U) ∧ Fd U r a o f N v' (stepF p h) ∧ Grew (fun b => b = r ∨ b = o ∨ qfo v = some b) S U ∧ (∀ b, qfo v' = some b → qfo v = some b ∨ S.next ≤ b) := by
 obtain ⟨ks, acc⟩ := p
 have ho := F.on
 have hra := F.ra; have hao := F.ao; have hof := F.of; have hfN := F.fN; have hnx := F.nx
 have few : ks.length + acc.length ≤ 1000 := F.few
 by_cases hm : h ∈ ks
 · obtain ⟨y, W, v', U1, b1, b2, b3, b4, b5⟩ := F.tl.push3 ho F.nx (by show acc.length < 100000; omega) h
   have gb : ∀ x, x < N → ¬ (qfo v = some x) := fun x hx e => by have := (F.tl.blk e).1; omega
   have on1 := b4.on.trans ho
   have n1 := b4.next
   obtain ⟨U2, c1, c2, c3, c4⟩ := (F.out.grew (by omega) (gb o (by omega)) b4).st on1 b3.oneV
   have on2 := c3.on.trans on1
   have hmap2 : MapAt U2 r (kvS (qfb ks)) := (F.map.grew (by omega) (gb r (by omega)) b4).grew (by omega) (by omega) c3
   have hlk : lkS h (qfb ks) = some 1 := by rw [qmo, if_pos hm]
   obtain ⟨es, cl, d1, d2⟩ := del_str on2 hmap2 h hlk
   have hd := d2 none
   have g3 : Grew (fun x => x = r) U2 (U2.put r (.map es cl)) := qbu _ _
   have hmap3 := mapAt_put (S := U2) r d1
   rw [drop_asked] at hmap3
   have hptr2 : One U2 a 31 (.map r) := (F.ptr.grew (by omega) (gb a (by omega)) b4).grew (by omega) (by omega) c3
   have htl : TLo (U2.put r (.map es cl)) v' (acc ++ [h]) N := (b3.grewW (fun x e => by have := (b3.blk e).1; omega) c3).grewW (fun x e => by have := (b3.blk e).1; omega) g3
   refine ⟨v', U2.put r (.map es cl), rd15 ?_, ?_, ?_, ?_⟩
   · show F15 (ev E0 KD m) qa1 (sv h) (.ptr a 0) (.ptr o 0) S = _
     rw [F15_eq, F.ptr.ld ho, oB]
     dsimp only
     rw [look_strF ho F.map, oB]
     dsimp only
     rw [hlk, show (some (1 : Int)).getD 0 = 1 from rfl, gtrI0, oB, ifK_bool, show decide ((0 : Int) < 1) = true from rfl, cond_true, F.out.ld ho, oB]
     dsimp only
     rw [b1, oB]
     dsimp only
     rw [b2, oB]
     dsimp only
     rw [c1, oB]
     dsimp only
     rw [hptr2.ld on2, oB]
     dsimp only
     rw [show qdf E0 31 (.map r) (sv h) U2 = _ from hd]
     rfl
   · have hs : stepF (ks, acc) h = (ks.erase h, acc ++ [h]) := by unfold stepF; rw [if_pos hm]
     rw [hs]
     refine ⟨g3.on.trans on2, hmap3, hptr2.grew (by omega) (by omega) g3, c2.grew (by omega) (by omega) g3, htl, ((F.fn.grew (by omega) (gb f (by omega)) b4).grew (by omega) (by omega) c3).grew (by omega) (by omega) g3, hra, hao, hof, hfN, ?_, ?_⟩
     · have := g3.next; omega
     · show (ks.erase h).length + (acc ++ [h]).length ≤ 1000
       rw [List.length_erase_of_mem hm, List.length_append]
       have := List.length_pos_of_mem hm
       simp; omega
   · exact ((b4.mono fun x _ e => .inr (.inr e)).trans ((c3.mono fun x _ e => .inr (.inl e)).trans (g3.mono fun x _ e => .inl e)))
   · intro b hb
     exact .inr (b5 b hb)
 · have hs : stepF (ks, acc) h = (ks, acc) := by unfold stepF; rw [if_neg hm]
   refine ⟨v, S, rd15 ?_, by rw [hs]; exact F, Grew.refl _ _, fun b hb => .inl hb⟩
   show F15 (ev E0 KD m) qa1 (sv h) (.ptr a 0) (.ptr o 0) S = _
   have hlk : lkS h (qfb ks) = none := by rw [qmo, if_neg hm]
   rw [F15_eq, F.ptr.ld ho, oB]
   dsimp only
   rw [look_strF ho F.map, oB]
   dsimp only
   rw [hlk, show (none : Option Int).getD 0 = 0 from rfl, gtrI0, oB, ifK_bool, show decide ((0 : Int) < 0) = false from rfl, cond_false]
end
section
variable {S T U X : St} {r a o f N l : Nat} {v : V} {p : List Bs × List Bs}
def askL (ks : List Bs) : List Bs → List Bs
 | [] => ks
 | h :: hs => askL (if isH h then (if h ∈ ks then ks else ks ++ [h]) else ks) hs
theorem eqE (x : Int) : qad E0 .eql 32 false true (.int .i64 x) (.int .i64 0) = some (.bool (decide (x = 0))) := by rw [binV_ii, intsV_eql]
theorem ext0 (x y : V) : qa9 (.tuple [x, y]) 0 = some x := rfl
theorem ext1 (x y : V) : qa9 (.tuple [x, y]) 1 = some y := rfl
theorem L51_spec {m N : Nat} {v1 v2 v4 : V} {hs : List Bs} (hv : TV v1 hs) (hsh : Short hs) (hfew : hs.length ≤ 1000) (nk : Ac → St → Rs) (ek : Nat → Ac → St → Rs) :
 ∀ (rest : List Bs) (i q : Nat) (ks : List Bs) (S : St), hs.drop i = rest → rest.length < q → S.on = false → MapAt S r (kvS (qfb ks)) → One S a 31 (.map r) → r < a → a < S.next →
 ∃ U, L8_51 (ev E0 KD (m + 4)) N nk ek q [] v2 v4 (.ptr a 0) v1 (.int .i64 (hs.length : Int)) (.int .i64 (i : Int)) S = ek 0 (frD 60 [(2, v2), (4, v4), (5, .ptr a 0)] []) U ∧ MapAt U r (kvS (qfb (askL ks rest))) ∧ Grew (fun x => x = r) S U
 | _, _, 0, _, _, _, hq, _, _, _, _, _ => by omega
 | [], i, q + 1, ks, S, hi, hq, ho, hm, hp, hra, ha => by
  refine ⟨S, ?_, hm, Grew.refl _ _⟩
  rw [L8_51_eq, qmq, decide_eq_false (Nat.not_lt.2 (qbo hi)), oB, ifK_bool, cond_false]
 | h :: rest, i, q + 1, ks, S, hi, hq, ho, hm, hp, hra, ha => by
  obtain ⟨hil, hf, hrest, hmem⟩ := qct hi
  rw [List.length_cons] at hq
  have hih : hs[i]? = some h := by rw [List.getElem?_eq_getElem hil, hf]
  obtain ⟨U1, a1, a2⟩ := f14_run ho m h (hsh h hmem)
  have on1 := a2.on.trans ho
  have hm1 := hm.grew (by omega) (fun h => h) a2
  have hp1 := hp.grew ha (fun h => h) a2
  have n1 := a2.next
  cases hx : isH h with
  | false =>
   obtain ⟨U, b1, b2, b3⟩ := L51_spec (m := m) (N := N) hv hsh hfew nk ek rest (i + 1) q ks U1 hrest (by omega) on1 hm1 hp1 hra (by omega)
   refine ⟨U, ?_, by rw [askL, hx, if_neg (by simp)]; exact b2, (a2.mono fun _ _ h => h.elim).trans b3⟩
   rw [L8_51_eq, qmq, decide_eq_true hil, oB, ifK_bool, cond_true, hv.ix hih, oB, ldc, oB]
   dsimp only
   rw [a1, qee, hx, if_neg (by simp), ext0, oB, ext1, oB, eqE, oB, ifK_bool, show decide ((2 : Int) = 0) = false from rfl, cond_false, qk9 (by omega), oB, b1]
  | true =>
   obtain ⟨es, cl, d1, d2⟩ := upd_str on1 hm1 h 1
   have hd := d2 none
   have g3 : Grew (fun x => x = r) U1 (U1.put r (.map es cl)) := qbu _ _
   have hm2 := mapAt_put (S := U1) r d1
   rw [set_asked] at hm2
   obtain ⟨U, b1, b2, b3⟩ := L51_spec (m := m) (N := N) hv hsh hfew nk ek rest (i + 1) q _ (U1.put r (.map es cl)) hrest (by omega) (g3.on.trans on1) hm2 (hp1.grew (by omega) (by omega) g3) hra (by have := g3.next; omega)
   refine ⟨U, ?_, by rw [askL, hx, if_pos rfl]; exact b2, ((a2.mono fun _ _ h => h.elim).trans g3).trans b3⟩
   rw [L8_51_eq, qmq, decide_eq_true hil, oB, ifK_bool, cond_true, hv.ix hih, oB, ldc, oB]
   dsimp only
   rw [a1, qee, hx, if_pos rfl, ext0, oB, ext1, oB, eqE, oB, ifK_bool, show decide ((0 : Int) = 0) = true from rfl, cond_true, hp1.ld on1, oB]
   dsimp only
   rw [show qbn E0 31 (.map r) (sv h) (.int .i64 1) U1 = _ from hd]
   show ((qad E0 .add 3 false true (.int .i64 (i : Int)) (.int .i64 1)).bind fun t68 => _) = _
   rw [qk9 (by omega), oB]
   exact b1
theorem foldF_nil : ∀ (ws : List Bs) (acc : List Bs), ws.foldl stepF ([], acc) = ([], acc)
 | [], _ => rfl
 | w :: ws, acc => by
  rw [List.foldl_cons, show stepF ([], acc) w = ([], acc) from if_neg (by simp), foldF_nil ws acc]
def Wf (r o l : Nat) (v : V) (b : Nat) : Prop := b = r ∨ b = o ∨ b = l ∨ qfo v = some b
def Fr (v v' : V) (S : St) : Prop := ∀ b, qfo v' = some b → qfo v = some b ∨ S.next ≤ b
theorem Wf.then {v v' : V} (g : Grew (Wf r o l v) S T) (h : Fr v v' S) (k : Grew (Wf r o l v') T U) : Grew (Wf r o l v) S U :=
 Grew.then g k fun x hx hw => by
  rcases hw with e | e | e | e
  · exact .inl e
  · exact .inr (.inl e)
  · exact .inr (.inr (.inl e))
  · rcases h x e with q | q
    · exact .inr (.inr (.inr q))
    · omega
theorem Fr.trans {v v' v'' : V} (h : Fr v v' S) (g : S.next ≤ T.next) (k : Fr v' v'' T) : Fr v v'' S := fun b hb => by
 rcases k b hb with q | q
 · exact h b q
 · exact .inr (by omega)
theorem body15 : E0.ext.get 15 = none ∧ qbm E0 15 = true := ⟨by kernel_rfl, by kernel_rfl⟩
theorem callDR_ret {a : Ac} {pl : Plan} {s0 : St} {i : Nat} {logs : List (List LE)} {v : V} {t : St} {k : V → St → Rs} : callDR a pl s0 i logs (some (.ret v, t)) k = k v t := rfl
theorem L25_spec {m Nn : Nat} (w : Bs) (hw : w.length ≤ 100000) (nk : Ac → St → Rs) (ek : Nat → Ac → St → Rs) :
 ∀ (k i q : Nat) (v : V) (p : List Bs × List Bs) (S : St), w.length - i = k → k < q → i ≤ w.length → Fd S r a o f N v p →
 ∃ v' U, L8_25 (ev E0 KD (m + 1)) Nn nk ek q l (.ptr a 0) (.ptr f 0) (sv w) (.int .i64 (i : Int)) S = ek 4 (frR 60 [] l) U ∧ Fd U r a o f N v' ((wins (w.drop i)).foldl stepF p) ∧ Grew (Wf r o r v) S U ∧ Fr v v' S
 | _, _, 0, _, _, _, _, hq, _, _ => by omega
 | k, i, q + 1, v, p, S, hi, hq, hle, F => by
  have ho := F.on
  obtain ⟨ks, acc⟩ := p
  have few : ks.length + acc.length ≤ 1000 := F.few
  have hmap : MapAt S r (kvS (qfb ks)) := F.map
  have hln : lnMap (.map r) S = some (.int .i64 (ks.length : Int), S) := by
   have := lnMap_of ho hmap
   rw [this]; unfold kvS qfb; rw [List.length_map, List.length_map]
  by_cases hc : i + 32 ≤ w.length
  · have hhead : ∀ R, ifK (.bool (decide (0 < (ks.length : Int)))) (
(ld1 (.ptr f 0) (onS S)).bind fun p36 =>
(qb4 E0 9 (sv w) (some (.int .i64 (i : Int))) (some (.int .i64 ((i + 32 : Nat) : Int))) none (onS p36.2)).bind fun p41 =>
callDR (frR 60 [(5, .ptr a 0), (11, .ptr f 0), (12, sv w), (13, .int .i64 (i : Int)), (38, .int .i64 (i : Int)), (39, .int .i64 ((i + 32 : Nat) : Int)), (40, sv w), (41, .int .i64 (w.length : Int)), (42, .bool true), (43, .bool true), (44, .map r), (45, .int .i64 (ks.length : Int)), (46, .bool (decide (0 < (ks.length : Int)))), (47, .bool (decide (0 < (ks.length : Int)))), (50, p36.1), (51, sv w), (52, .int .i64 (i : Int)), (53, .int .i64 (i : Int)), (54, .int .i64 ((i + 32 : Nat) : Int)), (55, p41.1)] l) (qap E0 (DB8_21.l.r.l.l.r.l.l).ops) S 6 [p36.2.log, [], [], [], [], p41.2.log] (qfp E0 (ev E0 KD (m + 1)) p36.1 [p41.1] (onS p41.2)) fun t42 S42 =>
endP [(0, [5])] S [p36.2.log, [], [], [], [], p41.2.log, S42.log] S42 fun S43 =>
(qad E0 .add 3 false true (.int .i64 (i : Int)) (.int .i64 1)).bind fun t45 =>
L8_25 (ev E0 KD (m + 1)) Nn nk ek q l (.ptr a 0) (.ptr f 0) (sv w) t45 S43) (
ek 4 (frR 60 [] l) S) = R → L8_25 (ev E0 KD (m + 1)) Nn nk ek (q + 1) l (.ptr a 0) (.ptr f 0) (sv w) (.int .i64 (i : Int)) S = R := fun R hR => by
     rw [L8_25_eq, show V.int .i64 32 = .int .i64 ((32 : Nat) : Int) from rfl, addN _ _ (by omega), oB, qbp, oB]
     dsimp only
     rw [leqN, decide_eq_true hc, oB]
     simp only [gTT, oB, cond_true]
     rw [F.ptr.ld ho, oB]
     dsimp only
     rw [hln, oB]
     dsimp only
     rw [gtrI0, oB, pickV_bool, cond_true, oB]
     exact hR
    cases ks with
    | nil =>
     refine ⟨v, S, hhead _ ?_, by rw [foldF_nil]; exact F, Grew.refl _ _, fun b hb => .inl hb⟩
     rw [ifK_bool]; rfl
    | cons k0 ks =>
     obtain ⟨k', rfl⟩ : ∃ k', k = k' + 1 := ⟨k - 1, by omega⟩
     obtain ⟨v1, U1, b1, b2, b3, b4⟩ := f15_run m F ((w.drop i).take 32)
     obtain ⟨L, b1'⟩ := Lg.ev_lg lgD b1 []
     obtain ⟨U', u1, u2, u3, u4⟩ := relog_any ho U1 [] [(S.lg [⟨f, 0, 1, false⟩]).log, [], [], [], [], (S.lg []).log, (U1.lg L).log]
     have g0 : Grew (fun _ => False) U1 U' := Grew.same (Grew.refl _ _) u2 u3 (u4.trans b2.on.symm)
     have F' : Fd U' r a o f N v1 (stepF (k0 :: ks, acc) ((w.drop i).take 32)) := b2.grew g0 (fun h => h) (fun h => h) (fun h => h) (fun h => h) (fun _ _ h => h)
     have gW : Grew (Wf r o r v) S U' := (b3.mono fun x _ e => by
      rcases e with e | e | e
      · exact .inl e
      · exact .inr (.inl e)
      · exact .inr (.inr (.inr e))).trans (g0.mono fun _ _ h => h.elim)
     obtain ⟨v', U, c1, c2, c3, c4⟩ := L25_spec (m := m) (Nn := Nn) w hw nk ek k' (i + 1) q v1 _ U' (by omega) (by omega) (by omega) F'
     refine ⟨v', U, hhead _ ?_, by rw [wins_at hc, List.foldl_cons]; exact c2, Wf.then gW b4 c3, Fr.trans b4 gW.next c4⟩
     rw [ifK_bool, decide_eq_true (by rw [List.length_cons]; omega), cond_true]
     simp only [ons, qie]
     rw [F.fn.ldOn ho, oB]
     simp only [ons, qie]
     rw [win_sv w hc, oB]
     simp only [ons, qie]
     unfold fnF
     rw [qeu body15.1 body15.2]
     rw [show (([] : List V) ++ [sv ((w.drop i).take 32)] ++ [.ptr a 0, .ptr o 0]) = [sv ((w.drop i).take 32), .ptr a 0, .ptr o 0] from rfl, b1', callDR_ret, qm9 rfl, qk9 (by omega), oB]
     rw [← u1] at c1
     exact c1
  · refine ⟨v, S, ?_, by rw [wins_lt (by rw [List.length_drop]; omega)]; exact F, Grew.refl _ _, fun b hb => .inl hb⟩
    rw [L8_25_eq, show V.int .i64 32 = .int .i64 ((32 : Nat) : Int) from rfl, addN _ _ (by omega), oB, qbp, oB]
    dsimp only
    rw [leqN, decide_eq_false hc, oB]
    simp only [gTF, oB, cond_false, pickV_bool, ifK_bool]
end
end Go.Proofs.Ytmeohejdafbodaa.W
