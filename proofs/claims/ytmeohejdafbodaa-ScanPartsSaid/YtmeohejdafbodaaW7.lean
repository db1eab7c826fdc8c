/-
  WHAT THE FUNCTIONS COME TO: each is read by the evaluator, printed, and told as a function of data, part 7 of 8 (no condition).
-/
import Derived.Test.YtmeohejdafbodaaW6
import Derived.Lib.SmallJoins
namespace Go.Proofs.Ytmeohejdafbodaa.W
open Go.Proofs.Ytmeohejdafbodaa.Ev Go.RowKit
def numb : Nat → List V → List (Nat × V)
 | _, [] => []
 | i, v :: l => (i, v) :: numb (i + 1) l
theorem fillE_numb (n : Nat) : ∀ (vs : List V) (i : Nat) (c : Tr (Tr V)), (∀ v ∈ vs, OneV v) → i + vs.length ≤ n → ∃ c', qfh n 1 c (numb i vs) = some c' ∧ ∀ j, (∀ v, i ≤ j → vs[j - i]? = some v → c'.get j = some (Go.Proofs.Ytmeohejdafbodaa.Ev.one v)) ∧ (j < i → c'.get j = c.get j)
 | [], i, c, _, _ => ⟨c, rfl, fun j => ⟨fun v _ h => by simp at h, fun _ => rfl⟩⟩
 | v :: vs, i, c, hv, hn => by
  have h1 := hv v (List.mem_cons_self ..)
  rw [List.length_cons] at hn
  obtain ⟨c', h2, h3⟩ := fillE_numb n vs (i + 1) (c.set (Go.Proofs.Ytmeohejdafbodaa.Ev.one v) i) (fun w hw => hv w (List.mem_cons_of_mem _ hw)) (by omega)
  refine ⟨c', ?_, fun j => ⟨fun w hj hw => ?_, fun hj => ?_⟩⟩
  · show qfh n 1 c ((i, v) :: numb (i + 1) vs) = _
    unfold qfh
    rw [h1.size, h1.tup, h1.cells, show Nat.blt i n = true from blt_true.2 (by omega)]
    simp only [Nat.beq_refl, Bool.not_false, Bool.and_self, cond_true, Tr.setC_eq]
    exact h2
  · by_cases e : j = i
    · subst e
      rw [Nat.sub_self] at hw
      simp only [List.getElem?_cons_zero, oS] at hw
      rw [(h3 j).2 (by omega), Tr.get_set, if_pos rfl, hw]
    · refine (h3 j).1 w (by omega) ?_
      rw [show j - i = (j - (i + 1)) + 1 by omega, List.getElem?_cons_succ] at hw
      exact hw
  · rw [(h3 j).2 (by omega), Tr.get_set, if_neg (by omega)]
section
variable {S : St}
theorem bsP_ones (ho : S.on = false) (e : Nat) (z : Tr V) (vs : List V) (hv : ∀ v ∈ vs, OneV v) (hf : vs.length < big) : ∃ U, (∀ m, bsP e 1 vs.length z (numb 0 vs) (stt S m) = some (.slice S.next 0 vs.length vs.length, stt U (m.map fun l => ⟨S.next, 0, big, true⟩ :: l))) ∧ RowAt U S.next e 1 (vs.map Go.Proofs.Ytmeohejdafbodaa.Ev.one) ∧ Grew (fun _ => False) S U ∧ U.next = S.next + 1 := by
 obtain ⟨c, h1, h2⟩ := fillE_numb vs.length vs 0 (Tr.tab vs.length vs.length fun _ => z) hv (by omega)
 refine ⟨nw S (.cells e 1 vs.length false c), fun m => ?_, ?_, qc6 ho _ _, rfl⟩
 · unfold bsP
   rw [h1, oB]
   cases m with
   | none => rfl
   | some l =>
    show some (V.slice S.next 0 vs.length vs.length, nw (S.lg l) _) = _
    rw [nw_lg ho]; rfl
 · refine qf2 ho (by omega) (by rw [List.length_map]) (by omega) fun i t h => ?_
   rw [List.getElem?_map] at h
   cases hg : vs[i]? with
   | none => rw [hg] at h; cases h
   | some v =>
    rw [hg] at h
    simp only [Option.map_some, oS] at h
    rw [← h]
    exact (h2 i).1 v (Nat.zero_le _) hg
variable {T U : St}
theorem addStr (c d : Bool) {a b : Bs} (h : a.length + b.length < 4611686018427387904) : qab E0 .add 9 c d (sv a) (sv b) = some (sv (a ++ b)) := by
 rw [binV_ss, strOp_add _ _ h]
theorem body57 : E0.ext.get 57 = none ∧ qbm E0 57 = true := ⟨by kernel_rfl, by kernel_rfl⟩
theorem f57_run (m : Nat) (S : St) : (ev E0 KD (m + 1)).f 57 [.int .u8 120] S = some (.ret (.bool true), S) := rd57 (by
 show F57 (ev E0 KD m) qa1 (.int .u8 120) S = _
 rw [F57_eq]
 kernel_rfl)
theorem f61_run (ho : S.on = false) (m : Nat) {r c : Nat} {l : List (Tr V)} (h : RowAt S r 85 1 l) (h0 : l[0]? = some (Go.Proofs.Ytmeohejdafbodaa.Ev.one (.fn (.func 57) [] []))) : (ev E0 KD (m + 2)).f 61 [.int .u8 120, .slice r 0 4 c] S = some (.ret (.bool true), S) := rd61 (by
 show F61 (ev E0 KD (m + 1)) qa1 (.int .u8 120) (.slice r 0 4 c) S = _
 obtain ⟨n, hn⟩ : ∃ n, qa1 = n + 1 := ⟨qa1 - 1, by unfold qa1; omega⟩
 rw [F61_eq, lnS_of (n := 4) (fun _ _ e => by cases e) rfl, oB]
 dsimp only
 rw [hn, L61_6_eq, show V.int .i64 0 = .int .i64 ((0 : Nat) : Int) from rfl, lssN, decide_eq_true (by omega), oB, ifK_bool, cond_true, show ixP 1 (.slice r 0 4 c) (.int .i64 ((0 : Nat) : Int)) = some (.ptr r 0) from rfl, oB, show ld1 (.ptr r 0) S = some (_, S) from h.ld1 ho h0, oB]
 dsimp only
 rw [qeu body57.1 body57.2]
 show qay ((ev E0 KD (m + 1)).f 57 [.int .u8 120] S) _ = _
 rw [f57_run, callP_ret, ifK_bool, cond_true])
theorem f31_run (ho : S.on = false) (m : Nat) : ∃ U, (ev E0 KD (m + 3)).f 31 [sv [120]] S = some (.ret (.int .i64 0), U) ∧ Grew (fun _ => False) S U := by
 obtain ⟨U, a1, a2, a3, a4⟩ := bsP_ones ho 85 (Go.Proofs.Ytmeohejdafbodaa.Ev.one .nilfn) [.fn (.func 57) [] [], .fn (.func 58) [] [], .fn (.func 59) [] [], .fn (.func 60) [] []] (fun v hv => by
  simp only [List.mem_cons, List.not_mem_nil, or_false] at hv
  rcases hv with rfl | rfl | rfl | rfl <;> exact ⟨rfl, rfl, rfl, rfl⟩) (by show 4 < big; unfold big; decide)
 have a1' : bsP 85 1 4 (Go.Proofs.Ytmeohejdafbodaa.Ev.one .nilfn) [(0, .fn (.func 57) [] []), (1, .fn (.func 58) [] []), (2, .fn (.func 59) [] []), (3, .fn (.func 60) [] [])] S = some (.slice S.next 0 4 4, U) := a1 none
 refine ⟨U, rd31 ?_, a3⟩
 obtain ⟨n, hn⟩ : ∃ n, qa1 = n + 2 := ⟨qa1 - 2, by unfold qa1; omega⟩
 show F31 (ev E0 KD (m + 2)) qa1 (sv [120]) S = _
 rw [F31_eq, qfm, oB]
 dsimp only
 rw [show qab E0 .gtr 3 false true (.int .i64 (([120] : Bs).length : Int)) (.int .i64 20) = some (.bool false) from rfl, oB, ifK_bool, cond_false, qfm, oB]
 dsimp only
 rw [hn, L31_22_eq, show V.int .i64 0 = .int .i64 ((0 : Nat) : Int) from rfl, lssN, decide_eq_true (by decide), oB, ifK_bool, cond_true, show ixS (sv [120]) (.int .i64 ((0 : Nat) : Int)) = some (.int .u8 120) from rfl, oB, a1', oB]
 dsimp only
 rw [f61_run (a3.on.trans ho) m a2 rfl, callP_ret, unV_not, oB, ifK_bool, Bool.not_true, cond_false, qli (by decide), oB, L31_22_eq, lssN, decide_eq_false (by decide), oB, ifK_bool, cond_false, exB_same, R31_9_eq]
 kernel_rfl
theorem f14_run (ho : S.on = false) (m : Nat) (h : Bs) (hh : h.length < 9223372036854775808) : ∃ U, (ev E0 KD (m + 4)).f 14 [sv h, sv [120]] S = some (.ret (.tuple (if isH h then [sv (h ++ [45] ++ [120]), .int .i64 0] else [sv [], .int .i64 2])), U) ∧ Grew (fun _ => False) S U := by
 obtain ⟨U1, a1, a2⟩ := f30_run (m + 1) S ho h hh
 cases hi : isH h with
 | false =>
  refine ⟨U1, rd14 ?_, a2⟩
  show F14 (ev E0 KD (m + 3)) qa1 (sv h) (sv [120]) S = _
  rw [F14_eq, a1, callP_ret, unV_not, oB, ifK_bool, hi, Bool.not_false, cond_true]
  rfl
 | true =>
  have h32 := isH_len hi
  obtain ⟨U2, b1, b2⟩ := f31_run (a2.on.trans ho) m
  refine ⟨U2, rd14 ?_, a2.trans b2⟩
  show F14 (ev E0 KD (m + 3)) qa1 (sv h) (sv [120]) S = _
  rw [F14_eq, a1, callP_ret, unV_not, oB, ifK_bool, hi, Bool.not_true, cond_false, b1, callP_ret, show qab E0 .neq 32 false true (.int .i64 0) (.int .i64 0) = some (.bool false) from by kernel_rfl, oB, ifK_bool, cond_false, addStr _ _ (by show h.length + 1 < _; omega), oB, addStr _ _ (by rw [List.length_append]; show h.length + 1 + 1 < _; omega), oB, if_pos rfl]
end
theorem lgD : Lg.KnLoc KD :=
 ((((((((((((((((((((Lg.knLoc_nil).add 75 fun _ => Lg.specKF_lg _).add 73 fun _ => Lg.specKF_lg _).add 42 fun _ => Lg.specKF_lg _).add 36 fun _ => Lg.specKF_lg _).add 24 fun _ => Lg.specKF_lg _).add 51 fun _ => Lg.specKF_lg _).add 26 fun _ => Lg.specKF_lg _).add 38 fun _ => Lg.specKF_lg _).add 74 fun _ => Lg.specKF_lg _).add 37 fun _ => Lg.specKF_lg _).add 47 fun _ => Lg.specKF_lg _).add 99 fun _ => Lg.specKF_lg _).add 79 fun _ => Lg.specKF_lg _).add 50 fun _ => Lg.specKF_lg _).add 25 fun _ => Lg.specKF_lg _).add 11 fun _ => kfNodeR_lg _ _).add 18 fun _ => Lg.specKF_lg _).add 6 fun _ => Lg.specKF_lg _).add 17 fun _ => kfSort_lg _).add 10 fun _ => Lg.specKF_lg _
section
variable {F : Fz.Fz}
end
section
variable {S T U : St}
def wins : Bs → List Bs
 | [] => []
 | c :: w => if 32 ≤ (c :: w).length then (c :: w).take 32 :: wins w else []
theorem wins_lt {w : Bs} (h : w.length < 32) : wins w = [] := by
 cases w with
 | nil => rfl
 | cons c w => rw [wins, if_neg (by omega)]
theorem wins_at {w : Bs} {i : Nat} (h : i + 32 ≤ w.length) : wins (w.drop i) = (w.drop i).take 32 :: wins (w.drop (i + 1)) := by
 have hlt : i < w.length := by omega
 rw [List.drop_eq_getElem_cons hlt, wins, if_pos (by rw [List.length_cons, List.length_drop]; omega)]
mutual
def qfu : Nd → List Bs
 | .mk _ _ _ d l => wins d ++ qg8 l
def qg8 : List Nd → List Bs
 | [] => []
 | x :: l => qfu x ++ qg8 l
end
theorem qhv (x : Nd) : qfu x = wins x.data ++ qg8 x.kids := by cases x; rw [qfu]; rfl
theorem addN (c d : Bool) {a b : Nat} (h : a + b < 4611686018427387904) : qab E0 .add 3 c d (.int .i64 (a : Int)) (.int .i64 (b : Int)) = some (.int .i64 ((a + b : Nat) : Int)) := by
 rw [binV_ii, intsV_add, show ((a : Int) + (b : Int)) = ((a + b : Nat) : Int) by omega, qby (by omega) (by omega)]
theorem leqN (c d : Bool) (a b : Nat) : qab E0 .leq 3 c d (.int .i64 (a : Int)) (.int .i64 (b : Int)) = some (.bool (decide (a ≤ b))) := by
 rw [binV_ii, intsV_leq]
 congr 2
 simp
theorem win_sv (w : Bs) {i : Nat} (h : i + 32 ≤ w.length) (S : St) : qdk E0 9 (sv w) (some (.int .i64 (i : Int))) (some (.int .i64 ((i + 32 : Nat) : Int))) none S = some (sv ((w.drop i).take 32), S) := by
 rw [qly und9' w (bounds_lohi .i64 .i64 (Nat.le_add_right ..) h) h, show i + 32 - i = 32 by omega]
end
section
variable {S T U X : St}
theorem faP4 (b : Nat) : faP 4 false 1 (.ptr b 0) = some (.ptr b 4) := by rw [show (1 : Nat) = 0 + 1 from rfl, faP_ptr]
theorem faP3 (b : Nat) : faP 3 false 1 (.ptr b 0) = some (.ptr b 3) := by rw [show (1 : Nat) = 0 + 1 from rfl, faP_ptr]
theorem cntL_mem {y : Nd} : ∀ {l : List Nd}, y ∈ l → qei y ≤ cntL l
 | z :: l, h => by
  rw [cntL]
  rcases List.mem_cons.1 h with rfl | h
  · omega
  · have := cntL_mem h; omega
theorem qk7 (x : Nd) : qei x = 1 + cntL x.kids := by cases x; rw [qei]; rfl
end
section
variable {S T U X : St}
theorem neqE (a : Int) : qab E0 .neq 32 false true (.int .i64 a) (.int .i64 0) = some (.bool (!decide (a = 0))) := by rw [binV_ii, intsV_neq]
end
section
variable {S T U X : St}
def hit (x : Nd) (h : Bs) : Bool := isH h && (qfu x).contains h
def qfk (x : Nd) (acc : List Bs) : List Bs → List Bs
 | [] => acc
 | h :: hs => qfk x (if hit x h then putB h acc else acc) hs
def Short (hs : List Bs) : Prop := ∀ h ∈ hs, h.length < 9223372036854775808
end
section
variable {S T U X : St}
theorem kd11 : KD 11 = some (qe1 qev) := rfl
theorem kd17 : KD 17 = some kfSort := rfl
theorem kd10 : KD 10 = some kfTrue := rfl
theorem kd6 : KD 6 = some kfShort := rfl
theorem qk6 (n : Nat) (x : Nd) (ok : x.ok) (S : St) : (ev E0 KD (n + 1)).f 11 [qc7 x] S = some (.ret (.int .i64 (qev x)), S) := by
 rw [qaq kd11, kfNodeR_run _ x ok]
end
section
variable {S T U X : St}
def One (S : St) (b e : Nat) (v : V) : Prop := RowAt S b e 1 [Go.Proofs.Ytmeohejdafbodaa.Ev.one v]
theorem One.ld {b e : Nat} {v : V} (h : One S b e v) (ho : S.on = false) : ld1 (.ptr b 0) S = some (v, S) := RowAt.ld1 ho h rfl
theorem One.ldOn {b e : Nat} {v : V} (h : One S b e v) (ho : S.on = false) (l : List LE) : ld1 (.ptr b 0) (S.lg l) = some (v, S.lg (⟨b, 0, 1, false⟩ :: l)) := ld1_lg ho (h.ld ho) l
theorem One.st {b e : Nat} {x v : V} (h : One S b e x) (ho : S.on = false) (hv : OneV v) : ∃ U, stP 1 (.ptr b 0) v S = some (.tuple [], U) ∧ One U b e v ∧ Grew (fun x => x = b) S U ∧ U.next = S.next := by
 obtain ⟨U, h1, h2, h3, h4⟩ := RowAt.stK ho h (i := 0) (by show 0 < 1; decide) (Go.Proofs.Ytmeohejdafbodaa.Ev.one v)
 refine ⟨U, ?_, h2, h3, h4⟩
 show vu (bif Nat.beq v.size 1 && !qa9 v then stK S b 0 1 v.cells else none) = _
 rw [hv.size, hv.cells, hv.tup, show stK S b 0 1 (Go.Proofs.Ytmeohejdafbodaa.Ev.one v) = some U from h1]
 rfl
theorem one_new (ho : S.on = false) (e : Nat) (v : V) : One (nwP e 1 (Go.Proofs.Ytmeohejdafbodaa.Ev.one v) S).2 S.next e v ∧ Grew (fun _ => False) S (nwP e 1 (Go.Proofs.Ytmeohejdafbodaa.Ev.one v) S).2 ∧ (nwP e 1 (Go.Proofs.Ytmeohejdafbodaa.Ev.one v) S).2.next = S.next + 1 :=
 ⟨qfb ho (by omega) (by show 1 * 1 < big; unfold big; decide), qc6 ho _ _, rfl⟩
theorem One.grew {W : Nat → Prop} {b e : Nat} {v : V} (h : One S b e v) (hb : b < S.next) (hw : ¬ W b) (g : Grew W S T) : One T b e v := RowAt.grew h hb hw g
theorem Grew.then {W W' : Nat → Prop} {a b c : St} (h : Grew W a b) (k : Grew W' b c) (hw : ∀ x, x < a.next → W' x → W x) : Grew W a c :=
 ⟨Nat.le_trans h.next k.next, k.on.trans h.on, fun x hx hn => (k.keep x (Nat.lt_of_lt_of_le hx h.next) fun e => hn (hw x hx e)).trans (h.keep x hx hn)⟩
theorem TLo.grewW {W : Nat → Prop} {v : V} {l : List Bs} {N : Nat} (h : TLo S v l N) (hw : ∀ r, qfd v = some r → ¬ W r) (g : Grew W S U) : TLo U v l N := by
 rcases h with h | ⟨r, rfl, h1, h2, h3, h4⟩
 · exact .inl h
 · exact .inr ⟨r, rfl, h1.grew h2 (hw r rfl) g, Nat.lt_of_lt_of_le h2 g.next, h3, h4⟩
theorem TLo.lt {v : V} {l : List Bs} {N r : Nat} (h : TLo S v l N) (hr : qfd v = some r) : r < S.next := by
 rcases h with ⟨_, rfl⟩ | ⟨r', rfl, h1, h2, h3, _⟩
 · cases hr
 · cases hr; exact h2
theorem TLo.oneV {v : V} {l : List Bs} {N : Nat} (h : TLo S v l N) : OneV v := by
 rcases h with ⟨_, rfl⟩ | ⟨r', rfl, h1, h2, h3, _⟩ <;> exact ⟨rfl, rfl, rfl, rfl⟩
theorem TLo.push3 (ho : S.on = false) {v : V} {l : List Bs} {N : Nat} (h : TLo S v l N) (hN : N ≤ S.next) (hl : l.length < 100000) (a : Bs) :
 ∃ y W v' U, bsP 9 1 1 (Go.Proofs.Ytmeohejdafbodaa.Ev.one (sv [])) [(0, sv a)] S = some (y, W) ∧ apP 9 1 16 v y W = some (v', U) ∧ TLo U v' (l ++ [a]) N ∧ Grew (fun x => qfd v = some x) S U ∧ (∀ b, qfd v' = some b → S.next ≤ b) := by
 obtain ⟨W, h1, h2, h3, h4⟩ := bsP_one ho 9 (Go.Proofs.Ytmeohejdafbodaa.Ev.one (sv [])) (oneV_sv a)
 have on1 := h3.on.trans ho
 have hlm : (l ++ [a]).length = l.length + 1 := by rw [List.length_append]; rfl
 rcases h with ⟨rfl, rfl⟩ | ⟨r, rfl, hr, hr2, hr3, h0⟩
 · obtain ⟨U, k1, k2, k3, k4⟩ := qmb (B := 16) on1 h2 (by unfold qai; omega)
   exact ⟨_, W, _, U, h1, k1, .inr ⟨W.next, rfl, k2, by omega, by omega, by simp⟩, (h3.trans k3).mono fun _ _ h => h.elim, fun b hb => by cases hb; exact h3.next⟩
 · have hrow := hr.grew hr2 (fun h => h) h3
   obtain ⟨U, k1, k2, k3, k4⟩ := ap1_more (B := 16) on1 h2 hrow (by rw [qap]; unfold qai; omega) (by rw [qap]; unfold big; omega)
   rw [qap] at k1
   refine ⟨_, W, _, U, h1, k1, .inr ⟨W.next, by rw [hlm], ?_, by omega, by omega, by omega⟩, (h3.mono fun _ _ h => h.elim).trans (k3.mono fun x _ e => by subst e; rfl), fun b hb => by cases hb; exact h3.next⟩
   rw [ql4]
   exact k2
def qd9 (ks : List Bs) : List (List UInt8 × Int) := ks.map fun k => (k, 1)
theorem qje (h : Bs) : ∀ ks, lkS h (qd9 ks) = if h ∈ ks then some 1 else none
 | [] => rfl
 | k :: ks => by
  show (if h = k then some 1 else lkS h (qd9 ks)) = _
  rw [qje h ks]
  by_cases e : h = k
  · rw [if_pos e, if_pos (by rw [e]; exact List.mem_cons_self ..)]
  · rw [if_neg e]
    by_cases m : h ∈ ks
    · rw [if_pos m, if_pos (List.mem_cons_of_mem _ m)]
    · rw [if_neg m, if_neg (fun q => (List.mem_cons.1 q).elim e m)]
theorem qo3 (h : Bs) : ∀ ks, setKS h 1 (qd9 ks) = qd9 (if h ∈ ks then ks else ks ++ [h])
 | [] => rfl
 | k :: ks => by
  show (if h = k then (h, 1) :: qd9 ks else (k, 1) :: setKS h 1 (qd9 ks)) = _
  rw [qo3 h ks]
  by_cases e : h = k
  · rw [if_pos e, if_pos (by rw [e]; exact List.mem_cons_self ..), e]; rfl
  · rw [if_neg e]
    by_cases m : h ∈ ks
    · rw [if_pos m, if_pos (List.mem_cons_of_mem _ m)]; rfl
    · rw [if_neg m, if_neg (fun q => (List.mem_cons.1 q).elim e m)]; rfl
theorem drop_asked (h : Bs) : ∀ ks, dropKS h (qd9 ks) = qd9 (ks.erase h)
 | [] => rfl
 | k :: ks => by
  show (if h = k then qd9 ks else (k, 1) :: dropKS h (qd9 ks)) = _
  rw [drop_asked h ks]
  by_cases e : h = k
  · rw [if_pos e, e, List.erase_cons_head]
  · rw [if_neg e, List.erase_cons_tail (by simp [Ne.symm e])]; rfl
theorem qn8 (ho : S.on = false) {r : Nat} {kv : List (List UInt8 × Int)} (h : MapAt S r (kvS kv)) (a : List UInt8) :
 qcc E0 31 (.map r) (sv a) false S = some (.int .i64 ((lkS a kv).getD 0), S) := by
 obtain ⟨es, c, h1, h2, _⟩ := h
 unfold qcc
 rw [und31, oB]
 simp only
 rw [und9', oB]
 simp only [sv, qgu, cond_true]
 have hg := qj8 ho h1 none
 rw [show stt S none = S from rfl] at hg
 rw [hg, oB]
 simp only
 rw [oB]
 dsimp only
 have hm := qjh a kv es 0 h2
 unfold sv at hm
 rw [hm, oB]
 cases lkS a kv with
 | none => simp only [Option.map_none]; rw [zero3]; rfl
 | some v => rfl
def stepF (p : List Bs × List Bs) (h : Bs) : List Bs × List Bs := if h ∈ p.1 then (p.1.erase h, p.2 ++ [h]) else p
noncomputable def fnF (a o : Nat) : V := .fn (.func 15) [] [.ptr a 0, .ptr o 0]
structure Fd (S : St) (r a o f N : Nat) (v : V) (p : List Bs × List Bs) : Prop where
 on : S.on = false
 map : MapAt S r (kvS (qd9 p.1))
 ptr : One S a 31 (.map r)
 out : One S o 25 v
 tl : TLo S v p.2 N
 fn : One S f 41 (fnF a o)
 ra : r < a
 ao : a < o
 of : o < f
 fN : f < N
 nx : N ≤ S.next
 few : p.1.length + p.2.length ≤ 1000
variable {r a o f N : Nat} {v : V} {p : List Bs × List Bs}
theorem Fd.grew {W : Nat → Prop} (h : Fd S r a o f N v p) (g : Grew W S T) (h1 : ¬ W r) (h2 : ¬ W a) (h3 : ¬ W o) (h4 : ¬ W f) (h5 : ∀ b, qfd v = some b → ¬ W b) : Fd T r a o f N v p := by
 have := h.ra; have := h.ao; have := h.of; have := h.fN; have := h.nx
 exact ⟨g.on.trans h.on, h.map.grew (by omega) h1 g, RowAt.grew h.ptr (by omega) h2 g, RowAt.grew h.out (by omega) h3 g, h.tl.grewW h5 g, RowAt.grew h.fn (by omega) h4 g, h.ra, h.ao, h.of, h.fN, Nat.le_trans h.nx g.next, h.few⟩
theorem gtrI0 (x : Int) : qab E0 .gtr 3 false true (.int .i64 x) (.int .i64 0) = some (.bool (decide (0 < x))) := by rw [binV_ii, intsV_gtr]
theorem f15_run (m : Nat) (F : Fd S r a o f N v p) (h : Bs) : ∃ v' U, (ev E0 KD (m + 1)).f 15 [sv h, .ptr a 0, .ptr o 0] S = some (.ret (.tuple []), U) ∧ Fd U r a o f N v' (stepF p h) ∧ Grew (fun b => b = r ∨ b = o ∨ qfd v = some b) S U ∧ (∀ b, qfd v' = some b → qfd v = some b ∨ S.next ≤ b) := by
 obtain ⟨ks, acc⟩ := p
 have ho := F.on
 have hra := F.ra; have hao := F.ao; have hof := F.of; have hfN := F.fN; have hnx := F.nx
 have few : ks.length + acc.length ≤ 1000 := F.few
 by_cases hm : h ∈ ks
 · obtain ⟨y, W, v', U1, b1, b2, b3, b4, b5⟩ := F.tl.push3 ho F.nx (by show acc.length < 100000; omega) h
   have gb : ∀ x, x < N → ¬ (qfd v = some x) := fun x hx e => by have := (F.tl.blk e).1; omega
   have on1 := b4.on.trans ho
   have n1 := b4.next
   obtain ⟨U2, c1, c2, c3, c4⟩ := (F.out.grew (by omega) (gb o (by omega)) b4).st on1 b3.oneV
   have on2 := c3.on.trans on1
   have hmap2 : MapAt U2 r (kvS (qd9 ks)) := (F.map.grew (by omega) (gb r (by omega)) b4).grew (by omega) (by omega) c3
   have hlk : lkS h (qd9 ks) = some 1 := by rw [qje, if_pos hm]
   obtain ⟨es, cl, d1, d2⟩ := del_str on2 hmap2 h hlk
   have hd := d2 none
   have g3 : Grew (fun x => x = r) U2 (U2.put r (.map es cl)) := qbl _ _
   have hmap3 := qnb (S := U2) r d1
   rw [drop_asked] at hmap3
   have hptr2 : One U2 a 31 (.map r) := (F.ptr.grew (by omega) (gb a (by omega)) b4).grew (by omega) (by omega) c3
   have htl : TLo (U2.put r (.map es cl)) v' (acc ++ [h]) N := (b3.grewW (fun x e => by have := (b3.blk e).1; omega) c3).grewW (fun x e => by have := (b3.blk e).1; omega) g3
   refine ⟨v', U2.put r (.map es cl), rd15 ?_, ?_, ?_, ?_⟩
   · show F15 (ev E0 KD m) qa1 (sv h) (.ptr a 0) (.ptr o 0) S = _
     rw [F15_eq, F.ptr.ld ho, oB]
     dsimp only
     rw [qn8 ho F.map, oB]
     dsimp only
     rw [hlk, show (some (1 : Int)).getD 0 = 1 from rfl, gtrI0, oB, ifK_bool, show decide ((0 : Int) < 1) = true from rfl, cond_true, F.out.ld ho, oB]
     dsimp only
     rw [b1, oB]
     dsimp only
     rw [b2, oB]
     dsimp only
     rw [c1, oB]
     dsimp only
     rw [hptr2.ld on2, oB]
     dsimp only
     rw [show qdc E0 31 (.map r) (sv h) U2 = _ from hd]
     rfl
   · have hs : stepF (ks, acc) h = (ks.erase h, acc ++ [h]) := by unfold stepF; rw [if_pos hm]
     rw [hs]
     refine ⟨g3.on.trans on2, hmap3, hptr2.grew (by omega) (by omega) g3, c2.grew (by omega) (by omega) g3, htl, ((F.fn.grew (by omega) (gb f (by omega)) b4).grew (by omega) (by omega) c3).grew (by omega) (by omega) g3, hra, hao, hof, hfN, ?_, ?_⟩
     · have := g3.next; omega
     · show (ks.erase h).length + (acc ++ [h]).length ≤ 1000
       rw [List.length_erase_of_mem hm, List.length_append]
       have := List.length_pos_of_mem hm
       simp; omega
   · exact ((b4.mono fun x _ e => .inr (.inr e)).trans ((c3.mono fun x _ e => .inr (.inl e)).trans (g3.mono fun x _ e => .inl e)))
   · intro b hb
     exact .inr (b5 b hb)
 · have hs : stepF (ks, acc) h = (ks, acc) := by unfold stepF; rw [if_neg hm]
   refine ⟨v, S, rd15 ?_, by rw [hs]; exact F, Grew.refl _ _, fun b hb => .inl hb⟩
   show F15 (ev E0 KD m) qa1 (sv h) (.ptr a 0) (.ptr o 0) S = _
   have hlk : lkS h (qd9 ks) = none := by rw [qje, if_neg hm]
   rw [F15_eq, F.ptr.ld ho, oB]
   dsimp only
   rw [qn8 ho F.map, oB]
   dsimp only
   rw [hlk, show (none : Option Int).getD 0 = 0 from rfl, gtrI0, oB, ifK_bool, show decide ((0 : Int) < 0) = false from rfl, cond_false]
end
section
variable {S T U X : St} {r a o f N l : Nat} {v : V} {p : List Bs × List Bs}
def askL (ks : List Bs) : List Bs → List Bs
 | [] => ks
 | h :: hs => askL (if isH h then (if h ∈ ks then ks else ks ++ [h]) else ks) hs
theorem eqE (x : Int) : qab E0 .eql 32 false true (.int .i64 x) (.int .i64 0) = some (.bool (decide (x = 0))) := by rw [binV_ii, intsV_eql]
theorem ext0 (x y : V) : qa8 (.tuple [x, y]) 0 = some x := rfl
theorem ext1 (x y : V) : qa8 (.tuple [x, y]) 1 = some y := rfl
theorem foldF_nil : ∀ (ws : List Bs) (acc : List Bs), ws.foldl stepF ([], acc) = ([], acc)
 | [], _ => rfl
 | w :: ws, acc => by
  rw [List.foldl_cons, show stepF ([], acc) w = ([], acc) from if_neg (by simp), foldF_nil ws acc]
def Wf (r o l : Nat) (v : V) (b : Nat) : Prop := b = r ∨ b = o ∨ b = l ∨ qfd v = some b
def Fr (v v' : V) (S : St) : Prop := ∀ b, qfd v' = some b → qfd v = some b ∨ S.next ≤ b
theorem Wf.then {v v' : V} (g : Grew (Wf r o l v) S T) (h : Fr v v' S) (k : Grew (Wf r o l v') T U) : Grew (Wf r o l v) S U :=
 Grew.then g k fun x hx hw => by
  rcases hw with e | e | e | e
  · exact .inl e
  · exact .inr (.inl e)
  · exact .inr (.inr (.inl e))
  · rcases h x e with q | q
    · exact .inr (.inr (.inr q))
    · omega
theorem Fr.trans {v v' v'' : V} (h : Fr v v' S) (g : S.next ≤ T.next) (k : Fr v' v'' T) : Fr v v'' S := fun b hb => by
 rcases k b hb with q | q
 · exact h b q
 · exact .inr (by omega)
theorem body15 : E0.ext.get 15 = none ∧ qbm E0 15 = true := ⟨by kernel_rfl, by kernel_rfl⟩
theorem callDR_ret {a : Ac} {pl : Plan} {s0 : St} {i : Nat} {logs : List (List LE)} {v : V} {t : St} {k : V → St → Rs} : callDR a pl s0 i logs (some (.ret v, t)) k = k v t := rfl
theorem L25_spec {m Nn : Nat} (w : Bs) (hw : w.length ≤ 100000) (nk : Ac → St → Rs) (ek : Nat → Ac → St → Rs) :
 ∀ (k i q : Nat) (v : V) (p : List Bs × List Bs) (S : St), w.length - i = k → k < q → i ≤ w.length → Fd S r a o f N v p →
 ∃ v' U, L8_25 (ev E0 KD (m + 1)) Nn nk ek q l (.ptr a 0) (.ptr f 0) (sv w) (.int .i64 (i : Int)) S = ek 4 (frR 60 [] l) U ∧ Fd U r a o f N v' ((wins (w.drop i)).foldl stepF p) ∧ Grew (Wf r o r v) S U ∧ Fr v v' S
 | _, _, 0, _, _, _, _, hq, _, _ => by omega
 | k, i, q + 1, v, p, S, hi, hq, hle, F => by
  have ho := F.on
  obtain ⟨ks, acc⟩ := p
  have few : ks.length + acc.length ≤ 1000 := F.few
  have hmap : MapAt S r (kvS (qd9 ks)) := F.map
  have hln : lnMap (.map r) S = some (.int .i64 (ks.length : Int), S) := by
   have := lnMap_of ho hmap
   rw [this]; unfold kvS qd9; rw [List.length_map, List.length_map]
  by_cases hc : i + 32 ≤ w.length
  · have hhead : ∀ R, ifK (.bool (decide (0 < (ks.length : Int)))) (
(ld1 (.ptr f 0) (onS S)).bind fun p36 =>
(qdk E0 9 (sv w) (some (.int .i64 (i : Int))) (some (.int .i64 ((i + 32 : Nat) : Int))) none (onS p36.2)).bind fun p41 =>
callDR (frR 60 [(5, .ptr a 0), (11, .ptr f 0), (12, sv w), (13, .int .i64 (i : Int)), (38, .int .i64 (i : Int)), (39, .int .i64 ((i + 32 : Nat) : Int)), (40, sv w), (41, .int .i64 (w.length : Int)), (42, .bool true), (43, .bool true), (44, .map r), (45, .int .i64 (ks.length : Int)), (46, .bool (decide (0 < (ks.length : Int)))), (47, .bool (decide (0 < (ks.length : Int)))), (50, p36.1), (51, sv w), (52, .int .i64 (i : Int)), (53, .int .i64 (i : Int)), (54, .int .i64 ((i + 32 : Nat) : Int)), (55, p41.1)] l) (qav E0 (DB8_21.l.r.l.l.r.l.l).ops) S 6 [p36.2.log, [], [], [], [], p41.2.log] (qfx E0 (ev E0 KD (m + 1)) p36.1 [p41.1] (onS p41.2)) fun t42 S42 =>
endP [(0, [5])] S [p36.2.log, [], [], [], [], p41.2.log, S42.log] S42 fun S43 =>
(qab E0 .add 3 false true (.int .i64 (i : Int)) (.int .i64 1)).bind fun t45 =>
L8_25 (ev E0 KD (m + 1)) Nn nk ek q l (.ptr a 0) (.ptr f 0) (sv w) t45 S43) (
ek 4 (frR 60 [] l) S) = R → L8_25 (ev E0 KD (m + 1)) Nn nk ek (q + 1) l (.ptr a 0) (.ptr f 0) (sv w) (.int .i64 (i : Int)) S = R := fun R hR => by
     rw [L8_25_eq, show V.int .i64 32 = .int .i64 ((32 : Nat) : Int) from rfl, addN _ _ (by omega), oB, qfm, oB]
     dsimp only
     rw [leqN, decide_eq_true hc, oB]
     simp only [gTT, oB, cond_true]
     rw [F.ptr.ld ho, oB]
     dsimp only
     rw [hln, oB]
     dsimp only
     rw [gtrI0, oB, pickV_bool, cond_true, oB]
     exact hR
    cases ks with
    | nil =>
     refine ⟨v, S, hhead _ ?_, by rw [foldF_nil]; exact F, Grew.refl _ _, fun b hb => .inl hb⟩
     rw [ifK_bool]; rfl
    | cons k0 ks =>
     obtain ⟨k', rfl⟩ : ∃ k', k = k' + 1 := ⟨k - 1, by omega⟩
     obtain ⟨v1, U1, b1, b2, b3, b4⟩ := f15_run m F ((w.drop i).take 32)
     obtain ⟨L, b1'⟩ := Lg.ev_lg lgD b1 []
     obtain ⟨U', u1, u2, u3, u4⟩ := relog_any ho U1 [] [(S.lg [⟨f, 0, 1, false⟩]).log, [], [], [], [], (S.lg []).log, (U1.lg L).log]
     have g0 : Grew (fun _ => False) U1 U' := Grew.same (Grew.refl _ _) u2 u3 (u4.trans b2.on.symm)
     have F' : Fd U' r a o f N v1 (stepF (k0 :: ks, acc) ((w.drop i).take 32)) := b2.grew g0 (fun h => h) (fun h => h) (fun h => h) (fun h => h) (fun _ _ h => h)
     have gW : Grew (Wf r o r v) S U' := (b3.mono fun x _ e => by
      rcases e with e | e | e
      · exact .inl e
      · exact .inr (.inl e)
      · exact .inr (.inr (.inr e))).trans (g0.mono fun _ _ h => h.elim)
     obtain ⟨v', U, c1, c2, c3, c4⟩ := L25_spec (m := m) (Nn := Nn) w hw nk ek k' (i + 1) q v1 _ U' (by omega) (by omega) (by omega) F'
     refine ⟨v', U, hhead _ ?_, by rw [wins_at hc, List.foldl_cons]; exact c2, Wf.then gW b4 c3, Fr.trans b4 gW.next c4⟩
     rw [ifK_bool, decide_eq_true (by rw [List.length_cons]; omega), cond_true]
     simp only [ons, lglg]
     rw [F.fn.ldOn ho, oB]
     simp only [ons, lglg]
     rw [win_sv w hc, oB]
     simp only [ons, lglg]
     unfold fnF
     rw [qeu body15.1 body15.2]
     rw [show (([] : List V) ++ [sv ((w.drop i).take 32)] ++ [.ptr a 0, .ptr o 0]) = [sv ((w.drop i).take 32), .ptr a 0, .ptr o 0] from rfl, b1', callDR_ret, endP_of rfl, qli (by omega), oB]
     rw [← u1] at c1
     exact c1
  · refine ⟨v, S, ?_, by rw [wins_lt (by rw [List.length_drop]; omega)]; exact F, Grew.refl _ _, fun b hb => .inl hb⟩
    rw [L8_25_eq, show V.int .i64 32 = .int .i64 ((32 : Nat) : Int) from rfl, addN _ _ (by omega), oB, qfm, oB]
    dsimp only
    rw [leqN, decide_eq_false hc, oB]
    simp only [gTF, oB, cond_false, pickV_bool, ifK_bool]
end
section
variable {S T U X : St} {r a o f N l : Nat} {v : V} {p : List Bs × List Bs}
structure Lp (S : St) (r a o f N l : Nat) (v : V) (p : List Bs × List Bs) : Prop where
 fd : Fd S r a o f N v p
 fl : f < l
 lN : l < N
 rcd : S.heap.get l = some (qeq 0 none (.ptr a 0) (.ptr f 0))
theorem Lp.grew {W : Nat → Prop} (h : Lp S r a o f N l v p) (g : Grew W S T) (h1 : ¬ W r) (h2 : ¬ W a) (h3 : ¬ W o) (h4 : ¬ W f) (h5 : ∀ b, qfd v = some b → ¬ W b) (h6 : ¬ W l) : Lp T r a o f N l v p :=
 ⟨h.fd.grew g h1 h2 h3 h4 h5, h.fl, h.lN, by rw [g.keep l (Nat.lt_of_lt_of_le h.lN h.fd.nx) h6]; exact h.rcd⟩
theorem Lp.grew0 (h : Lp S r a o f N l v p) (g : Grew (fun _ => False) S T) : Lp T r a o f N l v p := h.grew g (fun h => h) (fun h => h) (fun h => h) (fun h => h) (fun _ _ h => h) (fun h => h)
theorem round8 (m : Nat) (L : Lp S r a o f N l v p) (w : Bs) (hw : w.length ≤ 100000) : ∃ v' U, qfx E0 (ev E0 KD (m + 2)) (.yield l) [sv w] S = some (.ret (.bool true), U) ∧ Lp U r a o f N l v' ((wins w).foldl stepF p) ∧ Grew (Wf r o l v) S U ∧ Fr v v' S := by
 have F := L.fd
 have ho := F.on
 have hra := F.ra; have hao := F.ao; have hof := F.of; have hfN := F.fN; have hnx := F.nx
 have hfl := L.fl; have hlN := L.lN
 have g1 : Grew (fun x => x = l) S (S.put l (qeq 2 none (.ptr a 0) (.ptr f 0))) := qbl _ _
 have hr1 : (S.put l (qeq 2 none (.ptr a 0) (.ptr f 0))).heap.get l = some (qeq 2 none (.ptr a 0) (.ptr f 0)) := by rw [qbp, if_pos rfl]
 have hmid : midR l (frR 60 [(5, .ptr a 0), (11, .ptr f 0), (12, sv w), (37, sv w)] l) S = fun k => k (S.put l (qeq 2 none (.ptr a 0) (.ptr f 0))) := funext fun k => midR_of ho L.rcd rfl
 have n1 : (S.put l (qeq 2 none (.ptr a 0) (.ptr f 0))).next = S.next := rfl
 generalize S.put l (qeq 2 none (.ptr a 0) (.ptr f 0)) = S1 at g1 hr1 hmid n1
 have hbl : ∀ {v : V} {q : List Bs} {S : St} (_ : TLo S v q N) (b : Nat), qfd v = some b → N ≤ b := fun h b e => (h.blk e).1
 have F1 : Fd S1 r a o f N v p := F.grew g1 (by omega) (by omega) (by omega) (by omega) fun b hb => by have := hbl F.tl b hb; omega
 obtain ⟨v', S2, c1, c2, c3, c4⟩ := L25_spec (m := m) (Nn := qa1) (l := l) w hw (qj5 l 0 none true) (exB 4 (qj5 l 0 none true) (exB 3 (qj5 l 0 none true) (fun i => qj5 l 1 (some (.exit i)) false))) w.length 0 qa1 v p S1 rfl (by unfold qa1; omega) (by omega) F1
 have hr2 : S2.heap.get l = some (qeq 2 none (.ptr a 0) (.ptr f 0)) := by
  rw [c3.keep l (by omega) (fun e => by
   rcases e with e | e | e | e
   · omega
   · omega
   · omega
   · have := hbl F.tl l e; omega)]
  exact hr1
 have n2 := c3.next
 have g3 : Grew (fun x => x = l) S2 (S2.put l (qeq 0 none (.ptr a 0) (.ptr f 0))) := qbl _ _
 refine ⟨v', S2.put l (qeq 0 none (.ptr a 0) (.ptr f 0)), ?_, ⟨c2.grew g3 (by omega) (by omega) (by omega) (by omega) fun b hb => by have := hbl c2.tl b hb; omega, hfl, hlN, by rw [qbp, if_pos rfl]⟩, ?_, fun b hb => by have := c4 b hb; rw [n1] at this; exact this⟩
 · refine round_run (da := DA8_21) (db := DB8_21) ho L.rcd (qa3 YA8_21 _ (by kernel_rfl)) (qa3 YB8_21 _ (by kernel_rfl)) (?_ : Y8_21 (ev E0 KD (m + 1)) qa1 l (.ptr a 0) (.ptr f 0) (sv w) S = _)
   rw [Y8_21_eq, hmid]
   dsimp only
   rw [show V.int .i64 0 = .int .i64 ((0 : Nat) : Int) from rfl, c1, exB_same]
   exact endRK_of c2.on hr2 rfl
 · exact ((g1.mono fun x _ e => .inr (.inr (.inl e))).trans (c3.mono fun x _ e => by
    rcases e with e | e | e | e
    · exact .inl e
    · exact .inr (.inl e)
    · exact .inl e
    · exact .inr (.inr (.inr e)))).trans (g3.mono fun x _ e => .inr (.inr (.inl e)))
theorem L33_spec {self : EV} {Nn : Nat} (nk : Ac → St → Rs) (ek : Nat → Ac → St → Rs) (x : Nd) (ok : x.ok)
 (hself : ∀ y ∈ x.kids, ∀ (v : V) (p : List Bs × List Bs) (S : St), Lp S r a o f N l v p → ∃ v' U, self.f 33 [qc7 y, .yield l] S = some (.ret (.bool true), U) ∧ Lp U r a o f N l v' ((qfu y).foldl stepF p) ∧ Grew (Wf r o l v) S U ∧ Fr v v' S) :
 ∀ (rest : List Nd) (i q : Nat) (v : V) (p : List Bs × List Bs) (S : St), x.kids.drop i = rest → rest.length < q → Lp S r a o f N l v p →
 ∃ v' U, L33_14 self Nn nk ek q (.yield l) (qe2 (qfv x.kids)) (.int .i64 (x.kids.length : Int)) (.int .i64 (i : Int)) S = ek 0 (fr 24 []) U ∧ Lp U r a o f N l v' ((qg8 rest).foldl stepF p) ∧ Grew (Wf r o l v) S U ∧ Fr v v' S
 | _, _, 0, _, _, _, _, hq, _ => by omega
 | [], i, q + 1, v, p, S, hi, hq, L => by
  refine ⟨v, S, ?_, by rw [qg8]; exact L, Grew.refl _ _, fun b hb => .inl hb⟩
  rw [qiu, lssN, decide_eq_false (Nat.not_lt.2 (qbq hi)), oB, ifK_bool, cond_false]
 | y :: rest, i, q + 1, v, p, S, hi, hq, L => by
  obtain ⟨hil, hy, hr, hmem⟩ := qd0 hi
  have few := ok.at.few
  obtain ⟨S1, a1, a2, a3, a4⟩ := qhn L.fd.on (Tr.ofListFrom .nil [(sv []), (.int .i64 0), (.bool false), (sv []), .nilslice] 0) y
  obtain ⟨v1, U1, b1, b2, b3, b4⟩ := hself y hmem v p S1 (L.grew0 a3)
  have f1 : Fr v v1 S := fun b hb => by
   rcases b4 b hb with e | e
   · exact .inl e
   · exact .inr (by omega)
  have g1 : Grew (Wf r o l v) S U1 := (a3.mono fun _ _ h => h.elim).trans b3
  obtain ⟨v', U, c1, c2, c3, c4⟩ := L33_spec (self := self) (Nn := Nn) nk ek x ok hself rest (i + 1) q v1 _ U1 hr (by simpa using hq) b2
  refine ⟨v', U, ?_, by rw [qg8, List.foldl_append]; exact c2, Wf.then g1 f1 c3, Fr.trans f1 g1.next c4⟩
  rw [qiu, lssN, decide_eq_true hil, oB, ifK_bool, cond_true, qcy x.kids i hil, hy, oB, qgw, oB, oB, qel, a1, oB]
  dsimp only
  rw [a2.fA, oB]
  dsimp only
  rw [b1, callP_ret, unV_not, oB, ifK_bool, Bool.not_true, cond_false, qli (by omega), oB, c1]
theorem each_run (m : Nat) : ∀ (k : Nat) (x : Nd), qei x ≤ k → x.ok → ∀ (v : V) (p : List Bs × List Bs) (S : St), Lp S r a o f N l v p →
 ∃ v' U, (ev E0 KD (m + k + 2)).f 33 [qc7 x, .yield l] S = some (.ret (.bool true), U) ∧ Lp U r a o f N l v' ((qfu x).foldl stepF p) ∧ Grew (Wf r o l v) S U ∧ Fr v v' S
 | 0, x, hc, _, _, _, _, _ => by have := qk7 x; omega
 | k + 1, x, hc, ok, v, p, S, L => by
  have hcx := qk7 x
  obtain ⟨S1, k1, k2, k3, k4⟩ := qcm L.fd.on x
  have L1 := L.grew0 k3
  obtain ⟨v1, S2, a1, a2, a3, a4⟩ := round8 (m + k) L1 x.data (by have := ok.at.data; omega)
  have hnx := L.fd.nx; have hra := L.fd.ra; have hao := L.fd.ao; have hof := L.fd.of; have hfl := L.fl; have hlN := L.lN
  have k2' : NodeAt S2 S.next x := k2.grew (by omega) (fun e => by
   rcases e with e | e | e | e
   · omega
   · omega
   · omega
   · have := L.fd.tl.lt e; omega) a3
  have f1 : Fr v v1 S := fun b hb => by
   rcases a4 b hb with e | e
   · exact .inl e
   · exact .inr (by omega)
  have g1 : Grew (Wf r o l v) S S2 := (k3.mono fun _ _ h => h.elim).trans a3
  obtain ⟨v', U, b1, b2, b3, b4⟩ := L33_spec (self := ev E0 KD (m + k + 2)) (Nn := qa1) (R33_8 (ev E0 KD (m + k + 2)) qa1 (qaw E0 (ev E0 KD (m + k + 2)) Try.f33) qad) (exB 0 (R33_8 (ev E0 KD (m + k + 2)) qa1 (qaw E0 (ev E0 KD (m + k + 2)) Try.f33) qad) qad) x ok
   (fun y hy v p S hL => each_run m k y (by have := cntL_mem hy; omega) (ok.at.kids y hy) v p S hL) x.kids 0 qa1 v1 _ S2 rfl (by have := ok.at.few; unfold qa1; omega) a2
  refine ⟨v', U, rd33 ?_, by rw [qhv, List.foldl_append]; exact b2, Wf.then g1 f1 b3, Fr.trans f1 g1.next b4⟩
  show F33 (ev E0 KD (m + k + 2)) qa1 (qc7 x) (.yield l) S = _
  rw [F33_eq, k1, oB]
  dsimp only
  rw [faP3, oB, k2.f3, oB]
  dsimp only
  rw [a1, callP_ret, unV_not, oB, ifK_bool, Bool.not_true, cond_false, faP4, oB, k2'.f4, oB]
  dsimp only
  rw [qc8, oB]
  dsimp only
  rw [show V.int .i64 0 = .int .i64 ((0 : Nat) : Int) from rfl, b1, exB_same, R33_8_eq]
end
section
variable {S T U X : St} {r a o f N l : Nat} {v : V} {p : List Bs × List Bs}
theorem sortT_kp : ∀ l : List Bs, sortT (l.map kp) = (qjx l).map kp
 | [] => rfl
 | x :: l => by
  show insS (kp x).1 (kp x).2 (sortT (l.map kp)) = _
  rw [sortT_kp l]
  exact insS_ins x _
theorem qoc : ∀ l : List Bs, qis (qe9 l) = some (l.map kp)
 | [] => rfl
 | x :: l => by
  show ((qis (qe9 l)).bind fun q => some ((x.length, qal x) :: q)) = _
  rw [qoc l]; rfl
theorem qjy (l : List Bs) : (qjx l).length = l.length := (qhr l).length_eq
theorem sort_run (n : Nat) (ho : S.on = false) {l : List Bs} (h : TLo S v l N) (hn : l.Nodup) (hl : l.length < 1000000) : ∃ U, (ev E0 KD (n + 1)).f 17 [v] S = some (.ret (.tuple []), U) ∧ TLo U v (qjx l) N ∧ Grew (fun x => qfd v = some x) S U := by
 rcases h with ⟨rfl, rfl⟩ | ⟨r, rfl, h1, h2, h3, h4⟩
 · exact ⟨S, by rw [qaq kd17]; rfl, .nil, Grew.refl _ _⟩
 · obtain ⟨U, k1, k2, k3, k4⟩ := RowAt.stN (qe9 (qjx l)) ho h1 0 (by rw [qap, qap, qjy]; omega)
   have hld := h1.ldN ho l.length 0 (by rw [qap]; omega)
   rw [List.drop_zero, List.take_of_length_le (by rw [qap]; omega), Nat.zero_mul] at hld
   rw [Nat.zero_mul] at k1
   refine ⟨U, ?_, .inr ⟨r, by rw [qjy], ?_, by rw [k4]; exact h2, h3, by rw [qjy]; exact h4⟩, k3.mono fun x _ e => by subst e; rfl⟩
   · rw [qaq kd17]
     show (bif Nat.beq 1 1 then qib r 0 l.length S else none) = _
     rw [show Nat.beq 1 1 = true from rfl, cond_true]
     unfold qib
     rw [show Nat.beq l.length 0 = false from Go.Proofs.Ytmeohejdafbodaa.Ev.beq_false.2 (by omega), cond_false, hld, oB]
     dsimp only
     rw [qoc, oB]
     rw [sortT_kp, blt_true.2 hl, rising_of (sortB_pw hn), Bool.and_self, cond_true, show qkj ((qjx l).map kp) = qe9 (qjx l) from by unfold qkj qe9; rw [List.map_map]; rfl, k1]
     rfl
   · have hlen : (qe9 (qjx l)).length = (qe9 l).length := by rw [qap, qap, qjy]
     rw [List.take_zero, List.nil_append, Nat.zero_add, List.drop_of_length_le (by rw [hlen]; exact Nat.le_refl _), List.append_nil] at k2
     exact k2
theorem askL_len : ∀ (hs ks : List Bs), (askL ks hs).length ≤ ks.length + hs.length
 | [], ks => Nat.le_refl _
 | h :: hs, ks => by
  rw [askL]
  refine Nat.le_trans (askL_len hs _) ?_
  rw [List.length_cons]
  split
  · split
    · omega
    · rw [List.length_append, List.length_singleton]; omega
  · omega
theorem askL_nodup : ∀ (hs ks : List Bs), ks.Nodup → (askL ks hs).Nodup
 | [], ks, h => h
 | h :: hs, ks, hk => by
  rw [askL]
  refine askL_nodup hs _ ?_
  split
  · split
    · exact hk
    · next hm => exact List.nodup_append.2 ⟨hk, List.pairwise_singleton _ h, fun x hx y hy e => hm (by rw [List.mem_singleton.1 hy] at e; rw [← e]; exact hx)⟩
  · exact hk
theorem mem_askL {x : Bs} : ∀ (hs ks : List Bs), x ∈ askL ks hs ↔ x ∈ ks ∨ (x ∈ hs ∧ isH x = true)
 | [], ks => by simp [askL]
 | h :: hs, ks => by
  rw [askL, mem_askL hs]
  cases hi : isH h with
  | false =>
   rw [if_neg (by simp)]
   constructor
   · rintro (e | ⟨e, e'⟩)
     · exact .inl e
     · exact .inr ⟨List.mem_cons_of_mem _ e, e'⟩
   · rintro (e | ⟨e, e'⟩)
     · exact .inl e
     · rcases List.mem_cons.1 e with q | q
       · rw [q, hi] at e'; cases e'
       · exact .inr ⟨q, e'⟩
  | true =>
   rw [if_pos rfl]
   by_cases hm : h ∈ ks
   · rw [if_pos hm]
     constructor
     · rintro (e | ⟨e, e'⟩)
       · exact .inl e
       · exact .inr ⟨List.mem_cons_of_mem _ e, e'⟩
     · rintro (e | ⟨e, e'⟩)
       · exact .inl e
       · rcases List.mem_cons.1 e with q | q
         · rw [q]; exact .inl hm
         · exact .inr ⟨q, e'⟩
   · rw [if_neg hm]
     constructor
     · rintro (e | ⟨e, e'⟩)
       · rcases List.mem_append.1 e with q | q
         · exact .inl q
         · rw [List.mem_singleton.1 q]; exact .inr ⟨List.mem_cons_self .., hi⟩
       · exact .inr ⟨List.mem_cons_of_mem _ e, e'⟩
     · rintro (e | ⟨e, e'⟩)
       · exact .inl (List.mem_append_left _ e)
       · rcases List.mem_cons.1 e with q | q
         · rw [q]; exact .inl (List.mem_append_right _ (List.mem_singleton_self _))
         · exact .inr ⟨q, e'⟩
structure Split (ks0 : List Bs) (seen : List Bs) (p : List Bs × List Bs) : Prop where
 nd1 : p.1.Nodup
 nd2 : p.2.Nodup
 left : ∀ x, x ∈ p.1 ↔ x ∈ ks0 ∧ x ∉ seen
 got : ∀ x, x ∈ p.2 ↔ x ∈ ks0 ∧ x ∈ seen
theorem Split.step {ks0 seen : List Bs} {p : List Bs × List Bs} (h : Split ks0 seen p) (w : Bs) : Split ks0 (seen ++ [w]) (stepF p w) := by
 unfold stepF
 by_cases hm : w ∈ p.1
 · rw [if_pos hm]
   have h1 := (h.left w).1 hm
   refine ⟨h.nd1.erase w, List.nodup_append.2 ⟨h.nd2, List.pairwise_singleton _ w, fun x hx y hy e => ?_⟩, fun x => ?_, fun x => ?_⟩
   · rw [List.mem_singleton.1 hy] at e
     rw [e] at hx
     exact h1.2 ((h.got w).1 hx).2
   · rw [h.nd1.mem_erase_iff, h.left x, List.mem_append, List.mem_singleton]
     constructor
     · rintro ⟨a, b, c⟩; exact ⟨b, fun e => e.elim c a⟩
     · rintro ⟨a, b⟩; exact ⟨fun e => b (.inr e), a, fun e => b (.inl e)⟩
   · rw [List.mem_append, List.mem_append, List.mem_singleton, h.got x]
     constructor
     · rintro (⟨a, b⟩ | e)
       · exact ⟨a, .inl b⟩
       · rw [e]; exact ⟨h1.1, .inr rfl⟩
     · rintro ⟨a, b | b⟩
       · exact .inl ⟨a, b⟩
       · exact .inr b
 · rw [if_neg hm]
   refine ⟨h.nd1, h.nd2, fun x => ?_, fun x => ?_⟩
   · rw [h.left x, List.mem_append, List.mem_singleton]
     constructor
     · rintro ⟨a, b⟩
       exact ⟨a, fun e => e.elim b fun e => hm (by rw [← e]; exact (h.left x).2 ⟨a, b⟩)⟩
     · rintro ⟨a, b⟩; exact ⟨a, fun e => b (.inl e)⟩
   · rw [h.got x, List.mem_append, List.mem_singleton]
     constructor
     · rintro ⟨a, b⟩; exact ⟨a, .inl b⟩
     · rintro ⟨a, b | b⟩
       · exact ⟨a, b⟩
       · refine ⟨a, Classical.byContradiction fun hn => hm ?_⟩
         rw [← b]; exact (h.left x).2 ⟨a, hn⟩
theorem Split.fold {ks0 : List Bs} : ∀ (ws seen : List Bs) (p : List Bs × List Bs), Split ks0 seen p → Split ks0 (seen ++ ws) (ws.foldl stepF p)
 | [], seen, p, h => by rw [List.append_nil]; exact h
 | w :: ws, seen, p, h => by
  have := Split.fold ws (seen ++ [w]) _ (h.step w)
  rw [List.append_assoc] at this
  exact this
def foundB (x : Nd) (hs : List Bs) : List Bs := ((qfu x).foldl stepF (askL [] hs, [])).2
theorem qih (x : Nd) (hs : List Bs) : Split (askL [] hs) (qfu x) ((qfu x).foldl stepF (askL [] hs, [])) := by
 have := Split.fold (ks0 := askL [] hs) (qfu x) [] (askL [] hs, []) ⟨askL_nodup hs [] .nil, .nil, fun x => by simp, fun x => by simp⟩
 rwa [List.nil_append] at this
theorem mem_found {x : Nd} {hs : List Bs} {h : Bs} : h ∈ foundB x hs ↔ h ∈ hs ∧ hit x h = true := by
 unfold foundB hit
 rw [(qih x hs).got h, mem_askL]
 simp only [List.not_mem_nil, false_or, Bool.and_eq_true, List.contains_iff_mem]
 constructor
 · rintro ⟨⟨a, b⟩, c⟩; exact ⟨a, b, c⟩
 · rintro ⟨a, b, c⟩; exact ⟨⟨a, b⟩, c⟩
theorem keepB_pw (x : Nd) : ∀ (hs acc : List Bs), acc.Pairwise (· < ·) → (qfk x acc hs).Pairwise (· < ·)
 | [], _, h => h
 | h :: hs, acc, ha => by
  rw [qfk]
  refine keepB_pw x hs _ ?_
  split
  · exact putB_pw ha
  · exact ha
theorem qgz (x : Nd) {h : Bs} : ∀ (hs acc : List Bs), h ∈ qfk x acc hs ↔ h ∈ acc ∨ (h ∈ hs ∧ hit x h = true)
 | [], acc => by simp [qfk]
 | k :: hs, acc => by
  rw [qfk, qgz x hs]
  cases hk : hit x k with
  | false =>
   rw [if_neg (by simp)]
   constructor
   · rintro (e | ⟨e, e'⟩)
     · exact .inl e
     · exact .inr ⟨List.mem_cons_of_mem _ e, e'⟩
   · rintro (e | ⟨e, e'⟩)
     · exact .inl e
     · rcases List.mem_cons.1 e with q | q
       · rw [q, hk] at e'; cases e'
       · exact .inr ⟨q, e'⟩
  | true =>
   rw [if_pos rfl, mem_putB]
   constructor
   · rintro ((e | e) | ⟨e, e'⟩)
     · rw [e]; exact .inr ⟨List.mem_cons_self .., hk⟩
     · exact .inl e
     · exact .inr ⟨List.mem_cons_of_mem _ e, e'⟩
   · rintro (e | ⟨e, e'⟩)
     · exact .inl (.inr e)
     · rcases List.mem_cons.1 e with q | q
       · exact .inl (.inl q)
       · exact .inr ⟨q, e'⟩
theorem pw_eq : ∀ {l m : List Bs}, l.Pairwise (· < ·) → m.Pairwise (· < ·) → (∀ x, x ∈ l ↔ x ∈ m) → l = m
 | [], [], _, _, _ => rfl
 | [], y :: m, _, _, h => by have := (h y).2 (List.mem_cons_self ..); cases this
 | x :: l, [], _, _, h => by have := (h x).1 (List.mem_cons_self ..); cases this
 | x :: l, y :: m, h1, h2, h => by
  rw [List.pairwise_cons] at h1 h2
  have e : x = y := by
   rcases List.mem_cons.1 ((h x).1 (List.mem_cons_self ..)) with e | e
   · exact e
   · rcases List.mem_cons.1 ((h y).2 (List.mem_cons_self ..)) with e' | e'
     · exact e'.symm
     · exact absurd (h1.1 y e') (List.lt_asymm (h2.1 x e))
  subst e
  congr 1
  refine pw_eq h1.2 h2.2 fun z => ?_
  constructor
  · intro hz
    rcases List.mem_cons.1 ((h z).1 (List.mem_cons_of_mem _ hz)) with e | e
    · rw [e] at hz; exact absurd (h1.1 x hz) (List.lt_irrefl x)
    · exact e
  · intro hz
    rcases List.mem_cons.1 ((h z).2 (List.mem_cons_of_mem _ hz)) with e | e
    · rw [e] at hz; exact absurd (h2.1 x hz) (List.lt_irrefl x)
    · exact e
theorem same_found (x : Nd) (hs : List Bs) : qjx (foundB x hs) = qfk x [] hs :=
 pw_eq (sortB_pw (qih x hs).nd2) (keepB_pw x hs [] .nil) fun h => by
  rw [mem_sortB, mem_found, qgz]
  simp
end
section
variable {S T U X : St} {r a o f N l : Nat} {v : V} {p : List Bs × List Bs}
theorem oneV_map (r : Nat) : OneV (.map r) := ⟨rfl, rfl, rfl, rfl⟩
theorem oneV_fn (a o : Nat) : OneV (fnF a o) := ⟨rfl, rfl, rfl, rfl⟩
theorem body32 : E0.ext.get 32 = none ∧ qbm E0 32 = true := ⟨by kernel_rfl, by kernel_rfl⟩
theorem fin8_none {self : EV} (x0 x1 p0 v c d e : V) (S : St) : finR E0 self Try.f8 (frD 60 [(0, x0), (1, x1), (2, p0), (4, v), (14, c), (15, d), (16, e)] []) S = some (.ret v, S) := by kernel_rfl
theorem lv8 {self : EV} (v x y z : V) (S : St) (ds : List AD) : qbc E0 self Try.f8 (frD 60 [(4, v), (10, x), (57, y), (58, z), (59, v)] ds) [] .ret S = some (.ret v, S) := by kernel_rfl
end
theorem u25 : Try.prog.underlying 25 = some (.slice 9) := by kernel_rfl
theorem flat_at {β : Type} {z : Nat} (hz : 0 < z) : ∀ (ls : List (List β)), (∀ l ∈ ls, l.length = z) → ∀ (j : Nat) c, ls.flatten[j]? = some c → ∃ l, ls[j / z]? = some l ∧ l[j % z]? = some c
 | [], _, j, c, h => by simp at h
 | l :: ls, hl, j, c, h => by
  rw [List.flatten_cons] at h
  have h0 := hl l (List.mem_cons_self ..)
  by_cases hj : j < z
  · rw [List.getElem?_append_left (by omega)] at h
    exact ⟨l, by rw [Nat.div_eq_of_lt hj]; rfl, by rw [Nat.mod_eq_of_lt hj]; exact h⟩
  · rw [List.getElem?_append_right (by omega), h0] at h
    obtain ⟨l', h1, h2⟩ := flat_at hz ls (fun x hx => hl x (List.mem_cons_of_mem _ hx)) (j - z) c h
    refine ⟨l', ?_, ?_⟩
    · rw [show j = (j - z) + z by omega, Nat.add_div_right _ hz]; exact h1
    · rw [show j = (j - z) + z by omega, Nat.add_mod_right]; exact h2
theorem pick_any {α : Type} {P : Nat → α → Prop} : ∀ (n : Nat), (∀ i, i < n → ∃ b, P i b) → ∃ l : List α, l.length = n ∧ ∀ i b, l[i]? = some b → P i b
 | 0, _ => ⟨[], rfl, fun i b h => by simp at h⟩
 | n + 1, h => by
  obtain ⟨l, h1, h2⟩ := pick_any n fun i hi => h i (by omega)
  obtain ⟨b, hb⟩ := h n (by omega)
  refine ⟨l ++ [b], by simp [h1], fun i c hc => ?_⟩
  by_cases hi : i < n
  · rw [List.getElem?_append_left (by omega)] at hc
    exact h2 i c hc
  · have hi2 : i = n := by
     have := (List.getElem?_eq_some_iff.1 hc).1
     simp [h1] at this
     omega
    subst hi2
    rw [List.getElem?_append_right (by omega)] at hc
    simp [h1] at hc
    subst hc
    exact hb
theorem vrels_map {ρ : Rho} {α : Type} (f : α → V) (g : α → Value) : ∀ l : List α, (∀ a ∈ l, VRel ρ (f a) (g a)) → VRels ρ (l.map f) (l.map g)
 | [], _ => .nil
 | a :: l, h => .cons (h a (List.mem_cons_self ..)) (vrels_map f g l fun b hb => h b (List.mem_cons_of_mem _ hb))
section
variable {H : Type} {enc : TypeId × Value → H} {W : World}
theorem qkx {α : Type} {t e z : Nat} {F : α → V} {Q : α → Prop} (ht : Try.prog.underlying t = some (.slice e)) (hz : Try.prog.cellsOf e = z) (hz0 : 0 < z)
 (el : ∀ fuel cs (x : DataW H × List MemPlace), DataW.trod enc Try.prog W 0 (fun _ => true) true fuel e cs = some x → ∃ (a : α) (cv : Value), VRel (frz W) (F a) cv ∧ qa9 (F a) = false ∧ cv.cells.toList = cs ∧ Q a)
 {fuel : Nat} {cs : List Value} {x : DataW H × List MemPlace} (h : DataW.trod enc Try.prog W 0 (fun _ => true) true fuel t cs = some x) :
 ∃ (cv : Value) (v : V) (l : List α), cs = [cv] ∧ VRel (frz W) v cv ∧ ((l = [] ∧ (v = .nilslice ∨ v = .eslice)) ∨ v = .list z (l.map F)) ∧ (∀ a ∈ l, Q a) ∧ ∃ ad len cap, cv = .slice ad len cap := by
 rcases DataW.trod_slice ht h with ⟨hv, _⟩ | ⟨a, len, cap, elems, rest, m, hm, hv, _, _, hcap, hmax, hel, hat, _⟩
 · exact ⟨_, .nilslice, [], hv, .nilslice, .inl ⟨rfl, .inl rfl⟩, fun _ h => by simp at h, _, _, _, rfl⟩
 · by_cases h0 : len = 0
   · subst h0
     exact ⟨_, .eslice, [], hv, .eslice a cap, .inl ⟨rfl, .inr rfl⟩, fun _ h => by simp at h, _, _, _, rfl⟩
   · have hAt : ∀ i, i < len → ∃ p : α × Value, VRel (frz W) (F p.1) p.2 ∧ qa9 (F p.1) = false ∧ Q p.1 ∧ p.2.cells.toList.length = z ∧ ∀ k, k < z → ∃ y, p.2.cells.toList[k]? = some y ∧ W.cell? ((a.add (i * z)).add k) = some y := fun i hi => by
      have := hat i hi
      rw [hz, List.getElem?_eq_getElem (by omega), oI] at this
      obtain ⟨cells, h1, h2⟩ := this
      obtain ⟨b, cv, b1, b2, b3, b4⟩ := el _ _ _ h2
      obtain ⟨c1, c2⟩ := cells?_at h1
      exact ⟨(b, cv), b1, b2, b4, by rw [b3]; exact c1, by rw [b3]; exact c2⟩
     obtain ⟨p0, _, _, _, _, q0⟩ := hAt 0 (by omega)
     obtain ⟨y0, _, hb0⟩ := q0 0 hz0
     have hspot : a.spot = none ∧ ∃ bg ty fr, W.heap[a.block]? = some (.cells bg ty fr) := by
      rw [Nat.zero_mul, show (a.add 0).add 0 = a from rfl] at hb0
      unfold World.cell? at hb0
      split at hb0
      · rename_i bg ty fr hh
        split at hb0
        · cases hb0
        · rename_i hsp
          exact ⟨by simpa using hsp, bg, ty, fr, hh⟩
      · cases hb0
     obtain ⟨hsp, bg, ty, fr, hheap⟩ := hspot
     obtain ⟨l, l1, l2⟩ := pick_any len hAt
     have hin : ∀ p ∈ l, ∃ i, l[i]? = some p := fun p hp => List.mem_iff_getElem?.1 hp
     refine ⟨_, .list z ((l.map (·.1)).map F), l.map (·.1), hv, ?_, .inr rfl, fun b hb => ?_, _, _, _, rfl⟩
     · rw [List.map_map]
       refine .list (vrels_map _ (·.2) l fun p hp => ?_) (fun v hv => ?_) (by rw [List.length_map]; exact l1) hcap fun _ => ⟨fun cv hcv => ?_, hsp, bg, ty, fr, hheap, fun j c hj => ?_⟩
       · obtain ⟨i, hi⟩ := hin p hp
         exact (l2 i p hi).1
       · rw [List.mem_map] at hv
         obtain ⟨p, hp, rfl⟩ := hv
         obtain ⟨i, hi⟩ := hin p hp
         exact (l2 i p hi).2.1
       · rw [List.mem_map] at hcv
         obtain ⟨p, hp, rfl⟩ := hcv
         obtain ⟨i, hi⟩ := hin p hp
         have := (l2 i p hi).2.2.2.1
         rwa [Array.length_toList] at this
       · rw [List.flatMap_def, List.map_map] at hj
         obtain ⟨cl, h1, h2⟩ := flat_at hz0 _ (fun cl hcl => by
          rw [List.mem_map] at hcl
          obtain ⟨p, hp, rfl⟩ := hcl
          obtain ⟨i, hi⟩ := hin p hp
          exact (l2 i p hi).2.2.2.1) j c hj
         rw [List.getElem?_map, Option.map_eq_some_iff] at h1
         obtain ⟨p, hp, rfl⟩ := h1
         obtain ⟨y, y1, y2⟩ := (l2 _ p hp).2.2.2.2 (j % z) (Nat.mod_lt _ hz0)
         have hc : c = y := by
          have := h2.symm.trans y1
          simpa using this
         subst hc
         rw [add_eq hsp, add_eq rfl] at y2
         unfold World.cell? at y2
         simp only at y2
         rw [hheap] at y2
         have he : a.off + j / z * z + j % z = a.off + j := by
          have := Nat.div_add_mod j z
          rw [Nat.mul_comm] at this
          omega
         rw [he] at y2
         exact y2
     · rw [List.mem_map] at hb
       obtain ⟨p, hp, rfl⟩ := hb
       obtain ⟨i, hi⟩ := hin p hp
       exact (l2 i p hi).2.2.1
theorem texts_of_trod {fuel : Nat} {cs : List Value} {x : DataW H × List MemPlace} (h : DataW.trod enc Try.prog W 0 (fun _ => true) true fuel 25 cs = some x) :
 ∃ (cv : Value) (v : V) (l : List Bs), cs = [cv] ∧ VRel (frz W) v cv ∧ TV v l ∧ Short l ∧ ∃ ad len cap, cv = .slice ad len cap := by
 obtain ⟨cv, v, l, h1, h2, h3, hq, h4⟩ := qkx (F := sv) (Q := fun a => a.length < 9223372036854775808) u25 c9 (by omega) (fun fuel cs x hx => by
  obtain ⟨s, rfl, _, hs⟩ := DataW.trod_string u9 hx
  exact ⟨s.data.toList, .string s, .str s, rfl, rfl, by
   have h1 : s.data.toList.length = s.size := by rw [Array.length_toList]; rfl
   unfold maxLen at hs
   omega⟩) h
 exact ⟨cv, v, l, h1, h2, h3, hq, h4⟩
end
section
variable {S T U : St}
theorem AgAt.ldOn {b e z : Nat} {t : Tr V} (h : AgAt S b e z t) (hz : z < big) (l : List LE) : Go.Proofs.Ytmeohejdafbodaa.Ev.ldA z (.ptr b 0) (S.lg l) = some (.agg z t, S.lg (⟨b, 0, 0 + z, false⟩ :: l)) := by
 obtain ⟨c, h1, h2⟩ := h
 show ((ldK (S.lg l) b 0 z).bind fun p => some (V.agg z p.1, p.2)) = _
 unfold ldK
 rw [show (S.lg l).heap.get b = _ from h1]
 simp only [ble_true.2 (show 0 + z ≤ z * 1 by omega), blt_true.2 (show z * 1 < big by omega), Bool.and_self, cond_true]
 unfold qff
 rw [show Nat.beq z z = true from beq_true.2 rfl, Nat.zero_mod, show Nat.beq 0 0 = true from rfl]
 simp only [Bool.and_self, cond_true, Nat.zero_div, h2, oB]
 rfl
theorem qn1 (x : Nd) : ∀ (hs acc : List Bs), (qfk x acc hs).length ≤ acc.length + hs.length
 | [], acc => Nat.le_refl _
 | h :: hs, acc => by
  rw [qfk]
  refine Nat.le_trans (qn1 x hs _) ?_
  rw [List.length_cons]
  have := putB_len h acc
  split <;> omega
end
end Go.Proofs.Ytmeohejdafbodaa.W
