/-
  WHAT THE FUNCTIONS COME TO: each is read by the evaluator, printed, and told as a function of data, part 7 of 7 (no condition).
-/
import Derived.Test.YtginkdeicmdmaaaW6
import Derived.Lib.SmallJoins
namespace Go.Proofs.Ytginkdeicmdmaaa.W
open Go.Proofs.Ytginkdeicmdmaaa.Ev Go.RowKit
def badR (ps : List Pth) (path : Bs) (come : List Bs) (r : Bs) : Bool := !(r == path) && (decide (r ∈ names ps) && !decide (r ∈ come))
def readyR (ps : List Pth) (path : Bs) (come : List Bs) : Bool := !(refsAt ps path).any (badR ps path come)
def candR (ps : List Pth) (out : List Bs) (l : List Bs) : List Bs := l.filter fun k => !decide (k ∈ out)
def rdyR (ps : List Pth) (out : List Bs) (l : List Bs) : List Bs := (candR ps out l).filter fun k => readyR ps k out
def nxR (ps : List Pth) (out : List Bs) : Bs := match rdyR ps out (allB [] ps) with
 | [] => (candR ps out (allB [] ps)).headD []
 | a :: _ => a
def leftOf (ps : List Pth) (out : List Bs) : List Pth := (refsOf ps).filter fun p => !decide (p.nm ∈ out)
theorem names_left {ps : List Pth} {out : List Bs} {a : Bs} : a ∈ names (leftOf ps out) ↔ a ∈ names ps ∧ a ∉ out := by
 rw [mem_names, ← names_refsOf, mem_names]
 unfold leftOf
 constructor
 · rintro ⟨p, h1, rfl⟩
   obtain ⟨h2, h3⟩ := List.mem_filter.1 h1
   exact ⟨⟨p, h2, rfl⟩, by simpa using h3⟩
 · rintro ⟨⟨p, h1, rfl⟩, h2⟩
   exact ⟨p, List.mem_filter.2 ⟨h1, by simpa using h2⟩, rfl⟩
theorem left_nd (ps : List Pth) (out : List Bs) : (names (leftOf ps out)).Nodup := by
 unfold names leftOf
 exact (List.Sublist.map _ List.filter_sublist).nodup (refsOf_nd ps)
theorem cand_eq (ps : List Pth) (out : List Bs) : candR ps out (allB [] ps) = sortB (names (leftOf ps out)) :=
 rise_eq ((allB_pw .nil).filter _) (sortB_pw (left_nd ps out)) fun a => by
  unfold candR
  rw [List.mem_filter, allB_mem, mem_sortB, names_left]
  simp
theorem ready_eq (ps : List Pth) (out : List Bs) (k : Bs) : readyR ps k out = readyF (refsOf ps) (leftOf ps out) k := by
 unfold readyR readyF
 rw [refsAt_refsOf]
 congr 2
 funext r
 unfold badR
 rw [show decide (r ∈ names (leftOf ps out)) = (decide (r ∈ names ps) && !decide (r ∈ out)) from by
  rw [Bool.eq_iff_iff, decide_eq_true_eq, names_left]; simp]
 rw [Bool.and_comm]
theorem nx_eq (ps : List Pth) (out : List Bs) : nxR ps out = nextP (refsOf ps) (leftOf ps out) := by
 unfold nxR nextP readyL rdyR
 rw [cand_eq]
 have : (fun k => readyR ps k out) = readyF (refsOf ps) (leftOf ps out) := funext fun k => ready_eq ps out k
 rw [this]
 cases List.filter (readyF (refsOf ps) (leftOf ps out)) (sortB (names (leftOf ps out))) <;> rfl
theorem left_drop (ps : List Pth) (out : List Bs) (a : Bs) : dropP a (leftOf ps out) = leftOf ps (out ++ [a]) := by
 unfold dropP leftOf
 rw [List.filter_filter]
 refine List.filter_congr fun p _ => ?_
 rw [Bool.eq_iff_iff]
 simp [and_comm]
section
variable {S T U X : St}
theorem L41_spec {m N : Nat} (ho : S.on = false) {v0 v2 : V} {ps : List Pth} {come : List Bs} {p : Pth} {b : Nat} (path : Bs) (hp : PL S v0 ps) (hlen : ps.length < 1000) (hc : TL S v2 come) (hcl : come.length < 1000000) (hpm : p ∈ ps) (hbx : Bx S b 28 p.cells) (hrl : p.refs.length < 1000) (nk : Ac → St → Rs) (ek : Nat → Ac → St → Rs) :
 ∀ (rest : List Bs) (j q : Nat), p.refs.drop j = rest → rest.length < q →
 L41_12 (ev E0 KD (m + 1)) N nk ek q v0 (sv path) v2 (.ptr b 0) (.int .i64 (j : Int)) S = if rest.any (badR ps path come) = true then some (.ret (.bool false), S) else ek 0 (fr 49 []) S
 | rest, j, 0, _, hq => by omega
 | rest, j, q + 1, hj, hq => by
  have l1 : ld1 (.ptr b (0 + 1)) S = some (p.rv, S) := Bx.ldv ho hbx big4 rfl
  have hT := hp.2 p hpm
  rw [L41_12_eq, faPg, oB, l1, oB]
  dsimp only
  rw [hT.len, oB]
  dsimp only
  rw [binV_ii, intsV_lss]
  cases rest with
  | nil =>
   rw [dec_ge (drop_end hj), oB, ifK_bool, cond_false, List.any_nil, if_neg (by simp)]
  | cons r rest =>
   obtain ⟨hlt, hf, hrest, hmem⟩ := drop_at hj
   obtain ⟨x, y1, y2⟩ := hT.ld ho (show p.refs[j]? = some r by rw [List.getElem?_eq_getElem hlt, hf])
   have hfr := find_run m ho hp (by omega) r
   have hadd : binV E0 .add 3 false true (.int .i64 (j : Int)) (.int .i64 1) = some (.int .i64 ((j + 1 : Nat) : Int)) := by
    rw [binV_ii, intsV_add, wrap_succ (by omega)]
   have hskip : badR ps path come r = false → L41_12 (ev E0 KD (m + 1)) N nk ek q v0 (sv path) v2 (.ptr b 0) (.int .i64 ((j + 1 : Nat) : Int)) S = if (r :: rest).any (badR ps path come) = true then some (.ret (.bool false), S) else ek 0 (fr 49 []) S := fun h => by
    rw [List.any_cons, h, Bool.false_or]
    exact L41_spec ho path hp hlen hc hcl hpm hbx hrl nk ek rest (j + 1) q hrest (by simp at hq; omega)
   rw [dec_lt hlt, oB, ifK_bool, cond_true, oB, l1, oB]
   dsimp only
   rw [y1, oB, y2, oB]
   dsimp only
   rw [neStr, oB]
   cases hrp : (r == path) with
   | true =>
    simp only [Bool.not_true, gTF, oB, cond_false, callP_ret, pickV_bool, ifK_bool, hadd]
    exact hskip (by unfold badR; rw [hrp]; rfl)
   | false =>
    simp only [Bool.not_false, gTT, oB, cond_true]
    rw [l1, oB]
    dsimp only
    rw [y1, oB, y2, oB]
    dsimp only
    rw [hfr, callP_ret, geq0, oB, pickV_bool, cond_true, oB, show decide (0 ≤ fixI r ps) = decide (r ∈ names ps) from by rw [decide_eq_decide]; exact fixI_geq r ps]
    cases hn : decide (r ∈ names ps) with
    | false =>
     simp only [gTF, oB, cond_false, callP_ret, pickV_bool, ifK_bool, hadd]
     exact hskip (by unfold badR; rw [hrp, hn]; rfl)
    | true =>
     simp only [gTT, oB, cond_true]
     rw [l1, oB]
     dsimp only
     rw [y1, oB, y2, oB]
     dsimp only
     rw [hasR_run m ho hc hcl, callP_ret, unV_not, oB, pickV_bool, cond_true, oB, ifK_bool]
     cases hh : decide (r ∈ come) with
     | true =>
      rw [Bool.not_true, cond_false, hadd, oB]
      exact hskip (by unfold badR; rw [hrp, hn, hh]; rfl)
     | false =>
      rw [Bool.not_false, cond_true, if_pos (by rw [List.any_cons]; unfold badR; rw [hrp, hn, hh]; rfl)]
theorem ready_run (m : Nat) (ho : S.on = false) {v0 v2 : V} {ps : List Pth} {come : List Bs} {path : Bs} (hp : PL S v0 ps) (hF : Fit ps) (hc : TL S v2 come) (hcl : come.length < 1000000) (hn : path ∈ names ps) : ∃ T, (ev E0 KD (m + 2)).f 41 [v0, sv path, v2] S = some (.ret (.bool (readyR ps path come)), T) ∧ Grew (fun _ => False) S T := by
 have hlen := hF.len
 obtain ⟨k, p, k1, k2, k3⟩ := fix_at hn
 have hpm := List.mem_of_getElem? k2
 have hfind := find_run m ho hp (by omega) path
 rw [k1] at hfind
 obtain ⟨r0, x1, x2⟩ := hp.ix k2
 obtain ⟨A, a1, a2, a3, a4⟩ := var_new ho 28 4 (Tr.ofListFrom .nil [(sv []), .nilslice, (sv []), (sv [])] 0) p.cells rfl (by omega) big4
 have onA := a3.on.trans ho
 refine ⟨A, rd41 ?_, a3⟩
 show F41 (ev E0 KD (m + 1)) rounds v0 (sv path) v2 S = _
 rw [F41_eq, hfind, callP_ret, x1, oB, PL.all ho k2 x2, oB]
 dsimp only
 rw [oB, nwP_fst, a1, oB, show (V.int .i64 0) = .int .i64 ((0 : Nat) : Int) from rfl]
 dsimp only
 rw [L41_spec (p := p) onA path (hp.grew a3) hlen (hc.grew0 a3) hcl hpm a2 (hF.refs p hpm) _ _ p.refs 0 rounds rfl (by have := hF.refs p hpm; unfold rounds; omega)]
 unfold readyR
 rw [k3]
 cases h : p.refs.any (badR ps path come) with
 | true => rw [if_pos rfl]; rfl
 | false => rw [if_neg (by simp), exB_same, R41_9_eq]; rfl
theorem L22i_spec {m N : Nat} (ho : X.on = false) {v0 v3 v4 : V} {ps : List Pth} {all out : List Bs} (hp : PL X v0 ps) (hF : Fit ps) (ha : TL X v3 all) (han : ∀ a ∈ all, a ∈ names ps) (hal : all.length < 1000) (h4 : TL X v4 out) (hol : out.length < 1000000) (nk : Ac → St → Rs) (ek : Nat → Ac → St → Rs) :
 ∀ (j q : Nat) (U : St), j ≤ all.length → j < q → Grew (fun _ => False) X U →
 ∃ T, L22_40 (ev E0 KD (m + 2)) N nk ek q v0 v3 v4 (sv ((rdyR ps out (all.drop j)).headD [])) (sv ((candR ps out (all.drop j)).headD [])) (.bool (!(rdyR ps out (all.drop j)).isEmpty)) (.bool (!(candR ps out (all.drop j)).isEmpty)) (.int .i64 ((j : Int) - 1)) U =
  ek 2 (fr 56 [(0, v0), (3, v3), (4, v4), (5, sv ((rdyR ps out all).headD [])), (6, sv ((candR ps out all).headD [])), (7, .bool (!(rdyR ps out all).isEmpty)), (8, .bool (!(candR ps out all).isEmpty))]) T ∧ Grew (fun _ => False) X T
 | j, 0, U, _, hq, _ => by omega
 | 0, q + 1, U, _, _, g => by
  refine ⟨U, ?_, g⟩
  rw [L22_40_eq, geq0, oB, decide_eq_false (by omega), ifK_bool, cond_false, List.drop_zero]
 | j + 1, q + 1, U, hj, hq, g => by
  have onU := g.on.trans ho
  have hjl : j < all.length := by omega
  have hdr := List.drop_eq_getElem_cons hjl
  obtain ⟨x, x1, x2⟩ := (ha.grew0 g).ld onU (List.getElem?_eq_getElem hjl)
  have hsub : binV E0 .sub 3 false true (.int .i64 (j : Int)) (.int .i64 1) = some (.int .i64 ((j : Int) - 1)) := by
   rw [binV_ii, intsV_sub, wrap_i64 (by omega) (by omega)]
  rw [show (((j + 1 : Nat) : Int) - 1) = (j : Int) by omega, L22_40_eq, geq0, oB, decide_eq_true (by omega), ifK_bool, cond_true, x1, oB, x2, oB]
  dsimp only
  rw [hasR_run (m + 1) onU (h4.grew0 g) hol, callP_ret, ifK_bool]
  cases hin : decide (all[j] ∈ out) with
  | true =>
   have e1 : candR ps out (all.drop j) = candR ps out (all.drop (j + 1)) := by unfold candR; rw [hdr, List.filter_cons_of_neg (by rw [hin]; simp)]
   have e2 : rdyR ps out (all.drop j) = rdyR ps out (all.drop (j + 1)) := by unfold rdyR; rw [e1]
   rw [cond_true, hsub, oB, ← e1, ← e2]
   exact L22i_spec ho hp hF ha han hal h4 hol nk ek j q U (by omega) (by omega) g
  | false =>
   have e1 : candR ps out (all.drop j) = all[j] :: candR ps out (all.drop (j + 1)) := by unfold candR; rw [hdr, List.filter_cons_of_pos (by rw [hin]; simp)]
   obtain ⟨T, t1, t2⟩ := ready_run m onU (hp.grew g) hF (h4.grew0 g) hol (han _ (List.getElem_mem hjl))
   rw [cond_false, oB, x2, oB]
   dsimp only
   rw [oB, x2, oB]
   dsimp only
   rw [t1, callP_ret, ifK_bool]
   have onT := t2.on.trans onU
   obtain ⟨y, y1, y2⟩ := (ha.grew0 (g.trans t2)).ld onT (List.getElem?_eq_getElem hjl)
   have hyx : y = x := by rw [x1] at y1; exact (Option.some.inj y1).symm
   subst hyx
   cases hr : readyR ps all[j] out with
   | true =>
    have e2 : rdyR ps out (all.drop j) = all[j] :: rdyR ps out (all.drop (j + 1)) := by unfold rdyR; rw [e1, List.filter_cons_of_pos (p := fun k => readyR ps k out) hr]
    obtain ⟨T', z1, z2⟩ := L22i_spec (m := m) (N := N) ho hp hF ha han hal h4 hol nk ek j q T (by omega) (by omega) (g.trans t2)
    rw [cond_true, oB, y2, oB]
    dsimp only
    rw [hsub, oB]
    rw [e1, e2] at z1
    exact ⟨T', z1, z2⟩
   | false =>
    have e2 : rdyR ps out (all.drop j) = rdyR ps out (all.drop (j + 1)) := by unfold rdyR; rw [e1, List.filter_cons_of_neg (p := fun k => readyR ps k out) (by simp [hr])]
    obtain ⟨T', z1, z2⟩ := L22i_spec (m := m) (N := N) ho hp hF ha han hal h4 hol nk ek j q T (by omega) (by omega) (g.trans t2)
    rw [cond_false, hsub, oB]
    rw [e1, e2] at z1
    exact ⟨T', z1, z2⟩
theorem L8c_spec {m : Nat} (ho : X.on = false) {v0 v3 : V} {ps : List Pth} (hp : PL X v0 ps) (hF : Fit ps) (ha : TL X v3 (allB [] ps)) (nk : Ac → St → Rs) (ek : Nat → Ac → St → Rs) :
 ∀ (k q : Nat) (out : List Bs) (v4 : V) (U : St), (leftOf ps out).length = k → out.length + k = (allB [] ps).length → k < q → Grew (fun _ => False) X U → TLo U v4 out X.next →
 ∃ w T, L22_8 (ev E0 KD (m + 2)) rounds nk ek q v0 v3 v4 U = ek 0 (fr 56 [(4, w)]) T ∧ TLo T w (out ++ orderL (refsOf ps) k (leftOf ps out)) X.next ∧ Grew (fun _ => False) X T
 | k, 0, out, v4, U, _, _, hq, _, _ => by omega
 | 0, q + 1, out, v4, U, hk, hs, hq, g, ht => by
  refine ⟨v4, U, ?_, by unfold orderL; rw [List.append_nil]; exact ht, g⟩
  rw [L22_8_eq, ht.tl.len, oB]
  dsimp only
  rw [(ha.grew0 g).len, oB]
  dsimp only
  rw [binV_ii, intsV_lss, dec_ge (by omega), oB, ifK_bool, cond_false]
 | k + 1, q + 1, out, v4, U, hk, hs, hq, g, ht => by
  have onU := g.on.trans ho
  have hlen := hF.len
  have hal := allB_len ps
  have hne : leftOf ps out ≠ [] := fun e => by rw [e] at hk; cases hk
  have hmem := nextP_mem (ps := refsOf ps) hne
  have hdl := dropP_len (left_nd ps out) hmem
  rw [left_drop] at hdl
  obtain ⟨T, t1, t2⟩ := L22i_spec (m := m) (N := rounds) onU (hp.grew g) hF (ha.grew0 g) (fun a h => by rcases allB_mem.1 h with h | h; cases h; exact h) (by omega) ht.tl (by omega)
   (R22_18 (ev E0 KD (m + 2)) rounds (N22_8 (ev E0 KD (m + 2)) rounds nk ek q) (exB 1 (N22_8 (ev E0 KD (m + 2)) rounds nk ek q) ek)) (exB 2 (R22_18 (ev E0 KD (m + 2)) rounds (N22_8 (ev E0 KD (m + 2)) rounds nk ek q) (exB 1 (N22_8 (ev E0 KD (m + 2)) rounds nk ek q) ek)) (exB 1 (N22_8 (ev E0 KD (m + 2)) rounds nk ek q) ek)) (allB [] ps).length rounds U (Nat.le_refl _) (by unfold rounds; omega) (Grew.refl _ _)
  rw [List.drop_length] at t1
  have onT := t2.on.trans onU
  have gT := g.trans t2
  obtain ⟨y, W, v', V1, b1, b2, b3, b4⟩ := (ht.grew t2).push onT gT.next (by omega) (nxR ps out)
  have hcand : candR ps out (allB [] ps) ≠ [] := fun e => by
   rw [cand_eq] at e
   have := mem_sortB.2 hmem
   rw [e] at this
   cases this
  have hsub : ∀ n : Nat, n < 1000 → binV E0 .sub 3 false true (.int .i64 (n : Int)) (.int .i64 1) = some (.int .i64 ((n : Int) - 1)) := subOne
  have hr18 : R22_18 (ev E0 KD (m + 2)) rounds (N22_8 (ev E0 KD (m + 2)) rounds nk ek q) (exB 1 (N22_8 (ev E0 KD (m + 2)) rounds nk ek q) ek) (fr 56 [(0, v0), (3, v3), (4, v4), (5, sv ((rdyR ps out (allB [] ps)).headD [])), (6, sv ((candR ps out (allB [] ps)).headD [])), (7, .bool (!(rdyR ps out (allB [] ps)).isEmpty)), (8, .bool (!(candR ps out (allB [] ps)).isEmpty))]) T = N22_8 (ev E0 KD (m + 2)) rounds nk ek q (fr 56 [(0, v0), (3, v3), (4, v')]) V1 := by
   rw [R22_18_eq, unV_not, oB, Bool.not_not]
   cases hrd : rdyR ps out (allB [] ps) with
   | nil =>
    have hnx : nxR ps out = (candR ps out (allB [] ps)).headD [] := by unfold nxR; rw [hrd]
    cases hcd : candR ps out (allB [] ps) with
    | nil => exact absurd hcd hcand
    | cons c cs =>
     rw [hcd] at hnx
     simp only [List.isEmpty_nil, List.isEmpty_cons, Bool.not_false, gTT, oB, cond_true, pickV_bool, ifK_bool]
     rw [← hnx, b1, oB]
     dsimp only
     rw [b2, oB]
   | cons a tl =>
    have hnx : nxR ps out = a := by unfold nxR; rw [hrd]
    simp only [List.isEmpty_cons, gTF, oB, cond_false, pickV_bool, ifK_bool]
    rw [show (a :: tl).headD [] = nxR ps out from hnx.symm, b1, oB]
    dsimp only
    rw [b2, oB]
  obtain ⟨w, E, e1, e2, e3⟩ := L8c_spec (m := m) ho hp hF ha nk ek k q (out ++ [nxR ps out]) v' V1 (by rw [nx_eq]; omega) (by rw [List.length_append, List.length_singleton]; omega) (by omega) (Grew.fresh gT (Nat.le_refl _) b4) b3
  refine ⟨w, E, ?_, ?_, e3⟩
  · rw [L22_8_eq, ht.tl.len, oB]
    dsimp only
    rw [(ha.grew0 g).len, oB]
    dsimp only
    rw [binV_ii, intsV_lss, dec_lt (by omega), oB, ifK_bool, cond_true, (ha.grew0 g).len, oB]
    dsimp only
    rw [hsub _ (by omega), oB]
    refine Eq.trans t1 ?_
    rw [exB_same, hr18, N22_8_eq]
    exact e1
  · unfold orderL
    rw [left_drop]
    rw [nx_eq, List.append_assoc] at e2
    exact e2
theorem left_nil (ps : List Pth) : leftOf ps [] = refsOf ps := by
 unfold leftOf
 exact List.filter_eq_self.2 fun p _ => by simp
theorem refOrder_run (m : Nat) (ho : X.on = false) {v0 : V} {ps : List Pth} (hp : PL X v0 ps) (hF : Fit ps) : ∃ w T, (ev E0 KD (m + 3)).f 22 [v0] X = some (.ret w, T) ∧ TLo T w (orderL (refsOf ps) (refsOf ps).length (refsOf ps)) X.next ∧ Grew (fun _ => False) X T := by
 have hlen := hF.len
 obtain ⟨w1, A, a1, a2, a3⟩ := all_run m ho hp hlen
 have onA := a3.on.trans ho
 have hall : (allB [] ps).length = (refsOf ps).length := by
  rw [allB_eq, (sortB_perm _).length_eq]
  unfold names
  rw [List.length_map]
 obtain ⟨w, T, t1, t2, t3⟩ := L8c_spec (m := m) onA (hp.grew a3) hF a2.tl (R22_5 (ev E0 KD (m + 2)) rounds (finN E0 (ev E0 KD (m + 2)) Try.f22) noEx) (exB 0 (R22_5 (ev E0 KD (m + 2)) rounds (finN E0 (ev E0 KD (m + 2)) Try.f22) noEx) noEx) (refsOf ps).length rounds [] .nilslice A (by rw [left_nil]) (by rw [hall]; simp) (by have := refsOf_len ps; unfold rounds; omega) (Grew.refl _ _) .nil
 rw [left_nil, List.nil_append] at t2
 refine ⟨w, T, rd22 ?_, t2.weak a3.next, a3.trans t3⟩
 show F22 (ev E0 KD (m + 2)) rounds v0 X = _
 rw [F22_eq, a1, callP_ret, t1, exB_same, R22_5_eq]
end
end Go.Proofs.Ytginkdeicmdmaaa.W
namespace Go.Proofs.Ytginkdeicmdmaaa.W
open Go.Proofs.Ytginkdeicmdmaaa.Ev Go.RowKit
section
variable {S T U X : St} {α : Type}
theorem lg_of {f : St → Option (α × St)} (h : Lg.LocP f) {a : α} (hf : f S = some (a, U)) (l : List LE) : ∃ l', f (S.lg l) = some (a, U.lg l') := by
 obtain ⟨_, h2⟩ := h S (a, U) hf
 obtain ⟨t', h3, h4, h5⟩ := h2 (S.lg l) ⟨rfl, rfl⟩
 refine ⟨t'.log, h3.trans ?_⟩
 obtain ⟨hp, nx, on, lg⟩ := t'
 obtain ⟨k1, k2⟩ := h4
 simp only at k1 k2 h5
 have h5' : on = true := h5
 subst h5'; subst k1; subst k2
 rfl
theorem lg_apP (e z B : Nat) (x y : V) : Lg.LocP fun s => apP e z B x y s := by
 unfold apP
 exact Lg.Loc.opt fun n => Lg.Loc.opt fun m => Lg.Loc.cond (Lg.loc_appendV _ _ _ _ _) Lg.Loc.none
theorem lg_bsP (e z n : Nat) (t : Tr V) (ps : List (Nat × V)) : Lg.LocP fun s => bsP e z n t ps s := by
 unfold bsP
 exact Lg.Loc.opt fun l => Lg.LocP.nw (fun k => V.slice k 0 n n) fun _ => _
def TV (v : V) (l : List Bs) : Prop := (l = [] ∧ (v = .nilslice ∨ v = .eslice)) ∨ v = .list 1 (l.map sv)
structure Raw where
 nm : Bs
 rv : V
 refs : List Bs
 x : Bs
 y : Bs
noncomputable def Raw.v (r : Raw) : V := vAgg [sv r.nm, r.rv, sv r.x, sv r.y]
def PV (v : V) (l : List Raw) : Prop := ((l = [] ∧ (v = .nilslice ∨ v = .eslice)) ∨ v = .list 4 (l.map Raw.v)) ∧ ∀ r ∈ l, TV r.rv r.refs
theorem TV.len {v : V} {l : List Bs} (h : TV v l) : lnS v S = some (.int .i64 (l.length : Int), S) := by
 rcases h with ⟨rfl, rfl | rfl⟩ | rfl
 · rfl
 · rfl
 · show some (V.int .i64 (Int.ofNat (l.map sv).length), S) = _
   rw [List.length_map]; rfl
theorem TV.ix {v : V} {l : List Bs} (h : TV v l) {i : Nat} {a : Bs} (ha : l[i]? = some a) : ixP 1 v (.int .i64 (i : Int)) = some (.cptr (sv a)) := by
 rcases h with ⟨rfl, _⟩ | rfl
 · simp at ha
 · show (bif Nat.beq 1 1 && Nat.blt 0 1 then ((l.map sv)[i]?).bind fun v => some (V.cptr v) else none) = _
   rw [List.getElem?_map, ha]; rfl
theorem TV.one {v : V} {l : List Bs} (h : TV v l) : OneV v := by
 rcases h with ⟨_, rfl | rfl⟩ | rfl <;> exact ⟨rfl, rfl, rfl, rfl⟩
theorem PV.len {v : V} {l : List Raw} (h : PV v l) : lnS v S = some (.int .i64 (l.length : Int), S) := by
 rcases h.1 with ⟨rfl, rfl | rfl⟩ | rfl
 · rfl
 · rfl
 · show some (V.int .i64 (Int.ofNat (l.map Raw.v).length), S) = _
   rw [List.length_map]; rfl
theorem PV.ix {v : V} {l : List Raw} (h : PV v l) {i : Nat} {r : Raw} (hr : l[i]? = some r) : ixP 4 v (.int .i64 (i : Int)) = some (.cptr r.v) := by
 rcases h.1 with ⟨rfl, _⟩ | rfl
 · simp at hr
 · show (bif Nat.beq 4 4 && Nat.blt 0 4 then ((l.map Raw.v)[i]?).bind fun v => some (V.cptr v) else none) = _
   rw [List.getElem?_map, hr]; rfl
theorem fa0 (r : Raw) : faP 0 false 1 (.cptr r.v) = some (.cptr (sv r.nm)) := by unfold Raw.v; kernel_rfl
theorem fa1 (r : Raw) : faP 1 false 1 (.cptr r.v) = some (.cptr r.rv) := by unfold Raw.v; kernel_rfl
theorem ldc (a : Bs) (S : St) : ld1 (.cptr (sv a)) S = some (sv a, S) := rfl
theorem ldcv {v : V} (h : OneV v) (S : St) : ld1 (.cptr v) S = some (v, S) := by
 obtain ⟨h1, h2, h3, h4⟩ := h
 unfold ld1
 show (bif !Go.Proofs.Ytginkdeicmdmaaa.Ev.isAgg v && !isTuple v then some (v, S) else none) = _
 rw [h3, h4]; rfl
theorem take_min (l : List UInt8) (n : Nat) : List.take (min l.length n) l = l.take n := by
 rcases Nat.le_total l.length n with h | h
 · rw [Nat.min_eq_left h, List.take_length, List.take_of_length_le h]
 · rw [Nat.min_eq_right h]
theorem cutN (s : List UInt8) (n : Nat) (S : St) : sliceV E0 9 (sv s) none (some (.int .i64 ((min s.length n : Nat) : Int))) none S = some (sv (s.take n), S) := by
 rw [slice_sv und9 s (bounds_hi .i64 (Nat.min_le_left ..)) (Nat.min_le_left ..), List.drop_zero, Nat.sub_zero, take_min]
theorem min60 (n : Nat) (S : St) : foldK minV (.int .i64 (n : Int)) [(.int .i64 60)] S = some (.int .i64 ((min n 60 : Nat) : Int), S) := by
 rw [foldK_min]
 congr 3
 omega
theorem lim_cond (i n : Nat) (c : Nat) (hc : c < 100) (K : V → Rs) : ((binV E0 .lss 3 false false (.int .i64 (i : Int)) (.int .i64 (n : Int))).bind fun t10 =>
(guardV true t10).bind fun g12 => (bif g12 then some (V.int .i64 (i : Int)) else some (.tuple [])).bind fun t12 =>
(guardV true t10).bind fun g13 => (bif g13 then binV E0 .lss 3 false true t12 (.int .i64 (c : Int)) else some (.tuple [])).bind fun t13 =>
(pickV t10 (some t13) (some (.bool false))).bind fun t14 => K t14) = K (.bool (decide (i < n) && decide (i < c))) := by
 rw [binV_ii, intsV_lss, oB]
 by_cases h : i < n
 · rw [dec_lt h, decide_eq_true h]
   simp only [gTT, oB, cond_true, pickV_bool, Bool.true_and]
   rw [binV_ii, intsV_lss]
   by_cases h2 : i < c
   · rw [dec_lt h2, decide_eq_true h2]; rfl
   · rw [dec_ge (by omega), decide_eq_false h2]; rfl
 · rw [dec_ge (by omega), decide_eq_false h]
   rfl
def cutT (l : List Bs) : List Bs := (l.take 10).map fun a => a.take 60
theorem map_take_push (l : List Bs) (f : Bs → Bs) {i c : Nat} (hi : i < l.length) (hc : i < c) : ((l.take c).take (i + 1)).map f = ((l.take c).take i).map f ++ [f l[i]] := by
 have h1 : i < (l.take c).length := by rw [List.length_take]; omega
 rw [take_push h1, List.map_append, List.getElem_take]; rfl
theorem L16_spec {m N : Nat} (ho : X.on = false) {v0 : V} {l : List Bs} (hl : TV v0 l) (nk : Ac → St → Rs) (ek : Nat → Ac → St → Rs) :
 ∀ (d i q : Nat) (v3 : V) (U : St), i + d = min l.length 10 → d < q → Grew (fun _ => False) X U → TLo U v3 (((l.take 10).take i).map fun a => a.take 60) X.next →
 ∃ w T, L16_6 (ev E0 KD m) N nk ek q v0 v3 (.int .i64 (i : Int)) U = ek 0 (fr 30 [(3, w)]) T ∧ TLo T w (cutT l) X.next ∧ Grew (fun _ => False) X T
 | d, i, 0, v3, U, _, hq, _, _ => by omega
 | 0, i, q + 1, v3, U, hi, hq, g, ht => by
  refine ⟨v3, U, ?_, ?_, g⟩
  · rw [L16_6_eq, hl.len, oB]
    dsimp only
    rw [show (V.int .i64 10) = .int .i64 ((10 : Nat) : Int) from rfl, lim_cond i l.length 10 (by omega), show (decide (i < l.length) && decide (i < 10)) = false from by
     rw [Bool.and_eq_false_iff, decide_eq_false_iff_not, decide_eq_false_iff_not]; omega, ifK_bool, cond_false]
  · rw [List.take_of_length_le (l := l.take 10) (by rw [List.length_take]; omega)] at ht
    exact ht
 | d + 1, i, q + 1, v3, U, hi, hq, g, ht => by
  have onU := g.on.trans ho
  have h1 : i < l.length := by omega
  have h2 : i < 10 := by omega
  have hix := hl.ix (List.getElem?_eq_getElem h1)
  obtain ⟨y, W, v', V1, b1, b2, b3, b4⟩ := ht.push onU g.next (by rw [List.length_map, List.length_take, List.length_take]; omega) (l[i].take 60)
  obtain ⟨L1, c1⟩ := lg_of (lg_bsP _ _ _ _ _) b1 []
  obtain ⟨L2, c2⟩ := lg_of (lg_apP _ _ _ _ _) b2 []
  obtain ⟨U', u1, u2, u3, u4⟩ := relog_any onU V1 [] [[], [], [], [], (U.lg []).log, [], [], [], (U.lg []).log, (U.lg []).log, (U.lg []).log, (U.lg []).log, (W.lg L1).log, (V1.lg L2).log, []]
  have gV : Grew (fun _ => False) X V1 := Grew.fresh g (Nat.le_refl _) b4
  have gU' : Grew (fun _ => False) X U' := Grew.same gV u2 u3 (u4.trans (gV.on.trans ho).symm)
  have ht' : TLo U' v' (((l.take 10).take (i + 1)).map fun a => a.take 60) X.next := by
   rw [map_take_push l _ h1 h2]
   rcases b3 with h | ⟨r, k0, k1, k2, k3⟩
   · exact .inl h
   · exact .inr ⟨r, k0, k1.same u2, by rw [u3]; exact k2, k3⟩
  obtain ⟨w, T, t1, t2, t3⟩ := L16_spec (m := m) (N := N) ho hl nk ek d (i + 1) q v' U' (by omega) (by omega) gU' ht'
  refine ⟨w, T, ?_, t2, t3⟩
  rw [L16_6_eq, hl.len, oB]
  dsimp only
  rw [show (V.int .i64 10) = .int .i64 ((10 : Nat) : Int) from rfl, lim_cond i l.length 10 (by omega), decide_eq_true h1, decide_eq_true h2, Bool.and_self, ifK_bool, cond_true, hix, oB]
  simp only [ons, lglg, ldc, oB, lnStr_sv]
  rw [min60, oB]
  simp only [ons, lglg]
  rw [cutN, oB]
  simp only [ons, lglg]
  rw [c1, oB]
  simp only [ons, lglg]
  rw [c2, oB]
  simp only [ons, lglg]
  have hp : pairsOk [[], [], [], [], (U.lg []).log, [], [], [], (U.lg []).log, (U.lg []).log, (U.lg []).log, (U.lg []).log, (W.lg L1).log, (V1.lg L2).log, []] [(4, [8, 9, 10])] = true := rfl
  rw [endP_of hp]
  refine Eq.trans (b := L16_6 (ev E0 KD m) N nk ek q v0 v' (.int .i64 ((i + 1 : Nat) : Int)) U') ?_ t1
  rw [binV_ii, intsV_add, wrap_succ (by omega), oB]
  rw [← u1]
theorem texts_run (m : Nat) (ho : X.on = false) {v0 : V} {l : List Bs} (hl : TV v0 l) : ∃ w T, (ev E0 KD (m + 1)).f 16 [v0] X = some (.ret w, T) ∧ TLo T w (cutT l) X.next ∧ Grew (fun _ => False) X T := by
 obtain ⟨w, T, t1, t2, t3⟩ := L16_spec (m := m) (N := rounds) ho hl (R16_2 (ev E0 KD m) rounds (finN E0 (ev E0 KD m) Try.f16) noEx) (exB 0 (R16_2 (ev E0 KD m) rounds (finN E0 (ev E0 KD m) Try.f16) noEx) noEx) (min l.length 10) 0 rounds .nilslice X (Nat.zero_add _) (by unfold rounds; omega) (Grew.refl _ _) .nil
 refine ⟨w, T, rd16 ?_, t2, t3⟩
 show F16 (ev E0 KD m) rounds v0 X = _
 rw [F16_eq, show (V.int .i64 0) = .int .i64 ((0 : Nat) : Int) from rfl, t1, exB_same, R16_2_eq]
end
end Go.Proofs.Ytginkdeicmdmaaa.W
namespace Go.Proofs.Ytginkdeicmdmaaa.W
open Go.Proofs.Ytginkdeicmdmaaa.Ev Go.RowKit
section
variable {S T U X : St}
theorem build28n (x : Bs) {v : V} {l : List Bs} {N : Nat} (h : TLo S v l N) : buildV E0 28 [(0, sv x), (1, v)] = some (vAgg [sv x, v, sv [], sv []]) := by
 unfold sv
 generalize x.length = a
 generalize pack x = b
 rcases h with ⟨_, rfl⟩ | ⟨r, rfl, _⟩
 · kernel_rfl
 · generalize l.length = k
   kernel_rfl
def gP (p : Pth) : Bs × List Bs := (p.nm, p.refs)
def gR (r : Raw) : Bs × List Bs := (r.nm.take 60, cutT r.refs)
def CutP (l : List Raw) (ps : List Pth) : Prop := ps.map gP = (l.take 25).map gR
theorem cut_len {l : List Raw} {ps : List Pth} (h : CutP l ps) : ps.length ≤ 25 := by
 have := congrArg List.length h
 rw [List.length_map, List.length_map, List.length_take] at this
 omega
theorem cut_fit {l : List Raw} {ps : List Pth} (h : CutP l ps) : Fit ps := by
 have hm : ∀ p ∈ ps, ∃ r, gP p = gR r := fun p hp => by
  have : gP p ∈ (l.take 25).map gR := by rw [← h]; exact List.mem_map_of_mem hp
  rw [List.mem_map] at this
  obtain ⟨r, _, hr⟩ := this
  exact ⟨r, hr.symm⟩
 refine ⟨by have := cut_len h; omega, fun p hp => ?_, fun p hp => ?_⟩
 · obtain ⟨r, hr⟩ := hm p hp
   have h1 : p.nm = r.nm.take 60 := congrArg Prod.fst hr
   rw [h1, List.length_take]; omega
 · obtain ⟨r, hr⟩ := hm p hp
   have h1 : p.refs = cutT r.refs := congrArg Prod.snd hr
   rw [h1]
   unfold cutT
   rw [List.length_map, List.length_take]; omega
theorem L15_spec {m N : Nat} (ho : X.on = false) {v0 : V} {l : List Raw} (hl : PV v0 l) (nk : Ac → St → Rs) (ek : Nat → Ac → St → Rs) :
 ∀ (d i q : Nat) (v3 : V) (ps : List Pth) (U : St), i + d = min l.length 25 → d < q → Grew (fun _ => False) X U → PLo U v3 ps X.next → ps.map gP = ((l.take 25).take i).map gR →
 ∃ w ps' T, L15_6 (ev E0 KD (m + 1)) N nk ek q v0 v3 (.int .i64 (i : Int)) U = ek 0 (fr 39 [(3, w)]) T ∧ PLo T w ps' X.next ∧ CutP l ps' ∧ Grew (fun _ => False) X T
 | d, i, 0, v3, ps, U, _, hq, _, _, _ => by omega
 | 0, i, q + 1, v3, ps, U, hi, hq, g, ht, hc => by
  refine ⟨v3, ps, U, ?_, ht, ?_, g⟩
  · rw [L15_6_eq, hl.len, oB]
    dsimp only
    rw [show (V.int .i64 25) = .int .i64 ((25 : Nat) : Int) from rfl, lim_cond i l.length 25 (by omega), show (decide (i < l.length) && decide (i < 25)) = false from by
     rw [Bool.and_eq_false_iff, decide_eq_false_iff_not, decide_eq_false_iff_not]; omega, ifK_bool, cond_false]
  · rw [List.take_of_length_le (l := l.take 25) (by rw [List.length_take]; omega)] at hc
    exact hc
 | d + 1, i, q + 1, v3, ps, U, hi, hq, g, ht, hc => by
  have onU := g.on.trans ho
  have h1 : i < l.length := by omega
  have h2 : i < 25 := by omega
  have hli : l[i]? = some l[i] := List.getElem?_eq_getElem h1
  have hix := hl.ix hli
  have htv := hl.2 l[i] (List.getElem_mem h1)
  obtain ⟨w, T, w1, w2, w3⟩ := texts_run m onU htv
  obtain ⟨L16, k1⟩ := Lg.ev_lg lgD w1 []
  have onT := w3.on.trans onU
  have gT := g.trans w3
  have hpl : ps.length ≤ 25 := by
   have := congrArg List.length hc
   rw [List.length_map, List.length_map, List.length_take, List.length_take] at this
   omega
  obtain ⟨y, W, v', V1, b1, b2, b3, b4⟩ := (ht.grew w3).push onT gT.next (by omega) (p := ⟨l[i].nm.take 60, w, cutT l[i].refs⟩) w2.tl
  obtain ⟨L1, c1⟩ := lg_of (lg_bsP _ _ _ _ _) b1 []
  obtain ⟨L2, c2⟩ := lg_of (lg_apP _ _ _ _ _) b2 []
  obtain ⟨U', u1, u2, u3, u4⟩ := relog_any onU V1 [] [[], [], [], [], [], (U.lg []).log, [], [], [], [], (U.lg []).log, (U.lg []).log, (U.lg []).log, (U.lg []).log, [], [], [], [], (U.lg []).log, (T.lg L16).log, [], (W.lg L1).log, (V1.lg L2).log, []]
  have gV : Grew (fun _ => False) X V1 := Grew.fresh gT (Nat.le_refl _) (b4.mono fun z _ h => (ht.2 z h).1)
  have g0 : Grew (fun _ => False) V1 U' := Grew.same (Grew.refl _ _) u2 u3 (u4.trans (gV.on.trans ho).symm)
  have hc' : (ps ++ [(⟨l[i].nm.take 60, w, cutT l[i].refs⟩ : Pth)]).map gP = ((l.take 25).take (i + 1)).map gR := by
   have h3 : i < (l.take 25).length := by rw [List.length_take]; omega
   rw [take_push h3, List.map_append, List.map_append, hc, List.getElem_take]; rfl
  obtain ⟨w', ps', T', t1, t2, t3, t4⟩ := L15_spec (m := m) (N := N) ho hl nk ek d (i + 1) q v' _ U' (by omega) (by omega) (gV.trans g0) (b3.grew g0) hc'
  refine ⟨w', ps', T', ?_, t2, t3, t4⟩
  rw [L15_6_eq, hl.len, oB]
  dsimp only
  rw [show (V.int .i64 25) = .int .i64 ((25 : Nat) : Int) from rfl, lim_cond i l.length 25 (by omega), decide_eq_true h1, decide_eq_true h2, Bool.and_self, ifK_bool, cond_true, hix, oB, fa0, oB]
  simp only [ons, lglg, ldc, oB, fa0, lnStr_sv]
  rw [min60, oB]
  simp only [ons, lglg]
  rw [cutN, oB, fa1, oB]
  simp only [ons, lglg]
  rw [ldcv htv.one, oB]
  simp only [ons, lglg]
  rw [k1, callD_ret, build28n _ w2, oB]
  simp only [ons, lglg]
  rw [show vAgg [sv (l[i].nm.take 60), w, sv [], sv []] = vAgg (Pth.cells ⟨l[i].nm.take 60, w, cutT l[i].refs⟩) from rfl, c1, oB]
  simp only [ons, lglg]
  rw [c2, oB]
  simp only [ons, lglg]
  have hp : pairsOk [[], [], [], [], [], (U.lg []).log, [], [], [], [], (U.lg []).log, (U.lg []).log, (U.lg []).log, (U.lg []).log, [], [], [], [], (U.lg []).log, (T.lg L16).log, [], (W.lg L1).log, (V1.lg L2).log, []] [(5, [10, 11, 12, 18, 19]), (10, [18, 19]), (11, [18, 19]), (12, [18, 19]), (13, [18, 19])] = true := rfl
  rw [endP_of hp]
  refine Eq.trans (b := L15_6 (ev E0 KD (m + 1)) N nk ek q v0 v' (.int .i64 ((i + 1 : Nat) : Int)) U') ?_ t1
  rw [binV_ii, intsV_add, wrap_succ (by omega), oB]
  rw [← u1]
theorem cut_run (m : Nat) (ho : X.on = false) {v0 : V} {l : List Raw} (hl : PV v0 l) : ∃ w ps T, (ev E0 KD (m + 2)).f 15 [v0] X = some (.ret w, T) ∧ PLo T w ps X.next ∧ CutP l ps ∧ Grew (fun _ => False) X T := by
 obtain ⟨w, ps, T, t1, t2, t3, t4⟩ := L15_spec (m := m) (N := rounds) ho hl (R15_2 (ev E0 KD (m + 1)) rounds (finN E0 (ev E0 KD (m + 1)) Try.f15) noEx) (exB 0 (R15_2 (ev E0 KD (m + 1)) rounds (finN E0 (ev E0 KD (m + 1)) Try.f15) noEx) noEx) (min l.length 25) 0 rounds .nilslice [] X (Nat.zero_add _) (by unfold rounds; omega) (Grew.refl _ _) .nil rfl
 refine ⟨w, ps, T, rd15 ?_, t2, t3, t4⟩
 show F15 (ev E0 KD (m + 1)) rounds v0 X = _
 rw [F15_eq, show (V.int .i64 0) = .int .i64 ((0 : Nat) : Int) from rfl, t1, exB_same, R15_2_eq]
end
end Go.Proofs.Ytginkdeicmdmaaa.W
namespace Go.Proofs.Ytginkdeicmdmaaa.W
open Go.Proofs.Ytginkdeicmdmaaa.Ev Go.RowKit
section
variable {S T U X : St}
theorem R5t_cond {self : EV} {S5 S9 S12 S18 S21 S27 S34 S36 : St} {t2 t5 c1 c2 d1 d2 o1 o2 : V} {x : Bool}
 (h1 : self.f 9 [t2, t5] S5 = some (.ret c1, S9)) (h2 : self.f 18 [t2, t5] S9 = some (.ret c2, S12)) (h3 : self.f 17 [c1, c2] S12 = some (.ret (.bool true), S12))
 (h4 : self.f 10 [t2, t5] S12 = some (.ret d1, S18)) (h5 : self.f 19 [t2, t5] S18 = some (.ret d2, S21)) (h6 : self.f 17 [d1, d2] S21 = some (.ret (.bool true), S21))
 (h7 : self.f 12 [t2] S21 = some (.ret (.bool x), S27)) (h8 : self.f 20 [t2] S27 = some (.ret (.bool x), S27))
 (h9 : self.f 21 [t2] S27 = some (.ret o1, S34)) (h10 : self.f 22 [t2] S34 = some (.ret o2, S36)) (h11 : self.f 17 [o1, o2] S36 = some (.ret (.bool true), S36)) (K : St → Rs) :
(callP (self.f 9 [t2, t5] S5) fun t9 S9 =>
callP (self.f 18 [t2, t5] S9) fun t12 S12 =>
callP (self.f 17 [t9, t12] S12) fun t13 S13 =>
(unV .not t13).bind fun t14 =>
(guardV false t14).bind fun g16 => (bif g16 then some t2 else some (.tuple [])).bind fun t16 =>
(guardV false t14).bind fun g17 => (bif g17 then some t5 else some (.tuple [])).bind fun t17 =>
(guardV false t14).bind fun g18 => callP (bif g18 then self.f 10 [t16, t17] S13 else some (.ret (.tuple []), S13)) fun t18 S18 =>
(guardV false t14).bind fun g19 => (bif g19 then some t2 else some (.tuple [])).bind fun t19 =>
(guardV false t14).bind fun g20 => (bif g20 then some t5 else some (.tuple [])).bind fun t20 =>
(guardV false t14).bind fun g21 => callP (bif g21 then self.f 19 [t19, t20] S18 else some (.ret (.tuple []), S18)) fun t21 S21 =>
(guardV false t14).bind fun g22 => callP (bif g22 then self.f 17 [t18, t21] S21 else some (.ret (.tuple []), S21)) fun t22 S22 =>
(guardV false t14).bind fun g23 => (bif g23 then unV .not t22 else some (.tuple [])).bind fun t23 =>
(pickV t14 (some (.bool true)) (some t23)).bind fun t24 =>
(guardV false t24).bind fun g26 => (bif g26 then some t2 else some (.tuple [])).bind fun t26 =>
(guardV false t24).bind fun g27 => callP (bif g27 then self.f 12 [t26] S22 else some (.ret (.tuple []), S22)) fun t27 S27 =>
(guardV false t24).bind fun g28 => (bif g28 then some t2 else some (.tuple [])).bind fun t28 =>
(guardV false t24).bind fun g29 => callP (bif g29 then self.f 20 [t28] S27 else some (.ret (.tuple []), S27)) fun t29 S29 =>
(guardV false t24).bind fun g30 => (bif g30 then binV E0 .neq 4 false false t27 t29 else some (.tuple [])).bind fun t30 =>
(pickV t24 (some (.bool true)) (some t30)).bind fun t31 =>
(guardV false t31).bind fun g33 => (bif g33 then some t2 else some (.tuple [])).bind fun t33 =>
(guardV false t31).bind fun g34 => callP (bif g34 then self.f 21 [t33] S29 else some (.ret (.tuple []), S29)) fun t34 S34 =>
(guardV false t31).bind fun g35 => (bif g35 then some t2 else some (.tuple [])).bind fun t35 =>
(guardV false t31).bind fun g36 => callP (bif g36 then self.f 22 [t35] S34 else some (.ret (.tuple []), S34)) fun t36 S36 =>
(guardV false t31).bind fun g37 => callP (bif g37 then self.f 17 [t34, t36] S36 else some (.ret (.tuple []), S36)) fun t37 S37 =>
(guardV false t31).bind fun g38 => (bif g38 then unV .not t37 else some (.tuple [])).bind fun t38 =>
(pickV t31 (some (.bool true)) (some t38)).bind fun t39 =>
ifK t39 (
some (.ret (.bool false), S37)) (
K S37)) = K S36 := by
 rw [h1, callP_ret, h2, callP_ret, h3, callP_ret, unV_not, Bool.not_true]
 simp only [gFF, oB, cond_true]
 rw [h4, callP_ret, h5, callP_ret, h6, callP_ret]
 simp only [gFF, oB, cond_true, unV_not, Bool.not_true, pickV_bool, cond_false]
 rw [h7, callP_ret, h8, callP_ret, neBool]
 simp only [gFF, oB, cond_true, bne_self_eq_false, pickV_bool, cond_false]
 rw [h9, callP_ret, h10, callP_ret, h11, callP_ret]
 simp only [gFF, oB, cond_true, unV_not, Bool.not_true, pickV_bool, cond_false, ifK_bool]
theorem referrers_pl {d : Nat} (ho : S.on = false) {v : V} {l : List Pth} {b : Nat} (hp : Rowed S v l b) (hF : Fit l) (path : Bs) :
 ∃ w U L, (ev E0 KD (d + 5)).f 23 [v, sv path] (S.lg []) = some (.ret w, U.lg L) ∧ TLo U w (referL l path) S.next ∧ Grew (fun _ => False) S U ∧ ∀ e ∈ L, e.w = false ∨ e.b ≠ b := by
 obtain ⟨w, U, h1, h2, h3⟩ := referrers_run (d := d) ho hp.pl hF path
 obtain ⟨c, hc, hc2⟩ := hp.row.row
 obtain ⟨w', U', k1, _, _⟩ := referrers_run (d := d) (S := icy S b 28 4 (l.map treeP).length c) ho (hp.pl.icy hp.v hp.row hc hc2) hF path
 obtain ⟨L, q1, q2⟩ := Fz.ev_log fzD lgD (icy_same hc hp.lt) k1 h1
 exact ⟨w, U, L, q1, h2, h3, q2⟩
theorem referL_len (l : List Pth) (path : Bs) : (referL l path).length ≤ l.length := by
 unfold referL
 refine Nat.le_trans (List.length_filter_le _ _) ?_
 rw [(sortB_perm _).length_eq]
 unfold names
 rw [List.length_map]
 exact refsOf_len l
theorem L52_spec {m N M : Nat} (ho : X.on = false) {v0 : V} {ps : List Pth} (hp : PLo X v0 ps M) (hF : Fit ps) (nk : Ac → St → Rs) (ek : Nat → Ac → St → Rs) :
 ∀ (e i q : Nat) (U : St), i + e = ps.length → e < q → Grew (fun _ => False) X U →
 ∃ T, L5_52 (ev E0 KD (m + 5)) N nk ek q v0 (.int .i64 (i : Int)) U = ek 0 (fr 73 [(0, v0)]) T ∧ Grew (fun _ => False) X T
 | e, i, 0, U, _, hq, _ => by omega
 | 0, i, q + 1, U, hi, hq, g => by
  refine ⟨U, ?_, g⟩
  rw [L5_52_eq, (hp.1.grew g).len, oB]
  dsimp only
  rw [binV_ii, intsV_lss, dec_ge (by omega), oB, ifK_bool, cond_false]
 | e + 1, i, q + 1, U, hi, hq, g => by
  have onU := g.on.trans ho
  have hil : i < ps.length := by omega
  have hpi : ps[i]? = some ps[i] := List.getElem?_eq_getElem hil
  have hF1 := hF.len
  obtain ⟨b, hb⟩ := rowed_of (hp.grew g) (by omega)
  have hlk : ∀ {Y : St} (_ : Y.on = false) (_ : Rowed Y v0 ps b), ld1 (.ptr b (i * 4 + 0)) (Y.lg []) = some (sv ps[i].nm, Y.lg [⟨b, i * 4 + 0, i * 4 + 0 + 1, false⟩]) := fun hY hr => ld1_lg hY (PL.name hY hpi (.of hr.row)) []
  obtain ⟨w1, W1, L1, a1, a2, a3, a4⟩ := referrers_pl (d := m) onU hb hF ps[i].nm
  have on1 := a3.on.trans onU
  have hb1 := hb.grew a3
  obtain ⟨w2, W2, b1, b2, b3⟩ := refRefer_run (m + 3) on1 hb1.pl hF ps[i].nm
  obtain ⟨L2, b1'⟩ := Lg.ev_lg lgD b1 []
  have on2 := b3.on.trans on1
  have c1 := same_run (m + 4) on2 (a2.tl.grew0 b3) b2.tl (by have := referL_len ps ps[i].nm; omega)
  obtain ⟨L3, c1'⟩ := Lg.ev_lg lgD c1 []
  have hprs : pairsOk [[], [], [], [], [], (U.lg [⟨b, i * 4 + 0, i * 4 + 0 + 1, false⟩]).log, (W1.lg L1).log, [], [], [], [], [], (W1.lg [⟨b, i * 4 + 0, i * 4 + 0 + 1, false⟩]).log, (W2.lg L2).log, (W2.lg L3).log, []] [(5, [12]), (6, [12])] = true := by
   refine pairs_one (b := b) (fun e he => ?_) (fun e he => ?_) (pairs_one (b := b) a4 (fun e he => ?_) rfl)
   · have he' : e ∈ [(⟨b, i * 4 + 0, i * 4 + 0 + 1, false⟩ : LE)] := he
     rw [List.mem_singleton.1 he']; exact .inl rfl
   · have he' : e ∈ [(⟨b, i * 4 + 0, i * 4 + 0 + 1, false⟩ : LE)] := he
     rw [List.mem_singleton.1 he']; exact ⟨rfl, rfl⟩
   · have he' : e ∈ [(⟨b, i * 4 + 0, i * 4 + 0 + 1, false⟩ : LE)] := he
     rw [List.mem_singleton.1 he']; exact ⟨rfl, rfl⟩
  obtain ⟨U', u1, u2, u3, u4⟩ := relog_any onU W2 [] [[], [], [], [], [], (U.lg [⟨b, i * 4 + 0, i * 4 + 0 + 1, false⟩]).log, (W1.lg L1).log, [], [], [], [], [], (W1.lg [⟨b, i * 4 + 0, i * 4 + 0 + 1, false⟩]).log, (W2.lg L2).log, (W2.lg L3).log, []]
  have gU' : Grew (fun _ => False) X U' := Grew.same ((g.trans a3).trans b3) u2 u3 (u4.trans on2.symm)
  obtain ⟨T, t1, t2⟩ := L52_spec (m := m) (N := N) ho hp hF nk ek e (i + 1) q U' (by omega) (by omega) gU'
  refine ⟨T, ?_, t2⟩
  rw [L5_52_eq, (hp.1.grew g).len, oB]
  dsimp only
  rw [binV_ii, intsV_lss, dec_lt hil, oB, ifK_bool, cond_true, hb.ix hil, oB, faPg, oB]
  simp only [ons, lglg]
  rw [hlk onU hb, oB]
  simp only [ons, lglg]
  rw [a1, callD_ret, oB, faPg, oB]
  simp only [ons, lglg]
  rw [hlk on1 hb1, oB]
  simp only [ons, lglg]
  rw [b1', callD_ret]
  simp only [ons, lglg]
  rw [c1', callD_ret, unV_not, Bool.not_true, oB]
  simp only [ons, lglg]
  rw [endP_of hprs, u1, ifK_bool, cond_false, binV_ii, intsV_add, wrap_succ (by omega), oB]
  exact t1
theorem R41_spec {m N M : Nat} (ho : X.on = false) {v0 : V} {ps : List Pth} (hp : PLo X v0 ps M) (hF : Fit ps) (nk : Ac → St → Rs) (ek : Nat → Ac → St → Rs) : ∃ T, R5_41 (ev E0 KD (m + 5)) N nk ek (fr 73 [(0, v0)]) X = some (.ret (.bool true), T) := by
 obtain ⟨w1, W1, a1, a2, a3⟩ := referrers_run (d := m) ho hp.1 hF [110, 111, 110, 101]
 have on1 := a3.on.trans ho
 obtain ⟨w2, W2, b1, b2, b3⟩ := refRefer_run (m + 3) on1 (hp.1.grew a3) hF [110, 111, 110, 101]
 have on2 := b3.on.trans on1
 have hF1 := hF.len
 have c1 := same_run (m + 4) on2 (a2.tl.grew0 b3) b2.tl (by have := referL_len ps [110, 111, 110, 101]; omega)
 refine ⟨W2, ?_⟩
 rw [R5_41_eq, a1, callP_ret, b1, callP_ret, c1, callP_ret]
 simp only [gTT, oB, cond_true]
 rw [works_run, callP_ret, pickV_bool, cond_true, oB]
theorem tells_run (ho : S.on = false) {v0 v1 : V} {l : List Raw} {f : List Bs} (hl : PV v0 l) (hf : TV v1 f) : ∃ U, (ev E0 KD 40).f 5 [v0, v1] S = some (.ret (.bool true), U) := by
 obtain ⟨v, ps, A, a1, a2, a3, a4⟩ := cut_run 37 ho hl
 have onA := a4.on.trans ho
 have hF := cut_fit a3
 have hn := cut_len a3
 obtain ⟨w, B, b1, b2, b3⟩ := texts_run 38 onA hf
 have onB := b3.on.trans onA
 have hfl : (cutT f).length ≤ 10 := by unfold cutT; rw [List.length_map, List.length_take]; omega
 have hpB := a2.1.grew b3
 have hcl := closL_len ps (cutT f)
 have hdl := clos_dead_len ps (cutT f)
 have hrl := refsOf_len ps
 obtain ⟨c1, S9, e1, e2, e3⟩ := closure_run (d := 36) onB hpB hF (by omega) b2.tl (by omega)
 have on9 := e3.on.trans onB
 obtain ⟨c2, S12, f1, f2, f3⟩ := refClos_run 37 on9 (hpB.grew e3) hF (b2.tl.grew0 e3) (by omega)
 have on12 := f3.on.trans on9
 have g12 := e3.trans f3
 have k1 := same_run 38 on12 (e2.tl.grew0 f3) f2.tl (by omega)
 obtain ⟨d1, S18, h1, h2, h3⟩ := dead_run (d := 36) on12 (hpB.grew g12) hF (by omega) (b2.tl.grew0 g12) (by omega)
 have on18 := h3.on.trans on12
 have g18 := g12.trans h3
 obtain ⟨d2, S21, i1, i2, i3⟩ := refDead_run 36 on18 (hpB.grew g18) hF (b2.tl.grew0 g18) (by omega)
 have on21 := i3.on.trans on18
 have g21 := g18.trans i3
 have k2 := same_run 38 on21 (h2.tl.grew0 i3) i2.tl (by omega)
 obtain ⟨S27, j1, j2⟩ := closed_run 38 on21 (hpB.grew g21) hF
 have on27 := j2.on.trans on21
 have g27 := g21.trans j2
 have j3 := refClosed_run 37 on27 (hpB.grew g27) hF
 obtain ⟨o1, S34, l1, l2, l3⟩ := order_run (n := 33) on27 (hpB.grew g27) hF
 have on34 := l3.on.trans on27
 have g34 := g27.trans l3
 obtain ⟨o2, S36, m1, m2, m3⟩ := refOrder_run 36 on34 (hpB.grew g34) hF
 have on36 := m3.on.trans on34
 have g36 := g34.trans m3
 have k3 := same_run 38 on36 (l2.tl.grew0 m3) m2.tl (by rw [order_len]; omega)
 have hpL := (a2.grew b3).grew g36
 obtain ⟨T, t1, t2⟩ := L52_spec (m := 34) (N := rounds) on36 hpL hF (R5_41 (ev E0 KD 39) rounds (finN E0 (ev E0 KD 39) Try.f5) noEx) (exB 0 (R5_41 (ev E0 KD 39) rounds (finN E0 (ev E0 KD 39) Try.f5) noEx) noEx) ps.length 0 rounds S36 (Nat.zero_add _) (by unfold rounds; omega) (Grew.refl _ _)
 obtain ⟨Z, z1⟩ := R41_spec (m := 34) (N := rounds) (t2.on.trans on36) (hpL.grew t2) hF (finN E0 (ev E0 KD 39) Try.f5) noEx
 refine ⟨Z, rd5 ?_⟩
 show F5 (ev E0 KD 39) rounds v0 v1 S = _
 rw [F5_eq, a1, callP_ret, b1, callP_ret]
 refine (R5t_cond e1 f1 k1 h1 i1 k2 j1 j3 l1 m1 k3 _).trans ?_
 rw [show (V.int .i64 0) = .int .i64 ((0 : Nat) : Int) from rfl, t1, exB_same]
 exact z1
end
theorem tells_calls (W : World) {v0 v1 : V} {cv cw : Value} {l : List Raw} {f : List Bs} (hv : VRel (frz W) v0 cv) (hw : VRel (frz W) v1 cw) (hl : PV v0 l) (hf : TV v1 f) : Calls Try.prog 5 #[cv, cw] W fun e w' => e = .returned (.bool true) ∧ Below W.heap.size W w' := by
 obtain ⟨U, hl⟩ := tells_run (S := s0) rfl hl hf
 refine ((ev_sim E0_ok okD 40).call (base0 W) _ s0 W 5 [v0, v1] #[cv, cw] _ U (relF W) (.cons hv (.cons hw .nil)) hl).mono fun ce w' hce => ?_
 obtain ⟨ρ', cv, rfl, _, hv, hR⟩ := hce
 cases hv
 exact ⟨rfl, below_of_rel hR⟩
end Go.Proofs.Ytginkdeicmdmaaa.W
namespace Go.Proofs.Ytginkdeicmdmaaa.W
open Go.Proofs.Ytginkdeicmdmaaa.Ev Go.RowKit
theorem u24 : Try.prog.underlying 24 = some (.slice 28) := by kernel_rfl
theorem u26 : Try.prog.underlying 26 = some (.slice 9) := by kernel_rfl
theorem u9 : Try.prog.underlying 9 = some .string := by kernel_rfl
theorem u28 : ∃ a b c d, Try.prog.underlying 28 = some (.struct #[a, b, c, d]) ∧ a.type = 9 ∧ a.offset = 0 ∧ b.type = 26 ∧ b.offset = 1 ∧ c.type = 9 ∧ c.offset = 2 ∧ d.type = 9 ∧ d.offset = 3 := ⟨_, _, _, _, Try.underlying28, rfl, rfl, rfl, rfl, rfl, rfl, rfl, rfl⟩
theorem c9 : Try.prog.cellsOf 9 = 1 := by kernel_rfl
theorem c26 : Try.prog.cellsOf 26 = 1 := by kernel_rfl
theorem c28 : Try.prog.cellsOf 28 = 4 := by kernel_rfl
theorem flat_at {β : Type} {z : Nat} (hz : 0 < z) : ∀ (ls : List (List β)), (∀ l ∈ ls, l.length = z) → ∀ (j : Nat) c, ls.flatten[j]? = some c → ∃ l, ls[j / z]? = some l ∧ l[j % z]? = some c
 | [], _, j, c, h => by simp at h
 | l :: ls, hl, j, c, h => by
  rw [List.flatten_cons] at h
  have h0 := hl l (List.mem_cons_self ..)
  by_cases hj : j < z
  · rw [List.getElem?_append_left (by omega)] at h
    exact ⟨l, by rw [Nat.div_eq_of_lt hj]; rfl, by rw [Nat.mod_eq_of_lt hj]; exact h⟩
  · rw [List.getElem?_append_right (by omega), h0] at h
    obtain ⟨l', h1, h2⟩ := flat_at hz ls (fun x hx => hl x (List.mem_cons_of_mem _ hx)) (j - z) c h
    refine ⟨l', ?_, ?_⟩
    · rw [show j = (j - z) + z by omega, Nat.add_div_right _ hz]; exact h1
    · rw [show j = (j - z) + z by omega, Nat.add_mod_right]; exact h2
theorem pick_any {α : Type} {P : Nat → α → Prop} : ∀ (n : Nat), (∀ i, i < n → ∃ b, P i b) → ∃ l : List α, l.length = n ∧ ∀ i b, l[i]? = some b → P i b
 | 0, _ => ⟨[], rfl, fun i b h => by simp at h⟩
 | n + 1, h => by
  obtain ⟨l, h1, h2⟩ := pick_any n fun i hi => h i (by omega)
  obtain ⟨b, hb⟩ := h n (by omega)
  refine ⟨l ++ [b], by simp [h1], fun i c hc => ?_⟩
  by_cases hi : i < n
  · rw [List.getElem?_append_left (by omega)] at hc
    exact h2 i c hc
  · have hi2 : i = n := by
     have := (List.getElem?_eq_some_iff.1 hc).1
     simp [h1] at this
     omega
    subst hi2
    rw [List.getElem?_append_right (by omega)] at hc
    simp [h1] at hc
    subst hc
    exact hb
theorem vrels_map {ρ : Rho} {α : Type} (f : α → V) (g : α → Value) : ∀ l : List α, (∀ a ∈ l, VRel ρ (f a) (g a)) → VRels ρ (l.map f) (l.map g)
 | [], _ => .nil
 | a :: l, h => .cons (h a (List.mem_cons_self ..)) (vrels_map f g l fun b hb => h b (List.mem_cons_of_mem _ hb))
section
variable {H : Type} {enc : TypeId × Value → H} {W : World}
theorem list_of_trod {α : Type} {t e z : Nat} {F : α → V} {Q : α → Prop} (ht : Try.prog.underlying t = some (.slice e)) (hz : Try.prog.cellsOf e = z) (hz0 : 0 < z)
 (el : ∀ fuel cs (x : DataW H × List MemPlace), DataW.trod enc Try.prog W 0 (fun _ => true) true fuel e cs = some x → ∃ (a : α) (cv : Value), VRel (frz W) (F a) cv ∧ isTuple (F a) = false ∧ cv.cells.toList = cs ∧ Q a)
 {fuel : Nat} {cs : List Value} {x : DataW H × List MemPlace} (h : DataW.trod enc Try.prog W 0 (fun _ => true) true fuel t cs = some x) :
 ∃ (cv : Value) (v : V) (l : List α), cs = [cv] ∧ VRel (frz W) v cv ∧ ((l = [] ∧ (v = .nilslice ∨ v = .eslice)) ∨ v = .list z (l.map F)) ∧ (∀ a ∈ l, Q a) ∧ ∃ ad len cap, cv = .slice ad len cap := by
 rcases DataW.trod_slice ht h with ⟨hv, _⟩ | ⟨a, len, cap, elems, rest, m, hm, hv, _, _, hcap, hmax, hel, hat, _⟩
 · exact ⟨_, .nilslice, [], hv, .nilslice, .inl ⟨rfl, .inl rfl⟩, fun _ h => by simp at h, _, _, _, rfl⟩
 · by_cases h0 : len = 0
   · subst h0
     exact ⟨_, .eslice, [], hv, .eslice a cap, .inl ⟨rfl, .inr rfl⟩, fun _ h => by simp at h, _, _, _, rfl⟩
   · have hAt : ∀ i, i < len → ∃ p : α × Value, VRel (frz W) (F p.1) p.2 ∧ isTuple (F p.1) = false ∧ Q p.1 ∧ p.2.cells.toList.length = z ∧ ∀ k, k < z → ∃ y, p.2.cells.toList[k]? = some y ∧ W.cell? ((a.add (i * z)).add k) = some y := fun i hi => by
      have := hat i hi
      rw [hz, List.getElem?_eq_getElem (by omega), oI] at this
      obtain ⟨cells, h1, h2⟩ := this
      obtain ⟨b, cv, b1, b2, b3, b4⟩ := el _ _ _ h2
      obtain ⟨c1, c2⟩ := cells?_at h1
      exact ⟨(b, cv), b1, b2, b4, by rw [b3]; exact c1, by rw [b3]; exact c2⟩
     obtain ⟨p0, _, _, _, _, q0⟩ := hAt 0 (by omega)
     obtain ⟨y0, _, hb0⟩ := q0 0 hz0
     have hspot : a.spot = none ∧ ∃ bg ty fr, W.heap[a.block]? = some (.cells bg ty fr) := by
      rw [Nat.zero_mul, show (a.add 0).add 0 = a from rfl] at hb0
      unfold World.cell? at hb0
      split at hb0
      · rename_i bg ty fr hh
        split at hb0
        · cases hb0
        · rename_i hsp
          exact ⟨by simpa using hsp, bg, ty, fr, hh⟩
      · cases hb0
     obtain ⟨hsp, bg, ty, fr, hheap⟩ := hspot
     obtain ⟨l, l1, l2⟩ := pick_any len hAt
     have hin : ∀ p ∈ l, ∃ i, l[i]? = some p := fun p hp => List.mem_iff_getElem?.1 hp
     refine ⟨_, .list z ((l.map (·.1)).map F), l.map (·.1), hv, ?_, .inr rfl, fun b hb => ?_, _, _, _, rfl⟩
     · rw [List.map_map]
       refine .list (vrels_map _ (·.2) l fun p hp => ?_) (fun v hv => ?_) (by rw [List.length_map]; exact l1) hcap fun _ => ⟨fun cv hcv => ?_, hsp, bg, ty, fr, hheap, fun j c hj => ?_⟩
       · obtain ⟨i, hi⟩ := hin p hp
         exact (l2 i p hi).1
       · rw [List.mem_map] at hv
         obtain ⟨p, hp, rfl⟩ := hv
         obtain ⟨i, hi⟩ := hin p hp
         exact (l2 i p hi).2.1
       · rw [List.mem_map] at hcv
         obtain ⟨p, hp, rfl⟩ := hcv
         obtain ⟨i, hi⟩ := hin p hp
         have := (l2 i p hi).2.2.2.1
         rwa [Array.length_toList] at this
       · rw [List.flatMap_def, List.map_map] at hj
         obtain ⟨cl, h1, h2⟩ := flat_at hz0 _ (fun cl hcl => by
          rw [List.mem_map] at hcl
          obtain ⟨p, hp, rfl⟩ := hcl
          obtain ⟨i, hi⟩ := hin p hp
          exact (l2 i p hi).2.2.2.1) j c hj
         rw [List.getElem?_map, Option.map_eq_some_iff] at h1
         obtain ⟨p, hp, rfl⟩ := h1
         obtain ⟨y, y1, y2⟩ := (l2 _ p hp).2.2.2.2 (j % z) (Nat.mod_lt _ hz0)
         have hc : c = y := by
          have := h2.symm.trans y1
          simpa using this
         subst hc
         rw [add_eq hsp, add_eq rfl] at y2
         unfold World.cell? at y2
         simp only at y2
         rw [hheap] at y2
         have he : a.off + j / z * z + j % z = a.off + j := by
          have := Nat.div_add_mod j z
          rw [Nat.mul_comm] at this
          omega
         rw [he] at y2
         exact y2
     · rw [List.mem_map] at hb
       obtain ⟨p, hp, rfl⟩ := hb
       obtain ⟨i, hi⟩ := hin p hp
       exact (l2 i p hi).2.2.1
theorem texts_of_trod {fuel : Nat} {cs : List Value} {x : DataW H × List MemPlace} (h : DataW.trod enc Try.prog W 0 (fun _ => true) true fuel 26 cs = some x) :
 ∃ (cv : Value) (v : V) (l : List Bs), cs = [cv] ∧ VRel (frz W) v cv ∧ TV v l ∧ ∃ ad len cap, cv = .slice ad len cap := by
 obtain ⟨cv, v, l, h1, h2, h3, _, h4⟩ := list_of_trod (F := sv) (Q := fun _ => True) u26 c9 (by omega) (fun fuel cs x hx => by
  obtain ⟨s, rfl, _, _⟩ := DataW.trod_string u9 hx
  exact ⟨s.data.toList, .string s, .str s, rfl, rfl, trivial⟩) h
 exact ⟨cv, v, l, h1, h2, h3, h4⟩
theorem paths_of_trod {fuel : Nat} {cs : List Value} {x : DataW H × List MemPlace} (h : DataW.trod enc Try.prog W 0 (fun _ => true) true fuel 24 cs = some x) :
 ∃ (cv : Value) (v : V) (l : List Raw), cs = [cv] ∧ VRel (frz W) v cv ∧ PV v l ∧ ∃ ad len cap, cv = .slice ad len cap := by
 obtain ⟨cv, v, l, h1, h2, h3, h4, h5⟩ := list_of_trod (F := Raw.v) (Q := fun r => TV r.rv r.refs) u24 c28 (by omega) (fun fuel cs x hx => by
  obtain ⟨fa, fb, fc, fd, hu, a1, a2, b1, b2, d1, d2, e1, e2⟩ := u28
  obtain ⟨y0, y1, y2, y3, n, _, hl, k0, k1, k2, k3⟩ := Go.Joins.trod_struct4 hu hx
  rw [c28] at hl
  rw [a1, a2, c9] at k0
  rw [b1, b2, c26] at k1
  rw [d1, d2, c9] at k2
  rw [e1, e2, c9] at k3
  match cs, hl with
  | [w0, w1, w2, w3], _ =>
   obtain ⟨s0, q0, _, _⟩ := DataW.trod_string u9 k0
   obtain ⟨c1, v1, l1, q1, r1, t1, ad, len, cap, z1⟩ := texts_of_trod k1
   obtain ⟨s2, q2, _, _⟩ := DataW.trod_string u9 k2
   obtain ⟨s3, q3, _, _⟩ := DataW.trod_string u9 k3
   simp only [List.drop_zero, List.drop_succ_cons, List.take_succ_cons, List.take_zero, List.cons.injEq, and_true] at q0 q1 q2 q3
   subst q0 q1 q2 q3
   refine ⟨⟨s0.data.toList, v1, l1, s2.data.toList, s3.data.toList⟩, .agg #[.string s0, w1, .string s2, .string s3], ?_, rfl, rfl, t1⟩
   unfold Raw.v
   refine .agg rfl (fun i cv hcv => ?_) fun i v hv cv hcv => ?_
   · match i, hcv with
     | 0, h => cases h; rfl
     | 1, h => cases h; rw [z1]; rfl
     | 2, h => cases h; rfl
     | 3, h => cases h; rfl
   · rw [Tr.get_ofList] at hv
     match i, hv, hcv with
     | 0, h, h' => cases h; cases h'; exact .str s0
     | 1, h, h' => cases h; cases h'; exact r1
     | 2, h, h' => cases h; cases h'; exact .str s2
     | 3, h, h' => cases h; cases h'; exact .str s3) h
 exact ⟨cv, v, l, h1, h2, ⟨h3, h4⟩, h5⟩
end
end Go.Proofs.Ytginkdeicmdmaaa.W
