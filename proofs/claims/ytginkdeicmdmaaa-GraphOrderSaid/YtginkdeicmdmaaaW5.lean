/-
  WHAT THE FUNCTIONS COME TO: each is read by the evaluator, printed, and told as a function of data, part 5 of 5 (no condition).
-/
import Derived.Test.YtginkdeicmdmaaaW4
namespace Go.Proofs.Ytginkdeicmdmaaa.W
open Go.Proofs.Ytginkdeicmdmaaa.Ev Go.RowKit
def readyL (ps left : List Pth) : List Bs := (sortB (names left)).filter (readyF ps left)
def nextP (ps left : List Pth) : Bs := match readyL ps left with
 | [] => (sortB (names left)).headD []
 | a :: _ => a
def orderL (ps : List Pth) : Nat → List Pth → List Bs
 | 0, _ => []
 | n + 1, left => nextP ps left :: orderL ps n (dropP (nextP ps left) left)
theorem nextP_mem {ps left : List Pth} (h : left ≠ []) : nextP ps left ∈ names left := by
 have hs : sortB (names left) ≠ [] := fun e => by
  have := (sortB_perm (names left)).length_eq
  rw [e] at this
  unfold names at this
  rw [List.length_map] at this
  exact h (List.eq_nil_of_length_eq_zero this.symm)
 unfold nextP
 cases hr : readyL ps left with
 | nil =>
  cases hq : sortB (names left) with
  | nil => exact absurd hq hs
  | cons a l =>
   have : a ∈ sortB (names left) := by rw [hq]; exact List.mem_cons_self ..
   exact mem_sortB.1 this
 | cons a l =>
  have : a ∈ readyL ps left := by rw [hr]; exact List.mem_cons_self ..
  exact mem_sortB.1 (List.mem_filter.1 this).1
theorem dropP_sub {k : Bs} {l : List Pth} {p : Pth} (h : p ∈ dropP k l) : p ∈ l := (List.mem_filter.1 h).1
theorem dropP_nd {k : Bs} {l : List Pth} (h : (names l).Nodup) : (names (dropP k l)).Nodup := by
 unfold names dropP
 exact (List.Sublist.map _ List.filter_sublist).nodup h
theorem dropP_len {k : Bs} : ∀ {l : List Pth}, (names l).Nodup → k ∈ names l → (dropP k l).length + 1 = l.length
 | [], _, h => by cases h
 | p :: l, hn, h => by
  have hn' : (p.nm :: names l).Nodup := hn
  rw [List.nodup_cons] at hn'
  unfold dropP
  by_cases hc : p.nm = k
  · rw [List.filter_cons_of_neg (by simp [hc]), List.filter_eq_self.2 fun q hq => ?_]
    · rfl
    · simp only [Bool.not_eq_true', beq_eq_false_iff_ne]
      exact fun e => hn'.1 (by rw [hc, ← e]; exact mem_names.2 ⟨q, hq, rfl⟩)
  · rw [List.filter_cons_of_pos (by simp [hc]), List.length_cons, List.length_cons]
    have hk : k ∈ names l := by
     have h' : k ∈ p.nm :: names l := h
     rcases List.mem_cons.1 h' with e | e
     · exact absurd e.symm hc
     · exact e
    have ih := dropP_len hn'.2 hk
    unfold dropP at ih
    omega
section
variable {S T U : St}
theorem tail21 {bt bl mt ml : Nat} {ps left : List Pth} (hO : OC U bt bl mt ml ps left) {v5 wl : V} {out rest : List Bs} {a : Bs} {N M : Nat} (h5 : TLo U v5 out N) (hN : N ≤ U.next) (hol : out.length < 10000) (hw : TLo U wl (a :: rest) M) (hM : ∀ r, blkOf v5 = some r → r < M) (hnd : (names left).Nodup) (ha : a ∈ names left) (hml : N ≤ ml) :
 ∃ v5' T, (∀ K : V → St → Rs, ((ixP 1 wl (.int .i64 0)).bind fun t42 =>
(ld1 t42 U).bind fun p43 =>
(bsP 9 1 1 (Go.Proofs.Ytginkdeicmdmaaa.Ev.one (sv [])) [(0, p43.1)] p43.2).bind fun p44 =>
(apP 9 1 16 v5 p44.1 p44.2).bind fun p45 =>
(ld1 (.ptr bl 0) (onS p45.2)).bind fun p47 =>
(ixP 1 wl (.int .i64 0)).bind fun t49 =>
(ld1 t49 (onS p47.2)).bind fun p50 =>
(vu (deleteV E0 48 p47.1 p50.1 (onS p50.2))).bind fun p51 =>
endP [(0, [3])] p45.2 [p47.2.log, [], [], p50.2.log, p51.2.log] p51.2 fun S52 => K p45.1 S52) = K v5' T) ∧ OC T bt bl mt ml ps (dropP a left) ∧ TLo T v5' (out ++ [a]) N ∧ Grew (fun x => N ≤ x) U T := by
 obtain ⟨r0, x1, x2⟩ := hw.tl.ld hO.on (i := 0) (a := a) rfl
 obtain ⟨y, W, v5', X, p1, p2, p3, p4, p5⟩ := h5.push3 hO.on hN (by omega) a
 have hOX := hO.push h5 p4
 have onX := hOX.on
 have hwX : TLo X wl (a :: rest) M := hw.grewW p4 fun r hr h => by
  have h1 := (hw.blk hr).1
  have h2 := hM r h
  omega
 obtain ⟨r1, o1, L1, z1, z2, z3⟩ := hwX.tl.ix (i := 0) (a := a) rfl
 have hr0 : r0 = .ptr r1 o1 := by rw [show ((0 : Nat) : Int) = 0 from rfl] at x1 z1; rw [x1] at z1; exact Option.some.inj z1
 have hl1 : ld1 (.ptr bl 0) (X.lg []) = some (.map ml, X.lg [⟨bl, 0, 1, false⟩]) := ld1_lg onX (Bx.ldv onX hOX.xl big1 rfl) []
 have hl2 : ld1 (.ptr r1 o1) (X.lg []) = some (sv a, X.lg [⟨r1, o1, o1 + 1, false⟩]) := ld1_lg onX (show ld1 (.ptr r1 o1) X = _ from z2.ld1 onX z3) []
 obtain ⟨w, hlk⟩ : ∃ w, lkS a (left.map Pth.kv) = some w := by
  rw [lkS_kv]
  cases hq : lkP a left with
  | none => exact absurd ha (lkP_none.1 hq)
  | some q => exact ⟨_, rfl⟩
 obtain ⟨o, d1, d2⟩ := del_str onX hOX.lf hlk
 obtain ⟨L', d3⟩ := d1 []
 rw [dropS_kv a hnd] at d2
 obtain ⟨U', u1, u2, u3, u4⟩ := relog_any onX (X.put ml o) L' [[⟨bl, 0, 1, false⟩], [], [], [⟨r1, o1, o1 + 1, false⟩], L']
 have hOT := (hOX.del d2).same u2 u3 u4
 have gP := grew_put (s := X) ml o
 have h5P : TLo (X.put ml o) v5' (out ++ [a]) N := p3.grewW gP fun r hr e => by subst e; exact hOX.lf.noRow (p3.blk hr).2
 have h5T : TLo U' v5' (out ++ [a]) N := by
  rcases h5P with h | ⟨r, h0, h1, h2, h3⟩
  · exact .inl h
  · exact .inr ⟨r, h0, h1.same u2, by rw [u3]; exact h2, h3⟩
 refine ⟨v5', U', fun K => ?_, hOT, h5T, ?_⟩
 · rw [show (V.int .i64 0) = .int .i64 ((0 : Nat) : Int) from rfl, x1, oB, x2, oB]
   dsimp only
   rw [p1, oB]
   dsimp only
   rw [p2, oB]
   simp only [ons, lglg]
   rw [hl1, oB, oB, hr0]
   simp only [ons, lglg]
   rw [hl2, oB]
   simp only [ons, lglg]
   rw [d3, oB]
   have hp : pairsOk [[⟨bl, 0, 1, false⟩], [], [], [⟨r1, o1, o1 + 1, false⟩], L'] [(0, [3])] = true := by
    unfold pairsOk
    have : clashAny (logOf 0 [[(⟨bl, 0, 1, false⟩ : LE)], [], [], [⟨r1, o1, o1 + 1, false⟩], L']) [[⟨bl, 0, 1, false⟩], [], [], [⟨r1, o1, o1 + 1, false⟩], L'] [3] = false := by
     unfold clashAny
     rw [clash_or fun e he f hf => ?_]
     · rfl
     · have he' : e ∈ [(⟨bl, 0, 1, false⟩ : LE)] := he
       have hf' : f ∈ [(⟨r1, o1, o1 + 1, false⟩ : LE)] := hf
       rw [List.mem_singleton.1 he', List.mem_singleton.1 hf']
       exact .inr ⟨rfl, rfl⟩
    rw [this]; rfl
   show endP [(0, [3])] X [[⟨bl, 0, 1, false⟩], [], [], [⟨r1, o1, o1 + 1, false⟩], L'] ((X.put ml o).lg L') (fun S52 => K v5' S52) = _
   rw [endP_of hp, u1]
 · have gX : Grew (fun x => N ≤ x) U X := p4.mono fun z _ hz => (h5.blk hz).1
   exact Grew.same (gX.trans (gP.mono fun z _ e => by subst e; exact hml)) u2 u3 (u4.trans onX.symm)
theorem L21_spec {n N : Nat} (ho : S.on = false) {bt bl mt ml : Nat} {ps : List Pth} (hrow : ∀ p ∈ ps, TL S p.rv p.refs) (hlen : ∀ p ∈ ps, p.refs.length < 1000) (hml : S.next ≤ ml) (nk : Ac → St → Rs) (ek : Nat → Ac → St → Rs) :
 ∀ (d : Nat) (left : List Pth) (q : Nat) (v5 : V) (out : List Bs) (U : St), left.length = d → d < q → (names left).Nodup → (∀ p ∈ left, p.nm.length < 1000000) → Grew (fun _ => False) S U → OC U bt bl mt ml ps left → TLo U v5 out S.next → out.length + d < 5000 →
 ∃ w T, L21_13 (ev E0 KD (n + 5)) N nk ek q (.ptr bt 0) (.ptr bl 0) v5 U = ek 0 (fr 33 [(5, w)]) T ∧ Grew (fun _ => False) S T ∧ TLo T w (out ++ orderL ps d left) S.next
 | d, left, 0, v5, out, U, _, hq, _, _, _, _, _, _ => by omega
 | 0, left, q + 1, v5, out, U, hd, hq, hn, hs, g, hO, h5, hb => by
  have q1 : ld1 (.ptr bl 0) U = some (.map ml, U) := Bx.ldv hO.on hO.xl big1 rfl
  refine ⟨v5, U, ?_, g, by unfold orderL; rw [List.append_nil]; exact h5⟩
  rw [L21_13_eq, q1, oB]
  dsimp only
  rw [lnMap_of hO.on hO.lf, oB]
  dsimp only
  rw [List.length_map, hd, binGtr, oB, decide_eq_false (by decide), ifK_bool, cond_false]
 | d + 1, left, q + 1, v5, out, U, hd, hq, hn, hs, g, hO, h5, hb => by
  have onU := hO.on
  obtain ⟨l1, l2, l3, l4⟩ := hO.lt
  have q1 : ld1 (.ptr bl 0) U = some (.map ml, U) := Bx.ldv hO.on hO.xl big1 rfl
  have hne : left ≠ [] := fun e => by rw [e] at hd; cases hd
  obtain ⟨w1, U1, k1, k2, k3⟩ := kept30_run (n + 3) onU hO.lf l4 (by rw [kv_names]; exact hn) (fun p hq => by
   rw [List.mem_map] at hq
   obtain ⟨r, r1, rfl⟩ := hq
   exact Nat.lt_trans (hs r r1) (by decide)) (by rw [List.length_map]; omega) (fv := .fn (.func 37) [] [.ptr bt 0, .ptr bl 0]) (f := readyF ps left) fun V gV k _ => close37 n (hO.grew gV) (fun p hp => ((hrow p hp).grew0 g).grew0 gV) hlen k
  have hO1 := hO.grew k3
  have on1 := hO1.on
  rw [kv_names] at k2
  have k2' : TLo U1 w1 (readyL ps left) U.next := k2
  have q2 : ld1 (.ptr bl 0) U1 = some (.map ml, U1) := Bx.ldv hO1.on hO1.xl big1 rfl
  have h51 := h5.grew k3
  have g1 := g.trans k3
  have hM : ∀ r, blkOf v5 = some r → r < U.next := fun r hr => h5.lt hr
  have hnx := nextP_mem (ps := ps) hne
  have hdl := dropP_len hn hnx
  rw [L21_13_eq, q1, oB]
  dsimp only
  rw [lnMap_of hO.on hO.lf, oB]
  dsimp only
  rw [List.length_map, hd, binGtr, oB, decide_eq_true (by omega), ifK_bool, cond_true, q1, oB]
  dsimp only
  rw [k1, callP_ret, k2'.tl.len, oB]
  dsimp only
  rw [binV_ii, intsV_eql, oB, ifK_bool]
  cases hr : readyL ps left with
  | cons a rest =>
   have hnp : nextP ps left = a := by unfold nextP; rw [hr]
   rw [hr] at k2'
   obtain ⟨v5', T, t1, t2, t3, t4⟩ := tail21 hO1 h51 g1.next (by omega) k2' hM hn (by rw [← hnp]; exact hnx) hml
   obtain ⟨w, E, e1, e2, e3⟩ := L21_spec (n := n) (N := N) ho hrow hlen hml nk ek d (dropP a left) q v5' (out ++ [a]) T (by rw [hnp] at hdl; omega) (by omega) (dropP_nd hn) (fun p hp => hs p (dropP_sub hp)) (Grew.fresh g1 (Nat.le_refl _) t4) t2 t3 (by rw [List.length_append, List.length_singleton]; omega)
   refine ⟨w, E, ?_, e2, ?_⟩
   · rw [decide_eq_false (by rw [List.length_cons]; omega), cond_false]
     exact (t1 fun x s => L21_13 (ev E0 KD (n + 5)) N nk ek q (.ptr bt 0) (.ptr bl 0) x s).trans e1
   · unfold orderL
     rw [hnp]
     rw [List.append_assoc] at e3
     exact e3
  | nil =>
   obtain ⟨w2, U2, m1, m2, m3⟩ := kept30_run (n + 3) on1 hO1.lf (Nat.lt_of_lt_of_le l4 k3.next) (by rw [kv_names]; exact hn) (fun p hq => by
    rw [List.mem_map] at hq
    obtain ⟨r, r1, rfl⟩ := hq
    exact Nat.lt_trans (hs r r1) (by decide)) (by rw [List.length_map]; omega) (fv := .fn (.func 40) [] []) (f := fun _ => true) fun V gV k _ => ⟨V, by
     rw [callK_fn (ext_none (by decide)) (by kernel_rfl)]
     exact rd40 (by
      show F40 (ev E0 KD (n + 3)) rounds (sv k) V = _
      rw [F40_eq]), Grew.refl _ _⟩
   rw [kv_names, List.filter_eq_self.2 (fun _ _ => rfl)] at m2
   have hO2 := hO1.grew m3
   have h52 := h51.grew m3
   have g2 := g1.trans m3
   cases hsrt : sortB (names left) with
   | nil =>
    exfalso
    rw [← mem_sortB, hsrt] at hnx
    cases hnx
   | cons a rest =>
    have hnp : nextP ps left = a := by unfold nextP; rw [hr, hsrt]; rfl
    rw [hsrt] at m2
    obtain ⟨v5', T, t1, t2, t3, t4⟩ := tail21 hO2 h52 g2.next (by omega) m2 (fun r hr => Nat.lt_of_lt_of_le (hM r hr) k3.next) hn (by rw [← hnp]; exact hnx) hml
    obtain ⟨w, E, e1, e2, e3⟩ := L21_spec (n := n) (N := N) ho hrow hlen hml nk ek d (dropP a left) q v5' (out ++ [a]) T (by rw [hnp] at hdl; omega) (by omega) (dropP_nd hn) (fun p hp => hs p (dropP_sub hp)) (Grew.fresh g2 (Nat.le_refl _) t4) t2 t3 (by rw [List.length_append, List.length_singleton]; omega)
    refine ⟨w, E, ?_, e2, ?_⟩
    · rw [decide_eq_true (by rfl), cond_true, q2, oB]
      dsimp only
      rw [m1, callP_ret]
      exact (t1 fun x s => L21_13 (ev E0 KD (n + 5)) N nk ek q (.ptr bt 0) (.ptr bl 0) x s).trans e1
    · unfold orderL
      rw [hnp]
      rw [List.append_assoc] at e3
      exact e3
theorem order_run {n : Nat} (ho : S.on = false) {v : V} {l : List Pth} (hp : PL S v l) (hF : Fit l) :
 ∃ w U, (ev E0 KD (n + 6)).f 21 [v] S = some (.ret w, U) ∧ TLo U w (orderL (refsOf l) (refsOf l).length (refsOf l)) S.next ∧ Grew (fun _ => False) S U := by
 have hF1 := hF.len
 have hlen := refsOf_len l
 obtain ⟨A, mt, a1, a2, a3, a4, a5⟩ := refs_run (n + 4) ho hp (by omega)
 have onA := a2.on.trans ho
 obtain ⟨B, b1, b2, b3, b4⟩ := var_one onA 48 (Go.Proofs.Ytginkdeicmdmaaa.Ev.one .nilmap) (v := .map mt) ⟨rfl, rfl, rfl, rfl⟩
 have onB := b3.on.trans onA
 have hMB := a5.grew a4 (fun h => h) b3
 have l1 : ld1 (.ptr A.next 0) B = some (.map mt, B) := Bx.ldv onB b2 big1 rfl
 obtain ⟨C, c1, c2, c3, c4⟩ := clone_run (n + 4) onB hMB
 have onC := c3.on.trans onB
 obtain ⟨D, d1, d2, d3, d4⟩ := var_one onC 48 (Go.Proofs.Ytginkdeicmdmaaa.Ev.one .nilmap) (v := .map B.next) ⟨rfl, rfl, rfl, rfl⟩
 have onD := d3.on.trans onC
 have gD := ((a2.trans b3).trans c3).trans d3
 have hO : OC D A.next C.next mt B.next (refsOf l) (refsOf l) := by
  refine ⟨onD, (b2.grew (by omega) (fun h => h) c3).grew (by omega) (fun h => h) d3, d2, ⟨by omega, by omega, by omega, by omega⟩, ⟨by omega, by omega, by omega⟩, ((hMB.grew (by omega) (fun h => h) c3).grew (by omega) (fun h => h) d3), c2.grew (by omega) (fun h => h) d3⟩
 obtain ⟨w, T, t1, t2, t3⟩ := L21_spec (n := n) (N := rounds) ho (bt := A.next) (bl := C.next) (mt := mt) (ml := B.next) (fun p hq => hp.2 p (refsOf_mem hq)) (fun p hq => hF.refs p (refsOf_mem hq)) (by have := a2.next; omega) (R21_10 (ev E0 KD (n + 5)) rounds (finN E0 (ev E0 KD (n + 5)) Try.f21) noEx) (exB 0 (R21_10 (ev E0 KD (n + 5)) rounds (finN E0 (ev E0 KD (n + 5)) Try.f21) noEx) noEx) (refsOf l).length (refsOf l) rounds .nilslice [] D rfl (by unfold rounds; omega) (refsOf_nd l) (fun p hq => hF.nm p (refsOf_mem hq)) gD hO .nil (by simp; omega)
 refine ⟨w, T, rd21 ?_, t3, t2⟩
 show F21 (ev E0 KD (n + 5)) rounds v S = _
 rw [F21_eq, a1, callP_ret, oB, nwP_fst, b1, oB]
 dsimp only
 rw [l1, oB]
 dsimp only
 rw [c1, callP_ret, oB, nwP_fst, d1, oB]
 dsimp only
 rw [t1, exB_same, R21_10_eq]
end
end Go.Proofs.Ytginkdeicmdmaaa.W
namespace Go.Proofs.Ytginkdeicmdmaaa.W
section
variable {ps : List Pth} {l : List Nat} {n : Nat}
theorem refsAt_mem {qs : List Pth} (hn : (W.names qs).Nodup) {p : Pth} (hp : p ∈ qs) : refsAt qs p.nm = p.refs := by
 unfold refsAt
 rw [lkP_nd hn hp]
theorem rev_nd (h : Small ps true l n) : (W.names ps.reverse).Nodup := by
 unfold W.names
 rw [List.map_reverse]
 exact ((List.reverse_perm _).nodup_iff).2 h.nd
structure Left (ps left : List Pth) : Prop where
 sub : ∀ p ∈ left, p ∈ ps
 nd : (W.names left).Nodup
theorem Left.drop {left : List Pth} (h : Left ps left) (k : Bs) : Left ps (dropP k left) := ⟨fun p hp => h.sub p (dropP_sub hp), dropP_nd h.nd⟩
theorem ready_some (h : Small ps true l n) {left : List Pth} (hl : Left ps left) : ∀ (i : Nat) (p : Pth), p ∈ left → p.nm = ltr i → i < n → ∃ a, a ∈ readyL ps.reverse left := by
 intro i
 induction i using Nat.strongRecOn with
 | ind i ih =>
  intro p hp hnm hi
  have h14 := h.n14
  by_cases hr : readyF ps.reverse left p.nm = true
  · exact ⟨p.nm, List.mem_filter.2 ⟨mem_sortB.2 (mem_names.2 ⟨p, hp, rfl⟩), hr⟩⟩
  · unfold readyF at hr
    simp only [Bool.not_eq_true', Bool.not_eq_false, List.any_eq_true, Bool.and_eq_true, decide_eq_true_eq, beq_eq_false_iff_ne] at hr
    obtain ⟨r, h1, h2, h3⟩ := hr
    rw [refsAt_mem (rev_nd h) (List.mem_reverse.2 (hl.sub p hp))] at h1
    obtain ⟨j, j1, j2, j3⟩ := h.mem (hl.sub p hp)
    have hij : j = i := ltr_inj (by omega) (by omega) (by rw [← j2, hnm])
    subst hij
    rw [j3] at h1
    obtain ⟨k, k1, k2, k3, _⟩ := mem_refsS j1 h1
    have hk := k3 rfl
    have hkj : k ≠ j := fun e => h3 (by rw [k2, hnm, e])
    obtain ⟨q, q1, q2⟩ := mem_names.1 h2
    exact ih k (by omega) q q1 (by rw [q2, k2]) k1
theorem next_ready (h : Small ps true l n) {left : List Pth} (hl : Left ps left) (hne : left ≠ []) : nextP ps.reverse left ∈ readyL ps.reverse left := by
 obtain ⟨p, hp⟩ := List.exists_mem_of_ne_nil left hne
 obtain ⟨i, h1, h2, _⟩ := h.mem (hl.sub p hp)
 obtain ⟨a, ha⟩ := ready_some h hl i p hp h2 h1
 unfold nextP
 cases hr : readyL ps.reverse left with
 | nil => rw [hr] at ha; cases ha
 | cons b r => exact List.mem_cons_self ..
structure Ord (ps left : List Pth) (ord : List Bs) : Prop where
 mem : ∀ a, a ∈ ord ↔ a ∈ W.names left
 nd : ord.Nodup
 ahead : ∀ pre a post, ord = pre ++ a :: post → ∀ r ∈ refsAt ps.reverse a, r ≠ a → r ∈ W.names left → r ∈ pre
theorem names_drop {left : List Pth} {k a : Bs} : a ∈ W.names (dropP k left) ↔ a ∈ W.names left ∧ a ≠ k := by
 rw [mem_names, mem_names]
 constructor
 · rintro ⟨p, h1, rfl⟩
   obtain ⟨h2, h3⟩ := List.mem_filter.1 h1
   exact ⟨⟨p, h2, rfl⟩, by simpa using h3⟩
 · rintro ⟨⟨p, h1, rfl⟩, h2⟩
   exact ⟨p, List.mem_filter.2 ⟨h1, by simpa using h2⟩, rfl⟩
theorem order_len (qs : List Pth) : ∀ (d : Nat) (left : List Pth), (orderL qs d left).length = d
 | 0, _ => rfl
 | d + 1, left => by unfold orderL; rw [List.length_cons, order_len qs d]
theorem order_ord (h : Small ps true l n) : ∀ (d : Nat) (left : List Pth), Left ps left → left.length = d → Ord ps left (orderL ps.reverse d left)
 | 0, left, hl, hd => by
  have : left = [] := List.eq_nil_of_length_eq_zero hd
  subst this
  exact ⟨fun a => by simp [orderL, W.names], .nil, fun pre a post he => by simp [orderL] at he⟩
 | d + 1, left, hl, hd => by
  have hne : left ≠ [] := fun e => by rw [e] at hd; cases hd
  have hr := next_ready h hl hne
  have hmem := nextP_mem (ps := ps.reverse) hne
  have hdl := dropP_len hl.nd hmem
  have ih := order_ord h d (dropP (nextP ps.reverse left) left) (hl.drop _) (by omega)
  unfold orderL
  refine ⟨fun a => ?_, ?_, fun pre a post he r hra hne' hrl => ?_⟩
  · rw [List.mem_cons, ih.mem, names_drop]
    constructor
    · rintro (rfl | h)
      · exact hmem
      · exact h.1
    · intro ha
      by_cases e : a = nextP ps.reverse left
      · exact .inl e
      · exact .inr ⟨ha, e⟩
  · rw [List.nodup_cons]
    exact ⟨fun hm => ((names_drop.1 ((ih.mem _).1 hm)).2) rfl, ih.nd⟩
  · cases pre with
    | nil =>
     simp only [List.nil_append, List.cons.injEq] at he
     obtain ⟨rfl, _⟩ := he
     have hf := (List.mem_filter.1 hr).2
     unfold readyF at hf
     rw [Bool.not_eq_true', List.any_eq_false] at hf
     have := hf r hra
     simp only [Bool.and_eq_true, decide_eq_true_eq, Bool.not_eq_true', beq_eq_false_iff_ne, not_and] at this
     exact absurd hne' (this hrl)
    | cons b pre =>
     simp only [List.cons_append, List.cons.injEq] at he
     obtain ⟨rfl, he⟩ := he
     by_cases e : r = nextP ps.reverse left
     · exact List.mem_cons.2 (.inl e)
     · exact List.mem_cons.2 (.inr (ih.ahead pre a post he r hra hne' (names_drop.2 ⟨hrl, e⟩)))
def orderB (ps : List Pth) : List Bs := orderL (refsOf ps.reverse) (refsOf ps.reverse).length (refsOf ps.reverse)
theorem orderB_ord (h : Small ps true l n) : Ord ps ps.reverse (orderB ps) := by
 unfold orderB
 rw [refsOf_id (rev_nd h)]
 exact order_ord h _ _ ⟨fun p hp => List.mem_reverse.1 hp, rev_nd h⟩ rfl
theorem orderB_len (h : Small ps true l n) : (orderB ps).length = n := by
 unfold orderB
 rw [refsOf_id (rev_nd h), order_len, List.length_reverse, h.len]
theorem order_get (h : Small ps true l n) {i : Nat} {a : Bs} (ha : (orderB ps)[i]? = some a) : ∃ k p, k < n ∧ a = ltr k ∧ ps[k]? = some p ∧ p.nm = a ∧ a ∉ (orderB ps).take i ∧ ∀ r ∈ p.refs, r ≠ a → r ∈ (orderB ps).take i := by
 have ho := orderB_ord h
 obtain ⟨hi, hv⟩ := List.getElem?_eq_some_iff.1 ha
 have hm : a ∈ W.names ps.reverse := (ho.mem a).1 (List.mem_of_getElem? ha)
 obtain ⟨p, hp, hnm⟩ := mem_names.1 hm
 have hp' := List.mem_reverse.1 hp
 obtain ⟨k, k1, k2, k3⟩ := h.mem hp'
 obtain ⟨p', q1, q2, q3⟩ := h.get k1
 have hpp : p' = p := by
  have h1 := lkP_nd h.nd (List.mem_of_getElem? q1)
  have h2 := lkP_nd h.nd hp'
  rw [q2, ← k2, h2] at h1
  exact (Option.some.inj h1).symm
 subst hpp
 have hsplit : orderB ps = (orderB ps).take i ++ a :: (orderB ps).drop (i + 1) := by
  rw [← hv, ← List.drop_eq_getElem_cons hi, List.take_append_drop]
 refine ⟨k, p', k1, by rw [← hnm, k2], q1, hnm, fun hin => ?_, fun r hr hne => ?_⟩
 · have hnd := ho.nd
   rw [hsplit, List.nodup_append] at hnd
   exact hnd.2.2 a hin a (List.mem_cons_self ..) rfl
 · refine ho.ahead _ _ _ hsplit r ?_ hne ?_
   · rw [← hnm, refsAt_mem (rev_nd h) hp]; exact hr
   · have := h.closed hp' hr
     obtain ⟨q, q1, q2⟩ := mem_names.1 this
     exact mem_names.2 ⟨q, List.mem_reverse.2 q1, q2⟩
theorem mem_referL (h : Small ps true l n) {p : Pth} (hp : p ∈ ps) {r : Bs} (hr : r ∈ p.refs) (hne : r ≠ p.nm) : p.nm ∈ referL ps r := by
 unfold referL
 rw [h.refs]
 refine List.mem_filter.2 ⟨mem_sortB.2 (mem_names.2 ⟨p, hp, rfl⟩), ?_⟩
 rw [refsAt_mem h.nd hp]
 simp [Ne.symm hne, hr]
def own (p : Pth) : Nat := (p.refs.filter fun r => !(r == p.nm)).length
theorem sum_swap {α β : Type} (f : α → β → Bool) : ∀ (A : List α) (B : List β), (A.map fun a => (B.filter fun b => f a b).length).sum = (B.map fun b => (A.filter fun a => f a b).length).sum
 | [], B => by
  induction B with
  | nil => rfl
  | cons b B ih => simp only [List.map_nil, List.sum_nil, List.filter_nil, List.length_nil, List.map_cons, List.sum_cons] at ih ⊢; omega
 | a :: A, B => by
  rw [List.map_cons, List.sum_cons, sum_swap f A B]
  induction B with
  | nil => rfl
  | cons b B ih =>
   have ih2 : (List.filter (f a) B).length + (B.map fun b => (A.filter fun a => f a b).length).sum = (B.map fun b => ((a :: A).filter fun a => f a b).length).sum := ih
   rw [List.map_cons, List.map_cons, List.sum_cons, List.sum_cons, ← ih2]
   cases hf : f a b with
   | true =>
    rw [List.filter_cons_of_pos hf, List.filter_cons_of_pos (p := fun a => f a b) hf, List.length_cons, List.length_cons]
    omega
   | false =>
    rw [List.filter_cons_of_neg (by simp [hf]), List.filter_cons_of_neg (p := fun a => f a b) (by simp [hf])]
    omega
theorem refer_len (h : Small ps true l n) {p : Pth} (hp : p ∈ ps) : (referL ps p.nm).length = (ps.filter fun q => !(q.nm == p.nm) && decide (p.nm ∈ q.refs)).length := by
 unfold referL
 rw [h.refs]
 have h1 : ((sortB (W.names ps)).filter fun k => !(k == p.nm) && decide (p.nm ∈ refsAt ps k)).Perm ((W.names ps).filter fun k => !(k == p.nm) && decide (p.nm ∈ refsAt ps k)) := (sortB_perm _).filter _
 rw [h1.length_eq]
 unfold W.names
 rw [List.filter_map, List.length_map]
 congr 1
 refine List.filter_congr fun q hq => ?_
 show (!(q.nm == p.nm) && decide (p.nm ∈ refsAt ps q.nm)) = _
 rw [refsAt_mem h.nd hq]
theorem ltr_nodup {m : Nat} (hm : m ≤ 14) : ((List.range m).map ltr).Nodup := by
 unfold List.Nodup
 rw [List.pairwise_map]
 refine List.Pairwise.imp_of_mem (fun {x y} hx hy hlt e => ?_) List.pairwise_lt_range
 rw [List.mem_range] at hx hy
 have := ltr_inj (by omega) (by omega) e
 omega
theorem refs_nd (h : Small ps true l n) {p : Pth} (hp : p ∈ ps) : p.refs.Nodup := by
 obtain ⟨i, h1, _, h3⟩ := h.mem hp
 have h14 := h.n14
 rw [h3]
 unfold refsS
 exact (List.Sublist.map ltr List.filter_sublist).nodup (ltr_nodup (by simp; omega))
theorem own_len (h : Small ps true l n) {q : Pth} (hq : q ∈ ps) : own q = (ps.filter fun p => !(q.nm == p.nm) && decide (p.nm ∈ q.refs)).length := by
 unfold own
 have h1 : ((ps.filter fun p => !(q.nm == p.nm) && decide (p.nm ∈ q.refs)).map (·.nm)).Perm (q.refs.filter fun r => !(r == q.nm)) := by
  refine (List.perm_ext_iff_of_nodup ?_ ((refs_nd h hq).filter _)).2 fun a => ?_
  · exact (List.Sublist.map _ List.filter_sublist).nodup h.nd
  · rw [List.mem_map, List.mem_filter]
    constructor
    · rintro ⟨p, hp, rfl⟩
      obtain ⟨h1, h2⟩ := List.mem_filter.1 hp
      simp only [Bool.and_eq_true, Bool.not_eq_true', beq_eq_false_iff_ne, decide_eq_true_eq] at h2 ⊢
      exact ⟨h2.2, Ne.symm h2.1⟩
    · rintro ⟨ha, hne⟩
      obtain ⟨p, hp, rfl⟩ := mem_names.1 (h.closed hq ha)
      refine ⟨p, List.mem_filter.2 ⟨hp, ?_⟩, rfl⟩
      simp only [Bool.and_eq_true, Bool.not_eq_true', beq_eq_false_iff_ne, decide_eq_true_eq] at hne ⊢
      exact ⟨Ne.symm hne, ha⟩
 rw [← h1.length_eq, List.length_map]
theorem both_sides (h : Small ps true l n) : (ps.map fun p => (referL ps p.nm).length).sum = (ps.map own).sum := by
 have e1 : ps.map (fun p => (referL ps p.nm).length) = ps.map fun p => (ps.filter fun q => !(q.nm == p.nm) && decide (p.nm ∈ q.refs)).length := List.map_congr_left fun p hp => refer_len h hp
 have e2 : ps.map own = ps.map fun q => (ps.filter fun p => !(q.nm == p.nm) && decide (p.nm ∈ q.refs)).length := List.map_congr_left fun q hq => own_len h hq
 rw [e1, e2]
 exact sum_swap (fun p q => !(q.nm == p.nm) && decide (p.nm ∈ q.refs)) ps ps
end
end Go.Proofs.Ytginkdeicmdmaaa.W
namespace Go.Proofs.Ytginkdeicmdmaaa.W
open Go.Proofs.Ytginkdeicmdmaaa.Ev Go.RowKit
section
variable {S T U X : St}
theorem referrers_on {d : Nat} (ho : X.on = false) {v : V} {l : List Pth} (hp : PL X v l) (hF : Fit l) (g : Grew (fun _ => False) X S) {b : Nat} {m : List (Tr V)} (hr : RowAt S b 9 1 m) (hb : X.next ≤ b) (hb2 : b < S.next) (path : Bs) :
 ∃ w U L, (ev E0 KD (d + 5)).f 23 [v, sv path] (S.lg []) = some (.ret w, U.lg L) ∧ TLo U w (referL l path) S.next ∧ Grew (fun _ => False) S U ∧ ∀ e ∈ L, e.w = false ∨ e.b ≠ b := by
 have onS' := g.on.trans ho
 obtain ⟨w, U, h1, h2, h3⟩ := referrers_run (d := d) onS' (hp.grew g) hF path
 obtain ⟨c, hc, hc2⟩ := hr.row
 have gi : Grew (fun _ => False) X (icy S b 9 1 m.length c) := Grew.own g hb (grew_put (s := S) b _)
 obtain ⟨w', U', k1, _, _⟩ := referrers_run (d := d) (S := icy S b 9 1 m.length c) onS' (hp.grew gi) hF path
 obtain ⟨L, q1, q2⟩ := Fz.ev_log fzD lgD (icy_same hc hb2) k1 h1
 exact ⟨w, U, L, q1, h2, h3, q2⟩
theorem L135_spec {d N : Nat} (ho : X.on = false) {v3 v6 v7 : V} {ps : List Pth} {l : List Nat} {n b k i M : Nat} {p : Pth} {ord come : List Bs} (hs : Small ps true l n) (hpX : Rowed X v3 ps b) (gX : Grew (fun _ => False) X S) (hM : X.next ≤ M) (hO : TLo S v6 ord M) (hC : TLo S v7 come M) (hk : ps[k]? = some p) (hi : ord[i]? = some p.nm) (hcl : come.length < 1000) (hcome : ∀ r ∈ p.refs, r ≠ p.nm → r ∈ come) (nk : Ac → St → Rs) (ek : Nat → Ac → St → Rs) :
 ∀ (rest : List Bs) (j q : Nat) (U : St), p.refs.drop j = rest → rest.length < q → Grew (fun _ => False) S U →
 ∃ T, L6_135 (ev E0 KD (d + 5)) N nk ek q v3 v6 v7 (.int .i64 (i : Int)) (.int .i64 (k : Int)) (.int .i64 (j : Int)) U = ek 4 (fr 170 [(3, v3), (6, v6), (7, v7), (8, .int .i64 (i : Int))]) T ∧ Grew (fun _ => False) S T
 | rest, j, 0, U, _, hq, _ => by omega
 | rest, j, q + 1, U, hj, hq, g => by
  have gU := gX.trans g
  have onU := gU.on.trans ho
  have hp := hpX.grew gU
  have hkl : k < ps.length := (List.getElem?_eq_some_iff.1 hk).1
  have hpm := List.mem_of_getElem? hk
  have hrv : ld1 (.ptr b (k * 4 + 1)) U = some (p.rv, U) := PL.refs onU hk (.of hp.row)
  have hT := hp.pl.2 p hpm
  have hrl := hs.fit.refs p hpm
  rw [L6_135_eq, hp.ix hkl, oB, faPg, oB, hrv, oB]
  dsimp only
  rw [hT.len, oB]
  dsimp only
  rw [binV_ii, intsV_lss]
  cases rest with
  | nil =>
   refine ⟨U, ?_, g⟩
   rw [dec_ge (drop_end hj), oB, ifK_bool, cond_false]
  | cons r rest =>
   obtain ⟨hlt, hf, hrest, hmem⟩ := drop_at hj
   obtain ⟨x, x1, x2⟩ := hT.ld onU (show p.refs[j]? = some r by rw [List.getElem?_eq_getElem hlt, hf])
   have hOU := hO.grew g
   obtain ⟨y, y1, y2⟩ := hOU.tl.ld onU hi
   have hadd : binV E0 .add 3 false true (.int .i64 (j : Int)) (.int .i64 1) = some (.int .i64 ((j + 1 : Nat) : Int)) := by
    rw [binV_ii, intsV_add, wrap_succ (by omega)]
   rw [dec_lt hlt, oB, ifK_bool, cond_true, oB, faPg, oB, hrv, oB]
   dsimp only
   rw [x1, oB, x2, oB]
   dsimp only
   rw [y1, oB, y2, oB]
   dsimp only
   rw [eqStr, oB, ifK_bool]
   by_cases hc : r = p.nm
   · rw [show (r == p.nm) = true by simp [hc], cond_true, hadd, oB]
     exact L135_spec (N := N) ho hs hpX gX hM hO hC hk hi hcl hcome nk ek rest (j + 1) q U hrest (by simp at hq; omega) g
   · rw [show (r == p.nm) = false from beq_false_of_ne hc, cond_false]
     obtain ⟨L1, h1, h2⟩ := has_on (d + 4) onU (hC.grew g).tl (by omega) r
     rw [decide_eq_true (hcome r hmem hc)] at h1
     obtain ⟨bo, hbo⟩ : ∃ bo, blkOf v6 = some bo := by
      rcases hO with ⟨rfl, _⟩ | ⟨bo, rfl, _⟩
      · simp at hi
      · exact ⟨bo, rfl⟩
     have hblk := hOU.blk hbo
     obtain ⟨w, W, Lw, w1, w2, w3, w4⟩ := referrers_on (d := d) ho hpX.pl hs.fit gU hblk.2 (Nat.le_trans hM hblk.1) (hOU.lt hbo) r
     have onW := w3.on.trans onU
     have hOW := hOU.grew w3
     obtain ⟨rr, oo, LL, z1, z2, z3⟩ := hOW.tl.ix hi
     have hrr : rr = bo := by
      rcases hOW with ⟨_, rfl⟩ | ⟨r', rfl, _⟩
      · cases hbo
      · cases hbo
        have : ixP 1 (.oslice bo 0 ord.length 1) (.int .i64 (i : Int)) = bif Nat.blt i ord.length then some (V.ptr bo (0 + i * 1)) else none := rfl
        rw [this] at z1
        cases hb : Nat.blt i ord.length with
        | false => rw [hb] at z1; cases z1
        | true => rw [hb] at z1; cases z1; rfl
     have hl : ld1 (.ptr rr oo) (W.lg []) = some (sv p.nm, W.lg [⟨rr, oo, oo + 1, false⟩]) := ld1_lg onW (show ld1 (.ptr rr oo) W = _ from z2.ld1 onW z3) []
     have hrefl : (referL ps r).length < 1000 := by
      have h3 : (referL ps r).length ≤ (sortB (names (refsOf ps))).length := List.length_filter_le _ _
      rw [(sortB_perm _).length_eq, hs.refs] at h3
      unfold names at h3
      rw [List.length_map, hs.len] at h3
      have := hs.n14
      omega
     obtain ⟨L3, m1, m2⟩ := has_on (d + 4) onW w2.tl (by omega) p.nm
     rw [decide_eq_true (mem_referL hs hpm hmem hc)] at m1
     have hprs : pairsOk [[], [], (U.lg L1).log, [], [], [], [], (W.lg Lw).log, [], [], [], (W.lg [⟨rr, oo, oo + 1, false⟩]).log, (W.lg L3).log, [], []] [(7, [11])] = true := by
      refine pairs_one (b := bo) w4 (fun e he => ?_) rfl
      have he' : e ∈ [(⟨rr, oo, oo + 1, false⟩ : LE)] := he
      rw [List.mem_singleton.1 he']; exact ⟨rfl, hrr⟩
     obtain ⟨U', u1, u2, u3, u4⟩ := relog_any onU W [] [[], [], (U.lg L1).log, [], [], [], [], (W.lg Lw).log, [], [], [], (W.lg [⟨rr, oo, oo + 1, false⟩]).log, (W.lg L3).log, [], []]
     have gU' : Grew (fun _ => False) S U' := Grew.same (g.trans w3) u2 u3 (u4.trans onW.symm)
     obtain ⟨T, t1, t2⟩ := L135_spec (d := d) (N := N) ho hs hpX gX hM hO hC hk hi hcl hcome nk ek rest (j + 1) q U' hrest (by simp at hq; omega) gU'
     refine ⟨T, ?_, t2⟩
     simp only [ons, lglg]
     rw [h1, callD_ret, unV_not, oB, Bool.not_true]
     simp only [gFF, oB, cond_true, ons, lglg]
     rw [w1, callD_ret]
     simp only [ons, lglg]
     rw [z1, oB, hl, oB]
     simp only [ons, lglg]
     rw [m1, callD_ret, unV_not, Bool.not_true]
     simp only [oB, pickV_bool, cond_false, ons, lglg]
     rw [endP_of hprs, u1, ifK_bool, cond_false, hadd, oB, t1]
theorem R83_cond {self : EV} {S : St} {v3 v6 v7 v8 p : V} {k n : Nat} (hix : ixP 1 v6 v8 = some p) (hld : ld1 p S = some (sv (ltr k), S)) (h3 : ∀ U, lnS v3 U = some (.int .i64 (n : Int), U)) (hk : k < n) (hn : n < 90) (h13 : self.f 13 [v7, sv (ltr k)] S = some (.ret (.bool false), S)) (K : V → St → Rs) :
((ixP 1 v6 v8).bind fun t94 =>
(ld1 t94 S).bind fun p95 =>
(ixS p95.1 (.int .i64 0)).bind fun t96 =>
(cvI .i64 t96 p95.2).bind fun p97 =>
(binV E0 .sub 3 false true p97.1 (.int .i64 97)).bind fun t98 =>
(ixP 1 v6 v8).bind fun t102 =>
(ld1 t102 p97.2).bind fun p103 =>
(lnStr p103.1 p103.2).bind fun p104 =>
(binV E0 .neq 3 false true p104.1 (.int .i64 1)).bind fun t105 =>
(guardV false t105).bind fun g107 => (bif g107 then some t98 else some (.tuple [])).bind fun t107 =>
(guardV false t105).bind fun g108 => (bif g108 then binV E0 .lss 3 false true t107 (.int .i64 0) else some (.tuple [])).bind fun t108 =>
(pickV t105 (some (.bool true)) (some t108)).bind fun t109 =>
(guardV false t109).bind fun g111 => (bif g111 then some t98 else some (.tuple [])).bind fun t111 =>
(guardV false t109).bind fun g112 => (bif g112 then some v3 else some (.tuple [])).bind fun t112 =>
(guardV false t109).bind fun g113 => (bif g113 then lnS t112 p104.2 else some (.tuple [], p104.2)).bind fun p113 =>
(guardV false t109).bind fun g114 => (bif g114 then binV E0 .geq 3 false false t111 p113.1 else some (.tuple [])).bind fun t114 =>
(pickV t109 (some (.bool true)) (some t114)).bind fun t115 =>
(guardV false t115).bind fun g117 => (bif g117 then some v7 else some (.tuple [])).bind fun t117 =>
(guardV false t115).bind fun g118 => (bif g118 then some v6 else some (.tuple [])).bind fun t118 =>
(guardV false t115).bind fun g119 => (bif g119 then some v8 else some (.tuple [])).bind fun t119 =>
(guardV false t115).bind fun g120 => (bif g120 then ixP 1 t118 t119 else some (.tuple [])).bind fun t120 =>
(guardV false t115).bind fun g121 => (bif g121 then ld1 t120 p113.2 else some (.tuple [], p113.2)).bind fun p121 =>
(guardV false t115).bind fun g122 => callP (bif g122 then self.f 13 [t117, p121.1] p121.2 else some (.ret (.tuple []), p121.2)) fun t122 S122 =>
(pickV t115 (some (.bool true)) (some t122)).bind fun t123 =>
ifK t123 (
some (.ret (.bool false), S122)) (
K t98 S122)) = K (.int .i64 (k : Int)) S := by
 have hb : ixS (sv (ltr k)) (.int .i64 0) = some (.int .u8 ((97 + k : Nat) : Int)) := by
  have := ixS_sv (ltr k) .i64 0 (by show 0 < 1; omega)
  rw [show ((0 : Nat) : Int) = 0 from rfl] at this
  rw [this]
  show some (V.int .u8 ((UInt8.ofNat (97 + k)).toNat : Int)) = _
  rw [ltr_nat (by omega)]
 have hs : binV E0 .sub 3 false true (.int .i64 ((97 + k : Nat) : Int)) (.int .i64 97) = some (.int .i64 (k : Int)) := by
  rw [binV_ii, intsV_sub, wrap_i64 (by omega) (by omega)]
  congr 2; omega
 have hlt : binV E0 .lss 3 false true (.int .i64 (k : Int)) (.int .i64 0) = some (.bool false) := by
  rw [binV_ii, intsV_lss, decide_eq_false (by omega)]
 have hge : binV E0 .geq 3 false false (.int .i64 (k : Int)) (.int .i64 (n : Int)) = some (.bool false) := by
  rw [binV_ii, intsV_geq, decide_eq_false (by omega)]
 rw [hix, oB, hld, oB]
 dsimp only
 rw [hb, oB, cvI_int, wrap_i64 (by omega) (by omega), oB]
 dsimp only
 rw [hs, oB, oB, hld, oB]
 dsimp only
 rw [lnStr_sv, oB]
 dsimp only
 rw [show binV E0 .neq 3 false true (.int .i64 ((ltr k).length : Int)) (.int .i64 1) = some (.bool false) from by rw [show (ltr k).length = 1 from rfl]; kernel_rfl, oB]
 simp only [gFF, oB, cond_true, hlt, pickV_bool, cond_false]
 rw [h3, oB]
 dsimp only
 rw [hge]
 simp only [gFF, oB, cond_true, pickV_bool, cond_false]
 rw [hix, oB, hld, oB]
 dsimp only
 rw [h13, callP_ret, ifK_bool, cond_false]
end
end Go.Proofs.Ytginkdeicmdmaaa.W
namespace Go.Proofs.Ytginkdeicmdmaaa.W
open Go.Proofs.Ytginkdeicmdmaaa.Ev Go.RowKit
section
variable {S T U X Y : St}
theorem TLo.weak {v : V} {l : List Bs} {M N : Nat} (h : TLo S v l N) (hM : M ≤ N) : TLo S v l M := by
 rcases h with h | ⟨r, h0, h1, h2, h3, h4⟩
 · exact .inl h
 · exact .inr ⟨r, h0, h1, h2, by omega, h4⟩
theorem L186_spec {m N : Nat} (ho : X.on = false) {v3 : V} {ps : List Pth} (hp : PL X v3 ps) (hl : ps.length ≤ 100) (nk : Ac → St → Rs) (ek : Nat → Ac → St → Rs) :
 ∀ (j q : Nat) (v4 : V) (U : St), j ≤ ps.length → j < q → Grew (fun _ => False) X U → PLo U v4 (ps.drop j).reverse X.next →
 ∃ v T, L6_186 (ev E0 KD m) N nk ek q v3 v4 (.int .i64 ((j : Int) - 1)) U = ek 0 (fr 170 [(3, v3), (4, v)]) T ∧ Grew (fun _ => False) X T ∧ PLo T v ps.reverse X.next
 | j, 0, v4, U, _, hq, _, _ => by omega
 | 0, q + 1, v4, U, _, _, g, hw => by
  refine ⟨v4, U, ?_, g, hw⟩
  rw [L6_186_eq, geq0, oB, decide_eq_false (by omega), ifK_bool, cond_false]
 | j + 1, q + 1, v4, U, hj, hq, g, hw => by
  have onU := g.on.trans ho
  have hjl : j < ps.length := by omega
  have hpj : ps[j]? = some ps[j] := List.getElem?_eq_getElem hjl
  have hpU := hp.grew g
  obtain ⟨r, x1, x2⟩ := hpU.ix hpj
  obtain ⟨y, W, v', V1, a1, a2, a3, a4⟩ := hw.push onU g.next (by rw [List.length_reverse, List.length_drop]; omega) (p := ps[j]) (hpU.2 _ (List.getElem_mem hjl))
  have gV : Grew (fun _ => False) X V1 := Grew.fresh g (Nat.le_refl _) (a4.mono fun z _ h => (hw.2 z h).1)
  have hdr : (ps.drop (j + 1)).reverse ++ [ps[j]] = (ps.drop j).reverse := by
   rw [List.drop_eq_getElem_cons hjl, List.reverse_cons]
  rw [hdr] at a3
  obtain ⟨v, T, t1, t2, t3⟩ := L186_spec (m := m) (N := N) ho hp hl nk ek j q v' V1 (by omega) (by omega) gV a3
  refine ⟨v, T, ?_, t2, t3⟩
  rw [show (((j + 1 : Nat) : Int) - 1) = (j : Int) by omega, L6_186_eq, geq0, oB, decide_eq_true (by omega), ifK_bool, cond_true, x1, oB, PL.all onU hpj x2, oB]
  dsimp only
  rw [a1, oB]
  dsimp only
  rw [a2, oB]
  dsimp only
  rw [binV_ii, intsV_sub, wrap_i64 (by omega) (by omega), oB]
  exact t1
theorem L83_spec {d : Nat} (ho : X.on = false) {v3 v6 : V} {ps : List Pth} {l : List Nat} {n M : Nat} (hs : Small ps true l n) (hpl : PL X v3 ps) (hpX : 0 < n → ∃ b, Rowed X v3 ps b) (gX : Grew (fun _ => False) X Y) (hM : X.next ≤ M) (hMY : M ≤ Y.next) (hO : TLo Y v6 (orderB ps) M) (nk : Ac → St → Rs) (ek : Nat → Ac → St → Rs) :
 ∀ (e i q : Nat) (v7 : V) (U : St), i + e = n → e < q → Grew (fun _ => False) Y U → TLo U v7 ((orderB ps).take i) Y.next →
 ∃ T, L6_83 (ev E0 KD (d + 5)) rounds nk ek q v3 v6 v7 (.int .i64 (i : Int)) U = ek 2 (fr 170 [(3, v3)]) T ∧ Grew (fun _ => False) Y T
 | e, i, 0, v7, U, _, hq, _, _ => by omega
 | 0, i, q + 1, v7, U, hi, hq, g, h7 => by
  refine ⟨U, ?_, g⟩
  rw [L6_83_eq, (hO.grew g).tl.len, oB]
  dsimp only
  rw [orderB_len hs, binV_ii, intsV_lss, dec_ge (by omega), oB, ifK_bool, cond_false]
 | e + 1, i, q + 1, v7, U, hi, hq, g, h7 => by
  have gU := gX.trans g
  have onU := gU.on.trans ho
  have h14 := hs.n14
  have hin : i < n := by omega
  obtain ⟨b, hb⟩ := hpX (by omega)
  have hol := orderB_len hs
  have hai : (orderB ps)[i]? = some (orderB ps)[i] := List.getElem?_eq_getElem (by omega)
  obtain ⟨k, p, k1, k2, k3, k4, k5, k6⟩ := order_get hs hai
  have hOU := hO.grew g
  obtain ⟨y, y1, y2⟩ := hOU.tl.ld onU hai
  have htl : ((orderB ps).take i).length < 1000 := by rw [List.length_take]; omega
  have h13 := has_run (d + 4) onU h7.tl (by omega) (orderB ps)[i]
  rw [decide_eq_false k5, k2] at h13
  rw [k2] at y2
  have hai' : (orderB ps)[i]? = some p.nm := by rw [hai, k4]
  obtain ⟨T, t1, t2⟩ := L135_spec (d := d) (N := rounds) ho hs hb gU hM hOU (h7.weak hMY) k3 hai' htl (fun r hr hne => k6 r hr (by rw [← k4]; exact hne))
   (R6_125 (ev E0 KD (d + 5)) rounds (R6_88 (ev E0 KD (d + 5)) rounds (N6_83 (ev E0 KD (d + 5)) rounds nk ek q) ek) (exB 3 (R6_88 (ev E0 KD (d + 5)) rounds (N6_83 (ev E0 KD (d + 5)) rounds nk ek q) ek) ek))
   (exB 4 (R6_125 (ev E0 KD (d + 5)) rounds (R6_88 (ev E0 KD (d + 5)) rounds (N6_83 (ev E0 KD (d + 5)) rounds nk ek q) ek) (exB 3 (R6_88 (ev E0 KD (d + 5)) rounds (N6_83 (ev E0 KD (d + 5)) rounds nk ek q) ek) ek)) (exB 3 (R6_88 (ev E0 KD (d + 5)) rounds (N6_83 (ev E0 KD (d + 5)) rounds nk ek q) ek) ek))
   p.refs 0 rounds U rfl (by have := hs.fit.refs p (List.mem_of_getElem? k3); unfold rounds; omega) (Grew.refl _ _)
  have onT := t2.on.trans onU
  have gT := g.trans t2
  have hOT := hO.grew gT
  obtain ⟨z, z1, z2⟩ := hOT.tl.ld onT hai
  obtain ⟨y0, W, v7', V1, a1, a2, a3, a4⟩ := (h7.grew t2).push onT gT.next (by omega) (orderB ps)[i]
  obtain ⟨E, e1, e2⟩ := L83_spec (d := d) ho hs hpl hpX gX hM hMY hO nk ek e (i + 1) q v7' V1 (by omega) (by omega) (Grew.fresh gT (Nat.le_refl _) a4) (by rw [take_push (by omega)]; exact a3)
  refine ⟨E, ?_, e2⟩
  rw [L6_83_eq, hOU.tl.len, oB]
  dsimp only
  rw [hol, binV_ii, intsV_lss, dec_lt hin, oB, ifK_bool, cond_true]
  refine (R83_cond (k := k) (n := n) y1 y2 (fun V => by rw [hpl.len, hs.len]) k1 (by omega) h13 _).trans ?_
  rw [show (V.int .i64 0) = .int .i64 ((0 : Nat) : Int) from rfl, t1, exB_same, R6_125_eq, z1, oB, z2, oB]
  dsimp only
  rw [a1, oB]
  dsimp only
  rw [a2, oB, R6_88_eq, binV_ii, intsV_add, wrap_succ (by omega), oB, N6_83_eq]
  exact e1
theorem L49c_spec {m N : Nat} (ho : S.on = false) {v3 v12 : V} {ps : List Pth} {b i : Nat} {p : Pth} (hp : Rowed S v3 ps b) (hi : ps[i]? = some p) (hrl : p.refs.length < 1000) (nk : Ac → St → Rs) (ek : Nat → Ac → St → Rs) :
 ∀ (rest : List Bs) (j q c : Nat), p.refs.drop j = rest → rest.length < q → c + rest.length < 1000000 →
 L6_49 (ev E0 KD m) N nk ek q v3 v12 (.int .i64 (c : Int)) (.int .i64 (i : Int)) (.int .i64 (j : Int)) S = ek 8 (fr 170 [(3, v3), (12, v12), (13, .int .i64 ((c + (rest.filter fun r => !(r == p.nm)).length : Nat) : Int)), (14, .int .i64 (i : Int))]) S
 | rest, j, 0, c, _, hq, _ => by omega
 | rest, j, q + 1, c, hj, hq, hc => by
  have hil : i < ps.length := (List.getElem?_eq_some_iff.1 hi).1
  have hrv : ld1 (.ptr b (i * 4 + 1)) S = some (p.rv, S) := PL.refs ho hi (.of hp.row)
  have hT := hp.pl.2 p (List.mem_of_getElem? hi)
  rw [L6_49_eq, hp.ix hil, oB, faPg, oB, hrv, oB]
  dsimp only
  rw [hT.len, oB]
  dsimp only
  rw [binV_ii, intsV_lss]
  cases rest with
  | nil =>
   rw [dec_ge (drop_end hj), oB, ifK_bool, cond_false]
   rfl
  | cons r rest =>
   obtain ⟨hlt, hf, hrest, hmem⟩ := drop_at hj
   have hl1 : ld1 (.ptr b (i * 4 + 1)) (S.lg []) = some (p.rv, S.lg [⟨b, i * 4 + 1, i * 4 + 1 + 1, false⟩]) := ld1_lg ho hrv []
   have hl0 : ld1 (.ptr b (i * 4 + 0)) (S.lg []) = some (sv p.nm, S.lg [⟨b, i * 4 + 0, i * 4 + 0 + 1, false⟩]) := ld1_lg ho (PL.name ho hi (.of hp.row)) []
   obtain ⟨x, rr, oo, x1, x2⟩ := hT.ldOn ho (show p.refs[j]? = some r by rw [List.getElem?_eq_getElem hlt, hf]) []
   have hadd : ∀ t : Nat, t < 2000000 → binV E0 .add 3 false true (.int .i64 (t : Int)) (.int .i64 1) = some (.int .i64 ((t + 1 : Nat) : Int)) := fun t ht => by
    rw [binV_ii, intsV_add, wrap_succ (by omega)]
   rw [dec_lt hlt, oB, ifK_bool, cond_true, oB, faPg, oB]
   simp only [ons, lglg]
   rw [hl1, oB]
   simp only [ons, lglg]
   rw [x1, oB, x2, oB]
   simp only [ons, lglg]
   rw [oB, faPg, oB, hl0, oB]
   simp only [ons, lglg]
   rw [neStr, oB, endP_rd (rds_of ?_), relog_same ho ho rfl, ifK_bool]
   · by_cases he : r = p.nm
     · rw [show (r == p.nm) = true by simp [he], Bool.not_true, cond_false, hadd j (by omega), oB, L49c_spec (m := m) (N := N) ho hp hi hrl nk ek rest (j + 1) q c hrest (by simp at hq; omega) (by rw [List.length_cons] at hc; omega), List.filter_cons_of_neg (by simp [he])]
     · rw [show (r == p.nm) = false from beq_false_of_ne he, Bool.not_false, cond_true, hadd c (by omega), oB, hadd j (by omega), oB]
       rw [L49c_spec (m := m) (N := N) ho hp hi hrl nk ek rest (j + 1) q (c + 1) hrest (by simp at hq; omega) (by rw [List.length_cons] at hc; omega), List.filter_cons_of_pos (by simp [he]), List.length_cons]
       rw [show c + 1 + (rest.filter fun r => !(r == p.nm)).length = c + ((rest.filter fun r => !(r == p.nm)).length + 1) by omega]
   · intro L hL e he
     simp only [List.mem_cons, List.not_mem_nil, or_false] at hL
     rcases hL with rfl | rfl | rfl | rfl | rfl | rfl | rfl | rfl | rfl | rfl | rfl | rfl | rfl | rfl <;> first | (cases he; done) | (cases List.mem_singleton.1 he; rfl)
theorem addInts {a c : Nat} (h : a + c < 4611686018427387904) : binV E0 .add 3 false false (.int .i64 (a : Int)) (.int .i64 (c : Int)) = some (.int .i64 ((a + c : Nat) : Int)) := by
 rw [binV_ii, intsV_add, wrap_i64 (by omega) (by omega)]
 rfl
theorem L28c_spec {d : Nat} (ho : X.on = false) {v3 : V} {ps : List Pth} {l : List Nat} {n : Nat} (hs : Small ps true l n) (hpl : PL X v3 ps) (hpX : 0 < n → ∃ b, Rowed X v3 ps b) (nk : Ac → St → Rs) (ek : Nat → Ac → St → Rs) :
 ∀ (e i q : Nat) (U : St), i + e = n → e < q → Grew (fun _ => False) X U → 
 ∃ T, L6_28 (ev E0 KD (d + 5)) rounds nk ek q v3 (.int .i64 ((((ps.take i).map fun p => (referL ps p.nm).length).sum : Nat) : Int)) (.int .i64 ((((ps.take i).map own).sum : Nat) : Int)) (.int .i64 (i : Int)) U = ek 6 (fr 170 [(12, .int .i64 (((ps.map fun p => (referL ps p.nm).length).sum : Nat) : Int)), (13, .int .i64 (((ps.map own).sum : Nat) : Int))]) T
 | e, i, 0, U, _, hq, _ => by omega
 | 0, i, q + 1, U, hi, hq, g => by
  have hlen := hs.len
  refine ⟨U, ?_⟩
  rw [L6_28_eq, (hpl.grew g).len, oB]
  dsimp only
  rw [binV_ii, intsV_lss, dec_ge (by omega), oB, ifK_bool, cond_false, List.take_of_length_le (by omega)]
 | e + 1, i, q + 1, U, hi, hq, g => by
  have hlen := hs.len
  have h14 := hs.n14
  have onU := g.on.trans ho
  obtain ⟨b, hb⟩ := hpX (by omega)
  have hil : i < ps.length := by omega
  have hpi : ps[i]? = some ps[i] := List.getElem?_eq_getElem hil
  have hpm := List.getElem_mem hil
  have hbU := hb.grew g
  have hnm : ld1 (.ptr b (i * 4 + 0)) U = some (sv ps[i].nm, U) := PL.name onU hpi (.of hbU.row)
  obtain ⟨w, W, w1, w2, w3⟩ := referrers_run (d := d) onU hbU.pl hs.fit ps[i].nm
  have onW := w3.on.trans onU
  have hown : ∀ p ∈ ps, own p ≤ 14 := fun p hp => by
   obtain ⟨j, j1, _, j3⟩ := hs.mem hp
   unfold own
   refine Nat.le_trans (List.length_filter_le _ _) ?_
   rw [j3]
   exact Nat.le_trans (refsS_len j1) h14
  have hrf : ∀ p ∈ ps, (referL ps p.nm).length ≤ 14 := fun p hp => by
   rw [refer_len hs hp]
   exact Nat.le_trans (List.length_filter_le _ _) (by omega)
  have bnd : ∀ (f : Pth → Nat) (qs : List Pth), (∀ p ∈ qs, f p ≤ 14) → (qs.map f).sum ≤ 14 * qs.length := fun f qs => by
   induction qs with
   | nil => intro _; simp
   | cons a qs ih =>
    intro h
    have h1 := h a (List.mem_cons_self ..)
    have h2 := ih fun p hp => h p (List.mem_cons_of_mem _ hp)
    rw [List.map_cons, List.sum_cons, List.length_cons]
    omega
  have hsub : ∀ p ∈ ps.take i, p ∈ ps := fun p hp => List.mem_of_mem_take hp
  have b1 := bnd (fun p => (referL ps p.nm).length) (ps.take i) fun p hp => hrf p (hsub p hp)
  have b2 := bnd own (ps.take i) fun p hp => hown p (hsub p hp)
  rw [List.length_take] at b1 b2
  have hrfi := hrf _ hpm
  have hrl := hs.fit.refs _ hpm
  have h49 := L49c_spec (m := d + 5) (N := rounds) (v12 := .int .i64 (((((ps.take i).map fun p => (referL ps p.nm).length).sum + (referL ps ps[i].nm).length : Nat)) : Int)) onW (hbU.grew w3) hpi hrl
   (R6_33 (ev E0 KD (d + 5)) rounds (N6_28 (ev E0 KD (d + 5)) rounds nk ek q) ek) (exB 8 (R6_33 (ev E0 KD (d + 5)) rounds (N6_28 (ev E0 KD (d + 5)) rounds nk ek q) ek) (exB 7 (R6_33 (ev E0 KD (d + 5)) rounds (N6_28 (ev E0 KD (d + 5)) rounds nk ek q) ek) ek)) ps[i].refs 0 rounds (((ps.take i).map own).sum) rfl (by unfold rounds; omega) (by omega)
  obtain ⟨T, t1⟩ := L28c_spec (d := d) ho hs hpl hpX nk ek e (i + 1) q W (by omega) (by omega) (g.trans w3)
  rw [take_push hil, List.map_append, List.map_append, List.sum_append, List.sum_append] at t1
  simp only [List.map_cons, List.map_nil, List.sum_cons, List.sum_nil, Nat.add_zero] at t1
  refine ⟨T, ?_⟩
  rw [L6_28_eq, (hpl.grew g).len, oB]
  dsimp only
  rw [binV_ii, intsV_lss, dec_lt hil, oB, ifK_bool, cond_true, hbU.ix hil, oB, faPg, oB, hnm, oB]
  dsimp only
  rw [w1, callP_ret, w2.tl.len, oB]
  dsimp only
  rw [addInts (by omega), oB, show (V.int .i64 0) = .int .i64 ((0 : Nat) : Int) from rfl, h49, exB_same, R6_33_eq, binV_ii, intsV_add, wrap_succ (by omega), oB, N6_28_eq]
  exact t1
theorem subOne (n : Nat) (h : n < 1000) : binV E0 .sub 3 false true (.int .i64 (n : Int)) (.int .i64 1) = some (.int .i64 ((n : Int) - 1)) := by
 rw [binV_ii, intsV_sub, wrap_i64 (by omega) (by omega)]
theorem eqIntSame (a : Nat) : binV E0 .eql 3 false false (.int .i64 (a : Int)) (.int .i64 (a : Int)) = some (.bool true) := by
 rw [binV_ii, intsV_eql, decide_eq_true rfl]
theorem orderl_run (ho : S.on = false) {v0 : V} {l : List Nat} (hl : U16V v0 l) : ∃ U, (ev E0 KD 27).f 6 [v0] S = some (.ret (.bool true), U) := by
 obtain ⟨v3, X, ps, a1, a2, a3, a4⟩ := small_run 25 ho hl true
 have onX := a2.on.trans ho
 have hs : Small ps true l (min l.length 14) := ⟨a4, by omega⟩
 have hlen := hs.len
 have h14 := hs.n14
 have hp := a3.1
 have hpX : 0 < min l.length 14 → ∃ b, Rowed X v3 ps b := fun h => rowed_of a3 (by omega)
 obtain ⟨v4, Z, b1, b2, b3⟩ := L186_spec (m := 26) (N := rounds) onX hp (by omega) (R6_5 (ev E0 KD 26) rounds (finN E0 (ev E0 KD 26) Try.f6) noEx) (exB 0 (R6_5 (ev E0 KD 26) rounds (finN E0 (ev E0 KD 26) Try.f6) noEx) noEx) ps.length rounds .nilslice X (Nat.le_refl _) (by unfold rounds; omega) (Grew.refl _ _) (by rw [List.drop_of_length_le (Nat.le_refl _)]; exact .nil)
 have onZ := b2.on.trans onX
 have hFb : Fit ps.reverse := ⟨by rw [List.length_reverse]; exact hs.fit.len, fun p hp => hs.fit.nm p (List.mem_reverse.1 hp), fun p hp => hs.fit.refs p (List.mem_reverse.1 hp)⟩
 obtain ⟨v6, Y, c1, c2, c3⟩ := order_run (n := 20) onZ b3.1 hFb
 have onY := c3.on.trans onZ
 have gY := b2.trans c3
 obtain ⟨T, d1, d2⟩ := L83_spec (d := 21) (Y := Y) onX hs hp hpX gY b2.next c3.next c2 (R6_16 (ev E0 KD 26) rounds (fun a s => projK [2] a fun a => finN E0 (ev E0 KD 26) Try.f6 a s) noEx) (exB 2 (R6_16 (ev E0 KD 26) rounds (fun a s => projK [2] a fun a => finN E0 (ev E0 KD 26) Try.f6 a s) noEx) noEx) (min l.length 14) 0 rounds .nilslice Y (Nat.zero_add _) (by unfold rounds; omega) (Grew.refl _ _) .nil
 have gT := gY.trans d2
 obtain ⟨E, e1⟩ := L28c_spec (d := 21) onX hs hp hpX (R6_19 (ev E0 KD 26) rounds (fun a s => projK [2] a fun a => (fun a s => projK [2] a fun a => finN E0 (ev E0 KD 26) Try.f6 a s) a s) noEx) (exB 6 (R6_19 (ev E0 KD 26) rounds (fun a s => projK [2] a fun a => (fun a s => projK [2] a fun a => finN E0 (ev E0 KD 26) Try.f6 a s) a s) noEx) noEx) (min l.length 14) 0 rounds T (Nat.zero_add _) (by unfold rounds; omega) gT
 refine ⟨E, rd6 ?_⟩
 show F6 (ev E0 KD 26) rounds v0 S = _
 rw [F6_eq, a1, callP_ret, hp.len, oB]
 dsimp only
 rw [subOne _ (by omega), oB, b1, exB_same, R6_5_eq, c1, callP_ret, c2.tl.len, oB]
 dsimp only
 rw [hp.len, oB]
 dsimp only
 rw [show (orderL (refsOf ps.reverse) (refsOf ps.reverse).length (refsOf ps.reverse)).length = ps.length from by rw [hlen]; exact orderB_len hs, neqInt, oB, decide_eq_true rfl, Bool.not_true, ifK_bool, cond_false, show (V.int .i64 0) = .int .i64 ((0 : Nat) : Int) from rfl, d1, exB_same, R6_16_eq]
 refine Eq.trans e1 ?_
 rw [exB_same, R6_19_eq, both_sides hs, eqIntSame, oB]
 simp only [gTT, oB, cond_true]
 rw [works_run, callP_ret, pickV_bool, cond_true, oB]
end
theorem order_calls (W : World) {v0 : V} {cv : Value} {l : List Nat} (hv : VRel (frz W) v0 cv) (h : U16V v0 l) : Calls Try.prog 6 #[cv] W fun e w' => e = .returned (.bool true) ∧ Below W.heap.size W w' := by
 obtain ⟨U, hl⟩ := orderl_run (S := s0) rfl h
 refine ((ev_sim E0_ok okD 27).call (base0 W) _ s0 W 6 [v0] #[cv] _ U (relF W) (.cons hv .nil) hl).mono fun ce w' hce => ?_
 obtain ⟨ρ', cv, rfl, _, hv, hR⟩ := hce
 cases hv
 exact ⟨rfl, below_of_rel hR⟩
end Go.Proofs.Ytginkdeicmdmaaa.W
