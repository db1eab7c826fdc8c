/-
  WHAT THE FUNCTIONS COME TO: each is read by the evaluator, printed, and told as a function of data, part 6 of 7 (no condition).
-/
import Derived.Test.YtachpdpmoihjmaaW5
namespace Go.Proofs.Ytachpdpmoihjmaa.W
open Go.Proofs.Ytachpdpmoihjmaa.Ev
section
variable {S : St} {b r : Nat} {t : List Sp} {T : List UInt8}
theorem zero30 : zeroT E0 30 = some (.agg 2 (tr2 0 0)) := by kernel_rfl
theorem make27 (ho : S.on = false) : ∃ U, makeSliceK E0 27 (.int .i64 1) (.int .i64 1) S = some (.slice S.next 0 1 1, U) ∧ RowAt U S.next 30 2 [tr2 0 0] ∧ Grew (fun _ => False) S U ∧ U.next = S.next + 1 := by
 have hr := rowAt_makeRow (s := S) (e := 30) (z := 2) (n := 1) (v := .agg 2 (tr2 0 0)) ho (by decide) (by unfold big; omega)
 refine ⟨makeRow S 30 2 (.agg 2 (tr2 0 0)) 1, ?_, hr, grew_nw ho _ _, rfl⟩
 unfold makeSliceK
 rw [show sliceElem E0 27 = some (30, 2, 16) by kernel_rfl, oB, show natOf (.int .i64 1) = some 1 from rfl, oB, oB]
 unfold makeAtK
 rw [show Nat.ble 1 1 = true from rfl, blt_true.2 (show 1 * (16 + 2 + 1) < maxCells by unfold maxCells; omega), Bool.and_self, cond_true, zero30, oB]
 rfl
theorem ixP2_0 (x : Nat) : ixP 2 (.slice x 0 1 1) (.int .i64 0) = some (.ptr x 0) := rfl
theorem row2_st (ho : S.on = false) {x : Nat} {tr tr' : Tr V} (h : RowAt S x 30 2 [tr]) : ∃ U, stP 2 (.ptr x 0) (.agg 2 tr') S = some (.tuple [], U) ∧ RowAt U x 30 2 [tr'] ∧ Grew (fun y => y = x) S U ∧ U.next = S.next := by
 obtain ⟨U, a1, a2, a3, a4⟩ := h.stK ho (i := 0) (by simp) tr'
 rw [Nat.zero_mul] at a1
 refine ⟨U, ?_, a2, a3, a4⟩
 show vu (stK S x 0 2 tr') = _
 rw [a1]; rfl
theorem places_run {K : FuncId → Option KF} (h15 : K 15 = none) (h22 : K 22 = none) (h29 : K 29 = none) (m : Nat) {s0 s1 : Nat} (hT : T.length ≤ 100) (ht : t.length ≤ 100) (hle : s0 ≤ s1) (hs : s1 ≤ T.length) (h : Rx S b r t) :
 ∃ U x, (ev E0 K (m + 3)).f 15 [.ptr b 0, sv T, .agg 2 (tr2 s0 s1)] S = some (.ret (.slice x 0 1 1), U) ∧ RowAt U x 30 2 [tr2 s0 s1] ∧ x < U.next ∧ Grew (fun z => S.next ≤ z) S U := by
 have ho := h.on
 have hb := h.hb
 have hr := h.hr
 obtain ⟨S1, a1, a2, a3, a4⟩ := box_ag2 ho (tr2 s0 s1)
 have on1 := a3.on.trans ho
 obtain ⟨S2, b1, b2, b3, b4⟩ := make27 on1
 have on2 := b3.on.trans on1
 obtain ⟨S3, c1, c2, c3, c4⟩ := row2_st on2 (tr' := tr2 (-1) (-1)) b2
 have on3 := c3.on.trans on2
 have g13 : Grew (fun _ => False) S1 S3 := b3.own (Nat.le_refl _) c3
 have a23 := a2.grew (by omega) (fun h => h) g13
 obtain ⟨S4, d1, d2, d3, d4⟩ := row2_st on3 (tr' := tr2 s0 s1) c2
 have on4 := d3.on.trans on3
 have g14 : Grew (fun _ => False) S1 S4 := g13.own (Nat.le_refl _) d3
 have g04 := a3.trans g14
 have a24 := a2.grew (by omega) (fun h => h) g14
 have h4 := h.grew (fun h => h) (fun h => h) g04
 obtain ⟨S5, v5, e1, e2⟩ := reach_run h22 h29 m hT ht hle hs h4
 have on5 := e2.on.trans on4
 have h5 := h4.grew (by omega) (by omega) e2
 have a25 := a24.grew (by omega) (by omega) e2
 have d5 := d2.grew (by omega) (by omega) e2
 have q0 := a25.ld1 on5 big2 (i := 0) (v := .int .i64 (s0 : Int)) (by decide) rfl
 obtain ⟨U, f1, f2⟩ := L15_spec (ev E0 K (m + 2)) rounds (R15_23 (ev E0 K (m + 2)) rounds (fun a s => projK [6] a fun a => (finN E0 (ev E0 K (m + 2)) Try.f15) a s) noEx) (exB 2 (R15_23 (ev E0 K (m + 2)) rounds (fun a s => projK [6] a fun a => (finN E0 (ev E0 K (m + 2)) Try.f15) a s) noEx) noEx) (.ptr S.next 0) (.slice S1.next 0 1 1) v5 ht t.length 0 s0 rounds S5 h5 (by omega) (by omega) (by unfold rounds; omega)
 have gU : Grew (fun z => S.next ≤ z) S U := ((g04.mono fun _ _ h => h.elim).trans (e2.mono fun z _ hz => by omega)).trans (f2.mono fun _ _ h => h.elim)
 refine ⟨U, S1.next, ev_read (c := C15) (d := B15) (by kernel_rfl) (by kernel_rfl) (annot_isOf C15 _ (by kernel_rfl)) h15 (?_ : F15 (ev E0 K (m + 2)) rounds (.ptr b 0) (sv T) (.agg 2 (tr2 s0 s1)) S = _), d5.grew (by have := e2.next; omega) (fun h => h) f2, by have := e2.next; have := f2.next; omega, gU⟩
 rw [F15_eq, a1, oB]
 dsimp only
 rw [nilP, oB, faPg, oB, Nat.zero_add, (h.grew (fun h => h) (fun h => h) a3).l1, oB]
 dsimp only
 rw [binV_ii, intsV_add, show IntKind.i64.wrap (0 + 1) = 1 from rfl, oB, b1, oB]
 dsimp only
 rw [show lnS (.slice S1.next 0 1 1) S2 = some (.int .i64 1, S2) from rfl, oB]
 dsimp only
 rw [show rounds = rounds - 2 + 1 + 1 by unfold rounds; omega, L15_102_eq, binV_ii, intsV_lss, show decide ((0 : Int) < 1) = true from rfl, oB, ifK_bool, cond_true, build_30, oB, ixP2_0, oB, c1, oB]
 dsimp only
 rw [binV_ii, intsV_add, show IntKind.i64.wrap (0 + 1) = 1 from rfl, oB, L15_102_eq, binV_ii, intsV_lss, show decide ((1 : Int) < 1) = false from rfl, oB, ifK_bool, cond_false, exB_same, R15_9_eq, a23.ldA on3 big2, oB]
 dsimp only
 rw [ixP2_0, oB, d1, oB]
 dsimp only
 rw [a24.ldA on4 big2, oB]
 dsimp only
 rw [e1, callP_ret, show ixA 2 1 false 1 (.ptr S.next 0) (.int .i64 0) = some (.ptr S.next 0) from rfl, oB, show onS S5 = S5.lg [] from rfl, ld1_lg on5 q0, oB]
 dsimp only
 rw [show onS (S5.lg [⟨S.next, 0, 0 + 1, false⟩]) = onS S5 from rfl, relog_onS on5, show rounds - 2 + 1 + 1 = rounds by unfold rounds; omega]
 rw [show ((0 : Nat) : Int) = 0 from rfl] at f1
 refine f1.trans ?_
 rw [exB_same, R15_23_eq]
theorem nil_b (b : Nat) : binV E0 .eql 22 false true (.ptr b 0) .nilptr = some (.bool false) := rfl
theorem find_run {K : FuncId → Option KF} (h8 : K 8 = none) (h14 : K 14 = none) (h15 : K 15 = none) (h20 : K 20 = none) (h21 : K 21 = none) (h22 : K 22 = none) (h28 : K 28 = none) (h29 : K 29 = none) (m : Nat) {fr_ : Nat} (hT : T.length ≤ 100) (ht : t.length ≤ 100) (hf : fr_ ≤ T.length) (hres : whole t T fr_ = none ∨ ∃ i e : Nat, i ≤ e ∧ e ≤ T.length ∧ whole t T fr_ = some ((i : Int), (e : Int))) (h : Rx S b r t) :
 ∃ U v, (ev E0 K (m + 4)).f 8 [.ptr b 0, sv T, .int .i64 (fr_ : Int)] S = some (.ret (.tuple [v, .bool (whole t T fr_).isSome]), U) ∧ Grew (fun z => S.next ≤ z) S U ∧ ∀ p, whole t T fr_ = some p → ∃ x, v = .slice x 0 1 1 ∧ RowAt U x 30 2 [tr2 p.1 p.2] ∧ x < U.next := by
 have ho := h.on
 have hb := h.hb
 have hr := h.hr
 obtain ⟨S1, a1, a2⟩ := whole_run h14 h20 h21 h28 m hT ht hf h
 have on1 := a2.on.trans ho
 obtain ⟨b1, b2, b3⟩ := ag_new on1 30 2 (tr2 0 0)
 have on2 : (nwP 30 2 (tr2 0 0) S1).2.on = false := nw_on on1 _
 obtain ⟨S3, c1, c2, c3, c4⟩ := b1.stA on2 big2 (spT (whole t T fr_))
 have on3 := c3.on.trans on2
 have g13 : Grew (fun _ => False) S1 S3 := b2.own (Nat.le_refl _) c3
 have n1 := a2.next
 have g03 : Grew (fun z => S.next ≤ z) S S3 := a2.trans (g13.mono fun _ _ h => h.elim)
 have h3 := h.grew (by omega) (by omega) g03
 have key : ∀ {v U}, F8 (ev E0 K (m + 3)) rounds (.ptr b 0) (sv T) (.int .i64 (fr_ : Int)) S = some (.ret v, U) → (ev E0 K (m + 4)).f 8 [.ptr b 0, sv T, .int .i64 (fr_ : Int)] S = some (.ret v, U) := fun q => ev_read (c := C8) (d := B8) (by kernel_rfl) (by kernel_rfl) (annot_isOf C8 _ (by kernel_rfl)) h8 q
 have pre : F8 (ev E0 K (m + 3)) rounds (.ptr b 0) (sv T) (.int .i64 (fr_ : Int)) S = ifK (.bool (!(whole t T fr_).isSome)) (some (.ret (.tuple [.nilslice, (.bool false)]), S3)) (
(ldA 2 (.ptr S1.next 0) S3).bind fun p32 =>
callP ((ev E0 K (m + 3)).f 15 [.ptr b 0, sv T, p32.1] p32.2) fun t33 S33 =>
some (.ret (.tuple [t33, (.bool true)]), S33)) := by
  rw [F8_eq, nil_b]
  simp only [oB, guardV_f, Bool.not_false, cond_true, binV_ii, intsV_lss, show decide ((fr_ : Int) < 0) = false by rw [decide_eq_false_iff_not]; omega, pickV_bool, cond_false, lnStr_sv, intsV_gtr, show decide ((T.length : Int) < (fr_ : Int)) = false by rw [decide_eq_false_iff_not]; omega, ifK_bool]
  rw [a1, callP_ret, extractV_tuple, show ([V.agg 2 (spT (whole t T fr_)), V.bool (whole t T fr_).isSome] : List V)[0]? = some (V.agg 2 (spT (whole t T fr_))) from rfl, oB, extractV_tuple, show ([V.agg 2 (spT (whole t T fr_)), V.bool (whole t T fr_).isSome] : List V)[1]? = some (V.bool (whole t T fr_).isSome) from rfl, oB, show nwP 30 2 (Tr.ofListFrom .nil [(.int .i64 0), (.int .i64 0)] 0) S1 = nwP 30 2 (tr2 0 0) S1 from rfl, nwP_fst, c1, oB]
  dsimp only
  rw [unV_not, oB, ifK_bool]
 rcases hres with h1 | ⟨i, e, h1, h2, h4⟩
 · rw [h1] at pre ⊢
   exact ⟨S3, .nilslice, key pre, g03, fun p hp => by cases hp⟩
 · obtain ⟨U, x, d1, d2, dx, d3⟩ := places_run h15 h22 h29 m (s0 := i) (s1 := e) hT ht h1 h2 h3
   rw [h4] at pre c2 ⊢
   have n3 := g03.next
   refine ⟨U, .slice x 0 1 1, key (pre.trans ?_), g03.trans (d3.mono fun z _ hz => by omega), fun p hp => ⟨x, rfl, ?_⟩⟩
   · rw [ifK_bool, show (!(some ((i : Int), (e : Int))).isSome) = false from rfl, cond_false, c2.ldA on3 big2, oB]
     dsimp only
     rw [show spT (some ((i : Int), (e : Int))) = tr2 (i : Int) (e : Int) from rfl, d1, callP_ret]
     rfl
   · simp only [oS] at hp
     rw [← hp]
     exact ⟨d2, dx⟩
end
end Go.Proofs.Ytachpdpmoihjmaa.W
namespace Go.Proofs.Ytachpdpmoihjmaa.W
open Go.Proofs.Ytachpdpmoihjmaa.Ev
theorem nev_bool (a b : Bool) : binV E0 .neq 4 false false (.bool a) (.bool b) = some (.bool (!(a == b))) := by cases a <;> cases b <;> kernel_rfl
theorem byte_is (c v : UInt8) (n : Int) (h : n = (v.toNat : Int)) : decide ((c.toNat : Int) = n) = (c == v) := by
 subst h
 by_cases e : c = v
 · subst e; simp
 · rw [beq_false_of_ne e, decide_eq_false_iff_not]
   exact fun h => e (UInt8.toNat_inj.1 (by omega))
theorem plus_sv (a b : List UInt8) (c d : Bool) (h : a.length + b.length ≤ 100000) : binV E0 .add 9 c d (sv a) (sv b) = some (sv (a ++ b)) := by
 rw [binV_ss, strOp_add _ _ (by omega)]
theorem Stp.set {t : Tr V} {p : UInt8 → Bool} {k to : Int} (h : Stp t p k to) (c : UInt8) (q : Bool) : Stp (t.set (.bool q) c.toNat) (fun x => bif x == c then q else p x) k to := by
 have hc := c.toNat_lt
 refine ⟨fun x => ?_, ?_, ?_⟩
 · rw [Tr.get_set]
   by_cases e : x.toNat = c.toNat
   · rw [if_pos e, UInt8.toNat_inj.1 e]; simp
   · rw [if_neg e, h.has x, show (x == c) = false from beq_false_of_ne fun e' => e (by rw [e'])]; rfl
 · rw [Tr.get_set, if_neg (by omega)]; exact h.kind
 · rw [Tr.get_set, if_neg (by omega)]; exact h.to_
theorem Stp.ext {t : Tr V} {p q : UInt8 → Bool} {k to : Int} (h : Stp t p k to) (e : ∀ c, p c = q c) : Stp t q k to := ⟨fun c => by rw [h.has, e], h.kind, h.to_⟩
theorem nat_u8 {n : Nat} (h : n < 256) : (UInt8.ofNat n).toNat = n := by rw [UInt8.toNat_ofNat']; omega
section
variable {S : St}
theorem set_st (ho : S.on = false) {x : Nat} {tr : Tr V} {p : UInt8 → Bool} (h : AgAt S x 50 258 tr) (hs : Stp tr p 0 0) (c : UInt8) (q : Bool) : ∃ U tr', stP 1 (.ptr x c.toNat) (.bool q) S = some (.tuple [], U) ∧ AgAt U x 50 258 tr' ∧ Stp tr' (fun y => bif y == c then q else p y) 0 0 ∧ Grew (fun y => y = x) S U ∧ U.next = S.next := by
 have hc := c.toNat_lt
 obtain ⟨U, a1, a2, a3, a4⟩ := h.st1 ho big258 (by omega) (i := c.toNat) (by omega) (.bool q) rfl rfl rfl
 exact ⟨U, _, a1, a2, hs.set c q, a3, a4⟩
theorem set_ix (x : Nat) (c : UInt8) (k : IntKind) : ixA 256 1 false 1 (.ptr x 0) (.int k (c.toNat : Int)) = some (.ptr x c.toNat) := by
 rw [ixA_ptr 256 1 false 1 k c.toNat_lt, Nat.zero_add, Nat.mul_one]
theorem L24_spec (self : EV) (N : Nat) (nk : Ac → St → Rs) (ek : Nat → Ac → St → Rs) (v0 : V) (x : Nat) :
 ∀ (d n f : Nat) (tr : Tr V) (p : UInt8 → Bool) (S : St), S.on = false → AgAt S x 50 258 tr → Stp tr p 0 0 → d + n = 256 → d < f →
 ∃ U tr', L24_10 self N nk ek f v0 (.ptr x 0) (.int .i64 (n : Int)) S = ek 0 (fr 17 [(0, v0), (3, .ptr x 0)]) U ∧ AgAt U x 50 258 tr' ∧ Stp tr' (fun c => decide (n ≤ c.toNat) || p c) 0 0 ∧ Grew (fun y => y = x) S U
 | d, n, 0, tr, p, S, _, _, _, _, hf => by omega
 | 0, n, f + 1, tr, p, S, ho, h, hs, hn, hf => by
  refine ⟨S, tr, ?_, h, hs.ext fun c => ?_, Grew.refl _ _⟩
  · rw [L24_10_eq, binV_ii, intsV_lss, show decide ((n : Int) < 256) = false by rw [decide_eq_false_iff_not]; omega, oB, ifK_bool, cond_false]
  · have := c.toNat_lt
    rw [decide_eq_false (by omega), Bool.false_or]
 | d + 1, n, f + 1, tr, p, S, ho, h, hs, hn, hf => by
  have hb := nat_u8 (n := n) (by omega)
  obtain ⟨S1, t1, a1, a2, a3, a4, a5⟩ := set_st ho h hs (UInt8.ofNat n) true
  obtain ⟨U, t2, b1, b2, b3, b4⟩ := L24_spec self N nk ek v0 x d (n + 1) f t1 _ S1 (a4.on.trans ho) a2 a3 (by omega) (by omega)
  refine ⟨U, t2, ?_, b2, b3.ext fun c => ?_, a4.trans b4⟩
  · have hix := set_ix x (UInt8.ofNat n) .i64
    rw [hb] at hix a1
    rw [L24_10_eq, binV_ii, intsV_lss, show decide ((n : Int) < 256) = true by rw [decide_eq_true_eq]; omega, oB, ifK_bool, cond_true, faPg, oB, faPg, oB, Nat.zero_add, hix, oB, a1, oB]
    dsimp only
    rw [binV_ii, intsV_add, wrap_succ (by omega), oB, b1]
  · by_cases e : c.toNat = n
    · have : c = UInt8.ofNat n := UInt8.toNat_inj.1 (by rw [hb]; exact e)
      rw [show (c == UInt8.ofNat n) = true by rw [this]; simp, cond_true, decide_eq_true (show n ≤ c.toNat by omega)]
      simp
    · rw [show (c == UInt8.ofNat n) = false from beq_false_of_ne fun e' => e (by rw [e', hb]), cond_false]
      by_cases h1 : n + 1 ≤ c.toNat
      · rw [decide_eq_true h1, decide_eq_true (show n ≤ c.toNat by omega)]
      · rw [decide_eq_false h1, decide_eq_false (show ¬ n ≤ c.toNat by omega)]
theorem F24_z : ∃ Z : Tr V, ∀ (self : EV) (N : Nat) (x0 : V) (S : St), F24 self N x0 S =
(buildV E0 50 [(1, (.int .i64 0))]).bind fun t1 =>
(some (nwP 50 258 Z S)).bind fun p2 =>
(stP 258 p2.1 t1 p2.2).bind fun p3 =>
L24_10 self N (R24_4 self N (finN E0 self Try.f24) noEx) (exB 0 (R24_4 self N (finN E0 self Try.f24) noEx) noEx) N x0 p2.1 (.int .i64 0) p3.2 := ⟨_, fun self N x0 S => F24_eq self N x0 S⟩
variable {b N0 i : Nat} {s : List UInt8} {f : Bool} {lv : V} {acc : List (Tr V)}
theorem point_run {K : FuncId → Option KF} (h13 : K 13 = none) (h24 : K 24 = none) (m : Nat) (h : Rdr S b N0 s i f lv acc) (hl : acc.length ≤ 3000) :
 ∃ T lv' tr, (ev E0 K (m + 2)).f 24 [.ptr b 0] S = some (.ret (.bool false), T) ∧ Stp tr (fun _ => true) 0 0 ∧ Rdr T b N0 s i f lv' (acc ++ [tr]) ∧ Grew (fun x => N0 ≤ x) S T := by
 obtain ⟨Z, hZ⟩ := F24_z
 have ho := h.on
 have hlo := h.lo
 have hhi := h.hi
 obtain ⟨a1, a2, a3⟩ := ag_new ho 50 258 Z
 have on1 : (nwP 50 258 Z S).2.on = false := nw_on ho _
 obtain ⟨S2, b1, b2, b3, b4⟩ := a1.stA on1 big258 (TK 0)
 have on2 := b3.on.trans on1
 have g2 : Grew (fun _ => False) S S2 := a2.own (Nat.le_refl _) b3
 obtain ⟨S3, tr, c1, c2, c3, c4⟩ := L24_spec (ev E0 K (m + 1)) rounds (R24_4 (ev E0 K (m + 1)) rounds (finN E0 (ev E0 K (m + 1)) Try.f24) noEx) (exB 0 (R24_4 (ev E0 K (m + 1)) rounds (finN E0 (ev E0 K (m + 1)) Try.f24) noEx) noEx) (.ptr b 0) S.next 256 0 rounds (TK 0) (fun _ => false) S2 on2 b2 stp_0 rfl (by unfold rounds; omega)
 have on3 := c4.on.trans on2
 have g3 : Grew (fun _ => False) S S3 := g2.own (Nat.le_refl _) c4
 have h3 : Rdr S3 b N0 s i f lv acc := h.grew (fun _ _ _ h => h) g3
 obtain ⟨T, lv', d1, d2, d3⟩ := add_run h13 m h3 hl tr
 refine ⟨T, lv', tr, ev_read (c := C24) (d := B24) (by kernel_rfl) (by kernel_rfl) (annot_isOf C24 _ (by kernel_rfl)) h24 (?_ : F24 (ev E0 K (m + 1)) rounds (.ptr b 0) S = _), c3.ext (fun c => by simp), d2, (g3.mono fun _ _ h => h.elim).trans d3⟩
 rw [show ((0 : Nat) : Int) = 0 from rfl] at c1
 rw [hZ, build_0, oB, oB]
 rw [nwP_fst, b1, oB]
 dsimp only
 rw [c1, exB_same, R24_4_eq, c2.ldA on3 big258, oB]
 dsimp only
 rw [d1, callP_ret]
end
end Go.Proofs.Ytachpdpmoihjmaa.W
namespace Go.Proofs.Ytachpdpmoihjmaa.W
open Go.Proofs.Ytachpdpmoihjmaa.Ev
section
variable {S : St}
theorem L79q_spec (self : EV) (N : Nat) (nk : Ac → St → Rs) (ek : Nat → Ac → St → Rs) (v0 : V) (x : Nat) (nt : Bool) :
 ∀ (d n f : Nat) (tr : Tr V) (p : UInt8 → Bool) (S : St), S.on = false → AgAt S x 50 258 tr → Stp tr p 0 0 → d + n = 256 → d < f →
 ∃ U tr', L25_79 self N nk ek f v0 (.ptr x 0) (.bool nt) (.int .i64 (n : Int)) S = ek 4 (fr 151 [(0, v0), (3, .ptr x 0)]) U ∧ AgAt U x 50 258 tr' ∧ Stp tr' (fun c => bif decide (n ≤ c.toNat) then !(p c == nt) else p c) 0 0 ∧ Grew (fun y => y = x) S U
 | d, n, 0, tr, p, S, _, _, _, _, hf => by omega
 | 0, n, f + 1, tr, p, S, ho, h, hs, hn, hf => by
  refine ⟨S, tr, ?_, h, hs.ext fun c => ?_, Grew.refl _ _⟩
  · rw [L25_79_eq, binV_ii, intsV_lss, show decide ((n : Int) < 256) = false by rw [decide_eq_false_iff_not]; omega, oB, ifK_bool, cond_false]
  · have := c.toNat_lt
    rw [decide_eq_false (by omega), cond_false]
 | d + 1, n, f + 1, tr, p, S, ho, h, hs, hn, hf => by
  have hb := nat_u8 (n := n) (by omega)
  have hget := hs.has (UInt8.ofNat n)
  rw [hb] at hget
  obtain ⟨S1, t1, a1, a2, a3, a4, a5⟩ := set_st ho h hs (UInt8.ofNat n) (!(p (UInt8.ofNat n) == nt))
  obtain ⟨U, t2, b1, b2, b3, b4⟩ := L79q_spec self N nk ek v0 x nt d (n + 1) f t1 _ S1 (a4.on.trans ho) a2 a3 (by omega) (by omega)
  refine ⟨U, t2, ?_, b2, b3.ext fun c => ?_, a4.trans b4⟩
  · have hix := set_ix x (UInt8.ofNat n) .i64
    rw [hb] at hix a1
    rw [L25_79_eq, binV_ii, intsV_lss, show decide ((n : Int) < 256) = true by rw [decide_eq_true_eq]; omega, oB, ifK_bool, cond_true, faPg, oB, faPg, oB, Nat.zero_add, hix, oB, h.ld1 ho big258 (by omega) hget, oB]
    dsimp only
    rw [nev_bool, oB, oB, faPg, oB, Nat.zero_add, hix, oB, a1, oB]
    dsimp only
    rw [binV_ii, intsV_add, wrap_succ (by omega), oB, b1]
  · by_cases e : c.toNat = n
    · have : c = UInt8.ofNat n := UInt8.toNat_inj.1 (by rw [hb]; exact e)
      rw [decide_eq_false (show ¬ n + 1 ≤ c.toNat by omega), cond_false, show (c == UInt8.ofNat n) = true by rw [this]; simp, cond_true, decide_eq_true (show n ≤ c.toNat by omega), cond_true, this]
    · rw [show (c == UInt8.ofNat n) = false from beq_false_of_ne fun e' => e (by rw [e', hb]), cond_false]
      by_cases h1 : n + 1 ≤ c.toNat
      · rw [decide_eq_true h1, decide_eq_true (show n ≤ c.toNat by omega)]
      · rw [decide_eq_false h1, decide_eq_false (show ¬ n ≤ c.toNat by omega)]
theorem L192_spec (self : EV) (N : Nat) (nk : Ac → St → Rs) (ek : Nat → Ac → St → Rs) (v0 v4 v6 v7 : V) (ho : S.on = false) {x : Nat} {tr : Tr V} {p : UInt8 → Bool} (h : AgAt S x 50 258 tr) (hs : Stp tr p 0 0) (c : UInt8) (f : Nat) :
 ∃ U tr', L25_192 self N nk ek (f + 2) v0 (.ptr x 0) v4 v6 v7 (.int .u8 (c.toNat : Int)) (.int .i64 (c.toNat : Int)) S = ek 2 (fr 151 [(0, v0), (3, .ptr x 0), (4, v4), (6, v6), (7, v7)]) U ∧ AgAt U x 50 258 tr' ∧ Stp tr' (fun y => bif y == c then true else p y) 0 0 ∧ Grew (fun y => y = x) S U := by
 have hc := c.toNat_lt
 obtain ⟨U, tr', a1, a2, a3, a4, a5⟩ := set_st ho h hs c true
 refine ⟨U, tr', ?_, a2, a3, a4⟩
 have hw : IntKind.i64.wrap (c.toNat : Int) = (c.toNat : Int) := wrap_i64 (by omega) (by omega)
 rw [L25_192_eq, cvI_int, hw, oB]
 dsimp only
 rw [binV_ii, intsV_leq, decide_eq_true (Int.le_refl _), oB, ifK_bool, cond_true, faPg, oB, faPg, oB, Nat.zero_add, set_ix, oB, a1, oB]
 dsimp only
 rw [binV_ii, intsV_add, wrap_succ (by omega), oB, L25_192_eq, cvI_int, hw, oB]
 dsimp only
 rw [binV_ii, intsV_leq, show decide (((c.toNat + 1 : Nat) : Int) ≤ (c.toNat : Int)) = false by rw [decide_eq_false_iff_not]; omega, oB, ifK_bool, cond_false]
theorem projQ (f : Ac → St → Rs) (v0 v3 v4 v6 v7 : V) (S : St) : (fun a s => projK [0, 3, 4, 6, 7] a fun a => f a s) (fr 151 [(0, v0), (3, v3), (4, v4), (6, v6), (7, v7)]) S = f (fr 151 [(0, v0), (3, v3), (4, v4), (6, v6), (7, v7)]) S := by kernel_rfl
theorem no_minus {body : List UInt8} (hm : ∀ c ∈ body, c ≠ 45) {j : Nat} (hj : j < body.length) (hb : body.length ≤ 300) {α : Type} {K : V × St → V → Option α} :
 ((binV E0 .add 3 false true (.int .i64 (j : Int)) (.int .i64 2)).bind fun t112 =>
(lnStr (sv body) S).bind fun p114 =>
(binV E0 .lss 3 false false t112 p114.1).bind fun t115 =>
(guardV true t115).bind fun g117 => (bif g117 then some (sv body) else some (.tuple [])).bind fun t117 =>
(guardV true t115).bind fun g118 => (bif g118 then some (.int .i64 (j : Int)) else some (.tuple [])).bind fun t118 =>
(guardV true t115).bind fun g119 => (bif g119 then binV E0 .add 3 false true t118 (.int .i64 1) else some (.tuple [])).bind fun t119 =>
(guardV true t115).bind fun g120 => (bif g120 then ixS t117 t119 else some (.tuple [])).bind fun t120 =>
(guardV true t115).bind fun g121 => (bif g121 then binV E0 .eql 5 false true t120 (.int .u8 45) else some (.tuple [])).bind fun t121 =>
(pickV t115 (some t121) (some (.bool false))).bind fun t122 => K p114 t122) = K (.int .i64 (body.length : Int), S) (.bool false) := by
 rw [binV_ii, intsV_add, wrap_i64 (by omega) (by omega), oB, lnStr_sv, oB]
 dsimp only
 rw [binV_ii, intsV_lss, oB]
 by_cases h2 : j + 2 < body.length
 · have h1 : j + 1 < body.length := by omega
   have hne : body[j + 1] ≠ 45 := hm _ (List.getElem_mem h1)
   have hw := wrap_succ (i := j) (by omega)
   rw [show decide ((j : Int) + 2 < (body.length : Int)) = true by rw [decide_eq_true_eq]; omega]
   simp only [guardV_t, oB, cond_true, binV_ii, intsV_add, hw, ixS_sv body .i64 (j + 1) h1, intsV_eql, byte_is _ 45 45 rfl, beq_false_of_ne hne, pickV_bool]
 · rw [show decide ((j : Int) + 2 < (body.length : Int)) = false by rw [decide_eq_false_iff_not]; omega]
   simp only [guardV_t, oB, cond_false, pickV_bool]
theorem L98_spec (self : EV) (N : Nat) (hN : 2 ≤ N) (nk : Ac → St → Rs) (ek : Nat → Ac → St → Rs) (v0 v4 : V) {body : List UInt8} (hm : ∀ c ∈ body, c ≠ 45) (hb : body.length ≤ 300) (x : Nat) :
 ∀ (r : List UInt8) (j f : Nat) (tr : Tr V) (p : UInt8 → Bool) (S : St), S.on = false → AgAt S x 50 258 tr → Stp tr p 0 0 → body.drop j = r → r.length < f →
 ∃ U tr', L25_98 self N nk ek f v0 (.ptr x 0) v4 (sv body) (.int .i64 (j : Int)) S = ek 0 (fr 151 [(0, v0), (3, .ptr x 0), (4, v4)]) U ∧ AgAt U x 50 258 tr' ∧ Stp tr' (fun c => r.contains c || p c) 0 0 ∧ Grew (fun y => y = x) S U
 | r, j, 0, tr, p, S, _, _, _, _, hf => by omega
 | [], j, f + 1, tr, p, S, ho, h, hs, hr, hf => by
  have hge := drop_end hr
  refine ⟨S, tr, ?_, h, hs.ext fun c => by simp, Grew.refl _ _⟩
  rw [L25_98_eq, lnStr_sv, oB]
  dsimp only
  rw [binV_ii, intsV_lss, dec_ge hge, oB, ifK_bool, cond_false]
 | c :: r, j, f + 1, tr, p, S, ho, h, hs, hr, hf => by
  obtain ⟨hlt, hc, hd, _⟩ := drop_at hr
  obtain ⟨N', rfl⟩ : ∃ N', N = N' + 2 := ⟨N - 2, by omega⟩
  have hc8 := c.toNat_lt
  have hw : IntKind.i64.wrap (c.toNat : Int) = (c.toNat : Int) := wrap_i64 (by omega) (by omega)
  obtain ⟨S1, t1, a1, a2, a3, a4⟩ := L192_spec self (N' + 2) (R25_171 self (N' + 2) (fun a s => projK [0, 3, 4, 6, 7] a fun a => (R25_103 self (N' + 2) (N25_98 self (N' + 2) nk ek f) ek) a s) (exB 1 (R25_103 self (N' + 2) (N25_98 self (N' + 2) nk ek f) ek) ek)) (exB 2 (R25_171 self (N' + 2) (fun a s => projK [0, 3, 4, 6, 7] a fun a => (R25_103 self (N' + 2) (N25_98 self (N' + 2) nk ek f) ek) a s) (exB 1 (R25_103 self (N' + 2) (N25_98 self (N' + 2) nk ek f) ek) ek)) (exB 1 (R25_103 self (N' + 2) (N25_98 self (N' + 2) nk ek f) ek) ek)) v0 v4 (sv body) (.int .i64 (j : Int)) ho h hs c N'
  obtain ⟨U, t2, b1, b2, b3, b4⟩ := L98_spec self (N' + 2) hN nk ek v0 v4 hm hb x r (j + 1) f t1 _ S1 (a4.on.trans ho) a2 a3 hd (by simp at hf; omega)
  refine ⟨U, t2, ?_, b2, b3.ext fun y => ?_, a4.trans b4⟩
  · rw [L25_98_eq, lnStr_sv, oB]
    dsimp only
    rw [binV_ii, intsV_lss, dec_lt hlt, oB, ifK_bool, cond_true, ixS_sv body .i64 j hlt, hc, oB]
    refine (no_minus hm hlt hb).trans ?_
    rw [ifK_bool, cond_false, oB]
    dsimp only
    rw [cvI_int, hw, oB]
    dsimp only
    rw [a1, exB_same, R25_171_eq]
    refine (no_minus hm hlt hb).trans ?_
    rw [ifK_bool, cond_false]
    refine (projQ (R25_103 self (N' + 2) (N25_98 self (N' + 2) nk ek f) ek) _ _ _ _ _ S1).trans ?_
    rw [R25_103_eq, binV_ii, intsV_add, wrap_succ (by omega), oB, N25_98_eq, b1]
  · rw [List.contains_cons]
    cases y == c <;> simp
end
end Go.Proofs.Ytachpdpmoihjmaa.W
namespace Go.Proofs.Ytachpdpmoihjmaa.W
open Go.Proofs.Ytachpdpmoihjmaa.Ev
noncomputable def rest25 (self : EV) (N : Nat) (x0 v3 t5 : V) (S15 : St) : Rs :=
(nilCheckV x0).bind fun t18 =>
(faP 3 false 1 t18).bind fun t19 =>
(ld1 t19 (onS S15)).bind fun p20 =>
(nilCheckV x0).bind fun t22 =>
(faP 2 false 1 t22).bind fun t23 =>
(ld1 t23 (onS p20.2)).bind fun p24 =>
(lnStr p24.1 (onS p24.2)).bind fun p25 =>
(binV E0 .lss 3 false false p20.1 p25.1).bind fun t26 =>
endP [(3, [7, 8])] S15 [[], [], [], p20.2.log, [], [], [], p24.2.log, p25.2.log, []] (onS p25.2) fun S27 =>
ifK t26 (
(nilCheckV x0).bind fun t29 =>
(faP 2 false 1 t29).bind fun t30 =>
(ld1 t30 (onS S27)).bind fun p31 =>
(nilCheckV x0).bind fun t33 =>
(faP 3 false 1 t33).bind fun t34 =>
(ld1 t34 (onS p31.2)).bind fun p35 =>
(binV E0 .add 3 false true p35.1 (.int .i64 1)).bind fun t36 =>
(sliceV E0 9 p31.1 (some t36) none none (onS p35.2)).bind fun p37 =>
callD (planOf E0 (B25.r.r.r.r.l.r.l.r.l).ops) S27 10 [[], [], [], p31.2.log, [], [], [], p35.2.log, [], p37.2.log] (self.f 31 [p37.1, (.int .u8 93)] (onS p37.2)) fun t38 S38 =>
(binV E0 .add 3 false true t38 (.int .i64 1)).bind fun t39 =>
endP [(3, [7])] S27 [[], [], [], p31.2.log, [], [], [], p35.2.log, [], p37.2.log, S38.log, [], []] (onS S38) fun S41 =>
(binV E0 .gtr 3 false true t39 (.int .i64 0)).bind fun t43 =>
callP (self.f 18 [t43] S41) fun t44 S44 =>
(nilCheckV x0).bind fun t46 =>
(faP 2 false 1 t46).bind fun t47 =>
(ld1 t47 (onS S44)).bind fun p48 =>
(nilCheckV x0).bind fun t50 =>
(faP 3 false 1 t50).bind fun t51 =>
(ld1 t51 (onS p48.2)).bind fun p52 =>
(nilCheckV x0).bind fun t54 =>
(faP 3 false 1 t54).bind fun t55 =>
(ld1 t55 (onS p52.2)).bind fun p56 =>
(binV E0 .add 3 false false p56.1 t39).bind fun t58 =>
(sliceV E0 9 p48.1 (some p52.1) (some t58) none (onS p56.2)).bind fun p59 =>
endP [(3, [7, 11]), (7, [11])] S44 [[], [], [], p48.2.log, [], [], [], p52.2.log, [], [], [], p56.2.log, [], [], p59.2.log, []] (onS p59.2) fun S61 =>
(nilCheckV x0).bind fun t63 =>
(faP 3 false 1 t63).bind fun t64 =>
(ld1 t64 S61).bind fun p65 =>
(binV E0 .add 3 false true t39 (.int .i64 1)).bind fun t67 =>
(binV E0 .add 3 false false p65.1 t67).bind fun t68 =>
(nilCheckV x0).bind fun t69 =>
(faP 3 false 1 t69).bind fun t70 =>
(stP 1 t70 t68 p65.2).bind fun p71 =>
L25_98 self N (R25_72 self N (fun a s => projK [2] a fun a => (fun a s => projK [2] a fun a => (finN E0 self Try.f25) a s) a s) noEx) (exB 0 (R25_72 self N (fun a s => projK [2] a fun a => (fun a s => projK [2] a fun a => (finN E0 self Try.f25) a s) a s) noEx) noEx) N x0 v3 t5 p59.1 (.int .i64 0) p71.2) (
(binV E0 .gtr 3 false true (.int .i64 (-1)) (.int .i64 0)).bind fun t206 =>
callP (self.f 18 [t206] S27) fun t207 S207 =>
(nilCheckV x0).bind fun t209 =>
(faP 2 false 1 t209).bind fun t210 =>
(ld1 t210 (onS S207)).bind fun p211 =>
(nilCheckV x0).bind fun t213 =>
(faP 3 false 1 t213).bind fun t214 =>
(ld1 t214 (onS p211.2)).bind fun p215 =>
(nilCheckV x0).bind fun t217 =>
(faP 3 false 1 t217).bind fun t218 =>
(ld1 t218 (onS p215.2)).bind fun p219 =>
(binV E0 .add 3 false false p219.1 (.int .i64 (-1))).bind fun t221 =>
(sliceV E0 9 p211.1 (some p215.1) (some t221) none (onS p219.2)).bind fun p222 =>
endP [(3, [7, 11]), (7, [11])] S207 [[], [], [], p211.2.log, [], [], [], p215.2.log, [], [], [], p219.2.log, [], [], p222.2.log, []] (onS p222.2) fun S224 =>
(nilCheckV x0).bind fun t226 =>
(faP 3 false 1 t226).bind fun t227 =>
(ld1 t227 S224).bind fun p228 =>
(binV E0 .add 3 false true (.int .i64 (-1)) (.int .i64 1)).bind fun t230 =>
(binV E0 .add 3 false false p228.1 t230).bind fun t231 =>
(nilCheckV x0).bind fun t232 =>
(faP 3 false 1 t232).bind fun t233 =>
(stP 1 t233 t231 p228.2).bind fun p234 =>
L25_261 self N (R25_235 self N (fun a s => projK [2] a fun a => (fun a s => projK [2] a fun a => (finN E0 self Try.f25) a s) a s) noEx) (exB 0 (R25_235 self N (fun a s => projK [2] a fun a => (fun a s => projK [2] a fun a => (finN E0 self Try.f25) a s) a s) noEx) noEx) N x0 v3 t5 p222.1 (.int .i64 0) p234.2)
theorem F25_z : ∃ Z : Tr V, ∀ (self : EV) (N : Nat) (x0 : V) (S : St), F25 self N x0 S =
(buildV E0 50 [(1, (.int .i64 0))]).bind fun t1 =>
(some (nwP 50 258 Z S)).bind fun p2 =>
(stP 258 p2.1 t1 p2.2).bind fun p3 =>
callP (self.f 16 [x0, (sv [94])] p3.2) fun t5 S5 =>
ifK t5 (
(nilCheckV x0).bind fun t9 =>
(faP 3 false 1 t9).bind fun t10 =>
(ld1 t10 S5).bind fun p11 =>
(binV E0 .add 3 false true p11.1 (.int .i64 1)).bind fun t12 =>
(nilCheckV x0).bind fun t13 =>
(faP 3 false 1 t13).bind fun t14 =>
(stP 1 t14 t12 p11.2).bind fun p15 =>
rest25 self N x0 p2.1 t5 p15.2) (
rest25 self N x0 p2.1 t5 S5) := ⟨_, fun self N x0 S => F25_eq self N x0 S⟩
theorem ixB_last {l : List UInt8} (h : ∀ c ∈ l, c ≠ 93) : ixB (l ++ [93]) 93 = (l.length : Int) := by
 unfold ixB
 rw [List.findIdx?_append, List.findIdx?_eq_none_iff.2 (fun c hc => by simpa using h c hc)]
 simp
section
variable {S : St} {b N0 i : Nat} {s : List UInt8} {f : Bool} {lv : V} {acc : List (Tr V)}
theorem Rdr.putI' (h : Rdr S b N0 s i f lv acc) (j : Nat) : ∃ T, stP 1 (.ptr b 3) (.int .i64 (j : Int)) S = some (.tuple [], T) ∧ Rdr T b N0 s j f lv acc ∧ Grew (fun x => x = b) S T := by
 have hst := bx_st6 (v := .int .i64 (j : Int)) (m := r6 lv s j f) h.on h.bx rfl rfl (by omega) (set6_3 _ _ _ _ _ _ _) rfl rfl rfl
 have g : Grew (fun x => x = b) S (S.put b (bxO 44 (r6 lv s j f))) := grew_put b _
 exact ⟨_, hst, ⟨h.on, h.lo, h.hi, bx_put b 44 _, h.steps.grew (fun r hr _ _ => bx_row h.bx hr) g⟩, g⟩
theorem Rdr.off (h : Rdr S b N0 s i f lv acc) {x : Nat} (hxb : x ≠ b) (hxr : ∀ r n z c, lv = .oslice r n z c → r ≠ x) {T : St} (g : Grew (fun y => y = x) S T) : Rdr T b N0 s i f lv acc := by
 refine ⟨g.on.trans h.on, h.lo, Nat.lt_of_lt_of_le h.hi g.next, h.bx.grew h.hi (fun e => hxb e.symm) g, ?_⟩
 rcases h.steps with h1 | ⟨h1, r, h2, h3, h4, h5⟩
 · exact .inl h1
 · exact .inr ⟨h1, r, h2, h3.grew h5 (hxr r _ _ _ h2) g, h4, Nat.lt_of_lt_of_le h5 g.next⟩
theorem rest25_run {K : FuncId → Option KF} (h13 : K 13 = none) (h18 : K 18 = none) (h31 : K 31 = none) (h33 : K 33 = none) (m : Nat) (h : Rdr S b N0 s i f lv acc) (hl : acc.length ≤ 3000) (hs : s.length ≤ 300) {x : Nat} (hx : AgAt S x 50 258 (TK 0)) (hxn : x < S.next) (hx0 : N0 ≤ x) (hxb : x ≠ b) (hxr : ∀ r n z c, lv = .oslice r n z c → r ≠ x) (c0 : UInt8) (bt : List UInt8) (hd : s.drop i = c0 :: bt ++ [93]) (hb : ∀ c ∈ c0 :: bt, c ≠ 45 ∧ c ≠ 93) (nt : Bool) :
 ∃ T lv' tr, rest25 (ev E0 K (m + 2)) rounds (.ptr b 0) (.ptr x 0) (.bool nt) S = some (.ret (.bool false), T) ∧ Stp tr (fun c => !((c0 :: bt).contains c == nt)) 0 0 ∧ Rdr T b N0 s s.length f lv' (acc ++ [tr]) ∧ Grew (fun x => N0 ≤ x) S T := by
 have ho := h.on
 obtain ⟨hlt, hc0, hd1, _⟩ := drop_at hd
 have hd1 : s.drop (i + 1) = bt ++ [93] := hd1
 have hlen : s.length = i + bt.length + 2 := by
  have := congrArg List.length hd
  rw [List.length_drop] at this
  simp at this
  omega
 have hbody : (s.drop i).take (bt.length + 1) = c0 :: bt := by
  rw [hd, List.take_append_of_le_length (by simp)]
  simp
 obtain ⟨S1, a1, a2, a3⟩ := h.putI' s.length
 have on1 := a2.on
 have hx1 := hx.grew hxn hxb a3
 have hx1n := Nat.lt_of_lt_of_le hxn a3.next
 obtain ⟨S2, t2, b1, b2, b3, b4⟩ := L98_spec (ev E0 K (m + 2)) rounds (by unfold rounds; omega) (R25_72 (ev E0 K (m + 2)) rounds (fun a s => projK [2] a fun a => (fun a s => projK [2] a fun a => (finN E0 (ev E0 K (m + 2)) Try.f25) a s) a s) noEx) (exB 0 (R25_72 (ev E0 K (m + 2)) rounds (fun a s => projK [2] a fun a => (fun a s => projK [2] a fun a => (finN E0 (ev E0 K (m + 2)) Try.f25) a s) a s) noEx) noEx) (.ptr b 0) (.bool nt) (body := c0 :: bt) (fun c hc => (hb c hc).1) (by simp; omega) x (c0 :: bt) 0 rounds (TK 0) (fun _ => false) S1 on1 hx1 stp_0 rfl (by unfold rounds; simp; omega)
 have on2 := b4.on.trans on1
 obtain ⟨S3, t3, c1, c2, c3, c4⟩ := L79q_spec (ev E0 K (m + 2)) rounds (R25_73 (ev E0 K (m + 2)) rounds (fun a s => projK [2] a fun a => (fun a s => projK [2] a fun a => (fun a s => projK [2] a fun a => (finN E0 (ev E0 K (m + 2)) Try.f25) a s) a s) a s) noEx) (exB 4 (R25_73 (ev E0 K (m + 2)) rounds (fun a s => projK [2] a fun a => (fun a s => projK [2] a fun a => (fun a s => projK [2] a fun a => (finN E0 (ev E0 K (m + 2)) Try.f25) a s) a s) a s) noEx) noEx) (.ptr b 0) x nt 256 0 rounds t2 _ S2 on2 b2 b3 rfl (by unfold rounds; omega)
 have on3 := c4.on.trans on2
 have r3 : Rdr S3 b N0 s s.length f lv acc := (a2.off hxb hxr b4).off hxb hxr c4
 obtain ⟨T, lv', d1, d2, d3⟩ := add_run h13 (m + 1) r3 hl t3
 refine ⟨T, lv', t3, ?_, c3.ext fun c => ?_, d2, (((a3.mono fun y _ hy => by rw [hy]; exact h.lo).trans (b4.mono fun y _ hy => by rw [hy]; exact hx0)).trans (c4.mono fun y _ hy => by rw [hy]; exact hx0)).trans d3⟩
 · unfold rest25
   simp only [nilP, faPg, Nat.zero_add, oB]
   rw [h.o3, oB]
   dsimp only
   rw [onS_rd, h.o2, oB]
   dsimp only
   rw [onS_rd, lnStr_sv, oB]
   dsimp only
   rw [binV_ii, intsV_lss, dec_lt hlt, oB, endP_rd (by rfl), onS_onS, relog_onS ho, ifK_bool, cond_true, h.o2, oB]
   dsimp only
   rw [onS_rd, h.o3, oB]
   dsimp only
   rw [binV_ii, intsV_add, wrap_succ (by omega), oB, onS_rd, slice_sv und9 s (bounds_lo .i64 hlt) (Nat.le_refl _), oB]
   dsimp only
   rw [List.take_of_length_le (show (s.drop (i + 1)).length ≤ s.length - (i + 1) by rw [List.length_drop]; exact Nat.le_refl _), hd1, onS_onS, show (V.int .u8 93) = .int .u8 ((93 : UInt8).toNat : Int) from rfl, f31_run h31 h33 m, callD_ret, ixB_last (fun c hc => (hb c (List.mem_cons_of_mem _ hc)).2), binV_ii, intsV_add, wrap_succ (by omega), oB, endP_rd (by rfl), onS_onS, relog_onS ho, binV_ii, intsV_gtr, show decide ((0 : Int) < ((bt.length + 1 : Nat) : Int)) = true by rw [decide_eq_true_eq]; omega, oB, show ev E0 K (m + 2) = ev E0 K (m + 1 + 1) from rfl, must_run h18, callP_ret, h.o2, oB]
   dsimp only
   rw [onS_rd, h.o3, oB]
   dsimp only
   rw [onS_rd, h.o3, oB]
   dsimp only
   rw [binV_ii, intsV_add, wrap_i64 (by omega) (by omega), show (i : Int) + ((bt.length + 1 : Nat) : Int) = ((i + (bt.length + 1) : Nat) : Int) by omega, oB, onS_rd, slice_sv und9 s (bounds_lohi .i64 .i64 (Nat.le_add_right i (bt.length + 1)) (by omega)) (by omega), oB]
   dsimp only
   rw [endP_rd (by rfl), onS_onS, relog_onS ho, h.l3, oB]
   dsimp only
   rw [binV_ii, intsV_add, wrap_i64 (by omega) (by omega), oB, binV_ii, intsV_add, wrap_i64 (by omega) (by omega), show (i : Int) + (((bt.length + 1 : Nat) : Int) + 1) = (s.length : Int) by omega, oB, a1, oB]
   dsimp only
   rw [show i + (bt.length + 1) - i = bt.length + 1 by omega, hbody]
   rw [show ((0 : Nat) : Int) = 0 from rfl] at b1 c1
   refine b1.trans ?_
   rw [exB_same, R25_72_eq]
   refine c1.trans ?_
   rw [exB_same, R25_73_eq, c2.ldA on3 big258, oB]
   dsimp only
   rw [show ev E0 K (m + 2) = ev E0 K (m + 1 + 1) from rfl, d1, callP_ret]
 · rw [decide_eq_true (Nat.zero_le _), cond_true]
   simp
end
end Go.Proofs.Ytachpdpmoihjmaa.W
namespace Go.Proofs.Ytachpdpmoihjmaa.W
open Go.Proofs.Ytachpdpmoihjmaa.Ev
section
variable {S : St} {b N0 i : Nat} {s : List UInt8} {f : Bool} {lv : V} {acc : List (Tr V)}
def carets (nt : Bool) : List UInt8 := if nt then [94] else []
theorem square_run {K : FuncId → Option KF} (h13 : K 13 = none) (h16 : K 16 = none) (h18 : K 18 = none) (h23 : K 23 = none) (h25 : K 25 = none) (h30 : K 30 = none) (h31 : K 31 = none) (h33 : K 33 = none) (m : Nat) (h : Rdr S b N0 s i f lv acc) (hl : acc.length ≤ 3000) (hi : i ≤ s.length) (hs : s.length ≤ 300) (c0 : UInt8) (bt : List UInt8) (nt : Bool) (hd : s.drop i = carets nt ++ (c0 :: bt ++ [93])) (hb : ∀ c ∈ c0 :: bt, c ≠ 45 ∧ c ≠ 93) (hc0 : c0 ≠ 94) :
 ∃ T lv' tr, (ev E0 K (m + 4)).f 25 [.ptr b 0] S = some (.ret (.bool false), T) ∧ Stp tr (fun c => !((c0 :: bt).contains c == nt)) 0 0 ∧ Rdr T b N0 s s.length f lv' (acc ++ [tr]) ∧ Grew (fun x => N0 ≤ x) S T := by
 obtain ⟨Z, hZ⟩ := F25_z
 have ho := h.on
 have hlo := h.lo
 have hhi := h.hi
 obtain ⟨a1, a2, a3⟩ := ag_new ho 50 258 Z
 have on1 : (nwP 50 258 Z S).2.on = false := nw_on ho _
 obtain ⟨S2, b1, b2, b3, b4⟩ := a1.stA on1 big258 (TK 0)
 have on2 := b3.on.trans on1
 have g2 : Grew (fun _ => False) S S2 := a2.own (Nat.le_refl _) b3
 have h2 : Rdr S2 b N0 s i f lv acc := h.grew (fun _ _ _ h => h) g2
 have hxr : ∀ r n z c, lv = .oslice r n z c → r ≠ S.next := fun r n z c e => by
  rcases h.steps with ⟨_, e2⟩ | ⟨_, r', e2, _, _, e3⟩
  · rw [e2] at e; cases e
  · rw [e2] at e
    simp only [V.oslice.injEq] at e
    omega
 have hpre : hasPre (s.drop i) [94] = nt := by
  rw [hd]
  unfold hasPre carets
  cases nt with
  | true => simp
  | false => simp [hc0]
 suffices hm : ∃ T lv' tr, F25 (ev E0 K (m + 3)) rounds (.ptr b 0) S = some (.ret (.bool false), T) ∧ Stp tr (fun c => !((c0 :: bt).contains c == nt)) 0 0 ∧ Rdr T b N0 s s.length f lv' (acc ++ [tr]) ∧ Grew (fun x => N0 ≤ x) S T by
  obtain ⟨T, lv', tr, q1, q2, q3, q4⟩ := hm
  exact ⟨T, lv', tr, ev_read (c := C25) (d := B25) (by kernel_rfl) (by kernel_rfl) (annot_isOf C25 _ (by kernel_rfl)) h25 q1, q2, q3, q4⟩
 rw [hZ, build_0, oB, oB, nwP_fst, b1, oB]
 dsimp only
 rw [at_run h16 h23 h30 m h2 hi [94], callP_ret, hpre, ifK_bool]
 cases nt with
 | true =>
  obtain ⟨hlt, _, hd1, _⟩ := drop_at (show s.drop i = 94 :: (c0 :: bt ++ [93]) from hd)
  obtain ⟨S3, c1, c2, c3⟩ := h2.putI' (i + 1)
  obtain ⟨T, lv', tr, d1, d2, d3, d4⟩ := rest25_run h13 h18 h31 h33 (m + 1) c2 hl hs (x := S.next) (b2.grew (by omega) (by omega) c3) (by have := c3.next; omega) (by omega) (by omega) hxr c0 bt hd1 hb true
  refine ⟨T, lv', tr, ?_, d2, d3, (g2.mono fun _ _ h => h.elim).trans ((c3.mono fun y _ hy => by rw [hy]; exact hlo).trans d4)⟩
  rw [cond_true, nilP, oB, faPg, oB, Nat.zero_add, h2.l3, oB]
  dsimp only
  rw [binV_ii, intsV_add, wrap_succ (by omega), oB, oB, faPg, oB, Nat.zero_add, c1, oB]
  exact d1
 | false =>
  obtain ⟨T, lv', tr, d1, d2, d3, d4⟩ := rest25_run h13 h18 h31 h33 (m + 1) h2 hl hs (x := S.next) b2 (by omega) (by omega) (by omega) hxr c0 bt hd hb false
  exact ⟨T, lv', tr, d1, d2, d3, (g2.mono fun _ _ h => h.elim).trans d4⟩
end
end Go.Proofs.Ytachpdpmoihjmaa.W
namespace Go.Proofs.Ytachpdpmoihjmaa.W
open Go.Proofs.Ytachpdpmoihjmaa.Ev
section
variable {S : St}
theorem lit_is (ho : S.on = false) (c : UInt8) (g : Nat) (x0 : V) (hc : (c = 46 ∧ g = 24) ∨ (c = 91 ∧ g = 25)) :
 ∃ T, Grew (fun _ => False) S T ∧ ∀ (k : V × St → Rs), ((makeMapK E0 67 none S).bind fun p79 =>
(vu (updateV E0 67 p79.1 (.int .u8 46) (.fn (.func 24) [x0] []) p79.2)).bind fun p82 =>
(vu (updateV E0 67 p79.1 (.int .u8 91) (.fn (.func 25) [x0] []) p82.2)).bind fun p85 =>
(vu (updateV E0 67 p79.1 (.int .u8 92) (.fn (.func 26) [x0] []) p85.2)).bind fun p88 =>
(lookupV E0 67 p79.1 (.int .u8 (c.toNat : Int)) true p88.2).bind k) = k (.tuple [.fn (.func g) [x0] [], .bool true], T) := by
 have g1 := grew_nw ho (fun _ => False) (.map [] 0)
 have h1 : (nw S (.map [] 0)).heap.get S.next = some (.map [] 0) := by rw [nw_get, if_pos rfl]
 have on1 : (nw S (.map [] 0)).on = false := nw_on ho _
 have e1 := upd_lit (k := 46) (v := .fn (.func 24) [x0] []) on1 h1 rfl
 have h2 : ((nw S (.map [] 0)).put S.next (.map ([] ++ [{ k := .int .u8 ((46 : Nat) : Int), v := .fn (.func 24) [x0] [], born := 0 }]) (0 + 1))).heap.get S.next = some (.map ([] ++ [{ k := .int .u8 ((46 : Nat) : Int), v := .fn (.func 24) [x0] [], born := 0 }]) (0 + 1)) := by rw [put_get, if_pos rfl]
 have g2 := grew_put (s := nw S (.map [] 0)) S.next (.map ([] ++ [{ k := .int .u8 ((46 : Nat) : Int), v := .fn (.func 24) [x0] [], born := 0 }]) (0 + 1))
 have on2 := g2.on.trans on1
 generalize (nw S (.map [] 0)).put S.next (.map ([] ++ [{ k := .int .u8 ((46 : Nat) : Int), v := .fn (.func 24) [x0] [], born := 0 }]) (0 + 1)) = S2 at e1 h2 g2 on2
 have e2 := upd_lit (k := 91) (v := .fn (.func 25) [x0] []) on2 h2 rfl
 have h3 : (S2.put S.next (.map (([] ++ [{ k := .int .u8 ((46 : Nat) : Int), v := .fn (.func 24) [x0] [], born := 0 }]) ++ [{ k := .int .u8 ((91 : Nat) : Int), v := .fn (.func 25) [x0] [], born := 0 + 1 }]) (0 + 1 + 1))).heap.get S.next = some (.map (([] ++ [{ k := .int .u8 ((46 : Nat) : Int), v := .fn (.func 24) [x0] [], born := 0 }]) ++ [{ k := .int .u8 ((91 : Nat) : Int), v := .fn (.func 25) [x0] [], born := 0 + 1 }]) (0 + 1 + 1)) := by rw [put_get, if_pos rfl]
 have g3 := grew_put (s := S2) S.next (.map (([] ++ [{ k := .int .u8 ((46 : Nat) : Int), v := .fn (.func 24) [x0] [], born := 0 }]) ++ [{ k := .int .u8 ((91 : Nat) : Int), v := .fn (.func 25) [x0] [], born := 0 + 1 }]) (0 + 1 + 1))
 have on3 := g3.on.trans on2
 generalize S2.put S.next (.map (([] ++ [{ k := .int .u8 ((46 : Nat) : Int), v := .fn (.func 24) [x0] [], born := 0 }]) ++ [{ k := .int .u8 ((91 : Nat) : Int), v := .fn (.func 25) [x0] [], born := 0 + 1 }]) (0 + 1 + 1)) = S3 at e2 h3 g3 on3
 have e3 := upd_lit (k := 92) (v := .fn (.func 26) [x0] []) on3 h3 rfl
 have h4 : (S3.put S.next (.map ((([] ++ [{ k := .int .u8 ((46 : Nat) : Int), v := .fn (.func 24) [x0] [], born := 0 }]) ++ [{ k := .int .u8 ((91 : Nat) : Int), v := .fn (.func 25) [x0] [], born := 0 + 1 }]) ++ [{ k := .int .u8 ((92 : Nat) : Int), v := .fn (.func 26) [x0] [], born := 0 + 1 + 1 }]) (0 + 1 + 1 + 1))).heap.get S.next = some (.map ((([] ++ [{ k := .int .u8 ((46 : Nat) : Int), v := .fn (.func 24) [x0] [], born := 0 }]) ++ [{ k := .int .u8 ((91 : Nat) : Int), v := .fn (.func 25) [x0] [], born := 0 + 1 }]) ++ [{ k := .int .u8 ((92 : Nat) : Int), v := .fn (.func 26) [x0] [], born := 0 + 1 + 1 }]) (0 + 1 + 1 + 1)) := by rw [put_get, if_pos rfl]
 have g4 := grew_put (s := S3) S.next (.map ((([] ++ [{ k := .int .u8 ((46 : Nat) : Int), v := .fn (.func 24) [x0] [], born := 0 }]) ++ [{ k := .int .u8 ((91 : Nat) : Int), v := .fn (.func 25) [x0] [], born := 0 + 1 }]) ++ [{ k := .int .u8 ((92 : Nat) : Int), v := .fn (.func 26) [x0] [], born := 0 + 1 + 1 }]) (0 + 1 + 1 + 1))
 have on4 := g4.on.trans on3
 generalize S3.put S.next (.map ((([] ++ [{ k := .int .u8 ((46 : Nat) : Int), v := .fn (.func 24) [x0] [], born := 0 }]) ++ [{ k := .int .u8 ((91 : Nat) : Int), v := .fn (.func 25) [x0] [], born := 0 + 1 }]) ++ [{ k := .int .u8 ((92 : Nat) : Int), v := .fn (.func 26) [x0] [], born := 0 + 1 + 1 }]) (0 + 1 + 1 + 1)) = S4 at e3 h4 g4 on4
 refine ⟨S4, ((g1.own (Nat.le_refl _) g2).own (Nat.le_refl _) g3).own (Nat.le_refl _) g4, fun k => ?_⟩
 have look : lookupV E0 67 (.map S.next) (.int .u8 (c.toNat : Int)) true S4 = some (.tuple [.fn (.func g) [x0] [], .bool true], S4) := by
  have hu : und E0 67 = some (.map 5 31) := by kernel_rfl
  have hz : zeroT E0 31 = some .nilfn := by kernel_rfl
  have h5 : und E0 5 = some (.int .u8) := by kernel_rfl
  unfold lookupV
  rw [hu, oB]
  simp only
  rw [h5, oB]
  simp only [keyOk, cond_true]
  rw [getO_off on4 h4, oB]
  simp only
  rw [oB]
  have hm : ∃ ix, mfind (.int .u8 (c.toNat : Int)) ((([] ++ [{ k := .int .u8 ((46 : Nat) : Int), v := .fn (.func 24) [x0] [], born := 0 }]) ++ [{ k := .int .u8 ((91 : Nat) : Int), v := .fn (.func 25) [x0] [], born := 0 + 1 }]) ++ [{ k := .int .u8 ((92 : Nat) : Int), v := .fn (.func 26) [x0] [], born := 0 + 1 + 1 }]) 0 = some (some (ix, .fn (.func g) [x0] [])) := by
   rcases hc with ⟨rfl, rfl⟩ | ⟨rfl, rfl⟩
   · exact ⟨_, rfl⟩
   · exact ⟨_, rfl⟩
  obtain ⟨ix, hm⟩ := hm
  rw [hm, oB]
  all_goals rfl
 show ((some (V.map S.next, nw S (.map [] 0))).bind _) = _
 rw [oB]
 dsimp only
 rw [show (V.int .u8 46) = .int .u8 ((46 : Nat) : Int) from rfl, e1]
 show ((some (V.tuple [], S2)).bind _) = _
 rw [oB]
 dsimp only
 rw [show (V.int .u8 91) = .int .u8 ((91 : Nat) : Int) from rfl, e2]
 show ((some (V.tuple [], S3)).bind _) = _
 rw [oB]
 dsimp only
 rw [show (V.int .u8 92) = .int .u8 ((92 : Nat) : Int) from rfl, e3]
 show ((some (V.tuple [], S4)).bind _) = _
 rw [oB]
 dsimp only
 rw [look, oB]
end
theorem bodyg {g : Nat} (h : g = 24 ∨ g = 25) : E0.ext.get g = none ∧ hasBody E0 g = true := by
 rcases h with rfl | rfl
 · exact ⟨by kernel_rfl, by kernel_rfl⟩
 · exact ⟨by kernel_rfl, by kernel_rfl⟩
section
variable {S : St} {b N0 i : Nat} {s : List UInt8} {f : Bool} {lv : V} {acc : List (Tr V)}
theorem set_piece {K : FuncId → Option KF} (h17 : K 17 = none) (m : Nat) (h : Rdr S b N0 s i f lv acc) (hi : i < s.length) (hs : s.length ≤ 300) (g : Nat) (hg : (s[i] = 46 ∧ g = 24) ∨ (s[i] = 91 ∧ g = 25)) (p : UInt8 → Bool)
 (hrun : ∀ S3, Rdr S3 b N0 s (i + 1) false lv acc → ∃ T lv' tr, (ev E0 K (m + 4)).f g [.ptr b 0] S3 = some (.ret (.bool false), T) ∧ Stp tr p 0 0 ∧ Rdr T b N0 s s.length false lv' (acc ++ [tr]) ∧ Grew (fun x => N0 ≤ x) S3 T) :
 ∃ T lv' tr, (ev E0 K (m + 5)).f 17 [.ptr b 0] S = some (.ret (.tuple [.bool false, .bool true]), T) ∧ Stp tr p 0 0 ∧ Rdr T b N0 s s.length false lv' (acc ++ [tr]) ∧ Grew (fun x => N0 ≤ x) S T := by
 have ho := h.on
 have hne : s[i] ≠ 94 ∧ s[i] ≠ 36 := by
  rcases hg with ⟨e, _⟩ | ⟨e, _⟩ <;> rw [e] <;> decide
 obtain ⟨S1, a1, a2, a3⟩ := h.putI (i + 1)
 obtain ⟨S2, b1, b2, b3⟩ := a2.putF false
 have on2 := b2.on
 obtain ⟨S3, g3, hlit⟩ := lit_is on2 s[i] g (.ptr b 0) hg
 have h3 : Rdr S3 b N0 s (i + 1) false lv acc := b2.grew (fun _ _ _ h => h) g3
 have gg : Grew (fun x => N0 ≤ x) S S3 := (a3.trans b3).trans (g3.mono fun _ _ h => h.elim)
 obtain ⟨T, lv', tr, q1, q2, q3, q4⟩ := hrun S3 h3
 have hbg := bodyg (g := g) (by rcases hg with ⟨_, e⟩ | ⟨_, e⟩ <;> simp [e])
 refine ⟨T, lv', tr, ev_read (c := C17) (d := B17) (by kernel_rfl) (by kernel_rfl) (annot_isOf C17 _ (by kernel_rfl)) h17 (?_ : F17 (ev E0 K (m + 4)) rounds (.ptr b 0) S = _), q2, q3, gg.trans q4⟩
 rw [F17_eq]
 simp only [nilP, faPg, Nat.zero_add, oB]
 rw [h.o2, oB]
 dsimp only
 rw [onS_rd, h.o3, oB]
 dsimp only
 rw [ixS_sv s .i64 i hi, oB, onS_rd, h.o5, oB]
 dsimp only
 rw [endP_rd (by rfl), onS_rd, relog_onS ho, h.l3, oB]
 dsimp only
 rw [binV_ii, intsV_add, wrap_succ (by omega), oB, a1, oB]
 dsimp only
 rw [b1, oB]
 dsimp only
 rw [binV_ii, intsV_eql, show (94 : Int) = (((94 : UInt8).toNat : Nat) : Int) from rfl, u8_dec, beq_false_of_ne hne.1, oB, guardV_t, oB, cond_false, oB, pickV_bool, cond_false, oB, ifK_bool, cond_false, binV_ii, intsV_eql, show (36 : Int) = (((36 : UInt8).toNat : Nat) : Int) from rfl, u8_dec, beq_false_of_ne hne.2, oB]
 simp only [guardV_t, guardV_f, guardV_no, oB, cond_false, pickV_bool, callD_ret, onS_onS]
 rw [endP_rd (by rfl), relog_onS on2, ifK_bool, cond_false]
 refine (hlit _).trans ?_
 rw [show extractV (.tuple [.fn (.func g) [.ptr b 0] [], .bool true]) 0 = some (.fn (.func g) [.ptr b 0] []) from rfl, show extractV (.tuple [.fn (.func g) [.ptr b 0] [], .bool true]) 1 = some (.bool true) from rfl, oB, oB, ifK_bool, cond_true, callK_fn hbg.1 hbg.2]
 show callP ((ev E0 K (m + 4)).f g [.ptr b 0] S3) _ = _
 rw [q1, callP_ret]
end
end Go.Proofs.Ytachpdpmoihjmaa.W
namespace Go.Proofs.Ytachpdpmoihjmaa.W
open Go.Proofs.Ytachpdpmoihjmaa.Ev
def SetE (s : List UInt8) (p : UInt8 → Bool) : Prop := (s = [46] ∧ p = fun _ => true) ∨ ∃ nt c0 bt, s = 91 :: (carets nt ++ (c0 :: bt ++ [93])) ∧ (∀ c ∈ c0 :: bt, c ≠ 45 ∧ c ≠ 93) ∧ c0 ≠ 94 ∧ p = fun c => !((c0 :: bt).contains c == nt)
section
variable {S : St} {b N0 i : Nat} {s : List UInt8} {f : Bool} {lv : V} {acc : List (Tr V)}
theorem set_one {K : FuncId → Option KF} (hK : ∀ f, f ≠ 9 → K f = none) (m : Nat) {p : UInt8 → Bool} (hE : SetE s p) (hs : s.length ≤ 100) (h : Rdr S b N0 s 0 f .nilslice []) :
 ∃ T lv' tr, (ev E0 K (m + 5)).f 17 [.ptr b 0] S = some (.ret (.tuple [.bool false, .bool true]), T) ∧ Stp tr p 0 0 ∧ Rdr T b N0 s s.length false lv' [tr] ∧ Grew (fun x => N0 ≤ x) S T := by
 rcases hE with ⟨rfl, rfl⟩ | ⟨nt, c0, bt, rfl, h1, h2, rfl⟩
 · exact set_piece (hK 17 (by decide)) m h (by simp) (by simp) 24 (.inl ⟨rfl, rfl⟩) _ fun S3 h3 => by
    obtain ⟨T, lv', tr, q1, q2, q3, q4⟩ := point_run (hK 13 (by decide)) (hK 24 (by decide)) (m + 2) h3 (by simp)
    exact ⟨T, lv', tr, q1, q2, q3, q4⟩
 · exact set_piece (hK 17 (by decide)) m h (by simp) (by omega) 25 (.inr ⟨rfl, rfl⟩) _ fun S3 h3 => by
    obtain ⟨T, lv', tr, q1, q2, q3, q4⟩ := square_run (hK 13 (by decide)) (hK 16 (by decide)) (hK 18 (by decide)) (hK 23 (by decide)) (hK 25 (by decide)) (hK 30 (by decide)) (hK 31 (by decide)) (hK 33 (by decide)) m h3 (by simp) (by simp) (by omega) c0 bt nt rfl h1 h2
    exact ⟨T, lv', tr, q1, q2, q3, q4⟩
theorem set_pieces {K : FuncId → Option KF} (hK : ∀ f, f ≠ 9 → K f = none) (m : Nat) {p : UInt8 → Bool} (hE : SetE s p) (hs : s.length ≤ 100) (h0 : Rdr S b N0 s 0 f .nilslice []) :
 ∃ T i' lv' v' tr, (ev E0 K (m + 6)).f 12 [.ptr b 0] S = some (.ret (.bool v'), T) ∧ Stp tr p 0 0 ∧ Rdr T b N0 s i' false lv' [tr] ∧ Grew (fun x => N0 ≤ x) S T := by
 obtain ⟨S0, p1, h, p3⟩ := h0.putF true
 have ho := h.on
 have hlt : 0 < s.length := by
  rcases hE with ⟨rfl, _⟩ | ⟨nt, c0, bt, rfl, _⟩ <;> simp
 obtain ⟨S1, lv1, tr, a1, aq, a2, a3⟩ := set_one hK m hE hs h
 obtain ⟨T, i', lv', v', b1, b2, b3⟩ := L12_spec (hK 16 (by decide)) (hK 23 (by decide)) (hK 30 (by decide)) (hK 17 (by decide)) (hK 26 (by decide)) (hK 18 (by decide)) (hK 13 (by decide)) (hK 27 (by decide)) (hK 31 (by decide)) (hK 33 (by decide)) (m + 1) rounds (by omega) [] s.length (rounds - 1) false false lv1 [tr] S1 a2 (by rw [List.drop_length]; rfl) (Nat.le_refl _) (by simp) (by unfold rounds; simp)
 refine ⟨T, i', lv', v', tr, ev_read (c := C12) (d := B12) (by kernel_rfl) (by kernel_rfl) (annot_isOf C12 _ (by kernel_rfl)) (hK 12 (by decide)) (?_ : F12 (ev E0 K (m + 5)) rounds (.ptr b 0) S = _), aq, by simpa using b2, (p3.trans a3).trans b3⟩
 rw [F12_eq]
 simp only [nilP, faPg, Nat.zero_add, oB]
 rw [p1, oB]
 dsimp only
 have key : ∀ v3 : Bool, L12_13 (ev E0 K (m + 5)) rounds (R12_6 (ev E0 K (m + 5)) rounds (finN E0 (ev E0 K (m + 5)) Try.f12) noEx) (exB 0 (R12_6 (ev E0 K (m + 5)) rounds (finN E0 (ev E0 K (m + 5)) Try.f12) noEx) noEx) (rounds - 1 + 1) (.ptr b 0) (.bool v3) S0 = some (.ret (.bool v'), T) := fun v3 => by
  have hi0 : ((0 : Nat) : Int) = 0 := rfl
  rw [L12_13_eq]
  simp only [nilP, faPg, Nat.zero_add, oB, Nat.add_zero]
  rw [h.o3, oB]
  dsimp only
  rw [onS_rd, h.o2, oB]
  dsimp only
  rw [lnStr_sv, oB]
  dsimp only
  rw [binV_ii, intsV_lss, dec_lt hlt, oB, guardV_t, oB, cond_true, oB, oB, cond_true, nilP, oB, oB, cond_true, faPg, Nat.zero_add, oB, oB, cond_true]
  simp only [onS_rd, onS_onS]
  rw [h.o4, oB, oB, cond_true]
  dsimp only
  rw [binV_ii, intsV_eql, decide_eq_true rfl, oB]
  simp only [guardV_t, guardV_f, guardV_no, oB, cond_false, cond_true, pickV_bool, callD_ret, onS_onS, onS_rd, Bool.not_true]
  rw [endP_rd (by rfl), relog_onS ho, ifK_bool, cond_true, h.l0, oB]
  dsimp only
  rw [h.steps.len, oB]
  dsimp only
  rw [a1, callP_ret, extractV_tuple, extractV_tuple, show ([.bool false, .bool true] : List V)[0]? = some (.bool false) from rfl, show ([.bool false, .bool true] : List V)[1]? = some (.bool true) from rfl, oB, oB, guardV_t, oB, cond_true, oB, oB, cond_true, show ev E0 K (m + 5) = ev E0 K (m + 2 + 3) from rfl, at_run (hK 16 (by decide)) (hK 23 (by decide)) (hK 30 (by decide)) (m + 2) a2 (Nat.le_refl _), List.drop_length, show hasPre [] [42] = false from rfl, callP_ret, pickV_bool, cond_true, oB, ifK_bool, cond_false]
  cases v3 with
  | true =>
   rw [cond_true, oB, cond_true, oB]
   exact b1
  | false =>
   rw [cond_false, oB, cond_false, oB]
   exact b1
 exact key true
theorem set_compile {K : FuncId → Option KF} (hK : ∀ f, f ≠ 9 → K f = none) (m : Nat) {p : UInt8 → Bool} (hE : SetE s p) (hlen : s.length ≤ 100) (S : St) (ho : S.on = false) :
 ∃ T b i lv tr, (ev E0 K (m + 7)).f 6 [sv s] S = some (.ret (.tuple [.ptr b 0, .int .i64 0]), T) ∧ Stp tr p 0 0 ∧ Rdr T b S.next s i false lv ([tr] ++ [TK 6]) ∧ Grew (fun x => S.next ≤ x) S T := by
 obtain ⟨a1, a2, a3⟩ := ag_new ho 22 1 (one .nilptr)
 have on1 : (nwP 22 1 (one .nilptr) S).2.on = false := nw_on ho _
 have hF := F6_eq (ev E0 K (m + 6)) rounds (sv s) S
 rw [oB, nwP_fst] at hF
 generalize (nwP 22 1 (one .nilptr) S).2 = S1 at a1 a2 a3 on1 hF
 obtain ⟨b1, b2, b3⟩ := ag_new on1 23 1 (one (.int .i64 0))
 have on2 : (nwP 23 1 (one (.int .i64 0)) S1).2.on = false := nw_on on1 _
 rw [oB, nwP_fst] at hF
 generalize (nwP 23 1 (one (.int .i64 0)) S1).2 = S2 at b1 b2 b3 on2 hF
 obtain ⟨S3, c1, c2, c3, c4⟩ := box_new on2 44 (r6 .nilslice s 0 false)
 have on3 := c3.on.trans on2
 have hR : Rdr S3 S2.next (S2.next) s 0 false .nilslice [] := ⟨on3, Nat.le_refl _, by omega, c2, .inl ⟨rfl, rfl⟩⟩
 obtain ⟨S4, i', lv', v', tr, d1, dq, d2, d3⟩ := set_pieces hK m hE hlen hR
 obtain ⟨S5, lv5, e1, e2, e3⟩ := add_run (hK 13 (by decide)) (m + 5) d2 (by simp) (TK 6)
 have on5 := e2.on
 have ga := (((a1.grew (by omega) (fun h => h) b2).grew (by omega) (fun h => h) c3).grew (by omega) (by omega) d3).grew (by have := d3.next; omega) (by omega) e3
 have gb := ((b1.grew (by omega) (fun h => h) c3).grew (by omega) (by omega) d3).grew (by have := d3.next; omega) (by omega) e3
 have n5 : S2.next < S5.next := by have := d3.next; have := e3.next; omega
 obtain ⟨S6, f1, f2, f3, f4⟩ := ga.st_one on5 (.ptr S2.next 0) rfl rfl rfl
 have on6 := f3.on.trans on5
 have gb6 := gb.grew (by omega) (by omega) f3
 obtain ⟨S7, g1, g2, g3, g4⟩ := gb6.st_one on6 (.int .i64 0) rfl rfl rfl
 have on7 := g3.on.trans on6
 have f2' := f2.grew (by omega) (by omega) g3
 have e2' : Rdr S7 S2.next S2.next s i' false lv5 ([tr] ++ [TK 6]) := (e2.grew (fun x _ h1 h2 => by omega) f3).grew (fun x _ h1 h2 => by omega) g3
 refine ⟨S7, S2.next, i', lv5, tr, ev_read (c := C6) (d := B6) (by kernel_rfl) (by kernel_rfl) (annot_isOf C6 _ (by kernel_rfl)) (hK 6 (by decide)) (hF.trans ?_), dq, ⟨e2'.on, by omega, e2'.hi, e2'.bx, ?_⟩, ?_⟩
 · rw [lnStr_sv, oB]
   dsimp only
   rw [binV_ii, intsV_gtr, show decide ((255 : Int) < (s.length : Int)) = false by rw [decide_eq_false_iff_not]; omega, oB, ifK_bool, cond_false, build44, oB, c1, oB]
   dsimp only
   rw [d1, callPF_ret, build_6, oB, show ev E0 K (m + 6) = ev E0 K (m + 5 + 1) from rfl, e1, callPF_ret, nilP, oB, faPg, oB, Nat.add_zero, f1, oB]
   dsimp only
   rw [g1, oB]
   exact fin6 rfl (by kernel_rfl) (by kernel_rfl) on7 f2' g2
 · rcases e2'.steps with h | ⟨h1, r, h2, h3, h4, h5⟩
   · exact .inl h
   · exact .inr ⟨h1, r, h2, h3, by omega, h5⟩
 · have k1 : Grew (fun x => S.next ≤ x) S S3 := ((a2.trans b2).trans c3).mono fun _ _ h => h.elim
   exact (((k1.trans (d3.mono fun x _ hx => by omega)).trans (e3.mono fun x _ hx => by omega)).trans (f3.mono fun x _ hx => by omega)).trans (g3.mono fun x _ hx => by omega)
end
end Go.Proofs.Ytachpdpmoihjmaa.W
