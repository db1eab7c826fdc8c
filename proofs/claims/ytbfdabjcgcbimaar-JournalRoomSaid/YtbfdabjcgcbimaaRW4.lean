/-
  WHAT THE FUNCTIONS COME TO: each is read by the evaluator, printed, and told as a function of data, part 4 of 6 (no condition).
-/
import Derived.Test.YtbfdabjcgcbimaaRW3
namespace Go.Proofs.YtbfdabjcgcbimaaR.W
open Go.Proofs.YtbfdabjcgcbimaaR.Ev Go.RowKit
section
variable {s S T U X Y : St}
theorem neqE (a : Int) : binV E0 .neq 31 false true (.int .i64 a) (.int .i64 0) = some (.bool (!decide (a = 0))) := by
 rw [binV_ii, intsV_neq]
theorem may_run (m : Nat) {db fb : Nat} {wv : V} {k a : Nat} (h : DAt S db fb wv k) (ha : a < 8) : (ev E0 KD (m + 1)).f 42 [.ptr db 0, .int .i64 (a : Int)] S = some (.ret (.int .i64 0), S) := rd42 (by
 obtain ⟨ops, hb⟩ := h.bx
 show F42 (ev E0 KD m) rounds (.ptr db 0) (.int .i64 (a : Int)) S = _
 rw [F42_eq, show binV E0 .eql 23 false true (.ptr db 0) .nilptr = some (.bool false) from by kernel_rfl, oB, ifK_bool, cond_false, binV_ii, intsV_lss, show decide ((a : Int) < 0) = false from by simp, oB]
 simp only [gFF, oB, cond_true]
 rw [ncp, oB, faPg, oB, VarAt.ldv h.on hb (i := 0 + 0) rfl, oB]
 dsimp only
 rw [show ∀ U, lnS (.slice fb 0 8 8) U = some (.int .i64 8, U) from fun _ => rfl, oB]
 dsimp only
 rw [binV_ii, intsV_geq, show decide ((8 : Int) ≤ (a : Int)) = false from by simp; omega, oB, pickV_bool, cond_false, oB, ifK_bool, cond_false])
theorem write_run (m : Nat) {db fb : Nat} {wv : V} {k a : Nat} {x : Bs} (h : DAt S db fb wv k) (hk : k ≤ 1000) (ha : a < 8) (hx : x.length ≤ 128) :
 ∃ U, (ev E0 KD (m + 3)).f 39 [.ptr db 0, .int .i64 (a : Int), sv x] S = some (.ret (.int .i64 0), U) ∧ ∃ wv', DAt U db fb wv' (k + 1) ∧ Grew (DW db fb S) S U := by
 obtain ⟨A, a1, a2, a3, a4⟩ := box_one h.on 23 (v := .ptr db 0) ⟨rfl, rfl, rfl, rfl⟩
 have hA := h.grew a3
 obtain ⟨B, b1, b2, b3, b4⟩ := box_one hA.on 3 (oneV_int .i64 (a : Int))
 have hB := hA.grew b3
 obtain ⟨C, c1, c2, c3, c4⟩ := box_one hB.on 9 (oneV_sv x)
 have hC := hB.grew c3
 have gB := a3.trans b3
 have gC := gB.trans c3
 have ld := h.ld
 have x1 := (a2.grew (by omega) (fun h => h) b3).grew (by omega) (fun h => h) c3
 have x2 := b2.grew (by omega) (fun h => h) c3
 obtain ⟨U, u1, wv', u2, u3⟩ := op_run (m) hC (.fn (.func 48) [] [.ptr A.next 0, .ptr B.next 0, .ptr S.next 0]) (P := fun U => ∃ wv', DAt U db fb wv' (k + 1) ∧ Grew (DW db fb S) S U) (fun Y hY gY => by
  have nY := gY.next
  obtain ⟨U, wv', w1, w2, w3⟩ := write1_run m hY hk ha (x2.grew (by omega) (show ¬ (A.next = db) by omega) gY) (c2.grew (by omega) (show ¬ (B.next = db) by omega) gY) (x1.grew (by omega) (show ¬ (S.next = db) by omega) gY) (by omega) (by omega) (by omega)
  refine ⟨U, ?_, wv', w2, dgrew (dgrew (dgrew0 gC) (gY.mono fun z _ hz => .inl hz)) w3⟩
  rw [callK_fn ext_none (by kernel_rfl)]
  exact w1)
 refine ⟨U, rd39 ?_, wv', u2, u3⟩
 show F39 (ev E0 KD (m + 2)) rounds (.ptr db 0) (.int .i64 (a : Int)) (sv x) S = _
 rw [F39_eq, a1, oB]
 dsimp only
 rw [b1, oB]
 dsimp only
 rw [c1, oB]
 dsimp only
 have lx : ld1 (.ptr S.next 0) C = some (.ptr db 0, C) := Bx.ldv hC.on x1 big1 rfl
 rw [lx, oB]
 dsimp only
 rw [Bx.ldv hC.on x2 big1 rfl, oB]
 dsimp only
 rw [may_run (m + 1) hC ha, callP_ret, neqE, oB, decide_eq_true rfl, Bool.not_true, ifK_bool, cond_false, Bx.ldv hC.on c2 big1 rfl, oB]
 dsimp only
 rw [lnStr_sv, oB]
 dsimp only
 rw [binV_ii, intsV_gtr, show decide ((128 : Int) < (x.length : Int)) = false from by simp; omega, oB, ifK_bool, cond_false, lx, oB]
 dsimp only
 rw [u1, callP_ret]
theorem ix_wv {wv : V} {l : List (Tr V)} {r i : Nat} (hw : wv = .oslice r 0 l.length 129) (hi : i < l.length) : ixP 129 wv (.int .i64 (i : Int)) = some (.ptr r (i * 129)) := by
 rw [hw]
 show (bif Nat.blt i l.length then some (V.ptr r (0 + i * 129)) else none) = _
 rw [blt_true.2 hi, Nat.zero_add]; rfl
theorem ix_fl (fb : Nat) {a : Nat} (h : a < 8) : ixP 128 (.slice fb 0 8 8) (.int .i64 (a : Int)) = some (.ptr fb (a * 128)) := by
 show (bif Nat.blt a 8 then some (V.ptr fb (0 + a * 128)) else none) = _
 rw [blt_true.2 h, Nat.zero_add]; rfl
theorem stA_on (ho : S.on = false) {b i n : Nat} {t : Tr V} {U : St} (h : Go.Proofs.YtbfdabjcgcbimaaR.Ev.stK S b i n t = some U) : ∃ L, stP n (.ptr b i) (.agg n t) (S.lg []) = some (.tuple [], U.lg L) := by
 obtain ⟨_, L, h3⟩ := stK_lg ho h []
 refine ⟨L, ?_⟩
 show vu (bif Nat.beq n n && !isTuple (.agg n t) then Go.Proofs.YtbfdabjcgcbimaaR.Ev.stK (S.lg []) b i n t else none) = _
 rw [Nat.beq_refl]
 simp only [isTuple, Bool.not_false, Bool.and_self, cond_true]
 rw [h3]; rfl
theorem flush_body (zz : Tr V) {db fb xb r i : Nat} {wv : V} {ops : Int} {l lf : List (Tr V)} (ho : S.on = false) (hb : VarAt S db 52 5 (dCells fb wv ops)) (hfl : lf.length = 8) (hf : RowAt S fb 80 128 lf) (hw : wv = .oslice r 0 l.length 129) (hr : RowAt S r 82 129 l) (hx : Bx S xb 23 [.ptr db 0]) (l1 : db < S.next) (l2 : fb < S.next) (l3 : xb < S.next)
 (hi : i < l.length) {a : Nat} (ha : a < 8) (hta : l[i].get 0 = some (.int .i64 (a : Int))) :
 ∃ (U : St) (lf' : List (Tr V)), (∀ K : St → Rs, (
(ixP 129 wv (.int .i64 (i : Int))).bind fun t13 =>
(ldA 129 t13 S).bind fun p14 =>
(some (nwP 82 129 zz p14.2)).bind fun p15 =>
(stP 129 p15.1 p14.1 p15.2).bind fun p16 =>
(ld1 (.ptr xb 0) (onS p16.2)).bind fun p17 =>
(nilCheckV p17.1).bind fun t18 =>
(faP 0 false 1 t18).bind fun t19 =>
(ld1 t19 (onS p17.2)).bind fun p20 =>
(faP 0 false 1 p15.1).bind fun t21 =>
(ld1 t21 (onS p20.2)).bind fun p22 =>
(faP 1 true 128 p15.1).bind fun t23 =>
(ldA 128 t23 (onS p22.2)).bind fun p24 =>
(ixP 128 p20.1 p22.1).bind fun t25 =>
(stP 128 t25 p24.1 (onS p24.2)).bind fun p26 =>
endP [(0, [5, 7]), (3, [5, 7]), (5, [7])] p16.2 [p17.2.log, [], [], p20.2.log, [], p22.2.log, [], p24.2.log, [], p26.2.log] p26.2 fun S27 => K S27) = K U) ∧ lf'.length = 8 ∧ RowAt U fb 80 128 lf' ∧ Grew (fun x => x = fb) S U := by
 have hld := hr.ldK ho (i := i) (List.getElem?_eq_getElem hi)
 have e0 : ldA 129 (.ptr r (i * 129)) S = some (.agg 129 l[i], S) := by
  unfold Go.Proofs.YtbfdabjcgcbimaaR.Ev.ldA
  simp only
  rw [hld]; rfl
 obtain ⟨A, a1, a2, a3, a4⟩ := var_agg ho 82 129 zz l[i] (by omega) (by unfold big; decide)
 have onA := a3.on.trans ho
 have hxA := hx.grew l3 (fun h => h) a3
 have hbA := hb.grew l1 (fun h => h) a3
 have hfA := hf.grew l2 (fun h => h) a3
 have e1 : ld1 (.ptr xb 0) (A.lg []) = some (.ptr db 0, A.lg [⟨xb, 0, 0 + 1, false⟩]) := ld1_lg onA (Bx.ldv onA hxA big1 rfl) []
 have e2 : ld1 (.ptr db (0 + 0)) (A.lg []) = some (.slice fb 0 8 8, A.lg [⟨db, 0 + 0, 0 + 0 + 1, false⟩]) := ld1_lg onA (VarAt.ldv onA hbA (i := 0 + 0) rfl) []
 have e3 : ld1 (.ptr S.next (0 + 0)) (A.lg []) = some (.int .i64 (a : Int), A.lg [⟨S.next, 0 + 0, 0 + 0 + 1, false⟩]) := ld1_lg onA (row_fld onA a2 (j := 0 + 0) (by omega) hta) []
 obtain ⟨u, hu, _⟩ := row_part onA a2 (off := 0 + 1) (k := 128) (by omega) (by omega)
 have e4 : ldA 128 (.ptr S.next (0 + 1)) (A.lg []) = some (.agg 128 u, A.lg [⟨S.next, 0 + 1, 0 + 1 + 128, false⟩]) := by
  unfold Go.Proofs.YtbfdabjcgcbimaaR.Ev.ldA
  simp only
  rw [ldK_on onA hu []]; rfl
 obtain ⟨B, b1, b2, b3, b4⟩ := hfA.stK onA (i := a) (by omega) u
 have onB := b3.on.trans onA
 obtain ⟨L, b5⟩ := stA_on onA b1
 obtain ⟨U, u1, u2, u3, u4⟩ := relog_any onA B L [(A.lg [⟨xb, 0, 0 + 1, false⟩]).log, [], [], (A.lg [⟨db, 0 + 0, 0 + 0 + 1, false⟩]).log, [], (A.lg [⟨S.next, 0 + 0, 0 + 0 + 1, false⟩]).log, [], (A.lg [⟨S.next, 0 + 1, 0 + 1 + 128, false⟩]).log, [], (B.lg L).log]
 have gB : Grew (fun x => x = fb) S B := (a3.mono fun _ _ h => h.elim).trans b3
 refine ⟨U, lf.set a u, fun K => ?_, by rw [List.length_set]; exact hfl, b2.same u2, Grew.same gB u2 u3 (u4.trans onB.symm)⟩
 rw [ix_wv hw hi, oB, e0, oB]
 dsimp only
 rw [oB, nwP_fst, a1, oB]
 simp only [ons, lglg]
 rw [e1, oB]
 simp only [ons, lglg]
 rw [ncp, oB, faPg, oB, e2, oB]
 simp only [ons, lglg]
 rw [faPg, oB, e3, oB]
 simp only [ons, lglg]
 rw [faPg 1 127 0 true S.next, oB, e4, oB]
 simp only [ons, lglg]
 rw [ix_fl fb ha, oB, b5, oB]
 dsimp only
 rw [endP_of (pairs_any fun p hp j hj e he f hf => ?_), u1]
 simp only [List.mem_cons, List.not_mem_nil, or_false] at hp
 have rdE : ∀ {x : LE} {q : LE}, x ∈ [q] → q.w = false → x.w = false := fun h hq => by rw [List.mem_singleton.1 h]; exact hq
 rcases hp with rfl | rfl | rfl <;> simp only [List.mem_cons, List.not_mem_nil, or_false] at hj
 · rcases hj with rfl | rfl
   · exact .inr ⟨rdE (q := ⟨xb, 0, 0 + 1, false⟩) he rfl, rdE (q := ⟨S.next, 0 + 0, 0 + 0 + 1, false⟩) hf rfl⟩
   · exact .inr ⟨rdE (q := ⟨xb, 0, 0 + 1, false⟩) he rfl, rdE (q := ⟨S.next, 0 + 1, 0 + 1 + 128, false⟩) hf rfl⟩
 · rcases hj with rfl | rfl
   · exact .inr ⟨rdE (q := ⟨db, 0 + 0, 0 + 0 + 1, false⟩) he rfl, rdE (q := ⟨S.next, 0 + 0, 0 + 0 + 1, false⟩) hf rfl⟩
   · exact .inr ⟨rdE (q := ⟨db, 0 + 0, 0 + 0 + 1, false⟩) he rfl, rdE (q := ⟨S.next, 0 + 1, 0 + 1 + 128, false⟩) hf rfl⟩
 · subst hj
   exact .inr ⟨rdE (q := ⟨S.next, 0 + 0, 0 + 0 + 1, false⟩) he rfl, rdE (q := ⟨S.next, 0 + 1, 0 + 1 + 128, false⟩) hf rfl⟩
theorem L41_spec {m N : Nat} {db fb xb r : Nat} {wv : V} {ops : Int} {l lf : List (Tr V)} (ho : S.on = false) (hb : VarAt S db 52 5 (dCells fb wv ops)) (hfl : lf.length = 8) (hf : RowAt S fb 80 128 lf) (hw : wv = .oslice r 0 l.length 129) (hr : RowAt S r 82 129 l) (hl : l.length ≤ 2000) (hx : Bx S xb 23 [.ptr db 0]) (l0 : r < S.next) (l1 : db < S.next) (l2 : fb < S.next) (l3 : xb < S.next)
 (hta : ∀ t ∈ l, ∃ a : Nat, a < 8 ∧ t.get 0 = some (.int .i64 (a : Int))) (nk : Ac → St → Rs) (ek : Nat → Ac → St → Rs) :
 ∀ (d i q : Nat) (lf' : List (Tr V)) (U : St), i + d = l.length → d < q → lf'.length = 8 → RowAt U fb 80 128 lf' → Grew (fun x => x = fb) S U →
 ∃ T lf2, L41_11 (ev E0 KD m) N nk ek q (.ptr xb 0) wv (.int .i64 (l.length : Int)) (.int .i64 (i : Int)) U = ek 0 (fr 25 [(0, .ptr xb 0)]) T ∧ lf2.length = 8 ∧ RowAt T fb 80 128 lf2 ∧ Grew (fun x => x = fb) S T
 | d, i, 0, lf', U, _, hq, _, _, _ => by omega
 | 0, i, q + 1, lf', U, hi, hq, h1, h2, g => by
  refine ⟨U, lf', ?_, h1, h2, g⟩
  rw [L41_11_eq, binV_ii, intsV_lss, dec_ge (by omega), oB, ifK_bool, cond_false]
 | d + 1, i, q + 1, lf', U, hi, hq, h1, h2, g => by
  have onU := g.on.trans ho
  have hil : i < l.length := by omega
  obtain ⟨cf, gf⟩ := RowAt.get hf
  obtain ⟨cd, gd⟩ := VarAt.get hb
  obtain ⟨cr, gr⟩ := RowAt.get hr
  obtain ⟨cx, gx⟩ := bx_get hx
  obtain ⟨a, ha, hta'⟩ := hta l[i] (List.getElem_mem hil)
  have ng := g.next
  obtain ⟨V1, lf2, k1, k2, k3, k4⟩ := flush_body _ onU (hb.grew l1 (show ¬ (db = fb) from blk_ne gd gf (by decide)) g) h1 h2 hw (hr.grew l0 (show ¬ (r = fb) from blk_ne gr gf (by decide)) g) (hx.grew l3 (show ¬ (xb = fb) from blk_ne gx gf (by decide)) g) (by omega) (by omega) (by omega) hil ha hta'
  obtain ⟨T, lf3, t1, t2, t3, t4⟩ := L41_spec (m := m) (N := N) ho hb hfl hf hw hr hl hx l0 l1 l2 l3 hta nk ek d (i + 1) q lf2 V1 (by omega) (by omega) k2 k3 (g.trans k4)
  refine ⟨T, lf3, ?_, t2, t3, t4⟩
  rw [L41_11_eq, binV_ii, intsV_lss, dec_lt hil, oB, ifK_bool, cond_true]
  refine (k1 fun S27 => (binV E0 .add 3 false true (.int .i64 (i : Int)) (.int .i64 1)).bind fun t28 => L41_11 (ev E0 KD m) N nk ek q (.ptr xb 0) wv (.int .i64 (l.length : Int)) t28 S27).trans ?_
  rw [succNat (by omega), oB]
  exact t1
theorem fin41 (self : EV) (S : St) : finN E0 self Try.f41 (fr 25 []) S = some (.ret (.tuple []), S) := by kernel_rfl
theorem flush1_run (m : Nat) {db fb : Nat} {wv : V} {k xb : Nat} (h : DAt S db fb wv k) (hk : k ≤ 1000) (hx : Bx S xb 23 [.ptr db 0]) (l3 : xb < S.next) :
 ∃ U, (ev E0 KD (m + 1)).f 41 [.ptr xb 0] S = some (.ret (.tuple []), U) ∧ DAt U db fb .nilslice 0 ∧ Grew (DW db fb S) S U := by
 obtain ⟨ops, hb⟩ := h.bx
 obtain ⟨lf, hfl, hf⟩ := h.fl
 obtain ⟨cf, gf⟩ := RowAt.get hf
 obtain ⟨cd, gd⟩ := VarAt.get hb
 obtain ⟨cx, gx⟩ := bx_get hx
 have hloop : ∃ T lf2, L41_11 (ev E0 KD m) rounds (R41_0 (ev E0 KD m) rounds (finN E0 (ev E0 KD m) Try.f41) noEx) (exB 0 (R41_0 (ev E0 KD m) rounds (finN E0 (ev E0 KD m) Try.f41) noEx) noEx) rounds (.ptr xb 0) wv (.int .i64 (k : Int)) (.int .i64 0) S = R41_0 (ev E0 KD m) rounds (finN E0 (ev E0 KD m) Try.f41) noEx (fr 25 [(0, .ptr xb 0)]) T ∧ lf2.length = 8 ∧ RowAt T fb 80 128 lf2 ∧ Grew (fun x => x = fb) S T := by
  rcases h.wr with ⟨rfl, rfl⟩ | ⟨r, l, hw, h2, h3, h4, h5, h6⟩
  · refine ⟨S, lf, ?_, hfl, hf, Grew.refl _ _⟩
    show L41_11 _ _ _ _ (18446744073709551615 + 1) _ _ _ _ _ = _
    rw [L41_11_eq, show binV E0 .lss 3 false false (.int .i64 0) (.int .i64 ((0 : Nat) : Int)) = some (.bool false) from rfl, oB, ifK_bool, cond_false, exB_same]
  · obtain ⟨T, lf2, t1, t2, t3, t4⟩ := L41_spec (m := m) (N := rounds) h.on hb hfl hf hw h4 (by omega) hx h5 h.ld h.lf l3 h6 (R41_0 (ev E0 KD m) rounds (finN E0 (ev E0 KD m) Try.f41) noEx) (exB 0 (R41_0 (ev E0 KD m) rounds (finN E0 (ev E0 KD m) Try.f41) noEx) noEx) l.length 0 rounds lf S (Nat.zero_add _) (by unfold rounds; omega) hfl hf (Grew.refl _ _)
    rw [exB_same] at t1
    exact ⟨T, lf2, by rw [← h2]; exact t1, t2, t3, t4⟩
 obtain ⟨T, lf2, t1, t2, t3, t4⟩ := hloop
 have onT := t4.on.trans h.on
 have hdf : ¬ (db = fb) := blk_ne gd gf (by decide)
 have hbT := hb.grew h.ld hdf t4
 have hxT := hx.grew l3 (show ¬ (xb = fb) from blk_ne gx gf (by decide)) t4
 obtain ⟨U, u1, u2, u3, u4⟩ := VarAt.stv onT hbT (i := 0 + 1) (by omega) (v := .nilslice) ⟨rfl, rfl, rfl, rfl⟩
 have nT := t4.next
 have ld := h.ld
 have lf' := h.lf
 refine ⟨U, rd41 ?_, ⟨u3.on.trans onT, ⟨ops, u2⟩, ⟨lf2, t2, t3.grew (by omega) (show ¬ (fb = db) from fun e => hdf e.symm) u3⟩, .inl ⟨rfl, rfl⟩, by omega, by omega⟩, (t4.mono fun z _ hz => .inr (.inl hz)).trans (u3.mono fun z _ hz => .inl hz)⟩
 show F41 (ev E0 KD m) rounds (.ptr xb 0) S = _
 rw [F41_eq, Bx.ldv h.on hx big1 rfl, oB]
 dsimp only
 rw [ncp, oB, faPg, oB, VarAt.ldv h.on hb (i := 0 + 1) rfl, oB]
 dsimp only
 rw [h.wr.len, oB]
 dsimp only
 refine t1.trans ?_
 rw [R41_0_eq, Bx.ldv onT hxT big1 rfl, oB]
 dsimp only
 rw [ncp, oB, faPg, oB, u1, oB]
 dsimp only
 rw [fin41]
theorem flush_run (m : Nat) {db fb : Nat} {wv : V} {k : Nat} (h : DAt S db fb wv k) (hk : k ≤ 1000) :
 ∃ U, (ev E0 KD (m + 3)).f 25 [.ptr db 0] S = some (.ret (.int .i64 0), U) ∧ DAt U db fb .nilslice 0 ∧ Grew (DW db fb S) S U := by
 obtain ⟨A, a1, a2, a3, a4⟩ := box_one h.on 23 (v := .ptr db 0) ⟨rfl, rfl, rfl, rfl⟩
 have hA := h.grew a3
 have ld := h.ld
 obtain ⟨U, u1, u2, u3⟩ := op_run m hA (.fn (.func 41) [] [.ptr S.next 0]) (P := fun U => DAt U db fb .nilslice 0 ∧ Grew (DW db fb S) S U) (fun Y hY gY => by
  have nY := gY.next
  obtain ⟨U, w1, w2, w3⟩ := flush1_run m hY hk (a2.grew (by omega) (show ¬ (S.next = db) by omega) gY) (by omega)
  refine ⟨U, ?_, w2, dgrew (dgrew (dgrew0 a3) (gY.mono fun z _ hz => .inl hz)) w3⟩
  rw [callK_fn ext_none (by kernel_rfl)]
  exact w1)
 refine ⟨U, rd25 ?_, u2, u3⟩
 show F25 (ev E0 KD (m + 2)) rounds (.ptr db 0) S = _
 rw [F25_eq, a1, oB]
 dsimp only
 have lx : ld1 (.ptr S.next 0) A = some (.ptr db 0, A) := Bx.ldv hA.on a2 big1 rfl
 rw [lx, oB]
 dsimp only
 rw [show binV E0 .eql 23 false true (.ptr db 0) .nilptr = some (.bool false) from by kernel_rfl, oB, ifK_bool, cond_false, lx, oB]
 dsimp only
 rw [u1, callP_ret]
end
end Go.Proofs.YtbfdabjcgcbimaaR.W
namespace Go.Proofs.YtbfdabjcgcbimaaR.W
open Go.Proofs.YtbfdabjcgcbimaaR.Ev Go.RowKit
section
variable {s S T U X Y : St}
theorem u8wrap (x : Int) : ∃ c : UInt8, IntKind.u8.wrap x = (c.toNat : Int) := by
 have h : 0 ≤ IntKind.u8.wrap x ∧ IntKind.u8.wrap x < 256 := by
  unfold IntKind.wrap
  simp [IntKind.min, IntKind.max, IntKind.bits, IntKind.signed]
  omega
 refine ⟨UInt8.ofNat (IntKind.u8.wrap x).toNat, ?_⟩
 rw [UInt8.toNat_ofNat']
 omega
theorem shrI (k : IntKind) (t : TypeId) (n : Int) (d : Nat) : ∃ y, binV E0 .shr t false false (.int k n) (.int .i64 (d : Int)) = some (.int k y) := ⟨_, rfl⟩
theorem und69 : und E0 69 = some (.array 16 5) := by kernel_rfl
theorem subI (a b : Nat) (h : b ≤ a) (ha : a < 1000) : binV E0 .sub 3 true false (.int .i64 (a : Int)) (.int .i64 (b : Int)) = some (.int .i64 ((a - b : Nat) : Int)) := by
 rw [binV_ii, intsV_sub, wrap_i64 (by omega) (by omega), Int.ofNat_sub h]
theorem mulI (a b : Nat) (h : a * b < 1000) : binV E0 .mul 3 true false (.int .i64 (a : Int)) (.int .i64 (b : Int)) = some (.int .i64 ((a * b : Nat) : Int)) := by
 rw [binV_ii, intsV_mul, ← Int.natCast_mul, wrap_i64 (by omega) (by omega)]
theorem addI (a b : Nat) (h : a + b < 1000) : binV E0 .add 3 true false (.int .i64 (a : Int)) (.int .i64 (b : Int)) = some (.int .i64 ((a + b : Nat) : Int)) := by
 rw [binV_ii, intsV_add, wrap_i64 (by omega) (by omega)]
 rfl
theorem L46_spec {m N : Nat} (v1 v2 : V) (n : Int) {b : Nat} (nk : Ac → St → Rs) (ek : Nat → Ac → St → Rs) :
 ∀ (d i q : Nat) (bs : Bs) (S : St), S.on = false → i + d = 8 → d < q → VarAt S b 69 16 (bs.map byteV) →
 ∃ (T : St) (bs' : Bs), L24_46 (ev E0 KD m) N nk ek q (.int .u64 n) v1 v2 (.ptr b 0) (.int .i64 (i : Int)) S = ek 0 (fr 55 [(1, v1), (2, v2), (7, .ptr b 0)]) T ∧ VarAt T b 69 16 (bs'.map byteV) ∧ Grew (fun x => x = b) S T
 | d, i, 0, bs, S, _, _, hq, _ => by omega
 | 0, i, q + 1, bs, S, ho, hi, hq, h => by
  refine ⟨S, bs, ?_, h, Grew.refl _ _⟩
  rw [L24_46_eq, binV_ii, intsV_lss, show decide ((i : Int) < 8) = false from by simp; omega, oB, ifK_bool, cond_false]
 | d + 1, i, q + 1, bs, S, ho, hi, hq, h => by
  have e8 : (V.int .i64 8) = .int .i64 ((8 : Nat) : Int) := rfl
  have e56 : (V.int .i64 56) = .int .i64 ((56 : Nat) : Int) := rfl
  obtain ⟨y, hy⟩ := shrI .u64 42 n (56 - 8 * i)
  obtain ⟨c, hc⟩ := u8wrap y
  obtain ⟨A, a1, a2, a3, a4⟩ := VarAt.stv ho h (i := i) (by omega) (oneV_int .u8 (c.toNat : Int))
  obtain ⟨T, bs', t1, t2, t3⟩ := L46_spec (m := m) (N := N) v1 v2 n nk ek d (i + 1) q (bs.set i c) A (a3.on.trans ho) (by omega) (by omega) (by rw [List.map_set]; exact a2)
  refine ⟨T, bs', ?_, t2, a3.trans t3⟩
  rw [L24_46_eq, binV_ii, intsV_lss, show decide ((i : Int) < 8) = true from by simp; omega, oB, ifK_bool, cond_true, e8, mulI 8 i (by omega), oB, e56, subI 56 (8 * i) (by omega) (by omega), oB, hy, oB, cvI_int, hc, oB]
  dsimp only
  rw [ixA_ptr 16 1 false 1 .i64 (show i < 16 by omega), oB, Nat.zero_add, Nat.mul_one, a1, oB]
  dsimp only
  rw [succNat (by omega), oB, t1]
theorem L18_spec {m N : Nat} (n1 n2 : Int) {b : Nat} (nk : Ac → St → Rs) (ek : Nat → Ac → St → Rs) :
 ∀ (d i q : Nat) (bs : Bs) (S : St), S.on = false → i + d = 4 → d < q → VarAt S b 69 16 (bs.map byteV) →
 ∃ (T : St) (bs' : Bs), L24_18 (ev E0 KD m) N nk ek q (.int .i64 n1) (.int .i64 n2) (.ptr b 0) (.int .i64 (i : Int)) S = ek 2 (fr 55 [(7, .ptr b 0)]) T ∧ VarAt T b 69 16 (bs'.map byteV) ∧ Grew (fun x => x = b) S T
 | d, i, 0, bs, S, _, _, hq, _ => by omega
 | 0, i, q + 1, bs, S, ho, hi, hq, h => by
  refine ⟨S, bs, ?_, h, Grew.refl _ _⟩
  rw [L24_18_eq, binV_ii, intsV_lss, show decide ((i : Int) < 4) = false from by simp; omega, oB, ifK_bool, cond_false]
 | d + 1, i, q + 1, bs, S, ho, hi, hq, h => by
  have e8 : (V.int .i64 8) = .int .i64 ((8 : Nat) : Int) := rfl
  have e12 : (V.int .i64 12) = .int .i64 ((12 : Nat) : Int) := rfl
  have e24 : (V.int .i64 24) = .int .i64 ((24 : Nat) : Int) := rfl
  obtain ⟨y1, hy1⟩ := shrI .i64 3 n1 (24 - 8 * i)
  obtain ⟨y2, hy2⟩ := shrI .i64 3 n2 (24 - 8 * i)
  obtain ⟨c1, hc1⟩ := u8wrap y1
  obtain ⟨c2, hc2⟩ := u8wrap y2
  obtain ⟨A, a1, a2, a3, a4⟩ := VarAt.stv ho h (i := 8 + i) (by omega) (oneV_int .u8 (c1.toNat : Int))
  have onA := a3.on.trans ho
  obtain ⟨LA, a1'⟩ := stP_on ho a1
  obtain ⟨B, b1, b2, b3, b4⟩ := VarAt.stv onA a2 (i := 12 + i) (by omega) (oneV_int .u8 (c2.toNat : Int))
  have onB := b3.on.trans onA
  obtain ⟨LB, b1'⟩ := stP_on onA b1
  obtain ⟨U, u1, u2, u3, u4⟩ := relog_any ho B LB [[], [], [], [], [], [], [], [], [], (S.lg []).log, [], [], [], [], [], (S.lg []).log, [], (A.lg LA).log, [], (B.lg LB).log]
  have gU : Grew (fun x => x = b) S U := Grew.same (a3.trans b3) u2 u3 (u4.trans onB.symm)
  obtain ⟨T, bs', t1, t2, t3⟩ := L18_spec (m := m) (N := N) n1 n2 nk ek d (i + 1) q ((bs.set (8 + i) c1).set (12 + i) c2) U (gU.on.trans ho) (by omega) (by omega) (by rw [List.map_set, List.map_set]; exact VarAt.same b2 u2)
  refine ⟨T, bs', ?_, t2, gU.trans t3⟩
  rw [L24_18_eq, binV_ii, intsV_lss, show decide ((i : Int) < 4) = true from by simp; omega, oB, ifK_bool, cond_true, e8, addI 8 i (by omega), oB, e12, addI 12 i (by omega), oB, mulI 8 i (by omega), oB, e24, subI 24 (8 * i) (by omega) (by omega), oB, hy1, oB, cvI_int, hc1, oB, oB, subI 24 (8 * i) (by omega) (by omega), oB, hy2, oB]
  simp only [ons, lglg]
  rw [cvI_int, hc2, oB, ixA_ptr 16 1 false 1 .i64 (show 8 + i < 16 by omega), oB, Nat.zero_add, Nat.mul_one]
  simp only [ons, lglg]
  rw [a1', oB, ixA_ptr 16 1 false 1 .i64 (show 12 + i < 16 by omega), oB, Nat.zero_add, Nat.mul_one]
  simp only [ons, lglg]
  rw [b1', oB]
  dsimp only
  rw [endP_of (pairs_any fun p hp j hj e he f hf => ?_), u1, succNat (by omega), oB, t1]
  simp only [List.mem_cons, List.not_mem_nil, or_false] at hp
  rcases hp with rfl | rfl
  · have he' : e ∈ ([] : List LE) := he
    cases he'
  · have he' : e ∈ ([] : List LE) := he
    cases he'
theorem sl69 (b : Nat) (S : St) : sliceV E0 69 (.ptr b 0) none none none S = some (.slice b 0 16 16, S) := by
 unfold sliceV
 rw [und69]
 simp only [oB]
 rw [size5]
 rfl
theorem sl77 (b : Nat) (S : St) : sliceV E0 77 (.slice b 0 80 80) (some (.int .i64 64)) none none S = some (.slice b 64 16 16, S) := by
 unfold sliceV
 rw [und77]
 simp only [oB]
 rw [show (V.int .i64 64) = .int .i64 ((64 : Nat) : Int) from rfl, bounds_lo .i64 (by omega), size5]
 rfl
theorem R3_spec {m N : Nat} (ho : S.on = false) {b : Nat} {bs : Bs} (hb : b < S.next) (hv : VarAt S b 69 16 (bs.map byteV)) (nk : Ac → St → Rs) (ek : Nat → Ac → St → Rs) :
 ∃ U x, R24_3 (ev E0 KD m) N nk ek (fr 55 [(7, .ptr b 0)]) S = some (.ret (sv x), U) ∧ x.length = 80 ∧ Grew (fun _ => False) S U := by
 obtain ⟨S1, m1, m2, m3, m4⟩ := makeBytes (E := E0) ho el77 zero5 (n := 80) (by unfold maxCells; omega)
 have on1 := m3.on.trans ho
 have hv1 := hv.grew hb (fun h => h) m3
 obtain ⟨S2, c1, c2, c3, c4⟩ := cpP_var on1 m2 hv1 (by decide) (off := 0) (len := 80) (cap := 80) (off2 := 0) (len2 := 16) (cap2 := 16) (by simp) (by omega)
 have on2 := c3.on.trans on1
 have hlen : bs.length = 16 := by rw [← hv.len, List.length_map]
 have hv2 := hv1.grew (by omega) (show ¬ (b = S.next) by omega) c3
 have h80 : (over (List.replicate 80 (0 : UInt8)) 0 ((bs.drop 0).take (min 16 80))).length = 80 := by
  rw [over_length (by rw [List.length_take, List.length_drop, List.length_replicate]; omega), List.length_replicate]
 obtain ⟨S3, d1, d2, d3, d4⟩ := cpP_var on2 c2 hv2 (by decide) (off := 64) (len := 16) (cap := 16) (off2 := 0) (len2 := 16) (cap2 := 16) (by rw [h80]; omega) (by omega)
 have h80' : (over (over (List.replicate 80 (0 : UInt8)) 0 ((bs.drop 0).take (min 16 80))) 64 ((bs.drop 0).take (min 16 16))).length = 80 := by
  rw [over_length (by rw [h80, List.length_take, List.length_drop]; omega), h80]
 obtain ⟨on3, l', d5⟩ := cpP_lg on2 d1 []
 obtain ⟨S4, u1, u2, u3, u4⟩ := relog_any on2 S3 l' [[], (S2.lg []).log, (S2.lg []).log, (S3.lg l').log]
 have hrow := d2.same u2
 refine ⟨S4, _, ?_, h80', ?_⟩
 · rw [R24_3_eq, show (V.int .i64 80) = .int .i64 ((80 : Nat) : Int) from rfl, m1, oB]
   dsimp only
   rw [sl69, oB]
   dsimp only
   rw [c1, oB]
   simp only [ons, lglg]
   rw [sl77, oB]
   simp only [ons, lglg]
   rw [sl69, oB]
   simp only [ons, lglg]
   rw [d5, oB]
   dsimp only
   rw [endP_of (by rfl), u1, convert_row u4 und77 und5 und9 hrow (by rw [h80']; omega), oB]
   dsimp only
   rw [List.drop_zero, List.take_of_length_le (by rw [h80']; exact Nat.le_refl _)]
 · have g3 : Grew (fun _ => False) S S3 := Grew.own (Grew.own m3 (Nat.le_refl _) c3) (Nat.le_refl _) d3
   exact Grew.same g3 u2 u3 (u4.trans on3.symm)
theorem sector_run (m : Nat) (ho : S.on = false) (n n1 n2 : Int) : ∃ U x, (ev E0 KD (m + 1)).f 24 [.int .u64 n, .int .i64 n1, .int .i64 n2] S = some (.ret (sv x), U) ∧ x.length = 80 ∧ Grew (fun _ => False) S U := by
 have v0 := varAt_new (s := S) ho (t := 69) (z := 16) (l := (List.replicate 16 (0 : UInt8)).map byteV) (by simp) (by omega) (by unfold big; decide)
 have g0 := grew_nwP (s := S) ho (fun _ => False) 69 16 (Tr.ofListFrom .nil ((List.replicate 16 (0 : UInt8)).map byteV) 0)
 have hlit : nwP 69 16 (Tr.ofListFrom .nil [(.int .u8 0), (.int .u8 0), (.int .u8 0), (.int .u8 0), (.int .u8 0), (.int .u8 0), (.int .u8 0), (.int .u8 0), (.int .u8 0), (.int .u8 0), (.int .u8 0), (.int .u8 0), (.int .u8 0), (.int .u8 0), (.int .u8 0), (.int .u8 0)] 0) S = nwP 69 16 (Tr.ofListFrom .nil ((List.replicate 16 (0 : UInt8)).map byteV) 0) S := rfl
 have hnext : (nwP 69 16 (Tr.ofListFrom .nil ((List.replicate 16 (0 : UInt8)).map byteV) 0) S).2.next = S.next + 1 := rfl
 have hF : F24 (ev E0 KD m) rounds (.int .u64 n) (.int .i64 n1) (.int .i64 n2) S = L24_46 (ev E0 KD m) rounds (R24_2 (ev E0 KD m) rounds (finN E0 (ev E0 KD m) Try.f24) noEx) (exB 0 (R24_2 (ev E0 KD m) rounds (finN E0 (ev E0 KD m) Try.f24) noEx) noEx) rounds (.int .u64 n) (.int .i64 n1) (.int .i64 n2) (.ptr S.next 0) (.int .i64 0) (nwP 69 16 (Tr.ofListFrom .nil ((List.replicate 16 (0 : UInt8)).map byteV) 0) S).2 := by
  rw [F24_eq, hlit, oB, nwP_fst]
 generalize (nwP 69 16 (Tr.ofListFrom .nil ((List.replicate 16 (0 : UInt8)).map byteV) 0) S).2 = S0 at *
 have on0 := g0.on.trans ho
 obtain ⟨A, bs, a1, a2, a3⟩ := L46_spec (m := m) (N := rounds) (.int .i64 n1) (.int .i64 n2) n (R24_2 (ev E0 KD m) rounds (finN E0 (ev E0 KD m) Try.f24) noEx) (exB 0 (R24_2 (ev E0 KD m) rounds (finN E0 (ev E0 KD m) Try.f24) noEx) noEx) 8 0 rounds (List.replicate 16 0) S0 on0 (by omega) (by unfold rounds; omega) v0
 have onA := a3.on.trans on0
 obtain ⟨B, bs', b1, b2, b3⟩ := L18_spec (m := m) (N := rounds) n1 n2 (R24_3 (ev E0 KD m) rounds (fun a s => projK [6] a fun a => finN E0 (ev E0 KD m) Try.f24 a s) noEx) (exB 2 (R24_3 (ev E0 KD m) rounds (fun a s => projK [6] a fun a => finN E0 (ev E0 KD m) Try.f24 a s) noEx) noEx) 4 0 rounds bs A onA (by omega) (by unfold rounds; omega) a2
 have onB := b3.on.trans onA
 have nA := a3.next
 have nB := b3.next
 obtain ⟨U, x, u1, u2, u3⟩ := R3_spec (m := m) (N := rounds) onB (by omega) b2 (fun a s => projK [6] a fun a => finN E0 (ev E0 KD m) Try.f24 a s) noEx
 refine ⟨U, x, rd24 ?_, u2, (Grew.own (Grew.own g0 (Nat.le_refl _) a3) (Nat.le_refl _) b3).trans u3⟩
 show F24 (ev E0 KD m) rounds (.int .u64 n) (.int .i64 n1) (.int .i64 n2) S = _
 rw [hF, show (V.int .i64 0) = .int .i64 ((0 : Nat) : Int) from rfl, a1, exB_same, R24_2_eq, show (V.int .i64 0) = .int .i64 ((0 : Nat) : Int) from rfl, b1, exB_same, u1]
end
end Go.Proofs.YtbfdabjcgcbimaaR.W
namespace Go.Proofs.YtbfdabjcgcbimaaR.W
open Go.Proofs.YtbfdabjcgcbimaaR.Ev Go.RowKit
section
variable {s S T U X Y : St}
def VL (S : St) (v : V) (l : List V) (N : Nat) : Prop := (l = [] ∧ v = .nilslice) ∨ ∃ r, v = .oslice r 0 l.length 1 ∧ RowAt S r 56 1 (l.map Go.Proofs.YtbfdabjcgcbimaaR.Ev.one) ∧ r < S.next ∧ N ≤ r ∧ 0 < l.length
theorem VL.nil {N : Nat} : VL S .nilslice [] N := .inl ⟨rfl, rfl⟩
theorem VL.grew {W : Nat → Prop} {v : V} {l : List V} {N : Nat} (h : VL S v l N) (g : Grew W S U) (hw : ∀ r, RowAt S r 56 1 (l.map Go.Proofs.YtbfdabjcgcbimaaR.Ev.one) → ¬ W r) : VL U v l N := by
 rcases h with h | ⟨r, h0, h1, h2, h3⟩
 · exact .inl h
 · exact .inr ⟨r, h0, h1.grew h2 (hw r h1) g, Nat.lt_of_lt_of_le h2 g.next, h3⟩
theorem VL.same {v : V} {l : List V} {N : Nat} (h : VL S v l N) (h1 : U.heap = S.heap) (h2 : U.next = S.next) : VL U v l N := by
 rcases h with h | ⟨r, h0, k1, k2, h3⟩
 · exact .inl h
 · exact .inr ⟨r, h0, k1.same h1, by rw [h2]; exact k2, h3⟩
theorem VL.len {v : V} {l : List V} {N : Nat} (h : VL S v l N) (U : St) : lnS v U = some (.int .i64 (l.length : Int), U) := by
 rcases h with ⟨rfl, rfl⟩ | ⟨r, rfl, _⟩ <;> rfl
theorem VL.ld (ho : S.on = false) {v : V} {l : List V} {N i : Nat} {a : V} (h : VL S v l N) (ha : l[i]? = some a) : ∃ p, ixP 1 v (.int .i64 (i : Int)) = some p ∧ ld1 p S = some (a, S) := by
 obtain ⟨hi, _⟩ := List.getElem?_eq_some_iff.1 ha
 rcases h with ⟨rfl, _⟩ | ⟨r, rfl, h1, _⟩
 · cases hi
 · refine ⟨.ptr r (0 + i * 1), ?_, ?_⟩
   · show (bif Nat.blt i l.length then some (V.ptr r (0 + i * 1)) else none) = _
     rw [blt_true.2 hi]; rfl
   · rw [Nat.zero_add, Nat.mul_one]
     exact h1.ld1 ho (by rw [List.getElem?_map, ha]; rfl)
theorem VL.blk {v : V} {l : List V} {N r : Nat} (h : VL S v l N) (hr : blkOf v = some r) : N ≤ r ∧ RowAt S r 56 1 (l.map Go.Proofs.YtbfdabjcgcbimaaR.Ev.one) := by
 rcases h with ⟨_, rfl⟩ | ⟨r', rfl, h1, h2, h3, _⟩
 · cases hr
 · cases hr; exact ⟨h3, h1⟩
theorem VL.push (ho : S.on = false) {v : V} {l : List V} {N : Nat} (h : VL S v l N) (hN : N ≤ S.next) (hl : l.length < 100000) {a : V} (ha : OneV a) :
 ∃ y W v' U, bsP 56 1 1 (Go.Proofs.YtbfdabjcgcbimaaR.Ev.one .nilfn) [(0, a)] S = some (y, W) ∧ apP 56 1 8 v y W = some (v', U) ∧ VL U v' (l ++ [a]) N ∧ Grew (fun x => blkOf v = some x) S U := by
 obtain ⟨W, h1, h2, h3, h4⟩ := bsP_one ho 56 (Go.Proofs.YtbfdabjcgcbimaaR.Ev.one .nilfn) ha
 have on1 := h3.on.trans ho
 rcases h with ⟨rfl, rfl⟩ | ⟨r, rfl, hr, hr2, hr3, h0⟩
 · obtain ⟨U, k1, k2, k3, k4⟩ := ap1_first (B := 8) on1 h2 (by unfold maxCells; omega)
   exact ⟨_, W, _, U, h1, k1, .inr ⟨W.next, rfl, k2, by omega, by omega, by simp⟩, (h3.trans k3).mono fun _ _ h => h.elim⟩
 · have hrow := hr.grew hr2 (fun h => h) h3
   obtain ⟨U, k1, k2, k3, k4⟩ := ap1_more (B := 8) on1 h2 hrow (by rw [List.length_map]; unfold maxCells; omega) (by rw [List.length_map]; unfold big; omega)
   rw [List.length_map] at k1
   refine ⟨_, W, _, U, h1, k1, .inr ⟨W.next, by rw [List.length_append]; rfl, ?_, by omega, by omega, by rw [List.length_append]; omega⟩, (h3.mono fun _ _ h => h.elim).trans (k3.mono fun x _ e => by subst e; rfl)⟩
   rw [List.map_append]
   exact k2
theorem VL.push3 (ho : S.on = false) {v : V} {l : List V} {N : Nat} (h : VL S v l N) (hN : N ≤ S.next) (hl : l.length < 100000) {a b c : V} (ha : OneV a) (hb : OneV b) (hc : OneV c) :
 ∃ y W v' U, bsP 56 1 3 (Go.Proofs.YtbfdabjcgcbimaaR.Ev.one .nilfn) [(0, a), (1, b), (2, c)] S = some (y, W) ∧ apP 56 1 8 v y W = some (v', U) ∧ VL U v' (l ++ [a, b, c]) N ∧ Grew (fun x => blkOf v = some x) S U := by
 have h3 := grew_nw ho (fun _ => False) (.cells 56 1 3 false ((((Tr.tab 3 3 fun _ => Go.Proofs.YtbfdabjcgcbimaaR.Ev.one .nilfn).set (Go.Proofs.YtbfdabjcgcbimaaR.Ev.one a) 0).set (Go.Proofs.YtbfdabjcgcbimaaR.Ev.one b) 1).set (Go.Proofs.YtbfdabjcgcbimaaR.Ev.one c) 2))
 have h1 : bsP 56 1 3 (Go.Proofs.YtbfdabjcgcbimaaR.Ev.one .nilfn) [(0, a), (1, b), (2, c)] S = some (.slice S.next 0 3 3, nw S (.cells 56 1 3 false ((((Tr.tab 3 3 fun _ => Go.Proofs.YtbfdabjcgcbimaaR.Ev.one .nilfn).set (Go.Proofs.YtbfdabjcgcbimaaR.Ev.one a) 0).set (Go.Proofs.YtbfdabjcgcbimaaR.Ev.one b) 1).set (Go.Proofs.YtbfdabjcgcbimaaR.Ev.one c) 2))) := by
  unfold bsP fillE fillE fillE fillE
  simp only [ha.size, ha.tup, ha.cells, hb.size, hb.tup, hb.cells, hc.size, hc.tup, hc.cells, Nat.beq_refl, Bool.not_false, Bool.and_true, show Nat.blt 0 3 = true from rfl, show Nat.blt 1 3 = true from rfl, show Nat.blt 2 3 = true from rfl, cond_true, Tr.setC_eq, oB]
 have h2 : RowAt (nw S (.cells 56 1 3 false ((((Tr.tab 3 3 fun _ => Go.Proofs.YtbfdabjcgcbimaaR.Ev.one .nilfn).set (Go.Proofs.YtbfdabjcgcbimaaR.Ev.one a) 0).set (Go.Proofs.YtbfdabjcgcbimaaR.Ev.one b) 1).set (Go.Proofs.YtbfdabjcgcbimaaR.Ev.one c) 2))) S.next 56 1 [Go.Proofs.YtbfdabjcgcbimaaR.Ev.one a, Go.Proofs.YtbfdabjcgcbimaaR.Ev.one b, Go.Proofs.YtbfdabjcgcbimaaR.Ev.one c] := rowAt_nw ho (by omega) rfl (by unfold big; omega) fun i t h => by
  rw [Tr.get_set, Tr.get_set, Tr.get_set]
  match i, h with
  | 0, h => simpa using h
  | 1, h => simpa using h
  | 2, h => simpa using h
  | i + 3, h => simp at h
 generalize hW : nw S (.cells 56 1 3 false ((((Tr.tab 3 3 fun _ => Go.Proofs.YtbfdabjcgcbimaaR.Ev.one .nilfn).set (Go.Proofs.YtbfdabjcgcbimaaR.Ev.one a) 0).set (Go.Proofs.YtbfdabjcgcbimaaR.Ev.one b) 1).set (Go.Proofs.YtbfdabjcgcbimaaR.Ev.one c) 2)) = W at h1 h2 h3
 have nW : W.next = S.next + 1 := by rw [← hW]; rfl
 have on1 := h3.on.trans ho
 have hld := h2.ldN on1 3 0 (by simp)
 simp only [Nat.zero_mul, List.drop_zero] at hld
 rw [show List.take 3 [Go.Proofs.YtbfdabjcgcbimaaR.Ev.one a, Go.Proofs.YtbfdabjcgcbimaaR.Ev.one b, Go.Proofs.YtbfdabjcgcbimaaR.Ev.one c] = [Go.Proofs.YtbfdabjcgcbimaaR.Ev.one a, Go.Proofs.YtbfdabjcgcbimaaR.Ev.one b, Go.Proofs.YtbfdabjcgcbimaaR.Ev.one c] from rfl] at hld
 rcases h with ⟨rfl, rfl⟩ | ⟨r, rfl, hr, hr2, hr3, h0⟩
 · have g := grew_nw on1 (fun _ => False) (.cells 56 1 3 false (Tr.ofListFrom .nil [Go.Proofs.YtbfdabjcgcbimaaR.Ev.one a, Go.Proofs.YtbfdabjcgcbimaaR.Ev.one b, Go.Proofs.YtbfdabjcgcbimaaR.Ev.one c] 0))
   refine ⟨_, W, .oslice W.next 0 3 1, newCells W 56 1 [Go.Proofs.YtbfdabjcgcbimaaR.Ev.one a, Go.Proofs.YtbfdabjcgcbimaaR.Ev.one b, Go.Proofs.YtbfdabjcgcbimaaR.Ev.one c], h1, ?_, .inr ⟨W.next, rfl, rowAt_newCells on1 (by omega) (by unfold big; simp), by show W.next < W.next + 1; omega, by omega, by simp⟩, (h3.trans g).mono fun _ _ h => h.elim⟩
   unfold apP
   simp only [Go.Proofs.YtbfdabjcgcbimaaR.Ev.lenV, oB, show Nat.blt ((0 + 3) * (8 + 1 + 1)) maxCells = true from rfl, cond_true]
   unfold appendV firstV
   simp only [hld, oB, show Nat.beq 3 0 = false from rfl, cond_false]
 · have hrow := hr.grew hr2 (fun h => h) h3
   obtain ⟨cc, hc1, hc2⟩ := hrow.row
   rw [List.length_map] at hc1
   have hlen : (l ++ [a, b, c]).length = l.length + 3 := by rw [List.length_append]; rfl
   have hrow2 : RowAt (nw (W.put r .dead) (.cells 56 1 (l.length + 3) false (((cc.set (Go.Proofs.YtbfdabjcgcbimaaR.Ev.one a) l.length).set (Go.Proofs.YtbfdabjcgcbimaaR.Ev.one b) (l.length + 1)).set (Go.Proofs.YtbfdabjcgcbimaaR.Ev.one c) (l.length + 2)))) W.next 56 1 ((l ++ [a, b, c]).map Go.Proofs.YtbfdabjcgcbimaaR.Ev.one) :=
    rowAt_nw (s := W.put r .dead) on1 (by omega) (by rw [List.length_map, hlen]) (by unfold big; omega) fun i u hu => by
     rw [Tr.get_set, Tr.get_set, Tr.get_set]
     have hlt := (List.getElem?_eq_some_iff.1 hu).1
     rw [List.length_map, hlen] at hlt
     rw [List.map_append] at hu
     by_cases h5 : i < l.length
     · rw [if_neg (by omega), if_neg (by omega), if_neg (by omega)]
       rw [List.getElem?_append_left (by rw [List.length_map]; exact h5)] at hu
       exact hc2 i u hu
     · rw [List.getElem?_append_right (by rw [List.length_map]; omega), List.length_map] at hu
       by_cases e0 : i = l.length
       · subst e0
         rw [if_neg (by omega), if_neg (by omega), if_pos rfl]
         rw [Nat.sub_self] at hu
         exact hu
       · by_cases e1 : i = l.length + 1
         · subst e1
           rw [if_neg (by omega), if_pos rfl]
           rw [show l.length + 1 - l.length = 1 by omega] at hu
           exact hu
         · have e2 : i = l.length + 2 := by omega
           subst e2
           rw [if_pos rfl]
           rw [show l.length + 2 - l.length = 2 by omega] at hu
           exact hu
   refine ⟨_, W, .oslice W.next 0 (l.length + 3) 1, nw (W.put r .dead) (.cells 56 1 (l.length + 3) false (((cc.set (Go.Proofs.YtbfdabjcgcbimaaR.Ev.one a) l.length).set (Go.Proofs.YtbfdabjcgcbimaaR.Ev.one b) (l.length + 1)).set (Go.Proofs.YtbfdabjcgcbimaaR.Ev.one c) (l.length + 2))), h1, ?_, .inr ⟨W.next, by rw [hlen], hrow2, by show W.next < W.next + 1; omega, by omega, by rw [hlen]; omega⟩, ?_⟩
   · unfold apP
     have hm : Nat.blt ((l.length + 3) * (8 + 1 + 1)) maxCells = true := by rw [blt_true]; unfold maxCells; omega
     simp only [Go.Proofs.YtbfdabjcgcbimaaR.Ev.lenV, oB, hm, cond_true]
     unfold appendV firstV
     simp only [hld, oB, Nat.beq_refl, cond_true]
     unfold sizeB
     rw [hc1]
     have hb' : Nat.ble (0 + (l.length + 3) * 1) (1 * l.length) = false := by
      cases hh : Nat.ble (0 + (l.length + 3) * 1) (1 * l.length) with
      | false => rfl
      | true => rw [ble_true] at hh; omega
     have hfit : 1 * l.length < big := by unfold big; omega
     simp only [blt_true.2 hfit, cond_true, oB, note_off on1, hb', cond_false]
     unfold growV
     rw [hc1]
     simp only [Nat.beq_refl, Bool.not_true, Bool.or_self, cond_false, blt_true.2 hfit, Bool.and_self, cond_true]
     unfold addLC addLC addLC addLC
     simp only [Tr.setC_eq]
     unfold setO
     rw [note_off on1]
   · refine ⟨by show S.next ≤ W.next + 1; omega, (nw_on (s := W.put r .dead) on1 _).trans ho.symm, fun x hx hw => ?_⟩
     rw [nw_get, if_neg (by show x ≠ W.next; omega), put_get, if_neg (fun e => hw (by rw [e]; rfl))]
     exact h3.keep x hx (fun h => h)
theorem first_run (m : Nat) (ho : S.on = false) {t : Tr V} {at' half w : Nat} (h1 : t.get 1 = some (.int .i64 (at' : Int))) (h2 : t.get 2 = some (.int .i64 (half : Int))) (hb : at' + 2 + w * half < 100000) (hb2 : w * half < 100000) :
 ∃ U, (ev E0 KD (m + 1)).f 35 [.agg 3 t, .int .i64 (w : Int)] S = some (.ret (.int .i64 ((at' + 2 + w * half : Nat) : Int)), U) ∧ Grew (fun _ => False) S U := by
 obtain ⟨A, a1, a2, a3, a4⟩ := box_agg ho 41 3 t (by omega) (by unfold big; decide)
 have onA := a3.on.trans ho
 refine ⟨A, rd35 ?_, a3⟩
 show F35 (ev E0 KD m) rounds (.agg 3 t) (.int .i64 (w : Int)) S = _
 rw [F35_eq, a1, oB]
 dsimp only
 rw [faPg, oB, row_fld onA a2 (j := 0 + 1) (by omega) h1, oB]
 dsimp only
 rw [binV_ii, intsV_add, wrap_i64 (by omega) (by omega), oB, faPg, oB, row_fld onA a2 (j := 0 + 2) (by omega) h2, oB]
 dsimp only
 rw [binV_ii, intsV_mul, ← Int.natCast_mul, wrap_i64 (by omega) (by omega), oB, binV_ii, intsV_add, wrap_i64 (by omega) (by omega), oB]
 rfl
theorem room_run (m : Nat) (ho : S.on = false) {t : Tr V} {half : Nat} (h2 : t.get 2 = some (.int .i64 (half : Int))) (hb : half < 10000) :
 ∃ U, (ev E0 KD (m + 1)).f 15 [.agg 3 t] S = some (.ret (.int .i64 ((half * 128 : Nat) : Int)), U) ∧ Grew (fun _ => False) S U := by
 obtain ⟨A, a1, a2, a3, a4⟩ := box_agg ho 41 3 t (by omega) (by unfold big; decide)
 have onA := a3.on.trans ho
 refine ⟨A, rd15 ?_, a3⟩
 show F15 (ev E0 KD m) rounds (.agg 3 t) S = _
 rw [F15_eq, a1, oB]
 dsimp only
 rw [faPg, oB, row_fld onA a2 (j := 0 + 2) (by omega) h2, oB]
 dsimp only
 rw [show (V.int .i64 128) = .int .i64 ((128 : Nat) : Int) from rfl, binV_ii, intsV_mul, ← Int.natCast_mul, wrap_i64 (by omega) (by omega), oB]
def PutC (S : St) (f : V) (db a : Nat) (x : Bs) : Prop := ∃ b0 b1 b2 t, f = .fn (.func 38) [] [.ptr b0 0, .ptr b1 0, .ptr b2 0] ∧ RowAt S b0 41 3 [t] ∧ t.get 0 = some (.ptr db 0) ∧ Bx S b1 3 [.int .i64 (a : Int)] ∧ Bx S b2 9 [sv x] ∧ b0 < S.next ∧ b1 < S.next ∧ b2 < S.next
def FlC (f : V) (db : Nat) : Prop := f = .fn (.func 25) [.ptr db 0] []
def Todo (S : St) (db : Nat) (f : V) : Prop := FlC f db ∨ ∃ a x, PutC S f db a x ∧ a < 8 ∧ x.length ≤ 128
theorem Todo.oneV {f : V} {db : Nat} (h : Todo S db f) : OneV f := by
 rcases h with rfl | ⟨a, x, ⟨b0, b1, b2, t, rfl, _⟩, _⟩ <;> exact ⟨rfl, rfl, rfl, rfl⟩
theorem Todo.grew {W : Nat → Prop} {f : V} {db : Nat} (h : Todo S db f) (g : Grew W S U) (hw : ∀ x e z n c, S.heap.get x = some (.cells e z n false c) → (e = 41 ∨ e = 3 ∨ e = 9) → ¬ W x) : Todo U db f := by
 rcases h with h | ⟨a, x, ⟨b0, b1, b2, t, h0, h1, h2, h3, h4, l0, l1, l2⟩, h5⟩
 · exact .inl h
 · obtain ⟨c0, g0⟩ := RowAt.get h1
   obtain ⟨c1, g1⟩ := bx_get h3
   obtain ⟨c2, g2⟩ := bx_get h4
   exact .inr ⟨a, x, ⟨b0, b1, b2, t, h0, h1.grew l0 (hw _ _ _ _ _ g0 (.inl rfl)) g, h2, h3.grew l1 (hw _ _ _ _ _ g1 (.inr (.inl rfl))) g, h4.grew l2 (hw _ _ _ _ _ g2 (.inr (.inr rfl))) g, Nat.lt_of_lt_of_le l0 g.next, Nat.lt_of_lt_of_le l1 g.next, Nat.lt_of_lt_of_le l2 g.next⟩, h5⟩
theorem Todo.same {f : V} {db : Nat} (h : Todo S db f) (h1 : U.heap = S.heap) (h2 : U.next = S.next) : Todo U db f := by
 rcases h with h | ⟨a, x, ⟨b0, b1, b2, t, k0, k1, k2, k3, k4, l0, l1, l2⟩, h5⟩
 · exact .inl h
 · refine .inr ⟨a, x, ⟨b0, b1, b2, t, k0, k1.same h1, k2, ?_, ?_, by omega, by omega, by omega⟩, h5⟩
   · unfold Bx at k3 ⊢; rw [h1]; exact k3
   · unfold Bx at k4 ⊢; rw [h1]; exact k4
theorem put_run (m : Nat) (ho : S.on = false) {db a : Nat} {t : Tr V} {x : Bs} (ht : t.get 0 = some (.ptr db 0)) (ha : a < 8) (hx : x.length ≤ 128) : ∃ f U, (ev E0 KD (m + 1)).f 23 [.agg 3 t, .int .i64 (a : Int), sv x] S = some (.ret f, U) ∧ Todo U db f ∧ Grew (fun _ => False) S U := by
 obtain ⟨A, a1, a2, a3, a4⟩ := box_agg ho 41 3 t (by omega) (by unfold big; decide)
 have onA := a3.on.trans ho
 obtain ⟨B, b1, b2, b3, b4⟩ := box_one onA 3 (oneV_int .i64 (a : Int))
 have onB := b3.on.trans onA
 obtain ⟨C, c1, c2, c3, c4⟩ := box_one onB 9 (oneV_sv x)
 refine ⟨_, C, rd23 ?_, .inr ⟨a, x, ⟨S.next, A.next, B.next, t, rfl, (a2.grew (by omega) (fun h => h) b3).grew (by omega) (fun h => h) c3, ht, b2.grew (by omega) (fun h => h) c3, c2, by omega, by omega, by omega⟩, ha, hx⟩, (a3.trans b3).trans c3⟩
 show F23 (ev E0 KD m) rounds (.agg 3 t) (.int .i64 (a : Int)) (sv x) S = _
 rw [F23_eq, a1, oB]
 dsimp only
 rw [b1, oB]
 dsimp only
 rw [c1, oB]
theorem todo_run (m : Nat) {db fb : Nat} {wv f : V} {k : Nat} (h : DAt S db fb wv k) (hk : k ≤ 900) (hf : Todo S db f) : ∃ U wv' k', callK E0 (ev E0 KD (m + 4)) f [] S = some (.ret (.int .i64 0), U) ∧ DAt U db fb wv' k' ∧ k' ≤ k + 1 ∧ Grew (DW db fb S) S U := by
 rcases hf with rfl | ⟨a, x, ⟨b0, b1, b2, t, rfl, h1, h2, h3, h4, l0, l1, l2⟩, ha, hx⟩
 · obtain ⟨U, u1, u2, u3⟩ := flush_run (m + 1) h (by omega)
   refine ⟨U, _, 0, ?_, u2, by omega, u3⟩
   rw [callK_fn ext_none (by kernel_rfl)]
   exact u1
 · obtain ⟨U, u1, wv', u2, u3⟩ := write_run m h (by omega) ha hx
   refine ⟨U, wv', k + 1, ?_, u2, Nat.le_refl _, u3⟩
   rw [callK_fn ext_none (by kernel_rfl)]
   refine rd38 ?_
   show F38 (ev E0 KD (m + 3)) rounds (.ptr b0 0) (.ptr b1 0) (.ptr b2 0) S = _
   rw [F38_eq, faPg, oB, row_fld h.on h1 (j := 0 + 0) (by omega) h2, oB]
   dsimp only
   rw [Bx.ldv h.on h3 big1 rfl, oB]
   dsimp only
   rw [Bx.ldv h.on h4 big1 rfl, oB]
   dsimp only
   rw [u1, callP_ret]
theorem L22_spec {m N M db fb : Nat} {v : V} {l : List V} (hll : l.length ≤ 1000) (nk : Ac → St → Rs) (ek : Nat → Ac → St → Rs) :
 ∀ (d i q : Nat) (wv : V) (k : Nat) (U : St), i + d = l.length → d < q → VL U v l M → (∀ f ∈ l, Todo U db f) → DAt U db fb wv k → k + d ≤ 900 →
 ∃ T wv' k', L22_6 (ev E0 KD (m + 4)) N nk ek q v (.int .i64 (l.length : Int)) (.int .i64 (i : Int)) U = ek 0 (fr 18 []) T ∧ DAt T db fb wv' k' ∧ k' ≤ k + d ∧ Grew (DW db fb U) U T
 | d, i, 0, wv, k, U, _, hq, _, _, _, _ => by omega
 | 0, i, q + 1, wv, k, U, hi, hq, hv, hl, hd, hk => by
  refine ⟨U, wv, k, ?_, hd, Nat.le_refl _, Grew.refl _ _⟩
  rw [L22_6_eq, binV_ii, intsV_lss, dec_ge (by omega), oB, ifK_bool, cond_false]
 | d + 1, i, q + 1, wv, k, U, hi, hq, hv, hl, hd, hk => by
  have hil : i < l.length := by omega
  obtain ⟨p, p1, p2⟩ := hv.ld hd.on (List.getElem?_eq_getElem hil)
  obtain ⟨A, wv1, k1, a1, a2, a3, a4⟩ := todo_run m hd (by omega) (hl _ (List.getElem_mem hil))
  have hvA := hv.grew a4 (fun r hr => let ⟨c, g⟩ := RowAt.get hr; not_dw hd g (by decide) (by decide) (by decide))
  have hlA : ∀ f ∈ l, Todo A db f := fun f hf => (hl f hf).grew a4 (fun x e z n c hg he => by
   rcases he with rfl | rfl | rfl <;> exact not_dw hd hg (by decide) (by decide) (by decide))
  obtain ⟨T, wv', k', t1, t2, t3, t4⟩ := L22_spec (m := m) (N := N) hll nk ek d (i + 1) q wv1 k1 A (by omega) (by omega) hvA hlA a2 (by omega)
  refine ⟨T, wv', k', ?_, t2, by omega, dgrew a4 t4⟩
  rw [L22_6_eq, binV_ii, intsV_lss, dec_lt hil, oB, ifK_bool, cond_true, p1, oB, p2, oB]
  dsimp only
  rw [a1, callP_ret, neqE, oB, decide_eq_true rfl, Bool.not_true, ifK_bool, cond_false, succNat (by omega), oB, t1]
theorem inOrder_run (m : Nat) {M db fb : Nat} {v wv : V} {k : Nat} {l : List V} (hv : VL S v l M) (hl : ∀ f ∈ l, Todo S db f) (hd : DAt S db fb wv k) (hk : k + l.length ≤ 900) :
 ∃ T wv' k', (ev E0 KD (m + 5)).f 22 [v] S = some (.ret (.int .i64 0), T) ∧ DAt T db fb wv' k' ∧ k' ≤ k + l.length ∧ Grew (DW db fb S) S T := by
 obtain ⟨T, wv', k', t1, t2, t3, t4⟩ := L22_spec (m := m) (N := rounds) (by omega) (R22_1 (ev E0 KD (m + 4)) rounds (finN E0 (ev E0 KD (m + 4)) Try.f22) noEx) (exB 0 (R22_1 (ev E0 KD (m + 4)) rounds (finN E0 (ev E0 KD (m + 4)) Try.f22) noEx) noEx) l.length 0 rounds wv k S (Nat.zero_add _) (by unfold rounds; omega) hv hl hd hk
 refine ⟨T, wv', k', rd22 ?_, t2, t3, t4⟩
 show F22 (ev E0 KD (m + 4)) rounds v S = _
 rw [F22_eq, hv.len, oB]
 dsimp only
 rw [show (V.int .i64 0) = .int .i64 ((0 : Nat) : Int) from rfl, t1, exB_same, R22_1_eq]
 rfl
end
end Go.Proofs.YtbfdabjcgcbimaaR.W
namespace Go.Proofs.YtbfdabjcgcbimaaR.W
open Go.Proofs.YtbfdabjcgcbimaaR.Ev Go.RowKit
theorem cost_len : ∀ l : List Bs, l.length ≤ costL l
 | [] => Nat.le_refl _
 | a :: l => by
  have := cost_len l
  unfold costL at this ⊢
  rw [List.map_cons, List.sum_cons, List.length_cons]
  have h1 : 1 ≤ costT a := by unfold costT; omega
  omega
theorem cost_mem : ∀ {l : List Bs} {t : Bs}, t ∈ l → t.length ≤ costL l
 | a :: l, t, h => by
  unfold costL
  rw [List.map_cons, List.sum_cons]
  rcases List.mem_cons.1 h with rfl | h
  · unfold costT; omega
  · have := cost_mem h
    unfold costL at this
    omega
section
variable {s S T U X Y : St}
def jCells (db : Nat) (lv : V) (num : Int) (w h : Nat) : List V := [.ptr db 0, .int .i64 0, .int .i64 3, lv, .int .u64 num, .int .i64 (w : Int), .int .i64 (h : Int), .bool false]
structure JAt (S : St) (jb db fb : Nat) (lv : V) (recs : List Bs) (K : Nat) : Prop where
 bx : ∃ (num : Int) (w h : Nat), w ≤ 1 ∧ h ≤ 1 ∧ VarAt S jb 44 8 (jCells db lv num w h)
 l : TLo S lv recs 0
 dk : ∃ wv k, DAt S db fb wv k ∧ k ≤ K
 lj : jb < S.next
 cost : costL recs ≤ 384
def JW (jb db fb : Nat) (S : St) (x : Nat) : Prop := x = jb ∨ DW db fb S x
theorem JAt.on {jb db fb : Nat} {lv : V} {recs : List Bs} {K : Nat} (h : JAt S jb db fb lv recs K) : S.on = false := let ⟨_, _, d, _⟩ := h.dk; d.on
theorem TLo.weak {v : V} {l : List Bs} {M N : Nat} (h : TLo S v l N) (hM : M ≤ N) : TLo S v l M := by
 rcases h with h | ⟨r, h0, h1, h2, h3, h4⟩
 · exact .inl h
 · exact .inr ⟨r, h0, h1, h2, by omega, h4⟩
theorem TLo.grewW {W : Nat → Prop} {v : V} {l : List Bs} {N : Nat} (h : TLo S v l N) (g : Grew W S U) (hw : ∀ r, RowAt S r 9 1 (rowOf l) → ¬ W r) : TLo U v l N := by
 rcases h with h | ⟨r, h0, h1, h2, h3⟩
 · exact .inl h
 · exact .inr ⟨r, h0, h1.grew h2 (hw r h1) g, Nat.lt_of_lt_of_le h2 g.next, h3⟩
theorem not_jw {jb db fb : Nat} {lv : V} {recs : List Bs} {K : Nat} (h : JAt S jb db fb lv recs K) {x e z n : Nat} {c : Tr (Tr V)} (hx : S.heap.get x = some (.cells e z n false c)) (h0 : e ≠ 44) (h1 : e ≠ 52) (h2 : e ≠ 80) (h3 : e ≠ 82) : ¬ JW jb db fb S x := by
 obtain ⟨_, _, _, _, _, hb⟩ := h.bx
 obtain ⟨c1, g1⟩ := VarAt.get hb
 obtain ⟨_, _, hd, _⟩ := h.dk
 rintro (rfl | hw)
 · exact blk_ne hx g1 h0 rfl
 · exact not_dw hd hx h1 h2 h3 hw
theorem TLo.jgrew {jb db fb : Nat} {lv v : V} {recs l : List Bs} {K N : Nat} (hj : JAt S jb db fb lv recs K) (h : TLo S v l N) (g : Grew (JW jb db fb S) S U) : TLo U v l N :=
 h.grewW g fun _ hr => let ⟨_, hg⟩ := RowAt.get hr; not_jw hj hg (by decide) (by decide) (by decide) (by decide)
theorem JAt.grew {jb db fb : Nat} {lv : V} {recs : List Bs} {K : Nat} (h : JAt S jb db fb lv recs K) (g : Grew (fun _ => False) S U) : JAt U jb db fb lv recs K := by
 obtain ⟨num, w, hh, h1, h2, hb⟩ := h.bx
 obtain ⟨wv, k, hd, hk⟩ := h.dk
 exact ⟨⟨num, w, hh, h1, h2, hb.grew h.lj (fun h => h) g⟩, h.l.grew g, ⟨wv, k, hd.grew g, hk⟩, Nat.lt_of_lt_of_le h.lj g.next, h.cost⟩
theorem jgrew0 {jb db fb : Nat} (g : Grew (fun _ => False) S U) : Grew (JW jb db fb S) S U := g.mono fun _ _ h => h.elim
theorem jgrew {jb db fb : Nat} (g : Grew (JW jb db fb S) S U) (g' : Grew (JW jb db fb U) U T) : Grew (JW jb db fb S) S T :=
 ⟨Nat.le_trans g.next g'.next, g'.on.trans g.on, fun x hx hw => by
  have h1 := g.keep x hx hw
  refine (g'.keep x (Nat.lt_of_lt_of_le hx g.next) fun hw' => hw ?_).trans h1
  rcases hw' with h | h | h | ⟨l, hr⟩
  · exact .inl h
  · exact .inr (.inl h)
  · exact .inr (.inr (.inl h))
  · obtain ⟨c, c1, c2⟩ := hr.row
    exact .inr (.inr (.inr ⟨l, hr.pos, hr.fit, c, by rw [← h1]; exact c1, c2⟩))⟩
theorem on_jb {n f jb : Nat} {args : List V} {l : List V} {r : V} (hj : VarAt S jb 44 8 l) (hlt : jb < S.next) (h1 : (ev E0 KD n).f f args S = some (.ret r, U)) (k1 : ∀ c, ∃ q, (ev E0 KD n).f f args (icy S jb 44 8 1 c) = some q) :
 ∃ L, (ev E0 KD n).f f args (S.lg []) = some (.ret r, U.lg L) ∧ ∀ e ∈ L, e.w = false ∨ e.b ≠ jb := by
 obtain ⟨c, hc⟩ := VarAt.get hj
 obtain ⟨q, hq⟩ := k1 c
 obtain ⟨L, q1, q2⟩ := Fz.ev_log fzD lgD (icy_same hc hlt) hq h1
 exact ⟨L, q1, q2⟩
theorem icy_on {b e z n : Nat} {c : Tr (Tr V)} (ho : S.on = false) : (icy S b e z n c).on = false := ho
theorem TLo.icy {v : V} {l : List Bs} {N : Nat} {jl : List V} {jb n : Nat} {c : Tr (Tr V)} (h : TLo S v l N) (hj : VarAt S jb 44 8 jl) : TLo (icy S jb 44 8 n c) v l N :=
 h.grewW (grew_put (s := S) jb _) fun r hr => let ⟨_, g⟩ := RowAt.get hr; let ⟨_, g'⟩ := VarAt.get hj; (show ¬ (r = jb) from blk_ne g g' (by decide))
theorem j_fld (ho : S.on = false) {jb o i : Nat} {l : List V} {v : V} (hj : VarAt S jb 44 8 l) (hi : l[o + i]? = some v) : ld1 (.ptr jb (o + i)) (S.lg []) = some (v, S.lg [⟨jb, o + i, o + i + 1, false⟩]) := ld1_lg ho (VarAt.ldv ho hj hi) []
theorem j_place (ho : S.on = false) {jb db : Nat} {lv : V} {num : Int} {w h : Nat} (hj : VarAt S jb 44 8 (jCells db lv num w h)) :
 ∃ u, ldA 3 (.ptr jb (0 + 0)) S = some (.agg 3 u, S) ∧ ldA 3 (.ptr jb (0 + 0)) (S.lg []) = some (.agg 3 u, S.lg [⟨jb, 0 + 0, 0 + 0 + 3, false⟩]) ∧ u.get 0 = some (.ptr db 0) ∧ u.get 1 = some (.int .i64 ((0 : Nat) : Int)) ∧ u.get 2 = some (.int .i64 ((3 : Nat) : Int)) := by
 obtain ⟨t, ht, hg⟩ := VarAt.rowAt hj
 obtain ⟨u, hu, hv⟩ := row_part ho ht (off := 0 + 0) (k := 3) (by omega) (by omega)
 refine ⟨u, ?_, ?_, hv 0 _ (by omega) (hg 0 _ rfl), hv 1 _ (by omega) (hg 1 _ rfl), hv 2 _ (by omega) (hg 2 _ rfl)⟩
 · unfold Go.Proofs.YtbfdabjcgcbimaaR.Ev.ldA
   simp only
   rw [hu]; rfl
 · unfold Go.Proofs.YtbfdabjcgcbimaaR.Ev.ldA
   simp only
   rw [ldK_on ho hu []]; rfl
theorem cf {jb : Nat} {e f : LE} (h1 : e.w = false ∧ e.b = jb) (h2 : f.w = false ∨ f.b ≠ jb) : e.b ≠ f.b ∨ (e.w = false ∧ f.w = false) := by
 rcases h2 with h | h
 · exact .inr ⟨h1.1, h⟩
 · exact .inl (by rw [h1.2]; exact fun e => h e.symm)
theorem cf' {jb : Nat} {e f : LE} (h1 : e.w = false ∨ e.b ≠ jb) (h2 : f.w = false ∧ f.b = jb) : e.b ≠ f.b ∨ (e.w = false ∧ f.w = false) := by
 rcases h1 with h | h
 · exact .inr ⟨h, h2.1⟩
 · exact .inl (by rw [h2.2]; exact h)
theorem one_rd {jb o k : Nat} : ∀ e ∈ [(⟨jb, o, k, false⟩ : LE)], e.w = false ∧ e.b = jb := fun e he => by cases List.mem_singleton.1 he; exact ⟨rfl, rfl⟩
theorem mulC {a b : Nat} (h : a * b < 100000) : binV E0 .mul 3 false true (.int .i64 (a : Int)) (.int .i64 (b : Int)) = some (.int .i64 ((a * b : Nat) : Int)) := by
 rw [binV_ii, intsV_mul, ← Int.natCast_mul, wrap_i64 (by omega) (by omega)]
theorem min2 (a b : Nat) (S : St) : foldK minV (.int .i64 (a : Int)) [(.int .i64 (b : Int))] S = some (.int .i64 ((min a b : Nat) : Int), S) := by
 rw [foldK_min]
 congr 3
 omega
theorem L90_spec {m N jb db w : Nat} {lv nv : V} {num : Int} {w0 h0 : Nat} {x : Bs} (ho : X.on = false) (hj : VarAt X jb 44 8 (jCells db lv num w0 h0)) (hlt : jb < X.next) (hw : w ≤ 1) (hx : x.length ≤ 384) (nk : Ac → St → Rs) (ek : Nat → Ac → St → Rs) :
 ∀ (d i q : Nat) (v : V) (fs : List V) (U : St), x.length ≤ (i + d) * 128 → i ≤ 3 → d < q → fs.length + d ≤ 100 → Grew (fun _ => False) X U → VL U v fs X.next → (∀ f ∈ fs, Todo U db f) →
 ∃ (v' : V) (fs' : List V) (T : St), L19_90 (ev E0 KD (m + 1)) N nk ek q (.ptr jb 0) (.int .i64 (w : Int)) nv (sv x) v (.int .i64 (i : Int)) U = ek 0 (fr 121 [(0, .ptr jb 0), (1, .int .i64 (w : Int)), (3, nv), (9, sv x), (10, v')]) T ∧ VL T v' fs' X.next ∧ (∀ f ∈ fs', Todo T db f) ∧ fs'.length ≤ fs.length + d ∧ Grew (fun _ => False) X T
 | d, i, 0, v, fs, U, _, _, hq, _, _, _, _ => by omega
 | 0, i, q + 1, v, fs, U, hd, h3, hq, hf, g, hv, ht => by
  have e128 : (V.int .i64 128) = .int .i64 ((128 : Nat) : Int) := rfl
  have hlss : binV E0 .lss 3 false false (.int .i64 ((i * 128 : Nat) : Int)) (.int .i64 (x.length : Int)) = some (.bool (decide (i * 128 < x.length))) := lssNat _ _
  refine ⟨v, fs, U, ?_, hv, ht, by omega, g⟩
  rw [L19_90_eq, e128, mulC (by omega), oB, lnStr_sv, oB]
  dsimp only
  rw [hlss, oB, decide_eq_false (by omega), ifK_bool, cond_false]
 | d + 1, i, q + 1, v, fs, U, hd, h3, hq, hf, g, hv, ht => by
  have onU := g.on.trans ho
  have e128 : (V.int .i64 128) = .int .i64 ((128 : Nat) : Int) := rfl
  have hlss : binV E0 .lss 3 false false (.int .i64 ((i * 128 : Nat) : Int)) (.int .i64 (x.length : Int)) = some (.bool (decide (i * 128 < x.length))) := lssNat _ _
  by_cases hc : i * 128 < x.length
  case neg =>
   refine ⟨v, fs, U, ?_, hv, ht, by omega, g⟩
   rw [L19_90_eq, e128, mulC (by omega), oB, lnStr_sv, oB]
   dsimp only
   rw [hlss, oB, decide_eq_false (by omega), ifK_bool, cond_false]
  case pos =>
   have hjU := hj.grew hlt (fun h => h) g
   have ltU : jb < U.next := Nat.lt_of_lt_of_le hlt g.next
   obtain ⟨u, p1, p2, p3, p4, p5⟩ := j_place onU hjU
   obtain ⟨A, a1, a2⟩ := first_run m onU (w := w) p4 p5 (by omega) (by omega)
   obtain ⟨LA, a1', a3⟩ := on_jb hjU ltU a1 (fun c => let ⟨_, z, _⟩ := first_run m (icy_on (c := c) onU) (w := w) p4 p5 (by omega) (by omega); ⟨_, z⟩)
   have onA := a2.on.trans onU
   have hmin : i * 128 ≤ min ((i + 1) * 128) x.length := by omega
   have hsl : ∀ Y, sliceV E0 9 (sv x) (some (.int .i64 ((i * 128 : Nat) : Int))) (some (.int .i64 ((min ((i + 1) * 128) x.length : Nat) : Int))) none Y = some (sv ((x.drop (i * 128)).take (min ((i + 1) * 128) x.length - i * 128)), Y) := fun Y => slice_sv und9 x (bounds_lohi .i64 .i64 hmin (Nat.min_le_right ..)) (Nat.min_le_right ..)
   obtain ⟨f, B, b1, b2, b3⟩ := put_run m onA (db := db) (a := 0 + 2 + w * 3 + i) (x := (x.drop (i * 128)).take (min ((i + 1) * 128) x.length - i * 128)) p3 (by omega) (by rw [List.length_take]; omega)
   obtain ⟨LB, b1'⟩ := Lg.ev_lg lgD b1 []
   have onB := b3.on.trans onA
   have gB := (g.trans a2).trans b3
   have hvB : VL B v fs X.next := hv.grew (a2.trans b3) (fun _ _ h => h)
   obtain ⟨y, W, v', C, c1, c2, c3, c4⟩ := hvB.push onB gB.next (by omega) b2.oneV
   obtain ⟨L1, c1'⟩ := lg_of (lg_bsP _ _ _ _ _) c1 []
   obtain ⟨L2, c2'⟩ := lg_of (lg_apP _ _ _ _ _) c2 []
   have gC : Grew (fun _ => False) X C := Grew.fresh gB (Nat.le_refl _) (c4.mono fun z _ h => (hvB.blk h).1)
   have onC := gC.on.trans ho
   obtain ⟨U', u1, u2, u3, u4⟩ := relog_any onU C [] [[], [], [], [], (U.lg [⟨jb, 0 + 0, 0 + 0 + 3, false⟩]).log, [], [], [], (U.lg [⟨jb, 0 + 0, 0 + 0 + 3, false⟩]).log, [], (A.lg LA).log, [], [], [], [], [], [], [], [], [], (A.lg []).log, (A.lg []).log, (A.lg []).log, (B.lg LB).log, (W.lg L1).log, (C.lg L2).log, []]
   have hprs : pairsOk [[], [], [], [], (U.lg [⟨jb, 0 + 0, 0 + 0 + 3, false⟩]).log, [], [], [], (U.lg [⟨jb, 0 + 0, 0 + 0 + 3, false⟩]).log, [], (A.lg LA).log, [], [], [], [], [], [], [], [], [], (A.lg []).log, (A.lg []).log, (A.lg []).log, (B.lg LB).log, (W.lg L1).log, (C.lg L2).log, []] [(4, [8, 10, 20, 21, 22]), (8, [20, 21, 22]), (10, [20, 21, 22])] = true := by
    refine pairs_any fun p hp j hj e he f hf => ?_
    have no : ∀ {f : LE}, f ∈ ([] : List LE) → False := fun h => by cases h
    simp only [List.mem_cons, List.not_mem_nil, or_false] at hp
    rcases hp with rfl | rfl | rfl <;> simp only [List.mem_cons, List.not_mem_nil, or_false] at hj
    · rcases hj with rfl | rfl | rfl | rfl | rfl
      · exact cf (one_rd e he) (.inl (one_rd (jb := jb) f hf).1)
      · exact cf (one_rd e he) (a3 f hf)
      all_goals exact (no hf).elim
    · rcases hj with rfl | rfl | rfl <;> exact (no hf).elim
    · rcases hj with rfl | rfl | rfl <;> exact (no hf).elim
   have htB : ∀ f', Todo B db f' → Todo U' db f' := fun f' hT => Todo.same (Todo.grew hT c4 (fun x e z n c hg he hb => by
    obtain ⟨_, hr⟩ := hvB.blk hb
    obtain ⟨_, g'⟩ := RowAt.get hr
    exact blk_ne hg g' (by rcases he with rfl | rfl | rfl <;> decide) rfl)) u2 u3
   have htC : ∀ f' ∈ fs ++ [f], Todo U' db f' := fun f' hf' => by
    rcases List.mem_append.1 hf' with h | h
    · exact htB f' (Todo.grew (ht f' h) (a2.trans b3) (fun _ _ _ _ _ _ _ h => h))
    · rw [List.mem_singleton.1 h]
      exact htB f b2
   obtain ⟨v2, fs2, T, t1, t2, t3, t4, t5⟩ := L90_spec (m := m) (N := N) ho hj hlt hw hx nk ek d (i + 1) q v' (fs ++ [f]) U' (by omega) (by omega) (by omega) (by rw [List.length_append, List.length_singleton]; omega) (Grew.same gC u2 u3 (u4.trans onC.symm)) (c3.same u2 u3) htC
   refine ⟨v2, fs2, T, ?_, t2, t3, by rw [List.length_append, List.length_singleton] at t4; omega, t5⟩
   rw [L19_90_eq, e128, mulC (by omega), oB, lnStr_sv, oB]
   dsimp only
   rw [hlss, oB, decide_eq_true hc, ifK_bool, cond_true, ncp, oB, faPg 0 2 0 true jb, oB]
   simp only [ons, lglg]
   rw [p2, oB, oB, faPg 0 2 0 true jb, oB]
   simp only [ons, lglg]
   rw [p2, oB]
   simp only [ons, lglg]
   rw [a1', callD_ret, addNat (by omega), oB, oB, succNat (by omega), oB, mulC (by omega), oB]
   simp only [ons, lglg]
   rw [lnStr_sv, oB]
   simp only [ons, lglg]
   rw [min2, oB]
   simp only [ons, lglg]
   rw [hsl, oB]
   simp only [ons, lglg]
   rw [b1', callD_ret]
   simp only [ons, lglg]
   rw [c1', oB]
   simp only [ons, lglg]
   rw [c2', oB]
   simp only [ons, lglg]
   rw [endP_of hprs, u1, oB, t1]
end
end Go.Proofs.YtbfdabjcgcbimaaR.W
