/-
  WHAT THE FUNCTIONS COME TO: each is read by the evaluator, printed, and told as a function of data, part 8 of 13 (no condition).
-/
import Derived.Test.YthmkdoaaciamlaaW7
namespace Go.Proofs.Ythmkdoaaciamlaa.W
open Go.Proofs.Ythmkdoaaciamlaa.Ev
structure RSt where
 left : List UInt8
 lost : Bool
noncomputable def rdO (q : RSt) : O := bxO 62 [sv q.left, .bool q.lost]
theorem rdO_inj {p q : RSt} (h : rdO p = rdO q) : p = q := by
 have h := bxO_inj h
 simp only [List.cons.injEq, V.bool.injEq, and_true] at h
 cases p; cases q
 simp only at h
 rw [sv_inj h.1, h.2]
structure RdAt (s : St) (b : Nat) (q : RSt) : Prop where
 on : s.on = false
 bx : Bx s b 62 [sv q.left, .bool q.lost]
theorem set_two0 (x y v : V) : (Tr.ofListFrom .nil [x, y] 0).set v 0 = Tr.ofListFrom .nil [v, y] 0 := by kernel_rfl
theorem set_two1 (x y v : V) : (Tr.ofListFrom .nil [x, y] 0).set v 1 = Tr.ofListFrom .nil [x, v] 0 := by kernel_rfl
section
variable {s : St}
theorem bx_st0 (ho : s.on = false) {b e : Nat} {x y v : V} (h : Bx s b e [x, y]) (h1 : v.size = 1) (h2 : v.cells = one v) (h3 : isTuple v = false) : stP 1 (.ptr b 0) v s = some (.tuple [], s.put b (bxO e [v, y])) := by
 show vu (bif Nat.beq v.size 1 && !isTuple v then stK s b 0 1 v.cells else none) = _
 rw [h1, h2, h3]
 have hst : stK s b 0 1 (one v) = some (s.put b (bxO e [v, y])) := by
  unfold stK
  rw [h]
  simp only [List.length_cons, List.length_nil, show Nat.ble (0 + 1) (2 * 1) = true from rfl, blt_true.2 (show 2 * 1 < big by unfold big; decide), Bool.and_self, Bool.not_false, cond_true]
  unfold elemTo
  rw [show Nat.beq 1 (0 + 1 + 1) = false from rfl]
  have hv0 : (one v).get 0 = some v := rfl
  simp only [Bool.false_and, cond_false, cellsTo, Tr.setC_eq, hv0, oB, Nat.add_zero, show 0 / (0 + 1 + 1) = 0 from rfl, show 0 % (0 + 1 + 1) = 0 from rfl]
  rw [Tr.get_ofList]
  simp only [List.getElem?_cons_zero, oB, set_two0, set_one, note_off ho]
  rfl
 rw [hst]; rfl
theorem bx_st1 (ho : s.on = false) {b e : Nat} {x y v : V} (h : Bx s b e [x, y]) (h1 : v.size = 1) (h2 : v.cells = one v) (h3 : isTuple v = false) : stP 1 (.ptr b 1) v s = some (.tuple [], s.put b (bxO e [x, v])) := by
 show vu (bif Nat.beq v.size 1 && !isTuple v then stK s b 1 1 v.cells else none) = _
 rw [h1, h2, h3]
 have hst : stK s b 1 1 (one v) = some (s.put b (bxO e [x, v])) := by
  unfold stK
  rw [h]
  simp only [List.length_cons, List.length_nil, show Nat.ble (1 + 1) (2 * 1) = true from rfl, blt_true.2 (show 2 * 1 < big by unfold big; decide), Bool.and_self, Bool.not_false, cond_true]
  unfold elemTo
  rw [show Nat.beq 1 (0 + 1 + 1) = false from rfl]
  have hv0 : (one v).get 0 = some v := rfl
  simp only [Bool.false_and, cond_false, cellsTo, Tr.setC_eq, hv0, oB, Nat.add_zero, show 1 / (0 + 1 + 1) = 0 from rfl, show 1 % (0 + 1 + 1) = 1 from rfl]
  rw [Tr.get_ofList]
  simp only [List.getElem?_cons_zero, oB, set_two1, set_one, note_off ho]
  rfl
 rw [hst]; rfl
theorem bx_put (b e : Nat) (l : List V) : Bx (s.put b (bxO e l)) b e l := by
 show (s.put b (bxO e l)).heap.get b = some (bxO e l)
 rw [put_get, if_pos rfl]
theorem big2 : 2 < big := by unfold big; decide
variable {b : Nat} {q : RSt}
theorem RdAt.ld0 (h : RdAt s b q) : ld1 (.ptr b 0) s = some (sv q.left, s) := Bx.ld1 h.on h.bx 0 (by show 0 < 2; decide) big2
theorem RdAt.ldl (h : RdAt s b q) : ld1 (.ptr b 1) s = some (.bool q.lost, s) := Bx.ld1 h.on h.bx 1 (by show 1 < 2; decide) big2
theorem RdAt.o0 (h : RdAt s b q) : ld1 (.ptr b 0) (onS s) = some (sv q.left, rd s b 0 1) := Bx.ld1On h.on h.bx 0 (by show 0 < 2; decide) big2
theorem RdAt.ol (h : RdAt s b q) : ld1 (.ptr b 1) (onS s) = some (.bool q.lost, rd s b 1 1) := Bx.ld1On h.on h.bx 1 (by show 1 < 2; decide) big2
theorem RdAt.grew {W : Nat → Prop} {u : St} (h : RdAt s b q) (hb : b < s.next) (hw : ¬ W b) (g : Grew W s u) : RdAt u b q := ⟨g.on.trans h.on, h.bx.grew hb hw g⟩
theorem RdAt.put (h : s.on = false) (b : Nat) (q : RSt) : RdAt (s.put b (rdO q)) b q := ⟨h, bx_put b 62 _⟩
theorem RdAt.st0 (h : RdAt s b q) (u : List UInt8) : stP 1 (.ptr b 0) (sv u) s = some (.tuple [], s.put b (rdO ⟨u, q.lost⟩)) := bx_st0 h.on h.bx rfl rfl rfl
theorem RdAt.st1 (h : RdAt s b q) (u : Bool) : stP 1 (.ptr b 1) (.bool u) s = some (.tuple [], s.put b (rdO ⟨q.left, u⟩)) := bx_st1 h.on h.bx rfl rfl rfl
theorem relog_onS (h : s.on = false) (ls : List (List LE)) : relog s (onS s) ls = s := by
 unfold relog
 rw [h]
 cases s
 simp only at h
 subst h
 rfl
end
structure RIn where
 b : Nat
 q : RSt
 fit : q.left.length < 100000000
noncomputable def encR (x : RIn) : List V := [.ptr x.b 0]
noncomputable def preR (x : RIn) : List (Nat × O) := [(x.b, rdO x.q)]
noncomputable def postR (nx : RSt → RSt) (x : RIn) : List (Nat × O) := [(x.b, rdO (nx x.q))]
theorem effU_R : EffU encR preR := fun x y s h1 h2 h3 => by
 simp only [encR, List.cons.injEq, V.ptr.injEq, and_true] at h1
 have h2 := h2 (x.b, rdO x.q) (List.mem_singleton.2 rfl)
 have h3 := h3 (y.b, rdO y.q) (List.mem_singleton.2 rfl)
 simp only at h2 h3
 rw [h1, h3] at h2
 simp only [oS] at h2
 have := rdO_inj h2
 cases x; cases y
 simp only at h1 this
 subst h1 this
 rfl
noncomputable def kfR (o : RSt → V) (nx : RSt → RSt) : KF := effKF encR preR (postR nx) fun x => .ret (o x.q)
theorem rdO_under (N : Nat) (q : RSt) : OUnder N (rdO q) := bxO_under fun v hv => by
 simp only [List.mem_cons, List.not_mem_nil, or_false] at hv
 rcases hv with rfl | rfl
 · exact under_sv _
 · exact .bool _
theorem kfR_run {o : RSt → V} {nx : RSt → RSt} {S : St} {b : Nat} {q : RSt} (hB : RdAt S b q) (fit : q.left.length < 100000000) : ∃ S', (kfR o nx).run [.ptr b 0] S = some (.ret (o q), S') ∧ RdAt S' b (nx q) ∧ Grew (fun x => x = b) S S' ∧ S'.next = S.next :=
 ⟨S.put b (rdO (nx q)), effKF_run (enc := encR) (pre := preR) (post := postR nx) (out := fun x => En.ret (o x.q)) effU_R hB.on ⟨b, q, fit⟩ (fun p hp => by
  rw [preR, List.mem_singleton] at hp
  subst hp
  exact hB.bx), RdAt.put hB.on b _, grew_put b _, rfl⟩
theorem knR {K : FuncId → Option KF} (hK : KnOk Try.prog E0 K) {f : FuncId} {fn : Func} {c : Code} {d : D} (o : RSt → V) (nx : RSt → RSt) (hu : ∀ N q, Under N (o q)) (hf : E0.fns.get f = some fn) (hb : fn.body = some c) (hd : isOf d c)
 (n : Nat) (h : ∀ b q S, q.left.length < 100000000 → b < S.next → RdAt S b q → ∃ S', runF E0 (ev E0 K n) rounds fn d [.ptr b 0] S = some (.ret (o q), S') ∧ RdAt S' b (nx q) ∧ Grew (fun x => x = b) S S') : KnWell Try.prog E0 f (kfR o nx) :=
 effKF_text effU_R (fun x N hx p hp => by
  rw [postR, List.mem_singleton] at hp
  subst hp
  exact ⟨hx (x.b, rdO x.q) (List.mem_singleton.2 rfl), rdO_under N _⟩) (fun x p hp => by
  rw [preR, List.mem_singleton] at hp
  subst hp
  rfl) E0_ok hK hf hb hd fun x S ho hh hl => by
  obtain ⟨S', h1, h2, h3⟩ := h x.b x.q S x.fit (hl (x.b, rdO x.q) (List.mem_singleton.2 rfl)) ⟨ho, hh (x.b, rdO x.q) (List.mem_singleton.2 rfl)⟩
  refine ⟨n, .ret (o x.q), S', h1, h3.mono fun y _ hy => ⟨(x.b, rdO (nx x.q)), List.mem_singleton.2 rfl, hy.symm⟩, fun p hp => ?_, Fz.same (hu _ _)⟩
  rw [postR, List.mem_singleton] at hp
  subst hp
  exact h2.bx
def losing (_ : RSt) : RSt := ⟨[], true⟩
noncomputable def kfLose : KF := kfR (fun _ => .tuple []) losing
theorem kn55 {K : FuncId → Option KF} (hK : KnOk Try.prog E0 K) : KnWell Try.prog E0 55 kfLose :=
 knR hK (fn := Try.f55) (c := C55) (d := B55) _ _ (fun _ _ => .tuple .nil) (by kernel_rfl) (by kernel_rfl) (annot_isOf C55 _ (by kernel_rfl)) 0 fun b q S fit hb hB => by
  refine ⟨(S.put b (rdO ⟨[], q.lost⟩)).put b (rdO ⟨[], true⟩), (?_ : F55 (ev E0 K 0) rounds (.ptr b 0) S = _), RdAt.put (s := S.put b (rdO ⟨[], q.lost⟩)) hB.on b ⟨[], true⟩, (grew_put b _).trans (grew_put b _)⟩
  rw [F55_eq, show nilCheckV (.ptr b 0) = some (.ptr b 0) from rfl, oB, faP_ptr, oB, Nat.zero_add, hB.st0, oB, oB, faP_ptr, oB, Nat.zero_add]
  dsimp only
  rw [(RdAt.put hB.on b ⟨[], q.lost⟩).st1 true, oB]
def numK (l : List UInt8) : Nat := (l.takeWhile fun c => decide (128 ≤ c.toNat)).length
def numV (l : List UInt8) (n : Nat) : Nat := l.foldl (fun n c => (128 * n + c.toNat % 128) % 18446744073709551616) n
def rNum (q : RSt) : Nat × RSt :=
 if q.left.length ≤ numK q.left ∨ 9 < numK q.left then (0, ⟨[], true⟩)
 else if digs (numV (q.left.take (numK q.left + 1)) 0) = q.left.take (numK q.left + 1) then (numV (q.left.take (numK q.left + 1)) 0, ⟨q.left.drop (numK q.left + 1), q.lost⟩) else (0, ⟨[], true⟩)
theorem numK_cons (c : UInt8) (l : List UInt8) : numK (c :: l) = if 128 ≤ c.toNat then numK l + 1 else 0 := by
 unfold numK
 rw [List.takeWhile_cons]
 by_cases h : 128 ≤ c.toNat
 · rw [decide_eq_true h, if_pos rfl, if_pos h]; rfl
 · rw [decide_eq_false h, if_neg (by simp), if_neg h]; rfl
theorem numK_le : ∀ l : List UInt8, numK l ≤ l.length
 | [] => Nat.le_refl _
 | c :: l => by
  rw [numK_cons, List.length_cons]
  have := numK_le l
  split <;> omega
theorem numV_lt : ∀ (l : List UInt8) (n : Nat), n < 18446744073709551616 → numV l n < 18446744073709551616
 | [], n, h => h
 | c :: l, n, _ => numV_lt l _ (Nat.mod_lt _ (by omega))
theorem wrapU (n : Nat) : IntKind.u64.wrap (n : Int) = ((n % 18446744073709551616 : Nat) : Int) := by
 show (n : Int) % (2 ^ 64 : Int) = _
 omega
theorem mod8 (c : UInt8) : IntKind.u64.wrap ((c.toNat : Int).tmod 128) = ((c.toNat % 128 : Nat) : Int) := by
 rw [Int.tmod_eq_emod_of_nonneg (by omega), show (c.toNat : Int) % 128 = ((c.toNat % 128 : Nat) : Int) by omega, wrap_u64 (by omega) (by omega)]
theorem L54k_spec (self : EV) (N : Nat) (nk : Ac → St → Rs) (ek : Nat → Ac → St → Rs) (b : Nat) (q : RSt) (fit : q.left.length < 100000000) (S : St) (hB : RdAt S b q) :
 ∀ (r : List UInt8) (i n : Nat), q.left.drop i = r → r.length < n →
 L54_66 self N nk ek n (.ptr b 0) (.int .i64 (i : Int)) S = ek 0 (fr 76 [(0, .ptr b 0), (3, .int .i64 ((i + numK r : Nat) : Int))]) S
 | r, i, 0, _, hn => by omega
 | [], i, n + 1, hi, hn => by
  rw [L54_66_eq]
  simp only [show nilCheckV (.ptr b 0) = some (.ptr b 0) from rfl, faP_ptr, Nat.zero_add, hB.ld0, lnStr_sv, oB, binV_ii, intsV_lss, dec_ge (drop_end hi), guardV_t, cond_false, pickV_bool, ifK_bool]
  rfl
 | c :: r, i, n + 1, hi, hn => by
  obtain ⟨hlt, hc, hr, _⟩ := drop_at hi
  rw [L54_66_eq]
  simp only [show nilCheckV (.ptr b 0) = some (.ptr b 0) from rfl, faP_ptr, Nat.zero_add, hB.ld0, lnStr_sv, oB, binV_ii, intsV_lss, dec_lt hlt, guardV_t, cond_true, pickV_bool]
  rw [ixS_sv _ _ i hlt, hc, oB, binV_ii, intsV_geq, oB, ifK_bool, numK_cons]
  by_cases h : 128 ≤ c.toNat
  · rw [decide_eq_true (show (128 : Int) ≤ (c.toNat : Int) by omega), cond_true, intsV_add, wrap_succ (by omega), oB, if_pos h]
    have := L54k_spec self N nk ek b q fit S hB r (i + 1) n hr (by simp at hn; omega)
    rw [this, show i + 1 + numK r = i + (numK r + 1) by omega]
  · rw [decide_eq_false (show ¬ (128 : Int) ≤ (c.toNat : Int) by omega), cond_false, if_neg h]
    rfl
theorem L54v_spec (self : EV) (N : Nat) (nk : Ac → St → Rs) (ek : Nat → Ac → St → Rs) (b : Nat) (q : RSt) (fit : q.left.length < 100000000) (S : St) (hB : RdAt S b q) (k : Nat) (hk : k < q.left.length) :
 ∀ (r : List UInt8) (i v n : Nat), (q.left.take (k + 1)).drop i = r → r.length < n → i ≤ k + 1 →
 L54_47 self N nk ek n (.ptr b 0) (.int .i64 (k : Int)) (.int .u64 (v : Int)) (.int .i64 (i : Int)) S = ek 2 (fr 76 [(0, .ptr b 0), (3, .int .i64 (k : Int)), (4, .int .u64 (numV r v : Int))]) S
 | r, i, v, 0, _, hn, _ => by omega
 | [], i, v, n + 1, hi, hn, hle => by
  have := drop_end hi
  rw [List.length_take] at this
  rw [L54_47_eq]
  simp only [binV_ii, intsV_leq, decide_eq_false (show ¬ (i : Int) ≤ (k : Int) by omega), oB, ifK_bool, cond_false]
  rfl
 | c :: r, i, v, n + 1, hi, hn, hle => by
  obtain ⟨hlt, hc, hr, _⟩ := drop_at hi
  rw [List.length_take] at hlt
  rw [List.getElem_take] at hc
  have hil : i < q.left.length := by omega
  rw [L54_47_eq]
  simp only [binV_ii, intsV_leq, decide_eq_true (show (i : Int) ≤ (k : Int) by omega), oB, ifK_bool, cond_true, intsV_mul, show nilCheckV (.ptr b 0) = some (.ptr b 0) from rfl, faP_ptr, Nat.zero_add, hB.ld0]
  rw [ixS_sv _ _ i hil, hc, oB, binV_ii, intsV_rem _ _ _ (by decide), oB, cvI_int, oB]
  dsimp only
  rw [mod8, show (128 : Int) * (v : Int) = ((128 * v : Nat) : Int) by omega, wrapU, binV_ii, intsV_add, show ((128 * v % 18446744073709551616 : Nat) : Int) + ((c.toNat % 128 : Nat) : Int) = ((128 * v % 18446744073709551616 + c.toNat % 128 : Nat) : Int) by omega, wrapU, oB, intsV_add, wrap_succ (by omega), oB]
  rw [show (128 * v % 18446744073709551616 + c.toNat % 128) % 18446744073709551616 = (128 * v + c.toNat % 128) % 18446744073709551616 by omega]
  exact L54v_spec self N nk ek b q fit S hB k hk r (i + 1) _ n hr (by simp at hn; omega) (by omega)
end Go.Proofs.Ythmkdoaaciamlaa.W
namespace Go.Proofs.Ythmkdoaaciamlaa.W
open Go.Proofs.Ythmkdoaaciamlaa.Ev
theorem rNum_left (q : RSt) : (rNum q).2.left.length ≤ q.left.length := by
 unfold rNum
 split
 · exact Nat.zero_le _
 · split
   · simp only [List.length_drop]; omega
   · exact Nat.zero_le _
theorem rNum_lt (q : RSt) : (rNum q).1 < 18446744073709551616 := by
 unfold rNum
 split
 · show 0 < _; omega
 · split
   · exact numV_lt _ _ (by omega)
   · show 0 < _; omega
noncomputable def kfNum : KF := kfR (fun q => .int .u64 ((rNum q).1 : Int)) fun q => (rNum q).2
theorem F54_spec {K : FuncId → Option KF} (h55 : K 55 = some kfLose) (h46 : K 46 = some kf46) (b : Nat) (q : RSt) (S : St) (fit : q.left.length < 100000000) (hB : RdAt S b q) :
 ∃ S', F54 (ev E0 K 1) rounds (.ptr b 0) S = some (.ret (.int .u64 ((rNum q).1 : Int)), S') ∧ RdAt S' b (rNum q).2 ∧ Grew (fun x => x = b) S S' := by
 have hkl := numK_le q.left
 have h1 := L54k_spec (ev E0 K 1) rounds (R54_2 (ev E0 K 1) rounds (finN E0 (ev E0 K 1) Try.f54) noEx) (exB 0 (R54_2 (ev E0 K 1) rounds (finN E0 (ev E0 K 1) Try.f54) noEx) noEx) b q fit S hB q.left 0 rounds rfl (by unfold rounds; omega)
 rw [show ((0 : Nat) : Int) = 0 from rfl, Nat.zero_add] at h1
 rw [F54_eq, h1, exB_same, R54_2_eq, show nilCheckV (.ptr b 0) = some (.ptr b 0) from rfl, oB, faP_ptr, oB, Nat.zero_add, hB.ld0, oB]
 dsimp only
 rw [lnStr_sv, oB]
 dsimp only
 rw [binV_ii, intsV_geq, oB, guardV_f, oB]
 have lose : ∃ S', callP ((ev E0 K 1).f 55 [.ptr b 0] S) (fun _ S15 => some (.ret (.int .u64 0), S15)) = some (.ret (.int .u64 0), S') ∧ RdAt S' b ⟨[], true⟩ ∧ Grew (fun x => x = b) S S' := by
  obtain ⟨S', k1, k2, k3, _⟩ := kfR_run (o := fun _ => .tuple []) (nx := losing) hB fit
  refine ⟨S', ?_, k2, k3⟩
  rw [ev_known h55]
  show callP (kfLose.run _ _) _ = _
  unfold kfLose
  rw [k1, callP_ret]
 by_cases hc1 : q.left.length ≤ numK q.left
 · obtain ⟨S', k1, k2, k3⟩ := lose
   refine ⟨S', ?_, ?_, k3⟩
   · rw [decide_eq_true (show (q.left.length : Int) ≤ (numK q.left : Int) by omega), Bool.not_true, cond_false, oB, oB, cond_false, oB, pickV_bool, cond_true, oB, ifK_bool, cond_true, k1]
     unfold rNum
     rw [if_pos (.inl hc1)]; rfl
   · unfold rNum
     rw [if_pos (.inl hc1)]; exact k2
 · rw [decide_eq_false (show ¬ (q.left.length : Int) ≤ (numK q.left : Int) by omega), Bool.not_false, cond_true, oB, oB, cond_true, binV_ii, intsV_gtr, oB, pickV_bool, cond_false, oB, ifK_bool]
   by_cases hc2 : 9 < numK q.left
   · obtain ⟨S', k1, k2, k3⟩ := lose
     refine ⟨S', ?_, ?_, k3⟩
     · rw [decide_eq_true (show (9 : Int) < (numK q.left : Int) by omega), cond_true, k1]
       unfold rNum
       rw [if_pos (.inr hc2)]; rfl
     · unfold rNum
       rw [if_pos (.inr hc2)]; exact k2
   · rw [decide_eq_false (show ¬ (9 : Int) < (numK q.left : Int) by omega), cond_false]
     have hlt : numK q.left < q.left.length := by omega
     have h2 := L54v_spec (ev E0 K 1) rounds (R54_18 (ev E0 K 1) rounds (fun a s => projK [2] a fun a => finN E0 (ev E0 K 1) Try.f54 a s) noEx) (exB 2 (R54_18 (ev E0 K 1) rounds (fun a s => projK [2] a fun a => finN E0 (ev E0 K 1) Try.f54 a s) noEx) noEx) b q fit S hB (numK q.left) hlt (q.left.take (numK q.left + 1)) 0 0 rounds (by rw [List.drop_zero]) (by rw [List.length_take]; unfold rounds; omega) (by omega)
     rw [show ((0 : Nat) : Int) = 0 from rfl] at h2
     have hv := numV_lt (q.left.take (numK q.left + 1)) 0 (by omega)
     have hnum : rNum q = if digs (numV (q.left.take (numK q.left + 1)) 0) = q.left.take (numK q.left + 1) then (numV (q.left.take (numK q.left + 1)) 0, ⟨q.left.drop (numK q.left + 1), q.lost⟩) else (0, ⟨[], true⟩) := by
      unfold rNum
      rw [if_neg (by omega)]
     generalize numV (q.left.take (numK q.left + 1)) 0 = v at h2 hv hnum
     rw [h2, exB_same, R54_18_eq, ev_known h46, show (sv []) = sv ([] : List UInt8) from rfl, kf46_run [] v hv (by simp), callD_ret, List.nil_append, show nilCheckV (.ptr b 0) = some (.ptr b 0) from rfl, oB, faP_ptr, oB, Nat.zero_add, onS_onS, hB.o0, oB, binV_ii, intsV_add, wrap_succ (by omega), oB]
     dsimp only
     rw [onS_rd, slice_sv und9 q.left (bounds_hi .i64 (by omega)) (by omega), oB]
     dsimp only
     rw [List.drop_zero, Nat.sub_zero, binV_ss, strOp_neq, oB, endP_sel (by rfl), onS_onS, relog_onS hB.on, ifK_bool]
     by_cases he : digs v = q.left.take (numK q.left + 1)
     · rw [if_pos he] at hnum
       rw [hnum, he, beq_self_eq_true, Bool.not_true, cond_false, oB, faP_ptr, oB, Nat.zero_add, hB.ld0, oB, oB]
       dsimp only
       rw [slice_sv und9 q.left (bounds_lo .i64 (by omega)) (by omega), oB]
       dsimp only
       rw [oB, faP_ptr, oB, Nat.zero_add, show (q.left.drop (numK q.left + 1)).take (q.left.length - (numK q.left + 1)) = q.left.drop (numK q.left + 1) by rw [List.take_of_length_le (by rw [List.length_drop]; omega)], hB.st0, oB]
       exact ⟨_, rfl, RdAt.put hB.on b _, grew_put b _⟩
     · rw [if_neg he] at hnum
       rw [hnum, beq_false_of_ne he, Bool.not_false, cond_true]
       exact lose
theorem kn54 {K : FuncId → Option KF} (hK : KnOk Try.prog E0 K) (h55 : K 55 = some kfLose) (h46 : K 46 = some kf46) : KnWell Try.prog E0 54 kfNum :=
 knR hK (fn := Try.f54) (c := C54) (d := B54) _ _ (fun _ _ => .int _ _) (by kernel_rfl) (by kernel_rfl) (annot_isOf C54 _ (by kernel_rfl)) 1 fun b q S fit _ hB => F54_spec h55 h46 b q S fit hB
def rText (q : RSt) : List UInt8 × RSt := if (rNum q).2.left.length < (rNum q).1 then ([], ⟨[], true⟩) else ((rNum q).2.left.take (rNum q).1, ⟨(rNum q).2.left.drop (rNum q).1, (rNum q).2.lost⟩)
theorem rText_left (q : RSt) : (rText q).2.left.length ≤ q.left.length := by
 have := rNum_left q
 unfold rText
 split
 · exact Nat.zero_le _
 · simp only [List.length_drop]; omega
theorem rText_len (q : RSt) : (rText q).1.length ≤ q.left.length := by
 have := rNum_left q
 unfold rText
 split
 · exact Nat.zero_le _
 · simp only [List.length_take]; omega
noncomputable def kfText' : KF := kfR (fun q => sv (rText q).1) fun q => (rText q).2
theorem kn31 {K : FuncId → Option KF} (hK : KnOk Try.prog E0 K) (h54 : K 54 = some kfNum) (h55 : K 55 = some kfLose) : KnWell Try.prog E0 31 kfText' :=
 knR hK (fn := Try.f31) (c := C31) (d := B31) _ _ (fun _ _ => under_sv _) (by kernel_rfl) (by kernel_rfl) (annot_isOf C31 _ (by kernel_rfl)) 1 fun b q S fit hb hB => by
  obtain ⟨S1, k1, k2, k3, k4⟩ := kfR_run (o := fun q => .int .u64 ((rNum q).1 : Int)) (nx := fun q => (rNum q).2) hB fit
  have hl := rNum_left q
  have hn := rNum_lt q
  suffices h : ∃ S', F31 (ev E0 K 1) rounds (.ptr b 0) S = some (.ret (sv (rText q).1), S') ∧ RdAt S' b (rText q).2 ∧ Grew (fun x => x = b) S S' from h
  rw [F31_eq, ev_known h54]
  unfold kfNum rText
  rw [k1, callP_ret, show nilCheckV (.ptr b 0) = some (.ptr b 0) from rfl, oB, faP_ptr, oB, Nat.zero_add, k2.ld0, oB]
  dsimp only
  rw [lnStr_sv, oB]
  dsimp only
  rw [cvI_int, oB]
  dsimp only
  rw [wrap_u64 (by omega) (by omega), binV_ii, intsV_gtr, oB, ifK_bool]
  by_cases h : (rNum q).2.left.length < (rNum q).1
  · rw [decide_eq_true (show ((rNum q).2.left.length : Int) < ((rNum q).1 : Int) by omega), cond_true, if_pos h, ev_known h55]
    obtain ⟨S2, m1, m2, m3, m4⟩ := kfR_run (o := fun _ => .tuple []) (nx := losing) k2 (by omega)
    unfold kfLose
    rw [m1, callP_ret]
    exact ⟨S2, rfl, m2, k3.trans m3⟩
  · rw [decide_eq_false (show ¬ ((rNum q).2.left.length : Int) < ((rNum q).1 : Int) by omega), cond_false, if_neg h, oB, faP_ptr, oB, Nat.zero_add, k2.ld0, oB]
    dsimp only
    rw [slice_sv und9 _ (bounds_hi .u64 (by omega)) (by omega), oB, oB, faP_ptr, oB, Nat.zero_add]
    dsimp only
    rw [k2.ld0, oB]
    dsimp only
    rw [slice_sv und9 _ (bounds_lo .u64 (by omega)) (by omega), oB, oB, faP_ptr, oB, Nat.zero_add]
    dsimp only
    rw [List.drop_zero, Nat.sub_zero, show ((rNum q).2.left.drop (rNum q).1).take ((rNum q).2.left.length - (rNum q).1) = (rNum q).2.left.drop (rNum q).1 by rw [List.take_of_length_le (by rw [List.length_drop]; omega)], k2.st0, oB]
    exact ⟨_, rfl, RdAt.put k2.on b _, k3.trans (grew_put b _)⟩
end Go.Proofs.Ythmkdoaaciamlaa.W
namespace Go.Proofs.Ythmkdoaaciamlaa.W
open Go.Proofs.Ythmkdoaaciamlaa.Ev
noncomputable def c5 (nm : List UInt8) (k : Int) (x : Bool) (d : List UInt8) (v : V) : List V := [sv nm, .int .i64 k, .bool x, sv d, v]
theorem encN_c5 (nm : List UInt8) (k : Int) (x : Bool) (d : List UInt8) : encN (.mk nm k x d []) = vAgg (c5 nm k x d .nilslice) := by
 rw [encN, encL]; rfl
theorem build24 (k : Int) : buildV E0 24 [(1, .int .i64 k)] = some (vAgg (c5 [] k false [] .nilslice)) := by kernel_rfl
theorem build24_nil : buildV E0 24 [] = some (vAgg (c5 [] 0 false [] .nilslice)) := by kernel_rfl
theorem set5_0 (a b c d e v : V) : (Tr.ofListFrom .nil [a, b, c, d, e] 0).set v 0 = Tr.ofListFrom .nil [v, b, c, d, e] 0 := by kernel_rfl
theorem set5_2 (a b c d e v : V) : (Tr.ofListFrom .nil [a, b, c, d, e] 0).set v 2 = Tr.ofListFrom .nil [a, b, v, d, e] 0 := by kernel_rfl
theorem set5_3 (a b c d e v : V) : (Tr.ofListFrom .nil [a, b, c, d, e] 0).set v 3 = Tr.ofListFrom .nil [a, b, c, v, e] 0 := by kernel_rfl
theorem set5_4 (a b c d e v : V) : (Tr.ofListFrom .nil [a, b, c, d, e] 0).set v 4 = Tr.ofListFrom .nil [a, b, c, d, v] 0 := by kernel_rfl
section
variable {s : St}
theorem bx_st5 (ho : s.on = false) {b e i : Nat} {l m : List V} {v : V} (h : Bx s b e l) (hl : l.length = 5) (hm : m.length = 5) (hi : i < 5) (hset : (Tr.ofListFrom .nil l 0).set v i = Tr.ofListFrom .nil m 0) (h1 : v.size = 1) (h2 : v.cells = one v) (h3 : isTuple v = false) :
 stP 1 (.ptr b i) v s = some (.tuple [], s.put b (bxO e m)) := by
 show vu (bif Nat.beq v.size 1 && !isTuple v then stK s b i 1 v.cells else none) = _
 rw [h1, h2, h3]
 have hst : stK s b i 1 (one v) = some (s.put b (bxO e m)) := by
  unfold stK
  rw [h, hl]
  simp only [ble_true.2 (show i + 1 ≤ 5 * 1 by omega), blt_true.2 (show 5 * 1 < big by unfold big; decide), Bool.and_self, Bool.not_false, cond_true]
  unfold elemTo
  rw [show Nat.beq 1 5 = false from rfl]
  have hv0 : (one v).get 0 = some v := rfl
  simp only [Bool.false_and, cond_false, cellsTo, Tr.setC_eq, hv0, oB, Nat.add_zero, Nat.div_eq_of_lt hi, Nat.mod_eq_of_lt hi]
  rw [Tr.get_ofList]
  simp only [List.getElem?_cons_zero, oB, hset, set_one, note_off ho]
  unfold bxO
  rw [hm]
 rw [hst]; rfl
theorem AgAt.stAOn (ho : s.on = false) {b e z : Nat} {t : Tr V} (h : AgAt s b e z t) (hz : z < big) (u : Tr V) : ∃ w l, stP z (.ptr b 0) (.agg z u) (onS s) = some (.tuple [], w.lg l) ∧ AgAt w b e z u ∧ Grew (fun x => x = b) s w ∧ w.next = s.next := by
 obtain ⟨c, h1, h2⟩ := h
 have hst : stK s b 0 z u = some (s.put b (.cells e z 1 false (c.set u 0))) := by
  unfold stK
  rw [h1]
  simp only [ble_true.2 (show 0 + z ≤ z * 1 by omega), blt_true.2 (show z * 1 < big by omega), Bool.and_self, Bool.not_false, cond_true]
  unfold elemTo
  rw [show Nat.beq z z = true from beq_true.2 rfl, Nat.zero_mod, show Nat.beq 0 0 = true from rfl]
  simp only [Bool.and_self, cond_true, Nat.zero_div, Tr.setC_eq, oB, note_off ho]
 obtain ⟨_, l', hl⟩ := stK_lg ho hst []
 refine ⟨s.put b (.cells e z 1 false (c.set u 0)), l', ?_, ⟨c.set u 0, by rw [put_get, if_pos rfl], by rw [Tr.get_set, if_pos rfl]⟩, grew_put b _, rfl⟩
 show vu (bif Nat.beq z z && !false then stK (onS s) b 0 z u else none) = _
 rw [show Nat.beq z z = true from beq_true.2 rfl]
 simp only [Bool.not_false, Bool.and_self, cond_true]
 rw [show onS s = s.lg [] from rfl, hl]; rfl
theorem AgAt.relog {s0 w : St} (h0 : s0.on = false) {b e z : Nat} {t : Tr V} (h : AgAt w b e z t) (hon : w.on = false) (hn : w.next = s0.next) (g : Grew (fun x => x = b) s0 w) (l : List LE) (ls : List (List LE)) :
 AgAt (relog s0 (w.lg l) ls) b e z t ∧ (Go.Proofs.Ythmkdoaaciamlaa.Ev.relog s0 (w.lg l) ls).next = s0.next ∧ Grew (fun x => x = b) s0 (Go.Proofs.Ythmkdoaaciamlaa.Ev.relog s0 (w.lg l) ls) := by
 obtain ⟨r1, r2, r3⟩ := relog_lg h0 l ls hon
 obtain ⟨c, h1, h2⟩ := h
 exact ⟨⟨c, by rw [r1]; exact h1, h2⟩, by rw [r2, hn], ⟨by rw [r2, hn]; exact Nat.le_refl _, by rw [r3, h0], fun x hx hne => by rw [r1]; exact g.keep x hx hne⟩⟩
end
theorem fz_node {S : St} {N N0 : Nat} {v5 : V} {acc : List Nd} (h : SliceIs S N0 v5 acc) (hN : N ≤ N0) (nm : List UInt8) (k : Int) (x : Bool) (d : List UInt8) : Fz S N (vAgg (c5 nm k x d v5)) (encN (.mk nm k x d acc)) := by
 rw [encN_tree]
 have hg : ∀ (i : Nat) v, (c5 nm k x d v5)[i]? = some v → (Tr.ofListFrom .nil (c5 nm k x d v5) 0).get i = some v := fun i v h => by rw [Tr.get_ofList]; exact h
 refine .agg (fun i => ((c5 nm k x d v5)[i]?).getD .nilptr) (fun i v' _ hi => ?_) fun i v' hv' hi => ?_
 · have hi : i < 5 := hi
   match i, hi with
   | 0, _ => exact hg 0 _ rfl
   | 1, _ => exact hg 1 _ rfl
   | 2, _ => exact hg 2 _ rfl
   | 3, _ => exact hg 3 _ rfl
   | 4, _ => exact hg 4 _ rfl
 · have hi : i < 5 := hi
   have hv2 : (cellsN (.mk nm k x d acc))[i]? = some v' := by
    have : (Tr.ofListFrom .nil (cellsN (.mk nm k x d acc)) 0).get i = some v' := hv'
    rwa [Tr.get_ofList] at this
   unfold cellsN at hv2
   simp only [Nd.name, Nd.kind, Nd.exec, Nd.data, Nd.kids] at hv2
   match i, hi, hv2 with
   | 0, _, hv2 => simp at hv2; subst hv2; exact .same (under_sv _)
   | 1, _, hv2 => simp at hv2; subst hv2; exact .same (.int _ _)
   | 2, _, hv2 => simp at hv2; subst hv2; exact .same (.bool _)
   | 3, _, hv2 => simp at hv2; subst hv2; exact .same (under_sv _)
   | 4, _, hv2 =>
    simp at hv2; subst hv2
    show Fz S N v5 (kidsV (encL acc))
    rcases h with ⟨h1, rfl⟩ | ⟨h1, r, rfl, hrow, hNr, hrn⟩
    · rw [h1, encL]; exact .same .nilslice
    · obtain ⟨c, hc1, hc2⟩ := hrow.row
      have hne : kidsV (encL acc) = .list 5 (encL acc) := by
       cases h : acc with
       | nil => exact absurd h h1
       | cons a l => rw [encL]; rfl
      rw [hne, encL_map]
      refine .oslice hc1 (by omega) (by omega) rfl (by rw [List.length_map]) (by rw [List.length_map]; omega) ?_
      rw [Nat.zero_div]
      exact fzRow_nodes _ 0 fun j y hj => by
       rw [Nat.zero_add]
       exact hc2 j _ (by rw [List.getElem?_map, hj]; rfl)
def nameIt (y : Nd) (nm : List UInt8) : Nd := .mk nm y.kind y.exec y.data y.kids
def kidsN (f : RSt → Option Nd × RSt) : Nat → RSt → List Nd → Option (List Nd) × RSt
 | 0, q, acc => (some acc, q)
 | n + 1, q, acc => match f (rText q).2 with
  | (none, q') => (none, q')
  | (some y, q') => kidsN f n q' (acc ++ [nameIt y (rText q).1])
def fileN (q : RSt) : Option Nd × RSt := (if (rNum q).1 ≤ 1 ∧ (rText (rNum q).2).2.lost = false then some (.mk [] 1 (decide ((rNum q).1 = 1)) (rText (rNum q).2).1 []) else none, (rText (rNum q).2).2)
def linkN (q : RSt) : Option Nd × RSt := (if (rText q).2.lost = false then some (.mk [] 3 false (rText q).1 []) else none, (rText q).2)
def dirN (f : Option (RSt → Option Nd × RSt)) (q : RSt) : Option Nd × RSt := match f with
 | none => (none, (rNum q).2)
 | some f => if 2000 < (rNum q).1 ∨ (rNum q).2.lost = true then (none, (rNum q).2) else match kidsN f (rNum q).1 (rNum q).2 [] with
  | (none, q') => (none, q')
  | (some l, q') => (if q'.lost = false then some (.mk [] 2 false [] l) else none, q')
def oneN (f : Option (RSt → Option Nd × RSt)) (q : RSt) : Option Nd × RSt :=
 if (rNum q).1 % 1000 = 1 then fileN (rNum q).2 else if (rNum q).1 % 1000 = 3 then linkN (rNum q).2 else if (rNum q).1 % 1000 = 2 then dirN f (rNum q).2 else (none, (rNum q).2)
def readN : Nat → RSt → Option Nd × RSt
 | 0 => oneN none
 | d + 1 => oneN (some (readN d))
noncomputable def outN : Option Nd → V
 | some y => .tuple [encN y, .bool true]
 | none => .tuple [.agg 5 .nil, .bool false]
theorem kidsN_left {f : RSt → Option Nd × RSt} (hf : ∀ q, (f q).2.left.length ≤ q.left.length) : ∀ (n : Nat) (q : RSt) (acc : List Nd), (kidsN f n q acc).2.left.length ≤ q.left.length
 | 0, q, acc => Nat.le_refl _
 | n + 1, q, acc => by
  have h1 := rText_left q
  have h2 := hf (rText q).2
  rw [kidsN]
  split
  · rename_i q' h; rw [h] at h2; exact Nat.le_trans h2 h1
  · rename_i y q' h; rw [h] at h2; exact Nat.le_trans (kidsN_left hf n q' _) (Nat.le_trans h2 h1)
theorem oneN_left {f : Option (RSt → Option Nd × RSt)} (hf : ∀ g, f = some g → ∀ q, (g q).2.left.length ≤ q.left.length) (q : RSt) : (oneN f q).2.left.length ≤ q.left.length := by
 have h0 := rNum_left q
 unfold oneN
 split
 · exact Nat.le_trans (rText_left _) (Nat.le_trans (rNum_left _) h0)
 · split
   · exact Nat.le_trans (rText_left _) h0
   · split
     · refine Nat.le_trans ?_ h0
       have h1 := rNum_left (rNum q).2
       unfold dirN
       split
       · exact h1
       · rename_i g
         split
         · exact h1
         · have h2 := kidsN_left (hf g rfl) (rNum (rNum q).2).1 (rNum (rNum q).2).2 []
           split
           · rename_i q' h; rw [h] at h2; exact Nat.le_trans h2 h1
           · rename_i l q' h; rw [h] at h2; exact Nat.le_trans h2 h1
     · exact h0
theorem readN_left : ∀ (d : Nat) (q : RSt), (readN d q).2.left.length ≤ q.left.length
 | 0, q => oneN_left (fun g h => by cases h) q
 | d + 1, q => oneN_left (fun g h => by cases h; exact readN_left d) q
end Go.Proofs.Ythmkdoaaciamlaa.W
namespace Go.Proofs.Ythmkdoaaciamlaa.W
open Go.Proofs.Ythmkdoaaciamlaa.Ev
structure Rdg (e : EV) : Prop where
 num : ∀ (b : Nat) (q : RSt) (S : St), q.left.length < 100000000 → RdAt S b q → ∃ S', e.f 54 [.ptr b 0] S = some (.ret (.int .u64 ((rNum q).1 : Int)), S') ∧ RdAt S' b (rNum q).2 ∧ Grew (fun x => x = b) S S' ∧ S'.next = S.next
 text : ∀ (b : Nat) (q : RSt) (S : St), q.left.length < 100000000 → RdAt S b q → ∃ S', e.f 31 [.ptr b 0] S = some (.ret (sv (rText q).1), S') ∧ RdAt S' b (rText q).2 ∧ Grew (fun x => x = b) S S' ∧ S'.next = S.next
 ok : ∀ (b : Nat) (q : RSt) (S : St), RdAt S b q → e.f 56 [.ptr b 0] S = some (.ret (.bool (!q.lost)), S)
 okOn : ∀ (b : Nat) (q : RSt) (S : St), RdAt S b q → e.f 56 [.ptr b 0] (onS S) = some (.ret (.bool (!q.lost)), rd S b 1 1)
theorem rdg_known {K : FuncId → Option KF} (h54 : K 54 = some kfNum) (h31 : K 31 = some kfText') (h56 : K 56 = none) (n : Nat) : Rdg (ev E0 K (n + 1)) where
 num b q S fit hB := by
  rw [ev_known h54]
  exact kfR_run hB fit
 text b q S fit hB := by
  rw [ev_known h31]
  exact kfR_run hB fit
 ok b q S hB := by
  refine ev_read (c := C56) (d := B56) (by kernel_rfl) (by kernel_rfl) (annot_isOf C56 _ (by kernel_rfl)) h56 (?_ : F56 (ev E0 K n) rounds (.ptr b 0) S = _)
  rw [F56_eq, show nilCheckV (.ptr b 0) = some (.ptr b 0) from rfl, oB, faP_ptr, oB, Nat.zero_add, hB.ldl, oB]
  dsimp only
  rw [unV_not, oB]
 okOn b q S hB := by
  refine ev_read (c := C56) (d := B56) (by kernel_rfl) (by kernel_rfl) (annot_isOf C56 _ (by kernel_rfl)) h56 (?_ : F56 (ev E0 K n) rounds (.ptr b 0) (onS S) = _)
  rw [F56_eq, show nilCheckV (.ptr b 0) = some (.ptr b 0) from rfl, oB, faP_ptr, oB, Nat.zero_add, hB.ol, oB]
  dsimp only
  rw [unV_not, oB]
theorem slice_size {S : St} {N0 : Nat} {v : V} {acc : List Nd} (h : SliceIs S N0 v acc) : v.size = 1 ∧ v.cells = one v ∧ isTuple v = false := by
 rcases h with ⟨_, rfl⟩ | ⟨_, r, rfl, _⟩ <;> exact ⟨rfl, rfl, rfl⟩
theorem c5_len (nm : List UInt8) (k : Int) (x : Bool) (d : List UInt8) (v : V) : (c5 nm k x d v).length = 5 := rfl
theorem R32_9_spec (self : EV) (N : Nat) (nk : Ac → St → Rs) (ek : Nat → Ac → St → Rs) {p n : Nat} {z : Tr V} {cs : List V} {S : St} (ho : S.on = false) (hp : AgAt S p 24 5 z) (hn : Bx S n 24 cs) (hl : cs.length = 5) :
 ∃ S' t, R32_9 self N nk ek (fr 90 [(4, .ptr p 0), (6, .ptr n 0)]) S = some (.ret (.tuple [.agg 5 t, .bool false]), S') ∧ Grew (fun x => x = p) S S' ∧ S'.next = S.next := by
 obtain ⟨S1, k1, k2, k3, k4⟩ := hp.stA ho big5 (Tr.ofListFrom .nil cs 0)
 refine ⟨S1, Tr.ofListFrom .nil cs 0, ?_, k3, k4⟩
 rw [R32_9_eq, Bx.ldA ho hn (by rw [hl]) (by rw [hl]; exact big5), oB]
 dsimp only
 rw [show vAgg cs = .agg 5 (Tr.ofListFrom .nil cs 0) by unfold vAgg; rw [hl], k1, oB]
 dsimp only
 rw [k2.ldrA (k3.on.trans ho) big5]
 rfl
theorem R32_73_spec (self : EV) (hR : Rdg self) (N : Nat) (nk : Ac → St → Rs) (ek : Nat → Ac → St → Rs) {b p n : Nat} {z : Tr V} {q : RSt} {cs : List V} {S : St} (hB : RdAt S b q) (hp : AgAt S p 24 5 z) (hn : Bx S n 24 cs) (hl : cs.length = 5) (hbp : b < p) (hb : b < S.next) :
 ∃ S', R32_73 self N nk ek (fr 90 [(0, .ptr b 0), (4, .ptr p 0), (6, .ptr n 0)]) S = some (.ret (.tuple [vAgg cs, .bool (!q.lost)]), S') ∧ RdAt S' b q ∧ Grew (fun x => x = p) S S' ∧ S'.next = S.next := by
 obtain ⟨w, l, k1, k2, k3, k4⟩ := hp.stAOn hB.on big5 (Tr.ofListFrom .nil cs 0)
 obtain ⟨r1, r2, r3⟩ := k2.relog hB.on (k3.on.trans hB.on) k4 k3 [] [(rd S n 0 5).log, [], (rd S b 1 1).log, (w.lg l).log, []]
 refine ⟨_, ?_, hB.grew hb (by omega) r3, r3, r2⟩
 rw [R32_73_eq, Bx.ldAOn hn (by rw [hl]) (by rw [hl]; exact big5), oB]
 dsimp only
 rw [onS_rd, hR.okOn b q S hB, callD_ret, onS_rd, show vAgg cs = .agg 5 (Tr.ofListFrom .nil cs 0) by unfold vAgg; rw [hl], k1, oB]
 dsimp only
 rw [endP_sel (by rfl), onS_of_lg, onS_lg, r1.ldrA (r3.on.trans hB.on) big5]
 rfl
theorem L32_spec (self : EV) (hR : Rdg self) (N : Nat) (nk : Ac → St → Rs) (ek : Nat → Ac → St → Rs) (b p n N0 m : Nat) (hm : m ≤ 12) (hbp : b < p) (hpn : p < n) (hnN : n < N0)
 (h32 : ∀ (q : RSt) S, q.left.length < 100000000 → RdAt S b q → self.f 32 [.ptr b 0, .int .i64 (m : Int)] S = some (.ret (outN (readN m q).1), S.put b (rdO (readN m q).2))) (k : Nat) (hk : k ≤ 2000) :
 ∀ (r i fuel : Nat) (q : RSt) (acc : List Nd) (v5 : V) (z : Tr V) (S : St), i + r = k → r < fuel → acc.length = i → q.left.length < 100000000 → RdAt S b q → AgAt S p 24 5 z → Bx S n 24 (c5 [] 2 false [] v5) → SliceIs S N0 v5 acc → N0 ≤ S.next →
 ∀ o q', kidsN (readN m) r q acc = (o, q') →
  (o = none → ∃ S' t, L32_82 self N nk ek fuel (.ptr b 0) (.int .i64 ((m + 1 : Nat) : Int)) (.ptr p 0) (.ptr n 0) (.int .u64 (k : Int)) (.int .u64 (i : Int)) S = some (.ret (.tuple [.agg 5 t, .bool false]), S') ∧ RdAt S' b q' ∧ Grew (fun x => x = b ∨ p ≤ x) S S') ∧
  (∀ l, o = some l → ∃ S' z' v', L32_82 self N nk ek fuel (.ptr b 0) (.int .i64 ((m + 1 : Nat) : Int)) (.ptr p 0) (.ptr n 0) (.int .u64 (k : Int)) (.int .u64 (i : Int)) S = ek 1 (fr 90 [(0, .ptr b 0), (4, .ptr p 0), (6, .ptr n 0)]) S' ∧ RdAt S' b q' ∧ AgAt S' p 24 5 z' ∧ Bx S' n 24 (c5 [] 2 false [] v') ∧ SliceIs S' N0 v' l ∧ N0 ≤ S'.next ∧ Grew (fun x => x = b ∨ p ≤ x) S S')
 | r, i, 0, q, acc, v5, z, S, _, hf, _, _, _, _, _, _, _, _, _, _ => by omega
 | 0, i, fuel + 1, q, acc, v5, z, S, hi, hf, hacc, fit, hB, hp, hn, hs, hN, o, q', hk' => by
  rw [kidsN] at hk'
  simp only [pM] at hk'
  obtain ⟨rfl, rfl⟩ := hk'
  refine ⟨fun h => (by cases h), fun l hl => ?_⟩
  simp only [oS] at hl
  subst hl
  refine ⟨S, z, v5, ?_, hB, hp, hn, hs, hN, Grew.refl _ _⟩
  rw [L32_82_eq, binV_ii, intsV_lss, dec_ge (by omega), oB, ifK_bool, cond_false]
 | r + 1, i, fuel + 1, q, acc, v5, z, S, hi, hf, hacc, fit, hB, hp, hn, hs, hN, o, q', hk' => by
  have hon := hB.on
  obtain ⟨S1, a1, a2, a3, a4⟩ := hR.text b q S fit hB
  have hp1 := hp.grew (by omega) (by omega) a3
  have hn1 := hn.grew (by omega) (by omega) a3
  have hs1 := hs.grew (fun r h1 h2 => by omega) a3
  have fit1 : (rText q).2.left.length < 100000000 := Nat.lt_of_le_of_lt (rText_left q) fit
  have hc := h32 (rText q).2 S1 fit1 a2
  have hB2 := RdAt.put a2.on b (readN m (rText q).2).2
  have g2 := grew_put (s := S1) b (rdO (readN m (rText q).2).2)
  have hp2 := hp1.grew (by omega) (by omega) g2
  have hn2 := hn1.grew (by omega) (by omega) g2
  have hs2 := hs1.grew (fun r h1 h2 => by omega) g2
  have e2 : (S1.put b (rdO (readN m (rText q).2).2)).next = S1.next := rfl
  have fit2 : (readN m (rText q).2).2.left.length < 100000000 := Nat.lt_of_le_of_lt (readN_left m _) fit1
  generalize hS2 : S1.put b (rdO (readN m (rText q).2).2) = S2 at hc hB2 g2 hp2 hn2 hs2 e2
  have gW : Grew (fun x => x = b ∨ p ≤ x) S S2 := ((a3.trans g2).mono fun x _ hx => .inl hx)
  rw [kidsN] at hk'
  cases ho : (readN m (rText q).2).1 with
  | none =>
   have hr : readN m (rText q).2 = (none, (readN m (rText q).2).2) := by rw [← ho]
   rw [hr] at hk'
   simp only [pM] at hk'
   obtain ⟨rfl, rfl⟩ := hk'
   refine ⟨fun _ => ?_, fun l hl => (by cases hl)⟩
   rw [ho] at hc
   obtain ⟨x1, x2, x3⟩ := ag_new hB2.on 24 5 (Tr.ofListFrom .nil [(sv []), (.int .i64 0), (.bool false), (sv []), .nilslice] 0)
   obtain ⟨S3, y1, y2, y3, y4⟩ := x1.stA (x2.on.trans hB2.on) big5 .nil
   have hnext3 : S2.next ≤ S3.next := by rw [y4, x3]; omega
   have g3 : Grew (fun _ => False) S2 S3 := x2.own (Nat.le_refl _) y3
   have on3 := g3.on.trans hB2.on
   have hB3 := hB2.grew (by omega) (fun h => h) g3
   have hp3 := hp2.grew (by omega) (fun h => h) g3
   have hn3 := hn2.grew (by omega) (fun h => h) g3
   obtain ⟨S4, w1, w2, w3, w4⟩ := hp3.stA on3 big5 (Tr.ofListFrom .nil (c5 [] 2 false [] v5) 0)
   refine ⟨S4, Tr.ofListFrom .nil (c5 [] 2 false [] v5) 0, ?_, hB3.grew (by omega) (by omega) w3, (gW.trans (Grew.of0 g3)).trans (w3.mono fun x _ hx => .inr (by omega))⟩
   rw [L32_82_eq, binV_ii, intsV_lss, dec_lt (by omega), oB, ifK_bool, cond_true, a1, callP_ret, binV_ii, intsV_sub, show ((m + 1 : Nat) : Int) - 1 = (m : Int) by omega, wrap_i64 (by omega) (by omega), oB, hc, callP_ret, outN, extractV_tuple, extractV_tuple, show ([V.agg 5 .nil, .bool false] : List V)[0]? = some (.agg 5 .nil) from rfl, show ([V.agg 5 .nil, .bool false] : List V)[1]? = some (.bool false) from rfl, oB, oB, oB, nwP_fst, y1, oB, unV_not, oB, ifK_bool, Bool.not_false, cond_true]
   dsimp only
   rw [Bx.ldA (n := 5) on3 hn3 rfl big5, oB]
   dsimp only
   rw [show vAgg (c5 [] 2 false [] v5) = .agg 5 (Tr.ofListFrom .nil (c5 [] 2 false [] v5) 0) from rfl, w1, oB]
   dsimp only
   rw [w2.ldrA (w3.on.trans on3) big5]
   rfl
  | some y =>
   have hr : readN m (rText q).2 = (some y, (readN m (rText q).2).2) := by rw [← ho]
   rw [hr] at hk'
   simp only at hk'
   rw [ho] at hc
   obtain ⟨S3, x1, x2, x3, x4⟩ := node_new hB2.on (Tr.ofListFrom .nil [(sv []), (.int .i64 0), (.bool false), (sv []), .nilslice] 0) y
   have hB3 := hB2.grew (by omega) (fun h => h) x3
   have hp3 := hp2.grew (by omega) (fun h => h) x3
   have hn3 := hn2.grew (by omega) (fun h => h) x3
   have hs3 := hs2.grew (fun _ _ _ h => h) x3
   have hst := bx_st5 (i := 0) (v := sv (rText q).1) hB3.on x2.bx (by rfl) (m := cellsN (nameIt y (rText q).1)) (by rfl) (by omega) (set5_0 _ _ _ _ _ _) rfl rfl rfl
   have g4 := grew_put (s := S3) S2.next (bxO 24 (cellsN (nameIt y (rText q).1)))
   have hk4 := bx_put (s := S3) S2.next 24 (cellsN (nameIt y (rText q).1))
   have e4 : (S3.put S2.next (bxO 24 (cellsN (nameIt y (rText q).1)))).next = S3.next := rfl
   generalize S3.put S2.next (bxO 24 (cellsN (nameIt y (rText q).1))) = S4 at hst g4 hk4 e4
   have hB4 := hB3.grew (by omega) (by omega) g4
   have hp4 := hp3.grew (by omega) (by omega) g4
   have hn4 := hn3.grew (by omega) (by omega) g4
   have hs4 : SliceIs S4 N0 v5 acc := by
    rcases hs2 with h | ⟨h1, r, h2, h3, h4, h5⟩
    · exact .inl h
    · exact .inr ⟨h1, r, h2, (h3.grew h5 (fun h => h) x3).grew (by omega) (by omega) g4, h4, by omega⟩
   have hld := Bx.ldA (n := 5) hB4.on hk4 rfl big5
   obtain ⟨S5, v', S6, u1, u2, u3, u4⟩ := SliceIs.add hB4.on hs4 (by omega) (by omega) (Tr.ofListFrom .nil [(sv []), (.int .i64 0), (.bool false), (sv []), .nilslice] 0) (nameIt y (rText q).1)
   have hB6 := hB4.grew (by omega) (by omega) u4
   have hp6 := hp4.grew (by omega) (by omega) u4
   have hn6 := hn4.grew (by omega) (by omega) u4
   obtain ⟨s1, s2, s3⟩ := slice_size u3
   have hst2 := bx_st5 (i := 4) (v := v') hB6.on hn6 rfl (m := c5 [] 2 false [] v') rfl (by omega) (set5_4 _ _ _ _ _ _) s1 s2 s3
   have g7 := grew_put (s := S6) n (bxO 24 (c5 [] 2 false [] v'))
   have hn7 := bx_put (s := S6) n 24 (c5 [] 2 false [] v')
   have e7 : (S6.put n (bxO 24 (c5 [] 2 false [] v'))).next = S6.next := rfl
   have u4n := u4.next
   generalize S6.put n (bxO 24 (c5 [] 2 false [] v')) = S7 at hst2 g7 hn7 e7
   have hB7 := hB6.grew (by omega) (by omega) g7
   have hp7 := hp6.grew (by omega) (by omega) g7
   have hs7 := u3.grew (fun r h1 h2 => by omega) g7
   have gS : Grew (fun x => x = b ∨ p ≤ x) S S7 := by
    refine (gW.trans (Grew.of0 x3)).trans ((g4.mono fun x _ hx => .inr (by omega)).trans ((u4.mono fun x _ hx => .inr (by omega)).trans (g7.mono fun x _ hx => .inr (by omega))))
   have step : L32_82 self N nk ek (fuel + 1) (.ptr b 0) (.int .i64 ((m + 1 : Nat) : Int)) (.ptr p 0) (.ptr n 0) (.int .u64 (k : Int)) (.int .u64 (i : Int)) S = L32_82 self N nk ek fuel (.ptr b 0) (.int .i64 ((m + 1 : Nat) : Int)) (.ptr p 0) (.ptr n 0) (.int .u64 (k : Int)) (.int .u64 ((i + 1 : Nat) : Int)) S7 := by
    rw [L32_82_eq, binV_ii, intsV_lss, dec_lt (by omega), oB, ifK_bool, cond_true, a1, callP_ret, binV_ii, intsV_sub, show ((m + 1 : Nat) : Int) - 1 = (m : Int) by omega, wrap_i64 (by omega) (by omega), oB, hc, callP_ret, outN, extractV_tuple, extractV_tuple, show ([encN y, .bool true] : List V)[0]? = some (encN y) from rfl, show ([encN y, .bool true] : List V)[1]? = some (.bool true) from rfl, oB, oB, oB, nwP_fst, x1, oB, unV_not, oB, ifK_bool, Bool.not_true, cond_false, faP_ptr, oB, Nat.zero_add]
    dsimp only
    rw [hst, oB, faP_ptr, oB, Nat.zero_add]
    dsimp only
    rw [Bx.ld1 hB4.on hn4 4 (by rw [c5_len]; omega) big5, oB]
    dsimp only
    rw [hld, oB, ← encN_cells]
    dsimp only
    rw [u1, oB]
    dsimp only
    rw [show (c5 [] 2 false [] v5)[4]'(by rw [c5_len]; omega) = v5 from rfl, u2, oB, oB]
    dsimp only
    rw [hst2, oB, binV_ii, intsV_add, show (i : Int) + 1 = ((i + 1 : Nat) : Int) by omega, wrap_u64 (by omega) (by omega), oB]
   rw [step]
   obtain ⟨c1, c2⟩ := L32_spec self hR N nk ek b p n N0 m hm hbp hpn hnN h32 k hk r (i + 1) fuel (readN m (rText q).2).2 (acc ++ [nameIt y (rText q).1]) v' z S7 (by omega) (by omega) (by rw [List.length_append, hacc]; rfl) fit2 hB7 hp7 hn7 hs7 (by omega) o q' hk'
   refine ⟨fun h => ?_, fun l h => ?_⟩
   · obtain ⟨S', t, d1, d2, d3⟩ := c1 h
     exact ⟨S', t, d1, d2, gS.trans d3⟩
   · obtain ⟨S', z', v'', d1, d2, d3, d4, d5, d6, d7⟩ := c2 l h
     exact ⟨S', z', v'', d1, d2, d3, d4, d5, d6, gS.trans d7⟩
end Go.Proofs.Ythmkdoaaciamlaa.W
