/-
  WHAT THE FUNCTIONS COME TO: each is read by the evaluator, printed, and told as a function of data, part 3 of 4 (no condition).
-/
import Derived.Test.YtcbaodegkfokjaaDoorW2
namespace Go.Proofs.YtcbaodegkfokjaaDoor.W
open Go.Proofs.YtcbaodegkfokjaaDoor.Ev
mutual
def fewN : Nd → Nat → Nd × Nat
 | .mk n k e d l, c => (.mk n k e d (fewL l c).1, (fewL l c).2)
def fewL : List Nd → Nat → List Nd × Nat
 | [], c => ([], c)
 | _ :: _, 0 => ([], 0)
 | y :: l, c + 1 => ((fewN y c).1 :: (fewL l (fewN y c).2).1, (fewL l (fewN y c).2).2)
end
theorem fewN_eq (x : Nd) (c : Nat) : fewN x c = (.mk x.name x.kind x.exec x.data (fewL x.kids c).1, (fewL x.kids c).2) := by cases x; rw [fewN]; rfl
mutual
theorem fewN_cnt : ∀ (x : Nd) (c : Nat), cntN (fewN x c).1 + (fewN x c).2 ≤ 1 + c
 | .mk n k e d l, c => by
  have := fewL_cnt l c
  rw [fewN, cntN]
  simp only
  omega
theorem fewL_cnt : ∀ (l : List Nd) (c : Nat), cntL (fewL l c).1 + (fewL l c).2 ≤ c
 | [], c => by rw [fewL]; simp only [cntL]; omega
 | y :: l, 0 => by rw [fewL]; simp only [cntL]; omega
 | y :: l, c + 1 => by
  have h1 := fewN_cnt y c
  have h2 := fewL_cnt l (fewN y c).2
  rw [fewL]
  simp only [cntL]
  omega
end
theorem fewL_len : ∀ (l : List Nd) (c : Nat), (fewL l c).1.length ≤ l.length
 | [], c => by rw [fewL]; exact Nat.le_refl _
 | y :: l, 0 => by rw [fewL]; simp
 | y :: l, c + 1 => by
  have := fewL_len l (fewN y c).2
  rw [fewL]
  simp only [List.length_cons]
  omega
mutual
theorem fewN_ok : ∀ (x : Nd) (c : Nat), c ≤ 3000 → x.ok → (fewN x c).1.ok
 | .mk n k e d l, c, hc, h => by
  rw [Nd.ok] at h
  obtain ⟨h1, h2, h3, h4, h5, h6⟩ := h
  have := fewL_cnt l c
  have := fewL_len l c
  rw [fewN]
  simp only
  rw [Nd.ok]
  exact ⟨h1, h2, h3, by omega, by omega, fewL_ok l c hc h6⟩
theorem fewL_ok : ∀ (l : List Nd) (c : Nat), c ≤ 3000 → okL l → okL (fewL l c).1
 | [], c, hc, h => by rw [fewL]; exact h
 | y :: l, 0, hc, h => by rw [fewL]; simp only [okL]
 | y :: l, c + 1, hc, h => by
  rw [okL] at h
  have := fewN_cnt y c
  rw [fewL]
  simp only [okL]
  exact ⟨fewN_ok y c (by omega) h.1, fewL_ok l _ (by omega) h.2⟩
end
section
variable {s : St}
theorem bx_sto (ho : s.on = false) {b e : Nat} {x v : V} (h : Bx s b e [x]) (h1 : v.size = 1) (h2 : v.cells = one v) (h3 : isTuple v = false) : stP 1 (.ptr b 0) v s = some (.tuple [], s.put b (bxO e [v])) := by
 show vu (bif Nat.beq v.size 1 && !isTuple v then stK s b 0 1 v.cells else none) = _
 rw [h1, h2, h3]
 have : stK s b 0 1 (one v) = some (s.put b (bxO e [v])) := by
  unfold stK
  rw [h]
  simp only [List.length_cons, List.length_nil, show Nat.ble (0 + 1) ((0 + 1) * 1) = true from rfl, blt_true.2 (show (0 + 1) * 1 < big by unfold big; decide), Bool.and_self, Bool.not_false, cond_true]
  unfold elemTo
  simp only [show Nat.beq 1 (0 + 1) = true from rfl, Nat.zero_mod, show Nat.beq 0 0 = true from rfl, Bool.and_self, cond_true, Nat.zero_div, Tr.setC_eq, set_one, oB, note_off ho]
  rfl
 rw [this]; rfl
theorem one_new (ho : s.on = false) (e : Nat) (z v : V) (h1 : v.size = 1) (h2 : v.cells = one v) (h3 : isTuple v = false) : ∃ t, stP 1 (.ptr s.next 0) v (nwP e 1 (one z) s).2 = some (.tuple [], t) ∧ Bx t s.next e [v] ∧ Grew (fun _ => False) s t ∧ t.next = s.next + 1 := by
 have hg := grew_nw ho (fun _ => False) (.cells e 1 1 false (Tr.ofListFrom .nil [one z] 0))
 have hb : Bx (nwP e 1 (one z) s).2 s.next e [z] := by
  show (newCells s e 1 [one z]).heap.get s.next = _
  unfold newCells
  rw [nw_get, if_pos rfl]; rfl
 have hon : (nwP e 1 (one z) s).2.on = false := nw_on ho _
 exact ⟨_, bx_sto hon hb h1 h2 h3, bx_put s.next e [v], hg.own (Nat.le_refl _) (grew_put _ _), rfl⟩
end
theorem L20_stop (self : EV) (N : Nat) (nk : Ac → St → Rs) (ek : Nat → Ac → St → Rs) (n : Nat) (x : Nd) (b0 b1 p k : Nat) (cs : List V) (hcs : cs[4]? = some (kidsV (encL x.kids))) (S : St) (ho : S.on = false) (hv : VarAt S b0 24 5 cs) (hp : Bx S p 3 [.int .i64 (k : Int)]) (i : Nat) (v5 : V) (h : ¬ (i < x.kids.length ∧ 0 < k)) :
 L20_11 self N nk ek (n + 1) (.ptr p 0) (.ptr b0 0) (.ptr b1 0) v5 (.int .i64 (i : Int)) S = ek 0 (fr 39 [(2, .ptr b0 0), (4, .ptr b1 0), (5, v5)]) S := by
 rw [L20_11_eq, faP_ptr, oB, Nat.zero_add, ld1_ptr, hv.ld ho hcs, oB]
 dsimp only
 rw [lnS_kids, oB]
 dsimp only
 rw [binV_ii, intsV_lss, oB, guardV_t, oB]
 by_cases h1 : i < x.kids.length
 · have hk : k = 0 := by omega
   subst hk
   rw [dec_lt h1, cond_true, oB, oB, cond_true, show nilCheckV (.ptr p 0) = some (.ptr p 0) from rfl, oB, oB, cond_true, Bx.ld1 ho hp 0 (by show 0 < 1; decide) big1, oB, oB, cond_true]
   dsimp only
   rw [show ([V.int .i64 ((0 : Nat) : Int)] : List V)[0]'(by show 0 < 1; decide) = .int .i64 ((0 : Nat) : Int) from rfl, binV_ii, intsV_gtr, oB, pickV_bool, cond_true, oB, ifK_bool]
   rfl
 · rw [dec_ge (by omega), cond_false, oB, oB, cond_false, oB, oB, cond_false, oB, oB, cond_false, oB, pickV_bool, cond_false, oB, ifK_bool, cond_false]
theorem L20_spec (self : EV) (N : Nat) (nk : Ac → St → Rs) (ek : Nat → Ac → St → Rs) (x : Nd) (hfew : x.kids.length ≤ 3000) (b0 b1 p N0 : Nat) (cs : List V) (hcs : cs[4]? = some (kidsV (encL x.kids))) (hb0 : b0 < N0) (hb1 : b1 < N0) (hp0 : p < N0) (h0 : p ≠ b0) (h1 : p ≠ b1)
 (h20 : ∀ y ∈ x.kids, ∀ c : Nat, c ≤ 300 → ∀ S, S.on = false → Bx S p 3 [.int .i64 (c : Int)] → self.f 20 [encN y, .ptr p 0] S = some (.ret (encN (fewN y c).1), S.put p (bxO 3 [.int .i64 ((fewN y c).2 : Int)]))) (t1 : Tr V) :
 ∀ (r : List Nd) (i n : Nat) (S : St) (acc : List Nd) (v5 : V) (c : Nat), x.kids.drop i = r → r.length < n → acc.length = i → c ≤ 300 → S.on = false → N0 ≤ S.next → VarAt S b0 24 5 cs → AgAt S b1 24 5 t1 → Bx S p 3 [.int .i64 (c : Int)] → SliceIs S N0 v5 acc →
 ∃ S' v5', L20_11 self N nk ek n (.ptr p 0) (.ptr b0 0) (.ptr b1 0) v5 (.int .i64 (i : Int)) S = ek 0 (fr 39 [(2, .ptr b0 0), (4, .ptr b1 0), (5, v5')]) S' ∧ SliceIs S' N0 v5' (acc ++ (fewL r c).1) ∧ VarAt S' b0 24 5 cs ∧ AgAt S' b1 24 5 t1 ∧ Bx S' p 3 [.int .i64 ((fewL r c).2 : Int)] ∧ Grew (fun y => N0 ≤ y ∨ y = p) S S'
 | r, i, 0, S, acc, v5, c, _, hn, _, _, _, _, _, _, _, _ => by omega
 | [], i, n + 1, S, acc, v5, c, hi, hn, ha, hc, ho, hN, hv, hg, hp, hs => by
  have hlen := drop_end hi
  rw [fewL]
  exact ⟨S, v5, L20_stop self N nk ek n x b0 b1 p c cs hcs S ho hv hp i v5 (by omega), by simpa using hs, hv, hg, hp, Grew.refl _ _⟩
 | y :: r, i, n + 1, S, acc, v5, 0, hi, hn, ha, hc, ho, hN, hv, hg, hp, hs => by
  rw [fewL]
  exact ⟨S, v5, L20_stop self N nk ek n x b0 b1 p 0 cs hcs S ho hv hp i v5 (by omega), by simpa using hs, hv, hg, hp, Grew.refl _ _⟩
 | y :: r, i, n + 1, S, acc, v5, c + 1, hi, hn, ha, hc, ho, hN, hv, hg, hp, hs => by
  obtain ⟨hlt, hy, hr, hmem⟩ := drop_at hi
  have g1 : Grew (fun b => b = p) S (S.put p (bxO 3 [.int .i64 (c : Int)])) := grew_put p _
  have hp1 := bx_put (s := S) p 3 [.int .i64 (c : Int)]
  have hst := bx_sto ho hp (v := .int .i64 (c : Int)) rfl rfl rfl
  have n1 : (S.put p (bxO 3 [.int .i64 (c : Int)])).next = S.next := rfl
  generalize S.put p (bxO 3 [.int .i64 (c : Int)]) = S1 at g1 hp1 hst n1
  have on1 := g1.on.trans ho
  have hv1 := hv.grew (by omega) (fun e => h0 e.symm) g1
  have hg1 := hg.grew (by omega) (fun e => h1 e.symm) g1
  have hs1 := hs.grew (fun r hr _ => by omega) g1
  have hcall := h20 y hmem c (by omega) S1 on1 hp1
  have g2 : Grew (fun b => b = p) S1 (S1.put p (bxO 3 [.int .i64 ((fewN y c).2 : Int)])) := grew_put p _
  have hp2 := bx_put (s := S1) p 3 [.int .i64 ((fewN y c).2 : Int)]
  have n2 : (S1.put p (bxO 3 [.int .i64 ((fewN y c).2 : Int)])).next = S1.next := rfl
  generalize S1.put p (bxO 3 [.int .i64 ((fewN y c).2 : Int)]) = S2 at g2 hp2 hcall n2
  have on2 := g2.on.trans on1
  have hv2 := hv1.grew (by omega) (fun e => h0 e.symm) g2
  have hg2 := hg1.grew (by omega) (fun e => h1 e.symm) g2
  have hs2 := hs1.grew (fun r hr _ => by omega) g2
  have hcnt := fewN_cnt y c
  obtain ⟨t, v', u, k1, k2, k3, k4⟩ := hs2.add on2 (by omega) (by omega) (Tr.ofListFrom .nil [(sv []), (.int .i64 0), (.bool false), (sv []), .nilslice] 0) (fewN y c).1
  have hv' := hv2.grew (by omega) (by omega) k4
  have hg' := hg2.grew (by omega) (by omega) k4
  have hp' := hp2.grew (by omega) (by omega) k4
  obtain ⟨S', v5', z1, z2, z3, z4, z5, z6⟩ := L20_spec self N nk ek x hfew b0 b1 p N0 cs hcs hb0 hb1 hp0 h0 h1 h20 t1 r (i + 1) n u (acc ++ [(fewN y c).1]) v' (fewN y c).2 hr (by simp at hn; omega) (by simp [ha]) (by omega) (k4.on.trans on2) (by have := k4.next; omega) hv' hg' hp' k3
  refine ⟨S', v5', ?_, by rw [fewL]; simpa using z2, z3, z4, by rw [fewL]; exact z5, (((g1.mono fun b _ hb => .inr hb).trans (g2.mono fun b _ hb => .inr hb)).trans (k4.mono fun b _ hb => .inl hb)).trans z6⟩
  rw [L20_11_eq, faP_ptr, oB, Nat.zero_add, ld1_ptr, hv.ld ho hcs, oB]
  dsimp only
  rw [lnS_kids, oB]
  dsimp only
  rw [binV_ii, intsV_lss, oB, guardV_t, oB, dec_lt hlt, cond_true, oB, oB, cond_true, show nilCheckV (.ptr p 0) = some (.ptr p 0) from rfl, oB, oB, cond_true, Bx.ld1 ho hp 0 (by show 0 < 1; decide) big1, oB, oB, cond_true]
  dsimp only
  rw [show ([V.int .i64 ((c + 1 : Nat) : Int)] : List V)[0]'(by show 0 < 1; decide) = .int .i64 ((c + 1 : Nat) : Int) from rfl, binV_ii, intsV_gtr, show decide ((0 : Int) < ((c + 1 : Nat) : Int)) = true by simp, oB, pickV_bool, cond_true, oB, ifK_bool, cond_true, oB, Bx.ld1 ho hp 0 (by show 0 < 1; decide) big1, oB]
  dsimp only
  rw [show ([V.int .i64 ((c + 1 : Nat) : Int)] : List V)[0]'(by show 0 < 1; decide) = .int .i64 ((c + 1 : Nat) : Int) from rfl, binV_ii, intsV_sub, show ((c + 1 : Nat) : Int) - 1 = (c : Int) by omega, wrap_i64 (by omega) (by omega), oB, oB, hst, oB, oB]
  dsimp only
  rw [ld1_ptr, hv1.ld on1 hcs, oB]
  dsimp only
  rw [ixP_kids x.kids i hlt, hy, oB, ldA_kid, oB]
  dsimp only
  rw [hcall, callP_ret, k1, oB]
  dsimp only
  rw [k2, oB]
  dsimp only
  rw [binV_ii, intsV_add, wrap_succ (by omega), oB]
  exact z1
theorem F20_spec (self : EV) (x : Nd) (ok : NdOk x) (p c : Nat) (hc : c ≤ 300) (S : St) (ho : S.on = false) (hp : Bx S p 3 [.int .i64 (c : Int)]) (lp : p < S.next)
 (h20 : ∀ y ∈ x.kids, ∀ c : Nat, c ≤ 300 → ∀ S, S.on = false → Bx S p 3 [.int .i64 (c : Int)] → self.f 20 [encN y, .ptr p 0] S = some (.ret (encN (fewN y c).1), S.put p (bxO 3 [.int .i64 ((fewN y c).2 : Int)]))) :
 ∃ (v : V) (S' : St), F20 self rounds (encN x) (.ptr p 0) S = some (.ret v, S') ∧ Fz S' S.next v (encN (fewN x c).1) ∧ Bx S' p 3 [.int .i64 ((fewN x c).2 : Int)] ∧ Grew (fun b => b = p) S S' := by
 obtain ⟨S1, k1, k2, k3, k4⟩ := box_new ho 24 (cellsN x)
 have on1 := k3.on.trans ho
 have hv1 := Bx.var k2 (by show 0 < 5; decide) big5
 have hp1 := hp.grew lp (fun h => h) k3
 obtain ⟨a1, a2, a3⟩ := ag_new on1 24 5 (Tr.ofListFrom .nil [(sv []), (.int .i64 0), (.bool false), (sv []), .nilslice] 0)
 generalize hS2 : (nwP 24 5 (Tr.ofListFrom .nil [(sv []), (.int .i64 0), (.bool false), (sv []), .nilslice] 0) S1).2 = S2 at a1 a2 a3
 have on2 := a2.on.trans on1
 have hv2 : VarAt S2 S.next 24 5 [sv x.name, .int .i64 x.kind, .bool x.exec, sv x.data, kidsV (encL x.kids)] := hv1.grew (by omega) (fun h => h) a2
 have hp2 := hp1.grew (by omega) (fun h => h) a2
 obtain ⟨S4, v5, z1, z2, z3, z4, z5, z6⟩ := L20_spec self rounds (R20_3 self rounds (finN E0 self Tryd.f20) noEx) (exB 0 (R20_3 self rounds (finN E0 self Tryd.f20) noEx) noEx) x ok.few S.next S1.next p S2.next _ rfl (by omega) (by omega) (by omega) (by omega) (by omega) h20 _ x.kids 0 rounds S2 [] .nilslice c rfl (by have := ok.few; unfold rounds; omega) rfl hc on2 (Nat.le_refl _) hv2 a1 hp2 (.inl ⟨rfl, rfl⟩)
 have on4 := z6.on.trans on2
 have n5 := z6.next
 rw [List.nil_append] at z2
 obtain ⟨t, S5, S6, f1, f2, f3, f4, f5, f6⟩ := fin_node (N := S.next) on4 z3 z4 z2 (by omega) (by omega) (by omega) (by omega) (by omega) (by omega)
 have n6 := f6.next
 refine ⟨.agg 5 t, S6, ?_, by rw [fewN_eq]; exact f5, by rw [fewN_eq]; exact z5.grew (by omega) (by omega) f6, ?_⟩
 · rw [F20_eq, encN_cells, k1, oB, oB, nwP_fst]
   dsimp only
   rw [hS2, show (V.int .i64 0) = .int .i64 ((0 : Nat) : Int) from rfl, z1, exB_same, R20_3_eq, faP_ptr, oB, Nat.zero_add, f1, oB]
   dsimp only
   rw [f2, oB]
   dsimp only
   rw [f3, oB]
   dsimp only
   rw [f4]
   rfl
 · refine ⟨by omega, by rw [f6.on, on4, ho], fun y hy hne => ?_⟩
   rw [f6.keep y (by omega) (by omega), z6.keep y (by omega) (by omega), a2.keep y (by omega) (fun h => h), k3.keep y hy (fun h => h)]
structure FewerIn where
 x : Nd
 ok : x.ok
 b : Nat
 c : Nat
 hc : c ≤ 300
noncomputable def encFewer (p : FewerIn) : List V := [encN p.x, .ptr p.b 0]
noncomputable def preFewer (p : FewerIn) : List (Nat × O) := [(p.b, bxO 3 [.int .i64 (p.c : Int)])]
noncomputable def postFewer (p : FewerIn) : List (Nat × O) := [(p.b, bxO 3 [.int .i64 ((fewN p.x p.c).2 : Int)])]
noncomputable def outFewer (p : FewerIn) : En := .ret (encN (fewN p.x p.c).1)
theorem effU_Fewer : EffU encFewer preFewer := fun p q s h h1 h2 => by
 simp only [encFewer, List.cons.injEq, V.ptr.injEq, and_true] at h
 obtain ⟨hx, hb⟩ := h
 have hx := encN_inj hx
 have e1 := h1 (p.b, bxO 3 [.int .i64 (p.c : Int)]) (List.mem_singleton.2 rfl)
 have e2 := h2 (q.b, bxO 3 [.int .i64 (q.c : Int)]) (List.mem_singleton.2 rfl)
 simp only at e1 e2
 rw [hb] at e1
 rw [e1, oS] at e2
 have e3 := bxO_inj e2
 simp only [List.cons.injEq, V.int.injEq, true_and, and_true] at e3
 have hc : p.c = q.c := by omega
 cases p; cases q
 simp only at hx hb hc
 subst hx hb hc
 rfl
noncomputable def kfFewer : KF := effKF encFewer preFewer postFewer outFewer
theorem kfFewer_run {S : St} (ho : S.on = false) {x : Nd} (ok : x.ok) {b c : Nat} (hc : c ≤ 300) (hB : Bx S b 3 [.int .i64 (c : Int)]) : kfFewer.run [encN x, .ptr b 0] S = some (.ret (encN (fewN x c).1), S.put b (bxO 3 [.int .i64 ((fewN x c).2 : Int)])) :=
 effKF_run (enc := encFewer) (pre := preFewer) (post := postFewer) (out := outFewer) effU_Fewer ho ⟨x, ok, b, c, hc⟩ (fun p hp => by
  rw [preFewer, List.mem_singleton] at hp
  subst hp
  exact hB)
theorem kn20 {K : FuncId → Option KF} (hK : KnOk Tryd.prog E0 K) : KnWell Tryd.prog E0 20 kfFewer :=
 effKF_rec (fn := Tryd.f20) (c := C20) (d := B20) (fun p : FewerIn => SizeOf.sizeOf p.x) effU_Fewer (fun x N hx p hp => by
  rw [postFewer, List.mem_singleton] at hp
  subst hp
  exact ⟨hx (x.b, bxO 3 [.int .i64 (x.c : Int)]) (List.mem_singleton.2 rfl), bxO_under fun v hv => by
   rw [List.mem_singleton] at hv
   subst hv
   exact .int _ _⟩) (fun x p hp => by
  rw [preFewer, List.mem_singleton] at hp
  subst hp
  rfl) E0_ok hK (by kernel_rfl) (by kernel_rfl) (annot_isOf C20 _ (by kernel_rfl)) fun K' hK' p S hself ho hh hl => by
  obtain ⟨v, S', h1, h2, h3, h4⟩ := F20_spec (ev E0 K' 1) p.x p.ok.at p.b p.c p.hc S ho (hh (p.b, bxO 3 [.int .i64 (p.c : Int)]) (List.mem_singleton.2 rfl)) (hl (p.b, bxO 3 [.int .i64 (p.c : Int)]) (List.mem_singleton.2 rfl))
   (fun y hy c hc S ho hB => hself ⟨y, p.ok.at.kids y hy, p.b, c, hc⟩ S 0 (kid_size hy) ho (fun q hq => by
    rw [preFewer, List.mem_singleton] at hq
    subst hq
    exact hB))
  refine ⟨1, .ret v, S', h1, h4.mono fun y _ hy => ⟨_, List.mem_singleton.2 rfl, hy.symm⟩, fun q hq => ?_, h2⟩
  rw [postFewer, List.mem_singleton] at hq
  subst hq
  exact h3
def smallN (r : Rw) : Nd := (fewN (cutN 16 r) 300).1
theorem small_ok (r : Rw) (h : DeepOk 16 r) : (smallN r).ok := fewN_ok _ _ (by omega) (cut_ok 16 r (Nat.le_refl _) h)
structure SmallIn where
 r : Rw
 ok : DeepOk 16 r
noncomputable def encSmall (p : SmallIn) : List V := [rwV p.r]
noncomputable def kfSmall : KF := specKF encSmall (fun p => En.ret (encN (smallN p.r)))
theorem encSmall_eq {p q : SmallIn} (h : encSmall p = encSmall q) : smallN p.r = smallN q.r := by
 simp only [encSmall, List.cons.injEq, and_true] at h
 unfold smallN
 rw [cut_eq 16 _ _ h]
theorem kfSmall_run (r : Rw) (h : DeepOk 16 r) (S : St) : kfSmall.run [rwV r] S = some (.ret (encN (smallN r)), S) :=
 specKF_run (enc := encSmall) (out := fun p => En.ret (encN (smallN p.r))) (fun p q h => by rw [encSmall_eq h]) ⟨r, h⟩ S
theorem kn6 {K : FuncId → Option KF} (hK : KnOk Tryd.prog E0 K) (h19 : K 19 = some kfCut) (h20 : K 20 = some kfFewer) : KnWell Tryd.prog E0 6 kfSmall :=
 specKF_text (fn := Tryd.f6) (c := C6) (d := B6) E0_ok hK (by kernel_rfl) (by kernel_rfl) (annot_isOf C6 _ (by kernel_rfl)) fun p S ho => by
  obtain ⟨r, hr⟩ := p
  have okc := cut_ok 16 r (Nat.le_refl _) hr
  obtain ⟨S1, k1, k2, k3, k4⟩ := box_new ho 24 (cellsR r)
  have on1 := k3.on.trans ho
  obtain ⟨a1, a2, a3⟩ := ag_new on1 24 5 (Tr.ofListFrom .nil [(sv []), (.int .i64 0), (.bool false), (sv []), .nilslice] 0)
  generalize hS2 : (nwP 24 5 (Tr.ofListFrom .nil [(sv []), (.int .i64 0), (.bool false), (sv []), .nilslice] 0) S1).2 = S2 at a1 a2 a3
  have on2 := a2.on.trans on1
  have k2' := k2.grew (by omega) (fun h => h) a2
  have q1 : ldA 5 (.ptr S.next 0) S2 = some (vAgg (cellsR r), S2) := Bx.ldA on2 k2' rfl big5
  obtain ⟨t1, p1, _⟩ := VarAt.agg (Bx.var k2' (by show 0 < 5; decide) big5)
  have p1 : AgAt S2 S.next 24 5 t1 := p1
  obtain ⟨S3, b1, b2, b3, b4⟩ := p1.stA on2 big5 (treeN (cutN 16 r))
  have on3 := b3.on.trans on2
  have a1' := a1.grew (by omega) (by omega) b3
  obtain ⟨S4, c1, c2, c3, c4⟩ := one_new on3 3 (.int .i64 0) (.int .i64 300) rfl rfl rfl
  have on4 := c3.on.trans on3
  have b2' := b2.grew (by omega) (fun h => h) c3
  have a1'' := a1'.grew (by omega) (fun h => h) c3
  have l1 : ldA 5 (.ptr S.next 0) S4 = some (encN (cutN 16 r), S4) := by rw [encN_tree]; exact b2'.ldA on4 big5
  have hrun := kfFewer_run on4 okc (b := S3.next) (c := 300) (Nat.le_refl _) c2
  have g5 : Grew (fun b => b = S3.next) S4 (S4.put S3.next (bxO 3 [.int .i64 ((fewN (cutN 16 r) 300).2 : Int)])) := grew_put _ _
  have n5 : (S4.put S3.next (bxO 3 [.int .i64 ((fewN (cutN 16 r) 300).2 : Int)])).next = S4.next := rfl
  generalize S4.put S3.next (bxO 3 [.int .i64 ((fewN (cutN 16 r) 300).2 : Int)]) = S5 at g5 hrun n5
  have on5 := g5.on.trans on4
  have a5 := a1''.grew (by omega) (by omega) g5
  obtain ⟨S6, e1, e2, e3, e4⟩ := a5.stA on5 big5 (treeN (smallN r))
  have on6 := e3.on.trans on5
  refine ⟨1, .ret (encN (smallN r)), S6, (?_ : F6 (ev E0 K 1) rounds (rwV r) S = _), ?_, Fz.same (under_encN _ _)⟩
  · rw [F6_eq, rwV_cells, k1, oB, oB, nwP_fst]
    dsimp only
    rw [hS2, q1, oB]
    dsimp only
    rw [← rwV_cells, show (V.int .i64 16) = .int .i64 ((16 : Nat) : Int) from rfl, ev_known h19, kfCut_run 16 r (Nat.le_refl _), callP_ret, encN_tree, b1, oB]
    dsimp only
    rw [oB, nwP_fst]
    rw [c1, oB]
    dsimp only
    rw [l1, oB]
    dsimp only
    rw [ev_known h20, hrun, callP_ret]
    show (stP 5 (.ptr S1.next 0) (encN (smallN r)) S5).bind _ = _
    rw [encN_tree, e1, oB]
    dsimp only
    rw [e2.ldrA on6 big5, oB]
  · refine ⟨by have := k3.next; have := a2.next; have := b3.next; have := c3.next; have := e3.next; omega, on6.trans ho.symm, fun y hy _ => ?_⟩
    rw [e3.keep y (by omega) (by omega), g5.keep y (by omega) (by omega), c3.keep y (by omega) (fun h => h), b3.keep y (by omega) (by omega), a2.keep y (by omega) (fun h => h), k3.keep y hy (fun h => h)]
end Go.Proofs.YtcbaodegkfokjaaDoor.W
namespace Go.Proofs.YtcbaodegkfokjaaDoor.W
open Go.Proofs.YtcbaodegkfokjaaDoor.Ev
def splitS : List UInt8 → List (List UInt8)
 | [] => [[]]
 | c :: s => if c = 47 then [] :: splitS s else match splitS s with
  | [] => [[c]]
  | p :: ps => (c :: p) :: ps
theorem splitS_ne : ∀ s, splitS s ≠ []
 | [] => by simp [splitS]
 | c :: s => by
  rw [splitS]
  split
  · simp
  · split <;> simp
theorem splitS_append : ∀ a b, splitS (a ++ 47 :: b) = splitS a ++ splitS b
 | [], b => by rw [List.nil_append, show splitS (47 :: b) = [] :: splitS b by rw [splitS, if_pos rfl]]; rfl
 | c :: a, b => by
  rw [List.cons_append, splitS, splitS_append a b, splitS]
  split
  · rfl
  · have := splitS_ne a
    cases h : splitS a with
    | nil => exact absurd h this
    | cons p ps => rfl
theorem split_none : ∀ s : List UInt8, s.findIdx? (fun x => x == 47) = none → splitS s = [s]
 | [], _ => rfl
 | c :: s, h => by
  rw [List.findIdx?_cons] at h
  by_cases hc : c = 47
  · rw [hc] at h; simp at h
  · rw [if_neg (by simpa using hc)] at h
    rw [splitS, if_neg hc, split_none s (by simpa using h)]
theorem split_some : ∀ (s : List UInt8) (i : Nat), s.findIdx? (fun x => x == 47) = some i → i < s.length ∧ splitS s = s.take i :: splitS (s.drop (i + 1))
 | [], i, h => by simp at h
 | c :: s, i, h => by
  rw [List.findIdx?_cons] at h
  by_cases hc : c = 47
  · rw [hc] at h
    simp at h
    subst h
    rw [splitS, if_pos hc]
    exact ⟨by simp, rfl⟩
  · rw [if_neg (by simpa using hc)] at h
    cases hf : s.findIdx? (fun x => x == 47) with
    | none => rw [hf] at h; simp at h
    | some j =>
     rw [hf] at h
     simp at h
     subst h
     obtain ⟨h1, h2⟩ := split_some s j hf
     rw [splitS, if_neg hc, h2]
     exact ⟨by simp; omega, rfl⟩
theorem f43_run {K : FuncId → Option KF} (h43 : K 43 = none) (h52 : K 52 = none) (h48 : K 48 = none) (m : Nat) (s : List UInt8) (S : St) : (ev E0 K (m + 3)).f 43 [sv s, sv [47]] S = some (.ret (.int .i64 (ixB s 47)), S) := by
 have e48 := ev_read (c := C48) (d := B48) (by kernel_rfl) (by kernel_rfl) (annot_isOf C48 _ (by kernel_rfl)) h48 (F73_spec (ev E0 K m) rounds s 47 S)
 have e52 : F52 (ev E0 K (m + 1)) rounds (sv s) (sv [47]) S = some (.ret (.int .i64 (ixB s 47)), S) := by
  rw [F52_eq, lnStr_sv, oB]
  dsimp only
  rw [binV_ii, intsV_eql, show decide ((([47] : List UInt8).length : Int) = 0) = false from rfl, oB, guardV_f, Bool.not_false, oB, cond_true, oB, oB, cond_true, oB, oB, cond_true, binV_ss, strOp_eql, oB, pickV_bool, cond_false, oB, ifK_bool]
  by_cases hs : s = [47]
  · rw [hs]
    rw [beq_self_eq_true, cond_true]
    rfl
  · rw [beq_false_of_ne (fun e => hs e.symm), cond_false, binV_ii, intsV_eql, show decide ((([47] : List UInt8).length : Int) = 1) = true from rfl, oB, ifK_bool, cond_true, show (V.int .i64 0) = .int .i64 ((0 : Nat) : Int) from rfl, ixS_sv [47] .i64 0 (by decide), oB]
    show callP ((ev E0 K (m + 1)).f 48 [sv s, .int .u8 ((47 : UInt8).toNat : Int)] S) _ = _
    rw [e48, callP_ret]
 have e52' := ev_read (c := C52) (d := B52) (by kernel_rfl) (by kernel_rfl) (annot_isOf C52 _ (by kernel_rfl)) h52 e52
 refine ev_read (c := C43) (d := B43) (by kernel_rfl) (by kernel_rfl) (annot_isOf C43 _ (by kernel_rfl)) h43 (?_ : F43 (ev E0 K (m + 2)) rounds (sv s) (sv [47]) S = _)
 rw [F43_eq]
 show callP ((ev E0 K (m + 1 + 1)).f 52 [sv s, sv [47]] S) _ = _
 rw [e52', callP_ret]
def runP {σ : Type} (step : σ → List UInt8 → Option σ) : List (List UInt8) → σ → Option σ
 | [], x => some x
 | p :: ps, x => (step x p).bind (runP step ps)
theorem runP_append {σ : Type} (step : σ → List UInt8 → Option σ) : ∀ (a b : List (List UInt8)) (x : σ), runP step (a ++ b) x = (runP step a x).bind (runP step b)
 | [], b, x => rfl
 | p :: a, b, x => by
  rw [List.cons_append, runP, runP]
  cases step x p with
  | none => rfl
  | some x' => exact runP_append step a b x'
structure Ys {σ : Type} (K : FuncId → Option KF) (n0 : Nat) (y : V) (step : σ → List UInt8 → Option σ) (I : (Nat → Prop) → σ → St → Prop) (J : (Nat → Prop) → St → Prop) : Prop where
 on : ∀ {O x S}, I O x S → S.on = false
 lt : ∀ {O x S b}, I O x S → O b → b < S.next
 keep : ∀ {O x S S'}, I O x S → Grew O S S' → I (fun b => O b ∨ (S.next ≤ b ∧ b < S'.next)) x S'
 weak : ∀ {O O' x S}, I O x S → (∀ b, O' b → O b) → I O' x S
 call : ∀ {O x S p}, I O x S → p.length ≤ 1000 → ∀ n, n0 ≤ n → ∃ S', callK E0 (ev E0 K n) y [sv p] S = some (.ret (.bool (step x p).isSome), S') ∧ (∀ x', step x p = some x' → I O x' S') ∧ (step x p = none → J O S') ∧ Grew (fun b => ¬ O b) S S'
section
variable {σ : Type} {K : FuncId → Option KF} {n0 : Nat} {y : V} {step : σ → List UInt8 → Option σ} {I : (Nat → Prop) → σ → St → Prop} {J : (Nat → Prop) → St → Prop}
theorem Ys.keepO (h : Ys K n0 y step I J) {O x S S'} (hI : I O x S) (g : Grew O S S') : I O x S' := h.weak (h.keep hI g) fun _ hb => .inl hb
theorem L44_spec (hY : Ys K n0 y step I J) (h43 : K 43 = none) (h52 : K 52 = none) (h48 : K 48 = none) (m : Nat) (hm : n0 ≤ m + 3) (N b1 b2 b3 : Nat) (h12 : b1 ≠ b2) (h23 : b3 ≠ b2) (O : Nat → Prop) (o1 : O b1) (o2 : O b2) (o3 : O b3) :
 ∀ (s : List UInt8) (n : Nat) (x : σ) (S : St), s.length ≤ 1000 → s.length < n → I O x S → Bx S b1 9 [sv [47]] → Bx S b2 9 [sv s] → Bx S b3 3 [.int .i64 0] →
 ∃ S', L44_5 (ev E0 K (m + 3)) N (R44_1 (ev E0 K (m + 3)) N (fun a s => projK [] a fun a => finN E0 (ev E0 K (m + 3)) Tryd.f44 a s) noEx) (exB 2 (R44_1 (ev E0 K (m + 3)) N (fun a s => projK [] a fun a => finN E0 (ev E0 K (m + 3)) Tryd.f44 a s) noEx) noEx) n y (.ptr b1 0) (.ptr b2 0) (.ptr b3 0) S = some (.ret (.tuple []), S') ∧
  (∀ x', runP step (splitS s) x = some x' → I O x' S') ∧ (runP step (splitS s) x = none → J O S') ∧ Grew (fun b => ¬ O b ∨ b = b2) S S'
 | s, 0, x, S, _, hn, _, _, _, _ => by omega
 | s, n + 1, x, S, hs, hn, hI, q1, q2, q3 => by
  have ho := hY.on hI
  have l1 := hY.lt hI o1
  have l2 := hY.lt hI o2
  have l3 := hY.lt hI o3
  have hld : ∀ {v : V}, ([v] : List V)[0]'(by show 0 < 1; decide) = v := rfl
  rw [L44_5_eq, Bx.ld1 ho q2 0 (by show 0 < 1; decide) big1, oB]
  dsimp only
  rw [Bx.ld1 ho q1 0 (by show 0 < 1; decide) big1, oB]
  dsimp only
  rw [hld, hld, f43_run h43 h52 h48 m s S, callP_ret]
  cases hf : s.findIdx? (fun x => x == 47) with
  | none =>
   have hsp := split_none s hf
   obtain ⟨S', c1, c2, c3, c4⟩ := hY.call hI hs (m + 3) hm
   have hfin : (fun a s => projK [] a fun a => finN E0 (ev E0 K (m + 3)) Tryd.f44 a s) (fr 52 []) S' = some (.ret (.tuple []), S') := by kernel_rfl
   refine ⟨S', ?_, fun x' hx => ?_, fun hx => ?_, c4.mono fun b _ hb => .inl hb⟩
   · rw [show ixB s 47 = -1 by unfold ixB; rw [hf], binV_ii, intsV_lss, show decide ((-1 : Int) < 0) = true from rfl, oB, ifK_bool, cond_true, exB_same, R44_1_eq, Bx.ld1 ho q2 0 (by show 0 < 1; decide) big1, oB]
     dsimp only
     rw [hld, c1, callP_ret]
     exact hfin
   · rw [hsp, runP] at hx
     cases hst : step x s with
     | none => rw [hst] at hx; cases hx
     | some x2 =>
      rw [hst] at hx
      have : x2 = x' := by simpa [runP] using hx
      rw [← this]
      exact c2 x2 hst
   · rw [hsp, runP] at hx
     cases hst : step x s with
     | none => exact c3 hst
     | some x2 => rw [hst] at hx; simp [runP] at hx
  | some i =>
   obtain ⟨hi, hsp⟩ := split_some s i hf
   have hpl : (s.take i).length ≤ 1000 := by rw [List.length_take]; omega
   obtain ⟨S1, c1, c2, c3, c4⟩ := hY.call hI hpl (m + 3) hm
   rw [show ixB s 47 = (i : Int) by unfold ixB; rw [hf], binV_ii, intsV_lss, show decide ((i : Int) < 0) = false by simp, oB, ifK_bool, cond_false, Bx.ld1 ho q2 0 (by show 0 < 1; decide) big1, oB]
   dsimp only
   rw [Bx.ld1 ho q3 0 (by show 0 < 1; decide) big1, oB]
   dsimp only
   rw [hld, hld, binV_ii, intsV_add, wrap_i64 (by omega) (by omega), Int.add_zero, oB, slice_sv und9 s (bounds_hi .i64 (by omega)) (by omega), oB]
   dsimp only
   rw [List.drop_zero, Nat.sub_zero, c1, callP_ret, unV_not, oB, ifK_bool]
   cases hst : step x (s.take i) with
   | none =>
    rw [show (!((none : Option σ).isSome)) = true from rfl, cond_true]
    refine ⟨S1, rfl, fun x' hx => ?_, fun _ => c3 hst, c4.mono fun b _ hb => .inl hb⟩
    rw [hsp, runP, hst] at hx
    cases hx
   | some x2 =>
    have on1 := c4.on.trans ho
    have p1 := q1.grew l1 (fun h => h o1) c4
    have p2 := q2.grew l2 (fun h => h o2) c4
    have p3 := q3.grew l3 (fun h => h o3) c4
    have hI1 := c2 x2 hst
    have hst2 := bx_sto on1 p2 (v := sv (s.drop (i + 1))) rfl rfl rfl
    have g2 : Grew (fun b => b = b2) S1 (S1.put b2 (bxO 9 [sv (s.drop (i + 1))])) := grew_put b2 _
    have p2' := bx_put (s := S1) b2 9 [sv (s.drop (i + 1))]
    have n2 : (S1.put b2 (bxO 9 [sv (s.drop (i + 1))])).next = S1.next := rfl
    generalize S1.put b2 (bxO 9 [sv (s.drop (i + 1))]) = S2 at hst2 g2 p2' n2
    have n1 := c4.next
    have hI2 := hY.keepO hI1 (g2.mono fun b _ hb => by rw [hb]; exact o2)
    obtain ⟨S3, k1, k2, k3, k4⟩ := L44_spec hY h43 h52 h48 m hm N b1 b2 b3 h12 h23 O o1 o2 o3 (s.drop (i + 1)) n x2 S2 (by rw [List.length_drop]; omega) (by rw [List.length_drop]; omega) hI2 (p1.grew (by omega) h12 g2) p2' (p3.grew (by omega) h23 g2)
    refine ⟨S3, ?_, fun x' hx => ?_, fun hx => ?_, ((c4.mono fun b _ hb => .inl hb).trans (g2.mono fun b _ hb => .inr hb)).trans k4⟩
    · rw [show (!((some x2 : Option σ).isSome)) = false from rfl, cond_false, Bx.ld1 on1 p2 0 (by show 0 < 1; decide) big1, oB]
      dsimp only
      rw [Bx.ld1 on1 p1 0 (by show 0 < 1; decide) big1, oB]
      dsimp only
      rw [hld, hld, lnStr_sv, oB]
      dsimp only
      rw [binV_ii, intsV_add, show (([47] : List UInt8).length : Int) = 1 from rfl, wrap_succ (by omega), oB, slice_sv und9 s (bounds_lo .i64 (by omega)) (Nat.le_refl _), oB]
      dsimp only
      rw [show List.take (s.length - (i + 1)) (s.drop (i + 1)) = s.drop (i + 1) from List.take_of_length_le (by rw [List.length_drop]; exact Nat.le_refl _), hst2, oB]
      exact k1
    · rw [hsp, runP, hst] at hx
      exact k2 x' hx
    · rw [hsp, runP, hst] at hx
      exact k3 hx
theorem split_run (hY : Ys K n0 y step I J) (h43 : K 43 = none) (h52 : K 52 = none) (h48 : K 48 = none) (h44 : K 44 = none) (m : Nat) (hm : n0 ≤ m + 3) {b1 b2 b3 : Nat} (h12 : b1 ≠ b2) (h23 : b3 ≠ b2) {O : Nat → Prop} (o1 : O b1) (o2 : O b2) (o3 : O b3)
 {s : List UInt8} {x : σ} {S : St} (hs : s.length ≤ 1000) (hI : I O x S) (q1 : Bx S b1 9 [sv [47]]) (q2 : Bx S b2 9 [sv s]) (q3 : Bx S b3 3 [.int .i64 0]) :
 ∃ S', (ev E0 K (m + 4)).f 44 [y, .ptr b1 0, .ptr b2 0, .ptr b3 0] S = some (.ret (.tuple []), S') ∧ (∀ x', runP step (splitS s) x = some x' → I O x' S') ∧ (runP step (splitS s) x = none → J O S') ∧ Grew (fun b => ¬ O b ∨ b = b2) S S' := by
 obtain ⟨S', h1, h2⟩ := L44_spec hY h43 h52 h48 m hm rounds b1 b2 b3 h12 h23 O o1 o2 o3 s rounds x S hs (by unfold rounds; omega) hI q1 q2 q3
 refine ⟨S', ev_read (c := C44) (d := B44) (by kernel_rfl) (by kernel_rfl) (annot_isOf C44 _ (by kernel_rfl)) h44 (?_ : F44 (ev E0 K (m + 3)) rounds y (.ptr b1 0) (.ptr b2 0) (.ptr b3 0) S = _), h2⟩
 rw [F44_eq, Bx.ld1 (hY.on hI) q1 0 (by show 0 < 1; decide) big1, oB]
 dsimp only
 rw [show ([sv [47]] : List V)[0]'(by show 0 < 1; decide) = sv [47] from rfl, lnStr_sv, oB]
 dsimp only
 rw [binV_ii, intsV_eql, show decide ((([47] : List UInt8).length : Int) = 0) = false from rfl, oB, ifK_bool, cond_false, R44_0_eq]
 exact h1
end
theorem body44 : E0.ext.get 44 = none ∧ hasBody E0 44 = true := ⟨by kernel_rfl, by kernel_rfl⟩
theorem f21_run {K : FuncId → Option KF} (h21 : K 21 = none) (h31 : K 31 = none) (m : Nat) (s : List UInt8) (S : St) (ho : S.on = false) :
 ∃ S', (ev E0 K (m + 2)).f 21 [sv s, sv [47]] S = some (.ret (.fn (.func 44) [] [.ptr (S.next + 1) 0, .ptr S.next 0, .ptr (S.next + 2) 0]), S') ∧ Bx S' S.next 9 [sv s] ∧ Bx S' (S.next + 1) 9 [sv [47]] ∧ Bx S' (S.next + 2) 3 [.int .i64 0] ∧ Grew (fun _ => False) S S' ∧ S'.next = S.next + 3 := by
 obtain ⟨S1, a1, a2, a3, a4⟩ := box_one ho 9 (oneV_sv s)
 have on1 := a3.on.trans ho
 obtain ⟨S2, b1, b2, b3, b4⟩ := box_one on1 9 (oneV_sv [47])
 have on2 := b3.on.trans on1
 obtain ⟨S3, c1, c2, c3, c4⟩ := box_one on2 3 (oneV_int .i64 0)
 rw [a4] at b1 b2 b4
 rw [b4] at c1 c2
 have e31 := ev_read (K := K) (n := m) (c := C31) (d := B31) (args := [sv s, sv [47], .int .i64 0]) (s := S) (r := (.ret (.fn (.func 44) [] [.ptr (S.next + 1) 0, .ptr S.next 0, .ptr (S.next + 2) 0]), S3)) (by kernel_rfl) (by kernel_rfl) (annot_isOf C31 _ (by kernel_rfl)) h31 (by
  show F31 (ev E0 K m) rounds (sv s) (sv [47]) (.int .i64 0) S = _
  rw [F31_eq, a1, oB]
  dsimp only
  rw [b1, oB]
  dsimp only
  rw [c1, oB])
 refine ⟨S3, ev_read (c := C21) (d := B21) (by kernel_rfl) (by kernel_rfl) (annot_isOf C21 _ (by kernel_rfl)) h21 (?_ : F21 (ev E0 K (m + 1)) rounds (sv s) (sv [47]) S = _), (a2.grew (by omega) (fun h => h) b3).grew (by omega) (fun h => h) c3, b2.grew (by omega) (fun h => h) c3, c2, (a3.trans b3).trans c3, by omega⟩
 rw [F21_eq, e31, callP_ret]
end Go.Proofs.YtcbaodegkfokjaaDoor.W
namespace Go.Proofs.YtcbaodegkfokjaaDoor.W
open Go.Proofs.YtcbaodegkfokjaaDoor.Ev
def stepF (x : Nd) (p : List UInt8) : Option Nd := if x.kind = 2 ∧ p ≠ [] then x.kids.find? (fun y => y.name == p) else none
def findS (x : Nd) (p : List UInt8) : Option Nd := if p = [] then some x else runP stepF (splitS p) x
def zN : Nd := .mk [] 0 false [] []
theorem build_zN : buildV E0 24 [] = some (encN zN) := by
 unfold zN
 rw [encN, encL]
 kernel_rfl
theorem stepF_kid {x y : Nd} {p : List UInt8} (h : stepF x p = some y) : y ∈ x.kids := by
 unfold stepF at h
 split at h
 · exact List.mem_of_find?_eq_some h
 · cases h
theorem stepF_ok {x y : Nd} {p : List UInt8} (ok : x.ok) (h : stepF x p = some y) : y.ok := ok.at.kids y (stepF_kid h)
theorem runF_ok : ∀ (l : List (List UInt8)) {x y : Nd}, x.ok → runP stepF l x = some y → y.ok
 | [], x, y, ok, h => by
  have : x = y := by simpa [runP] using h
  rw [← this]; exact ok
 | p :: l, x, y, ok, h => by
  rw [runP] at h
  cases hs : stepF x p with
  | none => rw [hs] at h; cases h
  | some z => rw [hs] at h; exact runF_ok l (stepF_ok ok hs) h
theorem findS_ok {x y : Nd} {p : List UInt8} (ok : x.ok) (h : findS x p = some y) : y.ok := by
 unfold findS at h
 split at h
 · have : x = y := by simpa using h
   rw [← this]; exact ok
 · exact runF_ok _ ok h
theorem findS_parts {a b : List UInt8} (ha : a ≠ []) (hb : b ≠ []) (x : Nd) : findS x (a ++ 47 :: b) = (findS x a).bind fun y => findS y b := by
 unfold findS
 rw [if_neg (by simp), if_neg ha, splitS_append, runP_append]
 cases runP stepF (splitS a) x with
 | none => rfl
 | some y => rw [oB, oB, if_neg hb]
def ixName (l : List Nd) (p : List UInt8) : Int := match l.findIdx? (fun y => y.name == p) with | some i => (i : Int) | none => -1
theorem body23 : E0.ext.get 23 = none ∧ hasBody E0 23 = true := ⟨by kernel_rfl, by kernel_rfl⟩
theorem f23_run {K : FuncId → Option KF} (h23 : K 23 = none) (m : Nat) (y : Nd) (p : List UInt8) (b : Nat) (S : St) (ho : S.on = false) (hb : Bx S b 9 [sv p]) (lb : b < S.next) :
 ∃ S', callK E0 (ev E0 K (m + 1)) (.fn (.func 23) [] [.ptr b 0]) [encN y] S = some (.ret (.bool (y.name == p)), S') ∧ Grew (fun _ => False) S S' := by
 obtain ⟨S1, a1, a2, a3, a4⟩ := node_box ho y
 refine ⟨S1, ?_, a3⟩
 rw [callK_fn body23.1 body23.2]
 refine ev_read (c := C23) (d := B23) (by kernel_rfl) (by kernel_rfl) (annot_isOf C23 _ (by kernel_rfl)) h23 (?_ : F23 (ev E0 K m) rounds (encN y) (.ptr b 0) S = _)
 rw [F23_eq, a1, oB]
 dsimp only
 rw [faP_ptr, oB, Nat.zero_add, a2.f0, oB]
 dsimp only
 rw [Bx.ld1 a2.on (hb.grew lb (fun h => h) a3) 0 (by show 0 < 1; decide) big1, oB]
 dsimp only
 rw [show ([sv p] : List V)[0]'(by show 0 < 1; decide) = sv p from rfl, binV_ss, strOp_eql, oB]
theorem L22_spec {K : FuncId → Option KF} (h23 : K 23 = none) (m N : Nat) (all : List Nd) (hfew : all.length ≤ 3000) (p : List UInt8) (b : Nat) :
 ∀ (r : List Nd) (i n : Nat) (S : St), all.drop i = r → r.length < n → S.on = false → Bx S b 9 [sv p] → b < S.next →
 ∃ S', L22_6 (ev E0 K (m + 1)) N (R22_1 (ev E0 K (m + 1)) N (finN E0 (ev E0 K (m + 1)) Tryd.f22) noEx) (exB 0 (R22_1 (ev E0 K (m + 1)) N (finN E0 (ev E0 K (m + 1)) Tryd.f22) noEx) noEx) n (kidsV (encL all)) (.fn (.func 23) [] [.ptr b 0]) (.int .i64 (all.length : Int)) (.int .i64 (i : Int)) S = some (.ret (.int .i64 (match r.findIdx? (fun y => y.name == p) with | some j => ((i + j : Nat) : Int) | none => -1)), S') ∧ Grew (fun _ => False) S S'
 | r, i, 0, S, _, hn, _, _, _ => by omega
 | [], i, n + 1, S, hi, hn, ho, hb, lb => by
  rw [L22_6_eq, binV_ii, intsV_lss, dec_ge (drop_end hi), oB, ifK_bool, cond_false, exB_same, R22_1_eq]
  exact ⟨S, rfl, Grew.refl _ _⟩
 | z :: r, i, n + 1, S, hi, hn, ho, hb, lb => by
  obtain ⟨hlt, hz, hr, hmem⟩ := drop_at hi
  obtain ⟨S1, a1, a2⟩ := f23_run h23 m z p b S ho hb lb
  rw [L22_6_eq, binV_ii, intsV_lss, dec_lt hlt, oB, ifK_bool, cond_true, ixP_kids all i hlt, hz, oB, ldA_kid, oB]
  dsimp only
  rw [a1, callP_ret, ifK_bool, List.findIdx?_cons]
  by_cases h : (z.name == p) = true
  · rw [h, cond_true, if_pos rfl]
    exact ⟨S1, rfl, a2⟩
  · rw [Bool.not_eq_true] at h
    obtain ⟨S2, b1, b2⟩ := L22_spec h23 m N all hfew p b r (i + 1) n S1 hr (by simp at hn; omega) (a2.on.trans ho) (hb.grew lb (fun h => h) a2) (by have := a2.next; omega)
    refine ⟨S2, ?_, a2.trans b2⟩
    rw [h, cond_false, if_neg (by simp), binV_ii, intsV_add, wrap_succ (by omega), oB, b1]
    cases r.findIdx? (fun y => y.name == p) with
    | none => rfl
    | some j => simp only [Option.map_some]; rw [show i + 1 + j = i + (j + 1) by omega]
theorem f22_run {K : FuncId → Option KF} (h22 : K 22 = none) (h23 : K 23 = none) (m : Nat) (l : List Nd) (hfew : l.length ≤ 3000) (p : List UInt8) (b : Nat) (S : St) (ho : S.on = false) (hb : Bx S b 9 [sv p]) (lb : b < S.next) :
 ∃ S', (ev E0 K (m + 2)).f 22 [kidsV (encL l), .fn (.func 23) [] [.ptr b 0]] S = some (.ret (.int .i64 (ixName l p)), S') ∧ Grew (fun _ => False) S S' := by
 obtain ⟨S', h1, h2⟩ := L22_spec h23 m rounds l hfew p b l 0 rounds S rfl (by unfold rounds; omega) ho hb lb
 refine ⟨S', ev_read (c := C22) (d := B22) (by kernel_rfl) (by kernel_rfl) (annot_isOf C22 _ (by kernel_rfl)) h22 (?_ : F22 (ev E0 K (m + 1)) rounds (kidsV (encL l)) (.fn (.func 23) [] [.ptr b 0]) S = _), h2⟩
 rw [F22_eq, lnS_kids, oB]
 dsimp only
 rw [show ((0 : Nat) : Int) = 0 from rfl] at h1
 rw [h1]
 unfold ixName
 cases l.findIdx? (fun y => y.name == p) with
 | none => rfl
 | some j => simp only [Nat.zero_add]
theorem find_ix : ∀ (l : List Nd) (p : List UInt8), (l.findIdx? (fun y => y.name == p) = none ∧ l.find? (fun y => y.name == p) = none) ∨ ∃ i, ∃ h : i < l.length, l.findIdx? (fun y => y.name == p) = some i ∧ l.find? (fun y => y.name == p) = some l[i]
 | [], p => .inl ⟨rfl, rfl⟩
 | z :: l, p => by
  by_cases h : (z.name == p) = true
  · refine .inr ⟨0, by simp, ?_, ?_⟩
    · rw [List.findIdx?_cons, if_pos h]
    · rw [List.find?_cons, h]; rfl
  · rw [Bool.not_eq_true] at h
    rcases find_ix l p with ⟨h1, h2⟩ | ⟨i, hi, h1, h2⟩
    · refine .inl ⟨?_, ?_⟩
      · rw [List.findIdx?_cons, h, h1]; rfl
      · rw [List.find?_cons, h]; exact h2
    · refine .inr ⟨i + 1, by simp; omega, ?_, ?_⟩
      · rw [List.findIdx?_cons, h, h1]; rfl
      · rw [List.find?_cons, h]; exact h2
structure FindI (l p0 p1 p2 : Nat) (O : Nat → Prop) (x : Nd) (S : St) : Prop where
 on : S.on = false
 lt : ∀ b, O b → b < S.next
 hl : ¬ O l
 h0 : ¬ O p0
 h1 : ¬ O p1
 h2 : ¬ O p2
 n0 : p0 ≠ l
 n1 : p1 ≠ l
 n2 : p2 ≠ l
 n01 : p0 ≠ p1
 n02 : p0 ≠ p2
 n12 : p1 ≠ p2
 ll : l < S.next
 l0 : p0 < S.next
 l1 : p1 < S.next
 l2 : p2 < S.next
 ok : x.ok
 rec_ : S.heap.get l = some (O7_14 0 none (.ptr p0 0) (.ptr p1 0) (.ptr p2 0))
 node : AgAt S p0 24 5 (treeN x)
 out : ∃ t, AgAt S p1 24 5 t
 is : ∃ t, AgAt S p2 4 1 t
structure FindJ (l p0 p1 p2 : Nat) (O : Nat → Prop) (S : St) : Prop where
 on : S.on = false
 rec_ : S.heap.get l = some (O7_14 1 (some .ret) (.ptr p0 0) (.ptr p1 0) (.ptr p2 0))
 ll : l < S.next
 l1 : p1 < S.next
 l2 : p2 < S.next
 out : AgAt S p1 24 5 (treeN zN)
 is : AgAt S p2 4 1 (one (.bool false))
theorem find_ys {K : FuncId → Option KF} (h22 : K 22 = none) (h23 : K 23 = none) (l p0 p1 p2 : Nat) : Ys K 4 (.yield l) stepF (FindI l p0 p1 p2) (FindJ l p0 p1 p2) where
 on := fun h => h.on
 lt := fun h => h.lt _
 keep := fun {O x S S'} h g => by
  have hn := g.next
  have ll := h.ll
  have l0 := h.l0
  have l1 := h.l1
  have l2 := h.l2
  refine ⟨g.on.trans h.on, fun b hb => ?_, fun hb => ?_, fun hb => ?_, fun hb => ?_, fun hb => ?_, h.n0, h.n1, h.n2, h.n01, h.n02, h.n12, by omega, by omega, by omega, by omega, h.ok, by rw [g.keep l h.ll h.hl]; exact h.rec_, h.node.grew h.l0 h.h0 g, ?_, ?_⟩
  · rcases hb with hb | hb
    · have := h.lt b hb; omega
    · exact hb.2
  · rcases hb with hb | hb
    · exact h.hl hb
    · omega
  · rcases hb with hb | hb
    · exact h.h0 hb
    · omega
  · rcases hb with hb | hb
    · exact h.h1 hb
    · omega
  · rcases hb with hb | hb
    · exact h.h2 hb
    · omega
  · obtain ⟨t, ht⟩ := h.out
    exact ⟨t, ht.grew h.l1 h.h1 g⟩
  · obtain ⟨t, ht⟩ := h.is
    exact ⟨t, ht.grew h.l2 h.h2 g⟩
 weak := fun h hw => ⟨h.on, fun b hb => h.lt b (hw b hb), fun hb => h.hl (hw _ hb), fun hb => h.h0 (hw _ hb), fun hb => h.h1 (hw _ hb), fun hb => h.h2 (hw _ hb), h.n0, h.n1, h.n2, h.n01, h.n02, h.n12, h.ll, h.l0, h.l1, h.l2, h.ok, h.rec_, h.node, h.out, h.is⟩
 call := fun {O x S p} h hp n hn => by
  obtain ⟨k, rfl⟩ : ∃ k, n = k + 4 := ⟨n - 4, by omega⟩
  have ho := h.on
  have ll := h.ll
  have l0 := h.l0
  have l1 := h.l1
  have l2 := h.l2
  obtain ⟨S1, a1, a2, a3, a4⟩ := one_new ho 9 (sv []) (sv p) rfl rfl rfl
  have on1 := a3.on.trans ho
  have hrec1 : S1.heap.get l = some (O7_14 0 none (.ptr p0 0) (.ptr p1 0) (.ptr p2 0)) := by rw [a3.keep l ll (fun h => h)]; exact h.rec_
  have hmid : midR l (frR 34 [(2, .ptr p0 0), (4, .ptr p1 0), (5, .ptr p2 0), (6, .ptr S.next 0), (13, sv p)] l) S1 = fun k => k (S1.put l (O7_14 2 none (.ptr p0 0) (.ptr p1 0) (.ptr p2 0))) := funext fun k => midR_of on1 hrec1 rfl
  have g2 : Grew (fun b => b = l) S1 (S1.put l (O7_14 2 none (.ptr p0 0) (.ptr p1 0) (.ptr p2 0))) := grew_put l _
  have hl2 : (S1.put l (O7_14 2 none (.ptr p0 0) (.ptr p1 0) (.ptr p2 0))).heap.get l = some (O7_14 2 none (.ptr p0 0) (.ptr p1 0) (.ptr p2 0)) := by rw [put_get, if_pos rfl]
  have nn2 : (S1.put l (O7_14 2 none (.ptr p0 0) (.ptr p1 0) (.ptr p2 0))).next = S1.next := rfl
  generalize S1.put l (O7_14 2 none (.ptr p0 0) (.ptr p1 0) (.ptr p2 0)) = S2 at g2 hl2 nn2 hmid
  have on2 := g2.on.trans on1
  have hp2 := a2.grew (by omega) (by omega) g2
  have g02 : Grew (fun b => b = l) S S2 := (a3.mono fun _ _ h => h.elim).trans g2
  have c0 := h.node.grew l0 h.n0 g02
  obtain ⟨t1, ht1⟩ := h.out
  have c1 := ht1.grew l1 h.n1 g02
  obtain ⟨t2, ht2⟩ := h.is
  have c2 := ht2.grew l2 h.n2 g02
  have stop : ∀ S3, Grew (fun _ => False) S2 S3 → ∃ S', ((buildV E0 24 []).bind fun t33 => (stP 5 (.ptr p1 0) t33 S3).bind fun p34 => (stP 1 (.ptr p2 0) (.bool false) p34.2).bind fun p35 => endRound l 1 (some .ret) false p35.2) = some (.ret (.bool false), S') ∧ FindJ l p0 p1 p2 O S' ∧ Grew (fun b => ¬ O b) S S' := fun S3 g3 => by
   have on3 := g3.on.trans on2
   have nn3 := g3.next
   obtain ⟨S4, e1, e2, e3, e4⟩ := (c1.grew (by omega) (fun h => h) g3).stA on3 big5 (treeN zN)
   have on4 := e3.on.trans on3
   have c2' := (c2.grew (by omega) (fun h => h) g3).grew (by omega) (fun e => h.n12 e.symm) e3
   obtain ⟨S5, f1, f2, f3, f4⟩ := c2'.st_one on4 (.bool false) rfl rfl rfl
   have on5 := f3.on.trans on4
   have hl5 : S5.heap.get l = some (O7_14 2 none (.ptr p0 0) (.ptr p1 0) (.ptr p2 0)) := by
    rw [f3.keep l (by omega) (fun e => h.n2 e.symm), e3.keep l (by omega) (fun e => h.n1 e.symm), g3.keep l (by omega) (fun h => h)]; exact hl2
   have g6 : Grew (fun b => b = l) S5 (S5.put l (O7_14 1 (some .ret) (.ptr p0 0) (.ptr p1 0) (.ptr p2 0))) := grew_put l _
   have hfin := endRound_of (st' := 1) (pend' := some .ret) (back := false) on5 hl5
   refine ⟨S5.put l (O7_14 1 (some .ret) (.ptr p0 0) (.ptr p1 0) (.ptr p2 0)), ?_, ⟨g6.on.trans on5, by rw [put_get, if_pos rfl], by show l < S5.next; omega, by show p1 < S5.next; omega, by show p2 < S5.next; omega, (e2.grew (by omega) h.n12 f3).grew (by omega) h.n1 g6, f2.grew (by omega) h.n2 g6⟩, ?_⟩
   · rw [build_zN, oB, encN_tree, e1, oB]
     dsimp only
     rw [f1, oB]
     exact hfin
   · refine ((((g02.mono fun b _ hb => ?_).trans (g3.mono fun _ _ hb => hb.elim)).trans (e3.mono fun b _ hb => ?_)).trans (f3.mono fun b _ hb => ?_)).trans (g6.mono fun b _ hb => ?_)
     · rw [hb]; exact h.hl
     · rw [hb]; exact h.h1
     · rw [hb]; exact h.h2
     · rw [hb]; exact h.hl
  have hfk : ∀ (i : Nat) v, (cellsN x)[i]? = some v → ld1 (.ptr p0 i) S2 = some (v, S2) := fun i v hi => by
   have hlt := (List.getElem?_eq_some_iff.1 hi).1
   exact AgAt.ld1 on2 c0 big5 (show i < 5 from hlt) (by unfold treeN; rw [Tr.get_ofList]; exact hi)
  suffices hY : ∃ S', Y7_14 (ev E0 K (k + 3)) rounds l (.ptr p0 0) (.ptr p1 0) (.ptr p2 0) (sv p) S = some (.ret (.bool (stepF x p).isSome), S') ∧ (∀ x', stepF x p = some x' → FindI l p0 p1 p2 O x' S') ∧ (stepF x p = none → FindJ l p0 p1 p2 O S') ∧ Grew (fun b => ¬ O b) S S' by
   obtain ⟨S', y1, y2⟩ := hY
   exact ⟨S', round_run (da := DA7_14) (db := DB7_14) ho h.rec_ (annot_isOf YA7_14 _ (by kernel_rfl)) (annot_isOf YB7_14 _ (by kernel_rfl)) y1, y2⟩
  rw [Y7_14_eq, oB, nwP_fst, a1, oB]
  dsimp only
  rw [hmid]
  dsimp only
  rw [faP_ptr, oB, Nat.zero_add, hfk 1 _ rfl, oB]
  dsimp only
  rw [binV_ii, intsV_eql, oB, guardV_t, oB]
  by_cases hk : x.kind = 2
  · rw [decide_eq_true hk, cond_true, Bx.ld1 on2 hp2 0 (by show 0 < 1; decide) big1, oB, oB, cond_true]
    dsimp only
    rw [show ([sv p] : List V)[0]'(by show 0 < 1; decide) = sv p from rfl, show (sv []) = sv ([] : List UInt8) from rfl, binV_ss, strOp_neq, oB, pickV_bool, cond_true, oB, ifK_bool]
    by_cases hpe : p = []
    · obtain ⟨S', z1, z2, z3⟩ := stop S2 (Grew.refl _ _)
      have hst : stepF x p = none := by unfold stepF; rw [if_neg (fun h => h.2 hpe)]
      refine ⟨S', ?_, fun x' hx => ?_, fun _ => z2, z3⟩
      · rw [beq_iff_eq.2 hpe, Bool.not_true, cond_false, binV_ii, intsV_lss, show decide ((-1 : Int) < 0) = true from rfl, oB, ifK_bool, cond_true, hst]
        exact z1
      · rw [hst] at hx; cases hx
    · rw [beq_false_of_ne hpe, Bool.not_false, cond_true, faP_ptr, oB, Nat.zero_add, hfk 4 _ rfl, oB]
      dsimp only
      obtain ⟨S3, d1, d2⟩ := f22_run h22 h23 (k + 1) x.kids h.ok.at.few p S.next S2 on2 hp2 (by omega)
      have on3 := d2.on.trans on2
      have nn3 := d2.next
      rw [d1, callE_ret, binV_ii, intsV_lss, oB, ifK_bool]
      have hstep : stepF x p = x.kids.find? (fun y => y.name == p) := by unfold stepF; rw [if_pos ⟨hk, hpe⟩]
      rcases find_ix x.kids p with ⟨f1, f2⟩ | ⟨i, hi, f1, f2⟩
      · obtain ⟨S', z1, z2, z3⟩ := stop S3 d2
        have hst := hstep.trans f2
        refine ⟨S', ?_, fun x' hx => ?_, fun _ => z2, z3⟩
        · rw [show ixName x.kids p = -1 by unfold ixName; rw [f1], show decide ((-1 : Int) < 0) = true from rfl, cond_true, hst]
          exact z1
        · rw [hst] at hx; cases hx
      · have hst := hstep.trans f2
        have hix : ixName x.kids p = (i : Int) := by unfold ixName; rw [f1]
        have c0' := c0.grew (by omega) (fun h => h) d2
        have hf4 : ld1 (.ptr p0 4) S3 = some (kidsV (encL x.kids), S3) := AgAt.ld1 on3 c0' big5 (by decide) (by unfold treeN; rw [Tr.get_ofList]; rfl)
        obtain ⟨S4, e1, e2, e3, e4⟩ := c0'.stA on3 big5 (treeN x.kids[i])
        have on4 := e3.on.trans on3
        have hl4 : S4.heap.get l = some (O7_14 2 none (.ptr p0 0) (.ptr p1 0) (.ptr p2 0)) := by
         rw [e3.keep l (by omega) (fun e => h.n0 e.symm), d2.keep l (by omega) (fun h => h)]; exact hl2
        have g6 : Grew (fun b => b = l) S4 (S4.put l (O7_14 0 none (.ptr p0 0) (.ptr p1 0) (.ptr p2 0))) := grew_put l _
        have hfin := endRound_of (st' := 0) (pend' := none) (back := true) on4 hl4
        refine ⟨S4.put l (O7_14 0 none (.ptr p0 0) (.ptr p1 0) (.ptr p2 0)), ?_, fun x' hx => ?_, fun hx => (by rw [hst] at hx; cases hx), ?_⟩
        · rw [hix, show decide ((i : Int) < 0) = false by simp, cond_false, oB, hf4, oB]
          dsimp only
          rw [ixP_kids x.kids i hi, oB, ldA_kid, oB, hst]
          dsimp only
          rw [encN_tree, e1, oB]
          exact hfin
        · rw [hst] at hx
          have hx : x.kids[i] = x' := by simpa using hx
          subst hx
          have c1' := ((c1.grew (by omega) (fun h => h) d2).grew (by omega) (fun e => h.n01 e.symm) e3).grew (by omega) h.n1 g6
          have c2' := ((c2.grew (by omega) (fun h => h) d2).grew (by omega) (fun e => h.n02 e.symm) e3).grew (by omega) h.n2 g6
          exact ⟨g6.on.trans on4, fun b hb => by have := h.lt b hb; show b < S4.next; omega, h.hl, h.h0, h.h1, h.h2, h.n0, h.n1, h.n2, h.n01, h.n02, h.n12, by show l < S4.next; omega, by show p0 < S4.next; omega, by show p1 < S4.next; omega, by show p2 < S4.next; omega, h.ok.at.kids _ (List.getElem_mem hi), by rw [put_get, if_pos rfl], e2.grew (by omega) h.n0 g6, ⟨_, c1'⟩, ⟨_, c2'⟩⟩
        · refine (((g02.mono fun b _ hb => ?_).trans (d2.mono fun _ _ hb => hb.elim)).trans (e3.mono fun b _ hb => ?_)).trans (g6.mono fun b _ hb => ?_)
          · rw [hb]; exact h.hl
          · rw [hb]; exact h.h0
          · rw [hb]; exact h.hl
  · obtain ⟨S', z1, z2, z3⟩ := stop S2 (Grew.refl _ _)
    have hst : stepF x p = none := by unfold stepF; rw [if_neg (fun h => hk h.1)]
    refine ⟨S', ?_, fun x' hx => ?_, fun _ => z2, z3⟩
    · rw [decide_eq_false hk, cond_false, oB, oB, cond_false, oB, pickV_bool, cond_false, oB, ifK_bool, cond_false, binV_ii, intsV_lss, show decide ((-1 : Int) < 0) = true from rfl, oB, ifK_bool, cond_true, hst]
      exact z1
    · rw [hst] at hx; cases hx
end Go.Proofs.YtcbaodegkfokjaaDoor.W
