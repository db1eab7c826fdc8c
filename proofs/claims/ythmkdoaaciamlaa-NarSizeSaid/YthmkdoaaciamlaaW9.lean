/-
  WHAT THE FUNCTIONS COME TO: each is read by the evaluator, printed, and told as a function of data, part 9 of 9 (no condition).
-/
import Derived.Test.YthmkdoaaciamlaaW8
namespace Go.Proofs.Ythmkdoaaciamlaa.W
open Go.Proofs.Ythmkdoaaciamlaa.Ev Go.RowKit
noncomputable def K33 := knAdd K24 18 kfEach
theorem ok33 : KnOk Try.prog E0 K33 := ok24.add (kn18 ok24 rfl rfl rfl)
theorem F7_spec (r : Rw) (hr : AllOk r) (S : St) (ho : S.on = false) : ∃ S', F7 (ev E0 K33 1) rounds (rwV r) S = some (.ret (.bool true), S') := by
 have ok := short_ok 13 r (by omega) (allOk_deep 13 r hr)
 have hF := F7_eq (ev E0 K33 1) rounds (rwV r) S
 obtain ⟨S1, k1, k2, k3, k4⟩ := box_new ho 24 (cellsR r)
 have on1 := k3.on.trans ho
 obtain ⟨t1, p1, _⟩ := VarAt.agg (Bx.var k2 (by show 0 < 5; decide) big5)
 have p1 : AgAt S1 S.next 24 5 t1 := p1
 have q1 : ldA 5 (.ptr S.next 0) S1 = some (vAgg (cellsR r), S1) := Bx.ldA on1 k2 rfl big5
 obtain ⟨S2, a1, a2, a3, a4⟩ := p1.stA on1 big5 (treeN (shortN 13 r))
 have on2 := a3.on.trans on1
 have l1 : ldA 5 (.ptr S.next 0) S2 = some (encN (shortN 13 r), S2) := by rw [encN_tree]; exact a2.ldA on2 big5
 rw [rwV_cells, k1, oB] at hF
 dsimp only at hF
 rw [q1, oB] at hF
 dsimp only at hF
 rw [← rwV_cells, show (V.int .i64 13) = .int .i64 ((13 : Nat) : Int) from rfl, ev_known (show K33 8 = some kfShort from rfl), kfShort_run 13 r (by omega), callP_ret, encN_tree, a1, oB] at hF
 dsimp only at hF
 generalize shortN 13 r = a at ok l1 a2 hF
 rw [l1, oB] at hF
 dsimp only at hF
 rw [ev_known (show K33 9 = some (kfNode gEncode) from rfl), kfNode_run _ a ok, callP_ret, gEncode, extractV_tuple, extractV_tuple, show ([sv (encodeN a).1, .int .i64 (encodeN a).2] : List V)[0]? = some (sv (encodeN a).1) from rfl, show ([sv (encodeN a).1, .int .i64 (encodeN a).2] : List V)[1]? = some (.int .i64 (encodeN a).2) from rfl, oB, oB, binV_ii, intsV_neq, oB, ifK_bool] at hF
 by_cases he : (encodeN a).2 = 0
 · have z := sized ok he rfl
   have hsz := z.size
   have hlow := z.low
   have hhigh := z.high
   have hlong := z.long
   have hcnt := z.cnt
   have hsum := sum_each z.deep z.may
   have hlen := each_len (x := a)
   have hlg := each_long z.deep z.may
   generalize hs : (encodeN a).1 = s at *
   rw [decide_eq_true he, Bool.not_true, cond_false, l1, oB] at hF
   dsimp only at hF
   rw [ev_known (show K33 17 = some (kfNode gSizeT) from rfl), kfNode_run _ a ok, callP_ret, gSizeT, hsz, extractV_tuple, extractV_tuple, show ([.int .i64 ((cntN a : Int), (dataN a : Int)).1, .int .i64 ((cntN a : Int), (dataN a : Int)).2] : List V)[0]? = some (.int .i64 (cntN a : Int)) from rfl, show ([.int .i64 ((cntN a : Int), (dataN a : Int)).1, .int .i64 ((cntN a : Int), (dataN a : Int)).2] : List V)[1]? = some (.int .i64 (dataN a : Int)) from rfl, oB, oB, l1, oB] at hF
   dsimp only at hF
   rw [ev_known (show K33 18 = some kfEach from rfl), kfEach_run a ok z.may (by omega), callP_ret, gEach] at hF
   have hL := L7_spec (ev E0 K33 1) (R7_31 (ev E0 K33 1) rounds (finN E0 (ev E0 K33 1) Try.f7) noEx) (exB 0 (R7_31 (ev E0 K33 1) rounds (finN E0 (ev E0 K33 1) Try.f7) noEx) noEx) (sv s) (.int .i64 (cntN a : Int)) (.int .i64 (dataN a : Int)) (eachN a) (by omega) hlg S2 (eachN a) 0 rounds 0 rfl (by unfold rounds; omega) (by omega)
   rw [hsum, Nat.zero_add] at hL
   have hL' := hF.trans hL
   rw [exB_same, R7_31_eq, lnStr_sv, oB] at hL'
   dsimp only at hL'
   rw [binV_ii, intsV_add, wrap_i64 (by omega) (by omega), oB, binV_ii, intsV_add, wrap_i64 (by omega) (by omega), oB, binV_ii, intsV_geq, show decide ((dataN a : Int) + (namN a : Int) + (cntN a : Int) ≤ (s.length : Int)) = true by rw [decide_eq_true_iff]; omega, oB, guardV_t, oB, cond_true, oB, oB, cond_true, lnStr_sv, oB, oB, cond_true, oB, oB, cond_true, oB, oB, cond_true, binV_ii, intsV_add, wrap_i64 (by omega) (by omega), oB, oB, cond_true, oB, oB, cond_true, binV_ii, intsV_mul, wrap_i64 (by omega) (by omega), oB, oB, cond_true, binV_ii, intsV_add, wrap_i64 (by omega) (by omega), oB, oB, cond_true, binV_ii, intsV_add, wrap_i64 (by omega) (by omega), oB, oB, cond_true] at hL'
   dsimp only at hL'
   rw [binV_ii, intsV_leq, show decide ((s.length : Int) ≤ (dataN a : Int) + (namN a : Int) + 8 * (cntN a : Int) + 20) = true by rw [decide_eq_true_iff]; omega, oB, pickV_bool, cond_true, oB, guardV_t, oB, cond_true, ev_known (show K33 11 = some kfTrue from rfl), kfTrue_run, callP_ret, pickV_bool, cond_true, oB] at hL'
   exact ⟨_, hL'⟩
 · rw [enc_none he, decide_eq_false he, Bool.not_false, cond_true, binV_ss, strOp_eql, beq_self_eq_true, oB, guardV_t, oB, cond_true, ev_known (show K33 11 = some kfTrue from rfl), kfTrue_run, callP_ret, pickV_bool, cond_true, oB] at hF
   exact ⟨_, hF⟩
theorem size_run (r : Rw) (hr : AllOk r) (S : St) (ho : S.on = false) : ∃ S', (ev E0 K33 2).f 7 [rwV r] S = some (.ret (.bool true), S') := by
 obtain ⟨S', h⟩ := F7_spec r hr S ho
 exact ⟨S', ev_read (c := C7) (d := B7) (by kernel_rfl) (by kernel_rfl) (annot_isOf C7 _ (by kernel_rfl)) (show K33 7 = none from rfl) h⟩
theorem size_calls (W : World) {v : Value} {r : Rw} (hv : VRel (frz W) (rwV r) v) (hr : AllOk r) : Calls Try.prog 7 #[v] W fun e w' => e = .returned (.bool true) ∧ Below W.heap.size W w' := by
 obtain ⟨S', h⟩ := size_run r hr s0 rfl
 refine ((ev_sim E0_ok ok33 2).call (base0 W) _ s0 W 7 [rwV r] #[v] _ S' (relF W) (.cons hv .nil) h).mono fun ce w' hce => ?_
 obtain ⟨ρ', cv, rfl, _, hv, hR⟩ := hce
 cases hv
 exact ⟨rfl, below_of_rel hR⟩
end Go.Proofs.Ythmkdoaaciamlaa.W
