/-
  WHAT THE FUNCTIONS COME TO: each is read by the evaluator, printed, and told as a function of data, part 13 of 13 (no condition).
-/
import Derived.Test.YthmkdoaaciamlaaW12
namespace Go.Proofs.Ythmkdoaaciamlaa.W
open Go.Proofs.Ythmkdoaaciamlaa.Ev Go.RowKit
theorem enc_check (a : Nd) : (encodeN a).2 = checkN a ∨ ((encodeN a).2 = 3 ∧ checkN a = 0) := by
 unfold encodeN
 by_cases h : checkN a = 0
 · rw [if_pos h]
   by_cases hf : (layN (putText [] magicN) a).length ≤ 60000
   · rw [if_pos hf]; exact .inl h.symm
   · rw [if_neg hf]; exact .inr ⟨rfl, h⟩
 · rw [if_neg h]; exact .inl rfl
theorem enc_none {a : Nd} (h : (encodeN a).2 ≠ 0) : (encodeN a).1 = [] := by
 unfold encodeN at h ⊢
 by_cases hc : checkN a = 0
 · rw [if_pos hc] at h ⊢
   by_cases hf : (layN (putText [] magicN) a).length ≤ 60000
   · rw [if_pos hf] at h; exact absurd rfl h
   · rw [if_neg hf]
 · rw [if_neg hc]
theorem back_same {a b : Nd} (oka : a.ok) (okb : b.ok) (ha : (encodeN a).2 = 0) (hb : (encodeN b).2 = 0) : ((encodeN a).1 == (encodeN b).1) = sameN a b := by
 have da := decW_taken oka ha rfl
 have db := decW_taken okb hb rfl
 cases hs : sameN a b with
 | true => rw [same_one hs]; exact beq_self_eq_true _
 | false =>
  refine beq_false_of_ne fun h => ?_
  rw [h, db] at da
  simp only [pM, and_true] at da
  rw [da, same_taken oka ha rfl] at hs
  cases hs
theorem F5_spec (r1 r2 : Rw) (hr1 : AllOk r1) (hr2 : AllOk r2) (S : St) (ho : S.on = false) : ∃ S', F5 (ev E0 K32 1) rounds (rwV r1) (rwV r2) S = some (.ret (.bool true), S') := by
 have oka := short_ok 13 r1 (by omega) (allOk_deep 13 r1 hr1)
 have okb := short_ok 13 r2 (by omega) (allOk_deep 13 r2 hr2)
 have hF := F5_eq (ev E0 K32 1) rounds (rwV r1) (rwV r2) S
 obtain ⟨S1, k1, k2, k3, k4⟩ := box_new ho 24 (cellsR r1)
 have on1 := k3.on.trans ho
 obtain ⟨S2, m1, m2, m3, m4⟩ := box_new on1 24 (cellsR r2)
 have on2 := m3.on.trans on1
 have k2' := Bx.grew k2 (by omega) (fun h => h) m3
 obtain ⟨t1, p1, _⟩ := VarAt.agg (Bx.var k2' (by show 0 < 5; decide) big5)
 have p1 : AgAt S2 S.next 24 5 t1 := p1
 have q1 : ldA 5 (.ptr S.next 0) S2 = some (vAgg (cellsR r1), S2) := Bx.ldA on2 k2' rfl big5
 obtain ⟨S3, a1, a2, a3, a4⟩ := p1.stA on2 big5 (treeN (shortN 13 r1))
 have on3 := a3.on.trans on2
 have m2' := Bx.grew m2 (by omega) (by omega) a3
 obtain ⟨t2, p2, _⟩ := VarAt.agg (Bx.var m2' (by show 0 < 5; decide) big5)
 have p2 : AgAt S3 S1.next 24 5 t2 := p2
 have q2 : ldA 5 (.ptr S1.next 0) S3 = some (vAgg (cellsR r2), S3) := Bx.ldA on3 m2' rfl big5
 obtain ⟨S4, b1, b2, b3, b4⟩ := p2.stA on3 big5 (treeN (shortN 13 r2))
 have on4 := b3.on.trans on3
 have a2' := a2.grew (by omega) (by omega) b3
 have l1 : ldA 5 (.ptr S.next 0) S4 = some (encN (shortN 13 r1), S4) := by rw [encN_tree]; exact a2'.ldA on4 big5
 have l2 : ldA 5 (.ptr S1.next 0) S4 = some (encN (shortN 13 r2), S4) := by rw [encN_tree]; exact b2.ldA on4 big5
 rw [rwV_cells, k1, oB, rwV_cells r2, m1, oB] at hF
 dsimp only at hF
 rw [q1, oB] at hF
 dsimp only at hF
 rw [← rwV_cells, show (V.int .i64 13) = .int .i64 ((13 : Nat) : Int) from rfl, ev_known (show K32 8 = some kfShort from rfl), kfShort_run 13 r1 (by omega), callP_ret, encN_tree, a1, oB] at hF
 dsimp only at hF
 rw [q2, oB] at hF
 dsimp only at hF
 rw [← rwV_cells r2, ev_known (show K32 8 = some kfShort from rfl), kfShort_run 13 r2 (by omega), callP_ret, encN_tree, b1, oB] at hF
 dsimp only at hF
 generalize shortN 13 r1 = a at oka l1 a2' hF
 generalize shortN 13 r2 = b at okb l2 b2 hF
 rw [l1, oB] at hF
 dsimp only at hF
 rw [ev_known (show K32 9 = some (kfNode gEncode) from rfl), kfNode_run _ a oka, callP_ret, gEncode, extractV_tuple, extractV_tuple, show ([sv (encodeN a).1, .int .i64 (encodeN a).2] : List V)[0]? = some (sv (encodeN a).1) from rfl, show ([sv (encodeN a).1, .int .i64 (encodeN a).2] : List V)[1]? = some (.int .i64 (encodeN a).2) from rfl, oB, oB, l2, oB] at hF
 dsimp only at hF
 rw [ev_known (show K32 9 = some (kfNode gEncode) from rfl), kfNode_run _ b okb, callP_ret, gEncode, extractV_tuple, extractV_tuple, show ([sv (encodeN b).1, .int .i64 (encodeN b).2] : List V)[0]? = some (sv (encodeN b).1) from rfl, show ([sv (encodeN b).1, .int .i64 (encodeN b).2] : List V)[1]? = some (.int .i64 (encodeN b).2) from rfl, oB, oB, l1, oB] at hF
 dsimp only at hF
 rw [ev_known (show K32 15 = some (kfNode gCheck) from rfl), kfNode_run _ a oka, callP_ret, gCheck, binV_ii, intsV_neq, oB, guardV_t, oB] at hF
 have key : ∃ S5, F5 (ev E0 K32 1) rounds (rwV r1) (rwV r2) S = some (.ret (.bool true), S5) := by
  rw [hF]
  clear hF
  have rest : ∀ (X : Rs), ((binV E0 .neq 26 false true (.int .i64 (encodeN a).2) (.int .i64 0)).bind fun t39 =>
ifK t39 (
(binV E0 .eql 9 false true (sv (encodeN a).1) (sv [])).bind fun t41 =>
(guardV true t41).bind fun g43 => callP (bif g43 then (ev E0 K32 1).f 11 [] S4 else some (.ret (.tuple []), S4)) fun t43 S43 =>
(pickV t41 (some t43) (some (.bool false))).bind fun t44 =>
some (.ret t44, S43)) (
callP ((ev E0 K32 1).f 12 [sv (encodeN a).1] S4) fun t47 S47 =>
(extractV t47 0).bind fun t49 =>
(extractV t47 1).bind fun t50 =>
(some (nwP 24 5 (Tr.ofListFrom .nil [(sv []), (.int .i64 0), (.bool false), (sv []), .nilslice] 0) S47)).bind fun p51 =>
(stP 5 p51.1 t49 p51.2).bind fun p52 =>
(binV E0 .neq 26 false true t50 (.int .i64 0)).bind fun t55 =>
(guardV false t55).bind fun g57 => (bif g57 then ldA 5 p51.1 p52.2 else some (.tuple [], p52.2)).bind fun p57 =>
(guardV false t55).bind fun g58 => (bif g58 then ldA 5 (.ptr S.next 0) p57.2 else some (.tuple [], p57.2)).bind fun p58 =>
(guardV false t55).bind fun g59 => callP (bif g59 then (ev E0 K32 1).f 16 [p57.1, p58.1] p58.2 else some (.ret (.tuple []), p58.2)) fun t59 S59 =>
(guardV false t55).bind fun g60 => (bif g60 then unV .not t59 else some (.tuple [])).bind fun t60 =>
(pickV t55 (some (.bool true)) (some t60)).bind fun t61 =>
ifK t61 (
some (.ret (.bool false), S59)) (
(binV E0 .neq 26 false true (.int .i64 (encodeN b).2) (.int .i64 0)).bind fun t64 =>
(guardV false t64).bind fun g66 => (bif g66 then some (sv (encodeN a).1) else some (.tuple [])).bind fun t66 =>
(guardV false t64).bind fun g67 => (bif g67 then some (sv (encodeN b).1) else some (.tuple [])).bind fun t67 =>
(guardV false t64).bind fun g68 => (bif g68 then binV E0 .eql 9 false false t66 t67 else some (.tuple [])).bind fun t68 =>
(guardV false t64).bind fun g69 => (bif g69 then ldA 5 (.ptr S.next 0) S59 else some (.tuple [], S59)).bind fun p69 =>
(guardV false t64).bind fun g70 => (bif g70 then ldA 5 (.ptr S1.next 0) p69.2 else some (.tuple [], p69.2)).bind fun p70 =>
(guardV false t64).bind fun g71 => callP (bif g71 then (ev E0 K32 1).f 16 [p69.1, p70.1] p70.2 else some (.ret (.tuple []), p70.2)) fun t71 S71 =>
(guardV false t64).bind fun g72 => (bif g72 then binV E0 .eql 4 false false t68 t71 else some (.tuple [])).bind fun t72 =>
(pickV t64 (some (.bool true)) (some t72)).bind fun t73 =>
(guardV true t73).bind fun g75 => callP (bif g75 then (ev E0 K32 1).f 11 [] S71 else some (.ret (.tuple []), S71)) fun t75 S75 =>
(pickV t73 (some t75) (some (.bool false))).bind fun t76 =>
some (.ret t76, S75)))) = X → ∃ S5, X = some (.ret (.bool true), S5) := fun X hX => by
      rw [← hX]
      clear hX
      by_cases he : (encodeN a).2 = 0
      · have dec := decW_taken oka he rfl
        have fit : DecFit (encodeN a).1 := .inr ⟨a, oka, he, rfl⟩
        have sm := same_taken oka he rfl
        rw [he, binV_ii, intsV_neq, decide_eq_true rfl, Bool.not_true, oB, ifK_bool, cond_false, ev_known (show K32 12 = some kfDecW from rfl), kfDecW_run _ fit, dec, callP_ret, extractV_tuple, extractV_tuple, show ([encN a, .int .i64 0] : List V)[0]? = some (encN a) from rfl, show ([encN a, .int .i64 0] : List V)[1]? = some (.int .i64 0) from rfl, oB, oB, oB, nwP_fst]
        obtain ⟨S5, u1, u2, u3, u4⟩ := node_new on4 (Tr.ofListFrom .nil [(sv []), (.int .i64 0), (.bool false), (sv []), .nilslice] 0) a
        have l1' : ldA 5 (.ptr S.next 0) S5 = some (encN a, S5) := by rw [encN_tree]; exact (a2'.grew (by omega) (fun h => h) u3).ldA (u3.on.trans on4) big5
        have l2' : ldA 5 (.ptr S1.next 0) S5 = some (encN b, S5) := by rw [encN_tree]; exact (b2.grew (by omega) (fun h => h) u3).ldA (u3.on.trans on4) big5
        rw [u1, oB]
        dsimp only
        rw [binV_ii, intsV_neq, decide_eq_true rfl, Bool.not_true, oB, guardV_f, Bool.not_false, oB, cond_true, u2.fA, oB, oB, cond_true]
        dsimp only
        rw [l1', oB, oB, cond_true]
        dsimp only
        rw [ev_known (show K32 16 = some kfSame from rfl), kfSame_run _ _ oka oka, sm, callP_ret, oB, cond_true, unV_not, oB, pickV_bool, cond_false, oB, Bool.not_true, ifK_bool, cond_false, binV_ii, intsV_neq, oB, guardV_f, oB, Bool.not_not]
        by_cases hb : (encodeN b).2 = 0
        · rw [hb, decide_eq_true rfl, cond_true, oB, oB, cond_true, oB, oB, cond_true, binV_ss, strOp_eql, oB, oB, cond_true, l1', oB, oB, cond_true]
          dsimp only
          rw [l2', oB, oB, cond_true]
          dsimp only
          rw [ev_known (show K32 16 = some kfSame from rfl), kfSame_run _ _ oka okb, callP_ret, oB, cond_true, back_same oka okb he hb, eqv_bool, beq_self_eq_true, oB, Bool.not_true, pickV_bool, cond_false, oB, guardV_t, oB, cond_true, ev_known (show K32 11 = some kfTrue from rfl), kfTrue_run, callP_ret, pickV_bool, cond_true, oB]
          exact ⟨S5, rfl⟩
        · rw [decide_eq_false hb, cond_false, oB, oB, cond_false, oB, oB, cond_false, oB, oB, cond_false, oB, oB, cond_false, oB, oB, cond_false, callP_ret, oB, cond_false, oB, Bool.not_false, show pickV (.bool true) (some (.bool true)) (some (.tuple [])) = some (.bool true) from rfl, oB, guardV_t, oB, cond_true, ev_known (show K32 11 = some kfTrue from rfl), kfTrue_run, callP_ret, pickV_bool, cond_true, oB]
          exact ⟨S5, rfl⟩
      · rw [enc_none he, binV_ii, intsV_neq, decide_eq_false he, Bool.not_false, oB, ifK_bool, cond_true, binV_ss, strOp_eql, beq_self_eq_true, oB, guardV_t, oB, cond_true, ev_known (show K32 11 = some kfTrue from rfl), kfTrue_run, callP_ret, pickV_bool, cond_true, oB]
        exact ⟨S4, rfl⟩
  rcases enc_check a with h | ⟨h, hc⟩
  · rw [h, decide_eq_true rfl, Bool.not_true, cond_false, oB, oB, cond_false, oB, oB, cond_false, oB, guardV_no, oB, cond_false, oB, oB, cond_false, callP_ret, oB, cond_false, oB, oB, cond_false, oB, oB, cond_false, oB, pickV_bool, cond_false, oB, ifK_bool, cond_false, ← h]
    exact rest _ rfl
  · rw [h, hc, show decide ((3 : Int) = 0) = false from rfl, Bool.not_false, cond_true, oB, oB, cond_true, binV_ii, intsV_eql, decide_eq_true rfl, oB, oB, cond_true, oB, guardV_t, oB, cond_true, l1, oB, oB, cond_true]
    dsimp only
    rw [ev_known (show K32 15 = some (kfNode gCheck) from rfl), kfNode_run _ a oka, callP_ret, gCheck, oB, cond_true, hc, binV_ii, intsV_eql, decide_eq_true rfl, oB, oB, cond_true, pickV_bool, cond_true, oB, oB, cond_true, unV_not, oB, pickV_bool, cond_true, oB, Bool.not_true, ifK_bool, cond_false, ← h]
    exact rest _ rfl
 exact key
end Go.Proofs.Ythmkdoaaciamlaa.W
