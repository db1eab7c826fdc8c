/-
  WHAT THE FUNCTIONS COME TO: each is read by the evaluator, printed, and told as a function of data, part 13 of 13 (no condition).
-/
import Derived.Test.YthmkdoaaciamlaaW12
namespace Go.Proofs.Ythmkdoaaciamlaa.W
open Go.Proofs.Ythmkdoaaciamlaa.Ev Go.RowKit
theorem two0 (a b : V) : ([a, b] : List V)[0]? = some a := rfl
theorem two1 (a b : V) : ([a, b] : List V)[1]? = some b := rfl
theorem guard_ff : guardV false (.bool false) = some true := rfl
theorem guard_tt : guardV true (.bool true) = some true := rfl
theorem F6_spec (s : List UInt8) (at_ : Nat) (hat : at_ < 65536) (b : UInt8) (S : St) (ho : S.on = false) : ∃ S', F6 (ev E0 K32 1) rounds (sv s) (.int .u16 (at_ : Int)) (.int .u8 (b.toNat : Int)) S = some (.ret (.bool true), S') := by
 have hfit : (s.take 3000).length ≤ 3000 := by rw [List.length_take]; omega
 have hok := dec_ok (s.take 3000) (by omega)
 have hF := F6_eq (ev E0 K32 1) rounds (sv s) (.int .u16 (at_ : Int)) (.int .u8 (b.toNat : Int)) S
 rw [lnStr_sv, oB, foldK_min, show min (s.length : Int) 3000 = ((min s.length 3000 : Nat) : Int) by omega, oB] at hF
 dsimp only at hF
 rw [cut_sv, oB] at hF
 dsimp only at hF
 generalize s.take 3000 = t at hF hfit hok
 have run12 : ∀ (u : List UInt8) (S : St), u.length ≤ 3001 → (ev E0 K32 1).f 12 [sv u] S = some (.ret (.tuple [encN (decW u).1, .int .i64 (decW u).2]), S) := fun u S hu => by
  rw [ev_known (show K32 12 = some kfDecW from rfl), kfDecW_run u (.inl hu)]
 have run11 : ∀ S, (ev E0 K32 1).f 11 [] S = some (.ret (.bool true), S) := fun S => by
  rw [ev_known (show K32 11 = some kfTrue from rfl), kfTrue_run]
 rw [run12 t S (by omega), callP_ret, extractV_tuple, extractV_tuple, two0, two1, oB, oB, oB, nwP_fst] at hF
 obtain ⟨S1, a1, a2, a3, a4⟩ := node_new ho (Tr.ofListFrom .nil [(sv []), (.int .i64 0), (.bool false), (sv []), .nilslice] 0) (decW t).1
 rw [a1, oB] at hF
 dsimp only at hF
 rw [binV_ii, intsV_neq, oB, ifK_bool] at hF
 rcases decW_cases t (by omega) with hd | ⟨n, hd, ok, h0, h1⟩
 · rw [hd] at hF a2
   rw [show decide (((noN, (4 : Int)) : Nd × Int).2 = 0) = false from rfl, Bool.not_false, cond_true, binV_ii, intsV_eql, show decide (((noN, (4 : Int)) : Nd × Int).2 = 4) = true from rfl, oB, guard_tt, oB, cond_true, faP_ptr, oB, oB, cond_true, Nat.zero_add, a2.f1, oB, oB, cond_true, binV_ii, intsV_eql, show decide (Nd.kind ((noN, (4 : Int)) : Nd × Int).1 = 0) = true from rfl, oB, pickV_bool, cond_true, oB, guard_tt, oB, cond_true, run11, callP_ret, pickV_bool, cond_true, oB] at hF
   exact ⟨S1, hF⟩
 · have hne := enc_some ok h0 h1
   have hlen : 0 < t.length := List.length_pos_iff.2 hne
   have hc := enc_check n
   have hck : checkN n = 0 := by
    rcases hc with h | ⟨h, _⟩
    · rw [← h]; exact h0
    · omega
   have hk : at_ % t.length < t.length := Nat.mod_lt _ hlen
   have less := one_less ok h0 h1 (by omega) hk
   have more := one_more ok h0 h1 b hfit
   have hd1 : (decW t).1 = n := by rw [hd]
   have hd2 : (decW t).2 = 0 := by rw [hd]
   rw [hd1] at a2
   rw [hd2] at hF
   rw [decide_eq_true rfl, Bool.not_true, cond_false, show (sv []) = sv ([] : List UInt8) from rfl, binV_ss, strOp_eql, oB, ifK_bool, beq_false_of_ne hne, cond_false, a2.fA, oB] at hF
   dsimp only at hF
   rw [ev_known (show K32 9 = some (kfNode gEncode) from rfl), kfNode_run _ n ok, callP_ret, gEncode, extractV_tuple, extractV_tuple, two0, two1, oB, oB, cvI_int, oB] at hF
   dsimp only at hF
   have mod1 : intsV .rem .i64 (at_ : Int) .i64 (t.length : Int) = some (.int .i64 ((at_ % t.length : Nat) : Int)) := by
    rw [intsV_rem _ _ _ (by omega), Int.tmod_eq_emod_of_nonneg (by omega)]
    rfl
   rw [wrap_i64 (by omega) (by omega), lnStr_sv, oB] at hF
   dsimp only at hF
   rw [binV_ii, mod1, oB, hi_sv t _ (by omega), oB] at hF
   dsimp only at hF
   rw [run12 _ _ (by rw [List.length_take]; omega), less, callP_ret, extractV_tuple, extractV_tuple, two0, two1, oB, oB, oB, nwP_fst] at hF
   obtain ⟨S2, b1, b2, b3, b4⟩ := node_new a2.on (Tr.ofListFrom .nil [(sv []), (.int .i64 0), (.bool false), (sv []), .nilslice] 0) noN
   have a2 := a2.grew (by omega) (fun h => h) b3
   rw [b1, oB] at hF
   dsimp only at hF
   obtain ⟨S3, c1, c2, c3, c4⟩ := bsP_byte b2.on 5 b
   have a2 := a2.grew (by omega) (fun h => h) c3
   rw [c1, oB] at hF
   dsimp only at hF
   rw [convert_row a2.on und37 und5 und9 c2 (by simp), oB] at hF
   dsimp only at hF
   rw [show (([b] : List UInt8).drop 0).take 1 = [b] from rfl, binV_ss, strOp_add _ _ (by rw [List.length_singleton]; omega), oB, run12 _ _ (by rw [List.length_append, List.length_singleton]; omega), more, callP_ret, extractV_tuple, extractV_tuple, two0, two1, oB, oB, oB, nwP_fst] at hF
   obtain ⟨S4, d1, d2, d3, d4⟩ := node_new a2.on (Tr.ofListFrom .nil [(sv []), (.int .i64 0), (.bool false), (sv []), .nilslice] 0) noN
   have a2 := a2.grew (by omega) (fun h => h) d3
   rw [d1, oB] at hF
   dsimp only at hF
   rw [h0, h1, binV_ii, intsV_neq, decide_eq_true rfl, Bool.not_true, oB, guard_ff, oB, cond_true, oB, oB, cond_true, oB, oB, cond_true, binV_ss, strOp_neq, beq_self_eq_true, Bool.not_true, oB, pickV_bool, cond_false, oB, guard_ff, oB, cond_true, a2.fA, oB, oB, cond_true] at hF
   dsimp only at hF
   rw [ev_known (show K32 15 = some (kfNode gCheck) from rfl), kfNode_run _ n ok, callP_ret, gCheck, hck, oB, cond_true, binV_ii, intsV_neq, decide_eq_true rfl, Bool.not_true, oB, pickV_bool, cond_false, oB, guard_ff, oB, cond_true, oB, oB, cond_true, binV_ii, intsV_neq, decide_eq_true rfl, Bool.not_true, oB, pickV_bool, cond_false, oB, guard_ff, oB, cond_true, oB, oB, cond_true, binV_ii, intsV_neq, decide_eq_true rfl, Bool.not_true, oB, pickV_bool, cond_false, oB, ifK_bool, cond_false] at hF
   have hrow := rowAt_newCells a2.on (e := 5) (z := 1) (l := t.map byteC) (by omega) (by rw [List.length_map]; unfold big; omega)
   have g5 : Grew (fun _ => False) S4 (newCells S4 5 1 (t.map byteC)) := grew_nw a2.on _ _
   have n5 : (newCells S4 5 1 (t.map byteC)).next = S4.next + 1 := rfl
   have hconv := conv_bytes (S := S4) t
   generalize newCells S4 5 1 (t.map byteC) = S5 at hrow g5 n5 hconv
   have a2 := a2.grew (by omega) (fun h => h) g5
   rw [hconv, oB] at hF
   dsimp only at hF
   rw [cvI_int, oB] at hF
   dsimp only at hF
   rw [wrap_i64 (by omega) (by omega), lnStr_sv, oB] at hF
   dsimp only at hF
   have ixk : ixP 1 (.oslice S4.next 0 t.length 1) (.int .i64 ((at_ % t.length : Nat) : Int)) = some (.ptr S4.next (at_ % t.length)) := by
    rw [ixP_os 0 t.length _ hk, Nat.zero_add]
   rw [binV_ii, mod1, oB, ixk, oB, row_ld a2.on hrow _ hk, oB] at hF
   dsimp only at hF
   rw [binV_ii] at hF
   rw [show intsV .or .u8 (b.toNat : Int) .u8 1 = some (.int .u8 ((b ||| 1).toNat : Int)) from or8 b 1, oB, binV_ii, xor8, oB, oB] at hF
   obtain ⟨S6, e1, e2, e3, e4⟩ := row_set a2.on hrow hk (t[at_ % t.length] ^^^ (b ||| 1))
   have a2 := a2.grew (by omega) (by omega) e3
   rw [e1, oB] at hF
   dsimp only at hF
   rw [show (V.oslice S4.next 0 t.length 1) = .oslice S4.next 0 (t.set (at_ % t.length) (t[at_ % t.length] ^^^ (b ||| 1))).length 1 by rw [List.length_set], conv_os a2.on e2 0 _ (by omega), List.drop_zero, List.take_length, oB] at hF
   dsimp only at hF
   have oth := one_other ok h0 h1 hfit hk (t[at_ % t.length] ^^^ (b ||| 1)) (xor_ne _ _)
   have hlen2 : (t.set (at_ % t.length) (t[at_ % t.length] ^^^ (b ||| 1))).length ≤ 3001 := by rw [List.length_set]; omega
   have okm := dec_ok _ hlen2
   generalize t.set (at_ % t.length) (t[at_ % t.length] ^^^ (b ||| 1)) = o at hF oth hlen2 okm
   rw [run12 o _ hlen2, callP_ret, extractV_tuple, extractV_tuple, two0, two1, oB, oB, oB, nwP_fst] at hF
   obtain ⟨S7, f1, f2, f3, f4⟩ := node_new a2.on (Tr.ofListFrom .nil [(sv []), (.int .i64 0), (.bool false), (sv []), .nilslice] 0) (decW o).1
   have a2 := a2.grew (by omega) (fun h => h) f3
   rw [f1, oB] at hF
   dsimp only at hF
   rw [binV_ii, intsV_neq, oB, guardV_f, oB, Bool.not_not] at hF
   by_cases hz : (decW o).2 = 0
   · rw [decide_eq_true hz, cond_true, a2.fA, oB, oB, cond_true] at hF
     dsimp only at hF
     rw [f2.fA, oB, oB, cond_true] at hF
     dsimp only at hF
     rw [ev_known (show K32 16 = some kfSame from rfl), kfSame_run _ _ ok okm, oth hz, callP_ret, oB, cond_true, unV_not, oB, Bool.not_true, Bool.not_false, pickV_bool, cond_false, oB, guard_tt, oB, cond_true, run11, callP_ret, pickV_bool, cond_true, oB] at hF
     exact ⟨S7, hF⟩
   · rw [decide_eq_false hz, cond_false, oB, oB, cond_false, oB, oB, cond_false, callP_ret, oB, cond_false, oB, Bool.not_false, pickV_bool, cond_true, oB, guard_tt, oB, cond_true, run11, callP_ret, pickV_bool, cond_true, oB] at hF
     exact ⟨S7, hF⟩
theorem one_run (s : List UInt8) (at_ : Nat) (hat : at_ < 65536) (b : UInt8) (S : St) (ho : S.on = false) : ∃ S', (ev E0 K32 2).f 6 [sv s, .int .u16 (at_ : Int), .int .u8 (b.toNat : Int)] S = some (.ret (.bool true), S') := by
 obtain ⟨S', h⟩ := F6_spec s at_ hat b S ho
 exact ⟨S', ev_read (c := C6) (d := B6) (by kernel_rfl) (by kernel_rfl) (annot_isOf C6 _ (by kernel_rfl)) (show K32 6 = none from rfl) h⟩
theorem one_calls (W : World) (s : ByteArray) (at_ : Nat) (hat : at_ < 65536) (b : UInt8) : Calls Try.prog 6 #[.string s, .int .u16 (at_ : Int), .int .u8 (b.toNat : Int)] W fun e w' => e = .returned (.bool true) ∧ Below W.heap.size W w' := by
 obtain ⟨S', h⟩ := one_run s.data.toList at_ hat b s0 rfl
 refine ((ev_sim E0_ok ok32 2).call (base0 W) _ s0 W 6 [sv s.data.toList, .int .u16 (at_ : Int), .int .u8 (b.toNat : Int)] #[.string s, .int .u16 (at_ : Int), .int .u8 (b.toNat : Int)] _ S' (relF W) (.cons (.str s) (.cons (.int _ _) (.cons (.int _ _) .nil))) h).mono fun ce w' hce => ?_
 obtain ⟨ρ', cv, rfl, _, hv, hR⟩ := hce
 cases hv
 exact ⟨rfl, below_of_rel hR⟩
end Go.Proofs.Ythmkdoaaciamlaa.W
