/-
  WHAT THE FUNCTIONS COME TO: each is read by the evaluator, printed, and told as a function of data, part 9 of 13 (no condition).
-/
import Derived.Test.YthmkdoaaciamlaaW8
namespace Go.Proofs.Ythmkdoaaciamlaa.W
open Go.Proofs.Ythmkdoaaciamlaa.Ev
theorem fz_fail {S : St} {N : Nat} (t : Tr V) : Fz S N (.tuple [.agg 5 t, .bool false]) (outN none) := by
 rw [outN]
 exact .tuple (.cons (.agg (fun _ => .nilptr) (fun i v' h _ => by rw [Tr.get_nil] at h; cases h) fun i v' h _ => by rw [Tr.get_nil] at h; cases h) (.cons (.same (.bool _)) .nil))
theorem fz_if {S : St} {N : Nat} {cs : List V} (hl : cs.length = 5) {y : Nd} (c : Bool) {o : Option Nd} (ho : o = if c = true then some y else none) (h : c = true → Fz S N (vAgg cs) (encN y)) : Fz S N (.tuple [vAgg cs, .bool c]) (outN o) := by
 subst ho
 cases c with
 | true =>
  rw [if_pos rfl, outN]
  exact .tuple (.cons (h rfl) (.cons (.same (.bool _)) .nil))
 | false =>
  rw [if_neg (by simp)]
  unfold vAgg
  rw [hl]
  exact fz_fail _
def subN : Nat → Option (RSt → Option Nd × RSt)
 | 0 => none
 | m + 1 => some (readN m)
theorem readN_eq (d : Nat) (q : RSt) : readN d q = oneN (subN d) q := by cases d <;> rfl
def ReadOk (r : Rs) (S : St) (b : Nat) (p : Option Nd × RSt) : Prop := ∃ v S', r = some (.ret v, S') ∧ RdAt S' b p.2 ∧ Grew (fun x => x = b) S S' ∧ Fz S' S.next v (outN p.1)
section
variable (b : Nat)
theorem tail_file {p : Nat} {z : Tr V} {q : RSt} {cs : List V} {S : St} (hB : RdAt S b q) (hp : AgAt S p 24 5 z) (hl : cs.length = 5) (hbp : b < p) (hb : b < S.next) :
 ∃ (w : St) (l : List LE), stP 5 (.ptr p 0) (vAgg cs) (onS S) = some (.tuple [], w.lg l) ∧ ∀ ls, ldrA 5 (.ptr p 0) (relog S (w.lg []) ls) = some (vAgg cs, relog S (w.lg []) ls) ∧ RdAt (relog S (w.lg []) ls) b q ∧ Grew (fun x => x = p) S (relog S (w.lg []) ls) ∧ (relog S (w.lg []) ls).next = S.next := by
 obtain ⟨w, l, k1, k2, k3, k4⟩ := hp.stAOn hB.on big5 (Tr.ofListFrom .nil cs 0)
 have e : vAgg cs = .agg 5 (Tr.ofListFrom .nil cs 0) := by unfold vAgg; rw [hl]
 refine ⟨w, l, by rw [e]; exact k1, fun ls => ?_⟩
 obtain ⟨r1, r2, r3⟩ := k2.relog hB.on (k3.on.trans hB.on) k4 k3 [] ls
 exact ⟨by rw [e]; exact r1.ldrA (r3.on.trans hB.on) big5, hB.grew hb (by omega) r3, r3, r2⟩
end
theorem failT {p n : Nat} {z : Tr V} {cs : List V} {S : St} (ho : S.on = false) (hp : AgAt S p 24 5 z) (hn : Bx S n 24 cs) (hl : cs.length = 5) :
 ∃ S' t, ((ldA 5 (.ptr n 0) S).bind fun p69 => (stP 5 (.ptr p 0) p69.1 p69.2).bind fun p70 => (ldrA 5 (.ptr p 0) p70.2).bind fun p72 => some (En.ret (.tuple [p72.1, (.bool false)]), p72.2)) = some (.ret (.tuple [.agg 5 t, .bool false]), S') ∧ Grew (fun x => x = p) S S' ∧ S'.next = S.next := by
 obtain ⟨S', t, h1, h2, h3⟩ := R32_9_spec (ev E0 (fun _ => none) 0) 0 (fun _ _ => none) (fun _ _ _ => none) ho hp hn hl
 rw [R32_9_eq] at h1
 exact ⟨S', t, h1, h2, h3⟩
theorem F32_spec (self : EV) (hR : Rdg self) (b : Nat) (q : RSt) (d : Nat) (hd : d ≤ 13) (S : St) (fit : q.left.length < 100000000) (hb : b < S.next) (hB : RdAt S b q)
 (h32 : ∀ m, d = m + 1 → ∀ (q : RSt) S, q.left.length < 100000000 → RdAt S b q → self.f 32 [.ptr b 0, .int .i64 (m : Int)] S = some (.ret (outN (readN m q).1), S.put b (rdO (readN m q).2))) :
 ReadOk (F32 self rounds (.ptr b 0) (.int .i64 (d : Int)) S) S b (readN d q) := by
 obtain ⟨a1, a2, a3⟩ := ag_new hB.on 24 5 (Tr.ofListFrom .nil [(sv []), (.int .i64 0), (.bool false), (sv []), .nilslice] 0)
 have hF := F32_eq self rounds (.ptr b 0) (.int .i64 (d : Int)) S
 rw [oB, nwP_fst] at hF
 generalize hS1 : (nwP 24 5 (Tr.ofListFrom .nil [(sv []), (.int .i64 0), (.bool false), (sv []), .nilslice] 0) S).2 = S1 at a1 a2 a3 hF
 have hB1 := hB.grew hb (fun h => h) a2
 obtain ⟨S2, c1, c2, c3, c4⟩ := hR.num b q S1 fit hB1
 have hp2 := a1.grew (by omega) (by omega) c3
 have fit2 : (rNum q).2.left.length < 100000000 := Nat.lt_of_le_of_lt (rNum_left q) fit
 obtain ⟨S3, d1, d2, d3, d4⟩ := var_new c2.on 24 5 (Tr.ofListFrom .nil [(sv []), (.int .i64 0), (.bool false), (sv []), .nilslice] 0) (c5 [] (((rNum q).1 % 1000 : Nat) : Int) false [] .nilslice) rfl (by decide) big5
 have hB3 := c2.grew (by omega) (fun h => h) d3
 have hp3 := hp2.grew (by omega) (fun h => h) d3
 have g3 : Grew (fun x => x = b ∨ S.next ≤ x) S S3 := ((Grew.of0 a2).trans ((c3.mono fun x _ hx => .inl hx).trans (Grew.of0 d3)))
 have fin : ∀ {S'}, Grew (fun x => x = b ∨ S.next ≤ x) S3 S' → Grew (fun x => x = b) S S' := fun g => (g3.trans g).mono fun x hx h => by rcases h with h | h <;> omega
 have hk1000 := Nat.mod_lt (rNum q).1 (show 0 < 1000 by omega)
 rw [c1, callP_ret, binV_ii, intsV_rem _ _ _ (by decide), oB, Int.tmod_eq_emod_of_nonneg (by omega), show ((rNum q).1 : Int) % 1000 = (((rNum q).1 % 1000 : Nat) : Int) by omega, cvI_int, wrap_i64 (by omega) (by omega), oB] at hF
 dsimp only at hF
 rw [build24, oB, oB, nwP_fst, d1, oB] at hF
 dsimp only at hF
 rw [faP_ptr, oB, Nat.zero_add, Bx.ld1 hB3.on d2 1 (by rw [c5_len]; omega) big5, oB] at hF
 dsimp only at hF
 rw [show (c5 [] (((rNum q).1 % 1000 : Nat) : Int) false [] .nilslice)[1]'(by rw [c5_len]; omega) = .int .i64 (((rNum q).1 % 1000 : Nat) : Int) from rfl, binV_ii, intsV_eql, oB, ifK_bool] at hF
 rw [readN_eq, oneN]
 generalize hkk : (rNum q).1 % 1000 = kk at *
 rw [hF]
 clear hF
 by_cases hk1 : kk = 1
 · subst hk1
   rw [decide_eq_true (show (((1 : Nat) : Int) = 1) from rfl), cond_true, if_pos rfl]
   obtain ⟨S4, e1, e2, e3, e4⟩ := hR.num b (rNum q).2 S3 fit2 hB3
   have hp4 := hp3.grew (by omega) (by omega) e3
   have hn4 := d2.grew (by omega) (by omega) e3
   have fit4 : (rNum (rNum q).2).2.left.length < 100000000 := Nat.lt_of_le_of_lt (rNum_left _) fit2
   have hst := bx_st5 (i := 2) (v := .bool (decide (((rNum (rNum q).2).1 : Int) = 1))) e2.on hn4 rfl (m := c5 [] ((1 : Nat) : Int) (decide (((rNum (rNum q).2).1 : Int) = 1)) [] .nilslice) rfl (by omega) (set5_2 _ _ _ _ _ _) rfl rfl rfl
   have g5 := grew_put (s := S4) S2.next (bxO 24 (c5 [] ((1 : Nat) : Int) (decide (((rNum (rNum q).2).1 : Int) = 1)) [] .nilslice))
   have hn5 := bx_put (s := S4) S2.next 24 (c5 [] ((1 : Nat) : Int) (decide (((rNum (rNum q).2).1 : Int) = 1)) [] .nilslice)
   have n5 : (S4.put S2.next (bxO 24 (c5 [] ((1 : Nat) : Int) (decide (((rNum (rNum q).2).1 : Int) = 1)) [] .nilslice))).next = S4.next := rfl
   generalize S4.put S2.next (bxO 24 (c5 [] ((1 : Nat) : Int) (decide (((rNum (rNum q).2).1 : Int) = 1)) [] .nilslice)) = S5 at hst g5 hn5 n5
   have hB5 := e2.grew (by omega) (by omega) g5
   have hp5 := hp4.grew (by omega) (by omega) g5
   obtain ⟨S6, f1, f2, f3, f4⟩ := hR.text b (rNum (rNum q).2).2 S5 fit4 hB5
   have hp6 := hp5.grew (by omega) (by omega) f3
   have hn6 := hn5.grew (by omega) (by omega) f3
   have hst7 := bx_st5 (i := 3) (v := sv (rText (rNum (rNum q).2).2).1) f2.on hn6 rfl (m := c5 [] ((1 : Nat) : Int) (decide (((rNum (rNum q).2).1 : Int) = 1)) (rText (rNum (rNum q).2).2).1 .nilslice) rfl (by omega) (set5_3 _ _ _ _ _ _) rfl rfl rfl
   have g7 := grew_put (s := S6) S2.next (bxO 24 (c5 [] ((1 : Nat) : Int) (decide (((rNum (rNum q).2).1 : Int) = 1)) (rText (rNum (rNum q).2).2).1 .nilslice))
   have hn7 := bx_put (s := S6) S2.next 24 (c5 [] ((1 : Nat) : Int) (decide (((rNum (rNum q).2).1 : Int) = 1)) (rText (rNum (rNum q).2).2).1 .nilslice)
   have n7 : (S6.put S2.next (bxO 24 (c5 [] ((1 : Nat) : Int) (decide (((rNum (rNum q).2).1 : Int) = 1)) (rText (rNum (rNum q).2).2).1 .nilslice))).next = S6.next := rfl
   generalize S6.put S2.next (bxO 24 (c5 [] ((1 : Nat) : Int) (decide (((rNum (rNum q).2).1 : Int) = 1)) (rText (rNum (rNum q).2).2).1 .nilslice)) = S7 at hst7 g7 hn7 n7
   have hB7 := f2.grew (by omega) (by omega) g7
   have hp7 := hp6.grew (by omega) (by omega) g7
   have g37 : Grew (fun x => x = b ∨ S.next ≤ x) S3 S7 := (e3.mono fun x _ hx => .inl hx).trans ((g5.mono fun x _ hx => .inr (by omega)).trans ((f3.mono fun x _ hx => .inl hx).trans (g7.mono fun x _ hx => .inr (by omega))))
   obtain ⟨w, l, t1, t2⟩ := tail_file b (cs := c5 [] ((1 : Nat) : Int) (decide (((rNum (rNum q).2).1 : Int) = 1)) (rText (rNum (rNum q).2).2).1 .nilslice) hB7 hp7 rfl hb (by omega)
   rw [e1, callP_ret, binV_ii, intsV_eql, oB, faP_ptr, oB, Nat.zero_add, hst, oB]
   dsimp only
   rw [f1, callP_ret, faP_ptr, oB, Nat.zero_add, hst7, oB]
   dsimp only
   rw [Bx.ldAOn (n := 5) hn7 rfl big5, oB]
   dsimp only
   rw [binV_ii, intsV_leq, oB, guardV_t, oB, onS_rd]
   have hfile : ∀ (c : Bool) {S'} , c = (decide (((rNum (rNum q).2).1 : Int) ≤ 1) && !(rText (rNum (rNum q).2).2).2.lost) → Fz S' S.next (.tuple [vAgg (c5 [] ((1 : Nat) : Int) (decide (((rNum (rNum q).2).1 : Int) = 1)) (rText (rNum (rNum q).2).2).1 .nilslice), .bool c]) (outN (fileN (rNum q).2).1) := fun c S' hc => by
    refine fz_if rfl (y := .mk [] 1 (decide ((rNum (rNum q).2).1 = 1)) (rText (rNum (rNum q).2).2).1 []) c ?_ fun _ => ?_
    · subst hc
      unfold fileN
      simp only
      by_cases h1 : (rNum (rNum q).2).1 ≤ 1
      · rw [decide_eq_true (show ((rNum (rNum q).2).1 : Int) ≤ 1 by omega), Bool.true_and]
        cases (rText (rNum (rNum q).2).2).2.lost <;> simp [h1]
      · rw [decide_eq_false (show ¬ ((rNum (rNum q).2).1 : Int) ≤ 1 by omega), Bool.false_and]
        simp [h1]
    · rw [encN_c5, show decide ((rNum (rNum q).2).1 = 1) = decide (((rNum (rNum q).2).1 : Int) = 1) by rw [decide_eq_decide]; omega, ← encN_c5, show (1 : Int) = ((1 : Nat) : Int) from rfl]
      rw [← encN_c5]
      exact .same (under_encN _ _)
   by_cases h1 : ((rNum (rNum q).2).1 : Int) ≤ 1
   · rw [decide_eq_true h1] at hfile ⊢
     rw [cond_true, oB, oB, cond_true, hR.okOn b _ S7 hB7, callD_ret, pickV_bool, cond_true, oB, onS_rd, t1, oB]
     dsimp only
     rw [endP_sel (by rfl), onS_of_lg, onS_lg]
     obtain ⟨u1, u2, u3, u4⟩ := t2 [(rd S7 S2.next 0 5).log, [], [], [], [], (rd S7 b 1 1).log, [], (w.lg l).log, []]
     rw [u1]
     exact ⟨_, _, rfl, u2, fin (g37.trans (u3.mono fun x _ hx => .inr (by omega))), hfile _ (by simp)⟩
   · rw [decide_eq_false h1] at hfile ⊢
     rw [cond_false, oB, oB, cond_false, callD_ret, pickV_bool, cond_false, oB, onS_onS, t1, oB]
     dsimp only
     rw [endP_sel (by rfl), onS_of_lg, onS_lg]
     obtain ⟨u1, u2, u3, u4⟩ := t2 [(rd S7 S2.next 0 5).log, [], [], [], [], (onS S7).log, [], (w.lg l).log, []]
     rw [u1]
     exact ⟨_, _, rfl, u2, fin (g37.trans (u3.mono fun x _ hx => .inr (by omega))), hfile _ (by simp)⟩
 · rw [decide_eq_false (show ¬ ((kk : Int) = 1) by omega), cond_false, if_neg hk1, binV_ii, intsV_eql, oB, ifK_bool]
   by_cases hk3 : kk = 3
   · subst hk3
     rw [decide_eq_true (show (((3 : Nat) : Int) = 3) from rfl), cond_true, if_pos rfl]
     obtain ⟨S6, f1, f2, f3, f4⟩ := hR.text b (rNum q).2 S3 fit2 hB3
     have hp6 := hp3.grew (by omega) (by omega) f3
     have hn6 := d2.grew (by omega) (by omega) f3
     have hst7 := bx_st5 (i := 3) (v := sv (rText (rNum q).2).1) f2.on hn6 rfl (m := c5 [] ((3 : Nat) : Int) false (rText (rNum q).2).1 .nilslice) rfl (by omega) (set5_3 _ _ _ _ _ _) rfl rfl rfl
     have g7 := grew_put (s := S6) S2.next (bxO 24 (c5 [] ((3 : Nat) : Int) false (rText (rNum q).2).1 .nilslice))
     have hn7 := bx_put (s := S6) S2.next 24 (c5 [] ((3 : Nat) : Int) false (rText (rNum q).2).1 .nilslice)
     have n7 : (S6.put S2.next (bxO 24 (c5 [] ((3 : Nat) : Int) false (rText (rNum q).2).1 .nilslice))).next = S6.next := rfl
     generalize S6.put S2.next (bxO 24 (c5 [] ((3 : Nat) : Int) false (rText (rNum q).2).1 .nilslice)) = S7 at hst7 g7 hn7 n7
     have hB7 := f2.grew (by omega) (by omega) g7
     have hp7 := hp6.grew (by omega) (by omega) g7
     have g37 : Grew (fun x => x = b ∨ S.next ≤ x) S3 S7 := (f3.mono fun x _ hx => .inl hx).trans (g7.mono fun x _ hx => .inr (by omega))
     obtain ⟨w, l, t1, t2⟩ := tail_file b (cs := c5 [] ((3 : Nat) : Int) false (rText (rNum q).2).1 .nilslice) hB7 hp7 rfl hb (by omega)
     rw [f1, callP_ret, faP_ptr, oB, Nat.zero_add, hst7, oB]
     dsimp only
     rw [Bx.ldAOn (n := 5) hn7 rfl big5, oB]
     dsimp only
     rw [onS_rd, hR.okOn b _ S7 hB7, callD_ret, onS_rd, t1, oB]
     dsimp only
     rw [endP_sel (by rfl), onS_of_lg, onS_lg]
     obtain ⟨u1, u2, u3, u4⟩ := t2 [(rd S7 S2.next 0 5).log, [], (rd S7 b 1 1).log, (w.lg l).log, []]
     rw [u1]
     refine ⟨_, _, rfl, u2, fin (g37.trans (u3.mono fun x _ hx => .inr (by omega))), fz_if rfl (y := .mk [] 3 false (rText (rNum q).2).1 []) _ ?_ fun _ => ?_⟩
     · unfold linkN
       cases (rText (rNum q).2).2.lost <;> simp
     · rw [show (3 : Int) = ((3 : Nat) : Int) from rfl, ← encN_c5]
       exact .same (under_encN _ _)
   · rw [decide_eq_false (show ¬ ((kk : Int) = 3) by omega), cond_false, if_neg hk3, binV_ii, intsV_eql, oB, ifK_bool]
     by_cases hk2 : kk = 2
     · subst hk2
       rw [decide_eq_true (show (((2 : Nat) : Int) = 2) from rfl), cond_true, if_pos rfl]
       rw [show ((2 : Nat) : Int) = 2 from rfl] at d2
       obtain ⟨S4, e1, e2, e3, e4⟩ := hR.num b (rNum q).2 S3 fit2 hB3
       have hp4 := hp3.grew (by omega) (by omega) e3
       have hn4 := d2.grew (by omega) (by omega) e3
       have fit4 : (rNum (rNum q).2).2.left.length < 100000000 := Nat.lt_of_le_of_lt (rNum_left _) fit2
       have g34 : Grew (fun x => x = b ∨ S.next ≤ x) S3 S4 := e3.mono fun x _ hx => .inl hx
       obtain ⟨Sf, tf, v1, v2, v3⟩ := failT e2.on hp4 hn4 rfl
       have hfail : ∀ {r : Rs}, r = some (.ret (.tuple [.agg 5 tf, .bool false]), Sf) → ReadOk r S b (none, (rNum (rNum q).2).2) := fun hr =>
        ⟨_, Sf, hr, e2.grew (by omega) (by omega) v2, fin (g34.trans (v2.mono fun x _ hx => .inr (by omega))), fz_fail tf⟩
       rw [e1, callP_ret, binV_ii, intsV_eql, oB]
       cases d with
       | zero =>
        rw [show decide (((0 : Nat) : Int) = 0) = true from rfl, guardV_f, Bool.not_true, oB, cond_false, oB, oB, cond_false, oB, pickV_bool, cond_true, oB, guardV_f, Bool.not_true, oB, cond_false, oB, oB, cond_false, callP_ret, oB, cond_false, oB, pickV_bool, cond_true, oB, ifK_bool, cond_true]
        exact hfail v1
       | succ m =>
        rw [decide_eq_false (show ¬ (((m + 1 : Nat) : Int) = 0) by omega), guardV_f, Bool.not_false, oB, cond_true, oB, oB, cond_true, binV_ii, intsV_gtr, oB, pickV_bool, cond_false, oB, guardV_f, oB]
        show ReadOk _ S b (dirN (some (readN m)) (rNum q).2)
        rw [dirN]
        by_cases hbig : 2000 < (rNum (rNum q).2).1
        · rw [decide_eq_true (show (2000 : Int) < ((rNum (rNum q).2).1 : Int) by omega), Bool.not_true, cond_false, oB, oB, cond_false, callP_ret, oB, cond_false, oB, pickV_bool, cond_true, oB, ifK_bool, cond_true, if_pos (.inl hbig)]
          exact hfail v1
        · rw [decide_eq_false (show ¬ (2000 : Int) < ((rNum (rNum q).2).1 : Int) by omega), Bool.not_false, cond_true, oB, oB, cond_true, hR.ok b _ S4 e2, callP_ret, oB, cond_true, unV_not, oB, pickV_bool, cond_false, oB, ifK_bool, Bool.not_not]
          cases hlost : (rNum (rNum q).2).2.lost with
          | true =>
           rw [cond_true, if_pos (.inr rfl)]
           exact hfail v1
          | false =>
           rw [cond_false, if_neg (by simp; omega)]
           have hkid : ∃ o q', kidsN (readN m) (rNum (rNum q).2).1 (rNum (rNum q).2).2 [] = (o, q') := ⟨_, _, rfl⟩
           obtain ⟨o, q', hkid⟩ := hkid
           obtain ⟨w1, w2⟩ := L32_spec self hR rounds (R32_73 self rounds (R32_9 self rounds (finN E0 self Try.f32) noEx) (exB 0 (R32_9 self rounds (finN E0 self Try.f32) noEx) noEx)) (exB 1 (R32_73 self rounds (R32_9 self rounds (finN E0 self Try.f32) noEx) (exB 0 (R32_9 self rounds (finN E0 self Try.f32) noEx) noEx)) (exB 0 (R32_9 self rounds (finN E0 self Try.f32) noEx) noEx)) b S.next S2.next S3.next m (by omega) hb (by omega) (by omega) (h32 m rfl) (rNum (rNum q).2).1 (by omega) (rNum (rNum q).2).1 0 rounds (rNum (rNum q).2).2 [] .nilslice _ S4 (by omega) (by unfold rounds; omega) rfl fit4 e2 hp4 hn4 (.inl ⟨rfl, rfl⟩) (by omega) o q' hkid
           rw [show ((0 : Nat) : Int) = 0 from rfl] at w1 w2
           rw [hkid]
           cases o with
           | none =>
            obtain ⟨S', t, x1, x2, x3⟩ := w1 rfl
            exact ⟨_, S', x1, x2, fin (g34.trans x3), fz_fail t⟩
           | some l =>
            obtain ⟨S', z', v', x1, x2, x3, x4, x5, x6, x7⟩ := w2 l rfl
            have n7 := x7.next
            obtain ⟨S'', y1, y2, y3, y4⟩ := R32_73_spec self hR rounds (R32_9 self rounds (finN E0 self Try.f32) noEx) (exB 0 (R32_9 self rounds (finN E0 self Try.f32) noEx) noEx) x2 x3 x4 rfl hb (by omega)
            refine ⟨_, S'', by rw [x1, exB_same, y1], y2, fin (g34.trans (x7.trans (y3.mono fun x _ hx => .inr (by omega)))), fz_if rfl (y := .mk [] 2 false [] l) _ ?_ fun _ => ?_⟩
            · simp only
              cases q'.lost <;> simp
            · exact fz_node (x5.grew (fun r h1 h2 => by omega) y3) (by omega) [] 2 false []
     · rw [decide_eq_false (show ¬ ((kk : Int) = 2) by omega), cond_false, if_neg hk2]
       obtain ⟨S', t, u1, u2, u3⟩ := R32_9_spec self rounds (finN E0 self Try.f32) noEx hB3.on hp3 d2 rfl
       exact ⟨_, S', u1, hB3.grew (by omega) (by omega) u2, fin (u2.mono fun x _ hx => .inr (by omega)), fz_fail t⟩
end Go.Proofs.Ythmkdoaaciamlaa.W
namespace Go.Proofs.Ythmkdoaaciamlaa.W
open Go.Proofs.Ythmkdoaaciamlaa.Ev
structure RdIn where
 b : Nat
 d : Nat
 q : RSt
 hd : d ≤ 13
 fit : q.left.length < 100000000
noncomputable def encRd (x : RdIn) : List V := [.ptr x.b 0, .int .i64 (x.d : Int)]
noncomputable def preRd (x : RdIn) : List (Nat × O) := [(x.b, rdO x.q)]
noncomputable def postRd (x : RdIn) : List (Nat × O) := [(x.b, rdO (readN x.d x.q).2)]
noncomputable def outRd (x : RdIn) : En := .ret (outN (readN x.d x.q).1)
theorem effU_Rd : EffU encRd preRd := fun x y s h1 h2 h3 => by
 simp only [encRd, List.cons.injEq, V.ptr.injEq, V.int.injEq, true_and, and_true] at h1
 have h2 := h2 (x.b, rdO x.q) (List.mem_singleton.2 rfl)
 have h3 := h3 (y.b, rdO y.q) (List.mem_singleton.2 rfl)
 simp only at h2 h3
 rw [h1.1, h3] at h2
 simp only [oS] at h2
 have hq := rdO_inj h2
 have hd : x.d = y.d := by omega
 have hb := h1.1
 cases x; cases y
 simp only at hb hd hq
 subst hb hd hq
 rfl
noncomputable def kfRead : KF := effKF encRd preRd postRd outRd
theorem kfRead_run {S : St} {b d : Nat} {q : RSt} (hB : RdAt S b q) (hd : d ≤ 13) (fit : q.left.length < 100000000) : kfRead.run [.ptr b 0, .int .i64 (d : Int)] S = some (.ret (outN (readN d q).1), S.put b (rdO (readN d q).2)) :=
 effKF_run (enc := encRd) (pre := preRd) (post := postRd) (out := outRd) effU_Rd hB.on ⟨b, d, q, hd, fit⟩ (fun p hp => by
  rw [preRd, List.mem_singleton] at hp
  subst hp
  exact hB.bx)
theorem kn32 {K : FuncId → Option KF} (hK : KnOk Try.prog E0 K) (h54 : K 54 = some kfNum) (h31 : K 31 = some kfText') (h56 : K 56 = none) : KnWell Try.prog E0 32 kfRead :=
 effKF_rec (fn := Try.f32) (c := C32) (d := B32) (fun x : RdIn => x.d) effU_Rd (fun x N hx p hp => by
  rw [postRd, List.mem_singleton] at hp
  subst hp
  exact ⟨hx (x.b, rdO x.q) (List.mem_singleton.2 rfl), rdO_under N _⟩) (fun x p hp => by
  rw [preRd, List.mem_singleton] at hp
  subst hp
  rfl) E0_ok hK (by kernel_rfl) (by kernel_rfl) (annot_isOf C32 _ (by kernel_rfl)) fun K' hK' x S hself ho hh hl => by
  have hB : RdAt S x.b x.q := ⟨ho, hh (x.b, rdO x.q) (List.mem_singleton.2 rfl)⟩
  obtain ⟨v, S', h1, h2, h3, h4⟩ := F32_spec (ev E0 K' 1) (rdg_known (by rw [hK' 54 (by decide)]; exact h54) (by rw [hK' 31 (by decide)]; exact h31) (by rw [hK' 56 (by decide)]; exact h56) 0) x.b x.q x.d x.hd S x.fit (hl (x.b, rdO x.q) (List.mem_singleton.2 rfl)) hB
   (fun m hm q S fit hB => hself ⟨x.b, m, q, by have := x.hd; omega, fit⟩ S 0 (by show m < x.d; omega) hB.on (fun p hp => by
    rw [preRd, List.mem_singleton] at hp
    subst hp
    exact hB.bx))
  refine ⟨1, .ret v, S', h1, h3.mono fun y _ hy => ⟨_, List.mem_singleton.2 rfl, hy.symm⟩, fun p hp => ?_, h4⟩
  rw [postRd, List.mem_singleton] at hp
  subst hp
  exact h2.bx
theorem rNum_eats {q : RSt} (h : (rNum q).2.lost = false) : q.lost = false ∧ (rNum q).2.left.length + 1 ≤ q.left.length := by
 unfold rNum at h ⊢
 split at h
 · cases h
 · rename_i hn
   rw [if_neg hn]
   split at h
   · rename_i he
     rw [if_pos he]
     refine ⟨h, ?_⟩
     simp only [List.length_drop]
     omega
   · cases h
theorem rText_eats {q : RSt} (h : (rText q).2.lost = false) : (rNum q).2.lost = false ∧ (rText q).2.left.length + (rText q).1.length + 1 ≤ q.left.length := by
 unfold rText at h ⊢
 split at h
 · cases h
 · rename_i hn
   rw [if_neg hn]
   have := rNum_eats h
   refine ⟨h, ?_⟩
   simp only [List.length_drop, List.length_take]
   omega
def Eats (f : RSt → Option Nd × RSt) : Prop := ∀ q y q', f q = (some y, q') → q.left.length ≤ 3000 → q'.lost = false ∧ q.lost = false ∧ cntN y + q'.left.length ≤ q.left.length ∧ y.ok
theorem okL_add {l : List Nd} {y : Nd} (h1 : okL l) (h2 : y.ok) : okL (l ++ [y]) := (okL_iff _).2 fun x hx => by
 rcases List.mem_append.1 hx with h | h
 · exact (okL_iff _).1 h1 x h
 · rw [List.mem_singleton] at h; subst h; exact h2
theorem cntL_add (l : List Nd) (y : Nd) : cntL (l ++ [y]) = cntL l + cntN y := by
 induction l with
 | nil => simp [cntL]
 | cons x l ih => rw [List.cons_append, cntL, cntL, ih]; omega
theorem nameIt_cnt (y : Nd) (nm : List UInt8) : cntN (nameIt y nm) = cntN y := by rw [cntN_eq, cntN_eq]; rfl
theorem nameIt_ok {y : Nd} {nm : List UInt8} (h : y.ok) (hn : nm.length < 9223372036854775808) : (nameIt y nm).ok := by
 have := h.at
 rw [nameIt, Nd.ok]
 exact ⟨hn, this.kind, this.data, this.few, this.cnt, (okL_iff _).2 this.kids⟩
theorem kidsN_eats {f : RSt → Option Nd × RSt} (hf : Eats f) : ∀ (n : Nat) (q : RSt) (acc l : List Nd) (q' : RSt), kidsN f n q acc = (some l, q') → q'.lost = false → q.left.length ≤ 3000 → okL acc → q.lost = false ∧ cntL l + q'.left.length ≤ cntL acc + q.left.length ∧ okL l ∧ l.length = acc.length + n
 | 0, q, acc, l, q', h, hl, h3, hok => by
  rw [kidsN] at h
  simp only [pM, oS] at h
  obtain ⟨rfl, rfl⟩ := h
  exact ⟨hl, Nat.le_refl _, hok, rfl⟩
 | n + 1, q, acc, l, q', h, hl, h3, hok => by
  rw [kidsN] at h
  split at h
  · simp at h
  · rename_i y q2 hy
    have ht := rText_left q
    have hn := rText_len q
    obtain ⟨h1, h2, h4, h5⟩ := hf _ y q2 hy (by omega)
    obtain ⟨h6, h7⟩ := rText_eats h2
    obtain ⟨i1, i2, i3, i4⟩ := kidsN_eats hf n q2 _ l q' h hl (by omega) (okL_add hok (nameIt_ok h5 (by omega)))
    rw [cntL_add, nameIt_cnt] at i2
    exact ⟨(rNum_eats h6).1, by omega, i3, by rw [i4, List.length_append]; simp; omega⟩
theorem oneN_eats {f : Option (RSt → Option Nd × RSt)} (hf : ∀ g, f = some g → Eats g) : Eats (oneN f) := fun q y q' h h3 => by
 have h0 := rNum_left q
 unfold oneN at h
 split at h
 · unfold fileN at h
   simp only [pM] at h
   obtain ⟨ha, rfl⟩ := h
   split at ha
   · rename_i hc
     simp only [oS] at ha
     subst ha
     obtain ⟨h1, h2⟩ := rText_eats hc.2
     obtain ⟨h5, h6⟩ := rNum_eats (rText_eats hc.2).1
     obtain ⟨h7, h8⟩ := rNum_eats h5
     obtain ⟨h9, h10⟩ := rNum_eats h7
     refine ⟨hc.2, h9, by rw [cntN, cntL]; omega, ?_⟩
     rw [Nd.ok]
     exact ⟨by simp, by omega, by omega, by simp, by rw [cntL]; omega, by rw [okL]; trivial⟩
   · cases ha
 · split at h
   · unfold linkN at h
     simp only [pM] at h
     obtain ⟨ha, rfl⟩ := h
     split at ha
     · rename_i hc
       simp only [oS] at ha
       subst ha
       obtain ⟨h1, h2⟩ := rText_eats hc
       obtain ⟨h5, h6⟩ := rNum_eats h1
       obtain ⟨h7, h8⟩ := rNum_eats h5
       refine ⟨hc, h7, by rw [cntN, cntL]; omega, ?_⟩
       rw [Nd.ok]
       exact ⟨by simp, by omega, by omega, by simp, by rw [cntL]; omega, by rw [okL]; trivial⟩
     · cases ha
   · split at h
     · unfold dirN at h
       split at h
       · simp at h
       · rename_i g
         split at h
         · simp at h
         · rename_i hk
           split at h
           · simp at h
           · rename_i l q2 hl
             simp only [pM] at h
             obtain ⟨ha, rfl⟩ := h
             split at ha
             · rename_i hc
               simp only [oS] at ha
               subst ha
               have hm := rNum_left (rNum q).2
               obtain ⟨i1, i2, i3, i4⟩ := kidsN_eats (hf g rfl) _ _ _ l q2 hl hc (by omega) (by rw [okL]; trivial)
               obtain ⟨h5, h6⟩ := rNum_eats i1
               obtain ⟨h7, h8⟩ := rNum_eats h5
               rw [cntL] at i2
               simp only [List.length_nil, Nat.zero_add] at i4
               refine ⟨hc, h7, by rw [cntN]; omega, ?_⟩
               rw [Nd.ok]
               exact ⟨by simp, by omega, by simp, by omega, by omega, i3⟩
             · cases ha
     · simp at h
theorem readN_eats : ∀ d, Eats (readN d)
 | 0 => oneN_eats fun g h => by cases h
 | d + 1 => oneN_eats fun g h => by cases h; exact readN_eats d
end Go.Proofs.Ythmkdoaaciamlaa.W
namespace Go.Proofs.Ythmkdoaaciamlaa.W
open Go.Proofs.Ythmkdoaaciamlaa.Ev
def noN : Nd := .mk [] 0 false [] []
def decR (s : List UInt8) : Nd × Int := match readN 13 (rText ⟨s, false⟩).2 with
 | (none, _) => (noN, 4)
 | (some n, q) => if (rText ⟨s, false⟩).1 = magicN ∧ q.lost = false ∧ q.left = [] ∧ (encodeN n).2 = 0 ∧ (encodeN n).1 = s then (n, 0) else (noN, 4)
structure DecIn where
 s : List UInt8
 fit : s.length ≤ 3001
noncomputable def encDec (x : DecIn) : List V := [sv x.s]
noncomputable def outDec (f : List UInt8 → Nd × Int) (x : DecIn) : En := .ret (.tuple [encN (f x.s).1, .int .i64 (f x.s).2])
noncomputable def kfDec (f : List UInt8 → Nd × Int) : KF := specKF encDec (outDec f)
theorem build62 (s : List UInt8) : buildV E0 62 [(0, sv s)] = some (vAgg [sv s, .bool false]) := by kernel_rfl
theorem vAgg5 (cs : List V) (h : cs.length = 5) : vAgg cs = .agg 5 (Tr.ofListFrom .nil cs 0) := by unfold vAgg; rw [h]
theorem rNum_pred (q : RSt) : (rNum q).2.left.length ≤ q.left.length - 1 := by
 unfold rNum
 split
 · exact Nat.zero_le _
 · split
   · simp only [List.length_drop]; omega
   · exact Nat.zero_le _
theorem rText_pred (q : RSt) : (rText q).2.left.length ≤ q.left.length - 1 := by
 have := rNum_pred q
 unfold rText
 split
 · exact Nat.zero_le _
 · simp only [List.length_drop]; omega
theorem end_run {K : FuncId → Option KF} (h33 : K 33 = none) (n b : Nat) (q : RSt) (S : St) (hB : RdAt S b q) : (ev E0 K (n + 1)).f 33 [.ptr b 0] S = some (.ret (.bool (!q.lost && q.left == [])), S) := by
 refine ev_read (c := C33) (d := B33) (by kernel_rfl) (by kernel_rfl) (annot_isOf C33 _ (by kernel_rfl)) h33 (?_ : F33 (ev E0 K n) rounds (.ptr b 0) S = _)
 rw [F33_eq, show nilCheckV (.ptr b 0) = some (.ptr b 0) from rfl, oB, faP_ptr, oB, Nat.zero_add, hB.ldl, oB]
 dsimp only
 rw [unV_not, oB, guardV_t, oB]
 cases q.lost with
 | true =>
  rw [Bool.not_true, cond_false, oB, oB, cond_false, oB, oB, cond_false, oB, oB, cond_false, oB, oB, cond_false, oB, pickV_bool, cond_false, oB]
  rfl
 | false =>
  rw [Bool.not_false, cond_true, oB, oB, cond_true, show nilCheckV (.ptr b 0) = some (.ptr b 0) from rfl, oB, oB, cond_true, faP_ptr, oB, oB, cond_true, Nat.zero_add, hB.ld0, oB, oB, cond_true]
  dsimp only
  rw [show (sv []) = sv ([] : List UInt8) from rfl, binV_ss, strOp_eql, oB, pickV_bool, cond_true, oB, Bool.true_and]
theorem kn13 {K : FuncId → Option KF} (hK : KnOk Try.prog E0 K) (h31 : K 31 = some kfText') (h32 : K 32 = some kfRead) (h33 : K 33 = none) (h10 : K 10 = some (kfNode gEncode)) : KnWell Try.prog E0 13 (kfDec decR) :=
 specKF_text (fn := Try.f13) (c := C13) (d := B13) E0_ok hK (by kernel_rfl) (by kernel_rfl) (annot_isOf C13 _ (by kernel_rfl)) fun x S ho => by
  obtain ⟨s, fit⟩ := x
  suffices h : ∃ v S', F13 (ev E0 K 1) rounds (sv s) S = some (.ret v, S') ∧ Grew (fun _ => False) S S' ∧ v = .tuple [encN (decR s).1, .int .i64 (decR s).2] by
   obtain ⟨v, S', h1, h2, rfl⟩ := h
   exact ⟨1, _, S', h1, h2, .tuple (.cons (.same (under_encN _ _)) (.cons (.same (.int _ _)) .nil))⟩
  obtain ⟨a1, a2, a3⟩ := ag_new ho 24 5 (Tr.ofListFrom .nil [(sv []), (.int .i64 0), (.bool false), (sv []), .nilslice] 0)
  have hF := F13_eq (ev E0 K 1) rounds (sv s) S
  rw [oB, nwP_fst] at hF
  generalize hS1 : (nwP 24 5 (Tr.ofListFrom .nil [(sv []), (.int .i64 0), (.bool false), (sv []), .nilslice] 0) S).2 = S1 at a1 a2 a3 hF
  have on1 := a2.on.trans ho
  obtain ⟨S2, b1, b2, b3, b4⟩ := box_new on1 62 [sv s, .bool false]
  have hB2 : RdAt S2 S1.next ⟨s, false⟩ := ⟨b3.on.trans on1, b2⟩
  have hp2 := a1.grew (by omega) (fun h => h) b3
  obtain ⟨S3, c1, c2, c3, c4⟩ := kfR_run (o := fun q => sv (rText q).1) (nx := fun q => (rText q).2) hB2 (show s.length < 100000000 by omega)
  have hp3 := hp2.grew (by omega) (by omega) c3
  have hl3 := rText_left ⟨s, false⟩
  simp only at hl3
  have d1 := kfRead_run (d := 13) c2 (by omega) (by omega)
  have hB4 := RdAt.put c2.on S1.next (readN 13 (rText ⟨s, false⟩).2).2
  have g4 := grew_put (s := S3) S1.next (rdO (readN 13 (rText ⟨s, false⟩).2).2)
  have n4 : (S3.put S1.next (rdO (readN 13 (rText ⟨s, false⟩).2).2)).next = S3.next := rfl
  generalize S3.put S1.next (rdO (readN 13 (rText ⟨s, false⟩).2).2) = S4 at d1 hB4 g4 n4
  have hp4 := hp3.grew (by omega) (by omega) g4
  rw [build62, oB, b1, oB] at hF
  dsimp only at hF
  rw [ev_known h31] at hF
  unfold kfText' at hF
  rw [c1, callP_ret, ev_known h32, show (V.int .i64 13) = .int .i64 ((13 : Nat) : Int) from rfl, d1, callP_ret] at hF
  obtain ⟨e1, e2, e3⟩ := ag_new hB4.on 24 5 (Tr.ofListFrom .nil [(sv []), (.int .i64 0), (.bool false), (sv []), .nilslice] 0)
  have g04 : Grew (fun x => S.next ≤ x) S S4 := (Grew.of0 a2).trans ((Grew.of0 b3).trans ((c3.mono fun x _ hx => by omega).trans (g4.mono fun x _ hx => by omega)))
  have fin : ∀ {S'}, Grew (fun x => S.next ≤ x) S4 S' → Grew (fun _ => False) S S' := fun g => (g04.trans g).mono fun x hx h => by omega
  have fail : ∀ {S5 : St}, Grew (fun x => S.next ≤ x) S4 S5 → AgAt S5 S.next 24 5 (Tr.ofListFrom .nil [(sv []), (.int .i64 0), (.bool false), (sv []), .nilslice] 0) → ∃ v S', ((buildV E0 24 []).bind fun t28 => (stP 5 (.ptr S.next 0) t28 S5).bind fun p29 => (ldrA 5 (.ptr S.next 0) p29.2).bind fun p31 => some (En.ret (.tuple [p31.1, (.int .i64 4)]), p31.2)) = some (.ret v, S') ∧ Grew (fun _ => False) S S' ∧ v = .tuple [encN noN, .int .i64 4] := fun {S5} g5 hp5 => by
   have on5 := g5.on.trans hB4.on
   obtain ⟨S6, u1, u2, u3, u4⟩ := hp5.stA on5 big5 (Tr.ofListFrom .nil (c5 [] 0 false [] .nilslice) 0)
   refine ⟨_, S6, ?_, fin (g5.trans (u3.mono fun x _ hx => by omega)), rfl⟩
   rw [build24_nil, oB, vAgg5 _ rfl, u1, oB]
   dsimp only
   rw [u2.ldrA (u3.on.trans on5) big5, oB, ← vAgg5 _ rfl, ← encN_c5]
   rfl
  have heat := readN_eats 13 (rText ⟨s, false⟩).2
  cases hr : readN 13 (rText ⟨s, false⟩).2 with
  | mk o q =>
   have hdec : decR s = match (o, q) with
    | (none, _) => (noN, 4)
    | (some n, q) => if (rText ⟨s, false⟩).1 = magicN ∧ q.lost = false ∧ q.left = [] ∧ (encodeN n).2 = 0 ∧ (encodeN n).1 = s then (n, 0) else (noN, 4) := by
    unfold decR
    rw [hr]
   rw [hr] at hF hB4
   simp only at hB4
   cases o with
   | none =>
    rw [hdec]
    rw [outN, extractV_tuple, extractV_tuple, show ([V.agg 5 .nil, .bool false] : List V)[0]? = some (.agg 5 .nil) from rfl, show ([V.agg 5 .nil, .bool false] : List V)[1]? = some (.bool false) from rfl, oB, oB, oB, nwP_fst] at hF
    obtain ⟨S5, f1, f2, f3, f4⟩ := e1.stA (e2.on.trans hB4.on) big5 .nil
    have g5 : Grew (fun _ => False) S4 S5 := e2.own (Nat.le_refl _) f3
    rw [f1, oB] at hF
    dsimp only at hF
    rw [show (sv [119, 104, 105, 115, 107, 45, 116, 114, 101, 101]) = sv magicN from rfl, binV_ss, strOp_neq, oB, guardV_f, oB] at hF
    have hh : F13 (ev E0 K 1) rounds (sv s) S = ((buildV E0 24 []).bind fun t28 => (stP 5 (.ptr S.next 0) t28 S5).bind fun p29 => (ldrA 5 (.ptr S.next 0) p29.2).bind fun p31 => some (En.ret (.tuple [p31.1, (.int .i64 4)]), p31.2)) := by
     rw [hF]
     cases (rText ⟨s, false⟩).1 == magicN with
     | true =>
      rw [Bool.not_true, Bool.not_false, cond_true, oB, oB, cond_true, unV_not, oB, pickV_bool, cond_false, oB, guardV_f, Bool.not_false, Bool.not_true, oB, cond_false, oB, oB, cond_false, callP_ret, oB, cond_false, oB, pickV_bool, cond_true, oB, ifK_bool, cond_true]
     | false =>
      rw [Bool.not_false, Bool.not_true, cond_false, oB, oB, cond_false, oB, pickV_bool, cond_true, oB, guardV_f, Bool.not_true, oB, cond_false, oB, oB, cond_false, callP_ret, oB, cond_false, oB, pickV_bool, cond_true, oB, ifK_bool, cond_true]
    rw [hh]
    exact fail (Grew.of0 g5) (hp4.grew (by omega) (fun h => h) g5)
   | some n =>
    obtain ⟨_, _, _, nok⟩ := heat n q hr (by have h := rText_pred ⟨s, false⟩; simp only at h; omega)
    rw [outN, extractV_tuple, extractV_tuple, show ([encN n, .bool true] : List V)[0]? = some (encN n) from rfl, show ([encN n, .bool true] : List V)[1]? = some (.bool true) from rfl, oB, oB, oB, nwP_fst] at hF
    obtain ⟨S5, f1, f2, f3, f4⟩ := node_new hB4.on (Tr.ofListFrom .nil [(sv []), (.int .i64 0), (.bool false), (sv []), .nilslice] 0) n
    have hB5 := hB4.grew (by omega) (fun h => h) f3
    have hp5 := hp4.grew (by omega) (fun h => h) f3
    rw [f1, oB] at hF
    dsimp only at hF
    rw [show (sv [119, 104, 105, 115, 107, 45, 116, 114, 101, 101]) = sv magicN from rfl, binV_ss, strOp_neq, oB, guardV_f, oB] at hF
    have hcond : ∀ (c : Bool), c = ((rText ⟨s, false⟩).1 == magicN && (!q.lost && q.left == [])) → F13 (ev E0 K 1) rounds (sv s) S = ifK (.bool (!c)) (((buildV E0 24 []).bind fun t28 => (stP 5 (.ptr S.next 0) t28 S5).bind fun p29 => (ldrA 5 (.ptr S.next 0) p29.2).bind fun p31 => some (En.ret (.tuple [p31.1, (.int .i64 4)]), p31.2))) ((ldA 5 (.ptr S4.next 0) S5).bind fun p32 =>
callP ((ev E0 K 1).f 10 [p32.1] p32.2) fun t33 S33 =>
(extractV t33 0).bind fun t35 =>
(extractV t33 1).bind fun t36 =>
(binV E0 .neq 26 false true t36 (.int .i64 0)).bind fun t40 =>
(guardV false t40).bind fun g42 => (bif g42 then some t35 else some (.tuple [])).bind fun t42 =>
(guardV false t40).bind fun g43 => (bif g43 then some (sv s) else some (.tuple [])).bind fun t43 =>
(guardV false t40).bind fun g44 => (bif g44 then binV E0 .neq 9 false false t42 t43 else some (.tuple [])).bind fun t44 =>
(pickV t40 (some (.bool true)) (some t44)).bind fun t45 =>
ifK t45 (
(buildV E0 24 []).bind fun t46 =>
(stP 5 (.ptr S.next 0) t46 S33).bind fun p47 =>
(ldrA 5 (.ptr S.next 0) p47.2).bind fun p49 =>
some (.ret (.tuple [p49.1, (.int .i64 4)]), p49.2)) (
(ldA 5 (.ptr S4.next 0) S33).bind fun p50 =>
(stP 5 (.ptr S.next 0) p50.1 p50.2).bind fun p51 =>
(ldrA 5 (.ptr S.next 0) p51.2).bind fun p53 =>
some (.ret (.tuple [p53.1, (.int .i64 0)]), p53.2))) := fun c hc => by
     subst hc
     rw [hF]
     cases (rText ⟨s, false⟩).1 == magicN with
     | true =>
      rw [Bool.true_and, Bool.not_true, Bool.not_false, cond_true, oB, oB, cond_true, unV_not, oB, pickV_bool, cond_false, oB, guardV_f, Bool.not_true, Bool.not_false, oB, cond_true, oB, oB, cond_true, end_run h33 0 _ _ _ hB5, callP_ret, oB, cond_true, unV_not, oB, pickV_bool, cond_false, oB]
     | false =>
      rw [Bool.false_and, Bool.not_false, Bool.not_true, cond_false, oB, oB, cond_false, oB, pickV_bool, cond_true, oB, guardV_f, Bool.not_true, oB, cond_false, oB, oB, cond_false, callP_ret, oB, cond_false, oB, pickV_bool, cond_true, oB]
    rw [hcond _ rfl, ifK_bool, hdec]
    cases hc : ((rText ⟨s, false⟩).1 == magicN && (!q.lost && q.left == [])) with
    | false =>
     rw [Bool.not_false, cond_true]
     simp only
     rw [if_neg (fun h => by
      obtain ⟨h1, h2, h3, _⟩ := h
      rw [h1, h2, h3] at hc
      simp at hc)]
     exact fail (Grew.of0 f3) hp5
    | true =>
     simp only [Bool.and_eq_true, beq_iff_eq, Bool.not_eq_true'] at hc
     obtain ⟨h1, h2, h3⟩ := hc
     rw [Bool.not_true, cond_false, f2.fA, oB]
     dsimp only
     rw [ev_known h10, kfNode_run _ n nok, callP_ret, gEncode, extractV_tuple, extractV_tuple, show ([sv (encodeN n).1, .int .i64 (encodeN n).2] : List V)[0]? = some (sv (encodeN n).1) from rfl, show ([sv (encodeN n).1, .int .i64 (encodeN n).2] : List V)[1]? = some (.int .i64 (encodeN n).2) from rfl, oB, oB, binV_ii, intsV_neq, oB, guardV_f, oB, Bool.not_not]
     by_cases he : (encodeN n).2 = 0
     · rw [decide_eq_true he, cond_true, oB, oB, cond_true, oB, oB, cond_true, binV_ss, strOp_neq, oB, pickV_bool, Bool.not_true, cond_false, oB, ifK_bool]
       by_cases hs : (encodeN n).1 = s
       · rw [hs, beq_self_eq_true, Bool.not_true, cond_false, if_pos ⟨h1, h2, h3, he, rfl⟩, f2.fA, oB, encN_tree]
         dsimp only
         obtain ⟨S6, u1, u2, u3, u4⟩ := hp5.stA f2.on big5 (treeN n)
         rw [u1, oB]
         dsimp only
         rw [u2.ldrA (u3.on.trans f2.on) big5, oB]
         exact ⟨_, S6, rfl, fin ((Grew.of0 f3).trans (u3.mono fun x _ hx => by omega)), rfl⟩
       · rw [beq_false_of_ne hs, Bool.not_false, cond_true, if_neg (fun h => hs h.2.2.2.2)]
         exact fail (Grew.of0 f3) hp5
     · rw [decide_eq_false he, cond_false, oB, oB, cond_false, oB, oB, cond_false, oB, pickV_bool, Bool.not_false, cond_true, oB, ifK_bool, cond_true, if_neg (fun h => he h.2.2.2.1)]
       exact fail (Grew.of0 f3) hp5
end Go.Proofs.Ythmkdoaaciamlaa.W
namespace Go.Proofs.Ythmkdoaaciamlaa.W
open Go.Proofs.Ythmkdoaaciamlaa.Ev
inductive Lf where
 | pos (off : Nat)
 | empty
 | nil
def Lf.left (full : List UInt8) : Lf → List UInt8
 | .pos off => full.drop off
 | _ => []
noncomputable def Lf.v (r : Nat) (full : List UInt8) : Lf → V
 | .pos off => .oslice r off (full.length - off) 1
 | .empty => .eslice
 | .nil => .nilslice
def Lf.ok (full : List UInt8) : Lf → Prop
 | .pos off => off ≤ full.length
 | _ => True
structure WSt where
 at_ : Lf
 lost : Bool
noncomputable def wO (r : Nat) (full : List UInt8) (w : WSt) : O := bxO 74 [w.at_.v r full, .bool w.lost]
structure RowFor (s : St) (b r : Nat) (full : List UInt8) : Prop where
 row : RowAt s r 5 1 (full.map byteC)
 ne : r ≠ b
 rlt : r < s.next
def Lf.isPos : Lf → Prop
 | .pos _ => True
 | _ => False
structure WAt (s : St) (b r : Nat) (full : List UInt8) (w : WSt) : Prop where
 on : s.on = false
 bx : Bx s b 74 [w.at_.v r full, .bool w.lost]
 ok : w.at_.ok full
 fit : full.length ≤ 100000
 src : w.at_.isPos → RowFor s b r full
section
variable {s : St} {b r : Nat} {full : List UInt8} {w : WSt}
theorem WAt.ld0 (h : WAt s b r full w) : ld1 (.ptr b 0) s = some (w.at_.v r full, s) := Bx.ld1 h.on h.bx 0 (by show 0 < 2; decide) big2
theorem WAt.ldl (h : WAt s b r full w) : ld1 (.ptr b 1) s = some (.bool w.lost, s) := Bx.ld1 h.on h.bx 1 (by show 1 < 2; decide) big2
theorem WAt.grew {W : Nat → Prop} {u : St} (h : WAt s b r full w) (hb : b < s.next) (hw : ¬ W b) (hr : w.at_.isPos → r < s.next → r ≠ b → ¬ W r) (g : Grew W s u) : WAt u b r full w :=
 ⟨g.on.trans h.on, h.bx.grew hb hw g, h.ok, h.fit, fun hp => ⟨(h.src hp).row.grew (h.src hp).rlt (hr hp (h.src hp).rlt (h.src hp).ne) g, (h.src hp).ne, Nat.lt_of_lt_of_le (h.src hp).rlt g.next⟩⟩
theorem WAt.put (h : WAt s b r full w) (u : WSt) (hu : u.at_.ok full) (hp : u.at_.isPos → w.at_.isPos) : WAt (s.put b (wO r full u)) b r full u :=
 ⟨h.on, bx_put b 74 _, hu, h.fit, fun hu => ⟨(h.src (hp hu)).row.grew (h.src (hp hu)).rlt (h.src (hp hu)).ne (grew_put b _), (h.src (hp hu)).ne, (h.src (hp hu)).rlt⟩⟩
theorem lfv_size (r : Nat) (full : List UInt8) (a : Lf) : (a.v r full).size = 1 ∧ (a.v r full).cells = one (a.v r full) ∧ isTuple (a.v r full) = false := by cases a <;> exact ⟨rfl, rfl, rfl⟩
theorem WAt.st0 (h : WAt s b r full w) (a : Lf) : stP 1 (.ptr b 0) (a.v r full) s = some (.tuple [], s.put b (wO r full ⟨a, w.lost⟩)) := bx_st0 h.on h.bx (lfv_size r full a).1 (lfv_size r full a).2.1 (lfv_size r full a).2.2
theorem WAt.st1 (h : WAt s b r full w) (u : Bool) : stP 1 (.ptr b 1) (.bool u) s = some (.tuple [], s.put b (wO r full ⟨w.at_, u⟩)) := bx_st1 h.on h.bx rfl rfl rfl
theorem lnS_lf (a : Lf) (hok : a.ok full) : lnS (a.v r full) s = some (.int .i64 ((a.left full).length : Int), s) := by
 cases a with
 | pos off => simp only [Lf.v, lnS_oslice, Lf.left, List.length_drop]
 | empty => rfl
 | nil => rfl
theorem row_ld (ho : s.on = false) (h : RowAt s r 5 1 (full.map byteC)) (i : Nat) (hi : i < full.length) : ld1 (.ptr r i) s = some (.int .u8 (full[i].toNat : Int), s) := by
 rw [ld1_ptr]
 exact h.ld1 ho (v := .int .u8 (full[i].toNat : Int)) (by rw [List.getElem?_map, List.getElem?_eq_getElem hi]; rfl)
theorem ixP_os (off len i : Nat) (h : i < len) : ixP 1 (.oslice r off len 1) (.int .i64 (i : Int)) = some (.ptr r (off + i)) := by
 unfold ixP
 rw [natOf_cast, oB]
 unfold elemPtr
 simp only [blt_true.2 h, cond_true, Nat.mul_one]
theorem sizeT5 : Go.Proofs.Ythmkdoaaciamlaa.Ev.sizeT E0 5 = some 1 := by kernel_rfl
theorem os_hi (ho : s.on = false) (h : RowAt s r 5 1 (full.map byteC)) (off len n : Nat) (hn : n ≤ full.length - off) (h0 : 0 < n) : sliceV E0 37 (.oslice r off len 1) none (some (.int .i64 (n : Int))) none s = some (.oslice r off n 1, s) := by
 obtain ⟨c, hc, _⟩ := h.row
 have hf := h.fit
 have hsz : sizeB s r = some (full.length, s) := by
  unfold sizeB
  rw [hc]
  rw [List.length_map, Nat.one_mul] at hf
  simp only [List.length_map, Nat.one_mul, blt_true.2 hf, cond_true, note_off ho]
 unfold sliceV
 rw [und37]
 simp only [oB, sizeT5, Nat.beq_refl, show Nat.blt 0 1 = true from rfl, Bool.and_self, cond_true, hsz, Nat.div_one, bounds_hi .i64 hn, blt_true.2 (show 0 < full.length - off by omega), Nat.zero_mul, Nat.add_zero, Nat.sub_zero]
theorem os_lo (ho : s.on = false) (h : RowAt s r 5 1 (full.map byteC)) (off n : Nat) (hoff : off ≤ full.length) (hn : n ≤ full.length - off) (h0 : 0 < n) : sliceV E0 37 (.oslice r off (full.length - off) 1) (some (.int .i64 (n : Int))) none none s = some ((if off + n < full.length then Lf.pos (off + n) else Lf.empty).v r full, s) := by
 obtain ⟨c, hc, _⟩ := h.row
 have hf := h.fit
 have hsz : sizeB s r = some (full.length, s) := by
  unfold sizeB
  rw [hc]
  rw [List.length_map, Nat.one_mul] at hf
  simp only [List.length_map, Nat.one_mul, blt_true.2 hf, cond_true, note_off ho]
 unfold sliceV
 rw [und37]
 simp only [oB, sizeT5, Nat.beq_refl, show Nat.blt 0 1 = true from rfl, Bool.and_self, cond_true, hsz, Nat.div_one, bounds_lo .i64 hn]
 by_cases hlt : off + n < full.length
 · rw [if_pos hlt, blt_true.2 (show n < full.length - off by omega), cond_true]
   simp only [Lf.v, Nat.mul_one]
   rw [show full.length - off - n = full.length - (off + n) by omega]
 · have hb : Nat.blt n (full.length - off) = false := by
    cases hh : Nat.blt n (full.length - off) with
    | false => rfl
    | true => rw [blt_true] at hh; omega
   rw [if_neg hlt, hb, cond_false, show n = full.length - off by omega, Nat.beq_refl, cond_true]
   rfl
end
def rowGo (b0 : Nat) : List UInt8 → Nat → Nat
 | [], _ => 0
 | c :: l, i => if i = 0 ∧ c.toNat = 128 then 0 else if i = 9 ∧ 129 < b0 then 0 else if i = 10 then 0 else if c.toNat < 128 then i + 1 else rowGo b0 l (i + 1)
def rowK (l : List UInt8) : Nat := rowGo (l.headD 0).toNat l 0
theorem rowGo_le (b0 : Nat) : ∀ (l : List UInt8) (i : Nat), rowGo b0 l i ≤ i + l.length
 | [], i => by rw [rowGo]; omega
 | c :: l, i => by
  rw [rowGo, List.length_cons]
  have := rowGo_le b0 l (i + 1)
  repeat' split
  all_goals omega
theorem rowK_le (l : List UInt8) : rowK l ≤ l.length := by
 have := rowGo_le (l.headD 0).toNat l 0
 rw [Nat.zero_add] at this
 exact this
theorem L69_spec (self : EV) (N : Nat) (nk : Ac → St → Rs) (ek : Nat → Ac → St → Rs) (r off : Nat) (full : List UInt8) (S : St) (ho : S.on = false) (hrow : RowAt S r 5 1 (full.map byteC)) (hfit : full.length ≤ 100000) (hoff : off ≤ full.length)
 (hek : ek 0 (fr 35 []) S = some (.ret (.int .i64 0), S)) :
 ∀ (l : List UInt8) (i n : Nat), (full.drop off).drop i = l → l.length < n →
 L69_6 self N nk ek n (.oslice r off (full.length - off) 1) (.oslice r off (full.length - off) 1) (.int .i64 ((full.length - off : Nat) : Int)) (.int .i64 (i : Int)) S = some (.ret (.int .i64 (rowGo ((full.drop off).headD 0).toNat l i : Int)), S)
 | l, i, 0, _, hn => by omega
 | [], i, n + 1, hi, hn => by
  have := drop_end hi
  rw [List.length_drop] at this
  rw [L69_6_eq, binV_ii, intsV_lss, dec_ge (by omega), oB, ifK_bool, cond_false, hek]
  rfl
 | c :: l, i, n + 1, hi, hn => by
  obtain ⟨hlt, hc, hr, _⟩ := drop_at hi
  rw [List.length_drop] at hlt
  rw [List.getElem_drop] at hc
  have hil : off + i < full.length := by omega
  have ih := L69_spec self N nk ek r off full S ho hrow hfit hoff hek l (i + 1) n hr (by simp at hn; omega)
  have hb0 : (full.drop off).headD 0 = full[off]'(by omega) := by
   rw [List.drop_eq_getElem_cons (by omega)]; rfl
  rw [L69_6_eq, binV_ii, intsV_lss, dec_lt (by omega), oB, ifK_bool, cond_true, ixP_os off _ i (by omega), oB, row_ld ho hrow (off + i) hil, oB]
  dsimp only
  rw [hc, binV_ii, intsV_eql, oB, guardV_t, oB, rowGo]
  have rest : ∀ (S1 : St), S1 = S → ((binV E0 .lss 5 false true (.int .u8 (c.toNat : Int)) (.int .u8 128)).bind fun t52 => ifK t52 ((binV E0 .add 3 false true (.int .i64 (i : Int)) (.int .i64 1)).bind fun t55 => some (.ret t55, S1)) ((binV E0 .add 3 false true (.int .i64 (i : Int)) (.int .i64 1)).bind fun t57 => L69_6 self N nk ek n (.oslice r off (full.length - off) 1) (.oslice r off (full.length - off) 1) (.int .i64 ((full.length - off : Nat) : Int)) t57 S1)) = some (.ret (.int .i64 ((if c.toNat < 128 then i + 1 else rowGo ((full.drop off).headD 0).toNat l (i + 1) : Nat) : Int)), S) := fun S1 hS1 => by
   subst hS1
   rw [binV_ii, intsV_lss, oB, ifK_bool, binV_ii, intsV_add, wrap_succ (by omega), oB, oB]
   by_cases h : c.toNat < 128
   · rw [decide_eq_true (show (c.toNat : Int) < 128 by omega), cond_true, if_pos h]
   · rw [decide_eq_false (show ¬ (c.toNat : Int) < 128 by omega), cond_false, if_neg h, ih]
  by_cases h0 : i = 0
  · subst h0
    rw [decide_eq_true (show ((0 : Nat) : Int) = 0 from rfl), cond_true, oB, oB, cond_true, binV_ii, intsV_eql, oB, pickV_bool, cond_true, oB, ifK_bool]
    by_cases h1 : c.toNat = 128
    · rw [decide_eq_true (show (c.toNat : Int) = 128 by omega), cond_true, ifK_bool, cond_true, if_pos ⟨rfl, h1⟩]
      rfl
    · rw [decide_eq_false (show ¬ (c.toNat : Int) = 128 by omega), cond_false, if_neg (fun h => h1 h.2), if_neg (by omega), if_neg (by omega)]
      rw [show ((0 : Nat) : Int) = 0 from rfl, binV_ii, intsV_eql, show decide ((0 : Int) = 9) = false from rfl, oB, guardV_t, oB, cond_false, oB, oB, cond_false, oB, oB, cond_false, oB, oB, cond_false, oB, pickV_bool, cond_false, oB, ifK_bool, cond_false, binV_ii, intsV_eql, show decide ((0 : Int) = 10) = false from rfl, oB, ifK_bool, cond_false]
      exact rest S rfl
  · rw [decide_eq_false (show ¬ (i : Int) = 0 by omega), cond_false, oB, oB, cond_false, oB, pickV_bool, cond_false, oB, ifK_bool, cond_false, if_neg (fun h => h0 h.1), binV_ii, intsV_eql, oB, guardV_t, oB]
    by_cases h9 : i = 9
    · subst h9
      rw [decide_eq_true (show ((9 : Nat) : Int) = 9 from rfl), cond_true, oB, oB, cond_true, show (V.int .i64 0) = .int .i64 ((0 : Nat) : Int) from rfl, ixP_os off _ 0 (by omega), oB, oB, cond_true, Nat.add_zero, row_ld ho hrow off (by omega), oB, oB, cond_true, binV_ii, intsV_gtr, oB, pickV_bool, cond_true, oB, ifK_bool]
      by_cases h1 : 129 < (full[off]'(by omega)).toNat
      · rw [decide_eq_true (show (129 : Int) < ((full[off]'(by omega)).toNat : Int) by omega), cond_true, ifK_bool, cond_true, if_pos ⟨rfl, by rw [hb0]; exact h1⟩]
      · rw [decide_eq_false (show ¬ (129 : Int) < ((full[off]'(by omega)).toNat : Int) by omega), cond_false, if_neg (fun h => h1 (by rw [← hb0]; exact h.2)), if_neg (by omega)]
        rw [binV_ii, intsV_eql, show decide (((9 : Nat) : Int) = 10) = false from rfl, oB, ifK_bool, cond_false]
        exact rest S rfl
    · rw [decide_eq_false (show ¬ (i : Int) = 9 by omega), cond_false, oB, oB, cond_false, oB, oB, cond_false, oB, oB, cond_false, oB, pickV_bool, cond_false, oB, ifK_bool, cond_false, if_neg (fun h => h9 h.1), binV_ii, intsV_eql, oB, ifK_bool]
      by_cases h10 : i = 10
      · subst h10
        rw [decide_eq_true (show ((10 : Nat) : Int) = 10 from rfl), cond_true, if_pos rfl]
        rfl
      · rw [decide_eq_false (show ¬ (i : Int) = 10 by omega), cond_false, if_neg h10]
        exact rest S rfl
theorem F69_spec (self : EV) (r : Nat) (full : List UInt8) (a : Lf) (hok : a.ok full) (S : St) (ho : S.on = false) (hrow : a.isPos → RowAt S r 5 1 (full.map byteC)) (hfit : full.length ≤ 100000) :
 F69 self rounds (a.v r full) S = some (.ret (.int .i64 (rowK (a.left full) : Int)), S) := by
 have hek : exB 0 (R69_1 self rounds (finN E0 self Try.f69) noEx) noEx 0 (fr 35 []) S = some (.ret (.int .i64 0), S) := by
  rw [exB_same, R69_1_eq]
 rw [F69_eq, lnS_lf a hok, oB]
 dsimp only
 cases a with
 | pos off =>
  have := L69_spec self rounds (R69_1 self rounds (finN E0 self Try.f69) noEx) (exB 0 (R69_1 self rounds (finN E0 self Try.f69) noEx) noEx) r off full S ho (hrow trivial) hfit hok hek (full.drop off) 0 rounds (by rw [List.drop_zero]) (by rw [List.length_drop]; unfold rounds; omega)
  rw [show ((0 : Nat) : Int) = 0 from rfl] at this
  simp only [Lf.v, Lf.left, List.length_drop]
  rw [this]; rfl
 | empty =>
  rw [show rounds = (rounds - 1) + 1 by unfold rounds; omega, L69_6_eq, show Lf.left full .empty = [] from rfl, binV_ii, intsV_lss, show decide ((0 : Int) < (([] : List UInt8).length : Int)) = false from rfl, oB, ifK_bool, cond_false]
  rw [show (rounds - 1) + 1 = rounds by unfold rounds; omega]
  exact hek
 | nil =>
  rw [show rounds = (rounds - 1) + 1 by unfold rounds; omega, L69_6_eq, show Lf.left full .nil = [] from rfl, binV_ii, intsV_lss, show decide ((0 : Int) < (([] : List UInt8).length : Int)) = false from rfl, oB, ifK_bool, cond_false]
  rw [show (rounds - 1) + 1 = rounds by unfold rounds; omega]
  exact hek
end Go.Proofs.Ythmkdoaaciamlaa.W
