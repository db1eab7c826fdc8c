/-
  WHAT THE FUNCTIONS COME TO: each is read by the evaluator, printed, and told as a function of data, part 11 of 13 (no condition).
-/
import Derived.Test.YthmkdoaaciamlaaW10
namespace Go.Proofs.Ythmkdoaaciamlaa.W
open Go.Proofs.Ythmkdoaaciamlaa.Ev
def subW (full : List UInt8) : Nat → Option (WSt → Wn)
 | 0 => none
 | m + 1 => some (readW full m)
theorem readW_eq (full : List UInt8) (d : Nat) (hd : d ≤ 13) (w : WSt) : readW full d w = oneW (subW full d) full (13 - d) w := by cases d <;> rfl
theorem F52_spec (self : EV) (hW : Wdg self) (c b r n N0 d : Nat) (hd : d ≤ 13) (full : List UInt8) (w : WSt) (S : St) (hf : Frame S c b n) (h : WAt S b r full w) (hc : CAt S c b (13 - d)) (hn : Bx S n 24 (c5 [] 2 false [] .nilslice)) (nN : n < N0) (hN : N0 ≤ S.next) (hrn : w.at_.isPos → r < n)
 (h29 : ∀ m, d = m + 1 → NodeCall self c b r m full) :
 GOk (F52 self rounds (.ptr c 0) (.ptr n 0) S) S c b r n N0 full (dirW (subW full d) full (13 - d) w) := by
 obtain ⟨cb, bn, cn, nS⟩ := hf
 obtain ⟨S1, a1, a2, a3, a4⟩ := hW.num b r full w S h
 have hc1 : CAt S1 c b (13 - d) := hc.grew (by omega) (by omega) a3
 have hn1 := hn.grew (by omega) (by omega) a3
 have hF := F52_eq self rounds (.ptr c 0) (.ptr n 0) S
 rw [show nilCheckV (.ptr c 0) = some (.ptr c 0) from rfl, oB, faP_ptr, oB, Nat.zero_add, hc.ld0 h.on, oB] at hF
 dsimp only at hF
 rw [a1, callP_ret, binV_ii, intsV_leq, oB, guardV_t, oB] at hF
 have fail : F52 self rounds (.ptr c 0) (.ptr n 0) S = some (.pan wrongV, S1) → GOk (F52 self rounds (.ptr c 0) (.ptr n 0) S) S c b r n N0 full (none, 13 - d, (wNum full w).2) := fun hr =>
  ⟨fun _ => ⟨S1, hr, a2, hc1, a3.mono fun x _ hx => .inl hx⟩, fun y hy => (by cases hy)⟩
 by_cases hbig : 2000 < (wNum full w).1
 · rw [decide_eq_false (show ¬ ((wNum full w).1 : Int) ≤ 2000 by omega), cond_false, oB, oB, cond_false, oB, oB, cond_false, oB, oB, cond_false, oB, oB, cond_false, oB, pickV_bool, cond_false, oB, hW.must, if_neg (by simp), callP_pan] at hF
   have : dirW (subW full d) full (13 - d) w = (none, 13 - d, (wNum full w).2) := by
    cases d with
    | zero => rfl
    | succ m => rw [subW, dirW, if_pos hbig]
   rw [this]
   exact fail hF
 · rw [decide_eq_true (show ((wNum full w).1 : Int) ≤ 2000 by omega), cond_true, oB, oB, cond_true, show nilCheckV (.ptr c 0) = some (.ptr c 0) from rfl, oB, oB, cond_true, faP_ptr, oB, oB, cond_true, Nat.zero_add, CAt.ldd (dp := 13 - d) a2.on hc1, oB, oB, cond_true] at hF
   dsimp only at hF
   rw [binV_ii, intsV_leq, oB, pickV_bool, cond_true, oB, hW.must] at hF
   cases d with
   | zero =>
    rw [show decide (((13 - 0 : Nat) : Int) ≤ 12) = false from rfl, if_neg (by simp), callP_pan] at hF
    exact fail hF
   | succ m =>
    rw [decide_eq_true (show ((13 - (m + 1) : Nat) : Int) ≤ 12 by omega), if_pos rfl, callP_ret, oB, faP_ptr, oB, Nat.zero_add, CAt.ldd (dp := 13 - (m + 1)) a2.on hc1, oB] at hF
    dsimp only at hF
    rw [binV_ii, intsV_add, show ((13 - (m + 1) : Nat) : Int) + 1 = ((13 - m : Nat) : Int) by omega, wrap_i64 (by omega) (by omega), oB, oB, faP_ptr, oB, Nat.zero_add, bx_st1 a2.on hc1 rfl rfl rfl, oB] at hF
    dsimp only at hF
    have g2 := grew_put (s := S1) c (bxO 57 [.ptr b 0, .int .i64 ((13 - m : Nat) : Int)])
    have hc2 : CAt (S1.put c (bxO 57 [.ptr b 0, .int .i64 ((13 - m : Nat) : Int)])) c b (13 - m) := bx_put (s := S1) c 57 _
    have n2 : (S1.put c (bxO 57 [.ptr b 0, .int .i64 ((13 - m : Nat) : Int)])).next = S1.next := rfl
    generalize S1.put c (bxO 57 [.ptr b 0, .int .i64 ((13 - m : Nat) : Int)]) = S2 at hF g2 hc2 n2
    have hw2 : WAt S2 b r full (wNum full w).2 := by
     refine ⟨g2.on.trans a2.on, a2.bx.grew (by omega) (by omega) g2, a2.ok, a2.fit, fun hp => ?_⟩
     have hs := a2.src hp
     have hrc : r ≠ c := fun e => by
      obtain ⟨cc, h1, _⟩ := hs.row.row
      have h2 : S1.heap.get c = some (bxO 57 [.ptr b 0, .int .i64 ((13 - (m + 1) : Nat) : Int)]) := hc1
      rw [e, h2] at h1
      unfold bxO at h1
      simp at h1
     exact ⟨hs.row.grew hs.rlt hrc g2, hs.ne, Nat.lt_of_lt_of_le hs.rlt g2.next⟩
    have hn2 := hn1.grew (by omega) (by omega) g2
    have hkid : ∃ o e w', kidsW (readW full m) full (13 - m) (wNum full w).1 (wNum full w).2 [] = (o, e, w') := ⟨_, _, _, rfl⟩
    obtain ⟨o, e, w', hkid⟩ := hkid
    have g02 : Grew (Touch c b n) S S2 := (a3.mono fun x _ hx => .inl hx).trans (g2.mono fun x _ hx => .inr (.inl hx))
    obtain ⟨w1, w2⟩ := L52_spec self hW rounds (R52_24 self rounds (finN E0 self Try.f52) noEx) (exB 0 (R52_24 self rounds (finN E0 self Try.f52) noEx) noEx) c b r n N0 m (by omega) full cb bn cn nN (h29 m rfl) (wNum full w).1 (by omega) (wNum full w).1 0 rounds (wNum full w).2 [] .nilslice S2 (by omega) (by unfold rounds; omega) rfl hw2 hc2 hn2 (.inl ⟨rfl, rfl⟩) (by omega) (fun hp => hrn (wNum_pos hp)) o e w' hkid
    rw [show ((0 : Nat) : Int) = 0 from rfl] at w1 w2
    have hdir : dirW (subW full (m + 1)) full (13 - (m + 1)) w = match kidsW (readW full m) full (13 - m) (wNum full w).1 (wNum full w).2 [] with
     | (none, e, w') => (none, e, w')
     | (some l, _, w') => (some (.mk [] 2 false [] l), 13 - (m + 1), w') := by
     rw [subW, dirW, if_neg hbig, show 13 - (m + 1) + 1 = 13 - m by omega]
     all_goals rfl
    rw [hdir, hkid]
    cases o with
    | none =>
     obtain ⟨S', x1, x2, x3, x4⟩ := w1 rfl
     exact ⟨fun _ => ⟨S', hF.trans x1, x2, x3, g02.trans x4⟩, fun y hy => (by cases hy)⟩
    | some l =>
     obtain ⟨S', v', x1, x2, x3, x4, x5, x6, x7⟩ := w2 l rfl
     have n7 := x7.next
     refine ⟨fun h => (by cases h), fun y hy => ?_⟩
     simp only [oS] at hy
     subst hy
     have g8 := grew_put (s := S') c (bxO 57 [.ptr b 0, .int .i64 ((13 - (m + 1) : Nat) : Int)])
     have hc8 : CAt (S'.put c (bxO 57 [.ptr b 0, .int .i64 ((13 - (m + 1) : Nat) : Int)])) c b (13 - (m + 1)) := bx_put (s := S') c 57 _
     have hst : stP 1 (.ptr c 1) (.int .i64 ((13 - (m + 1) : Nat) : Int)) S' = some (.tuple [], S'.put c (bxO 57 [.ptr b 0, .int .i64 ((13 - (m + 1) : Nat) : Int)])) := bx_st1 x2.on x3 rfl rfl rfl
     generalize S'.put c (bxO 57 [.ptr b 0, .int .i64 ((13 - (m + 1) : Nat) : Int)]) = S8 at g8 hc8 hst
     have hw8 : WAt S8 b r full w' := by
      refine ⟨g8.on.trans x2.on, x2.bx.grew (by omega) (by omega) g8, x2.ok, x2.fit, fun hp => ?_⟩
      have hs := x2.src hp
      have hrc : r ≠ c := fun e => by
       obtain ⟨cc, h1, _⟩ := hs.row.row
       have h2 : S'.heap.get c = some (bxO 57 [.ptr b 0, .int .i64 ((13 - m : Nat) : Int)]) := x3
       rw [e, h2] at h1
       unfold bxO at h1
       simp at h1
      exact ⟨hs.row.grew hs.rlt hrc g8, hs.ne, Nat.lt_of_lt_of_le hs.rlt g8.next⟩
     refine ⟨S8, 2, false, [], v', l, ?_, rfl, hw8, hc8, x4.grew (by omega) (by omega) g8, x5.grew (fun r h1 h2 => by omega) g8, g02.trans (x7.trans (g8.mono fun x _ hx => .inr (.inl hx)))⟩
     rw [hF, x1, exB_same, R52_24_eq, show nilCheckV (.ptr c 0) = some (.ptr c 0) from rfl, oB, faP_ptr, oB, Nat.zero_add, CAt.ldd (dp := 13 - m) x2.on x3, oB]
     dsimp only
     rw [binV_ii, intsV_sub, show ((13 - m : Nat) : Int) - 1 = ((13 - (m + 1) : Nat) : Int) by omega, wrap_i64 (by omega) (by omega), oB, oB, faP_ptr, oB, Nat.zero_add, hst, oB]
     rfl
end Go.Proofs.Ythmkdoaaciamlaa.W
namespace Go.Proofs.Ythmkdoaaciamlaa.W
open Go.Proofs.Ythmkdoaaciamlaa.Ev
noncomputable def k80 : Nat := match und E0 80 with | some (.map _ k) => k | _ => 0
theorem und80 : und E0 80 = some (.map 3 k80) := by kernel_rfl
theorem zero80 : zeroT E0 k80 = some .nilfn := by kernel_rfl
section
variable {s : St}
theorem upd80 (ho : s.on = false) {r cl : Nat} {es : List ME} (h : s.heap.get r = some (.map es cl)) (k : Int) (v : V) (hf : mfind (.int .i64 k) es 0 = some none) : updateV E0 80 (.map r) (.int .i64 k) v s = some (s.put r (.map (es ++ [{ k := .int .i64 k, v := v, born := cl }]) (cl + 1))) := by
 unfold updateV
 rw [und80]
 simp only [oB]
 rw [und3]
 simp only [oB, keyOk, cond_true, getO, h, note_off ho, hf]
 unfold setO
 rw [note_off ho]
theorem look80 (ho : s.on = false) {r cl : Nat} {es : List ME} (h : s.heap.get r = some (.map es cl)) (k : Int) {i : Nat} {v : V} (hf : mfind (.int .i64 k) es 0 = some (some (i, v))) : lookupV E0 80 (.map r) (.int .i64 k) true s = some (.tuple [v, .bool true], s) := by
 unfold lookupV
 rw [und80]
 simp only [oB]
 rw [und3]
 simp only [oB, keyOk, cond_true, getO, h, note_off ho, hf]
theorem miss80 (ho : s.on = false) {r cl : Nat} {es : List ME} (h : s.heap.get r = some (.map es cl)) (k : Int) (hf : mfind (.int .i64 k) es 0 = some none) : lookupV E0 80 (.map r) (.int .i64 k) true s = some (.tuple [.nilfn, .bool false], s) := by
 unfold lookupV
 rw [und80]
 simp only [oB]
 rw [und3]
 simp only [oB, keyOk, cond_true, getO, h, note_off ho, hf, zero80]
theorem dispatch80 (ho : s.on = false) (f1 f3 f2 : V) : ∃ s1 s2 s3 s4, makeMapK E0 80 none s = some (.map s.next, s1) ∧ updateV E0 80 (.map s.next) (.int .i64 1) f1 s1 = some s2 ∧ updateV E0 80 (.map s.next) (.int .i64 3) f3 s2 = some s3 ∧ updateV E0 80 (.map s.next) (.int .i64 2) f2 s3 = some s4 ∧
 (lookupV E0 80 (.map s.next) (.int .i64 1) true s4 = some (.tuple [f1, .bool true], s4) ∧ lookupV E0 80 (.map s.next) (.int .i64 3) true s4 = some (.tuple [f3, .bool true], s4) ∧ lookupV E0 80 (.map s.next) (.int .i64 2) true s4 = some (.tuple [f2, .bool true], s4) ∧ lookupV E0 80 (.map s.next) (.int .i64 0) true s4 = some (.tuple [.nilfn, .bool false], s4)) ∧ Grew (fun _ => False) s s4 ∧ s4.next = s.next + 1 := by
 have h1 : (nw s (.map [] 0)).heap.get s.next = some (.map [] 0) := by rw [nw_get, if_pos rfl]
 have u1 := upd80 (nw_on ho _) h1 1 f1 rfl
 have h2 : ((nw s (.map [] 0)).put s.next (.map ([] ++ [{ k := .int .i64 1, v := f1, born := 0 }]) (0 + 1))).heap.get s.next = some (.map ([] ++ [{ k := .int .i64 1, v := f1, born := 0 }]) (0 + 1)) := by rw [put_get, if_pos rfl]
 have u2 := upd80 (s := (nw s (.map [] 0)).put s.next (.map ([] ++ [{ k := .int .i64 1, v := f1, born := 0 }]) (0 + 1))) (put_on (nw_on ho (.map [] 0))) h2 3 f3 rfl
 generalize hs2 : ((nw s (.map [] 0)).put s.next (.map ([] ++ [{ k := .int .i64 1, v := f1, born := 0 }]) (0 + 1))).put s.next (.map ([] ++ [{ k := .int .i64 1, v := f1, born := 0 }] ++ [{ k := .int .i64 3, v := f3, born := 0 + 1 }]) (0 + 1 + 1)) = s3 at u2
 have h3 : s3.heap.get s.next = some (.map ([] ++ [{ k := .int .i64 1, v := f1, born := 0 }] ++ [{ k := .int .i64 3, v := f3, born := 0 + 1 }]) (0 + 1 + 1)) := by rw [← hs2, put_get, if_pos rfl]
 have on3 : s3.on = false := by rw [← hs2]; exact put_on (put_on (nw_on ho (.map [] 0)))
 have u3 := upd80 on3 h3 2 f2 rfl
 have g3 : Grew (fun _ => False) s s3 := by rw [← hs2]; exact (grew_nw ho _ _).own (Nat.le_refl _) ((grew_put _ _).trans (grew_put _ _))
 have n3 : s3.next = s.next + 1 := by rw [← hs2]; rfl
 generalize hs4 : s3.put s.next (.map ([] ++ [{ k := .int .i64 1, v := f1, born := 0 }] ++ [{ k := .int .i64 3, v := f3, born := 0 + 1 }] ++ [{ k := .int .i64 2, v := f2, born := 0 + 1 + 1 }]) (0 + 1 + 1 + 1)) = s4 at u3
 have h4 : s4.heap.get s.next = some (.map ([] ++ [{ k := .int .i64 1, v := f1, born := 0 }] ++ [{ k := .int .i64 3, v := f3, born := 0 + 1 }] ++ [{ k := .int .i64 2, v := f2, born := 0 + 1 + 1 }]) (0 + 1 + 1 + 1)) := by rw [← hs4, put_get, if_pos rfl]
 have on4 : s4.on = false := by rw [← hs4]; exact on3
 refine ⟨_, _, s3, s4, rfl, u1, u2, u3, ⟨look80 on4 h4 1 (i := 0) rfl, look80 on4 h4 3 (i := 1) rfl, look80 on4 h4 2 (i := 2) rfl, miss80 on4 h4 0 rfl⟩, ?_, ?_⟩
 · rw [← hs4]; exact g3.own (Nat.le_refl _) (grew_put _ _)
 · rw [← hs4]; exact n3
end
theorem body50 : E0.ext.get 50 = none ∧ hasBody E0 50 = true := ⟨by kernel_rfl, by kernel_rfl⟩
theorem body51 : E0.ext.get 51 = none ∧ hasBody E0 51 = true := ⟨by kernel_rfl, by kernel_rfl⟩
theorem body52 : E0.ext.get 52 = none ∧ hasBody E0 52 = true := ⟨by kernel_rfl, by kernel_rfl⟩
def Part (x : Nat → St → Rs) (c b r d : Nat) (full : List UInt8) (kind : Int) (g : WSt → Wn) : Prop :=
 ∀ (n N0 : Nat) (w : WSt) (S : St), Frame S c b n → WAt S b r full w → CAt S c b (13 - d) → Bx S n 24 (c5 [] kind false [] .nilslice) → n < N0 → N0 ≤ S.next → (w.at_.isPos → r < n) → GOk (x n S) S c b r n N0 full (g w)
def NOk (x : Rs) (S : St) (c b r : Nat) (full : List UInt8) (p : Wn) : Prop :=
 ∃ e S', x = some (e, S') ∧ FzEn S' S.next e (outWn p.1) ∧ WAt S' b r full p.2.2 ∧ CAt S' c b p.2.1 ∧ Grew (fun x => x = b ∨ x = c) S S'
theorem F29_spec (self : EV) (hW : Wdg self) (c b r d : Nat) (hd : d ≤ 13) (full : List UInt8) (w : WSt) (S : St) (cb : c ≠ b) (hb : b < S.next) (hcS : c < S.next) (h : WAt S b r full w) (hc : CAt S c b (13 - d))
 (hfile : Part (fun n => self.f 50 [.ptr c 0, .ptr n 0]) c b r d full 1 (fileW full (13 - d))) (hlink : Part (fun n => self.f 51 [.ptr c 0, .ptr n 0]) c b r d full 3 (linkW full (13 - d))) (hdir : Part (fun n => self.f 52 [.ptr c 0, .ptr n 0]) c b r d full 2 (dirW (subW full d) full (13 - d))) :
 NOk (F29 self rounds (.ptr c 0) S) S c b r full (readW full d w) := by
 obtain ⟨p1, p2, p3⟩ := ag_new h.on 24 5 (Tr.ofListFrom .nil [(sv []), (.int .i64 0), (.bool false), (sv []), .nilslice] 0)
 have hF := F29_eq self rounds (.ptr c 0) S
 rw [oB, nwP_fst] at hF
 generalize hS1 : (nwP 24 5 (Tr.ofListFrom .nil [(sv []), (.int .i64 0), (.bool false), (sv []), .nilslice] 0) S).2 = S1 at p1 p2 p3 hF
 have h1 := h.grew hb (fun h => h) (fun _ _ _ h => h) p2
 have hc1 : CAt S1 c b (13 - d) := hc.grew hcS (fun h => h) p2
 obtain ⟨S2, a1, a2, a3, a4⟩ := hW.num b r full w S1 h1
 have hc2 : CAt S2 c b (13 - d) := hc1.grew (by omega) (by omega) a3
 have hp2 := p1.grew (by omega) (by omega) a3
 rw [show nilCheckV (.ptr c 0) = some (.ptr c 0) from rfl, oB, faP_ptr, oB, Nat.zero_add, CAt.ld0 (dp := 13 - d) h1.on hc1, oB] at hF
 dsimp only at hF
 rw [a1, callP_ret, binV_ii, intsV_leq, oB, hW.must] at hF
 rw [readW_eq full d hd, oneW]
 have g2 : Grew (fun x => x = b ∨ x = c ∨ S.next ≤ x) S S2 := (Grew.of0 p2).trans (a3.mono fun x _ hx => .inl hx)
 have fin : ∀ {S'}, Grew (fun x => x = b ∨ x = c ∨ S.next ≤ x) S S' → Grew (fun x => x = b ∨ x = c) S S' := fun g => g.mono fun x hx h => by rcases h with h | h | h; exact .inl h; exact .inr h; omega
 have fpan : ∀ S', FzEn S' S.next (.pan wrongV) (outWn none) := fun S' => by
  show Fz S' S.next wrongV wrongV
  refine .same (.iface (.agg fun i v hi => ?_))
  rw [vAgg_get] at hi
  cases hi
 by_cases h3 : (wNum full w).1 ≤ 3
 · rw [decide_eq_true (show ((wNum full w).1 : Int) ≤ 3 by omega), if_pos rfl, callP_ret, cvI_int, wrap_i64 (by omega) (by omega), oB] at hF
   dsimp only at hF
   rw [build24, oB, oB, nwP_fst] at hF
   obtain ⟨S3, d1, d2, d3, d4⟩ := var_new a2.on 24 5 (Tr.ofListFrom .nil [(sv []), (.int .i64 0), (.bool false), (sv []), .nilslice] 0) (c5 [] ((wNum full w).1 : Int) false [] .nilslice) rfl (by decide) big5
   have h3w := a2.grew (by omega) (fun h => h) (fun _ _ _ h => h) d3
   have hc3 : CAt S3 c b (13 - d) := hc2.grew (by omega) (fun h => h) d3
   have hp3 := hp2.grew (by omega) (fun h => h) d3
   obtain ⟨m1, m2, m3, S4, u0, u1, u2, u3, ⟨lk1, lk3, lk2, lk0⟩, e3, n4⟩ := dispatch80 h3w.on (.fn (.func 50) [.ptr c 0] []) (.fn (.func 51) [.ptr c 0] []) (.fn (.func 52) [.ptr c 0] [])
   have h4w := h3w.grew (by omega) (fun h => h) (fun _ _ _ h => h) e3
   have hc4 : CAt S4 c b (13 - d) := hc3.grew (by omega) (fun h => h) e3
   have hp4 := hp3.grew (by omega) (fun h => h) e3
   have hn4 := d2.grew (by omega) (fun h => h) e3
   have g4 : Grew (fun x => x = b ∨ x = c ∨ S.next ≤ x) S S4 := g2.trans ((Grew.of0 d3).trans (Grew.of0 e3))
   rw [d1, oB] at hF
   dsimp only at hF
   rw [u0, oB] at hF
   dsimp only at hF
   simp only [u1, u2, u3, vu, oB, faP_ptr, Nat.zero_add, Bx.ld1 h4w.on hn4 1 (by rw [c5_len]; omega) big5] at hF
   rw [show (c5 [] ((wNum full w).1 : Int) false [] .nilslice)[1]'(by rw [c5_len]; omega) = .int .i64 ((wNum full w).1 : Int) from rfl] at hF
   have hfr : Frame S4 c b S2.next := ⟨cb, by omega, by omega, by omega⟩
   have tail : ∀ (fid : FuncId) (g : Wn), GOk (self.f fid [.ptr c 0, .ptr S2.next 0] S4) S4 c b r S2.next S3.next full g →
    F29 self rounds (.ptr c 0) S = (callP (self.f fid [.ptr c 0, .ptr S2.next 0] S4) fun t37 S37 =>
     (ld1 (.ptr c 0) S37).bind fun p41 =>
     callP (self.f 53 [p41.1] p41.2) fun t42 S42 =>
     callP (self.f 27 [t42] S42) fun t43 S43 =>
     (ldA 5 (.ptr S2.next 0) S43).bind fun p44 =>
     (stP 5 (.ptr S.next 0) p44.1 p44.2).bind fun p45 =>
     (ldrA 5 (.ptr S.next 0) p45.2).bind fun p46 => some (.ret p46.1, p46.2)) → NOk (F29 self rounds (.ptr c 0) S) S c b r full (notLost g) := fun fid g hg hr => by
    obtain ⟨o, e, w'⟩ := g
    obtain ⟨hg1, hg2⟩ := hg
    have gT : ∀ {S'}, Grew (Touch c b S2.next) S4 S' → Grew (fun x => x = b ∨ x = c ∨ S.next ≤ x) S S' := fun g => g4.trans (g.mono fun x _ hx => by rcases hx with hx | hx | hx; exact .inl hx; exact .inr (.inl hx); exact .inr (.inr (by omega)))
    cases o with
    | none =>
     obtain ⟨S5, x1, x2, x3, x4⟩ := hg1 rfl
     rw [x1, callP_pan] at hr
     exact ⟨_, S5, hr, fpan _, x2, x3, fin (gT x4)⟩
    | some y =>
     obtain ⟨S5, k, ex, dt, v5, acc, x1, rfl, x2, x3, x4, x5, x6⟩ := hg2 y rfl
     have n5 := x6.next
     have hp5 := hp4.grew (by omega) (by unfold Touch; omega) x6
     simp only at x2 x3
     rw [x1, callP_ret, CAt.ld0 (dp := e) x2.on x3, oB] at hr
     dsimp only at hr
     rw [hW.ok b r full w' S5 x2, callP_ret, hW.must] at hr
     rw [notLost]
     cases hl : w'.lost with
     | true =>
      rw [hl, Bool.not_true, if_neg (by simp), callP_pan] at hr
      rw [if_pos rfl]
      exact ⟨_, S5, hr, fpan _, x2, x3, fin (gT x6)⟩
     | false =>
      rw [hl, Bool.not_false, if_pos rfl, callP_ret, Bx.ldA (n := 5) x2.on x4 rfl big5, oB] at hr
      dsimp only at hr
      obtain ⟨S6, y1, y2, y3, y4⟩ := hp5.stA x2.on big5 (Tr.ofListFrom .nil (c5 [] k ex dt v5) 0)
      rw [vAgg5 _ (c5_len _ _ _ _ _), y1, oB] at hr
      dsimp only at hr
      rw [y2.ldrA (y3.on.trans x2.on) big5, oB, ← vAgg5 _ (c5_len _ _ _ _ _)] at hr
      dsimp only at hr
      rw [if_neg (by simp)]
      refine ⟨_, S6, hr, ?_, x2.grew (by omega) (by omega) (fun hp hr' _ => ?_) y3, x3.grew (by omega) (by omega) y3, fin ((gT x6).trans (y3.mono fun x _ hx => .inr (.inr (by omega))))⟩
      · exact fz_node (x5.grew (fun r h1 h2 => by omega) y3) (by omega) [] k ex dt
      · intro hre
        obtain ⟨cc, q1, _⟩ := (x2.src hp).row.row
        obtain ⟨cc', q2, _⟩ := hp5
        rw [hre, q2] at q1
        simp at q1
   have hrn : (wNum full w).2.at_.isPos → r < S2.next := fun hp => by have := (h.src (wNum_pos hp)).rlt; omega
   have hkk : (wNum full w).1 = 0 ∨ (wNum full w).1 = 1 ∨ (wNum full w).1 = 3 ∨ (wNum full w).1 = 2 := by omega
   rcases hkk with hk | hk | hk | hk
   · rw [if_neg (by omega), if_neg (by omega), if_neg (by omega), notLost]
     · rw [hk] at hF
       rw [show ((0 : Nat) : Int) = 0 from rfl, lk0, oB] at hF
       dsimp only at hF
       rw [extractV_tuple, extractV_tuple, show ([V.nilfn, .bool false] : List V)[0]? = some .nilfn from rfl, show ([V.nilfn, .bool false] : List V)[1]? = some (.bool false) from rfl, oB, oB, hW.must, if_neg (by simp), callP_pan] at hF
       exact ⟨_, S4, hF, fpan _, h4w, hc4, fin g4⟩
     · intro y e w hh; cases hh
   · rw [if_pos hk]
     rw [hk] at hF hn4
     rw [show ((1 : Nat) : Int) = 1 from rfl] at hF hn4
     rw [lk1, oB] at hF
     dsimp only at hF
     rw [extractV_tuple, extractV_tuple, show ([V.fn (.func 50) [.ptr c 0] [], .bool true] : List V)[0]? = some (.fn (.func 50) [.ptr c 0] []) from rfl, show ([V.fn (.func 50) [.ptr c 0] [], .bool true] : List V)[1]? = some (.bool true) from rfl, oB, oB, hW.must, if_pos rfl, callP_ret, callK_fn body50.1 body50.2, List.append_nil] at hF
     exact tail 50 _ (hfile S2.next S3.next (wNum full w).2 S4 hfr h4w hc4 hn4 (by omega) (by omega) hrn) hF
   · rw [if_neg (by omega), if_pos hk]
     rw [hk] at hF hn4
     rw [show ((3 : Nat) : Int) = 3 from rfl] at hF hn4
     rw [lk3, oB] at hF
     dsimp only at hF
     rw [extractV_tuple, extractV_tuple, show ([V.fn (.func 51) [.ptr c 0] [], .bool true] : List V)[0]? = some (.fn (.func 51) [.ptr c 0] []) from rfl, show ([V.fn (.func 51) [.ptr c 0] [], .bool true] : List V)[1]? = some (.bool true) from rfl, oB, oB, hW.must, if_pos rfl, callP_ret, callK_fn body51.1 body51.2, List.append_nil] at hF
     exact tail 51 _ (hlink S2.next S3.next (wNum full w).2 S4 hfr h4w hc4 hn4 (by omega) (by omega) hrn) hF
   · rw [if_neg (by omega), if_neg (by omega), if_pos hk]
     rw [hk] at hF hn4
     rw [show ((2 : Nat) : Int) = 2 from rfl] at hF hn4
     rw [lk2, oB] at hF
     dsimp only at hF
     rw [extractV_tuple, extractV_tuple, show ([V.fn (.func 52) [.ptr c 0] [], .bool true] : List V)[0]? = some (.fn (.func 52) [.ptr c 0] []) from rfl, show ([V.fn (.func 52) [.ptr c 0] [], .bool true] : List V)[1]? = some (.bool true) from rfl, oB, oB, hW.must, if_pos rfl, callP_ret, callK_fn body52.1 body52.2, List.append_nil] at hF
     exact tail 52 _ (hdir S2.next S3.next (wNum full w).2 S4 hfr h4w hc4 hn4 (by omega) (by omega) hrn) hF
 · have hnone : (if (wNum full w).1 = 1 then fileW full (13 - d) (wNum full w).2 else if (wNum full w).1 = 3 then linkW full (13 - d) (wNum full w).2 else if (wNum full w).1 = 2 then dirW (subW full d) full (13 - d) (wNum full w).2 else (none, 13 - d, (wNum full w).2)) = ((none, 13 - d, (wNum full w).2) : Wn) := by
    rw [if_neg (by omega), if_neg (by omega), if_neg (by omega)]
   rw [hnone, notLost]
   rw [decide_eq_false (show ¬ ((wNum full w).1 : Int) ≤ 3 by omega), if_neg (by simp), callP_pan] at hF
   · exact ⟨_, S2, hF, fpan _, a2, hc2, fin g2⟩
   · intro y e w hh; cases hh
end Go.Proofs.Ythmkdoaaciamlaa.W
namespace Go.Proofs.Ythmkdoaaciamlaa.W
open Go.Proofs.Ythmkdoaaciamlaa.Ev
def RowO (o : O) (full : List UInt8) : Prop := ∃ cc, o = .cells 5 1 (full.map byteC).length false cc ∧ ∀ (i : Nat) t, (full.map byteC)[i]? = some t → cc.get i = some t
theorem RowO.same {o : O} {f g : List UInt8} (h : RowO o f) (k : RowO o g) : f = g := by
 obtain ⟨c1, e1, h1⟩ := h
 obtain ⟨c2, e2, h2⟩ := k
 rw [e1] at e2
 simp only [O.cells.injEq, true_and] at e2
 obtain ⟨hl, rfl⟩ := e2
 rw [List.length_map, List.length_map] at hl
 refine List.ext_getElem hl fun i hi hj => ?_
 have a1 := h1 i (byteC f[i]) (by rw [List.getElem?_map, List.getElem?_eq_getElem hi]; rfl)
 have a2 := h2 i (byteC g[i]) (by rw [List.getElem?_map, List.getElem?_eq_getElem hj]; rfl)
 rw [a1] at a2
 simp only [oS] at a2
 have h0 : (byteC f[i]).get 0 = (byteC g[i]).get 0 := by rw [a2]
 have h0' : some (V.int .u8 (.ofNat f[i].toNat)) = some (V.int .u8 (.ofNat g[i].toNat)) := h0
 simp only [oS, V.int.injEq, true_and] at h0'
 exact UInt8.toNat_inj.1 (Int.ofNat.inj h0')
structure NdIn where
 c : Nat
 b : Nat
 d : Nat
 w : WSt
 r : Nat
 full : List UInt8
 ro : O
 hd : d ≤ 13
 cb : c ≠ b
 fit : full.length ≤ 100000
 ok : w.at_.ok full
 src : w.at_.isPos → r ≠ b ∧ RowO ro full
 nrm : ¬ w.at_.isPos → r = 0 ∧ full = [] ∧ ro = .dead
noncomputable def encNd (x : NdIn) : List V := [.ptr x.c 0]
noncomputable def srcL (a : Lf) (r : Nat) (ro : O) : List (Nat × O) := match a with
 | .pos _ => [(r, ro)]
 | _ => []
noncomputable def preNd (x : NdIn) : List (Nat × O) := (x.c, bxO 57 [.ptr x.b 0, .int .i64 ((13 - x.d : Nat) : Int)]) :: (x.b, wO x.r x.full x.w) :: srcL x.w.at_ x.r x.ro
noncomputable def postNd (x : NdIn) : List (Nat × O) := [(x.c, bxO 57 [.ptr x.b 0, .int .i64 ((readW x.full x.d x.w).2.1 : Int)]), (x.b, wO x.r x.full (readW x.full x.d x.w).2.2)]
noncomputable def outNd (x : NdIn) : En := outWn (readW x.full x.d x.w).1
theorem effU_Nd : EffU encNd preNd := fun x y s h1 h2 h3 => by
 simp only [encNd, List.cons.injEq, V.ptr.injEq, and_true] at h1
 have a1 := h2 (x.c, bxO 57 [.ptr x.b 0, .int .i64 ((13 - x.d : Nat) : Int)]) (List.mem_cons_self ..)
 have a2 := h3 (y.c, bxO 57 [.ptr y.b 0, .int .i64 ((13 - y.d : Nat) : Int)]) (List.mem_cons_self ..)
 simp only at a1 a2
 rw [h1, a2] at a1
 simp only [oS] at a1
 have e1 := bxO_inj a1
 simp only [List.cons.injEq, V.ptr.injEq, V.int.injEq, true_and, and_true] at e1
 have b1 := h2 (x.b, wO x.r x.full x.w) (List.mem_cons_of_mem _ (List.mem_cons_self ..))
 have b2 := h3 (y.b, wO y.r y.full y.w) (List.mem_cons_of_mem _ (List.mem_cons_self ..))
 simp only at b1 b2
 rw [← e1.1, b2] at b1
 simp only [oS] at b1
 have e2 := bxO_inj b1
 simp only [List.cons.injEq, V.bool.injEq, and_true] at e2
 obtain ⟨xc, xb, xd, ⟨xa, xl⟩, xr, xf, xo, hd1, cb1, fit1, ok1, src1, nrm1⟩ := x
 obtain ⟨yc, yb, yd, ⟨ya, yl⟩, yr, yf, yo, hd2, cb2, fit2, ok2, src2, nrm2⟩ := y
 simp only at h1 e1 e2 src1 src2 nrm1 nrm2
 have hdd : xd = yd := by omega
 obtain ⟨e1, _⟩ := e1
 obtain ⟨e2, e3⟩ := e2
 subst h1 hdd e1 e3
 cases xa with
 | pos off =>
  cases ya with
  | pos off' =>
   simp only [Lf.v, V.oslice.injEq, and_true] at e2
   obtain ⟨rfl, rfl, _⟩ := e2
   have c1 := h2 (yr, xo) (List.mem_cons_of_mem _ (List.mem_cons_of_mem _ (List.mem_singleton.2 rfl)))
   have c2 := h3 (yr, yo) (List.mem_cons_of_mem _ (List.mem_cons_of_mem _ (List.mem_singleton.2 rfl)))
   simp only at c1 c2
   rw [c2] at c1
   simp only [oS] at c1
   subst c1
   obtain ⟨_, r1⟩ := src1 trivial
   obtain ⟨_, r2⟩ := src2 trivial
   have := r1.same r2
   subst this
   rfl
  | empty => simp [Lf.v] at e2
  | nil => simp [Lf.v] at e2
 | empty =>
  cases ya with
  | pos off' => simp [Lf.v] at e2
  | empty =>
   obtain ⟨rfl, rfl, rfl⟩ := nrm1 (fun h => h)
   obtain ⟨rfl, rfl, rfl⟩ := nrm2 (fun h => h)
   rfl
  | nil => simp [Lf.v] at e2
 | nil =>
  cases ya with
  | pos off' => simp [Lf.v] at e2
  | empty => simp [Lf.v] at e2
  | nil =>
   obtain ⟨rfl, rfl, rfl⟩ := nrm1 (fun h => h)
   obtain ⟨rfl, rfl, rfl⟩ := nrm2 (fun h => h)
   rfl
noncomputable def kfNd : KF := effKF encNd preNd postNd outNd
theorem wNum_ok {full : List UInt8} {w : WSt} (h : w.at_.ok full) : (wNum full w).2.at_.ok full := wTake_ok _ h
theorem wText_ok {full : List UInt8} {w : WSt} (h : w.at_.ok full) : (wText full w).2.at_.ok full := by
 unfold wText
 split
 · exact wNum_ok h
 · split
   · trivial
   · exact wTake_ok _ (wNum_ok h)
theorem kidsW_ok {f : WSt → Wn} {full : List UInt8} (hf : ∀ w, w.at_.ok full → (f w).2.2.at_.ok full) (dp : Nat) : ∀ (n : Nat) (w : WSt) (acc : List Nd), w.at_.ok full → (kidsW f full dp n w acc).2.2.at_.ok full
 | 0, w, acc, h => h
 | n + 1, w, acc, h => by
  rw [kidsW]
  have h1 := hf (wText full w).2 (wText_ok h)
  split
  · rename_i e w' hw
    rw [hw] at h1
    exact h1
  · rename_i y e w' hw
    rw [hw] at h1
    exact kidsW_ok hf dp n w' _ h1
theorem oneW_ok {f : Option (WSt → Wn)} {full : List UInt8} (hf : ∀ g, f = some g → ∀ w, w.at_.ok full → (g w).2.2.at_.ok full) (dp : Nat) (w : WSt) (h : w.at_.ok full) : (oneW f full dp w).2.2.at_.ok full := by
 have h0 := wNum_ok h
 unfold oneW
 rw [(notLost_st _).1]
 split
 · unfold fileW
   split
   · exact wText_ok (wNum_ok h0)
   · exact wNum_ok h0
 · split
   · exact wText_ok h0
   · split
     · unfold dirW
       split
       · exact wNum_ok h0
       · rename_i g
         split
         · exact wNum_ok h0
         · have hk := kidsW_ok (hf g rfl) (dp + 1) (wNum full (wNum full w).2).1 (wNum full (wNum full w).2).2 [] (wNum_ok h0)
           split
           · rename_i e w' hw
             rw [hw] at hk
             exact hk
           · rename_i l e w' hw
             rw [hw] at hk
             exact hk
     · exact h0
theorem readW_ok (full : List UInt8) : ∀ (d : Nat) (w : WSt), w.at_.ok full → (readW full d w).2.2.at_.ok full
 | 0, w, h => oneW_ok (fun g hg => by cases hg) _ w h
 | d + 1, w, h => oneW_ok (fun g hg => by cases hg; exact readW_ok full d) _ w h
theorem readW_none {full : List UInt8} {d : Nat} (hd : d ≤ 13) {w : WSt} (h : ¬ w.at_.isPos) : readW full d w = (none, 13 - d, ⟨.nil, true⟩) := by
 rw [readW_eq full d hd, oneW, wNum_none (not_pos h)]
 rfl
theorem mem_srcL {a : Lf} {r : Nat} {ro : O} {p : Nat × O} (h : p ∈ srcL a r ro) : a.isPos ∧ p = (r, ro) := by
 cases a with
 | pos off => exact ⟨trivial, by simpa [srcL] using h⟩
 | empty => simp [srcL] at h
 | nil => simp [srcL] at h
theorem kfNd_run {c b r d : Nat} {full : List UInt8} {w : WSt} {S : St} (hd : d ≤ 13) (cb : c ≠ b) (h : WAt S b r full w) (hc : CAt S c b (13 - d)) (hcS : c < S.next) (hbS : b < S.next) (e : EV) (hk : ∀ x : NdIn, x.c = c → x.d = d → Has S (preNd x) → e.f 29 [.ptr c 0] S = some (outNd x, puts (postNd x) S)) :
 ∃ S', e.f 29 [.ptr c 0] S = some (outWn (readW full d w).1, S') ∧ WAt S' b r full (readW full d w).2.2 ∧ CAt S' c b (readW full d w).2.1 ∧ Grew (fun x => x = b ∨ x = c) S S' ∧ S'.next = S.next := by
 have key : ∀ x : NdIn, x.c = c → x.d = d → x.b = b → Has S (preNd x) → readW x.full x.d x.w = readW full d w → wO x.r x.full (readW full d w).2.2 = wO r full (readW full d w).2.2 → ((readW full d w).2.2.at_.ok full) →
  ∃ S', e.f 29 [.ptr c 0] S = some (outWn (readW full d w).1, S') ∧ WAt S' b r full (readW full d w).2.2 ∧ CAt S' c b (readW full d w).2.1 ∧ Grew (fun x => x = b ∨ x = c) S S' ∧ S'.next = S.next := fun x h1 h2 h3 hh hr hw hok => by
  have hx := hk x h1 h2 hh
  have g1 : Grew (fun x => x = b ∨ x = c) S (puts (postNd x) S) := by
   refine ⟨by rw [puts_next]; exact Nat.le_refl _, puts_on _ _, fun y _ hy => ?_⟩
   rcases puts_get (postNd x) S y with ⟨o, k1, _⟩ | ⟨_, k2⟩
   · exfalso
     rw [postNd, List.mem_cons, List.mem_singleton] at k1
     rcases k1 with k1 | k1
     · exact hy (.inr (by rw [← h1]; exact congrArg Prod.fst k1))
     · exact hy (.inl (by rw [← h3]; exact congrArg Prod.fst k1))
   · exact k2
  have e0 : puts (postNd x) S = (S.put c (bxO 57 [.ptr b 0, .int .i64 ((readW full d w).2.1 : Int)])).put b (wO r full (readW full d w).2.2) := by
   show (S.put x.c (bxO 57 [.ptr x.b 0, .int .i64 ((readW x.full x.d x.w).2.1 : Int)])).put x.b (wO x.r x.full (readW x.full x.d x.w).2.2) = _
   rw [h1, h3, hr, hw]
  refine ⟨puts (postNd x) S, by rw [hx, outNd, hr], ?_, ?_, g1, puts_next _ _⟩
  · refine ⟨(puts_on _ _).trans h.on, by rw [e0]; exact bx_put _ 74 _, hok, h.fit, fun hp => ?_⟩
    have hs := h.src (readW_pos full d w hp)
    have hrc : r ≠ c := fun e => by
     obtain ⟨cc, q1, _⟩ := hs.row.row
     have q2 : S.heap.get c = some (bxO 57 [.ptr b 0, .int .i64 ((13 - d : Nat) : Int)]) := hc
     rw [e, q2] at q1
     unfold bxO at q1
     simp at q1
    exact ⟨hs.row.grew hs.rlt (fun h => by rcases h with h | h; exact hs.ne h; exact hrc h) g1, hs.ne, Nat.lt_of_lt_of_le hs.rlt g1.next⟩
  · show (puts (postNd x) S).heap.get c = _
    rw [e0, put_get, if_neg cb, put_get, if_pos rfl]
    rfl
 have h0 : S.heap.get c = some (bxO 57 [.ptr b 0, .int .i64 ((13 - d : Nat) : Int)]) := hc
 have hb0 : S.heap.get b = some (bxO 74 [w.at_.v r full, .bool w.lost]) := h.bx
 have hokr := readW_ok full
 rcases Classical.em w.at_.isPos with hp | hp
 · have hs := h.src hp
   obtain ⟨cc, q1, q2⟩ := hs.row.row
   refine key ⟨c, b, d, w, r, full, .cells 5 1 (full.map byteC).length false cc, hd, cb, h.fit, h.ok, fun _ => ⟨hs.ne, cc, rfl, q2⟩, fun hn => absurd hp hn⟩ rfl rfl rfl (fun p hm => ?_) rfl rfl (hokr d w h.ok)
   rw [preNd, List.mem_cons, List.mem_cons] at hm
   rcases hm with rfl | rfl | hm
   · exact h0
   · exact hb0
   · obtain ⟨_, rfl⟩ := mem_srcL hm
     exact q1
 · have hv : w.at_.v 0 [] = w.at_.v r full := by
    cases ha : w.at_ with
    | pos off => rw [ha] at hp; exact absurd trivial hp
    | empty => rfl
    | nil => rfl
   have hr : ∀ f, readW f d w = (none, 13 - d, ⟨.nil, true⟩) := fun f => readW_none hd hp
   refine key ⟨c, b, d, w, 0, [], .dead, hd, cb, by simp, by
    cases ha : w.at_ with
    | pos off => rw [ha] at hp; exact absurd trivial hp
    | empty => trivial
    | nil => trivial, fun h => absurd h hp, fun _ => ⟨rfl, rfl, rfl⟩⟩ rfl rfl rfl (fun p hm => ?_) ((hr _).trans (hr _).symm) (by rw [hr]; rfl) (hokr d w h.ok)
   rw [preNd, List.mem_cons, List.mem_cons] at hm
   rcases hm with rfl | rfl | hm
   · exact h0
   · show S.heap.get b = some (bxO 74 [w.at_.v 0 [], .bool w.lost])
     rw [hv]; exact hb0
   · exact absurd (mem_srcL hm).1 hp
end Go.Proofs.Ythmkdoaaciamlaa.W
namespace Go.Proofs.Ythmkdoaaciamlaa.W
open Go.Proofs.Ythmkdoaaciamlaa.Ev
theorem wO_under {N r : Nat} {full : List UInt8} {w : WSt} (h : w.at_.isPos → r < N) : OUnder N (wO r full w) := bxO_under fun v hv => by
 simp only [List.mem_cons, List.not_mem_nil, or_false] at hv
 rcases hv with rfl | rfl
 · cases ha : w.at_ with
   | pos off => exact .oslice (h (by rw [ha]; trivial))
   | empty => exact .eslice
   | nil => exact .nilslice
 · exact .bool _
theorem has_wat {x : NdIn} {S : St} (ho : S.on = false) (hh : Has S (preNd x)) (hl : ∀ p ∈ preNd x, p.1 < S.next) : WAt S x.b x.r x.full x.w ∧ CAt S x.c x.b (13 - x.d) ∧ x.c < S.next ∧ x.b < S.next := by
 refine ⟨⟨ho, hh (x.b, wO x.r x.full x.w) (List.mem_cons_of_mem _ (List.mem_cons_self ..)), x.ok, x.fit, fun hp => ?_⟩, hh (x.c, bxO 57 [.ptr x.b 0, .int .i64 ((13 - x.d : Nat) : Int)]) (List.mem_cons_self ..), hl (x.c, bxO 57 [.ptr x.b 0, .int .i64 ((13 - x.d : Nat) : Int)]) (List.mem_cons_self ..), hl (x.b, wO x.r x.full x.w) (List.mem_cons_of_mem _ (List.mem_cons_self ..))⟩
 obtain ⟨h1, cc, h2, h3⟩ := x.src hp
 have hm : (x.r, x.ro) ∈ preNd x := by
  refine List.mem_cons_of_mem _ (List.mem_cons_of_mem _ ?_)
  cases ha : x.w.at_ with
  | pos off => exact List.mem_singleton.2 rfl
  | empty => rw [ha] at hp; exact hp.elim
  | nil => rw [ha] at hp; exact hp.elim
 have hr := hh _ hm
 simp only at hr
 have := x.fit
 exact ⟨⟨by omega, by rw [List.length_map]; unfold big; omega, cc, by rw [hr, h2], h3⟩, h1, hl _ hm⟩
theorem kn29 {K : FuncId → Option KF} (hK : KnOk Try.prog E0 K) (hW : WK K) (h50 : K 50 = none) (h51 : K 51 = none) (h52 : K 52 = none) : KnWell Try.prog E0 29 kfNd :=
 effKF_rec (fn := Try.f29) (c := C29) (d := B29) (fun x : NdIn => x.d) effU_Nd (fun x N hx p hp => by
  have hc := hx (x.c, bxO 57 [.ptr x.b 0, .int .i64 ((13 - x.d : Nat) : Int)]) (List.mem_cons_self ..)
  have hb := hx (x.b, wO x.r x.full x.w) (List.mem_cons_of_mem _ (List.mem_cons_self ..))
  rw [postNd, List.mem_cons, List.mem_singleton] at hp
  rcases hp with rfl | rfl
  · refine ⟨hc, bxO_under fun v hv => ?_⟩
    simp only [List.mem_cons, List.not_mem_nil, or_false] at hv
    rcases hv with rfl | rfl
    · exact .ptr hb
    · exact .int _ _
  · refine ⟨hb, wO_under fun hp => ?_⟩
    have hp := readW_pos _ _ _ hp
    refine hx (x.r, x.ro) (List.mem_cons_of_mem _ (List.mem_cons_of_mem _ ?_))
    cases ha : x.w.at_ with
    | pos off => exact List.mem_singleton.2 rfl
    | empty => rw [ha] at hp; exact hp.elim
    | nil => rw [ha] at hp; exact hp.elim) (fun x p hp => by
  rw [preNd, List.mem_cons, List.mem_cons] at hp
  rcases hp with rfl | rfl | hm
  · rfl
  · rfl
  · obtain ⟨h1, rfl⟩ := mem_srcL hm
    obtain ⟨_, cc, h2, _⟩ := x.src h1
    simp only [h2]
    rfl) E0_ok hK (by kernel_rfl) (by kernel_rfl) (annot_isOf C29 _ (by kernel_rfl)) fun K' hK' x S hself ho hh hl => by
  obtain ⟨hw, hc, hcS, hbS⟩ := has_wat ho hh hl
  have hW' : WK K' := ⟨by rw [hK' 69 (by decide)]; exact hW.k69, by rw [hK' 48 (by decide)]; exact hW.k48, by rw [hK' 47 (by decide)]; exact hW.k47, by rw [hK' 49 (by decide)]; exact hW.k49, by rw [hK' 28 (by decide)]; exact hW.k28, by rw [hK' 53 (by decide)]; exact hW.k53, by rw [hK' 30 (by decide)]; exact hW.k30, by rw [hK' 27 (by decide)]; exact hW.k27⟩
  have k50 : K' 50 = none := by rw [hK' 50 (by decide)]; exact h50
  have k51 : K' 51 = none := by rw [hK' 51 (by decide)]; exact h51
  have k52 : K' 52 = none := by rw [hK' 52 (by decide)]; exact h52
  have lift : ∀ {fid : FuncId} {fn : Func} {cd : Code} {dd : D} {args : List V} {S1 : St} {n N0 : Nat} {g : Wn}, E0.fns.get fid = some fn → fn.body = some cd → isOf dd cd → K' fid = none → GOk (runF E0 (ev E0 K' 5) rounds fn dd args S1) S1 x.c x.b x.r n N0 x.full g → GOk ((ev E0 K' 6).f fid args S1) S1 x.c x.b x.r n N0 x.full g := fun hf hb hd hk hg => by
   obtain ⟨g1, g2⟩ := hg
   refine ⟨fun h => ?_, fun y h => ?_⟩
   · obtain ⟨S', e1, e2⟩ := g1 h
     exact ⟨S', ev_read hf hb hd hk e1, e2⟩
   · obtain ⟨S', k, e, dt, v5, acc, e1, e2⟩ := g2 y h
     exact ⟨S', k, e, dt, v5, acc, ev_read hf hb hd hk e1, e2⟩
  obtain ⟨e, S', z1, z2, z3, z4, z5⟩ := F29_spec (ev E0 K' 6) (wdg_known hW' 2) x.c x.b x.r x.d x.hd x.full x.w S x.cb hbS hcS hw hc
   (fun n N0 w S1 hf h hc hn _ _ hrn => lift (cd := C50) (dd := B50) (by kernel_rfl) (by kernel_rfl) (annot_isOf C50 _ (by kernel_rfl)) k50 (F50_spec (ev E0 K' 5) (wdg_known hW' 1) x.c x.b x.r n N0 (13 - x.d) x.full w S1 hf h hc hn hrn))
   (fun n N0 w S1 hf h hc hn _ _ hrn => lift (cd := C51) (dd := B51) (by kernel_rfl) (by kernel_rfl) (annot_isOf C51 _ (by kernel_rfl)) k51 (F51_spec (ev E0 K' 5) (wdg_known hW' 1) x.c x.b x.r n N0 (13 - x.d) x.full w S1 hf h hc hn hrn))
   (fun n N0 w S1 hf h hc hn nN hN hrn => lift (cd := C52) (dd := B52) (by kernel_rfl) (by kernel_rfl) (annot_isOf C52 _ (by kernel_rfl)) k52 (F52_spec (ev E0 K' 5) (wdg_known hW' 1) x.c x.b x.r n N0 x.d x.hd x.full w S1 hf h hc hn nN hN hrn
    (fun m hm w2 S2 h2 hc2 hcS2 hbS2 => kfNd_run (by have := x.hd; omega) x.cb h2 hc2 hcS2 hbS2 (ev E0 K' 5) fun y hyc hyd hyh => by
     have := hself y S2 4 (by show y.d < x.d; omega) h2.on hyh
     rw [encNd, hyc] at this
     exact this)))
  refine ⟨6, e, S', z1, z5.mono fun y _ hy => ?_, fun p hp => ?_, z2⟩
  · rcases hy with rfl | rfl
    · exact ⟨_, List.mem_cons_of_mem _ (List.mem_singleton.2 rfl), rfl⟩
    · exact ⟨_, List.mem_cons_self .., rfl⟩
  · rw [postNd, List.mem_cons, List.mem_singleton] at hp
    rcases hp with rfl | rfl
    · exact z4
    · exact z3.bx
end Go.Proofs.Ythmkdoaaciamlaa.W
namespace Go.Proofs.Ythmkdoaaciamlaa.W
open Go.Proofs.Ythmkdoaaciamlaa.Ev
theorem build74 (r n : Nat) : buildV E0 74 [(0, .oslice r 0 n 1)] = some (vAgg [.oslice r 0 n 1, .bool false]) := by kernel_rfl
theorem conv_bytes {S : St} (s : List UInt8) : convertV E0 9 37 (sv s) S = some (.oslice S.next 0 s.length 1, newCells S 5 1 (s.map byteC)) := by
 unfold convertV
 rw [und37, und9]
 simp only [oB, isUnsafe, Bool.or_self, cond_false, sv, und5]
 have := unpackV_take s.length s (Nat.le_refl _)
 rw [List.take_length] at this
 rw [this]
theorem new_run {K : FuncId → Option KF} (h26 : K 26 = none) (n : Nat) (s : List UInt8) (hs : s.length ≤ 100000) (S : St) (ho : S.on = false) :
 ∃ S', (ev E0 K (n + 1)).f 26 [sv s] S = some (.ret (.ptr (S.next + 1) 0), S') ∧ WAt S' (S.next + 1) S.next s ⟨.pos 0, false⟩ ∧ Grew (fun _ => False) S S' ∧ S'.next = S.next + 2 := by
 have hrow := rowAt_newCells (s := S) ho (e := 5) (z := 1) (l := s.map byteC) (by omega) (by rw [List.length_map]; unfold big; omega)
 have g1 : Grew (fun _ => False) S (newCells S 5 1 (s.map byteC)) := grew_nw ho _ _
 have n1 : (newCells S 5 1 (s.map byteC)).next = S.next + 1 := rfl
 have hconv := conv_bytes (S := S) s
 generalize newCells S 5 1 (s.map byteC) = S1 at hrow g1 n1 hconv
 obtain ⟨S2, b1, b2, b3, b4⟩ := box_new (g1.on.trans ho) 74 [.oslice S.next 0 s.length 1, .bool false]
 rw [n1] at b1 b2
 refine ⟨S2, ev_read (c := C26) (d := B26) (by kernel_rfl) (by kernel_rfl) (annot_isOf C26 _ (by kernel_rfl)) h26 (?_ : F26 (ev E0 K n) rounds (sv s) S = _), ⟨b3.on.trans (g1.on.trans ho), b2, Nat.zero_le _, hs, fun _ => ⟨hrow.grew (by omega) (fun h => h) b3, by omega, by omega⟩⟩, g1.trans b3, by omega⟩
 rw [F26_eq, hconv, oB]
 dsimp only
 rw [build74, oB, b1, oB]
end Go.Proofs.Ythmkdoaaciamlaa.W
namespace Go.Proofs.Ythmkdoaaciamlaa.W
open Go.Proofs.Ythmkdoaaciamlaa.Ev
theorem digsA_zero (acc : List UInt8) : digsA 0 acc = acc := by rw [digsA, dif_pos rfl]
theorem digsA_pos {m : Nat} (h : m ≠ 0) (acc : List UInt8) : digsA m acc = digsA (m / 128) (UInt8.ofNat (m % 128 + 128) :: acc) := by rw [digsA, dif_neg h]
theorem digsA_acc : ∀ (m : Nat) (acc : List UInt8), digsA m acc = digsA m [] ++ acc := fun m => by
 induction m using Nat.strongRecOn with
 | ind m ih =>
  intro acc
  by_cases h : m = 0
  · subst h; rw [digsA_zero, digsA_zero]; rfl
  · rw [digsA_pos h, digsA_pos h [], ih (m / 128) (by omega) (_ :: acc), ih (m / 128) (by omega) [_], List.append_assoc]; rfl
theorem hi_step {m : Nat} (h : m ≠ 0) : digsA m [] = digsA (m / 128) [] ++ [UInt8.ofNat (m % 128 + 128)] := by
 rw [digsA_pos h, digsA_acc]
theorem digs_eq (n : Nat) : digs n = digsA (n / 128) [] ++ [UInt8.ofNat (n % 128)] := by
 unfold digs
 rw [digsA_acc]
theorem hi_big : ∀ (m : Nat), ∀ c ∈ digsA m [], 128 ≤ c.toNat := fun m => by
 induction m using Nat.strongRecOn with
 | ind m ih =>
  intro c hc
  by_cases h : m = 0
  · subst h; rw [digsA_zero] at hc; cases hc
  · rw [hi_step h] at hc
    rcases List.mem_append.1 hc with hc | hc
    · exact ih _ (by omega) c hc
    · rw [List.mem_singleton] at hc
      subst hc
      rw [toNat_ofNat (by omega)]; omega
theorem numV_append (l : List UInt8) (c : UInt8) (v : Nat) : numV (l ++ [c]) v = (128 * numV l v + c.toNat % 128) % 18446744073709551616 := by
 unfold numV
 rw [List.foldl_append]; rfl
theorem numV_hi : ∀ (m : Nat), m < 18446744073709551616 → numV (digsA m []) 0 = m := fun m => by
 induction m using Nat.strongRecOn with
 | ind m ih =>
  intro hm
  by_cases h : m = 0
  · subst h; rw [digsA_zero]; rfl
  · rw [hi_step h, numV_append, ih _ (by omega) (by omega), toNat_ofNat (by omega)]
    omega
theorem numV_digs {n : Nat} (h : n < 18446744073709551616) : numV (digs n) 0 = n := by
 rw [digs_eq, numV_append, numV_hi _ (by omega), toNat_ofNat (by omega)]
 omega
theorem numK_hi : ∀ (l : List UInt8) (c : UInt8) (rest : List UInt8), (∀ x ∈ l, 128 ≤ x.toNat) → c.toNat < 128 → numK (l ++ c :: rest) = l.length
 | [], c, rest, _, hc => by
  rw [List.nil_append, numK_cons, if_neg (by omega)]; rfl
 | x :: l, c, rest, h, hc => by
  rw [List.cons_append, numK_cons, if_pos (h x (List.mem_cons_self ..)), numK_hi l c rest (fun y hy => h y (List.mem_cons_of_mem _ hy)) hc, List.length_cons]
theorem rNum_digs {n : Nat} (h : n < 18446744073709551616) (rest : List UInt8) (lost : Bool) : rNum ⟨digs n ++ rest, lost⟩ = (n, ⟨rest, lost⟩) := by
 have hl := digsA_len 9 (n / 128) [] (by omega)
 simp only [List.length_nil, Nat.zero_add] at hl
 have hlen : (digs n).length = (digsA (n / 128) []).length + 1 := by rw [digs_eq, List.length_append]; rfl
 have hk : numK (digs n ++ rest) = (digsA (n / 128) []).length := by
  rw [digs_eq, List.append_assoc]
  exact numK_hi _ _ _ (hi_big _) (by rw [toNat_ofNat (by omega)]; omega)
 unfold rNum
 simp only
 rw [hk, if_neg (by rw [List.length_append]; omega), ← hlen, List.take_left, List.drop_left, numV_digs h, if_pos rfl]
theorem rText_put {t : List UInt8} (h : t.length < 18446744073709551616) (rest : List UInt8) (lost : Bool) : rText ⟨putText [] t ++ rest, lost⟩ = (t, ⟨rest, lost⟩) := by
 unfold putText rText
 rw [List.nil_append, List.append_assoc, rNum_digs h]
 simp only
 rw [if_neg (by rw [List.length_append]; omega), List.take_left, List.drop_left]
end Go.Proofs.Ythmkdoaaciamlaa.W
namespace Go.Proofs.Ythmkdoaaciamlaa.W
open Go.Proofs.Ythmkdoaaciamlaa.Ev
theorem hi_head : ∀ (m : Nat), m ≠ 0 → ∃ q t, digsA m [] = UInt8.ofNat (q + 128) :: t ∧ 1 ≤ q ∧ q ≤ 127 ∧ q = m / 128 ^ t.length := fun m => by
 induction m using Nat.strongRecOn with
 | ind m ih =>
  intro h
  by_cases h1 : m / 128 = 0
  · refine ⟨m, [], ?_, by omega, by omega, by simp⟩
    rw [hi_step h, h1, digsA_zero, show m % 128 = m by omega]; rfl
  · obtain ⟨q, t, e, h2, h3, h4⟩ := ih (m / 128) (by omega) h1
    refine ⟨q, t ++ [UInt8.ofNat (m % 128 + 128)], by rw [hi_step h, e]; rfl, h2, h3, ?_⟩
    rw [List.length_append, List.length_singleton, Nat.pow_succ, Nat.mul_comm (128 ^ t.length) 128, ← Nat.div_div_eq_div_mul]
    exact h4
theorem rowGo_hi (b0 : Nat) : ∀ (l : List UInt8) (c : UInt8) (rest : List UInt8) (i : Nat), (∀ x ∈ l, 128 ≤ x.toNat) → c.toNat < 128 → (i = 0 → ∀ x, l.head? = some x → x.toNat ≠ 128) → i + l.length ≤ 9 → (i + l.length = 9 → b0 ≤ 129) → rowGo b0 (l ++ c :: rest) i = i + l.length + 1
 | [], c, rest, i, _, hc, _, hle, h9 => by
  simp only [List.length_nil, Nat.add_zero] at hle h9
  rw [List.nil_append, rowGo, if_neg (by omega), if_neg (fun h => by have := h9 h.1; omega), if_neg (by omega), if_pos hc]; rfl
 | x :: l, c, rest, i, hl, hc, h0, hle, h9 => by
  rw [List.length_cons] at hle h9
  have hx := hl x (List.mem_cons_self ..)
  rw [List.cons_append, rowGo, if_neg (fun h => h0 h.1 x rfl h.2), if_neg (by omega), if_neg (by omega), if_neg (by omega), rowGo_hi b0 l c rest (i + 1) (fun y hy => hl y (List.mem_cons_of_mem _ hy)) hc (fun h => by omega) (by omega) (fun h => h9 (by omega)), List.length_cons]
  omega
theorem rowK_digs {n : Nat} (h : n < 18446744073709551616) (rest : List UInt8) : rowK (digs n ++ rest) = (digs n).length := by
 have hl := digsA_len 9 (n / 128) [] (by omega)
 simp only [List.length_nil, Nat.zero_add] at hl
 have hlen : (digs n).length = (digsA (n / 128) []).length + 1 := by rw [digs_eq, List.length_append]; rfl
 unfold rowK
 rw [hlen, digs_eq, List.append_assoc]
 have key := rowGo_hi (((digsA (n / 128) [] ++ ([UInt8.ofNat (n % 128)] ++ rest)).headD 0).toNat) (digsA (n / 128) []) (UInt8.ofNat (n % 128)) rest 0 (hi_big _) (by rw [toNat_ofNat (by omega)]; omega)
 by_cases hm : n / 128 = 0
 · rw [hm, digsA_zero] at key ⊢
   have := key (fun _ x hx => by cases hx) (by simp) (fun h => by simp at h)
   rw [Nat.zero_add] at this
   exact this
 · obtain ⟨q, t, e, h2, h3, h4⟩ := hi_head (n / 128) hm
   rw [e] at key hl ⊢
   have := key (fun _ x hx => by
    simp only [List.head?_cons, oS] at hx
    subst hx
    rw [toNat_ofNat (by omega)]; omega) (by omega) (fun h9 => by
    rw [List.cons_append, List.headD_cons, toNat_ofNat (by omega)]
    rw [List.length_cons] at h9
    have ht : t.length = 8 := by omega
    rw [ht] at h4
    have : n / 128 / 128 ^ 8 ≤ 1 := by
     have h88 : (128 : Nat) ^ 8 = 72057594037927936 := by decide
     rw [h88]; omega
    omega)
   rw [Nat.zero_add] at this
   exact this
end Go.Proofs.Ythmkdoaaciamlaa.W
namespace Go.Proofs.Ythmkdoaaciamlaa.W
open Go.Proofs.Ythmkdoaaciamlaa.Ev
theorem digs_pos (n : Nat) : 1 ≤ (digs n).length := by rw [digs_eq, List.length_append, List.length_singleton]; omega
theorem wNum_digs {full : List UInt8} {w : WSt} {n : Nat} {rest : List UInt8} (h : n < 18446744073709551616) (hl : w.left full = digs n ++ rest) : (wNum full w).1 = n ∧ (wNum full w).2.left full = rest ∧ (wNum full w).2.lost = w.lost := by
 have hk : rowK (w.left full) = (digs n).length := by rw [hl, rowK_digs h]
 have hp := digs_pos n
 obtain ⟨t1, t2⟩ := wTake_left (full := full) (w := w) (n := (digs n).length) (by omega) (by rw [hl, List.length_append]; omega)
 unfold wNum
 rw [hk]
 refine ⟨?_, ?_, t2⟩
 · show numV ((w.left full).take (digs n).length) 0 = n
   rw [hl, List.take_left, numV_digs h]
 · show (wTake full w (digs n).length).left full = rest
   rw [t1, hl, List.drop_left]
theorem wText_put {full : List UInt8} {w : WSt} {t rest : List UInt8} (h : t.length < 18446744073709551616) (hl : w.left full = putText [] t ++ rest) : (wText full w).1 = t ∧ (wText full w).2.left full = rest ∧ (wText full w).2.lost = w.lost := by
 unfold putText at hl
 rw [List.nil_append, List.append_assoc] at hl
 obtain ⟨h1, h2, h3⟩ := wNum_digs h hl
 unfold wText
 rw [h1]
 by_cases h0 : t.length = 0
 · rw [if_pos h0]
   have : t = [] := List.length_eq_zero_iff.1 h0
   subst this
   exact ⟨rfl, h2, h3⟩
 · rw [if_neg h0, h2, if_neg (by rw [List.length_append]; omega)]
   obtain ⟨t1, t2⟩ := wTake_left (full := full) (w := (wNum full w).2) (n := t.length) h0 (by rw [h2, List.length_append]; omega)
   refine ⟨List.take_left .., ?_, t2.trans h3⟩
   show (wTake full (wNum full w).2 t.length).left full = rest
   rw [t1, h2, List.drop_left]
theorem putText_acc (s t : List UInt8) : putText s t = s ++ putText [] t := by
 unfold putText
 simp only [List.nil_append, List.append_assoc]
mutual
theorem layN_acc : ∀ (x : Nd) (s : List UInt8), layN s x = s ++ layN [] x
 | .mk n k e d l, s => by
  rw [layN, layN]
  split
  · rw [putText_acc, putText_acc ([] ++ _ ++ _)]
    simp only [List.nil_append, List.append_assoc]
  · split
    · rw [putText_acc, putText_acc ([] ++ _)]
      simp only [List.nil_append, List.append_assoc]
    · rw [layL_acc l, layL_acc l ([] ++ _ ++ _)]
      simp only [List.nil_append, List.append_assoc]
theorem layL_acc : ∀ (l : List Nd) (s : List UInt8), layL s l = s ++ layL [] l
 | [], s => by rw [layL, layL, List.append_nil]
 | x :: l, s => by
  rw [layL, layL, layL_acc l, layL_acc l (layN (putText [] x.name) x), layN_acc x, layN_acc x (putText [] x.name), putText_acc]
  simp only [List.append_assoc]
end
theorem layN_nil (x : Nd) : layN [] x = if x.kind = 1 then digs x.kind.toNat ++ digs (if x.exec then 1 else 0) ++ putText [] x.data else if x.kind = 3 then digs x.kind.toNat ++ putText [] x.data else digs x.kind.toNat ++ digs x.kids.length ++ layL [] x.kids := by
 rw [layN_eq]
 split
 · rw [putText_acc]; simp only [List.nil_append]
 · split
   · rw [putText_acc]; simp only [List.nil_append]
   · rw [layL_acc]; simp only [List.nil_append]
theorem layL_cons (x : Nd) (l : List Nd) : layL [] (x :: l) = putText [] x.name ++ (layN [] x ++ layL [] l) := by
 rw [layL, layL_acc, layN_acc]
 simp only [List.append_assoc]
end Go.Proofs.Ythmkdoaaciamlaa.W
namespace Go.Proofs.Ythmkdoaaciamlaa.W
open Go.Proofs.Ythmkdoaaciamlaa.Ev
theorem mayN_file {x : Nd} (h : mayN x = true) (hk : x.kind = 1) : x.kids = [] := by
 rw [mayN_eq, if_pos hk] at h
 exact List.isEmpty_iff.1 h
theorem mayN_link {x : Nd} (h : mayN x = true) (hk : x.kind = 3) : x.kids = [] ∧ x.exec = false := by
 rw [mayN_eq, if_neg (by omega), if_pos hk] at h
 simp only [Bool.and_eq_true, Bool.not_eq_true'] at h
 exact ⟨List.isEmpty_iff.1 h.2.1.1.2, h.2.1.1.1⟩
theorem mayN_dir {x : Nd} (h : mayN x = true) (hk : x.kind = 2) : mayL none x.kids = true ∧ x.exec = false ∧ x.data = [] := by
 rw [mayN_eq, if_neg (by omega), if_neg (by omega), if_pos hk] at h
 simp only [Bool.and_eq_true, Bool.not_eq_true', beq_iff_eq] at h
 exact ⟨h.1, h.2.1, h.2.2⟩
theorem nameIt_back (x : Nd) : nameIt (nameIt x []) x.name = x := by cases x; rfl
theorem cntL_len : ∀ l : List Nd, l.length ≤ cntL l
 | [] => Nat.zero_le _
 | x :: l => by
  have := cntL_len l
  have h1 : 1 ≤ cntN x := by rw [cntN_eq]; omega
  rw [cntL, List.length_cons]; omega
theorem cntL_mem {l : List Nd} {y : Nd} (h : y ∈ l) : cntN y ≤ cntL l := by
 induction l with
 | nil => cases h
 | cons x l ih =>
  rw [cntL]
  rcases List.mem_cons.1 h with rfl | h
  · omega
  · have := ih h; omega
theorem kidsN_lay {f : RSt → Option Nd × RSt} : ∀ (l : List Nd) (rest : List UInt8) (acc : List Nd), (∀ y ∈ l, y.name.length < 18446744073709551616 ∧ ∀ rest, f ⟨layN [] y ++ rest, false⟩ = (some (nameIt y []), ⟨rest, false⟩)) → kidsN f l.length ⟨layL [] l ++ rest, false⟩ acc = (some (acc ++ l), ⟨rest, false⟩)
 | [], rest, acc, _ => by
  rw [layL, List.append_nil]; rfl
 | y :: l, rest, acc, h => by
  obtain ⟨h1, h2⟩ := h y (List.mem_cons_self ..)
  rw [List.length_cons, kidsN, layL_cons, List.append_assoc, rText_put h1]
  simp only
  rw [List.append_assoc, h2]
  simp only
  rw [kidsN_lay l rest _ fun z hz => h z (List.mem_cons_of_mem _ hz), nameIt_back, List.append_assoc]
  rfl
theorem readN_lay : ∀ (m d : Nat) (x : Nd) (rest : List UInt8), m ≤ 14 → x.ok → mayN x = true → cntN x ≤ 2001 → deepN m x < m → deepN m x ≤ d → readN d ⟨layN [] x ++ rest, false⟩ = (some (nameIt x []), ⟨rest, false⟩)
 | 0, _, _, _, _, _, _, _, h, _ => by omega
 | m + 1, d, x, rest, hm, ok, may, hcnt, hlt, hd => by
  have hok := ok.at
  have hdata := hok.data
  rw [readN_eq, oneN, layN_nil]
  rcases mayCase may with ⟨hk, _⟩ | ⟨hk, _⟩ | ⟨hk, hkids⟩
  · have hno := mayN_file may hk
    rw [if_pos hk, hk, show (1 : Int).toNat = 1 from rfl, List.append_assoc, List.append_assoc, rNum_digs (by omega)]
    dsimp only
    rw [if_pos (show 1 % 1000 = 1 from rfl), fileN, rNum_digs (by split <;> omega)]
    simp only
    rw [rText_put (by omega)]
    simp only
    cases x with
    | mk n k e dt l =>
     simp only [Nd.kind, Nd.kids, Nd.exec, Nd.data] at hk hno ⊢
     subst hk hno
     cases e <;> simp [nameIt, Nd.kind, Nd.kids, Nd.exec, Nd.data]
  · obtain ⟨hno, hex⟩ := mayN_link may hk
    rw [if_neg (show ¬ x.kind = 1 by omega), if_pos hk, hk, show (3 : Int).toNat = 3 from rfl, List.append_assoc, rNum_digs (by omega)]
    dsimp only
    rw [if_neg (show ¬ 3 % 1000 = 1 by decide), if_pos (show 3 % 1000 = 3 from rfl), linkN, rText_put (by omega)]
    simp only
    cases x with
    | mk n k e dt l =>
     simp only [Nd.kind, Nd.kids, Nd.exec, Nd.data] at hk hno hex ⊢
     subst hk hno hex
     simp [nameIt, Nd.kind, Nd.kids, Nd.exec, Nd.data]
  · obtain ⟨_, hex, hdt⟩ := mayN_dir may hk
    have hm0 : m ≠ 0 := by
     intro h0
     subst h0
     rw [deepN, if_pos (.inr rfl)] at hlt
     omega
    rw [deep_dir hk hm0] at hlt hd
    have hge := foldl_max_ge (f := deepN m) x.kids 1
    obtain ⟨d', rfl⟩ : ∃ d', d = d' + 1 := ⟨d - 1, by have := hge.1; omega⟩
    have hlen := cntL_len x.kids
    rw [cntN_eq] at hcnt
    rw [if_neg (show ¬ x.kind = 1 by omega), if_neg (show ¬ x.kind = 3 by omega), hk, show (2 : Int).toNat = 2 from rfl, List.append_assoc, List.append_assoc, rNum_digs (by omega)]
    dsimp only
    rw [if_neg (show ¬ 2 % 1000 = 1 by decide), if_neg (show ¬ 2 % 1000 = 3 by decide), if_pos (show 2 % 1000 = 2 from rfl), subN, dirN, rNum_digs (by omega)]
    simp only
    rw [if_neg (by simp; omega), kidsN_lay x.kids rest [] fun y hy => ⟨by have := (hok.kids y hy).at.name; omega, fun rest => readN_lay m d' y rest (by omega) (hok.kids y hy) (mayL_all hkids y hy).2 (by have := cntL_mem hy; omega) (by have := hge.2 y hy; omega) (by have := hge.2 y hy; omega)⟩]
    simp only
    cases x with
    | mk n k e dt l =>
     simp only [Nd.kind, Nd.kids, Nd.exec, Nd.data] at hk hex hdt ⊢
     subst hk hex hdt
     simp [nameIt, Nd.kind, Nd.kids, Nd.exec, Nd.data]
end Go.Proofs.Ythmkdoaaciamlaa.W
namespace Go.Proofs.Ythmkdoaaciamlaa.W
open Go.Proofs.Ythmkdoaaciamlaa.Ev
def Back (full : List UInt8) (p : Wn) (y : Nd) (rest : List UInt8) : Prop := p.1 = some y ∧ p.2.2.left full = rest ∧ p.2.2.lost = false
theorem notLost_back {full : List UInt8} {p : Wn} {y : Nd} {rest : List UInt8} (h : Back full p y rest) : Back full (notLost p) y rest := by
 obtain ⟨o, e, w⟩ := p
 obtain ⟨h1, h2, h3⟩ := h
 simp only at h1 h2 h3
 subst h1
 rw [notLost, if_neg (by rw [h3]; simp)]
 exact ⟨rfl, h2, h3⟩
theorem kidsW_lay {f : WSt → Wn} {full : List UInt8} (dp : Nat) : ∀ (l : List Nd) (rest : List UInt8) (acc : List Nd) (w : WSt), w.left full = layL [] l ++ rest → w.lost = false → (∀ y ∈ l, y.name.length < 18446744073709551616 ∧ ∀ rest w, w.left full = layN [] y ++ rest → w.lost = false → Back full (f w) (nameIt y []) rest) →
 (kidsW f full dp l.length w acc).1 = some (acc ++ l) ∧ (kidsW f full dp l.length w acc).2.2.left full = rest ∧ (kidsW f full dp l.length w acc).2.2.lost = false
 | [], rest, acc, w, hw, hl, _ => by
  rw [layL] at hw
  exact ⟨by rw [List.append_nil]; rfl, hw, hl⟩
 | y :: l, rest, acc, w, hw, hl, h => by
  obtain ⟨h1, h2⟩ := h y (List.mem_cons_self ..)
  rw [layL_cons, List.append_assoc] at hw
  obtain ⟨t1, t2, t3⟩ := wText_put h1 hw
  rw [List.append_assoc] at t2
  obtain ⟨b1, b2, b3⟩ := h2 _ _ t2 (t3.trans hl)
  rw [List.length_cons, kidsW]
  cases hf : f (wText full w).2 with
  | mk o p =>
   obtain ⟨e, w'⟩ := p
   rw [hf] at b1 b2 b3
   simp only at b1 b2 b3
   subst b1
   simp only
   rw [t1, nameIt_back]
   obtain ⟨k1, k2, k3⟩ := kidsW_lay dp l rest (acc ++ [y]) w' b2 b3 fun z hz => h z (List.mem_cons_of_mem _ hz)
   exact ⟨by rw [k1, List.append_assoc]; rfl, k2, k3⟩
theorem readW_lay (full : List UInt8) : ∀ (m d : Nat) (x : Nd) (rest : List UInt8) (w : WSt), m ≤ 14 → d ≤ 13 → x.ok → mayN x = true → cntN x ≤ 2001 → deepN m x < m → deepN m x ≤ d → w.left full = layN [] x ++ rest → w.lost = false → Back full (readW full d w) (nameIt x []) rest
 | 0, _, _, _, _, _, _, _, _, _, h, _, _, _ => by omega
 | m + 1, d, x, rest, w, hm, hd13, ok, may, hcnt, hlt, hd, hw, hl => by
  have hok := ok.at
  have hdata := hok.data
  rw [readW_eq full d hd13, oneW]
  refine notLost_back ?_
  rw [layN_nil] at hw
  rcases mayCase may with ⟨hk, _⟩ | ⟨hk, _⟩ | ⟨hk, hkids⟩
  · have hno := mayN_file may hk
    rw [if_pos hk, hk, show (1 : Int).toNat = 1 from rfl, List.append_assoc, List.append_assoc] at hw
    obtain ⟨a1, a2, a3⟩ := wNum_digs (by omega) hw
    obtain ⟨b1, b2, b3⟩ := wNum_digs (by split <;> omega) a2
    obtain ⟨c1, c2, c3⟩ := wText_put (by omega) b2
    rw [if_pos a1, fileW, b1, if_pos (by split <;> omega)]
    refine ⟨?_, c2, c3.trans (b3.trans (a3.trans hl))⟩
    simp only
    rw [c1]
    cases x with
    | mk n k e dt l =>
     simp only [Nd.kind, Nd.kids, Nd.exec, Nd.data] at hk hno ⊢
     subst hk hno
     cases e <;> simp [nameIt, Nd.kind, Nd.kids, Nd.exec, Nd.data]
  · obtain ⟨hno, hex⟩ := mayN_link may hk
    rw [if_neg (show ¬ x.kind = 1 by omega), if_pos hk, hk, show (3 : Int).toNat = 3 from rfl, List.append_assoc] at hw
    obtain ⟨a1, a2, a3⟩ := wNum_digs (by omega) hw
    obtain ⟨c1, c2, c3⟩ := wText_put (by omega) a2
    rw [if_neg (by rw [a1]; decide), if_pos a1, linkW]
    refine ⟨?_, c2, c3.trans (a3.trans hl)⟩
    simp only
    rw [c1]
    cases x with
    | mk n k e dt l =>
     simp only [Nd.kind, Nd.kids, Nd.exec, Nd.data] at hk hno hex ⊢
     subst hk hno hex
     simp [nameIt, Nd.kind, Nd.kids, Nd.exec, Nd.data]
  · obtain ⟨_, hex, hdt⟩ := mayN_dir may hk
    have hm0 : m ≠ 0 := by
     intro h0
     subst h0
     rw [deepN, if_pos (.inr rfl)] at hlt
     omega
    rw [deep_dir hk hm0] at hlt hd
    have hge := foldl_max_ge (f := deepN m) x.kids 1
    obtain ⟨d', rfl⟩ : ∃ d', d = d' + 1 := ⟨d - 1, by have := hge.1; omega⟩
    have hlen := cntL_len x.kids
    rw [cntN_eq] at hcnt
    rw [if_neg (show ¬ x.kind = 1 by omega), if_neg (show ¬ x.kind = 3 by omega), hk, show (2 : Int).toNat = 2 from rfl, List.append_assoc, List.append_assoc] at hw
    obtain ⟨a1, a2, a3⟩ := wNum_digs (by omega) hw
    obtain ⟨b1, b2, b3⟩ := wNum_digs (by omega) a2
    rw [if_neg (by rw [a1]; decide), if_neg (by rw [a1]; decide), if_pos a1, subW, dirW, b1, if_neg (by omega)]
    obtain ⟨k1, k2, k3⟩ := kidsW_lay (f := readW full d') (13 - (d' + 1) + 1) x.kids rest [] (wNum full (wNum full w).2).2 b2 (b3.trans (a3.trans hl)) fun y hy => ⟨by have := (hok.kids y hy).at.name; omega, fun rest w hw hl => readW_lay full m d' y rest w (by omega) (by omega) (hok.kids y hy) (mayL_all hkids y hy).2 (by have := cntL_mem hy; omega) (by have := hge.2 y hy; omega) (by have := hge.2 y hy; omega) hw hl⟩
    cases hkk : kidsW (readW full d') full (13 - (d' + 1) + 1) x.kids.length (wNum full (wNum full w).2).2 [] with
    | mk o p =>
     obtain ⟨e, w'⟩ := p
     rw [hkk] at k1 k2 k3
     simp only [List.nil_append] at k1 k2 k3
     subst k1
     refine ⟨?_, k2, k3⟩
     cases x with
     | mk n k e dt l =>
      simp only [Nd.kind, Nd.kids, Nd.exec, Nd.data] at hk hex hdt ⊢
      subst hk hex hdt
      simp [nameIt, Nd.kind, Nd.kids, Nd.exec, Nd.data]
end Go.Proofs.Ythmkdoaaciamlaa.W
