/-
  WHAT THE FUNCTIONS COME TO: each is read by the evaluator, printed, and told as a function of data, part 11 of 11 (no condition).
-/
import Derived.Test.YtbihlgcdnhoknaaW10
namespace Go.Proofs.Ytbihlgcdnhoknaa.W
open Go.Proofs.Ytbihlgcdnhoknaa.Ev Go.RowKit
set_option maxRecDepth 100000
section
variable {S U A : St} {b r : Nat} {T : Tab} {k : Nat}
theorem rd5 {n : Nat} {args : List V} {s : St} {r : En × St} (e : qc0 E0 (ev E0 KD n) qa4 Try.f5 B5 args s = some r) : (ev E0 KD (n + 1)).f 5 args s = some r := qao (c := C5) (d := B5) (by kernel_rfl) (by kernel_rfl) (qa5 C5 _ (by kernel_rfl)) rfl e
theorem proj5 (v0 v5 v6 v7 : V) (K : Ac → Rs) : qc5 [0, 5, 6, 7] (fr 242 [(0, v0), (5, v5), (6, v6), (7, v7)]) K = K (fr 242 [(0, v0), (5, v5), (6, v6), (7, v7)]) := by kernel_rfl
theorem walk_run (h : TabAt S b r T) (ok : Ok T k) (hk : k ≤ 63) (m N : Nat) (hN : 100000 ≤ N) (nk : Ac → St → Rs) (ek : Nat → Ac → St → Rs) (v0 v7 : V) {q : Nat} (hq : Bx S q 26 [.int .i64 T.qi, .int .i64 T.qb]) (hlt : q < S.next) (hqo : ¬ Own b r T q) :
 ∃ U, ((qbz E0 50 none S).bind fun p57 =>
  (bsP 3 1 1 (Go.Proofs.Ytbihlgcdnhoknaa.Ev.one (.int .i64 0)) [(0, (.int .i64 1))] p57.2).bind fun p59 =>
  L5_119 (ev E0 KD (m + 2)) N (R5_63 (ev E0 KD (m + 2)) N nk ek) (exB 2 (R5_63 (ev E0 KD (m + 2)) N nk ek) ek) N v0 (.ptr q 0) (.ptr b 0) v7 p57.1 p59.1 (.int .i64 0) (.int .i64 0) (.int .i64 0) p59.2) = nk (fr 242 [(0, v0), (5, .ptr q 0), (6, .ptr b 0), (7, v7)]) U ∧ TabAt U b r T ∧ Bx U q 26 [.int .i64 T.qi, .int .i64 T.qb] ∧ q < U.next := by
 obtain ⟨A, a1, a2, a3, a4⟩ := cnt_new h.on
 have hA := h.grewF a3
 obtain ⟨B, b1, b2, b3, b4⟩ := bsP_one hA.on 3 (Go.Proofs.Ytbihlgcdnhoknaa.Ev.one (.int .i64 0)) (qb5 .i64 1)
 have hB := hA.grewF b3
 have cB := a2.grew (fun h => h) b3
 have hno : ∀ x, S.next ≤ x → ¬ Own b r T x := fun x hx e => by
  have := own_lt h e
  omega
 have iB : IL B A.next (.slice A.next 0 1 1) [1] := IL.slice (l := [1]) b2 (by omega)
 have hcnt := ok.cnt
 obtain ⟨C, C', todo', u1, u2, u3, u4, u5⟩ := L119_run ok hk m N (R5_63 (ev E0 KD (m + 2)) N nk ek) (exB 2 (R5_63 (ev E0 KD (m + 2)) N nk ek) ek) v0 (.ptr q 0) v7 (T.nodes.length) N 0 (by omega) (by omega) (Nat.le_refl _) hN (Nat.zero_le _) hB cB (hno _ (Nat.le_refl _)) iB (hno _ (by omega)) (by omega) (Bfs.start ok)
 obtain ⟨f1, f2, f3⟩ := u4.fin ok
 obtain ⟨D, d1, d2, d3, d4⟩ := L85_run ok f3 m N (R5_64 (ev E0 KD (m + 2)) N (fun a s => qc5 [0, 5, 6, 7] a fun a => nk a s) ek) (exB 6 (R5_64 (ev E0 KD (m + 2)) N (fun a s => qc5 [0, 5, 6, 7] a fun a => nk a s) ek) ek) v0 (.ptr q 0) v7 (.int .i64 (todo'.length : Int)) (.int .i64 (qh8 (dE T) todo' : Int)) 68 N 2 (by omega) (by omega) (by omega) u2 u3
 have gSB := a3.trans b3
 have hqB := (hq.grew hlt (fun h => h) gSB)
 have hltB := Nat.lt_of_lt_of_le hlt gSB.next
 have hqC := hqB.grew hltB (fun e => by
  rcases e with e | e <;> omega) u5
 have hltC := Nat.lt_of_lt_of_le hltB u5.next
 have hqD := hqC.grew hltC (fun h => h) d4
 have hltD := Nat.lt_of_lt_of_le hltC d4.next
 obtain ⟨U, w1, w2, w3⟩ := R64_run d2 ok (m + 1) N (fun a s => qc5 [0, 5, 6, 7] a fun a => nk a s) ek v0 v7 hqD hltD f1 f2
 refine ⟨U, ?_, w2, hqD.grew hltD (fun h => h) w3, Nat.lt_of_lt_of_le hltD w3.next⟩
 rw [a1, oB]
 dsimp only
 rw [b1, oB]
 dsimp only
 refine (show L5_119 (ev E0 KD (m + 2)) N (R5_63 (ev E0 KD (m + 2)) N nk ek) (exB 2 (R5_63 (ev E0 KD (m + 2)) N nk ek) ek) N v0 (.ptr q 0) (.ptr b 0) v7 (.map S.next) (.slice A.next 0 1 1) (.int .i64 0) (.int .i64 0) (.int .i64 0) B = _ from u1).trans ?_
 rw [exB_same, R5_63_eq]
 refine (show L5_85 (ev E0 KD (m + 2)) N _ _ N v0 (.ptr q 0) (.ptr b 0) v7 (.map S.next) (.int .i64 (todo'.length : Int)) (.int .i64 (qh8 (dE T) todo' : Int)) (.int .i64 2) C = _ from d1).trans ?_
 rw [exB_same]
 refine w1.trans ?_
 rw [proj5]
theorem L23_run (m N : Nat) (hN : 100000 ≤ N) (nk : Ac → St → Rs) (ek : Nat → Ac → St → Rs) {l : List Five} {v0 : V} (hv : ActsV v0 l) {q : Nat} :
 ∀ (j f i : Nat) {S : St} {T : Tab} {k : Nat}, i + j = 60 → j < f → TabAt S b r T → Ok T k → k ≤ i → Bx S q 26 [.int .i64 T.qi, .int .i64 T.qb] → q < S.next → ¬ Own b r T q → ∃ U, L5_23 (ev E0 KD (m + 7)) N nk ek f v0 (.ptr q 0) (.ptr b 0) (.int .i64 (i : Int)) S = ek 0 (fr 242 []) U
 | j, 0, i, S, T, k, hij, hj, _, _, _, _, _, _ => by omega
 | j, f + 1, i, S, T, k, hij, hj, h, ok, hk, hq, hlt, hqo => by
  by_cases hi : i < l.length ∧ i < 60
  · obtain ⟨hi, hi60⟩ := hi
    obtain ⟨A, a1, a2, a3⟩ := qn4 h (m + 6)
    obtain ⟨B, b1, b2, b3, b4⟩ := qjt a2.on 26 2 (Tr.ofListFrom .nil [(.int .i64 0), (.int .i64 0)] 0) [.int .i64 T.ui, .int .i64 T.ub] rfl (by decide) big2
    have hB := a2.grewF b3
    obtain ⟨C, T', e, c1, c2⟩ := small_run hB ok (by omega) m l[i].1 l[i].2.1 l[i].2.2.1 l[i].2.2.2.1 l[i].2.2.2.2
    have hwo : ¬ Own b r T A.next := fun e => by
     have := own_lt a2 e
     omega
    have hwo' : ¬ Own b r T' A.next := fun e => by
     rcases c2.own _ e with e | e
     · exact hwo e
     · omega
    have gSB := a3.trans b3
    have hqo' : ¬ Own b r T' q := fun e => by
     rcases c2.own _ e with e | e
     · exact hqo e
     · have := Nat.lt_of_lt_of_le hlt gSB.next
       omega
    have hqB := hq.grew hlt (fun h => h) gSB
    have hltB := Nat.lt_of_lt_of_le hlt gSB.next
    have hqC := hqB.grew hltB hqo c2.gr
    have hltC := Nat.lt_of_lt_of_le hltB c2.gr.next
    have hwC : Bx C A.next 26 [.int .i64 T.ui, .int .i64 T.ub] := b2.grew (by omega) hwo c2.gr
    have hwlt : A.next < C.next := Nat.lt_of_lt_of_le (show A.next < B.next by omega) c2.gr.next
    obtain ⟨V, L, e1, e2, e3, e4⟩ := used_on c2.tab (m + 6) hwo' hwC hwlt
    have hwV := hwC.grew hwlt (fun h => h) e3
    have mid : ∃ D, TabAt D b r T' ∧ Grew (fun _ => False) C D ∧ ∀ K : St → Rs, ((qab E0 .neq 27 false true (.int .i64 e) (.int .i64 0)).bind fun t48 =>
     (qa2 true t48).bind fun g50 => (bif g50 then some (.ptr b 0) else some (.tuple [])).bind fun t50 =>
     (qa2 true t48).bind fun g51 => qd1 (qah E0 (B5.r.r.r.r.l.r.l.l.r.l.l.r.r.l.l).ops) C 4 [[], [], [], []] (bif g51 then (ev E0 KD (m + 7)).f 11 [t50] (onS C) else some (.ret (.tuple []), (onS C))) fun t51 S51 =>
     (qa2 true t48).bind fun g52 => (bif g52 then ldA 2 (.ptr A.next 0) (onS S51) else some (.tuple [], (onS S51))).bind fun p52 =>
     (qa2 true t48).bind fun g53 => (bif g53 then qab E0 .neq 26 false false t51 p52.1 else some (.tuple [])).bind fun t53 =>
     (qbg t48 (some t53) (some (.bool false))).bind fun t54 =>
     qid [(4, [5])] C [[], [], [], [], S51.log, p52.2.log, [], []] (onS p52.2) fun S55 =>
     ifK t54 (some (.ret (.bool false), S55)) (K S55)) = K D := by
     by_cases he : e = 0
     · refine ⟨C, c2.tab, Grew.refl _ _, fun K => ?_⟩
       rw [qob, he]
       simp only [beq_self_eq_true, Bool.not_true, oB, gTF, cond_false, qak, pickV_bool, qe4]
       rw [qc6 (by rfl), qcq c2.tab.on, ifK_bool, cond_false]
     · have hT := c2.err he
       refine ⟨atS V C, e2.same rfl rfl rfl, qcm e3 c2.tab.on, fun K => ?_⟩
       rw [qob, show (e == 0) = false from beq_false_of_ne he]
       simp only [Bool.not_false, oB, gTT, cond_true]
       rw [show (ev E0 KD (m + 7)).f 11 [.ptr b 0] (onS C) = _ from e1, qak]
       simp only [oB, gTT, cond_true, qa1]
       rw [show Go.Proofs.Ytbihlgcdnhoknaa.Ev.ldA 2 (.ptr A.next 0) (onS V) = _ from hwV.ldAOn (n := 2) rfl big2, oB]
       dsimp only
       rw [hT, qky]
       simp only [oB, gTT, cond_true, pickV_bool, onS_rd]
       rw [qlb (qik fun p hp j' hj' => qk1 ?_), qdq c2.tab.on, ifK_bool, cond_false]
       simp only [List.mem_cons, List.not_mem_nil, or_false] at hp
       subst hp
       simp only [List.mem_cons, List.not_mem_nil, or_false] at hj'
       subst hj'
       intro e' he' f' hf'
       have hf2 := List.mem_singleton.1 hf'
       subst hf2
       rcases e4 e' he' with h | h
       · exact .inr ⟨h, rfl⟩
       · exact .inl h
    obtain ⟨D, d1, d2, d3⟩ := mid
    have hqD := hqC.grew hltC (fun h => h) d2
    have hltD := Nat.lt_of_lt_of_le hltC d2.next
    rw [← c2.q.1, ← c2.q.2] at hqD
    obtain ⟨W, w1, w2, w3, w4⟩ := walk_run d1 c2.ok (by omega) (m + 5) N hN (R5_32 (ev E0 KD (m + 7)) N (N5_23 (ev E0 KD (m + 7)) N nk ek f) ek) (exB 1 (R5_32 (ev E0 KD (m + 7)) N (N5_23 (ev E0 KD (m + 7)) N nk ek f) ek) ek) v0 (.int .i64 (i : Int)) hqD hltD hqo'
    obtain ⟨U, z1⟩ := L23_run m N hN nk ek hv (j - 1) f (i + 1) (by omega) (by omega) w2 c2.ok (by omega) w3 w4 hqo'
    refine ⟨U, ?_⟩
    rw [L5_23_eq, acts_len hv, oB]
    dsimp only
    rw [lssI, oB, decide_eq_true (show (i : Int) < (l.length : Int) by omega)]
    simp only [gTT, oB, cond_true]
    rw [lssI, oB, decide_eq_true (show (i : Int) < 60 by omega), pickV_bool, cond_true, oB, ifK_bool, cond_true]
    rw [show (ev E0 KD (m + 7)).f 11 [.ptr b 0] S = _ from a1, callP_ret]
    first | rw [oB, qdc, b1, oB] | rw [qdc, b1, oB]
    dsimp only
    rw [acts_ix hv hi, oB, b5_ld, oB]
    dsimp only
    rw [show (ev E0 KD (m + 7)).f 16 [.ptr b 0, b5V l[i]] B = _ from c1, callP_ret]
    refine (d3 _).trans ?_
    refine w1.trans ?_
    rw [R5_32_eq, addI 3 false true _ _ (by unfold qau; omega) (by unfold qau; omega), oB, N5_23_eq]
    exact z1
  · refine ⟨S, ?_⟩
    rw [L5_23_eq, acts_len hv, oB]
    dsimp only
    rw [lssI, oB]
    by_cases hl : i < l.length
    · rw [decide_eq_true (show (i : Int) < (l.length : Int) by omega)]
      simp only [gTT, oB, cond_true]
      rw [lssI, oB, decide_eq_false (show ¬ (i : Int) < 60 by omega), pickV_bool, cond_true, oB, ifK_bool, cond_false]
    · rw [decide_eq_false (show ¬ (i : Int) < (l.length : Int) by omega)]
      simp only [gTF, oB, cond_false, pickV_bool, ifK_bool]
theorem rem14 (n : Nat) : qab E0 .rem 5 false true (.int .u8 (n : Int)) (.int .u8 14) = some (.int .u8 ((n % 14 : Nat) : Int)) := by rw [binV_ii, qhp _ _ _ (by decide)]; rfl
theorem ixA2 (x i : Nat) (hi : i < 2) : ixA 2 1 false 1 (.ptr x 0) (.int .i64 (i : Int)) = some (.ptr x i) := by
 show (bif Nat.blt i 2 then some (V.ptr x (0 + i * 1)) else none) = _
 rw [blt_true.2 hi, Nat.zero_add, Nat.mul_one]; rfl
theorem sound_run (ho : S.on = false) {l : List Five} {v0 : V} (hv : ActsV v0 l) (c0 c1 : UInt8) : ∃ U, (ev E0 KD 8).f 5 [v0, u8L [c0, c1]] S = some (.ret (.bool true), U) := by
 obtain ⟨A, a1, a2, a3, a4⟩ := ql6 ho 49 [u8V c0, u8V c1]
 have onA := a3.on.trans ho
 have m14 : c0.toNat % 14 < 14 := Nat.mod_lt _ (by omega)
 have m256 := UInt8.toNat_lt c1
 obtain ⟨B, b1, b2, b3, b4⟩ := qjt onA 26 2 (Tr.ofListFrom .nil [(.int .i64 0), (.int .i64 0)] 0) [.int .i64 ((1 + c0.toNat % 14 : Nat) : Int), .int .i64 (c1.toNat : Int)] rfl (by decide) big2
 have onB := b3.on.trans onA
 obtain ⟨D, b, r, nb, nm, d1, d2, d3, d4, d5, d6, d7⟩ := new_run onB 6 ((1 + c0.toNat % 14 : Nat) : Int) (c1.toNat : Int) (by omega) (by omega)
 have hqD : Bx D A.next 26 [.int .i64 ((1 + c0.toNat % 14 : Nat) : Int), .int .i64 (c1.toNat : Int)] := b2.grew (by omega) (fun h => h) d3
 have hlt : A.next < D.next := Nat.lt_of_lt_of_le (show A.next < B.next by omega) d3.next
 have hqo : ¬ Own b r (qj1 ((1 + c0.toNat % 14 : Nat) : Int) (c1.toNat : Int) nb nm) A.next := fun e => by
  rcases e with e | e | ⟨p, hp, e⟩
  · omega
  · omega
  · have hp' : p = ⟨1, nb, qfb nm⟩ := by simpa [qj1] using hp
    subst hp'
    rcases e with e | e
    · have : A.next = nb := e
      omega
    · have : some nm = some A.next := e
      have := Option.some.inj this
      omega
 obtain ⟨U, u1⟩ := L23_run (b := b) (r := r) 0 qa4 (by unfold qa4; decide) (R5_19 (ev E0 KD 7) qa4 (qdw E0 (ev E0 KD 7) Try.f5) qda) (exB 0 (R5_19 (ev E0 KD 7) qa4 (qdw E0 (ev E0 KD 7) Try.f5) qda) qda) hv (q := A.next) 60 qa4 0 (by omega) (by unfold qa4; omega) d2 (new_ok _ _ (by omega) (by omega) nb nm) (Nat.le_refl _) hqD hlt hqo
 refine ⟨U, rd5 ?_⟩
 show F5 (ev E0 KD 7) qa4 v0 (u8L [c0, c1]) S = _
 rw [F5_eq, show qd7 49 (u8L [c0, c1]) S = _ from a1, oB]
 dsimp only
 rw [show ixA 2 1 false 1 (.ptr S.next 0) (.int .i64 0) = _ from ixA2 S.next 0 (by decide), oB]
 rw [show ld1 (.ptr S.next 0) A = some (u8V c0, A) from Bx6.ld onA a2 big2 rfl, oB]
 dsimp only
 rw [show qab E0 .rem 5 false true (u8V c0) (.int .u8 14) = _ from rem14 c0.toNat, oB, cvI_int, qes (by omega) (by omega), oB]
 dsimp only
 rw [add1 _ (by omega), oB]
 rw [show ixA 2 1 false 1 (.ptr S.next 0) (.int .i64 1) = _ from ixA2 S.next 1 (by decide), oB]
 rw [show ld1 (.ptr S.next 1) A = some (u8V c1, A) from Bx6.ld onA a2 big2 rfl, oB]
 dsimp only
 unfold u8V
 rw [cvI_int, qes (by omega) (by omega), oB]
 dsimp only
 rw [build26, oB]
 first | rw [oB, qdc, b1, oB] | rw [qdc, b1, oB]
 dsimp only
 rw [show Go.Proofs.Ytbihlgcdnhoknaa.Ev.ldA 2 (.ptr A.next 0) B = _ from b2.ldA (n := 2) onB rfl big2, oB]
 dsimp only
 rw [show (ev E0 KD 7).f 7 [qh4 [.int .i64 ((1 + c0.toNat % 14 : Nat) : Int), .int .i64 (c1.toNat : Int)]] B = _ from d1, callP_ret, eq23p, oB, ifK_bool, cond_false]
 rw [show (V.int .i64 0) = .int .i64 ((0 : Nat) : Int) from rfl]
 refine u1.trans ?_
 rw [exB_same, R5_19_eq, works_known, callP_ret]
theorem sound_calls (W : World) {l : List Five} {v0 : V} {cv0 : Value} (hv0 : VRel (frz W) v0 cv0) (h : ActsV v0 l) (c0 c1 : UInt8) {cv1 : Value} (hv1 : VRel (frz W) (u8L [c0, c1]) cv1) : Calls Try.prog 5 #[cv0, cv1] W fun e w' => e = .returned (.bool true) ∧ Below W.heap.size W w' := by
 obtain ⟨U, hl⟩ := sound_run (S := s0) rfl h c0 c1
 refine ((ev_sim E0_ok okD 8).call (base0 W) _ s0 W 5 [v0, u8L [c0, c1]] #[cv0, cv1] _ U (relF W) (.cons hv0 (.cons hv1 .nil)) hl).mono fun ce w' hce => ?_
 obtain ⟨ρ', cv, rfl, _, hv, hR⟩ := hce
 cases hv
 exact ⟨rfl, qlw hR⟩
end
end Go.Proofs.Ytbihlgcdnhoknaa.W
