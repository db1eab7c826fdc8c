/-
  WHAT THE FUNCTIONS COME TO: each is read by the evaluator, printed, and told as a function of data, part 9 of 11 (no condition).
-/
import Derived.Test.YtbihlgcdnhoknaaW8
import Derived.Lib.SmallJoins
namespace Go.Proofs.Ytbihlgcdnhoknaa.W
open Go.Proofs.Ytbihlgcdnhoknaa.Ev Go.RowKit
set_option maxRecDepth 100000
noncomputable def sm1 (self : EV) (x0 x1 x2 x3 x4 x5 x6 : V) (S : St) : Rs :=
(qab E0 .eql 5 false true x6 (.int .u8 0)).bind fun t40 =>
ifK t40 (
ifK t40 (
qaj (self.f 8 [x0, x1, x2, (.int .i64 2), (.int .i64 493), (sv [])] S) fun t45 S45 =>
(qa6 t45 0).bind fun t47 =>
(qa6 t45 1).bind fun t48 =>
some (.ret t48, S45)) (
(qab E0 .eql 5 false true x6 (.int .u8 2)).bind fun t53 =>
ifK t53 (
qaj (self.f 8 [x0, x1, x2, (.int .i64 1), (.int .i64 420), x5] S) fun t59 S59 =>
(qa6 t59 0).bind fun t61 =>
(qa6 t59 1).bind fun t62 =>
some (.ret t62, S59)) (
(qab E0 .eql 5 false true x6 (.int .u8 3)).bind fun t67 =>
ifK t67 (
qaj (self.f 8 [x0, x1, x2, (.int .i64 3), (.int .i64 511), (sv [116, 111])] S) fun t72 S72 =>
(qa6 t72 0).bind fun t74 =>
(qa6 t72 1).bind fun t75 =>
some (.ret t75, S72)) (
(qab E0 .eql 5 false true x6 (.int .u8 4)).bind fun t80 =>
ifK t80 (
qaj (self.f 9 [x0, x1, x2, x3] S) fun t86 S86 =>
some (.ret t86, S86)) (
(qab E0 .eql 5 false true x6 (.int .u8 5)).bind fun t88 =>
ifK t88 (
qaj (self.f 14 [x0, x1, x2] S) fun t93 S93 =>
some (.ret t93, S93)) (
(qab E0 .eql 5 false true x6 (.int .u8 6)).bind fun t95 =>
ifK t95 (
qaj (self.f 19 [x0, x1, x2, x3, x4] S) fun t102 S102 =>
some (.ret t102, S102)) (
qaj (self.f 10 [x0, x3, x5] S) fun t107 S107 =>
some (.ret t107, S107)))))))) (
(qab E0 .eql 5 false true x6 (.int .u8 1)).bind fun t109 =>
ifK t109 (
qaj (self.f 8 [x0, x1, x2, (.int .i64 2), (.int .i64 493), (sv [])] S) fun t114 S114 =>
(qa6 t114 0).bind fun t116 =>
(qa6 t114 1).bind fun t117 =>
some (.ret t117, S114)) (
(qab E0 .eql 5 false true x6 (.int .u8 2)).bind fun t122 =>
ifK t122 (
qaj (self.f 8 [x0, x1, x2, (.int .i64 1), (.int .i64 420), x5] S) fun t128 S128 =>
(qa6 t128 0).bind fun t130 =>
(qa6 t128 1).bind fun t131 =>
some (.ret t131, S128)) (
(qab E0 .eql 5 false true x6 (.int .u8 3)).bind fun t136 =>
ifK t136 (
qaj (self.f 8 [x0, x1, x2, (.int .i64 3), (.int .i64 511), (sv [116, 111])] S) fun t141 S141 =>
(qa6 t141 0).bind fun t143 =>
(qa6 t141 1).bind fun t144 =>
some (.ret t144, S141)) (
(qab E0 .eql 5 false true x6 (.int .u8 4)).bind fun t149 =>
ifK t149 (
qaj (self.f 9 [x0, x1, x2, x3] S) fun t155 S155 =>
some (.ret t155, S155)) (
(qab E0 .eql 5 false true x6 (.int .u8 5)).bind fun t157 =>
ifK t157 (
qaj (self.f 14 [x0, x1, x2] S) fun t162 S162 =>
some (.ret t162, S162)) (
(qab E0 .eql 5 false true x6 (.int .u8 6)).bind fun t164 =>
ifK t164 (
qaj (self.f 19 [x0, x1, x2, x3, x4] S) fun t171 S171 =>
some (.ret t171, S171)) (
qaj (self.f 10 [x0, x3, x5] S) fun t176 S176 =>
some (.ret t176, S176))))))))
theorem F16_cut (self : EV) (N : Nat) (x0 x1 : V) (S : St) : F16 self N x0 x1 S =
(qd7 44 x1 S).bind fun p0 =>
(ixA 5 1 false 1 p0.1 (.int .i64 3)).bind fun t2 =>
(ld1 t2 (onS p0.2)).bind fun p3 =>
(qab E0 .rem 5 false true p3.1 (.int .u8 4)).bind fun t4 =>
(qab E0 .add 5 true false (.int .u8 97) t4).bind fun t5 =>
(bsP 5 1 1 (Go.Proofs.Ytbihlgcdnhoknaa.Ev.one (.int .u8 0)) [(0, t5)] (onS p3.2)).bind fun p6 =>
(qaz E0 22 9 p6.1 (onS p6.2)).bind fun p7 =>
(ixA 5 1 false 1 p0.1 (.int .i64 4)).bind fun t8 =>
(ld1 t8 (onS p7.2)).bind fun p9 =>
(qab E0 .rem 5 false true p9.1 (.int .u8 4)).bind fun t10 =>
(qab E0 .add 5 true false (.int .u8 97) t10).bind fun t11 =>
(bsP 5 1 1 (Go.Proofs.Ytbihlgcdnhoknaa.Ev.one (.int .u8 0)) [(0, t11)] (onS p9.2)).bind fun p12 =>
(qaz E0 22 9 p12.1 (onS p12.2)).bind fun p13 =>
qid [(1, [7, 10, 11]), (4, [7, 10, 11]), (5, [7, 10, 11])] p0.2 [[], p3.2.log, [], [], p6.2.log, p7.2.log, [], p9.2.log, [], [], p12.2.log, p13.2.log, [], []] (onS p13.2) fun S16 =>
(ixA 5 1 false 1 p0.1 (.int .i64 1)).bind fun t17 =>
(ld1 t17 (onS S16)).bind fun p18 =>
(qab E0 .rem 5 false true p18.1 (.int .u8 12)).bind fun t19 =>
(cvI .i64 t19 (onS p18.2)).bind fun p20 =>
(qab E0 .add 3 true false (.int .i64 1) p20.1).bind fun t21 =>
(ixA 5 1 false 1 p0.1 (.int .i64 2)).bind fun t22 =>
(ld1 t22 (onS p20.2)).bind fun p23 =>
(qab E0 .rem 5 false true p23.1 (.int .u8 12)).bind fun t24 =>
(cvI .i64 t24 (onS p23.2)).bind fun p25 =>
(qab E0 .add 3 true false (.int .i64 1) p25.1).bind fun t26 =>
qid [(1, [6, 8]), (3, [6, 8])] S16 [[], p18.2.log, [], p20.2.log, [], [], p23.2.log, [], p25.2.log, [], [], []] (onS p25.2) fun S29 =>
(ixA 5 1 false 1 p0.1 (.int .i64 4)).bind fun t30 =>
(ld1 t30 S29).bind fun p31 =>
(qab E0 .rem 5 false true p31.1 (.int .u8 20)).bind fun t32 =>
(cvI .i64 t32 p31.2).bind fun p33 =>
(qey E0 22 p33.1 p33.1 p33.2).bind fun p34 =>
(qaz E0 22 9 p34.1 p34.2).bind fun p35 =>
(ixA 5 1 false 1 p0.1 (.int .i64 0)).bind fun t37 =>
(ld1 t37 p35.2).bind fun p38 =>
(qab E0 .rem 5 false true p38.1 (.int .u8 8)).bind fun t39 =>
sm1 self x0 t21 p7.1 t26 p13.1 p35.1 t39 p38.2 := F16_eq self N x0 x1 S
theorem rd16 {n : Nat} {args : List V} {s : St} {r : En × St} (e : qc0 E0 (ev E0 KD n) qa4 Try.f16 B16 args s = some r) : (ev E0 KD (n + 1)).f 16 args s = some r := qao (c := C16) (d := B16) (by kernel_rfl) (by kernel_rfl) (qa5 C16 _ (by kernel_rfl)) rfl e
theorem qk1 {a b : List LE} (h : ∀ e ∈ a, ∀ f ∈ b, e.b ≠ f.b ∨ (e.w = false ∧ f.w = false)) : qir a b = false := by
 have c1 : ∀ (e : LE) (l : List LE), (∀ f ∈ l, e.b ≠ f.b ∨ (e.w = false ∧ f.w = false)) → qhh e l = false := fun e l => by
  induction l with
  | nil => intro _; rfl
  | cons f l ih =>
   intro hl
   unfold qhh
   have hm : meet e f = false := by
    rcases hl f (List.mem_cons_self ..) with h1 | ⟨h1, h2⟩
    · exact meet_ne h1
    · unfold meet
      rw [h1, h2]
      cases Nat.beq e.b f.b <;> cases Nat.blt e.lo f.hi <;> cases Nat.blt f.lo e.hi <;> rfl
   rw [hm]
   exact ih fun g hg => hl g (List.mem_cons_of_mem _ hg)
 induction a with
 | nil => rfl
 | cons e a ih =>
  unfold qir
  rw [c1 e b (h e (List.mem_cons_self ..))]
  exact ih fun g hg => h g (List.mem_cons_of_mem _ hg)
section
variable {S U : St}
theorem qnm (ho : S.on = false) {x ty : Nat} {c : UInt8} (h : RowAt S x ty 1 ([c].map qg4)) (l : List LE) : qaz E0 22 9 (.slice x 0 1 1) (S.lg l) = some (sv [c], S.lg (⟨x, 0, 1, false⟩ :: l)) := by
 obtain ⟨cc, h4, h5⟩ := h.row
 have hc : cc.get 0 = some (qg4 c) := h5 0 _ rfl
 unfold qaz
 rw [und22, und9]
 simp only [oB, qd9, Bool.or_self, cond_false, und5, lenV]
 cases hz : qaw (S.lg l) x 0 1 with
 | some q =>
  simp only [qf9]
  obtain ⟨v, s'⟩ := q
  obtain ⟨e', m, ro, t, hb, h1, h2, h3, rfl, rfl⟩ := qju hz
  have hb' : S.heap.get x = some (.cells e' 1 m ro (.all t)) := hb
  rw [h4] at hb'
  simp only [oS, O.cells.injEq] at hb'
  obtain ⟨_, _, _, _, rfl⟩ := hb'
  have h7 : some t = some (qg4 c) := hc
  simp only [oS] at h7
  rw [h7] at h3
  have h8 : (some (V.int .u8 (.ofNat c.toNat))) = some (V.int .u8 (.ofNat 0)) := h3
  simp only [oS, V.int.injEq, true_and] at h8
  have h9 : c.toNat = 0 := by simpa using h8
  have h10 : c = 0 := UInt8.toNat.inj h9
  subst h10; rfl
 | none =>
  simp only [qf9, qb9]
  have hl : ldN x 1 1 0 (S.lg l) = some ([qg4 c], S.lg (⟨x, 0, 1, false⟩ :: l)) := by
   unfold ldN ldK
   rw [show (S.lg l).heap.get x = _ from h4]
   simp only [List.length_map, List.length_cons, List.length_nil, show Nat.ble (0 + 1) (1 * (0 + 1)) = true from rfl, show Nat.blt (1 * (0 + 1)) big = true from blt_true.2 (by unfold big; omega), Bool.and_self, cond_true]
   unfold qf2
   simp only [show Nat.beq 1 1 = true from rfl, show Nat.beq (0 % 1) 0 = true from rfl, Bool.and_self, cond_true, Nat.zero_div, hc, oB]
   unfold ldN
   rfl
  rw [hl]
  simp only [oB]
  rw [show [qg4 c] = [c].map qg4 from rfl, qjo]
  rfl
theorem rem4 (n : Nat) : qab E0 .rem 5 false true (.int .u8 (n : Int)) (.int .u8 4) = some (.int .u8 ((n % 4 : Nat) : Int)) := by rw [binV_ii, qhp _ _ _ (by decide)]; rfl
theorem rem8 (n : Nat) : qab E0 .rem 5 false true (.int .u8 (n : Int)) (.int .u8 8) = some (.int .u8 ((n % 8 : Nat) : Int)) := by rw [binV_ii, qhp _ _ _ (by decide)]; rfl
theorem rem12 (n : Nat) : qab E0 .rem 5 false true (.int .u8 (n : Int)) (.int .u8 12) = some (.int .u8 ((n % 12 : Nat) : Int)) := by rw [binV_ii, qhp _ _ _ (by decide)]; rfl
theorem rem20 (n : Nat) : qab E0 .rem 5 false true (.int .u8 (n : Int)) (.int .u8 20) = some (.int .u8 ((n % 20 : Nat) : Int)) := by rw [binV_ii, qhp _ _ _ (by decide)]; rfl
def ltr (c : UInt8) : UInt8 := UInt8.ofNat (97 + c.toNat % 4)
theorem ltr_nat (c : UInt8) : (ltr c).toNat = 97 + c.toNat % 4 := by
 unfold ltr
 rw [UInt8.toNat_ofNat']
 have : c.toNat % 4 < 4 := Nat.mod_lt _ (by omega)
 omega
theorem ltr_lt (c : UInt8) : Lt [ltr c] := ⟨ltr c, rfl, by rw [ltr_nat]; omega, by rw [ltr_nat]; have : c.toNat % 4 < 4 := Nat.mod_lt _ (by omega); omega⟩
theorem add97 (c : UInt8) : qab E0 .add 5 true false (.int .u8 97) (.int .u8 ((c.toNat % 4 : Nat) : Int)) = some (.int .u8 ((ltr c).toNat : Int)) := by
 have : c.toNat % 4 < 4 := Nat.mod_lt _ (by omega)
 rw [binV_ii, intsV_add, wrap_u8s (by omega) (by omega), ltr_nat]; rfl
theorem add1 (n : Nat) (hn : n < 256) : qab E0 .add 3 true false (.int .i64 1) (.int .i64 (n : Int)) = some (.int .i64 ((1 + n : Nat) : Int)) := by
 rw [addI 3 true false _ _ (by unfold qau; omega) (by unfold qau; omega)]; congr 2
theorem ixA5 (x i : Nat) (hi : i < 5) : ixA 5 1 false 1 (.ptr x 0) (.int .i64 (i : Int)) = some (.ptr x i) := by
 show (bif Nat.blt i 5 then some (V.ptr x (0 + i * 1)) else none) = _
 rw [blt_true.2 hi, Nat.zero_add, Nat.mul_one]; rfl
theorem big5 : 5 < big := by unfold big; decide
theorem zero5 : qfi E0 5 = some (.int .u8 0) := by kernel_rfl
theorem el22 : ∃ k, k < 100 ∧ qc8 E0 22 = some (5, 1, k) := ⟨1, by decide, by kernel_rfl⟩
def qkr (c : UInt8) : Int := ((1 + c.toNat % 12 : Nat) : Int)
def zer (c : UInt8) : List UInt8 := List.replicate (c.toNat % 20) 0
noncomputable def u8L (l : List UInt8) : V := qh4 (l.map u8V)
theorem small_head (ho : S.on = false) (self : EV) (N b : Nat) (c0 c1 c2 c3 c4 : UInt8) : ∃ U, F16 self N (.ptr b 0) (u8L [c0, c1, c2, c3, c4]) S = sm1 self (.ptr b 0) (.int .i64 (qkr c1)) (sv [ltr c3]) (.int .i64 (qkr c2)) (sv [ltr c4]) (sv (zer c4)) (.int .u8 ((c0.toNat % 8 : Nat) : Int)) U ∧ Grew (fun _ => False) S U := by
 obtain ⟨A, a1, a2, a3, a4⟩ := ql6 ho 44 [u8V c0, u8V c1, u8V c2, u8V c3, u8V c4]
 have onA := a3.on.trans ho
 have lA : ∀ (i : Nat) (c : UInt8), [u8V c0, u8V c1, u8V c2, u8V c3, u8V c4][i]? = some (u8V c) → ld1 (.ptr S.next i) (onS A) = some (u8V c, A.lg [⟨S.next, i, i + 1, false⟩]) := fun i c h => Bx6.ldL onA a2 big5 h
 obtain ⟨B, b1, b2, b3, b4⟩ := bsP_ones onA 5 (Go.Proofs.Ytbihlgcdnhoknaa.Ev.one (.int .u8 0)) [.int .u8 ((ltr c3).toNat : Int)] (fun v hv => by rw [List.mem_singleton] at hv; subst hv; exact qb5 .u8 _) (by show 1 < big; exact big1)
 have onB := b3.on.trans onA
 have hbB := a2.grew (by omega) (fun h => h) b3
 have lB : ∀ (i : Nat) (c : UInt8), [u8V c0, u8V c1, u8V c2, u8V c3, u8V c4][i]? = some (u8V c) → ld1 (.ptr S.next i) (onS B) = some (u8V c, B.lg [⟨S.next, i, i + 1, false⟩]) := fun i c h => Bx6.ldL onB hbB big5 h
 have rB : RowAt B A.next 5 1 ([ltr c3].map qg4) := b2
 obtain ⟨C, d1, d2, d3, d4⟩ := bsP_ones onB 5 (Go.Proofs.Ytbihlgcdnhoknaa.Ev.one (.int .u8 0)) [.int .u8 ((ltr c4).toNat : Int)] (fun v hv => by rw [List.mem_singleton] at hv; subst hv; exact qb5 .u8 _) (by show 1 < big; exact big1)
 have onC := d3.on.trans onB
 have rC : RowAt C B.next 5 1 ([ltr c4].map qg4) := d2
 have gAC := b3.trans d3
 have gat := qcm gAC onA
 have onD : (atS C A).on = false := rfl
 have hbD := a2.grew (by omega) (fun h => h) gat
 have hnD : (atS C A).next = C.next := rfl
 generalize hD : atS C A = D at gat onD hbD hnD
 have lD : ∀ (i : Nat) (c : UInt8), [u8V c0, u8V c1, u8V c2, u8V c3, u8V c4][i]? = some (u8V c) → ld1 (.ptr S.next i) (onS D) = some (u8V c, D.lg [⟨S.next, i, i + 1, false⟩]) := fun i c h => Bx6.ldL onD hbD big5 h
 have l0 : ∀ (i : Nat) (c : UInt8), [u8V c0, u8V c1, u8V c2, u8V c3, u8V c4][i]? = some (u8V c) → ld1 (.ptr S.next i) D = some (u8V c, D) := fun i c h => Bx6.ld onD hbD big5 h
 obtain ⟨kb, hkb, hel⟩ := el22
 obtain ⟨E, e1, e2, e3, e4⟩ := makeBytes (E := E0) onD hel zero5 (n := c4.toNat % 20) (by
  have : c4.toNat % 20 < 20 := Nat.mod_lt _ (by omega)
  calc c4.toNat % 20 * (kb + 1 + 1) ≤ 20 * 102 := Nat.mul_le_mul (by omega) (by omega)
   _ < qal := by unfold qal; decide)
 have onE := e3.on.trans onD
 have hbE := hbD.grew (by omega) (fun h => h) e3
 have lE : ∀ (i : Nat) (c : UInt8), [u8V c0, u8V c1, u8V c2, u8V c3, u8V c4][i]? = some (u8V c) → ld1 (.ptr S.next i) E = some (u8V c, E) := fun i c h => Bx6.ld onE hbE big5 h
 have m12 : ∀ c : UInt8, c.toNat % 12 < 256 := fun c => by have : c.toNat % 12 < 12 := Nat.mod_lt _ (by omega); omega
 have m20 : c4.toNat % 20 < 256 := by have : c4.toNat % 20 < 20 := Nat.mod_lt _ (by omega); omega
 refine ⟨E, ?_, (a3.trans gat).trans e3⟩
 rw [F16_cut, show qd7 44 (u8L [c0, c1, c2, c3, c4]) S = _ from a1, oB]
 dsimp only
 rw [show ixA 5 1 false 1 (.ptr S.next 0) (.int .i64 3) = _ from ixA5 S.next 3 (by decide), oB, lA 3 c3 rfl, oB]
 dsimp only
 rw [show qab E0 .rem 5 false true (u8V c3) (.int .u8 4) = _ from rem4 c3.toNat, oB, add97, oB, qa1]
 rw [show bsP 5 1 1 (Go.Proofs.Ytbihlgcdnhoknaa.Ev.one (.int .u8 0)) [(0, .int .u8 ((ltr c3).toNat : Int))] (onS A) = some (.slice A.next 0 1 1, B.lg [⟨A.next, 0, big, true⟩]) from b1 (some []), oB]
 dsimp only
 rw [qa1, show qaz E0 22 9 (.slice A.next 0 1 1) (onS B) = _ from qnm onB rB [], oB]
 dsimp only
 rw [show ixA 5 1 false 1 (.ptr S.next 0) (.int .i64 4) = _ from ixA5 S.next 4 (by decide), oB, qa1, lB 4 c4 rfl, oB]
 dsimp only
 rw [show qab E0 .rem 5 false true (u8V c4) (.int .u8 4) = _ from rem4 c4.toNat, oB, add97, oB, qa1]
 rw [show bsP 5 1 1 (Go.Proofs.Ytbihlgcdnhoknaa.Ev.one (.int .u8 0)) [(0, .int .u8 ((ltr c4).toNat : Int))] (onS B) = some (.slice B.next 0 1 1, C.lg [⟨B.next, 0, big, true⟩]) from d1 (some []), oB]
 dsimp only
 rw [qa1, show qaz E0 22 9 (.slice B.next 0 1 1) (onS C) = _ from qnm onC rC [], oB]
 dsimp only
 rw [qa1, qlb (qik fun p hp j hj => qk1 ?_)]
 rotate_left
 · have h1 : S.next < A.next := by omega
   have h2 : A.next < B.next := by omega
   simp only [List.mem_cons, List.not_mem_nil, or_false] at hp
   rcases hp with rfl | rfl | rfl
   all_goals
    simp only [List.mem_cons, List.not_mem_nil, or_false] at hj
    rcases hj with rfl | rfl | rfl
    all_goals
     intro e he f hf
     have he' := List.mem_singleton.1 he
     have hf' := List.mem_singleton.1 hf
     subst he' hf'
     first
      | exact .inr ⟨rfl, rfl⟩
      | exact .inl (by show S.next ≠ B.next; omega)
      | exact .inl (by show A.next ≠ S.next; omega)
      | exact .inl (by show A.next ≠ B.next; omega)
 rw [qdq onA, hD]
 rw [show ixA 5 1 false 1 (.ptr S.next 0) (.int .i64 1) = _ from ixA5 S.next 1 (by decide), oB, lD 1 c1 rfl, oB]
 dsimp only
 rw [show qab E0 .rem 5 false true (u8V c1) (.int .u8 12) = _ from rem12 c1.toNat, oB, qa1, cvI_int, qes (by have := m12 c1; omega) (by have := m12 c1; omega), oB]
 dsimp only
 rw [add1 _ (m12 c1), oB]
 rw [show ixA 5 1 false 1 (.ptr S.next 0) (.int .i64 2) = _ from ixA5 S.next 2 (by decide), oB, qe4, lD 2 c2 rfl, oB]
 dsimp only
 rw [show qab E0 .rem 5 false true (u8V c2) (.int .u8 12) = _ from rem12 c2.toNat, oB, qa1, cvI_int, qes (by have := m12 c2; omega) (by have := m12 c2; omega), oB]
 dsimp only
 rw [add1 _ (m12 c2), oB, qe4, qc6 (by rfl), qcq onD]
 rw [oB, l0 4 c4 rfl, oB]
 dsimp only
 rw [show qab E0 .rem 5 false true (u8V c4) (.int .u8 20) = _ from rem20 c4.toNat, oB, cvI_int, qes (by omega) (by omega), oB]
 dsimp only
 rw [e1, oB]
 dsimp only
 rw [convert_row onE und22 und5 und9 e2 (by simp), oB]
 dsimp only
 rw [show ((List.drop 0 (List.replicate (c4.toNat % 20) (0 : UInt8))).take (c4.toNat % 20)) = zer c4 from by unfold zer; rw [List.drop_zero, List.take_of_length_le (by simp)]]
 rw [show ixA 5 1 false 1 (.ptr S.next 0) (.int .i64 0) = _ from ixA5 S.next 0 (by decide), oB, lE 0 c0 rfl, oB]
 dsimp only
 rw [show qab E0 .rem 5 false true (u8V c0) (.int .u8 8) = _ from rem8 c0.toNat, oB]
 rfl
end
structure After (S U : St) (b r : Nat) (T T' : Tab) (k : Nat) (e : Int) : Prop where
 tab : TabAt U b r T'
 ok : Ok T' (k + 1)
 gr : Grew (Own b r T) S U
 q : T'.qi = T.qi ∧ T'.qb = T.qb
 err : e ≠ 0 → T' = T
 own : ∀ x, Own b r T' x → Own b r T x ∨ S.next ≤ x
section
variable {S U : St} {b r : Nat} {T : Tab} {k : Nat}
theorem After.none (h : TabAt U b r T) (ok : Ok T k) (g : Grew (Own b r T) S U) {e : Int} : After S U b r T T k e := ⟨h, ok.mono, g, ⟨rfl, rfl⟩, fun _ => rfl, fun _ h => .inl h⟩
theorem lt_len {a : List UInt8} (h : Lt a) : a.length < 9223372036854775808 := by
 obtain ⟨c, rfl, _⟩ := h
 simp
theorem eRoom_zero {T : Tab} {n k : Int} (h : qmg T n k = 0) : T.ui + n ≤ T.qi ∧ T.ub + k ≤ T.qb := by
 unfold qmg at h
 split at h
 · assumption
 · cases h
theorem eFile_zero {T : Tab} {i : Int} (h : eFile T i = 0) : ∃ q, T.get i = some q ∧ q.ino.kind = 1 := by
 unfold eFile at h
 cases hg : T.get i with
 | none => rw [hg] at h; cases h
 | some q =>
  rw [hg] at h
  dsimp only at h
  refine ⟨q, rfl, ?_⟩
  by_cases h2 : q.ino.kind = 2
  · rw [if_pos h2] at h; cases h
  · rw [if_neg h2] at h
    by_cases h1 : q.ino.kind = 1
    · exact h1
    · rw [if_neg h1] at h; cases h
theorem Ok.new (ok : Ok T k) : T.get (T.last + 1) = none := by
 cases hg : T.get (T.last + 1) with
 | none => rfl
 | some q =>
  have := (ok.sd.lo _ q hg).2
  omega
theorem own_made {p : Nod} {d : Int} {kv : List (List UInt8 × Int)} {n : Int} {l : Int} {x : Nat} (h : Own b r (qdt { T with last := l } p d kv n) x) : Own b r T x ∨ x = p.box ∨ p.ino.map = some x := by
 rcases h with h | h | ⟨q, hq, hx⟩
 · exact .inl (.inl h)
 · exact .inl (.inr (.inl h))
 · obtain ⟨q0, hq0, rfl⟩ := updN_mem.1 (show q ∈ qbs d (qb2 kv) (T.nodes ++ [p]) from hq)
   have hx' : x = q0.box ∨ q0.ino.map = some x := by
    by_cases e : q0.no = d
    · rw [if_pos e] at hx; exact hx
    · rw [if_neg e] at hx; exact hx
   rcases List.mem_append.1 hq0 with hq0 | hq0
   · exact .inl (.inr (.inr ⟨q0, hq0, hx'⟩))
   · rw [List.mem_singleton] at hq0
     subst hq0
     exact .inr hx'
theorem qmm (h : TabAt S b r T) (ok : Ok T k) (hk : k ≤ 99) (m : Nat) (d : Int) {a : List UInt8} (ha : Lt a) (kind mode : Int) (data : List UInt8) (hd : data.length ≤ 19) :
 ∃ U T' n e, (ev E0 KD (m + 6)).f 8 [.ptr b 0, .int .i64 d, sv a, .int .i64 kind, .int .i64 mode, sv data] S = some (.ret (.tuple [.int .i64 n, .int .i64 e]), U) ∧ After S U b r T T' k e := by
 have hF := ok.fits (by omega)
 have hl : -qau < T.last ∧ T.last < qau := by
  have := ok.lst
  unfold qau; omega
 by_cases he : eMake T d a kind mode data = 0
 · have z := qev he
   have z1 := z (qmf T d) (by simp)
   have z2 := z (eLike kind mode data) (by simp)
   have z3 := z (eFree T d a) (by simp)
   have z4 := z (qmg T 1 data.length) (by simp)
   obtain ⟨q, hq, hqk⟩ := qhj z1
   obtain ⟨mq, hm⟩ := qno ok.sd hq hqk
   obtain ⟨r1, r2⟩ := eRoom_zero z4
   have hfree := qla z3 hq
   have hlk : likes kind data = true := by
    cases hx : likes kind data with
    | true => rfl
    | false => unfold eLike at z2; rw [hx] at z2; cases z2
   have hkn : kind = 1 ∨ kind = 2 ∨ kind = 3 := by
    unfold likes at hlk
    by_cases h1 : kind = 1
    · exact .inl h1
    · rw [if_neg h1] at hlk
      by_cases h2 : kind = 2
      · exact .inr (.inl h2)
      · rw [if_neg h2] at hlk
        by_cases h3 : kind = 3
        · exact .inr (.inr h3)
        · rw [if_neg h3] at hlk; cases hlk
   by_cases hk2 : kind = 2
   · subst hk2
     have hdata : data = [] := by
      unfold likes at hlk
      rw [if_neg (by decide), if_pos rfl] at hlk
      simpa using hlk
     obtain ⟨U, nb, nm, u1, u2, u3, u4, u5⟩ := make_dir h hF m d a mode data (lt_len ha) (by omega) he hq hm ok.new hl
     refine ⟨U, _, _, _, u1, u2, ?_, u3, ⟨rfl, rfl⟩, fun e => absurd rfl e, fun x hx => ?_⟩
     · exact ok.made (p := ⟨T.last + 1, nb, qm3 2 mode data d (some nm)⟩) rfl hq hqk ha hfree rfl rfl (fun _ => ⟨rfl, rfl⟩) (fun e => absurd rfl e) hd (fun _ => hdata) (.inr (.inl rfl)) r1 r2
     · rcases own_made hx with hx | hx | hx
       · exact .inl hx
       · right; rw [hx]; exact u4
       · right
         have : some nm = some x := hx
         cases this
         exact u5
   · obtain ⟨U, nb, u1, u2, u3, u4⟩ := make_file h hF m d a kind mode data (lt_len ha) (by omega) he hq hm ok.new hl hk2
     refine ⟨U, _, _, _, u1, u2, ?_, u3, ⟨rfl, rfl⟩, fun e => absurd rfl e, fun x hx => ?_⟩
     · exact ok.made (p := ⟨T.last + 1, nb, qm3 kind mode data 0 none⟩) rfl hq hqk ha hfree rfl rfl (fun e => absurd e hk2) (fun _ => rfl) hd (fun e => absurd e hk2) hkn r1 r2
     · rcases own_made hx with hx | hx | hx
       · exact .inl hx
       · right; rw [hx]; exact u4
       · cases hx
 · obtain ⟨U, u1, u2, u3⟩ := make_err h hF m d a kind mode data (lt_len ha) (by omega) he
   exact ⟨U, T, _, _, u1, .none u2 ok (u3.mono fun _ _ h => h.elim)⟩
theorem act_link (h : TabAt S b r T) (ok : Ok T k) (hk : k ≤ 99) (m : Nat) (d i : Int) {a : List UInt8} (ha : Lt a) :
 ∃ U T' e, (ev E0 KD (m + 5)).f 9 [.ptr b 0, .int .i64 d, sv a, .int .i64 i] S = some (.ret (.int .i64 e), U) ∧ After S U b r T T' k e := by
 by_cases he : eLink T d a i = 0
 · have z := qev he
   have z1 := z (qmf T d) (by simp)
   have z2 := z (eFile T i) (by simp)
   have z3 := z (eFree T d a) (by simp)
   obtain ⟨p, hp, hpk⟩ := qhj z1
   obtain ⟨mp, hm⟩ := qno ok.sd hp hpk
   obtain ⟨q, hq, hqk⟩ := eFile_zero z2
   have hdi : d ≠ i := fun e => by
    subst e
    rw [hp] at hq; cases hq
    omega
   have hn := ok.nd i q hq
   obtain ⟨U, u1, u2, u3⟩ := link_ok h m d i a (lt_len ha) he hp hm hq hdi (by have := hn.l0; have := hn.l1; unfold qau; omega)
   exact ⟨U, _, _, u1, u2, ok.link hp hpk hq hqk ha (qla z3 hp), u3, ⟨rfl, rfl⟩, fun e => absurd rfl e, fun x hx => .inl (qg0 (i := d) (f := qb2 (qat a i p.ino.ents)) (fun _ => rfl) (qg0 (i := i) (f := addL 1) (fun _ => rfl) hx))⟩
 · obtain ⟨U, u1, u2, u3⟩ := link_err h m d i a (lt_len ha) he
   exact ⟨U, T, _, u1, .none u2 ok u3⟩
theorem act_unlink (h : TabAt S b r T) (ok : Ok T k) (hk : k ≤ 99) (m : Nat) (d : Int) (a : List UInt8) :
 ∃ U T' e, (ev E0 KD (m + 5)).f 14 [.ptr b 0, .int .i64 d, sv a] S = some (.ret (.int .i64 e), U) ∧ After S U b r T T' k e := by
 by_cases he : qfw T d a = 0
 · have he' := he
   unfold qfw at he'
   by_cases hd : qmf T d = 0
   · rw [if_pos hd] at he'
     obtain ⟨p, hp, hpk⟩ := qhj hd
     obtain ⟨mp, hm⟩ := qno ok.sd hp hpk
     cases hf : T.find d a with
     | none => rw [hf] at he'; cases he'
     | some i =>
      have hl : lkS a p.ino.ents = some i := by
       unfold Tab.find at hf
       rw [hp] at hf; exact hf
      obtain ⟨hi1, q, hq, _⟩ := ok.sd.ent d p hp _ (qjh hl)
      rw [hf] at he'
      dsimp only at he'
      rw [hq] at he'
      dsimp only at he'
      have hqe : q.ino.ents = [] := by
       by_cases hx : q.ino.ents = []
       · exact hx
       · rw [if_neg hx] at he'; cases he'
      have hn := ok.nd i q hq
      by_cases h1 : q.ino.links = 1
      · obtain ⟨U, u1, u2, u3⟩ := unlink_last h m d a hd hp hm hl hq hqe h1 (ok.fits (by omega)) (by have := hn.dat; omega)
        refine ⟨U, _, _, u1, u2, ok.last hp hq hqe hl h1, u3, ⟨rfl, rfl⟩, fun e => absurd rfl e, fun x hx => .inl ?_⟩
        exact qg0 (i := d) (f := qb2 (qa7 a p.ino.ents)) (fun _ => rfl) (qg0 (i := i) (f := addL (-1)) (fun _ => rfl) (own_del (i := i) hx))
      · obtain ⟨U, u1, u2, u3⟩ := unlink_more h m d a hd hp hm hl hq hqe (by have := hn.l0; have := hn.l1; unfold qau; omega) h1
        exact ⟨U, _, _, u1, u2, ok.less hp hq hqe hl h1, u3, ⟨rfl, rfl⟩, fun e => absurd rfl e, fun x hx => .inl (qg0 (i := d) (f := qb2 (qa7 a p.ino.ents)) (fun _ => rfl) (qg0 (i := i) (f := addL (-1)) (fun _ => rfl) hx))⟩
   · rw [if_neg hd] at he'
     exact absurd he' hd
 · obtain ⟨U, u1, u2, u3⟩ := unlink_err h ok.sd (fun i p hp => by have := (ok.nd i p hp).len; omega) m d a he
   exact ⟨U, T, _, u1, .none u2 ok (u3.mono fun _ _ h => h.elim)⟩
theorem pow_rounds {k : Nat} (hk : k ≤ 63) : 2 ^ k - 1 < qa4 := by
 have h1 : 2 ^ k ≤ 2 ^ 63 := Nat.pow_le_pow_right (by decide) hk
 have h2 : qa4 = 18446744073709551616 := by unfold qa4; decide
 have h3 : (2 : Nat) ^ 63 = 9223372036854775808 := by decide
 omega
theorem Moves.own {T' : Tab} {f t : Int} {a c : List UInt8} (h : Moves T f a t c T') {x : Nat} (hx : Own b r T' x) : Own b r T x := by
 cases h with
 | same _ _ => exact hx
 | @go i p pt q h1 h2 h3 h4 h5 h6 h7 h8 =>
  unfold qko at hx
  have two : Own b r ((T.upd f (qb2 (qa7 a p.ino.ents))).upd t (qb2 (qat c i pt.ino.ents))) x → Own b r T x := fun hx => qg0 (i := f) (f := qb2 (qa7 a p.ino.ents)) (fun _ => rfl) (qg0 (i := t) (f := qb2 (qat c i pt.ino.ents)) (fun _ => rfl) hx)
  split at hx
  · exact two (qg0 (i := i) (f := setU t) (fun _ => rfl) hx)
  · exact two hx
theorem Moves.q {T' : Tab} {f t : Int} {a c : List UInt8} (h : Moves T f a t c T') : T'.qi = T.qi ∧ T'.qb = T.qb ∧ T'.ui = T.ui ∧ T'.ub = T.ub ∧ T'.last = T.last := by
 cases h with
 | same _ _ => exact ⟨rfl, rfl, rfl, rfl, rfl⟩
 | @go i p pt q h1 h2 h3 h4 h5 h6 h7 h8 =>
  unfold qko
  split <;> exact ⟨rfl, rfl, rfl, rfl, rfl⟩
theorem act_move (h : TabAt S b r T) (ok : Ok T k) (hk : k ≤ 63) (m : Nat) (f t : Int) (a : List UInt8) {c : List UInt8} (hc : Lt c) :
 ∃ U T' e, (ev E0 KD (m + 5)).f 19 [.ptr b 0, .int .i64 f, sv a, .int .i64 t, sv c] S = some (.ret (.int .i64 e), U) ∧ After S U b r T T' k e := by
 obtain ⟨U, u1, u2, T', u3, u4, u5⟩ := move_run h ok.sd (pow_rounds hk) m f t a c (lt_len hc)
 by_cases he : eMv T f a t c = 0
 · have hm := u5 he
   exact ⟨U, T', _, u1, u3, ok.moves hm hc, u2, ⟨hm.q.1, hm.q.2.1⟩, fun e => absurd he e, fun x hx => .inl (hm.own hx)⟩
 · rw [u4 he] at u3
   exact ⟨U, T, _, u1, .none u3 ok u2⟩
theorem act_write (h : TabAt S b r T) (ok : Ok T k) (hk : k ≤ 99) (m : Nat) (i : Int) (data : List UInt8) (hd : data.length ≤ 19) :
 ∃ U T' e, (ev E0 KD (m + 5)).f 10 [.ptr b 0, .int .i64 i, sv data] S = some (.ret (.int .i64 e), U) ∧ After S U b r T T' k e := by
 have hF := ok.fits (by omega)
 by_cases he : qhk T i data = 0
 · have he' := he
   unfold qhk at he'
   cases hp : T.get i with
   | none => rw [hp] at he'; cases he'
   | some p =>
    rw [hp] at he'
    have z := qev he'
    have z1 := z (eFile T i) (by simp)
    have z2 := z (qmg T 0 ((data.length : Int) - (p.ino.data.length : Int))) (by simp)
    obtain ⟨q, hq, hqk⟩ := eFile_zero z1
    rw [hp] at hq; cases hq
    obtain ⟨r1, r2⟩ := eRoom_zero z2
    have hn := ok.nd i p hp
    obtain ⟨U, u1, u2, u3⟩ := write_ok h hF m i data hp (by omega) (by have := hn.dat; omega) (by have := ok.ub; omega) he
    exact ⟨U, _, _, u1, u2, ok.write hp hqk hd r2, u3, ⟨rfl, rfl⟩, fun e => absurd rfl e, fun x hx => .inl (qg0 (T := T) (i := i) (f := fun n => { n with data := data }) (fun _ => rfl) hx)⟩
 · obtain ⟨U, u1, u2, u3⟩ := write_err h hF m i data (by omega) (fun p hp => by have := (ok.nd i p hp).dat; omega) he
   exact ⟨U, T, _, u1, .none u2 ok (u3.mono fun _ _ h => h.elim)⟩
theorem After.pre {A : St} {T' : Tab} {e : Int} (h : After A U b r T T' k e) (g : Grew (fun _ => False) S A) : After S U b r T T' k e :=
 ⟨h.tab, h.ok, (g.mono fun _ _ h => h.elim).trans h.gr, h.q, h.err, fun x hx => (h.own x hx).imp id fun hx => Nat.le_trans g.next hx⟩
theorem eqU8 (x : Nat) (y : Int) : qab E0 .eql 5 false true (.int .u8 (x : Int)) (.int .u8 y) = some (.bool (decide ((x : Int) = y))) := qhl ..
theorem small_run (h : TabAt S b r T) (ok : Ok T k) (hk : k ≤ 63) (m : Nat) (c0 c1 c2 c3 c4 : UInt8) :
 ∃ U T' e, (ev E0 KD (m + 7)).f 16 [.ptr b 0, u8L [c0, c1, c2, c3, c4]] S = some (.ret (.int .i64 e), U) ∧ After S U b r T T' k e := by
 obtain ⟨A, a1, a2⟩ := small_head h.on (ev E0 KD (m + 6)) qa4 b c0 c1 c2 c3 c4
 have hA := h.grewF a2
 have fin : ∀ {U T' e}, sm1 (ev E0 KD (m + 6)) (.ptr b 0) (.int .i64 (qkr c1)) (sv [ltr c3]) (.int .i64 (qkr c2)) (sv [ltr c4]) (sv (zer c4)) (.int .u8 ((c0.toNat % 8 : Nat) : Int)) A = some (.ret (.int .i64 e), U) → After A U b r T T' k e →
  ∃ U T' e, (ev E0 KD (m + 7)).f 16 [.ptr b 0, u8L [c0, c1, c2, c3, c4]] S = some (.ret (.int .i64 e), U) ∧ After S U b r T T' k e := fun {U T' e} q1 q2 => ⟨U, T', e, rd16 (a1.trans q1), q2.pre a2⟩
 have hz : (zer c4).length ≤ 19 := by
  have : c4.toNat % 20 < 20 := Nat.mod_lt _ (by omega)
  unfold zer
  rw [List.length_replicate]; omega
 clear a1
 have h8 : c0.toNat % 8 < 8 := Nat.mod_lt _ (by omega)
 generalize c0.toNat % 8 = w at fin h8
 unfold sm1 at fin
 rcases (by omega : w = 0 ∨ w = 1 ∨ w = 2 ∨ w = 3 ∨ w = 4 ∨ w = 5 ∨ w = 6 ∨ w = 7) with rfl | rfl | rfl | rfl | rfl | rfl | rfl | rfl
 · obtain ⟨U, T', n, e, u1, u2⟩ := qmm hA ok (by omega) m (qkr c1) (ltr_lt c3) 2 493 [] (by simp)
   refine fin ?_ u2
   simp only [eqU8, oB, ifK_bool, show decide (((0 : Nat) : Int) = 0) = true from rfl, cond_true]
   rw [u1, callP_ret, qk8, oB, qk9, oB]
 · obtain ⟨U, T', n, e, u1, u2⟩ := qmm hA ok (by omega) m (qkr c1) (ltr_lt c3) 2 493 [] (by simp)
   refine fin ?_ u2
   simp only [eqU8, oB, ifK_bool, show decide (((1 : Nat) : Int) = 0) = false from rfl, show decide (((1 : Nat) : Int) = 1) = true from rfl, cond_true, cond_false]
   rw [u1, callP_ret, qk8, oB, qk9, oB]
 · obtain ⟨U, T', n, e, u1, u2⟩ := qmm hA ok (by omega) m (qkr c1) (ltr_lt c3) 1 420 (zer c4) hz
   refine fin ?_ u2
   simp only [eqU8, oB, ifK_bool, show decide (((2 : Nat) : Int) = 0) = false from rfl, show decide (((2 : Nat) : Int) = 1) = false from rfl, show decide (((2 : Nat) : Int) = 2) = true from rfl, cond_true, cond_false]
   rw [u1, callP_ret, qk8, oB, qk9, oB]
 · obtain ⟨U, T', n, e, u1, u2⟩ := qmm hA ok (by omega) m (qkr c1) (ltr_lt c3) 3 511 [116, 111] (by simp)
   refine fin ?_ u2
   simp only [eqU8, oB, ifK_bool, show decide (((3 : Nat) : Int) = 0) = false from rfl, show decide (((3 : Nat) : Int) = 1) = false from rfl, show decide (((3 : Nat) : Int) = 2) = false from rfl, show decide (((3 : Nat) : Int) = 3) = true from rfl, cond_true, cond_false]
   rw [u1, callP_ret, qk8, oB, qk9, oB]
 · obtain ⟨U, T', e, u1, u2⟩ := act_link hA ok (by omega) (m + 1) (qkr c1) (qkr c2) (ltr_lt c3)
   refine fin ?_ u2
   simp only [eqU8, oB, ifK_bool, show decide (((4 : Nat) : Int) = 0) = false from rfl, show decide (((4 : Nat) : Int) = 1) = false from rfl, show decide (((4 : Nat) : Int) = 2) = false from rfl, show decide (((4 : Nat) : Int) = 3) = false from rfl, show decide (((4 : Nat) : Int) = 4) = true from rfl, cond_true, cond_false]
   rw [show ev E0 KD (m + 6) = ev E0 KD (m + 1 + 5) from rfl, u1, callP_ret]
 · obtain ⟨U, T', e, u1, u2⟩ := act_unlink hA ok (by omega) (m + 1) (qkr c1) [ltr c3]
   refine fin ?_ u2
   simp only [eqU8, oB, ifK_bool, show decide (((5 : Nat) : Int) = 0) = false from rfl, show decide (((5 : Nat) : Int) = 1) = false from rfl, show decide (((5 : Nat) : Int) = 2) = false from rfl, show decide (((5 : Nat) : Int) = 3) = false from rfl, show decide (((5 : Nat) : Int) = 4) = false from rfl, show decide (((5 : Nat) : Int) = 5) = true from rfl, cond_true, cond_false]
   rw [show ev E0 KD (m + 6) = ev E0 KD (m + 1 + 5) from rfl, u1, callP_ret]
 · obtain ⟨U, T', e, u1, u2⟩ := act_move hA ok hk (m + 1) (qkr c1) (qkr c2) [ltr c3] (ltr_lt c4)
   refine fin ?_ u2
   simp only [eqU8, oB, ifK_bool, show decide (((6 : Nat) : Int) = 0) = false from rfl, show decide (((6 : Nat) : Int) = 1) = false from rfl, show decide (((6 : Nat) : Int) = 2) = false from rfl, show decide (((6 : Nat) : Int) = 3) = false from rfl, show decide (((6 : Nat) : Int) = 4) = false from rfl, show decide (((6 : Nat) : Int) = 5) = false from rfl, show decide (((6 : Nat) : Int) = 6) = true from rfl, cond_true, cond_false]
   rw [show ev E0 KD (m + 6) = ev E0 KD (m + 1 + 5) from rfl, u1, callP_ret]
 · obtain ⟨U, T', e, u1, u2⟩ := act_write hA ok (by omega) (m + 1) (qkr c2) (zer c4) hz
   refine fin ?_ u2
   simp only [eqU8, oB, ifK_bool, show decide (((7 : Nat) : Int) = 0) = false from rfl, show decide (((7 : Nat) : Int) = 1) = false from rfl, show decide (((7 : Nat) : Int) = 2) = false from rfl, show decide (((7 : Nat) : Int) = 3) = false from rfl, show decide (((7 : Nat) : Int) = 4) = false from rfl, show decide (((7 : Nat) : Int) = 5) = false from rfl, show decide (((7 : Nat) : Int) = 6) = false from rfl, cond_false]
   rw [show ev E0 KD (m + 6) = ev E0 KD (m + 1 + 5) from rfl, u1, callP_ret]
theorem new_ok (qi qb : Int) (h1 : 1 ≤ qi) (h2 : 0 ≤ qb) (nb nm : Nat) : Ok (qj1 qi qb nb nm) 0 := by
 have hg : ∀ i p, (qj1 qi qb nb nm).get i = some p → i = 1 ∧ p = ⟨1, nb, qfb nm⟩ := fun i p hp => by
  have hp' : (if i = 1 then some (⟨1, nb, qfb nm⟩ : Nod) else none) = some p := hp
  by_cases hi : i = 1
  · rw [if_pos hi] at hp'
    exact ⟨hi, (Option.some.inj hp').symm⟩
  · rw [if_neg hi] at hp'; cases hp'
 refine ⟨⟨by show ([1] : List Int).Nodup; decide, ⟨_, rfl, rfl, rfl⟩, fun i p hp => ?_, fun i p hp _ => ?_, fun i p hp hk => ?_, fun i p hp e he => ?_, fun i p hp => ?_, fun i p hp h1 => ?_, fun i p hp _ h1 => ?_, fun i p hp _ => ?_⟩, fun i p hp => ?_, ⟨by show (1 : Int) ≤ 1; omega, by show (1 : Int) ≤ 1 + 0; omega⟩, rfl, rfl, by show 1 ≤ 1 + 0; omega, h1, h2⟩
 all_goals obtain ⟨rfl, rfl⟩ := hg i p hp
 · show (1 : Int) ≤ 1 ∧ (1 : Int) ≤ 1; omega
 · rfl
 · exact absurd rfl hk
 · cases he
 · exact List.nodup_nil
 · exact absurd rfl h1
 · exact absurd rfl h1
 · exact ⟨0, Nat.le_refl _, .root⟩
 · exact ⟨by show (0 : Int) ≤ 1; omega, by show (1 : Int) ≤ 1 + 0; omega, fun h => absurd rfl h, fun e he => (by cases he), Nat.le_refl _, Nat.zero_le _, fun _ => rfl, .inr (.inl rfl), fun h => (by cases h)⟩
end
abbrev Ents := List (List UInt8 × Int)
def fresh : List UInt8 := [102, 114, 101, 115, 104]
def other : List UInt8 := [111, 116, 104, 101, 114]
def Dir (T : Tab) (d : Int) (E : Ents) : Prop := ∃ p, T.get d = some p ∧ p.ino.kind = 2 ∧ p.ino.ents = E
theorem Dir.uniq {T : Tab} {d : Int} {E E' : Ents} (h : Dir T d E) (h' : Dir T d E') : E = E' := by
 obtain ⟨p, h1, _, h2⟩ := h
 obtain ⟨p', k1, _, k2⟩ := h'
 rw [h1] at k1; cases k1
 rw [← h2, k2]
section
variable {T : Tab} {B : Nat}
end
section
variable {F : Fz.Fz}
theorem kfSorted_fz (kfs : List FuncId) (et : TypeId) (args : List V) : Fz.LocP F fun s => (qcw kfs et).run args s := by
 unfold qcw
 dsimp only
 split
 · refine Fz.Loc.cond ?_ Fz.Loc.none
   refine Fz.Loc.bind (Fz.loc_ld _ _) fun m => ?_
   unfold qg2
   cases m <;> try exact Fz.Loc.none
   case nilmap => exact Fz.LocP.ret _
   case map r =>
    refine Fz.Loc.bindGet r (fun _ _ _ _ _ _ => rfl) fun hb o => ?_
    cases o <;> try exact Fz.Loc.none
    refine Fz.Loc.opt fun l => ?_
    cases l with
    | nil => exact Fz.LocP.ret _
    | cons x l => exact Fz.LocP.nw (fun k => En.ret (V.oslice k 0 (l.length + 1) 1)) fun _ => _
 · exact Fz.Loc.none
theorem fzD : Fz.KnLoc F KD := (((((Fz.knLoc_nil).add 38 fun _ => kfSorted_fz _ _ _).add 15 fun _ => Fz.specKF_fz _).add 24 fun _ => Fz.specKF_fz _).add 82 fun _ => Fz.specKF_fz _).add 59 fun _ => Fz.specKF_fz _
end
section
variable {S U : St} {b r : Nat} {T : Tab}
noncomputable def icy (S : St) (b e z n : Nat) (c : Tr (Tr V)) : St := S.put b (.cells e z n true c)
theorem icy_same {b e z n : Nat} {c : Tr (Tr V)} (h : S.heap.get b = some (.cells e z n false c)) (hb : b < S.next) : Fz.Same ⟨b, e, z, n, c⟩ (icy S b e z n c) S :=
 ⟨rfl, fun x hx => by show S.heap.get x = (S.put b _).heap.get x; rw [qbr, if_neg hx], by show (S.put b _).heap.get b = _; rw [qbr, if_pos rfl], h, hb⟩
theorem TabAt.icy (h : TabAt S b r T) {x e z n : Nat} {c : Tr (Tr V)} (hx : ¬ Own b r T x) : TabAt (icy S x e z n c) b r T :=
 h.grew (qb6 (s := S) x _) fun y hy => by
  subst hy
  exact ⟨fun e => hx (.inl e), fun e => hx (.inr (.inl e)), fun p hp => ⟨fun e => hx (.inr (.inr ⟨p, hp, .inl e⟩)), fun e => hx (.inr (.inr ⟨p, hp, .inr e⟩))⟩⟩
theorem used_on (h : TabAt S b r T) (m : Nat) {x e : Nat} {l : List V} (hx : ¬ Own b r T x) (hb : Bx S x e l) (hlt : x < S.next) : ∃ U L, (ev E0 KD (m + 1)).f 11 [.ptr b 0] (onS S) = some (.ret (qh4 [.int .i64 T.ui, .int .i64 T.ub]), U.lg L) ∧ TabAt U b r T ∧ Grew (fun _ => False) S U ∧ ∀ e ∈ L, e.w = false ∨ e.b ≠ x := by
 obtain ⟨U, h1, h2, h3⟩ := qn4 h m
 have hc : S.heap.get x = some (.cells e l.length 1 false (Tr.ofListFrom .nil [Tr.ofListFrom .nil l 0] 0)) := hb
 obtain ⟨U', k1, _, _⟩ := qn4 (h.icy (e := e) (z := l.length) (n := 1) (c := Tr.ofListFrom .nil [Tr.ofListFrom .nil l 0] 0) hx) m
 obtain ⟨L, q1, q2⟩ := Fz.ev_log fzD lgD (icy_same hc hlt) k1 h1
 exact ⟨U, L, q1, h2, h3, q2⟩
end
section
variable {S U : St} {b r : Nat} {T : Tab} {B : Nat}
end
section
variable {S U : St} {b r : Nat} {T : Tab} {B : Nat}
end
end Go.Proofs.Ytbihlgcdnhoknaa.W
namespace Go.Proofs.Ytbihlgcdnhoknaa.W
open Go.Proofs.Ytbihlgcdnhoknaa.Ev Go.RowKit
theorem flat_at {β : Type} {z : Nat} (hz : 0 < z) : ∀ (ls : List (List β)), (∀ l ∈ ls, l.length = z) → ∀ (j : Nat) c, ls.flatten[j]? = some c → ∃ l, ls[j / z]? = some l ∧ l[j % z]? = some c
 | [], _, j, c, h => by simp at h
 | l :: ls, hl, j, c, h => by
  rw [List.flatten_cons] at h
  have h0 := hl l (List.mem_cons_self ..)
  by_cases hj : j < z
  · rw [List.getElem?_append_left (by omega)] at h
    exact ⟨l, by rw [Nat.div_eq_of_lt hj]; rfl, by rw [Nat.mod_eq_of_lt hj]; exact h⟩
  · rw [List.getElem?_append_right (by omega), h0] at h
    obtain ⟨l', h1, h2⟩ := flat_at hz ls (fun x hx => hl x (List.mem_cons_of_mem _ hx)) (j - z) c h
    refine ⟨l', ?_, ?_⟩
    · rw [show j = (j - z) + z by omega, Nat.add_div_right _ hz]; exact h1
    · rw [show j = (j - z) + z by omega, Nat.add_mod_right]; exact h2
theorem pick_any {α : Type} {P : Nat → α → Prop} : ∀ (n : Nat), (∀ i, i < n → ∃ b, P i b) → ∃ l : List α, l.length = n ∧ ∀ i b, l[i]? = some b → P i b
 | 0, _ => ⟨[], rfl, fun i b h => by simp at h⟩
 | n + 1, h => by
  obtain ⟨l, h1, h2⟩ := pick_any n fun i hi => h i (by omega)
  obtain ⟨b, hb⟩ := h n (by omega)
  refine ⟨l ++ [b], by simp [h1], fun i c hc => ?_⟩
  by_cases hi : i < n
  · rw [List.getElem?_append_left (by omega)] at hc
    exact h2 i c hc
  · have hi2 : i = n := by
     have := (List.getElem?_eq_some_iff.1 hc).1
     simp [h1] at this
     omega
    subst hi2
    rw [List.getElem?_append_right (by omega)] at hc
    simp [h1] at hc
    subst hc
    exact hb
theorem vrels_map {ρ : Rho} {α : Type} (f : α → V) (g : α → Value) : ∀ l : List α, (∀ a ∈ l, VRel ρ (f a) (g a)) → VRels ρ (l.map f) (l.map g)
 | [], _ => .nil
 | a :: l, h => .cons (h a (List.mem_cons_self ..)) (vrels_map f g l fun b hb => h b (List.mem_cons_of_mem _ hb))
section
variable {H : Type} {enc : TypeId × Value → H} {W : World}
theorem list_of_trod {α : Type} {t e z : Nat} {F : α → V} {Q : α → Prop} (ht : Try.prog.underlying t = some (.slice e)) (hz : Try.prog.cellsOf e = z) (hz0 : 0 < z)
 (el : ∀ fuel cs (x : DataW H × List MemPlace), DataW.trod enc Try.prog W 0 (fun _ => true) true fuel e cs = some x → ∃ (a : α) (cv : Value), VRel (frz W) (F a) cv ∧ qai (F a) = false ∧ cv.cells.toList = cs ∧ Q a)
 {fuel : Nat} {cs : List Value} {x : DataW H × List MemPlace} (h : DataW.trod enc Try.prog W 0 (fun _ => true) true fuel t cs = some x) :
 ∃ (cv : Value) (v : V) (l : List α), cs = [cv] ∧ VRel (frz W) v cv ∧ ((l = [] ∧ (v = .nilslice ∨ v = .eslice)) ∨ v = .list z (l.map F)) ∧ (∀ a ∈ l, Q a) ∧ ∃ ad len cap, cv = .slice ad len cap := by
 rcases DataW.trod_slice ht h with ⟨hv, _⟩ | ⟨a, len, cap, elems, rest, m, hm, hv, _, _, hcap, hmax, hel, hat, _⟩
 · exact ⟨_, .nilslice, [], hv, .nilslice, .inl ⟨rfl, .inl rfl⟩, fun _ h => by simp at h, _, _, _, rfl⟩
 · by_cases h0 : len = 0
   · subst h0
     exact ⟨_, .eslice, [], hv, .eslice a cap, .inl ⟨rfl, .inr rfl⟩, fun _ h => by simp at h, _, _, _, rfl⟩
   · have hAt : ∀ i, i < len → ∃ p : α × Value, VRel (frz W) (F p.1) p.2 ∧ qai (F p.1) = false ∧ Q p.1 ∧ p.2.cells.toList.length = z ∧ ∀ k, k < z → ∃ y, p.2.cells.toList[k]? = some y ∧ W.cell? ((a.add (i * z)).add k) = some y := fun i hi => by
      have := hat i hi
      rw [hz, List.getElem?_eq_getElem (by omega), oI] at this
      obtain ⟨cells, h1, h2⟩ := this
      obtain ⟨b, cv, b1, b2, b3, b4⟩ := el _ _ _ h2
      obtain ⟨c1, c2⟩ := cells?_at h1
      exact ⟨(b, cv), b1, b2, b4, by rw [b3]; exact c1, by rw [b3]; exact c2⟩
     obtain ⟨p0, _, _, _, _, q0⟩ := hAt 0 (by omega)
     obtain ⟨y0, _, hb0⟩ := q0 0 hz0
     have hspot : a.spot = none ∧ ∃ bg ty fr, W.heap[a.block]? = some (.cells bg ty fr) := by
      rw [Nat.zero_mul, show (a.add 0).add 0 = a from rfl] at hb0
      unfold World.cell? at hb0
      split at hb0
      · rename_i bg ty fr hh
        split at hb0
        · cases hb0
        · rename_i hsp
          exact ⟨by simpa using hsp, bg, ty, fr, hh⟩
      · cases hb0
     obtain ⟨hsp, bg, ty, fr, hheap⟩ := hspot
     obtain ⟨l, l1, l2⟩ := pick_any len hAt
     have hin : ∀ p ∈ l, ∃ i, l[i]? = some p := fun p hp => List.mem_iff_getElem?.1 hp
     refine ⟨_, .list z ((l.map (·.1)).map F), l.map (·.1), hv, ?_, .inr rfl, fun b hb => ?_, _, _, _, rfl⟩
     · rw [List.map_map]
       refine .list (vrels_map _ (·.2) l fun p hp => ?_) (fun v hv => ?_) (by rw [List.length_map]; exact l1) hcap fun _ => ⟨fun cv hcv => ?_, hsp, bg, ty, fr, hheap, fun j c hj => ?_⟩
       · obtain ⟨i, hi⟩ := hin p hp
         exact (l2 i p hi).1
       · rw [List.mem_map] at hv
         obtain ⟨p, hp, rfl⟩ := hv
         obtain ⟨i, hi⟩ := hin p hp
         exact (l2 i p hi).2.1
       · rw [List.mem_map] at hcv
         obtain ⟨p, hp, rfl⟩ := hcv
         obtain ⟨i, hi⟩ := hin p hp
         have := (l2 i p hi).2.2.2.1
         rwa [Array.length_toList] at this
       · rw [List.flatMap_def, List.map_map] at hj
         obtain ⟨cl, h1, h2⟩ := flat_at hz0 _ (fun cl hcl => by
          rw [List.mem_map] at hcl
          obtain ⟨p, hp, rfl⟩ := hcl
          obtain ⟨i, hi⟩ := hin p hp
          exact (l2 i p hi).2.2.2.1) j c hj
         rw [List.getElem?_map, Option.map_eq_some_iff] at h1
         obtain ⟨p, hp, rfl⟩ := h1
         obtain ⟨y, y1, y2⟩ := (l2 _ p hp).2.2.2.2 (j % z) (Nat.mod_lt _ hz0)
         have hc : c = y := by
          have := h2.symm.trans y1
          simpa using this
         subst hc
         rw [add_eq hsp, add_eq rfl] at y2
         unfold World.cell? at y2
         simp only at y2
         rw [hheap] at y2
         have he : a.off + j / z * z + j % z = a.off + j := by
          have := Nat.div_add_mod j z
          rw [Nat.mul_comm] at this
          omega
         rw [he] at y2
         exact y2
     · rw [List.mem_map] at hb
       obtain ⟨p, hp, rfl⟩ := hb
       obtain ⟨i, hi⟩ := hin p hp
       exact (l2 i p hi).2.2.1
theorem u42 : Try.prog.underlying 42 = some (.slice 44) := by kernel_rfl
theorem u44 : Try.prog.underlying 44 = some (.array 5 5) := Try.underlying44
theorem c44 : Try.prog.cellsOf 44 = 5 := by kernel_rfl
abbrev Five := UInt8 × UInt8 × UInt8 × UInt8 × UInt8
noncomputable def b5V (x : Five) : V := u8L [x.1, x.2.1, x.2.2.1, x.2.2.2.1, x.2.2.2.2]
def ActsV (v : V) (l : List Five) : Prop := (l = [] ∧ (v = .nilslice ∨ v = .eslice)) ∨ v = .list 5 (l.map b5V)
theorem qlx {fuel : Nat} {cs : List Value} {x : DataW H × List MemPlace} (h : DataW.trod enc Try.prog W 0 (fun _ => true) true fuel 5 cs = some x) : ∃ b : UInt8, cs = [.int .u8 (b.toNat : Int)] := by
 obtain ⟨n, rfl, _, hw⟩ := DataW.trod_int u5 h
 obtain ⟨b, rfl⟩ := u8_byte hw
 exact ⟨b, rfl⟩
theorem b5_of_trod {fuel : Nat} {cs : List Value} {x : DataW H × List MemPlace} (h : DataW.trod enc Try.prog W 0 (fun _ => true) true fuel 44 cs = some x) : ∃ (a : Five) (cv : Value), VRel (frz W) (b5V a) cv ∧ qai (b5V a) = false ∧ cv.cells.toList = cs ∧ True := by
 obtain ⟨xs, m, _, _, hl, hn, hi⟩ := DataW.trod_array u44 h
 rw [c44] at hl
 rw [c5] at hi
 match cs, hl with
 | [w0, w1, w2, w3, w4], _ =>
  have g : ∀ (i : Nat) w, i < 5 → (([w0, w1, w2, w3, w4].drop (i * 1)).take 1) = [w] → ∃ b : UInt8, w = .int .u8 (b.toNat : Int) := fun i w h5 hw => by
   have := hi i h5
   rw [hw, List.getElem?_eq_getElem (by omega)] at this
   obtain ⟨b, hb⟩ := qlx this
   exact ⟨b, by simpa using hb⟩
  obtain ⟨b0, rfl⟩ := g 0 w0 (by omega) rfl
  obtain ⟨b1, rfl⟩ := g 1 w1 (by omega) rfl
  obtain ⟨b2, rfl⟩ := g 2 w2 (by omega) rfl
  obtain ⟨b3, rfl⟩ := g 3 w3 (by omega) rfl
  obtain ⟨b4, rfl⟩ := g 4 w4 (by omega) rfl
  refine ⟨(b0, b1, b2, b3, b4), .agg #[.int .u8 (b0.toNat : Int), .int .u8 (b1.toNat : Int), .int .u8 (b2.toNat : Int), .int .u8 (b3.toNat : Int), .int .u8 (b4.toNat : Int)], ?_, rfl, rfl, trivial⟩
  unfold b5V u8L
  refine .agg rfl (fun i cv hcv => ?_) fun i v hv cv hcv => ?_
  · match i, hcv with
    | 0, h => cases h; rfl
    | 1, h => cases h; rfl
    | 2, h => cases h; rfl
    | 3, h => cases h; rfl
    | 4, h => cases h; rfl
  · rw [Tr.get_ofList] at hv
    match i, hv, hcv with
    | 0, h, h' => cases h; cases h'; exact .int _ _
    | 1, h, h' => cases h; cases h'; exact .int _ _
    | 2, h, h' => cases h; cases h'; exact .int _ _
    | 3, h, h' => cases h; cases h'; exact .int _ _
    | 4, h, h' => cases h; cases h'; exact .int _ _
theorem acts_of_trod {fuel : Nat} {cs : List Value} {x : DataW H × List MemPlace} (h : DataW.trod enc Try.prog W 0 (fun _ => true) true fuel 42 cs = some x) :
 ∃ (cv : Value) (v : V) (l : List Five), cs = [cv] ∧ VRel (frz W) v cv ∧ ActsV v l ∧ ∃ ad len cap, cv = .slice ad len cap := by
 obtain ⟨cv, v, l, h1, h2, h3, _, h4⟩ := list_of_trod (F := b5V) (Q := fun _ => True) u42 c44 (by omega) (fun fuel cs x hx => b5_of_trod hx) h
 exact ⟨cv, v, l, h1, h2, h3, h4⟩
end
section
variable {S U : St} {b r : Nat} {T : Tab}
theorem acts_len {v : V} {l : List Five} (h : ActsV v l) : lnS v S = some (.int .i64 (l.length : Int), S) := by
 rcases h with ⟨rfl, rfl | rfl⟩ | rfl
 · rfl
 · rfl
 · show some (V.int .i64 (((l.map b5V).length : Nat) : Int), S) = _
   rw [List.length_map]
theorem acts_ix {v : V} {l : List Five} (h : ActsV v l) {i : Nat} (hi : i < l.length) : ixP 5 v (.int .i64 (i : Int)) = some (.cptr (b5V l[i])) := by
 rcases h with ⟨rfl, _⟩ | rfl
 · simp at hi
 · rw [ixP_list 5 _ .i64 i (by rw [List.length_map]; exact hi) (by decide), List.getElem_map]
theorem b5_ld (x : Five) : ldA 5 (.cptr (b5V x)) S = some (b5V x, S) := rfl
end
set_option maxRecDepth 100000
section
variable {S U : St} {b r : Nat} {T : Tab}
end
end Go.Proofs.Ytbihlgcdnhoknaa.W
