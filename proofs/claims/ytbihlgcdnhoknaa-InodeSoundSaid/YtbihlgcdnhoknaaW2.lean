/-
  WHAT THE FUNCTIONS COME TO: each is read by the evaluator, printed, and told as a function of data, part 2 of 11 (no condition).
-/
import Derived.Test.YtbihlgcdnhoknaaW1
import Derived.Test.YtbihlgcdnhoknaaProg
import Derived.KernelRfl
namespace Go.Proofs.Ytbihlgcdnhoknaa.W
open Go.Proofs.Ytbihlgcdnhoknaa.Ev
set_option maxRecDepth 100000
noncomputable section
noncomputable def C18 : Code := Try.f18.body.getD .skip
noncomputable def B18 : D := (qbc C18 [[], [], [], [], [], []]).1
noncomputable def F18 (self : EV) (N : Nat) (x0 x1 : V) (S : St) : Rs := qc0 E0 self N Try.f18 B18 [x0, x1] S
theorem F18_eq (self : EV) (N : Nat) (x0 x1 : V) (S : St) : F18 self N x0 x1 S =
qaj (self.f 35 [x0, x1] S) fun t3 S3 =>
(qab E0 .eql 62 false true t3 .nilptr).bind fun t6 =>
ifK t6 (
some (.ret .nilslice, S3)) (
(qa3 t3).bind fun t9 =>
(faP 5 false 1 t9).bind fun t10 =>
(ld1 t10 S3).bind fun p11 =>
qaj (self.f 39 [p11.1] p11.2) fun t12 S12 =>
qaj (self.f 38 [t12] S12) fun t13 S13 =>
some (.ret t13, S13)) := by kernel_rfl
noncomputable def C19 : Code := Try.f19.body.getD .skip
noncomputable def B19 : D := (qbc C19 [[], [], [], [], [], [], [], [], [], [], [], [], [], [], [], [], []]).1
noncomputable def F19 (self : EV) (N : Nat) (x0 x1 x2 x3 x4 : V) (S : St) : Rs := qc0 E0 self N Try.f19 B19 [x0, x1, x2, x3, x4] S
theorem F19_eq (self : EV) (N : Nat) (x0 x1 x2 x3 x4 : V) (S : St) : F19 self N x0 x1 x2 x3 x4 S =
(qd7 23 x0 S).bind fun p0 =>
(qd7 3 x3 p0.2).bind fun p1 =>
(ld1 p0.1 (onS p1.2)).bind fun p3 =>
(ld1 p0.1 (onS p3.2)).bind fun p5 =>
qd1 (qah E0 (B19.r.l).ops) p1.2 4 [p3.2.log, [], p5.2.log, []] (self.f 28 [p5.1, x1] (onS p5.2)) fun t7 S7 =>
(ld1 p0.1 (onS S7)).bind fun p8 =>
(ld1 p1.1 (onS p8.2)).bind fun p9 =>
qd1 (qah E0 (B19.r.l).ops) p1.2 7 [p3.2.log, [], p5.2.log, [], S7.log, p8.2.log, p9.2.log] (self.f 28 [p8.1, p9.1] (onS p9.2)) fun t10 S10 =>
qd1 (qah E0 (B19.r.l).ops) p1.2 9 [p3.2.log, [], p5.2.log, [], S7.log, p8.2.log, p9.2.log, S10.log, []] (self.f 29 [x4] (onS S10)) fun t12 S12 =>
(ld1 p0.1 (onS S12)).bind fun p13 =>
qd1 (qah E0 (B19.r.l).ops) p1.2 13 [p3.2.log, [], p5.2.log, [], S7.log, p8.2.log, p9.2.log, S10.log, [], S12.log, p13.2.log, [], []] (self.f 37 [p13.1, x1, x2] (onS p13.2)) fun t16 S16 =>
(bsP 72 1 5 (Go.Proofs.Ytbihlgcdnhoknaa.Ev.one .nilfn) [(0, (.fn (.func 27) [p3.1] [])), (1, t7), (2, t10), (3, t12), (4, t16)] (onS S16)).bind fun p17 =>
qd1 (qah E0 (B19.r.l).ops) p1.2 15 [p3.2.log, [], p5.2.log, [], S7.log, p8.2.log, p9.2.log, S10.log, [], S12.log, p13.2.log, [], [], S16.log, p17.2.log] (self.f 26 [p17.1] (onS p17.2)) fun t18 S18 =>
qid [(0, [2, 4, 5, 6, 7, 9, 10, 13]), (2, [5, 6, 10]), (4, [5, 6, 10]), (5, [6, 10]), (6, [10]), (7, [10]), (9, [10])] p1.2 [p3.2.log, [], p5.2.log, [], S7.log, p8.2.log, p9.2.log, S10.log, [], S12.log, p13.2.log, [], [], S16.log, p17.2.log, S18.log, []] (onS S18) fun S20 =>
(qab E0 .neq 27 false true t18 (.int .i64 0)).bind fun t22 =>
(qa2 false t22).bind fun g24 => (bif g24 then some x1 else some (.tuple [])).bind fun t24 =>
(qa2 false t22).bind fun g25 => (bif g25 then ld1 p1.1 S20 else some (.tuple [], S20)).bind fun p25 =>
(qa2 false t22).bind fun g26 => (bif g26 then qab E0 .eql 3 false false t24 p25.1 else some (.tuple [])).bind fun t26 =>
(qa2 false t22).bind fun g27 => (bif g27 then some t26 else some (.tuple [])).bind fun t27 =>
(qa2 true t27).bind fun g28 => (bif g28 then some x2 else some (.tuple [])).bind fun t28 =>
(qa2 true t27).bind fun g29 => (bif g29 then some x4 else some (.tuple [])).bind fun t29 =>
(qa2 true t27).bind fun g30 => (bif g30 then qab E0 .eql 9 false false t28 t29 else some (.tuple [])).bind fun t30 =>
(qa2 false t22).bind fun g31 => (bif g31 then qbg t27 (some t30) (some (.bool false)) else some (.tuple [])).bind fun t31 =>
(qbg t22 (some (.bool true)) (some t31)).bind fun t32 =>
ifK t32 (
some (.ret t18, p25.2)) (
(ld1 p0.1 p25.2).bind fun p35 =>
qaj (self.f 13 [p35.1, x1, x2] p35.2) fun t38 S38 =>
(qa6 t38 0).bind fun t40 =>
(qa6 t38 1).bind fun t41 =>
(some (nwP 3 1 (Go.Proofs.Ytbihlgcdnhoknaa.Ev.one (.int .i64 0)) S38)).bind fun p42 =>
(stP 1 p42.1 t40 p42.2).bind fun p43 =>
(ld1 p0.1 p43.2).bind fun p47 =>
(ld1 p1.1 p47.2).bind fun p48 =>
qaj (self.f 30 [p47.1, p48.1, x4] p48.2) fun t50 S50 =>
(bsP 72 1 2 (Go.Proofs.Ytbihlgcdnhoknaa.Ev.one .nilfn) [(0, t50), (1, (.fn (.func 40) [] [p1.1, p0.1, p42.1]))] S50).bind fun p52 =>
qaj (self.f 26 [p52.1] p52.2) fun t53 S53 =>
(qab E0 .neq 27 false true t53 (.int .i64 0)).bind fun t56 =>
ifK t56 (
some (.ret t53, S53)) (
(ld1 p0.1 S53).bind fun p59 =>
(qa3 p59.1).bind fun t60 =>
(faP 4 false 1 t60).bind fun t61 =>
(ld1 t61 p59.2).bind fun p62 =>
(qae E0 66 p62.1 x1 false p62.2).bind fun p64 =>
(qa3 p64.1).bind fun t65 =>
(faP 5 false 1 t65).bind fun t66 =>
(ld1 t66 p64.2).bind fun p67 =>
(vu (qbm E0 63 p67.1 x2 p67.2)).bind fun p69 =>
(ld1 p0.1 (onS p69.2)).bind fun p70 =>
(qa3 p70.1).bind fun t71 =>
(faP 4 false 1 t71).bind fun t72 =>
(ld1 t72 (onS p70.2)).bind fun p73 =>
(ld1 p1.1 (onS p73.2)).bind fun p74 =>
(qae E0 66 p73.1 p74.1 false (onS p74.2)).bind fun p75 =>
(qa3 p75.1).bind fun t76 =>
(faP 5 false 1 t76).bind fun t77 =>
(ld1 t77 (onS p75.2)).bind fun p78 =>
(ld1 p42.1 (onS p78.2)).bind fun p80 =>
(vu (qag E0 63 p78.1 x4 p80.1 (onS p80.2))).bind fun p81 =>
qid [(0, [4, 10]), (3, [4, 10]), (4, [10]), (5, [10]), (8, [10])] p69.2 [p70.2.log, [], [], p73.2.log, p74.2.log, p75.2.log, [], [], p78.2.log, [], p80.2.log, p81.2.log] p81.2 fun S82 =>
(ld1 p0.1 (onS S82)).bind fun p83 =>
(qa3 p83.1).bind fun t84 =>
(faP 4 false 1 t84).bind fun t85 =>
(ld1 t85 (onS p83.2)).bind fun p86 =>
(ld1 p42.1 (onS p86.2)).bind fun p87 =>
(qae E0 66 p86.1 p87.1 false (onS p87.2)).bind fun p88 =>
qid [(0, [4]), (3, [4])] S82 [p83.2.log, [], [], p86.2.log, p87.2.log, p88.2.log, []] (onS p88.2) fun S90 =>
(qa3 p88.1).bind fun t92 =>
(faP 0 true 4 t92).bind fun t93 =>
(faP 0 false 1 t93).bind fun t94 =>
(ld1 t94 S90).bind fun p95 =>
(qab E0 .eql 3 false true p95.1 (.int .i64 2)).bind fun t96 =>
ifK t96 (
(ld1 p1.1 p95.2).bind fun p98 =>
(qa3 p88.1).bind fun t99 =>
(faP 4 false 1 t99).bind fun t100 =>
(stP 1 t100 p98.1 p98.2).bind fun p101 =>
some (.ret (.int .i64 0), p101.2)) (
some (.ret (.int .i64 0), p95.2)))) := by kernel_rfl
noncomputable def C39 : Code := Try.f39.body.getD .skip
noncomputable def B39 : D := (qbc C39 [[], []]).1
noncomputable def F39 (self : EV) (N : Nat) (x0 : V) (S : St) : Rs := qc0 E0 self N Try.f39 B39 [x0] S
theorem F39_eq (self : EV) (N : Nat) (x0 : V) (S : St) : F39 self N x0 S =
(qd7 63 x0 S).bind fun p0 =>
some (.ret (.fn (.func 66) [] [p0.1]), p0.2) := by kernel_rfl
noncomputable def C40 : Code := Try.f40.body.getD .skip
noncomputable def B40 : D := (qbc C40 [[], [], [1, 2, 4], [], [], [], [], [], [], [0], [3], []]).1
noncomputable def RL40 : List Nat := cellsOf Try.f40.results.toList
noncomputable def R40_1 (self : EV) (N : Nat) (nk : Ac → St → Rs) (ek : Nat → Ac → St → Rs) (a : Ac) (S : St) : Rs := qc5 [] a fun a => dr E0 self RL40 N (B40.r).r (mkK E0 self Try.f40 nk ek) a S
theorem R40_1_eq (self : EV) (N : Nat) (nk : Ac → St → Rs) (ek : Nat → Ac → St → Rs) (S : St) : R40_1 self N nk ek (fr 20 []) S =
some (.ret (.int .i64 0), S) := by kernel_rfl
noncomputable def L40_5 (self : EV) (N : Nat) (nk : Ac → St → Rs) (ek : Nat → Ac → St → Rs) (n : Nat) ( v1 v2 v4 : V) (S : St) : Rs := qhb [1, 2, 4] (dr E0 self RL40 N (B40.r.l.r.l.l)) (mkK E0 self Try.f40 nk ek) n (fr 20 [(1, v1), (2, v2), (4, v4)]) S
theorem qml (self : EV) (N : Nat) (nk : Ac → St → Rs) (ek : Nat → Ac → St → Rs) (n : Nat) ( v1 v2 v4 : V) (S : St) : L40_5 self N nk ek (n + 1) v1 v2 v4 S =
(qab E0 .neq 3 false true v4 (.int .i64 1)).bind fun t7 =>
ifK t7 (
(ld1 v2 S).bind fun p9 =>
(qab E0 .eql 3 false false v4 p9.1).bind fun t10 =>
ifK t10 (
some (.ret (.int .i64 2), p9.2)) (
(ld1 v1 p9.2).bind fun p12 =>
(qa3 p12.1).bind fun t13 =>
(faP 4 false 1 t13).bind fun t14 =>
(ld1 t14 p12.2).bind fun p15 =>
(qae E0 66 p15.1 v4 false p15.2).bind fun p17 =>
(qa3 p17.1).bind fun t18 =>
(faP 4 false 1 t18).bind fun t19 =>
(ld1 t19 p17.2).bind fun p20 =>
L40_5 self N nk ek n v1 v2 p20.1 p20.2)) (
ek 0 (fr 20 []) S) := by kernel_rfl
noncomputable def F40 (self : EV) (N : Nat) (x0 x1 x2 : V) (S : St) : Rs := qc0 E0 self N Try.f40 B40 [x0, x1, x2] S
theorem F40_eq (self : EV) (N : Nat) (x0 x1 x2 : V) (S : St) : F40 self N x0 x1 x2 S =
(ld1 x0 S).bind fun p3 =>
L40_5 self N (R40_1 self N (qdw E0 self Try.f40) qda) (exB 0 (R40_1 self N (qdw E0 self Try.f40) qda) qda) N x1 x2 p3.1 p3.2 := by kernel_rfl
end
noncomputable section
noncomputable def C16 : Code := Try.f16.body.getD .skip
noncomputable def B16 : D := (qbc C16 [[], [], [], [], [], [], [0, 0, 5, 6, 7, 8, 9, 46, 47], [0, 8, 9], [], [], [], [], [], [], [], [], [], [], [], [], [], [], [], []]).1
noncomputable def F16 (self : EV) (N : Nat) (x0 x1 : V) (S : St) : Rs := qc0 E0 self N Try.f16 B16 [x0, x1] S
theorem F16_eq (self : EV) (N : Nat) (x0 x1 : V) (S : St) : F16 self N x0 x1 S =
(qd7 44 x1 S).bind fun p0 =>
(ixA 5 1 false 1 p0.1 (.int .i64 3)).bind fun t2 =>
(ld1 t2 (onS p0.2)).bind fun p3 =>
(qab E0 .rem 5 false true p3.1 (.int .u8 4)).bind fun t4 =>
(qab E0 .add 5 true false (.int .u8 97) t4).bind fun t5 =>
(bsP 5 1 1 (Go.Proofs.Ytbihlgcdnhoknaa.Ev.one (.int .u8 0)) [(0, t5)] (onS p3.2)).bind fun p6 =>
(qaz E0 22 9 p6.1 (onS p6.2)).bind fun p7 =>
(ixA 5 1 false 1 p0.1 (.int .i64 4)).bind fun t8 =>
(ld1 t8 (onS p7.2)).bind fun p9 =>
(qab E0 .rem 5 false true p9.1 (.int .u8 4)).bind fun t10 =>
(qab E0 .add 5 true false (.int .u8 97) t10).bind fun t11 =>
(bsP 5 1 1 (Go.Proofs.Ytbihlgcdnhoknaa.Ev.one (.int .u8 0)) [(0, t11)] (onS p9.2)).bind fun p12 =>
(qaz E0 22 9 p12.1 (onS p12.2)).bind fun p13 =>
qid [(1, [7, 10, 11]), (4, [7, 10, 11]), (5, [7, 10, 11])] p0.2 [[], p3.2.log, [], [], p6.2.log, p7.2.log, [], p9.2.log, [], [], p12.2.log, p13.2.log, [], []] (onS p13.2) fun S16 =>
(ixA 5 1 false 1 p0.1 (.int .i64 1)).bind fun t17 =>
(ld1 t17 (onS S16)).bind fun p18 =>
(qab E0 .rem 5 false true p18.1 (.int .u8 12)).bind fun t19 =>
(cvI .i64 t19 (onS p18.2)).bind fun p20 =>
(qab E0 .add 3 true false (.int .i64 1) p20.1).bind fun t21 =>
(ixA 5 1 false 1 p0.1 (.int .i64 2)).bind fun t22 =>
(ld1 t22 (onS p20.2)).bind fun p23 =>
(qab E0 .rem 5 false true p23.1 (.int .u8 12)).bind fun t24 =>
(cvI .i64 t24 (onS p23.2)).bind fun p25 =>
(qab E0 .add 3 true false (.int .i64 1) p25.1).bind fun t26 =>
qid [(1, [6, 8]), (3, [6, 8])] S16 [[], p18.2.log, [], p20.2.log, [], [], p23.2.log, [], p25.2.log, [], [], []] (onS p25.2) fun S29 =>
(ixA 5 1 false 1 p0.1 (.int .i64 4)).bind fun t30 =>
(ld1 t30 S29).bind fun p31 =>
(qab E0 .rem 5 false true p31.1 (.int .u8 20)).bind fun t32 =>
(cvI .i64 t32 p31.2).bind fun p33 =>
(qey E0 22 p33.1 p33.1 p33.2).bind fun p34 =>
(qaz E0 22 9 p34.1 p34.2).bind fun p35 =>
(ixA 5 1 false 1 p0.1 (.int .i64 0)).bind fun t37 =>
(ld1 t37 p35.2).bind fun p38 =>
(qab E0 .rem 5 false true p38.1 (.int .u8 8)).bind fun t39 =>
(qab E0 .eql 5 false true t39 (.int .u8 0)).bind fun t40 =>
ifK t40 (
ifK t40 (
qaj (self.f 8 [x0, t21, p7.1, (.int .i64 2), (.int .i64 493), (sv [])] p38.2) fun t45 S45 =>
(qa6 t45 0).bind fun t47 =>
(qa6 t45 1).bind fun t48 =>
some (.ret t48, S45)) (
(qab E0 .eql 5 false true t39 (.int .u8 2)).bind fun t53 =>
ifK t53 (
qaj (self.f 8 [x0, t21, p7.1, (.int .i64 1), (.int .i64 420), p35.1] p38.2) fun t59 S59 =>
(qa6 t59 0).bind fun t61 =>
(qa6 t59 1).bind fun t62 =>
some (.ret t62, S59)) (
(qab E0 .eql 5 false true t39 (.int .u8 3)).bind fun t67 =>
ifK t67 (
qaj (self.f 8 [x0, t21, p7.1, (.int .i64 3), (.int .i64 511), (sv [116, 111])] p38.2) fun t72 S72 =>
(qa6 t72 0).bind fun t74 =>
(qa6 t72 1).bind fun t75 =>
some (.ret t75, S72)) (
(qab E0 .eql 5 false true t39 (.int .u8 4)).bind fun t80 =>
ifK t80 (
qaj (self.f 9 [x0, t21, p7.1, t26] p38.2) fun t86 S86 =>
some (.ret t86, S86)) (
(qab E0 .eql 5 false true t39 (.int .u8 5)).bind fun t88 =>
ifK t88 (
qaj (self.f 14 [x0, t21, p7.1] p38.2) fun t93 S93 =>
some (.ret t93, S93)) (
(qab E0 .eql 5 false true t39 (.int .u8 6)).bind fun t95 =>
ifK t95 (
qaj (self.f 19 [x0, t21, p7.1, t26, p13.1] p38.2) fun t102 S102 =>
some (.ret t102, S102)) (
qaj (self.f 10 [x0, t26, p35.1] p38.2) fun t107 S107 =>
some (.ret t107, S107)))))))) (
(qab E0 .eql 5 false true t39 (.int .u8 1)).bind fun t109 =>
ifK t109 (
qaj (self.f 8 [x0, t21, p7.1, (.int .i64 2), (.int .i64 493), (sv [])] p38.2) fun t114 S114 =>
(qa6 t114 0).bind fun t116 =>
(qa6 t114 1).bind fun t117 =>
some (.ret t117, S114)) (
(qab E0 .eql 5 false true t39 (.int .u8 2)).bind fun t122 =>
ifK t122 (
qaj (self.f 8 [x0, t21, p7.1, (.int .i64 1), (.int .i64 420), p35.1] p38.2) fun t128 S128 =>
(qa6 t128 0).bind fun t130 =>
(qa6 t128 1).bind fun t131 =>
some (.ret t131, S128)) (
(qab E0 .eql 5 false true t39 (.int .u8 3)).bind fun t136 =>
ifK t136 (
qaj (self.f 8 [x0, t21, p7.1, (.int .i64 3), (.int .i64 511), (sv [116, 111])] p38.2) fun t141 S141 =>
(qa6 t141 0).bind fun t143 =>
(qa6 t141 1).bind fun t144 =>
some (.ret t144, S141)) (
(qab E0 .eql 5 false true t39 (.int .u8 4)).bind fun t149 =>
ifK t149 (
qaj (self.f 9 [x0, t21, p7.1, t26] p38.2) fun t155 S155 =>
some (.ret t155, S155)) (
(qab E0 .eql 5 false true t39 (.int .u8 5)).bind fun t157 =>
ifK t157 (
qaj (self.f 14 [x0, t21, p7.1] p38.2) fun t162 S162 =>
some (.ret t162, S162)) (
(qab E0 .eql 5 false true t39 (.int .u8 6)).bind fun t164 =>
ifK t164 (
qaj (self.f 19 [x0, t21, p7.1, t26, p13.1] p38.2) fun t171 S171 =>
some (.ret t171, S171)) (
qaj (self.f 10 [x0, t26, p35.1] p38.2) fun t176 S176 =>
some (.ret t176, S176)))))))) := by kernel_rfl
end
noncomputable section
end
noncomputable section
noncomputable def C5 : Code := Try.f5.body.getD .skip
noncomputable def B5 : D := (qbc C5 [[], [], [], [], [], [], [], [0, 5, 6, 7], [], [], [], [], [], [], [], [], [], [], [], [], [0, 5, 6, 7, 10, 11, 12, 13, 14], [], [0, 5, 6, 7, 10, 12, 13], [], [], [], [], [], [], [], [], [], [], [], [], [0, 5, 6, 7, 10, 11, 12, 13, 14, 17, 18], [], [0, 5, 6, 7, 10, 11, 12, 13, 14], [], [], [], [], [], [], [], [], [], [], [], [0, 0, 5, 6, 7, 10, 11, 12, 13, 14], [0, 5, 6, 7, 10, 11, 12, 13, 14], [0, 0, 5, 6, 7, 10, 12, 13], [0, 5, 6, 7], [], [0, 5, 6, 7, 10, 12, 13, 23], [], [0, 5, 6, 7, 12, 13], [], [], [], [], [], [0, 0, 5, 6, 7, 12, 13], [0, 5, 6, 7], [], [], [0, 0, 5, 6, 7], [0, 5, 6, 7], [0], [4], []]).1
noncomputable def RL5 : List Nat := cellsOf Try.f5.results.toList
noncomputable def R5_19 (self : EV) (N : Nat) (nk : Ac → St → Rs) (ek : Nat → Ac → St → Rs) (a : Ac) (S : St) : Rs := qc5 [] a fun a => dr E0 self RL5 N (B5.r.r.r.r).r (mkK E0 self Try.f5 nk ek) a S
theorem R5_19_eq (self : EV) (N : Nat) (nk : Ac → St → Rs) (ek : Nat → Ac → St → Rs) (S : St) : R5_19 self N nk ek (fr 242 []) S =
qaj (self.f 15 [] S) fun t20 S20 =>
some (.ret t20, S20) := by kernel_rfl
noncomputable def N5_23 (self : EV) (N : Nat) (nk : Ac → St → Rs) (ek : Nat → Ac → St → Rs) (n : Nat) : Ac → St → Rs := fun a S => qc5 [0, 5, 6, 7] a fun a => qhb [0, 5, 6, 7] (dr E0 self RL5 N (B5.r.r.r.r.l.r.l.l)) (mkK E0 self Try.f5 nk ek) n a S
noncomputable def L5_23 (self : EV) (N : Nat) (nk : Ac → St → Rs) (ek : Nat → Ac → St → Rs) (n : Nat) ( v0 v5 v6 v7 : V) (S : St) : Rs := qhb [0, 5, 6, 7] (dr E0 self RL5 N (B5.r.r.r.r.l.r.l.l)) (mkK E0 self Try.f5 nk ek) n (fr 242 [(0, v0), (5, v5), (6, v6), (7, v7)]) S
noncomputable def R5_32 (self : EV) (N : Nat) (nk : Ac → St → Rs) (ek : Nat → Ac → St → Rs) (a : Ac) (S : St) : Rs := qc5 [0, 5, 6, 7] a fun a => dr E0 self RL5 N (B5.r.r.r.r.l.r.l.l.r).r (mkK E0 self Try.f5 nk ek) a S
theorem R5_32_eq (self : EV) (N : Nat) (nk : Ac → St → Rs) (ek : Nat → Ac → St → Rs) ( v0 v5 v6 v7 : V) (S : St) : R5_32 self N nk ek (fr 242 [(0, v0), (5, v5), (6, v6), (7, v7)]) S =
(qab E0 .add 3 false true v7 (.int .i64 1)).bind fun t34 =>
nk (fr 242 [(0, v0), (5, v5), (6, v6), (7, t34)]) S := by kernel_rfl
noncomputable def R5_63 (self : EV) (N : Nat) (nk : Ac → St → Rs) (ek : Nat → Ac → St → Rs) (a : Ac) (S : St) : Rs := qc5 [0, 5, 6, 7, 10, 12, 13] a fun a => dr E0 self RL5 N (B5.r.r.r.r.l.r.l.l.r.l.l.r.r.r.r.r.r).r (mkK E0 self Try.f5 nk ek) a S
noncomputable def R5_64 (self : EV) (N : Nat) (nk : Ac → St → Rs) (ek : Nat → Ac → St → Rs) (a : Ac) (S : St) : Rs := qc5 [0, 5, 6, 7, 12, 13] a fun a => dr E0 self RL5 N (B5.r.r.r.r.l.r.l.l.r.l.l.r.r.r.r.r.r.r.l).r (mkK E0 self Try.f5 nk ek) a S
theorem R5_64_eq (self : EV) (N : Nat) (nk : Ac → St → Rs) (ek : Nat → Ac → St → Rs) ( v0 v5 v6 v7 v12 v13 : V) (S : St) : R5_64 self N nk ek (fr 242 [(0, v0), (5, v5), (6, v6), (7, v7), (12, v12), (13, v13)]) S =
qaj (self.f 11 [v6] S) fun t66 S66 =>
(qck E0 26 [(0, v12), (1, v13)]).bind fun t69 =>
(qab E0 .neq 26 false false t66 t69).bind fun t70 =>
(qa2 false t70).bind fun g72 => (bif g72 then some v12 else some (.tuple [])).bind fun t72 =>
(qa2 false t70).bind fun g73 => (bif g73 then faP 0 false 1 v5 else some (.tuple [])).bind fun t73 =>
(qa2 false t70).bind fun g74 => (bif g74 then ld1 t73 S66 else some (.tuple [], S66)).bind fun p74 =>
(qa2 false t70).bind fun g75 => (bif g75 then qab E0 .gtr 3 false false t72 p74.1 else some (.tuple [])).bind fun t75 =>
(qbg t70 (some (.bool true)) (some t75)).bind fun t76 =>
(qa2 false t76).bind fun g78 => (bif g78 then some v13 else some (.tuple [])).bind fun t78 =>
(qa2 false t76).bind fun g79 => (bif g79 then faP 1 false 1 v5 else some (.tuple [])).bind fun t79 =>
(qa2 false t76).bind fun g80 => (bif g80 then ld1 t79 p74.2 else some (.tuple [], p74.2)).bind fun p80 =>
(qa2 false t76).bind fun g81 => (bif g81 then qab E0 .gtr 3 false false t78 p80.1 else some (.tuple [])).bind fun t81 =>
(qbg t76 (some (.bool true)) (some t81)).bind fun t82 =>
ifK t82 (
some (.ret (.bool false), p80.2)) (
nk (fr 242 [(0, v0), (5, v5), (6, v6), (7, v7)]) p80.2) := by kernel_rfl
noncomputable def L5_85 (self : EV) (N : Nat) (nk : Ac → St → Rs) (ek : Nat → Ac → St → Rs) (n : Nat) ( v0 v5 v6 v7 v10 v12 v13 v23 : V) (S : St) : Rs := qhb [0, 5, 6, 7, 10, 12, 13, 23] (dr E0 self RL5 N (B5.r.r.r.r.l.r.l.l.r.l.l.r.r.r.r.r.r.r.l.l.r.l.l)) (mkK E0 self Try.f5 nk ek) n (fr 242 [(0, v0), (5, v5), (6, v6), (7, v7), (10, v10), (12, v12), (13, v13), (23, v23)]) S
theorem L5_85_eq (self : EV) (N : Nat) (nk : Ac → St → Rs) (ek : Nat → Ac → St → Rs) (n : Nat) ( v0 v5 v6 v7 v10 v12 v13 v23 : V) (S : St) : L5_85 self N nk ek (n + 1) v0 v5 v6 v7 v10 v12 v13 v23 S =
(qab E0 .lss 3 false true v23 (.int .i64 70)).bind fun t87 =>
ifK t87 (
qaj (self.f 12 [v6, v23] S) fun t90 S90 =>
(qa6 t90 0).bind fun t92 =>
(qa6 t90 1).bind fun t93 =>
(some (nwP 35 4 (Tr.ofListFrom .nil [(.int .i64 0), (.int .i64 0), (sv []), (.int .i64 0)] 0) S90)).bind fun p94 =>
(stP 4 p94.1 t92 p94.2).bind fun p95 =>
(qae E0 50 v10 v23 false p95.2).bind fun p100 =>
(qab E0 .gtr 3 false true p100.1 (.int .i64 0)).bind fun t101 =>
(qab E0 .neq 4 false false t93 t101).bind fun t102 =>
(qa2 false t102).bind fun g104 => (bif g104 then some t93 else some (.tuple [])).bind fun t104 =>
(qa2 false t102).bind fun g105 => (bif g105 then some t104 else some (.tuple [])).bind fun t105 =>
(qa2 true t105).bind fun g106 => (bif g106 then faP 3 false 1 p94.1 else some (.tuple [])).bind fun t106 =>
(qa2 true t105).bind fun g107 => (bif g107 then ld1 t106 p100.2 else some (.tuple [], p100.2)).bind fun p107 =>
(qa2 true t105).bind fun g108 => (bif g108 then some v10 else some (.tuple [])).bind fun t108 =>
(qa2 true t105).bind fun g109 => (bif g109 then some v23 else some (.tuple [])).bind fun t109 =>
(qa2 true t105).bind fun g110 => (bif g110 then qae E0 50 t108 t109 false p107.2 else some (.tuple [], p107.2)).bind fun p110 =>
(qa2 true t105).bind fun g111 => (bif g111 then qab E0 .neq 3 false false p107.1 p110.1 else some (.tuple [])).bind fun t111 =>
(qa2 false t102).bind fun g112 => (bif g112 then qbg t105 (some t111) (some (.bool false)) else some (.tuple [])).bind fun t112 =>
(qbg t102 (some (.bool true)) (some t112)).bind fun t113 =>
ifK t113 (
some (.ret (.bool false), p110.2)) (
(qab E0 .add 3 false true v23 (.int .i64 1)).bind fun t116 =>
L5_85 self N nk ek n v0 v5 v6 v7 v10 v12 v13 t116 p110.2)) (
ek 6 (fr 242 [(0, v0), (5, v5), (6, v6), (7, v7), (12, v12), (13, v13)]) S) := by kernel_rfl
theorem R5_63_eq (self : EV) (N : Nat) (nk : Ac → St → Rs) (ek : Nat → Ac → St → Rs) ( v0 v5 v6 v7 v10 v12 v13 : V) (S : St) : R5_63 self N nk ek (fr 242 [(0, v0), (5, v5), (6, v6), (7, v7), (10, v10), (12, v12), (13, v13)]) S =
L5_85 self N (R5_64 self N (fun a s => qc5 [0, 5, 6, 7] a fun a => nk a s) ek) (exB 6 (R5_64 self N (fun a s => qc5 [0, 5, 6, 7] a fun a => nk a s) ek) ek) N v0 v5 v6 v7 v10 v12 v13 (.int .i64 2) S := by kernel_rfl
noncomputable def qiw (self : EV) (N : Nat) (nk : Ac → St → Rs) (ek : Nat → Ac → St → Rs) (n : Nat) : Ac → St → Rs := fun a S => qc5 [0, 5, 6, 7, 10, 11, 12, 13, 14] a fun a => qhb [0, 5, 6, 7, 10, 11, 12, 13, 14] (dr E0 self RL5 N (B5.r.r.r.r.l.r.l.l.r.l.l.r.r.r.r.r.r.l.r.l.l)) (mkK E0 self Try.f5 nk ek) n a S
noncomputable def L5_119 (self : EV) (N : Nat) (nk : Ac → St → Rs) (ek : Nat → Ac → St → Rs) (n : Nat) ( v0 v5 v6 v7 v10 v11 v12 v13 v14 : V) (S : St) : Rs := qhb [0, 5, 6, 7, 10, 11, 12, 13, 14] (dr E0 self RL5 N (B5.r.r.r.r.l.r.l.l.r.l.l.r.r.r.r.r.r.l.r.l.l)) (mkK E0 self Try.f5 nk ek) n (fr 242 [(0, v0), (5, v5), (6, v6), (7, v7), (10, v10), (11, v11), (12, v12), (13, v13), (14, v14)]) S
noncomputable def qix (self : EV) (N : Nat) (nk : Ac → St → Rs) (ek : Nat → Ac → St → Rs) (a : Ac) (S : St) : Rs := qc5 [0, 5, 6, 7, 10, 11, 12, 13, 14] a fun a => dr E0 self RL5 N (B5.r.r.r.r.l.r.l.l.r.l.l.r.r.r.r.r.r.l.r.l.l.r).r (mkK E0 self Try.f5 nk ek) a S
theorem R5_128_eq (self : EV) (N : Nat) (nk : Ac → St → Rs) (ek : Nat → Ac → St → Rs) ( v0 v5 v6 v7 v10 v11 v12 v13 v14 : V) (S : St) : qix self N nk ek (fr 242 [(0, v0), (5, v5), (6, v6), (7, v7), (10, v10), (11, v11), (12, v12), (13, v13), (14, v14)]) S =
(qab E0 .add 3 false true v14 (.int .i64 1)).bind fun t130 =>
nk (fr 242 [(0, v0), (5, v5), (6, v6), (7, v7), (10, v10), (11, v11), (12, v12), (13, v13), (14, t130)]) S := by kernel_rfl
noncomputable def qiv (self : EV) (N : Nat) (nk : Ac → St → Rs) (ek : Nat → Ac → St → Rs) (n : Nat) ( v0 v5 v6 v7 v10 v11 v12 v13 v14 v17 v18 : V) (S : St) : Rs := qhb [0, 5, 6, 7, 10, 11, 12, 13, 14, 17, 18] (dr E0 self RL5 N (B5.r.r.r.r.l.r.l.l.r.l.l.r.r.r.r.r.r.l.r.l.l.r.l.l.r.r.r.r.r.r.r.l.l)) (mkK E0 self Try.f5 nk ek) n (fr 242 [(0, v0), (5, v5), (6, v6), (7, v7), (10, v10), (11, v11), (12, v12), (13, v13), (14, v14), (17, v17), (18, v18)]) S
theorem L5_183_eq (self : EV) (N : Nat) (nk : Ac → St → Rs) (ek : Nat → Ac → St → Rs) (n : Nat) ( v0 v5 v6 v7 v10 v11 v12 v13 v14 v17 v18 : V) (S : St) : qiv self N nk ek (n + 1) v0 v5 v6 v7 v10 v11 v12 v13 v14 v17 v18 S =
(lnS v17 S).bind fun p186 =>
(qab E0 .lss 3 false false v18 p186.1).bind fun t187 =>
ifK t187 (
(ixP 1 v11 v14).bind fun t191 =>
(ld1 t191 (onS p186.2)).bind fun p192 =>
(ixP 1 v17 v18).bind fun t195 =>
(ld1 t195 (onS p192.2)).bind fun p196 =>
qd1 (qah E0 (B5.r.r.r.r.l.r.l.l.r.l.l.r.r.r.r.r.r.l.r.l.l.r.l.l.r.r.r.r.r.r.r.l.l.r.l.l.l).ops) p186.2 9 [[], [], [], [], p192.2.log, [], [], [], p196.2.log] (self.f 13 [v6, p192.1, p196.1] (onS p196.2)) fun t197 S197 =>
(qa6 t197 0).bind fun t199 =>
(qa6 t197 1).bind fun t200 =>
qid [(4, [8])] p186.2 [[], [], [], [], p192.2.log, [], [], [], p196.2.log, S197.log, [], [], [], [], []] (onS S197) fun S203 =>
qaj (self.f 12 [v6, t199] S203) fun t206 S206 =>
(qa6 t206 0).bind fun t208 =>
(qa6 t206 1).bind fun t209 =>
(some (nwP 35 4 (Tr.ofListFrom .nil [(.int .i64 0), (.int .i64 0), (sv []), (.int .i64 0)] 0) S206)).bind fun p210 =>
(stP 4 p210.1 t208 p210.2).bind fun p211 =>
(unV .not t200).bind fun t214 =>
(qa2 false t214).bind fun g216 => (bif g216 then some t209 else some (.tuple [])).bind fun t216 =>
(qa2 false t214).bind fun g217 => (bif g217 then unV .not t216 else some (.tuple [])).bind fun t217 =>
(qbg t214 (some (.bool true)) (some t217)).bind fun t218 =>
(qa2 false t218).bind fun g220 => (bif g220 then some v18 else some (.tuple [])).bind fun t220 =>
(qa2 false t218).bind fun g221 => (bif g221 then qab E0 .gtr 3 false true t220 (.int .i64 0) else some (.tuple [])).bind fun t221 =>
(qa2 false t218).bind fun g222 => (bif g222 then some t221 else some (.tuple [])).bind fun t222 =>
(qa2 true t222).bind fun g223 => (bif g223 then some v17 else some (.tuple [])).bind fun t223 =>
(qa2 true t222).bind fun g224 => (bif g224 then some v18 else some (.tuple [])).bind fun t224 =>
(qa2 true t222).bind fun g225 => (bif g225 then qab E0 .sub 3 false true t224 (.int .i64 1) else some (.tuple [])).bind fun t225 =>
(qa2 true t222).bind fun g226 => (bif g226 then ixP 1 t223 t225 else some (.tuple [])).bind fun t226 =>
(qa2 true t222).bind fun g227 => (bif g227 then ld1 t226 (onS p211.2) else some (.tuple [], (onS p211.2))).bind fun p227 =>
(qa2 true t222).bind fun g228 => (bif g228 then some v17 else some (.tuple [])).bind fun t228 =>
(qa2 true t222).bind fun g229 => (bif g229 then some v18 else some (.tuple [])).bind fun t229 =>
(qa2 true t222).bind fun g230 => (bif g230 then ixP 1 t228 t229 else some (.tuple [])).bind fun t230 =>
(qa2 true t222).bind fun g231 => (bif g231 then ld1 t230 (onS p227.2) else some (.tuple [], (onS p227.2))).bind fun p231 =>
(qa2 true t222).bind fun g232 => (bif g232 then qab E0 .geq 9 false false p227.1 p231.1 else some (.tuple [])).bind fun t232 =>
(qa2 false t218).bind fun g233 => (bif g233 then qbg t222 (some t232) (some (.bool false)) else some (.tuple [])).bind fun t233 =>
(qbg t218 (some (.bool true)) (some t233)).bind fun t234 =>
(qa2 false t234).bind fun g236 => (bif g236 then faP 0 false 1 p210.1 else some (.tuple [])).bind fun t236 =>
(qa2 false t234).bind fun g237 => (bif g237 then ld1 t236 (onS p231.2) else some (.tuple [], (onS p231.2))).bind fun p237 =>
(qa2 false t234).bind fun g238 => (bif g238 then qab E0 .eql 3 false true p237.1 (.int .i64 2) else some (.tuple [])).bind fun t238 =>
(qa2 false t234).bind fun g239 => (bif g239 then some t238 else some (.tuple [])).bind fun t239 =>
(qa2 true t239).bind fun g240 => (bif g240 then some v6 else some (.tuple [])).bind fun t240 =>
(qa2 true t239).bind fun g241 => (bif g241 then some t199 else some (.tuple [])).bind fun t241 =>
(qa2 true t239).bind fun g242 => qd1 (qah E0 (B5.r.r.r.r.l.r.l.l.r.l.l.r.r.r.r.r.r.l.r.l.l.r.l.l.r.r.r.r.r.r.r.l.l.r.l.l.r.r.l.l).ops) p211.2 29 [[], [], [], [], [], [], [], [], [], [], [], [], [], [], p227.2.log, [], [], [], p231.2.log, [], [], [], [], [], p237.2.log, [], [], [], []] (bif g242 then self.f 17 [t240, t241] (onS p237.2) else some (.ret (.tuple []), (onS p237.2))) fun t242 S242 =>
(qa2 true t239).bind fun g243 => (bif g243 then some v11 else some (.tuple [])).bind fun t243 =>
(qa2 true t239).bind fun g244 => (bif g244 then some v14 else some (.tuple [])).bind fun t244 =>
(qa2 true t239).bind fun g245 => (bif g245 then ixP 1 t243 t244 else some (.tuple [])).bind fun t245 =>
(qa2 true t239).bind fun g246 => (bif g246 then ld1 t245 (onS S242) else some (.tuple [], (onS S242))).bind fun p246 =>
(qa2 true t239).bind fun g247 => (bif g247 then qab E0 .neq 3 false false t242 p246.1 else some (.tuple [])).bind fun t247 =>
(qa2 false t234).bind fun g248 => (bif g248 then qbg t239 (some t247) (some (.bool false)) else some (.tuple [])).bind fun t248 =>
(qbg t234 (some (.bool true)) (some t248)).bind fun t249 =>
qid [(14, [18]), (29, [33])] p211.2 [[], [], [], [], [], [], [], [], [], [], [], [], [], [], p227.2.log, [], [], [], p231.2.log, [], [], [], [], [], p237.2.log, [], [], [], [], S242.log, [], [], [], p246.2.log, [], [], []] (onS p246.2) fun S250 =>
ifK t249 (
some (.ret (.bool false), S250)) (
(qae E0 50 v10 t199 false S250).bind fun p254 =>
(qab E0 .add 3 false true p254.1 (.int .i64 1)).bind fun t255 =>
(vu (qag E0 50 v10 t199 t255 p254.2)).bind fun p256 =>
(qae E0 50 v10 t199 false p256.2).bind fun p259 =>
(qab E0 .eql 3 false true p259.1 (.int .i64 1)).bind fun t260 =>
ifK t260 (
(bsP 3 1 1 (Go.Proofs.Ytbihlgcdnhoknaa.Ev.one (.int .i64 0)) [(0, t199)] p259.2).bind fun p263 =>
(apP 3 1 8 v11 p263.1 p263.2).bind fun p264 =>
(qab E0 .add 3 false true v18 (.int .i64 1)).bind fun t267 =>
qiv self N nk ek n v0 v5 v6 v7 v10 p264.1 v12 v13 v14 v17 t267 p264.2) (
(faP 0 false 1 p210.1).bind fun t269 =>
(ld1 t269 p259.2).bind fun p270 =>
(qab E0 .neq 3 false true p270.1 (.int .i64 1)).bind fun t271 =>
ifK t271 (
some (.ret (.bool false), p270.2)) (
(qab E0 .add 3 false true v18 (.int .i64 1)).bind fun t274 =>
qiv self N nk ek n v0 v5 v6 v7 v10 v11 v12 v13 v14 v17 t274 p270.2)))) (
ek 4 (fr 242 [(0, v0), (5, v5), (6, v6), (7, v7), (10, v10), (11, v11), (12, v12), (13, v13), (14, v14)]) p186.2) := by kernel_rfl
theorem L5_119_eq (self : EV) (N : Nat) (nk : Ac → St → Rs) (ek : Nat → Ac → St → Rs) (n : Nat) ( v0 v5 v6 v7 v10 v11 v12 v13 v14 : V) (S : St) : L5_119 self N nk ek (n + 1) v0 v5 v6 v7 v10 v11 v12 v13 v14 S =
(lnS v11 S).bind fun p122 =>
(qab E0 .lss 3 false false v14 p122.1).bind fun t123 =>
(qa2 true t123).bind fun g125 => (bif g125 then some v14 else some (.tuple [])).bind fun t125 =>
(qa2 true t123).bind fun g126 => (bif g126 then qab E0 .lss 3 false true t125 (.int .i64 300) else some (.tuple [])).bind fun t126 =>
(qbg t123 (some t126) (some (.bool false))).bind fun t127 =>
ifK t127 (
(ixP 1 v11 v14).bind fun t135 =>
(ld1 t135 p122.2).bind fun p136 =>
qaj (self.f 12 [v6, p136.1] p136.2) fun t137 S137 =>
(qa6 t137 0).bind fun t139 =>
(qa6 t137 1).bind fun t140 =>
(some (nwP 35 4 (Tr.ofListFrom .nil [(.int .i64 0), (.int .i64 0), (sv []), (.int .i64 0)] 0) S137)).bind fun p141 =>
(stP 4 p141.1 t139 p141.2).bind fun p142 =>
(unV .not t140).bind fun t145 =>
ifK t145 (
some (.ret (.bool false), p142.2)) (
(qab E0 .add 3 false true v12 (.int .i64 1)).bind fun t148 =>
(faP 2 false 1 p141.1).bind fun t151 =>
(ld1 t151 p142.2).bind fun p152 =>
(qha p152.1 p152.2).bind fun p153 =>
(qab E0 .add 3 false false v13 p153.1).bind fun t154 =>
(ixP 1 v11 v14).bind fun t159 =>
(ld1 t159 p153.2).bind fun p160 =>
qaj (self.f 18 [v6, p160.1] p160.2) fun t161 S161 =>
(faP 0 false 1 p141.1).bind fun t163 =>
(ld1 t163 S161).bind fun p164 =>
(qab E0 .neq 3 false true p164.1 (.int .i64 2)).bind fun t165 =>
(qa2 true t165).bind fun g167 => (bif g167 then some t161 else some (.tuple [])).bind fun t167 =>
(qa2 true t165).bind fun g168 => (bif g168 then lnS t167 p164.2 else some (.tuple [], p164.2)).bind fun p168 =>
(qa2 true t165).bind fun g169 => (bif g169 then qab E0 .gtr 3 false true p168.1 (.int .i64 0) else some (.tuple [])).bind fun t169 =>
(qbg t165 (some t169) (some (.bool false))).bind fun t170 =>
(qa2 false t170).bind fun g172 => (bif g172 then faP 0 false 1 p141.1 else some (.tuple [])).bind fun t172 =>
(qa2 false t170).bind fun g173 => (bif g173 then ld1 t172 p168.2 else some (.tuple [], p168.2)).bind fun p173 =>
(qa2 false t170).bind fun g174 => (bif g174 then qab E0 .eql 3 false true p173.1 (.int .i64 2) else some (.tuple [])).bind fun t174 =>
(qa2 false t170).bind fun g175 => (bif g175 then some t174 else some (.tuple [])).bind fun t175 =>
(qa2 true t175).bind fun g176 => (bif g176 then faP 2 false 1 p141.1 else some (.tuple [])).bind fun t176 =>
(qa2 true t175).bind fun g177 => (bif g177 then ld1 t176 p173.2 else some (.tuple [], p173.2)).bind fun p177 =>
(qa2 true t175).bind fun g178 => (bif g178 then qab E0 .neq 9 false true p177.1 (sv []) else some (.tuple [])).bind fun t178 =>
(qa2 false t170).bind fun g179 => (bif g179 then qbg t175 (some t178) (some (.bool false)) else some (.tuple [])).bind fun t179 =>
(qbg t170 (some (.bool true)) (some t179)).bind fun t180 =>
ifK t180 (
some (.ret (.bool false), p177.2)) (
qiv self N (qix self N (qiw self N nk ek n) ek) (exB 4 (qix self N (qiw self N nk ek n) ek) (exB 3 (qix self N (qiw self N nk ek n) ek) ek)) N v0 v5 v6 v7 v10 v11 t148 t154 v14 t161 (.int .i64 0) p177.2))) (
ek 2 (fr 242 [(0, v0), (5, v5), (6, v6), (7, v7), (10, v10), (12, v12), (13, v13)]) p122.2) := by kernel_rfl
theorem N5_119_eq (self : EV) (N : Nat) (nk : Ac → St → Rs) (ek : Nat → Ac → St → Rs) (n : Nat) ( v0 v5 v6 v7 v10 v11 v12 v13 v14 : V) (S : St) : qiw self N nk ek n (fr 242 [(0, v0), (5, v5), (6, v6), (7, v7), (10, v10), (11, v11), (12, v12), (13, v13), (14, v14)]) S = L5_119 self N nk ek n v0 v5 v6 v7 v10 v11 v12 v13 v14 S := by kernel_rfl
theorem L5_23_eq (self : EV) (N : Nat) (nk : Ac → St → Rs) (ek : Nat → Ac → St → Rs) (n : Nat) ( v0 v5 v6 v7 : V) (S : St) : L5_23 self N nk ek (n + 1) v0 v5 v6 v7 S =
(lnS v0 S).bind fun p26 =>
(qab E0 .lss 3 false false v7 p26.1).bind fun t27 =>
(qa2 true t27).bind fun g29 => (bif g29 then some v7 else some (.tuple [])).bind fun t29 =>
(qa2 true t27).bind fun g30 => (bif g30 then qab E0 .lss 3 false true t29 (.int .i64 60) else some (.tuple [])).bind fun t30 =>
(qbg t27 (some t30) (some (.bool false))).bind fun t31 =>
ifK t31 (
qaj (self.f 11 [v6] p26.2) fun t37 S37 =>
(some (nwP 26 2 (Tr.ofListFrom .nil [(.int .i64 0), (.int .i64 0)] 0) S37)).bind fun p38 =>
(stP 2 p38.1 t37 p38.2).bind fun p39 =>
(ixP 5 v0 v7).bind fun t43 =>
(ldA 5 t43 p39.2).bind fun p44 =>
qaj (self.f 16 [v6, p44.1] p44.2) fun t45 S45 =>
(qab E0 .neq 27 false true t45 (.int .i64 0)).bind fun t48 =>
(qa2 true t48).bind fun g50 => (bif g50 then some v6 else some (.tuple [])).bind fun t50 =>
(qa2 true t48).bind fun g51 => qd1 (qah E0 (B5.r.r.r.r.l.r.l.l.r.l.l.r.r.l.l).ops) S45 4 [[], [], [], []] (bif g51 then self.f 11 [t50] (onS S45) else some (.ret (.tuple []), (onS S45))) fun t51 S51 =>
(qa2 true t48).bind fun g52 => (bif g52 then ldA 2 p38.1 (onS S51) else some (.tuple [], (onS S51))).bind fun p52 =>
(qa2 true t48).bind fun g53 => (bif g53 then qab E0 .neq 26 false false t51 p52.1 else some (.tuple [])).bind fun t53 =>
(qbg t48 (some t53) (some (.bool false))).bind fun t54 =>
qid [(4, [5])] S45 [[], [], [], [], S51.log, p52.2.log, [], []] (onS p52.2) fun S55 =>
ifK t54 (
some (.ret (.bool false), S55)) (
(qbz E0 50 none S55).bind fun p57 =>
(bsP 3 1 1 (Go.Proofs.Ytbihlgcdnhoknaa.Ev.one (.int .i64 0)) [(0, (.int .i64 1))] p57.2).bind fun p59 =>
L5_119 self N (R5_63 self N (R5_32 self N (N5_23 self N nk ek n) ek) (exB 1 (R5_32 self N (N5_23 self N nk ek n) ek) ek)) (exB 2 (R5_63 self N (R5_32 self N (N5_23 self N nk ek n) ek) (exB 1 (R5_32 self N (N5_23 self N nk ek n) ek) ek)) (exB 1 (R5_32 self N (N5_23 self N nk ek n) ek) ek)) N v0 v5 v6 v7 p57.1 p59.1 (.int .i64 0) (.int .i64 0) (.int .i64 0) p59.2)) (
ek 0 (fr 242 []) p26.2) := by kernel_rfl
theorem N5_23_eq (self : EV) (N : Nat) (nk : Ac → St → Rs) (ek : Nat → Ac → St → Rs) (n : Nat) ( v0 v5 v6 v7 : V) (S : St) : N5_23 self N nk ek n (fr 242 [(0, v0), (5, v5), (6, v6), (7, v7)]) S = L5_23 self N nk ek n v0 v5 v6 v7 S := by kernel_rfl
noncomputable def F5 (self : EV) (N : Nat) (x0 x1 : V) (S : St) : Rs := qc0 E0 self N Try.f5 B5 [x0, x1] S
theorem F5_eq (self : EV) (N : Nat) (x0 x1 : V) (S : St) : F5 self N x0 x1 S =
(qd7 49 x1 S).bind fun p0 =>
(ixA 2 1 false 1 p0.1 (.int .i64 0)).bind fun t2 =>
(ld1 t2 p0.2).bind fun p3 =>
(qab E0 .rem 5 false true p3.1 (.int .u8 14)).bind fun t4 =>
(cvI .i64 t4 p3.2).bind fun p5 =>
(qab E0 .add 3 true false (.int .i64 1) p5.1).bind fun t6 =>
(ixA 2 1 false 1 p0.1 (.int .i64 1)).bind fun t7 =>
(ld1 t7 p5.2).bind fun p8 =>
(cvI .i64 p8.1 p8.2).bind fun p9 =>
(qck E0 26 [(0, t6), (1, p9.1)]).bind fun t10 =>
(some (nwP 26 2 (Tr.ofListFrom .nil [(.int .i64 0), (.int .i64 0)] 0) p9.2)).bind fun p11 =>
(stP 2 p11.1 t10 p11.2).bind fun p12 =>
(ldA 2 p11.1 p12.2).bind fun p13 =>
qaj (self.f 7 [p13.1] p13.2) fun t14 S14 =>
(qab E0 .eql 23 false true t14 .nilptr).bind fun t17 =>
ifK t17 (
some (.ret (.bool false), S14)) (
L5_23 self N (R5_19 self N (qdw E0 self Try.f5) qda) (exB 0 (R5_19 self N (qdw E0 self Try.f5) qda) qda) N x0 p11.1 t14 (.int .i64 0) S14) := by kernel_rfl
end
end Go.Proofs.Ytbihlgcdnhoknaa.W
namespace Go.Proofs.Ytbihlgcdnhoknaa.W
open Go.Proofs.Ytbihlgcdnhoknaa.Ev
theorem E0_ok : EnvOk Try.prog E0 := envOf_ok (by kernel_rfl) (by kernel_rfl) (by kernel_rfl) (fun p hp => by
 simp only [List.mem_cons, List.not_mem_nil, or_false] at hp
 rcases hp with rfl
 exact ⟨fun _ args w => by kernel_rfl, fun h => absurd h (by decide), fun h => absurd h (by decide), fun h => absurd h (by decide), fun h => absurd h (by decide)⟩
 ) (by kernel_rfl) (by kernel_rfl) (by kernel_rfl)
inductive Nd where
 | mk (name : List UInt8) (kind : Int) (exec : Bool) (data : List UInt8) (kids : List Nd)
def Nd.name : Nd → List UInt8 | .mk n _ _ _ _ => n
def Nd.kind : Nd → Int | .mk _ k _ _ _ => k
def Nd.exec : Nd → Bool | .mk _ _ e _ _ => e
def Nd.data : Nd → List UInt8 | .mk _ _ _ d _ => d
def Nd.kids : Nd → List Nd | .mk _ _ _ _ l => l
mutual
def cntN : Nd → Nat
 | .mk _ _ _ _ l => 1 + cntL l
def cntL : List Nd → Nat
 | [] => 0
 | x :: l => cntN x + cntL l
end
mutual
def Nd.ok : Nd → Prop
 | .mk n k _ d l => n.length < 9223372036854775808 ∧ (-9223372036854775808 ≤ k ∧ k < 9223372036854775808) ∧ d.length ≤ 3000 ∧ l.length ≤ 3000 ∧ 1 + cntL l < 4611686018427387904 ∧ okL l
def okL : List Nd → Prop
 | [] => True
 | x :: l => x.ok ∧ okL l
end
theorem okL_iff : ∀ l : List Nd, okL l ↔ ∀ x ∈ l, x.ok
 | [] => by simp [okL]
 | x :: l => by simp [okL, okL_iff l]
structure NdOk (x : Nd) : Prop where
 name : x.name.length < 9223372036854775808
 kind : -9223372036854775808 ≤ x.kind ∧ x.kind < 9223372036854775808
 data : x.data.length ≤ 3000
 few : x.kids.length ≤ 3000
 cnt : 1 + cntL x.kids < 4611686018427387904
 kids : ∀ y ∈ x.kids, y.ok
theorem Nd.ok.at {x : Nd} (h : x.ok) : NdOk x := by
 cases x with
 | mk n k e d l =>
  rw [Nd.ok] at h
  obtain ⟨h1, h2, h3, h4, hc, h5⟩ := h
  exact ⟨h1, h2, h3, h4, hc, (okL_iff l).1 h5⟩
section
variable {s : St}
variable {b : Nat} {x : Nd}
end
theorem drop_at {α : Type} {l r : List α} {i : Nat} {y : α} (h : l.drop i = y :: r) : ∃ hlt : i < l.length, l[i] = y ∧ l.drop (i + 1) = r ∧ y ∈ l := by
 have hlt : i < l.length := by
  rcases Nat.lt_or_ge i l.length with h' | h'
  · exact h'
  · rw [List.drop_eq_nil_of_le h'] at h; cases h
 rw [List.drop_eq_getElem_cons hlt] at h
 simp only [List.cons.injEq] at h
 exact ⟨hlt, h.1, h.2, h.1 ▸ List.getElem_mem hlt⟩
theorem drop_end {α : Type} {l : List α} {i : Nat} (h : l.drop i = []) : l.length ≤ i := List.drop_eq_nil_iff.1 h
theorem dec_lt {a b : Nat} (h : a < b) : decide ((a : Int) < (b : Int)) = true := by simp; omega
theorem dec_ge {a b : Nat} (h : b ≤ a) : decide ((a : Int) < (b : Int)) = false := by simp; omega
theorem qpe {i : Nat} (h : i < 9223372036854775807) : IntKind.i64.wrap ((i : Int) + 1) = ((i + 1 : Nat) : Int) := by
 rw [qes (by omega) (by omega)]; omega
def qbq (c : UInt8) : Bool := c == 47 || c == 0
theorem u8_eq (c d : UInt8) : (c == d) = decide ((c.toNat : Int) = (d.toNat : Int)) := by
 rw [Bool.eq_iff_iff]
 simp only [beq_iff_eq, decide_eq_true_eq]
 constructor
 · rintro rfl; rfl
 · intro h; exact UInt8.toNat_inj.1 (by omega)
structure TextIn where
 s : List UInt8
 hs : s.length < 9223372036854775808
section
variable {s : St}
def AgAt (s : St) (b e z : Nat) (t : Tr V) : Prop := ∃ c, s.heap.get b = some (.cells e z 1 false c) ∧ c.get 0 = some t
theorem ag_new (ho : s.on = false) (e z : Nat) (t : Tr V) : AgAt (nwP e z t s).2 s.next e z t ∧ Grew (fun _ => False) s (nwP e z t s).2 ∧ (nwP e z t s).2.next = s.next + 1 := by
 refine ⟨⟨Tr.ofListFrom .nil [t] 0, ?_, by rw [Tr.get_ofList]; rfl⟩, qce ho _ _, rfl⟩
 show (qac s e z [t]).heap.get s.next = _
 unfold qac
 rw [qf8, if_pos rfl]; rfl
theorem AgAt.ldk (ho : s.on = false) {b e z : Nat} {t : Tr V} (h : AgAt s b e z t) (hz : z < big) : ldK s b 0 z = some (t, s) := by
 obtain ⟨c, h1, h2⟩ := h
 unfold ldK
 rw [h1]
 simp only [ble_true.2 (show 0 + z ≤ z * 1 by omega), blt_true.2 (show z * 1 < big by omega), Bool.and_self, cond_true]
 unfold qf2
 rw [show Nat.beq z z = true from beq_true.2 rfl, Nat.zero_mod, show Nat.beq 0 0 = true from rfl]
 simp only [Bool.and_self, cond_true, Nat.zero_div, h2, oB, qb3 ho]
theorem AgAt.ldA (ho : s.on = false) {b e z : Nat} {t : Tr V} (h : AgAt s b e z t) (hz : z < big) : Go.Proofs.Ytbihlgcdnhoknaa.Ev.ldA z (.ptr b 0) s = some (.agg z t, s) := by
 show ((ldK s b 0 z).bind fun p => some (V.agg z p.1, p.2)) = _
 rw [h.ldk ho hz]; rfl
theorem AgAt.ldrA (ho : s.on = false) {b e z : Nat} {t : Tr V} (h : AgAt s b e z t) (hz : z < big) : Go.Proofs.Ytbihlgcdnhoknaa.Ev.ldrA z (.ptr b 0) s = some (.agg z t, s) := by
 show ((ldK s b 0 z).bind fun p => some (V.agg z p.1, p.2)) = _
 rw [h.ldk ho hz]; rfl
theorem AgAt.stA (ho : s.on = false) {b e z : Nat} {t : Tr V} (h : AgAt s b e z t) (hz : z < big) (u : Tr V) : ∃ w, stP z (.ptr b 0) (.agg z u) s = some (.tuple [], w) ∧ AgAt w b e z u ∧ Grew (fun x => x = b) s w ∧ w.next = s.next := by
 obtain ⟨c, h1, h2⟩ := h
 refine ⟨s.put b (.cells e z 1 false (c.set u 0)), ?_, ⟨c.set u 0, by rw [qbr, if_pos rfl], by rw [Tr.get_set, if_pos rfl]⟩, qb6 b _, rfl⟩
 show vu (bif Nat.beq z z && !false then stK s b 0 z u else none) = _
 rw [show Nat.beq z z = true from beq_true.2 rfl]
 simp only [Bool.not_false, Bool.and_self, cond_true]
 have : stK s b 0 z u = some (s.put b (.cells e z 1 false (c.set u 0))) := by
  unfold stK
  rw [h1]
  simp only [ble_true.2 (show 0 + z ≤ z * 1 by omega), blt_true.2 (show z * 1 < big by omega), Bool.and_self, Bool.not_false, cond_true]
  unfold qef
  rw [show Nat.beq z z = true from beq_true.2 rfl, Nat.zero_mod, show Nat.beq 0 0 = true from rfl]
  simp only [Bool.and_self, cond_true, Nat.zero_div, Tr.setC_eq, oB, qb3 ho]
 rw [this]; rfl
theorem AgAt.ld1 (ho : s.on = false) {b e z i : Nat} {t : Tr V} {v : V} (h : AgAt s b e z t) (hz : z < big) (hi : i < z) (hv : t.get i = some v) : Go.Proofs.Ytbihlgcdnhoknaa.Ev.ld1 (.ptr b i) s = some (v, s) := by
 obtain ⟨c, h1, h2⟩ := h
 show ld s b i = _
 exact ld_of ho h1 (by omega) (by omega) (by rw [qe0 hi, h2]; exact hv)
theorem AgAt.st1 (ho : s.on = false) {b e z i : Nat} {t : Tr V} (h : AgAt s b e z t) (hz : z < big) (h1z : 1 < z) (hi : i < z) (v : V) (hs : v.size = 1) (hc : v.cells = Go.Proofs.Ytbihlgcdnhoknaa.Ev.one v) (hv : qai v = false) : ∃ w, stP 1 (.ptr b i) v s = some (.tuple [], w) ∧ AgAt w b e z (t.set v i) ∧ Grew (fun x => x = b) s w ∧ w.next = s.next := by
 obtain ⟨c, h1, h2⟩ := h
 refine ⟨s.put b (.cells e z 1 false (c.set (t.set v i) 0)), ?_, ⟨c.set (t.set v i) 0, by rw [qbr, if_pos rfl], by rw [Tr.get_set, if_pos rfl]⟩, qb6 b _, rfl⟩
 show vu (bif Nat.beq v.size 1 && !qai v then stK s b i 1 v.cells else none) = _
 rw [hs, hv, hc]
 simp only [show Nat.beq 1 1 = true from rfl, Bool.not_false, Bool.and_self, cond_true]
 have : stK s b i 1 (Go.Proofs.Ytbihlgcdnhoknaa.Ev.one v) = some (s.put b (.cells e z 1 false (c.set (t.set v i) 0))) := by
  unfold stK
  rw [h1]
  simp only [ble_true.2 (show i + 1 ≤ z * 1 by omega), blt_true.2 (show z * 1 < big by omega), Bool.and_self, Bool.not_false, cond_true]
  unfold qef
  rw [show Nat.beq 1 z = false from beq_false.2 (by omega)]
  simp only [Bool.false_and, cond_false, qhg, show (Go.Proofs.Ytbihlgcdnhoknaa.Ev.one v).get 0 = some v from rfl, oB, Nat.add_zero, Nat.div_eq_of_lt hi, Nat.mod_eq_of_lt hi, h2, Tr.setC_eq, qb3 ho]
 rw [this]; rfl
end
def ixB (l : List UInt8) (c : UInt8) : Int := match l.findIdx? (fun x => x == c) with | some i => (i : Int) | none => -1
structure ByteIn where
 s : List UInt8
 c : UInt8
noncomputable def kfIndexByte : KF := qfd (fun p : ByteIn => [sv p.s, .int .u8 (p.c.toNat : Int)]) (fun p => En.ret (.int .i64 (ixB p.s p.c)))
theorem qhr (s : List UInt8) (c : UInt8) (S : St) : kfIndexByte.run [sv s, .int .u8 (c.toNat : Int)] S = some (.ret (.int .i64 (ixB s c)), S) :=
 qio (enc := fun p : ByteIn => [sv p.s, .int .u8 (p.c.toNat : Int)]) (out := fun p => En.ret (.int .i64 (ixB p.s p.c))) (fun p q h => by
  simp only [List.cons.injEq, V.int.injEq, true_and, and_true] at h
  rw [sv_inj h.1, UInt8.toNat_inj.1 (show p.c.toNat = q.c.toNat by omega)]) ⟨s, c⟩ S
theorem qp5 {n : Nat} (h : n < 256) : (UInt8.ofNat n).toNat = n := by simp [UInt8.toNat_ofNat']; omega
theorem extV_one (l n c : Nat) (S : St) : extV 1 [.str l n, .int .u8 (.ofNat c)] S = bif Nat.blt c 256 then match indexByte c l 0 n with
 | some i => some (.val (.int .i64 (.ofNat i)) S)
 | none => some (.val (.int .i64 (-1)) S)
 else none := rfl
theorem callK_ext {E : Env} {self : EV} {f k : Nat} (h : E.ext.get f = some k) (x y args : List V) (S : St) : qjb E self (.fn (.func f) x y) args S = (extV k (x ++ args ++ y) S).bind fun
 | .val v s => some (.ret v, s)
 | _ => none := by
 show (match E.ext.get f with | some k => _ | none => _) = _
 rw [h]
 rfl
theorem ext76 : E0.ext.get 77 = some 1 := by kernel_rfl
theorem ext_ixB (s : List UInt8) (c : UInt8) (S : St) : extV 1 [sv s, .int .u8 (c.toNat : Int)] S = some (.val (.int .i64 (ixB s c)) S) := by
 have h1 : extV 1 [sv s, .int .u8 (c.toNat : Int)] S = bif Nat.blt c.toNat 256 then match indexByte c.toNat s.length 0 (qax s) with
  | some i => some (.val (.int .i64 (.ofNat i)) S)
  | none => some (.val (.int .i64 (-1)) S)
  else none := extV_one _ _ _ _
 rw [h1, blt_true.2 c.toNat_lt, qfy, ixB]
 cases s.findIdx? (fun x => x == c) with
 | none => rfl
 | some i => rfl
theorem call76 (self : EV) (s : List UInt8) (c : UInt8) (S : St) : qjb E0 self (.fn (.func 77) [] []) [sv s, .int .u8 (c.toNat : Int)] S = some (.ret (.int .i64 (ixB s c)), S) := by
 have h := callK_ext (E := E0) (self := self) ext76 [] [] [sv s, .int .u8 (c.toNat : Int)] S
 have h2 := ext_ixB s c S
 rw [List.nil_append, List.append_nil, h2] at h
 exact h
theorem F73_of (self : EV) (N : Nat) (s : V) (c : UInt8) (S : St) (v : V) (h : qjb E0 self (.fn (.func 77) [] []) [s, .int .u8 (c.toNat : Int)] S = some (.ret v, S)) : F56 self N s (.int .u8 (c.toNat : Int)) S = some (.ret v, S) := by
 rw [F56_eq, h, callP_ret]
theorem F73_spec (self : EV) (N : Nat) (s : List UInt8) (c : UInt8) (S : St) : F56 self N (sv s) (.int .u8 (c.toNat : Int)) S = some (.ret (.int .i64 (ixB s c)), S) :=
 F73_of self N (sv s) c S (.int .i64 (ixB s c)) (call76 self s c S)
theorem kn63 {K : FuncId → Option KF} (hK : KnOk Try.prog E0 K) (h73 : K 56 = none) : KnWell Try.prog E0 24 kfIndexByte :=
 qjs (fn := Try.f24) (c := C24) (d := B24) E0_ok hK (by kernel_rfl) (by kernel_rfl) (qa5 C24 _ (by kernel_rfl)) fun p S ho => by
  refine ⟨1, .ret (.int .i64 (ixB p.s p.c)), S, (?_ : F24 (ev E0 K 1) qa4 (sv p.s) (.int .u8 (p.c.toNat : Int)) S = _), Grew.refl _ _, Fz.same (.int _ _)⟩
  rw [F24_eq, qao (c := C56) (d := B56) (by kernel_rfl) (by kernel_rfl) (qa5 C56 _ (by kernel_rfl)) h73 (F73_spec (ev E0 K 0) qa4 p.s p.c S)]
  rfl
theorem F82_spec (self : EV) (N : Nat) (r : Nat) (S : St) : ∃ v : Bool, F97 self N (.int .i32 (r : Int)) S = some (.ret (.bool v), S) := by
 rw [F97_eq, binV_ii, intsV_leq, show decide ((0 : Int) ≤ (r : Int)) = true by simp]
 simp only [oB, qmu, cond_true, binV_ii]
 rw [intsV_lss, intsV_lss]
 generalize decide ((r : Int) < 55296) = b1
 generalize decide ((57343 : Int) < (r : Int)) = b2
 cases b1 with
 | true => exact ⟨true, rfl⟩
 | false =>
  cases b2 with
  | false => exact ⟨false, rfl⟩
  | true =>
   simp only [cond_true, cond_false, oB, binV_ii, ifK_bool, qbg, qmu]
   rw [intsV_leq]
   generalize decide ((r : Int) ≤ 1114111) = b3
   cases b3
   · exact ⟨false, rfl⟩
   · exact ⟨true, rfl⟩
def bad2 : List UInt8 := [47, 0]
def ixR (r : Nat) : Int := if r = 47 then 0 else if r = 0 then 1 else -1
theorem ixB_bad2 (c : UInt8) : ixB bad2 c = ixR c.toNat := by
 unfold ixB bad2 ixR
 by_cases h1 : c = 47
 · subst h1; rfl
 · by_cases h2 : c = 0
   · subst h2; rfl
   · have h3 : ¬ c.toNat = 47 := fun h => h1 (UInt8.toNat_inj.1 h)
     have h4 : ¬ c.toNat = 0 := fun h => h2 (UInt8.toNat_inj.1 h)
     rw [if_neg h3, if_neg h4]
     have h5 : ((47 : UInt8) == c) = false := by simpa using fun h => h1 h.symm
     have h6 : ((0 : UInt8) == c) = false := by simpa using fun h => h2 h.symm
     simp [List.findIdx?_cons, h5, h6]
theorem enc_last (r : Nat) (h : 128 ≤ r) : ∃ a l, (Utf8.encode (r : Int)).data.toList = a ++ [l] ∧ 1 ≤ a.length ∧ a.length ≤ 3 ∧ 128 ≤ l.toNat := by
 unfold Utf8.encode
 have hc : 128 ≤ (if Utf8.valid (r : Int) then (r : Int).toNat else Utf8.runeError) := by
  split
  · simpa using h
  · decide
 generalize (if Utf8.valid (r : Int) then (r : Int).toNat else Utf8.runeError) = c at hc
 have hl : ∀ c : Nat, 128 ≤ (UInt8.ofNat (0x80 + c % 64)).toNat := fun c => by rw [qp5 (by omega)]; omega
 simp only
 rw [if_neg (by omega)]
 split
 · exact ⟨[_], _, rfl, by simp, by simp, hl c⟩
 · split
   · exact ⟨[_, _], _, rfl, by simp, by simp, hl c⟩
   · exact ⟨[_, _, _], _, rfl, by simp, by simp, hl c⟩
end Go.Proofs.Ytbihlgcdnhoknaa.W
