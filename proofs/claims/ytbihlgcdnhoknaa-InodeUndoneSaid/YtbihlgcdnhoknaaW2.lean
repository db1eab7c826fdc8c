/-
  WHAT THE FUNCTIONS COME TO: each is read by the evaluator, printed, and told as a function of data, part 2 of 10 (no condition).
-/
import Derived.Test.YtbihlgcdnhoknaaW1
import Derived.Test.YtbihlgcdnhoknaaProg
import Derived.KernelRfl
namespace Go.Proofs.Ytbihlgcdnhoknaa.W
open Go.Proofs.Ytbihlgcdnhoknaa.Ev
set_option maxRecDepth 100000
noncomputable section
noncomputable def C18 : Code := Try.f18.body.getD .skip
noncomputable def B18 : D := (annot C18 [[], [], [], [], [], []]).1
noncomputable def F18 (self : EV) (N : Nat) (x0 x1 : V) (S : St) : Rs := runF E0 self N Try.f18 B18 [x0, x1] S
theorem F18_eq (self : EV) (N : Nat) (x0 x1 : V) (S : St) : F18 self N x0 x1 S =
callP (self.f 35 [x0, x1] S) fun t3 S3 =>
(binV E0 .eql 62 false true t3 .nilptr).bind fun t6 =>
ifK t6 (
some (.ret .nilslice, S3)) (
(nilCheckV t3).bind fun t9 =>
(faP 5 false 1 t9).bind fun t10 =>
(ld1 t10 S3).bind fun p11 =>
callP (self.f 39 [p11.1] p11.2) fun t12 S12 =>
callP (self.f 38 [t12] S12) fun t13 S13 =>
some (.ret t13, S13)) := by kernel_rfl
noncomputable def C19 : Code := Try.f19.body.getD .skip
noncomputable def B19 : D := (annot C19 [[], [], [], [], [], [], [], [], [], [], [], [], [], [], [], [], []]).1
noncomputable def F19 (self : EV) (N : Nat) (x0 x1 x2 x3 x4 : V) (S : St) : Rs := runF E0 self N Try.f19 B19 [x0, x1, x2, x3, x4] S
theorem F19_eq (self : EV) (N : Nat) (x0 x1 x2 x3 x4 : V) (S : St) : F19 self N x0 x1 x2 x3 x4 S =
(boxK 23 x0 S).bind fun p0 =>
(boxK 3 x3 p0.2).bind fun p1 =>
(ld1 p0.1 (onS p1.2)).bind fun p3 =>
(ld1 p0.1 (onS p3.2)).bind fun p5 =>
callD (planOf E0 (B19.r.l).ops) p1.2 4 [p3.2.log, [], p5.2.log, []] (self.f 28 [p5.1, x1] (onS p5.2)) fun t7 S7 =>
(ld1 p0.1 (onS S7)).bind fun p8 =>
(ld1 p1.1 (onS p8.2)).bind fun p9 =>
callD (planOf E0 (B19.r.l).ops) p1.2 7 [p3.2.log, [], p5.2.log, [], S7.log, p8.2.log, p9.2.log] (self.f 28 [p8.1, p9.1] (onS p9.2)) fun t10 S10 =>
callD (planOf E0 (B19.r.l).ops) p1.2 9 [p3.2.log, [], p5.2.log, [], S7.log, p8.2.log, p9.2.log, S10.log, []] (self.f 29 [x4] (onS S10)) fun t12 S12 =>
(ld1 p0.1 (onS S12)).bind fun p13 =>
callD (planOf E0 (B19.r.l).ops) p1.2 13 [p3.2.log, [], p5.2.log, [], S7.log, p8.2.log, p9.2.log, S10.log, [], S12.log, p13.2.log, [], []] (self.f 37 [p13.1, x1, x2] (onS p13.2)) fun t16 S16 =>
(bsP 72 1 5 (Go.Proofs.Ytbihlgcdnhoknaa.Ev.one .nilfn) [(0, (.fn (.func 27) [p3.1] [])), (1, t7), (2, t10), (3, t12), (4, t16)] (onS S16)).bind fun p17 =>
callD (planOf E0 (B19.r.l).ops) p1.2 15 [p3.2.log, [], p5.2.log, [], S7.log, p8.2.log, p9.2.log, S10.log, [], S12.log, p13.2.log, [], [], S16.log, p17.2.log] (self.f 26 [p17.1] (onS p17.2)) fun t18 S18 =>
endP [(0, [2, 4, 5, 6, 7, 9, 10, 13]), (2, [5, 6, 10]), (4, [5, 6, 10]), (5, [6, 10]), (6, [10]), (7, [10]), (9, [10])] p1.2 [p3.2.log, [], p5.2.log, [], S7.log, p8.2.log, p9.2.log, S10.log, [], S12.log, p13.2.log, [], [], S16.log, p17.2.log, S18.log, []] (onS S18) fun S20 =>
(binV E0 .neq 27 false true t18 (.int .i64 0)).bind fun t22 =>
(guardV false t22).bind fun g24 => (bif g24 then some x1 else some (.tuple [])).bind fun t24 =>
(guardV false t22).bind fun g25 => (bif g25 then ld1 p1.1 S20 else some (.tuple [], S20)).bind fun p25 =>
(guardV false t22).bind fun g26 => (bif g26 then binV E0 .eql 3 false false t24 p25.1 else some (.tuple [])).bind fun t26 =>
(guardV false t22).bind fun g27 => (bif g27 then some t26 else some (.tuple [])).bind fun t27 =>
(guardV true t27).bind fun g28 => (bif g28 then some x2 else some (.tuple [])).bind fun t28 =>
(guardV true t27).bind fun g29 => (bif g29 then some x4 else some (.tuple [])).bind fun t29 =>
(guardV true t27).bind fun g30 => (bif g30 then binV E0 .eql 9 false false t28 t29 else some (.tuple [])).bind fun t30 =>
(guardV false t22).bind fun g31 => (bif g31 then pickV t27 (some t30) (some (.bool false)) else some (.tuple [])).bind fun t31 =>
(pickV t22 (some (.bool true)) (some t31)).bind fun t32 =>
ifK t32 (
some (.ret t18, p25.2)) (
(ld1 p0.1 p25.2).bind fun p35 =>
callP (self.f 13 [p35.1, x1, x2] p35.2) fun t38 S38 =>
(extractV t38 0).bind fun t40 =>
(extractV t38 1).bind fun t41 =>
(some (nwP 3 1 (Go.Proofs.Ytbihlgcdnhoknaa.Ev.one (.int .i64 0)) S38)).bind fun p42 =>
(stP 1 p42.1 t40 p42.2).bind fun p43 =>
(ld1 p0.1 p43.2).bind fun p47 =>
(ld1 p1.1 p47.2).bind fun p48 =>
callP (self.f 30 [p47.1, p48.1, x4] p48.2) fun t50 S50 =>
(bsP 72 1 2 (Go.Proofs.Ytbihlgcdnhoknaa.Ev.one .nilfn) [(0, t50), (1, (.fn (.func 40) [] [p1.1, p0.1, p42.1]))] S50).bind fun p52 =>
callP (self.f 26 [p52.1] p52.2) fun t53 S53 =>
(binV E0 .neq 27 false true t53 (.int .i64 0)).bind fun t56 =>
ifK t56 (
some (.ret t53, S53)) (
(ld1 p0.1 S53).bind fun p59 =>
(nilCheckV p59.1).bind fun t60 =>
(faP 4 false 1 t60).bind fun t61 =>
(ld1 t61 p59.2).bind fun p62 =>
(lookupV E0 66 p62.1 x1 false p62.2).bind fun p64 =>
(nilCheckV p64.1).bind fun t65 =>
(faP 5 false 1 t65).bind fun t66 =>
(ld1 t66 p64.2).bind fun p67 =>
(vu (deleteV E0 63 p67.1 x2 p67.2)).bind fun p69 =>
(ld1 p0.1 (onS p69.2)).bind fun p70 =>
(nilCheckV p70.1).bind fun t71 =>
(faP 4 false 1 t71).bind fun t72 =>
(ld1 t72 (onS p70.2)).bind fun p73 =>
(ld1 p1.1 (onS p73.2)).bind fun p74 =>
(lookupV E0 66 p73.1 p74.1 false (onS p74.2)).bind fun p75 =>
(nilCheckV p75.1).bind fun t76 =>
(faP 5 false 1 t76).bind fun t77 =>
(ld1 t77 (onS p75.2)).bind fun p78 =>
(ld1 p42.1 (onS p78.2)).bind fun p80 =>
(vu (updateV E0 63 p78.1 x4 p80.1 (onS p80.2))).bind fun p81 =>
endP [(0, [4, 10]), (3, [4, 10]), (4, [10]), (5, [10]), (8, [10])] p69.2 [p70.2.log, [], [], p73.2.log, p74.2.log, p75.2.log, [], [], p78.2.log, [], p80.2.log, p81.2.log] p81.2 fun S82 =>
(ld1 p0.1 (onS S82)).bind fun p83 =>
(nilCheckV p83.1).bind fun t84 =>
(faP 4 false 1 t84).bind fun t85 =>
(ld1 t85 (onS p83.2)).bind fun p86 =>
(ld1 p42.1 (onS p86.2)).bind fun p87 =>
(lookupV E0 66 p86.1 p87.1 false (onS p87.2)).bind fun p88 =>
endP [(0, [4]), (3, [4])] S82 [p83.2.log, [], [], p86.2.log, p87.2.log, p88.2.log, []] (onS p88.2) fun S90 =>
(nilCheckV p88.1).bind fun t92 =>
(faP 0 true 4 t92).bind fun t93 =>
(faP 0 false 1 t93).bind fun t94 =>
(ld1 t94 S90).bind fun p95 =>
(binV E0 .eql 3 false true p95.1 (.int .i64 2)).bind fun t96 =>
ifK t96 (
(ld1 p1.1 p95.2).bind fun p98 =>
(nilCheckV p88.1).bind fun t99 =>
(faP 4 false 1 t99).bind fun t100 =>
(stP 1 t100 p98.1 p98.2).bind fun p101 =>
some (.ret (.int .i64 0), p101.2)) (
some (.ret (.int .i64 0), p95.2)))) := by kernel_rfl
noncomputable def C39 : Code := Try.f39.body.getD .skip
noncomputable def B39 : D := (annot C39 [[], []]).1
noncomputable def F39 (self : EV) (N : Nat) (x0 : V) (S : St) : Rs := runF E0 self N Try.f39 B39 [x0] S
theorem F39_eq (self : EV) (N : Nat) (x0 : V) (S : St) : F39 self N x0 S =
(boxK 63 x0 S).bind fun p0 =>
some (.ret (.fn (.func 66) [] [p0.1]), p0.2) := by kernel_rfl
noncomputable def C40 : Code := Try.f40.body.getD .skip
noncomputable def B40 : D := (annot C40 [[], [], [1, 2, 4], [], [], [], [], [], [], [0], [3], []]).1
noncomputable def RL40 : List Nat := cellsOf Try.f40.results.toList
noncomputable def R40_1 (self : EV) (N : Nat) (nk : Ac → St → Rs) (ek : Nat → Ac → St → Rs) (a : Ac) (S : St) : Rs := projK [] a fun a => dr E0 self RL40 N (B40.r).r (mkK E0 self Try.f40 nk ek) a S
theorem R40_1_eq (self : EV) (N : Nat) (nk : Ac → St → Rs) (ek : Nat → Ac → St → Rs) (S : St) : R40_1 self N nk ek (fr 20 []) S =
some (.ret (.int .i64 0), S) := by kernel_rfl
noncomputable def L40_5 (self : EV) (N : Nat) (nk : Ac → St → Rs) (ek : Nat → Ac → St → Rs) (n : Nat) ( v1 v2 v4 : V) (S : St) : Rs := loopK [1, 2, 4] (dr E0 self RL40 N (B40.r.l.r.l.l)) (mkK E0 self Try.f40 nk ek) n (fr 20 [(1, v1), (2, v2), (4, v4)]) S
theorem qgi (self : EV) (N : Nat) (nk : Ac → St → Rs) (ek : Nat → Ac → St → Rs) (n : Nat) ( v1 v2 v4 : V) (S : St) : L40_5 self N nk ek (n + 1) v1 v2 v4 S =
(binV E0 .neq 3 false true v4 (.int .i64 1)).bind fun t7 =>
ifK t7 (
(ld1 v2 S).bind fun p9 =>
(binV E0 .eql 3 false false v4 p9.1).bind fun t10 =>
ifK t10 (
some (.ret (.int .i64 2), p9.2)) (
(ld1 v1 p9.2).bind fun p12 =>
(nilCheckV p12.1).bind fun t13 =>
(faP 4 false 1 t13).bind fun t14 =>
(ld1 t14 p12.2).bind fun p15 =>
(lookupV E0 66 p15.1 v4 false p15.2).bind fun p17 =>
(nilCheckV p17.1).bind fun t18 =>
(faP 4 false 1 t18).bind fun t19 =>
(ld1 t19 p17.2).bind fun p20 =>
L40_5 self N nk ek n v1 v2 p20.1 p20.2)) (
ek 0 (fr 20 []) S) := by kernel_rfl
noncomputable def F40 (self : EV) (N : Nat) (x0 x1 x2 : V) (S : St) : Rs := runF E0 self N Try.f40 B40 [x0, x1, x2] S
theorem F40_eq (self : EV) (N : Nat) (x0 x1 x2 : V) (S : St) : F40 self N x0 x1 x2 S =
(ld1 x0 S).bind fun p3 =>
L40_5 self N (R40_1 self N (finN E0 self Try.f40) noEx) (exB 0 (R40_1 self N (finN E0 self Try.f40) noEx) noEx) N x1 x2 p3.1 p3.2 := by kernel_rfl
end
end Go.Proofs.Ytbihlgcdnhoknaa.W
namespace Go.Proofs.Ytbihlgcdnhoknaa.W
open Go.Proofs.Ytbihlgcdnhoknaa.Ev
set_option maxRecDepth 100000
noncomputable section
noncomputable def C16 : Code := Try.f16.body.getD .skip
noncomputable def B16 : D := (annot C16 [[], [], [], [], [], [], [0, 0, 5, 6, 7, 8, 9, 46, 47], [0, 8, 9], [], [], [], [], [], [], [], [], [], [], [], [], [], [], [], []]).1
noncomputable def F16 (self : EV) (N : Nat) (x0 x1 : V) (S : St) : Rs := runF E0 self N Try.f16 B16 [x0, x1] S
theorem F16_eq (self : EV) (N : Nat) (x0 x1 : V) (S : St) : F16 self N x0 x1 S =
(boxK 44 x1 S).bind fun p0 =>
(ixA 5 1 false 1 p0.1 (.int .i64 3)).bind fun t2 =>
(ld1 t2 (onS p0.2)).bind fun p3 =>
(binV E0 .rem 5 false true p3.1 (.int .u8 4)).bind fun t4 =>
(binV E0 .add 5 true false (.int .u8 97) t4).bind fun t5 =>
(bsP 5 1 1 (Go.Proofs.Ytbihlgcdnhoknaa.Ev.one (.int .u8 0)) [(0, t5)] (onS p3.2)).bind fun p6 =>
(convertV E0 22 9 p6.1 (onS p6.2)).bind fun p7 =>
(ixA 5 1 false 1 p0.1 (.int .i64 4)).bind fun t8 =>
(ld1 t8 (onS p7.2)).bind fun p9 =>
(binV E0 .rem 5 false true p9.1 (.int .u8 4)).bind fun t10 =>
(binV E0 .add 5 true false (.int .u8 97) t10).bind fun t11 =>
(bsP 5 1 1 (Go.Proofs.Ytbihlgcdnhoknaa.Ev.one (.int .u8 0)) [(0, t11)] (onS p9.2)).bind fun p12 =>
(convertV E0 22 9 p12.1 (onS p12.2)).bind fun p13 =>
endP [(1, [7, 10, 11]), (4, [7, 10, 11]), (5, [7, 10, 11])] p0.2 [[], p3.2.log, [], [], p6.2.log, p7.2.log, [], p9.2.log, [], [], p12.2.log, p13.2.log, [], []] (onS p13.2) fun S16 =>
(ixA 5 1 false 1 p0.1 (.int .i64 1)).bind fun t17 =>
(ld1 t17 (onS S16)).bind fun p18 =>
(binV E0 .rem 5 false true p18.1 (.int .u8 12)).bind fun t19 =>
(cvI .i64 t19 (onS p18.2)).bind fun p20 =>
(binV E0 .add 3 true false (.int .i64 1) p20.1).bind fun t21 =>
(ixA 5 1 false 1 p0.1 (.int .i64 2)).bind fun t22 =>
(ld1 t22 (onS p20.2)).bind fun p23 =>
(binV E0 .rem 5 false true p23.1 (.int .u8 12)).bind fun t24 =>
(cvI .i64 t24 (onS p23.2)).bind fun p25 =>
(binV E0 .add 3 true false (.int .i64 1) p25.1).bind fun t26 =>
endP [(1, [6, 8]), (3, [6, 8])] S16 [[], p18.2.log, [], p20.2.log, [], [], p23.2.log, [], p25.2.log, [], [], []] (onS p25.2) fun S29 =>
(ixA 5 1 false 1 p0.1 (.int .i64 4)).bind fun t30 =>
(ld1 t30 S29).bind fun p31 =>
(binV E0 .rem 5 false true p31.1 (.int .u8 20)).bind fun t32 =>
(cvI .i64 t32 p31.2).bind fun p33 =>
(makeSliceK E0 22 p33.1 p33.1 p33.2).bind fun p34 =>
(convertV E0 22 9 p34.1 p34.2).bind fun p35 =>
(ixA 5 1 false 1 p0.1 (.int .i64 0)).bind fun t37 =>
(ld1 t37 p35.2).bind fun p38 =>
(binV E0 .rem 5 false true p38.1 (.int .u8 8)).bind fun t39 =>
(binV E0 .eql 5 false true t39 (.int .u8 0)).bind fun t40 =>
ifK t40 (
ifK t40 (
callP (self.f 8 [x0, t21, p7.1, (.int .i64 2), (.int .i64 493), (sv [])] p38.2) fun t45 S45 =>
(extractV t45 0).bind fun t47 =>
(extractV t45 1).bind fun t48 =>
some (.ret t48, S45)) (
(binV E0 .eql 5 false true t39 (.int .u8 2)).bind fun t53 =>
ifK t53 (
callP (self.f 8 [x0, t21, p7.1, (.int .i64 1), (.int .i64 420), p35.1] p38.2) fun t59 S59 =>
(extractV t59 0).bind fun t61 =>
(extractV t59 1).bind fun t62 =>
some (.ret t62, S59)) (
(binV E0 .eql 5 false true t39 (.int .u8 3)).bind fun t67 =>
ifK t67 (
callP (self.f 8 [x0, t21, p7.1, (.int .i64 3), (.int .i64 511), (sv [116, 111])] p38.2) fun t72 S72 =>
(extractV t72 0).bind fun t74 =>
(extractV t72 1).bind fun t75 =>
some (.ret t75, S72)) (
(binV E0 .eql 5 false true t39 (.int .u8 4)).bind fun t80 =>
ifK t80 (
callP (self.f 9 [x0, t21, p7.1, t26] p38.2) fun t86 S86 =>
some (.ret t86, S86)) (
(binV E0 .eql 5 false true t39 (.int .u8 5)).bind fun t88 =>
ifK t88 (
callP (self.f 14 [x0, t21, p7.1] p38.2) fun t93 S93 =>
some (.ret t93, S93)) (
(binV E0 .eql 5 false true t39 (.int .u8 6)).bind fun t95 =>
ifK t95 (
callP (self.f 19 [x0, t21, p7.1, t26, p13.1] p38.2) fun t102 S102 =>
some (.ret t102, S102)) (
callP (self.f 10 [x0, t26, p35.1] p38.2) fun t107 S107 =>
some (.ret t107, S107)))))))) (
(binV E0 .eql 5 false true t39 (.int .u8 1)).bind fun t109 =>
ifK t109 (
callP (self.f 8 [x0, t21, p7.1, (.int .i64 2), (.int .i64 493), (sv [])] p38.2) fun t114 S114 =>
(extractV t114 0).bind fun t116 =>
(extractV t114 1).bind fun t117 =>
some (.ret t117, S114)) (
(binV E0 .eql 5 false true t39 (.int .u8 2)).bind fun t122 =>
ifK t122 (
callP (self.f 8 [x0, t21, p7.1, (.int .i64 1), (.int .i64 420), p35.1] p38.2) fun t128 S128 =>
(extractV t128 0).bind fun t130 =>
(extractV t128 1).bind fun t131 =>
some (.ret t131, S128)) (
(binV E0 .eql 5 false true t39 (.int .u8 3)).bind fun t136 =>
ifK t136 (
callP (self.f 8 [x0, t21, p7.1, (.int .i64 3), (.int .i64 511), (sv [116, 111])] p38.2) fun t141 S141 =>
(extractV t141 0).bind fun t143 =>
(extractV t141 1).bind fun t144 =>
some (.ret t144, S141)) (
(binV E0 .eql 5 false true t39 (.int .u8 4)).bind fun t149 =>
ifK t149 (
callP (self.f 9 [x0, t21, p7.1, t26] p38.2) fun t155 S155 =>
some (.ret t155, S155)) (
(binV E0 .eql 5 false true t39 (.int .u8 5)).bind fun t157 =>
ifK t157 (
callP (self.f 14 [x0, t21, p7.1] p38.2) fun t162 S162 =>
some (.ret t162, S162)) (
(binV E0 .eql 5 false true t39 (.int .u8 6)).bind fun t164 =>
ifK t164 (
callP (self.f 19 [x0, t21, p7.1, t26, p13.1] p38.2) fun t171 S171 =>
some (.ret t171, S171)) (
callP (self.f 10 [x0, t26, p35.1] p38.2) fun t176 S176 =>
some (.ret t176, S176)))))))) := by kernel_rfl
end
end Go.Proofs.Ytbihlgcdnhoknaa.W
namespace Go.Proofs.Ytbihlgcdnhoknaa.W
open Go.Proofs.Ytbihlgcdnhoknaa.Ev
set_option maxRecDepth 100000
noncomputable section
noncomputable def C4 : Code := Try.f4.body.getD .skip
noncomputable def B4 : D := (annot C4 [[], [], [], [], [], [], [0, 1, 2, 7, 8], [], [1, 2, 7], [], [], [0, 1, 2, 7], [6], [], [], [0, 2, 7, 9], [6], [], [], [], [], [], [], [], [], [], [], [], [], [], [], [], []]).1
noncomputable def RL4 : List Nat := cellsOf Try.f4.results.toList
noncomputable def R4_7 (self : EV) (N : Nat) (nk : Ac → St → Rs) (ek : Nat → Ac → St → Rs) (a : Ac) (S : St) : Rs := projK [1, 2, 7] a fun a => dr E0 self RL4 N (B4.r.r.r).r (mkK E0 self Try.f4 nk ek) a S
theorem R4_7_eq (self : EV) (N : Nat) (nk : Ac → St → Rs) (ek : Nat → Ac → St → Rs) ( v1 v2 v7 : V) (S : St) : R4_7 self N nk ek (fr 159 [(1, v1), (2, v2), (7, v7)]) S =
(binV E0 .rem 5 false true v1 (.int .u8 12)).bind fun t9 =>
(cvI .i64 t9 S).bind fun p10 =>
(binV E0 .add 3 true false (.int .i64 1) p10.1).bind fun t11 =>
callP (self.f 17 [v7, t11] p10.2) fun t15 S15 =>
(binV E0 .eql 3 false true t15 (.int .i64 0)).bind fun t16 =>
ifK t16 (
(lnStr v2 S15).bind fun p20 =>
(foldK minV p20.1 [(.int .i64 200)] p20.2).bind fun p21 =>
(sliceV E0 9 v2 none (some p21.1) none p21.2).bind fun p22 =>
callP (self.f 11 [v7] p22.2) fun t25 S25 =>
callP (self.f 18 [v7, (.int .i64 1)] S25) fun t28 S28 =>
(lnS t28 S28).bind fun p29 =>
(some (nwP 26 2 (Tr.ofListFrom .nil [(.int .i64 0), (.int .i64 0)] 0) p29.2)).bind fun p30 =>
(stP 2 p30.1 t25 p30.2).bind fun p31 =>
callP (self.f 8 [v7, (.int .i64 1), (sv [102, 114, 101, 115, 104]), (.int .i64 1), (.int .i64 420), p22.1] p31.2) fun t36 S36 =>
(extractV t36 0).bind fun t38 =>
(extractV t36 1).bind fun t39 =>
(binV E0 .neq 27 false true t39 (.int .i64 0)).bind fun t43 =>
(guardV false t43).bind fun g45 => (bif g45 then some v7 else some (.tuple [])).bind fun t45 =>
(guardV false t43).bind fun g46 => callD (planOf E0 (B4.r.r.r.r.l.r.r.l.r.r.r.l.l).ops) S36 4 [[], [], [], []] (bif g46 then self.f 11 [t45] (onS S36) else some (.ret (.tuple []), (onS S36))) fun t46 S46 =>
(guardV false t43).bind fun g47 => (bif g47 then faP 0 false 1 p30.1 else some (.tuple [])).bind fun t47 =>
(guardV false t43).bind fun g48 => (bif g48 then ld1 t47 (onS S46) else some (.tuple [], (onS S46))).bind fun p48 =>
(guardV false t43).bind fun g49 => (bif g49 then binV E0 .add 3 false true p48.1 (.int .i64 1) else some (.tuple [])).bind fun t49 =>
(guardV false t43).bind fun g50 => (bif g50 then faP 1 false 1 p30.1 else some (.tuple [])).bind fun t50 =>
(guardV false t43).bind fun g51 => (bif g51 then ld1 t50 (onS p48.2) else some (.tuple [], (onS p48.2))).bind fun p51 =>
(guardV false t43).bind fun g52 => (bif g52 then some p22.1 else some (.tuple [])).bind fun t52 =>
(guardV false t43).bind fun g53 => (bif g53 then lnStr t52 (onS p51.2) else some (.tuple [], (onS p51.2))).bind fun p53 =>
(guardV false t43).bind fun g54 => (bif g54 then binV E0 .add 3 false false p51.1 p53.1 else some (.tuple [])).bind fun t54 =>
(guardV false t43).bind fun g55 => (bif g55 then buildV E0 26 [(0, t49), (1, t54)] else some (.tuple [])).bind fun t55 =>
(guardV false t43).bind fun g56 => (bif g56 then binV E0 .neq 26 false false t46 t55 else some (.tuple [])).bind fun t56 =>
(pickV t43 (some (.bool true)) (some t56)).bind fun t57 =>
(guardV false t57).bind fun g59 => (bif g59 then some v7 else some (.tuple [])).bind fun t59 =>
(guardV false t57).bind fun g60 => (bif g60 then some (.int .i64 1) else some (.tuple [])).bind fun t60 =>
(guardV false t57).bind fun g61 => callD (planOf E0 (B4.r.r.r.r.l.r.r.l.r.r.r.l.l).ops) S36 19 [[], [], [], [], S46.log, [], p48.2.log, [], [], p51.2.log, [], p53.2.log, [], [], [], [], [], [], []] (bif g61 then self.f 18 [t59, t60] (onS p53.2) else some (.ret (.tuple []), (onS p53.2))) fun t61 S61 =>
(guardV false t57).bind fun g62 => (bif g62 then lnS t61 (onS S61) else some (.tuple [], (onS S61))).bind fun p62 =>
(guardV false t57).bind fun g63 => (bif g63 then some p29.1 else some (.tuple [])).bind fun t63 =>
(guardV false t57).bind fun g64 => (bif g64 then binV E0 .add 3 false true t63 (.int .i64 1) else some (.tuple [])).bind fun t64 =>
(guardV false t57).bind fun g65 => (bif g65 then binV E0 .neq 3 false false p62.1 t64 else some (.tuple [])).bind fun t65 =>
(pickV t57 (some (.bool true)) (some t65)).bind fun t66 =>
endP [(4, [6, 9, 11]), (6, [9, 11]), (9, [11])] S36 [[], [], [], [], S46.log, [], p48.2.log, [], [], p51.2.log, [], p53.2.log, [], [], [], [], [], [], [], S61.log, p62.2.log, [], [], [], []] (onS p62.2) fun S67 =>
ifK t66 (
some (.ret (.bool false), S67)) (
callP (self.f 19 [v7, (.int .i64 1), (sv [102, 114, 101, 115, 104]), (.int .i64 1), (sv [111, 116, 104, 101, 114])] S67) fun t71 S71 =>
(binV E0 .neq 27 false true t71 (.int .i64 0)).bind fun t72 =>
(guardV false t72).bind fun g74 => (bif g74 then some v7 else some (.tuple [])).bind fun t74 =>
(guardV false t72).bind fun g75 => (bif g75 then some (.int .i64 1) else some (.tuple [])).bind fun t75 =>
(guardV false t72).bind fun g76 => callP (bif g76 then self.f 19 [t74, (.int .i64 1), (sv [111, 116, 104, 101, 114]), t75, (sv [102, 114, 101, 115, 104])] S71 else some (.ret (.tuple []), S71)) fun t76 S76 =>
(guardV false t72).bind fun g77 => (bif g77 then binV E0 .neq 27 false true t76 (.int .i64 0) else some (.tuple [])).bind fun t77 =>
(pickV t72 (some (.bool true)) (some t77)).bind fun t78 =>
ifK t78 (
some (.ret (.bool false), S76)) (
callP (self.f 13 [v7, (.int .i64 1), (sv [102, 114, 101, 115, 104])] S76) fun t82 S82 =>
(extractV t82 0).bind fun t84 =>
(extractV t82 1).bind fun t85 =>
(unV .not t85).bind fun t89 =>
(guardV false t89).bind fun g91 => (bif g91 then some t84 else some (.tuple [])).bind fun t91 =>
(guardV false t89).bind fun g92 => (bif g92 then some t38 else some (.tuple [])).bind fun t92 =>
(guardV false t89).bind fun g93 => (bif g93 then binV E0 .neq 3 false false t91 t92 else some (.tuple [])).bind fun t93 =>
(pickV t89 (some (.bool true)) (some t93)).bind fun t94 =>
(guardV false t94).bind fun g96 => (bif g96 then some v7 else some (.tuple [])).bind fun t96 =>
(guardV false t94).bind fun g97 => (bif g97 then some (.int .i64 1) else some (.tuple [])).bind fun t97 =>
(guardV false t94).bind fun g98 => callD (planOf E0 (B4.r.r.r.r.l.r.r.l.r.r.r.r.r.l.r.l).ops) S82 10 [[], [], [], [], [], [], [], [], [], []] (bif g98 then self.f 14 [t96, t97, (sv [102, 114, 101, 115, 104])] (onS S82) else some (.ret (.tuple []), (onS S82))) fun t98 S98 =>
(guardV false t94).bind fun g99 => (bif g99 then binV E0 .neq 27 false true t98 (.int .i64 0) else some (.tuple [])).bind fun t99 =>
(pickV t94 (some (.bool true)) (some t99)).bind fun t100 =>
(guardV false t100).bind fun g102 => (bif g102 then some v7 else some (.tuple [])).bind fun t102 =>
(guardV false t100).bind fun g103 => callD (planOf E0 (B4.r.r.r.r.l.r.r.l.r.r.r.r.r.l.r.l).ops) S82 15 [[], [], [], [], [], [], [], [], [], [], S98.log, [], [], [], []] (bif g103 then self.f 11 [t102] (onS S98) else some (.ret (.tuple []), (onS S98))) fun t103 S103 =>
(guardV false t100).bind fun g104 => (bif g104 then ldA 2 p30.1 (onS S103) else some (.tuple [], (onS S103))).bind fun p104 =>
(guardV false t100).bind fun g105 => (bif g105 then binV E0 .neq 26 false false t103 p104.1 else some (.tuple [])).bind fun t105 =>
(pickV t100 (some (.bool true)) (some t105)).bind fun t106 =>
(guardV false t106).bind fun g108 => (bif g108 then some v7 else some (.tuple [])).bind fun t108 =>
(guardV false t106).bind fun g109 => (bif g109 then some (.int .i64 1) else some (.tuple [])).bind fun t109 =>
(guardV false t106).bind fun g110 => callD (planOf E0 (B4.r.r.r.r.l.r.r.l.r.r.r.r.r.l.r.l).ops) S82 22 [[], [], [], [], [], [], [], [], [], [], S98.log, [], [], [], [], S103.log, p104.2.log, [], [], [], [], []] (bif g110 then self.f 18 [t108, t109] (onS p104.2) else some (.ret (.tuple []), (onS p104.2))) fun t110 S110 =>
(guardV false t106).bind fun g111 => (bif g111 then lnS t110 (onS S110) else some (.tuple [], (onS S110))).bind fun p111 =>
(guardV false t106).bind fun g112 => (bif g112 then some p29.1 else some (.tuple [])).bind fun t112 =>
(guardV false t106).bind fun g113 => (bif g113 then binV E0 .neq 3 false false p111.1 t112 else some (.tuple [])).bind fun t113 =>
(pickV t106 (some (.bool true)) (some t113)).bind fun t114 =>
endP [(15, [16])] S82 [[], [], [], [], [], [], [], [], [], [], S98.log, [], [], [], [], S103.log, p104.2.log, [], [], [], [], [], S110.log, p111.2.log, [], [], []] (onS p111.2) fun S115 =>
ifK t114 (
some (.ret (.bool false), S115)) (
callP (self.f 12 [v7, t38] S115) fun t119 S119 =>
(extractV t119 0).bind fun t121 =>
(extractV t119 1).bind fun t122 =>
(some (nwP 35 4 (Tr.ofListFrom .nil [(.int .i64 0), (.int .i64 0), (sv []), (.int .i64 0)] 0) S119)).bind fun p123 =>
(stP 4 p123.1 t121 p123.2).bind fun p124 =>
callP (self.f 8 [v7, (.int .i64 1), (sv [102, 114, 101, 115, 104]), (.int .i64 2), (.int .i64 493), (sv [])] p124.2) fun t128 S128 =>
(extractV t128 0).bind fun t130 =>
(extractV t128 1).bind fun t131 =>
(unV .not t122).bind fun t135 =>
(guardV true t135).bind fun g137 => (bif g137 then some t131 else some (.tuple [])).bind fun t137 =>
(guardV true t135).bind fun g138 => (bif g138 then binV E0 .eql 27 false true t137 (.int .i64 0) else some (.tuple [])).bind fun t138 =>
(pickV t135 (some t138) (some (.bool false))).bind fun t139 =>
(guardV true t139).bind fun g141 => (bif g141 then some t130 else some (.tuple [])).bind fun t141 =>
(guardV true t139).bind fun g142 => (bif g142 then some t38 else some (.tuple [])).bind fun t142 =>
(guardV true t139).bind fun g143 => (bif g143 then binV E0 .gtr 3 false false t141 t142 else some (.tuple [])).bind fun t143 =>
(pickV t139 (some t143) (some (.bool false))).bind fun t144 =>
(guardV true t144).bind fun g146 => callP (bif g146 then self.f 15 [] S128 else some (.ret (.tuple []), S128)) fun t146 S146 =>
(pickV t144 (some t146) (some (.bool false))).bind fun t147 =>
some (.ret t147, S146))))) (
(lnStr v2 S15).bind fun p151 =>
(foldK minV p151.1 [(.int .i64 200)] p151.2).bind fun p152 =>
(sliceV E0 9 v2 none (some p152.1) none p152.2).bind fun p153 =>
callP (self.f 11 [v7] p153.2) fun t156 S156 =>
callP (self.f 18 [v7, t11] S156) fun t159 S159 =>
(lnS t159 S159).bind fun p160 =>
(some (nwP 26 2 (Tr.ofListFrom .nil [(.int .i64 0), (.int .i64 0)] 0) p160.2)).bind fun p161 =>
(stP 2 p161.1 t156 p161.2).bind fun p162 =>
callP (self.f 8 [v7, t11, (sv [102, 114, 101, 115, 104]), (.int .i64 1), (.int .i64 420), p153.1] p162.2) fun t167 S167 =>
(extractV t167 0).bind fun t169 =>
(extractV t167 1).bind fun t170 =>
(binV E0 .neq 27 false true t170 (.int .i64 0)).bind fun t174 =>
(guardV false t174).bind fun g176 => (bif g176 then some v7 else some (.tuple [])).bind fun t176 =>
(guardV false t174).bind fun g177 => callD (planOf E0 (B4.r.r.r.r.l.r.r.l.r.r.r.l.l).ops) S167 4 [[], [], [], []] (bif g177 then self.f 11 [t176] (onS S167) else some (.ret (.tuple []), (onS S167))) fun t177 S177 =>
(guardV false t174).bind fun g178 => (bif g178 then faP 0 false 1 p161.1 else some (.tuple [])).bind fun t178 =>
(guardV false t174).bind fun g179 => (bif g179 then ld1 t178 (onS S177) else some (.tuple [], (onS S177))).bind fun p179 =>
(guardV false t174).bind fun g180 => (bif g180 then binV E0 .add 3 false true p179.1 (.int .i64 1) else some (.tuple [])).bind fun t180 =>
(guardV false t174).bind fun g181 => (bif g181 then faP 1 false 1 p161.1 else some (.tuple [])).bind fun t181 =>
(guardV false t174).bind fun g182 => (bif g182 then ld1 t181 (onS p179.2) else some (.tuple [], (onS p179.2))).bind fun p182 =>
(guardV false t174).bind fun g183 => (bif g183 then some p153.1 else some (.tuple [])).bind fun t183 =>
(guardV false t174).bind fun g184 => (bif g184 then lnStr t183 (onS p182.2) else some (.tuple [], (onS p182.2))).bind fun p184 =>
(guardV false t174).bind fun g185 => (bif g185 then binV E0 .add 3 false false p182.1 p184.1 else some (.tuple [])).bind fun t185 =>
(guardV false t174).bind fun g186 => (bif g186 then buildV E0 26 [(0, t180), (1, t185)] else some (.tuple [])).bind fun t186 =>
(guardV false t174).bind fun g187 => (bif g187 then binV E0 .neq 26 false false t177 t186 else some (.tuple [])).bind fun t187 =>
(pickV t174 (some (.bool true)) (some t187)).bind fun t188 =>
(guardV false t188).bind fun g190 => (bif g190 then some v7 else some (.tuple [])).bind fun t190 =>
(guardV false t188).bind fun g191 => (bif g191 then some t11 else some (.tuple [])).bind fun t191 =>
(guardV false t188).bind fun g192 => callD (planOf E0 (B4.r.r.r.r.l.r.r.l.r.r.r.l.l).ops) S167 19 [[], [], [], [], S177.log, [], p179.2.log, [], [], p182.2.log, [], p184.2.log, [], [], [], [], [], [], []] (bif g192 then self.f 18 [t190, t191] (onS p184.2) else some (.ret (.tuple []), (onS p184.2))) fun t192 S192 =>
(guardV false t188).bind fun g193 => (bif g193 then lnS t192 (onS S192) else some (.tuple [], (onS S192))).bind fun p193 =>
(guardV false t188).bind fun g194 => (bif g194 then some p160.1 else some (.tuple [])).bind fun t194 =>
(guardV false t188).bind fun g195 => (bif g195 then binV E0 .add 3 false true t194 (.int .i64 1) else some (.tuple [])).bind fun t195 =>
(guardV false t188).bind fun g196 => (bif g196 then binV E0 .neq 3 false false p193.1 t195 else some (.tuple [])).bind fun t196 =>
(pickV t188 (some (.bool true)) (some t196)).bind fun t197 =>
endP [(4, [6, 9, 11]), (6, [9, 11]), (9, [11])] S167 [[], [], [], [], S177.log, [], p179.2.log, [], [], p182.2.log, [], p184.2.log, [], [], [], [], [], [], [], S192.log, p193.2.log, [], [], [], []] (onS p193.2) fun S198 =>
ifK t197 (
some (.ret (.bool false), S198)) (
callP (self.f 19 [v7, t11, (sv [102, 114, 101, 115, 104]), (.int .i64 1), (sv [111, 116, 104, 101, 114])] S198) fun t202 S202 =>
(binV E0 .neq 27 false true t202 (.int .i64 0)).bind fun t203 =>
(guardV false t203).bind fun g205 => (bif g205 then some v7 else some (.tuple [])).bind fun t205 =>
(guardV false t203).bind fun g206 => (bif g206 then some t11 else some (.tuple [])).bind fun t206 =>
(guardV false t203).bind fun g207 => callP (bif g207 then self.f 19 [t205, (.int .i64 1), (sv [111, 116, 104, 101, 114]), t206, (sv [102, 114, 101, 115, 104])] S202 else some (.ret (.tuple []), S202)) fun t207 S207 =>
(guardV false t203).bind fun g208 => (bif g208 then binV E0 .neq 27 false true t207 (.int .i64 0) else some (.tuple [])).bind fun t208 =>
(pickV t203 (some (.bool true)) (some t208)).bind fun t209 =>
ifK t209 (
some (.ret (.bool false), S207)) (
callP (self.f 13 [v7, t11, (sv [102, 114, 101, 115, 104])] S207) fun t213 S213 =>
(extractV t213 0).bind fun t215 =>
(extractV t213 1).bind fun t216 =>
(unV .not t216).bind fun t220 =>
(guardV false t220).bind fun g222 => (bif g222 then some t215 else some (.tuple [])).bind fun t222 =>
(guardV false t220).bind fun g223 => (bif g223 then some t169 else some (.tuple [])).bind fun t223 =>
(guardV false t220).bind fun g224 => (bif g224 then binV E0 .neq 3 false false t222 t223 else some (.tuple [])).bind fun t224 =>
(pickV t220 (some (.bool true)) (some t224)).bind fun t225 =>
(guardV false t225).bind fun g227 => (bif g227 then some v7 else some (.tuple [])).bind fun t227 =>
(guardV false t225).bind fun g228 => (bif g228 then some t11 else some (.tuple [])).bind fun t228 =>
(guardV false t225).bind fun g229 => callD (planOf E0 (B4.r.r.r.r.l.r.r.l.r.r.r.r.r.l.r.l).ops) S213 10 [[], [], [], [], [], [], [], [], [], []] (bif g229 then self.f 14 [t227, t228, (sv [102, 114, 101, 115, 104])] (onS S213) else some (.ret (.tuple []), (onS S213))) fun t229 S229 =>
(guardV false t225).bind fun g230 => (bif g230 then binV E0 .neq 27 false true t229 (.int .i64 0) else some (.tuple [])).bind fun t230 =>
(pickV t225 (some (.bool true)) (some t230)).bind fun t231 =>
(guardV false t231).bind fun g233 => (bif g233 then some v7 else some (.tuple [])).bind fun t233 =>
(guardV false t231).bind fun g234 => callD (planOf E0 (B4.r.r.r.r.l.r.r.l.r.r.r.r.r.l.r.l).ops) S213 15 [[], [], [], [], [], [], [], [], [], [], S229.log, [], [], [], []] (bif g234 then self.f 11 [t233] (onS S229) else some (.ret (.tuple []), (onS S229))) fun t234 S234 =>
(guardV false t231).bind fun g235 => (bif g235 then ldA 2 p161.1 (onS S234) else some (.tuple [], (onS S234))).bind fun p235 =>
(guardV false t231).bind fun g236 => (bif g236 then binV E0 .neq 26 false false t234 p235.1 else some (.tuple [])).bind fun t236 =>
(pickV t231 (some (.bool true)) (some t236)).bind fun t237 =>
(guardV false t237).bind fun g239 => (bif g239 then some v7 else some (.tuple [])).bind fun t239 =>
(guardV false t237).bind fun g240 => (bif g240 then some t11 else some (.tuple [])).bind fun t240 =>
(guardV false t237).bind fun g241 => callD (planOf E0 (B4.r.r.r.r.l.r.r.l.r.r.r.r.r.l.r.l).ops) S213 22 [[], [], [], [], [], [], [], [], [], [], S229.log, [], [], [], [], S234.log, p235.2.log, [], [], [], [], []] (bif g241 then self.f 18 [t239, t240] (onS p235.2) else some (.ret (.tuple []), (onS p235.2))) fun t241 S241 =>
(guardV false t237).bind fun g242 => (bif g242 then lnS t241 (onS S241) else some (.tuple [], (onS S241))).bind fun p242 =>
(guardV false t237).bind fun g243 => (bif g243 then some p160.1 else some (.tuple [])).bind fun t243 =>
(guardV false t237).bind fun g244 => (bif g244 then binV E0 .neq 3 false false p242.1 t243 else some (.tuple [])).bind fun t244 =>
(pickV t237 (some (.bool true)) (some t244)).bind fun t245 =>
endP [(15, [16])] S213 [[], [], [], [], [], [], [], [], [], [], S229.log, [], [], [], [], S234.log, p235.2.log, [], [], [], [], [], S241.log, p242.2.log, [], [], []] (onS p242.2) fun S246 =>
ifK t245 (
some (.ret (.bool false), S246)) (
callP (self.f 12 [v7, t169] S246) fun t250 S250 =>
(extractV t250 0).bind fun t252 =>
(extractV t250 1).bind fun t253 =>
(some (nwP 35 4 (Tr.ofListFrom .nil [(.int .i64 0), (.int .i64 0), (sv []), (.int .i64 0)] 0) S250)).bind fun p254 =>
(stP 4 p254.1 t252 p254.2).bind fun p255 =>
callP (self.f 8 [v7, t11, (sv [102, 114, 101, 115, 104]), (.int .i64 2), (.int .i64 493), (sv [])] p255.2) fun t259 S259 =>
(extractV t259 0).bind fun t261 =>
(extractV t259 1).bind fun t262 =>
(unV .not t253).bind fun t266 =>
(guardV true t266).bind fun g268 => (bif g268 then some t262 else some (.tuple [])).bind fun t268 =>
(guardV true t266).bind fun g269 => (bif g269 then binV E0 .eql 27 false true t268 (.int .i64 0) else some (.tuple [])).bind fun t269 =>
(pickV t266 (some t269) (some (.bool false))).bind fun t270 =>
(guardV true t270).bind fun g272 => (bif g272 then some t261 else some (.tuple [])).bind fun t272 =>
(guardV true t270).bind fun g273 => (bif g273 then some t169 else some (.tuple [])).bind fun t273 =>
(guardV true t270).bind fun g274 => (bif g274 then binV E0 .gtr 3 false false t272 t273 else some (.tuple [])).bind fun t274 =>
(pickV t270 (some t274) (some (.bool false))).bind fun t275 =>
(guardV true t275).bind fun g277 => callP (bif g277 then self.f 15 [] S259 else some (.ret (.tuple []), S259)) fun t277 S277 =>
(pickV t275 (some t277) (some (.bool false))).bind fun t278 =>
some (.ret t278, S277))))) := by kernel_rfl
noncomputable def L4_281 (self : EV) (N : Nat) (nk : Ac → St → Rs) (ek : Nat → Ac → St → Rs) (n : Nat) ( v0 v1 v2 v7 v8 : V) (S : St) : Rs := loopK [0, 1, 2, 7, 8] (dr E0 self RL4 N (B4.r.r.r.l.r.l.l)) (mkK E0 self Try.f4 nk ek) n (fr 159 [(0, v0), (1, v1), (2, v2), (7, v7), (8, v8)]) S
theorem qgx (self : EV) (N : Nat) (nk : Ac → St → Rs) (ek : Nat → Ac → St → Rs) (n : Nat) ( v0 v1 v2 v7 v8 : V) (S : St) : L4_281 self N nk ek (n + 1) v0 v1 v2 v7 v8 S =
(lnS v0 S).bind fun p284 =>
(binV E0 .lss 3 false false v8 p284.1).bind fun t285 =>
(guardV true t285).bind fun g287 => (bif g287 then some v8 else some (.tuple [])).bind fun t287 =>
(guardV true t285).bind fun g288 => (bif g288 then binV E0 .lss 3 false true t287 (.int .i64 30) else some (.tuple [])).bind fun t288 =>
(pickV t285 (some t288) (some (.bool false))).bind fun t289 =>
ifK t289 (
(ixP 5 v0 v8).bind fun t293 =>
(ldA 5 t293 p284.2).bind fun p294 =>
callP (self.f 16 [v7, p294.1] p294.2) fun t295 S295 =>
(binV E0 .add 3 false true v8 (.int .i64 1)).bind fun t297 =>
L4_281 self N nk ek n v0 v1 v2 v7 t297 S295) (
ek 0 (fr 159 [(1, v1), (2, v2), (7, v7)]) p284.2) := by kernel_rfl
noncomputable def F4 (self : EV) (N : Nat) (x0 x1 x2 : V) (S : St) : Rs := runF E0 self N Try.f4 B4 [x0, x1, x2] S
theorem F4_eq (self : EV) (N : Nat) (x0 x1 x2 : V) (S : St) : F4 self N x0 x1 x2 S =
(buildV E0 26 [(0, (.int .i64 40)), (1, (.int .i64 2000))]).bind fun t1 =>
callP (self.f 7 [t1] S) fun t2 S2 =>
(binV E0 .eql 23 false true t2 .nilptr).bind fun t5 =>
ifK t5 (
some (.ret (.bool false), S2)) (
L4_281 self N (R4_7 self N (finN E0 self Try.f4) noEx) (exB 0 (R4_7 self N (finN E0 self Try.f4) noEx) noEx) N x0 x1 x2 t2 (.int .i64 0) S2) := by kernel_rfl
end
end Go.Proofs.Ytbihlgcdnhoknaa.W
namespace Go.Proofs.Ytbihlgcdnhoknaa.W
open Go.Proofs.Ytbihlgcdnhoknaa.Ev
theorem E0_ok : EnvOk Try.prog E0 := envOf_ok (by kernel_rfl) (by kernel_rfl) (by kernel_rfl) (fun p hp => by
 simp only [List.mem_cons, List.not_mem_nil, or_false] at hp
 rcases hp with rfl
 exact ⟨fun _ args w => by kernel_rfl, fun h => absurd h (by decide), fun h => absurd h (by decide), fun h => absurd h (by decide), fun h => absurd h (by decide)⟩
 ) (by kernel_rfl) (by kernel_rfl) (by kernel_rfl)
inductive Nd where
 | mk (name : List UInt8) (kind : Int) (exec : Bool) (data : List UInt8) (kids : List Nd)
def Nd.name : Nd → List UInt8 | .mk n _ _ _ _ => n
def Nd.kind : Nd → Int | .mk _ k _ _ _ => k
def Nd.exec : Nd → Bool | .mk _ _ e _ _ => e
def Nd.data : Nd → List UInt8 | .mk _ _ _ d _ => d
def Nd.kids : Nd → List Nd | .mk _ _ _ _ l => l
mutual
def cntN : Nd → Nat
 | .mk _ _ _ _ l => 1 + cntL l
def cntL : List Nd → Nat
 | [] => 0
 | x :: l => cntN x + cntL l
end
mutual
def Nd.ok : Nd → Prop
 | .mk n k _ d l => n.length < 9223372036854775808 ∧ (-9223372036854775808 ≤ k ∧ k < 9223372036854775808) ∧ d.length ≤ 3000 ∧ l.length ≤ 3000 ∧ 1 + cntL l < 4611686018427387904 ∧ okL l
def okL : List Nd → Prop
 | [] => True
 | x :: l => x.ok ∧ okL l
end
theorem okL_iff : ∀ l : List Nd, okL l ↔ ∀ x ∈ l, x.ok
 | [] => by simp [okL]
 | x :: l => by simp [okL, okL_iff l]
structure NdOk (x : Nd) : Prop where
 name : x.name.length < 9223372036854775808
 kind : -9223372036854775808 ≤ x.kind ∧ x.kind < 9223372036854775808
 data : x.data.length ≤ 3000
 few : x.kids.length ≤ 3000
 cnt : 1 + cntL x.kids < 4611686018427387904
 kids : ∀ y ∈ x.kids, y.ok
theorem Nd.ok.at {x : Nd} (h : x.ok) : NdOk x := by
 cases x with
 | mk n k e d l =>
  rw [Nd.ok] at h
  obtain ⟨h1, h2, h3, h4, hc, h5⟩ := h
  exact ⟨h1, h2, h3, h4, hc, (okL_iff l).1 h5⟩
section
variable {s : St}
variable {b : Nat} {x : Nd}
end
end Go.Proofs.Ytbihlgcdnhoknaa.W
namespace Go.Proofs.Ytbihlgcdnhoknaa.W
open Go.Proofs.Ytbihlgcdnhoknaa.Ev
theorem drop_at {α : Type} {l r : List α} {i : Nat} {y : α} (h : l.drop i = y :: r) : ∃ hlt : i < l.length, l[i] = y ∧ l.drop (i + 1) = r ∧ y ∈ l := by
 have hlt : i < l.length := by
  rcases Nat.lt_or_ge i l.length with h' | h'
  · exact h'
  · rw [List.drop_eq_nil_of_le h'] at h; cases h
 rw [List.drop_eq_getElem_cons hlt] at h
 simp only [List.cons.injEq] at h
 exact ⟨hlt, h.1, h.2, h.1 ▸ List.getElem_mem hlt⟩
theorem drop_end {α : Type} {l : List α} {i : Nat} (h : l.drop i = []) : l.length ≤ i := List.drop_eq_nil_iff.1 h
theorem dec_lt {a b : Nat} (h : a < b) : decide ((a : Int) < (b : Int)) = true := by simp; omega
theorem dec_ge {a b : Nat} (h : b ≤ a) : decide ((a : Int) < (b : Int)) = false := by simp; omega
theorem qiq {i : Nat} (h : i < 9223372036854775807) : IntKind.i64.wrap ((i : Int) + 1) = ((i + 1 : Nat) : Int) := by
 rw [qcq (by omega) (by omega)]; omega
end Go.Proofs.Ytbihlgcdnhoknaa.W
namespace Go.Proofs.Ytbihlgcdnhoknaa.W
open Go.Proofs.Ytbihlgcdnhoknaa.Ev
def badByte (c : UInt8) : Bool := c == 47 || c == 0
theorem u8_eq (c d : UInt8) : (c == d) = decide ((c.toNat : Int) = (d.toNat : Int)) := by
 rw [Bool.eq_iff_iff]
 simp only [beq_iff_eq, decide_eq_true_eq]
 constructor
 · rintro rfl; rfl
 · intro h; exact UInt8.toNat_inj.1 (by omega)
structure TextIn where
 s : List UInt8
 hs : s.length < 9223372036854775808
end Go.Proofs.Ytbihlgcdnhoknaa.W
namespace Go.Proofs.Ytbihlgcdnhoknaa.W
open Go.Proofs.Ytbihlgcdnhoknaa.Ev
section
variable {s : St}
def AgAt (s : St) (b e z : Nat) (t : Tr V) : Prop := ∃ c, s.heap.get b = some (.cells e z 1 false c) ∧ c.get 0 = some t
theorem ag_new (ho : s.on = false) (e z : Nat) (t : Tr V) : AgAt (nwP e z t s).2 s.next e z t ∧ Grew (fun _ => False) s (nwP e z t s).2 ∧ (nwP e z t s).2.next = s.next + 1 := by
 refine ⟨⟨Tr.ofListFrom .nil [t] 0, ?_, by rw [Tr.get_ofList]; rfl⟩, qbf ho _ _, rfl⟩
 show (newCells s e z [t]).heap.get s.next = _
 unfold newCells
 rw [qcm, if_pos rfl]; rfl
theorem AgAt.ldk (ho : s.on = false) {b e z : Nat} {t : Tr V} (h : AgAt s b e z t) (hz : z < big) : ldK s b 0 z = some (t, s) := by
 obtain ⟨c, h1, h2⟩ := h
 unfold ldK
 rw [h1]
 simp only [ble_true.2 (show 0 + z ≤ z * 1 by omega), blt_true.2 (show z * 1 < big by omega), Bool.and_self, cond_true]
 unfold elemIn
 rw [show Nat.beq z z = true from beq_true.2 rfl, Nat.zero_mod, show Nat.beq 0 0 = true from rfl]
 simp only [Bool.and_self, cond_true, Nat.zero_div, h2, oB, qai ho]
theorem AgAt.ldA (ho : s.on = false) {b e z : Nat} {t : Tr V} (h : AgAt s b e z t) (hz : z < big) : Go.Proofs.Ytbihlgcdnhoknaa.Ev.ldA z (.ptr b 0) s = some (.agg z t, s) := by
 show ((ldK s b 0 z).bind fun p => some (V.agg z p.1, p.2)) = _
 rw [h.ldk ho hz]; rfl
theorem AgAt.ldrA (ho : s.on = false) {b e z : Nat} {t : Tr V} (h : AgAt s b e z t) (hz : z < big) : Go.Proofs.Ytbihlgcdnhoknaa.Ev.ldrA z (.ptr b 0) s = some (.agg z t, s) := by
 show ((ldK s b 0 z).bind fun p => some (V.agg z p.1, p.2)) = _
 rw [h.ldk ho hz]; rfl
theorem AgAt.stA (ho : s.on = false) {b e z : Nat} {t : Tr V} (h : AgAt s b e z t) (hz : z < big) (u : Tr V) : ∃ w, stP z (.ptr b 0) (.agg z u) s = some (.tuple [], w) ∧ AgAt w b e z u ∧ Grew (fun x => x = b) s w ∧ w.next = s.next := by
 obtain ⟨c, h1, h2⟩ := h
 refine ⟨s.put b (.cells e z 1 false (c.set u 0)), ?_, ⟨c.set u 0, by rw [qau, if_pos rfl], by rw [Tr.get_set, if_pos rfl]⟩, qal b _, rfl⟩
 show vu (bif Nat.beq z z && !false then stK s b 0 z u else none) = _
 rw [show Nat.beq z z = true from beq_true.2 rfl]
 simp only [Bool.not_false, Bool.and_self, cond_true]
 have : stK s b 0 z u = some (s.put b (.cells e z 1 false (c.set u 0))) := by
  unfold stK
  rw [h1]
  simp only [ble_true.2 (show 0 + z ≤ z * 1 by omega), blt_true.2 (show z * 1 < big by omega), Bool.and_self, Bool.not_false, cond_true]
  unfold elemTo
  rw [show Nat.beq z z = true from beq_true.2 rfl, Nat.zero_mod, show Nat.beq 0 0 = true from rfl]
  simp only [Bool.and_self, cond_true, Nat.zero_div, Tr.setC_eq, oB, qai ho]
 rw [this]; rfl
theorem AgAt.ld1 (ho : s.on = false) {b e z i : Nat} {t : Tr V} {v : V} (h : AgAt s b e z t) (hz : z < big) (hi : i < z) (hv : t.get i = some v) : Go.Proofs.Ytbihlgcdnhoknaa.Ev.ld1 (.ptr b i) s = some (v, s) := by
 obtain ⟨c, h1, h2⟩ := h
 show ld s b i = _
 exact ld_of ho h1 (by omega) (by omega) (by rw [qbt hi, h2]; exact hv)
theorem AgAt.st1 (ho : s.on = false) {b e z i : Nat} {t : Tr V} (h : AgAt s b e z t) (hz : z < big) (h1z : 1 < z) (hi : i < z) (v : V) (hs : v.size = 1) (hc : v.cells = Go.Proofs.Ytbihlgcdnhoknaa.Ev.one v) (hv : isTuple v = false) : ∃ w, stP 1 (.ptr b i) v s = some (.tuple [], w) ∧ AgAt w b e z (t.set v i) ∧ Grew (fun x => x = b) s w ∧ w.next = s.next := by
 obtain ⟨c, h1, h2⟩ := h
 refine ⟨s.put b (.cells e z 1 false (c.set (t.set v i) 0)), ?_, ⟨c.set (t.set v i) 0, by rw [qau, if_pos rfl], by rw [Tr.get_set, if_pos rfl]⟩, qal b _, rfl⟩
 show vu (bif Nat.beq v.size 1 && !isTuple v then stK s b i 1 v.cells else none) = _
 rw [hs, hv, hc]
 simp only [show Nat.beq 1 1 = true from rfl, Bool.not_false, Bool.and_self, cond_true]
 have : stK s b i 1 (Go.Proofs.Ytbihlgcdnhoknaa.Ev.one v) = some (s.put b (.cells e z 1 false (c.set (t.set v i) 0))) := by
  unfold stK
  rw [h1]
  simp only [ble_true.2 (show i + 1 ≤ z * 1 by omega), blt_true.2 (show z * 1 < big by omega), Bool.and_self, Bool.not_false, cond_true]
  unfold elemTo
  rw [show Nat.beq 1 z = false from beq_false.2 (by omega)]
  simp only [Bool.false_and, cond_false, cellsTo, show (Go.Proofs.Ytbihlgcdnhoknaa.Ev.one v).get 0 = some v from rfl, oB, Nat.add_zero, Nat.div_eq_of_lt hi, Nat.mod_eq_of_lt hi, h2, Tr.setC_eq, qai ho]
 rw [this]; rfl
end
def ixB (l : List UInt8) (c : UInt8) : Int := match l.findIdx? (fun x => x == c) with | some i => (i : Int) | none => -1
structure ByteIn where
 s : List UInt8
 c : UInt8
noncomputable def kfIndexByte : KF := specKF (fun p : ByteIn => [sv p.s, .int .u8 (p.c.toNat : Int)]) (fun p => En.ret (.int .i64 (ixB p.s p.c)))
theorem qdl (s : List UInt8) (c : UInt8) (S : St) : kfIndexByte.run [sv s, .int .u8 (c.toNat : Int)] S = some (.ret (.int .i64 (ixB s c)), S) :=
 qe7 (enc := fun p : ByteIn => [sv p.s, .int .u8 (p.c.toNat : Int)]) (out := fun p => En.ret (.int .i64 (ixB p.s p.c))) (fun p q h => by
  simp only [List.cons.injEq, V.int.injEq, true_and, and_true] at h
  rw [sv_inj h.1, UInt8.toNat_inj.1 (show p.c.toNat = q.c.toNat by omega)]) ⟨s, c⟩ S
theorem qij {n : Nat} (h : n < 256) : (UInt8.ofNat n).toNat = n := by simp [UInt8.toNat_ofNat']; omega
theorem extV_one (l n c : Nat) (S : St) : extV 1 [.str l n, .int .u8 (.ofNat c)] S = bif Nat.blt c 256 then match indexByte c l 0 n with
 | some i => some (.val (.int .i64 (.ofNat i)) S)
 | none => some (.val (.int .i64 (-1)) S)
 else none := rfl
theorem callK_ext {E : Env} {self : EV} {f k : Nat} (h : E.ext.get f = some k) (x y args : List V) (S : St) : callK E self (.fn (.func f) x y) args S = (extV k (x ++ args ++ y) S).bind fun
 | .val v s => some (.ret v, s)
 | _ => none := by
 show (match E.ext.get f with | some k => _ | none => _) = _
 rw [h]
 rfl
theorem ext76 : E0.ext.get 77 = some 1 := by kernel_rfl
theorem ext_ixB (s : List UInt8) (c : UInt8) (S : St) : extV 1 [sv s, .int .u8 (c.toNat : Int)] S = some (.val (.int .i64 (ixB s c)) S) := by
 have h1 : extV 1 [sv s, .int .u8 (c.toNat : Int)] S = bif Nat.blt c.toNat 256 then match indexByte c.toNat s.length 0 (pack s) with
  | some i => some (.val (.int .i64 (.ofNat i)) S)
  | none => some (.val (.int .i64 (-1)) S)
  else none := extV_one _ _ _ _
 rw [h1, blt_true.2 c.toNat_lt, qcs, ixB]
 cases s.findIdx? (fun x => x == c) with
 | none => rfl
 | some i => rfl
theorem call76 (self : EV) (s : List UInt8) (c : UInt8) (S : St) : callK E0 self (.fn (.func 77) [] []) [sv s, .int .u8 (c.toNat : Int)] S = some (.ret (.int .i64 (ixB s c)), S) := by
 have h := callK_ext (E := E0) (self := self) ext76 [] [] [sv s, .int .u8 (c.toNat : Int)] S
 have h2 := ext_ixB s c S
 rw [List.nil_append, List.append_nil, h2] at h
 exact h
theorem F73_of (self : EV) (N : Nat) (s : V) (c : UInt8) (S : St) (v : V) (h : callK E0 self (.fn (.func 77) [] []) [s, .int .u8 (c.toNat : Int)] S = some (.ret v, S)) : F56 self N s (.int .u8 (c.toNat : Int)) S = some (.ret v, S) := by
 rw [F56_eq, h, callP_ret]
theorem F73_spec (self : EV) (N : Nat) (s : List UInt8) (c : UInt8) (S : St) : F56 self N (sv s) (.int .u8 (c.toNat : Int)) S = some (.ret (.int .i64 (ixB s c)), S) :=
 F73_of self N (sv s) c S (.int .i64 (ixB s c)) (call76 self s c S)
theorem kn63 {K : FuncId → Option KF} (hK : KnOk Try.prog E0 K) (h73 : K 56 = none) : KnWell Try.prog E0 24 kfIndexByte :=
 qeq (fn := Try.f24) (c := C24) (d := B24) E0_ok hK (by kernel_rfl) (by kernel_rfl) (qa2 C24 _ (by kernel_rfl)) fun p S ho => by
  refine ⟨1, .ret (.int .i64 (ixB p.s p.c)), S, (?_ : F24 (ev E0 K 1) rounds (sv p.s) (.int .u8 (p.c.toNat : Int)) S = _), Grew.refl _ _, Fz.same (.int _ _)⟩
  rw [F24_eq, qaa (c := C56) (d := B56) (by kernel_rfl) (by kernel_rfl) (qa2 C56 _ (by kernel_rfl)) h73 (F73_spec (ev E0 K 0) rounds p.s p.c S)]
  rfl
theorem F82_spec (self : EV) (N : Nat) (r : Nat) (S : St) : ∃ v : Bool, F97 self N (.int .i32 (r : Int)) S = some (.ret (.bool v), S) := by
 rw [F97_eq, binV_ii, intsV_leq, show decide ((0 : Int) ≤ (r : Int)) = true by simp]
 simp only [oB, qgp, cond_true, binV_ii]
 rw [intsV_lss, intsV_lss]
 generalize decide ((r : Int) < 55296) = b1
 generalize decide ((57343 : Int) < (r : Int)) = b2
 cases b1 with
 | true => exact ⟨true, rfl⟩
 | false =>
  cases b2 with
  | false => exact ⟨false, rfl⟩
  | true =>
   simp only [cond_true, cond_false, oB, binV_ii, ifK_bool, pickV, qgp]
   rw [intsV_leq]
   generalize decide ((r : Int) ≤ 1114111) = b3
   cases b3
   · exact ⟨false, rfl⟩
   · exact ⟨true, rfl⟩
def bad2 : List UInt8 := [47, 0]
def ixR (r : Nat) : Int := if r = 47 then 0 else if r = 0 then 1 else -1
theorem ixB_bad2 (c : UInt8) : ixB bad2 c = ixR c.toNat := by
 unfold ixB bad2 ixR
 by_cases h1 : c = 47
 · subst h1; rfl
 · by_cases h2 : c = 0
   · subst h2; rfl
   · have h3 : ¬ c.toNat = 47 := fun h => h1 (UInt8.toNat_inj.1 h)
     have h4 : ¬ c.toNat = 0 := fun h => h2 (UInt8.toNat_inj.1 h)
     rw [if_neg h3, if_neg h4]
     have h5 : ((47 : UInt8) == c) = false := by simpa using fun h => h1 h.symm
     have h6 : ((0 : UInt8) == c) = false := by simpa using fun h => h2 h.symm
     simp [List.findIdx?_cons, h5, h6]
theorem enc_last (r : Nat) (h : 128 ≤ r) : ∃ a l, (Utf8.encode (r : Int)).data.toList = a ++ [l] ∧ 1 ≤ a.length ∧ a.length ≤ 3 ∧ 128 ≤ l.toNat := by
 unfold Utf8.encode
 have hc : 128 ≤ (if Utf8.valid (r : Int) then (r : Int).toNat else Utf8.runeError) := by
  split
  · simpa using h
  · decide
 generalize (if Utf8.valid (r : Int) then (r : Int).toNat else Utf8.runeError) = c at hc
 have hl : ∀ c : Nat, 128 ≤ (UInt8.ofNat (0x80 + c % 64)).toNat := fun c => by rw [qij (by omega)]; omega
 simp only
 rw [if_neg (by omega)]
 split
 · exact ⟨[_], _, rfl, by simp, by simp, hl c⟩
 · split
   · exact ⟨[_, _], _, rfl, by simp, by simp, hl c⟩
   · exact ⟨[_, _, _], _, rfl, by simp, by simp, hl c⟩
end Go.Proofs.Ytbihlgcdnhoknaa.W
namespace Go.Proofs.Ytbihlgcdnhoknaa.W
open Go.Proofs.Ytbihlgcdnhoknaa.Ev
theorem und9 : und E0 9 = some .string := by kernel_rfl
theorem und21 : und E0 21 = some (.int .i32) := by kernel_rfl
section
variable {s : St}
theorem nextK_at (ho : s.on = false) {b l n pos : Nat} (h : s.heap.get b = some (.siter l n pos)) (hlt : pos < l) : nextK (.ptr b 0) true s = some (.tuple [.bool true, .int .i64 (pos : Int), .int .i32 ((decP l n pos).1 : Int)], s.put b (.siter l n (pos + (decP l n pos).2))) := by
 unfold nextK getO
 simp only [cond_true, show Nat.beq 0 0 = true from rfl, h, oB, qai ho, blt_true.2 hlt]
 unfold setO
 rw [qai ho]; rfl
theorem nextK_end (ho : s.on = false) {b l n pos : Nat} (h : s.heap.get b = some (.siter l n pos)) (hge : l ≤ pos) : nextK (.ptr b 0) true s = some (.tuple [.bool false], s) := by
 unfold nextK getO
 have hb : Nat.blt pos l = false := by
  cases hc : Nat.blt pos l with
  | false => rfl
  | true => rw [blt_true] at hc; omega
 simp only [cond_true, show Nat.beq 0 0 = true from rfl, h, oB, qai ho, hb, cond_false]
theorem qib (l : List UInt8) : rangeStrK E0 9 (sv l) s = some (.ptr s.next 0, nw s (.siter l.length (pack l) 0)) := by
 unfold rangeStrK
 rw [und9]; rfl
theorem put_on {b : Nat} {o : O} (ho : s.on = false) : (s.put b o).on = false := ho
end
theorem dec_bad0 : decP 2 (pack bad2) 0 = (47, 1) := by decide +kernel
theorem dec_bad1 : decP 2 (pack bad2) 1 = (0, 1) := by decide +kernel
theorem L78_bad (self : EV) (N : Nat) (nk : Ac → St → Rs) (ek : Nat → Ac → St → Rs) (n : Nat) (b : Nat) (S : St) (ho : S.on = false) (h : S.heap.get b = some (.siter 2 (pack bad2) 0)) (hb : b < S.next) :
 ∃ S', L82_20 self N nk ek (n + 3) (.ptr b 0) S = ek 9 (fr 187 []) S' ∧ Grew (fun x => x = b) S S' := by
 have g0 : (S.put b (.siter 2 (pack bad2) (0 + (decP 2 (pack bad2) 0).2))).heap.get b = some (.siter 2 (pack bad2) 1) := by rw [qau, if_pos rfl, dec_bad0]; rfl
 have g1 : ((S.put b (.siter 2 (pack bad2) (0 + (decP 2 (pack bad2) 0).2))).put b (.siter 2 (pack bad2) (1 + (decP 2 (pack bad2) 1).2))).heap.get b = some (.siter 2 (pack bad2) 2) := by rw [qau, if_pos rfl, dec_bad1]; rfl
 refine ⟨_, ?_, (qal (s := S) b (.siter 2 (pack bad2) (0 + (decP 2 (pack bad2) 0).2))).trans (qal b (.siter 2 (pack bad2) (1 + (decP 2 (pack bad2) 1).2)))⟩
 rw [qgz, nextK_at ho h (by omega), dec_bad0]
 simp only [oB, extractV, List.getElem?_cons_zero, List.getElem?_cons_succ, ifK_bool, cond_true, binV_ii]
 rw [intsV_eql, show decide (((47 : Nat) : Int) = 65533) = false by decide]
 simp only [oB, ifK_bool, cond_false]
 rw [dec_bad0] at g0 g1
 rw [qgz, nextK_at (put_on ho) g0 (by omega), dec_bad1]
 simp only [oB, extractV, List.getElem?_cons_zero, List.getElem?_cons_succ, ifK_bool, cond_true, binV_ii]
 rw [intsV_eql, show decide (((0 : Nat) : Int) = 65533) = false by decide]
 simp only [oB, ifK_bool, cond_false]
 rw [dec_bad1] at g1
 rw [qgz, nextK_end (put_on (put_on ho)) g1 (by omega)]
 simp only [oB, extractV, List.getElem?_cons_zero, ifK_bool, cond_false]
theorem L78_enc (self : EV) (N : Nat) (nk : Ac → St → Rs) (ek : Nat → Ac → St → Rs) (n : Nat) (a : List UInt8) (l : UInt8) (h1 : 1 ≤ a.length) (h3 : a.length ≤ 3) (hl : 128 ≤ l.toNat) (S : St) (ho : S.on = false)
 (h63 : ∀ (s : List UInt8) (c : UInt8) S, self.f 24 [sv s, .int .u8 (c.toNat : Int)] S = some (.ret (.int .i64 (ixB s c)), S)) :
 L82_48 self N nk ek (n + 1) (sv bad2) (sv (a ++ [l])) (.int .i64 (a.length : Int)) (.int .i64 (a.length : Int)) S = some (.ret (.int .i64 (-1)), S) ∨ L82_48 self N nk ek (n + 1) (sv bad2) (sv (a ++ [l])) (.int .i64 (a.length : Int)) (.int .i64 (a.length : Int)) S = ek 1 (fr 187 []) S := by
 rw [L82_48_eq]
 simp only [lnStr_sv, oB, binV_ii, intsV_lss, show bad2.length = 2 from rfl]
 by_cases h2 : a.length = 1
 · left
   have hlast : (a ++ [l])[1]'(by simp; omega) = l := by rw [List.getElem_append_right (by omega)]; simp [h2]
   rw [h2]
   simp only [show decide (((1 : Nat) : Int) < ((2 : Nat) : Int)) = true by decide, ifK_bool, cond_true, ixS_sv bad2 .i64 1 (by decide), ixS_sv (a ++ [l]) .i64 1 (by simp; omega), hlast, oB, binV_ii, intsV_neq, qcj ho]
   have hne : decide (((bad2[1]'(by decide)).toNat : Int) = (l.toNat : Int)) = false := by
    rw [decide_eq_false_iff_not]
    show ¬ ((0 : Nat) : Int) = (l.toNat : Int)
    omega
   rw [hne]
   simp only [Bool.not_false, cond_true, intsV_add, oB]
   rw [show IntKind.i64.wrap (((1 : Nat) : Int) + 1) = ((2 : Nat) : Int) by decide, slice_sv und9 bad2 (bounds_lo .i64 (show 2 ≤ bad2.length by decide)) (Nat.le_refl _)]
   simp only [oB, ixS_sv (a ++ [l]) .i64 1 (by simp; omega), hlast]
   rw [show List.take (bad2.length - 2) (List.drop 2 bad2) = [] from rfl, h63 [] l, show ixB [] l = -1 from rfl]
   simp only [qa8, binV_ii, intsV_lss, show decide ((-1 : Int) < 0) = true by decide, oB, ifK_bool, cond_true, qcj ho, qbv]
 · right
   rw [show decide ((a.length : Int) < ((2 : Nat) : Int)) = false by simp; omega]
   rfl
theorem convertV_rune {E : Env} {src dst : TypeId} {k k' : IntKind} (hs : und E src = some (.int k)) (hd : und E dst = some .string) (n : Int) (S : St) : convertV E src dst (.int k' n) S = some (sv (Utf8.encode n).data.toList, S) := by
 unfold convertV sv
 rw [hs, hd]
 rfl
structure RuneIn where
 r : Nat
 hr : r ≤ 1114111
noncomputable def kfIndexRune : KF := specKF (fun p : RuneIn => [sv bad2, .int .i32 (p.r : Int)]) (fun p => En.ret (.int .i64 (ixR p.r)))
theorem qho (r : Nat) (hr : r ≤ 1114111) (S : St) : kfIndexRune.run [sv bad2, .int .i32 (r : Int)] S = some (.ret (.int .i64 (ixR r)), S) :=
 qe7 (enc := fun p : RuneIn => [sv bad2, .int .i32 (p.r : Int)]) (out := fun p => En.ret (.int .i64 (ixR p.r))) (fun p q h => by
  simp only [List.cons.injEq, V.int.injEq, true_and, and_true] at h
  rw [show p.r = q.r by omega]) ⟨r, hr⟩ S
theorem F78_far (self : EV) (m : Nat) (x : V) (b1 v : Bool) (a : List UInt8) (l : UInt8) (h1 : 1 ≤ a.length) (h3 : a.length ≤ 3) (hl : 128 ≤ l.toNat) (S : St) (ho : S.on = false)
 (h63 : ∀ (s : List UInt8) (c : UInt8) S, self.f 24 [sv s, .int .u8 (c.toNat : Int)] S = some (.ret (.int .i64 (ixB s c)), S))
 (e0 : binV E0 .leq 21 true false (.int .i32 0) x = some (.bool true)) (e1 : binV E0 .lss 21 false true x (.int .i32 128) = some (.bool false)) (e2 : binV E0 .eql 21 false true x (.int .i32 65533) = some (.bool b1))
 (h82 : self.f 97 [x] S = some (.ret (.bool v), S)) (hcv : convertV E0 21 9 x S = some (sv (a ++ [l]), S)) :
 ∃ S', F82 self (m + 3) (sv bad2) x S = some (.ret (.int .i64 (-1)), S') ∧ Grew (fun _ => False) S S' := by
 rw [F82_eq, e0]
 simp only [oB, qgp, cond_true]
 rw [e1]
 simp only [oB, pickV, cond_true, ifK_bool, cond_false]
 rw [e2]
 cases b1 with
 | true =>
  simp only [oB, ifK_bool, cond_true, qib]
  have hg := qbf ho (fun _ => False) (.siter bad2.length (pack bad2) 0)
  obtain ⟨S', h1, h2⟩ := L78_bad self (m + 3) (R82_16 self (m + 3) (finN E0 self Try.f82) (exB 0 (finN E0 self Try.f82) noEx)) (exB 9 (R82_16 self (m + 3) (finN E0 self Try.f82) (exB 0 (finN E0 self Try.f82) noEx)) (exB 0 (finN E0 self Try.f82) noEx)) m S.next (nw S (.siter bad2.length (pack bad2) 0)) (qht ho _) (by rw [qcm, if_pos rfl]; rfl) (by show S.next < S.next + 1; omega)
  refine ⟨S', ?_, hg.own (Nat.le_refl _) h2⟩
  rw [h1, exB_same, R82_16_eq]
 | false =>
  simp only [oB, ifK_bool, cond_false]
  rw [h82]
  simp only [callP_ret, unV, oB, ifK_bool]
  cases v with
  | false => exact ⟨S, rfl, Grew.refl _ _⟩
  | true =>
   refine ⟨S, ?_, Grew.refl _ _⟩
   rw [Bool.not_true, cond_false, hcv, oB, lnStr_sv, oB, binV_ii, intsV_sub]
   rw [show (((a ++ [l]).length : Nat) : Int) - 1 = (a.length : Int) by simp, qcq (by omega) (by omega), oB]
   have hL := L78_enc self (m + 3) (R82_46 self (m + 3) (finN E0 self Try.f82) (exB 0 (finN E0 self Try.f82) noEx)) (exB 1 (R82_46 self (m + 3) (finN E0 self Try.f82) (exB 0 (finN E0 self Try.f82) noEx)) (exB 0 (finN E0 self Try.f82) noEx)) (m + 2) a l h1 h3 hl S ho h63
   rcases hL with hL | hL
   · exact hL
   · exact hL.trans (by rw [exB_same, R82_46_eq])
theorem F78_spec (self : EV) (m r : Nat) (S : St) (ho : S.on = false)
 (h63 : ∀ (s : List UInt8) (c : UInt8) S, self.f 24 [sv s, .int .u8 (c.toNat : Int)] S = some (.ret (.int .i64 (ixB s c)), S))
 (h82 : ∀ S, ∃ v : Bool, self.f 97 [.int .i32 (r : Int)] S = some (.ret (.bool v), S)) :
 ∃ S', F82 self (m + 3) (sv bad2) (.int .i32 (r : Int)) S = some (.ret (.int .i64 (ixR r)), S') ∧ Grew (fun _ => False) S S' := by
 have e0 : binV E0 .leq 21 true false (.int .i32 0) (.int .i32 (r : Int)) = some (.bool true) := by rw [binV_ii, intsV_leq, show decide ((0 : Int) ≤ (r : Int)) = true by simp]
 by_cases h128 : r < 128
 · have hc : (UInt8.ofNat r).toNat = r := qij (by omega)
   have h := h63 bad2 (UInt8.ofNat r) S
   rw [ixB_bad2, hc] at h
   refine ⟨S, ?_, Grew.refl _ _⟩
   rw [F82_eq, e0]
   simp only [oB, qgp, cond_true, binV_ii, intsV_lss]
   rw [show decide ((r : Int) < 128) = true by simp; omega]
   simp only [oB, pickV, cond_true, ifK_bool, cvI_int]
   rw [wrap_u8 (by omega) (by omega), h]
   rfl
 · have e1 : binV E0 .lss 21 false true (.int .i32 (r : Int)) (.int .i32 128) = some (.bool false) := by rw [binV_ii, intsV_lss, show decide ((r : Int) < 128) = false by simp; omega]
   have e2 : binV E0 .eql 21 false true (.int .i32 (r : Int)) (.int .i32 65533) = some (.bool (decide ((r : Int) = 65533))) := by rw [binV_ii, intsV_eql]
   obtain ⟨v, hv⟩ := h82 S
   obtain ⟨a, l, ha, h1, h3, hl⟩ := enc_last r (by omega)
   have hcv : convertV E0 21 9 (.int .i32 (r : Int)) S = some (sv (a ++ [l]), S) := by
    rw [← ha]
    exact convertV_rune und21 und9 _ S
   have hx : ixR r = -1 := by unfold ixR; rw [if_neg (by omega), if_neg (by omega)]
   rw [hx]
   exact F78_far self m _ _ v a l h1 h3 hl S ho h63 e0 e1 e2 hv hcv
theorem kn78 {K : FuncId → Option KF} (hK : KnOk Try.prog E0 K) (h63 : K 24 = some kfIndexByte) (h82 : K 97 = none) : KnWell Try.prog E0 82 kfIndexRune :=
 qeq (fn := Try.f82) (c := C82) (d := B82) E0_ok hK (by kernel_rfl) (by kernel_rfl) (qa2 C82 _ (by kernel_rfl)) fun p S ho => by
  obtain ⟨S', h1, h2⟩ := F78_spec (ev E0 K 1) (rounds - 3) p.r S ho (fun s c S => by rw [qd7 h63, qdl]) (fun S => by
   obtain ⟨v, hv⟩ := F82_spec (ev E0 K 0) rounds p.r S
   exact ⟨v, qaa (c := C97) (d := B97) (by kernel_rfl) (by kernel_rfl) (qa2 C97 _ (by kernel_rfl)) h82 hv⟩)
  rw [show rounds - 3 + 3 = rounds by unfold rounds; omega] at h1
  exact ⟨1, .ret (.int .i64 (ixR p.r)), S', h1, h2, Fz.same (.int _ _)⟩
end Go.Proofs.Ytbihlgcdnhoknaa.W
