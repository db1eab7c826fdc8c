/-
  WHAT THE FUNCTIONS COME TO: each is read by the evaluator, printed, and told as a function of data, part 1 of 9 (no condition).
-/
import Derived.Test.YthmkdoaaciamlaaEv3
import Derived.Test.YthmkdoaaciamlaaProg
import Derived.KernelRfl
namespace Go.Proofs.Ythmkdoaaciamlaa.W
open Go.Proofs.Ythmkdoaaciamlaa.Ev
set_option maxRecDepth 100000
noncomputable section
noncomputable def E0 : Env := envOf Try.prog [7, 8, 23, 24, 45, 46, 50, 51, 56, 57, 61, 62, 73, 74, 86, 95, 96, 106] [(76, 1)] []
noncomputable def C46 : Code := Try.f46.body.getD .skip
noncomputable def B46 : D := (annot C46 [[], [], [], [0, 1, 5], [], [0, 5], [], [], [0, 0, 5], [4], []]).1
noncomputable def RL46 : List Nat := cellsOf Try.f46.results.toList
noncomputable def R46_7 (self : EV) (N : Nat) (nk : Ac → St → Rs) (ek : Nat → Ac → St → Rs) (a : Ac) (S : St) : Rs := projK [0, 5] a fun a => dr E0 self RL46 N (B46.r.r).r (mkK E0 self Try.f46 nk ek) a S
theorem R46_7_eq (self : EV) (N : Nat) (nk : Ac → St → Rs) (ek : Nat → Ac → St → Rs) ( v0 v5 : V) (S : St) : R46_7 self N nk ek (fr 28 [(0, v0), (5, v5)]) S =
(binV E0 .add 9 false false v0 v5).bind fun t10 =>
some (.ret t10, S) := by kernel_rfl
noncomputable def L46_15 (self : EV) (N : Nat) (nk : Ac → St → Rs) (ek : Nat → Ac → St → Rs) (n : Nat) ( v0 v1 v5 : V) (S : St) : Rs := loopK [0, 1, 5] (dr E0 self RL46 N (B46.r.r.l.r.l.l)) (mkK E0 self Try.f46 nk ek) n (fr 28 [(0, v0), (1, v1), (5, v5)]) S
theorem L46_15_eq (self : EV) (N : Nat) (nk : Ac → St → Rs) (ek : Nat → Ac → St → Rs) (n : Nat) ( v0 v1 v5 : V) (S : St) : L46_15 self N nk ek (n + 1) v0 v1 v5 S =
(binV E0 .gtr 71 false true v1 (.int .u64 0)).bind fun t17 =>
ifK t17 (
(binV E0 .rem 71 false true v1 (.int .u64 128)).bind fun t19 =>
(cvI .u8 t19 S).bind fun p20 =>
(binV E0 .add 5 false true p20.1 (.int .u8 128)).bind fun t21 =>
(bsP 5 1 1 (one (.int .u8 0)) [(0, t21)] p20.2).bind fun p22 =>
(convertV E0 37 9 p22.1 p22.2).bind fun p23 =>
(binV E0 .add 9 false false p23.1 v5).bind fun t25 =>
(binV E0 .quo 71 false true v1 (.int .u64 128)).bind fun t28 =>
L46_15 self N nk ek n v0 t28 t25 p23.2) (
ek 0 (fr 28 [(0, v0), (5, v5)]) S) := by kernel_rfl
noncomputable def F46 (self : EV) (N : Nat) (x0 x1 : V) (S : St) : Rs := runF E0 self N Try.f46 B46 [x0, x1] S
theorem F46_eq (self : EV) (N : Nat) (x0 x1 : V) (S : St) : F46 self N x0 x1 S =
(binV E0 .rem 71 false true x1 (.int .u64 128)).bind fun t2 =>
(cvI .u8 t2 S).bind fun p3 =>
(bsP 5 1 1 (one (.int .u8 0)) [(0, p3.1)] p3.2).bind fun p4 =>
(convertV E0 37 9 p4.1 p4.2).bind fun p5 =>
(binV E0 .quo 71 false true x1 (.int .u64 128)).bind fun t13 =>
L46_15 self N (R46_7 self N (finN E0 self Try.f46) noEx) (exB 0 (R46_7 self N (finN E0 self Try.f46) noEx) noEx) N x0 t13 p5.1 p5.2 := by kernel_rfl
noncomputable def C19 : Code := Try.f19.body.getD .skip
noncomputable def B19 : D := (annot C19 [[], []]).1
noncomputable def F19 (self : EV) (N : Nat) (x0 x1 : V) (S : St) : Rs := runF E0 self N Try.f19 B19 [x0, x1] S
theorem F19_eq (self : EV) (N : Nat) (x0 x1 : V) (S : St) : F19 self N x0 x1 S =
(lnStr x1 S).bind fun p3 =>
(cvI .u64 p3.1 p3.2).bind fun p4 =>
callP (self.f 40 [x0, p4.1] p4.2) fun t5 S5 =>
(binV E0 .add 9 false false t5 x1).bind fun t7 =>
some (.ret t7, S5) := by kernel_rfl
noncomputable def C23 : Code := Try.f23.body.getD .skip
noncomputable def B23 : D := (annot C23 [[], []]).1
noncomputable def F23 (self : EV) (N : Nat) (x0 x1 : V) (S : St) : Rs := runF E0 self N Try.f23 B23 [x0, x1] S
theorem F23_eq (self : EV) (N : Nat) (x0 x1 : V) (S : St) : F23 self N x0 x1 S =
(lnStr x1 S).bind fun p3 =>
(cvI .u64 p3.1 p3.2).bind fun p4 =>
callP (self.f 46 [x0, p4.1] p4.2) fun t5 S5 =>
(binV E0 .add 9 false false t5 x1).bind fun t7 =>
some (.ret t7, S5) := by kernel_rfl
end
end Go.Proofs.Ythmkdoaaciamlaa.W
namespace Go.Proofs.Ythmkdoaaciamlaa.W
open Go.Proofs.Ythmkdoaaciamlaa.Ev
set_option maxRecDepth 100000
noncomputable section
noncomputable def C8 : Code := Try.f8.body.getD .skip
noncomputable def B8 : D := (annot C8 [[], [], [], [], [1, 2, 4, 5, 6], [], [2, 4, 5], [], [], [0, 2, 4, 5], [4], [], []]).1
noncomputable def RL8 : List Nat := cellsOf Try.f8.results.toList
noncomputable def R8_12 (self : EV) (N : Nat) (nk : Ac → St → Rs) (ek : Nat → Ac → St → Rs) (a : Ac) (S : St) : Rs := projK [2, 4, 5] a fun a => dr E0 self RL8 N (B8.r.r.r).r (mkK E0 self Try.f8 nk ek) a S
theorem R8_12_eq (self : EV) (N : Nat) (nk : Ac → St → Rs) (ek : Nat → Ac → St → Rs) ( v2 v4 v5 : V) (S : St) : R8_12 self N nk ek (fr 44 [(2, v2), (4, v4), (5, v5)]) S =
(faP 4 false 1 v2).bind fun t14 =>
(stP 1 t14 v5 S).bind fun p15 =>
(ldA 5 v2 p15.2).bind fun p16 =>
(stP 5 v4 p16.1 p16.2).bind fun p17 =>
(ldrA 5 v4 p17.2).bind fun p18 =>
some (.ret p18.1, p18.2) := by kernel_rfl
noncomputable def L8_20 (self : EV) (N : Nat) (nk : Ac → St → Rs) (ek : Nat → Ac → St → Rs) (n : Nat) ( v1 v2 v4 v5 v6 : V) (S : St) : Rs := loopK [1, 2, 4, 5, 6] (dr E0 self RL8 N (B8.r.r.r.l.r.l.l)) (mkK E0 self Try.f8 nk ek) n (fr 44 [(1, v1), (2, v2), (4, v4), (5, v5), (6, v6)]) S
theorem L8_20_eq (self : EV) (N : Nat) (nk : Ac → St → Rs) (ek : Nat → Ac → St → Rs) (n : Nat) ( v1 v2 v4 v5 v6 : V) (S : St) : L8_20 self N nk ek (n + 1) v1 v2 v4 v5 v6 S =
(faP 4 false 1 v2).bind fun t22 =>
(ld1 t22 S).bind fun p23 =>
(lnS p23.1 p23.2).bind fun p24 =>
(binV E0 .lss 3 false false v6 p24.1).bind fun t25 =>
(guardV true t25).bind fun g27 => (bif g27 then some v6 else some (.tuple [])).bind fun t27 =>
(guardV true t25).bind fun g28 => (bif g28 then binV E0 .lss 3 false true t27 (.int .i64 20) else some (.tuple [])).bind fun t28 =>
(pickV t25 (some t28) (some (.bool false))).bind fun t29 =>
(guardV true t29).bind fun g31 => (bif g31 then some v1 else some (.tuple [])).bind fun t31 =>
(guardV true t29).bind fun g32 => (bif g32 then binV E0 .gtr 3 false true t31 (.int .i64 0) else some (.tuple [])).bind fun t32 =>
(pickV t29 (some t32) (some (.bool false))).bind fun t33 =>
ifK t33 (
(faP 4 false 1 v2).bind fun t35 =>
(ld1 t35 p24.2).bind fun p36 =>
(ixP 5 p36.1 v6).bind fun t38 =>
(ldA 5 t38 p36.2).bind fun p39 =>
(binV E0 .sub 3 false true v1 (.int .i64 1)).bind fun t41 =>
callP (self.f 8 [p39.1, t41] p39.2) fun t42 S42 =>
(bsP 24 5 1 (Tr.ofListFrom .nil [(sv []), (.int .i64 0), (.bool false), (sv []), .nilslice] 0) [(0, t42)] S42).bind fun p43 =>
(apP 24 5 72 v5 p43.1 p43.2).bind fun p44 =>
(binV E0 .add 3 false true v6 (.int .i64 1)).bind fun t47 =>
L8_20 self N nk ek n v1 v2 v4 p44.1 t47 p44.2) (
ek 0 (fr 44 [(2, v2), (4, v4), (5, v5)]) p24.2) := by kernel_rfl
noncomputable def F8 (self : EV) (N : Nat) (x0 x1 : V) (S : St) : Rs := runF E0 self N Try.f8 B8 [x0, x1] S
theorem F8_eq (self : EV) (N : Nat) (x0 x1 : V) (S : St) : F8 self N x0 x1 S =
(boxK 24 x0 S).bind fun p0 =>
(some (nwP 24 5 (Tr.ofListFrom .nil [(sv []), (.int .i64 0), (.bool false), (sv []), .nilslice] 0) p0.2)).bind fun p1 =>
(faP 3 false 1 p0.1).bind fun t2 =>
(ld1 t2 p1.2).bind fun p3 =>
(faP 3 false 1 p0.1).bind fun t4 =>
(ld1 t4 p3.2).bind fun p5 =>
(lnStr p5.1 p5.2).bind fun p6 =>
(foldK minV p6.1 [(.int .i64 300)] p6.2).bind fun p7 =>
(sliceV E0 9 p3.1 none (some p7.1) none p7.2).bind fun p8 =>
(faP 3 false 1 p0.1).bind fun t9 =>
(stP 1 t9 p8.1 p8.2).bind fun p10 =>
L8_20 self N (R8_12 self N (finN E0 self Try.f8) noEx) (exB 0 (R8_12 self N (finN E0 self Try.f8) noEx) noEx) N x1 p0.1 p1.1 .nilslice (.int .i64 0) p10.2 := by kernel_rfl
noncomputable def C9 : Code := Try.f9.body.getD .skip
noncomputable def B9 : D := (annot C9 [[], [], [], [], [], [], [], [], [], [], []]).1
noncomputable def F9 (self : EV) (N : Nat) (x0 : V) (S : St) : Rs := runF E0 self N Try.f9 B9 [x0] S
theorem F9_eq (self : EV) (N : Nat) (x0 : V) (S : St) : F9 self N x0 S =
(boxK 24 x0 S).bind fun p0 =>
(ldA 5 p0.1 p0.2).bind fun p3 =>
callP (self.f 15 [p3.1] p3.2) fun t4 S4 =>
(binV E0 .neq 26 false true t4 (.int .i64 0)).bind fun t7 =>
ifK t7 (
some (.ret (.tuple [(sv []), t4]), S4)) (
callP (self.f 19 [(sv []), (sv [119, 104, 105, 115, 107, 45, 116, 114, 101, 101])] S4) fun t11 S11 =>
(buildV E0 46 [(0, t11)]).bind fun t12 =>
(boxK 46 t12 S11).bind fun p13 =>
(ldA 5 p0.1 p13.2).bind fun p16 =>
callP (self.f 20 [p13.1, p16.1] p16.2) fun t17 S17 =>
(nilCheckV p13.1).bind fun t19 =>
(faP 0 false 1 t19).bind fun t20 =>
(ld1 t20 S17).bind fun p21 =>
(lnStr p21.1 p21.2).bind fun p22 =>
(binV E0 .gtr 3 false true p22.1 (.int .i64 60000)).bind fun t23 =>
ifK t23 (
some (.ret (.tuple [(sv []), (.int .i64 3)]), p22.2)) (
(nilCheckV p13.1).bind fun t27 =>
(faP 0 false 1 t27).bind fun t28 =>
(ld1 t28 p22.2).bind fun p29 =>
some (.ret (.tuple [p29.1, (.int .i64 0)]), p29.2))) := by kernel_rfl
noncomputable def C10 : Code := Try.f10.body.getD .skip
noncomputable def B10 : D := (annot C10 [[], [], [], [], [], [], [], [], [], []]).1
noncomputable def F10 (self : EV) (N : Nat) (x0 : V) (S : St) : Rs := runF E0 self N Try.f10 B10 [x0] S
theorem F10_eq (self : EV) (N : Nat) (x0 : V) (S : St) : F10 self N x0 S =
(boxK 24 x0 S).bind fun p0 =>
(ldA 5 p0.1 p0.2).bind fun p3 =>
callP (self.f 21 [p3.1] p3.2) fun t4 S4 =>
(binV E0 .neq 26 false true t4 (.int .i64 0)).bind fun t7 =>
ifK t7 (
some (.ret (.tuple [(sv []), t4]), S4)) (
callD (planOf E0 (B10.r.r.r.l).ops) S4 0 [] (self.f 23 [(sv []), (sv [119, 104, 105, 115, 107, 45, 116, 114, 101, 101])] (onS S4)) fun t11 S11 =>
(ldA 5 p0.1 (onS S11)).bind fun p12 =>
callD (planOf E0 (B10.r.r.r.l).ops) S4 2 [S11.log, p12.2.log] (self.f 22 [t11, p12.1] (onS p12.2)) fun t13 S13 =>
endP [(0, [1])] S4 [S11.log, p12.2.log, S13.log, []] (onS S13) fun S15 =>
(lnStr t13 S15).bind fun p17 =>
(binV E0 .gtr 3 false true p17.1 (.int .i64 60000)).bind fun t18 =>
ifK t18 (
some (.ret (.tuple [(sv []), (.int .i64 3)]), p17.2)) (
some (.ret (.tuple [t13, (.int .i64 0)]), p17.2))) := by kernel_rfl
noncomputable def C20 : Code := Try.f20.body.getD .skip
noncomputable def B20 : D := (annot C20 [[], []]).1
noncomputable def F20 (self : EV) (N : Nat) (x0 x1 : V) (S : St) : Rs := runF E0 self N Try.f20 B20 [x0, x1] S
theorem F20_eq (self : EV) (N : Nat) (x0 x1 : V) (S : St) : F20 self N x0 x1 S =
(boxK 24 x1 S).bind fun p0 =>
(nilCheckV x0).bind fun t3 =>
(faP 0 false 1 t3).bind fun t4 =>
(ld1 t4 (onS p0.2)).bind fun p5 =>
(faP 1 false 1 p0.1).bind fun t6 =>
(ld1 t6 (onS p5.2)).bind fun p7 =>
(cvI .u64 p7.1 (onS p7.2)).bind fun p8 =>
callD (planOf E0 (B20.r.l).ops) p0.2 8 [[], [], [], [], p5.2.log, [], p7.2.log, p8.2.log] (self.f 40 [p5.1, p8.1] (onS p8.2)) fun t9 S9 =>
(nilCheckV x0).bind fun t10 =>
(faP 0 false 1 t10).bind fun t11 =>
(stP 1 t11 t9 (onS S9)).bind fun p12 =>
endP [(4, [6, 7])] p0.2 [[], [], [], [], p5.2.log, [], p7.2.log, p8.2.log, S9.log, [], [], p12.2.log] p12.2 fun S13 =>
(makeMapK E0 72 none S13).bind fun p14 =>
(vu (updateV E0 72 p14.1 (.int .i64 1) (.fn (.func 41) [x0] []) p14.2)).bind fun p17 =>
(vu (updateV E0 72 p14.1 (.int .i64 3) (.fn (.func 42) [x0] []) p17.2)).bind fun p20 =>
(vu (updateV E0 72 p14.1 (.int .i64 2) (.fn (.func 43) [x0] []) p20.2)).bind fun p23 =>
(faP 1 false 1 p0.1).bind fun t25 =>
(ld1 t25 p23.2).bind fun p26 =>
(lookupV E0 72 p14.1 p26.1 false p26.2).bind fun p27 =>
(ldA 5 p0.1 p27.2).bind fun p28 =>
callP (callK E0 self p27.1 [p28.1] p28.2) fun t29 S29 =>
some (.ret (.tuple []), S29) := by kernel_rfl
noncomputable def C22 : Code := Try.f22.body.getD .skip
noncomputable def B22 : D := (annot C22 [[], [], [], [], [], [], [], [], [], [], [], [], [], [0, 3, 6], [], [0], [], [], [0, 0], [4], []]).1
noncomputable def RL22 : List Nat := cellsOf Try.f22.results.toList
noncomputable def R22_46 (self : EV) (N : Nat) (nk : Ac → St → Rs) (ek : Nat → Ac → St → Rs) (a : Ac) (S : St) : Rs := projK [0] a fun a => dr E0 self RL22 N (B22.r.r.r.r).r (mkK E0 self Try.f22 nk ek) a S
theorem R22_46_eq (self : EV) (N : Nat) (nk : Ac → St → Rs) (ek : Nat → Ac → St → Rs) ( v0 : V) (S : St) : R22_46 self N nk ek (fr 58 [(0, v0)]) S =
some (.ret v0, S) := by kernel_rfl
noncomputable def L22_50 (self : EV) (N : Nat) (nk : Ac → St → Rs) (ek : Nat → Ac → St → Rs) (n : Nat) ( v0 v3 v6 : V) (S : St) : Rs := loopK [0, 3, 6] (dr E0 self RL22 N (B22.r.r.r.r.l.r.l.l)) (mkK E0 self Try.f22 nk ek) n (fr 58 [(0, v0), (3, v3), (6, v6)]) S
theorem L22_50_eq (self : EV) (N : Nat) (nk : Ac → St → Rs) (ek : Nat → Ac → St → Rs) (n : Nat) ( v0 v3 v6 : V) (S : St) : L22_50 self N nk ek (n + 1) v0 v3 v6 S =
(faP 4 false 1 v3).bind fun t52 =>
(ld1 t52 S).bind fun p53 =>
(lnS p53.1 p53.2).bind fun p54 =>
(binV E0 .lss 3 false false v6 p54.1).bind fun t55 =>
ifK t55 (
(faP 4 false 1 v3).bind fun t57 =>
(ld1 t57 (onS p54.2)).bind fun p58 =>
(ixP 5 p58.1 v6).bind fun t60 =>
(faP 0 false 1 t60).bind fun t61 =>
(ld1 t61 (onS p58.2)).bind fun p62 =>
callD (planOf E0 (B22.r.r.r.r.l.r.l.l.r.l.l).ops) p54.2 7 [[], [], p58.2.log, [], [], [], p62.2.log] (self.f 23 [v0, p62.1] (onS p62.2)) fun t63 S63 =>
(faP 4 false 1 v3).bind fun t64 =>
(ld1 t64 (onS S63)).bind fun p65 =>
(ixP 5 p65.1 v6).bind fun t67 =>
(ldA 5 t67 (onS p65.2)).bind fun p68 =>
callD (planOf E0 (B22.r.r.r.r.l.r.l.l.r.l.l).ops) p54.2 13 [[], [], p58.2.log, [], [], [], p62.2.log, S63.log, [], p65.2.log, [], [], p68.2.log] (self.f 22 [t63, p68.1] (onS p68.2)) fun t69 S69 =>
endP [(2, [9, 12]), (6, [9, 12]), (7, [9, 12])] p54.2 [[], [], p58.2.log, [], [], [], p62.2.log, S63.log, [], p65.2.log, [], [], p68.2.log, S69.log, []] (onS S69) fun S71 =>
(binV E0 .add 3 false true v6 (.int .i64 1)).bind fun t73 =>
L22_50 self N nk ek n t69 v3 t73 S71) (
ek 1 (fr 58 [(0, v0)]) p54.2) := by kernel_rfl
noncomputable def F22 (self : EV) (N : Nat) (x0 x1 : V) (S : St) : Rs := runF E0 self N Try.f22 B22 [x0, x1] S
theorem F22_eq (self : EV) (N : Nat) (x0 x1 : V) (S : St) : F22 self N x0 x1 S =
(boxK 24 x1 S).bind fun p0 =>
(faP 1 false 1 p0.1).bind fun t3 =>
(ld1 t3 p0.2).bind fun p4 =>
(cvI .u64 p4.1 p4.2).bind fun p5 =>
callP (self.f 46 [x0, p5.1] p5.2) fun t6 S6 =>
(faP 1 false 1 p0.1).bind fun t8 =>
(ld1 t8 S6).bind fun p9 =>
(binV E0 .eql 3 false true p9.1 (.int .i64 1)).bind fun t10 =>
ifK t10 (
(faP 2 false 1 p0.1).bind fun t13 =>
(ld1 t13 p9.2).bind fun p14 =>
ifK p14.1 (
callD (planOf E0 (B22.r.r.l.r.l.r.l.r.r.l).ops) p14.2 2 [[], []] (self.f 46 [t6, (.int .u64 1)] (onS p14.2)) fun t18 S18 =>
(faP 3 false 1 p0.1).bind fun t19 =>
(ld1 t19 (onS S18)).bind fun p20 =>
callD (planOf E0 (B22.r.r.l.r.l.r.l.r.r.l).ops) p14.2 5 [[], [], S18.log, [], p20.2.log] (self.f 23 [t18, p20.1] (onS p20.2)) fun t21 S21 =>
endP [(2, [4])] p14.2 [[], [], S18.log, [], p20.2.log, S21.log, []] (onS S21) fun S23 =>
some (.ret t21, S23)) (
callD (planOf E0 (B22.r.r.l.r.l.r.l.r.r.l).ops) p14.2 2 [[], []] (self.f 46 [t6, (.int .u64 0)] (onS p14.2)) fun t26 S26 =>
(faP 3 false 1 p0.1).bind fun t27 =>
(ld1 t27 (onS S26)).bind fun p28 =>
callD (planOf E0 (B22.r.r.l.r.l.r.l.r.r.l).ops) p14.2 5 [[], [], S26.log, [], p28.2.log] (self.f 23 [t26, p28.1] (onS p28.2)) fun t29 S29 =>
endP [(2, [4])] p14.2 [[], [], S26.log, [], p28.2.log, S29.log, []] (onS S29) fun S31 =>
some (.ret t29, S31))) (
(binV E0 .eql 3 false true p9.1 (.int .i64 3)).bind fun t32 =>
ifK t32 (
(faP 3 false 1 p0.1).bind fun t35 =>
(ld1 t35 p9.2).bind fun p36 =>
callP (self.f 23 [t6, p36.1] p36.2) fun t37 S37 =>
some (.ret t37, S37)) (
(faP 4 false 1 p0.1).bind fun t40 =>
(ld1 t40 p9.2).bind fun p41 =>
(lnS p41.1 p41.2).bind fun p42 =>
(cvI .u64 p42.1 p42.2).bind fun p43 =>
callP (self.f 46 [t6, p43.1] p43.2) fun t44 S44 =>
L22_50 self N (R22_46 self N (finN E0 self Try.f22) noEx) (exB 1 (R22_46 self N (finN E0 self Try.f22) noEx) noEx) N t44 p0.1 (.int .i64 0) S44)) := by kernel_rfl
noncomputable def C40 : Code := Try.f40.body.getD .skip
noncomputable def B40 : D := (annot C40 [[], [], [], [], [], [0, 1, 5, 6], [], [0, 5, 6], [], [], [], [0, 0, 5, 6], [4], [], [], [], []]).1
noncomputable def RL40 : List Nat := cellsOf Try.f40.results.toList
noncomputable def R40_9 (self : EV) (N : Nat) (nk : Ac → St → Rs) (ek : Nat → Ac → St → Rs) (a : Ac) (S : St) : Rs := projK [0, 5, 6] a fun a => dr E0 self RL40 N (B40.r.r.r.r).r (mkK E0 self Try.f40 nk ek) a S
theorem R40_9_eq (self : EV) (N : Nat) (nk : Ac → St → Rs) (ek : Nat → Ac → St → Rs) ( v0 v5 v6 : V) (S : St) : R40_9 self N nk ek (fr 45 [(0, v0), (5, v5), (6, v6)]) S =
(lnStr v0 S).bind fun p11 =>
(binV E0 .add 3 false true p11.1 (.int .i64 10)).bind fun t12 =>
(binV E0 .sub 3 false false t12 v6).bind fun t14 =>
(makeSliceK E0 37 t14 t14 p11.2).bind fun p15 =>
(cpP 1 p15.1 v0 p15.2).bind fun p19 =>
(lnStr v0 (onS p19.2)).bind fun p22 =>
(sliceV E0 37 p15.1 (some p22.1) none none (onS p22.2)).bind fun p23 =>
(sliceV E0 86 v5 (some v6) none none (onS p23.2)).bind fun p25 =>
(cpP 1 p23.1 p25.1 (onS p25.2)).bind fun p26 =>
endP [(2, [5]), (3, [5])] p19.2 [[], [], p22.2.log, p23.2.log, [], p25.2.log, p26.2.log] p26.2 fun S27 =>
(convertV E0 37 9 p15.1 S27).bind fun p29 =>
some (.ret p29.1, p29.2) := by kernel_rfl
noncomputable def L40_34 (self : EV) (N : Nat) (nk : Ac → St → Rs) (ek : Nat → Ac → St → Rs) (n : Nat) ( v0 v1 v5 v6 : V) (S : St) : Rs := loopK [0, 1, 5, 6] (dr E0 self RL40 N (B40.r.r.r.r.l.r.l.l)) (mkK E0 self Try.f40 nk ek) n (fr 45 [(0, v0), (1, v1), (5, v5), (6, v6)]) S
theorem L40_34_eq (self : EV) (N : Nat) (nk : Ac → St → Rs) (ek : Nat → Ac → St → Rs) (n : Nat) ( v0 v1 v5 v6 : V) (S : St) : L40_34 self N nk ek (n + 1) v0 v1 v5 v6 S =
(binV E0 .gtr 71 false true v1 (.int .u64 0)).bind fun t36 =>
ifK t36 (
(binV E0 .sub 3 false true v6 (.int .i64 1)).bind fun t38 =>
(binV E0 .rem 71 false true v1 (.int .u64 128)).bind fun t42 =>
(cvI .u8 t42 S).bind fun p43 =>
(binV E0 .add 5 false true p43.1 (.int .u8 128)).bind fun t44 =>
(ixA 10 1 false 1 v5 t38).bind fun t45 =>
(stP 1 t45 t44 p43.2).bind fun p46 =>
(binV E0 .quo 71 false true v1 (.int .u64 128)).bind fun t48 =>
L40_34 self N nk ek n v0 t48 v5 t38 p46.2) (
ek 0 (fr 45 [(0, v0), (5, v5), (6, v6)]) S) := by kernel_rfl
noncomputable def F40 (self : EV) (N : Nat) (x0 x1 : V) (S : St) : Rs := runF E0 self N Try.f40 B40 [x0, x1] S
theorem F40_eq (self : EV) (N : Nat) (x0 x1 : V) (S : St) : F40 self N x0 x1 S =
(some (nwP 86 10 (Tr.ofListFrom .nil [(.int .u8 0), (.int .u8 0), (.int .u8 0), (.int .u8 0), (.int .u8 0), (.int .u8 0), (.int .u8 0), (.int .u8 0), (.int .u8 0), (.int .u8 0)] 0) S)).bind fun p1 =>
(binV E0 .rem 71 false true x1 (.int .u64 128)).bind fun t5 =>
(cvI .u8 t5 p1.2).bind fun p6 =>
(ixA 10 1 false 1 p1.1 (.int .i64 9)).bind fun t7 =>
(stP 1 t7 p6.1 p6.2).bind fun p8 =>
(binV E0 .quo 71 false true x1 (.int .u64 128)).bind fun t32 =>
L40_34 self N (R40_9 self N (finN E0 self Try.f40) noEx) (exB 0 (R40_9 self N (finN E0 self Try.f40) noEx) noEx) N x0 t32 p1.1 (.int .i64 9) p8.2 := by kernel_rfl
noncomputable def C41 : Code := Try.f41.body.getD .skip
noncomputable def B41 : D := (annot C41 [[], [], [], []]).1
noncomputable def F41 (self : EV) (N : Nat) (x0 x1 : V) (S : St) : Rs := runF E0 self N Try.f41 B41 [x0, x1] S
theorem F41_eq (self : EV) (N : Nat) (x0 x1 : V) (S : St) : F41 self N x0 x1 S =
(boxK 24 x1 S).bind fun p0 =>
(faP 2 false 1 p0.1).bind fun t2 =>
(ld1 t2 p0.2).bind fun p3 =>
ifK p3.1 (
(nilCheckV x0).bind fun t7 =>
(faP 0 false 1 t7).bind fun t8 =>
(ld1 t8 (onS p3.2)).bind fun p9 =>
callD (planOf E0 (B41.r.r.r).ops) p3.2 6 [[], [], [], [], p9.2.log, []] (self.f 40 [p9.1, (.int .u64 1)] (onS p9.2)) fun t11 S11 =>
(faP 3 false 1 p0.1).bind fun t12 =>
(ld1 t12 (onS S11)).bind fun p13 =>
callD (planOf E0 (B41.r.r.r).ops) p3.2 9 [[], [], [], [], p9.2.log, [], S11.log, [], p13.2.log] (self.f 19 [t11, p13.1] (onS p13.2)) fun t14 S14 =>
(nilCheckV x0).bind fun t15 =>
(faP 0 false 1 t15).bind fun t16 =>
(stP 1 t16 t14 (onS S14)).bind fun p17 =>
endP [(4, [8]), (6, [8])] p3.2 [[], [], [], [], p9.2.log, [], S11.log, [], p13.2.log, S14.log, [], [], p17.2.log] p17.2 fun S18 =>
some (.ret (.tuple []), S18)) (
(nilCheckV x0).bind fun t21 =>
(faP 0 false 1 t21).bind fun t22 =>
(ld1 t22 (onS p3.2)).bind fun p23 =>
callD (planOf E0 (B41.r.r.r).ops) p3.2 6 [[], [], [], [], p23.2.log, []] (self.f 40 [p23.1, (.int .u64 0)] (onS p23.2)) fun t25 S25 =>
(faP 3 false 1 p0.1).bind fun t26 =>
(ld1 t26 (onS S25)).bind fun p27 =>
callD (planOf E0 (B41.r.r.r).ops) p3.2 9 [[], [], [], [], p23.2.log, [], S25.log, [], p27.2.log] (self.f 19 [t25, p27.1] (onS p27.2)) fun t28 S28 =>
(nilCheckV x0).bind fun t29 =>
(faP 0 false 1 t29).bind fun t30 =>
(stP 1 t30 t28 (onS S28)).bind fun p31 =>
endP [(4, [8]), (6, [8])] p3.2 [[], [], [], [], p23.2.log, [], S25.log, [], p27.2.log, S28.log, [], [], p31.2.log] p31.2 fun S32 =>
some (.ret (.tuple []), S32)) := by kernel_rfl
noncomputable def C42 : Code := Try.f42.body.getD .skip
noncomputable def B42 : D := (annot C42 [[]]).1
noncomputable def F42 (self : EV) (N : Nat) (x0 x1 : V) (S : St) : Rs := runF E0 self N Try.f42 B42 [x0, x1] S
theorem F42_eq (self : EV) (N : Nat) (x0 x1 : V) (S : St) : F42 self N x0 x1 S =
(boxK 24 x1 S).bind fun p0 =>
(nilCheckV x0).bind fun t3 =>
(faP 0 false 1 t3).bind fun t4 =>
(ld1 t4 (onS p0.2)).bind fun p5 =>
(faP 3 false 1 p0.1).bind fun t6 =>
(ld1 t6 (onS p5.2)).bind fun p7 =>
callD (planOf E0 (B42.r).ops) p0.2 7 [[], [], [], [], p5.2.log, [], p7.2.log] (self.f 19 [p5.1, p7.1] (onS p7.2)) fun t8 S8 =>
(nilCheckV x0).bind fun t9 =>
(faP 0 false 1 t9).bind fun t10 =>
(stP 1 t10 t8 (onS S8)).bind fun p11 =>
endP [(4, [6])] p0.2 [[], [], [], [], p5.2.log, [], p7.2.log, S8.log, [], [], p11.2.log] p11.2 fun S12 =>
some (.ret (.tuple []), S12) := by kernel_rfl
noncomputable def C43 : Code := Try.f43.body.getD .skip
noncomputable def B43 : D := (annot C43 [[], [], [], [0, 19, 20, 21], [], [], [], [], [], []]).1
noncomputable def RL43 : List Nat := cellsOf Try.f43.results.toList
noncomputable def L43_19 (self : EV) (N : Nat) (nk : Ac → St → Rs) (ek : Nat → Ac → St → Rs) (n : Nat) ( v0 v19 v20 v21 : V) (S : St) : Rs := loopK [0, 19, 20, 21] (dr E0 self RL43 N (B43.r.r.r.l.l)) (mkK E0 self Try.f43 nk ek) n (fr 39 [(0, v0), (19, v19), (20, v20), (21, v21)]) S
theorem L43_19_eq (self : EV) (N : Nat) (nk : Ac → St → Rs) (ek : Nat → Ac → St → Rs) (n : Nat) ( v0 v19 v20 v21 : V) (S : St) : L43_19 self N nk ek (n + 1) v0 v19 v20 v21 S =
(binV E0 .lss 3 false false v21 v20).bind fun t20 =>
ifK t20 (
(ixP 5 v19 v21).bind fun t21 =>
(ldA 5 t21 S).bind fun p22 =>
(some (nwP 24 5 (Tr.ofListFrom .nil [(sv []), (.int .i64 0), (.bool false), (sv []), .nilslice] 0) p22.2)).bind fun p23 =>
(stP 5 p23.1 p22.1 p23.2).bind fun p24 =>
(nilCheckV v0).bind fun t27 =>
(faP 0 false 1 t27).bind fun t28 =>
(ld1 t28 (onS p24.2)).bind fun p29 =>
(faP 0 false 1 p23.1).bind fun t30 =>
(ld1 t30 (onS p29.2)).bind fun p31 =>
callD (planOf E0 (B43.r.r.r.l.l.r.r.l.l.r.l).ops) p24.2 7 [[], [], [], [], p29.2.log, [], p31.2.log] (self.f 19 [p29.1, p31.1] (onS p31.2)) fun t32 S32 =>
(nilCheckV v0).bind fun t33 =>
(faP 0 false 1 t33).bind fun t34 =>
(stP 1 t34 t32 (onS S32)).bind fun p35 =>
endP [(4, [6])] p24.2 [[], [], [], [], p29.2.log, [], p31.2.log, S32.log, [], [], p35.2.log] p35.2 fun S36 =>
(ldA 5 p23.1 S36).bind fun p38 =>
callP (self.f 20 [v0, p38.1] p38.2) fun t39 S39 =>
(binV E0 .add 3 false true v21 (.int .i64 1)).bind fun t40 =>
L43_19 self N nk ek n v0 v19 v20 t40 S39) (
ek 0 (fr 39 []) S) := by kernel_rfl
noncomputable def F43 (self : EV) (N : Nat) (x0 x1 : V) (S : St) : Rs := runF E0 self N Try.f43 B43 [x0, x1] S
theorem F43_eq (self : EV) (N : Nat) (x0 x1 : V) (S : St) : F43 self N x0 x1 S =
(boxK 24 x1 S).bind fun p0 =>
(nilCheckV x0).bind fun t3 =>
(faP 0 false 1 t3).bind fun t4 =>
(ld1 t4 (onS p0.2)).bind fun p5 =>
(faP 4 false 1 p0.1).bind fun t6 =>
(ld1 t6 (onS p5.2)).bind fun p7 =>
(lnS p7.1 (onS p7.2)).bind fun p8 =>
(cvI .u64 p8.1 (onS p8.2)).bind fun p9 =>
callD (planOf E0 (B43.r.l).ops) p0.2 9 [[], [], [], [], p5.2.log, [], p7.2.log, p8.2.log, p9.2.log] (self.f 40 [p5.1, p9.1] (onS p9.2)) fun t10 S10 =>
(nilCheckV x0).bind fun t11 =>
(faP 0 false 1 t11).bind fun t12 =>
(stP 1 t12 t10 (onS S10)).bind fun p13 =>
endP [(4, [6, 7, 8])] p0.2 [[], [], [], [], p5.2.log, [], p7.2.log, p8.2.log, p9.2.log, S10.log, [], [], p13.2.log] p13.2 fun S14 =>
(faP 4 false 1 p0.1).bind fun t15 =>
(ld1 t15 S14).bind fun p16 =>
(lnS p16.1 p16.2).bind fun p17 =>
L43_19 self N (finN E0 self Try.f43) (exB 0 (finN E0 self Try.f43) noEx) N x0 p16.1 p17.1 (.int .i64 0) p17.2 := by kernel_rfl
end
end Go.Proofs.Ythmkdoaaciamlaa.W
