/-
  WHAT THE FUNCTIONS COME TO: each is read by the evaluator, printed, and told as a function of data, part 7 of 12 (no condition).
-/
import Derived.Test.YthmkdoaaciamlaaW6
import Derived.Test.YthmkdoaaciamlaaProg
import Derived.KernelRfl
namespace Go.Proofs.Ythmkdoaaciamlaa.W
open Go.Proofs.Ythmkdoaaciamlaa.Ev
set_option maxRecDepth 100000
noncomputable section
noncomputable def C26 : Code := Try.f26.body.getD .skip
noncomputable def B26 : D := (annot C26 [[], []]).1
noncomputable def F26 (self : EV) (N : Nat) (x0 : V) (S : St) : Rs := runF E0 self N Try.f26 B26 [x0] S
theorem F26_eq (self : EV) (N : Nat) (x0 : V) (S : St) : F26 self N x0 S =
(convertV E0 9 37 x0 S).bind fun p2 =>
(buildV E0 74 [(0, p2.1)]).bind fun t3 =>
(boxK 74 t3 p2.2).bind fun p4 =>
some (.ret p4.1, p4.2) := by kernel_rfl
noncomputable def C27 : Code := Try.f27.body.getD .skip
noncomputable def B27 : D := (annot C27 [[]]).1
noncomputable def F27 (self : EV) (N : Nat) (x0 : V) (S : St) : Rs := runF E0 self N Try.f27 B27 [x0] S
theorem F27_eq (self : EV) (N : Nat) (x0 : V) (S : St) : F27 self N x0 S =
(unV .not x0).bind fun t1 =>
ifK t1 (
(buildV E0 51 []).bind fun t2 =>
callP (panicK (.iface 51 t2) S) fun t4 S4 =>
some (.ret (.tuple []), S4)) (
some (.ret (.tuple []), S)) := by kernel_rfl
noncomputable def C28 : Code := Try.f28.body.getD .skip
noncomputable def B28 : D := (annot C28 [[], [], [], [], [], []]).1
noncomputable def F28 (self : EV) (N : Nat) (x0 : V) (S : St) : Rs := runF E0 self N Try.f28 B28 [x0] S
theorem F28_eq (self : EV) (N : Nat) (x0 : V) (S : St) : F28 self N x0 S =
callP (self.f 47 [x0] S) fun t2 S2 =>
(some (nwP 71 1 (one (.int .u64 0)) S2)).bind fun p3 =>
(stP 1 p3.1 t2 p3.2).bind fun p4 =>
(ld1 p3.1 p4.2).bind fun p5 =>
(binV E0 .eql 71 false true p5.1 (.int .u64 0)).bind fun t6 =>
ifK t6 (
some (.ret (sv []), p5.2)) (
callP (self.f 48 [x0, (.fn (.func 49) [] [p3.1])] p5.2) fun t10 S10 =>
(convertV E0 37 9 t10 S10).bind fun p11 =>
some (.ret p11.1, p11.2)) := by kernel_rfl
noncomputable def C30 : Code := Try.f30.body.getD .skip
noncomputable def B30 : D := (annot C30 [[], []]).1
noncomputable def F30 (self : EV) (N : Nat) (x0 : V) (S : St) : Rs := runF E0 self N Try.f30 B30 [x0] S
theorem F30_eq (self : EV) (N : Nat) (x0 : V) (S : St) : F30 self N x0 S =
callP (self.f 53 [x0] S) fun t2 S2 =>
(guardV true t2).bind fun g4 => (bif g4 then some x0 else some (.tuple [])).bind fun t4 =>
(guardV true t2).bind fun g5 => (bif g5 then nilCheckV t4 else some (.tuple [])).bind fun t5 =>
(guardV true t2).bind fun g6 => (bif g6 then faP 0 false 1 t5 else some (.tuple [])).bind fun t6 =>
(guardV true t2).bind fun g7 => (bif g7 then ld1 t6 S2 else some (.tuple [], S2)).bind fun p7 =>
(guardV true t2).bind fun g8 => (bif g8 then lnS p7.1 p7.2 else some (.tuple [], p7.2)).bind fun p8 =>
(guardV true t2).bind fun g9 => (bif g9 then binV E0 .eql 3 false true p8.1 (.int .i64 0) else some (.tuple [])).bind fun t9 =>
(pickV t2 (some t9) (some (.bool false))).bind fun t10 =>
some (.ret t10, p8.2) := by kernel_rfl
noncomputable def C47 : Code := Try.f47.body.getD .skip
noncomputable def B47 : D := (annot C47 [[], [], [2, 6, 7, 8], [], [2], [], [], [], [0, 2], [2], []]).1
noncomputable def RL47 : List Nat := cellsOf Try.f47.results.toList
noncomputable def R47_1 (self : EV) (N : Nat) (nk : Ac → St → Rs) (ek : Nat → Ac → St → Rs) (a : Ac) (S : St) : Rs := projK [2] a fun a => dr E0 self RL47 N (B47.r).r (mkK E0 self Try.f47 nk ek) a S
theorem R47_1_eq (self : EV) (N : Nat) (nk : Ac → St → Rs) (ek : Nat → Ac → St → Rs) ( v2 : V) (S : St) : R47_1 self N nk ek (fr 20 [(2, v2)]) S =
some (.ret v2, S) := by kernel_rfl
noncomputable def L47_8 (self : EV) (N : Nat) (nk : Ac → St → Rs) (ek : Nat → Ac → St → Rs) (n : Nat) ( v2 v6 v7 v8 : V) (S : St) : Rs := loopK [2, 6, 7, 8] (dr E0 self RL47 N (B47.r.l.r.l).l) (mkK E0 self Try.f47 nk ek) n (fr 20 [(2, v2), (6, v6), (7, v7), (8, v8)]) S
theorem L47_8_eq (self : EV) (N : Nat) (nk : Ac → St → Rs) (ek : Nat → Ac → St → Rs) (n : Nat) ( v2 v6 v7 v8 : V) (S : St) : L47_8 self N nk ek (n + 1) v2 v6 v7 v8 S =
(binV E0 .lss 3 false false v8 v7).bind fun t9 =>
ifK t9 (
(ixP 1 v6 v8).bind fun t10 =>
(ld1 t10 S).bind fun p11 =>
(binV E0 .mul 71 false true v2 (.int .u64 128)).bind fun t14 =>
(binV E0 .rem 5 false true p11.1 (.int .u8 128)).bind fun t16 =>
(cvI .u64 t16 p11.2).bind fun p17 =>
(binV E0 .add 71 false false t14 p17.1).bind fun t18 =>
(binV E0 .add 3 false true v8 (.int .i64 1)).bind fun t20 =>
L47_8 self N nk ek n t18 v6 v7 t20 p17.2) (
ek 0 (fr 20 [(2, v2)]) S) := by kernel_rfl
noncomputable def F47 (self : EV) (N : Nat) (x0 : V) (S : St) : Rs := runF E0 self N Try.f47 B47 [x0] S
theorem F47_eq (self : EV) (N : Nat) (x0 : V) (S : St) : F47 self N x0 S =
callP (self.f 48 [x0, (.fn (.func 69) [] [])] S) fun t5 S5 =>
(lnS t5 S5).bind fun p6 =>
L47_8 self N (R47_1 self N (finN E0 self Try.f47) noEx) (exB 0 (R47_1 self N (finN E0 self Try.f47) noEx) noEx) N (.int .u64 0) t5 p6.1 (.int .i64 0) p6.2 := by kernel_rfl
noncomputable def C48 : Code := Try.f48.body.getD .skip
noncomputable def B48 : D := (annot C48 [[], [], [], [], [], [], [], [], [], [], [], []]).1
noncomputable def F48 (self : EV) (N : Nat) (x0 x1 : V) (S : St) : Rs := runF E0 self N Try.f48 B48 [x0, x1] S
theorem F48_eq (self : EV) (N : Nat) (x0 x1 : V) (S : St) : F48 self N x0 x1 S =
(binV E0 .eql 54 false true x0 .nilptr).bind fun t2 =>
ifK t2 (
some (.ret .nilslice, S)) (
(nilCheckV x0).bind fun t6 =>
(faP 0 false 1 t6).bind fun t7 =>
(ld1 t7 S).bind fun p8 =>
callP (callK E0 self x1 [p8.1] p8.2) fun t9 S9 =>
(binV E0 .leq 3 false true t9 (.int .i64 0)).bind fun t12 =>
(guardV false t12).bind fun g14 => (bif g14 then some t9 else some (.tuple [])).bind fun t14 =>
(guardV false t12).bind fun g15 => (bif g15 then some x0 else some (.tuple [])).bind fun t15 =>
(guardV false t12).bind fun g16 => (bif g16 then nilCheckV t15 else some (.tuple [])).bind fun t16 =>
(guardV false t12).bind fun g17 => (bif g17 then faP 0 false 1 t16 else some (.tuple [])).bind fun t17 =>
(guardV false t12).bind fun g18 => (bif g18 then ld1 t17 S9 else some (.tuple [], S9)).bind fun p18 =>
(guardV false t12).bind fun g19 => (bif g19 then lnS p18.1 p18.2 else some (.tuple [], p18.2)).bind fun p19 =>
(guardV false t12).bind fun g20 => (bif g20 then binV E0 .gtr 3 false false t14 p19.1 else some (.tuple [])).bind fun t20 =>
(pickV t12 (some (.bool true)) (some t20)).bind fun t21 =>
ifK t21 (
(nilCheckV x0).bind fun t24 =>
(faP 0 false 1 t24).bind fun t25 =>
(stP 1 t25 .nilslice p19.2).bind fun p26 =>
(nilCheckV x0).bind fun t27 =>
(faP 1 false 1 t27).bind fun t28 =>
(stP 1 t28 (.bool true) p26.2).bind fun p29 =>
some (.ret .nilslice, p29.2)) (
(nilCheckV x0).bind fun t32 =>
(faP 0 false 1 t32).bind fun t33 =>
(ld1 t33 p19.2).bind fun p34 =>
(sliceV E0 37 p34.1 none (some t9) none p34.2).bind fun p36 =>
(nilCheckV x0).bind fun t40 =>
(faP 0 false 1 t40).bind fun t41 =>
(ld1 t41 p36.2).bind fun p42 =>
(sliceV E0 37 p42.1 (some t9) none none p42.2).bind fun p44 =>
(nilCheckV x0).bind fun t45 =>
(faP 0 false 1 t45).bind fun t46 =>
(stP 1 t46 p44.1 p44.2).bind fun p47 =>
some (.ret p36.1, p47.2))) := by kernel_rfl
noncomputable def C49 : Code := Try.f49.body.getD .skip
noncomputable def B49 : D := (annot C49 [[], []]).1
noncomputable def F49 (self : EV) (N : Nat) (x0 x1 : V) (S : St) : Rs := runF E0 self N Try.f49 B49 [x0, x1] S
theorem F49_eq (self : EV) (N : Nat) (x0 x1 : V) (S : St) : F49 self N x0 x1 S =
(ld1 x1 S).bind fun p1 =>
(lnS x0 p1.2).bind fun p3 =>
(cvI .u64 p3.1 p3.2).bind fun p4 =>
(binV E0 .add 71 false true p4.1 (.int .u64 1)).bind fun t5 =>
(foldK minV p1.1 [t5] p4.2).bind fun p6 =>
(cvI .i64 p6.1 p6.2).bind fun p7 =>
some (.ret p7.1, p7.2) := by kernel_rfl
noncomputable def C53 : Code := Try.f53.body.getD .skip
noncomputable def B53 : D := (annot C53 [[], []]).1
noncomputable def F53 (self : EV) (N : Nat) (x0 : V) (S : St) : Rs := runF E0 self N Try.f53 B53 [x0] S
theorem F53_eq (self : EV) (N : Nat) (x0 : V) (S : St) : F53 self N x0 S =
(binV E0 .neq 54 false true x0 .nilptr).bind fun t2 =>
(guardV true t2).bind fun g4 => (bif g4 then some x0 else some (.tuple [])).bind fun t4 =>
(guardV true t2).bind fun g5 => (bif g5 then nilCheckV t4 else some (.tuple [])).bind fun t5 =>
(guardV true t2).bind fun g6 => (bif g6 then faP 1 false 1 t5 else some (.tuple [])).bind fun t6 =>
(guardV true t2).bind fun g7 => (bif g7 then ld1 t6 S else some (.tuple [], S)).bind fun p7 =>
(guardV true t2).bind fun g8 => (bif g8 then unV .not p7.1 else some (.tuple [])).bind fun t8 =>
(pickV t2 (some t8) (some (.bool false))).bind fun t9 =>
some (.ret t9, p7.2) := by kernel_rfl
noncomputable def C69 : Code := Try.f69.body.getD .skip
noncomputable def B69 : D := (annot C69 [[], [], [0, 5, 6, 7], [], [], [], [], [], [], [], [], [], [], [], [0], [2], []]).1
noncomputable def RL69 : List Nat := cellsOf Try.f69.results.toList
noncomputable def R69_1 (self : EV) (N : Nat) (nk : Ac → St → Rs) (ek : Nat → Ac → St → Rs) (a : Ac) (S : St) : Rs := projK [] a fun a => dr E0 self RL69 N (B69.r).r (mkK E0 self Try.f69 nk ek) a S
theorem R69_1_eq (self : EV) (N : Nat) (nk : Ac → St → Rs) (ek : Nat → Ac → St → Rs) (S : St) : R69_1 self N nk ek (fr 35 []) S =
some (.ret (.int .i64 0), S) := by kernel_rfl
noncomputable def L69_6 (self : EV) (N : Nat) (nk : Ac → St → Rs) (ek : Nat → Ac → St → Rs) (n : Nat) ( v0 v5 v6 v7 : V) (S : St) : Rs := loopK [0, 5, 6, 7] (dr E0 self RL69 N (B69.r.l.r.l).l) (mkK E0 self Try.f69 nk ek) n (fr 35 [(0, v0), (5, v5), (6, v6), (7, v7)]) S
theorem L69_6_eq (self : EV) (N : Nat) (nk : Ac → St → Rs) (ek : Nat → Ac → St → Rs) (n : Nat) ( v0 v5 v6 v7 : V) (S : St) : L69_6 self N nk ek (n + 1) v0 v5 v6 v7 S =
(binV E0 .lss 3 false false v7 v6).bind fun t7 =>
ifK t7 (
(ixP 1 v5 v7).bind fun t9 =>
(ld1 t9 S).bind fun p10 =>
(binV E0 .eql 3 false true v7 (.int .i64 0)).bind fun t14 =>
(guardV true t14).bind fun g16 => (bif g16 then some p10.1 else some (.tuple [])).bind fun t16 =>
(guardV true t14).bind fun g17 => (bif g17 then binV E0 .eql 5 false true t16 (.int .u8 128) else some (.tuple [])).bind fun t17 =>
(pickV t14 (some t17) (some (.bool false))).bind fun t18 =>
ifK t18 (
ifK t18 (
some (.ret (.int .i64 0), p10.2)) (
(binV E0 .lss 5 false true p10.1 (.int .u8 128)).bind fun t22 =>
ifK t22 (
(binV E0 .add 3 false true v7 (.int .i64 1)).bind fun t25 =>
some (.ret t25, p10.2)) (
(binV E0 .add 3 false true v7 (.int .i64 1)).bind fun t27 =>
L69_6 self N nk ek n v0 v5 v6 t27 p10.2))) (
(binV E0 .eql 3 false true v7 (.int .i64 9)).bind fun t30 =>
(guardV true t30).bind fun g32 => (bif g32 then some v0 else some (.tuple [])).bind fun t32 =>
(guardV true t30).bind fun g33 => (bif g33 then ixP 1 t32 (.int .i64 0) else some (.tuple [])).bind fun t33 =>
(guardV true t30).bind fun g34 => (bif g34 then ld1 t33 p10.2 else some (.tuple [], p10.2)).bind fun p34 =>
(guardV true t30).bind fun g35 => (bif g35 then binV E0 .gtr 5 false true p34.1 (.int .u8 129) else some (.tuple [])).bind fun t35 =>
(pickV t30 (some t35) (some (.bool false))).bind fun t36 =>
ifK t36 (
ifK t36 (
some (.ret (.int .i64 0), p34.2)) (
(binV E0 .lss 5 false true p10.1 (.int .u8 128)).bind fun t40 =>
ifK t40 (
(binV E0 .add 3 false true v7 (.int .i64 1)).bind fun t43 =>
some (.ret t43, p34.2)) (
(binV E0 .add 3 false true v7 (.int .i64 1)).bind fun t45 =>
L69_6 self N nk ek n v0 v5 v6 t45 p34.2))) (
(binV E0 .eql 3 false true v7 (.int .i64 10)).bind fun t48 =>
ifK t48 (
some (.ret (.int .i64 0), p34.2)) (
(binV E0 .lss 5 false true p10.1 (.int .u8 128)).bind fun t52 =>
ifK t52 (
(binV E0 .add 3 false true v7 (.int .i64 1)).bind fun t55 =>
some (.ret t55, p34.2)) (
(binV E0 .add 3 false true v7 (.int .i64 1)).bind fun t57 =>
L69_6 self N nk ek n v0 v5 v6 t57 p34.2))))) (
ek 0 (fr 35 []) S) := by kernel_rfl
noncomputable def F69 (self : EV) (N : Nat) (x0 : V) (S : St) : Rs := runF E0 self N Try.f69 B69 [x0] S
theorem F69_eq (self : EV) (N : Nat) (x0 : V) (S : St) : F69 self N x0 S =
(lnS x0 S).bind fun p4 =>
L69_6 self N (R69_1 self N (finN E0 self Try.f69) noEx) (exB 0 (R69_1 self N (finN E0 self Try.f69) noEx) noEx) N x0 x0 p4.1 (.int .i64 0) p4.2 := by kernel_rfl
end
end Go.Proofs.Ythmkdoaaciamlaa.W
namespace Go.Proofs.Ythmkdoaaciamlaa.W
open Go.Proofs.Ythmkdoaaciamlaa.Ev
set_option maxRecDepth 100000
noncomputable section
noncomputable def C29 : Code := Try.f29.body.getD .skip
noncomputable def B29 : D := (annot C29 [[], [], [], [], [], [], [], [], []]).1
noncomputable def F29 (self : EV) (N : Nat) (x0 : V) (S : St) : Rs := runF E0 self N Try.f29 B29 [x0] S
theorem F29_eq (self : EV) (N : Nat) (x0 : V) (S : St) : F29 self N x0 S =
(some (nwP 24 5 (Tr.ofListFrom .nil [(sv []), (.int .i64 0), (.bool false), (sv []), .nilslice] 0) S)).bind fun p0 =>
(nilCheckV x0).bind fun t2 =>
(faP 0 false 1 t2).bind fun t3 =>
(ld1 t3 p0.2).bind fun p4 =>
callP (self.f 47 [p4.1] p4.2) fun t5 S5 =>
(binV E0 .leq 71 false true t5 (.int .u64 3)).bind fun t8 =>
callP (self.f 27 [t8] S5) fun t9 S9 =>
(cvI .i64 t5 S9).bind fun p11 =>
(buildV E0 24 [(1, p11.1)]).bind fun t12 =>
(some (nwP 24 5 (Tr.ofListFrom .nil [(sv []), (.int .i64 0), (.bool false), (sv []), .nilslice] 0) p11.2)).bind fun p13 =>
(stP 5 p13.1 t12 p13.2).bind fun p14 =>
(makeMapK E0 80 none p14.2).bind fun p15 =>
(vu (updateV E0 80 p15.1 (.int .i64 1) (.fn (.func 50) [x0] []) p15.2)).bind fun p18 =>
(vu (updateV E0 80 p15.1 (.int .i64 3) (.fn (.func 51) [x0] []) p18.2)).bind fun p21 =>
(vu (updateV E0 80 p15.1 (.int .i64 2) (.fn (.func 52) [x0] []) p21.2)).bind fun p24 =>
(faP 1 false 1 p13.1).bind fun t26 =>
(ld1 t26 p24.2).bind fun p27 =>
(lookupV E0 80 p15.1 p27.1 true p27.2).bind fun p28 =>
(extractV p28.1 0).bind fun t30 =>
(extractV p28.1 1).bind fun t31 =>
callP (self.f 27 [t31] p28.2) fun t35 S35 =>
callP (callK E0 self t30 [p13.1] S35) fun t37 S37 =>
(nilCheckV x0).bind fun t39 =>
(faP 0 false 1 t39).bind fun t40 =>
(ld1 t40 S37).bind fun p41 =>
callP (self.f 53 [p41.1] p41.2) fun t42 S42 =>
callP (self.f 27 [t42] S42) fun t43 S43 =>
(ldA 5 p13.1 S43).bind fun p44 =>
(stP 5 p0.1 p44.1 p44.2).bind fun p45 =>
(ldrA 5 p0.1 p45.2).bind fun p46 =>
some (.ret p46.1, p46.2) := by kernel_rfl
noncomputable def C50 : Code := Try.f50.body.getD .skip
noncomputable def B50 : D := (annot C50 [[], []]).1
noncomputable def F50 (self : EV) (N : Nat) (x0 x1 : V) (S : St) : Rs := runF E0 self N Try.f50 B50 [x0, x1] S
theorem F50_eq (self : EV) (N : Nat) (x0 x1 : V) (S : St) : F50 self N x0 x1 S =
(nilCheckV x0).bind fun t1 =>
(faP 0 false 1 t1).bind fun t2 =>
(ld1 t2 S).bind fun p3 =>
callP (self.f 47 [p3.1] p3.2) fun t4 S4 =>
(binV E0 .leq 71 false true t4 (.int .u64 1)).bind fun t7 =>
callP (self.f 27 [t7] S4) fun t8 S8 =>
(binV E0 .eql 71 false true t4 (.int .u64 1)).bind fun t12 =>
(nilCheckV x0).bind fun t14 =>
(faP 0 false 1 t14).bind fun t15 =>
(ld1 t15 S8).bind fun p16 =>
callP (self.f 28 [p16.1] p16.2) fun t17 S17 =>
(nilCheckV x1).bind fun t18 =>
(faP 2 false 1 t18).bind fun t19 =>
(stP 1 t19 t12 S17).bind fun p20 =>
(nilCheckV x1).bind fun t21 =>
(faP 3 false 1 t21).bind fun t22 =>
(stP 1 t22 t17 p20.2).bind fun p23 =>
some (.ret (.tuple []), p23.2) := by kernel_rfl
noncomputable def C51 : Code := Try.f51.body.getD .skip
noncomputable def B51 : D := (annot C51 []).1
noncomputable def F51 (self : EV) (N : Nat) (x0 x1 : V) (S : St) : Rs := runF E0 self N Try.f51 B51 [x0, x1] S
theorem F51_eq (self : EV) (N : Nat) (x0 x1 : V) (S : St) : F51 self N x0 x1 S =
(nilCheckV x0).bind fun t2 =>
(faP 0 false 1 t2).bind fun t3 =>
(ld1 t3 S).bind fun p4 =>
callP (self.f 28 [p4.1] p4.2) fun t5 S5 =>
(nilCheckV x1).bind fun t6 =>
(faP 3 false 1 t6).bind fun t7 =>
(stP 1 t7 t5 S5).bind fun p8 =>
some (.ret (.tuple []), p8.2) := by kernel_rfl
noncomputable def C52 : Code := Try.f52.body.getD .skip
noncomputable def B52 : D := (annot C52 [[], [], [], [], [0, 1, 29, 30], [], [0], [], [], [], [], [], [0, 0], []]).1
noncomputable def RL52 : List Nat := cellsOf Try.f52.results.toList
noncomputable def R52_24 (self : EV) (N : Nat) (nk : Ac → St → Rs) (ek : Nat → Ac → St → Rs) (a : Ac) (S : St) : Rs := projK [0] a fun a => dr E0 self RL52 N (B52.r.r.r).r (mkK E0 self Try.f52 nk ek) a S
theorem R52_24_eq (self : EV) (N : Nat) (nk : Ac → St → Rs) (ek : Nat → Ac → St → Rs) ( v0 : V) (S : St) : R52_24 self N nk ek (fr 60 [(0, v0)]) S =
(nilCheckV v0).bind fun t26 =>
(faP 1 false 1 t26).bind fun t27 =>
(ld1 t27 S).bind fun p28 =>
(binV E0 .sub 3 false true p28.1 (.int .i64 1)).bind fun t29 =>
(nilCheckV v0).bind fun t30 =>
(faP 1 false 1 t30).bind fun t31 =>
(stP 1 t31 t29 p28.2).bind fun p32 =>
nk (fr 60 []) p32.2 := by kernel_rfl
noncomputable def L52_35 (self : EV) (N : Nat) (nk : Ac → St → Rs) (ek : Nat → Ac → St → Rs) (n : Nat) ( v0 v1 v29 v30 : V) (S : St) : Rs := loopK [0, 1, 29, 30] (dr E0 self RL52 N (B52.r.r.r.l.r.l).l) (mkK E0 self Try.f52 nk ek) n (fr 60 [(0, v0), (1, v1), (29, v29), (30, v30)]) S
theorem L52_35_eq (self : EV) (N : Nat) (nk : Ac → St → Rs) (ek : Nat → Ac → St → Rs) (n : Nat) ( v0 v1 v29 v30 : V) (S : St) : L52_35 self N nk ek (n + 1) v0 v1 v29 v30 S =
(binV E0 .lss 71 false false v30 v29).bind fun t36 =>
ifK t36 (
(nilCheckV v0).bind fun t38 =>
(faP 0 false 1 t38).bind fun t39 =>
(ld1 t39 S).bind fun p40 =>
callP (self.f 28 [p40.1] p40.2) fun t41 S41 =>
callP (self.f 29 [v0] S41) fun t44 S44 =>
(some (nwP 24 5 (Tr.ofListFrom .nil [(sv []), (.int .i64 0), (.bool false), (sv []), .nilslice] 0) S44)).bind fun p45 =>
(stP 5 p45.1 t44 p45.2).bind fun p46 =>
(faP 0 false 1 p45.1).bind fun t48 =>
(stP 1 t48 t41 p46.2).bind fun p49 =>
(nilCheckV v1).bind fun t51 =>
(faP 4 false 1 t51).bind fun t52 =>
(ld1 t52 (onS p49.2)).bind fun p53 =>
(ldA 5 p45.1 (onS p53.2)).bind fun p54 =>
(lnS p53.1 (onS p54.2)).bind fun p55 =>
(bsP 24 5 1 (Tr.ofListFrom .nil [(sv []), (.int .i64 0), (.bool false), (sv []), .nilslice] 0) [(0, (vAgg [(sv []), (.int .i64 0), (.bool false), (sv []), .nilslice]))] (onS p55.2)).bind fun p56 =>
(apP 24 5 72 p53.1 p56.1 (onS p56.2)).bind fun p57 =>
(ixP 5 p57.1 p55.1).bind fun t58 =>
(stP 5 t58 p54.1 (onS p57.2)).bind fun p59 =>
(nilCheckV v1).bind fun t60 =>
(faP 4 false 1 t60).bind fun t61 =>
(stP 1 t61 p57.1 (onS p59.2)).bind fun p62 =>
endP [(3, [4, 6]), (4, [5, 6]), (5, [6]), (9, [12])] p49.2 [[], [], [], p53.2.log, p54.2.log, p55.2.log, p56.2.log, p57.2.log, [], p59.2.log, [], [], p62.2.log] p62.2 fun S63 =>
(binV E0 .add 71 false true v30 (.int .u64 1)).bind fun t64 =>
L52_35 self N nk ek n v0 v1 v29 t64 S63) (
ek 0 (fr 60 [(0, v0)]) S) := by kernel_rfl
noncomputable def F52 (self : EV) (N : Nat) (x0 x1 : V) (S : St) : Rs := runF E0 self N Try.f52 B52 [x0, x1] S
theorem F52_eq (self : EV) (N : Nat) (x0 x1 : V) (S : St) : F52 self N x0 x1 S =
(nilCheckV x0).bind fun t1 =>
(faP 0 false 1 t1).bind fun t2 =>
(ld1 t2 S).bind fun p3 =>
callP (self.f 47 [p3.1] p3.2) fun t4 S4 =>
(binV E0 .leq 71 false true t4 (.int .u64 2000)).bind fun t7 =>
(guardV true t7).bind fun g9 => (bif g9 then some x0 else some (.tuple [])).bind fun t9 =>
(guardV true t7).bind fun g10 => (bif g10 then nilCheckV t9 else some (.tuple [])).bind fun t10 =>
(guardV true t7).bind fun g11 => (bif g11 then faP 1 false 1 t10 else some (.tuple [])).bind fun t11 =>
(guardV true t7).bind fun g12 => (bif g12 then ld1 t11 S4 else some (.tuple [], S4)).bind fun p12 =>
(guardV true t7).bind fun g13 => (bif g13 then binV E0 .leq 3 false true p12.1 (.int .i64 12) else some (.tuple [])).bind fun t13 =>
(pickV t7 (some t13) (some (.bool false))).bind fun t14 =>
callP (self.f 27 [t14] p12.2) fun t15 S15 =>
(nilCheckV x0).bind fun t17 =>
(faP 1 false 1 t17).bind fun t18 =>
(ld1 t18 S15).bind fun p19 =>
(binV E0 .add 3 false true p19.1 (.int .i64 1)).bind fun t20 =>
(nilCheckV x0).bind fun t21 =>
(faP 1 false 1 t21).bind fun t22 =>
(stP 1 t22 t20 p19.2).bind fun p23 =>
L52_35 self N (R52_24 self N (finN E0 self Try.f52) noEx) (exB 0 (R52_24 self N (finN E0 self Try.f52) noEx) noEx) N x0 x1 t4 (.int .u64 0) p23.2 := by kernel_rfl
end
end Go.Proofs.Ythmkdoaaciamlaa.W
namespace Go.Proofs.Ythmkdoaaciamlaa.W
open Go.Proofs.Ythmkdoaaciamlaa.Ev
structure RSt where
 left : List UInt8
 lost : Bool
noncomputable def rdO (q : RSt) : O := bxO 62 [sv q.left, .bool q.lost]
theorem rdO_inj {p q : RSt} (h : rdO p = rdO q) : p = q := by
 have h := bxO_inj h
 simp only [List.cons.injEq, V.bool.injEq, and_true] at h
 cases p; cases q
 simp only at h
 rw [sv_inj h.1, h.2]
structure RdAt (s : St) (b : Nat) (q : RSt) : Prop where
 on : s.on = false
 bx : Bx s b 62 [sv q.left, .bool q.lost]
theorem set_two0 (x y v : V) : (Tr.ofListFrom .nil [x, y] 0).set v 0 = Tr.ofListFrom .nil [v, y] 0 := by kernel_rfl
theorem set_two1 (x y v : V) : (Tr.ofListFrom .nil [x, y] 0).set v 1 = Tr.ofListFrom .nil [x, v] 0 := by kernel_rfl
section
variable {s : St}
theorem bx_st0 (ho : s.on = false) {b e : Nat} {x y v : V} (h : Bx s b e [x, y]) (h1 : v.size = 1) (h2 : v.cells = one v) (h3 : isTuple v = false) : stP 1 (.ptr b 0) v s = some (.tuple [], s.put b (bxO e [v, y])) := by
 show vu (bif Nat.beq v.size 1 && !isTuple v then stK s b 0 1 v.cells else none) = _
 rw [h1, h2, h3]
 have hst : stK s b 0 1 (one v) = some (s.put b (bxO e [v, y])) := by
  unfold stK
  rw [h]
  simp only [List.length_cons, List.length_nil, show Nat.ble (0 + 1) (2 * 1) = true from rfl, blt_true.2 (show 2 * 1 < big by unfold big; decide), Bool.and_self, Bool.not_false, cond_true]
  unfold elemTo
  rw [show Nat.beq 1 (0 + 1 + 1) = false from rfl]
  have hv0 : (one v).get 0 = some v := rfl
  simp only [Bool.false_and, cond_false, cellsTo, Tr.setC_eq, hv0, oB, Nat.add_zero, show 0 / (0 + 1 + 1) = 0 from rfl, show 0 % (0 + 1 + 1) = 0 from rfl]
  rw [Tr.get_ofList]
  simp only [List.getElem?_cons_zero, oB, set_two0, set_one, note_off ho]
  rfl
 rw [hst]; rfl
theorem bx_st1 (ho : s.on = false) {b e : Nat} {x y v : V} (h : Bx s b e [x, y]) (h1 : v.size = 1) (h2 : v.cells = one v) (h3 : isTuple v = false) : stP 1 (.ptr b 1) v s = some (.tuple [], s.put b (bxO e [x, v])) := by
 show vu (bif Nat.beq v.size 1 && !isTuple v then stK s b 1 1 v.cells else none) = _
 rw [h1, h2, h3]
 have hst : stK s b 1 1 (one v) = some (s.put b (bxO e [x, v])) := by
  unfold stK
  rw [h]
  simp only [List.length_cons, List.length_nil, show Nat.ble (1 + 1) (2 * 1) = true from rfl, blt_true.2 (show 2 * 1 < big by unfold big; decide), Bool.and_self, Bool.not_false, cond_true]
  unfold elemTo
  rw [show Nat.beq 1 (0 + 1 + 1) = false from rfl]
  have hv0 : (one v).get 0 = some v := rfl
  simp only [Bool.false_and, cond_false, cellsTo, Tr.setC_eq, hv0, oB, Nat.add_zero, show 1 / (0 + 1 + 1) = 0 from rfl, show 1 % (0 + 1 + 1) = 1 from rfl]
  rw [Tr.get_ofList]
  simp only [List.getElem?_cons_zero, oB, set_two1, set_one, note_off ho]
  rfl
 rw [hst]; rfl
theorem bx_put (b e : Nat) (l : List V) : Bx (s.put b (bxO e l)) b e l := by
 show (s.put b (bxO e l)).heap.get b = some (bxO e l)
 rw [put_get, if_pos rfl]
theorem big2 : 2 < big := by unfold big; decide
variable {b : Nat} {q : RSt}
theorem RdAt.ld0 (h : RdAt s b q) : ld1 (.ptr b 0) s = some (sv q.left, s) := Bx.ld1 h.on h.bx 0 (by show 0 < 2; decide) big2
theorem RdAt.ldl (h : RdAt s b q) : ld1 (.ptr b 1) s = some (.bool q.lost, s) := Bx.ld1 h.on h.bx 1 (by show 1 < 2; decide) big2
theorem RdAt.o0 (h : RdAt s b q) : ld1 (.ptr b 0) (onS s) = some (sv q.left, rd s b 0 1) := Bx.ld1On h.on h.bx 0 (by show 0 < 2; decide) big2
theorem RdAt.ol (h : RdAt s b q) : ld1 (.ptr b 1) (onS s) = some (.bool q.lost, rd s b 1 1) := Bx.ld1On h.on h.bx 1 (by show 1 < 2; decide) big2
theorem RdAt.grew {W : Nat → Prop} {u : St} (h : RdAt s b q) (hb : b < s.next) (hw : ¬ W b) (g : Grew W s u) : RdAt u b q := ⟨g.on.trans h.on, h.bx.grew hb hw g⟩
theorem RdAt.put (h : s.on = false) (b : Nat) (q : RSt) : RdAt (s.put b (rdO q)) b q := ⟨h, bx_put b 62 _⟩
theorem RdAt.st0 (h : RdAt s b q) (u : List UInt8) : stP 1 (.ptr b 0) (sv u) s = some (.tuple [], s.put b (rdO ⟨u, q.lost⟩)) := bx_st0 h.on h.bx rfl rfl rfl
theorem RdAt.st1 (h : RdAt s b q) (u : Bool) : stP 1 (.ptr b 1) (.bool u) s = some (.tuple [], s.put b (rdO ⟨q.left, u⟩)) := bx_st1 h.on h.bx rfl rfl rfl
theorem relog_onS (h : s.on = false) (ls : List (List LE)) : relog s (onS s) ls = s := by
 unfold relog
 rw [h]
 cases s
 simp only at h
 subst h
 rfl
end
structure RIn where
 b : Nat
 q : RSt
 fit : q.left.length < 100000000
noncomputable def encR (x : RIn) : List V := [.ptr x.b 0]
noncomputable def preR (x : RIn) : List (Nat × O) := [(x.b, rdO x.q)]
noncomputable def postR (nx : RSt → RSt) (x : RIn) : List (Nat × O) := [(x.b, rdO (nx x.q))]
theorem effU_R : EffU encR preR := fun x y s h1 h2 h3 => by
 simp only [encR, List.cons.injEq, V.ptr.injEq, and_true] at h1
 have h2 := h2 (x.b, rdO x.q) (List.mem_singleton.2 rfl)
 have h3 := h3 (y.b, rdO y.q) (List.mem_singleton.2 rfl)
 simp only at h2 h3
 rw [h1, h3] at h2
 simp only [oS] at h2
 have := rdO_inj h2
 cases x; cases y
 simp only at h1 this
 subst h1 this
 rfl
noncomputable def kfR (o : RSt → V) (nx : RSt → RSt) : KF := effKF encR preR (postR nx) fun x => .ret (o x.q)
theorem rdO_under (N : Nat) (q : RSt) : OUnder N (rdO q) := bxO_under fun v hv => by
 simp only [List.mem_cons, List.not_mem_nil, or_false] at hv
 rcases hv with rfl | rfl
 · exact under_sv _
 · exact .bool _
theorem kfR_run {o : RSt → V} {nx : RSt → RSt} {S : St} {b : Nat} {q : RSt} (hB : RdAt S b q) (fit : q.left.length < 100000000) : ∃ S', (kfR o nx).run [.ptr b 0] S = some (.ret (o q), S') ∧ RdAt S' b (nx q) ∧ Grew (fun x => x = b) S S' ∧ S'.next = S.next :=
 ⟨S.put b (rdO (nx q)), effKF_run (enc := encR) (pre := preR) (post := postR nx) (out := fun x => En.ret (o x.q)) effU_R hB.on ⟨b, q, fit⟩ (fun p hp => by
  rw [preR, List.mem_singleton] at hp
  subst hp
  exact hB.bx), RdAt.put hB.on b _, grew_put b _, rfl⟩
theorem knR {K : FuncId → Option KF} (hK : KnOk Try.prog E0 K) {f : FuncId} {fn : Func} {c : Code} {d : D} (o : RSt → V) (nx : RSt → RSt) (hu : ∀ N q, Under N (o q)) (hf : E0.fns.get f = some fn) (hb : fn.body = some c) (hd : isOf d c)
 (n : Nat) (h : ∀ b q S, q.left.length < 100000000 → b < S.next → RdAt S b q → ∃ S', runF E0 (ev E0 K n) rounds fn d [.ptr b 0] S = some (.ret (o q), S') ∧ RdAt S' b (nx q) ∧ Grew (fun x => x = b) S S') : KnWell Try.prog E0 f (kfR o nx) :=
 effKF_text effU_R (fun x N hx p hp => by
  rw [postR, List.mem_singleton] at hp
  subst hp
  exact ⟨hx (x.b, rdO x.q) (List.mem_singleton.2 rfl), rdO_under N _⟩) (fun x p hp => by
  rw [preR, List.mem_singleton] at hp
  subst hp
  rfl) E0_ok hK hf hb hd fun x S ho hh hl => by
  obtain ⟨S', h1, h2, h3⟩ := h x.b x.q S x.fit (hl (x.b, rdO x.q) (List.mem_singleton.2 rfl)) ⟨ho, hh (x.b, rdO x.q) (List.mem_singleton.2 rfl)⟩
  refine ⟨n, .ret (o x.q), S', h1, h3.mono fun y _ hy => ⟨(x.b, rdO (nx x.q)), List.mem_singleton.2 rfl, hy.symm⟩, fun p hp => ?_, Fz.same (hu _ _)⟩
  rw [postR, List.mem_singleton] at hp
  subst hp
  exact h2.bx
def losing (_ : RSt) : RSt := ⟨[], true⟩
noncomputable def kfLose : KF := kfR (fun _ => .tuple []) losing
theorem kn55 {K : FuncId → Option KF} (hK : KnOk Try.prog E0 K) : KnWell Try.prog E0 55 kfLose :=
 knR hK (fn := Try.f55) (c := C55) (d := B55) _ _ (fun _ _ => .tuple .nil) (by kernel_rfl) (by kernel_rfl) (annot_isOf C55 _ (by kernel_rfl)) 0 fun b q S fit hb hB => by
  refine ⟨(S.put b (rdO ⟨[], q.lost⟩)).put b (rdO ⟨[], true⟩), (?_ : F55 (ev E0 K 0) rounds (.ptr b 0) S = _), RdAt.put (s := S.put b (rdO ⟨[], q.lost⟩)) hB.on b ⟨[], true⟩, (grew_put b _).trans (grew_put b _)⟩
  rw [F55_eq, show nilCheckV (.ptr b 0) = some (.ptr b 0) from rfl, oB, faP_ptr, oB, Nat.zero_add, hB.st0, oB, oB, faP_ptr, oB, Nat.zero_add]
  dsimp only
  rw [(RdAt.put hB.on b ⟨[], q.lost⟩).st1 true, oB]
def numK (l : List UInt8) : Nat := (l.takeWhile fun c => decide (128 ≤ c.toNat)).length
def numV (l : List UInt8) (n : Nat) : Nat := l.foldl (fun n c => (128 * n + c.toNat % 128) % 18446744073709551616) n
def rNum (q : RSt) : Nat × RSt :=
 if q.left.length ≤ numK q.left ∨ 9 < numK q.left then (0, ⟨[], true⟩)
 else if digs (numV (q.left.take (numK q.left + 1)) 0) = q.left.take (numK q.left + 1) then (numV (q.left.take (numK q.left + 1)) 0, ⟨q.left.drop (numK q.left + 1), q.lost⟩) else (0, ⟨[], true⟩)
theorem numK_cons (c : UInt8) (l : List UInt8) : numK (c :: l) = if 128 ≤ c.toNat then numK l + 1 else 0 := by
 unfold numK
 rw [List.takeWhile_cons]
 by_cases h : 128 ≤ c.toNat
 · rw [decide_eq_true h, if_pos rfl, if_pos h]; rfl
 · rw [decide_eq_false h, if_neg (by simp), if_neg h]; rfl
theorem numK_le : ∀ l : List UInt8, numK l ≤ l.length
 | [] => Nat.le_refl _
 | c :: l => by
  rw [numK_cons, List.length_cons]
  have := numK_le l
  split <;> omega
theorem numV_lt : ∀ (l : List UInt8) (n : Nat), n < 18446744073709551616 → numV l n < 18446744073709551616
 | [], n, h => h
 | c :: l, n, _ => numV_lt l _ (Nat.mod_lt _ (by omega))
theorem wrapU (n : Nat) : IntKind.u64.wrap (n : Int) = ((n % 18446744073709551616 : Nat) : Int) := by
 show (n : Int) % (2 ^ 64 : Int) = _
 omega
theorem mod8 (c : UInt8) : IntKind.u64.wrap ((c.toNat : Int).tmod 128) = ((c.toNat % 128 : Nat) : Int) := by
 rw [Int.tmod_eq_emod_of_nonneg (by omega), show (c.toNat : Int) % 128 = ((c.toNat % 128 : Nat) : Int) by omega, wrap_u64 (by omega) (by omega)]
theorem L54k_spec (self : EV) (N : Nat) (nk : Ac → St → Rs) (ek : Nat → Ac → St → Rs) (b : Nat) (q : RSt) (fit : q.left.length < 100000000) (S : St) (hB : RdAt S b q) :
 ∀ (r : List UInt8) (i n : Nat), q.left.drop i = r → r.length < n →
 L54_66 self N nk ek n (.ptr b 0) (.int .i64 (i : Int)) S = ek 0 (fr 76 [(0, .ptr b 0), (3, .int .i64 ((i + numK r : Nat) : Int))]) S
 | r, i, 0, _, hn => by omega
 | [], i, n + 1, hi, hn => by
  rw [L54_66_eq]
  simp only [show nilCheckV (.ptr b 0) = some (.ptr b 0) from rfl, faP_ptr, Nat.zero_add, hB.ld0, lnStr_sv, oB, binV_ii, intsV_lss, dec_ge (drop_end hi), guardV_t, cond_false, pickV_bool, ifK_bool]
  rfl
 | c :: r, i, n + 1, hi, hn => by
  obtain ⟨hlt, hc, hr, _⟩ := drop_at hi
  rw [L54_66_eq]
  simp only [show nilCheckV (.ptr b 0) = some (.ptr b 0) from rfl, faP_ptr, Nat.zero_add, hB.ld0, lnStr_sv, oB, binV_ii, intsV_lss, dec_lt hlt, guardV_t, cond_true, pickV_bool]
  rw [ixS_sv _ _ i hlt, hc, oB, binV_ii, intsV_geq, oB, ifK_bool, numK_cons]
  by_cases h : 128 ≤ c.toNat
  · rw [decide_eq_true (show (128 : Int) ≤ (c.toNat : Int) by omega), cond_true, intsV_add, wrap_succ (by omega), oB, if_pos h]
    have := L54k_spec self N nk ek b q fit S hB r (i + 1) n hr (by simp at hn; omega)
    rw [this, show i + 1 + numK r = i + (numK r + 1) by omega]
  · rw [decide_eq_false (show ¬ (128 : Int) ≤ (c.toNat : Int) by omega), cond_false, if_neg h]
    rfl
theorem L54v_spec (self : EV) (N : Nat) (nk : Ac → St → Rs) (ek : Nat → Ac → St → Rs) (b : Nat) (q : RSt) (fit : q.left.length < 100000000) (S : St) (hB : RdAt S b q) (k : Nat) (hk : k < q.left.length) :
 ∀ (r : List UInt8) (i v n : Nat), (q.left.take (k + 1)).drop i = r → r.length < n → i ≤ k + 1 →
 L54_47 self N nk ek n (.ptr b 0) (.int .i64 (k : Int)) (.int .u64 (v : Int)) (.int .i64 (i : Int)) S = ek 2 (fr 76 [(0, .ptr b 0), (3, .int .i64 (k : Int)), (4, .int .u64 (numV r v : Int))]) S
 | r, i, v, 0, _, hn, _ => by omega
 | [], i, v, n + 1, hi, hn, hle => by
  have := drop_end hi
  rw [List.length_take] at this
  rw [L54_47_eq]
  simp only [binV_ii, intsV_leq, decide_eq_false (show ¬ (i : Int) ≤ (k : Int) by omega), oB, ifK_bool, cond_false]
  rfl
 | c :: r, i, v, n + 1, hi, hn, hle => by
  obtain ⟨hlt, hc, hr, _⟩ := drop_at hi
  rw [List.length_take] at hlt
  rw [List.getElem_take] at hc
  have hil : i < q.left.length := by omega
  rw [L54_47_eq]
  simp only [binV_ii, intsV_leq, decide_eq_true (show (i : Int) ≤ (k : Int) by omega), oB, ifK_bool, cond_true, intsV_mul, show nilCheckV (.ptr b 0) = some (.ptr b 0) from rfl, faP_ptr, Nat.zero_add, hB.ld0]
  rw [ixS_sv _ _ i hil, hc, oB, binV_ii, intsV_rem _ _ _ (by decide), oB, cvI_int, oB]
  dsimp only
  rw [mod8, show (128 : Int) * (v : Int) = ((128 * v : Nat) : Int) by omega, wrapU, binV_ii, intsV_add, show ((128 * v % 18446744073709551616 : Nat) : Int) + ((c.toNat % 128 : Nat) : Int) = ((128 * v % 18446744073709551616 + c.toNat % 128 : Nat) : Int) by omega, wrapU, oB, intsV_add, wrap_succ (by omega), oB]
  rw [show (128 * v % 18446744073709551616 + c.toNat % 128) % 18446744073709551616 = (128 * v + c.toNat % 128) % 18446744073709551616 by omega]
  exact L54v_spec self N nk ek b q fit S hB k hk r (i + 1) _ n hr (by simp at hn; omega) (by omega)
end Go.Proofs.Ythmkdoaaciamlaa.W
namespace Go.Proofs.Ythmkdoaaciamlaa.W
open Go.Proofs.Ythmkdoaaciamlaa.Ev
theorem rNum_left (q : RSt) : (rNum q).2.left.length ≤ q.left.length := by
 unfold rNum
 split
 · exact Nat.zero_le _
 · split
   · simp only [List.length_drop]; omega
   · exact Nat.zero_le _
theorem rNum_lt (q : RSt) : (rNum q).1 < 18446744073709551616 := by
 unfold rNum
 split
 · show 0 < _; omega
 · split
   · exact numV_lt _ _ (by omega)
   · show 0 < _; omega
noncomputable def kfNum : KF := kfR (fun q => .int .u64 ((rNum q).1 : Int)) fun q => (rNum q).2
theorem F54_spec {K : FuncId → Option KF} (h55 : K 55 = some kfLose) (h46 : K 46 = some kf46) (b : Nat) (q : RSt) (S : St) (fit : q.left.length < 100000000) (hB : RdAt S b q) :
 ∃ S', F54 (ev E0 K 1) rounds (.ptr b 0) S = some (.ret (.int .u64 ((rNum q).1 : Int)), S') ∧ RdAt S' b (rNum q).2 ∧ Grew (fun x => x = b) S S' := by
 have hkl := numK_le q.left
 have h1 := L54k_spec (ev E0 K 1) rounds (R54_2 (ev E0 K 1) rounds (finN E0 (ev E0 K 1) Try.f54) noEx) (exB 0 (R54_2 (ev E0 K 1) rounds (finN E0 (ev E0 K 1) Try.f54) noEx) noEx) b q fit S hB q.left 0 rounds rfl (by unfold rounds; omega)
 rw [show ((0 : Nat) : Int) = 0 from rfl, Nat.zero_add] at h1
 rw [F54_eq, h1, exB_same, R54_2_eq, show nilCheckV (.ptr b 0) = some (.ptr b 0) from rfl, oB, faP_ptr, oB, Nat.zero_add, hB.ld0, oB]
 dsimp only
 rw [lnStr_sv, oB]
 dsimp only
 rw [binV_ii, intsV_geq, oB, guardV_f, oB]
 have lose : ∃ S', callP ((ev E0 K 1).f 55 [.ptr b 0] S) (fun _ S15 => some (.ret (.int .u64 0), S15)) = some (.ret (.int .u64 0), S') ∧ RdAt S' b ⟨[], true⟩ ∧ Grew (fun x => x = b) S S' := by
  obtain ⟨S', k1, k2, k3, _⟩ := kfR_run (o := fun _ => .tuple []) (nx := losing) hB fit
  refine ⟨S', ?_, k2, k3⟩
  rw [ev_known h55]
  show callP (kfLose.run _ _) _ = _
  unfold kfLose
  rw [k1, callP_ret]
 by_cases hc1 : q.left.length ≤ numK q.left
 · obtain ⟨S', k1, k2, k3⟩ := lose
   refine ⟨S', ?_, ?_, k3⟩
   · rw [decide_eq_true (show (q.left.length : Int) ≤ (numK q.left : Int) by omega), Bool.not_true, cond_false, oB, oB, cond_false, oB, pickV_bool, cond_true, oB, ifK_bool, cond_true, k1]
     unfold rNum
     rw [if_pos (.inl hc1)]; rfl
   · unfold rNum
     rw [if_pos (.inl hc1)]; exact k2
 · rw [decide_eq_false (show ¬ (q.left.length : Int) ≤ (numK q.left : Int) by omega), Bool.not_false, cond_true, oB, oB, cond_true, binV_ii, intsV_gtr, oB, pickV_bool, cond_false, oB, ifK_bool]
   by_cases hc2 : 9 < numK q.left
   · obtain ⟨S', k1, k2, k3⟩ := lose
     refine ⟨S', ?_, ?_, k3⟩
     · rw [decide_eq_true (show (9 : Int) < (numK q.left : Int) by omega), cond_true, k1]
       unfold rNum
       rw [if_pos (.inr hc2)]; rfl
     · unfold rNum
       rw [if_pos (.inr hc2)]; exact k2
   · rw [decide_eq_false (show ¬ (9 : Int) < (numK q.left : Int) by omega), cond_false]
     have hlt : numK q.left < q.left.length := by omega
     have h2 := L54v_spec (ev E0 K 1) rounds (R54_18 (ev E0 K 1) rounds (fun a s => projK [2] a fun a => finN E0 (ev E0 K 1) Try.f54 a s) noEx) (exB 2 (R54_18 (ev E0 K 1) rounds (fun a s => projK [2] a fun a => finN E0 (ev E0 K 1) Try.f54 a s) noEx) noEx) b q fit S hB (numK q.left) hlt (q.left.take (numK q.left + 1)) 0 0 rounds (by rw [List.drop_zero]) (by rw [List.length_take]; unfold rounds; omega) (by omega)
     rw [show ((0 : Nat) : Int) = 0 from rfl] at h2
     have hv := numV_lt (q.left.take (numK q.left + 1)) 0 (by omega)
     have hnum : rNum q = if digs (numV (q.left.take (numK q.left + 1)) 0) = q.left.take (numK q.left + 1) then (numV (q.left.take (numK q.left + 1)) 0, ⟨q.left.drop (numK q.left + 1), q.lost⟩) else (0, ⟨[], true⟩) := by
      unfold rNum
      rw [if_neg (by omega)]
     generalize numV (q.left.take (numK q.left + 1)) 0 = v at h2 hv hnum
     rw [h2, exB_same, R54_18_eq, ev_known h46, show (sv []) = sv ([] : List UInt8) from rfl, kf46_run [] v hv (by simp), callD_ret, List.nil_append, show nilCheckV (.ptr b 0) = some (.ptr b 0) from rfl, oB, faP_ptr, oB, Nat.zero_add, onS_onS, hB.o0, oB, binV_ii, intsV_add, wrap_succ (by omega), oB]
     dsimp only
     rw [onS_rd, slice_sv und9 q.left (bounds_hi .i64 (by omega)) (by omega), oB]
     dsimp only
     rw [List.drop_zero, Nat.sub_zero, binV_ss, strOp_neq, oB, endP_sel (by rfl), onS_onS, relog_onS hB.on, ifK_bool]
     by_cases he : digs v = q.left.take (numK q.left + 1)
     · rw [if_pos he] at hnum
       rw [hnum, he, beq_self_eq_true, Bool.not_true, cond_false, oB, faP_ptr, oB, Nat.zero_add, hB.ld0, oB, oB]
       dsimp only
       rw [slice_sv und9 q.left (bounds_lo .i64 (by omega)) (by omega), oB]
       dsimp only
       rw [oB, faP_ptr, oB, Nat.zero_add, show (q.left.drop (numK q.left + 1)).take (q.left.length - (numK q.left + 1)) = q.left.drop (numK q.left + 1) by rw [List.take_of_length_le (by rw [List.length_drop]; omega)], hB.st0, oB]
       exact ⟨_, rfl, RdAt.put hB.on b _, grew_put b _⟩
     · rw [if_neg he] at hnum
       rw [hnum, beq_false_of_ne he, Bool.not_false, cond_true]
       exact lose
theorem kn54 {K : FuncId → Option KF} (hK : KnOk Try.prog E0 K) (h55 : K 55 = some kfLose) (h46 : K 46 = some kf46) : KnWell Try.prog E0 54 kfNum :=
 knR hK (fn := Try.f54) (c := C54) (d := B54) _ _ (fun _ _ => .int _ _) (by kernel_rfl) (by kernel_rfl) (annot_isOf C54 _ (by kernel_rfl)) 1 fun b q S fit _ hB => F54_spec h55 h46 b q S fit hB
def rText (q : RSt) : List UInt8 × RSt := if (rNum q).2.left.length < (rNum q).1 then ([], ⟨[], true⟩) else ((rNum q).2.left.take (rNum q).1, ⟨(rNum q).2.left.drop (rNum q).1, (rNum q).2.lost⟩)
theorem rText_left (q : RSt) : (rText q).2.left.length ≤ q.left.length := by
 have := rNum_left q
 unfold rText
 split
 · exact Nat.zero_le _
 · simp only [List.length_drop]; omega
theorem rText_len (q : RSt) : (rText q).1.length ≤ q.left.length := by
 have := rNum_left q
 unfold rText
 split
 · exact Nat.zero_le _
 · simp only [List.length_take]; omega
noncomputable def kfText' : KF := kfR (fun q => sv (rText q).1) fun q => (rText q).2
theorem kn31 {K : FuncId → Option KF} (hK : KnOk Try.prog E0 K) (h54 : K 54 = some kfNum) (h55 : K 55 = some kfLose) : KnWell Try.prog E0 31 kfText' :=
 knR hK (fn := Try.f31) (c := C31) (d := B31) _ _ (fun _ _ => under_sv _) (by kernel_rfl) (by kernel_rfl) (annot_isOf C31 _ (by kernel_rfl)) 1 fun b q S fit hb hB => by
  obtain ⟨S1, k1, k2, k3, k4⟩ := kfR_run (o := fun q => .int .u64 ((rNum q).1 : Int)) (nx := fun q => (rNum q).2) hB fit
  have hl := rNum_left q
  have hn := rNum_lt q
  suffices h : ∃ S', F31 (ev E0 K 1) rounds (.ptr b 0) S = some (.ret (sv (rText q).1), S') ∧ RdAt S' b (rText q).2 ∧ Grew (fun x => x = b) S S' from h
  rw [F31_eq, ev_known h54]
  unfold kfNum rText
  rw [k1, callP_ret, show nilCheckV (.ptr b 0) = some (.ptr b 0) from rfl, oB, faP_ptr, oB, Nat.zero_add, k2.ld0, oB]
  dsimp only
  rw [lnStr_sv, oB]
  dsimp only
  rw [cvI_int, oB]
  dsimp only
  rw [wrap_u64 (by omega) (by omega), binV_ii, intsV_gtr, oB, ifK_bool]
  by_cases h : (rNum q).2.left.length < (rNum q).1
  · rw [decide_eq_true (show ((rNum q).2.left.length : Int) < ((rNum q).1 : Int) by omega), cond_true, if_pos h, ev_known h55]
    obtain ⟨S2, m1, m2, m3, m4⟩ := kfR_run (o := fun _ => .tuple []) (nx := losing) k2 (by omega)
    unfold kfLose
    rw [m1, callP_ret]
    exact ⟨S2, rfl, m2, k3.trans m3⟩
  · rw [decide_eq_false (show ¬ ((rNum q).2.left.length : Int) < ((rNum q).1 : Int) by omega), cond_false, if_neg h, oB, faP_ptr, oB, Nat.zero_add, k2.ld0, oB]
    dsimp only
    rw [slice_sv und9 _ (bounds_hi .u64 (by omega)) (by omega), oB, oB, faP_ptr, oB, Nat.zero_add]
    dsimp only
    rw [k2.ld0, oB]
    dsimp only
    rw [slice_sv und9 _ (bounds_lo .u64 (by omega)) (by omega), oB, oB, faP_ptr, oB, Nat.zero_add]
    dsimp only
    rw [List.drop_zero, Nat.sub_zero, show ((rNum q).2.left.drop (rNum q).1).take ((rNum q).2.left.length - (rNum q).1) = (rNum q).2.left.drop (rNum q).1 by rw [List.take_of_length_le (by rw [List.length_drop]; omega)], k2.st0, oB]
    exact ⟨_, rfl, RdAt.put k2.on b _, k3.trans (grew_put b _)⟩
end Go.Proofs.Ythmkdoaaciamlaa.W
namespace Go.Proofs.Ythmkdoaaciamlaa.W
open Go.Proofs.Ythmkdoaaciamlaa.Ev
noncomputable def c5 (nm : List UInt8) (k : Int) (x : Bool) (d : List UInt8) (v : V) : List V := [sv nm, .int .i64 k, .bool x, sv d, v]
theorem encN_c5 (nm : List UInt8) (k : Int) (x : Bool) (d : List UInt8) : encN (.mk nm k x d []) = vAgg (c5 nm k x d .nilslice) := by
 rw [encN, encL]; rfl
theorem build24 (k : Int) : buildV E0 24 [(1, .int .i64 k)] = some (vAgg (c5 [] k false [] .nilslice)) := by kernel_rfl
theorem build24_nil : buildV E0 24 [] = some (vAgg (c5 [] 0 false [] .nilslice)) := by kernel_rfl
theorem set5_0 (a b c d e v : V) : (Tr.ofListFrom .nil [a, b, c, d, e] 0).set v 0 = Tr.ofListFrom .nil [v, b, c, d, e] 0 := by kernel_rfl
theorem set5_2 (a b c d e v : V) : (Tr.ofListFrom .nil [a, b, c, d, e] 0).set v 2 = Tr.ofListFrom .nil [a, b, v, d, e] 0 := by kernel_rfl
theorem set5_3 (a b c d e v : V) : (Tr.ofListFrom .nil [a, b, c, d, e] 0).set v 3 = Tr.ofListFrom .nil [a, b, c, v, e] 0 := by kernel_rfl
theorem set5_4 (a b c d e v : V) : (Tr.ofListFrom .nil [a, b, c, d, e] 0).set v 4 = Tr.ofListFrom .nil [a, b, c, d, v] 0 := by kernel_rfl
section
variable {s : St}
theorem bx_st5 (ho : s.on = false) {b e i : Nat} {l m : List V} {v : V} (h : Bx s b e l) (hl : l.length = 5) (hm : m.length = 5) (hi : i < 5) (hset : (Tr.ofListFrom .nil l 0).set v i = Tr.ofListFrom .nil m 0) (h1 : v.size = 1) (h2 : v.cells = one v) (h3 : isTuple v = false) :
 stP 1 (.ptr b i) v s = some (.tuple [], s.put b (bxO e m)) := by
 show vu (bif Nat.beq v.size 1 && !isTuple v then stK s b i 1 v.cells else none) = _
 rw [h1, h2, h3]
 have hst : stK s b i 1 (one v) = some (s.put b (bxO e m)) := by
  unfold stK
  rw [h, hl]
  simp only [ble_true.2 (show i + 1 ≤ 5 * 1 by omega), blt_true.2 (show 5 * 1 < big by unfold big; decide), Bool.and_self, Bool.not_false, cond_true]
  unfold elemTo
  rw [show Nat.beq 1 5 = false from rfl]
  have hv0 : (one v).get 0 = some v := rfl
  simp only [Bool.false_and, cond_false, cellsTo, Tr.setC_eq, hv0, oB, Nat.add_zero, Nat.div_eq_of_lt hi, Nat.mod_eq_of_lt hi]
  rw [Tr.get_ofList]
  simp only [List.getElem?_cons_zero, oB, hset, set_one, note_off ho]
  unfold bxO
  rw [hm]
 rw [hst]; rfl
theorem AgAt.stAOn (ho : s.on = false) {b e z : Nat} {t : Tr V} (h : AgAt s b e z t) (hz : z < big) (u : Tr V) : ∃ w l, stP z (.ptr b 0) (.agg z u) (onS s) = some (.tuple [], w.lg l) ∧ AgAt w b e z u ∧ Grew (fun x => x = b) s w ∧ w.next = s.next := by
 obtain ⟨c, h1, h2⟩ := h
 have hst : stK s b 0 z u = some (s.put b (.cells e z 1 false (c.set u 0))) := by
  unfold stK
  rw [h1]
  simp only [ble_true.2 (show 0 + z ≤ z * 1 by omega), blt_true.2 (show z * 1 < big by omega), Bool.and_self, Bool.not_false, cond_true]
  unfold elemTo
  rw [show Nat.beq z z = true from beq_true.2 rfl, Nat.zero_mod, show Nat.beq 0 0 = true from rfl]
  simp only [Bool.and_self, cond_true, Nat.zero_div, Tr.setC_eq, oB, note_off ho]
 obtain ⟨_, l', hl⟩ := stK_lg ho hst []
 refine ⟨s.put b (.cells e z 1 false (c.set u 0)), l', ?_, ⟨c.set u 0, by rw [put_get, if_pos rfl], by rw [Tr.get_set, if_pos rfl]⟩, grew_put b _, rfl⟩
 show vu (bif Nat.beq z z && !false then stK (onS s) b 0 z u else none) = _
 rw [show Nat.beq z z = true from beq_true.2 rfl]
 simp only [Bool.not_false, Bool.and_self, cond_true]
 rw [show onS s = s.lg [] from rfl, hl]; rfl
theorem AgAt.relog {s0 w : St} (h0 : s0.on = false) {b e z : Nat} {t : Tr V} (h : AgAt w b e z t) (hon : w.on = false) (hn : w.next = s0.next) (g : Grew (fun x => x = b) s0 w) (l : List LE) (ls : List (List LE)) :
 AgAt (relog s0 (w.lg l) ls) b e z t ∧ (Go.Proofs.Ythmkdoaaciamlaa.Ev.relog s0 (w.lg l) ls).next = s0.next ∧ Grew (fun x => x = b) s0 (Go.Proofs.Ythmkdoaaciamlaa.Ev.relog s0 (w.lg l) ls) := by
 obtain ⟨r1, r2, r3⟩ := relog_lg h0 l ls hon
 obtain ⟨c, h1, h2⟩ := h
 exact ⟨⟨c, by rw [r1]; exact h1, h2⟩, by rw [r2, hn], ⟨by rw [r2, hn]; exact Nat.le_refl _, by rw [r3, h0], fun x hx hne => by rw [r1]; exact g.keep x hx hne⟩⟩
end
theorem fz_node {S : St} {N N0 : Nat} {v5 : V} {acc : List Nd} (h : SliceIs S N0 v5 acc) (hN : N ≤ N0) (nm : List UInt8) (k : Int) (x : Bool) (d : List UInt8) : Fz S N (vAgg (c5 nm k x d v5)) (encN (.mk nm k x d acc)) := by
 rw [encN_tree]
 have hg : ∀ (i : Nat) v, (c5 nm k x d v5)[i]? = some v → (Tr.ofListFrom .nil (c5 nm k x d v5) 0).get i = some v := fun i v h => by rw [Tr.get_ofList]; exact h
 refine .agg (fun i => ((c5 nm k x d v5)[i]?).getD .nilptr) (fun i v' _ hi => ?_) fun i v' hv' hi => ?_
 · have hi : i < 5 := hi
   match i, hi with
   | 0, _ => exact hg 0 _ rfl
   | 1, _ => exact hg 1 _ rfl
   | 2, _ => exact hg 2 _ rfl
   | 3, _ => exact hg 3 _ rfl
   | 4, _ => exact hg 4 _ rfl
 · have hi : i < 5 := hi
   have hv2 : (cellsN (.mk nm k x d acc))[i]? = some v' := by
    have : (Tr.ofListFrom .nil (cellsN (.mk nm k x d acc)) 0).get i = some v' := hv'
    rwa [Tr.get_ofList] at this
   unfold cellsN at hv2
   simp only [Nd.name, Nd.kind, Nd.exec, Nd.data, Nd.kids] at hv2
   match i, hi, hv2 with
   | 0, _, hv2 => simp at hv2; subst hv2; exact .same (under_sv _)
   | 1, _, hv2 => simp at hv2; subst hv2; exact .same (.int _ _)
   | 2, _, hv2 => simp at hv2; subst hv2; exact .same (.bool _)
   | 3, _, hv2 => simp at hv2; subst hv2; exact .same (under_sv _)
   | 4, _, hv2 =>
    simp at hv2; subst hv2
    show Fz S N v5 (kidsV (encL acc))
    rcases h with ⟨h1, rfl⟩ | ⟨h1, r, rfl, hrow, hNr, hrn⟩
    · rw [h1, encL]; exact .same .nilslice
    · obtain ⟨c, hc1, hc2⟩ := hrow.row
      have hne : kidsV (encL acc) = .list 5 (encL acc) := by
       cases h : acc with
       | nil => exact absurd h h1
       | cons a l => rw [encL]; rfl
      rw [hne, encL_map]
      refine .oslice hc1 (by omega) (by omega) rfl (by rw [List.length_map]) (by rw [List.length_map]; omega) ?_
      rw [Nat.zero_div]
      exact fzRow_nodes _ 0 fun j y hj => by
       rw [Nat.zero_add]
       exact hc2 j _ (by rw [List.getElem?_map, hj]; rfl)
def nameIt (y : Nd) (nm : List UInt8) : Nd := .mk nm y.kind y.exec y.data y.kids
def kidsN (f : RSt → Option Nd × RSt) : Nat → RSt → List Nd → Option (List Nd) × RSt
 | 0, q, acc => (some acc, q)
 | n + 1, q, acc => match f (rText q).2 with
  | (none, q') => (none, q')
  | (some y, q') => kidsN f n q' (acc ++ [nameIt y (rText q).1])
def fileN (q : RSt) : Option Nd × RSt := (if (rNum q).1 ≤ 1 ∧ (rText (rNum q).2).2.lost = false then some (.mk [] 1 (decide ((rNum q).1 = 1)) (rText (rNum q).2).1 []) else none, (rText (rNum q).2).2)
def linkN (q : RSt) : Option Nd × RSt := (if (rText q).2.lost = false then some (.mk [] 3 false (rText q).1 []) else none, (rText q).2)
def dirN (f : Option (RSt → Option Nd × RSt)) (q : RSt) : Option Nd × RSt := match f with
 | none => (none, (rNum q).2)
 | some f => if 2000 < (rNum q).1 ∨ (rNum q).2.lost = true then (none, (rNum q).2) else match kidsN f (rNum q).1 (rNum q).2 [] with
  | (none, q') => (none, q')
  | (some l, q') => (if q'.lost = false then some (.mk [] 2 false [] l) else none, q')
def oneN (f : Option (RSt → Option Nd × RSt)) (q : RSt) : Option Nd × RSt :=
 if (rNum q).1 % 1000 = 1 then fileN (rNum q).2 else if (rNum q).1 % 1000 = 3 then linkN (rNum q).2 else if (rNum q).1 % 1000 = 2 then dirN f (rNum q).2 else (none, (rNum q).2)
def readN : Nat → RSt → Option Nd × RSt
 | 0 => oneN none
 | d + 1 => oneN (some (readN d))
noncomputable def outN : Option Nd → V
 | some y => .tuple [encN y, .bool true]
 | none => .tuple [.agg 5 .nil, .bool false]
theorem kidsN_left {f : RSt → Option Nd × RSt} (hf : ∀ q, (f q).2.left.length ≤ q.left.length) : ∀ (n : Nat) (q : RSt) (acc : List Nd), (kidsN f n q acc).2.left.length ≤ q.left.length
 | 0, q, acc => Nat.le_refl _
 | n + 1, q, acc => by
  have h1 := rText_left q
  have h2 := hf (rText q).2
  rw [kidsN]
  split
  · rename_i q' h; rw [h] at h2; exact Nat.le_trans h2 h1
  · rename_i y q' h; rw [h] at h2; exact Nat.le_trans (kidsN_left hf n q' _) (Nat.le_trans h2 h1)
theorem oneN_left {f : Option (RSt → Option Nd × RSt)} (hf : ∀ g, f = some g → ∀ q, (g q).2.left.length ≤ q.left.length) (q : RSt) : (oneN f q).2.left.length ≤ q.left.length := by
 have h0 := rNum_left q
 unfold oneN
 split
 · exact Nat.le_trans (rText_left _) (Nat.le_trans (rNum_left _) h0)
 · split
   · exact Nat.le_trans (rText_left _) h0
   · split
     · refine Nat.le_trans ?_ h0
       have h1 := rNum_left (rNum q).2
       unfold dirN
       split
       · exact h1
       · rename_i g
         split
         · exact h1
         · have h2 := kidsN_left (hf g rfl) (rNum (rNum q).2).1 (rNum (rNum q).2).2 []
           split
           · rename_i q' h; rw [h] at h2; exact Nat.le_trans h2 h1
           · rename_i l q' h; rw [h] at h2; exact Nat.le_trans h2 h1
     · exact h0
theorem readN_left : ∀ (d : Nat) (q : RSt), (readN d q).2.left.length ≤ q.left.length
 | 0, q => oneN_left (fun g h => by cases h) q
 | d + 1, q => oneN_left (fun g h => by cases h; exact readN_left d) q
end Go.Proofs.Ythmkdoaaciamlaa.W
