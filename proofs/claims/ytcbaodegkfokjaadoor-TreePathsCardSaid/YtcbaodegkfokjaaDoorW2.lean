/-
  WHAT THE FUNCTIONS COME TO: each is read by the evaluator, printed, and told as a function of data, part 2 of 8 (no condition).
-/
import Derived.Test.YtcbaodegkfokjaaDoorW1
import Derived.Test.YtcbaodegkfokjaaDoorProg
import Derived.KernelRfl
namespace Go.Proofs.YtcbaodegkfokjaaDoor.W
open Go.Proofs.YtcbaodegkfokjaaDoor.Ev
set_option maxRecDepth 100000
noncomputable section
noncomputable def C49 : Code := Tryd.f49.body.getD .skip
noncomputable def B49 : D := (annot C49 [[], []]).1
noncomputable def F49 (self : EV) (N : Nat) (x0 x1 : V) (S : St) : Rs := runF E0 self N Tryd.f49 B49 [x0, x1] S
theorem F49_eq (self : EV) (N : Nat) (x0 x1 : V) (S : St) : F49 self N x0 x1 S =
callP (self.f 56 [x0, x1] S) fun t3 S3 =>
(binV E0 .geq 3 false true t3 (.int .i64 0)).bind fun t4 =>
some (.ret t4, S3) := by kernel_rfl
noncomputable def C54 : Code := Tryd.f54.body.getD .skip
noncomputable def B54 : D := (annot C54 [[], [], [0, 1, 7, 8], [], [], [], [], [], [], [], [0], [4], []]).1
noncomputable def RL54 : List Nat := cellsOf Tryd.f54.results.toList
noncomputable def R54_1 (self : EV) (N : Nat) (nk : Ac → St → Rs) (ek : Nat → Ac → St → Rs) (a : Ac) (S : St) : Rs := projK [] a fun a => dr E0 self RL54 N (B54.r).r (mkK E0 self Tryd.f54 nk ek) a S
theorem R54_1_eq (self : EV) (N : Nat) (nk : Ac → St → Rs) (ek : Nat → Ac → St → Rs) (S : St) : R54_1 self N nk ek (fr 19 []) S =
some (.ret (.int .i64 (-1)), S) := by kernel_rfl
noncomputable def L54_6 (self : EV) (N : Nat) (nk : Ac → St → Rs) (ek : Nat → Ac → St → Rs) (n : Nat) ( v0 v1 v7 v8 : V) (S : St) : Rs := loopK [0, 1, 7, 8] (dr E0 self RL54 N (B54.r.l.r.l.l)) (mkK E0 self Tryd.f54 nk ek) n (fr 19 [(0, v0), (1, v1), (7, v7), (8, v8)]) S
theorem L54_6_eq (self : EV) (N : Nat) (nk : Ac → St → Rs) (ek : Nat → Ac → St → Rs) (n : Nat) ( v0 v1 v7 v8 : V) (S : St) : L54_6 self N nk ek (n + 1) v0 v1 v7 v8 S =
(binV E0 .lss 3 false false v8 v7).bind fun t7 =>
ifK t7 (
(ixP 1 v0 v8).bind fun t13 =>
(ld1 t13 S).bind fun p14 =>
callP (callK E0 self v1 [p14.1] p14.2) fun t15 S15 =>
ifK t15 (
some (.ret v8, S15)) (
(binV E0 .add 3 false true v8 (.int .i64 1)).bind fun t18 =>
L54_6 self N nk ek n v0 v1 v7 t18 S15)) (
ek 0 (fr 19 []) S) := by kernel_rfl
noncomputable def F54 (self : EV) (N : Nat) (x0 x1 : V) (S : St) : Rs := runF E0 self N Tryd.f54 B54 [x0, x1] S
theorem F54_eq (self : EV) (N : Nat) (x0 x1 : V) (S : St) : F54 self N x0 x1 S =
(lnS x0 S).bind fun p4 =>
L54_6 self N (R54_1 self N (finN E0 self Tryd.f54) noEx) (exB 0 (R54_1 self N (finN E0 self Tryd.f54) noEx) noEx) N x0 x1 p4.1 (.int .i64 0) p4.2 := by kernel_rfl
noncomputable def C56 : Code := Tryd.f56.body.getD .skip
noncomputable def B56 : D := (annot C56 [[], [], [], [], [], [], [], [], [], [], [], [], [], [], [0, 6, 8], [], [], [], [], [], [], [0], [0, 1], [], [0, 0, 1], [4], [], [1, 45], [], [], [], [], [], [], [0], [4], []]).1
noncomputable def RL56 : List Nat := cellsOf Tryd.f56.results.toList
noncomputable def R56_22 (self : EV) (N : Nat) (nk : Ac → St → Rs) (ek : Nat → Ac → St → Rs) (a : Ac) (S : St) : Rs := projK [0, 1] a fun a => dr E0 self RL56 N (B56.r.r.r).r (mkK E0 self Tryd.f56 nk ek) a S
noncomputable def R56_23 (self : EV) (N : Nat) (nk : Ac → St → Rs) (ek : Nat → Ac → St → Rs) (a : Ac) (S : St) : Rs := projK [] a fun a => dr E0 self RL56 N (B56.r.r.r.r.l).r (mkK E0 self Tryd.f56 nk ek) a S
theorem R56_23_eq (self : EV) (N : Nat) (nk : Ac → St → Rs) (ek : Nat → Ac → St → Rs) (S : St) : R56_23 self N nk ek (fr 55 []) S =
some (.ret (.int .i64 (-1)), S) := by kernel_rfl
noncomputable def L56_27 (self : EV) (N : Nat) (nk : Ac → St → Rs) (ek : Nat → Ac → St → Rs) (n : Nat) ( v1 v45 : V) (S : St) : Rs := loopK [1, 45] (dr E0 self RL56 N (B56.r.r.r.r.l.l.r.l.l)) (mkK E0 self Tryd.f56 nk ek) n (fr 55 [(1, v1), (45, v45)]) S
theorem L56_27_eq (self : EV) (N : Nat) (nk : Ac → St → Rs) (ek : Nat → Ac → St → Rs) (n : Nat) ( v1 v45 : V) (S : St) : L56_27 self N nk ek (n + 1) v1 v45 S =
(nextK v45 true S).bind fun p28 =>
(extractV p28.1 0).bind fun t29 =>
ifK t29 (
(extractV p28.1 1).bind fun t30 =>
(extractV p28.1 2).bind fun t31 =>
callP (self.f 60 [v1, t31] p28.2) fun t36 S36 =>
(binV E0 .geq 3 false true t36 (.int .i64 0)).bind fun t37 =>
ifK t37 (
some (.ret t30, S36)) (
L56_27 self N nk ek n v1 v45 S36)) (
ek 2 (fr 55 []) p28.2) := by kernel_rfl
theorem R56_22_eq (self : EV) (N : Nat) (nk : Ac → St → Rs) (ek : Nat → Ac → St → Rs) ( v0 v1 : V) (S : St) : R56_22 self N nk ek (fr 55 [(0, v0), (1, v1)]) S =
(rangeStrK E0 9 v0 S).bind fun p26 =>
L56_27 self N (R56_23 self N (fun a s => projK [4] a fun a => nk a s) ek) (exB 2 (R56_23 self N (fun a s => projK [4] a fun a => nk a s) ek) ek) N v1 p26.1 p26.2 := by kernel_rfl
noncomputable def R56_52 (self : EV) (N : Nat) (nk : Ac → St → Rs) (ek : Nat → Ac → St → Rs) (a : Ac) (S : St) : Rs := projK [] a fun a => dr E0 self RL56 N (B56.r.r.r.l.r.l.r.r.l).r (mkK E0 self Tryd.f56 nk ek) a S
theorem R56_52_eq (self : EV) (N : Nat) (nk : Ac → St → Rs) (ek : Nat → Ac → St → Rs) (S : St) : R56_52 self N nk ek (fr 55 []) S =
some (.ret (.int .i64 (-1)), S) := by kernel_rfl
noncomputable def L56_55 (self : EV) (N : Nat) (nk : Ac → St → Rs) (ek : Nat → Ac → St → Rs) (n : Nat) ( v0 v6 v8 : V) (S : St) : Rs := loopK [0, 6, 8] (dr E0 self RL56 N (B56.r.r.r.l.r.l.r.r.l.l.r.l.l)) (mkK E0 self Tryd.f56 nk ek) n (fr 55 [(0, v0), (6, v6), (8, v8)]) S
theorem L56_55_eq (self : EV) (N : Nat) (nk : Ac → St → Rs) (ek : Nat → Ac → St → Rs) (n : Nat) ( v0 v6 v8 : V) (S : St) : L56_55 self N nk ek (n + 1) v0 v6 v8 S =
(lnStr v0 S).bind fun p58 =>
(binV E0 .lss 3 false false v8 p58.1).bind fun t59 =>
ifK t59 (
(ixS v0 v8).bind fun t62 =>
callP (self.f 63 [v6, t62] p58.2) fun t63 S63 =>
ifK t63 (
some (.ret v8, S63)) (
(binV E0 .add 3 false true v8 (.int .i64 1)).bind fun t67 =>
L56_55 self N nk ek n v0 v6 t67 S63)) (
ek 0 (fr 55 []) p58.2) := by kernel_rfl
noncomputable def F56 (self : EV) (N : Nat) (x0 x1 : V) (S : St) : Rs := runF E0 self N Tryd.f56 B56 [x0, x1] S
noncomputable def C60 : Code := Tryd.f60.body.getD .skip
noncomputable def B60 : D := (annot C60 [[], [], [], [], [], [175], [], [], [], [], [], [], [0], [4], [], [], [], [], [], [], [], [0, 7, 8, 9], [], [], [], [], [], [], [], [], [0, 0, 7, 8, 9], [0, 7, 8, 9], [], [0, 7, 8, 9, 12], [], [8, 9], [], [], [], [0, 8, 9], [0, 7, 8, 9], [], [], [], [], [], [], [0], [4], [], [], [], [], [], [], [], [], [], [0, 7, 8, 9, 14, 15], [], [], [], [], [], [0, 7, 8, 9, 14, 15, 16], [], [8, 9], [], [], [0, 7, 8, 9, 14, 15], [], [0, 8, 9], [0, 7, 8, 9, 14, 15], [], [0, 0, 7, 8, 9, 14, 15], [0, 7, 8, 9, 14, 15], [0], [4], []]).1
noncomputable def RL60 : List Nat := cellsOf Tryd.f60.results.toList
noncomputable def R60_16 (self : EV) (N : Nat) (nk : Ac → St → Rs) (ek : Nat → Ac → St → Rs) (a : Ac) (S : St) : Rs := projK [] a fun a => dr E0 self RL60 N (B60.r.l.r.r.r.l).r (mkK E0 self Tryd.f60 nk ek) a S
theorem R60_16_eq (self : EV) (N : Nat) (nk : Ac → St → Rs) (ek : Nat → Ac → St → Rs) (S : St) : R60_16 self N nk ek (fr 187 []) S =
some (.ret (.int .i64 (-1)), S) := by kernel_rfl
noncomputable def L60_20 (self : EV) (N : Nat) (nk : Ac → St → Rs) (ek : Nat → Ac → St → Rs) (n : Nat) ( v175 : V) (S : St) : Rs := loopK [175] (dr E0 self RL60 N (B60.r.l.r.r.r.l.l.r.l.l)) (mkK E0 self Tryd.f60 nk ek) n (fr 187 [(175, v175)]) S
theorem L60_20_eq (self : EV) (N : Nat) (nk : Ac → St → Rs) (ek : Nat → Ac → St → Rs) (n : Nat) ( v175 : V) (S : St) : L60_20 self N nk ek (n + 1) v175 S =
(nextK v175 true S).bind fun p21 =>
(extractV p21.1 0).bind fun t22 =>
ifK t22 (
(extractV p21.1 1).bind fun t23 =>
(extractV p21.1 2).bind fun t24 =>
(binV E0 .eql 21 false true t24 (.int .i32 65533)).bind fun t28 =>
ifK t28 (
some (.ret t23, p21.2)) (
L60_20 self N nk ek n v175 p21.2)) (
ek 9 (fr 187 []) p21.2) := by kernel_rfl
noncomputable def R60_46 (self : EV) (N : Nat) (nk : Ac → St → Rs) (ek : Nat → Ac → St → Rs) (a : Ac) (S : St) : Rs := projK [] a fun a => dr E0 self RL60 N (B60.r.l.r.r.r.r.r.r.l.r.r.r.r).r (mkK E0 self Tryd.f60 nk ek) a S
theorem R60_46_eq (self : EV) (N : Nat) (nk : Ac → St → Rs) (ek : Nat → Ac → St → Rs) (S : St) : R60_46 self N nk ek (fr 187 []) S =
some (.ret (.int .i64 (-1)), S) := by kernel_rfl
noncomputable def N60_48 (self : EV) (N : Nat) (nk : Ac → St → Rs) (ek : Nat → Ac → St → Rs) (n : Nat) : Ac → St → Rs := fun a S => projK [0, 7, 8, 9] a fun a => loopK [0, 7, 8, 9] (dr E0 self RL60 N (B60.r.l.r.r.r.r.r.r.l.r.r.r.r.l.l.l)) (mkK E0 self Tryd.f60 nk ek) n a S
noncomputable def L60_48 (self : EV) (N : Nat) (nk : Ac → St → Rs) (ek : Nat → Ac → St → Rs) (n : Nat) ( v0 v7 v8 v9 : V) (S : St) : Rs := loopK [0, 7, 8, 9] (dr E0 self RL60 N (B60.r.l.r.r.r.r.r.r.l.r.r.r.r.l.l.l)) (mkK E0 self Tryd.f60 nk ek) n (fr 187 [(0, v0), (7, v7), (8, v8), (9, v9)]) S
noncomputable def R60_53 (self : EV) (N : Nat) (nk : Ac → St → Rs) (ek : Nat → Ac → St → Rs) (a : Ac) (S : St) : Rs := projK [0, 7, 8, 9] a fun a => dr E0 self RL60 N (B60.r.l.r.r.r.r.r.r.l.r.r.r.r.l.l.l.r.l.l).r (mkK E0 self Tryd.f60 nk ek) a S
theorem L60_48_eq (self : EV) (N : Nat) (nk : Ac → St → Rs) (ek : Nat → Ac → St → Rs) (n : Nat) ( v0 v7 v8 v9 : V) (S : St) : L60_48 self N nk ek (n + 1) v0 v7 v8 v9 S =
(lnStr v0 S).bind fun p51 =>
(binV E0 .lss 3 false false v9 p51.1).bind fun t52 =>
ifK t52 (
(ixS v0 v9).bind fun t81 =>
(ixS v7 v8).bind fun t84 =>
(binV E0 .neq 5 false false t81 t84).bind fun t85 =>
ifK t85 (
(binV E0 .add 3 false true v9 (.int .i64 1)).bind fun t88 =>
(sliceV E0 9 v0 (some t88) none none (onS (relog p51.2 (onS p51.2) [[], [], [], [], [], [], []]))).bind fun p89 =>
(ixS v7 v8).bind fun t92 =>
callD (planOf E0 (B60.r.l.r.r.r.r.r.r.l.r.r.r.r.l.l.l.r.l.l.l.r.l.l).ops) (relog p51.2 (onS p51.2) [[], [], [], [], [], [], []]) 7 [[], [], [], p89.2.log, [], [], []] (self.f 36 [p89.1, t92] (onS p89.2)) fun t93 S93 =>
(binV E0 .lss 3 false true t93 (.int .i64 0)).bind fun t96 =>
ifK t96 (
some (.ret (.int .i64 (-1)), (relog (relog p51.2 (onS p51.2) [[], [], [], [], [], [], []]) (onS S93) [[], [], [], p89.2.log, [], [], [], S93.log, []]))) (
(binV E0 .add 3 false true t93 (.int .i64 1)).bind fun t100 =>
(binV E0 .add 3 false false v9 t100).bind fun t101 =>
R60_53 self N (N60_48 self N nk ek n) (exB 2 (N60_48 self N nk ek n) ek) (fr 187 [(0, v0), (7, v7), (8, v8), (9, t101)]) (relog (relog p51.2 (onS p51.2) [[], [], [], [], [], [], []]) (onS S93) [[], [], [], p89.2.log, [], [], [], S93.log, []]))) (
R60_53 self N (N60_48 self N nk ek n) (exB 2 (N60_48 self N nk ek n) ek) (fr 187 [(0, v0), (7, v7), (8, v8), (9, v9)]) (relog p51.2 (onS p51.2) [[], [], [], [], [], [], []]))) (
ek 1 (fr 187 []) p51.2) := by kernel_rfl
noncomputable def F60 (self : EV) (N : Nat) (x0 x1 : V) (S : St) : Rs := runF E0 self N Tryd.f60 B60 [x0, x1] S
theorem F60_eq (self : EV) (N : Nat) (x0 x1 : V) (S : St) : F60 self N x0 x1 S =
(binV E0 .leq 21 true false (.int .i32 0) x1).bind fun t2 =>
(guardV true t2).bind fun g4 => (bif g4 then some x1 else some (.tuple [])).bind fun t4 =>
(guardV true t2).bind fun g5 => (bif g5 then binV E0 .lss 21 false true t4 (.int .i32 128) else some (.tuple [])).bind fun t5 =>
(pickV t2 (some t5) (some (.bool false))).bind fun t6 =>
ifK t6 (
(cvI .u8 x1 S).bind fun p10 =>
callP (self.f 36 [x0, p10.1] p10.2) fun t11 S11 =>
some (.ret t11, S11)) (
(binV E0 .eql 21 false true x1 (.int .i32 65533)).bind fun t14 =>
ifK t14 (
(rangeStrK E0 9 x0 S).bind fun p19 =>
L60_20 self N (R60_16 self N (finN E0 self Tryd.f60) (exB 0 (finN E0 self Tryd.f60) noEx)) (exB 9 (R60_16 self N (finN E0 self Tryd.f60) (exB 0 (finN E0 self Tryd.f60) noEx)) (exB 0 (finN E0 self Tryd.f60) noEx)) N p19.1 p19.2) (
callP (self.f 65 [x1] S) fun t32 S32 =>
(unV .not t32).bind fun t33 =>
ifK t33 (
some (.ret (.int .i64 (-1)), S32)) (
(convertV E0 21 9 x1 S32).bind fun p37 =>
(lnStr p37.1 p37.2).bind fun p40 =>
(binV E0 .sub 3 false true p40.1 (.int .i64 1)).bind fun t41 =>
L60_48 self N (R60_46 self N (finN E0 self Tryd.f60) (exB 0 (finN E0 self Tryd.f60) noEx)) (exB 1 (R60_46 self N (finN E0 self Tryd.f60) (exB 0 (finN E0 self Tryd.f60) noEx)) (exB 0 (finN E0 self Tryd.f60) noEx)) N x0 p37.1 t41 t41 p40.2))) := by kernel_rfl
noncomputable def C61 : Code := Tryd.f61.body.getD .skip
noncomputable def B61 : D := (annot C61 [[], []]).1
noncomputable def F61 (self : EV) (N : Nat) (x0 : V) (S : St) : Rs := runF E0 self N Tryd.f61 B61 [x0] S
theorem F61_eq (self : EV) (N : Nat) (x0 : V) (S : St) : F61 self N x0 S =
(binV E0 .gtr 3 false true x0 (.int .i64 8)).bind fun t2 =>
some (.ret t2, S) := by kernel_rfl
noncomputable def C62 : Code := Tryd.f62.body.getD .skip
noncomputable def B62 : D := (annot C62 [[], [], [0, 2, 4], [], [2], [], [], [], [], [], [], [0, 2], [2, 3], []]).1
noncomputable def RL62 : List Nat := cellsOf Tryd.f62.results.toList
noncomputable def R62_2 (self : EV) (N : Nat) (nk : Ac → St → Rs) (ek : Nat → Ac → St → Rs) (a : Ac) (S : St) : Rs := projK [2] a fun a => dr E0 self RL62 N (B62.r).r (mkK E0 self Tryd.f62 nk ek) a S
theorem R62_2_eq (self : EV) (N : Nat) (nk : Ac → St → Rs) (ek : Nat → Ac → St → Rs) ( v2 : V) (S : St) : R62_2 self N nk ek (fr 21 [(2, v2)]) S =
(ldA 256 v2 S).bind fun p3 =>
(stP 256 v2 p3.1 p3.2).bind fun p4 =>
(ldrA 256 v2 p4.2).bind fun p6 =>
some (.ret (.tuple [p6.1, (.bool true)]), p6.2) := by kernel_rfl
noncomputable def L62_8 (self : EV) (N : Nat) (nk : Ac → St → Rs) (ek : Nat → Ac → St → Rs) (n : Nat) ( v0 v2 v4 : V) (S : St) : Rs := loopK [0, 2, 4] (dr E0 self RL62 N (B62.r.l.r.l.l)) (mkK E0 self Tryd.f62 nk ek) n (fr 21 [(0, v0), (2, v2), (4, v4)]) S
theorem L62_8_eq (self : EV) (N : Nat) (nk : Ac → St → Rs) (ek : Nat → Ac → St → Rs) (n : Nat) ( v0 v2 v4 : V) (S : St) : L62_8 self N nk ek (n + 1) v0 v2 v4 S =
(lnStr v0 S).bind fun p11 =>
(binV E0 .lss 3 false false v4 p11.1).bind fun t12 =>
ifK t12 (
(ixS v0 v4).bind fun t15 =>
(binV E0 .geq 5 false true t15 (.int .u8 128)).bind fun t18 =>
ifK t18 (
(ldA 256 v2 p11.2).bind fun p19 =>
(stP 256 v2 p19.1 p19.2).bind fun p20 =>
(ldrA 256 v2 p20.2).bind fun p22 =>
some (.ret (.tuple [p22.1, (.bool false)]), p22.2)) (
(ixA 256 1 false 1 v2 t15).bind fun t24 =>
(stP 1 t24 (.bool true) p11.2).bind fun p25 =>
(binV E0 .add 3 false true v4 (.int .i64 1)).bind fun t27 =>
L62_8 self N nk ek n v0 v2 t27 p25.2)) (
ek 0 (fr 21 [(2, v2)]) p11.2) := by kernel_rfl
noncomputable def F62 (self : EV) (N : Nat) (x0 : V) (S : St) : Rs := runF E0 self N Tryd.f62 B62 [x0] S
noncomputable def C63 : Code := Tryd.f63.body.getD .skip
noncomputable def B63 : D := (annot C63 [[], []]).1
noncomputable def F63 (self : EV) (N : Nat) (x0 x1 : V) (S : St) : Rs := runF E0 self N Tryd.f63 B63 [x0, x1] S
theorem F63_eq (self : EV) (N : Nat) (x0 x1 : V) (S : St) : F63 self N x0 x1 S =
(nilCheckV x0).bind fun t3 =>
(ixA 256 1 false 1 t3 x1).bind fun t4 =>
(ld1 t4 S).bind fun p5 =>
some (.ret p5.1, p5.2) := by kernel_rfl
noncomputable def C65 : Code := Tryd.f65.body.getD .skip
noncomputable def B65 : D := (annot C65 [[], [], [], [], [], [], []]).1
noncomputable def F65 (self : EV) (N : Nat) (x0 : V) (S : St) : Rs := runF E0 self N Tryd.f65 B65 [x0] S
theorem F65_eq (self : EV) (N : Nat) (x0 : V) (S : St) : F65 self N x0 S =
(binV E0 .leq 21 true false (.int .i32 0) x0).bind fun t2 =>
(guardV true t2).bind fun g4 => (bif g4 then some x0 else some (.tuple [])).bind fun t4 =>
(guardV true t2).bind fun g5 => (bif g5 then binV E0 .lss 21 false true t4 (.int .i32 55296) else some (.tuple [])).bind fun t5 =>
(pickV t2 (some t5) (some (.bool false))).bind fun t6 =>
ifK t6 (
some (.ret (.bool true), S)) (
(binV E0 .lss 21 true false (.int .i32 57343) x0).bind fun t10 =>
(guardV true t10).bind fun g12 => (bif g12 then some x0 else some (.tuple [])).bind fun t12 =>
(guardV true t10).bind fun g13 => (bif g13 then binV E0 .leq 21 false true t12 (.int .i32 1114111) else some (.tuple [])).bind fun t13 =>
(pickV t10 (some t13) (some (.bool false))).bind fun t14 =>
ifK t14 (
some (.ret (.bool true), S)) (
some (.ret (.bool false), S))) := by kernel_rfl
end
end Go.Proofs.YtcbaodegkfokjaaDoor.W
namespace Go.Proofs.YtcbaodegkfokjaaDoor.W
open Go.Proofs.YtcbaodegkfokjaaDoor.Ev
set_option maxRecDepth 100000
noncomputable section
noncomputable def C9 : Code := Tryd.f9.body.getD .skip
noncomputable def B9 : D := (annot C9 [[], [], [], [], [], [], [2, 3, 16, 17, 18], [], [3], [], [], [], [0, 2, 3, 16, 17, 18], [2, 3, 16, 17, 18], [0, 3], [2], []]).1
noncomputable def RL9 : List Nat := cellsOf Tryd.f9.results.toList
noncomputable def R9_12 (self : EV) (N : Nat) (nk : Ac → St → Rs) (ek : Nat → Ac → St → Rs) (a : Ac) (S : St) : Rs := projK [3] a fun a => dr E0 self RL9 N (B9.r.r.r).r (mkK E0 self Tryd.f9 nk ek) a S
theorem R9_12_eq (self : EV) (N : Nat) (nk : Ac → St → Rs) (ek : Nat → Ac → St → Rs) (ds : List AD) ( v3 : V) (S : St) : R9_12 self N nk ek (frD 34 [(3, v3)] ds) S =
(ld1 v3 S).bind fun p13 =>
finR E0 self Tryd.f9 (frD 34 [(2, p13.1), (3, v3), (33, p13.1)] ds) p13.2 := by kernel_rfl
noncomputable def N9_19 (self : EV) (N : Nat) (nk : Ac → St → Rs) (ek : Nat → Ac → St → Rs) (n : Nat) : Ac → St → Rs := fun a S => projK [2, 3, 16, 17, 18] a fun a => loopK [2, 3, 16, 17, 18] (dr E0 self RL9 N (B9.r.r.r.l.r.l.l)) (mkK E0 self Tryd.f9 nk ek) n a S
noncomputable def L9_19 (self : EV) (N : Nat) (nk : Ac → St → Rs) (ek : Nat → Ac → St → Rs) (n : Nat) (ds : List AD) ( v2 v3 v16 v17 v18 : V) (S : St) : Rs := loopK [2, 3, 16, 17, 18] (dr E0 self RL9 N (B9.r.r.r.l.r.l.l)) (mkK E0 self Tryd.f9 nk ek) n (frD 34 [(2, v2), (3, v3), (16, v16), (17, v17), (18, v18)] ds) S
noncomputable def R9_21 (self : EV) (N : Nat) (nk : Ac → St → Rs) (ek : Nat → Ac → St → Rs) (a : Ac) (S : St) : Rs := projK [2, 3, 16, 17, 18] a fun a => dr E0 self RL9 N (B9.r.r.r.l.r.l.l.r.r).r (mkK E0 self Tryd.f9 nk ek) a S
theorem R9_21_eq (self : EV) (N : Nat) (nk : Ac → St → Rs) (ek : Nat → Ac → St → Rs) (ds : List AD) ( v2 v3 v16 v17 v18 : V) (S : St) : R9_21 self N nk ek (frD 34 [(2, v2), (3, v3), (16, v16), (17, v17), (18, v18)] ds) S =
(binV E0 .add 3 false true v18 (.int .i64 1)).bind fun t22 =>
nk (frD 34 [(2, v2), (3, v3), (16, v16), (17, v17), (18, t22)] ds) S := by kernel_rfl
noncomputable def YA9_32 : Code := (B9.r.r.r.l.r.l.l.r.r.l.l.r.r.l).as
noncomputable def YB9_32 : Code := (B9.r.r.r.l.r.l.l.r.r.l.l.r.r.l).bd
noncomputable def DA9_32 : D := (annot YA9_32 []).1
noncomputable def DB9_32 : D := (annot YB9_32 []).1
noncomputable def O9_32 (st : Nat) (pend : Option Code) ( v3 : V) : O := .loop st pend (frT [(3, v3)] .nil) 34 [26, 27] YA9_32 YB9_32
noncomputable def Y9_32 (self : EV) (N : Nat) (l : Nat) ( v3 : V) ( w26 w27 : V) (S : St) : Rs := roundK E0 self N DA9_32 DB9_32 l (frT [(3, v3)] .nil) 34 [26, 27] [w26, w27] S
theorem Y9_32_eq (self : EV) (N : Nat) (l : Nat) ( v3 : V) ( w26 w27 : V) (S : St) : Y9_32 self N l v3 w26 w27 S =
midR l (frR 34 [(3, v3), (6, w26), (26, w26), (27, w27)] l) S fun S33 =>
(ld1 v3 S33).bind fun p35 =>
(bsP 9 1 1 (one (sv [])) [(0, w26)] p35.2).bind fun p37 =>
(apP 9 1 16 p35.1 p37.1 p37.2).bind fun p38 =>
(stP 1 v3 p38.1 p38.2).bind fun p39 =>
endRound l 0 none true p39.2 := by kernel_rfl
theorem L9_19_eq (self : EV) (N : Nat) (nk : Ac → St → Rs) (ek : Nat → Ac → St → Rs) (n : Nat) (ds : List AD) ( v2 v3 v16 v17 v18 : V) (S : St) : L9_19 self N nk ek (n + 1) ds v2 v3 v16 v17 v18 S =
(binV E0 .lss 3 false false v18 v17).bind fun t20 =>
ifK t20 (
(ixP 5 v16 v18).bind fun t24 =>
(ldA 5 t24 S).bind fun p25 =>
(some (nwP 24 5 (Tr.ofListFrom .nil [(sv []), (.int .i64 0), (.bool false), (sv []), .nilslice] 0) p25.2)).bind fun p26 =>
(stP 5 p26.1 p25.1 p26.2).bind fun p27 =>
(ldA 5 p26.1 p27.2).bind fun p28 =>
(faP 0 false 1 p26.1).bind fun t29 =>
(ld1 t29 p28.2).bind fun p30 =>
callPF E0 self Tryd.f9 (frD 34 [(2, v2), (3, v3), (5, p26.1), (16, v16), (17, v17), (18, v18), (19, t20), (20, t24), (21, p25.1), (22, p28.1), (23, t29), (24, p30.1)] ds) (self.f 26 [p28.1, p30.1] p30.2) fun t31 S31 =>
rangeP E0 self t31 (O9_32 0 none v3) S31 (fun S40 =>
R9_21 self N (N9_19 self N nk ek n) ek (frD 34 [(2, v2), (3, v3), (16, v16), (17, v17), (18, v18)] (mkR S31.next :: ds)) S40) (fun s => finR E0 self Tryd.f9 (frD 34 [(2, v2), (3, v3), (5, p26.1), (16, v16), (17, v17), (18, v18), (19, t20), (20, t24), (21, p25.1), (22, p28.1), (23, t29), (24, p30.1), (25, t31)] (mkR S31.next :: ds)) s) (fun i s => (exB 2 (R9_21 self N (N9_19 self N nk ek n) ek) (exB 1 (R9_21 self N (N9_19 self N nk ek n) ek) ek)) i (frD 34 [(2, v2), (3, v3), (5, p26.1), (16, v16), (17, v17), (18, v18), (19, t20), (20, t24), (21, p25.1), (22, p28.1), (23, t29), (24, p30.1), (25, t31)] (mkR S31.next :: ds)) s) (fun v s => leaves E0 self Tryd.f9 (frD 34 [(2, v2), (3, v3), (5, p26.1), (16, v16), (17, v17), (18, v18), (19, t20), (20, t24), (21, p25.1), (22, p28.1), (23, t29), (24, p30.1), (25, t31)] (mkR S31.next :: ds)) (mkR S31.next :: ds) (.pan v) s)) (
ek 0 (frD 34 [(3, v3)] ds) S) := by kernel_rfl
theorem N9_19_eq (self : EV) (N : Nat) (nk : Ac → St → Rs) (ek : Nat → Ac → St → Rs) (n : Nat) (ds : List AD) ( v2 v3 v16 v17 v18 : V) (S : St) : N9_19 self N nk ek n (frD 34 [(2, v2), (3, v3), (16, v16), (17, v17), (18, v18)] ds) S = L9_19 self N nk ek n ds v2 v3 v16 v17 v18 S := by kernel_rfl
noncomputable def F9 (self : EV) (N : Nat) (x0 : V) (S : St) : Rs := runF E0 self N Tryd.f9 B9 [x0] S
theorem F9_eq (self : EV) (N : Nat) (x0 : V) (S : St) : F9 self N x0 S =
(boxK 24 x0 S).bind fun p0 =>
(some (nwP 32 1 (one .nilslice) p0.2)).bind fun p2 =>
(ldA 5 p0.1 p2.2).bind fun p3 =>
callPF E0 self Tryd.f9 (frD 34 [(0, x0), (1, p0.1), (2, .nilslice), (3, p2.1), (7, p3.1)] []) (self.f 24 [p3.1] p3.2) fun t4 S4 =>
(guardV false t4).bind fun g6 => (bif g6 then faP 1 false 1 p0.1 else some (.tuple [])).bind fun t6 =>
(guardV false t4).bind fun g7 => (bif g7 then ld1 t6 S4 else some (.tuple [], S4)).bind fun p7 =>
(guardV false t4).bind fun g8 => (bif g8 then binV E0 .neq 3 false true p7.1 (.int .i64 2) else some (.tuple [])).bind fun t8 =>
(pickV t4 (some (.bool true)) (some t8)).bind fun t9 =>
ifK t9 (
(ld1 p2.1 p7.2).bind fun p10 =>
finR E0 self Tryd.f9 (frD 34 [(0, x0), (1, p0.1), (2, p10.1), (3, p2.1), (7, p3.1), (8, t4), (9, t4), (10, t6), (11, p7.1), (12, t8), (13, t9), (14, p10.1)] []) p10.2) (
(faP 4 false 1 p0.1).bind fun t15 =>
(ld1 t15 p7.2).bind fun p16 =>
(lnS p16.1 p16.2).bind fun p17 =>
L9_19 self N (R9_12 self N (finN E0 self Tryd.f9) noEx) (exB 0 (R9_12 self N (finN E0 self Tryd.f9) noEx) noEx) N [] .nilslice p2.1 p16.1 p17.1 (.int .i64 0) p17.2) := by kernel_rfl
noncomputable def C26 : Code := Tryd.f26.body.getD .skip
noncomputable def B26 : D := (annot C26 [[], []]).1
noncomputable def F26 (self : EV) (N : Nat) (x0 x1 : V) (S : St) : Rs := runF E0 self N Tryd.f26 B26 [x0, x1] S
theorem F26_eq (self : EV) (N : Nat) (x0 x1 : V) (S : St) : F26 self N x0 x1 S =
(boxK 24 x0 S).bind fun p0 =>
(boxK 9 x1 p0.2).bind fun p1 =>
some (.ret (.fn (.func 40) [] [p1.1, p0.1]), p1.2) := by kernel_rfl
noncomputable def C40 : Code := Tryd.f40.body.getD .skip
noncomputable def B40 : D := (annot C40 [[], [], [], [], [1, 3, 20, 21, 22], [], [], [], [], [], [], [], [], [0, 1, 3, 20, 21, 22], [1, 3, 20, 21, 22]]).1
noncomputable def RL40 : List Nat := cellsOf Tryd.f40.results.toList
noncomputable def N40_15 (self : EV) (N : Nat) (nk : Ac → St → Rs) (ek : Nat → Ac → St → Rs) (n : Nat) : Ac → St → Rs := fun a S => projK [1, 3, 20, 21, 22] a fun a => loopK [1, 3, 20, 21, 22] (dr E0 self RL40 N (B40.r.r.r.l.l)) (mkK E0 self Tryd.f40 nk ek) n a S
noncomputable def L40_15 (self : EV) (N : Nat) (nk : Ac → St → Rs) (ek : Nat → Ac → St → Rs) (n : Nat) (ds : List AD) ( v1 v3 v20 v21 v22 : V) (S : St) : Rs := loopK [1, 3, 20, 21, 22] (dr E0 self RL40 N (B40.r.r.r.l.l)) (mkK E0 self Tryd.f40 nk ek) n (frD 46 [(1, v1), (3, v3), (20, v20), (21, v21), (22, v22)] ds) S
noncomputable def R40_17 (self : EV) (N : Nat) (nk : Ac → St → Rs) (ek : Nat → Ac → St → Rs) (a : Ac) (S : St) : Rs := projK [1, 3, 20, 21, 22] a fun a => dr E0 self RL40 N (B40.r.r.r.l.l.r.r).r (mkK E0 self Tryd.f40 nk ek) a S
theorem R40_17_eq (self : EV) (N : Nat) (nk : Ac → St → Rs) (ek : Nat → Ac → St → Rs) (ds : List AD) ( v1 v3 v20 v21 v22 : V) (S : St) : R40_17 self N nk ek (frD 46 [(1, v1), (3, v3), (20, v20), (21, v21), (22, v22)] ds) S =
(binV E0 .add 3 false true v22 (.int .i64 1)).bind fun t18 =>
nk (frD 46 [(1, v1), (3, v3), (20, v20), (21, v21), (22, t18)] ds) S := by kernel_rfl
noncomputable def YA40_38 : Code := (B40.r.r.r.l.l.r.r.l.l.r.r.r.r.l).as
noncomputable def YB40_38 : Code := (B40.r.r.r.l.l.r.r.l.l.r.r.r.r.l).bd
noncomputable def DA40_38 : D := (annot YA40_38 [[]]).1
noncomputable def DB40_38 : D := (annot YB40_38 [[]]).1
noncomputable def O40_38 (st : Nat) (pend : Option Code) ( v3 : V) : O := .loop st pend (frT [(3, v3)] .nil) 46 [38, 39] YA40_38 YB40_38
noncomputable def Y40_38 (self : EV) (N : Nat) (l : Nat) ( v3 : V) ( w38 w39 : V) (S : St) : Rs := roundK E0 self N DA40_38 DB40_38 l (frT [(3, v3)] .nil) 46 [38, 39] [w38, w39] S
theorem Y40_38_eq (self : EV) (N : Nat) (l : Nat) ( v3 : V) ( w38 w39 : V) (S : St) : Y40_38 self N l v3 w38 w39 S =
(some (nwP 24 5 (Tr.ofListFrom .nil [(sv []), (.int .i64 0), (.bool false), (sv []), .nilslice] 0) S)).bind fun p41 =>
(stP 5 p41.1 w39 p41.2).bind fun p42 =>
midR l (frR 46 [(3, v3), (7, w38), (8, p41.1), (38, w38), (39, w39)] l) p42.2 fun S39 =>
(ld1 v3 S39).bind fun p43 =>
(ldA 5 p41.1 p43.2).bind fun p45 =>
callE (callK E0 self p43.1 [w38, p45.1] p45.2) fun t46 S46 =>
(unV .not t46).bind fun t47 =>
ifK t47 (
endRound l 1 (some .ret) false S46) (
endRound l 0 none true S46) := by kernel_rfl
theorem L40_15_eq (self : EV) (N : Nat) (nk : Ac → St → Rs) (ek : Nat → Ac → St → Rs) (n : Nat) (ds : List AD) ( v1 v3 v20 v21 v22 : V) (S : St) : L40_15 self N nk ek (n + 1) ds v1 v3 v20 v21 v22 S =
(binV E0 .lss 3 false false v22 v21).bind fun t16 =>
ifK t16 (
(ixP 5 v20 v22).bind fun t20 =>
(ldA 5 t20 S).bind fun p21 =>
(some (nwP 24 5 (Tr.ofListFrom .nil [(sv []), (.int .i64 0), (.bool false), (sv []), .nilslice] 0) p21.2)).bind fun p22 =>
(stP 5 p22.1 p21.1 p22.2).bind fun p23 =>
(faP 0 false 1 p22.1).bind fun t24 =>
(ld1 t24 p23.2).bind fun p25 =>
(ld1 v1 p25.2).bind fun p27 =>
(binV E0 .neq 9 false true p27.1 (sv [])).bind fun t28 =>
ifK t28 (
(ld1 v1 p27.2).bind fun p29 =>
(binV E0 .add 9 false true p29.1 (sv [47])).bind fun t30 =>
(faP 0 false 1 p22.1).bind fun t31 =>
(ld1 t31 p29.2).bind fun p32 =>
(binV E0 .add 9 false false t30 p32.1).bind fun t33 =>
(ldA 5 p22.1 p32.2).bind fun p35 =>
callPF E0 self Tryd.f40 (frD 46 [(1, v1), (3, v3), (5, p22.1), (6, t33), (20, v20), (21, v21), (22, v22), (23, t16), (24, t20), (25, p21.1), (26, t24), (27, p25.1), (28, p27.1), (29, t28), (30, p29.1), (31, t30), (32, t31), (33, p32.1), (34, t33), (35, p35.1), (36, t33)] ds) (self.f 26 [p35.1, t33] p35.2) fun t37 S37 =>
rangeP E0 self t37 (O40_38 0 none v3) S37 (fun S48 =>
R40_17 self N (N40_15 self N nk ek n) ek (frD 46 [(1, v1), (3, v3), (20, v20), (21, v21), (22, v22)] (mkR S37.next :: ds)) S48) (fun s => finR E0 self Tryd.f40 (frD 46 [(1, v1), (3, v3), (5, p22.1), (6, t33), (20, v20), (21, v21), (22, v22), (23, t16), (24, t20), (25, p21.1), (26, t24), (27, p25.1), (28, p27.1), (29, t28), (30, p29.1), (31, t30), (32, t31), (33, p32.1), (34, t33), (35, p35.1), (36, t33), (37, t37)] (mkR S37.next :: ds)) s) (fun i s => (exB 2 (R40_17 self N (N40_15 self N nk ek n) ek) (exB 1 (R40_17 self N (N40_15 self N nk ek n) ek) ek)) i (frD 46 [(1, v1), (3, v3), (5, p22.1), (6, t33), (20, v20), (21, v21), (22, v22), (23, t16), (24, t20), (25, p21.1), (26, t24), (27, p25.1), (28, p27.1), (29, t28), (30, p29.1), (31, t30), (32, t31), (33, p32.1), (34, t33), (35, p35.1), (36, t33), (37, t37)] (mkR S37.next :: ds)) s) (fun v s => leaves E0 self Tryd.f40 (frD 46 [(1, v1), (3, v3), (5, p22.1), (6, t33), (20, v20), (21, v21), (22, v22), (23, t16), (24, t20), (25, p21.1), (26, t24), (27, p25.1), (28, p27.1), (29, t28), (30, p29.1), (31, t30), (32, t31), (33, p32.1), (34, t33), (35, p35.1), (36, t33), (37, t37)] (mkR S37.next :: ds)) (mkR S37.next :: ds) (.pan v) s)) (
(ldA 5 p22.1 p27.2).bind fun p49 =>
callPF E0 self Tryd.f40 (frD 46 [(1, v1), (3, v3), (5, p22.1), (6, p25.1), (20, v20), (21, v21), (22, v22), (23, t16), (24, t20), (25, p21.1), (26, t24), (27, p25.1), (28, p27.1), (29, t28), (35, p49.1), (36, p25.1)] ds) (self.f 26 [p49.1, p25.1] p49.2) fun t51 S51 =>
rangeP E0 self t51 (O40_38 0 none v3) S51 (fun S53 =>
R40_17 self N (N40_15 self N nk ek n) ek (frD 46 [(1, v1), (3, v3), (20, v20), (21, v21), (22, v22)] (mkR S51.next :: ds)) S53) (fun s => finR E0 self Tryd.f40 (frD 46 [(1, v1), (3, v3), (5, p22.1), (6, p25.1), (20, v20), (21, v21), (22, v22), (23, t16), (24, t20), (25, p21.1), (26, t24), (27, p25.1), (28, p27.1), (29, t28), (35, p49.1), (36, p25.1), (37, t51)] (mkR S51.next :: ds)) s) (fun i s => (exB 2 (R40_17 self N (N40_15 self N nk ek n) ek) (exB 1 (R40_17 self N (N40_15 self N nk ek n) ek) ek)) i (frD 46 [(1, v1), (3, v3), (5, p22.1), (6, p25.1), (20, v20), (21, v21), (22, v22), (23, t16), (24, t20), (25, p21.1), (26, t24), (27, p25.1), (28, p27.1), (29, t28), (35, p49.1), (36, p25.1), (37, t51)] (mkR S51.next :: ds)) s) (fun v s => leaves E0 self Tryd.f40 (frD 46 [(1, v1), (3, v3), (5, p22.1), (6, p25.1), (20, v20), (21, v21), (22, v22), (23, t16), (24, t20), (25, p21.1), (26, t24), (27, p25.1), (28, p27.1), (29, t28), (35, p49.1), (36, p25.1), (37, t51)] (mkR S51.next :: ds)) (mkR S51.next :: ds) (.pan v) s))) (
ek 0 (frD 46 [] ds) S) := by kernel_rfl
theorem N40_15_eq (self : EV) (N : Nat) (nk : Ac → St → Rs) (ek : Nat → Ac → St → Rs) (n : Nat) (ds : List AD) ( v1 v3 v20 v21 v22 : V) (S : St) : N40_15 self N nk ek n (frD 46 [(1, v1), (3, v3), (20, v20), (21, v21), (22, v22)] ds) S = L40_15 self N nk ek n ds v1 v3 v20 v21 v22 S := by kernel_rfl
noncomputable def F40 (self : EV) (N : Nat) (x0 x1 x2 : V) (S : St) : Rs := runF E0 self N Tryd.f40 B40 [x0, x1, x2] S
theorem F40_eq (self : EV) (N : Nat) (x0 x1 x2 : V) (S : St) : F40 self N x0 x1 x2 S =
(boxK 60 x0 S).bind fun p0 =>
(ld1 p0.1 p0.2).bind fun p1 =>
(ld1 x1 p1.2).bind fun p2 =>
(ldA 5 x2 p2.2).bind fun p3 =>
callPF E0 self Tryd.f40 (frD 46 [(0, x0), (1, x1), (2, x2), (3, p0.1), (9, p1.1), (10, p2.1), (11, p3.1)] []) (callK E0 self p1.1 [p2.1, p3.1] p3.2) fun t4 S4 =>
(unV .not t4).bind fun t5 =>
(guardV false t5).bind fun g7 => (bif g7 then faP 1 false 1 x2 else some (.tuple [])).bind fun t7 =>
(guardV false t5).bind fun g8 => (bif g8 then ld1 t7 S4 else some (.tuple [], S4)).bind fun p8 =>
(guardV false t5).bind fun g9 => (bif g9 then binV E0 .neq 3 false true p8.1 (.int .i64 2) else some (.tuple [])).bind fun t9 =>
(pickV t5 (some (.bool true)) (some t9)).bind fun t10 =>
ifK t10 (
finR E0 self Tryd.f40 (frD 46 [(0, x0), (1, x1), (2, x2), (3, p0.1), (9, p1.1), (10, p2.1), (11, p3.1), (12, t4), (13, t5), (14, t5), (15, t7), (16, p8.1), (17, t9), (18, t10)] []) p8.2) (
(faP 4 false 1 x2).bind fun t11 =>
(ld1 t11 p8.2).bind fun p12 =>
(lnS p12.1 p12.2).bind fun p13 =>
L40_15 self N (finN E0 self Tryd.f40) (exB 0 (finN E0 self Tryd.f40) noEx) N [] x1 p0.1 p12.1 p13.1 (.int .i64 0) p13.2) := by kernel_rfl
noncomputable def C14 : Code := Tryd.f14.body.getD .skip
noncomputable def B14 : D := (annot C14 [[], [], [], [], []]).1
noncomputable def F14 (self : EV) (N : Nat) (x0 x1 : V) (S : St) : Rs := runF E0 self N Tryd.f14 B14 [x0, x1] S
theorem F14_eq (self : EV) (N : Nat) (x0 x1 : V) (S : St) : F14 self N x0 x1 S =
(boxK 24 x0 S).bind fun p0 =>
(boxK 24 x1 p0.2).bind fun p1 =>
(ldA 5 p0.1 p1.2).bind fun p3 =>
callP (self.f 24 [p3.1] p3.2) fun t4 S4 =>
(guardV false t4).bind fun g6 => (bif g6 then ldA 5 p1.1 S4 else some (.tuple [], S4)).bind fun p6 =>
(guardV false t4).bind fun g7 => callP (bif g7 then self.f 24 [p6.1] p6.2 else some (.ret (.tuple []), p6.2)) fun t7 S7 =>
(pickV t4 (some (.bool true)) (some t7)).bind fun t8 =>
ifK t8 (
some (.ret (.bool false), S7)) (
(faP 0 false 1 p0.1).bind fun t10 =>
(ld1 t10 S7).bind fun p11 =>
(faP 0 false 1 p1.1).bind fun t12 =>
(ld1 t12 p11.2).bind fun p13 =>
(binV E0 .eql 9 false false p11.1 p13.1).bind fun t14 =>
(guardV true t14).bind fun g16 => (bif g16 then faP 1 false 1 p0.1 else some (.tuple [])).bind fun t16 =>
(guardV true t14).bind fun g17 => (bif g17 then ld1 t16 p13.2 else some (.tuple [], p13.2)).bind fun p17 =>
(guardV true t14).bind fun g18 => (bif g18 then faP 1 false 1 p1.1 else some (.tuple [])).bind fun t18 =>
(guardV true t14).bind fun g19 => (bif g19 then ld1 t18 p17.2 else some (.tuple [], p17.2)).bind fun p19 =>
(guardV true t14).bind fun g20 => (bif g20 then binV E0 .eql 3 false false p17.1 p19.1 else some (.tuple [])).bind fun t20 =>
(pickV t14 (some t20) (some (.bool false))).bind fun t21 =>
(guardV true t21).bind fun g23 => (bif g23 then faP 2 false 1 p0.1 else some (.tuple [])).bind fun t23 =>
(guardV true t21).bind fun g24 => (bif g24 then ld1 t23 p19.2 else some (.tuple [], p19.2)).bind fun p24 =>
(guardV true t21).bind fun g25 => (bif g25 then faP 2 false 1 p1.1 else some (.tuple [])).bind fun t25 =>
(guardV true t21).bind fun g26 => (bif g26 then ld1 t25 p24.2 else some (.tuple [], p24.2)).bind fun p26 =>
(guardV true t21).bind fun g27 => (bif g27 then binV E0 .eql 4 false false p24.1 p26.1 else some (.tuple [])).bind fun t27 =>
(pickV t21 (some t27) (some (.bool false))).bind fun t28 =>
(guardV true t28).bind fun g30 => (bif g30 then faP 3 false 1 p0.1 else some (.tuple [])).bind fun t30 =>
(guardV true t28).bind fun g31 => (bif g31 then ld1 t30 p26.2 else some (.tuple [], p26.2)).bind fun p31 =>
(guardV true t28).bind fun g32 => (bif g32 then faP 3 false 1 p1.1 else some (.tuple [])).bind fun t32 =>
(guardV true t28).bind fun g33 => (bif g33 then ld1 t32 p31.2 else some (.tuple [], p31.2)).bind fun p33 =>
(guardV true t28).bind fun g34 => (bif g34 then binV E0 .eql 9 false false p31.1 p33.1 else some (.tuple [])).bind fun t34 =>
(pickV t28 (some t34) (some (.bool false))).bind fun t35 =>
(guardV true t35).bind fun g37 => (bif g37 then faP 4 false 1 p0.1 else some (.tuple [])).bind fun t37 =>
(guardV true t35).bind fun g38 => (bif g38 then ld1 t37 p33.2 else some (.tuple [], p33.2)).bind fun p38 =>
(guardV true t35).bind fun g39 => (bif g39 then faP 4 false 1 p1.1 else some (.tuple [])).bind fun t39 =>
(guardV true t35).bind fun g40 => (bif g40 then ld1 t39 p38.2 else some (.tuple [], p38.2)).bind fun p40 =>
(guardV true t35).bind fun g41 => callP (bif g41 then self.f 30 [p38.1, p40.1, (.fn (.func 14) [] [])] p40.2 else some (.ret (.tuple []), p40.2)) fun t41 S41 =>
(pickV t35 (some t41) (some (.bool false))).bind fun t42 =>
some (.ret t42, S41)) := by kernel_rfl
end
end Go.Proofs.YtcbaodegkfokjaaDoor.W
namespace Go.Proofs.YtcbaodegkfokjaaDoor.W
open Go.Proofs.YtcbaodegkfokjaaDoor.Ev
set_option maxRecDepth 100000
noncomputable section
noncomputable def C4 : Code := Tryd.f4.body.getD .skip
noncomputable def B4 : D := (annot C4 [[], [], [], [], [], [], [], [], [], [], [], [], [], [], [], [1, 3, 6], [], [1], [], [], [], [], [], [], [], [], [], [0, 1], [2], []]).1
noncomputable def RL4 : List Nat := cellsOf Tryd.f4.results.toList
noncomputable def R4_30 (self : EV) (N : Nat) (nk : Ac → St → Rs) (ek : Nat → Ac → St → Rs) (a : Ac) (S : St) : Rs := projK [1] a fun a => dr E0 self RL4 N (B4.r.r.r.r.r.r.r.r).r (mkK E0 self Tryd.f4 nk ek) a S
theorem R4_30_eq (self : EV) (N : Nat) (nk : Ac → St → Rs) (ek : Nat → Ac → St → Rs) ( v1 : V) (S : St) : R4_30 self N nk ek (fr 87 [(1, v1)]) S =
(ldA 5 v1 S).bind fun p31 =>
(ldA 5 v1 p31.2).bind fun p32 =>
callP (self.f 14 [p31.1, p32.1] p32.2) fun t33 S33 =>
some (.ret t33, S33) := by kernel_rfl
noncomputable def L4_36 (self : EV) (N : Nat) (nk : Ac → St → Rs) (ek : Nat → Ac → St → Rs) (n : Nat) ( v1 v3 v6 : V) (S : St) : Rs := loopK [1, 3, 6] (dr E0 self RL4 N (B4.r.r.r.r.r.r.r.r.l.r.l.l)) (mkK E0 self Tryd.f4 nk ek) n (fr 87 [(1, v1), (3, v3), (6, v6)]) S
theorem L4_36_eq (self : EV) (N : Nat) (nk : Ac → St → Rs) (ek : Nat → Ac → St → Rs) (n : Nat) ( v1 v3 v6 : V) (S : St) : L4_36 self N nk ek (n + 1) v1 v3 v6 S =
(lnS v3 S).bind fun p39 =>
(binV E0 .lss 3 false false v6 p39.1).bind fun t40 =>
ifK t40 (
(ldA 5 v1 (onS p39.2)).bind fun p41 =>
(ixP 1 v3 v6).bind fun t44 =>
(ld1 t44 (onS p41.2)).bind fun p45 =>
callD (planOf E0 (B4.r.r.r.r.r.r.r.r.l.r.l.l.r.l.l.l).ops) p39.2 5 [p41.2.log, [], [], [], p45.2.log] (self.f 7 [p41.1, p45.1] (onS p45.2)) fun t46 S46 =>
(extractV t46 0).bind fun t48 =>
(extractV t46 1).bind fun t49 =>
(some (nwP 24 5 (Tr.ofListFrom .nil [(sv []), (.int .i64 0), (.bool false), (sv []), .nilslice] 0) (onS S46))).bind fun p50 =>
(stP 5 p50.1 t48 (onS p50.2)).bind fun p51 =>
endP [(0, [4, 9]), (4, [9]), (5, [9])] p39.2 [p41.2.log, [], [], [], p45.2.log, S46.log, [], [], [], p50.2.log, p51.2.log, []] (onS p51.2) fun S53 =>
(ixP 1 v3 v6).bind fun t56 =>
(ld1 t56 S53).bind fun p57 =>
callP (self.f 11 [p57.1, (sv [47])] p57.2) fun t58 S58 =>
(unV .not t49).bind fun t61 =>
(guardV false t61).bind fun g63 => (bif g63 then faP 0 false 1 p50.1 else some (.tuple [])).bind fun t63 =>
(guardV false t61).bind fun g64 => (bif g64 then ld1 t63 (onS S58) else some (.tuple [], (onS S58))).bind fun p64 =>
(guardV false t61).bind fun g65 => (bif g65 then some t58 else some (.tuple [])).bind fun t65 =>
(guardV false t61).bind fun g66 => (bif g66 then some t58 else some (.tuple [])).bind fun t66 =>
(guardV false t61).bind fun g67 => (bif g67 then lnS t66 (onS p64.2) else some (.tuple [], (onS p64.2))).bind fun p67 =>
(guardV false t61).bind fun g68 => (bif g68 then binV E0 .sub 3 false true p67.1 (.int .i64 1) else some (.tuple [])).bind fun t68 =>
(guardV false t61).bind fun g69 => (bif g69 then ixP 1 t65 t68 else some (.tuple [])).bind fun t69 =>
(guardV false t61).bind fun g70 => (bif g70 then ld1 t69 (onS p67.2) else some (.tuple [], (onS p67.2))).bind fun p70 =>
(guardV false t61).bind fun g71 => (bif g71 then binV E0 .neq 9 false false p64.1 p70.1 else some (.tuple [])).bind fun t71 =>
(pickV t61 (some (.bool true)) (some t71)).bind fun t72 =>
(guardV false t72).bind fun g74 => (bif g74 then some t58 else some (.tuple [])).bind fun t74 =>
(guardV false t72).bind fun g75 => (bif g75 then lnS t74 (onS p70.2) else some (.tuple [], (onS p70.2))).bind fun p75 =>
(guardV false t72).bind fun g76 => (bif g76 then ldA 5 v1 (onS p75.2) else some (.tuple [], (onS p75.2))).bind fun p76 =>
(guardV false t72).bind fun g77 => callD (planOf E0 (B4.r.r.r.r.r.r.r.r.l.r.l.l.r.l.l.r.r.l.l).ops) S58 17 [[], [], [], [], p64.2.log, [], [], p67.2.log, [], [], p70.2.log, [], [], [], [], p75.2.log, p76.2.log] (bif g77 then self.f 12 [p76.1] (onS p76.2) else some (.ret (.tuple []), (onS p76.2))) fun t77 S77 =>
(guardV false t72).bind fun g78 => (bif g78 then binV E0 .sub 3 false true t77 (.int .i64 1) else some (.tuple [])).bind fun t78 =>
(guardV false t72).bind fun g79 => (bif g79 then binV E0 .gtr 3 false false p75.1 t78 else some (.tuple [])).bind fun t79 =>
(pickV t72 (some (.bool true)) (some t79)).bind fun t80 =>
endP [(4, [7, 10]), (15, [16, 17])] S58 [[], [], [], [], p64.2.log, [], [], p67.2.log, [], [], p70.2.log, [], [], [], [], p75.2.log, p76.2.log, S77.log, [], [], []] (onS S77) fun S81 =>
ifK t80 (
some (.ret (.bool false), S81)) (
(binV E0 .gtr 3 false true v6 (.int .i64 0)).bind fun t84 =>
(guardV true t84).bind fun g86 => (bif g86 then some v3 else some (.tuple [])).bind fun t86 =>
(guardV true t84).bind fun g87 => (bif g87 then some v6 else some (.tuple [])).bind fun t87 =>
(guardV true t84).bind fun g88 => (bif g88 then binV E0 .sub 3 false true t87 (.int .i64 1) else some (.tuple [])).bind fun t88 =>
(guardV true t84).bind fun g89 => (bif g89 then ixP 1 t86 t88 else some (.tuple [])).bind fun t89 =>
(guardV true t84).bind fun g90 => (bif g90 then ld1 t89 S81 else some (.tuple [], S81)).bind fun p90 =>
(guardV true t84).bind fun g91 => callP (bif g91 then self.f 11 [p90.1, (sv [47])] p90.2 else some (.ret (.tuple []), p90.2)) fun t91 S91 =>
(guardV true t84).bind fun g92 => (bif g92 then some t58 else some (.tuple [])).bind fun t92 =>
(guardV true t84).bind fun g93 => callP (bif g93 then self.f 13 [t91, t92] S91 else some (.ret (.tuple []), S91)) fun t93 S93 =>
(guardV true t84).bind fun g94 => (bif g94 then unV .not t93 else some (.tuple [])).bind fun t94 =>
(pickV t84 (some t94) (some (.bool false))).bind fun t95 =>
ifK t95 (
some (.ret (.bool false), S93)) (
(binV E0 .add 3 false true v6 (.int .i64 1)).bind fun t98 =>
L4_36 self N nk ek n v1 v3 t98 S93))) (
ek 0 (fr 87 [(1, v1)]) p39.2) := by kernel_rfl
noncomputable def F4 (self : EV) (N : Nat) (x0 : V) (S : St) : Rs := runF E0 self N Tryd.f4 B4 [x0] S
theorem F4_eq (self : EV) (N : Nat) (x0 : V) (S : St) : F4 self N x0 S =
(boxK 24 x0 S).bind fun p0 =>
callP (self.f 5 [] p0.2) fun t2 S2 =>
(unV .not t2).bind fun t3 =>
ifK t3 (
some (.ret (.bool false), S2)) (
(ldA 5 p0.1 S2).bind fun p5 =>
callP (self.f 6 [p5.1] p5.2) fun t6 S6 =>
(stP 5 p0.1 t6 S6).bind fun p7 =>
(faP 0 false 1 p0.1).bind fun t8 =>
(stP 1 t8 (sv []) p7.2).bind fun p9 =>
(ldA 5 p0.1 p9.2).bind fun p10 =>
callP (self.f 8 [p10.1] p10.2) fun t11 S11 =>
(binV E0 .neq 30 false true t11 (.int .i64 0)).bind fun t12 =>
ifK t12 (
some (.ret (.bool true), S11)) (
(ldA 5 p0.1 S11).bind fun p14 =>
callP (self.f 9 [p14.1] p14.2) fun t15 S15 =>
(ldA 5 p0.1 S15).bind fun p17 =>
callP (self.f 10 [p17.1] p17.2) fun t18 S18 =>
(extractV t18 0).bind fun t20 =>
(extractV t18 1).bind fun t21 =>
(lnS t15 S18).bind fun p25 =>
(binV E0 .sub 3 false true t20 (.int .i64 1)).bind fun t27 =>
(binV E0 .neq 3 false false p25.1 t27).bind fun t28 =>
ifK t28 (
some (.ret (.bool false), p25.2)) (
L4_36 self N (R4_30 self N (finN E0 self Tryd.f4) noEx) (exB 0 (R4_30 self N (finN E0 self Tryd.f4) noEx) noEx) N p0.1 t15 (.int .i64 0) p25.2))) := by kernel_rfl
noncomputable def C11 : Code := Tryd.f11.body.getD .skip
noncomputable def B11 : D := (annot C11 [[], []]).1
noncomputable def F11 (self : EV) (N : Nat) (x0 x1 : V) (S : St) : Rs := runF E0 self N Tryd.f11 B11 [x0, x1] S
theorem F11_eq (self : EV) (N : Nat) (x0 x1 : V) (S : St) : F11 self N x0 x1 S =
callP (self.f 28 [x0, x1, (.int .i64 0), (.int .i64 (-1))] S) fun t3 S3 =>
some (.ret t3, S3) := by kernel_rfl
noncomputable def C13 : Code := Tryd.f13.body.getD .skip
noncomputable def B13 : D := (annot C13 [[], [], [0, 1, 5], [], [0, 1], [], [], [], [], [0, 0, 1], [4], []]).1
noncomputable def RL13 : List Nat := cellsOf Tryd.f13.results.toList
noncomputable def R13_1 (self : EV) (N : Nat) (nk : Ac → St → Rs) (ek : Nat → Ac → St → Rs) (a : Ac) (S : St) : Rs := projK [0, 1] a fun a => dr E0 self RL13 N (B13.r).r (mkK E0 self Tryd.f13 nk ek) a S
theorem R13_1_eq (self : EV) (N : Nat) (nk : Ac → St → Rs) (ek : Nat → Ac → St → Rs) ( v0 v1 : V) (S : St) : R13_1 self N nk ek (fr 41 [(0, v0), (1, v1)]) S =
(lnS v0 S).bind fun p3 =>
(lnS v1 p3.2).bind fun p5 =>
(binV E0 .lss 3 false false p3.1 p5.1).bind fun t6 =>
some (.ret t6, p5.2) := by kernel_rfl
noncomputable def L13_9 (self : EV) (N : Nat) (nk : Ac → St → Rs) (ek : Nat → Ac → St → Rs) (n : Nat) ( v0 v1 v5 : V) (S : St) : Rs := loopK [0, 1, 5] (dr E0 self RL13 N (B13.r.l.r.l.l)) (mkK E0 self Tryd.f13 nk ek) n (fr 41 [(0, v0), (1, v1), (5, v5)]) S
theorem L13_9_eq (self : EV) (N : Nat) (nk : Ac → St → Rs) (ek : Nat → Ac → St → Rs) (n : Nat) ( v0 v1 v5 : V) (S : St) : L13_9 self N nk ek (n + 1) v0 v1 v5 S =
(lnS v0 S).bind fun p12 =>
(binV E0 .lss 3 false false v5 p12.1).bind fun t13 =>
(guardV true t13).bind fun g15 => (bif g15 then some v5 else some (.tuple [])).bind fun t15 =>
(guardV true t13).bind fun g16 => (bif g16 then some v1 else some (.tuple [])).bind fun t16 =>
(guardV true t13).bind fun g17 => (bif g17 then lnS t16 p12.2 else some (.tuple [], p12.2)).bind fun p17 =>
(guardV true t13).bind fun g18 => (bif g18 then binV E0 .lss 3 false false t15 p17.1 else some (.tuple [])).bind fun t18 =>
(pickV t13 (some t18) (some (.bool false))).bind fun t19 =>
ifK t19 (
(ixP 1 v0 v5).bind fun t22 =>
(ld1 t22 (onS p17.2)).bind fun p23 =>
(ixP 1 v1 v5).bind fun t26 =>
(ld1 t26 (onS p23.2)).bind fun p27 =>
(binV E0 .neq 9 false false p23.1 p27.1).bind fun t28 =>
endP [(3, [7])] p17.2 [[], [], [], p23.2.log, [], [], [], p27.2.log, []] (onS p27.2) fun S29 =>
ifK t28 (
(ixP 1 v0 v5).bind fun t32 =>
(ld1 t32 (onS S29)).bind fun p33 =>
(ixP 1 v1 v5).bind fun t36 =>
(ld1 t36 (onS p33.2)).bind fun p37 =>
(binV E0 .lss 9 false false p33.1 p37.1).bind fun t38 =>
endP [(3, [7])] S29 [[], [], [], p33.2.log, [], [], [], p37.2.log, [], []] (onS p37.2) fun S40 =>
some (.ret t38, S40)) (
(binV E0 .add 3 false true v5 (.int .i64 1)).bind fun t42 =>
L13_9 self N nk ek n v0 v1 t42 S29)) (
ek 0 (fr 41 [(0, v0), (1, v1)]) p17.2) := by kernel_rfl
noncomputable def F13 (self : EV) (N : Nat) (x0 x1 : V) (S : St) : Rs := runF E0 self N Tryd.f13 B13 [x0, x1] S
theorem F13_eq (self : EV) (N : Nat) (x0 x1 : V) (S : St) : F13 self N x0 x1 S =
L13_9 self N (R13_1 self N (finN E0 self Tryd.f13) noEx) (exB 0 (R13_1 self N (finN E0 self Tryd.f13) noEx) noEx) N x0 x1 (.int .i64 0) S := by kernel_rfl
noncomputable def C28 : Code := Tryd.f28.body.getD .skip
noncomputable def B28 : D := (annot C28 [[], [], [], [], [], [], [], [], [0, 0, 1, 2, 3], [8], [], [], [], [], [0, 1, 2, 3, 9, 10], [], [0, 9, 10], [], [], [], [0, 9, 10], [], [], [], [0, 0, 9, 10], [8], [], []]).1
noncomputable def RL28 : List Nat := cellsOf Tryd.f28.results.toList
noncomputable def R28_24 (self : EV) (N : Nat) (nk : Ac → St → Rs) (ek : Nat → Ac → St → Rs) (a : Ac) (S : St) : Rs := projK [0, 9, 10] a fun a => dr E0 self RL28 N (B28.r.r.r.r.l.r.r.r.r).r (mkK E0 self Tryd.f28 nk ek) a S
theorem R28_24_eq (self : EV) (N : Nat) (nk : Ac → St → Rs) (ek : Nat → Ac → St → Rs) ( v0 v9 v10 : V) (S : St) : R28_24 self N nk ek (fr 66 [(0, v0), (9, v9), (10, v10)]) S =
(ixP 1 v9 v10).bind fun t28 =>
(stP 1 t28 v0 S).bind fun p29 =>
(binV E0 .add 3 false true v10 (.int .i64 1)).bind fun t32 =>
(sliceV E0 32 v9 none (some t32) none p29.2).bind fun p33 =>
some (.ret p33.1, p33.2) := by kernel_rfl
noncomputable def L28_35 (self : EV) (N : Nat) (nk : Ac → St → Rs) (ek : Nat → Ac → St → Rs) (n : Nat) ( v0 v1 v2 v3 v9 v10 : V) (S : St) : Rs := loopK [0, 1, 2, 3, 9, 10] (dr E0 self RL28 N (B28.r.r.r.r.l.r.r.r.r.l.l.l)) (mkK E0 self Tryd.f28 nk ek) n (fr 66 [(0, v0), (1, v1), (2, v2), (3, v3), (9, v9), (10, v10)]) S
theorem L28_35_eq (self : EV) (N : Nat) (nk : Ac → St → Rs) (ek : Nat → Ac → St → Rs) (n : Nat) ( v0 v1 v2 v3 v9 v10 : V) (S : St) : L28_35 self N nk ek (n + 1) v0 v1 v2 v3 v9 v10 S =
(binV E0 .lss 3 false false v10 v3).bind fun t38 =>
ifK t38 (
callP (self.f 43 [v0, v1] S) fun t41 S41 =>
(binV E0 .lss 3 false true t41 (.int .i64 0)).bind fun t44 =>
ifK t44 (
ek 0 (fr 66 [(0, v0), (9, v9), (10, v10)]) S41) (
(binV E0 .add 3 false false t41 v2).bind fun t50 =>
(sliceV E0 9 v0 none (some t50) none S41).bind fun p51 =>
(ixP 1 v9 v10).bind fun t52 =>
(stP 1 t52 p51.1 p51.2).bind fun p53 =>
(lnStr v1 p53.2).bind fun p57 =>
(binV E0 .add 3 false false t41 p57.1).bind fun t58 =>
(sliceV E0 9 v0 (some t58) none none p57.2).bind fun p59 =>
(binV E0 .add 3 false true v10 (.int .i64 1)).bind fun t62 =>
L28_35 self N nk ek n p59.1 v1 v2 v3 v9 t62 p59.2)) (
ek 0 (fr 66 [(0, v0), (9, v9), (10, v10)]) S) := by kernel_rfl
noncomputable def F28 (self : EV) (N : Nat) (x0 x1 x2 x3 : V) (S : St) : Rs := runF E0 self N Tryd.f28 B28 [x0, x1, x2, x3] S
theorem F28_one (self : EV) (N : Nat) (x0 x2 : V) (S : St) : F28 self N x0 (sv [47]) x2 (.int .i64 (-1)) S =
callP (self.f 42 [x0, sv [47]] S) fun t68 S68 =>
(binV E0 .add 3 false true t68 (.int .i64 1)).bind fun t69 =>
(lnStr x0 S68).bind fun p13 =>
(binV E0 .add 3 false true p13.1 (.int .i64 1)).bind fun t14 =>
(foldK minV t69 [t14] p13.2).bind fun p15 =>
(makeSliceK E0 32 p15.1 p15.1 p15.2).bind fun p18 =>
(binV E0 .sub 3 false true p15.1 (.int .i64 1)).bind fun t21 =>
L28_35 self N (R28_24 self N (fun a s => projK [8] a fun a => (finN E0 self Tryd.f28) a s) noEx) (exB 0 (R28_24 self N (fun a s => projK [8] a fun a => (finN E0 self Tryd.f28) a s) noEx) noEx) N x0 (sv [47]) x2 t21 p18.1 (.int .i64 0) p18.2 := by kernel_rfl
noncomputable def C42 : Code := Tryd.f42.body.getD .skip
noncomputable def B42 : D := (annot C42 [[], [], [], [], [], [], [], [], [0, 1, 5], [], [], [], [], []]).1
noncomputable def RL42 : List Nat := cellsOf Tryd.f42.results.toList
noncomputable def L42_17 (self : EV) (N : Nat) (nk : Ac → St → Rs) (ek : Nat → Ac → St → Rs) (n : Nat) ( v0 v1 v5 : V) (S : St) : Rs := loopK [0, 1, 5] (dr E0 self RL42 N (B42.r.r.r.r.l.l)) (mkK E0 self Tryd.f42 nk ek) n (fr 34 [(0, v0), (1, v1), (5, v5)]) S
noncomputable def F42 (self : EV) (N : Nat) (x0 x1 : V) (S : St) : Rs := runF E0 self N Tryd.f42 B42 [x0, x1] S
theorem F42_eq (self : EV) (N : Nat) (x0 x1 : V) (S : St) : F42 self N x0 x1 S =
(lnStr x1 S).bind fun p2 =>
(binV E0 .eql 3 false true p2.1 (.int .i64 0)).bind fun t3 =>
ifK t3 (
callP (self.f 50 [x0] p2.2) fun t5 S5 =>
(binV E0 .add 3 false true t5 (.int .i64 1)).bind fun t6 =>
some (.ret t6, S5)) (
(lnStr x1 p2.2).bind fun p9 =>
(binV E0 .eql 3 false true p9.1 (.int .i64 1)).bind fun t10 =>
ifK t10 (
(ixS x1 (.int .i64 0)).bind fun t13 =>
callP (callK E0 self (.fn (.func 51) [] []) [x0, t13] p9.2) fun t14 S14 =>
some (.ret t14, S14)) (
L42_17 self N (finN E0 self Tryd.f42) (exB 0 (finN E0 self Tryd.f42) noEx) N x0 x1 (.int .i64 0) p9.2)) := by kernel_rfl
end
end Go.Proofs.YtcbaodegkfokjaaDoor.W
