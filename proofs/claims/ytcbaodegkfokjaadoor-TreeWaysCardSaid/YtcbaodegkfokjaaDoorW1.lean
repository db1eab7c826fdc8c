/-
  WHAT THE FUNCTIONS COME TO: each is read by the evaluator, printed, and told as a function of data, part 1 of 4 (no condition).
-/
import Derived.Test.YtcbaodegkfokjaaDoorEv3
import Derived.Test.YtcbaodegkfokjaaDoorProg
import Derived.KernelRfl
namespace Go.Proofs.YtcbaodegkfokjaaDoor.W
open Go.Proofs.YtcbaodegkfokjaaDoor.Ev
set_option maxRecDepth 100000
noncomputable section
noncomputable def E0 : Env := envOf Tryd.prog [7, 8, 23, 24, 73, 74, 75, 76, 79, 80, 92] [(51, 3), (55, 1)] []
noncomputable def C21 : Code := Tryd.f21.body.getD .skip
noncomputable def B21 : D := (annot C21 [[], []]).1
noncomputable def F21 (self : EV) (N : Nat) (x0 x1 : V) (S : St) : Rs := runF E0 self N Tryd.f21 B21 [x0, x1] S
theorem F21_eq (self : EV) (N : Nat) (x0 x1 : V) (S : St) : F21 self N x0 x1 S =
callP (self.f 31 [x0, x1, (.int .i64 0)] S) fun t3 S3 =>
some (.ret t3, S3) := by kernel_rfl
noncomputable def C31 : Code := Tryd.f31.body.getD .skip
noncomputable def B31 : D := (annot C31 [[], []]).1
noncomputable def F31 (self : EV) (N : Nat) (x0 x1 x2 : V) (S : St) : Rs := runF E0 self N Tryd.f31 B31 [x0, x1, x2] S
theorem F31_eq (self : EV) (N : Nat) (x0 x1 x2 : V) (S : St) : F31 self N x0 x1 x2 S =
(boxK 9 x0 S).bind fun p0 =>
(boxK 9 x1 p0.2).bind fun p1 =>
(boxK 3 x2 p1.2).bind fun p2 =>
some (.ret (.fn (.func 44) [] [p1.1, p0.1, p2.1]), p2.2) := by kernel_rfl
noncomputable def C43 : Code := Tryd.f43.body.getD .skip
noncomputable def B43 : D := (annot C43 [[], []]).1
noncomputable def F43 (self : EV) (N : Nat) (x0 x1 : V) (S : St) : Rs := runF E0 self N Tryd.f43 B43 [x0, x1] S
theorem F43_eq (self : EV) (N : Nat) (x0 x1 : V) (S : St) : F43 self N x0 x1 S =
callP (self.f 52 [x0, x1] S) fun t3 S3 =>
some (.ret t3, S3) := by kernel_rfl
noncomputable def C48 : Code := Tryd.f48.body.getD .skip
noncomputable def B48 : D := (annot C48 [[], []]).1
noncomputable def F48 (self : EV) (N : Nat) (x0 x1 : V) (S : St) : Rs := runF E0 self N Tryd.f48 B48 [x0, x1] S
theorem F48_eq (self : EV) (N : Nat) (x0 x1 : V) (S : St) : F48 self N x0 x1 S =
callP (callK E0 self (.fn (.func 55) [] []) [x0, x1] S) fun t3 S3 =>
some (.ret t3, S3) := by kernel_rfl
noncomputable def C52 : Code := Tryd.f52.body.getD .skip
noncomputable def B52 : D := (annot C52 [[], [], [], [], [], [], [], [], [], [], [], [], [], [], [], [], [0, 1, 5, 6, 7, 8, 9, 10], [], [], [], [], [], [], [], [], [0, 0, 1, 5, 6, 7, 8, 9, 10], [0, 1, 5, 6, 7, 8, 9, 10], [], [], [], [], [], [], [], [], [], [], [], [], [], [], [], [], [], [0], [4], []]).1
noncomputable def F52 (self : EV) (N : Nat) (x0 x1 : V) (S : St) : Rs := runF E0 self N Tryd.f52 B52 [x0, x1] S
theorem F52_eq (self : EV) (N : Nat) (x0 x1 : V) (S : St) : F52 self N x0 x1 S =
(lnStr x1 S).bind fun p2 =>
(binV E0 .eql 3 false true p2.1 (.int .i64 0)).bind fun t5 =>
(guardV false t5).bind fun g7 => (bif g7 then some x1 else some (.tuple [])).bind fun t7 =>
(guardV false t5).bind fun g8 => (bif g8 then some x0 else some (.tuple [])).bind fun t8 =>
(guardV false t5).bind fun g9 => (bif g9 then binV E0 .eql 9 false false t7 t8 else some (.tuple [])).bind fun t9 =>
(pickV t5 (some (.bool true)) (some t9)).bind fun t10 =>
ifK t10 (
some (.ret (.int .i64 0), p2.2)) (
(binV E0 .eql 3 false true p2.1 (.int .i64 1)).bind fun t14 =>
ifK t14 (
(ixS x1 (.int .i64 0)).bind fun t18 =>
callP (self.f 48 [x0, t18] p2.2) fun t19 S19 =>
some (.ret t19, S19)) (
(lnStr x0 p2.2).bind fun p23 =>
(binV E0 .geq 3 false false p2.1 p23.1).bind fun t24 =>
ifK t24 (
some (.ret (.int .i64 (-1)), p23.2)) (
none))) := by kernel_rfl
end
end Go.Proofs.YtcbaodegkfokjaaDoor.W
namespace Go.Proofs.YtcbaodegkfokjaaDoor.W
open Go.Proofs.YtcbaodegkfokjaaDoor.Ev
set_option maxRecDepth 100000
noncomputable section
noncomputable def C44 : Code := Tryd.f44.body.getD .skip
noncomputable def B44 : D := (annot C44 [[], [0, 2], [], [], [], [], [], [], [0], [0, 1, 2, 3], [0, 0, 1, 2, 3], [], [0, 1, 2, 3], [], [], [0, 2], [], [], [], [], [0, 0, 2], []]).1
noncomputable def RL44 : List Nat := cellsOf Tryd.f44.results.toList
noncomputable def R44_0 (self : EV) (N : Nat) (nk : Ac → St → Rs) (ek : Nat → Ac → St → Rs) (a : Ac) (S : St) : Rs := projK [0, 1, 2, 3] a fun a => dr E0 self RL44 N (B44).r (mkK E0 self Tryd.f44 nk ek) a S
noncomputable def R44_1 (self : EV) (N : Nat) (nk : Ac → St → Rs) (ek : Nat → Ac → St → Rs) (a : Ac) (S : St) : Rs := projK [0, 2] a fun a => dr E0 self RL44 N (B44.r.l).r (mkK E0 self Tryd.f44 nk ek) a S
theorem R44_1_eq (self : EV) (N : Nat) (nk : Ac → St → Rs) (ek : Nat → Ac → St → Rs) ( v0 v2 : V) (S : St) : R44_1 self N nk ek (fr 52 [(0, v0), (2, v2)]) S =
(ld1 v2 S).bind fun p3 =>
callP (callK E0 self v0 [p3.1] p3.2) fun t4 S4 =>
nk (fr 52 []) S4 := by kernel_rfl
noncomputable def L44_5 (self : EV) (N : Nat) (nk : Ac → St → Rs) (ek : Nat → Ac → St → Rs) (n : Nat) ( v0 v1 v2 v3 : V) (S : St) : Rs := loopK [0, 1, 2, 3] (dr E0 self RL44 N (B44.r.l.l.l.l)) (mkK E0 self Tryd.f44 nk ek) n (fr 52 [(0, v0), (1, v1), (2, v2), (3, v3)]) S
theorem L44_5_eq (self : EV) (N : Nat) (nk : Ac → St → Rs) (ek : Nat → Ac → St → Rs) (n : Nat) ( v0 v1 v2 v3 : V) (S : St) : L44_5 self N nk ek (n + 1) v0 v1 v2 v3 S =
(ld1 v2 S).bind fun p6 =>
(ld1 v1 p6.2).bind fun p7 =>
callP (self.f 43 [p6.1, p7.1] p7.2) fun t8 S8 =>
(binV E0 .lss 3 false true t8 (.int .i64 0)).bind fun t11 =>
ifK t11 (
ek 2 (fr 52 [(0, v0), (2, v2)]) S8) (
(ld1 v2 S8).bind fun p12 =>
(ld1 v3 p12.2).bind fun p14 =>
(binV E0 .add 3 false false t8 p14.1).bind fun t15 =>
(sliceV E0 9 p12.1 none (some t15) none p14.2).bind fun p16 =>
callP (callK E0 self v0 [p16.1] p16.2) fun t20 S20 =>
(unV .not t20).bind fun t21 =>
ifK t21 (
some (.ret (.tuple []), S20)) (
(ld1 v2 S20).bind fun p22 =>
(ld1 v1 p22.2).bind fun p24 =>
(lnStr p24.1 p24.2).bind fun p25 =>
(binV E0 .add 3 false false t8 p25.1).bind fun t26 =>
(sliceV E0 9 p22.1 (some t26) none none p25.2).bind fun p27 =>
(stP 1 v2 p27.1 p27.2).bind fun p28 =>
L44_5 self N nk ek n v0 v1 v2 v3 p28.2)) := by kernel_rfl
theorem R44_0_eq (self : EV) (N : Nat) (nk : Ac → St → Rs) (ek : Nat → Ac → St → Rs) ( v0 v1 v2 v3 : V) (S : St) : R44_0 self N nk ek (fr 52 [(0, v0), (1, v1), (2, v2), (3, v3)]) S =
L44_5 self N (R44_1 self N (fun a s => projK [] a fun a => nk a s) ek) (exB 2 (R44_1 self N (fun a s => projK [] a fun a => nk a s) ek) ek) N v0 v1 v2 v3 S := by kernel_rfl
noncomputable def R44_32 (self : EV) (N : Nat) (nk : Ac → St → Rs) (ek : Nat → Ac → St → Rs) (a : Ac) (S : St) : Rs := projK [] a fun a => dr E0 self RL44 N (B44.l.r.l).r (mkK E0 self Tryd.f44 nk ek) a S
noncomputable def L44_33 (self : EV) (N : Nat) (nk : Ac → St → Rs) (ek : Nat → Ac → St → Rs) (n : Nat) ( v0 v2 : V) (S : St) : Rs := loopK [0, 2] (dr E0 self RL44 N (B44.l.r.l.l.l.l)) (mkK E0 self Tryd.f44 nk ek) n (fr 52 [(0, v0), (2, v2)]) S
noncomputable def F44 (self : EV) (N : Nat) (x0 x1 x2 x3 : V) (S : St) : Rs := runF E0 self N Tryd.f44 B44 [x0, x1, x2, x3] S
theorem F44_eq (self : EV) (N : Nat) (x0 x1 x2 x3 : V) (S : St) : F44 self N x0 x1 x2 x3 S =
(ld1 x1 S).bind fun p29 =>
(lnStr p29.1 p29.2).bind fun p30 =>
(binV E0 .eql 3 false true p30.1 (.int .i64 0)).bind fun t31 =>
ifK t31 (
L44_33 self N (R44_32 self N (R44_0 self N (finN E0 self Tryd.f44) noEx) noEx) (exB 0 (R44_32 self N (R44_0 self N (finN E0 self Tryd.f44) noEx) noEx) noEx) N x0 x2 p30.2) (
R44_0 self N (finN E0 self Tryd.f44) noEx (fr 52 [(0, x0), (1, x1), (2, x2), (3, x3)]) p30.2) := by kernel_rfl
noncomputable def C22 : Code := Tryd.f22.body.getD .skip
noncomputable def B22 : D := (annot C22 [[], [], [0, 1, 7, 8], [], [], [], [], [], [], [], [0], [4], []]).1
noncomputable def RL22 : List Nat := cellsOf Tryd.f22.results.toList
noncomputable def R22_1 (self : EV) (N : Nat) (nk : Ac → St → Rs) (ek : Nat → Ac → St → Rs) (a : Ac) (S : St) : Rs := projK [] a fun a => dr E0 self RL22 N (B22.r).r (mkK E0 self Tryd.f22 nk ek) a S
theorem R22_1_eq (self : EV) (N : Nat) (nk : Ac → St → Rs) (ek : Nat → Ac → St → Rs) (S : St) : R22_1 self N nk ek (fr 19 []) S =
some (.ret (.int .i64 (-1)), S) := by kernel_rfl
noncomputable def L22_6 (self : EV) (N : Nat) (nk : Ac → St → Rs) (ek : Nat → Ac → St → Rs) (n : Nat) ( v0 v1 v7 v8 : V) (S : St) : Rs := loopK [0, 1, 7, 8] (dr E0 self RL22 N (B22.r.l.r.l.l)) (mkK E0 self Tryd.f22 nk ek) n (fr 19 [(0, v0), (1, v1), (7, v7), (8, v8)]) S
theorem L22_6_eq (self : EV) (N : Nat) (nk : Ac → St → Rs) (ek : Nat → Ac → St → Rs) (n : Nat) ( v0 v1 v7 v8 : V) (S : St) : L22_6 self N nk ek (n + 1) v0 v1 v7 v8 S =
(binV E0 .lss 3 false false v8 v7).bind fun t7 =>
ifK t7 (
(ixP 5 v0 v8).bind fun t13 =>
(ldA 5 t13 S).bind fun p14 =>
callP (callK E0 self v1 [p14.1] p14.2) fun t15 S15 =>
ifK t15 (
some (.ret v8, S15)) (
(binV E0 .add 3 false true v8 (.int .i64 1)).bind fun t18 =>
L22_6 self N nk ek n v0 v1 v7 t18 S15)) (
ek 0 (fr 19 []) S) := by kernel_rfl
noncomputable def F22 (self : EV) (N : Nat) (x0 x1 : V) (S : St) : Rs := runF E0 self N Tryd.f22 B22 [x0, x1] S
theorem F22_eq (self : EV) (N : Nat) (x0 x1 : V) (S : St) : F22 self N x0 x1 S =
(lnS x0 S).bind fun p4 =>
L22_6 self N (R22_1 self N (finN E0 self Tryd.f22) noEx) (exB 0 (R22_1 self N (finN E0 self Tryd.f22) noEx) noEx) N x0 x1 p4.1 (.int .i64 0) p4.2 := by kernel_rfl
noncomputable def C23 : Code := Tryd.f23.body.getD .skip
noncomputable def B23 : D := (annot C23 [[], []]).1
noncomputable def F23 (self : EV) (N : Nat) (x0 x1 : V) (S : St) : Rs := runF E0 self N Tryd.f23 B23 [x0, x1] S
theorem F23_eq (self : EV) (N : Nat) (x0 x1 : V) (S : St) : F23 self N x0 x1 S =
(boxK 24 x0 S).bind fun p0 =>
(faP 0 false 1 p0.1).bind fun t2 =>
(ld1 t2 p0.2).bind fun p3 =>
(ld1 x1 p3.2).bind fun p4 =>
(binV E0 .eql 9 false false p3.1 p4.1).bind fun t5 =>
some (.ret t5, p4.2) := by kernel_rfl
noncomputable def C7 : Code := Tryd.f7.body.getD .skip
noncomputable def B7 : D := (annot C7 [[], [], [], [], [], [0, 2, 4, 5], [4, 5], []]).1
noncomputable def RL7 : List Nat := cellsOf Tryd.f7.results.toList
noncomputable def R7_8 (self : EV) (N : Nat) (nk : Ac → St → Rs) (ek : Nat → Ac → St → Rs) (a : Ac) (S : St) : Rs := projK [2, 4, 5] a fun a => dr E0 self RL7 N (B7.r.r).r (mkK E0 self Tryd.f7 nk ek) a S
theorem R7_8_eq (self : EV) (N : Nat) (nk : Ac → St → Rs) (ek : Nat → Ac → St → Rs) (ds : List AD) ( v2 v4 v5 : V) (S : St) : R7_8 self N nk ek (frD 34 [(2, v2), (4, v4), (5, v5)] ds) S =
(ldA 5 v2 S).bind fun p9 =>
(stP 5 v4 p9.1 p9.2).bind fun p10 =>
(stP 1 v5 (.bool true) p10.2).bind fun p11 =>
finR E0 self Tryd.f7 (frD 34 [(2, v2), (4, v4), (5, v5), (33, p9.1)] ds) p11.2 := by kernel_rfl
noncomputable def YA7_14 : Code := (B7.r.r.l.r.l).as
noncomputable def YB7_14 : Code := (B7.r.r.l.r.l).bd
noncomputable def DA7_14 : D := (annot YA7_14 []).1
noncomputable def DB7_14 : D := (annot YB7_14 [[], [], [], [], [], []]).1
noncomputable def O7_14 (st : Nat) (pend : Option Code) ( v2 v4 v5 : V) : O := .loop st pend (frT [(2, v2), (4, v4), (5, v5)] .nil) 34 [13] YA7_14 YB7_14
noncomputable def Y7_14 (self : EV) (N : Nat) (l : Nat) ( v2 v4 v5 : V) ( w13 : V) (S : St) : Rs := roundK E0 self N DA7_14 DB7_14 l (frT [(2, v2), (4, v4), (5, v5)] .nil) 34 [13] [w13] S
theorem Y7_14_eq (self : EV) (N : Nat) (l : Nat) ( v2 v4 v5 : V) ( w13 : V) (S : St) : Y7_14 self N l v2 v4 v5 w13 S =
(some (nwP 9 1 (one (sv [])) S)).bind fun p16 =>
(stP 1 p16.1 w13 p16.2).bind fun p17 =>
midR l (frR 34 [(2, v2), (4, v4), (5, v5), (6, p16.1), (13, w13)] l) p17.2 fun S15 =>
(faP 1 false 1 v2).bind fun t19 =>
(ld1 t19 S15).bind fun p20 =>
(binV E0 .eql 3 false true p20.1 (.int .i64 2)).bind fun t21 =>
(guardV true t21).bind fun g23 => (bif g23 then ld1 p16.1 p20.2 else some (.tuple [], p20.2)).bind fun p23 =>
(guardV true t21).bind fun g24 => (bif g24 then binV E0 .neq 9 false true p23.1 (sv []) else some (.tuple [])).bind fun t24 =>
(pickV t21 (some t24) (some (.bool false))).bind fun t25 =>
ifK t25 (
(faP 4 false 1 v2).bind fun t26 =>
(ld1 t26 p23.2).bind fun p27 =>
callE (self.f 22 [p27.1, (.fn (.func 23) [] [p16.1])] p27.2) fun t29 S29 =>
(binV E0 .lss 3 false true t29 (.int .i64 0)).bind fun t32 =>
ifK t32 (
(buildV E0 24 []).bind fun t33 =>
(stP 5 v4 t33 S29).bind fun p34 =>
(stP 1 v5 (.bool false) p34.2).bind fun p35 =>
endRound l 1 (some .ret) false p35.2) (
(faP 4 false 1 v2).bind fun t36 =>
(ld1 t36 S29).bind fun p37 =>
(ixP 5 p37.1 t29).bind fun t39 =>
(ldA 5 t39 p37.2).bind fun p40 =>
(stP 5 v2 p40.1 p40.2).bind fun p41 =>
endRound l 0 none true p41.2)) (
(binV E0 .lss 3 false true (.int .i64 (-1)) (.int .i64 0)).bind fun t43 =>
ifK t43 (
(buildV E0 24 []).bind fun t44 =>
(stP 5 v4 t44 p23.2).bind fun p45 =>
(stP 1 v5 (.bool false) p45.2).bind fun p46 =>
endRound l 1 (some .ret) false p46.2) (
(faP 4 false 1 v2).bind fun t47 =>
(ld1 t47 p23.2).bind fun p48 =>
(ixP 5 p48.1 (.int .i64 (-1))).bind fun t50 =>
(ldA 5 t50 p48.2).bind fun p51 =>
(stP 5 v2 p51.1 p51.2).bind fun p52 =>
endRound l 0 none true p52.2)) := by kernel_rfl
noncomputable def F7 (self : EV) (N : Nat) (x0 x1 : V) (S : St) : Rs := runF E0 self N Tryd.f7 B7 [x0, x1] S
theorem F7_eq (self : EV) (N : Nat) (x0 x1 : V) (S : St) : F7 self N x0 x1 S =
(boxK 24 x0 S).bind fun p0 =>
(some (nwP 24 5 (Tr.ofListFrom .nil [(sv []), (.int .i64 0), (.bool false), (sv []), .nilslice] 0) p0.2)).bind fun p1 =>
(some (nwP 4 1 (one (.bool false)) p1.2)).bind fun p2 =>
(binV E0 .eql 9 false true x1 (sv [])).bind fun t4 =>
ifK t4 (
(ldA 5 p0.1 p2.2).bind fun p5 =>
(stP 5 p1.1 p5.1 p5.2).bind fun p6 =>
(stP 1 p2.1 (.bool true) p6.2).bind fun p7 =>
finR E0 self Tryd.f7 (frD 34 [(0, x0), (1, x1), (2, p0.1), (4, p1.1), (5, p2.1), (8, x1), (9, t4), (10, p5.1)] []) p7.2) (
callPF E0 self Tryd.f7 (frD 34 [(0, x0), (1, x1), (2, p0.1), (4, p1.1), (5, p2.1), (8, x1), (9, t4), (11, x1)] []) (self.f 21 [x1, (sv [47])] p2.2) fun t13 S13 =>
rangeP E0 self t13 (O7_14 0 none p0.1 p1.1 p2.1) S13 (fun S53 =>
R7_8 self N (finN E0 self Tryd.f7) noEx (frD 34 [(2, p0.1), (4, p1.1), (5, p2.1)] (mkR S13.next :: [])) S53) (fun s => finR E0 self Tryd.f7 (frD 34 [(0, x0), (1, x1), (2, p0.1), (4, p1.1), (5, p2.1), (8, x1), (9, t4), (11, x1), (12, t13)] (mkR S13.next :: [])) s) (fun i s => (exB 0 (R7_8 self N (finN E0 self Tryd.f7) noEx) noEx) i (frD 34 [(0, x0), (1, x1), (2, p0.1), (4, p1.1), (5, p2.1), (8, x1), (9, t4), (11, x1), (12, t13)] (mkR S13.next :: [])) s) (fun v s => leaves E0 self Tryd.f7 (frD 34 [(0, x0), (1, x1), (2, p0.1), (4, p1.1), (5, p2.1), (8, x1), (9, t4), (11, x1), (12, t13)] (mkR S13.next :: [])) (mkR S13.next :: []) (.pan v) s)) := by kernel_rfl
end
end Go.Proofs.YtcbaodegkfokjaaDoor.W
namespace Go.Proofs.YtcbaodegkfokjaaDoor.W
open Go.Proofs.YtcbaodegkfokjaaDoor.Ev
set_option maxRecDepth 100000
noncomputable section
noncomputable def C19 : Code := Tryd.f19.body.getD .skip
noncomputable def B19 : D := (annot C19 [[], [], [], [], [], [1, 2, 4, 5, 6], [], [2, 4, 5], [], [], [0, 2, 4, 5], [4], [], []]).1
noncomputable def RL19 : List Nat := cellsOf Tryd.f19.results.toList
noncomputable def R19_21 (self : EV) (N : Nat) (nk : Ac → St → Rs) (ek : Nat → Ac → St → Rs) (a : Ac) (S : St) : Rs := projK [2, 4, 5] a fun a => dr E0 self RL19 N (B19.r.r.r.r).r (mkK E0 self Tryd.f19 nk ek) a S
theorem R19_21_eq (self : EV) (N : Nat) (nk : Ac → St → Rs) (ek : Nat → Ac → St → Rs) ( v2 v4 v5 : V) (S : St) : R19_21 self N nk ek (fr 52 [(2, v2), (4, v4), (5, v5)]) S =
(faP 4 false 1 v2).bind fun t23 =>
(stP 1 t23 v5 S).bind fun p24 =>
(ldA 5 v2 p24.2).bind fun p25 =>
(stP 5 v4 p25.1 p25.2).bind fun p26 =>
(ldrA 5 v4 p26.2).bind fun p27 =>
some (.ret p27.1, p27.2) := by kernel_rfl
noncomputable def L19_29 (self : EV) (N : Nat) (nk : Ac → St → Rs) (ek : Nat → Ac → St → Rs) (n : Nat) ( v1 v2 v4 v5 v6 : V) (S : St) : Rs := loopK [1, 2, 4, 5, 6] (dr E0 self RL19 N (B19.r.r.r.r.l.r.l.l)) (mkK E0 self Tryd.f19 nk ek) n (fr 52 [(1, v1), (2, v2), (4, v4), (5, v5), (6, v6)]) S
theorem L19_29_eq (self : EV) (N : Nat) (nk : Ac → St → Rs) (ek : Nat → Ac → St → Rs) (n : Nat) ( v1 v2 v4 v5 v6 : V) (S : St) : L19_29 self N nk ek (n + 1) v1 v2 v4 v5 v6 S =
(faP 4 false 1 v2).bind fun t31 =>
(ld1 t31 S).bind fun p32 =>
(lnS p32.1 p32.2).bind fun p33 =>
(binV E0 .lss 3 false false v6 p33.1).bind fun t34 =>
(guardV true t34).bind fun g36 => (bif g36 then some v6 else some (.tuple [])).bind fun t36 =>
(guardV true t34).bind fun g37 => (bif g37 then binV E0 .lss 3 false true t36 (.int .i64 6) else some (.tuple [])).bind fun t37 =>
(pickV t34 (some t37) (some (.bool false))).bind fun t38 =>
(guardV true t38).bind fun g40 => (bif g40 then some v1 else some (.tuple [])).bind fun t40 =>
(guardV true t38).bind fun g41 => (bif g41 then binV E0 .gtr 3 false true t40 (.int .i64 0) else some (.tuple [])).bind fun t41 =>
(pickV t38 (some t41) (some (.bool false))).bind fun t42 =>
ifK t42 (
(faP 4 false 1 v2).bind fun t44 =>
(ld1 t44 p33.2).bind fun p45 =>
(ixP 5 p45.1 v6).bind fun t47 =>
(ldA 5 t47 p45.2).bind fun p48 =>
(binV E0 .sub 3 false true v1 (.int .i64 1)).bind fun t50 =>
callP (self.f 19 [p48.1, t50] p48.2) fun t51 S51 =>
(bsP 24 5 1 (Tr.ofListFrom .nil [(sv []), (.int .i64 0), (.bool false), (sv []), .nilslice] 0) [(0, t51)] S51).bind fun p52 =>
(apP 24 5 72 v5 p52.1 p52.2).bind fun p53 =>
(binV E0 .add 3 false true v6 (.int .i64 1)).bind fun t56 =>
L19_29 self N nk ek n v1 v2 v4 p53.1 t56 p53.2) (
ek 0 (fr 52 [(2, v2), (4, v4), (5, v5)]) p33.2) := by kernel_rfl
noncomputable def F19 (self : EV) (N : Nat) (x0 x1 : V) (S : St) : Rs := runF E0 self N Tryd.f19 B19 [x0, x1] S
theorem F19_eq (self : EV) (N : Nat) (x0 x1 : V) (S : St) : F19 self N x0 x1 S =
(boxK 24 x0 S).bind fun p0 =>
(some (nwP 24 5 (Tr.ofListFrom .nil [(sv []), (.int .i64 0), (.bool false), (sv []), .nilslice] 0) p0.2)).bind fun p1 =>
(faP 0 false 1 p0.1).bind fun t2 =>
(ld1 t2 p1.2).bind fun p3 =>
(faP 0 false 1 p0.1).bind fun t4 =>
(ld1 t4 p3.2).bind fun p5 =>
(lnStr p5.1 p5.2).bind fun p6 =>
(foldK minV p6.1 [(.int .i64 30)] p6.2).bind fun p7 =>
(sliceV E0 9 p3.1 none (some p7.1) none p7.2).bind fun p8 =>
(faP 0 false 1 p0.1).bind fun t9 =>
(stP 1 t9 p8.1 p8.2).bind fun p10 =>
(faP 3 false 1 p0.1).bind fun t11 =>
(ld1 t11 p10.2).bind fun p12 =>
(faP 3 false 1 p0.1).bind fun t13 =>
(ld1 t13 p12.2).bind fun p14 =>
(lnStr p14.1 p14.2).bind fun p15 =>
(foldK minV p15.1 [(.int .i64 300)] p15.2).bind fun p16 =>
(sliceV E0 9 p12.1 none (some p16.1) none p16.2).bind fun p17 =>
(faP 3 false 1 p0.1).bind fun t18 =>
(stP 1 t18 p17.1 p17.2).bind fun p19 =>
L19_29 self N (R19_21 self N (finN E0 self Tryd.f19) noEx) (exB 0 (R19_21 self N (finN E0 self Tryd.f19) noEx) noEx) N x1 p0.1 p1.1 .nilslice (.int .i64 0) p19.2 := by kernel_rfl
noncomputable def C20 : Code := Tryd.f20.body.getD .skip
noncomputable def B20 : D := (annot C20 [[], [], [], [1, 2, 4, 5, 6], [], [2, 4, 5], [], [], [], [0, 2, 4, 5], [4], [], []]).1
noncomputable def RL20 : List Nat := cellsOf Tryd.f20.results.toList
noncomputable def R20_3 (self : EV) (N : Nat) (nk : Ac → St → Rs) (ek : Nat → Ac → St → Rs) (a : Ac) (S : St) : Rs := projK [2, 4, 5] a fun a => dr E0 self RL20 N (B20.r.r).r (mkK E0 self Tryd.f20 nk ek) a S
theorem R20_3_eq (self : EV) (N : Nat) (nk : Ac → St → Rs) (ek : Nat → Ac → St → Rs) ( v2 v4 v5 : V) (S : St) : R20_3 self N nk ek (fr 39 [(2, v2), (4, v4), (5, v5)]) S =
(faP 4 false 1 v2).bind fun t5 =>
(stP 1 t5 v5 S).bind fun p6 =>
(ldA 5 v2 p6.2).bind fun p7 =>
(stP 5 v4 p7.1 p7.2).bind fun p8 =>
(ldrA 5 v4 p8.2).bind fun p9 =>
some (.ret p9.1, p9.2) := by kernel_rfl
noncomputable def L20_11 (self : EV) (N : Nat) (nk : Ac → St → Rs) (ek : Nat → Ac → St → Rs) (n : Nat) ( v1 v2 v4 v5 v6 : V) (S : St) : Rs := loopK [1, 2, 4, 5, 6] (dr E0 self RL20 N (B20.r.r.l.r.l.l)) (mkK E0 self Tryd.f20 nk ek) n (fr 39 [(1, v1), (2, v2), (4, v4), (5, v5), (6, v6)]) S
theorem L20_11_eq (self : EV) (N : Nat) (nk : Ac → St → Rs) (ek : Nat → Ac → St → Rs) (n : Nat) ( v1 v2 v4 v5 v6 : V) (S : St) : L20_11 self N nk ek (n + 1) v1 v2 v4 v5 v6 S =
(faP 4 false 1 v2).bind fun t13 =>
(ld1 t13 S).bind fun p14 =>
(lnS p14.1 p14.2).bind fun p15 =>
(binV E0 .lss 3 false false v6 p15.1).bind fun t16 =>
(guardV true t16).bind fun g18 => (bif g18 then some v1 else some (.tuple [])).bind fun t18 =>
(guardV true t16).bind fun g19 => (bif g19 then nilCheckV t18 else some (.tuple [])).bind fun t19 =>
(guardV true t16).bind fun g20 => (bif g20 then ld1 t19 p15.2 else some (.tuple [], p15.2)).bind fun p20 =>
(guardV true t16).bind fun g21 => (bif g21 then binV E0 .gtr 3 false true p20.1 (.int .i64 0) else some (.tuple [])).bind fun t21 =>
(pickV t16 (some t21) (some (.bool false))).bind fun t22 =>
ifK t22 (
(nilCheckV v1).bind fun t25 =>
(ld1 t25 p20.2).bind fun p26 =>
(binV E0 .sub 3 false true p26.1 (.int .i64 1)).bind fun t27 =>
(nilCheckV v1).bind fun t28 =>
(stP 1 t28 t27 p26.2).bind fun p29 =>
(faP 4 false 1 v2).bind fun t31 =>
(ld1 t31 p29.2).bind fun p32 =>
(ixP 5 p32.1 v6).bind fun t34 =>
(ldA 5 t34 p32.2).bind fun p35 =>
callP (self.f 20 [p35.1, v1] p35.2) fun t37 S37 =>
(bsP 24 5 1 (Tr.ofListFrom .nil [(sv []), (.int .i64 0), (.bool false), (sv []), .nilslice] 0) [(0, t37)] S37).bind fun p38 =>
(apP 24 5 72 v5 p38.1 p38.2).bind fun p39 =>
(binV E0 .add 3 false true v6 (.int .i64 1)).bind fun t42 =>
L20_11 self N nk ek n v1 v2 v4 p39.1 t42 p39.2) (
ek 0 (fr 39 [(2, v2), (4, v4), (5, v5)]) p20.2) := by kernel_rfl
noncomputable def F20 (self : EV) (N : Nat) (x0 x1 : V) (S : St) : Rs := runF E0 self N Tryd.f20 B20 [x0, x1] S
theorem F20_eq (self : EV) (N : Nat) (x0 x1 : V) (S : St) : F20 self N x0 x1 S =
(boxK 24 x0 S).bind fun p0 =>
(some (nwP 24 5 (Tr.ofListFrom .nil [(sv []), (.int .i64 0), (.bool false), (sv []), .nilslice] 0) p0.2)).bind fun p1 =>
L20_11 self N (R20_3 self N (finN E0 self Tryd.f20) noEx) (exB 0 (R20_3 self N (finN E0 self Tryd.f20) noEx) noEx) N x1 p0.1 p1.1 .nilslice (.int .i64 0) p1.2 := by kernel_rfl
noncomputable def C6 : Code := Tryd.f6.body.getD .skip
noncomputable def B6 : D := (annot C6 [[], [], [], []]).1
noncomputable def F6 (self : EV) (N : Nat) (x0 : V) (S : St) : Rs := runF E0 self N Tryd.f6 B6 [x0] S
theorem F6_eq (self : EV) (N : Nat) (x0 : V) (S : St) : F6 self N x0 S =
(boxK 24 x0 S).bind fun p0 =>
(some (nwP 24 5 (Tr.ofListFrom .nil [(sv []), (.int .i64 0), (.bool false), (sv []), .nilslice] 0) p0.2)).bind fun p1 =>
(ldA 5 p0.1 p1.2).bind fun p2 =>
callP (self.f 19 [p2.1, (.int .i64 16)] p2.2) fun t3 S3 =>
(stP 5 p0.1 t3 S3).bind fun p4 =>
(some (nwP 3 1 (one (.int .i64 0)) p4.2)).bind fun p5 =>
(stP 1 p5.1 (.int .i64 300) p5.2).bind fun p6 =>
(ldA 5 p0.1 p6.2).bind fun p7 =>
callP (self.f 20 [p7.1, p5.1] p7.2) fun t8 S8 =>
(stP 5 p1.1 t8 S8).bind fun p9 =>
(ldrA 5 p1.1 p9.2).bind fun p10 =>
some (.ret p10.1, p10.2) := by kernel_rfl
noncomputable def C3 : Code := Tryd.f3.body.getD .skip
noncomputable def B3 : D := (annot C3 [[], [], [], [], [], [], [], [], [], [], [], [], [], [], [], [], [], [], []]).1
noncomputable def F3 (self : EV) (N : Nat) (x0 x1 x2 : V) (S : St) : Rs := runF E0 self N Tryd.f3 B3 [x0, x1, x2] S
theorem F3_eq (self : EV) (N : Nat) (x0 x1 x2 : V) (S : St) : F3 self N x0 x1 x2 S =
(boxK 24 x0 S).bind fun p0 =>
callP (self.f 5 [] p0.2) fun t2 S2 =>
(unV .not t2).bind fun t3 =>
ifK t3 (
some (.ret (.bool false), S2)) (
(ldA 5 p0.1 S2).bind fun p5 =>
callP (self.f 6 [p5.1] p5.2) fun t6 S6 =>
(stP 5 p0.1 t6 S6).bind fun p7 =>
(lnStr x1 p7.2).bind fun p10 =>
(foldK minV p10.1 [(.int .i64 60)] p10.2).bind fun p11 =>
(sliceV E0 9 x1 none (some p11.1) none p11.2).bind fun p12 =>
(lnStr x2 p12.2).bind fun p16 =>
(foldK minV p16.1 [(.int .i64 60)] p16.2).bind fun p17 =>
(sliceV E0 9 x2 none (some p17.1) none p17.2).bind fun p18 =>
(binV E0 .eql 9 false true p12.1 (sv [])).bind fun t21 =>
(guardV false t21).bind fun g23 => (bif g23 then some p18.1 else some (.tuple [])).bind fun t23 =>
(guardV false t21).bind fun g24 => (bif g24 then binV E0 .eql 9 false true t23 (sv []) else some (.tuple [])).bind fun t24 =>
(pickV t21 (some (.bool true)) (some t24)).bind fun t25 =>
ifK t25 (
(ldA 5 p0.1 p18.2).bind fun p26 =>
(binV E0 .add 9 false false p12.1 p18.1).bind fun t29 =>
callP (self.f 7 [p26.1, t29] p26.2) fun t30 S30 =>
(extractV t30 0).bind fun t32 =>
(extractV t30 1).bind fun t33 =>
(some (nwP 24 5 (Tr.ofListFrom .nil [(sv []), (.int .i64 0), (.bool false), (sv []), .nilslice] 0) S30)).bind fun p34 =>
(stP 5 p34.1 t32 p34.2).bind fun p35 =>
(ldA 5 p0.1 p35.2).bind fun p37 =>
(binV E0 .add 9 false false p18.1 p12.1).bind fun t40 =>
callP (self.f 7 [p37.1, t40] p37.2) fun t41 S41 =>
(extractV t41 0).bind fun t43 =>
(extractV t41 1).bind fun t44 =>
(some (nwP 24 5 (Tr.ofListFrom .nil [(sv []), (.int .i64 0), (.bool false), (sv []), .nilslice] 0) S41)).bind fun p45 =>
(stP 5 p45.1 t43 p45.2).bind fun p46 =>
(binV E0 .eql 4 false false t33 t44).bind fun t50 =>
(guardV true t50).bind fun g52 => (bif g52 then faP 0 false 1 p34.1 else some (.tuple [])).bind fun t52 =>
(guardV true t50).bind fun g53 => (bif g53 then ld1 t52 p46.2 else some (.tuple [], p46.2)).bind fun p53 =>
(guardV true t50).bind fun g54 => (bif g54 then faP 0 false 1 p45.1 else some (.tuple [])).bind fun t54 =>
(guardV true t50).bind fun g55 => (bif g55 then ld1 t54 p53.2 else some (.tuple [], p53.2)).bind fun p55 =>
(guardV true t50).bind fun g56 => (bif g56 then binV E0 .eql 9 false false p53.1 p55.1 else some (.tuple [])).bind fun t56 =>
(pickV t50 (some t56) (some (.bool false))).bind fun t57 =>
(guardV true t57).bind fun g59 => (bif g59 then faP 1 false 1 p34.1 else some (.tuple [])).bind fun t59 =>
(guardV true t57).bind fun g60 => (bif g60 then ld1 t59 p55.2 else some (.tuple [], p55.2)).bind fun p60 =>
(guardV true t57).bind fun g61 => (bif g61 then faP 1 false 1 p45.1 else some (.tuple [])).bind fun t61 =>
(guardV true t57).bind fun g62 => (bif g62 then ld1 t61 p60.2 else some (.tuple [], p60.2)).bind fun p62 =>
(guardV true t57).bind fun g63 => (bif g63 then binV E0 .eql 3 false false p60.1 p62.1 else some (.tuple [])).bind fun t63 =>
(pickV t57 (some t63) (some (.bool false))).bind fun t64 =>
some (.ret t64, p62.2)) (
(ldA 5 p0.1 p18.2).bind fun p66 =>
(binV E0 .add 9 false true p12.1 (sv [47])).bind fun t68 =>
(binV E0 .add 9 false false t68 p18.1).bind fun t70 =>
callP (self.f 7 [p66.1, t70] p66.2) fun t71 S71 =>
(extractV t71 0).bind fun t73 =>
(extractV t71 1).bind fun t74 =>
(some (nwP 24 5 (Tr.ofListFrom .nil [(sv []), (.int .i64 0), (.bool false), (sv []), .nilslice] 0) S71)).bind fun p75 =>
(stP 5 p75.1 t73 p75.2).bind fun p76 =>
(ldA 5 p0.1 p76.2).bind fun p78 =>
callP (self.f 7 [p78.1, p12.1] p78.2) fun t80 S80 =>
(extractV t80 0).bind fun t82 =>
(extractV t80 1).bind fun t83 =>
(some (nwP 24 5 (Tr.ofListFrom .nil [(sv []), (.int .i64 0), (.bool false), (sv []), .nilslice] 0) S80)).bind fun p84 =>
(stP 5 p84.1 t82 p84.2).bind fun p85 =>
(unV .not t83).bind fun t88 =>
ifK t88 (
(unV .not t74).bind fun t90 =>
(guardV true t90).bind fun g92 => (bif g92 then faP 1 false 1 p75.1 else some (.tuple [])).bind fun t92 =>
(guardV true t90).bind fun g93 => (bif g93 then ld1 t92 p85.2 else some (.tuple [], p85.2)).bind fun p93 =>
(guardV true t90).bind fun g94 => (bif g94 then binV E0 .eql 3 false true p93.1 (.int .i64 0) else some (.tuple [])).bind fun t94 =>
(pickV t90 (some t94) (some (.bool false))).bind fun t95 =>
some (.ret t95, p93.2)) (
(ldA 5 p84.1 p85.2).bind fun p97 =>
callP (self.f 7 [p97.1, p18.1] p97.2) fun t99 S99 =>
(extractV t99 0).bind fun t101 =>
(extractV t99 1).bind fun t102 =>
(some (nwP 24 5 (Tr.ofListFrom .nil [(sv []), (.int .i64 0), (.bool false), (sv []), .nilslice] 0) S99)).bind fun p103 =>
(stP 5 p103.1 t101 p103.2).bind fun p104 =>
(binV E0 .eql 4 false false t74 t102).bind fun t108 =>
(guardV true t108).bind fun g110 => (bif g110 then faP 0 false 1 p75.1 else some (.tuple [])).bind fun t110 =>
(guardV true t108).bind fun g111 => (bif g111 then ld1 t110 p104.2 else some (.tuple [], p104.2)).bind fun p111 =>
(guardV true t108).bind fun g112 => (bif g112 then faP 0 false 1 p103.1 else some (.tuple [])).bind fun t112 =>
(guardV true t108).bind fun g113 => (bif g113 then ld1 t112 p111.2 else some (.tuple [], p111.2)).bind fun p113 =>
(guardV true t108).bind fun g114 => (bif g114 then binV E0 .eql 9 false false p111.1 p113.1 else some (.tuple [])).bind fun t114 =>
(pickV t108 (some t114) (some (.bool false))).bind fun t115 =>
(guardV true t115).bind fun g117 => (bif g117 then faP 1 false 1 p75.1 else some (.tuple [])).bind fun t117 =>
(guardV true t115).bind fun g118 => (bif g118 then ld1 t117 p113.2 else some (.tuple [], p113.2)).bind fun p118 =>
(guardV true t115).bind fun g119 => (bif g119 then faP 1 false 1 p103.1 else some (.tuple [])).bind fun t119 =>
(guardV true t115).bind fun g120 => (bif g120 then ld1 t119 p118.2 else some (.tuple [], p118.2)).bind fun p120 =>
(guardV true t115).bind fun g121 => (bif g121 then binV E0 .eql 3 false false p118.1 p120.1 else some (.tuple [])).bind fun t121 =>
(pickV t115 (some t121) (some (.bool false))).bind fun t122 =>
(guardV true t122).bind fun g124 => (bif g124 then faP 3 false 1 p75.1 else some (.tuple [])).bind fun t124 =>
(guardV true t122).bind fun g125 => (bif g125 then ld1 t124 p120.2 else some (.tuple [], p120.2)).bind fun p125 =>
(guardV true t122).bind fun g126 => (bif g126 then faP 3 false 1 p103.1 else some (.tuple [])).bind fun t126 =>
(guardV true t122).bind fun g127 => (bif g127 then ld1 t126 p125.2 else some (.tuple [], p125.2)).bind fun p127 =>
(guardV true t122).bind fun g128 => (bif g128 then binV E0 .eql 9 false false p125.1 p127.1 else some (.tuple [])).bind fun t128 =>
(pickV t122 (some t128) (some (.bool false))).bind fun t129 =>
(guardV true t129).bind fun g131 => (bif g131 then faP 4 false 1 p75.1 else some (.tuple [])).bind fun t131 =>
(guardV true t129).bind fun g132 => (bif g132 then ld1 t131 p127.2 else some (.tuple [], p127.2)).bind fun p132 =>
(guardV true t129).bind fun g133 => (bif g133 then lnS p132.1 p132.2 else some (.tuple [], p132.2)).bind fun p133 =>
(guardV true t129).bind fun g134 => (bif g134 then faP 4 false 1 p103.1 else some (.tuple [])).bind fun t134 =>
(guardV true t129).bind fun g135 => (bif g135 then ld1 t134 p133.2 else some (.tuple [], p133.2)).bind fun p135 =>
(guardV true t129).bind fun g136 => (bif g136 then lnS p135.1 p135.2 else some (.tuple [], p135.2)).bind fun p136 =>
(guardV true t129).bind fun g137 => (bif g137 then binV E0 .eql 3 false false p133.1 p136.1 else some (.tuple [])).bind fun t137 =>
(pickV t129 (some t137) (some (.bool false))).bind fun t138 =>
some (.ret t138, p136.2)))) := by kernel_rfl
end
end Go.Proofs.YtcbaodegkfokjaaDoor.W
namespace Go.Proofs.YtcbaodegkfokjaaDoor.W
open Go.Proofs.YtcbaodegkfokjaaDoor.Ev
set_option maxRecDepth 100000
noncomputable section
end
end Go.Proofs.YtcbaodegkfokjaaDoor.W
namespace Go.Proofs.YtcbaodegkfokjaaDoor.W
open Go.Proofs.YtcbaodegkfokjaaDoor.Ev
set_option maxRecDepth 100000
noncomputable section
end
end Go.Proofs.YtcbaodegkfokjaaDoor.W
namespace Go.Proofs.YtcbaodegkfokjaaDoor.W
open Go.Proofs.YtcbaodegkfokjaaDoor.Ev
set_option maxRecDepth 100000
noncomputable section
end
end Go.Proofs.YtcbaodegkfokjaaDoor.W
namespace Go.Proofs.YtcbaodegkfokjaaDoor.W
open Go.Proofs.YtcbaodegkfokjaaDoor.Ev
theorem E0_ok : EnvOk Tryd.prog E0 := envOf_ok (by kernel_rfl) (by kernel_rfl) (by kernel_rfl) (fun p hp => by
 simp only [List.mem_cons, List.not_mem_nil, or_false] at hp
 rcases hp with rfl | rfl
 · exact ⟨fun h => absurd h (by decide), fun h => absurd h (by decide), fun _ args w => by kernel_rfl, fun h => absurd h (by decide), fun h => absurd h (by decide)⟩
 · exact ⟨fun _ args w => by kernel_rfl, fun h => absurd h (by decide), fun h => absurd h (by decide), fun h => absurd h (by decide), fun h => absurd h (by decide)⟩
 ) (by kernel_rfl) (by kernel_rfl) (by kernel_rfl)
inductive Nd where
 | mk (name : List UInt8) (kind : Int) (exec : Bool) (data : List UInt8) (kids : List Nd)
def Nd.name : Nd → List UInt8 | .mk n _ _ _ _ => n
def Nd.kind : Nd → Int | .mk _ k _ _ _ => k
def Nd.exec : Nd → Bool | .mk _ _ e _ _ => e
def Nd.data : Nd → List UInt8 | .mk _ _ _ d _ => d
def Nd.kids : Nd → List Nd | .mk _ _ _ _ l => l
def kidsV : List V → V
 | [] => .nilslice
 | x :: l => .list 5 (x :: l)
mutual
noncomputable def encN : Nd → V
 | .mk n k e d l => vAgg [sv n, .int .i64 k, .bool e, sv d, kidsV (encL l)]
noncomputable def encL : List Nd → List V
 | [] => []
 | x :: l => encN x :: encL l
end
noncomputable def cellsN (x : Nd) : List V := [sv x.name, .int .i64 x.kind, .bool x.exec, sv x.data, kidsV (encL x.kids)]
theorem encN_cells (x : Nd) : encN x = vAgg (cellsN x) := by cases x; simp only [encN, cellsN, Nd.name, Nd.kind, Nd.exec, Nd.data, Nd.kids]
theorem encL_map : ∀ l : List Nd, encL l = l.map encN
 | [] => rfl
 | x :: l => by rw [encL, encL_map l]; rfl
theorem encL_length (l : List Nd) : (encL l).length = l.length := by rw [encL_map, List.length_map]
mutual
def cntN : Nd → Nat
 | .mk _ _ _ _ l => 1 + cntL l
def cntL : List Nd → Nat
 | [] => 0
 | x :: l => cntN x + cntL l
end
theorem cntN_eq (x : Nd) : cntN x = 1 + cntL x.kids := by cases x; rw [cntN]; rfl
mutual
def Nd.ok : Nd → Prop
 | .mk n k _ d l => n.length < 9223372036854775808 ∧ (-9223372036854775808 ≤ k ∧ k < 9223372036854775808) ∧ d.length ≤ 3000 ∧ l.length ≤ 3000 ∧ 1 + cntL l < 4611686018427387904 ∧ okL l
def okL : List Nd → Prop
 | [] => True
 | x :: l => x.ok ∧ okL l
end
theorem okL_iff : ∀ l : List Nd, okL l ↔ ∀ x ∈ l, x.ok
 | [] => by simp [okL]
 | x :: l => by simp [okL, okL_iff l]
structure NdOk (x : Nd) : Prop where
 name : x.name.length < 9223372036854775808
 kind : -9223372036854775808 ≤ x.kind ∧ x.kind < 9223372036854775808
 data : x.data.length ≤ 3000
 few : x.kids.length ≤ 3000
 cnt : 1 + cntL x.kids < 4611686018427387904
 kids : ∀ y ∈ x.kids, y.ok
theorem Nd.ok.at {x : Nd} (h : x.ok) : NdOk x := by
 cases x with
 | mk n k e d l =>
  rw [Nd.ok] at h
  obtain ⟨h1, h2, h3, h4, hc, h5⟩ := h
  exact ⟨h1, h2, h3, h4, hc, (okL_iff l).1 h5⟩
theorem vAgg_inj {l m : List V} (h : vAgg l = vAgg m) : l = m := by
 unfold vAgg at h
 simp only [V.agg.injEq] at h
 refine List.ext_getElem? fun i => ?_
 rw [← vAgg_get l i, ← vAgg_get m i, h.2]
theorem kidsV_inj : ∀ {l m : List V}, kidsV l = kidsV m → l = m
 | [], [], _ => rfl
 | [], _ :: _, h => by simp [kidsV] at h
 | _ :: _, [], h => by simp [kidsV] at h
 | _ :: _, _ :: _, h => by simpa [kidsV] using h
mutual
theorem encN_inj : ∀ {x y : Nd}, encN x = encN y → x = y
 | .mk n k e d l, .mk n' k' e' d' l', h => by
  rw [encN, encN] at h
  have h := vAgg_inj h
  simp only [List.cons.injEq, V.int.injEq, V.bool.injEq, true_and, and_true] at h
  obtain ⟨h1, h2, h3, h4, h5⟩ := h
  rw [sv_inj h1, h2, h3, sv_inj h4, encL_inj (kidsV_inj h5)]
theorem encL_inj : ∀ {l m : List Nd}, encL l = encL m → l = m
 | [], [], _ => rfl
 | [], _ :: _, h => by simp [encL] at h
 | _ :: _, [], h => by simp [encL] at h
 | x :: l, y :: m, h => by
  simp only [encL, List.cons.injEq] at h
  rw [encN_inj h.1, encL_inj h.2]
end
section
variable {s : St}
structure NodeAt (s : St) (b : Nat) (x : Nd) : Prop where
 on : s.on = false
 bx : Bx s b 24 (cellsN x)
theorem big5 : 5 < big := by unfold big; decide
variable {b : Nat} {x : Nd}
theorem NodeAt.f0 (h : NodeAt s b x) : ld1 (.ptr b 0) s = some (sv x.name, s) := Bx.ld1 h.on h.bx 0 (by show 0 < 5; decide) big5
theorem NodeAt.f1 (h : NodeAt s b x) : ld1 (.ptr b 1) s = some (.int .i64 x.kind, s) := Bx.ld1 h.on h.bx 1 (by show 1 < 5; decide) big5
theorem NodeAt.f2 (h : NodeAt s b x) : ld1 (.ptr b 2) s = some (.bool x.exec, s) := Bx.ld1 h.on h.bx 2 (by show 2 < 5; decide) big5
theorem NodeAt.f3 (h : NodeAt s b x) : ld1 (.ptr b 3) s = some (sv x.data, s) := Bx.ld1 h.on h.bx 3 (by show 3 < 5; decide) big5
theorem NodeAt.f4 (h : NodeAt s b x) : ld1 (.ptr b 4) s = some (kidsV (encL x.kids), s) := Bx.ld1 h.on h.bx 4 (by show 4 < 5; decide) big5
theorem NodeAt.fA (h : NodeAt s b x) : ldA 5 (.ptr b 0) s = some (encN x, s) := by rw [encN_cells]; exact Bx.ldA h.on h.bx rfl big5
theorem NodeAt.o0 (h : NodeAt s b x) : ld1 (.ptr b 0) (onS s) = some (sv x.name, rd s b 0 1) := Bx.ld1On h.on h.bx 0 (by show 0 < 5; decide) big5
theorem NodeAt.o1 (h : NodeAt s b x) : ld1 (.ptr b 1) (onS s) = some (.int .i64 x.kind, rd s b 1 1) := Bx.ld1On h.on h.bx 1 (by show 1 < 5; decide) big5
theorem NodeAt.o2 (h : NodeAt s b x) : ld1 (.ptr b 2) (onS s) = some (.bool x.exec, rd s b 2 1) := Bx.ld1On h.on h.bx 2 (by show 2 < 5; decide) big5
theorem NodeAt.o3 (h : NodeAt s b x) : ld1 (.ptr b 3) (onS s) = some (sv x.data, rd s b 3 1) := Bx.ld1On h.on h.bx 3 (by show 3 < 5; decide) big5
theorem NodeAt.o4 (h : NodeAt s b x) : ld1 (.ptr b 4) (onS s) = some (kidsV (encL x.kids), rd s b 4 1) := Bx.ld1On h.on h.bx 4 (by show 4 < 5; decide) big5
theorem NodeAt.grew {W : Nat → Prop} {t : St} (h : NodeAt s b x) (hb : b < s.next) (hw : ¬ W b) (g : Grew W s t) : NodeAt t b x := ⟨g.on.trans h.on, h.bx.grew hb hw g⟩
theorem node_box (ho : s.on = false) (x : Nd) : ∃ t, boxK 24 (encN x) s = some (.ptr s.next 0, t) ∧ NodeAt t s.next x ∧ Grew (fun _ => False) s t ∧ t.next = s.next + 1 := by
 obtain ⟨t, h1, h2, h3, h4⟩ := box_new ho 24 (cellsN x)
 rw [encN_cells]
 exact ⟨t, h1, ⟨h3.on.trans ho, h2⟩, h3, h4⟩
theorem node_new (ho : s.on = false) (z : Tr V) (x : Nd) : ∃ t, stP 5 (.ptr s.next 0) (encN x) (nwP 24 5 z s).2 = some (.tuple [], t) ∧ NodeAt t s.next x ∧ Grew (fun _ => False) s t ∧ t.next = s.next + 1 := by
 obtain ⟨t, h1, h2, h3, h4⟩ := var_new ho 24 5 z (cellsN x) rfl (by decide) big5
 rw [encN_cells]
 exact ⟨t, h1, ⟨h3.on.trans ho, h2⟩, h3, h4⟩
theorem lnS_kids (l : List Nd) : lnS (kidsV (encL l)) s = some (.int .i64 (l.length : Int), s) := by
 cases l with
 | nil => rfl
 | cons x l =>
  show some (V.int .i64 (.ofNat ((encN x :: encL l).length)), s) = _
  rw [List.length_cons, encL_length]; rfl
theorem ixP_kids (l : List Nd) (i : Nat) (h : i < l.length) : ixP 5 (kidsV (encL l)) (.int .i64 (i : Int)) = some (.cptr (encN l[i])) := by
 cases l with
 | nil => simp at h
 | cons x l =>
  show ixP 5 (.list 5 (encL (x :: l))) _ = _
  rw [ixP_list 5 (encL (x :: l)) .i64 i (by rw [encL_length]; exact h) (by decide)]
  congr 2
  simp only [encL_map, List.getElem_map]
theorem ldA_kid (x : Nd) : ldA 5 (.cptr (encN x)) s = some (encN x, s) := by rw [encN_cells]; exact ldA_cptr (cellsN x)
end
def deepN : Nat → Nd → Nat
 | 0, _ => 1
 | m + 1, x => if x.kind ≠ 2 ∨ m = 0 then 1 else x.kids.foldl (fun d y => max d (1 + deepN m y)) 1
end Go.Proofs.YtcbaodegkfokjaaDoor.W
namespace Go.Proofs.YtcbaodegkfokjaaDoor.W
open Go.Proofs.YtcbaodegkfokjaaDoor.Ev
def tooDeepN (x : Nd) : Bool := decide (12 < deepN 14 x)
end Go.Proofs.YtcbaodegkfokjaaDoor.W
namespace Go.Proofs.YtcbaodegkfokjaaDoor.W
open Go.Proofs.YtcbaodegkfokjaaDoor.Ev
abbrev wr (n : Int) : Int := IntKind.i64.wrap n
mutual
def sizeN : Nd → Int × Int
 | .mk _ _ _ d l => sizeL l (1, (d.length : Int))
def sizeL : List Nd → Int × Int → Int × Int
 | [], a => a
 | x :: l, a => sizeL l (if tooDeepN x then a else (wr (a.1 + (sizeN x).1), wr (a.2 + (sizeN x).2)))
end
theorem sizeN_eq (x : Nd) : sizeN x = sizeL x.kids (1, (x.data.length : Int)) := by cases x; rw [sizeN]; rfl
def sizeT (x : Nd) : Int × Int := if tooDeepN x then (0, 0) else sizeN x
theorem drop_at {α : Type} {l r : List α} {i : Nat} {y : α} (h : l.drop i = y :: r) : ∃ hlt : i < l.length, l[i] = y ∧ l.drop (i + 1) = r ∧ y ∈ l := by
 have hlt : i < l.length := by
  rcases Nat.lt_or_ge i l.length with h' | h'
  · exact h'
  · rw [List.drop_eq_nil_of_le h'] at h; cases h
 rw [List.drop_eq_getElem_cons hlt] at h
 simp only [List.cons.injEq] at h
 exact ⟨hlt, h.1, h.2, h.1 ▸ List.getElem_mem hlt⟩
theorem drop_end {α : Type} {l : List α} {i : Nat} (h : l.drop i = []) : l.length ≤ i := List.drop_eq_nil_iff.1 h
theorem dec_lt {a b : Nat} (h : a < b) : decide ((a : Int) < (b : Int)) = true := by simp; omega
theorem dec_ge {a b : Nat} (h : b ≤ a) : decide ((a : Int) < (b : Int)) = false := by simp; omega
theorem wrap_succ {i : Nat} (h : i < 9223372036854775807) : IntKind.i64.wrap ((i : Int) + 1) = ((i + 1 : Nat) : Int) := by
 rw [wrap_i64 (by omega) (by omega)]; omega
end Go.Proofs.YtcbaodegkfokjaaDoor.W
namespace Go.Proofs.YtcbaodegkfokjaaDoor.W
open Go.Proofs.YtcbaodegkfokjaaDoor.Ev
def badByte (c : UInt8) : Bool := c == 47 || c == 0
def nameOk (s : List UInt8) : Bool := decide (1 ≤ s.length) && decide (s.length ≤ 56) && !(s.any badByte) && !(s == [46]) && !(s == [46, 46])
end Go.Proofs.YtcbaodegkfokjaaDoor.W
namespace Go.Proofs.YtcbaodegkfokjaaDoor.W
open Go.Proofs.YtcbaodegkfokjaaDoor.Ev
def prevLess (p : Option (List UInt8)) (s : List UInt8) : Bool :=
 match p with
 | none => true
 | some q => Op.bytesLess q s
mutual
def mayN : Nd → Bool
 | .mk _ k e d l => if k = 1 then l.isEmpty else if k = 3 then !(d.any (· == 0)) && (!e && l.isEmpty && decide (1 ≤ d.length) && decide (d.length ≤ 255)) else if k = 2 then mayL none l && (!e && (d == [])) else false
def mayL : Option (List UInt8) → List Nd → Bool
 | _, [] => true
 | p, x :: l => (nameOk x.name && mayN x) && prevLess p x.name && mayL (some x.name) l
end
theorem mayN_eq (x : Nd) : mayN x = if x.kind = 1 then x.kids.isEmpty else if x.kind = 3 then !(x.data.any (· == 0)) && (!x.exec && x.kids.isEmpty && decide (1 ≤ x.data.length) && decide (x.data.length ≤ 255)) else if x.kind = 2 then mayL none x.kids && (!x.exec && (x.data == [])) else false := by
 cases x; rw [mayN]; rfl
end Go.Proofs.YtcbaodegkfokjaaDoor.W
namespace Go.Proofs.YtcbaodegkfokjaaDoor.W
open Go.Proofs.YtcbaodegkfokjaaDoor.Ev
section
variable {s : St}
def AgAt (s : St) (b e z : Nat) (t : Tr V) : Prop := ∃ c, s.heap.get b = some (.cells e z 1 false c) ∧ c.get 0 = some t
theorem AgAt.grew {W : Nat → Prop} {u : St} {b e z : Nat} {t : Tr V} (h : AgAt s b e z t) (hb : b < s.next) (hw : ¬ W b) (g : Grew W s u) : AgAt u b e z t := by
 obtain ⟨c, h1, h2⟩ := h
 exact ⟨c, by rw [g.keep b hb hw]; exact h1, h2⟩
theorem ag_new (ho : s.on = false) (e z : Nat) (t : Tr V) : AgAt (nwP e z t s).2 s.next e z t ∧ Grew (fun _ => False) s (nwP e z t s).2 ∧ (nwP e z t s).2.next = s.next + 1 := by
 refine ⟨⟨Tr.ofListFrom .nil [t] 0, ?_, by rw [Tr.get_ofList]; rfl⟩, grew_nw ho _ _, rfl⟩
 show (newCells s e z [t]).heap.get s.next = _
 unfold newCells
 rw [nw_get, if_pos rfl]; rfl
theorem AgAt.ldk (ho : s.on = false) {b e z : Nat} {t : Tr V} (h : AgAt s b e z t) (hz : z < big) : ldK s b 0 z = some (t, s) := by
 obtain ⟨c, h1, h2⟩ := h
 unfold ldK
 rw [h1]
 simp only [ble_true.2 (show 0 + z ≤ z * 1 by omega), blt_true.2 (show z * 1 < big by omega), Bool.and_self, cond_true]
 unfold elemIn
 rw [show Nat.beq z z = true from beq_true.2 rfl, Nat.zero_mod, show Nat.beq 0 0 = true from rfl]
 simp only [Bool.and_self, cond_true, Nat.zero_div, h2, oB, note_off ho]
theorem AgAt.ldA (ho : s.on = false) {b e z : Nat} {t : Tr V} (h : AgAt s b e z t) (hz : z < big) : Go.Proofs.YtcbaodegkfokjaaDoor.Ev.ldA z (.ptr b 0) s = some (.agg z t, s) := by
 show ((ldK s b 0 z).bind fun p => some (V.agg z p.1, p.2)) = _
 rw [h.ldk ho hz]; rfl
theorem AgAt.ldrA (ho : s.on = false) {b e z : Nat} {t : Tr V} (h : AgAt s b e z t) (hz : z < big) : Go.Proofs.YtcbaodegkfokjaaDoor.Ev.ldrA z (.ptr b 0) s = some (.agg z t, s) := by
 show ((ldK s b 0 z).bind fun p => some (V.agg z p.1, p.2)) = _
 rw [h.ldk ho hz]; rfl
theorem AgAt.stA (ho : s.on = false) {b e z : Nat} {t : Tr V} (h : AgAt s b e z t) (hz : z < big) (u : Tr V) : ∃ w, stP z (.ptr b 0) (.agg z u) s = some (.tuple [], w) ∧ AgAt w b e z u ∧ Grew (fun x => x = b) s w ∧ w.next = s.next := by
 obtain ⟨c, h1, h2⟩ := h
 refine ⟨s.put b (.cells e z 1 false (c.set u 0)), ?_, ⟨c.set u 0, by rw [put_get, if_pos rfl], by rw [Tr.get_set, if_pos rfl]⟩, grew_put b _, rfl⟩
 show vu (bif Nat.beq z z && !false then stK s b 0 z u else none) = _
 rw [show Nat.beq z z = true from beq_true.2 rfl]
 simp only [Bool.not_false, Bool.and_self, cond_true]
 have : stK s b 0 z u = some (s.put b (.cells e z 1 false (c.set u 0))) := by
  unfold stK
  rw [h1]
  simp only [ble_true.2 (show 0 + z ≤ z * 1 by omega), blt_true.2 (show z * 1 < big by omega), Bool.and_self, Bool.not_false, cond_true]
  unfold elemTo
  rw [show Nat.beq z z = true from beq_true.2 rfl, Nat.zero_mod, show Nat.beq 0 0 = true from rfl]
  simp only [Bool.and_self, cond_true, Nat.zero_div, Tr.setC_eq, oB, note_off ho]
 rw [this]; rfl
theorem AgAt.ld1 (ho : s.on = false) {b e z i : Nat} {t : Tr V} {v : V} (h : AgAt s b e z t) (hz : z < big) (hi : i < z) (hv : t.get i = some v) : Go.Proofs.YtcbaodegkfokjaaDoor.Ev.ld1 (.ptr b i) s = some (v, s) := by
 obtain ⟨c, h1, h2⟩ := h
 show ld s b i = _
 exact ld_of ho h1 (by omega) (by omega) (by rw [cellOf_zero hi, h2]; exact hv)
theorem AgAt.st1 (ho : s.on = false) {b e z i : Nat} {t : Tr V} (h : AgAt s b e z t) (hz : z < big) (h1z : 1 < z) (hi : i < z) (v : V) (hs : v.size = 1) (hc : v.cells = one v) (hv : isTuple v = false) : ∃ w, stP 1 (.ptr b i) v s = some (.tuple [], w) ∧ AgAt w b e z (t.set v i) ∧ Grew (fun x => x = b) s w ∧ w.next = s.next := by
 obtain ⟨c, h1, h2⟩ := h
 refine ⟨s.put b (.cells e z 1 false (c.set (t.set v i) 0)), ?_, ⟨c.set (t.set v i) 0, by rw [put_get, if_pos rfl], by rw [Tr.get_set, if_pos rfl]⟩, grew_put b _, rfl⟩
 show vu (bif Nat.beq v.size 1 && !isTuple v then stK s b i 1 v.cells else none) = _
 rw [hs, hv, hc]
 simp only [show Nat.beq 1 1 = true from rfl, Bool.not_false, Bool.and_self, cond_true]
 have : stK s b i 1 (one v) = some (s.put b (.cells e z 1 false (c.set (t.set v i) 0))) := by
  unfold stK
  rw [h1]
  simp only [ble_true.2 (show i + 1 ≤ z * 1 by omega), blt_true.2 (show z * 1 < big by omega), Bool.and_self, Bool.not_false, cond_true]
  unfold elemTo
  rw [show Nat.beq 1 z = false from beq_false.2 (by omega)]
  simp only [Bool.false_and, cond_false, cellsTo, show (one v).get 0 = some v from rfl, oB, Nat.add_zero, Nat.div_eq_of_lt hi, Nat.mod_eq_of_lt hi, h2, Tr.setC_eq, note_off ho]
 rw [this]; rfl
end
def ixB (l : List UInt8) (c : UInt8) : Int := match l.findIdx? (fun x => x == c) with | some i => (i : Int) | none => -1
theorem extV_one (l n c : Nat) (S : St) : extV 1 [.str l n, .int .u8 (.ofNat c)] S = bif Nat.blt c 256 then match indexByte c l 0 n with
 | some i => some (.val (.int .i64 (.ofNat i)) S)
 | none => some (.val (.int .i64 (-1)) S)
 else none := rfl
theorem callK_ext {E : Env} {self : EV} {f k : Nat} (h : E.ext.get f = some k) (x y args : List V) (S : St) : callK E self (.fn (.func f) x y) args S = (extV k (x ++ args ++ y) S).bind fun
 | .val v s => some (.ret v, s)
 | _ => none := by
 show (match E.ext.get f with | some k => _ | none => _) = _
 rw [h]
 rfl
theorem ext76 : E0.ext.get 55 = some 1 := by kernel_rfl
theorem ext_ixB (s : List UInt8) (c : UInt8) (S : St) : extV 1 [sv s, .int .u8 (c.toNat : Int)] S = some (.val (.int .i64 (ixB s c)) S) := by
 have h1 : extV 1 [sv s, .int .u8 (c.toNat : Int)] S = bif Nat.blt c.toNat 256 then match indexByte c.toNat s.length 0 (pack s) with
  | some i => some (.val (.int .i64 (.ofNat i)) S)
  | none => some (.val (.int .i64 (-1)) S)
  else none := extV_one _ _ _ _
 rw [h1, blt_true.2 c.toNat_lt, indexByte_spec, ixB]
 cases s.findIdx? (fun x => x == c) with
 | none => rfl
 | some i => rfl
theorem call76 (self : EV) (s : List UInt8) (c : UInt8) (S : St) : callK E0 self (.fn (.func 55) [] []) [sv s, .int .u8 (c.toNat : Int)] S = some (.ret (.int .i64 (ixB s c)), S) := by
 have h := callK_ext (E := E0) (self := self) ext76 [] [] [sv s, .int .u8 (c.toNat : Int)] S
 have h2 := ext_ixB s c S
 rw [List.nil_append, List.append_nil, h2] at h
 exact h
theorem F73_of (self : EV) (N : Nat) (s : V) (c : UInt8) (S : St) (v : V) (h : callK E0 self (.fn (.func 55) [] []) [s, .int .u8 (c.toNat : Int)] S = some (.ret v, S)) : F48 self N s (.int .u8 (c.toNat : Int)) S = some (.ret v, S) := by
 rw [F48_eq, h, callP_ret]
theorem F73_spec (self : EV) (N : Nat) (s : List UInt8) (c : UInt8) (S : St) : F48 self N (sv s) (.int .u8 (c.toNat : Int)) S = some (.ret (.int .i64 (ixB s c)), S) :=
 F73_of self N (sv s) c S (.int .i64 (ixB s c)) (call76 self s c S)
end Go.Proofs.YtcbaodegkfokjaaDoor.W
namespace Go.Proofs.YtcbaodegkfokjaaDoor.W
open Go.Proofs.YtcbaodegkfokjaaDoor.Ev
theorem und9 : und E0 9 = some .string := by kernel_rfl
section
variable {s : St}
theorem put_on {b : Nat} {o : O} (ho : s.on = false) : (s.put b o).on = false := ho
end
end Go.Proofs.YtcbaodegkfokjaaDoor.W
namespace Go.Proofs.YtcbaodegkfokjaaDoor.W
open Go.Proofs.YtcbaodegkfokjaaDoor.Ev
end Go.Proofs.YtcbaodegkfokjaaDoor.W
namespace Go.Proofs.YtcbaodegkfokjaaDoor.W
open Go.Proofs.YtcbaodegkfokjaaDoor.Ev
end Go.Proofs.YtcbaodegkfokjaaDoor.W
namespace Go.Proofs.YtcbaodegkfokjaaDoor.W
open Go.Proofs.YtcbaodegkfokjaaDoor.Ev
end Go.Proofs.YtcbaodegkfokjaaDoor.W
namespace Go.Proofs.YtcbaodegkfokjaaDoor.W
open Go.Proofs.YtcbaodegkfokjaaDoor.Ev
section
variable {self : EV} {N : Nat} {x : Nd} {b : Nat} {S : St}
end
theorem callK_fn {E : Env} {self : EV} {f : FuncId} (h : E.ext.get f = none) (hb : hasBody E f = true) (x y args : List V) (S : St) : callK E self (.fn (.func f) x y) args S = self.f f (x ++ args ++ y) S := by
 show (match E.ext.get f with | some k => _ | none => _) = _
 rw [h]
 show (bif hasBody E f then self.f f (x ++ args ++ y) S else none) = _
 rw [hb]; rfl
end Go.Proofs.YtcbaodegkfokjaaDoor.W
namespace Go.Proofs.YtcbaodegkfokjaaDoor.W
open Go.Proofs.YtcbaodegkfokjaaDoor.Ev
section
variable {K : FuncId → Option KF}
end
end Go.Proofs.YtcbaodegkfokjaaDoor.W
namespace Go.Proofs.YtcbaodegkfokjaaDoor.W
open Go.Proofs.YtcbaodegkfokjaaDoor.Ev
def checkN (x : Nd) : Int := if tooDeepN x then 3 else if x.name == [] && mayN x then if decide (2000 < (sizeT x).1) || decide (100000 < (sizeT x).2) then 3 else 0 else 2
end Go.Proofs.YtcbaodegkfokjaaDoor.W
namespace Go.Proofs.YtcbaodegkfokjaaDoor.W
open Go.Proofs.YtcbaodegkfokjaaDoor.Ev
def digsA (n : Nat) (acc : List UInt8) : List UInt8 := if h : n = 0 then acc else digsA (n / 128) (UInt8.ofNat (n % 128 + 128) :: acc)
termination_by n
decreasing_by omega
def digs (n : Nat) : List UInt8 := digsA (n / 128) [UInt8.ofNat (n % 128)]
end Go.Proofs.YtcbaodegkfokjaaDoor.W
namespace Go.Proofs.YtcbaodegkfokjaaDoor.W
open Go.Proofs.YtcbaodegkfokjaaDoor.Ev
structure TwoTexts where
 s : List UInt8
 t : List UInt8
 hs : s.length < 100000000
 ht : t.length < 100000000
theorem TwoTexts.inj {x y : TwoTexts} (h : [sv x.s, sv x.t] = [sv y.s, sv y.t]) : x.s = y.s ∧ x.t = y.t := by
 simp only [List.cons.injEq, and_true] at h
 exact ⟨sv_inj h.1, sv_inj h.2⟩
def putText (s t : List UInt8) : List UInt8 := s ++ digs t.length ++ t
end Go.Proofs.YtcbaodegkfokjaaDoor.W
namespace Go.Proofs.YtcbaodegkfokjaaDoor.W
open Go.Proofs.YtcbaodegkfokjaaDoor.Ev
mutual
def layN (s : List UInt8) : Nd → List UInt8
 | .mk _ k e d l => if k = 1 then putText (s ++ digs k.toNat ++ digs (if e then 1 else 0)) d else if k = 3 then putText (s ++ digs k.toNat) d else layL (s ++ digs k.toNat ++ digs l.length) l
def layL (s : List UInt8) : List Nd → List UInt8
 | [] => s
 | x :: l => layL (layN (putText s x.name) x) l
end
structure MayCons (p : Option (List UInt8)) (x : Nd) (l : List Nd) : Prop where
 name : nameOk x.name = true
 may : mayN x = true
 rest : mayL (some x.name) l = true
theorem mayL_cons {p : Option (List UInt8)} {x : Nd} {l : List Nd} (h : mayL p (x :: l) = true) : MayCons p x l := by
 rw [mayL] at h
 simp only [Bool.and_eq_true] at h
 exact ⟨h.1.1.1, h.1.1.2, h.2⟩
theorem mayL_all : ∀ {p : Option (List UInt8)} {l : List Nd}, mayL p l = true → ∀ y ∈ l, nameOk y.name = true ∧ mayN y = true
 | p, x :: l, h, y, hy => by
  have := mayL_cons h
  rcases List.mem_cons.1 hy with rfl | hy
  · exact ⟨this.name, this.may⟩
  · exact mayL_all this.rest y hy
 | p, [], h, y, hy => by cases hy
inductive MayCase (x : Nd) : Prop where
 | file (h : x.kind = 1) (hk : x.kids = [])
 | link (h : x.kind = 3) (hk : x.kids = [])
 | dir (h : x.kind = 2) (hk : mayL none x.kids = true)
theorem mayCase {x : Nd} (h : mayN x = true) : MayCase x := by
 rw [mayN_eq] at h
 by_cases h1 : x.kind = 1
 · rw [if_pos h1] at h
   exact .file h1 (List.isEmpty_iff.1 h)
 · rw [if_neg h1] at h
   by_cases h3 : x.kind = 3
   · rw [if_pos h3] at h
     simp only [Bool.and_eq_true] at h
     exact .link h3 (List.isEmpty_iff.1 h.2.1.1.2)
   · rw [if_neg h3] at h
     by_cases h2 : x.kind = 2
     · rw [if_pos h2] at h
       simp only [Bool.and_eq_true] at h
       exact .dir h2 h.1
     · rw [if_neg h2] at h; cases h
end Go.Proofs.YtcbaodegkfokjaaDoor.W
namespace Go.Proofs.YtcbaodegkfokjaaDoor.W
open Go.Proofs.YtcbaodegkfokjaaDoor.Ev
section
variable {s : St}
structure BoxAt (s : St) (b : Nat) (t : List UInt8) : Prop where
 on : s.on = false
 bx : Bx s b 99946 [sv t]
theorem big1 : 1 < big := by unfold big; decide
variable {b : Nat} {t : List UInt8}
theorem BoxAt.ld (h : BoxAt s b t) : ld1 (.ptr b 0) s = some (sv t, s) := Bx.ld1 h.on h.bx 0 (by show 0 < 1; decide) big1
theorem BoxAt.grew {W : Nat → Prop} {u : St} (h : BoxAt s b t) (hb : b < s.next) (hw : ¬ W b) (g : Grew W s u) : BoxAt u b t := ⟨g.on.trans h.on, h.bx.grew hb hw g⟩
end
end Go.Proofs.YtcbaodegkfokjaaDoor.W
namespace Go.Proofs.YtcbaodegkfokjaaDoor.W
open Go.Proofs.YtcbaodegkfokjaaDoor.Ev
theorem Grew.of0 {W : Nat → Prop} {a b : St} (h : Grew (fun _ => False) a b) : Grew W a b := h.mono fun _ _ h => h.elim
end Go.Proofs.YtcbaodegkfokjaaDoor.W
namespace Go.Proofs.YtcbaodegkfokjaaDoor.W
open Go.Proofs.YtcbaodegkfokjaaDoor.Ev
theorem foldl_congr_max {f g : Nd → Nat} : ∀ (l : List Nd) (d : Nat), (∀ y ∈ l, f y = g y) → l.foldl (fun d y => max d (1 + f y)) d = l.foldl (fun d y => max d (1 + g y)) d
 | [], _, _ => rfl
 | y :: l, d, h => by
  simp only [List.foldl_cons]
  rw [h y (List.mem_cons_self ..)]
  exact foldl_congr_max l _ fun z hz => h z (List.mem_cons_of_mem _ hz)
theorem foldl_max_ge {f : Nd → Nat} : ∀ (l : List Nd) (d : Nat), d ≤ l.foldl (fun d y => max d (1 + f y)) d ∧ ∀ y ∈ l, 1 + f y ≤ l.foldl (fun d y => max d (1 + f y)) d
 | [], d => ⟨Nat.le_refl _, fun y h => by cases h⟩
 | x :: l, d => by
  simp only [List.foldl_cons]
  obtain ⟨h1, h2⟩ := foldl_max_ge (f := f) l (max d (1 + f x))
  refine ⟨Nat.le_trans (Nat.le_max_left ..) h1, fun y hy => ?_⟩
  rcases List.mem_cons.1 hy with rfl | hy
  · exact Nat.le_trans (Nat.le_max_right ..) h1
  · exact h2 y hy
theorem deep_dir {m : Nat} {x : Nd} (h2 : x.kind = 2) (hm : m ≠ 0) : deepN (m + 1) x = x.kids.foldl (fun d y => max d (1 + deepN m y)) 1 := by
 rw [deepN, if_neg (by rw [h2]; simp [hm])]
theorem deep_stable : ∀ (m : Nat) (x : Nd), deepN m x < m → deepN (m + 1) x = deepN m x
 | 0, x, h => by omega
 | m + 1, x, h => by
  by_cases h2 : x.kind = 2
  · by_cases hm : m = 0
    · subst hm
      rw [deepN, if_pos (.inr rfl)] at h
      omega
    · rw [deep_dir h2 hm] at h
      rw [deep_dir h2 hm, deep_dir h2 (by omega)]
      exact foldl_congr_max _ _ fun y hy => deep_stable m y (by have := (foldl_max_ge (f := deepN m) x.kids 1).2 y hy; omega)
  · rw [deepN, if_pos (.inl h2), deepN, if_pos (.inl h2)]
theorem deep_stable' {m : Nat} {x : Nd} (h : deepN m x < m) : ∀ k, deepN (m + k) x = deepN m x
 | 0 => rfl
 | k + 1 => by
  have := deep_stable' h k
  rw [show m + (k + 1) = m + k + 1 by omega, deep_stable _ _ (by omega), this]
theorem sizeL_cnt : ∀ (l : List Nd) (a : Int × Int) (c : Nat), a.1 = (c : Int) → (∀ y ∈ l, tooDeepN y = false ∧ (sizeN y).1 = (cntN y : Int)) → c + cntL l < 9223372036854775808 → (sizeL l a).1 = ((c + cntL l : Nat) : Int)
 | [], a, c, ha, _, _ => by rw [sizeL, cntL]; exact ha
 | x :: l, a, c, ha, h, hb => by
  obtain ⟨h1, h2⟩ := h x (List.mem_cons_self ..)
  rw [cntL] at hb ⊢
  rw [sizeL, h1]
  simp only [Bool.false_eq_true, if_false]
  rw [sizeL_cnt l _ (c + cntN x) (by
   show wr (a.1 + (sizeN x).1) = _
   rw [ha, h2]
   show IntKind.i64.wrap _ = _
   rw [wrap_i64 (by omega) (by omega)]; omega) (fun y hy => h y (List.mem_cons_of_mem _ hy)) (by omega)]
  congr 1
  omega
theorem size_cnt : ∀ (m : Nat) (x : Nd), m ≤ 14 → x.ok → mayN x = true → deepN m x < m → deepN m x ≤ 12 → (sizeN x).1 = (cntN x : Int)
 | 0, x, _, _, _, h, _ => by omega
 | m + 1, x, hm, ok, may, h, h12 => by
  have hok := ok.at
  have hcnt := hok.cnt
  rcases mayCase may with ⟨hk, hkids⟩ | ⟨hk, hkids⟩ | ⟨hk, hkids⟩
  · rw [sizeN_eq, cntN_eq, hkids, sizeL, cntL]
    rfl
  · rw [sizeN_eq, cntN_eq, hkids, sizeL, cntL]
    rfl
  · have hm0 : m ≠ 0 := by
     intro h0
     subst h0
     rw [deepN, if_pos (.inr rfl)] at h
     omega
    rw [deep_dir hk hm0] at h h12
    have hkid : ∀ y ∈ x.kids, (sizeN y).1 = (cntN y : Int) ∧ tooDeepN y = false := fun y hy => by
     have hle := (foldl_max_ge (f := deepN m) x.kids 1).2 y hy
     refine ⟨size_cnt m y (by omega) (hok.kids y hy) (mayL_all hkids y hy).2 (by omega) (by omega), ?_⟩
     have hst := deep_stable' (m := m) (x := y) (by omega) (14 - m)
     rw [show m + (14 - m) = 14 by omega] at hst
     unfold tooDeepN
     rw [hst]
     simp; omega
    rw [sizeN_eq, cntN_eq]
    exact sizeL_cnt x.kids _ 1 rfl (fun y hy => ⟨(hkid y hy).2, (hkid y hy).1⟩) (by omega)
theorem check_ok {x : Nd} (ok : x.ok) (h : checkN x = 0) : mayN x = true ∧ cntN x ≤ 2000 := by
 unfold checkN at h
 cases ht : tooDeepN x with
 | true => rw [ht, if_pos rfl] at h; omega
 | false =>
  rw [ht, if_neg (by simp)] at h
  cases hn : (x.name == [] && mayN x) with
  | false => rw [hn, if_neg (by simp)] at h; omega
  | true =>
   rw [hn, if_pos rfl] at h
   rw [Bool.and_eq_true] at hn
   refine ⟨hn.2, ?_⟩
   unfold tooDeepN at ht
   have hd : deepN 14 x ≤ 12 := by simpa using ht
   have hs := size_cnt 14 x (by omega) ok hn.2 (by omega) hd
   have hT : sizeT x = sizeN x := by unfold sizeT tooDeepN; rw [if_neg (by simp; omega)]
   by_cases hb : 2000 < (sizeT x).1
   · rw [decide_eq_true hb, Bool.true_or, if_pos rfl] at h; omega
   · rw [hT, hs] at hb; omega
def magicN : List UInt8 := [119, 104, 105, 115, 107, 45, 116, 114, 101, 101]
def encodeN (x : Nd) : List UInt8 × Int := if checkN x = 0 then if (layN (putText [] magicN) x).length ≤ 60000 then (layN (putText [] magicN) x, 0) else ([], 3) else ([], checkN x)
end Go.Proofs.YtcbaodegkfokjaaDoor.W
